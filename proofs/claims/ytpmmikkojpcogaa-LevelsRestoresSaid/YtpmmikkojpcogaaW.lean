/- The law of proper levels. -/
import Derived.Test.YtpmmikkojpcogaaU
namespace Go.Proofs.Ytpmmikkojpcogaa
open Go Go.PS Go.Proofs
set_option maxRecDepth 100000
set_option linter.unusedSimpArgs false
set_option linter.unusedVariables false
attribute [local irreducible] wpRun wpG CallsTo CallsM

theorem at0_left {l m : List Int} {n : Nat} (h : n < l.length) : at0 (l ++ m) n = at0 l n := by
  rw [at0, at0, Int.toNat_natCast, List.getElem?_append_left h]
theorem allR_pre (r : List Int) (l : List Arc) {e m : Nat} (h : e ≤ m) : ∃ x, allR r l m = allR r l e ++ x := by
  refine ⟨((l.drop e).take (m - e)).flatMap fun a => news r a (gapN r a), ?_⟩
  rw [allR, allR, List.append_assoc, ← List.flatMap_append]
  congr 2
  obtain ⟨k, rfl⟩ : ∃ k, m = e + k := ⟨m - e, by omega⟩
  rw [List.take_add, Nat.add_sub_cancel_left]
theorem arcsF_pre (r : List Int) (l : List Arc) (e : Nat) : ∀ k, ∃ x, arcsF r l (e + k) = arcsF r l e ++ x
  | 0 => ⟨[], by simp⟩
  | k + 1 => by
    obtain ⟨x, hx⟩ := arcsF_pre r l e k
    refine ⟨x ++ arcsAt r l (e + k), ?_⟩
    rw [← List.append_assoc, ← hx]; rfl
theorem arcsF_succ {r : List Int} {l : List Arc} {e : Nat} {a : Arc} (ha : l[e]? = some a) : arcsF r l (e + 1) = arcsF r l e ++ pairsN (chainOf r (allR r l e).length a) (gapN r a + 1) := by
  rw [arcsF, catN, arcsAt, ha]; rfl
/-- Arc j of chain e. -/
theorem arcsF_get {r : List Int} {l : List Arc} {e j : Nat} {a : Arc} (ha : l[e]? = some a) (hj : j < gapN r a + 1) : (arcsF r l l.length)[(arcsF r l e).length + j]? = some (pairAt (chainOf r (allR r l e).length a) j) := by
  have hel := (List.getElem?_eq_some_iff.1 ha).1
  obtain ⟨x, hx⟩ := arcsF_pre r l (e + 1) (l.length - (e + 1))
  rw [show e + 1 + (l.length - (e + 1)) = l.length by omega] at hx
  have hp : (pairsN (chainOf r (allR r l e).length a) (gapN r a + 1))[j]? = some (pairAt (chainOf r (allR r l e).length a) j) := by simp [pairsN, hj]
  rw [hx, arcsF_succ ha, List.append_assoc, List.getElem?_append_right (by omega), Nat.add_sub_cancel_left, List.getElem?_append_left (by rw [pairsN_len]; exact hj), hp]
theorem chainOf_first (r : List Int) (n0 : Nat) (a : Arc) : at0 (chainOf r n0 a) ((0 : Nat) : Int) = a.1 := rfl
theorem chainOf_mid {r : List Int} {n0 : Nat} {a : Arc} {j : Nat} (h : j < gapN r a) : at0 (chainOf r n0 a) ((j + 1 : Nat) : Int) = ((n0 + j : Nat) : Int) := by
  rw [chainOf, at0_left (by rw [chainUp_len]; omega), at0, Int.toNat_natCast, chainUp, List.getElem?_cons_succ]
  simp [h]
theorem chainOf_last (r : List Int) (n0 : Nat) (a : Arc) : at0 (chainOf r n0 a) ((gapN r a + 1 : Nat) : Int) = a.2 := by
  rw [at0, Int.toNat_natCast, chainOf, List.getElem?_append_right (by rw [chainUp_len]; exact Nat.le_refl _), chainUp_len, Nat.sub_self]; rfl
namespace Built
variable {g : Gr} {r : List Int}
/-- The vertices of a chain, and their ranks. -/
theorem chain_at (b : Built g r) {e j : Nat} {a : Arc} (ha : g.2[e]? = some a) (hj : j ≤ gapN r a + 1) :
    0 ≤ at0 (chainOf r (allR r g.2 e).length a) j ∧ at0 (chainOf r (allR r g.2 e).length a) j < (allR r g.2 g.2.length).length ∧ at0 (allR r g.2 g.2.length) (at0 (chainOf r (allR r g.2 e).length a) j) = at0 r a.1 + j := by
  have hel := (List.getElem?_eq_some_iff.1 ha).1
  have he := b.ends ha
  have hg := b.gap e a ha
  have hl := b.len
  have hge := b.all_ge
  obtain ⟨x, hx⟩ := allR_pre r g.2 (show 0 ≤ g.2.length by omega)
  have h0 : allR r g.2 0 = r := by simp [allR]
  rw [h0] at hx
  have hpre : ∀ v : Int, 0 ≤ v → v < g.1 → at0 (allR r g.2 g.2.length) v = at0 r v := fun v h1 h2 => by
    obtain ⟨n, rfl⟩ : ∃ n : Nat, v = n := ⟨v.toNat, by omega⟩
    rw [hx, at0_left (by omega)]
  rcases Nat.eq_zero_or_pos j with rfl | h1
  · rw [chainOf_first, hpre _ he.1 he.2.1]
    omega
  · obtain ⟨j, rfl⟩ : ∃ i, j = i + 1 := ⟨j - 1, by omega⟩
    rcases Nat.lt_or_ge j (gapN r a) with h2 | h2
    · rw [chainOf_mid h2]
      obtain ⟨y, hy⟩ := allR_pre r g.2 (show e + 1 ≤ g.2.length by omega)
      rw [allR_succ ha] at hy
      have hlen := congrArg List.length hy
      simp only [List.length_append, news_len] at hlen
      refine ⟨by omega, by omega, ?_⟩
      rw [hy, at0_left (by rw [List.length_append, news_len]; omega), at0, Int.toNat_natCast, List.getElem?_append_right (by omega), Nat.add_sub_cancel_left]
      simp only [news, List.getElem?_map, List.getElem?_range h2, Option.map_some, Option.getD_some]
      omega
    · have hj2 : j = gapN r a := by omega
      subst hj2
      rw [chainOf_last, hpre _ he.2.2.1 he.2.2.2]
      have hgn : (gapN r a : Int) = at0 r a.2 - at0 r a.1 - 1 := by rw [gapN]; omega
      omega
end Built
end Go.Proofs.Ytpmmikkojpcogaa
