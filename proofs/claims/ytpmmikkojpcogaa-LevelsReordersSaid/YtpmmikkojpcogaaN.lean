/- Levels: the plain laws of validity. -/
import Derived.Test.YtpmmikkojpcogaaM
namespace Go.Proofs.Ytpmmikkojpcogaa
open Go Go.PS Go.Proofs

theorem nodup_le : ∀ {l m : List Int}, l.Nodup → (∀ x, x ∈ l → x ∈ m) → l.length ≤ m.length
  | [], m, _, _ => Nat.zero_le _
  | x :: l, m, hn, hs => by
    have hx : x ∈ m := hs x (by simp)
    have h1 := List.length_erase_of_mem hx
    have h2 : 0 < m.length := List.length_pos_of_mem hx
    have hn2 := List.nodup_cons.1 hn
    have := nodup_le (l := l) (m := m.erase x) hn2.2 (fun y hy => by
      have hne : y ≠ x := fun e => hn2.1 (e ▸ hy)
      exact (List.mem_erase_of_ne hne).2 (hs y (List.mem_cons_of_mem _ hy)))
    simp only [List.length_cons]; omega
def below (c : Nat) : List Int := (List.range c).map fun n : Nat => (n : Int)
theorem below_len (c : Nat) : (below c).length = c := by simp [below]
theorem below_mem {c : Nat} {v : Int} : v ∈ below c ↔ 0 ≤ v ∧ v < c := by
  simp only [below, List.mem_map, List.mem_range]
  constructor
  · rintro ⟨n, h, rfl⟩; omega
  · intro h; exact ⟨v.toNat, by omega, by omega⟩
theorem below_nodup (c : Nat) : (below c).Nodup := by
  refine List.Pairwise.map _ ?_ (List.nodup_range (n := c))
  intro a b h; omega
/-- A list of c different numbers below c holds them all. -/
theorem nodup_all {c : Nat} {l : List Int} (hn : l.Nodup) (hb : ∀ v, v ∈ l → 0 ≤ v ∧ v < c) (hl : l.length = c) (v : Int) (h0 : 0 ≤ v) (h1 : v < c) : v ∈ l := by
  by_cases h : v ∈ l
  · exact h
  · have := nodup_le (l := v :: l) (m := below c) (List.nodup_cons.2 ⟨h, hn⟩) (fun x hx => by
      rcases List.mem_cons.1 hx with rfl | hx
      · exact below_mem.2 ⟨h0, h1⟩
      · exact below_mem.2 (hb x hx))
    rw [below_len, List.length_cons] at this
    omega
theorem layerOf_mem {A : List Int} {k : Nat} {v : Int} : v ∈ layerOf A k ↔ 0 ≤ v ∧ A[v.toNat]? = some (k : Int) := by
  simp only [layerOf, List.mem_map, List.mem_filter, List.mem_range, decide_eq_true_eq]
  constructor
  · rintro ⟨n, ⟨h1, h2⟩, rfl⟩
    exact ⟨by omega, by rw [Int.toNat_natCast]; exact h2⟩
  · rintro ⟨h1, h2⟩
    exact ⟨v.toNat, ⟨(List.getElem?_eq_some_iff.1 h2).1, h2⟩, by omega⟩
theorem layerOf_sorted (A : List Int) (k : Nat) : (layerOf A k).Pairwise (· < ·) := by
  refine List.Pairwise.map (R := (· < ·)) _ ?_ ((List.pairwise_lt_range (n := A.length)).filter _)
  intro a b h; omega
theorem layersN_get {A : List Int} {M k : Nat} (h : k < M) : (layersN A M)[k]? = some (layerOf A k) := by simp [layersN, h]
section layers
variable {A : List Int} {M : Nat}
theorem layers_flat (hA : ∀ n : Nat, n < A.length → 0 ≤ at0 A n ∧ at0 A n < M) {v : Int} : v ∈ (layersN A M).flatten ↔ 0 ≤ v ∧ v < A.length := by
  simp only [layersN, List.mem_flatten, List.mem_map, List.mem_range]
  constructor
  · rintro ⟨y, ⟨k, hk, rfl⟩, hv⟩
    obtain ⟨h1, h2⟩ := layerOf_mem.1 hv
    have := (List.getElem?_eq_some_iff.1 h2).1
    omega
  · rintro ⟨h1, h2⟩
    have h3 := hA v.toNat (by omega)
    refine ⟨_, ⟨(at0 A v.toNat).toNat, by omega, rfl⟩, layerOf_mem.2 ⟨h1, ?_⟩⟩
    rw [at0_at (by omega)]
    congr 1; omega
theorem layers_nodup : (layersN A M).flatten.Nodup := by
  refine List.pairwise_flatten.2 ⟨fun y hy => ?_, ?_⟩
  · obtain ⟨k, _, rfl⟩ := List.mem_map.1 hy
    exact (layerOf_sorted A k).imp (fun h => by omega)
  · refine List.Pairwise.map _ ?_ (List.pairwise_lt_range (n := M))
    intro a b h x hx y hy e
    subst e
    have h1 := (layerOf_mem.1 hx).2
    rw [(layerOf_mem.1 hy).2, Option.some.injEq] at h1
    omega
theorem layers_tot (hA : ∀ n : Nat, n < A.length → 0 ≤ at0 A n ∧ at0 A n < M) : tot (layersN A M) = A.length := by
  rw [← tot_flat]
  have h1 := nodup_le (l := (layersN A M).flatten) (m := below A.length) layers_nodup (fun x hx => below_mem.2 ((layers_flat hA).1 hx))
  have h2 := nodup_le (l := below A.length) (m := (layersN A M).flatten) (below_nodup _) (fun x hx => (layers_flat hA).2 (below_mem.1 hx))
  rw [below_len] at h1 h2
  omega
theorem layers_lay (hA : ∀ n : Nat, n < A.length → 0 ≤ at0 A n ∧ at0 A n < M) {n : Nat} (h : n < A.length) : layI (layersN A M) n = at0 A n := by
  have h3 := hA n h
  have hk : (layersN A M)[(at0 A n).toNat]? = some (layerOf A (at0 A n).toNat) := layersN_get (by omega)
  have hm : ((n : Nat) : Int) ∈ layerOf A (at0 A n).toNat := layerOf_mem.2 ⟨by omega, by rw [Int.toNat_natCast, at0_at h]; congr 1; omega⟩
  rw [layI, findIdx_at hk (List.any_eq_true.2 ⟨_, hm, by simp⟩)]
  · show (((at0 A n).toNat : Nat) : Int) = _; omega
  · intro j y hj hy
    rw [layersN_get (by omega)] at hy
    cases hy
    rw [List.any_eq_false]
    intro x hx hxn
    have : x = n := by simpa using hxn
    subst this
    have h4 := (layerOf_mem.1 hx).2
    rw [Int.toNat_natCast, at0_at h, Option.some.injEq] at h4
    omega
theorem layers_good (hA : ∀ n : Nat, n < A.length → 0 ≤ at0 A n ∧ at0 A n < M) : good A.length (layersN A M) = true := by
  rw [good_iff]
  exact ⟨fun v hv => (layers_flat hA).1 hv, layers_nodup⟩
theorem layers_row (hA : ∀ n : Nat, n < A.length → 0 ≤ at0 A n ∧ at0 A n < M) : rowR A.length (layersN A M) = A := by
  refine List.ext_getElem? fun u => ?_
  by_cases hu : u < A.length
  · rw [rowR_get hu, layers_lay hA hu, at0_at hu]
  · rw [List.getElem?_eq_none (by rw [rowR_len]; omega), List.getElem?_eq_none (by omega)]
end layers
/-- Sorting the layers changes none of these. -/
theorem sort_flat (ls : List (List Int)) : (ls.map sortL).flatten.Perm ls.flatten := by
  induction ls with
  | nil => exact .refl _
  | cons y ls ih => simp only [List.map_cons, List.flatten_cons]; exact (sortL_perm y).append ih
theorem sort_tot (ls : List (List Int)) : tot (ls.map sortL) = tot ls := by
  rw [← tot_flat, ← tot_flat]; exact (sort_flat ls).length_eq
theorem sort_lay (ls : List (List Int)) (v : Int) : layI (ls.map sortL) v = layI ls v := by
  rw [layI, layI, List.findIdx?_map]
  congr 2
  funext y
  show (sortL y).any _ = y.any _
  rw [Bool.eq_iff_iff, List.any_eq_true, List.any_eq_true]
  constructor
  · rintro ⟨x, h1, h2⟩; exact ⟨x, (sortL_perm y).mem_iff.1 h1, h2⟩
  · rintro ⟨x, h1, h2⟩; exact ⟨x, (sortL_perm y).mem_iff.2 h1, h2⟩
theorem sort_good (c : Nat) (ls : List (List Int)) : good c (ls.map sortL) = good c ls := by
  rw [Bool.eq_iff_iff, good_iff, good_iff, (sort_flat ls).nodup_iff]
  constructor
  · rintro ⟨h1, h2⟩; exact ⟨fun v hv => h1 v ((sort_flat ls).mem_iff.2 hv), h2⟩
  · rintro ⟨h1, h2⟩; exact ⟨fun v hv => h1 v ((sort_flat ls).mem_iff.1 hv), h2⟩
theorem sort_row (c : Nat) (ls : List (List Int)) : rowR c (ls.map sortL) = rowR c ls := by simp only [rowR, sort_lay]
theorem sort_ranks (ls : List (List Int)) : ranksF (ls.map sortL) = ranksF ls := by
  rw [ranksF, ranksF, List.length_map, sort_tot, sort_good, sort_row]
/-- What a build without error is. -/
def highN (g : Gr) (r : List Int) : Nat := if g.1 = 0 then 0 else (maxN r (r.length - 1) + 1).toNat
structure Built (g : Gr) (r : List Int) : Prop where
  eq : buildF g r = (madeF g r, 0)
  gok : gOk g = true
  len : (r.length : Int) = g.1
  rk : ∀ v : Nat, 0 ≤ at0 r v ∧ at0 r v ≤ 255
  loop : ∀ a, a ∈ g.2 → a.1 ≠ a.2
  gap : ∀ (k : Nat) a, g.2[k]? = some a → 0 ≤ at0 r a.2 - at0 r a.1 - 1
  big : g.1 + sumG r g.2 g.2.length ≤ 512
theorem built {g : Gr} {r : List Int} (h : (buildF g r).2 = 0) : Built g r := by
  rw [buildF] at h
  split at h
  · cases h
  · rename_i h1
    have h1 : ranksOk g r = true := by simpa using h1
    obtain ⟨g1, g2, g3, g4⟩ := ranksOk_in h1
    split at h
    · cases h
    · rename_i h2
      split at h
      · cases h
      · rename_i h3
        split at h
        · cases h
        · rename_i h4
          refine ⟨?_, g1, g2, g4, fun a ha => ?_, fun k a ha => ?_, by omega⟩
          · rw [buildF, h1, if_neg (by decide), if_neg h2, if_neg h3, if_neg h4]
          · have := List.any_eq_false.1 (Bool.eq_false_iff.2 h2) a ha
            simpa [loopF] using this
          · have := List.any_eq_false.1 (Bool.eq_false_iff.2 h3) a (List.mem_of_getElem? ha)
            rw [upward, decide_eq_true_eq] at this; omega
theorem made_layers (g : Gr) (r : List Int) : (madeF g r).2.1 = layersN (allR r g.2 g.2.length) (highN g r) := by
  rw [madeF, highN]
  split
  · rfl
  · rfl
theorem at0_mem {l : List Int} {P : Int → Prop} (h : ∀ x, x ∈ l → P x) (n : Nat) (hn : n < l.length) : P (at0 l n) := h _ (List.mem_of_getElem? (at0_at hn))
namespace Built
variable {g : Gr} {r : List Int}
theorem ends (b : Built g r) {k : Nat} {a : Arc} (h : g.2[k]? = some a) : 0 ≤ a.1 ∧ a.1 < g.1 ∧ 0 ≤ a.2 ∧ a.2 < g.1 := (gOk_in b.gok).2.2.2 k a h
theorem high (b : Built g r) (hp : 0 < r.length) : (highN g r : Int) = maxN r (r.length - 1) + 1 := by
  have h1 := maxN_ge r (r.length - 1) 0 (by omega)
  have h2 := b.rk 0
  have h3 := b.len
  rw [highN, if_neg (by omega)]; omega
theorem high_le (b : Built g r) : highN g r ≤ 256 := by
  have h2 := maxN_le (fun j => (b.rk j).2) (r.length - 1)
  rw [highN]
  split <;> omega
theorem rk_lt (b : Built g r) {n : Nat} (h : n < r.length) : at0 r n < highN g r := by
  have := maxN_ge r (r.length - 1) n (by omega)
  rw [b.high (by omega)]; omega
theorem vals (b : Built g r) : ∀ n : Nat, n < (allR r g.2 g.2.length).length → 0 ≤ at0 (allR r g.2 g.2.length) n ∧ at0 (allR r g.2 g.2.length) n < highN g r := by
  refine fun n hn => at0_mem (P := fun x => 0 ≤ x ∧ x < highN g r) ?_ n hn
  intro x hx
  rw [allR, List.take_length, List.mem_append] at hx
  rcases hx with hx | hx
  · obtain ⟨k, hk⟩ := List.getElem?_of_mem hx
    have hkl := (List.getElem?_eq_some_iff.1 hk).1
    rw [at0_at hkl] at hk
    cases hk
    exact ⟨(b.rk k).1, b.rk_lt hkl⟩
  · obtain ⟨a, ha, hx⟩ := List.mem_flatMap.1 hx
    obtain ⟨k, hk⟩ := List.getElem?_of_mem ha
    have he := b.ends hk
    have hg := b.gap k a hk
    have hl := b.len
    have h1 := b.rk a.1.toNat
    have h2 := b.rk_lt (n := a.2.toNat) (by omega)
    rw [show ((a.1.toNat : Nat) : Int) = a.1 by omega] at h1
    rw [show ((a.2.toNat : Nat) : Int) = a.2 by omega] at h2
    simp only [news, List.mem_map, List.mem_range] at hx
    obtain ⟨j, hj, rfl⟩ := hx
    rw [gapN] at hj
    omega
theorem all_len (b : Built g r) : (allR r g.2 g.2.length).length ≤ 512 := by
  have h1 := allR_le b.gap g.2.length (Nat.le_refl _)
  have h2 := b.len
  have h3 := b.big
  omega
theorem all_ge (b : Built g r) : r.length ≤ (allR r g.2 g.2.length).length := by simp [allR]
theorem all_take (b : Built g r) : (allR r g.2 g.2.length).take r.length = r := by simp [allR]
theorem ranks (b : Built g r) : ranksF (madeF g r).2.1 = some (allR r g.2 g.2.length) := by
  have hv := b.vals
  have hl := b.all_len
  rw [made_layers, ranksF, layersN_len, layers_tot hv, if_neg (by have := b.high_le; omega), layers_good hv, if_pos rfl, layers_row hv]
end Built
theorem valid_head {a : Lv} (h : validF a = true) : headOk a = true ∧ a.2.2.2.any shortC = false ∧ foundOk a = true ∧ (buildF (srcG a) (ranksV a)).2 = 0 ∧ sortLv a = (buildF (srcG a) (ranksV a)).1 := by
  simp only [validF, Bool.and_eq_true, Bool.not_eq_true', decide_eq_true_eq, sameLv_iff] at h
  obtain ⟨⟨⟨⟨h1, h2⟩, h3⟩, h4⟩, h5⟩ := h
  exact ⟨h1, h2, h3, h4, h5⟩
/-- Of valid levels: what they are built from. -/
theorem valid_built {a : Lv} (h : validF a = true) : Built (srcG a) (ranksV a) ∧ sortLv a = madeF (srcG a) (ranksV a) ∧ ranksF a.2.1 = some (allR (ranksV a) (srcG a).2 (srcG a).2.length) := by
  obtain ⟨h1, h2, h3, h4, h5⟩ := valid_head h
  have b := built h4
  rw [b.eq] at h5
  refine ⟨b, h5, ?_⟩
  rw [← sort_ranks]
  have : a.2.1.map sortL = (madeF (srcG a) (ranksV a)).2.1 := congrArg (fun x : Lv => x.2.1) h5
  rw [this, b.ranks]
theorem valid_source {a : Lv} (h : validF a = true) : sourceF a = (srcG a, ranksV a, true) := by
  obtain ⟨h1, h2, h3, h4, h5⟩ := valid_head h
  obtain ⟨b, hm, hr⟩ := valid_built h
  simp only [headOk, decide_eq_true_eq] at h1
  have hl := b.len
  have hge := b.all_ge
  have e1 : (srcG a).1 = a.1 := rfl
  rw [sourceF, hr]
  dsimp only
  rw [if_pos]
  · have := b.all_take
    rw [show a.1.toNat = (ranksV a).length by omega, this]
  · simp only [sourceOk, Bool.and_eq_true, decide_eq_true_eq, h2, Bool.not_false, and_true]
    omega
theorem source_ok {a : Lv} (h : (sourceF a).2.2 = true) : ∃ o, ranksF a.2.1 = some o ∧ sourceOk a o = true ∧ sourceF a = (srcG a, o.take a.1.toNat, true) := by
  rw [sourceF] at h ⊢
  split at h
  · cases h
  · rename_i o ho
    split at h
    · rename_i hs
      refine ⟨o, ho, hs, ?_⟩
      rw [if_pos hs]
    · cases h
theorem ranks_ok {ls : List (List Int)} {o : List Int} (h : ranksF ls = some o) : ls.length ≤ 256 ∧ tot ls ≤ 512 ∧ good (tot ls) ls = true ∧ o = rowR (tot ls) ls := by
  rw [ranksF] at h
  split at h
  · cases h
  · split at h
    · cases h; exact ⟨by omega, by omega, by assumption, rfl⟩
    · cases h
theorem good_all {ls : List (List Int)} (h : good (tot ls) ls = true) {v : Int} (h0 : 0 ≤ v) (h1 : v < tot ls) : 0 ≤ layI ls v := by
  rw [good_iff] at h
  exact layI_mem.2 (nodup_all h.2 h.1 (tot_flat ls) v h0 h1)
/-- Both say the same of all levels. -/
theorem valid_same (a : Lv) : validF a = rValidF a := by
  rw [Bool.eq_iff_iff]
  constructor
  · intro h
    have hs := valid_source h
    obtain ⟨h1, h2, h3, h4, h5⟩ := valid_head h
    rw [rValidF, hs]
    simp only [h4, h5, Bool.true_and, sameLv_iff, decide_true, and_self]
  · intro h
    simp only [rValidF, Bool.and_eq_true, decide_eq_true_eq, sameLv_iff] at h
    obtain ⟨⟨h1, h2⟩, h3⟩ := h
    obtain ⟨o, ho, hso, hsf⟩ := source_ok h1
    obtain ⟨t1, t2, t3, rfl⟩ := ranks_ok ho
    simp only [sourceOk, Bool.and_eq_true, decide_eq_true_eq, Bool.not_eq_true', rowR_len] at hso
    obtain ⟨⟨s1, s2, s3, s4⟩, s5⟩ := hso
    have hrv : (rowR (tot a.2.1) a.2.1).take a.1.toNat = ranksV a := by
      rw [rowR, ← List.map_take, List.take_range, Nat.min_eq_left (by omega), ranksV]
    rw [hsf, hrv] at h2 h3
    dsimp only at h2 h3
    have hfo : foundOk a = true := by
      rw [foundOk, Bool.not_eq_true', List.any_eq_false]
      intro v hv
      have := good_all t3 (v := v) (by omega) (by have := List.mem_range.1 hv; omega)
      simp only [lostV, decide_eq_true_eq]; omega
    simp only [validF, headOk, s5, hfo, h2, h3, sameLv_iff, Bool.and_eq_true, decide_eq_true_eq, Bool.not_false, and_true, decide_true]
    omega
end Go.Proofs.Ytpmmikkojpcogaa
