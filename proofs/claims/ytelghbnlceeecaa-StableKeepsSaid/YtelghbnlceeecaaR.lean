/- The reference's Reorder; reordered levels are valid; the laws' awake. -/
import Derived.Test.YtelghbnlceeecaaL
set_option linter.unusedSimpArgs false
set_option linter.unusedVariables false
namespace Go.Proofs.Ytelghbnlceeecaa
open Go Go.PS Go.Proofs
set_option maxRecDepth 100000
attribute [local irreducible] wpRun wpG CallsTo CallsM

set_option maxHeartbeats 4000000 in
theorem rReorder_spec (a : Lv) (i : Int) (o : List Int) (hw : wide a) (ho : o.length ≤ 600) : CallsTo Try.prog 59 [lvD a, .int i, intsD o] (.tup [lvD (reorderF a i o).1, .int (reorderF a i o).2]) := by
  have hv := rLvValid_spec a hw
  rw [← valid_same] at hv
  rw [reorderF]
  rcases h : validF a with _ | _ <;> rw [h] at hv
  · rw [if_pos rfl]
    refine callsTo_of Try.func59 rfl (by decide +kernel) (Nat.le_of_ble_eq_true rfl) ?_
    intro hat B X w0
    repeat' first | refine pw_seq ?_ | refine pw_skip ?_ | refine pw_ret ?_ | refine pw_exit ?_ | refine pw_block ?_ | refine pw_region (fun _ => false) hmix ?_ | (refine rc (hv) rfl ?_ ?_; (· first | rfl | (simp (disch := omega) only [go_sem, simprocAttr, List.append_eq]; done))) | (refine wpG_split rfl rfl (fun hc => ?_) (fun hc => ?_) <;> try simp only [hcL, reduceCtorEq] at hc) | (refine pw_cond _ rfl rfl (fun hc => ?_) (fun hc => ?_) <;> (try simp only [hcL, reduceCtorEq] at hc) <;> try (exfalso; omega)) | simp (maxSteps := 1000000) (disch := omega) only [go_sem, simprocAttr, List.append_eq] | apply And.intro | omega | decide +kernel
    refine ⟨_, rfl, ⟨_, _, _, _, rfl, ?_⟩, int_some ?_, trivial⟩
    · simp (maxSteps := 1000000) (disch := omega) only [go_sem, simprocAttr, toD]
      rfl
    · rfl
  · rw [if_neg (by decide)]
    obtain ⟨t1, t2⟩ := lv_le h
    by_cases hi : i < 0 ∨ (a.2.1.length : Int) ≤ i
    · rw [if_pos hi]
      obtain ⟨n, ls, ar, cs⟩ := a
      dsimp only at hi t1
      refine callsTo_of Try.func59 rfl (by decide +kernel) (Nat.le_of_ble_eq_true rfl) ?_
      intro hat B X w0
      repeat' first | refine pw_seq ?_ | refine pw_skip ?_ | refine pw_ret ?_ | refine pw_exit ?_ | refine pw_block ?_ | refine pw_region (fun _ => false) hmix ?_ | (refine rc (hv) rfl ?_ ?_; (· first | rfl | (simp (disch := omega) only [go_sem, simprocAttr, List.append_eq]; done))) | (refine wpG_split rfl rfl (fun hc => ?_) (fun hc => ?_) <;> try simp only [hcL, reduceCtorEq] at hc) | (refine pw_cond _ rfl rfl (fun hc => ?_) (fun hc => ?_) <;> (try simp only [hcL, reduceCtorEq] at hc) <;> try (exfalso; omega)) | simp (maxSteps := 1000000) (disch := omega) only [go_sem, simprocAttr, List.append_eq] | apply And.intro | omega | decide +kernel
      all_goals
        refine ⟨_, rfl, ⟨_, _, _, _, rfl, ?_⟩, int_some ?_, trivial⟩
        · simp (maxSteps := 1000000) (disch := omega) only [go_sem, simprocAttr, toD]
          rfl
        · rfl
    · rw [if_neg hi]
      obtain ⟨y, hy⟩ := get_some (l := a.2.1) (k := i.toNat) (by omega)
      have hyl := tot_mem (List.mem_of_getElem? hy)
      rw [hy, Option.getD_some]
      have hs1 := rSort_spec o (by omega)
      have hs2 := rSort_spec y (by omega)
      have he := sameI_spec (sortL o) (sortL y)
      obtain ⟨n, ls, ar, cs⟩ := a
      dsimp only at hi t1 hy hyl t2
      by_cases hso : sortL o = sortL y
      · rw [if_neg (by simpa using hso)]
        rw [decide_eq_true hso] at he
        have hlen : o.length = y.length := by rw [← sortL_len o, hso, sortL_len]
        obtain ⟨p, rfl⟩ : ∃ p : Nat, i = p := ⟨i.toNat, by omega⟩
        rw [Int.toNat_natCast] at hy ⊢
        refine callsTo_of Try.func59 rfl (by decide +kernel) (Nat.le_of_ble_eq_true rfl) ?_
        intro hat B X w0
        repeat' first | refine pw_seq ?_ | refine pw_skip ?_ | refine pw_ret ?_ | refine pw_exit ?_ | refine pw_block ?_ | refine pw_region (fun _ => false) hmix ?_ | (refine rc (hv) rfl ?_ ?_; (· first | rfl | (simp (disch := omega) only [go_sem, simprocAttr, List.append_eq, hy, hlen]; done))) | (refine rc (hs1) rfl ?_ ?_; (· first | rfl | (simp (disch := omega) only [go_sem, simprocAttr, List.append_eq, hy, hlen]; done))) | (refine rc (hs2) rfl ?_ ?_; (· first | rfl | (simp (disch := omega) only [go_sem, simprocAttr, List.append_eq, hy, hlen]; done))) | (refine rc (he) rfl ?_ ?_; (· first | rfl | (simp (disch := omega) only [go_sem, simprocAttr, List.append_eq, hy, hlen]; done))) | (refine wpG_split rfl rfl (fun hc => ?_) (fun hc => ?_) <;> try simp only [hcL, reduceCtorEq] at hc) | (refine pw_cond _ rfl rfl (fun hc => ?_) (fun hc => ?_) <;> (try simp only [hcL, reduceCtorEq] at hc) <;> try (exfalso; omega)) | simp (maxSteps := 1000000) (disch := omega) only [go_sem, simprocAttr, List.append_eq, hy, hlen] | apply And.intro | omega | decide +kernel
        refine pw_ent _ (ent_nilC 8 1 901 1 rfl rfl rfl) ?_
        refine pw_loopI (κ := Nat) (fun (k : Nat) => k ≤ ls.length) (fun (k : Nat) => [(1, .int p), (2, .d (intsD o)), (3, .ptr 3 0 0 0), (6, .ptr 6 0 0 0), (8, .ptr 8 0 0 0), (9, .int k)]) (fun (k : Nat) => [(3, .cells [.int n, .d (listsD ls), .d (arcsD ar), .d (listsD cs)]), (6, .cells [.int 0, .nilS, .nilS, .nilS]), (8, .cells [.int n, .ref 901 1 0 k k, .d (arcsD ar), .d (listsD cs)]), (901, .row 1 (((ls.set p o).take k).map intsD))]) (fun (k : Nat) => ls.length - k) 0 ?_ ?_ ?_
        · exact Nat.zero_le _
        · exact eL [] _ _ (by refine ⟨?_, ?_⟩ <;> (repeat' first | exact List.forall_mem_nil _ | refine List.forall_mem_cons.2 ⟨(by first | rfl | (simp (disch := omega) only [go_sem, simprocAttr, inL, List.take_zero, List.map_nil]; first | done | omega | (congr 1; done))), ?_⟩); done)
        · intro k hk
          have hlk : (((ls.set p o).take k).map intsD).length = k := by rw [List.length_map, List.length_take, List.length_set]; omega
          have htk : List.take k (((ls.set p o).take k).map intsD) = ((ls.set p o).take k).map intsD := List.take_of_length_le (by rw [hlk]; exact Nat.le_refl _)
          rcases Nat.lt_or_ge k ls.length with hlt | hge
          · obtain ⟨q, hq⟩ := get_some hlt
            by_cases hkp : k = p
            · subst hkp
              have hts := take_snoc (l := ls.set k o) (k := k) (x := o) (by rw [List.getElem?_set, if_pos rfl, if_pos hlt])
              repeat' first | refine pw_seq ?_ | refine pw_skip ?_ | refine pw_ret ?_ | refine pw_exit ?_ | refine pw_block ?_ | refine pw_region (fun _ => false) hmix ?_ | (refine wpG_split rfl rfl (fun hc => ?_) (fun hc => ?_) <;> try simp only [hcL, reduceCtorEq] at hc) | (refine pw_cond _ rfl rfl (fun hc => ?_) (fun hc => ?_) <;> (try simp only [hcL, reduceCtorEq] at hc) <;> try (exfalso; omega)) | simp (maxSteps := 1000000) (disch := omega) only [go_sem, simprocAttr, hq, hlk, roomy] | apply And.intro | omega | decide +kernel
              refine ⟨k + 1, ?_, eL [(901, 67)] _ _ (by refine ⟨?_, ?_⟩ <;> (repeat' first | exact List.forall_mem_nil _ | refine List.forall_mem_cons.2 ⟨(by first | rfl | (simp (disch := omega) only [go_sem, simprocAttr, inL, hts, List.map_append, htk]; first | done | omega | (congr 1; done))), ?_⟩); done), ?_⟩
              · omega
              · omega
            · have hts := take_snoc (l := ls.set p o) (k := k) (x := q) (by rw [List.getElem?_set, if_neg (by omega), hq])
              have hkp2 : ¬ (k : Int) = p := by omega
              repeat' first | refine pw_seq ?_ | refine pw_skip ?_ | refine pw_ret ?_ | refine pw_exit ?_ | refine pw_block ?_ | refine pw_region (fun _ => false) hmix ?_ | (refine wpG_split rfl rfl (fun hc => ?_) (fun hc => ?_) <;> try simp only [hcL, reduceCtorEq] at hc) | (refine pw_cond _ rfl rfl (fun hc => ?_) (fun hc => ?_) <;> (try simp only [hcL, reduceCtorEq] at hc) <;> try (exfalso; omega)) | simp (maxSteps := 1000000) (disch := omega) only [go_sem, simprocAttr, hq, hlk, roomy, hkp2] | apply And.intro | omega | decide +kernel
              refine ⟨k + 1, ?_, eL [(901, 77)] _ _ (by refine ⟨?_, ?_⟩ <;> (repeat' first | exact List.forall_mem_nil _ | refine List.forall_mem_cons.2 ⟨(by first | rfl | (simp (disch := omega) only [go_sem, simprocAttr, inL, hts, List.map_append, htk]; first | done | omega | (congr 1; done))), ?_⟩); done), ?_⟩
              · omega
              · omega
          · have : k = ls.length := by omega
            subst this
            repeat' first | refine pw_seq ?_ | refine pw_skip ?_ | refine pw_ret ?_ | refine pw_exit ?_ | refine pw_block ?_ | refine pw_region (fun _ => false) hmix ?_ | (refine wpG_split rfl rfl (fun hc => ?_) (fun hc => ?_) <;> try simp only [hcL, reduceCtorEq] at hc) | (refine pw_cond _ rfl rfl (fun hc => ?_) (fun hc => ?_) <;> (try simp only [hcL, reduceCtorEq] at hc) <;> try (exfalso; omega)) | simp (maxSteps := 1000000) (disch := omega) only [go_sem, simprocAttr] | apply And.intro | omega | decide +kernel
            refine ⟨_, rfl, ⟨_, _, _, _, rfl, ?_⟩, int_some rfl, trivial⟩
            have htl : (ls.set p o).take ls.length = ls.set p o := List.take_of_length_le (by rw [List.length_set]; exact Nat.le_refl _)
            simp (maxSteps := 1000000) (disch := omega) only [go_sem, simprocAttr, toD, htl, List.length_map, List.length_set, Nat.le_refl, List.drop_zero]
            rw [List.take_of_length_le (by rw [List.length_map, List.length_set]; exact Nat.le_refl _)]
      · rw [if_pos (by simpa using hso)]
        rw [decide_eq_false hso] at he
        by_cases hlen : o.length = y.length
        all_goals
          refine callsTo_of Try.func59 rfl (by decide +kernel) (Nat.le_of_ble_eq_true rfl) ?_
          intro hat B X w0
          have hol := at_len 2 hat rfl
          rw [List.length_map] at hol
          repeat' first | refine pw_seq ?_ | refine pw_skip ?_ | refine pw_ret ?_ | refine pw_exit ?_ | refine pw_block ?_ | refine pw_region (fun _ => false) hmix ?_ | (refine rc (hv) rfl ?_ ?_; (· first | rfl | (simp (disch := omega) only [go_sem, simprocAttr, List.append_eq, hy, hlen]; done))) | (refine rc (hs1) rfl ?_ ?_; (· first | rfl | (simp (disch := omega) only [go_sem, simprocAttr, List.append_eq, hy, hlen]; done))) | (refine rc (hs2) rfl ?_ ?_; (· first | rfl | (simp (disch := omega) only [go_sem, simprocAttr, List.append_eq, hy, hlen]; done))) | (refine rc (he) rfl ?_ ?_; (· first | rfl | (simp (disch := omega) only [go_sem, simprocAttr, List.append_eq, hy, hlen]; done))) | (refine wpG_split rfl rfl (fun hc => ?_) (fun hc => ?_) <;> try simp only [hcL, reduceCtorEq] at hc) | (refine pw_cond _ rfl rfl (fun hc => ?_) (fun hc => ?_) <;> (try simp only [hcL, reduceCtorEq] at hc) <;> try (exfalso; omega)) | simp (maxSteps := 1000000) (disch := omega) only [go_sem, simprocAttr, List.append_eq, hy, hlen] | apply And.intro | omega | decide +kernel
          all_goals
            refine ⟨_, rfl, ⟨_, _, _, _, rfl, ?_⟩, int_some ?_, trivial⟩
            · simp (maxSteps := 1000000) (disch := omega) only [go_sem, simprocAttr, toD]
              rfl
            · rfl
/-- Validity does not hang on the order in the layers. -/
theorem valid_sort {a b : Lv} (h : sortLv a = sortLv b) : validF a = validF b := by
  obtain ⟨n, ls, ar, cs⟩ := a
  obtain ⟨n', ls', ar', cs'⟩ := b
  simp only [sortLv, Prod.mk.injEq] at h
  obtain ⟨rfl, h, rfl, rfl⟩ := h
  have hlay : ∀ v, layI ls v = layI ls' v := fun v => by rw [← sort_lay, h, sort_lay]
  have hlen : ls.length = ls'.length := by rw [← List.length_map (f := sortL), h, List.length_map]
  simp only [validF, headOk, foundOk, srcG, ranksV, lostV, sortLv, hlay, hlen, h]
  have e : ∀ w : Nat → Bool, w = w := fun _ => rfl
  congr 3
  · congr 1
    congr 1
    funext v
    simp only [lostV, hlay]
theorem reorder_sort {a : Lv} {i : Nat} {o y : List Int} (hy : a.2.1[i]? = some y) (h : sortL o = sortL y) : sortLv (a.1, a.2.1.set i o, a.2.2.1, a.2.2.2) = sortLv a := by
  simp only [sortLv, List.map_set, h]
  congr 2
  refine List.ext_getElem? fun u => ?_
  rw [List.getElem?_set]
  split
  · subst i
    rw [List.getElem?_map, hy]
    split
    · rfl
    · rename_i hn
      rw [List.length_map] at hn
      exact absurd (List.getElem?_eq_some_iff.1 hy).1 hn
  · rfl
theorem reorder_valid {a : Lv} {i : Int} {o : List Int} (h : (reorderF a i o).2 = 0) : validF (reorderF a i o).1 = true := by
  rw [reorderF] at h ⊢
  split at h
  · cases h
  · rename_i h1
    split at h
    · cases h
    · rename_i h2
      split at h
      · cases h
      · rename_i h3
        rw [if_neg h1, if_neg h2, if_neg h3]
        obtain ⟨y, hy⟩ := get_some (l := a.2.1) (k := i.toNat) (by omega)
        rw [hy, Option.getD_some] at h3
        rw [valid_sort (reorder_sort hy (Decidable.not_not.1 h3))]
        simpa using h1
theorem reorder_wide {a : Lv} {i : Int} {o : List Int} (hw : wide a) (ho : o.length ≤ 600) : wide (reorderF a i o).1 := by
  rw [reorderF]
  split
  · intro y hy; cases hy
  · split
    · intro y hy; cases hy
    · split
      · intro y hy; cases hy
      · intro y hy
        rcases List.mem_or_eq_of_mem_set hy with hy | rfl
        · exact hw y hy
        · omega
end Go.Proofs.Ytelghbnlceeecaa
namespace Go.Proofs.Ytelghbnlceeecaa
open Go Go.PS Go.Proofs
set_option maxRecDepth 100000
attribute [local irreducible] wpRun wpG CallsTo CallsM

theorem at0_left {l m : List Int} {n : Nat} (h : n < l.length) : at0 (l ++ m) n = at0 l n := by
  rw [at0, at0, Int.toNat_natCast, List.getElem?_append_left h]
theorem allR_pre (r : List Int) (l : List Arc) {e m : Nat} (h : e ≤ m) : ∃ x, allR r l m = allR r l e ++ x := by
  refine ⟨((l.drop e).take (m - e)).flatMap fun a => news r a (gapN r a), ?_⟩
  rw [allR, allR, List.append_assoc, ← List.flatMap_append]
  congr 2
  obtain ⟨k, rfl⟩ : ∃ k, m = e + k := ⟨m - e, by omega⟩
  rw [List.take_add, Nat.add_sub_cancel_left]
theorem arcsF_succ {r : List Int} {l : List Arc} {e : Nat} {a : Arc} (ha : l[e]? = some a) : arcsF r l (e + 1) = arcsF r l e ++ pairsN (chainOf r (allR r l e).length a) (gapN r a + 1) := by
  rw [arcsF, catN, arcsAt, ha]; rfl
theorem chainOf_first (r : List Int) (n0 : Nat) (a : Arc) : at0 (chainOf r n0 a) ((0 : Nat) : Int) = a.1 := rfl
theorem chainOf_mid {r : List Int} {n0 : Nat} {a : Arc} {j : Nat} (h : j < gapN r a) : at0 (chainOf r n0 a) ((j + 1 : Nat) : Int) = ((n0 + j : Nat) : Int) := by
  rw [chainOf, at0_left (by rw [chainUp_len]; omega), at0, Int.toNat_natCast, chainUp, List.getElem?_cons_succ]
  simp [h]
theorem chainOf_last (r : List Int) (n0 : Nat) (a : Arc) : at0 (chainOf r n0 a) ((gapN r a + 1 : Nat) : Int) = a.2 := by
  rw [at0, Int.toNat_natCast, chainOf, List.getElem?_append_right (by rw [chainUp_len]; exact Nat.le_refl _), chainUp_len, Nat.sub_self]; rfl
namespace Built
variable {g : Gr} {r : List Int}
/-- The vertices of a chain, and their ranks. -/
theorem chain_at (b : Built g r) {e j : Nat} {a : Arc} (ha : g.2[e]? = some a) (hj : j ≤ gapN r a + 1) :
    0 ≤ at0 (chainOf r (allR r g.2 e).length a) j ∧ at0 (chainOf r (allR r g.2 e).length a) j < (allR r g.2 g.2.length).length ∧ at0 (allR r g.2 g.2.length) (at0 (chainOf r (allR r g.2 e).length a) j) = at0 r a.1 + j := by
  have hel := (List.getElem?_eq_some_iff.1 ha).1
  have he := b.ends ha
  have hg := b.gap e a ha
  have hl := b.len
  have hge := b.all_ge
  obtain ⟨x, hx⟩ := allR_pre r g.2 (show 0 ≤ g.2.length by omega)
  have h0 : allR r g.2 0 = r := by simp [allR]
  rw [h0] at hx
  have hpre : ∀ v : Int, 0 ≤ v → v < g.1 → at0 (allR r g.2 g.2.length) v = at0 r v := fun v h1 h2 => by
    obtain ⟨n, rfl⟩ : ∃ n : Nat, v = n := ⟨v.toNat, by omega⟩
    rw [hx, at0_left (by omega)]
  rcases Nat.eq_zero_or_pos j with rfl | h1
  · rw [chainOf_first, hpre _ he.1 he.2.1]
    omega
  · obtain ⟨j, rfl⟩ : ∃ i, j = i + 1 := ⟨j - 1, by omega⟩
    rcases Nat.lt_or_ge j (gapN r a) with h2 | h2
    · rw [chainOf_mid h2]
      obtain ⟨y, hy⟩ := allR_pre r g.2 (show e + 1 ≤ g.2.length by omega)
      rw [allR_succ ha] at hy
      have hlen := congrArg List.length hy
      simp only [List.length_append, news_len] at hlen
      refine ⟨by omega, by omega, ?_⟩
      rw [hy, at0_left (by rw [List.length_append, news_len]; omega), at0, Int.toNat_natCast, List.getElem?_append_right (by omega), Nat.add_sub_cancel_left]
      simp only [news, List.getElem?_map, List.getElem?_range h2, Option.map_some, Option.getD_some]
      omega
    · have hj2 : j = gapN r a := by omega
      subst hj2
      rw [chainOf_last, hpre _ he.2.2.1 he.2.2.2]
      have hgn : (gapN r a : Int) = at0 r a.2 - at0 r a.1 - 1 := by rw [gapN]; omega
      omega
end Built
end Go.Proofs.Ytelghbnlceeecaa
namespace Go.Proofs.Ytelghbnlceeecaa
open Go Go.PS Go.Proofs
set_option maxRecDepth 100000
attribute [local irreducible] wpRun wpG CallsTo CallsM

theorem getM_put (m : List (Int × Int)) (k v u : Int) : getM (putM m k v) u = if k = u then v else getM m u := by
  induction m with
  | nil => simp only [putM, getM]
  | cons p m ih =>
    obtain ⟨a, b⟩ := p
    simp only [putM]
    by_cases h : a = k
    · rw [if_pos h]
      simp only [getM]
      by_cases h2 : k = u
      · rw [if_pos h2, if_pos h2]
      · rw [if_neg h2, if_neg h2, if_neg (by rw [h]; exact h2)]
    · rw [if_neg h]
      simp only [getM, ih]
      by_cases h2 : a = u
      · rw [if_pos h2, if_neg (by omega)]
        simp [h2]
      · rw [if_neg h2]; simp [h2]
/-- A map that is filled layer by layer. -/
def rowM (m : List (Int × Int)) (y : List Int) (g : Nat → Int) : Nat → List (Int × Int)
  | 0 => m
  | k + 1 => putM (rowM m y g k) (at0 y k) (g k)
def allM (h : Nat → Nat → Int) (ls : List (List Int)) : Nat → List (Int × Int)
  | 0 => []
  | i + 1 => rowM (allM h ls i) ((ls[i]?).getD []) (h i) (((ls[i]?).getD []).length)
def plM (ls : List (List Int)) : List (Int × Int) := allM (fun _ k => k) ls ls.length
def lyM (ls : List (List Int)) : List (Int × Int) := allM (fun i _ => i) ls ls.length
theorem idxOf_at : ∀ {y : List Int} {k : Nat} {v : Int}, y.Nodup → y[k]? = some v → y.idxOf v = k
  | [], k, v, _, h => by simp at h
  | a :: y, 0, v, _, h => by simp at h; subst h; simp
  | a :: y, k + 1, v, hn, h => by
    have hn2 := List.nodup_cons.1 hn
    have h2 : y[k]? = some v := by simpa using h
    have hne : a ≠ v := fun e => hn2.1 (e ▸ List.mem_of_getElem? h2)
    have ih := idxOf_at hn2.2 h2
    have hb : (a == v) = false := by simpa using hne
    simp [List.idxOf_cons, hb, ih]
theorem getM_row (m : List (Int × Int)) (y : List Int) (g : Nat → Int) (u : Int) : ∀ k, k ≤ y.length → y.Nodup → getM (rowM m y g k) u = if u ∈ y.take k then g (y.idxOf u) else getM m u
  | 0, _, _ => by simp [rowM]
  | k + 1, h, hn => by
    have hk := at0_at (r := y) (i := k) (by omega)
    have hi : y.idxOf (at0 y k) = k := idxOf_at hn hk
    rw [rowM, getM_put, getM_row m y g u k (by omega) hn, take_snoc hk]
    simp only [List.mem_append, List.mem_singleton]
    by_cases c : at0 y k = u
    · rw [if_pos c, if_pos (.inr c.symm), ← c, hi]
    · rw [if_neg c]
      by_cases c2 : u ∈ y.take k
      · rw [if_pos c2, if_pos (.inl c2)]
      · rw [if_neg c2, if_neg (by rintro (h1 | h1); exact c2 h1; exact c h1.symm)]
theorem getM_all (h : Nat → Nat → Int) (ls : List (List Int)) (hn : ls.flatten.Nodup) (u : Int) : ∀ i, i ≤ ls.length → (∀ k y, k < i → ls[k]? = some y → u ∈ y → getM (allM h ls i) u = h k (y.idxOf u)) ∧ (u ∉ (ls.take i).flatten → getM (allM h ls i) u = 0)
  | 0, _ => ⟨fun k y hk => by omega, fun _ => rfl⟩
  | i + 1, hi => by
    obtain ⟨y, hy⟩ := get_some (l := ls) (k := i) (by omega)
    obtain ⟨g1, g2⟩ := getM_all h ls hn u i (by omega)
    have hsub : ∀ z, z ∈ ls → z.Nodup := fun z hz => (List.pairwise_flatten.1 hn).1 z hz
    have hyn := hsub y (List.mem_of_getElem? hy)
    have hr := getM_row (allM h ls i) y (h i) u y.length (Nat.le_refl _) hyn
    rw [List.take_length] at hr
    have ha : allM h ls (i + 1) = rowM (allM h ls i) y (h i) y.length := by rw [allM, hy]; rfl
    rw [ha, hr]
    refine ⟨fun k z hk hz hu => ?_, fun hu => ?_⟩
    · rcases Nat.lt_succ_iff_lt_or_eq.1 hk with h1 | rfl
      · have hd := List.pairwise_iff_getElem.1 (List.pairwise_flatten.1 hn).2 k i (List.getElem?_eq_some_iff.1 hz).1 (List.getElem?_eq_some_iff.1 hy).1 h1
        have e1 := (List.getElem?_eq_some_iff.1 hz).2
        have e2 := (List.getElem?_eq_some_iff.1 hy).2
        rw [e1, e2] at hd
        rw [if_neg (fun hu2 => hd u hu u hu2 rfl)]
        exact g1 k z h1 hz hu
      · rw [hy] at hz; cases hz
        rw [if_pos hu]
    · rw [take_snoc hy, List.flatten_append, List.mem_append] at hu
      rw [if_neg (fun hu2 => hu (.inr (by simpa using hu2)))]
      exact g2 fun hu2 => hu (.inl hu2)
set_option maxHeartbeats 4000000 in
theorem places_spec (a : Lv) (hn : a.2.1.length ≤ 1000) (hl : ∀ y, y ∈ a.2.1 → y.length ≤ 1000) : CallsM Try.prog 121 [.d (lvD a)] [(2000, .dead), (2001, .dead)] (.tup [.mp 2000, .mp 2001]) [(2000, .imap (plM a.2.1)), (2001, .imap (lyM a.2.1))] := by
  obtain ⟨n, ls, ar, cs⟩ := a
  dsimp only at hn hl
  refine callsM_of Try.func121 rfl (by decide +kernel) (Nat.le_of_ble_eq_true rfl) rfl (nodup_of rfl) rfl rfl rfl ?_
  intro B X w0
  repeat' first | refine pw_seq ?_ | refine pw_skip ?_ | refine pw_ret ?_ | refine pw_exit ?_ | refine pw_block ?_ | refine pw_region (fun _ => false) hmix ?_ | (refine wpG_split rfl rfl (fun hc => ?_) (fun hc => ?_) <;> try simp only [hcL, reduceCtorEq] at hc) | (refine pw_cond _ rfl rfl (fun hc => ?_) (fun hc => ?_) <;> (try simp only [hcL, reduceCtorEq] at hc) <;> try (exfalso; omega)) | simp (maxSteps := 1000000) (disch := omega) only [go_sem, simprocAttr] | apply And.intro | omega | decide +kernel
  refine pw_loopI (κ := Nat) (fun (i : Nat) => i ≤ ls.length) (fun (i : Nat) => [(1, .ptr 1 0 0 0), (2, .mp 8), (3, .mp 9), (11, .d (listsD ls)), (12, .int ls.length), (13, .int i)]) (fun (i : Nat) => [(1, .cells [.int n, .d (listsD ls), .d (arcsD ar), .d (listsD cs)]), (8, .imap (allM (fun _ k => k) ls i)), (9, .imap (allM (fun i _ => i) ls i))]) (fun (i : Nat) => ls.length - i) 0 ?_ ?_ ?_
  · exact Nat.zero_le _
  · exact eL [] _ _ (by refine ⟨?_, ?_⟩ <;> (repeat' first | exact List.forall_mem_nil _ | refine List.forall_mem_cons.2 ⟨(by first | rfl | (simp (disch := omega) only [go_sem, simprocAttr, inL, allM]; first | done | omega | (congr 1; done))), ?_⟩); done)
  · intro i hi
    rcases Nat.lt_or_ge i ls.length with hlt | hge
    · obtain ⟨y, hy⟩ := get_some hlt
      have hyl := hl y (List.mem_of_getElem? hy)
      have e1 : allM (fun _ k => (k : Int)) ls (i + 1) = rowM (allM (fun _ k => (k : Int)) ls i) y (fun k => (k : Int)) y.length := by rw [allM, hy]; rfl
      have e2 : allM (fun i _ => (i : Int)) ls (i + 1) = rowM (allM (fun i _ => (i : Int)) ls i) y (fun _ => (i : Int)) y.length := by rw [allM, hy]; rfl
      repeat' first | refine pw_seq ?_ | refine pw_skip ?_ | refine pw_ret ?_ | refine pw_exit ?_ | refine pw_block ?_ | refine pw_region (fun _ => false) hmix ?_ | (refine wpG_split rfl rfl (fun hc => ?_) (fun hc => ?_) <;> try simp only [hcL, reduceCtorEq] at hc) | (refine pw_cond _ rfl rfl (fun hc => ?_) (fun hc => ?_) <;> (try simp only [hcL, reduceCtorEq] at hc) <;> try (exfalso; omega)) | simp (maxSteps := 1000000) (disch := omega) only [go_sem, simprocAttr, hy] | apply And.intro | omega | decide +kernel
      refine pw_loopI (κ := Nat) (fun (k : Nat) => k ≤ y.length) (fun (k : Nat) => [(1, .ptr 1 0 0 0), (2, .mp 8), (3, .mp 9), (4, .int i), (11, .d (listsD ls)), (12, .int ls.length), (13, .int i), (18, .d (intsD y)), (19, .int y.length), (20, .int k)]) (fun (k : Nat) => [(1, .cells [.int n, .d (listsD ls), .d (arcsD ar), .d (listsD cs)]), (8, .imap (rowM (allM (fun _ k => k) ls i) y (fun k => (k : Int)) k)), (9, .imap (rowM (allM (fun i _ => i) ls i) y (fun _ => (i : Int)) k))]) (fun (k : Nat) => y.length - k) 0 ?_ ?_ ?_
      · exact Nat.zero_le _
      · exact eL [] _ _ (by refine ⟨?_, ?_⟩ <;> (repeat' first | exact List.forall_mem_nil _ | refine List.forall_mem_cons.2 ⟨(by first | rfl | (simp (disch := omega) only [go_sem, simprocAttr, inL, rowM]; first | done | omega | (congr 1; done))), ?_⟩); done)
      · intro k hk
        rcases Nat.lt_or_ge k y.length with hlk | hgk
        · have gy := at0_at hlk
          repeat' first | refine pw_seq ?_ | refine pw_skip ?_ | refine pw_ret ?_ | refine pw_exit ?_ | refine pw_block ?_ | refine pw_region (fun _ => false) hmix ?_ | (refine wpG_split rfl rfl (fun hc => ?_) (fun hc => ?_) <;> try simp only [hcL, reduceCtorEq] at hc) | (refine pw_cond _ rfl rfl (fun hc => ?_) (fun hc => ?_) <;> (try simp only [hcL, reduceCtorEq] at hc) <;> try (exfalso; omega)) | simp (maxSteps := 1000000) (disch := omega) only [go_sem, simprocAttr, gy] | apply And.intro | omega | decide +kernel
          refine ⟨k + 1, ?_, eL [] _ _ (by refine ⟨?_, ?_⟩ <;> (repeat' first | exact List.forall_mem_nil _ | refine List.forall_mem_cons.2 ⟨(by first | rfl | (simp (disch := omega) only [go_sem, simprocAttr, inL, rowM]; first | done | omega | (congr 1; done))), ?_⟩); done), ?_⟩
          · omega
          · omega
        · have : k = y.length := by omega
          subst this
          repeat' first | refine pw_seq ?_ | refine pw_skip ?_ | refine pw_ret ?_ | refine pw_exit ?_ | refine pw_block ?_ | refine pw_region (fun _ => false) hmix ?_ | (refine wpG_split rfl rfl (fun hc => ?_) (fun hc => ?_) <;> try simp only [hcL, reduceCtorEq] at hc) | (refine pw_cond _ rfl rfl (fun hc => ?_) (fun hc => ?_) <;> (try simp only [hcL, reduceCtorEq] at hc) <;> try (exfalso; omega)) | simp (maxSteps := 1000000) (disch := omega) only [go_sem, simprocAttr] | apply And.intro | omega | decide +kernel
          refine ⟨i + 1, ?_, eL [] _ _ (by refine ⟨?_, ?_⟩ <;> (repeat' first | exact List.forall_mem_nil _ | refine List.forall_mem_cons.2 ⟨(by first | rfl | (simp (disch := omega) only [go_sem, simprocAttr, inL, e1, e2]; first | done | omega | (congr 1; done))), ?_⟩); done), ?_⟩
          · omega
          · omega
    · have : i = ls.length := by omega
      subst this
      repeat' first | refine pw_seq ?_ | refine pw_skip ?_ | refine pw_exit ?_ | refine pw_block ?_ | refine pw_region (fun _ => false) hmix ?_ | (refine wpG_split rfl rfl (fun hc => ?_) (fun hc => ?_) <;> try simp only [hcL, reduceCtorEq] at hc) | (refine pw_cond _ rfl rfl (fun hc => ?_) (fun hc => ?_) <;> (try simp only [hcL, reduceCtorEq] at hc) <;> try (exfalso; omega)) | simp (maxSteps := 1000000) (disch := omega) only [go_sem, simprocAttr] | apply And.intro | omega | decide +kernel
      refine eR [(2000, 8), (2001, 9)] [(2, .mp 2000), (3, .mp 2001)] [(2000, .imap (plM ls)), (2001, .imap (lyM ls))] (by refine ⟨?_, ?_⟩ <;> (repeat' first | exact List.forall_mem_nil _ | refine List.forall_mem_cons.2 ⟨(by first | rfl | (simp (disch := omega) only [go_sem, simprocAttr, inL]; first | done | omega | (congr 1; done))), ?_⟩); done) ?_
      refine pw_ret ?_
      exact ⟨⟨_, rfl, rfl, rfl, trivial⟩, List.forall_mem_cons.2 ⟨rfl, List.forall_mem_cons.2 ⟨rfl, List.forall_mem_nil _⟩⟩⟩
end Go.Proofs.Ytelghbnlceeecaa
namespace Go.Proofs.Ytelghbnlceeecaa
open Go Go.PS Go.Proofs
set_option maxRecDepth 100000
attribute [local irreducible] wpRun wpG CallsTo CallsM

/-- Vertex v lies in layer r, at place p. -/
def Lies (ls : List (List Int)) (v : Int) (r p : Nat) : Prop := ∃ y, ls[r]? = some y ∧ y[p]? = some v
theorem lies_of {ls : List (List Int)} {v : Int} (h : v ∈ ls.flatten) : ∃ r p, Lies ls v r p := by
  obtain ⟨y, hy, hv⟩ := List.mem_flatten.1 h
  obtain ⟨r, hr⟩ := List.getElem?_of_mem hy
  obtain ⟨p, hp⟩ := List.getElem?_of_mem hv
  exact ⟨r, p, y, hr, hp⟩
theorem Lies.mem {ls : List (List Int)} {v : Int} {r p : Nat} (h : Lies ls v r p) : v ∈ ls.flatten := by
  obtain ⟨y, h1, h2⟩ := h
  exact List.mem_flatten.2 ⟨y, List.mem_of_getElem? h1, List.mem_of_getElem? h2⟩
theorem Lies.idx {ls : List (List Int)} (hn : ls.flatten.Nodup) {v : Int} {r p : Nat} {y : List Int} (hy : ls[r]? = some y) (h : y[p]? = some v) : y.idxOf v = p := by
  have hyn := (List.pairwise_flatten.1 hn).1 y (List.mem_of_getElem? hy)
  exact idxOf_at hyn h
theorem Lies.layer {ls : List (List Int)} (hn : ls.flatten.Nodup) {v : Int} {r p r' p' : Nat} (h : Lies ls v r p) (h' : Lies ls v r' p') : r = r' := by
  obtain ⟨y, h1, h2⟩ := h
  obtain ⟨z, h3, h4⟩ := h'
  have e1 := List.getElem?_eq_some_iff.1 h1
  have e2 := List.getElem?_eq_some_iff.1 h3
  have hp := (List.pairwise_flatten.1 hn).2
  rcases Nat.lt_trichotomy r r' with h | h | h
  · have := List.pairwise_iff_getElem.1 hp r r' e1.1 e2.1 h
    rw [e1.2, e2.2] at this
    exact absurd rfl (this v (List.mem_of_getElem? h2) v (List.mem_of_getElem? h4))
  · exact h
  · have := List.pairwise_iff_getElem.1 hp r' r e2.1 e1.1 h
    rw [e1.2, e2.2] at this
    exact absurd rfl (this v (List.mem_of_getElem? h4) v (List.mem_of_getElem? h2))
theorem Lies.ly {ls : List (List Int)} (hn : ls.flatten.Nodup) {v : Int} {r p : Nat} (h : Lies ls v r p) : getM (lyM ls) v = r := by
  obtain ⟨y, h1, h2⟩ := h
  exact (getM_all _ ls hn v ls.length (Nat.le_refl _)).1 r y (List.getElem?_eq_some_iff.1 h1).1 h1 (List.mem_of_getElem? h2)
theorem Lies.pl {ls : List (List Int)} (hn : ls.flatten.Nodup) {v : Int} {r p : Nat} (h : Lies ls v r p) : getM (plM ls) v = p := by
  obtain ⟨y, h1, h2⟩ := h
  rw [plM, (getM_all _ ls hn v ls.length (Nat.le_refl _)).1 r y (List.getElem?_eq_some_iff.1 h1).1 h1 (List.mem_of_getElem? h2), Lies.idx hn h1 h2]
theorem Lies.lay {ls : List (List Int)} (hn : ls.flatten.Nodup) {v : Int} {r p : Nat} (h : Lies ls v r p) : layI ls v = r := by
  have h0 := layI_mem.2 h.mem
  have hd := h
  obtain ⟨y, h1, h2⟩ := h
  rw [layI] at h0 ⊢
  cases hf : ls.findIdx? (fun y => y.any fun x => decide (x = v)) with
  | none => rw [hf] at h0; exact absurd h0 (by decide)
  | some k =>
    have hk := List.findIdx?_eq_some_iff_getElem.1 hf
    obtain ⟨hk1, hk2, _⟩ := hk
    obtain ⟨x, hx, hxv⟩ := List.any_eq_true.1 hk2
    have : x = v := by simpa using hxv
    subst this
    obtain ⟨p', hp'⟩ := List.getElem?_of_mem hx
    have := Lies.layer hn hd (⟨ls[k], List.getElem?_eq_getElem hk1, hp'⟩ : Lies ls x k p')
    rw [this]; rfl
/-- The ends of an arc of valid levels. -/
structure Joins (ls : List (List Int)) (x : Arc) (r p q : Nat) : Prop where
  up : Lies ls x.1 r p
  dn : Lies ls x.2 (r + 1) q
theorem valid_nodup {a : Lv} (h : validF a = true) : a.2.1.flatten.Nodup := by
  obtain ⟨_, _, hr⟩ := valid_built h
  obtain ⟨_, _, hg, _⟩ := ranks_ok hr
  exact (good_iff.1 hg).2
theorem valid_joins {a : Lv} (h : validF a = true) {k : Nat} {x : Arc} (hx : a.2.2.1[k]? = some x) : ∃ r p q, Joins a.2.1 x r p q := by
  have hn := valid_nodup h
  obtain ⟨b, hm, hr⟩ := valid_built h
  obtain ⟨_, _, hg, ho⟩ := ranks_ok hr
  have har : a.2.2.1 = arcsF (ranksV a) (srcG a).2 (srcG a).2.length := congrArg (fun x : Lv => x.2.2.1) hm
  -- an arc of chain e
  have hmem : ∀ m, m ≤ (srcG a).2.length → ∀ x, x ∈ arcsF (ranksV a) (srcG a).2 m → ∃ e c j, (srcG a).2[e]? = some c ∧ j < gapN (ranksV a) c + 1 ∧ x = pairAt (chainOf (ranksV a) (allR (ranksV a) (srcG a).2 e).length c) j := by
    intro m
    induction m with
    | zero => intro _ x hx; simp [arcsF, catN] at hx
    | succ m ih =>
      intro hm x hx
      obtain ⟨c, hc⟩ := get_some (l := (srcG a).2) (k := m) (by omega)
      rw [arcsF_succ hc, List.mem_append] at hx
      rcases hx with hx | hx
      · exact ih (by omega) x hx
      · simp only [pairsN, List.mem_map, List.mem_range] at hx
        obtain ⟨j, hj, rfl⟩ := hx
        exact ⟨m, c, j, hc, hj, rfl⟩
  obtain ⟨e, c, j, hc, hj, rfl⟩ := hmem _ (Nat.le_refl _) x (har ▸ List.mem_of_getElem? hx)
  obtain ⟨x1, x2, x3⟩ := b.chain_at hc (j := j) (by omega)
  obtain ⟨y1, y2, y3⟩ := b.chain_at hc (j := j + 1) (by omega)
  rw [pairAt]
  generalize at0 (chainOf (ranksV a) (allR (ranksV a) (srcG a).2 e).length c) j = u at x1 x2 x3 ⊢
  generalize at0 (chainOf (ranksV a) (allR (ranksV a) (srcG a).2 e).length c) ((j + 1 : Nat) : Int) = v at y1 y2 y3 ⊢
  have hlay : ∀ u : Int, 0 ≤ u → u < (allR (ranksV a) (srcG a).2 (srcG a).2.length).length → layI a.2.1 u = at0 (allR (ranksV a) (srcG a).2 (srcG a).2.length) u := by
    intro u h0 h1
    have hl : (allR (ranksV a) (srcG a).2 (srcG a).2.length).length = tot a.2.1 := by rw [ho, rowR_len]
    obtain ⟨n, rfl⟩ : ∃ n : Nat, u = n := ⟨u.toNat, by omega⟩
    have := rowR_get (c := tot a.2.1) (v := n) (by omega) a.2.1
    rw [← ho, at0_at (by omega), Option.some.injEq] at this
    exact this.symm
  have e1 := hlay u x1 x2
  have e2 := hlay v y1 y2
  have hrk := b.rk c.1.toNat
  have hin := b.ends hc
  rw [show ((c.1.toNat : Nat) : Int) = c.1 by omega] at hrk
  obtain ⟨r, p, hl1⟩ := lies_of (layI_mem.1 (show 0 ≤ layI a.2.1 u by omega))
  obtain ⟨r2, q, hl2⟩ := lies_of (layI_mem.1 (show 0 ≤ layI a.2.1 v by omega))
  have e3 := hl1.lay hn
  have e4 := hl2.lay hn
  have : r2 = r + 1 := by omega
  subst this
  exact ⟨r, p, q, hl1, hl2⟩
end Go.Proofs.Ytelghbnlceeecaa
namespace Go.Proofs.Ytelghbnlceeecaa
open Go Go.PS Go.Proofs
set_option maxRecDepth 100000
attribute [local irreducible] wpRun wpG CallsTo CallsM

/-- What arc x adds to place p of layer i. -/
def endsAt (ls : List (List Int)) (i f : Int) (p : Nat) (x : Arc) : List Int :=
  if getM (lyM ls) x.1 = i ∧ getM (lyM ls) x.2 = f then (if getM (plM ls) x.1 = p then [getM (plM ls) x.2] else [])
  else if getM (lyM ls) x.2 = i ∧ getM (lyM ls) x.1 = f then (if getM (plM ls) x.2 = p then [getM (plM ls) x.1] else []) else []
def endsN (ls : List (List Int)) (ar : List Arc) (i f : Int) (k p : Nat) : List Int := (ar.take k).flatMap (endsAt ls i f p)
theorem endsN_succ {ls : List (List Int)} {ar : List Arc} {i f : Int} {k : Nat} {x : Arc} (hx : ar[k]? = some x) (p : Nat) : endsN ls ar i f (k + 1) p = endsN ls ar i f k p ++ endsAt ls i f p x := by
  simp [endsN, take_snoc hx]
theorem endsAt_len (ls : List (List Int)) (i f : Int) (p : Nat) (x : Arc) : (endsAt ls i f p x).length ≤ 1 := by
  unfold endsAt
  split
  · split <;> simp
  · split
    · split <;> simp
    · simp
theorem endsN_len (ls : List (List Int)) (ar : List Arc) (i f : Int) (p : Nat) : ∀ k, (endsN ls ar i f k p).length ≤ k
  | 0 => by simp [endsN]
  | k + 1 => by
    have ih := endsN_len ls ar i f p k
    rcases Nat.lt_or_ge k ar.length with h | h
    · obtain ⟨x, hx⟩ := get_some h
      have := endsAt_len ls i f p x
      rw [endsN_succ hx, List.length_append]; omega
    · rw [endsN, List.take_of_length_le (by omega)]
      rw [endsN, List.take_of_length_le (by omega)] at ih
      omega
def endsF (ls : List (List Int)) (ar : List Arc) (i f : Int) (n : Nat) : List (List Int) := (List.range n).map (endsN ls ar i f ar.length)
set_option maxHeartbeats 8000000 in
theorem ends_spec (a : Lv) (i : Nat) (f : Int) (y : List Int) (h : validF a = true) (hy : a.2.1[i]? = some y) : CallsTo Try.prog 110 [lvD a, .int i, .int f] (listsD (endsF a.2.1 a.2.2.1 i f y.length)) := by
  have hn := valid_nodup h
  have hj := fun k x hx => valid_joins h (k := k) (x := x) hx
  obtain ⟨s1, s2, s3⟩ := lv_sizes h
  obtain ⟨t1, t2⟩ := lv_le h
  have hp := places_spec a (by omega) (fun y hy => by have := tot_mem hy; omega)
  have hyl := tot_mem (List.mem_of_getElem? hy)
  have hil : i < a.2.1.length := (List.getElem?_eq_some_iff.1 hy).1
  obtain ⟨n, ls, ar, cs⟩ := a
  dsimp only at *
  obtain ⟨N, hN⟩ : ∃ N, N = y.length := ⟨_, rfl⟩
  rw [← hN] at hyl ⊢
  refine callsTo_of Try.func110 rfl (by decide +kernel) (Nat.le_of_ble_eq_true rfl) ?_
  intro hat B X w0
  repeat' first | refine pw_seq ?_ | refine pw_skip ?_ | refine pw_ret ?_ | refine pw_exit ?_ | refine pw_block ?_ | refine pw_region (fun _ => false) hmix ?_ | refine rcM [(2000, 914), (2001, 915)] (hp) rfl ?_ | (refine wpG_split rfl rfl (fun hc => ?_) (fun hc => ?_) <;> try simp only [hcL, reduceCtorEq] at hc) | (refine pw_cond _ rfl rfl (fun hc => ?_) (fun hc => ?_) <;> (try simp only [hcL, reduceCtorEq] at hc) <;> try (exfalso; omega)) | simp (maxSteps := 1000000) (disch := omega) only [go_sem, simprocAttr, hy, ← hN] | apply And.intro | omega | decide +kernel
  refine pw_ent _ (ent_famNew 1 23 1 N rfl (fun i hi => by simp (disch := omega) only [go_sem, simprocAttr, obOf_fid, argEnv]) (by decide) (by decide)) ?_
  refine pw_loopF (κ := Nat) (fun (k : Nat) => k ≤ ar.length) (fun (k : Nat) => [(1, .int i), (2, .int f), (3, .ptr 3 0 0 0), (7, .mp 914), (8, .mp 915), (9, .ref 23 1 0 N N), (25, .d (arcsD ar)), (26, .int ar.length), (27, .int k)]) (fun (k : Nat) => [⟨1, 23, 1, N, fun p => (endsN ls ar i f k p).map D.int⟩]) (fun (k : Nat) => [(3, .cells [.int n, .d (listsD ls), .d (arcsD ar), .d (listsD cs)]), (914, .imap (plM ls)), (915, .imap (lyM ls))]) (fun (k : Nat) => ar.length - k) 0 ?_ ?_ ?_
  · exact Nat.zero_le _
  · refine eF [] [] _ _ _ (by refine ⟨?_, ?_⟩ <;> (repeat' first | exact List.forall_mem_nil _ | refine List.forall_mem_cons.2 ⟨(by first | rfl | (simp (disch := omega) only [go_sem, simprocAttr, inL]; first | done | omega | (congr 1; done))), ?_⟩); done) ?_
    repeat' first | exact List.forall_mem_nil _ | refine List.forall_mem_cons.2 ⟨?_, ?_⟩
    all_goals refine ⟨_, (by first | rfl | (simp (disch := omega) only [go_sem, simprocAttr, endsN, List.take_zero, List.flatMap_nil]; done) | (simp (disch := omega) only [go_sem, simprocAttr, endsN, List.take_zero, List.flatMap_nil]; rfl)), fun i hi => ?_⟩
    all_goals dsimp only at hi ⊢
    all_goals try (exfalso; omega)
    all_goals try (simp (disch := omega) only [go_sem, simprocAttr, endsN, List.take_zero, List.flatMap_nil, fid_lit, lit_fid]; done)
  · intro k hk
    rcases Nat.lt_or_ge k ar.length with hlt | hge
    · obtain ⟨x, hx⟩ := get_some hlt
      obtain ⟨r, p, q, hup, hdn⟩ := hj k x hx
      have l1 := hup.ly hn
      have l2 := hdn.ly hn
      have p1 := hup.pl hn
      have p2 := hdn.pl hn
      have hst := endsN_succ (ls := ls) (i := i) (f := f) hx
      by_cases c1 : r = i ∧ ((r + 1 : Nat) : Int) = f
      · obtain ⟨rfl, c2⟩ := c1
        have hpN : p < N := by
          obtain ⟨z, z1, z2⟩ := hup
          rw [hy] at z1; cases z1
          rw [hN]; exact (List.getElem?_eq_some_iff.1 z2).1
        have he : ∀ p', endsAt ls r f p' x = if p' = p then [(q : Int)] else [] := fun p' => by
          rw [endsAt, l1, l2, p1, p2, if_pos ⟨rfl, c2⟩]
          by_cases c : p' = p
          · rw [if_pos (by omega), if_pos c]
          · rw [if_neg (by omega), if_neg c]
        have hel := endsN_len ls ar r f p k
        refine pw_ent _ (ent_bor _ _ [3, 914, 915, 23] 23 p 900 1 1 N (by first | rfl | (simp (disch := omega) only [go_sem, simprocAttr]; done) | (simp (disch := omega) only [go_sem, simprocAttr]; rfl)) (by first | (simp (disch := omega) only [go_sem, simprocAttr]; done) | (simp (disch := omega) only [go_sem, simprocAttr]; rfl)) (by first | (simp (disch := omega) only [go_sem, simprocAttr]; done) | (simp (disch := omega) only [go_sem, simprocAttr]; rfl)) (fun i hi hne => by simp (disch := omega) only [go_sem, simprocAttr, hne]; (repeat' split) <;> exact .ref _ _ _ _ _ ⟨by simp (disch := omega) only [go_sem, simprocAttr, hne], by simp (disch := omega) only [go_sem, simprocAttr, hne]⟩) (by (repeat' first | refine ab_nil ?_ | exact ab_obOf (ids := [3, 914, 915, 23]) rfl rfl (Nat.le_of_ble_eq_true rfl) | refine ab_hole ?_ | refine ab_row ?_ | refine ab_dead ?_ | refine ab_self ?_ | refine ab_self_fam ?_ | refine ab_fam (by dsimp only; omega) (by dsimp only; omega) (by omega) (by omega) (Nat.le_of_ble_eq_true rfl) ?_); done) rfl rfl rfl) ?_
        repeat' first | refine pw_seq ?_ | refine pw_skip ?_ | refine pw_ret ?_ | refine pw_exit ?_ | refine pw_block ?_ | refine pw_region (fun _ => false) hmix ?_ | (refine wpG_split rfl rfl (fun hc => ?_) (fun hc => ?_) <;> try simp only [hcL, reduceCtorEq] at hc) | (refine pw_cond _ rfl rfl (fun hc => ?_) (fun hc => ?_) <;> (try simp only [hcL, reduceCtorEq] at hc) <;> try (exfalso; omega)) | simp (maxSteps := 1000000) (disch := omega) only [go_sem, simprocAttr, hx, l1, l2, p1, p2, c2, roomy, List.take_length, take_map_len] | apply And.intro | omega | decide +kernel
        refine ⟨k + 1, ?_, eF [(fid 1 p, 63)] [] _ _ _ (by refine ⟨?_, ?_⟩ <;> (repeat' first | exact List.forall_mem_nil _ | refine List.forall_mem_cons.2 ⟨(by first | rfl | (simp (disch := omega) only [go_sem, simprocAttr, inL]; first | done | omega | (congr 1; done))), ?_⟩); done) ?_, ?_⟩
        · omega
        · repeat' first | exact List.forall_mem_nil _ | refine List.forall_mem_cons.2 ⟨?_, ?_⟩
          all_goals refine ⟨_, (by first | rfl | (simp (disch := omega) only [go_sem, simprocAttr, hst, he, List.map_append, List.length_append, List.length_map, List.length_cons, List.length_nil, List.append_nil, take_map_len]; done) | (simp (disch := omega) only [go_sem, simprocAttr, hst, he, List.map_append, List.length_append, List.length_map, List.length_cons, List.length_nil, List.append_nil, take_map_len]; rfl)), fun i hi => ?_⟩
          all_goals dsimp only at hi ⊢
          all_goals rcases Decidable.em (i = p) with rfl | hi0
          all_goals try (exfalso; omega)
          all_goals try (simp (disch := omega) only [go_sem, simprocAttr, hst, he, List.map_append, List.length_append, List.length_map, List.length_cons, List.length_nil, List.append_nil, take_map_len, fid_lit, lit_fid]; done)
          all_goals try (simp (disch := omega) only [go_sem, simprocAttr, hst, he, List.map_append, List.length_append, List.length_map, List.length_cons, List.length_nil, List.append_nil, take_map_len, hi0, fid_lit, lit_fid]; done)
        · omega
      · by_cases c2 : r + 1 = i ∧ (r : Int) = f
        · obtain ⟨c2, c3⟩ := c2
          have c4 : ¬ (r : Int) = i := by omega
          have c5 : ((r + 1 : Nat) : Int) = i := by omega
          have hqN : q < N := by
            obtain ⟨z, z1, z2⟩ := hdn
            rw [c2, hy] at z1; cases z1
            rw [hN]; exact (List.getElem?_eq_some_iff.1 z2).1
          have he : ∀ p', endsAt ls i f p' x = if p' = q then [(p : Int)] else [] := fun p' => by
            rw [endsAt, l1, l2, p1, p2, if_neg (fun h => c4 h.1), if_pos ⟨c5, c3⟩]
            by_cases c : p' = q
            · rw [if_pos (by omega), if_pos c]
            · rw [if_neg (by omega), if_neg c]
          have hel := endsN_len ls ar i f q k
          refine pw_ent _ (ent_bor _ _ [3, 914, 915, 23] 23 q 900 1 1 N (by first | rfl | (simp (disch := omega) only [go_sem, simprocAttr]; done) | (simp (disch := omega) only [go_sem, simprocAttr]; rfl)) (by first | (simp (disch := omega) only [go_sem, simprocAttr]; done) | (simp (disch := omega) only [go_sem, simprocAttr]; rfl)) (by first | (simp (disch := omega) only [go_sem, simprocAttr]; done) | (simp (disch := omega) only [go_sem, simprocAttr]; rfl)) (fun i hi hne => by simp (disch := omega) only [go_sem, simprocAttr, hne]; (repeat' split) <;> exact .ref _ _ _ _ _ ⟨by simp (disch := omega) only [go_sem, simprocAttr, hne], by simp (disch := omega) only [go_sem, simprocAttr, hne]⟩) (by (repeat' first | refine ab_nil ?_ | exact ab_obOf (ids := [3, 914, 915, 23]) rfl rfl (Nat.le_of_ble_eq_true rfl) | refine ab_hole ?_ | refine ab_row ?_ | refine ab_dead ?_ | refine ab_self ?_ | refine ab_self_fam ?_ | refine ab_fam (by dsimp only; omega) (by dsimp only; omega) (by omega) (by omega) (Nat.le_of_ble_eq_true rfl) ?_); done) rfl rfl rfl) ?_
          repeat' first | refine pw_seq ?_ | refine pw_skip ?_ | refine pw_ret ?_ | refine pw_exit ?_ | refine pw_block ?_ | refine pw_region (fun _ => false) hmix ?_ | (refine wpG_split rfl rfl (fun hc => ?_) (fun hc => ?_) <;> try simp only [hcL, reduceCtorEq] at hc) | (refine pw_cond _ rfl rfl (fun hc => ?_) (fun hc => ?_) <;> (try simp only [hcL, reduceCtorEq] at hc) <;> try (exfalso; omega)) | simp (maxSteps := 1000000) (disch := omega) only [go_sem, simprocAttr, hx, l1, l2, p1, p2, c3, c4, c5, roomy, List.take_length, take_map_len] | apply And.intro | omega | decide +kernel
          refine ⟨k + 1, ?_, eF [(fid 1 q, 97)] [] _ _ _ (by refine ⟨?_, ?_⟩ <;> (repeat' first | exact List.forall_mem_nil _ | refine List.forall_mem_cons.2 ⟨(by first | rfl | (simp (disch := omega) only [go_sem, simprocAttr, inL]; first | done | omega | (congr 1; done))), ?_⟩); done) ?_, ?_⟩
          · omega
          · repeat' first | exact List.forall_mem_nil _ | refine List.forall_mem_cons.2 ⟨?_, ?_⟩
            all_goals refine ⟨_, (by first | rfl | (simp (disch := omega) only [go_sem, simprocAttr, hst, he, List.map_append, List.length_append, List.length_map, List.length_cons, List.length_nil, List.append_nil, take_map_len]; done) | (simp (disch := omega) only [go_sem, simprocAttr, hst, he, List.map_append, List.length_append, List.length_map, List.length_cons, List.length_nil, List.append_nil, take_map_len]; rfl)), fun i hi => ?_⟩
            all_goals dsimp only at hi ⊢
            all_goals rcases Decidable.em (i = q) with rfl | hi0
            all_goals try (exfalso; omega)
            all_goals try (simp (disch := omega) only [go_sem, simprocAttr, hst, he, List.map_append, List.length_append, List.length_map, List.length_cons, List.length_nil, List.append_nil, take_map_len, fid_lit, lit_fid]; done)
            all_goals try (simp (disch := omega) only [go_sem, simprocAttr, hst, he, List.map_append, List.length_append, List.length_map, List.length_cons, List.length_nil, List.append_nil, take_map_len, hi0, fid_lit, lit_fid]; done)
          · omega
        · have he : ∀ p', endsAt ls i f p' x = [] := fun p' => by
            rw [endsAt, l1, l2, p1, p2, if_neg (fun h => c1 ⟨by omega, h.2⟩), if_neg (fun h => c2 ⟨by omega, h.2⟩)]
          by_cases d1 : (r : Int) = i <;> by_cases d2 : ((r + 1 : Nat) : Int) = f <;> by_cases d3 : ((r + 1 : Nat) : Int) = i <;> by_cases d4 : (r : Int) = f
          all_goals try (exfalso; omega)
          all_goals
            repeat' first | refine pw_seq ?_ | refine pw_skip ?_ | refine pw_ret ?_ | refine pw_exit ?_ | refine pw_block ?_ | refine pw_region (fun _ => false) hmix ?_ | (refine wpG_split rfl rfl (fun hc => ?_) (fun hc => ?_) <;> try simp only [hcL, reduceCtorEq] at hc) | (refine pw_cond _ rfl rfl (fun hc => ?_) (fun hc => ?_) <;> (try simp only [hcL, reduceCtorEq] at hc) <;> try (exfalso; omega)) | simp (maxSteps := 1000000) (disch := omega) only [go_sem, simprocAttr, hx, l1, l2, p1, p2, d1, d2, d3, d4] | apply And.intro | omega | decide +kernel
            refine ⟨k + 1, ?_, eF [] [] _ _ _ (by refine ⟨?_, ?_⟩ <;> (repeat' first | exact List.forall_mem_nil _ | refine List.forall_mem_cons.2 ⟨(by first | rfl | (simp (disch := omega) only [go_sem, simprocAttr, inL]; first | done | omega | (congr 1; done))), ?_⟩); done) ?_, ?_⟩
            · omega
            · repeat' first | exact List.forall_mem_nil _ | refine List.forall_mem_cons.2 ⟨?_, ?_⟩
              all_goals refine ⟨_, (by first | rfl | (simp (disch := omega) only [go_sem, simprocAttr, hst, he, List.append_nil]; done) | (simp (disch := omega) only [go_sem, simprocAttr, hst, he, List.append_nil]; rfl)), fun i hi => ?_⟩
              all_goals dsimp only at hi ⊢
              all_goals try (exfalso; omega)
              all_goals try (simp (disch := omega) only [go_sem, simprocAttr, hst, he, List.append_nil, fid_lit, lit_fid]; done)
            · omega
    · have : k = ar.length := by omega
      subst this
      try dsimp only
      refine pw_ent _ (ent_famRow _ _ _ _ ⟨nodup_of rfl, nodup_of rfl, (by (repeat' first | exact List.forall_mem_nil _ | refine List.forall_mem_cons.2 ⟨⟨Nat.le_of_ble_eq_true rfl, Nat.le_of_ble_eq_true rfl, by dsimp only; omega⟩, ?_⟩); done)⟩ rfl [3, 914, 915, 23] rfl rfl rfl rfl) ?_
      repeat' first | refine pw_seq ?_ | refine pw_skip ?_ | refine pw_ret ?_ | refine pw_exit ?_ | refine pw_block ?_ | refine pw_region (fun _ => false) hmix ?_ | (refine wpG_split rfl rfl (fun hc => ?_) (fun hc => ?_) <;> try simp only [hcL, reduceCtorEq] at hc) | (refine pw_cond _ rfl rfl (fun hc => ?_) (fun hc => ?_) <;> (try simp only [hcL, reduceCtorEq] at hc) <;> try (exfalso; omega)) | simp (maxSteps := 1000000) (disch := omega) only [go_sem, simprocAttr] | apply And.intro | omega | decide +kernel
      refine ret_ref (o := 23) rfl rfl (by simp) ?_
      rw [List.take_of_length_le (by simp), endsF, List.map_map]
      rfl
end Go.Proofs.Ytelghbnlceeecaa
namespace Go.Proofs.Ytelghbnlceeecaa
open Go Go.PS Go.Proofs
set_option maxRecDepth 100000
attribute [local irreducible] wpRun wpG CallsTo CallsM

/-- How many of q lie below x; pairs whose first is above the second. -/
def under (q : List Int) (x : Int) : Nat := (q.filter fun y => decide (y < x)).length
def behindF : List Int → List Int → Nat
  | [], _ => 0
  | x :: p, q => under q x + behindF p q
theorem under_le (q : List Int) (x : Int) : under q x ≤ q.length := List.length_filter_le _ _
theorem under_snoc (q : List Int) (x y : Int) : under (q ++ [y]) x = under q x + if y < x then 1 else 0 := by
  rw [under, List.filter_append, List.length_append, ← under]
  by_cases h : y < x
  · simp [h]
  · simp [h]
theorem behindF_snoc (p q : List Int) (x : Int) : behindF (p ++ [x]) q = behindF p q + under q x := by
  induction p with
  | nil => simp [behindF]
  | cons y p ih => simp only [List.cons_append, behindF, ih]; omega
theorem behindF_le (p q : List Int) : behindF p q ≤ p.length * q.length := by
  induction p with
  | nil => simp [behindF]
  | cons y p ih =>
    have := under_le q y
    simp only [behindF, List.length_cons, Nat.add_mul]; omega
theorem behind_spec (p q : List Int) (hp : p.length ≤ 1000) (hq : q.length ≤ 1000) : CallsTo Try.prog 111 [intsD p, intsD q] (.int (behindF p q)) := by
  have hb : ∀ k, behindF (p.take k) q ≤ 1000 * 1000 := fun k => by
    refine Nat.le_trans (behindF_le _ _) (Nat.mul_le_mul ?_ hq)
    rw [List.length_take]; omega
  refine callsTo_of Try.func111 rfl (by decide +kernel) (Nat.le_of_ble_eq_true rfl) ?_
  intro hat B X w0
  repeat' first | refine pw_seq ?_ | refine pw_skip ?_ | refine pw_ret ?_ | refine pw_exit ?_ | refine pw_block ?_ | refine pw_region (fun _ => false) hmix ?_ | (refine wpG_split rfl rfl (fun hc => ?_) (fun hc => ?_) <;> try simp only [hcL, reduceCtorEq] at hc) | (refine pw_cond _ rfl rfl (fun hc => ?_) (fun hc => ?_) <;> (try simp only [hcL, reduceCtorEq] at hc) <;> try (exfalso; omega)) | simp (maxSteps := 1000000) (disch := omega) only [go_sem, simprocAttr] | apply And.intro | omega | decide +kernel
  refine pw_loopI (κ := Nat) (fun (i : Nat) => i ≤ p.length) (fun (i : Nat) => [(1, .d (intsD q)), (5, .int (behindF (p.take i) q)), (10, .d (intsD p)), (11, .int p.length), (12, .int i)]) (fun (i : Nat) => []) (fun (i : Nat) => p.length - i) 0 ?_ ?_ ?_
  · exact Nat.zero_le _
  · exact eL [] _ _ (by refine ⟨?_, ?_⟩ <;> (repeat' first | exact List.forall_mem_nil _ | refine List.forall_mem_cons.2 ⟨(by first | rfl | (simp (disch := omega) only [go_sem, simprocAttr, inL, List.take_zero, behindF]; first | done | omega | (congr 1; done))), ?_⟩); done)
  · intro i hi
    rcases Nat.lt_or_ge i p.length with hlt | hge
    · obtain ⟨x, hx⟩ := get_some hlt
      have e1 : behindF (p.take (i + 1)) q = behindF (p.take i) q + under q x := by rw [take_snoc hx, behindF_snoc]
      have hb1 := hb i
      have hb2 := hb (i + 1)
      repeat' first | refine pw_seq ?_ | refine pw_skip ?_ | refine pw_ret ?_ | refine pw_exit ?_ | refine pw_block ?_ | refine pw_region (fun _ => false) hmix ?_ | (refine wpG_split rfl rfl (fun hc => ?_) (fun hc => ?_) <;> try simp only [hcL, reduceCtorEq] at hc) | (refine pw_cond _ rfl rfl (fun hc => ?_) (fun hc => ?_) <;> (try simp only [hcL, reduceCtorEq] at hc) <;> try (exfalso; omega)) | simp (maxSteps := 1000000) (disch := omega) only [go_sem, simprocAttr, hx] | apply And.intro | omega | decide +kernel
      refine pw_loopI (κ := Nat) (fun (j : Nat) => j ≤ q.length) (fun (j : Nat) => [(1, .d (intsD q)), (5, .int (behindF (p.take i) q + under (q.take j) x)), (7, .int x), (10, .d (intsD p)), (11, .int p.length), (12, .int i), (16, .d (intsD q)), (17, .int q.length), (18, .int j)]) (fun (j : Nat) => []) (fun (j : Nat) => q.length - j) 0 ?_ ?_ ?_
      · exact Nat.zero_le _
      · exact eL [] _ _ (by refine ⟨?_, ?_⟩ <;> (repeat' first | exact List.forall_mem_nil _ | refine List.forall_mem_cons.2 ⟨(by first | rfl | (simp (disch := omega) only [go_sem, simprocAttr, inL, List.take_zero, under, List.filter_nil, List.length_nil, Int.add_zero]; first | done | omega | (congr 1; done))), ?_⟩); done)
      · intro j hj
        rcases Nat.lt_or_ge j q.length with hlj | hgj
        · obtain ⟨y, hy⟩ := get_some hlj
          have e2 : under (q.take (j + 1)) x = under (q.take j) x + if y < x then 1 else 0 := by rw [take_snoc hy, under_snoc]
          have hu := under_le (q.take j) x
          rw [List.length_take] at hu
          by_cases c : y < x
          · rw [if_pos c] at e2
            repeat' first | refine pw_seq ?_ | refine pw_skip ?_ | refine pw_ret ?_ | refine pw_exit ?_ | refine pw_block ?_ | refine pw_region (fun _ => false) hmix ?_ | (refine wpG_split rfl rfl (fun hc => ?_) (fun hc => ?_) <;> try simp only [hcL, reduceCtorEq] at hc) | (refine pw_cond _ rfl rfl (fun hc => ?_) (fun hc => ?_) <;> (try simp only [hcL, reduceCtorEq] at hc) <;> try (exfalso; omega)) | simp (maxSteps := 1000000) (disch := omega) only [go_sem, simprocAttr, hy, c] | apply And.intro | omega | decide +kernel
            refine ⟨j + 1, ?_, eL [] _ _ (by refine ⟨?_, ?_⟩ <;> (repeat' first | exact List.forall_mem_nil _ | refine List.forall_mem_cons.2 ⟨(by first | rfl | (simp (disch := omega) only [go_sem, simprocAttr, inL, e2, Int.natCast_add, Int.natCast_one, Int.add_assoc]; first | done | omega | (congr 1; done))), ?_⟩); done), ?_⟩
            · omega
            · omega
          · rw [if_neg c] at e2
            repeat' first | refine pw_seq ?_ | refine pw_skip ?_ | refine pw_ret ?_ | refine pw_exit ?_ | refine pw_block ?_ | refine pw_region (fun _ => false) hmix ?_ | (refine wpG_split rfl rfl (fun hc => ?_) (fun hc => ?_) <;> try simp only [hcL, reduceCtorEq] at hc) | (refine pw_cond _ rfl rfl (fun hc => ?_) (fun hc => ?_) <;> (try simp only [hcL, reduceCtorEq] at hc) <;> try (exfalso; omega)) | simp (maxSteps := 1000000) (disch := omega) only [go_sem, simprocAttr, hy, c] | apply And.intro | omega | decide +kernel
            refine ⟨j + 1, ?_, eL [] _ _ (by refine ⟨?_, ?_⟩ <;> (repeat' first | exact List.forall_mem_nil _ | refine List.forall_mem_cons.2 ⟨(by first | rfl | (simp (disch := omega) only [go_sem, simprocAttr, inL, e2, Nat.add_zero]; first | done | omega | (congr 1; done))), ?_⟩); done), ?_⟩
            · omega
            · omega
        · have : j = q.length := by omega
          subst this
          try dsimp only
          rw [List.take_length]
          repeat' first | refine pw_seq ?_ | refine pw_skip ?_ | refine pw_ret ?_ | refine pw_exit ?_ | refine pw_block ?_ | refine pw_region (fun _ => false) hmix ?_ | (refine wpG_split rfl rfl (fun hc => ?_) (fun hc => ?_) <;> try simp only [hcL, reduceCtorEq] at hc) | (refine pw_cond _ rfl rfl (fun hc => ?_) (fun hc => ?_) <;> (try simp only [hcL, reduceCtorEq] at hc) <;> try (exfalso; omega)) | simp (maxSteps := 1000000) (disch := omega) only [go_sem, simprocAttr] | apply And.intro | omega | decide +kernel
          refine ⟨i + 1, ?_, eL [] _ _ (by refine ⟨?_, ?_⟩ <;> (repeat' first | exact List.forall_mem_nil _ | refine List.forall_mem_cons.2 ⟨(by first | rfl | (simp (disch := omega) only [go_sem, simprocAttr, inL, e1, Int.natCast_add]; first | done | omega | (congr 1; done))), ?_⟩); done), ?_⟩
          · omega
          · omega
    · have : i = p.length := by omega
      subst this
      try dsimp only
      rw [List.take_length]
      repeat' first | refine pw_seq ?_ | refine pw_skip ?_ | refine pw_ret ?_ | refine pw_exit ?_ | refine pw_block ?_ | refine pw_region (fun _ => false) hmix ?_ | (refine wpG_split rfl rfl (fun hc => ?_) (fun hc => ?_) <;> try simp only [hcL, reduceCtorEq] at hc) | (refine pw_cond _ rfl rfl (fun hc => ?_) (fun hc => ?_) <;> (try simp only [hcL, reduceCtorEq] at hc) <;> try (exfalso; omega)) | simp (maxSteps := 1000000) (disch := omega) only [go_sem, simprocAttr] | apply And.intro | omega | decide +kernel
      exact int_some rfl
theorem exists_spec (a : Lv) (i : Int) : CallsTo Try.prog 85 [lvD a, .int i] (.bool (decide (0 ≤ i ∧ i < a.2.1.length))) := by
  obtain ⟨n, ls, ar, cs⟩ := a
  refine callsTo_of Try.func85 rfl (by decide +kernel) (Nat.le_of_ble_eq_true rfl) ?_
  intro hat B X w0
  have hl := at_len2 0 1 hat rfl rfl
  rw [List.length_map] at hl
  dsimp only at hl
  by_cases c : 0 ≤ i
  · repeat' first | refine pw_seq ?_ | refine pw_skip ?_ | refine pw_ret ?_ | refine pw_exit ?_ | refine pw_block ?_ | refine pw_region (fun _ => false) hmix ?_ | (refine wpG_split rfl rfl (fun hc => ?_) (fun hc => ?_) <;> try simp only [hcL, reduceCtorEq] at hc) | (refine pw_cond _ rfl rfl (fun hc => ?_) (fun hc => ?_) <;> (try simp only [hcL, reduceCtorEq] at hc) <;> try (exfalso; omega)) | simp (maxSteps := 1000000) (disch := omega) only [go_sem, simprocAttr, c] | apply And.intro | omega | decide +kernel
    refine bool_some ?_
    simp [c]
  · repeat' first | refine pw_seq ?_ | refine pw_skip ?_ | refine pw_ret ?_ | refine pw_exit ?_ | refine pw_block ?_ | refine pw_region (fun _ => false) hmix ?_ | (refine wpG_split rfl rfl (fun hc => ?_) (fun hc => ?_) <;> try simp only [hcL, reduceCtorEq] at hc) | (refine pw_cond _ rfl rfl (fun hc => ?_) (fun hc => ?_) <;> (try simp only [hcL, reduceCtorEq] at hc) <;> try (exfalso; omega)) | simp (maxSteps := 1000000) (disch := omega) only [go_sem, simprocAttr, c] | apply And.intro | omega | decide +kernel
    refine bool_some ?_
    simp [c]
def lstN (l : List (List Int)) (k : Nat) : List Int := (l[k]?).getD []
def cellF (at_ : List (List Int)) (a b : Nat) : Int := if a = b then 0 else behindF (lstN at_ a) (lstN at_ b)
def matF (at_ : List (List Int)) : List (List Int) := (List.range at_.length).map fun a => (List.range at_.length).map fun b => cellF at_ a b
def matOk (a : Lv) (i f : Int) : Bool := validF a && decide (0 ≤ i ∧ i < a.2.1.length) && decide (0 ≤ f ∧ f < a.2.1.length) && decide (f = i - 1 ∨ f = i + 1)
def lenAt (a : Lv) (i : Int) : Nat := ((a.2.1[i.toNat]?).getD []).length
def MatrixF (a : Lv) (i f : Int) : List (List Int) := if matOk a i f then matF (endsF a.2.1 a.2.2.1 i f (lenAt a i)) else []
/-- A row of the matrix while it is filled. -/
def fillC (at_ : List (List Int)) (a k : Nat) : List Int := fillRow (fun b => cellF at_ a b) at_.length k
set_option maxHeartbeats 8000000 in
theorem Matrix_main (a : Lv) (i f : Nat) (hw : wide a) (hv : validF a = true) (hi : i < a.2.1.length) (hf : f < a.2.1.length) (hif : (f : Int) = i - 1 ∨ (f : Int) = i + 1) :
    CallsTo Try.prog 86 [lvD a, .int i, .int f] (listsD (matF (endsF a.2.1 a.2.2.1 i f (lenAt a i)))) := by
  have h1 := LvValid_spec a hw
  rw [hv] at h1
  have h2 := exists_spec a i
  have h3 := exists_spec a f
  rw [decide_eq_true (by omega)] at h2 h3
  obtain ⟨y, hy⟩ := get_some hi
  have h4 := ends_spec a i f y hv hy
  have hla : lenAt a i = y.length := by rw [lenAt, Int.toNat_natCast, hy]; rfl
  rw [hla]
  obtain ⟨t1, t2⟩ := lv_le hv
  have hyl := tot_mem (List.mem_of_getElem? hy)
  obtain ⟨s1, _, _⟩ := lv_sizes hv
  have hEl : (endsF a.2.1 a.2.2.1 i f y.length).length = y.length := by simp [endsF]
  have hEn : ∀ p ∈ endsF a.2.1 a.2.2.1 i f y.length, p.length ≤ 1000 := by
    intro p hp
    simp only [endsF, List.mem_map, List.mem_range] at hp
    obtain ⟨k, _, rfl⟩ := hp
    have := endsN_len a.2.1 a.2.2.1 i f k a.2.2.1.length
    omega
  generalize endsF a.2.1 a.2.2.1 i f y.length = E at *
  obtain ⟨N, hN⟩ : ∃ N, N = E.length := ⟨_, rfl⟩
  have hN5 : N ≤ 512 := by omega
  have hbh : ∀ (u v : Nat) p q, E[u]? = some p → E[v]? = some q → CallsTo Try.prog 111 [intsD p, intsD q] (.int (behindF p q)) := fun u v p q hu hv => behind_spec p q (hEn p (List.mem_of_getElem? hu)) (hEn q (List.mem_of_getElem? hv))
  obtain ⟨n, ls, ar, cs⟩ := a
  dsimp only at *
  refine callsTo_of Try.func86 rfl (by decide +kernel) (Nat.le_of_ble_eq_true rfl) ?_
  intro hat B X w0
  rcases hif with hif | hif
  all_goals
    repeat' first | refine pw_seq ?_ | refine pw_skip ?_ | refine pw_ret ?_ | refine pw_exit ?_ | refine pw_block ?_ | refine pw_region (fun _ => false) hmix ?_ | (refine rc (h1) rfl ?_ ?_; (· first | rfl | (simp (disch := omega) only [go_sem, simprocAttr, hif, List.append_eq, ← hN]; done))) | (refine rc (h2) rfl ?_ ?_; (· first | rfl | (simp (disch := omega) only [go_sem, simprocAttr, hif, List.append_eq, ← hN]; done))) | (refine rc (h3) rfl ?_ ?_; (· first | rfl | (simp (disch := omega) only [go_sem, simprocAttr, hif, List.append_eq, ← hN]; done))) | (refine rc (h4) rfl ?_ ?_; (· first | rfl | (simp (disch := omega) only [go_sem, simprocAttr, hif, List.append_eq, ← hN]; done))) | (refine wpG_split rfl rfl (fun hc => ?_) (fun hc => ?_) <;> try simp only [hcL, reduceCtorEq] at hc) | (refine pw_cond _ rfl rfl (fun hc => ?_) (fun hc => ?_) <;> (try simp only [hcL, reduceCtorEq] at hc) <;> try (exfalso; omega)) | simp (maxSteps := 1000000) (disch := omega) only [go_sem, simprocAttr, hif, List.append_eq, ← hN] | apply And.intro | omega | decide +kernel
    refine pw_ent _ (ent_famNew 1 44 1 N rfl (fun i hi => by simp (disch := omega) only [go_sem, simprocAttr, obOf_fid, argEnv]) (by decide) (by decide)) ?_
    refine pw_loopF (κ := Nat) (fun (u : Nat) => u ≤ N) (fun (u : Nat) => [(3, .ptr 3 0 0 0), (7, .d (listsD E)), (8, .ref 44 1 0 N N), (46, .int N), (47, .int u)]) (fun (u : Nat) => [⟨1, 44, 1, N, fun k => if k < u then (fillC E k N).map D.int else []⟩]) (fun (u : Nat) => [(3, .cells [.int n, .d (listsD ls), .d (arcsD ar), .d (listsD cs)])]) (fun (u : Nat) => N - u) 0 ?_ ?_ ?_
    · exact Nat.zero_le _
    · refine eF [] [] _ _ _ (by refine ⟨?_, ?_⟩ <;> (repeat' first | exact List.forall_mem_nil _ | refine List.forall_mem_cons.2 ⟨(by first | rfl | (simp (disch := omega) only [go_sem, simprocAttr, inL, ← hN]; first | done | omega | (congr 1; done))), ?_⟩); done) ?_
      repeat' first | exact List.forall_mem_nil _ | refine List.forall_mem_cons.2 ⟨?_, ?_⟩
      all_goals refine ⟨_, (by first | rfl | (simp (disch := omega) only [go_sem, simprocAttr, Nat.not_lt_zero]; done) | (simp (disch := omega) only [go_sem, simprocAttr, Nat.not_lt_zero]; rfl)), fun i hi => ?_⟩
      all_goals dsimp only at hi ⊢
      all_goals try (exfalso; omega)
      all_goals try (simp (disch := omega) only [go_sem, simprocAttr, Nat.not_lt_zero, fid_lit, lit_fid]; done)
    · intro u hu
      rcases Nat.lt_or_ge u N with hlt | hge
      · obtain ⟨eu, heu⟩ := get_some (l := E) (k := u) (by omega)
        have hz : List.replicate N (D.int 0) = (fillC E u 0).map D.int := by rw [fillC, fillRow_zero, hN]
        have hnu : ¬ u < u := by omega
        refine pw_ent _ (ent_bor _ _ [3, 44] 44 u 900 1 1 N (by first | rfl | (simp (disch := omega) only [go_sem, simprocAttr, hnu]; done) | (simp (disch := omega) only [go_sem, simprocAttr, hnu]; rfl)) (by first | (simp (disch := omega) only [go_sem, simprocAttr, hnu]; done) | (simp (disch := omega) only [go_sem, simprocAttr, hnu]; rfl)) (by first | (simp (disch := omega) only [go_sem, simprocAttr, hnu]; done) | (simp (disch := omega) only [go_sem, simprocAttr, hnu]; rfl)) (fun i hi hne => by simp (disch := omega) only [go_sem, simprocAttr, hne, hnu]; (repeat' split) <;> exact .ref _ _ _ _ _ ⟨by simp (disch := omega) only [go_sem, simprocAttr, hne, hnu], by simp (disch := omega) only [go_sem, simprocAttr, hne, hnu]⟩) (by (repeat' first | refine ab_nil ?_ | exact ab_obOf (ids := [3, 44]) rfl rfl (Nat.le_of_ble_eq_true rfl) | refine ab_hole ?_ | refine ab_row ?_ | refine ab_dead ?_ | refine ab_self ?_ | refine ab_self_fam ?_ | refine ab_fam (by dsimp only; omega) (by dsimp only; omega) (by omega) (by omega) (Nat.le_of_ble_eq_true rfl) ?_); done) rfl rfl rfl) ?_
        repeat' first | refine pw_seq ?_ | refine pw_skip ?_ | refine pw_ret ?_ | refine pw_exit ?_ | refine pw_block ?_ | refine pw_region (Nat.beq 54) hmix ?_ | (refine wpG_split rfl rfl (fun hc => ?_) (fun hc => ?_) <;> try simp only [hcL, reduceCtorEq] at hc) | (refine pw_cond _ rfl rfl (fun hc => ?_) (fun hc => ?_) <;> (try simp only [hcL, reduceCtorEq] at hc) <;> try (exfalso; omega)) | simp (maxSteps := 1000000) (disch := omega) only [go_sem, simprocAttr, ← hN, hnu] | apply And.intro | omega | decide +kernel
        refine pw_loopF (κ := Nat) (fun (b : Nat) => b ≤ N) (fun (b : Nat) => [(3, .ptr 3 0 0 0), (7, .d (listsD E)), (8, .ref 44 1 0 N N), (9, .int u), (46, .int N), (47, .int u), (57, .int N), (58, .int b)]) (fun (b : Nat) => [⟨1, 44, 1, N, fun k => if k < u then (fillC E k N).map D.int else if k = u then (fillC E u b).map D.int else []⟩]) (fun (b : Nat) => [(3, .cells [.int n, .d (listsD ls), .d (arcsD ar), .d (listsD cs)])]) (fun (b : Nat) => N - b) 0 ?_ ?_ ?_
        · exact Nat.zero_le _
        · refine eF [(fid 1 u, 54)] [] _ _ _ (by refine ⟨?_, ?_⟩ <;> (repeat' first | exact List.forall_mem_nil _ | refine List.forall_mem_cons.2 ⟨(by first | rfl | (simp (disch := omega) only [go_sem, simprocAttr, inL, ← hN]; first | done | omega | (congr 1; done))), ?_⟩); done) ?_
          repeat' first | exact List.forall_mem_nil _ | refine List.forall_mem_cons.2 ⟨?_, ?_⟩
          all_goals refine ⟨_, (by first | rfl | (simp (disch := omega) only [go_sem, simprocAttr, hz, fillRow_len, fillC, List.length_map, ← hN, hnu]; done) | (simp (disch := omega) only [go_sem, simprocAttr, hz, fillRow_len, fillC, List.length_map, ← hN, hnu]; rfl)), fun i hi => ?_⟩
          all_goals dsimp only at hi ⊢
          all_goals rcases Decidable.em (i = u) with rfl | hi0
          all_goals try (exfalso; omega)
          all_goals try (simp (disch := omega) only [go_sem, simprocAttr, hz, fillRow_len, fillC, List.length_map, ← hN, hnu, fid_lit, lit_fid]; done)
          all_goals try (simp (disch := omega) only [go_sem, simprocAttr, hz, fillRow_len, fillC, List.length_map, ← hN, hnu, hi0, fid_lit, lit_fid]; done)
        · intro b hb
          have hfl := fillRow_len (fun b => cellF E u b) E.length b
          rw [← hN] at hfl
          rcases Nat.lt_or_ge b N with hlb | hgb
          · obtain ⟨eb, heb⟩ := get_some (l := E) (k := b) (by omega)
            have hg : (fillC E u b)[b]? = some 0 := by rw [fillC, fillRow_get (by omega), if_neg (by omega)]
            have hst : (fillC E u b).set b (cellF E u b) = fillC E u (b + 1) := fillRow_step (g := fun b => cellF E u b) (by omega)
            have hbe := hbh u b eu eb heu heb
            have hfl2 : (fillC E u b).length = N := by rw [fillC, fillRow_len, hN]
            by_cases c : u = b
            · have hcell : cellF E u b = 0 := by rw [cellF, if_pos c]
              have hst2 : fillC E u (b + 1) = fillC E u b := by
                rw [← hst, hcell]
                refine List.ext_getElem? fun v => ?_
                rw [List.getElem?_set]
                split
                · rename_i hv2; subst hv2; rw [hg, if_pos (by omega)]
                · rfl
              have cI : (u : Int) = b := by omega
              repeat' first | refine pw_seq ?_ | refine pw_skip ?_ | refine pw_ret ?_ | refine pw_exit ?_ | refine pw_block ?_ | refine pw_region (fun _ => false) hmix ?_ | (refine wpG_split rfl rfl (fun hc => ?_) (fun hc => ?_) <;> try simp only [hcL, reduceCtorEq] at hc) | (refine pw_cond _ rfl rfl (fun hc => ?_) (fun hc => ?_) <;> (try simp only [hcL, reduceCtorEq] at hc) <;> try (exfalso; omega)) | simp (maxSteps := 1000000) (disch := omega) only [go_sem, simprocAttr, ← hN, cI] | apply And.intro | omega | decide +kernel
              refine ⟨b + 1, ?_, eF [] [] _ _ _ (by refine ⟨?_, ?_⟩ <;> (repeat' first | exact List.forall_mem_nil _ | refine List.forall_mem_cons.2 ⟨(by first | rfl | (simp (disch := omega) only [go_sem, simprocAttr, inL]; first | done | omega | (congr 1; done))), ?_⟩); done) ?_, ?_⟩
              · omega
              · repeat' first | exact List.forall_mem_nil _ | refine List.forall_mem_cons.2 ⟨?_, ?_⟩
                all_goals refine ⟨_, (by first | rfl | (simp (disch := omega) only [go_sem, simprocAttr, hst2, hnu]; done) | (simp (disch := omega) only [go_sem, simprocAttr, hst2, hnu]; rfl)), fun i hi => ?_⟩
                all_goals dsimp only at hi ⊢
                all_goals rcases Decidable.em (i = u) with rfl | hi0
                all_goals try (exfalso; omega)
                all_goals try (simp (disch := omega) only [go_sem, simprocAttr, hst2, hnu, fid_lit, lit_fid]; done)
                all_goals try (simp (disch := omega) only [go_sem, simprocAttr, hst2, hnu, hi0, fid_lit, lit_fid]; done)
              · omega
            · have hcell : cellF E u b = behindF eu eb := by rw [cellF, if_neg c, lstN, lstN, heu, heb]; rfl
              have cI : ¬ (u : Int) = b := by omega
              rw [hcell] at hst
              refine pw_ent _ (ent_bor _ _ [3, 44] 44 u 900 1 1 N (by first | rfl | (simp (disch := omega) only [go_sem, simprocAttr, hnu, hfl2]; done) | (simp (disch := omega) only [go_sem, simprocAttr, hnu, hfl2]; rfl)) (by first | (simp (disch := omega) only [go_sem, simprocAttr, hnu, hfl2]; done) | (simp (disch := omega) only [go_sem, simprocAttr, hnu, hfl2]; rfl)) (by first | (simp (disch := omega) only [go_sem, simprocAttr, hnu, hfl2]; done) | (simp (disch := omega) only [go_sem, simprocAttr, hnu, hfl2]; rfl)) (fun i hi hne => by simp (disch := omega) only [go_sem, simprocAttr, hne, hnu, hfl2]; (repeat' split) <;> exact .ref _ _ _ _ _ ⟨by simp (disch := omega) only [go_sem, simprocAttr, hne, hnu, hfl2], by simp (disch := omega) only [go_sem, simprocAttr, hne, hnu, hfl2]⟩) (by (repeat' first | refine ab_nil ?_ | exact ab_obOf (ids := [3, 44]) rfl rfl (Nat.le_of_ble_eq_true rfl) | refine ab_hole ?_ | refine ab_row ?_ | refine ab_dead ?_ | refine ab_self ?_ | refine ab_self_fam ?_ | refine ab_fam (by dsimp only; omega) (by dsimp only; omega) (by omega) (by omega) (Nat.le_of_ble_eq_true rfl) ?_); done) rfl rfl rfl) ?_
              repeat' first | refine pw_seq ?_ | refine pw_skip ?_ | refine pw_ret ?_ | refine pw_exit ?_ | refine pw_block ?_ | refine pw_region (fun _ => false) hmix ?_ | (refine rc (hbe) rfl ?_ ?_; (· first | rfl | (simp (disch := omega) only [go_sem, simprocAttr, ← hN, cI, heu, heb, hg, hfl2, hnu]; done))) | (refine wpG_split rfl rfl (fun hc => ?_) (fun hc => ?_) <;> try simp only [hcL, reduceCtorEq] at hc) | (refine pw_cond _ rfl rfl (fun hc => ?_) (fun hc => ?_) <;> (try simp only [hcL, reduceCtorEq] at hc) <;> try (exfalso; omega)) | simp (maxSteps := 1000000) (disch := omega) only [go_sem, simprocAttr, ← hN, cI, heu, heb, hg, hfl2, hnu] | apply And.intro | omega | decide +kernel
              refine ⟨b + 1, ?_, eF [(fid 1 u, 900)] [] _ _ _ (by refine ⟨?_, ?_⟩ <;> (repeat' first | exact List.forall_mem_nil _ | refine List.forall_mem_cons.2 ⟨(by first | rfl | (simp (disch := omega) only [go_sem, simprocAttr, inL]; first | done | omega | (congr 1; done))), ?_⟩); done) ?_, ?_⟩
              · omega
              · repeat' first | exact List.forall_mem_nil _ | refine List.forall_mem_cons.2 ⟨?_, ?_⟩
                all_goals refine ⟨_, (by first | rfl | (simp (disch := omega) only [go_sem, simprocAttr, hst.symm, List.map_set, List.length_set, List.length_map, hfl2, hnu]; done) | (simp (disch := omega) only [go_sem, simprocAttr, hst.symm, List.map_set, List.length_set, List.length_map, hfl2, hnu]; rfl)), fun i hi => ?_⟩
                all_goals dsimp only at hi ⊢
                all_goals rcases Decidable.em (i = u) with rfl | hi0
                all_goals try (exfalso; omega)
                all_goals try (simp (disch := omega) only [go_sem, simprocAttr, hst.symm, List.map_set, List.length_set, List.length_map, hfl2, hnu, fid_lit, lit_fid]; done)
                all_goals try (simp (disch := omega) only [go_sem, simprocAttr, hst.symm, List.map_set, List.length_set, List.length_map, hfl2, hnu, hi0, fid_lit, lit_fid]; done)
              · omega
          · have : b = N := by omega
            subst this
            have hsu : ∀ i, i ≠ u → ((i < u + 1) = (i < u)) := fun i h => propext (by omega)
            repeat' first | refine pw_seq ?_ | refine pw_skip ?_ | refine pw_ret ?_ | refine pw_exit ?_ | refine pw_block ?_ | refine pw_region (fun _ => false) hmix ?_ | (refine wpG_split rfl rfl (fun hc => ?_) (fun hc => ?_) <;> try simp only [hcL, reduceCtorEq] at hc) | (refine pw_cond _ rfl rfl (fun hc => ?_) (fun hc => ?_) <;> (try simp only [hcL, reduceCtorEq] at hc) <;> try (exfalso; omega)) | simp (maxSteps := 1000000) (disch := omega) only [go_sem, simprocAttr] | apply And.intro | omega | decide +kernel
            refine ⟨u + 1, ?_, eF [] [] _ _ _ (by refine ⟨?_, ?_⟩ <;> (repeat' first | exact List.forall_mem_nil _ | refine List.forall_mem_cons.2 ⟨(by first | rfl | (simp (disch := omega) only [go_sem, simprocAttr, inL]; first | done | omega | (congr 1; done))), ?_⟩); done) ?_, ?_⟩
            · omega
            · repeat' first | exact List.forall_mem_nil _ | refine List.forall_mem_cons.2 ⟨?_, ?_⟩
              all_goals refine ⟨_, (by first | rfl | (simp (disch := omega) only [go_sem, simprocAttr, hnu, hsu, Nat.lt_add_one]; done) | (simp (disch := omega) only [go_sem, simprocAttr, hnu, hsu, Nat.lt_add_one]; rfl)), fun i hi => ?_⟩
              all_goals dsimp only at hi ⊢
              all_goals rcases Decidable.em (i = u) with rfl | hi0
              all_goals try (exfalso; omega)
              all_goals try (simp (disch := omega) only [go_sem, simprocAttr, hnu, hsu, Nat.lt_add_one, fid_lit, lit_fid]; done)
              all_goals try (simp (disch := omega) only [go_sem, simprocAttr, hnu, hsu, Nat.lt_add_one, hi0, fid_lit, lit_fid]; done)
            · omega
      · have : u = N := by omega
        subst this
        try dsimp only
        refine pw_ent _ (ent_famRow _ _ _ _ ⟨nodup_of rfl, nodup_of rfl, (by (repeat' first | exact List.forall_mem_nil _ | refine List.forall_mem_cons.2 ⟨⟨Nat.le_of_ble_eq_true rfl, Nat.le_of_ble_eq_true rfl, by dsimp only; omega⟩, ?_⟩); done)⟩ rfl [3, 44] rfl rfl rfl rfl) ?_
        repeat' first | refine pw_seq ?_ | refine pw_skip ?_ | refine pw_ret ?_ | refine pw_exit ?_ | refine pw_block ?_ | refine pw_region (fun _ => false) hmix ?_ | (refine wpG_split rfl rfl (fun hc => ?_) (fun hc => ?_) <;> try simp only [hcL, reduceCtorEq] at hc) | (refine pw_cond _ rfl rfl (fun hc => ?_) (fun hc => ?_) <;> (try simp only [hcL, reduceCtorEq] at hc) <;> try (exfalso; omega)) | simp (maxSteps := 1000000) (disch := omega) only [go_sem, simprocAttr] | apply And.intro | omega | decide +kernel
        refine ret_ref (o := 44) rfl rfl (by simp) ?_
        rw [List.take_of_length_le (by simp), matF, ← hN, List.map_map]
        refine List.map_congr_left fun k hk => ?_
        rw [if_pos (List.mem_range.1 hk), fillC, ← hN, fillRow_end]
        rfl
end Go.Proofs.Ytelghbnlceeecaa
