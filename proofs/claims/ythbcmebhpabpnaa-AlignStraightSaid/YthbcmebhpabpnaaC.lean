/- Levels built: the walk. -/
import Derived.Test.YthbcmebhpabpnaaTypes
set_option linter.unusedSimpArgs false
set_option linter.unusedVariables false
namespace Go.Proofs.Ythbcmebhpabpnaa
open Go Go.PS Go.Proofs
set_option maxRecDepth 100000
attribute [local irreducible] wpRun wpG CallsTo CallsM
theorem ranksOk_in {g : Gr} {r : List Int} (h : ranksOk g r = true) : gOk g = true ∧ (r.length : Int) = g.1 ∧ r.any rankBad = false ∧ ∀ v : Nat, 0 ≤ at0 r v ∧ at0 r v ≤ 255 := by
 simp only [ranksOk, Bool.and_eq_true, decide_eq_true_eq, Bool.not_eq_true'] at h
 obtain ⟨⟨h1, h2⟩, h3⟩ := h
 refine ⟨h1, h2, h3, fun v => ?_⟩
 rw [at0]
 cases hx : r[((v : Nat) : Int).toNat]? with
 | none => simp
 | some x =>
  simp only [List.any_eq_false] at h3
  have := h3 x (List.mem_of_getElem? hx)
  simp only [rankBad, decide_eq_true_eq] at this
  dsimp only [Option.getD_some]
  omega
set_option maxHeartbeats 4000000 in
theorem Build_err1 (g : Gr) (r : List Int) (h : ranksOk g r = false) : CallsTo Try.prog 39 [gD g, intsD r] (.tup [lvD lv0, .int 1]) := by
 have hv := Valid_spec g
 have hc := containsF_spec r 53 rankBad rankBad_spec
 rcases h1 : gOk g with _ | _ <;> rw [h1] at hv
 ·refine callsTo_of Try.func39 rfl (by decide +kernel) (Nat.le_of_ble_eq_true rfl) ?_
  intro hat B X w0
  repeat' first | refine pw_step rfl ?_ | refine pw_ret ?_ | refine wR ?_ | (refine rc (hv) rfl ?_ ?_; (· first | rfl | simp (disch := omega) only [go_sem, simprocAttr, List.append_eq])) | (refine wpG_split rfl rfl (fun hc => ?_) (fun hc => ?_) <;> try simp only [hcL] at hc) | (refine pw_cond _ rfl rfl (fun hc => ?_) (fun hc => ?_) <;> (try simp only [hcL] at hc) <;> try omega) | simp (disch := omega) only [go_sem, simprocAttr, List.append_eq] | apply And.intro | omega | decide +kernel
  all_goals
   refine ⟨_, rfl, ⟨_, _, _, _, rfl, ?_⟩, int_some ?_, trivial⟩
   ·simp (disch := omega) only [go_sem, simprocAttr, toD]
    rfl
   ·rfl
 ·by_cases h2 : (r.length : Int) = g.1
  ·have h3 : r.any rankBad = true := by simpa [ranksOk, h1, h2] using h
   rw [h3] at hc
   refine callsTo_of Try.func39 rfl (by decide +kernel) (Nat.le_of_ble_eq_true rfl) ?_
   intro hat B X w0
   have hl := at_len 1 hat rfl
   rw [List.length_map] at hl
   repeat' first | refine pw_step rfl ?_ | refine pw_ret ?_ | refine wR ?_ | (refine rc (hv) rfl ?_ ?_; (· first | rfl | simp (disch := omega) only [go_sem, simprocAttr, List.append_eq, h2])) | (refine rc (hc) rfl ?_ ?_; (· first | rfl | simp (disch := omega) only [go_sem, simprocAttr, List.append_eq, h2])) | (refine wpG_split rfl rfl (fun hc => ?_) (fun hc => ?_) <;> try simp only [hcL] at hc) | (refine pw_cond _ rfl rfl (fun hc => ?_) (fun hc => ?_) <;> (try simp only [hcL] at hc) <;> try omega) | simp (disch := omega) only [go_sem, simprocAttr, List.append_eq, h2] | apply And.intro | omega | decide +kernel
   all_goals
    refine ⟨_, rfl, ⟨_, _, _, _, rfl, ?_⟩, int_some ?_, trivial⟩
    ·simp (disch := omega) only [go_sem, simprocAttr, toD]
     rfl
    ·rfl
  ·refine callsTo_of Try.func39 rfl (by decide +kernel) (Nat.le_of_ble_eq_true rfl) ?_
   intro hat B X w0
   have hl := at_len 1 hat rfl
   rw [List.length_map] at hl
   repeat' first | refine pw_step rfl ?_ | refine pw_ret ?_ | refine wR ?_ | (refine rc (hv) rfl ?_ ?_; (· first | rfl | simp (disch := omega) only [go_sem, simprocAttr, List.append_eq, h2])) | (refine rc (hc) rfl ?_ ?_; (· first | rfl | simp (disch := omega) only [go_sem, simprocAttr, List.append_eq, h2])) | (refine wpG_split rfl rfl (fun hc => ?_) (fun hc => ?_) <;> try simp only [hcL] at hc) | (refine pw_cond _ rfl rfl (fun hc => ?_) (fun hc => ?_) <;> (try simp only [hcL] at hc) <;> try omega) | simp (disch := omega) only [go_sem, simprocAttr, List.append_eq, h2] | apply And.intro | omega | decide +kernel
   all_goals
    refine ⟨_, rfl, ⟨_, _, _, _, rfl, ?_⟩, int_some ?_, trivial⟩
    ·simp (disch := omega) only [go_sem, simprocAttr, toD]
     rfl
    ·rfl
set_option maxHeartbeats 4000000 in
theorem Build_err2 (g : Gr) (r : List Int) (h : ranksOk g r = true) (h4 : g.2.any loopF = true) : CallsTo Try.prog 39 [gD g, intsD r] (.tup [lvD lv0, .int 8]) := by
 have hv := Valid_spec g
 have hc := containsF_spec r 53 rankBad rankBad_spec
 have hd := containsFA_spec g.2 55 loopF loop_spec
 obtain ⟨h1, h2, h3, h5⟩ := ranksOk_in h
 rw [h1] at hv
 rw [h3] at hc
 rw [h4] at hd
 refine callsTo_of Try.func39 rfl (by decide +kernel) (Nat.le_of_ble_eq_true rfl) ?_
 intro hat B X w0
 have hl := at_len 1 hat rfl
 rw [List.length_map] at hl
 repeat' first | refine pw_step rfl ?_ | refine pw_ret ?_ | refine wR ?_ | (refine rc (hv) rfl ?_ ?_; (· first | rfl | simp (disch := omega) only [go_sem, simprocAttr, List.append_eq, h2])) | (refine rc (hc) rfl ?_ ?_; (· first | rfl | simp (disch := omega) only [go_sem, simprocAttr, List.append_eq, h2])) | (refine rc (hd) rfl ?_ ?_; (· first | rfl | simp (disch := omega) only [go_sem, simprocAttr, List.append_eq, h2])) | (refine wpG_split rfl rfl (fun hc => ?_) (fun hc => ?_) <;> try simp only [hcL] at hc) | (refine pw_cond _ rfl rfl (fun hc => ?_) (fun hc => ?_) <;> (try simp only [hcL] at hc) <;> try omega) | simp (disch := omega) only [go_sem, simprocAttr, List.append_eq, h2] | apply And.intro | omega | decide +kernel
 all_goals
  refine ⟨_, rfl, ⟨_, _, _, _, rfl, ?_⟩, int_some ?_, trivial⟩
  ·simp (disch := omega) only [go_sem, simprocAttr, toD]
   rfl
  ·rfl
theorem sumG_in {r : List Int} {l : List Arc} (h5 : ∀ v : Nat, 0 ≤ at0 r v ∧ at0 r v ≤ 255) (hin : ∀ (k : Nat) a, l[k]? = some a → 0 ≤ a.1 ∧ 0 ≤ a.2) : ∀ k : Nat, -(256 * (k : Int)) ≤ sumG r l k ∧ sumG r l k ≤ 256 * (k : Int)
 | 0 => by simp [sumG]
 | k + 1 => by
  have ih := sumG_in h5 hin k
  cases ha : l[k]? with
  | none => simp only [sumG, ha]; omega
  | some a =>
   have h1 := hin k a ha
   have e1 := h5 a.1.toNat
   have e2 := h5 a.2.toNat
   rw [show ((a.1.toNat : Nat) : Int) = a.1 by omega] at e1
   rw [show ((a.2.toNat : Nat) : Int) = a.2 by omega] at e2
   have e : sumG r l (k + 1) = sumG r l k + (at0 r a.2 - at0 r a.1 - 1) := by rw [sumG, ha]
   rw [e]
   generalize at0 r a.2 = x at *
   generalize at0 r a.1 = y at *
   omega
theorem allR_le {r : List Int} {l : List Arc} (hgap : ∀ (k : Nat) a, l[k]? = some a → 0 ≤ at0 r a.2 - at0 r a.1 - 1) : ∀ e, e ≤ l.length → ((allR r l e).length : Int) = r.length + sumG r l e := by
 intro e
 induction e with
 | zero => intro _; simp [allR, sumG]
 | succ e ih =>
  intro he
  obtain ⟨a, ha⟩ := get_some (show e < l.length by omega)
  have h1 := hgap e a ha
  have e1 : sumG r l (e + 1) = sumG r l e + (at0 r a.2 - at0 r a.1 - 1) := by rw [sumG, ha]
  rw [allR_succ ha, List.length_append, news_len, e1, gapN]
  have := ih (by omega)
  omega
theorem sumG_mono {r : List Int} {l : List Arc} (hgap : ∀ (k : Nat) a, l[k]? = some a → 0 ≤ at0 r a.2 - at0 r a.1 - 1) : ∀ (m e : Nat), e ≤ m → sumG r l e ≤ sumG r l m := by
 intro m
 induction m with
 | zero => intro e he; rw [show e = 0 by omega]; exact Int.le_refl _
 | succ m ih =>
  intro e he
  rcases Nat.lt_or_ge e (m + 1) with h | h
  ·have := ih e (by omega)
   cases ha : l[m]? with
   | none => have e1 : sumG r l (m + 1) = sumG r l m + 0 := by rw [sumG, ha]
             omega
   | some a =>
    have e1 : sumG r l (m + 1) = sumG r l m + (at0 r a.2 - at0 r a.1 - 1) := by rw [sumG, ha]
    have := hgap m a ha
    omega
  ·rw [show e = m + 1 by omega]; exact Int.le_refl _
theorem arcsF_len {r : List Int} {l : List Arc} (hgap : ∀ (k : Nat) a, l[k]? = some a → 0 ≤ at0 r a.2 - at0 r a.1 - 1) : ∀ e, e ≤ l.length → (arcsF r l e).length + r.length = (allR r l e).length + e := by
 intro e
 induction e with
 | zero => intro _; simp [arcsF, catN, allR]
 | succ e ih =>
  intro he
  obtain ⟨a, ha⟩ := get_some (show e < l.length by omega)
  have := ih (by omega)
  simp only [arcsF, catN, List.length_append] at this ⊢
  rw [allR_succ ha, List.length_append, news_len, arcsAt, ha]
  dsimp only
  rw [pairsN_len]
  omega
theorem chainsF_len (r : List Int) (l : List Arc) : ∀ e, e ≤ l.length → (chainsF r l e).length = e := by
 intro e
 induction e with
 | zero => intro _; simp [chainsF, catN]
 | succ e ih =>
  intro he
  obtain ⟨a, ha⟩ := get_some (show e < l.length by omega)
  have := ih (by omega)
  simp only [chainsF, catN, List.length_append] at this ⊢
  rw [chainAt, ha]
  dsimp only [List.length_cons, List.length_nil]
  omega
set_option maxHeartbeats 16000000 in
theorem Build_main (g : Gr) (r : List Int) (h : ranksOk g r = true) (h4 : g.2.any loopF = false) : CallsTo Try.prog 39 [gD g, intsD r] (.tup [lvD (buildF g r).1, .int (buildF g r).2]) := by
 have hv := Valid_spec g
 have hc := containsF_spec r 53 rankBad rankBad_spec
 have hd := containsFA_spec g.2 55 loopF loop_spec
 obtain ⟨h1, h2, h3, h5⟩ := ranksOk_in h
 have hbf : buildF g r = if g.2.any (upward r) then (lv0, 3) else if 512 < g.1 + sumG r g.2 g.2.length then (lv0, 2) else (madeF g r, 0) := by
  rw [buildF, h, h4]; simp
 obtain ⟨g1, g2, g3, g4⟩ := gOk_in h1
 rw [h1] at hv
 rw [h3] at hc
 rw [h4] at hd
 obtain ⟨m, l⟩ := g
 dsimp only at g1 g2 g3 g4 h2 hd hbf
 obtain ⟨n, rfl⟩ : ∃ n : Nat, m = n := ⟨m.toNat, by omega⟩
 have hrn : r.length = n := by omega
 have hsum := sumG_in (r := r) (l := l) h5 (fun k a ha => by have := g4 k a ha; omega)
 refine callsTo_of Try.func39 rfl (by decide +kernel) (Nat.le_of_ble_eq_true rfl) ?_
 intro hat B X w0
 repeat' first | refine pw_step rfl ?_ | refine pw_ret ?_ | refine wR ?_ | (refine rc (hv) rfl ?_ ?_; (· first | rfl | simp (disch := omega) only [go_sem, simprocAttr, List.append_eq, hrn])) | (refine rc (hc) rfl ?_ ?_; (· first | rfl | simp (disch := omega) only [go_sem, simprocAttr, List.append_eq, hrn])) | (refine rc (hd) rfl ?_ ?_; (· first | rfl | simp (disch := omega) only [go_sem, simprocAttr, List.append_eq, hrn])) | (refine wpG_split rfl rfl (fun hc => ?_) (fun hc => ?_) <;> try simp only [hcL] at hc) | (refine pw_cond _ rfl rfl (fun hc => ?_) (fun hc => ?_) <;> (try simp only [hcL] at hc) <;> try omega) | simp (disch := omega) only [go_sem, simprocAttr, List.append_eq, hrn] | apply And.intro | omega | decide +kernel
 refine pw_loopI (κ := Nat) (fun (k : Nat) => k ≤ l.length ∧ ∀ (j : Nat) y, j < k → l[j]? = some y → upward r y = false) (fun (k : Nat) => [(1, .d (intsD r)), (2, .ptr 2 0 0 0), (4, .ptr 4 0 0 0), (6, .int (n + sumG r l k)), (41, .d (arcsD l)), (42, .int l.length), (43, .int k)]) (fun (k : Nat) => [(2, .cells [.int n, .d (arcsD l)]), (4, .cells [.int 0, .nilS, .nilS, .nilS])]) (fun (k : Nat) => l.length - k) 0 ?_ ?_ ?_
 ·exact ⟨Nat.zero_le _, fun j y h => by omega⟩
 ·exact eL [] _ _ (by refine ⟨?_, ?_⟩ <;> (repeat' first | exact fmn | refine fmc ⟨(by first | rfl | (simp (disch := omega) only [go_sem, simprocAttr, inL, sumG, Int.add_zero]; first | done | omega | (congr 1; done))), ?_⟩); done)
 ·rintro k ⟨hk, hinv⟩
  have hsk := hsum k
  rcases Nat.lt_or_ge k l.length with hlt | hge
  ·obtain ⟨a, ha⟩ := get_some hlt
   have hai := g4 k a ha
   have e1 := at0_get (r := r) (v := a.1) hai.1 (by omega)
   have e2 := at0_get (r := r) (v := a.2) hai.2.2.1 (by omega)
   have f1 := h5 a.1.toNat
   have f2 := h5 a.2.toNat
   rw [show ((a.1.toNat : Nat) : Int) = a.1 by omega] at f1
   rw [show ((a.2.toNat : Nat) : Int) = a.2 by omega] at f2
   have hss : sumG r l (k + 1) = sumG r l k + (at0 r a.2 - at0 r a.1 - 1) := by rw [sumG, ha]
   rcases hup : upward r a with _ | _
   ·rw [upward, decide_eq_false_iff_not] at hup
    repeat' first | refine pw_step rfl ?_ | refine pw_ret ?_ | refine wR ?_ | (refine wpG_split rfl rfl (fun hc => ?_) (fun hc => ?_) <;> try simp only [hcL] at hc) | (refine pw_cond _ rfl rfl (fun hc => ?_) (fun hc => ?_) <;> (try simp only [hcL] at hc) <;> try omega) | simp (disch := omega) only [go_sem, simprocAttr, ha, e1, e2, hrn] | apply And.intro | omega | decide +kernel
    refine ⟨k + 1, ?_, eL [] _ _ (by refine ⟨?_, ?_⟩ <;> (repeat' first | exact fmn | refine fmc ⟨(by first | rfl | (simp (disch := omega) only [go_sem, simprocAttr, inL, hss, Int.add_assoc]; first | done | omega | (congr 1; done))), ?_⟩); done), ?_⟩
    ·exact ⟨by omega, upto_succ hinv ha (by rw [upward, decide_eq_false_iff_not]; exact hup)⟩
    ·omega
   ·have hany : l.any (upward r) = true := any_at ha hup
    rw [upward, decide_eq_true_eq] at hup
    rw [hbf, if_pos hany]
    repeat' first | refine pw_step rfl ?_ | refine pw_ret ?_ | refine wR ?_ | (refine wpG_split rfl rfl (fun hc => ?_) (fun hc => ?_) <;> try simp only [hcL] at hc) | (refine pw_cond _ rfl rfl (fun hc => ?_) (fun hc => ?_) <;> (try simp only [hcL] at hc) <;> try omega) | simp (disch := omega) only [go_sem, simprocAttr, ha, e1, e2, hrn] | apply And.intro | omega | decide +kernel
    refine ⟨_, rfl, ⟨_, _, _, _, rfl, ?_⟩, int_some ?_, trivial⟩
    ·simp (disch := omega) only [go_sem, simprocAttr, toD]
     rfl
    ·rfl
  ·have : k = l.length := by omega
   subst this
   have hany : l.any (upward r) = false := any_no fun j y hj => hinv j y (by omega)
   rw [hbf, if_neg (by rw [hany]; decide)]
   by_cases hbig : 512 < (n : Int) + sumG r l l.length
   ·rw [if_pos hbig]
    repeat' first | refine pw_step rfl ?_ | refine pw_ret ?_ | refine wR ?_ | (refine wpG_split rfl rfl (fun hc => ?_) (fun hc => ?_) <;> try simp only [hcL] at hc) | (refine pw_cond _ rfl rfl (fun hc => ?_) (fun hc => ?_) <;> (try simp only [hcL] at hc) <;> try omega) | simp (disch := omega) only [go_sem, simprocAttr] | apply And.intro | omega | decide +kernel
    refine ⟨_, rfl, ⟨_, _, _, _, rfl, ?_⟩, int_some ?_, trivial⟩
    ·simp (disch := omega) only [go_sem, simprocAttr, toD]
     rfl
    ·rfl
   ·rw [if_neg hbig]
    have hgap : ∀ (k : Nat) a, l[k]? = some a → 0 ≤ at0 r a.2 - at0 r a.1 - 1 := fun k a ha => by
     have := List.any_eq_false.1 hany a (List.mem_of_getElem? ha)
     rw [upward, decide_eq_true_eq] at this; omega
    rcases Nat.eq_zero_or_pos n with hn0 | hn0
    ·subst hn0
     have hl0 : l = [] := by
      cases l with
      | nil => rfl
      | cons a l => have := g4 0 a rfl; omega
     have hr0 : r = [] := List.length_eq_zero_iff.1 hrn
     subst hl0 hr0
     have hs0 : sumG [] [] 0 = 0 := rfl
     repeat' first | refine pw_step rfl ?_ | refine pw_ret ?_ | refine wR ?_ | (refine wpG_split rfl rfl (fun hc => ?_) (fun hc => ?_) <;> try simp only [hcL] at hc) | (refine pw_cond _ rfl rfl (fun hc => ?_) (fun hc => ?_) <;> (try simp only [hcL] at hc) <;> try omega) | simp (disch := omega) only [go_sem, simprocAttr, hs0] | apply And.intro | omega | decide +kernel
     refine pw_loopI (κ := Nat) (fun (i : Nat) => True) (fun (i : Nat) => [(1, .d (intsD [])), (2, .ptr 2 0 0 0), (4, .ptr 4 0 0 0), (10, .ptr 10 0 0 0), (80, .d (intsD [])), (81, .int 0), (82, .int i)]) (fun (i : Nat) => [(2, .cells [.int 0, .d (arcsD [])]), (4, .cells [.int 0, .nilS, .nilS, .nilS]), (10, .cells [.int 0, .nilS, .nilS, .nilS])]) (fun (i : Nat) => 0) 0 ?_ ?_ ?_
     ·trivial
     ·exact eL [] _ _ (by refine ⟨?_, ?_⟩ <;> (repeat' first | exact fmn | refine fmc ⟨(by first | rfl | (simp (disch := omega) only [go_sem, simprocAttr, inL]; first | done | omega | (congr 1; done))), ?_⟩); done)
     ·intro i _
      repeat' first | refine pw_step rfl ?_ | refine pw_ret ?_ | refine wR ?_ | (refine wpG_split rfl rfl (fun hc => ?_) (fun hc => ?_) <;> try simp only [hcL] at hc) | (refine pw_cond _ rfl rfl (fun hc => ?_) (fun hc => ?_) <;> (try simp only [hcL] at hc) <;> try omega) | simp (disch := omega) only [go_sem, simprocAttr] | apply And.intro | omega | decide +kernel
      refine pw_loopI (κ := Nat) (fun (e : Nat) => True) (fun (e : Nat) => [(1, .d (intsD [])), (2, .ptr 2 0 0 0), (4, .ptr 4 0 0 0), (10, .ptr 10 0 0 0), (13, .int 0), (103, .d (arcsD [])), (104, .int 0), (105, .int e)]) (fun (e : Nat) => [(2, .cells [.int 0, .d (arcsD [])]), (4, .cells [.int 0, .nilS, .nilS, .nilS]), (10, .cells [.int 0, .nilS, .nilS, .nilS])]) (fun (e : Nat) => 0) 0 ?_ ?_ ?_
      ·trivial
      ·exact eL [] _ _ (by refine ⟨?_, ?_⟩ <;> (repeat' first | exact fmn | refine fmc ⟨(by first | rfl | (simp (disch := omega) only [go_sem, simprocAttr, inL]; first | done | omega | (congr 1; done))), ?_⟩); done)
      ·intro e _
       repeat' first | refine pw_step rfl ?_ | refine pw_ret ?_ | refine wR ?_ | (refine wpG_split rfl rfl (fun hc => ?_) (fun hc => ?_) <;> try simp only [hcL] at hc) | (refine pw_cond _ rfl rfl (fun hc => ?_) (fun hc => ?_) <;> (try simp only [hcL] at hc) <;> try omega) | simp (disch := omega) only [go_sem, simprocAttr] | apply And.intro | omega | decide +kernel
       refine ⟨_, rfl, ⟨_, _, _, _, rfl, ?_⟩, int_some ?_, trivial⟩
       ·simp (disch := omega) only [go_sem, simprocAttr, toD]
        rfl
       ·rfl
    ·have hmx := Max_spec r (by omega)
     obtain ⟨N, hN⟩ : ∃ N : Nat, maxN r (r.length - 1) = (N : Int) - 1 := ⟨(maxN r (r.length - 1) + 1).toNat, by have := maxN_ge r (r.length - 1) 0 (by omega); have := h5 0; omega⟩
     have hNle := maxN_le (fun j => (h5 j).2) (r.length - 1)
     have hNge := maxN_ge r (r.length - 1)
     have hN0 := hNge 0 (by omega)
     have h50 := h5 0
     rw [hN] at hmx hNle hN0
     have hrk : ∀ v : Nat, v < n → at0 r v < N := fun v hv => by have := hNge v (by omega); omega
     have allR_len : ∀ e, e ≤ l.length → (allR r l e).length ≤ 512 := fun e he => by
      have h1 := allR_le hgap e he
      have h2 := sumG_mono hgap l.length e he
      omega
     repeat' first | refine pw_step rfl ?_ | refine pw_ret ?_ | refine wR ?_ | (refine rc (hmx) rfl ?_ ?_; (· first | rfl | simp (disch := omega) only [go_sem, simprocAttr, Int.sub_add_cancel])) | (refine wpG_split rfl rfl (fun hc => ?_) (fun hc => ?_) <;> try simp only [hcL] at hc) | (refine pw_cond _ rfl rfl (fun hc => ?_) (fun hc => ?_) <;> (try simp only [hcL] at hc) <;> try omega) | simp (disch := omega) only [go_sem, simprocAttr, Int.sub_add_cancel] | apply And.intro | omega | decide +kernel
     refine pw_ent _ (ent_nilC 10 2 901 2 rfl rfl rfl) ?_
     refine pw_ent _ (ent_nilC 10 3 902 1 rfl rfl rfl) ?_
     refine pw_ent _ (ent_famNew 1 78 1 N rfl (fun i hi => by simp (disch := omega) only [go_sem, simprocAttr, obOf_fid, argEnv]) (by decide) (by decide)) ?_
     refine pw_loopF (κ := Nat) (fun (i : Nat) => i ≤ n) (fun (i : Nat) => [(1, .d (intsD r)), (2, .ptr 2 0 0 0), (4, .ptr 4 0 0 0), (10, .ptr 10 0 0 0), (80, .d (intsD r)), (81, .int n), (82, .int i)]) (fun (i : Nat) => [⟨1, 78, 1, N, fun k => (layerOf (r.take i) k).map D.int⟩]) (fun (i : Nat) => [(2, .cells [.int n, .d (arcsD l)]), (4, .cells [.int 0, .nilS, .nilS, .nilS]), (10, .cells [.int n, .ref 78 1 0 N N, .ref 901 2 0 0 0, .ref 902 1 0 0 0]), (901, .row 2 []), (902, .row 1 [])]) (fun (i : Nat) => n - i) 0 ?_ ?_ ?_
     ·exact Nat.zero_le _
     ·refine eF [] [] _ _ _ (by refine ⟨?_, ?_⟩ <;> (repeat' first | exact fmn | refine fmc ⟨(by first | rfl | (simp (disch := omega) only [go_sem, simprocAttr, inL, hrn]; first | done | omega | (congr 1; done))), ?_⟩); done) ?_
      repeat' first | exact fmn | refine fmc ⟨?_, ?_⟩
      all_goals refine ⟨_, (by first | rfl | (simp (disch := omega) only [go_sem, simprocAttr, layerOf, List.range_zero, List.filter_nil]; done) | (simp (disch := omega) only [go_sem, simprocAttr, layerOf, List.range_zero, List.filter_nil]; rfl)), fun i hi => ?_⟩
      all_goals dsimp only at hi ⊢
      all_goals try (exfalso; omega)
      all_goals try (simp (disch := omega) only [go_sem, simprocAttr, layerOf, List.range_zero, List.filter_nil, fid_lit, lit_fid]; done)
     ·intro i hi
      rcases Nat.lt_or_ge i n with hin | hin
      ·have gi := at0_at (r := r) (i := i) (by omega)
       have f1 := h5 i
       have f2 := hrk i hin
       obtain ⟨p, hp⟩ : ∃ p : Nat, at0 r i = p := ⟨(at0 r i).toNat, by omega⟩
       have hpN : p < N := by omega
       have hstep : ∀ k : Nat, layerOf (r.take (i + 1)) k = if k = p then layerOf (r.take i) k ++ [(i : Int)] else layerOf (r.take i) k := fun k => by
        rw [take_snoc gi, layerOf_snoc, hp, List.length_take, Nat.min_eq_left (by omega)]
        by_cases c : k = p
        ·rw [if_pos (by omega), if_pos c]
        ·rw [if_neg (by omega), if_neg c]
       have hll := layerOf_len (r.take i) p
       rw [List.length_take] at hll
       rw [hp] at gi
       refine pw_ent _ (ent_bor _ _ [2, 4, 10, 78, 901, 902] 78 p 900 1 1 N (by first | rfl | (simp (disch := omega) only [go_sem, simprocAttr]; done) | (simp (disch := omega) only [go_sem, simprocAttr]; rfl)) (by first | (simp (disch := omega) only [go_sem, simprocAttr]; done) | (simp (disch := omega) only [go_sem, simprocAttr]; rfl)) (by first | (simp (disch := omega) only [go_sem, simprocAttr]; done) | (simp (disch := omega) only [go_sem, simprocAttr]; rfl)) (fun i hi hne => by simp (disch := omega) only [go_sem, simprocAttr, hne]; (repeat' split) <;> exact .ref _ _ _ _ _ ⟨by simp (disch := omega) only [go_sem, simprocAttr, hne], by simp (disch := omega) only [go_sem, simprocAttr, hne]⟩) (by (repeat' first | refine ab_nil ?_ | exact ab_obOf (ids := [2, 4, 10, 78, 901, 902]) rfl rfl (Nat.le_of_ble_eq_true rfl) | refine ab_hole ?_ | refine ab_row ?_ | refine ab_dead ?_ | refine ab_self ?_ | refine ab_self_fam ?_ | refine ab_fam (by dsimp only; omega) (by dsimp only; omega) (by omega) (by omega) (Nat.le_of_ble_eq_true rfl) ?_); done) rfl rfl rfl) ?_
       repeat' first | refine pw_step rfl ?_ | refine pw_ret ?_ | refine wR ?_ | (refine wpG_split rfl rfl (fun hc => ?_) (fun hc => ?_) <;> try simp only [hcL] at hc) | (refine pw_cond _ rfl rfl (fun hc => ?_) (fun hc => ?_) <;> (try simp only [hcL] at hc) <;> try omega) | simp (disch := omega) only [go_sem, simprocAttr, gi, hrn, roomy, List.take_length, take_map_len] | apply And.intro | omega | decide +kernel
       refine ⟨i + 1, ?_, eF [(fid 1 p, 97)] [] _ _ _ (by refine ⟨?_, ?_⟩ <;> (repeat' first | exact fmn | refine fmc ⟨(by first | rfl | (simp (disch := omega) only [go_sem, simprocAttr, inL]; first | done | omega | (congr 1; done))), ?_⟩); done) ?_, ?_⟩
       ·omega
       ·repeat' first | exact fmn | refine fmc ⟨?_, ?_⟩
        all_goals refine ⟨_, (by first | rfl | (simp (disch := omega) only [go_sem, simprocAttr, hstep, List.map_append, List.length_append, List.length_map, List.length_cons, List.length_nil, take_map_len]; done) | (simp (disch := omega) only [go_sem, simprocAttr, hstep, List.map_append, List.length_append, List.length_map, List.length_cons, List.length_nil, take_map_len]; rfl)), fun i hi => ?_⟩
        all_goals dsimp only at hi ⊢
        all_goals rcases Decidable.em (i = p) with rfl | hi0
        all_goals try (exfalso; omega)
        all_goals try (simp (disch := omega) only [go_sem, simprocAttr, hstep, List.map_append, List.length_append, List.length_map, List.length_cons, List.length_nil, take_map_len, fid_lit, lit_fid]; done)
        all_goals try (simp (disch := omega) only [go_sem, simprocAttr, hstep, List.map_append, List.length_append, List.length_map, List.length_cons, List.length_nil, take_map_len, hi0, fid_lit, lit_fid]; done)
       ·omega
      ·have : i = n := by omega
       subst this
       have hti : r.take i = allR r l 0 := by rw [List.take_of_length_le (by omega)]; simp [allR]
       try dsimp only
       rw [hti]
       repeat' first | refine pw_step rfl ?_ | refine wR ?_ | (refine wpG_split rfl rfl (fun hc => ?_) (fun hc => ?_) <;> try simp only [hcL] at hc) | (refine pw_cond _ rfl rfl (fun hc => ?_) (fun hc => ?_) <;> (try simp only [hcL] at hc) <;> try omega) | simp (disch := omega) only [go_sem, simprocAttr] | apply And.intro | omega | decide +kernel
       refine pw_loopF (κ := Nat) (fun (e : Nat) => e ≤ l.length) (fun (e : Nat) => [(1, .d (intsD r)), (2, .ptr 2 0 0 0), (4, .ptr 4 0 0 0), (10, .ptr 10 0 0 0), (13, .int (allR r l e).length), (103, .d (arcsD l)), (104, .int l.length), (105, .int e)]) (fun (e : Nat) => [⟨1, 78, 1, N, fun k => (layerOf (allR r l e) k).map D.int⟩]) (fun (e : Nat) => [(2, .cells [.int i, .d (arcsD l)]), (4, .cells [.int 0, .nilS, .nilS, .nilS]), (10, .cells [.int i, .ref 78 1 0 N N, .ref 901 2 0 (arcsF r l e).length (arcsF r l e).length, .ref 902 1 0 (chainsF r l e).length (chainsF r l e).length]), (901, .row 2 ((arcsF r l e).map arcD)), (902, .row 1 ((chainsF r l e).map intsD))]) (fun (e : Nat) => l.length - e) 0 ?_ ?_ ?_
       ·exact Nat.zero_le _
       ·refine eF [] [] _ _ _ (by refine ⟨?_, ?_⟩ <;> (repeat' first | exact fmn | refine fmc ⟨(by first | rfl | (simp (disch := omega) only [go_sem, simprocAttr, inL, allR, List.take_zero, List.flatMap_nil, List.append_nil, hrn]; first | done | omega | (congr 1; done))), ?_⟩); done) ?_
        repeat' first | exact fmn | refine fmc ⟨?_, ?_⟩
        all_goals refine ⟨_, (by first | rfl | (simp (disch := omega) only [go_sem, simprocAttr]; done) | (simp (disch := omega) only [go_sem, simprocAttr]; rfl)), fun i hi => ?_⟩
        all_goals dsimp only at hi ⊢
        all_goals try (exfalso; omega)
        all_goals try (simp (disch := omega) only [go_sem, simprocAttr, fid_lit, lit_fid]; done)
       ·intro e he
        rcases Nat.lt_or_ge e l.length with hel | hel
        ·obtain ⟨a, ha⟩ := get_some hel
         have hai := g4 e a ha
         have hga := hgap e a ha
         have e1 := at0_get (r := r) (v := a.1) hai.1 (by omega)
         have e2 := at0_get (r := r) (v := a.2) hai.2.2.1 (by omega)
         have f1 := h5 a.1.toNat
         have f2 := hrk a.2.toNat (by omega)
         rw [show ((a.1.toNat : Nat) : Int) = a.1 by omega] at f1
         rw [show ((a.2.toNat : Nat) : Int) = a.2 by omega] at f2
         have hgn : (gapN r a : Int) = at0 r a.2 - at0 r a.1 - 1 := by rw [gapN]; omega
         have hall := allR_succ (r := r) ha
         have hal := allR_len e he
         generalize hA : allR r l e = all at hal hall
         repeat' first | refine pw_step rfl ?_ | refine pw_region (Nat.beq 111) hmix ?_ | (refine wpG_split rfl rfl (fun hc => ?_) (fun hc => ?_) <;> try simp only [hcL] at hc) | (refine pw_cond _ rfl rfl (fun hc => ?_) (fun hc => ?_) <;> (try simp only [hcL] at hc) <;> try omega) | simp (disch := omega) only [go_sem, simprocAttr, ha, e1, hrn] | apply And.intro | omega | decide +kernel
         refine pw_loopF (κ := Nat) (fun (u : Nat) => u ≤ gapN r a) (fun (u : Nat) => [(1, .d (intsD r)), (2, .ptr 2 0 0 0), (4, .ptr 4 0 0 0), (10, .ptr 10 0 0 0), (13, .int (all.length + u)), (15, .ptr 15 0 0 0), (16, .ref 903 1 0 (u + 1) (u + 1)), (17, .int (at0 r a.1 + 1 + u)), (103, .d (arcsD l)), (104, .int l.length), (105, .int e)]) (fun (u : Nat) => [⟨1, 78, 1, N, fun k => (layerOf (all ++ news r a u) k).map D.int⟩]) (fun (u : Nat) => [(2, .cells [.int i, .d (arcsD l)]), (4, .cells [.int 0, .nilS, .nilS, .nilS]), (15, .cells [.int a.1, .int a.2]), (10, .cells [.int i, .ref 78 1 0 N N, .ref 901 2 0 (arcsF r l e).length (arcsF r l e).length, .ref 902 1 0 (chainsF r l e).length (chainsF r l e).length]), (901, .row 2 ((arcsF r l e).map arcD)), (902, .row 1 ((chainsF r l e).map intsD)), (903, .row 1 ((chainUp all.length a u).map D.int))]) (fun (u : Nat) => gapN r a - u) 0 ?_ ?_ ?_
         ·exact Nat.zero_le _
         ·refine eF [] [(903, 111)] _ _ _ (by refine ⟨?_, ?_⟩ <;> (repeat' first | exact fmn | refine fmc ⟨(by first | rfl | (simp (disch := omega) only [go_sem, simprocAttr, inL, chainUp, news, List.range_zero, List.append_nil, hA]; first | done | omega | (congr 1; done))), ?_⟩); done) ?_
          repeat' first | exact fmn | refine fmc ⟨?_, ?_⟩
          all_goals refine ⟨_, (by first | rfl | (simp (disch := omega) only [go_sem, simprocAttr, news, List.range_zero, List.append_nil, hA]; done) | (simp (disch := omega) only [go_sem, simprocAttr, news, List.range_zero, List.append_nil, hA]; rfl)), fun i hi => ?_⟩
          all_goals dsimp only at hi ⊢
          all_goals try (exfalso; omega)
          all_goals try (simp (disch := omega) only [go_sem, simprocAttr, news, List.range_zero, List.append_nil, hA, fid_lit, lit_fid]; done)
         ·intro u hu
          rcases Nat.lt_or_ge u (gapN r a) with hul | hul
          ·obtain ⟨p, hp⟩ : ∃ p : Nat, at0 r a.1 + 1 + u = p := ⟨(at0 r a.1 + 1 + u).toNat, by omega⟩
           have hpN : p < N := by omega
           have hlen : (all ++ news r a u).length = all.length + u := by rw [List.length_append, news_len]
           have hstep : ∀ k : Nat, layerOf (all ++ news r a (u + 1)) k = if k = p then layerOf (all ++ news r a u) k ++ [(all.length : Int) + u] else layerOf (all ++ news r a u) k := fun k => by
            rw [news_succ, ← List.append_assoc, layerOf_snoc, hp, hlen, Int.natCast_add]
            by_cases c : k = p
            ·rw [if_pos (by omega), if_pos c]
            ·rw [if_neg (by omega), if_neg c]
           have hll := layerOf_len (all ++ news r a u) p
           have hcl := chainUp_len all.length a u
           have htk : ((chainUp all.length a u).map D.int).take (u + 1) = (chainUp all.length a u).map D.int := List.take_of_length_le (by rw [List.length_map, hcl]; exact Nat.le_refl _)
           have hcs := chainUp_succ all.length a u
           refine pw_ent _ (ent_bor _ _ [2, 4, 15, 10, 78, 901, 902, 903] 78 p 900 1 1 N (by first | rfl | (simp (disch := omega) only [go_sem, simprocAttr]; done) | (simp (disch := omega) only [go_sem, simprocAttr]; rfl)) (by first | (simp (disch := omega) only [go_sem, simprocAttr]; done) | (simp (disch := omega) only [go_sem, simprocAttr]; rfl)) (by first | (simp (disch := omega) only [go_sem, simprocAttr]; done) | (simp (disch := omega) only [go_sem, simprocAttr]; rfl)) (fun i hi hne => by simp (disch := omega) only [go_sem, simprocAttr, hne]; (repeat' split) <;> exact .ref _ _ _ _ _ ⟨by simp (disch := omega) only [go_sem, simprocAttr, hne], by simp (disch := omega) only [go_sem, simprocAttr, hne]⟩) (by (repeat' first | refine ab_nil ?_ | exact ab_obOf (ids := [2, 4, 15, 10, 78, 901, 902, 903]) rfl rfl (Nat.le_of_ble_eq_true rfl) | refine ab_hole ?_ | refine ab_row ?_ | refine ab_dead ?_ | refine ab_self ?_ | refine ab_self_fam ?_ | refine ab_fam (by dsimp only; omega) (by dsimp only; omega) (by omega) (by omega) (Nat.le_of_ble_eq_true rfl) ?_); done) rfl rfl rfl) ?_
           repeat' first | refine pw_step rfl ?_ | refine pw_ret ?_ | refine wR ?_ | (refine wpG_split rfl rfl (fun hc => ?_) (fun hc => ?_) <;> try simp only [hcL] at hc) | (refine pw_cond _ rfl rfl (fun hc => ?_) (fun hc => ?_) <;> (try simp only [hcL] at hc) <;> try omega) | simp (disch := omega) only [go_sem, simprocAttr, e2, hp, hrn, roomy, List.take_length, take_map_len, hcl, htk] | apply And.intro | omega | decide +kernel
           refine ⟨u + 1, ?_, eF [(fid 1 p, 137)] [(903, 142)] _ _ _ (by refine ⟨?_, ?_⟩ <;> (repeat' first | exact fmn | refine fmc ⟨(by first | rfl | (simp (disch := omega) only [go_sem, simprocAttr, inL, hcs, List.map_append, Int.natCast_add, Int.natCast_one, ← Int.add_assoc, hp]; first | done | omega | (congr 1; done))), ?_⟩); done) ?_, ?_⟩
           ·omega
           ·repeat' first | exact fmn | refine fmc ⟨?_, ?_⟩
            all_goals refine ⟨_, (by first | rfl | (simp (disch := omega) only [go_sem, simprocAttr, hstep, List.map_append, List.length_append, List.length_map, List.length_cons, List.length_nil, take_map_len]; done) | (simp (disch := omega) only [go_sem, simprocAttr, hstep, List.map_append, List.length_append, List.length_map, List.length_cons, List.length_nil, take_map_len]; rfl)), fun i hi => ?_⟩
            all_goals dsimp only at hi ⊢
            all_goals rcases Decidable.em (i = p) with rfl | hi0
            all_goals try (exfalso; omega)
            all_goals try (simp (disch := omega) only [go_sem, simprocAttr, hstep, List.map_append, List.length_append, List.length_map, List.length_cons, List.length_nil, take_map_len, fid_lit, lit_fid]; done)
            all_goals try (simp (disch := omega) only [go_sem, simprocAttr, hstep, List.map_append, List.length_append, List.length_map, List.length_cons, List.length_nil, take_map_len, hi0, fid_lit, lit_fid]; done)
           ·omega
          ·have : u = gapN r a := by omega
           subst this
           have hcl := chainUp_len all.length a (gapN r a)
           have htk : ((chainUp all.length a (gapN r a)).map D.int).take (gapN r a + 1) = (chainUp all.length a (gapN r a)).map D.int := List.take_of_length_le (by rw [List.length_map, hcl]; exact Nat.le_refl _)
           have hcd : chainOf r all.length a = chainUp all.length a (gapN r a) ++ [a.2] := rfl
           have hcl2 := chainOf_len r all.length a
           repeat' first | refine pw_step rfl ?_ | refine wR ?_ | (refine wpG_split rfl rfl (fun hc => ?_) (fun hc => ?_) <;> try simp only [hcL] at hc) | (refine pw_cond _ rfl rfl (fun hc => ?_) (fun hc => ?_) <;> (try simp only [hcL] at hc) <;> try omega) | simp (disch := omega) only [go_sem, simprocAttr, e2, hrn, roomy, hcl, htk] | apply And.intro | omega | decide +kernel
           refine pw_loopF (κ := Nat) (fun (j : Nat) => j ≤ gapN r a + 1) (fun (j : Nat) => [(1, .d (intsD r)), (2, .ptr 2 0 0 0), (4, .ptr 4 0 0 0), (10, .ptr 10 0 0 0), (13, .int (all.length + gapN r a)), (15, .ptr 15 0 0 0), (16, .ref 903 1 0 (gapN r a + 2) (gapN r a + 2)), (18, .int ((j : Int) + 1)), (103, .d (arcsD l)), (104, .int l.length), (105, .int e)]) (fun (j : Nat) => [⟨1, 78, 1, N, fun k => (layerOf (all ++ news r a (gapN r a)) k).map D.int⟩]) (fun (j : Nat) => [(2, .cells [.int i, .d (arcsD l)]), (4, .cells [.int 0, .nilS, .nilS, .nilS]), (15, .cells [.int a.1, .int a.2]), (10, .cells [.int i, .ref 78 1 0 N N, .ref 901 2 0 (arcsF r l e ++ pairsN (chainOf r all.length a) j).length (arcsF r l e ++ pairsN (chainOf r all.length a) j).length, .ref 902 1 0 (chainsF r l e).length (chainsF r l e).length]), (901, .row 2 ((arcsF r l e ++ pairsN (chainOf r all.length a) j).map arcD)), (902, .row 1 ((chainsF r l e).map intsD)), (903, .row 1 ((chainOf r all.length a).map D.int))]) (fun (j : Nat) => gapN r a + 1 - j) 0 ?_ ?_ ?_
           ·exact Nat.zero_le _
           ·refine eF [] [(903, 149)] _ _ _ (by refine ⟨?_, ?_⟩ <;> (repeat' first | exact fmn | refine fmc ⟨(by first | rfl | (simp (disch := omega) only [go_sem, simprocAttr, inL, hcd, List.map_append, pairsN, List.range_zero, List.append_nil]; first | done | omega | (congr 1; done))), ?_⟩); done) ?_
            repeat' first | exact fmn | refine fmc ⟨?_, ?_⟩
            all_goals refine ⟨_, (by first | rfl | (simp (disch := omega) only [go_sem, simprocAttr]; done) | (simp (disch := omega) only [go_sem, simprocAttr]; rfl)), fun i hi => ?_⟩
            all_goals dsimp only at hi ⊢
            all_goals try (exfalso; omega)
            all_goals try (simp (disch := omega) only [go_sem, simprocAttr, fid_lit, lit_fid]; done)
           ·intro j hj
            have hpl := pairsN_len (chainOf r all.length a) j
            have hafl := arcsF_len hgap e he
            rw [hA] at hafl
            rcases Nat.lt_or_ge j (gapN r a + 1) with hjl | hjl
            ·have gc1 := at0_at (r := chainOf r all.length a) (i := j) (by omega)
             have gc2 := at0_at (r := chainOf r all.length a) (i := j + 1) (by omega)
             have en : ((j : Int) + 1).toNat = j + 1 := by omega
             have hps := pairsN_succ (chainOf r all.length a) j
             have hpa : arcD (pairAt (chainOf r all.length a) j) = .ag [.int (at0 (chainOf r all.length a) j), .int (at0 (chainOf r all.length a) ((j + 1 : Nat) : Int))] := rfl
             have hap : arcsF r l e ++ pairsN (chainOf r all.length a) (j + 1) = (arcsF r l e ++ pairsN (chainOf r all.length a) j) ++ [pairAt (chainOf r all.length a) j] := by rw [hps, List.append_assoc]
             have hal2 : (arcsF r l e ++ pairsN (chainOf r all.length a) j).length ≤ 2000 := by rw [List.length_append]; omega
             try dsimp only
             generalize chainOf r all.length a = c at *
             generalize hG : arcsF r l e ++ pairsN c j = G at *
             repeat' first | refine pw_step rfl ?_ | refine pw_ret ?_ | refine wR ?_ | (refine wpG_split rfl rfl (fun hc => ?_) (fun hc => ?_) <;> try simp only [hcL] at hc) | (refine pw_cond _ rfl rfl (fun hc => ?_) (fun hc => ?_) <;> (try simp only [hcL] at hc) <;> try omega) | simp (disch := omega) only [go_sem, simprocAttr, gc1, gc2, en, hcl2, Int.add_sub_cancel, roomy, take_map_len] | apply And.intro | omega | decide +kernel
             refine ⟨j + 1, ?_, eF [] [(901, 169)] _ _ _ (by refine ⟨?_, ?_⟩ <;> (repeat' first | exact fmn | refine fmc ⟨(by first | rfl | (simp (disch := omega) only [go_sem, simprocAttr, inL, hap, List.map_append, List.length_append, List.length_cons, List.length_nil, hpa, Int.natCast_add, Int.natCast_one]; first | done | omega | (congr 1; done))), ?_⟩); done) ?_, ?_⟩
             ·omega
             ·repeat' first | exact fmn | refine fmc ⟨?_, ?_⟩
              all_goals refine ⟨_, (by first | rfl | (simp (disch := omega) only [go_sem, simprocAttr]; done) | (simp (disch := omega) only [go_sem, simprocAttr]; rfl)), fun i hi => ?_⟩
              all_goals dsimp only at hi ⊢
              all_goals try (exfalso; omega)
              all_goals try (simp (disch := omega) only [go_sem, simprocAttr, fid_lit, lit_fid]; done)
             ·omega
            ·have : j = gapN r a + 1 := by omega
             subst this
             have hcf : chainsF r l (e + 1) = chainsF r l e ++ [chainOf r all.length a] := by rw [chainsF, catN, chainAt, ha, hA]; rfl
             have haf : arcsF r l (e + 1) = arcsF r l e ++ pairsN (chainOf r all.length a) (gapN r a + 1) := by rw [arcsF, catN, arcsAt, ha, hA]; rfl
             have hcfl := chainsF_len r l e he
             have hnl := news_len r a (gapN r a)
             have hcd2 : ((chainOf r all.length a).map D.int).take (gapN r a + 2) = (chainOf r all.length a).map D.int := List.take_of_length_le (by rw [List.length_map, hcl2]; exact Nat.le_refl _)
             have hcft : ((chainsF r l e).map intsD).take e = (chainsF r l e).map intsD := List.take_of_length_le (by rw [List.length_map, hcfl]; exact Nat.le_refl _)
             refine pw_ent _ (ent_frzF _ _ _ 903 1 ((chainOf r all.length a).map D.int) rfl rfl rfl rfl (by decide)) ?_
             repeat' first | refine pw_step rfl ?_ | refine pw_ret ?_ | refine wR ?_ | (refine wpG_split rfl rfl (fun hc => ?_) (fun hc => ?_) <;> try simp only [hcL] at hc) | (refine pw_cond _ rfl rfl (fun hc => ?_) (fun hc => ?_) <;> (try simp only [hcL] at hc) <;> try omega) | simp (disch := omega) only [go_sem, simprocAttr, hcl2, roomy, List.length_map, hcd2, hcfl, take_map_len] | apply And.intro | omega | decide +kernel
             refine ⟨e + 1, ?_, eF [] [(902, 175)] _ _ _ (by refine ⟨?_, ?_⟩ <;> (repeat' first | exact fmn | refine fmc ⟨(by first | rfl | (simp (disch := omega) only [go_sem, simprocAttr, inL, hcf, haf, hall, List.map_append, List.length_append, List.length_cons, List.length_nil, hnl, Int.natCast_add, Int.natCast_one, hcl2, hcd2, hcfl, hcft]; first | done | omega | (congr 1; done))), ?_⟩); done) ?_, ?_⟩
             ·omega
             ·repeat' first | exact fmn | refine fmc ⟨?_, ?_⟩
              all_goals refine ⟨_, (by first | rfl | (simp (disch := omega) only [go_sem, simprocAttr, hall]; done) | (simp (disch := omega) only [go_sem, simprocAttr, hall]; rfl)), fun i hi => ?_⟩
              all_goals dsimp only at hi ⊢
              all_goals try (exfalso; omega)
              all_goals try (simp (disch := omega) only [go_sem, simprocAttr, hall, fid_lit, lit_fid]; done)
             ·omega
        ·have : e = l.length := by omega
         subst this
         try dsimp only
         refine pw_ent _ (ent_famRow _ _ _ _ ⟨nodup_of rfl, nodup_of rfl, (by (repeat' first | exact fmn | refine fmc ⟨⟨Nat.le_of_ble_eq_true rfl, Nat.le_of_ble_eq_true rfl, by dsimp only; omega⟩, ?_⟩); done)⟩ rfl [2, 4, 10, 78, 901, 902] rfl rfl rfl rfl) ?_
         repeat' first | refine pw_step rfl ?_ | refine pw_ret ?_ | refine wR ?_ | (refine wpG_split rfl rfl (fun hc => ?_) (fun hc => ?_) <;> try simp only [hcL] at hc) | (refine pw_cond _ rfl rfl (fun hc => ?_) (fun hc => ?_) <;> (try simp only [hcL] at hc) <;> try omega) | simp (disch := omega) only [go_sem, simprocAttr] | apply And.intro | omega | decide +kernel
         refine ⟨_, rfl, ⟨_, _, _, _, rfl, ?_⟩, int_some ?_, trivial⟩
         ·simp (disch := omega) only [go_sem, simprocAttr, toD]
          have hNt : (maxN r (r.length - 1) + 1).toNat = N := by omega
          rw [take_map_len, take_map_len, if_pos (by rw [List.length_range]; exact Nat.le_refl _), List.take_of_length_le (by rw [List.length_map, List.length_range]; exact Nat.le_refl _)]
          simp only [madeF, lvD, hNt, listsD, intsD, arcsD, List.map_map]
          rw [if_neg (by omega), List.map_map]
          rfl
         ·rfl
theorem Build_spec (g : Gr) (r : List Int) : CallsTo Try.prog 39 [gD g, intsD r] (.tup [lvD (buildF g r).1, .int (buildF g r).2]) := by
 rcases h : ranksOk g r with _ | _
 ·have := Build_err1 g r h
  have e : buildF g r = (lv0, 1) := by rw [buildF, if_pos h]
  rw [e]; exact this
 ·rcases h4 : g.2.any loopF with _ | _
  ·exact Build_main g r h h4
  ·have := Build_err2 g r h h4
   have e : buildF g r = (lv0, 8) := by rw [buildF, if_neg (by rw [h]; decide), if_pos h4]
   rw [e]; exact this
end Go.Proofs.Ythbcmebhpabpnaa
namespace Go.Proofs.Ythbcmebhpabpnaa
open Go Go.PS Go.Proofs
set_option maxRecDepth 100000
attribute [local irreducible] wpRun wpG CallsTo CallsM

theorem one_int (r : List Int) : ∀ d, d ∈ List.map D.int r → d.cells.length = 1 := by
 intro d hd
 obtain ⟨x, _, rfl⟩ := List.mem_map.1 hd
 rfl
def hiN (r : List Int) : Nat → Int
 | 0 => -1
 | k + 1 => max (hiN r k) (at0 r k)
theorem hiN_max {r : List Int} (h : ∀ v : Nat, 0 ≤ at0 r v) : ∀ k : Nat, hiN r (k + 1) = maxN r k
 | 0 => by
  have h0 := h 0
  show max (-1) (at0 r ((0 : Nat) : Int)) = at0 r ((0 : Nat) : Int)
  omega
 | k + 1 => by rw [hiN, hiN_max h k, maxN]
def layersN (all : List Int) (k : Nat) : List (List Int) := (List.range k).map fun j => layerOf all j
theorem layersN_succ (all : List Int) (k : Nat) : layersN all (k + 1) = layersN all k ++ [layerOf all k] := by simp [layersN, List.range_succ]
theorem layersN_len (all : List Int) (k : Nat) : (layersN all k).length = k := by simp [layersN]
set_option maxHeartbeats 16000000 in
theorem made_spec (n : Nat) (l : List Arc) (r : List Int) (hrn : r.length = n) (hn : n ≤ 64) (hl : l.length ≤ 256) (g4 : ∀ (k : Nat) (a : Arc), l[k]? = some a → 0 ≤ a.1 ∧ a.1 < n ∧ 0 ≤ a.2 ∧ a.2 < n)
  (h5 : ∀ v : Nat, 0 ≤ at0 r v ∧ at0 r v ≤ 255) (hgap : ∀ (k : Nat) a, l[k]? = some a → 0 ≤ at0 r a.2 - at0 r a.1 - 1) (hbig : (n : Int) + sumG r l l.length ≤ 512) :
  CallsTo Try.prog 65 [gD (n, l), intsD r] (lvD (madeF (n, l) r)) := by
 have allR_len : ∀ e, e ≤ l.length → (allR r l e).length ≤ 512 := fun e he => by
  have h1 := allR_le hgap e he
  have h2 := sumG_mono hgap l.length e he
  omega
 have hA0 : allR r l 0 = r := by simp [allR]
 refine callsTo_of Try.func65 rfl (by decide +kernel) (Nat.le_of_ble_eq_true rfl) ?_
 intro hat B X w0
 repeat' first | refine pw_step rfl ?_ | refine pw_ret ?_ | refine pw_region (Nat.beq 20) hmix ?_ | (refine wpG_split rfl rfl (fun hc => ?_) (fun hc => ?_) <;> try simp only [hcL] at hc) | (refine pw_cond _ rfl rfl (fun hc => ?_) (fun hc => ?_) <;> (try simp only [hcL] at hc) <;> try omega) | simp (disch := omega) only [go_sem, simprocAttr, List.append_eq, hrn, roomy] | exact one_int r | apply And.intro | omega | decide +kernel
 refine pw_ent _ (ent_nilC 5 1 905 1 rfl rfl rfl) ?_
 refine pw_ent _ (ent_nilC 5 2 901 2 rfl rfl rfl) ?_
 refine pw_ent _ (ent_nilC 5 3 902 1 rfl rfl rfl) ?_
 refine pw_loopI (κ := Nat) (fun (e : Nat) => e ≤ l.length) (fun (e : Nat) => [(1, .d (intsD r)), (2, .ptr 2 0 0 0), (4, .ptr 4 0 0 0), (5, .ptr 5 0 0 0), (6, .ref 904 1 0 (allR r l e).length (allR r l e).length), (7, .int e)]) (fun (e : Nat) => [(2, .cells [.int n, .d (arcsD l)]), (4, .cells [.int 0, .nilS, .nilS, .nilS]), (5, .cells [.int n, .ref 905 1 0 0 0, .ref 901 2 0 (arcsF r l e).length (arcsF r l e).length, .ref 902 1 0 (chainsF r l e).length (chainsF r l e).length]), (905, .row 1 []), (901, .row 2 ((arcsF r l e).map arcD)), (902, .row 1 ((chainsF r l e).map intsD)), (904, .row 1 ((allR r l e).map D.int))]) (fun (e : Nat) => l.length - e) 0 ?_ ?_ ?_
 ·exact Nat.zero_le _
 ·exact eL [(904, 22)] _ _ (by refine ⟨?_, ?_⟩ <;> (repeat' first | exact fmn | refine fmc ⟨(by first | rfl | (simp (disch := omega) only [go_sem, simprocAttr, inL, hA0, hrn]; first | done | omega | (congr 1; done))), ?_⟩); done)
 ·intro e he
  rcases Nat.lt_or_ge e l.length with hel | hel
  ·obtain ⟨a, ha⟩ := get_some hel
   have hai := g4 e a ha
   have hga := hgap e a ha
   have e1 := at0_get (r := r) (v := a.1) hai.1 (by omega)
   have e2 := at0_get (r := r) (v := a.2) hai.2.2.1 (by omega)
   have f1 := h5 a.1.toNat
   have f2 := h5 a.2.toNat
   rw [show ((a.1.toNat : Nat) : Int) = a.1 by omega] at f1
   rw [show ((a.2.toNat : Nat) : Int) = a.2 by omega] at f2
   have hgn : (gapN r a : Int) = at0 r a.2 - at0 r a.1 - 1 := by rw [gapN]; omega
   have hall := allR_succ (r := r) ha
   have hal := allR_len e he
   have hafl := arcsF_len hgap e he
   generalize hA : allR r l e = all at hal hall hafl
   try dsimp only
   try rw [hA]
   repeat' first | refine pw_step rfl ?_ | refine pw_ret ?_ | refine pw_region (Nat.beq 37) hmix ?_ | (refine wpG_split rfl rfl (fun hc => ?_) (fun hc => ?_) <;> try simp only [hcL] at hc) | (refine pw_cond _ rfl rfl (fun hc => ?_) (fun hc => ?_) <;> (try simp only [hcL] at hc) <;> try omega) | simp (disch := omega) only [go_sem, simprocAttr, ha, e1, hrn] | apply And.intro | omega | decide +kernel
   refine pw_loopI (κ := Nat) (fun (u : Nat) => u ≤ gapN r a) (fun (u : Nat) => [(1, .d (intsD r)), (2, .ptr 2 0 0 0), (4, .ptr 4 0 0 0), (5, .ptr 5 0 0 0), (6, .ref 904 1 0 (all.length + u) (all.length + u)), (7, .int e), (8, .ptr 8 0 0 0), (9, .ref 903 1 0 (u + 1) (u + 1)), (10, .int (at0 r a.1 + 1 + u))]) (fun (u : Nat) => [(2, .cells [.int n, .d (arcsD l)]), (4, .cells [.int 0, .nilS, .nilS, .nilS]), (8, .cells [.int a.1, .int a.2]), (5, .cells [.int n, .ref 905 1 0 0 0, .ref 901 2 0 (arcsF r l e).length (arcsF r l e).length, .ref 902 1 0 (chainsF r l e).length (chainsF r l e).length]), (905, .row 1 []), (901, .row 2 ((arcsF r l e).map arcD)), (902, .row 1 ((chainsF r l e).map intsD)), (904, .row 1 ((all ++ news r a u).map D.int)), (903, .row 1 ((chainUp all.length a u).map D.int))]) (fun (u : Nat) => gapN r a - u) 0 ?_ ?_ ?_
   ·exact Nat.zero_le _
   ·exact eL [(903, 37)] _ _ (by refine ⟨?_, ?_⟩ <;> (repeat' first | exact fmn | refine fmc ⟨(by first | rfl | (simp (disch := omega) only [go_sem, simprocAttr, inL, chainUp, news, List.range_zero, List.append_nil, hA]; first | done | omega | (congr 1; done))), ?_⟩); done)
   ·intro u hu
    have hcl := chainUp_len all.length a u
    have hnl := news_len r a u
    have htk : ((chainUp all.length a u).map D.int).take (u + 1) = (chainUp all.length a u).map D.int := List.take_of_length_le (by rw [List.length_map, hcl]; exact Nat.le_refl _)
    have hta : ((all ++ news r a u).map D.int).take (all.length + u) = (all ++ news r a u).map D.int := List.take_of_length_le (by rw [List.length_map, List.length_append, hnl]; exact Nat.le_refl _)
    rcases Nat.lt_or_ge u (gapN r a) with hul | hul
    ·have hcs := chainUp_succ all.length a u
     have hns := news_succ r a u
     have hap : all ++ news r a (u + 1) = (all ++ news r a u) ++ [at0 r a.1 + 1 + u] := by rw [hns, List.append_assoc]
     have hlu : (all ++ news r a u).length = all.length + u := by rw [List.length_append, hnl]
     generalize all ++ news r a u = G at *
     generalize chainUp all.length a u = c at *
     repeat' first | refine pw_step rfl ?_ | refine pw_ret ?_ | refine wR ?_ | (refine wpG_split rfl rfl (fun hc => ?_) (fun hc => ?_) <;> try simp only [hcL] at hc) | (refine pw_cond _ rfl rfl (fun hc => ?_) (fun hc => ?_) <;> (try simp only [hcL] at hc) <;> try omega) | simp (disch := omega) only [go_sem, simprocAttr, e2, hrn, roomy, hcl, htk, hta, hlu] | apply And.intro | omega | decide +kernel
     refine ⟨u + 1, ?_, eL [(903, 57), (904, 61)] _ _ (by refine ⟨?_, ?_⟩ <;> (repeat' first | exact fmn | refine fmc ⟨(by first | rfl | (simp (disch := omega) only [go_sem, simprocAttr, inL, hcs, hap, List.map_append, Int.natCast_add, Int.natCast_one, ← Int.add_assoc, List.length_append, hcl, hlu]; first | done | omega | (congr 1; done))), ?_⟩); done), ?_⟩
     ·omega
     ·omega
    ·have : u = gapN r a := by omega
     subst this
     have hcd : chainOf r all.length a = chainUp all.length a (gapN r a) ++ [a.2] := rfl
     have hcl2 := chainOf_len r all.length a
     repeat' first | refine pw_step rfl ?_ | refine wR ?_ | (refine wpG_split rfl rfl (fun hc => ?_) (fun hc => ?_) <;> try simp only [hcL] at hc) | (refine pw_cond _ rfl rfl (fun hc => ?_) (fun hc => ?_) <;> (try simp only [hcL] at hc) <;> try omega) | simp (disch := omega) only [go_sem, simprocAttr, e2, hrn, roomy, hcl, htk] | apply And.intro | omega | decide +kernel
     refine pw_loopI (κ := Nat) (fun (j : Nat) => j ≤ gapN r a + 1) (fun (j : Nat) => [(1, .d (intsD r)), (2, .ptr 2 0 0 0), (4, .ptr 4 0 0 0), (5, .ptr 5 0 0 0), (6, .ref 904 1 0 (all.length + gapN r a) (all.length + gapN r a)), (7, .int e), (8, .ptr 8 0 0 0), (9, .ref 903 1 0 (gapN r a + 2) (gapN r a + 2)), (11, .int ((j : Int) + 1))]) (fun (j : Nat) => [(2, .cells [.int n, .d (arcsD l)]), (4, .cells [.int 0, .nilS, .nilS, .nilS]), (8, .cells [.int a.1, .int a.2]), (5, .cells [.int n, .ref 905 1 0 0 0, .ref 901 2 0 (arcsF r l e ++ pairsN (chainOf r all.length a) j).length (arcsF r l e ++ pairsN (chainOf r all.length a) j).length, .ref 902 1 0 (chainsF r l e).length (chainsF r l e).length]), (905, .row 1 []), (901, .row 2 ((arcsF r l e ++ pairsN (chainOf r all.length a) j).map arcD)), (902, .row 1 ((chainsF r l e).map intsD)), (904, .row 1 ((all ++ news r a (gapN r a)).map D.int)), (903, .row 1 ((chainOf r all.length a).map D.int))]) (fun (j : Nat) => gapN r a + 1 - j) 0 ?_ ?_ ?_
     ·exact Nat.zero_le _
     ·exact eL [(903, 66)] _ _ (by refine ⟨?_, ?_⟩ <;> (repeat' first | exact fmn | refine fmc ⟨(by first | rfl | (simp (disch := omega) only [go_sem, simprocAttr, inL, hcd, List.map_append, pairsN, List.range_zero, List.append_nil]; first | done | omega | (congr 1; done))), ?_⟩); done)
     ·intro j hj
      have hpl := pairsN_len (chainOf r all.length a) j
      rcases Nat.lt_or_ge j (gapN r a + 1) with hjl | hjl
      ·have gc1 := at0_at (r := chainOf r all.length a) (i := j) (by omega)
       have gc2 := at0_at (r := chainOf r all.length a) (i := j + 1) (by omega)
       have en : ((j : Int) + 1).toNat = j + 1 := by omega
       have hps := pairsN_succ (chainOf r all.length a) j
       have hpa : arcD (pairAt (chainOf r all.length a) j) = .ag [.int (at0 (chainOf r all.length a) j), .int (at0 (chainOf r all.length a) ((j + 1 : Nat) : Int))] := rfl
       have hap : arcsF r l e ++ pairsN (chainOf r all.length a) (j + 1) = (arcsF r l e ++ pairsN (chainOf r all.length a) j) ++ [pairAt (chainOf r all.length a) j] := by rw [hps, List.append_assoc]
       have hal2 : (arcsF r l e ++ pairsN (chainOf r all.length a) j).length ≤ 2000 := by rw [List.length_append]; omega
       try dsimp only
       generalize chainOf r all.length a = c at *
       generalize hG : arcsF r l e ++ pairsN c j = G at *
       repeat' first | refine pw_step rfl ?_ | refine pw_ret ?_ | refine wR ?_ | (refine wpG_split rfl rfl (fun hc => ?_) (fun hc => ?_) <;> try simp only [hcL] at hc) | (refine pw_cond _ rfl rfl (fun hc => ?_) (fun hc => ?_) <;> (try simp only [hcL] at hc) <;> try omega) | simp (disch := omega) only [go_sem, simprocAttr, gc1, gc2, en, hcl2, Int.add_sub_cancel, roomy, take_map_len] | apply And.intro | omega | decide +kernel
       refine ⟨j + 1, ?_, eL [(901, 86)] _ _ (by refine ⟨?_, ?_⟩ <;> (repeat' first | exact fmn | refine fmc ⟨(by first | rfl | (simp (disch := omega) only [go_sem, simprocAttr, inL, hap, List.map_append, List.length_append, List.length_cons, List.length_nil, hpa, Int.natCast_add, Int.natCast_one]; first | done | omega | (congr 1; done))), ?_⟩); done), ?_⟩
       ·omega
       ·omega
      ·have : j = gapN r a + 1 := by omega
       subst this
       have hcf : chainsF r l (e + 1) = chainsF r l e ++ [chainOf r all.length a] := by rw [chainsF, catN, chainAt, ha, hA]; rfl
       have haf : arcsF r l (e + 1) = arcsF r l e ++ pairsN (chainOf r all.length a) (gapN r a + 1) := by rw [arcsF, catN, arcsAt, ha, hA]; rfl
       have hcfl := chainsF_len r l e he
       have hnl := news_len r a (gapN r a)
       have hcd2 : ((chainOf r all.length a).map D.int).take (gapN r a + 2) = (chainOf r all.length a).map D.int := List.take_of_length_le (by rw [List.length_map, hcl2]; exact Nat.le_refl _)
       have hcft : ((chainsF r l e).map intsD).take e = (chainsF r l e).map intsD := List.take_of_length_le (by rw [List.length_map, hcfl]; exact Nat.le_refl _)
       refine pw_ent _ (ent_freeze 903 1 ((chainOf r all.length a).map D.int) rfl (noGone_of _ rfl) (by decide)) ?_
       repeat' first | refine pw_step rfl ?_ | refine pw_ret ?_ | refine wR ?_ | (refine wpG_split rfl rfl (fun hc => ?_) (fun hc => ?_) <;> try simp only [hcL] at hc) | (refine pw_cond _ rfl rfl (fun hc => ?_) (fun hc => ?_) <;> (try simp only [hcL] at hc) <;> try omega) | simp (disch := omega) only [go_sem, simprocAttr, hcl2, roomy, List.length_map, hcd2, hcfl, take_map_len] | apply And.intro | omega | decide +kernel
       refine ⟨e + 1, ?_, eL [(902, 92)] _ _ (by refine ⟨?_, ?_⟩ <;> (repeat' first | exact fmn | refine fmc ⟨(by first | rfl | (simp (disch := omega) only [go_sem, simprocAttr, inL, hcf, haf, hall, List.map_append, List.length_append, List.length_cons, List.length_nil, hnl, Int.natCast_add, Int.natCast_one, hcl2, hcd2, hcfl, hcft]; first | done | omega | (congr 1; done))), ?_⟩); done), ?_⟩
       ·omega
       ·omega
  ·have : e = l.length := by omega
   subst this
   have hal := allR_len l.length (Nat.le_refl _)
   have hmd : madeF (n, l) r = ((n : Int), if (n : Int) = 0 then [] else (List.range (maxN r (r.length - 1) + 1).toNat).map fun k => layerOf (allR r l l.length) k, arcsF r l l.length, chainsF r l l.length) := rfl
   rw [hmd]
   generalize allR r l l.length = A at hal ⊢
   generalize arcsF r l l.length = E
   generalize chainsF r l l.length = C
   repeat' first | refine pw_step rfl ?_ | refine pw_ret ?_ | refine wR ?_ | (refine wpG_split rfl rfl (fun hc => ?_) (fun hc => ?_) <;> try simp only [hcL] at hc) | (refine pw_cond _ rfl rfl (fun hc => ?_) (fun hc => ?_) <;> (try simp only [hcL] at hc) <;> try omega) | simp (disch := omega) only [go_sem, simprocAttr] | apply And.intro | omega | decide +kernel
   refine pw_loopI (κ := Nat) (fun (v : Nat) => v ≤ n) (fun (v : Nat) => [(1, .d (intsD r)), (2, .ptr 2 0 0 0), (4, .ptr 4 0 0 0), (5, .ptr 5 0 0 0), (6, .ref 904 1 0 A.length A.length), (12, .int (hiN r v)), (13, .int v)]) (fun (v : Nat) => [(2, .cells [.int n, .d (arcsD l)]), (4, .cells [.int 0, .nilS, .nilS, .nilS]), (5, .cells [.int n, .ref 905 1 0 0 0, .ref 901 2 0 E.length E.length, .ref 902 1 0 C.length C.length]), (905, .row 1 ([])), (901, .row 2 (E.map arcD)), (902, .row 1 (C.map intsD)), (904, .row 1 (A.map D.int))]) (fun (v : Nat) => n - v) 0 ?_ ?_ ?_
   ·exact Nat.zero_le _
   ·exact eL [] _ _ (by refine ⟨?_, ?_⟩ <;> (repeat' first | exact fmn | refine fmc ⟨(by first | rfl | (simp (disch := omega) only [go_sem, simprocAttr, inL, hiN]; first | done | omega | (congr 1; done))), ?_⟩); done)
   ·intro v hv
    rcases Nat.lt_or_ge v n with hvn | hvn
    ·have gv := at0_at (r := r) (i := v) (by omega)
     repeat' first | refine pw_step rfl ?_ | refine pw_ret ?_ | refine wR ?_ | (refine wpG_split rfl rfl (fun hc => ?_) (fun hc => ?_) <;> try simp only [hcL] at hc) | (refine pw_cond _ rfl rfl (fun hc => ?_) (fun hc => ?_) <;> (try simp only [hcL] at hc) <;> try omega) | simp (disch := omega) only [go_sem, simprocAttr, gv, hrn] | apply And.intro | omega | decide +kernel
     refine ⟨v + 1, ?_, eL [] _ _ (by refine ⟨?_, ?_⟩ <;> (repeat' first | exact fmn | refine fmc ⟨(by first | rfl | (simp (disch := omega) only [go_sem, simprocAttr, inL, hiN, ite_max]; first | done | omega | (congr 1; done))), ?_⟩); done), ?_⟩
     ·omega
     ·omega
    ·have : n = v := by omega
     subst this
     obtain ⟨H, hH⟩ : ∃ H : Nat, hiN r n + 1 = H ∧ H ≤ 256 ∧ (if (n : Int) = 0 then [] else (List.range (maxN r (r.length - 1) + 1).toNat).map fun k => layerOf A k) = layersN A H := by
      rcases Nat.eq_zero_or_pos n with h0 | h0
      ·refine ⟨0, ?_, by omega, ?_⟩
       ·rw [h0, hiN]; rfl
       ·rw [if_pos (by omega)]; rfl
      ·obtain ⟨m, rfl⟩ : ∃ m, n = m + 1 := ⟨n - 1, by omega⟩
       have e1 := hiN_max (fun v => (h5 v).1) m
       have e2 := maxN_le (fun j => (h5 j).2) m
       have e3 := maxN_ge r m 0 (by omega)
       have e4 := h5 0
       refine ⟨(maxN r m + 1).toNat, by omega, by omega, ?_⟩
       rw [if_neg (by omega), hrn, Nat.add_sub_cancel]
       rfl
     obtain ⟨hH, hH2, hH3⟩ := hH
     rw [hH3]
     generalize hiN r n = hi at hH ⊢
     repeat' first | refine pw_step rfl ?_ | refine pw_ret ?_ | refine wR ?_ | (refine wpG_split rfl rfl (fun hc => ?_) (fun hc => ?_) <;> try simp only [hcL] at hc) | (refine pw_cond _ rfl rfl (fun hc => ?_) (fun hc => ?_) <;> (try simp only [hcL] at hc) <;> try omega) | simp (disch := omega) only [go_sem, simprocAttr] | apply And.intro | omega | decide +kernel
     refine pw_loopI (κ := Nat) (fun (k : Nat) => k ≤ H) (fun (k : Nat) => [(1, .d (intsD r)), (2, .ptr 2 0 0 0), (4, .ptr 4 0 0 0), (5, .ptr 5 0 0 0), (6, .ref 904 1 0 A.length A.length), (12, .int hi), (14, .int k)]) (fun (k : Nat) => [(2, .cells [.int n, .d (arcsD l)]), (4, .cells [.int 0, .nilS, .nilS, .nilS]), (5, .cells [.int n, .ref 905 1 0 k k, .ref 901 2 0 E.length E.length, .ref 902 1 0 C.length C.length]), (905, .row 1 ((layersN A k).map intsD)), (901, .row 2 (E.map arcD)), (902, .row 1 (C.map intsD)), (904, .row 1 (A.map D.int))]) (fun (k : Nat) => H - k) 0 ?_ ?_ ?_
     ·exact Nat.zero_le _
     ·exact eL [] _ _ (by refine ⟨?_, ?_⟩ <;> (repeat' first | exact fmn | refine fmc ⟨(by first | rfl | (simp (disch := omega) only [go_sem, simprocAttr, inL, layersN, List.range_zero, List.map_nil]; first | done | omega | (congr 1; done))), ?_⟩); done)
     ·intro k hk
      rcases Nat.lt_or_ge k H with hkH | hkH
      ·have hlk := layersN_len A k
       repeat' first | refine pw_step rfl ?_ | refine pw_ret ?_ | refine wR ?_ | (refine wpG_split rfl rfl (fun hc => ?_) (fun hc => ?_) <;> try simp only [hcL] at hc) | (refine pw_cond _ rfl rfl (fun hc => ?_) (fun hc => ?_) <;> (try simp only [hcL] at hc) <;> try omega) | simp (disch := omega) only [go_sem, simprocAttr] | apply And.intro | omega | decide +kernel
       refine pw_ent _ (ent_nil 15 906 1 rfl rfl) ?_
       refine pw_loopI (κ := Nat) (fun (i : Nat) => i ≤ A.length) (fun (i : Nat) => [(1, .d (intsD r)), (2, .ptr 2 0 0 0), (4, .ptr 4 0 0 0), (5, .ptr 5 0 0 0), (6, .ref 904 1 0 A.length A.length), (12, .int hi), (14, .int k), (15, .ref 906 1 0 (layerOf (A.take i) k).length (layerOf (A.take i) k).length), (16, .int i)]) (fun (i : Nat) => [(2, .cells [.int n, .d (arcsD l)]), (4, .cells [.int 0, .nilS, .nilS, .nilS]), (5, .cells [.int n, .ref 905 1 0 k k, .ref 901 2 0 E.length E.length, .ref 902 1 0 C.length C.length]), (905, .row 1 ((layersN A k).map intsD)), (901, .row 2 (E.map arcD)), (902, .row 1 (C.map intsD)), (904, .row 1 (A.map D.int)), (906, .row 1 ((layerOf (A.take i) k).map D.int))]) (fun (i : Nat) => A.length - i) 0 ?_ ?_ ?_
       ·exact Nat.zero_le _
       ·exact eL [] _ _ (by refine ⟨?_, ?_⟩ <;> (repeat' first | exact fmn | refine fmc ⟨(by first | rfl | (simp (disch := omega) only [go_sem, simprocAttr, inL, layerOf, List.take_zero, List.range_zero, List.length_nil, List.filter_nil, List.map_nil]; first | done | omega | (congr 1; done))), ?_⟩); done)
       ·intro i hi2
        have hll := layerOf_len (A.take i) k
        rw [List.length_take] at hll
        rcases Nat.lt_or_ge i A.length with hiA | hiA
        ·have gi := at0_at hiA
         have hst : layerOf (A.take (i + 1)) k = if at0 A i = k then layerOf (A.take i) k ++ [(i : Int)] else layerOf (A.take i) k := by
          rw [take_snoc gi, layerOf_snoc, List.length_take, Nat.min_eq_left (by omega)]
         generalize layerOf (A.take i) k = L at hst hll ⊢
         by_cases hx : at0 A i = k
         ·rw [if_pos hx] at hst
          repeat' first | refine pw_step rfl ?_ | refine pw_ret ?_ | refine wR ?_ | (refine wpG_split rfl rfl (fun hc => ?_) (fun hc => ?_) <;> try simp only [hcL] at hc) | (refine pw_cond _ rfl rfl (fun hc => ?_) (fun hc => ?_) <;> (try simp only [hcL] at hc) <;> try omega) | simp (disch := omega) only [go_sem, simprocAttr, gi, hx, roomy, take_map_len] | apply And.intro | omega | decide +kernel
          refine ⟨i + 1, ?_, eL [(906, 126)] _ _ (by refine ⟨?_, ?_⟩ <;> (repeat' first | exact fmn | refine fmc ⟨(by first | rfl | (simp (disch := omega) only [go_sem, simprocAttr, inL, hst, List.map_append, List.length_append, List.length_cons, List.length_nil]; first | done | omega | (congr 1; done))), ?_⟩); done), ?_⟩
          ·omega
          ·omega
         ·rw [if_neg hx] at hst
          repeat' first | refine pw_step rfl ?_ | refine pw_ret ?_ | refine wR ?_ | (refine wpG_split rfl rfl (fun hc => ?_) (fun hc => ?_) <;> try simp only [hcL] at hc) | (refine pw_cond _ rfl rfl (fun hc => ?_) (fun hc => ?_) <;> (try simp only [hcL] at hc) <;> try omega) | simp (disch := omega) only [go_sem, simprocAttr, gi, roomy, take_map_len] | apply And.intro | omega | decide +kernel
          refine ⟨i + 1, ?_, eL [] _ _ (by refine ⟨?_, ?_⟩ <;> (repeat' first | exact fmn | refine fmc ⟨(by first | rfl | (simp (disch := omega) only [go_sem, simprocAttr, inL, hst]; first | done | omega | (congr 1; done))), ?_⟩); done), ?_⟩
          ·omega
          ·omega
        ·have : i = A.length := by omega
         subst this
         have hAA : A.take A.length = A := List.take_length
         rw [hAA] at hll
         have hls := layersN_succ A k
         have hlt : ((layersN A k).map intsD).take k = (layersN A k).map intsD := List.take_of_length_le (by rw [List.length_map, hlk]; exact Nat.le_refl _)
         try dsimp only
         rw [hAA]
         refine pw_ent _ (ent_freeze 906 1 ((layerOf A k).map D.int) rfl (noGone_of _ rfl) (by decide)) ?_
         repeat' first | refine pw_step rfl ?_ | refine pw_ret ?_ | refine wR ?_ | (refine wpG_split rfl rfl (fun hc => ?_) (fun hc => ?_) <;> try simp only [hcL] at hc) | (refine pw_cond _ rfl rfl (fun hc => ?_) (fun hc => ?_) <;> (try simp only [hcL] at hc) <;> try omega) | simp (disch := omega) only [go_sem, simprocAttr, roomy, List.length_map, hlk, take_map_len] | apply And.intro | omega | decide +kernel
         refine ⟨k + 1, ?_, eL [(905, 131)] _ _ (by refine ⟨?_, ?_⟩ <;> (repeat' first | exact fmn | refine fmc ⟨(by first | rfl | (simp (disch := omega) only [go_sem, simprocAttr, inL, hls, List.map_append, List.length_append, List.length_cons, List.length_nil, hlk, hlt, Int.natCast_add, Int.natCast_one]; first | done | omega | (congr 1; done))), ?_⟩); done), ?_⟩
         ·omega
         ·omega
      ·have : k = H := by omega
       subst this
       have hlk := layersN_len A k
       repeat' first | refine pw_step rfl ?_ | refine pw_ret ?_ | refine wR ?_ | (refine wpG_split rfl rfl (fun hc => ?_) (fun hc => ?_) <;> try simp only [hcL] at hc) | (refine pw_cond _ rfl rfl (fun hc => ?_) (fun hc => ?_) <;> (try simp only [hcL] at hc) <;> try omega) | simp (disch := omega) only [go_sem, simprocAttr] | apply And.intro | omega | decide +kernel
       have hlt : ((layersN A k).map intsD).take k = (layersN A k).map intsD := List.take_of_length_le (by rw [List.length_map, hlk]; exact Nat.le_refl _)
       refine ⟨_, _, _, _, rfl, ?_⟩
       simp (disch := omega) only [go_sem, simprocAttr, toD, hlk, hlt, take_map_len]
end Go.Proofs.Ythbcmebhpabpnaa
namespace Go.Proofs.Ythbcmebhpabpnaa
open Go Go.PS Go.Proofs
set_option maxRecDepth 100000
attribute [local irreducible] wpRun wpG CallsTo CallsM
set_option maxHeartbeats 4000000 in
theorem rBuild_err0 (g : Gr) (r : List Int) (h : gOk g = false ∨ (r.length : Int) ≠ g.1) : CallsTo Try.prog 43 [gD g, intsD r] (.tup [lvD lv0, .int 1]) := by
 have hv := rValid_spec g
 rcases h1 : gOk g with _ | _ <;> rw [h1] at hv
 ·refine callsTo_of Try.func43 rfl (by decide +kernel) (Nat.le_of_ble_eq_true rfl) ?_
  intro hat B X w0
  repeat' first | refine pw_step rfl ?_ | refine pw_ret ?_ | refine wR ?_ | (refine rc (hv) rfl ?_ ?_; (· first | rfl | simp (disch := omega) only [go_sem, simprocAttr, List.append_eq])) | (refine wpG_split rfl rfl (fun hc => ?_) (fun hc => ?_) <;> try simp only [hcL] at hc) | (refine pw_cond _ rfl rfl (fun hc => ?_) (fun hc => ?_) <;> (try simp only [hcL] at hc) <;> try omega) | simp (disch := omega) only [go_sem, simprocAttr, List.append_eq] | apply And.intro | omega | decide +kernel
  all_goals
   refine ⟨_, rfl, ⟨_, _, _, _, rfl, ?_⟩, int_some ?_, trivial⟩
   ·simp (disch := omega) only [go_sem, simprocAttr, toD]
    rfl
   ·rfl
 ·have h2 : (r.length : Int) ≠ g.1 := by
   rcases h with h | h
   ·rw [h1] at h; exact absurd h (by decide)
   ·exact h
  refine callsTo_of Try.func43 rfl (by decide +kernel) (Nat.le_of_ble_eq_true rfl) ?_
  intro hat B X w0
  have hl := at_len 1 hat rfl
  rw [List.length_map] at hl
  repeat' first | refine pw_step rfl ?_ | refine pw_ret ?_ | refine wR ?_ | (refine rc (hv) rfl ?_ ?_; (· first | rfl | simp (disch := omega) only [go_sem, simprocAttr, List.append_eq, h2])) | (refine wpG_split rfl rfl (fun hc => ?_) (fun hc => ?_) <;> try simp only [hcL] at hc) | (refine pw_cond _ rfl rfl (fun hc => ?_) (fun hc => ?_) <;> (try simp only [hcL] at hc) <;> try omega) | simp (disch := omega) only [go_sem, simprocAttr, List.append_eq, h2] | apply And.intro | omega | decide +kernel
  all_goals
   refine ⟨_, rfl, ⟨_, _, _, _, rfl, ?_⟩, int_some ?_, trivial⟩
   ·simp (disch := omega) only [go_sem, simprocAttr, toD]
    rfl
   ·rfl
set_option maxHeartbeats 8000000 in
theorem rBuild_main (g : Gr) (r : List Int) (h1 : gOk g = true) (h2 : (r.length : Int) = g.1) : CallsTo Try.prog 43 [gD g, intsD r] (.tup [lvD (buildF g r).1, .int (buildF g r).2]) := by
 have hv := rValid_spec g
 obtain ⟨g1, g2, g3, g4⟩ := gOk_in h1
 have hbf : buildF g r = if r.any rankBad then (lv0, 1) else if g.2.any loopF then (lv0, 8) else if g.2.any (upward r) then (lv0, 3) else if 512 < g.1 + sumG r g.2 g.2.length then (lv0, 2) else (madeF g r, 0) := by
  rw [buildF, ranksOk, h1]
  cases r.any rankBad <;> simp [h2]
 rw [h1] at hv
 obtain ⟨m, l⟩ := g
 dsimp only at g1 g2 g3 g4 h2 hbf
 obtain ⟨n, rfl⟩ : ∃ n : Nat, m = n := ⟨m.toNat, by omega⟩
 have hrn : r.length = n := by omega
 refine callsTo_of Try.func43 rfl (by decide +kernel) (Nat.le_of_ble_eq_true rfl) ?_
 intro hat B X w0
 repeat' first | refine pw_step rfl ?_ | refine pw_ret ?_ | refine wR ?_ | (refine rc (hv) rfl ?_ ?_; (· first | rfl | simp (disch := omega) only [go_sem, simprocAttr, List.append_eq, hrn])) | (refine wpG_split rfl rfl (fun hc => ?_) (fun hc => ?_) <;> try simp only [hcL] at hc) | (refine pw_cond _ rfl rfl (fun hc => ?_) (fun hc => ?_) <;> (try simp only [hcL] at hc) <;> try omega) | simp (disch := omega) only [go_sem, simprocAttr, List.append_eq, hrn] | apply And.intro | omega | decide +kernel
 refine pw_loopI (κ := Nat) (fun (k : Nat) => k ≤ n ∧ ∀ (j : Nat) y, j < k → r[j]? = some y → rankBad y = false) (fun (k : Nat) => [(1, .d (intsD r)), (2, .ptr 2 0 0 0), (4, .ptr 4 0 0 0), (6, .int k)]) (fun (k : Nat) => [(2, .cells [.int n, .d (arcsD l)]), (4, .cells [.int 0, .nilS, .nilS, .nilS])]) (fun (k : Nat) => n - k) 0 ?_ ?_ ?_
 ·exact ⟨Nat.zero_le _, fun j y h => by omega⟩
 ·exact eL [] _ _ (by refine ⟨?_, ?_⟩ <;> (repeat' first | exact fmn | refine fmc ⟨(by first | rfl | (simp (disch := omega) only [go_sem, simprocAttr, inL]; first | done | omega | (congr 1; done))), ?_⟩); done)
 ·rintro k ⟨hk, hinv⟩
  rcases Nat.lt_or_ge k n with hlt | hge
  ·have gk := at0_at (r := r) (i := k) (by omega)
   rcases hrb : rankBad (at0 r k) with _ | _
   ·have hb : 0 ≤ at0 r k ∧ at0 r k ≤ 255 := by
     simp only [rankBad, decide_eq_false_iff_not] at hrb
     omega
    repeat' first | refine pw_step rfl ?_ | refine pw_ret ?_ | refine wR ?_ | (refine wpG_split rfl rfl (fun hc => ?_) (fun hc => ?_) <;> try simp only [hcL] at hc) | (refine pw_cond _ rfl rfl (fun hc => ?_) (fun hc => ?_) <;> (try simp only [hcL] at hc) <;> try omega) | simp (disch := omega) only [go_sem, simprocAttr, gk, hrn] | apply And.intro | omega | decide +kernel
    refine ⟨k + 1, ?_, eL [] _ _ (by refine ⟨?_, ?_⟩ <;> (repeat' first | exact fmn | refine fmc ⟨(by first | rfl | (simp (disch := omega) only [go_sem, simprocAttr, inL]; first | done | omega | (congr 1; done))), ?_⟩); done), ?_⟩
    ·exact ⟨by omega, upto_succ hinv gk hrb⟩
    ·omega
   ·have hany : r.any rankBad = true := any_at gk hrb
    rw [hbf, if_pos hany]
    simp only [rankBad, decide_eq_true_eq] at hrb
    repeat' first | refine pw_step rfl ?_ | refine pw_ret ?_ | refine wR ?_ | (refine wpG_split rfl rfl (fun hc => ?_) (fun hc => ?_) <;> try simp only [hcL] at hc) | (refine pw_cond _ rfl rfl (fun hc => ?_) (fun hc => ?_) <;> (try simp only [hcL] at hc) <;> try omega) | simp (disch := omega) only [go_sem, simprocAttr, gk, hrn] | apply And.intro | omega | decide +kernel
    all_goals
     refine ⟨_, rfl, ⟨_, _, _, _, rfl, ?_⟩, int_some ?_, trivial⟩
     ·simp (disch := omega) only [go_sem, simprocAttr, toD]
      rfl
     ·rfl
  ·have : n = k := by omega
   subst this
   have hany : r.any rankBad = false := any_no fun j y hj => hinv j y (by omega)
   have hrk : ranksOk ((n : Int), l) r = true := by simp [ranksOk, h1, hrn, hany]
   obtain ⟨_, _, _, h5⟩ := ranksOk_in hrk
   have hsum := sumG_in (r := r) (l := l) h5 (fun k a ha => by have := g4 k a ha; omega)
   rw [hany] at hbf
   simp only [Bool.false_eq_true, if_false] at hbf
   repeat' first | refine pw_step rfl ?_ | refine pw_ret ?_ | refine wR ?_ | (refine wpG_split rfl rfl (fun hc => ?_) (fun hc => ?_) <;> try simp only [hcL] at hc) | (refine pw_cond _ rfl rfl (fun hc => ?_) (fun hc => ?_) <;> (try simp only [hcL] at hc) <;> try omega) | simp (disch := omega) only [go_sem, simprocAttr] | apply And.intro | omega | decide +kernel
   refine pw_loopI (κ := Nat) (fun (k : Nat) => k ≤ l.length ∧ ∀ (j : Nat) y, j < k → l[j]? = some y → loopF y = false) (fun (k : Nat) => [(1, .d (intsD r)), (2, .ptr 2 0 0 0), (4, .ptr 4 0 0 0), (7, .int k)]) (fun (k : Nat) => [(2, .cells [.int n, .d (arcsD l)]), (4, .cells [.int 0, .nilS, .nilS, .nilS])]) (fun (k : Nat) => l.length - k) 0 ?_ ?_ ?_
   ·exact ⟨Nat.zero_le _, fun j y h => by omega⟩
   ·exact eL [] _ _ (by refine ⟨?_, ?_⟩ <;> (repeat' first | exact fmn | refine fmc ⟨(by first | rfl | (simp (disch := omega) only [go_sem, simprocAttr, inL]; first | done | omega | (congr 1; done))), ?_⟩); done)
   ·rintro k ⟨hk, hinv⟩
    rcases Nat.lt_or_ge k l.length with hlt | hge
    ·obtain ⟨a, ha⟩ := get_some hlt
     rcases hlf : loopF a with _ | _
     ·have hne : ¬ a.1 = a.2 := by simpa [loopF] using hlf
      repeat' first | refine pw_step rfl ?_ | refine pw_ret ?_ | refine wR ?_ | (refine wpG_split rfl rfl (fun hc => ?_) (fun hc => ?_) <;> try simp only [hcL] at hc) | (refine pw_cond _ rfl rfl (fun hc => ?_) (fun hc => ?_) <;> (try simp only [hcL] at hc) <;> try omega) | simp (disch := omega) only [go_sem, simprocAttr, ha] | apply And.intro | omega | decide +kernel
      refine ⟨k + 1, ?_, eL [] _ _ (by refine ⟨?_, ?_⟩ <;> (repeat' first | exact fmn | refine fmc ⟨(by first | rfl | (simp (disch := omega) only [go_sem, simprocAttr, inL]; first | done | omega | (congr 1; done))), ?_⟩); done), ?_⟩
      ·exact ⟨by omega, upto_succ hinv ha hlf⟩
      ·omega
     ·have hany : l.any loopF = true := any_at ha hlf
      have hne : a.1 = a.2 := by simpa [loopF] using hlf
      rw [hbf, if_pos hany]
      repeat' first | refine pw_step rfl ?_ | refine pw_ret ?_ | refine wR ?_ | (refine wpG_split rfl rfl (fun hc => ?_) (fun hc => ?_) <;> try simp only [hcL] at hc) | (refine pw_cond _ rfl rfl (fun hc => ?_) (fun hc => ?_) <;> (try simp only [hcL] at hc) <;> try omega) | simp (disch := omega) only [go_sem, simprocAttr, ha] | apply And.intro | omega | decide +kernel
      refine ⟨_, rfl, ⟨_, _, _, _, rfl, ?_⟩, int_some ?_, trivial⟩
      ·simp (disch := omega) only [go_sem, simprocAttr, toD]
       rfl
      ·rfl
    ·have : k = l.length := by omega
     subst this
     have hany : l.any loopF = false := any_no fun j y hj => hinv j y (by omega)
     rw [hany] at hbf
     simp only [Bool.false_eq_true, if_false] at hbf
     repeat' first | refine pw_step rfl ?_ | refine pw_ret ?_ | refine wR ?_ | (refine wpG_split rfl rfl (fun hc => ?_) (fun hc => ?_) <;> try simp only [hcL] at hc) | (refine pw_cond _ rfl rfl (fun hc => ?_) (fun hc => ?_) <;> (try simp only [hcL] at hc) <;> try omega) | simp (disch := omega) only [go_sem, simprocAttr] | apply And.intro | omega | decide +kernel
     refine pw_loopI (κ := Nat) (fun (k : Nat) => k ≤ l.length ∧ ∀ (j : Nat) y, j < k → l[j]? = some y → upward r y = false) (fun (k : Nat) => [(1, .d (intsD r)), (2, .ptr 2 0 0 0), (4, .ptr 4 0 0 0), (8, .int (n + sumG r l k)), (9, .int k)]) (fun (k : Nat) => [(2, .cells [.int n, .d (arcsD l)]), (4, .cells [.int 0, .nilS, .nilS, .nilS])]) (fun (k : Nat) => l.length - k) 0 ?_ ?_ ?_
     ·exact ⟨Nat.zero_le _, fun j y h => by omega⟩
     ·exact eL [] _ _ (by refine ⟨?_, ?_⟩ <;> (repeat' first | exact fmn | refine fmc ⟨(by first | rfl | (simp (disch := omega) only [go_sem, simprocAttr, inL, sumG, Int.add_zero]; first | done | omega | (congr 1; done))), ?_⟩); done)
     ·rintro k ⟨hk, hinv⟩
      have hsk := hsum k
      rcases Nat.lt_or_ge k l.length with hlt | hge
      ·obtain ⟨a, ha⟩ := get_some hlt
       have hai := g4 k a ha
       have e1 := at0_get (r := r) (v := a.1) hai.1 (by omega)
       have e2 := at0_get (r := r) (v := a.2) hai.2.2.1 (by omega)
       have f1 := h5 a.1.toNat
       have f2 := h5 a.2.toNat
       rw [show ((a.1.toNat : Nat) : Int) = a.1 by omega] at f1
       rw [show ((a.2.toNat : Nat) : Int) = a.2 by omega] at f2
       have hss : sumG r l (k + 1) = sumG r l k + (at0 r a.2 - at0 r a.1 - 1) := by rw [sumG, ha]
       rcases hup : upward r a with _ | _
       ·have hup2 := hup
        rw [upward, decide_eq_false_iff_not] at hup2
        repeat' first | refine pw_step rfl ?_ | refine pw_ret ?_ | refine wR ?_ | (refine wpG_split rfl rfl (fun hc => ?_) (fun hc => ?_) <;> try simp only [hcL] at hc) | (refine pw_cond _ rfl rfl (fun hc => ?_) (fun hc => ?_) <;> (try simp only [hcL] at hc) <;> try omega) | simp (disch := omega) only [go_sem, simprocAttr, ha, e1, e2, hrn] | apply And.intro | omega | decide +kernel
        refine ⟨k + 1, ?_, eL [] _ _ (by refine ⟨?_, ?_⟩ <;> (repeat' first | exact fmn | refine fmc ⟨(by first | rfl | (simp (disch := omega) only [go_sem, simprocAttr, inL, hss, Int.add_assoc]; first | done | omega | (congr 1; done))), ?_⟩); done), ?_⟩
        ·exact ⟨by omega, upto_succ hinv ha hup⟩
        ·omega
       ·have hany : l.any (upward r) = true := any_at ha hup
        rw [upward, decide_eq_true_eq] at hup
        rw [hbf, if_pos hany]
        repeat' first | refine pw_step rfl ?_ | refine pw_ret ?_ | refine wR ?_ | (refine wpG_split rfl rfl (fun hc => ?_) (fun hc => ?_) <;> try simp only [hcL] at hc) | (refine pw_cond _ rfl rfl (fun hc => ?_) (fun hc => ?_) <;> (try simp only [hcL] at hc) <;> try omega) | simp (disch := omega) only [go_sem, simprocAttr, ha, e1, e2, hrn] | apply And.intro | omega | decide +kernel
        refine ⟨_, rfl, ⟨_, _, _, _, rfl, ?_⟩, int_some ?_, trivial⟩
        ·simp (disch := omega) only [go_sem, simprocAttr, toD]
         rfl
        ·rfl
      ·have : k = l.length := by omega
       subst this
       have hany : l.any (upward r) = false := any_no fun j y hj => hinv j y (by omega)
       rw [hbf, if_neg (by rw [hany]; decide)]
       by_cases hbig : 512 < (n : Int) + sumG r l l.length
       ·rw [if_pos hbig]
        repeat' first | refine pw_step rfl ?_ | refine pw_ret ?_ | refine wR ?_ | (refine wpG_split rfl rfl (fun hc => ?_) (fun hc => ?_) <;> try simp only [hcL] at hc) | (refine pw_cond _ rfl rfl (fun hc => ?_) (fun hc => ?_) <;> (try simp only [hcL] at hc) <;> try omega) | simp (disch := omega) only [go_sem, simprocAttr] | apply And.intro | omega | decide +kernel
        refine ⟨_, rfl, ⟨_, _, _, _, rfl, ?_⟩, int_some ?_, trivial⟩
        ·simp (disch := omega) only [go_sem, simprocAttr, toD]
         rfl
        ·rfl
       ·rw [if_neg hbig]
        have hgap : ∀ (k : Nat) a, l[k]? = some a → 0 ≤ at0 r a.2 - at0 r a.1 - 1 := fun k a ha => by
         have := List.any_eq_false.1 hany a (List.mem_of_getElem? ha)
         rw [upward, decide_eq_true_eq] at this; omega
        have hm := made_spec n l r hrn (by omega) g3 g4 h5 hgap (by omega)
        repeat' first | refine pw_step rfl ?_ | refine pw_ret ?_ | refine wR ?_ | (refine rc (hm) rfl ?_ ?_; (· first | rfl | simp (disch := omega) only [go_sem, simprocAttr])) | (refine wpG_split rfl rfl (fun hc => ?_) (fun hc => ?_) <;> try simp only [hcL] at hc) | (refine pw_cond _ rfl rfl (fun hc => ?_) (fun hc => ?_) <;> (try simp only [hcL] at hc) <;> try omega) | simp (disch := omega) only [go_sem, simprocAttr] | apply And.intro | omega | decide +kernel
        refine ⟨_, rfl, ⟨_, _, _, _, rfl, ?_⟩, int_some ?_, trivial⟩
        ·simp (disch := omega) only [go_sem, simprocAttr, toD]
        ·rfl
theorem rBuild_spec (g : Gr) (r : List Int) : CallsTo Try.prog 43 [gD g, intsD r] (.tup [lvD (buildF g r).1, .int (buildF g r).2]) := by
 by_cases h : gOk g = true ∧ (r.length : Int) = g.1
 ·exact rBuild_main g r h.1 h.2
 ·have hr : ranksOk g r = false := by
   rw [ranksOk]
   rcases h1 : gOk g with _ | _
   ·simp
   ·have h2 : ¬ (r.length : Int) = g.1 := fun h2 => h ⟨h1, h2⟩
    simp [h2]
  have e : buildF g r = (lv0, 1) := by rw [buildF, if_pos hr]
  rw [e]
  refine rBuild_err0 g r ?_
  rcases h1 : gOk g with _ | _
  ·exact .inl rfl
  ·exact .inr fun h2 => h ⟨h1, h2⟩
end Go.Proofs.Ythbcmebhpabpnaa
