/- Crossings: the reference's Ends, Between, Total, Straight. -/
import Derived.Test.YtldbcbclhpcofaaGreatCa
import Derived.Test.YtldbcbclhpcofaaGreatPSBridge
import Derived.Test.YtldbcbclhpcofaaGreatE
import Derived.Test.YtldbcbclhpcofaaGreatPSFam
set_option linter.unusedSimpArgs false
set_option linter.unusedVariables false
namespace Go.Proofs.YtldbcbclhpcofaaGreat
open Go Go.PS Go.Proofs
set_option maxRecDepth 100000
attribute [local irreducible] wpRun wpG CallsTo CallsM

theorem place_spec (l : List Int) (v : Int) : CallsTo Tryz.prog 70 [intsD l, .int v] (.int (placeF l v)) := by
 refine callsTo_of Tryz.func70 rfl (by decide +kernel) (Nat.le_of_ble_eq_true rfl) ?_
 intro hat B X w0
 have hl := at_len 0 hat rfl
 rw [List.length_map] at hl
 repeat' first | refine pw_seq ?_ | refine pw_skip ?_ | refine pw_ret ?_ | refine pw_exit ?_ | refine pw_block ?_ | refine pw_region (fun _ => false) hmix ?_ | (refine wpG_split rfl rfl (fun hc => ?_) (fun hc => ?_) <;> try simp only [hcL, reduceCtorEq] at hc) | (refine pw_cond _ rfl rfl (fun hc => ?_) (fun hc => ?_) <;> (try simp only [hcL, reduceCtorEq] at hc) <;> try (exfalso; omega)) | simp (maxSteps := 1000000) (disch := omega) only [go_sem, simprocAttr] | apply And.intro | omega | decide +kernel
 refine pw_loopI (κ := Nat) (fun (k : Nat) => k ≤ l.length ∧ ∀ (j : Nat) y, j < k → l[j]? = some y → (decide (y = v)) = false) (fun (k : Nat) => [(0, .d (intsD l)), (1, .int v), (5, .int k)]) (fun (k : Nat) => []) (fun (k : Nat) => l.length - k) 0 ?_ ?_ ?_
 ·exact ⟨Nat.zero_le _, fun j y h => by omega⟩
 ·exact eL [] _ _ (by refine ⟨?_, ?_⟩ <;> (repeat' first | exact List.forall_mem_nil _ | refine List.forall_mem_cons.2 ⟨(by first | rfl | (simp (disch := omega) only [go_sem, simprocAttr, inL]; first | done | omega | (congr 1; done))), ?_⟩); done)
 ·rintro k ⟨hk, hinv⟩
  rcases Nat.lt_or_ge k l.length with hlt | hge
  ·obtain ⟨p, hp⟩ := get_some hlt
   repeat' first | refine pw_seq ?_ | refine pw_skip ?_ | refine pw_ret ?_ | refine pw_exit ?_ | refine pw_block ?_ | refine pw_region (fun _ => false) hmix ?_ | (refine wpG_split rfl rfl (fun hc => ?_) (fun hc => ?_) <;> try simp only [hcL, reduceCtorEq] at hc) | (refine pw_cond _ rfl rfl (fun hc => ?_) (fun hc => ?_) <;> (try simp only [hcL, reduceCtorEq] at hc) <;> try (exfalso; omega)) | simp (maxSteps := 1000000) (disch := omega) only [go_sem, simprocAttr, hp] | apply And.intro | omega | decide +kernel
   ·refine int_some ?_
    rw [placeF, findIdx_at hp (by simpa using hc) hinv]; rfl
   ·refine ⟨k + 1, ?_, eL [] _ _ (by refine ⟨?_, ?_⟩ <;> (repeat' first | exact List.forall_mem_nil _ | refine List.forall_mem_cons.2 ⟨(by first | rfl | (simp (disch := omega) only [go_sem, simprocAttr, inL]; first | done | omega | (congr 1; done))), ?_⟩); done), ?_⟩
    ·exact ⟨by omega, upto_succ hinv hp (by simpa using hc)⟩
    ·omega
  ·repeat' first | refine pw_seq ?_ | refine pw_skip ?_ | refine pw_ret ?_ | refine pw_exit ?_ | refine pw_block ?_ | refine pw_region (fun _ => false) hmix ?_ | (refine wpG_split rfl rfl (fun hc => ?_) (fun hc => ?_) <;> try simp only [hcL, reduceCtorEq] at hc) | (refine pw_cond _ rfl rfl (fun hc => ?_) (fun hc => ?_) <;> (try simp only [hcL, reduceCtorEq] at hc) <;> try (exfalso; omega)) | simp (maxSteps := 1000000) (disch := omega) only [go_sem, simprocAttr] | apply And.intro | omega | decide +kernel
   refine int_some ?_
   rw [placeF, findIdx_no (fun j y hy => hinv j y (by have := (List.getElem?_eq_some_iff.1 hy).1; omega) hy)]; rfl
def pairOf (y z : List Int) (x : Arc) : List (Int × Int) := if 0 ≤ placeF y x.1 ∧ 0 ≤ placeF z x.2 then [(placeF y x.1, placeF z x.2)] else []
def pairsF (y z : List Int) (ar : List Arc) : List (Int × Int) := ar.flatMap (pairOf y z)
abbrev pairD (p : Int × Int) : D := .sl [.int p.1, .int p.2]
abbrev prsD (l : List (Int × Int)) : D := .sl (l.map pairD)
theorem pairsF_le (y z : List Int) (ar : List Arc) : (pairsF y z ar).length ≤ ar.length := by
 induction ar with
 | nil => simp [pairsF]
 | cons x ar ih =>
  have : (pairOf y z x).length ≤ 1 := by unfold pairOf; split <;> simp
  simp only [pairsF, List.flatMap_cons, List.length_append, List.length_cons] at ih ⊢; omega
set_option maxHeartbeats 1000000 in
theorem Ends_spec (a : Lv) (i : Nat) (y z : List Int) (hy : a.2.1[i]? = some y) (hz : a.2.1[i + 1]? = some z) (ha : a.2.2.1.length ≤ 1000) : CallsTo Tryz.prog 45 [lvD a, .int i] (prsD (pairsF y z a.2.2.1)) := by
 have hil : i + 1 < a.2.1.length := (List.getElem?_eq_some_iff.1 hz).1
 obtain ⟨n, ls, ar, cs⟩ := a
 dsimp only at *
 refine callsTo_of Tryz.func45 rfl (by decide +kernel) (Nat.le_of_ble_eq_true rfl) ?_
 intro hat B X w0
 have hl := at_len2 0 1 hat rfl rfl
 rw [List.length_map] at hl
 dsimp only at hl
 repeat' first | refine pw_seq ?_ | refine pw_skip ?_ | refine pw_ret ?_ | refine pw_exit ?_ | refine pw_block ?_ | refine pw_region (Nat.beq 9) hmix ?_ | (refine wpG_split rfl rfl (fun hc => ?_) (fun hc => ?_) <;> try simp only [hcL, reduceCtorEq] at hc) | (refine pw_cond _ rfl rfl (fun hc => ?_) (fun hc => ?_) <;> (try simp only [hcL, reduceCtorEq] at hc) <;> try (exfalso; omega)) | simp (maxSteps := 1000000) (disch := omega) only [go_sem, simprocAttr] | apply And.intro | omega | decide +kernel
 refine pw_loopI (κ := Nat) (fun (k : Nat) => k ≤ ar.length) (fun (k : Nat) => [(1, .int i), (2, .ptr 2 0 0 0), (5, .ref 901 1 0 (pairsF y z (ar.take k)).length (pairsF y z (ar.take k)).length), (6, .int k)]) (fun (k : Nat) => [(2, .cells [.int n, .d (listsD ls), .d (arcsD ar), .d (listsD cs)]), (901, .row 1 ((pairsF y z (ar.take k)).map pairD))]) (fun (k : Nat) => ar.length - k) 0 ?_ ?_ ?_
 ·exact Nat.zero_le _
 ·exact eL [(901, 9)] _ _ (by refine ⟨?_, ?_⟩ <;> (repeat' first | exact List.forall_mem_nil _ | refine List.forall_mem_cons.2 ⟨(by first | rfl | (simp (disch := omega) only [go_sem, simprocAttr, inL, List.take_zero, pairsF, List.flatMap_nil, List.length_nil]; first | done | omega | (congr 1; done))), ?_⟩); done)
 ·intro k hk
  have hle := pairsF_le y z (ar.take k)
  rw [List.length_take] at hle
  rcases Nat.lt_or_ge k ar.length with hlt | hge
  ·obtain ⟨x, hx⟩ := get_some hlt
   have e1 : pairsF y z (ar.take (k + 1)) = pairsF y z (ar.take k) ++ pairOf y z x := by rw [take_snoc hx, pairsF, List.flatMap_append]; simp [pairsF]
   have p1 := place_spec y x.1
   have p2 := place_spec z x.2
   have en : ((i : Int) + 1).toNat = i + 1 := by omega
   rw [pairOf] at e1
   generalize placeF y x.1 = u at *
   generalize placeF z x.2 = v at *
   generalize pairsF y z (ar.take k) = R at *
   by_cases c1 : 0 ≤ u <;> by_cases c2 : 0 ≤ v
   ·rw [if_pos ⟨c1, c2⟩] at e1
    repeat' first | refine pw_seq ?_ | refine pw_skip ?_ | refine pw_ret ?_ | refine pw_exit ?_ | refine pw_block ?_ | refine pw_region (fun _ => false) hmix ?_ | (refine rc (p1) rfl ?_ ?_; (· first | rfl | (simp (disch := omega) only [go_sem, simprocAttr, hx, hy, hz, en, c1, c2, roomy, take_map_len]; done))) | (refine rc (p2) rfl ?_ ?_; (· first | rfl | (simp (disch := omega) only [go_sem, simprocAttr, hx, hy, hz, en, c1, c2, roomy, take_map_len]; done))) | (refine wpG_split rfl rfl (fun hc => ?_) (fun hc => ?_) <;> try simp only [hcL, reduceCtorEq] at hc) | (refine pw_cond _ rfl rfl (fun hc => ?_) (fun hc => ?_) <;> (try simp only [hcL, reduceCtorEq] at hc) <;> try (exfalso; omega)) | simp (maxSteps := 1000000) (disch := omega) only [go_sem, simprocAttr, hx, hy, hz, en, c1, c2, roomy, take_map_len] | apply And.intro | omega | decide +kernel
    refine ⟨k + 1, ?_, eL [(901, 53)] _ _ (by refine ⟨?_, ?_⟩ <;> (repeat' first | exact List.forall_mem_nil _ | refine List.forall_mem_cons.2 ⟨(by first | rfl | (simp (disch := omega) only [go_sem, simprocAttr, inL, e1, List.map_append, List.length_append, List.length_cons, List.length_nil]; first | done | omega | (congr 1; done))), ?_⟩); done), ?_⟩
    ·omega
    ·omega
   all_goals
    rw [if_neg (by omega), List.append_nil] at e1
    repeat' first | refine pw_seq ?_ | refine pw_skip ?_ | refine pw_ret ?_ | refine pw_exit ?_ | refine pw_block ?_ | refine pw_region (fun _ => false) hmix ?_ | (refine rc (p1) rfl ?_ ?_; (· first | rfl | (simp (disch := omega) only [go_sem, simprocAttr, hx, hy, hz, en, c1, c2]; done))) | (refine rc (p2) rfl ?_ ?_; (· first | rfl | (simp (disch := omega) only [go_sem, simprocAttr, hx, hy, hz, en, c1, c2]; done))) | (refine wpG_split rfl rfl (fun hc => ?_) (fun hc => ?_) <;> try simp only [hcL, reduceCtorEq] at hc) | (refine pw_cond _ rfl rfl (fun hc => ?_) (fun hc => ?_) <;> (try simp only [hcL, reduceCtorEq] at hc) <;> try (exfalso; omega)) | simp (maxSteps := 1000000) (disch := omega) only [go_sem, simprocAttr, hx, hy, hz, en, c1, c2] | apply And.intro | omega | decide +kernel
    refine ⟨k + 1, ?_, eL [] _ _ (by refine ⟨?_, ?_⟩ <;> (repeat' first | exact List.forall_mem_nil _ | refine List.forall_mem_cons.2 ⟨(by first | rfl | (simp (disch := omega) only [go_sem, simprocAttr, inL, e1]; first | done | omega | (congr 1; done))), ?_⟩); done), ?_⟩
    ·omega
    ·omega
  ·have : k = ar.length := by omega
   subst this
   try dsimp only
   rw [List.take_length]
   repeat' first | refine pw_seq ?_ | refine pw_skip ?_ | refine pw_ret ?_ | refine pw_exit ?_ | refine pw_block ?_ | refine pw_region (fun _ => false) hmix ?_ | (refine wpG_split rfl rfl (fun hc => ?_) (fun hc => ?_) <;> try simp only [hcL, reduceCtorEq] at hc) | (refine pw_cond _ rfl rfl (fun hc => ?_) (fun hc => ?_) <;> (try simp only [hcL, reduceCtorEq] at hc) <;> try (exfalso; omega)) | simp (maxSteps := 1000000) (disch := omega) only [go_sem, simprocAttr] | apply And.intro | omega | decide +kernel
   exact ret_ref (o := 901) rfl rfl (by simp) (List.take_of_length_le (by simp))
def crossB (x y : Int × Int) : Bool := decide (x.1 < y.1) && decide (y.2 < x.2)
def crossF : List (Int × Int) → List (Int × Int) → Nat
 | [], _ => 0
 | x :: E, F => F.countP (crossB x) + crossF E F
theorem crossF_snoc (E F : List (Int × Int)) (x : Int × Int) : crossF (E ++ [x]) F = crossF E F + F.countP (crossB x) := by
 induction E with
 | nil => simp [crossF]
 | cons y E ih => simp only [List.cons_append, crossF, ih]; omega
theorem crossF_le (E F : List (Int × Int)) : crossF E F ≤ E.length * F.length := by
 induction E with
 | nil => simp [crossF]
 | cons y E ih =>
  have := List.countP_le_length (p := crossB y) (l := F)
  simp only [crossF, List.length_cons, Nat.add_mul]; omega
def rBetweenF (a : Lv) (i : Int) : Int := if validF a = false ∨ i < 0 ∨ (a.2.1.length : Int) - 1 ≤ i then 0 else crossF (pairsF (lstN a.2.1 i.toNat) (lstN a.2.1 (i.toNat + 1)) a.2.2.1) (pairsF (lstN a.2.1 i.toNat) (lstN a.2.1 (i.toNat + 1)) a.2.2.1)
set_option maxHeartbeats 4000000 in
theorem rBetween_spec (a : Lv) (i : Int) (hw : wide a) : CallsTo Tryz.prog 23 [lvD a, .int i] (.int (rBetweenF a i)) := by
 have h1 := rLvValid_spec a hw
 rw [← valid_same] at h1
 rw [rBetweenF]
 rcases h : validF a with _ | _ <;> rw [h] at h1
 ·rw [if_pos (.inl rfl)]
  refine callsTo_of Tryz.func23 rfl (by decide +kernel) (Nat.le_of_ble_eq_true rfl) ?_
  intro hat B X w0
  repeat' first | refine pw_seq ?_ | refine pw_skip ?_ | refine pw_ret ?_ | refine pw_exit ?_ | refine pw_block ?_ | refine pw_region (fun _ => false) hmix ?_ | (refine rc (h1) rfl ?_ ?_; (· first | rfl | (simp (disch := omega) only [go_sem, simprocAttr, List.append_eq]; done))) | (refine wpG_split rfl rfl (fun hc => ?_) (fun hc => ?_) <;> try simp only [hcL, reduceCtorEq] at hc) | (refine pw_cond _ rfl rfl (fun hc => ?_) (fun hc => ?_) <;> (try simp only [hcL, reduceCtorEq] at hc) <;> try (exfalso; omega)) | simp (maxSteps := 1000000) (disch := omega) only [go_sem, simprocAttr, List.append_eq] | apply And.intro | omega | decide +kernel
  exact int_some rfl
 ·obtain ⟨s1, s2, s3⟩ := lv_sizes h
  by_cases c : i < 0 ∨ (a.2.1.length : Int) - 1 ≤ i
  ·rw [if_pos (.inr c)]
   obtain ⟨n, ls, ar, cs⟩ := a
   dsimp only at c
   refine callsTo_of Tryz.func23 rfl (by decide +kernel) (Nat.le_of_ble_eq_true rfl) ?_
   intro hat B X w0
   have hl := at_len2 0 1 hat rfl rfl
   rw [List.length_map] at hl
   dsimp only at hl
   repeat' first | refine pw_seq ?_ | refine pw_skip ?_ | refine pw_ret ?_ | refine pw_exit ?_ | refine pw_block ?_ | refine pw_region (fun _ => false) hmix ?_ | (refine rc (h1) rfl ?_ ?_; (· first | rfl | (simp (disch := omega) only [go_sem, simprocAttr, List.append_eq]; done))) | (refine wpG_split rfl rfl (fun hc => ?_) (fun hc => ?_) <;> try simp only [hcL, reduceCtorEq] at hc) | (refine pw_cond _ rfl rfl (fun hc => ?_) (fun hc => ?_) <;> (try simp only [hcL, reduceCtorEq] at hc) <;> try (exfalso; omega)) | simp (maxSteps := 1000000) (disch := omega) only [go_sem, simprocAttr, List.append_eq] | apply And.intro | omega | decide +kernel
   all_goals exact int_some rfl
  ·rw [if_neg (by rintro (h | h); cases h; exact c h)]
   obtain ⟨i, rfl⟩ : ∃ n : Nat, i = n := ⟨i.toNat, by omega⟩
   rw [Int.toNat_natCast]
   obtain ⟨y, hy⟩ := get_some (l := a.2.1) (k := i) (by omega)
   obtain ⟨z, hz⟩ := get_some (l := a.2.1) (k := i + 1) (by omega)
   have h2 := Ends_spec a i y z hy hz (by omega)
   have hEl := pairsF_le y z a.2.2.1
   have e1 : lstN a.2.1 i = y := by rw [lstN, hy]; rfl
   have e2 : lstN a.2.1 (i + 1) = z := by rw [lstN, hz]; rfl
   rw [e1, e2]
   generalize pairsF y z a.2.2.1 = E at *
   have hcl : ∀ k, k ≤ E.length → crossF (E.take k) E ≤ 800 * 800 := fun k hk => by
    refine Nat.le_trans (crossF_le _ _) (Nat.mul_le_mul ?_ (by omega))
    rw [List.length_take]; omega
   obtain ⟨n, ls, ar, cs⟩ := a
   dsimp only at *
   refine callsTo_of Tryz.func23 rfl (by decide +kernel) (Nat.le_of_ble_eq_true rfl) ?_
   intro hat B X w0
   have hl := at_len2 0 1 hat rfl rfl
   rw [List.length_map] at hl
   dsimp only at hl
   repeat' first | refine pw_seq ?_ | refine pw_skip ?_ | refine pw_ret ?_ | refine pw_exit ?_ | refine pw_block ?_ | refine pw_region (fun _ => false) hmix ?_ | (refine rc (h1) rfl ?_ ?_; (· first | rfl | (simp (disch := omega) only [go_sem, simprocAttr, List.append_eq]; done))) | (refine rc (h2) rfl ?_ ?_; (· first | rfl | (simp (disch := omega) only [go_sem, simprocAttr, List.append_eq]; done))) | (refine wpG_split rfl rfl (fun hc => ?_) (fun hc => ?_) <;> try simp only [hcL, reduceCtorEq] at hc) | (refine pw_cond _ rfl rfl (fun hc => ?_) (fun hc => ?_) <;> (try simp only [hcL, reduceCtorEq] at hc) <;> try (exfalso; omega)) | simp (maxSteps := 1000000) (disch := omega) only [go_sem, simprocAttr, List.append_eq] | apply And.intro | omega | decide +kernel
   refine pw_loopI (κ := Nat) (fun (u : Nat) => u ≤ E.length) (fun (u : Nat) => [(5, .d (prsD E)), (6, .int (crossF (E.take u) E)), (7, .int u)]) (fun (u : Nat) => []) (fun (u : Nat) => E.length - u) 0 ?_ ?_ ?_
   ·exact Nat.zero_le _
   ·exact eL [] _ _ (by refine ⟨?_, ?_⟩ <;> (repeat' first | exact List.forall_mem_nil _ | refine List.forall_mem_cons.2 ⟨(by first | rfl | (simp (disch := omega) only [go_sem, simprocAttr, inL, List.take_zero, crossF]; first | done | omega | (congr 1; done))), ?_⟩); done)
   ·intro u hu
    rcases Nat.lt_or_ge u E.length with hlt | hge
    ·obtain ⟨p, hp⟩ := get_some hlt
     have f1 : crossF (E.take (u + 1)) E = crossF (E.take u) E + E.countP (crossB p) := by rw [take_snoc hp, crossF_snoc]
     have b1 := hcl u hu
     have b2 := hcl (u + 1) (by omega)
     obtain ⟨c0, e0⟩ : ∃ c0, crossF (E.take u) E = c0 := ⟨_, rfl⟩
     rw [e0] at b1 f1
     repeat' first | refine pw_seq ?_ | refine pw_skip ?_ | refine pw_ret ?_ | refine pw_exit ?_ | refine pw_block ?_ | refine pw_region (fun _ => false) hmix ?_ | (refine wpG_split rfl rfl (fun hc => ?_) (fun hc => ?_) <;> try simp only [hcL, reduceCtorEq] at hc) | (refine pw_cond _ rfl rfl (fun hc => ?_) (fun hc => ?_) <;> (try simp only [hcL, reduceCtorEq] at hc) <;> try (exfalso; omega)) | simp (maxSteps := 1000000) (disch := omega) only [go_sem, simprocAttr] | apply And.intro | omega | decide +kernel
     refine pw_loopI (κ := Nat) (fun (v : Nat) => v ≤ E.length) (fun (v : Nat) => [(5, .d (prsD E)), (6, .int ((c0 + (E.take v).countP (crossB p) : Nat) : Int)), (7, .int u), (8, .int v)]) (fun (v : Nat) => []) (fun (v : Nat) => E.length - v) 0 ?_ ?_ ?_
     ·exact Nat.zero_le _
     ·exact eL [] _ _ (by refine ⟨?_, ?_⟩ <;> (repeat' first | exact List.forall_mem_nil _ | refine List.forall_mem_cons.2 ⟨(by first | rfl | (simp (disch := omega) only [go_sem, simprocAttr, inL, e0, List.take_zero, List.countP_nil, Nat.add_zero]; first | done | omega | (congr 1; done))), ?_⟩); done)
     ·intro v hv
      rcases Nat.lt_or_ge v E.length with hlv | hgv
      ·obtain ⟨q, hq⟩ := get_some hlv
       have f2 : (E.take (v + 1)).countP (crossB p) = (E.take v).countP (crossB p) + if crossB p q then 1 else 0 := by
        rw [take_snoc hq, List.countP_append]; simp [List.countP_cons]
       have hle := List.countP_le_length (p := crossB p) (l := E.take v)
       rw [List.length_take] at hle
       generalize (E.take v).countP (crossB p) = d at *
       by_cases d1 : p.1 < q.1 <;> by_cases d2 : q.2 < p.2
       all_goals simp only [crossB, d1, d2, decide_true, decide_false, Bool.and_true, Bool.and_false, Bool.false_eq_true, if_true, if_false, Nat.add_zero] at f2
       all_goals
        repeat' first | refine pw_seq ?_ | refine pw_skip ?_ | refine pw_ret ?_ | refine pw_exit ?_ | refine pw_block ?_ | refine pw_region (fun _ => false) hmix ?_ | (refine wpG_split rfl rfl (fun hc => ?_) (fun hc => ?_) <;> try simp only [hcL, reduceCtorEq] at hc) | (refine pw_cond _ rfl rfl (fun hc => ?_) (fun hc => ?_) <;> (try simp only [hcL, reduceCtorEq] at hc) <;> try (exfalso; omega)) | simp (maxSteps := 1000000) (disch := omega) only [go_sem, simprocAttr, List.append_eq, hp, hq, d1, d2] | apply And.intro | omega | decide +kernel
        refine ⟨v + 1, ?_, eL [] _ _ (by refine ⟨?_, ?_⟩ <;> (repeat' first | exact List.forall_mem_nil _ | refine List.forall_mem_cons.2 ⟨(by first | rfl | (simp (disch := omega) only [go_sem, simprocAttr, inL, f2, Int.natCast_add, Int.natCast_one, Int.add_assoc]; first | done | omega | (congr 1; done))), ?_⟩); done), ?_⟩
        ·omega
        ·omega
      ·have : v = E.length := by omega
       subst this
       try dsimp only
       rw [List.take_length]
       repeat' first | refine pw_seq ?_ | refine pw_skip ?_ | refine pw_ret ?_ | refine pw_exit ?_ | refine pw_block ?_ | refine pw_region (fun _ => false) hmix ?_ | (refine wpG_split rfl rfl (fun hc => ?_) (fun hc => ?_) <;> try simp only [hcL, reduceCtorEq] at hc) | (refine pw_cond _ rfl rfl (fun hc => ?_) (fun hc => ?_) <;> (try simp only [hcL, reduceCtorEq] at hc) <;> try (exfalso; omega)) | simp (maxSteps := 1000000) (disch := omega) only [go_sem, simprocAttr] | apply And.intro | omega | decide +kernel
       refine ⟨u + 1, ?_, eL [] _ _ (by refine ⟨?_, ?_⟩ <;> (repeat' first | exact List.forall_mem_nil _ | refine List.forall_mem_cons.2 ⟨(by first | rfl | (simp (disch := omega) only [go_sem, simprocAttr, inL, f1]; first | done | omega | (congr 1; done))), ?_⟩); done), ?_⟩
       ·omega
       ·omega
    ·have : u = E.length := by omega
     subst this
     try dsimp only
     rw [List.take_length]
     repeat' first | refine pw_seq ?_ | refine pw_skip ?_ | refine pw_ret ?_ | refine pw_exit ?_ | refine pw_block ?_ | refine pw_region (fun _ => false) hmix ?_ | (refine wpG_split rfl rfl (fun hc => ?_) (fun hc => ?_) <;> try simp only [hcL, reduceCtorEq] at hc) | (refine pw_cond _ rfl rfl (fun hc => ?_) (fun hc => ?_) <;> (try simp only [hcL, reduceCtorEq] at hc) <;> try (exfalso; omega)) | simp (maxSteps := 1000000) (disch := omega) only [go_sem, simprocAttr] | apply And.intro | omega | decide +kernel
     exact int_some rfl
end Go.Proofs.YtldbcbclhpcofaaGreat
namespace Go.Proofs.YtldbcbclhpcofaaGreat
open Go Go.PS Go.Proofs
set_option maxRecDepth 100000
attribute [local irreducible] wpRun wpG CallsTo CallsM

def rTotalF (a : Lv) : Int := sumZ (fun i => rBetweenF a i) a.2.1.length
theorem rBetweenF_le (a : Lv) (i : Int) : 0 ≤ rBetweenF a i ∧ rBetweenF a i ≤ 360000000000 := by
 rw [rBetweenF]
 split
 ·omega
 ·rename_i h
  have hv : validF a = true := by
   rcases hv : validF a with _ | _
   ·exact absurd (.inl hv) h
   ·rfl
  obtain ⟨s1, s2, s3⟩ := lv_sizes hv
  have h1 := pairsF_le (lstN a.2.1 i.toNat) (lstN a.2.1 (i.toNat + 1)) a.2.2.1
  generalize pairsF (lstN a.2.1 i.toNat) (lstN a.2.1 (i.toNat + 1)) a.2.2.1 = E at *
  have h2 := crossF_le E E
  have h3 : E.length * E.length ≤ 800 * 800 := Nat.mul_le_mul (by omega) (by omega)
  omega
theorem rTotal_spec (a : Lv) (hw : wide a) (hl : a.2.1.length ≤ 1000) : CallsTo Tryz.prog 20 [lvD a] (.int (rTotalF a)) := by
 have hb := fun i => rBetween_spec a i hw
 have hbl := rBetweenF_le a
 have hs : ∀ k, k ≤ a.2.1.length → 0 ≤ sumZ (fun i => rBetweenF a i) k ∧ sumZ (fun i => rBetweenF a i) k ≤ 1000 * 360000000000 := fun k hk => by
  have := sumZ_bound (f := fun i => rBetweenF a i) (c := 360000000000) k fun i _ => hbl i
  have h2 : k * 360000000000 ≤ 1000 * 360000000000 := Nat.mul_le_mul_right _ (by omega)
  omega
 rw [rTotalF]
 generalize hB : (fun i : Nat => rBetweenF a i) = Bf at hs ⊢
 have hb2 : ∀ i : Nat, CallsTo Tryz.prog 23 [lvD a, .int i] (.int (Bf i)) := fun i => by rw [← hB]; exact hb i
 obtain ⟨n, ls, ar, cs⟩ := a
 dsimp only at *
 refine callsTo_of Tryz.func20 rfl (by decide +kernel) (Nat.le_of_ble_eq_true rfl) ?_
 intro hat B X w0
 repeat' first | refine pw_seq ?_ | refine pw_skip ?_ | refine pw_ret ?_ | refine pw_exit ?_ | refine pw_block ?_ | refine pw_region (fun _ => false) hmix ?_ | (refine wpG_split rfl rfl (fun hc => ?_) (fun hc => ?_) <;> try simp only [hcL, reduceCtorEq] at hc) | (refine pw_cond _ rfl rfl (fun hc => ?_) (fun hc => ?_) <;> (try simp only [hcL, reduceCtorEq] at hc) <;> try (exfalso; omega)) | simp (maxSteps := 1000000) (disch := omega) only [go_sem, simprocAttr] | apply And.intro | omega | decide +kernel
 refine pw_loopI (κ := Nat) (fun (i : Nat) => i ≤ ls.length) (fun (i : Nat) => [(1, .ptr 1 0 0 0), (3, .int (sumZ Bf i)), (4, .int i)]) (fun (i : Nat) => [(1, .cells [.int n, .d (listsD ls), .d (arcsD ar), .d (listsD cs)])]) (fun (i : Nat) => ls.length - i) 0 ?_ ?_ ?_
 ·exact Nat.zero_le _
 ·exact eL [] _ _ (by refine ⟨?_, ?_⟩ <;> (repeat' first | exact List.forall_mem_nil _ | refine List.forall_mem_cons.2 ⟨(by first | rfl | (simp (disch := omega) only [go_sem, simprocAttr, inL, sumZ]; first | done | omega | (congr 1; done))), ?_⟩); done)
 ·intro i hi
  rcases Nat.lt_or_ge i ls.length with hlt | hge
  ·have h1 := hs i hi
   have h2 := hs (i + 1) (by omega)
   have e1 : sumZ Bf (i + 1) = sumZ Bf i + Bf i := rfl
   have hbi := hb2 i
   repeat' first | refine pw_seq ?_ | refine pw_skip ?_ | refine pw_ret ?_ | refine pw_exit ?_ | refine pw_block ?_ | refine pw_region (fun _ => false) hmix ?_ | (refine rc (hbi) rfl ?_ ?_; (· first | rfl | (simp (disch := omega) only [go_sem, simprocAttr]; done))) | (refine wpG_split rfl rfl (fun hc => ?_) (fun hc => ?_) <;> try simp only [hcL, reduceCtorEq] at hc) | (refine pw_cond _ rfl rfl (fun hc => ?_) (fun hc => ?_) <;> (try simp only [hcL, reduceCtorEq] at hc) <;> try (exfalso; omega)) | simp (maxSteps := 1000000) (disch := omega) only [go_sem, simprocAttr] | apply And.intro | omega | decide +kernel
   refine ⟨i + 1, ?_, eL [] _ _ (by refine ⟨?_, ?_⟩ <;> (repeat' first | exact List.forall_mem_nil _ | refine List.forall_mem_cons.2 ⟨(by first | rfl | (simp (disch := omega) only [go_sem, simprocAttr, inL, e1]; first | done | omega | (congr 1; done))), ?_⟩); done), ?_⟩
   ·omega
   ·omega
  ·have : i = ls.length := by omega
   subst this
   repeat' first | refine pw_seq ?_ | refine pw_skip ?_ | refine pw_ret ?_ | refine pw_exit ?_ | refine pw_block ?_ | refine pw_region (fun _ => false) hmix ?_ | (refine wpG_split rfl rfl (fun hc => ?_) (fun hc => ?_) <;> try simp only [hcL, reduceCtorEq] at hc) | (refine pw_cond _ rfl rfl (fun hc => ?_) (fun hc => ?_) <;> (try simp only [hcL, reduceCtorEq] at hc) <;> try (exfalso; omega)) | simp (maxSteps := 1000000) (disch := omega) only [go_sem, simprocAttr] | apply And.intro | omega | decide +kernel
   exact int_some rfl
end Go.Proofs.YtldbcbclhpcofaaGreat
namespace Go.Proofs.YtldbcbclhpcofaaGreat
open Go Go.PS Go.Proofs

/-! ### Sums over pairs -/
abbrev Pr := Int × Int
def w1 (f : Pr → Int) : List Pr → Int
 | [] => 0
 | y :: F => f y + w1 f F
def W (f : Pr → Pr → Int) (F : List Pr) : List Pr → Int
 | [] => 0
 | x :: E => w1 (f x) F + W f F E
theorem w1_congr {f g : Pr → Int} : ∀ {F : List Pr}, (∀ y, y ∈ F → f y = g y) → w1 f F = w1 g F
 | [], _ => rfl
 | y :: F, h => by rw [w1, w1, h y (by simp), w1_congr fun z hz => h z (List.mem_cons_of_mem _ hz)]
theorem W_congr {f g : Pr → Pr → Int} {F : List Pr} : ∀ {E : List Pr}, (∀ x, x ∈ E → ∀ y, y ∈ F → f x y = g x y) → W f F E = W g F E
 | [], _ => rfl
 | x :: E, h => by rw [W, W, w1_congr (h x (by simp)), W_congr fun z hz => h z (List.mem_cons_of_mem _ hz)]
theorem w1_add (f g : Pr → Int) : ∀ F : List Pr, w1 (fun y => f y + g y) F = w1 f F + w1 g F
 | [] => rfl
 | y :: F => by rw [w1, w1, w1, w1_add f g F]; omega
theorem W_add (f g : Pr → Pr → Int) (F : List Pr) : ∀ E : List Pr, W (fun x y => f x y + g x y) F E = W f F E + W g F E
 | [] => rfl
 | x :: E => by rw [W, W, W, w1_add, W_add f g F E]; omega
theorem w1_zero : ∀ F : List Pr, w1 (fun _ => 0) F = 0
 | [] => rfl
 | y :: F => by rw [w1, w1_zero F]; rfl
theorem W_zero (F : List Pr) : ∀ E : List Pr, W (fun _ _ => 0) F E = 0
 | [] => rfl
 | x :: E => by rw [W, w1_zero, W_zero F E]; rfl
theorem W_sum (f : Nat → Pr → Pr → Int) (F E : List Pr) : ∀ n, sumZ (fun k => W (f k) F E) n = W (fun x y => sumZ (fun k => f k x y) n) F E
 | 0 => by simp only [sumZ]; rw [W_zero]
 | n + 1 => by simp only [sumZ]; rw [W_sum f F E n, W_add]
theorem W_nil (f : Pr → Pr → Int) : ∀ E : List Pr, W f [] E = 0
 | [] => rfl
 | x :: E => by rw [W, W_nil f E]; rfl
theorem W_cons_right (f : Pr → Pr → Int) (y : Pr) (F : List Pr) : ∀ E : List Pr, W f (y :: F) E = w1 (fun x => f x y) E + W f F E
 | [] => rfl
 | x :: E => by rw [W, W, w1, w1, W_cons_right f y F E]; omega
theorem W_swap (f : Pr → Pr → Int) : ∀ F E : List Pr, W f F E = W (fun x y => f y x) E F
 | [], E => by rw [W_nil, W]
 | y :: F, E => by rw [W_cons_right, W, W_swap f F E]
theorem w1_map (g : Pr → Pr) (f : Pr → Int) : ∀ F : List Pr, w1 f (F.map g) = w1 (fun y => f (g y)) F
 | [] => rfl
 | y :: F => by rw [List.map_cons, w1, w1, w1_map g f F]
theorem W_map (g : Pr → Pr) (f : Pr → Pr → Int) (F : List Pr) : ∀ E : List Pr, W f (F.map g) (E.map g) = W (fun x y => f (g x) (g y)) F E
 | [] => rfl
 | x :: E => by rw [List.map_cons, W, W, w1_map, W_map g f F E]
def ind (p : Prop) [Decidable p] : Int := if p then 1 else 0
theorem w1_count (p : Pr → Bool) : ∀ F : List Pr, ((F.countP p : Nat) : Int) = w1 (fun y => ind (p y = true)) F
 | [] => rfl
 | y :: F => by
  have := w1_count p F
  rw [w1, ← this, List.countP_cons, ind]
  split <;> omega
theorem cross_W (F : List Pr) : ∀ E : List Pr, ((crossF E F : Nat) : Int) = W (fun x y => ind (x.1 < y.1 ∧ y.2 < x.2)) F E
 | [] => rfl
 | x :: E => by
  rw [crossF, W, ← cross_W F E, Int.natCast_add, w1_count]
  congr 1
  refine w1_congr fun y _ => ?_
  simp [ind, crossB]
theorem under_w1 (x : Int) (p : Pr → Bool) (g : Pr → Int) : ∀ F : List Pr, ((under ((F.filter p).map g) x : Nat) : Int) = w1 (fun y => ind (p y = true ∧ g y < x)) F
 | [] => rfl
 | y :: F => by
  have ih := under_w1 x p g F
  rw [w1, ← ih]
  by_cases hp : p y = true
  ·rw [List.filter_cons_of_pos hp, List.map_cons, under, under, List.filter_cons]
   by_cases hg : g y < x
   ·simp [ind, hp, hg]; omega
   ·simp [ind, hp, hg]
  ·rw [List.filter_cons_of_neg hp]
   simp [ind, hp]
theorem behind_W (p q : Pr → Bool) (g : Pr → Int) (F : List Pr) : ∀ E : List Pr, ((behindF ((E.filter p).map g) ((F.filter q).map g) : Nat) : Int) = W (fun x y => ind (p x = true ∧ q y = true ∧ g y < g x)) F E
 | [] => rfl
 | x :: E => by
  have ih := behind_W p q g F E
  rw [W, ← ih]
  by_cases hp : p x = true
  ·rw [List.filter_cons_of_pos hp, List.map_cons, behindF, Int.natCast_add, under_w1]
   congr 1
   refine w1_congr fun y _ => ?_
   simp [ind, hp]
  ·rw [List.filter_cons_of_neg hp]
   have : w1 (fun y => ind (p x = true ∧ q y = true ∧ g y < g x)) F = 0 := by
    rw [← w1_zero F]
    refine w1_congr fun y _ => ?_
    simp [ind, hp]
   rw [this]; omega
/-! ### Single sums of indicators -/
theorem sum_one (u : Int) (g : Nat → Int) : ∀ n : Nat, (∀ k : Nat, (k : Int) ≠ u → g k = 0) → sumZ g n = if 0 ≤ u ∧ u < n then g u.toNat else 0
 | 0, _ => by rw [sumZ, if_neg (by omega)]
 | n + 1, h => by
  rw [sumZ, sum_one u g n h]
  by_cases c : (n : Int) = u
  ·subst c
   rw [if_neg (by omega), if_pos (by omega), Int.toNat_natCast]; omega
  ·rw [h n c]
   by_cases c2 : 0 ≤ u ∧ u < n
   ·rw [if_pos c2, if_pos (by omega)]; omega
   ·rw [if_neg c2, if_neg (by omega)]; rfl
/-! ### The ends, as pairs -/
theorem placeF_at {y : List Int} (hn : y.Nodup) {v : Int} {p : Nat} (h : y[p]? = some v) : placeF y v = p := by
 have hi := idxOf_at hn h
 rw [placeF]
 cases hf : y.findIdx? (fun x => decide (x = v)) with
 | none =>
  have := List.findIdx?_eq_none_iff.1 hf v (List.mem_of_getElem? h)
  simp at this
 | some k =>
  obtain ⟨hk, hk2, _⟩ := List.findIdx?_eq_some_iff_getElem.1 hf
  have hv : y[k] = v := by simpa using hk2
  have := idxOf_at hn (k := k) (v := v) (by rw [List.getElem?_eq_getElem hk, hv])
  rw [idxI]; omega
theorem placeF_no {y : List Int} {v : Int} (h : v ∉ y) : placeF y v = -1 := by
 rw [placeF, findIdx_no]
 ·rfl
 ·intro j z hz
  simp only [decide_eq_false_iff_not]
  rintro rfl
  exact h (List.mem_of_getElem? hz)
theorem Lies.placeF {ls : List (List Int)} (hn : ls.flatten.Nodup) {v : Int} {r p i : Nat} {y : List Int} (h : Lies ls v r p) (hy : ls[i]? = some y) : Go.Proofs.YtldbcbclhpcofaaGreat.placeF y v = if r = i then (p : Int) else -1 := by
 by_cases c : r = i
 ·subst c
  rw [if_pos rfl]
  obtain ⟨z, h1, h2⟩ := h
  rw [hy] at h1; cases h1
  exact placeF_at ((List.pairwise_flatten.1 hn).1 y (List.mem_of_getElem? hy)) h2
 ·rw [if_neg c]
  refine placeF_no fun hv => ?_
  obtain ⟨q, hq⟩ := List.getElem?_of_mem hv
  exact c (h.layer hn ⟨y, hy, hq⟩)
theorem pairOf_joins {ls : List (List Int)} (hn : ls.flatten.Nodup) {x : Arc} {r p q i : Nat} {y z : List Int} (h : Joins ls x r p q) (hy : ls[i]? = some y) (hz : ls[i + 1]? = some z) : pairOf y z x = if r = i then [((p : Int), (q : Int))] else [] := by
 rw [pairOf, h.up.placeF hn hy, h.dn.placeF hn hz]
 by_cases c : r = i
 ·simp [c]
 ·simp [c]
theorem Joins.lt {ls : List (List Int)} {x : Arc} {r p q : Nat} (h : Joins ls x r p q) {y z : List Int} (hy : ls[r]? = some y) (hz : ls[r + 1]? = some z) : p < y.length ∧ q < z.length := by
 obtain ⟨⟨u, h1, h2⟩, ⟨v, h3, h4⟩⟩ := h
 rw [hy] at h1; cases h1
 rw [hz] at h3; cases h3
 exact ⟨(List.getElem?_eq_some_iff.1 h2).1, (List.getElem?_eq_some_iff.1 h4).1⟩
section valid
variable {ls : List (List Int)} {ar : List Arc} (hn : ls.flatten.Nodup) (hj : ∀ x, x ∈ ar → ∃ r p q, Joins ls x r p q) {i : Nat} {y z : List Int} (hy : ls[i]? = some y) (hz : ls[i + 1]? = some z)
include hn hj hy hz
theorem pairs_in : ∀ e, e ∈ pairsF y z ar → 0 ≤ e.1 ∧ e.1 < y.length ∧ 0 ≤ e.2 ∧ e.2 < z.length := by
 intro e he
 obtain ⟨x, hx, he⟩ := List.mem_flatMap.1 he
 obtain ⟨r, p, q, h⟩ := hj x hx
 rw [pairOf_joins hn h hy hz] at he
 split at he
 ·rename_i c
  subst c
  have := h.lt hy hz
  rw [List.mem_singleton] at he
  subst he
  dsimp only; omega
 ·cases he
theorem ends_down (p' : Nat) : endsN ls ar i ((i : Int) + 1) ar.length p' = ((pairsF y z ar).filter fun e : Pr => decide (e.1 = (p' : Int))).map (·.2) := by
 rw [endsN, List.take_length]
 induction ar with
 | nil => rfl
 | cons x ar ih =>
  obtain ⟨r, p, q, h⟩ := hj x (by simp)
  rw [List.flatMap_cons, ih (fun w hw => hj w (List.mem_cons_of_mem _ hw))]
  have e : pairsF y z (x :: ar) = pairOf y z x ++ pairsF y z ar := by simp [pairsF]
  rw [e, List.filter_append, List.map_append]
  congr 1
  rw [pairOf_joins hn h hy hz, endsAt, h.up.ly hn, h.dn.ly hn, h.up.pl hn, h.dn.pl hn]
  by_cases c : r = i
  ·subst c
   rw [if_pos ⟨rfl, by omega⟩, if_pos rfl]
   by_cases c2 : (p : Int) = p'
   ·simp [c2]
   ·simp [c2]
  ·rw [if_neg (by omega), if_neg (by omega), if_neg c]; rfl
theorem ends_up (q' : Nat) : endsN ls ar ((i + 1 : Nat) : Int) i ar.length q' = ((pairsF y z ar).filter fun e : Pr => decide (e.2 = (q' : Int))).map (·.1) := by
 rw [endsN, List.take_length]
 induction ar with
 | nil => rfl
 | cons x ar ih =>
  obtain ⟨r, p, q, h⟩ := hj x (by simp)
  rw [List.flatMap_cons, ih (fun w hw => hj w (List.mem_cons_of_mem _ hw))]
  have e : pairsF y z (x :: ar) = pairOf y z x ++ pairsF y z ar := by simp [pairsF]
  rw [e, List.filter_append, List.map_append]
  congr 1
  rw [pairOf_joins hn h hy hz, endsAt, h.up.ly hn, h.dn.ly hn, h.up.pl hn, h.dn.pl hn]
  by_cases c : r = i
  ·subst c
   rw [if_neg (by omega), if_pos ⟨by omega, rfl⟩, if_pos rfl]
   by_cases c2 : (q : Int) = q'
   ·simp [c2]
   ·simp [c2]
  ·rw [if_neg (by omega), if_neg (by omega), if_neg c]; rfl
end valid
end Go.Proofs.YtldbcbclhpcofaaGreat
namespace Go.Proofs.YtldbcbclhpcofaaGreat
open Go Go.PS Go.Proofs

theorem ind_zero {p : Prop} [Decidable p] (h : ¬ p) : ind p = 0 := by simp [ind, h]
theorem ind_one {p : Prop} [Decidable p] (h : p) : ind p = 1 := by simp [ind, h]
theorem ind_congr {p q : Prop} [Decidable p] [Decidable q] (h : p ↔ q) : ind p = ind q := by
 by_cases hp : p
 ·rw [ind_one hp, ind_one (h.1 hp)]
 ·rw [ind_zero hp, ind_zero fun hq => hp (h.2 hq)]
theorem tri_sum (own other : Pr → Int) (P : List Pr) (n : Nat) (hin : ∀ e, e ∈ P → 0 ≤ own e ∧ own e < n) :
  sumZ (fun A => sumZ (fun B => W (fun x y => ind (own x = (B : Int) ∧ own y = (A : Int) ∧ other y < other x)) P P) A) n = W (fun x y => ind (own x < own y ∧ other y < other x)) P P := by
 simp only [W_sum]
 refine W_congr fun x hx y hy => ?_
 have h1 := hin x hx
 have h2 := hin y hy
 have hA : ∀ A : Nat, sumZ (fun B : Nat => ind (own x = (B : Int) ∧ own y = (A : Int) ∧ other y < other x)) A = ind (own x < A ∧ own y = (A : Int) ∧ other y < other x) := fun A => by
  rw [sum_one (own x) _ A fun k hk => ind_zero fun h => hk h.1.symm]
  by_cases c : own x < A
  ·rw [if_pos ⟨h1.1, c⟩]
   refine ind_congr ?_
   constructor
   ·rintro ⟨_, h⟩; exact ⟨c, h⟩
   ·rintro ⟨_, h⟩; exact ⟨by omega, h⟩
  ·rw [if_neg (fun h => c h.2), ind_zero fun h => c h.1]
 simp only [hA]
 rw [sum_one (own y) _ n fun k hk => ind_zero fun h => hk h.2.1.symm, if_pos h2]
 refine ind_congr ?_
 constructor
 ·rintro ⟨h, _, h'⟩; exact ⟨by omega, h'⟩
 ·rintro ⟨h, h'⟩; exact ⟨by omega, by omega, h'⟩
theorem lstN_map (f : Nat → List Int) {n k : Nat} (h : k < n) : lstN ((List.range n).map f) k = f k := by simp [lstN, h]
theorem cellAt_mat {E : List (List Int)} {u v : Nat} (hu : u < E.length) (hv : v < E.length) : cellAt (matF E) u v = cellF E u v := by
 rw [cellAt, matF, lstN_map _ hu, at0, Int.toNat_natCast]
 simp [hv]
structure Near (a : Lv) (i : Nat) (y z : List Int) : Prop where
 ok : validF a = true
 hy : a.2.1[i]? = some y
 hz : a.2.1[i + 1]? = some z
namespace Near
variable {a : Lv} {i : Nat} {y z : List Int}
theorem joins (h : Near a i y z) : ∀ x, x ∈ a.2.2.1 → ∃ r p q, Joins a.2.1 x r p q := fun x hx => by
 obtain ⟨k, hk⟩ := List.getElem?_of_mem hx
 exact valid_joins h.ok hk
theorem lt (h : Near a i y z) : i + 1 < a.2.1.length := (List.getElem?_eq_some_iff.1 h.hz).1
theorem ins (h : Near a i y z) : ∀ e, e ∈ pairsF y z a.2.2.1 → 0 ≤ e.1 ∧ e.1 < y.length ∧ 0 ≤ e.2 ∧ e.2 < z.length := pairs_in (valid_nodup h.ok) h.joins h.hy h.hz
theorem matD (h : Near a i y z) : MatrixF a i ((i : Int) + 1) = matF (endsF a.2.1 a.2.2.1 i ((i : Int) + 1) y.length) := by
 have hl := h.lt
 have hok : matOk a i ((i : Int) + 1) = true := by
  simp [matOk, h.ok]; omega
 rw [MatrixF, if_pos hok, lenAt, Int.toNat_natCast, h.hy]; rfl
theorem matU (h : Near a i y z) : MatrixF a ((i : Int) + 1) i = matF (endsF a.2.1 a.2.2.1 ((i + 1 : Nat) : Int) i z.length) := by
 have hl := h.lt
 have hok : matOk a ((i : Int) + 1) i = true := by
  simp [matOk, h.ok]; omega
 rw [MatrixF, if_pos hok, lenAt, show ((i : Int) + 1).toNat = i + 1 by omega, h.hz]; rfl
theorem lenD (h : Near a i y z) : (MatrixF a i ((i : Int) + 1)).length = y.length := by rw [h.matD]; simp [matF, endsF]
theorem cellD (h : Near a i y z) {u v : Nat} (hu : u < y.length) (hv : v < y.length) : cellAt (MatrixF a i ((i : Int) + 1)) u v = if u = v then 0 else W (fun x w => ind (x.1 = (u : Int) ∧ w.1 = (v : Int) ∧ w.2 < x.2)) (pairsF y z a.2.2.1) (pairsF y z a.2.2.1) := by
 rw [h.matD, cellAt_mat (by simpa [endsF] using hu) (by simpa [endsF] using hv), cellF]
 split
 ·rfl
 ·rw [endsF, lstN_map _ hu, lstN_map _ hv, ends_down (valid_nodup h.ok) h.joins h.hy h.hz, ends_down (valid_nodup h.ok) h.joins h.hy h.hz, behind_W]
  simp only [decide_eq_true_eq]
theorem cellU (h : Near a i y z) {u v : Nat} (hu : u < z.length) (hv : v < z.length) : cellAt (MatrixF a ((i : Int) + 1) i) u v = if u = v then 0 else W (fun x w => ind (x.2 = (u : Int) ∧ w.2 = (v : Int) ∧ w.1 < x.1)) (pairsF y z a.2.2.1) (pairsF y z a.2.2.1) := by
 rw [h.matU, cellAt_mat (by simpa [endsF] using hu) (by simpa [endsF] using hv), cellF]
 split
 ·rfl
 ·rw [endsF, lstN_map _ hu, lstN_map _ hv, ends_up (valid_nodup h.ok) h.joins h.hy h.hz, ends_up (valid_nodup h.ok) h.joins h.hy h.hz, behind_W]
  simp only [decide_eq_true_eq]
abbrev cr (_ : Near a i y z) : Int := W (fun x w => ind (x.1 < w.1 ∧ w.2 < x.2)) (pairsF y z a.2.2.1) (pairsF y z a.2.2.1)
theorem between (h : Near a i y z) : BetweenF a i = h.cr := by
 have hl := h.lt
 rw [BetweenF, if_neg (by simp only [noPair, decide_eq_true_eq]; omega), triF, h.lenD]
 rw [sumZ_congr (g := fun A => sumZ (fun B => W (fun x w => ind (x.1 = (B : Int) ∧ w.1 = (A : Int) ∧ w.2 < x.2)) (pairsF y z a.2.2.1) (pairsF y z a.2.2.1)) A) _ fun A hA => sumZ_congr _ fun B hB => by rw [h.cellD (by omega) hA, if_neg (by omega)]]
 exact tri_sum (fun e => e.1) (fun e => e.2) _ _ fun e he => ⟨(h.ins e he).1, (h.ins e he).2.1⟩
theorem rbetween (h : Near a i y z) : rBetweenF a i = h.cr := by
 have hl := h.lt
 rw [rBetweenF, if_neg (by rw [h.ok]; simp; omega), Int.toNat_natCast, lstN, lstN, h.hy, h.hz, Option.getD_some, Option.getD_some, cross_W]
end Near
namespace Near
variable {a : Lv} {i : Nat} {y z : List Int}
end Near
theorem near_of {a : Lv} (h : validF a = true) {i : Nat} (hi : i + 1 < a.2.1.length) : ∃ y z, Near a i y z := by
 obtain ⟨y, hy⟩ := get_some (l := a.2.1) (k := i) (by omega)
 obtain ⟨z, hz⟩ := get_some hi
 exact ⟨y, z, h, hy, hz⟩
theorem between_same (a : Lv) (i : Int) : BetweenF a i = rBetweenF a i := by
 rcases h : validF a with _ | _
 ·have hm : MatrixF a i (i + 1) = [] := by rw [MatrixF, if_neg (by simp [matOk, h])]
  have e2 : rBetweenF a i = 0 := by rw [rBetweenF, if_pos (.inl h)]
  rw [e2, BetweenF, hm]
  split <;> rfl
 ·by_cases c : 0 ≤ i ∧ i + 1 < a.2.1.length
  ·obtain ⟨n, rfl⟩ : ∃ n : Nat, i = n := ⟨i.toNat, by omega⟩
   obtain ⟨y, z, hn⟩ := near_of h (i := n) (by omega)
   rw [hn.between, hn.rbetween]
  ·rw [rBetweenF, if_pos (by rw [h]; simp; omega)]
   rw [BetweenF]
   split
   ·rfl
   ·rename_i h2
    simp only [noPair, decide_eq_true_eq] at h2
    omega
theorem total_same (a : Lv) : TotalF a = rTotalF a := sumZ_congr _ fun i _ => between_same a i
end Go.Proofs.YtldbcbclhpcofaaGreat
namespace Go.Proofs.YtldbcbclhpcofaaGreat
open Go Go.PS Go.Proofs
set_option maxRecDepth 100000
attribute [local irreducible] wpRun wpG CallsTo CallsM

end Go.Proofs.YtldbcbclhpcofaaGreat
namespace Go.Proofs.YtldbcbclhpcofaaGreat
open Go Go.PS Go.Proofs
set_option maxRecDepth 100000
attribute [local irreducible] wpRun wpG CallsTo CallsM

end Go.Proofs.YtldbcbclhpcofaaGreat
namespace Go.Proofs.YtldbcbclhpcofaaGreat
open Go Go.PS Go.Proofs

theorem sortL_congr {l m : List Int} (h : l.Perm m) : sortL l = sortL m :=
 List.Perm.eq_of_pairwise (le := (· ≤ ·)) (fun a b _ _ h1 h2 => Int.le_antisymm h1 h2) (sortL_sorted l) (sortL_sorted m) ((sortL_perm l).trans (h.trans (sortL_perm m).symm))
namespace Near
variable {a : Lv} {i : Nat} {y z : List Int}
end Near
namespace Near
variable {a : Lv} {i k : Nat} {y z : List Int}
end Near
end Go.Proofs.YtldbcbclhpcofaaGreat
namespace Go.Proofs.YtldbcbclhpcofaaGreat
open Go Go.PS Go.Proofs
set_option maxRecDepth 100000
attribute [local irreducible] wpRun wpG CallsTo CallsM

section acc
variable {own oth : Pr → Int} {E : List Pr} {u v : Nat} {p q : Pr}
end acc
end Go.Proofs.YtldbcbclhpcofaaGreat
namespace Go.Proofs.YtldbcbclhpcofaaGreat
open Go Go.PS Go.Proofs
set_option maxRecDepth 100000
attribute [local irreducible] wpRun wpG CallsTo CallsM

end Go.Proofs.YtldbcbclhpcofaaGreat
namespace Go.Proofs.YtldbcbclhpcofaaGreat
open Go Go.PS Go.Proofs
open Go.Bd (sumC sumC_add sumC_zero sumC_hit)

theorem sumC_congr {c d : Nat → Nat → Int} : ∀ {l : List Nat}, l.Nodup → (∀ u, u ∈ l → ∀ v, v ∈ l → u ≠ v → c u v = d u v) → sumC c l = sumC d l
 | [], _, _ => rfl
 | u :: l, hn, h => by
  obtain ⟨h1, h2⟩ := List.nodup_cons.1 hn
  have e : l.map (c u) = l.map (d u) := List.map_congr_left fun v hv => h u (by simp) v (List.mem_cons_of_mem _ hv) fun he => h1 (he ▸ hv)
  rw [sumC, sumC, e, sumC_congr h2 fun u hu v hv => h u (List.mem_cons_of_mem _ hu) v (List.mem_cons_of_mem _ hv)]
theorem sumC_w1 (f : Nat → Nat → Pr → Int) (l : List Nat) : ∀ F : List Pr, sumC (fun u v => w1 (f u v) F) l = w1 (fun y => sumC (fun u v => f u v y) l) F
 | [] => by simp only [w1]; exact sumC_zero l
 | y :: F => by simp only [w1]; rw [sumC_add, sumC_w1 f l F]
theorem sumC_W (f : Nat → Nat → Pr → Pr → Int) (l : List Nat) (F : List Pr) : ∀ E : List Pr, sumC (fun u v => W (f u v) F E) l = W (fun x y => sumC (fun u v => f u v x y) l) F E
 | [] => by simp only [W]; exact sumC_zero l
 | x :: E => by simp only [W]; rw [sumC_add, sumC_w1, sumC_W f l F E]
theorem sumC_tab {own oth : Pr → Int} {P : List Pr} {o : List Nat} {c : Nat → Nat → Int} (hn : o.Nodup) (hin : ∀ e, e ∈ P → 0 ≤ own e ∧ (own e).toNat ∈ o)
  (hc : ∀ u, u ∈ o → ∀ v, v ∈ o → u ≠ v → c u v = W (fun x w => ind (own x = (u : Int) ∧ own w = (v : Int) ∧ oth w < oth x)) P P) :
  sumC c o = W (fun x w => ind (o.idxOf (own x).toNat < o.idxOf (own w).toNat ∧ oth w < oth x)) P P := by
 rw [sumC_congr hn hc, sumC_W]
 refine W_congr fun x hx w hw => ?_
 obtain ⟨x1, x2⟩ := hin x hx
 obtain ⟨y1, y2⟩ := hin w hw
 have e : ∀ u v : Nat, ind (own x = (u : Int) ∧ own w = (v : Int) ∧ oth w < oth x) = if u = (own x).toNat ∧ v = (own w).toNat then ind (oth w < oth x) else 0 := fun u v => by
  by_cases h : u = (own x).toNat ∧ v = (own w).toNat
  ·rw [if_pos h]
   exact ind_congr ⟨fun h2 => h2.2.2, fun h2 => ⟨by omega, by omega, h2⟩⟩
  ·rw [if_neg h]
   exact ind_zero fun h2 => h (by omega)
 have e2 : (fun u v : Nat => ind (own x = (u : Int) ∧ own w = (v : Int) ∧ oth w < oth x)) = fun u v => if u = (own x).toNat ∧ v = (own w).toNat then ind (oth w < oth x) else 0 := funext fun u => funext fun v => e u v
 rw [e2, sumC_hit _ _ _ o hn x2 y2]
 by_cases h : o.idxOf (own x).toNat < o.idxOf (own w).toNat
 ·rw [if_pos h]
  exact ind_congr ⟨fun h2 => ⟨h, h2⟩, fun h2 => h2.2⟩
 ·rw [if_neg h]
  exact (ind_zero fun h2 => h h2.1).symm
end Go.Proofs.YtldbcbclhpcofaaGreat
namespace Go.Proofs.YtldbcbclhpcofaaGreat
open Go Go.PS Go.Proofs
open Go.Bd (sumC Part full)

def permL (y : List Int) (o : List Nat) : List Int := o.map fun k => (y[k]?).getD 0
theorem permL_len (y : List Int) (o : List Nat) : (permL y o).length = o.length := by simp [permL]
theorem permL_at {y : List Int} {o : List Nat} {p : Nat} {v : Int} (hp : p ∈ o) (h : y[p]? = some v) : (permL y o)[o.idxOf p]? = some v := by
 have hl := List.idxOf_lt_length_iff.2 hp
 have hg : o[o.idxOf p]? = some p := by
  rw [List.getElem?_eq_getElem hl, List.getElem_idxOf]
 rw [permL, List.getElem?_map, hg, Option.map_some, h]; rfl
theorem permL_mem {y : List Int} {o : List Nat} (h : Part y.length 0 o) {v : Int} : v ∈ permL y o ↔ v ∈ y := by
 constructor
 ·intro hv
  obtain ⟨k, hk, rfl⟩ := List.mem_map.1 hv
  have := h.lt k hk
  rw [List.getElem?_eq_getElem this]
  exact List.getElem_mem this
 ·intro hv
  obtain ⟨p, hp⟩ := List.getElem?_of_mem hv
  have hlt := (List.getElem?_eq_some_iff.1 hp).1
  have := permL_at (full y.length h.nd h.lt (by have := h.len; omega) p hlt) hp
  exact List.mem_of_getElem? this
theorem permL_nodup {y : List Int} {o : List Nat} (hy : y.Nodup) (h : Part y.length 0 o) : (permL y o).Nodup := by
 refine List.pairwise_map.2 (h.nd.imp_of_mem fun {a b} ha hb hne he => hne ?_)
 have h1 := h.lt a ha
 have h2 := h.lt b hb
 rw [List.getElem?_eq_getElem h1, List.getElem?_eq_getElem h2] at he
 exact (List.getElem_inj hy).1 he
theorem permL_place {y : List Int} {o : List Nat} (hy : y.Nodup) (h : Part y.length 0 o) (v : Int) : placeF (permL y o) v = if 0 ≤ placeF y v then ((o.idxOf (placeF y v).toNat : Nat) : Int) else -1 := by
 by_cases hv : v ∈ y
 ·obtain ⟨p, hp⟩ := List.getElem?_of_mem hv
  have hlt := (List.getElem?_eq_some_iff.1 hp).1
  rw [placeF_at (permL_nodup hy h) (permL_at (full y.length h.nd h.lt (by have := h.len; omega) p hlt) hp), placeF_at hy hp, if_pos (by omega), Int.toNat_natCast]
 ·rw [placeF_no (fun h2 => hv ((permL_mem h).1 h2)), placeF_no hv, if_neg (by omega)]
theorem pairs_perm_up {y z : List Int} {o : List Nat} (hy : y.Nodup) (h : Part y.length 0 o) (ar : List Arc) : pairsF (permL y o) z ar = (pairsF y z ar).map fun e => (((o.idxOf e.1.toNat : Nat) : Int), e.2) := by
 rw [pairsF, pairsF, List.map_flatMap]
 congr 1
 funext x
 rw [pairOf, pairOf, permL_place hy h]
 by_cases c : 0 ≤ placeF y x.1
 ·rw [if_pos c]
  by_cases c2 : 0 ≤ placeF z x.2
  ·rw [if_pos ⟨by omega, c2⟩, if_pos ⟨c, c2⟩]; rfl
  ·rw [if_neg (fun h => c2 h.2), if_neg (fun h => c2 h.2)]; rfl
 ·rw [if_neg c, if_neg (fun h => by omega), if_neg (fun h => c h.1)]; rfl
theorem pairs_perm_dn {y z : List Int} {o : List Nat} (hz : z.Nodup) (h : Part z.length 0 o) (ar : List Arc) : pairsF y (permL z o) ar = (pairsF y z ar).map fun e => (e.1, ((o.idxOf e.2.toNat : Nat) : Int)) := by
 rw [pairsF, pairsF, List.map_flatMap]
 congr 1
 funext x
 rw [pairOf, pairOf, permL_place hz h]
 by_cases c : 0 ≤ placeF y x.1
 ·by_cases c2 : 0 ≤ placeF z x.2
  ·rw [if_pos c2, if_pos ⟨c, by omega⟩, if_pos ⟨c, c2⟩]; rfl
  ·rw [if_neg c2, if_neg (fun h => by omega), if_neg (fun h => c2 h.2)]; rfl
 ·rw [if_neg (fun h => c h.1), if_neg (fun h => c h.1)]; rfl
theorem Near.perm_up {a a' : Lv} {i : Nat} {y z : List Int} {o : List Nat} (h : Near a i y z) (h' : Near a' i (permL y o) z) (har : a'.2.2.1 = a.2.2.1) (ho : Part y.length 0 o) :
  BetweenF a' i = sumC (fun u v => cellAt (MatrixF a i ((i : Int) + 1)) u v) o := by
 have hy : y.Nodup := (List.pairwise_flatten.1 (valid_nodup h.ok)).1 y (List.mem_of_getElem? h.hy)
 have hin := h.ins
 rw [h'.between, Near.cr, har, pairs_perm_up hy ho, W_map]
 rw [sumC_tab (own := fun e => e.1) (oth := fun e => e.2) (P := pairsF y z a.2.2.1) ho.nd (fun e he => ⟨(hin e he).1, full y.length ho.nd ho.lt (by have := ho.len; omega) _ (by have := hin e he; omega)⟩)
  (fun u hu v hv hne => by rw [h.cellD (ho.lt u hu) (ho.lt v hv), if_neg hne])]
 exact W_congr fun x _ w _ => ind_congr ⟨fun h2 => ⟨by have := h2.1; dsimp only at this; omega, h2.2⟩, fun h2 => ⟨by have := h2.1; dsimp only; omega, h2.2⟩⟩
theorem Near.perm_dn {a a' : Lv} {i : Nat} {y z : List Int} {o : List Nat} (h : Near a i y z) (h' : Near a' i y (permL z o)) (har : a'.2.2.1 = a.2.2.1) (ho : Part z.length 0 o) :
  BetweenF a' i = sumC (fun u v => cellAt (MatrixF a ((i : Int) + 1) i) u v) o := by
 have hz : z.Nodup := (List.pairwise_flatten.1 (valid_nodup h.ok)).1 z (List.mem_of_getElem? h.hz)
 have hin := h.ins
 rw [h'.between, Near.cr, har, pairs_perm_dn hz ho, W_map, W_swap]
 rw [sumC_tab (own := fun e => e.2) (oth := fun e => e.1) (P := pairsF y z a.2.2.1) ho.nd (fun e he => ⟨(hin e he).2.2.1, full z.length ho.nd ho.lt (by have := ho.len; omega) _ (by have := hin e he; omega)⟩)
  (fun u hu v hv hne => by rw [h.cellU (ho.lt u hu) (ho.lt v hv), if_neg hne])]
 exact W_congr fun x _ w _ => ind_congr ⟨fun h2 => ⟨by have := h2.2; dsimp only at this; omega, h2.1⟩, fun h2 => ⟨h2.2, by have := h2.1; dsimp only; omega⟩⟩
end Go.Proofs.YtldbcbclhpcofaaGreat
namespace Go.Proofs.YtldbcbclhpcofaaGreat
open Go Go.PS Go.Proofs
open Go.Bd (sumC sumC_add sumC_zero Part full)

def putL (a : Lv) (i : Nat) (y : List Int) : Lv := (a.1, a.2.1.set i y, a.2.2.1, a.2.2.2)
theorem range_part (n : Nat) : Part n 0 (List.range n) := ⟨List.nodup_range, fun v hv => List.mem_range.1 hv, by simp⟩
theorem permL_range (y : List Int) : permL y (List.range y.length) = y := by
 refine List.ext_getElem? fun k => ?_
 rw [permL, List.getElem?_map]
 by_cases h : k < y.length
 ·rw [List.getElem?_range h, Option.map_some, List.getElem?_eq_getElem h]; rfl
 ·rw [List.getElem?_eq_none (by simpa using h), List.getElem?_eq_none (by omega)]; rfl
def bothC (a : Lv) (i : Nat) (u v : Nat) : Int := cellAt (MatrixF a i ((i : Int) - 1)) u v + cellAt (MatrixF a i ((i : Int) + 1)) u v
theorem sumZ_two {f g : Nat → Int} (i : Nat) (h : ∀ j, j ≠ i → j + 1 ≠ i → f j = g j) : ∀ n, sumZ f n = sumZ g n + (if i < n then f i - g i else 0) + (if 0 < i ∧ i ≤ n then f (i - 1) - g (i - 1) else 0)
 | 0 => by simp only [sumZ]; rw [if_neg (by omega), if_neg (by omega)]; rfl
 | n + 1 => by
  rw [sumZ, sumZ, sumZ_two i h n]
  by_cases c1 : n = i
  ·subst c1
   (repeat' split) <;> omega
  ·by_cases c2 : n + 1 = i
   ·subst c2
    simp only [Nat.add_sub_cancel]
    (repeat' split) <;> omega
   ·rw [h n c1 c2]
    (repeat' split) <;> omega
theorem between_out {a : Lv} {j : Nat} (h : ¬ j + 1 < a.2.1.length) : BetweenF a j = 0 := by
 rw [BetweenF, if_pos (by simp only [noPair, decide_eq_true_eq]; omega)]
theorem put_total {a : Lv} {i : Nat} {y : List Int} {o : List Nat} (hv : validF a = true) (hv' : validF (putL a i (permL y o)) = true) (hy : a.2.1[i]? = some y) (ho : Part y.length 0 o) :
  TotalF (putL a i (permL y o)) - TotalF a = sumC (bothC a i) o - sumC (bothC a i) (List.range y.length) := by
 have hil := (List.getElem?_eq_some_iff.1 hy).1
 have hlen : (putL a i (permL y o)).2.1.length = a.2.1.length := List.length_set
 have hget : ∀ j, j ≠ i → (putL a i (permL y o)).2.1[j]? = a.2.1[j]? := fun j hj => List.getElem?_set_ne (Ne.symm hj)
 have hget2 : (putL a i (permL y o)).2.1[i]? = some (permL y o) := List.getElem?_set_self hil
 have hrp := range_part y.length
 have hpr := permL_range y
 -- elsewhere nothing changes
 have he : ∀ j : Nat, j ≠ i → j + 1 ≠ i → BetweenF (putL a i (permL y o)) j = BetweenF a j := fun j h1 h2 => by
  by_cases c : j + 1 < a.2.1.length
  ·obtain ⟨p, q, hn⟩ := near_of hv c
   have hn' : Near (putL a i (permL y o)) j p q := ⟨hv', (hget j h1).trans hn.hy, (hget (j + 1) h2).trans hn.hz⟩
   rw [hn.between, hn'.between]; rfl
  ·rw [between_out c, between_out (by rw [hlen]; exact c)]
 have hup : BetweenF (putL a i (permL y o)) i - BetweenF a i = sumC (cellAt (MatrixF a i ((i : Int) + 1))) o - sumC (cellAt (MatrixF a i ((i : Int) + 1))) (List.range y.length) := by
  by_cases c : i + 1 < a.2.1.length
  ·obtain ⟨p, z, hn⟩ := near_of hv c
   obtain rfl : p = y := by have := hn.hy; rw [hy] at this; cases this; rfl
   have hn' : Near (putL a i (permL p o)) i (permL p o) z := ⟨hv', hget2, (hget (i + 1) (by omega)).trans hn.hz⟩
   have hn0 : Near a i (permL p (List.range p.length)) z := by rw [hpr]; exact hn
   rw [hn.perm_up hn' rfl ho, hn.perm_up hn0 rfl hrp]
  ·have hm : MatrixF a i ((i : Int) + 1) = [] := by
    rw [MatrixF, if_neg]
    intro hh
    simp only [matOk, Bool.and_eq_true, decide_eq_true_eq] at hh
    omega
   have hz : cellAt (MatrixF a i ((i : Int) + 1)) = fun _ _ => 0 := by funext u v; rw [hm]; rfl
   rw [hz, sumC_zero, sumC_zero, between_out c, between_out (by rw [hlen]; exact c)]
 have hdn : (if 0 < i ∧ i ≤ a.2.1.length then BetweenF (putL a i (permL y o)) ((i - 1 : Nat) : Int) - BetweenF a ((i - 1 : Nat) : Int) else 0) =
   sumC (cellAt (MatrixF a i ((i : Int) - 1))) o - sumC (cellAt (MatrixF a i ((i : Int) - 1))) (List.range y.length) := by
  by_cases c : 0 < i
  ·obtain ⟨k, rfl⟩ : ∃ k, i = k + 1 := ⟨i - 1, by omega⟩
   rw [if_pos ⟨c, by omega⟩, Nat.add_sub_cancel, show ((k + 1 : Nat) : Int) - 1 = (k : Int) by omega, show ((k + 1 : Nat) : Int) = (k : Int) + 1 by omega]
   obtain ⟨x, p, hn⟩ := near_of hv (i := k) (by omega)
   obtain rfl : p = y := by have := hn.hz; rw [hy] at this; cases this; rfl
   have hn' : Near (putL a (k + 1) (permL p o)) k x (permL p o) := ⟨hv', (hget k (by omega)).trans hn.hy, hget2⟩
   have hn0 : Near a k x (permL p (List.range p.length)) := by rw [hpr]; exact hn
   rw [hn.perm_dn hn' rfl ho, hn.perm_dn hn0 rfl hrp]
  ·obtain rfl : i = 0 := by omega
   have hm : MatrixF a ((0 : Nat) : Int) (((0 : Nat) : Int) - 1) = [] := by
    rw [MatrixF, if_neg]
    intro hh
    simp only [matOk, Bool.and_eq_true, decide_eq_true_eq] at hh
    omega
   have hz : cellAt (MatrixF a ((0 : Nat) : Int) (((0 : Nat) : Int) - 1)) = fun _ _ => 0 := by funext u v; rw [hm]; rfl
   rw [hz, sumC_zero, sumC_zero, if_neg (by omega)]; rfl
 have hb : bothC a i = fun u v => cellAt (MatrixF a i ((i : Int) - 1)) u v + cellAt (MatrixF a i ((i : Int) + 1)) u v := rfl
 rw [TotalF, TotalF, hlen, sumZ_two i he a.2.1.length, if_pos hil, hdn, hup, hb, sumC_add, sumC_add]
 omega
end Go.Proofs.YtldbcbclhpcofaaGreat
namespace Go.Proofs.YtldbcbclhpcofaaGreat
open Go Go.PS Go.Proofs
set_option maxRecDepth 100000
theorem cells_int {n : Nat} {cs : List D} (h : CellsOk Tryz.prog (n + 1) 3 cs) : ∃ m : Int, cs = [.int m] := by
 have hu : Tryz.prog.underlying 3 = some (.int .i64) := by kernel_rfl
 simp only [CellsOk, hu] at h
 obtain ⟨m, rfl, _⟩ := h
 exact ⟨m, rfl⟩
theorem arg_int {x : D} (h : ArgOk Tryz.prog 3 x) : ∃ m : Int, x = .int m := by
 obtain ⟨cs, h, rfl⟩ := h
 obtain ⟨m, rfl⟩ := cells_int h
 rw [ty3]
 exact ⟨m, rfl⟩
theorem cells_arc {n : Nat} {cs : List D} (h : CellsOk Tryz.prog (n + 2) 44 cs) : ∃ p : Arc, cs = [.int p.1, .int p.2] := by
 have h := cells_struct (ts := [3, 3]) (by kernel_rfl) h
 obtain ⟨p, r, rfl, hp, q, r', rfl, hq, rfl⟩ := h
 obtain ⟨a, rfl⟩ := cells_int hp
 obtain ⟨b, rfl⟩ := cells_int hq
 exact ⟨(a, b), rfl⟩
theorem cells_arcs {n : Nat} {cs : List D} (h : CellsOk Tryz.prog (n + 3) 23 cs) : ∃ l : List Arc, cs = [arcsD l] := by
 obtain ⟨l, rfl, hl⟩ := cells_slice (e := 44) (by kernel_rfl) h
 obtain ⟨ys, rfl⟩ := map_of (f := arcD) (l := l) (fun d hd => by
  obtain ⟨es, rfl, _, he⟩ := hl d hd
  obtain ⟨p, rfl⟩ := cells_arc he
  rw [ty44]; exact ⟨p, rfl⟩)
 exact ⟨ys, rfl⟩
theorem cells_ints {n : Nat} {cs : List D} (h : CellsOk Tryz.prog (n + 2) 37 cs) : ∃ l : List Int, cs = [intsD l] ∧ l.length * 8 ≤ 140737488351232 := by
 obtain ⟨l, rfl, hb, hl⟩ := cells_sliceS (e := 3) (by kernel_rfl) h
 obtain ⟨ys, rfl⟩ := map_of (f := D.int) (l := l) (fun d hd => by
  obtain ⟨es, rfl, _, he⟩ := hl d hd
  obtain ⟨p, rfl⟩ := cells_int he
  rw [ty3]; exact ⟨p, rfl⟩)
 refine ⟨ys, rfl, ?_⟩
 have hb3 : Tryz.prog.bytesOf 3 = 8 := by kernel_rfl
 rw [hb3, List.length_map] at hb
 exact hb
theorem map_of2 {α : Type} {f : α → D} {p : α → Prop} : ∀ {l : List D}, (∀ d ∈ l, ∃ a, d = f a ∧ p a) → ∃ ys : List α, l = ys.map f ∧ ∀ y ∈ ys, p y
 | [], _ => ⟨[], rfl, fun y hy => by cases hy⟩
 | d :: l, h => by
  obtain ⟨a, rfl, ha⟩ := h d (by simp)
  obtain ⟨ys, rfl, hy⟩ := map_of2 (l := l) (fun e he => h e (List.mem_cons_of_mem _ he))
  refine ⟨a :: ys, rfl, fun y hy2 => ?_⟩
  rcases List.mem_cons.1 hy2 with rfl | hy2
  ·exact ha
  ·exact hy y hy2
theorem cells_lists {n : Nat} {cs : List D} (h : CellsOk Tryz.prog (n + 3) 22 cs) : ∃ l : List (List Int), cs = [listsD l] ∧ ∀ y ∈ l, y.length * 8 ≤ 140737488351232 := by
 obtain ⟨l, rfl, hl⟩ := cells_slice (e := 37) (by kernel_rfl) h
 obtain ⟨ys, rfl, hy⟩ := map_of2 (f := intsD) (p := fun y => y.length * 8 ≤ 140737488351232) (l := l) (fun d hd => by
  obtain ⟨es, rfl, _, he⟩ := hl d hd
  obtain ⟨p, rfl, hp⟩ := cells_ints he
  rw [ty37]; exact ⟨p, rfl, hp⟩)
 exact ⟨ys, rfl, hy⟩
theorem arg_lv {x : D} (h : ArgOk Tryz.prog 25 x) : ∃ a : {a : Lv // wide a}, x = lvD a.1 := by
 obtain ⟨cs, h, rfl⟩ := h
 have h := cells_struct (ts := [3, 22, 23, 22]) (by kernel_rfl) h
 obtain ⟨_, _, rfl, h1, _, _, rfl, h2, _, _, rfl, h3, _, _, rfl, h4, rfl⟩ := h
 obtain ⟨a, rfl⟩ := cells_int h1
 obtain ⟨b, rfl, hb⟩ := cells_lists h2
 obtain ⟨c, rfl⟩ := cells_arcs h3
 obtain ⟨d, rfl, _⟩ := cells_lists h4
 rw [ty25]
 exact ⟨⟨(a, b, c, d), hb⟩, rfl⟩
end Go.Proofs.YtldbcbclhpcofaaGreat
namespace Go.Proofs.YtldbcbclhpcofaaGreat
open Go Go.PS Go.Proofs
open Go.Bd (sm sumC Small)
set_option maxRecDepth 100000
attribute [local irreducible] wpRun wpG CallsTo CallsM

abbrev natD (v : Nat) : D := .int (v : Int)
abbrev natsD (l : List Nat) : D := .sl (l.map natD)
theorem nats_ints (l : List Nat) : natsD l = intsD (l.map fun v : Nat => (v : Int)) := by rw [natsD, intsD, List.map_map]; rfl
theorem nat_cells (l : List Nat) : ∀ d, d ∈ l.map natD → d.cells.length = 1 := cells_map natD 1 (fun _ => rfl) l
theorem nat_one (v : Nat) : ∀ d, d ∈ [natD v] → d.cells.length = 1 := fun d hd => by rw [List.mem_singleton.1 hd]; rfl
theorem mem_nats {l : List Nat} {v : Nat} : (v : Int) ∈ l.map (fun v : Nat => (v : Int)) ↔ v ∈ l := by
 simp [List.mem_map, Int.ofNat_inj]
theorem placeF_mem (l : List Int) (v : Int) : decide (0 ≤ placeF l v) = decide (v ∈ l) := by
 rw [placeF_iff, Bool.eq_iff_iff, List.any_eq_true]
 simp
theorem containsI_spec (l : List Int) (v : Int) : CallsTo Tryz.prog 85 [intsD l, .int v] (.bool (decide (v ∈ l))) := by
 have h := index_spec l v
 rw [← placeF_mem]
 refine callsTo_of Tryz.func85 rfl (by decide +kernel) (Nat.le_of_ble_eq_true rfl) ?_
 intro hat B X w0
 repeat' first | refine pw_seq ?_ | refine pw_skip ?_ | refine pw_ret ?_ | refine pw_exit ?_ | refine pw_block ?_ | refine pw_region (fun _ => false) hmix ?_ | (refine rc (h) rfl ?_ ?_; (· first | rfl | (simp (disch := omega) only [go_sem, simprocAttr]; done))) | (refine wpG_split rfl rfl (fun hc => ?_) (fun hc => ?_) <;> try simp only [hcL, reduceCtorEq] at hc) | (refine pw_cond _ rfl rfl (fun hc => ?_) (fun hc => ?_) <;> (try simp only [hcL, reduceCtorEq] at hc) <;> try (exfalso; omega)) | simp (maxSteps := 1000000) (disch := omega) only [go_sem, simprocAttr] | apply And.intro | omega | decide +kernel
 exact bool_some rfl
theorem containsN_spec (l : List Nat) (v : Nat) : CallsTo Tryz.prog 85 [natsD l, .int v] (.bool (decide (v ∈ l))) := by
 have h := containsI_spec (l.map fun v : Nat => (v : Int)) v
 rw [← nats_ints, decide_eq_decide.2 mem_nats] at h
 exact h
def badC (x : Int) : Bool := decide (x < 0) || decide (1000000 < x)
def badRow (n : Nat) (p : List Int) : Bool := decide (p.length ≠ n) || p.any badC
def okM (m : List (List Int)) : Bool := decide (m.length ≤ 8) && !m.any (badRow m.length)
theorem ok_sq {m : List (List Int)} (h : okM m = true) : Sq m ∧ m.length ≤ 8 := by
 simp only [okM, Bool.and_eq_true, decide_eq_true_eq, Bool.not_eq_true', List.any_eq_false] at h
 obtain ⟨h1, h2⟩ := h
 have hr : ∀ p, p ∈ m → p.length = m.length ∧ ∀ x, x ∈ p → 0 ≤ x ∧ x ≤ 1000000 := fun p hp => by
  have := h2 p hp
  simp only [badRow, Bool.or_eq_true, decide_eq_true_eq, not_or, Bool.not_eq_true, List.any_eq_false] at this
  refine ⟨by omega, fun x hx => ?_⟩
  have := this.2 x hx
  simp only [badC, Bool.or_eq_true, Bool.or_eq_false_iff, decide_eq_true_eq, decide_eq_false_iff_not, not_or] at this
  omega
 exact ⟨⟨by omega, fun p hp => (hr p hp).1, fun p hp => (hr p hp).2⟩, h1⟩
theorem sq_ok {m : List (List Int)} (h : Sq m) (h8 : m.length ≤ 8) : okM m = true := by
 simp only [okM, Bool.and_eq_true, decide_eq_true_eq, Bool.not_eq_true', List.any_eq_false]
 refine ⟨h8, fun p hp => ?_⟩
 simp only [badRow, Bool.or_eq_true, decide_eq_true_eq, not_or, Bool.not_eq_true, List.any_eq_false]
 refine ⟨fun hne => hne (h.row p hp), fun x hx => ?_⟩
 have := h.val p hp x hx
 simp only [badC, Bool.or_eq_true, Bool.or_eq_false_iff, decide_eq_true_eq, decide_eq_false_iff_not, not_or]
 omega
theorem Sq.small {m : List (List Int)} (h : Sq m) : Small (cellAt m) m.length := fun u v hu hv => by
 obtain ⟨p, _, _, _, g1, g2⟩ := h.get hu hv
 exact ⟨g1, g2⟩
theorem bad1_spec (x : Int) : CallsTo Tryz.prog 84 [.int x] (.bool (badC x)) := by
 refine callsTo_of Tryz.func84 rfl (by decide +kernel) (Nat.le_of_ble_eq_true rfl) ?_
 intro hat B X w0
 repeat' first | refine pw_seq ?_ | refine pw_skip ?_ | refine pw_ret ?_ | refine pw_exit ?_ | refine pw_block ?_ | refine pw_region (fun _ => false) hmix ?_ | (refine wpG_split rfl rfl (fun hc => ?_) (fun hc => ?_) <;> try simp only [hcL, reduceCtorEq] at hc) | (refine pw_cond _ rfl rfl (fun hc => ?_) (fun hc => ?_) <;> (try simp only [hcL, reduceCtorEq] at hc) <;> try (exfalso; omega)) | simp (maxSteps := 1000000) (disch := omega) only [go_sem, simprocAttr] | apply And.intro | omega | decide +kernel
 all_goals
  refine bool_some ?_
  simp only [badC, *, decide_true, decide_false, Bool.true_or, Bool.or_true, Bool.false_or, Bool.or_false]
set_option maxHeartbeats 1000000 in
theorem bValid_spec (m : List (List Int)) : CallsTo Tryz.prog 50 [listsD m] (.bool (okM m)) := by
 refine callsTo_of Tryz.func50 rfl (by decide +kernel) (Nat.le_of_ble_eq_true rfl) ?_
 intro hat B X w0
 have hl := at_len 0 hat rfl
 rw [List.length_map] at hl
 by_cases c8 : 8 < m.length
 ·repeat' first | refine pw_seq ?_ | refine pw_skip ?_ | refine pw_ret ?_ | refine pw_exit ?_ | refine pw_block ?_ | refine pw_region (fun _ => false) hmix ?_ | (refine wpG_split rfl rfl (fun hc => ?_) (fun hc => ?_) <;> try simp only [hcL, reduceCtorEq] at hc) | (refine pw_cond _ rfl rfl (fun hc => ?_) (fun hc => ?_) <;> (try simp only [hcL, reduceCtorEq] at hc) <;> try (exfalso; omega)) | simp (maxSteps := 1000000) (disch := omega) only [go_sem, simprocAttr] | apply And.intro | omega | decide +kernel
  refine bool_some ?_
  rw [okM, decide_eq_false (by omega)]; rfl
 ·repeat' first | refine pw_seq ?_ | refine pw_skip ?_ | refine pw_ret ?_ | refine pw_exit ?_ | refine pw_block ?_ | refine pw_region (fun _ => false) hmix ?_ | (refine wpG_split rfl rfl (fun hc => ?_) (fun hc => ?_) <;> try simp only [hcL, reduceCtorEq] at hc) | (refine pw_cond _ rfl rfl (fun hc => ?_) (fun hc => ?_) <;> (try simp only [hcL, reduceCtorEq] at hc) <;> try (exfalso; omega)) | simp (maxSteps := 1000000) (disch := omega) only [go_sem, simprocAttr] | apply And.intro | omega | decide +kernel
  refine pw_loopI (κ := Nat) (fun (k : Nat) => k ≤ m.length ∧ ∀ (j : Nat) y, j < k → m[j]? = some y → badRow m.length y = false) (fun (k : Nat) => [(0, .d (listsD m)), (8, .d (listsD m)), (9, .int m.length), (10, .int k)]) (fun (k : Nat) => []) (fun (k : Nat) => m.length - k) 0 ?_ ?_ ?_
  ·exact ⟨Nat.zero_le _, fun j y hj => by omega⟩
  ·exact eL [] _ _ (by refine ⟨?_, ?_⟩ <;> (repeat' first | exact List.forall_mem_nil _ | refine List.forall_mem_cons.2 ⟨(by first | rfl | (simp (disch := omega) only [go_sem, simprocAttr, inL]; first | done | omega | (congr 1; done))), ?_⟩); done)
  ·rintro k ⟨hk, hinv⟩
   rcases Nat.lt_or_ge k m.length with hlt | hge
   ·obtain ⟨p, hp⟩ := get_some hlt
    have hcf := containsF_spec p 84 badC bad1_spec
    by_cases c : p.length = m.length
    ·have cI : (p.length : Int) = m.length := by omega
     rcases hb : p.any badC with _ | _ <;> rw [hb] at hcf
     ·repeat' first | refine pw_seq ?_ | refine pw_skip ?_ | refine pw_ret ?_ | refine pw_exit ?_ | refine pw_block ?_ | refine pw_region (fun _ => false) hmix ?_ | (refine rc (hcf) rfl ?_ ?_; (· first | rfl | (simp (disch := omega) only [go_sem, simprocAttr, hp, cI]; done))) | (refine wpG_split rfl rfl (fun hc => ?_) (fun hc => ?_) <;> try simp only [hcL, reduceCtorEq] at hc) | (refine pw_cond _ rfl rfl (fun hc => ?_) (fun hc => ?_) <;> (try simp only [hcL, reduceCtorEq] at hc) <;> try (exfalso; omega)) | simp (maxSteps := 1000000) (disch := omega) only [go_sem, simprocAttr, hp, cI] | apply And.intro | omega | decide +kernel
      refine ⟨k + 1, ?_, eL [] _ _ (by refine ⟨?_, ?_⟩ <;> (repeat' first | exact List.forall_mem_nil _ | refine List.forall_mem_cons.2 ⟨(by first | rfl | (simp (disch := omega) only [go_sem, simprocAttr, inL]; first | done | omega | (congr 1; done))), ?_⟩); done), ?_⟩
      ·exact ⟨by omega, upto_succ hinv hp (by rw [badRow, hb, decide_eq_false (by omega)]; rfl)⟩
      ·omega
     ·repeat' first | refine pw_seq ?_ | refine pw_skip ?_ | refine pw_ret ?_ | refine pw_exit ?_ | refine pw_block ?_ | refine pw_region (fun _ => false) hmix ?_ | (refine rc (hcf) rfl ?_ ?_; (· first | rfl | (simp (disch := omega) only [go_sem, simprocAttr, hp, cI]; done))) | (refine wpG_split rfl rfl (fun hc => ?_) (fun hc => ?_) <;> try simp only [hcL, reduceCtorEq] at hc) | (refine pw_cond _ rfl rfl (fun hc => ?_) (fun hc => ?_) <;> (try simp only [hcL, reduceCtorEq] at hc) <;> try (exfalso; omega)) | simp (maxSteps := 1000000) (disch := omega) only [go_sem, simprocAttr, hp, cI] | apply And.intro | omega | decide +kernel
      refine bool_some ?_
      rw [okM, any_at hp (by rw [badRow, hb, Bool.or_true])]; simp
    ·have cI : ¬ (p.length : Int) = m.length := by omega
     repeat' first | refine pw_seq ?_ | refine pw_skip ?_ | refine pw_ret ?_ | refine pw_exit ?_ | refine pw_block ?_ | refine pw_region (fun _ => false) hmix ?_ | (refine rc (hcf) rfl ?_ ?_; (· first | rfl | (simp (disch := omega) only [go_sem, simprocAttr, hp, cI]; done))) | (refine wpG_split rfl rfl (fun hc => ?_) (fun hc => ?_) <;> try simp only [hcL, reduceCtorEq] at hc) | (refine pw_cond _ rfl rfl (fun hc => ?_) (fun hc => ?_) <;> (try simp only [hcL, reduceCtorEq] at hc) <;> try (exfalso; omega)) | simp (maxSteps := 1000000) (disch := omega) only [go_sem, simprocAttr, hp, cI] | apply And.intro | omega | decide +kernel
     refine bool_some ?_
     rw [okM, any_at hp (by rw [badRow, decide_eq_true c, Bool.true_or])]; simp
   ·repeat' first | refine pw_seq ?_ | refine pw_skip ?_ | refine pw_ret ?_ | refine pw_exit ?_ | refine pw_block ?_ | refine pw_region (fun _ => false) hmix ?_ | (refine wpG_split rfl rfl (fun hc => ?_) (fun hc => ?_) <;> try simp only [hcL, reduceCtorEq] at hc) | (refine pw_cond _ rfl rfl (fun hc => ?_) (fun hc => ?_) <;> (try simp only [hcL, reduceCtorEq] at hc) <;> try (exfalso; omega)) | simp (maxSteps := 1000000) (disch := omega) only [go_sem, simprocAttr] | apply And.intro | omega | decide +kernel
    refine bool_some ?_
    rw [okM, any_no fun j y hj => hinv j y (by omega), decide_eq_true (by omega)]; rfl
end Go.Proofs.YtldbcbclhpcofaaGreat
namespace Go.Proofs.YtldbcbclhpcofaaGreat
open Go Go.PS Go.Proofs
open Go.Bd (sm sumC Small low Part bestF foldB better)
set_option maxRecDepth 100000
attribute [local irreducible] wpRun wpG CallsTo CallsM

def lwF (m : List (List Int)) (k : Nat) : Int := sm (fun u => sm (fun v => min (cellAt m u v) (cellAt m v u)) u) k
theorem lw_low (m : List (List Int)) : low (cellAt m) m.length [] = lwF m m.length := by
 rw [low, lwF]
 refine Go.Bd.sm_congr _ fun u _ => Go.Bd.sm_congr _ fun v _ => ?_
 rw [if_pos ⟨List.not_mem_nil, List.not_mem_nil⟩, Int.min_comm]
theorem iteI_min (a b : Int) : (if b < a then b else a) = min a b := by omega
theorem lw_in {m : List (List Int)} (hs : Sq m) (h8 : m.length ≤ 8) {u : Nat} (hu : u < m.length) (k : Nat) (hk : k ≤ u) : 0 ≤ sm (fun v => min (cellAt m u v) (cellAt m v u)) k ∧ sm (fun v => min (cellAt m u v) (cellAt m v u)) k ≤ 1000000 * k :=
 Go.Bd.sm_bounds k fun v hv => by
  have h1 := hs.small u v hu (by omega)
  have h2 := hs.small v u (by omega) hu
  omega
theorem lw_bounds {m : List (List Int)} (hs : Sq m) (h8 : m.length ≤ 8) (k : Nat) (hk : k ≤ m.length) : 0 ≤ lwF m k ∧ lwF m k ≤ 8000000 * k :=
 Go.Bd.sm_bounds k fun u hu => by
  have := lw_in hs h8 (u := u) (by omega) u (Nat.le_refl _)
  omega
set_option maxHeartbeats 1000000 in
theorem Lower_spec (m : List (List Int)) (h : okM m = true) : CallsTo Tryz.prog 52 [listsD m] (.int (low (cellAt m) m.length [])) := by
 have hv := bValid_spec m
 rw [h] at hv
 obtain ⟨hs, h8⟩ := ok_sq h
 rw [lw_low]
 refine callsTo_of Tryz.func52 rfl (by decide +kernel) (Nat.le_of_ble_eq_true rfl) ?_
 intro hat B X w0
 repeat' first | refine pw_seq ?_ | refine pw_skip ?_ | refine pw_ret ?_ | refine pw_exit ?_ | refine pw_block ?_ | refine pw_region (fun _ => false) hmix ?_ | (refine rc (hv) rfl ?_ ?_; (· first | rfl | (simp (disch := omega) only [go_sem, simprocAttr]; done))) | (refine wpG_split rfl rfl (fun hc => ?_) (fun hc => ?_) <;> try simp only [hcL, reduceCtorEq] at hc) | (refine pw_cond _ rfl rfl (fun hc => ?_) (fun hc => ?_) <;> (try simp only [hcL, reduceCtorEq] at hc) <;> try (exfalso; omega)) | simp (maxSteps := 1000000) (disch := omega) only [go_sem, simprocAttr] | apply And.intro | omega | decide +kernel
 refine pw_loopI (κ := Nat) (fun (u : Nat) => u ≤ m.length) (fun (u : Nat) => [(0, .d (listsD m)), (3, .int (lwF m u)), (10, .int m.length), (11, .int u)]) (fun (u : Nat) => []) (fun (u : Nat) => m.length - u) 0 ?_ ?_ ?_
 ·exact Nat.zero_le _
 ·exact eL [] _ _ (by refine ⟨?_, ?_⟩ <;> (repeat' first | exact List.forall_mem_nil _ | refine List.forall_mem_cons.2 ⟨(by first | rfl | (simp (disch := omega) only [go_sem, simprocAttr, inL, lwF, sm]; first | done | omega | (congr 1; done))), ?_⟩); done)
 ·intro u hu
  have hb := lw_bounds hs h8 u hu
  rcases Nat.lt_or_ge u m.length with hlt | hge
  ·have e1 : lwF m (u + 1) = lwF m u + sm (fun v => min (cellAt m u v) (cellAt m v u)) u := rfl
   repeat' first | refine pw_seq ?_ | refine pw_skip ?_ | refine pw_ret ?_ | refine pw_exit ?_ | refine pw_block ?_ | refine pw_region (fun _ => false) hmix ?_ | (refine wpG_split rfl rfl (fun hc => ?_) (fun hc => ?_) <;> try simp only [hcL, reduceCtorEq] at hc) | (refine pw_cond _ rfl rfl (fun hc => ?_) (fun hc => ?_) <;> (try simp only [hcL, reduceCtorEq] at hc) <;> try (exfalso; omega)) | simp (maxSteps := 1000000) (disch := omega) only [go_sem, simprocAttr] | apply And.intro | omega | decide +kernel
   refine pw_loopI (κ := Nat) (fun (v : Nat) => v ≤ u) (fun (v : Nat) => [(0, .d (listsD m)), (3, .int (lwF m u + sm (fun v => min (cellAt m u v) (cellAt m v u)) v)), (4, .int u), (10, .int m.length), (11, .int u), (14, .int u), (15, .int v)]) (fun (v : Nat) => []) (fun (v : Nat) => u - v) 0 ?_ ?_ ?_
   ·exact Nat.zero_le _
   ·exact eL [] _ _ (by refine ⟨?_, ?_⟩ <;> (repeat' first | exact List.forall_mem_nil _ | refine List.forall_mem_cons.2 ⟨(by first | rfl | (simp (disch := omega) only [go_sem, simprocAttr, inL, sm, Int.add_zero]; first | done | omega | (congr 1; done))), ?_⟩); done)
   ·intro v hv
    have hb2 := lw_in hs h8 hlt v hv
    rcases Nat.lt_or_ge v u with hlv | hgv
    ·obtain ⟨p, hp, hpl, hpv, h1, h2⟩ := hs.get hlt (show v < m.length by omega)
     obtain ⟨q, hq, hql, hqv, h3, h4⟩ := hs.get (show v < m.length by omega) hlt
     have e2 : sm (fun v => min (cellAt m u v) (cellAt m v u)) (v + 1) = sm (fun v => min (cellAt m u v) (cellAt m v u)) v + min (cellAt m u v) (cellAt m v u) := rfl
     repeat' first | refine pw_seq ?_ | refine pw_skip ?_ | refine pw_ret ?_ | refine pw_exit ?_ | refine pw_block ?_ | refine pw_region (fun _ => false) hmix ?_ | (refine wpG_split rfl rfl (fun hc => ?_) (fun hc => ?_) <;> try simp only [hcL, reduceCtorEq] at hc) | (refine pw_cond _ rfl rfl (fun hc => ?_) (fun hc => ?_) <;> (try simp only [hcL, reduceCtorEq] at hc) <;> try (exfalso; omega)) | simp (maxSteps := 1000000) (disch := omega) only [go_sem, simprocAttr, hp, hq, hpv, hqv, iteI_min] | apply And.intro | omega | decide +kernel
     refine ⟨v + 1, ?_, eL [] _ _ (by refine ⟨?_, ?_⟩ <;> (repeat' first | exact List.forall_mem_nil _ | refine List.forall_mem_cons.2 ⟨(by first | rfl | (simp (disch := omega) only [go_sem, simprocAttr, inL, e2, Int.add_assoc]; first | done | omega | (congr 1; done))), ?_⟩); done), ?_⟩
     ·omega
     ·omega
    ·have : v = u := by omega
     subst this
     repeat' first | refine pw_seq ?_ | refine pw_skip ?_ | refine pw_ret ?_ | refine pw_exit ?_ | refine pw_block ?_ | refine pw_region (fun _ => false) hmix ?_ | (refine wpG_split rfl rfl (fun hc => ?_) (fun hc => ?_) <;> try simp only [hcL, reduceCtorEq] at hc) | (refine pw_cond _ rfl rfl (fun hc => ?_) (fun hc => ?_) <;> (try simp only [hcL, reduceCtorEq] at hc) <;> try (exfalso; omega)) | simp (maxSteps := 1000000) (disch := omega) only [go_sem, simprocAttr] | apply And.intro | omega | decide +kernel
     refine ⟨v + 1, ?_, eL [] _ _ (by refine ⟨?_, ?_⟩ <;> (repeat' first | exact List.forall_mem_nil _ | refine List.forall_mem_cons.2 ⟨(by first | rfl | (simp (disch := omega) only [go_sem, simprocAttr, inL, e1]; first | done | omega | (congr 1; done))), ?_⟩); done), ?_⟩
     ·omega
     ·omega
  ·have : u = m.length := by omega
   subst this
   repeat' first | refine pw_seq ?_ | refine pw_skip ?_ | refine pw_ret ?_ | refine pw_exit ?_ | refine pw_block ?_ | refine pw_region (fun _ => false) hmix ?_ | (refine wpG_split rfl rfl (fun hc => ?_) (fun hc => ?_) <;> try simp only [hcL, reduceCtorEq] at hc) | (refine pw_cond _ rfl rfl (fun hc => ?_) (fun hc => ?_) <;> (try simp only [hcL, reduceCtorEq] at hc) <;> try (exfalso; omega)) | simp (maxSteps := 1000000) (disch := omega) only [go_sem, simprocAttr] | apply And.intro | omega | decide +kernel
   exact int_some rfl
end Go.Proofs.YtldbcbclhpcofaaGreat
namespace Go.Proofs.YtldbcbclhpcofaaGreat
open Go Go.PS Go.Proofs
open Go.Bd (sm sumC Small low Part bestF foldB better)
set_option maxRecDepth 100000
attribute [local irreducible] wpRun wpG CallsTo CallsM

theorem part_nil (n : Nat) : Part n n [] := ⟨List.nodup_nil, fun v hv => absurd hv List.not_mem_nil, by simp⟩
def bestAll (m : List (List Int)) : List Nat × Int := (bestF (cellAt m) m.length m.length []).getD ([], 0)
theorem bestAll_eq (m : List (List Int)) : bestF (cellAt m) m.length m.length [] = some (bestAll m) := by
 obtain ⟨s, hs⟩ := Go.Bd.best_some (c := cellAt m) m.length [] (part_nil _)
 rw [bestAll, hs]; rfl
end Go.Proofs.YtldbcbclhpcofaaGreat
