/- Crossings: the reference's Ends, Between, Total, Straight. -/
import Derived.Test.YtldbcbclhpcofaaCa
import Derived.Test.YtldbcbclhpcofaaPSBridge
import Derived.Test.YtldbcbclhpcofaaE
import Derived.Test.YtldbcbclhpcofaaPSFam
import Derived.Test.YtldbcbclhpcofaaTypes
set_option linter.unusedSimpArgs false
set_option linter.unusedVariables false
namespace Go.Proofs.Ytldbcbclhpcofaa
open Go Go.PS Go.Proofs
set_option maxRecDepth 100000
attribute [local irreducible] wpRun wpG CallsTo CallsM

theorem place_spec (l : List Int) (v : Int) : CallsTo Try.prog 74 [intsD l, .int v] (.int (placeF l v)) := by
 refine callsTo_of Try.func74 rfl (by decide +kernel) (Nat.le_of_ble_eq_true rfl) ?_
 intro hat B X w0
 have hl := at_len 0 hat rfl
 rw [List.length_map] at hl
 repeat' first | refine pw_seq ?_ | refine pw_skip ?_ | refine pw_ret ?_ | refine pw_exit ?_ | refine pw_block ?_ | refine pw_region (fun _ => false) hmix ?_ | (refine wpG_split rfl rfl (fun hc => ?_) (fun hc => ?_) <;> try simp only [hcL, reduceCtorEq] at hc) | (refine pw_cond _ rfl rfl (fun hc => ?_) (fun hc => ?_) <;> (try simp only [hcL, reduceCtorEq] at hc) <;> try (exfalso; omega)) | simp (maxSteps := 1000000) (disch := omega) only [go_sem, simprocAttr] | apply And.intro | omega | decide +kernel
 refine pw_loopI (κ := Nat) (fun (k : Nat) => k ≤ l.length ∧ ∀ (j : Nat) y, j < k → l[j]? = some y → (decide (y = v)) = false) (fun (k : Nat) => [(0, .d (intsD l)), (1, .int v), (5, .int k)]) (fun (k : Nat) => []) (fun (k : Nat) => l.length - k) 0 ?_ ?_ ?_
 ·exact ⟨Nat.zero_le _, fun j y h => by omega⟩
 ·exact eL [] _ _ (by refine ⟨?_, ?_⟩ <;> (repeat' first | exact List.forall_mem_nil _ | refine List.forall_mem_cons.2 ⟨(by first | rfl | (simp (disch := omega) only [go_sem, simprocAttr, inL]; first | done | omega | (congr 1; done))), ?_⟩); done)
 ·rintro k ⟨hk, hinv⟩
  rcases Nat.lt_or_ge k l.length with hlt | hge
  ·obtain ⟨p, hp⟩ := get_some hlt
   repeat' first | refine pw_seq ?_ | refine pw_skip ?_ | refine pw_ret ?_ | refine pw_exit ?_ | refine pw_block ?_ | refine pw_region (fun _ => false) hmix ?_ | (refine wpG_split rfl rfl (fun hc => ?_) (fun hc => ?_) <;> try simp only [hcL, reduceCtorEq] at hc) | (refine pw_cond _ rfl rfl (fun hc => ?_) (fun hc => ?_) <;> (try simp only [hcL, reduceCtorEq] at hc) <;> try (exfalso; omega)) | simp (maxSteps := 1000000) (disch := omega) only [go_sem, simprocAttr, hp] | apply And.intro | omega | decide +kernel
   ·refine int_some ?_
    rw [placeF, findIdx_at hp (by simpa using hc) hinv]; rfl
   ·refine ⟨k + 1, ?_, eL [] _ _ (by refine ⟨?_, ?_⟩ <;> (repeat' first | exact List.forall_mem_nil _ | refine List.forall_mem_cons.2 ⟨(by first | rfl | (simp (disch := omega) only [go_sem, simprocAttr, inL]; first | done | omega | (congr 1; done))), ?_⟩); done), ?_⟩
    ·exact ⟨by omega, upto_succ hinv hp (by simpa using hc)⟩
    ·omega
  ·repeat' first | refine pw_seq ?_ | refine pw_skip ?_ | refine pw_ret ?_ | refine pw_exit ?_ | refine pw_block ?_ | refine pw_region (fun _ => false) hmix ?_ | (refine wpG_split rfl rfl (fun hc => ?_) (fun hc => ?_) <;> try simp only [hcL, reduceCtorEq] at hc) | (refine pw_cond _ rfl rfl (fun hc => ?_) (fun hc => ?_) <;> (try simp only [hcL, reduceCtorEq] at hc) <;> try (exfalso; omega)) | simp (maxSteps := 1000000) (disch := omega) only [go_sem, simprocAttr] | apply And.intro | omega | decide +kernel
   refine int_some ?_
   rw [placeF, findIdx_no (fun j y hy => hinv j y (by have := (List.getElem?_eq_some_iff.1 hy).1; omega) hy)]; rfl
def pairOf (y z : List Int) (x : Arc) : List (Int × Int) := if 0 ≤ placeF y x.1 ∧ 0 ≤ placeF z x.2 then [(placeF y x.1, placeF z x.2)] else []
def pairsF (y z : List Int) (ar : List Arc) : List (Int × Int) := ar.flatMap (pairOf y z)
abbrev pairD (p : Int × Int) : D := .sl [.int p.1, .int p.2]
abbrev prsD (l : List (Int × Int)) : D := .sl (l.map pairD)
theorem pairsF_le (y z : List Int) (ar : List Arc) : (pairsF y z ar).length ≤ ar.length := by
 induction ar with
 | nil => simp [pairsF]
 | cons x ar ih =>
  have : (pairOf y z x).length ≤ 1 := by unfold pairOf; split <;> simp
  simp only [pairsF, List.flatMap_cons, List.length_append, List.length_cons] at ih ⊢; omega
set_option maxHeartbeats 1000000 in
theorem Ends_spec (a : Lv) (i : Nat) (y z : List Int) (hy : a.2.1[i]? = some y) (hz : a.2.1[i + 1]? = some z) (ha : a.2.2.1.length ≤ 1000) : CallsTo Try.prog 56 [lvD a, .int i] (prsD (pairsF y z a.2.2.1)) := by
 have hil : i + 1 < a.2.1.length := (List.getElem?_eq_some_iff.1 hz).1
 obtain ⟨n, ls, ar, cs⟩ := a
 dsimp only at *
 refine callsTo_of Try.func56 rfl (by decide +kernel) (Nat.le_of_ble_eq_true rfl) ?_
 intro hat B X w0
 have hl := at_len2 0 1 hat rfl rfl
 rw [List.length_map] at hl
 dsimp only at hl
 repeat' first | refine pw_seq ?_ | refine pw_skip ?_ | refine pw_ret ?_ | refine pw_exit ?_ | refine pw_block ?_ | refine pw_region (Nat.beq 9) hmix ?_ | (refine wpG_split rfl rfl (fun hc => ?_) (fun hc => ?_) <;> try simp only [hcL, reduceCtorEq] at hc) | (refine pw_cond _ rfl rfl (fun hc => ?_) (fun hc => ?_) <;> (try simp only [hcL, reduceCtorEq] at hc) <;> try (exfalso; omega)) | simp (maxSteps := 1000000) (disch := omega) only [go_sem, simprocAttr] | apply And.intro | omega | decide +kernel
 refine pw_loopI (κ := Nat) (fun (k : Nat) => k ≤ ar.length) (fun (k : Nat) => [(1, .int i), (2, .ptr 2 0 0 0), (5, .ref 901 1 0 (pairsF y z (ar.take k)).length (pairsF y z (ar.take k)).length), (6, .int k)]) (fun (k : Nat) => [(2, .cells [.int n, .d (listsD ls), .d (arcsD ar), .d (listsD cs)]), (901, .row 1 ((pairsF y z (ar.take k)).map pairD))]) (fun (k : Nat) => ar.length - k) 0 ?_ ?_ ?_
 ·exact Nat.zero_le _
 ·exact eL [(901, 9)] _ _ (by refine ⟨?_, ?_⟩ <;> (repeat' first | exact List.forall_mem_nil _ | refine List.forall_mem_cons.2 ⟨(by first | rfl | (simp (disch := omega) only [go_sem, simprocAttr, inL, List.take_zero, pairsF, List.flatMap_nil, List.length_nil]; first | done | omega | (congr 1; done))), ?_⟩); done)
 ·intro k hk
  have hle := pairsF_le y z (ar.take k)
  rw [List.length_take] at hle
  rcases Nat.lt_or_ge k ar.length with hlt | hge
  ·obtain ⟨x, hx⟩ := get_some hlt
   have e1 : pairsF y z (ar.take (k + 1)) = pairsF y z (ar.take k) ++ pairOf y z x := by rw [take_snoc hx, pairsF, List.flatMap_append]; simp [pairsF]
   have p1 := place_spec y x.1
   have p2 := place_spec z x.2
   have en : ((i : Int) + 1).toNat = i + 1 := by omega
   rw [pairOf] at e1
   generalize placeF y x.1 = u at *
   generalize placeF z x.2 = v at *
   generalize pairsF y z (ar.take k) = R at *
   by_cases c1 : 0 ≤ u <;> by_cases c2 : 0 ≤ v
   ·rw [if_pos ⟨c1, c2⟩] at e1
    repeat' first | refine pw_seq ?_ | refine pw_skip ?_ | refine pw_ret ?_ | refine pw_exit ?_ | refine pw_block ?_ | refine pw_region (fun _ => false) hmix ?_ | (refine rc (p1) rfl ?_ ?_; (· first | rfl | (simp (disch := omega) only [go_sem, simprocAttr, hx, hy, hz, en, c1, c2, roomy, take_map_len]; done))) | (refine rc (p2) rfl ?_ ?_; (· first | rfl | (simp (disch := omega) only [go_sem, simprocAttr, hx, hy, hz, en, c1, c2, roomy, take_map_len]; done))) | (refine wpG_split rfl rfl (fun hc => ?_) (fun hc => ?_) <;> try simp only [hcL, reduceCtorEq] at hc) | (refine pw_cond _ rfl rfl (fun hc => ?_) (fun hc => ?_) <;> (try simp only [hcL, reduceCtorEq] at hc) <;> try (exfalso; omega)) | simp (maxSteps := 1000000) (disch := omega) only [go_sem, simprocAttr, hx, hy, hz, en, c1, c2, roomy, take_map_len] | apply And.intro | omega | decide +kernel
    refine ⟨k + 1, ?_, eL [(901, 53)] _ _ (by refine ⟨?_, ?_⟩ <;> (repeat' first | exact List.forall_mem_nil _ | refine List.forall_mem_cons.2 ⟨(by first | rfl | (simp (disch := omega) only [go_sem, simprocAttr, inL, e1, List.map_append, List.length_append, List.length_cons, List.length_nil]; first | done | omega | (congr 1; done))), ?_⟩); done), ?_⟩
    ·omega
    ·omega
   all_goals
    rw [if_neg (by omega), List.append_nil] at e1
    repeat' first | refine pw_seq ?_ | refine pw_skip ?_ | refine pw_ret ?_ | refine pw_exit ?_ | refine pw_block ?_ | refine pw_region (fun _ => false) hmix ?_ | (refine rc (p1) rfl ?_ ?_; (· first | rfl | (simp (disch := omega) only [go_sem, simprocAttr, hx, hy, hz, en, c1, c2]; done))) | (refine rc (p2) rfl ?_ ?_; (· first | rfl | (simp (disch := omega) only [go_sem, simprocAttr, hx, hy, hz, en, c1, c2]; done))) | (refine wpG_split rfl rfl (fun hc => ?_) (fun hc => ?_) <;> try simp only [hcL, reduceCtorEq] at hc) | (refine pw_cond _ rfl rfl (fun hc => ?_) (fun hc => ?_) <;> (try simp only [hcL, reduceCtorEq] at hc) <;> try (exfalso; omega)) | simp (maxSteps := 1000000) (disch := omega) only [go_sem, simprocAttr, hx, hy, hz, en, c1, c2] | apply And.intro | omega | decide +kernel
    refine ⟨k + 1, ?_, eL [] _ _ (by refine ⟨?_, ?_⟩ <;> (repeat' first | exact List.forall_mem_nil _ | refine List.forall_mem_cons.2 ⟨(by first | rfl | (simp (disch := omega) only [go_sem, simprocAttr, inL, e1]; first | done | omega | (congr 1; done))), ?_⟩); done), ?_⟩
    ·omega
    ·omega
  ·have : k = ar.length := by omega
   subst this
   try dsimp only
   rw [List.take_length]
   repeat' first | refine pw_seq ?_ | refine pw_skip ?_ | refine pw_ret ?_ | refine pw_exit ?_ | refine pw_block ?_ | refine pw_region (fun _ => false) hmix ?_ | (refine wpG_split rfl rfl (fun hc => ?_) (fun hc => ?_) <;> try simp only [hcL, reduceCtorEq] at hc) | (refine pw_cond _ rfl rfl (fun hc => ?_) (fun hc => ?_) <;> (try simp only [hcL, reduceCtorEq] at hc) <;> try (exfalso; omega)) | simp (maxSteps := 1000000) (disch := omega) only [go_sem, simprocAttr] | apply And.intro | omega | decide +kernel
   exact ret_ref (o := 901) rfl rfl (by simp) (List.take_of_length_le (by simp))
def crossB (x y : Int × Int) : Bool := decide (x.1 < y.1) && decide (y.2 < x.2)
def crossF : List (Int × Int) → List (Int × Int) → Nat
 | [], _ => 0
 | x :: E, F => F.countP (crossB x) + crossF E F
theorem crossF_snoc (E F : List (Int × Int)) (x : Int × Int) : crossF (E ++ [x]) F = crossF E F + F.countP (crossB x) := by
 induction E with
 | nil => simp [crossF]
 | cons y E ih => simp only [List.cons_append, crossF, ih]; omega
theorem crossF_le (E F : List (Int × Int)) : crossF E F ≤ E.length * F.length := by
 induction E with
 | nil => simp [crossF]
 | cons y E ih =>
  have := List.countP_le_length (p := crossB y) (l := F)
  simp only [crossF, List.length_cons, Nat.add_mul]; omega
def rBetweenF (a : Lv) (i : Int) : Int := if validF a = false ∨ i < 0 ∨ (a.2.1.length : Int) - 1 ≤ i then 0 else crossF (pairsF (lstN a.2.1 i.toNat) (lstN a.2.1 (i.toNat + 1)) a.2.2.1) (pairsF (lstN a.2.1 i.toNat) (lstN a.2.1 (i.toNat + 1)) a.2.2.1)
set_option maxHeartbeats 4000000 in
theorem rBetween_spec (a : Lv) (i : Int) (hw : wide a) : CallsTo Try.prog 38 [lvD a, .int i] (.int (rBetweenF a i)) := by
 have h1 := rLvValid_spec a hw
 rw [← valid_same] at h1
 rw [rBetweenF]
 rcases h : validF a with _ | _ <;> rw [h] at h1
 ·rw [if_pos (.inl rfl)]
  refine callsTo_of Try.func38 rfl (by decide +kernel) (Nat.le_of_ble_eq_true rfl) ?_
  intro hat B X w0
  repeat' first | refine pw_seq ?_ | refine pw_skip ?_ | refine pw_ret ?_ | refine pw_exit ?_ | refine pw_block ?_ | refine pw_region (fun _ => false) hmix ?_ | (refine rc (h1) rfl ?_ ?_; (· first | rfl | (simp (disch := omega) only [go_sem, simprocAttr, List.append_eq]; done))) | (refine wpG_split rfl rfl (fun hc => ?_) (fun hc => ?_) <;> try simp only [hcL, reduceCtorEq] at hc) | (refine pw_cond _ rfl rfl (fun hc => ?_) (fun hc => ?_) <;> (try simp only [hcL, reduceCtorEq] at hc) <;> try (exfalso; omega)) | simp (maxSteps := 1000000) (disch := omega) only [go_sem, simprocAttr, List.append_eq] | apply And.intro | omega | decide +kernel
  exact int_some rfl
 ·obtain ⟨s1, s2, s3⟩ := lv_sizes h
  by_cases c : i < 0 ∨ (a.2.1.length : Int) - 1 ≤ i
  ·rw [if_pos (.inr c)]
   obtain ⟨n, ls, ar, cs⟩ := a
   dsimp only at c
   refine callsTo_of Try.func38 rfl (by decide +kernel) (Nat.le_of_ble_eq_true rfl) ?_
   intro hat B X w0
   have hl := at_len2 0 1 hat rfl rfl
   rw [List.length_map] at hl
   dsimp only at hl
   repeat' first | refine pw_seq ?_ | refine pw_skip ?_ | refine pw_ret ?_ | refine pw_exit ?_ | refine pw_block ?_ | refine pw_region (fun _ => false) hmix ?_ | (refine rc (h1) rfl ?_ ?_; (· first | rfl | (simp (disch := omega) only [go_sem, simprocAttr, List.append_eq]; done))) | (refine wpG_split rfl rfl (fun hc => ?_) (fun hc => ?_) <;> try simp only [hcL, reduceCtorEq] at hc) | (refine pw_cond _ rfl rfl (fun hc => ?_) (fun hc => ?_) <;> (try simp only [hcL, reduceCtorEq] at hc) <;> try (exfalso; omega)) | simp (maxSteps := 1000000) (disch := omega) only [go_sem, simprocAttr, List.append_eq] | apply And.intro | omega | decide +kernel
   all_goals exact int_some rfl
  ·rw [if_neg (by rintro (h | h); cases h; exact c h)]
   obtain ⟨i, rfl⟩ : ∃ n : Nat, i = n := ⟨i.toNat, by omega⟩
   rw [Int.toNat_natCast]
   obtain ⟨y, hy⟩ := get_some (l := a.2.1) (k := i) (by omega)
   obtain ⟨z, hz⟩ := get_some (l := a.2.1) (k := i + 1) (by omega)
   have h2 := Ends_spec a i y z hy hz (by omega)
   have hEl := pairsF_le y z a.2.2.1
   have e1 : lstN a.2.1 i = y := by rw [lstN, hy]; rfl
   have e2 : lstN a.2.1 (i + 1) = z := by rw [lstN, hz]; rfl
   rw [e1, e2]
   generalize pairsF y z a.2.2.1 = E at *
   have hcl : ∀ k, k ≤ E.length → crossF (E.take k) E ≤ 800 * 800 := fun k hk => by
    refine Nat.le_trans (crossF_le _ _) (Nat.mul_le_mul ?_ (by omega))
    rw [List.length_take]; omega
   obtain ⟨n, ls, ar, cs⟩ := a
   dsimp only at *
   refine callsTo_of Try.func38 rfl (by decide +kernel) (Nat.le_of_ble_eq_true rfl) ?_
   intro hat B X w0
   have hl := at_len2 0 1 hat rfl rfl
   rw [List.length_map] at hl
   dsimp only at hl
   repeat' first | refine pw_seq ?_ | refine pw_skip ?_ | refine pw_ret ?_ | refine pw_exit ?_ | refine pw_block ?_ | refine pw_region (fun _ => false) hmix ?_ | (refine rc (h1) rfl ?_ ?_; (· first | rfl | (simp (disch := omega) only [go_sem, simprocAttr, List.append_eq]; done))) | (refine rc (h2) rfl ?_ ?_; (· first | rfl | (simp (disch := omega) only [go_sem, simprocAttr, List.append_eq]; done))) | (refine wpG_split rfl rfl (fun hc => ?_) (fun hc => ?_) <;> try simp only [hcL, reduceCtorEq] at hc) | (refine pw_cond _ rfl rfl (fun hc => ?_) (fun hc => ?_) <;> (try simp only [hcL, reduceCtorEq] at hc) <;> try (exfalso; omega)) | simp (maxSteps := 1000000) (disch := omega) only [go_sem, simprocAttr, List.append_eq] | apply And.intro | omega | decide +kernel
   refine pw_loopI (κ := Nat) (fun (u : Nat) => u ≤ E.length) (fun (u : Nat) => [(5, .d (prsD E)), (6, .int (crossF (E.take u) E)), (7, .int u)]) (fun (u : Nat) => []) (fun (u : Nat) => E.length - u) 0 ?_ ?_ ?_
   ·exact Nat.zero_le _
   ·exact eL [] _ _ (by refine ⟨?_, ?_⟩ <;> (repeat' first | exact List.forall_mem_nil _ | refine List.forall_mem_cons.2 ⟨(by first | rfl | (simp (disch := omega) only [go_sem, simprocAttr, inL, List.take_zero, crossF]; first | done | omega | (congr 1; done))), ?_⟩); done)
   ·intro u hu
    rcases Nat.lt_or_ge u E.length with hlt | hge
    ·obtain ⟨p, hp⟩ := get_some hlt
     have f1 : crossF (E.take (u + 1)) E = crossF (E.take u) E + E.countP (crossB p) := by rw [take_snoc hp, crossF_snoc]
     have b1 := hcl u hu
     have b2 := hcl (u + 1) (by omega)
     obtain ⟨c0, e0⟩ : ∃ c0, crossF (E.take u) E = c0 := ⟨_, rfl⟩
     rw [e0] at b1 f1
     repeat' first | refine pw_seq ?_ | refine pw_skip ?_ | refine pw_ret ?_ | refine pw_exit ?_ | refine pw_block ?_ | refine pw_region (fun _ => false) hmix ?_ | (refine wpG_split rfl rfl (fun hc => ?_) (fun hc => ?_) <;> try simp only [hcL, reduceCtorEq] at hc) | (refine pw_cond _ rfl rfl (fun hc => ?_) (fun hc => ?_) <;> (try simp only [hcL, reduceCtorEq] at hc) <;> try (exfalso; omega)) | simp (maxSteps := 1000000) (disch := omega) only [go_sem, simprocAttr] | apply And.intro | omega | decide +kernel
     refine pw_loopI (κ := Nat) (fun (v : Nat) => v ≤ E.length) (fun (v : Nat) => [(5, .d (prsD E)), (6, .int ((c0 + (E.take v).countP (crossB p) : Nat) : Int)), (7, .int u), (8, .int v)]) (fun (v : Nat) => []) (fun (v : Nat) => E.length - v) 0 ?_ ?_ ?_
     ·exact Nat.zero_le _
     ·exact eL [] _ _ (by refine ⟨?_, ?_⟩ <;> (repeat' first | exact List.forall_mem_nil _ | refine List.forall_mem_cons.2 ⟨(by first | rfl | (simp (disch := omega) only [go_sem, simprocAttr, inL, e0, List.take_zero, List.countP_nil, Nat.add_zero]; first | done | omega | (congr 1; done))), ?_⟩); done)
     ·intro v hv
      rcases Nat.lt_or_ge v E.length with hlv | hgv
      ·obtain ⟨q, hq⟩ := get_some hlv
       have f2 : (E.take (v + 1)).countP (crossB p) = (E.take v).countP (crossB p) + if crossB p q then 1 else 0 := by
        rw [take_snoc hq, List.countP_append]; simp [List.countP_cons]
       have hle := List.countP_le_length (p := crossB p) (l := E.take v)
       rw [List.length_take] at hle
       generalize (E.take v).countP (crossB p) = d at *
       by_cases d1 : p.1 < q.1 <;> by_cases d2 : q.2 < p.2
       all_goals simp only [crossB, d1, d2, decide_true, decide_false, Bool.and_true, Bool.and_false, Bool.false_eq_true, if_true, if_false, Nat.add_zero] at f2
       all_goals
        repeat' first | refine pw_seq ?_ | refine pw_skip ?_ | refine pw_ret ?_ | refine pw_exit ?_ | refine pw_block ?_ | refine pw_region (fun _ => false) hmix ?_ | (refine wpG_split rfl rfl (fun hc => ?_) (fun hc => ?_) <;> try simp only [hcL, reduceCtorEq] at hc) | (refine pw_cond _ rfl rfl (fun hc => ?_) (fun hc => ?_) <;> (try simp only [hcL, reduceCtorEq] at hc) <;> try (exfalso; omega)) | simp (maxSteps := 1000000) (disch := omega) only [go_sem, simprocAttr, List.append_eq, hp, hq, d1, d2] | apply And.intro | omega | decide +kernel
        refine ⟨v + 1, ?_, eL [] _ _ (by refine ⟨?_, ?_⟩ <;> (repeat' first | exact List.forall_mem_nil _ | refine List.forall_mem_cons.2 ⟨(by first | rfl | (simp (disch := omega) only [go_sem, simprocAttr, inL, f2, Int.natCast_add, Int.natCast_one, Int.add_assoc]; first | done | omega | (congr 1; done))), ?_⟩); done), ?_⟩
        ·omega
        ·omega
      ·have : v = E.length := by omega
       subst this
       try dsimp only
       rw [List.take_length]
       repeat' first | refine pw_seq ?_ | refine pw_skip ?_ | refine pw_ret ?_ | refine pw_exit ?_ | refine pw_block ?_ | refine pw_region (fun _ => false) hmix ?_ | (refine wpG_split rfl rfl (fun hc => ?_) (fun hc => ?_) <;> try simp only [hcL, reduceCtorEq] at hc) | (refine pw_cond _ rfl rfl (fun hc => ?_) (fun hc => ?_) <;> (try simp only [hcL, reduceCtorEq] at hc) <;> try (exfalso; omega)) | simp (maxSteps := 1000000) (disch := omega) only [go_sem, simprocAttr] | apply And.intro | omega | decide +kernel
       refine ⟨u + 1, ?_, eL [] _ _ (by refine ⟨?_, ?_⟩ <;> (repeat' first | exact List.forall_mem_nil _ | refine List.forall_mem_cons.2 ⟨(by first | rfl | (simp (disch := omega) only [go_sem, simprocAttr, inL, f1]; first | done | omega | (congr 1; done))), ?_⟩); done), ?_⟩
       ·omega
       ·omega
    ·have : u = E.length := by omega
     subst this
     try dsimp only
     rw [List.take_length]
     repeat' first | refine pw_seq ?_ | refine pw_skip ?_ | refine pw_ret ?_ | refine pw_exit ?_ | refine pw_block ?_ | refine pw_region (fun _ => false) hmix ?_ | (refine wpG_split rfl rfl (fun hc => ?_) (fun hc => ?_) <;> try simp only [hcL, reduceCtorEq] at hc) | (refine pw_cond _ rfl rfl (fun hc => ?_) (fun hc => ?_) <;> (try simp only [hcL, reduceCtorEq] at hc) <;> try (exfalso; omega)) | simp (maxSteps := 1000000) (disch := omega) only [go_sem, simprocAttr] | apply And.intro | omega | decide +kernel
     exact int_some rfl
end Go.Proofs.Ytldbcbclhpcofaa
namespace Go.Proofs.Ytldbcbclhpcofaa
open Go Go.PS Go.Proofs
set_option maxRecDepth 100000
attribute [local irreducible] wpRun wpG CallsTo CallsM

def rTotalF (a : Lv) : Int := sumZ (fun i => rBetweenF a i) a.2.1.length
theorem rBetweenF_le (a : Lv) (i : Int) : 0 ≤ rBetweenF a i ∧ rBetweenF a i ≤ 360000000000 := by
 rw [rBetweenF]
 split
 ·omega
 ·rename_i h
  have hv : validF a = true := by
   rcases hv : validF a with _ | _
   ·exact absurd (.inl hv) h
   ·rfl
  obtain ⟨s1, s2, s3⟩ := lv_sizes hv
  have h1 := pairsF_le (lstN a.2.1 i.toNat) (lstN a.2.1 (i.toNat + 1)) a.2.2.1
  generalize pairsF (lstN a.2.1 i.toNat) (lstN a.2.1 (i.toNat + 1)) a.2.2.1 = E at *
  have h2 := crossF_le E E
  have h3 : E.length * E.length ≤ 800 * 800 := Nat.mul_le_mul (by omega) (by omega)
  omega
theorem rTotal_spec (a : Lv) (hw : wide a) (hl : a.2.1.length ≤ 1000) : CallsTo Try.prog 17 [lvD a] (.int (rTotalF a)) := by
 have hb := fun i => rBetween_spec a i hw
 have hbl := rBetweenF_le a
 have hs : ∀ k, k ≤ a.2.1.length → 0 ≤ sumZ (fun i => rBetweenF a i) k ∧ sumZ (fun i => rBetweenF a i) k ≤ 1000 * 360000000000 := fun k hk => by
  have := sumZ_bound (f := fun i => rBetweenF a i) (c := 360000000000) k fun i _ => hbl i
  have h2 : k * 360000000000 ≤ 1000 * 360000000000 := Nat.mul_le_mul_right _ (by omega)
  omega
 rw [rTotalF]
 generalize hB : (fun i : Nat => rBetweenF a i) = Bf at hs ⊢
 have hb2 : ∀ i : Nat, CallsTo Try.prog 38 [lvD a, .int i] (.int (Bf i)) := fun i => by rw [← hB]; exact hb i
 obtain ⟨n, ls, ar, cs⟩ := a
 dsimp only at *
 refine callsTo_of Try.func17 rfl (by decide +kernel) (Nat.le_of_ble_eq_true rfl) ?_
 intro hat B X w0
 repeat' first | refine pw_seq ?_ | refine pw_skip ?_ | refine pw_ret ?_ | refine pw_exit ?_ | refine pw_block ?_ | refine pw_region (fun _ => false) hmix ?_ | (refine wpG_split rfl rfl (fun hc => ?_) (fun hc => ?_) <;> try simp only [hcL, reduceCtorEq] at hc) | (refine pw_cond _ rfl rfl (fun hc => ?_) (fun hc => ?_) <;> (try simp only [hcL, reduceCtorEq] at hc) <;> try (exfalso; omega)) | simp (maxSteps := 1000000) (disch := omega) only [go_sem, simprocAttr] | apply And.intro | omega | decide +kernel
 refine pw_loopI (κ := Nat) (fun (i : Nat) => i ≤ ls.length) (fun (i : Nat) => [(1, .ptr 1 0 0 0), (3, .int (sumZ Bf i)), (4, .int i)]) (fun (i : Nat) => [(1, .cells [.int n, .d (listsD ls), .d (arcsD ar), .d (listsD cs)])]) (fun (i : Nat) => ls.length - i) 0 ?_ ?_ ?_
 ·exact Nat.zero_le _
 ·exact eL [] _ _ (by refine ⟨?_, ?_⟩ <;> (repeat' first | exact List.forall_mem_nil _ | refine List.forall_mem_cons.2 ⟨(by first | rfl | (simp (disch := omega) only [go_sem, simprocAttr, inL, sumZ]; first | done | omega | (congr 1; done))), ?_⟩); done)
 ·intro i hi
  rcases Nat.lt_or_ge i ls.length with hlt | hge
  ·have h1 := hs i hi
   have h2 := hs (i + 1) (by omega)
   have e1 : sumZ Bf (i + 1) = sumZ Bf i + Bf i := rfl
   have hbi := hb2 i
   repeat' first | refine pw_seq ?_ | refine pw_skip ?_ | refine pw_ret ?_ | refine pw_exit ?_ | refine pw_block ?_ | refine pw_region (fun _ => false) hmix ?_ | (refine rc (hbi) rfl ?_ ?_; (· first | rfl | (simp (disch := omega) only [go_sem, simprocAttr]; done))) | (refine wpG_split rfl rfl (fun hc => ?_) (fun hc => ?_) <;> try simp only [hcL, reduceCtorEq] at hc) | (refine pw_cond _ rfl rfl (fun hc => ?_) (fun hc => ?_) <;> (try simp only [hcL, reduceCtorEq] at hc) <;> try (exfalso; omega)) | simp (maxSteps := 1000000) (disch := omega) only [go_sem, simprocAttr] | apply And.intro | omega | decide +kernel
   refine ⟨i + 1, ?_, eL [] _ _ (by refine ⟨?_, ?_⟩ <;> (repeat' first | exact List.forall_mem_nil _ | refine List.forall_mem_cons.2 ⟨(by first | rfl | (simp (disch := omega) only [go_sem, simprocAttr, inL, e1]; first | done | omega | (congr 1; done))), ?_⟩); done), ?_⟩
   ·omega
   ·omega
  ·have : i = ls.length := by omega
   subst this
   repeat' first | refine pw_seq ?_ | refine pw_skip ?_ | refine pw_ret ?_ | refine pw_exit ?_ | refine pw_block ?_ | refine pw_region (fun _ => false) hmix ?_ | (refine wpG_split rfl rfl (fun hc => ?_) (fun hc => ?_) <;> try simp only [hcL, reduceCtorEq] at hc) | (refine pw_cond _ rfl rfl (fun hc => ?_) (fun hc => ?_) <;> (try simp only [hcL, reduceCtorEq] at hc) <;> try (exfalso; omega)) | simp (maxSteps := 1000000) (disch := omega) only [go_sem, simprocAttr] | apply And.intro | omega | decide +kernel
   exact int_some rfl
end Go.Proofs.Ytldbcbclhpcofaa
namespace Go.Proofs.Ytldbcbclhpcofaa
open Go Go.PS Go.Proofs

/-! ### Sums over pairs -/
abbrev Pr := Int × Int
def w1 (f : Pr → Int) : List Pr → Int
 | [] => 0
 | y :: F => f y + w1 f F
def W (f : Pr → Pr → Int) (F : List Pr) : List Pr → Int
 | [] => 0
 | x :: E => w1 (f x) F + W f F E
theorem w1_congr {f g : Pr → Int} : ∀ {F : List Pr}, (∀ y, y ∈ F → f y = g y) → w1 f F = w1 g F
 | [], _ => rfl
 | y :: F, h => by rw [w1, w1, h y (by simp), w1_congr fun z hz => h z (List.mem_cons_of_mem _ hz)]
theorem W_congr {f g : Pr → Pr → Int} {F : List Pr} : ∀ {E : List Pr}, (∀ x, x ∈ E → ∀ y, y ∈ F → f x y = g x y) → W f F E = W g F E
 | [], _ => rfl
 | x :: E, h => by rw [W, W, w1_congr (h x (by simp)), W_congr fun z hz => h z (List.mem_cons_of_mem _ hz)]
theorem w1_add (f g : Pr → Int) : ∀ F : List Pr, w1 (fun y => f y + g y) F = w1 f F + w1 g F
 | [] => rfl
 | y :: F => by rw [w1, w1, w1, w1_add f g F]; omega
theorem W_add (f g : Pr → Pr → Int) (F : List Pr) : ∀ E : List Pr, W (fun x y => f x y + g x y) F E = W f F E + W g F E
 | [] => rfl
 | x :: E => by rw [W, W, W, w1_add, W_add f g F E]; omega
theorem w1_zero : ∀ F : List Pr, w1 (fun _ => 0) F = 0
 | [] => rfl
 | y :: F => by rw [w1, w1_zero F]; rfl
theorem W_zero (F : List Pr) : ∀ E : List Pr, W (fun _ _ => 0) F E = 0
 | [] => rfl
 | x :: E => by rw [W, w1_zero, W_zero F E]; rfl
theorem W_sum (f : Nat → Pr → Pr → Int) (F E : List Pr) : ∀ n, sumZ (fun k => W (f k) F E) n = W (fun x y => sumZ (fun k => f k x y) n) F E
 | 0 => by simp only [sumZ]; rw [W_zero]
 | n + 1 => by simp only [sumZ]; rw [W_sum f F E n, W_add]
def ind (p : Prop) [Decidable p] : Int := if p then 1 else 0
theorem w1_count (p : Pr → Bool) : ∀ F : List Pr, ((F.countP p : Nat) : Int) = w1 (fun y => ind (p y = true)) F
 | [] => rfl
 | y :: F => by
  have := w1_count p F
  rw [w1, ← this, List.countP_cons, ind]
  split <;> omega
theorem cross_W (F : List Pr) : ∀ E : List Pr, ((crossF E F : Nat) : Int) = W (fun x y => ind (x.1 < y.1 ∧ y.2 < x.2)) F E
 | [] => rfl
 | x :: E => by
  rw [crossF, W, ← cross_W F E, Int.natCast_add, w1_count]
  congr 1
  refine w1_congr fun y _ => ?_
  simp [ind, crossB]
theorem under_w1 (x : Int) (p : Pr → Bool) (g : Pr → Int) : ∀ F : List Pr, ((under ((F.filter p).map g) x : Nat) : Int) = w1 (fun y => ind (p y = true ∧ g y < x)) F
 | [] => rfl
 | y :: F => by
  have ih := under_w1 x p g F
  rw [w1, ← ih]
  by_cases hp : p y = true
  ·rw [List.filter_cons_of_pos hp, List.map_cons, under, under, List.filter_cons]
   by_cases hg : g y < x
   ·simp [ind, hp, hg]; omega
   ·simp [ind, hp, hg]
  ·rw [List.filter_cons_of_neg hp]
   simp [ind, hp]
theorem behind_W (p q : Pr → Bool) (g : Pr → Int) (F : List Pr) : ∀ E : List Pr, ((behindF ((E.filter p).map g) ((F.filter q).map g) : Nat) : Int) = W (fun x y => ind (p x = true ∧ q y = true ∧ g y < g x)) F E
 | [] => rfl
 | x :: E => by
  have ih := behind_W p q g F E
  rw [W, ← ih]
  by_cases hp : p x = true
  ·rw [List.filter_cons_of_pos hp, List.map_cons, behindF, Int.natCast_add, under_w1]
   congr 1
   refine w1_congr fun y _ => ?_
   simp [ind, hp]
  ·rw [List.filter_cons_of_neg hp]
   have : w1 (fun y => ind (p x = true ∧ q y = true ∧ g y < g x)) F = 0 := by
    rw [← w1_zero F]
    refine w1_congr fun y _ => ?_
    simp [ind, hp]
   rw [this]; omega
/-! ### Single sums of indicators -/
theorem sum_one (u : Int) (g : Nat → Int) : ∀ n : Nat, (∀ k : Nat, (k : Int) ≠ u → g k = 0) → sumZ g n = if 0 ≤ u ∧ u < n then g u.toNat else 0
 | 0, _ => by rw [sumZ, if_neg (by omega)]
 | n + 1, h => by
  rw [sumZ, sum_one u g n h]
  by_cases c : (n : Int) = u
  ·subst c
   rw [if_neg (by omega), if_pos (by omega), Int.toNat_natCast]; omega
  ·rw [h n c]
   by_cases c2 : 0 ≤ u ∧ u < n
   ·rw [if_pos c2, if_pos (by omega)]; omega
   ·rw [if_neg c2, if_neg (by omega)]; rfl
/-! ### The ends, as pairs -/
theorem placeF_at {y : List Int} (hn : y.Nodup) {v : Int} {p : Nat} (h : y[p]? = some v) : placeF y v = p := by
 have hi := idxOf_at hn h
 rw [placeF]
 cases hf : y.findIdx? (fun x => decide (x = v)) with
 | none =>
  have := List.findIdx?_eq_none_iff.1 hf v (List.mem_of_getElem? h)
  simp at this
 | some k =>
  obtain ⟨hk, hk2, _⟩ := List.findIdx?_eq_some_iff_getElem.1 hf
  have hv : y[k] = v := by simpa using hk2
  have := idxOf_at hn (k := k) (v := v) (by rw [List.getElem?_eq_getElem hk, hv])
  rw [idxI]; omega
theorem placeF_no {y : List Int} {v : Int} (h : v ∉ y) : placeF y v = -1 := by
 rw [placeF, findIdx_no]
 ·rfl
 ·intro j z hz
  simp only [decide_eq_false_iff_not]
  rintro rfl
  exact h (List.mem_of_getElem? hz)
theorem Lies.placeF {ls : List (List Int)} (hn : ls.flatten.Nodup) {v : Int} {r p i : Nat} {y : List Int} (h : Lies ls v r p) (hy : ls[i]? = some y) : Go.Proofs.Ytldbcbclhpcofaa.placeF y v = if r = i then (p : Int) else -1 := by
 by_cases c : r = i
 ·subst c
  rw [if_pos rfl]
  obtain ⟨z, h1, h2⟩ := h
  rw [hy] at h1; cases h1
  exact placeF_at ((List.pairwise_flatten.1 hn).1 y (List.mem_of_getElem? hy)) h2
 ·rw [if_neg c]
  refine placeF_no fun hv => ?_
  obtain ⟨q, hq⟩ := List.getElem?_of_mem hv
  exact c (h.layer hn ⟨y, hy, hq⟩)
theorem pairOf_joins {ls : List (List Int)} (hn : ls.flatten.Nodup) {x : Arc} {r p q i : Nat} {y z : List Int} (h : Joins ls x r p q) (hy : ls[i]? = some y) (hz : ls[i + 1]? = some z) : pairOf y z x = if r = i then [((p : Int), (q : Int))] else [] := by
 rw [pairOf, h.up.placeF hn hy, h.dn.placeF hn hz]
 by_cases c : r = i
 ·simp [c]
 ·simp [c]
theorem Joins.lt {ls : List (List Int)} {x : Arc} {r p q : Nat} (h : Joins ls x r p q) {y z : List Int} (hy : ls[r]? = some y) (hz : ls[r + 1]? = some z) : p < y.length ∧ q < z.length := by
 obtain ⟨⟨u, h1, h2⟩, ⟨v, h3, h4⟩⟩ := h
 rw [hy] at h1; cases h1
 rw [hz] at h3; cases h3
 exact ⟨(List.getElem?_eq_some_iff.1 h2).1, (List.getElem?_eq_some_iff.1 h4).1⟩
section valid
variable {ls : List (List Int)} {ar : List Arc} (hn : ls.flatten.Nodup) (hj : ∀ x, x ∈ ar → ∃ r p q, Joins ls x r p q) {i : Nat} {y z : List Int} (hy : ls[i]? = some y) (hz : ls[i + 1]? = some z)
include hn hj hy hz
theorem pairs_in : ∀ e, e ∈ pairsF y z ar → 0 ≤ e.1 ∧ e.1 < y.length ∧ 0 ≤ e.2 ∧ e.2 < z.length := by
 intro e he
 obtain ⟨x, hx, he⟩ := List.mem_flatMap.1 he
 obtain ⟨r, p, q, h⟩ := hj x hx
 rw [pairOf_joins hn h hy hz] at he
 split at he
 ·rename_i c
  subst c
  have := h.lt hy hz
  rw [List.mem_singleton] at he
  subst he
  dsimp only; omega
 ·cases he
theorem ends_down (p' : Nat) : endsN ls ar i ((i : Int) + 1) ar.length p' = ((pairsF y z ar).filter fun e : Pr => decide (e.1 = (p' : Int))).map (·.2) := by
 rw [endsN, List.take_length]
 induction ar with
 | nil => rfl
 | cons x ar ih =>
  obtain ⟨r, p, q, h⟩ := hj x (by simp)
  rw [List.flatMap_cons, ih (fun w hw => hj w (List.mem_cons_of_mem _ hw))]
  have e : pairsF y z (x :: ar) = pairOf y z x ++ pairsF y z ar := by simp [pairsF]
  rw [e, List.filter_append, List.map_append]
  congr 1
  rw [pairOf_joins hn h hy hz, endsAt, h.up.ly hn, h.dn.ly hn, h.up.pl hn, h.dn.pl hn]
  by_cases c : r = i
  ·subst c
   rw [if_pos ⟨rfl, by omega⟩, if_pos rfl]
   by_cases c2 : (p : Int) = p'
   ·simp [c2]
   ·simp [c2]
  ·rw [if_neg (by omega), if_neg (by omega), if_neg c]; rfl
end valid
end Go.Proofs.Ytldbcbclhpcofaa
namespace Go.Proofs.Ytldbcbclhpcofaa
open Go Go.PS Go.Proofs

theorem ind_zero {p : Prop} [Decidable p] (h : ¬ p) : ind p = 0 := by simp [ind, h]
theorem ind_one {p : Prop} [Decidable p] (h : p) : ind p = 1 := by simp [ind, h]
theorem ind_congr {p q : Prop} [Decidable p] [Decidable q] (h : p ↔ q) : ind p = ind q := by
 by_cases hp : p
 ·rw [ind_one hp, ind_one (h.1 hp)]
 ·rw [ind_zero hp, ind_zero fun hq => hp (h.2 hq)]
theorem tri_sum (own other : Pr → Int) (P : List Pr) (n : Nat) (hin : ∀ e, e ∈ P → 0 ≤ own e ∧ own e < n) :
  sumZ (fun A => sumZ (fun B => W (fun x y => ind (own x = (B : Int) ∧ own y = (A : Int) ∧ other y < other x)) P P) A) n = W (fun x y => ind (own x < own y ∧ other y < other x)) P P := by
 simp only [W_sum]
 refine W_congr fun x hx y hy => ?_
 have h1 := hin x hx
 have h2 := hin y hy
 have hA : ∀ A : Nat, sumZ (fun B : Nat => ind (own x = (B : Int) ∧ own y = (A : Int) ∧ other y < other x)) A = ind (own x < A ∧ own y = (A : Int) ∧ other y < other x) := fun A => by
  rw [sum_one (own x) _ A fun k hk => ind_zero fun h => hk h.1.symm]
  by_cases c : own x < A
  ·rw [if_pos ⟨h1.1, c⟩]
   refine ind_congr ?_
   constructor
   ·rintro ⟨_, h⟩; exact ⟨c, h⟩
   ·rintro ⟨_, h⟩; exact ⟨by omega, h⟩
  ·rw [if_neg (fun h => c h.2), ind_zero fun h => c h.1]
 simp only [hA]
 rw [sum_one (own y) _ n fun k hk => ind_zero fun h => hk h.2.1.symm, if_pos h2]
 refine ind_congr ?_
 constructor
 ·rintro ⟨h, _, h'⟩; exact ⟨by omega, h'⟩
 ·rintro ⟨h, h'⟩; exact ⟨by omega, by omega, h'⟩
theorem lstN_map (f : Nat → List Int) {n k : Nat} (h : k < n) : lstN ((List.range n).map f) k = f k := by simp [lstN, h]
theorem cellAt_mat {E : List (List Int)} {u v : Nat} (hu : u < E.length) (hv : v < E.length) : cellAt (matF E) u v = cellF E u v := by
 rw [cellAt, matF, lstN_map _ hu, at0, Int.toNat_natCast]
 simp [hv]
structure Near (a : Lv) (i : Nat) (y z : List Int) : Prop where
 ok : validF a = true
 hy : a.2.1[i]? = some y
 hz : a.2.1[i + 1]? = some z
namespace Near
variable {a : Lv} {i : Nat} {y z : List Int}
theorem joins (h : Near a i y z) : ∀ x, x ∈ a.2.2.1 → ∃ r p q, Joins a.2.1 x r p q := fun x hx => by
 obtain ⟨k, hk⟩ := List.getElem?_of_mem hx
 exact valid_joins h.ok hk
theorem lt (h : Near a i y z) : i + 1 < a.2.1.length := (List.getElem?_eq_some_iff.1 h.hz).1
theorem ins (h : Near a i y z) : ∀ e, e ∈ pairsF y z a.2.2.1 → 0 ≤ e.1 ∧ e.1 < y.length ∧ 0 ≤ e.2 ∧ e.2 < z.length := pairs_in (valid_nodup h.ok) h.joins h.hy h.hz
theorem matD (h : Near a i y z) : MatrixF a i ((i : Int) + 1) = matF (endsF a.2.1 a.2.2.1 i ((i : Int) + 1) y.length) := by
 have hl := h.lt
 have hok : matOk a i ((i : Int) + 1) = true := by
  simp [matOk, h.ok]; omega
 rw [MatrixF, if_pos hok, lenAt, Int.toNat_natCast, h.hy]; rfl
theorem lenD (h : Near a i y z) : (MatrixF a i ((i : Int) + 1)).length = y.length := by rw [h.matD]; simp [matF, endsF]
theorem cellD (h : Near a i y z) {u v : Nat} (hu : u < y.length) (hv : v < y.length) : cellAt (MatrixF a i ((i : Int) + 1)) u v = if u = v then 0 else W (fun x w => ind (x.1 = (u : Int) ∧ w.1 = (v : Int) ∧ w.2 < x.2)) (pairsF y z a.2.2.1) (pairsF y z a.2.2.1) := by
 rw [h.matD, cellAt_mat (by simpa [endsF] using hu) (by simpa [endsF] using hv), cellF]
 split
 ·rfl
 ·rw [endsF, lstN_map _ hu, lstN_map _ hv, ends_down (valid_nodup h.ok) h.joins h.hy h.hz, ends_down (valid_nodup h.ok) h.joins h.hy h.hz, behind_W]
  simp only [decide_eq_true_eq]
abbrev cr (_ : Near a i y z) : Int := W (fun x w => ind (x.1 < w.1 ∧ w.2 < x.2)) (pairsF y z a.2.2.1) (pairsF y z a.2.2.1)
theorem between (h : Near a i y z) : BetweenF a i = h.cr := by
 have hl := h.lt
 rw [BetweenF, if_neg (by simp only [noPair, decide_eq_true_eq]; omega), triF, h.lenD]
 rw [sumZ_congr (g := fun A => sumZ (fun B => W (fun x w => ind (x.1 = (B : Int) ∧ w.1 = (A : Int) ∧ w.2 < x.2)) (pairsF y z a.2.2.1) (pairsF y z a.2.2.1)) A) _ fun A hA => sumZ_congr _ fun B hB => by rw [h.cellD (by omega) hA, if_neg (by omega)]]
 exact tri_sum (fun e => e.1) (fun e => e.2) _ _ fun e he => ⟨(h.ins e he).1, (h.ins e he).2.1⟩
theorem rbetween (h : Near a i y z) : rBetweenF a i = h.cr := by
 have hl := h.lt
 rw [rBetweenF, if_neg (by rw [h.ok]; simp; omega), Int.toNat_natCast, lstN, lstN, h.hy, h.hz, Option.getD_some, Option.getD_some, cross_W]
end Near
namespace Near
variable {a : Lv} {i : Nat} {y z : List Int}
end Near
theorem near_of {a : Lv} (h : validF a = true) {i : Nat} (hi : i + 1 < a.2.1.length) : ∃ y z, Near a i y z := by
 obtain ⟨y, hy⟩ := get_some (l := a.2.1) (k := i) (by omega)
 obtain ⟨z, hz⟩ := get_some hi
 exact ⟨y, z, h, hy, hz⟩
theorem between_same (a : Lv) (i : Int) : BetweenF a i = rBetweenF a i := by
 rcases h : validF a with _ | _
 ·have hm : MatrixF a i (i + 1) = [] := by rw [MatrixF, if_neg (by simp [matOk, h])]
  have e2 : rBetweenF a i = 0 := by rw [rBetweenF, if_pos (.inl h)]
  rw [e2, BetweenF, hm]
  split <;> rfl
 ·by_cases c : 0 ≤ i ∧ i + 1 < a.2.1.length
  ·obtain ⟨n, rfl⟩ : ∃ n : Nat, i = n := ⟨i.toNat, by omega⟩
   obtain ⟨y, z, hn⟩ := near_of h (i := n) (by omega)
   rw [hn.between, hn.rbetween]
  ·rw [rBetweenF, if_pos (by rw [h]; simp; omega)]
   rw [BetweenF]
   split
   ·rfl
   ·rename_i h2
    simp only [noPair, decide_eq_true_eq] at h2
    omega
theorem total_same (a : Lv) : TotalF a = rTotalF a := sumZ_congr _ fun i _ => between_same a i
end Go.Proofs.Ytldbcbclhpcofaa
namespace Go.Proofs.Ytldbcbclhpcofaa
open Go Go.PS Go.Proofs
set_option maxRecDepth 100000
attribute [local irreducible] wpRun wpG CallsTo CallsM

end Go.Proofs.Ytldbcbclhpcofaa
namespace Go.Proofs.Ytldbcbclhpcofaa
open Go Go.PS Go.Proofs
set_option maxRecDepth 100000
attribute [local irreducible] wpRun wpG CallsTo CallsM

def cxL : Lv := (4, [[0, 1], [2, 3]], [(0, 3), (1, 2)], [[0, 3], [1, 2]])
def cxK : Lv := (4, [[0, 1], [3, 2]], [(0, 3), (1, 2)], [[0, 3], [1, 2]])
theorem cxL_valid : validF cxL = true := by
 simp only [validF, sortLv, cxL, List.map_cons, List.map_nil, ← insN_eq]
 decide +kernel
theorem cxK_valid : validF cxK = true := by
 simp only [validF, sortLv, cxK, List.map_cons, List.map_nil, ← insN_eq]
 decide +kernel
theorem cx2 : TotalF cxL = 1 := by simp only [TotalF, BetweenF, MatrixF, matOk, cxL_valid]; decide +kernel
theorem cx3 : TotalF cxK = 0 := by simp only [TotalF, BetweenF, MatrixF, matOk, cxK_valid]; decide +kernel
end Go.Proofs.Ytldbcbclhpcofaa
namespace Go.Proofs.Ytldbcbclhpcofaa
open Go Go.PS Go.Proofs

theorem sortL_congr {l m : List Int} (h : l.Perm m) : sortL l = sortL m :=
 List.Perm.eq_of_pairwise (le := (· ≤ ·)) (fun a b _ _ h1 h2 => Int.le_antisymm h1 h2) (sortL_sorted l) (sortL_sorted m) ((sortL_perm l).trans (h.trans (sortL_perm m).symm))
namespace Near
variable {a : Lv} {i : Nat} {y z : List Int}
end Near
namespace Near
variable {a : Lv} {i k : Nat} {y z : List Int}
end Near
end Go.Proofs.Ytldbcbclhpcofaa
namespace Go.Proofs.Ytldbcbclhpcofaa
open Go Go.PS Go.Proofs
set_option maxRecDepth 100000
attribute [local irreducible] wpRun wpG CallsTo CallsM

section acc
variable {own oth : Pr → Int} {E : List Pr} {u v : Nat} {p q : Pr}
end acc
end Go.Proofs.Ytldbcbclhpcofaa
namespace Go.Proofs.Ytldbcbclhpcofaa
open Go Go.PS Go.Proofs
set_option maxRecDepth 100000
attribute [local irreducible] wpRun wpG CallsTo CallsM

end Go.Proofs.Ytldbcbclhpcofaa
namespace Go.Proofs.Ytldbcbclhpcofaa
open Go Go.PS Go.Proofs
open Go.Bd (sumC sumC_add sumC_zero sumC_hit)

end Go.Proofs.Ytldbcbclhpcofaa
namespace Go.Proofs.Ytldbcbclhpcofaa
open Go Go.PS Go.Proofs
open Go.Bd (sumC Part full)

def permL (y : List Int) (o : List Nat) : List Int := o.map fun k => (y[k]?).getD 0
theorem permL_at {y : List Int} {o : List Nat} {p : Nat} {v : Int} (hp : p ∈ o) (h : y[p]? = some v) : (permL y o)[o.idxOf p]? = some v := by
 have hl := List.idxOf_lt_length_iff.2 hp
 have hg : o[o.idxOf p]? = some p := by
  rw [List.getElem?_eq_getElem hl, List.getElem_idxOf]
 rw [permL, List.getElem?_map, hg, Option.map_some, h]; rfl
theorem permL_mem {y : List Int} {o : List Nat} (h : Part y.length 0 o) {v : Int} : v ∈ permL y o ↔ v ∈ y := by
 constructor
 ·intro hv
  obtain ⟨k, hk, rfl⟩ := List.mem_map.1 hv
  have := h.lt k hk
  rw [List.getElem?_eq_getElem this]
  exact List.getElem_mem this
 ·intro hv
  obtain ⟨p, hp⟩ := List.getElem?_of_mem hv
  have hlt := (List.getElem?_eq_some_iff.1 hp).1
  have := permL_at (full y.length h.nd h.lt (by have := h.len; omega) p hlt) hp
  exact List.mem_of_getElem? this
theorem permL_nodup {y : List Int} {o : List Nat} (hy : y.Nodup) (h : Part y.length 0 o) : (permL y o).Nodup := by
 refine List.pairwise_map.2 (h.nd.imp_of_mem fun {a b} ha hb hne he => hne ?_)
 have h1 := h.lt a ha
 have h2 := h.lt b hb
 rw [List.getElem?_eq_getElem h1, List.getElem?_eq_getElem h2] at he
 exact (List.getElem_inj hy).1 he
end Go.Proofs.Ytldbcbclhpcofaa
namespace Go.Proofs.Ytldbcbclhpcofaa
open Go Go.PS Go.Proofs
open Go.Bd (sumC sumC_add sumC_zero Part full)

def putL (a : Lv) (i : Nat) (y : List Int) : Lv := (a.1, a.2.1.set i y, a.2.2.1, a.2.2.2)
end Go.Proofs.Ytldbcbclhpcofaa
namespace Go.Proofs.Ytldbcbclhpcofaa
open Go Go.PS Go.Proofs
set_option maxRecDepth 100000
theorem cells_int {n : Nat} {cs : List D} (h : CellsOk Try.prog (n + 1) 3 cs) : ∃ m : Int, cs = [.int m] := by
 have hu : Try.prog.underlying 3 = some (.int .i64) := by kernel_rfl
 simp only [CellsOk, hu] at h
 obtain ⟨m, rfl, _⟩ := h
 exact ⟨m, rfl⟩
theorem arg_int {x : D} (h : ArgOk Try.prog 3 x) : ∃ m : Int, x = .int m := by
 obtain ⟨cs, h, rfl⟩ := h
 obtain ⟨m, rfl⟩ := cells_int h
 rw [ty3]
 exact ⟨m, rfl⟩
theorem cells_arc {n : Nat} {cs : List D} (h : CellsOk Try.prog (n + 2) 42 cs) : ∃ p : Arc, cs = [.int p.1, .int p.2] := by
 have h := cells_struct (ts := [3, 3]) (by kernel_rfl) h
 obtain ⟨p, r, rfl, hp, q, r', rfl, hq, rfl⟩ := h
 obtain ⟨a, rfl⟩ := cells_int hp
 obtain ⟨b, rfl⟩ := cells_int hq
 exact ⟨(a, b), rfl⟩
theorem cells_arcs {n : Nat} {cs : List D} (h : CellsOk Try.prog (n + 3) 27 cs) : ∃ l : List Arc, cs = [arcsD l] := by
 obtain ⟨l, rfl, hl⟩ := cells_slice (e := 42) (by kernel_rfl) h
 obtain ⟨ys, rfl⟩ := map_of (f := arcD) (l := l) (fun d hd => by
  obtain ⟨es, rfl, _, he⟩ := hl d hd
  obtain ⟨p, rfl⟩ := cells_arc he
  rw [ty42]; exact ⟨p, rfl⟩)
 exact ⟨ys, rfl⟩
theorem cells_ints {n : Nat} {cs : List D} (h : CellsOk Try.prog (n + 2) 22 cs) : ∃ l : List Int, cs = [intsD l] ∧ l.length * 8 ≤ 140737488351232 := by
 obtain ⟨l, rfl, hb, hl⟩ := cells_sliceS (e := 3) (by kernel_rfl) h
 obtain ⟨ys, rfl⟩ := map_of (f := D.int) (l := l) (fun d hd => by
  obtain ⟨es, rfl, _, he⟩ := hl d hd
  obtain ⟨p, rfl⟩ := cells_int he
  rw [ty3]; exact ⟨p, rfl⟩)
 refine ⟨ys, rfl, ?_⟩
 have hb3 : Try.prog.bytesOf 3 = 8 := by kernel_rfl
 rw [hb3, List.length_map] at hb
 exact hb
theorem map_of2 {α : Type} {f : α → D} {p : α → Prop} : ∀ {l : List D}, (∀ d ∈ l, ∃ a, d = f a ∧ p a) → ∃ ys : List α, l = ys.map f ∧ ∀ y ∈ ys, p y
 | [], _ => ⟨[], rfl, fun y hy => by cases hy⟩
 | d :: l, h => by
  obtain ⟨a, rfl, ha⟩ := h d (by simp)
  obtain ⟨ys, rfl, hy⟩ := map_of2 (l := l) (fun e he => h e (List.mem_cons_of_mem _ he))
  refine ⟨a :: ys, rfl, fun y hy2 => ?_⟩
  rcases List.mem_cons.1 hy2 with rfl | hy2
  ·exact ha
  ·exact hy y hy2
theorem cells_lists {n : Nat} {cs : List D} (h : CellsOk Try.prog (n + 3) 26 cs) : ∃ l : List (List Int), cs = [listsD l] ∧ ∀ y ∈ l, y.length * 8 ≤ 140737488351232 := by
 obtain ⟨l, rfl, hl⟩ := cells_slice (e := 22) (by kernel_rfl) h
 obtain ⟨ys, rfl, hy⟩ := map_of2 (f := intsD) (p := fun y => y.length * 8 ≤ 140737488351232) (l := l) (fun d hd => by
  obtain ⟨es, rfl, _, he⟩ := hl d hd
  obtain ⟨p, rfl, hp⟩ := cells_ints he
  rw [ty22]; exact ⟨p, rfl, hp⟩)
 exact ⟨ys, rfl, hy⟩
theorem arg_ints {x : D} (h : ArgOk Try.prog 22 x) : ∃ l : List Int, x = intsD l := by
 obtain ⟨cs, h, rfl⟩ := h
 obtain ⟨l, rfl, _⟩ := cells_ints h
 rw [ty22]; exact ⟨l, rfl⟩
theorem arg_lv {x : D} (h : ArgOk Try.prog 29 x) : ∃ a : {a : Lv // wide a}, x = lvD a.1 := by
 obtain ⟨cs, h, rfl⟩ := h
 have h := cells_struct (ts := [3, 26, 27, 26]) (by kernel_rfl) h
 obtain ⟨_, _, rfl, h1, _, _, rfl, h2, _, _, rfl, h3, _, _, rfl, h4, rfl⟩ := h
 obtain ⟨a, rfl⟩ := cells_int h1
 obtain ⟨b, rfl, hb⟩ := cells_lists h2
 obtain ⟨c, rfl⟩ := cells_arcs h3
 obtain ⟨d, rfl, _⟩ := cells_lists h4
 rw [ty29]
 exact ⟨⟨(a, b, c, d), hb⟩, rfl⟩
end Go.Proofs.Ytldbcbclhpcofaa
namespace Go.Proofs.Ytldbcbclhpcofaa
open Go Go.PS Go.Proofs
open Go.Bd (sm sumC Small)
set_option maxRecDepth 100000
attribute [local irreducible] wpRun wpG CallsTo CallsM

abbrev natD (v : Nat) : D := .int (v : Int)
theorem placeF_mem (l : List Int) (v : Int) : decide (0 ≤ placeF l v) = decide (v ∈ l) := by
 rw [placeF_iff, Bool.eq_iff_iff, List.any_eq_true]
 simp
theorem Sq.small {m : List (List Int)} (h : Sq m) : Small (cellAt m) m.length := fun u v hu hv => by
 obtain ⟨p, _, _, _, g1, g2⟩ := h.get hu hv
 exact ⟨g1, g2⟩
end Go.Proofs.Ytldbcbclhpcofaa
namespace Go.Proofs.Ytldbcbclhpcofaa
open Go Go.PS Go.Proofs
open Go.Bd (sm sumC Small low Part bestF foldB better)
set_option maxRecDepth 100000
attribute [local irreducible] wpRun wpG CallsTo CallsM

end Go.Proofs.Ytldbcbclhpcofaa
namespace Go.Proofs.Ytldbcbclhpcofaa
open Go Go.PS Go.Proofs
open Go.Bd (sm sumC Small low Part bestF foldB better)
set_option maxRecDepth 100000
attribute [local irreducible] wpRun wpG CallsTo CallsM

end Go.Proofs.Ytldbcbclhpcofaa
namespace Go.Proofs.Ytldbcbclhpcofaa
open Go Go.PS Go.Proofs
open Go.Bd (sm sumC Small low Part bestF foldB better extF foldE more less shut)
set_option maxRecDepth 100000
attribute [local irreducible] wpRun wpG CallsTo CallsM

structure ExtIn (m : List (List Int)) (l : List Nat) (st : Option (List Nat × Int)) (cost rest : Int) : Prop where
 len : ∀ s, st = some s → s.1.length = m.length
 pos : 0 < m.length ∨ st = none
 c0 : 0 ≤ cost
 c1 : cost ≤ 8000000 * l.length
 r0 : -8000000 * l.length ≤ rest
 r1 : rest ≤ 64000000
end Go.Proofs.Ytldbcbclhpcofaa
namespace Go.Proofs.Ytldbcbclhpcofaa
open Go Go.PS Go.Proofs
open Go.Bd (sm sumC Small low Part bestF foldB better extF foldE more less shut)
set_option maxRecDepth 100000
attribute [local irreducible] wpRun wpG CallsTo CallsM

end Go.Proofs.Ytldbcbclhpcofaa
namespace Go.Proofs.Ytldbcbclhpcofaa
open Go Go.PS Go.Proofs
open Go.Bd (sm sumC Small low Part bestF foldB better extF foldE more less shut fixC)
set_option maxRecDepth 100000
attribute [local irreducible] wpRun wpG CallsTo CallsM

end Go.Proofs.Ytldbcbclhpcofaa
namespace Go.Proofs.Ytldbcbclhpcofaa
open Go Go.PS Go.Proofs
open Go.Bd (ix invF invN comN refN refB)
set_option maxRecDepth 100000
attribute [local irreducible] wpRun wpG CallsTo CallsM

end Go.Proofs.Ytldbcbclhpcofaa
namespace Go.Proofs.Ytldbcbclhpcofaa
open Go Go.PS Go.Proofs
open Go.Bd (ix invF invN comN refN refB)
set_option maxRecDepth 100000
attribute [local irreducible] wpRun wpG CallsTo CallsM

theorem lstN_at {l : List (List Int)} {k : Nat} {y : List Int} (h : l[k]? = some y) : lstN l k = y := by rw [lstN, h]; rfl
theorem lstN_out {l : List (List Int)} {k : Nat} (h : l.length ≤ k) : lstN l k = [] := by rw [lstN, List.getElem?_eq_none h]; rfl
def okW (a : Lv) (w : Int) : Bool := validF a && decide (0 ≤ w ∧ w ≤ 1000)
def invS (a : Lv) (old : List (List Int)) (k : Nat) : Int := sumZ (fun i => (invF (lstN old i) (lstN a.2.1 i) : Int)) k
def costF (a : Lv) (old : List (List Int)) (w : Int) : Int := if okW a w then TotalF a + w * invS a old a.2.1.length else -1
theorem layer_le {a : Lv} (h : validF a = true) (k : Nat) : (lstN a.2.1 k).length ≤ 512 := by
 obtain ⟨t1, t2⟩ := lv_le h
 rcases Nat.lt_or_ge k a.2.1.length with hlt | hge
 ·obtain ⟨y, hy⟩ := get_some hlt
  rw [lstN_at hy]
  have := tot_mem (List.mem_of_getElem? hy)
  omega
 ·rw [lstN_out hge]; simp
end Go.Proofs.Ytldbcbclhpcofaa
namespace Go.Proofs.Ytldbcbclhpcofaa
open Go Go.PS Go.Proofs
open Go.Bd (ix invF invN comN refN refB)
set_option maxRecDepth 100000
attribute [local irreducible] wpRun wpG CallsTo CallsM

def rowG (g : Nat → Int) (n : Nat) : List Int := (List.range n).map g
def mixR (f g : Nat → Int) (n b : Nat) : List Int := rowG (fun v => if v < b then g v else f v) n
theorem rowG_len (g : Nat → Int) (n : Nat) : (rowG g n).length = n := by simp [rowG]
theorem rowG_get {g : Nat → Int} {n v : Nat} (h : v < n) : (rowG g n)[v]? = some (g v) := by simp [rowG, h]
theorem rowG_congr {f g : Nat → Int} {n : Nat} (h : ∀ v, v < n → f v = g v) : rowG f n = rowG g n := List.map_congr_left fun v hv => h v (List.mem_range.1 hv)
theorem mixR_len (f g : Nat → Int) (n b : Nat) : (mixR f g n b).length = n := rowG_len _ _
theorem mixR_zero (f g : Nat → Int) (n : Nat) : mixR f g n 0 = rowG f n := rowG_congr fun v _ => if_neg (by omega)
theorem mixR_full (f g : Nat → Int) (n : Nat) : mixR f g n n = rowG g n := rowG_congr fun v hv => if_pos hv
theorem mixR_get {f g : Nat → Int} {n b : Nat} (h : b < n) : (mixR f g n b)[b]? = some (f b) := by rw [mixR, rowG_get h, if_neg (by omega)]
theorem mixR_step {f g : Nat → Int} {n b : Nat} (h : b < n) : (mixR f g n b).set b (g b) = mixR f g n (b + 1) := by
 refine List.ext_getElem? fun v => ?_
 rw [List.getElem?_set, mixR_len]
 by_cases c : b = v
 ·subst c
  rw [if_pos rfl, if_pos h, mixR, rowG_get h, if_pos (by omega)]
 ·rw [if_neg c]
  by_cases c2 : v < n
  ·rw [mixR, mixR, rowG_get c2, rowG_get c2]
   by_cases c3 : v < b
   ·rw [if_pos c3, if_pos (by omega)]
   ·rw [if_neg c3, if_neg (by omega)]
  ·rw [List.getElem?_eq_none (by rw [mixR_len]; omega), List.getElem?_eq_none (by rw [mixR_len]; omega)]
theorem rowG_zero (n : Nat) : List.replicate n (D.int 0) = (rowG (fun _ => 0) n).map D.int := by
 rw [rowG, List.map_map]
 refine List.ext_getElem? fun v => ?_
 by_cases c : v < n <;> simp [List.getElem?_replicate, c]
end Go.Proofs.Ytldbcbclhpcofaa
namespace Go.Proofs.Ytldbcbclhpcofaa
open Go Go.PS Go.Proofs
open Go.Bd (ix invF invN comN refN refB)
set_option maxRecDepth 100000
attribute [local irreducible] wpRun wpG CallsTo CallsM

end Go.Proofs.Ytldbcbclhpcofaa
namespace Go.Proofs.Ytldbcbclhpcofaa
open Go Go.PS Go.Proofs
open Go.Bd (ix invF invN comN refN refB)
set_option maxRecDepth 100000
attribute [local irreducible] wpRun wpG CallsTo CallsM

theorem rowG_succ (g : Nat → Int) (b : Nat) : rowG g (b + 1) = rowG g b ++ [g b] := by rw [rowG, List.range_succ, List.map_append]; rfl
end Go.Proofs.Ytldbcbclhpcofaa
namespace Go.Proofs.Ytldbcbclhpcofaa
open Go Go.PS Go.Proofs
open Go.Bd (ix invF invN comN sumC sumC_add sumC_mul invC Part bestF)

theorem layer_nodup {a : Lv} (hv : validF a = true) {i : Nat} {y : List Int} (hy : a.2.1[i]? = some y) : y.Nodup :=
 (List.pairwise_flatten.1 (valid_nodup hv)).1 y (List.mem_of_getElem? hy)
theorem permL_perm {y : List Int} {o : List Nat} (hn : y.Nodup) (ho : Part y.length 0 o) : (permL y o).Perm y :=
 (List.perm_ext_iff_of_nodup (permL_nodup hn ho) hn).2 fun _ => permL_mem ho
end Go.Proofs.Ytldbcbclhpcofaa
namespace Go.Proofs.Ytldbcbclhpcofaa
open Go Go.PS Go.Proofs
open Go.Bd (sm ix invF invN comN sumC Part bestF)
set_option maxRecDepth 100000
attribute [local irreducible] wpRun wpG CallsTo CallsM

theorem cloneO_spec (l : List Int) (hn : l.length ≤ 1000000) : CallsM Try.prog 45 [.d (intsD l)] [(2000, .dead)] (.ref 2000 1 0 l.length l.length) [(2000, .row 1 (l.map D.int))] := by
 rcases Decidable.em (l = []) with rfl | hl
 ·refine callsM_of Try.func45 rfl (by decide +kernel) (Nat.le_of_ble_eq_true rfl) rfl (nodup_of rfl) rfl rfl rfl ?_
  intro B X w0
  refine pw_post ?_
  repeat' first | refine pw_seq ?_ | refine pw_skip ?_ | refine pw_ret ?_ | refine pw_exit ?_ | refine pw_block ?_ | refine pw_region (fun _ => false) hmix ?_ | (refine wpG_split rfl rfl (fun hc => ?_) (fun hc => ?_) <;> try simp only [hcL, reduceCtorEq] at hc) | (refine pw_cond _ rfl rfl (fun hc => ?_) (fun hc => ?_) <;> (try simp only [hcL, reduceCtorEq] at hc) <;> try (exfalso; omega)) | simp (maxSteps := 1000000) (disch := omega) only [go_sem, simprocAttr] | apply And.intro | omega | decide +kernel
  refine pw_anyb 4 rfl ?_
  intro b
  cases b
  ·repeat' first | refine pw_seq ?_ | refine pw_skip ?_ | refine pw_ret ?_ | refine pw_exit ?_ | refine pw_block ?_ | refine pw_region (Nat.beq 5) hmix ?_ | (refine wpG_split rfl rfl (fun hc => ?_) (fun hc => ?_) <;> try simp only [hcL, reduceCtorEq] at hc) | (refine pw_cond _ rfl rfl (fun hc => ?_) (fun hc => ?_) <;> (try simp only [hcL, reduceCtorEq] at hc) <;> try (exfalso; omega)) | simp (maxSteps := 1000000) (disch := omega) only [go_sem, simprocAttr, roomy] | apply And.intro | omega | decide +kernel
   refine ⟨_, entL_iff.1 (eL [(2000, 7)] [(2, .ref 2000 1 0 0 0)] [(2000, .row 1 [])] (by refine ⟨?_, ?_⟩ <;> (repeat' first | exact List.forall_mem_nil _ | refine List.forall_mem_cons.2 ⟨(by first | rfl | (simp (disch := omega) only [go_sem, simprocAttr, inL]; first | done | omega | (congr 1; done))), ?_⟩); done)), ?_⟩
   exact ⟨rfl, List.forall_mem_cons.2 ⟨rfl, List.forall_mem_nil _⟩⟩
  ·repeat' first | refine pw_seq ?_ | refine pw_skip ?_ | refine pw_ret ?_ | refine pw_exit ?_ | refine pw_block ?_ | refine pw_region (fun _ => false) hmix ?_ | (refine wpG_split rfl rfl (fun hc => ?_) (fun hc => ?_) <;> try simp only [hcL, reduceCtorEq] at hc) | (refine pw_cond _ rfl rfl (fun hc => ?_) (fun hc => ?_) <;> (try simp only [hcL, reduceCtorEq] at hc) <;> try (exfalso; omega)) | simp (maxSteps := 1000000) (disch := omega) only [go_sem, simprocAttr] | apply And.intro | omega | decide +kernel
   refine ⟨_, Ent.trans (ent_nil 2 7 1 rfl rfl) (entL_iff.1 (eL [(2000, 7)] [(2, .ref 2000 1 0 0 0)] [(2000, .row 1 [])] (by constructor <;> (repeat' first | exact List.forall_mem_nil _ | refine List.forall_mem_cons.2 ⟨rfl, ?_⟩)))), ?_⟩
   exact ⟨rfl, List.forall_mem_cons.2 ⟨rfl, List.forall_mem_nil _⟩⟩
 ·have he : (l.map D.int).isEmpty = false := by simpa using hl
  have hpos : 0 < l.length := List.length_pos_iff.2 hl
  refine callsM_of Try.func45 rfl (by decide +kernel) (Nat.le_of_ble_eq_true rfl) rfl (nodup_of rfl) rfl rfl rfl ?_
  intro B X w0
  refine pw_post ?_
  repeat' first | refine pw_seq ?_ | refine pw_skip ?_ | refine pw_ret ?_ | refine pw_exit ?_ | refine pw_block ?_ | refine pw_region (Nat.beq 5) hmix ?_ | (refine wpG_split rfl rfl (fun hc => ?_) (fun hc => ?_) <;> try simp only [hcL, reduceCtorEq] at hc) | (refine pw_cond _ rfl rfl (fun hc => ?_) (fun hc => ?_) <;> (try simp only [hcL, reduceCtorEq] at hc) <;> try (exfalso; omega)) | simp (maxSteps := 1000000) (disch := omega) only [go_sem, simprocAttr, he, roomy, take_map_len] | exact one_int l | apply And.intro | omega | decide +kernel
  refine ⟨_, entL_iff.1 (eL [(2000, 7)] [(2, .ref 2000 1 0 l.length l.length)] [(2000, .row 1 (l.map D.int))] (by refine ⟨?_, ?_⟩ <;> (repeat' first | exact List.forall_mem_nil _ | refine List.forall_mem_cons.2 ⟨(by first | rfl | (simp (disch := omega) only [go_sem, simprocAttr, inL]; first | done | omega | (congr 1; done))), ?_⟩); done)), ?_⟩
  exact ⟨rfl, List.forall_mem_cons.2 ⟨rfl, List.forall_mem_nil _⟩⟩
end Go.Proofs.Ytldbcbclhpcofaa
namespace Go.Proofs.Ytldbcbclhpcofaa
open Go Go.PS Go.Proofs
open Go.Bd (sm ix invF invN comN sumC Part bestF)
set_option maxRecDepth 100000
attribute [local irreducible] wpRun wpG CallsTo CallsM

end Go.Proofs.Ytldbcbclhpcofaa
namespace Go.Proofs.Ytldbcbclhpcofaa
open Go Go.PS Go.Proofs
open Go.Bd (sm ix invF invN comN sumC Part bestF)
set_option maxRecDepth 100000
attribute [local irreducible] wpRun wpG CallsTo CallsM

end Go.Proofs.Ytldbcbclhpcofaa
namespace Go.Proofs.Ytldbcbclhpcofaa
open Go Go.PS Go.Proofs
open Go.Bd (sm ix invF invN comN sumC Part bestF)
set_option maxRecDepth 100000
attribute [local irreducible] wpRun wpG CallsTo CallsM

end Go.Proofs.Ytldbcbclhpcofaa
namespace Go.Proofs.Ytldbcbclhpcofaa
open Go Go.PS Go.Proofs
open Go.Bd (sm ix invF invN comN sumC Part bestF)
set_option maxRecDepth 100000
attribute [local irreducible] wpRun wpG CallsTo CallsM

theorem sum_nil {a : Lv} (h : validF a = true) : costF a [] 7 = TotalF a := by
 have hz : ∀ k, invS a [] k = 0 := by
  intro k
  induction k with
  | zero => rfl
  | succ k ih =>
   have s1 : invS a [] (k + 1) = invS a [] k + (invF (lstN [] k) (lstN a.2.1 k) : Int) := rfl
   have s2 : ∀ (l : List Int) i, comN [] l i = [] := by
    intro l i
    induction i with
    | zero => rfl
    | succ i ihi => rw [comN]; split <;> simp [ihi]
   have s3 : lstN [] k = [] := lstN_out (Nat.zero_le _)
   rw [s1, ih, s3, invF, s2]; rfl
 rw [costF, if_pos (by rw [okW, h]; decide), hz]; omega
end Go.Proofs.Ytldbcbclhpcofaa
namespace Go.Proofs.Ytldbcbclhpcofaa
open Go Go.PS Go.Proofs
open Go.Bd (comN comO keptF cntN)
set_option maxRecDepth 100000
attribute [local irreducible] wpRun wpG CallsTo CallsM

end Go.Proofs.Ytldbcbclhpcofaa
namespace Go.Proofs.Ytldbcbclhpcofaa
open Go Go.PS Go.Proofs
open Go.Bd (invF comN comO keptF sumC Part)

theorem reorder_perm {a : Lv} (hv : validF a = true) {i : Nat} {y z : List Int} (hy : a.2.1[i]? = some y) (hz : z.Perm y) : reorderF a i z = (putL a i z, 0) := by
 have hil := (List.getElem?_eq_some_iff.1 hy).1
 rw [reorderF, if_neg (by rw [hv]; decide), if_neg (by omega), Int.toNat_natCast, hy, Option.getD_some, if_neg (by rw [sortL_congr hz]; simp)]
 rfl
theorem perm_valid {a : Lv} (hv : validF a = true) {i : Nat} {y z : List Int} (hy : a.2.1[i]? = some y) (hz : z.Perm y) : validF (putL a i z) = true := by
 have h := reorder_perm hv hy hz
 have := reorder_valid (a := a) (i := i) (o := z) (by rw [h])
 rw [h] at this; exact this
structure Kin (a b : Lv) : Prop where
 ok : validF b = true
 wd : wide b
 len : b.2.1.length = a.2.1.length
 arcs : b.2.2.1 = a.2.2.1
 perm : ∀ k, (lstN b.2.1 k).Perm (lstN a.2.1 k)
theorem Kin.refl {a : Lv} (hv : validF a = true) (hw : wide a) : Kin a a := ⟨hv, hw, rfl, rfl, fun _ => List.Perm.refl _⟩
theorem Kin.put {a b : Lv} (h : Kin a b) {i : Nat} {y z : List Int} (hy : b.2.1[i]? = some y) (hz : z.Perm y) : Kin a (putL b i z) := by
 have hil := (List.getElem?_eq_some_iff.1 hy).1
 have hyl : y.length ≤ 512 := by have := layer_le h.ok i; rw [lstN_at hy] at this; exact this
 refine ⟨perm_valid h.ok hy hz, ?_, ?_, h.arcs, fun k => ?_⟩
 ·have := reorder_wide (a := b) (i := i) (o := z) h.wd (by have := hz.length_eq; omega)
  rw [reorder_perm h.ok hy hz] at this; exact this
 ·rw [← h.len]; exact List.length_set
 ·have hl : (putL b i z).2.1 = b.2.1.set i z := rfl
  by_cases c : k = i
  ·subst c
   have hs : lstN (b.2.1.set k z) k = z := by rw [lstN, List.getElem?_set, if_pos rfl, if_pos hil]; rfl
   rw [hl, hs]
   have := h.perm k
   rw [lstN_at hy] at this
   exact hz.trans this
  ·have : lstN (b.2.1.set i z) k = lstN b.2.1 k := by rw [lstN, lstN, List.getElem?_set, if_neg (fun h => c h.symm)]
   rw [hl, this]; exact h.perm k
theorem Kin.lay {a b : Lv} (h : Kin a b) {k : Nat} (hk : k < a.2.1.length) : b.2.1[k]? = some (lstN b.2.1 k) := by
 obtain ⟨y, hy⟩ := get_some (l := b.2.1) (k := k) (by have := h.len; omega)
 rw [lstN_at hy]; exact hy
end Go.Proofs.Ytldbcbclhpcofaa
namespace Go.Proofs.Ytldbcbclhpcofaa
open Go Go.PS Go.Proofs
set_option maxRecDepth 100000
attribute [local irreducible] wpRun wpG CallsTo CallsM

abbrev elD (v : Nat → Int) (p : Nat → List D) (k : Nat) : D := .ag [.int (v k), .sl (p k)]
theorem swap_main (v : Nat → Int) (p : Nat → List D) (g : Nat) (a b n N : Nat) (L : Nat → List Nat) (hlen : ∀ i, (L i).length = N) (hN : N ≤ 1000000) (ha : a + n ≤ N) (hb : b + n ≤ N)
  (hstep : ∀ i, i < n → ∃ u w, (L i)[a + i]? = some u ∧ (L i)[b + i]? = some w ∧ ((L i).set (a + i) w).set (b + i) u = L (i + 1)) :
  CallsM Try.prog 100 [.ref 1000 2 0 N N, .int a, .int b, .int n, .d (.fn g [])] [(1000, .row 2 ((L 0).map (elD v p)))] (.tup []) [(1000, .row 2 ((L n).map (elD v p)))] := by
 refine callsM_of Try.func100 rfl (by decide +kernel) (Nat.le_of_ble_eq_true rfl) rfl (nodup_of rfl) rfl rfl rfl ?_
 intro B X w0
 refine pw_post ?_
 repeat' first | refine pw_seq ?_ | refine pw_skip ?_ | refine pw_ret ?_ | refine pw_exit ?_ | refine pw_block ?_ | refine pw_region (fun _ => false) hmix ?_ | (refine wpG_split rfl rfl (fun hc => ?_) (fun hc => ?_) <;> try simp only [hcL, reduceCtorEq] at hc) | (refine pw_cond _ rfl rfl (fun hc => ?_) (fun hc => ?_) <;> (try simp only [hcL, reduceCtorEq] at hc) <;> try (exfalso; omega)) | simp (maxSteps := 1000000) (disch := omega) only [go_sem, simprocAttr] | apply And.intro | omega | decide +kernel
 refine pw_loopI (κ := Nat) (fun (i : Nat) => i ≤ n) (fun (i : Nat) => [(0, .ref 1000 2 0 N N), (1, .int a), (2, .int b), (3, .int n), (10, .int i)]) (fun (i : Nat) => [(1000, .row 2 ((L i).map (elD v p)))]) (fun (i : Nat) => n - i) 0 ?_ ?_ ?_
 ·exact Nat.zero_le _
 ·exact eL [] _ _ (by refine ⟨?_, ?_⟩ <;> (repeat' first | exact List.forall_mem_nil _ | refine List.forall_mem_cons.2 ⟨(by first | rfl | (simp (disch := omega) only [go_sem, simprocAttr, inL]; first | done | omega | (congr 1; done))), ?_⟩); done)
 ·intro i hi
  rcases Nat.lt_or_ge i n with hlt | hge
  ·obtain ⟨u, w, hu, hw, hs⟩ := hstep i hlt
   have hl := hlen i
   have e1 : ((a : Int) + i).toNat = a + i := by omega
   have e2 : ((b : Int) + i).toNat = b + i := by omega
   have hs2 : (((L i).map (elD v p)).set (a + i) (elD v p w)).set (b + i) (elD v p u) = (L (i + 1)).map (elD v p) := by rw [← hs, List.map_set, List.map_set]
   have hz : ((L i).set (a + i) w)[b + i]? = some w := by
    rw [List.getElem?_set]
    by_cases c : a + i = b + i
    ·rw [if_pos c, if_pos (by omega)]
    ·rw [if_neg c, hw]
   have hz2 : (((L i).map (elD v p)).set (a + i) (elD v p w))[b + i]? = some (elD v p w) := by rw [← List.map_set, List.getElem?_map, hz]; rfl
   repeat' first | refine pw_seq ?_ | refine pw_skip ?_ | refine pw_ret ?_ | refine pw_exit ?_ | refine pw_block ?_ | refine pw_region (fun _ => false) hmix ?_ | (refine wpG_split rfl rfl (fun hc => ?_) (fun hc => ?_) <;> try simp only [hcL, reduceCtorEq] at hc) | (refine pw_cond _ rfl rfl (fun hc => ?_) (fun hc => ?_) <;> (try simp only [hcL, reduceCtorEq] at hc) <;> try (exfalso; omega)) | simp (maxSteps := 1000000) (disch := omega) only [go_sem, simprocAttr, e1, e2, hu, hw, hl, List.length_set, hz2, hs2] | apply And.intro | omega | decide +kernel
   refine ⟨i + 1, ?_, eL [] _ _ (by refine ⟨?_, ?_⟩ <;> (repeat' first | exact List.forall_mem_nil _ | refine List.forall_mem_cons.2 ⟨(by first | rfl | (simp (disch := omega) only [go_sem, simprocAttr, inL, hs2]; first | done | omega | (congr 1; done))), ?_⟩); done), ?_⟩
   ·omega
   ·omega
  ·have : i = n := by omega
   subst this
   repeat' first | refine pw_seq ?_ | refine pw_skip ?_ | refine pw_ret ?_ | refine pw_exit ?_ | refine pw_block ?_ | refine pw_region (fun _ => false) hmix ?_ | (refine wpG_split rfl rfl (fun hc => ?_) (fun hc => ?_) <;> try simp only [hcL, reduceCtorEq] at hc) | (refine pw_cond _ rfl rfl (fun hc => ?_) (fun hc => ?_) <;> (try simp only [hcL, reduceCtorEq] at hc) <;> try (exfalso; omega)) | simp (maxSteps := 1000000) (disch := omega) only [go_sem, simprocAttr] | apply And.intro | omega | decide +kernel
   refine ⟨_, entL_iff.1 (eL [] [] [(1000, .row 2 ((L i).map (elD v p)))] (by refine ⟨?_, ?_⟩ <;> (repeat' first | exact List.forall_mem_nil _ | refine List.forall_mem_cons.2 ⟨(by first | rfl | (simp (disch := omega) only [go_sem, simprocAttr, inL]; first | done | omega | (congr 1; done))), ?_⟩); done)), ?_⟩
   exact ⟨⟨[], rfl, trivial⟩, fmc ⟨rfl, fmn⟩⟩
end Go.Proofs.Ytldbcbclhpcofaa
namespace Go.Proofs.Ytldbcbclhpcofaa
open Go Go.PS Go.Proofs
set_option maxRecDepth 100000
attribute [local irreducible] wpRun wpG CallsTo CallsM

theorem set_mid {α : Type} (A : List α) (u w : α) (C : List α) : (A ++ u :: C).set A.length w = A ++ w :: C := by
 rw [List.set_append, if_neg (Nat.lt_irrefl _), Nat.sub_self]; rfl
theorem get_mid {α : Type} (A : List α) (u : α) (C : List α) : (A ++ u :: C)[A.length]? = some u := by
 rw [List.getElem?_append_right (Nat.le_refl _), Nat.sub_self]; rfl
theorem drop_cons {α : Type} {l : List α} {i : Nat} {u : α} (h : l[i]? = some u) : l.drop i = u :: l.drop (i + 1) := by
 obtain ⟨hl, rfl⟩ := List.getElem?_eq_some_iff.1 h
 exact List.drop_eq_getElem_cons hl
def swN (X U Y V Z : List Nat) (i : Nat) : List Nat := X ++ V.take i ++ U.drop i ++ Y ++ U.take i ++ V.drop i ++ Z
theorem swN_step {X U Y V Z : List Nat} (h : U.length = V.length) {i : Nat} (hi : i < U.length) :
  ∃ u w, (swN X U Y V Z i)[X.length + i]? = some u ∧ (swN X U Y V Z i)[X.length + U.length + Y.length + i]? = some w ∧ ((swN X U Y V Z i).set (X.length + i) w).set (X.length + U.length + Y.length + i) u = swN X U Y V Z (i + 1) := by
 obtain ⟨u, hu⟩ := get_some hi
 obtain ⟨w, hw⟩ := get_some (l := V) (k := i) (by omega)
 have e1 : swN X U Y V Z i = (X ++ V.take i) ++ u :: ((U.drop (i + 1) ++ Y ++ U.take i) ++ w :: (V.drop (i + 1) ++ Z)) := by
  rw [swN, drop_cons hu, drop_cons hw]; simp
 have e2 : swN X U Y V Z i = ((X ++ V.take i) ++ u :: (U.drop (i + 1) ++ Y ++ U.take i)) ++ w :: (V.drop (i + 1) ++ Z) := by rw [e1]; simp
 have l1 : (X ++ V.take i).length = X.length + i := by rw [List.length_append, List.length_take]; omega
 have l2 : ((X ++ V.take i) ++ u :: (U.drop (i + 1) ++ Y ++ U.take i)).length = X.length + U.length + Y.length + i := by
  simp only [List.length_append, List.length_cons, List.length_take, List.length_drop]; omega
 have l3 : ((X ++ V.take i) ++ w :: (U.drop (i + 1) ++ Y ++ U.take i)).length = X.length + U.length + Y.length + i := by
  simp only [List.length_append, List.length_cons, List.length_take, List.length_drop]; omega
 refine ⟨u, w, ?_, ?_, ?_⟩
 ·rw [e1, ← l1]; exact get_mid _ _ _
 ·rw [e2, ← l2]; exact get_mid _ _ _
 ·rw [e1, ← l1, set_mid]
  have e3 : (X ++ V.take i) ++ w :: ((U.drop (i + 1) ++ Y ++ U.take i) ++ w :: (V.drop (i + 1) ++ Z)) = ((X ++ V.take i) ++ w :: (U.drop (i + 1) ++ Y ++ U.take i)) ++ w :: (V.drop (i + 1) ++ Z) := by simp
  rw [e3, ← l3, set_mid, swN, take_snoc hw, take_snoc hu]; simp
theorem swap_spec (v : Nat → Int) (p : Nat → List D) (g : Nat) (X U Y V Z : List Nat) (h : U.length = V.length) (N : Nat) (hN : X.length + U.length + Y.length + V.length + Z.length = N) (hN1 : N ≤ 1000000) (a b n : Int)
  (ha : a = X.length) (hb : b = (X.length + U.length + Y.length : Nat)) (hn : n = U.length) :
  CallsM Try.prog 100 [.ref 1000 2 0 N N, .int a, .int b, .int n, .d (.fn g [])] [(1000, .row 2 ((X ++ U ++ Y ++ V ++ Z).map (elD v p)))] (.tup []) [(1000, .row 2 ((X ++ V ++ Y ++ U ++ Z).map (elD v p)))] := by
 have hm := swap_main v p g X.length (X.length + U.length + Y.length) U.length N (swN X U Y V Z) (fun i => by
  rw [swN]; simp only [List.length_append, List.length_take, List.length_drop]; omega) hN1 (by omega) (by omega) (fun i hi => swN_step h hi)
 have e0 : swN X U Y V Z 0 = X ++ U ++ Y ++ V ++ Z := by rw [swN]; simp
 have e1 : swN X U Y V Z U.length = X ++ V ++ Y ++ U ++ Z := by
  rw [swN, List.take_of_length_le (l := V) (by omega), List.drop_of_length_le (l := U) (Nat.le_refl _), List.take_of_length_le (l := U) (Nat.le_refl _), List.drop_of_length_le (l := V) (by omega)]; simp
 rw [e0, e1] at hm
 rw [ha, hb, hn]
 exact hm
set_option maxHeartbeats 2000000 in
theorem rot_spec (v : Nat → Int) (p : Nat → List D) (g : Nat) (P U V Q : List Nat) (hU : 0 < U.length) (hV : 0 < V.length) (N : Nat) (hN : P.length + U.length + V.length + Q.length = N) (hN1 : N ≤ 1000000) (a m b : Int)
  (ha : a = P.length) (hm : m = (P.length + U.length : Nat)) (hb : b = (P.length + U.length + V.length : Nat)) :
  CallsM Try.prog 87 [.ref 1000 2 0 N N, .int a, .int m, .int b, .d (.fn g [])] [(1000, .row 2 ((P ++ U ++ V ++ Q).map (elD v p)))] (.tup []) [(1000, .row 2 ((P ++ V ++ U ++ Q).map (elD v p)))] := by
 subst ha hm hb
 obtain ⟨M, hM⟩ : ∃ M, M = P.length + U.length := ⟨_, rfl⟩
 obtain ⟨R, hR⟩ : ∃ R, R = P ++ V ++ U ++ Q := ⟨_, rfl⟩
 rw [← hR, ← hM]
 have d1 : ((M + V.length : Nat) : Int) - (M : Int) = V.length := by omega
 have d2 : (M : Int) - (P.length : Int) = U.length := by omega
 refine callsM_of Try.func87 rfl (by decide +kernel) (Nat.le_of_ble_eq_true rfl) rfl (nodup_of rfl) rfl rfl rfl ?_
 intro B X w0
 refine pw_post ?_
 repeat' first | refine pw_seq ?_ | refine pw_skip ?_ | refine pw_ret ?_ | refine pw_exit ?_ | refine pw_block ?_ | refine pw_region (fun _ => false) hmix ?_ | (refine wpG_split rfl rfl (fun hc => ?_) (fun hc => ?_) <;> try simp only [hcL, reduceCtorEq] at hc) | (refine pw_cond _ rfl rfl (fun hc => ?_) (fun hc => ?_) <;> (try simp only [hcL, reduceCtorEq] at hc) <;> try (exfalso; omega)) | simp (maxSteps := 1000000) (disch := omega) only [go_sem, simprocAttr, d1, d2] | apply And.intro | omega | decide +kernel
 refine pw_loopI (κ := List Nat × List Nat × List Nat × List Nat) (fun (q : List Nat × List Nat × List Nat × List Nat) => match q with | (P, U, V, Q) => 0 < U.length ∧ 0 < V.length ∧ P.length + U.length = M ∧ P.length + U.length + V.length + Q.length = N ∧ P ++ V ++ U ++ Q = R) (fun (q : List Nat × List Nat × List Nat × List Nat) => match q with | (P, U, V, Q) => [(0, .ref 1000 2 0 N N), (2, .int M), (4, .d (.fn g [])), (10, .int U.length), (11, .int V.length)]) (fun (q : List Nat × List Nat × List Nat × List Nat) => match q with | (P, U, V, Q) => [(1000, .row 2 ((P ++ U ++ V ++ Q).map (elD v p)))]) (fun (q : List Nat × List Nat × List Nat × List Nat) => match q with | (P, U, V, Q) => U.length + V.length) (P, U, V, Q) ?_ ?_ ?_
 ·exact ⟨hU, hV, hM.symm, by omega, hR.symm⟩
 ·exact eL [] _ _ (by refine ⟨?_, ?_⟩ <;> (repeat' first | exact List.forall_mem_nil _ | refine List.forall_mem_cons.2 ⟨(by first | rfl | (simp (disch := omega) only [go_sem, simprocAttr, inL]; first | done | omega | (congr 1; done))), ?_⟩); done)
 ·rintro ⟨P, U, V, Q⟩ ⟨hU, hV, hM, hN, hR⟩
  dsimp only at hU hV hM hN hR ⊢
  rcases Nat.lt_trichotomy U.length V.length with hlt | heq | hgt
  ·obtain ⟨V1, V2, rfl, hl⟩ : ∃ V1 V2, V = V1 ++ V2 ∧ V2.length = U.length := ⟨V.take (V.length - U.length), V.drop (V.length - U.length), (List.take_append_drop _ _).symm, by rw [List.length_drop]; omega⟩
   rw [List.length_append] at hlt hN
   have h1 := swap_spec v p g P U V1 V2 Q hl.symm N (by omega) hN1 ((M : Int) - (U.length : Int)) ((M : Int) + ((V1 ++ V2).length : Int) - (U.length : Int)) U.length (by omega) (by rw [List.length_append]; omega) rfl
   have e0 : P ++ U ++ (V1 ++ V2) ++ Q = P ++ U ++ V1 ++ V2 ++ Q := by simp
   have e1 : P ++ V2 ++ V1 ++ U ++ Q = P ++ V2 ++ V1 ++ (U ++ Q) := by simp
   have e2 : ((V1 ++ V2).length : Int) - (U.length : Int) = V1.length := by rw [List.length_append]; omega
   have b1 : (V1 ++ V2).length ≤ 1000000 := by rw [List.length_append]; omega
   have b2 : U.length < (V1 ++ V2).length := by rw [List.length_append]; omega
   rw [← e0] at h1
   have b3 : (V1 ++ V2).length = V1.length + V2.length := List.length_append
   generalize hVV : V1 ++ V2 = VV at *
   repeat' first | refine pw_seq ?_ | refine pw_skip ?_ | refine pw_ret ?_ | refine pw_exit ?_ | refine pw_block ?_ | refine pw_region (fun _ => false) hmix ?_ | refine rcM [] (h1) rfl ?_ | (refine wpG_split rfl rfl (fun hc => ?_) (fun hc => ?_) <;> try simp only [hcL, reduceCtorEq] at hc) | (refine pw_cond _ rfl rfl (fun hc => ?_) (fun hc => ?_) <;> (try simp only [hcL, reduceCtorEq] at hc) <;> try (exfalso; omega)) | simp (maxSteps := 1000000) (disch := omega) only [go_sem, simprocAttr] | apply And.intro | omega | decide +kernel
   refine ⟨(P, V2, V1, U ++ Q), ?_, eL [] _ _ (by refine ⟨?_, ?_⟩ <;> (repeat' first | exact List.forall_mem_nil _ | refine List.forall_mem_cons.2 ⟨(by first | rfl | (simp (disch := omega) only [go_sem, simprocAttr, inL, e1, e2, hl]; first | done | omega | (congr 1; done))), ?_⟩); done), ?_⟩
   ·dsimp only
    refine ⟨by omega, by omega, by omega, ?_, ?_⟩
    ·rw [List.length_append]; omega
    ·rw [← hR, ← hVV]; simp
   ·dsimp only; omega
  ·have h1 := swap_spec v p g P U [] V Q heq N (by simp only [List.length_nil]; omega) hN1 ((M : Int) - (V.length : Int)) M V.length (by omega) (by simp only [List.length_nil]; omega) (by omega)
   rw [List.append_nil, List.append_nil] at h1
   repeat' first | refine pw_seq ?_ | refine pw_skip ?_ | refine pw_ret ?_ | refine pw_exit ?_ | refine pw_block ?_ | refine pw_region (fun _ => false) hmix ?_ | refine rcM [] (h1) rfl ?_ | (refine wpG_split rfl rfl (fun hc => ?_) (fun hc => ?_) <;> try simp only [hcL, reduceCtorEq] at hc) | (refine pw_cond _ rfl rfl (fun hc => ?_) (fun hc => ?_) <;> (try simp only [hcL, reduceCtorEq] at hc) <;> try (exfalso; omega)) | simp (maxSteps := 1000000) (disch := omega) only [go_sem, simprocAttr, heq] | apply And.intro | omega | decide +kernel
   refine ⟨_, entL_iff.1 (eL [] [] [(1000, .row 2 ((P ++ V ++ U ++ Q).map (elD v p)))] (by refine ⟨?_, ?_⟩ <;> (repeat' first | exact List.forall_mem_nil _ | refine List.forall_mem_cons.2 ⟨(by first | rfl | (simp (disch := omega) only [go_sem, simprocAttr, inL]; first | done | omega | (congr 1; done))), ?_⟩); done)), ?_⟩
   rw [hR]
   exact ⟨⟨[], rfl, trivial⟩, fmc ⟨rfl, fmn⟩⟩
  ·obtain ⟨U1, U2, rfl, hl⟩ : ∃ U1 U2, U = U1 ++ U2 ∧ U1.length = V.length := ⟨U.take V.length, U.drop V.length, (List.take_append_drop _ _).symm, by rw [List.length_take]; omega⟩
   rw [List.length_append] at hgt hN
   have h1 := swap_spec v p g P U1 U2 V Q hl N (by omega) hN1 ((M : Int) - ((U1 ++ U2).length : Int)) M V.length (by rw [List.length_append] at hM ⊢; omega) (by rw [List.length_append] at hM; omega) (by omega)
   have e0 : P ++ (U1 ++ U2) ++ V ++ Q = P ++ U1 ++ U2 ++ V ++ Q := by simp
   have e1 : P ++ V ++ U2 ++ U1 ++ Q = (P ++ V) ++ U2 ++ U1 ++ Q := by simp
   have e2 : ((U1 ++ U2).length : Int) - (V.length : Int) = U2.length := by rw [List.length_append]; omega
   have b1 : (U1 ++ U2).length ≤ 1000000 := by rw [List.length_append]; omega
   have b2 : V.length < (U1 ++ U2).length := by rw [List.length_append]; omega
   rw [← e0] at h1
   have b3 : (U1 ++ U2).length = U1.length + U2.length := List.length_append
   generalize hUU : U1 ++ U2 = UU at *
   repeat' first | refine pw_seq ?_ | refine pw_skip ?_ | refine pw_ret ?_ | refine pw_exit ?_ | refine pw_block ?_ | refine pw_region (fun _ => false) hmix ?_ | refine rcM [] (h1) rfl ?_ | (refine wpG_split rfl rfl (fun hc => ?_) (fun hc => ?_) <;> try simp only [hcL, reduceCtorEq] at hc) | (refine pw_cond _ rfl rfl (fun hc => ?_) (fun hc => ?_) <;> (try simp only [hcL, reduceCtorEq] at hc) <;> try (exfalso; omega)) | simp (maxSteps := 1000000) (disch := omega) only [go_sem, simprocAttr] | apply And.intro | omega | decide +kernel
   refine ⟨(P ++ V, U2, U1, Q), ?_, eL [] _ _ (by refine ⟨?_, ?_⟩ <;> (repeat' first | exact List.forall_mem_nil _ | refine List.forall_mem_cons.2 ⟨(by first | rfl | (simp (disch := omega) only [go_sem, simprocAttr, inL, e1, e2, hl]; first | done | omega | (congr 1; done))), ?_⟩); done), ?_⟩
   ·dsimp only
    refine ⟨by omega, by omega, ?_, ?_, ?_⟩
    ·rw [List.length_append]; omega
    ·rw [List.length_append]; omega
    ·rw [← hR, ← hUU]; simp
   ·dsimp only; omega
end Go.Proofs.Ytldbcbclhpcofaa
