/- The laws' own equalities and examples. -/
import Derived.Test.YthbcmebhpabpnaaDoorCyP
import Derived.Test.YthbcmebhpabpnaaDoorPSCy3
import Derived.Lay
set_option linter.unusedSimpArgs false
set_option linter.unusedVariables false
namespace Go.Proofs.YthbcmebhpabpnaaDoor
open Go Go.PS Go.Proofs
open Go.Cy (NA InN Acy SetOk Brk flipN Asc leastS greedyO backL)
set_option maxRecDepth 100000
attribute [local irreducible] wpRun wpG CallsTo CallsM
theorem same_spec (l m : List Int) : CallsTo Tryd.prog 13 [intsD l, intsD m] (.bool (decide (l = m))) := by
 refine callsTo_of Tryd.func13 rfl (by decide +kernel) (Nat.le_of_ble_eq_true rfl) ?_
 intro hat B X w0
 have hl := at_len 0 hat rfl
 have hm := at_len 1 hat rfl
 rw [List.length_map] at hl hm
 by_cases hlm : l.length = m.length
 ·repeat' first | refine pw_step rfl ?_ | refine pw_ret ?_ | refine wR ?_ | (refine wpG_split rfl rfl (fun hc => ?_) (fun hc => ?_) <;> try simp only [hcL] at hc) | (refine pw_cond _ rfl rfl (fun hc => ?_) (fun hc => ?_) <;> (try simp only [hcL] at hc) <;> try omega) | simp (disch := omega) only [go_sem, simprocAttr] | apply And.intro | omega | decide +kernel
  refine pw_loopI (κ := Nat) (fun (k : Nat) => k ≤ l.length ∧ l.take k = m.take k) (fun (k : Nat) => [(0, .d (intsD l)), (1, .d (intsD m)), (5, .int k)]) (fun (k : Nat) => []) (fun (k : Nat) => l.length - k) 0 ?_ ?_ ?_
  ·exact ⟨Nat.zero_le _, rfl⟩
  ·exact eL [] _ _ (by refine ⟨?_, ?_⟩ <;> (repeat' first | exact fmn | refine fmc ⟨(by first | rfl | (simp (disch := omega) only [go_sem, simprocAttr, inL]; first | done | omega | (congr 1; done))), ?_⟩); done)
  ·rintro k ⟨hk, hinv⟩
   rcases Nat.lt_or_ge k l.length with hlt | hge
   ·obtain ⟨p, hp⟩ := get_some hlt
    obtain ⟨q, hq⟩ := get_some (hlm ▸ hlt)
    repeat' first | refine pw_step rfl ?_ | refine pw_ret ?_ | refine wR ?_ | (refine wpG_split rfl rfl (fun hc => ?_) (fun hc => ?_) <;> try simp only [hcL] at hc) | (refine pw_cond _ rfl rfl (fun hc => ?_) (fun hc => ?_) <;> (try simp only [hcL] at hc) <;> try omega) | simp (disch := omega) only [go_sem, simprocAttr, hp, hq] | apply And.intro | omega | decide +kernel
    ·refine bool_some ?_
     rw [decide_eq_false (take_ne hp hq hc)]
    ·refine ⟨k + 1, ?_, eL [] _ _ (by refine ⟨?_, ?_⟩ <;> (repeat' first | exact fmn | refine fmc ⟨(by first | rfl | (simp (disch := omega) only [go_sem, simprocAttr, inL]; first | done | omega | (congr 1; done))), ?_⟩); done), ?_⟩
     ·exact ⟨by omega, by rw [take_snoc hp, take_snoc hq, hinv, hc]⟩
     ·omega
   ·repeat' first | refine pw_step rfl ?_ | refine pw_ret ?_ | refine wR ?_ | (refine wpG_split rfl rfl (fun hc => ?_) (fun hc => ?_) <;> try simp only [hcL] at hc) | (refine pw_cond _ rfl rfl (fun hc => ?_) (fun hc => ?_) <;> (try simp only [hcL] at hc) <;> try omega) | simp (disch := omega) only [go_sem, simprocAttr] | apply And.intro | omega | decide +kernel
    refine bool_some ?_
    rw [List.take_of_length_le hge, List.take_of_length_le (by omega)] at hinv
    simp [hinv]
 ·repeat' first | refine pw_step rfl ?_ | refine pw_ret ?_ | refine wR ?_ | (refine wpG_split rfl rfl (fun hc => ?_) (fun hc => ?_) <;> try simp only [hcL] at hc) | (refine pw_cond _ rfl rfl (fun hc => ?_) (fun hc => ?_) <;> (try simp only [hcL] at hc) <;> try omega) | simp (disch := omega) only [go_sem, simprocAttr] | apply And.intro | omega | decide +kernel
  refine bool_some ?_
  rw [decide_eq_false]
  rintro rfl; exact hlm rfl
theorem same_refl (s : List Nat) : CallsTo Tryd.prog 13 [natsD s, natsD s] (.bool true) := by
 have h := same_spec (castL s) (castL s)
 rwa [decide_eq_true rfl, intsD_castL] at h
set_option maxHeartbeats 1000000 in
theorem graphs_refl (g : Gr) : CallsTo Tryd.prog 20 [gD g, gD g] (.bool true) := by
 obtain ⟨n, l⟩ := g
 refine callsTo_of Tryd.func20 rfl (by decide +kernel) (Nat.le_of_ble_eq_true rfl) ?_
 intro hat B X w0
 have hl := at_len2 0 1 hat rfl rfl
 rw [List.length_map] at hl
 dsimp only at hl
 repeat' first | refine pw_step rfl ?_ | refine pw_ret ?_ | refine wR ?_ | (refine wpG_split rfl rfl (fun hc => ?_) (fun hc => ?_) <;> try simp only [hcL] at hc) | (refine pw_cond _ rfl rfl (fun hc => ?_) (fun hc => ?_) <;> (try simp only [hcL] at hc) <;> try omega) | simp (disch := omega) only [go_sem, simprocAttr] | apply And.intro | omega | decide +kernel
 refine pw_loopI (κ := Nat) (fun (k : Nat) => k ≤ l.length) (fun (k : Nat) => [(2, .ptr 2 0 0 0), (3, .ptr 3 0 0 0), (5, .int k)]) (fun (k : Nat) => [(2, .cells [.int n, .d (arcsD l)]), (3, .cells [.int n, .d (arcsD l)])]) (fun (k : Nat) => l.length - k) 0 ?_ ?_ ?_
 ·exact Nat.zero_le _
 ·exact eL [] _ _ (by refine ⟨?_, ?_⟩ <;> (repeat' first | exact fmn | refine fmc ⟨(by first | rfl | (simp (disch := omega) only [go_sem, simprocAttr, inL]; first | done | omega | (congr 1; done))), ?_⟩); done)
 ·rintro k hk
  rcases Nat.lt_or_ge k l.length with hlt | hge
  ·obtain ⟨p, hp⟩ := get_some hlt
   repeat' first | refine pw_step rfl ?_ | refine pw_ret ?_ | refine wR ?_ | (refine wpG_split rfl rfl (fun hc => ?_) (fun hc => ?_) <;> try simp only [hcL] at hc) | (refine pw_cond _ rfl rfl (fun hc => ?_) (fun hc => ?_) <;> (try simp only [hcL] at hc) <;> try omega) | simp (disch := omega) only [go_sem, simprocAttr, hp, arcEq] | apply And.intro | omega | decide +kernel
   refine ⟨k + 1, ?_, eL [] _ _ (by refine ⟨?_, ?_⟩ <;> (repeat' first | exact fmn | refine fmc ⟨(by first | rfl | (simp (disch := omega) only [go_sem, simprocAttr, inL]; first | done | omega | (congr 1; done))), ?_⟩); done), ?_⟩
   ·omega
   ·omega
  ·repeat' first | refine pw_step rfl ?_ | refine pw_ret ?_ | refine wR ?_ | (refine wpG_split rfl rfl (fun hc => ?_) (fun hc => ?_) <;> try simp only [hcL] at hc) | (refine pw_cond _ rfl rfl (fun hc => ?_) (fun hc => ?_) <;> (try simp only [hcL] at hc) <;> try omega) | simp (disch := omega) only [go_sem, simprocAttr] | apply And.intro | omega | decide +kernel
   exact rfl
def l0 : List NA := [(0, 1), (1, 2), (2, 0)]
theorem l0_one : brkB l0 (castL [1]) = true := by
 refine brkB_iff.2 ⟨⟨by simp [Asc], ?_⟩, fun v => if v = 2 then 0 else v + 1, ?_⟩
 ·intro i hi
  rw [List.mem_singleton] at hi
  subst hi
  exact ⟨_, rfl, by decide⟩
 ·rw [show flipN l0 [1] = [(0, 1), (2, 1), (2, 0)] by decide +kernel]
  intro a ha _
  simp only [List.mem_cons, List.not_mem_nil, or_false] at ha
  rcases ha with rfl | rfl | rfl <;> decide
theorem l0_none : brkB l0 (castL []) = false := by
 rcases h : brkB l0 (castL []) with _ | _
 ·rfl
 ·obtain ⟨_, r, hr⟩ := brkB_iff.1 h
  rw [show flipN l0 [] = l0 by decide +kernel] at hr
  have h1 := hr (0, 1) (by simp [l0]) (by decide)
  have h2 := hr (1, 2) (by simp [l0]) (by decide)
  have h3 := hr (2, 0) (by simp [l0]) (by decide)
  dsimp only at h1 h2 h3
  omega
set_option maxHeartbeats 4000000 in
theorem awake_spec : CallsTo Tryd.prog 9 [] (.bool true) := by
 have hin : InN 3 l0 := by
  intro a ha
  simp only [l0, List.mem_cons, List.not_mem_nil, or_false] at ha
  rcases ha with rfl | rfl | rfl <;> decide
 have h0 : gOk ((3 : Nat), castA l0) = true := by decide +kernel
 have s1 := Least_ok 3 l0 h0 hin (by decide) (by decide)
 rw [show leastS 3 l0 = [0] by decide +kernel] at s1
 have s2 := Least_big (9, []) (by decide +kernel) (by decide)
 have s3 := Greedy_ok 3 l0 h0 hin (by decide) (by decide)
 rw [show backL (greedyO 3 l0) l0 = [2] by decide +kernel] at s3
 have s4 := Breaks_ok 3 l0 (castL [1]) h0 hin (by decide) (by decide)
 rw [l0_one] at s4
 have s5 := Breaks_ok 3 l0 (castL []) h0 hin (by decide) (by decide)
 rw [l0_none] at s5
 have s6 := Break_ok 3 l0 h0 hin (by decide) (by decide)
 rw [show breakS 3 l0 = [0] by decide +kernel, show flipN l0 [0] = [(1, 0), (1, 2), (2, 0)] by decide +kernel] at s6
 have e0 : gD ((3 : Nat), castA l0) = gD (3, [(0, 1), (1, 2), (2, 0)]) := rfl
 have e1 : gD ((3 : Nat), castA [(1, 0), (1, 2), (2, 0)]) = gD (3, [(1, 0), (1, 2), (2, 0)]) := rfl
 have e2 : natsD [0] = intsD [0] := rfl
 have e3 : natsD [2] = intsD [2] := rfl
 have e4 : intsD (castL [1]) = intsD [1] := rfl
 have e5 : intsD (castL []) = intsD [] := rfl
 rw [e0, e2] at s1
 rw [e0, e3] at s3
 rw [e0, e4] at s4
 rw [e0, e5] at s5
 rw [e0, e1, e2] at s6
 have t1 := same_spec [0] [0]
 have t2 := same_spec [2] [2]
 simp only [gD, arcsD, intsD, List.map_cons, List.map_nil, decide_true] at s1 s2 s3 s4 s5 s6 t1 t2
 refine callsTo_of Tryd.func9 rfl (by decide +kernel) (Nat.le_of_ble_eq_true rfl) ?_
 intro hat B X w0
 repeat' first | refine pw_step rfl ?_ | refine pw_ret ?_ | refine wR ?_ | (refine rc (s1) rfl ?_ ?_; (· first | rfl | simp (disch := omega) only [go_sem, simprocAttr, eq_self, decide_true, List.append_eq])) | (refine rc (s2) rfl ?_ ?_; (· first | rfl | simp (disch := omega) only [go_sem, simprocAttr, eq_self, decide_true, List.append_eq])) | (refine rc (s3) rfl ?_ ?_; (· first | rfl | simp (disch := omega) only [go_sem, simprocAttr, eq_self, decide_true, List.append_eq])) | (refine rc (s4) rfl ?_ ?_; (· first | rfl | simp (disch := omega) only [go_sem, simprocAttr, eq_self, decide_true, List.append_eq])) | (refine rc (s5) rfl ?_ ?_; (· first | rfl | simp (disch := omega) only [go_sem, simprocAttr, eq_self, decide_true, List.append_eq])) | (refine rc (s6) rfl ?_ ?_; (· first | rfl | simp (disch := omega) only [go_sem, simprocAttr, eq_self, decide_true, List.append_eq])) | (refine rc (t1) rfl ?_ ?_; (· first | rfl | simp (disch := omega) only [go_sem, simprocAttr, eq_self, decide_true, List.append_eq])) | (refine rc (t2) rfl ?_ ?_; (· first | rfl | simp (disch := omega) only [go_sem, simprocAttr, eq_self, decide_true, List.append_eq])) | (refine wpG_split rfl rfl (fun hc => ?_) (fun hc => ?_) <;> try simp only [hcL] at hc) | (refine pw_cond _ rfl rfl (fun hc => ?_) (fun hc => ?_) <;> (try simp only [hcL] at hc) <;> try omega) | simp (disch := omega) only [go_sem, simprocAttr, eq_self, decide_true, List.append_eq] | apply And.intro | omega | decide +kernel
 all_goals exact bool_some rfl
end Go.Proofs.YthbcmebhpabpnaaDoor
namespace Go.Proofs.YthbcmebhpabpnaaDoor
open Go Go.PS Go.Proofs
open Go.Cy (NA InN Acy SetOk Brk flipN Asc leastS greedyO backL noLoops lessS)
set_option maxRecDepth 100000
attribute [local irreducible] wpRun wpG CallsTo CallsM
set_option maxHeartbeats 2000000 in
theorem lawBreaks (g : Gr) (s : List Int) : CallsTo Tryd.prog 3 [gD g, intsD s] (.bool true) := by
 rcases hg : gOk g with _ | _
 ·have s1 := Breaks_bad g s hg
  have s2 := rBreaks_bad g s hg
  refine callsTo_of Tryd.func3 rfl (by decide +kernel) (Nat.le_of_ble_eq_true rfl) ?_
  intro hat B X w0
  have hl := at_len2 0 1 hat rfl rfl
  have hm := at_len 1 hat rfl
  rw [List.length_map] at hl hm
  repeat' first | refine pw_step rfl ?_ | refine pw_ret ?_ | refine wR ?_ | (refine rc (awake_spec) rfl ?_ ?_; (· first | rfl | simp (disch := omega) only [go_sem, simprocAttr, eq_self, decide_true])) | (refine rc (s1) rfl ?_ ?_; (· first | rfl | simp (disch := omega) only [go_sem, simprocAttr, eq_self, decide_true])) | (refine rc (s2) rfl ?_ ?_; (· first | rfl | simp (disch := omega) only [go_sem, simprocAttr, eq_self, decide_true])) | (refine wpG_split rfl rfl (fun hc => ?_) (fun hc => ?_) <;> try simp only [hcL] at hc) | (refine pw_cond _ rfl rfl (fun hc => ?_) (fun hc => ?_) <;> (try simp only [hcL] at hc) <;> try omega) | simp (disch := omega) only [go_sem, simprocAttr, eq_self, decide_true] | apply And.intro | omega | decide +kernel
  all_goals exact bool_some rfl
 ·obtain ⟨n, l, rfl, hn, hll, hi⟩ := gOk_nat hg
  have s1 := Breaks_ok n l s hg hi hn hll
  have s2 := rBreaks_ok n l s hg hi hn hll
  have hcl := castA_len l
  refine callsTo_of Tryd.func3 rfl (by decide +kernel) (Nat.le_of_ble_eq_true rfl) ?_
  intro hat B X w0
  have hm := at_len 1 hat rfl
  rw [List.length_map] at hm
  repeat' first | refine pw_step rfl ?_ | refine pw_ret ?_ | refine wR ?_ | (refine rc (awake_spec) rfl ?_ ?_; (· first | rfl | simp (disch := omega) only [go_sem, simprocAttr, eq_self, decide_true, hcl])) | (refine rc (s1) rfl ?_ ?_; (· first | rfl | simp (disch := omega) only [go_sem, simprocAttr, eq_self, decide_true, hcl])) | (refine rc (s2) rfl ?_ ?_; (· first | rfl | simp (disch := omega) only [go_sem, simprocAttr, eq_self, decide_true, hcl])) | (refine wpG_split rfl rfl (fun hc => ?_) (fun hc => ?_) <;> try simp only [hcL] at hc) | (refine pw_cond _ rfl rfl (fun hc => ?_) (fun hc => ?_) <;> (try simp only [hcL] at hc) <;> try omega) | simp (disch := omega) only [go_sem, simprocAttr, eq_self, decide_true, hcl] | apply And.intro | omega | decide +kernel
  all_goals exact bool_some rfl
set_option maxHeartbeats 2000000 in
theorem lawGreedy (g : Gr) : CallsTo Tryd.prog 4 [gD g] (.bool true) := by
 have hv := rValid_spec g
 rcases hg : gOk g with _ | _
 ·rw [hg] at hv
  have s1 := Greedy_bad g hg
  have s2 := rGreedy_bad g hg
  have s3 := same_refl []
  have e : natsD [] = .sl [] := rfl
  rw [e] at s3
  refine callsTo_of Tryd.func4 rfl (by decide +kernel) (Nat.le_of_ble_eq_true rfl) ?_
  intro hat B X w0
  have hl := at_len2 0 1 hat rfl rfl
  rw [List.length_map] at hl
  repeat' first | refine pw_step rfl ?_ | refine pw_ret ?_ | refine wR ?_ | (refine rc (hv) rfl ?_ ?_; (· first | rfl | simp (disch := omega) only [go_sem, simprocAttr, eq_self, decide_true])) | (refine rc (awake_spec) rfl ?_ ?_; (· first | rfl | simp (disch := omega) only [go_sem, simprocAttr, eq_self, decide_true])) | (refine rc (s1) rfl ?_ ?_; (· first | rfl | simp (disch := omega) only [go_sem, simprocAttr, eq_self, decide_true])) | (refine rc (s2) rfl ?_ ?_; (· first | rfl | simp (disch := omega) only [go_sem, simprocAttr, eq_self, decide_true])) | (refine rc (s3) rfl ?_ ?_; (· first | rfl | simp (disch := omega) only [go_sem, simprocAttr, eq_self, decide_true])) | (refine wpG_split rfl rfl (fun hc => ?_) (fun hc => ?_) <;> try simp only [hcL] at hc) | (refine pw_cond _ rfl rfl (fun hc => ?_) (fun hc => ?_) <;> (try simp only [hcL] at hc) <;> try omega) | simp (disch := omega) only [go_sem, simprocAttr, eq_self, decide_true] | apply And.intro | omega | decide +kernel
  all_goals exact bool_some rfl
 ·rw [hg] at hv
  obtain ⟨n, l, rfl, hn, hll, hi⟩ := gOk_nat hg
  have s1 := Greedy_ok n l hg hi hn hll
  have s2 := rGreedy_ok n l hg hi hn hll
  have s3 := same_refl (backL (greedyO n l) l)
  have hcl := castA_len l
  refine callsTo_of Tryd.func4 rfl (by decide +kernel) (Nat.le_of_ble_eq_true rfl) ?_
  intro hat B X w0
  repeat' first | refine pw_step rfl ?_ | refine pw_ret ?_ | refine wR ?_ | (refine rc (hv) rfl ?_ ?_; (· first | rfl | simp (disch := omega) only [go_sem, simprocAttr, eq_self, decide_true, hcl])) | (refine rc (awake_spec) rfl ?_ ?_; (· first | rfl | simp (disch := omega) only [go_sem, simprocAttr, eq_self, decide_true, hcl])) | (refine rc (s1) rfl ?_ ?_; (· first | rfl | simp (disch := omega) only [go_sem, simprocAttr, eq_self, decide_true, hcl])) | (refine rc (s2) rfl ?_ ?_; (· first | rfl | simp (disch := omega) only [go_sem, simprocAttr, eq_self, decide_true, hcl])) | (refine rc (s3) rfl ?_ ?_; (· first | rfl | simp (disch := omega) only [go_sem, simprocAttr, eq_self, decide_true, hcl])) | (refine wpG_split rfl rfl (fun hc => ?_) (fun hc => ?_) <;> try simp only [hcL] at hc) | (refine pw_cond _ rfl rfl (fun hc => ?_) (fun hc => ?_) <;> (try simp only [hcL] at hc) <;> try omega) | simp (disch := omega) only [go_sem, simprocAttr, eq_self, decide_true, hcl] | apply And.intro | omega | decide +kernel
  all_goals exact bool_some rfl
set_option maxHeartbeats 4000000 in
theorem lawLeast (g : Gr) : CallsTo Tryd.prog 5 [gD g] (.bool true) := by
 have hv := rValid_spec g
 rcases hg : gOk g with _ | _
 ·rw [hg] at hv
  have s1 := Least_bad g hg
  have s2 := rLeast_bad g hg
  have s3 := Break_bad g hg
  have s4 := rBreak_bad g hg
  have s5 := same_refl []
  have e : natsD [] = .sl [] := rfl
  rw [e] at s5
  have s6 := graphs_refl (0, [])
  refine callsTo_of Tryd.func5 rfl (by decide +kernel) (Nat.le_of_ble_eq_true rfl) ?_
  intro hat B X w0
  have hl := at_len2 0 1 hat rfl rfl
  rw [List.length_map] at hl
  repeat' first | refine pw_step rfl ?_ | refine pw_ret ?_ | refine wR ?_ | (refine rc (hv) rfl ?_ ?_; (· first | rfl | simp (disch := omega) only [go_sem, simprocAttr, eq_self, decide_true])) | (refine rc (awake_spec) rfl ?_ ?_; (· first | rfl | simp (disch := omega) only [go_sem, simprocAttr, eq_self, decide_true])) | (refine rc (s1) rfl ?_ ?_; (· first | rfl | simp (disch := omega) only [go_sem, simprocAttr, eq_self, decide_true])) | (refine rc (s2) rfl ?_ ?_; (· first | rfl | simp (disch := omega) only [go_sem, simprocAttr, eq_self, decide_true])) | (refine rc (s3) rfl ?_ ?_; (· first | rfl | simp (disch := omega) only [go_sem, simprocAttr, eq_self, decide_true])) | (refine rc (s4) rfl ?_ ?_; (· first | rfl | simp (disch := omega) only [go_sem, simprocAttr, eq_self, decide_true])) | (refine rc (s5) rfl ?_ ?_; (· first | rfl | simp (disch := omega) only [go_sem, simprocAttr, eq_self, decide_true])) | (refine rc (s6) rfl ?_ ?_; (· first | rfl | simp (disch := omega) only [go_sem, simprocAttr, eq_self, decide_true])) | (refine wpG_split rfl rfl (fun hc => ?_) (fun hc => ?_) <;> try simp only [hcL] at hc) | (refine pw_cond _ rfl rfl (fun hc => ?_) (fun hc => ?_) <;> (try simp only [hcL] at hc) <;> try omega) | simp (disch := omega) only [go_sem, simprocAttr, eq_self, decide_true] | apply And.intro | omega | decide +kernel
  all_goals exact bool_some rfl
 ·rw [hg] at hv
  obtain ⟨n, l, rfl, hn, hll, hi⟩ := gOk_nat hg
  have s3 := Break_ok n l hg hi hn hll
  have s4 := rBreak_ok n l hg hi hn hll
  have s6 := same_refl (breakS n l)
  have s7 := graphs_refl ((n : Int), castA (flipN l (breakS n l)))
  have hcl := castA_len l
  by_cases h8 : n ≤ 8
  ·have s1 := Least_ok n l hg hi hll h8
   have s2 := rLeast_ok n l hg hi hll h8
   have s5 := same_refl (leastS n l)
   refine callsTo_of Tryd.func5 rfl (by decide +kernel) (Nat.le_of_ble_eq_true rfl) ?_
   intro hat B X w0
   repeat' first | refine pw_step rfl ?_ | refine pw_ret ?_ | refine wR ?_ | (refine rc (hv) rfl ?_ ?_; (· first | rfl | simp (disch := omega) only [go_sem, simprocAttr, eq_self, decide_true, hcl])) | (refine rc (awake_spec) rfl ?_ ?_; (· first | rfl | simp (disch := omega) only [go_sem, simprocAttr, eq_self, decide_true, hcl])) | (refine rc (s1) rfl ?_ ?_; (· first | rfl | simp (disch := omega) only [go_sem, simprocAttr, eq_self, decide_true, hcl])) | (refine rc (s2) rfl ?_ ?_; (· first | rfl | simp (disch := omega) only [go_sem, simprocAttr, eq_self, decide_true, hcl])) | (refine rc (s3) rfl ?_ ?_; (· first | rfl | simp (disch := omega) only [go_sem, simprocAttr, eq_self, decide_true, hcl])) | (refine rc (s4) rfl ?_ ?_; (· first | rfl | simp (disch := omega) only [go_sem, simprocAttr, eq_self, decide_true, hcl])) | (refine rc (s5) rfl ?_ ?_; (· first | rfl | simp (disch := omega) only [go_sem, simprocAttr, eq_self, decide_true, hcl])) | (refine rc (s6) rfl ?_ ?_; (· first | rfl | simp (disch := omega) only [go_sem, simprocAttr, eq_self, decide_true, hcl])) | (refine rc (s7) rfl ?_ ?_; (· first | rfl | simp (disch := omega) only [go_sem, simprocAttr, eq_self, decide_true, hcl])) | (refine wpG_split rfl rfl (fun hc => ?_) (fun hc => ?_) <;> try simp only [hcL] at hc) | (refine pw_cond _ rfl rfl (fun hc => ?_) (fun hc => ?_) <;> (try simp only [hcL] at hc) <;> try omega) | simp (disch := omega) only [go_sem, simprocAttr, eq_self, decide_true, hcl] | apply And.intro | omega | decide +kernel
   all_goals exact bool_some rfl
  ·have s1 := Least_big ((n : Int), castA l) hg (by dsimp only; omega)
   have s2 := rLeast_big ((n : Int), castA l) hg (by dsimp only; omega)
   have s5 := same_refl []
   have e : natsD [] = .sl [] := rfl
   rw [e] at s5
   refine callsTo_of Tryd.func5 rfl (by decide +kernel) (Nat.le_of_ble_eq_true rfl) ?_
   intro hat B X w0
   repeat' first | refine pw_step rfl ?_ | refine pw_ret ?_ | refine wR ?_ | (refine rc (hv) rfl ?_ ?_; (· first | rfl | simp (disch := omega) only [go_sem, simprocAttr, eq_self, decide_true, hcl])) | (refine rc (awake_spec) rfl ?_ ?_; (· first | rfl | simp (disch := omega) only [go_sem, simprocAttr, eq_self, decide_true, hcl])) | (refine rc (s1) rfl ?_ ?_; (· first | rfl | simp (disch := omega) only [go_sem, simprocAttr, eq_self, decide_true, hcl])) | (refine rc (s2) rfl ?_ ?_; (· first | rfl | simp (disch := omega) only [go_sem, simprocAttr, eq_self, decide_true, hcl])) | (refine rc (s3) rfl ?_ ?_; (· first | rfl | simp (disch := omega) only [go_sem, simprocAttr, eq_self, decide_true, hcl])) | (refine rc (s4) rfl ?_ ?_; (· first | rfl | simp (disch := omega) only [go_sem, simprocAttr, eq_self, decide_true, hcl])) | (refine rc (s5) rfl ?_ ?_; (· first | rfl | simp (disch := omega) only [go_sem, simprocAttr, eq_self, decide_true, hcl])) | (refine rc (s6) rfl ?_ ?_; (· first | rfl | simp (disch := omega) only [go_sem, simprocAttr, eq_self, decide_true, hcl])) | (refine rc (s7) rfl ?_ ?_; (· first | rfl | simp (disch := omega) only [go_sem, simprocAttr, eq_self, decide_true, hcl])) | (refine wpG_split rfl rfl (fun hc => ?_) (fun hc => ?_) <;> try simp only [hcL] at hc) | (refine pw_cond _ rfl rfl (fun hc => ?_) (fun hc => ?_) <;> (try simp only [hcL] at hc) <;> try omega) | simp (disch := omega) only [go_sem, simprocAttr, eq_self, decide_true, hcl] | apply And.intro | omega | decide +kernel
   all_goals exact bool_some rfl
theorem half_succ (l : List NA) {k : Nat} {a : NA} (h : l[k]? = some a) : (noLoops (l.take (k + 1))).length = (noLoops (l.take k)).length + (if a.1 = a.2 then 0 else 1) := by
 rw [take_snoc h, noLoops, noLoops, List.filter_append, List.length_append]
 by_cases c : a.1 = a.2 <;> simp [c]
set_option maxHeartbeats 4000000 in
theorem lawHalf (g : Gr) : CallsTo Tryd.prog 6 [gD g] (.bool true) := by
 have hv := rValid_spec g
 rcases hg : gOk g with _ | _
 ·rw [hg] at hv
  refine callsTo_of Tryd.func6 rfl (by decide +kernel) (Nat.le_of_ble_eq_true rfl) ?_
  intro hat B X w0
  repeat' first | refine pw_step rfl ?_ | refine pw_ret ?_ | refine wR ?_ | (refine rc (hv) rfl ?_ ?_; (· first | rfl | simp (disch := omega) only [go_sem, simprocAttr])) | (refine rc (awake_spec) rfl ?_ ?_; (· first | rfl | simp (disch := omega) only [go_sem, simprocAttr])) | (refine wpG_split rfl rfl (fun hc => ?_) (fun hc => ?_) <;> try simp only [hcL] at hc) | (refine pw_cond _ rfl rfl (fun hc => ?_) (fun hc => ?_) <;> (try simp only [hcL] at hc) <;> try omega) | simp (disch := omega) only [go_sem, simprocAttr] | apply And.intro | omega | decide +kernel
  all_goals exact bool_some rfl
 ·rw [hg] at hv
  obtain ⟨n, l, rfl, hn, hll, hi⟩ := gOk_nat hg
  have hcl := castA_len l
  have s1 := Greedy_ok n l hg hi hn hll
  have s2 := Break_ok n l hg hi hn hll
  have b1 : brkB l (castL (backL (greedyO n l) l)) = true := brkB_iff.2 (Go.Cy.back_brk (Go.Cy.greedy_part n l) hi)
  have b2 : brkB l (castL (breakS n l)) = true := brkB_iff.2 (break_ok n l hi hll)
  have b3 : brkB (flipN l (breakS n l)) (castL []) = true := brkB_iff.2 ⟨⟨List.Pairwise.nil, by simp⟩, by rw [Go.Cy.flipN_nil]; exact (break_ok n l hi hll).2⟩
  have r1 := rBreaks_ok n l (castL (backL (greedyO n l) l)) hg hi hn hll
  have r2 := rBreaks_ok n l (castL (breakS n l)) hg hi hn hll
  have hfl := Go.Cy.flipN_len l (breakS n l)
  have hfi := Go.Cy.flipN_in (set := breakS n l) hi
  have r3 := rBreaks_ok n (flipN l (breakS n l)) (castL []) (gOk_of hn (by omega) hfi) hfi hn (by omega)
  rw [b1, intsD_castL] at r1
  rw [b2, intsD_castL] at r2
  rw [b3, intsD_castL] at r3
  have e : natsD [] = .sl [] := rfl
  rw [e] at r3
  have hh := Go.Cy.greedy_half hi
  have hbl : (breakS n l).length ≤ (backL (greedyO n l) l).length := by
   rw [breakS]
   split
   ·rename_i h8
    have := Go.Cy.least_min h8 hi (by omega) (Go.Cy.greedy_part n l)
    rw [lessS] at this
    split at this
    ·omega
    ·simpa using this
   ·exact Nat.le_refl _
  have hbb : (noLoops l).length ≤ l.length := List.length_filter_le _ _
  refine callsTo_of Tryd.func6 rfl (by decide +kernel) (Nat.le_of_ble_eq_true rfl) ?_
  intro hat B X w0
  repeat' first | refine pw_step rfl ?_ | refine pw_ret ?_ | refine wR ?_ | (refine rc (hv) rfl ?_ ?_; (· first | rfl | simp (disch := omega) only [go_sem, simprocAttr, hcl])) | (refine rc (awake_spec) rfl ?_ ?_; (· first | rfl | simp (disch := omega) only [go_sem, simprocAttr, hcl])) | (refine wpG_split rfl rfl (fun hc => ?_) (fun hc => ?_) <;> try simp only [hcL] at hc) | (refine pw_cond _ rfl rfl (fun hc => ?_) (fun hc => ?_) <;> (try simp only [hcL] at hc) <;> try omega) | simp (disch := omega) only [go_sem, simprocAttr, hcl] | apply And.intro | omega | decide +kernel
  ·exact bool_some rfl
  refine pw_loopI (κ := Nat) (fun (k : Nat) => k ≤ l.length) (fun (k : Nat) => [(1, .ptr 1 0 0 0), (3, .int (noLoops (l.take k)).length), (4, .int k)]) (fun (k : Nat) => [(1, .cells [.int n, .d (arcsD (castA l))])]) (fun (k : Nat) => l.length - k) 0 ?_ ?_ ?_
  ·exact Nat.zero_le _
  ·exact eL [] _ _ (by refine ⟨?_, ?_⟩ <;> (repeat' first | exact fmn | refine fmc ⟨(by first | rfl | (simp (disch := omega) only [go_sem, simprocAttr, inL]; first | done | omega | (congr 1; done))), ?_⟩); done)
  ·rintro k hk
   have hbk : (noLoops (l.take k)).length ≤ l.length := Nat.le_trans (List.length_filter_le _ _) (by rw [List.length_take]; omega)
   rcases Nat.lt_or_ge k l.length with hlt | hge
   ·obtain ⟨a, ha⟩ := get_some hlt
    have hp := castA_get ha
    have hs := half_succ l ha
    by_cases c : a.1 = a.2
    ·have c' : (a.1 : Int) = a.2 := by omega
     rw [if_pos c] at hs
     repeat' first | refine pw_step rfl ?_ | refine pw_ret ?_ | refine wR ?_ | (refine wpG_split rfl rfl (fun hc => ?_) (fun hc => ?_) <;> try simp only [hcL] at hc) | (refine pw_cond _ rfl rfl (fun hc => ?_) (fun hc => ?_) <;> (try simp only [hcL] at hc) <;> try omega) | simp (disch := omega) only [go_sem, simprocAttr, hp, hcl, c'] | apply And.intro | omega | decide +kernel
     refine ⟨k + 1, ?_, eL [] _ _ (by refine ⟨?_, ?_⟩ <;> (repeat' first | exact fmn | refine fmc ⟨(by first | rfl | (simp (disch := omega) only [go_sem, simprocAttr, inL, hs]; first | done | omega | (congr 1; done))), ?_⟩); done), ?_⟩
     ·omega
     ·omega
    ·have c' : ¬ (a.1 : Int) = a.2 := by omega
     rw [if_neg c] at hs
     repeat' first | refine pw_step rfl ?_ | refine pw_ret ?_ | refine wR ?_ | (refine wpG_split rfl rfl (fun hc => ?_) (fun hc => ?_) <;> try simp only [hcL] at hc) | (refine pw_cond _ rfl rfl (fun hc => ?_) (fun hc => ?_) <;> (try simp only [hcL] at hc) <;> try omega) | simp (disch := omega) only [go_sem, simprocAttr, hp, hcl, c'] | apply And.intro | omega | decide +kernel
     refine ⟨k + 1, ?_, eL [] _ _ (by refine ⟨?_, ?_⟩ <;> (repeat' first | exact fmn | refine fmc ⟨(by first | rfl | (simp (disch := omega) only [go_sem, simprocAttr, inL, hs]; first | done | omega | (congr 1; done))), ?_⟩); done), ?_⟩
     ·omega
     ·omega
   ·have hk : k = l.length := by omega
    subst hk
    rw [List.take_length]
    repeat' first | refine pw_step rfl ?_ | refine pw_ret ?_ | refine wR ?_ | (refine rc (s1) rfl ?_ ?_; (· first | rfl | simp (disch := omega) only [go_sem, simprocAttr, hcl, List.length_map])) | (refine rc (s2) rfl ?_ ?_; (· first | rfl | simp (disch := omega) only [go_sem, simprocAttr, hcl, List.length_map])) | (refine rc (r1) rfl ?_ ?_; (· first | rfl | simp (disch := omega) only [go_sem, simprocAttr, hcl, List.length_map])) | (refine rc (r2) rfl ?_ ?_; (· first | rfl | simp (disch := omega) only [go_sem, simprocAttr, hcl, List.length_map])) | (refine rc (r3) rfl ?_ ?_; (· first | rfl | simp (disch := omega) only [go_sem, simprocAttr, hcl, List.length_map])) | (refine rc (awake_spec) rfl ?_ ?_; (· first | rfl | simp (disch := omega) only [go_sem, simprocAttr, hcl, List.length_map])) | (refine wpG_split rfl rfl (fun hc => ?_) (fun hc => ?_) <;> try simp only [hcL] at hc) | (refine pw_cond _ rfl rfl (fun hc => ?_) (fun hc => ?_) <;> (try simp only [hcL] at hc) <;> try omega) | simp (disch := omega) only [go_sem, simprocAttr, hcl, List.length_map] | apply And.intro | omega | decide +kernel
    all_goals exact bool_some rfl
end Go.Proofs.YthbcmebhpabpnaaDoor
namespace Go.Proofs.YthbcmebhpabpnaaDoor
open Go Go.PS Go.Proofs
open Go.Cy (NA InN Acy SetOk Brk flipN Asc leastS backL lexLt lessS)
open Go.Bd (Part)
set_option maxRecDepth 100000
attribute [local irreducible] wpRun wpG CallsTo CallsM
theorem least_nil {n : Nat} {l : List NA} (h8 : n ≤ 8) (hi : InN n l) (hll : l.length ≤ 256) : decide (((leastS n l).length : Int) = 0) = acyB l := by
 rw [Bool.eq_iff_iff, decide_eq_true_eq, acyB_iff]
 constructor
 ·intro h
  have hb := break_ok n l hi hll
  rw [breakS, if_pos h8, List.length_eq_zero_iff.1 (by omega : (leastS n l).length = 0)] at hb
  have := hb.2
  rwa [Go.Cy.flipN_nil] at this
 ·intro h
  obtain ⟨M, hM, e⟩ := Go.Cy.brk_back hi (set := []) ⟨⟨List.Pairwise.nil, by simp⟩, by rwa [Go.Cy.flipN_nil]⟩
  have := Go.Cy.least_min h8 hi (by omega) hM
  rw [e, lessS] at this
  split at this
  ·rename_i h; simp at h; omega
  ·simp only [List.length_nil, decide_eq_false_iff_not] at this; omega
set_option maxHeartbeats 4000000 in
theorem lawSmallest (g : Gr) (s : List Int) : CallsTo Tryd.prog 7 [gD g, intsD s] (.bool true) := by
 have hv := rValid_spec g
 rcases hg : gOk g with _ | _
 ·rw [hg] at hv
  refine callsTo_of Tryd.func7 rfl (by decide +kernel) (Nat.le_of_ble_eq_true rfl) ?_
  intro hat B X w0
  repeat' first | refine pw_step rfl ?_ | refine pw_ret ?_ | refine wR ?_ | (refine rc (hv) rfl ?_ ?_; (· first | rfl | simp (disch := omega) only [go_sem, simprocAttr])) | (refine rc (awake_spec) rfl ?_ ?_; (· first | rfl | simp (disch := omega) only [go_sem, simprocAttr])) | (refine wpG_split rfl rfl (fun hc => ?_) (fun hc => ?_) <;> try simp only [hcL] at hc) | (refine pw_cond _ rfl rfl (fun hc => ?_) (fun hc => ?_) <;> (try simp only [hcL] at hc) <;> try omega) | simp (disch := omega) only [go_sem, simprocAttr] | apply And.intro | omega | decide +kernel
  all_goals exact bool_some rfl
 rw [hg] at hv
 obtain ⟨n, l, rfl, hn, hll, hi⟩ := gOk_nat hg
 have hcl := castA_len l
 rcases Decidable.em (n ≤ 8) with h8 | h8
 rotate_left
 ·refine callsTo_of Tryd.func7 rfl (by decide +kernel) (Nat.le_of_ble_eq_true rfl) ?_
  intro hat B X w0
  repeat' first | refine pw_step rfl ?_ | refine pw_ret ?_ | refine wR ?_ | (refine rc (hv) rfl ?_ ?_; (· first | rfl | simp (disch := omega) only [go_sem, simprocAttr, hcl])) | (refine rc (awake_spec) rfl ?_ ?_; (· first | rfl | simp (disch := omega) only [go_sem, simprocAttr, hcl])) | (refine wpG_split rfl rfl (fun hc => ?_) (fun hc => ?_) <;> try simp only [hcL] at hc) | (refine pw_cond _ rfl rfl (fun hc => ?_) (fun hc => ?_) <;> (try simp only [hcL] at hc) <;> try omega) | simp (disch := omega) only [go_sem, simprocAttr, hcl] | apply And.intro | omega | decide +kernel
  all_goals exact bool_some rfl
 have s1 := Least_ok n l hg hi hll h8
 have hb := break_ok n l hi hll
 rw [breakS, if_pos h8] at hb
 have r1 := rBreaks_ok n l (castL (leastS n l)) hg hi hn hll
 rw [brkB_iff.2 hb, intsD_castL] at r1
 have r2 := rBreaks_ok n l s hg hi hn hll
 have r3 := rAcyclic_spec n l hi hn hll
 rw [← least_nil h8 hi hll] at r3
 have hln : (leastS n l).length ≤ l.length := by
  obtain ⟨M, _, e⟩ := Go.Cy.least_back h8 hi (by omega)
  rw [← e]; exact backK_len M l l.length
 rcases hs : brkB l s with _ | _
 ·rw [hs] at r2
  refine callsTo_of Tryd.func7 rfl (by decide +kernel) (Nat.le_of_ble_eq_true rfl) ?_
  intro hat B X w0
  have hm := at_len 1 hat rfl
  rw [List.length_map] at hm
  repeat' first | refine pw_step rfl ?_ | refine pw_ret ?_ | refine wR ?_ | (refine rc (hv) rfl ?_ ?_; (· first | rfl | simp (disch := omega) only [go_sem, simprocAttr, hcl, eq_self, decide_true])) | (refine rc (awake_spec) rfl ?_ ?_; (· first | rfl | simp (disch := omega) only [go_sem, simprocAttr, hcl, eq_self, decide_true])) | (refine rc (s1) rfl ?_ ?_; (· first | rfl | simp (disch := omega) only [go_sem, simprocAttr, hcl, eq_self, decide_true])) | (refine rc (r1) rfl ?_ ?_; (· first | rfl | simp (disch := omega) only [go_sem, simprocAttr, hcl, eq_self, decide_true])) | (refine rc (r3) rfl ?_ ?_; (· first | rfl | simp (disch := omega) only [go_sem, simprocAttr, hcl, eq_self, decide_true])) | (refine rc (r2) rfl ?_ ?_; (· first | rfl | simp (disch := omega) only [go_sem, simprocAttr, hcl, eq_self, decide_true])) | (refine wpG_split rfl rfl (fun hc => ?_) (fun hc => ?_) <;> try simp only [hcL] at hc) | (refine pw_cond _ rfl rfl (fun hc => ?_) (fun hc => ?_) <;> (try simp only [hcL] at hc) <;> try omega) | simp (disch := omega) only [go_sem, simprocAttr, hcl, eq_self, decide_true] | apply And.intro | omega | decide +kernel
  all_goals exact bool_some rfl
 rw [hs] at r2
 obtain ⟨t, rfl, _⟩ := okS_sets (Bool.and_eq_true_iff.1 hs).1
 obtain ⟨M, hM, e⟩ := Go.Cy.brk_back hi (brkB_iff.1 hs)
 have hmin := Go.Cy.least_min h8 hi (by omega) hM
 rw [e] at hmin
 obtain ⟨L, hL⟩ : ∃ L, L = leastS n l := ⟨_, rfl⟩
 rw [← hL] at s1 r1 r3 hmin hln
 rw [intsD_castL] at r2 ⊢
 by_cases hlen : t.length = L.length
 ·rw [lessS, if_pos hlen] at hmin
  refine callsTo_of Tryd.func7 rfl (by decide +kernel) (Nat.le_of_ble_eq_true rfl) ?_
  intro hat B X w0
  have hm := at_len 1 hat rfl
  rw [List.length_map] at hm
  repeat' first | refine pw_step rfl ?_ | refine pw_ret ?_ | refine wR ?_ | (refine rc (hv) rfl ?_ ?_; (· first | rfl | simp (disch := omega) only [go_sem, simprocAttr, hcl, eq_self, decide_true, hlen])) | (refine rc (awake_spec) rfl ?_ ?_; (· first | rfl | simp (disch := omega) only [go_sem, simprocAttr, hcl, eq_self, decide_true, hlen])) | (refine rc (s1) rfl ?_ ?_; (· first | rfl | simp (disch := omega) only [go_sem, simprocAttr, hcl, eq_self, decide_true, hlen])) | (refine rc (r1) rfl ?_ ?_; (· first | rfl | simp (disch := omega) only [go_sem, simprocAttr, hcl, eq_self, decide_true, hlen])) | (refine rc (r3) rfl ?_ ?_; (· first | rfl | simp (disch := omega) only [go_sem, simprocAttr, hcl, eq_self, decide_true, hlen])) | (refine rc (r2) rfl ?_ ?_; (· first | rfl | simp (disch := omega) only [go_sem, simprocAttr, hcl, eq_self, decide_true, hlen])) | (refine wpG_split rfl rfl (fun hc => ?_) (fun hc => ?_) <;> try simp only [hcL] at hc) | (refine pw_cond _ rfl rfl (fun hc => ?_) (fun hc => ?_) <;> (try simp only [hcL] at hc) <;> try omega) | simp (disch := omega) only [go_sem, simprocAttr, hcl, eq_self, decide_true, hlen] | apply And.intro | omega | decide +kernel
  ·exact bool_some rfl
  refine pw_loopI (κ := Nat) (fun (k : Nat) => k ≤ L.length ∧ t.take k = L.take k) (fun (k : Nat) => [(1, .d (natsD t)), (5, .d (natsD L)), (7, .int k)]) (fun (k : Nat) => []) (fun (k : Nat) => L.length - k) 0 ?_ ?_ ?_
  ·exact ⟨Nat.zero_le _, rfl⟩
  ·exact eL [] _ _ (by refine ⟨?_, ?_⟩ <;> (repeat' first | exact fmn | refine fmc ⟨(by first | rfl | (simp (disch := omega) only [go_sem, simprocAttr, inL]; first | done | omega | (congr 1; done))), ?_⟩); done)
  ·rintro k ⟨hk, hinv⟩
   rcases Nat.lt_or_ge k L.length with hlt | hge
   ·obtain ⟨x, hx⟩ := get_some (show k < t.length by omega)
    obtain ⟨y, hy⟩ := get_some hlt
    have h2 := lex_take hinv
    rw [hmin, List.drop_eq_getElem_cons (show k < t.length by omega), List.drop_eq_getElem_cons hlt, (List.getElem?_eq_some_iff.1 hx).2, (List.getElem?_eq_some_iff.1 hy).2, lexLt] at h2
    by_cases c : x = y
    ·subst c
     repeat' first | refine pw_step rfl ?_ | refine pw_ret ?_ | refine wR ?_ | (refine wpG_split rfl rfl (fun hc => ?_) (fun hc => ?_) <;> try simp only [hcL] at hc) | (refine pw_cond _ rfl rfl (fun hc => ?_) (fun hc => ?_) <;> (try simp only [hcL] at hc) <;> try omega) | simp (disch := omega) only [go_sem, simprocAttr, hx, hy, hlen] | apply And.intro | omega | decide +kernel
     refine ⟨k + 1, ?_, eL [] _ _ (by refine ⟨?_, ?_⟩ <;> (repeat' first | exact fmn | refine fmc ⟨(by first | rfl | (simp (disch := omega) only [go_sem, simprocAttr, inL]; first | done | omega | (congr 1; done))), ?_⟩); done), ?_⟩
     ·exact ⟨by omega, by rw [take_snoc hx, take_snoc hy, hinv]⟩
     ·omega
    ·rw [if_neg c] at h2
     have c1 : ¬ (x : Int) = y := by omega
     have c2 : (y : Int) < x := by simp only [decide_eq_false_iff_not] at h2; omega
     repeat' first | refine pw_step rfl ?_ | refine pw_ret ?_ | refine wR ?_ | (refine rc (awake_spec) rfl ?_ ?_; (· first | rfl | simp (disch := omega) only [go_sem, simprocAttr, hx, hy, hlen, c1, c2])) | (refine wpG_split rfl rfl (fun hc => ?_) (fun hc => ?_) <;> try simp only [hcL] at hc) | (refine pw_cond _ rfl rfl (fun hc => ?_) (fun hc => ?_) <;> (try simp only [hcL] at hc) <;> try omega) | simp (disch := omega) only [go_sem, simprocAttr, hx, hy, hlen, c1, c2] | apply And.intro | omega | decide +kernel
     all_goals exact bool_some rfl
   ·repeat' first | refine pw_step rfl ?_ | refine pw_ret ?_ | refine wR ?_ | (refine rc (awake_spec) rfl ?_ ?_; (· first | rfl | simp (disch := omega) only [go_sem, simprocAttr, hlen])) | (refine wpG_split rfl rfl (fun hc => ?_) (fun hc => ?_) <;> try simp only [hcL] at hc) | (refine pw_cond _ rfl rfl (fun hc => ?_) (fun hc => ?_) <;> (try simp only [hcL] at hc) <;> try omega) | simp (disch := omega) only [go_sem, simprocAttr, hlen] | apply And.intro | omega | decide +kernel
    all_goals exact bool_some rfl
 ·have hlt : L.length < t.length := by
   rw [lessS, if_neg hlen] at hmin
   simp only [decide_eq_false_iff_not] at hmin
   omega
  refine callsTo_of Tryd.func7 rfl (by decide +kernel) (Nat.le_of_ble_eq_true rfl) ?_
  intro hat B X w0
  have hm := at_len 1 hat rfl
  rw [List.length_map] at hm
  repeat' first | refine pw_step rfl ?_ | refine pw_ret ?_ | refine wR ?_ | (refine rc (hv) rfl ?_ ?_; (· first | rfl | simp (disch := omega) only [go_sem, simprocAttr, hcl, eq_self, decide_true])) | (refine rc (awake_spec) rfl ?_ ?_; (· first | rfl | simp (disch := omega) only [go_sem, simprocAttr, hcl, eq_self, decide_true])) | (refine rc (s1) rfl ?_ ?_; (· first | rfl | simp (disch := omega) only [go_sem, simprocAttr, hcl, eq_self, decide_true])) | (refine rc (r1) rfl ?_ ?_; (· first | rfl | simp (disch := omega) only [go_sem, simprocAttr, hcl, eq_self, decide_true])) | (refine rc (r3) rfl ?_ ?_; (· first | rfl | simp (disch := omega) only [go_sem, simprocAttr, hcl, eq_self, decide_true])) | (refine rc (r2) rfl ?_ ?_; (· first | rfl | simp (disch := omega) only [go_sem, simprocAttr, hcl, eq_self, decide_true])) | (refine wpG_split rfl rfl (fun hc => ?_) (fun hc => ?_) <;> try simp only [hcL] at hc) | (refine pw_cond _ rfl rfl (fun hc => ?_) (fun hc => ?_) <;> (try simp only [hcL] at hc) <;> try omega) | simp (disch := omega) only [go_sem, simprocAttr, hcl, eq_self, decide_true] | apply And.intro | omega | decide +kernel
  all_goals try exact bool_some rfl
  refine pw_loopI (κ := Nat) (fun (k : Nat) => k = 0) (fun (k : Nat) => [(1, .d (natsD t)), (5, .d (natsD L)), (7, .int k)]) (fun (k : Nat) => []) (fun (k : Nat) => 0) 0 ?_ ?_ ?_
  ·rfl
  ·exact eL [] _ _ (by refine ⟨?_, ?_⟩ <;> (repeat' first | exact fmn | refine fmc ⟨(by first | rfl | (simp (disch := omega) only [go_sem, simprocAttr, inL]; first | done | omega | (congr 1; done))), ?_⟩); done)
  ·rintro k rfl
   repeat' first | refine pw_step rfl ?_ | refine pw_ret ?_ | refine wR ?_ | (refine rc (awake_spec) rfl ?_ ?_; (· first | rfl | simp (disch := omega) only [go_sem, simprocAttr])) | (refine wpG_split rfl rfl (fun hc => ?_) (fun hc => ?_) <;> try simp only [hcL] at hc) | (refine pw_cond _ rfl rfl (fun hc => ?_) (fun hc => ?_) <;> (try simp only [hcL] at hc) <;> try omega) | simp (disch := omega) only [go_sem, simprocAttr] | apply And.intro | omega | decide +kernel
   all_goals exact bool_some rfl
def seenR (R : List Nat) (w : Nat) : Nat := if w ∈ R then R.idxOf w + 1 else 0
theorem seen_rep (n : Nat) : List.replicate n (D.int 0) = rowN n (seenR []) := by
 refine List.ext_getElem? fun k => ?_
 rw [List.getElem?_replicate]
 rcases Nat.lt_or_ge k n with hk | hk
 ·rw [rowN_get _ hk, if_pos hk]; rfl
 ·rw [List.getElem?_eq_none (by rw [rowN_len]; exact hk : (rowN n _).length ≤ k), if_neg (by omega)]
theorem seen_succ {R : List Nat} {x : Nat} (h : x ∉ R) (w : Nat) : seenR (R ++ [x]) w = if w = x then R.length + 1 else seenR R w := by
 rw [seenR, seenR]
 by_cases c : w = x
 ·subst c
  rw [if_pos (by simp), if_pos rfl, List.idxOf_append, if_neg h]; simp
 ·rw [if_neg c]
  by_cases c2 : w ∈ R
  ·rw [if_pos (by simp [c2]), if_pos c2, List.idxOf_append, if_pos c2]
  ·rw [if_neg (by simp [c2, c]), if_neg c2]
set_option maxHeartbeats 8000000 in
theorem lawOrders (g : Gr) (s : List Int) : CallsTo Tryd.prog 8 [gD g, intsD s] (.bool true) := by
 have hv := rValid_spec g
 rcases hg : gOk g with _ | _
 ·rw [hg] at hv
  refine callsTo_of Tryd.func8 rfl (by decide +kernel) (Nat.le_of_ble_eq_true rfl) ?_
  intro hat B X w0
  repeat' first | refine pw_step rfl ?_ | refine pw_ret ?_ | refine wR ?_ | (refine rc (hv) rfl ?_ ?_; (· first | rfl | simp (disch := omega) only [go_sem, simprocAttr])) | (refine rc (awake_spec) rfl ?_ ?_; (· first | rfl | simp (disch := omega) only [go_sem, simprocAttr])) | (refine wpG_split rfl rfl (fun hc => ?_) (fun hc => ?_) <;> try simp only [hcL] at hc) | (refine pw_cond _ rfl rfl (fun hc => ?_) (fun hc => ?_) <;> (try simp only [hcL] at hc) <;> try omega) | simp (disch := omega) only [go_sem, simprocAttr] | apply And.intro | omega | decide +kernel
  all_goals exact bool_some rfl
 rw [hg] at hv
 obtain ⟨n, l, rfl, hn, hll, hi⟩ := gOk_nat hg
 have hcl := castA_len l
 rcases Decidable.em (s.length = n) with hsn | hsn
 rotate_left
 ·refine callsTo_of Tryd.func8 rfl (by decide +kernel) (Nat.le_of_ble_eq_true rfl) ?_
  intro hat B X w0
  have hm := at_len 1 hat rfl
  rw [List.length_map] at hm
  have hsn' : ¬ (s.length : Int) = n := by omega
  repeat' first | refine pw_step rfl ?_ | refine pw_ret ?_ | refine wR ?_ | (refine rc (hv) rfl ?_ ?_; (· first | rfl | simp (disch := omega) only [go_sem, simprocAttr, hcl, hsn'])) | (refine rc (awake_spec) rfl ?_ ?_; (· first | rfl | simp (disch := omega) only [go_sem, simprocAttr, hcl, hsn'])) | (refine wpG_split rfl rfl (fun hc => ?_) (fun hc => ?_) <;> try simp only [hcL] at hc) | (refine pw_cond _ rfl rfl (fun hc => ?_) (fun hc => ?_) <;> (try simp only [hcL] at hc) <;> try omega) | simp (disch := omega) only [go_sem, simprocAttr, hcl, hsn'] | apply And.intro | omega | decide +kernel
  all_goals exact bool_some rfl
 subst hsn
 refine callsTo_of Tryd.func8 rfl (by decide +kernel) (Nat.le_of_ble_eq_true rfl) ?_
 intro hat B X w0
 have hm := at_len 1 hat rfl
 rw [List.length_map] at hm
 repeat' first | refine pw_step rfl ?_ | refine pw_ret ?_ | refine wR ?_ | (refine rc (hv) rfl ?_ ?_; (· first | rfl | simp (disch := omega) only [go_sem, simprocAttr, hcl])) | (refine rc (awake_spec) rfl ?_ ?_; (· first | rfl | simp (disch := omega) only [go_sem, simprocAttr, hcl])) | (refine wpG_split rfl rfl (fun hc => ?_) (fun hc => ?_) <;> try simp only [hcL] at hc) | (refine pw_cond _ rfl rfl (fun hc => ?_) (fun hc => ?_) <;> (try simp only [hcL] at hc) <;> try omega) | simp (disch := omega) only [go_sem, simprocAttr, hcl] | apply And.intro | omega | decide +kernel
 ·exact bool_some rfl
 refine pw_loopI (κ := List Nat) (fun (R : List Nat) => R.Nodup ∧ (∀ v, v ∈ R → v < s.length) ∧ R.length ≤ s.length ∧ s.take R.length = castL R) (fun (R : List Nat) => [(1, .d (intsD s)), (2, .ptr 2 0 0 0), (5, .ref 26 1 0 s.length s.length), (6, .int R.length)]) (fun (R : List Nat) => [(2, .cells [.int s.length, .d (arcsD (castA l))]), (26, .row 1 (rowN s.length (seenR R)))]) (fun (R : List Nat) => s.length - R.length) [] ?_ ?_ ?_
 ·exact ⟨List.nodup_nil, by simp, Nat.zero_le _, rfl⟩
 ·exact eL [] _ _ (by refine ⟨?_, ?_⟩ <;> (repeat' first | exact fmn | refine fmc ⟨(by first | rfl | (simp (disch := omega) only [go_sem, simprocAttr, inL, seen_rep s.length]; first | done | omega | (congr 1; done))), ?_⟩); done)
 ·rintro R ⟨h1, h2, h3, h4⟩
  rcases Nat.lt_or_ge R.length s.length with hlt | hge
  ·obtain ⟨e, he⟩ := get_some hlt
   by_cases c1 : e < 0
   ·repeat' first | refine pw_step rfl ?_ | refine pw_ret ?_ | refine wR ?_ | (refine rc (awake_spec) rfl ?_ ?_; (· first | rfl | simp (disch := omega) only [go_sem, simprocAttr, he, c1])) | (refine wpG_split rfl rfl (fun hc => ?_) (fun hc => ?_) <;> try simp only [hcL] at hc) | (refine pw_cond _ rfl rfl (fun hc => ?_) (fun hc => ?_) <;> (try simp only [hcL] at hc) <;> try omega) | simp (disch := omega) only [go_sem, simprocAttr, he, c1] | apply And.intro | omega | decide +kernel
    all_goals exact bool_some rfl
   obtain ⟨x, rfl⟩ : ∃ x : Nat, e = x := ⟨e.toNat, by omega⟩
   rcases Nat.lt_or_ge x s.length with hx | hx
   ·have hget := rowN_get (seenR R) hx
    by_cases c2 : x ∈ R
    ·have e2 : seenR R x = R.idxOf x + 1 := if_pos c2
     rw [e2] at hget
     have hix := List.idxOf_lt_length_iff.2 c2
     repeat' first | refine pw_step rfl ?_ | refine pw_ret ?_ | refine wR ?_ | (refine rc (awake_spec) rfl ?_ ?_; (· first | rfl | simp (disch := omega) only [go_sem, simprocAttr, he, hget, natD, rowN_len])) | (refine wpG_split rfl rfl (fun hc => ?_) (fun hc => ?_) <;> try simp only [hcL] at hc) | (refine pw_cond _ rfl rfl (fun hc => ?_) (fun hc => ?_) <;> (try simp only [hcL] at hc) <;> try omega) | simp (disch := omega) only [go_sem, simprocAttr, he, hget, natD, rowN_len] | apply And.intro | omega | decide +kernel
     all_goals exact bool_some rfl
    ·have e2 : seenR R x = 0 := if_neg c2
     rw [e2] at hget
     have hset := rowN_set (n := s.length) (f := seenR R) (f' := seenR (R ++ [x])) (i := x) (x := R.length + 1) (fun w _ => seen_succ c2 w)
     have hset' : (rowN s.length (seenR R)).set x (D.int ((R.length : Int) + 1)) = rowN s.length (seenR (R ++ [x])) := hset
     repeat' first | refine pw_step rfl ?_ | refine pw_ret ?_ | refine wR ?_ | (refine rc (awake_spec) rfl ?_ ?_; (· first | rfl | simp (disch := omega) only [go_sem, simprocAttr, he, hget, natD, rowN_len, hset'])) | (refine wpG_split rfl rfl (fun hc => ?_) (fun hc => ?_) <;> try simp only [hcL] at hc) | (refine pw_cond _ rfl rfl (fun hc => ?_) (fun hc => ?_) <;> (try simp only [hcL] at hc) <;> try omega) | simp (disch := omega) only [go_sem, simprocAttr, he, hget, natD, rowN_len, hset'] | apply And.intro | omega | decide +kernel
     refine ⟨R ++ [x], ?_, eL [] _ _ (by refine ⟨?_, ?_⟩ <;> (repeat' first | exact fmn | refine fmc ⟨(by first | rfl | (simp (disch := omega) only [go_sem, simprocAttr, inL, List.length_append, List.length_singleton]; first | done | omega | (congr 1; done))), ?_⟩); done), ?_⟩
     ·refine ⟨?_, ?_, ?_, ?_⟩
      ·rw [List.nodup_append]
       exact ⟨h1, by simp, by intro a ha b hb; rw [List.mem_singleton] at hb; subst hb; rintro rfl; exact c2 ha⟩
      ·intro v hv
       rw [List.mem_append, List.mem_singleton] at hv
       rcases hv with hv | rfl
       ·exact h2 v hv
       ·exact hx
      ·rw [List.length_append, List.length_singleton]; omega
      ·rw [List.length_append, List.length_singleton, take_snoc he, h4]; simp
     ·rw [List.length_append, List.length_singleton]; omega
   ·repeat' first | refine pw_step rfl ?_ | refine pw_ret ?_ | refine wR ?_ | (refine rc (awake_spec) rfl ?_ ?_; (· first | rfl | simp (disch := omega) only [go_sem, simprocAttr, he])) | (refine wpG_split rfl rfl (fun hc => ?_) (fun hc => ?_) <;> try simp only [hcL] at hc) | (refine pw_cond _ rfl rfl (fun hc => ?_) (fun hc => ?_) <;> (try simp only [hcL] at hc) <;> try omega) | simp (disch := omega) only [go_sem, simprocAttr, he] | apply And.intro | omega | decide +kernel
    all_goals exact bool_some rfl
  ·have hRl : R.length = s.length := by omega
   rw [hRl, List.take_length] at h4
   have hP : Part s.length 0 R := ⟨h1, h2, by omega⟩
   have b1 : brkB l (castL (backL R l)) = true := brkB_iff.2 (Go.Cy.back_brk hP hi)
   have s1 := rBackward_spec s.length l R hi hn hll hP
   have s2 := Breaks_ok s.length l (castL (backL R l)) hg hi hn hll
   rw [b1, intsD_castL] at s2
   have e1 : intsD s = natsD R := by rw [← intsD_castL, ← h4]
   rw [← e1] at s1
   repeat' first | refine pw_step rfl ?_ | refine pw_ret ?_ | refine wR ?_ | (refine rc (s1) rfl ?_ ?_; (· first | rfl | simp (disch := omega) only [go_sem, simprocAttr, hRl])) | (refine rc (s2) rfl ?_ ?_; (· first | rfl | simp (disch := omega) only [go_sem, simprocAttr, hRl])) | (refine rc (awake_spec) rfl ?_ ?_; (· first | rfl | simp (disch := omega) only [go_sem, simprocAttr, hRl])) | (refine wpG_split rfl rfl (fun hc => ?_) (fun hc => ?_) <;> try simp only [hcL] at hc) | (refine pw_cond _ rfl rfl (fun hc => ?_) (fun hc => ?_) <;> (try simp only [hcL] at hc) <;> try omega) | simp (disch := omega) only [go_sem, simprocAttr, hRl] | apply And.intro | omega | decide +kernel
   all_goals exact bool_some rfl
end Go.Proofs.YthbcmebhpabpnaaDoor
namespace Go.Proofs.YthbcmebhpabpnaaDoor
open Go Go.PS Go.Proofs
set_option maxRecDepth 100000
theorem cells_int {n : Nat} {cs : List D} (h : CellsOk Tryd.prog (n + 1) 3 cs) : ∃ m : Int, cs = [.int m] := by
 have hu : Tryd.prog.underlying 3 = some (.int .i64) := by kernel_rfl
 simp only [CellsOk, hu] at h
 obtain ⟨m, rfl, _⟩ := h
 exact ⟨m, rfl⟩
theorem cells_arc {n : Nat} {cs : List D} (h : CellsOk Tryd.prog (n + 2) 38 cs) : ∃ p : Arc, cs = [.int p.1, .int p.2] := by
 have h := cells_struct (ts := [3, 3]) (by kernel_rfl) h
 obtain ⟨p, r, rfl, hp, q, r', rfl, hq, rfl⟩ := h
 obtain ⟨a, rfl⟩ := cells_int hp
 obtain ⟨b, rfl⟩ := cells_int hq
 exact ⟨(a, b), rfl⟩
theorem cells_arcs {n : Nat} {cs : List D} (h : CellsOk Tryd.prog (n + 3) 22 cs) : ∃ l : List Arc, cs = [arcsD l] := by
 obtain ⟨l, rfl, hl⟩ := cells_slice (e := 38) (by kernel_rfl) h
 obtain ⟨ys, rfl⟩ := map_of (f := arcD) (l := l) (fun d hd => by
  obtain ⟨es, rfl, _, he⟩ := hl d hd
  obtain ⟨p, rfl⟩ := cells_arc he
  rw [ty38]; exact ⟨p, rfl⟩)
 exact ⟨ys, rfl⟩
theorem cells_ints {n : Nat} {cs : List D} (h : CellsOk Tryd.prog (n + 2) 25 cs) : ∃ l : List Int, cs = [intsD l] := by
 obtain ⟨l, rfl, hl⟩ := cells_slice (e := 3) (by kernel_rfl) h
 obtain ⟨ys, rfl⟩ := map_of (f := D.int) (l := l) (fun d hd => by
  obtain ⟨es, rfl, _, he⟩ := hl d hd
  obtain ⟨p, rfl⟩ := cells_int he
  rw [ty3]; exact ⟨p, rfl⟩)
 exact ⟨ys, rfl⟩
theorem arg_ints {x : D} (h : ArgOk Tryd.prog 25 x) : ∃ l : List Int, x = intsD l := by
 obtain ⟨cs, h, rfl⟩ := h
 obtain ⟨l, rfl⟩ := cells_ints h
 rw [ty25]; exact ⟨l, rfl⟩
theorem arg_g {x : D} (h : ArgOk Tryd.prog 24 x) : ∃ g : Gr, x = gD g := by
 obtain ⟨cs, h, rfl⟩ := h
 have h := cells_struct (ts := [3, 22]) (by kernel_rfl) h
 obtain ⟨_, _, rfl, h1, _, _, rfl, h2, rfl⟩ := h
 obtain ⟨a, rfl⟩ := cells_int h1
 obtain ⟨l, rfl⟩ := cells_arcs h2
 rw [ty24]
 exact ⟨(a, l), rfl⟩
end Go.Proofs.YthbcmebhpabpnaaDoor
