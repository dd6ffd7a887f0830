/- The laws on levels: awake; builds, valid, same, finds, reorders. -/
import Derived.Test.YtpmmikkojpcogaaR
namespace Go.Proofs.Ytpmmikkojpcogaa
open Go Go.PS Go.Proofs
set_option maxRecDepth 100000
set_option linter.unusedSimpArgs false
set_option linter.unusedVariables false
attribute [local irreducible] wpRun wpG CallsTo CallsM

def exG : Gr := (3, [(0, 2), (0, 1)])
def exR : List Int := [0, 1, 2]
def exL : Lv := (3, [[0], [1, 3], [2]], [(0, 3), (3, 2), (0, 1)], [[0, 3, 2], [0, 1]])
theorem ex_build : buildF exG exR = (exL, 0) := by decide +kernel
theorem ex_valid : validF exL = true := by
  simp only [validF, sortLv, exL, List.map_cons, List.map_nil, ← insN_eq]
  decide +kernel
theorem ex_pos : posF exL 3 = 1 := by
  rw [posF, if_pos ex_valid]; decide +kernel
set_option maxHeartbeats 1000000 in
theorem awake_spec : CallsTo Try.prog 17 [] (.bool true) := by
  have hb := Build_spec exG exR
  rw [ex_build] at hb
  have hw : wide exL := by
    intro y hy
    simp only [exL, List.mem_cons, List.not_mem_nil, or_false] at hy
    rcases hy with rfl | rfl | rfl <;> decide
  have hv := LvValid_spec exL hw
  rw [ex_valid] at hv
  have h1 := sameL_spec [[0], [1, 3], [2]] [[0], [1, 3], [2]]
  have h2 := sameL_spec [[0, 3, 2], [0, 1]] [[0, 3, 2], [0, 1]]
  rw [decide_eq_true rfl] at h1 h2
  have hp := Place_spec exL 3 hw
  rw [ex_pos] at hp
  simp only [exG, exR, exL, List.map_cons, List.map_nil] at hb hv hp h1 h2
  refine callsTo_of Try.func17 rfl (by decide +kernel) (Nat.le_of_ble_eq_true rfl) ?_
  intro hat B X w0
  repeat' first
    | refine pw_seq ?_
    | refine pw_skip ?_
    | refine pw_ret ?_
    | refine pw_exit ?_
    | refine pw_block ?_
    | refine pw_region (fun _ => false) hmix ?_
    | (refine run_callT (hb) rfl rfl ?_ ?_; (· first | exact .inl rfl | exact .inr rfl))
    | (refine run_callT (hb) rfl ?_ ?_ ?_; (· first | rfl | (simp (maxSteps := 1000000) (disch := omega) only [go_sem, Nat.reduceEqDiff, ↓reduceIte, Nat.reduceLT, Nat.reduceAdd, Nat.reduceSub, Nat.reduceLeDiff, Nat.reduceMul, Int.reduceToNat, reduceCtorEq, List.append_eq, List.map_cons, List.map_nil]; done)); (· first | exact .inl rfl | exact .inr rfl))
    | (refine run_callT (hv) rfl rfl ?_ ?_; (· first | exact .inl rfl | exact .inr rfl))
    | (refine run_callT (hv) rfl ?_ ?_ ?_; (· first | rfl | (simp (maxSteps := 1000000) (disch := omega) only [go_sem, Nat.reduceEqDiff, ↓reduceIte, Nat.reduceLT, Nat.reduceAdd, Nat.reduceSub, Nat.reduceLeDiff, Nat.reduceMul, Int.reduceToNat, reduceCtorEq, List.append_eq, List.map_cons, List.map_nil]; done)); (· first | exact .inl rfl | exact .inr rfl))
    | (refine run_callT (h1) rfl rfl ?_ ?_; (· first | exact .inl rfl | exact .inr rfl))
    | (refine run_callT (h1) rfl ?_ ?_ ?_; (· first | rfl | (simp (maxSteps := 1000000) (disch := omega) only [go_sem, Nat.reduceEqDiff, ↓reduceIte, Nat.reduceLT, Nat.reduceAdd, Nat.reduceSub, Nat.reduceLeDiff, Nat.reduceMul, Int.reduceToNat, reduceCtorEq, List.append_eq, List.map_cons, List.map_nil]; done)); (· first | exact .inl rfl | exact .inr rfl))
    | (refine run_callT (h2) rfl rfl ?_ ?_; (· first | exact .inl rfl | exact .inr rfl))
    | (refine run_callT (h2) rfl ?_ ?_ ?_; (· first | rfl | (simp (maxSteps := 1000000) (disch := omega) only [go_sem, Nat.reduceEqDiff, ↓reduceIte, Nat.reduceLT, Nat.reduceAdd, Nat.reduceSub, Nat.reduceLeDiff, Nat.reduceMul, Int.reduceToNat, reduceCtorEq, List.append_eq, List.map_cons, List.map_nil]; done)); (· first | exact .inl rfl | exact .inr rfl))
    | (refine run_callT (hp) rfl rfl ?_ ?_; (· first | exact .inl rfl | exact .inr rfl))
    | (refine run_callT (hp) rfl ?_ ?_ ?_; (· first | rfl | (simp (maxSteps := 1000000) (disch := omega) only [go_sem, Nat.reduceEqDiff, ↓reduceIte, Nat.reduceLT, Nat.reduceAdd, Nat.reduceSub, Nat.reduceLeDiff, Nat.reduceMul, Int.reduceToNat, reduceCtorEq, List.append_eq, List.map_cons, List.map_nil]; done)); (· first | exact .inl rfl | exact .inr rfl))
    | (refine wpG_split rfl rfl (fun hc => ?_) (fun hc => ?_) <;> try simp only [decide_eq_true_eq, decide_eq_false_iff_not, Bool.not_eq_true', Bool.not_eq_false', Bool.false_eq_true, Bool.true_eq_false, reduceCtorEq, Bool.and_eq_true, Bool.or_eq_true, not_and, not_or] at hc)
    | (refine pw_cond _ rfl rfl (fun hc => ?_) (fun hc => ?_) <;> (try simp only [decide_eq_true_eq, decide_eq_false_iff_not, Bool.not_eq_true', Bool.not_eq_false', Bool.false_eq_true, Bool.true_eq_false, reduceCtorEq, Bool.and_eq_true, Bool.or_eq_true, not_and, not_or] at hc) <;> try (exfalso; omega))
    | simp (maxSteps := 1000000) (disch := omega) only [go_sem, Nat.reduceEqDiff, ↓reduceIte, Nat.reduceLT, Nat.reduceAdd, Nat.reduceSub, Nat.reduceLeDiff, Nat.reduceMul, Int.reduceToNat, reduceCtorEq, List.append_eq, List.map_cons, List.map_nil]
    | apply And.intro
    | omega
    | decide +kernel
  exact bool_some rfl
theorem lawBuilds (g : Gr) (r : List Int) : CallsTo Try.prog 3 [gD g, intsD r] (.bool true) := by
  have h1 := Build_spec g r
  have h2 := rBuild_spec g r
  have h3 := rSame_spec (buildF g r).1 (buildF g r).1
  rw [sameLv_iff.2 rfl] at h3
  have h4 := awake_spec
  generalize buildF g r = b at h1 h2 h3
  refine callsTo_of Try.func3 rfl (by decide +kernel) (Nat.le_of_ble_eq_true rfl) ?_
  intro hat B X w0
  repeat' first
    | refine pw_seq ?_
    | refine pw_skip ?_
    | refine pw_ret ?_
    | refine pw_exit ?_
    | refine pw_block ?_
    | refine pw_region (fun _ => false) hmix ?_
    | (refine run_callT (h1) rfl rfl ?_ ?_; (· first | exact .inl rfl | exact .inr rfl))
    | (refine run_callT (h1) rfl ?_ ?_ ?_; (· first | rfl | (simp (maxSteps := 1000000) (disch := omega) only [go_sem, Nat.reduceEqDiff, ↓reduceIte, Nat.reduceLT, Nat.reduceAdd, Nat.reduceSub, Nat.reduceLeDiff, Nat.reduceMul, Int.reduceToNat, reduceCtorEq, List.append_eq]; done)); (· first | exact .inl rfl | exact .inr rfl))
    | (refine run_callT (h2) rfl rfl ?_ ?_; (· first | exact .inl rfl | exact .inr rfl))
    | (refine run_callT (h2) rfl ?_ ?_ ?_; (· first | rfl | (simp (maxSteps := 1000000) (disch := omega) only [go_sem, Nat.reduceEqDiff, ↓reduceIte, Nat.reduceLT, Nat.reduceAdd, Nat.reduceSub, Nat.reduceLeDiff, Nat.reduceMul, Int.reduceToNat, reduceCtorEq, List.append_eq]; done)); (· first | exact .inl rfl | exact .inr rfl))
    | (refine run_callT (h3) rfl rfl ?_ ?_; (· first | exact .inl rfl | exact .inr rfl))
    | (refine run_callT (h3) rfl ?_ ?_ ?_; (· first | rfl | (simp (maxSteps := 1000000) (disch := omega) only [go_sem, Nat.reduceEqDiff, ↓reduceIte, Nat.reduceLT, Nat.reduceAdd, Nat.reduceSub, Nat.reduceLeDiff, Nat.reduceMul, Int.reduceToNat, reduceCtorEq, List.append_eq]; done)); (· first | exact .inl rfl | exact .inr rfl))
    | (refine run_callT (h4) rfl rfl ?_ ?_; (· first | exact .inl rfl | exact .inr rfl))
    | (refine run_callT (h4) rfl ?_ ?_ ?_; (· first | rfl | (simp (maxSteps := 1000000) (disch := omega) only [go_sem, Nat.reduceEqDiff, ↓reduceIte, Nat.reduceLT, Nat.reduceAdd, Nat.reduceSub, Nat.reduceLeDiff, Nat.reduceMul, Int.reduceToNat, reduceCtorEq, List.append_eq]; done)); (· first | exact .inl rfl | exact .inr rfl))
    | (refine wpG_split rfl rfl (fun hc => ?_) (fun hc => ?_) <;> try simp only [decide_eq_true_eq, decide_eq_false_iff_not, Bool.not_eq_true', Bool.not_eq_false', Bool.false_eq_true, Bool.true_eq_false, reduceCtorEq, Bool.and_eq_true, Bool.or_eq_true, not_and, not_or] at hc)
    | (refine pw_cond _ rfl rfl (fun hc => ?_) (fun hc => ?_) <;> (try simp only [decide_eq_true_eq, decide_eq_false_iff_not, Bool.not_eq_true', Bool.not_eq_false', Bool.false_eq_true, Bool.true_eq_false, reduceCtorEq, Bool.and_eq_true, Bool.or_eq_true, not_and, not_or] at hc) <;> try (exfalso; omega))
    | simp (maxSteps := 1000000) (disch := omega) only [go_sem, Nat.reduceEqDiff, ↓reduceIte, Nat.reduceLT, Nat.reduceAdd, Nat.reduceSub, Nat.reduceLeDiff, Nat.reduceMul, Int.reduceToNat, reduceCtorEq, List.append_eq]
    | apply And.intro
    | omega
    | decide +kernel
  exact bool_some rfl
theorem lawValid (a : Lv) (hw : wide a) : CallsTo Try.prog 4 [lvD a] (.bool true) := by
  have h1 := small_spec a
  have h2 := LvValid_spec a hw
  have h3 := rLvValid_spec a hw
  rw [← valid_same] at h3
  have h4 := awake_spec
  rcases hs : smallF a with _ | _ <;> rw [hs] at h1
  all_goals
    refine callsTo_of Try.func4 rfl (by decide +kernel) (Nat.le_of_ble_eq_true rfl) ?_
    intro hat B X w0
    repeat' first
      | refine pw_seq ?_
      | refine pw_skip ?_
      | refine pw_ret ?_
      | refine pw_exit ?_
      | refine pw_block ?_
      | refine pw_region (fun _ => false) hmix ?_
      | (refine run_callT (h1) rfl rfl ?_ ?_; (· first | exact .inl rfl | exact .inr rfl))
      | (refine run_callT (h1) rfl ?_ ?_ ?_; (· first | rfl | (simp (maxSteps := 1000000) (disch := omega) only [go_sem, Nat.reduceEqDiff, ↓reduceIte, Nat.reduceLT, Nat.reduceAdd, Nat.reduceSub, Nat.reduceLeDiff, Nat.reduceMul, Int.reduceToNat, reduceCtorEq, List.append_eq]; done)); (· first | exact .inl rfl | exact .inr rfl))
      | (refine run_callT (h2) rfl rfl ?_ ?_; (· first | exact .inl rfl | exact .inr rfl))
      | (refine run_callT (h2) rfl ?_ ?_ ?_; (· first | rfl | (simp (maxSteps := 1000000) (disch := omega) only [go_sem, Nat.reduceEqDiff, ↓reduceIte, Nat.reduceLT, Nat.reduceAdd, Nat.reduceSub, Nat.reduceLeDiff, Nat.reduceMul, Int.reduceToNat, reduceCtorEq, List.append_eq]; done)); (· first | exact .inl rfl | exact .inr rfl))
      | (refine run_callT (h3) rfl rfl ?_ ?_; (· first | exact .inl rfl | exact .inr rfl))
      | (refine run_callT (h3) rfl ?_ ?_ ?_; (· first | rfl | (simp (maxSteps := 1000000) (disch := omega) only [go_sem, Nat.reduceEqDiff, ↓reduceIte, Nat.reduceLT, Nat.reduceAdd, Nat.reduceSub, Nat.reduceLeDiff, Nat.reduceMul, Int.reduceToNat, reduceCtorEq, List.append_eq]; done)); (· first | exact .inl rfl | exact .inr rfl))
      | (refine run_callT (h4) rfl rfl ?_ ?_; (· first | exact .inl rfl | exact .inr rfl))
      | (refine run_callT (h4) rfl ?_ ?_ ?_; (· first | rfl | (simp (maxSteps := 1000000) (disch := omega) only [go_sem, Nat.reduceEqDiff, ↓reduceIte, Nat.reduceLT, Nat.reduceAdd, Nat.reduceSub, Nat.reduceLeDiff, Nat.reduceMul, Int.reduceToNat, reduceCtorEq, List.append_eq]; done)); (· first | exact .inl rfl | exact .inr rfl))
      | (refine wpG_split rfl rfl (fun hc => ?_) (fun hc => ?_) <;> try simp only [decide_eq_true_eq, decide_eq_false_iff_not, Bool.not_eq_true', Bool.not_eq_false', Bool.false_eq_true, Bool.true_eq_false, reduceCtorEq, Bool.and_eq_true, Bool.or_eq_true, not_and, not_or] at hc)
      | (refine pw_cond _ rfl rfl (fun hc => ?_) (fun hc => ?_) <;> (try simp only [decide_eq_true_eq, decide_eq_false_iff_not, Bool.not_eq_true', Bool.not_eq_false', Bool.false_eq_true, Bool.true_eq_false, reduceCtorEq, Bool.and_eq_true, Bool.or_eq_true, not_and, not_or] at hc) <;> try (exfalso; omega))
      | simp (maxSteps := 1000000) (disch := omega) only [go_sem, Nat.reduceEqDiff, ↓reduceIte, Nat.reduceLT, Nat.reduceAdd, Nat.reduceSub, Nat.reduceLeDiff, Nat.reduceMul, Int.reduceToNat, reduceCtorEq, List.append_eq]
      | apply And.intro
      | omega
      | decide +kernel
    exact bool_some rfl
theorem lawSame (a b : Lv) : CallsTo Try.prog 5 [lvD a, lvD b] (.bool true) := by
  have h1 := small_spec a
  have h2 := small_spec b
  have h3 := Same_spec a b
  have h4 := rSame_spec a b
  have h5 := Same_spec b a
  have h6 := Same_spec a a
  rw [sameLv_iff.2 rfl] at h6
  rw [show sameLv b a = sameLv a b by rw [Bool.eq_iff_iff, sameLv_iff, sameLv_iff]; exact eq_comm] at h5
  have h7 := awake_spec
  rcases hs : smallF a with _ | _ <;> rw [hs] at h1 <;> rcases hs2 : smallF b with _ | _ <;> rw [hs2] at h2
  all_goals
    refine callsTo_of Try.func5 rfl (by decide +kernel) (Nat.le_of_ble_eq_true rfl) ?_
    intro hat B X w0
    repeat' first
      | refine pw_seq ?_
      | refine pw_skip ?_
      | refine pw_ret ?_
      | refine pw_exit ?_
      | refine pw_block ?_
      | refine pw_region (fun _ => false) hmix ?_
      | (refine run_callT (h1) rfl rfl ?_ ?_; (· first | exact .inl rfl | exact .inr rfl))
      | (refine run_callT (h1) rfl ?_ ?_ ?_; (· first | rfl | (simp (maxSteps := 1000000) (disch := omega) only [go_sem, Nat.reduceEqDiff, ↓reduceIte, Nat.reduceLT, Nat.reduceAdd, Nat.reduceSub, Nat.reduceLeDiff, Nat.reduceMul, Int.reduceToNat, reduceCtorEq, List.append_eq]; done)); (· first | exact .inl rfl | exact .inr rfl))
      | (refine run_callT (h2) rfl rfl ?_ ?_; (· first | exact .inl rfl | exact .inr rfl))
      | (refine run_callT (h2) rfl ?_ ?_ ?_; (· first | rfl | (simp (maxSteps := 1000000) (disch := omega) only [go_sem, Nat.reduceEqDiff, ↓reduceIte, Nat.reduceLT, Nat.reduceAdd, Nat.reduceSub, Nat.reduceLeDiff, Nat.reduceMul, Int.reduceToNat, reduceCtorEq, List.append_eq]; done)); (· first | exact .inl rfl | exact .inr rfl))
      | (refine run_callT (h3) rfl rfl ?_ ?_; (· first | exact .inl rfl | exact .inr rfl))
      | (refine run_callT (h3) rfl ?_ ?_ ?_; (· first | rfl | (simp (maxSteps := 1000000) (disch := omega) only [go_sem, Nat.reduceEqDiff, ↓reduceIte, Nat.reduceLT, Nat.reduceAdd, Nat.reduceSub, Nat.reduceLeDiff, Nat.reduceMul, Int.reduceToNat, reduceCtorEq, List.append_eq]; done)); (· first | exact .inl rfl | exact .inr rfl))
      | (refine run_callT (h4) rfl rfl ?_ ?_; (· first | exact .inl rfl | exact .inr rfl))
      | (refine run_callT (h4) rfl ?_ ?_ ?_; (· first | rfl | (simp (maxSteps := 1000000) (disch := omega) only [go_sem, Nat.reduceEqDiff, ↓reduceIte, Nat.reduceLT, Nat.reduceAdd, Nat.reduceSub, Nat.reduceLeDiff, Nat.reduceMul, Int.reduceToNat, reduceCtorEq, List.append_eq]; done)); (· first | exact .inl rfl | exact .inr rfl))
      | (refine run_callT (h5) rfl rfl ?_ ?_; (· first | exact .inl rfl | exact .inr rfl))
      | (refine run_callT (h5) rfl ?_ ?_ ?_; (· first | rfl | (simp (maxSteps := 1000000) (disch := omega) only [go_sem, Nat.reduceEqDiff, ↓reduceIte, Nat.reduceLT, Nat.reduceAdd, Nat.reduceSub, Nat.reduceLeDiff, Nat.reduceMul, Int.reduceToNat, reduceCtorEq, List.append_eq]; done)); (· first | exact .inl rfl | exact .inr rfl))
      | (refine run_callT (h6) rfl rfl ?_ ?_; (· first | exact .inl rfl | exact .inr rfl))
      | (refine run_callT (h6) rfl ?_ ?_ ?_; (· first | rfl | (simp (maxSteps := 1000000) (disch := omega) only [go_sem, Nat.reduceEqDiff, ↓reduceIte, Nat.reduceLT, Nat.reduceAdd, Nat.reduceSub, Nat.reduceLeDiff, Nat.reduceMul, Int.reduceToNat, reduceCtorEq, List.append_eq]; done)); (· first | exact .inl rfl | exact .inr rfl))
      | (refine run_callT (h7) rfl rfl ?_ ?_; (· first | exact .inl rfl | exact .inr rfl))
      | (refine run_callT (h7) rfl ?_ ?_ ?_; (· first | rfl | (simp (maxSteps := 1000000) (disch := omega) only [go_sem, Nat.reduceEqDiff, ↓reduceIte, Nat.reduceLT, Nat.reduceAdd, Nat.reduceSub, Nat.reduceLeDiff, Nat.reduceMul, Int.reduceToNat, reduceCtorEq, List.append_eq]; done)); (· first | exact .inl rfl | exact .inr rfl))
      | (refine wpG_split rfl rfl (fun hc => ?_) (fun hc => ?_) <;> try simp only [decide_eq_true_eq, decide_eq_false_iff_not, Bool.not_eq_true', Bool.not_eq_false', Bool.false_eq_true, Bool.true_eq_false, reduceCtorEq, Bool.and_eq_true, Bool.or_eq_true, not_and, not_or] at hc)
      | (refine pw_cond _ rfl rfl (fun hc => ?_) (fun hc => ?_) <;> (try simp only [decide_eq_true_eq, decide_eq_false_iff_not, Bool.not_eq_true', Bool.not_eq_false', Bool.false_eq_true, Bool.true_eq_false, reduceCtorEq, Bool.and_eq_true, Bool.or_eq_true, not_and, not_or] at hc) <;> try (exfalso; omega))
      | simp (maxSteps := 1000000) (disch := omega) only [go_sem, Nat.reduceEqDiff, ↓reduceIte, Nat.reduceLT, Nat.reduceAdd, Nat.reduceSub, Nat.reduceLeDiff, Nat.reduceMul, Int.reduceToNat, reduceCtorEq, List.append_eq]
      | apply And.intro
      | omega
      | decide +kernel
    exact bool_some rfl
theorem lawFinds (a : Lv) (v : Int) (hw : wide a) : CallsTo Try.prog 7 [lvD a, .int v] (.bool true) := by
  have h1 := small_spec a
  have h2 := Rank_spec a v hw
  have h3 := rRank_spec a v hw
  have h4 := Place_spec a v hw
  have h5 := rPlace_spec a v hw
  have h6 := awake_spec
  rcases hs : smallF a with _ | _ <;> rw [hs] at h1
  all_goals
    refine callsTo_of Try.func7 rfl (by decide +kernel) (Nat.le_of_ble_eq_true rfl) ?_
    intro hat B X w0
    repeat' first
      | refine pw_seq ?_
      | refine pw_skip ?_
      | refine pw_ret ?_
      | refine pw_exit ?_
      | refine pw_block ?_
      | refine pw_region (fun _ => false) hmix ?_
      | (refine run_callT (h1) rfl rfl ?_ ?_; (· first | exact .inl rfl | exact .inr rfl))
      | (refine run_callT (h1) rfl ?_ ?_ ?_; (· first | rfl | (simp (maxSteps := 1000000) (disch := omega) only [go_sem, Nat.reduceEqDiff, ↓reduceIte, Nat.reduceLT, Nat.reduceAdd, Nat.reduceSub, Nat.reduceLeDiff, Nat.reduceMul, Int.reduceToNat, reduceCtorEq, List.append_eq]; done)); (· first | exact .inl rfl | exact .inr rfl))
      | (refine run_callT (h2) rfl rfl ?_ ?_; (· first | exact .inl rfl | exact .inr rfl))
      | (refine run_callT (h2) rfl ?_ ?_ ?_; (· first | rfl | (simp (maxSteps := 1000000) (disch := omega) only [go_sem, Nat.reduceEqDiff, ↓reduceIte, Nat.reduceLT, Nat.reduceAdd, Nat.reduceSub, Nat.reduceLeDiff, Nat.reduceMul, Int.reduceToNat, reduceCtorEq, List.append_eq]; done)); (· first | exact .inl rfl | exact .inr rfl))
      | (refine run_callT (h3) rfl rfl ?_ ?_; (· first | exact .inl rfl | exact .inr rfl))
      | (refine run_callT (h3) rfl ?_ ?_ ?_; (· first | rfl | (simp (maxSteps := 1000000) (disch := omega) only [go_sem, Nat.reduceEqDiff, ↓reduceIte, Nat.reduceLT, Nat.reduceAdd, Nat.reduceSub, Nat.reduceLeDiff, Nat.reduceMul, Int.reduceToNat, reduceCtorEq, List.append_eq]; done)); (· first | exact .inl rfl | exact .inr rfl))
      | (refine run_callT (h4) rfl rfl ?_ ?_; (· first | exact .inl rfl | exact .inr rfl))
      | (refine run_callT (h4) rfl ?_ ?_ ?_; (· first | rfl | (simp (maxSteps := 1000000) (disch := omega) only [go_sem, Nat.reduceEqDiff, ↓reduceIte, Nat.reduceLT, Nat.reduceAdd, Nat.reduceSub, Nat.reduceLeDiff, Nat.reduceMul, Int.reduceToNat, reduceCtorEq, List.append_eq]; done)); (· first | exact .inl rfl | exact .inr rfl))
      | (refine run_callT (h5) rfl rfl ?_ ?_; (· first | exact .inl rfl | exact .inr rfl))
      | (refine run_callT (h5) rfl ?_ ?_ ?_; (· first | rfl | (simp (maxSteps := 1000000) (disch := omega) only [go_sem, Nat.reduceEqDiff, ↓reduceIte, Nat.reduceLT, Nat.reduceAdd, Nat.reduceSub, Nat.reduceLeDiff, Nat.reduceMul, Int.reduceToNat, reduceCtorEq, List.append_eq]; done)); (· first | exact .inl rfl | exact .inr rfl))
      | (refine run_callT (h6) rfl rfl ?_ ?_; (· first | exact .inl rfl | exact .inr rfl))
      | (refine run_callT (h6) rfl ?_ ?_ ?_; (· first | rfl | (simp (maxSteps := 1000000) (disch := omega) only [go_sem, Nat.reduceEqDiff, ↓reduceIte, Nat.reduceLT, Nat.reduceAdd, Nat.reduceSub, Nat.reduceLeDiff, Nat.reduceMul, Int.reduceToNat, reduceCtorEq, List.append_eq]; done)); (· first | exact .inl rfl | exact .inr rfl))
      | (refine wpG_split rfl rfl (fun hc => ?_) (fun hc => ?_) <;> try simp only [decide_eq_true_eq, decide_eq_false_iff_not, Bool.not_eq_true', Bool.not_eq_false', Bool.false_eq_true, Bool.true_eq_false, reduceCtorEq, Bool.and_eq_true, Bool.or_eq_true, not_and, not_or] at hc)
      | (refine pw_cond _ rfl rfl (fun hc => ?_) (fun hc => ?_) <;> (try simp only [decide_eq_true_eq, decide_eq_false_iff_not, Bool.not_eq_true', Bool.not_eq_false', Bool.false_eq_true, Bool.true_eq_false, reduceCtorEq, Bool.and_eq_true, Bool.or_eq_true, not_and, not_or] at hc) <;> try (exfalso; omega))
      | simp (maxSteps := 1000000) (disch := omega) only [go_sem, Nat.reduceEqDiff, ↓reduceIte, Nat.reduceLT, Nat.reduceAdd, Nat.reduceSub, Nat.reduceLeDiff, Nat.reduceMul, Int.reduceToNat, reduceCtorEq, List.append_eq]
      | apply And.intro
      | omega
      | decide +kernel
    exact bool_some rfl
set_option maxHeartbeats 1000000 in
theorem lawReorders (a : Lv) (i : Int) (o : List Int) (hw : wide a) : CallsTo Try.prog 9 [lvD a, .int i, intsD o] (.bool true) := by
  have h1 := small_spec a
  have h7 := awake_spec
  by_cases ho : o.length ≤ 600
  · have h2 := Reorder_spec a i o hw ho
    have h3 := rReorder_spec a i o hw ho
    have h4 := rLvValid_spec a hw
    have h5 := rSame_spec (reorderF a i o).1 (reorderF a i o).1
    rw [sameLv_iff.2 rfl] at h5
    have h6 := LvValid_spec (reorderF a i o).1 (reorder_wide hw ho)
    have hv := reorder_valid (a := a) (i := i) (o := o)
    generalize reorderF a i o = m at h2 h3 h5 h6 hv
    generalize rValidF a = b at h4
    obtain ⟨m, e⟩ := m
    dsimp only at h2 h3 h5 h6 hv
    rcases hs : smallF a with _ | _ <;> rw [hs] at h1
    · refine callsTo_of Try.func9 rfl (by decide +kernel) (Nat.le_of_ble_eq_true rfl) ?_
      intro hat B X w0
      have hol := at_len 2 hat rfl
      rw [List.length_map] at hol
      repeat' first
        | refine pw_seq ?_
        | refine pw_skip ?_
        | refine pw_ret ?_
        | refine pw_exit ?_
        | refine pw_block ?_
        | refine pw_region (fun _ => false) hmix ?_
        | (refine run_callT (h1) rfl rfl ?_ ?_; (· first | exact .inl rfl | exact .inr rfl))
        | (refine run_callT (h1) rfl ?_ ?_ ?_; (· first | rfl | (simp (maxSteps := 1000000) (disch := omega) only [go_sem, Nat.reduceEqDiff, ↓reduceIte, Nat.reduceLT, Nat.reduceAdd, Nat.reduceSub, Nat.reduceLeDiff, Nat.reduceMul, Int.reduceToNat, reduceCtorEq, List.append_eq]; done)); (· first | exact .inl rfl | exact .inr rfl))
        | (refine run_callT (h2) rfl rfl ?_ ?_; (· first | exact .inl rfl | exact .inr rfl))
        | (refine run_callT (h2) rfl ?_ ?_ ?_; (· first | rfl | (simp (maxSteps := 1000000) (disch := omega) only [go_sem, Nat.reduceEqDiff, ↓reduceIte, Nat.reduceLT, Nat.reduceAdd, Nat.reduceSub, Nat.reduceLeDiff, Nat.reduceMul, Int.reduceToNat, reduceCtorEq, List.append_eq]; done)); (· first | exact .inl rfl | exact .inr rfl))
        | (refine run_callT (h3) rfl rfl ?_ ?_; (· first | exact .inl rfl | exact .inr rfl))
        | (refine run_callT (h3) rfl ?_ ?_ ?_; (· first | rfl | (simp (maxSteps := 1000000) (disch := omega) only [go_sem, Nat.reduceEqDiff, ↓reduceIte, Nat.reduceLT, Nat.reduceAdd, Nat.reduceSub, Nat.reduceLeDiff, Nat.reduceMul, Int.reduceToNat, reduceCtorEq, List.append_eq]; done)); (· first | exact .inl rfl | exact .inr rfl))
        | (refine run_callT (h4) rfl rfl ?_ ?_; (· first | exact .inl rfl | exact .inr rfl))
        | (refine run_callT (h4) rfl ?_ ?_ ?_; (· first | rfl | (simp (maxSteps := 1000000) (disch := omega) only [go_sem, Nat.reduceEqDiff, ↓reduceIte, Nat.reduceLT, Nat.reduceAdd, Nat.reduceSub, Nat.reduceLeDiff, Nat.reduceMul, Int.reduceToNat, reduceCtorEq, List.append_eq]; done)); (· first | exact .inl rfl | exact .inr rfl))
        | (refine run_callT (h5) rfl rfl ?_ ?_; (· first | exact .inl rfl | exact .inr rfl))
        | (refine run_callT (h5) rfl ?_ ?_ ?_; (· first | rfl | (simp (maxSteps := 1000000) (disch := omega) only [go_sem, Nat.reduceEqDiff, ↓reduceIte, Nat.reduceLT, Nat.reduceAdd, Nat.reduceSub, Nat.reduceLeDiff, Nat.reduceMul, Int.reduceToNat, reduceCtorEq, List.append_eq]; done)); (· first | exact .inl rfl | exact .inr rfl))
        | (refine run_callT (h6) rfl rfl ?_ ?_; (· first | exact .inl rfl | exact .inr rfl))
        | (refine run_callT (h6) rfl ?_ ?_ ?_; (· first | rfl | (simp (maxSteps := 1000000) (disch := omega) only [go_sem, Nat.reduceEqDiff, ↓reduceIte, Nat.reduceLT, Nat.reduceAdd, Nat.reduceSub, Nat.reduceLeDiff, Nat.reduceMul, Int.reduceToNat, reduceCtorEq, List.append_eq]; done)); (· first | exact .inl rfl | exact .inr rfl))
        | (refine run_callT (h7) rfl rfl ?_ ?_; (· first | exact .inl rfl | exact .inr rfl))
        | (refine run_callT (h7) rfl ?_ ?_ ?_; (· first | rfl | (simp (maxSteps := 1000000) (disch := omega) only [go_sem, Nat.reduceEqDiff, ↓reduceIte, Nat.reduceLT, Nat.reduceAdd, Nat.reduceSub, Nat.reduceLeDiff, Nat.reduceMul, Int.reduceToNat, reduceCtorEq, List.append_eq]; done)); (· first | exact .inl rfl | exact .inr rfl))
        | (refine wpG_split rfl rfl (fun hc => ?_) (fun hc => ?_) <;> try simp only [decide_eq_true_eq, decide_eq_false_iff_not, Bool.not_eq_true', Bool.not_eq_false', Bool.false_eq_true, Bool.true_eq_false, reduceCtorEq, Bool.and_eq_true, Bool.or_eq_true, not_and, not_or] at hc)
        | (refine pw_cond _ rfl rfl (fun hc => ?_) (fun hc => ?_) <;> (try simp only [decide_eq_true_eq, decide_eq_false_iff_not, Bool.not_eq_true', Bool.not_eq_false', Bool.false_eq_true, Bool.true_eq_false, reduceCtorEq, Bool.and_eq_true, Bool.or_eq_true, not_and, not_or] at hc) <;> try (exfalso; omega))
        | simp (maxSteps := 1000000) (disch := omega) only [go_sem, Nat.reduceEqDiff, ↓reduceIte, Nat.reduceLT, Nat.reduceAdd, Nat.reduceSub, Nat.reduceLeDiff, Nat.reduceMul, Int.reduceToNat, reduceCtorEq, List.append_eq]
        | apply And.intro
        | omega
        | decide +kernel
      exact bool_some rfl
    · by_cases he : e = 0
      · rw [hv he] at h6
        subst he
        refine callsTo_of Try.func9 rfl (by decide +kernel) (Nat.le_of_ble_eq_true rfl) ?_
        intro hat B X w0
        have hol := at_len 2 hat rfl
        rw [List.length_map] at hol
        repeat' first
          | refine pw_seq ?_
          | refine pw_skip ?_
          | refine pw_ret ?_
          | refine pw_exit ?_
          | refine pw_block ?_
          | refine pw_region (fun _ => false) hmix ?_
          | (refine run_callT (h1) rfl rfl ?_ ?_; (· first | exact .inl rfl | exact .inr rfl))
          | (refine run_callT (h1) rfl ?_ ?_ ?_; (· first | rfl | (simp (maxSteps := 1000000) (disch := omega) only [go_sem, Nat.reduceEqDiff, ↓reduceIte, Nat.reduceLT, Nat.reduceAdd, Nat.reduceSub, Nat.reduceLeDiff, Nat.reduceMul, Int.reduceToNat, reduceCtorEq, List.append_eq]; done)); (· first | exact .inl rfl | exact .inr rfl))
          | (refine run_callT (h2) rfl rfl ?_ ?_; (· first | exact .inl rfl | exact .inr rfl))
          | (refine run_callT (h2) rfl ?_ ?_ ?_; (· first | rfl | (simp (maxSteps := 1000000) (disch := omega) only [go_sem, Nat.reduceEqDiff, ↓reduceIte, Nat.reduceLT, Nat.reduceAdd, Nat.reduceSub, Nat.reduceLeDiff, Nat.reduceMul, Int.reduceToNat, reduceCtorEq, List.append_eq]; done)); (· first | exact .inl rfl | exact .inr rfl))
          | (refine run_callT (h3) rfl rfl ?_ ?_; (· first | exact .inl rfl | exact .inr rfl))
          | (refine run_callT (h3) rfl ?_ ?_ ?_; (· first | rfl | (simp (maxSteps := 1000000) (disch := omega) only [go_sem, Nat.reduceEqDiff, ↓reduceIte, Nat.reduceLT, Nat.reduceAdd, Nat.reduceSub, Nat.reduceLeDiff, Nat.reduceMul, Int.reduceToNat, reduceCtorEq, List.append_eq]; done)); (· first | exact .inl rfl | exact .inr rfl))
          | (refine run_callT (h4) rfl rfl ?_ ?_; (· first | exact .inl rfl | exact .inr rfl))
          | (refine run_callT (h4) rfl ?_ ?_ ?_; (· first | rfl | (simp (maxSteps := 1000000) (disch := omega) only [go_sem, Nat.reduceEqDiff, ↓reduceIte, Nat.reduceLT, Nat.reduceAdd, Nat.reduceSub, Nat.reduceLeDiff, Nat.reduceMul, Int.reduceToNat, reduceCtorEq, List.append_eq]; done)); (· first | exact .inl rfl | exact .inr rfl))
          | (refine run_callT (h5) rfl rfl ?_ ?_; (· first | exact .inl rfl | exact .inr rfl))
          | (refine run_callT (h5) rfl ?_ ?_ ?_; (· first | rfl | (simp (maxSteps := 1000000) (disch := omega) only [go_sem, Nat.reduceEqDiff, ↓reduceIte, Nat.reduceLT, Nat.reduceAdd, Nat.reduceSub, Nat.reduceLeDiff, Nat.reduceMul, Int.reduceToNat, reduceCtorEq, List.append_eq]; done)); (· first | exact .inl rfl | exact .inr rfl))
          | (refine run_callT (h6) rfl rfl ?_ ?_; (· first | exact .inl rfl | exact .inr rfl))
          | (refine run_callT (h6) rfl ?_ ?_ ?_; (· first | rfl | (simp (maxSteps := 1000000) (disch := omega) only [go_sem, Nat.reduceEqDiff, ↓reduceIte, Nat.reduceLT, Nat.reduceAdd, Nat.reduceSub, Nat.reduceLeDiff, Nat.reduceMul, Int.reduceToNat, reduceCtorEq, List.append_eq]; done)); (· first | exact .inl rfl | exact .inr rfl))
          | (refine run_callT (h7) rfl rfl ?_ ?_; (· first | exact .inl rfl | exact .inr rfl))
          | (refine run_callT (h7) rfl ?_ ?_ ?_; (· first | rfl | (simp (maxSteps := 1000000) (disch := omega) only [go_sem, Nat.reduceEqDiff, ↓reduceIte, Nat.reduceLT, Nat.reduceAdd, Nat.reduceSub, Nat.reduceLeDiff, Nat.reduceMul, Int.reduceToNat, reduceCtorEq, List.append_eq]; done)); (· first | exact .inl rfl | exact .inr rfl))
          | (refine wpG_split rfl rfl (fun hc => ?_) (fun hc => ?_) <;> try simp only [decide_eq_true_eq, decide_eq_false_iff_not, Bool.not_eq_true', Bool.not_eq_false', Bool.false_eq_true, Bool.true_eq_false, reduceCtorEq, Bool.and_eq_true, Bool.or_eq_true, not_and, not_or] at hc)
          | (refine pw_cond _ rfl rfl (fun hc => ?_) (fun hc => ?_) <;> (try simp only [decide_eq_true_eq, decide_eq_false_iff_not, Bool.not_eq_true', Bool.not_eq_false', Bool.false_eq_true, Bool.true_eq_false, reduceCtorEq, Bool.and_eq_true, Bool.or_eq_true, not_and, not_or] at hc) <;> try (exfalso; omega))
          | simp (maxSteps := 1000000) (disch := omega) only [go_sem, Nat.reduceEqDiff, ↓reduceIte, Nat.reduceLT, Nat.reduceAdd, Nat.reduceSub, Nat.reduceLeDiff, Nat.reduceMul, Int.reduceToNat, reduceCtorEq, List.append_eq]
          | apply And.intro
          | omega
          | decide +kernel
        exact bool_some rfl
      · refine callsTo_of Try.func9 rfl (by decide +kernel) (Nat.le_of_ble_eq_true rfl) ?_
        intro hat B X w0
        have hol := at_len 2 hat rfl
        rw [List.length_map] at hol
        repeat' first
          | refine pw_seq ?_
          | refine pw_skip ?_
          | refine pw_ret ?_
          | refine pw_exit ?_
          | refine pw_block ?_
          | refine pw_region (fun _ => false) hmix ?_
          | (refine run_callT (h1) rfl rfl ?_ ?_; (· first | exact .inl rfl | exact .inr rfl))
          | (refine run_callT (h1) rfl ?_ ?_ ?_; (· first | rfl | (simp (maxSteps := 1000000) (disch := omega) only [go_sem, Nat.reduceEqDiff, ↓reduceIte, Nat.reduceLT, Nat.reduceAdd, Nat.reduceSub, Nat.reduceLeDiff, Nat.reduceMul, Int.reduceToNat, reduceCtorEq, List.append_eq, he]; done)); (· first | exact .inl rfl | exact .inr rfl))
          | (refine run_callT (h2) rfl rfl ?_ ?_; (· first | exact .inl rfl | exact .inr rfl))
          | (refine run_callT (h2) rfl ?_ ?_ ?_; (· first | rfl | (simp (maxSteps := 1000000) (disch := omega) only [go_sem, Nat.reduceEqDiff, ↓reduceIte, Nat.reduceLT, Nat.reduceAdd, Nat.reduceSub, Nat.reduceLeDiff, Nat.reduceMul, Int.reduceToNat, reduceCtorEq, List.append_eq, he]; done)); (· first | exact .inl rfl | exact .inr rfl))
          | (refine run_callT (h3) rfl rfl ?_ ?_; (· first | exact .inl rfl | exact .inr rfl))
          | (refine run_callT (h3) rfl ?_ ?_ ?_; (· first | rfl | (simp (maxSteps := 1000000) (disch := omega) only [go_sem, Nat.reduceEqDiff, ↓reduceIte, Nat.reduceLT, Nat.reduceAdd, Nat.reduceSub, Nat.reduceLeDiff, Nat.reduceMul, Int.reduceToNat, reduceCtorEq, List.append_eq, he]; done)); (· first | exact .inl rfl | exact .inr rfl))
          | (refine run_callT (h4) rfl rfl ?_ ?_; (· first | exact .inl rfl | exact .inr rfl))
          | (refine run_callT (h4) rfl ?_ ?_ ?_; (· first | rfl | (simp (maxSteps := 1000000) (disch := omega) only [go_sem, Nat.reduceEqDiff, ↓reduceIte, Nat.reduceLT, Nat.reduceAdd, Nat.reduceSub, Nat.reduceLeDiff, Nat.reduceMul, Int.reduceToNat, reduceCtorEq, List.append_eq, he]; done)); (· first | exact .inl rfl | exact .inr rfl))
          | (refine run_callT (h5) rfl rfl ?_ ?_; (· first | exact .inl rfl | exact .inr rfl))
          | (refine run_callT (h5) rfl ?_ ?_ ?_; (· first | rfl | (simp (maxSteps := 1000000) (disch := omega) only [go_sem, Nat.reduceEqDiff, ↓reduceIte, Nat.reduceLT, Nat.reduceAdd, Nat.reduceSub, Nat.reduceLeDiff, Nat.reduceMul, Int.reduceToNat, reduceCtorEq, List.append_eq, he]; done)); (· first | exact .inl rfl | exact .inr rfl))
          | (refine run_callT (h6) rfl rfl ?_ ?_; (· first | exact .inl rfl | exact .inr rfl))
          | (refine run_callT (h6) rfl ?_ ?_ ?_; (· first | rfl | (simp (maxSteps := 1000000) (disch := omega) only [go_sem, Nat.reduceEqDiff, ↓reduceIte, Nat.reduceLT, Nat.reduceAdd, Nat.reduceSub, Nat.reduceLeDiff, Nat.reduceMul, Int.reduceToNat, reduceCtorEq, List.append_eq, he]; done)); (· first | exact .inl rfl | exact .inr rfl))
          | (refine run_callT (h7) rfl rfl ?_ ?_; (· first | exact .inl rfl | exact .inr rfl))
          | (refine run_callT (h7) rfl ?_ ?_ ?_; (· first | rfl | (simp (maxSteps := 1000000) (disch := omega) only [go_sem, Nat.reduceEqDiff, ↓reduceIte, Nat.reduceLT, Nat.reduceAdd, Nat.reduceSub, Nat.reduceLeDiff, Nat.reduceMul, Int.reduceToNat, reduceCtorEq, List.append_eq, he]; done)); (· first | exact .inl rfl | exact .inr rfl))
          | (refine wpG_split rfl rfl (fun hc => ?_) (fun hc => ?_) <;> try simp only [decide_eq_true_eq, decide_eq_false_iff_not, Bool.not_eq_true', Bool.not_eq_false', Bool.false_eq_true, Bool.true_eq_false, reduceCtorEq, Bool.and_eq_true, Bool.or_eq_true, not_and, not_or] at hc)
          | (refine pw_cond _ rfl rfl (fun hc => ?_) (fun hc => ?_) <;> (try simp only [decide_eq_true_eq, decide_eq_false_iff_not, Bool.not_eq_true', Bool.not_eq_false', Bool.false_eq_true, Bool.true_eq_false, reduceCtorEq, Bool.and_eq_true, Bool.or_eq_true, not_and, not_or] at hc) <;> try (exfalso; omega))
          | simp (maxSteps := 1000000) (disch := omega) only [go_sem, Nat.reduceEqDiff, ↓reduceIte, Nat.reduceLT, Nat.reduceAdd, Nat.reduceSub, Nat.reduceLeDiff, Nat.reduceMul, Int.reduceToNat, reduceCtorEq, List.append_eq, he]
          | apply And.intro
          | omega
          | decide +kernel
        exact bool_some rfl
  · rcases hs : smallF a with _ | _ <;> rw [hs] at h1
    all_goals
      refine callsTo_of Try.func9 rfl (by decide +kernel) (Nat.le_of_ble_eq_true rfl) ?_
      intro hat B X w0
      have hol := at_len 2 hat rfl
      rw [List.length_map] at hol
      repeat' first
        | refine pw_seq ?_
        | refine pw_skip ?_
        | refine pw_ret ?_
        | refine pw_exit ?_
        | refine pw_block ?_
        | refine pw_region (fun _ => false) hmix ?_
        | (refine run_callT (h1) rfl rfl ?_ ?_; (· first | exact .inl rfl | exact .inr rfl))
        | (refine run_callT (h1) rfl ?_ ?_ ?_; (· first | rfl | (simp (maxSteps := 1000000) (disch := omega) only [go_sem, Nat.reduceEqDiff, ↓reduceIte, Nat.reduceLT, Nat.reduceAdd, Nat.reduceSub, Nat.reduceLeDiff, Nat.reduceMul, Int.reduceToNat, reduceCtorEq, List.append_eq]; done)); (· first | exact .inl rfl | exact .inr rfl))
        | (refine run_callT (h7) rfl rfl ?_ ?_; (· first | exact .inl rfl | exact .inr rfl))
        | (refine run_callT (h7) rfl ?_ ?_ ?_; (· first | rfl | (simp (maxSteps := 1000000) (disch := omega) only [go_sem, Nat.reduceEqDiff, ↓reduceIte, Nat.reduceLT, Nat.reduceAdd, Nat.reduceSub, Nat.reduceLeDiff, Nat.reduceMul, Int.reduceToNat, reduceCtorEq, List.append_eq]; done)); (· first | exact .inl rfl | exact .inr rfl))
        | (refine wpG_split rfl rfl (fun hc => ?_) (fun hc => ?_) <;> try simp only [decide_eq_true_eq, decide_eq_false_iff_not, Bool.not_eq_true', Bool.not_eq_false', Bool.false_eq_true, Bool.true_eq_false, reduceCtorEq, Bool.and_eq_true, Bool.or_eq_true, not_and, not_or] at hc)
        | (refine pw_cond _ rfl rfl (fun hc => ?_) (fun hc => ?_) <;> (try simp only [decide_eq_true_eq, decide_eq_false_iff_not, Bool.not_eq_true', Bool.not_eq_false', Bool.false_eq_true, Bool.true_eq_false, reduceCtorEq, Bool.and_eq_true, Bool.or_eq_true, not_and, not_or] at hc) <;> try (exfalso; omega))
        | simp (maxSteps := 1000000) (disch := omega) only [go_sem, Nat.reduceEqDiff, ↓reduceIte, Nat.reduceLT, Nat.reduceAdd, Nat.reduceSub, Nat.reduceLeDiff, Nat.reduceMul, Int.reduceToNat, reduceCtorEq, List.append_eq]
        | apply And.intro
        | omega
        | decide +kernel
      exact bool_some rfl
end Go.Proofs.Ytpmmikkojpcogaa
