/- The examples of the chapter. -/
import Derived.Test.YtcbcccphlhpajaaQ
namespace Go.Proofs.Ytcbcccphlhpajaa
open Go Go.PS Go.Proofs
set_option maxRecDepth 100000
set_option linter.unusedSimpArgs false
set_option linter.unusedVariables false
attribute [local irreducible] wpRun wpG CallsTo CallsM
theorem solve_of (n : Nat) (l : List Bd) (R : Nat) (a f : List Int) (hg : nOk (n, l) = true) (h0 : (longestF n (stepsL l (zeros l)) (allI n)).isSome = true)
    (hc : certF n l R (zeros l) (needRow l n l.length) = some f) (hfl : f.length = l.length) (hW : (longestF n (stepsL l f) (allI n)).map longs = some a) (hal : a.length = n) : SolveOk (n, l) a f := by
  obtain ⟨W0, h0⟩ := Option.isSome_iff_exists.1 h0
  cases h : longestF n (stepsL l f) (allI n) with
  | none => rw [h] at hW; cases hW
  | some W =>
    rw [h] at hW
    simp only [Option.map_some, Option.some.injEq] at hW
    subst hW
    exact ⟨n, rfl, hal, hfl, Solve_ok n l f R W0 W hg h0 hc hfl h (by simpa [longs] using hal)⟩
abbrev gA : Net := (3, [(0, 1, 1, 1), (1, 2, 1, 1), (0, 2, 4, 1)])
theorem solveA : SolveOk gA [0, 1, 4] [0, 0, 2] := solve_of 3 _ 10 _ _ (by decide +kernel) (by decide +kernel) (by decide +kernel) (by decide +kernel) (by decide +kernel) (by decide +kernel)
theorem solveA2 : SolveOk (mirF gA) [4, 1, 0] [0, 0, 2] := solve_of 3 _ 10 _ _ (by decide +kernel) (by decide +kernel) (by decide +kernel) (by decide +kernel) (by decide +kernel) (by decide +kernel)
theorem fromTo_of {l : List Int} (h : (l.all fun x => decide (0 ≤ x ∧ x ≤ 1099511627776)) = true) : fromTo l 1099511627776 := by
  intro v
  rw [at0]
  cases hx : l[((v : Nat) : Int).toNat]? with
  | none => simp
  | some x =>
    simp only [List.all_eq_true, decide_eq_true_eq] at h
    exact h x (List.mem_of_getElem? hx)
set_option maxHeartbeats 4000000 in
theorem awake_spec : CallsTo Try.prog 9 [] (.bool true) := by
  obtain ⟨n, hn, _, _, s1⟩ := solveA
  obtain rfl : n = 3 := by simp at hn; omega
  have s2 := Balanced_ok gA _ _ _ _ solveA solveA2 (by decide +kernel) (by decide +kernel) (fromTo_of (by decide +kernel)) (fromTo_of (by decide +kernel))
  rw [show midF [0, 1, 4] [4, 1, 0] = [0, 2, 4] by decide +kernel] at s2
  have s3 := Solve_cycle 2 [(0, 1, 1, 0), (1, 0, 1, 0)] (by decide +kernel) (by decide +kernel)
  have s4 := Valid_spec gA
  rw [show nOk gA = true by decide +kernel] at s4
  have s5 := Cost_spec gA [0, 1, 4]
  rw [show costF gA [0, 1, 4] = 8 by decide +kernel] at s5
  have s6 := Check_spec gA [0, 1, 4] [0, 0, 2]
  rw [show checkF gA [0, 1, 4] [0, 0, 2] = true by decide +kernel] at s6
  have s7 := Check_spec gA [0, 1, 4] [1, 1, 1]
  rw [show checkF gA [0, 1, 4] [1, 1, 1] = false by decide +kernel] at s7
  have s8 := Feasible_spec gA [0, 1, 4]
  rw [show feasF gA [0, 1, 4] = true by decide +kernel] at s8
  have s9 := Feasible_spec gA [0, 1, 3]
  rw [show feasF gA [0, 1, 3] = false by decide +kernel] at s9
  have t1 := SameInts_spec [0, 1, 4] [0, 1, 4]
  have t2 := SameInts_spec [0, 0, 2] [0, 0, 2]
  have t3 := SameInts_spec [0, 2, 4] [0, 2, 4]
  simp only [nD, gA, bdsD, bdD, intsD, intsL, List.map_cons, List.map_nil, decide_true, List.length_cons, List.length_nil, Nat.reduceAdd] at s1 s2 s3 s4 s5 s6 s7 s8 s9 t1 t2 t3
  refine callsTo_of Try.func9 rfl (by decide +kernel) (Nat.le_of_ble_eq_true rfl) ?_
  intro hat B X w0
  repeat' first
    | refine pw_seq ?_
    | refine pw_skip ?_
    | refine pw_ret ?_
    | refine pw_exit ?_
    | refine pw_block ?_
    | refine pw_region (fun _ => false) hmix ?_
    | (refine run_callMT [(2000, 900), (2001, 901)] (s1) rfl rfl rfl rfl rfl rfl (nodup_of rfl) ?_ ?_ ?_ ?_; (· (repeat' first | exact List.forall_mem_nil _ | refine List.forall_mem_cons.2 ⟨⟨nofun, fun h => by first | rfl | (simp at h; done)⟩, ?_⟩)); (· (repeat' first | exact trivial | refine ⟨.inl rfl, ?_⟩ | refine ⟨.inr ⟨_, rfl, rfl, .inl rfl⟩, ?_⟩)); (· (repeat' first | exact List.forall_mem_nil _ | refine List.forall_mem_cons.2 ⟨rfl, ?_⟩)))
    | (refine run_callMT [(2000, 902)] (s2) rfl rfl rfl rfl rfl rfl (nodup_of rfl) ?_ ?_ ?_ ?_; (· (repeat' first | exact List.forall_mem_nil _ | refine List.forall_mem_cons.2 ⟨⟨nofun, fun h => by first | rfl | (simp at h; done)⟩, ?_⟩)); (· (repeat' first | exact trivial | refine ⟨.inl rfl, ?_⟩ | refine ⟨.inr ⟨_, rfl, rfl, .inl rfl⟩, ?_⟩)); (· (repeat' first | exact List.forall_mem_nil _ | refine List.forall_mem_cons.2 ⟨rfl, ?_⟩)))
    | (refine run_callMT [(2000, 903), (2001, 904)] (s3) rfl rfl rfl rfl rfl rfl (nodup_of rfl) ?_ ?_ ?_ ?_; (· (repeat' first | exact List.forall_mem_nil _ | refine List.forall_mem_cons.2 ⟨⟨nofun, fun h => by first | rfl | (simp at h; done)⟩, ?_⟩)); (· (repeat' first | exact trivial | refine ⟨.inl rfl, ?_⟩ | refine ⟨.inr ⟨_, rfl, rfl, .inl rfl⟩, ?_⟩)); (· (repeat' first | exact List.forall_mem_nil _ | refine List.forall_mem_cons.2 ⟨rfl, ?_⟩)))
    | (refine run_callT (s4) rfl rfl ?_ ?_; (· first | exact .inl rfl | exact .inr rfl))
    | (refine run_callT (s4) rfl ?_ ?_ ?_; (· first | rfl | (simp (maxSteps := 1000000) (disch := omega) only [go_sem, argEnv, envOf, obOf, Nat.reduceEqDiff, ↓reduceIte, Nat.reduceLT, Nat.beq_eq, Bool.or_eq_true, argEnvM, gOf, Nat.zero_add, Nat.le_refl, Nat.reduceAdd, Nat.reduceSub, Nat.reduceLeDiff, Nat.reduceMul, Nat.zero_mul, Nat.add_zero, Int.reduceToNat, reduceCtorEq, wrap_in, thenQ, blockQ, forall_eq, forall_eq_or_imp, eq_self, decide_true, List.append_eq]; done)); (· first | exact .inl rfl | exact .inr rfl))
    | (refine run_callT (s5) rfl rfl ?_ ?_; (· first | exact .inl rfl | exact .inr rfl))
    | (refine run_callT (s5) rfl ?_ ?_ ?_; (· first | rfl | (simp (maxSteps := 1000000) (disch := omega) only [go_sem, argEnv, envOf, obOf, Nat.reduceEqDiff, ↓reduceIte, Nat.reduceLT, Nat.beq_eq, Bool.or_eq_true, argEnvM, gOf, Nat.zero_add, Nat.le_refl, Nat.reduceAdd, Nat.reduceSub, Nat.reduceLeDiff, Nat.reduceMul, Nat.zero_mul, Nat.add_zero, Int.reduceToNat, reduceCtorEq, wrap_in, thenQ, blockQ, forall_eq, forall_eq_or_imp, eq_self, decide_true, List.append_eq]; done)); (· first | exact .inl rfl | exact .inr rfl))
    | (refine run_callT (s6) rfl rfl ?_ ?_; (· first | exact .inl rfl | exact .inr rfl))
    | (refine run_callT (s6) rfl ?_ ?_ ?_; (· first | rfl | (simp (maxSteps := 1000000) (disch := omega) only [go_sem, argEnv, envOf, obOf, Nat.reduceEqDiff, ↓reduceIte, Nat.reduceLT, Nat.beq_eq, Bool.or_eq_true, argEnvM, gOf, Nat.zero_add, Nat.le_refl, Nat.reduceAdd, Nat.reduceSub, Nat.reduceLeDiff, Nat.reduceMul, Nat.zero_mul, Nat.add_zero, Int.reduceToNat, reduceCtorEq, wrap_in, thenQ, blockQ, forall_eq, forall_eq_or_imp, eq_self, decide_true, List.append_eq]; done)); (· first | exact .inl rfl | exact .inr rfl))
    | (refine run_callT (s7) rfl rfl ?_ ?_; (· first | exact .inl rfl | exact .inr rfl))
    | (refine run_callT (s7) rfl ?_ ?_ ?_; (· first | rfl | (simp (maxSteps := 1000000) (disch := omega) only [go_sem, argEnv, envOf, obOf, Nat.reduceEqDiff, ↓reduceIte, Nat.reduceLT, Nat.beq_eq, Bool.or_eq_true, argEnvM, gOf, Nat.zero_add, Nat.le_refl, Nat.reduceAdd, Nat.reduceSub, Nat.reduceLeDiff, Nat.reduceMul, Nat.zero_mul, Nat.add_zero, Int.reduceToNat, reduceCtorEq, wrap_in, thenQ, blockQ, forall_eq, forall_eq_or_imp, eq_self, decide_true, List.append_eq]; done)); (· first | exact .inl rfl | exact .inr rfl))
    | (refine run_callT (s8) rfl rfl ?_ ?_; (· first | exact .inl rfl | exact .inr rfl))
    | (refine run_callT (s8) rfl ?_ ?_ ?_; (· first | rfl | (simp (maxSteps := 1000000) (disch := omega) only [go_sem, argEnv, envOf, obOf, Nat.reduceEqDiff, ↓reduceIte, Nat.reduceLT, Nat.beq_eq, Bool.or_eq_true, argEnvM, gOf, Nat.zero_add, Nat.le_refl, Nat.reduceAdd, Nat.reduceSub, Nat.reduceLeDiff, Nat.reduceMul, Nat.zero_mul, Nat.add_zero, Int.reduceToNat, reduceCtorEq, wrap_in, thenQ, blockQ, forall_eq, forall_eq_or_imp, eq_self, decide_true, List.append_eq]; done)); (· first | exact .inl rfl | exact .inr rfl))
    | (refine run_callT (s9) rfl rfl ?_ ?_; (· first | exact .inl rfl | exact .inr rfl))
    | (refine run_callT (s9) rfl ?_ ?_ ?_; (· first | rfl | (simp (maxSteps := 1000000) (disch := omega) only [go_sem, argEnv, envOf, obOf, Nat.reduceEqDiff, ↓reduceIte, Nat.reduceLT, Nat.beq_eq, Bool.or_eq_true, argEnvM, gOf, Nat.zero_add, Nat.le_refl, Nat.reduceAdd, Nat.reduceSub, Nat.reduceLeDiff, Nat.reduceMul, Nat.zero_mul, Nat.add_zero, Int.reduceToNat, reduceCtorEq, wrap_in, thenQ, blockQ, forall_eq, forall_eq_or_imp, eq_self, decide_true, List.append_eq]; done)); (· first | exact .inl rfl | exact .inr rfl))
    | (refine run_callT (t1) rfl rfl ?_ ?_; (· first | exact .inl rfl | exact .inr rfl))
    | (refine run_callT (t1) rfl ?_ ?_ ?_; (· first | rfl | (simp (maxSteps := 1000000) (disch := omega) only [go_sem, argEnv, envOf, obOf, Nat.reduceEqDiff, ↓reduceIte, Nat.reduceLT, Nat.beq_eq, Bool.or_eq_true, argEnvM, gOf, Nat.zero_add, Nat.le_refl, Nat.reduceAdd, Nat.reduceSub, Nat.reduceLeDiff, Nat.reduceMul, Nat.zero_mul, Nat.add_zero, Int.reduceToNat, reduceCtorEq, wrap_in, thenQ, blockQ, forall_eq, forall_eq_or_imp, eq_self, decide_true, List.append_eq]; done)); (· first | exact .inl rfl | exact .inr rfl))
    | (refine run_callT (t2) rfl rfl ?_ ?_; (· first | exact .inl rfl | exact .inr rfl))
    | (refine run_callT (t2) rfl ?_ ?_ ?_; (· first | rfl | (simp (maxSteps := 1000000) (disch := omega) only [go_sem, argEnv, envOf, obOf, Nat.reduceEqDiff, ↓reduceIte, Nat.reduceLT, Nat.beq_eq, Bool.or_eq_true, argEnvM, gOf, Nat.zero_add, Nat.le_refl, Nat.reduceAdd, Nat.reduceSub, Nat.reduceLeDiff, Nat.reduceMul, Nat.zero_mul, Nat.add_zero, Int.reduceToNat, reduceCtorEq, wrap_in, thenQ, blockQ, forall_eq, forall_eq_or_imp, eq_self, decide_true, List.append_eq]; done)); (· first | exact .inl rfl | exact .inr rfl))
    | (refine run_callT (t3) rfl rfl ?_ ?_; (· first | exact .inl rfl | exact .inr rfl))
    | (refine run_callT (t3) rfl ?_ ?_ ?_; (· first | rfl | (simp (maxSteps := 1000000) (disch := omega) only [go_sem, argEnv, envOf, obOf, Nat.reduceEqDiff, ↓reduceIte, Nat.reduceLT, Nat.beq_eq, Bool.or_eq_true, argEnvM, gOf, Nat.zero_add, Nat.le_refl, Nat.reduceAdd, Nat.reduceSub, Nat.reduceLeDiff, Nat.reduceMul, Nat.zero_mul, Nat.add_zero, Int.reduceToNat, reduceCtorEq, wrap_in, thenQ, blockQ, forall_eq, forall_eq_or_imp, eq_self, decide_true, List.append_eq]; done)); (· first | exact .inl rfl | exact .inr rfl))
    | (refine wpG_split rfl rfl (fun hc => ?_) (fun hc => ?_) <;> try simp only [decide_eq_true_eq, decide_eq_false_iff_not, Bool.not_eq_true', Bool.not_eq_false', Bool.false_eq_true, Bool.true_eq_false, reduceCtorEq, Bool.and_eq_true, Bool.or_eq_true, not_and, not_or] at hc)
    | (refine pw_cond _ rfl rfl (fun hc => ?_) (fun hc => ?_) <;> (try simp only [decide_eq_true_eq, decide_eq_false_iff_not, Bool.not_eq_true', Bool.not_eq_false', Bool.false_eq_true, Bool.true_eq_false, reduceCtorEq, Bool.and_eq_true, Bool.or_eq_true, not_and, not_or] at hc) <;> try (exfalso; omega))
    | simp (maxSteps := 1000000) (disch := omega) only [go_sem, argEnv, envOf, obOf, Nat.reduceEqDiff, ↓reduceIte, Nat.reduceLT, Nat.beq_eq, Bool.or_eq_true, argEnvM, gOf, Nat.zero_add, Nat.le_refl, Nat.reduceAdd, Nat.reduceSub, Nat.reduceLeDiff, Nat.reduceMul, Nat.zero_mul, Nat.add_zero, Int.reduceToNat, reduceCtorEq, wrap_in, thenQ, blockQ, forall_eq, forall_eq_or_imp, eq_self, decide_true, List.append_eq]
    | apply And.intro
    | omega
    | decide +kernel
  all_goals exact bool_some rfl
end Go.Proofs.Ytcbcccphlhpajaa
