/- Solve. -/
import Derived.Test.YtcbcccphlhpajaaN
namespace Go.Proofs.Ytcbcccphlhpajaa
open Go Go.PS Go.Proofs
set_option maxRecDepth 100000
set_option linter.unusedSimpArgs false
set_option linter.unusedVariables false
attribute [local irreducible] wpRun wpG CallsTo CallsM

def zeros (l : List Bd) : List Int := List.replicate l.length 0
theorem allI_in (n : Nat) : (∀ x ∈ allI n, 0 ≤ x ∧ x < (n : Int)) ∧ (allI n).length = n := by
  refine ⟨fun x hx => ?_, by simp [allI]⟩
  obtain ⟨u, hu, rfl⟩ := List.mem_map.1 hx
  have := List.mem_range.1 hu
  omega
theorem pD_zeros (n : Nat) (l : List Bd) : pD n l (zeros l) = .pt [.int n, bdsD l, .sl (List.replicate l.length (D.sc (.int .i64 0)))] := by simp [pD, zeros]
theorem Solve_arg (g : Net) (hg : nOk g = false) : CallsM Try.prog 18 [.d (nD g)] [(2000, .dead), (2001, .dead)] (.tup [.nilS, .nilS, .int 1]) [(2000, .dead), (2001, .dead)] := by
  have hv : CallsTo Try.prog 10 [nD g] (.bool false) := hg ▸ Valid_spec g
  refine callsM_of Try.func18 rfl (by decide +kernel) (Nat.le_of_ble_eq_true rfl) rfl (nodup_of rfl) rfl rfl rfl ?_
  intro B X w0
  repeat' first
    | refine pw_seq ?_
    | refine pw_skip ?_
    | refine pw_exit ?_
    | refine pw_block ?_
    | refine pw_region (fun _ => false) hmix ?_
    | (refine run_callT (hv) rfl rfl ?_ ?_; (· first | exact .inl rfl | exact .inr rfl))
    | (refine run_callT (hv) rfl ?_ ?_ ?_; (· first | rfl | (simp (maxSteps := 1000000) (disch := omega) only [go_sem, argEnv, envOf, obOf, Nat.reduceEqDiff, ↓reduceIte, Nat.reduceLT, Nat.beq_eq, Bool.or_eq_true, argEnvM, gOf, Nat.zero_add, Nat.le_refl, Nat.reduceAdd, Nat.reduceSub, Nat.reduceLeDiff, Nat.reduceMul, Nat.zero_mul, Nat.add_zero, Int.reduceToNat, reduceCtorEq, wrap_in, thenQ, blockQ, forall_eq, forall_eq_or_imp]; done)); (· first | exact .inl rfl | exact .inr rfl))
    | (refine wpG_split rfl rfl (fun hc => ?_) (fun hc => ?_) <;> try simp only [decide_eq_true_eq, decide_eq_false_iff_not, Bool.not_eq_true', Bool.not_eq_false', Bool.false_eq_true, Bool.true_eq_false, reduceCtorEq, Bool.and_eq_true, Bool.or_eq_true, not_and, not_or] at hc)
    | (refine pw_cond _ rfl rfl (fun hc => ?_) (fun hc => ?_) <;> (try simp only [decide_eq_true_eq, decide_eq_false_iff_not, Bool.not_eq_true', Bool.not_eq_false', Bool.false_eq_true, Bool.true_eq_false, reduceCtorEq, Bool.and_eq_true, Bool.or_eq_true, not_and, not_or] at hc) <;> try (exfalso; omega))
    | simp (maxSteps := 1000000) (disch := omega) only [go_sem, argEnv, envOf, obOf, Nat.reduceEqDiff, ↓reduceIte, Nat.reduceLT, Nat.beq_eq, Bool.or_eq_true, argEnvM, gOf, Nat.zero_add, Nat.le_refl, Nat.reduceAdd, Nat.reduceSub, Nat.reduceLeDiff, Nat.reduceMul, Nat.zero_mul, Nat.add_zero, Int.reduceToNat, reduceCtorEq, wrap_in, thenQ, blockQ, forall_eq, forall_eq_or_imp]
    | apply And.intro
    | omega
    | decide +kernel
  refine pw_ret ?_
  exact ⟨⟨_, rfl, rfl, rfl, rfl, trivial⟩, List.forall_mem_cons.2 ⟨rfl, List.forall_mem_cons.2 ⟨rfl, List.forall_mem_nil _⟩⟩⟩
theorem Solve_cycle (n : Nat) (l : List Bd) (hg : nOk (n, l) = true) (hno : longestF n (stepsL l (zeros l)) (allI n) = none) :
    CallsM Try.prog 18 [.d (nD (n, l))] [(2000, .dead), (2001, .dead)] (.tup [.nilS, .nilS, .int 9]) [(2000, .dead), (2001, .dead)] := by
  have hv : CallsTo Try.prog 10 [nD (n, l)] (.bool true) := hg ▸ Valid_spec (n, l)
  obtain ⟨h1, h2, h3, h4⟩ := nOk_in hg
  dsimp only at h1 h2 h3 h4
  obtain ⟨a1, a2⟩ := allI_in n
  have hall := all_spec n l (zeros l) (by omega)
  have hlong := (longest_spec n l (zeros l) (allI n) (by omega) (by omega) (by simp [zeros]) (fun k b hb => by have := h4 k b hb; omega) a1 (by omega)).2 hno
  have htk : (List.replicate l.length (D.sc (.int .i64 0))).take l.length = List.replicate l.length (D.sc (.int .i64 0)) := List.take_of_length_le (by simp)
  have htk2 : ((allI n).map D.int).take n = (allI n).map D.int := List.take_of_length_le (by simp [a2])
  rw [pD_zeros] at hall hlong
  refine callsM_of Try.func18 rfl (by decide +kernel) (Nat.le_of_ble_eq_true rfl) rfl (nodup_of rfl) rfl rfl rfl ?_
  intro B X w0
  repeat' first
    | refine pw_seq ?_
    | refine pw_skip ?_
    | refine pw_exit ?_
    | refine pw_block ?_
    | refine pw_region (fun _ => false) hmix ?_
    | (refine run_callT (hv) rfl rfl ?_ ?_; (· first | exact .inl rfl | exact .inr rfl))
    | (refine run_callT (hv) rfl ?_ ?_ ?_; (· first | rfl | (simp (maxSteps := 1000000) (disch := omega) only [go_sem, argEnv, envOf, obOf, Nat.reduceEqDiff, ↓reduceIte, Nat.reduceLT, Nat.beq_eq, Bool.or_eq_true, argEnvM, gOf, Nat.zero_add, Nat.le_refl, Nat.reduceAdd, Nat.reduceSub, Nat.reduceLeDiff, Nat.reduceMul, Nat.zero_mul, Nat.add_zero, Int.reduceToNat, reduceCtorEq, wrap_in, thenQ, blockQ, forall_eq, forall_eq_or_imp, htk, htk2, a2, List.drop_zero, List.map_replicate, List.length_replicate]; done)); (· first | exact .inl rfl | exact .inr rfl))
    | (refine run_callMF [(2000, 25)] (hall) rfl rfl rfl rfl rfl rfl (nodup_of rfl) ?_ ?_ ?_ ?_ rfl ?_; (· (repeat' first | exact List.forall_mem_nil _ | refine List.forall_mem_cons.2 ⟨⟨nofun, fun h => by first | rfl | (simp at h; done)⟩, ?_⟩)); (· (refine ⟨rfl, ?_, ?_⟩ <;> (repeat' first | exact List.forall_mem_nil _ | refine List.forall_mem_cons.2 ⟨?_, ?_⟩ | exact trivial | exact flat_ints _ | exact flat_map _ (fun _ => rfl) _ | (intro d hd c hc; simp [D.flat, D.cells] at *)))); (· (repeat' first | exact trivial | refine ⟨.inl rfl, ?_⟩ | refine ⟨.inr ⟨_, rfl, rfl, .inr trivial⟩, ?_⟩ | refine ⟨.inr ⟨_, rfl, (by simp (disch := omega) only [go_sem, argEnv, envOf, obOf, Nat.reduceEqDiff, ↓reduceIte, Nat.reduceLT, Nat.beq_eq, Bool.or_eq_true, argEnvM, gOf, Nat.zero_add, Nat.le_refl, Nat.reduceAdd, Nat.reduceSub, Nat.reduceLeDiff, Nat.reduceMul, Nat.zero_mul, Nat.add_zero, Int.reduceToNat, reduceCtorEq, wrap_in, thenQ, blockQ, forall_eq, forall_eq_or_imp, htk, htk2, a2, List.drop_zero, List.map_replicate, List.length_replicate]; done), .inr trivial⟩, ?_⟩)); (· (repeat' first | exact List.forall_mem_nil _ | refine List.forall_mem_cons.2 ⟨rfl, ?_⟩)))
    | (refine run_callMF [(2000, 26)] (hlong) rfl rfl rfl rfl rfl rfl (nodup_of rfl) ?_ ?_ ?_ ?_ rfl ?_; (· (repeat' first | exact List.forall_mem_nil _ | refine List.forall_mem_cons.2 ⟨⟨nofun, fun h => by first | rfl | (simp at h; done)⟩, ?_⟩)); (· (refine ⟨rfl, ?_, ?_⟩ <;> (repeat' first | exact List.forall_mem_nil _ | refine List.forall_mem_cons.2 ⟨?_, ?_⟩ | exact trivial | exact flat_ints _ | exact flat_map _ (fun _ => rfl) _ | (intro d hd c hc; simp [D.flat, D.cells] at *)))); (· (repeat' first | exact trivial | refine ⟨.inl rfl, ?_⟩ | refine ⟨.inr ⟨_, rfl, rfl, .inr trivial⟩, ?_⟩ | refine ⟨.inr ⟨_, rfl, (by simp (disch := omega) only [go_sem, argEnv, envOf, obOf, Nat.reduceEqDiff, ↓reduceIte, Nat.reduceLT, Nat.beq_eq, Bool.or_eq_true, argEnvM, gOf, Nat.zero_add, Nat.le_refl, Nat.reduceAdd, Nat.reduceSub, Nat.reduceLeDiff, Nat.reduceMul, Nat.zero_mul, Nat.add_zero, Int.reduceToNat, reduceCtorEq, wrap_in, thenQ, blockQ, forall_eq, forall_eq_or_imp, htk, htk2, a2, List.drop_zero, List.map_replicate, List.length_replicate]; done), .inr trivial⟩, ?_⟩)); (· (repeat' first | exact List.forall_mem_nil _ | refine List.forall_mem_cons.2 ⟨rfl, ?_⟩)))
    | (refine wpG_split rfl rfl (fun hc => ?_) (fun hc => ?_) <;> try simp only [decide_eq_true_eq, decide_eq_false_iff_not, Bool.not_eq_true', Bool.not_eq_false', Bool.false_eq_true, Bool.true_eq_false, reduceCtorEq, Bool.and_eq_true, Bool.or_eq_true, not_and, not_or] at hc)
    | (refine pw_cond _ rfl rfl (fun hc => ?_) (fun hc => ?_) <;> (try simp only [decide_eq_true_eq, decide_eq_false_iff_not, Bool.not_eq_true', Bool.not_eq_false', Bool.false_eq_true, Bool.true_eq_false, reduceCtorEq, Bool.and_eq_true, Bool.or_eq_true, not_and, not_or] at hc) <;> try (exfalso; omega))
    | simp (maxSteps := 1000000) (disch := omega) only [go_sem, argEnv, envOf, obOf, Nat.reduceEqDiff, ↓reduceIte, Nat.reduceLT, Nat.beq_eq, Bool.or_eq_true, argEnvM, gOf, Nat.zero_add, Nat.le_refl, Nat.reduceAdd, Nat.reduceSub, Nat.reduceLeDiff, Nat.reduceMul, Nat.zero_mul, Nat.add_zero, Int.reduceToNat, reduceCtorEq, wrap_in, thenQ, blockQ, forall_eq, forall_eq_or_imp, htk, htk2, a2, List.drop_zero, List.map_replicate, List.length_replicate]
    | apply And.intro
    | omega
    | decide +kernel
  refine pw_ret ?_
  exact ⟨⟨_, rfl, rfl, rfl, rfl, trivial⟩, List.forall_mem_cons.2 ⟨rfl, List.forall_mem_cons.2 ⟨rfl, List.forall_mem_nil _⟩⟩⟩
def longs (W : List Way) : List Int := W.map (·.1)
set_option maxHeartbeats 4000000 in
theorem Solve_ok (n : Nat) (l : List Bd) (f : List Int) (R : Nat) (W0 W : List Way) (hg : nOk (n, l) = true) (h0 : longestF n (stepsL l (zeros l)) (allI n) = some W0)
    (hc : certF n l R (zeros l) (needRow l n l.length) = some f) (hfl : f.length = l.length) (hW : longestF n (stepsL l f) (allI n) = some W) (hWl : W.length = n) :
    CallsM Try.prog 18 [.d (nD (n, l))] [(2000, .dead), (2001, .dead)] (.tup [.ref 2000 1 0 n n, .ref 2001 1 0 l.length l.length, .int 0]) [(2000, .row 1 (intsL (longs W))), (2001, .row 1 (intsL f))] := by
  have hv : CallsTo Try.prog 10 [nD (n, l)] (.bool true) := hg ▸ Valid_spec (n, l)
  obtain ⟨h1, h2, h3, h4⟩ := nOk_in hg
  dsimp only at h1 h2 h3 h4
  obtain ⟨a1, a2⟩ := allI_in n
  have hall := all_spec n l (zeros l) (by omega)
  have hall2 := all_spec n l f (by omega)
  have hlong := (longest_spec n l (zeros l) (allI n) (by omega) (by omega) (by simp [zeros]) (fun k b hb => by have := h4 k b hb; omega) a1 (by omega)).1 W0 h0
  have hlong2 := (longest_spec n l f (allI n) (by omega) (by omega) hfl (fun k b hb => by have := h4 k b hb; omega) a1 (by omega)).1 W hW
  have hcert := certify_spec n l (zeros l) f R hg (by simp [zeros]) hc
  have htk : (List.replicate l.length (D.sc (.int .i64 0))).take l.length = List.replicate l.length (D.sc (.int .i64 0)) := List.take_of_length_le (by simp)
  have htk2 : ((allI n).map D.int).take n = (allI n).map D.int := List.take_of_length_le (by simp [a2])
  have htk3 : (f.map D.int).take l.length = f.map D.int := List.take_of_length_le (by simp [hfl])
  have hz : intsL (zeros l) = List.replicate l.length (D.sc (.int .i64 0)) := by simp [zeros]
  rw [hz] at hcert
  rw [pD_zeros] at hall hlong
  refine callsM_of Try.func18 rfl (by decide +kernel) (Nat.le_of_ble_eq_true rfl) rfl (nodup_of rfl) rfl rfl rfl ?_
  intro B X w0
  repeat' first
    | refine pw_seq ?_
    | refine pw_skip ?_
    | refine pw_exit ?_
    | refine pw_block ?_
    | refine pw_region (fun _ => false) hmix ?_
    | (refine run_callT (hv) rfl rfl ?_ ?_; (· first | exact .inl rfl | exact .inr rfl))
    | (refine run_callT (hv) rfl ?_ ?_ ?_; (· first | rfl | (simp (maxSteps := 1000000) (disch := omega) only [go_sem, argEnv, envOf, obOf, Nat.reduceEqDiff, ↓reduceIte, Nat.reduceLT, Nat.beq_eq, Bool.or_eq_true, argEnvM, gOf, Nat.zero_add, Nat.le_refl, Nat.reduceAdd, Nat.reduceSub, Nat.reduceLeDiff, Nat.reduceMul, Nat.zero_mul, Nat.add_zero, Int.reduceToNat, reduceCtorEq, wrap_in, thenQ, blockQ, forall_eq, forall_eq_or_imp, htk, htk2, htk3, a2, hfl, List.drop_zero, List.map_replicate, List.length_replicate]; done)); (· first | exact .inl rfl | exact .inr rfl))
    | (refine run_callMF [(2000, 25)] (hall) rfl rfl rfl rfl rfl rfl (nodup_of rfl) ?_ ?_ ?_ ?_ rfl ?_; (· (repeat' first | exact List.forall_mem_nil _ | refine List.forall_mem_cons.2 ⟨⟨nofun, fun h => by first | rfl | (simp at h; done)⟩, ?_⟩)); (· (refine ⟨rfl, ?_, ?_⟩ <;> (repeat' first | exact List.forall_mem_nil _ | refine List.forall_mem_cons.2 ⟨?_, ?_⟩ | exact trivial | exact flat_ints _ | exact flat_map _ (fun _ => rfl) _ | (intro d hd c hc; simp [D.flat, D.cells] at *)))); (· (repeat' first | exact trivial | refine ⟨.inl rfl, ?_⟩ | refine ⟨.inr ⟨_, rfl, rfl, .inr trivial⟩, ?_⟩ | refine ⟨.inr ⟨_, rfl, (by simp (disch := omega) only [go_sem, argEnv, envOf, obOf, Nat.reduceEqDiff, ↓reduceIte, Nat.reduceLT, Nat.beq_eq, Bool.or_eq_true, argEnvM, gOf, Nat.zero_add, Nat.le_refl, Nat.reduceAdd, Nat.reduceSub, Nat.reduceLeDiff, Nat.reduceMul, Nat.zero_mul, Nat.add_zero, Int.reduceToNat, reduceCtorEq, wrap_in, thenQ, blockQ, forall_eq, forall_eq_or_imp, htk, htk2, htk3, a2, hfl, List.drop_zero, List.map_replicate, List.length_replicate]; done), .inr trivial⟩, ?_⟩)); (· (repeat' first | exact List.forall_mem_nil _ | refine List.forall_mem_cons.2 ⟨rfl, ?_⟩)))
    | (refine run_callMF [(2000, 26)] (hlong) rfl rfl rfl rfl rfl rfl (nodup_of rfl) ?_ ?_ ?_ ?_ rfl ?_; (· (repeat' first | exact List.forall_mem_nil _ | refine List.forall_mem_cons.2 ⟨⟨nofun, fun h => by first | rfl | (simp at h; done)⟩, ?_⟩)); (· (refine ⟨rfl, ?_, ?_⟩ <;> (repeat' first | exact List.forall_mem_nil _ | refine List.forall_mem_cons.2 ⟨?_, ?_⟩ | exact trivial | exact flat_ints _ | exact flat_map _ (fun _ => rfl) _ | (intro d hd c hc; simp [D.flat, D.cells] at *)))); (· (repeat' first | exact trivial | refine ⟨.inl rfl, ?_⟩ | refine ⟨.inr ⟨_, rfl, rfl, .inr trivial⟩, ?_⟩ | refine ⟨.inr ⟨_, rfl, (by simp (disch := omega) only [go_sem, argEnv, envOf, obOf, Nat.reduceEqDiff, ↓reduceIte, Nat.reduceLT, Nat.beq_eq, Bool.or_eq_true, argEnvM, gOf, Nat.zero_add, Nat.le_refl, Nat.reduceAdd, Nat.reduceSub, Nat.reduceLeDiff, Nat.reduceMul, Nat.zero_mul, Nat.add_zero, Int.reduceToNat, reduceCtorEq, wrap_in, thenQ, blockQ, forall_eq, forall_eq_or_imp, htk, htk2, htk3, a2, hfl, List.drop_zero, List.map_replicate, List.length_replicate]; done), .inr trivial⟩, ?_⟩)); (· (repeat' first | exact List.forall_mem_nil _ | refine List.forall_mem_cons.2 ⟨rfl, ?_⟩)))
    | (refine run_callMT [(1000, 21), (1001, 19)] (hcert) rfl rfl rfl rfl rfl rfl (nodup_of rfl) ?_ ?_ ?_ ?_; (· (repeat' first | exact List.forall_mem_nil _ | refine List.forall_mem_cons.2 ⟨⟨nofun, fun h => by first | rfl | (simp at h; done)⟩, ?_⟩)); (· (repeat' first | exact trivial | refine ⟨.inl rfl, ?_⟩ | refine ⟨.inr ⟨_, rfl, rfl, .inl rfl⟩, ?_⟩)); (· (repeat' first | exact List.forall_mem_nil _ | refine List.forall_mem_cons.2 ⟨rfl, ?_⟩)))
    | (refine run_callMF [(2000, 36)] (hall2) rfl rfl rfl rfl rfl rfl (nodup_of rfl) ?_ ?_ ?_ ?_ rfl ?_; (· (repeat' first | exact List.forall_mem_nil _ | refine List.forall_mem_cons.2 ⟨⟨nofun, fun h => by first | rfl | (simp at h; done)⟩, ?_⟩)); (· (refine ⟨rfl, ?_, ?_⟩ <;> (repeat' first | exact List.forall_mem_nil _ | refine List.forall_mem_cons.2 ⟨?_, ?_⟩ | exact trivial | exact flat_ints _ | exact flat_map _ (fun _ => rfl) _ | (intro d hd c hc; simp [D.flat, D.cells] at *)))); (· (repeat' first | exact trivial | refine ⟨.inl rfl, ?_⟩ | refine ⟨.inr ⟨_, rfl, rfl, .inr trivial⟩, ?_⟩ | refine ⟨.inr ⟨_, rfl, (by simp (disch := omega) only [go_sem, argEnv, envOf, obOf, Nat.reduceEqDiff, ↓reduceIte, Nat.reduceLT, Nat.beq_eq, Bool.or_eq_true, argEnvM, gOf, Nat.zero_add, Nat.le_refl, Nat.reduceAdd, Nat.reduceSub, Nat.reduceLeDiff, Nat.reduceMul, Nat.zero_mul, Nat.add_zero, Int.reduceToNat, reduceCtorEq, wrap_in, thenQ, blockQ, forall_eq, forall_eq_or_imp, htk, htk2, htk3, a2, hfl, List.drop_zero, List.map_replicate, List.length_replicate]; done), .inr trivial⟩, ?_⟩)); (· (repeat' first | exact List.forall_mem_nil _ | refine List.forall_mem_cons.2 ⟨rfl, ?_⟩)))
    | (refine run_callMF [(2000, 37)] (hlong2) rfl rfl rfl rfl rfl rfl (nodup_of rfl) ?_ ?_ ?_ ?_ rfl ?_; (· (repeat' first | exact List.forall_mem_nil _ | refine List.forall_mem_cons.2 ⟨⟨nofun, fun h => by first | rfl | (simp at h; done)⟩, ?_⟩)); (· (refine ⟨rfl, ?_, ?_⟩ <;> (repeat' first | exact List.forall_mem_nil _ | refine List.forall_mem_cons.2 ⟨?_, ?_⟩ | exact trivial | exact flat_ints _ | exact flat_map _ (fun _ => rfl) _ | (intro d hd c hc; simp [D.flat, D.cells] at *)))); (· (repeat' first | exact trivial | refine ⟨.inl rfl, ?_⟩ | refine ⟨.inr ⟨_, rfl, rfl, .inr trivial⟩, ?_⟩ | refine ⟨.inr ⟨_, rfl, (by simp (disch := omega) only [go_sem, argEnv, envOf, obOf, Nat.reduceEqDiff, ↓reduceIte, Nat.reduceLT, Nat.beq_eq, Bool.or_eq_true, argEnvM, gOf, Nat.zero_add, Nat.le_refl, Nat.reduceAdd, Nat.reduceSub, Nat.reduceLeDiff, Nat.reduceMul, Nat.zero_mul, Nat.add_zero, Int.reduceToNat, reduceCtorEq, wrap_in, thenQ, blockQ, forall_eq, forall_eq_or_imp, htk, htk2, htk3, a2, hfl, List.drop_zero, List.map_replicate, List.length_replicate]; done), .inr trivial⟩, ?_⟩)); (· (repeat' first | exact List.forall_mem_nil _ | refine List.forall_mem_cons.2 ⟨rfl, ?_⟩)))
    | (refine wpG_split rfl rfl (fun hc => ?_) (fun hc => ?_) <;> try simp only [decide_eq_true_eq, decide_eq_false_iff_not, Bool.not_eq_true', Bool.not_eq_false', Bool.false_eq_true, Bool.true_eq_false, reduceCtorEq, Bool.and_eq_true, Bool.or_eq_true, not_and, not_or] at hc)
    | (refine pw_cond _ rfl rfl (fun hc => ?_) (fun hc => ?_) <;> (try simp only [decide_eq_true_eq, decide_eq_false_iff_not, Bool.not_eq_true', Bool.not_eq_false', Bool.false_eq_true, Bool.true_eq_false, reduceCtorEq, Bool.and_eq_true, Bool.or_eq_true, not_and, not_or] at hc) <;> try (exfalso; omega))
    | simp (maxSteps := 1000000) (disch := omega) only [go_sem, argEnv, envOf, obOf, Nat.reduceEqDiff, ↓reduceIte, Nat.reduceLT, Nat.beq_eq, Bool.or_eq_true, argEnvM, gOf, Nat.zero_add, Nat.le_refl, Nat.reduceAdd, Nat.reduceSub, Nat.reduceLeDiff, Nat.reduceMul, Nat.zero_mul, Nat.add_zero, Int.reduceToNat, reduceCtorEq, wrap_in, thenQ, blockQ, forall_eq, forall_eq_or_imp, htk, htk2, htk3, a2, hfl, List.drop_zero, List.map_replicate, List.length_replicate]
    | apply And.intro
    | omega
    | decide +kernel
  refine pw_loopI (κ := Nat) (fun (k : Nat) => k ≤ n) (fun (k : Nat) => [(5, .ptr 21 0 0 0), (8, .ref 37 7 0 n n), (10, .ref 42 1 0 n n), (44, .int n), (45, .int k)]) (fun (k : Nat) => [(21, .cells [.int n, .d (bdsD l), .ref 19 1 0 l.length l.length]), (19, .row 1 (intsL f)), (37, .row 7 (waysD W)), (42, .row 1 ((fillRow (fun v => (wAt W v).1) n k).map D.int))]) (fun (k : Nat) => n - k) 0 ?_ ?_ ?_
  · exact Nat.zero_le _
  · exact entL_ren [] _ _ (by (repeat' first | exact List.forall_mem_nil _ | refine List.forall_mem_cons.2 ⟨(by first | rfl | (simp (disch := omega) only [go_sem, argEnv, envOf, obOf, Nat.reduceEqDiff, ↓reduceIte, Nat.reduceLT, Nat.beq_eq, Bool.or_eq_true, argEnvM, gOf, Nat.zero_add, Nat.le_refl, Nat.reduceAdd, Nat.reduceSub, Nat.reduceLeDiff, Nat.reduceMul, Nat.zero_mul, Nat.add_zero, Int.reduceToNat, reduceCtorEq, wrap_in, thenQ, blockQ, forall_eq, forall_eq_or_imp, fillRow_zero]; done) | (simp (disch := omega) only [go_sem, argEnv, envOf, obOf, Nat.reduceEqDiff, ↓reduceIte, Nat.reduceLT, Nat.beq_eq, Bool.or_eq_true, argEnvM, gOf, Nat.zero_add, Nat.le_refl, Nat.reduceAdd, Nat.reduceSub, Nat.reduceLeDiff, Nat.reduceMul, Nat.zero_mul, Nat.add_zero, Int.reduceToNat, reduceCtorEq, wrap_in, thenQ, blockQ, forall_eq, forall_eq_or_imp, fillRow_zero]; congr 1; done) | (simp (disch := omega) only [go_sem, argEnv, envOf, obOf, Nat.reduceEqDiff, ↓reduceIte, Nat.reduceLT, Nat.beq_eq, Bool.or_eq_true, argEnvM, gOf, Nat.zero_add, Nat.le_refl, Nat.reduceAdd, Nat.reduceSub, Nat.reduceLeDiff, Nat.reduceMul, Nat.zero_mul, Nat.add_zero, Int.reduceToNat, reduceCtorEq, wrap_in, thenQ, blockQ, forall_eq, forall_eq_or_imp, fillRow_zero, PV.d.injEq, PV.ref.injEq, D.sc.injEq, Value.int.injEq, Value.bool.injEq, Ob.row.injEq, true_and, and_true]; first | done | omega)), ?_⟩); done) (by (repeat' first | exact List.forall_mem_nil _ | refine List.forall_mem_cons.2 ⟨(by first | rfl | (simp (disch := omega) only [go_sem, argEnv, envOf, obOf, Nat.reduceEqDiff, ↓reduceIte, Nat.reduceLT, Nat.beq_eq, Bool.or_eq_true, argEnvM, gOf, Nat.zero_add, Nat.le_refl, Nat.reduceAdd, Nat.reduceSub, Nat.reduceLeDiff, Nat.reduceMul, Nat.zero_mul, Nat.add_zero, Int.reduceToNat, reduceCtorEq, wrap_in, thenQ, blockQ, forall_eq, forall_eq_or_imp, fillRow_zero]; done) | (simp (disch := omega) only [go_sem, argEnv, envOf, obOf, Nat.reduceEqDiff, ↓reduceIte, Nat.reduceLT, Nat.beq_eq, Bool.or_eq_true, argEnvM, gOf, Nat.zero_add, Nat.le_refl, Nat.reduceAdd, Nat.reduceSub, Nat.reduceLeDiff, Nat.reduceMul, Nat.zero_mul, Nat.add_zero, Int.reduceToNat, reduceCtorEq, wrap_in, thenQ, blockQ, forall_eq, forall_eq_or_imp, fillRow_zero]; congr 1; done) | (simp (disch := omega) only [go_sem, argEnv, envOf, obOf, Nat.reduceEqDiff, ↓reduceIte, Nat.reduceLT, Nat.beq_eq, Bool.or_eq_true, argEnvM, gOf, Nat.zero_add, Nat.le_refl, Nat.reduceAdd, Nat.reduceSub, Nat.reduceLeDiff, Nat.reduceMul, Nat.zero_mul, Nat.add_zero, Int.reduceToNat, reduceCtorEq, wrap_in, thenQ, blockQ, forall_eq, forall_eq_or_imp, fillRow_zero, PV.d.injEq, PV.ref.injEq, D.sc.injEq, Value.int.injEq, Value.bool.injEq, Ob.row.injEq, true_and, and_true]; first | done | omega)), ?_⟩); done) rfl rfl (nodup_of rfl) rfl (by (repeat' first | exact pd_of _ rfl | exact pd_dead | refine pd_upd rfl ?_ | refine pd_frz ?_); done)
  · intro k hk
    have hlen := fillRow_len (fun v => (wAt W v).1) n k
    rcases Nat.lt_or_ge k n with hlt | hge
    · have gw : W[k]? = some (wAt W k) := wAt_get (v := (k : Int)) hWl (by omega) (by omega)
      have hst := fillRow_step (g := fun v => (wAt W v).1) hlt
      have gf : (fillRow (fun v => (wAt W v).1) n k)[k]? = _ := fillRow_get hlt
      repeat' first
        | refine pw_seq ?_
        | refine pw_skip ?_
        | refine pw_ret ?_
        | refine pw_exit ?_
        | refine pw_block ?_
        | refine pw_region (fun _ => false) hmix ?_
        | (refine wpG_split rfl rfl (fun hc => ?_) (fun hc => ?_) <;> try simp only [decide_eq_true_eq, decide_eq_false_iff_not, Bool.not_eq_true', Bool.not_eq_false', Bool.false_eq_true, Bool.true_eq_false, reduceCtorEq, Bool.and_eq_true, Bool.or_eq_true, not_and, not_or] at hc)
        | (refine pw_cond _ rfl rfl (fun hc => ?_) (fun hc => ?_) <;> (try simp only [decide_eq_true_eq, decide_eq_false_iff_not, Bool.not_eq_true', Bool.not_eq_false', Bool.false_eq_true, Bool.true_eq_false, reduceCtorEq, Bool.and_eq_true, Bool.or_eq_true, not_and, not_or] at hc) <;> try (exfalso; omega))
        | simp (maxSteps := 1000000) (disch := omega) only [go_sem, argEnv, envOf, obOf, Nat.reduceEqDiff, ↓reduceIte, Nat.reduceLT, Nat.beq_eq, Bool.or_eq_true, argEnvM, gOf, Nat.zero_add, Nat.le_refl, Nat.reduceAdd, Nat.reduceSub, Nat.reduceLeDiff, Nat.reduceMul, Nat.zero_mul, Nat.add_zero, Int.reduceToNat, reduceCtorEq, wrap_in, thenQ, blockQ, forall_eq, forall_eq_or_imp, gw, gf, hWl, hlen]
        | apply And.intro
        | omega
        | decide +kernel
      refine ⟨k + 1, ?_, entL_ren [] _ _ (by (repeat' first | exact List.forall_mem_nil _ | refine List.forall_mem_cons.2 ⟨(by first | rfl | (simp (disch := omega) only [go_sem, argEnv, envOf, obOf, Nat.reduceEqDiff, ↓reduceIte, Nat.reduceLT, Nat.beq_eq, Bool.or_eq_true, argEnvM, gOf, Nat.zero_add, Nat.le_refl, Nat.reduceAdd, Nat.reduceSub, Nat.reduceLeDiff, Nat.reduceMul, Nat.zero_mul, Nat.add_zero, Int.reduceToNat, reduceCtorEq, wrap_in, thenQ, blockQ, forall_eq, forall_eq_or_imp, hst.symm, List.map_set]; done) | (simp (disch := omega) only [go_sem, argEnv, envOf, obOf, Nat.reduceEqDiff, ↓reduceIte, Nat.reduceLT, Nat.beq_eq, Bool.or_eq_true, argEnvM, gOf, Nat.zero_add, Nat.le_refl, Nat.reduceAdd, Nat.reduceSub, Nat.reduceLeDiff, Nat.reduceMul, Nat.zero_mul, Nat.add_zero, Int.reduceToNat, reduceCtorEq, wrap_in, thenQ, blockQ, forall_eq, forall_eq_or_imp, hst.symm, List.map_set]; congr 1; done) | (simp (disch := omega) only [go_sem, argEnv, envOf, obOf, Nat.reduceEqDiff, ↓reduceIte, Nat.reduceLT, Nat.beq_eq, Bool.or_eq_true, argEnvM, gOf, Nat.zero_add, Nat.le_refl, Nat.reduceAdd, Nat.reduceSub, Nat.reduceLeDiff, Nat.reduceMul, Nat.zero_mul, Nat.add_zero, Int.reduceToNat, reduceCtorEq, wrap_in, thenQ, blockQ, forall_eq, forall_eq_or_imp, hst.symm, List.map_set, PV.d.injEq, PV.ref.injEq, D.sc.injEq, Value.int.injEq, Value.bool.injEq, Ob.row.injEq, true_and, and_true]; first | done | omega)), ?_⟩); done) (by (repeat' first | exact List.forall_mem_nil _ | refine List.forall_mem_cons.2 ⟨(by first | rfl | (simp (disch := omega) only [go_sem, argEnv, envOf, obOf, Nat.reduceEqDiff, ↓reduceIte, Nat.reduceLT, Nat.beq_eq, Bool.or_eq_true, argEnvM, gOf, Nat.zero_add, Nat.le_refl, Nat.reduceAdd, Nat.reduceSub, Nat.reduceLeDiff, Nat.reduceMul, Nat.zero_mul, Nat.add_zero, Int.reduceToNat, reduceCtorEq, wrap_in, thenQ, blockQ, forall_eq, forall_eq_or_imp, hst.symm, List.map_set]; done) | (simp (disch := omega) only [go_sem, argEnv, envOf, obOf, Nat.reduceEqDiff, ↓reduceIte, Nat.reduceLT, Nat.beq_eq, Bool.or_eq_true, argEnvM, gOf, Nat.zero_add, Nat.le_refl, Nat.reduceAdd, Nat.reduceSub, Nat.reduceLeDiff, Nat.reduceMul, Nat.zero_mul, Nat.add_zero, Int.reduceToNat, reduceCtorEq, wrap_in, thenQ, blockQ, forall_eq, forall_eq_or_imp, hst.symm, List.map_set]; congr 1; done) | (simp (disch := omega) only [go_sem, argEnv, envOf, obOf, Nat.reduceEqDiff, ↓reduceIte, Nat.reduceLT, Nat.beq_eq, Bool.or_eq_true, argEnvM, gOf, Nat.zero_add, Nat.le_refl, Nat.reduceAdd, Nat.reduceSub, Nat.reduceLeDiff, Nat.reduceMul, Nat.zero_mul, Nat.add_zero, Int.reduceToNat, reduceCtorEq, wrap_in, thenQ, blockQ, forall_eq, forall_eq_or_imp, hst.symm, List.map_set, PV.d.injEq, PV.ref.injEq, D.sc.injEq, Value.int.injEq, Value.bool.injEq, Ob.row.injEq, true_and, and_true]; first | done | omega)), ?_⟩); done) rfl rfl (nodup_of rfl) rfl (by (repeat' first | exact pd_of _ rfl | exact pd_dead | refine pd_upd rfl ?_ | refine pd_frz ?_); done), ?_⟩
      · omega
      · omega
    · repeat' first
        | refine pw_seq ?_
        | refine pw_skip ?_
        | refine pw_exit ?_
        | refine pw_block ?_
        | refine pw_region (fun _ => false) hmix ?_
        | (refine wpG_split rfl rfl (fun hc => ?_) (fun hc => ?_) <;> try simp only [decide_eq_true_eq, decide_eq_false_iff_not, Bool.not_eq_true', Bool.not_eq_false', Bool.false_eq_true, Bool.true_eq_false, reduceCtorEq, Bool.and_eq_true, Bool.or_eq_true, not_and, not_or] at hc)
        | (refine pw_cond _ rfl rfl (fun hc => ?_) (fun hc => ?_) <;> (try simp only [decide_eq_true_eq, decide_eq_false_iff_not, Bool.not_eq_true', Bool.not_eq_false', Bool.false_eq_true, Bool.true_eq_false, reduceCtorEq, Bool.and_eq_true, Bool.or_eq_true, not_and, not_or] at hc) <;> try (exfalso; omega))
        | simp (maxSteps := 1000000) (disch := omega) only [go_sem, argEnv, envOf, obOf, Nat.reduceEqDiff, ↓reduceIte, Nat.reduceLT, Nat.beq_eq, Bool.or_eq_true, argEnvM, gOf, Nat.zero_add, Nat.le_refl, Nat.reduceAdd, Nat.reduceSub, Nat.reduceLeDiff, Nat.reduceMul, Nat.zero_mul, Nat.add_zero, Int.reduceToNat, reduceCtorEq, wrap_in, thenQ, blockQ, forall_eq, forall_eq_or_imp]
        | apply And.intro
        | omega
        | decide +kernel
      have : k = n := by omega
      subst this
      have e : fillRow (fun v => (wAt W v).1) k k = longs W := by
        rw [fillRow_end]
        refine List.ext_getElem? fun u => ?_
        rw [longs, List.getElem?_map, List.getElem?_map]
        rcases Nat.lt_or_ge u k with hu | hu
        · have gw : W[u]? = some (wAt W u) := wAt_get (v := (u : Int)) hWl (by omega) (by omega)
          rw [gw, List.getElem?_range hu]; rfl
        · rw [List.getElem?_eq_none (by simpa using hu), List.getElem?_eq_none (by omega)]; rfl
      refine pw_ent _ (ent_ren [(2000, 42), (2001, 19)] [(2, .ref 2000 1 0 _ _), (3, .ref 2001 1 0 _ _), (4, .int 0)] [(2000, .row 1 _), (2001, .row 1 _)] (by (repeat' first | exact List.forall_mem_nil _ | refine List.forall_mem_cons.2 ⟨(by first | rfl | (simp (disch := omega) only [go_sem, argEnv, envOf, obOf, Nat.reduceEqDiff, ↓reduceIte, Nat.reduceLT, Nat.beq_eq, Bool.or_eq_true, argEnvM, gOf, Nat.zero_add, Nat.le_refl, Nat.reduceAdd, Nat.reduceSub, Nat.reduceLeDiff, Nat.reduceMul, Nat.zero_mul, Nat.add_zero, Int.reduceToNat, reduceCtorEq, wrap_in, thenQ, blockQ, forall_eq, forall_eq_or_imp]; done) | (simp (disch := omega) only [go_sem, argEnv, envOf, obOf, Nat.reduceEqDiff, ↓reduceIte, Nat.reduceLT, Nat.beq_eq, Bool.or_eq_true, argEnvM, gOf, Nat.zero_add, Nat.le_refl, Nat.reduceAdd, Nat.reduceSub, Nat.reduceLeDiff, Nat.reduceMul, Nat.zero_mul, Nat.add_zero, Int.reduceToNat, reduceCtorEq, wrap_in, thenQ, blockQ, forall_eq, forall_eq_or_imp]; congr 1; done) | (simp (disch := omega) only [go_sem, argEnv, envOf, obOf, Nat.reduceEqDiff, ↓reduceIte, Nat.reduceLT, Nat.beq_eq, Bool.or_eq_true, argEnvM, gOf, Nat.zero_add, Nat.le_refl, Nat.reduceAdd, Nat.reduceSub, Nat.reduceLeDiff, Nat.reduceMul, Nat.zero_mul, Nat.add_zero, Int.reduceToNat, reduceCtorEq, wrap_in, thenQ, blockQ, forall_eq, forall_eq_or_imp, PV.d.injEq, PV.ref.injEq, D.sc.injEq, Value.int.injEq, Value.bool.injEq, Ob.row.injEq, true_and, and_true]; first | done | omega)), ?_⟩); done) (by (repeat' first | exact List.forall_mem_nil _ | refine List.forall_mem_cons.2 ⟨(by first | rfl | (simp (disch := omega) only [go_sem, argEnv, envOf, obOf, Nat.reduceEqDiff, ↓reduceIte, Nat.reduceLT, Nat.beq_eq, Bool.or_eq_true, argEnvM, gOf, Nat.zero_add, Nat.le_refl, Nat.reduceAdd, Nat.reduceSub, Nat.reduceLeDiff, Nat.reduceMul, Nat.zero_mul, Nat.add_zero, Int.reduceToNat, reduceCtorEq, wrap_in, thenQ, blockQ, forall_eq, forall_eq_or_imp]; done) | (simp (disch := omega) only [go_sem, argEnv, envOf, obOf, Nat.reduceEqDiff, ↓reduceIte, Nat.reduceLT, Nat.beq_eq, Bool.or_eq_true, argEnvM, gOf, Nat.zero_add, Nat.le_refl, Nat.reduceAdd, Nat.reduceSub, Nat.reduceLeDiff, Nat.reduceMul, Nat.zero_mul, Nat.add_zero, Int.reduceToNat, reduceCtorEq, wrap_in, thenQ, blockQ, forall_eq, forall_eq_or_imp]; congr 1; done) | (simp (disch := omega) only [go_sem, argEnv, envOf, obOf, Nat.reduceEqDiff, ↓reduceIte, Nat.reduceLT, Nat.beq_eq, Bool.or_eq_true, argEnvM, gOf, Nat.zero_add, Nat.le_refl, Nat.reduceAdd, Nat.reduceSub, Nat.reduceLeDiff, Nat.reduceMul, Nat.zero_mul, Nat.add_zero, Int.reduceToNat, reduceCtorEq, wrap_in, thenQ, blockQ, forall_eq, forall_eq_or_imp, PV.d.injEq, PV.ref.injEq, D.sc.injEq, Value.int.injEq, Value.bool.injEq, Ob.row.injEq, true_and, and_true]; first | done | omega)), ?_⟩); done) rfl rfl (nodup_of rfl) rfl (by (repeat' first | exact pd_of _ rfl | exact pd_dead | refine pd_upd rfl ?_ | refine pd_frz ?_); done)) ?_
      refine pw_ret ?_
      exact ⟨⟨_, rfl, rfl, rfl, rfl, trivial⟩, List.forall_mem_cons.2 ⟨row_ob (by rw [e]), List.forall_mem_cons.2 ⟨rfl, List.forall_mem_nil _⟩⟩⟩
end Go.Proofs.Ytcbcccphlhpajaa
