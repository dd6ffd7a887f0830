/- Lists compared; mirrored problems. -/
import Derived.Test.YtcbcccphlhpajaaF
namespace Go.Proofs.Ytcbcccphlhpajaa
open Go Go.PS Go.Proofs
set_option maxRecDepth 100000
set_option linter.unusedSimpArgs false
set_option linter.unusedVariables false
attribute [local irreducible] wpRun wpG CallsTo
theorem SameInts_spec (l m : List Int) : CallsTo Try.prog 20 [intsD l, intsD m] (.bool (decide (l = m))) := by
  refine callsTo_of Try.func20 rfl (by decide +kernel) (Nat.le_of_ble_eq_true rfl) ?_
  intro hat B X w0
  have hl := at_len 0 hat rfl
  have hm := at_len 1 hat rfl
  rw [List.length_map] at hl hm
  by_cases hlm : l.length = m.length
  · repeat' first
      | refine pw_seq ?_
      | refine pw_skip ?_
      | refine pw_ret ?_
      | refine pw_exit ?_
      | refine pw_block ?_
      | refine pw_region (fun _ => false) hmix ?_
      | (refine wpG_split rfl rfl (fun hc => ?_) (fun hc => ?_) <;> try simp only [decide_eq_true_eq, decide_eq_false_iff_not, Bool.not_eq_true', Bool.not_eq_false', Bool.false_eq_true, Bool.true_eq_false, reduceCtorEq, Bool.and_eq_true, Bool.or_eq_true, not_and, not_or] at hc)
      | (refine pw_cond _ rfl rfl (fun hc => ?_) (fun hc => ?_) <;> (try simp only [decide_eq_true_eq, decide_eq_false_iff_not, Bool.not_eq_true', Bool.not_eq_false', Bool.false_eq_true, Bool.true_eq_false, reduceCtorEq, Bool.and_eq_true, Bool.or_eq_true, not_and, not_or] at hc) <;> try (exfalso; omega))
      | simp (maxSteps := 1000000) (disch := omega) only [go_sem, argEnv, envOf, obOf, Nat.reduceEqDiff, ↓reduceIte, Nat.reduceLT, Nat.beq_eq, Bool.or_eq_true, argEnvM, gOf, Nat.zero_add, Nat.le_refl, Nat.reduceAdd, Nat.reduceSub, Nat.reduceLeDiff, Nat.reduceMul, Nat.zero_mul, Nat.add_zero, Int.reduceToNat, reduceCtorEq, wrap_in, thenQ, blockQ, forall_eq, forall_eq_or_imp]
      | apply And.intro
      | omega
      | decide +kernel
    refine pw_loopI (κ := Nat) (fun (k : Nat) => k ≤ l.length ∧ l.take k = m.take k) (fun (k : Nat) => [(0, .d (intsD l)), (1, .d (intsD m)), (5, .int k)]) (fun (k : Nat) => []) (fun (k : Nat) => l.length - k) 0 ?_ ?_ ?_
    · exact ⟨Nat.zero_le _, rfl⟩
    · exact entL_ren [] _ _ (by (repeat' first | exact List.forall_mem_nil _ | refine List.forall_mem_cons.2 ⟨(by first | rfl | (simp (disch := omega) only [go_sem, argEnv, envOf, obOf, Nat.reduceEqDiff, ↓reduceIte, Nat.reduceLT, Nat.beq_eq, Bool.or_eq_true, argEnvM, gOf, Nat.zero_add, Nat.le_refl, Nat.reduceAdd, Nat.reduceSub, Nat.reduceLeDiff, Nat.reduceMul, Nat.zero_mul, Nat.add_zero, Int.reduceToNat, reduceCtorEq, wrap_in, thenQ, blockQ, forall_eq, forall_eq_or_imp]; done) | (simp (disch := omega) only [go_sem, argEnv, envOf, obOf, Nat.reduceEqDiff, ↓reduceIte, Nat.reduceLT, Nat.beq_eq, Bool.or_eq_true, argEnvM, gOf, Nat.zero_add, Nat.le_refl, Nat.reduceAdd, Nat.reduceSub, Nat.reduceLeDiff, Nat.reduceMul, Nat.zero_mul, Nat.add_zero, Int.reduceToNat, reduceCtorEq, wrap_in, thenQ, blockQ, forall_eq, forall_eq_or_imp]; congr 1; done) | (simp (disch := omega) only [go_sem, argEnv, envOf, obOf, Nat.reduceEqDiff, ↓reduceIte, Nat.reduceLT, Nat.beq_eq, Bool.or_eq_true, argEnvM, gOf, Nat.zero_add, Nat.le_refl, Nat.reduceAdd, Nat.reduceSub, Nat.reduceLeDiff, Nat.reduceMul, Nat.zero_mul, Nat.add_zero, Int.reduceToNat, reduceCtorEq, wrap_in, thenQ, blockQ, forall_eq, forall_eq_or_imp, PV.d.injEq, PV.ref.injEq, D.sc.injEq, Value.int.injEq, Value.bool.injEq, Ob.row.injEq, true_and, and_true]; first | done | omega)), ?_⟩); done) (by (repeat' first | exact List.forall_mem_nil _ | refine List.forall_mem_cons.2 ⟨(by first | rfl | (simp (disch := omega) only [go_sem, argEnv, envOf, obOf, Nat.reduceEqDiff, ↓reduceIte, Nat.reduceLT, Nat.beq_eq, Bool.or_eq_true, argEnvM, gOf, Nat.zero_add, Nat.le_refl, Nat.reduceAdd, Nat.reduceSub, Nat.reduceLeDiff, Nat.reduceMul, Nat.zero_mul, Nat.add_zero, Int.reduceToNat, reduceCtorEq, wrap_in, thenQ, blockQ, forall_eq, forall_eq_or_imp]; done) | (simp (disch := omega) only [go_sem, argEnv, envOf, obOf, Nat.reduceEqDiff, ↓reduceIte, Nat.reduceLT, Nat.beq_eq, Bool.or_eq_true, argEnvM, gOf, Nat.zero_add, Nat.le_refl, Nat.reduceAdd, Nat.reduceSub, Nat.reduceLeDiff, Nat.reduceMul, Nat.zero_mul, Nat.add_zero, Int.reduceToNat, reduceCtorEq, wrap_in, thenQ, blockQ, forall_eq, forall_eq_or_imp]; congr 1; done) | (simp (disch := omega) only [go_sem, argEnv, envOf, obOf, Nat.reduceEqDiff, ↓reduceIte, Nat.reduceLT, Nat.beq_eq, Bool.or_eq_true, argEnvM, gOf, Nat.zero_add, Nat.le_refl, Nat.reduceAdd, Nat.reduceSub, Nat.reduceLeDiff, Nat.reduceMul, Nat.zero_mul, Nat.add_zero, Int.reduceToNat, reduceCtorEq, wrap_in, thenQ, blockQ, forall_eq, forall_eq_or_imp, PV.d.injEq, PV.ref.injEq, D.sc.injEq, Value.int.injEq, Value.bool.injEq, Ob.row.injEq, true_and, and_true]; first | done | omega)), ?_⟩); done) rfl rfl (nodup_of rfl) rfl (by (repeat' first | exact pd_of _ rfl | exact pd_dead | refine pd_upd rfl ?_ | refine pd_frz ?_); done)
    · rintro k ⟨hk, hinv⟩
      rcases Nat.lt_or_ge k l.length with hlt | hge
      · obtain ⟨p, hp⟩ := get_some hlt
        obtain ⟨q, hq⟩ := get_some (hlm ▸ hlt)
        repeat' first
          | refine pw_seq ?_
          | refine pw_skip ?_
          | refine pw_ret ?_
          | refine pw_exit ?_
          | refine pw_block ?_
          | refine pw_region (fun _ => false) hmix ?_
          | (refine wpG_split rfl rfl (fun hc => ?_) (fun hc => ?_) <;> try simp only [decide_eq_true_eq, decide_eq_false_iff_not, Bool.not_eq_true', Bool.not_eq_false', Bool.false_eq_true, Bool.true_eq_false, reduceCtorEq, Bool.and_eq_true, Bool.or_eq_true, not_and, not_or] at hc)
          | (refine pw_cond _ rfl rfl (fun hc => ?_) (fun hc => ?_) <;> (try simp only [decide_eq_true_eq, decide_eq_false_iff_not, Bool.not_eq_true', Bool.not_eq_false', Bool.false_eq_true, Bool.true_eq_false, reduceCtorEq, Bool.and_eq_true, Bool.or_eq_true, not_and, not_or] at hc) <;> try (exfalso; omega))
          | simp (maxSteps := 1000000) (disch := omega) only [go_sem, argEnv, envOf, obOf, Nat.reduceEqDiff, ↓reduceIte, Nat.reduceLT, Nat.beq_eq, Bool.or_eq_true, argEnvM, gOf, Nat.zero_add, Nat.le_refl, Nat.reduceAdd, Nat.reduceSub, Nat.reduceLeDiff, Nat.reduceMul, Nat.zero_mul, Nat.add_zero, Int.reduceToNat, reduceCtorEq, wrap_in, thenQ, blockQ, forall_eq, forall_eq_or_imp, hp, hq]
          | apply And.intro
          | omega
          | decide +kernel
        · refine bool_some ?_
          rw [decide_eq_false (take_ne hp hq hc)]
        · refine ⟨k + 1, ?_, entL_ren [] _ _ (by (repeat' first | exact List.forall_mem_nil _ | refine List.forall_mem_cons.2 ⟨(by first | rfl | (simp (disch := omega) only [go_sem, argEnv, envOf, obOf, Nat.reduceEqDiff, ↓reduceIte, Nat.reduceLT, Nat.beq_eq, Bool.or_eq_true, argEnvM, gOf, Nat.zero_add, Nat.le_refl, Nat.reduceAdd, Nat.reduceSub, Nat.reduceLeDiff, Nat.reduceMul, Nat.zero_mul, Nat.add_zero, Int.reduceToNat, reduceCtorEq, wrap_in, thenQ, blockQ, forall_eq, forall_eq_or_imp]; done) | (simp (disch := omega) only [go_sem, argEnv, envOf, obOf, Nat.reduceEqDiff, ↓reduceIte, Nat.reduceLT, Nat.beq_eq, Bool.or_eq_true, argEnvM, gOf, Nat.zero_add, Nat.le_refl, Nat.reduceAdd, Nat.reduceSub, Nat.reduceLeDiff, Nat.reduceMul, Nat.zero_mul, Nat.add_zero, Int.reduceToNat, reduceCtorEq, wrap_in, thenQ, blockQ, forall_eq, forall_eq_or_imp]; congr 1; done) | (simp (disch := omega) only [go_sem, argEnv, envOf, obOf, Nat.reduceEqDiff, ↓reduceIte, Nat.reduceLT, Nat.beq_eq, Bool.or_eq_true, argEnvM, gOf, Nat.zero_add, Nat.le_refl, Nat.reduceAdd, Nat.reduceSub, Nat.reduceLeDiff, Nat.reduceMul, Nat.zero_mul, Nat.add_zero, Int.reduceToNat, reduceCtorEq, wrap_in, thenQ, blockQ, forall_eq, forall_eq_or_imp, PV.d.injEq, PV.ref.injEq, D.sc.injEq, Value.int.injEq, Value.bool.injEq, Ob.row.injEq, true_and, and_true]; first | done | omega)), ?_⟩); done) (by (repeat' first | exact List.forall_mem_nil _ | refine List.forall_mem_cons.2 ⟨(by first | rfl | (simp (disch := omega) only [go_sem, argEnv, envOf, obOf, Nat.reduceEqDiff, ↓reduceIte, Nat.reduceLT, Nat.beq_eq, Bool.or_eq_true, argEnvM, gOf, Nat.zero_add, Nat.le_refl, Nat.reduceAdd, Nat.reduceSub, Nat.reduceLeDiff, Nat.reduceMul, Nat.zero_mul, Nat.add_zero, Int.reduceToNat, reduceCtorEq, wrap_in, thenQ, blockQ, forall_eq, forall_eq_or_imp]; done) | (simp (disch := omega) only [go_sem, argEnv, envOf, obOf, Nat.reduceEqDiff, ↓reduceIte, Nat.reduceLT, Nat.beq_eq, Bool.or_eq_true, argEnvM, gOf, Nat.zero_add, Nat.le_refl, Nat.reduceAdd, Nat.reduceSub, Nat.reduceLeDiff, Nat.reduceMul, Nat.zero_mul, Nat.add_zero, Int.reduceToNat, reduceCtorEq, wrap_in, thenQ, blockQ, forall_eq, forall_eq_or_imp]; congr 1; done) | (simp (disch := omega) only [go_sem, argEnv, envOf, obOf, Nat.reduceEqDiff, ↓reduceIte, Nat.reduceLT, Nat.beq_eq, Bool.or_eq_true, argEnvM, gOf, Nat.zero_add, Nat.le_refl, Nat.reduceAdd, Nat.reduceSub, Nat.reduceLeDiff, Nat.reduceMul, Nat.zero_mul, Nat.add_zero, Int.reduceToNat, reduceCtorEq, wrap_in, thenQ, blockQ, forall_eq, forall_eq_or_imp, PV.d.injEq, PV.ref.injEq, D.sc.injEq, Value.int.injEq, Value.bool.injEq, Ob.row.injEq, true_and, and_true]; first | done | omega)), ?_⟩); done) rfl rfl (nodup_of rfl) rfl (by (repeat' first | exact pd_of _ rfl | exact pd_dead | refine pd_upd rfl ?_ | refine pd_frz ?_); done), ?_⟩
          · exact ⟨by omega, by rw [take_snoc hp, take_snoc hq, hinv, hc]⟩
          · omega
      · repeat' first
          | refine pw_seq ?_
          | refine pw_skip ?_
          | refine pw_ret ?_
          | refine pw_exit ?_
          | refine pw_block ?_
          | refine pw_region (fun _ => false) hmix ?_
          | (refine wpG_split rfl rfl (fun hc => ?_) (fun hc => ?_) <;> try simp only [decide_eq_true_eq, decide_eq_false_iff_not, Bool.not_eq_true', Bool.not_eq_false', Bool.false_eq_true, Bool.true_eq_false, reduceCtorEq, Bool.and_eq_true, Bool.or_eq_true, not_and, not_or] at hc)
          | (refine pw_cond _ rfl rfl (fun hc => ?_) (fun hc => ?_) <;> (try simp only [decide_eq_true_eq, decide_eq_false_iff_not, Bool.not_eq_true', Bool.not_eq_false', Bool.false_eq_true, Bool.true_eq_false, reduceCtorEq, Bool.and_eq_true, Bool.or_eq_true, not_and, not_or] at hc) <;> try (exfalso; omega))
          | simp (maxSteps := 1000000) (disch := omega) only [go_sem, argEnv, envOf, obOf, Nat.reduceEqDiff, ↓reduceIte, Nat.reduceLT, Nat.beq_eq, Bool.or_eq_true, argEnvM, gOf, Nat.zero_add, Nat.le_refl, Nat.reduceAdd, Nat.reduceSub, Nat.reduceLeDiff, Nat.reduceMul, Nat.zero_mul, Nat.add_zero, Int.reduceToNat, reduceCtorEq, wrap_in, thenQ, blockQ, forall_eq, forall_eq_or_imp]
          | apply And.intro
          | omega
          | decide +kernel
        refine bool_some ?_
        rw [List.take_of_length_le hge, List.take_of_length_le (by omega)] at hinv
        simp [hinv]
  · repeat' first
      | refine pw_seq ?_
      | refine pw_skip ?_
      | refine pw_ret ?_
      | refine pw_exit ?_
      | refine pw_block ?_
      | refine pw_region (fun _ => false) hmix ?_
      | (refine wpG_split rfl rfl (fun hc => ?_) (fun hc => ?_) <;> try simp only [decide_eq_true_eq, decide_eq_false_iff_not, Bool.not_eq_true', Bool.not_eq_false', Bool.false_eq_true, Bool.true_eq_false, reduceCtorEq, Bool.and_eq_true, Bool.or_eq_true, not_and, not_or] at hc)
      | (refine pw_cond _ rfl rfl (fun hc => ?_) (fun hc => ?_) <;> (try simp only [decide_eq_true_eq, decide_eq_false_iff_not, Bool.not_eq_true', Bool.not_eq_false', Bool.false_eq_true, Bool.true_eq_false, reduceCtorEq, Bool.and_eq_true, Bool.or_eq_true, not_and, not_or] at hc) <;> try (exfalso; omega))
      | simp (maxSteps := 1000000) (disch := omega) only [go_sem, argEnv, envOf, obOf, Nat.reduceEqDiff, ↓reduceIte, Nat.reduceLT, Nat.beq_eq, Bool.or_eq_true, argEnvM, gOf, Nat.zero_add, Nat.le_refl, Nat.reduceAdd, Nat.reduceSub, Nat.reduceLeDiff, Nat.reduceMul, Nat.zero_mul, Nat.add_zero, Int.reduceToNat, reduceCtorEq, wrap_in, thenQ, blockQ, forall_eq, forall_eq_or_imp]
      | apply And.intro
      | omega
      | decide +kernel
    refine bool_some ?_
    rw [decide_eq_false]
    rintro rfl; exact hlm rfl
theorem small_spec (g : Net) (k m : Int) : CallsTo Try.prog 8 [nD g, .int k, .int m] (.bool (decide (g.1 ≤ k) && decide ((g.2.length : Int) ≤ m))) := by
  refine callsTo_of Try.func8 rfl (by decide +kernel) (Nat.le_of_ble_eq_true rfl) ?_
  intro hat B X w0
  have hl := at_len2 0 1 hat rfl rfl
  rw [List.length_map] at hl
  repeat' first
    | refine pw_seq ?_
    | refine pw_skip ?_
    | refine pw_ret ?_
    | refine pw_exit ?_
    | refine pw_block ?_
    | refine pw_region (fun _ => false) hmix ?_
    | (refine wpG_split rfl rfl (fun hc => ?_) (fun hc => ?_) <;> try simp only [decide_eq_true_eq, decide_eq_false_iff_not, Bool.not_eq_true', Bool.not_eq_false', Bool.false_eq_true, Bool.true_eq_false, reduceCtorEq, Bool.and_eq_true, Bool.or_eq_true, not_and, not_or] at hc)
    | (refine pw_cond _ rfl rfl (fun hc => ?_) (fun hc => ?_) <;> (try simp only [decide_eq_true_eq, decide_eq_false_iff_not, Bool.not_eq_true', Bool.not_eq_false', Bool.false_eq_true, Bool.true_eq_false, reduceCtorEq, Bool.and_eq_true, Bool.or_eq_true, not_and, not_or] at hc) <;> try (exfalso; omega))
    | simp (maxSteps := 1000000) (disch := omega) only [go_sem, argEnv, envOf, obOf, Nat.reduceEqDiff, ↓reduceIte, Nat.reduceLT, Nat.beq_eq, Bool.or_eq_true, argEnvM, gOf, Nat.zero_add, Nat.le_refl, Nat.reduceAdd, Nat.reduceSub, Nat.reduceLeDiff, Nat.reduceMul, Nat.zero_mul, Nat.add_zero, Int.reduceToNat, reduceCtorEq, wrap_in, thenQ, blockQ, forall_eq, forall_eq_or_imp]
    | apply And.intro
    | omega
    | decide +kernel
  all_goals
    refine bool_some ?_
    simp [*]
def mirB (b : Bd) : Bd := (b.2.1, b.1, b.2.2.1, b.2.2.2)
def mirF (g : Net) : Net := (g.1, g.2.map mirB)
theorem Mirror_spec (g : Net) (hn : g.2.length ≤ 1000000) : CallsTo Try.prog 22 [nD g] (nD (mirF g)) := by
  obtain ⟨n, l⟩ := g
  refine callsTo_of Try.func22 rfl (by decide +kernel) (Nat.le_of_ble_eq_true rfl) ?_
  intro hat B X w0
  have hl := at_len2 0 1 hat rfl rfl
  rw [List.length_map] at hl
  dsimp only at hl hn
  repeat' first
    | refine pw_seq ?_
    | refine pw_skip ?_
    | refine pw_ret ?_
    | refine pw_exit ?_
    | refine pw_block ?_
    | refine pw_region (fun _ => false) hmix ?_
    | (refine wpG_split rfl rfl (fun hc => ?_) (fun hc => ?_) <;> try simp only [decide_eq_true_eq, decide_eq_false_iff_not, Bool.not_eq_true', Bool.not_eq_false', Bool.false_eq_true, Bool.true_eq_false, reduceCtorEq, Bool.and_eq_true, Bool.or_eq_true, not_and, not_or] at hc)
    | (refine pw_cond _ rfl rfl (fun hc => ?_) (fun hc => ?_) <;> (try simp only [decide_eq_true_eq, decide_eq_false_iff_not, Bool.not_eq_true', Bool.not_eq_false', Bool.false_eq_true, Bool.true_eq_false, reduceCtorEq, Bool.and_eq_true, Bool.or_eq_true, not_and, not_or] at hc) <;> try (exfalso; omega))
    | simp (maxSteps := 1000000) (disch := omega) only [go_sem, argEnv, envOf, obOf, Nat.reduceEqDiff, ↓reduceIte, Nat.reduceLT, Nat.beq_eq, Bool.or_eq_true, argEnvM, gOf, Nat.zero_add, Nat.le_refl, Nat.reduceAdd, Nat.reduceSub, Nat.reduceLeDiff, Nat.reduceMul, Nat.zero_mul, Nat.add_zero, Int.reduceToNat, reduceCtorEq, wrap_in, thenQ, blockQ, forall_eq, forall_eq_or_imp]
    | apply And.intro
    | omega
    | decide +kernel
  refine pw_ent _ (ent_nilC 3 1 900 4 rfl rfl rfl) ?_
  refine pw_loopI (κ := Nat) (fun (k : Nat) => k ≤ l.length) (fun (k : Nat) => [(1, .ptr 1 0 0 0), (2, .ptr 2 0 0 0), (3, .ptr 3 0 0 0), (4, .int k)]) (fun (k : Nat) => [(1, .cells [.int n, .d (bdsD l)]), (2, .cells [.int 0, .nilS]), (3, .cells [.int n, .ref 900 4 0 k k]), (900, .row 4 (((l.map mirB).take k).map bdD))]) (fun (k : Nat) => l.length - k) 0 ?_ ?_ ?_
  · exact Nat.zero_le _
  · exact entL_ren [] _ _ (by (repeat' first | exact List.forall_mem_nil _ | refine List.forall_mem_cons.2 ⟨(by first | rfl | (simp (disch := omega) only [go_sem, argEnv, envOf, obOf, Nat.reduceEqDiff, ↓reduceIte, Nat.reduceLT, Nat.beq_eq, Bool.or_eq_true, argEnvM, gOf, Nat.zero_add, Nat.le_refl, Nat.reduceAdd, Nat.reduceSub, Nat.reduceLeDiff, Nat.reduceMul, Nat.zero_mul, Nat.add_zero, Int.reduceToNat, reduceCtorEq, wrap_in, thenQ, blockQ, forall_eq, forall_eq_or_imp]; done) | (simp (disch := omega) only [go_sem, argEnv, envOf, obOf, Nat.reduceEqDiff, ↓reduceIte, Nat.reduceLT, Nat.beq_eq, Bool.or_eq_true, argEnvM, gOf, Nat.zero_add, Nat.le_refl, Nat.reduceAdd, Nat.reduceSub, Nat.reduceLeDiff, Nat.reduceMul, Nat.zero_mul, Nat.add_zero, Int.reduceToNat, reduceCtorEq, wrap_in, thenQ, blockQ, forall_eq, forall_eq_or_imp]; congr 1; done) | (simp (disch := omega) only [go_sem, argEnv, envOf, obOf, Nat.reduceEqDiff, ↓reduceIte, Nat.reduceLT, Nat.beq_eq, Bool.or_eq_true, argEnvM, gOf, Nat.zero_add, Nat.le_refl, Nat.reduceAdd, Nat.reduceSub, Nat.reduceLeDiff, Nat.reduceMul, Nat.zero_mul, Nat.add_zero, Int.reduceToNat, reduceCtorEq, wrap_in, thenQ, blockQ, forall_eq, forall_eq_or_imp, PV.d.injEq, PV.ref.injEq, D.sc.injEq, Value.int.injEq, Value.bool.injEq, Ob.row.injEq, true_and, and_true]; first | done | omega)), ?_⟩); done) (by (repeat' first | exact List.forall_mem_nil _ | refine List.forall_mem_cons.2 ⟨(by first | rfl | (simp (disch := omega) only [go_sem, argEnv, envOf, obOf, Nat.reduceEqDiff, ↓reduceIte, Nat.reduceLT, Nat.beq_eq, Bool.or_eq_true, argEnvM, gOf, Nat.zero_add, Nat.le_refl, Nat.reduceAdd, Nat.reduceSub, Nat.reduceLeDiff, Nat.reduceMul, Nat.zero_mul, Nat.add_zero, Int.reduceToNat, reduceCtorEq, wrap_in, thenQ, blockQ, forall_eq, forall_eq_or_imp]; done) | (simp (disch := omega) only [go_sem, argEnv, envOf, obOf, Nat.reduceEqDiff, ↓reduceIte, Nat.reduceLT, Nat.beq_eq, Bool.or_eq_true, argEnvM, gOf, Nat.zero_add, Nat.le_refl, Nat.reduceAdd, Nat.reduceSub, Nat.reduceLeDiff, Nat.reduceMul, Nat.zero_mul, Nat.add_zero, Int.reduceToNat, reduceCtorEq, wrap_in, thenQ, blockQ, forall_eq, forall_eq_or_imp]; congr 1; done) | (simp (disch := omega) only [go_sem, argEnv, envOf, obOf, Nat.reduceEqDiff, ↓reduceIte, Nat.reduceLT, Nat.beq_eq, Bool.or_eq_true, argEnvM, gOf, Nat.zero_add, Nat.le_refl, Nat.reduceAdd, Nat.reduceSub, Nat.reduceLeDiff, Nat.reduceMul, Nat.zero_mul, Nat.add_zero, Int.reduceToNat, reduceCtorEq, wrap_in, thenQ, blockQ, forall_eq, forall_eq_or_imp, PV.d.injEq, PV.ref.injEq, D.sc.injEq, Value.int.injEq, Value.bool.injEq, Ob.row.injEq, true_and, and_true]; first | done | omega)), ?_⟩); done) rfl rfl (nodup_of rfl) rfl (by (repeat' first | exact pd_of _ rfl | exact pd_dead | refine pd_upd rfl ?_ | refine pd_frz ?_); done)
  · intro k hk
    rcases Nat.lt_or_ge k l.length with hlt | hge
    · obtain ⟨p, hp⟩ := get_some hlt
      have hm : (l.map mirB)[k]? = some (mirB p) := by rw [List.getElem?_map, hp]; rfl
      have hs := take_snoc hm
      have hlen : ((l.map mirB).take k).length = k := by rw [List.length_take, List.length_map]; omega
      have htk : (List.map bdD ((l.map mirB).take k)).take k = List.map bdD ((l.map mirB).take k) := List.take_of_length_le (by simp; omega)
      repeat' first
        | refine pw_seq ?_
        | refine pw_skip ?_
        | refine pw_ret ?_
        | refine pw_exit ?_
        | refine pw_block ?_
        | refine pw_region (fun _ => false) hmix ?_
        | (refine wpG_split rfl rfl (fun hc => ?_) (fun hc => ?_) <;> try simp only [decide_eq_true_eq, decide_eq_false_iff_not, Bool.not_eq_true', Bool.not_eq_false', Bool.false_eq_true, Bool.true_eq_false, reduceCtorEq, Bool.and_eq_true, Bool.or_eq_true, not_and, not_or] at hc)
        | (refine pw_cond _ rfl rfl (fun hc => ?_) (fun hc => ?_) <;> (try simp only [decide_eq_true_eq, decide_eq_false_iff_not, Bool.not_eq_true', Bool.not_eq_false', Bool.false_eq_true, Bool.true_eq_false, reduceCtorEq, Bool.and_eq_true, Bool.or_eq_true, not_and, not_or] at hc) <;> try (exfalso; omega))
        | simp (maxSteps := 1000000) (disch := omega) only [go_sem, argEnv, envOf, obOf, Nat.reduceEqDiff, ↓reduceIte, Nat.reduceLT, Nat.beq_eq, Bool.or_eq_true, argEnvM, gOf, Nat.zero_add, Nat.le_refl, Nat.reduceAdd, Nat.reduceSub, Nat.reduceLeDiff, Nat.reduceMul, Nat.zero_mul, Nat.add_zero, Int.reduceToNat, reduceCtorEq, wrap_in, thenQ, blockQ, forall_eq, forall_eq_or_imp, hp, roomy, hlen, htk]
        | apply And.intro
        | omega
        | decide +kernel
      refine ⟨k + 1, ?_, entL_ren [(900, 33)] _ _ (by (repeat' first | exact List.forall_mem_nil _ | refine List.forall_mem_cons.2 ⟨(by first | rfl | (simp (disch := omega) only [go_sem, argEnv, envOf, obOf, Nat.reduceEqDiff, ↓reduceIte, Nat.reduceLT, Nat.beq_eq, Bool.or_eq_true, argEnvM, gOf, Nat.zero_add, Nat.le_refl, Nat.reduceAdd, Nat.reduceSub, Nat.reduceLeDiff, Nat.reduceMul, Nat.zero_mul, Nat.add_zero, Int.reduceToNat, reduceCtorEq, wrap_in, thenQ, blockQ, forall_eq, forall_eq_or_imp, hs, List.map_append]; done) | (simp (disch := omega) only [go_sem, argEnv, envOf, obOf, Nat.reduceEqDiff, ↓reduceIte, Nat.reduceLT, Nat.beq_eq, Bool.or_eq_true, argEnvM, gOf, Nat.zero_add, Nat.le_refl, Nat.reduceAdd, Nat.reduceSub, Nat.reduceLeDiff, Nat.reduceMul, Nat.zero_mul, Nat.add_zero, Int.reduceToNat, reduceCtorEq, wrap_in, thenQ, blockQ, forall_eq, forall_eq_or_imp, hs, List.map_append]; congr 1; done) | (simp (disch := omega) only [go_sem, argEnv, envOf, obOf, Nat.reduceEqDiff, ↓reduceIte, Nat.reduceLT, Nat.beq_eq, Bool.or_eq_true, argEnvM, gOf, Nat.zero_add, Nat.le_refl, Nat.reduceAdd, Nat.reduceSub, Nat.reduceLeDiff, Nat.reduceMul, Nat.zero_mul, Nat.add_zero, Int.reduceToNat, reduceCtorEq, wrap_in, thenQ, blockQ, forall_eq, forall_eq_or_imp, hs, List.map_append, PV.d.injEq, PV.ref.injEq, D.sc.injEq, Value.int.injEq, Value.bool.injEq, Ob.row.injEq, true_and, and_true]; first | done | omega)), ?_⟩); done) (by (repeat' first | exact List.forall_mem_nil _ | refine List.forall_mem_cons.2 ⟨(by first | rfl | (simp (disch := omega) only [go_sem, argEnv, envOf, obOf, Nat.reduceEqDiff, ↓reduceIte, Nat.reduceLT, Nat.beq_eq, Bool.or_eq_true, argEnvM, gOf, Nat.zero_add, Nat.le_refl, Nat.reduceAdd, Nat.reduceSub, Nat.reduceLeDiff, Nat.reduceMul, Nat.zero_mul, Nat.add_zero, Int.reduceToNat, reduceCtorEq, wrap_in, thenQ, blockQ, forall_eq, forall_eq_or_imp, hs, List.map_append]; done) | (simp (disch := omega) only [go_sem, argEnv, envOf, obOf, Nat.reduceEqDiff, ↓reduceIte, Nat.reduceLT, Nat.beq_eq, Bool.or_eq_true, argEnvM, gOf, Nat.zero_add, Nat.le_refl, Nat.reduceAdd, Nat.reduceSub, Nat.reduceLeDiff, Nat.reduceMul, Nat.zero_mul, Nat.add_zero, Int.reduceToNat, reduceCtorEq, wrap_in, thenQ, blockQ, forall_eq, forall_eq_or_imp, hs, List.map_append]; congr 1; done) | (simp (disch := omega) only [go_sem, argEnv, envOf, obOf, Nat.reduceEqDiff, ↓reduceIte, Nat.reduceLT, Nat.beq_eq, Bool.or_eq_true, argEnvM, gOf, Nat.zero_add, Nat.le_refl, Nat.reduceAdd, Nat.reduceSub, Nat.reduceLeDiff, Nat.reduceMul, Nat.zero_mul, Nat.add_zero, Int.reduceToNat, reduceCtorEq, wrap_in, thenQ, blockQ, forall_eq, forall_eq_or_imp, hs, List.map_append, PV.d.injEq, PV.ref.injEq, D.sc.injEq, Value.int.injEq, Value.bool.injEq, Ob.row.injEq, true_and, and_true]; first | done | omega)), ?_⟩); done) rfl rfl (nodup_of rfl) rfl (by (repeat' first | exact pd_of _ rfl | exact pd_dead | refine pd_upd rfl ?_ | refine pd_frz ?_); done), ?_⟩
      · omega
      · omega
    · repeat' first
        | refine pw_seq ?_
        | refine pw_skip ?_
        | refine pw_ret ?_
        | refine pw_exit ?_
        | refine pw_block ?_
        | refine pw_region (fun _ => false) hmix ?_
        | (refine wpG_split rfl rfl (fun hc => ?_) (fun hc => ?_) <;> try simp only [decide_eq_true_eq, decide_eq_false_iff_not, Bool.not_eq_true', Bool.not_eq_false', Bool.false_eq_true, Bool.true_eq_false, reduceCtorEq, Bool.and_eq_true, Bool.or_eq_true, not_and, not_or] at hc)
        | (refine pw_cond _ rfl rfl (fun hc => ?_) (fun hc => ?_) <;> (try simp only [decide_eq_true_eq, decide_eq_false_iff_not, Bool.not_eq_true', Bool.not_eq_false', Bool.false_eq_true, Bool.true_eq_false, reduceCtorEq, Bool.and_eq_true, Bool.or_eq_true, not_and, not_or] at hc) <;> try (exfalso; omega))
        | simp (maxSteps := 1000000) (disch := omega) only [go_sem, argEnv, envOf, obOf, Nat.reduceEqDiff, ↓reduceIte, Nat.reduceLT, Nat.beq_eq, Bool.or_eq_true, argEnvM, gOf, Nat.zero_add, Nat.le_refl, Nat.reduceAdd, Nat.reduceSub, Nat.reduceLeDiff, Nat.reduceMul, Nat.zero_mul, Nat.add_zero, Int.reduceToNat, reduceCtorEq, wrap_in, thenQ, blockQ, forall_eq, forall_eq_or_imp]
        | apply And.intro
        | omega
        | decide +kernel
      have : k = l.length := by omega
      subst this
      refine ⟨_, _, _, _, rfl, ?_⟩
      simp (maxSteps := 1000000) (disch := omega) only [go_sem, argEnv, envOf, obOf, Nat.reduceEqDiff, ↓reduceIte, Nat.reduceLT, Nat.beq_eq, Bool.or_eq_true, argEnvM, gOf, Nat.zero_add, Nat.le_refl, Nat.reduceAdd, Nat.reduceSub, Nat.reduceLeDiff, Nat.reduceMul, Nat.zero_mul, Nat.add_zero, Int.reduceToNat, reduceCtorEq, wrap_in, thenQ, blockQ, forall_eq, forall_eq_or_imp, toD]
      simp [toD, mirF, List.take_of_length_le]
end Go.Proofs.Ytcbcccphlhpajaa
