/- Contracts of small functions on ranking problems. -/
import Derived.Test.YtcbcccphlhpajaaTypes
namespace Go.Proofs.Ytcbcccphlhpajaa
open Go Go.PS Go.Proofs
set_option maxRecDepth 100000
set_option linter.unusedSimpArgs false
set_option linter.unusedVariables false
attribute [local irreducible] wpRun wpG CallsTo

/-- A bound: from, to, length, weight. -/
abbrev Bd := Int × Int × Int × Int
abbrev bdD (b : Bd) : D := .ag [.int b.1, .int b.2.1, .int b.2.2.1, .int b.2.2.2]
abbrev bdsD (l : List Bd) : D := .sl (l.map bdD)
abbrev intsD (l : List Int) : D := .sl (l.map D.int)
abbrev Net := Int × List Bd
abbrev nD (n : Net) : D := .ag [.int n.1, bdsD n.2]
theorem ite_min (a b : Int) : (if b < a then b else a) = min a b := by omega
theorem ite_max (a b : Int) : (if a < b then b else a) = max a b := by omega
def bdIn (n : Int) (b : Bd) : Bool := decide (0 ≤ b.1 ∧ b.1 < n ∧ 0 ≤ b.2.1 ∧ b.2.1 < n ∧ b.1 ≠ b.2.1 ∧ -16777216 ≤ b.2.2.1 ∧ b.2.2.1 ≤ 16777216 ∧ 0 ≤ b.2.2.2 ∧ b.2.2.2 ≤ 8000)
def nOk (n : Net) : Bool := decide (0 ≤ n.1 ∧ n.1 ≤ 2048 ∧ n.2.length ≤ 4096) && !n.2.any (fun b => !bdIn n.1 b)
theorem nOk_in {n : Net} (h : nOk n = true) : 0 ≤ n.1 ∧ n.1 ≤ 2048 ∧ n.2.length ≤ 4096 ∧ ∀ (k : Nat) b, n.2[k]? = some b →
    0 ≤ b.1 ∧ b.1 < n.1 ∧ 0 ≤ b.2.1 ∧ b.2.1 < n.1 ∧ b.1 ≠ b.2.1 ∧ -16777216 ≤ b.2.2.1 ∧ b.2.2.1 ≤ 16777216 ∧ 0 ≤ b.2.2.2 ∧ b.2.2.2 ≤ 8000 := by
  simp only [nOk, Bool.and_eq_true, decide_eq_true_eq, Bool.not_eq_true', List.any_eq_false] at h
  obtain ⟨⟨h1, h2, h3⟩, h4⟩ := h
  refine ⟨h1, h2, h3, fun k b hk => ?_⟩
  have := h4 b (List.mem_of_getElem? hk)
  simpa [bdIn] using this
set_option maxHeartbeats 2000000 in
theorem Valid_spec (g : Net) : CallsTo Try.prog 10 [nD g] (.bool (nOk g)) := by
  obtain ⟨n, l⟩ := g
  refine callsTo_of Try.func10 rfl (by decide +kernel) (Nat.le_of_ble_eq_true rfl) ?_
  intro hat B X w0
  have hl := at_len2 0 1 hat rfl rfl
  rw [List.length_map] at hl
  repeat' first
    | refine pw_seq ?_
    | refine pw_skip ?_
    | refine pw_ret ?_
    | refine pw_exit ?_
    | refine pw_block ?_
    | refine pw_region (fun _ => false) hmix ?_
    | (refine wpG_split rfl rfl (fun hc => ?_) (fun hc => ?_) <;> try simp only [decide_eq_true_eq, decide_eq_false_iff_not, Bool.not_eq_true', Bool.not_eq_false', Bool.false_eq_true, Bool.true_eq_false, reduceCtorEq, Bool.and_eq_true, Bool.or_eq_true, not_and, not_or] at hc)
    | (refine pw_cond _ rfl rfl (fun hc => ?_) (fun hc => ?_) <;> (try simp only [decide_eq_true_eq, decide_eq_false_iff_not, Bool.not_eq_true', Bool.not_eq_false', Bool.false_eq_true, Bool.true_eq_false, reduceCtorEq, Bool.and_eq_true, Bool.or_eq_true, not_and, not_or] at hc) <;> try (exfalso; omega))
    | simp (maxSteps := 1000000) (disch := omega) only [go_sem, argEnv, envOf, obOf, Nat.reduceEqDiff, ↓reduceIte, Nat.reduceLT, Nat.beq_eq, Bool.or_eq_true, argEnvM, gOf, Nat.zero_add, Nat.le_refl, Nat.reduceAdd, Nat.reduceSub, Nat.reduceLeDiff, Nat.reduceMul, Nat.zero_mul, Nat.add_zero, Int.reduceToNat, reduceCtorEq, wrap_in, thenQ, blockQ, forall_eq, forall_eq_or_imp]
    | apply And.intro
    | omega
    | decide +kernel
  all_goals try (refine bool_some ?_; simp [nOk]; omega)
  refine pw_loopI (κ := Nat) (fun (k : Nat) => k ≤ l.length ∧ ∀ (j : Nat) y, j < k → l[j]? = some y → (!bdIn n y) = false) (fun (k : Nat) => [(1, .ptr 1 0 0 0), (20, .d (bdsD l)), (21, .int l.length), (22, .int k)]) (fun (k : Nat) => [(1, .cells [.int n, .d (bdsD l)])]) (fun (k : Nat) => l.length - k) 0 ?_ ?_ ?_
  · exact ⟨Nat.zero_le _, fun j y h => by omega⟩
  · exact entL_ren [] _ _ (by (repeat' first | exact List.forall_mem_nil _ | refine List.forall_mem_cons.2 ⟨(by first | rfl | (simp (disch := omega) only [go_sem, argEnv, envOf, obOf, Nat.reduceEqDiff, ↓reduceIte, Nat.reduceLT, Nat.beq_eq, Bool.or_eq_true, argEnvM, gOf, Nat.zero_add, Nat.le_refl, Nat.reduceAdd, Nat.reduceSub, Nat.reduceLeDiff, Nat.reduceMul, Nat.zero_mul, Nat.add_zero, Int.reduceToNat, reduceCtorEq, wrap_in, thenQ, blockQ, forall_eq, forall_eq_or_imp]; done) | (simp (disch := omega) only [go_sem, argEnv, envOf, obOf, Nat.reduceEqDiff, ↓reduceIte, Nat.reduceLT, Nat.beq_eq, Bool.or_eq_true, argEnvM, gOf, Nat.zero_add, Nat.le_refl, Nat.reduceAdd, Nat.reduceSub, Nat.reduceLeDiff, Nat.reduceMul, Nat.zero_mul, Nat.add_zero, Int.reduceToNat, reduceCtorEq, wrap_in, thenQ, blockQ, forall_eq, forall_eq_or_imp]; congr 1; done) | (simp (disch := omega) only [go_sem, argEnv, envOf, obOf, Nat.reduceEqDiff, ↓reduceIte, Nat.reduceLT, Nat.beq_eq, Bool.or_eq_true, argEnvM, gOf, Nat.zero_add, Nat.le_refl, Nat.reduceAdd, Nat.reduceSub, Nat.reduceLeDiff, Nat.reduceMul, Nat.zero_mul, Nat.add_zero, Int.reduceToNat, reduceCtorEq, wrap_in, thenQ, blockQ, forall_eq, forall_eq_or_imp, PV.d.injEq, PV.ref.injEq, D.sc.injEq, Value.int.injEq, Value.bool.injEq, Ob.row.injEq, true_and, and_true]; first | done | omega)), ?_⟩); done) (by (repeat' first | exact List.forall_mem_nil _ | refine List.forall_mem_cons.2 ⟨(by first | rfl | (simp (disch := omega) only [go_sem, argEnv, envOf, obOf, Nat.reduceEqDiff, ↓reduceIte, Nat.reduceLT, Nat.beq_eq, Bool.or_eq_true, argEnvM, gOf, Nat.zero_add, Nat.le_refl, Nat.reduceAdd, Nat.reduceSub, Nat.reduceLeDiff, Nat.reduceMul, Nat.zero_mul, Nat.add_zero, Int.reduceToNat, reduceCtorEq, wrap_in, thenQ, blockQ, forall_eq, forall_eq_or_imp]; done) | (simp (disch := omega) only [go_sem, argEnv, envOf, obOf, Nat.reduceEqDiff, ↓reduceIte, Nat.reduceLT, Nat.beq_eq, Bool.or_eq_true, argEnvM, gOf, Nat.zero_add, Nat.le_refl, Nat.reduceAdd, Nat.reduceSub, Nat.reduceLeDiff, Nat.reduceMul, Nat.zero_mul, Nat.add_zero, Int.reduceToNat, reduceCtorEq, wrap_in, thenQ, blockQ, forall_eq, forall_eq_or_imp]; congr 1; done) | (simp (disch := omega) only [go_sem, argEnv, envOf, obOf, Nat.reduceEqDiff, ↓reduceIte, Nat.reduceLT, Nat.beq_eq, Bool.or_eq_true, argEnvM, gOf, Nat.zero_add, Nat.le_refl, Nat.reduceAdd, Nat.reduceSub, Nat.reduceLeDiff, Nat.reduceMul, Nat.zero_mul, Nat.add_zero, Int.reduceToNat, reduceCtorEq, wrap_in, thenQ, blockQ, forall_eq, forall_eq_or_imp, PV.d.injEq, PV.ref.injEq, D.sc.injEq, Value.int.injEq, Value.bool.injEq, Ob.row.injEq, true_and, and_true]; first | done | omega)), ?_⟩); done) rfl rfl (nodup_of rfl) rfl (by (repeat' first | exact pd_of _ rfl | exact pd_dead | refine pd_upd rfl ?_ | refine pd_frz ?_); done)
  · rintro k ⟨hk, hinv⟩
    rcases Nat.lt_or_ge k l.length with hlt | hge
    · obtain ⟨p, hp⟩ := get_some hlt
      repeat' first
        | refine pw_seq ?_
        | refine pw_skip ?_
        | refine pw_ret ?_
        | refine pw_exit ?_
        | refine pw_block ?_
        | refine pw_region (fun _ => false) hmix ?_
        | (refine wpG_split rfl rfl (fun hc => ?_) (fun hc => ?_) <;> try simp only [decide_eq_true_eq, decide_eq_false_iff_not, Bool.not_eq_true', Bool.not_eq_false', Bool.false_eq_true, Bool.true_eq_false, reduceCtorEq, Bool.and_eq_true, Bool.or_eq_true, not_and, not_or] at hc)
        | (refine pw_cond _ rfl rfl (fun hc => ?_) (fun hc => ?_) <;> (try simp only [decide_eq_true_eq, decide_eq_false_iff_not, Bool.not_eq_true', Bool.not_eq_false', Bool.false_eq_true, Bool.true_eq_false, reduceCtorEq, Bool.and_eq_true, Bool.or_eq_true, not_and, not_or] at hc) <;> try (exfalso; omega))
        | simp (maxSteps := 1000000) (disch := omega) only [go_sem, argEnv, envOf, obOf, Nat.reduceEqDiff, ↓reduceIte, Nat.reduceLT, Nat.beq_eq, Bool.or_eq_true, argEnvM, gOf, Nat.zero_add, Nat.le_refl, Nat.reduceAdd, Nat.reduceSub, Nat.reduceLeDiff, Nat.reduceMul, Nat.zero_mul, Nat.add_zero, Int.reduceToNat, reduceCtorEq, wrap_in, thenQ, blockQ, forall_eq, forall_eq_or_imp, hp, ite_min, ite_max]
        | apply And.intro
        | omega
        | decide +kernel
      all_goals try
        refine bool_some ?_
        rw [nOk, any_at hp (by rw [bdIn, Bool.not_eq_true', decide_eq_false_iff_not]; omega)]
        simp
      · refine ⟨k + 1, ?_, entL_ren [] _ _ (by (repeat' first | exact List.forall_mem_nil _ | refine List.forall_mem_cons.2 ⟨(by first | rfl | (simp (disch := omega) only [go_sem, argEnv, envOf, obOf, Nat.reduceEqDiff, ↓reduceIte, Nat.reduceLT, Nat.beq_eq, Bool.or_eq_true, argEnvM, gOf, Nat.zero_add, Nat.le_refl, Nat.reduceAdd, Nat.reduceSub, Nat.reduceLeDiff, Nat.reduceMul, Nat.zero_mul, Nat.add_zero, Int.reduceToNat, reduceCtorEq, wrap_in, thenQ, blockQ, forall_eq, forall_eq_or_imp]; done) | (simp (disch := omega) only [go_sem, argEnv, envOf, obOf, Nat.reduceEqDiff, ↓reduceIte, Nat.reduceLT, Nat.beq_eq, Bool.or_eq_true, argEnvM, gOf, Nat.zero_add, Nat.le_refl, Nat.reduceAdd, Nat.reduceSub, Nat.reduceLeDiff, Nat.reduceMul, Nat.zero_mul, Nat.add_zero, Int.reduceToNat, reduceCtorEq, wrap_in, thenQ, blockQ, forall_eq, forall_eq_or_imp]; congr 1; done) | (simp (disch := omega) only [go_sem, argEnv, envOf, obOf, Nat.reduceEqDiff, ↓reduceIte, Nat.reduceLT, Nat.beq_eq, Bool.or_eq_true, argEnvM, gOf, Nat.zero_add, Nat.le_refl, Nat.reduceAdd, Nat.reduceSub, Nat.reduceLeDiff, Nat.reduceMul, Nat.zero_mul, Nat.add_zero, Int.reduceToNat, reduceCtorEq, wrap_in, thenQ, blockQ, forall_eq, forall_eq_or_imp, PV.d.injEq, PV.ref.injEq, D.sc.injEq, Value.int.injEq, Value.bool.injEq, Ob.row.injEq, true_and, and_true]; first | done | omega)), ?_⟩); done) (by (repeat' first | exact List.forall_mem_nil _ | refine List.forall_mem_cons.2 ⟨(by first | rfl | (simp (disch := omega) only [go_sem, argEnv, envOf, obOf, Nat.reduceEqDiff, ↓reduceIte, Nat.reduceLT, Nat.beq_eq, Bool.or_eq_true, argEnvM, gOf, Nat.zero_add, Nat.le_refl, Nat.reduceAdd, Nat.reduceSub, Nat.reduceLeDiff, Nat.reduceMul, Nat.zero_mul, Nat.add_zero, Int.reduceToNat, reduceCtorEq, wrap_in, thenQ, blockQ, forall_eq, forall_eq_or_imp]; done) | (simp (disch := omega) only [go_sem, argEnv, envOf, obOf, Nat.reduceEqDiff, ↓reduceIte, Nat.reduceLT, Nat.beq_eq, Bool.or_eq_true, argEnvM, gOf, Nat.zero_add, Nat.le_refl, Nat.reduceAdd, Nat.reduceSub, Nat.reduceLeDiff, Nat.reduceMul, Nat.zero_mul, Nat.add_zero, Int.reduceToNat, reduceCtorEq, wrap_in, thenQ, blockQ, forall_eq, forall_eq_or_imp]; congr 1; done) | (simp (disch := omega) only [go_sem, argEnv, envOf, obOf, Nat.reduceEqDiff, ↓reduceIte, Nat.reduceLT, Nat.beq_eq, Bool.or_eq_true, argEnvM, gOf, Nat.zero_add, Nat.le_refl, Nat.reduceAdd, Nat.reduceSub, Nat.reduceLeDiff, Nat.reduceMul, Nat.zero_mul, Nat.add_zero, Int.reduceToNat, reduceCtorEq, wrap_in, thenQ, blockQ, forall_eq, forall_eq_or_imp, PV.d.injEq, PV.ref.injEq, D.sc.injEq, Value.int.injEq, Value.bool.injEq, Ob.row.injEq, true_and, and_true]; first | done | omega)), ?_⟩); done) rfl rfl (nodup_of rfl) rfl (by (repeat' first | exact pd_of _ rfl | exact pd_dead | refine pd_upd rfl ?_ | refine pd_frz ?_); done), ?_⟩
        · exact ⟨by omega, upto_succ hinv hp (by rw [bdIn, Bool.not_eq_false', decide_eq_true_eq]; omega)⟩
        · omega
    · repeat' first
        | refine pw_seq ?_
        | refine pw_skip ?_
        | refine pw_ret ?_
        | refine pw_exit ?_
        | refine pw_block ?_
        | refine pw_region (fun _ => false) hmix ?_
        | (refine wpG_split rfl rfl (fun hc => ?_) (fun hc => ?_) <;> try simp only [decide_eq_true_eq, decide_eq_false_iff_not, Bool.not_eq_true', Bool.not_eq_false', Bool.false_eq_true, Bool.true_eq_false, reduceCtorEq, Bool.and_eq_true, Bool.or_eq_true, not_and, not_or] at hc)
        | (refine pw_cond _ rfl rfl (fun hc => ?_) (fun hc => ?_) <;> (try simp only [decide_eq_true_eq, decide_eq_false_iff_not, Bool.not_eq_true', Bool.not_eq_false', Bool.false_eq_true, Bool.true_eq_false, reduceCtorEq, Bool.and_eq_true, Bool.or_eq_true, not_and, not_or] at hc) <;> try (exfalso; omega))
        | simp (maxSteps := 1000000) (disch := omega) only [go_sem, argEnv, envOf, obOf, Nat.reduceEqDiff, ↓reduceIte, Nat.reduceLT, Nat.beq_eq, Bool.or_eq_true, argEnvM, gOf, Nat.zero_add, Nat.le_refl, Nat.reduceAdd, Nat.reduceSub, Nat.reduceLeDiff, Nat.reduceMul, Nat.zero_mul, Nat.add_zero, Int.reduceToNat, reduceCtorEq, wrap_in, thenQ, blockQ, forall_eq, forall_eq_or_imp]
        | apply And.intro
        | omega
        | decide +kernel
      refine bool_some ?_
      rw [nOk, any_no (fun j y hj => hinv j y (by omega))]
      simp; omega
set_option maxHeartbeats 2000000 in
theorem rValid_spec (g : Net) : CallsTo Try.prog 11 [nD g] (.bool (nOk g)) := by
  obtain ⟨n, l⟩ := g
  refine callsTo_of Try.func11 rfl (by decide +kernel) (Nat.le_of_ble_eq_true rfl) ?_
  intro hat B X w0
  have hl := at_len2 0 1 hat rfl rfl
  rw [List.length_map] at hl
  repeat' first
    | refine pw_seq ?_
    | refine pw_skip ?_
    | refine pw_ret ?_
    | refine pw_exit ?_
    | refine pw_block ?_
    | refine pw_region (fun _ => false) hmix ?_
    | (refine wpG_split rfl rfl (fun hc => ?_) (fun hc => ?_) <;> try simp only [decide_eq_true_eq, decide_eq_false_iff_not, Bool.not_eq_true', Bool.not_eq_false', Bool.false_eq_true, Bool.true_eq_false, reduceCtorEq, Bool.and_eq_true, Bool.or_eq_true, not_and, not_or] at hc)
    | (refine pw_cond _ rfl rfl (fun hc => ?_) (fun hc => ?_) <;> (try simp only [decide_eq_true_eq, decide_eq_false_iff_not, Bool.not_eq_true', Bool.not_eq_false', Bool.false_eq_true, Bool.true_eq_false, reduceCtorEq, Bool.and_eq_true, Bool.or_eq_true, not_and, not_or] at hc) <;> try (exfalso; omega))
    | simp (maxSteps := 1000000) (disch := omega) only [go_sem, argEnv, envOf, obOf, Nat.reduceEqDiff, ↓reduceIte, Nat.reduceLT, Nat.beq_eq, Bool.or_eq_true, argEnvM, gOf, Nat.zero_add, Nat.le_refl, Nat.reduceAdd, Nat.reduceSub, Nat.reduceLeDiff, Nat.reduceMul, Nat.zero_mul, Nat.add_zero, Int.reduceToNat, reduceCtorEq, wrap_in, thenQ, blockQ, forall_eq, forall_eq_or_imp]
    | apply And.intro
    | omega
    | decide +kernel
  all_goals try (refine bool_some ?_; simp [nOk]; omega)
  refine pw_loopI (κ := Nat) (fun (k : Nat) => k ≤ l.length ∧ ∀ (j : Nat) y, j < k → l[j]? = some y → (!bdIn n y) = false) (fun (k : Nat) => [(1, .ptr 1 0 0 0), (3, .int k)]) (fun (k : Nat) => [(1, .cells [.int n, .d (bdsD l)])]) (fun (k : Nat) => l.length - k) 0 ?_ ?_ ?_
  · exact ⟨Nat.zero_le _, fun j y h => by omega⟩
  · exact entL_ren [] _ _ (by (repeat' first | exact List.forall_mem_nil _ | refine List.forall_mem_cons.2 ⟨(by first | rfl | (simp (disch := omega) only [go_sem, argEnv, envOf, obOf, Nat.reduceEqDiff, ↓reduceIte, Nat.reduceLT, Nat.beq_eq, Bool.or_eq_true, argEnvM, gOf, Nat.zero_add, Nat.le_refl, Nat.reduceAdd, Nat.reduceSub, Nat.reduceLeDiff, Nat.reduceMul, Nat.zero_mul, Nat.add_zero, Int.reduceToNat, reduceCtorEq, wrap_in, thenQ, blockQ, forall_eq, forall_eq_or_imp]; done) | (simp (disch := omega) only [go_sem, argEnv, envOf, obOf, Nat.reduceEqDiff, ↓reduceIte, Nat.reduceLT, Nat.beq_eq, Bool.or_eq_true, argEnvM, gOf, Nat.zero_add, Nat.le_refl, Nat.reduceAdd, Nat.reduceSub, Nat.reduceLeDiff, Nat.reduceMul, Nat.zero_mul, Nat.add_zero, Int.reduceToNat, reduceCtorEq, wrap_in, thenQ, blockQ, forall_eq, forall_eq_or_imp]; congr 1; done) | (simp (disch := omega) only [go_sem, argEnv, envOf, obOf, Nat.reduceEqDiff, ↓reduceIte, Nat.reduceLT, Nat.beq_eq, Bool.or_eq_true, argEnvM, gOf, Nat.zero_add, Nat.le_refl, Nat.reduceAdd, Nat.reduceSub, Nat.reduceLeDiff, Nat.reduceMul, Nat.zero_mul, Nat.add_zero, Int.reduceToNat, reduceCtorEq, wrap_in, thenQ, blockQ, forall_eq, forall_eq_or_imp, PV.d.injEq, PV.ref.injEq, D.sc.injEq, Value.int.injEq, Value.bool.injEq, Ob.row.injEq, true_and, and_true]; first | done | omega)), ?_⟩); done) (by (repeat' first | exact List.forall_mem_nil _ | refine List.forall_mem_cons.2 ⟨(by first | rfl | (simp (disch := omega) only [go_sem, argEnv, envOf, obOf, Nat.reduceEqDiff, ↓reduceIte, Nat.reduceLT, Nat.beq_eq, Bool.or_eq_true, argEnvM, gOf, Nat.zero_add, Nat.le_refl, Nat.reduceAdd, Nat.reduceSub, Nat.reduceLeDiff, Nat.reduceMul, Nat.zero_mul, Nat.add_zero, Int.reduceToNat, reduceCtorEq, wrap_in, thenQ, blockQ, forall_eq, forall_eq_or_imp]; done) | (simp (disch := omega) only [go_sem, argEnv, envOf, obOf, Nat.reduceEqDiff, ↓reduceIte, Nat.reduceLT, Nat.beq_eq, Bool.or_eq_true, argEnvM, gOf, Nat.zero_add, Nat.le_refl, Nat.reduceAdd, Nat.reduceSub, Nat.reduceLeDiff, Nat.reduceMul, Nat.zero_mul, Nat.add_zero, Int.reduceToNat, reduceCtorEq, wrap_in, thenQ, blockQ, forall_eq, forall_eq_or_imp]; congr 1; done) | (simp (disch := omega) only [go_sem, argEnv, envOf, obOf, Nat.reduceEqDiff, ↓reduceIte, Nat.reduceLT, Nat.beq_eq, Bool.or_eq_true, argEnvM, gOf, Nat.zero_add, Nat.le_refl, Nat.reduceAdd, Nat.reduceSub, Nat.reduceLeDiff, Nat.reduceMul, Nat.zero_mul, Nat.add_zero, Int.reduceToNat, reduceCtorEq, wrap_in, thenQ, blockQ, forall_eq, forall_eq_or_imp, PV.d.injEq, PV.ref.injEq, D.sc.injEq, Value.int.injEq, Value.bool.injEq, Ob.row.injEq, true_and, and_true]; first | done | omega)), ?_⟩); done) rfl rfl (nodup_of rfl) rfl (by (repeat' first | exact pd_of _ rfl | exact pd_dead | refine pd_upd rfl ?_ | refine pd_frz ?_); done)
  · rintro k ⟨hk, hinv⟩
    rcases Nat.lt_or_ge k l.length with hlt | hge
    · obtain ⟨p, hp⟩ := get_some hlt
      repeat' first
        | refine pw_seq ?_
        | refine pw_skip ?_
        | refine pw_ret ?_
        | refine pw_exit ?_
        | refine pw_block ?_
        | refine pw_region (fun _ => false) hmix ?_
        | (refine wpG_split rfl rfl (fun hc => ?_) (fun hc => ?_) <;> try simp only [decide_eq_true_eq, decide_eq_false_iff_not, Bool.not_eq_true', Bool.not_eq_false', Bool.false_eq_true, Bool.true_eq_false, reduceCtorEq, Bool.and_eq_true, Bool.or_eq_true, not_and, not_or] at hc)
        | (refine pw_cond _ rfl rfl (fun hc => ?_) (fun hc => ?_) <;> (try simp only [decide_eq_true_eq, decide_eq_false_iff_not, Bool.not_eq_true', Bool.not_eq_false', Bool.false_eq_true, Bool.true_eq_false, reduceCtorEq, Bool.and_eq_true, Bool.or_eq_true, not_and, not_or] at hc) <;> try (exfalso; omega))
        | simp (maxSteps := 1000000) (disch := omega) only [go_sem, argEnv, envOf, obOf, Nat.reduceEqDiff, ↓reduceIte, Nat.reduceLT, Nat.beq_eq, Bool.or_eq_true, argEnvM, gOf, Nat.zero_add, Nat.le_refl, Nat.reduceAdd, Nat.reduceSub, Nat.reduceLeDiff, Nat.reduceMul, Nat.zero_mul, Nat.add_zero, Int.reduceToNat, reduceCtorEq, wrap_in, thenQ, blockQ, forall_eq, forall_eq_or_imp, hp]
        | apply And.intro
        | omega
        | decide +kernel
      all_goals try
        refine bool_some ?_
        rw [nOk, any_at hp (by rw [bdIn, Bool.not_eq_true', decide_eq_false_iff_not]; omega)]
        simp
      · refine ⟨k + 1, ?_, entL_ren [] _ _ (by (repeat' first | exact List.forall_mem_nil _ | refine List.forall_mem_cons.2 ⟨(by first | rfl | (simp (disch := omega) only [go_sem, argEnv, envOf, obOf, Nat.reduceEqDiff, ↓reduceIte, Nat.reduceLT, Nat.beq_eq, Bool.or_eq_true, argEnvM, gOf, Nat.zero_add, Nat.le_refl, Nat.reduceAdd, Nat.reduceSub, Nat.reduceLeDiff, Nat.reduceMul, Nat.zero_mul, Nat.add_zero, Int.reduceToNat, reduceCtorEq, wrap_in, thenQ, blockQ, forall_eq, forall_eq_or_imp]; done) | (simp (disch := omega) only [go_sem, argEnv, envOf, obOf, Nat.reduceEqDiff, ↓reduceIte, Nat.reduceLT, Nat.beq_eq, Bool.or_eq_true, argEnvM, gOf, Nat.zero_add, Nat.le_refl, Nat.reduceAdd, Nat.reduceSub, Nat.reduceLeDiff, Nat.reduceMul, Nat.zero_mul, Nat.add_zero, Int.reduceToNat, reduceCtorEq, wrap_in, thenQ, blockQ, forall_eq, forall_eq_or_imp]; congr 1; done) | (simp (disch := omega) only [go_sem, argEnv, envOf, obOf, Nat.reduceEqDiff, ↓reduceIte, Nat.reduceLT, Nat.beq_eq, Bool.or_eq_true, argEnvM, gOf, Nat.zero_add, Nat.le_refl, Nat.reduceAdd, Nat.reduceSub, Nat.reduceLeDiff, Nat.reduceMul, Nat.zero_mul, Nat.add_zero, Int.reduceToNat, reduceCtorEq, wrap_in, thenQ, blockQ, forall_eq, forall_eq_or_imp, PV.d.injEq, PV.ref.injEq, D.sc.injEq, Value.int.injEq, Value.bool.injEq, Ob.row.injEq, true_and, and_true]; first | done | omega)), ?_⟩); done) (by (repeat' first | exact List.forall_mem_nil _ | refine List.forall_mem_cons.2 ⟨(by first | rfl | (simp (disch := omega) only [go_sem, argEnv, envOf, obOf, Nat.reduceEqDiff, ↓reduceIte, Nat.reduceLT, Nat.beq_eq, Bool.or_eq_true, argEnvM, gOf, Nat.zero_add, Nat.le_refl, Nat.reduceAdd, Nat.reduceSub, Nat.reduceLeDiff, Nat.reduceMul, Nat.zero_mul, Nat.add_zero, Int.reduceToNat, reduceCtorEq, wrap_in, thenQ, blockQ, forall_eq, forall_eq_or_imp]; done) | (simp (disch := omega) only [go_sem, argEnv, envOf, obOf, Nat.reduceEqDiff, ↓reduceIte, Nat.reduceLT, Nat.beq_eq, Bool.or_eq_true, argEnvM, gOf, Nat.zero_add, Nat.le_refl, Nat.reduceAdd, Nat.reduceSub, Nat.reduceLeDiff, Nat.reduceMul, Nat.zero_mul, Nat.add_zero, Int.reduceToNat, reduceCtorEq, wrap_in, thenQ, blockQ, forall_eq, forall_eq_or_imp]; congr 1; done) | (simp (disch := omega) only [go_sem, argEnv, envOf, obOf, Nat.reduceEqDiff, ↓reduceIte, Nat.reduceLT, Nat.beq_eq, Bool.or_eq_true, argEnvM, gOf, Nat.zero_add, Nat.le_refl, Nat.reduceAdd, Nat.reduceSub, Nat.reduceLeDiff, Nat.reduceMul, Nat.zero_mul, Nat.add_zero, Int.reduceToNat, reduceCtorEq, wrap_in, thenQ, blockQ, forall_eq, forall_eq_or_imp, PV.d.injEq, PV.ref.injEq, D.sc.injEq, Value.int.injEq, Value.bool.injEq, Ob.row.injEq, true_and, and_true]; first | done | omega)), ?_⟩); done) rfl rfl (nodup_of rfl) rfl (by (repeat' first | exact pd_of _ rfl | exact pd_dead | refine pd_upd rfl ?_ | refine pd_frz ?_); done), ?_⟩
        · exact ⟨by omega, upto_succ hinv hp (by rw [bdIn, Bool.not_eq_false', decide_eq_true_eq]; omega)⟩
        · omega
    · repeat' first
        | refine pw_seq ?_
        | refine pw_skip ?_
        | refine pw_ret ?_
        | refine pw_exit ?_
        | refine pw_block ?_
        | refine pw_region (fun _ => false) hmix ?_
        | (refine wpG_split rfl rfl (fun hc => ?_) (fun hc => ?_) <;> try simp only [decide_eq_true_eq, decide_eq_false_iff_not, Bool.not_eq_true', Bool.not_eq_false', Bool.false_eq_true, Bool.true_eq_false, reduceCtorEq, Bool.and_eq_true, Bool.or_eq_true, not_and, not_or] at hc)
        | (refine pw_cond _ rfl rfl (fun hc => ?_) (fun hc => ?_) <;> (try simp only [decide_eq_true_eq, decide_eq_false_iff_not, Bool.not_eq_true', Bool.not_eq_false', Bool.false_eq_true, Bool.true_eq_false, reduceCtorEq, Bool.and_eq_true, Bool.or_eq_true, not_and, not_or] at hc) <;> try (exfalso; omega))
        | simp (maxSteps := 1000000) (disch := omega) only [go_sem, argEnv, envOf, obOf, Nat.reduceEqDiff, ↓reduceIte, Nat.reduceLT, Nat.beq_eq, Bool.or_eq_true, argEnvM, gOf, Nat.zero_add, Nat.le_refl, Nat.reduceAdd, Nat.reduceSub, Nat.reduceLeDiff, Nat.reduceMul, Nat.zero_mul, Nat.add_zero, Int.reduceToNat, reduceCtorEq, wrap_in, thenQ, blockQ, forall_eq, forall_eq_or_imp]
        | apply And.intro
        | omega
        | decide +kernel
      refine bool_some ?_
      rw [nOk, any_no (fun j y hj => hinv j y (by omega))]
      simp; omega
end Go.Proofs.Ytcbcccphlhpajaa
