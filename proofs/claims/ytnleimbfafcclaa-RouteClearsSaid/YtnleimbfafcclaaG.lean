/- Whether a segment hits a box. -/
import Derived.Test.YtnleimbfafcclaaF
namespace Go.Proofs.Ytnleimbfafcclaa
open Go Go.PS Go.Proofs
set_option maxRecDepth 100000
set_option linter.unusedSimpArgs false
set_option linter.unusedVariables false
attribute [local irreducible] wpRun wpG CallsTo CallsM

theorem mul_bnd {a b A B : Int} (h1 : -A ≤ a) (h2 : a ≤ A) (h3 : -B ≤ b) (h4 : b ≤ B) : -(A * B) ≤ a * b ∧ a * b ≤ A * B := by
  have hab : (a * b).natAbs ≤ (A * B).natAbs := by
    rw [Int.natAbs_mul, Int.natAbs_mul]; exact Nat.mul_le_mul (by omega) (by omega)
  have : 0 ≤ A * B := Int.mul_nonneg (by omega) (by omega)
  omega
abbrev ratD (r : Int × Int) : D := .ag [.int r.1, .int r.2]
abbrev sgD (p q : Pt) : D := .ag [.int p.1, .int p.2, .int q.1, .int q.2]
theorem less_spec (a b : Int × Int) (h : -1073741824 ≤ a.1 ∧ a.1 ≤ 1073741824 ∧ -1073741824 ≤ a.2 ∧ a.2 ≤ 1073741824 ∧ -1073741824 ≤ b.1 ∧ b.1 ≤ 1073741824 ∧ -1073741824 ≤ b.2 ∧ b.2 ≤ 1073741824) :
    CallsTo Try.prog 41 [ratD a, ratD b] (.bool (decide (a.1 * b.2 < b.1 * a.2))) := by
  have m1 := mul_bnd (a := a.1) (b := b.2) (A := 1073741824) (B := 1073741824) (by omega) (by omega) (by omega) (by omega)
  have m2 := mul_bnd (a := b.1) (b := a.2) (A := 1073741824) (B := 1073741824) (by omega) (by omega) (by omega) (by omega)
  have hh : (1073741824 : Int) * 1073741824 = 1152921504606846976 := by decide
  rw [hh] at m1 m2
  refine callsTo_of Try.func41 rfl (by decide +kernel) (Nat.le_of_ble_eq_true rfl) ?_
  intro _ B X w0
  repeat' first
    | refine pw_seq ?_
    | refine pw_skip ?_
    | refine pw_ret ?_
    | refine pw_exit ?_
    | refine pw_block ?_
    | refine pw_region (fun _ => false) hmix ?_
    | (refine wpG_split rfl rfl (fun hc => ?_) (fun hc => ?_) <;> try simp only [decide_eq_true_eq, decide_eq_false_iff_not, Bool.not_eq_true', Bool.not_eq_false', Bool.false_eq_true, Bool.true_eq_false, reduceCtorEq, Bool.and_eq_true, Bool.or_eq_true, not_and, not_or] at hc)
    | (refine pw_cond _ rfl rfl (fun hc => ?_) (fun hc => ?_) <;> (try simp only [decide_eq_true_eq, decide_eq_false_iff_not, Bool.not_eq_true', Bool.not_eq_false', Bool.false_eq_true, Bool.true_eq_false, reduceCtorEq, Bool.and_eq_true, Bool.or_eq_true, not_and, not_or] at hc) <;> try (exfalso; omega))
    | simp (maxSteps := 1000000) (disch := omega) only [go_sem, argEnv, envOf, obOf, Nat.reduceEqDiff, ↓reduceIte, Nat.reduceLT, Nat.beq_eq, Bool.or_eq_true, argEnvM, gOf, Nat.zero_add, Nat.le_refl, Nat.reduceAdd, Nat.reduceSub, Nat.reduceLeDiff, Nat.reduceMul, Nat.zero_mul, Nat.add_zero, Int.reduceToNat, reduceCtorEq, wrap_in, thenQ, blockQ, forall_eq, forall_eq_or_imp]
    | apply And.intro
    | omega
    | decide +kernel
  exact bool_some rfl

/-- Where a coordinate lies between two numbers: the bounds, and the step made positive. -/
def nspan (f by' low high : Int) : Int × Int × Int := if by' < 0 then (-high - -f, -low - -f, -by') else (low - f, high - f, by')
def okS (s : Int × Int × Int) : Bool := if s.2.2 = 0 then decide (s.1 < 0) && decide (0 < s.2.1) else decide (s.1 < s.2.1) && decide (s.1 < s.2.2) && decide (0 < s.2.1)
def spanD (f by' low high : Int) : D := let s := nspan f by' low high
  if by' = 0 then .tup [ratD (0, 0), ratD (0, 0), .bool true, .bool (okS s)] else .tup [ratD (s.1, s.2.2), ratD (s.2.1, s.2.2), .bool false, .bool (okS s)]
theorem lt_pos {a b c : Int} (h : 0 < c) : (a * c < b * c) = (a < b) := propext ⟨fun h2 => Int.lt_of_mul_lt_mul_right h2 (Int.le_of_lt h), fun h2 => Int.mul_lt_mul_of_pos_right h2 h⟩
theorem span_spec (f b low high : Int) (h : -536870912 ≤ f ∧ f ≤ 536870912 ∧ -536870912 ≤ b ∧ b ≤ 536870912 ∧ -536870912 ≤ low ∧ low ≤ 536870912 ∧ -536870912 ≤ high ∧ high ≤ 536870912) :
    CallsTo Try.prog 40 [.int f, .int b, .int low, .int high] (spanD f b low high) := by
  by_cases h0 : b = 0
  · have eD : spanD f b low high = .tup [ratD (0, 0), ratD (0, 0), .bool true, .bool (okS (nspan f b low high))] := by simp [spanD, h0]
    rw [eD]
    refine callsTo_of Try.func40 rfl (by decide +kernel) (Nat.le_of_ble_eq_true rfl) ?_
    intro _ B X w0
    repeat' first
      | refine pw_seq ?_
      | refine pw_skip ?_
      | refine pw_ret ?_
      | refine pw_exit ?_
      | refine pw_block ?_
      | refine pw_region (fun _ => false) hmix ?_
      | (refine wpG_split rfl rfl (fun hc => ?_) (fun hc => ?_) <;> try simp only [decide_eq_true_eq, decide_eq_false_iff_not, Bool.not_eq_true', Bool.not_eq_false', Bool.false_eq_true, Bool.true_eq_false, reduceCtorEq, Bool.and_eq_true, Bool.or_eq_true, not_and, not_or] at hc)
      | (refine pw_cond _ rfl rfl (fun hc => ?_) (fun hc => ?_) <;> (try simp only [decide_eq_true_eq, decide_eq_false_iff_not, Bool.not_eq_true', Bool.not_eq_false', Bool.false_eq_true, Bool.true_eq_false, reduceCtorEq, Bool.and_eq_true, Bool.or_eq_true, not_and, not_or] at hc) <;> try (exfalso; omega))
      | simp (maxSteps := 1000000) (disch := omega) only [go_sem, argEnv, envOf, obOf, Nat.reduceEqDiff, ↓reduceIte, Nat.reduceLT, Nat.beq_eq, Bool.or_eq_true, argEnvM, gOf, Nat.zero_add, Nat.le_refl, Nat.reduceAdd, Nat.reduceSub, Nat.reduceLeDiff, Nat.reduceMul, Nat.zero_mul, Nat.add_zero, Int.reduceToNat, reduceCtorEq, wrap_in, thenQ, blockQ, forall_eq, forall_eq_or_imp]
      | apply And.intro
      | omega
      | decide +kernel
    all_goals
      refine ⟨_, rfl, ⟨_, _, _, _, rfl, ?_⟩, ⟨_, _, _, _, rfl, ?_⟩, rfl, bool_some ?_, trivial⟩
      · simp (maxSteps := 1000000) (disch := omega) only [go_sem, argEnv, envOf, obOf, Nat.reduceEqDiff, ↓reduceIte, Nat.reduceLT, Nat.beq_eq, Bool.or_eq_true, argEnvM, gOf, Nat.zero_add, Nat.le_refl, Nat.reduceAdd, Nat.reduceSub, Nat.reduceLeDiff, Nat.reduceMul, Nat.zero_mul, Nat.add_zero, Int.reduceToNat, reduceCtorEq, wrap_in, thenQ, blockQ, forall_eq, forall_eq_or_imp]
      · simp (maxSteps := 1000000) (disch := omega) only [go_sem, argEnv, envOf, obOf, Nat.reduceEqDiff, ↓reduceIte, Nat.reduceLT, Nat.beq_eq, Bool.or_eq_true, argEnvM, gOf, Nat.zero_add, Nat.le_refl, Nat.reduceAdd, Nat.reduceSub, Nat.reduceLeDiff, Nat.reduceMul, Nat.zero_mul, Nat.add_zero, Int.reduceToNat, reduceCtorEq, wrap_in, thenQ, blockQ, forall_eq, forall_eq_or_imp]
      · simp only [okS, nspan, h0]
        simp
        try omega
  · by_cases hn : b < 0
    · have e : nspan f b low high = (-high - -f, -low - -f, -b) := by simp [nspan, hn]
      have eD : spanD f b low high = .tup [ratD (-high - -f, -b), ratD (-low - -f, -b), .bool false, .bool (okS (-high - -f, -low - -f, -b))] := by simp [spanD, h0, e]
      have hp := fun x y => lt_pos (a := x) (b := y) (show 0 < -b by omega)
      rw [eD]
      refine callsTo_of Try.func40 rfl (by decide +kernel) (Nat.le_of_ble_eq_true rfl) ?_
      intro _ B X w0
      repeat' first
        | refine pw_seq ?_
        | refine pw_skip ?_
        | refine pw_ret ?_
        | refine pw_exit ?_
        | refine pw_block ?_
        | refine pw_region (fun _ => false) hmix ?_
        | (refine run_callT (less_spec (_, _) (_, _) (by omega)) rfl rfl ?_ ?_; (· first | exact .inl rfl | exact .inr rfl))
        | (refine run_callT (less_spec (_, _) (_, _) (by omega)) rfl ?_ ?_ ?_; (· first | rfl | (simp (maxSteps := 1000000) (disch := omega) only [go_sem, argEnv, envOf, obOf, Nat.reduceEqDiff, ↓reduceIte, Nat.reduceLT, Nat.beq_eq, Bool.or_eq_true, argEnvM, gOf, Nat.zero_add, Nat.le_refl, Nat.reduceAdd, Nat.reduceSub, Nat.reduceLeDiff, Nat.reduceMul, Nat.zero_mul, Nat.add_zero, Int.reduceToNat, reduceCtorEq, wrap_in, thenQ, blockQ, forall_eq, forall_eq_or_imp]; done)); (· first | exact .inl rfl | exact .inr rfl))
        | (refine wpG_split rfl rfl (fun hc => ?_) (fun hc => ?_) <;> try simp only [decide_eq_true_eq, decide_eq_false_iff_not, Bool.not_eq_true', Bool.not_eq_false', Bool.false_eq_true, Bool.true_eq_false, reduceCtorEq, Bool.and_eq_true, Bool.or_eq_true, not_and, not_or, hp] at hc)
        | (refine pw_cond _ rfl rfl (fun hc => ?_) (fun hc => ?_) <;> (try simp only [decide_eq_true_eq, decide_eq_false_iff_not, Bool.not_eq_true', Bool.not_eq_false', Bool.false_eq_true, Bool.true_eq_false, reduceCtorEq, Bool.and_eq_true, Bool.or_eq_true, not_and, not_or, hp] at hc) <;> try (exfalso; omega))
        | simp (maxSteps := 1000000) (disch := omega) only [go_sem, argEnv, envOf, obOf, Nat.reduceEqDiff, ↓reduceIte, Nat.reduceLT, Nat.beq_eq, Bool.or_eq_true, argEnvM, gOf, Nat.zero_add, Nat.le_refl, Nat.reduceAdd, Nat.reduceSub, Nat.reduceLeDiff, Nat.reduceMul, Nat.zero_mul, Nat.add_zero, Int.reduceToNat, reduceCtorEq, wrap_in, thenQ, blockQ, forall_eq, forall_eq_or_imp]
        | apply And.intro
        | omega
        | decide +kernel
      all_goals
        refine ⟨_, rfl, ⟨_, _, _, _, rfl, ?_⟩, ⟨_, _, _, _, rfl, ?_⟩, rfl, bool_some ?_, trivial⟩
        · simp (maxSteps := 1000000) (disch := omega) only [go_sem, argEnv, envOf, obOf, Nat.reduceEqDiff, ↓reduceIte, Nat.reduceLT, Nat.beq_eq, Bool.or_eq_true, argEnvM, gOf, Nat.zero_add, Nat.le_refl, Nat.reduceAdd, Nat.reduceSub, Nat.reduceLeDiff, Nat.reduceMul, Nat.zero_mul, Nat.add_zero, Int.reduceToNat, reduceCtorEq, wrap_in, thenQ, blockQ, forall_eq, forall_eq_or_imp]
        · simp (maxSteps := 1000000) (disch := omega) only [go_sem, argEnv, envOf, obOf, Nat.reduceEqDiff, ↓reduceIte, Nat.reduceLT, Nat.beq_eq, Bool.or_eq_true, argEnvM, gOf, Nat.zero_add, Nat.le_refl, Nat.reduceAdd, Nat.reduceSub, Nat.reduceLeDiff, Nat.reduceMul, Nat.zero_mul, Nat.add_zero, Int.reduceToNat, reduceCtorEq, wrap_in, thenQ, blockQ, forall_eq, forall_eq_or_imp]
        · simp [okS, show -b ≠ 0 by omega, hp]
          try omega
    · have e : nspan f b low high = (low - f, high - f, b) := by simp [nspan, hn]
      have eD : spanD f b low high = .tup [ratD (low - f, b), ratD (high - f, b), .bool false, .bool (okS (low - f, high - f, b))] := by simp [spanD, h0, e]
      have hp := fun x y => lt_pos (a := x) (b := y) (show 0 < b by omega)
      rw [eD]
      refine callsTo_of Try.func40 rfl (by decide +kernel) (Nat.le_of_ble_eq_true rfl) ?_
      intro _ B X w0
      repeat' first
        | refine pw_seq ?_
        | refine pw_skip ?_
        | refine pw_ret ?_
        | refine pw_exit ?_
        | refine pw_block ?_
        | refine pw_region (fun _ => false) hmix ?_
        | (refine run_callT (less_spec (_, _) (_, _) (by omega)) rfl rfl ?_ ?_; (· first | exact .inl rfl | exact .inr rfl))
        | (refine run_callT (less_spec (_, _) (_, _) (by omega)) rfl ?_ ?_ ?_; (· first | rfl | (simp (maxSteps := 1000000) (disch := omega) only [go_sem, argEnv, envOf, obOf, Nat.reduceEqDiff, ↓reduceIte, Nat.reduceLT, Nat.beq_eq, Bool.or_eq_true, argEnvM, gOf, Nat.zero_add, Nat.le_refl, Nat.reduceAdd, Nat.reduceSub, Nat.reduceLeDiff, Nat.reduceMul, Nat.zero_mul, Nat.add_zero, Int.reduceToNat, reduceCtorEq, wrap_in, thenQ, blockQ, forall_eq, forall_eq_or_imp]; done)); (· first | exact .inl rfl | exact .inr rfl))
        | (refine wpG_split rfl rfl (fun hc => ?_) (fun hc => ?_) <;> try simp only [decide_eq_true_eq, decide_eq_false_iff_not, Bool.not_eq_true', Bool.not_eq_false', Bool.false_eq_true, Bool.true_eq_false, reduceCtorEq, Bool.and_eq_true, Bool.or_eq_true, not_and, not_or, hp] at hc)
        | (refine pw_cond _ rfl rfl (fun hc => ?_) (fun hc => ?_) <;> (try simp only [decide_eq_true_eq, decide_eq_false_iff_not, Bool.not_eq_true', Bool.not_eq_false', Bool.false_eq_true, Bool.true_eq_false, reduceCtorEq, Bool.and_eq_true, Bool.or_eq_true, not_and, not_or, hp] at hc) <;> try (exfalso; omega))
        | simp (maxSteps := 1000000) (disch := omega) only [go_sem, argEnv, envOf, obOf, Nat.reduceEqDiff, ↓reduceIte, Nat.reduceLT, Nat.beq_eq, Bool.or_eq_true, argEnvM, gOf, Nat.zero_add, Nat.le_refl, Nat.reduceAdd, Nat.reduceSub, Nat.reduceLeDiff, Nat.reduceMul, Nat.zero_mul, Nat.add_zero, Int.reduceToNat, reduceCtorEq, wrap_in, thenQ, blockQ, forall_eq, forall_eq_or_imp]
        | apply And.intro
        | omega
        | decide +kernel
      all_goals
        refine ⟨_, rfl, ⟨_, _, _, _, rfl, ?_⟩, ⟨_, _, _, _, rfl, ?_⟩, rfl, bool_some ?_, trivial⟩
        · simp (maxSteps := 1000000) (disch := omega) only [go_sem, argEnv, envOf, obOf, Nat.reduceEqDiff, ↓reduceIte, Nat.reduceLT, Nat.beq_eq, Bool.or_eq_true, argEnvM, gOf, Nat.zero_add, Nat.le_refl, Nat.reduceAdd, Nat.reduceSub, Nat.reduceLeDiff, Nat.reduceMul, Nat.zero_mul, Nat.add_zero, Int.reduceToNat, reduceCtorEq, wrap_in, thenQ, blockQ, forall_eq, forall_eq_or_imp]
        · simp (maxSteps := 1000000) (disch := omega) only [go_sem, argEnv, envOf, obOf, Nat.reduceEqDiff, ↓reduceIte, Nat.reduceLT, Nat.beq_eq, Bool.or_eq_true, argEnvM, gOf, Nat.zero_add, Nat.le_refl, Nat.reduceAdd, Nat.reduceSub, Nat.reduceLeDiff, Nat.reduceMul, Nat.zero_mul, Nat.add_zero, Int.reduceToNat, reduceCtorEq, wrap_in, thenQ, blockQ, forall_eq, forall_eq_or_imp]
        · simp [okS, h0, hp]
          try omega
end Go.Proofs.Ytnleimbfafcclaa
