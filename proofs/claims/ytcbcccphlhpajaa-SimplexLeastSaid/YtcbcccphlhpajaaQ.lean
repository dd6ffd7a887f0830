/- Balanced. -/
import Derived.Test.YtcbcccphlhpajaaO
import Derived.Test.YtcbcccphlhpajaaI
namespace Go.Proofs.Ytcbcccphlhpajaa
open Go Go.PS Go.Proofs
set_option maxRecDepth 100000
set_option linter.unusedSimpArgs false
set_option linter.unusedVariables false
attribute [local irreducible] wpRun wpG CallsTo CallsM

/-- Solve answers with these ranks and numbers. -/
def SolveOk (g : Net) (a f : List Int) : Prop := ∃ n : Nat, g.1 = n ∧ a.length = n ∧ f.length = g.2.length ∧
  CallsM Try.prog 18 [.d (nD g)] [(2000, .dead), (2001, .dead)] (.tup [.ref 2000 1 0 n n, .ref 2001 1 0 g.2.length g.2.length, .int 0]) [(2000, .row 1 (intsL a)), (2001, .row 1 (intsL f))]
def SolveNo (g : Net) (e : Int) : Prop := CallsM Try.prog 18 [.d (nD g)] [(2000, .dead), (2001, .dead)] (.tup [.nilS, .nilS, .int e]) [(2000, .dead), (2001, .dead)]
theorem Balanced_no (g : Net) (e : Int) (h : SolveNo g e) (he : e ≠ 0) : CallsM Try.prog 21 [.d (nD g)] [(2000, .dead)] (.tup [.nilS, .int e]) [(2000, .dead)] := by
  unfold SolveNo at h
  refine callsM_of Try.func21 rfl (by decide +kernel) (Nat.le_of_ble_eq_true rfl) rfl (nodup_of rfl) rfl rfl rfl ?_
  intro B X w0
  repeat' first
    | refine pw_seq ?_
    | refine pw_skip ?_
    | refine pw_exit ?_
    | refine pw_block ?_
    | refine pw_region (fun _ => false) hmix ?_
    | (refine run_callMT [(2000, 900), (2001, 901)] (h) rfl rfl rfl rfl rfl rfl (nodup_of rfl) ?_ ?_ ?_ ?_; (· (repeat' first | exact List.forall_mem_nil _ | refine List.forall_mem_cons.2 ⟨⟨nofun, fun h => by first | rfl | (simp at h; done)⟩, ?_⟩)); (· (repeat' first | exact trivial | refine ⟨.inl rfl, ?_⟩ | refine ⟨.inr ⟨_, rfl, rfl, .inl rfl⟩, ?_⟩)); (· (repeat' first | exact List.forall_mem_nil _ | refine List.forall_mem_cons.2 ⟨rfl, ?_⟩)))
    | (refine wpG_split rfl rfl (fun hc => ?_) (fun hc => ?_) <;> try simp only [decide_eq_true_eq, decide_eq_false_iff_not, Bool.not_eq_true', Bool.not_eq_false', Bool.false_eq_true, Bool.true_eq_false, reduceCtorEq, Bool.and_eq_true, Bool.or_eq_true, not_and, not_or] at hc)
    | (refine pw_cond _ rfl rfl (fun hc => ?_) (fun hc => ?_) <;> (try simp only [decide_eq_true_eq, decide_eq_false_iff_not, Bool.not_eq_true', Bool.not_eq_false', Bool.false_eq_true, Bool.true_eq_false, reduceCtorEq, Bool.and_eq_true, Bool.or_eq_true, not_and, not_or] at hc) <;> try (exfalso; omega))
    | simp (maxSteps := 1000000) (disch := omega) only [go_sem, argEnv, envOf, obOf, Nat.reduceEqDiff, ↓reduceIte, Nat.reduceLT, Nat.beq_eq, Bool.or_eq_true, argEnvM, gOf, Nat.zero_add, Nat.le_refl, Nat.reduceAdd, Nat.reduceSub, Nat.reduceLeDiff, Nat.reduceMul, Nat.zero_mul, Nat.add_zero, Int.reduceToNat, reduceCtorEq, wrap_in, thenQ, blockQ, forall_eq, forall_eq_or_imp]
    | apply And.intro
    | omega
    | decide +kernel
  refine pw_ret ?_
  exact ⟨⟨_, rfl, rfl, rfl, trivial⟩, List.forall_mem_cons.2 ⟨rfl, List.forall_mem_nil _⟩⟩
theorem shr1 (x : Int) : x.fdiv (2 ^ min 1 64) = x / 2 := by
  have : (2 : Int) ^ min 1 64 = 2 := by decide
  rw [this, Int.fdiv_eq_ediv_of_nonneg _ (by decide)]
set_option maxHeartbeats 8000000 in
theorem Balanced_ok (g : Net) (a b f f2 : List Int) (h : SolveOk g a f) (h2 : SolveOk (mirF g) b f2) (hl : g.2.length ≤ 1000000) (hn : a.length ≤ 1000000) (ha : fromTo a 1099511627776) (hb : fromTo b 1099511627776) :
    CallsM Try.prog 21 [.d (nD g)] [(2000, .dead)] (.tup [.ref 2000 1 0 a.length a.length, .int 0]) [(2000, .row 1 (intsL (midF a b)))] := by
  obtain ⟨m, l⟩ := g
  obtain ⟨n, hmn, hal, hfl, h⟩ := h
  obtain ⟨n2, hmn2, hbl, hfl2, h2⟩ := h2
  dsimp only at hmn hl hfl h
  simp only [mirF] at hmn2 hfl2 h2
  rw [List.length_map] at hfl2 h2
  obtain rfl : n2 = n := by omega
  subst hmn
  rw [hal]
  have htm : (List.map bdD (l.map mirB)).take l.length = List.map bdD (l.map mirB) := List.take_of_length_le (by simp)
  have hbd : bdsD (l.map mirB) = .sl (List.map bdD (l.map mirB)) := rfl
  refine callsM_of Try.func21 rfl (by decide +kernel) (Nat.le_of_ble_eq_true rfl) rfl (nodup_of rfl) rfl rfl rfl ?_
  intro B X w0
  repeat' first
    | refine pw_seq ?_
    | refine pw_skip ?_
    | refine pw_exit ?_
    | refine pw_block ?_
    | refine pw_region (fun _ => false) hmix ?_
    | (refine run_callMT [(2000, 900), (2001, 901)] (h) rfl rfl rfl rfl rfl rfl (nodup_of rfl) ?_ ?_ ?_ ?_; (· (repeat' first | exact List.forall_mem_nil _ | refine List.forall_mem_cons.2 ⟨⟨nofun, fun h => by first | rfl | (simp at h; done)⟩, ?_⟩)); (· (repeat' first | exact trivial | refine ⟨.inl rfl, ?_⟩ | refine ⟨.inr ⟨_, rfl, rfl, .inl rfl⟩, ?_⟩)); (· (repeat' first | exact List.forall_mem_nil _ | refine List.forall_mem_cons.2 ⟨rfl, ?_⟩)))
    | (refine wpG_split rfl rfl (fun hc => ?_) (fun hc => ?_) <;> try simp only [decide_eq_true_eq, decide_eq_false_iff_not, Bool.not_eq_true', Bool.not_eq_false', Bool.false_eq_true, Bool.true_eq_false, reduceCtorEq, Bool.and_eq_true, Bool.or_eq_true, not_and, not_or] at hc)
    | (refine pw_cond _ rfl rfl (fun hc => ?_) (fun hc => ?_) <;> (try simp only [decide_eq_true_eq, decide_eq_false_iff_not, Bool.not_eq_true', Bool.not_eq_false', Bool.false_eq_true, Bool.true_eq_false, reduceCtorEq, Bool.and_eq_true, Bool.or_eq_true, not_and, not_or] at hc) <;> try (exfalso; omega))
    | simp (maxSteps := 1000000) (disch := omega) only [go_sem, argEnv, envOf, obOf, Nat.reduceEqDiff, ↓reduceIte, Nat.reduceLT, Nat.beq_eq, Bool.or_eq_true, argEnvM, gOf, Nat.zero_add, Nat.le_refl, Nat.reduceAdd, Nat.reduceSub, Nat.reduceLeDiff, Nat.reduceMul, Nat.zero_mul, Nat.add_zero, Int.reduceToNat, reduceCtorEq, wrap_in, thenQ, blockQ, forall_eq, forall_eq_or_imp]
    | apply And.intro
    | omega
    | decide +kernel
  refine pw_ent _ (ent_nilC 7 1 902 4 rfl rfl rfl) ?_
  refine pw_loopI (κ := Nat) (fun (k : Nat) => k ≤ l.length) (fun (k : Nat) => [(1, .ptr 1 0 0 0), (4, .ref 900 1 0 n2 n2), (7, .ptr 7 0 0 0), (31, .d (bdsD l)), (32, .int l.length), (33, .int k)]) (fun (k : Nat) => [(1, .cells [.int n2, .d (bdsD l)]), (900, .row 1 (intsL a)), (7, .cells [.int n2, .ref 902 4 0 k k]), (902, .row 4 (((l.map mirB).take k).map bdD))]) (fun (k : Nat) => l.length - k) 0 ?_ ?_ ?_
  · exact Nat.zero_le _
  · exact entL_ren [] _ _ (by (repeat' first | exact List.forall_mem_nil _ | refine List.forall_mem_cons.2 ⟨(by first | rfl | (simp (disch := omega) only [go_sem, argEnv, envOf, obOf, Nat.reduceEqDiff, ↓reduceIte, Nat.reduceLT, Nat.beq_eq, Bool.or_eq_true, argEnvM, gOf, Nat.zero_add, Nat.le_refl, Nat.reduceAdd, Nat.reduceSub, Nat.reduceLeDiff, Nat.reduceMul, Nat.zero_mul, Nat.add_zero, Int.reduceToNat, reduceCtorEq, wrap_in, thenQ, blockQ, forall_eq, forall_eq_or_imp]; done) | (simp (disch := omega) only [go_sem, argEnv, envOf, obOf, Nat.reduceEqDiff, ↓reduceIte, Nat.reduceLT, Nat.beq_eq, Bool.or_eq_true, argEnvM, gOf, Nat.zero_add, Nat.le_refl, Nat.reduceAdd, Nat.reduceSub, Nat.reduceLeDiff, Nat.reduceMul, Nat.zero_mul, Nat.add_zero, Int.reduceToNat, reduceCtorEq, wrap_in, thenQ, blockQ, forall_eq, forall_eq_or_imp]; congr 1; done) | (simp (disch := omega) only [go_sem, argEnv, envOf, obOf, Nat.reduceEqDiff, ↓reduceIte, Nat.reduceLT, Nat.beq_eq, Bool.or_eq_true, argEnvM, gOf, Nat.zero_add, Nat.le_refl, Nat.reduceAdd, Nat.reduceSub, Nat.reduceLeDiff, Nat.reduceMul, Nat.zero_mul, Nat.add_zero, Int.reduceToNat, reduceCtorEq, wrap_in, thenQ, blockQ, forall_eq, forall_eq_or_imp, PV.d.injEq, PV.ref.injEq, D.sc.injEq, Value.int.injEq, Value.bool.injEq, Ob.row.injEq, true_and, and_true]; first | done | omega)), ?_⟩); done) (by (repeat' first | exact List.forall_mem_nil _ | refine List.forall_mem_cons.2 ⟨(by first | rfl | (simp (disch := omega) only [go_sem, argEnv, envOf, obOf, Nat.reduceEqDiff, ↓reduceIte, Nat.reduceLT, Nat.beq_eq, Bool.or_eq_true, argEnvM, gOf, Nat.zero_add, Nat.le_refl, Nat.reduceAdd, Nat.reduceSub, Nat.reduceLeDiff, Nat.reduceMul, Nat.zero_mul, Nat.add_zero, Int.reduceToNat, reduceCtorEq, wrap_in, thenQ, blockQ, forall_eq, forall_eq_or_imp]; done) | (simp (disch := omega) only [go_sem, argEnv, envOf, obOf, Nat.reduceEqDiff, ↓reduceIte, Nat.reduceLT, Nat.beq_eq, Bool.or_eq_true, argEnvM, gOf, Nat.zero_add, Nat.le_refl, Nat.reduceAdd, Nat.reduceSub, Nat.reduceLeDiff, Nat.reduceMul, Nat.zero_mul, Nat.add_zero, Int.reduceToNat, reduceCtorEq, wrap_in, thenQ, blockQ, forall_eq, forall_eq_or_imp]; congr 1; done) | (simp (disch := omega) only [go_sem, argEnv, envOf, obOf, Nat.reduceEqDiff, ↓reduceIte, Nat.reduceLT, Nat.beq_eq, Bool.or_eq_true, argEnvM, gOf, Nat.zero_add, Nat.le_refl, Nat.reduceAdd, Nat.reduceSub, Nat.reduceLeDiff, Nat.reduceMul, Nat.zero_mul, Nat.add_zero, Int.reduceToNat, reduceCtorEq, wrap_in, thenQ, blockQ, forall_eq, forall_eq_or_imp, PV.d.injEq, PV.ref.injEq, D.sc.injEq, Value.int.injEq, Value.bool.injEq, Ob.row.injEq, true_and, and_true]; first | done | omega)), ?_⟩); done) rfl rfl (nodup_of rfl) rfl (by (repeat' first | exact pd_of _ rfl | exact pd_dead | refine pd_upd rfl ?_ | refine pd_frz ?_); done)
  · intro k hk
    rcases Nat.lt_or_ge k l.length with hlt | hge
    · obtain ⟨p, hp⟩ := get_some hlt
      have hm : (l.map mirB)[k]? = some (mirB p) := by rw [List.getElem?_map, hp]; rfl
      have hs := take_snoc hm
      have hlen : ((l.map mirB).take k).length = k := by rw [List.length_take, List.length_map]; omega
      have htk : (List.map bdD ((l.map mirB).take k)).take k = List.map bdD ((l.map mirB).take k) := List.take_of_length_le (by simp; omega)
      repeat' first
        | refine pw_seq ?_
        | refine pw_skip ?_
        | refine pw_ret ?_
        | refine pw_exit ?_
        | refine pw_block ?_
        | refine pw_region (fun _ => false) hmix ?_
        | (refine wpG_split rfl rfl (fun hc => ?_) (fun hc => ?_) <;> try simp only [decide_eq_true_eq, decide_eq_false_iff_not, Bool.not_eq_true', Bool.not_eq_false', Bool.false_eq_true, Bool.true_eq_false, reduceCtorEq, Bool.and_eq_true, Bool.or_eq_true, not_and, not_or] at hc)
        | (refine pw_cond _ rfl rfl (fun hc => ?_) (fun hc => ?_) <;> (try simp only [decide_eq_true_eq, decide_eq_false_iff_not, Bool.not_eq_true', Bool.not_eq_false', Bool.false_eq_true, Bool.true_eq_false, reduceCtorEq, Bool.and_eq_true, Bool.or_eq_true, not_and, not_or] at hc) <;> try (exfalso; omega))
        | simp (maxSteps := 1000000) (disch := omega) only [go_sem, argEnv, envOf, obOf, Nat.reduceEqDiff, ↓reduceIte, Nat.reduceLT, Nat.beq_eq, Bool.or_eq_true, argEnvM, gOf, Nat.zero_add, Nat.le_refl, Nat.reduceAdd, Nat.reduceSub, Nat.reduceLeDiff, Nat.reduceMul, Nat.zero_mul, Nat.add_zero, Int.reduceToNat, reduceCtorEq, wrap_in, thenQ, blockQ, forall_eq, forall_eq_or_imp, hp, roomy, hlen, htk]
        | apply And.intro
        | omega
        | decide +kernel
      refine ⟨k + 1, ?_, entL_ren [(902, 49)] _ _ (by (repeat' first | exact List.forall_mem_nil _ | refine List.forall_mem_cons.2 ⟨(by first | rfl | (simp (disch := omega) only [go_sem, argEnv, envOf, obOf, Nat.reduceEqDiff, ↓reduceIte, Nat.reduceLT, Nat.beq_eq, Bool.or_eq_true, argEnvM, gOf, Nat.zero_add, Nat.le_refl, Nat.reduceAdd, Nat.reduceSub, Nat.reduceLeDiff, Nat.reduceMul, Nat.zero_mul, Nat.add_zero, Int.reduceToNat, reduceCtorEq, wrap_in, thenQ, blockQ, forall_eq, forall_eq_or_imp, hs, List.map_append]; done) | (simp (disch := omega) only [go_sem, argEnv, envOf, obOf, Nat.reduceEqDiff, ↓reduceIte, Nat.reduceLT, Nat.beq_eq, Bool.or_eq_true, argEnvM, gOf, Nat.zero_add, Nat.le_refl, Nat.reduceAdd, Nat.reduceSub, Nat.reduceLeDiff, Nat.reduceMul, Nat.zero_mul, Nat.add_zero, Int.reduceToNat, reduceCtorEq, wrap_in, thenQ, blockQ, forall_eq, forall_eq_or_imp, hs, List.map_append]; congr 1; done) | (simp (disch := omega) only [go_sem, argEnv, envOf, obOf, Nat.reduceEqDiff, ↓reduceIte, Nat.reduceLT, Nat.beq_eq, Bool.or_eq_true, argEnvM, gOf, Nat.zero_add, Nat.le_refl, Nat.reduceAdd, Nat.reduceSub, Nat.reduceLeDiff, Nat.reduceMul, Nat.zero_mul, Nat.add_zero, Int.reduceToNat, reduceCtorEq, wrap_in, thenQ, blockQ, forall_eq, forall_eq_or_imp, hs, List.map_append, PV.d.injEq, PV.ref.injEq, D.sc.injEq, Value.int.injEq, Value.bool.injEq, Ob.row.injEq, true_and, and_true]; first | done | omega)), ?_⟩); done) (by (repeat' first | exact List.forall_mem_nil _ | refine List.forall_mem_cons.2 ⟨(by first | rfl | (simp (disch := omega) only [go_sem, argEnv, envOf, obOf, Nat.reduceEqDiff, ↓reduceIte, Nat.reduceLT, Nat.beq_eq, Bool.or_eq_true, argEnvM, gOf, Nat.zero_add, Nat.le_refl, Nat.reduceAdd, Nat.reduceSub, Nat.reduceLeDiff, Nat.reduceMul, Nat.zero_mul, Nat.add_zero, Int.reduceToNat, reduceCtorEq, wrap_in, thenQ, blockQ, forall_eq, forall_eq_or_imp, hs, List.map_append]; done) | (simp (disch := omega) only [go_sem, argEnv, envOf, obOf, Nat.reduceEqDiff, ↓reduceIte, Nat.reduceLT, Nat.beq_eq, Bool.or_eq_true, argEnvM, gOf, Nat.zero_add, Nat.le_refl, Nat.reduceAdd, Nat.reduceSub, Nat.reduceLeDiff, Nat.reduceMul, Nat.zero_mul, Nat.add_zero, Int.reduceToNat, reduceCtorEq, wrap_in, thenQ, blockQ, forall_eq, forall_eq_or_imp, hs, List.map_append]; congr 1; done) | (simp (disch := omega) only [go_sem, argEnv, envOf, obOf, Nat.reduceEqDiff, ↓reduceIte, Nat.reduceLT, Nat.beq_eq, Bool.or_eq_true, argEnvM, gOf, Nat.zero_add, Nat.le_refl, Nat.reduceAdd, Nat.reduceSub, Nat.reduceLeDiff, Nat.reduceMul, Nat.zero_mul, Nat.add_zero, Int.reduceToNat, reduceCtorEq, wrap_in, thenQ, blockQ, forall_eq, forall_eq_or_imp, hs, List.map_append, PV.d.injEq, PV.ref.injEq, D.sc.injEq, Value.int.injEq, Value.bool.injEq, Ob.row.injEq, true_and, and_true]; first | done | omega)), ?_⟩); done) rfl rfl (nodup_of rfl) rfl (by (repeat' first | exact pd_of _ rfl | exact pd_dead | refine pd_upd rfl ?_ | refine pd_frz ?_); done), ?_⟩
      · omega
      · omega
    · have : k = l.length := by omega
      subst this
      have hll : (l.map mirB).take l.length = l.map mirB := List.take_of_length_le (by simp)
      try dsimp only
      rw [hll]
      refine pw_ent _ (ent_freeze 902 4 _ rfl (noGone_of _ rfl) (by decide)) ?_
      repeat' first
        | refine pw_seq ?_
        | refine pw_skip ?_
        | refine pw_exit ?_
        | refine pw_block ?_
        | refine pw_region (fun _ => false) hmix ?_
        | (refine run_callMT [(2000, 903), (2001, 904)] (h2) rfl rfl rfl rfl rfl rfl (nodup_of rfl) ?_ ?_ ?_ ?_; (· (repeat' first | exact List.forall_mem_nil _ | refine List.forall_mem_cons.2 ⟨⟨nofun, fun h => by first | rfl | (simp at h; done)⟩, ?_⟩)); (· (repeat' first | exact trivial | refine ⟨.inl rfl, ?_⟩ | refine ⟨.inr ⟨_, rfl, rfl, .inl rfl⟩, ?_⟩)); (· (repeat' first | exact List.forall_mem_nil _ | refine List.forall_mem_cons.2 ⟨rfl, ?_⟩)))
        | (refine wpG_split rfl rfl (fun hc => ?_) (fun hc => ?_) <;> try simp only [decide_eq_true_eq, decide_eq_false_iff_not, Bool.not_eq_true', Bool.not_eq_false', Bool.false_eq_true, Bool.true_eq_false, reduceCtorEq, Bool.and_eq_true, Bool.or_eq_true, not_and, not_or] at hc)
        | (refine pw_cond _ rfl rfl (fun hc => ?_) (fun hc => ?_) <;> (try simp only [decide_eq_true_eq, decide_eq_false_iff_not, Bool.not_eq_true', Bool.not_eq_false', Bool.false_eq_true, Bool.true_eq_false, reduceCtorEq, Bool.and_eq_true, Bool.or_eq_true, not_and, not_or] at hc) <;> try (exfalso; omega))
        | simp (maxSteps := 1000000) (disch := omega) only [go_sem, argEnv, envOf, obOf, Nat.reduceEqDiff, ↓reduceIte, Nat.reduceLT, Nat.beq_eq, Bool.or_eq_true, argEnvM, gOf, Nat.zero_add, Nat.le_refl, Nat.reduceAdd, Nat.reduceSub, Nat.reduceLeDiff, Nat.reduceMul, Nat.zero_mul, Nat.add_zero, Int.reduceToNat, reduceCtorEq, wrap_in, thenQ, blockQ, forall_eq, forall_eq_or_imp, List.drop_zero, htm, List.length_map]
        | apply And.intro
        | omega
        | decide +kernel
      refine pw_loopI (κ := Nat) (fun (k : Nat) => k ≤ n2) (fun (k : Nat) => [(1, .ptr 1 0 0 0), (4, .ref 900 1 0 n2 n2), (10, .ref 903 1 0 n2 n2), (12, .int (topN a b k)), (62, .int n2), (63, .int k)]) (fun (k : Nat) => [(1, .cells [.int n2, .d (bdsD l)]), (900, .row 1 (intsL a)), (903, .row 1 (intsL b))]) (fun (k : Nat) => n2 - k) 0 ?_ ?_ ?_
      · exact Nat.zero_le _
      · exact entL_ren [] _ _ (by (repeat' first | exact List.forall_mem_nil _ | refine List.forall_mem_cons.2 ⟨(by first | rfl | (simp (disch := omega) only [go_sem, argEnv, envOf, obOf, Nat.reduceEqDiff, ↓reduceIte, Nat.reduceLT, Nat.beq_eq, Bool.or_eq_true, argEnvM, gOf, Nat.zero_add, Nat.le_refl, Nat.reduceAdd, Nat.reduceSub, Nat.reduceLeDiff, Nat.reduceMul, Nat.zero_mul, Nat.add_zero, Int.reduceToNat, reduceCtorEq, wrap_in, thenQ, blockQ, forall_eq, forall_eq_or_imp]; done) | (simp (disch := omega) only [go_sem, argEnv, envOf, obOf, Nat.reduceEqDiff, ↓reduceIte, Nat.reduceLT, Nat.beq_eq, Bool.or_eq_true, argEnvM, gOf, Nat.zero_add, Nat.le_refl, Nat.reduceAdd, Nat.reduceSub, Nat.reduceLeDiff, Nat.reduceMul, Nat.zero_mul, Nat.add_zero, Int.reduceToNat, reduceCtorEq, wrap_in, thenQ, blockQ, forall_eq, forall_eq_or_imp]; congr 1; done) | (simp (disch := omega) only [go_sem, argEnv, envOf, obOf, Nat.reduceEqDiff, ↓reduceIte, Nat.reduceLT, Nat.beq_eq, Bool.or_eq_true, argEnvM, gOf, Nat.zero_add, Nat.le_refl, Nat.reduceAdd, Nat.reduceSub, Nat.reduceLeDiff, Nat.reduceMul, Nat.zero_mul, Nat.add_zero, Int.reduceToNat, reduceCtorEq, wrap_in, thenQ, blockQ, forall_eq, forall_eq_or_imp, PV.d.injEq, PV.ref.injEq, D.sc.injEq, Value.int.injEq, Value.bool.injEq, Ob.row.injEq, true_and, and_true]; first | done | omega)), ?_⟩); done) (by (repeat' first | exact List.forall_mem_nil _ | refine List.forall_mem_cons.2 ⟨(by first | rfl | (simp (disch := omega) only [go_sem, argEnv, envOf, obOf, Nat.reduceEqDiff, ↓reduceIte, Nat.reduceLT, Nat.beq_eq, Bool.or_eq_true, argEnvM, gOf, Nat.zero_add, Nat.le_refl, Nat.reduceAdd, Nat.reduceSub, Nat.reduceLeDiff, Nat.reduceMul, Nat.zero_mul, Nat.add_zero, Int.reduceToNat, reduceCtorEq, wrap_in, thenQ, blockQ, forall_eq, forall_eq_or_imp]; done) | (simp (disch := omega) only [go_sem, argEnv, envOf, obOf, Nat.reduceEqDiff, ↓reduceIte, Nat.reduceLT, Nat.beq_eq, Bool.or_eq_true, argEnvM, gOf, Nat.zero_add, Nat.le_refl, Nat.reduceAdd, Nat.reduceSub, Nat.reduceLeDiff, Nat.reduceMul, Nat.zero_mul, Nat.add_zero, Int.reduceToNat, reduceCtorEq, wrap_in, thenQ, blockQ, forall_eq, forall_eq_or_imp]; congr 1; done) | (simp (disch := omega) only [go_sem, argEnv, envOf, obOf, Nat.reduceEqDiff, ↓reduceIte, Nat.reduceLT, Nat.beq_eq, Bool.or_eq_true, argEnvM, gOf, Nat.zero_add, Nat.le_refl, Nat.reduceAdd, Nat.reduceSub, Nat.reduceLeDiff, Nat.reduceMul, Nat.zero_mul, Nat.add_zero, Int.reduceToNat, reduceCtorEq, wrap_in, thenQ, blockQ, forall_eq, forall_eq_or_imp, PV.d.injEq, PV.ref.injEq, D.sc.injEq, Value.int.injEq, Value.bool.injEq, Ob.row.injEq, true_and, and_true]; first | done | omega)), ?_⟩); done) rfl rfl (nodup_of rfl) rfl (by (repeat' first | exact pd_of _ rfl | exact pd_dead | refine pd_upd rfl ?_ | refine pd_frz ?_); done)
      · intro k hk
        rcases Nat.lt_or_ge k n2 with hlt | hge2
        · have ga := at0_at (r := a) (i := k) (by omega)
          have gb := at0_at (r := b) (i := k) (by omega)
          repeat' first
            | refine pw_seq ?_
            | refine pw_skip ?_
            | refine pw_ret ?_
            | refine pw_exit ?_
            | refine pw_block ?_
            | refine pw_region (fun _ => false) hmix ?_
            | (refine wpG_split rfl rfl (fun hc => ?_) (fun hc => ?_) <;> try simp only [decide_eq_true_eq, decide_eq_false_iff_not, Bool.not_eq_true', Bool.not_eq_false', Bool.false_eq_true, Bool.true_eq_false, reduceCtorEq, Bool.and_eq_true, Bool.or_eq_true, not_and, not_or] at hc)
            | (refine pw_cond _ rfl rfl (fun hc => ?_) (fun hc => ?_) <;> (try simp only [decide_eq_true_eq, decide_eq_false_iff_not, Bool.not_eq_true', Bool.not_eq_false', Bool.false_eq_true, Bool.true_eq_false, reduceCtorEq, Bool.and_eq_true, Bool.or_eq_true, not_and, not_or] at hc) <;> try (exfalso; omega))
            | simp (maxSteps := 1000000) (disch := omega) only [go_sem, argEnv, envOf, obOf, Nat.reduceEqDiff, ↓reduceIte, Nat.reduceLT, Nat.beq_eq, Bool.or_eq_true, argEnvM, gOf, Nat.zero_add, Nat.le_refl, Nat.reduceAdd, Nat.reduceSub, Nat.reduceLeDiff, Nat.reduceMul, Nat.zero_mul, Nat.add_zero, Int.reduceToNat, reduceCtorEq, wrap_in, thenQ, blockQ, forall_eq, forall_eq_or_imp, ga, gb, hal, hbl, ite_max]
            | apply And.intro
            | omega
            | decide +kernel
          refine ⟨k + 1, ?_, entL_ren [] _ _ (by (repeat' first | exact List.forall_mem_nil _ | refine List.forall_mem_cons.2 ⟨(by first | rfl | (simp (disch := omega) only [go_sem, argEnv, envOf, obOf, Nat.reduceEqDiff, ↓reduceIte, Nat.reduceLT, Nat.beq_eq, Bool.or_eq_true, argEnvM, gOf, Nat.zero_add, Nat.le_refl, Nat.reduceAdd, Nat.reduceSub, Nat.reduceLeDiff, Nat.reduceMul, Nat.zero_mul, Nat.add_zero, Int.reduceToNat, reduceCtorEq, wrap_in, thenQ, blockQ, forall_eq, forall_eq_or_imp, topN]; done) | (simp (disch := omega) only [go_sem, argEnv, envOf, obOf, Nat.reduceEqDiff, ↓reduceIte, Nat.reduceLT, Nat.beq_eq, Bool.or_eq_true, argEnvM, gOf, Nat.zero_add, Nat.le_refl, Nat.reduceAdd, Nat.reduceSub, Nat.reduceLeDiff, Nat.reduceMul, Nat.zero_mul, Nat.add_zero, Int.reduceToNat, reduceCtorEq, wrap_in, thenQ, blockQ, forall_eq, forall_eq_or_imp, topN]; congr 1; done) | (simp (disch := omega) only [go_sem, argEnv, envOf, obOf, Nat.reduceEqDiff, ↓reduceIte, Nat.reduceLT, Nat.beq_eq, Bool.or_eq_true, argEnvM, gOf, Nat.zero_add, Nat.le_refl, Nat.reduceAdd, Nat.reduceSub, Nat.reduceLeDiff, Nat.reduceMul, Nat.zero_mul, Nat.add_zero, Int.reduceToNat, reduceCtorEq, wrap_in, thenQ, blockQ, forall_eq, forall_eq_or_imp, topN, PV.d.injEq, PV.ref.injEq, D.sc.injEq, Value.int.injEq, Value.bool.injEq, Ob.row.injEq, true_and, and_true]; first | done | omega)), ?_⟩); done) (by (repeat' first | exact List.forall_mem_nil _ | refine List.forall_mem_cons.2 ⟨(by first | rfl | (simp (disch := omega) only [go_sem, argEnv, envOf, obOf, Nat.reduceEqDiff, ↓reduceIte, Nat.reduceLT, Nat.beq_eq, Bool.or_eq_true, argEnvM, gOf, Nat.zero_add, Nat.le_refl, Nat.reduceAdd, Nat.reduceSub, Nat.reduceLeDiff, Nat.reduceMul, Nat.zero_mul, Nat.add_zero, Int.reduceToNat, reduceCtorEq, wrap_in, thenQ, blockQ, forall_eq, forall_eq_or_imp, topN]; done) | (simp (disch := omega) only [go_sem, argEnv, envOf, obOf, Nat.reduceEqDiff, ↓reduceIte, Nat.reduceLT, Nat.beq_eq, Bool.or_eq_true, argEnvM, gOf, Nat.zero_add, Nat.le_refl, Nat.reduceAdd, Nat.reduceSub, Nat.reduceLeDiff, Nat.reduceMul, Nat.zero_mul, Nat.add_zero, Int.reduceToNat, reduceCtorEq, wrap_in, thenQ, blockQ, forall_eq, forall_eq_or_imp, topN]; congr 1; done) | (simp (disch := omega) only [go_sem, argEnv, envOf, obOf, Nat.reduceEqDiff, ↓reduceIte, Nat.reduceLT, Nat.beq_eq, Bool.or_eq_true, argEnvM, gOf, Nat.zero_add, Nat.le_refl, Nat.reduceAdd, Nat.reduceSub, Nat.reduceLeDiff, Nat.reduceMul, Nat.zero_mul, Nat.add_zero, Int.reduceToNat, reduceCtorEq, wrap_in, thenQ, blockQ, forall_eq, forall_eq_or_imp, topN, PV.d.injEq, PV.ref.injEq, D.sc.injEq, Value.int.injEq, Value.bool.injEq, Ob.row.injEq, true_and, and_true]; first | done | omega)), ?_⟩); done) rfl rfl (nodup_of rfl) rfl (by (repeat' first | exact pd_of _ rfl | exact pd_dead | refine pd_upd rfl ?_ | refine pd_frz ?_); done), ?_⟩
          · omega
          · omega
        · repeat' first
            | refine pw_seq ?_
            | refine pw_skip ?_
            | refine pw_exit ?_
            | refine pw_block ?_
            | refine pw_region (fun _ => false) hmix ?_
            | (refine wpG_split rfl rfl (fun hc => ?_) (fun hc => ?_) <;> try simp only [decide_eq_true_eq, decide_eq_false_iff_not, Bool.not_eq_true', Bool.not_eq_false', Bool.false_eq_true, Bool.true_eq_false, reduceCtorEq, Bool.and_eq_true, Bool.or_eq_true, not_and, not_or] at hc)
            | (refine pw_cond _ rfl rfl (fun hc => ?_) (fun hc => ?_) <;> (try simp only [decide_eq_true_eq, decide_eq_false_iff_not, Bool.not_eq_true', Bool.not_eq_false', Bool.false_eq_true, Bool.true_eq_false, reduceCtorEq, Bool.and_eq_true, Bool.or_eq_true, not_and, not_or] at hc) <;> try (exfalso; omega))
            | simp (maxSteps := 1000000) (disch := omega) only [go_sem, argEnv, envOf, obOf, Nat.reduceEqDiff, ↓reduceIte, Nat.reduceLT, Nat.beq_eq, Bool.or_eq_true, argEnvM, gOf, Nat.zero_add, Nat.le_refl, Nat.reduceAdd, Nat.reduceSub, Nat.reduceLeDiff, Nat.reduceMul, Nat.zero_mul, Nat.add_zero, Int.reduceToNat, reduceCtorEq, wrap_in, thenQ, blockQ, forall_eq, forall_eq_or_imp]
            | apply And.intro
            | omega
            | decide +kernel
          have : k = n2 := by omega
          subst this
          have htop := topN_in ha hb k
          have hgt := fun j (h : j < k) => topN_ge (a := a) (b := b) h
          have htt : topN a b a.length = topN a b k := by rw [hal]
          generalize topN a b k = t at htop hgt htt ⊢
          refine pw_loopI (κ := Nat) (fun (u : Nat) => u ≤ k) (fun (u : Nat) => [(4, .ref 900 1 0 k k), (10, .ref 903 1 0 k k), (12, .int t), (14, .ref 79 1 0 k k), (15, .int (lowN (halfAt a b t) u)), (81, .int k), (82, .int u)]) (fun (u : Nat) => [(900, .row 1 (intsL a)), (903, .row 1 (intsL b)), (79, .row 1 ((fillRow (halfAt a b t) k u).map D.int))]) (fun (u : Nat) => k - u) 0 ?_ ?_ ?_
          · exact Nat.zero_le _
          · exact entL_ren [] _ _ (by (repeat' first | exact List.forall_mem_nil _ | refine List.forall_mem_cons.2 ⟨(by first | rfl | (simp (disch := omega) only [go_sem, argEnv, envOf, obOf, Nat.reduceEqDiff, ↓reduceIte, Nat.reduceLT, Nat.beq_eq, Bool.or_eq_true, argEnvM, gOf, Nat.zero_add, Nat.le_refl, Nat.reduceAdd, Nat.reduceSub, Nat.reduceLeDiff, Nat.reduceMul, Nat.zero_mul, Nat.add_zero, Int.reduceToNat, reduceCtorEq, wrap_in, thenQ, blockQ, forall_eq, forall_eq_or_imp, fillRow_zero]; done) | (simp (disch := omega) only [go_sem, argEnv, envOf, obOf, Nat.reduceEqDiff, ↓reduceIte, Nat.reduceLT, Nat.beq_eq, Bool.or_eq_true, argEnvM, gOf, Nat.zero_add, Nat.le_refl, Nat.reduceAdd, Nat.reduceSub, Nat.reduceLeDiff, Nat.reduceMul, Nat.zero_mul, Nat.add_zero, Int.reduceToNat, reduceCtorEq, wrap_in, thenQ, blockQ, forall_eq, forall_eq_or_imp, fillRow_zero]; congr 1; done) | (simp (disch := omega) only [go_sem, argEnv, envOf, obOf, Nat.reduceEqDiff, ↓reduceIte, Nat.reduceLT, Nat.beq_eq, Bool.or_eq_true, argEnvM, gOf, Nat.zero_add, Nat.le_refl, Nat.reduceAdd, Nat.reduceSub, Nat.reduceLeDiff, Nat.reduceMul, Nat.zero_mul, Nat.add_zero, Int.reduceToNat, reduceCtorEq, wrap_in, thenQ, blockQ, forall_eq, forall_eq_or_imp, fillRow_zero, PV.d.injEq, PV.ref.injEq, D.sc.injEq, Value.int.injEq, Value.bool.injEq, Ob.row.injEq, true_and, and_true]; first | done | omega)), ?_⟩); done) (by (repeat' first | exact List.forall_mem_nil _ | refine List.forall_mem_cons.2 ⟨(by first | rfl | (simp (disch := omega) only [go_sem, argEnv, envOf, obOf, Nat.reduceEqDiff, ↓reduceIte, Nat.reduceLT, Nat.beq_eq, Bool.or_eq_true, argEnvM, gOf, Nat.zero_add, Nat.le_refl, Nat.reduceAdd, Nat.reduceSub, Nat.reduceLeDiff, Nat.reduceMul, Nat.zero_mul, Nat.add_zero, Int.reduceToNat, reduceCtorEq, wrap_in, thenQ, blockQ, forall_eq, forall_eq_or_imp, fillRow_zero]; done) | (simp (disch := omega) only [go_sem, argEnv, envOf, obOf, Nat.reduceEqDiff, ↓reduceIte, Nat.reduceLT, Nat.beq_eq, Bool.or_eq_true, argEnvM, gOf, Nat.zero_add, Nat.le_refl, Nat.reduceAdd, Nat.reduceSub, Nat.reduceLeDiff, Nat.reduceMul, Nat.zero_mul, Nat.add_zero, Int.reduceToNat, reduceCtorEq, wrap_in, thenQ, blockQ, forall_eq, forall_eq_or_imp, fillRow_zero]; congr 1; done) | (simp (disch := omega) only [go_sem, argEnv, envOf, obOf, Nat.reduceEqDiff, ↓reduceIte, Nat.reduceLT, Nat.beq_eq, Bool.or_eq_true, argEnvM, gOf, Nat.zero_add, Nat.le_refl, Nat.reduceAdd, Nat.reduceSub, Nat.reduceLeDiff, Nat.reduceMul, Nat.zero_mul, Nat.add_zero, Int.reduceToNat, reduceCtorEq, wrap_in, thenQ, blockQ, forall_eq, forall_eq_or_imp, fillRow_zero, PV.d.injEq, PV.ref.injEq, D.sc.injEq, Value.int.injEq, Value.bool.injEq, Ob.row.injEq, true_and, and_true]; first | done | omega)), ?_⟩); done) rfl rfl (nodup_of rfl) rfl (by (repeat' first | exact pd_of _ rfl | exact pd_dead | refine pd_upd rfl ?_ | refine pd_frz ?_); done)
          · intro u hu
            have hlow := lowN_in (by omega) (fun v => halfAt_in (v := v) ha hb htop) u
            rcases Nat.lt_or_ge u k with huk | hug
            · have ga := at0_at (r := a) (i := u) (by omega)
              have gb := at0_at (r := b) (i := u) (by omega)
              have g1 := ha u
              have g2 := hb u
              have g3 := hgt u huk
              have hh := halfAt_in (v := u) ha hb htop
              have hdef : (at0 a u + t - at0 b u) / 2 = halfAt a b t u := rfl
              have hlen := fillRow_len (halfAt a b t) k u
              have hst := fillRow_step (g := halfAt a b t) huk
              have hgk : ((fillRow (halfAt a b t) k u).set u (halfAt a b t u))[u]? = some (halfAt a b t u) := List.getElem?_set_self (by omega)
              have hgk2 : ((List.map D.int (fillRow (halfAt a b t) k u)).set u (D.sc (.int .i64 (halfAt a b t u))))[u]? = some (D.sc (.int .i64 (halfAt a b t u))) := List.getElem?_set_self (by rw [List.length_map]; omega)
              have gf : (fillRow (halfAt a b t) k u)[u]? = _ := fillRow_get huk
              rcases Decidable.em (u = 0 ∨ halfAt a b t u < lowN (halfAt a b t) u) with c | c
              · have hlo : lowN (halfAt a b t) (u + 1) = halfAt a b t u := by rw [lowN, if_pos c]
                repeat' first
                  | refine pw_seq ?_
                  | refine pw_skip ?_
                  | refine pw_ret ?_
                  | refine pw_exit ?_
                  | refine pw_block ?_
                  | refine pw_region (fun _ => false) hmix ?_
                  | (refine wpG_split rfl rfl (fun hc => ?_) (fun hc => ?_) <;> try simp only [decide_eq_true_eq, decide_eq_false_iff_not, Bool.not_eq_true', Bool.not_eq_false', Bool.false_eq_true, Bool.true_eq_false, reduceCtorEq, Bool.and_eq_true, Bool.or_eq_true, not_and, not_or] at hc)
                  | (refine pw_cond _ rfl rfl (fun hc => ?_) (fun hc => ?_) <;> (try simp only [decide_eq_true_eq, decide_eq_false_iff_not, Bool.not_eq_true', Bool.not_eq_false', Bool.false_eq_true, Bool.true_eq_false, reduceCtorEq, Bool.and_eq_true, Bool.or_eq_true, not_and, not_or] at hc) <;> try (exfalso; omega))
                  | simp (maxSteps := 1000000) (disch := omega) only [go_sem, argEnv, envOf, obOf, Nat.reduceEqDiff, ↓reduceIte, Nat.reduceLT, Nat.beq_eq, Bool.or_eq_true, argEnvM, gOf, Nat.zero_add, Nat.le_refl, Nat.reduceAdd, Nat.reduceSub, Nat.reduceLeDiff, Nat.reduceMul, Nat.zero_mul, Nat.add_zero, Int.reduceToNat, reduceCtorEq, wrap_in, thenQ, blockQ, forall_eq, forall_eq_or_imp, ga, gb, hal, hbl, hlen, gf, shr1, hdef, hgk, hgk2, List.length_set]
                  | apply And.intro
                  | omega
                  | decide +kernel
                all_goals
                  refine ⟨u + 1, ?_, entL_ren [] _ _ (by (repeat' first | exact List.forall_mem_nil _ | refine List.forall_mem_cons.2 ⟨(by first | rfl | (simp (disch := omega) only [go_sem, argEnv, envOf, obOf, Nat.reduceEqDiff, ↓reduceIte, Nat.reduceLT, Nat.beq_eq, Bool.or_eq_true, argEnvM, gOf, Nat.zero_add, Nat.le_refl, Nat.reduceAdd, Nat.reduceSub, Nat.reduceLeDiff, Nat.reduceMul, Nat.zero_mul, Nat.add_zero, Int.reduceToNat, reduceCtorEq, wrap_in, thenQ, blockQ, forall_eq, forall_eq_or_imp, hst.symm, hlo, List.map_set]; done) | (simp (disch := omega) only [go_sem, argEnv, envOf, obOf, Nat.reduceEqDiff, ↓reduceIte, Nat.reduceLT, Nat.beq_eq, Bool.or_eq_true, argEnvM, gOf, Nat.zero_add, Nat.le_refl, Nat.reduceAdd, Nat.reduceSub, Nat.reduceLeDiff, Nat.reduceMul, Nat.zero_mul, Nat.add_zero, Int.reduceToNat, reduceCtorEq, wrap_in, thenQ, blockQ, forall_eq, forall_eq_or_imp, hst.symm, hlo, List.map_set]; congr 1; done) | (simp (disch := omega) only [go_sem, argEnv, envOf, obOf, Nat.reduceEqDiff, ↓reduceIte, Nat.reduceLT, Nat.beq_eq, Bool.or_eq_true, argEnvM, gOf, Nat.zero_add, Nat.le_refl, Nat.reduceAdd, Nat.reduceSub, Nat.reduceLeDiff, Nat.reduceMul, Nat.zero_mul, Nat.add_zero, Int.reduceToNat, reduceCtorEq, wrap_in, thenQ, blockQ, forall_eq, forall_eq_or_imp, hst.symm, hlo, List.map_set, PV.d.injEq, PV.ref.injEq, D.sc.injEq, Value.int.injEq, Value.bool.injEq, Ob.row.injEq, true_and, and_true]; first | done | omega)), ?_⟩); done) (by (repeat' first | exact List.forall_mem_nil _ | refine List.forall_mem_cons.2 ⟨(by first | rfl | (simp (disch := omega) only [go_sem, argEnv, envOf, obOf, Nat.reduceEqDiff, ↓reduceIte, Nat.reduceLT, Nat.beq_eq, Bool.or_eq_true, argEnvM, gOf, Nat.zero_add, Nat.le_refl, Nat.reduceAdd, Nat.reduceSub, Nat.reduceLeDiff, Nat.reduceMul, Nat.zero_mul, Nat.add_zero, Int.reduceToNat, reduceCtorEq, wrap_in, thenQ, blockQ, forall_eq, forall_eq_or_imp, hst.symm, hlo, List.map_set]; done) | (simp (disch := omega) only [go_sem, argEnv, envOf, obOf, Nat.reduceEqDiff, ↓reduceIte, Nat.reduceLT, Nat.beq_eq, Bool.or_eq_true, argEnvM, gOf, Nat.zero_add, Nat.le_refl, Nat.reduceAdd, Nat.reduceSub, Nat.reduceLeDiff, Nat.reduceMul, Nat.zero_mul, Nat.add_zero, Int.reduceToNat, reduceCtorEq, wrap_in, thenQ, blockQ, forall_eq, forall_eq_or_imp, hst.symm, hlo, List.map_set]; congr 1; done) | (simp (disch := omega) only [go_sem, argEnv, envOf, obOf, Nat.reduceEqDiff, ↓reduceIte, Nat.reduceLT, Nat.beq_eq, Bool.or_eq_true, argEnvM, gOf, Nat.zero_add, Nat.le_refl, Nat.reduceAdd, Nat.reduceSub, Nat.reduceLeDiff, Nat.reduceMul, Nat.zero_mul, Nat.add_zero, Int.reduceToNat, reduceCtorEq, wrap_in, thenQ, blockQ, forall_eq, forall_eq_or_imp, hst.symm, hlo, List.map_set, PV.d.injEq, PV.ref.injEq, D.sc.injEq, Value.int.injEq, Value.bool.injEq, Ob.row.injEq, true_and, and_true]; first | done | omega)), ?_⟩); done) rfl rfl (nodup_of rfl) rfl (by (repeat' first | exact pd_of _ rfl | exact pd_dead | refine pd_upd rfl ?_ | refine pd_frz ?_); done), ?_⟩
                  · omega
                  · omega
              · have hlo : lowN (halfAt a b t) (u + 1) = lowN (halfAt a b t) u := by rw [lowN, if_neg c]
                repeat' first
                  | refine pw_seq ?_
                  | refine pw_skip ?_
                  | refine pw_ret ?_
                  | refine pw_exit ?_
                  | refine pw_block ?_
                  | refine pw_region (fun _ => false) hmix ?_
                  | (refine wpG_split rfl rfl (fun hc => ?_) (fun hc => ?_) <;> try simp only [decide_eq_true_eq, decide_eq_false_iff_not, Bool.not_eq_true', Bool.not_eq_false', Bool.false_eq_true, Bool.true_eq_false, reduceCtorEq, Bool.and_eq_true, Bool.or_eq_true, not_and, not_or] at hc)
                  | (refine pw_cond _ rfl rfl (fun hc => ?_) (fun hc => ?_) <;> (try simp only [decide_eq_true_eq, decide_eq_false_iff_not, Bool.not_eq_true', Bool.not_eq_false', Bool.false_eq_true, Bool.true_eq_false, reduceCtorEq, Bool.and_eq_true, Bool.or_eq_true, not_and, not_or] at hc) <;> try (exfalso; omega))
                  | simp (maxSteps := 1000000) (disch := omega) only [go_sem, argEnv, envOf, obOf, Nat.reduceEqDiff, ↓reduceIte, Nat.reduceLT, Nat.beq_eq, Bool.or_eq_true, argEnvM, gOf, Nat.zero_add, Nat.le_refl, Nat.reduceAdd, Nat.reduceSub, Nat.reduceLeDiff, Nat.reduceMul, Nat.zero_mul, Nat.add_zero, Int.reduceToNat, reduceCtorEq, wrap_in, thenQ, blockQ, forall_eq, forall_eq_or_imp, ga, gb, hal, hbl, hlen, gf, shr1, hdef, hgk, hgk2, List.length_set]
                  | apply And.intro
                  | omega
                  | decide +kernel
                all_goals
                  refine ⟨u + 1, ?_, entL_ren [] _ _ (by (repeat' first | exact List.forall_mem_nil _ | refine List.forall_mem_cons.2 ⟨(by first | rfl | (simp (disch := omega) only [go_sem, argEnv, envOf, obOf, Nat.reduceEqDiff, ↓reduceIte, Nat.reduceLT, Nat.beq_eq, Bool.or_eq_true, argEnvM, gOf, Nat.zero_add, Nat.le_refl, Nat.reduceAdd, Nat.reduceSub, Nat.reduceLeDiff, Nat.reduceMul, Nat.zero_mul, Nat.add_zero, Int.reduceToNat, reduceCtorEq, wrap_in, thenQ, blockQ, forall_eq, forall_eq_or_imp, hst.symm, hlo, List.map_set]; done) | (simp (disch := omega) only [go_sem, argEnv, envOf, obOf, Nat.reduceEqDiff, ↓reduceIte, Nat.reduceLT, Nat.beq_eq, Bool.or_eq_true, argEnvM, gOf, Nat.zero_add, Nat.le_refl, Nat.reduceAdd, Nat.reduceSub, Nat.reduceLeDiff, Nat.reduceMul, Nat.zero_mul, Nat.add_zero, Int.reduceToNat, reduceCtorEq, wrap_in, thenQ, blockQ, forall_eq, forall_eq_or_imp, hst.symm, hlo, List.map_set]; congr 1; done) | (simp (disch := omega) only [go_sem, argEnv, envOf, obOf, Nat.reduceEqDiff, ↓reduceIte, Nat.reduceLT, Nat.beq_eq, Bool.or_eq_true, argEnvM, gOf, Nat.zero_add, Nat.le_refl, Nat.reduceAdd, Nat.reduceSub, Nat.reduceLeDiff, Nat.reduceMul, Nat.zero_mul, Nat.add_zero, Int.reduceToNat, reduceCtorEq, wrap_in, thenQ, blockQ, forall_eq, forall_eq_or_imp, hst.symm, hlo, List.map_set, PV.d.injEq, PV.ref.injEq, D.sc.injEq, Value.int.injEq, Value.bool.injEq, Ob.row.injEq, true_and, and_true]; first | done | omega)), ?_⟩); done) (by (repeat' first | exact List.forall_mem_nil _ | refine List.forall_mem_cons.2 ⟨(by first | rfl | (simp (disch := omega) only [go_sem, argEnv, envOf, obOf, Nat.reduceEqDiff, ↓reduceIte, Nat.reduceLT, Nat.beq_eq, Bool.or_eq_true, argEnvM, gOf, Nat.zero_add, Nat.le_refl, Nat.reduceAdd, Nat.reduceSub, Nat.reduceLeDiff, Nat.reduceMul, Nat.zero_mul, Nat.add_zero, Int.reduceToNat, reduceCtorEq, wrap_in, thenQ, blockQ, forall_eq, forall_eq_or_imp, hst.symm, hlo, List.map_set]; done) | (simp (disch := omega) only [go_sem, argEnv, envOf, obOf, Nat.reduceEqDiff, ↓reduceIte, Nat.reduceLT, Nat.beq_eq, Bool.or_eq_true, argEnvM, gOf, Nat.zero_add, Nat.le_refl, Nat.reduceAdd, Nat.reduceSub, Nat.reduceLeDiff, Nat.reduceMul, Nat.zero_mul, Nat.add_zero, Int.reduceToNat, reduceCtorEq, wrap_in, thenQ, blockQ, forall_eq, forall_eq_or_imp, hst.symm, hlo, List.map_set]; congr 1; done) | (simp (disch := omega) only [go_sem, argEnv, envOf, obOf, Nat.reduceEqDiff, ↓reduceIte, Nat.reduceLT, Nat.beq_eq, Bool.or_eq_true, argEnvM, gOf, Nat.zero_add, Nat.le_refl, Nat.reduceAdd, Nat.reduceSub, Nat.reduceLeDiff, Nat.reduceMul, Nat.zero_mul, Nat.add_zero, Int.reduceToNat, reduceCtorEq, wrap_in, thenQ, blockQ, forall_eq, forall_eq_or_imp, hst.symm, hlo, List.map_set, PV.d.injEq, PV.ref.injEq, D.sc.injEq, Value.int.injEq, Value.bool.injEq, Ob.row.injEq, true_and, and_true]; first | done | omega)), ?_⟩); done) rfl rfl (nodup_of rfl) rfl (by (repeat' first | exact pd_of _ rfl | exact pd_dead | refine pd_upd rfl ?_ | refine pd_frz ?_); done), ?_⟩
                  · omega
                  · omega
            · repeat' first
                | refine pw_seq ?_
                | refine pw_skip ?_
                | refine pw_exit ?_
                | refine pw_block ?_
                | refine pw_region (fun _ => false) hmix ?_
                | (refine wpG_split rfl rfl (fun hc => ?_) (fun hc => ?_) <;> try simp only [decide_eq_true_eq, decide_eq_false_iff_not, Bool.not_eq_true', Bool.not_eq_false', Bool.false_eq_true, Bool.true_eq_false, reduceCtorEq, Bool.and_eq_true, Bool.or_eq_true, not_and, not_or] at hc)
                | (refine pw_cond _ rfl rfl (fun hc => ?_) (fun hc => ?_) <;> (try simp only [decide_eq_true_eq, decide_eq_false_iff_not, Bool.not_eq_true', Bool.not_eq_false', Bool.false_eq_true, Bool.true_eq_false, reduceCtorEq, Bool.and_eq_true, Bool.or_eq_true, not_and, not_or] at hc) <;> try (exfalso; omega))
                | simp (maxSteps := 1000000) (disch := omega) only [go_sem, argEnv, envOf, obOf, Nat.reduceEqDiff, ↓reduceIte, Nat.reduceLT, Nat.beq_eq, Bool.or_eq_true, argEnvM, gOf, Nat.zero_add, Nat.le_refl, Nat.reduceAdd, Nat.reduceSub, Nat.reduceLeDiff, Nat.reduceMul, Nat.zero_mul, Nat.add_zero, Int.reduceToNat, reduceCtorEq, wrap_in, thenQ, blockQ, forall_eq, forall_eq_or_imp]
                | apply And.intro
                | omega
                | decide +kernel
              have : u = k := by omega
              subst this
              have hrow : fillRow (halfAt a b t) u u = turnRow (halfAt a b t) (fun v => halfAt a b t v - lowN (halfAt a b t) u) u 0 := by
                rw [fillRow_end, turnRow_zero]; rfl
              have hwl : lowN (halfAt a b t) a.length = lowN (halfAt a b t) u := by rw [hal]
              rw [hrow]
              generalize lowN (halfAt a b t) u = w at hlow hwl ⊢
              refine pw_loopI (κ := Nat) (fun (v : Nat) => v ≤ u) (fun (v : Nat) => [(14, .ref 79 1 0 u u), (15, .int w), (116, .int u), (117, .int v)]) (fun (v : Nat) => [(79, .row 1 ((turnRow (halfAt a b t) (fun v => halfAt a b t v - w) u v).map D.int))]) (fun (v : Nat) => u - v) 0 ?_ ?_ ?_
              · exact Nat.zero_le _
              · exact entL_ren [] _ _ (by (repeat' first | exact List.forall_mem_nil _ | refine List.forall_mem_cons.2 ⟨(by first | rfl | (simp (disch := omega) only [go_sem, argEnv, envOf, obOf, Nat.reduceEqDiff, ↓reduceIte, Nat.reduceLT, Nat.beq_eq, Bool.or_eq_true, argEnvM, gOf, Nat.zero_add, Nat.le_refl, Nat.reduceAdd, Nat.reduceSub, Nat.reduceLeDiff, Nat.reduceMul, Nat.zero_mul, Nat.add_zero, Int.reduceToNat, reduceCtorEq, wrap_in, thenQ, blockQ, forall_eq, forall_eq_or_imp]; done) | (simp (disch := omega) only [go_sem, argEnv, envOf, obOf, Nat.reduceEqDiff, ↓reduceIte, Nat.reduceLT, Nat.beq_eq, Bool.or_eq_true, argEnvM, gOf, Nat.zero_add, Nat.le_refl, Nat.reduceAdd, Nat.reduceSub, Nat.reduceLeDiff, Nat.reduceMul, Nat.zero_mul, Nat.add_zero, Int.reduceToNat, reduceCtorEq, wrap_in, thenQ, blockQ, forall_eq, forall_eq_or_imp]; congr 1; done) | (simp (disch := omega) only [go_sem, argEnv, envOf, obOf, Nat.reduceEqDiff, ↓reduceIte, Nat.reduceLT, Nat.beq_eq, Bool.or_eq_true, argEnvM, gOf, Nat.zero_add, Nat.le_refl, Nat.reduceAdd, Nat.reduceSub, Nat.reduceLeDiff, Nat.reduceMul, Nat.zero_mul, Nat.add_zero, Int.reduceToNat, reduceCtorEq, wrap_in, thenQ, blockQ, forall_eq, forall_eq_or_imp, PV.d.injEq, PV.ref.injEq, D.sc.injEq, Value.int.injEq, Value.bool.injEq, Ob.row.injEq, true_and, and_true]; first | done | omega)), ?_⟩); done) (by (repeat' first | exact List.forall_mem_nil _ | refine List.forall_mem_cons.2 ⟨(by first | rfl | (simp (disch := omega) only [go_sem, argEnv, envOf, obOf, Nat.reduceEqDiff, ↓reduceIte, Nat.reduceLT, Nat.beq_eq, Bool.or_eq_true, argEnvM, gOf, Nat.zero_add, Nat.le_refl, Nat.reduceAdd, Nat.reduceSub, Nat.reduceLeDiff, Nat.reduceMul, Nat.zero_mul, Nat.add_zero, Int.reduceToNat, reduceCtorEq, wrap_in, thenQ, blockQ, forall_eq, forall_eq_or_imp]; done) | (simp (disch := omega) only [go_sem, argEnv, envOf, obOf, Nat.reduceEqDiff, ↓reduceIte, Nat.reduceLT, Nat.beq_eq, Bool.or_eq_true, argEnvM, gOf, Nat.zero_add, Nat.le_refl, Nat.reduceAdd, Nat.reduceSub, Nat.reduceLeDiff, Nat.reduceMul, Nat.zero_mul, Nat.add_zero, Int.reduceToNat, reduceCtorEq, wrap_in, thenQ, blockQ, forall_eq, forall_eq_or_imp]; congr 1; done) | (simp (disch := omega) only [go_sem, argEnv, envOf, obOf, Nat.reduceEqDiff, ↓reduceIte, Nat.reduceLT, Nat.beq_eq, Bool.or_eq_true, argEnvM, gOf, Nat.zero_add, Nat.le_refl, Nat.reduceAdd, Nat.reduceSub, Nat.reduceLeDiff, Nat.reduceMul, Nat.zero_mul, Nat.add_zero, Int.reduceToNat, reduceCtorEq, wrap_in, thenQ, blockQ, forall_eq, forall_eq_or_imp, PV.d.injEq, PV.ref.injEq, D.sc.injEq, Value.int.injEq, Value.bool.injEq, Ob.row.injEq, true_and, and_true]; first | done | omega)), ?_⟩); done) rfl rfl (nodup_of rfl) rfl (by (repeat' first | exact pd_of _ rfl | exact pd_dead | refine pd_upd rfl ?_ | refine pd_frz ?_); done)
              · intro v hv
                have hlen := turnRow_len (halfAt a b t) (fun v => halfAt a b t v - w) u v
                rcases Nat.lt_or_ge v u with hvu | hvg
                · have hg : (turnRow (halfAt a b t) (fun v => halfAt a b t v - w) u v)[v]? = some (halfAt a b t v) := by rw [turnRow_get hvu, if_neg (by omega)]
                  have hst := turnRow_step (h := halfAt a b t) (g := fun v => halfAt a b t v - w) hvu
                  have hh := halfAt_in (v := v) ha hb htop
                  repeat' first
                    | refine pw_seq ?_
                    | refine pw_skip ?_
                    | refine pw_ret ?_
                    | refine pw_exit ?_
                    | refine pw_block ?_
                    | refine pw_region (fun _ => false) hmix ?_
                    | (refine wpG_split rfl rfl (fun hc => ?_) (fun hc => ?_) <;> try simp only [decide_eq_true_eq, decide_eq_false_iff_not, Bool.not_eq_true', Bool.not_eq_false', Bool.false_eq_true, Bool.true_eq_false, reduceCtorEq, Bool.and_eq_true, Bool.or_eq_true, not_and, not_or] at hc)
                    | (refine pw_cond _ rfl rfl (fun hc => ?_) (fun hc => ?_) <;> (try simp only [decide_eq_true_eq, decide_eq_false_iff_not, Bool.not_eq_true', Bool.not_eq_false', Bool.false_eq_true, Bool.true_eq_false, reduceCtorEq, Bool.and_eq_true, Bool.or_eq_true, not_and, not_or] at hc) <;> try (exfalso; omega))
                    | simp (maxSteps := 1000000) (disch := omega) only [go_sem, argEnv, envOf, obOf, Nat.reduceEqDiff, ↓reduceIte, Nat.reduceLT, Nat.beq_eq, Bool.or_eq_true, argEnvM, gOf, Nat.zero_add, Nat.le_refl, Nat.reduceAdd, Nat.reduceSub, Nat.reduceLeDiff, Nat.reduceMul, Nat.zero_mul, Nat.add_zero, Int.reduceToNat, reduceCtorEq, wrap_in, thenQ, blockQ, forall_eq, forall_eq_or_imp, hg, hlen]
                    | apply And.intro
                    | omega
                    | decide +kernel
                  refine ⟨v + 1, ?_, entL_ren [] _ _ (by (repeat' first | exact List.forall_mem_nil _ | refine List.forall_mem_cons.2 ⟨(by first | rfl | (simp (disch := omega) only [go_sem, argEnv, envOf, obOf, Nat.reduceEqDiff, ↓reduceIte, Nat.reduceLT, Nat.beq_eq, Bool.or_eq_true, argEnvM, gOf, Nat.zero_add, Nat.le_refl, Nat.reduceAdd, Nat.reduceSub, Nat.reduceLeDiff, Nat.reduceMul, Nat.zero_mul, Nat.add_zero, Int.reduceToNat, reduceCtorEq, wrap_in, thenQ, blockQ, forall_eq, forall_eq_or_imp, hst.symm, List.map_set]; done) | (simp (disch := omega) only [go_sem, argEnv, envOf, obOf, Nat.reduceEqDiff, ↓reduceIte, Nat.reduceLT, Nat.beq_eq, Bool.or_eq_true, argEnvM, gOf, Nat.zero_add, Nat.le_refl, Nat.reduceAdd, Nat.reduceSub, Nat.reduceLeDiff, Nat.reduceMul, Nat.zero_mul, Nat.add_zero, Int.reduceToNat, reduceCtorEq, wrap_in, thenQ, blockQ, forall_eq, forall_eq_or_imp, hst.symm, List.map_set]; congr 1; done) | (simp (disch := omega) only [go_sem, argEnv, envOf, obOf, Nat.reduceEqDiff, ↓reduceIte, Nat.reduceLT, Nat.beq_eq, Bool.or_eq_true, argEnvM, gOf, Nat.zero_add, Nat.le_refl, Nat.reduceAdd, Nat.reduceSub, Nat.reduceLeDiff, Nat.reduceMul, Nat.zero_mul, Nat.add_zero, Int.reduceToNat, reduceCtorEq, wrap_in, thenQ, blockQ, forall_eq, forall_eq_or_imp, hst.symm, List.map_set, PV.d.injEq, PV.ref.injEq, D.sc.injEq, Value.int.injEq, Value.bool.injEq, Ob.row.injEq, true_and, and_true]; first | done | omega)), ?_⟩); done) (by (repeat' first | exact List.forall_mem_nil _ | refine List.forall_mem_cons.2 ⟨(by first | rfl | (simp (disch := omega) only [go_sem, argEnv, envOf, obOf, Nat.reduceEqDiff, ↓reduceIte, Nat.reduceLT, Nat.beq_eq, Bool.or_eq_true, argEnvM, gOf, Nat.zero_add, Nat.le_refl, Nat.reduceAdd, Nat.reduceSub, Nat.reduceLeDiff, Nat.reduceMul, Nat.zero_mul, Nat.add_zero, Int.reduceToNat, reduceCtorEq, wrap_in, thenQ, blockQ, forall_eq, forall_eq_or_imp, hst.symm, List.map_set]; done) | (simp (disch := omega) only [go_sem, argEnv, envOf, obOf, Nat.reduceEqDiff, ↓reduceIte, Nat.reduceLT, Nat.beq_eq, Bool.or_eq_true, argEnvM, gOf, Nat.zero_add, Nat.le_refl, Nat.reduceAdd, Nat.reduceSub, Nat.reduceLeDiff, Nat.reduceMul, Nat.zero_mul, Nat.add_zero, Int.reduceToNat, reduceCtorEq, wrap_in, thenQ, blockQ, forall_eq, forall_eq_or_imp, hst.symm, List.map_set]; congr 1; done) | (simp (disch := omega) only [go_sem, argEnv, envOf, obOf, Nat.reduceEqDiff, ↓reduceIte, Nat.reduceLT, Nat.beq_eq, Bool.or_eq_true, argEnvM, gOf, Nat.zero_add, Nat.le_refl, Nat.reduceAdd, Nat.reduceSub, Nat.reduceLeDiff, Nat.reduceMul, Nat.zero_mul, Nat.add_zero, Int.reduceToNat, reduceCtorEq, wrap_in, thenQ, blockQ, forall_eq, forall_eq_or_imp, hst.symm, List.map_set, PV.d.injEq, PV.ref.injEq, D.sc.injEq, Value.int.injEq, Value.bool.injEq, Ob.row.injEq, true_and, and_true]; first | done | omega)), ?_⟩); done) rfl rfl (nodup_of rfl) rfl (by (repeat' first | exact pd_of _ rfl | exact pd_dead | refine pd_upd rfl ?_ | refine pd_frz ?_); done), ?_⟩
                  · omega
                  · omega
                · repeat' first
                    | refine pw_seq ?_
                    | refine pw_skip ?_
                    | refine pw_exit ?_
                    | refine pw_block ?_
                    | refine pw_region (fun _ => false) hmix ?_
                    | (refine wpG_split rfl rfl (fun hc => ?_) (fun hc => ?_) <;> try simp only [decide_eq_true_eq, decide_eq_false_iff_not, Bool.not_eq_true', Bool.not_eq_false', Bool.false_eq_true, Bool.true_eq_false, reduceCtorEq, Bool.and_eq_true, Bool.or_eq_true, not_and, not_or] at hc)
                    | (refine pw_cond _ rfl rfl (fun hc => ?_) (fun hc => ?_) <;> (try simp only [decide_eq_true_eq, decide_eq_false_iff_not, Bool.not_eq_true', Bool.not_eq_false', Bool.false_eq_true, Bool.true_eq_false, reduceCtorEq, Bool.and_eq_true, Bool.or_eq_true, not_and, not_or] at hc) <;> try (exfalso; omega))
                    | simp (maxSteps := 1000000) (disch := omega) only [go_sem, argEnv, envOf, obOf, Nat.reduceEqDiff, ↓reduceIte, Nat.reduceLT, Nat.beq_eq, Bool.or_eq_true, argEnvM, gOf, Nat.zero_add, Nat.le_refl, Nat.reduceAdd, Nat.reduceSub, Nat.reduceLeDiff, Nat.reduceMul, Nat.zero_mul, Nat.add_zero, Int.reduceToNat, reduceCtorEq, wrap_in, thenQ, blockQ, forall_eq, forall_eq_or_imp]
                    | apply And.intro
                    | omega
                    | decide +kernel
                  have : v = u := by omega
                  subst this
                  have e : midF a b = rowN (fun x => halfAt a b t x - w) v := by simp only [midF, rowN, htt, hwl]; rw [hal]
                  refine pw_ent _ (ent_ren [(2000, 79)] [(2, .ref 2000 1 0 _ _), (3, .int 0)] [(2000, .row 1 _)] (by (repeat' first | exact List.forall_mem_nil _ | refine List.forall_mem_cons.2 ⟨(by first | rfl | (simp (disch := omega) only [go_sem, argEnv, envOf, obOf, Nat.reduceEqDiff, ↓reduceIte, Nat.reduceLT, Nat.beq_eq, Bool.or_eq_true, argEnvM, gOf, Nat.zero_add, Nat.le_refl, Nat.reduceAdd, Nat.reduceSub, Nat.reduceLeDiff, Nat.reduceMul, Nat.zero_mul, Nat.add_zero, Int.reduceToNat, reduceCtorEq, wrap_in, thenQ, blockQ, forall_eq, forall_eq_or_imp]; done) | (simp (disch := omega) only [go_sem, argEnv, envOf, obOf, Nat.reduceEqDiff, ↓reduceIte, Nat.reduceLT, Nat.beq_eq, Bool.or_eq_true, argEnvM, gOf, Nat.zero_add, Nat.le_refl, Nat.reduceAdd, Nat.reduceSub, Nat.reduceLeDiff, Nat.reduceMul, Nat.zero_mul, Nat.add_zero, Int.reduceToNat, reduceCtorEq, wrap_in, thenQ, blockQ, forall_eq, forall_eq_or_imp]; congr 1; done) | (simp (disch := omega) only [go_sem, argEnv, envOf, obOf, Nat.reduceEqDiff, ↓reduceIte, Nat.reduceLT, Nat.beq_eq, Bool.or_eq_true, argEnvM, gOf, Nat.zero_add, Nat.le_refl, Nat.reduceAdd, Nat.reduceSub, Nat.reduceLeDiff, Nat.reduceMul, Nat.zero_mul, Nat.add_zero, Int.reduceToNat, reduceCtorEq, wrap_in, thenQ, blockQ, forall_eq, forall_eq_or_imp, PV.d.injEq, PV.ref.injEq, D.sc.injEq, Value.int.injEq, Value.bool.injEq, Ob.row.injEq, true_and, and_true]; first | done | omega)), ?_⟩); done) (by (repeat' first | exact List.forall_mem_nil _ | refine List.forall_mem_cons.2 ⟨(by first | rfl | (simp (disch := omega) only [go_sem, argEnv, envOf, obOf, Nat.reduceEqDiff, ↓reduceIte, Nat.reduceLT, Nat.beq_eq, Bool.or_eq_true, argEnvM, gOf, Nat.zero_add, Nat.le_refl, Nat.reduceAdd, Nat.reduceSub, Nat.reduceLeDiff, Nat.reduceMul, Nat.zero_mul, Nat.add_zero, Int.reduceToNat, reduceCtorEq, wrap_in, thenQ, blockQ, forall_eq, forall_eq_or_imp]; done) | (simp (disch := omega) only [go_sem, argEnv, envOf, obOf, Nat.reduceEqDiff, ↓reduceIte, Nat.reduceLT, Nat.beq_eq, Bool.or_eq_true, argEnvM, gOf, Nat.zero_add, Nat.le_refl, Nat.reduceAdd, Nat.reduceSub, Nat.reduceLeDiff, Nat.reduceMul, Nat.zero_mul, Nat.add_zero, Int.reduceToNat, reduceCtorEq, wrap_in, thenQ, blockQ, forall_eq, forall_eq_or_imp]; congr 1; done) | (simp (disch := omega) only [go_sem, argEnv, envOf, obOf, Nat.reduceEqDiff, ↓reduceIte, Nat.reduceLT, Nat.beq_eq, Bool.or_eq_true, argEnvM, gOf, Nat.zero_add, Nat.le_refl, Nat.reduceAdd, Nat.reduceSub, Nat.reduceLeDiff, Nat.reduceMul, Nat.zero_mul, Nat.add_zero, Int.reduceToNat, reduceCtorEq, wrap_in, thenQ, blockQ, forall_eq, forall_eq_or_imp, PV.d.injEq, PV.ref.injEq, D.sc.injEq, Value.int.injEq, Value.bool.injEq, Ob.row.injEq, true_and, and_true]; first | done | omega)), ?_⟩); done) rfl rfl (nodup_of rfl) rfl (by (repeat' first | exact pd_of _ rfl | exact pd_dead | refine pd_upd rfl ?_ | refine pd_frz ?_); done)) ?_
                  refine pw_ret ?_
                  exact ⟨⟨_, rfl, rfl, rfl, trivial⟩, List.forall_mem_cons.2 ⟨row_ob (by rw [turnRow_end, e]), List.forall_mem_nil _⟩⟩
end Go.Proofs.Ytcbcccphlhpajaa
