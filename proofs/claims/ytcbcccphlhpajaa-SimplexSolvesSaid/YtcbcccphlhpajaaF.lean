/- All vertices; what they need. -/
import Derived.Test.YtcbcccphlhpajaaE
namespace Go.Proofs.Ytcbcccphlhpajaa
open Go Go.PS Go.Proofs
set_option maxRecDepth 100000
set_option linter.unusedSimpArgs false
set_option linter.unusedVariables false
attribute [local irreducible] wpRun wpG CallsTo CallsM
abbrev pD (n : Nat) (l : List Bd) (f : List Int) : D := .pt [.int n, bdsD l, intsD f]
def allI (n : Nat) : List Int := (List.range n).map fun u : Nat => (u : Int)
/-- A row that is filled from the front. -/
def fillRow (g : Nat → Int) (n k : Nat) : List Int := (List.range n).map fun u => if u < k then g u else 0
theorem fillRow_len (g : Nat → Int) (n k : Nat) : (fillRow g n k).length = n := by simp [fillRow]
theorem fillRow_get {g : Nat → Int} {n k u : Nat} (h : u < n) : (fillRow g n k)[u]? = some (if u < k then g u else 0) := by simp [fillRow, h]
theorem fillRow_zero (g : Nat → Int) (n : Nat) : (fillRow g n 0).map D.int = List.replicate n (D.int 0) := by
  rw [List.eq_replicate_iff]
  refine ⟨by simp [fillRow], fun b hb => ?_⟩
  simp only [fillRow, List.map_map, List.mem_map] at hb
  obtain ⟨u, _, rfl⟩ := hb
  simp
theorem fillRow_step {g : Nat → Int} {n k : Nat} (h : k < n) : (fillRow g n k).set k (g k) = fillRow g n (k + 1) := by
  refine List.ext_getElem? fun u => ?_
  by_cases hu : u < n
  · rw [fillRow_get hu, List.getElem?_set, fillRow_get hu, fillRow_len]
    by_cases c : k = u
    · subst c; rw [if_pos rfl, if_pos h, if_pos (by omega)]
    · rw [if_neg c]
      by_cases c2 : u < k
      · rw [if_pos c2, if_pos (by omega)]
      · rw [if_neg c2, if_neg (by omega)]
  · rw [List.getElem?_eq_none (by rw [List.length_set, fillRow_len]; omega), List.getElem?_eq_none (by rw [fillRow_len]; omega)]
theorem fillRow_end (g : Nat → Int) (n : Nat) : fillRow g n n = (List.range n).map g := by
  rw [fillRow]
  refine List.map_congr_left fun u hu => ?_
  rw [if_pos (List.mem_range.1 hu)]
set_option maxHeartbeats 1000000 in
theorem all_spec (n : Nat) (l : List Bd) (f : List Int) (hn : n ≤ 2048) : CallsM Try.prog 27 [.d (pD n l f)] [(2000, .dead)] (.ref 2000 1 0 n n) [(2000, .row 1 ((allI n).map D.int))] := by
  refine callsM_of Try.func27 rfl (by decide +kernel) (Nat.le_of_ble_eq_true rfl) rfl (nodup_of rfl) rfl rfl rfl ?_
  intro B X w0
  repeat' first
    | refine pw_seq ?_
    | refine pw_skip ?_
    | refine pw_ret ?_
    | refine pw_exit ?_
    | refine pw_block ?_
    | refine pw_region (Nat.beq 10) hmix ?_
    | (refine wpG_split rfl rfl (fun hc => ?_) (fun hc => ?_) <;> try simp only [decide_eq_true_eq, decide_eq_false_iff_not, Bool.not_eq_true', Bool.not_eq_false', Bool.false_eq_true, Bool.true_eq_false, reduceCtorEq, Bool.and_eq_true, Bool.or_eq_true, not_and, not_or] at hc)
    | (refine pw_cond _ rfl rfl (fun hc => ?_) (fun hc => ?_) <;> (try simp only [decide_eq_true_eq, decide_eq_false_iff_not, Bool.not_eq_true', Bool.not_eq_false', Bool.false_eq_true, Bool.true_eq_false, reduceCtorEq, Bool.and_eq_true, Bool.or_eq_true, not_and, not_or] at hc) <;> try (exfalso; omega))
    | simp (maxSteps := 1000000) (disch := omega) only [go_sem, argEnv, envOf, obOf, Nat.reduceEqDiff, ↓reduceIte, Nat.reduceLT, Nat.beq_eq, Bool.or_eq_true, argEnvM, gOf, Nat.zero_add, Nat.le_refl, Nat.reduceAdd, Nat.reduceSub, Nat.reduceLeDiff, Nat.reduceMul, Nat.zero_mul, Nat.add_zero, Int.reduceToNat, reduceCtorEq, wrap_in, thenQ, blockQ, forall_eq, forall_eq_or_imp]
    | apply And.intro
    | omega
    | decide +kernel
  refine pw_loopI (κ := Nat) (fun (k : Nat) => k ≤ n) (fun (k : Nat) => [(3, .ref 10 1 0 n n), (12, .int n), (13, .int k)]) (fun (k : Nat) => [(10, .row 1 ((fillRow (fun u => (u : Int)) n k).map D.int))]) (fun (k : Nat) => n - k) 0 ?_ ?_ ?_
  · exact Nat.zero_le _
  · exact entL_ren [] _ _ (by (repeat' first | exact List.forall_mem_nil _ | refine List.forall_mem_cons.2 ⟨(by first | rfl | (simp (disch := omega) only [go_sem, argEnv, envOf, obOf, Nat.reduceEqDiff, ↓reduceIte, Nat.reduceLT, Nat.beq_eq, Bool.or_eq_true, argEnvM, gOf, Nat.zero_add, Nat.le_refl, Nat.reduceAdd, Nat.reduceSub, Nat.reduceLeDiff, Nat.reduceMul, Nat.zero_mul, Nat.add_zero, Int.reduceToNat, reduceCtorEq, wrap_in, thenQ, blockQ, forall_eq, forall_eq_or_imp, fillRow_zero]; done) | (simp (disch := omega) only [go_sem, argEnv, envOf, obOf, Nat.reduceEqDiff, ↓reduceIte, Nat.reduceLT, Nat.beq_eq, Bool.or_eq_true, argEnvM, gOf, Nat.zero_add, Nat.le_refl, Nat.reduceAdd, Nat.reduceSub, Nat.reduceLeDiff, Nat.reduceMul, Nat.zero_mul, Nat.add_zero, Int.reduceToNat, reduceCtorEq, wrap_in, thenQ, blockQ, forall_eq, forall_eq_or_imp, fillRow_zero]; congr 1; done) | (simp (disch := omega) only [go_sem, argEnv, envOf, obOf, Nat.reduceEqDiff, ↓reduceIte, Nat.reduceLT, Nat.beq_eq, Bool.or_eq_true, argEnvM, gOf, Nat.zero_add, Nat.le_refl, Nat.reduceAdd, Nat.reduceSub, Nat.reduceLeDiff, Nat.reduceMul, Nat.zero_mul, Nat.add_zero, Int.reduceToNat, reduceCtorEq, wrap_in, thenQ, blockQ, forall_eq, forall_eq_or_imp, fillRow_zero, PV.d.injEq, PV.ref.injEq, D.sc.injEq, Value.int.injEq, Value.bool.injEq, Ob.row.injEq, true_and, and_true]; first | done | omega)), ?_⟩); done) (by (repeat' first | exact List.forall_mem_nil _ | refine List.forall_mem_cons.2 ⟨(by first | rfl | (simp (disch := omega) only [go_sem, argEnv, envOf, obOf, Nat.reduceEqDiff, ↓reduceIte, Nat.reduceLT, Nat.beq_eq, Bool.or_eq_true, argEnvM, gOf, Nat.zero_add, Nat.le_refl, Nat.reduceAdd, Nat.reduceSub, Nat.reduceLeDiff, Nat.reduceMul, Nat.zero_mul, Nat.add_zero, Int.reduceToNat, reduceCtorEq, wrap_in, thenQ, blockQ, forall_eq, forall_eq_or_imp, fillRow_zero]; done) | (simp (disch := omega) only [go_sem, argEnv, envOf, obOf, Nat.reduceEqDiff, ↓reduceIte, Nat.reduceLT, Nat.beq_eq, Bool.or_eq_true, argEnvM, gOf, Nat.zero_add, Nat.le_refl, Nat.reduceAdd, Nat.reduceSub, Nat.reduceLeDiff, Nat.reduceMul, Nat.zero_mul, Nat.add_zero, Int.reduceToNat, reduceCtorEq, wrap_in, thenQ, blockQ, forall_eq, forall_eq_or_imp, fillRow_zero]; congr 1; done) | (simp (disch := omega) only [go_sem, argEnv, envOf, obOf, Nat.reduceEqDiff, ↓reduceIte, Nat.reduceLT, Nat.beq_eq, Bool.or_eq_true, argEnvM, gOf, Nat.zero_add, Nat.le_refl, Nat.reduceAdd, Nat.reduceSub, Nat.reduceLeDiff, Nat.reduceMul, Nat.zero_mul, Nat.add_zero, Int.reduceToNat, reduceCtorEq, wrap_in, thenQ, blockQ, forall_eq, forall_eq_or_imp, fillRow_zero, PV.d.injEq, PV.ref.injEq, D.sc.injEq, Value.int.injEq, Value.bool.injEq, Ob.row.injEq, true_and, and_true]; first | done | omega)), ?_⟩); done) rfl rfl (nodup_of rfl) rfl (by (repeat' first | exact pd_of _ rfl | exact pd_dead | refine pd_upd rfl ?_ | refine pd_frz ?_); done)
  · intro k hk
    have hlen := fillRow_len (fun u => (u : Int)) n k
    rcases Nat.lt_or_ge k n with hlt | hge
    · have hg : (fillRow (fun u => (u : Int)) n k)[k]? = _ := fillRow_get hlt
      have hst := fillRow_step (g := fun u => (u : Int)) hlt
      repeat' first
        | refine pw_seq ?_
        | refine pw_skip ?_
        | refine pw_ret ?_
        | refine pw_exit ?_
        | refine pw_block ?_
        | refine pw_region (fun _ => false) hmix ?_
        | (refine wpG_split rfl rfl (fun hc => ?_) (fun hc => ?_) <;> try simp only [decide_eq_true_eq, decide_eq_false_iff_not, Bool.not_eq_true', Bool.not_eq_false', Bool.false_eq_true, Bool.true_eq_false, reduceCtorEq, Bool.and_eq_true, Bool.or_eq_true, not_and, not_or] at hc)
        | (refine pw_cond _ rfl rfl (fun hc => ?_) (fun hc => ?_) <;> (try simp only [decide_eq_true_eq, decide_eq_false_iff_not, Bool.not_eq_true', Bool.not_eq_false', Bool.false_eq_true, Bool.true_eq_false, reduceCtorEq, Bool.and_eq_true, Bool.or_eq_true, not_and, not_or] at hc) <;> try (exfalso; omega))
        | simp (maxSteps := 1000000) (disch := omega) only [go_sem, argEnv, envOf, obOf, Nat.reduceEqDiff, ↓reduceIte, Nat.reduceLT, Nat.beq_eq, Bool.or_eq_true, argEnvM, gOf, Nat.zero_add, Nat.le_refl, Nat.reduceAdd, Nat.reduceSub, Nat.reduceLeDiff, Nat.reduceMul, Nat.zero_mul, Nat.add_zero, Int.reduceToNat, reduceCtorEq, wrap_in, thenQ, blockQ, forall_eq, forall_eq_or_imp, hg, hlen]
        | apply And.intro
        | omega
        | decide +kernel
      refine ⟨k + 1, ?_, entL_ren [] _ _ (by (repeat' first | exact List.forall_mem_nil _ | refine List.forall_mem_cons.2 ⟨(by first | rfl | (simp (disch := omega) only [go_sem, argEnv, envOf, obOf, Nat.reduceEqDiff, ↓reduceIte, Nat.reduceLT, Nat.beq_eq, Bool.or_eq_true, argEnvM, gOf, Nat.zero_add, Nat.le_refl, Nat.reduceAdd, Nat.reduceSub, Nat.reduceLeDiff, Nat.reduceMul, Nat.zero_mul, Nat.add_zero, Int.reduceToNat, reduceCtorEq, wrap_in, thenQ, blockQ, forall_eq, forall_eq_or_imp, hst.symm, List.map_set]; done) | (simp (disch := omega) only [go_sem, argEnv, envOf, obOf, Nat.reduceEqDiff, ↓reduceIte, Nat.reduceLT, Nat.beq_eq, Bool.or_eq_true, argEnvM, gOf, Nat.zero_add, Nat.le_refl, Nat.reduceAdd, Nat.reduceSub, Nat.reduceLeDiff, Nat.reduceMul, Nat.zero_mul, Nat.add_zero, Int.reduceToNat, reduceCtorEq, wrap_in, thenQ, blockQ, forall_eq, forall_eq_or_imp, hst.symm, List.map_set]; congr 1; done) | (simp (disch := omega) only [go_sem, argEnv, envOf, obOf, Nat.reduceEqDiff, ↓reduceIte, Nat.reduceLT, Nat.beq_eq, Bool.or_eq_true, argEnvM, gOf, Nat.zero_add, Nat.le_refl, Nat.reduceAdd, Nat.reduceSub, Nat.reduceLeDiff, Nat.reduceMul, Nat.zero_mul, Nat.add_zero, Int.reduceToNat, reduceCtorEq, wrap_in, thenQ, blockQ, forall_eq, forall_eq_or_imp, hst.symm, List.map_set, PV.d.injEq, PV.ref.injEq, D.sc.injEq, Value.int.injEq, Value.bool.injEq, Ob.row.injEq, true_and, and_true]; first | done | omega)), ?_⟩); done) (by (repeat' first | exact List.forall_mem_nil _ | refine List.forall_mem_cons.2 ⟨(by first | rfl | (simp (disch := omega) only [go_sem, argEnv, envOf, obOf, Nat.reduceEqDiff, ↓reduceIte, Nat.reduceLT, Nat.beq_eq, Bool.or_eq_true, argEnvM, gOf, Nat.zero_add, Nat.le_refl, Nat.reduceAdd, Nat.reduceSub, Nat.reduceLeDiff, Nat.reduceMul, Nat.zero_mul, Nat.add_zero, Int.reduceToNat, reduceCtorEq, wrap_in, thenQ, blockQ, forall_eq, forall_eq_or_imp, hst.symm, List.map_set]; done) | (simp (disch := omega) only [go_sem, argEnv, envOf, obOf, Nat.reduceEqDiff, ↓reduceIte, Nat.reduceLT, Nat.beq_eq, Bool.or_eq_true, argEnvM, gOf, Nat.zero_add, Nat.le_refl, Nat.reduceAdd, Nat.reduceSub, Nat.reduceLeDiff, Nat.reduceMul, Nat.zero_mul, Nat.add_zero, Int.reduceToNat, reduceCtorEq, wrap_in, thenQ, blockQ, forall_eq, forall_eq_or_imp, hst.symm, List.map_set]; congr 1; done) | (simp (disch := omega) only [go_sem, argEnv, envOf, obOf, Nat.reduceEqDiff, ↓reduceIte, Nat.reduceLT, Nat.beq_eq, Bool.or_eq_true, argEnvM, gOf, Nat.zero_add, Nat.le_refl, Nat.reduceAdd, Nat.reduceSub, Nat.reduceLeDiff, Nat.reduceMul, Nat.zero_mul, Nat.add_zero, Int.reduceToNat, reduceCtorEq, wrap_in, thenQ, blockQ, forall_eq, forall_eq_or_imp, hst.symm, List.map_set, PV.d.injEq, PV.ref.injEq, D.sc.injEq, Value.int.injEq, Value.bool.injEq, Ob.row.injEq, true_and, and_true]; first | done | omega)), ?_⟩); done) rfl rfl (nodup_of rfl) rfl (by (repeat' first | exact pd_of _ rfl | exact pd_dead | refine pd_upd rfl ?_ | refine pd_frz ?_); done), ?_⟩
      · omega
      · omega
    · repeat' first
        | refine pw_seq ?_
        | refine pw_skip ?_
        | refine pw_exit ?_
        | refine pw_block ?_
        | refine pw_region (fun _ => false) hmix ?_
        | (refine wpG_split rfl rfl (fun hc => ?_) (fun hc => ?_) <;> try simp only [decide_eq_true_eq, decide_eq_false_iff_not, Bool.not_eq_true', Bool.not_eq_false', Bool.false_eq_true, Bool.true_eq_false, reduceCtorEq, Bool.and_eq_true, Bool.or_eq_true, not_and, not_or] at hc)
        | (refine pw_cond _ rfl rfl (fun hc => ?_) (fun hc => ?_) <;> (try simp only [decide_eq_true_eq, decide_eq_false_iff_not, Bool.not_eq_true', Bool.not_eq_false', Bool.false_eq_true, Bool.true_eq_false, reduceCtorEq, Bool.and_eq_true, Bool.or_eq_true, not_and, not_or] at hc) <;> try (exfalso; omega))
        | simp (maxSteps := 1000000) (disch := omega) only [go_sem, argEnv, envOf, obOf, Nat.reduceEqDiff, ↓reduceIte, Nat.reduceLT, Nat.beq_eq, Bool.or_eq_true, argEnvM, gOf, Nat.zero_add, Nat.le_refl, Nat.reduceAdd, Nat.reduceSub, Nat.reduceLeDiff, Nat.reduceMul, Nat.zero_mul, Nat.add_zero, Int.reduceToNat, reduceCtorEq, wrap_in, thenQ, blockQ, forall_eq, forall_eq_or_imp]
        | apply And.intro
        | omega
        | decide +kernel
      have : k = n := by omega
      subst this
      refine pw_ent _ (ent_ren [(2000, 10)] [(2, .ref 2000 1 0 _ _)] [(2000, .row 1 _)] (by (repeat' first | exact List.forall_mem_nil _ | refine List.forall_mem_cons.2 ⟨(by first | rfl | (simp (disch := omega) only [go_sem, argEnv, envOf, obOf, Nat.reduceEqDiff, ↓reduceIte, Nat.reduceLT, Nat.beq_eq, Bool.or_eq_true, argEnvM, gOf, Nat.zero_add, Nat.le_refl, Nat.reduceAdd, Nat.reduceSub, Nat.reduceLeDiff, Nat.reduceMul, Nat.zero_mul, Nat.add_zero, Int.reduceToNat, reduceCtorEq, wrap_in, thenQ, blockQ, forall_eq, forall_eq_or_imp]; done) | (simp (disch := omega) only [go_sem, argEnv, envOf, obOf, Nat.reduceEqDiff, ↓reduceIte, Nat.reduceLT, Nat.beq_eq, Bool.or_eq_true, argEnvM, gOf, Nat.zero_add, Nat.le_refl, Nat.reduceAdd, Nat.reduceSub, Nat.reduceLeDiff, Nat.reduceMul, Nat.zero_mul, Nat.add_zero, Int.reduceToNat, reduceCtorEq, wrap_in, thenQ, blockQ, forall_eq, forall_eq_or_imp]; congr 1; done) | (simp (disch := omega) only [go_sem, argEnv, envOf, obOf, Nat.reduceEqDiff, ↓reduceIte, Nat.reduceLT, Nat.beq_eq, Bool.or_eq_true, argEnvM, gOf, Nat.zero_add, Nat.le_refl, Nat.reduceAdd, Nat.reduceSub, Nat.reduceLeDiff, Nat.reduceMul, Nat.zero_mul, Nat.add_zero, Int.reduceToNat, reduceCtorEq, wrap_in, thenQ, blockQ, forall_eq, forall_eq_or_imp, PV.d.injEq, PV.ref.injEq, D.sc.injEq, Value.int.injEq, Value.bool.injEq, Ob.row.injEq, true_and, and_true]; first | done | omega)), ?_⟩); done) (by (repeat' first | exact List.forall_mem_nil _ | refine List.forall_mem_cons.2 ⟨(by first | rfl | (simp (disch := omega) only [go_sem, argEnv, envOf, obOf, Nat.reduceEqDiff, ↓reduceIte, Nat.reduceLT, Nat.beq_eq, Bool.or_eq_true, argEnvM, gOf, Nat.zero_add, Nat.le_refl, Nat.reduceAdd, Nat.reduceSub, Nat.reduceLeDiff, Nat.reduceMul, Nat.zero_mul, Nat.add_zero, Int.reduceToNat, reduceCtorEq, wrap_in, thenQ, blockQ, forall_eq, forall_eq_or_imp]; done) | (simp (disch := omega) only [go_sem, argEnv, envOf, obOf, Nat.reduceEqDiff, ↓reduceIte, Nat.reduceLT, Nat.beq_eq, Bool.or_eq_true, argEnvM, gOf, Nat.zero_add, Nat.le_refl, Nat.reduceAdd, Nat.reduceSub, Nat.reduceLeDiff, Nat.reduceMul, Nat.zero_mul, Nat.add_zero, Int.reduceToNat, reduceCtorEq, wrap_in, thenQ, blockQ, forall_eq, forall_eq_or_imp]; congr 1; done) | (simp (disch := omega) only [go_sem, argEnv, envOf, obOf, Nat.reduceEqDiff, ↓reduceIte, Nat.reduceLT, Nat.beq_eq, Bool.or_eq_true, argEnvM, gOf, Nat.zero_add, Nat.le_refl, Nat.reduceAdd, Nat.reduceSub, Nat.reduceLeDiff, Nat.reduceMul, Nat.zero_mul, Nat.add_zero, Int.reduceToNat, reduceCtorEq, wrap_in, thenQ, blockQ, forall_eq, forall_eq_or_imp, PV.d.injEq, PV.ref.injEq, D.sc.injEq, Value.int.injEq, Value.bool.injEq, Ob.row.injEq, true_and, and_true]; first | done | omega)), ?_⟩); done) rfl rfl (nodup_of rfl) rfl (by (repeat' first | exact pd_of _ rfl | exact pd_dead | refine pd_upd rfl ?_ | refine pd_frz ?_); done)) ?_
      refine pw_ret ?_
      exact ⟨rfl, List.forall_mem_cons.2 ⟨row_ob (by rw [fillRow_end]; rfl), List.forall_mem_nil _⟩⟩
/-- What bound j adds to the needs of vertex v. -/
def needAt (l : List Bd) (v : Int) (j : Nat) : Int := match l[j]? with
  | some b => (if b.2.1 = v then b.2.2.2 else 0) - (if b.1 = v then b.2.2.2 else 0)
  | none => 0
def needRow (l : List Bd) (n k : Nat) : List Int := (List.range n).map fun v : Nat => sumI (needAt l v) k
theorem needRow_len (l : List Bd) (n k : Nat) : (needRow l n k).length = n := by simp [needRow]
theorem needRow_zero (l : List Bd) (n : Nat) : (needRow l n 0).map D.int = List.replicate n (D.int 0) := by
  rw [List.eq_replicate_iff]
  refine ⟨by simp [needRow], fun b hb => ?_⟩
  simp only [needRow, List.map_map, List.mem_map] at hb
  obtain ⟨u, _, rfl⟩ := hb
  rfl
theorem needRow_get {l : List Bd} {n k u : Nat} (hu : u < n) : (needRow l n k)[u]? = some (sumI (needAt l u) k) := by simp [needRow, hu]
theorem need_step {l : List Bd} {n k i j : Nat} {b : Bd} (hb : l[k]? = some b) (hi : b.1 = i) (hj : b.2.1 = j) (hij : i ≠ j) (hin : i < n) (hjn : j < n) :
    needRow l n (k + 1) = ((needRow l n k).set j (sumI (needAt l j) k + b.2.2.2)).set i (sumI (needAt l i) k - b.2.2.2) := by
  refine List.ext_getElem? fun u => ?_
  by_cases hu : u < n
  · rw [needRow_get hu, sumI_succ, List.getElem?_set, List.getElem?_set, List.length_set, needRow_len, needRow_get hu]
    have e : needAt l u k = (if b.2.1 = (u : Int) then b.2.2.2 else 0) - (if b.1 = (u : Int) then b.2.2.2 else 0) := by simp [needAt, hb]
    rw [e, hi, hj]
    by_cases c1 : i = u
    · subst c1
      rw [if_neg (by omega), if_pos rfl, if_pos rfl, if_pos hu]; congr 1; omega
    · by_cases c2 : j = u
      · subst c2
        rw [if_pos rfl, if_neg (by omega), if_neg c1, if_pos rfl, if_pos hu]; congr 1; omega
      · rw [if_neg (by omega), if_neg (by omega), if_neg c1, if_neg c2]; congr 1; omega
  · rw [List.getElem?_eq_none (by rw [needRow_len]; omega), List.getElem?_eq_none (by rw [List.length_set, List.length_set, needRow_len]; omega)]
theorem need_bd {l : List Bd} {v : Int} {m : Nat} (hm : m ≤ l.length) (h4 : ∀ (k : Nat) b, l[k]? = some b → 0 ≤ b.2.2.2 ∧ b.2.2.2 ≤ 8000) :
    -(8000 * (m : Int)) ≤ sumI (needAt l v) m ∧ sumI (needAt l v) m ≤ 8000 * (m : Int) := by
  refine sumI_le (m := m) (fun k hk => ?_) m (Nat.le_refl _)
  obtain ⟨b, hb⟩ := get_some (show k < l.length by omega)
  have h5 := h4 k b hb
  simp only [needAt, hb]
  split <;> split <;> omega
set_option maxHeartbeats 1000000 in
theorem needs_spec (n : Nat) (l : List Bd) (f : List Int) (hg : nOk (n, l) = true) : CallsM Try.prog 30 [.d (pD n l f)] [(2000, .dead)] (.ref 2000 1 0 n n) [(2000, .row 1 ((needRow l n l.length).map D.int))] := by
  obtain ⟨h1, h2, h3, h4⟩ := nOk_in hg
  dsimp only at h1 h2 h3 h4
  refine callsM_of Try.func30 rfl (by decide +kernel) (Nat.le_of_ble_eq_true rfl) rfl (nodup_of rfl) rfl rfl rfl ?_
  intro B X w0
  repeat' first
    | refine pw_seq ?_
    | refine pw_skip ?_
    | refine pw_ret ?_
    | refine pw_exit ?_
    | refine pw_block ?_
    | refine pw_region (Nat.beq 11) hmix ?_
    | (refine wpG_split rfl rfl (fun hc => ?_) (fun hc => ?_) <;> try simp only [decide_eq_true_eq, decide_eq_false_iff_not, Bool.not_eq_true', Bool.not_eq_false', Bool.false_eq_true, Bool.true_eq_false, reduceCtorEq, Bool.and_eq_true, Bool.or_eq_true, not_and, not_or] at hc)
    | (refine pw_cond _ rfl rfl (fun hc => ?_) (fun hc => ?_) <;> (try simp only [decide_eq_true_eq, decide_eq_false_iff_not, Bool.not_eq_true', Bool.not_eq_false', Bool.false_eq_true, Bool.true_eq_false, reduceCtorEq, Bool.and_eq_true, Bool.or_eq_true, not_and, not_or] at hc) <;> try (exfalso; omega))
    | simp (maxSteps := 1000000) (disch := omega) only [go_sem, argEnv, envOf, obOf, Nat.reduceEqDiff, ↓reduceIte, Nat.reduceLT, Nat.beq_eq, Bool.or_eq_true, argEnvM, gOf, Nat.zero_add, Nat.le_refl, Nat.reduceAdd, Nat.reduceSub, Nat.reduceLeDiff, Nat.reduceMul, Nat.zero_mul, Nat.add_zero, Int.reduceToNat, reduceCtorEq, wrap_in, thenQ, blockQ, forall_eq, forall_eq_or_imp]
    | apply And.intro
    | omega
    | decide +kernel
  refine pw_loopI (κ := Nat) (fun (k : Nat) => k ≤ l.length) (fun (k : Nat) => [(3, .ref 11 1 0 n n), (16, .d (bdsD l)), (17, .int l.length), (18, .int k)]) (fun (k : Nat) => [(11, .row 1 ((needRow l n k).map D.int))]) (fun (k : Nat) => l.length - k) 0 ?_ ?_ ?_
  · exact Nat.zero_le _
  · exact entL_ren [] _ _ (by (repeat' first | exact List.forall_mem_nil _ | refine List.forall_mem_cons.2 ⟨(by first | rfl | (simp (disch := omega) only [go_sem, argEnv, envOf, obOf, Nat.reduceEqDiff, ↓reduceIte, Nat.reduceLT, Nat.beq_eq, Bool.or_eq_true, argEnvM, gOf, Nat.zero_add, Nat.le_refl, Nat.reduceAdd, Nat.reduceSub, Nat.reduceLeDiff, Nat.reduceMul, Nat.zero_mul, Nat.add_zero, Int.reduceToNat, reduceCtorEq, wrap_in, thenQ, blockQ, forall_eq, forall_eq_or_imp, needRow_zero]; done) | (simp (disch := omega) only [go_sem, argEnv, envOf, obOf, Nat.reduceEqDiff, ↓reduceIte, Nat.reduceLT, Nat.beq_eq, Bool.or_eq_true, argEnvM, gOf, Nat.zero_add, Nat.le_refl, Nat.reduceAdd, Nat.reduceSub, Nat.reduceLeDiff, Nat.reduceMul, Nat.zero_mul, Nat.add_zero, Int.reduceToNat, reduceCtorEq, wrap_in, thenQ, blockQ, forall_eq, forall_eq_or_imp, needRow_zero]; congr 1; done) | (simp (disch := omega) only [go_sem, argEnv, envOf, obOf, Nat.reduceEqDiff, ↓reduceIte, Nat.reduceLT, Nat.beq_eq, Bool.or_eq_true, argEnvM, gOf, Nat.zero_add, Nat.le_refl, Nat.reduceAdd, Nat.reduceSub, Nat.reduceLeDiff, Nat.reduceMul, Nat.zero_mul, Nat.add_zero, Int.reduceToNat, reduceCtorEq, wrap_in, thenQ, blockQ, forall_eq, forall_eq_or_imp, needRow_zero, PV.d.injEq, PV.ref.injEq, D.sc.injEq, Value.int.injEq, Value.bool.injEq, Ob.row.injEq, true_and, and_true]; first | done | omega)), ?_⟩); done) (by (repeat' first | exact List.forall_mem_nil _ | refine List.forall_mem_cons.2 ⟨(by first | rfl | (simp (disch := omega) only [go_sem, argEnv, envOf, obOf, Nat.reduceEqDiff, ↓reduceIte, Nat.reduceLT, Nat.beq_eq, Bool.or_eq_true, argEnvM, gOf, Nat.zero_add, Nat.le_refl, Nat.reduceAdd, Nat.reduceSub, Nat.reduceLeDiff, Nat.reduceMul, Nat.zero_mul, Nat.add_zero, Int.reduceToNat, reduceCtorEq, wrap_in, thenQ, blockQ, forall_eq, forall_eq_or_imp, needRow_zero]; done) | (simp (disch := omega) only [go_sem, argEnv, envOf, obOf, Nat.reduceEqDiff, ↓reduceIte, Nat.reduceLT, Nat.beq_eq, Bool.or_eq_true, argEnvM, gOf, Nat.zero_add, Nat.le_refl, Nat.reduceAdd, Nat.reduceSub, Nat.reduceLeDiff, Nat.reduceMul, Nat.zero_mul, Nat.add_zero, Int.reduceToNat, reduceCtorEq, wrap_in, thenQ, blockQ, forall_eq, forall_eq_or_imp, needRow_zero]; congr 1; done) | (simp (disch := omega) only [go_sem, argEnv, envOf, obOf, Nat.reduceEqDiff, ↓reduceIte, Nat.reduceLT, Nat.beq_eq, Bool.or_eq_true, argEnvM, gOf, Nat.zero_add, Nat.le_refl, Nat.reduceAdd, Nat.reduceSub, Nat.reduceLeDiff, Nat.reduceMul, Nat.zero_mul, Nat.add_zero, Int.reduceToNat, reduceCtorEq, wrap_in, thenQ, blockQ, forall_eq, forall_eq_or_imp, needRow_zero, PV.d.injEq, PV.ref.injEq, D.sc.injEq, Value.int.injEq, Value.bool.injEq, Ob.row.injEq, true_and, and_true]; first | done | omega)), ?_⟩); done) rfl rfl (nodup_of rfl) rfl (by (repeat' first | exact pd_of _ rfl | exact pd_dead | refine pd_upd rfl ?_ | refine pd_frz ?_); done)
  · intro k hk
    have hbl := needRow_len l n k
    rcases Nat.lt_or_ge k l.length with hlt | hge
    · obtain ⟨b, hb⟩ := get_some hlt
      have hbi := h4 k b hb
      obtain ⟨i, hi⟩ : ∃ i : Nat, b.1 = i := ⟨b.1.toNat, by omega⟩
      obtain ⟨j, hj⟩ : ∃ j : Nat, b.2.1 = j := ⟨b.2.1.toNat, by omega⟩
      have gi : (needRow l n k)[i]? = _ := needRow_get (by omega)
      have gj : (needRow l n k)[j]? = _ := needRow_get (by omega)
      have bi := need_bd (v := i) (show k ≤ l.length by omega) (fun k b hb => by have := h4 k b hb; omega)
      have bj := need_bd (v := j) (show k ≤ l.length by omega) (fun k b hb => by have := h4 k b hb; omega)
      have hst := need_step (n := n) hb hi hj (by omega) (by omega) (by omega)
      have hij : j ≠ i := by omega
      have gs : ((List.map D.int (needRow l n k)).set j (D.sc (.int .i64 (sumI (needAt l j) k + b.2.2.2))))[i]? = some (D.int (sumI (needAt l i) k)) := by
        rw [List.getElem?_set_ne hij, List.getElem?_map, gi]; rfl
      repeat' first
        | refine pw_seq ?_
        | refine pw_skip ?_
        | refine pw_ret ?_
        | refine pw_exit ?_
        | refine pw_block ?_
        | refine pw_region (fun _ => false) hmix ?_
        | (refine wpG_split rfl rfl (fun hc => ?_) (fun hc => ?_) <;> try simp only [decide_eq_true_eq, decide_eq_false_iff_not, Bool.not_eq_true', Bool.not_eq_false', Bool.false_eq_true, Bool.true_eq_false, reduceCtorEq, Bool.and_eq_true, Bool.or_eq_true, not_and, not_or] at hc)
        | (refine pw_cond _ rfl rfl (fun hc => ?_) (fun hc => ?_) <;> (try simp only [decide_eq_true_eq, decide_eq_false_iff_not, Bool.not_eq_true', Bool.not_eq_false', Bool.false_eq_true, Bool.true_eq_false, reduceCtorEq, Bool.and_eq_true, Bool.or_eq_true, not_and, not_or] at hc) <;> try (exfalso; omega))
        | simp (maxSteps := 1000000) (disch := omega) only [go_sem, argEnv, envOf, obOf, Nat.reduceEqDiff, ↓reduceIte, Nat.reduceLT, Nat.beq_eq, Bool.or_eq_true, argEnvM, gOf, Nat.zero_add, Nat.le_refl, Nat.reduceAdd, Nat.reduceSub, Nat.reduceLeDiff, Nat.reduceMul, Nat.zero_mul, Nat.add_zero, Int.reduceToNat, reduceCtorEq, wrap_in, thenQ, blockQ, forall_eq, forall_eq_or_imp, hb, hi, hj, gi, gj, gs, hbl, List.length_set]
        | apply And.intro
        | omega
        | decide +kernel
      refine ⟨k + 1, ?_, entL_ren [] _ _ (by (repeat' first | exact List.forall_mem_nil _ | refine List.forall_mem_cons.2 ⟨(by first | rfl | (simp (disch := omega) only [go_sem, argEnv, envOf, obOf, Nat.reduceEqDiff, ↓reduceIte, Nat.reduceLT, Nat.beq_eq, Bool.or_eq_true, argEnvM, gOf, Nat.zero_add, Nat.le_refl, Nat.reduceAdd, Nat.reduceSub, Nat.reduceLeDiff, Nat.reduceMul, Nat.zero_mul, Nat.add_zero, Int.reduceToNat, reduceCtorEq, wrap_in, thenQ, blockQ, forall_eq, forall_eq_or_imp, hst, List.map_set]; done) | (simp (disch := omega) only [go_sem, argEnv, envOf, obOf, Nat.reduceEqDiff, ↓reduceIte, Nat.reduceLT, Nat.beq_eq, Bool.or_eq_true, argEnvM, gOf, Nat.zero_add, Nat.le_refl, Nat.reduceAdd, Nat.reduceSub, Nat.reduceLeDiff, Nat.reduceMul, Nat.zero_mul, Nat.add_zero, Int.reduceToNat, reduceCtorEq, wrap_in, thenQ, blockQ, forall_eq, forall_eq_or_imp, hst, List.map_set]; congr 1; done) | (simp (disch := omega) only [go_sem, argEnv, envOf, obOf, Nat.reduceEqDiff, ↓reduceIte, Nat.reduceLT, Nat.beq_eq, Bool.or_eq_true, argEnvM, gOf, Nat.zero_add, Nat.le_refl, Nat.reduceAdd, Nat.reduceSub, Nat.reduceLeDiff, Nat.reduceMul, Nat.zero_mul, Nat.add_zero, Int.reduceToNat, reduceCtorEq, wrap_in, thenQ, blockQ, forall_eq, forall_eq_or_imp, hst, List.map_set, PV.d.injEq, PV.ref.injEq, D.sc.injEq, Value.int.injEq, Value.bool.injEq, Ob.row.injEq, true_and, and_true]; first | done | omega)), ?_⟩); done) (by (repeat' first | exact List.forall_mem_nil _ | refine List.forall_mem_cons.2 ⟨(by first | rfl | (simp (disch := omega) only [go_sem, argEnv, envOf, obOf, Nat.reduceEqDiff, ↓reduceIte, Nat.reduceLT, Nat.beq_eq, Bool.or_eq_true, argEnvM, gOf, Nat.zero_add, Nat.le_refl, Nat.reduceAdd, Nat.reduceSub, Nat.reduceLeDiff, Nat.reduceMul, Nat.zero_mul, Nat.add_zero, Int.reduceToNat, reduceCtorEq, wrap_in, thenQ, blockQ, forall_eq, forall_eq_or_imp, hst, List.map_set]; done) | (simp (disch := omega) only [go_sem, argEnv, envOf, obOf, Nat.reduceEqDiff, ↓reduceIte, Nat.reduceLT, Nat.beq_eq, Bool.or_eq_true, argEnvM, gOf, Nat.zero_add, Nat.le_refl, Nat.reduceAdd, Nat.reduceSub, Nat.reduceLeDiff, Nat.reduceMul, Nat.zero_mul, Nat.add_zero, Int.reduceToNat, reduceCtorEq, wrap_in, thenQ, blockQ, forall_eq, forall_eq_or_imp, hst, List.map_set]; congr 1; done) | (simp (disch := omega) only [go_sem, argEnv, envOf, obOf, Nat.reduceEqDiff, ↓reduceIte, Nat.reduceLT, Nat.beq_eq, Bool.or_eq_true, argEnvM, gOf, Nat.zero_add, Nat.le_refl, Nat.reduceAdd, Nat.reduceSub, Nat.reduceLeDiff, Nat.reduceMul, Nat.zero_mul, Nat.add_zero, Int.reduceToNat, reduceCtorEq, wrap_in, thenQ, blockQ, forall_eq, forall_eq_or_imp, hst, List.map_set, PV.d.injEq, PV.ref.injEq, D.sc.injEq, Value.int.injEq, Value.bool.injEq, Ob.row.injEq, true_and, and_true]; first | done | omega)), ?_⟩); done) rfl rfl (nodup_of rfl) rfl (by (repeat' first | exact pd_of _ rfl | exact pd_dead | refine pd_upd rfl ?_ | refine pd_frz ?_); done), ?_⟩
      · omega
      · omega
    · repeat' first
        | refine pw_seq ?_
        | refine pw_skip ?_
        | refine pw_exit ?_
        | refine pw_block ?_
        | refine pw_region (fun _ => false) hmix ?_
        | (refine wpG_split rfl rfl (fun hc => ?_) (fun hc => ?_) <;> try simp only [decide_eq_true_eq, decide_eq_false_iff_not, Bool.not_eq_true', Bool.not_eq_false', Bool.false_eq_true, Bool.true_eq_false, reduceCtorEq, Bool.and_eq_true, Bool.or_eq_true, not_and, not_or] at hc)
        | (refine pw_cond _ rfl rfl (fun hc => ?_) (fun hc => ?_) <;> (try simp only [decide_eq_true_eq, decide_eq_false_iff_not, Bool.not_eq_true', Bool.not_eq_false', Bool.false_eq_true, Bool.true_eq_false, reduceCtorEq, Bool.and_eq_true, Bool.or_eq_true, not_and, not_or] at hc) <;> try (exfalso; omega))
        | simp (maxSteps := 1000000) (disch := omega) only [go_sem, argEnv, envOf, obOf, Nat.reduceEqDiff, ↓reduceIte, Nat.reduceLT, Nat.beq_eq, Bool.or_eq_true, argEnvM, gOf, Nat.zero_add, Nat.le_refl, Nat.reduceAdd, Nat.reduceSub, Nat.reduceLeDiff, Nat.reduceMul, Nat.zero_mul, Nat.add_zero, Int.reduceToNat, reduceCtorEq, wrap_in, thenQ, blockQ, forall_eq, forall_eq_or_imp]
        | apply And.intro
        | omega
        | decide +kernel
      have : k = l.length := by omega
      subst this
      refine pw_ent _ (ent_ren [(2000, 11)] [(2, .ref 2000 1 0 _ _)] [(2000, .row 1 _)] (by (repeat' first | exact List.forall_mem_nil _ | refine List.forall_mem_cons.2 ⟨(by first | rfl | (simp (disch := omega) only [go_sem, argEnv, envOf, obOf, Nat.reduceEqDiff, ↓reduceIte, Nat.reduceLT, Nat.beq_eq, Bool.or_eq_true, argEnvM, gOf, Nat.zero_add, Nat.le_refl, Nat.reduceAdd, Nat.reduceSub, Nat.reduceLeDiff, Nat.reduceMul, Nat.zero_mul, Nat.add_zero, Int.reduceToNat, reduceCtorEq, wrap_in, thenQ, blockQ, forall_eq, forall_eq_or_imp]; done) | (simp (disch := omega) only [go_sem, argEnv, envOf, obOf, Nat.reduceEqDiff, ↓reduceIte, Nat.reduceLT, Nat.beq_eq, Bool.or_eq_true, argEnvM, gOf, Nat.zero_add, Nat.le_refl, Nat.reduceAdd, Nat.reduceSub, Nat.reduceLeDiff, Nat.reduceMul, Nat.zero_mul, Nat.add_zero, Int.reduceToNat, reduceCtorEq, wrap_in, thenQ, blockQ, forall_eq, forall_eq_or_imp]; congr 1; done) | (simp (disch := omega) only [go_sem, argEnv, envOf, obOf, Nat.reduceEqDiff, ↓reduceIte, Nat.reduceLT, Nat.beq_eq, Bool.or_eq_true, argEnvM, gOf, Nat.zero_add, Nat.le_refl, Nat.reduceAdd, Nat.reduceSub, Nat.reduceLeDiff, Nat.reduceMul, Nat.zero_mul, Nat.add_zero, Int.reduceToNat, reduceCtorEq, wrap_in, thenQ, blockQ, forall_eq, forall_eq_or_imp, PV.d.injEq, PV.ref.injEq, D.sc.injEq, Value.int.injEq, Value.bool.injEq, Ob.row.injEq, true_and, and_true]; first | done | omega)), ?_⟩); done) (by (repeat' first | exact List.forall_mem_nil _ | refine List.forall_mem_cons.2 ⟨(by first | rfl | (simp (disch := omega) only [go_sem, argEnv, envOf, obOf, Nat.reduceEqDiff, ↓reduceIte, Nat.reduceLT, Nat.beq_eq, Bool.or_eq_true, argEnvM, gOf, Nat.zero_add, Nat.le_refl, Nat.reduceAdd, Nat.reduceSub, Nat.reduceLeDiff, Nat.reduceMul, Nat.zero_mul, Nat.add_zero, Int.reduceToNat, reduceCtorEq, wrap_in, thenQ, blockQ, forall_eq, forall_eq_or_imp]; done) | (simp (disch := omega) only [go_sem, argEnv, envOf, obOf, Nat.reduceEqDiff, ↓reduceIte, Nat.reduceLT, Nat.beq_eq, Bool.or_eq_true, argEnvM, gOf, Nat.zero_add, Nat.le_refl, Nat.reduceAdd, Nat.reduceSub, Nat.reduceLeDiff, Nat.reduceMul, Nat.zero_mul, Nat.add_zero, Int.reduceToNat, reduceCtorEq, wrap_in, thenQ, blockQ, forall_eq, forall_eq_or_imp]; congr 1; done) | (simp (disch := omega) only [go_sem, argEnv, envOf, obOf, Nat.reduceEqDiff, ↓reduceIte, Nat.reduceLT, Nat.beq_eq, Bool.or_eq_true, argEnvM, gOf, Nat.zero_add, Nat.le_refl, Nat.reduceAdd, Nat.reduceSub, Nat.reduceLeDiff, Nat.reduceMul, Nat.zero_mul, Nat.add_zero, Int.reduceToNat, reduceCtorEq, wrap_in, thenQ, blockQ, forall_eq, forall_eq_or_imp, PV.d.injEq, PV.ref.injEq, D.sc.injEq, Value.int.injEq, Value.bool.injEq, Ob.row.injEq, true_and, and_true]; first | done | omega)), ?_⟩); done) rfl rfl (nodup_of rfl) rfl (by (repeat' first | exact pd_of _ rfl | exact pd_dead | refine pd_upd rfl ?_ | refine pd_frz ?_); done)) ?_
      refine pw_ret ?_
      exact ⟨rfl, List.forall_mem_cons.2 ⟨rfl, List.forall_mem_nil _⟩⟩
end Go.Proofs.Ytcbcccphlhpajaa
