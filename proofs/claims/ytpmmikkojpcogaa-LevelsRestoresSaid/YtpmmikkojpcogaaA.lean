/- Contracts of small functions on digraphs. -/
import Derived.Test.YtpmmikkojpcogaaTypes
namespace Go.Proofs.Ytpmmikkojpcogaa
open Go Go.PS Go.Proofs
set_option maxRecDepth 100000
set_option linter.unusedSimpArgs false
set_option linter.unusedVariables false
attribute [local irreducible] wpRun wpG CallsTo

abbrev Arc := Int × Int
abbrev arcD (a : Arc) : D := .ag [.int a.1, .int a.2]
theorem arcEq (p q : Arc) : (decide (p.1 = q.1) && decide (p.2 = q.2)) = decide (p = q) := by
  rw [Bool.eq_iff_iff]; simp [Prod.ext_iff]
abbrev arcsD (l : List Arc) : D := .sl (l.map arcD)
abbrev intsD (l : List Int) : D := .sl (l.map D.int)
abbrev Gr := Int × List Arc
abbrev gD (g : Gr) : D := .ag [.int g.1, arcsD g.2]
def arcIn (n : Int) (a : Arc) : Bool := decide (0 ≤ a.1 ∧ a.1 < n ∧ 0 ≤ a.2 ∧ a.2 < n)
def gOk (g : Gr) : Bool := decide (0 ≤ g.1 ∧ g.1 ≤ 64 ∧ g.2.length ≤ 256) && !g.2.any (fun a => !arcIn g.1 a)
theorem gOk_in {g : Gr} (h : gOk g = true) : 0 ≤ g.1 ∧ g.1 ≤ 64 ∧ g.2.length ≤ 256 ∧ ∀ (k : Nat) a, g.2[k]? = some a → 0 ≤ a.1 ∧ a.1 < g.1 ∧ 0 ≤ a.2 ∧ a.2 < g.1 := by
  simp only [gOk, Bool.and_eq_true, decide_eq_true_eq, Bool.not_eq_true', List.any_eq_false] at h
  obtain ⟨⟨h1, h2, h3⟩, h4⟩ := h
  refine ⟨h1, h2, h3, fun k a hk => ?_⟩
  have := h4 a (List.mem_of_getElem? hk)
  simpa [arcIn] using this

set_option maxHeartbeats 1000000 in
theorem Valid_spec (g : Gr) : CallsTo Try.prog 43 [gD g] (.bool (gOk g)) := by
  obtain ⟨n, l⟩ := g
  refine callsTo_of Try.func43 rfl (by decide +kernel) (Nat.le_of_ble_eq_true rfl) ?_
  intro hat B X w0
  have hl := at_len2 0 1 hat rfl rfl
  rw [List.length_map] at hl
  repeat' first
    | refine pw_seq ?_
    | refine pw_skip ?_
    | refine pw_ret ?_
    | refine pw_exit ?_
    | refine pw_block ?_
    | refine pw_region (fun _ => false) hmix ?_
    | (refine wpG_split rfl rfl (fun hc => ?_) (fun hc => ?_) <;> try simp only [decide_eq_true_eq, decide_eq_false_iff_not, Bool.not_eq_true', Bool.not_eq_false', Bool.false_eq_true, Bool.true_eq_false, reduceCtorEq, Bool.and_eq_true, Bool.or_eq_true, not_and, not_or] at hc)
    | (refine pw_cond _ rfl rfl (fun hc => ?_) (fun hc => ?_) <;> (try simp only [decide_eq_true_eq, decide_eq_false_iff_not, Bool.not_eq_true', Bool.not_eq_false', Bool.false_eq_true, Bool.true_eq_false, reduceCtorEq, Bool.and_eq_true, Bool.or_eq_true, not_and, not_or] at hc) <;> try (exfalso; omega))
    | simp (maxSteps := 1000000) (disch := omega) only [go_sem, Nat.reduceEqDiff, ↓reduceIte, Nat.reduceLT, Nat.reduceAdd, Nat.reduceSub, Nat.reduceLeDiff, Nat.reduceMul, Int.reduceToNat, reduceCtorEq]
    | apply And.intro
    | omega
    | decide +kernel
  all_goals try (refine bool_some ?_; simp [gOk]; omega)
  refine pw_loopI (κ := Nat) (fun (k : Nat) => k ≤ l.length ∧ ∀ (j : Nat) y, j < k → l[j]? = some y → (!arcIn n y) = false) (fun (k : Nat) => [(1, .ptr 1 0 0 0), (20, .d (arcsD l)), (21, .int l.length), (22, .int k)]) (fun (k : Nat) => [(1, .cells [.int n, .d (arcsD l)])]) (fun (k : Nat) => l.length - k) 0 ?_ ?_ ?_
  · exact ⟨Nat.zero_le _, fun j y h => by omega⟩
  · exact entL_ren [] _ _ (by (repeat' first | exact List.forall_mem_nil _ | refine List.forall_mem_cons.2 ⟨(by first | rfl | (simp (disch := omega) only [go_sem, Nat.reduceEqDiff, ↓reduceIte, Nat.reduceLT, Nat.reduceAdd, Nat.reduceSub, Nat.reduceLeDiff, Nat.reduceMul, Int.reduceToNat, reduceCtorEq, PV.d.injEq, PV.ref.injEq, D.sc.injEq, Value.int.injEq, Value.bool.injEq, Ob.row.injEq, true_and, and_true]; first | done | omega | (congr 1; done))), ?_⟩); done) (by (repeat' first | exact List.forall_mem_nil _ | refine List.forall_mem_cons.2 ⟨(by first | rfl | (simp (disch := omega) only [go_sem, Nat.reduceEqDiff, ↓reduceIte, Nat.reduceLT, Nat.reduceAdd, Nat.reduceSub, Nat.reduceLeDiff, Nat.reduceMul, Int.reduceToNat, reduceCtorEq, PV.d.injEq, PV.ref.injEq, D.sc.injEq, Value.int.injEq, Value.bool.injEq, Ob.row.injEq, true_and, and_true]; first | done | omega | (congr 1; done))), ?_⟩); done) rfl rfl (nodup_of rfl) rfl (by (repeat' first | exact pd_of _ rfl | exact pd_dead | refine pd_upd rfl ?_ | refine pd_frz ?_); done)
  · rintro k ⟨hk, hinv⟩
    rcases Nat.lt_or_ge k l.length with hlt | hge
    · obtain ⟨p, hp⟩ := get_some hlt
      repeat' first
        | refine pw_seq ?_
        | refine pw_skip ?_
        | refine pw_ret ?_
        | refine pw_exit ?_
        | refine pw_block ?_
        | refine pw_region (fun _ => false) hmix ?_
        | (refine wpG_split rfl rfl (fun hc => ?_) (fun hc => ?_) <;> try simp only [decide_eq_true_eq, decide_eq_false_iff_not, Bool.not_eq_true', Bool.not_eq_false', Bool.false_eq_true, Bool.true_eq_false, reduceCtorEq, Bool.and_eq_true, Bool.or_eq_true, not_and, not_or] at hc)
        | (refine pw_cond _ rfl rfl (fun hc => ?_) (fun hc => ?_) <;> (try simp only [decide_eq_true_eq, decide_eq_false_iff_not, Bool.not_eq_true', Bool.not_eq_false', Bool.false_eq_true, Bool.true_eq_false, reduceCtorEq, Bool.and_eq_true, Bool.or_eq_true, not_and, not_or] at hc) <;> try (exfalso; omega))
        | simp (maxSteps := 1000000) (disch := omega) only [go_sem, Nat.reduceEqDiff, ↓reduceIte, Nat.reduceLT, Nat.reduceAdd, Nat.reduceSub, Nat.reduceLeDiff, Nat.reduceMul, Int.reduceToNat, reduceCtorEq, hp]
        | apply And.intro
        | omega
        | decide +kernel
      all_goals try
        refine bool_some ?_
        rw [gOk, any_at hp (by simp [arcIn]; omega)]; simp
      · refine ⟨k + 1, ?_, entL_ren [] _ _ (by (repeat' first | exact List.forall_mem_nil _ | refine List.forall_mem_cons.2 ⟨(by first | rfl | (simp (disch := omega) only [go_sem, Nat.reduceEqDiff, ↓reduceIte, Nat.reduceLT, Nat.reduceAdd, Nat.reduceSub, Nat.reduceLeDiff, Nat.reduceMul, Int.reduceToNat, reduceCtorEq, PV.d.injEq, PV.ref.injEq, D.sc.injEq, Value.int.injEq, Value.bool.injEq, Ob.row.injEq, true_and, and_true]; first | done | omega | (congr 1; done))), ?_⟩); done) (by (repeat' first | exact List.forall_mem_nil _ | refine List.forall_mem_cons.2 ⟨(by first | rfl | (simp (disch := omega) only [go_sem, Nat.reduceEqDiff, ↓reduceIte, Nat.reduceLT, Nat.reduceAdd, Nat.reduceSub, Nat.reduceLeDiff, Nat.reduceMul, Int.reduceToNat, reduceCtorEq, PV.d.injEq, PV.ref.injEq, D.sc.injEq, Value.int.injEq, Value.bool.injEq, Ob.row.injEq, true_and, and_true]; first | done | omega | (congr 1; done))), ?_⟩); done) rfl rfl (nodup_of rfl) rfl (by (repeat' first | exact pd_of _ rfl | exact pd_dead | refine pd_upd rfl ?_ | refine pd_frz ?_); done), ?_⟩
        · exact ⟨by omega, upto_succ hinv hp (by simp [arcIn]; omega)⟩
        · omega
    · repeat' first
        | refine pw_seq ?_
        | refine pw_skip ?_
        | refine pw_ret ?_
        | refine pw_exit ?_
        | refine pw_block ?_
        | refine pw_region (fun _ => false) hmix ?_
        | (refine wpG_split rfl rfl (fun hc => ?_) (fun hc => ?_) <;> try simp only [decide_eq_true_eq, decide_eq_false_iff_not, Bool.not_eq_true', Bool.not_eq_false', Bool.false_eq_true, Bool.true_eq_false, reduceCtorEq, Bool.and_eq_true, Bool.or_eq_true, not_and, not_or] at hc)
        | (refine pw_cond _ rfl rfl (fun hc => ?_) (fun hc => ?_) <;> (try simp only [decide_eq_true_eq, decide_eq_false_iff_not, Bool.not_eq_true', Bool.not_eq_false', Bool.false_eq_true, Bool.true_eq_false, reduceCtorEq, Bool.and_eq_true, Bool.or_eq_true, not_and, not_or] at hc) <;> try (exfalso; omega))
        | simp (maxSteps := 1000000) (disch := omega) only [go_sem, Nat.reduceEqDiff, ↓reduceIte, Nat.reduceLT, Nat.reduceAdd, Nat.reduceSub, Nat.reduceLeDiff, Nat.reduceMul, Int.reduceToNat, reduceCtorEq]
        | apply And.intro
        | omega
        | decide +kernel
      refine bool_some ?_
      rw [gOk, any_no (fun j y hj => hinv j y (by omega))]
      simp; omega
set_option maxHeartbeats 1000000 in
theorem rValid_spec (g : Gr) : CallsTo Try.prog 49 [gD g] (.bool (gOk g)) := by
  obtain ⟨n, l⟩ := g
  refine callsTo_of Try.func49 rfl (by decide +kernel) (Nat.le_of_ble_eq_true rfl) ?_
  intro hat B X w0
  have hl := at_len2 0 1 hat rfl rfl
  rw [List.length_map] at hl
  repeat' first
    | refine pw_seq ?_
    | refine pw_skip ?_
    | refine pw_ret ?_
    | refine pw_exit ?_
    | refine pw_block ?_
    | refine pw_region (fun _ => false) hmix ?_
    | (refine wpG_split rfl rfl (fun hc => ?_) (fun hc => ?_) <;> try simp only [decide_eq_true_eq, decide_eq_false_iff_not, Bool.not_eq_true', Bool.not_eq_false', Bool.false_eq_true, Bool.true_eq_false, reduceCtorEq, Bool.and_eq_true, Bool.or_eq_true, not_and, not_or] at hc)
    | (refine pw_cond _ rfl rfl (fun hc => ?_) (fun hc => ?_) <;> (try simp only [decide_eq_true_eq, decide_eq_false_iff_not, Bool.not_eq_true', Bool.not_eq_false', Bool.false_eq_true, Bool.true_eq_false, reduceCtorEq, Bool.and_eq_true, Bool.or_eq_true, not_and, not_or] at hc) <;> try (exfalso; omega))
    | simp (maxSteps := 1000000) (disch := omega) only [go_sem, Nat.reduceEqDiff, ↓reduceIte, Nat.reduceLT, Nat.reduceAdd, Nat.reduceSub, Nat.reduceLeDiff, Nat.reduceMul, Int.reduceToNat, reduceCtorEq]
    | apply And.intro
    | omega
    | decide +kernel
  all_goals try (refine bool_some ?_; simp [gOk]; omega)
  refine pw_loopI (κ := Nat) (fun (k : Nat) => k ≤ l.length ∧ ∀ (j : Nat) y, j < k → l[j]? = some y → (!arcIn n y) = false) (fun (k : Nat) => [(1, .ptr 1 0 0 0), (3, .int k)]) (fun (k : Nat) => [(1, .cells [.int n, .d (arcsD l)])]) (fun (k : Nat) => l.length - k) 0 ?_ ?_ ?_
  · exact ⟨Nat.zero_le _, fun j y h => by omega⟩
  · exact entL_ren [] _ _ (by (repeat' first | exact List.forall_mem_nil _ | refine List.forall_mem_cons.2 ⟨(by first | rfl | (simp (disch := omega) only [go_sem, Nat.reduceEqDiff, ↓reduceIte, Nat.reduceLT, Nat.reduceAdd, Nat.reduceSub, Nat.reduceLeDiff, Nat.reduceMul, Int.reduceToNat, reduceCtorEq, PV.d.injEq, PV.ref.injEq, D.sc.injEq, Value.int.injEq, Value.bool.injEq, Ob.row.injEq, true_and, and_true]; first | done | omega | (congr 1; done))), ?_⟩); done) (by (repeat' first | exact List.forall_mem_nil _ | refine List.forall_mem_cons.2 ⟨(by first | rfl | (simp (disch := omega) only [go_sem, Nat.reduceEqDiff, ↓reduceIte, Nat.reduceLT, Nat.reduceAdd, Nat.reduceSub, Nat.reduceLeDiff, Nat.reduceMul, Int.reduceToNat, reduceCtorEq, PV.d.injEq, PV.ref.injEq, D.sc.injEq, Value.int.injEq, Value.bool.injEq, Ob.row.injEq, true_and, and_true]; first | done | omega | (congr 1; done))), ?_⟩); done) rfl rfl (nodup_of rfl) rfl (by (repeat' first | exact pd_of _ rfl | exact pd_dead | refine pd_upd rfl ?_ | refine pd_frz ?_); done)
  · rintro k ⟨hk, hinv⟩
    rcases Nat.lt_or_ge k l.length with hlt | hge
    · obtain ⟨p, hp⟩ := get_some hlt
      repeat' first
        | refine pw_seq ?_
        | refine pw_skip ?_
        | refine pw_ret ?_
        | refine pw_exit ?_
        | refine pw_block ?_
        | refine pw_region (fun _ => false) hmix ?_
        | (refine wpG_split rfl rfl (fun hc => ?_) (fun hc => ?_) <;> try simp only [decide_eq_true_eq, decide_eq_false_iff_not, Bool.not_eq_true', Bool.not_eq_false', Bool.false_eq_true, Bool.true_eq_false, reduceCtorEq, Bool.and_eq_true, Bool.or_eq_true, not_and, not_or] at hc)
        | (refine pw_cond _ rfl rfl (fun hc => ?_) (fun hc => ?_) <;> (try simp only [decide_eq_true_eq, decide_eq_false_iff_not, Bool.not_eq_true', Bool.not_eq_false', Bool.false_eq_true, Bool.true_eq_false, reduceCtorEq, Bool.and_eq_true, Bool.or_eq_true, not_and, not_or] at hc) <;> try (exfalso; omega))
        | simp (maxSteps := 1000000) (disch := omega) only [go_sem, Nat.reduceEqDiff, ↓reduceIte, Nat.reduceLT, Nat.reduceAdd, Nat.reduceSub, Nat.reduceLeDiff, Nat.reduceMul, Int.reduceToNat, reduceCtorEq, hp]
        | apply And.intro
        | omega
        | decide +kernel
      all_goals try
        refine bool_some ?_
        rw [gOk, any_at hp (by simp [arcIn]; omega)]; simp
      · refine ⟨k + 1, ?_, entL_ren [] _ _ (by (repeat' first | exact List.forall_mem_nil _ | refine List.forall_mem_cons.2 ⟨(by first | rfl | (simp (disch := omega) only [go_sem, Nat.reduceEqDiff, ↓reduceIte, Nat.reduceLT, Nat.reduceAdd, Nat.reduceSub, Nat.reduceLeDiff, Nat.reduceMul, Int.reduceToNat, reduceCtorEq, PV.d.injEq, PV.ref.injEq, D.sc.injEq, Value.int.injEq, Value.bool.injEq, Ob.row.injEq, true_and, and_true]; first | done | omega | (congr 1; done))), ?_⟩); done) (by (repeat' first | exact List.forall_mem_nil _ | refine List.forall_mem_cons.2 ⟨(by first | rfl | (simp (disch := omega) only [go_sem, Nat.reduceEqDiff, ↓reduceIte, Nat.reduceLT, Nat.reduceAdd, Nat.reduceSub, Nat.reduceLeDiff, Nat.reduceMul, Int.reduceToNat, reduceCtorEq, PV.d.injEq, PV.ref.injEq, D.sc.injEq, Value.int.injEq, Value.bool.injEq, Ob.row.injEq, true_and, and_true]; first | done | omega | (congr 1; done))), ?_⟩); done) rfl rfl (nodup_of rfl) rfl (by (repeat' first | exact pd_of _ rfl | exact pd_dead | refine pd_upd rfl ?_ | refine pd_frz ?_); done), ?_⟩
        · exact ⟨by omega, upto_succ hinv hp (by simp [arcIn]; omega)⟩
        · omega
    · repeat' first
        | refine pw_seq ?_
        | refine pw_skip ?_
        | refine pw_ret ?_
        | refine pw_exit ?_
        | refine pw_block ?_
        | refine pw_region (fun _ => false) hmix ?_
        | (refine wpG_split rfl rfl (fun hc => ?_) (fun hc => ?_) <;> try simp only [decide_eq_true_eq, decide_eq_false_iff_not, Bool.not_eq_true', Bool.not_eq_false', Bool.false_eq_true, Bool.true_eq_false, reduceCtorEq, Bool.and_eq_true, Bool.or_eq_true, not_and, not_or] at hc)
        | (refine pw_cond _ rfl rfl (fun hc => ?_) (fun hc => ?_) <;> (try simp only [decide_eq_true_eq, decide_eq_false_iff_not, Bool.not_eq_true', Bool.not_eq_false', Bool.false_eq_true, Bool.true_eq_false, reduceCtorEq, Bool.and_eq_true, Bool.or_eq_true, not_and, not_or] at hc) <;> try (exfalso; omega))
        | simp (maxSteps := 1000000) (disch := omega) only [go_sem, Nat.reduceEqDiff, ↓reduceIte, Nat.reduceLT, Nat.reduceAdd, Nat.reduceSub, Nat.reduceLeDiff, Nat.reduceMul, Int.reduceToNat, reduceCtorEq]
        | apply And.intro
        | omega
        | decide +kernel
      refine bool_some ?_
      rw [gOk, any_no (fun j y hj => hinv j y (by omega))]
      simp; omega
def vertF (g : Gr) (v : Int) : Bool := gOk g && decide (0 ≤ v) && decide (v < g.1)
theorem equal_spec (l m : List Arc) : CallsTo Try.prog 58 [arcsD l, arcsD m] (.bool (decide (l = m))) := by
  refine callsTo_of Try.func58 rfl (by decide +kernel) (Nat.le_of_ble_eq_true rfl) ?_
  intro hat B X w0
  have hl := at_len 0 hat rfl
  have hm := at_len 1 hat rfl
  rw [List.length_map] at hl hm
  by_cases hlm : l.length = m.length
  · repeat' first
      | refine pw_seq ?_
      | refine pw_skip ?_
      | refine pw_ret ?_
      | refine pw_exit ?_
      | refine pw_block ?_
      | refine pw_region (fun _ => false) hmix ?_
      | (refine wpG_split rfl rfl (fun hc => ?_) (fun hc => ?_) <;> try simp only [decide_eq_true_eq, decide_eq_false_iff_not, Bool.not_eq_true', Bool.not_eq_false', Bool.false_eq_true, Bool.true_eq_false, reduceCtorEq, Bool.and_eq_true, Bool.or_eq_true, not_and, not_or] at hc)
      | (refine pw_cond _ rfl rfl (fun hc => ?_) (fun hc => ?_) <;> (try simp only [decide_eq_true_eq, decide_eq_false_iff_not, Bool.not_eq_true', Bool.not_eq_false', Bool.false_eq_true, Bool.true_eq_false, reduceCtorEq, Bool.and_eq_true, Bool.or_eq_true, not_and, not_or] at hc) <;> try (exfalso; omega))
      | simp (maxSteps := 1000000) (disch := omega) only [go_sem, Nat.reduceEqDiff, ↓reduceIte, Nat.reduceLT, Nat.reduceAdd, Nat.reduceSub, Nat.reduceLeDiff, Nat.reduceMul, Int.reduceToNat, reduceCtorEq]
      | apply And.intro
      | omega
      | decide +kernel
    refine pw_loopI (κ := Nat) (fun (k : Nat) => k ≤ l.length ∧ l.take k = m.take k) (fun (k : Nat) => [(0, .d (arcsD l)), (1, .d (arcsD m)), (12, .int l.length), (13, .int k)]) (fun (k : Nat) => []) (fun (k : Nat) => l.length - k) 0 ?_ ?_ ?_
    · exact ⟨Nat.zero_le _, rfl⟩
    · exact entL_ren [] _ _ (by (repeat' first | exact List.forall_mem_nil _ | refine List.forall_mem_cons.2 ⟨(by first | rfl | (simp (disch := omega) only [go_sem, Nat.reduceEqDiff, ↓reduceIte, Nat.reduceLT, Nat.reduceAdd, Nat.reduceSub, Nat.reduceLeDiff, Nat.reduceMul, Int.reduceToNat, reduceCtorEq, PV.d.injEq, PV.ref.injEq, D.sc.injEq, Value.int.injEq, Value.bool.injEq, Ob.row.injEq, true_and, and_true]; first | done | omega | (congr 1; done))), ?_⟩); done) (by (repeat' first | exact List.forall_mem_nil _ | refine List.forall_mem_cons.2 ⟨(by first | rfl | (simp (disch := omega) only [go_sem, Nat.reduceEqDiff, ↓reduceIte, Nat.reduceLT, Nat.reduceAdd, Nat.reduceSub, Nat.reduceLeDiff, Nat.reduceMul, Int.reduceToNat, reduceCtorEq, PV.d.injEq, PV.ref.injEq, D.sc.injEq, Value.int.injEq, Value.bool.injEq, Ob.row.injEq, true_and, and_true]; first | done | omega | (congr 1; done))), ?_⟩); done) rfl rfl (nodup_of rfl) rfl (by (repeat' first | exact pd_of _ rfl | exact pd_dead | refine pd_upd rfl ?_ | refine pd_frz ?_); done)
    · rintro k ⟨hk, hinv⟩
      rcases Nat.lt_or_ge k l.length with hlt | hge
      · obtain ⟨p, hp⟩ := get_some hlt
        obtain ⟨q, hq⟩ := get_some (hlm ▸ hlt)
        repeat' first
          | refine pw_seq ?_
          | refine pw_skip ?_
          | refine pw_ret ?_
          | refine pw_exit ?_
          | refine pw_block ?_
          | refine pw_region (fun _ => false) hmix ?_
          | (refine wpG_split rfl rfl (fun hc => ?_) (fun hc => ?_) <;> try simp only [decide_eq_true_eq, decide_eq_false_iff_not, Bool.not_eq_true', Bool.not_eq_false', Bool.false_eq_true, Bool.true_eq_false, reduceCtorEq, Bool.and_eq_true, Bool.or_eq_true, not_and, not_or] at hc)
          | (refine pw_cond _ rfl rfl (fun hc => ?_) (fun hc => ?_) <;> (try simp only [decide_eq_true_eq, decide_eq_false_iff_not, Bool.not_eq_true', Bool.not_eq_false', Bool.false_eq_true, Bool.true_eq_false, reduceCtorEq, Bool.and_eq_true, Bool.or_eq_true, not_and, not_or] at hc) <;> try (exfalso; omega))
          | simp (maxSteps := 1000000) (disch := omega) only [go_sem, Nat.reduceEqDiff, ↓reduceIte, Nat.reduceLT, Nat.reduceAdd, Nat.reduceSub, Nat.reduceLeDiff, Nat.reduceMul, Int.reduceToNat, reduceCtorEq, hp, hq, arcEq]
          | apply And.intro
          | omega
          | decide +kernel
        · refine bool_some ?_
          rw [decide_eq_false (take_ne hp hq hc)]
        · refine ⟨k + 1, ?_, entL_ren [] _ _ (by (repeat' first | exact List.forall_mem_nil _ | refine List.forall_mem_cons.2 ⟨(by first | rfl | (simp (disch := omega) only [go_sem, Nat.reduceEqDiff, ↓reduceIte, Nat.reduceLT, Nat.reduceAdd, Nat.reduceSub, Nat.reduceLeDiff, Nat.reduceMul, Int.reduceToNat, reduceCtorEq, PV.d.injEq, PV.ref.injEq, D.sc.injEq, Value.int.injEq, Value.bool.injEq, Ob.row.injEq, true_and, and_true]; first | done | omega | (congr 1; done))), ?_⟩); done) (by (repeat' first | exact List.forall_mem_nil _ | refine List.forall_mem_cons.2 ⟨(by first | rfl | (simp (disch := omega) only [go_sem, Nat.reduceEqDiff, ↓reduceIte, Nat.reduceLT, Nat.reduceAdd, Nat.reduceSub, Nat.reduceLeDiff, Nat.reduceMul, Int.reduceToNat, reduceCtorEq, PV.d.injEq, PV.ref.injEq, D.sc.injEq, Value.int.injEq, Value.bool.injEq, Ob.row.injEq, true_and, and_true]; first | done | omega | (congr 1; done))), ?_⟩); done) rfl rfl (nodup_of rfl) rfl (by (repeat' first | exact pd_of _ rfl | exact pd_dead | refine pd_upd rfl ?_ | refine pd_frz ?_); done), ?_⟩
          · exact ⟨by omega, by rw [take_snoc hp, take_snoc hq, hinv, hc]⟩
          · omega
      · repeat' first
          | refine pw_seq ?_
          | refine pw_skip ?_
          | refine pw_ret ?_
          | refine pw_exit ?_
          | refine pw_block ?_
          | refine pw_region (fun _ => false) hmix ?_
          | (refine wpG_split rfl rfl (fun hc => ?_) (fun hc => ?_) <;> try simp only [decide_eq_true_eq, decide_eq_false_iff_not, Bool.not_eq_true', Bool.not_eq_false', Bool.false_eq_true, Bool.true_eq_false, reduceCtorEq, Bool.and_eq_true, Bool.or_eq_true, not_and, not_or] at hc)
          | (refine pw_cond _ rfl rfl (fun hc => ?_) (fun hc => ?_) <;> (try simp only [decide_eq_true_eq, decide_eq_false_iff_not, Bool.not_eq_true', Bool.not_eq_false', Bool.false_eq_true, Bool.true_eq_false, reduceCtorEq, Bool.and_eq_true, Bool.or_eq_true, not_and, not_or] at hc) <;> try (exfalso; omega))
          | simp (maxSteps := 1000000) (disch := omega) only [go_sem, Nat.reduceEqDiff, ↓reduceIte, Nat.reduceLT, Nat.reduceAdd, Nat.reduceSub, Nat.reduceLeDiff, Nat.reduceMul, Int.reduceToNat, reduceCtorEq]
          | apply And.intro
          | omega
          | decide +kernel
        refine bool_some ?_
        rw [List.take_of_length_le hge, List.take_of_length_le (by omega)] at hinv
        simp [hinv]
  · repeat' first
      | refine pw_seq ?_
      | refine pw_skip ?_
      | refine pw_ret ?_
      | refine pw_exit ?_
      | refine pw_block ?_
      | refine pw_region (fun _ => false) hmix ?_
      | (refine wpG_split rfl rfl (fun hc => ?_) (fun hc => ?_) <;> try simp only [decide_eq_true_eq, decide_eq_false_iff_not, Bool.not_eq_true', Bool.not_eq_false', Bool.false_eq_true, Bool.true_eq_false, reduceCtorEq, Bool.and_eq_true, Bool.or_eq_true, not_and, not_or] at hc)
      | (refine pw_cond _ rfl rfl (fun hc => ?_) (fun hc => ?_) <;> (try simp only [decide_eq_true_eq, decide_eq_false_iff_not, Bool.not_eq_true', Bool.not_eq_false', Bool.false_eq_true, Bool.true_eq_false, reduceCtorEq, Bool.and_eq_true, Bool.or_eq_true, not_and, not_or] at hc) <;> try (exfalso; omega))
      | simp (maxSteps := 1000000) (disch := omega) only [go_sem, Nat.reduceEqDiff, ↓reduceIte, Nat.reduceLT, Nat.reduceAdd, Nat.reduceSub, Nat.reduceLeDiff, Nat.reduceMul, Int.reduceToNat, reduceCtorEq]
      | apply And.intro
      | omega
      | decide +kernel
    refine bool_some ?_
    rw [decide_eq_false]
    rintro rfl; exact hlm rfl
def placeF (l : List Int) (n : Int) : Int := idxI (l.findIdx? (fun x => decide (x = n)))
theorem index_spec (l : List Int) (n : Int) : CallsTo Try.prog 74 [intsD l, .int n] (.int (placeF l n)) := by
  refine callsTo_of Try.func74 rfl (by decide +kernel) (Nat.le_of_ble_eq_true rfl) ?_
  intro hat B X w0
  have hl := at_len 0 hat rfl
  rw [List.length_map] at hl
  repeat' first
    | refine pw_seq ?_
    | refine pw_skip ?_
    | refine pw_ret ?_
    | refine pw_exit ?_
    | refine pw_block ?_
    | refine pw_region (fun _ => false) hmix ?_
    | (refine wpG_split rfl rfl (fun hc => ?_) (fun hc => ?_) <;> try simp only [decide_eq_true_eq, decide_eq_false_iff_not, Bool.not_eq_true', Bool.not_eq_false', Bool.false_eq_true, Bool.true_eq_false, reduceCtorEq, Bool.and_eq_true, Bool.or_eq_true, not_and, not_or] at hc)
    | (refine pw_cond _ rfl rfl (fun hc => ?_) (fun hc => ?_) <;> (try simp only [decide_eq_true_eq, decide_eq_false_iff_not, Bool.not_eq_true', Bool.not_eq_false', Bool.false_eq_true, Bool.true_eq_false, reduceCtorEq, Bool.and_eq_true, Bool.or_eq_true, not_and, not_or] at hc) <;> try (exfalso; omega))
    | simp (maxSteps := 1000000) (disch := omega) only [go_sem, Nat.reduceEqDiff, ↓reduceIte, Nat.reduceLT, Nat.reduceAdd, Nat.reduceSub, Nat.reduceLeDiff, Nat.reduceMul, Int.reduceToNat, reduceCtorEq]
    | apply And.intro
    | omega
    | decide +kernel
  refine pw_loopI (κ := Nat) (fun (k : Nat) => k ≤ l.length ∧ ∀ (j : Nat) y, j < k → l[j]? = some y → (decide (y = n)) = false) (fun (k : Nat) => [(0, .d (intsD l)), (1, .int n), (7, .int l.length), (8, .int k)]) (fun (k : Nat) => []) (fun (k : Nat) => l.length - k) 0 ?_ ?_ ?_
  · exact ⟨Nat.zero_le _, fun j y h => by omega⟩
  · exact entL_ren [] _ _ (by (repeat' first | exact List.forall_mem_nil _ | refine List.forall_mem_cons.2 ⟨(by first | rfl | (simp (disch := omega) only [go_sem, Nat.reduceEqDiff, ↓reduceIte, Nat.reduceLT, Nat.reduceAdd, Nat.reduceSub, Nat.reduceLeDiff, Nat.reduceMul, Int.reduceToNat, reduceCtorEq, PV.d.injEq, PV.ref.injEq, D.sc.injEq, Value.int.injEq, Value.bool.injEq, Ob.row.injEq, true_and, and_true]; first | done | omega | (congr 1; done))), ?_⟩); done) (by (repeat' first | exact List.forall_mem_nil _ | refine List.forall_mem_cons.2 ⟨(by first | rfl | (simp (disch := omega) only [go_sem, Nat.reduceEqDiff, ↓reduceIte, Nat.reduceLT, Nat.reduceAdd, Nat.reduceSub, Nat.reduceLeDiff, Nat.reduceMul, Int.reduceToNat, reduceCtorEq, PV.d.injEq, PV.ref.injEq, D.sc.injEq, Value.int.injEq, Value.bool.injEq, Ob.row.injEq, true_and, and_true]; first | done | omega | (congr 1; done))), ?_⟩); done) rfl rfl (nodup_of rfl) rfl (by (repeat' first | exact pd_of _ rfl | exact pd_dead | refine pd_upd rfl ?_ | refine pd_frz ?_); done)
  · rintro k ⟨hk, hinv⟩
    rcases Nat.lt_or_ge k l.length with hlt | hge
    · obtain ⟨p, hp⟩ := get_some hlt
      repeat' first
        | refine pw_seq ?_
        | refine pw_skip ?_
        | refine pw_ret ?_
        | refine pw_exit ?_
        | refine pw_block ?_
        | refine pw_region (fun _ => false) hmix ?_
        | (refine wpG_split rfl rfl (fun hc => ?_) (fun hc => ?_) <;> try simp only [decide_eq_true_eq, decide_eq_false_iff_not, Bool.not_eq_true', Bool.not_eq_false', Bool.false_eq_true, Bool.true_eq_false, reduceCtorEq, Bool.and_eq_true, Bool.or_eq_true, not_and, not_or] at hc)
        | (refine pw_cond _ rfl rfl (fun hc => ?_) (fun hc => ?_) <;> (try simp only [decide_eq_true_eq, decide_eq_false_iff_not, Bool.not_eq_true', Bool.not_eq_false', Bool.false_eq_true, Bool.true_eq_false, reduceCtorEq, Bool.and_eq_true, Bool.or_eq_true, not_and, not_or] at hc) <;> try (exfalso; omega))
        | simp (maxSteps := 1000000) (disch := omega) only [go_sem, Nat.reduceEqDiff, ↓reduceIte, Nat.reduceLT, Nat.reduceAdd, Nat.reduceSub, Nat.reduceLeDiff, Nat.reduceMul, Int.reduceToNat, reduceCtorEq, hp]
        | apply And.intro
        | omega
        | decide +kernel
      · refine int_some ?_
        rw [placeF, findIdx_at hp (by simpa using hc.symm) hinv]; rfl
      · refine ⟨k + 1, ?_, entL_ren [] _ _ (by (repeat' first | exact List.forall_mem_nil _ | refine List.forall_mem_cons.2 ⟨(by first | rfl | (simp (disch := omega) only [go_sem, Nat.reduceEqDiff, ↓reduceIte, Nat.reduceLT, Nat.reduceAdd, Nat.reduceSub, Nat.reduceLeDiff, Nat.reduceMul, Int.reduceToNat, reduceCtorEq, PV.d.injEq, PV.ref.injEq, D.sc.injEq, Value.int.injEq, Value.bool.injEq, Ob.row.injEq, true_and, and_true]; first | done | omega | (congr 1; done))), ?_⟩); done) (by (repeat' first | exact List.forall_mem_nil _ | refine List.forall_mem_cons.2 ⟨(by first | rfl | (simp (disch := omega) only [go_sem, Nat.reduceEqDiff, ↓reduceIte, Nat.reduceLT, Nat.reduceAdd, Nat.reduceSub, Nat.reduceLeDiff, Nat.reduceMul, Int.reduceToNat, reduceCtorEq, PV.d.injEq, PV.ref.injEq, D.sc.injEq, Value.int.injEq, Value.bool.injEq, Ob.row.injEq, true_and, and_true]; first | done | omega | (congr 1; done))), ?_⟩); done) rfl rfl (nodup_of rfl) rfl (by (repeat' first | exact pd_of _ rfl | exact pd_dead | refine pd_upd rfl ?_ | refine pd_frz ?_); done), ?_⟩
        · exact ⟨by omega, upto_succ hinv hp (by simpa using fun h => hc h.symm)⟩
        · omega
    · repeat' first
        | refine pw_seq ?_
        | refine pw_skip ?_
        | refine pw_ret ?_
        | refine pw_exit ?_
        | refine pw_block ?_
        | refine pw_region (fun _ => false) hmix ?_
        | (refine wpG_split rfl rfl (fun hc => ?_) (fun hc => ?_) <;> try simp only [decide_eq_true_eq, decide_eq_false_iff_not, Bool.not_eq_true', Bool.not_eq_false', Bool.false_eq_true, Bool.true_eq_false, reduceCtorEq, Bool.and_eq_true, Bool.or_eq_true, not_and, not_or] at hc)
        | (refine pw_cond _ rfl rfl (fun hc => ?_) (fun hc => ?_) <;> (try simp only [decide_eq_true_eq, decide_eq_false_iff_not, Bool.not_eq_true', Bool.not_eq_false', Bool.false_eq_true, Bool.true_eq_false, reduceCtorEq, Bool.and_eq_true, Bool.or_eq_true, not_and, not_or] at hc) <;> try (exfalso; omega))
        | simp (maxSteps := 1000000) (disch := omega) only [go_sem, Nat.reduceEqDiff, ↓reduceIte, Nat.reduceLT, Nat.reduceAdd, Nat.reduceSub, Nat.reduceLeDiff, Nat.reduceMul, Int.reduceToNat, reduceCtorEq]
        | apply And.intro
        | omega
        | decide +kernel
      refine int_some ?_
      rw [placeF, findIdx_no (fun j y hy => hinv j y (by have := (List.getElem?_eq_some_iff.1 hy).1; omega) hy)]; rfl
theorem equalI_spec (l m : List Int) : CallsTo Try.prog 57 [intsD l, intsD m] (.bool (decide (l = m))) := by
  refine callsTo_of Try.func57 rfl (by decide +kernel) (Nat.le_of_ble_eq_true rfl) ?_
  intro hat B X w0
  have hl := at_len 0 hat rfl
  have hm := at_len 1 hat rfl
  rw [List.length_map] at hl hm
  by_cases hlm : l.length = m.length
  · repeat' first
      | refine pw_seq ?_
      | refine pw_skip ?_
      | refine pw_ret ?_
      | refine pw_exit ?_
      | refine pw_block ?_
      | refine pw_region (fun _ => false) hmix ?_
      | (refine wpG_split rfl rfl (fun hc => ?_) (fun hc => ?_) <;> try simp only [decide_eq_true_eq, decide_eq_false_iff_not, Bool.not_eq_true', Bool.not_eq_false', Bool.false_eq_true, Bool.true_eq_false, reduceCtorEq, Bool.and_eq_true, Bool.or_eq_true, not_and, not_or] at hc)
      | (refine pw_cond _ rfl rfl (fun hc => ?_) (fun hc => ?_) <;> (try simp only [decide_eq_true_eq, decide_eq_false_iff_not, Bool.not_eq_true', Bool.not_eq_false', Bool.false_eq_true, Bool.true_eq_false, reduceCtorEq, Bool.and_eq_true, Bool.or_eq_true, not_and, not_or] at hc) <;> try (exfalso; omega))
      | simp (maxSteps := 1000000) (disch := omega) only [go_sem, Nat.reduceEqDiff, ↓reduceIte, Nat.reduceLT, Nat.reduceAdd, Nat.reduceSub, Nat.reduceLeDiff, Nat.reduceMul, Int.reduceToNat, reduceCtorEq]
      | apply And.intro
      | omega
      | decide +kernel
    refine pw_loopI (κ := Nat) (fun (k : Nat) => k ≤ l.length ∧ l.take k = m.take k) (fun (k : Nat) => [(0, .d (intsD l)), (1, .d (intsD m)), (12, .int l.length), (13, .int k)]) (fun (k : Nat) => []) (fun (k : Nat) => l.length - k) 0 ?_ ?_ ?_
    · exact ⟨Nat.zero_le _, rfl⟩
    · exact entL_ren [] _ _ (by (repeat' first | exact List.forall_mem_nil _ | refine List.forall_mem_cons.2 ⟨(by first | rfl | (simp (disch := omega) only [go_sem, Nat.reduceEqDiff, ↓reduceIte, Nat.reduceLT, Nat.reduceAdd, Nat.reduceSub, Nat.reduceLeDiff, Nat.reduceMul, Int.reduceToNat, reduceCtorEq, PV.d.injEq, PV.ref.injEq, D.sc.injEq, Value.int.injEq, Value.bool.injEq, Ob.row.injEq, true_and, and_true]; first | done | omega | (congr 1; done))), ?_⟩); done) (by (repeat' first | exact List.forall_mem_nil _ | refine List.forall_mem_cons.2 ⟨(by first | rfl | (simp (disch := omega) only [go_sem, Nat.reduceEqDiff, ↓reduceIte, Nat.reduceLT, Nat.reduceAdd, Nat.reduceSub, Nat.reduceLeDiff, Nat.reduceMul, Int.reduceToNat, reduceCtorEq, PV.d.injEq, PV.ref.injEq, D.sc.injEq, Value.int.injEq, Value.bool.injEq, Ob.row.injEq, true_and, and_true]; first | done | omega | (congr 1; done))), ?_⟩); done) rfl rfl (nodup_of rfl) rfl (by (repeat' first | exact pd_of _ rfl | exact pd_dead | refine pd_upd rfl ?_ | refine pd_frz ?_); done)
    · rintro k ⟨hk, hinv⟩
      rcases Nat.lt_or_ge k l.length with hlt | hge
      · obtain ⟨p, hp⟩ := get_some hlt
        obtain ⟨q, hq⟩ := get_some (hlm ▸ hlt)
        repeat' first
          | refine pw_seq ?_
          | refine pw_skip ?_
          | refine pw_ret ?_
          | refine pw_exit ?_
          | refine pw_block ?_
          | refine pw_region (fun _ => false) hmix ?_
          | (refine wpG_split rfl rfl (fun hc => ?_) (fun hc => ?_) <;> try simp only [decide_eq_true_eq, decide_eq_false_iff_not, Bool.not_eq_true', Bool.not_eq_false', Bool.false_eq_true, Bool.true_eq_false, reduceCtorEq, Bool.and_eq_true, Bool.or_eq_true, not_and, not_or] at hc)
          | (refine pw_cond _ rfl rfl (fun hc => ?_) (fun hc => ?_) <;> (try simp only [decide_eq_true_eq, decide_eq_false_iff_not, Bool.not_eq_true', Bool.not_eq_false', Bool.false_eq_true, Bool.true_eq_false, reduceCtorEq, Bool.and_eq_true, Bool.or_eq_true, not_and, not_or] at hc) <;> try (exfalso; omega))
          | simp (maxSteps := 1000000) (disch := omega) only [go_sem, Nat.reduceEqDiff, ↓reduceIte, Nat.reduceLT, Nat.reduceAdd, Nat.reduceSub, Nat.reduceLeDiff, Nat.reduceMul, Int.reduceToNat, reduceCtorEq, hp, hq]
          | apply And.intro
          | omega
          | decide +kernel
        · refine bool_some ?_
          rw [decide_eq_false (take_ne hp hq hc)]
        · refine ⟨k + 1, ?_, entL_ren [] _ _ (by (repeat' first | exact List.forall_mem_nil _ | refine List.forall_mem_cons.2 ⟨(by first | rfl | (simp (disch := omega) only [go_sem, Nat.reduceEqDiff, ↓reduceIte, Nat.reduceLT, Nat.reduceAdd, Nat.reduceSub, Nat.reduceLeDiff, Nat.reduceMul, Int.reduceToNat, reduceCtorEq, PV.d.injEq, PV.ref.injEq, D.sc.injEq, Value.int.injEq, Value.bool.injEq, Ob.row.injEq, true_and, and_true]; first | done | omega | (congr 1; done))), ?_⟩); done) (by (repeat' first | exact List.forall_mem_nil _ | refine List.forall_mem_cons.2 ⟨(by first | rfl | (simp (disch := omega) only [go_sem, Nat.reduceEqDiff, ↓reduceIte, Nat.reduceLT, Nat.reduceAdd, Nat.reduceSub, Nat.reduceLeDiff, Nat.reduceMul, Int.reduceToNat, reduceCtorEq, PV.d.injEq, PV.ref.injEq, D.sc.injEq, Value.int.injEq, Value.bool.injEq, Ob.row.injEq, true_and, and_true]; first | done | omega | (congr 1; done))), ?_⟩); done) rfl rfl (nodup_of rfl) rfl (by (repeat' first | exact pd_of _ rfl | exact pd_dead | refine pd_upd rfl ?_ | refine pd_frz ?_); done), ?_⟩
          · exact ⟨by omega, by rw [take_snoc hp, take_snoc hq, hinv, hc]⟩
          · omega
      · repeat' first
          | refine pw_seq ?_
          | refine pw_skip ?_
          | refine pw_ret ?_
          | refine pw_exit ?_
          | refine pw_block ?_
          | refine pw_region (fun _ => false) hmix ?_
          | (refine wpG_split rfl rfl (fun hc => ?_) (fun hc => ?_) <;> try simp only [decide_eq_true_eq, decide_eq_false_iff_not, Bool.not_eq_true', Bool.not_eq_false', Bool.false_eq_true, Bool.true_eq_false, reduceCtorEq, Bool.and_eq_true, Bool.or_eq_true, not_and, not_or] at hc)
          | (refine pw_cond _ rfl rfl (fun hc => ?_) (fun hc => ?_) <;> (try simp only [decide_eq_true_eq, decide_eq_false_iff_not, Bool.not_eq_true', Bool.not_eq_false', Bool.false_eq_true, Bool.true_eq_false, reduceCtorEq, Bool.and_eq_true, Bool.or_eq_true, not_and, not_or] at hc) <;> try (exfalso; omega))
          | simp (maxSteps := 1000000) (disch := omega) only [go_sem, Nat.reduceEqDiff, ↓reduceIte, Nat.reduceLT, Nat.reduceAdd, Nat.reduceSub, Nat.reduceLeDiff, Nat.reduceMul, Int.reduceToNat, reduceCtorEq]
          | apply And.intro
          | omega
          | decide +kernel
        refine bool_some ?_
        rw [List.take_of_length_le hge, List.take_of_length_le (by omega)] at hinv
        simp [hinv]
  · repeat' first
      | refine pw_seq ?_
      | refine pw_skip ?_
      | refine pw_ret ?_
      | refine pw_exit ?_
      | refine pw_block ?_
      | refine pw_region (fun _ => false) hmix ?_
      | (refine wpG_split rfl rfl (fun hc => ?_) (fun hc => ?_) <;> try simp only [decide_eq_true_eq, decide_eq_false_iff_not, Bool.not_eq_true', Bool.not_eq_false', Bool.false_eq_true, Bool.true_eq_false, reduceCtorEq, Bool.and_eq_true, Bool.or_eq_true, not_and, not_or] at hc)
      | (refine pw_cond _ rfl rfl (fun hc => ?_) (fun hc => ?_) <;> (try simp only [decide_eq_true_eq, decide_eq_false_iff_not, Bool.not_eq_true', Bool.not_eq_false', Bool.false_eq_true, Bool.true_eq_false, reduceCtorEq, Bool.and_eq_true, Bool.or_eq_true, not_and, not_or] at hc) <;> try (exfalso; omega))
      | simp (maxSteps := 1000000) (disch := omega) only [go_sem, Nat.reduceEqDiff, ↓reduceIte, Nat.reduceLT, Nat.reduceAdd, Nat.reduceSub, Nat.reduceLeDiff, Nat.reduceMul, Int.reduceToNat, reduceCtorEq]
      | apply And.intro
      | omega
      | decide +kernel
    refine bool_some ?_
    rw [decide_eq_false]
    rintro rfl; exact hlm rfl
abbrev listsD (l : List (List Int)) : D := .sl (l.map intsD)
theorem equalF_spec (l m : List (List Int)) : CallsTo Try.prog 56 [listsD l, listsD m, .fn 57 []] (.bool (decide (l = m))) := by
  refine callsTo_of Try.func56 rfl (by decide +kernel) (Nat.le_of_ble_eq_true rfl) ?_
  intro hat B X w0
  have hl := at_len 0 hat rfl
  have hm := at_len 1 hat rfl
  rw [List.length_map] at hl hm
  by_cases hlm : l.length = m.length
  · repeat' first
      | refine pw_seq ?_
      | refine pw_skip ?_
      | refine pw_ret ?_
      | refine pw_exit ?_
      | refine pw_block ?_
      | refine pw_region (fun _ => false) hmix ?_
      | (refine wpG_split rfl rfl (fun hc => ?_) (fun hc => ?_) <;> try simp only [decide_eq_true_eq, decide_eq_false_iff_not, Bool.not_eq_true', Bool.not_eq_false', Bool.false_eq_true, Bool.true_eq_false, reduceCtorEq, Bool.and_eq_true, Bool.or_eq_true, not_and, not_or] at hc)
      | (refine pw_cond _ rfl rfl (fun hc => ?_) (fun hc => ?_) <;> (try simp only [decide_eq_true_eq, decide_eq_false_iff_not, Bool.not_eq_true', Bool.not_eq_false', Bool.false_eq_true, Bool.true_eq_false, reduceCtorEq, Bool.and_eq_true, Bool.or_eq_true, not_and, not_or] at hc) <;> try (exfalso; omega))
      | simp (maxSteps := 1000000) (disch := omega) only [go_sem, Nat.reduceEqDiff, ↓reduceIte, Nat.reduceLT, Nat.reduceAdd, Nat.reduceSub, Nat.reduceLeDiff, Nat.reduceMul, Int.reduceToNat, reduceCtorEq]
      | apply And.intro
      | omega
      | decide +kernel
    refine pw_loopI (κ := Nat) (fun (k : Nat) => k ≤ l.length ∧ l.take k = m.take k) (fun (k : Nat) => [(0, .d (listsD l)), (1, .d (listsD m)), (2, .d (.fn 57 [])), (15, .d (listsD l)), (16, .int l.length), (17, .int k)]) (fun (k : Nat) => []) (fun (k : Nat) => l.length - k) 0 ?_ ?_ ?_
    · exact ⟨Nat.zero_le _, rfl⟩
    · exact entL_ren [] _ _ (by (repeat' first | exact List.forall_mem_nil _ | refine List.forall_mem_cons.2 ⟨(by first | rfl | (simp (disch := omega) only [go_sem, Nat.reduceEqDiff, ↓reduceIte, Nat.reduceLT, Nat.reduceAdd, Nat.reduceSub, Nat.reduceLeDiff, Nat.reduceMul, Int.reduceToNat, reduceCtorEq, PV.d.injEq, PV.ref.injEq, D.sc.injEq, Value.int.injEq, Value.bool.injEq, Ob.row.injEq, true_and, and_true]; first | done | omega | (congr 1; done))), ?_⟩); done) (by (repeat' first | exact List.forall_mem_nil _ | refine List.forall_mem_cons.2 ⟨(by first | rfl | (simp (disch := omega) only [go_sem, Nat.reduceEqDiff, ↓reduceIte, Nat.reduceLT, Nat.reduceAdd, Nat.reduceSub, Nat.reduceLeDiff, Nat.reduceMul, Int.reduceToNat, reduceCtorEq, PV.d.injEq, PV.ref.injEq, D.sc.injEq, Value.int.injEq, Value.bool.injEq, Ob.row.injEq, true_and, and_true]; first | done | omega | (congr 1; done))), ?_⟩); done) rfl rfl (nodup_of rfl) rfl (by (repeat' first | exact pd_of _ rfl | exact pd_dead | refine pd_upd rfl ?_ | refine pd_frz ?_); done)
    · rintro k ⟨hk, hinv⟩
      rcases Nat.lt_or_ge k l.length with hlt | hge
      · obtain ⟨p, hp⟩ := get_some hlt
        obtain ⟨q, hq⟩ := get_some (hlm ▸ hlt)
        have he := equalI_spec p q
        by_cases hpq : p = q
        · rw [decide_eq_true hpq] at he
          repeat' first
            | refine pw_seq ?_
            | refine pw_skip ?_
            | refine pw_ret ?_
            | refine pw_exit ?_
            | refine pw_block ?_
            | refine pw_region (fun _ => false) hmix ?_
            | (refine run_callT (he) rfl rfl ?_ ?_; (· first | exact .inl rfl | exact .inr rfl))
            | (refine run_callT (he) rfl ?_ ?_ ?_; (· first | rfl | (simp (maxSteps := 1000000) (disch := omega) only [go_sem, Nat.reduceEqDiff, ↓reduceIte, Nat.reduceLT, Nat.reduceAdd, Nat.reduceSub, Nat.reduceLeDiff, Nat.reduceMul, Int.reduceToNat, reduceCtorEq, hp, hq]; done)); (· first | exact .inl rfl | exact .inr rfl))
            | (refine wpG_split rfl rfl (fun hc => ?_) (fun hc => ?_) <;> try simp only [decide_eq_true_eq, decide_eq_false_iff_not, Bool.not_eq_true', Bool.not_eq_false', Bool.false_eq_true, Bool.true_eq_false, reduceCtorEq, Bool.and_eq_true, Bool.or_eq_true, not_and, not_or] at hc)
            | (refine pw_cond _ rfl rfl (fun hc => ?_) (fun hc => ?_) <;> (try simp only [decide_eq_true_eq, decide_eq_false_iff_not, Bool.not_eq_true', Bool.not_eq_false', Bool.false_eq_true, Bool.true_eq_false, reduceCtorEq, Bool.and_eq_true, Bool.or_eq_true, not_and, not_or] at hc) <;> try (exfalso; omega))
            | simp (maxSteps := 1000000) (disch := omega) only [go_sem, Nat.reduceEqDiff, ↓reduceIte, Nat.reduceLT, Nat.reduceAdd, Nat.reduceSub, Nat.reduceLeDiff, Nat.reduceMul, Int.reduceToNat, reduceCtorEq, hp, hq]
            | apply And.intro
            | omega
            | decide +kernel
          refine ⟨k + 1, ?_, entL_ren [] _ _ (by (repeat' first | exact List.forall_mem_nil _ | refine List.forall_mem_cons.2 ⟨(by first | rfl | (simp (disch := omega) only [go_sem, Nat.reduceEqDiff, ↓reduceIte, Nat.reduceLT, Nat.reduceAdd, Nat.reduceSub, Nat.reduceLeDiff, Nat.reduceMul, Int.reduceToNat, reduceCtorEq, PV.d.injEq, PV.ref.injEq, D.sc.injEq, Value.int.injEq, Value.bool.injEq, Ob.row.injEq, true_and, and_true]; first | done | omega | (congr 1; done))), ?_⟩); done) (by (repeat' first | exact List.forall_mem_nil _ | refine List.forall_mem_cons.2 ⟨(by first | rfl | (simp (disch := omega) only [go_sem, Nat.reduceEqDiff, ↓reduceIte, Nat.reduceLT, Nat.reduceAdd, Nat.reduceSub, Nat.reduceLeDiff, Nat.reduceMul, Int.reduceToNat, reduceCtorEq, PV.d.injEq, PV.ref.injEq, D.sc.injEq, Value.int.injEq, Value.bool.injEq, Ob.row.injEq, true_and, and_true]; first | done | omega | (congr 1; done))), ?_⟩); done) rfl rfl (nodup_of rfl) rfl (by (repeat' first | exact pd_of _ rfl | exact pd_dead | refine pd_upd rfl ?_ | refine pd_frz ?_); done), ?_⟩
          · exact ⟨by omega, by rw [take_snoc hp, take_snoc hq, hinv, hpq]⟩
          · omega
        · rw [decide_eq_false hpq] at he
          repeat' first
            | refine pw_seq ?_
            | refine pw_skip ?_
            | refine pw_ret ?_
            | refine pw_exit ?_
            | refine pw_block ?_
            | refine pw_region (fun _ => false) hmix ?_
            | (refine run_callT (he) rfl rfl ?_ ?_; (· first | exact .inl rfl | exact .inr rfl))
            | (refine run_callT (he) rfl ?_ ?_ ?_; (· first | rfl | (simp (maxSteps := 1000000) (disch := omega) only [go_sem, Nat.reduceEqDiff, ↓reduceIte, Nat.reduceLT, Nat.reduceAdd, Nat.reduceSub, Nat.reduceLeDiff, Nat.reduceMul, Int.reduceToNat, reduceCtorEq, hp, hq]; done)); (· first | exact .inl rfl | exact .inr rfl))
            | (refine wpG_split rfl rfl (fun hc => ?_) (fun hc => ?_) <;> try simp only [decide_eq_true_eq, decide_eq_false_iff_not, Bool.not_eq_true', Bool.not_eq_false', Bool.false_eq_true, Bool.true_eq_false, reduceCtorEq, Bool.and_eq_true, Bool.or_eq_true, not_and, not_or] at hc)
            | (refine pw_cond _ rfl rfl (fun hc => ?_) (fun hc => ?_) <;> (try simp only [decide_eq_true_eq, decide_eq_false_iff_not, Bool.not_eq_true', Bool.not_eq_false', Bool.false_eq_true, Bool.true_eq_false, reduceCtorEq, Bool.and_eq_true, Bool.or_eq_true, not_and, not_or] at hc) <;> try (exfalso; omega))
            | simp (maxSteps := 1000000) (disch := omega) only [go_sem, Nat.reduceEqDiff, ↓reduceIte, Nat.reduceLT, Nat.reduceAdd, Nat.reduceSub, Nat.reduceLeDiff, Nat.reduceMul, Int.reduceToNat, reduceCtorEq, hp, hq]
            | apply And.intro
            | omega
            | decide +kernel
          refine bool_some ?_
          rw [decide_eq_false (take_ne hp hq hpq)]
      · repeat' first
          | refine pw_seq ?_
          | refine pw_skip ?_
          | refine pw_ret ?_
          | refine pw_exit ?_
          | refine pw_block ?_
          | refine pw_region (fun _ => false) hmix ?_
          | (refine wpG_split rfl rfl (fun hc => ?_) (fun hc => ?_) <;> try simp only [decide_eq_true_eq, decide_eq_false_iff_not, Bool.not_eq_true', Bool.not_eq_false', Bool.false_eq_true, Bool.true_eq_false, reduceCtorEq, Bool.and_eq_true, Bool.or_eq_true, not_and, not_or] at hc)
          | (refine pw_cond _ rfl rfl (fun hc => ?_) (fun hc => ?_) <;> (try simp only [decide_eq_true_eq, decide_eq_false_iff_not, Bool.not_eq_true', Bool.not_eq_false', Bool.false_eq_true, Bool.true_eq_false, reduceCtorEq, Bool.and_eq_true, Bool.or_eq_true, not_and, not_or] at hc) <;> try (exfalso; omega))
          | simp (maxSteps := 1000000) (disch := omega) only [go_sem, Nat.reduceEqDiff, ↓reduceIte, Nat.reduceLT, Nat.reduceAdd, Nat.reduceSub, Nat.reduceLeDiff, Nat.reduceMul, Int.reduceToNat, reduceCtorEq]
          | apply And.intro
          | omega
          | decide +kernel
        refine bool_some ?_
        rw [List.take_of_length_le hge, List.take_of_length_le (by omega)] at hinv
        simp [hinv]
  · repeat' first
      | refine pw_seq ?_
      | refine pw_skip ?_
      | refine pw_ret ?_
      | refine pw_exit ?_
      | refine pw_block ?_
      | refine pw_region (fun _ => false) hmix ?_
      | (refine wpG_split rfl rfl (fun hc => ?_) (fun hc => ?_) <;> try simp only [decide_eq_true_eq, decide_eq_false_iff_not, Bool.not_eq_true', Bool.not_eq_false', Bool.false_eq_true, Bool.true_eq_false, reduceCtorEq, Bool.and_eq_true, Bool.or_eq_true, not_and, not_or] at hc)
      | (refine pw_cond _ rfl rfl (fun hc => ?_) (fun hc => ?_) <;> (try simp only [decide_eq_true_eq, decide_eq_false_iff_not, Bool.not_eq_true', Bool.not_eq_false', Bool.false_eq_true, Bool.true_eq_false, reduceCtorEq, Bool.and_eq_true, Bool.or_eq_true, not_and, not_or] at hc) <;> try (exfalso; omega))
      | simp (maxSteps := 1000000) (disch := omega) only [go_sem, Nat.reduceEqDiff, ↓reduceIte, Nat.reduceLT, Nat.reduceAdd, Nat.reduceSub, Nat.reduceLeDiff, Nat.reduceMul, Int.reduceToNat, reduceCtorEq]
      | apply And.intro
      | omega
      | decide +kernel
    refine bool_some ?_
    rw [decide_eq_false]
    rintro rfl; exact hlm rfl
theorem indexF_spec (l : List Int) (g : Nat) (p : Int → Bool) (hp : ∀ x, CallsTo Try.prog g [.int x] (.bool (p x))) : CallsTo Try.prog 72 [intsD l, .fn g []] (.int (idxI (l.findIdx? p))) := by
  refine callsTo_of Try.func72 rfl (by decide +kernel) (Nat.le_of_ble_eq_true rfl) ?_
  intro hat B X w0
  have hl := at_len 0 hat rfl
  rw [List.length_map] at hl
  repeat' first
    | refine pw_seq ?_
    | refine pw_skip ?_
    | refine pw_ret ?_
    | refine pw_exit ?_
    | refine pw_block ?_
    | refine pw_region (fun _ => false) hmix ?_
    | (refine wpG_split rfl rfl (fun hc => ?_) (fun hc => ?_) <;> try simp only [decide_eq_true_eq, decide_eq_false_iff_not, Bool.not_eq_true', Bool.not_eq_false', Bool.false_eq_true, Bool.true_eq_false, reduceCtorEq, Bool.and_eq_true, Bool.or_eq_true, not_and, not_or] at hc)
    | (refine pw_cond _ rfl rfl (fun hc => ?_) (fun hc => ?_) <;> (try simp only [decide_eq_true_eq, decide_eq_false_iff_not, Bool.not_eq_true', Bool.not_eq_false', Bool.false_eq_true, Bool.true_eq_false, reduceCtorEq, Bool.and_eq_true, Bool.or_eq_true, not_and, not_or] at hc) <;> try (exfalso; omega))
    | simp (maxSteps := 1000000) (disch := omega) only [go_sem, Nat.reduceEqDiff, ↓reduceIte, Nat.reduceLT, Nat.reduceAdd, Nat.reduceSub, Nat.reduceLeDiff, Nat.reduceMul, Int.reduceToNat, reduceCtorEq]
    | apply And.intro
    | omega
    | decide +kernel
  refine pw_loopI (κ := Nat) (fun (k : Nat) => k ≤ l.length ∧ ∀ (j : Nat) y, j < k → l[j]? = some y → p y = false) (fun (k : Nat) => [(0, .d (intsD l)), (1, .d (.fn g [])), (7, .int l.length), (8, .int k)]) (fun (k : Nat) => []) (fun (k : Nat) => l.length - k) 0 ?_ ?_ ?_
  · exact ⟨Nat.zero_le _, fun j y h => by omega⟩
  · exact entL_ren [] _ _ (by (repeat' first | exact List.forall_mem_nil _ | refine List.forall_mem_cons.2 ⟨(by first | rfl | (simp (disch := omega) only [go_sem, Nat.reduceEqDiff, ↓reduceIte, Nat.reduceLT, Nat.reduceAdd, Nat.reduceSub, Nat.reduceLeDiff, Nat.reduceMul, Int.reduceToNat, reduceCtorEq, PV.d.injEq, PV.ref.injEq, D.sc.injEq, Value.int.injEq, Value.bool.injEq, Ob.row.injEq, true_and, and_true]; first | done | omega | (congr 1; done))), ?_⟩); done) (by (repeat' first | exact List.forall_mem_nil _ | refine List.forall_mem_cons.2 ⟨(by first | rfl | (simp (disch := omega) only [go_sem, Nat.reduceEqDiff, ↓reduceIte, Nat.reduceLT, Nat.reduceAdd, Nat.reduceSub, Nat.reduceLeDiff, Nat.reduceMul, Int.reduceToNat, reduceCtorEq, PV.d.injEq, PV.ref.injEq, D.sc.injEq, Value.int.injEq, Value.bool.injEq, Ob.row.injEq, true_and, and_true]; first | done | omega | (congr 1; done))), ?_⟩); done) rfl rfl (nodup_of rfl) rfl (by (repeat' first | exact pd_of _ rfl | exact pd_dead | refine pd_upd rfl ?_ | refine pd_frz ?_); done)
  · rintro k ⟨hk, hinv⟩
    rcases Nat.lt_or_ge k l.length with hlt | hge
    · obtain ⟨x, hx⟩ := get_some hlt
      have hpx := hp x
      rcases hb : p x with _ | _ <;> rw [hb] at hpx
      · repeat' first
          | refine pw_seq ?_
          | refine pw_skip ?_
          | refine pw_ret ?_
          | refine pw_exit ?_
          | refine pw_block ?_
          | refine pw_region (fun _ => false) hmix ?_
          | (refine run_callT (hpx) rfl rfl ?_ ?_; (· first | exact .inl rfl | exact .inr rfl))
          | (refine run_callT (hpx) rfl ?_ ?_ ?_; (· first | rfl | (simp (maxSteps := 1000000) (disch := omega) only [go_sem, Nat.reduceEqDiff, ↓reduceIte, Nat.reduceLT, Nat.reduceAdd, Nat.reduceSub, Nat.reduceLeDiff, Nat.reduceMul, Int.reduceToNat, reduceCtorEq, hx]; done)); (· first | exact .inl rfl | exact .inr rfl))
          | (refine wpG_split rfl rfl (fun hc => ?_) (fun hc => ?_) <;> try simp only [decide_eq_true_eq, decide_eq_false_iff_not, Bool.not_eq_true', Bool.not_eq_false', Bool.false_eq_true, Bool.true_eq_false, reduceCtorEq, Bool.and_eq_true, Bool.or_eq_true, not_and, not_or] at hc)
          | (refine pw_cond _ rfl rfl (fun hc => ?_) (fun hc => ?_) <;> (try simp only [decide_eq_true_eq, decide_eq_false_iff_not, Bool.not_eq_true', Bool.not_eq_false', Bool.false_eq_true, Bool.true_eq_false, reduceCtorEq, Bool.and_eq_true, Bool.or_eq_true, not_and, not_or] at hc) <;> try (exfalso; omega))
          | simp (maxSteps := 1000000) (disch := omega) only [go_sem, Nat.reduceEqDiff, ↓reduceIte, Nat.reduceLT, Nat.reduceAdd, Nat.reduceSub, Nat.reduceLeDiff, Nat.reduceMul, Int.reduceToNat, reduceCtorEq, hx]
          | apply And.intro
          | omega
          | decide +kernel
        refine ⟨k + 1, ?_, entL_ren [] _ _ (by (repeat' first | exact List.forall_mem_nil _ | refine List.forall_mem_cons.2 ⟨(by first | rfl | (simp (disch := omega) only [go_sem, Nat.reduceEqDiff, ↓reduceIte, Nat.reduceLT, Nat.reduceAdd, Nat.reduceSub, Nat.reduceLeDiff, Nat.reduceMul, Int.reduceToNat, reduceCtorEq, PV.d.injEq, PV.ref.injEq, D.sc.injEq, Value.int.injEq, Value.bool.injEq, Ob.row.injEq, true_and, and_true]; first | done | omega | (congr 1; done))), ?_⟩); done) (by (repeat' first | exact List.forall_mem_nil _ | refine List.forall_mem_cons.2 ⟨(by first | rfl | (simp (disch := omega) only [go_sem, Nat.reduceEqDiff, ↓reduceIte, Nat.reduceLT, Nat.reduceAdd, Nat.reduceSub, Nat.reduceLeDiff, Nat.reduceMul, Int.reduceToNat, reduceCtorEq, PV.d.injEq, PV.ref.injEq, D.sc.injEq, Value.int.injEq, Value.bool.injEq, Ob.row.injEq, true_and, and_true]; first | done | omega | (congr 1; done))), ?_⟩); done) rfl rfl (nodup_of rfl) rfl (by (repeat' first | exact pd_of _ rfl | exact pd_dead | refine pd_upd rfl ?_ | refine pd_frz ?_); done), ?_⟩
        · exact ⟨by omega, upto_succ hinv hx hb⟩
        · omega
      · repeat' first
          | refine pw_seq ?_
          | refine pw_skip ?_
          | refine pw_ret ?_
          | refine pw_exit ?_
          | refine pw_block ?_
          | refine pw_region (fun _ => false) hmix ?_
          | (refine run_callT (hpx) rfl rfl ?_ ?_; (· first | exact .inl rfl | exact .inr rfl))
          | (refine run_callT (hpx) rfl ?_ ?_ ?_; (· first | rfl | (simp (maxSteps := 1000000) (disch := omega) only [go_sem, Nat.reduceEqDiff, ↓reduceIte, Nat.reduceLT, Nat.reduceAdd, Nat.reduceSub, Nat.reduceLeDiff, Nat.reduceMul, Int.reduceToNat, reduceCtorEq, hx]; done)); (· first | exact .inl rfl | exact .inr rfl))
          | (refine wpG_split rfl rfl (fun hc => ?_) (fun hc => ?_) <;> try simp only [decide_eq_true_eq, decide_eq_false_iff_not, Bool.not_eq_true', Bool.not_eq_false', Bool.false_eq_true, Bool.true_eq_false, reduceCtorEq, Bool.and_eq_true, Bool.or_eq_true, not_and, not_or] at hc)
          | (refine pw_cond _ rfl rfl (fun hc => ?_) (fun hc => ?_) <;> (try simp only [decide_eq_true_eq, decide_eq_false_iff_not, Bool.not_eq_true', Bool.not_eq_false', Bool.false_eq_true, Bool.true_eq_false, reduceCtorEq, Bool.and_eq_true, Bool.or_eq_true, not_and, not_or] at hc) <;> try (exfalso; omega))
          | simp (maxSteps := 1000000) (disch := omega) only [go_sem, Nat.reduceEqDiff, ↓reduceIte, Nat.reduceLT, Nat.reduceAdd, Nat.reduceSub, Nat.reduceLeDiff, Nat.reduceMul, Int.reduceToNat, reduceCtorEq, hx]
          | apply And.intro
          | omega
          | decide +kernel
        refine int_some ?_
        rw [findIdx_at hx hb hinv]; rfl
    · repeat' first
        | refine pw_seq ?_
        | refine pw_skip ?_
        | refine pw_ret ?_
        | refine pw_exit ?_
        | refine pw_block ?_
        | refine pw_region (fun _ => false) hmix ?_
        | (refine wpG_split rfl rfl (fun hc => ?_) (fun hc => ?_) <;> try simp only [decide_eq_true_eq, decide_eq_false_iff_not, Bool.not_eq_true', Bool.not_eq_false', Bool.false_eq_true, Bool.true_eq_false, reduceCtorEq, Bool.and_eq_true, Bool.or_eq_true, not_and, not_or] at hc)
        | (refine pw_cond _ rfl rfl (fun hc => ?_) (fun hc => ?_) <;> (try simp only [decide_eq_true_eq, decide_eq_false_iff_not, Bool.not_eq_true', Bool.not_eq_false', Bool.false_eq_true, Bool.true_eq_false, reduceCtorEq, Bool.and_eq_true, Bool.or_eq_true, not_and, not_or] at hc) <;> try (exfalso; omega))
        | simp (maxSteps := 1000000) (disch := omega) only [go_sem, Nat.reduceEqDiff, ↓reduceIte, Nat.reduceLT, Nat.reduceAdd, Nat.reduceSub, Nat.reduceLeDiff, Nat.reduceMul, Int.reduceToNat, reduceCtorEq]
        | apply And.intro
        | omega
        | decide +kernel
      refine int_some ?_
      rw [findIdx_no (fun j y hy => hinv j y (by have := (List.getElem?_eq_some_iff.1 hy).1; omega) hy)]; rfl
theorem indexFA_spec (l : List Arc) (g : Nat) (p : Arc → Bool) (hp : ∀ x, CallsTo Try.prog g [arcD x] (.bool (p x))) : CallsTo Try.prog 73 [arcsD l, .fn g []] (.int (idxI (l.findIdx? p))) := by
  refine callsTo_of Try.func73 rfl (by decide +kernel) (Nat.le_of_ble_eq_true rfl) ?_
  intro hat B X w0
  have hl := at_len 0 hat rfl
  rw [List.length_map] at hl
  repeat' first
    | refine pw_seq ?_
    | refine pw_skip ?_
    | refine pw_ret ?_
    | refine pw_exit ?_
    | refine pw_block ?_
    | refine pw_region (fun _ => false) hmix ?_
    | (refine wpG_split rfl rfl (fun hc => ?_) (fun hc => ?_) <;> try simp only [decide_eq_true_eq, decide_eq_false_iff_not, Bool.not_eq_true', Bool.not_eq_false', Bool.false_eq_true, Bool.true_eq_false, reduceCtorEq, Bool.and_eq_true, Bool.or_eq_true, not_and, not_or] at hc)
    | (refine pw_cond _ rfl rfl (fun hc => ?_) (fun hc => ?_) <;> (try simp only [decide_eq_true_eq, decide_eq_false_iff_not, Bool.not_eq_true', Bool.not_eq_false', Bool.false_eq_true, Bool.true_eq_false, reduceCtorEq, Bool.and_eq_true, Bool.or_eq_true, not_and, not_or] at hc) <;> try (exfalso; omega))
    | simp (maxSteps := 1000000) (disch := omega) only [go_sem, Nat.reduceEqDiff, ↓reduceIte, Nat.reduceLT, Nat.reduceAdd, Nat.reduceSub, Nat.reduceLeDiff, Nat.reduceMul, Int.reduceToNat, reduceCtorEq]
    | apply And.intro
    | omega
    | decide +kernel
  refine pw_loopI (κ := Nat) (fun (k : Nat) => k ≤ l.length ∧ ∀ (j : Nat) y, j < k → l[j]? = some y → p y = false) (fun (k : Nat) => [(0, .d (arcsD l)), (1, .d (.fn g [])), (7, .int l.length), (8, .int k)]) (fun (k : Nat) => []) (fun (k : Nat) => l.length - k) 0 ?_ ?_ ?_
  · exact ⟨Nat.zero_le _, fun j y h => by omega⟩
  · exact entL_ren [] _ _ (by (repeat' first | exact List.forall_mem_nil _ | refine List.forall_mem_cons.2 ⟨(by first | rfl | (simp (disch := omega) only [go_sem, Nat.reduceEqDiff, ↓reduceIte, Nat.reduceLT, Nat.reduceAdd, Nat.reduceSub, Nat.reduceLeDiff, Nat.reduceMul, Int.reduceToNat, reduceCtorEq, PV.d.injEq, PV.ref.injEq, D.sc.injEq, Value.int.injEq, Value.bool.injEq, Ob.row.injEq, true_and, and_true]; first | done | omega | (congr 1; done))), ?_⟩); done) (by (repeat' first | exact List.forall_mem_nil _ | refine List.forall_mem_cons.2 ⟨(by first | rfl | (simp (disch := omega) only [go_sem, Nat.reduceEqDiff, ↓reduceIte, Nat.reduceLT, Nat.reduceAdd, Nat.reduceSub, Nat.reduceLeDiff, Nat.reduceMul, Int.reduceToNat, reduceCtorEq, PV.d.injEq, PV.ref.injEq, D.sc.injEq, Value.int.injEq, Value.bool.injEq, Ob.row.injEq, true_and, and_true]; first | done | omega | (congr 1; done))), ?_⟩); done) rfl rfl (nodup_of rfl) rfl (by (repeat' first | exact pd_of _ rfl | exact pd_dead | refine pd_upd rfl ?_ | refine pd_frz ?_); done)
  · rintro k ⟨hk, hinv⟩
    rcases Nat.lt_or_ge k l.length with hlt | hge
    · obtain ⟨x, hx⟩ := get_some hlt
      have hpx := hp x
      rcases hb : p x with _ | _ <;> rw [hb] at hpx
      · repeat' first
          | refine pw_seq ?_
          | refine pw_skip ?_
          | refine pw_ret ?_
          | refine pw_exit ?_
          | refine pw_block ?_
          | refine pw_region (fun _ => false) hmix ?_
          | (refine run_callT (hpx) rfl rfl ?_ ?_; (· first | exact .inl rfl | exact .inr rfl))
          | (refine run_callT (hpx) rfl ?_ ?_ ?_; (· first | rfl | (simp (maxSteps := 1000000) (disch := omega) only [go_sem, Nat.reduceEqDiff, ↓reduceIte, Nat.reduceLT, Nat.reduceAdd, Nat.reduceSub, Nat.reduceLeDiff, Nat.reduceMul, Int.reduceToNat, reduceCtorEq, hx]; done)); (· first | exact .inl rfl | exact .inr rfl))
          | (refine wpG_split rfl rfl (fun hc => ?_) (fun hc => ?_) <;> try simp only [decide_eq_true_eq, decide_eq_false_iff_not, Bool.not_eq_true', Bool.not_eq_false', Bool.false_eq_true, Bool.true_eq_false, reduceCtorEq, Bool.and_eq_true, Bool.or_eq_true, not_and, not_or] at hc)
          | (refine pw_cond _ rfl rfl (fun hc => ?_) (fun hc => ?_) <;> (try simp only [decide_eq_true_eq, decide_eq_false_iff_not, Bool.not_eq_true', Bool.not_eq_false', Bool.false_eq_true, Bool.true_eq_false, reduceCtorEq, Bool.and_eq_true, Bool.or_eq_true, not_and, not_or] at hc) <;> try (exfalso; omega))
          | simp (maxSteps := 1000000) (disch := omega) only [go_sem, Nat.reduceEqDiff, ↓reduceIte, Nat.reduceLT, Nat.reduceAdd, Nat.reduceSub, Nat.reduceLeDiff, Nat.reduceMul, Int.reduceToNat, reduceCtorEq, hx]
          | apply And.intro
          | omega
          | decide +kernel
        refine ⟨k + 1, ?_, entL_ren [] _ _ (by (repeat' first | exact List.forall_mem_nil _ | refine List.forall_mem_cons.2 ⟨(by first | rfl | (simp (disch := omega) only [go_sem, Nat.reduceEqDiff, ↓reduceIte, Nat.reduceLT, Nat.reduceAdd, Nat.reduceSub, Nat.reduceLeDiff, Nat.reduceMul, Int.reduceToNat, reduceCtorEq, PV.d.injEq, PV.ref.injEq, D.sc.injEq, Value.int.injEq, Value.bool.injEq, Ob.row.injEq, true_and, and_true]; first | done | omega | (congr 1; done))), ?_⟩); done) (by (repeat' first | exact List.forall_mem_nil _ | refine List.forall_mem_cons.2 ⟨(by first | rfl | (simp (disch := omega) only [go_sem, Nat.reduceEqDiff, ↓reduceIte, Nat.reduceLT, Nat.reduceAdd, Nat.reduceSub, Nat.reduceLeDiff, Nat.reduceMul, Int.reduceToNat, reduceCtorEq, PV.d.injEq, PV.ref.injEq, D.sc.injEq, Value.int.injEq, Value.bool.injEq, Ob.row.injEq, true_and, and_true]; first | done | omega | (congr 1; done))), ?_⟩); done) rfl rfl (nodup_of rfl) rfl (by (repeat' first | exact pd_of _ rfl | exact pd_dead | refine pd_upd rfl ?_ | refine pd_frz ?_); done), ?_⟩
        · exact ⟨by omega, upto_succ hinv hx hb⟩
        · omega
      · repeat' first
          | refine pw_seq ?_
          | refine pw_skip ?_
          | refine pw_ret ?_
          | refine pw_exit ?_
          | refine pw_block ?_
          | refine pw_region (fun _ => false) hmix ?_
          | (refine run_callT (hpx) rfl rfl ?_ ?_; (· first | exact .inl rfl | exact .inr rfl))
          | (refine run_callT (hpx) rfl ?_ ?_ ?_; (· first | rfl | (simp (maxSteps := 1000000) (disch := omega) only [go_sem, Nat.reduceEqDiff, ↓reduceIte, Nat.reduceLT, Nat.reduceAdd, Nat.reduceSub, Nat.reduceLeDiff, Nat.reduceMul, Int.reduceToNat, reduceCtorEq, hx]; done)); (· first | exact .inl rfl | exact .inr rfl))
          | (refine wpG_split rfl rfl (fun hc => ?_) (fun hc => ?_) <;> try simp only [decide_eq_true_eq, decide_eq_false_iff_not, Bool.not_eq_true', Bool.not_eq_false', Bool.false_eq_true, Bool.true_eq_false, reduceCtorEq, Bool.and_eq_true, Bool.or_eq_true, not_and, not_or] at hc)
          | (refine pw_cond _ rfl rfl (fun hc => ?_) (fun hc => ?_) <;> (try simp only [decide_eq_true_eq, decide_eq_false_iff_not, Bool.not_eq_true', Bool.not_eq_false', Bool.false_eq_true, Bool.true_eq_false, reduceCtorEq, Bool.and_eq_true, Bool.or_eq_true, not_and, not_or] at hc) <;> try (exfalso; omega))
          | simp (maxSteps := 1000000) (disch := omega) only [go_sem, Nat.reduceEqDiff, ↓reduceIte, Nat.reduceLT, Nat.reduceAdd, Nat.reduceSub, Nat.reduceLeDiff, Nat.reduceMul, Int.reduceToNat, reduceCtorEq, hx]
          | apply And.intro
          | omega
          | decide +kernel
        refine int_some ?_
        rw [findIdx_at hx hb hinv]; rfl
    · repeat' first
        | refine pw_seq ?_
        | refine pw_skip ?_
        | refine pw_ret ?_
        | refine pw_exit ?_
        | refine pw_block ?_
        | refine pw_region (fun _ => false) hmix ?_
        | (refine wpG_split rfl rfl (fun hc => ?_) (fun hc => ?_) <;> try simp only [decide_eq_true_eq, decide_eq_false_iff_not, Bool.not_eq_true', Bool.not_eq_false', Bool.false_eq_true, Bool.true_eq_false, reduceCtorEq, Bool.and_eq_true, Bool.or_eq_true, not_and, not_or] at hc)
        | (refine pw_cond _ rfl rfl (fun hc => ?_) (fun hc => ?_) <;> (try simp only [decide_eq_true_eq, decide_eq_false_iff_not, Bool.not_eq_true', Bool.not_eq_false', Bool.false_eq_true, Bool.true_eq_false, reduceCtorEq, Bool.and_eq_true, Bool.or_eq_true, not_and, not_or] at hc) <;> try (exfalso; omega))
        | simp (maxSteps := 1000000) (disch := omega) only [go_sem, Nat.reduceEqDiff, ↓reduceIte, Nat.reduceLT, Nat.reduceAdd, Nat.reduceSub, Nat.reduceLeDiff, Nat.reduceMul, Int.reduceToNat, reduceCtorEq]
        | apply And.intro
        | omega
        | decide +kernel
      refine int_some ?_
      rw [findIdx_no (fun j y hy => hinv j y (by have := (List.getElem?_eq_some_iff.1 hy).1; omega) hy)]; rfl
theorem containsF_spec (l : List Int) (g : Nat) (p : Int → Bool) (hp : ∀ x, CallsTo Try.prog g [.int x] (.bool (p x))) : CallsTo Try.prog 44 [intsD l, .fn g []] (.bool (l.any p)) := by
  have h := indexF_spec l g p hp
  refine callsTo_of Try.func44 rfl (by decide +kernel) (Nat.le_of_ble_eq_true rfl) ?_
  intro hat B X w0
  repeat' first
    | refine pw_seq ?_
    | refine pw_skip ?_
    | refine pw_ret ?_
    | refine pw_exit ?_
    | refine pw_block ?_
    | refine pw_region (fun _ => false) hmix ?_
    | (refine run_callT (h) rfl rfl ?_ ?_; (· first | exact .inl rfl | exact .inr rfl))
    | (refine run_callT (h) rfl ?_ ?_ ?_; (· first | rfl | (simp (maxSteps := 1000000) (disch := omega) only [go_sem, Nat.reduceEqDiff, ↓reduceIte, Nat.reduceLT, Nat.reduceAdd, Nat.reduceSub, Nat.reduceLeDiff, Nat.reduceMul, Int.reduceToNat, reduceCtorEq]; done)); (· first | exact .inl rfl | exact .inr rfl))
    | (refine wpG_split rfl rfl (fun hc => ?_) (fun hc => ?_) <;> try simp only [decide_eq_true_eq, decide_eq_false_iff_not, Bool.not_eq_true', Bool.not_eq_false', Bool.false_eq_true, Bool.true_eq_false, reduceCtorEq, Bool.and_eq_true, Bool.or_eq_true, not_and, not_or] at hc)
    | (refine pw_cond _ rfl rfl (fun hc => ?_) (fun hc => ?_) <;> (try simp only [decide_eq_true_eq, decide_eq_false_iff_not, Bool.not_eq_true', Bool.not_eq_false', Bool.false_eq_true, Bool.true_eq_false, reduceCtorEq, Bool.and_eq_true, Bool.or_eq_true, not_and, not_or] at hc) <;> try (exfalso; omega))
    | simp (maxSteps := 1000000) (disch := omega) only [go_sem, Nat.reduceEqDiff, ↓reduceIte, Nat.reduceLT, Nat.reduceAdd, Nat.reduceSub, Nat.reduceLeDiff, Nat.reduceMul, Int.reduceToNat, reduceCtorEq]
    | apply And.intro
    | omega
    | decide +kernel
  exact bool_some (idx_any p l)
theorem containsFA_spec (l : List Arc) (g : Nat) (p : Arc → Bool) (hp : ∀ x, CallsTo Try.prog g [arcD x] (.bool (p x))) : CallsTo Try.prog 46 [arcsD l, .fn g []] (.bool (l.any p)) := by
  have h := indexFA_spec l g p hp
  refine callsTo_of Try.func46 rfl (by decide +kernel) (Nat.le_of_ble_eq_true rfl) ?_
  intro hat B X w0
  repeat' first
    | refine pw_seq ?_
    | refine pw_skip ?_
    | refine pw_ret ?_
    | refine pw_exit ?_
    | refine pw_block ?_
    | refine pw_region (fun _ => false) hmix ?_
    | (refine run_callT (h) rfl rfl ?_ ?_; (· first | exact .inl rfl | exact .inr rfl))
    | (refine run_callT (h) rfl ?_ ?_ ?_; (· first | rfl | (simp (maxSteps := 1000000) (disch := omega) only [go_sem, Nat.reduceEqDiff, ↓reduceIte, Nat.reduceLT, Nat.reduceAdd, Nat.reduceSub, Nat.reduceLeDiff, Nat.reduceMul, Int.reduceToNat, reduceCtorEq]; done)); (· first | exact .inl rfl | exact .inr rfl))
    | (refine wpG_split rfl rfl (fun hc => ?_) (fun hc => ?_) <;> try simp only [decide_eq_true_eq, decide_eq_false_iff_not, Bool.not_eq_true', Bool.not_eq_false', Bool.false_eq_true, Bool.true_eq_false, reduceCtorEq, Bool.and_eq_true, Bool.or_eq_true, not_and, not_or] at hc)
    | (refine pw_cond _ rfl rfl (fun hc => ?_) (fun hc => ?_) <;> (try simp only [decide_eq_true_eq, decide_eq_false_iff_not, Bool.not_eq_true', Bool.not_eq_false', Bool.false_eq_true, Bool.true_eq_false, reduceCtorEq, Bool.and_eq_true, Bool.or_eq_true, not_and, not_or] at hc) <;> try (exfalso; omega))
    | simp (maxSteps := 1000000) (disch := omega) only [go_sem, Nat.reduceEqDiff, ↓reduceIte, Nat.reduceLT, Nat.reduceAdd, Nat.reduceSub, Nat.reduceLeDiff, Nat.reduceMul, Int.reduceToNat, reduceCtorEq]
    | apply And.intro
    | omega
    | decide +kernel
  exact bool_some (idx_any p l)
def rankBad (k : Int) : Bool := decide (k < 0 ∨ 255 < k)
theorem rankBad_spec (k : Int) : CallsTo Try.prog 45 [.int k] (.bool (rankBad k)) := by
  refine callsTo_of Try.func45 rfl (by decide +kernel) (Nat.le_of_ble_eq_true rfl) ?_
  intro hat B X w0
  repeat' first
    | refine pw_seq ?_
    | refine pw_skip ?_
    | refine pw_ret ?_
    | refine pw_exit ?_
    | refine pw_block ?_
    | refine pw_region (fun _ => false) hmix ?_
    | (refine wpG_split rfl rfl (fun hc => ?_) (fun hc => ?_) <;> try simp only [decide_eq_true_eq, decide_eq_false_iff_not, Bool.not_eq_true', Bool.not_eq_false', Bool.false_eq_true, Bool.true_eq_false, reduceCtorEq, Bool.and_eq_true, Bool.or_eq_true, not_and, not_or] at hc)
    | (refine pw_cond _ rfl rfl (fun hc => ?_) (fun hc => ?_) <;> (try simp only [decide_eq_true_eq, decide_eq_false_iff_not, Bool.not_eq_true', Bool.not_eq_false', Bool.false_eq_true, Bool.true_eq_false, reduceCtorEq, Bool.and_eq_true, Bool.or_eq_true, not_and, not_or] at hc) <;> try (exfalso; omega))
    | simp (maxSteps := 1000000) (disch := omega) only [go_sem, Nat.reduceEqDiff, ↓reduceIte, Nat.reduceLT, Nat.reduceAdd, Nat.reduceSub, Nat.reduceLeDiff, Nat.reduceMul, Int.reduceToNat, reduceCtorEq]
    | apply And.intro
    | omega
    | decide +kernel
  all_goals
    refine bool_some ?_
    simp [rankBad]; omega
def loopF (a : Arc) : Bool := decide (a.1 = a.2)
theorem loop_spec (a : Arc) : CallsTo Try.prog 47 [arcD a] (.bool (loopF a)) := by
  refine callsTo_of Try.func47 rfl (by decide +kernel) (Nat.le_of_ble_eq_true rfl) ?_
  intro hat B X w0
  repeat' first
    | refine pw_seq ?_
    | refine pw_skip ?_
    | refine pw_ret ?_
    | refine pw_exit ?_
    | refine pw_block ?_
    | refine pw_region (fun _ => false) hmix ?_
    | (refine wpG_split rfl rfl (fun hc => ?_) (fun hc => ?_) <;> try simp only [decide_eq_true_eq, decide_eq_false_iff_not, Bool.not_eq_true', Bool.not_eq_false', Bool.false_eq_true, Bool.true_eq_false, reduceCtorEq, Bool.and_eq_true, Bool.or_eq_true, not_and, not_or] at hc)
    | (refine pw_cond _ rfl rfl (fun hc => ?_) (fun hc => ?_) <;> (try simp only [decide_eq_true_eq, decide_eq_false_iff_not, Bool.not_eq_true', Bool.not_eq_false', Bool.false_eq_true, Bool.true_eq_false, reduceCtorEq, Bool.and_eq_true, Bool.or_eq_true, not_and, not_or] at hc) <;> try (exfalso; omega))
    | simp (maxSteps := 1000000) (disch := omega) only [go_sem, Nat.reduceEqDiff, ↓reduceIte, Nat.reduceLT, Nat.reduceAdd, Nat.reduceSub, Nat.reduceLeDiff, Nat.reduceMul, Int.reduceToNat, reduceCtorEq]
    | apply And.intro
    | omega
    | decide +kernel
  all_goals exact bool_some rfl
end Go.Proofs.Ytpmmikkojpcogaa