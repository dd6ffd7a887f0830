/- Crossings: sums of upper triangles, reversed layers, awake. -/
import Derived.Test.YtpmmikkojpcogaaCf
import Derived.Test.YtpmmikkojpcogaaK
import Derived.Test.YtpmmikkojpcogaaPSBridge
namespace Go.Proofs.Ytpmmikkojpcogaa
open Go Go.PS Go.Proofs
set_option maxRecDepth 100000
set_option linter.unusedSimpArgs false
set_option linter.unusedVariables false
attribute [local irreducible] wpRun wpG CallsTo CallsM

theorem up_inner {m : List (List Int)} (h : Sq m) {A : Nat} (hA : A < m.length) : ∀ k, k ≤ m.length - 1 - A → 0 ≤ sumZ (fun j => cellAt m A (A + 1 + j)) k ∧ sumZ (fun j => cellAt m A (A + 1 + j)) k ≤ 600 * 1000000 := fun k hk => by
  have := sumZ_bound (f := fun j => cellAt m A (A + 1 + j)) (c := 1000000) k fun j hj => by obtain ⟨_, _, _, _, h5⟩ := h.get (b := A) (a := A + 1 + j) hA (by omega); exact h5
  have := h.len
  have h2 : k * 1000000 ≤ 600 * 1000000 := Nat.mul_le_mul_right _ (by omega)
  omega
theorem up_outer {m : List (List Int)} (h : Sq m) : ∀ k, k ≤ m.length → 0 ≤ sumZ (fun A => sumZ (fun j => cellAt m A (A + 1 + j)) (m.length - 1 - A)) k ∧ sumZ (fun A => sumZ (fun j => cellAt m A (A + 1 + j)) (m.length - 1 - A)) k ≤ 600 * 600000000 := fun k hk => by
  have := sumZ_bound (f := fun A => sumZ (fun j => cellAt m A (A + 1 + j)) (m.length - 1 - A)) (c := 600000000) k fun x hx => by have := up_inner h (A := x) (by omega) _ (Nat.le_refl _); omega
  have := h.len
  have h2 : k * 600000000 ≤ 600 * 600000000 := Nat.mul_le_mul_right _ (by omega)
  omega
set_option maxHeartbeats 4000000 in
theorem upper_spec (m : List (List Int)) (hs : Sq m) (hd : ∀ A, A < m.length → cellAt m A A = 0) : CallsTo Try.prog 36 [listsD m, .int m.length] (.tup [.int (upF m m.length), .bool true]) := by
  have hml := hs.len
  rw [upF]
  refine callsTo_of Try.func36 rfl (by decide +kernel) (Nat.le_of_ble_eq_true rfl) ?_
  intro hat B X w0
  repeat' first
    | refine pw_seq ?_
    | refine pw_skip ?_
    | refine pw_ret ?_
    | refine pw_exit ?_
    | refine pw_block ?_
    | refine pw_region (fun _ => false) hmix ?_
    | (refine wpG_split rfl rfl (fun hc => ?_) (fun hc => ?_) <;> try simp only [hcL, reduceCtorEq] at hc)
    | (refine pw_cond _ rfl rfl (fun hc => ?_) (fun hc => ?_) <;> (try simp only [hcL, reduceCtorEq] at hc) <;> try (exfalso; omega))
    | simp (maxSteps := 1000000) (disch := omega) only [go_sem, simprocAttr]
    | apply And.intro
    | omega
    | decide +kernel
  refine pw_loopI (κ := Nat) (fun (A : Nat) => A ≤ m.length) (fun (A : Nat) => [(0, .d (listsD m)), (1, .int m.length), (6, .int (sumZ (fun A => sumZ (fun j => cellAt m A (A + 1 + j)) (m.length - 1 - A)) A)), (7, .int A)]) (fun (A : Nat) => []) (fun (A : Nat) => m.length - A) 0 ?_ ?_ ?_
  · exact Nat.zero_le _
  · exact eL [] _ _ (by refine ⟨?_, ?_⟩ <;> (repeat' first | exact List.forall_mem_nil _ | refine List.forall_mem_cons.2 ⟨(by first | rfl | (simp (disch := omega) only [go_sem, simprocAttr, inL, sumZ]; first | done | omega | (congr 1; done))), ?_⟩); done)
  · intro A hA
    rcases Nat.lt_or_ge A m.length with hlt | hge
    · have ho := up_outer hs A hA
      have ho2 := up_outer hs (A + 1) (by omega)
      have e1 : sumZ (fun A => sumZ (fun j => cellAt m A (A + 1 + j)) (m.length - 1 - A)) (A + 1) = sumZ (fun A => sumZ (fun j => cellAt m A (A + 1 + j)) (m.length - 1 - A)) A + sumZ (fun j => cellAt m A (A + 1 + j)) (m.length - 1 - A) := rfl
      obtain ⟨s0, e0⟩ : ∃ s0, sumZ (fun A => sumZ (fun j => cellAt m A (A + 1 + j)) (m.length - 1 - A)) A = s0 := ⟨_, rfl⟩
      rw [e0] at ho e1
      rw [e1] at ho2
      obtain ⟨p, hp, hpl, hpg, _, _⟩ := hs.get (b := A) (a := A) hlt hlt
      rw [hd A hlt] at hpg
      repeat' first
        | refine pw_seq ?_
        | refine pw_skip ?_
        | refine pw_ret ?_
        | refine pw_exit ?_
        | refine pw_block ?_
        | refine pw_region (fun _ => false) hmix ?_
        | (refine wpG_split rfl rfl (fun hc => ?_) (fun hc => ?_) <;> try simp only [hcL, reduceCtorEq] at hc)
        | (refine pw_cond _ rfl rfl (fun hc => ?_) (fun hc => ?_) <;> (try simp only [hcL, reduceCtorEq] at hc) <;> try (exfalso; omega))
        | simp (maxSteps := 1000000) (disch := omega) only [go_sem, simprocAttr, hp, hpl, hpg]
        | apply And.intro
        | omega
        | decide +kernel
      refine pw_loopI (κ := Nat) (fun (j : Nat) => j ≤ m.length - 1 - A) (fun (j : Nat) => [(0, .d (listsD m)), (1, .int m.length), (6, .int (s0 + sumZ (fun j => cellAt m A (A + 1 + j)) j)), (7, .int A), (8, .int ((A : Int) + 1 + j))]) (fun (j : Nat) => []) (fun (j : Nat) => m.length - 1 - A - j) 0 ?_ ?_ ?_
      · exact Nat.zero_le _
      · exact eL [] _ _ (by refine ⟨?_, ?_⟩ <;> (repeat' first | exact List.forall_mem_nil _ | refine List.forall_mem_cons.2 ⟨(by first | rfl | (simp (disch := omega) only [go_sem, simprocAttr, inL, e0, sumZ, Int.add_zero, Int.natCast_zero]; first | done | omega | (congr 1; done))), ?_⟩); done)
      · intro j hj
        rcases Nat.lt_or_ge j (m.length - 1 - A) with hlj | hgj
        · obtain ⟨p2, hp2, _, hg, g1, g2⟩ := hs.get (b := A) (a := A + 1 + j) hlt (by omega)
          rw [hp] at hp2; cases hp2
          have hi := up_inner hs hlt j hj
          have e2 : sumZ (fun j => cellAt m A (A + 1 + j)) (j + 1) = sumZ (fun j => cellAt m A (A + 1 + j)) j + cellAt m A (A + 1 + j) := rfl
          have en : ((A : Int) + 1 + j).toNat = A + 1 + j := by omega
          repeat' first
            | refine pw_seq ?_
            | refine pw_skip ?_
            | refine pw_ret ?_
            | refine pw_exit ?_
            | refine pw_block ?_
            | refine pw_region (fun _ => false) hmix ?_
            | (refine wpG_split rfl rfl (fun hc => ?_) (fun hc => ?_) <;> try simp only [hcL, reduceCtorEq] at hc)
            | (refine pw_cond _ rfl rfl (fun hc => ?_) (fun hc => ?_) <;> (try simp only [hcL, reduceCtorEq] at hc) <;> try (exfalso; omega))
            | simp (maxSteps := 1000000) (disch := omega) only [go_sem, simprocAttr, hp, hpl, hg, en]
            | apply And.intro
            | omega
            | decide +kernel
          refine ⟨j + 1, ?_, eL [] _ _ (by refine ⟨?_, ?_⟩ <;> (repeat' first | exact List.forall_mem_nil _ | refine List.forall_mem_cons.2 ⟨(by first | rfl | (simp (disch := omega) only [go_sem, simprocAttr, inL, e2, Int.add_assoc, Int.natCast_add, Int.natCast_one]; first | done | omega | (congr 1; done))), ?_⟩); done), ?_⟩
          · omega
          · omega
        · have : j = m.length - 1 - A := by omega
          subst this
          repeat' first
            | refine pw_seq ?_
            | refine pw_skip ?_
            | refine pw_ret ?_
            | refine pw_exit ?_
            | refine pw_block ?_
            | refine pw_region (fun _ => false) hmix ?_
            | (refine wpG_split rfl rfl (fun hc => ?_) (fun hc => ?_) <;> try simp only [hcL, reduceCtorEq] at hc)
            | (refine pw_cond _ rfl rfl (fun hc => ?_) (fun hc => ?_) <;> (try simp only [hcL, reduceCtorEq] at hc) <;> try (exfalso; omega))
            | simp (maxSteps := 1000000) (disch := omega) only [go_sem, simprocAttr]
            | apply And.intro
            | omega
            | decide +kernel
          refine ⟨A + 1, ?_, eL [] _ _ (by refine ⟨?_, ?_⟩ <;> (repeat' first | exact List.forall_mem_nil _ | refine List.forall_mem_cons.2 ⟨(by first | rfl | (simp (disch := omega) only [go_sem, simprocAttr, inL, e1]; first | done | omega | (congr 1; done))), ?_⟩); done), ?_⟩
          · omega
          · omega
    · have : A = m.length := by omega
      subst this
      repeat' first
        | refine pw_seq ?_
        | refine pw_skip ?_
        | refine pw_ret ?_
        | refine pw_exit ?_
        | refine pw_block ?_
        | refine pw_region (fun _ => false) hmix ?_
        | (refine wpG_split rfl rfl (fun hc => ?_) (fun hc => ?_) <;> try simp only [hcL, reduceCtorEq] at hc)
        | (refine pw_cond _ rfl rfl (fun hc => ?_) (fun hc => ?_) <;> (try simp only [hcL, reduceCtorEq] at hc) <;> try (exfalso; omega))
        | simp (maxSteps := 1000000) (disch := omega) only [go_sem, simprocAttr]
        | apply And.intro
        | omega
        | decide +kernel
      exact ⟨_, rfl, int_some rfl, bool_some rfl, trivial⟩
def revL (a : Lv) : Lv := (a.1, a.2.1.map List.reverse, a.2.2.1, a.2.2.2)
theorem take_rev {y : List Int} {k : Nat} {x : Int} (h : y[y.length - 1 - k]? = some x) (hk : k < y.length) : y.reverse.take (k + 1) = y.reverse.take k ++ [x] := by
  refine take_snoc ?_
  rw [List.getElem?_reverse hk]; exact h
set_option maxHeartbeats 4000000 in
theorem reversed_spec (a : Lv) (hn : a.2.1.length ≤ 1000) (hl : ∀ y, y ∈ a.2.1 → y.length ≤ 1000) : CallsTo Try.prog 38 [lvD a] (lvD (revL a)) := by
  obtain ⟨n, ls, ar, cs⟩ := a
  dsimp only at hn hl
  refine callsTo_of Try.func38 rfl (by decide +kernel) (Nat.le_of_ble_eq_true rfl) ?_
  intro hat B X w0
  repeat' first
    | refine pw_seq ?_
    | refine pw_skip ?_
    | refine pw_ret ?_
    | refine pw_exit ?_
    | refine pw_block ?_
    | refine pw_region (fun _ => false) hmix ?_
    | (refine wpG_split rfl rfl (fun hc => ?_) (fun hc => ?_) <;> try simp only [hcL, reduceCtorEq] at hc)
    | (refine pw_cond _ rfl rfl (fun hc => ?_) (fun hc => ?_) <;> (try simp only [hcL, reduceCtorEq] at hc) <;> try (exfalso; omega))
    | simp (maxSteps := 1000000) (disch := omega) only [go_sem, simprocAttr, List.append_eq]
    | apply And.intro
    | omega
    | decide +kernel
  refine pw_ent _ (ent_nilC 3 1 901 1 rfl rfl rfl) ?_
  refine pw_loopI (κ := Nat) (fun (i : Nat) => i ≤ ls.length) (fun (i : Nat) => [(1, .ptr 1 0 0 0), (2, .ptr 2 0 0 0), (3, .ptr 3 0 0 0), (4, .int i)]) (fun (i : Nat) => [(1, .cells [.int n, .d (listsD ls), .d (arcsD ar), .d (listsD cs)]), (2, .cells [.int 0, .nilS, .nilS, .nilS]), (3, .cells [.int n, .ref 901 1 0 i i, .d (arcsD ar), .d (listsD cs)]), (901, .row 1 (((ls.take i).map List.reverse).map intsD))]) (fun (i : Nat) => ls.length - i) 0 ?_ ?_ ?_
  · exact Nat.zero_le _
  · exact eL [] _ _ (by refine ⟨?_, ?_⟩ <;> (repeat' first | exact List.forall_mem_nil _ | refine List.forall_mem_cons.2 ⟨(by first | rfl | (simp (disch := omega) only [go_sem, simprocAttr, inL, List.take_zero, List.map_nil]; first | done | omega | (congr 1; done))), ?_⟩); done)
  · intro i hi
    have hlk : (((ls.take i).map List.reverse).map intsD).length = i := by rw [List.length_map, List.length_map, List.length_take]; omega
    have htk : List.take i (((ls.take i).map List.reverse).map intsD) = ((ls.take i).map List.reverse).map intsD := List.take_of_length_le (by rw [hlk]; exact Nat.le_refl _)
    rcases Nat.lt_or_ge i ls.length with hlt | hge
    · obtain ⟨y, hy⟩ := get_some hlt
      have hyl := hl y (List.mem_of_getElem? hy)
      have hts := take_snoc hy
      repeat' first
        | refine pw_seq ?_
        | refine pw_skip ?_
        | refine pw_ret ?_
        | refine pw_exit ?_
        | refine pw_block ?_
        | refine pw_region (Nat.beq 16) hmix ?_
        | (refine wpG_split rfl rfl (fun hc => ?_) (fun hc => ?_) <;> try simp only [hcL, reduceCtorEq] at hc)
        | (refine pw_cond _ rfl rfl (fun hc => ?_) (fun hc => ?_) <;> (try simp only [hcL, reduceCtorEq] at hc) <;> try (exfalso; omega))
        | simp (maxSteps := 1000000) (disch := omega) only [go_sem, simprocAttr, hy]
        | apply And.intro
        | omega
        | decide +kernel
      refine pw_loopI (κ := Nat) (fun (k : Nat) => k ≤ y.length) (fun (k : Nat) => [(1, .ptr 1 0 0 0), (2, .ptr 2 0 0 0), (3, .ptr 3 0 0 0), (4, .int i), (5, .ref 902 1 0 k k), (6, .int ((y.length : Int) - 1 - k))]) (fun (k : Nat) => [(1, .cells [.int n, .d (listsD ls), .d (arcsD ar), .d (listsD cs)]), (2, .cells [.int 0, .nilS, .nilS, .nilS]), (3, .cells [.int n, .ref 901 1 0 i i, .d (arcsD ar), .d (listsD cs)]), (901, .row 1 (((ls.take i).map List.reverse).map intsD)), (902, .row 1 ((y.reverse.take k).map D.int))]) (fun (k : Nat) => y.length - k) 0 ?_ ?_ ?_
      · exact Nat.zero_le _
      · exact eL [(902, 16)] _ _ (by refine ⟨?_, ?_⟩ <;> (repeat' first | exact List.forall_mem_nil _ | refine List.forall_mem_cons.2 ⟨(by first | rfl | (simp (disch := omega) only [go_sem, simprocAttr, inL, List.take_zero, List.map_nil, Int.natCast_zero, Int.sub_zero]; first | done | omega | (congr 1; done))), ?_⟩); done)
      · intro k hk
        have hlk2 : ((y.reverse.take k).map D.int).length = k := by rw [List.length_map, List.length_take, List.length_reverse]; omega
        have htk2 : List.take k ((y.reverse.take k).map D.int) = (y.reverse.take k).map D.int := List.take_of_length_le (by rw [hlk2]; exact Nat.le_refl _)
        rcases Nat.lt_or_ge k y.length with hkl | hkg
        · obtain ⟨x, hx⟩ := get_some (l := y) (k := y.length - 1 - k) (by omega)
          have hrv := take_rev hx hkl
          have en : ((y.length : Int) - 1 - k).toNat = y.length - 1 - k := by omega
          have eq : (y.length : Int) - 1 - k - 1 = (y.length : Int) - 1 - ((k + 1 : Nat) : Int) := by omega
          repeat' first
            | refine pw_seq ?_
            | refine pw_skip ?_
            | refine pw_ret ?_
            | refine pw_exit ?_
            | refine pw_block ?_
            | refine pw_region (fun _ => false) hmix ?_
            | (refine wpG_split rfl rfl (fun hc => ?_) (fun hc => ?_) <;> try simp only [hcL, reduceCtorEq] at hc)
            | (refine pw_cond _ rfl rfl (fun hc => ?_) (fun hc => ?_) <;> (try simp only [hcL, reduceCtorEq] at hc) <;> try (exfalso; omega))
            | simp (maxSteps := 1000000) (disch := omega) only [go_sem, simprocAttr, hy, hx, en, hlk2, roomy]
            | apply And.intro
            | omega
            | decide +kernel
          refine ⟨k + 1, ?_, eL [(902, 38)] _ _ (by refine ⟨?_, ?_⟩ <;> (repeat' first | exact List.forall_mem_nil _ | refine List.forall_mem_cons.2 ⟨(by first | rfl | (simp (disch := omega) only [go_sem, simprocAttr, inL, hrv, List.map_append, htk2, eq]; first | done | omega | (congr 1; done))), ?_⟩); done), ?_⟩
          · omega
          · omega
        · have : k = y.length := by omega
          subst this
          have hrl : y.reverse.take y.length = y.reverse := List.take_of_length_le (by rw [List.length_reverse]; exact Nat.le_refl _)
          try dsimp only
          rw [hrl]
          have htr : (y.reverse.map D.int).take y.length = y.reverse.map D.int := List.take_of_length_le (by simp)
          have hlr : (y.reverse.map D.int).length = y.length := by simp
          refine pw_ent _ (ent_freeze 902 1 (y.reverse.map D.int) rfl (noGone_of _ rfl) (by decide)) ?_
          repeat' first
            | refine pw_seq ?_
            | refine pw_skip ?_
            | refine pw_ret ?_
            | refine pw_exit ?_
            | refine pw_block ?_
            | refine pw_region (fun _ => false) hmix ?_
            | (refine wpG_split rfl rfl (fun hc => ?_) (fun hc => ?_) <;> try simp only [hcL, reduceCtorEq] at hc)
            | (refine pw_cond _ rfl rfl (fun hc => ?_) (fun hc => ?_) <;> (try simp only [hcL, reduceCtorEq] at hc) <;> try (exfalso; omega))
            | simp (maxSteps := 1000000) (disch := omega) only [go_sem, simprocAttr, hlk, roomy, htr, hlr, List.length_reverse]
            | apply And.intro
            | omega
            | decide +kernel
          refine ⟨i + 1, ?_, eL [(901, 43)] _ _ (by refine ⟨?_, ?_⟩ <;> (repeat' first | exact List.forall_mem_nil _ | refine List.forall_mem_cons.2 ⟨(by first | rfl | (simp (disch := omega) only [go_sem, simprocAttr, inL, hts, List.map_append, htk, htr]; first | done | omega | (congr 1; done))), ?_⟩); done), ?_⟩
          · omega
          · omega
    · have : i = ls.length := by omega
      subst this
      try dsimp only
      rw [List.take_length]
      repeat' first
        | refine pw_seq ?_
        | refine pw_skip ?_
        | refine pw_ret ?_
        | refine pw_exit ?_
        | refine pw_block ?_
        | refine pw_region (fun _ => false) hmix ?_
        | (refine wpG_split rfl rfl (fun hc => ?_) (fun hc => ?_) <;> try simp only [hcL, reduceCtorEq] at hc)
        | (refine pw_cond _ rfl rfl (fun hc => ?_) (fun hc => ?_) <;> (try simp only [hcL, reduceCtorEq] at hc) <;> try (exfalso; omega))
        | simp (maxSteps := 1000000) (disch := omega) only [go_sem, simprocAttr]
        | apply And.intro
        | omega
        | decide +kernel
      refine ⟨_, _, _, _, rfl, ?_⟩
      simp (maxSteps := 1000000) (disch := omega) only [go_sem, simprocAttr, toD, List.length_map, Nat.le_refl, List.drop_zero]
      rw [List.take_of_length_le (by simp)]
      rfl
end Go.Proofs.Ytpmmikkojpcogaa
namespace Go.Proofs.Ytpmmikkojpcogaa
open Go Go.PS Go.Proofs
set_option maxRecDepth 100000
set_option linter.unusedSimpArgs false
set_option linter.unusedVariables false
attribute [local irreducible] wpRun wpG CallsTo CallsM

def cxL : Lv := (4, [[0, 1], [2, 3]], [(0, 3), (1, 2)], [[0, 3], [1, 2]])
def cxK : Lv := (4, [[0, 1], [3, 2]], [(0, 3), (1, 2)], [[0, 3], [1, 2]])
theorem cxL_valid : validF cxL = true := by
  simp only [validF, sortLv, cxL, List.map_cons, List.map_nil, ← insN_eq]
  decide +kernel
theorem cxK_valid : validF cxK = true := by
  simp only [validF, sortLv, cxK, List.map_cons, List.map_nil, ← insN_eq]
  decide +kernel
theorem cx1 : BetweenF cxL 0 = 1 := by simp only [BetweenF, MatrixF, matOk, cxL_valid]; decide +kernel
theorem cx2 : TotalF cxL = 1 := by simp only [TotalF, BetweenF, MatrixF, matOk, cxL_valid]; decide +kernel
theorem cx3 : TotalF cxK = 0 := by simp only [TotalF, BetweenF, MatrixF, matOk, cxK_valid]; decide +kernel
theorem cx4 : MatrixF cxL 0 1 = [[0, 1], [0, 0]] := by simp only [MatrixF, matOk, cxL_valid]; decide +kernel
theorem cx5 : MatrixF cxK 1 0 = [[0, 0], [1, 0]] := by simp only [MatrixF, matOk, cxK_valid]; decide +kernel
theorem cx6 : BetweenF cxL 1 = 0 := by simp only [BetweenF, MatrixF, matOk, cxL_valid]; decide +kernel
theorem cx7 : MatrixF cxL 0 2 = [] := by simp only [MatrixF, matOk, cxL_valid]; decide +kernel
set_option maxHeartbeats 4000000 in
theorem cAwake_spec : CallsTo Try.prog 31 [] (.bool true) := by
  have hwL : wide cxL := by
    intro y hy
    simp only [cxL, List.mem_cons, List.not_mem_nil, or_false] at hy
    rcases hy with rfl | rfl <;> decide
  have hwK : wide cxK := by
    intro y hy
    simp only [cxK, List.mem_cons, List.not_mem_nil, or_false] at hy
    rcases hy with rfl | rfl <;> decide
  have h1 := Between_spec cxL 0 hwL
  have h2 := Total_spec cxL hwL (by decide)
  have h3 := Total_spec cxK hwK (by decide)
  have h4 := Matrix_spec cxL 0 1 hwL
  have h5 := Matrix_spec cxK 1 0 hwK
  have h6 := Between_spec cxL 1 hwL
  have h7 := Matrix_spec cxL 0 2 hwL
  have h8 := same_spec [[0, 1], [0, 0]] (by decide) (by decide)
  have h9 := same_spec [[0, 0], [1, 0]] (by decide) (by decide)
  rw [cx1] at h1
  rw [cx2] at h2
  rw [cx3] at h3
  rw [cx4] at h4
  rw [cx5] at h5
  rw [cx6] at h6
  rw [cx7] at h7
  simp only [cxL, cxK, List.map_cons, List.map_nil] at h1 h2 h3 h4 h5 h6 h7 h8 h9
  refine callsTo_of Try.func31 rfl (by decide +kernel) (Nat.le_of_ble_eq_true rfl) ?_
  intro hat B X w0
  repeat' first
    | refine pw_seq ?_
    | refine pw_skip ?_
    | refine pw_ret ?_
    | refine pw_exit ?_
    | refine pw_block ?_
    | refine pw_region (fun _ => false) hmix ?_
    | (refine rc (h1) rfl ?_ ?_; (· first | rfl | (simp (disch := omega) only [go_sem, simprocAttr, List.append_eq, List.map_cons, List.map_nil]; done)))
    | (refine rc (h2) rfl ?_ ?_; (· first | rfl | (simp (disch := omega) only [go_sem, simprocAttr, List.append_eq, List.map_cons, List.map_nil]; done)))
    | (refine rc (h3) rfl ?_ ?_; (· first | rfl | (simp (disch := omega) only [go_sem, simprocAttr, List.append_eq, List.map_cons, List.map_nil]; done)))
    | (refine rc (h4) rfl ?_ ?_; (· first | rfl | (simp (disch := omega) only [go_sem, simprocAttr, List.append_eq, List.map_cons, List.map_nil]; done)))
    | (refine rc (h5) rfl ?_ ?_; (· first | rfl | (simp (disch := omega) only [go_sem, simprocAttr, List.append_eq, List.map_cons, List.map_nil]; done)))
    | (refine rc (h6) rfl ?_ ?_; (· first | rfl | (simp (disch := omega) only [go_sem, simprocAttr, List.append_eq, List.map_cons, List.map_nil]; done)))
    | (refine rc (h7) rfl ?_ ?_; (· first | rfl | (simp (disch := omega) only [go_sem, simprocAttr, List.append_eq, List.map_cons, List.map_nil]; done)))
    | (refine rc (h8) rfl ?_ ?_; (· first | rfl | (simp (disch := omega) only [go_sem, simprocAttr, List.append_eq, List.map_cons, List.map_nil]; done)))
    | (refine rc (h9) rfl ?_ ?_; (· first | rfl | (simp (disch := omega) only [go_sem, simprocAttr, List.append_eq, List.map_cons, List.map_nil]; done)))
    | (refine wpG_split rfl rfl (fun hc => ?_) (fun hc => ?_) <;> try simp only [hcL, reduceCtorEq] at hc)
    | (refine pw_cond _ rfl rfl (fun hc => ?_) (fun hc => ?_) <;> (try simp only [hcL, reduceCtorEq] at hc) <;> try (exfalso; omega))
    | simp (maxSteps := 1000000) (disch := omega) only [go_sem, simprocAttr, List.append_eq, List.map_cons, List.map_nil]
    | apply And.intro
    | omega
    | decide +kernel
  exact bool_some rfl
theorem lawCounts (a : Lv) (i : Int) (hw : wide a) : CallsTo Try.prog 13 [lvD a, .int i] (.bool true) := by
  have h1 := Few_spec a
  have h9 := cAwake_spec
  rcases hf : fewF a with _ | _ <;> rw [hf] at h1
  · refine callsTo_of Try.func13 rfl (by decide +kernel) (Nat.le_of_ble_eq_true rfl) ?_
    intro hat B X w0
    repeat' first
      | refine pw_seq ?_
      | refine pw_skip ?_
      | refine pw_ret ?_
      | refine pw_exit ?_
      | refine pw_block ?_
      | refine pw_region (fun _ => false) hmix ?_
      | (refine rc (h1) rfl ?_ ?_; (· first | rfl | (simp (disch := omega) only [go_sem, simprocAttr, List.append_eq]; done)))
      | (refine rc (h9) rfl ?_ ?_; (· first | rfl | (simp (disch := omega) only [go_sem, simprocAttr, List.append_eq]; done)))
      | (refine wpG_split rfl rfl (fun hc => ?_) (fun hc => ?_) <;> try simp only [hcL, reduceCtorEq] at hc)
      | (refine pw_cond _ rfl rfl (fun hc => ?_) (fun hc => ?_) <;> (try simp only [hcL, reduceCtorEq] at hc) <;> try (exfalso; omega))
      | simp (maxSteps := 1000000) (disch := omega) only [go_sem, simprocAttr, List.append_eq]
      | apply And.intro
      | omega
      | decide +kernel
    exact bool_some rfl
  · obtain ⟨f1, f2, f3, f4, f5⟩ := few_in hf
    have h2 := Between_spec a i hw
    have h3 := rBetween_spec a i hw
    rw [← between_same] at h3
    have h4 := Total_spec a hw (by omega)
    have h5 := rTotal_spec a hw (by omega)
    rw [← total_same] at h5
    have h6 := Straight_spec a hw
    have h7 := rStraight_spec a hw
    rw [← straight_same] at h7
    refine callsTo_of Try.func13 rfl (by decide +kernel) (Nat.le_of_ble_eq_true rfl) ?_
    intro hat B X w0
    repeat' first
      | refine pw_seq ?_
      | refine pw_skip ?_
      | refine pw_ret ?_
      | refine pw_exit ?_
      | refine pw_block ?_
      | refine pw_region (fun _ => false) hmix ?_
      | (refine rc (h1) rfl ?_ ?_; (· first | rfl | (simp (disch := omega) only [go_sem, simprocAttr, List.append_eq]; done)))
      | (refine rc (h2) rfl ?_ ?_; (· first | rfl | (simp (disch := omega) only [go_sem, simprocAttr, List.append_eq]; done)))
      | (refine rc (h3) rfl ?_ ?_; (· first | rfl | (simp (disch := omega) only [go_sem, simprocAttr, List.append_eq]; done)))
      | (refine rc (h4) rfl ?_ ?_; (· first | rfl | (simp (disch := omega) only [go_sem, simprocAttr, List.append_eq]; done)))
      | (refine rc (h5) rfl ?_ ?_; (· first | rfl | (simp (disch := omega) only [go_sem, simprocAttr, List.append_eq]; done)))
      | (refine rc (h6) rfl ?_ ?_; (· first | rfl | (simp (disch := omega) only [go_sem, simprocAttr, List.append_eq]; done)))
      | (refine rc (h7) rfl ?_ ?_; (· first | rfl | (simp (disch := omega) only [go_sem, simprocAttr, List.append_eq]; done)))
      | (refine rc (h9) rfl ?_ ?_; (· first | rfl | (simp (disch := omega) only [go_sem, simprocAttr, List.append_eq]; done)))
      | (refine wpG_split rfl rfl (fun hc => ?_) (fun hc => ?_) <;> try simp only [hcL, reduceCtorEq] at hc)
      | (refine pw_cond _ rfl rfl (fun hc => ?_) (fun hc => ?_) <;> (try simp only [hcL, reduceCtorEq] at hc) <;> try (exfalso; omega))
      | simp (maxSteps := 1000000) (disch := omega) only [go_sem, simprocAttr, List.append_eq]
      | apply And.intro
      | omega
      | decide +kernel
    exact bool_some rfl
theorem Near.diagD {a : Lv} {i : Nat} {y z : List Int} (h : Near a i y z) : ∀ A, A < (MatrixF a i ((i : Int) + 1)).length → cellAt (MatrixF a i ((i : Int) + 1)) A A = 0 := fun A hA => by
  rw [h.lenD] at hA
  rw [h.cellD hA hA, if_pos rfl]
theorem Near.diagU {a : Lv} {i : Nat} {y z : List Int} (h : Near a i y z) : ∀ A, A < (MatrixF a ((i : Int) + 1) i).length → cellAt (MatrixF a ((i : Int) + 1) i) A A = 0 := fun A hA => by
  rw [h.lenU] at hA
  rw [h.cellU hA hA, if_pos rfl]
set_option maxHeartbeats 4000000 in
theorem lawSums (a : Lv) (hw : wide a) : CallsTo Try.prog 11 [lvD a] (.bool true) := by
  have h1 := Few_spec a
  have h9 := cAwake_spec
  have h2 := rLvValid_spec a hw
  rw [← valid_same] at h2
  rcases hf : fewF a with _ | _ <;> rw [hf] at h1
  · refine callsTo_of Try.func11 rfl (by decide +kernel) (Nat.le_of_ble_eq_true rfl) ?_
    intro hat B X w0
    repeat' first
      | refine pw_seq ?_
      | refine pw_skip ?_
      | refine pw_ret ?_
      | refine pw_exit ?_
      | refine pw_block ?_
      | refine pw_region (fun _ => false) hmix ?_
      | (refine rc (h1) rfl ?_ ?_; (· first | rfl | (simp (disch := omega) only [go_sem, simprocAttr, List.append_eq]; done)))
      | (refine rc (h9) rfl ?_ ?_; (· first | rfl | (simp (disch := omega) only [go_sem, simprocAttr, List.append_eq]; done)))
      | (refine wpG_split rfl rfl (fun hc => ?_) (fun hc => ?_) <;> try simp only [hcL, reduceCtorEq] at hc)
      | (refine pw_cond _ rfl rfl (fun hc => ?_) (fun hc => ?_) <;> (try simp only [hcL, reduceCtorEq] at hc) <;> try (exfalso; omega))
      | simp (maxSteps := 1000000) (disch := omega) only [go_sem, simprocAttr, List.append_eq]
      | apply And.intro
      | omega
      | decide +kernel
    exact bool_some rfl
  · obtain ⟨f1, f2, f3, f4, f5⟩ := few_in hf
    rcases hv : validF a with _ | _ <;> rw [hv] at h2
    · refine callsTo_of Try.func11 rfl (by decide +kernel) (Nat.le_of_ble_eq_true rfl) ?_
      intro hat B X w0
      repeat' first
        | refine pw_seq ?_
        | refine pw_skip ?_
        | refine pw_ret ?_
        | refine pw_exit ?_
        | refine pw_block ?_
        | refine pw_region (fun _ => false) hmix ?_
        | (refine rc (h1) rfl ?_ ?_; (· first | rfl | (simp (disch := omega) only [go_sem, simprocAttr, List.append_eq]; done)))
        | (refine rc (h2) rfl ?_ ?_; (· first | rfl | (simp (disch := omega) only [go_sem, simprocAttr, List.append_eq]; done)))
        | (refine rc (h9) rfl ?_ ?_; (· first | rfl | (simp (disch := omega) only [go_sem, simprocAttr, List.append_eq]; done)))
        | (refine wpG_split rfl rfl (fun hc => ?_) (fun hc => ?_) <;> try simp only [hcL, reduceCtorEq] at hc)
        | (refine pw_cond _ rfl rfl (fun hc => ?_) (fun hc => ?_) <;> (try simp only [hcL, reduceCtorEq] at hc) <;> try (exfalso; omega))
        | simp (maxSteps := 1000000) (disch := omega) only [go_sem, simprocAttr, List.append_eq]
        | apply And.intro
        | omega
        | decide +kernel
      exact bool_some rfl
    · have h3 := fun i => Between_spec a i hw
      have h4 := Total_spec a hw (by omega)
      have h5 := fun i f => Matrix_spec a i f hw
      have hnr := fun i (hi : i + 1 < a.2.1.length) => near_of hv hi
      have hbl := BetweenF_le a
      have hsl : ∀ k, k ≤ a.2.1.length → 0 ≤ sumZ (fun i => BetweenF a i) k ∧ sumZ (fun i => BetweenF a i) k ≤ 1000 * 360000000000 := fun k hk => by
        have := sumZ_bound (f := fun i => BetweenF a i) (c := 360000000000) k fun i _ => hbl i
        have h2 : k * 360000000000 ≤ 1000 * 360000000000 := Nat.mul_le_mul_right _ (by omega)
        omega
      have hlast : ∀ k : Nat, k + 1 = a.2.1.length → BetweenF a k = 0 := fun k hk => by
        rw [BetweenF, if_pos (by simp only [noPair, decide_eq_true_eq]; omega)]
      have hup : ∀ (i : Nat) y z, Near a i y z → CallsTo Try.prog 36 [listsD (MatrixF a i ((i : Int) + 1)), .int y.length] (.tup [.int (BetweenF a i), .bool true]) := fun i y z hn => by
        have := upper_spec _ (MatrixF_sq a i ((i : Int) + 1)) hn.diagD
        rw [hn.lenD, hn.upD, ← hn.between] at this
        exact this
      have hup2 : ∀ (i : Nat) y z, Near a i y z → CallsTo Try.prog 36 [listsD (MatrixF a ((i : Int) + 1) i), .int z.length] (.tup [.int (BetweenF a i), .bool true]) := fun i y z hn => by
        have := upper_spec _ (MatrixF_sq a ((i : Int) + 1) i) hn.diagU
        rw [hn.lenU, hn.upU, ← hn.between] at this
        exact this
      obtain ⟨n, ls, ar, cs⟩ := a
      dsimp only at f1 f2 f3 f4 f5 hnr hsl hlast
      rw [TotalF] at h4
      dsimp only at h4
      generalize hB : (fun i : Nat => BetweenF (n, ls, ar, cs) i) = Bf at hsl h4
      have hBf : ∀ i : Nat, Bf i = BetweenF (n, ls, ar, cs) i := fun i => by rw [← hB]
      have hlast2 : ∀ k : Nat, k + 1 = ls.length → Bf k = 0 := fun k hk => by rw [hBf]; exact hlast k hk
      clear hlast hbl hB
      refine callsTo_of Try.func11 rfl (by decide +kernel) (Nat.le_of_ble_eq_true rfl) ?_
      intro hat B X w0
      repeat' first
        | refine pw_seq ?_
        | refine pw_skip ?_
        | refine pw_ret ?_
        | refine pw_exit ?_
        | refine pw_block ?_
        | refine pw_region (fun _ => false) hmix ?_
        | (refine rc (h1) rfl ?_ ?_; (· first | rfl | (simp (disch := omega) only [go_sem, simprocAttr, List.append_eq]; done)))
        | (refine rc (h2) rfl ?_ ?_; (· first | rfl | (simp (disch := omega) only [go_sem, simprocAttr, List.append_eq]; done)))
        | (refine wpG_split rfl rfl (fun hc => ?_) (fun hc => ?_) <;> try simp only [hcL, reduceCtorEq] at hc)
        | (refine pw_cond _ rfl rfl (fun hc => ?_) (fun hc => ?_) <;> (try simp only [hcL, reduceCtorEq] at hc) <;> try (exfalso; omega))
        | simp (maxSteps := 1000000) (disch := omega) only [go_sem, simprocAttr, List.append_eq]
        | apply And.intro
        | omega
        | decide +kernel
      refine pw_loopI (κ := Nat) (fun (i : Nat) => i ≤ ls.length - 1) (fun (i : Nat) => [(1, .ptr 1 0 0 0), (3, .int (sumZ Bf i)), (4, .int i)]) (fun (i : Nat) => [(1, .cells [.int n, .d (listsD ls), .d (arcsD ar), .d (listsD cs)])]) (fun (i : Nat) => ls.length - i) 0 ?_ ?_ ?_
      · exact Nat.zero_le _
      · exact eL [] _ _ (by refine ⟨?_, ?_⟩ <;> (repeat' first | exact List.forall_mem_nil _ | refine List.forall_mem_cons.2 ⟨(by first | rfl | (simp (disch := omega) only [go_sem, simprocAttr, inL, sumZ]; first | done | omega | (congr 1; done))), ?_⟩); done)
      · intro i hi
        have s1 := hsl i (by omega)
        rcases Nat.lt_or_ge (i + 1) ls.length with hlt | hge
        · obtain ⟨y, z, hn⟩ := hnr i hlt
          have hy := hn.hy
          have hz := hn.hz
          dsimp only at hy hz
          have s2 := hsl (i + 1) (by omega)
          have e1 : sumZ Bf (i + 1) = sumZ Bf i + Bf i := rfl
          have u1 := hup i y z hn
          have u2 := hup2 i y z hn
          have b1 := h3 i
          have m1 := h5 i ((i : Int) + 1)
          have m2 := h5 ((i : Int) + 1) i
          rw [← hBf] at b1 u1 u2
          generalize MatrixF (n, ls, ar, cs) i ((i : Int) + 1) = M1 at m1 u1
          generalize MatrixF (n, ls, ar, cs) ((i : Int) + 1) i = M2 at m2 u2
          have en : ((i : Int) + 1).toNat = i + 1 := by omega
          repeat' first
            | refine pw_seq ?_
            | refine pw_skip ?_
            | refine pw_ret ?_
            | refine pw_exit ?_
            | refine pw_block ?_
            | refine pw_region (fun _ => false) hmix ?_
            | (refine rc (b1) rfl ?_ ?_; (· first | rfl | (simp (disch := omega) only [go_sem, simprocAttr, List.append_eq, hy, hz, en]; done)))
            | (refine rc (m1) rfl ?_ ?_; (· first | rfl | (simp (disch := omega) only [go_sem, simprocAttr, List.append_eq, hy, hz, en]; done)))
            | (refine rc (m2) rfl ?_ ?_; (· first | rfl | (simp (disch := omega) only [go_sem, simprocAttr, List.append_eq, hy, hz, en]; done)))
            | (refine rc (u1) rfl ?_ ?_; (· first | rfl | (simp (disch := omega) only [go_sem, simprocAttr, List.append_eq, hy, hz, en]; done)))
            | (refine rc (u2) rfl ?_ ?_; (· first | rfl | (simp (disch := omega) only [go_sem, simprocAttr, List.append_eq, hy, hz, en]; done)))
            | (refine wpG_split rfl rfl (fun hc => ?_) (fun hc => ?_) <;> try simp only [hcL, reduceCtorEq] at hc)
            | (refine pw_cond _ rfl rfl (fun hc => ?_) (fun hc => ?_) <;> (try simp only [hcL, reduceCtorEq] at hc) <;> try (exfalso; omega))
            | simp (maxSteps := 1000000) (disch := omega) only [go_sem, simprocAttr, List.append_eq, hy, hz, en]
            | apply And.intro
            | omega
            | decide +kernel
          refine ⟨i + 1, ?_, eL [] _ _ (by refine ⟨?_, ?_⟩ <;> (repeat' first | exact List.forall_mem_nil _ | refine List.forall_mem_cons.2 ⟨(by first | rfl | (simp (disch := omega) only [go_sem, simprocAttr, inL, e1]; first | done | omega | (congr 1; done))), ?_⟩); done), ?_⟩
          · omega
          · omega
        · have : i = ls.length - 1 := by omega
          subst this
          have e2 : sumZ Bf ls.length = sumZ Bf (ls.length - 1) := by
            rcases Nat.eq_zero_or_pos ls.length with h0 | h0
            · rw [h0]
            · obtain ⟨k, hk⟩ : ∃ k, ls.length = k + 1 := ⟨ls.length - 1, by omega⟩
              rw [hk, Nat.add_sub_cancel, sumZ, hlast2 k hk.symm]; omega
          rw [e2] at h4
          repeat' first
            | refine pw_seq ?_
            | refine pw_skip ?_
            | refine pw_ret ?_
            | refine pw_exit ?_
            | refine pw_block ?_
            | refine pw_region (fun _ => false) hmix ?_
            | (refine rc (h4) rfl ?_ ?_; (· first | rfl | (simp (disch := omega) only [go_sem, simprocAttr]; done)))
            | (refine rc (h9) rfl ?_ ?_; (· first | rfl | (simp (disch := omega) only [go_sem, simprocAttr]; done)))
            | (refine wpG_split rfl rfl (fun hc => ?_) (fun hc => ?_) <;> try simp only [hcL, reduceCtorEq] at hc)
            | (refine pw_cond _ rfl rfl (fun hc => ?_) (fun hc => ?_) <;> (try simp only [hcL, reduceCtorEq] at hc) <;> try (exfalso; omega))
            | simp (maxSteps := 1000000) (disch := omega) only [go_sem, simprocAttr]
            | apply And.intro
            | omega
            | decide +kernel
          exact bool_some rfl
end Go.Proofs.Ytpmmikkojpcogaa
namespace Go.Proofs.Ytpmmikkojpcogaa
open Go Go.PS Go.Proofs

theorem sortL_congr {l m : List Int} (h : l.Perm m) : sortL l = sortL m :=
  List.Perm.eq_of_pairwise (le := (· ≤ ·)) (fun a b _ _ h1 h2 => Int.le_antisymm h1 h2) (sortL_sorted l) (sortL_sorted m) ((sortL_perm l).trans (h.trans (sortL_perm m).symm))
theorem rev_valid (a : Lv) : validF (revL a) = validF a := by
  refine valid_sort ?_
  simp only [sortLv, revL, List.map_map]
  congr 2
  refine List.map_congr_left fun y _ => ?_
  exact sortL_congr (List.reverse_perm y)
theorem pairs_map {y z y' z' : List Int} {ar : List Arc} {g : Pr → Pr} (h : ∀ x, x ∈ ar → pairOf y' z' x = (pairOf y z x).map g) : pairsF y' z' ar = (pairsF y z ar).map g := by
  rw [pairsF, pairsF, List.map_flatMap]
  induction ar with
  | nil => rfl
  | cons x ar ih => rw [List.flatMap_cons, List.flatMap_cons, h x (by simp), ih fun w hw => h w (List.mem_cons_of_mem _ hw)]
namespace Near
variable {a : Lv} {i : Nat} {y z : List Int}
theorem nodups (h : Near a i y z) : y.Nodup ∧ z.Nodup := by
  have hn := (List.pairwise_flatten.1 (valid_nodup h.ok)).1
  exact ⟨hn y (List.mem_of_getElem? h.hy), hn z (List.mem_of_getElem? h.hz)⟩
theorem rev (h : Near a i y z) : Near (revL a) i y.reverse z.reverse :=
  ⟨by rw [rev_valid]; exact h.ok, by rw [revL, List.getElem?_map, h.hy]; rfl, by rw [revL, List.getElem?_map, h.hz]; rfl⟩
theorem rev_pairs (h : Near a i y z) : pairsF y.reverse z.reverse a.2.2.1 = (pairsF y z a.2.2.1).map fun e => ((y.length : Int) - 1 - e.1, (z.length : Int) - 1 - e.2) := by
  refine pairs_map fun x hx => ?_
  obtain ⟨r, p, q, hj⟩ := h.joins x hx
  have hn := valid_nodup h.ok
  obtain ⟨n1, n2⟩ := h.nodups
  rw [pairOf_joins hn hj h.hy h.hz]
  by_cases c : r = i
  · subst c
    have hlt := hj.lt h.hy h.hz
    obtain ⟨⟨u, h1, h2⟩, ⟨v, h3, h4⟩⟩ := hj
    rw [h.hy] at h1; cases h1
    rw [h.hz] at h3; cases h3
    have e1 : placeF y.reverse x.1 = ((y.length - 1 - p : Nat) : Int) := placeF_at ((List.reverse_perm y).nodup_iff.2 n1) (by rw [List.getElem?_reverse (by omega)]; rw [show y.length - 1 - (y.length - 1 - p) = p by omega]; exact h2)
    have e2 : placeF z.reverse x.2 = ((z.length - 1 - q : Nat) : Int) := placeF_at ((List.reverse_perm z).nodup_iff.2 n2) (by rw [List.getElem?_reverse (by omega)]; rw [show z.length - 1 - (z.length - 1 - q) = q by omega]; exact h4)
    rw [pairOf, e1, e2, if_pos (by omega), if_pos rfl]
    simp only [List.map_cons, List.map_nil, List.cons.injEq, Prod.mk.injEq, and_true]
    omega
  · rw [if_neg c, pairOf, placeF_no (v := x.1) (fun hm => ?_)]
    · rfl
    · have hm := List.mem_reverse.1 hm
      obtain ⟨k, hk⟩ := List.getElem?_of_mem hm
      exact c (hj.up.layer hn ⟨y, h.hy, hk⟩)
theorem rev_between (h : Near a i y z) : BetweenF (revL a) i = BetweenF a i := by
  rw [h.rev.between, h.between, Near.cr, Near.cr]
  show W _ (pairsF y.reverse z.reverse a.2.2.1) (pairsF y.reverse z.reverse a.2.2.1) = _
  rw [h.rev_pairs, W_map, W_swap]
  exact W_congr fun x _ w _ => ind_congr ⟨fun h => ⟨by omega, by omega⟩, fun h => ⟨by omega, by omega⟩⟩
end Near
theorem rev_total {a : Lv} (h : validF a = true) : TotalF (revL a) = TotalF a := by
  have hl : (revL a).2.1.length = a.2.1.length := by simp [revL]
  rw [TotalF, TotalF, hl]
  refine sumZ_congr _ fun i hi => ?_
  by_cases c : i + 1 < a.2.1.length
  · obtain ⟨y, z, hn⟩ := near_of h c
    exact hn.rev_between
  · have e : ∀ b : Lv, b.2.1.length = a.2.1.length → BetweenF b i = 0 := fun b hb => by
      rw [BetweenF, if_pos (by simp only [noPair, decide_eq_true_eq, hb]; omega)]
    rw [e _ hl, e _ rfl]
/-- Two neighbors exchanged. -/
def swapK (y : List Int) (k : Nat) : List Int := (y.set k (at0 y ((k + 1 : Nat) : Int))).set (k + 1) (at0 y k)
theorem swapK_get {y : List Int} {k : Nat} (hk : k + 1 < y.length) (j : Nat) : (swapK y k)[j]? = if j = k then y[k + 1]? else if j = k + 1 then y[k]? else y[j]? := by
  have g0 := at0_at (r := y) (i := k) (by omega)
  have g1 := at0_at (r := y) (i := k + 1) hk
  rw [swapK, List.getElem?_set, List.getElem?_set, List.length_set]
  by_cases c1 : j = k
  · subst c1
    rw [if_neg (by omega), if_pos rfl, if_pos (by omega), if_pos rfl, g1]
  · by_cases c2 : j = k + 1
    · subst c2
      rw [if_pos rfl, if_pos hk, if_neg c1, if_pos rfl, g0]
    · rw [if_neg (fun h => c2 h.symm), if_neg (fun h => c1 h.symm), if_neg c1, if_neg c2]
theorem swapK_len (y : List Int) (k : Nat) : (swapK y k).length = y.length := by simp [swapK]
theorem swapK_perm {y : List Int} {k : Nat} (hk : k + 1 < y.length) : (swapK y k).Perm y := by
  have g0 := at0_at (r := y) (i := k) (by omega)
  have g1 := at0_at (r := y) (i := k + 1) hk
  have h1 : y = y.take k ++ at0 y k :: at0 y ((k + 1 : Nat) : Int) :: y.drop (k + 2) := by
    have d0 := List.drop_eq_getElem_cons (l := y) (i := k) (by omega)
    have d1 := List.drop_eq_getElem_cons (l := y) (i := k + 1) hk
    obtain ⟨_, e0⟩ := List.getElem?_eq_some_iff.1 g0
    obtain ⟨_, e1⟩ := List.getElem?_eq_some_iff.1 g1
    rw [e0] at d0
    rw [e1] at d1
    conv => lhs; rw [← List.take_append_drop k y, d0, d1]
  have h2 : swapK y k = y.take k ++ at0 y ((k + 1 : Nat) : Int) :: at0 y k :: y.drop (k + 2) := by
    refine List.ext_getElem? fun j => ?_
    rw [swapK_get hk]
    have hl : (y.take k).length = k := by rw [List.length_take]; omega
    rcases Nat.lt_trichotomy j k with c | c | c
    · rw [if_neg (by omega), if_neg (by omega), List.getElem?_append_left (by omega), List.getElem?_take_of_lt c]
    · subst c
      rw [if_pos rfl, List.getElem?_append_right (by omega), hl, Nat.sub_self]; exact g1
    · rw [if_neg (by omega), List.getElem?_append_right (by omega), hl]
      by_cases c2 : j = k + 1
      · subst c2
        rw [if_pos rfl, show k + 1 - k = 0 + 1 by omega, List.getElem?_cons_succ]; exact g0
      · rw [if_neg c2, show j - k = (j - (k + 2)) + 1 + 1 by omega, List.getElem?_cons_succ, List.getElem?_cons_succ, List.getElem?_drop]
        congr 1; omega
  rw [h2]
  conv => rhs; rw [h1]
  exact List.Perm.append_left _ (List.Perm.swap _ _ _)
def tau (k : Nat) (u : Int) : Int := if u = k then (k : Int) + 1 else if u = (k : Int) + 1 then k else u
def turnL (a : Lv) (i k : Nat) (y : List Int) : Lv := (a.1, a.2.1.set i (swapK y k), a.2.2.1, a.2.2.2)
namespace Near
variable {a : Lv} {i k : Nat} {y z : List Int}
theorem turn (h : Near a i y z) (hk : k + 1 < y.length) : Near (turnL a i k y) i (swapK y k) z := by
  have hl := h.lt
  refine ⟨?_, ?_, ?_⟩
  · rw [turnL, valid_sort (reorder_sort h.hy (sortL_congr (swapK_perm hk)))]; exact h.ok
  · rw [turnL, List.getElem?_set, if_pos rfl, if_pos (by omega)]
  · rw [turnL, List.getElem?_set, if_neg (by omega)]; exact h.hz
theorem turn_pairs (h : Near a i y z) (hk : k + 1 < y.length) : pairsF (swapK y k) z a.2.2.1 = (pairsF y z a.2.2.1).map fun e => (tau k e.1, e.2) := by
  refine pairs_map fun x hx => ?_
  obtain ⟨r, p, q, hj⟩ := h.joins x hx
  have hn := valid_nodup h.ok
  obtain ⟨n1, n2⟩ := h.nodups
  have n3 : (swapK y k).Nodup := (swapK_perm hk).nodup_iff.2 n1
  rw [pairOf_joins hn hj h.hy h.hz]
  by_cases c : r = i
  · subst c
    obtain ⟨⟨u, h1, h2⟩, ⟨v, h3, h4⟩⟩ := hj
    rw [h.hy] at h1; cases h1
    rw [h.hz] at h3; cases h3
    have e2 := placeF_at n2 h4
    have e1 : placeF (swapK y k) x.1 = tau k p := by
      rw [tau]
      by_cases c1 : p = k
      · subst c1
        rw [if_pos rfl, placeF_at n3 (p := p + 1) (by rw [swapK_get hk, if_neg (by omega), if_pos rfl]; exact h2)]; rfl
      · by_cases c2 : p = k + 1
        · subst c2
          rw [if_neg (by omega), if_pos (by omega), placeF_at n3 (p := k) (by rw [swapK_get hk, if_pos rfl]; exact h2)]
        · rw [if_neg (by omega), if_neg (by omega), placeF_at n3 (p := p) (by rw [swapK_get hk, if_neg c1, if_neg c2]; exact h2)]
    have ht : 0 ≤ tau k p := by unfold tau; split <;> (try split) <;> omega
    rw [pairOf, e1, e2, if_pos ⟨ht, by omega⟩, if_pos rfl]
    rfl
  · rw [if_neg c, pairOf, placeF_no (v := x.1) (fun hm => ?_)]
    · rfl
    · have hm := (swapK_perm hk).mem_iff.1 hm
      obtain ⟨j, hj2⟩ := List.getElem?_of_mem hm
      exact c (hj.up.layer hn ⟨y, h.hy, hj2⟩)
theorem turn_between (h : Near a i y z) (hk : k + 1 < y.length) : BetweenF (turnL a i k y) i - BetweenF a i = cellAt (MatrixF a i ((i : Int) + 1)) (k + 1) k - cellAt (MatrixF a i ((i : Int) + 1)) k (k + 1) := by
  rw [(h.turn hk).between, h.between, Near.cr, Near.cr, h.cellD hk (by omega), h.cellD (by omega) hk, if_neg (by omega), if_neg (by omega)]
  show W _ (pairsF (swapK y k) z a.2.2.1) (pairsF (swapK y k) z a.2.2.1) - _ = _
  rw [h.turn_pairs hk, W_map, ← W_sub, ← W_sub]
  refine W_congr fun x _ w _ => ?_
  simp only [ind, tau]
  by_cases c : w.2 < x.2
  · simp only [c, and_true]
    (repeat' split) <;> omega
  · simp only [c, and_false, if_false]
end Near
end Go.Proofs.Ytpmmikkojpcogaa
namespace Go.Proofs.Ytpmmikkojpcogaa
open Go Go.PS Go.Proofs
set_option maxRecDepth 100000
set_option linter.unusedSimpArgs false
set_option linter.unusedVariables false
attribute [local irreducible] wpRun wpG CallsTo CallsM
/-- Regions below a number only. -/
theorem pw_regionB {P : Program} {B X : Nat → Prop} {w0 : W0} {n : Nat} {Q : Exit → St → Prop} {S : St} {id : Nat} (k : Nat) (_hid : Nat.blt id k = true) (own : Nat → Bool) (hmix : P.follows .mixedOrders = true) {ops : Array Oper} {draw : Bool}
    (h : wpRun P own ops.toList ops.toList S [] fun S' fs => okRegion n ops draw fs.reverse = true ∧ Q .normal S') : PW P B X w0 n (.region id ops draw) Q S := pw_region own hmix h

theorem one_lists (ls : List (List Int)) : ∀ d, d ∈ ls.map intsD → d.cells.length = 1 := cells_map intsD 1 (fun _ => rfl) ls
theorem wide_few {a : Lv} (h : ∀ y, y ∈ a.2.1 → y.length ≤ 60) : wide a := fun y hy => by have := h y hy; omega
set_option maxHeartbeats 8000000 in
theorem lawTurns (a : Lv) (i k : Int) (hw : wide a) : CallsTo Try.prog 12 [lvD a, .int i, .int k] (.bool true) := by
  have h1 := Few_spec a
  have h9 := cAwake_spec
  have h2 := rLvValid_spec a hw
  rw [← valid_same] at h2
  rcases hf : fewF a with _ | _ <;> rw [hf] at h1
  · refine callsTo_of Try.func12 rfl (by decide +kernel) (Nat.le_of_ble_eq_true rfl) ?_
    intro hat B X w0
    repeat' first
      | refine pw_seq ?_
      | refine pw_skip ?_
      | refine pw_ret ?_
      | refine pw_exit ?_
      | refine pw_block ?_
      | refine pw_region (fun _ => false) hmix ?_
      | (refine rc (h1) rfl ?_ ?_; (· first | rfl | (simp (disch := omega) only [go_sem, simprocAttr, List.append_eq]; done)))
      | (refine rc (h9) rfl ?_ ?_; (· first | rfl | (simp (disch := omega) only [go_sem, simprocAttr, List.append_eq]; done)))
      | (refine wpG_split rfl rfl (fun hc => ?_) (fun hc => ?_) <;> try simp only [hcL, reduceCtorEq] at hc)
      | (refine pw_cond _ rfl rfl (fun hc => ?_) (fun hc => ?_) <;> (try simp only [hcL, reduceCtorEq] at hc) <;> try (exfalso; omega))
      | simp (maxSteps := 1000000) (disch := omega) only [go_sem, simprocAttr, List.append_eq]
      | apply And.intro
      | omega
      | decide +kernel
    exact bool_some rfl
  · obtain ⟨f1, f2, f3, f4, f5⟩ := few_in hf
    rcases hv : validF a with _ | _ <;> rw [hv] at h2
    · refine callsTo_of Try.func12 rfl (by decide +kernel) (Nat.le_of_ble_eq_true rfl) ?_
      intro hat B X w0
      repeat' first
        | refine pw_seq ?_
        | refine pw_skip ?_
        | refine pw_ret ?_
        | refine pw_exit ?_
        | refine pw_block ?_
        | refine pw_region (fun _ => false) hmix ?_
        | (refine rc (h1) rfl ?_ ?_; (· first | rfl | (simp (disch := omega) only [go_sem, simprocAttr, List.append_eq]; done)))
        | (refine rc (h2) rfl ?_ ?_; (· first | rfl | (simp (disch := omega) only [go_sem, simprocAttr, List.append_eq]; done)))
        | (refine rc (h9) rfl ?_ ?_; (· first | rfl | (simp (disch := omega) only [go_sem, simprocAttr, List.append_eq]; done)))
        | (refine wpG_split rfl rfl (fun hc => ?_) (fun hc => ?_) <;> try simp only [hcL, reduceCtorEq] at hc)
        | (refine pw_cond _ rfl rfl (fun hc => ?_) (fun hc => ?_) <;> (try simp only [hcL, reduceCtorEq] at hc) <;> try (exfalso; omega))
        | simp (maxSteps := 1000000) (disch := omega) only [go_sem, simprocAttr, List.append_eq]
        | apply And.intro
        | omega
        | decide +kernel
      exact bool_some rfl
    · have h3 := reversed_spec a (by omega) (fun y hy => by have := f4 y hy; omega)
      have hwr : wide (revL a) := wide_few fun y hy => by
        simp only [revL, List.mem_map] at hy
        obtain ⟨u, hu, rfl⟩ := hy
        rw [List.length_reverse]; exact f4 u hu
      have h4 := Total_spec (revL a) hwr (by simp [revL]; omega)
      rw [rev_total hv] at h4
      have h5 := Total_spec a hw (by omega)
      by_cases hi : 0 ≤ i ∧ i + 1 < a.2.1.length
      · obtain ⟨i, rfl⟩ : ∃ n : Nat, i = n := ⟨i.toNat, by omega⟩
        obtain ⟨y, z, hn⟩ := near_of hv (i := i) (by omega)
        have hyl := f4 y (List.mem_of_getElem? hn.hy)
        by_cases hk : 0 ≤ k ∧ k + 1 < y.length
        · obtain ⟨k, rfl⟩ : ∃ n : Nat, k = n := ⟨k.toNat, by omega⟩
          have hk2 : k + 1 < y.length := by omega
          have h6 := Matrix_spec a i ((i : Int) + 1) hw
          have hwt : wide (turnL a i k y) := wide_few fun u hu => by
            rcases List.mem_or_eq_of_mem_set hu with hu | rfl
            · exact f4 u hu
            · rw [swapK_len]; exact hyl
          have h7 := Between_spec (turnL a i k y) i hwt
          have h8 := Between_spec a i hw
          have hd := hn.turn_between hk2
          have hb1 := BetweenF_le (turnL a i k y) i
          have hb2 := BetweenF_le a i
          have hsq := MatrixF_sq a i ((i : Int) + 1)
          have hml := hn.lenD
          have hy := hn.hy
          have hil : i < a.2.1.length := by omega
          obtain ⟨m1, g1, l1, c1, _, _⟩ := hsq.get (b := k + 1) (a := k) (by omega) (by omega)
          obtain ⟨m0, g0, l0, c0, _, _⟩ := hsq.get (b := k) (a := k + 1) (by omega) (by omega)
          generalize BetweenF (turnL a i k y) i = b1 at h7 hd hb1
          generalize BetweenF a i = b2 at h8 hd hb2
          generalize MatrixF a i ((i : Int) + 1) = M at *
          generalize cellAt M (k + 1) k = x1 at *
          generalize cellAt M k (k + 1) = x0 at *
          have y0 := at0_at (r := y) (i := k) (by omega)
          have y1 := at0_at (r := y) (i := k + 1) hk2
          have hsw : swapK y k = (y.set k (at0 y ((k + 1 : Nat) : Int))).set (k + 1) (at0 y k) := rfl
          have hsl := swapK_len y k
          obtain ⟨n, ls, ar, cs⟩ := a
          rw [turnL] at h7
          dsimp only at f1 f2 f3 f4 f5 hi hil hy h7
          have hst : (ls.map intsD).set i (intsD (swapK y k)) = (ls.set i (swapK y k)).map intsD := by rw [List.map_set]
          have htl : (ls.map intsD).take ls.length = ls.map intsD := List.take_of_length_le (by simp)
          have hty : (y.map D.int).take y.length = y.map D.int := List.take_of_length_le (by simp)
          have htt : ((ls.set i (swapK y k)).map intsD).take ls.length = (ls.set i (swapK y k)).map intsD := List.take_of_length_le (by simp)
          have htu : ((swapK y k).map D.int).take y.length = (swapK y k).map D.int := List.take_of_length_le (by simp [hsl])
          have hmy : (y.map D.int).length = y.length := by simp
          have hms : ((y.map D.int).set k (D.sc (.int .i64 (at0 y ((k + 1 : Nat) : Int))))).set (k + 1) (D.sc (.int .i64 (at0 y k))) = (swapK y k).map D.int := by rw [hsw, List.map_set, List.map_set]
          have hse : ((y.map D.int).set k (D.sc (.int .i64 (at0 y ((k + 1 : Nat) : Int)))))[k + 1]? = some (D.int (at0 y ((k + 1 : Nat) : Int))) := by rw [List.getElem?_set, if_neg (by omega), List.getElem?_map, y1]; rfl
          have htr : (((swapK y k).map D.int)).length = y.length := by simp [hsl]
          have hlt2 : ((ls.set i (swapK y k)).map intsD).length = ls.length := by simp
          have hgl : (ls.map intsD)[i]? = some (intsD y) := by rw [List.getElem?_map, hy]; rfl
          have en : ((i : Int) + 1).toNat = i + 1 := by omega
          have ek : ((k : Int) + 1).toNat = k + 1 := by omega
          refine callsTo_of Try.func12 rfl (by decide +kernel) (Nat.le_of_ble_eq_true rfl) ?_
          intro hat B X w0
          repeat' first
            | refine pw_seq ?_
            | refine pw_skip ?_
            | refine pw_ret ?_
            | refine pw_exit ?_
            | refine pw_block ?_
            | refine pw_regionB 14 rfl (fun s => (Nat.beq 87 s).or (Nat.beq 92 s)) hmix ?_
            | (refine rc (h1) rfl ?_ ?_; (· first | rfl | (simp (disch := omega) only [go_sem, simprocAttr, List.append_eq, hy, hml, ek, g0, g1, l0, l1, roomy, htl, hty, hmy, y0, y1, List.length_set, hse]; done)))
            | (refine rc (h2) rfl ?_ ?_; (· first | rfl | (simp (disch := omega) only [go_sem, simprocAttr, List.append_eq, hy, hml, ek, g0, g1, l0, l1, roomy, htl, hty, hmy, y0, y1, List.length_set, hse]; done)))
            | (refine rc (h3) rfl ?_ ?_; (· first | rfl | (simp (disch := omega) only [go_sem, simprocAttr, List.append_eq, hy, hml, ek, g0, g1, l0, l1, roomy, htl, hty, hmy, y0, y1, List.length_set, hse]; done)))
            | (refine rc (h4) rfl ?_ ?_; (· first | rfl | (simp (disch := omega) only [go_sem, simprocAttr, List.append_eq, hy, hml, ek, g0, g1, l0, l1, roomy, htl, hty, hmy, y0, y1, List.length_set, hse]; done)))
            | (refine rc (h5) rfl ?_ ?_; (· first | rfl | (simp (disch := omega) only [go_sem, simprocAttr, List.append_eq, hy, hml, ek, g0, g1, l0, l1, roomy, htl, hty, hmy, y0, y1, List.length_set, hse]; done)))
            | (refine rc (h6) rfl ?_ ?_; (· first | rfl | (simp (disch := omega) only [go_sem, simprocAttr, List.append_eq, hy, hml, ek, g0, g1, l0, l1, roomy, htl, hty, hmy, y0, y1, List.length_set, hse]; done)))
            | (refine rc (h9) rfl ?_ ?_; (· first | rfl | (simp (disch := omega) only [go_sem, simprocAttr, List.append_eq, hy, hml, ek, g0, g1, l0, l1, roomy, htl, hty, hmy, y0, y1, List.length_set, hse]; done)))
            | (refine wpG_split rfl rfl (fun hc => ?_) (fun hc => ?_) <;> try simp only [hcL, reduceCtorEq] at hc)
            | (refine pw_cond _ rfl rfl (fun hc => ?_) (fun hc => ?_) <;> (try simp only [hcL, reduceCtorEq] at hc) <;> try (exfalso; omega))
            | simp (maxSteps := 1000000) (disch := omega) only [go_sem, simprocAttr, List.append_eq, hy, hml, ek, g0, g1, l0, l1, roomy, htl, hty, hmy, y0, y1, List.length_set, hse]
            | first | exact one_int _ | exact one_lists _
            | apply And.intro
            | omega
            | decide +kernel
          refine eR [] [(1, .int i), (2, .int k), (3, .ptr 3 0 0 0), (7, .d (listsD M)), (8, .ptr 8 0 0 0), (9, .ref 98 1 0 y.length y.length)] [(3, .cells [.int n, .d (listsD ls), .d (arcsD ar), .d (listsD cs)]), (8, .cells [.int n, .ref 90 1 0 ls.length ls.length, .d (arcsD ar), .d (listsD cs)]), (90, .row 1 (ls.map intsD)), (98, .row 1 ((swapK y k).map D.int))] (by refine ⟨?_, ?_⟩ <;> (repeat' first | exact List.forall_mem_nil _ | refine List.forall_mem_cons.2 ⟨(by first | rfl | (simp (disch := omega) only [go_sem, simprocAttr, inL, hms]; first | done | omega | (congr 1; done))), ?_⟩); done) ?_
          refine pw_ent _ (ent_freeze 98 1 ((swapK y k).map D.int) rfl (noGone_of _ rfl) (by decide)) ?_
          repeat' first
            | refine pw_seq ?_
            | refine pw_skip ?_
            | refine pw_ret ?_
            | refine pw_exit ?_
            | refine pw_block ?_
            | refine pw_region (fun _ => false) hmix ?_
            | (refine rc (h7) rfl ?_ ?_; (· first | rfl | (simp (disch := omega) only [go_sem, simprocAttr, List.append_eq, hy, hml, ek, g0, g1, l0, l1, c0, c1, htu, htr, hst, hlt2, htt, hgl, List.drop_zero, List.length_map, Nat.le_refl]; done)))
            | (refine rc (h8) rfl ?_ ?_; (· first | rfl | (simp (disch := omega) only [go_sem, simprocAttr, List.append_eq, hy, hml, ek, g0, g1, l0, l1, c0, c1, htu, htr, hst, hlt2, htt, hgl, List.drop_zero, List.length_map, Nat.le_refl]; done)))
            | (refine rc (h9) rfl ?_ ?_; (· first | rfl | (simp (disch := omega) only [go_sem, simprocAttr, List.append_eq, hy, hml, ek, g0, g1, l0, l1, c0, c1, htu, htr, hst, hlt2, htt, hgl, List.drop_zero, List.length_map, Nat.le_refl]; done)))
            | (refine wpG_split rfl rfl (fun hc => ?_) (fun hc => ?_) <;> try simp only [hcL, reduceCtorEq] at hc)
            | (refine pw_cond _ rfl rfl (fun hc => ?_) (fun hc => ?_) <;> (try simp only [hcL, reduceCtorEq] at hc) <;> try (exfalso; omega))
            | simp (maxSteps := 1000000) (disch := omega) only [go_sem, simprocAttr, List.append_eq, hy, hml, ek, g0, g1, l0, l1, c0, c1, htu, htr, hst, hlt2, htt, hgl, List.drop_zero, List.length_map, Nat.le_refl]
            | apply And.intro
            | omega
            | decide +kernel
          all_goals exact bool_some rfl
        · refine callsTo_of Try.func12 rfl (by decide +kernel) (Nat.le_of_ble_eq_true rfl) ?_
          have hy := hn.hy
          have hil : i < a.2.1.length := by omega
          obtain ⟨n, ls, ar, cs⟩ := a
          dsimp only at hy hil
          intro hat B X w0
          have hl := at_len2 0 1 hat rfl rfl
          rw [List.length_map] at hl
          repeat' first
            | refine pw_seq ?_
            | refine pw_skip ?_
            | refine pw_ret ?_
            | refine pw_exit ?_
            | refine pw_block ?_
            | refine pw_region (fun _ => false) hmix ?_
            | (refine rc (h1) rfl ?_ ?_; (· first | rfl | (simp (disch := omega) only [go_sem, simprocAttr, List.append_eq, hy]; done)))
            | (refine rc (h2) rfl ?_ ?_; (· first | rfl | (simp (disch := omega) only [go_sem, simprocAttr, List.append_eq, hy]; done)))
            | (refine rc (h3) rfl ?_ ?_; (· first | rfl | (simp (disch := omega) only [go_sem, simprocAttr, List.append_eq, hy]; done)))
            | (refine rc (h4) rfl ?_ ?_; (· first | rfl | (simp (disch := omega) only [go_sem, simprocAttr, List.append_eq, hy]; done)))
            | (refine rc (h5) rfl ?_ ?_; (· first | rfl | (simp (disch := omega) only [go_sem, simprocAttr, List.append_eq, hy]; done)))
            | (refine rc (h9) rfl ?_ ?_; (· first | rfl | (simp (disch := omega) only [go_sem, simprocAttr, List.append_eq, hy]; done)))
            | (refine wpG_split rfl rfl (fun hc => ?_) (fun hc => ?_) <;> try simp only [hcL, reduceCtorEq] at hc)
            | (refine pw_cond _ rfl rfl (fun hc => ?_) (fun hc => ?_) <;> (try simp only [hcL, reduceCtorEq] at hc) <;> try (exfalso; omega))
            | simp (maxSteps := 1000000) (disch := omega) only [go_sem, simprocAttr, List.append_eq, hy]
            | apply And.intro
            | omega
            | decide +kernel
          all_goals exact bool_some rfl
      · refine callsTo_of Try.func12 rfl (by decide +kernel) (Nat.le_of_ble_eq_true rfl) ?_
        intro hat B X w0
        have hl := at_len2 0 1 hat rfl rfl
        rw [List.length_map] at hl
        repeat' first
          | refine pw_seq ?_
          | refine pw_skip ?_
          | refine pw_ret ?_
          | refine pw_exit ?_
          | refine pw_block ?_
          | refine pw_region (fun _ => false) hmix ?_
          | (refine rc (h1) rfl ?_ ?_; (· first | rfl | (simp (disch := omega) only [go_sem, simprocAttr, List.append_eq]; done)))
          | (refine rc (h2) rfl ?_ ?_; (· first | rfl | (simp (disch := omega) only [go_sem, simprocAttr, List.append_eq]; done)))
          | (refine rc (h3) rfl ?_ ?_; (· first | rfl | (simp (disch := omega) only [go_sem, simprocAttr, List.append_eq]; done)))
          | (refine rc (h4) rfl ?_ ?_; (· first | rfl | (simp (disch := omega) only [go_sem, simprocAttr, List.append_eq]; done)))
          | (refine rc (h5) rfl ?_ ?_; (· first | rfl | (simp (disch := omega) only [go_sem, simprocAttr, List.append_eq]; done)))
          | (refine rc (h9) rfl ?_ ?_; (· first | rfl | (simp (disch := omega) only [go_sem, simprocAttr, List.append_eq]; done)))
          | (refine wpG_split rfl rfl (fun hc => ?_) (fun hc => ?_) <;> try simp only [hcL, reduceCtorEq] at hc)
          | (refine pw_cond _ rfl rfl (fun hc => ?_) (fun hc => ?_) <;> (try simp only [hcL, reduceCtorEq] at hc) <;> try (exfalso; omega))
          | simp (maxSteps := 1000000) (disch := omega) only [go_sem, simprocAttr, List.append_eq]
          | apply And.intro
          | omega
          | decide +kernel
        all_goals exact bool_some rfl
end Go.Proofs.Ytpmmikkojpcogaa
namespace Go.Proofs.Ytpmmikkojpcogaa
open Go Go.PS Go.Proofs
set_option maxRecDepth 100000
theorem cells_int {n : Nat} {cs : List D} (h : CellsOk Try.prog (n + 1) 3 cs) : ∃ m : Int, cs = [.int m] := by
  have hu : Try.prog.underlying 3 = some (.int .i64) := by kernel_rfl
  simp only [CellsOk, hu] at h
  obtain ⟨m, rfl, _⟩ := h
  exact ⟨m, rfl⟩
theorem arg_int {x : D} (h : ArgOk Try.prog 3 x) : ∃ m : Int, x = .int m := by
  obtain ⟨cs, h, rfl⟩ := h
  obtain ⟨m, rfl⟩ := cells_int h
  rw [ty3]
  exact ⟨m, rfl⟩
theorem cells_arc {n : Nat} {cs : List D} (h : CellsOk Try.prog (n + 2) 39 cs) : ∃ p : Arc, cs = [.int p.1, .int p.2] := by
  have h := cells_struct (ts := [3, 3]) (by kernel_rfl) h
  obtain ⟨p, r, rfl, hp, q, r', rfl, hq, rfl⟩ := h
  obtain ⟨a, rfl⟩ := cells_int hp
  obtain ⟨b, rfl⟩ := cells_int hq
  exact ⟨(a, b), rfl⟩
theorem cells_arcs {n : Nat} {cs : List D} (h : CellsOk Try.prog (n + 3) 22 cs) : ∃ l : List Arc, cs = [arcsD l] := by
  obtain ⟨l, rfl, hl⟩ := cells_slice (e := 39) (by kernel_rfl) h
  obtain ⟨ys, rfl⟩ := map_of (f := arcD) (l := l) (fun d hd => by
    obtain ⟨es, rfl, _, he⟩ := hl d hd
    obtain ⟨p, rfl⟩ := cells_arc he
    rw [ty39]; exact ⟨p, rfl⟩)
  exact ⟨ys, rfl⟩
theorem cells_ints {n : Nat} {cs : List D} (h : CellsOk Try.prog (n + 2) 25 cs) : ∃ l : List Int, cs = [intsD l] ∧ l.length * 8 ≤ 140737488351232 := by
  obtain ⟨l, rfl, hb, hl⟩ := cells_sliceS (e := 3) (by kernel_rfl) h
  obtain ⟨ys, rfl⟩ := map_of (f := D.int) (l := l) (fun d hd => by
    obtain ⟨es, rfl, _, he⟩ := hl d hd
    obtain ⟨p, rfl⟩ := cells_int he
    rw [ty3]; exact ⟨p, rfl⟩)
  refine ⟨ys, rfl, ?_⟩
  have hb3 : Try.prog.bytesOf 3 = 8 := by kernel_rfl
  rw [hb3, List.length_map] at hb
  exact hb
theorem map_of2 {α : Type} {f : α → D} {p : α → Prop} : ∀ {l : List D}, (∀ d ∈ l, ∃ a, d = f a ∧ p a) → ∃ ys : List α, l = ys.map f ∧ ∀ y ∈ ys, p y
  | [], _ => ⟨[], rfl, fun y hy => by cases hy⟩
  | d :: l, h => by
    obtain ⟨a, rfl, ha⟩ := h d (by simp)
    obtain ⟨ys, rfl, hy⟩ := map_of2 (l := l) (fun e he => h e (List.mem_cons_of_mem _ he))
    refine ⟨a :: ys, rfl, fun y hy2 => ?_⟩
    rcases List.mem_cons.1 hy2 with rfl | hy2
    · exact ha
    · exact hy y hy2
theorem cells_lists {n : Nat} {cs : List D} (h : CellsOk Try.prog (n + 3) 26 cs) : ∃ l : List (List Int), cs = [listsD l] ∧ ∀ y ∈ l, y.length * 8 ≤ 140737488351232 := by
  obtain ⟨l, rfl, hl⟩ := cells_slice (e := 25) (by kernel_rfl) h
  obtain ⟨ys, rfl, hy⟩ := map_of2 (f := intsD) (p := fun y => y.length * 8 ≤ 140737488351232) (l := l) (fun d hd => by
    obtain ⟨es, rfl, _, he⟩ := hl d hd
    obtain ⟨p, rfl, hp⟩ := cells_ints he
    rw [ty25]; exact ⟨p, rfl, hp⟩)
  exact ⟨ys, rfl, hy⟩
theorem arg_ints {x : D} (h : ArgOk Try.prog 25 x) : ∃ l : List Int, x = intsD l := by
  obtain ⟨cs, h, rfl⟩ := h
  obtain ⟨l, rfl, _⟩ := cells_ints h
  rw [ty25]; exact ⟨l, rfl⟩
theorem arg_g {x : D} (h : ArgOk Try.prog 24 x) : ∃ g : Gr, x = gD g := by
  obtain ⟨cs, h, rfl⟩ := h
  have h := cells_struct (ts := [3, 22]) (by kernel_rfl) h
  obtain ⟨_, _, rfl, h1, _, _, rfl, h2, rfl⟩ := h
  obtain ⟨a, rfl⟩ := cells_int h1
  obtain ⟨l, rfl⟩ := cells_arcs h2
  rw [ty24]
  exact ⟨(a, l), rfl⟩
theorem arg_lv {x : D} (h : ArgOk Try.prog 28 x) : ∃ a : {a : Lv // wide a}, x = lvD a.1 := by
  obtain ⟨cs, h, rfl⟩ := h
  have h := cells_struct (ts := [3, 26, 22, 26]) (by kernel_rfl) h
  obtain ⟨_, _, rfl, h1, _, _, rfl, h2, _, _, rfl, h3, _, _, rfl, h4, rfl⟩ := h
  obtain ⟨a, rfl⟩ := cells_int h1
  obtain ⟨b, rfl, hb⟩ := cells_lists h2
  obtain ⟨c, rfl⟩ := cells_arcs h3
  obtain ⟨d, rfl, _⟩ := cells_lists h4
  rw [ty28]
  exact ⟨⟨(a, b, c, d), hb⟩, rfl⟩
end Go.Proofs.Ytpmmikkojpcogaa
