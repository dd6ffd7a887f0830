/- Crossings: sums of upper triangles, reversed layers, awake. -/
import Derived.Test.YtpmmikkojpcogaaCf
namespace Go.Proofs.Ytpmmikkojpcogaa
open Go Go.PS Go.Proofs
set_option maxRecDepth 100000
set_option linter.unusedSimpArgs false
set_option linter.unusedVariables false
attribute [local irreducible] wpRun wpG CallsTo CallsM

theorem up_inner {m : List (List Int)} (h : Sq m) {A : Nat} (hA : A < m.length) : ∀ k, k ≤ m.length - 1 - A → 0 ≤ sumZ (fun j => cellAt m A (A + 1 + j)) k ∧ sumZ (fun j => cellAt m A (A + 1 + j)) k ≤ 600 * 1000000 := fun k hk => by
  have := sumZ_bound (f := fun j => cellAt m A (A + 1 + j)) (c := 1000000) k fun j hj => by obtain ⟨_, _, _, _, h5⟩ := h.get (b := A) (a := A + 1 + j) hA (by omega); exact h5
  have := h.len
  have h2 : k * 1000000 ≤ 600 * 1000000 := Nat.mul_le_mul_right _ (by omega)
  omega
theorem up_outer {m : List (List Int)} (h : Sq m) : ∀ k, k ≤ m.length → 0 ≤ sumZ (fun A => sumZ (fun j => cellAt m A (A + 1 + j)) (m.length - 1 - A)) k ∧ sumZ (fun A => sumZ (fun j => cellAt m A (A + 1 + j)) (m.length - 1 - A)) k ≤ 600 * 600000000 := fun k hk => by
  have := sumZ_bound (f := fun A => sumZ (fun j => cellAt m A (A + 1 + j)) (m.length - 1 - A)) (c := 600000000) k fun x hx => by have := up_inner h (A := x) (by omega) _ (Nat.le_refl _); omega
  have := h.len
  have h2 : k * 600000000 ≤ 600 * 600000000 := Nat.mul_le_mul_right _ (by omega)
  omega
set_option maxHeartbeats 4000000 in
theorem upper_spec (m : List (List Int)) (hs : Sq m) (hd : ∀ A, A < m.length → cellAt m A A = 0) : CallsTo Try.prog 36 [listsD m, .int m.length] (.tup [.int (upF m m.length), .bool true]) := by
  have hml := hs.len
  rw [upF]
  refine callsTo_of Try.func36 rfl (by decide +kernel) (Nat.le_of_ble_eq_true rfl) ?_
  intro hat B X w0
  repeat' first
    | refine pw_seq ?_
    | refine pw_skip ?_
    | refine pw_ret ?_
    | refine pw_exit ?_
    | refine pw_block ?_
    | refine pw_region (fun _ => false) hmix ?_
    | (refine wpG_split rfl rfl (fun hc => ?_) (fun hc => ?_) <;> try simp only [hcL, reduceCtorEq] at hc)
    | (refine pw_cond _ rfl rfl (fun hc => ?_) (fun hc => ?_) <;> (try simp only [hcL, reduceCtorEq] at hc) <;> try (exfalso; omega))
    | simp (maxSteps := 1000000) (disch := omega) only [go_sem, simprocAttr]
    | apply And.intro
    | omega
    | decide +kernel
  refine pw_loopI (κ := Nat) (fun (A : Nat) => A ≤ m.length) (fun (A : Nat) => [(0, .d (listsD m)), (1, .int m.length), (6, .int (sumZ (fun A => sumZ (fun j => cellAt m A (A + 1 + j)) (m.length - 1 - A)) A)), (7, .int A)]) (fun (A : Nat) => []) (fun (A : Nat) => m.length - A) 0 ?_ ?_ ?_
  · exact Nat.zero_le _
  · exact eL [] _ _ (by refine ⟨?_, ?_⟩ <;> (repeat' first | exact List.forall_mem_nil _ | refine List.forall_mem_cons.2 ⟨(by first | rfl | (simp (disch := omega) only [go_sem, simprocAttr, inL, sumZ]; first | done | omega | (congr 1; done))), ?_⟩); done)
  · intro A hA
    rcases Nat.lt_or_ge A m.length with hlt | hge
    · have ho := up_outer hs A hA
      have ho2 := up_outer hs (A + 1) (by omega)
      have e1 : sumZ (fun A => sumZ (fun j => cellAt m A (A + 1 + j)) (m.length - 1 - A)) (A + 1) = sumZ (fun A => sumZ (fun j => cellAt m A (A + 1 + j)) (m.length - 1 - A)) A + sumZ (fun j => cellAt m A (A + 1 + j)) (m.length - 1 - A) := rfl
      obtain ⟨s0, e0⟩ : ∃ s0, sumZ (fun A => sumZ (fun j => cellAt m A (A + 1 + j)) (m.length - 1 - A)) A = s0 := ⟨_, rfl⟩
      rw [e0] at ho e1
      rw [e1] at ho2
      obtain ⟨p, hp, hpl, hpg, _, _⟩ := hs.get (b := A) (a := A) hlt hlt
      rw [hd A hlt] at hpg
      repeat' first
        | refine pw_seq ?_
        | refine pw_skip ?_
        | refine pw_ret ?_
        | refine pw_exit ?_
        | refine pw_block ?_
        | refine pw_region (fun _ => false) hmix ?_
        | (refine wpG_split rfl rfl (fun hc => ?_) (fun hc => ?_) <;> try simp only [hcL, reduceCtorEq] at hc)
        | (refine pw_cond _ rfl rfl (fun hc => ?_) (fun hc => ?_) <;> (try simp only [hcL, reduceCtorEq] at hc) <;> try (exfalso; omega))
        | simp (maxSteps := 1000000) (disch := omega) only [go_sem, simprocAttr, hp, hpl, hpg]
        | apply And.intro
        | omega
        | decide +kernel
      refine pw_loopI (κ := Nat) (fun (j : Nat) => j ≤ m.length - 1 - A) (fun (j : Nat) => [(0, .d (listsD m)), (1, .int m.length), (6, .int (s0 + sumZ (fun j => cellAt m A (A + 1 + j)) j)), (7, .int A), (8, .int ((A : Int) + 1 + j))]) (fun (j : Nat) => []) (fun (j : Nat) => m.length - 1 - A - j) 0 ?_ ?_ ?_
      · exact Nat.zero_le _
      · exact eL [] _ _ (by refine ⟨?_, ?_⟩ <;> (repeat' first | exact List.forall_mem_nil _ | refine List.forall_mem_cons.2 ⟨(by first | rfl | (simp (disch := omega) only [go_sem, simprocAttr, inL, e0, sumZ, Int.add_zero, Int.natCast_zero]; first | done | omega | (congr 1; done))), ?_⟩); done)
      · intro j hj
        rcases Nat.lt_or_ge j (m.length - 1 - A) with hlj | hgj
        · obtain ⟨p2, hp2, _, hg, g1, g2⟩ := hs.get (b := A) (a := A + 1 + j) hlt (by omega)
          rw [hp] at hp2; cases hp2
          have hi := up_inner hs hlt j hj
          have e2 : sumZ (fun j => cellAt m A (A + 1 + j)) (j + 1) = sumZ (fun j => cellAt m A (A + 1 + j)) j + cellAt m A (A + 1 + j) := rfl
          have en : ((A : Int) + 1 + j).toNat = A + 1 + j := by omega
          repeat' first
            | refine pw_seq ?_
            | refine pw_skip ?_
            | refine pw_ret ?_
            | refine pw_exit ?_
            | refine pw_block ?_
            | refine pw_region (fun _ => false) hmix ?_
            | (refine wpG_split rfl rfl (fun hc => ?_) (fun hc => ?_) <;> try simp only [hcL, reduceCtorEq] at hc)
            | (refine pw_cond _ rfl rfl (fun hc => ?_) (fun hc => ?_) <;> (try simp only [hcL, reduceCtorEq] at hc) <;> try (exfalso; omega))
            | simp (maxSteps := 1000000) (disch := omega) only [go_sem, simprocAttr, hp, hpl, hg, en]
            | apply And.intro
            | omega
            | decide +kernel
          refine ⟨j + 1, ?_, eL [] _ _ (by refine ⟨?_, ?_⟩ <;> (repeat' first | exact List.forall_mem_nil _ | refine List.forall_mem_cons.2 ⟨(by first | rfl | (simp (disch := omega) only [go_sem, simprocAttr, inL, e2, Int.add_assoc, Int.natCast_add, Int.natCast_one]; first | done | omega | (congr 1; done))), ?_⟩); done), ?_⟩
          · omega
          · omega
        · have : j = m.length - 1 - A := by omega
          subst this
          repeat' first
            | refine pw_seq ?_
            | refine pw_skip ?_
            | refine pw_ret ?_
            | refine pw_exit ?_
            | refine pw_block ?_
            | refine pw_region (fun _ => false) hmix ?_
            | (refine wpG_split rfl rfl (fun hc => ?_) (fun hc => ?_) <;> try simp only [hcL, reduceCtorEq] at hc)
            | (refine pw_cond _ rfl rfl (fun hc => ?_) (fun hc => ?_) <;> (try simp only [hcL, reduceCtorEq] at hc) <;> try (exfalso; omega))
            | simp (maxSteps := 1000000) (disch := omega) only [go_sem, simprocAttr]
            | apply And.intro
            | omega
            | decide +kernel
          refine ⟨A + 1, ?_, eL [] _ _ (by refine ⟨?_, ?_⟩ <;> (repeat' first | exact List.forall_mem_nil _ | refine List.forall_mem_cons.2 ⟨(by first | rfl | (simp (disch := omega) only [go_sem, simprocAttr, inL, e1]; first | done | omega | (congr 1; done))), ?_⟩); done), ?_⟩
          · omega
          · omega
    · have : A = m.length := by omega
      subst this
      repeat' first
        | refine pw_seq ?_
        | refine pw_skip ?_
        | refine pw_ret ?_
        | refine pw_exit ?_
        | refine pw_block ?_
        | refine pw_region (fun _ => false) hmix ?_
        | (refine wpG_split rfl rfl (fun hc => ?_) (fun hc => ?_) <;> try simp only [hcL, reduceCtorEq] at hc)
        | (refine pw_cond _ rfl rfl (fun hc => ?_) (fun hc => ?_) <;> (try simp only [hcL, reduceCtorEq] at hc) <;> try (exfalso; omega))
        | simp (maxSteps := 1000000) (disch := omega) only [go_sem, simprocAttr]
        | apply And.intro
        | omega
        | decide +kernel
      exact ⟨_, rfl, int_some rfl, bool_some rfl, trivial⟩
def revL (a : Lv) : Lv := (a.1, a.2.1.map List.reverse, a.2.2.1, a.2.2.2)
theorem take_rev {y : List Int} {k : Nat} {x : Int} (h : y[y.length - 1 - k]? = some x) (hk : k < y.length) : y.reverse.take (k + 1) = y.reverse.take k ++ [x] := by
  refine take_snoc ?_
  rw [List.getElem?_reverse hk]; exact h
set_option maxHeartbeats 4000000 in
theorem reversed_spec (a : Lv) (hn : a.2.1.length ≤ 1000) (hl : ∀ y, y ∈ a.2.1 → y.length ≤ 1000) : CallsTo Try.prog 38 [lvD a] (lvD (revL a)) := by
  obtain ⟨n, ls, ar, cs⟩ := a
  dsimp only at hn hl
  refine callsTo_of Try.func38 rfl (by decide +kernel) (Nat.le_of_ble_eq_true rfl) ?_
  intro hat B X w0
  repeat' first
    | refine pw_seq ?_
    | refine pw_skip ?_
    | refine pw_ret ?_
    | refine pw_exit ?_
    | refine pw_block ?_
    | refine pw_region (fun _ => false) hmix ?_
    | (refine wpG_split rfl rfl (fun hc => ?_) (fun hc => ?_) <;> try simp only [hcL, reduceCtorEq] at hc)
    | (refine pw_cond _ rfl rfl (fun hc => ?_) (fun hc => ?_) <;> (try simp only [hcL, reduceCtorEq] at hc) <;> try (exfalso; omega))
    | simp (maxSteps := 1000000) (disch := omega) only [go_sem, simprocAttr, List.append_eq]
    | apply And.intro
    | omega
    | decide +kernel
  refine pw_ent _ (ent_nilC 3 1 901 1 rfl rfl rfl) ?_
  refine pw_loopI (κ := Nat) (fun (i : Nat) => i ≤ ls.length) (fun (i : Nat) => [(1, .ptr 1 0 0 0), (2, .ptr 2 0 0 0), (3, .ptr 3 0 0 0), (4, .int i)]) (fun (i : Nat) => [(1, .cells [.int n, .d (listsD ls), .d (arcsD ar), .d (listsD cs)]), (2, .cells [.int 0, .nilS, .nilS, .nilS]), (3, .cells [.int n, .ref 901 1 0 i i, .d (arcsD ar), .d (listsD cs)]), (901, .row 1 (((ls.take i).map List.reverse).map intsD))]) (fun (i : Nat) => ls.length - i) 0 ?_ ?_ ?_
  · exact Nat.zero_le _
  · exact eL [] _ _ (by refine ⟨?_, ?_⟩ <;> (repeat' first | exact List.forall_mem_nil _ | refine List.forall_mem_cons.2 ⟨(by first | rfl | (simp (disch := omega) only [go_sem, simprocAttr, inL, List.take_zero, List.map_nil]; first | done | omega | (congr 1; done))), ?_⟩); done)
  · intro i hi
    have hlk : (((ls.take i).map List.reverse).map intsD).length = i := by rw [List.length_map, List.length_map, List.length_take]; omega
    have htk : List.take i (((ls.take i).map List.reverse).map intsD) = ((ls.take i).map List.reverse).map intsD := List.take_of_length_le (by rw [hlk]; exact Nat.le_refl _)
    rcases Nat.lt_or_ge i ls.length with hlt | hge
    · obtain ⟨y, hy⟩ := get_some hlt
      have hyl := hl y (List.mem_of_getElem? hy)
      have hts := take_snoc hy
      repeat' first
        | refine pw_seq ?_
        | refine pw_skip ?_
        | refine pw_ret ?_
        | refine pw_exit ?_
        | refine pw_block ?_
        | refine pw_region (Nat.beq 16) hmix ?_
        | (refine wpG_split rfl rfl (fun hc => ?_) (fun hc => ?_) <;> try simp only [hcL, reduceCtorEq] at hc)
        | (refine pw_cond _ rfl rfl (fun hc => ?_) (fun hc => ?_) <;> (try simp only [hcL, reduceCtorEq] at hc) <;> try (exfalso; omega))
        | simp (maxSteps := 1000000) (disch := omega) only [go_sem, simprocAttr, hy]
        | apply And.intro
        | omega
        | decide +kernel
      refine pw_loopI (κ := Nat) (fun (k : Nat) => k ≤ y.length) (fun (k : Nat) => [(1, .ptr 1 0 0 0), (2, .ptr 2 0 0 0), (3, .ptr 3 0 0 0), (4, .int i), (5, .ref 902 1 0 k k), (6, .int ((y.length : Int) - 1 - k))]) (fun (k : Nat) => [(1, .cells [.int n, .d (listsD ls), .d (arcsD ar), .d (listsD cs)]), (2, .cells [.int 0, .nilS, .nilS, .nilS]), (3, .cells [.int n, .ref 901 1 0 i i, .d (arcsD ar), .d (listsD cs)]), (901, .row 1 (((ls.take i).map List.reverse).map intsD)), (902, .row 1 ((y.reverse.take k).map D.int))]) (fun (k : Nat) => y.length - k) 0 ?_ ?_ ?_
      · exact Nat.zero_le _
      · exact eL [(902, 16)] _ _ (by refine ⟨?_, ?_⟩ <;> (repeat' first | exact List.forall_mem_nil _ | refine List.forall_mem_cons.2 ⟨(by first | rfl | (simp (disch := omega) only [go_sem, simprocAttr, inL, List.take_zero, List.map_nil, Int.natCast_zero, Int.sub_zero]; first | done | omega | (congr 1; done))), ?_⟩); done)
      · intro k hk
        have hlk2 : ((y.reverse.take k).map D.int).length = k := by rw [List.length_map, List.length_take, List.length_reverse]; omega
        have htk2 : List.take k ((y.reverse.take k).map D.int) = (y.reverse.take k).map D.int := List.take_of_length_le (by rw [hlk2]; exact Nat.le_refl _)
        rcases Nat.lt_or_ge k y.length with hkl | hkg
        · obtain ⟨x, hx⟩ := get_some (l := y) (k := y.length - 1 - k) (by omega)
          have hrv := take_rev hx hkl
          have en : ((y.length : Int) - 1 - k).toNat = y.length - 1 - k := by omega
          have eq : (y.length : Int) - 1 - k - 1 = (y.length : Int) - 1 - ((k + 1 : Nat) : Int) := by omega
          repeat' first
            | refine pw_seq ?_
            | refine pw_skip ?_
            | refine pw_ret ?_
            | refine pw_exit ?_
            | refine pw_block ?_
            | refine pw_region (fun _ => false) hmix ?_
            | (refine wpG_split rfl rfl (fun hc => ?_) (fun hc => ?_) <;> try simp only [hcL, reduceCtorEq] at hc)
            | (refine pw_cond _ rfl rfl (fun hc => ?_) (fun hc => ?_) <;> (try simp only [hcL, reduceCtorEq] at hc) <;> try (exfalso; omega))
            | simp (maxSteps := 1000000) (disch := omega) only [go_sem, simprocAttr, hy, hx, en, hlk2, roomy]
            | apply And.intro
            | omega
            | decide +kernel
          refine ⟨k + 1, ?_, eL [(902, 38)] _ _ (by refine ⟨?_, ?_⟩ <;> (repeat' first | exact List.forall_mem_nil _ | refine List.forall_mem_cons.2 ⟨(by first | rfl | (simp (disch := omega) only [go_sem, simprocAttr, inL, hrv, List.map_append, htk2, eq]; first | done | omega | (congr 1; done))), ?_⟩); done), ?_⟩
          · omega
          · omega
        · have : k = y.length := by omega
          subst this
          have hrl : y.reverse.take y.length = y.reverse := List.take_of_length_le (by rw [List.length_reverse]; exact Nat.le_refl _)
          try dsimp only
          rw [hrl]
          have htr : (y.reverse.map D.int).take y.length = y.reverse.map D.int := List.take_of_length_le (by simp)
          have hlr : (y.reverse.map D.int).length = y.length := by simp
          refine pw_ent _ (ent_freeze 902 1 (y.reverse.map D.int) rfl (noGone_of _ rfl) (by decide)) ?_
          repeat' first
            | refine pw_seq ?_
            | refine pw_skip ?_
            | refine pw_ret ?_
            | refine pw_exit ?_
            | refine pw_block ?_
            | refine pw_region (fun _ => false) hmix ?_
            | (refine wpG_split rfl rfl (fun hc => ?_) (fun hc => ?_) <;> try simp only [hcL, reduceCtorEq] at hc)
            | (refine pw_cond _ rfl rfl (fun hc => ?_) (fun hc => ?_) <;> (try simp only [hcL, reduceCtorEq] at hc) <;> try (exfalso; omega))
            | simp (maxSteps := 1000000) (disch := omega) only [go_sem, simprocAttr, hlk, roomy, htr, hlr, List.length_reverse]
            | apply And.intro
            | omega
            | decide +kernel
          refine ⟨i + 1, ?_, eL [(901, 43)] _ _ (by refine ⟨?_, ?_⟩ <;> (repeat' first | exact List.forall_mem_nil _ | refine List.forall_mem_cons.2 ⟨(by first | rfl | (simp (disch := omega) only [go_sem, simprocAttr, inL, hts, List.map_append, htk, htr]; first | done | omega | (congr 1; done))), ?_⟩); done), ?_⟩
          · omega
          · omega
    · have : i = ls.length := by omega
      subst this
      try dsimp only
      rw [List.take_length]
      repeat' first
        | refine pw_seq ?_
        | refine pw_skip ?_
        | refine pw_ret ?_
        | refine pw_exit ?_
        | refine pw_block ?_
        | refine pw_region (fun _ => false) hmix ?_
        | (refine wpG_split rfl rfl (fun hc => ?_) (fun hc => ?_) <;> try simp only [hcL, reduceCtorEq] at hc)
        | (refine pw_cond _ rfl rfl (fun hc => ?_) (fun hc => ?_) <;> (try simp only [hcL, reduceCtorEq] at hc) <;> try (exfalso; omega))
        | simp (maxSteps := 1000000) (disch := omega) only [go_sem, simprocAttr]
        | apply And.intro
        | omega
        | decide +kernel
      refine ⟨_, _, _, _, rfl, ?_⟩
      simp (maxSteps := 1000000) (disch := omega) only [go_sem, simprocAttr, toD, List.length_map, Nat.le_refl, List.drop_zero]
      rw [List.take_of_length_le (by simp)]
      rfl
end Go.Proofs.Ytpmmikkojpcogaa
namespace Go.Proofs.Ytpmmikkojpcogaa
open Go Go.PS Go.Proofs
set_option maxRecDepth 100000
set_option linter.unusedSimpArgs false
set_option linter.unusedVariables false
attribute [local irreducible] wpRun wpG CallsTo CallsM

def cxL : Lv := (4, [[0, 1], [2, 3]], [(0, 3), (1, 2)], [[0, 3], [1, 2]])
def cxK : Lv := (4, [[0, 1], [3, 2]], [(0, 3), (1, 2)], [[0, 3], [1, 2]])
theorem cxL_valid : validF cxL = true := by
  simp only [validF, sortLv, cxL, List.map_cons, List.map_nil, ← insN_eq]
  decide +kernel
theorem cxK_valid : validF cxK = true := by
  simp only [validF, sortLv, cxK, List.map_cons, List.map_nil, ← insN_eq]
  decide +kernel
theorem cx1 : BetweenF cxL 0 = 1 := by simp only [BetweenF, MatrixF, matOk, cxL_valid]; decide +kernel
theorem cx2 : TotalF cxL = 1 := by simp only [TotalF, BetweenF, MatrixF, matOk, cxL_valid]; decide +kernel
theorem cx3 : TotalF cxK = 0 := by simp only [TotalF, BetweenF, MatrixF, matOk, cxK_valid]; decide +kernel
theorem cx4 : MatrixF cxL 0 1 = [[0, 1], [0, 0]] := by simp only [MatrixF, matOk, cxL_valid]; decide +kernel
theorem cx5 : MatrixF cxK 1 0 = [[0, 0], [1, 0]] := by simp only [MatrixF, matOk, cxK_valid]; decide +kernel
theorem cx6 : BetweenF cxL 1 = 0 := by simp only [BetweenF, MatrixF, matOk, cxL_valid]; decide +kernel
theorem cx7 : MatrixF cxL 0 2 = [] := by simp only [MatrixF, matOk, cxL_valid]; decide +kernel
set_option maxHeartbeats 4000000 in
theorem cAwake_spec : CallsTo Try.prog 31 [] (.bool true) := by
  have hwL : wide cxL := by
    intro y hy
    simp only [cxL, List.mem_cons, List.not_mem_nil, or_false] at hy
    rcases hy with rfl | rfl <;> decide
  have hwK : wide cxK := by
    intro y hy
    simp only [cxK, List.mem_cons, List.not_mem_nil, or_false] at hy
    rcases hy with rfl | rfl <;> decide
  have h1 := Between_spec cxL 0 hwL
  have h2 := Total_spec cxL hwL (by decide)
  have h3 := Total_spec cxK hwK (by decide)
  have h4 := Matrix_spec cxL 0 1 hwL
  have h5 := Matrix_spec cxK 1 0 hwK
  have h6 := Between_spec cxL 1 hwL
  have h7 := Matrix_spec cxL 0 2 hwL
  have h8 := same_spec [[0, 1], [0, 0]] (by decide) (by decide)
  have h9 := same_spec [[0, 0], [1, 0]] (by decide) (by decide)
  rw [cx1] at h1
  rw [cx2] at h2
  rw [cx3] at h3
  rw [cx4] at h4
  rw [cx5] at h5
  rw [cx6] at h6
  rw [cx7] at h7
  simp only [cxL, cxK, List.map_cons, List.map_nil] at h1 h2 h3 h4 h5 h6 h7 h8 h9
  refine callsTo_of Try.func31 rfl (by decide +kernel) (Nat.le_of_ble_eq_true rfl) ?_
  intro hat B X w0
  repeat' first
    | refine pw_seq ?_
    | refine pw_skip ?_
    | refine pw_ret ?_
    | refine pw_exit ?_
    | refine pw_block ?_
    | refine pw_region (fun _ => false) hmix ?_
    | (refine rc (h1) rfl ?_ ?_; (· first | rfl | (simp (disch := omega) only [go_sem, simprocAttr, List.append_eq, List.map_cons, List.map_nil]; done)))
    | (refine rc (h2) rfl ?_ ?_; (· first | rfl | (simp (disch := omega) only [go_sem, simprocAttr, List.append_eq, List.map_cons, List.map_nil]; done)))
    | (refine rc (h3) rfl ?_ ?_; (· first | rfl | (simp (disch := omega) only [go_sem, simprocAttr, List.append_eq, List.map_cons, List.map_nil]; done)))
    | (refine rc (h4) rfl ?_ ?_; (· first | rfl | (simp (disch := omega) only [go_sem, simprocAttr, List.append_eq, List.map_cons, List.map_nil]; done)))
    | (refine rc (h5) rfl ?_ ?_; (· first | rfl | (simp (disch := omega) only [go_sem, simprocAttr, List.append_eq, List.map_cons, List.map_nil]; done)))
    | (refine rc (h6) rfl ?_ ?_; (· first | rfl | (simp (disch := omega) only [go_sem, simprocAttr, List.append_eq, List.map_cons, List.map_nil]; done)))
    | (refine rc (h7) rfl ?_ ?_; (· first | rfl | (simp (disch := omega) only [go_sem, simprocAttr, List.append_eq, List.map_cons, List.map_nil]; done)))
    | (refine rc (h8) rfl ?_ ?_; (· first | rfl | (simp (disch := omega) only [go_sem, simprocAttr, List.append_eq, List.map_cons, List.map_nil]; done)))
    | (refine rc (h9) rfl ?_ ?_; (· first | rfl | (simp (disch := omega) only [go_sem, simprocAttr, List.append_eq, List.map_cons, List.map_nil]; done)))
    | (refine wpG_split rfl rfl (fun hc => ?_) (fun hc => ?_) <;> try simp only [hcL, reduceCtorEq] at hc)
    | (refine pw_cond _ rfl rfl (fun hc => ?_) (fun hc => ?_) <;> (try simp only [hcL, reduceCtorEq] at hc) <;> try (exfalso; omega))
    | simp (maxSteps := 1000000) (disch := omega) only [go_sem, simprocAttr, List.append_eq, List.map_cons, List.map_nil]
    | apply And.intro
    | omega
    | decide +kernel
  exact bool_some rfl
theorem lawCounts (a : Lv) (i : Int) (hw : wide a) : CallsTo Try.prog 13 [lvD a, .int i] (.bool true) := by
  have h1 := Few_spec a
  have h9 := cAwake_spec
  rcases hf : fewF a with _ | _ <;> rw [hf] at h1
  · refine callsTo_of Try.func13 rfl (by decide +kernel) (Nat.le_of_ble_eq_true rfl) ?_
    intro hat B X w0
    repeat' first
      | refine pw_seq ?_
      | refine pw_skip ?_
      | refine pw_ret ?_
      | refine pw_exit ?_
      | refine pw_block ?_
      | refine pw_region (fun _ => false) hmix ?_
      | (refine rc (h1) rfl ?_ ?_; (· first | rfl | (simp (disch := omega) only [go_sem, simprocAttr, List.append_eq]; done)))
      | (refine rc (h9) rfl ?_ ?_; (· first | rfl | (simp (disch := omega) only [go_sem, simprocAttr, List.append_eq]; done)))
      | (refine wpG_split rfl rfl (fun hc => ?_) (fun hc => ?_) <;> try simp only [hcL, reduceCtorEq] at hc)
      | (refine pw_cond _ rfl rfl (fun hc => ?_) (fun hc => ?_) <;> (try simp only [hcL, reduceCtorEq] at hc) <;> try (exfalso; omega))
      | simp (maxSteps := 1000000) (disch := omega) only [go_sem, simprocAttr, List.append_eq]
      | apply And.intro
      | omega
      | decide +kernel
    exact bool_some rfl
  · obtain ⟨f1, f2, f3, f4, f5⟩ := few_in hf
    have h2 := Between_spec a i hw
    have h3 := rBetween_spec a i hw
    rw [← between_same] at h3
    have h4 := Total_spec a hw (by omega)
    have h5 := rTotal_spec a hw (by omega)
    rw [← total_same] at h5
    have h6 := Straight_spec a hw
    have h7 := rStraight_spec a hw
    rw [← straight_same] at h7
    refine callsTo_of Try.func13 rfl (by decide +kernel) (Nat.le_of_ble_eq_true rfl) ?_
    intro hat B X w0
    repeat' first
      | refine pw_seq ?_
      | refine pw_skip ?_
      | refine pw_ret ?_
      | refine pw_exit ?_
      | refine pw_block ?_
      | refine pw_region (fun _ => false) hmix ?_
      | (refine rc (h1) rfl ?_ ?_; (· first | rfl | (simp (disch := omega) only [go_sem, simprocAttr, List.append_eq]; done)))
      | (refine rc (h2) rfl ?_ ?_; (· first | rfl | (simp (disch := omega) only [go_sem, simprocAttr, List.append_eq]; done)))
      | (refine rc (h3) rfl ?_ ?_; (· first | rfl | (simp (disch := omega) only [go_sem, simprocAttr, List.append_eq]; done)))
      | (refine rc (h4) rfl ?_ ?_; (· first | rfl | (simp (disch := omega) only [go_sem, simprocAttr, List.append_eq]; done)))
      | (refine rc (h5) rfl ?_ ?_; (· first | rfl | (simp (disch := omega) only [go_sem, simprocAttr, List.append_eq]; done)))
      | (refine rc (h6) rfl ?_ ?_; (· first | rfl | (simp (disch := omega) only [go_sem, simprocAttr, List.append_eq]; done)))
      | (refine rc (h7) rfl ?_ ?_; (· first | rfl | (simp (disch := omega) only [go_sem, simprocAttr, List.append_eq]; done)))
      | (refine rc (h9) rfl ?_ ?_; (· first | rfl | (simp (disch := omega) only [go_sem, simprocAttr, List.append_eq]; done)))
      | (refine wpG_split rfl rfl (fun hc => ?_) (fun hc => ?_) <;> try simp only [hcL, reduceCtorEq] at hc)
      | (refine pw_cond _ rfl rfl (fun hc => ?_) (fun hc => ?_) <;> (try simp only [hcL, reduceCtorEq] at hc) <;> try (exfalso; omega))
      | simp (maxSteps := 1000000) (disch := omega) only [go_sem, simprocAttr, List.append_eq]
      | apply And.intro
      | omega
      | decide +kernel
    exact bool_some rfl
theorem Near.diagD {a : Lv} {i : Nat} {y z : List Int} (h : Near a i y z) : ∀ A, A < (MatrixF a i ((i : Int) + 1)).length → cellAt (MatrixF a i ((i : Int) + 1)) A A = 0 := fun A hA => by
  rw [h.lenD] at hA
  rw [h.cellD hA hA, if_pos rfl]
theorem Near.diagU {a : Lv} {i : Nat} {y z : List Int} (h : Near a i y z) : ∀ A, A < (MatrixF a ((i : Int) + 1) i).length → cellAt (MatrixF a ((i : Int) + 1) i) A A = 0 := fun A hA => by
  rw [h.lenU] at hA
  rw [h.cellU hA hA, if_pos rfl]
set_option maxHeartbeats 4000000 in
theorem lawSums (a : Lv) (hw : wide a) : CallsTo Try.prog 11 [lvD a] (.bool true) := by
  have h1 := Few_spec a
  have h9 := cAwake_spec
  have h2 := rLvValid_spec a hw
  rw [← valid_same] at h2
  rcases hf : fewF a with _ | _ <;> rw [hf] at h1
  · refine callsTo_of Try.func11 rfl (by decide +kernel) (Nat.le_of_ble_eq_true rfl) ?_
    intro hat B X w0
    repeat' first
      | refine pw_seq ?_
      | refine pw_skip ?_
      | refine pw_ret ?_
      | refine pw_exit ?_
      | refine pw_block ?_
      | refine pw_region (fun _ => false) hmix ?_
      | (refine rc (h1) rfl ?_ ?_; (· first | rfl | (simp (disch := omega) only [go_sem, simprocAttr, List.append_eq]; done)))
      | (refine rc (h9) rfl ?_ ?_; (· first | rfl | (simp (disch := omega) only [go_sem, simprocAttr, List.append_eq]; done)))
      | (refine wpG_split rfl rfl (fun hc => ?_) (fun hc => ?_) <;> try simp only [hcL, reduceCtorEq] at hc)
      | (refine pw_cond _ rfl rfl (fun hc => ?_) (fun hc => ?_) <;> (try simp only [hcL, reduceCtorEq] at hc) <;> try (exfalso; omega))
      | simp (maxSteps := 1000000) (disch := omega) only [go_sem, simprocAttr, List.append_eq]
      | apply And.intro
      | omega
      | decide +kernel
    exact bool_some rfl
  · obtain ⟨f1, f2, f3, f4, f5⟩ := few_in hf
    rcases hv : validF a with _ | _ <;> rw [hv] at h2
    · refine callsTo_of Try.func11 rfl (by decide +kernel) (Nat.le_of_ble_eq_true rfl) ?_
      intro hat B X w0
      repeat' first
        | refine pw_seq ?_
        | refine pw_skip ?_
        | refine pw_ret ?_
        | refine pw_exit ?_
        | refine pw_block ?_
        | refine pw_region (fun _ => false) hmix ?_
        | (refine rc (h1) rfl ?_ ?_; (· first | rfl | (simp (disch := omega) only [go_sem, simprocAttr, List.append_eq]; done)))
        | (refine rc (h2) rfl ?_ ?_; (· first | rfl | (simp (disch := omega) only [go_sem, simprocAttr, List.append_eq]; done)))
        | (refine rc (h9) rfl ?_ ?_; (· first | rfl | (simp (disch := omega) only [go_sem, simprocAttr, List.append_eq]; done)))
        | (refine wpG_split rfl rfl (fun hc => ?_) (fun hc => ?_) <;> try simp only [hcL, reduceCtorEq] at hc)
        | (refine pw_cond _ rfl rfl (fun hc => ?_) (fun hc => ?_) <;> (try simp only [hcL, reduceCtorEq] at hc) <;> try (exfalso; omega))
        | simp (maxSteps := 1000000) (disch := omega) only [go_sem, simprocAttr, List.append_eq]
        | apply And.intro
        | omega
        | decide +kernel
      exact bool_some rfl
    · have h3 := fun i => Between_spec a i hw
      have h4 := Total_spec a hw (by omega)
      have h5 := fun i f => Matrix_spec a i f hw
      have hnr := fun i (hi : i + 1 < a.2.1.length) => near_of hv hi
      have hbl := BetweenF_le a
      have hsl : ∀ k, k ≤ a.2.1.length → 0 ≤ sumZ (fun i => BetweenF a i) k ∧ sumZ (fun i => BetweenF a i) k ≤ 1000 * 360000000000 := fun k hk => by
        have := sumZ_bound (f := fun i => BetweenF a i) (c := 360000000000) k fun i _ => hbl i
        have h2 : k * 360000000000 ≤ 1000 * 360000000000 := Nat.mul_le_mul_right _ (by omega)
        omega
      have hlast : ∀ k : Nat, k + 1 = a.2.1.length → BetweenF a k = 0 := fun k hk => by
        rw [BetweenF, if_pos (by simp only [noPair, decide_eq_true_eq]; omega)]
      have hup : ∀ (i : Nat) y z, Near a i y z → CallsTo Try.prog 36 [listsD (MatrixF a i ((i : Int) + 1)), .int y.length] (.tup [.int (BetweenF a i), .bool true]) := fun i y z hn => by
        have := upper_spec _ (MatrixF_sq a i ((i : Int) + 1)) hn.diagD
        rw [hn.lenD, hn.upD, ← hn.between] at this
        exact this
      have hup2 : ∀ (i : Nat) y z, Near a i y z → CallsTo Try.prog 36 [listsD (MatrixF a ((i : Int) + 1) i), .int z.length] (.tup [.int (BetweenF a i), .bool true]) := fun i y z hn => by
        have := upper_spec _ (MatrixF_sq a ((i : Int) + 1) i) hn.diagU
        rw [hn.lenU, hn.upU, ← hn.between] at this
        exact this
      obtain ⟨n, ls, ar, cs⟩ := a
      dsimp only at f1 f2 f3 f4 f5 hnr hsl hlast
      rw [TotalF] at h4
      dsimp only at h4
      generalize hB : (fun i : Nat => BetweenF (n, ls, ar, cs) i) = Bf at hsl h4
      have hBf : ∀ i : Nat, Bf i = BetweenF (n, ls, ar, cs) i := fun i => by rw [← hB]
      have hlast2 : ∀ k : Nat, k + 1 = ls.length → Bf k = 0 := fun k hk => by rw [hBf]; exact hlast k hk
      clear hlast hbl hB
      refine callsTo_of Try.func11 rfl (by decide +kernel) (Nat.le_of_ble_eq_true rfl) ?_
      intro hat B X w0
      repeat' first
        | refine pw_seq ?_
        | refine pw_skip ?_
        | refine pw_ret ?_
        | refine pw_exit ?_
        | refine pw_block ?_
        | refine pw_region (fun _ => false) hmix ?_
        | (refine rc (h1) rfl ?_ ?_; (· first | rfl | (simp (disch := omega) only [go_sem, simprocAttr, List.append_eq]; done)))
        | (refine rc (h2) rfl ?_ ?_; (· first | rfl | (simp (disch := omega) only [go_sem, simprocAttr, List.append_eq]; done)))
        | (refine wpG_split rfl rfl (fun hc => ?_) (fun hc => ?_) <;> try simp only [hcL, reduceCtorEq] at hc)
        | (refine pw_cond _ rfl rfl (fun hc => ?_) (fun hc => ?_) <;> (try simp only [hcL, reduceCtorEq] at hc) <;> try (exfalso; omega))
        | simp (maxSteps := 1000000) (disch := omega) only [go_sem, simprocAttr, List.append_eq]
        | apply And.intro
        | omega
        | decide +kernel
      refine pw_loopI (κ := Nat) (fun (i : Nat) => i ≤ ls.length - 1) (fun (i : Nat) => [(1, .ptr 1 0 0 0), (3, .int (sumZ Bf i)), (4, .int i)]) (fun (i : Nat) => [(1, .cells [.int n, .d (listsD ls), .d (arcsD ar), .d (listsD cs)])]) (fun (i : Nat) => ls.length - i) 0 ?_ ?_ ?_
      · exact Nat.zero_le _
      · exact eL [] _ _ (by refine ⟨?_, ?_⟩ <;> (repeat' first | exact List.forall_mem_nil _ | refine List.forall_mem_cons.2 ⟨(by first | rfl | (simp (disch := omega) only [go_sem, simprocAttr, inL, sumZ]; first | done | omega | (congr 1; done))), ?_⟩); done)
      · intro i hi
        have s1 := hsl i (by omega)
        rcases Nat.lt_or_ge (i + 1) ls.length with hlt | hge
        · obtain ⟨y, z, hn⟩ := hnr i hlt
          have hy := hn.hy
          have hz := hn.hz
          dsimp only at hy hz
          have s2 := hsl (i + 1) (by omega)
          have e1 : sumZ Bf (i + 1) = sumZ Bf i + Bf i := rfl
          have u1 := hup i y z hn
          have u2 := hup2 i y z hn
          have b1 := h3 i
          have m1 := h5 i ((i : Int) + 1)
          have m2 := h5 ((i : Int) + 1) i
          rw [← hBf] at b1 u1 u2
          generalize MatrixF (n, ls, ar, cs) i ((i : Int) + 1) = M1 at m1 u1
          generalize MatrixF (n, ls, ar, cs) ((i : Int) + 1) i = M2 at m2 u2
          have en : ((i : Int) + 1).toNat = i + 1 := by omega
          repeat' first
            | refine pw_seq ?_
            | refine pw_skip ?_
            | refine pw_ret ?_
            | refine pw_exit ?_
            | refine pw_block ?_
            | refine pw_region (fun _ => false) hmix ?_
            | (refine rc (b1) rfl ?_ ?_; (· first | rfl | (simp (disch := omega) only [go_sem, simprocAttr, List.append_eq, hy, hz, en]; done)))
            | (refine rc (m1) rfl ?_ ?_; (· first | rfl | (simp (disch := omega) only [go_sem, simprocAttr, List.append_eq, hy, hz, en]; done)))
            | (refine rc (m2) rfl ?_ ?_; (· first | rfl | (simp (disch := omega) only [go_sem, simprocAttr, List.append_eq, hy, hz, en]; done)))
            | (refine rc (u1) rfl ?_ ?_; (· first | rfl | (simp (disch := omega) only [go_sem, simprocAttr, List.append_eq, hy, hz, en]; done)))
            | (refine rc (u2) rfl ?_ ?_; (· first | rfl | (simp (disch := omega) only [go_sem, simprocAttr, List.append_eq, hy, hz, en]; done)))
            | (refine wpG_split rfl rfl (fun hc => ?_) (fun hc => ?_) <;> try simp only [hcL, reduceCtorEq] at hc)
            | (refine pw_cond _ rfl rfl (fun hc => ?_) (fun hc => ?_) <;> (try simp only [hcL, reduceCtorEq] at hc) <;> try (exfalso; omega))
            | simp (maxSteps := 1000000) (disch := omega) only [go_sem, simprocAttr, List.append_eq, hy, hz, en]
            | apply And.intro
            | omega
            | decide +kernel
          refine ⟨i + 1, ?_, eL [] _ _ (by refine ⟨?_, ?_⟩ <;> (repeat' first | exact List.forall_mem_nil _ | refine List.forall_mem_cons.2 ⟨(by first | rfl | (simp (disch := omega) only [go_sem, simprocAttr, inL, e1]; first | done | omega | (congr 1; done))), ?_⟩); done), ?_⟩
          · omega
          · omega
        · have : i = ls.length - 1 := by omega
          subst this
          have e2 : sumZ Bf ls.length = sumZ Bf (ls.length - 1) := by
            rcases Nat.eq_zero_or_pos ls.length with h0 | h0
            · rw [h0]
            · obtain ⟨k, hk⟩ : ∃ k, ls.length = k + 1 := ⟨ls.length - 1, by omega⟩
              rw [hk, Nat.add_sub_cancel, sumZ, hlast2 k hk.symm]; omega
          rw [e2] at h4
          repeat' first
            | refine pw_seq ?_
            | refine pw_skip ?_
            | refine pw_ret ?_
            | refine pw_exit ?_
            | refine pw_block ?_
            | refine pw_region (fun _ => false) hmix ?_
            | (refine rc (h4) rfl ?_ ?_; (· first | rfl | (simp (disch := omega) only [go_sem, simprocAttr]; done)))
            | (refine rc (h9) rfl ?_ ?_; (· first | rfl | (simp (disch := omega) only [go_sem, simprocAttr]; done)))
            | (refine wpG_split rfl rfl (fun hc => ?_) (fun hc => ?_) <;> try simp only [hcL, reduceCtorEq] at hc)
            | (refine pw_cond _ rfl rfl (fun hc => ?_) (fun hc => ?_) <;> (try simp only [hcL, reduceCtorEq] at hc) <;> try (exfalso; omega))
            | simp (maxSteps := 1000000) (disch := omega) only [go_sem, simprocAttr]
            | apply And.intro
            | omega
            | decide +kernel
          exact bool_some rfl
end Go.Proofs.Ytpmmikkojpcogaa
