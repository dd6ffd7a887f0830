/- Ordering: the matrix of a layer, by the reference. -/
import Derived.Test.YtldbcbclhpcofaaGreatBaF
set_option linter.unusedSimpArgs false
set_option linter.unusedVariables false
namespace Go.Proofs.YtldbcbclhpcofaaGreat
open Go Go.PS Go.Proofs
set_option maxRecDepth 100000
attribute [local irreducible] wpRun wpG CallsTo CallsM

theorem fix_eq {i t : Nat} (h : t < 2) : (i : Int) - 1 + 2 * (t : Int) = fixT i t := by
 rw [fixT]; split <;> omega
set_option maxHeartbeats 16000000 in
theorem oSum_spec (a : Lv) (i : Nat) (hw : wide a) (hv : validF a = true) (hil : i < a.2.1.length) :
  CallsTo Tryz.prog 60 [lvD a, .int i] (listsD (orM a i)) := by
 obtain ⟨y, hy⟩ := get_some hil
 obtain ⟨t1, t2⟩ := lv_le hv
 have hyl := tot_mem (List.mem_of_getElem? hy)
 have hacc := accC_le a [] (lstN a.2.1 i) (w := 0) (by decide) i
 have haccS : ∀ t u v, accC a [] (lstN a.2.1 i) 0 i (t + 1) u v = accC a [] (lstN a.2.1 i) 0 i t u v + cellAt (MatrixF a i (fixT i t)) u v := fun _ _ _ => rfl
 have haccZ := accC_zero a i
 have hMsq : ∀ t, Sq (MatrixF a i (fixT i t)) := fun t => MatrixF_sq a i (fixT i t)
 have hMlen : ∀ t, (MatrixF a i (fixT i t)).length = 0 ∨ (MatrixF a i (fixT i t)).length = y.length := fun t => by
  rw [MatrixF]
  split
  ·right
   simp [matF, endsF, lenAt, hy]
  ·left; rfl
 have hMs : ∀ t, CallsTo Tryz.prog 30 [lvD a, .int i, .int (fixT i t)] (listsD (MatrixF a i (fixT i t))) := fun t => rMatrix_spec a i (fixT i t) hw
 rw [orM, stM]
 rw [lstN_at hy] at *
 generalize accC a [] y 0 i = A at *
 obtain ⟨Q, hQ⟩ : ∃ Q : Nat → List (List Int), ∀ t, MatrixF a i (fixT i t) = Q t := ⟨_, fun _ => rfl⟩
 simp only [hQ] at *
 obtain ⟨N, hN⟩ : ∃ N, N = y.length := ⟨_, rfl⟩
 have hN5 : N ≤ 512 := by omega
 obtain ⟨n, ls, ar, cs⟩ := a
 dsimp only at *
 rw [← hN]
 refine callsTo_of Tryz.func60 rfl (by decide +kernel) (Nat.le_of_ble_eq_true rfl) ?_
 intro hat B X w0
 repeat' first | refine pw_seq ?_ | refine pw_skip ?_ | refine pw_ret ?_ | refine pw_exit ?_ | refine pw_block ?_ | refine pw_region (Nat.beq 11) hmix ?_ | (refine wpG_split rfl rfl (fun hc => ?_) (fun hc => ?_) <;> try simp only [hcL, reduceCtorEq] at hc) | (refine pw_cond _ rfl rfl (fun hc => ?_) (fun hc => ?_) <;> (try simp only [hcL, reduceCtorEq] at hc) <;> try (exfalso; omega)) | simp (maxSteps := 1000000) (disch := omega) only [go_sem, simprocAttr] | apply And.intro | omega | decide +kernel
 refine pw_loopF (κ := Nat) (fun k => k ≤ N) (fun k => [(1, .int i), (2, .ptr 2 0 0 0), (5, .ref 901 1 0 k k), (6, .int k)])
  (fun k => match k with | 0 => [] | j + 1 => [⟨1, 901, 1, j + 1, fun _ => (List.replicate N 0).map D.int⟩])
  (fun k => match k with | 0 => [(2, .cells [.int n, .d (listsD ls), .d (arcsD ar), .d (listsD cs)]), (901, .row 1 [])] | j + 1 => [(2, .cells [.int n, .d (listsD ls), .d (arcsD ar), .d (listsD cs)])]) (fun k => N - k) 0 ?_ ?_ ?_
 ·exact Nat.zero_le _
 ·refine eF [] [(901, 11)] _ _ _ (by refine ⟨?_, ?_⟩ <;> (repeat' first | exact List.forall_mem_nil _ | refine List.forall_mem_cons.2 ⟨(by first | rfl | (simp (disch := omega) only [go_sem, simprocAttr, inL]; first | done | omega | (congr 1; done))), ?_⟩); done) ?_
  repeat' first | exact List.forall_mem_nil _ | refine List.forall_mem_cons.2 ⟨?_, ?_⟩
  all_goals refine ⟨_, (by first | rfl | (simp (disch := omega) only [go_sem, simprocAttr]; done) | (simp (disch := omega) only [go_sem, simprocAttr]; rfl)), fun i hi => ?_⟩
  all_goals dsimp only at hi ⊢
  all_goals try (exfalso; omega)
  all_goals try (simp (disch := omega) only [go_sem, simprocAttr, fid_lit, lit_fid]; done)
 ·intro k hk
  rcases Nat.lt_or_ge k N with hkN | hkN
  ·cases k with
   | zero =>
    dsimp only
    repeat' first | refine pw_seq ?_ | refine pw_skip ?_ | refine pw_ret ?_ | refine pw_exit ?_ | refine pw_block ?_ | refine pw_region (fun _ => false) hmix ?_ | (refine wpG_split rfl rfl (fun hc => ?_) (fun hc => ?_) <;> try simp only [hcL, reduceCtorEq] at hc) | (refine pw_cond _ rfl rfl (fun hc => ?_) (fun hc => ?_) <;> (try simp only [hcL, reduceCtorEq] at hc) <;> try (exfalso; omega)) | simp (maxSteps := 1000000) (disch := omega) only [go_sem, simprocAttr, List.append_eq, hy, ← hN, roomy, List.isEmpty_nil] | apply And.intro | omega | decide +kernel
    refine ⟨1, ?_, eF [(fid 1 0, 29)] [(901, 31)] _ _ _ (by refine ⟨?_, ?_⟩ <;> (repeat' first | exact List.forall_mem_nil _ | refine List.forall_mem_cons.2 ⟨(by first | rfl | (simp (disch := omega) only [go_sem, simprocAttr, inL, List.map_replicate, List.length_replicate]; first | done | omega | (congr 1; done))), ?_⟩); done) ?_, ?_⟩
    ·omega
    ·refine List.forall_mem_cons.2 ⟨⟨fun _ => .ref 29 1 0 N N, ?_, fun r hr => ?_⟩, List.forall_mem_nil _⟩
     ·rw [refs_one]
      simp (maxSteps := 1000000) (disch := omega) only [go_sem, simprocAttr, List.isEmpty_nil]
     ·obtain rfl : r = 0 := by dsimp only at hr; omega
      simp (maxSteps := 1000000) (disch := omega) only [go_sem, simprocAttr, List.map_replicate, List.length_replicate]
    ·omega
   | succ k =>
    dsimp only
    repeat' first | refine pw_seq ?_ | refine pw_skip ?_ | refine pw_ret ?_ | refine pw_exit ?_ | refine pw_block ?_ | refine pw_region (fun _ => false) hmix ?_ | (refine wpG_split rfl rfl (fun hc => ?_) (fun hc => ?_) <;> try simp only [hcL, reduceCtorEq] at hc) | (refine pw_cond _ rfl rfl (fun hc => ?_) (fun hc => ?_) <;> (try simp only [hcL, reduceCtorEq] at hc) <;> try (exfalso; omega)) | simp (maxSteps := 1000000) (disch := omega) only [go_sem, simprocAttr, List.append_eq, hy, ← hN, roomy] | apply And.intro | omega | decide +kernel
    refine ⟨k + 2, ?_, eF [(fid 1 (k + 1), 29)] [(901, 31)] _ _ _ (by refine ⟨?_, ?_⟩ <;> (repeat' first | exact List.forall_mem_nil _ | refine List.forall_mem_cons.2 ⟨(by first | rfl | (simp (disch := omega) only [go_sem, simprocAttr, inL, List.map_replicate, List.length_replicate]; first | done | omega | (congr 1; done))), ?_⟩); done) ?_, ?_⟩
    ·omega
    ·repeat' first | exact List.forall_mem_nil _ | refine List.forall_mem_cons.2 ⟨?_, ?_⟩
     all_goals refine ⟨_, (by first | rfl | (simp (disch := omega) only [go_sem, simprocAttr, List.map_replicate, List.length_replicate]; done) | (simp (disch := omega) only [go_sem, simprocAttr, List.map_replicate, List.length_replicate]; rfl)), fun i hi => ?_⟩
     all_goals dsimp only at hi ⊢
     all_goals rcases Decidable.em (i = k+1) with rfl | hi0
     all_goals try (exfalso; omega)
     all_goals try (simp (disch := omega) only [go_sem, simprocAttr, List.map_replicate, List.length_replicate, fid_lit, lit_fid]; done)
     all_goals try (simp (disch := omega) only [go_sem, simprocAttr, List.map_replicate, List.length_replicate, hi0, fid_lit, lit_fid]; done)
    ·omega
  ·cases k with
   | zero =>
    obtain rfl : N = 0 := by omega
    have hQ0 : ∀ t, (Q t).length = 0 := fun t => by have := hMlen t; omega
    dsimp only
    repeat' first | refine pw_seq ?_ | refine pw_skip ?_ | refine pw_ret ?_ | refine pw_exit ?_ | refine pw_block ?_ | refine pw_region (fun _ => false) hmix ?_ | (refine wpG_split rfl rfl (fun hc => ?_) (fun hc => ?_) <;> try simp only [hcL, reduceCtorEq] at hc) | (refine pw_cond _ rfl rfl (fun hc => ?_) (fun hc => ?_) <;> (try simp only [hcL, reduceCtorEq] at hc) <;> try (exfalso; omega)) | simp (maxSteps := 1000000) (disch := omega) only [go_sem, simprocAttr, List.append_eq, hy, ← hN] | apply And.intro | omega | decide +kernel
    refine pw_loopI (κ := Nat) (fun (t : Nat) => t ≤ 2) (fun (t : Nat) => [(1, .int i), (2, .ptr 2 0 0 0), (5, .ref 901 1 0 0 0), (7, .int ((i : Int) - 1 + 2 * (t : Int)))]) (fun (t : Nat) => [(2, .cells [.int n, .d (listsD ls), .d (arcsD ar), .d (listsD cs)]), (901, .row 1 [])]) (fun (t : Nat) => 2 - t) 0 ?_ ?_ ?_
    ·exact Nat.zero_le _
    ·exact eL [] _ _ (by refine ⟨?_, ?_⟩ <;> (repeat' first | exact List.forall_mem_nil _ | refine List.forall_mem_cons.2 ⟨(by first | rfl | (simp (disch := omega) only [go_sem, simprocAttr, inL, Int.natCast_zero, Int.mul_zero, Int.add_zero]; first | done | omega | (congr 1; done))), ?_⟩); done)
    ·intro t ht
     rcases Nat.lt_or_ge t 2 with hlt2 | hge2
     ·have hM := hMs t
      have hq0 := hQ0 t
      have e0 := fix_eq (i := i) hlt2
      have e1 : (i : Int) - 1 + 2 * (t : Int) + 2 = (i : Int) - 1 + 2 * ((t + 1 : Nat) : Int) := by omega
      have e2 : fixT i t + 2 = (i : Int) - 1 + 2 * ((t + 1 : Nat) : Int) := by rw [← e0]; omega
      have b0 : fixT i t ≤ (i : Int) + 1 ∧ (i : Int) - 1 ≤ fixT i t := by rw [← e0]; omega
      rw [e0]
      generalize Q t = R at *
      generalize fixT i t = fx at *
      repeat' first | refine pw_seq ?_ | refine pw_skip ?_ | refine pw_ret ?_ | refine pw_exit ?_ | refine pw_block ?_ | refine pw_region (fun _ => false) hmix ?_ | (refine rc (hM) rfl ?_ ?_; (· first | rfl | (simp (disch := omega) only [go_sem, simprocAttr]; done))) | (refine wpG_split rfl rfl (fun hc => ?_) (fun hc => ?_) <;> try simp only [hcL, reduceCtorEq] at hc) | (refine pw_cond _ rfl rfl (fun hc => ?_) (fun hc => ?_) <;> (try simp only [hcL, reduceCtorEq] at hc) <;> try (exfalso; omega)) | simp (maxSteps := 1000000) (disch := omega) only [go_sem, simprocAttr] | apply And.intro | omega | decide +kernel
      refine pw_loopI (κ := Nat) (fun (c : Nat) => c ≤ R.length) (fun (c : Nat) => [(1, .int i), (2, .ptr 2 0 0 0), (5, .ref 901 1 0 0 0), (7, .int fx), (8, .d (listsD R)), (9, .int c)]) (fun (c : Nat) => [(2, .cells [.int n, .d (listsD ls), .d (arcsD ar), .d (listsD cs)]), (901, .row 1 [])]) (fun (c : Nat) => R.length - c) 0 ?_ ?_ ?_
      ·exact Nat.zero_le _
      ·exact eL [] _ _ (by refine ⟨?_, ?_⟩ <;> (repeat' first | exact List.forall_mem_nil _ | refine List.forall_mem_cons.2 ⟨(by first | rfl | (simp (disch := omega) only [go_sem, simprocAttr, inL]; first | done | omega | (congr 1; done))), ?_⟩); done)
      ·intro c hc0
       repeat' first | refine pw_seq ?_ | refine pw_skip ?_ | refine pw_ret ?_ | refine pw_exit ?_ | refine pw_block ?_ | refine pw_region (fun _ => false) hmix ?_ | (refine wpG_split rfl rfl (fun hc => ?_) (fun hc => ?_) <;> try simp only [hcL, reduceCtorEq] at hc) | (refine pw_cond _ rfl rfl (fun hc => ?_) (fun hc => ?_) <;> (try simp only [hcL, reduceCtorEq] at hc) <;> try (exfalso; omega)) | simp (maxSteps := 1000000) (disch := omega) only [go_sem, simprocAttr] | apply And.intro | omega | decide +kernel
       refine ⟨t + 1, ?_, eL [] _ _ (by refine ⟨?_, ?_⟩ <;> (repeat' first | exact List.forall_mem_nil _ | refine List.forall_mem_cons.2 ⟨(by first | rfl | (simp (disch := omega) only [go_sem, simprocAttr, inL, e2]; first | done | omega | (congr 1; done))), ?_⟩); done), ?_⟩
       ·omega
       ·omega
     ·have : t = 2 := by omega
      subst this
      repeat' first | refine pw_seq ?_ | refine pw_skip ?_ | refine pw_ret ?_ | refine pw_exit ?_ | refine pw_block ?_ | refine pw_region (fun _ => false) hmix ?_ | (refine wpG_split rfl rfl (fun hc => ?_) (fun hc => ?_) <;> try simp only [hcL, reduceCtorEq] at hc) | (refine pw_cond _ rfl rfl (fun hc => ?_) (fun hc => ?_) <;> (try simp only [hcL, reduceCtorEq] at hc) <;> try (exfalso; omega)) | simp (maxSteps := 1000000) (disch := omega) only [go_sem, simprocAttr] | apply And.intro | omega | decide +kernel
      refine ret_ref (o := 901) rfl rfl (by simp) ?_
      simp [sqM]
   | succ k =>
    obtain rfl : N = k + 1 := by omega
    have hz0 : ∀ r, (rowG (A 0 r) (k + 1)).map D.int = List.replicate (k + 1) (D.int 0) := fun r => by
     rw [rowG_zero]; congr 1; exact rowG_congr fun v _ => haccZ r v
    have hiN : ∀ (j : Nat) (x y : List D), j < k + 1 → (if j < k + 1 then x else y) = x := fun j x y h => if_pos h
    dsimp only
    repeat' first | refine pw_seq ?_ | refine pw_skip ?_ | refine pw_ret ?_ | refine pw_exit ?_ | refine pw_block ?_ | refine pw_region (fun _ => false) hmix ?_ | (refine wpG_split rfl rfl (fun hc => ?_) (fun hc => ?_) <;> try simp only [hcL, reduceCtorEq] at hc) | (refine pw_cond _ rfl rfl (fun hc => ?_) (fun hc => ?_) <;> (try simp only [hcL, reduceCtorEq] at hc) <;> try (exfalso; omega)) | simp (maxSteps := 1000000) (disch := omega) only [go_sem, simprocAttr, List.append_eq, hy, ← hN] | apply And.intro | omega | decide +kernel
    refine pw_loopF (κ := Nat) (fun (t : Nat) => t ≤ 2) (fun (t : Nat) => [(1, .int i), (2, .ptr 2 0 0 0), (5, .ref 901 1 0 (k + 1) (k + 1)), (7, .int ((i : Int) - 1 + 2 * (t : Int)))]) (fun (t : Nat) => [⟨1, 901, 1, k + 1, fun j => (rowG (A t j) (k + 1)).map D.int⟩]) (fun (t : Nat) => [(2, .cells [.int n, .d (listsD ls), .d (arcsD ar), .d (listsD cs)])]) (fun (t : Nat) => 2 - t) 0 ?_ ?_ ?_
    ·exact Nat.zero_le _
    ·refine eF [] [] _ _ _ (by refine ⟨?_, ?_⟩ <;> (repeat' first | exact List.forall_mem_nil _ | refine List.forall_mem_cons.2 ⟨(by first | rfl | (simp (disch := omega) only [go_sem, simprocAttr, inL, Int.natCast_zero, Int.mul_zero, Int.add_zero]; first | done | omega | (congr 1; done))), ?_⟩); done) ?_
     repeat' first | exact List.forall_mem_nil _ | refine List.forall_mem_cons.2 ⟨?_, ?_⟩
     all_goals refine ⟨_, (by first | rfl | (simp (disch := omega) only [go_sem, simprocAttr, hz0, List.map_replicate, List.length_replicate]; done) | (simp (disch := omega) only [go_sem, simprocAttr, hz0, List.map_replicate, List.length_replicate]; rfl)), fun i hi => ?_⟩
     all_goals dsimp only at hi ⊢
     all_goals try (exfalso; omega)
     all_goals try (simp (disch := omega) only [go_sem, simprocAttr, hz0, List.map_replicate, List.length_replicate, fid_lit, lit_fid]; done)
    ·intro t ht
     rcases Nat.lt_or_ge t 2 with hlt2 | hge2
     ·have hM := hMs t
      have hsq := hMsq t
      have hml := hMlen t
      have hS := haccS t
      have e0 := fix_eq (i := i) hlt2
      have e2 : fixT i t + 2 = (i : Int) - 1 + 2 * ((t + 1 : Nat) : Int) := by rw [← e0]; omega
      have b0 : fixT i t ≤ (i : Int) + 1 ∧ (i : Int) - 1 ≤ fixT i t := by rw [← e0]; omega
      rw [e0]
      generalize hR : Q t = R at *
      generalize fixT i t = fx at *
      repeat' first | refine pw_seq ?_ | refine pw_skip ?_ | refine pw_ret ?_ | refine pw_exit ?_ | refine pw_block ?_ | refine pw_region (fun _ => false) hmix ?_ | (refine rc (hM) rfl ?_ ?_; (· first | rfl | (simp (disch := omega) only [go_sem, simprocAttr]; done))) | (refine wpG_split rfl rfl (fun hc => ?_) (fun hc => ?_) <;> try simp only [hcL, reduceCtorEq] at hc) | (refine pw_cond _ rfl rfl (fun hc => ?_) (fun hc => ?_) <;> (try simp only [hcL, reduceCtorEq] at hc) <;> try (exfalso; omega)) | simp (maxSteps := 1000000) (disch := omega) only [go_sem, simprocAttr] | apply And.intro | omega | decide +kernel
      refine pw_loopF (κ := Nat) (fun (c : Nat) => c ≤ R.length) (fun (c : Nat) => [(1, .int i), (2, .ptr 2 0 0 0), (5, .ref 901 1 0 (k + 1) (k + 1)), (7, .int fx), (8, .d (listsD R)), (9, .int c)]) (fun (c : Nat) => [⟨1, 901, 1, k + 1, fun j => if j < c then (rowG (A (t + 1) j) (k + 1)).map D.int else (rowG (A t j) (k + 1)).map D.int⟩]) (fun (c : Nat) => [(2, .cells [.int n, .d (listsD ls), .d (arcsD ar), .d (listsD cs)])]) (fun (c : Nat) => R.length - c) 0 ?_ ?_ ?_
      ·exact Nat.zero_le _
      ·refine eF [] [] _ _ _ (by refine ⟨?_, ?_⟩ <;> (repeat' first | exact List.forall_mem_nil _ | refine List.forall_mem_cons.2 ⟨(by first | rfl | (simp (disch := omega) only [go_sem, simprocAttr, inL]; first | done | omega | (congr 1; done))), ?_⟩); done) ?_
       repeat' first | exact List.forall_mem_nil _ | refine List.forall_mem_cons.2 ⟨?_, ?_⟩
       all_goals refine ⟨_, (by first | rfl | (simp (disch := omega) only [go_sem, simprocAttr, Nat.not_lt_zero]; done) | (simp (disch := omega) only [go_sem, simprocAttr, Nat.not_lt_zero]; rfl)), fun i hi => ?_⟩
       all_goals dsimp only at hi ⊢
       all_goals try (exfalso; omega)
       all_goals try (simp (disch := omega) only [go_sem, simprocAttr, Nat.not_lt_zero, fid_lit, lit_fid]; done)
      ·intro c hc0
       rcases Nat.lt_or_ge c R.length with hlc | hgc
       ·have hRN : R.length = k + 1 := by omega
        obtain ⟨r, hr⟩ := get_some hlc
        have hrl := hsq.row r (List.mem_of_getElem? hr)
        have hrN : r.length = k + 1 := by omega
        have hnu : ¬ c < c := by omega
        repeat' first | refine pw_seq ?_ | refine pw_skip ?_ | refine pw_ret ?_ | refine pw_exit ?_ | refine pw_block ?_ | refine pw_region (fun _ => false) hmix ?_ | (refine wpG_split rfl rfl (fun hc => ?_) (fun hc => ?_) <;> try simp only [hcL, reduceCtorEq] at hc) | (refine pw_cond _ rfl rfl (fun hc => ?_) (fun hc => ?_) <;> (try simp only [hcL, reduceCtorEq] at hc) <;> try (exfalso; omega)) | simp (maxSteps := 1000000) (disch := omega) only [go_sem, simprocAttr, hRN] | apply And.intro | omega | decide +kernel
        refine pw_loopF (κ := Nat) (fun (b : Nat) => b ≤ k + 1) (fun (b : Nat) => [(1, .int i), (2, .ptr 2 0 0 0), (5, .ref 901 1 0 (k + 1) (k + 1)), (7, .int fx), (8, .d (listsD R)), (9, .int c), (10, .int b)]) (fun (b : Nat) => [⟨1, 901, 1, k + 1, fun j => if j < c then (rowG (A (t + 1) j) (k + 1)).map D.int else if j = c then (mixR (A t c) (A (t + 1) c) (k + 1) b).map D.int else (rowG (A t j) (k + 1)).map D.int⟩]) (fun (b : Nat) => [(2, .cells [.int n, .d (listsD ls), .d (arcsD ar), .d (listsD cs)])]) (fun (b : Nat) => k + 1 - b) 0 ?_ ?_ ?_
        ·exact Nat.zero_le _
        ·refine eF [] [] _ _ _ (by refine ⟨?_, ?_⟩ <;> (repeat' first | exact List.forall_mem_nil _ | refine List.forall_mem_cons.2 ⟨(by first | rfl | (simp (disch := omega) only [go_sem, simprocAttr, inL]; first | done | omega | (congr 1; done))), ?_⟩); done) ?_
         repeat' first | exact List.forall_mem_nil _ | refine List.forall_mem_cons.2 ⟨?_, ?_⟩
         all_goals refine ⟨_, (by first | rfl | (simp (disch := omega) only [go_sem, simprocAttr, hnu, mixR_zero]; done) | (simp (disch := omega) only [go_sem, simprocAttr, hnu, mixR_zero]; rfl)), fun i hi => ?_⟩
         all_goals dsimp only at hi ⊢
         all_goals rcases Decidable.em (i = c) with rfl | hi0
         all_goals try (exfalso; omega)
         all_goals try (simp (disch := omega) only [go_sem, simprocAttr, hnu, mixR_zero, fid_lit, lit_fid]; done)
         all_goals try (simp (disch := omega) only [go_sem, simprocAttr, hnu, mixR_zero, hi0, fid_lit, lit_fid]; done)
        ·intro b hb
         have hfl2 := mixR_len (A t c) (A (t + 1) c) (k + 1) b
         rcases Nat.lt_or_ge b (k + 1) with hlb | hgb
         ·obtain ⟨p, hp, _, hpv, g1, g2⟩ := hsq.get hlc (show b < R.length by omega)
          rw [hr, Option.some.injEq] at hp
          rw [← hp] at hpv
          have hcell := hS c b
          have ha := hacc t c b
          have hg : (mixR (A t c) (A (t + 1) c) (k + 1) b)[b]? = some (A t c b) := mixR_get hlb
          have hst : (mixR (A t c) (A (t + 1) c) (k + 1) b).set b (A (t + 1) c b) = mixR (A t c) (A (t + 1) c) (k + 1) (b + 1) := mixR_step hlb
          rw [hcell] at hst
          refine pw_ent _ (ent_bor _ _ [2, 901] 901 c 900 1 1 (k + 1) (by first | rfl | (simp (disch := omega) only [go_sem, simprocAttr, hnu, hfl2]; done) | (simp (disch := omega) only [go_sem, simprocAttr, hnu, hfl2]; rfl)) (by first | (simp (disch := omega) only [go_sem, simprocAttr, hnu, hfl2]; done) | (simp (disch := omega) only [go_sem, simprocAttr, hnu, hfl2]; rfl)) (by first | (simp (disch := omega) only [go_sem, simprocAttr, hnu, hfl2]; done) | (simp (disch := omega) only [go_sem, simprocAttr, hnu, hfl2]; rfl)) (fun i hi hne => by simp (disch := omega) only [go_sem, simprocAttr, hne, hnu, hfl2]; (repeat' split) <;> exact .ref _ _ _ _ _ ⟨by simp (disch := omega) only [go_sem, simprocAttr, hne, hnu, hfl2], by simp (disch := omega) only [go_sem, simprocAttr, hne, hnu, hfl2]⟩) (by (repeat' first | refine ab_nil ?_ | exact ab_obOf (ids := [2, 901]) rfl rfl (Nat.le_of_ble_eq_true rfl) | refine ab_hole ?_ | refine ab_row ?_ | refine ab_dead ?_ | refine ab_self ?_ | refine ab_self_fam ?_ | refine ab_fam (by dsimp only; omega) (by dsimp only; omega) (by omega) (by omega) (Nat.le_of_ble_eq_true rfl) ?_); done) rfl rfl rfl) ?_
          repeat' first | refine pw_seq ?_ | refine pw_skip ?_ | refine pw_ret ?_ | refine pw_exit ?_ | refine pw_block ?_ | refine pw_region (fun _ => false) hmix ?_ | (refine wpG_split rfl rfl (fun hc => ?_) (fun hc => ?_) <;> try simp only [hcL, reduceCtorEq] at hc) | (refine pw_cond _ rfl rfl (fun hc => ?_) (fun hc => ?_) <;> (try simp only [hcL, reduceCtorEq] at hc) <;> try (exfalso; omega)) | simp (maxSteps := 1000000) (disch := omega) only [go_sem, simprocAttr, hr, hrN, hRN, hpv, hg, hfl2, hnu] | apply And.intro | omega | decide +kernel
          refine ⟨b + 1, ?_, eF [(fid 1 c, 900)] [] _ _ _ (by refine ⟨?_, ?_⟩ <;> (repeat' first | exact List.forall_mem_nil _ | refine List.forall_mem_cons.2 ⟨(by first | rfl | (simp (disch := omega) only [go_sem, simprocAttr, inL]; first | done | omega | (congr 1; done))), ?_⟩); done) ?_, ?_⟩
          ·omega
          ·repeat' first | exact List.forall_mem_nil _ | refine List.forall_mem_cons.2 ⟨?_, ?_⟩
           all_goals refine ⟨_, (by first | rfl | (simp (disch := omega) only [go_sem, simprocAttr, hst.symm, List.map_set, List.length_set, List.length_map, hfl2, hnu]; done) | (simp (disch := omega) only [go_sem, simprocAttr, hst.symm, List.map_set, List.length_set, List.length_map, hfl2, hnu]; rfl)), fun i hi => ?_⟩
           all_goals dsimp only at hi ⊢
           all_goals rcases Decidable.em (i = c) with rfl | hi0
           all_goals try (exfalso; omega)
           all_goals try (simp (disch := omega) only [go_sem, simprocAttr, hst.symm, List.map_set, List.length_set, List.length_map, hfl2, hnu, fid_lit, lit_fid]; done)
           all_goals try (simp (disch := omega) only [go_sem, simprocAttr, hst.symm, List.map_set, List.length_set, List.length_map, hfl2, hnu, hi0, fid_lit, lit_fid]; done)
          ·omega
         ·have : b = k + 1 := by omega
          subst this
          have hsu : ∀ i, i ≠ c → ((i < c + 1) = (i < c)) := fun i h => propext (by omega)
          repeat' first | refine pw_seq ?_ | refine pw_skip ?_ | refine pw_ret ?_ | refine pw_exit ?_ | refine pw_block ?_ | refine pw_region (fun _ => false) hmix ?_ | (refine wpG_split rfl rfl (fun hc => ?_) (fun hc => ?_) <;> try simp only [hcL, reduceCtorEq] at hc) | (refine pw_cond _ rfl rfl (fun hc => ?_) (fun hc => ?_) <;> (try simp only [hcL, reduceCtorEq] at hc) <;> try (exfalso; omega)) | simp (maxSteps := 1000000) (disch := omega) only [go_sem, simprocAttr, hRN] | apply And.intro | omega | decide +kernel
          refine ⟨c + 1, ?_, eF [] [] _ _ _ (by refine ⟨?_, ?_⟩ <;> (repeat' first | exact List.forall_mem_nil _ | refine List.forall_mem_cons.2 ⟨(by first | rfl | (simp (disch := omega) only [go_sem, simprocAttr, inL]; first | done | omega | (congr 1; done))), ?_⟩); done) ?_, ?_⟩
          ·omega
          ·repeat' first | exact List.forall_mem_nil _ | refine List.forall_mem_cons.2 ⟨?_, ?_⟩
           all_goals refine ⟨_, (by first | rfl | (simp (disch := omega) only [go_sem, simprocAttr, hnu, hsu, Nat.lt_add_one, mixR_full]; done) | (simp (disch := omega) only [go_sem, simprocAttr, hnu, hsu, Nat.lt_add_one, mixR_full]; rfl)), fun i hi => ?_⟩
           all_goals dsimp only at hi ⊢
           all_goals rcases Decidable.em (i = c) with rfl | hi0
           all_goals try (exfalso; omega)
           all_goals try (simp (disch := omega) only [go_sem, simprocAttr, hnu, hsu, Nat.lt_add_one, mixR_full, fid_lit, lit_fid]; done)
           all_goals try (simp (disch := omega) only [go_sem, simprocAttr, hnu, hsu, Nat.lt_add_one, mixR_full, hi0, fid_lit, lit_fid]; done)
          ·omega
       ·have : R.length = c := by omega
        subst this
        repeat' first | refine pw_seq ?_ | refine pw_skip ?_ | refine pw_ret ?_ | refine pw_exit ?_ | refine pw_block ?_ | refine pw_region (fun _ => false) hmix ?_ | (refine wpG_split rfl rfl (fun hc => ?_) (fun hc => ?_) <;> try simp only [hcL, reduceCtorEq] at hc) | (refine pw_cond _ rfl rfl (fun hc => ?_) (fun hc => ?_) <;> (try simp only [hcL, reduceCtorEq] at hc) <;> try (exfalso; omega)) | simp (maxSteps := 1000000) (disch := omega) only [go_sem, simprocAttr] | apply And.intro | omega | decide +kernel
        rcases hml with hml | hml
        ·have hsame : ∀ j, rowG (A (t + 1) j) (k + 1) = rowG (A t j) (k + 1) := fun j => rowG_congr fun v _ => by
          rw [hS, cellAt, lstN_out (by omega)]; simp [at0]
         refine ⟨t + 1, ?_, eF [] [] _ _ _ (by refine ⟨?_, ?_⟩ <;> (repeat' first | exact List.forall_mem_nil _ | refine List.forall_mem_cons.2 ⟨(by first | rfl | (simp (disch := omega) only [go_sem, simprocAttr, inL, e2]; first | done | omega | (congr 1; done))), ?_⟩); done) ?_, ?_⟩
         ·omega
         ·repeat' first | exact List.forall_mem_nil _ | refine List.forall_mem_cons.2 ⟨?_, ?_⟩
          all_goals refine ⟨_, (by first | rfl | (simp (disch := omega) only [go_sem, simprocAttr, hml, Nat.not_lt_zero, hsame]; done) | (simp (disch := omega) only [go_sem, simprocAttr, hml, Nat.not_lt_zero, hsame]; rfl)), fun i hi => ?_⟩
          all_goals dsimp only at hi ⊢
          all_goals try (exfalso; omega)
          all_goals try (simp (disch := omega) only [go_sem, simprocAttr, hml, Nat.not_lt_zero, hsame, fid_lit, lit_fid]; done)
         ·omega
        ·have hRN : R.length = k + 1 := by omega
         refine ⟨t + 1, ?_, eF [] [] _ _ _ (by refine ⟨?_, ?_⟩ <;> (repeat' first | exact List.forall_mem_nil _ | refine List.forall_mem_cons.2 ⟨(by first | rfl | (simp (disch := omega) only [go_sem, simprocAttr, inL, e2]; first | done | omega | (congr 1; done))), ?_⟩); done) ?_, ?_⟩
         ·omega
         ·repeat' first | exact List.forall_mem_nil _ | refine List.forall_mem_cons.2 ⟨?_, ?_⟩
          all_goals refine ⟨_, (by first | rfl | (simp (disch := omega) only [go_sem, simprocAttr, hRN, hiN]; done) | (simp (disch := omega) only [go_sem, simprocAttr, hRN, hiN]; rfl)), fun i hi => ?_⟩
          all_goals dsimp only at hi ⊢
          all_goals try (exfalso; omega)
          all_goals try (simp (disch := omega) only [go_sem, simprocAttr, hRN, hiN, fid_lit, lit_fid]; done)
         ·omega
     ·have : t = 2 := by omega
      subst this
      try dsimp only
      refine pw_ent _ (ent_famRow _ _ _ _ ⟨nodup_of rfl, nodup_of rfl, (by (repeat' first | exact List.forall_mem_nil _ | refine List.forall_mem_cons.2 ⟨⟨Nat.le_of_ble_eq_true rfl, Nat.le_of_ble_eq_true rfl, by dsimp only; omega⟩, ?_⟩); done)⟩ rfl [2, 901] rfl rfl rfl rfl) ?_
      repeat' first | refine pw_seq ?_ | refine pw_skip ?_ | refine pw_ret ?_ | refine pw_exit ?_ | refine pw_block ?_ | refine pw_region (fun _ => false) hmix ?_ | (refine wpG_split rfl rfl (fun hc => ?_) (fun hc => ?_) <;> try simp only [hcL, reduceCtorEq] at hc) | (refine pw_cond _ rfl rfl (fun hc => ?_) (fun hc => ?_) <;> (try simp only [hcL, reduceCtorEq] at hc) <;> try (exfalso; omega)) | simp (maxSteps := 1000000) (disch := omega) only [go_sem, simprocAttr] | apply And.intro | omega | decide +kernel
      refine ret_ref (o := 901) rfl rfl (by simp) ?_
      rw [List.take_of_length_le (by simp), sqM, List.map_map, List.range_succ]
      rfl
end Go.Proofs.YtldbcbclhpcofaaGreat
namespace Go.Proofs.YtldbcbclhpcofaaGreat
open Go Go.PS Go.Proofs
set_option maxRecDepth 100000
attribute [local irreducible] wpRun wpG CallsTo CallsM

theorem fam_list {L : List (List Int)} {k : Nat} (h : L.length = k) : ((List.range k).map fun r => D.sl ((lstN L r).map D.int)) = L.map intsD := by
 refine List.ext_getElem? fun j => ?_
 by_cases c : j < k
 ·obtain ⟨x, hx⟩ := get_some (l := L) (k := j) (by omega)
  rw [List.getElem?_map, List.getElem?_range c, List.getElem?_map, hx, Option.map_some, Option.map_some, lstN_at hx]
 ·rw [List.getElem?_eq_none (by simp; omega), List.getElem?_eq_none (by simp; omega)]
set_option maxHeartbeats 16000000 in
theorem with_spec (a : Lv) (i : Int) (lay : List Int) (L : List (List Int)) (hLl : L.length = a.2.1.length) (hL : ∀ (k : Nat) x, a.2.1[k]? = some x → L[k]? = some (if (k : Int) = i then lay else x))
  (hls : a.2.1.length ≤ 1000) (hxl : ∀ x, x ∈ a.2.1 → x.length ≤ 1000000) (hlay : lay.length ≤ 1000000) (har : a.2.2.1.length ≤ 1000000) (hcs : a.2.2.2.length ≤ 1000) (hcx : ∀ x, x ∈ a.2.2.2 → x.length ≤ 1000000) :
  CallsTo Tryz.prog 31 [lvD a, .int i, intsD lay] (lvD (a.1, L, a.2.2.1, a.2.2.2)) := by
 obtain ⟨n, ls, ar, cs⟩ := a
 dsimp only at *
 refine callsTo_of Tryz.func31 rfl (by decide +kernel) (Nat.le_of_ble_eq_true rfl) ?_
 intro hat B X w0
 repeat' first | refine pw_seq ?_ | refine pw_skip ?_ | refine pw_ret ?_ | refine pw_exit ?_ | refine pw_block ?_ | refine pw_region (fun _ => false) hmix ?_ | (refine wpG_split rfl rfl (fun hc => ?_) (fun hc => ?_) <;> try simp only [hcL, reduceCtorEq] at hc) | (refine pw_cond _ rfl rfl (fun hc => ?_) (fun hc => ?_) <;> (try simp only [hcL, reduceCtorEq] at hc) <;> try (exfalso; omega)) | simp (maxSteps := 1000000) (disch := omega) only [go_sem, simprocAttr] | apply And.intro | omega | decide +kernel
 refine pw_ent _ (ent_nilC 7 1 901 1 rfl rfl rfl) ?_
 refine pw_loopF (κ := Nat) (fun k => k ≤ ls.length) (fun k => [(1, .int i), (2, .d (intsD lay)), (3, .ptr 3 0 0 0), (6, .ptr 6 0 0 0), (7, .ptr 7 0 0 0), (8, .int k)])
  (fun k => match k with | 0 => [] | j + 1 => [⟨1, 901, 1, j + 1, fun r => (lstN L r).map D.int⟩])
  (fun k => match k with | 0 => [(3, .cells [.int n, .d (listsD ls), .d (arcsD ar), .d (listsD cs)]), (6, .cells [.int 0, .nilS, .nilS, .nilS]), (7, .cells [.int n, .ref 901 1 0 0 0, .d (arcsD ar), .d (listsD cs)]), (901, .row 1 [])] | j + 1 => [(3, .cells [.int n, .d (listsD ls), .d (arcsD ar), .d (listsD cs)]), (6, .cells [.int 0, .nilS, .nilS, .nilS]), (7, .cells [.int n, .ref 901 1 0 (j + 1) (j + 1), .d (arcsD ar), .d (listsD cs)])]) (fun k => ls.length - k) 0 ?_ ?_ ?_
 ·exact Nat.zero_le _
 ·refine eF [] [] _ _ _ (by refine ⟨?_, ?_⟩ <;> (repeat' first | exact List.forall_mem_nil _ | refine List.forall_mem_cons.2 ⟨(by first | rfl | (simp (disch := omega) only [go_sem, simprocAttr, inL]; first | done | omega | (congr 1; done))), ?_⟩); done) ?_
  repeat' first | exact List.forall_mem_nil _ | refine List.forall_mem_cons.2 ⟨?_, ?_⟩
  all_goals refine ⟨_, (by first | rfl | (simp (disch := omega) only [go_sem, simprocAttr]; done) | (simp (disch := omega) only [go_sem, simprocAttr]; rfl)), fun i hi => ?_⟩
  all_goals dsimp only at hi ⊢
  all_goals try (exfalso; omega)
  all_goals try (simp (disch := omega) only [go_sem, simprocAttr, fid_lit, lit_fid]; done)
 ·intro k hk
  rcases Nat.lt_or_ge k ls.length with hkN | hkN
  ·cases k with
   | zero =>
    obtain ⟨x, hx⟩ := get_some hkN
    dsimp only
    have hLk := hL (0) x hx
    by_cases c : ((0 : Nat) : Int) = i
    ·rw [if_pos c] at hLk
     subst c
     have hl0 : lstN L (0) = lay := lstN_at hLk
     have hWl : lay.length ≤ 1000000 := hlay
     have htW : (lay.map D.int).take lay.length = lay.map D.int := take_map_len _ _
     repeat' first | refine pw_seq ?_ | refine pw_skip ?_ | refine pw_ret ?_ | refine pw_exit ?_ | refine pw_block ?_ | refine pw_region (Nat.beq 31) hmix ?_ | (refine wpG_split rfl rfl (fun hc => ?_) (fun hc => ?_) <;> try simp only [hcL, reduceCtorEq] at hc) | (refine pw_cond _ rfl rfl (fun hc => ?_) (fun hc => ?_) <;> (try simp only [hcL, reduceCtorEq] at hc) <;> try (exfalso; omega)) | simp (maxSteps := 1000000) (disch := omega) only [go_sem, simprocAttr, List.append_eq, hx, roomy, List.isEmpty_nil, List.length_map, Nat.zero_add, htW] | exact one_int _ | apply And.intro | omega | decide +kernel
     refine ⟨1, ?_, eF [(fid 1 0, 33)] [(901, 35)] _ _ _ (by refine ⟨?_, ?_⟩ <;> (repeat' first | exact List.forall_mem_nil _ | refine List.forall_mem_cons.2 ⟨(by first | rfl | (simp (disch := omega) only [go_sem, simprocAttr, inL, hl0, List.length_map]; first | done | omega | (congr 1; done))), ?_⟩); done) ?_, ?_⟩
     ·omega
     ·refine List.forall_mem_cons.2 ⟨⟨fun _ => .ref 33 1 0 lay.length lay.length, ?_, fun r hr => ?_⟩, List.forall_mem_nil _⟩
      ·rw [refs_one]
       simp (maxSteps := 1000000) (disch := omega) only [go_sem, simprocAttr, List.isEmpty_nil]
      ·obtain rfl : r = 0 := by dsimp only at hr; omega
       simp (maxSteps := 1000000) (disch := omega) only [go_sem, simprocAttr, hl0, List.length_map]
     ·omega
    ·rw [if_neg c] at hLk
     have hl0 : lstN L (0) = x := lstN_at hLk
     have hWl : x.length ≤ 1000000 := hxl x (List.mem_of_getElem? hx)
     have htW : (x.map D.int).take x.length = x.map D.int := take_map_len _ _
     repeat' first | refine pw_seq ?_ | refine pw_skip ?_ | refine pw_ret ?_ | refine pw_exit ?_ | refine pw_block ?_ | refine pw_region (Nat.beq 31) hmix ?_ | (refine wpG_split rfl rfl (fun hc => ?_) (fun hc => ?_) <;> try simp only [hcL, reduceCtorEq] at hc) | (refine pw_cond _ rfl rfl (fun hc => ?_) (fun hc => ?_) <;> (try simp only [hcL, reduceCtorEq] at hc) <;> try (exfalso; omega)) | simp (maxSteps := 1000000) (disch := omega) only [go_sem, simprocAttr, List.append_eq, hx, c, roomy, List.isEmpty_nil, List.length_map, Nat.zero_add, htW] | exact one_int _ | apply And.intro | omega | decide +kernel
     refine ⟨1, ?_, eF [(fid 1 0, 33)] [(901, 35)] _ _ _ (by refine ⟨?_, ?_⟩ <;> (repeat' first | exact List.forall_mem_nil _ | refine List.forall_mem_cons.2 ⟨(by first | rfl | (simp (disch := omega) only [go_sem, simprocAttr, inL, hl0, List.length_map]; first | done | omega | (congr 1; done))), ?_⟩); done) ?_, ?_⟩
     ·omega
     ·refine List.forall_mem_cons.2 ⟨⟨fun _ => .ref 33 1 0 x.length x.length, ?_, fun r hr => ?_⟩, List.forall_mem_nil _⟩
      ·rw [refs_one]
       simp (maxSteps := 1000000) (disch := omega) only [go_sem, simprocAttr, List.isEmpty_nil]
      ·obtain rfl : r = 0 := by dsimp only at hr; omega
       simp (maxSteps := 1000000) (disch := omega) only [go_sem, simprocAttr, hl0, List.length_map]
     ·omega
   | succ k =>
    obtain ⟨x, hx⟩ := get_some hkN
    dsimp only
    have hLk := hL (k + 1) x hx
    by_cases c : ((k + 1 : Nat) : Int) = i
    ·rw [if_pos c] at hLk
     subst c
     have hl0 : lstN L (k + 1) = lay := lstN_at hLk
     have hWl : lay.length ≤ 1000000 := hlay
     have htW : (lay.map D.int).take lay.length = lay.map D.int := take_map_len _ _
     repeat' first | refine pw_seq ?_ | refine pw_skip ?_ | refine pw_ret ?_ | refine pw_exit ?_ | refine pw_block ?_ | refine pw_region (Nat.beq 31) hmix ?_ | (refine wpG_split rfl rfl (fun hc => ?_) (fun hc => ?_) <;> try simp only [hcL, reduceCtorEq] at hc) | (refine pw_cond _ rfl rfl (fun hc => ?_) (fun hc => ?_) <;> (try simp only [hcL, reduceCtorEq] at hc) <;> try (exfalso; omega)) | simp (maxSteps := 1000000) (disch := omega) only [go_sem, simprocAttr, List.append_eq, hx, roomy, List.isEmpty_nil, List.length_map, Nat.zero_add, htW] | exact one_int _ | apply And.intro | omega | decide +kernel
     refine ⟨k + 2, ?_, eF [(fid 1 (k + 1), 33)] [(901, 35)] _ _ _ (by refine ⟨?_, ?_⟩ <;> (repeat' first | exact List.forall_mem_nil _ | refine List.forall_mem_cons.2 ⟨(by first | rfl | (simp (disch := omega) only [go_sem, simprocAttr, inL, hl0, List.length_map]; first | done | omega | (congr 1; done))), ?_⟩); done) ?_, ?_⟩
     ·omega
     ·repeat' first | exact List.forall_mem_nil _ | refine List.forall_mem_cons.2 ⟨?_, ?_⟩
      all_goals refine ⟨_, (by first | rfl | (simp (disch := omega) only [go_sem, simprocAttr, hl0, List.length_map]; done) | (simp (disch := omega) only [go_sem, simprocAttr, hl0, List.length_map]; rfl)), fun i hi => ?_⟩
      all_goals dsimp only at hi ⊢
      all_goals rcases Decidable.em (i = k+1) with rfl | hi0
      all_goals try (exfalso; omega)
      all_goals try (simp (disch := omega) only [go_sem, simprocAttr, hl0, List.length_map, fid_lit, lit_fid]; done)
      all_goals try (simp (disch := omega) only [go_sem, simprocAttr, hl0, List.length_map, hi0, fid_lit, lit_fid]; done)
     ·omega
    ·rw [if_neg c] at hLk
     have hl0 : lstN L (k + 1) = x := lstN_at hLk
     have hWl : x.length ≤ 1000000 := hxl x (List.mem_of_getElem? hx)
     have htW : (x.map D.int).take x.length = x.map D.int := take_map_len _ _
     repeat' first | refine pw_seq ?_ | refine pw_skip ?_ | refine pw_ret ?_ | refine pw_exit ?_ | refine pw_block ?_ | refine pw_region (Nat.beq 31) hmix ?_ | (refine wpG_split rfl rfl (fun hc => ?_) (fun hc => ?_) <;> try simp only [hcL, reduceCtorEq] at hc) | (refine pw_cond _ rfl rfl (fun hc => ?_) (fun hc => ?_) <;> (try simp only [hcL, reduceCtorEq] at hc) <;> try (exfalso; omega)) | simp (maxSteps := 1000000) (disch := omega) only [go_sem, simprocAttr, List.append_eq, hx, c, roomy, List.isEmpty_nil, List.length_map, Nat.zero_add, htW] | exact one_int _ | apply And.intro | omega | decide +kernel
     refine ⟨k + 2, ?_, eF [(fid 1 (k + 1), 33)] [(901, 35)] _ _ _ (by refine ⟨?_, ?_⟩ <;> (repeat' first | exact List.forall_mem_nil _ | refine List.forall_mem_cons.2 ⟨(by first | rfl | (simp (disch := omega) only [go_sem, simprocAttr, inL, hl0, List.length_map]; first | done | omega | (congr 1; done))), ?_⟩); done) ?_, ?_⟩
     ·omega
     ·repeat' first | exact List.forall_mem_nil _ | refine List.forall_mem_cons.2 ⟨?_, ?_⟩
      all_goals refine ⟨_, (by first | rfl | (simp (disch := omega) only [go_sem, simprocAttr, hl0, List.length_map]; done) | (simp (disch := omega) only [go_sem, simprocAttr, hl0, List.length_map]; rfl)), fun i hi => ?_⟩
      all_goals dsimp only at hi ⊢
      all_goals rcases Decidable.em (i = k+1) with rfl | hi0
      all_goals try (exfalso; omega)
      all_goals try (simp (disch := omega) only [go_sem, simprocAttr, hl0, List.length_map, fid_lit, lit_fid]; done)
      all_goals try (simp (disch := omega) only [go_sem, simprocAttr, hl0, List.length_map, hi0, fid_lit, lit_fid]; done)
     ·omega
  ·cases k with
   | zero =>
    have hN0 : ls.length = 0 := by omega
    dsimp only
    have hL0 : L = [] := List.length_eq_zero_iff.1 (by omega)
    subst hL0
    have hls0 : ls = [] := List.length_eq_zero_iff.1 hN0
    subst hls0
    repeat' first | refine pw_seq ?_ | refine pw_skip ?_ | refine pw_ret ?_ | refine pw_exit ?_ | refine pw_block ?_ | refine pw_region (Nat.beq 37) hmix ?_ | (refine wpG_split rfl rfl (fun hc => ?_) (fun hc => ?_) <;> try simp only [hcL, reduceCtorEq] at hc) | (refine pw_cond _ rfl rfl (fun hc => ?_) (fun hc => ?_) <;> (try simp only [hcL, reduceCtorEq] at hc) <;> try (exfalso; omega)) | simp (maxSteps := 1000000) (disch := omega) only [go_sem, simprocAttr, roomy, List.length_map, Nat.zero_add, take_map_len, List.append_eq] | exact arc_cells ar | apply And.intro | omega | decide +kernel
    refine pw_ent _ (ent_nilC 7 3 902 1 rfl rfl rfl) ?_
    refine pw_loopF (κ := Nat) (fun k => k ≤ cs.length) (fun k => [(3, .ptr 3 0 0 0), (6, .ptr 6 0 0 0), (7, .ptr 7 0 0 0), (10, .int k)])
     (fun k => match k with | 0 => [] | j + 1 => [⟨1, 902, 1, j + 1, fun r => (lstN cs r).map D.int⟩])
     (fun k => match k with | 0 => [(3, .cells [.int n, .d (listsD []), .d (arcsD ar), .d (listsD cs)]), (6, .cells [.int 0, .nilS, .nilS, .nilS]), (7, .cells [.int n, .ref 901 1 0 0 0, .ref 40 2 0 ar.length ar.length, .ref 902 1 0 0 0]), (901, .row 1 []), (40, .row 2 (ar.map arcD)), (902, .row 1 [])] | j + 1 => [(3, .cells [.int n, .d (listsD []), .d (arcsD ar), .d (listsD cs)]), (6, .cells [.int 0, .nilS, .nilS, .nilS]), (7, .cells [.int n, .ref 901 1 0 0 0, .ref 40 2 0 ar.length ar.length, .ref 902 1 0 (j + 1) (j + 1)]), (901, .row 1 []), (40, .row 2 (ar.map arcD))]) (fun k => cs.length - k) 0 ?_ ?_ ?_
    ·exact Nat.zero_le _
    ·refine eF [] [] _ _ _ (by refine ⟨?_, ?_⟩ <;> (repeat' first | exact List.forall_mem_nil _ | refine List.forall_mem_cons.2 ⟨(by first | rfl | (simp (disch := omega) only [go_sem, simprocAttr, inL]; first | done | omega | (congr 1; done))), ?_⟩); done) ?_
     repeat' first | exact List.forall_mem_nil _ | refine List.forall_mem_cons.2 ⟨?_, ?_⟩
     all_goals refine ⟨_, (by first | rfl | (simp (disch := omega) only [go_sem, simprocAttr]; done) | (simp (disch := omega) only [go_sem, simprocAttr]; rfl)), fun i hi => ?_⟩
     all_goals dsimp only at hi ⊢
     all_goals try (exfalso; omega)
     all_goals try (simp (disch := omega) only [go_sem, simprocAttr, fid_lit, lit_fid]; done)
    ·intro k hk
     rcases Nat.lt_or_ge k cs.length with hkN | hkN
     ·cases k with
      | zero =>
       obtain ⟨x, hx⟩ := get_some hkN
       dsimp only
       have hl0 : lstN cs (0) = x := lstN_at hx
       have hWl : x.length ≤ 1000000 := hcx x (List.mem_of_getElem? hx)
       have htW : (x.map D.int).take x.length = x.map D.int := take_map_len _ _
       repeat' first | refine pw_seq ?_ | refine pw_skip ?_ | refine pw_ret ?_ | refine pw_exit ?_ | refine pw_block ?_ | refine pw_region (Nat.beq 52) hmix ?_ | (refine wpG_split rfl rfl (fun hc => ?_) (fun hc => ?_) <;> try simp only [hcL, reduceCtorEq] at hc) | (refine pw_cond _ rfl rfl (fun hc => ?_) (fun hc => ?_) <;> (try simp only [hcL, reduceCtorEq] at hc) <;> try (exfalso; omega)) | simp (maxSteps := 1000000) (disch := omega) only [go_sem, simprocAttr, List.append_eq, hx, roomy, List.isEmpty_nil, List.length_map, Nat.zero_add, htW] | exact one_int _ | apply And.intro | omega | decide +kernel
       refine ⟨1, ?_, eF [(fid 1 0, 58)] [(902, 60)] _ _ _ (by refine ⟨?_, ?_⟩ <;> (repeat' first | exact List.forall_mem_nil _ | refine List.forall_mem_cons.2 ⟨(by first | rfl | (simp (disch := omega) only [go_sem, simprocAttr, inL, hl0, List.length_map]; first | done | omega | (congr 1; done))), ?_⟩); done) ?_, ?_⟩
       ·omega
       ·refine List.forall_mem_cons.2 ⟨⟨fun _ => .ref 58 1 0 x.length x.length, ?_, fun r hr => ?_⟩, List.forall_mem_nil _⟩
        ·rw [refs_one]
         simp (maxSteps := 1000000) (disch := omega) only [go_sem, simprocAttr, List.isEmpty_nil]
        ·obtain rfl : r = 0 := by dsimp only at hr; omega
         simp (maxSteps := 1000000) (disch := omega) only [go_sem, simprocAttr, hl0, List.length_map]
       ·omega
      | succ k =>
       obtain ⟨x, hx⟩ := get_some hkN
       dsimp only
       have hl0 : lstN cs (k + 1) = x := lstN_at hx
       have hWl : x.length ≤ 1000000 := hcx x (List.mem_of_getElem? hx)
       have htW : (x.map D.int).take x.length = x.map D.int := take_map_len _ _
       repeat' first | refine pw_seq ?_ | refine pw_skip ?_ | refine pw_ret ?_ | refine pw_exit ?_ | refine pw_block ?_ | refine pw_region (Nat.beq 52) hmix ?_ | (refine wpG_split rfl rfl (fun hc => ?_) (fun hc => ?_) <;> try simp only [hcL, reduceCtorEq] at hc) | (refine pw_cond _ rfl rfl (fun hc => ?_) (fun hc => ?_) <;> (try simp only [hcL, reduceCtorEq] at hc) <;> try (exfalso; omega)) | simp (maxSteps := 1000000) (disch := omega) only [go_sem, simprocAttr, List.append_eq, hx, roomy, List.isEmpty_nil, List.length_map, Nat.zero_add, htW] | exact one_int _ | apply And.intro | omega | decide +kernel
       refine ⟨k + 2, ?_, eF [(fid 1 (k + 1), 58)] [(902, 60)] _ _ _ (by refine ⟨?_, ?_⟩ <;> (repeat' first | exact List.forall_mem_nil _ | refine List.forall_mem_cons.2 ⟨(by first | rfl | (simp (disch := omega) only [go_sem, simprocAttr, inL, hl0, List.length_map]; first | done | omega | (congr 1; done))), ?_⟩); done) ?_, ?_⟩
       ·omega
       ·repeat' first | exact List.forall_mem_nil _ | refine List.forall_mem_cons.2 ⟨?_, ?_⟩
        all_goals refine ⟨_, (by first | rfl | (simp (disch := omega) only [go_sem, simprocAttr, hl0, List.length_map]; done) | (simp (disch := omega) only [go_sem, simprocAttr, hl0, List.length_map]; rfl)), fun i hi => ?_⟩
        all_goals dsimp only at hi ⊢
        all_goals rcases Decidable.em (i = k+1) with rfl | hi0
        all_goals try (exfalso; omega)
        all_goals try (simp (disch := omega) only [go_sem, simprocAttr, hl0, List.length_map, fid_lit, lit_fid]; done)
        all_goals try (simp (disch := omega) only [go_sem, simprocAttr, hl0, List.length_map, hi0, fid_lit, lit_fid]; done)
       ·omega
     ·cases k with
      | zero =>
       have hN0 : cs.length = 0 := by omega
       dsimp only
       have hcs0 : cs = [] := List.length_eq_zero_iff.1 hN0
       subst hcs0
       repeat' first | refine pw_seq ?_ | refine pw_skip ?_ | refine pw_ret ?_ | refine pw_exit ?_ | refine pw_block ?_ | refine pw_region (fun _ => false) hmix ?_ | (refine wpG_split rfl rfl (fun hc => ?_) (fun hc => ?_) <;> try simp only [hcL, reduceCtorEq] at hc) | (refine pw_cond _ rfl rfl (fun hc => ?_) (fun hc => ?_) <;> (try simp only [hcL, reduceCtorEq] at hc) <;> try (exfalso; omega)) | simp (maxSteps := 1000000) (disch := omega) only [go_sem, simprocAttr] | apply And.intro | omega | decide +kernel
       refine ⟨_, _, _, _, rfl, ?_⟩
       simp (maxSteps := 1000000) (disch := omega) only [go_sem, simprocAttr, toD, hLl, List.length_map, List.length_range, Nat.le_refl, List.drop_zero, List.take_zero, List.map_nil]
       all_goals try rw [List.take_of_length_le (by simp [hLl])]
       all_goals try rw [take_map_len]
       all_goals try rw [take_map_len]
       all_goals rfl
      | succ k =>
       obtain ⟨N, hN⟩ : ∃ N, N = k + 1 := ⟨_, rfl⟩
       have hNl : cs.length = k + 1 := by omega
       dsimp only
       refine pw_ent _ (ent_famRow _ _ _ _ ⟨nodup_of rfl, nodup_of rfl, (by (repeat' first | exact List.forall_mem_nil _ | refine List.forall_mem_cons.2 ⟨⟨Nat.le_of_ble_eq_true rfl, Nat.le_of_ble_eq_true rfl, by dsimp only; omega⟩, ?_⟩); done)⟩ rfl [3, 6, 7, 902, 901, 40] rfl rfl rfl rfl) ?_
       rw [fam_list hNl, ← hNl]
       repeat' first | refine pw_seq ?_ | refine pw_skip ?_ | refine pw_ret ?_ | refine pw_exit ?_ | refine pw_block ?_ | refine pw_region (fun _ => false) hmix ?_ | (refine wpG_split rfl rfl (fun hc => ?_) (fun hc => ?_) <;> try simp only [hcL, reduceCtorEq] at hc) | (refine pw_cond _ rfl rfl (fun hc => ?_) (fun hc => ?_) <;> (try simp only [hcL, reduceCtorEq] at hc) <;> try (exfalso; omega)) | simp (maxSteps := 1000000) (disch := omega) only [go_sem, simprocAttr] | apply And.intro | omega | decide +kernel
       refine ⟨_, _, _, _, rfl, ?_⟩
       simp (maxSteps := 1000000) (disch := omega) only [go_sem, simprocAttr, toD, hLl, List.length_map, List.length_range, Nat.le_refl, List.drop_zero]
       all_goals try rw [List.take_of_length_le (by simp [hLl])]
       all_goals try rw [take_map_len]
       all_goals try rw [take_map_len]
       all_goals rfl
   | succ k =>
    obtain ⟨N, hN⟩ : ∃ N, N = k + 1 := ⟨_, rfl⟩
    have hNl : ls.length = k + 1 := by omega
    dsimp only
    refine pw_ent _ (ent_famRow _ _ _ _ ⟨nodup_of rfl, nodup_of rfl, (by (repeat' first | exact List.forall_mem_nil _ | refine List.forall_mem_cons.2 ⟨⟨Nat.le_of_ble_eq_true rfl, Nat.le_of_ble_eq_true rfl, by dsimp only; omega⟩, ?_⟩); done)⟩ rfl [3, 6, 7, 901] rfl rfl rfl rfl) ?_
    have hLk : L.length = k + 1 := by omega
    have hLs : ¬ (ls.length : Int) < ls.length := Int.lt_irrefl _
    rw [fam_list hLk, ← hNl]
    repeat' first | refine pw_seq ?_ | refine pw_skip ?_ | refine pw_ret ?_ | refine pw_exit ?_ | refine pw_block ?_ | refine pw_region (Nat.beq 37) hmix ?_ | (refine wpG_split rfl rfl (fun hc => ?_) (fun hc => ?_) <;> try simp only [hcL, reduceCtorEq] at hc) | (refine pw_cond _ rfl rfl (fun hc => ?_) (fun hc => ?_) <;> (try simp only [hcL, reduceCtorEq] at hc) <;> try (exfalso; omega)) | simp (maxSteps := 1000000) (disch := omega) only [go_sem, simprocAttr, roomy, List.length_map, Nat.zero_add, take_map_len, List.append_eq, hLs] | exact arc_cells ar | apply And.intro | omega | decide +kernel
    refine pw_ent _ (ent_nilC 7 3 902 1 rfl rfl rfl) ?_
    refine pw_loopF (κ := Nat) (fun k => k ≤ cs.length) (fun k => [(3, .ptr 3 0 0 0), (6, .ptr 6 0 0 0), (7, .ptr 7 0 0 0), (10, .int k)])
     (fun k => match k with | 0 => [] | j + 1 => [⟨1, 902, 1, j + 1, fun r => (lstN cs r).map D.int⟩])
     (fun k => match k with | 0 => [(3, .cells [.int n, .d (listsD ls), .d (arcsD ar), .d (listsD cs)]), (6, .cells [.int 0, .nilS, .nilS, .nilS]), (7, .cells [.int n, .ref 901 1 0 ls.length ls.length, .ref 40 2 0 ar.length ar.length, .ref 902 1 0 0 0]), (901, .row 1 (L.map intsD)), (40, .row 2 (ar.map arcD)), (902, .row 1 [])] | j + 1 => [(3, .cells [.int n, .d (listsD ls), .d (arcsD ar), .d (listsD cs)]), (6, .cells [.int 0, .nilS, .nilS, .nilS]), (7, .cells [.int n, .ref 901 1 0 ls.length ls.length, .ref 40 2 0 ar.length ar.length, .ref 902 1 0 (j + 1) (j + 1)]), (901, .row 1 (L.map intsD)), (40, .row 2 (ar.map arcD))]) (fun k => cs.length - k) 0 ?_ ?_ ?_
    ·exact Nat.zero_le _
    ·refine eF [] [] _ _ _ (by refine ⟨?_, ?_⟩ <;> (repeat' first | exact List.forall_mem_nil _ | refine List.forall_mem_cons.2 ⟨(by first | rfl | (simp (disch := omega) only [go_sem, simprocAttr, inL]; first | done | omega | (congr 1; done))), ?_⟩); done) ?_
     repeat' first | exact List.forall_mem_nil _ | refine List.forall_mem_cons.2 ⟨?_, ?_⟩
     all_goals refine ⟨_, (by first | rfl | (simp (disch := omega) only [go_sem, simprocAttr]; done) | (simp (disch := omega) only [go_sem, simprocAttr]; rfl)), fun i hi => ?_⟩
     all_goals dsimp only at hi ⊢
     all_goals try (exfalso; omega)
     all_goals try (simp (disch := omega) only [go_sem, simprocAttr, fid_lit, lit_fid]; done)
    ·intro k hk
     rcases Nat.lt_or_ge k cs.length with hkN | hkN
     ·cases k with
      | zero =>
       obtain ⟨x, hx⟩ := get_some hkN
       dsimp only
       have hl0 : lstN cs (0) = x := lstN_at hx
       have hWl : x.length ≤ 1000000 := hcx x (List.mem_of_getElem? hx)
       have htW : (x.map D.int).take x.length = x.map D.int := take_map_len _ _
       repeat' first | refine pw_seq ?_ | refine pw_skip ?_ | refine pw_ret ?_ | refine pw_exit ?_ | refine pw_block ?_ | refine pw_region (Nat.beq 52) hmix ?_ | (refine wpG_split rfl rfl (fun hc => ?_) (fun hc => ?_) <;> try simp only [hcL, reduceCtorEq] at hc) | (refine pw_cond _ rfl rfl (fun hc => ?_) (fun hc => ?_) <;> (try simp only [hcL, reduceCtorEq] at hc) <;> try (exfalso; omega)) | simp (maxSteps := 1000000) (disch := omega) only [go_sem, simprocAttr, List.append_eq, hx, roomy, List.isEmpty_nil, List.length_map, Nat.zero_add, htW] | exact one_int _ | apply And.intro | omega | decide +kernel
       refine ⟨1, ?_, eF [(fid 1 0, 58)] [(902, 60)] _ _ _ (by refine ⟨?_, ?_⟩ <;> (repeat' first | exact List.forall_mem_nil _ | refine List.forall_mem_cons.2 ⟨(by first | rfl | (simp (disch := omega) only [go_sem, simprocAttr, inL, hl0, List.length_map]; first | done | omega | (congr 1; done))), ?_⟩); done) ?_, ?_⟩
       ·omega
       ·refine List.forall_mem_cons.2 ⟨⟨fun _ => .ref 58 1 0 x.length x.length, ?_, fun r hr => ?_⟩, List.forall_mem_nil _⟩
        ·rw [refs_one]
         simp (maxSteps := 1000000) (disch := omega) only [go_sem, simprocAttr, List.isEmpty_nil]
        ·obtain rfl : r = 0 := by dsimp only at hr; omega
         simp (maxSteps := 1000000) (disch := omega) only [go_sem, simprocAttr, hl0, List.length_map]
       ·omega
      | succ k =>
       obtain ⟨x, hx⟩ := get_some hkN
       dsimp only
       have hl0 : lstN cs (k + 1) = x := lstN_at hx
       have hWl : x.length ≤ 1000000 := hcx x (List.mem_of_getElem? hx)
       have htW : (x.map D.int).take x.length = x.map D.int := take_map_len _ _
       repeat' first | refine pw_seq ?_ | refine pw_skip ?_ | refine pw_ret ?_ | refine pw_exit ?_ | refine pw_block ?_ | refine pw_region (Nat.beq 52) hmix ?_ | (refine wpG_split rfl rfl (fun hc => ?_) (fun hc => ?_) <;> try simp only [hcL, reduceCtorEq] at hc) | (refine pw_cond _ rfl rfl (fun hc => ?_) (fun hc => ?_) <;> (try simp only [hcL, reduceCtorEq] at hc) <;> try (exfalso; omega)) | simp (maxSteps := 1000000) (disch := omega) only [go_sem, simprocAttr, List.append_eq, hx, roomy, List.isEmpty_nil, List.length_map, Nat.zero_add, htW] | exact one_int _ | apply And.intro | omega | decide +kernel
       refine ⟨k + 2, ?_, eF [(fid 1 (k + 1), 58)] [(902, 60)] _ _ _ (by refine ⟨?_, ?_⟩ <;> (repeat' first | exact List.forall_mem_nil _ | refine List.forall_mem_cons.2 ⟨(by first | rfl | (simp (disch := omega) only [go_sem, simprocAttr, inL, hl0, List.length_map]; first | done | omega | (congr 1; done))), ?_⟩); done) ?_, ?_⟩
       ·omega
       ·repeat' first | exact List.forall_mem_nil _ | refine List.forall_mem_cons.2 ⟨?_, ?_⟩
        all_goals refine ⟨_, (by first | rfl | (simp (disch := omega) only [go_sem, simprocAttr, hl0, List.length_map]; done) | (simp (disch := omega) only [go_sem, simprocAttr, hl0, List.length_map]; rfl)), fun i hi => ?_⟩
        all_goals dsimp only at hi ⊢
        all_goals rcases Decidable.em (i = k+1) with rfl | hi0
        all_goals try (exfalso; omega)
        all_goals try (simp (disch := omega) only [go_sem, simprocAttr, hl0, List.length_map, fid_lit, lit_fid]; done)
        all_goals try (simp (disch := omega) only [go_sem, simprocAttr, hl0, List.length_map, hi0, fid_lit, lit_fid]; done)
       ·omega
     ·cases k with
      | zero =>
       have hN0 : cs.length = 0 := by omega
       dsimp only
       have hcs0 : cs = [] := List.length_eq_zero_iff.1 hN0
       subst hcs0
       repeat' first | refine pw_seq ?_ | refine pw_skip ?_ | refine pw_ret ?_ | refine pw_exit ?_ | refine pw_block ?_ | refine pw_region (fun _ => false) hmix ?_ | (refine wpG_split rfl rfl (fun hc => ?_) (fun hc => ?_) <;> try simp only [hcL, reduceCtorEq] at hc) | (refine pw_cond _ rfl rfl (fun hc => ?_) (fun hc => ?_) <;> (try simp only [hcL, reduceCtorEq] at hc) <;> try (exfalso; omega)) | simp (maxSteps := 1000000) (disch := omega) only [go_sem, simprocAttr] | apply And.intro | omega | decide +kernel
       refine ⟨_, _, _, _, rfl, ?_⟩
       simp (maxSteps := 1000000) (disch := omega) only [go_sem, simprocAttr, toD, hLl, List.length_map, List.length_range, Nat.le_refl, List.drop_zero, List.take_zero, List.map_nil]
       all_goals try rw [List.take_of_length_le (by simp [hLl])]
       all_goals try rw [take_map_len]
       all_goals try rw [take_map_len]
       all_goals rfl
      | succ k =>
       obtain ⟨N, hN⟩ : ∃ N, N = k + 1 := ⟨_, rfl⟩
       have hNl : cs.length = k + 1 := by omega
       dsimp only
       refine pw_ent _ (ent_famRow _ _ _ _ ⟨nodup_of rfl, nodup_of rfl, (by (repeat' first | exact List.forall_mem_nil _ | refine List.forall_mem_cons.2 ⟨⟨Nat.le_of_ble_eq_true rfl, Nat.le_of_ble_eq_true rfl, by dsimp only; omega⟩, ?_⟩); done)⟩ rfl [3, 6, 7, 902, 901, 40] rfl rfl rfl rfl) ?_
       rw [fam_list hNl, ← hNl]
       repeat' first | refine pw_seq ?_ | refine pw_skip ?_ | refine pw_ret ?_ | refine pw_exit ?_ | refine pw_block ?_ | refine pw_region (fun _ => false) hmix ?_ | (refine wpG_split rfl rfl (fun hc => ?_) (fun hc => ?_) <;> try simp only [hcL, reduceCtorEq] at hc) | (refine pw_cond _ rfl rfl (fun hc => ?_) (fun hc => ?_) <;> (try simp only [hcL, reduceCtorEq] at hc) <;> try (exfalso; omega)) | simp (maxSteps := 1000000) (disch := omega) only [go_sem, simprocAttr] | apply And.intro | omega | decide +kernel
       refine ⟨_, _, _, _, rfl, ?_⟩
       simp (maxSteps := 1000000) (disch := omega) only [go_sem, simprocAttr, toD, hLl, List.length_map, List.length_range, Nat.le_refl, List.drop_zero]
       all_goals try rw [List.take_of_length_le (by simp [hLl])]
       all_goals try rw [take_map_len]
       all_goals try rw [take_map_len]
       all_goals rfl
end Go.Proofs.YtldbcbclhpcofaaGreat
