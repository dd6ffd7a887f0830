/- Barycenters: layers, sweeps, rounds, by the program and by the reference. -/
import Derived.Test.YtldbcbclhpcofaaGreatStE
set_option linter.unusedSimpArgs false
set_option linter.unusedVariables false
namespace Go.Proofs.YtldbcbclhpcofaaGreat
open Go Go.PS Go.Proofs
open Go.Stb
set_option maxRecDepth 100000
attribute [local irreducible] wpRun wpG CallsTo CallsM

set_option maxHeartbeats 8000000 in
theorem copied_spec (a : Lv) (h : validF a = true) : CallsTo Tryz.prog 63 [lvD a] (lvD a) := by
 obtain ⟨s1, s2, s3⟩ := lv_sizes h
 obtain ⟨t1, t2⟩ := lv_le h
 have hca := cloneA_spec a.2.2.1 (by omega)
 have hl1 : ∀ (k : Nat) x, a.2.1[k]? = some x → CallsTo Tryz.prog 62 [intsD x] (intsD x) := fun k x hx => cloneI_spec x (by have := tot_mem (List.mem_of_getElem? hx); omega)
 have hl2 : ∀ (k : Nat) x, a.2.2.2[k]? = some x → CallsTo Tryz.prog 62 [intsD x] (intsD x) := fun k x hx => cloneI_spec x (by have := s3 x (List.mem_of_getElem? hx); omega)
 obtain ⟨n, ls, ar, cs⟩ := a
 dsimp only at *
 refine callsTo_of Tryz.func63 rfl (by decide +kernel) (Nat.le_of_ble_eq_true rfl) ?_
 intro hat B X w0
 repeat' first | refine pw_seq ?_ | refine pw_skip ?_ | refine pw_ret ?_ | refine pw_exit ?_ | refine pw_block ?_ | refine pw_region (fun _ => false) hmix ?_ | (refine rc (hca) rfl ?_ ?_; (· first | rfl | (simp (disch := omega) only [go_sem, simprocAttr]; done))) | (refine wpG_split rfl rfl (fun hc => ?_) (fun hc => ?_) <;> try simp only [hcL, reduceCtorEq] at hc) | (refine pw_cond _ rfl rfl (fun hc => ?_) (fun hc => ?_) <;> (try simp only [hcL, reduceCtorEq] at hc) <;> try (exfalso; omega)) | simp (maxSteps := 1000000) (disch := omega) only [go_sem, simprocAttr] | apply And.intro | omega | decide +kernel
 refine pw_ent _ (ent_nilC 3 1 901 1 rfl rfl rfl) ?_
 refine pw_loopI (κ := Nat) (fun (k : Nat) => k ≤ ls.length) (fun (k : Nat) => [(1, .ptr 1 0 0 0), (2, .ptr 2 0 0 0), (3, .ptr 3 0 0 0), (15, .d (listsD ls)), (16, .int ls.length), (17, .int k)]) (fun (k : Nat) => [(1, .cells [.int n, .d (listsD ls), .d (arcsD ar), .d (listsD cs)]), (2, .cells [.int 0, .nilS, .nilS, .nilS]), (3, .cells [.int n, .ref 901 1 0 k k, .d (arcsD ar), .nilS]), (901, .row 1 ((ls.take k).map intsD))]) (fun (k : Nat) => ls.length - k) 0 ?_ ?_ ?_
 ·exact Nat.zero_le _
 ·exact eL [] _ _ (by refine ⟨?_, ?_⟩ <;> (repeat' first | exact List.forall_mem_nil _ | refine List.forall_mem_cons.2 ⟨(by first | rfl | (simp (disch := omega) only [go_sem, simprocAttr, inL, List.take_zero, List.map_nil]; first | done | omega | (congr 1; done))), ?_⟩); done)
 ·intro k hk
  have hlk : (ls.take k).length = k := by rw [List.length_take]; omega
  have htk : ((ls.take k).map intsD).take k = (ls.take k).map intsD := List.take_of_length_le (by rw [List.length_map, hlk]; exact Nat.le_refl _)
  rcases Nat.lt_or_ge k ls.length with hlt | hge
  ·obtain ⟨x, hx⟩ := get_some hlt
   have hc1 := hl1 k x hx
   have e1 := take_snoc hx
   repeat' first | refine pw_seq ?_ | refine pw_skip ?_ | refine pw_ret ?_ | refine pw_exit ?_ | refine pw_block ?_ | refine pw_region (fun _ => false) hmix ?_ | (refine rc (hc1) rfl ?_ ?_; (· first | rfl | (simp (disch := omega) only [go_sem, simprocAttr, hx, hlk, htk, roomy]; done))) | (refine wpG_split rfl rfl (fun hc => ?_) (fun hc => ?_) <;> try simp only [hcL, reduceCtorEq] at hc) | (refine pw_cond _ rfl rfl (fun hc => ?_) (fun hc => ?_) <;> (try simp only [hcL, reduceCtorEq] at hc) <;> try (exfalso; omega)) | simp (maxSteps := 1000000) (disch := omega) only [go_sem, simprocAttr, hx, hlk, htk, roomy] | exact fun d hd => by rw [List.mem_singleton.1 hd]; rfl | apply And.intro | omega | decide +kernel
   refine ⟨k + 1, ?_, eL [(901, 26)] _ _ (by refine ⟨?_, ?_⟩ <;> (repeat' first | exact List.forall_mem_nil _ | refine List.forall_mem_cons.2 ⟨(by first | rfl | (simp (disch := omega) only [go_sem, simprocAttr, inL, e1, htk, List.map_append, List.map_cons, List.map_nil]; first | done | omega | (congr 1; done))), ?_⟩); done), ?_⟩
   ·omega
   ·omega
  ·have : k = ls.length := by omega
   subst this
   try dsimp only
   rw [List.take_length]
   repeat' first | refine pw_seq ?_ | refine pw_skip ?_ | refine pw_ret ?_ | refine pw_exit ?_ | refine pw_block ?_ | refine pw_region (fun _ => false) hmix ?_ | (refine wpG_split rfl rfl (fun hc => ?_) (fun hc => ?_) <;> try simp only [hcL, reduceCtorEq] at hc) | (refine pw_cond _ rfl rfl (fun hc => ?_) (fun hc => ?_) <;> (try simp only [hcL, reduceCtorEq] at hc) <;> try (exfalso; omega)) | simp (maxSteps := 1000000) (disch := omega) only [go_sem, simprocAttr] | apply And.intro | omega | decide +kernel
   refine pw_ent _ (ent_nilC 3 3 902 1 rfl rfl rfl) ?_
   refine pw_loopI (κ := Nat) (fun (k : Nat) => k ≤ cs.length) (fun (k : Nat) => [(2, .ptr 2 0 0 0), (3, .ptr 3 0 0 0), (30, .d (listsD cs)), (31, .int cs.length), (32, .int k)]) (fun (k : Nat) => [(2, .cells [.int 0, .nilS, .nilS, .nilS]), (3, .cells [.int n, .ref 901 1 0 ls.length ls.length, .d (arcsD ar), .ref 902 1 0 k k]), (901, .row 1 (ls.map intsD)), (902, .row 1 ((cs.take k).map intsD))]) (fun (k : Nat) => cs.length - k) 0 ?_ ?_ ?_
   ·exact Nat.zero_le _
   ·exact eL [] _ _ (by refine ⟨?_, ?_⟩ <;> (repeat' first | exact List.forall_mem_nil _ | refine List.forall_mem_cons.2 ⟨(by first | rfl | (simp (disch := omega) only [go_sem, simprocAttr, inL, List.take_zero, List.map_nil]; first | done | omega | (congr 1; done))), ?_⟩); done)
   ·intro k hk
    have hlk : (cs.take k).length = k := by rw [List.length_take]; omega
    have htk : ((cs.take k).map intsD).take k = (cs.take k).map intsD := List.take_of_length_le (by rw [List.length_map, hlk]; exact Nat.le_refl _)
    rcases Nat.lt_or_ge k cs.length with hlt | hge
    ·obtain ⟨x, hx⟩ := get_some hlt
     have hc1 := hl2 k x hx
     have e1 := take_snoc hx
     repeat' first | refine pw_seq ?_ | refine pw_skip ?_ | refine pw_ret ?_ | refine pw_exit ?_ | refine pw_block ?_ | refine pw_region (fun _ => false) hmix ?_ | (refine rc (hc1) rfl ?_ ?_; (· first | rfl | (simp (disch := omega) only [go_sem, simprocAttr, hx, hlk, htk, roomy]; done))) | (refine wpG_split rfl rfl (fun hc => ?_) (fun hc => ?_) <;> try simp only [hcL, reduceCtorEq] at hc) | (refine pw_cond _ rfl rfl (fun hc => ?_) (fun hc => ?_) <;> (try simp only [hcL, reduceCtorEq] at hc) <;> try (exfalso; omega)) | simp (maxSteps := 1000000) (disch := omega) only [go_sem, simprocAttr, hx, hlk, htk, roomy] | exact fun d hd => by rw [List.mem_singleton.1 hd]; rfl | apply And.intro | omega | decide +kernel
     refine ⟨k + 1, ?_, eL [(902, 41)] _ _ (by refine ⟨?_, ?_⟩ <;> (repeat' first | exact List.forall_mem_nil _ | refine List.forall_mem_cons.2 ⟨(by first | rfl | (simp (disch := omega) only [go_sem, simprocAttr, inL, e1, htk, List.map_append, List.map_cons, List.map_nil]; first | done | omega | (congr 1; done))), ?_⟩); done), ?_⟩
     ·omega
     ·omega
    ·have : k = cs.length := by omega
     subst this
     try dsimp only
     rw [List.take_length]
     repeat' first | refine pw_seq ?_ | refine pw_skip ?_ | refine pw_ret ?_ | refine pw_exit ?_ | refine pw_block ?_ | refine pw_region (fun _ => false) hmix ?_ | (refine wpG_split rfl rfl (fun hc => ?_) (fun hc => ?_) <;> try simp only [hcL, reduceCtorEq] at hc) | (refine pw_cond _ rfl rfl (fun hc => ?_) (fun hc => ?_) <;> (try simp only [hcL, reduceCtorEq] at hc) <;> try (exfalso; omega)) | simp (maxSteps := 1000000) (disch := omega) only [go_sem, simprocAttr] | apply And.intro | omega | decide +kernel
     refine ⟨_, _, _, _, rfl, ?_⟩
     simp (maxSteps := 1000000) (disch := omega) only [go_sem, simprocAttr, toD, List.length_map, Nat.le_refl, List.drop_zero]
     rw [take_map_len, take_map_len]
/-! The reference. -/
end Go.Proofs.YtldbcbclhpcofaaGreat
namespace Go.Proofs.YtldbcbclhpcofaaGreat
open Go Go.PS Go.Proofs
set_option maxRecDepth 100000
attribute [local irreducible] wpRun wpG CallsTo CallsM

theorem accC_zero (a : Lv) (i : Nat) (u v : Nat) : accC a [] (lstN a.2.1 i) 0 i 0 u v = 0 := by
 rw [accC, wCell]; split <;> rfl
set_option maxHeartbeats 16000000 in
theorem omatrix_spec (a : Lv) (i : Nat) (hw : wide a) (hv : validF a = true) (hil : i < a.2.1.length) :
  CallsTo Tryz.prog 59 [lvD a, .int i] (listsD (orM a i)) := by
 obtain ⟨y, hy⟩ := get_some hil
 obtain ⟨t1, t2⟩ := lv_le hv
 have hyl := tot_mem (List.mem_of_getElem? hy)
 have hacc := accC_le a [] (lstN a.2.1 i) (w := 0) (by decide) i
 have haccS : ∀ t u v, accC a [] (lstN a.2.1 i) 0 i (t + 1) u v = accC a [] (lstN a.2.1 i) 0 i t u v + cellAt (MatrixF a i (fixT i t)) u v := fun _ _ _ => rfl
 have haccZ := accC_zero a i
 have hMsq : ∀ t, Sq (MatrixF a i (fixT i t)) := fun t => MatrixF_sq a i (fixT i t)
 have hMlen : ∀ t, (MatrixF a i (fixT i t)).length = 0 ∨ (MatrixF a i (fixT i t)).length = y.length := fun t => by
  rw [MatrixF]
  split
  ·right
   simp [matF, endsF, lenAt, hy]
  ·left; rfl
 have hMs : ∀ t, CallsTo Tryz.prog 27 [lvD a, .int i, .int (fixT i t)] (listsD (MatrixF a i (fixT i t))) := fun t => Matrix_spec a i (fixT i t) hw
 rw [orM, stM]
 rw [lstN_at hy] at *
 generalize accC a [] y 0 i = A at *
 obtain ⟨Q, hQ⟩ : ∃ Q : Nat → List (List Int), ∀ t, MatrixF a i (fixT i t) = Q t := ⟨_, fun _ => rfl⟩
 simp only [hQ] at *
 obtain ⟨N, hN⟩ : ∃ N, N = y.length := ⟨_, rfl⟩
 have hN5 : N ≤ 512 := by omega
 obtain ⟨n, ls, ar, cs⟩ := a
 dsimp only at *
 refine callsTo_of Tryz.func59 rfl (by decide +kernel) (Nat.le_of_ble_eq_true rfl) ?_
 intro hat B X w0
 repeat' first | refine pw_seq ?_ | refine pw_skip ?_ | refine pw_ret ?_ | refine pw_exit ?_ | refine pw_block ?_ | refine pw_region (fun _ => false) hmix ?_ | (refine wpG_split rfl rfl (fun hc => ?_) (fun hc => ?_) <;> try simp only [hcL, reduceCtorEq] at hc) | (refine pw_cond _ rfl rfl (fun hc => ?_) (fun hc => ?_) <;> (try simp only [hcL, reduceCtorEq] at hc) <;> try (exfalso; omega)) | simp (maxSteps := 1000000) (disch := omega) only [go_sem, simprocAttr, hy, List.append_eq, ← hN] | apply And.intro | omega | decide +kernel
 refine pw_ent _ (ent_famNew 1 19 1 N rfl (fun i hi => by simp (disch := omega) only [go_sem, simprocAttr, obOf_fid, argEnv]) (by decide) (by decide)) ?_
 have hiN : ∀ (k : Nat) (x y : List D), k < N → (if k < N then x else y) = x := fun k x y h => if_pos h
 have hz : ∀ u, List.replicate N (D.int 0) = (rowG (A 0 u) N).map D.int := fun u => by
  rw [rowG_zero]; congr 1; exact rowG_congr fun v _ => (haccZ u v).symm
 refine pw_loopF (κ := Nat) (fun (u : Nat) => u ≤ N) (fun (u : Nat) => [(1, .int i), (2, .ptr 2 0 0 0), (5, .ref 19 1 0 N N), (21, .int N), (22, .int u)]) (fun (u : Nat) => [⟨1, 19, 1, N, fun k => if k < u then (rowG (A 0 k) N).map D.int else []⟩]) (fun (u : Nat) => [(2, .cells [.int n, .d (listsD ls), .d (arcsD ar), .d (listsD cs)])]) (fun (u : Nat) => N - u) 0 ?_ ?_ ?_
 ·exact Nat.zero_le _
 ·refine eF [] [] _ _ _ (by refine ⟨?_, ?_⟩ <;> (repeat' first | exact List.forall_mem_nil _ | refine List.forall_mem_cons.2 ⟨(by first | rfl | (simp (disch := omega) only [go_sem, simprocAttr, inL, ← hN]; first | done | omega | (congr 1; done))), ?_⟩); done) ?_
  repeat' first | exact List.forall_mem_nil _ | refine List.forall_mem_cons.2 ⟨?_, ?_⟩
  all_goals refine ⟨_, (by first | rfl | (simp (disch := omega) only [go_sem, simprocAttr, Nat.not_lt_zero]; done) | (simp (disch := omega) only [go_sem, simprocAttr, Nat.not_lt_zero]; rfl)), fun i hi => ?_⟩
  all_goals dsimp only at hi ⊢
  all_goals try (exfalso; omega)
  all_goals try (simp (disch := omega) only [go_sem, simprocAttr, Nat.not_lt_zero, fid_lit, lit_fid]; done)
 ·intro u hu
  rcases Nat.lt_or_ge u N with hlt | hge
  ·have hzu := hz u
   have hnu : ¬ u < u := by omega
   have hrl := rowG_len (A 0 u) N
   have hsu : ∀ i, i ≠ u → ((i < u + 1) = (i < u)) := fun i h => propext (by omega)
   refine pw_ent _ (ent_bor _ _ [2, 19] 19 u 900 1 1 N (by first | rfl | (simp (disch := omega) only [go_sem, simprocAttr, hnu]; done) | (simp (disch := omega) only [go_sem, simprocAttr, hnu]; rfl)) (by first | (simp (disch := omega) only [go_sem, simprocAttr, hnu]; done) | (simp (disch := omega) only [go_sem, simprocAttr, hnu]; rfl)) (by first | (simp (disch := omega) only [go_sem, simprocAttr, hnu]; done) | (simp (disch := omega) only [go_sem, simprocAttr, hnu]; rfl)) (fun i hi hne => by simp (disch := omega) only [go_sem, simprocAttr, hne, hnu]; (repeat' split) <;> exact .ref _ _ _ _ _ ⟨by simp (disch := omega) only [go_sem, simprocAttr, hne, hnu], by simp (disch := omega) only [go_sem, simprocAttr, hne, hnu]⟩) (by (repeat' first | refine ab_nil ?_ | exact ab_obOf (ids := [2, 19]) rfl rfl (Nat.le_of_ble_eq_true rfl) | refine ab_hole ?_ | refine ab_row ?_ | refine ab_dead ?_ | refine ab_self ?_ | refine ab_self_fam ?_ | refine ab_fam (by dsimp only; omega) (by dsimp only; omega) (by omega) (by omega) (Nat.le_of_ble_eq_true rfl) ?_); done) rfl rfl rfl) ?_
   repeat' first | refine pw_seq ?_ | refine pw_skip ?_ | refine pw_ret ?_ | refine pw_exit ?_ | refine pw_block ?_ | refine pw_region (fun _ => false) hmix ?_ | (refine wpG_split rfl rfl (fun hc => ?_) (fun hc => ?_) <;> try simp only [hcL, reduceCtorEq] at hc) | (refine pw_cond _ rfl rfl (fun hc => ?_) (fun hc => ?_) <;> (try simp only [hcL, reduceCtorEq] at hc) <;> try (exfalso; omega)) | simp (maxSteps := 1000000) (disch := omega) only [go_sem, simprocAttr, ← hN, hnu] | apply And.intro | omega | decide +kernel
   refine ⟨u + 1, ?_, eF [(fid 1 u, 29)] [] _ _ _ (by refine ⟨?_, ?_⟩ <;> (repeat' first | exact List.forall_mem_nil _ | refine List.forall_mem_cons.2 ⟨(by first | rfl | (simp (disch := omega) only [go_sem, simprocAttr, inL]; first | done | omega | (congr 1; done))), ?_⟩); done) ?_, ?_⟩
   ·omega
   ·repeat' first | exact List.forall_mem_nil _ | refine List.forall_mem_cons.2 ⟨?_, ?_⟩
    all_goals refine ⟨_, (by first | rfl | (simp (disch := omega) only [go_sem, simprocAttr, hzu, hrl, hnu, hsu, Nat.lt_add_one, List.length_map]; done) | (simp (disch := omega) only [go_sem, simprocAttr, hzu, hrl, hnu, hsu, Nat.lt_add_one, List.length_map]; rfl)), fun i hi => ?_⟩
    all_goals dsimp only at hi ⊢
    all_goals rcases Decidable.em (i = u) with rfl | hi0
    all_goals try (exfalso; omega)
    all_goals try (simp (disch := omega) only [go_sem, simprocAttr, hzu, hrl, hnu, hsu, Nat.lt_add_one, List.length_map, fid_lit, lit_fid]; done)
    all_goals try (simp (disch := omega) only [go_sem, simprocAttr, hzu, hrl, hnu, hsu, Nat.lt_add_one, List.length_map, hi0, fid_lit, lit_fid]; done)
   ·omega
  ·have : N = u := by omega
   subst this
   try dsimp only
   obtain ⟨F, hF⟩ : ∃ F : List D, F = [D.int ((i : Int) - 1), D.int ((i : Int) + 1)] := ⟨_, rfl⟩
   have hFl : F.length = 2 := by rw [hF]; rfl
   have hFx : ∀ t, t < 2 → F[t]? = some (D.int (fixT i t)) := fun t ht => by
    rw [hF]
    rcases t with _ | _ | t
    ·rfl
    ·rfl
    ·omega
   repeat' first | refine pw_seq ?_ | refine pw_skip ?_ | refine pw_ret ?_ | refine pw_exit ?_ | refine pw_block ?_ | refine pw_region (fun _ => false) hmix ?_ | (refine wpG_split rfl rfl (fun hc => ?_) (fun hc => ?_) <;> try simp only [hcL, reduceCtorEq] at hc) | (refine pw_cond _ rfl rfl (fun hc => ?_) (fun hc => ?_) <;> (try simp only [hcL, reduceCtorEq] at hc) <;> try (exfalso; omega)) | simp (maxSteps := 1000000) (disch := omega) only [go_sem, simprocAttr] | apply And.intro | omega | decide +kernel
   refine pw_loopF (κ := Nat) (fun (t : Nat) => t ≤ 2) (fun (t : Nat) => [(1, .int i), (2, .ptr 2 0 0 0), (5, .ref 19 1 0 N N), (36, .d (.sl F)), (37, .int 2), (38, .int t)]) (fun (t : Nat) => [⟨1, 19, 1, N, fun k => (rowG (A t k) N).map D.int⟩]) (fun (t : Nat) => [(2, .cells [.int n, .d (listsD ls), .d (arcsD ar), .d (listsD cs)])]) (fun (t : Nat) => 2 - t) 0 ?_ ?_ ?_
   ·exact Nat.zero_le _
   ·refine eF [] [] _ _ _ (by refine ⟨?_, ?_⟩ <;> (repeat' first | exact List.forall_mem_nil _ | refine List.forall_mem_cons.2 ⟨(by first | rfl | (simp (disch := omega) only [go_sem, simprocAttr, inL, hF]; first | done | omega | (congr 1; done))), ?_⟩); done) ?_
    repeat' first | exact List.forall_mem_nil _ | refine List.forall_mem_cons.2 ⟨?_, ?_⟩
    all_goals refine ⟨_, (by first | rfl | (simp (disch := omega) only [go_sem, simprocAttr, hiN]; done) | (simp (disch := omega) only [go_sem, simprocAttr, hiN]; rfl)), fun i hi => ?_⟩
    all_goals dsimp only at hi ⊢
    all_goals try (exfalso; omega)
    all_goals try (simp (disch := omega) only [go_sem, simprocAttr, hiN, fid_lit, lit_fid]; done)
   ·intro t ht
    rcases Nat.lt_or_ge t 2 with hlt2 | hge2
    ·have hx := hFx t hlt2
     have hM := hMs t
     have hsq := hMsq t
     have hml := hMlen t
     have hS := haccS t
     generalize hR : Q t = R at *
     repeat' first | refine pw_seq ?_ | refine pw_skip ?_ | refine pw_ret ?_ | refine pw_exit ?_ | refine pw_block ?_ | refine pw_region (fun _ => false) hmix ?_ | (refine rc (hM) rfl ?_ ?_; (· first | rfl | (simp (disch := omega) only [go_sem, simprocAttr, hx, List.append_eq]; done))) | (refine wpG_split rfl rfl (fun hc => ?_) (fun hc => ?_) <;> try simp only [hcL, reduceCtorEq] at hc) | (refine pw_cond _ rfl rfl (fun hc => ?_) (fun hc => ?_) <;> (try simp only [hcL, reduceCtorEq] at hc) <;> try (exfalso; omega)) | simp (maxSteps := 1000000) (disch := omega) only [go_sem, simprocAttr, hx, List.append_eq] | apply And.intro | omega | decide +kernel
     refine pw_loopF (κ := Nat) (fun (c : Nat) => c ≤ R.length) (fun (c : Nat) => [(1, .int i), (2, .ptr 2 0 0 0), (5, .ref 19 1 0 N N), (36, .d (.sl F)), (37, .int 2), (38, .int t), (45, .d (listsD R)), (46, .int R.length), (47, .int c)]) (fun (c : Nat) => [⟨1, 19, 1, N, fun k => if k < c then (rowG (A (t + 1) k) N).map D.int else (rowG (A t k) N).map D.int⟩]) (fun (c : Nat) => [(2, .cells [.int n, .d (listsD ls), .d (arcsD ar), .d (listsD cs)])]) (fun (c : Nat) => R.length - c) 0 ?_ ?_ ?_
     ·exact Nat.zero_le _
     ·refine eF [] [] _ _ _ (by refine ⟨?_, ?_⟩ <;> (repeat' first | exact List.forall_mem_nil _ | refine List.forall_mem_cons.2 ⟨(by first | rfl | (simp (disch := omega) only [go_sem, simprocAttr, inL, hFl]; first | done | omega | (congr 1; done))), ?_⟩); done) ?_
      repeat' first | exact List.forall_mem_nil _ | refine List.forall_mem_cons.2 ⟨?_, ?_⟩
      all_goals refine ⟨_, (by first | rfl | (simp (disch := omega) only [go_sem, simprocAttr, Nat.not_lt_zero]; done) | (simp (disch := omega) only [go_sem, simprocAttr, Nat.not_lt_zero]; rfl)), fun i hi => ?_⟩
      all_goals dsimp only at hi ⊢
      all_goals try (exfalso; omega)
      all_goals try (simp (disch := omega) only [go_sem, simprocAttr, Nat.not_lt_zero, fid_lit, lit_fid]; done)
     ·intro c hc0
      rcases Nat.lt_or_ge c R.length with hlc | hgc
      ·have hRN : R.length = N := by omega
       obtain ⟨r, hr⟩ := get_some hlc
       have hrl := hsq.row r (List.mem_of_getElem? hr)
       have hrN : r.length = N := by omega
       have hnu : ¬ c < c := by omega
       repeat' first | refine pw_seq ?_ | refine pw_skip ?_ | refine pw_ret ?_ | refine pw_exit ?_ | refine pw_block ?_ | refine pw_region (fun _ => false) hmix ?_ | (refine wpG_split rfl rfl (fun hc => ?_) (fun hc => ?_) <;> try simp only [hcL, reduceCtorEq] at hc) | (refine pw_cond _ rfl rfl (fun hc => ?_) (fun hc => ?_) <;> (try simp only [hcL, reduceCtorEq] at hc) <;> try (exfalso; omega)) | simp (maxSteps := 1000000) (disch := omega) only [go_sem, simprocAttr, hr, hrN] | apply And.intro | omega | decide +kernel
       refine pw_loopF (κ := Nat) (fun (b : Nat) => b ≤ N) (fun (b : Nat) => [(1, .int i), (2, .ptr 2 0 0 0), (5, .ref 19 1 0 N N), (9, .int c), (36, .d (.sl F)), (37, .int 2), (38, .int t), (45, .d (listsD R)), (46, .int R.length), (47, .int c), (52, .d (intsD r)), (53, .int N), (54, .int b)]) (fun (b : Nat) => [⟨1, 19, 1, N, fun k => if k < c then (rowG (A (t + 1) k) N).map D.int else if k = c then (mixR (A t c) (A (t + 1) c) N b).map D.int else (rowG (A t k) N).map D.int⟩]) (fun (b : Nat) => [(2, .cells [.int n, .d (listsD ls), .d (arcsD ar), .d (listsD cs)])]) (fun (b : Nat) => N - b) 0 ?_ ?_ ?_
       ·exact Nat.zero_le _
       ·refine eF [] [] _ _ _ (by refine ⟨?_, ?_⟩ <;> (repeat' first | exact List.forall_mem_nil _ | refine List.forall_mem_cons.2 ⟨(by first | rfl | (simp (disch := omega) only [go_sem, simprocAttr, inL, hrN]; first | done | omega | (congr 1; done))), ?_⟩); done) ?_
        repeat' first | exact List.forall_mem_nil _ | refine List.forall_mem_cons.2 ⟨?_, ?_⟩
        all_goals refine ⟨_, (by first | rfl | (simp (disch := omega) only [go_sem, simprocAttr, hnu, mixR_zero]; done) | (simp (disch := omega) only [go_sem, simprocAttr, hnu, mixR_zero]; rfl)), fun i hi => ?_⟩
        all_goals dsimp only at hi ⊢
        all_goals rcases Decidable.em (i = c) with rfl | hi0
        all_goals try (exfalso; omega)
        all_goals try (simp (disch := omega) only [go_sem, simprocAttr, hnu, mixR_zero, fid_lit, lit_fid]; done)
        all_goals try (simp (disch := omega) only [go_sem, simprocAttr, hnu, mixR_zero, hi0, fid_lit, lit_fid]; done)
       ·intro b hb
        have hfl2 := mixR_len (A t c) (A (t + 1) c) N b
        rcases Nat.lt_or_ge b N with hlb | hgb
        ·obtain ⟨p, hp, _, hpv, g1, g2⟩ := hsq.get hlc (show b < R.length by omega)
         rw [hr, Option.some.injEq] at hp
         rw [← hp] at hpv
         have hcell := hS c b
         have ha := hacc t c b
         have hg : (mixR (A t c) (A (t + 1) c) N b)[b]? = some (A t c b) := mixR_get hlb
         have hst : (mixR (A t c) (A (t + 1) c) N b).set b (A (t + 1) c b) = mixR (A t c) (A (t + 1) c) N (b + 1) := mixR_step hlb
         rw [hcell] at hst
         refine pw_ent _ (ent_bor _ _ [2, 19] 19 c 900 1 1 N (by first | rfl | (simp (disch := omega) only [go_sem, simprocAttr, hnu, hfl2]; done) | (simp (disch := omega) only [go_sem, simprocAttr, hnu, hfl2]; rfl)) (by first | (simp (disch := omega) only [go_sem, simprocAttr, hnu, hfl2]; done) | (simp (disch := omega) only [go_sem, simprocAttr, hnu, hfl2]; rfl)) (by first | (simp (disch := omega) only [go_sem, simprocAttr, hnu, hfl2]; done) | (simp (disch := omega) only [go_sem, simprocAttr, hnu, hfl2]; rfl)) (fun i hi hne => by simp (disch := omega) only [go_sem, simprocAttr, hne, hnu, hfl2]; (repeat' split) <;> exact .ref _ _ _ _ _ ⟨by simp (disch := omega) only [go_sem, simprocAttr, hne, hnu, hfl2], by simp (disch := omega) only [go_sem, simprocAttr, hne, hnu, hfl2]⟩) (by (repeat' first | refine ab_nil ?_ | exact ab_obOf (ids := [2, 19]) rfl rfl (Nat.le_of_ble_eq_true rfl) | refine ab_hole ?_ | refine ab_row ?_ | refine ab_dead ?_ | refine ab_self ?_ | refine ab_self_fam ?_ | refine ab_fam (by dsimp only; omega) (by dsimp only; omega) (by omega) (by omega) (Nat.le_of_ble_eq_true rfl) ?_); done) rfl rfl rfl) ?_
         repeat' first | refine pw_seq ?_ | refine pw_skip ?_ | refine pw_ret ?_ | refine pw_exit ?_ | refine pw_block ?_ | refine pw_region (fun _ => false) hmix ?_ | (refine wpG_split rfl rfl (fun hc => ?_) (fun hc => ?_) <;> try simp only [hcL, reduceCtorEq] at hc) | (refine pw_cond _ rfl rfl (fun hc => ?_) (fun hc => ?_) <;> (try simp only [hcL, reduceCtorEq] at hc) <;> try (exfalso; omega)) | simp (maxSteps := 1000000) (disch := omega) only [go_sem, simprocAttr, hr, hrN, hpv, hg, hfl2, hnu] | apply And.intro | omega | decide +kernel
         refine ⟨b + 1, ?_, eF [(fid 1 c, 900)] [] _ _ _ (by refine ⟨?_, ?_⟩ <;> (repeat' first | exact List.forall_mem_nil _ | refine List.forall_mem_cons.2 ⟨(by first | rfl | (simp (disch := omega) only [go_sem, simprocAttr, inL]; first | done | omega | (congr 1; done))), ?_⟩); done) ?_, ?_⟩
         ·omega
         ·repeat' first | exact List.forall_mem_nil _ | refine List.forall_mem_cons.2 ⟨?_, ?_⟩
          all_goals refine ⟨_, (by first | rfl | (simp (disch := omega) only [go_sem, simprocAttr, hst.symm, List.map_set, List.length_set, List.length_map, hfl2, hnu]; done) | (simp (disch := omega) only [go_sem, simprocAttr, hst.symm, List.map_set, List.length_set, List.length_map, hfl2, hnu]; rfl)), fun i hi => ?_⟩
          all_goals dsimp only at hi ⊢
          all_goals rcases Decidable.em (i = c) with rfl | hi0
          all_goals try (exfalso; omega)
          all_goals try (simp (disch := omega) only [go_sem, simprocAttr, hst.symm, List.map_set, List.length_set, List.length_map, hfl2, hnu, fid_lit, lit_fid]; done)
          all_goals try (simp (disch := omega) only [go_sem, simprocAttr, hst.symm, List.map_set, List.length_set, List.length_map, hfl2, hnu, hi0, fid_lit, lit_fid]; done)
         ·omega
        ·have : N = b := by omega
         subst this
         have hsu : ∀ i, i ≠ c → ((i < c + 1) = (i < c)) := fun i h => propext (by omega)
         repeat' first | refine pw_seq ?_ | refine pw_skip ?_ | refine pw_ret ?_ | refine pw_exit ?_ | refine pw_block ?_ | refine pw_region (fun _ => false) hmix ?_ | (refine wpG_split rfl rfl (fun hc => ?_) (fun hc => ?_) <;> try simp only [hcL, reduceCtorEq] at hc) | (refine pw_cond _ rfl rfl (fun hc => ?_) (fun hc => ?_) <;> (try simp only [hcL, reduceCtorEq] at hc) <;> try (exfalso; omega)) | simp (maxSteps := 1000000) (disch := omega) only [go_sem, simprocAttr] | apply And.intro | omega | decide +kernel
         refine ⟨c + 1, ?_, eF [] [] _ _ _ (by refine ⟨?_, ?_⟩ <;> (repeat' first | exact List.forall_mem_nil _ | refine List.forall_mem_cons.2 ⟨(by first | rfl | (simp (disch := omega) only [go_sem, simprocAttr, inL]; first | done | omega | (congr 1; done))), ?_⟩); done) ?_, ?_⟩
         ·omega
         ·repeat' first | exact List.forall_mem_nil _ | refine List.forall_mem_cons.2 ⟨?_, ?_⟩
          all_goals refine ⟨_, (by first | rfl | (simp (disch := omega) only [go_sem, simprocAttr, hnu, hsu, Nat.lt_add_one, mixR_full]; done) | (simp (disch := omega) only [go_sem, simprocAttr, hnu, hsu, Nat.lt_add_one, mixR_full]; rfl)), fun i hi => ?_⟩
          all_goals dsimp only at hi ⊢
          all_goals rcases Decidable.em (i = c) with rfl | hi0
          all_goals try (exfalso; omega)
          all_goals try (simp (disch := omega) only [go_sem, simprocAttr, hnu, hsu, Nat.lt_add_one, mixR_full, fid_lit, lit_fid]; done)
          all_goals try (simp (disch := omega) only [go_sem, simprocAttr, hnu, hsu, Nat.lt_add_one, mixR_full, hi0, fid_lit, lit_fid]; done)
         ·omega
      ·have : R.length = c := by omega
       subst this
       repeat' first | refine pw_seq ?_ | refine pw_skip ?_ | refine pw_ret ?_ | refine pw_exit ?_ | refine pw_block ?_ | refine pw_region (fun _ => false) hmix ?_ | (refine wpG_split rfl rfl (fun hc => ?_) (fun hc => ?_) <;> try simp only [hcL, reduceCtorEq] at hc) | (refine pw_cond _ rfl rfl (fun hc => ?_) (fun hc => ?_) <;> (try simp only [hcL, reduceCtorEq] at hc) <;> try (exfalso; omega)) | simp (maxSteps := 1000000) (disch := omega) only [go_sem, simprocAttr] | apply And.intro | omega | decide +kernel
       rcases hml with hml | hml
       ·have hsame : ∀ k, rowG (A (t + 1) k) N = rowG (A t k) N := fun k => rowG_congr fun v _ => by
         rw [hS, cellAt, lstN_out (by omega)]; simp [at0]
        refine ⟨t + 1, ?_, eF [] [] _ _ _ (by refine ⟨?_, ?_⟩ <;> (repeat' first | exact List.forall_mem_nil _ | refine List.forall_mem_cons.2 ⟨(by first | rfl | (simp (disch := omega) only [go_sem, simprocAttr, inL]; first | done | omega | (congr 1; done))), ?_⟩); done) ?_, ?_⟩
        ·omega
        ·repeat' first | exact List.forall_mem_nil _ | refine List.forall_mem_cons.2 ⟨?_, ?_⟩
         all_goals refine ⟨_, (by first | rfl | (simp (disch := omega) only [go_sem, simprocAttr, hml, Nat.not_lt_zero, hsame]; done) | (simp (disch := omega) only [go_sem, simprocAttr, hml, Nat.not_lt_zero, hsame]; rfl)), fun i hi => ?_⟩
         all_goals dsimp only at hi ⊢
         all_goals try (exfalso; omega)
         all_goals try (simp (disch := omega) only [go_sem, simprocAttr, hml, Nat.not_lt_zero, hsame, fid_lit, lit_fid]; done)
        ·omega
       ·have hRN : R.length = N := by omega
        refine ⟨t + 1, ?_, eF [] [] _ _ _ (by refine ⟨?_, ?_⟩ <;> (repeat' first | exact List.forall_mem_nil _ | refine List.forall_mem_cons.2 ⟨(by first | rfl | (simp (disch := omega) only [go_sem, simprocAttr, inL]; first | done | omega | (congr 1; done))), ?_⟩); done) ?_, ?_⟩
        ·omega
        ·repeat' first | exact List.forall_mem_nil _ | refine List.forall_mem_cons.2 ⟨?_, ?_⟩
         all_goals refine ⟨_, (by first | rfl | (simp (disch := omega) only [go_sem, simprocAttr, hRN, hiN]; done) | (simp (disch := omega) only [go_sem, simprocAttr, hRN, hiN]; rfl)), fun i hi => ?_⟩
         all_goals dsimp only at hi ⊢
         all_goals try (exfalso; omega)
         all_goals try (simp (disch := omega) only [go_sem, simprocAttr, hRN, hiN, fid_lit, lit_fid]; done)
        ·omega
    ·have : t = 2 := by omega
     subst this
     try dsimp only
     refine pw_ent _ (ent_famRow _ _ _ _ ⟨nodup_of rfl, nodup_of rfl, (by (repeat' first | exact List.forall_mem_nil _ | refine List.forall_mem_cons.2 ⟨⟨Nat.le_of_ble_eq_true rfl, Nat.le_of_ble_eq_true rfl, by dsimp only; omega⟩, ?_⟩); done)⟩ rfl [2, 19] rfl rfl rfl rfl) ?_
     repeat' first | refine pw_seq ?_ | refine pw_skip ?_ | refine pw_ret ?_ | refine pw_exit ?_ | refine pw_block ?_ | refine pw_region (fun _ => false) hmix ?_ | (refine wpG_split rfl rfl (fun hc => ?_) (fun hc => ?_) <;> try simp only [hcL, reduceCtorEq] at hc) | (refine pw_cond _ rfl rfl (fun hc => ?_) (fun hc => ?_) <;> (try simp only [hcL, reduceCtorEq] at hc) <;> try (exfalso; omega)) | simp (maxSteps := 1000000) (disch := omega) only [go_sem, simprocAttr] | apply And.intro | omega | decide +kernel
     refine ret_ref (o := 19) rfl rfl (by simp) ?_
     rw [List.take_of_length_le (by simp), sqM, List.map_map]
     rfl
end Go.Proofs.YtldbcbclhpcofaaGreat
namespace Go.Proofs.YtldbcbclhpcofaaGreat
open Go Go.PS Go.Proofs
open Go.Bd (sm sumC Part)
set_option maxRecDepth 100000
attribute [local irreducible] wpRun wpG CallsTo CallsM

set_option maxHeartbeats 8000000 in
theorem own_spec (a : Lv) (h : validF a = true) : CallsTo Tryz.prog 36 [lvD a] (lvD a) := by
 obtain ⟨s1, s2, s3⟩ := lv_sizes h
 obtain ⟨t1, t2⟩ := lv_le h
 have hca := cloneA_spec a.2.2.1 (by omega)
 have hl1 : ∀ (k : Nat) x, a.2.1[k]? = some x → CallsTo Tryz.prog 62 [intsD x] (intsD x) := fun k x hx => cloneI_spec x (by have := tot_mem (List.mem_of_getElem? hx); omega)
 have hl2 : ∀ (k : Nat) x, a.2.2.2[k]? = some x → CallsTo Tryz.prog 62 [intsD x] (intsD x) := fun k x hx => cloneI_spec x (by have := s3 x (List.mem_of_getElem? hx); omega)
 obtain ⟨n, ls, ar, cs⟩ := a
 dsimp only at *
 refine callsTo_of Tryz.func36 rfl (by decide +kernel) (Nat.le_of_ble_eq_true rfl) ?_
 intro hat B X w0
 repeat' first | refine pw_seq ?_ | refine pw_skip ?_ | refine pw_ret ?_ | refine pw_exit ?_ | refine pw_block ?_ | refine pw_region (fun _ => false) hmix ?_ | (refine rc (hca) rfl ?_ ?_; (· first | rfl | (simp (disch := omega) only [go_sem, simprocAttr]; done))) | (refine wpG_split rfl rfl (fun hc => ?_) (fun hc => ?_) <;> try simp only [hcL, reduceCtorEq] at hc) | (refine pw_cond _ rfl rfl (fun hc => ?_) (fun hc => ?_) <;> (try simp only [hcL, reduceCtorEq] at hc) <;> try (exfalso; omega)) | simp (maxSteps := 1000000) (disch := omega) only [go_sem, simprocAttr] | apply And.intro | omega | decide +kernel
 refine pw_ent _ (ent_nilC 3 1 901 1 rfl rfl rfl) ?_
 refine pw_loopI (κ := Nat) (fun (k : Nat) => k ≤ ls.length) (fun (k : Nat) => [(1, .ptr 1 0 0 0), (2, .ptr 2 0 0 0), (3, .ptr 3 0 0 0), (15, .d (listsD ls)), (16, .int ls.length), (17, .int k)]) (fun (k : Nat) => [(1, .cells [.int n, .d (listsD ls), .d (arcsD ar), .d (listsD cs)]), (2, .cells [.int 0, .nilS, .nilS, .nilS]), (3, .cells [.int n, .ref 901 1 0 k k, .d (arcsD ar), .nilS]), (901, .row 1 ((ls.take k).map intsD))]) (fun (k : Nat) => ls.length - k) 0 ?_ ?_ ?_
 ·exact Nat.zero_le _
 ·exact eL [] _ _ (by refine ⟨?_, ?_⟩ <;> (repeat' first | exact List.forall_mem_nil _ | refine List.forall_mem_cons.2 ⟨(by first | rfl | (simp (disch := omega) only [go_sem, simprocAttr, inL, List.take_zero, List.map_nil]; first | done | omega | (congr 1; done))), ?_⟩); done)
 ·intro k hk
  have hlk : (ls.take k).length = k := by rw [List.length_take]; omega
  have htk : ((ls.take k).map intsD).take k = (ls.take k).map intsD := List.take_of_length_le (by rw [List.length_map, hlk]; exact Nat.le_refl _)
  rcases Nat.lt_or_ge k ls.length with hlt | hge
  ·obtain ⟨x, hx⟩ := get_some hlt
   have hc1 := hl1 k x hx
   have e1 := take_snoc hx
   repeat' first | refine pw_seq ?_ | refine pw_skip ?_ | refine pw_ret ?_ | refine pw_exit ?_ | refine pw_block ?_ | refine pw_region (fun _ => false) hmix ?_ | (refine rc (hc1) rfl ?_ ?_; (· first | rfl | (simp (disch := omega) only [go_sem, simprocAttr, hx, hlk, htk, roomy]; done))) | (refine wpG_split rfl rfl (fun hc => ?_) (fun hc => ?_) <;> try simp only [hcL, reduceCtorEq] at hc) | (refine pw_cond _ rfl rfl (fun hc => ?_) (fun hc => ?_) <;> (try simp only [hcL, reduceCtorEq] at hc) <;> try (exfalso; omega)) | simp (maxSteps := 1000000) (disch := omega) only [go_sem, simprocAttr, hx, hlk, htk, roomy] | exact fun d hd => by rw [List.mem_singleton.1 hd]; rfl | apply And.intro | omega | decide +kernel
   refine ⟨k + 1, ?_, eL [(901, 26)] _ _ (by refine ⟨?_, ?_⟩ <;> (repeat' first | exact List.forall_mem_nil _ | refine List.forall_mem_cons.2 ⟨(by first | rfl | (simp (disch := omega) only [go_sem, simprocAttr, inL, e1, htk, List.map_append, List.map_cons, List.map_nil]; first | done | omega | (congr 1; done))), ?_⟩); done), ?_⟩
   ·omega
   ·omega
  ·have : k = ls.length := by omega
   subst this
   try dsimp only
   rw [List.take_length]
   repeat' first | refine pw_seq ?_ | refine pw_skip ?_ | refine pw_ret ?_ | refine pw_exit ?_ | refine pw_block ?_ | refine pw_region (fun _ => false) hmix ?_ | (refine wpG_split rfl rfl (fun hc => ?_) (fun hc => ?_) <;> try simp only [hcL, reduceCtorEq] at hc) | (refine pw_cond _ rfl rfl (fun hc => ?_) (fun hc => ?_) <;> (try simp only [hcL, reduceCtorEq] at hc) <;> try (exfalso; omega)) | simp (maxSteps := 1000000) (disch := omega) only [go_sem, simprocAttr] | apply And.intro | omega | decide +kernel
   refine pw_ent _ (ent_nilC 3 3 902 1 rfl rfl rfl) ?_
   refine pw_loopI (κ := Nat) (fun (k : Nat) => k ≤ cs.length) (fun (k : Nat) => [(2, .ptr 2 0 0 0), (3, .ptr 3 0 0 0), (30, .d (listsD cs)), (31, .int cs.length), (32, .int k)]) (fun (k : Nat) => [(2, .cells [.int 0, .nilS, .nilS, .nilS]), (3, .cells [.int n, .ref 901 1 0 ls.length ls.length, .d (arcsD ar), .ref 902 1 0 k k]), (901, .row 1 (ls.map intsD)), (902, .row 1 ((cs.take k).map intsD))]) (fun (k : Nat) => cs.length - k) 0 ?_ ?_ ?_
   ·exact Nat.zero_le _
   ·exact eL [] _ _ (by refine ⟨?_, ?_⟩ <;> (repeat' first | exact List.forall_mem_nil _ | refine List.forall_mem_cons.2 ⟨(by first | rfl | (simp (disch := omega) only [go_sem, simprocAttr, inL, List.take_zero, List.map_nil]; first | done | omega | (congr 1; done))), ?_⟩); done)
   ·intro k hk
    have hlk : (cs.take k).length = k := by rw [List.length_take]; omega
    have htk : ((cs.take k).map intsD).take k = (cs.take k).map intsD := List.take_of_length_le (by rw [List.length_map, hlk]; exact Nat.le_refl _)
    rcases Nat.lt_or_ge k cs.length with hlt | hge
    ·obtain ⟨x, hx⟩ := get_some hlt
     have hc1 := hl2 k x hx
     have e1 := take_snoc hx
     repeat' first | refine pw_seq ?_ | refine pw_skip ?_ | refine pw_ret ?_ | refine pw_exit ?_ | refine pw_block ?_ | refine pw_region (fun _ => false) hmix ?_ | (refine rc (hc1) rfl ?_ ?_; (· first | rfl | (simp (disch := omega) only [go_sem, simprocAttr, hx, hlk, htk, roomy]; done))) | (refine wpG_split rfl rfl (fun hc => ?_) (fun hc => ?_) <;> try simp only [hcL, reduceCtorEq] at hc) | (refine pw_cond _ rfl rfl (fun hc => ?_) (fun hc => ?_) <;> (try simp only [hcL, reduceCtorEq] at hc) <;> try (exfalso; omega)) | simp (maxSteps := 1000000) (disch := omega) only [go_sem, simprocAttr, hx, hlk, htk, roomy] | exact fun d hd => by rw [List.mem_singleton.1 hd]; rfl | apply And.intro | omega | decide +kernel
     refine ⟨k + 1, ?_, eL [(902, 41)] _ _ (by refine ⟨?_, ?_⟩ <;> (repeat' first | exact List.forall_mem_nil _ | refine List.forall_mem_cons.2 ⟨(by first | rfl | (simp (disch := omega) only [go_sem, simprocAttr, inL, e1, htk, List.map_append, List.map_cons, List.map_nil]; first | done | omega | (congr 1; done))), ?_⟩); done), ?_⟩
     ·omega
     ·omega
    ·have : k = cs.length := by omega
     subst this
     try dsimp only
     rw [List.take_length]
     repeat' first | refine pw_seq ?_ | refine pw_skip ?_ | refine pw_ret ?_ | refine pw_exit ?_ | refine pw_block ?_ | refine pw_region (fun _ => false) hmix ?_ | (refine wpG_split rfl rfl (fun hc => ?_) (fun hc => ?_) <;> try simp only [hcL, reduceCtorEq] at hc) | (refine pw_cond _ rfl rfl (fun hc => ?_) (fun hc => ?_) <;> (try simp only [hcL, reduceCtorEq] at hc) <;> try (exfalso; omega)) | simp (maxSteps := 1000000) (disch := omega) only [go_sem, simprocAttr] | apply And.intro | omega | decide +kernel
     refine ⟨_, _, _, _, rfl, ?_⟩
     simp (maxSteps := 1000000) (disch := omega) only [go_sem, simprocAttr, toD, List.length_map, Nat.le_refl, List.drop_zero]
     rw [take_map_len, take_map_len]
def nowI (m : List (List Int)) (A b : Nat) : Int := sm (fun j => if A < j then cellAt m A j else 0) b
def nowT (m : List (List Int)) (A : Nat) : Int := sm (fun A => nowI m A m.length) A
theorem nowI_in {m : List (List Int)} (hs : Sq m) (A b : Nat) : 0 ≤ nowI m A b ∧ nowI m A b ≤ 1000000 * b := Go.Bd.sm_bounds b fun k _ => by
 have := cellAt_le hs A k
 split <;> omega
theorem nowT_le {m : List (List Int)} (hs : Sq m) (h8 : m.length ≤ 8) (A : Nat) : 0 ≤ nowT m A ∧ nowT m A ≤ 8000000 * A :=
 Go.Bd.sm_bounds A fun k _ => by
  have := nowI_in hs k m.length
  omega
theorem nowI_split (m : List (List Int)) (A : Nat) : ∀ n, A < n → nowI m A n = sm (fun j => cellAt m A (A + 1 + j)) (n - 1 - A)
 | 0, h => by omega
 | n + 1, h => by
  have e : nowI m A (n + 1) = nowI m A n + (if A < n then cellAt m A n else 0) := rfl
  rw [e]
  by_cases c : A < n
  ·rw [nowI_split m A n c, if_pos c, show n + 1 - 1 - A = (n - 1 - A) + 1 by omega]
   have e2 : sm (fun j => cellAt m A (A + 1 + j)) (n - 1 - A + 1) = sm (fun j => cellAt m A (A + 1 + j)) (n - 1 - A) + cellAt m A (A + 1 + (n - 1 - A)) := rfl
   rw [e2, show A + 1 + (n - 1 - A) = n by omega]
  ·have : n = A := by omega
   subst this
   have z : ∀ k, k ≤ n → nowI m n k = 0 := by
    intro k
    induction k with
    | zero => intro _; rfl
    | succ k ih =>
     intro hk
     have e3 : nowI m n (k + 1) = nowI m n k + (if n < k then cellAt m n k else 0) := rfl
     rw [e3, ih (by omega), if_neg (by omega)]; rfl
   rw [z n (Nat.le_refl _), if_neg c, show n + 1 - 1 - n = 0 by omega]; rfl
theorem sm_congr {f g : Nat → Int} : ∀ n, (∀ k, k < n → f k = g k) → sm f n = sm g n
 | 0, _ => rfl
 | n + 1, h => by
  have e : ∀ f : Nat → Int, sm f (n + 1) = sm f n + f n := fun _ => rfl
  rw [e, e, sm_congr n fun k hk => h k (by omega), h n (by omega)]
theorem now_sum (m : List (List Int)) : nowT m m.length = sumC (cellAt m) (List.range m.length) := by
 rw [Go.Bd.sumC_range, nowT]
 exact sm_congr _ fun A hA => nowI_split m A _ hA
theorem osmall_spec (l : List Int) (hl : l.length ≤ 1000000) : CallsTo Tryz.prog 25 [intsD l] (.bool (decide (l.length ≤ 8))) := by
 refine callsTo_of Tryz.func25 rfl (by decide +kernel) (Nat.le_of_ble_eq_true rfl) ?_
 intro hat B X w0
 repeat' first | refine pw_seq ?_ | refine pw_skip ?_ | refine pw_ret ?_ | refine pw_exit ?_ | refine pw_block ?_ | refine pw_region (fun _ => false) hmix ?_ | (refine wpG_split rfl rfl (fun hc => ?_) (fun hc => ?_) <;> try simp only [hcL, reduceCtorEq] at hc) | (refine pw_cond _ rfl rfl (fun hc => ?_) (fun hc => ?_) <;> (try simp only [hcL, reduceCtorEq] at hc) <;> try (exfalso; omega)) | simp (maxSteps := 1000000) (disch := omega) only [go_sem, simprocAttr] | apply And.intro | omega | decide +kernel
 exact bool_some (by rw [Bool.eq_iff_iff]; simp only [decide_eq_true_eq]; omega)
set_option maxHeartbeats 8000000 in
theorem better_spec (a : Lv) (i : Nat) (hw : wide a) (hv : validF a = true) (har : a.2.2.1.length ≤ 700) (hil : i < a.2.1.length) :
  CallsTo Tryz.prog 34 [lvD a, .int i] (.tup [natsD (betF a i).1, .bool (betF a i).2]) := by
 obtain ⟨y, hy⟩ := get_some hil
 have hyl := tot_mem (List.mem_of_getElem? hy)
 obtain ⟨t1, t2⟩ := lv_le hv
 have h1 := osmall_spec y (by omega)
 rw [betF, lstN_at hy]
 by_cases h8 : 8 < y.length
 ·rw [if_pos h8]
  rw [decide_eq_false (by omega)] at h1
  obtain ⟨n, ls, ar, cs⟩ := a
  dsimp only at *
  refine callsTo_of Tryz.func34 rfl (by decide +kernel) (Nat.le_of_ble_eq_true rfl) ?_
  intro hat B X w0
  repeat' first | refine pw_seq ?_ | refine pw_skip ?_ | refine pw_ret ?_ | refine pw_exit ?_ | refine pw_block ?_ | refine pw_region (fun _ => false) hmix ?_ | (refine rc (h1) rfl ?_ ?_; (· first | rfl | (simp (disch := omega) only [go_sem, simprocAttr, hy]; done))) | (refine wpG_split rfl rfl (fun hc => ?_) (fun hc => ?_) <;> try simp only [hcL, reduceCtorEq] at hc) | (refine pw_cond _ rfl rfl (fun hc => ?_) (fun hc => ?_) <;> (try simp only [hcL, reduceCtorEq] at hc) <;> try (exfalso; omega)) | simp (maxSteps := 1000000) (disch := omega) only [go_sem, simprocAttr, hy] | apply And.intro | omega | decide +kernel
  exact ⟨_, rfl, sl_some rfl, bool_some rfl, trivial⟩
 ·rw [if_neg h8]
  rw [decide_eq_true (by omega)] at h1
  have h2 := omatrix_spec a i hw hv hil
  have hmok := orM_ok (i := i) har (by rw [lstN_at hy]; exact h8)
  have h3 := Least_spec (orM a i)
  rw [if_pos hmok] at h3
  obtain ⟨hs, hm8⟩ := ok_sq hmok
  have hml := orM_len a i
  rw [lstN_at hy] at hml
  have hns := now_sum (orM a i)
  have hbb : 0 ≤ (bestAll (orM a i)).2 ∧ (bestAll (orM a i)).2 ≤ 64000000 := by
   obtain ⟨g1, g2, _⟩ := Go.Bd.best_bounds hs.small hm8 (part_nil _) (bestAll_eq (orM a i))
   exact ⟨g1, g2⟩
  rw [betB, lstN_at hy, ← hml, ← hns]
  have hni := nowI_in hs
  have hnt := nowT_le hs hm8
  have hIs : ∀ A b, nowI (orM a i) A (b + 1) = nowI (orM a i) A b + (if A < b then cellAt (orM a i) A b else 0) := fun _ _ => rfl
  have hTs : ∀ A, nowT (orM a i) (A + 1) = nowT (orM a i) A + nowI (orM a i) A (orM a i).length := fun _ => rfl
  have hI0 : ∀ A, nowI (orM a i) A 0 = 0 := fun _ => rfl
  have hT0 : nowT (orM a i) 0 = 0 := rfl
  generalize orM a i = m at *
  generalize nowI m = I at *
  generalize nowT m = T at *
  generalize bestAll m = BB at *
  obtain ⟨p, cost⟩ := BB
  obtain ⟨n, ls, ar, cs⟩ := a
  dsimp only at *
  refine callsTo_of Tryz.func34 rfl (by decide +kernel) (Nat.le_of_ble_eq_true rfl) ?_
  intro hat B X w0
  repeat' first | refine pw_seq ?_ | refine pw_skip ?_ | refine pw_ret ?_ | refine pw_exit ?_ | refine pw_block ?_ | refine pw_region (fun _ => false) hmix ?_ | (refine rc (h1) rfl ?_ ?_; (· first | rfl | (simp (disch := omega) only [go_sem, simprocAttr, hy]; done))) | (refine rc (h2) rfl ?_ ?_; (· first | rfl | (simp (disch := omega) only [go_sem, simprocAttr, hy]; done))) | (refine wpG_split rfl rfl (fun hc => ?_) (fun hc => ?_) <;> try simp only [hcL, reduceCtorEq] at hc) | (refine pw_cond _ rfl rfl (fun hc => ?_) (fun hc => ?_) <;> (try simp only [hcL, reduceCtorEq] at hc) <;> try (exfalso; omega)) | simp (maxSteps := 1000000) (disch := omega) only [go_sem, simprocAttr, hy] | apply And.intro | omega | decide +kernel
  refine pw_loopI (κ := Nat) (fun (u : Nat) => u ≤ m.length) (fun (u : Nat) => [(6, .d (listsD m)), (7, .int (T u)), (24, .int m.length), (25, .int u)]) (fun (u : Nat) => []) (fun (u : Nat) => m.length - u) 0 ?_ ?_ ?_
  ·exact Nat.zero_le _
  ·exact eL [] _ _ (by refine ⟨?_, ?_⟩ <;> (repeat' first | exact List.forall_mem_nil _ | refine List.forall_mem_cons.2 ⟨(by first | rfl | (simp (disch := omega) only [go_sem, simprocAttr, inL, hT0]; first | done | omega | (congr 1; done))), ?_⟩); done)
  ·intro u hu
   have b1 := hnt u
   rcases Nat.lt_or_ge u m.length with hlt | hge
   ·have e1 := hTs u
    repeat' first | refine pw_seq ?_ | refine pw_skip ?_ | refine pw_ret ?_ | refine pw_exit ?_ | refine pw_block ?_ | refine pw_region (fun _ => false) hmix ?_ | (refine wpG_split rfl rfl (fun hc => ?_) (fun hc => ?_) <;> try simp only [hcL, reduceCtorEq] at hc) | (refine pw_cond _ rfl rfl (fun hc => ?_) (fun hc => ?_) <;> (try simp only [hcL, reduceCtorEq] at hc) <;> try (exfalso; omega)) | simp (maxSteps := 1000000) (disch := omega) only [go_sem, simprocAttr] | apply And.intro | omega | decide +kernel
    refine pw_loopI (κ := Nat) (fun (b : Nat) => b ≤ m.length) (fun (b : Nat) => [(6, .d (listsD m)), (7, .int (T u + I u b)), (8, .int u), (24, .int m.length), (25, .int u), (29, .int m.length), (30, .int b)]) (fun (b : Nat) => []) (fun (b : Nat) => m.length - b) 0 ?_ ?_ ?_
    ·exact Nat.zero_le _
    ·exact eL [] _ _ (by refine ⟨?_, ?_⟩ <;> (repeat' first | exact List.forall_mem_nil _ | refine List.forall_mem_cons.2 ⟨(by first | rfl | (simp (disch := omega) only [go_sem, simprocAttr, inL, hI0, Int.add_zero]; first | done | omega | (congr 1; done))), ?_⟩); done)
    ·intro b hb
     have b2 := hni u b
     rcases Nat.lt_or_ge b m.length with hlb | hgb
     ·obtain ⟨q, hq, hql, hqv, g1, g2⟩ := hs.get hlt hlb
      have e2 := hIs u b
      by_cases c : u < b
      ·rw [if_pos c] at e2
       repeat' first | refine pw_seq ?_ | refine pw_skip ?_ | refine pw_ret ?_ | refine pw_exit ?_ | refine pw_block ?_ | refine pw_region (fun _ => false) hmix ?_ | (refine wpG_split rfl rfl (fun hc => ?_) (fun hc => ?_) <;> try simp only [hcL, reduceCtorEq] at hc) | (refine pw_cond _ rfl rfl (fun hc => ?_) (fun hc => ?_) <;> (try simp only [hcL, reduceCtorEq] at hc) <;> try (exfalso; omega)) | simp (maxSteps := 1000000) (disch := omega) only [go_sem, simprocAttr, hq, hqv, hql, c] | apply And.intro | omega | decide +kernel
       refine ⟨b + 1, ?_, eL [] _ _ (by refine ⟨?_, ?_⟩ <;> (repeat' first | exact List.forall_mem_nil _ | refine List.forall_mem_cons.2 ⟨(by first | rfl | (simp (disch := omega) only [go_sem, simprocAttr, inL, e2, Int.add_assoc]; first | done | omega | (congr 1; done))), ?_⟩); done), ?_⟩
       ·omega
       ·omega
      ·rw [if_neg c, Int.add_zero] at e2
       repeat' first | refine pw_seq ?_ | refine pw_skip ?_ | refine pw_ret ?_ | refine pw_exit ?_ | refine pw_block ?_ | refine pw_region (fun _ => false) hmix ?_ | (refine wpG_split rfl rfl (fun hc => ?_) (fun hc => ?_) <;> try simp only [hcL, reduceCtorEq] at hc) | (refine pw_cond _ rfl rfl (fun hc => ?_) (fun hc => ?_) <;> (try simp only [hcL, reduceCtorEq] at hc) <;> try (exfalso; omega)) | simp (maxSteps := 1000000) (disch := omega) only [go_sem, simprocAttr, c] | apply And.intro | omega | decide +kernel
       refine ⟨b + 1, ?_, eL [] _ _ (by refine ⟨?_, ?_⟩ <;> (repeat' first | exact List.forall_mem_nil _ | refine List.forall_mem_cons.2 ⟨(by first | rfl | (simp (disch := omega) only [go_sem, simprocAttr, inL, e2]; first | done | omega | (congr 1; done))), ?_⟩); done), ?_⟩
       ·omega
       ·omega
     ·have : b = m.length := by omega
      subst this
      repeat' first | refine pw_seq ?_ | refine pw_skip ?_ | refine pw_ret ?_ | refine pw_exit ?_ | refine pw_block ?_ | refine pw_region (fun _ => false) hmix ?_ | (refine wpG_split rfl rfl (fun hc => ?_) (fun hc => ?_) <;> try simp only [hcL, reduceCtorEq] at hc) | (refine pw_cond _ rfl rfl (fun hc => ?_) (fun hc => ?_) <;> (try simp only [hcL, reduceCtorEq] at hc) <;> try (exfalso; omega)) | simp (maxSteps := 1000000) (disch := omega) only [go_sem, simprocAttr] | apply And.intro | omega | decide +kernel
      refine ⟨u + 1, ?_, eL [] _ _ (by refine ⟨?_, ?_⟩ <;> (repeat' first | exact List.forall_mem_nil _ | refine List.forall_mem_cons.2 ⟨(by first | rfl | (simp (disch := omega) only [go_sem, simprocAttr, inL, e1]; first | done | omega | (congr 1; done))), ?_⟩); done), ?_⟩
      ·omega
      ·omega
   ·have : u = m.length := by omega
    subst this
    repeat' first | refine pw_seq ?_ | refine pw_skip ?_ | refine pw_ret ?_ | refine pw_exit ?_ | refine pw_block ?_ | refine pw_region (fun _ => false) hmix ?_ | (refine rc (h3) rfl ?_ ?_; (· first | rfl | (simp (disch := omega) only [go_sem, simprocAttr]; done))) | (refine wpG_split rfl rfl (fun hc => ?_) (fun hc => ?_) <;> try simp only [hcL, reduceCtorEq] at hc) | (refine pw_cond _ rfl rfl (fun hc => ?_) (fun hc => ?_) <;> (try simp only [hcL, reduceCtorEq] at hc) <;> try (exfalso; omega)) | simp (maxSteps := 1000000) (disch := omega) only [go_sem, simprocAttr] | apply And.intro | omega | decide +kernel
    refine ⟨_, rfl, sl_some rfl, bool_some ?_, trivial⟩
    rw [Bool.eq_iff_iff]
set_option maxHeartbeats 8000000 in
theorem arrange_spec (a : Lv) (i : Nat) (o : List Nat) (hw : wide a) (hv : validF a = true) (hil : i < a.2.1.length) (ho : Part (lstN a.2.1 i).length 0 o) :
  CallsTo Tryz.prog 28 [lvD a, .int i, natsD o] (lvD (putL a i (permL (lstN a.2.1 i) o))) := by
 obtain ⟨y, hy⟩ := get_some hil
 have hyl := tot_mem (List.mem_of_getElem? hy)
 obtain ⟨t1, t2⟩ := lv_le hv
 rw [lstN_at hy] at ho ⊢
 have hol := ho.len
 have hr := Reorder_spec a i (permL y o) hw (by rw [permL_len]; omega)
 rw [reorder_put hv hy ho] at hr
 generalize putL a i (permL y o) = P at *
 obtain ⟨n', ls', ar', cs'⟩ := P
 obtain ⟨n, ls, ar, cs⟩ := a
 dsimp only at *
 refine callsTo_of Tryz.func28 rfl (by decide +kernel) (Nat.le_of_ble_eq_true rfl) ?_
 intro hat B X w0
 repeat' first | refine pw_seq ?_ | refine pw_skip ?_ | refine pw_ret ?_ | refine pw_exit ?_ | refine pw_block ?_ | refine pw_region (fun _ => false) hmix ?_ | (refine wpG_split rfl rfl (fun hc => ?_) (fun hc => ?_) <;> try simp only [hcL, reduceCtorEq] at hc) | (refine pw_cond _ rfl rfl (fun hc => ?_) (fun hc => ?_) <;> (try simp only [hcL, reduceCtorEq] at hc) <;> try (exfalso; omega)) | simp (maxSteps := 1000000) (disch := omega) only [go_sem, simprocAttr] | apply And.intro | omega | decide +kernel
 refine pw_ent _ (ent_nil 7 901 1 rfl rfl) ?_
 refine pw_loopI (κ := Nat) (fun (k : Nat) => k ≤ o.length) (fun (k : Nat) => [(1, .int i), (3, .ptr 3 0 0 0), (6, .ptr 6 0 0 0), (7, .ref 901 1 0 k k), (12, .d (natsD o)), (13, .int o.length), (14, .int k)]) (fun (k : Nat) => [(3, .cells [.int n, .d (listsD ls), .d (arcsD ar), .d (listsD cs)]), (6, .cells [.int 0, .nilS, .nilS, .nilS]), (901, .row 1 (((permL y o).take k).map D.int))]) (fun (k : Nat) => o.length - k) 0 ?_ ?_ ?_
 ·exact Nat.zero_le _
 ·exact eL [] _ _ (by refine ⟨?_, ?_⟩ <;> (repeat' first | exact List.forall_mem_nil _ | refine List.forall_mem_cons.2 ⟨(by first | rfl | (simp (disch := omega) only [go_sem, simprocAttr, inL, List.take_zero, List.map_nil]; first | done | omega | (congr 1; done))), ?_⟩); done)
 ·intro k hk
  have hlk : ((permL y o).take k).length = k := by rw [List.length_take, permL_len]; omega
  have htk : (((permL y o).take k).map D.int).take k = ((permL y o).take k).map D.int := List.take_of_length_le (by rw [List.length_map, hlk]; exact Nat.le_refl _)
  rcases Nat.lt_or_ge k o.length with hlt | hge
  ·obtain ⟨q, hq⟩ := get_some hlt
   have hqn := ho.lt q (List.mem_of_getElem? hq)
   have hyq : y[q]? = some (yG y q) := by rw [yG, List.getElem?_eq_getElem hqn]; rfl
   have e1 : (permL y o).take (k + 1) = (permL y o).take k ++ [yG y q] := take_snoc (by rw [permL, List.getElem?_map, hq]; rfl)
   generalize (permL y o).take k = R at *
   repeat' first | refine pw_seq ?_ | refine pw_skip ?_ | refine pw_ret ?_ | refine pw_exit ?_ | refine pw_block ?_ | refine pw_region (fun _ => false) hmix ?_ | (refine wpG_split rfl rfl (fun hc => ?_) (fun hc => ?_) <;> try simp only [hcL, reduceCtorEq] at hc) | (refine pw_cond _ rfl rfl (fun hc => ?_) (fun hc => ?_) <;> (try simp only [hcL, reduceCtorEq] at hc) <;> try (exfalso; omega)) | simp (maxSteps := 1000000) (disch := omega) only [go_sem, simprocAttr, hy, hq, hyq, hlk, htk, roomy] | exact one_int _ | apply And.intro | omega | decide +kernel
   refine ⟨k + 1, ?_, eL [(901, 28)] _ _ (by refine ⟨?_, ?_⟩ <;> (repeat' first | exact List.forall_mem_nil _ | refine List.forall_mem_cons.2 ⟨(by first | rfl | (simp (disch := omega) only [go_sem, simprocAttr, inL, e1, htk, List.map_append, List.map_cons, List.map_nil]; first | done | omega | (congr 1; done))), ?_⟩); done), ?_⟩
   ·omega
   ·omega
  ·have : k = o.length := by omega
   subst this
   have hfull : (permL y o).take o.length = permL y o := List.take_of_length_le (by rw [permL_len]; exact Nat.le_refl _)
   rw [hfull] at hlk htk
   rw [hfull]
   refine pw_ent _ (ent_freeze 901 1 ((permL y o).map D.int) rfl (noGone_of _ rfl) (by decide)) ?_
   repeat' first | refine pw_seq ?_ | refine pw_skip ?_ | refine pw_ret ?_ | refine pw_exit ?_ | refine pw_block ?_ | refine pw_region (fun _ => false) hmix ?_ | (refine rc (hr) rfl ?_ ?_; (· first | rfl | (simp (disch := omega) only [go_sem, simprocAttr, hlk, htk, List.drop_zero]; done))) | (refine wpG_split rfl rfl (fun hc => ?_) (fun hc => ?_) <;> try simp only [hcL, reduceCtorEq] at hc) | (refine pw_cond _ rfl rfl (fun hc => ?_) (fun hc => ?_) <;> (try simp only [hcL, reduceCtorEq] at hc) <;> try (exfalso; omega)) | simp (maxSteps := 1000000) (disch := omega) only [go_sem, simprocAttr, hlk, htk, List.drop_zero] | apply And.intro | omega | decide +kernel
   refine ⟨_, _, _, _, rfl, ?_⟩
   simp (maxSteps := 1000000) (disch := omega) only [go_sem, simprocAttr, toD]
set_option maxHeartbeats 8000000 in
theorem Exact_spec (a : Lv) (i f : Int) (hw : wide a) : CallsTo Tryz.prog 10 [lvD a, .int i, .int f] (.tup [lvD (exaF a i f).1, .int (exaF a i f).2]) := by
 have h1 := LvValid_spec a hw
 rw [exaF]
 rcases hm : matOk a i f with _ | _
 ·rw [if_pos rfl]
  rw [matOk] at hm
  rcases hv : validF a with _ | _ <;> rw [hv] at h1 hm
  ·refine callsTo_of Tryz.func10 rfl (by decide +kernel) (Nat.le_of_ble_eq_true rfl) ?_
   intro hat B X w0
   repeat' first | refine pw_seq ?_ | refine pw_skip ?_ | refine pw_ret ?_ | refine pw_exit ?_ | refine pw_block ?_ | refine pw_region (fun _ => false) hmix ?_ | (refine rc (h1) rfl ?_ ?_; (· first | rfl | (simp (disch := omega) only [go_sem, simprocAttr, List.append_eq]; done))) | (refine wpG_split rfl rfl (fun hc => ?_) (fun hc => ?_) <;> try simp only [hcL, reduceCtorEq] at hc) | (refine pw_cond _ rfl rfl (fun hc => ?_) (fun hc => ?_) <;> (try simp only [hcL, reduceCtorEq] at hc) <;> try (exfalso; omega)) | simp (maxSteps := 1000000) (disch := omega) only [go_sem, simprocAttr, List.append_eq] | apply And.intro | omega | decide +kernel
   refine ⟨_, rfl, ⟨_, _, _, _, rfl, ?_⟩, int_some rfl, trivial⟩
   simp (maxSteps := 1000000) (disch := omega) only [go_sem, simprocAttr, toD]
   rfl
  ·obtain ⟨t1, t2⟩ := lv_le hv
   have hn : ¬ (((0 ≤ i ∧ i < a.2.1.length) ∧ (0 ≤ f ∧ f < a.2.1.length)) ∧ (f = i - 1 ∨ f = i + 1)) := by simpa [and_assoc] using hm
   obtain ⟨n, ls, ar, cs⟩ := a
   dsimp only at t1 t2 hn
   refine callsTo_of Tryz.func10 rfl (by decide +kernel) (Nat.le_of_ble_eq_true rfl) ?_
   intro hat B X w0
   repeat' first | refine pw_seq ?_ | refine pw_skip ?_ | refine pw_ret ?_ | refine pw_exit ?_ | refine pw_block ?_ | refine pw_region (fun _ => false) hmix ?_ | (refine rc (h1) rfl ?_ ?_; (· first | rfl | (simp (disch := omega) only [go_sem, simprocAttr, List.append_eq]; done))) | (refine wpG_split rfl rfl (fun hc => ?_) (fun hc => ?_) <;> try simp only [hcL, reduceCtorEq] at hc) | (refine pw_cond _ rfl rfl (fun hc => ?_) (fun hc => ?_) <;> (try simp only [hcL, reduceCtorEq] at hc) <;> try (exfalso; omega)) | simp (maxSteps := 1000000) (disch := omega) only [go_sem, simprocAttr, List.append_eq] | apply And.intro | omega | decide +kernel
   all_goals
    refine ⟨_, rfl, ⟨_, _, _, _, rfl, ?_⟩, int_some rfl, trivial⟩
    simp (maxSteps := 1000000) (disch := omega) only [go_sem, simprocAttr, toD]
    rfl
 ·rw [if_neg (by decide)]
  obtain ⟨hv, hi, hf, hif⟩ := matOk_in hm
  rw [hv] at h1
  obtain ⟨t1, t2⟩ := lv_le hv
  have hp := matF_part hm
  have h3 := Matrix_spec a i f hw
  have hml := matF_len hm
  have hsq := MatrixF_sq a i f
  obtain ⟨i, rfl⟩ : ∃ n : Nat, i = n := ⟨i.toNat, by omega⟩
  rw [Int.toNat_natCast] at *
  obtain ⟨y, hy⟩ := get_some (l := a.2.1) (k := i) (by omega)
  have hyl := tot_mem (List.mem_of_getElem? hy)
  have h2 := osmall_spec y (by omega)
  have h5 := fun ho => arrange_spec a i (bestAll (MatrixF a i f)).1 hw hv (by omega) ho
  rw [lstN_at hy] at *
  by_cases h8 : 8 < y.length
  ·rw [if_pos h8]
   rw [decide_eq_false (by omega)] at h2
   obtain ⟨n, ls, ar, cs⟩ := a
   dsimp only at *
   refine callsTo_of Tryz.func10 rfl (by decide +kernel) (Nat.le_of_ble_eq_true rfl) ?_
   intro hat B X w0
   repeat' first | refine pw_seq ?_ | refine pw_skip ?_ | refine pw_ret ?_ | refine pw_exit ?_ | refine pw_block ?_ | refine pw_region (fun _ => false) hmix ?_ | (refine rc (h1) rfl ?_ ?_; (· first | rfl | (simp (disch := omega) only [go_sem, simprocAttr, List.append_eq, hy]; done))) | (refine rc (h2) rfl ?_ ?_; (· first | rfl | (simp (disch := omega) only [go_sem, simprocAttr, List.append_eq, hy]; done))) | (refine wpG_split rfl rfl (fun hc => ?_) (fun hc => ?_) <;> try simp only [hcL, reduceCtorEq] at hc) | (refine pw_cond _ rfl rfl (fun hc => ?_) (fun hc => ?_) <;> (try simp only [hcL, reduceCtorEq] at hc) <;> try (exfalso; omega)) | simp (maxSteps := 1000000) (disch := omega) only [go_sem, simprocAttr, List.append_eq, hy] | apply And.intro | omega | decide +kernel
   all_goals
    refine ⟨_, rfl, ⟨_, _, _, _, rfl, ?_⟩, int_some rfl, trivial⟩
    simp (maxSteps := 1000000) (disch := omega) only [go_sem, simprocAttr, toD]
    rfl
  ·rw [if_neg h8]
   rw [decide_eq_true (by omega)] at h2
   have h4 := Least_spec (MatrixF a i f)
   rw [if_pos (sq_ok hsq (by omega))] at h4
   have h6 := h5 hp
   clear h5
   generalize MatrixF a i f = m at *
   generalize bestAll m = BB at *
   obtain ⟨p, cost⟩ := BB
   dsimp only at *
   generalize putL a i (permL y p) = P at *
   obtain ⟨n', ls', ar', cs'⟩ := P
   obtain ⟨n, ls, ar, cs⟩ := a
   dsimp only at *
   refine callsTo_of Tryz.func10 rfl (by decide +kernel) (Nat.le_of_ble_eq_true rfl) ?_
   intro hat B X w0
   repeat' first | refine pw_seq ?_ | refine pw_skip ?_ | refine pw_ret ?_ | refine pw_exit ?_ | refine pw_block ?_ | refine pw_region (fun _ => false) hmix ?_ | (refine rc (h1) rfl ?_ ?_; (· first | rfl | (simp (disch := omega) only [go_sem, simprocAttr, List.append_eq, hy]; done))) | (refine rc (h2) rfl ?_ ?_; (· first | rfl | (simp (disch := omega) only [go_sem, simprocAttr, List.append_eq, hy]; done))) | (refine rc (h3) rfl ?_ ?_; (· first | rfl | (simp (disch := omega) only [go_sem, simprocAttr, List.append_eq, hy]; done))) | (refine rc (h4) rfl ?_ ?_; (· first | rfl | (simp (disch := omega) only [go_sem, simprocAttr, List.append_eq, hy]; done))) | (refine rc (h6) rfl ?_ ?_; (· first | rfl | (simp (disch := omega) only [go_sem, simprocAttr, List.append_eq, hy]; done))) | (refine wpG_split rfl rfl (fun hc => ?_) (fun hc => ?_) <;> try simp only [hcL, reduceCtorEq] at hc) | (refine pw_cond _ rfl rfl (fun hc => ?_) (fun hc => ?_) <;> (try simp only [hcL, reduceCtorEq] at hc) <;> try (exfalso; omega)) | simp (maxSteps := 1000000) (disch := omega) only [go_sem, simprocAttr, List.append_eq, hy] | apply And.intro | omega | decide +kernel
   all_goals
    refine ⟨_, rfl, ⟨_, _, _, _, rfl, ?_⟩, int_some rfl, trivial⟩
    simp (maxSteps := 1000000) (disch := omega) only [go_sem, simprocAttr, toD]
set_option maxHeartbeats 8000000 in
theorem Optimal_spec (a : Lv) (i : Int) (hw : wide a) (har : a.2.2.1.length ≤ 700) : CallsTo Tryz.prog 13 [lvD a, .int i] (.bool (optF a i)) := by
 have h1 := LvValid_spec a hw
 rw [optF]
 rcases hv : validF a with _ | _ <;> rw [hv] at h1
 ·refine callsTo_of Tryz.func13 rfl (by decide +kernel) (Nat.le_of_ble_eq_true rfl) ?_
  intro hat B X w0
  repeat' first | refine pw_seq ?_ | refine pw_skip ?_ | refine pw_ret ?_ | refine pw_exit ?_ | refine pw_block ?_ | refine pw_region (fun _ => false) hmix ?_ | (refine rc (h1) rfl ?_ ?_; (· first | rfl | (simp (disch := omega) only [go_sem, simprocAttr, List.append_eq]; done))) | (refine wpG_split rfl rfl (fun hc => ?_) (fun hc => ?_) <;> try simp only [hcL, reduceCtorEq] at hc) | (refine pw_cond _ rfl rfl (fun hc => ?_) (fun hc => ?_) <;> (try simp only [hcL, reduceCtorEq] at hc) <;> try (exfalso; omega)) | simp (maxSteps := 1000000) (disch := omega) only [go_sem, simprocAttr, List.append_eq] | apply And.intro | omega | decide +kernel
  exact bool_some rfl
 ·obtain ⟨t1, t2⟩ := lv_le hv
  by_cases hi : 0 ≤ i ∧ i < a.2.1.length
  ·rw [decide_eq_true hi]
   obtain ⟨i, rfl⟩ : ∃ n : Nat, i = n := ⟨i.toNat, by omega⟩
   rw [Int.toNat_natCast]
   obtain ⟨y, hy⟩ := get_some (l := a.2.1) (k := i) (by omega)
   have hyl := tot_mem (List.mem_of_getElem? hy)
   have h2 := osmall_spec y (by omega)
   have h3 := better_spec a i hw hv har (by omega)
   rw [betF] at h3
   rw [lstN_at hy] at *
   by_cases h8 : 8 < y.length
   ·rw [decide_eq_false (fun h => h h8)]
    rw [decide_eq_false (by omega)] at h2
    obtain ⟨n, ls, ar, cs⟩ := a
    dsimp only at *
    refine callsTo_of Tryz.func13 rfl (by decide +kernel) (Nat.le_of_ble_eq_true rfl) ?_
    intro hat B X w0
    repeat' first | refine pw_seq ?_ | refine pw_skip ?_ | refine pw_ret ?_ | refine pw_exit ?_ | refine pw_block ?_ | refine pw_region (fun _ => false) hmix ?_ | (refine rc (h1) rfl ?_ ?_; (· first | rfl | (simp (disch := omega) only [go_sem, simprocAttr, List.append_eq, hy]; done))) | (refine rc (h2) rfl ?_ ?_; (· first | rfl | (simp (disch := omega) only [go_sem, simprocAttr, List.append_eq, hy]; done))) | (refine wpG_split rfl rfl (fun hc => ?_) (fun hc => ?_) <;> try simp only [hcL, reduceCtorEq] at hc) | (refine pw_cond _ rfl rfl (fun hc => ?_) (fun hc => ?_) <;> (try simp only [hcL, reduceCtorEq] at hc) <;> try (exfalso; omega)) | simp (maxSteps := 1000000) (disch := omega) only [go_sem, simprocAttr, List.append_eq, hy] | apply And.intro | omega | decide +kernel
    all_goals exact bool_some rfl
   ·rw [decide_eq_true h8]
    rw [decide_eq_true (by omega)] at h2
    rw [if_neg h8] at h3
    generalize betB a i = b at *
    generalize bestAll (orM a i) = BB at *
    obtain ⟨n, ls, ar, cs⟩ := a
    dsimp only at *
    refine callsTo_of Tryz.func13 rfl (by decide +kernel) (Nat.le_of_ble_eq_true rfl) ?_
    intro hat B X w0
    repeat' first | refine pw_seq ?_ | refine pw_skip ?_ | refine pw_ret ?_ | refine pw_exit ?_ | refine pw_block ?_ | refine pw_region (fun _ => false) hmix ?_ | (refine rc (h1) rfl ?_ ?_; (· first | rfl | (simp (disch := omega) only [go_sem, simprocAttr, List.append_eq, hy]; done))) | (refine rc (h2) rfl ?_ ?_; (· first | rfl | (simp (disch := omega) only [go_sem, simprocAttr, List.append_eq, hy]; done))) | (refine rc (h3) rfl ?_ ?_; (· first | rfl | (simp (disch := omega) only [go_sem, simprocAttr, List.append_eq, hy]; done))) | (refine wpG_split rfl rfl (fun hc => ?_) (fun hc => ?_) <;> try simp only [hcL, reduceCtorEq] at hc) | (refine pw_cond _ rfl rfl (fun hc => ?_) (fun hc => ?_) <;> (try simp only [hcL, reduceCtorEq] at hc) <;> try (exfalso; omega)) | simp (maxSteps := 1000000) (disch := omega) only [go_sem, simprocAttr, List.append_eq, hy] | apply And.intro | omega | decide +kernel
    exact bool_some (by simp)
  ·rw [decide_eq_false hi]
   obtain ⟨n, ls, ar, cs⟩ := a
   dsimp only at *
   refine callsTo_of Tryz.func13 rfl (by decide +kernel) (Nat.le_of_ble_eq_true rfl) ?_
   intro hat B X w0
   repeat' first | refine pw_seq ?_ | refine pw_skip ?_ | refine pw_ret ?_ | refine pw_exit ?_ | refine pw_block ?_ | refine pw_region (fun _ => false) hmix ?_ | (refine rc (h1) rfl ?_ ?_; (· first | rfl | (simp (disch := omega) only [go_sem, simprocAttr, List.append_eq]; done))) | (refine wpG_split rfl rfl (fun hc => ?_) (fun hc => ?_) <;> try simp only [hcL, reduceCtorEq] at hc) | (refine pw_cond _ rfl rfl (fun hc => ?_) (fun hc => ?_) <;> (try simp only [hcL, reduceCtorEq] at hc) <;> try (exfalso; omega)) | simp (maxSteps := 1000000) (disch := omega) only [go_sem, simprocAttr, List.append_eq] | apply And.intro | omega | decide +kernel
   all_goals exact bool_some rfl
set_option maxHeartbeats 8000000 in
theorem Refine_spec (a : Lv) (hw : wide a) (har : a.2.2.1.length ≤ 700) : CallsTo Tryz.prog 15 [lvD a] (lvD (if validF a then refineF a else lv0)) := by
 have h1 := LvValid_spec a hw
 rcases hv : validF a with _ | _ <;> rw [hv] at h1
 ·rw [if_neg (by decide)]
  refine callsTo_of Tryz.func15 rfl (by decide +kernel) (Nat.le_of_ble_eq_true rfl) ?_
  intro hat B X w0
  repeat' first | refine pw_seq ?_ | refine pw_skip ?_ | refine pw_ret ?_ | refine pw_exit ?_ | refine pw_block ?_ | refine pw_region (fun _ => false) hmix ?_ | (refine rc (h1) rfl ?_ ?_; (· first | rfl | (simp (disch := omega) only [go_sem, simprocAttr]; done))) | (refine wpG_split rfl rfl (fun hc => ?_) (fun hc => ?_) <;> try simp only [hcL, reduceCtorEq] at hc) | (refine pw_cond _ rfl rfl (fun hc => ?_) (fun hc => ?_) <;> (try simp only [hcL, reduceCtorEq] at hc) <;> try (exfalso; omega)) | simp (maxSteps := 1000000) (disch := omega) only [go_sem, simprocAttr] | apply And.intro | omega | decide +kernel
  refine ⟨_, _, _, _, rfl, ?_⟩
  simp (maxSteps := 1000000) (disch := omega) only [go_sem, simprocAttr, toD]
  rfl
 ·rw [if_pos rfl]
  obtain ⟨t1, t2⟩ := lv_le hv
  have h2 := own_spec a hv
  have hK0 := Kin.refl hv hw
  have h3 : ∀ (b : Lv) (i : Nat), Kin a b → i < a.2.1.length → CallsTo Tryz.prog 34 [lvD b, .int i] (.tup [natsD (betF b i).1, .bool (betF b i).2]) := fun b i h hi => better_spec b i h.wd h.ok (by rw [h.arcs]; exact har) (by rw [h.len]; exact hi)
  have h4 : ∀ (b : Lv) (i : Nat), Kin a b → i < a.2.1.length → (betF b i).2 = true → CallsTo Tryz.prog 28 [lvD b, .int i, natsD (betF b i).1] (lvD (bestPut b i)) := fun b i h hi hb => by
   have hy := betF_yes hb
   have e : (betF b i).1 = (bestAll (orM b i)).1 := by rw [betF, if_neg hy.1]
   rw [e]
   exact arrange_spec b i _ h.wd h.ok (by rw [h.len]; exact hi) (orM_part b i)
  obtain ⟨M, hM⟩ : ∃ M, M = refMs a 0 := ⟨_, rfl⟩
  rw [refineF, ← hM]
  generalize hR : refN M a 0 = R
  obtain ⟨L, hL⟩ : ∃ L, L = a.2.1.length := ⟨_, rfl⟩
  rw [← hL] at h3 h4 t1
  refine callsTo_of Tryz.func15 rfl (by decide +kernel) (Nat.le_of_ble_eq_true rfl) ?_
  intro hat B X w0
  repeat' first | refine pw_seq ?_ | refine pw_skip ?_ | refine pw_ret ?_ | refine pw_exit ?_ | refine pw_block ?_ | refine pw_region (fun _ => false) hmix ?_ | (refine rc (h1) rfl ?_ ?_; (· first | rfl | (simp (disch := omega) only [go_sem, simprocAttr]; done))) | (refine rc (h2) rfl ?_ ?_; (· first | rfl | (simp (disch := omega) only [go_sem, simprocAttr]; done))) | (refine wpG_split rfl rfl (fun hc => ?_) (fun hc => ?_) <;> try simp only [hcL, reduceCtorEq] at hc) | (refine pw_cond _ rfl rfl (fun hc => ?_) (fun hc => ?_) <;> (try simp only [hcL, reduceCtorEq] at hc) <;> try (exfalso; omega)) | simp (maxSteps := 1000000) (disch := omega) only [go_sem, simprocAttr] | apply And.intro | omega | decide +kernel
  refine pw_loopI (κ := Nat × Lv × Nat) (fun (q : Nat × Lv × Nat) => match q with | (f, b, i) => Kin a b ∧ refMs b i ≤ f ∧ i ≤ L ∧ refN f b i = R) (fun (q : Nat × Lv × Nat) => match q with | (f, b, i) => [(1, .ptr 1 0 0 0), (2, .ptr 2 0 0 0), (3, .int i)]) (fun (q : Nat × Lv × Nat) => match q with | (f, b, i) => [(1, .cells [.int b.1, .d (listsD b.2.1), .d (arcsD b.2.2.1), .d (listsD b.2.2.2)]), (2, .cells [.int 0, .nilS, .nilS, .nilS])]) (fun (q : Nat × Lv × Nat) => match q with | (f, b, i) => f) (M, a, 0) ?_ ?_ ?_
  ·exact ⟨hK0, Nat.le_of_eq hM.symm, Nat.zero_le _, hR⟩
  ·exact eL [] _ _ (by refine ⟨?_, ?_⟩ <;> (repeat' first | exact List.forall_mem_nil _ | refine List.forall_mem_cons.2 ⟨(by first | rfl | (simp (disch := omega) only [go_sem, simprocAttr, inL]; first | done | omega | (congr 1; done))), ?_⟩); done)
  ·rintro ⟨f, b, i⟩ ⟨hK, hms, hi, hres⟩
   dsimp only at hK hms hi hres ⊢
   have hbl : b.2.1.length = L := by rw [hK.len, hL]
   rcases Nat.lt_or_ge i L with hlt | hge
   ·have hf : 0 < f := by
     have : refMs b i = (TotalF b).toNat * (b.2.1.length + 1) + (b.2.1.length - i) := rfl
     omega
    obtain ⟨f, rfl⟩ : ∃ g, f = g + 1 := ⟨f - 1, by omega⟩
    rw [refN, if_pos (by omega)] at hres
    have c1 := h3 b i hK hlt
    rcases hb : (betF b i).2 with _ | _
    ·rw [hb] at c1
     rw [hb, if_neg (by decide)] at hres
     have hs := ms_step (b := b) (i := i) (by omega)
     clear h3 h4
     obtain ⟨n, ls, ar, cs⟩ := b
     dsimp only at hbl hb c1 ⊢
     repeat' first | refine pw_seq ?_ | refine pw_skip ?_ | refine pw_ret ?_ | refine pw_exit ?_ | refine pw_block ?_ | refine pw_region (fun _ => false) hmix ?_ | (refine rc (c1) rfl ?_ ?_; (· first | rfl | (simp (disch := omega) only [go_sem, simprocAttr, hbl]; done))) | (refine wpG_split rfl rfl (fun hc => ?_) (fun hc => ?_) <;> try simp only [hcL, reduceCtorEq] at hc) | (refine pw_cond _ rfl rfl (fun hc => ?_) (fun hc => ?_) <;> (try simp only [hcL, reduceCtorEq] at hc) <;> try (exfalso; omega)) | simp (maxSteps := 1000000) (disch := omega) only [go_sem, simprocAttr, hbl] | apply And.intro | omega | decide +kernel
     refine ⟨(f, (n, ls, ar, cs), i + 1), ?_, eL [] _ _ (by refine ⟨?_, ?_⟩ <;> (repeat' first | exact List.forall_mem_nil _ | refine List.forall_mem_cons.2 ⟨(by first | rfl | (simp (disch := omega) only [go_sem, simprocAttr, inL, Int.natCast_add, Int.natCast_one]; first | done | omega | (congr 1; done))), ?_⟩); done), ?_⟩
     ·exact ⟨hK, by dsimp only; omega, hlt, hres⟩
     ·exact Nat.lt_succ_self _
    ·have c2 := h4 b i hK hlt hb
     rw [hb] at c1
     rw [hb, if_pos rfl] at hres
     have hs := ms_put hK (by omega) (betF_yes hb).2
     have hK2 := bet_kin hK (i := i) (by omega)
     clear h3 h4
     generalize bestPut b i = P at *
     obtain ⟨n, ls, ar, cs⟩ := b
     dsimp only at hbl hb c1 c2 ⊢
     repeat' first | refine pw_seq ?_ | refine pw_skip ?_ | refine pw_ret ?_ | refine pw_exit ?_ | refine pw_block ?_ | refine pw_region (fun _ => false) hmix ?_ | (refine rc (c1) rfl ?_ ?_; (· first | rfl | (simp (disch := omega) only [go_sem, simprocAttr, hbl]; done))) | (refine rc (c2) rfl ?_ ?_; (· first | rfl | (simp (disch := omega) only [go_sem, simprocAttr, hbl]; done))) | (refine wpG_split rfl rfl (fun hc => ?_) (fun hc => ?_) <;> try simp only [hcL, reduceCtorEq] at hc) | (refine pw_cond _ rfl rfl (fun hc => ?_) (fun hc => ?_) <;> (try simp only [hcL, reduceCtorEq] at hc) <;> try (exfalso; omega)) | simp (maxSteps := 1000000) (disch := omega) only [go_sem, simprocAttr, hbl] | apply And.intro | omega | decide +kernel
     refine ⟨(f, P, 0), ?_, eL [] _ _ (by refine ⟨?_, ?_⟩ <;> (repeat' first | exact List.forall_mem_nil _ | refine List.forall_mem_cons.2 ⟨(by first | rfl | (simp (disch := omega) only [go_sem, simprocAttr, inL]; first | done | omega | (congr 1; done))), ?_⟩); done), ?_⟩
     ·exact ⟨hK2, by dsimp only; omega, Nat.zero_le _, hres⟩
     ·exact Nat.lt_succ_self _
   ·rw [refN_end (by omega)] at hres
    subst hres
    obtain ⟨n, ls, ar, cs⟩ := b
    dsimp only at hbl ⊢
    repeat' first | refine pw_seq ?_ | refine pw_skip ?_ | refine pw_ret ?_ | refine pw_exit ?_ | refine pw_block ?_ | refine pw_region (fun _ => false) hmix ?_ | (refine wpG_split rfl rfl (fun hc => ?_) (fun hc => ?_) <;> try simp only [hcL, reduceCtorEq] at hc) | (refine pw_cond _ rfl rfl (fun hc => ?_) (fun hc => ?_) <;> (try simp only [hcL, reduceCtorEq] at hc) <;> try (exfalso; omega)) | simp (maxSteps := 1000000) (disch := omega) only [go_sem, simprocAttr, hbl] | apply And.intro | omega | decide +kernel
    refine ⟨_, _, _, _, rfl, ?_⟩
    simp (maxSteps := 1000000) (disch := omega) only [go_sem, simprocAttr, toD]
end Go.Proofs.YtldbcbclhpcofaaGreat
