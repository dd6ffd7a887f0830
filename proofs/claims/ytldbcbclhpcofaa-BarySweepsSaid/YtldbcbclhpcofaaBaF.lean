/- Barycenters: layers, sweeps, rounds, by the program and by the reference. -/
import Derived.Test.YtldbcbclhpcofaaBaD
set_option linter.unusedSimpArgs false
set_option linter.unusedVariables false
namespace Go.Proofs.Ytldbcbclhpcofaa
open Go Go.PS Go.Proofs
open Go.Stb
set_option maxRecDepth 100000
attribute [local irreducible] wpRun wpG CallsTo CallsM

set_option maxHeartbeats 8000000 in
theorem copied_spec (a : Lv) (h : validF a = true) : CallsTo Try.prog 35 [lvD a] (lvD a) := by
 obtain ⟨s1, s2, s3⟩ := lv_sizes h
 obtain ⟨t1, t2⟩ := lv_le h
 have hca := cloneA_spec a.2.2.1 (by omega)
 have hl1 : ∀ (k : Nat) x, a.2.1[k]? = some x → CallsTo Try.prog 45 [intsD x] (intsD x) := fun k x hx => cloneI_spec x (by have := tot_mem (List.mem_of_getElem? hx); omega)
 have hl2 : ∀ (k : Nat) x, a.2.2.2[k]? = some x → CallsTo Try.prog 45 [intsD x] (intsD x) := fun k x hx => cloneI_spec x (by have := s3 x (List.mem_of_getElem? hx); omega)
 obtain ⟨n, ls, ar, cs⟩ := a
 dsimp only at *
 refine callsTo_of Try.func35 rfl (by decide +kernel) (Nat.le_of_ble_eq_true rfl) ?_
 intro hat B X w0
 repeat' first | refine pw_seq ?_ | refine pw_skip ?_ | refine pw_ret ?_ | refine pw_exit ?_ | refine pw_block ?_ | refine pw_region (fun _ => false) hmix ?_ | (refine rc (hca) rfl ?_ ?_; (· first | rfl | (simp (disch := omega) only [go_sem, simprocAttr]; done))) | (refine wpG_split rfl rfl (fun hc => ?_) (fun hc => ?_) <;> try simp only [hcL, reduceCtorEq] at hc) | (refine pw_cond _ rfl rfl (fun hc => ?_) (fun hc => ?_) <;> (try simp only [hcL, reduceCtorEq] at hc) <;> try (exfalso; omega)) | simp (maxSteps := 1000000) (disch := omega) only [go_sem, simprocAttr] | apply And.intro | omega | decide +kernel
 refine pw_ent _ (ent_nilC 3 1 901 1 rfl rfl rfl) ?_
 refine pw_loopI (κ := Nat) (fun (k : Nat) => k ≤ ls.length) (fun (k : Nat) => [(1, .ptr 1 0 0 0), (2, .ptr 2 0 0 0), (3, .ptr 3 0 0 0), (15, .d (listsD ls)), (16, .int ls.length), (17, .int k)]) (fun (k : Nat) => [(1, .cells [.int n, .d (listsD ls), .d (arcsD ar), .d (listsD cs)]), (2, .cells [.int 0, .nilS, .nilS, .nilS]), (3, .cells [.int n, .ref 901 1 0 k k, .d (arcsD ar), .nilS]), (901, .row 1 ((ls.take k).map intsD))]) (fun (k : Nat) => ls.length - k) 0 ?_ ?_ ?_
 ·exact Nat.zero_le _
 ·exact eL [] _ _ (by refine ⟨?_, ?_⟩ <;> (repeat' first | exact List.forall_mem_nil _ | refine List.forall_mem_cons.2 ⟨(by first | rfl | (simp (disch := omega) only [go_sem, simprocAttr, inL, List.take_zero, List.map_nil]; first | done | omega | (congr 1; done))), ?_⟩); done)
 ·intro k hk
  have hlk : (ls.take k).length = k := by rw [List.length_take]; omega
  have htk : ((ls.take k).map intsD).take k = (ls.take k).map intsD := List.take_of_length_le (by rw [List.length_map, hlk]; exact Nat.le_refl _)
  rcases Nat.lt_or_ge k ls.length with hlt | hge
  ·obtain ⟨x, hx⟩ := get_some hlt
   have hc1 := hl1 k x hx
   have e1 := take_snoc hx
   repeat' first | refine pw_seq ?_ | refine pw_skip ?_ | refine pw_ret ?_ | refine pw_exit ?_ | refine pw_block ?_ | refine pw_region (fun _ => false) hmix ?_ | (refine rc (hc1) rfl ?_ ?_; (· first | rfl | (simp (disch := omega) only [go_sem, simprocAttr, hx, hlk, htk, roomy]; done))) | (refine wpG_split rfl rfl (fun hc => ?_) (fun hc => ?_) <;> try simp only [hcL, reduceCtorEq] at hc) | (refine pw_cond _ rfl rfl (fun hc => ?_) (fun hc => ?_) <;> (try simp only [hcL, reduceCtorEq] at hc) <;> try (exfalso; omega)) | simp (maxSteps := 1000000) (disch := omega) only [go_sem, simprocAttr, hx, hlk, htk, roomy] | exact fun d hd => by rw [List.mem_singleton.1 hd]; rfl | apply And.intro | omega | decide +kernel
   refine ⟨k + 1, ?_, eL [(901, 26)] _ _ (by refine ⟨?_, ?_⟩ <;> (repeat' first | exact List.forall_mem_nil _ | refine List.forall_mem_cons.2 ⟨(by first | rfl | (simp (disch := omega) only [go_sem, simprocAttr, inL, e1, htk, List.map_append, List.map_cons, List.map_nil]; first | done | omega | (congr 1; done))), ?_⟩); done), ?_⟩
   ·omega
   ·omega
  ·have : k = ls.length := by omega
   subst this
   try dsimp only
   rw [List.take_length]
   repeat' first | refine pw_seq ?_ | refine pw_skip ?_ | refine pw_ret ?_ | refine pw_exit ?_ | refine pw_block ?_ | refine pw_region (fun _ => false) hmix ?_ | (refine wpG_split rfl rfl (fun hc => ?_) (fun hc => ?_) <;> try simp only [hcL, reduceCtorEq] at hc) | (refine pw_cond _ rfl rfl (fun hc => ?_) (fun hc => ?_) <;> (try simp only [hcL, reduceCtorEq] at hc) <;> try (exfalso; omega)) | simp (maxSteps := 1000000) (disch := omega) only [go_sem, simprocAttr] | apply And.intro | omega | decide +kernel
   refine pw_ent _ (ent_nilC 3 3 902 1 rfl rfl rfl) ?_
   refine pw_loopI (κ := Nat) (fun (k : Nat) => k ≤ cs.length) (fun (k : Nat) => [(2, .ptr 2 0 0 0), (3, .ptr 3 0 0 0), (30, .d (listsD cs)), (31, .int cs.length), (32, .int k)]) (fun (k : Nat) => [(2, .cells [.int 0, .nilS, .nilS, .nilS]), (3, .cells [.int n, .ref 901 1 0 ls.length ls.length, .d (arcsD ar), .ref 902 1 0 k k]), (901, .row 1 (ls.map intsD)), (902, .row 1 ((cs.take k).map intsD))]) (fun (k : Nat) => cs.length - k) 0 ?_ ?_ ?_
   ·exact Nat.zero_le _
   ·exact eL [] _ _ (by refine ⟨?_, ?_⟩ <;> (repeat' first | exact List.forall_mem_nil _ | refine List.forall_mem_cons.2 ⟨(by first | rfl | (simp (disch := omega) only [go_sem, simprocAttr, inL, List.take_zero, List.map_nil]; first | done | omega | (congr 1; done))), ?_⟩); done)
   ·intro k hk
    have hlk : (cs.take k).length = k := by rw [List.length_take]; omega
    have htk : ((cs.take k).map intsD).take k = (cs.take k).map intsD := List.take_of_length_le (by rw [List.length_map, hlk]; exact Nat.le_refl _)
    rcases Nat.lt_or_ge k cs.length with hlt | hge
    ·obtain ⟨x, hx⟩ := get_some hlt
     have hc1 := hl2 k x hx
     have e1 := take_snoc hx
     repeat' first | refine pw_seq ?_ | refine pw_skip ?_ | refine pw_ret ?_ | refine pw_exit ?_ | refine pw_block ?_ | refine pw_region (fun _ => false) hmix ?_ | (refine rc (hc1) rfl ?_ ?_; (· first | rfl | (simp (disch := omega) only [go_sem, simprocAttr, hx, hlk, htk, roomy]; done))) | (refine wpG_split rfl rfl (fun hc => ?_) (fun hc => ?_) <;> try simp only [hcL, reduceCtorEq] at hc) | (refine pw_cond _ rfl rfl (fun hc => ?_) (fun hc => ?_) <;> (try simp only [hcL, reduceCtorEq] at hc) <;> try (exfalso; omega)) | simp (maxSteps := 1000000) (disch := omega) only [go_sem, simprocAttr, hx, hlk, htk, roomy] | exact fun d hd => by rw [List.mem_singleton.1 hd]; rfl | apply And.intro | omega | decide +kernel
     refine ⟨k + 1, ?_, eL [(902, 41)] _ _ (by refine ⟨?_, ?_⟩ <;> (repeat' first | exact List.forall_mem_nil _ | refine List.forall_mem_cons.2 ⟨(by first | rfl | (simp (disch := omega) only [go_sem, simprocAttr, inL, e1, htk, List.map_append, List.map_cons, List.map_nil]; first | done | omega | (congr 1; done))), ?_⟩); done), ?_⟩
     ·omega
     ·omega
    ·have : k = cs.length := by omega
     subst this
     try dsimp only
     rw [List.take_length]
     repeat' first | refine pw_seq ?_ | refine pw_skip ?_ | refine pw_ret ?_ | refine pw_exit ?_ | refine pw_block ?_ | refine pw_region (fun _ => false) hmix ?_ | (refine wpG_split rfl rfl (fun hc => ?_) (fun hc => ?_) <;> try simp only [hcL, reduceCtorEq] at hc) | (refine pw_cond _ rfl rfl (fun hc => ?_) (fun hc => ?_) <;> (try simp only [hcL, reduceCtorEq] at hc) <;> try (exfalso; omega)) | simp (maxSteps := 1000000) (disch := omega) only [go_sem, simprocAttr] | apply And.intro | omega | decide +kernel
     refine ⟨_, _, _, _, rfl, ?_⟩
     simp (maxSteps := 1000000) (disch := omega) only [go_sem, simprocAttr, toD, List.length_map, Nat.le_refl, List.drop_zero]
     rw [take_map_len, take_map_len]
set_option maxHeartbeats 8000000 in
theorem swept_spec (a : Lv) (hw : wide a) (hv : validF a = true) (har : a.2.2.1.length ≤ 700) : CallsTo Try.prog 37 [lvD a] (lvD (swB a)) := by
 obtain ⟨t1, t2⟩ := lv_le hv
 have hkd := dwnB_kin (Kin.refl hv hw)
 have hku := fun k hk => upB_kin (hkd (a.2.1.length - 1) (Nat.le_refl _)) k hk
 have h1 : ∀ k, k + 1 < a.2.1.length → CallsTo Try.prog 30 [lvD (dwnB a k), .int (k + 1 : Nat), .int k] (lvD (dwnB a (k + 1))) := fun k hk => by
  have hK := hkd k (by omega)
  exact ordered_spec (dwnB a k) (k + 1) k hK.wd hK.ok (by rw [hK.arcs]; exact har) (by rw [hK.len]; omega) (by rw [hK.len]; omega)
 have h2 : ∀ k, k + 1 < a.2.1.length → CallsTo Try.prog 30 [lvD (upB (dwnB a (a.2.1.length - 1)) a.2.1.length k), .int (a.2.1.length - 2 - k : Nat), .int (a.2.1.length - 1 - k : Nat)] (lvD (upB (dwnB a (a.2.1.length - 1)) a.2.1.length (k + 1))) := fun k hk => by
  have hK := hku k (by omega)
  exact ordered_spec _ (a.2.1.length - 2 - k) (a.2.1.length - 1 - k) hK.wd hK.ok (by rw [hK.arcs]; exact har) (by rw [hK.len]; omega) (by rw [hK.len]; omega)
 have hl1 : ∀ k, k ≤ a.2.1.length - 1 → (dwnB a k).2.1.length = a.2.1.length := fun k hk => (hkd k hk).len
 rw [swB]
 have hd0 : dwnB a 0 = a := rfl
 have hu0 : upB (dwnB a (a.2.1.length - 1)) a.2.1.length 0 = dwnB a (a.2.1.length - 1) := rfl
 clear hkd hku
 obtain ⟨N, hN⟩ : ∃ N, N = a.2.1.length := ⟨_, rfl⟩
 rw [← hN] at h1 h2 hl1 hu0 t1 ⊢
 generalize upB (dwnB a (N - 1)) N = U at *
 generalize dwnB a = W at *
 rw [← hd0] at hN
 rw [show a = W 0 from hd0.symm]
 clear hd0
 refine callsTo_of Try.func37 rfl (by decide +kernel) (Nat.le_of_ble_eq_true rfl) ?_
 intro hat B X w0
 repeat' first | refine pw_seq ?_ | refine pw_skip ?_ | refine pw_ret ?_ | refine pw_exit ?_ | refine pw_block ?_ | refine pw_region (fun _ => false) hmix ?_ | (refine wpG_split rfl rfl (fun hc => ?_) (fun hc => ?_) <;> try simp only [hcL, reduceCtorEq] at hc) | (refine pw_cond _ rfl rfl (fun hc => ?_) (fun hc => ?_) <;> (try simp only [hcL, reduceCtorEq] at hc) <;> try (exfalso; omega)) | simp (maxSteps := 1000000) (disch := omega) only [go_sem, simprocAttr] | apply And.intro | omega | decide +kernel
 refine pw_loopI (κ := Nat) (fun (k : Nat) => k ≤ N - 1) (fun (k : Nat) => [(1, .ptr 1 0 0 0), (2, .ptr 2 0 0 0), (3, .int (k + 1 : Nat))]) (fun (k : Nat) => [(1, .cells [.int (W k).1, .d (listsD (W k).2.1), .d (arcsD (W k).2.2.1), .d (listsD (W k).2.2.2)]), (2, .cells [.int 0, .nilS, .nilS, .nilS])]) (fun (k : Nat) => N - k) 0 ?_ ?_ ?_
 ·exact Nat.zero_le _
 ·exact eL [] _ _ (by refine ⟨?_, ?_⟩ <;> (repeat' first | exact List.forall_mem_nil _ | refine List.forall_mem_cons.2 ⟨(by first | rfl | (simp (disch := omega) only [go_sem, simprocAttr, inL, Nat.zero_add, Int.natCast_one]; first | done | omega | (congr 1; done))), ?_⟩); done)
 ·intro k hk
  have hl := hl1 k hk
  have e1 : ((k + 1 : Nat) : Int) - 1 = (k : Int) := by omega
  have e2 : ((k + 1 : Nat) : Int) + 1 = ((k + 1 + 1 : Nat) : Int) := by omega
  rcases Nat.lt_or_ge (k + 1) N with hlt | hge
  ·have c1 := h1 k hlt
   repeat' first | refine pw_seq ?_ | refine pw_skip ?_ | refine pw_ret ?_ | refine pw_exit ?_ | refine pw_block ?_ | refine pw_region (fun _ => false) hmix ?_ | (refine rc (c1) rfl ?_ ?_; (· first | rfl | (simp (disch := omega) only [go_sem, simprocAttr, hl, e1, e2]; done))) | (refine wpG_split rfl rfl (fun hc => ?_) (fun hc => ?_) <;> try simp only [hcL, reduceCtorEq] at hc) | (refine pw_cond _ rfl rfl (fun hc => ?_) (fun hc => ?_) <;> (try simp only [hcL, reduceCtorEq] at hc) <;> try (exfalso; omega)) | simp (maxSteps := 1000000) (disch := omega) only [go_sem, simprocAttr, hl, e1, e2] | apply And.intro | omega | decide +kernel
   refine ⟨k + 1, ?_, eL [] _ _ (by refine ⟨?_, ?_⟩ <;> (repeat' first | exact List.forall_mem_nil _ | refine List.forall_mem_cons.2 ⟨(by first | rfl | (simp (disch := omega) only [go_sem, simprocAttr, inL]; first | done | omega | (congr 1; done))), ?_⟩); done), ?_⟩
   ·omega
   ·omega
  ·have : k = N - 1 := by omega
   subst this
   rw [← hu0] at hl ⊢
   clear hu0 h1
   repeat' first | refine pw_seq ?_ | refine pw_skip ?_ | refine pw_ret ?_ | refine pw_exit ?_ | refine pw_block ?_ | refine pw_region (fun _ => false) hmix ?_ | (refine wpG_split rfl rfl (fun hc => ?_) (fun hc => ?_) <;> try simp only [hcL, reduceCtorEq] at hc) | (refine pw_cond _ rfl rfl (fun hc => ?_) (fun hc => ?_) <;> (try simp only [hcL, reduceCtorEq] at hc) <;> try (exfalso; omega)) | simp (maxSteps := 1000000) (disch := omega) only [go_sem, simprocAttr, hl] | apply And.intro | omega | decide +kernel
   refine pw_loopI (κ := Nat) (fun (k : Nat) => k ≤ N - 1) (fun (k : Nat) => [(1, .ptr 1 0 0 0), (2, .ptr 2 0 0 0), (4, .int ((N : Int) - 2 - k))]) (fun (k : Nat) => [(1, .cells [.int (U k).1, .d (listsD (U k).2.1), .d (arcsD (U k).2.2.1), .d (listsD (U k).2.2.2)]), (2, .cells [.int 0, .nilS, .nilS, .nilS])]) (fun (k : Nat) => N - k) 0 ?_ ?_ ?_
   ·exact Nat.zero_le _
   ·exact eL [] _ _ (by refine ⟨?_, ?_⟩ <;> (repeat' first | exact List.forall_mem_nil _ | refine List.forall_mem_cons.2 ⟨(by first | rfl | (simp (disch := omega) only [go_sem, simprocAttr, inL, Int.natCast_zero, Int.sub_zero]; first | done | omega | (congr 1; done))), ?_⟩); done)
   ·intro k hk
    rcases Nat.lt_or_ge (k + 1) N with hlt | hge
    ·have c1 := h2 k hlt
     have e3 : (N : Int) - 2 - k = ((N - 2 - k : Nat) : Int) := by omega
     have e4 : ((N - 2 - k : Nat) : Int) + 1 = ((N - 1 - k : Nat) : Int) := by omega
     have e5 : ((N - 2 - k : Nat) : Int) - 1 = (N : Int) - 2 - ((k + 1 : Nat) : Int) := by omega
     rw [e3]
     repeat' first | refine pw_seq ?_ | refine pw_skip ?_ | refine pw_ret ?_ | refine pw_exit ?_ | refine pw_block ?_ | refine pw_region (fun _ => false) hmix ?_ | (refine rc (c1) rfl ?_ ?_; (· first | rfl | (simp (disch := omega) only [go_sem, simprocAttr, e4, e5]; done))) | (refine wpG_split rfl rfl (fun hc => ?_) (fun hc => ?_) <;> try simp only [hcL, reduceCtorEq] at hc) | (refine pw_cond _ rfl rfl (fun hc => ?_) (fun hc => ?_) <;> (try simp only [hcL, reduceCtorEq] at hc) <;> try (exfalso; omega)) | simp (maxSteps := 1000000) (disch := omega) only [go_sem, simprocAttr, e4, e5] | apply And.intro | omega | decide +kernel
     refine ⟨k + 1, ?_, eL [] _ _ (by refine ⟨?_, ?_⟩ <;> (repeat' first | exact List.forall_mem_nil _ | refine List.forall_mem_cons.2 ⟨(by first | rfl | (simp (disch := omega) only [go_sem, simprocAttr, inL]; first | done | omega | (congr 1; done))), ?_⟩); done), ?_⟩
     ·omega
     ·omega
    ·have : k = N - 1 := by omega
     subst this
     repeat' first | refine pw_seq ?_ | refine pw_skip ?_ | refine pw_ret ?_ | refine pw_exit ?_ | refine pw_block ?_ | refine pw_region (fun _ => false) hmix ?_ | (refine wpG_split rfl rfl (fun hc => ?_) (fun hc => ?_) <;> try simp only [hcL, reduceCtorEq] at hc) | (refine pw_cond _ rfl rfl (fun hc => ?_) (fun hc => ?_) <;> (try simp only [hcL, reduceCtorEq] at hc) <;> try (exfalso; omega)) | simp (maxSteps := 1000000) (disch := omega) only [go_sem, simprocAttr] | apply And.intro | omega | decide +kernel
     refine ⟨_, _, _, _, rfl, ?_⟩
     simp (maxSteps := 1000000) (disch := omega) only [go_sem, simprocAttr, toD]
theorem bSweep_spec (a : Lv) (hw : wide a) (har : a.2.2.1.length ≤ 700) : CallsTo Try.prog 20 [lvD a] (lvD (swpF a)) := by
 have h1 := LvValid_spec a hw
 rw [swpF]
 rcases hv : validF a with _ | _ <;> rw [hv] at h1
 ·rw [if_neg (by decide)]
  refine callsTo_of Try.func20 rfl (by decide +kernel) (Nat.le_of_ble_eq_true rfl) ?_
  intro hat B X w0
  repeat' first | refine pw_seq ?_ | refine pw_skip ?_ | refine pw_ret ?_ | refine pw_exit ?_ | refine pw_block ?_ | refine pw_region (fun _ => false) hmix ?_ | (refine rc (h1) rfl ?_ ?_; (· first | rfl | (simp (disch := omega) only [go_sem, simprocAttr]; done))) | (refine wpG_split rfl rfl (fun hc => ?_) (fun hc => ?_) <;> try simp only [hcL, reduceCtorEq] at hc) | (refine pw_cond _ rfl rfl (fun hc => ?_) (fun hc => ?_) <;> (try simp only [hcL, reduceCtorEq] at hc) <;> try (exfalso; omega)) | simp (maxSteps := 1000000) (disch := omega) only [go_sem, simprocAttr] | apply And.intro | omega | decide +kernel
  refine ⟨_, _, _, _, rfl, ?_⟩
  simp (maxSteps := 1000000) (disch := omega) only [go_sem, simprocAttr, toD]
  rfl
 ·rw [if_pos rfl]
  have h2 := copied_spec a hv
  have h3 := swept_spec a hw hv har
  generalize swB a = P at *
  obtain ⟨n', ls', ar', cs'⟩ := P
  refine callsTo_of Try.func20 rfl (by decide +kernel) (Nat.le_of_ble_eq_true rfl) ?_
  intro hat B X w0
  repeat' first | refine pw_seq ?_ | refine pw_skip ?_ | refine pw_ret ?_ | refine pw_exit ?_ | refine pw_block ?_ | refine pw_region (fun _ => false) hmix ?_ | (refine rc (h1) rfl ?_ ?_; (· first | rfl | (simp (disch := omega) only [go_sem, simprocAttr]; done))) | (refine rc (h2) rfl ?_ ?_; (· first | rfl | (simp (disch := omega) only [go_sem, simprocAttr]; done))) | (refine rc (h3) rfl ?_ ?_; (· first | rfl | (simp (disch := omega) only [go_sem, simprocAttr]; done))) | (refine wpG_split rfl rfl (fun hc => ?_) (fun hc => ?_) <;> try simp only [hcL, reduceCtorEq] at hc) | (refine pw_cond _ rfl rfl (fun hc => ?_) (fun hc => ?_) <;> (try simp only [hcL, reduceCtorEq] at hc) <;> try (exfalso; omega)) | simp (maxSteps := 1000000) (disch := omega) only [go_sem, simprocAttr] | apply And.intro | omega | decide +kernel
  refine ⟨_, _, _, _, rfl, ?_⟩
  simp (maxSteps := 1000000) (disch := omega) only [go_sem, simprocAttr, toD]
theorem rnd_eq (r : Int) : (if (100 : Int) < (if r < 0 then 0 else r) then (100 : Int) else (if r < 0 then 0 else r)) = (rndB r : Int) := by
 rw [rndB]; split <;> split <;> omega
set_option maxHeartbeats 8000000 in
theorem bRun_spec (a : Lv) (r : Int) (hw : wide a) (har : a.2.2.1.length ≤ 700) : CallsTo Try.prog 16 [lvD a, .int r] (.tup [lvD (brnF a r).1, .int (brnF a r).2]) := by
 have h1 := LvValid_spec a hw
 rw [brnF]
 rcases hv : validF a with _ | _ <;> rw [hv] at h1
 ·rw [if_neg (by decide)]
  refine callsTo_of Try.func16 rfl (by decide +kernel) (Nat.le_of_ble_eq_true rfl) ?_
  intro hat B X w0
  repeat' first | refine pw_seq ?_ | refine pw_skip ?_ | refine pw_ret ?_ | refine pw_exit ?_ | refine pw_block ?_ | refine pw_region (fun _ => false) hmix ?_ | (refine rc (h1) rfl ?_ ?_; (· first | rfl | (simp (disch := omega) only [go_sem, simprocAttr]; done))) | (refine wpG_split rfl rfl (fun hc => ?_) (fun hc => ?_) <;> try simp only [hcL, reduceCtorEq] at hc) | (refine pw_cond _ rfl rfl (fun hc => ?_) (fun hc => ?_) <;> (try simp only [hcL, reduceCtorEq] at hc) <;> try (exfalso; omega)) | simp (maxSteps := 1000000) (disch := omega) only [go_sem, simprocAttr] | apply And.intro | omega | decide +kernel
  refine ⟨_, rfl, ⟨_, _, _, _, rfl, ?_⟩, int_some rfl, trivial⟩
  simp (maxSteps := 1000000) (disch := omega) only [go_sem, simprocAttr, toD]
  rfl
 ·rw [if_pos rfl]
  obtain ⟨t1, t2⟩ := lv_le hv
  have h2 := copied_spec a hv
  have hk := nowB_kin hv hw
  have h3 : ∀ k, CallsTo Try.prog 37 [lvD (nowB a k)] (lvD (nowB a (k + 1))) := fun k => swept_spec _ (hk k).wd (hk k).ok (by rw [(hk k).arcs]; exact har)
  have h4 : ∀ k, CallsTo Try.prog 36 [lvD (nowB a k)] (.int (TotalF (nowB a k))) := fun k => Total_spec _ (hk k).wd (by rw [(hk k).len]; omega)
  have hbs : ∀ k, bstB a (k + 1) = if TotalF (nowB a (k + 1)) < TotalF (bstB a k) then nowB a (k + 1) else bstB a k := fun _ => rfl
  have hb0 : bstB a 0 = nowB a 0 := rfl
  have hn0 : nowB a 0 = a := rfl
  have hre := rnd_eq r
  have hr100 : rndB r ≤ 100 := by rw [rndB]; omega
  dsimp only
  generalize rndB r = R at *
  rw [← hn0] at h1 h2
  rw [show a = nowB a 0 from rfl]
  rw [show bstB (nowB a 0) = bstB a from rfl]
  clear hk hn0
  generalize nowB a = W at *
  generalize bstB a = Bs at *
  refine callsTo_of Try.func16 rfl (by decide +kernel) (Nat.le_of_ble_eq_true rfl) ?_
  intro hat B X w0
  have h40 := h4 0
  repeat' first | refine pw_seq ?_ | refine pw_skip ?_ | refine pw_ret ?_ | refine pw_exit ?_ | refine pw_block ?_ | refine pw_region (fun _ => false) hmix ?_ | (refine rc (h1) rfl ?_ ?_; (· first | rfl | (simp (disch := omega) only [go_sem, simprocAttr, hre]; done))) | (refine rc (h2) rfl ?_ ?_; (· first | rfl | (simp (disch := omega) only [go_sem, simprocAttr, hre]; done))) | (refine rc (h40) rfl ?_ ?_; (· first | rfl | (simp (disch := omega) only [go_sem, simprocAttr, hre]; done))) | (refine wpG_split rfl rfl (fun hc => ?_) (fun hc => ?_) <;> try simp only [hcL, reduceCtorEq] at hc) | (refine pw_cond _ rfl rfl (fun hc => ?_) (fun hc => ?_) <;> (try simp only [hcL, reduceCtorEq] at hc) <;> try (exfalso; omega)) | simp (maxSteps := 1000000) (disch := omega) only [go_sem, simprocAttr, hre] | apply And.intro | omega | decide +kernel
  refine pw_loopI (κ := Nat) (fun (k : Nat) => k ≤ R) (fun (k : Nat) => [(2, .ptr 2 0 0 0), (4, .ptr 4 0 0 0), (6, .ptr 6 0 0 0), (7, .int (TotalF (Bs k))), (20, .int R), (21, .int k)]) (fun (k : Nat) => [(2, .cells [.int (W k).1, .d (listsD (W k).2.1), .d (arcsD (W k).2.2.1), .d (listsD (W k).2.2.2)]), (4, .cells [.int 0, .nilS, .nilS, .nilS]), (6, .cells [.int (Bs k).1, .d (listsD (Bs k).2.1), .d (arcsD (Bs k).2.2.1), .d (listsD (Bs k).2.2.2)])]) (fun (k : Nat) => R - k) 0 ?_ ?_ ?_
  ·exact Nat.zero_le _
  ·exact eL [] _ _ (by refine ⟨?_, ?_⟩ <;> (repeat' first | exact List.forall_mem_nil _ | refine List.forall_mem_cons.2 ⟨(by first | rfl | (simp (disch := omega) only [go_sem, simprocAttr, inL, hb0]; first | done | omega | (congr 1; done))), ?_⟩); done)
  ·intro k hk
   rcases Nat.lt_or_ge k R with hlt | hge
   ·have c1 := h3 k
    have c2 := h4 (k + 1)
    have e1 := hbs k
    by_cases c : TotalF (W (k + 1)) < TotalF (Bs k)
    ·rw [if_pos c] at e1
     repeat' first | refine pw_seq ?_ | refine pw_skip ?_ | refine pw_ret ?_ | refine pw_exit ?_ | refine pw_block ?_ | refine pw_region (fun _ => false) hmix ?_ | (refine rc (c1) rfl ?_ ?_; (· first | rfl | (simp (disch := omega) only [go_sem, simprocAttr, c]; done))) | (refine rc (c2) rfl ?_ ?_; (· first | rfl | (simp (disch := omega) only [go_sem, simprocAttr, c]; done))) | (refine wpG_split rfl rfl (fun hc => ?_) (fun hc => ?_) <;> try simp only [hcL, reduceCtorEq] at hc) | (refine pw_cond _ rfl rfl (fun hc => ?_) (fun hc => ?_) <;> (try simp only [hcL, reduceCtorEq] at hc) <;> try (exfalso; omega)) | simp (maxSteps := 1000000) (disch := omega) only [go_sem, simprocAttr, c] | apply And.intro | omega | decide +kernel
     refine ⟨k + 1, ?_, eL [] _ _ (by refine ⟨?_, ?_⟩ <;> (repeat' first | exact List.forall_mem_nil _ | refine List.forall_mem_cons.2 ⟨(by first | rfl | (simp (disch := omega) only [go_sem, simprocAttr, inL, e1]; first | done | omega | (congr 1; done))), ?_⟩); done), ?_⟩
     ·omega
     ·omega
    ·rw [if_neg c] at e1
     repeat' first | refine pw_seq ?_ | refine pw_skip ?_ | refine pw_ret ?_ | refine pw_exit ?_ | refine pw_block ?_ | refine pw_region (fun _ => false) hmix ?_ | (refine rc (c1) rfl ?_ ?_; (· first | rfl | (simp (disch := omega) only [go_sem, simprocAttr, c]; done))) | (refine rc (c2) rfl ?_ ?_; (· first | rfl | (simp (disch := omega) only [go_sem, simprocAttr, c]; done))) | (refine wpG_split rfl rfl (fun hc => ?_) (fun hc => ?_) <;> try simp only [hcL, reduceCtorEq] at hc) | (refine pw_cond _ rfl rfl (fun hc => ?_) (fun hc => ?_) <;> (try simp only [hcL, reduceCtorEq] at hc) <;> try (exfalso; omega)) | simp (maxSteps := 1000000) (disch := omega) only [go_sem, simprocAttr, c] | apply And.intro | omega | decide +kernel
     refine ⟨k + 1, ?_, eL [] _ _ (by refine ⟨?_, ?_⟩ <;> (repeat' first | exact List.forall_mem_nil _ | refine List.forall_mem_cons.2 ⟨(by first | rfl | (simp (disch := omega) only [go_sem, simprocAttr, inL, e1]; first | done | omega | (congr 1; done))), ?_⟩); done), ?_⟩
     ·omega
     ·omega
   ·have : k = R := by omega
    subst this
    repeat' first | refine pw_seq ?_ | refine pw_skip ?_ | refine pw_ret ?_ | refine pw_exit ?_ | refine pw_block ?_ | refine pw_region (fun _ => false) hmix ?_ | (refine wpG_split rfl rfl (fun hc => ?_) (fun hc => ?_) <;> try simp only [hcL, reduceCtorEq] at hc) | (refine pw_cond _ rfl rfl (fun hc => ?_) (fun hc => ?_) <;> (try simp only [hcL, reduceCtorEq] at hc) <;> try (exfalso; omega)) | simp (maxSteps := 1000000) (disch := omega) only [go_sem, simprocAttr] | apply And.intro | omega | decide +kernel
    refine ⟨_, rfl, ⟨_, _, _, _, rfl, ?_⟩, int_some rfl, trivial⟩
    simp (maxSteps := 1000000) (disch := omega) only [go_sem, simprocAttr, toD]
/-! The reference. -/
set_option maxHeartbeats 8000000 in
theorem rLayerB_spec (a : Lv) (i f : Int) (hw : wide a) (har : a.2.2.1.length ≤ 700) : CallsTo Try.prog 14 [lvD a, .int i, .int f] (lvD (barF a i f)) := by
 have h1 := rLvValid_spec a hw
 rw [← valid_same] at h1
 rw [barF]
 rcases hm : matOk a i f with _ | _
 ·rw [if_neg (by decide)]
  rw [matOk] at hm
  rcases hv : validF a with _ | _ <;> rw [hv] at h1 hm
  ·refine callsTo_of Try.func14 rfl (by decide +kernel) (Nat.le_of_ble_eq_true rfl) ?_
   intro hat B X w0
   repeat' first | refine pw_seq ?_ | refine pw_skip ?_ | refine pw_ret ?_ | refine pw_exit ?_ | refine pw_block ?_ | refine pw_region (fun _ => false) hmix ?_ | (refine rc (h1) rfl ?_ ?_; (· first | rfl | (simp (disch := omega) only [go_sem, simprocAttr, List.append_eq]; done))) | (refine wpG_split rfl rfl (fun hc => ?_) (fun hc => ?_) <;> try simp only [hcL, reduceCtorEq] at hc) | (refine pw_cond _ rfl rfl (fun hc => ?_) (fun hc => ?_) <;> (try simp only [hcL, reduceCtorEq] at hc) <;> try (exfalso; omega)) | simp (maxSteps := 1000000) (disch := omega) only [go_sem, simprocAttr, List.append_eq] | apply And.intro | omega | decide +kernel
   refine ⟨_, _, _, _, rfl, ?_⟩
   simp (maxSteps := 1000000) (disch := omega) only [go_sem, simprocAttr, toD]
   rfl
  ·obtain ⟨t1, t2⟩ := lv_le hv
   have hn : ¬ (((0 ≤ i ∧ i < a.2.1.length) ∧ (0 ≤ f ∧ f < a.2.1.length)) ∧ (f = i - 1 ∨ f = i + 1)) := by simpa [and_assoc] using hm
   obtain ⟨n, ls, ar, cs⟩ := a
   dsimp only at t1 t2 hn
   refine callsTo_of Try.func14 rfl (by decide +kernel) (Nat.le_of_ble_eq_true rfl) ?_
   intro hat B X w0
   repeat' first | refine pw_seq ?_ | refine pw_skip ?_ | refine pw_ret ?_ | refine pw_exit ?_ | refine pw_block ?_ | refine pw_region (fun _ => false) hmix ?_ | (refine rc (h1) rfl ?_ ?_; (· first | rfl | (simp (disch := omega) only [go_sem, simprocAttr, List.append_eq]; done))) | (refine wpG_split rfl rfl (fun hc => ?_) (fun hc => ?_) <;> try simp only [hcL, reduceCtorEq] at hc) | (refine pw_cond _ rfl rfl (fun hc => ?_) (fun hc => ?_) <;> (try simp only [hcL, reduceCtorEq] at hc) <;> try (exfalso; omega)) | simp (maxSteps := 1000000) (disch := omega) only [go_sem, simprocAttr, List.append_eq] | apply And.intro | omega | decide +kernel
   all_goals
    refine ⟨_, _, _, _, rfl, ?_⟩
    simp (maxSteps := 1000000) (disch := omega) only [go_sem, simprocAttr, toD]
    rfl
 ·rw [if_pos rfl]
  obtain ⟨hv, hi, hf, hif⟩ := matOk_in hm
  rw [hv] at h1
  obtain ⟨t1, t2⟩ := lv_le hv
  obtain ⟨i, rfl⟩ : ∃ n : Nat, i = n := ⟨i.toNat, by omega⟩
  obtain ⟨f, rfl⟩ : ∃ n : Nat, f = n := ⟨f.toNat, by omega⟩
  rw [Int.toNat_natCast, Int.toNat_natCast]
  obtain ⟨y, hy⟩ := get_some (l := a.2.1) (k := i) (by omega)
  obtain ⟨z, hz⟩ := get_some (l := a.2.1) (k := f) (by omega)
  have hyl := tot_mem (List.mem_of_getElem? hy)
  have h2 := rorder_spec a i f hv har y z hy hz
  have h3 := rReorder_spec a i (ordB y z a.2.2.1) hw (by rw [ordB_len]; omega)
  rw [reorder_perm hv hy (ordB_perm (layer_nodup hv hy) z a.2.2.1)] at h3
  have hlay : layB a i f = putL a i (ordB y z a.2.2.1) := by rw [layB, lstN_at hy, lstN_at hz]
  rw [← hlay] at h3
  generalize layB a i f = P at *
  obtain ⟨n', ls', ar', cs'⟩ := P
  clear hlay
  generalize ordB y z a.2.2.1 = O at *
  obtain ⟨n, ls, ar, cs⟩ := a
  dsimp only at *
  refine callsTo_of Try.func14 rfl (by decide +kernel) (Nat.le_of_ble_eq_true rfl) ?_
  intro hat B X w0
  repeat' first | refine pw_seq ?_ | refine pw_skip ?_ | refine pw_ret ?_ | refine pw_exit ?_ | refine pw_block ?_ | refine pw_region (fun _ => false) hmix ?_ | (refine rc (h1) rfl ?_ ?_; (· first | rfl | (simp (disch := omega) only [go_sem, simprocAttr, List.append_eq]; done))) | (refine rc (h2) rfl ?_ ?_; (· first | rfl | (simp (disch := omega) only [go_sem, simprocAttr, List.append_eq]; done))) | (refine rc (h3) rfl ?_ ?_; (· first | rfl | (simp (disch := omega) only [go_sem, simprocAttr, List.append_eq]; done))) | (refine wpG_split rfl rfl (fun hc => ?_) (fun hc => ?_) <;> try simp only [hcL, reduceCtorEq] at hc) | (refine pw_cond _ rfl rfl (fun hc => ?_) (fun hc => ?_) <;> (try simp only [hcL, reduceCtorEq] at hc) <;> try (exfalso; omega)) | simp (maxSteps := 1000000) (disch := omega) only [go_sem, simprocAttr, List.append_eq] | apply And.intro | omega | decide +kernel
  all_goals
   refine ⟨_, _, _, _, rfl, ?_⟩
   simp (maxSteps := 1000000) (disch := omega) only [go_sem, simprocAttr, toD]
theorem rLayerB_nat {a : Lv} {i f : Nat} (hw : wide a) (hv : validF a = true) (har : a.2.2.1.length ≤ 700) (hi : i < a.2.1.length) (hf : f < a.2.1.length) (h : f + 1 = i ∨ f = i + 1) :
  CallsTo Try.prog 14 [lvD a, .int i, .int f] (lvD (layB a i f)) := by
 have h1 := rLayerB_spec a i f hw har
 have hm : matOk a i f = true := by
  simp only [matOk, hv, Bool.true_and, Bool.and_eq_true, decide_eq_true_eq]
  omega
 rw [barF, if_pos hm] at h1
 exact h1
set_option maxHeartbeats 8000000 in
theorem rSweep_spec (a : Lv) (hw : wide a) (har : a.2.2.1.length ≤ 700) : CallsTo Try.prog 21 [lvD a] (lvD (swpF a)) := by
 have h0 := rLvValid_spec a hw
 rw [← valid_same] at h0
 rw [swpF]
 rcases hv : validF a with _ | _ <;> rw [hv] at h0
 ·rw [if_neg (by decide)]
  refine callsTo_of Try.func21 rfl (by decide +kernel) (Nat.le_of_ble_eq_true rfl) ?_
  intro hat B X w0
  repeat' first | refine pw_seq ?_ | refine pw_skip ?_ | refine pw_ret ?_ | refine pw_exit ?_ | refine pw_block ?_ | refine pw_region (fun _ => false) hmix ?_ | (refine rc (h0) rfl ?_ ?_; (· first | rfl | (simp (disch := omega) only [go_sem, simprocAttr]; done))) | (refine wpG_split rfl rfl (fun hc => ?_) (fun hc => ?_) <;> try simp only [hcL, reduceCtorEq] at hc) | (refine pw_cond _ rfl rfl (fun hc => ?_) (fun hc => ?_) <;> (try simp only [hcL, reduceCtorEq] at hc) <;> try (exfalso; omega)) | simp (maxSteps := 1000000) (disch := omega) only [go_sem, simprocAttr] | apply And.intro | omega | decide +kernel
  refine ⟨_, _, _, _, rfl, ?_⟩
  simp (maxSteps := 1000000) (disch := omega) only [go_sem, simprocAttr, toD]
  rfl
 ·rw [if_pos rfl]
  obtain ⟨t1, t2⟩ := lv_le hv
  have hkd := dwnB_kin (Kin.refl hv hw)
  have hku := fun k hk => upB_kin (hkd (a.2.1.length - 1) (Nat.le_refl _)) k hk
  have h1 : ∀ k, k + 1 < a.2.1.length → CallsTo Try.prog 14 [lvD (dwnB a k), .int (k + 1 : Nat), .int k] (lvD (dwnB a (k + 1))) := fun k hk => by
   have hK := hkd k (by omega)
   exact rLayerB_nat hK.wd hK.ok (by rw [hK.arcs]; exact har) (by rw [hK.len]; omega) (by rw [hK.len]; omega) (.inl rfl)
  have h2 : ∀ k, k + 1 < a.2.1.length → CallsTo Try.prog 14 [lvD (upB (dwnB a (a.2.1.length - 1)) a.2.1.length k), .int (a.2.1.length - 2 - k : Nat), .int (a.2.1.length - 1 - k : Nat)] (lvD (upB (dwnB a (a.2.1.length - 1)) a.2.1.length (k + 1))) := fun k hk => by
   have hK := hku k (by omega)
   exact rLayerB_nat hK.wd hK.ok (by rw [hK.arcs]; exact har) (by rw [hK.len]; omega) (by rw [hK.len]; omega) (.inr (by omega))
  rw [swB]
  have hd0 : dwnB a 0 = a := rfl
  have hu0 : upB (dwnB a (a.2.1.length - 1)) a.2.1.length 0 = dwnB a (a.2.1.length - 1) := rfl
  clear hkd hku
  generalize upB (dwnB a (a.2.1.length - 1)) a.2.1.length = U at *
  generalize dwnB a = W at *
  obtain ⟨n, ls, ar, cs⟩ := a
  dsimp only at *
  refine callsTo_of Try.func21 rfl (by decide +kernel) (Nat.le_of_ble_eq_true rfl) ?_
  intro hat B X w0
  repeat' first | refine pw_seq ?_ | refine pw_skip ?_ | refine pw_ret ?_ | refine pw_exit ?_ | refine pw_block ?_ | refine pw_region (fun _ => false) hmix ?_ | (refine rc (h0) rfl ?_ ?_; (· first | rfl | (simp (disch := omega) only [go_sem, simprocAttr]; done))) | (refine wpG_split rfl rfl (fun hc => ?_) (fun hc => ?_) <;> try simp only [hcL, reduceCtorEq] at hc) | (refine pw_cond _ rfl rfl (fun hc => ?_) (fun hc => ?_) <;> (try simp only [hcL, reduceCtorEq] at hc) <;> try (exfalso; omega)) | simp (maxSteps := 1000000) (disch := omega) only [go_sem, simprocAttr] | apply And.intro | omega | decide +kernel
  refine pw_loopI (κ := Nat) (fun (k : Nat) => k ≤ ls.length - 1) (fun (k : Nat) => [(1, .ptr 1 0 0 0), (2, .ptr 2 0 0 0), (3, .ptr 3 0 0 0), (4, .int (k + 1 : Nat))]) (fun (k : Nat) => [(1, .cells [.int n, .d (listsD ls), .d (arcsD ar), .d (listsD cs)]), (2, .cells [.int 0, .nilS, .nilS, .nilS]), (3, .cells [.int (W k).1, .d (listsD (W k).2.1), .d (arcsD (W k).2.2.1), .d (listsD (W k).2.2.2)])]) (fun (k : Nat) => ls.length - k) 0 ?_ ?_ ?_
  ·exact Nat.zero_le _
  ·exact eL [] _ _ (by refine ⟨?_, ?_⟩ <;> (repeat' first | exact List.forall_mem_nil _ | refine List.forall_mem_cons.2 ⟨(by first | rfl | (simp (disch := omega) only [go_sem, simprocAttr, inL, Nat.zero_add, Int.natCast_one, hd0]; first | done | omega | (congr 1; done))), ?_⟩); done)
  ·intro k hk
   have e1 : ((k + 1 : Nat) : Int) - 1 = (k : Int) := by omega
   have e2 : ((k + 1 : Nat) : Int) + 1 = ((k + 1 + 1 : Nat) : Int) := by omega
   rcases Nat.lt_or_ge (k + 1) ls.length with hlt | hge
   ·have c1 := h1 k hlt
    repeat' first | refine pw_seq ?_ | refine pw_skip ?_ | refine pw_ret ?_ | refine pw_exit ?_ | refine pw_block ?_ | refine pw_region (fun _ => false) hmix ?_ | (refine rc (c1) rfl ?_ ?_; (· first | rfl | (simp (disch := omega) only [go_sem, simprocAttr, e1, e2]; done))) | (refine wpG_split rfl rfl (fun hc => ?_) (fun hc => ?_) <;> try simp only [hcL, reduceCtorEq] at hc) | (refine pw_cond _ rfl rfl (fun hc => ?_) (fun hc => ?_) <;> (try simp only [hcL, reduceCtorEq] at hc) <;> try (exfalso; omega)) | simp (maxSteps := 1000000) (disch := omega) only [go_sem, simprocAttr, e1, e2] | apply And.intro | omega | decide +kernel
    refine ⟨k + 1, ?_, eL [] _ _ (by refine ⟨?_, ?_⟩ <;> (repeat' first | exact List.forall_mem_nil _ | refine List.forall_mem_cons.2 ⟨(by first | rfl | (simp (disch := omega) only [go_sem, simprocAttr, inL]; first | done | omega | (congr 1; done))), ?_⟩); done), ?_⟩
    ·omega
    ·omega
   ·have : k = ls.length - 1 := by omega
    subst this
    rw [← hu0]
    clear hu0 h1
    repeat' first | refine pw_seq ?_ | refine pw_skip ?_ | refine pw_ret ?_ | refine pw_exit ?_ | refine pw_block ?_ | refine pw_region (fun _ => false) hmix ?_ | (refine wpG_split rfl rfl (fun hc => ?_) (fun hc => ?_) <;> try simp only [hcL, reduceCtorEq] at hc) | (refine pw_cond _ rfl rfl (fun hc => ?_) (fun hc => ?_) <;> (try simp only [hcL, reduceCtorEq] at hc) <;> try (exfalso; omega)) | simp (maxSteps := 1000000) (disch := omega) only [go_sem, simprocAttr] | apply And.intro | omega | decide +kernel
    refine pw_loopI (κ := Nat) (fun (k : Nat) => k ≤ ls.length - 1) (fun (k : Nat) => [(2, .ptr 2 0 0 0), (3, .ptr 3 0 0 0), (5, .int ((ls.length : Int) - 2 - k))]) (fun (k : Nat) => [(2, .cells [.int 0, .nilS, .nilS, .nilS]), (3, .cells [.int (U k).1, .d (listsD (U k).2.1), .d (arcsD (U k).2.2.1), .d (listsD (U k).2.2.2)])]) (fun (k : Nat) => ls.length - k) 0 ?_ ?_ ?_
    ·exact Nat.zero_le _
    ·exact eL [] _ _ (by refine ⟨?_, ?_⟩ <;> (repeat' first | exact List.forall_mem_nil _ | refine List.forall_mem_cons.2 ⟨(by first | rfl | (simp (disch := omega) only [go_sem, simprocAttr, inL, Int.natCast_zero, Int.sub_zero]; first | done | omega | (congr 1; done))), ?_⟩); done)
    ·intro k hk
     rcases Nat.lt_or_ge (k + 1) ls.length with hlt | hge
     ·have c1 := h2 k hlt
      have e3 : (ls.length : Int) - 2 - k = ((ls.length - 2 - k : Nat) : Int) := by omega
      have e4 : ((ls.length - 2 - k : Nat) : Int) + 1 = ((ls.length - 1 - k : Nat) : Int) := by omega
      have e5 : ((ls.length - 2 - k : Nat) : Int) - 1 = (ls.length : Int) - 2 - ((k + 1 : Nat) : Int) := by omega
      rw [e3]
      repeat' first | refine pw_seq ?_ | refine pw_skip ?_ | refine pw_ret ?_ | refine pw_exit ?_ | refine pw_block ?_ | refine pw_region (fun _ => false) hmix ?_ | (refine rc (c1) rfl ?_ ?_; (· first | rfl | (simp (disch := omega) only [go_sem, simprocAttr, e4, e5]; done))) | (refine wpG_split rfl rfl (fun hc => ?_) (fun hc => ?_) <;> try simp only [hcL, reduceCtorEq] at hc) | (refine pw_cond _ rfl rfl (fun hc => ?_) (fun hc => ?_) <;> (try simp only [hcL, reduceCtorEq] at hc) <;> try (exfalso; omega)) | simp (maxSteps := 1000000) (disch := omega) only [go_sem, simprocAttr, e4, e5] | apply And.intro | omega | decide +kernel
      refine ⟨k + 1, ?_, eL [] _ _ (by refine ⟨?_, ?_⟩ <;> (repeat' first | exact List.forall_mem_nil _ | refine List.forall_mem_cons.2 ⟨(by first | rfl | (simp (disch := omega) only [go_sem, simprocAttr, inL]; first | done | omega | (congr 1; done))), ?_⟩); done), ?_⟩
      ·omega
      ·omega
     ·have : k = ls.length - 1 := by omega
      subst this
      repeat' first | refine pw_seq ?_ | refine pw_skip ?_ | refine pw_ret ?_ | refine pw_exit ?_ | refine pw_block ?_ | refine pw_region (fun _ => false) hmix ?_ | (refine wpG_split rfl rfl (fun hc => ?_) (fun hc => ?_) <;> try simp only [hcL, reduceCtorEq] at hc) | (refine pw_cond _ rfl rfl (fun hc => ?_) (fun hc => ?_) <;> (try simp only [hcL, reduceCtorEq] at hc) <;> try (exfalso; omega)) | simp (maxSteps := 1000000) (disch := omega) only [go_sem, simprocAttr] | apply And.intro | omega | decide +kernel
      refine ⟨_, _, _, _, rfl, ?_⟩
      simp (maxSteps := 1000000) (disch := omega) only [go_sem, simprocAttr, toD]
set_option maxHeartbeats 8000000 in
theorem rRunB_spec (a : Lv) (r : Int) (hw : wide a) (har : a.2.2.1.length ≤ 700) : CallsTo Try.prog 19 [lvD a, .int r] (.tup [lvD (brnF a r).1, .int (brnF a r).2]) := by
 have h1 := rLvValid_spec a hw
 rw [← valid_same] at h1
 rw [brnF]
 rcases hv : validF a with _ | _ <;> rw [hv] at h1
 ·rw [if_neg (by decide)]
  refine callsTo_of Try.func19 rfl (by decide +kernel) (Nat.le_of_ble_eq_true rfl) ?_
  intro hat B X w0
  repeat' first | refine pw_seq ?_ | refine pw_skip ?_ | refine pw_ret ?_ | refine pw_exit ?_ | refine pw_block ?_ | refine pw_region (fun _ => false) hmix ?_ | (refine rc (h1) rfl ?_ ?_; (· first | rfl | (simp (disch := omega) only [go_sem, simprocAttr]; done))) | (refine wpG_split rfl rfl (fun hc => ?_) (fun hc => ?_) <;> try simp only [hcL, reduceCtorEq] at hc) | (refine pw_cond _ rfl rfl (fun hc => ?_) (fun hc => ?_) <;> (try simp only [hcL, reduceCtorEq] at hc) <;> try (exfalso; omega)) | simp (maxSteps := 1000000) (disch := omega) only [go_sem, simprocAttr] | apply And.intro | omega | decide +kernel
  refine ⟨_, rfl, ⟨_, _, _, _, rfl, ?_⟩, int_some rfl, trivial⟩
  simp (maxSteps := 1000000) (disch := omega) only [go_sem, simprocAttr, toD]
  rfl
 ·rw [if_pos rfl]
  obtain ⟨t1, t2⟩ := lv_le hv
  have hk := nowB_kin hv hw
  have hkb := bstB_kin hv hw
  have htot : ∀ {b : Lv}, Kin a b → CallsTo Try.prog 17 [lvD b] (.int (TotalF b)) := fun {b} hK => by
   have h := rTotal_spec b hK.wd (by rw [hK.len]; omega)
   rw [← total_same] at h; exact h
  have h3 : ∀ k, CallsTo Try.prog 21 [lvD (nowB a k)] (lvD (nowB a (k + 1))) := fun k => by
   have h := rSweep_spec (nowB a k) (hk k).wd (by rw [(hk k).arcs]; exact har)
   rw [swpF, if_pos (hk k).ok] at h; exact h
  have h4 : ∀ k, CallsTo Try.prog 17 [lvD (nowB a k)] (.int (TotalF (nowB a k))) := fun k => htot (hk k)
  have h5 : ∀ k, CallsTo Try.prog 17 [lvD (bstB a k)] (.int (TotalF (bstB a k))) := fun k => htot (hkb k)
  have hbs : ∀ k, bstB a (k + 1) = if TotalF (nowB a (k + 1)) < TotalF (bstB a k) then nowB a (k + 1) else bstB a k := fun _ => rfl
  have hb0 : bstB a 0 = nowB a 0 := rfl
  have hn0 : nowB a 0 = a := rfl
  obtain ⟨R, hR⟩ : ∃ R, R = rndB r := ⟨_, rfl⟩
  dsimp only
  rw [← hR]
  rw [rndB] at hR
  rw [← hn0] at h1
  rw [show a = nowB a 0 from rfl]
  rw [show bstB (nowB a 0) = bstB a from rfl]
  clear hk hn0 hkb htot
  generalize nowB a = W at *
  generalize bstB a = Bs at *
  refine callsTo_of Try.func19 rfl (by decide +kernel) (Nat.le_of_ble_eq_true rfl) ?_
  intro hat B X w0
  repeat' first | refine pw_seq ?_ | refine pw_skip ?_ | refine pw_ret ?_ | refine pw_exit ?_ | refine pw_block ?_ | refine pw_region (fun _ => false) hmix ?_ | (refine rc (h1) rfl ?_ ?_; (· first | rfl | (simp (disch := omega) only [go_sem, simprocAttr]; done))) | (refine wpG_split rfl rfl (fun hc => ?_) (fun hc => ?_) <;> try simp only [hcL, reduceCtorEq] at hc) | (refine pw_cond _ rfl rfl (fun hc => ?_) (fun hc => ?_) <;> (try simp only [hcL, reduceCtorEq] at hc) <;> try (exfalso; omega)) | simp (maxSteps := 1000000) (disch := omega) only [go_sem, simprocAttr] | apply And.intro | omega | decide +kernel
  refine pw_loopI (κ := Nat) (fun (k : Nat) => k ≤ R) (fun (k : Nat) => [(1, .int r), (4, .ptr 4 0 0 0), (6, .ptr 6 0 0 0), (7, .ptr 7 0 0 0), (8, .int k)]) (fun (k : Nat) => [(4, .cells [.int 0, .nilS, .nilS, .nilS]), (6, .cells [.int (Bs k).1, .d (listsD (Bs k).2.1), .d (arcsD (Bs k).2.2.1), .d (listsD (Bs k).2.2.2)]), (7, .cells [.int (W k).1, .d (listsD (W k).2.1), .d (arcsD (W k).2.2.1), .d (listsD (W k).2.2.2)])]) (fun (k : Nat) => R - k) 0 ?_ ?_ ?_
  ·exact Nat.zero_le _
  ·exact eL [] _ _ (by refine ⟨?_, ?_⟩ <;> (repeat' first | exact List.forall_mem_nil _ | refine List.forall_mem_cons.2 ⟨(by first | rfl | (simp (disch := omega) only [go_sem, simprocAttr, inL, hb0]; first | done | omega | (congr 1; done))), ?_⟩); done)
  ·intro k hk
   rcases Nat.lt_or_ge k R with hlt | hge
   ·have c1 := h3 k
    have c2 := h4 (k + 1)
    have c3 := h5 k
    have e1 := hbs k
    by_cases c : TotalF (W (k + 1)) < TotalF (Bs k)
    ·rw [if_pos c] at e1
     repeat' first | refine pw_seq ?_ | refine pw_skip ?_ | refine pw_ret ?_ | refine pw_exit ?_ | refine pw_block ?_ | refine pw_region (fun _ => false) hmix ?_ | (refine rc (c1) rfl ?_ ?_; (· first | rfl | (simp (disch := omega) only [go_sem, simprocAttr, c]; done))) | (refine rc (c2) rfl ?_ ?_; (· first | rfl | (simp (disch := omega) only [go_sem, simprocAttr, c]; done))) | (refine rc (c3) rfl ?_ ?_; (· first | rfl | (simp (disch := omega) only [go_sem, simprocAttr, c]; done))) | (refine wpG_split rfl rfl (fun hc => ?_) (fun hc => ?_) <;> try simp only [hcL, reduceCtorEq] at hc) | (refine pw_cond _ rfl rfl (fun hc => ?_) (fun hc => ?_) <;> (try simp only [hcL, reduceCtorEq] at hc) <;> try (exfalso; omega)) | simp (maxSteps := 1000000) (disch := omega) only [go_sem, simprocAttr, c] | apply And.intro | omega | decide +kernel
     refine ⟨k + 1, ?_, eL [] _ _ (by refine ⟨?_, ?_⟩ <;> (repeat' first | exact List.forall_mem_nil _ | refine List.forall_mem_cons.2 ⟨(by first | rfl | (simp (disch := omega) only [go_sem, simprocAttr, inL, e1]; first | done | omega | (congr 1; done))), ?_⟩); done), ?_⟩
     ·omega
     ·omega
    ·rw [if_neg c] at e1
     repeat' first | refine pw_seq ?_ | refine pw_skip ?_ | refine pw_ret ?_ | refine pw_exit ?_ | refine pw_block ?_ | refine pw_region (fun _ => false) hmix ?_ | (refine rc (c1) rfl ?_ ?_; (· first | rfl | (simp (disch := omega) only [go_sem, simprocAttr, c]; done))) | (refine rc (c2) rfl ?_ ?_; (· first | rfl | (simp (disch := omega) only [go_sem, simprocAttr, c]; done))) | (refine rc (c3) rfl ?_ ?_; (· first | rfl | (simp (disch := omega) only [go_sem, simprocAttr, c]; done))) | (refine wpG_split rfl rfl (fun hc => ?_) (fun hc => ?_) <;> try simp only [hcL, reduceCtorEq] at hc) | (refine pw_cond _ rfl rfl (fun hc => ?_) (fun hc => ?_) <;> (try simp only [hcL, reduceCtorEq] at hc) <;> try (exfalso; omega)) | simp (maxSteps := 1000000) (disch := omega) only [go_sem, simprocAttr, c] | apply And.intro | omega | decide +kernel
     refine ⟨k + 1, ?_, eL [] _ _ (by refine ⟨?_, ?_⟩ <;> (repeat' first | exact List.forall_mem_nil _ | refine List.forall_mem_cons.2 ⟨(by first | rfl | (simp (disch := omega) only [go_sem, simprocAttr, inL, e1]; first | done | omega | (congr 1; done))), ?_⟩); done), ?_⟩
     ·omega
     ·omega
   ·have : k = R := by omega
    subst this
    have c3 := h5 k
    repeat' first | refine pw_seq ?_ | refine pw_skip ?_ | refine pw_ret ?_ | refine pw_exit ?_ | refine pw_block ?_ | refine pw_region (fun _ => false) hmix ?_ | (refine rc (c3) rfl ?_ ?_; (· first | rfl | (simp (disch := omega) only [go_sem, simprocAttr]; done))) | (refine wpG_split rfl rfl (fun hc => ?_) (fun hc => ?_) <;> try simp only [hcL, reduceCtorEq] at hc) | (refine pw_cond _ rfl rfl (fun hc => ?_) (fun hc => ?_) <;> (try simp only [hcL, reduceCtorEq] at hc) <;> try (exfalso; omega)) | simp (maxSteps := 1000000) (disch := omega) only [go_sem, simprocAttr] | apply And.intro | omega | decide +kernel
    all_goals
     refine ⟨_, rfl, ⟨_, _, _, _, rfl, ?_⟩, int_some rfl, trivial⟩
     simp (maxSteps := 1000000) (disch := omega) only [go_sem, simprocAttr, toD]
set_option maxHeartbeats 8000000 in
theorem bLayer_spec (a : Lv) (i f : Int) (hw : wide a) (har : a.2.2.1.length ≤ 700) : CallsTo Try.prog 13 [lvD a, .int i, .int f] (lvD (barF a i f)) := by
 have h1 := LvValid_spec a hw
 rw [barF]
 rcases hm : matOk a i f with _ | _
 ·rw [if_neg (by decide)]
  rw [matOk] at hm
  rcases hv : validF a with _ | _ <;> rw [hv] at h1 hm
  ·refine callsTo_of Try.func13 rfl (by decide +kernel) (Nat.le_of_ble_eq_true rfl) ?_
   intro hat B X w0
   repeat' first | refine pw_seq ?_ | refine pw_skip ?_ | refine pw_ret ?_ | refine pw_exit ?_ | refine pw_block ?_ | refine pw_region (fun _ => false) hmix ?_ | (refine rc (h1) rfl ?_ ?_; (· first | rfl | (simp (disch := omega) only [go_sem, simprocAttr, List.append_eq]; done))) | (refine wpG_split rfl rfl (fun hc => ?_) (fun hc => ?_) <;> try simp only [hcL, reduceCtorEq] at hc) | (refine pw_cond _ rfl rfl (fun hc => ?_) (fun hc => ?_) <;> (try simp only [hcL, reduceCtorEq] at hc) <;> try (exfalso; omega)) | simp (maxSteps := 1000000) (disch := omega) only [go_sem, simprocAttr, List.append_eq] | apply And.intro | omega | decide +kernel
   refine ⟨_, _, _, _, rfl, ?_⟩
   simp (maxSteps := 1000000) (disch := omega) only [go_sem, simprocAttr, toD]
   rfl
  ·obtain ⟨t1, t2⟩ := lv_le hv
   have hn : ¬ (((0 ≤ i ∧ i < a.2.1.length) ∧ (0 ≤ f ∧ f < a.2.1.length)) ∧ (f = i - 1 ∨ f = i + 1)) := by simpa [and_assoc] using hm
   obtain ⟨n, ls, ar, cs⟩ := a
   dsimp only at t1 t2 hn
   refine callsTo_of Try.func13 rfl (by decide +kernel) (Nat.le_of_ble_eq_true rfl) ?_
   intro hat B X w0
   repeat' first | refine pw_seq ?_ | refine pw_skip ?_ | refine pw_ret ?_ | refine pw_exit ?_ | refine pw_block ?_ | refine pw_region (fun _ => false) hmix ?_ | (refine rc (h1) rfl ?_ ?_; (· first | rfl | (simp (disch := omega) only [go_sem, simprocAttr, List.append_eq, ite_min, ite_max]; done))) | (refine wpG_split rfl rfl (fun hc => ?_) (fun hc => ?_) <;> try simp only [hcL, reduceCtorEq] at hc) | (refine pw_cond _ rfl rfl (fun hc => ?_) (fun hc => ?_) <;> (try simp only [hcL, reduceCtorEq] at hc) <;> try (exfalso; omega)) | simp (maxSteps := 1000000) (disch := omega) only [go_sem, simprocAttr, List.append_eq, ite_min, ite_max] | apply And.intro | omega | decide +kernel
   all_goals
    refine ⟨_, _, _, _, rfl, ?_⟩
    simp (maxSteps := 1000000) (disch := omega) only [go_sem, simprocAttr, toD]
    rfl
 ·rw [if_pos rfl]
  obtain ⟨hv, hi, hf, hif⟩ := matOk_in hm
  rw [hv] at h1
  obtain ⟨t1, t2⟩ := lv_le hv
  obtain ⟨i, rfl⟩ : ∃ n : Nat, i = n := ⟨i.toNat, by omega⟩
  obtain ⟨f, rfl⟩ : ∃ n : Nat, f = n := ⟨f.toNat, by omega⟩
  rw [Int.toNat_natCast, Int.toNat_natCast]
  have h2 := ordered_spec a i f hw hv har (by omega) (by omega)
  generalize layB a i f = P at *
  obtain ⟨n', ls', ar', cs'⟩ := P
  obtain ⟨n, ls, ar, cs⟩ := a
  dsimp only at *
  refine callsTo_of Try.func13 rfl (by decide +kernel) (Nat.le_of_ble_eq_true rfl) ?_
  intro hat B X w0
  repeat' first | refine pw_seq ?_ | refine pw_skip ?_ | refine pw_ret ?_ | refine pw_exit ?_ | refine pw_block ?_ | refine pw_region (fun _ => false) hmix ?_ | (refine rc (h1) rfl ?_ ?_; (· first | rfl | (simp (disch := omega) only [go_sem, simprocAttr, List.append_eq, ite_min, ite_max]; done))) | (refine rc (h2) rfl ?_ ?_; (· first | rfl | (simp (disch := omega) only [go_sem, simprocAttr, List.append_eq, ite_min, ite_max]; done))) | (refine wpG_split rfl rfl (fun hc => ?_) (fun hc => ?_) <;> try simp only [hcL, reduceCtorEq] at hc) | (refine pw_cond _ rfl rfl (fun hc => ?_) (fun hc => ?_) <;> (try simp only [hcL, reduceCtorEq] at hc) <;> try (exfalso; omega)) | simp (maxSteps := 1000000) (disch := omega) only [go_sem, simprocAttr, List.append_eq, ite_min, ite_max] | apply And.intro | omega | decide +kernel
  all_goals
   refine ⟨_, _, _, _, rfl, ?_⟩
   simp (maxSteps := 1000000) (disch := omega) only [go_sem, simprocAttr, toD]
end Go.Proofs.Ytldbcbclhpcofaa
