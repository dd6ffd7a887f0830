/- Ordering: the reference. -/
import Derived.Test.YtldbcbclhpcofaaGreatOrD
import Derived.Test.YtldbcbclhpcofaaGreatE
set_option linter.unusedSimpArgs false
set_option linter.unusedVariables false
namespace Go.Proofs.YtldbcbclhpcofaaGreat
open Go Go.PS Go.Proofs
open Go.Bd (sm sumC Part)
set_option maxRecDepth 100000
attribute [local irreducible] wpRun wpG CallsTo CallsM

theorem oplaces_spec (y : List Int) (o : List Nat) (ho : Part y.length 0 o) (hyl : y.length ≤ 1000) : CallsTo Tryz.prog 32 [intsD y, natsD o] (intsD (permL y o)) := by
 have hol := ho.len
 refine callsTo_of Tryz.func32 rfl (by decide +kernel) (Nat.le_of_ble_eq_true rfl) ?_
 intro hat B X w0
 repeat' first | refine pw_seq ?_ | refine pw_skip ?_ | refine pw_ret ?_ | refine pw_exit ?_ | refine pw_block ?_ | refine pw_region (Nat.beq 7) hmix ?_ | (refine wpG_split rfl rfl (fun hc => ?_) (fun hc => ?_) <;> try simp only [hcL, reduceCtorEq] at hc) | (refine pw_cond _ rfl rfl (fun hc => ?_) (fun hc => ?_) <;> (try simp only [hcL, reduceCtorEq] at hc) <;> try (exfalso; omega)) | simp (maxSteps := 1000000) (disch := omega) only [go_sem, simprocAttr] | apply And.intro | omega | decide +kernel
 refine pw_loopI (κ := Nat) (fun (k : Nat) => k ≤ o.length) (fun (k : Nat) => [(0, .d (intsD y)), (1, .d (natsD o)), (5, .ref 901 1 0 k k), (6, .int k)]) (fun (k : Nat) => [(901, .row 1 (((permL y o).take k).map D.int))]) (fun (k : Nat) => o.length - k) 0 ?_ ?_ ?_
 ·exact Nat.zero_le _
 ·exact eL [(901, 7)] _ _ (by refine ⟨?_, ?_⟩ <;> (repeat' first | exact List.forall_mem_nil _ | refine List.forall_mem_cons.2 ⟨(by first | rfl | (simp (disch := omega) only [go_sem, simprocAttr, inL, List.take_zero, List.map_nil]; first | done | omega | (congr 1; done))), ?_⟩); done)
 ·intro k hk
  have hlk : ((permL y o).take k).length = k := by rw [List.length_take, permL_len]; omega
  have htk : (((permL y o).take k).map D.int).take k = ((permL y o).take k).map D.int := List.take_of_length_le (by rw [List.length_map, hlk]; exact Nat.le_refl _)
  rcases Nat.lt_or_ge k o.length with hlt | hge
  ·obtain ⟨q, hq⟩ := get_some hlt
   have hqn := ho.lt q (List.mem_of_getElem? hq)
   have hyq : y[q]? = some (yG y q) := by rw [yG, List.getElem?_eq_getElem hqn]; rfl
   have e1 : (permL y o).take (k + 1) = (permL y o).take k ++ [yG y q] := take_snoc (by rw [permL, List.getElem?_map, hq]; rfl)
   generalize (permL y o).take k = R at *
   repeat' first | refine pw_seq ?_ | refine pw_skip ?_ | refine pw_ret ?_ | refine pw_exit ?_ | refine pw_block ?_ | refine pw_region (fun _ => false) hmix ?_ | (refine wpG_split rfl rfl (fun hc => ?_) (fun hc => ?_) <;> try simp only [hcL, reduceCtorEq] at hc) | (refine pw_cond _ rfl rfl (fun hc => ?_) (fun hc => ?_) <;> (try simp only [hcL, reduceCtorEq] at hc) <;> try (exfalso; omega)) | simp (maxSteps := 1000000) (disch := omega) only [go_sem, simprocAttr, hq, hyq, hlk, htk, roomy] | exact one_int _ | apply And.intro | omega | decide +kernel
   refine ⟨k + 1, ?_, eL [(901, 23)] _ _ (by refine ⟨?_, ?_⟩ <;> (repeat' first | exact List.forall_mem_nil _ | refine List.forall_mem_cons.2 ⟨(by first | rfl | (simp (disch := omega) only [go_sem, simprocAttr, inL, e1, htk, List.map_append, List.map_cons, List.map_nil]; first | done | omega | (congr 1; done))), ?_⟩); done), ?_⟩
   ·omega
   ·omega
  ·have : k = o.length := by omega
   subst this
   have hfull : (permL y o).take o.length = permL y o := List.take_of_length_le (by rw [permL_len]; exact Nat.le_refl _)
   rw [hfull] at hlk htk
   rw [hfull]
   repeat' first | refine pw_seq ?_ | refine pw_skip ?_ | refine pw_ret ?_ | refine pw_exit ?_ | refine pw_block ?_ | refine pw_region (fun _ => false) hmix ?_ | (refine wpG_split rfl rfl (fun hc => ?_) (fun hc => ?_) <;> try simp only [hcL, reduceCtorEq] at hc) | (refine pw_cond _ rfl rfl (fun hc => ?_) (fun hc => ?_) <;> (try simp only [hcL, reduceCtorEq] at hc) <;> try (exfalso; omega)) | simp (maxSteps := 1000000) (disch := omega) only [go_sem, simprocAttr] | apply And.intro | omega | decide +kernel
   exact ret_ref (o := 901) rfl rfl (by simp [hlk]) htk
theorem with_put (a : Lv) (i : Nat) (z : List Int) (hv : validF a = true) (hz : z.length ≤ 1000) (hi : i < a.2.1.length) :
  CallsTo Tryz.prog 31 [lvD a, .int i, intsD z] (lvD (putL a i z)) := by
 obtain ⟨s1, s2, s3⟩ := lv_sizes hv
 obtain ⟨t1, t2⟩ := lv_le hv
 refine with_spec a i z (a.2.1.set i z) List.length_set (fun k x hx => ?_) (by omega) (fun x hx => by have := tot_mem hx; omega) (by omega) (by omega) (by omega) (fun x hx => by have := s3 x hx; omega)
 rw [List.getElem?_set]
 by_cases c : i = k
 ·subst c
  rw [if_pos rfl, if_pos hi, if_pos rfl]
 ·rw [if_neg c, hx, if_neg (by omega)]
theorem with_none (a : Lv) (hv : validF a = true) : CallsTo Tryz.prog 31 [lvD a, .int (-1), intsD []] (lvD a) := by
 obtain ⟨s1, s2, s3⟩ := lv_sizes hv
 obtain ⟨t1, t2⟩ := lv_le hv
 exact with_spec a (-1) [] a.2.1 rfl (fun k x hx => by rw [hx, if_neg (by omega)]) (by omega) (fun x hx => by have := tot_mem hx; omega) (by decide) (by omega) (by omega) (fun x hx => by have := s3 x hx; omega)
set_option maxHeartbeats 8000000 in
theorem improved_spec (a : Lv) (i : Nat) (hw : wide a) (hv : validF a = true) (har : a.2.2.1.length ≤ 700) (hil : i < a.2.1.length) :
  CallsTo Tryz.prog 35 [lvD a, .int i] (.tup [natsD (betF a i).1, .bool (betF a i).2]) := by
 obtain ⟨y, hy⟩ := get_some hil
 have hyl := tot_mem (List.mem_of_getElem? hy)
 obtain ⟨t1, t2⟩ := lv_le hv
 rw [betF, lstN_at hy]
 by_cases h8 : 8 < y.length
 ·rw [if_pos h8]
  obtain ⟨n, ls, ar, cs⟩ := a
  dsimp only at *
  refine callsTo_of Tryz.func35 rfl (by decide +kernel) (Nat.le_of_ble_eq_true rfl) ?_
  intro hat B X w0
  repeat' first | refine pw_seq ?_ | refine pw_skip ?_ | refine pw_ret ?_ | refine pw_exit ?_ | refine pw_block ?_ | refine pw_region (fun _ => false) hmix ?_ | (refine wpG_split rfl rfl (fun hc => ?_) (fun hc => ?_) <;> try simp only [hcL, reduceCtorEq] at hc) | (refine pw_cond _ rfl rfl (fun hc => ?_) (fun hc => ?_) <;> (try simp only [hcL, reduceCtorEq] at hc) <;> try (exfalso; omega)) | simp (maxSteps := 1000000) (disch := omega) only [go_sem, simprocAttr, hy] | apply And.intro | omega | decide +kernel
  exact ⟨_, rfl, sl_some rfl, bool_some rfl, trivial⟩
 ·rw [if_neg h8]
  have h2 := oSum_spec a i hw hv hil
  have hmok := orM_ok (i := i) har (by rw [lstN_at hy]; exact h8)
  have h3 := rLeast_spec (orM a i)
  rw [if_pos hmok] at h3
  obtain ⟨hs, hm8⟩ := ok_sq hmok
  have hml := orM_len a i
  rw [lstN_at hy] at hml
  have hbb : 0 ≤ (bestAll (orM a i)).2 ∧ (bestAll (orM a i)).2 ≤ 64000000 := by
   obtain ⟨g1, g2, _⟩ := Go.Bd.best_bounds hs.small hm8 (part_nil _) (bestAll_eq (orM a i))
   exact ⟨g1, g2⟩
  have hnow : nowS (orM a i) (orM a i).length = sumC (cellAt (orM a i)) (List.range (orM a i).length) := by
   rw [nowS, Go.Bd.sumC_range]
  rw [betB, lstN_at hy, ← hml, ← hnow]
  have hnl := now_le hs hm8
  have hni := now_in hs
  have hS : ∀ A, nowS (orM a i) (A + 1) = nowS (orM a i) A + sm (fun j => cellAt (orM a i) A (A + 1 + j)) ((orM a i).length - 1 - A) := fun _ => rfl
  have hS0 : nowS (orM a i) 0 = 0 := rfl
  generalize orM a i = m at *
  generalize nowS m = S at *
  generalize bestAll m = BB at *
  obtain ⟨p, cost⟩ := BB
  obtain ⟨n, ls, ar, cs⟩ := a
  dsimp only at *
  obtain ⟨N, hN⟩ : ∃ N, N = m.length := ⟨_, rfl⟩
  rw [← hN] at hml hS hm8 ⊢
  refine callsTo_of Tryz.func35 rfl (by decide +kernel) (Nat.le_of_ble_eq_true rfl) ?_
  intro hat B X w0
  repeat' first | refine pw_seq ?_ | refine pw_skip ?_ | refine pw_ret ?_ | refine pw_exit ?_ | refine pw_block ?_ | refine pw_region (fun _ => false) hmix ?_ | (refine rc (h2) rfl ?_ ?_; (· first | rfl | (simp (disch := omega) only [go_sem, simprocAttr, hy, ← hml]; done))) | (refine wpG_split rfl rfl (fun hc => ?_) (fun hc => ?_) <;> try simp only [hcL, reduceCtorEq] at hc) | (refine pw_cond _ rfl rfl (fun hc => ?_) (fun hc => ?_) <;> (try simp only [hcL, reduceCtorEq] at hc) <;> try (exfalso; omega)) | simp (maxSteps := 1000000) (disch := omega) only [go_sem, simprocAttr, hy, ← hml] | apply And.intro | omega | decide +kernel
  refine pw_loopI (κ := Nat) (fun (u : Nat) => u ≤ N) (fun (u : Nat) => [(6, .int N), (7, .d (listsD m)), (8, .int (S u)), (9, .int u)]) (fun (u : Nat) => []) (fun (u : Nat) => N - u) 0 ?_ ?_ ?_
  ·exact Nat.zero_le _
  ·exact eL [] _ _ (by refine ⟨?_, ?_⟩ <;> (repeat' first | exact List.forall_mem_nil _ | refine List.forall_mem_cons.2 ⟨(by first | rfl | (simp (disch := omega) only [go_sem, simprocAttr, inL, hS0]; first | done | omega | (congr 1; done))), ?_⟩); done)
  ·intro u hu
   have b1 := hnl u
   rcases Nat.lt_or_ge u N with hlt | hge
   ·have e1 := hS u
    repeat' first | refine pw_seq ?_ | refine pw_skip ?_ | refine pw_ret ?_ | refine pw_exit ?_ | refine pw_block ?_ | refine pw_region (fun _ => false) hmix ?_ | (refine wpG_split rfl rfl (fun hc => ?_) (fun hc => ?_) <;> try simp only [hcL, reduceCtorEq] at hc) | (refine pw_cond _ rfl rfl (fun hc => ?_) (fun hc => ?_) <;> (try simp only [hcL, reduceCtorEq] at hc) <;> try (exfalso; omega)) | simp (maxSteps := 1000000) (disch := omega) only [go_sem, simprocAttr] | apply And.intro | omega | decide +kernel
    refine pw_loopI (κ := Nat) (fun (b : Nat) => b ≤ N - 1 - u) (fun (b : Nat) => [(6, .int N), (7, .d (listsD m)), (8, .int (S u + sm (fun j => cellAt m u (u + 1 + j)) b)), (9, .int u), (10, .int (u + 1 + b : Nat))]) (fun (b : Nat) => []) (fun (b : Nat) => N - b) 0 ?_ ?_ ?_
    ·exact Nat.zero_le _
    ·have z0 : sm (fun j => cellAt m u (u + 1 + j)) 0 = 0 := rfl
     have z1 : ((u + 1 + 0 : Nat) : Int) = (u : Int) + 1 := by omega
     exact eL [] _ _ (by refine ⟨?_, ?_⟩ <;> (repeat' first | exact List.forall_mem_nil _ | refine List.forall_mem_cons.2 ⟨(by first | rfl | (simp (disch := omega) only [go_sem, simprocAttr, inL, z0, z1, Int.add_zero]; first | done | omega | (congr 1; done))), ?_⟩); done)
    ·intro b hb
     have b2 := hni u b
     rcases Nat.lt_or_ge b (N - 1 - u) with hlb | hgb
     ·obtain ⟨q, hq, hql, hqv, g1, g2⟩ := hs.get (b := u) (a := u + 1 + b) (by omega) (by omega)
      have e2 : sm (fun j => cellAt m u (u + 1 + j)) (b + 1) = sm (fun j => cellAt m u (u + 1 + j)) b + cellAt m u (u + 1 + b) := rfl
      have e3 : ((u + 1 + b : Nat) : Int) + 1 = ((u + 1 + (b + 1) : Nat) : Int) := by omega
      have hqn : u + 1 + b < q.length := by omega
      generalize sm (fun j => cellAt m u (u + 1 + j)) = SM at *
      generalize hub : u + 1 + b = ub at *
      repeat' first | refine pw_seq ?_ | refine pw_skip ?_ | refine pw_ret ?_ | refine pw_exit ?_ | refine pw_block ?_ | refine pw_region (fun _ => false) hmix ?_ | (refine wpG_split rfl rfl (fun hc => ?_) (fun hc => ?_) <;> try simp only [hcL, reduceCtorEq] at hc) | (refine pw_cond _ rfl rfl (fun hc => ?_) (fun hc => ?_) <;> (try simp only [hcL, reduceCtorEq] at hc) <;> try (exfalso; omega)) | simp (maxSteps := 1000000) (disch := omega) only [go_sem, simprocAttr, hq, hqv, hqn, e3] | apply And.intro | omega | decide +kernel
      refine ⟨b + 1, ?_, eL [] _ _ (by refine ⟨?_, ?_⟩ <;> (repeat' first | exact List.forall_mem_nil _ | refine List.forall_mem_cons.2 ⟨(by first | rfl | (simp (disch := omega) only [go_sem, simprocAttr, inL, e2, e3, hub, Int.add_assoc]; first | done | omega | (congr 1; done))), ?_⟩); done), ?_⟩
      ·omega
      ·omega
     ·have : b = N - 1 - u := by omega
      subst this
      have e4 : u + 1 + (N - 1 - u) = N := by omega
      rw [e4]
      repeat' first | refine pw_seq ?_ | refine pw_skip ?_ | refine pw_ret ?_ | refine pw_exit ?_ | refine pw_block ?_ | refine pw_region (fun _ => false) hmix ?_ | (refine wpG_split rfl rfl (fun hc => ?_) (fun hc => ?_) <;> try simp only [hcL, reduceCtorEq] at hc) | (refine pw_cond _ rfl rfl (fun hc => ?_) (fun hc => ?_) <;> (try simp only [hcL, reduceCtorEq] at hc) <;> try (exfalso; omega)) | simp (maxSteps := 1000000) (disch := omega) only [go_sem, simprocAttr] | apply And.intro | omega | decide +kernel
      refine ⟨u + 1, ?_, eL [] _ _ (by refine ⟨?_, ?_⟩ <;> (repeat' first | exact List.forall_mem_nil _ | refine List.forall_mem_cons.2 ⟨(by first | rfl | (simp (disch := omega) only [go_sem, simprocAttr, inL, e1]; first | done | omega | (congr 1; done))), ?_⟩); done), ?_⟩
      ·omega
      ·omega
   ·have : u = N := by omega
    subst this
    repeat' first | refine pw_seq ?_ | refine pw_skip ?_ | refine pw_ret ?_ | refine pw_exit ?_ | refine pw_block ?_ | refine pw_region (fun _ => false) hmix ?_ | (refine rc (h3) rfl ?_ ?_; (· first | rfl | (simp (disch := omega) only [go_sem, simprocAttr]; done))) | (refine wpG_split rfl rfl (fun hc => ?_) (fun hc => ?_) <;> try simp only [hcL, reduceCtorEq] at hc) | (refine pw_cond _ rfl rfl (fun hc => ?_) (fun hc => ?_) <;> (try simp only [hcL, reduceCtorEq] at hc) <;> try (exfalso; omega)) | simp (maxSteps := 1000000) (disch := omega) only [go_sem, simprocAttr] | apply And.intro | omega | decide +kernel
    refine ⟨_, rfl, sl_some rfl, bool_some ?_, trivial⟩
    rw [Bool.eq_iff_iff]
set_option maxHeartbeats 8000000 in
theorem rExact_spec (a : Lv) (i f : Int) (hw : wide a) : CallsTo Tryz.prog 11 [lvD a, .int i, .int f] (.tup [lvD (exaF a i f).1, .int (exaF a i f).2]) := by
 have h1 := rLvValid_spec a hw
 rw [← valid_same] at h1
 rw [exaF]
 rcases hm : matOk a i f with _ | _
 ·rw [if_pos rfl]
  rw [matOk] at hm
  rcases hv : validF a with _ | _ <;> rw [hv] at h1 hm
  ·refine callsTo_of Tryz.func11 rfl (by decide +kernel) (Nat.le_of_ble_eq_true rfl) ?_
   intro hat B X w0
   repeat' first | refine pw_seq ?_ | refine pw_skip ?_ | refine pw_ret ?_ | refine pw_exit ?_ | refine pw_block ?_ | refine pw_region (fun _ => false) hmix ?_ | (refine rc (h1) rfl ?_ ?_; (· first | rfl | (simp (disch := omega) only [go_sem, simprocAttr, List.append_eq]; done))) | (refine wpG_split rfl rfl (fun hc => ?_) (fun hc => ?_) <;> try simp only [hcL, reduceCtorEq] at hc) | (refine pw_cond _ rfl rfl (fun hc => ?_) (fun hc => ?_) <;> (try simp only [hcL, reduceCtorEq] at hc) <;> try (exfalso; omega)) | simp (maxSteps := 1000000) (disch := omega) only [go_sem, simprocAttr, List.append_eq] | apply And.intro | omega | decide +kernel
   refine ⟨_, rfl, ⟨_, _, _, _, rfl, ?_⟩, int_some rfl, trivial⟩
   simp (maxSteps := 1000000) (disch := omega) only [go_sem, simprocAttr, toD]
   rfl
  ·obtain ⟨t1, t2⟩ := lv_le hv
   have hn : ¬ (((0 ≤ i ∧ i < a.2.1.length) ∧ (0 ≤ f ∧ f < a.2.1.length)) ∧ (f = i - 1 ∨ f = i + 1)) := by simpa [and_assoc] using hm
   obtain ⟨n, ls, ar, cs⟩ := a
   dsimp only at t1 t2 hn
   refine callsTo_of Tryz.func11 rfl (by decide +kernel) (Nat.le_of_ble_eq_true rfl) ?_
   intro hat B X w0
   repeat' first | refine pw_seq ?_ | refine pw_skip ?_ | refine pw_ret ?_ | refine pw_exit ?_ | refine pw_block ?_ | refine pw_region (fun _ => false) hmix ?_ | (refine rc (h1) rfl ?_ ?_; (· first | rfl | (simp (disch := omega) only [go_sem, simprocAttr, List.append_eq]; done))) | (refine wpG_split rfl rfl (fun hc => ?_) (fun hc => ?_) <;> try simp only [hcL, reduceCtorEq] at hc) | (refine pw_cond _ rfl rfl (fun hc => ?_) (fun hc => ?_) <;> (try simp only [hcL, reduceCtorEq] at hc) <;> try (exfalso; omega)) | simp (maxSteps := 1000000) (disch := omega) only [go_sem, simprocAttr, List.append_eq] | apply And.intro | omega | decide +kernel
   all_goals
    refine ⟨_, rfl, ⟨_, _, _, _, rfl, ?_⟩, int_some rfl, trivial⟩
    simp (maxSteps := 1000000) (disch := omega) only [go_sem, simprocAttr, toD]
    rfl
 ·rw [if_neg (by decide)]
  obtain ⟨hv, hi, hf, hif⟩ := matOk_in hm
  rw [hv] at h1
  obtain ⟨t1, t2⟩ := lv_le hv
  have hp := matF_part hm
  have h3 := rMatrix_spec a i f hw
  have hml := matF_len hm
  have hsq := MatrixF_sq a i f
  obtain ⟨i, rfl⟩ : ∃ n : Nat, i = n := ⟨i.toNat, by omega⟩
  rw [Int.toNat_natCast] at *
  obtain ⟨y, hy⟩ := get_some (l := a.2.1) (k := i) (by omega)
  have hyl := tot_mem (List.mem_of_getElem? hy)
  rw [lstN_at hy] at *
  by_cases h8 : 8 < y.length
  ·rw [if_pos h8]
   obtain ⟨n, ls, ar, cs⟩ := a
   dsimp only at *
   refine callsTo_of Tryz.func11 rfl (by decide +kernel) (Nat.le_of_ble_eq_true rfl) ?_
   intro hat B X w0
   repeat' first | refine pw_seq ?_ | refine pw_skip ?_ | refine pw_ret ?_ | refine pw_exit ?_ | refine pw_block ?_ | refine pw_region (fun _ => false) hmix ?_ | (refine rc (h1) rfl ?_ ?_; (· first | rfl | (simp (disch := omega) only [go_sem, simprocAttr, List.append_eq, hy]; done))) | (refine wpG_split rfl rfl (fun hc => ?_) (fun hc => ?_) <;> try simp only [hcL, reduceCtorEq] at hc) | (refine pw_cond _ rfl rfl (fun hc => ?_) (fun hc => ?_) <;> (try simp only [hcL, reduceCtorEq] at hc) <;> try (exfalso; omega)) | simp (maxSteps := 1000000) (disch := omega) only [go_sem, simprocAttr, List.append_eq, hy] | apply And.intro | omega | decide +kernel
   all_goals
    refine ⟨_, rfl, ⟨_, _, _, _, rfl, ?_⟩, int_some rfl, trivial⟩
    simp (maxSteps := 1000000) (disch := omega) only [go_sem, simprocAttr, toD]
    rfl
  ·rw [if_neg h8]
   have h4 := rLeast_spec (MatrixF a i f)
   rw [if_pos (sq_ok hsq (by omega))] at h4
   have h5 := oplaces_spec y _ hp (by omega)
   have h6 := with_put a i (permL y (bestAll (MatrixF a i f)).1) hv (by rw [permL_len]; have := hp.len; omega) (by omega)
   generalize MatrixF a i f = m at *
   generalize bestAll m = BB at *
   obtain ⟨p, cost⟩ := BB
   dsimp only at *
   generalize permL y p = py at *
   generalize putL a i py = P at *
   obtain ⟨n', ls', ar', cs'⟩ := P
   obtain ⟨n, ls, ar, cs⟩ := a
   dsimp only at *
   refine callsTo_of Tryz.func11 rfl (by decide +kernel) (Nat.le_of_ble_eq_true rfl) ?_
   intro hat B X w0
   repeat' first | refine pw_seq ?_ | refine pw_skip ?_ | refine pw_ret ?_ | refine pw_exit ?_ | refine pw_block ?_ | refine pw_region (fun _ => false) hmix ?_ | (refine rc (h1) rfl ?_ ?_; (· first | rfl | (simp (disch := omega) only [go_sem, simprocAttr, List.append_eq, hy]; done))) | (refine rc (h3) rfl ?_ ?_; (· first | rfl | (simp (disch := omega) only [go_sem, simprocAttr, List.append_eq, hy]; done))) | (refine rc (h4) rfl ?_ ?_; (· first | rfl | (simp (disch := omega) only [go_sem, simprocAttr, List.append_eq, hy]; done))) | (refine rc (h5) rfl ?_ ?_; (· first | rfl | (simp (disch := omega) only [go_sem, simprocAttr, List.append_eq, hy]; done))) | (refine rc (h6) rfl ?_ ?_; (· first | rfl | (simp (disch := omega) only [go_sem, simprocAttr, List.append_eq, hy]; done))) | (refine wpG_split rfl rfl (fun hc => ?_) (fun hc => ?_) <;> try simp only [hcL, reduceCtorEq] at hc) | (refine pw_cond _ rfl rfl (fun hc => ?_) (fun hc => ?_) <;> (try simp only [hcL, reduceCtorEq] at hc) <;> try (exfalso; omega)) | simp (maxSteps := 1000000) (disch := omega) only [go_sem, simprocAttr, List.append_eq, hy] | apply And.intro | omega | decide +kernel
   all_goals
    refine ⟨_, rfl, ⟨_, _, _, _, rfl, ?_⟩, int_some rfl, trivial⟩
    simp (maxSteps := 1000000) (disch := omega) only [go_sem, simprocAttr, toD]
set_option maxHeartbeats 8000000 in
theorem rOptimal_spec (a : Lv) (i : Int) (hw : wide a) (har : a.2.2.1.length ≤ 700) : CallsTo Tryz.prog 14 [lvD a, .int i] (.bool (optF a i)) := by
 have h1 := rLvValid_spec a hw
 rw [← valid_same] at h1
 rw [optF]
 rcases hv : validF a with _ | _ <;> rw [hv] at h1
 ·refine callsTo_of Tryz.func14 rfl (by decide +kernel) (Nat.le_of_ble_eq_true rfl) ?_
  intro hat B X w0
  repeat' first | refine pw_seq ?_ | refine pw_skip ?_ | refine pw_ret ?_ | refine pw_exit ?_ | refine pw_block ?_ | refine pw_region (fun _ => false) hmix ?_ | (refine rc (h1) rfl ?_ ?_; (· first | rfl | (simp (disch := omega) only [go_sem, simprocAttr, List.append_eq]; done))) | (refine wpG_split rfl rfl (fun hc => ?_) (fun hc => ?_) <;> try simp only [hcL, reduceCtorEq] at hc) | (refine pw_cond _ rfl rfl (fun hc => ?_) (fun hc => ?_) <;> (try simp only [hcL, reduceCtorEq] at hc) <;> try (exfalso; omega)) | simp (maxSteps := 1000000) (disch := omega) only [go_sem, simprocAttr, List.append_eq] | apply And.intro | omega | decide +kernel
  exact bool_some rfl
 ·obtain ⟨t1, t2⟩ := lv_le hv
  by_cases hi : 0 ≤ i ∧ i < a.2.1.length
  ·rw [decide_eq_true hi]
   obtain ⟨i, rfl⟩ : ∃ n : Nat, i = n := ⟨i.toNat, by omega⟩
   rw [Int.toNat_natCast]
   obtain ⟨y, hy⟩ := get_some (l := a.2.1) (k := i) (by omega)
   have hyl := tot_mem (List.mem_of_getElem? hy)
   have h3 := improved_spec a i hw hv har (by omega)
   rw [betF] at h3
   rw [lstN_at hy] at *
   by_cases h8 : 8 < y.length
   ·rw [decide_eq_false (fun h => h h8)]
    obtain ⟨n, ls, ar, cs⟩ := a
    dsimp only at *
    refine callsTo_of Tryz.func14 rfl (by decide +kernel) (Nat.le_of_ble_eq_true rfl) ?_
    intro hat B X w0
    repeat' first | refine pw_seq ?_ | refine pw_skip ?_ | refine pw_ret ?_ | refine pw_exit ?_ | refine pw_block ?_ | refine pw_region (fun _ => false) hmix ?_ | (refine rc (h1) rfl ?_ ?_; (· first | rfl | (simp (disch := omega) only [go_sem, simprocAttr, List.append_eq, hy]; done))) | (refine wpG_split rfl rfl (fun hc => ?_) (fun hc => ?_) <;> try simp only [hcL, reduceCtorEq] at hc) | (refine pw_cond _ rfl rfl (fun hc => ?_) (fun hc => ?_) <;> (try simp only [hcL, reduceCtorEq] at hc) <;> try (exfalso; omega)) | simp (maxSteps := 1000000) (disch := omega) only [go_sem, simprocAttr, List.append_eq, hy] | apply And.intro | omega | decide +kernel
    all_goals exact bool_some rfl
   ·rw [decide_eq_true h8]
    rw [if_neg h8] at h3
    generalize betB a i = b at *
    generalize bestAll (orM a i) = BB at *
    obtain ⟨n, ls, ar, cs⟩ := a
    dsimp only at *
    refine callsTo_of Tryz.func14 rfl (by decide +kernel) (Nat.le_of_ble_eq_true rfl) ?_
    intro hat B X w0
    repeat' first | refine pw_seq ?_ | refine pw_skip ?_ | refine pw_ret ?_ | refine pw_exit ?_ | refine pw_block ?_ | refine pw_region (fun _ => false) hmix ?_ | (refine rc (h1) rfl ?_ ?_; (· first | rfl | (simp (disch := omega) only [go_sem, simprocAttr, List.append_eq, hy]; done))) | (refine rc (h3) rfl ?_ ?_; (· first | rfl | (simp (disch := omega) only [go_sem, simprocAttr, List.append_eq, hy]; done))) | (refine wpG_split rfl rfl (fun hc => ?_) (fun hc => ?_) <;> try simp only [hcL, reduceCtorEq] at hc) | (refine pw_cond _ rfl rfl (fun hc => ?_) (fun hc => ?_) <;> (try simp only [hcL, reduceCtorEq] at hc) <;> try (exfalso; omega)) | simp (maxSteps := 1000000) (disch := omega) only [go_sem, simprocAttr, List.append_eq, hy] | apply And.intro | omega | decide +kernel
    exact bool_some (by simp)
  ·rw [decide_eq_false hi]
   obtain ⟨n, ls, ar, cs⟩ := a
   dsimp only at *
   refine callsTo_of Tryz.func14 rfl (by decide +kernel) (Nat.le_of_ble_eq_true rfl) ?_
   intro hat B X w0
   repeat' first | refine pw_seq ?_ | refine pw_skip ?_ | refine pw_ret ?_ | refine pw_exit ?_ | refine pw_block ?_ | refine pw_region (fun _ => false) hmix ?_ | (refine rc (h1) rfl ?_ ?_; (· first | rfl | (simp (disch := omega) only [go_sem, simprocAttr, List.append_eq]; done))) | (refine wpG_split rfl rfl (fun hc => ?_) (fun hc => ?_) <;> try simp only [hcL, reduceCtorEq] at hc) | (refine pw_cond _ rfl rfl (fun hc => ?_) (fun hc => ?_) <;> (try simp only [hcL, reduceCtorEq] at hc) <;> try (exfalso; omega)) | simp (maxSteps := 1000000) (disch := omega) only [go_sem, simprocAttr, List.append_eq] | apply And.intro | omega | decide +kernel
   all_goals exact bool_some rfl
set_option maxHeartbeats 8000000 in
theorem rRefine_spec (a : Lv) (hw : wide a) (har : a.2.2.1.length ≤ 700) : CallsTo Tryz.prog 16 [lvD a] (lvD (if validF a then refineF a else lv0)) := by
 have h1 := rLvValid_spec a hw
 rw [← valid_same] at h1
 rcases hv : validF a with _ | _ <;> rw [hv] at h1
 ·rw [if_neg (by decide)]
  refine callsTo_of Tryz.func16 rfl (by decide +kernel) (Nat.le_of_ble_eq_true rfl) ?_
  intro hat B X w0
  repeat' first | refine pw_seq ?_ | refine pw_skip ?_ | refine pw_ret ?_ | refine pw_exit ?_ | refine pw_block ?_ | refine pw_region (fun _ => false) hmix ?_ | (refine rc (h1) rfl ?_ ?_; (· first | rfl | (simp (disch := omega) only [go_sem, simprocAttr]; done))) | (refine wpG_split rfl rfl (fun hc => ?_) (fun hc => ?_) <;> try simp only [hcL, reduceCtorEq] at hc) | (refine pw_cond _ rfl rfl (fun hc => ?_) (fun hc => ?_) <;> (try simp only [hcL, reduceCtorEq] at hc) <;> try (exfalso; omega)) | simp (maxSteps := 1000000) (disch := omega) only [go_sem, simprocAttr] | apply And.intro | omega | decide +kernel
  refine ⟨_, _, _, _, rfl, ?_⟩
  simp (maxSteps := 1000000) (disch := omega) only [go_sem, simprocAttr, toD]
  rfl
 ·rw [if_pos rfl]
  obtain ⟨t1, t2⟩ := lv_le hv
  have h2 := with_none a hv
  have hK0 := Kin.refl hv hw
  have h3 : ∀ (b : Lv) (i : Nat), Kin a b → i < a.2.1.length → CallsTo Tryz.prog 35 [lvD b, .int i] (.tup [natsD (betF b i).1, .bool (betF b i).2]) := fun b i h hi => improved_spec b i h.wd h.ok (by rw [h.arcs]; exact har) (by rw [h.len]; exact hi)
  have hly : ∀ (b : Lv) (i : Nat), Kin a b → i < a.2.1.length → (lstN b.2.1 i).length ≤ 512 := fun b i h hi => by
   have hb2 := (lv_le h.ok).2
   have := tot_mem (List.mem_of_getElem? (h.lay hi))
   omega
  have h4 : ∀ (b : Lv) (i : Nat), Kin a b → i < a.2.1.length → (betF b i).2 = true → CallsTo Tryz.prog 32 [intsD (lstN b.2.1 i), natsD (betF b i).1] (intsD (permL (lstN b.2.1 i) (bestAll (orM b i)).1)) := fun b i h hi hb => by
   have hy := betF_yes hb
   have e : (betF b i).1 = (bestAll (orM b i)).1 := by rw [betF, if_neg hy.1]
   rw [e]
   exact oplaces_spec _ _ (orM_part b i) (by have := hly b i h hi; omega)
  have h5 : ∀ (b : Lv) (i : Nat), Kin a b → i < a.2.1.length → CallsTo Tryz.prog 31 [lvD b, .int i, intsD (permL (lstN b.2.1 i) (bestAll (orM b i)).1)] (lvD (bestPut b i)) := fun b i h hi =>
   with_put b i _ h.ok (by rw [permL_len]; have := (orM_part b i).len; have := hly b i h hi; omega) (by rw [h.len]; exact hi)
  obtain ⟨M, hM⟩ : ∃ M, M = refMs a 0 := ⟨_, rfl⟩
  rw [refineF, ← hM]
  generalize hR : refN M a 0 = R
  obtain ⟨L, hL⟩ : ∃ L, L = a.2.1.length := ⟨_, rfl⟩
  rw [← hL] at h3 h4 h5 t1
  clear hly
  refine callsTo_of Tryz.func16 rfl (by decide +kernel) (Nat.le_of_ble_eq_true rfl) ?_
  intro hat B X w0
  repeat' first | refine pw_seq ?_ | refine pw_skip ?_ | refine pw_ret ?_ | refine pw_exit ?_ | refine pw_block ?_ | refine pw_region (fun _ => false) hmix ?_ | (refine rc (h1) rfl ?_ ?_; (· first | rfl | (simp (disch := omega) only [go_sem, simprocAttr, List.map_nil]; done))) | (refine rc (h2) rfl ?_ ?_; (· first | rfl | (simp (disch := omega) only [go_sem, simprocAttr, List.map_nil]; done))) | (refine wpG_split rfl rfl (fun hc => ?_) (fun hc => ?_) <;> try simp only [hcL, reduceCtorEq] at hc) | (refine pw_cond _ rfl rfl (fun hc => ?_) (fun hc => ?_) <;> (try simp only [hcL, reduceCtorEq] at hc) <;> try (exfalso; omega)) | simp (maxSteps := 1000000) (disch := omega) only [go_sem, simprocAttr, List.map_nil] | apply And.intro | omega | decide +kernel
  refine pw_loopI (κ := Nat × Lv × Nat) (fun (q : Nat × Lv × Nat) => match q with | (f, b, i) => Kin a b ∧ refMs b i ≤ f ∧ i ≤ L ∧ refN f b i = R) (fun (q : Nat × Lv × Nat) => match q with | (f, b, i) => [(2, .ptr 2 0 0 0), (3, .ptr 3 0 0 0), (4, .int i)]) (fun (q : Nat × Lv × Nat) => match q with | (f, b, i) => [(2, .cells [.int 0, .nilS, .nilS, .nilS]), (3, .cells [.int b.1, .d (listsD b.2.1), .d (arcsD b.2.2.1), .d (listsD b.2.2.2)])]) (fun (q : Nat × Lv × Nat) => match q with | (f, b, i) => f) (M, a, 0) ?_ ?_ ?_
  ·exact ⟨hK0, Nat.le_of_eq hM.symm, Nat.zero_le _, hR⟩
  ·exact eL [] _ _ (by refine ⟨?_, ?_⟩ <;> (repeat' first | exact List.forall_mem_nil _ | refine List.forall_mem_cons.2 ⟨(by first | rfl | (simp (disch := omega) only [go_sem, simprocAttr, inL]; first | done | omega | (congr 1; done))), ?_⟩); done)
  ·rintro ⟨f, b, i⟩ ⟨hK, hms, hi, hres⟩
   dsimp only at hK hms hi hres ⊢
   have hbl : b.2.1.length = L := by rw [hK.len, hL]
   rcases Nat.lt_or_ge i L with hlt | hge
   ·have hf : 0 < f := by
     have : refMs b i = (TotalF b).toNat * (b.2.1.length + 1) + (b.2.1.length - i) := rfl
     omega
    obtain ⟨f, rfl⟩ : ∃ g, f = g + 1 := ⟨f - 1, by omega⟩
    rw [refN, if_pos (by omega)] at hres
    have c1 := h3 b i hK hlt
    rcases hb : (betF b i).2 with _ | _
    ·rw [hb] at c1
     rw [hb, if_neg (by decide)] at hres
     have hs := ms_step (b := b) (i := i) (by omega)
     clear h3 h4 h5
     obtain ⟨n, ls, ar, cs⟩ := b
     dsimp only at hbl hb c1 ⊢
     repeat' first | refine pw_seq ?_ | refine pw_skip ?_ | refine pw_ret ?_ | refine pw_exit ?_ | refine pw_block ?_ | refine pw_region (fun _ => false) hmix ?_ | (refine rc (c1) rfl ?_ ?_; (· first | rfl | (simp (disch := omega) only [go_sem, simprocAttr, hbl]; done))) | (refine wpG_split rfl rfl (fun hc => ?_) (fun hc => ?_) <;> try simp only [hcL, reduceCtorEq] at hc) | (refine pw_cond _ rfl rfl (fun hc => ?_) (fun hc => ?_) <;> (try simp only [hcL, reduceCtorEq] at hc) <;> try (exfalso; omega)) | simp (maxSteps := 1000000) (disch := omega) only [go_sem, simprocAttr, hbl] | apply And.intro | omega | decide +kernel
     refine ⟨(f, (n, ls, ar, cs), i + 1), ?_, eL [] _ _ (by refine ⟨?_, ?_⟩ <;> (repeat' first | exact List.forall_mem_nil _ | refine List.forall_mem_cons.2 ⟨(by first | rfl | (simp (disch := omega) only [go_sem, simprocAttr, inL, Int.natCast_add, Int.natCast_one]; first | done | omega | (congr 1; done))), ?_⟩); done), ?_⟩
     ·exact ⟨hK, by dsimp only; omega, hlt, hres⟩
     ·exact Nat.lt_succ_self _
    ·have c2 := h4 b i hK hlt hb
     have c3 := h5 b i hK hlt
     have hg := hK.lay (k := i) (by omega)
     rw [hb] at c1
     rw [hb, if_pos rfl] at hres
     have hs := ms_put hK (by omega) (betF_yes hb).2
     have hK2 := bet_kin hK (i := i) (by omega)
     clear h3 h4 h5
     generalize bestPut b i = P at *
     generalize permL (lstN b.2.1 i) (bestAll (orM b i)).1 = py at *
     generalize lstN b.2.1 i = y at *
     obtain ⟨n, ls, ar, cs⟩ := b
     dsimp only at hbl hb c1 c2 c3 hg ⊢
     repeat' first | refine pw_seq ?_ | refine pw_skip ?_ | refine pw_ret ?_ | refine pw_exit ?_ | refine pw_block ?_ | refine pw_region (fun _ => false) hmix ?_ | (refine rc (c1) rfl ?_ ?_; (· first | rfl | (simp (disch := omega) only [go_sem, simprocAttr, hbl, hg]; done))) | (refine rc (c2) rfl ?_ ?_; (· first | rfl | (simp (disch := omega) only [go_sem, simprocAttr, hbl, hg]; done))) | (refine rc (c3) rfl ?_ ?_; (· first | rfl | (simp (disch := omega) only [go_sem, simprocAttr, hbl, hg]; done))) | (refine wpG_split rfl rfl (fun hc => ?_) (fun hc => ?_) <;> try simp only [hcL, reduceCtorEq] at hc) | (refine pw_cond _ rfl rfl (fun hc => ?_) (fun hc => ?_) <;> (try simp only [hcL, reduceCtorEq] at hc) <;> try (exfalso; omega)) | simp (maxSteps := 1000000) (disch := omega) only [go_sem, simprocAttr, hbl, hg] | apply And.intro | omega | decide +kernel
     refine ⟨(f, P, 0), ?_, eL [] _ _ (by refine ⟨?_, ?_⟩ <;> (repeat' first | exact List.forall_mem_nil _ | refine List.forall_mem_cons.2 ⟨(by first | rfl | (simp (disch := omega) only [go_sem, simprocAttr, inL]; first | done | omega | (congr 1; done))), ?_⟩); done), ?_⟩
     ·exact ⟨hK2, by dsimp only; omega, Nat.zero_le _, hres⟩
     ·exact Nat.lt_succ_self _
   ·rw [refN_end (by omega)] at hres
    subst hres
    obtain ⟨n, ls, ar, cs⟩ := b
    dsimp only at hbl ⊢
    repeat' first | refine pw_seq ?_ | refine pw_skip ?_ | refine pw_ret ?_ | refine pw_exit ?_ | refine pw_block ?_ | refine pw_region (fun _ => false) hmix ?_ | (refine wpG_split rfl rfl (fun hc => ?_) (fun hc => ?_) <;> try simp only [hcL, reduceCtorEq] at hc) | (refine pw_cond _ rfl rfl (fun hc => ?_) (fun hc => ?_) <;> (try simp only [hcL, reduceCtorEq] at hc) <;> try (exfalso; omega)) | simp (maxSteps := 1000000) (disch := omega) only [go_sem, simprocAttr, hbl] | apply And.intro | omega | decide +kernel
    refine ⟨_, _, _, _, rfl, ?_⟩
    simp (maxSteps := 1000000) (disch := omega) only [go_sem, simprocAttr, toD]
end Go.Proofs.YtldbcbclhpcofaaGreat
namespace Go.Proofs.YtldbcbclhpcofaaGreat
open Go Go.PS Go.Proofs
set_option maxRecDepth 100000
attribute [local irreducible] wpRun wpG CallsTo CallsM

set_option maxHeartbeats 4000000 in
theorem bRun0_spec (a : Lv) (hw : wide a) (hv : validF a = true) : CallsTo Tryz.prog 37 [lvD a, .int 0] (.tup [lvD a, .int (TotalF a)]) := by
 have h1 := LvValid_spec a hw
 rw [hv] at h1
 obtain ⟨t1, t2⟩ := lv_le hv
 have h2 := copied_spec a hv
 have h3 := Total_spec a hw (by omega)
 generalize TotalF a = t at *
 obtain ⟨n, ls, ar, cs⟩ := a
 dsimp only at *
 refine callsTo_of Tryz.func37 rfl (by decide +kernel) (Nat.le_of_ble_eq_true rfl) ?_
 intro hat B X w0
 repeat' first | refine pw_seq ?_ | refine pw_skip ?_ | refine pw_ret ?_ | refine pw_exit ?_ | refine pw_block ?_ | refine pw_region (fun _ => false) hmix ?_ | (refine rc (h1) rfl ?_ ?_; (· first | rfl | (simp (disch := omega) only [go_sem, simprocAttr]; done))) | (refine rc (h2) rfl ?_ ?_; (· first | rfl | (simp (disch := omega) only [go_sem, simprocAttr]; done))) | (refine rc (h3) rfl ?_ ?_; (· first | rfl | (simp (disch := omega) only [go_sem, simprocAttr]; done))) | (refine wpG_split rfl rfl (fun hc => ?_) (fun hc => ?_) <;> try simp only [hcL, reduceCtorEq] at hc) | (refine pw_cond _ rfl rfl (fun hc => ?_) (fun hc => ?_) <;> (try simp only [hcL, reduceCtorEq] at hc) <;> try (exfalso; omega)) | simp (maxSteps := 1000000) (disch := omega) only [go_sem, simprocAttr] | apply And.intro | omega | decide +kernel
 refine pw_loopI (κ := Nat) (fun (k : Nat) => k = 0) (fun (k : Nat) => [(4, .ptr 4 0 0 0), (6, .ptr 6 0 0 0), (7, .int t), (20, .int 0), (21, .int k)]) (fun (k : Nat) => [(4, .cells [.int 0, .nilS, .nilS, .nilS]), (6, .cells [.int n, .d (listsD ls), .d (arcsD ar), .d (listsD cs)])]) (fun (k : Nat) => 0) 0 ?_ ?_ ?_
 ·rfl
 ·exact eL [] _ _ (by refine ⟨?_, ?_⟩ <;> (repeat' first | exact List.forall_mem_nil _ | refine List.forall_mem_cons.2 ⟨(by first | rfl | (simp (disch := omega) only [go_sem, simprocAttr, inL]; first | done | omega | (congr 1; done))), ?_⟩); done)
 ·rintro k rfl
  repeat' first | refine pw_seq ?_ | refine pw_skip ?_ | refine pw_ret ?_ | refine pw_exit ?_ | refine pw_block ?_ | refine pw_region (fun _ => false) hmix ?_ | (refine wpG_split rfl rfl (fun hc => ?_) (fun hc => ?_) <;> try simp only [hcL, reduceCtorEq] at hc) | (refine pw_cond _ rfl rfl (fun hc => ?_) (fun hc => ?_) <;> (try simp only [hcL, reduceCtorEq] at hc) <;> try (exfalso; omega)) | simp (maxSteps := 1000000) (disch := omega) only [go_sem, simprocAttr] | apply And.intro | omega | decide +kernel
  refine ⟨_, rfl, ⟨_, _, _, _, rfl, ?_⟩, int_some rfl, trivial⟩
  simp (maxSteps := 1000000) (disch := omega) only [go_sem, simprocAttr, toD]
set_option maxHeartbeats 4000000 in
theorem oRun0_spec (a : Lv) (hw : wide a) (hv : validF a = true) (har : a.2.2.1.length ≤ 700) : CallsTo Tryz.prog 17 [lvD a, .int 0] (.tup [lvD (refineF a), .int (TotalF (refineF a)), .int 0]) := by
 have h1 := LvValid_spec a hw
 rw [hv] at h1
 obtain ⟨t1, t2⟩ := lv_le hv
 have hb := bRun0_spec a hw hv
 have h3 := Refine_spec a hw har
 rw [if_pos hv] at h3
 have hK2 := (refine_ok hv hw).1
 have h4 := Total_spec (refineF a) hK2.wd (by rw [hK2.len]; omega)
 generalize refineF a = Q at *
 generalize TotalF a = tp at *
 generalize TotalF Q = tq at *
 clear hK2
 obtain ⟨n1, ls1, ar1, cs1⟩ := Q
 obtain ⟨n, ls, ar, cs⟩ := a
 dsimp only at *
 refine callsTo_of Tryz.func17 rfl (by decide +kernel) (Nat.le_of_ble_eq_true rfl) ?_
 intro hat B X w0
 repeat' first | refine pw_seq ?_ | refine pw_skip ?_ | refine pw_ret ?_ | refine pw_exit ?_ | refine pw_block ?_ | refine pw_region (fun _ => false) hmix ?_ | (refine rc (h1) rfl ?_ ?_; (· first | rfl | (simp (disch := omega) only [go_sem, simprocAttr, List.append_eq]; done))) | (refine rc (hb) rfl ?_ ?_; (· first | rfl | (simp (disch := omega) only [go_sem, simprocAttr, List.append_eq]; done))) | (refine rc (h3) rfl ?_ ?_; (· first | rfl | (simp (disch := omega) only [go_sem, simprocAttr, List.append_eq]; done))) | (refine rc (h4) rfl ?_ ?_; (· first | rfl | (simp (disch := omega) only [go_sem, simprocAttr, List.append_eq]; done))) | (refine wpG_split rfl rfl (fun hc => ?_) (fun hc => ?_) <;> try simp only [hcL, reduceCtorEq] at hc) | (refine pw_cond _ rfl rfl (fun hc => ?_) (fun hc => ?_) <;> (try simp only [hcL, reduceCtorEq] at hc) <;> try (exfalso; omega)) | simp (maxSteps := 1000000) (disch := omega) only [go_sem, simprocAttr, List.append_eq] | apply And.intro | omega | decide +kernel
 refine ⟨_, rfl, ⟨_, _, _, _, rfl, ?_⟩, int_some rfl, int_some rfl, trivial⟩
 simp (maxSteps := 1000000) (disch := omega) only [go_sem, simprocAttr, toD]
theorem oRunN_spec (a : Lv) (hw : wide a) (hv : validF a = true) : CallsTo Tryz.prog 17 [lvD a, .int (-1)] (.tup [lvD lv0, .int 0, .int 1]) := by
 have h1 := LvValid_spec a hw
 rw [hv] at h1
 refine callsTo_of Tryz.func17 rfl (by decide +kernel) (Nat.le_of_ble_eq_true rfl) ?_
 intro hat B X w0
 repeat' first | refine pw_seq ?_ | refine pw_skip ?_ | refine pw_ret ?_ | refine pw_exit ?_ | refine pw_block ?_ | refine pw_region (fun _ => false) hmix ?_ | (refine rc (h1) rfl ?_ ?_; (· first | rfl | (simp (disch := omega) only [go_sem, simprocAttr, List.append_eq]; done))) | (refine wpG_split rfl rfl (fun hc => ?_) (fun hc => ?_) <;> try simp only [hcL, reduceCtorEq] at hc) | (refine pw_cond _ rfl rfl (fun hc => ?_) (fun hc => ?_) <;> (try simp only [hcL, reduceCtorEq] at hc) <;> try (exfalso; omega)) | simp (maxSteps := 1000000) (disch := omega) only [go_sem, simprocAttr, List.append_eq] | apply And.intro | omega | decide +kernel
 refine ⟨_, rfl, ⟨_, _, _, _, rfl, ?_⟩, int_some rfl, int_some rfl, trivial⟩
 simp (maxSteps := 1000000) (disch := omega) only [go_sem, simprocAttr, toD]
 rfl
end Go.Proofs.YtldbcbclhpcofaaGreat
namespace Go.Proofs.YtldbcbclhpcofaaGreat
open Go Go.PS Go.Proofs
open Go.Bd (sm sumC Part)
set_option maxRecDepth 100000
attribute [local irreducible] wpRun wpG CallsTo CallsM

def badO (y : List Int) : Bool := decide (y.length = 7 ∨ y.length = 8 ∨ 20 < y.length)
def longO (y : List Int) : Bool := decide (20 < y.length)
def fewO (a : Lv) : Bool := decide (a.2.1.length ≤ 12 ∧ a.2.2.1.length ≤ 60 ∧ a.2.2.2.length ≤ 60) && !a.2.1.any badO && !a.2.2.2.any longO
set_option maxHeartbeats 4000000 in
theorem fewO_spec (a : Lv) (hw : wide a) : CallsTo Tryz.prog 8 [lvD a] (.bool (fewO a)) := by
 rw [fewO]
 have hyw : ∀ (k : Nat) y, a.2.1[k]? = some y → y.length * 8 ≤ 140737488351232 := fun k y h => hw y (List.mem_of_getElem? h)
 obtain ⟨n, ls, ar, cs⟩ := a
 dsimp only at hyw ⊢
 refine callsTo_of Tryz.func8 rfl (by decide +kernel) (Nat.le_of_ble_eq_true rfl) ?_
 intro hat B X w0
 have h1 := at_len2 0 1 hat rfl rfl
 have h2 := at_len2 0 2 hat rfl rfl
 have h3 := at_len2 0 3 hat rfl rfl
 rw [List.length_map] at h1 h2 h3
 dsimp only at h1 h2 h3
 by_cases c : ls.length ≤ 12 ∧ ar.length ≤ 60 ∧ cs.length ≤ 60
 ·obtain ⟨c1, c2, c3⟩ := c
  rw [decide_eq_true ⟨c1, c2, c3⟩, Bool.true_and]
  repeat' first | refine pw_seq ?_ | refine pw_skip ?_ | refine pw_ret ?_ | refine pw_exit ?_ | refine pw_block ?_ | refine pw_region (fun _ => false) hmix ?_ | (refine wpG_split rfl rfl (fun hc => ?_) (fun hc => ?_) <;> try simp only [hcL, reduceCtorEq] at hc) | (refine pw_cond _ rfl rfl (fun hc => ?_) (fun hc => ?_) <;> (try simp only [hcL, reduceCtorEq] at hc) <;> try (exfalso; omega)) | simp (maxSteps := 1000000) (disch := omega) only [go_sem, simprocAttr, List.append_eq] | apply And.intro | omega | decide +kernel
  refine pw_loopI (κ := Nat) (fun (k : Nat) => k ≤ ls.length ∧ ∀ (q : Nat) y, q < k → ls[q]? = some y → badO y = false) (fun (k : Nat) => [(1, .ptr 1 0 0 0), (3, .int k)]) (fun (k : Nat) => [(1, .cells [.int n, .d (listsD ls), .d (arcsD ar), .d (listsD cs)])]) (fun (k : Nat) => ls.length - k) 0 ?_ ?_ ?_
  ·exact ⟨Nat.zero_le _, fun q y hq => by omega⟩
  ·exact eL [] _ _ (by refine ⟨?_, ?_⟩ <;> (repeat' first | exact List.forall_mem_nil _ | refine List.forall_mem_cons.2 ⟨(by first | rfl | (simp (disch := omega) only [go_sem, simprocAttr, inL]; first | done | omega | (congr 1; done))), ?_⟩); done)
  ·rintro k ⟨hk, hinv⟩
   rcases Nat.lt_or_ge k ls.length with hlt | hge
   ·obtain ⟨y, hy⟩ := get_some hlt
    have hyl := hyw k y hy
    by_cases cb : y.length = 7 ∨ y.length = 8 ∨ 20 < y.length
    ·rw [any_at hy (by rw [badO, decide_eq_true cb])]
     repeat' first | refine pw_seq ?_ | refine pw_skip ?_ | refine pw_ret ?_ | refine pw_exit ?_ | refine pw_block ?_ | refine pw_region (fun _ => false) hmix ?_ | (refine wpG_split rfl rfl (fun hc => ?_) (fun hc => ?_) <;> try simp only [hcL, reduceCtorEq] at hc) | (refine pw_cond _ rfl rfl (fun hc => ?_) (fun hc => ?_) <;> (try simp only [hcL, reduceCtorEq] at hc) <;> try (exfalso; omega)) | simp (maxSteps := 1000000) (disch := omega) only [go_sem, simprocAttr, hy] | apply And.intro | omega | decide +kernel
     all_goals exact bool_some rfl
    ·repeat' first | refine pw_seq ?_ | refine pw_skip ?_ | refine pw_ret ?_ | refine pw_exit ?_ | refine pw_block ?_ | refine pw_region (fun _ => false) hmix ?_ | (refine wpG_split rfl rfl (fun hc => ?_) (fun hc => ?_) <;> try simp only [hcL, reduceCtorEq] at hc) | (refine pw_cond _ rfl rfl (fun hc => ?_) (fun hc => ?_) <;> (try simp only [hcL, reduceCtorEq] at hc) <;> try (exfalso; omega)) | simp (maxSteps := 1000000) (disch := omega) only [go_sem, simprocAttr, hy] | apply And.intro | omega | decide +kernel
     refine ⟨k + 1, ?_, eL [] _ _ (by refine ⟨?_, ?_⟩ <;> (repeat' first | exact List.forall_mem_nil _ | refine List.forall_mem_cons.2 ⟨(by first | rfl | (simp (disch := omega) only [go_sem, simprocAttr, inL]; first | done | omega | (congr 1; done))), ?_⟩); done), ?_⟩
     ·exact ⟨by omega, upto_succ hinv hy (by rw [badO, decide_eq_false cb])⟩
     ·omega
   ·have : k = ls.length := by omega
    subst this
    rw [any_no (q := badO) (l := ls) fun j y hj hy => hinv j y hj hy]
    repeat' first | refine pw_seq ?_ | refine pw_skip ?_ | refine pw_ret ?_ | refine pw_exit ?_ | refine pw_block ?_ | refine pw_region (fun _ => false) hmix ?_ | (refine wpG_split rfl rfl (fun hc => ?_) (fun hc => ?_) <;> try simp only [hcL, reduceCtorEq] at hc) | (refine pw_cond _ rfl rfl (fun hc => ?_) (fun hc => ?_) <;> (try simp only [hcL, reduceCtorEq] at hc) <;> try (exfalso; omega)) | simp (maxSteps := 1000000) (disch := omega) only [go_sem, simprocAttr] | apply And.intro | omega | decide +kernel
    refine pw_loopI (κ := Nat) (fun (k : Nat) => k ≤ cs.length ∧ ∀ (q : Nat) y, q < k → cs[q]? = some y → longO y = false) (fun (k : Nat) => [(1, .ptr 1 0 0 0), (5, .int k)]) (fun (k : Nat) => [(1, .cells [.int n, .d (listsD ls), .d (arcsD ar), .d (listsD cs)])]) (fun (k : Nat) => cs.length - k) 0 ?_ ?_ ?_
    ·exact ⟨Nat.zero_le _, fun q y hq => by omega⟩
    ·exact eL [] _ _ (by refine ⟨?_, ?_⟩ <;> (repeat' first | exact List.forall_mem_nil _ | refine List.forall_mem_cons.2 ⟨(by first | rfl | (simp (disch := omega) only [go_sem, simprocAttr, inL]; first | done | omega | (congr 1; done))), ?_⟩); done)
    ·rintro k ⟨hk, hinv⟩
     rcases Nat.lt_or_ge k cs.length with hlt | hge
     ·obtain ⟨y, hy⟩ := get_some hlt
      by_cases cb : 20 < y.length
      ·rw [any_at hy (by rw [longO, decide_eq_true cb])]
       repeat' first | refine pw_seq ?_ | refine pw_skip ?_ | refine pw_ret ?_ | refine pw_exit ?_ | refine pw_block ?_ | refine pw_region (fun _ => false) hmix ?_ | (refine wpG_split rfl rfl (fun hc => ?_) (fun hc => ?_) <;> try simp only [hcL, reduceCtorEq] at hc) | (refine pw_cond _ rfl rfl (fun hc => ?_) (fun hc => ?_) <;> (try simp only [hcL, reduceCtorEq] at hc) <;> try (exfalso; omega)) | simp (maxSteps := 1000000) (disch := omega) only [go_sem, simprocAttr, hy, cb] | apply And.intro | omega | decide +kernel
       exact bool_some rfl
      ·repeat' first | refine pw_seq ?_ | refine pw_skip ?_ | refine pw_ret ?_ | refine pw_exit ?_ | refine pw_block ?_ | refine pw_region (fun _ => false) hmix ?_ | (refine wpG_split rfl rfl (fun hc => ?_) (fun hc => ?_) <;> try simp only [hcL, reduceCtorEq] at hc) | (refine pw_cond _ rfl rfl (fun hc => ?_) (fun hc => ?_) <;> (try simp only [hcL, reduceCtorEq] at hc) <;> try (exfalso; omega)) | simp (maxSteps := 1000000) (disch := omega) only [go_sem, simprocAttr, hy, cb] | apply And.intro | omega | decide +kernel
       refine ⟨k + 1, ?_, eL [] _ _ (by refine ⟨?_, ?_⟩ <;> (repeat' first | exact List.forall_mem_nil _ | refine List.forall_mem_cons.2 ⟨(by first | rfl | (simp (disch := omega) only [go_sem, simprocAttr, inL]; first | done | omega | (congr 1; done))), ?_⟩); done), ?_⟩
       ·exact ⟨by omega, upto_succ hinv hy (by rw [longO, decide_eq_false cb])⟩
       ·omega
     ·have : k = cs.length := by omega
      subst this
      rw [any_no (q := longO) (l := cs) fun j y hj hy => hinv j y hj hy]
      repeat' first | refine pw_seq ?_ | refine pw_skip ?_ | refine pw_ret ?_ | refine pw_exit ?_ | refine pw_block ?_ | refine pw_region (fun _ => false) hmix ?_ | (refine wpG_split rfl rfl (fun hc => ?_) (fun hc => ?_) <;> try simp only [hcL, reduceCtorEq] at hc) | (refine pw_cond _ rfl rfl (fun hc => ?_) (fun hc => ?_) <;> (try simp only [hcL, reduceCtorEq] at hc) <;> try (exfalso; omega)) | simp (maxSteps := 1000000) (disch := omega) only [go_sem, simprocAttr] | apply And.intro | omega | decide +kernel
      exact bool_some rfl
 ·rw [decide_eq_false c]
  repeat' first | refine pw_seq ?_ | refine pw_skip ?_ | refine pw_ret ?_ | refine pw_exit ?_ | refine pw_block ?_ | refine pw_region (fun _ => false) hmix ?_ | (refine wpG_split rfl rfl (fun hc => ?_) (fun hc => ?_) <;> try simp only [hcL, reduceCtorEq] at hc) | (refine pw_cond _ rfl rfl (fun hc => ?_) (fun hc => ?_) <;> (try simp only [hcL, reduceCtorEq] at hc) <;> try (exfalso; omega)) | simp (maxSteps := 1000000) (disch := omega) only [go_sem, simprocAttr, List.append_eq] | apply And.intro | omega | decide +kernel
  all_goals exact bool_some rfl
theorem fewO_in {a : Lv} (h : fewO a = true) : a.2.1.length ≤ 12 ∧ a.2.2.1.length ≤ 60 ∧ a.2.2.2.length ≤ 60 := by
 simp only [fewO, Bool.and_eq_true, decide_eq_true_eq] at h
 exact h.1.1
/-! The chapter's example. -/
def exL : Lv := (6, [[0, 1, 2], [3, 4, 5]], [(0, 5), (1, 4), (2, 3)], [[0, 5], [1, 4], [2, 3]])
def exB : Lv := (6, [[2, 1, 0], [3, 4, 5]], [(0, 5), (1, 4), (2, 3)], [[0, 5], [1, 4], [2, 3]])
theorem exL_valid : validF exL = true := by
 simp only [validF, sortLv, exL, List.map_cons, List.map_nil, ← insN_eq]
 decide +kernel
theorem exB_valid : validF exB = true := by
 simp only [validF, sortLv, exB, List.map_cons, List.map_nil, ← insN_eq]
 decide +kernel
def exM1 : List (List Int) := [[0, 1, 1], [0, 0, 1], [0, 0, 0]]
def exM2 : List (List Int) := [[0, 0, 0], [1, 0, 0], [1, 1, 0]]
theorem ex_m1 : MatrixF exL 0 1 = exM1 := by simp only [MatrixF, matOk, exL_valid]; decide +kernel
theorem ex_m2 : MatrixF exL 0 (-1) = [] := by simp only [MatrixF, matOk, exL_valid]; decide +kernel
theorem ex_m3 : MatrixF exB 0 1 = exM2 := by simp only [MatrixF, matOk, exB_valid]; decide +kernel
theorem ex_m4 : MatrixF exB 0 (-1) = [] := by simp only [MatrixF, matOk, exB_valid]; decide +kernel
theorem ex_m5 : MatrixF exB 1 0 = exM2 := by simp only [MatrixF, matOk, exB_valid]; decide +kernel
theorem ex_m6 : MatrixF exB 1 2 = [] := by simp only [MatrixF, matOk, exB_valid]; decide +kernel
theorem ex_t1 : TotalF exL = 3 := by simp only [TotalF, BetweenF, MatrixF, matOk, exL_valid]; decide +kernel
theorem ex_t2 : TotalF exB = 0 := by simp only [TotalF, BetweenF, MatrixF, matOk, exB_valid]; decide +kernel
theorem orM_of {a : Lv} {i : Nat} {y : List Int} {p q : List (List Int)} (hy : lstN a.2.1 i = y) (hp : MatrixF a i ((i : Int) - 1) = p) (hq : MatrixF a i ((i : Int) + 1) = q) :
  orM a i = sqM (fun u v => 0 + cellAt p u v + cellAt q u v) y.length := by
 have h : accC a [] y 0 i 2 = fun u v => 0 + cellAt p u v + cellAt q u v := by
  funext u v
  have e := accC_zero a i u v
  rw [hy] at e
  show accC a [] y 0 i 0 u v + cellAt (MatrixF a i ((i : Int) - 1)) u v + cellAt (MatrixF a i ((i : Int) + 1)) u v = _
  rw [e, hp, hq]
 rw [orM, stM, hy, h]
theorem ex_o1 : orM exL 0 = sqM (fun u v => 0 + cellAt [] u v + cellAt exM1 u v) 3 := orM_of (y := [0, 1, 2]) rfl ex_m2 ex_m1
theorem ex_o2 : orM exB 0 = sqM (fun u v => 0 + cellAt [] u v + cellAt exM2 u v) 3 := orM_of (y := [2, 1, 0]) rfl ex_m4 ex_m3
theorem ex_o3 : orM exB 1 = sqM (fun u v => 0 + cellAt exM2 u v + cellAt [] u v) 3 := orM_of (y := [3, 4, 5]) rfl ex_m5 ex_m6
theorem ex_b1 : betB exL 0 = true := by rw [betB, ex_o1]; decide +kernel
theorem ex_b2 : betB exB 0 = false := by rw [betB, ex_o2]; decide +kernel
theorem ex_b3 : betB exB 1 = false := by rw [betB, ex_o3]; decide +kernel
theorem ex_f1 : (betF exL 0).2 = true := by rw [betF, if_neg (by decide)]; exact ex_b1
theorem ex_f2 : (betF exB 0).2 = false := by rw [betF, if_neg (by decide)]; exact ex_b2
theorem ex_f3 : (betF exB 1).2 = false := by rw [betF, if_neg (by decide)]; exact ex_b3
theorem ex_p1 : bestPut exL 0 = exB := by rw [bestPut, ex_o1]; decide +kernel
theorem ex_r1 : refineF exL = exB := by
 have hm : refMs exL 0 = 11 := by rw [refMs, ex_t1]; rfl
 rw [refineF, hm, refN, if_pos (by decide), if_pos ex_f1, ex_p1, refN, if_pos (by decide), if_neg (by rw [ex_f2]; decide), refN, if_pos (by decide), if_neg (by rw [ex_f3]; decide), refN, if_neg (by decide)]
theorem ex_e1 : exaF exL 0 1 = (exB, 0) := by
 have hm : matOk exL 0 1 = true := by simp only [matOk, exL_valid]; decide
 rw [exaF, if_neg (by rw [hm]; decide), if_neg (by decide), ex_m1]
 decide +kernel
theorem ex_q1 : optF exL 0 = false := by
 rw [optF, exL_valid]
 show (true && _ && _ && !betB exL 0) = false
 rw [ex_b1]; simp
theorem ex_q2 : optF exB 0 = true := by
 rw [optF, exB_valid]
 show (true && decide ((0 : Int) ≤ 0 ∧ (0 : Int) < exB.2.1.length) && decide (¬ 8 < (lstN exB.2.1 0).length) && !betB exB 0) = true
 rw [ex_b2]; decide
theorem wide_ex : wide exL ∧ wide exB := by
 constructor <;>
 ·intro y hy
  simp only [exL, exB, List.mem_cons, List.not_mem_nil, or_false] at hy
  rcases hy with rfl | rfl <;> decide
theorem ex_same : sameLv exB exB = true := by decide +kernel
set_option maxHeartbeats 4000000 in
theorem oAwake_spec : CallsTo Tryz.prog 9 [] (.bool true) := by
 have h1 := Exact_spec exL 0 1 wide_ex.1
 rw [ex_e1] at h1
 have h2 := Refine_spec exL wide_ex.1 (by decide)
 rw [if_pos exL_valid, ex_r1] at h2
 have h3 := oRun0_spec exL wide_ex.1 exL_valid (by decide)
 rw [ex_r1, ex_t2] at h3
 have h4 := oRunN_spec exL wide_ex.1 exL_valid
 have h5 := rSame_spec exB exB
 rw [ex_same] at h5
 have h6 := Optimal_spec exL 0 wide_ex.1 (by decide)
 rw [ex_q1] at h6
 have h7 := Optimal_spec exB 0 wide_ex.2 (by decide)
 rw [ex_q2] at h7
 simp only [exL, exB, lv0, List.map_cons, List.map_nil] at h1 h2 h3 h4 h5 h6 h7
 refine callsTo_of Tryz.func9 rfl (by decide +kernel) (Nat.le_of_ble_eq_true rfl) ?_
 intro hat B X w0
 repeat' first | refine pw_seq ?_ | refine pw_skip ?_ | refine pw_ret ?_ | refine pw_exit ?_ | refine pw_block ?_ | refine pw_region (fun _ => false) hmix ?_ | (refine rc (h1) rfl ?_ ?_; (· first | rfl | (simp (disch := omega) only [go_sem, simprocAttr, List.append_eq, List.map_cons, List.map_nil]; done))) | (refine rc (h2) rfl ?_ ?_; (· first | rfl | (simp (disch := omega) only [go_sem, simprocAttr, List.append_eq, List.map_cons, List.map_nil]; done))) | (refine rc (h3) rfl ?_ ?_; (· first | rfl | (simp (disch := omega) only [go_sem, simprocAttr, List.append_eq, List.map_cons, List.map_nil]; done))) | (refine rc (h4) rfl ?_ ?_; (· first | rfl | (simp (disch := omega) only [go_sem, simprocAttr, List.append_eq, List.map_cons, List.map_nil]; done))) | (refine rc (h5) rfl ?_ ?_; (· first | rfl | (simp (disch := omega) only [go_sem, simprocAttr, List.append_eq, List.map_cons, List.map_nil]; done))) | (refine rc (h6) rfl ?_ ?_; (· first | rfl | (simp (disch := omega) only [go_sem, simprocAttr, List.append_eq, List.map_cons, List.map_nil]; done))) | (refine rc (h7) rfl ?_ ?_; (· first | rfl | (simp (disch := omega) only [go_sem, simprocAttr, List.append_eq, List.map_cons, List.map_nil]; done))) | (refine wpG_split rfl rfl (fun hc => ?_) (fun hc => ?_) <;> try simp only [hcL, reduceCtorEq] at hc) | (refine pw_cond _ rfl rfl (fun hc => ?_) (fun hc => ?_) <;> (try simp only [hcL, reduceCtorEq] at hc) <;> try (exfalso; omega)) | simp (maxSteps := 1000000) (disch := omega) only [go_sem, simprocAttr, List.append_eq, List.map_cons, List.map_nil] | apply And.intro | omega | decide +kernel
 exact bool_some rfl
theorem same_self (a : Lv) : sameLv a a = true := by
 simp [sameLv]
set_option maxHeartbeats 4000000 in
theorem lawExact (a : Lv) (i f : Int) (hw : wide a) : CallsTo Tryz.prog 3 [lvD a, .int i, .int f] (.bool true) := by
 have h9 := oAwake_spec
 have h1 := fewO_spec a hw
 rcases hf : fewO a with _ | _ <;> rw [hf] at h1
 ·refine callsTo_of Tryz.func3 rfl (by decide +kernel) (Nat.le_of_ble_eq_true rfl) ?_
  intro hat B X w0
  repeat' first | refine pw_seq ?_ | refine pw_skip ?_ | refine pw_ret ?_ | refine pw_exit ?_ | refine pw_block ?_ | refine pw_region (fun _ => false) hmix ?_ | (refine rc (h1) rfl ?_ ?_; (· first | rfl | (simp (disch := omega) only [go_sem, simprocAttr, List.append_eq]; done))) | (refine rc (h9) rfl ?_ ?_; (· first | rfl | (simp (disch := omega) only [go_sem, simprocAttr, List.append_eq]; done))) | (refine wpG_split rfl rfl (fun hc => ?_) (fun hc => ?_) <;> try simp only [hcL, reduceCtorEq] at hc) | (refine pw_cond _ rfl rfl (fun hc => ?_) (fun hc => ?_) <;> (try simp only [hcL, reduceCtorEq] at hc) <;> try (exfalso; omega)) | simp (maxSteps := 1000000) (disch := omega) only [go_sem, simprocAttr, List.append_eq] | apply And.intro | omega | decide +kernel
  exact bool_some rfl
 ·obtain ⟨f1, f2, f3⟩ := fewO_in hf
  have h2 := Exact_spec a i f hw
  have h3 := rExact_spec a i f hw
  have h4 := Optimal_spec a i hw (by omega)
  have h5 := rOptimal_spec a i hw (by omega)
  have h6 := rSame_spec (exaF a i f).1 (exaF a i f).1
  rw [same_self] at h6
  generalize exaF a i f = E at *
  obtain ⟨⟨n', ls', ar', cs'⟩, e⟩ := E
  generalize optF a i = o at *
  dsimp only at *
  refine callsTo_of Tryz.func3 rfl (by decide +kernel) (Nat.le_of_ble_eq_true rfl) ?_
  intro hat B X w0
  repeat' first | refine pw_seq ?_ | refine pw_skip ?_ | refine pw_ret ?_ | refine pw_exit ?_ | refine pw_block ?_ | refine pw_region (fun _ => false) hmix ?_ | (refine rc (h1) rfl ?_ ?_; (· first | rfl | (simp (disch := omega) only [go_sem, simprocAttr, List.append_eq]; done))) | (refine rc (h2) rfl ?_ ?_; (· first | rfl | (simp (disch := omega) only [go_sem, simprocAttr, List.append_eq]; done))) | (refine rc (h3) rfl ?_ ?_; (· first | rfl | (simp (disch := omega) only [go_sem, simprocAttr, List.append_eq]; done))) | (refine rc (h4) rfl ?_ ?_; (· first | rfl | (simp (disch := omega) only [go_sem, simprocAttr, List.append_eq]; done))) | (refine rc (h5) rfl ?_ ?_; (· first | rfl | (simp (disch := omega) only [go_sem, simprocAttr, List.append_eq]; done))) | (refine rc (h6) rfl ?_ ?_; (· first | rfl | (simp (disch := omega) only [go_sem, simprocAttr, List.append_eq]; done))) | (refine rc (h9) rfl ?_ ?_; (· first | rfl | (simp (disch := omega) only [go_sem, simprocAttr, List.append_eq]; done))) | (refine wpG_split rfl rfl (fun hc => ?_) (fun hc => ?_) <;> try simp only [hcL, reduceCtorEq] at hc) | (refine pw_cond _ rfl rfl (fun hc => ?_) (fun hc => ?_) <;> (try simp only [hcL, reduceCtorEq] at hc) <;> try (exfalso; omega)) | simp (maxSteps := 1000000) (disch := omega) only [go_sem, simprocAttr, List.append_eq] | apply And.intro | omega | decide +kernel
  all_goals exact bool_some (by simp)
set_option maxHeartbeats 4000000 in
theorem lawRefines (a : Lv) (hw : wide a) : CallsTo Tryz.prog 4 [lvD a] (.bool true) := by
 have h9 := oAwake_spec
 have h1 := fewO_spec a hw
 rcases hf : fewO a with _ | _ <;> rw [hf] at h1
 ·refine callsTo_of Tryz.func4 rfl (by decide +kernel) (Nat.le_of_ble_eq_true rfl) ?_
  intro hat B X w0
  repeat' first | refine pw_seq ?_ | refine pw_skip ?_ | refine pw_ret ?_ | refine pw_exit ?_ | refine pw_block ?_ | refine pw_region (fun _ => false) hmix ?_ | (refine rc (h1) rfl ?_ ?_; (· first | rfl | (simp (disch := omega) only [go_sem, simprocAttr, List.append_eq]; done))) | (refine rc (h9) rfl ?_ ?_; (· first | rfl | (simp (disch := omega) only [go_sem, simprocAttr, List.append_eq]; done))) | (refine wpG_split rfl rfl (fun hc => ?_) (fun hc => ?_) <;> try simp only [hcL, reduceCtorEq] at hc) | (refine pw_cond _ rfl rfl (fun hc => ?_) (fun hc => ?_) <;> (try simp only [hcL, reduceCtorEq] at hc) <;> try (exfalso; omega)) | simp (maxSteps := 1000000) (disch := omega) only [go_sem, simprocAttr, List.append_eq] | apply And.intro | omega | decide +kernel
  exact bool_some rfl
 ·obtain ⟨f1, f2, f3⟩ := fewO_in hf
  have h2 := Refine_spec a hw (by omega)
  have h3 := rRefine_spec a hw (by omega)
  have h6 := rSame_spec (if validF a then refineF a else lv0) (if validF a then refineF a else lv0)
  rw [same_self] at h6
  generalize (if validF a then refineF a else lv0) = E at *
  obtain ⟨n', ls', ar', cs'⟩ := E
  refine callsTo_of Tryz.func4 rfl (by decide +kernel) (Nat.le_of_ble_eq_true rfl) ?_
  intro hat B X w0
  repeat' first | refine pw_seq ?_ | refine pw_skip ?_ | refine pw_ret ?_ | refine pw_exit ?_ | refine pw_block ?_ | refine pw_region (fun _ => false) hmix ?_ | (refine rc (h1) rfl ?_ ?_; (· first | rfl | (simp (disch := omega) only [go_sem, simprocAttr, List.append_eq]; done))) | (refine rc (h2) rfl ?_ ?_; (· first | rfl | (simp (disch := omega) only [go_sem, simprocAttr, List.append_eq]; done))) | (refine rc (h3) rfl ?_ ?_; (· first | rfl | (simp (disch := omega) only [go_sem, simprocAttr, List.append_eq]; done))) | (refine rc (h6) rfl ?_ ?_; (· first | rfl | (simp (disch := omega) only [go_sem, simprocAttr, List.append_eq]; done))) | (refine rc (h9) rfl ?_ ?_; (· first | rfl | (simp (disch := omega) only [go_sem, simprocAttr, List.append_eq]; done))) | (refine wpG_split rfl rfl (fun hc => ?_) (fun hc => ?_) <;> try simp only [hcL, reduceCtorEq] at hc) | (refine pw_cond _ rfl rfl (fun hc => ?_) (fun hc => ?_) <;> (try simp only [hcL, reduceCtorEq] at hc) <;> try (exfalso; omega)) | simp (maxSteps := 1000000) (disch := omega) only [go_sem, simprocAttr, List.append_eq] | apply And.intro | omega | decide +kernel
  exact bool_some rfl
end Go.Proofs.YtldbcbclhpcofaaGreat
