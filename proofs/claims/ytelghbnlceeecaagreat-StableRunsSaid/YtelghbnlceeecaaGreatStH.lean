/- The reference's Inversions; costs, by the program and by the reference. -/
import Derived.Test.YtelghbnlceeecaaGreatStE
set_option linter.unusedSimpArgs false
set_option linter.unusedVariables false
namespace Go.Proofs.YtelghbnlceeecaaGreat
open Go Go.PS Go.Proofs
open Go.Bd (ix invF invN comN refN refB)
set_option maxRecDepth 100000
attribute [local irreducible] wpRun wpG CallsTo CallsM

theorem refN_bd (old order : List Int) (ho : order.length ≤ 600) (i : Nat) (hi : i ≤ order.length) : refN old order i ≤ 360000 := by
  rw [Go.Bd.refN_inv old order i hi]
  have h1 := invN_le (fun v => old.idxOf v) (comN old order i)
  have h2 : (comN old order i).length ≤ 600 := by have := comN_len old order i; omega
  exact Nat.le_trans h1 (Nat.le_trans (Nat.mul_le_mul h2 h2) (by decide))
set_option maxHeartbeats 2000000 in
theorem rInversions_spec (old order : List Int) (ho : order.length ≤ 600) : CallsTo Tryz.prog 45 [intsD old, intsD order] (.int (invF old order)) := by
  rw [invF, ← Go.Bd.refN_inv old order _ (Nat.le_refl _)]
  have hbd := refN_bd old order ho
  refine callsTo_of Tryz.func45 rfl (by decide +kernel) (Nat.le_of_ble_eq_true rfl) ?_
  intro hat B X w0
  have hlo := at_len 0 hat rfl
  rw [List.length_map] at hlo
  repeat' first | refine pw_seq ?_ | refine pw_skip ?_ | refine pw_ret ?_ | refine pw_exit ?_ | refine pw_block ?_ | refine pw_region (fun _ => false) hmix ?_ | (refine wpG_split rfl rfl (fun hc => ?_) (fun hc => ?_) <;> try simp only [hcL, reduceCtorEq] at hc) | (refine pw_cond _ rfl rfl (fun hc => ?_) (fun hc => ?_) <;> (try simp only [hcL, reduceCtorEq] at hc) <;> try (exfalso; omega)) | simp (maxSteps := 1000000) (disch := omega) only [go_sem, simprocAttr] | apply And.intro | omega | decide +kernel
  refine pw_loopI (κ := Nat) (fun (i : Nat) => i ≤ order.length) (fun (i : Nat) => [(0, .d (intsD old)), (1, .d (intsD order)), (5, .int (refN old order i)), (6, .int i)]) (fun (i : Nat) => []) (fun (i : Nat) => order.length - i) 0 ?_ ?_ ?_
  · exact Nat.zero_le _
  · exact eL [] _ _ (by refine ⟨?_, ?_⟩ <;> (repeat' first | exact List.forall_mem_nil _ | refine List.forall_mem_cons.2 ⟨(by first | rfl | (simp (disch := omega) only [go_sem, simprocAttr, inL, refN]; first | done | omega | (congr 1; done))), ?_⟩); done)
  · intro i hi
    rcases Nat.lt_or_ge i order.length with hlt | hge
    · obtain ⟨v, hv⟩ := get_some hlt
      have h1 := rIndex_spec order v
      have h2 := rIndex_spec old v
      have e1 : refN old order (i + 1) = if ix order v = (i : Int) ∧ 0 ≤ ix old v then refN old order i + (List.range i).countP (refB old order v) else refN old order i := by rw [refN, hv]
      have b1 := hbd i hi
      have b2 := hbd (i + 1) (by omega)
      obtain ⟨cN, hcN⟩ : ∃ cN : Nat → Nat, ∀ k, cN k = (List.range k).countP (refB old order v) := ⟨_, fun _ => rfl⟩
      rw [← hcN] at e1
      have hc0 : cN 0 = 0 := by rw [hcN]; rfl
      generalize refN old order i = T at *
      by_cases c1 : ix order v = (i : Int)
      · by_cases c2 : 0 ≤ ix old v
        · rw [if_pos ⟨c1, c2⟩] at e1
          repeat' first | refine pw_seq ?_ | refine pw_skip ?_ | refine pw_ret ?_ | refine pw_exit ?_ | refine pw_block ?_ | refine pw_region (fun _ => false) hmix ?_ | (refine rc (h1) rfl ?_ ?_; (· first | rfl | (simp (disch := omega) only [go_sem, simprocAttr, hv, c1]; done))) | (refine rc (h2) rfl ?_ ?_; (· first | rfl | (simp (disch := omega) only [go_sem, simprocAttr, hv, c1]; done))) | (refine wpG_split rfl rfl (fun hc => ?_) (fun hc => ?_) <;> try simp only [hcL, reduceCtorEq] at hc) | (refine pw_cond _ rfl rfl (fun hc => ?_) (fun hc => ?_) <;> (try simp only [hcL, reduceCtorEq] at hc) <;> try (exfalso; omega)) | simp (maxSteps := 1000000) (disch := omega) only [go_sem, simprocAttr, hv, c1] | apply And.intro | omega | decide +kernel
          refine pw_loopI (κ := Nat) (fun (k : Nat) => k ≤ i) (fun (k : Nat) => [(0, .d (intsD old)), (1, .d (intsD order)), (5, .int ((T + cN k : Nat) : Int)), (6, .int i), (7, .int k)]) (fun (k : Nat) => []) (fun (k : Nat) => i - k) 0 ?_ ?_ ?_
          · exact Nat.zero_le _
          · exact eL [] _ _ (by refine ⟨?_, ?_⟩ <;> (repeat' first | exact List.forall_mem_nil _ | refine List.forall_mem_cons.2 ⟨(by first | rfl | (simp (disch := omega) only [go_sem, simprocAttr, inL, hc0, Nat.add_zero]; first | done | omega | (congr 1; done))), ?_⟩); done)
          · intro k hk
            rcases Nat.lt_or_ge k i with hlk | hgk
            · obtain ⟨u, hu⟩ := get_some (l := order) (k := k) (by omega)
              have h3 := rIndex_spec order u
              have h4 := rIndex_spec old u
              have b3 : cN k ≤ k := by
                have := List.countP_le_length (p := refB old order v) (l := List.range k)
                rw [List.length_range] at this
                rw [hcN]; exact this
              have e2 : cN (k + 1) = cN k + if refB old order v k then 1 else 0 := by
                rw [hcN, hcN, List.range_succ, List.countP_append]; simp [List.countP_cons]
              have e3 : refB old order v k = (decide (ix order u = (k : Int)) && decide (ix old v < ix old u)) := by rw [refB, hu]
              rw [e3] at e2
              by_cases d1 : ix order u = (k : Int) <;> by_cases d2 : ix old v < ix old u
              all_goals simp only [d1, d2, decide_true, decide_false, Bool.and_true, Bool.and_false, Bool.false_eq_true, if_true, if_false, Nat.add_zero] at e2
              all_goals
                repeat' first | refine pw_seq ?_ | refine pw_skip ?_ | refine pw_ret ?_ | refine pw_exit ?_ | refine pw_block ?_ | refine pw_region (fun _ => false) hmix ?_ | (refine rc (h2) rfl ?_ ?_; (· first | rfl | (simp (disch := omega) only [go_sem, simprocAttr, hv, hu, d1, d2]; done))) | (refine rc (h3) rfl ?_ ?_; (· first | rfl | (simp (disch := omega) only [go_sem, simprocAttr, hv, hu, d1, d2]; done))) | (refine rc (h4) rfl ?_ ?_; (· first | rfl | (simp (disch := omega) only [go_sem, simprocAttr, hv, hu, d1, d2]; done))) | (refine wpG_split rfl rfl (fun hc => ?_) (fun hc => ?_) <;> try simp only [hcL, reduceCtorEq] at hc) | (refine pw_cond _ rfl rfl (fun hc => ?_) (fun hc => ?_) <;> (try simp only [hcL, reduceCtorEq] at hc) <;> try (exfalso; omega)) | simp (maxSteps := 1000000) (disch := omega) only [go_sem, simprocAttr, hv, hu, d1, d2] | apply And.intro | omega | decide +kernel
                refine ⟨k + 1, ?_, eL [] _ _ (by refine ⟨?_, ?_⟩ <;> (repeat' first | exact List.forall_mem_nil _ | refine List.forall_mem_cons.2 ⟨(by first | rfl | (simp (disch := omega) only [go_sem, simprocAttr, inL, e2, Int.natCast_add, Int.natCast_one, Int.add_assoc]; first | done | omega | (congr 1; done))), ?_⟩); done), ?_⟩
                · omega
                · omega
            · have : k = i := by omega
              subst this
              repeat' first | refine pw_seq ?_ | refine pw_skip ?_ | refine pw_ret ?_ | refine pw_exit ?_ | refine pw_block ?_ | refine pw_region (fun _ => false) hmix ?_ | (refine wpG_split rfl rfl (fun hc => ?_) (fun hc => ?_) <;> try simp only [hcL, reduceCtorEq] at hc) | (refine pw_cond _ rfl rfl (fun hc => ?_) (fun hc => ?_) <;> (try simp only [hcL, reduceCtorEq] at hc) <;> try (exfalso; omega)) | simp (maxSteps := 1000000) (disch := omega) only [go_sem, simprocAttr] | apply And.intro | omega | decide +kernel
              refine ⟨k + 1, ?_, eL [] _ _ (by refine ⟨?_, ?_⟩ <;> (repeat' first | exact List.forall_mem_nil _ | refine List.forall_mem_cons.2 ⟨(by first | rfl | (simp (disch := omega) only [go_sem, simprocAttr, inL, e1]; first | done | omega | (congr 1; done))), ?_⟩); done), ?_⟩
              · omega
              · omega
        · rw [if_neg (fun h => c2 h.2)] at e1
          repeat' first | refine pw_seq ?_ | refine pw_skip ?_ | refine pw_ret ?_ | refine pw_exit ?_ | refine pw_block ?_ | refine pw_region (fun _ => false) hmix ?_ | (refine rc (h1) rfl ?_ ?_; (· first | rfl | (simp (disch := omega) only [go_sem, simprocAttr, hv, c1, c2]; done))) | (refine rc (h2) rfl ?_ ?_; (· first | rfl | (simp (disch := omega) only [go_sem, simprocAttr, hv, c1, c2]; done))) | (refine wpG_split rfl rfl (fun hc => ?_) (fun hc => ?_) <;> try simp only [hcL, reduceCtorEq] at hc) | (refine pw_cond _ rfl rfl (fun hc => ?_) (fun hc => ?_) <;> (try simp only [hcL, reduceCtorEq] at hc) <;> try (exfalso; omega)) | simp (maxSteps := 1000000) (disch := omega) only [go_sem, simprocAttr, hv, c1, c2] | apply And.intro | omega | decide +kernel
          refine ⟨i + 1, ?_, eL [] _ _ (by refine ⟨?_, ?_⟩ <;> (repeat' first | exact List.forall_mem_nil _ | refine List.forall_mem_cons.2 ⟨(by first | rfl | (simp (disch := omega) only [go_sem, simprocAttr, inL, e1]; first | done | omega | (congr 1; done))), ?_⟩); done), ?_⟩
          · omega
          · omega
      · rw [if_neg (fun h => c1 h.1)] at e1
        repeat' first | refine pw_seq ?_ | refine pw_skip ?_ | refine pw_ret ?_ | refine pw_exit ?_ | refine pw_block ?_ | refine pw_region (fun _ => false) hmix ?_ | (refine rc (h1) rfl ?_ ?_; (· first | rfl | (simp (disch := omega) only [go_sem, simprocAttr, hv, c1]; done))) | (refine rc (h2) rfl ?_ ?_; (· first | rfl | (simp (disch := omega) only [go_sem, simprocAttr, hv, c1]; done))) | (refine wpG_split rfl rfl (fun hc => ?_) (fun hc => ?_) <;> try simp only [hcL, reduceCtorEq] at hc) | (refine pw_cond _ rfl rfl (fun hc => ?_) (fun hc => ?_) <;> (try simp only [hcL, reduceCtorEq] at hc) <;> try (exfalso; omega)) | simp (maxSteps := 1000000) (disch := omega) only [go_sem, simprocAttr, hv, c1] | apply And.intro | omega | decide +kernel
        refine ⟨i + 1, ?_, eL [] _ _ (by refine ⟨?_, ?_⟩ <;> (repeat' first | exact List.forall_mem_nil _ | refine List.forall_mem_cons.2 ⟨(by first | rfl | (simp (disch := omega) only [go_sem, simprocAttr, inL, e1]; first | done | omega | (congr 1; done))), ?_⟩); done), ?_⟩
        · omega
        · omega
    · have : i = order.length := by omega
      subst this
      repeat' first | refine pw_seq ?_ | refine pw_skip ?_ | refine pw_ret ?_ | refine pw_exit ?_ | refine pw_block ?_ | refine pw_region (fun _ => false) hmix ?_ | (refine wpG_split rfl rfl (fun hc => ?_) (fun hc => ?_) <;> try simp only [hcL, reduceCtorEq] at hc) | (refine pw_cond _ rfl rfl (fun hc => ?_) (fun hc => ?_) <;> (try simp only [hcL, reduceCtorEq] at hc) <;> try (exfalso; omega)) | simp (maxSteps := 1000000) (disch := omega) only [go_sem, simprocAttr] | apply And.intro | omega | decide +kernel
      exact int_some rfl
theorem lstN_at {l : List (List Int)} {k : Nat} {y : List Int} (h : l[k]? = some y) : lstN l k = y := by rw [lstN, h]; rfl
theorem lstN_out {l : List (List Int)} {k : Nat} (h : l.length ≤ k) : lstN l k = [] := by rw [lstN, List.getElem?_eq_none h]; rfl
theorem list_spec (old : List (List Int)) (i : Nat) : CallsTo Tryz.prog 17 [listsD old, .int i] (intsD (lstN old i)) := by
  rcases Nat.lt_or_ge i old.length with hlt | hge
  · obtain ⟨y, hy⟩ := get_some hlt
    rw [lstN_at hy]
    refine callsTo_of Tryz.func17 rfl (by decide +kernel) (Nat.le_of_ble_eq_true rfl) ?_
    intro hat B X w0
    repeat' first | refine pw_seq ?_ | refine pw_skip ?_ | refine pw_ret ?_ | refine pw_exit ?_ | refine pw_block ?_ | refine pw_region (fun _ => false) hmix ?_ | (refine wpG_split rfl rfl (fun hc => ?_) (fun hc => ?_) <;> try simp only [hcL, reduceCtorEq] at hc) | (refine pw_cond _ rfl rfl (fun hc => ?_) (fun hc => ?_) <;> (try simp only [hcL, reduceCtorEq] at hc) <;> try (exfalso; omega)) | simp (maxSteps := 1000000) (disch := omega) only [go_sem, simprocAttr, hy] | apply And.intro | omega | decide +kernel
    exact sl_some rfl
  · rw [lstN_out hge]
    refine callsTo_of Tryz.func17 rfl (by decide +kernel) (Nat.le_of_ble_eq_true rfl) ?_
    intro hat B X w0
    repeat' first | refine pw_seq ?_ | refine pw_skip ?_ | refine pw_ret ?_ | refine pw_exit ?_ | refine pw_block ?_ | refine pw_region (fun _ => false) hmix ?_ | (refine wpG_split rfl rfl (fun hc => ?_) (fun hc => ?_) <;> try simp only [hcL, reduceCtorEq] at hc) | (refine pw_cond _ rfl rfl (fun hc => ?_) (fun hc => ?_) <;> (try simp only [hcL, reduceCtorEq] at hc) <;> try (exfalso; omega)) | simp (maxSteps := 1000000) (disch := omega) only [go_sem, simprocAttr] | apply And.intro | omega | decide +kernel
    exact sl_some rfl
theorem before_spec (old : List (List Int)) (i : Nat) : CallsTo Tryz.prog 39 [listsD old, .int i] (intsD (lstN old i)) := by
  rcases Nat.lt_or_ge i old.length with hlt | hge
  · obtain ⟨y, hy⟩ := get_some hlt
    rw [lstN_at hy]
    refine callsTo_of Tryz.func39 rfl (by decide +kernel) (Nat.le_of_ble_eq_true rfl) ?_
    intro hat B X w0
    repeat' first | refine pw_seq ?_ | refine pw_skip ?_ | refine pw_ret ?_ | refine pw_exit ?_ | refine pw_block ?_ | refine pw_region (fun _ => false) hmix ?_ | (refine wpG_split rfl rfl (fun hc => ?_) (fun hc => ?_) <;> try simp only [hcL, reduceCtorEq] at hc) | (refine pw_cond _ rfl rfl (fun hc => ?_) (fun hc => ?_) <;> (try simp only [hcL, reduceCtorEq] at hc) <;> try (exfalso; omega)) | simp (maxSteps := 1000000) (disch := omega) only [go_sem, simprocAttr, hy] | apply And.intro | omega | decide +kernel
    exact sl_some rfl
  · rw [lstN_out hge]
    refine callsTo_of Tryz.func39 rfl (by decide +kernel) (Nat.le_of_ble_eq_true rfl) ?_
    intro hat B X w0
    repeat' first | refine pw_seq ?_ | refine pw_skip ?_ | refine pw_ret ?_ | refine pw_exit ?_ | refine pw_block ?_ | refine pw_region (fun _ => false) hmix ?_ | (refine wpG_split rfl rfl (fun hc => ?_) (fun hc => ?_) <;> try simp only [hcL, reduceCtorEq] at hc) | (refine pw_cond _ rfl rfl (fun hc => ?_) (fun hc => ?_) <;> (try simp only [hcL, reduceCtorEq] at hc) <;> try (exfalso; omega)) | simp (maxSteps := 1000000) (disch := omega) only [go_sem, simprocAttr] | apply And.intro | omega | decide +kernel
    exact sl_some rfl
def okW (a : Lv) (w : Int) : Bool := validF a && decide (0 ≤ w ∧ w ≤ 1000)
theorem wrong_spec (a : Lv) (w : Int) (hw : wide a) : CallsTo Tryz.prog 14 [lvD a, .int w] (.bool (!okW a w)) := by
  have hv := LvValid_spec a hw
  rw [okW]
  rcases h : validF a with _ | _ <;> rw [h] at hv
  all_goals
    refine callsTo_of Tryz.func14 rfl (by decide +kernel) (Nat.le_of_ble_eq_true rfl) ?_
    intro hat B X w0
    repeat' first | refine pw_seq ?_ | refine pw_skip ?_ | refine pw_ret ?_ | refine pw_exit ?_ | refine pw_block ?_ | refine pw_region (fun _ => false) hmix ?_ | (refine rc (hv) rfl ?_ ?_; (· first | rfl | (simp (disch := omega) only [go_sem, simprocAttr, List.append_eq]; done))) | (refine wpG_split rfl rfl (fun hc => ?_) (fun hc => ?_) <;> try simp only [hcL, reduceCtorEq] at hc) | (refine pw_cond _ rfl rfl (fun hc => ?_) (fun hc => ?_) <;> (try simp only [hcL, reduceCtorEq] at hc) <;> try (exfalso; omega)) | simp (maxSteps := 1000000) (disch := omega) only [go_sem, simprocAttr, List.append_eq] | apply And.intro | omega | decide +kernel
    all_goals
      refine bool_some ?_
      try rw [Bool.eq_iff_iff]
      try simp only [Bool.not_eq_true', Bool.and_eq_false_imp, Bool.and_eq_true, decide_eq_true_eq, decide_eq_false_iff_not, Bool.false_eq_true, Bool.false_and, Bool.true_and, false_iff, true_iff, Bool.not_false]
      try omega
/-- The inversions of the first layers. -/
def invS (a : Lv) (old : List (List Int)) (k : Nat) : Int := sumZ (fun i => (invF (lstN old i) (lstN a.2.1 i) : Int)) k
def costF (a : Lv) (old : List (List Int)) (w : Int) : Int := if okW a w then TotalF a + w * invS a old a.2.1.length else -1
theorem layer_le {a : Lv} (h : validF a = true) (k : Nat) : (lstN a.2.1 k).length ≤ 512 := by
  obtain ⟨t1, t2⟩ := lv_le h
  rcases Nat.lt_or_ge k a.2.1.length with hlt | hge
  · obtain ⟨y, hy⟩ := get_some hlt
    rw [lstN_at hy]
    have := tot_mem (List.mem_of_getElem? hy)
    omega
  · rw [lstN_out hge]; simp
theorem inv_le {a : Lv} (h : validF a = true) (old : List (List Int)) (k : Nat) : invF (lstN old k) (lstN a.2.1 k) ≤ 262144 :=
  Nat.le_trans (invF_le _ _) (Nat.le_trans (Nat.mul_le_mul (layer_le h k) (layer_le h k)) (by decide))
theorem invS_le {a : Lv} (h : validF a = true) (old : List (List Int)) (k : Nat) (hk : k ≤ 256) : 0 ≤ invS a old k ∧ invS a old k ≤ 67108864 := by
  have := sumZ_bound (f := fun i => (invF (lstN old i) (lstN a.2.1 i) : Int)) (c := 262144) k fun i _ => by
    have := inv_le h old i
    omega
  rw [invS]
  have h2 : ((k * 262144 : Nat) : Int) ≤ 67108864 := by omega
  omega
theorem invS_w {a : Lv} (h : validF a = true) (old : List (List Int)) {w : Int} (hw : 0 ≤ w ∧ w ≤ 1000) (k : Nat) (hk : k ≤ 256) : 0 ≤ w * invS a old k ∧ w * invS a old k ≤ 67108864000 := by
  obtain ⟨h1, h2⟩ := invS_le h old k hk
  refine ⟨Int.mul_nonneg hw.1 h1, ?_⟩
  exact Int.le_trans (Int.mul_le_mul hw.2 h2 h1 (by decide)) (by decide)
theorem TotalF_le {a : Lv} (h : validF a = true) : 0 ≤ TotalF a ∧ TotalF a ≤ 92160000000000 := by
  obtain ⟨t1, _⟩ := lv_le h
  have := sumZ_bound (f := fun i => BetweenF a i) (c := 360000000000) a.2.1.length fun i _ => BetweenF_le a i
  rw [TotalF]
  have h2 : ((a.2.1.length * 360000000000 : Nat) : Int) ≤ 92160000000000 := by omega
  omega
set_option maxHeartbeats 2000000 in
theorem Cost_spec (a : Lv) (old : List (List Int)) (w : Int) (hw : wide a) : CallsTo Tryz.prog 13 [lvD a, listsD old, .int w] (.int (costF a old w)) := by
  have h1 := wrong_spec a w hw
  rw [costF]
  rcases h : okW a w with _ | _ <;> rw [h] at h1
  · refine callsTo_of Tryz.func13 rfl (by decide +kernel) (Nat.le_of_ble_eq_true rfl) ?_
    intro hat B X w0
    repeat' first | refine pw_seq ?_ | refine pw_skip ?_ | refine pw_ret ?_ | refine pw_exit ?_ | refine pw_block ?_ | refine pw_region (fun _ => false) hmix ?_ | (refine rc (h1) rfl ?_ ?_; (· first | rfl | (simp (disch := omega) only [go_sem, simprocAttr, List.append_eq]; done))) | (refine wpG_split rfl rfl (fun hc => ?_) (fun hc => ?_) <;> try simp only [hcL, reduceCtorEq] at hc) | (refine pw_cond _ rfl rfl (fun hc => ?_) (fun hc => ?_) <;> (try simp only [hcL, reduceCtorEq] at hc) <;> try (exfalso; omega)) | simp (maxSteps := 1000000) (disch := omega) only [go_sem, simprocAttr, List.append_eq] | apply And.intro | omega | decide +kernel
    exact int_some rfl
  · rw [if_pos rfl]
    simp only [okW, Bool.and_eq_true, decide_eq_true_eq] at h
    obtain ⟨hv, hwt⟩ := h
    obtain ⟨t1, t2⟩ := lv_le hv
    have h2 := Total_spec a hw (by omega)
    have hT := TotalF_le hv
    have hS := invS_w hv old hwt a.2.1.length t1
    have hI := invS_le hv old
    have hl := list_spec old
    have hiv : ∀ i : Nat, CallsTo Tryz.prog 11 [intsD (lstN old i), intsD (lstN a.2.1 i)] (.int (invF (lstN old i) (lstN a.2.1 i))) := fun i => Inversions_spec _ _ (by have := layer_le hv i; omega)
    have hil := inv_le hv old
    have hSd : ∀ k, invS a old (k + 1) = invS a old k + (invF (lstN old k) (lstN a.2.1 k) : Int) := fun k => rfl
    have hS0 : invS a old 0 = 0 := rfl
    generalize invS a old = S at *
    generalize TotalF a = T at *
    obtain ⟨n, ls, ar, cs⟩ := a
    dsimp only at *
    refine callsTo_of Tryz.func13 rfl (by decide +kernel) (Nat.le_of_ble_eq_true rfl) ?_
    intro hat B X w0
    repeat' first | refine pw_seq ?_ | refine pw_skip ?_ | refine pw_ret ?_ | refine pw_exit ?_ | refine pw_block ?_ | refine pw_region (fun _ => false) hmix ?_ | (refine rc (h1) rfl ?_ ?_; (· first | rfl | (simp (disch := omega) only [go_sem, simprocAttr, List.append_eq]; done))) | (refine wpG_split rfl rfl (fun hc => ?_) (fun hc => ?_) <;> try simp only [hcL, reduceCtorEq] at hc) | (refine pw_cond _ rfl rfl (fun hc => ?_) (fun hc => ?_) <;> (try simp only [hcL, reduceCtorEq] at hc) <;> try (exfalso; omega)) | simp (maxSteps := 1000000) (disch := omega) only [go_sem, simprocAttr, List.append_eq] | apply And.intro | omega | decide +kernel
    refine pw_loopI (κ := Nat) (fun (k : Nat) => k ≤ ls.length) (fun (k : Nat) => [(1, .d (listsD old)), (2, .int w), (3, .ptr 3 0 0 0), (7, .int (S k)), (14, .d (listsD ls)), (15, .int ls.length), (16, .int k)]) (fun (k : Nat) => [(3, .cells [.int n, .d (listsD ls), .d (arcsD ar), .d (listsD cs)])]) (fun (k : Nat) => ls.length - k) 0 ?_ ?_ ?_
    · exact Nat.zero_le _
    · exact eL [] _ _ (by refine ⟨?_, ?_⟩ <;> (repeat' first | exact List.forall_mem_nil _ | refine List.forall_mem_cons.2 ⟨(by first | rfl | (simp (disch := omega) only [go_sem, simprocAttr, inL, hS0]; first | done | omega | (congr 1; done))), ?_⟩); done)
    · intro k hk
      have b1 := hI k (by omega)
      rcases Nat.lt_or_ge k ls.length with hlt | hge
      · obtain ⟨y, hy⟩ := get_some hlt
        have g1 := hl k
        have g2 := hiv k
        have g3 := hil k
        have g4 := hSd k
        rw [lstN_at hy] at g2 g3 g4
        repeat' first | refine pw_seq ?_ | refine pw_skip ?_ | refine pw_ret ?_ | refine pw_exit ?_ | refine pw_block ?_ | refine pw_region (fun _ => false) hmix ?_ | (refine rc (g1) rfl ?_ ?_; (· first | rfl | (simp (disch := omega) only [go_sem, simprocAttr, hy]; done))) | (refine rc (g2) rfl ?_ ?_; (· first | rfl | (simp (disch := omega) only [go_sem, simprocAttr, hy]; done))) | (refine wpG_split rfl rfl (fun hc => ?_) (fun hc => ?_) <;> try simp only [hcL, reduceCtorEq] at hc) | (refine pw_cond _ rfl rfl (fun hc => ?_) (fun hc => ?_) <;> (try simp only [hcL, reduceCtorEq] at hc) <;> try (exfalso; omega)) | simp (maxSteps := 1000000) (disch := omega) only [go_sem, simprocAttr, hy] | apply And.intro | omega | decide +kernel
        refine ⟨k + 1, ?_, eL [] _ _ (by refine ⟨?_, ?_⟩ <;> (repeat' first | exact List.forall_mem_nil _ | refine List.forall_mem_cons.2 ⟨(by first | rfl | (simp (disch := omega) only [go_sem, simprocAttr, inL, g4]; first | done | omega | (congr 1; done))), ?_⟩); done), ?_⟩
        · omega
        · omega
      · have : k = ls.length := by omega
        subst this
        repeat' first | refine pw_seq ?_ | refine pw_skip ?_ | refine pw_ret ?_ | refine pw_exit ?_ | refine pw_block ?_ | refine pw_region (fun _ => false) hmix ?_ | (refine rc (h2) rfl ?_ ?_; (· first | rfl | (simp (disch := omega) only [go_sem, simprocAttr, List.append_eq]; done))) | (refine wpG_split rfl rfl (fun hc => ?_) (fun hc => ?_) <;> try simp only [hcL, reduceCtorEq] at hc) | (refine pw_cond _ rfl rfl (fun hc => ?_) (fun hc => ?_) <;> (try simp only [hcL, reduceCtorEq] at hc) <;> try (exfalso; omega)) | simp (maxSteps := 1000000) (disch := omega) only [go_sem, simprocAttr, List.append_eq] | apply And.intro | omega | decide +kernel
        exact int_some rfl
set_option maxHeartbeats 2000000 in
theorem rCost_spec (a : Lv) (old : List (List Int)) (w : Int) (hw : wide a) : CallsTo Tryz.prog 21 [lvD a, listsD old, .int w] (.int (costF a old w)) := by
  have h1 := rLvValid_spec a hw
  rw [← valid_same] at h1
  rw [costF]
  rcases h : okW a w with _ | _
  · rw [if_neg (by decide)]
    rw [okW] at h
    rcases hv : validF a with _ | _ <;> rw [hv] at h1 h
    · refine callsTo_of Tryz.func21 rfl (by decide +kernel) (Nat.le_of_ble_eq_true rfl) ?_
      intro hat B X w0
      repeat' first | refine pw_seq ?_ | refine pw_skip ?_ | refine pw_ret ?_ | refine pw_exit ?_ | refine pw_block ?_ | refine pw_region (fun _ => false) hmix ?_ | (refine rc (h1) rfl ?_ ?_; (· first | rfl | (simp (disch := omega) only [go_sem, simprocAttr, List.append_eq]; done))) | (refine wpG_split rfl rfl (fun hc => ?_) (fun hc => ?_) <;> try simp only [hcL, reduceCtorEq] at hc) | (refine pw_cond _ rfl rfl (fun hc => ?_) (fun hc => ?_) <;> (try simp only [hcL, reduceCtorEq] at hc) <;> try (exfalso; omega)) | simp (maxSteps := 1000000) (disch := omega) only [go_sem, simprocAttr, List.append_eq] | apply And.intro | omega | decide +kernel
      exact int_some rfl
    · have hn : ¬ (0 ≤ w ∧ w ≤ 1000) := by simpa using h
      refine callsTo_of Tryz.func21 rfl (by decide +kernel) (Nat.le_of_ble_eq_true rfl) ?_
      intro hat B X w0
      repeat' first | refine pw_seq ?_ | refine pw_skip ?_ | refine pw_ret ?_ | refine pw_exit ?_ | refine pw_block ?_ | refine pw_region (fun _ => false) hmix ?_ | (refine rc (h1) rfl ?_ ?_; (· first | rfl | (simp (disch := omega) only [go_sem, simprocAttr, List.append_eq]; done))) | (refine wpG_split rfl rfl (fun hc => ?_) (fun hc => ?_) <;> try simp only [hcL, reduceCtorEq] at hc) | (refine pw_cond _ rfl rfl (fun hc => ?_) (fun hc => ?_) <;> (try simp only [hcL, reduceCtorEq] at hc) <;> try (exfalso; omega)) | simp (maxSteps := 1000000) (disch := omega) only [go_sem, simprocAttr, List.append_eq] | apply And.intro | omega | decide +kernel
      all_goals exact int_some rfl
  · rw [if_pos rfl]
    simp only [okW, Bool.and_eq_true, decide_eq_true_eq] at h
    obtain ⟨hv, hwt⟩ := h
    rw [hv] at h1
    obtain ⟨t1, t2⟩ := lv_le hv
    have h2 := rTotal_spec a hw (by omega)
    rw [← total_same] at h2
    have hT := TotalF_le hv
    have hI := invS_w hv old hwt
    have hl := before_spec old
    have hiv : ∀ i : Nat, CallsTo Tryz.prog 45 [intsD (lstN old i), intsD (lstN a.2.1 i)] (.int (invF (lstN old i) (lstN a.2.1 i))) := fun i => rInversions_spec _ _ (by have := layer_le hv i; omega)
    have hil := inv_le hv old
    have hSd : ∀ k, invS a old (k + 1) = invS a old k + (invF (lstN old k) (lstN a.2.1 k) : Int) := fun k => rfl
    have hS0 : invS a old 0 = 0 := rfl
    have hwi : ∀ k, 0 ≤ w * (invF (lstN old k) (lstN a.2.1 k) : Int) ∧ w * (invF (lstN old k) (lstN a.2.1 k) : Int) ≤ 1000 * 262144 := fun k => by
      have := hil k
      exact ⟨Int.mul_nonneg hwt.1 (by omega), Int.mul_le_mul hwt.2 (by omega) (by omega) (by decide)⟩
    generalize invS a old = S at *
    generalize TotalF a = T at *
    obtain ⟨n, ls, ar, cs⟩ := a
    dsimp only at *
    refine callsTo_of Tryz.func21 rfl (by decide +kernel) (Nat.le_of_ble_eq_true rfl) ?_
    intro hat B X w0
    repeat' first | refine pw_seq ?_ | refine pw_skip ?_ | refine pw_ret ?_ | refine pw_exit ?_ | refine pw_block ?_ | refine pw_region (fun _ => false) hmix ?_ | (refine rc (h1) rfl ?_ ?_; (· first | rfl | (simp (disch := omega) only [go_sem, simprocAttr, List.append_eq]; done))) | (refine rc (h2) rfl ?_ ?_; (· first | rfl | (simp (disch := omega) only [go_sem, simprocAttr, List.append_eq]; done))) | (refine wpG_split rfl rfl (fun hc => ?_) (fun hc => ?_) <;> try simp only [hcL, reduceCtorEq] at hc) | (refine pw_cond _ rfl rfl (fun hc => ?_) (fun hc => ?_) <;> (try simp only [hcL, reduceCtorEq] at hc) <;> try (exfalso; omega)) | simp (maxSteps := 1000000) (disch := omega) only [go_sem, simprocAttr, List.append_eq] | apply And.intro | omega | decide +kernel
    refine pw_loopI (κ := Nat) (fun (k : Nat) => k ≤ ls.length) (fun (k : Nat) => [(1, .d (listsD old)), (2, .int w), (3, .ptr 3 0 0 0), (7, .int (T + w * S k)), (8, .int k)]) (fun (k : Nat) => [(3, .cells [.int n, .d (listsD ls), .d (arcsD ar), .d (listsD cs)])]) (fun (k : Nat) => ls.length - k) 0 ?_ ?_ ?_
    · exact Nat.zero_le _
    · exact eL [] _ _ (by refine ⟨?_, ?_⟩ <;> (repeat' first | exact List.forall_mem_nil _ | refine List.forall_mem_cons.2 ⟨(by first | rfl | (simp (disch := omega) only [go_sem, simprocAttr, inL, hS0, Int.mul_zero, Int.add_zero]; first | done | omega | (congr 1; done))), ?_⟩); done)
    · intro k hk
      have b1 := hI k (by omega)
      rcases Nat.lt_or_ge k ls.length with hlt | hge
      · obtain ⟨y, hy⟩ := get_some hlt
        have g1 := hl k
        have g2 := hiv k
        have g3 := hwi k
        have g4 := hSd k
        rw [lstN_at hy] at g2 g3 g4
        repeat' first | refine pw_seq ?_ | refine pw_skip ?_ | refine pw_ret ?_ | refine pw_exit ?_ | refine pw_block ?_ | refine pw_region (fun _ => false) hmix ?_ | (refine rc (g1) rfl ?_ ?_; (· first | rfl | (simp (disch := omega) only [go_sem, simprocAttr, List.append_eq, hy]; done))) | (refine rc (g2) rfl ?_ ?_; (· first | rfl | (simp (disch := omega) only [go_sem, simprocAttr, List.append_eq, hy]; done))) | (refine wpG_split rfl rfl (fun hc => ?_) (fun hc => ?_) <;> try simp only [hcL, reduceCtorEq] at hc) | (refine pw_cond _ rfl rfl (fun hc => ?_) (fun hc => ?_) <;> (try simp only [hcL, reduceCtorEq] at hc) <;> try (exfalso; omega)) | simp (maxSteps := 1000000) (disch := omega) only [go_sem, simprocAttr, List.append_eq, hy] | apply And.intro | omega | decide +kernel
        refine ⟨k + 1, ?_, eL [] _ _ (by refine ⟨?_, ?_⟩ <;> (repeat' first | exact List.forall_mem_nil _ | refine List.forall_mem_cons.2 ⟨(by first | rfl | (simp (disch := omega) only [go_sem, simprocAttr, inL, g4, Int.mul_add, Int.add_assoc]; first | done | omega | (congr 1; done))), ?_⟩); done), ?_⟩
        · omega
        · omega
      · have : k = ls.length := by omega
        subst this
        repeat' first | refine pw_seq ?_ | refine pw_skip ?_ | refine pw_ret ?_ | refine pw_exit ?_ | refine pw_block ?_ | refine pw_region (fun _ => false) hmix ?_ | (refine wpG_split rfl rfl (fun hc => ?_) (fun hc => ?_) <;> try simp only [hcL, reduceCtorEq] at hc) | (refine pw_cond _ rfl rfl (fun hc => ?_) (fun hc => ?_) <;> (try simp only [hcL, reduceCtorEq] at hc) <;> try (exfalso; omega)) | simp (maxSteps := 1000000) (disch := omega) only [go_sem, simprocAttr] | apply And.intro | omega | decide +kernel
        exact int_some rfl
end Go.Proofs.YtelghbnlceeecaaGreat
namespace Go.Proofs.YtelghbnlceeecaaGreat
open Go Go.PS Go.Proofs
open Go.Bd (ix invF invN comN refN refB)
set_option maxRecDepth 100000
attribute [local irreducible] wpRun wpG CallsTo CallsM

/-- A row of numbers; one that is changed up to a place. -/
def rowG (g : Nat → Int) (n : Nat) : List Int := (List.range n).map g
def mixR (f g : Nat → Int) (n b : Nat) : List Int := rowG (fun v => if v < b then g v else f v) n
theorem rowG_len (g : Nat → Int) (n : Nat) : (rowG g n).length = n := by simp [rowG]
theorem rowG_get {g : Nat → Int} {n v : Nat} (h : v < n) : (rowG g n)[v]? = some (g v) := by simp [rowG, h]
theorem rowG_congr {f g : Nat → Int} {n : Nat} (h : ∀ v, v < n → f v = g v) : rowG f n = rowG g n := List.map_congr_left fun v hv => h v (List.mem_range.1 hv)
theorem mixR_len (f g : Nat → Int) (n b : Nat) : (mixR f g n b).length = n := rowG_len _ _
theorem mixR_zero (f g : Nat → Int) (n : Nat) : mixR f g n 0 = rowG f n := rowG_congr fun v _ => if_neg (by omega)
theorem mixR_full (f g : Nat → Int) (n : Nat) : mixR f g n n = rowG g n := rowG_congr fun v hv => if_pos hv
theorem mixR_get {f g : Nat → Int} {n b : Nat} (h : b < n) : (mixR f g n b)[b]? = some (f b) := by rw [mixR, rowG_get h, if_neg (by omega)]
theorem mixR_step {f g : Nat → Int} {n b : Nat} (h : b < n) : (mixR f g n b).set b (g b) = mixR f g n (b + 1) := by
  refine List.ext_getElem? fun v => ?_
  rw [List.getElem?_set, mixR_len]
  by_cases c : b = v
  · subst c
    rw [if_pos rfl, if_pos h, mixR, rowG_get h, if_pos (by omega)]
  · rw [if_neg c]
    by_cases c2 : v < n
    · rw [mixR, mixR, rowG_get c2, rowG_get c2]
      by_cases c3 : v < b
      · rw [if_pos c3, if_pos (by omega)]
      · rw [if_neg c3, if_neg (by omega)]
    · rw [List.getElem?_eq_none (by rw [mixR_len]; omega), List.getElem?_eq_none (by rw [mixR_len]; omega)]
theorem mixR_same {f g : Nat → Int} {n b : Nat} (h : b < n) (he : f b = g b) : mixR f g n (b + 1) = mixR f g n b := by
  rw [← mixR_step h]
  refine List.ext_getElem? fun v => ?_
  rw [List.getElem?_set, mixR_len]
  by_cases c : b = v
  · subst c; rw [if_pos rfl, if_pos h, mixR_get h, he]
  · rw [if_neg c]
theorem rowG_zero (n : Nat) : List.replicate n (D.int 0) = (rowG (fun _ => 0) n).map D.int := by
  rw [rowG, List.map_map]
  refine List.ext_getElem? fun v => ?_
  by_cases c : v < n <;> simp [List.getElem?_replicate, c]
/-- The weight of a pair of places. -/
def wCell (old y : List Int) (w : Int) (u v : Nat) : Int := if 0 ≤ ix old (at0 y v) ∧ ix old (at0 y v) < ix old (at0 y u) then w else 0
/-- The neighbor layers, one after the other. -/
def fixT (i : Nat) (t : Nat) : Int := if t = 0 then (i : Int) - 1 else (i : Int) + 1
/-- The matrix after the first t neighbors. -/
def accC (a : Lv) (old y : List Int) (w : Int) (i : Nat) : Nat → Nat → Nat → Int
  | 0, u, v => wCell old y w u v
  | t + 1, u, v => accC a old y w i t u v + cellAt (MatrixF a i (fixT i t)) u v
def sqM (g : Nat → Nat → Int) (n : Nat) : List (List Int) := (List.range n).map fun u => rowG (g u) n
def stM (a : Lv) (old y : List Int) (w : Int) (i : Nat) : List (List Int) := sqM (accC a old y w i 2) y.length
theorem cellAt_le {m : List (List Int)} (h : Sq m) (u v : Nat) : 0 ≤ cellAt m u v ∧ cellAt m u v ≤ 1000000 := by
  by_cases hu : u < m.length
  · by_cases hv : v < m.length
    · obtain ⟨_, _, _, _, h1, h2⟩ := h.get hu hv
      exact ⟨h1, h2⟩
    · obtain ⟨p, hp⟩ := get_some hu
      have := h.row p (List.mem_of_getElem? hp)
      rw [cellAt, lstN_at hp, at0, Int.toNat_natCast, List.getElem?_eq_none (by omega)]; decide
  · rw [cellAt, lstN_out (by omega)]; simp [at0]
theorem accC_le (a : Lv) (old y : List Int) {w : Int} (hw : 0 ≤ w ∧ w ≤ 1000) (i : Nat) : ∀ t u v, 0 ≤ accC a old y w i t u v ∧ accC a old y w i t u v ≤ 1000 + 1000000 * t
  | 0, u, v => by
    rw [accC, wCell]; split <;> omega
  | t + 1, u, v => by
    have ih := accC_le a old y hw i t u v
    have := cellAt_le (MatrixF_sq a i (fixT i t)) u v
    rw [accC]; omega
end Go.Proofs.YtelghbnlceeecaaGreat
namespace Go.Proofs.YtelghbnlceeecaaGreat
open Go Go.PS Go.Proofs
open Go.Bd (ix invF invN comN refN refB)
set_option maxRecDepth 100000
attribute [local irreducible] wpRun wpG CallsTo CallsM

set_option maxHeartbeats 16000000 in
theorem matrix_spec (a : Lv) (old y : List Int) (w : Int) (i : Nat) (hw : wide a) (hv : validF a = true) (hwt : 0 ≤ w ∧ w ≤ 1000) (hy : a.2.1[i]? = some y) :
    CallsTo Tryz.prog 25 [lvD a, intsD old, .int w, .int i] (listsD (stM a old y w i)) := by
  have hil := (List.getElem?_eq_some_iff.1 hy).1
  obtain ⟨t1, t2⟩ := lv_le hv
  have hyl := tot_mem (List.mem_of_getElem? hy)
  have hacc := accC_le a old y hwt i
  have haccS : ∀ t u v, accC a old y w i (t + 1) u v = accC a old y w i t u v + cellAt (MatrixF a i (fixT i t)) u v := fun _ _ _ => rfl
  have haccZ : ∀ u v, accC a old y w i 0 u v = wCell old y w u v := fun _ _ => rfl
  have hMsq : ∀ t, Sq (MatrixF a i (fixT i t)) := fun t => MatrixF_sq a i (fixT i t)
  have hMlen : ∀ t, (MatrixF a i (fixT i t)).length = 0 ∨ (MatrixF a i (fixT i t)).length = y.length := fun t => by
    rw [MatrixF]
    split
    · right
      simp [matF, endsF, lenAt, hy]
    · left; rfl
  have hMs : ∀ t, CallsTo Tryz.prog 47 [lvD a, .int i, .int (fixT i t)] (listsD (MatrixF a i (fixT i t))) := fun t => Matrix_spec a i (fixT i t) hw
  rw [stM]
  generalize accC a old y w i = A at *
  obtain ⟨Q, hQ⟩ : ∃ Q : Nat → List (List Int), ∀ t, MatrixF a i (fixT i t) = Q t := ⟨_, fun _ => rfl⟩
  simp only [hQ] at *
  obtain ⟨N, hN⟩ : ∃ N, N = y.length := ⟨_, rfl⟩
  have hN5 : N ≤ 512 := by omega
  obtain ⟨n, ls, ar, cs⟩ := a
  dsimp only at *
  refine callsTo_of Tryz.func25 rfl (by decide +kernel) (Nat.le_of_ble_eq_true rfl) ?_
  intro hat B X w0
  have hol := at_len 1 hat rfl
  rw [List.length_map] at hol
  repeat' first | refine pw_seq ?_ | refine pw_skip ?_ | refine pw_ret ?_ | refine pw_exit ?_ | refine pw_block ?_ | refine pw_region (fun _ => false) hmix ?_ | (refine wpG_split rfl rfl (fun hc => ?_) (fun hc => ?_) <;> try simp only [hcL, reduceCtorEq] at hc) | (refine pw_cond _ rfl rfl (fun hc => ?_) (fun hc => ?_) <;> (try simp only [hcL, reduceCtorEq] at hc) <;> try (exfalso; omega)) | simp (maxSteps := 1000000) (disch := omega) only [go_sem, simprocAttr, hy, List.append_eq, ← hN] | apply And.intro | omega | decide +kernel
  refine pw_ent _ (ent_famNew 1 30 1 N rfl (fun i hi => by simp (disch := omega) only [go_sem, simprocAttr, obOf_fid, argEnv]) (by decide) (by decide)) ?_
  have hiN : ∀ (k : Nat) (x y : List D), k < N → (if k < N then x else y) = x := fun k x y h => if_pos h
  refine pw_loopF (κ := Nat) (fun (u : Nat) => u ≤ N) (fun (u : Nat) => [(1, .d (intsD old)), (2, .int w), (3, .int i), (4, .ptr 4 0 0 0), (10, .ref 30 1 0 N N), (9, .d (intsD y)), (31, .d (intsD y)), (32, .int N), (33, .int u)]) (fun (u : Nat) => [⟨1, 30, 1, N, fun k => if k < u then (rowG (A 0 k) N).map D.int else []⟩]) (fun (u : Nat) => [(4, .cells [.int n, .d (listsD ls), .d (arcsD ar), .d (listsD cs)])]) (fun (u : Nat) => N - u) 0 ?_ ?_ ?_
  · exact Nat.zero_le _
  · refine eF [] [] _ _ _ (by refine ⟨?_, ?_⟩ <;> (repeat' first | exact List.forall_mem_nil _ | refine List.forall_mem_cons.2 ⟨(by first | rfl | (simp (disch := omega) only [go_sem, simprocAttr, inL, ← hN]; first | done | omega | (congr 1; done))), ?_⟩); done) ?_
    repeat' first | exact List.forall_mem_nil _ | refine List.forall_mem_cons.2 ⟨?_, ?_⟩
    all_goals refine ⟨_, (by first | rfl | (simp (disch := omega) only [go_sem, simprocAttr, Nat.not_lt_zero]; done) | (simp (disch := omega) only [go_sem, simprocAttr, Nat.not_lt_zero]; rfl)), fun i hi => ?_⟩
    all_goals dsimp only at hi ⊢
    all_goals try (exfalso; omega)
    all_goals try (simp (disch := omega) only [go_sem, simprocAttr, Nat.not_lt_zero, fid_lit, lit_fid]; done)
  · intro u hu
    rcases Nat.lt_or_ge u N with hlt | hge
    · obtain ⟨p, hp⟩ := get_some (l := y) (k := u) (by omega)
      have hz : List.replicate N (D.int 0) = (mixR (fun _ => 0) (A 0 u) N 0).map D.int := by rw [mixR_zero, rowG_zero]
      have hnu : ¬ u < u := by omega
      have h1 := indexX_spec old p
      have hpx : at0 y u = p := by rw [at0, Int.toNat_natCast, hp]; rfl
      refine pw_ent _ (ent_bor _ _ [4, 30] 30 u 900 1 1 N (by first | rfl | (simp (disch := omega) only [go_sem, simprocAttr, hnu]; done) | (simp (disch := omega) only [go_sem, simprocAttr, hnu]; rfl)) (by first | (simp (disch := omega) only [go_sem, simprocAttr, hnu]; done) | (simp (disch := omega) only [go_sem, simprocAttr, hnu]; rfl)) (by first | (simp (disch := omega) only [go_sem, simprocAttr, hnu]; done) | (simp (disch := omega) only [go_sem, simprocAttr, hnu]; rfl)) (fun i hi hne => by simp (disch := omega) only [go_sem, simprocAttr, hne, hnu]; (repeat' split) <;> exact .ref _ _ _ _ _ ⟨by simp (disch := omega) only [go_sem, simprocAttr, hne, hnu], by simp (disch := omega) only [go_sem, simprocAttr, hne, hnu]⟩) (by (repeat' first | refine ab_nil ?_ | exact ab_obOf (ids := [4, 30]) rfl rfl (Nat.le_of_ble_eq_true rfl) | refine ab_hole ?_ | refine ab_row ?_ | refine ab_dead ?_ | refine ab_self ?_ | refine ab_self_fam ?_ | refine ab_fam (by dsimp only; omega) (by dsimp only; omega) (by omega) (by omega) (Nat.le_of_ble_eq_true rfl) ?_); done) rfl rfl rfl) ?_
      repeat' first | refine pw_seq ?_ | refine pw_skip ?_ | refine pw_ret ?_ | refine pw_exit ?_ | refine pw_block ?_ | refine pw_region (Nat.beq 42) hmix ?_ | (refine wpG_split rfl rfl (fun hc => ?_) (fun hc => ?_) <;> try simp only [hcL, reduceCtorEq] at hc) | (refine pw_cond _ rfl rfl (fun hc => ?_) (fun hc => ?_) <;> (try simp only [hcL, reduceCtorEq] at hc) <;> try (exfalso; omega)) | simp (maxSteps := 1000000) (disch := omega) only [go_sem, simprocAttr, ← hN, hnu, hp] | apply And.intro | omega | decide +kernel
      refine pw_loopF (κ := Nat) (fun (b : Nat) => b ≤ N) (fun (b : Nat) => [(1, .d (intsD old)), (2, .int w), (3, .int i), (4, .ptr 4 0 0 0), (10, .ref 30 1 0 N N), (9, .d (intsD y)), (11, .int u), (12, .int p), (31, .d (intsD y)), (32, .int N), (33, .int u), (44, .d (intsD y)), (45, .int N), (46, .int b)]) (fun (b : Nat) => [⟨1, 30, 1, N, fun k => if k < u then (rowG (A 0 k) N).map D.int else if k = u then (mixR (fun _ => 0) (A 0 u) N b).map D.int else []⟩]) (fun (b : Nat) => [(4, .cells [.int n, .d (listsD ls), .d (arcsD ar), .d (listsD cs)])]) (fun (b : Nat) => N - b) 0 ?_ ?_ ?_
      · exact Nat.zero_le _
      · refine eF [(fid 1 u, 42)] [] _ _ _ (by refine ⟨?_, ?_⟩ <;> (repeat' first | exact List.forall_mem_nil _ | refine List.forall_mem_cons.2 ⟨(by first | rfl | (simp (disch := omega) only [go_sem, simprocAttr, inL, ← hN]; first | done | omega | (congr 1; done))), ?_⟩); done) ?_
        repeat' first | exact List.forall_mem_nil _ | refine List.forall_mem_cons.2 ⟨?_, ?_⟩
        all_goals refine ⟨_, (by first | rfl | (simp (disch := omega) only [go_sem, simprocAttr, hz, mixR_len, List.length_map, ← hN, hnu]; done) | (simp (disch := omega) only [go_sem, simprocAttr, hz, mixR_len, List.length_map, ← hN, hnu]; rfl)), fun i hi => ?_⟩
        all_goals dsimp only at hi ⊢
        all_goals rcases Decidable.em (i = u) with rfl | hi0
        all_goals try (exfalso; omega)
        all_goals try (simp (disch := omega) only [go_sem, simprocAttr, hz, mixR_len, List.length_map, ← hN, hnu, fid_lit, lit_fid]; done)
        all_goals try (simp (disch := omega) only [go_sem, simprocAttr, hz, mixR_len, List.length_map, ← hN, hnu, hi0, fid_lit, lit_fid]; done)
      · intro b hb
        have hfl2 := mixR_len (fun _ => 0) (A 0 u) N b
        rcases Nat.lt_or_ge b N with hlb | hgb
        · obtain ⟨q, hq⟩ := get_some (l := y) (k := b) (by omega)
          have h2 := indexX_spec old q
          have hqx : at0 y b = q := by rw [at0, Int.toNat_natCast, hq]; rfl
          have hcell : A 0 u b = if 0 ≤ ix old q ∧ ix old q < ix old p then w else 0 := by rw [haccZ, wCell, hpx, hqx]
          have hg : (mixR (fun _ => 0) (A 0 u) N b)[b]? = some 0 := mixR_get hlb
          have hst : (mixR (fun _ => 0) (A 0 u) N b).set b (A 0 u b) = mixR (fun _ => 0) (A 0 u) N (b + 1) := mixR_step hlb
          by_cases c1 : 0 ≤ ix old q
          · by_cases c2 : ix old q < ix old p
            · rw [if_pos ⟨c1, c2⟩] at hcell
              rw [hcell] at hst
              refine pw_ent _ (ent_bor _ _ [4, 30] 30 u 900 1 1 N (by first | rfl | (simp (disch := omega) only [go_sem, simprocAttr, hnu, hfl2]; done) | (simp (disch := omega) only [go_sem, simprocAttr, hnu, hfl2]; rfl)) (by first | (simp (disch := omega) only [go_sem, simprocAttr, hnu, hfl2]; done) | (simp (disch := omega) only [go_sem, simprocAttr, hnu, hfl2]; rfl)) (by first | (simp (disch := omega) only [go_sem, simprocAttr, hnu, hfl2]; done) | (simp (disch := omega) only [go_sem, simprocAttr, hnu, hfl2]; rfl)) (fun i hi hne => by simp (disch := omega) only [go_sem, simprocAttr, hne, hnu, hfl2]; (repeat' split) <;> exact .ref _ _ _ _ _ ⟨by simp (disch := omega) only [go_sem, simprocAttr, hne, hnu, hfl2], by simp (disch := omega) only [go_sem, simprocAttr, hne, hnu, hfl2]⟩) (by (repeat' first | refine ab_nil ?_ | exact ab_obOf (ids := [4, 30]) rfl rfl (Nat.le_of_ble_eq_true rfl) | refine ab_hole ?_ | refine ab_row ?_ | refine ab_dead ?_ | refine ab_self ?_ | refine ab_self_fam ?_ | refine ab_fam (by dsimp only; omega) (by dsimp only; omega) (by omega) (by omega) (Nat.le_of_ble_eq_true rfl) ?_); done) rfl rfl rfl) ?_
              repeat' first | refine pw_seq ?_ | refine pw_skip ?_ | refine pw_ret ?_ | refine pw_exit ?_ | refine pw_block ?_ | refine pw_region (fun _ => false) hmix ?_ | (refine rc (h1) rfl ?_ ?_; (· first | rfl | (simp (disch := omega) only [go_sem, simprocAttr, ← hN, hq, c1, c2, hg, hfl2, hnu]; done))) | (refine rc (h2) rfl ?_ ?_; (· first | rfl | (simp (disch := omega) only [go_sem, simprocAttr, ← hN, hq, c1, c2, hg, hfl2, hnu]; done))) | (refine wpG_split rfl rfl (fun hc => ?_) (fun hc => ?_) <;> try simp only [hcL, reduceCtorEq] at hc) | (refine pw_cond _ rfl rfl (fun hc => ?_) (fun hc => ?_) <;> (try simp only [hcL, reduceCtorEq] at hc) <;> try (exfalso; omega)) | simp (maxSteps := 1000000) (disch := omega) only [go_sem, simprocAttr, ← hN, hq, c1, c2, hg, hfl2, hnu] | apply And.intro | omega | decide +kernel
              refine ⟨b + 1, ?_, eF [(fid 1 u, 900)] [] _ _ _ (by refine ⟨?_, ?_⟩ <;> (repeat' first | exact List.forall_mem_nil _ | refine List.forall_mem_cons.2 ⟨(by first | rfl | (simp (disch := omega) only [go_sem, simprocAttr, inL]; first | done | omega | (congr 1; done))), ?_⟩); done) ?_, ?_⟩
              · omega
              · repeat' first | exact List.forall_mem_nil _ | refine List.forall_mem_cons.2 ⟨?_, ?_⟩
                all_goals refine ⟨_, (by first | rfl | (simp (disch := omega) only [go_sem, simprocAttr, hst.symm, List.map_set, List.length_set, List.length_map, hfl2, hnu]; done) | (simp (disch := omega) only [go_sem, simprocAttr, hst.symm, List.map_set, List.length_set, List.length_map, hfl2, hnu]; rfl)), fun i hi => ?_⟩
                all_goals dsimp only at hi ⊢
                all_goals rcases Decidable.em (i = u) with rfl | hi0
                all_goals try (exfalso; omega)
                all_goals try (simp (disch := omega) only [go_sem, simprocAttr, hst.symm, List.map_set, List.length_set, List.length_map, hfl2, hnu, fid_lit, lit_fid]; done)
                all_goals try (simp (disch := omega) only [go_sem, simprocAttr, hst.symm, List.map_set, List.length_set, List.length_map, hfl2, hnu, hi0, fid_lit, lit_fid]; done)
              · omega
            · rw [if_neg (fun h => c2 h.2)] at hcell
              have hst2 := mixR_same (f := fun _ => 0) hlb hcell.symm
              repeat' first | refine pw_seq ?_ | refine pw_skip ?_ | refine pw_ret ?_ | refine pw_exit ?_ | refine pw_block ?_ | refine pw_region (fun _ => false) hmix ?_ | (refine rc (h1) rfl ?_ ?_; (· first | rfl | (simp (disch := omega) only [go_sem, simprocAttr, ← hN, hq, c1, c2]; done))) | (refine rc (h2) rfl ?_ ?_; (· first | rfl | (simp (disch := omega) only [go_sem, simprocAttr, ← hN, hq, c1, c2]; done))) | (refine wpG_split rfl rfl (fun hc => ?_) (fun hc => ?_) <;> try simp only [hcL, reduceCtorEq] at hc) | (refine pw_cond _ rfl rfl (fun hc => ?_) (fun hc => ?_) <;> (try simp only [hcL, reduceCtorEq] at hc) <;> try (exfalso; omega)) | simp (maxSteps := 1000000) (disch := omega) only [go_sem, simprocAttr, ← hN, hq, c1, c2] | apply And.intro | omega | decide +kernel
              refine ⟨b + 1, ?_, eF [] [] _ _ _ (by refine ⟨?_, ?_⟩ <;> (repeat' first | exact List.forall_mem_nil _ | refine List.forall_mem_cons.2 ⟨(by first | rfl | (simp (disch := omega) only [go_sem, simprocAttr, inL]; first | done | omega | (congr 1; done))), ?_⟩); done) ?_, ?_⟩
              · omega
              · repeat' first | exact List.forall_mem_nil _ | refine List.forall_mem_cons.2 ⟨?_, ?_⟩
                all_goals refine ⟨_, (by first | rfl | (simp (disch := omega) only [go_sem, simprocAttr, hst2, hnu]; done) | (simp (disch := omega) only [go_sem, simprocAttr, hst2, hnu]; rfl)), fun i hi => ?_⟩
                all_goals dsimp only at hi ⊢
                all_goals rcases Decidable.em (i = u) with rfl | hi0
                all_goals try (exfalso; omega)
                all_goals try (simp (disch := omega) only [go_sem, simprocAttr, hst2, hnu, fid_lit, lit_fid]; done)
                all_goals try (simp (disch := omega) only [go_sem, simprocAttr, hst2, hnu, hi0, fid_lit, lit_fid]; done)
              · omega
          · rw [if_neg (fun h => c1 h.1)] at hcell
            have hst2 := mixR_same (f := fun _ => 0) hlb hcell.symm
            repeat' first | refine pw_seq ?_ | refine pw_skip ?_ | refine pw_ret ?_ | refine pw_exit ?_ | refine pw_block ?_ | refine pw_region (fun _ => false) hmix ?_ | (refine rc (h1) rfl ?_ ?_; (· first | rfl | (simp (disch := omega) only [go_sem, simprocAttr, ← hN, hq, c1]; done))) | (refine rc (h2) rfl ?_ ?_; (· first | rfl | (simp (disch := omega) only [go_sem, simprocAttr, ← hN, hq, c1]; done))) | (refine wpG_split rfl rfl (fun hc => ?_) (fun hc => ?_) <;> try simp only [hcL, reduceCtorEq] at hc) | (refine pw_cond _ rfl rfl (fun hc => ?_) (fun hc => ?_) <;> (try simp only [hcL, reduceCtorEq] at hc) <;> try (exfalso; omega)) | simp (maxSteps := 1000000) (disch := omega) only [go_sem, simprocAttr, ← hN, hq, c1] | apply And.intro | omega | decide +kernel
            refine ⟨b + 1, ?_, eF [] [] _ _ _ (by refine ⟨?_, ?_⟩ <;> (repeat' first | exact List.forall_mem_nil _ | refine List.forall_mem_cons.2 ⟨(by first | rfl | (simp (disch := omega) only [go_sem, simprocAttr, inL]; first | done | omega | (congr 1; done))), ?_⟩); done) ?_, ?_⟩
            · omega
            · repeat' first | exact List.forall_mem_nil _ | refine List.forall_mem_cons.2 ⟨?_, ?_⟩
              all_goals refine ⟨_, (by first | rfl | (simp (disch := omega) only [go_sem, simprocAttr, hst2, hnu]; done) | (simp (disch := omega) only [go_sem, simprocAttr, hst2, hnu]; rfl)), fun i hi => ?_⟩
              all_goals dsimp only at hi ⊢
              all_goals rcases Decidable.em (i = u) with rfl | hi0
              all_goals try (exfalso; omega)
              all_goals try (simp (disch := omega) only [go_sem, simprocAttr, hst2, hnu, fid_lit, lit_fid]; done)
              all_goals try (simp (disch := omega) only [go_sem, simprocAttr, hst2, hnu, hi0, fid_lit, lit_fid]; done)
            · omega
        · have : b = N := by omega
          subst this
          have hsu : ∀ i, i ≠ u → ((i < u + 1) = (i < u)) := fun i h => propext (by omega)
          repeat' first | refine pw_seq ?_ | refine pw_skip ?_ | refine pw_ret ?_ | refine pw_exit ?_ | refine pw_block ?_ | refine pw_region (fun _ => false) hmix ?_ | (refine wpG_split rfl rfl (fun hc => ?_) (fun hc => ?_) <;> try simp only [hcL, reduceCtorEq] at hc) | (refine pw_cond _ rfl rfl (fun hc => ?_) (fun hc => ?_) <;> (try simp only [hcL, reduceCtorEq] at hc) <;> try (exfalso; omega)) | simp (maxSteps := 1000000) (disch := omega) only [go_sem, simprocAttr] | apply And.intro | omega | decide +kernel
          refine ⟨u + 1, ?_, eF [] [] _ _ _ (by refine ⟨?_, ?_⟩ <;> (repeat' first | exact List.forall_mem_nil _ | refine List.forall_mem_cons.2 ⟨(by first | rfl | (simp (disch := omega) only [go_sem, simprocAttr, inL]; first | done | omega | (congr 1; done))), ?_⟩); done) ?_, ?_⟩
          · omega
          · repeat' first | exact List.forall_mem_nil _ | refine List.forall_mem_cons.2 ⟨?_, ?_⟩
            all_goals refine ⟨_, (by first | rfl | (simp (disch := omega) only [go_sem, simprocAttr, hnu, hsu, Nat.lt_add_one, mixR_full]; done) | (simp (disch := omega) only [go_sem, simprocAttr, hnu, hsu, Nat.lt_add_one, mixR_full]; rfl)), fun i hi => ?_⟩
            all_goals dsimp only at hi ⊢
            all_goals rcases Decidable.em (i = u) with rfl | hi0
            all_goals try (exfalso; omega)
            all_goals try (simp (disch := omega) only [go_sem, simprocAttr, hnu, hsu, Nat.lt_add_one, mixR_full, fid_lit, lit_fid]; done)
            all_goals try (simp (disch := omega) only [go_sem, simprocAttr, hnu, hsu, Nat.lt_add_one, mixR_full, hi0, fid_lit, lit_fid]; done)
          · omega
    · have : N = u := by omega
      subst this
      try dsimp only
      obtain ⟨F, hF⟩ : ∃ F : List D, F = [D.int ((i : Int) - 1), D.int ((i : Int) + 1)] := ⟨_, rfl⟩
      have hFl : F.length = 2 := by rw [hF]; rfl
      have hFx : ∀ t, t < 2 → F[t]? = some (D.int (fixT i t)) := fun t ht => by
        rw [hF]
        rcases t with _ | _ | t
        · rfl
        · rfl
        · omega
      repeat' first | refine pw_seq ?_ | refine pw_skip ?_ | refine pw_ret ?_ | refine pw_exit ?_ | refine pw_block ?_ | refine pw_region (fun _ => false) hmix ?_ | (refine wpG_split rfl rfl (fun hc => ?_) (fun hc => ?_) <;> try simp only [hcL, reduceCtorEq] at hc) | (refine pw_cond _ rfl rfl (fun hc => ?_) (fun hc => ?_) <;> (try simp only [hcL, reduceCtorEq] at hc) <;> try (exfalso; omega)) | simp (maxSteps := 1000000) (disch := omega) only [go_sem, simprocAttr] | apply And.intro | omega | decide +kernel
      refine pw_loopF (κ := Nat) (fun (t : Nat) => t ≤ 2) (fun (t : Nat) => [(3, .int i), (4, .ptr 4 0 0 0), (10, .ref 30 1 0 N N), (77, .d (.sl F)), (78, .int 2), (79, .int t)]) (fun (t : Nat) => [⟨1, 30, 1, N, fun k => (rowG (A t k) N).map D.int⟩]) (fun (t : Nat) => [(4, .cells [.int n, .d (listsD ls), .d (arcsD ar), .d (listsD cs)])]) (fun (t : Nat) => 2 - t) 0 ?_ ?_ ?_
      · exact Nat.zero_le _
      · refine eF [] [] _ _ _ (by refine ⟨?_, ?_⟩ <;> (repeat' first | exact List.forall_mem_nil _ | refine List.forall_mem_cons.2 ⟨(by first | rfl | (simp (disch := omega) only [go_sem, simprocAttr, inL, hF]; first | done | omega | (congr 1; done))), ?_⟩); done) ?_
        repeat' first | exact List.forall_mem_nil _ | refine List.forall_mem_cons.2 ⟨?_, ?_⟩
        all_goals refine ⟨_, (by first | rfl | (simp (disch := omega) only [go_sem, simprocAttr, hiN]; done) | (simp (disch := omega) only [go_sem, simprocAttr, hiN]; rfl)), fun i hi => ?_⟩
        all_goals dsimp only at hi ⊢
        all_goals try (exfalso; omega)
        all_goals try (simp (disch := omega) only [go_sem, simprocAttr, hiN, fid_lit, lit_fid]; done)
      · intro t ht
        rcases Nat.lt_or_ge t 2 with hlt2 | hge2
        · have hx := hFx t hlt2
          have hM := hMs t
          have hsq := hMsq t
          have hml := hMlen t
          have hS := haccS t
          generalize hR : Q t = R at *
          repeat' first | refine pw_seq ?_ | refine pw_skip ?_ | refine pw_ret ?_ | refine pw_exit ?_ | refine pw_block ?_ | refine pw_region (fun _ => false) hmix ?_ | (refine rc (hM) rfl ?_ ?_; (· first | rfl | (simp (disch := omega) only [go_sem, simprocAttr, hx, List.append_eq]; done))) | (refine wpG_split rfl rfl (fun hc => ?_) (fun hc => ?_) <;> try simp only [hcL, reduceCtorEq] at hc) | (refine pw_cond _ rfl rfl (fun hc => ?_) (fun hc => ?_) <;> (try simp only [hcL, reduceCtorEq] at hc) <;> try (exfalso; omega)) | simp (maxSteps := 1000000) (disch := omega) only [go_sem, simprocAttr, hx, List.append_eq] | apply And.intro | omega | decide +kernel
          refine pw_loopF (κ := Nat) (fun (c : Nat) => c ≤ R.length) (fun (c : Nat) => [(3, .int i), (4, .ptr 4 0 0 0), (10, .ref 30 1 0 N N), (77, .d (.sl F)), (78, .int 2), (79, .int t), (86, .d (listsD R)), (87, .int R.length), (88, .int c)]) (fun (c : Nat) => [⟨1, 30, 1, N, fun k => if k < c then (rowG (A (t + 1) k) N).map D.int else (rowG (A t k) N).map D.int⟩]) (fun (c : Nat) => [(4, .cells [.int n, .d (listsD ls), .d (arcsD ar), .d (listsD cs)])]) (fun (c : Nat) => R.length - c) 0 ?_ ?_ ?_
          · exact Nat.zero_le _
          · refine eF [] [] _ _ _ (by refine ⟨?_, ?_⟩ <;> (repeat' first | exact List.forall_mem_nil _ | refine List.forall_mem_cons.2 ⟨(by first | rfl | (simp (disch := omega) only [go_sem, simprocAttr, inL, hFl]; first | done | omega | (congr 1; done))), ?_⟩); done) ?_
            repeat' first | exact List.forall_mem_nil _ | refine List.forall_mem_cons.2 ⟨?_, ?_⟩
            all_goals refine ⟨_, (by first | rfl | (simp (disch := omega) only [go_sem, simprocAttr, Nat.not_lt_zero]; done) | (simp (disch := omega) only [go_sem, simprocAttr, Nat.not_lt_zero]; rfl)), fun i hi => ?_⟩
            all_goals dsimp only at hi ⊢
            all_goals try (exfalso; omega)
            all_goals try (simp (disch := omega) only [go_sem, simprocAttr, Nat.not_lt_zero, fid_lit, lit_fid]; done)
          · intro c hc0
            rcases Nat.lt_or_ge c R.length with hlc | hgc
            · have hRN : R.length = N := by omega
              obtain ⟨r, hr⟩ := get_some hlc
              have hrl := hsq.row r (List.mem_of_getElem? hr)
              have hrN : r.length = N := by omega
              have hnu : ¬ c < c := by omega
              repeat' first | refine pw_seq ?_ | refine pw_skip ?_ | refine pw_ret ?_ | refine pw_exit ?_ | refine pw_block ?_ | refine pw_region (fun _ => false) hmix ?_ | (refine wpG_split rfl rfl (fun hc => ?_) (fun hc => ?_) <;> try simp only [hcL, reduceCtorEq] at hc) | (refine pw_cond _ rfl rfl (fun hc => ?_) (fun hc => ?_) <;> (try simp only [hcL, reduceCtorEq] at hc) <;> try (exfalso; omega)) | simp (maxSteps := 1000000) (disch := omega) only [go_sem, simprocAttr, hr, hrN] | apply And.intro | omega | decide +kernel
              refine pw_loopF (κ := Nat) (fun (b : Nat) => b ≤ N) (fun (b : Nat) => [(3, .int i), (4, .ptr 4 0 0 0), (10, .ref 30 1 0 N N), (19, .int c), (77, .d (.sl F)), (78, .int 2), (79, .int t), (86, .d (listsD R)), (87, .int R.length), (88, .int c), (93, .d (intsD r)), (94, .int N), (95, .int b)]) (fun (b : Nat) => [⟨1, 30, 1, N, fun k => if k < c then (rowG (A (t + 1) k) N).map D.int else if k = c then (mixR (A t c) (A (t + 1) c) N b).map D.int else (rowG (A t k) N).map D.int⟩]) (fun (b : Nat) => [(4, .cells [.int n, .d (listsD ls), .d (arcsD ar), .d (listsD cs)])]) (fun (b : Nat) => N - b) 0 ?_ ?_ ?_
              · exact Nat.zero_le _
              · refine eF [] [] _ _ _ (by refine ⟨?_, ?_⟩ <;> (repeat' first | exact List.forall_mem_nil _ | refine List.forall_mem_cons.2 ⟨(by first | rfl | (simp (disch := omega) only [go_sem, simprocAttr, inL, hrN]; first | done | omega | (congr 1; done))), ?_⟩); done) ?_
                repeat' first | exact List.forall_mem_nil _ | refine List.forall_mem_cons.2 ⟨?_, ?_⟩
                all_goals refine ⟨_, (by first | rfl | (simp (disch := omega) only [go_sem, simprocAttr, hnu, mixR_zero]; done) | (simp (disch := omega) only [go_sem, simprocAttr, hnu, mixR_zero]; rfl)), fun i hi => ?_⟩
                all_goals dsimp only at hi ⊢
                all_goals rcases Decidable.em (i = c) with rfl | hi0
                all_goals try (exfalso; omega)
                all_goals try (simp (disch := omega) only [go_sem, simprocAttr, hnu, mixR_zero, fid_lit, lit_fid]; done)
                all_goals try (simp (disch := omega) only [go_sem, simprocAttr, hnu, mixR_zero, hi0, fid_lit, lit_fid]; done)
              · intro b hb
                have hfl2 := mixR_len (A t c) (A (t + 1) c) N b
                rcases Nat.lt_or_ge b N with hlb | hgb
                · obtain ⟨p, hp, _, hpv, g1, g2⟩ := hsq.get hlc (show b < R.length by omega)
                  rw [hr, Option.some.injEq] at hp
                  rw [← hp] at hpv
                  have hcell := hS c b
                  have ha := hacc t c b
                  have hg : (mixR (A t c) (A (t + 1) c) N b)[b]? = some (A t c b) := mixR_get hlb
                  have hst : (mixR (A t c) (A (t + 1) c) N b).set b (A (t + 1) c b) = mixR (A t c) (A (t + 1) c) N (b + 1) := mixR_step hlb
                  rw [hcell] at hst
                  refine pw_ent _ (ent_bor _ _ [4, 30] 30 c 900 1 1 N (by first | rfl | (simp (disch := omega) only [go_sem, simprocAttr, hnu, hfl2]; done) | (simp (disch := omega) only [go_sem, simprocAttr, hnu, hfl2]; rfl)) (by first | (simp (disch := omega) only [go_sem, simprocAttr, hnu, hfl2]; done) | (simp (disch := omega) only [go_sem, simprocAttr, hnu, hfl2]; rfl)) (by first | (simp (disch := omega) only [go_sem, simprocAttr, hnu, hfl2]; done) | (simp (disch := omega) only [go_sem, simprocAttr, hnu, hfl2]; rfl)) (fun i hi hne => by simp (disch := omega) only [go_sem, simprocAttr, hne, hnu, hfl2]; (repeat' split) <;> exact .ref _ _ _ _ _ ⟨by simp (disch := omega) only [go_sem, simprocAttr, hne, hnu, hfl2], by simp (disch := omega) only [go_sem, simprocAttr, hne, hnu, hfl2]⟩) (by (repeat' first | refine ab_nil ?_ | exact ab_obOf (ids := [4, 30]) rfl rfl (Nat.le_of_ble_eq_true rfl) | refine ab_hole ?_ | refine ab_row ?_ | refine ab_dead ?_ | refine ab_self ?_ | refine ab_self_fam ?_ | refine ab_fam (by dsimp only; omega) (by dsimp only; omega) (by omega) (by omega) (Nat.le_of_ble_eq_true rfl) ?_); done) rfl rfl rfl) ?_
                  repeat' first | refine pw_seq ?_ | refine pw_skip ?_ | refine pw_ret ?_ | refine pw_exit ?_ | refine pw_block ?_ | refine pw_region (fun _ => false) hmix ?_ | (refine wpG_split rfl rfl (fun hc => ?_) (fun hc => ?_) <;> try simp only [hcL, reduceCtorEq] at hc) | (refine pw_cond _ rfl rfl (fun hc => ?_) (fun hc => ?_) <;> (try simp only [hcL, reduceCtorEq] at hc) <;> try (exfalso; omega)) | simp (maxSteps := 1000000) (disch := omega) only [go_sem, simprocAttr, hr, hrN, hpv, hg, hfl2, hnu] | apply And.intro | omega | decide +kernel
                  refine ⟨b + 1, ?_, eF [(fid 1 c, 900)] [] _ _ _ (by refine ⟨?_, ?_⟩ <;> (repeat' first | exact List.forall_mem_nil _ | refine List.forall_mem_cons.2 ⟨(by first | rfl | (simp (disch := omega) only [go_sem, simprocAttr, inL]; first | done | omega | (congr 1; done))), ?_⟩); done) ?_, ?_⟩
                  · omega
                  · repeat' first | exact List.forall_mem_nil _ | refine List.forall_mem_cons.2 ⟨?_, ?_⟩
                    all_goals refine ⟨_, (by first | rfl | (simp (disch := omega) only [go_sem, simprocAttr, hst.symm, List.map_set, List.length_set, List.length_map, hfl2, hnu]; done) | (simp (disch := omega) only [go_sem, simprocAttr, hst.symm, List.map_set, List.length_set, List.length_map, hfl2, hnu]; rfl)), fun i hi => ?_⟩
                    all_goals dsimp only at hi ⊢
                    all_goals rcases Decidable.em (i = c) with rfl | hi0
                    all_goals try (exfalso; omega)
                    all_goals try (simp (disch := omega) only [go_sem, simprocAttr, hst.symm, List.map_set, List.length_set, List.length_map, hfl2, hnu, fid_lit, lit_fid]; done)
                    all_goals try (simp (disch := omega) only [go_sem, simprocAttr, hst.symm, List.map_set, List.length_set, List.length_map, hfl2, hnu, hi0, fid_lit, lit_fid]; done)
                  · omega
                · have : N = b := by omega
                  subst this
                  have hsu : ∀ i, i ≠ c → ((i < c + 1) = (i < c)) := fun i h => propext (by omega)
                  repeat' first | refine pw_seq ?_ | refine pw_skip ?_ | refine pw_ret ?_ | refine pw_exit ?_ | refine pw_block ?_ | refine pw_region (fun _ => false) hmix ?_ | (refine wpG_split rfl rfl (fun hc => ?_) (fun hc => ?_) <;> try simp only [hcL, reduceCtorEq] at hc) | (refine pw_cond _ rfl rfl (fun hc => ?_) (fun hc => ?_) <;> (try simp only [hcL, reduceCtorEq] at hc) <;> try (exfalso; omega)) | simp (maxSteps := 1000000) (disch := omega) only [go_sem, simprocAttr] | apply And.intro | omega | decide +kernel
                  refine ⟨c + 1, ?_, eF [] [] _ _ _ (by refine ⟨?_, ?_⟩ <;> (repeat' first | exact List.forall_mem_nil _ | refine List.forall_mem_cons.2 ⟨(by first | rfl | (simp (disch := omega) only [go_sem, simprocAttr, inL]; first | done | omega | (congr 1; done))), ?_⟩); done) ?_, ?_⟩
                  · omega
                  · repeat' first | exact List.forall_mem_nil _ | refine List.forall_mem_cons.2 ⟨?_, ?_⟩
                    all_goals refine ⟨_, (by first | rfl | (simp (disch := omega) only [go_sem, simprocAttr, hnu, hsu, Nat.lt_add_one, mixR_full]; done) | (simp (disch := omega) only [go_sem, simprocAttr, hnu, hsu, Nat.lt_add_one, mixR_full]; rfl)), fun i hi => ?_⟩
                    all_goals dsimp only at hi ⊢
                    all_goals rcases Decidable.em (i = c) with rfl | hi0
                    all_goals try (exfalso; omega)
                    all_goals try (simp (disch := omega) only [go_sem, simprocAttr, hnu, hsu, Nat.lt_add_one, mixR_full, fid_lit, lit_fid]; done)
                    all_goals try (simp (disch := omega) only [go_sem, simprocAttr, hnu, hsu, Nat.lt_add_one, mixR_full, hi0, fid_lit, lit_fid]; done)
                  · omega
            · have : R.length = c := by omega
              subst this
              repeat' first | refine pw_seq ?_ | refine pw_skip ?_ | refine pw_ret ?_ | refine pw_exit ?_ | refine pw_block ?_ | refine pw_region (fun _ => false) hmix ?_ | (refine wpG_split rfl rfl (fun hc => ?_) (fun hc => ?_) <;> try simp only [hcL, reduceCtorEq] at hc) | (refine pw_cond _ rfl rfl (fun hc => ?_) (fun hc => ?_) <;> (try simp only [hcL, reduceCtorEq] at hc) <;> try (exfalso; omega)) | simp (maxSteps := 1000000) (disch := omega) only [go_sem, simprocAttr] | apply And.intro | omega | decide +kernel
              rcases hml with hml | hml
              · have hsame : ∀ k, rowG (A (t + 1) k) N = rowG (A t k) N := fun k => rowG_congr fun v _ => by
                  rw [hS, cellAt, lstN_out (by omega)]; simp [at0]
                refine ⟨t + 1, ?_, eF [] [] _ _ _ (by refine ⟨?_, ?_⟩ <;> (repeat' first | exact List.forall_mem_nil _ | refine List.forall_mem_cons.2 ⟨(by first | rfl | (simp (disch := omega) only [go_sem, simprocAttr, inL]; first | done | omega | (congr 1; done))), ?_⟩); done) ?_, ?_⟩
                · omega
                · repeat' first | exact List.forall_mem_nil _ | refine List.forall_mem_cons.2 ⟨?_, ?_⟩
                  all_goals refine ⟨_, (by first | rfl | (simp (disch := omega) only [go_sem, simprocAttr, hml, Nat.not_lt_zero, hsame]; done) | (simp (disch := omega) only [go_sem, simprocAttr, hml, Nat.not_lt_zero, hsame]; rfl)), fun i hi => ?_⟩
                  all_goals dsimp only at hi ⊢
                  all_goals try (exfalso; omega)
                  all_goals try (simp (disch := omega) only [go_sem, simprocAttr, hml, Nat.not_lt_zero, hsame, fid_lit, lit_fid]; done)
                · omega
              · have hRN : R.length = N := by omega
                refine ⟨t + 1, ?_, eF [] [] _ _ _ (by refine ⟨?_, ?_⟩ <;> (repeat' first | exact List.forall_mem_nil _ | refine List.forall_mem_cons.2 ⟨(by first | rfl | (simp (disch := omega) only [go_sem, simprocAttr, inL]; first | done | omega | (congr 1; done))), ?_⟩); done) ?_, ?_⟩
                · omega
                · repeat' first | exact List.forall_mem_nil _ | refine List.forall_mem_cons.2 ⟨?_, ?_⟩
                  all_goals refine ⟨_, (by first | rfl | (simp (disch := omega) only [go_sem, simprocAttr, hRN, hiN]; done) | (simp (disch := omega) only [go_sem, simprocAttr, hRN, hiN]; rfl)), fun i hi => ?_⟩
                  all_goals dsimp only at hi ⊢
                  all_goals try (exfalso; omega)
                  all_goals try (simp (disch := omega) only [go_sem, simprocAttr, hRN, hiN, fid_lit, lit_fid]; done)
                · omega
        · have : t = 2 := by omega
          subst this
          try dsimp only
          refine pw_ent _ (ent_famRow _ _ _ _ ⟨nodup_of rfl, nodup_of rfl, (by (repeat' first | exact List.forall_mem_nil _ | refine List.forall_mem_cons.2 ⟨⟨Nat.le_of_ble_eq_true rfl, Nat.le_of_ble_eq_true rfl, by dsimp only; omega⟩, ?_⟩); done)⟩ rfl [4, 30] rfl rfl rfl rfl) ?_
          repeat' first | refine pw_seq ?_ | refine pw_skip ?_ | refine pw_ret ?_ | refine pw_exit ?_ | refine pw_block ?_ | refine pw_region (fun _ => false) hmix ?_ | (refine wpG_split rfl rfl (fun hc => ?_) (fun hc => ?_) <;> try simp only [hcL, reduceCtorEq] at hc) | (refine pw_cond _ rfl rfl (fun hc => ?_) (fun hc => ?_) <;> (try simp only [hcL, reduceCtorEq] at hc) <;> try (exfalso; omega)) | simp (maxSteps := 1000000) (disch := omega) only [go_sem, simprocAttr] | apply And.intro | omega | decide +kernel
          refine ret_ref (o := 30) rfl rfl (by simp) ?_
          rw [List.take_of_length_le (by simp), sqM, List.map_map]
          rfl
end Go.Proofs.YtelghbnlceeecaaGreat
namespace Go.Proofs.YtelghbnlceeecaaGreat
open Go Go.PS Go.Proofs
open Go.Bd (ix invF invN comN refN refB)
set_option maxRecDepth 100000
attribute [local irreducible] wpRun wpG CallsTo CallsM

theorem rowG_succ (g : Nat → Int) (b : Nat) : rowG g (b + 1) = rowG g b ++ [g b] := by rw [rowG, List.range_succ, List.map_append]; rfl
theorem sqM_rows (g : Nat → Nat → Int) (n k : Nat) : ((List.range (k + 1)).map fun u => rowG (g u) n) = ((List.range k).map fun u => rowG (g u) n) ++ [rowG (g k) n] := by rw [List.range_succ, List.map_append]; rfl
set_option maxHeartbeats 16000000 in
theorem rmatrix_spec (a : Lv) (old y : List Int) (w : Int) (i : Nat) (hw : wide a) (hv : validF a = true) (hwt : 0 ≤ w ∧ w ≤ 1000) (hy : a.2.1[i]? = some y) :
    CallsTo Tryz.prog 43 [lvD a, intsD old, .int w, .int i] (listsD (stM a old y w i)) := by
  have hil := (List.getElem?_eq_some_iff.1 hy).1
  obtain ⟨t1, t2⟩ := lv_le hv
  have hyl := tot_mem (List.mem_of_getElem? hy)
  have hA2 : ∀ u v, accC a old y w i 2 u v = wCell old y w u v + cellAt (MatrixF a i (fixT i 0)) u v + cellAt (MatrixF a i (fixT i 1)) u v := fun _ _ => rfl
  have hM0 : CallsTo Tryz.prog 63 [lvD a, .int i, .int ((i : Int) - 1)] (listsD (MatrixF a i (fixT i 0))) := rMatrix_spec a i ((i : Int) - 1) hw
  have hM1 : CallsTo Tryz.prog 63 [lvD a, .int i, .int ((i : Int) + 1)] (listsD (MatrixF a i (fixT i 1))) := rMatrix_spec a i ((i : Int) + 1) hw
  have hs0 := MatrixF_sq a i (fixT i 0)
  have hs1 := MatrixF_sq a i (fixT i 1)
  have hl0 : (MatrixF a i (fixT i 0)).length = 0 ∨ (MatrixF a i (fixT i 0)).length = y.length := by
    rw [MatrixF]
    split
    · right
      simp [matF, endsF, lenAt, hy]
    · left; rfl
  have hl1 : (MatrixF a i (fixT i 1)).length = 0 ∨ (MatrixF a i (fixT i 1)).length = y.length := by
    rw [MatrixF]
    split
    · right
      simp [matF, endsF, lenAt, hy]
    · left; rfl
  rw [stM]
  generalize accC a old y w i 2 = A at *
  generalize MatrixF a i (fixT i 0) = Q0 at *
  generalize MatrixF a i (fixT i 1) = Q1 at *
  obtain ⟨N, hN⟩ : ∃ N, N = y.length := ⟨_, rfl⟩
  have hN5 : N ≤ 512 := by omega
  obtain ⟨n, ls, ar, cs⟩ := a
  dsimp only at *
  refine callsTo_of Tryz.func43 rfl (by decide +kernel) (Nat.le_of_ble_eq_true rfl) ?_
  intro hat B X w0
  have hol := at_len 1 hat rfl
  rw [List.length_map] at hol
  repeat' first | refine pw_seq ?_ | refine pw_skip ?_ | refine pw_ret ?_ | refine pw_exit ?_ | refine pw_block ?_ | refine pw_region (fun _ => false) hmix ?_ | (refine rc (hM0) rfl ?_ ?_; (· first | rfl | (simp (disch := omega) only [go_sem, simprocAttr, hy, List.append_eq]; done))) | (refine rc (hM1) rfl ?_ ?_; (· first | rfl | (simp (disch := omega) only [go_sem, simprocAttr, hy, List.append_eq]; done))) | (refine wpG_split rfl rfl (fun hc => ?_) (fun hc => ?_) <;> try simp only [hcL, reduceCtorEq] at hc) | (refine pw_cond _ rfl rfl (fun hc => ?_) (fun hc => ?_) <;> (try simp only [hcL, reduceCtorEq] at hc) <;> try (exfalso; omega)) | simp (maxSteps := 1000000) (disch := omega) only [go_sem, simprocAttr, hy, List.append_eq] | apply And.intro | omega | decide +kernel
  refine pw_ent _ (ent_nil 12 902 1 rfl rfl) ?_
  refine pw_loopI (κ := Nat) (fun (u : Nat) => u ≤ N) (fun (u : Nat) => [(1, .d (intsD old)), (2, .int w), (9, .d (intsD y)), (10, .d (listsD Q0)), (11, .d (listsD Q1)), (12, .ref 902 1 0 u u), (13, .int u)]) (fun (u : Nat) => [(902, .row 1 (((List.range u).map fun u => rowG (A u) N).map intsD))]) (fun (u : Nat) => N - u) 0 ?_ ?_ ?_
  · exact Nat.zero_le _
  · exact eL [] _ _ (by refine ⟨?_, ?_⟩ <;> (repeat' first | exact List.forall_mem_nil _ | refine List.forall_mem_cons.2 ⟨(by first | rfl | (simp (disch := omega) only [go_sem, simprocAttr, inL, List.range_zero, List.map_nil]; first | done | omega | (congr 1; done))), ?_⟩); done)
  · intro u hu
    rcases Nat.lt_or_ge u N with hlt | hge
    · obtain ⟨p, hp⟩ := get_some (l := y) (k := u) (by omega)
      have hpx : at0 y u = p := by rw [at0, Int.toNat_natCast, hp]; rfl
      have h1 := rIndex_spec old p
      generalize hLL : ((List.range u).map fun u => rowG (A u) N) = LL
      have hLLl : LL.length = u := by rw [← hLL]; simp
      repeat' first | refine pw_seq ?_ | refine pw_skip ?_ | refine pw_ret ?_ | refine pw_exit ?_ | refine pw_block ?_ | refine pw_region (fun _ => false) hmix ?_ | (refine wpG_split rfl rfl (fun hc => ?_) (fun hc => ?_) <;> try simp only [hcL, reduceCtorEq] at hc) | (refine pw_cond _ rfl rfl (fun hc => ?_) (fun hc => ?_) <;> (try simp only [hcL, reduceCtorEq] at hc) <;> try (exfalso; omega)) | simp (maxSteps := 1000000) (disch := omega) only [go_sem, simprocAttr, hp, ← hN] | apply And.intro | omega | decide +kernel
      refine pw_ent _ (ent_nil 14 901 1 rfl rfl) ?_
      refine pw_loopI (κ := Nat) (fun (b : Nat) => b ≤ N) (fun (b : Nat) => [(1, .d (intsD old)), (2, .int w), (9, .d (intsD y)), (10, .d (listsD Q0)), (11, .d (listsD Q1)), (12, .ref 902 1 0 u u), (13, .int u), (14, .ref 901 1 0 b b), (15, .int b)]) (fun (b : Nat) => [(902, .row 1 (LL.map intsD)), (901, .row 1 ((rowG (A u) b).map D.int))]) (fun (b : Nat) => N - b) 0 ?_ ?_ ?_
      · exact Nat.zero_le _
      · exact eL [] _ _ (by refine ⟨?_, ?_⟩ <;> (repeat' first | exact List.forall_mem_nil _ | refine List.forall_mem_cons.2 ⟨(by first | rfl | (simp (disch := omega) only [go_sem, simprocAttr, inL, rowG, List.range_zero, List.map_nil]; first | done | omega | (congr 1; done))), ?_⟩); done)
      · intro b hb
        have hrl := rowG_len (A u) b
        rcases Nat.lt_or_ge b N with hlb | hgb
        · obtain ⟨q, hq⟩ := get_some (l := y) (k := b) (by omega)
          have hqx : at0 y b = q := by rw [at0, Int.toNat_natCast, hq]; rfl
          have h2 := rIndex_spec old q
          have e1 := rowG_succ (A u) b
          have hw2 := hA2 u b
          rw [wCell, hpx, hqx] at hw2
          have htl : ((rowG (A u) b).map D.int).take b = (rowG (A u) b).map D.int := List.take_of_length_le (by simp [hrl])
          rcases hl0 with hl0 | hl0 <;> rcases hl1 with hl1 | hl1
          · have z0 : cellAt Q0 u b = 0 := by rw [cellAt, lstN_out (by omega)]; simp [at0]
            have z1 : cellAt Q1 u b = 0 := by rw [cellAt, lstN_out (by omega)]; simp [at0]
            by_cases cc : 0 ≤ ix old q ∧ ix old q < ix old p
            · rw [if_pos cc] at hw2
              obtain ⟨cc1, cc2⟩ := cc
              have hub : ¬ (u : Int) = b := by
                intro e
                have e' : u = b := by omega
                subst e'
                rw [hp, Option.some.injEq] at hq
                subst hq
                exact Int.lt_irrefl _ cc2
              have hval : A u b = w := by omega
              repeat' first | refine pw_seq ?_ | refine pw_skip ?_ | refine pw_ret ?_ | refine pw_exit ?_ | refine pw_block ?_ | refine pw_region (fun _ => false) hmix ?_ | (refine rc (h1) rfl ?_ ?_; (· first | rfl | (simp (disch := omega) only [go_sem, simprocAttr, hq, hp, htl, roomy, Int.zero_add, hrl, hub, cc1, cc2]; done))) | (refine rc (h2) rfl ?_ ?_; (· first | rfl | (simp (disch := omega) only [go_sem, simprocAttr, hq, hp, htl, roomy, Int.zero_add, hrl, hub, cc1, cc2]; done))) | (refine wpG_split rfl rfl (fun hc => ?_) (fun hc => ?_) <;> try simp only [hcL, reduceCtorEq] at hc) | (refine pw_cond _ rfl rfl (fun hc => ?_) (fun hc => ?_) <;> (try simp only [hcL, reduceCtorEq] at hc) <;> try (exfalso; omega)) | simp (maxSteps := 1000000) (disch := omega) only [go_sem, simprocAttr, hq, hp, htl, roomy, Int.zero_add, hrl, hub, cc1, cc2] | exact one_int _ | apply And.intro | omega | decide +kernel
              refine ⟨b + 1, ?_, eL [(901, 104)] _ _ (by refine ⟨?_, ?_⟩ <;> (repeat' first | exact List.forall_mem_nil _ | refine List.forall_mem_cons.2 ⟨(by first | rfl | (simp (disch := omega) only [go_sem, simprocAttr, inL, e1, hval, List.map_append, List.map_cons, List.map_nil, hrl, htl]; first | done | omega | (congr 1; done))), ?_⟩); done), ?_⟩
              · omega
              · omega
            · rw [if_neg cc] at hw2
              have hval : A u b = 0 := by omega
              repeat' first | refine pw_seq ?_ | refine pw_skip ?_ | refine pw_ret ?_ | refine pw_exit ?_ | refine pw_block ?_ | refine pw_region (fun _ => false) hmix ?_ | (refine rc (h1) rfl ?_ ?_; (· first | rfl | (simp (disch := omega) only [go_sem, simprocAttr, hq, hp, htl, roomy, Int.zero_add, hrl]; done))) | (refine rc (h2) rfl ?_ ?_; (· first | rfl | (simp (disch := omega) only [go_sem, simprocAttr, hq, hp, htl, roomy, Int.zero_add, hrl]; done))) | (refine wpG_split rfl rfl (fun hc => ?_) (fun hc => ?_) <;> try simp only [hcL, reduceCtorEq] at hc) | (refine pw_cond _ rfl rfl (fun hc => ?_) (fun hc => ?_) <;> (try simp only [hcL, reduceCtorEq] at hc) <;> try (exfalso; omega)) | simp (maxSteps := 1000000) (disch := omega) only [go_sem, simprocAttr, hq, hp, htl, roomy, Int.zero_add, hrl] | exact one_int _ | apply And.intro | omega | decide +kernel
              all_goals
                refine ⟨b + 1, ?_, eL [(901, 104)] _ _ (by refine ⟨?_, ?_⟩ <;> (repeat' first | exact List.forall_mem_nil _ | refine List.forall_mem_cons.2 ⟨(by first | rfl | (simp (disch := omega) only [go_sem, simprocAttr, inL, e1, hval, List.map_append, List.map_cons, List.map_nil, hrl, htl]; first | done | omega | (congr 1; done))), ?_⟩); done), ?_⟩
                · omega
                · omega
          · have z0 : cellAt Q0 u b = 0 := by rw [cellAt, lstN_out (by omega)]; simp [at0]
            obtain ⟨p1, hp1, _, hp1v, g3, g4⟩ := hs1.get (show u < Q1.length by omega) (show b < Q1.length by omega)
            by_cases cc : 0 ≤ ix old q ∧ ix old q < ix old p
            · rw [if_pos cc] at hw2
              obtain ⟨cc1, cc2⟩ := cc
              have hub : ¬ (u : Int) = b := by
                intro e
                have e' : u = b := by omega
                subst e'
                rw [hp, Option.some.injEq] at hq
                subst hq
                exact Int.lt_irrefl _ cc2
              have hval : A u b = cellAt Q1 u b + w := by omega
              repeat' first | refine pw_seq ?_ | refine pw_skip ?_ | refine pw_ret ?_ | refine pw_exit ?_ | refine pw_block ?_ | refine pw_region (fun _ => false) hmix ?_ | (refine rc (h1) rfl ?_ ?_; (· first | rfl | (simp (disch := omega) only [go_sem, simprocAttr, hq, hp, htl, roomy, Int.zero_add, hrl, hp1, hp1v, hub, cc1, cc2]; done))) | (refine rc (h2) rfl ?_ ?_; (· first | rfl | (simp (disch := omega) only [go_sem, simprocAttr, hq, hp, htl, roomy, Int.zero_add, hrl, hp1, hp1v, hub, cc1, cc2]; done))) | (refine wpG_split rfl rfl (fun hc => ?_) (fun hc => ?_) <;> try simp only [hcL, reduceCtorEq] at hc) | (refine pw_cond _ rfl rfl (fun hc => ?_) (fun hc => ?_) <;> (try simp only [hcL, reduceCtorEq] at hc) <;> try (exfalso; omega)) | simp (maxSteps := 1000000) (disch := omega) only [go_sem, simprocAttr, hq, hp, htl, roomy, Int.zero_add, hrl, hp1, hp1v, hub, cc1, cc2] | exact one_int _ | apply And.intro | omega | decide +kernel
              refine ⟨b + 1, ?_, eL [(901, 104)] _ _ (by refine ⟨?_, ?_⟩ <;> (repeat' first | exact List.forall_mem_nil _ | refine List.forall_mem_cons.2 ⟨(by first | rfl | (simp (disch := omega) only [go_sem, simprocAttr, inL, e1, hval, List.map_append, List.map_cons, List.map_nil, hrl, htl]; first | done | omega | (congr 1; done))), ?_⟩); done), ?_⟩
              · omega
              · omega
            · rw [if_neg cc] at hw2
              have hval : A u b = cellAt Q1 u b := by omega
              repeat' first | refine pw_seq ?_ | refine pw_skip ?_ | refine pw_ret ?_ | refine pw_exit ?_ | refine pw_block ?_ | refine pw_region (fun _ => false) hmix ?_ | (refine rc (h1) rfl ?_ ?_; (· first | rfl | (simp (disch := omega) only [go_sem, simprocAttr, hq, hp, htl, roomy, Int.zero_add, hrl, hp1, hp1v]; done))) | (refine rc (h2) rfl ?_ ?_; (· first | rfl | (simp (disch := omega) only [go_sem, simprocAttr, hq, hp, htl, roomy, Int.zero_add, hrl, hp1, hp1v]; done))) | (refine wpG_split rfl rfl (fun hc => ?_) (fun hc => ?_) <;> try simp only [hcL, reduceCtorEq] at hc) | (refine pw_cond _ rfl rfl (fun hc => ?_) (fun hc => ?_) <;> (try simp only [hcL, reduceCtorEq] at hc) <;> try (exfalso; omega)) | simp (maxSteps := 1000000) (disch := omega) only [go_sem, simprocAttr, hq, hp, htl, roomy, Int.zero_add, hrl, hp1, hp1v] | exact one_int _ | apply And.intro | omega | decide +kernel
              all_goals
                refine ⟨b + 1, ?_, eL [(901, 104)] _ _ (by refine ⟨?_, ?_⟩ <;> (repeat' first | exact List.forall_mem_nil _ | refine List.forall_mem_cons.2 ⟨(by first | rfl | (simp (disch := omega) only [go_sem, simprocAttr, inL, e1, hval, List.map_append, List.map_cons, List.map_nil, hrl, htl]; first | done | omega | (congr 1; done))), ?_⟩); done), ?_⟩
                · omega
                · omega
          · obtain ⟨p0, hp0, _, hp0v, g1, g2⟩ := hs0.get (show u < Q0.length by omega) (show b < Q0.length by omega)
            have z1 : cellAt Q1 u b = 0 := by rw [cellAt, lstN_out (by omega)]; simp [at0]
            by_cases cc : 0 ≤ ix old q ∧ ix old q < ix old p
            · rw [if_pos cc] at hw2
              obtain ⟨cc1, cc2⟩ := cc
              have hub : ¬ (u : Int) = b := by
                intro e
                have e' : u = b := by omega
                subst e'
                rw [hp, Option.some.injEq] at hq
                subst hq
                exact Int.lt_irrefl _ cc2
              have hval : A u b = cellAt Q0 u b + w := by omega
              repeat' first | refine pw_seq ?_ | refine pw_skip ?_ | refine pw_ret ?_ | refine pw_exit ?_ | refine pw_block ?_ | refine pw_region (fun _ => false) hmix ?_ | (refine rc (h1) rfl ?_ ?_; (· first | rfl | (simp (disch := omega) only [go_sem, simprocAttr, hq, hp, htl, roomy, Int.zero_add, hrl, hp0, hp0v, hub, cc1, cc2]; done))) | (refine rc (h2) rfl ?_ ?_; (· first | rfl | (simp (disch := omega) only [go_sem, simprocAttr, hq, hp, htl, roomy, Int.zero_add, hrl, hp0, hp0v, hub, cc1, cc2]; done))) | (refine wpG_split rfl rfl (fun hc => ?_) (fun hc => ?_) <;> try simp only [hcL, reduceCtorEq] at hc) | (refine pw_cond _ rfl rfl (fun hc => ?_) (fun hc => ?_) <;> (try simp only [hcL, reduceCtorEq] at hc) <;> try (exfalso; omega)) | simp (maxSteps := 1000000) (disch := omega) only [go_sem, simprocAttr, hq, hp, htl, roomy, Int.zero_add, hrl, hp0, hp0v, hub, cc1, cc2] | exact one_int _ | apply And.intro | omega | decide +kernel
              refine ⟨b + 1, ?_, eL [(901, 104)] _ _ (by refine ⟨?_, ?_⟩ <;> (repeat' first | exact List.forall_mem_nil _ | refine List.forall_mem_cons.2 ⟨(by first | rfl | (simp (disch := omega) only [go_sem, simprocAttr, inL, e1, hval, List.map_append, List.map_cons, List.map_nil, hrl, htl]; first | done | omega | (congr 1; done))), ?_⟩); done), ?_⟩
              · omega
              · omega
            · rw [if_neg cc] at hw2
              have hval : A u b = cellAt Q0 u b := by omega
              repeat' first | refine pw_seq ?_ | refine pw_skip ?_ | refine pw_ret ?_ | refine pw_exit ?_ | refine pw_block ?_ | refine pw_region (fun _ => false) hmix ?_ | (refine rc (h1) rfl ?_ ?_; (· first | rfl | (simp (disch := omega) only [go_sem, simprocAttr, hq, hp, htl, roomy, Int.zero_add, hrl, hp0, hp0v]; done))) | (refine rc (h2) rfl ?_ ?_; (· first | rfl | (simp (disch := omega) only [go_sem, simprocAttr, hq, hp, htl, roomy, Int.zero_add, hrl, hp0, hp0v]; done))) | (refine wpG_split rfl rfl (fun hc => ?_) (fun hc => ?_) <;> try simp only [hcL, reduceCtorEq] at hc) | (refine pw_cond _ rfl rfl (fun hc => ?_) (fun hc => ?_) <;> (try simp only [hcL, reduceCtorEq] at hc) <;> try (exfalso; omega)) | simp (maxSteps := 1000000) (disch := omega) only [go_sem, simprocAttr, hq, hp, htl, roomy, Int.zero_add, hrl, hp0, hp0v] | exact one_int _ | apply And.intro | omega | decide +kernel
              all_goals
                refine ⟨b + 1, ?_, eL [(901, 104)] _ _ (by refine ⟨?_, ?_⟩ <;> (repeat' first | exact List.forall_mem_nil _ | refine List.forall_mem_cons.2 ⟨(by first | rfl | (simp (disch := omega) only [go_sem, simprocAttr, inL, e1, hval, List.map_append, List.map_cons, List.map_nil, hrl, htl]; first | done | omega | (congr 1; done))), ?_⟩); done), ?_⟩
                · omega
                · omega
          · obtain ⟨p0, hp0, _, hp0v, g1, g2⟩ := hs0.get (show u < Q0.length by omega) (show b < Q0.length by omega)
            obtain ⟨p1, hp1, _, hp1v, g3, g4⟩ := hs1.get (show u < Q1.length by omega) (show b < Q1.length by omega)
            by_cases cc : 0 ≤ ix old q ∧ ix old q < ix old p
            · rw [if_pos cc] at hw2
              obtain ⟨cc1, cc2⟩ := cc
              have hub : ¬ (u : Int) = b := by
                intro e
                have e' : u = b := by omega
                subst e'
                rw [hp, Option.some.injEq] at hq
                subst hq
                exact Int.lt_irrefl _ cc2
              have hval : A u b = cellAt Q0 u b + cellAt Q1 u b + w := by omega
              repeat' first | refine pw_seq ?_ | refine pw_skip ?_ | refine pw_ret ?_ | refine pw_exit ?_ | refine pw_block ?_ | refine pw_region (fun _ => false) hmix ?_ | (refine rc (h1) rfl ?_ ?_; (· first | rfl | (simp (disch := omega) only [go_sem, simprocAttr, hq, hp, htl, roomy, Int.zero_add, hrl, hp0, hp0v, hp1, hp1v, hub, cc1, cc2]; done))) | (refine rc (h2) rfl ?_ ?_; (· first | rfl | (simp (disch := omega) only [go_sem, simprocAttr, hq, hp, htl, roomy, Int.zero_add, hrl, hp0, hp0v, hp1, hp1v, hub, cc1, cc2]; done))) | (refine wpG_split rfl rfl (fun hc => ?_) (fun hc => ?_) <;> try simp only [hcL, reduceCtorEq] at hc) | (refine pw_cond _ rfl rfl (fun hc => ?_) (fun hc => ?_) <;> (try simp only [hcL, reduceCtorEq] at hc) <;> try (exfalso; omega)) | simp (maxSteps := 1000000) (disch := omega) only [go_sem, simprocAttr, hq, hp, htl, roomy, Int.zero_add, hrl, hp0, hp0v, hp1, hp1v, hub, cc1, cc2] | exact one_int _ | apply And.intro | omega | decide +kernel
              refine ⟨b + 1, ?_, eL [(901, 104)] _ _ (by refine ⟨?_, ?_⟩ <;> (repeat' first | exact List.forall_mem_nil _ | refine List.forall_mem_cons.2 ⟨(by first | rfl | (simp (disch := omega) only [go_sem, simprocAttr, inL, e1, hval, List.map_append, List.map_cons, List.map_nil, hrl, htl]; first | done | omega | (congr 1; done))), ?_⟩); done), ?_⟩
              · omega
              · omega
            · rw [if_neg cc] at hw2
              have hval : A u b = cellAt Q0 u b + cellAt Q1 u b := by omega
              repeat' first | refine pw_seq ?_ | refine pw_skip ?_ | refine pw_ret ?_ | refine pw_exit ?_ | refine pw_block ?_ | refine pw_region (fun _ => false) hmix ?_ | (refine rc (h1) rfl ?_ ?_; (· first | rfl | (simp (disch := omega) only [go_sem, simprocAttr, hq, hp, htl, roomy, Int.zero_add, hrl, hp0, hp0v, hp1, hp1v]; done))) | (refine rc (h2) rfl ?_ ?_; (· first | rfl | (simp (disch := omega) only [go_sem, simprocAttr, hq, hp, htl, roomy, Int.zero_add, hrl, hp0, hp0v, hp1, hp1v]; done))) | (refine wpG_split rfl rfl (fun hc => ?_) (fun hc => ?_) <;> try simp only [hcL, reduceCtorEq] at hc) | (refine pw_cond _ rfl rfl (fun hc => ?_) (fun hc => ?_) <;> (try simp only [hcL, reduceCtorEq] at hc) <;> try (exfalso; omega)) | simp (maxSteps := 1000000) (disch := omega) only [go_sem, simprocAttr, hq, hp, htl, roomy, Int.zero_add, hrl, hp0, hp0v, hp1, hp1v] | exact one_int _ | apply And.intro | omega | decide +kernel
              all_goals
                refine ⟨b + 1, ?_, eL [(901, 104)] _ _ (by refine ⟨?_, ?_⟩ <;> (repeat' first | exact List.forall_mem_nil _ | refine List.forall_mem_cons.2 ⟨(by first | rfl | (simp (disch := omega) only [go_sem, simprocAttr, inL, e1, hval, List.map_append, List.map_cons, List.map_nil, hrl, htl]; first | done | omega | (congr 1; done))), ?_⟩); done), ?_⟩
                · omega
                · omega
        · have : N = b := by omega
          subst this
          refine pw_ent _ (ent_freeze 901 1 ((rowG (A u) N).map D.int) rfl (noGone_of _ rfl) (by decide)) ?_
          have htl : ((rowG (A u) N).map D.int).take N = (rowG (A u) N).map D.int := List.take_of_length_le (by simp [hrl])
          have htl2 : (LL.map intsD).take u = LL.map intsD := List.take_of_length_le (by simp [hLLl])
          have e1 := sqM_rows A N u
          rw [hLL] at e1
          repeat' first | refine pw_seq ?_ | refine pw_skip ?_ | refine pw_ret ?_ | refine pw_exit ?_ | refine pw_block ?_ | refine pw_region (fun _ => false) hmix ?_ | (refine wpG_split rfl rfl (fun hc => ?_) (fun hc => ?_) <;> try simp only [hcL, reduceCtorEq] at hc) | (refine pw_cond _ rfl rfl (fun hc => ?_) (fun hc => ?_) <;> (try simp only [hcL, reduceCtorEq] at hc) <;> try (exfalso; omega)) | simp (maxSteps := 1000000) (disch := omega) only [go_sem, simprocAttr, hrl, htl, htl2, hLLl, roomy, List.drop_zero] | exact fun d hd => by rw [List.mem_singleton.1 hd]; rfl | apply And.intro | omega | decide +kernel
          refine ⟨u + 1, ?_, eL [(902, 108)] _ _ (by refine ⟨?_, ?_⟩ <;> (repeat' first | exact List.forall_mem_nil _ | refine List.forall_mem_cons.2 ⟨(by first | rfl | (simp (disch := omega) only [go_sem, simprocAttr, inL, hLL, List.map_append, List.map_cons, List.map_nil]; first | done | omega | (congr 1; done))), ?_⟩); done), ?_⟩
          · omega
          · omega
    · have : N = u := by omega
      subst this
      repeat' first | refine pw_seq ?_ | refine pw_skip ?_ | refine pw_ret ?_ | refine pw_exit ?_ | refine pw_block ?_ | refine pw_region (fun _ => false) hmix ?_ | (refine wpG_split rfl rfl (fun hc => ?_) (fun hc => ?_) <;> try simp only [hcL, reduceCtorEq] at hc) | (refine pw_cond _ rfl rfl (fun hc => ?_) (fun hc => ?_) <;> (try simp only [hcL, reduceCtorEq] at hc) <;> try (exfalso; omega)) | simp (maxSteps := 1000000) (disch := omega) only [go_sem, simprocAttr] | apply And.intro | omega | decide +kernel
      refine ret_ref (o := 902) rfl rfl (by simp) ?_
      rw [List.take_of_length_le (by simp), sqM, hN]
end Go.Proofs.YtelghbnlceeecaaGreat
