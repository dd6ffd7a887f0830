/- The best order of a layer costs least (no program in sight). -/
import Derived.Test.YtelghbnlceeecaaGreatStH
import Derived.Test.YtelghbnlceeecaaGreatCf
import Derived.Test.YtelghbnlceeecaaGreatE
import Derived.Test.YtelghbnlceeecaaGreatPSBridge
set_option linter.unusedSimpArgs false
set_option linter.unusedVariables false
namespace Go.Proofs.YtelghbnlceeecaaGreat
open Go Go.PS Go.Proofs
open Go.Bd (ix invF invN comN sumC sumC_add sumC_mul invC Part bestF)

theorem cellAt_sq {g : Nat → Nat → Int} {n u v : Nat} (hu : u < n) (hv : v < n) : cellAt (sqM g n) u v = g u v := by
  rw [cellAt, sqM, lstN, List.getElem?_map, List.getElem?_range hu]
  simp only [Option.map_some, Option.getD_some]
  rw [at0, Int.toNat_natCast, rowG_get hv]; rfl
theorem stM_len (a : Lv) (old y : List Int) (w : Int) (i : Nat) : (stM a old y w i).length = y.length := by simp [stM, sqM]
/-- The value of a place of a layer. -/
def yG (y : List Int) (k : Nat) : Int := (y[k]?).getD 0
theorem wCell_inv (old y : List Int) (w : Int) (u v : Nat) : wCell old y w u v = w * invC old (yG y) u v := by
  have e : ∀ k : Nat, at0 y k = yG y k := fun k => by rw [at0, Int.toNat_natCast]; rfl
  rw [wCell, invC, e, e]
  by_cases h1 : yG y u ∈ old <;> by_cases h2 : yG y v ∈ old
  · rw [ix_nat h1, ix_nat h2]
    by_cases h3 : old.idxOf (yG y v) < old.idxOf (yG y u)
    · rw [if_pos ⟨by omega, by omega⟩, if_pos ⟨h1, h2, h3⟩, Int.mul_one]
    · rw [if_neg (fun h => h3 (by omega)), if_neg (fun h => h3 h.2.2), Int.mul_zero]
  · rw [if_neg (fun h => by
      have := h.1
      rw [ix, if_neg h2] at this; omega), if_neg (fun h => h2 h.2.1), Int.mul_zero]
  · rw [if_neg (fun h => by
      have := h.2
      rw [ix_nat h2, ix, if_neg h1] at this; omega), if_neg (fun h => h1 h.1), Int.mul_zero]
  · rw [if_neg (fun h => by
      have := h.1
      rw [ix, if_neg h2] at this; omega), if_neg (fun h => h1 h.1), Int.mul_zero]
theorem accC_two (a : Lv) (old y : List Int) (w : Int) (i : Nat) (u v : Nat) : accC a old y w i 2 u v = w * invC old (yG y) u v + bothC a i u v := by
  rw [← wCell_inv]
  show wCell old y w u v + cellAt (MatrixF a i ((i : Int) - 1)) u v + cellAt (MatrixF a i ((i : Int) + 1)) u v = _
  rw [bothC]; omega
/-- The sum of a layer's matrix over an order of its places. -/
theorem stM_sum (a : Lv) (old y : List Int) (w : Int) (i : Nat) {o : List Nat} (ho : Part y.length 0 o) :
    sumC (cellAt (stM a old y w i)) o = w * sumC (invC old (yG y)) o + sumC (bothC a i) o := by
  rw [← sumC_mul, ← sumC_add]
  refine sumC_congr ho.nd fun u hu v hv _ => ?_
  rw [stM, cellAt_sq (ho.lt u hu) (ho.lt v hv), accC_two]
theorem layer_nodup {a : Lv} (hv : validF a = true) {i : Nat} {y : List Int} (hy : a.2.1[i]? = some y) : y.Nodup :=
  (List.pairwise_flatten.1 (valid_nodup hv)).1 y (List.mem_of_getElem? hy)
theorem permL_perm {y : List Int} {o : List Nat} (hn : y.Nodup) (ho : Part y.length 0 o) : (permL y o).Perm y :=
  (List.perm_ext_iff_of_nodup (permL_nodup hn ho) hn).2 fun _ => permL_mem ho
theorem reorder_put {a : Lv} (hv : validF a = true) {i : Nat} {y : List Int} {o : List Nat} (hy : a.2.1[i]? = some y) (ho : Part y.length 0 o) : reorderF a i (permL y o) = (putL a i (permL y o), 0) := by
  have hil := (List.getElem?_eq_some_iff.1 hy).1
  rw [reorderF, if_neg (by rw [hv]; decide), if_neg (by omega), Int.toNat_natCast, hy, Option.getD_some, if_neg (by rw [sortL_congr (permL_perm (layer_nodup hv hy) ho)]; simp)]
  rfl
theorem put_valid {a : Lv} (hv : validF a = true) {i : Nat} {y : List Int} {o : List Nat} (hy : a.2.1[i]? = some y) (ho : Part y.length 0 o) : validF (putL a i (permL y o)) = true := by
  have h := reorder_put hv hy ho
  have := reorder_valid (a := a) (i := i) (o := permL y o) (by rw [h])
  rw [h] at this; exact this
theorem put_self {a : Lv} {i : Nat} {y : List Int} (hy : a.2.1[i]? = some y) : putL a i y = a := by
  obtain ⟨hl, he⟩ := List.getElem?_eq_some_iff.1 hy
  rw [putL, ← he, List.set_getElem_self]
/-- What another order of a layer changes. -/
theorem put_cost {a : Lv} (hv : validF a = true) (old : List (List Int)) {w : Int} (hw : 0 ≤ w ∧ w ≤ 1000) {i : Nat} {y : List Int} {o : List Nat} (hy : a.2.1[i]? = some y) (ho : Part y.length 0 o) :
    costF (putL a i (permL y o)) old w - costF a old w = sumC (cellAt (stM a (lstN old i) y w i)) o - sumC (cellAt (stM a (lstN old i) y w i)) (List.range y.length) := by
  have hv' := put_valid hv hy ho
  have hil := (List.getElem?_eq_some_iff.1 hy).1
  have hT := put_total hv hv' hy ho
  have e1 : costF a old w = TotalF a + w * invS a old a.2.1.length := by rw [costF, if_pos (by rw [okW, hv, decide_eq_true hw]; rfl)]
  have e2 : costF (putL a i (permL y o)) old w = TotalF (putL a i (permL y o)) + w * invS (putL a i (permL y o)) old a.2.1.length := by
    rw [costF, if_pos (by rw [okW, hv', decide_eq_true hw]; rfl)]
    have : (putL a i (permL y o)).2.1.length = a.2.1.length := List.length_set
    rw [this]
  have hyn := layer_nodup hv hy
  have e3 : ∀ n, invS (putL a i (permL y o)) old n = invS a old n + (if i < n then (invF (lstN old i) (permL y o) : Int) - invF (lstN old i) y else 0) := by
    intro n
    induction n with
    | zero => simp [invS, sumZ]
    | succ n ih =>
      have s1 : ∀ b : Lv, invS b old (n + 1) = invS b old n + (invF (lstN old n) (lstN b.2.1 n) : Int) := fun _ => rfl
      rw [s1, s1, ih]
      have hl : (putL a i (permL y o)).2.1 = a.2.1.set i (permL y o) := rfl
      by_cases c : n = i
      · subst c
        have hs : lstN (a.2.1.set n (permL y o)) n = permL y o := by rw [lstN, List.getElem?_set, if_pos rfl, if_pos hil]; rfl
        rw [if_neg (by omega), if_pos (by omega), hl, lstN_at hy, hs]
        omega
      · have : lstN (putL a i (permL y o)).2.1 n = lstN a.2.1 n := by rw [hl, lstN, lstN, List.getElem?_set, if_neg (fun h => c h.symm)]
        rw [this]
        by_cases c2 : i < n
        · rw [if_pos c2, if_pos (by omega)]; omega
        · rw [if_neg c2, if_neg (by omega)]; omega
  have e4 : (invF (lstN old i) (permL y o) : Int) = sumC (invC (lstN old i) (yG y)) o := by
    have h := Go.Bd.invF_sum (lstN old i) (yG y) (l := o) (by
      have := permL_nodup hyn ho
      exact this)
    exact h
  have e5 : (invF (lstN old i) y : Int) = sumC (invC (lstN old i) (yG y)) (List.range y.length) := by
    have hr : (List.range y.length).map (yG y) = y := permL_range y
    have h := Go.Bd.invF_sum (lstN old i) (yG y) (l := List.range y.length) (by rw [hr]; exact hyn)
    rw [hr] at h; exact h
  rw [stM_sum _ _ _ _ _ ho, stM_sum _ _ _ _ _ (range_part _), e1, e2, e3, if_pos hil, Int.mul_add, Int.mul_sub, e4, e5]
  omega
end Go.Proofs.YtelghbnlceeecaaGreat
namespace Go.Proofs.YtelghbnlceeecaaGreat
open Go Go.PS Go.Proofs
open Go.Bd (sm ix invF invN comN sumC Part bestF)
set_option maxRecDepth 100000
attribute [local irreducible] wpRun wpG CallsTo CallsM

theorem cell_small (a : Lv) (i f : Int) (u v : Nat) : cellAt (MatrixF a i f) u v ≤ ((a.2.2.1.length * a.2.2.1.length : Nat) : Int) := by
  have hz : cellAt [] u v = 0 := by simp [cellAt, lstN, at0]
  rw [MatrixF]
  split
  · by_cases hu : u < (endsF a.2.1 a.2.2.1 i f (lenAt a i)).length
    · by_cases hv : v < (endsF a.2.1 a.2.2.1 i f (lenAt a i)).length
      · rw [cellAt_mat hu hv, cellF]
        split
        · omega
        · have hl : ∀ k, (lstN (endsF a.2.1 a.2.2.1 i f (lenAt a i)) k).length ≤ a.2.2.1.length := fun k => by
            by_cases hk : k < lenAt a i
            · rw [endsF, lstN, List.getElem?_map, List.getElem?_range hk]
              exact endsN_len ..
            · rw [lstN_out (by simp [endsF]; omega)]; exact Nat.zero_le _
          have := Nat.le_trans (behindF_le _ _) (Nat.mul_le_mul (hl u) (hl v))
          omega
      · have : cellAt (matF (endsF a.2.1 a.2.2.1 i f (lenAt a i))) u v = 0 := by
          rw [cellAt, matF, lstN, List.getElem?_map, List.getElem?_range hu]
          simp only [Option.map_some, Option.getD_some]
          rw [at0, Int.toNat_natCast, List.getElem?_eq_none (by simp; omega)]; rfl
        omega
    · have : cellAt (matF (endsF a.2.1 a.2.2.1 i f (lenAt a i))) u v = 0 := by
        rw [cellAt, lstN_out (by rw [matF]; simp; omega)]; simp [at0]
      omega
  · rw [hz]; omega
theorem stM_ok {a : Lv} {old y : List Int} {w : Int} {i : Nat} (hw : 0 ≤ w ∧ w ≤ 1000) (har : a.2.2.1.length ≤ 700) (hy : y.length ≤ 8) : okM (stM a old y w i) = true := by
  refine sq_ok ⟨by rw [stM_len]; omega, fun p hp => ?_, fun p hp x hx => ?_⟩ (by rw [stM_len]; exact hy)
  · rw [stM_len]
    obtain ⟨u, _, rfl⟩ := List.mem_map.1 hp
    exact rowG_len _ _
  · obtain ⟨u, _, rfl⟩ := List.mem_map.1 hp
    obtain ⟨v, _, rfl⟩ := List.mem_map.1 hx
    have hb : a.2.2.1.length * a.2.2.1.length ≤ 490000 := Nat.le_trans (Nat.mul_le_mul har har) (by decide)
    have h1 := cell_small a i ((i : Int) - 1) u v
    have h2 := cell_small a i ((i : Int) + 1) u v
    have h3 := (accC_le a old y hw i 2 u v).1
    have h4 := (accC_le a old y hw i 0 u v).2
    have e : accC a old y w i 2 u v = accC a old y w i 0 u v + cellAt (MatrixF a i ((i : Int) - 1)) u v + cellAt (MatrixF a i ((i : Int) + 1)) u v := rfl
    omega
theorem bestAll_part (m : List (List Int)) : Part m.length 0 (bestAll m).1 ∧ (bestAll m).2 = sumC (cellAt m) (bestAll m).1 := by
  obtain ⟨h1, _, h3⟩ := Go.Bd.best_of (cellAt m) m.length [] (part_nil _) _ (bestAll_eq m)
  exact ⟨h1, h3⟩
def bestLay (a : Lv) (old : List (List Int)) (w : Int) (i : Nat) : Lv :=
  if (bestAll (stM a (lstN old i) (lstN a.2.1 i) w i)).2 < sumC (cellAt (stM a (lstN old i) (lstN a.2.1 i) w i)) (List.range (lstN a.2.1 i).length) then putL a i (permL (lstN a.2.1 i) (bestAll (stM a (lstN old i) (lstN a.2.1 i) w i)).1) else a
def layerF (a : Lv) (old : List (List Int)) (w i : Int) : Lv × Int :=
  if okW a w = false then (lv0, 1) else if i < 0 ∨ (a.2.1.length : Int) ≤ i then (lv0, 3) else if 8 < (lstN a.2.1 i.toNat).length then (lv0, 2) else (bestLay a old w i.toNat, 0)
/-- A copy of a list, own. -/
theorem cloneO_spec (l : List Int) (hn : l.length ≤ 1000000) : CallsM Tryz.prog 27 [.d (intsD l)] [(2000, .dead)] (.ref 2000 1 0 l.length l.length) [(2000, .row 1 (l.map D.int))] := by
  rcases Decidable.em (l = []) with rfl | hl
  · refine callsM_of Tryz.func27 rfl (by decide +kernel) (Nat.le_of_ble_eq_true rfl) rfl (nodup_of rfl) rfl rfl rfl ?_
    intro B X w0
    refine pw_post ?_
    repeat' first | refine pw_seq ?_ | refine pw_skip ?_ | refine pw_ret ?_ | refine pw_exit ?_ | refine pw_block ?_ | refine pw_region (fun _ => false) hmix ?_ | (refine wpG_split rfl rfl (fun hc => ?_) (fun hc => ?_) <;> try simp only [hcL, reduceCtorEq] at hc) | (refine pw_cond _ rfl rfl (fun hc => ?_) (fun hc => ?_) <;> (try simp only [hcL, reduceCtorEq] at hc) <;> try (exfalso; omega)) | simp (maxSteps := 1000000) (disch := omega) only [go_sem, simprocAttr] | apply And.intro | omega | decide +kernel
    refine pw_anyb 4 rfl ?_
    intro b
    cases b
    · repeat' first | refine pw_seq ?_ | refine pw_skip ?_ | refine pw_ret ?_ | refine pw_exit ?_ | refine pw_block ?_ | refine pw_region (Nat.beq 5) hmix ?_ | (refine wpG_split rfl rfl (fun hc => ?_) (fun hc => ?_) <;> try simp only [hcL, reduceCtorEq] at hc) | (refine pw_cond _ rfl rfl (fun hc => ?_) (fun hc => ?_) <;> (try simp only [hcL, reduceCtorEq] at hc) <;> try (exfalso; omega)) | simp (maxSteps := 1000000) (disch := omega) only [go_sem, simprocAttr, roomy] | apply And.intro | omega | decide +kernel
      refine ⟨_, entL_iff.1 (eL [(2000, 7)] [(2, .ref 2000 1 0 0 0)] [(2000, .row 1 [])] (by refine ⟨?_, ?_⟩ <;> (repeat' first | exact List.forall_mem_nil _ | refine List.forall_mem_cons.2 ⟨(by first | rfl | (simp (disch := omega) only [go_sem, simprocAttr, inL]; first | done | omega | (congr 1; done))), ?_⟩); done)), ?_⟩
      exact ⟨rfl, List.forall_mem_cons.2 ⟨rfl, List.forall_mem_nil _⟩⟩
    · repeat' first | refine pw_seq ?_ | refine pw_skip ?_ | refine pw_ret ?_ | refine pw_exit ?_ | refine pw_block ?_ | refine pw_region (fun _ => false) hmix ?_ | (refine wpG_split rfl rfl (fun hc => ?_) (fun hc => ?_) <;> try simp only [hcL, reduceCtorEq] at hc) | (refine pw_cond _ rfl rfl (fun hc => ?_) (fun hc => ?_) <;> (try simp only [hcL, reduceCtorEq] at hc) <;> try (exfalso; omega)) | simp (maxSteps := 1000000) (disch := omega) only [go_sem, simprocAttr] | apply And.intro | omega | decide +kernel
      refine ⟨_, Ent.trans (ent_nil 2 7 1 rfl rfl) (entL_iff.1 (eL [(2000, 7)] [(2, .ref 2000 1 0 0 0)] [(2000, .row 1 [])] (by constructor <;> (repeat' first | exact List.forall_mem_nil _ | refine List.forall_mem_cons.2 ⟨rfl, ?_⟩)))), ?_⟩
      exact ⟨rfl, List.forall_mem_cons.2 ⟨rfl, List.forall_mem_nil _⟩⟩
  · have he : (l.map D.int).isEmpty = false := by simpa using hl
    have hpos : 0 < l.length := List.length_pos_iff.2 hl
    refine callsM_of Tryz.func27 rfl (by decide +kernel) (Nat.le_of_ble_eq_true rfl) rfl (nodup_of rfl) rfl rfl rfl ?_
    intro B X w0
    refine pw_post ?_
    repeat' first | refine pw_seq ?_ | refine pw_skip ?_ | refine pw_ret ?_ | refine pw_exit ?_ | refine pw_block ?_ | refine pw_region (Nat.beq 5) hmix ?_ | (refine wpG_split rfl rfl (fun hc => ?_) (fun hc => ?_) <;> try simp only [hcL, reduceCtorEq] at hc) | (refine pw_cond _ rfl rfl (fun hc => ?_) (fun hc => ?_) <;> (try simp only [hcL, reduceCtorEq] at hc) <;> try (exfalso; omega)) | simp (maxSteps := 1000000) (disch := omega) only [go_sem, simprocAttr, he, roomy, take_map_len] | exact one_int l | apply And.intro | omega | decide +kernel
    refine ⟨_, entL_iff.1 (eL [(2000, 7)] [(2, .ref 2000 1 0 l.length l.length)] [(2000, .row 1 (l.map D.int))] (by refine ⟨?_, ?_⟩ <;> (repeat' first | exact List.forall_mem_nil _ | refine List.forall_mem_cons.2 ⟨(by first | rfl | (simp (disch := omega) only [go_sem, simprocAttr, inL]; first | done | omega | (congr 1; done))), ?_⟩); done)), ?_⟩
    exact ⟨rfl, List.forall_mem_cons.2 ⟨rfl, List.forall_mem_nil _⟩⟩
/-- The sum over all pairs of places, as the loops make it. -/
def nowS (m : List (List Int)) (A : Nat) : Int := sm (fun A => sm (fun j => cellAt m A (A + 1 + j)) (m.length - 1 - A)) A
theorem now_in {m : List (List Int)} (hs : Sq m) (A j : Nat) : 0 ≤ sm (fun j => cellAt m A (A + 1 + j)) j ∧ sm (fun j => cellAt m A (A + 1 + j)) j ≤ 1000000 * j := Go.Bd.sm_bounds j fun k _ => cellAt_le hs A (A + 1 + k)
theorem now_le {m : List (List Int)} (hs : Sq m) (h8 : m.length ≤ 8) (A : Nat) : 0 ≤ nowS m A ∧ nowS m A ≤ 8000000 * A :=
  Go.Bd.sm_bounds A fun k _ => by
    have := now_in hs k (m.length - 1 - k)
    omega
end Go.Proofs.YtelghbnlceeecaaGreat
namespace Go.Proofs.YtelghbnlceeecaaGreat
open Go Go.PS Go.Proofs
open Go.Bd (sm ix invF invN comN sumC Part bestF)
set_option maxRecDepth 100000
attribute [local irreducible] wpRun wpG CallsTo CallsM

set_option maxHeartbeats 16000000 in
theorem Layer_main (a : Lv) (old : List (List Int)) (w : Int) (i : Nat) (y : List Int) (hw : wide a) (har : a.2.2.1.length ≤ 700) (hok : okW a w = true) (hy : a.2.1[i]? = some y) (hy8 : y.length ≤ 8) :
    CallsTo Tryz.prog 10 [lvD a, listsD old, .int w, .int i] (.tup [lvD (bestLay a old w i), .int 0]) := by
  have h1 := wrong_spec a w hw
  rw [hok] at h1
  simp only [okW, Bool.and_eq_true, decide_eq_true_eq] at hok
  obtain ⟨hv, hwt⟩ := hok
  have hil := (List.getElem?_eq_some_iff.1 hy).1
  obtain ⟨t1, t2⟩ := lv_le hv
  have h2 := list_spec old i
  have h3 := matrix_spec a (lstN old i) y w i hw hv hwt hy
  have hmok := stM_ok (old := lstN old i) (y := y) (i := i) hwt har hy8
  have h4 := Least_spec (stM a (lstN old i) y w i)
  rw [if_pos hmok] at h4
  have hml := stM_len a (lstN old i) y w i
  obtain ⟨hs, h8⟩ := ok_sq hmok
  have hbp := (bestAll_part (stM a (lstN old i) y w i)).1
  rw [hml] at hbp
  have hbb : 0 ≤ (bestAll (stM a (lstN old i) y w i)).2 ∧ (bestAll (stM a (lstN old i) y w i)).2 ≤ 64000000 := by
    obtain ⟨g1, g2, _⟩ := Go.Bd.best_bounds hs.small h8 (part_nil _) (bestAll_eq (stM a (lstN old i) y w i))
    exact ⟨g1, g2⟩
  have hnow : nowS (stM a (lstN old i) y w i) y.length = sumC (cellAt (stM a (lstN old i) y w i)) (List.range y.length) := by
    rw [nowS, Go.Bd.sumC_range, hml]
  have hr1 := Reorder_spec a i y hw (by omega)
  have hr1e : reorderF a i y = (a, 0) := by
    have := reorder_put hv hy (range_part y.length)
    rw [permL_range, put_self hy] at this; exact this
  rw [hr1e] at hr1
  have hr2 := Reorder_spec a i (permL y (bestAll (stM a (lstN old i) y w i)).1) hw (by rw [permL_len]; have := hbp.len; omega)
  rw [reorder_put hv hy hbp] at hr2
  have hcl := cloneO_spec y (by omega)
  rw [bestLay, lstN_at hy]
  rw [← hnow]
  have hnl := now_le hs h8
  have hni := now_in hs
  have hmz : mixR (yG y) (fun k => yG y (((bestAll (stM a (lstN old i) y w i)).1[k]?).getD 0)) y.length 0 = y := by
    rw [mixR_zero]; exact permL_range y
  have hrow : rowG (fun k => yG y (((bestAll (stM a (lstN old i) y w i)).1[k]?).getD 0)) y.length = permL y (bestAll (stM a (lstN old i) y w i)).1 := by
    have hpl := hbp.len
    generalize (bestAll (stM a (lstN old i) y w i)).1 = p at *
    refine List.ext_getElem? fun k => ?_
    rw [permL, List.getElem?_map]
    by_cases hk : k < y.length
    · rw [rowG_get hk]
      obtain ⟨q, hq⟩ := get_some (l := p) (k := k) (by omega)
      rw [hq]; rfl
    · rw [List.getElem?_eq_none (by rw [rowG_len]; omega), List.getElem?_eq_none (by omega)]; rfl
  generalize stM a (lstN old i) y w i = m at *
  generalize hBB : bestAll m = BB at *
  obtain ⟨p, cost⟩ := BB
  dsimp only at *
  have hpl := hbp.len
  have hN : m.length = y.length := hml
  have hS : ∀ A, nowS m (A + 1) = nowS m A + sm (fun j => cellAt m A (A + 1 + j)) (m.length - 1 - A) := fun _ => rfl
  have hS0 : nowS m 0 = 0 := rfl
  generalize nowS m = S at *
  obtain ⟨n, ls, ar, cs⟩ := a
  dsimp only at *
  refine callsTo_of Tryz.func10 rfl (by decide +kernel) (Nat.le_of_ble_eq_true rfl) ?_
  intro hat B X w0
  repeat' first | refine pw_seq ?_ | refine pw_skip ?_ | refine pw_ret ?_ | refine pw_exit ?_ | refine pw_block ?_ | refine pw_region (fun _ => false) hmix ?_ | (refine rc (h1) rfl ?_ ?_; (· first | rfl | (simp (disch := omega) only [go_sem, simprocAttr, List.append_eq, hy]; done))) | (refine rc (h2) rfl ?_ ?_; (· first | rfl | (simp (disch := omega) only [go_sem, simprocAttr, List.append_eq, hy]; done))) | (refine rc (h3) rfl ?_ ?_; (· first | rfl | (simp (disch := omega) only [go_sem, simprocAttr, List.append_eq, hy]; done))) | (refine rc (h4) rfl ?_ ?_; (· first | rfl | (simp (disch := omega) only [go_sem, simprocAttr, List.append_eq, hy]; done))) | (refine wpG_split rfl rfl (fun hc => ?_) (fun hc => ?_) <;> try simp only [hcL, reduceCtorEq] at hc) | (refine pw_cond _ rfl rfl (fun hc => ?_) (fun hc => ?_) <;> (try simp only [hcL, reduceCtorEq] at hc) <;> try (exfalso; omega)) | simp (maxSteps := 1000000) (disch := omega) only [go_sem, simprocAttr, List.append_eq, hy] | apply And.intro | omega | decide +kernel
  refine pw_loopI (κ := Nat) (fun (A : Nat) => A ≤ y.length) (fun (A : Nat) => [(3, .int i), (4, .ptr 4 0 0 0), (8, .ptr 8 0 0 0), (10, .d (intsD y)), (11, .d (listsD m)), (12, .d (natsD p)), (13, .int cost), (15, .int (S A)), (69, .int y.length), (70, .int A)]) (fun (A : Nat) => [(4, .cells [.int n, .d (listsD ls), .d (arcsD ar), .d (listsD cs)]), (8, .cells [.int 0, .nilS, .nilS, .nilS])]) (fun (A : Nat) => y.length - A) 0 ?_ ?_ ?_
  · exact Nat.zero_le _
  · exact eL [] _ _ (by refine ⟨?_, ?_⟩ <;> (repeat' first | exact List.forall_mem_nil _ | refine List.forall_mem_cons.2 ⟨(by first | rfl | (simp (disch := omega) only [go_sem, simprocAttr, inL, hS0, hN]; first | done | omega | (congr 1; done))), ?_⟩); done)
  · intro A hA
    have b1 := hnl A
    rcases Nat.lt_or_ge A y.length with hlt | hge
    · have e1 := hS A
      repeat' first | refine pw_seq ?_ | refine pw_skip ?_ | refine pw_ret ?_ | refine pw_exit ?_ | refine pw_block ?_ | refine pw_region (fun _ => false) hmix ?_ | (refine wpG_split rfl rfl (fun hc => ?_) (fun hc => ?_) <;> try simp only [hcL, reduceCtorEq] at hc) | (refine pw_cond _ rfl rfl (fun hc => ?_) (fun hc => ?_) <;> (try simp only [hcL, reduceCtorEq] at hc) <;> try (exfalso; omega)) | simp (maxSteps := 1000000) (disch := omega) only [go_sem, simprocAttr] | apply And.intro | omega | decide +kernel
      refine pw_loopI (κ := Nat) (fun (j : Nat) => j ≤ y.length - 1 - A) (fun (j : Nat) => [(3, .int i), (4, .ptr 4 0 0 0), (8, .ptr 8 0 0 0), (10, .d (intsD y)), (11, .d (listsD m)), (12, .d (natsD p)), (13, .int cost), (15, .int (S A + sm (fun j => cellAt m A (A + 1 + j)) j)), (16, .int A), (17, .int (A + 1 + j : Nat)), (69, .int y.length), (70, .int A)]) (fun (j : Nat) => [(4, .cells [.int n, .d (listsD ls), .d (arcsD ar), .d (listsD cs)]), (8, .cells [.int 0, .nilS, .nilS, .nilS])]) (fun (j : Nat) => y.length - j) 0 ?_ ?_ ?_
      · exact Nat.zero_le _
      · exact eL [] _ _ (by refine ⟨?_, ?_⟩ <;> (repeat' first | exact List.forall_mem_nil _ | refine List.forall_mem_cons.2 ⟨(by first | rfl | (simp (disch := omega) only [go_sem, simprocAttr, inL, sm, Int.add_zero, Nat.add_zero, Int.natCast_add, Int.natCast_one]; first | done | omega | (congr 1; done))), ?_⟩); done)
      · intro j hj
        have b2 := hni A j
        rcases Nat.lt_or_ge (A + 1 + j) y.length with hlj | hgj
        · obtain ⟨r, hr, hrl, hrv, g1, g2⟩ := hs.get (show A < m.length by omega) (show A + 1 + j < m.length by omega)
          have e2 : sm (fun j => cellAt m A (A + 1 + j)) (j + 1) = sm (fun j => cellAt m A (A + 1 + j)) j + cellAt m A (A + 1 + j) := rfl
          repeat' first | refine pw_seq ?_ | refine pw_skip ?_ | refine pw_ret ?_ | refine pw_exit ?_ | refine pw_block ?_ | refine pw_region (fun _ => false) hmix ?_ | (refine wpG_split rfl rfl (fun hc => ?_) (fun hc => ?_) <;> try simp only [hcL, reduceCtorEq] at hc) | (refine pw_cond _ rfl rfl (fun hc => ?_) (fun hc => ?_) <;> (try simp only [hcL, reduceCtorEq] at hc) <;> try (exfalso; omega)) | simp (maxSteps := 1000000) (disch := omega) only [go_sem, simprocAttr, hr, hrv, hN] | apply And.intro | omega | decide +kernel
          refine ⟨j + 1, ?_, eL [] _ _ (by refine ⟨?_, ?_⟩ <;> (repeat' first | exact List.forall_mem_nil _ | refine List.forall_mem_cons.2 ⟨(by first | rfl | (simp (disch := omega) only [go_sem, simprocAttr, inL, e2, Int.natCast_add, Int.natCast_one, Int.add_assoc]; first | done | omega | (congr 1; done))), ?_⟩); done), ?_⟩
          · omega
          · omega
        · have : j = m.length - 1 - A := by omega
          subst this
          rw [← e1]
          repeat' first | refine pw_seq ?_ | refine pw_skip ?_ | refine pw_ret ?_ | refine pw_exit ?_ | refine pw_block ?_ | refine pw_region (fun _ => false) hmix ?_ | (refine wpG_split rfl rfl (fun hc => ?_) (fun hc => ?_) <;> try simp only [hcL, reduceCtorEq] at hc) | (refine pw_cond _ rfl rfl (fun hc => ?_) (fun hc => ?_) <;> (try simp only [hcL, reduceCtorEq] at hc) <;> try (exfalso; omega)) | simp (maxSteps := 1000000) (disch := omega) only [go_sem, simprocAttr, hN] | apply And.intro | omega | decide +kernel
          refine ⟨A + 1, ?_, eL [] _ _ (by refine ⟨?_, ?_⟩ <;> (repeat' first | exact List.forall_mem_nil _ | refine List.forall_mem_cons.2 ⟨(by first | rfl | (simp (disch := omega) only [go_sem, simprocAttr, inL]; first | done | omega | (congr 1; done))), ?_⟩); done), ?_⟩
          · omega
          · omega
    · have : A = y.length := by omega
      subst this
      by_cases hc : cost < S y.length
      · rw [if_pos hc]
        repeat' first | refine pw_seq ?_ | refine pw_skip ?_ | refine pw_ret ?_ | refine pw_exit ?_ | refine pw_block ?_ | refine pw_region (fun _ => false) hmix ?_ | refine rcM [(2000, 900)] (hcl) rfl ?_ | (refine wpG_split rfl rfl (fun hc => ?_) (fun hc => ?_) <;> try simp only [hcL, reduceCtorEq] at hc) | (refine pw_cond _ rfl rfl (fun hc => ?_) (fun hc => ?_) <;> (try simp only [hcL, reduceCtorEq] at hc) <;> try (exfalso; omega)) | simp (maxSteps := 1000000) (disch := omega) only [go_sem, simprocAttr, hc] | apply And.intro | omega | decide +kernel
        refine pw_loopI (κ := Nat) (fun (k : Nat) => k ≤ p.length) (fun (k : Nat) => [(3, .int i), (4, .ptr 4 0 0 0), (8, .ptr 8 0 0 0), (10, .d (intsD y)), (18, .ref 900 1 0 y.length y.length), (96, .d (natsD p)), (97, .int p.length), (98, .int k)]) (fun (k : Nat) => [(4, .cells [.int n, .d (listsD ls), .d (arcsD ar), .d (listsD cs)]), (8, .cells [.int 0, .nilS, .nilS, .nilS]), (900, .row 1 ((mixR (yG y) (fun k => yG y ((p[k]?).getD 0)) y.length k).map D.int))]) (fun (k : Nat) => p.length - k) 0 ?_ ?_ ?_
        · exact Nat.zero_le _
        · exact eL [] _ _ (by refine ⟨?_, ?_⟩ <;> (repeat' first | exact List.forall_mem_nil _ | refine List.forall_mem_cons.2 ⟨(by first | rfl | (simp (disch := omega) only [go_sem, simprocAttr, inL, hmz]; first | done | omega | (congr 1; done))), ?_⟩); done)
        · intro k hk
          have hml2 := mixR_len (yG y) (fun k => yG y ((p[k]?).getD 0)) y.length k
          rcases Nat.lt_or_ge k p.length with hlk | hgk
          · obtain ⟨q, hq⟩ := get_some hlk
            have hqn := hbp.lt q (List.mem_of_getElem? hq)
            have hyq : y[q]? = some (yG y q) := by rw [yG, List.getElem?_eq_getElem hqn]; rfl
            have hg : (mixR (yG y) (fun k => yG y ((p[k]?).getD 0)) y.length k)[k]? = some (yG y k) := mixR_get (by omega)
            have hst : (mixR (yG y) (fun k => yG y ((p[k]?).getD 0)) y.length k).set k (yG y ((p[k]?).getD 0)) = mixR (yG y) (fun k => yG y ((p[k]?).getD 0)) y.length (k + 1) := mixR_step (g := fun k => yG y ((p[k]?).getD 0)) (by omega)
            rw [hq, Option.getD_some] at hst
            generalize mixR (yG y) (fun k => yG y ((p[k]?).getD 0)) y.length k = R at *
            repeat' first | refine pw_seq ?_ | refine pw_skip ?_ | refine pw_ret ?_ | refine pw_exit ?_ | refine pw_block ?_ | refine pw_region (fun _ => false) hmix ?_ | (refine wpG_split rfl rfl (fun hc => ?_) (fun hc => ?_) <;> try simp only [hcL, reduceCtorEq] at hc) | (refine pw_cond _ rfl rfl (fun hc => ?_) (fun hc => ?_) <;> (try simp only [hcL, reduceCtorEq] at hc) <;> try (exfalso; omega)) | simp (maxSteps := 1000000) (disch := omega) only [go_sem, simprocAttr, hq, hyq, hg, hml2] | apply And.intro | omega | decide +kernel
            refine ⟨k + 1, ?_, eL [] _ _ (by refine ⟨?_, ?_⟩ <;> (repeat' first | exact List.forall_mem_nil _ | refine List.forall_mem_cons.2 ⟨(by first | rfl | (simp (disch := omega) only [go_sem, simprocAttr, inL, hst.symm, List.map_set]; first | done | omega | (congr 1; done))), ?_⟩); done), ?_⟩
            · omega
            · omega
          · have : k = y.length := by omega
            subst this
            rw [mixR_full, hrow]
            have hpn : (permL y p).length = y.length := by rw [permL_len]; omega
            have htk : ((permL y p).map D.int).take y.length = (permL y p).map D.int := List.take_of_length_le (by simp [hpn])
            refine pw_ent _ (ent_freeze 900 1 ((permL y p).map D.int) rfl (noGone_of _ rfl) (by decide)) ?_
            repeat' first | refine pw_seq ?_ | refine pw_skip ?_ | refine pw_ret ?_ | refine pw_exit ?_ | refine pw_block ?_ | refine pw_region (fun _ => false) hmix ?_ | (refine rc (hr2) rfl ?_ ?_; (· first | rfl | (simp (disch := omega) only [go_sem, simprocAttr, hpn, htk, List.drop_zero, List.append_eq]; done))) | (refine wpG_split rfl rfl (fun hc => ?_) (fun hc => ?_) <;> try simp only [hcL, reduceCtorEq] at hc) | (refine pw_cond _ rfl rfl (fun hc => ?_) (fun hc => ?_) <;> (try simp only [hcL, reduceCtorEq] at hc) <;> try (exfalso; omega)) | simp (maxSteps := 1000000) (disch := omega) only [go_sem, simprocAttr, hpn, htk, List.drop_zero, List.append_eq] | apply And.intro | omega | decide +kernel
            refine ⟨_, rfl, ⟨_, _, _, _, rfl, ?_⟩, int_some rfl, trivial⟩
            simp (maxSteps := 1000000) (disch := omega) only [go_sem, simprocAttr, toD]
      · rw [if_neg hc]
        repeat' first | refine pw_seq ?_ | refine pw_skip ?_ | refine pw_ret ?_ | refine pw_exit ?_ | refine pw_block ?_ | refine pw_regionB 28 rfl (fun _ => false) hmix ?_ | refine rcM [(2000, 900)] (hcl) rfl ?_ | (refine wpG_split rfl rfl (fun hc => ?_) (fun hc => ?_) <;> try simp only [hcL, reduceCtorEq] at hc) | (refine pw_cond _ rfl rfl (fun hc => ?_) (fun hc => ?_) <;> (try simp only [hcL, reduceCtorEq] at hc) <;> try (exfalso; omega)) | simp (maxSteps := 1000000) (disch := omega) only [go_sem, simprocAttr, hc] | apply And.intro | omega | decide +kernel
        refine eR [] [(3, .int i), (4, .ptr 4 0 0 0), (8, .ptr 8 0 0 0), (18, .ref 900 1 0 y.length y.length)] [(4, .cells [.int n, .d (listsD ls), .d (arcsD ar), .d (listsD cs)]), (8, .cells [.int 0, .nilS, .nilS, .nilS]), (900, .row 1 (y.map D.int))] (by refine ⟨?_, ?_⟩ <;> (repeat' first | exact List.forall_mem_nil _ | refine List.forall_mem_cons.2 ⟨(by first | rfl | (simp (disch := omega) only [go_sem, simprocAttr, inL]; first | done | omega | (congr 1; done))), ?_⟩); done) ?_
        refine pw_ent _ (ent_freeze 900 1 (y.map D.int) rfl (noGone_of _ rfl) (by decide)) ?_
        repeat' first | refine pw_seq ?_ | refine pw_skip ?_ | refine pw_ret ?_ | refine pw_exit ?_ | refine pw_block ?_ | refine pw_region (fun _ => false) hmix ?_ | (refine rc (hr1) rfl ?_ ?_; (· first | rfl | (simp (disch := omega) only [go_sem, simprocAttr, take_map_len, List.drop_zero, List.append_eq]; done))) | (refine wpG_split rfl rfl (fun hc => ?_) (fun hc => ?_) <;> try simp only [hcL, reduceCtorEq] at hc) | (refine pw_cond _ rfl rfl (fun hc => ?_) (fun hc => ?_) <;> (try simp only [hcL, reduceCtorEq] at hc) <;> try (exfalso; omega)) | simp (maxSteps := 1000000) (disch := omega) only [go_sem, simprocAttr, take_map_len, List.drop_zero, List.append_eq] | apply And.intro | omega | decide +kernel
        refine ⟨_, rfl, ⟨_, _, _, _, rfl, ?_⟩, int_some rfl, trivial⟩
        simp (maxSteps := 1000000) (disch := omega) only [go_sem, simprocAttr, toD]
end Go.Proofs.YtelghbnlceeecaaGreat
namespace Go.Proofs.YtelghbnlceeecaaGreat
open Go Go.PS Go.Proofs
open Go.Bd (sm ix invF invN comN sumC Part bestF)
set_option maxRecDepth 100000
attribute [local irreducible] wpRun wpG CallsTo CallsM

set_option maxHeartbeats 4000000 in
theorem Layer_spec (a : Lv) (old : List (List Int)) (w i : Int) (hw : wide a) (har : a.2.2.1.length ≤ 700) :
    CallsTo Tryz.prog 10 [lvD a, listsD old, .int w, .int i] (.tup [lvD (layerF a old w i).1, .int (layerF a old w i).2]) := by
  have h1 := wrong_spec a w hw
  rw [layerF]
  rcases hok : okW a w with _ | _
  · rw [hok] at h1
    rw [if_pos rfl]
    refine callsTo_of Tryz.func10 rfl (by decide +kernel) (Nat.le_of_ble_eq_true rfl) ?_
    intro hat B X w0
    repeat' first | refine pw_seq ?_ | refine pw_skip ?_ | refine pw_ret ?_ | refine pw_exit ?_ | refine pw_block ?_ | refine pw_region (fun _ => false) hmix ?_ | (refine rc (h1) rfl ?_ ?_; (· first | rfl | (simp (disch := omega) only [go_sem, simprocAttr, List.append_eq]; done))) | (refine wpG_split rfl rfl (fun hc => ?_) (fun hc => ?_) <;> try simp only [hcL, reduceCtorEq] at hc) | (refine pw_cond _ rfl rfl (fun hc => ?_) (fun hc => ?_) <;> (try simp only [hcL, reduceCtorEq] at hc) <;> try (exfalso; omega)) | simp (maxSteps := 1000000) (disch := omega) only [go_sem, simprocAttr, List.append_eq] | apply And.intro | omega | decide +kernel
    refine ⟨_, rfl, ⟨_, _, _, _, rfl, ?_⟩, int_some rfl, trivial⟩
    simp (maxSteps := 1000000) (disch := omega) only [go_sem, simprocAttr, toD]
    rfl
  · rw [if_neg (by decide)]
    have hv : validF a = true := by
      rw [okW, Bool.and_eq_true] at hok; exact hok.1
    obtain ⟨t1, t2⟩ := lv_le hv
    by_cases hi : i < 0 ∨ (a.2.1.length : Int) ≤ i
    · rw [if_pos hi]
      rw [hok] at h1
      obtain ⟨n, ls, ar, cs⟩ := a
      dsimp only at hi t1
      refine callsTo_of Tryz.func10 rfl (by decide +kernel) (Nat.le_of_ble_eq_true rfl) ?_
      intro hat B X w0
      repeat' first | refine pw_seq ?_ | refine pw_skip ?_ | refine pw_ret ?_ | refine pw_exit ?_ | refine pw_block ?_ | refine pw_region (fun _ => false) hmix ?_ | (refine rc (h1) rfl ?_ ?_; (· first | rfl | (simp (disch := omega) only [go_sem, simprocAttr, List.append_eq]; done))) | (refine wpG_split rfl rfl (fun hc => ?_) (fun hc => ?_) <;> try simp only [hcL, reduceCtorEq] at hc) | (refine pw_cond _ rfl rfl (fun hc => ?_) (fun hc => ?_) <;> (try simp only [hcL, reduceCtorEq] at hc) <;> try (exfalso; omega)) | simp (maxSteps := 1000000) (disch := omega) only [go_sem, simprocAttr, List.append_eq] | apply And.intro | omega | decide +kernel
      all_goals
        refine ⟨_, rfl, ⟨_, _, _, _, rfl, ?_⟩, int_some rfl, trivial⟩
        simp (maxSteps := 1000000) (disch := omega) only [go_sem, simprocAttr, toD]
        rfl
    · rw [if_neg hi]
      obtain ⟨i, rfl⟩ : ∃ n : Nat, i = n := ⟨i.toNat, by omega⟩
      rw [Int.toNat_natCast]
      obtain ⟨y, hy⟩ := get_some (l := a.2.1) (k := i) (by omega)
      rw [lstN_at hy]
      by_cases hy8 : 8 < y.length
      · rw [if_pos hy8]
        rw [hok] at h1
        have hyl := tot_mem (List.mem_of_getElem? hy)
        obtain ⟨n, ls, ar, cs⟩ := a
        dsimp only at hi t1 hy t2 hyl
        refine callsTo_of Tryz.func10 rfl (by decide +kernel) (Nat.le_of_ble_eq_true rfl) ?_
        intro hat B X w0
        repeat' first | refine pw_seq ?_ | refine pw_skip ?_ | refine pw_ret ?_ | refine pw_exit ?_ | refine pw_block ?_ | refine pw_region (fun _ => false) hmix ?_ | (refine rc (h1) rfl ?_ ?_; (· first | rfl | (simp (disch := omega) only [go_sem, simprocAttr, List.append_eq, hy]; done))) | (refine wpG_split rfl rfl (fun hc => ?_) (fun hc => ?_) <;> try simp only [hcL, reduceCtorEq] at hc) | (refine pw_cond _ rfl rfl (fun hc => ?_) (fun hc => ?_) <;> (try simp only [hcL, reduceCtorEq] at hc) <;> try (exfalso; omega)) | simp (maxSteps := 1000000) (disch := omega) only [go_sem, simprocAttr, List.append_eq, hy] | apply And.intro | omega | decide +kernel
        refine ⟨_, rfl, ⟨_, _, _, _, rfl, ?_⟩, int_some rfl, trivial⟩
        simp (maxSteps := 1000000) (disch := omega) only [go_sem, simprocAttr, toD]
        rfl
      · rw [if_neg hy8]
        exact Layer_main a old w i y hw har hok hy (by omega)
set_option maxHeartbeats 16000000 in
theorem rLayer_main (a : Lv) (old : List (List Int)) (w : Int) (i : Nat) (y : List Int) (hw : wide a) (har : a.2.2.1.length ≤ 700) (hok : okW a w = true) (hy : a.2.1[i]? = some y) (hy8 : y.length ≤ 8) :
    CallsTo Tryz.prog 20 [lvD a, listsD old, .int w, .int i] (.tup [lvD (bestLay a old w i), .int 0]) := by
  have h1 := rLvValid_spec a hw
  rw [← valid_same] at h1
  simp only [okW, Bool.and_eq_true, decide_eq_true_eq] at hok
  obtain ⟨hv, hwt⟩ := hok
  rw [hv] at h1
  have hil := (List.getElem?_eq_some_iff.1 hy).1
  obtain ⟨t1, t2⟩ := lv_le hv
  have h2 := before_spec old i
  have h3 := rmatrix_spec a (lstN old i) y w i hw hv hwt hy
  have hmok := stM_ok (old := lstN old i) (y := y) (i := i) hwt har hy8
  have h4 := rLeast_spec (stM a (lstN old i) y w i)
  rw [if_pos hmok] at h4
  have hml := stM_len a (lstN old i) y w i
  obtain ⟨hs, h8⟩ := ok_sq hmok
  obtain ⟨hbp, hbe⟩ := bestAll_part (stM a (lstN old i) y w i)
  rw [hml] at hbp
  have hr := rReorder_spec a i (permL y (bestAll (stM a (lstN old i) y w i)).1) hw (by rw [permL_len]; have := hbp.len; omega)
  rw [reorder_put hv hy hbp] at hr
  have hwp : wide (putL a i (permL y (bestAll (stM a (lstN old i) y w i)).1)) := by
    have := reorder_wide (a := a) (i := i) (o := permL y (bestAll (stM a (lstN old i) y w i)).1) hw (by rw [permL_len]; have := hbp.len; omega)
    rw [reorder_put hv hy hbp] at this; exact this
  have hc1 := rCost_spec a old w hw
  have hc2 := rCost_spec (putL a i (permL y (bestAll (stM a (lstN old i) y w i)).1)) old w hwp
  have hpc := put_cost hv old hwt hy hbp
  rw [← hbe] at hpc
  rw [bestLay, lstN_at hy]
  generalize stM a (lstN old i) y w i = m at *
  generalize hBB : bestAll m = BB at *
  obtain ⟨p, cost⟩ := BB
  dsimp only at *
  have hpl := hbp.len
  have hN : m.length = y.length := hml
  have hiff : (cost < sumC (cellAt m) (List.range y.length)) ↔ ¬ costF a old w ≤ costF (putL a i (permL y p)) old w := by omega
  generalize costF (putL a i (permL y p)) old w = C2 at *
  generalize costF a old w = C1 at *
  rw [show (if cost < sumC (cellAt m) (List.range y.length) then putL a i (permL y p) else a) = if C1 ≤ C2 then a else putL a i (permL y p) by
    by_cases c : C1 ≤ C2
    · rw [if_pos c, if_neg (fun h => (hiff.1 h) c)]
    · rw [if_neg c, if_pos (hiff.2 c)]]
  generalize hPP : putL a i (permL y p) = PP at *
  obtain ⟨n', ls', ar', cs'⟩ := PP
  obtain ⟨n, ls, ar, cs⟩ := a
  dsimp only at *
  refine callsTo_of Tryz.func20 rfl (by decide +kernel) (Nat.le_of_ble_eq_true rfl) ?_
  intro hat B X w0
  repeat' first | refine pw_seq ?_ | refine pw_skip ?_ | refine pw_ret ?_ | refine pw_exit ?_ | refine pw_block ?_ | refine pw_region (fun _ => false) hmix ?_ | (refine rc (h1) rfl ?_ ?_; (· first | rfl | (simp (disch := omega) only [go_sem, simprocAttr, List.append_eq, hy]; done))) | (refine rc (h2) rfl ?_ ?_; (· first | rfl | (simp (disch := omega) only [go_sem, simprocAttr, List.append_eq, hy]; done))) | (refine rc (h3) rfl ?_ ?_; (· first | rfl | (simp (disch := omega) only [go_sem, simprocAttr, List.append_eq, hy]; done))) | (refine rc (h4) rfl ?_ ?_; (· first | rfl | (simp (disch := omega) only [go_sem, simprocAttr, List.append_eq, hy]; done))) | (refine wpG_split rfl rfl (fun hc => ?_) (fun hc => ?_) <;> try simp only [hcL, reduceCtorEq] at hc) | (refine pw_cond _ rfl rfl (fun hc => ?_) (fun hc => ?_) <;> (try simp only [hcL, reduceCtorEq] at hc) <;> try (exfalso; omega)) | simp (maxSteps := 1000000) (disch := omega) only [go_sem, simprocAttr, List.append_eq, hy] | apply And.intro | omega | decide +kernel
  refine pw_ent _ (ent_nil 13 901 1 rfl rfl) ?_
  refine pw_loopI (κ := Nat) (fun (k : Nat) => k ≤ p.length) (fun (k : Nat) => [(1, .d (listsD old)), (2, .int w), (3, .int i), (4, .ptr 4 0 0 0), (8, .ptr 8 0 0 0), (10, .d (natsD p)), (13, .ref 901 1 0 k k), (14, .int k)]) (fun (k : Nat) => [(4, .cells [.int n, .d (listsD ls), .d (arcsD ar), .d (listsD cs)]), (8, .cells [.int 0, .nilS, .nilS, .nilS]), (901, .row 1 (((permL y p).take k).map D.int))]) (fun (k : Nat) => p.length - k) 0 ?_ ?_ ?_
  · exact Nat.zero_le _
  · exact eL [] _ _ (by refine ⟨?_, ?_⟩ <;> (repeat' first | exact List.forall_mem_nil _ | refine List.forall_mem_cons.2 ⟨(by first | rfl | (simp (disch := omega) only [go_sem, simprocAttr, inL, List.take_zero, List.map_nil]; first | done | omega | (congr 1; done))), ?_⟩); done)
  · intro k hk
    have hlk : ((permL y p).take k).length = k := by rw [List.length_take, permL_len]; omega
    have htk : (((permL y p).take k).map D.int).take k = ((permL y p).take k).map D.int := List.take_of_length_le (by rw [List.length_map, hlk]; exact Nat.le_refl _)
    rcases Nat.lt_or_ge k p.length with hlt | hge
    · obtain ⟨q, hq⟩ := get_some hlt
      have hqn := hbp.lt q (List.mem_of_getElem? hq)
      have hyq : y[q]? = some (yG y q) := by rw [yG, List.getElem?_eq_getElem hqn]; rfl
      have e1 : (permL y p).take (k + 1) = (permL y p).take k ++ [yG y q] := take_snoc (by rw [permL, List.getElem?_map, hq]; rfl)
      generalize (permL y p).take k = R at *
      repeat' first | refine pw_seq ?_ | refine pw_skip ?_ | refine pw_ret ?_ | refine pw_exit ?_ | refine pw_block ?_ | refine pw_region (fun _ => false) hmix ?_ | (refine wpG_split rfl rfl (fun hc => ?_) (fun hc => ?_) <;> try simp only [hcL, reduceCtorEq] at hc) | (refine pw_cond _ rfl rfl (fun hc => ?_) (fun hc => ?_) <;> (try simp only [hcL, reduceCtorEq] at hc) <;> try (exfalso; omega)) | simp (maxSteps := 1000000) (disch := omega) only [go_sem, simprocAttr, hy, hq, hyq, hlk, htk, roomy] | exact one_int _ | apply And.intro | omega | decide +kernel
      refine ⟨k + 1, ?_, eL [(901, 80)] _ _ (by refine ⟨?_, ?_⟩ <;> (repeat' first | exact List.forall_mem_nil _ | refine List.forall_mem_cons.2 ⟨(by first | rfl | (simp (disch := omega) only [go_sem, simprocAttr, inL, e1, List.map_append, List.map_cons, List.map_nil]; first | done | omega | (congr 1; done))), ?_⟩); done), ?_⟩
      · omega
      · omega
    · have : k = p.length := by omega
      subst this
      have hfull : (permL y p).take p.length = permL y p := List.take_of_length_le (by rw [permL_len]; exact Nat.le_refl _)
      rw [hfull] at hlk htk
      rw [hfull]
      refine pw_ent _ (ent_freeze 901 1 ((permL y p).map D.int) rfl (noGone_of _ rfl) (by decide)) ?_
      by_cases c : C1 ≤ C2
      · rw [if_pos c]
        repeat' first | refine pw_seq ?_ | refine pw_skip ?_ | refine pw_ret ?_ | refine pw_exit ?_ | refine pw_block ?_ | refine pw_region (fun _ => false) hmix ?_ | (refine rc (hr) rfl ?_ ?_; (· first | rfl | (simp (disch := omega) only [go_sem, simprocAttr, hlk, htk, List.drop_zero, List.append_eq, c]; done))) | (refine rc (hc1) rfl ?_ ?_; (· first | rfl | (simp (disch := omega) only [go_sem, simprocAttr, hlk, htk, List.drop_zero, List.append_eq, c]; done))) | (refine rc (hc2) rfl ?_ ?_; (· first | rfl | (simp (disch := omega) only [go_sem, simprocAttr, hlk, htk, List.drop_zero, List.append_eq, c]; done))) | (refine wpG_split rfl rfl (fun hc => ?_) (fun hc => ?_) <;> try simp only [hcL, reduceCtorEq] at hc) | (refine pw_cond _ rfl rfl (fun hc => ?_) (fun hc => ?_) <;> (try simp only [hcL, reduceCtorEq] at hc) <;> try (exfalso; omega)) | simp (maxSteps := 1000000) (disch := omega) only [go_sem, simprocAttr, hlk, htk, List.drop_zero, List.append_eq, c] | apply And.intro | omega | decide +kernel
        refine ⟨_, rfl, ⟨_, _, _, _, rfl, ?_⟩, int_some rfl, trivial⟩
        simp (maxSteps := 1000000) (disch := omega) only [go_sem, simprocAttr, toD]
      · rw [if_neg c]
        repeat' first | refine pw_seq ?_ | refine pw_skip ?_ | refine pw_ret ?_ | refine pw_exit ?_ | refine pw_block ?_ | refine pw_region (fun _ => false) hmix ?_ | (refine rc (hr) rfl ?_ ?_; (· first | rfl | (simp (disch := omega) only [go_sem, simprocAttr, hlk, htk, List.drop_zero, List.append_eq, c]; done))) | (refine rc (hc1) rfl ?_ ?_; (· first | rfl | (simp (disch := omega) only [go_sem, simprocAttr, hlk, htk, List.drop_zero, List.append_eq, c]; done))) | (refine rc (hc2) rfl ?_ ?_; (· first | rfl | (simp (disch := omega) only [go_sem, simprocAttr, hlk, htk, List.drop_zero, List.append_eq, c]; done))) | (refine wpG_split rfl rfl (fun hc => ?_) (fun hc => ?_) <;> try simp only [hcL, reduceCtorEq] at hc) | (refine pw_cond _ rfl rfl (fun hc => ?_) (fun hc => ?_) <;> (try simp only [hcL, reduceCtorEq] at hc) <;> try (exfalso; omega)) | simp (maxSteps := 1000000) (disch := omega) only [go_sem, simprocAttr, hlk, htk, List.drop_zero, List.append_eq, c] | apply And.intro | omega | decide +kernel
        refine ⟨_, rfl, ⟨_, _, _, _, rfl, ?_⟩, int_some rfl, trivial⟩
        simp (maxSteps := 1000000) (disch := omega) only [go_sem, simprocAttr, toD]
set_option maxHeartbeats 4000000 in
theorem rLayer_spec (a : Lv) (old : List (List Int)) (w i : Int) (hw : wide a) (har : a.2.2.1.length ≤ 700) :
    CallsTo Tryz.prog 20 [lvD a, listsD old, .int w, .int i] (.tup [lvD (layerF a old w i).1, .int (layerF a old w i).2]) := by
  have h1 := rLvValid_spec a hw
  rw [← valid_same] at h1
  rw [layerF]
  rcases hok : okW a w with _ | _
  · rw [if_pos rfl]
    rw [okW] at hok
    rcases hv : validF a with _ | _ <;> rw [hv] at h1 hok
    · refine callsTo_of Tryz.func20 rfl (by decide +kernel) (Nat.le_of_ble_eq_true rfl) ?_
      intro hat B X w0
      repeat' first | refine pw_seq ?_ | refine pw_skip ?_ | refine pw_ret ?_ | refine pw_exit ?_ | refine pw_block ?_ | refine pw_region (fun _ => false) hmix ?_ | (refine rc (h1) rfl ?_ ?_; (· first | rfl | (simp (disch := omega) only [go_sem, simprocAttr, List.append_eq]; done))) | (refine wpG_split rfl rfl (fun hc => ?_) (fun hc => ?_) <;> try simp only [hcL, reduceCtorEq] at hc) | (refine pw_cond _ rfl rfl (fun hc => ?_) (fun hc => ?_) <;> (try simp only [hcL, reduceCtorEq] at hc) <;> try (exfalso; omega)) | simp (maxSteps := 1000000) (disch := omega) only [go_sem, simprocAttr, List.append_eq] | apply And.intro | omega | decide +kernel
      refine ⟨_, rfl, ⟨_, _, _, _, rfl, ?_⟩, int_some rfl, trivial⟩
      simp (maxSteps := 1000000) (disch := omega) only [go_sem, simprocAttr, toD]
      rfl
    · have hn : ¬ (0 ≤ w ∧ w ≤ 1000) := by simpa using hok
      refine callsTo_of Tryz.func20 rfl (by decide +kernel) (Nat.le_of_ble_eq_true rfl) ?_
      intro hat B X w0
      repeat' first | refine pw_seq ?_ | refine pw_skip ?_ | refine pw_ret ?_ | refine pw_exit ?_ | refine pw_block ?_ | refine pw_region (fun _ => false) hmix ?_ | (refine rc (h1) rfl ?_ ?_; (· first | rfl | (simp (disch := omega) only [go_sem, simprocAttr, List.append_eq]; done))) | (refine wpG_split rfl rfl (fun hc => ?_) (fun hc => ?_) <;> try simp only [hcL, reduceCtorEq] at hc) | (refine pw_cond _ rfl rfl (fun hc => ?_) (fun hc => ?_) <;> (try simp only [hcL, reduceCtorEq] at hc) <;> try (exfalso; omega)) | simp (maxSteps := 1000000) (disch := omega) only [go_sem, simprocAttr, List.append_eq] | apply And.intro | omega | decide +kernel
      all_goals
        refine ⟨_, rfl, ⟨_, _, _, _, rfl, ?_⟩, int_some rfl, trivial⟩
        simp (maxSteps := 1000000) (disch := omega) only [go_sem, simprocAttr, toD]
        rfl
  · rw [if_neg (by decide)]
    have hok2 := hok
    simp only [okW, Bool.and_eq_true, decide_eq_true_eq] at hok2
    obtain ⟨hv, hwt⟩ := hok2
    rw [hv] at h1
    obtain ⟨t1, t2⟩ := lv_le hv
    by_cases hi : i < 0 ∨ (a.2.1.length : Int) ≤ i
    · rw [if_pos hi]
      obtain ⟨n, ls, ar, cs⟩ := a
      dsimp only at hi t1
      refine callsTo_of Tryz.func20 rfl (by decide +kernel) (Nat.le_of_ble_eq_true rfl) ?_
      intro hat B X w0
      repeat' first | refine pw_seq ?_ | refine pw_skip ?_ | refine pw_ret ?_ | refine pw_exit ?_ | refine pw_block ?_ | refine pw_region (fun _ => false) hmix ?_ | (refine rc (h1) rfl ?_ ?_; (· first | rfl | (simp (disch := omega) only [go_sem, simprocAttr, List.append_eq]; done))) | (refine wpG_split rfl rfl (fun hc => ?_) (fun hc => ?_) <;> try simp only [hcL, reduceCtorEq] at hc) | (refine pw_cond _ rfl rfl (fun hc => ?_) (fun hc => ?_) <;> (try simp only [hcL, reduceCtorEq] at hc) <;> try (exfalso; omega)) | simp (maxSteps := 1000000) (disch := omega) only [go_sem, simprocAttr, List.append_eq] | apply And.intro | omega | decide +kernel
      all_goals
        refine ⟨_, rfl, ⟨_, _, _, _, rfl, ?_⟩, int_some rfl, trivial⟩
        simp (maxSteps := 1000000) (disch := omega) only [go_sem, simprocAttr, toD]
        rfl
    · rw [if_neg hi]
      obtain ⟨i, rfl⟩ : ∃ n : Nat, i = n := ⟨i.toNat, by omega⟩
      rw [Int.toNat_natCast]
      obtain ⟨y, hy⟩ := get_some (l := a.2.1) (k := i) (by omega)
      rw [lstN_at hy]
      by_cases hy8 : 8 < y.length
      · rw [if_pos hy8]
        have hyl := tot_mem (List.mem_of_getElem? hy)
        obtain ⟨n, ls, ar, cs⟩ := a
        dsimp only at hi t1 hy t2 hyl
        refine callsTo_of Tryz.func20 rfl (by decide +kernel) (Nat.le_of_ble_eq_true rfl) ?_
        intro hat B X w0
        repeat' first | refine pw_seq ?_ | refine pw_skip ?_ | refine pw_ret ?_ | refine pw_exit ?_ | refine pw_block ?_ | refine pw_region (fun _ => false) hmix ?_ | (refine rc (h1) rfl ?_ ?_; (· first | rfl | (simp (disch := omega) only [go_sem, simprocAttr, List.append_eq, hy]; done))) | (refine wpG_split rfl rfl (fun hc => ?_) (fun hc => ?_) <;> try simp only [hcL, reduceCtorEq] at hc) | (refine pw_cond _ rfl rfl (fun hc => ?_) (fun hc => ?_) <;> (try simp only [hcL, reduceCtorEq] at hc) <;> try (exfalso; omega)) | simp (maxSteps := 1000000) (disch := omega) only [go_sem, simprocAttr, List.append_eq, hy] | apply And.intro | omega | decide +kernel
        refine ⟨_, rfl, ⟨_, _, _, _, rfl, ?_⟩, int_some rfl, trivial⟩
        simp (maxSteps := 1000000) (disch := omega) only [go_sem, simprocAttr, toD]
        rfl
      · rw [if_neg hy8]
        exact rLayer_main a old w i y hw har hok hy (by omega)
end Go.Proofs.YtelghbnlceeecaaGreat
namespace Go.Proofs.YtelghbnlceeecaaGreat
open Go Go.PS Go.Proofs
open Go.Bd (sm ix invF invN comN sumC Part bestF)
set_option maxRecDepth 100000
attribute [local irreducible] wpRun wpG CallsTo CallsM

def longB (n : Nat) (y : List Int) : Bool := decide (n < y.length)
def fewS (a : Lv) (old : List (List Int)) : Bool := !(a.2.2.2.take 41).any (longB 13) && !(old.take 13).any (longB 12) && decide (tot a.2.1 ≤ 30 ∧ a.2.1.length ≤ 12 ∧ a.2.2.1.length ≤ 40 ∧ a.2.2.2.length ≤ 40 ∧ old.length ≤ 12)
theorem any_takeL {p : List Int → Bool} {l : List (List Int)} {n k : Nat} {y : List Int} (h : l[k]? = some y) (hk : k < n) (hp : p y = true) : (l.take n).any p = true := any_at (k := k) (by rw [List.getElem?_take, if_pos hk]; exact h) hp
theorem no_takeL {p : List Int → Bool} {l : List (List Int)} {n : Nat} (h : ∀ (j : Nat) y, j < n → l[j]? = some y → p y = false) : (l.take n).any p = false := any_no fun j y hj hy => by
  rw [List.length_take] at hj
  rw [List.getElem?_take, if_pos (by omega)] at hy
  exact h j y (by omega) hy
set_option maxHeartbeats 8000000 in
theorem fewS_spec (a : Lv) (old : List (List Int)) (hw : wide a) : CallsTo Tryz.prog 4 [lvD a, listsD old] (.bool (fewS a old)) := by
  rw [fewS]
  have hyw : ∀ (k : Nat) y, a.2.1[k]? = some y → y.length * 8 ≤ 140737488351232 := fun k y h => hw y (List.mem_of_getElem? h)
  obtain ⟨n, ls, ar, cs⟩ := a
  dsimp only at hyw ⊢
  refine callsTo_of Tryz.func4 rfl (by decide +kernel) (Nat.le_of_ble_eq_true rfl) ?_
  intro hat B X w0
  have h1 := at_len2 0 1 hat rfl rfl
  have h2 := at_len2 0 2 hat rfl rfl
  have h3 := at_len2 0 3 hat rfl rfl
  have h4 := at_len 1 hat rfl
  rw [List.length_map] at h1 h2 h3 h4
  dsimp only at h1 h2 h3
  repeat' first | refine pw_seq ?_ | refine pw_skip ?_ | refine pw_ret ?_ | refine pw_exit ?_ | refine pw_block ?_ | refine pw_region (fun _ => false) hmix ?_ | (refine wpG_split rfl rfl (fun hc => ?_) (fun hc => ?_) <;> try simp only [hcL, reduceCtorEq] at hc) | (refine pw_cond _ rfl rfl (fun hc => ?_) (fun hc => ?_) <;> (try simp only [hcL, reduceCtorEq] at hc) <;> try (exfalso; omega)) | simp (maxSteps := 1000000) (disch := omega) only [go_sem, simprocAttr] | apply And.intro | omega | decide +kernel
  refine pw_loopI (κ := Nat) (fun (k : Nat) => k ≤ ls.length ∧ (0 < k → tot (ls.take (k - 1)) ≤ 30)) (fun (k : Nat) => [(1, .d (listsD old)), (2, .ptr 2 0 0 0), (5, .int (tot (ls.take k))), (6, .int k)]) (fun (k : Nat) => [(2, .cells [.int n, .d (listsD ls), .d (arcsD ar), .d (listsD cs)])]) (fun (k : Nat) => ls.length - k) 0 ?_ ?_ ?_
  · exact ⟨Nat.zero_le _, fun h => absurd h (Nat.lt_irrefl 0)⟩
  · exact eL [] _ _ (by refine ⟨?_, ?_⟩ <;> (repeat' first | exact List.forall_mem_nil _ | refine List.forall_mem_cons.2 ⟨(by first | rfl | (simp (disch := omega) only [go_sem, simprocAttr, inL, List.take_zero, tot]; first | done | omega | (congr 1; done))), ?_⟩); done)
  · rintro k ⟨hk, hkp⟩
    have hle := tot_take_le ls k
    have hbd : tot (ls.take k) ≤ 30 + 17592186043904 := by
      rcases k with _ | k
      · rw [List.take_zero]; simp [tot]
      · have := hkp (by omega)
        obtain ⟨y, hy⟩ := get_some (l := ls) (k := k) (by omega)
        have h5 := hyw k y hy
        rw [Nat.add_sub_cancel] at this
        rw [tot_snoc hy]; omega
    by_cases hgo : k < ls.length ∧ tot (ls.take k) ≤ 30
    · obtain ⟨hlt, h30⟩ := hgo
      obtain ⟨y, hy⟩ := get_some hlt
      have e1 := tot_snoc hy
      have h5 := hyw k y hy
      repeat' first | refine pw_seq ?_ | refine pw_skip ?_ | refine pw_ret ?_ | refine pw_exit ?_ | refine pw_block ?_ | refine pw_region (fun _ => false) hmix ?_ | (refine wpG_split rfl rfl (fun hc => ?_) (fun hc => ?_) <;> try simp only [hcL, reduceCtorEq] at hc) | (refine pw_cond _ rfl rfl (fun hc => ?_) (fun hc => ?_) <;> (try simp only [hcL, reduceCtorEq] at hc) <;> try (exfalso; omega)) | simp (maxSteps := 1000000) (disch := omega) only [go_sem, simprocAttr, hy] | apply And.intro | omega | decide +kernel
      refine ⟨k + 1, ?_, eL [] _ _ (by refine ⟨?_, ?_⟩ <;> (repeat' first | exact List.forall_mem_nil _ | refine List.forall_mem_cons.2 ⟨(by first | rfl | (simp (disch := omega) only [go_sem, simprocAttr, inL, e1, Int.natCast_add]; first | done | omega | (congr 1; done))), ?_⟩); done), ?_⟩
      · exact ⟨by omega, fun _ => by rw [Nat.add_sub_cancel]; exact h30⟩
      · omega
    · have hN : tot (ls.take k) ≤ 30 ↔ tot ls ≤ 30 := by
        by_cases hkl : k < ls.length
        · have : ¬ tot (ls.take k) ≤ 30 := fun h => hgo ⟨hkl, h⟩
          omega
        · rw [List.take_of_length_le (by omega)]
      generalize tot (ls.take k) = N at *
      have hgoI : ((k : Int) < ls.length ∧ ((N : Nat) : Int) ≤ 30) → False := fun h => hgo ⟨by omega, by omega⟩
      repeat' first | refine pw_seq ?_ | refine pw_skip ?_ | refine pw_ret ?_ | refine pw_exit ?_ | refine pw_block ?_ | refine pw_region (fun _ => false) hmix ?_ | (refine wpG_split rfl rfl (fun hc => ?_) (fun hc => ?_) <;> try simp only [hcL, reduceCtorEq] at hc) | (refine pw_cond _ rfl rfl (fun hc => ?_) (fun hc => ?_) <;> (try simp only [hcL, reduceCtorEq] at hc) <;> try (exfalso; omega)) | simp (maxSteps := 1000000) (disch := omega) only [go_sem, simprocAttr] | apply And.intro | omega | decide +kernel
      all_goals
        refine pw_loopI (κ := Nat) (fun (j : Nat) => j ≤ cs.length ∧ j ≤ 41 ∧ ∀ (q : Nat) y, q < j → cs[q]? = some y → longB 13 y = false) (fun (j : Nat) => [(1, .d (listsD old)), (2, .ptr 2 0 0 0), (5, .int N), (7, .int j)]) (fun (j : Nat) => [(2, .cells [.int n, .d (listsD ls), .d (arcsD ar), .d (listsD cs)])]) (fun (j : Nat) => cs.length - j) 0 ?_ ?_ ?_
        · exact ⟨Nat.zero_le _, by omega, fun q y hq => by omega⟩
        · exact eL [] _ _ (by refine ⟨?_, ?_⟩ <;> (repeat' first | exact List.forall_mem_nil _ | refine List.forall_mem_cons.2 ⟨(by first | rfl | (simp (disch := omega) only [go_sem, simprocAttr, inL]; first | done | omega | (congr 1; done))), ?_⟩); done)
        · rintro j ⟨hj1, hj2, hinv⟩
          by_cases hgo2 : j < cs.length ∧ j < 41
          · obtain ⟨g1, g2⟩ := hgo2
            obtain ⟨y, hy⟩ := get_some g1
            by_cases hlong : 13 < y.length
            · repeat' first | refine pw_seq ?_ | refine pw_skip ?_ | refine pw_ret ?_ | refine pw_exit ?_ | refine pw_block ?_ | refine pw_region (fun _ => false) hmix ?_ | (refine wpG_split rfl rfl (fun hc => ?_) (fun hc => ?_) <;> try simp only [hcL, reduceCtorEq] at hc) | (refine pw_cond _ rfl rfl (fun hc => ?_) (fun hc => ?_) <;> (try simp only [hcL, reduceCtorEq] at hc) <;> try (exfalso; omega)) | simp (maxSteps := 1000000) (disch := omega) only [go_sem, simprocAttr, hy, hlong] | apply And.intro | omega | decide +kernel
              refine bool_some ?_
              rw [any_takeL hy g2 (by rw [longB, decide_eq_true hlong])]; rfl
            · repeat' first | refine pw_seq ?_ | refine pw_skip ?_ | refine pw_ret ?_ | refine pw_exit ?_ | refine pw_block ?_ | refine pw_region (fun _ => false) hmix ?_ | (refine wpG_split rfl rfl (fun hc => ?_) (fun hc => ?_) <;> try simp only [hcL, reduceCtorEq] at hc) | (refine pw_cond _ rfl rfl (fun hc => ?_) (fun hc => ?_) <;> (try simp only [hcL, reduceCtorEq] at hc) <;> try (exfalso; omega)) | simp (maxSteps := 1000000) (disch := omega) only [go_sem, simprocAttr, hy, hlong] | apply And.intro | omega | decide +kernel
              refine ⟨j + 1, ?_, eL [] _ _ (by refine ⟨?_, ?_⟩ <;> (repeat' first | exact List.forall_mem_nil _ | refine List.forall_mem_cons.2 ⟨(by first | rfl | (simp (disch := omega) only [go_sem, simprocAttr, inL]; first | done | omega | (congr 1; done))), ?_⟩); done), ?_⟩
              · exact ⟨by omega, by omega, upto_succ hinv hy (by rw [longB, decide_eq_false hlong])⟩
              · omega
          · have ha1 : (cs.take 41).any (longB 13) = false := no_takeL fun q y hq hy => hinv q y (by have := (List.getElem?_eq_some_iff.1 hy).1; omega) hy
            repeat' first | refine pw_seq ?_ | refine pw_skip ?_ | refine pw_ret ?_ | refine pw_exit ?_ | refine pw_block ?_ | refine pw_region (fun _ => false) hmix ?_ | (refine wpG_split rfl rfl (fun hc => ?_) (fun hc => ?_) <;> try simp only [hcL, reduceCtorEq] at hc) | (refine pw_cond _ rfl rfl (fun hc => ?_) (fun hc => ?_) <;> (try simp only [hcL, reduceCtorEq] at hc) <;> try (exfalso; omega)) | simp (maxSteps := 1000000) (disch := omega) only [go_sem, simprocAttr] | apply And.intro | omega | decide +kernel
            all_goals
              refine pw_loopI (κ := Nat) (fun (u : Nat) => u ≤ old.length ∧ u ≤ 13 ∧ ∀ (q : Nat) y, q < u → old[q]? = some y → longB 12 y = false) (fun (u : Nat) => [(1, .d (listsD old)), (2, .ptr 2 0 0 0), (5, .int N), (8, .int u)]) (fun (u : Nat) => [(2, .cells [.int n, .d (listsD ls), .d (arcsD ar), .d (listsD cs)])]) (fun (u : Nat) => old.length - u) 0 ?_ ?_ ?_
              · exact ⟨Nat.zero_le _, by omega, fun q y hq => by omega⟩
              · exact eL [] _ _ (by refine ⟨?_, ?_⟩ <;> (repeat' first | exact List.forall_mem_nil _ | refine List.forall_mem_cons.2 ⟨(by first | rfl | (simp (disch := omega) only [go_sem, simprocAttr, inL]; first | done | omega | (congr 1; done))), ?_⟩); done)
              · rintro u ⟨hu1, hu2, hinv2⟩
                by_cases hgo3 : u < old.length ∧ u < 13
                · obtain ⟨g1, g2⟩ := hgo3
                  obtain ⟨y, hy⟩ := get_some g1
                  by_cases hlong : 12 < y.length
                  · repeat' first | refine pw_seq ?_ | refine pw_skip ?_ | refine pw_ret ?_ | refine pw_exit ?_ | refine pw_block ?_ | refine pw_region (fun _ => false) hmix ?_ | (refine wpG_split rfl rfl (fun hc => ?_) (fun hc => ?_) <;> try simp only [hcL, reduceCtorEq] at hc) | (refine pw_cond _ rfl rfl (fun hc => ?_) (fun hc => ?_) <;> (try simp only [hcL, reduceCtorEq] at hc) <;> try (exfalso; omega)) | simp (maxSteps := 1000000) (disch := omega) only [go_sem, simprocAttr, hy, hlong] | apply And.intro | omega | decide +kernel
                    refine bool_some ?_
                    rw [any_takeL (n := 13) hy g2 (by rw [longB, decide_eq_true hlong])]; simp
                  · repeat' first | refine pw_seq ?_ | refine pw_skip ?_ | refine pw_ret ?_ | refine pw_exit ?_ | refine pw_block ?_ | refine pw_region (fun _ => false) hmix ?_ | (refine wpG_split rfl rfl (fun hc => ?_) (fun hc => ?_) <;> try simp only [hcL, reduceCtorEq] at hc) | (refine pw_cond _ rfl rfl (fun hc => ?_) (fun hc => ?_) <;> (try simp only [hcL, reduceCtorEq] at hc) <;> try (exfalso; omega)) | simp (maxSteps := 1000000) (disch := omega) only [go_sem, simprocAttr, hy, hlong] | apply And.intro | omega | decide +kernel
                    refine ⟨u + 1, ?_, eL [] _ _ (by refine ⟨?_, ?_⟩ <;> (repeat' first | exact List.forall_mem_nil _ | refine List.forall_mem_cons.2 ⟨(by first | rfl | (simp (disch := omega) only [go_sem, simprocAttr, inL]; first | done | omega | (congr 1; done))), ?_⟩); done), ?_⟩
                    · exact ⟨by omega, by omega, upto_succ hinv2 hy (by rw [longB, decide_eq_false hlong])⟩
                    · omega
                · have ha2 : (old.take 13).any (longB 12) = false := no_takeL fun q y hq hy => hinv2 q y (by have := (List.getElem?_eq_some_iff.1 hy).1; omega) hy
                  repeat' first | refine pw_seq ?_ | refine pw_skip ?_ | refine pw_ret ?_ | refine pw_exit ?_ | refine pw_block ?_ | refine pw_region (fun _ => false) hmix ?_ | (refine wpG_split rfl rfl (fun hc => ?_) (fun hc => ?_) <;> try simp only [hcL, reduceCtorEq] at hc) | (refine pw_cond _ rfl rfl (fun hc => ?_) (fun hc => ?_) <;> (try simp only [hcL, reduceCtorEq] at hc) <;> try (exfalso; omega)) | simp (maxSteps := 1000000) (disch := omega) only [go_sem, simprocAttr] | apply And.intro | omega | decide +kernel
                  all_goals
                    refine bool_some ?_
                    rw [ha1, ha2, Bool.eq_iff_iff]
                    simp only [Bool.not_false, Bool.true_and, decide_eq_true_eq, Bool.false_eq_true, false_iff, true_iff]
                    omega
theorem fewS_in {a : Lv} {old : List (List Int)} (h : fewS a old = true) : tot a.2.1 ≤ 30 ∧ a.2.1.length ≤ 12 ∧ a.2.2.1.length ≤ 40 ∧ a.2.2.2.length ≤ 40 ∧ old.length ≤ 12 := by
  simp only [fewS, Bool.and_eq_true, decide_eq_true_eq] at h
  exact h.2
end Go.Proofs.YtelghbnlceeecaaGreat
namespace Go.Proofs.YtelghbnlceeecaaGreat
open Go Go.PS Go.Proofs
open Go.Bd (sm ix invF invN comN sumC Part bestF)
set_option maxRecDepth 100000
attribute [local irreducible] wpRun wpG CallsTo CallsM

def exOld : List (List Int) := [[], [2, 3]]
def exG2 : Gr := (4, [(0, 3), (1, 2)])
theorem sx_build : buildF exG2 [0, 0, 1, 1] = (cxL, 0) := by decide +kernel
theorem sx_m1 : MatrixF cxL 1 0 = [[0, 1], [0, 0]] := by simp only [MatrixF, matOk, cxL_valid]; decide +kernel
theorem sx_m2 : MatrixF cxL 1 2 = [] := by simp only [MatrixF, matOk, cxL_valid]; decide +kernel
theorem sx_mat (w : Int) : stM cxL [2, 3] [2, 3] w 1 = sqM (fun u v => wCell [2, 3] [2, 3] w u v + cellAt [[0, 1], [0, 0]] u v + cellAt [] u v) 2 := by
  have h : accC cxL [2, 3] [2, 3] w 1 2 = fun u v => wCell [2, 3] [2, 3] w u v + cellAt [[0, 1], [0, 0]] u v + cellAt [] u v := by
    funext u v
    show wCell [2, 3] [2, 3] w u v + cellAt (MatrixF cxL 1 0) u v + cellAt (MatrixF cxL 1 2) u v = _
    rw [sx_m1, sx_m2]
  rw [stM, h]; rfl
theorem sx_l0 : layerF cxL exOld 0 1 = (cxK, 0) := by
  have e : bestLay cxL exOld 0 1 = cxK := by
    show (if (bestAll (stM cxL [2, 3] [2, 3] 0 1)).2 < sumC (cellAt (stM cxL [2, 3] [2, 3] 0 1)) (List.range 2) then putL cxL 1 (permL [2, 3] (bestAll (stM cxL [2, 3] [2, 3] 0 1)).1) else cxL) = cxK
    rw [sx_mat]; decide +kernel
  rw [layerF, if_neg (by rw [okW, cxL_valid]; decide), if_neg (by decide), if_neg (by decide)]
  show (bestLay cxL exOld 0 1, (0 : Int)) = _
  rw [e]
theorem sx_l1 : layerF cxL exOld 1 1 = (cxL, 0) := by
  have e : bestLay cxL exOld 1 1 = cxL := by
    show (if (bestAll (stM cxL [2, 3] [2, 3] 1 1)).2 < sumC (cellAt (stM cxL [2, 3] [2, 3] 1 1)) (List.range 2) then putL cxL 1 (permL [2, 3] (bestAll (stM cxL [2, 3] [2, 3] 1 1)).1) else cxL) = cxL
    rw [sx_mat]; decide +kernel
  rw [layerF, if_neg (by rw [okW, cxL_valid]; decide), if_neg (by decide), if_neg (by decide)]
  show (bestLay cxL exOld 1 1, (0 : Int)) = _
  rw [e]
theorem sx_c1 : costF cxL exOld 5 = 1 := by
  rw [costF, if_pos (by rw [okW, cxL_valid]; decide), cx2]; decide +kernel
theorem sx_c2 : costF cxK exOld 5 = 5 := by
  rw [costF, if_pos (by rw [okW, cxK_valid]; decide), cx3]; decide +kernel
theorem wide_cx : wide cxL ∧ wide cxK := by
  constructor <;>
  · intro y hy
    simp only [cxL, cxK, List.mem_cons, List.not_mem_nil, or_false] at hy
    rcases hy with rfl | rfl <;> decide
theorem sameInts_spec (l m : List Int) : CallsTo Tryz.prog 12 [intsD l, intsD m] (.bool (decide (l = m))) := by
  refine callsTo_of Tryz.func12 rfl (by decide +kernel) (Nat.le_of_ble_eq_true rfl) ?_
  intro hat B X w0
  have hl := at_len 0 hat rfl
  have hm := at_len 1 hat rfl
  rw [List.length_map] at hl hm
  by_cases hlm : l.length = m.length
  · repeat' first | refine pw_seq ?_ | refine pw_skip ?_ | refine pw_ret ?_ | refine pw_exit ?_ | refine pw_block ?_ | refine pw_region (fun _ => false) hmix ?_ | (refine wpG_split rfl rfl (fun hc => ?_) (fun hc => ?_) <;> try simp only [hcL, reduceCtorEq] at hc) | (refine pw_cond _ rfl rfl (fun hc => ?_) (fun hc => ?_) <;> (try simp only [hcL, reduceCtorEq] at hc) <;> try (exfalso; omega)) | simp (maxSteps := 1000000) (disch := omega) only [go_sem, simprocAttr] | apply And.intro | omega | decide +kernel
    refine pw_loopI (κ := Nat) (fun (k : Nat) => k ≤ l.length ∧ l.take k = m.take k) (fun (k : Nat) => [(0, .d (intsD l)), (1, .d (intsD m)), (5, .int k)]) (fun (k : Nat) => []) (fun (k : Nat) => l.length - k) 0 ?_ ?_ ?_
    · exact ⟨Nat.zero_le _, rfl⟩
    · exact eL [] _ _ (by refine ⟨?_, ?_⟩ <;> (repeat' first | exact List.forall_mem_nil _ | refine List.forall_mem_cons.2 ⟨(by first | rfl | (simp (disch := omega) only [go_sem, simprocAttr, inL]; first | done | omega | (congr 1; done))), ?_⟩); done)
    · rintro k ⟨hk, hinv⟩
      rcases Nat.lt_or_ge k l.length with hlt | hge
      · obtain ⟨p, hp⟩ := get_some hlt
        obtain ⟨q, hq⟩ := get_some (hlm ▸ hlt)
        repeat' first | refine pw_seq ?_ | refine pw_skip ?_ | refine pw_ret ?_ | refine pw_exit ?_ | refine pw_block ?_ | refine pw_region (fun _ => false) hmix ?_ | (refine wpG_split rfl rfl (fun hc => ?_) (fun hc => ?_) <;> try simp only [hcL, reduceCtorEq] at hc) | (refine pw_cond _ rfl rfl (fun hc => ?_) (fun hc => ?_) <;> (try simp only [hcL, reduceCtorEq] at hc) <;> try (exfalso; omega)) | simp (maxSteps := 1000000) (disch := omega) only [go_sem, simprocAttr, hp, hq] | apply And.intro | omega | decide +kernel
        · refine bool_some ?_
          rw [decide_eq_false (take_ne hp hq hc)]
        · refine ⟨k + 1, ?_, eL [] _ _ (by refine ⟨?_, ?_⟩ <;> (repeat' first | exact List.forall_mem_nil _ | refine List.forall_mem_cons.2 ⟨(by first | rfl | (simp (disch := omega) only [go_sem, simprocAttr, inL]; first | done | omega | (congr 1; done))), ?_⟩); done), ?_⟩
          · exact ⟨by omega, by rw [take_snoc hp, take_snoc hq, hinv, hc]⟩
          · omega
      · repeat' first | refine pw_seq ?_ | refine pw_skip ?_ | refine pw_ret ?_ | refine pw_exit ?_ | refine pw_block ?_ | refine pw_region (fun _ => false) hmix ?_ | (refine wpG_split rfl rfl (fun hc => ?_) (fun hc => ?_) <;> try simp only [hcL, reduceCtorEq] at hc) | (refine pw_cond _ rfl rfl (fun hc => ?_) (fun hc => ?_) <;> (try simp only [hcL, reduceCtorEq] at hc) <;> try (exfalso; omega)) | simp (maxSteps := 1000000) (disch := omega) only [go_sem, simprocAttr] | apply And.intro | omega | decide +kernel
        refine bool_some ?_
        rw [List.take_of_length_le hge, List.take_of_length_le (by omega)] at hinv
        simp [hinv]
  · repeat' first | refine pw_seq ?_ | refine pw_skip ?_ | refine pw_ret ?_ | refine pw_exit ?_ | refine pw_block ?_ | refine pw_region (fun _ => false) hmix ?_ | (refine wpG_split rfl rfl (fun hc => ?_) (fun hc => ?_) <;> try simp only [hcL, reduceCtorEq] at hc) | (refine pw_cond _ rfl rfl (fun hc => ?_) (fun hc => ?_) <;> (try simp only [hcL, reduceCtorEq] at hc) <;> try (exfalso; omega)) | simp (maxSteps := 1000000) (disch := omega) only [go_sem, simprocAttr] | apply And.intro | omega | decide +kernel
    refine bool_some ?_
    rw [decide_eq_false]
    rintro rfl; exact hlm rfl
set_option maxHeartbeats 4000000 in
theorem lives_spec : CallsTo Tryz.prog 5 [] (.bool true) := by
  have h1 := rBuild_spec exG2 [0, 0, 1, 1]
  rw [sx_build] at h1
  have h2 := Layer_spec cxL exOld 0 1 wide_cx.1 (by decide)
  rw [sx_l0] at h2
  have h3 := Layer_spec cxL exOld 1 1 wide_cx.1 (by decide)
  rw [sx_l1] at h3
  have h4 := Cost_spec cxL exOld 5 wide_cx.1
  rw [sx_c1] at h4
  have h5 := Cost_spec cxK exOld 5 wide_cx.2
  rw [sx_c2] at h5
  have h6 := Inversions_spec [1, 2, 3] [3, 9, 1, 2] (by decide)
  rw [show invF [1, 2, 3] [3, 9, 1, 2] = 2 by decide +kernel] at h6
  have h7 := sameInts_spec [3, 2] [3, 2]
  have h8 := sameInts_spec [2, 3] [2, 3]
  rw [decide_eq_true rfl] at h7 h8
  simp only [exG2, exOld, cxL, cxK, List.map_cons, List.map_nil] at h1 h2 h3 h4 h5 h6 h7 h8
  refine callsTo_of Tryz.func5 rfl (by decide +kernel) (Nat.le_of_ble_eq_true rfl) ?_
  intro hat B X w0
  repeat' first | refine pw_seq ?_ | refine pw_skip ?_ | refine pw_ret ?_ | refine pw_exit ?_ | refine pw_block ?_ | refine pw_region (fun _ => false) hmix ?_ | (refine rc (h1) rfl ?_ ?_; (· first | rfl | (simp (disch := omega) only [go_sem, simprocAttr, List.append_eq, List.map_cons, List.map_nil]; done))) | (refine rc (h2) rfl ?_ ?_; (· first | rfl | (simp (disch := omega) only [go_sem, simprocAttr, List.append_eq, List.map_cons, List.map_nil]; done))) | (refine rc (h3) rfl ?_ ?_; (· first | rfl | (simp (disch := omega) only [go_sem, simprocAttr, List.append_eq, List.map_cons, List.map_nil]; done))) | (refine rc (h4) rfl ?_ ?_; (· first | rfl | (simp (disch := omega) only [go_sem, simprocAttr, List.append_eq, List.map_cons, List.map_nil]; done))) | (refine rc (h5) rfl ?_ ?_; (· first | rfl | (simp (disch := omega) only [go_sem, simprocAttr, List.append_eq, List.map_cons, List.map_nil]; done))) | (refine rc (h6) rfl ?_ ?_; (· first | rfl | (simp (disch := omega) only [go_sem, simprocAttr, List.append_eq, List.map_cons, List.map_nil]; done))) | (refine rc (h7) rfl ?_ ?_; (· first | rfl | (simp (disch := omega) only [go_sem, simprocAttr, List.append_eq, List.map_cons, List.map_nil]; done))) | (refine rc (h8) rfl ?_ ?_; (· first | rfl | (simp (disch := omega) only [go_sem, simprocAttr, List.append_eq, List.map_cons, List.map_nil]; done))) | (refine wpG_split rfl rfl (fun hc => ?_) (fun hc => ?_) <;> try simp only [hcL, reduceCtorEq] at hc) | (refine pw_cond _ rfl rfl (fun hc => ?_) (fun hc => ?_) <;> (try simp only [hcL, reduceCtorEq] at hc) <;> try (exfalso; omega)) | simp (maxSteps := 1000000) (disch := omega) only [go_sem, simprocAttr, List.append_eq, List.map_cons, List.map_nil] | apply And.intro | omega | decide +kernel
  exact bool_some rfl
theorem sum_nil {a : Lv} (h : validF a = true) : costF a [] 7 = TotalF a := by
  have hz : ∀ k, invS a [] k = 0 := by
    intro k
    induction k with
    | zero => rfl
    | succ k ih =>
      have s1 : invS a [] (k + 1) = invS a [] k + (invF (lstN [] k) (lstN a.2.1 k) : Int) := rfl
      have s2 : ∀ (l : List Int) i, comN [] l i = [] := by
        intro l i
        induction i with
        | zero => rfl
        | succ i ihi => rw [comN]; split <;> simp [ihi]
      have s3 : lstN [] k = [] := lstN_out (Nat.zero_le _)
      rw [s1, ih, s3, invF, s2]; rfl
  rw [costF, if_pos (by rw [okW, h]; decide), hz]; omega
abbrev stepD (w n : Int) : D := .ag [.int w, .int n]
end Go.Proofs.YtelghbnlceeecaaGreat
namespace Go.Proofs.YtelghbnlceeecaaGreat
open Go Go.PS Go.Proofs
open Go.Bd (comN comO keptF cntN)
set_option maxRecDepth 100000
attribute [local irreducible] wpRun wpG CallsTo CallsM

theorem comO_len (layer old : List Int) (k : Nat) : (comO layer old k).length ≤ k := comN_len layer old k
theorem comO_in {layer old : List Int} {k : Nat} {v : Int} (h : old[k]? = some v) (hc : v ∈ layer ∧ v ∉ old.take k) : comO layer old (k + 1) = comO layer old k ++ [v] := com_in h hc
theorem comO_out {layer old : List Int} {k : Nat} {v : Int} (h : old[k]? = some v) (hc : ¬ (v ∈ layer ∧ v ∉ old.take k)) : comO layer old (k + 1) = comO layer old k := com_out h hc
theorem yG_at {y : List Int} {k : Nat} {v : Int} (h : y[k]? = some v) : yG y k = v := by rw [yG, h]; rfl
theorem rowG_yG (y : List Int) : rowG (yG y) y.length = y := permL_range y
set_option maxHeartbeats 4000000 in
theorem kept_spec (layer old : List Int) (hn : layer.Nodup) (hl : layer.length ≤ 600) (ho : old.length ≤ 600) : CallsTo Tryz.prog 16 [intsD layer, intsD old] (intsD (keptF layer old)) := by
  have hcl := cloneO_spec layer (by omega)
  have hkg : rowG (yG (keptF layer old)) layer.length = keptF layer old := by rw [← Go.Bd.keptF_len layer old]; exact rowG_yG _
  refine callsTo_of Tryz.func16 rfl (by decide +kernel) (Nat.le_of_ble_eq_true rfl) ?_
  intro hat B X w0
  repeat' first | refine pw_seq ?_ | refine pw_skip ?_ | refine pw_ret ?_ | refine pw_exit ?_ | refine pw_block ?_ | refine pw_region (fun _ => false) hmix ?_ | (refine wpG_split rfl rfl (fun hc => ?_) (fun hc => ?_) <;> try simp only [hcL, reduceCtorEq] at hc) | (refine pw_cond _ rfl rfl (fun hc => ?_) (fun hc => ?_) <;> (try simp only [hcL, reduceCtorEq] at hc) <;> try (exfalso; omega)) | simp (maxSteps := 1000000) (disch := omega) only [go_sem, simprocAttr] | apply And.intro | omega | decide +kernel
  refine pw_ent _ (ent_nil 5 901 1 rfl rfl) ?_
  refine pw_loopI (κ := Nat) (fun (k : Nat) => k ≤ old.length) (fun (k : Nat) => [(0, .d (intsD layer)), (1, .d (intsD old)), (5, .ref 901 1 0 (comO layer old k).length (comO layer old k).length), (12, .d (intsD old)), (13, .int old.length), (14, .int k)]) (fun (k : Nat) => [(901, .row 1 ((comO layer old k).map D.int))]) (fun (k : Nat) => old.length - k) 0 ?_ ?_ ?_
  · exact Nat.zero_le _
  · exact eL [] _ _ (by refine ⟨?_, ?_⟩ <;> (repeat' first | exact List.forall_mem_nil _ | refine List.forall_mem_cons.2 ⟨(by first | rfl | (simp (disch := omega) only [go_sem, simprocAttr, inL, comO, comN, List.length_nil, List.map_nil]; first | done | omega | (congr 1; done))), ?_⟩); done)
  · intro k hk
    have hcl2 := comO_len layer old k
    rcases Nat.lt_or_ge k old.length with hlt | hge
    · obtain ⟨v, hv⟩ := get_some hlt
      have h1 := containsI_spec layer v
      have h2 := containsI_spec (old.take k) v
      simp only [intsD, List.map_take] at h2
      by_cases c1 : v ∈ layer
      · rw [decide_eq_true c1] at h1
        by_cases c2 : v ∈ old.take k
        · rw [decide_eq_true c2] at h2
          have e1 := comO_out (layer := layer) hv (fun h => h.2 c2)
          repeat' first | refine pw_seq ?_ | refine pw_skip ?_ | refine pw_ret ?_ | refine pw_exit ?_ | refine pw_block ?_ | refine pw_region (fun _ => false) hmix ?_ | (refine rc (h1) rfl ?_ ?_; (· first | rfl | (simp (disch := omega) only [go_sem, simprocAttr, hv]; done))) | (refine rc (h2) rfl ?_ ?_; (· first | rfl | (simp (disch := omega) only [go_sem, simprocAttr, hv]; done))) | (refine wpG_split rfl rfl (fun hc => ?_) (fun hc => ?_) <;> try simp only [hcL, reduceCtorEq] at hc) | (refine pw_cond _ rfl rfl (fun hc => ?_) (fun hc => ?_) <;> (try simp only [hcL, reduceCtorEq] at hc) <;> try (exfalso; omega)) | simp (maxSteps := 1000000) (disch := omega) only [go_sem, simprocAttr, hv] | exact one_int old | apply And.intro | omega | decide +kernel
          refine ⟨k + 1, ?_, eL [] _ _ (by refine ⟨?_, ?_⟩ <;> (repeat' first | exact List.forall_mem_nil _ | refine List.forall_mem_cons.2 ⟨(by first | rfl | (simp (disch := omega) only [go_sem, simprocAttr, inL, e1]; first | done | omega | (congr 1; done))), ?_⟩); done), ?_⟩
          · omega
          · omega
        · rw [decide_eq_false c2] at h2
          have e1 := comO_in (layer := layer) hv ⟨c1, c2⟩
          repeat' first | refine pw_seq ?_ | refine pw_skip ?_ | refine pw_ret ?_ | refine pw_exit ?_ | refine pw_block ?_ | refine pw_region (fun _ => false) hmix ?_ | (refine rc (h1) rfl ?_ ?_; (· first | rfl | (simp (disch := omega) only [go_sem, simprocAttr, hv, roomy, take_map_len]; done))) | (refine rc (h2) rfl ?_ ?_; (· first | rfl | (simp (disch := omega) only [go_sem, simprocAttr, hv, roomy, take_map_len]; done))) | (refine wpG_split rfl rfl (fun hc => ?_) (fun hc => ?_) <;> try simp only [hcL, reduceCtorEq] at hc) | (refine pw_cond _ rfl rfl (fun hc => ?_) (fun hc => ?_) <;> (try simp only [hcL, reduceCtorEq] at hc) <;> try (exfalso; omega)) | simp (maxSteps := 1000000) (disch := omega) only [go_sem, simprocAttr, hv, roomy, take_map_len] | (first | exact one_int [_] | exact one_int old) | apply And.intro | omega | decide +kernel
          refine ⟨k + 1, ?_, eL [(901, 33)] _ _ (by refine ⟨?_, ?_⟩ <;> (repeat' first | exact List.forall_mem_nil _ | refine List.forall_mem_cons.2 ⟨(by first | rfl | (simp (disch := omega) only [go_sem, simprocAttr, inL, e1, List.map_append, List.length_append, List.map_cons, List.map_nil, List.length_cons, List.length_nil]; first | done | omega | (congr 1; done))), ?_⟩); done), ?_⟩
          · omega
          · omega
      · rw [decide_eq_false c1] at h1
        have e1 := comO_out (layer := layer) hv (fun h => c1 h.1)
        repeat' first | refine pw_seq ?_ | refine pw_skip ?_ | refine pw_ret ?_ | refine pw_exit ?_ | refine pw_block ?_ | refine pw_region (fun _ => false) hmix ?_ | (refine rc (h1) rfl ?_ ?_; (· first | rfl | (simp (disch := omega) only [go_sem, simprocAttr, hv]; done))) | (refine wpG_split rfl rfl (fun hc => ?_) (fun hc => ?_) <;> try simp only [hcL, reduceCtorEq] at hc) | (refine pw_cond _ rfl rfl (fun hc => ?_) (fun hc => ?_) <;> (try simp only [hcL, reduceCtorEq] at hc) <;> try (exfalso; omega)) | simp (maxSteps := 1000000) (disch := omega) only [go_sem, simprocAttr, hv] | apply And.intro | omega | decide +kernel
        refine ⟨k + 1, ?_, eL [] _ _ (by refine ⟨?_, ?_⟩ <;> (repeat' first | exact List.forall_mem_nil _ | refine List.forall_mem_cons.2 ⟨(by first | rfl | (simp (disch := omega) only [go_sem, simprocAttr, inL, e1]; first | done | omega | (congr 1; done))), ?_⟩); done), ?_⟩
        · omega
        · omega
    · have : k = old.length := by omega
      subst this
      have hcd := fun k (v : Int) (h : layer[k]? = some v) => Go.Bd.cnt_lt (old := old) hn h
      have hget := fun k (v : Int) (h : layer[k]? = some v) => Go.Bd.keptF_get (old := old) h
      generalize hC : comO layer old old.length = C at *
      repeat' first | refine pw_seq ?_ | refine pw_skip ?_ | refine pw_ret ?_ | refine pw_exit ?_ | refine pw_block ?_ | refine pw_region (fun _ => false) hmix ?_ | refine rcM [(2000, 902)] (hcl) rfl ?_ | (refine wpG_split rfl rfl (fun hc => ?_) (fun hc => ?_) <;> try simp only [hcL, reduceCtorEq] at hc) | (refine pw_cond _ rfl rfl (fun hc => ?_) (fun hc => ?_) <;> (try simp only [hcL, reduceCtorEq] at hc) <;> try (exfalso; omega)) | simp (maxSteps := 1000000) (disch := omega) only [go_sem, simprocAttr] | apply And.intro | omega | decide +kernel
      refine pw_loopI (κ := Nat) (fun (k : Nat) => k ≤ layer.length) (fun (k : Nat) => [(0, .d (intsD layer)), (5, .ref 901 1 0 C.length C.length), (8, .ref 902 1 0 layer.length layer.length), (9, .int (cntN C layer k)), (37, .d (intsD layer)), (38, .int layer.length), (39, .int k)]) (fun (k : Nat) => [(901, .row 1 (C.map D.int)), (902, .row 1 ((mixR (yG layer) (yG (keptF layer old)) layer.length k).map D.int))]) (fun (k : Nat) => layer.length - k) 0 ?_ ?_ ?_
      · exact Nat.zero_le _
      · exact eL [] _ _ (by refine ⟨?_, ?_⟩ <;> (repeat' first | exact List.forall_mem_nil _ | refine List.forall_mem_cons.2 ⟨(by first | rfl | (simp (disch := omega) only [go_sem, simprocAttr, inL, mixR_zero, rowG_yG, Go.Bd.cntN_zero]; first | done | omega | (congr 1; done))), ?_⟩); done)
      · intro k hk
        have hml := mixR_len (yG layer) (yG (keptF layer old)) layer.length k
        rcases Nat.lt_or_ge k layer.length with hlt | hge
        · obtain ⟨v, hv⟩ := get_some hlt
          have h1 := containsI_spec C v
          have hg := hget k v hv
          have hyk := yG_at hg
          have hst : (mixR (yG layer) (yG (keptF layer old)) layer.length k).set k (yG (keptF layer old) k) = mixR (yG layer) (yG (keptF layer old)) layer.length (k + 1) := mixR_step hlt
          by_cases c : v ∈ C
          · rw [decide_eq_true c] at h1
            rw [if_pos c] at hyk
            have hcd2 := hcd k v hv c
            obtain ⟨x, hx⟩ := get_some hcd2
            rw [hx, Option.getD_some] at hyk
            rw [hyk] at hst
            have e1 := Go.Bd.cntN_in hv c
            have hcn : cntN C layer k ≤ 600 := by
              have h5 : cntN C layer k ≤ (layer.take k).length := List.length_filter_le _ _
              rw [List.length_take] at h5; omega
            generalize mixR (yG layer) (yG (keptF layer old)) layer.length k = R at *
            have hRg : ∃ z, R[k]? = some z := get_some (by omega)
            obtain ⟨z, hz⟩ := hRg
            repeat' first | refine pw_seq ?_ | refine pw_skip ?_ | refine pw_ret ?_ | refine pw_exit ?_ | refine pw_block ?_ | refine pw_region (fun _ => false) hmix ?_ | (refine rc (h1) rfl ?_ ?_; (· first | rfl | (simp (disch := omega) only [go_sem, simprocAttr, hv, hx, hml, hz, take_map_len]; done))) | (refine wpG_split rfl rfl (fun hc => ?_) (fun hc => ?_) <;> try simp only [hcL, reduceCtorEq] at hc) | (refine pw_cond _ rfl rfl (fun hc => ?_) (fun hc => ?_) <;> (try simp only [hcL, reduceCtorEq] at hc) <;> try (exfalso; omega)) | simp (maxSteps := 1000000) (disch := omega) only [go_sem, simprocAttr, hv, hx, hml, hz, take_map_len] | apply And.intro | omega | decide +kernel
            refine ⟨k + 1, ?_, eL [] _ _ (by refine ⟨?_, ?_⟩ <;> (repeat' first | exact List.forall_mem_nil _ | refine List.forall_mem_cons.2 ⟨(by first | rfl | (simp (disch := omega) only [go_sem, simprocAttr, inL, e1, hst.symm, List.map_set, Int.natCast_add, Int.natCast_one]; first | done | omega | (congr 1; done))), ?_⟩); done), ?_⟩
            · omega
            · omega
          · rw [decide_eq_false c] at h1
            rw [if_neg c] at hyk
            have e1 := Go.Bd.cntN_out hv c
            have hsm : mixR (yG layer) (yG (keptF layer old)) layer.length (k + 1) = mixR (yG layer) (yG (keptF layer old)) layer.length k := mixR_same hlt (by rw [hyk, yG_at hv])
            repeat' first | refine pw_seq ?_ | refine pw_skip ?_ | refine pw_ret ?_ | refine pw_exit ?_ | refine pw_block ?_ | refine pw_region (fun _ => false) hmix ?_ | (refine rc (h1) rfl ?_ ?_; (· first | rfl | (simp (disch := omega) only [go_sem, simprocAttr, hv, take_map_len]; done))) | (refine wpG_split rfl rfl (fun hc => ?_) (fun hc => ?_) <;> try simp only [hcL, reduceCtorEq] at hc) | (refine pw_cond _ rfl rfl (fun hc => ?_) (fun hc => ?_) <;> (try simp only [hcL, reduceCtorEq] at hc) <;> try (exfalso; omega)) | simp (maxSteps := 1000000) (disch := omega) only [go_sem, simprocAttr, hv, take_map_len] | apply And.intro | omega | decide +kernel
            refine ⟨k + 1, ?_, eL [] _ _ (by refine ⟨?_, ?_⟩ <;> (repeat' first | exact List.forall_mem_nil _ | refine List.forall_mem_cons.2 ⟨(by first | rfl | (simp (disch := omega) only [go_sem, simprocAttr, inL, e1, hsm]; first | done | omega | (congr 1; done))), ?_⟩); done), ?_⟩
            · omega
            · omega
        · have : k = layer.length := by omega
          subst this
          rw [mixR_full, hkg]
          have hkl := Go.Bd.keptF_len layer old
          repeat' first | refine pw_seq ?_ | refine pw_skip ?_ | refine pw_ret ?_ | refine pw_exit ?_ | refine pw_block ?_ | refine pw_region (fun _ => false) hmix ?_ | (refine wpG_split rfl rfl (fun hc => ?_) (fun hc => ?_) <;> try simp only [hcL, reduceCtorEq] at hc) | (refine pw_cond _ rfl rfl (fun hc => ?_) (fun hc => ?_) <;> (try simp only [hcL, reduceCtorEq] at hc) <;> try (exfalso; omega)) | simp (maxSteps := 1000000) (disch := omega) only [go_sem, simprocAttr] | apply And.intro | omega | decide +kernel
          exact ret_ref (o := 902) rfl rfl (by simp [hkl]) (List.take_of_length_le (by simp [hkl]))
end Go.Proofs.YtelghbnlceeecaaGreat
namespace Go.Proofs.YtelghbnlceeecaaGreat
open Go Go.PS Go.Proofs
open Go.Bd (invF comN comO keptF sumC Part)

theorem reorder_perm {a : Lv} (hv : validF a = true) {i : Nat} {y z : List Int} (hy : a.2.1[i]? = some y) (hz : z.Perm y) : reorderF a i z = (putL a i z, 0) := by
  have hil := (List.getElem?_eq_some_iff.1 hy).1
  rw [reorderF, if_neg (by rw [hv]; decide), if_neg (by omega), Int.toNat_natCast, hy, Option.getD_some, if_neg (by rw [sortL_congr hz]; simp)]
  rfl
theorem perm_valid {a : Lv} (hv : validF a = true) {i : Nat} {y z : List Int} (hy : a.2.1[i]? = some y) (hz : z.Perm y) : validF (putL a i z) = true := by
  have h := reorder_perm hv hy hz
  have := reorder_valid (a := a) (i := i) (o := z) (by rw [h])
  rw [h] at this; exact this
/-- Levels that differ in the orders of their layers only. -/
structure Kin (a b : Lv) : Prop where
  ok : validF b = true
  wd : wide b
  len : b.2.1.length = a.2.1.length
  arcs : b.2.2.1 = a.2.2.1
  perm : ∀ k, (lstN b.2.1 k).Perm (lstN a.2.1 k)
theorem Kin.refl {a : Lv} (hv : validF a = true) (hw : wide a) : Kin a a := ⟨hv, hw, rfl, rfl, fun _ => List.Perm.refl _⟩
theorem Kin.put {a b : Lv} (h : Kin a b) {i : Nat} {y z : List Int} (hy : b.2.1[i]? = some y) (hz : z.Perm y) : Kin a (putL b i z) := by
  have hil := (List.getElem?_eq_some_iff.1 hy).1
  have hyl : y.length ≤ 512 := by have := layer_le h.ok i; rw [lstN_at hy] at this; exact this
  refine ⟨perm_valid h.ok hy hz, ?_, ?_, h.arcs, fun k => ?_⟩
  · have := reorder_wide (a := b) (i := i) (o := z) h.wd (by have := hz.length_eq; omega)
    rw [reorder_perm h.ok hy hz] at this; exact this
  · rw [← h.len]; exact List.length_set
  · have hl : (putL b i z).2.1 = b.2.1.set i z := rfl
    by_cases c : k = i
    · subst c
      have hs : lstN (b.2.1.set k z) k = z := by rw [lstN, List.getElem?_set, if_pos rfl, if_pos hil]; rfl
      rw [hl, hs]
      have := h.perm k
      rw [lstN_at hy] at this
      exact hz.trans this
    · have : lstN (b.2.1.set i z) k = lstN b.2.1 k := by rw [lstN, lstN, List.getElem?_set, if_neg (fun h => c h.symm)]
      rw [hl, this]; exact h.perm k
theorem put_other (b : Lv) {i k : Nat} (z : List Int) (c : k ≠ i) : lstN (putL b i z).2.1 k = lstN b.2.1 k := by
  have hl : (putL b i z).2.1 = b.2.1.set i z := rfl
  rw [hl, lstN, lstN, List.getElem?_set, if_neg (fun h => c h.symm)]
theorem Kin.lay {a b : Lv} (h : Kin a b) {k : Nat} (hk : k < a.2.1.length) : b.2.1[k]? = some (lstN b.2.1 k) := by
  obtain ⟨y, hy⟩ := get_some (l := b.2.1) (k := k) (by have := h.len; omega)
  rw [lstN_at hy]; exact hy
theorem Kin.llen {a b : Lv} (h : Kin a b) (k : Nat) : (lstN b.2.1 k).length = (lstN a.2.1 k).length := (h.perm k).length_eq
/-- The kept start, layer by layer. -/
def startN (a : Lv) (old : List (List Int)) : Nat → Lv
  | 0 => a
  | k + 1 => putL (startN a old k) k (keptF (lstN (startN a old k).2.1 k) (lstN old k))
theorem start_kin {a : Lv} (hv : validF a = true) (hw : wide a) (old : List (List Int)) : ∀ k, k ≤ a.2.1.length → Kin a (startN a old k)
  | 0, _ => Kin.refl hv hw
  | k + 1, hk => by
    have ih := start_kin hv hw old k (by omega)
    have hy := ih.lay (k := k) (by omega)
    exact ih.put hy (Go.Bd.keptF_perm (layer_nodup ih.ok hy) _)
theorem start_later (a : Lv) (old : List (List Int)) : ∀ k j, k ≤ j → lstN (startN a old k).2.1 j = lstN a.2.1 j
  | 0, _, _ => rfl
  | k + 1, j, h => by
    rw [startN, put_other _ _ (by omega)]
    exact start_later a old k j (by omega)
theorem best_kin {a b : Lv} (h : Kin a b) (old : List (List Int)) (w : Int) {i : Nat} (hi : i < a.2.1.length) : Kin a (bestLay b old w i) := by
  have hy := h.lay hi
  rw [bestLay]
  split
  · refine h.put hy (permL_perm (layer_nodup h.ok hy) ?_)
    have := (bestAll_part (stM b (lstN old i) (lstN b.2.1 i) w i)).1
    rw [stM_len] at this; exact this
  · exact h
def roundN (b : Lv) (old : List (List Int)) (w : Int) : Nat → Lv
  | 0 => b
  | k + 1 => if 8 < (lstN (roundN b old w k).2.1 k).length then roundN b old w k else bestLay (roundN b old w k) old w k
theorem round_kin {a b : Lv} (h : Kin a b) (old : List (List Int)) (w : Int) : ∀ k, k ≤ a.2.1.length → Kin a (roundN b old w k)
  | 0, _ => h
  | k + 1, hk => by
    have ih := round_kin h old w k (by omega)
    rw [roundN]
    split
    · exact ih
    · exact best_kin ih old w (by omega)
def runN (a : Lv) (old : List (List Int)) (w : Int) : Nat → Lv
  | 0 => startN a old a.2.1.length
  | r + 1 => roundN (runN a old w r) old w a.2.1.length
theorem run_kin {a : Lv} (hv : validF a = true) (hw : wide a) (old : List (List Int)) (w : Int) : ∀ r, Kin a (runN a old w r)
  | 0 => start_kin hv hw old _ (Nat.le_refl _)
  | r + 1 => round_kin (run_kin hv hw old w r) old w _ (Nat.le_refl _)
def runF (a : Lv) (old : List (List Int)) (w r : Int) : Lv × Int × Int :=
  if okW a w = false ∨ r < 0 ∨ 100 < r then (lv0, 0, 1) else (runN a old w r.toNat, costF (runN a old w r.toNat) old w, 0)
end Go.Proofs.YtelghbnlceeecaaGreat
