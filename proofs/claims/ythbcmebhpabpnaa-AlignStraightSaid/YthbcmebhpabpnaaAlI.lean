/- The cost of balanced coordinates. -/
import Derived.Test.YthbcmebhpabpnaaAlD
import Derived.Test.YthbcmebhpabpnaaSxL
import Derived.Test.YthbcmebhpabpnaaM
set_option linter.unusedSimpArgs false
set_option linter.unusedVariables false
namespace Go.Proofs.Ythbcmebhpabpnaa
open Go Go.PS Go.Proofs
open Sx (Bd nOk BdsOk bdsOk_of PotB zeros Best best_bd best_pot costB costAt sumI lowN lowN_le lowN_ge midF)
set_option maxRecDepth 100000
variable {a : Lv} {ws : List Int} {sep : Int}

def costQ (r : List Int) (b : Bd) : Int := b.2.2.2 * (at0 r b.2.1 - at0 r b.1)
theorem costB_take (l : List Bd) (r : List Int) : ∀ k, k ≤ l.length → sumI (costAt r l) k = ((l.take k).map (costQ r)).sum
 | 0, _ => by simp [sumI]
 | k + 1, hk => by
  obtain ⟨b, hb⟩ := get_some (show k < l.length by omega)
  rw [Sx.sumI_succ, costB_take l r k (by omega), Sx.costAt_some hb, take_snoc hb, List.map_append, List.sum_append]
  simp [costQ, at0_sx]
theorem costB_sum (l : List Bd) (r : List Int) : costB l r = (l.map (costQ r)).sum := by
 rw [costB, costB_take l r l.length (Nat.le_refl _), List.take_length]
theorem sum_zero_map {f : Bd → Int} : ∀ {l : List Bd}, (∀ b, b ∈ l → f b = 0) → (l.map f).sum = 0
 | [], _ => rfl
 | b :: l, h => by
  rw [List.map_cons, List.sum_cons, h b (by simp), sum_zero_map fun c hc => h c (List.mem_cons_of_mem _ hc)]; rfl
def arcQ (a : Lv) (r : List Int) (k : Nat) (x : Arc) : Int := wgtF a.1 x * (at0 r x.1 - at0 r ((tot a.2.1 + k : Nat) : Int)) + wgtF a.1 x * (at0 r x.2 - at0 r ((tot a.2.1 + k : Nat) : Int))
def arcT (a : Lv) (r : List Int) : Nat → Int
 | 0 => 0
 | k + 1 => arcT a r k + match a.2.2.1[k]? with | some x => arcQ a r k x | none => 0
theorem arcsB_sum (a : Lv) (r : List Int) : ∀ k, k ≤ a.2.2.1.length → ((arcsB a k).map (costQ r)).sum = arcT a r k
 | 0, _ => rfl
 | k + 1, hk => by
  obtain ⟨x, hx⟩ := get_some (show k < a.2.2.1.length by omega)
  rw [arcsB_succ hx, List.map_append, List.sum_append, arcsB_sum a r k (by omega), arcT, hx, arcB]
  simp [costQ, arcQ]
theorem net_cost (a : Lv) (ws : List Int) (sep : Int) (r : List Int) : costB (netL a ws sep) r = arcT a r a.2.2.1.length := by
 rw [costB_sum, List.map_append, List.sum_append, arcsB_sum a r _ (Nat.le_refl _), sum_zero_map fun b hb => by rw [costQ, allP_zero ws sep _ _ b hb, Int.zero_mul], Int.add_zero]
theorem arcs_get {k : Nat} {x : Arc} (hx : a.2.2.1[k]? = some x) : (((tot a.2.1 + k : Nat) : Int), x.1, 0, wgtF a.1 x) ∈ netL a ws sep ∧ (((tot a.2.1 + k : Nat) : Int), x.2, 0, wgtF a.1 x) ∈ netL a ws sep := by
 have hk := (List.getElem?_eq_some_iff.1 hx).1
 have h : ∀ b, b ∈ arcB a k x → b ∈ netL a ws sep := fun b hb => List.mem_append_left _ (mem_catL.2 ⟨k, hk, by rw [arcL, hx]; exact hb⟩)
 exact ⟨h _ (by simp [arcB]), h _ (by simp [arcB])⟩
theorem pot_mem {l : List Bd} {r : List Int} (h : PotB l (zeros l) (fun v => at0 r v)) {b : Bd} (hb : b ∈ l) (h1 : 0 ≤ b.1) (h2 : 0 ≤ b.2.1) : at0 r b.1 + b.2.2.1 ≤ at0 r b.2.1 := by
 obtain ⟨k, hk⟩ := List.mem_iff_getElem?.1 hb
 have := (h k b hk).1
 dsimp only at this
 rwa [show ((b.1.toNat : Nat) : Int) = b.1 by omega, show ((b.2.1.toNat : Nat) : Int) = b.2.1 by omega] at this
theorem firstA_len (r : List Int) (T : Nat) : (firstA r T).length = T := by simp [firstA]
theorem firstA_at {r : List Int} {T : Nat} {v : Int} (h0 : 0 ≤ v) (h1 : v < T) : at0 (firstA r T) v = at0 r v - lowR r T := by
 obtain ⟨n, rfl⟩ : ∃ n : Nat, v = n := ⟨v.toNat, by omega⟩
 have hn : n < T := by omega
 rw [at0, firstA, Int.toNat_natCast, List.getElem?_map, List.getElem?_range hn]; rfl
theorem abs_le {w x y o : Int} (hw : 0 ≤ w) (hx : o ≤ x) (hy : o ≤ y) : w * absI (x - y) ≤ w * (x - o) + w * (y - o) := by
 rw [← Int.mul_add]
 exact Int.mul_le_mul_of_nonneg_left (by rw [absI]; omega) hw
theorem cost_first (h : VA a ws sep) {M : List Int} (hM : Bal a ws sep M) : ∀ k, k ≤ a.2.2.1.length → costS a (firstA M (tot a.2.1)) k ≤ arcT a M k
 | 0, _ => Int.le_refl _
 | k + 1, hk => by
  obtain ⟨x, hx⟩ := get_some (show k < a.2.2.1.length by omega)
  have ih := cost_first h hM k (by omega)
  have hm := h.arcs x (List.mem_of_getElem? hx)
  have hw := wgt_in a.1 x
  obtain ⟨g1, g2⟩ := arcs_get (ws := ws) (sep := sep) hx
  have p1 := pot_mem hM.pot g1 (by dsimp only; omega) hm.1.1
  have p2 := pot_mem hM.pot g2 (by dsimp only; omega) hm.2.1
  dsimp only at p1 p2
  have := abs_le (w := wgtF a.1 x) (x := at0 M x.1) (y := at0 M x.2) (o := at0 M ((tot a.2.1 + k : Nat) : Int)) (by omega) (by omega) (by omega)
  rw [costS, arcT, hx]
  dsimp only
  rw [costT, arcQ, firstA_at hm.1.1 hm.1.2, firstA_at hm.2.1 hm.2.2, show at0 M x.1 - lowR M (tot a.2.1) - (at0 M x.2 - lowR M (tot a.2.1)) = at0 M x.1 - at0 M x.2 by omega]
  omega
def extX (a : Lv) (X : List Int) : List Int := X ++ a.2.2.1.map fun x => min (at0 X x.1) (at0 X x.2)
theorem ext_old {X : List Int} {v : Int} (h0 : 0 ≤ v) (h1 : v < X.length) : at0 (extX a X) v = at0 X v := by
 rw [at0, at0, extX, List.getElem?_append_left (by omega)]
theorem ext_new {X : List Int} (hl : X.length = tot a.2.1) {k : Nat} {x : Arc} (hx : a.2.2.1[k]? = some x) : at0 (extX a X) ((tot a.2.1 + k : Nat) : Int) = min (at0 X x.1) (at0 X x.2) := by
 rw [at0, extX, Int.toNat_natCast, List.getElem?_append_right (by omega), hl, Nat.add_sub_cancel_left, List.getElem?_map, hx]; rfl
theorem min_abs {w x y : Int} : w * (x - min x y) + w * (y - min x y) = w * absI (x - y) := by
 rw [← Int.mul_add, show x - min x y + (y - min x y) = absI (x - y) by rw [absI]; omega]
theorem cost_ext (h : VA a ws sep) {X : List Int} (hX : Fits a X) : ∀ k, k ≤ a.2.2.1.length → arcT a (extX a X) k = costS a X k
 | 0, _ => rfl
 | k + 1, hk => by
  obtain ⟨x, hx⟩ := get_some (show k < a.2.2.1.length by omega)
  have ih := cost_ext h hX k (by omega)
  have hm := h.arcs x (List.mem_of_getElem? hx)
  have hl := hX.len
  rw [costS, arcT, hx, ih]
  dsimp only
  rw [costT, arcQ, ext_new hl hx, ext_old hm.1.1 (by omega), ext_old hm.2.1 (by omega), min_abs]
theorem ext_pot (h : VA a ws sep) {X : List Int} (hX : Fits a X) (hc : (allP ws sep a.2.1 a.2.1.length).any (badQ X) = false) : PotB (netL a ws sep) (zeros (netL a ws sep)) (fun v => at0 (extX a X) v) := by
 refine Sx.potB_nil.1 fun k b hk => ⟨?_, fun hf => by simp [Sx.at0] at hf⟩
 have hb := List.mem_of_getElem? hk
 have hl := hX.len
 rw [List.mem_append] at hb
 rcases hb with hb | hb
 ·obtain ⟨i, x, hi, hx, hb⟩ := mem_arcsB hb
  have hm := h.arcs x (List.mem_of_getElem? hx)
  have e := ext_new hl hx
  have e1 := ext_old (a := a) (X := X) hm.1.1 (by omega)
  have e2 := ext_old (a := a) (X := X) hm.2.1 (by omega)
  rcases hb with rfl | rfl
  ·dsimp only
   rw [Int.toNat_natCast, e, show ((x.1.toNat : Nat) : Int) = x.1 by omega, e1]; omega
  ·dsimp only
   rw [Int.toNat_natCast, e, show ((x.2.toNat : Nat) : Int) = x.2 by omega, e2]; omega
 ·have hi := allP_in h _ b hb
  have := List.any_eq_false.1 hc b hb
  simp only [badQ, decide_eq_true_eq, Int.not_lt] at this
  rw [show ((b.1.toNat : Nat) : Int) = b.1 by omega, show ((b.2.1.toNat : Nat) : Int) = b.2.1 by omega, ext_old hi.1.1 (by omega), ext_old hi.2.1.1 (by omega)]
  omega
theorem low_in (h : VA a ws sep) {M : List Int} (hM : Bal a ws sep M) (h0 : 0 < tot a.2.1) : 0 ≤ lowR M (tot a.2.1) ∧ ∀ v : Nat, v < tot a.2.1 → lowR M (tot a.2.1) ≤ at0 M v := by
 have hl : M.length = tot a.2.1 + a.2.2.1.length := hM.len
 exact ⟨lowN_ge h0 fun v hv => (hM.bd v (by omega)).1, fun v hv => lowN_le (h := fun v : Nat => at0 M v) hv⟩
theorem first_fits (h : VA a ws sep) {M : List Int} (hM : Bal a ws sep M) : fitsF a (firstA M (tot a.2.1)) = true := by
 have hl : M.length = tot a.2.1 + a.2.2.1.length := hM.len
 simp only [fitsF, Bool.and_eq_true, decide_eq_true_eq, Bool.not_eq_true', List.any_eq_false, firstA_len, true_and]
 intro x hx
 obtain ⟨v, hv, rfl⟩ := List.mem_map.1 hx
 have hv := List.mem_range.1 hv
 have h1 := low_in h hM (by omega)
 have h2 := h1.2 v hv
 have h3 := hM.bd v (by omega)
 simp only [inX, Bool.not_eq_true', decide_eq_false_iff_not, Classical.not_not]
 omega
theorem first_check (h : VA a ws sep) {M : List Int} (hM : Bal a ws sep M) : checkA a ws sep (firstA M (tot a.2.1)) = 0 := by
 rw [checkA, if_pos h.ok, if_pos (first_fits h hM), if_neg]
 rw [Bool.not_eq_true, List.any_eq_false]
 intro q hq
 have hi := allP_in h _ q hq
 have := pot_mem hM.pot (List.mem_append_right _ hq) hi.1.1 hi.2.1.1
 simp only [badQ, decide_eq_true_eq, Int.not_lt]
 rw [firstA_at hi.1.1 hi.1.2, firstA_at hi.2.1.1 hi.2.1.2]
 omega
theorem first_least (h : VA a ws sep) {M X : List Int} (hM : Bal a ws sep M) (hc : checkA a ws sep X = 0) : costA a (firstA M (tot a.2.1)) ≤ costA a X := by
 rw [checkA, if_pos h.ok] at hc
 rcases hf : fitsF a X with _ | _
 ·rw [hf] at hc; simp at hc
 rw [hf, if_pos rfl] at hc
 rcases hb : (allP ws sep a.2.1 a.2.1.length).any (badQ X) with _ | _
 ·have hX := Fits.of hf
  have h1 := cost_first h hM a.2.2.1.length (Nat.le_refl _)
  have h2 := hM.least _ (ext_pot h hX hb)
  rw [net_cost, net_cost, cost_ext h hX _ (Nat.le_refl _)] at h2
  rw [costA, costA, h.v, first_fits h hM, hf]
  simp only [Bool.and_self, if_true]
  omega
 ·rw [hb] at hc; simp at hc
theorem first_low {M : List Int} {T : Nat} (h0 : 0 < T) : lowR (firstA M T) T = 0 := by
 obtain ⟨j, hj, e⟩ : ∃ j, j < T ∧ at0 M j = lowR M T := by
  have key : ∀ k : Nat, 0 < k → ∃ j, j < k ∧ at0 M j = lowR M k := by
   intro k
   induction k with
   | zero => intro h; omega
   | succ k ih =>
    intro _
    have e : lowR M (k + 1) = if k = 0 ∨ at0 M k < lowR M k then at0 M k else lowR M k := rfl
    rw [e]
    split
    ·exact ⟨k, by omega, rfl⟩
    ·rename_i hc
     obtain ⟨j, hj, e2⟩ := ih (by omega)
     exact ⟨j, by omega, e2⟩
  exact key T h0
 have h1 : lowR (firstA M T) T ≤ at0 (firstA M T) j := lowN_le (h := fun v : Nat => at0 (firstA M T) v) hj
 have h2 : 0 ≤ lowR (firstA M T) T := lowN_ge h0 fun v hv => by
  rw [firstA_at (by omega) (by omega)]
  have := lowN_le (h := fun v : Nat => at0 M v) (k := T) hv
  have : lowR M T ≤ at0 M v := this
  omega
 rw [firstA_at (by omega) (by omega), e] at h1
 omega
theorem all_zero {l : List Bd} {n : Nat} {r f : List Int} (hb : BdsOk n l) (hl : ∀ b, b ∈ l → b.2.2.1 = 0) (h : Best n l r f) (v : Nat) (hv : v < n) : at0 r v = 0 := by
 have hp : PotB l f (fun _ => 0) := fun k b hk => by
  have := hl b (List.mem_of_getElem? hk)
  dsimp only
  exact ⟨by omega, fun _ => by omega⟩
 have hp := (Sx.pot_iff hb).2 hp
 obtain ⟨⟨j, hw⟩, _⟩ := h.opt v hv
 have h1 := Sx.wk_le (lo := 0) hp (fun u hu => Int.le_refl _) hw
 have h2 := (best_bd hb h v).1
 rw [at0_sx] at h1 h2
 omega
theorem straight_zero (h : VA a ws sep) (hal : a.2.2.1.length ≤ 40) (h1 : ∀ y, y ∈ a.2.1 → y.length = 1) : ∃ M, Bal a ws sep M ∧ ∀ v : Nat, v < tot a.2.1 → at0 (firstA M (tot a.2.1)) v = 0 := by
 obtain ⟨A, f, b, f2, hA, hB, hM⟩ := bal_parts h hal
 refine ⟨_, hM, ?_⟩
 have hg := net_ok h hal
 obtain ⟨hbd, hn, hll⟩ := bdsOk_of hg
 obtain ⟨hbm, _, _⟩ := bdsOk_of (Sx.mir_ok hg)
 have hz : ∀ q, q ∈ netL a ws sep → q.2.2.1 = 0 := fun q hq => by
  rw [List.mem_append] at hq
  rcases hq with hq | hq
  ·obtain ⟨i, x, hi, hx, hq⟩ := mem_arcsB hq
   rcases hq with rfl | rfl <;> rfl
  ·obtain ⟨i, x, j, u, v, hx, hu, hv, rfl⟩ := mem_allP hq
   have := h1 x (List.mem_of_getElem? hx)
   have := (List.getElem?_eq_some_iff.1 hv).1
   omega
 have hzm : ∀ q, q ∈ (netL a ws sep).map Sx.mirB → q.2.2.1 = 0 := fun q hq => by
  obtain ⟨p, hp, rfl⟩ := List.mem_map.1 hq
  exact hz p hp
 have zA := all_zero hbd hz hA
 have zB := all_zero hbm hzm hB
 have hm : ∀ v : Nat, v < netN a → at0 (midF A b) v = 0 := fun v hv => by
  have e := Sx.mid_at (a := A) (b := b) (v := v) (by rw [hA.rl]; exact hv)
  have hh : ∀ u : Nat, u < A.length → Sx.halfAt A b (Sx.topN A b A.length) u = Sx.topN A b A.length / 2 := fun u hu => by
   rw [hA.rl] at hu
   have e1 := zA u hu
   have e2 := zB u hu
   rw [Sx.halfAt, at0_sx, at0_sx, e1, e2]
   congr 1; omega
  have g1 := lowN_le (h := Sx.halfAt A b (Sx.topN A b A.length)) (k := A.length) (v := v) (by rw [hA.rl]; exact hv)
  have g2 : Sx.topN A b A.length / 2 ≤ lowN (Sx.halfAt A b (Sx.topN A b A.length)) A.length := lowN_ge (by rw [hA.rl]; omega) fun u hu => by rw [hh u hu]; exact Int.le_refl _
  rw [hh v (by rw [hA.rl]; exact hv)] at e g1
  rw [at0_sx] at e
  omega
 intro v hv
 have hN : netN a = tot a.2.1 + a.2.2.1.length := rfl
 have hlow : lowR (midF A b) (tot a.2.1) = 0 := by
  have g1 : lowR (midF A b) (tot a.2.1) ≤ at0 (midF A b) v := lowN_le (h := fun v : Nat => at0 (midF A b) v) hv
  have g2 : 0 ≤ lowR (midF A b) (tot a.2.1) := lowN_ge (by omega) fun u hu => by rw [hm u (by omega)]; exact Int.le_refl _
  rw [hm v (by omega)] at g1
  omega
 rw [firstA_at (by omega) (by omega), hlow, hm v (by omega)]; rfl
end Go.Proofs.Ythbcmebhpabpnaa
namespace Go.Proofs.Ythbcmebhpabpnaa
open Go Go.PS Go.Proofs
open Sx (Bd bdD bdsD Net nD)
set_option maxRecDepth 100000
attribute [local irreducible] wpRun wpG CallsTo CallsM
abbrev lvA : Lv := (3, [[0], [1, 2]], [(0, 1), (0, 2)], [[0, 1], [0, 2]])
theorem wideA : wide lvA := by
 intro y hy
 simp only [lvA, List.mem_cons, List.not_mem_nil, or_false] at hy
 rcases hy with rfl | rfl <;> decide
theorem netA_eq : netF lvA [10, 10, 10] 10 = (5, [(3, 0, 0, 1), (3, 1, 0, 1), (4, 0, 0, 1), (4, 2, 0, 1), (1, 2, 20, 0)]) := by decide +kernel
theorem solveN : Sx.SolveOk (netF lvA [10, 10, 10] 10) [0, 0, 20, 0, 0] [0, 2, 2, 0, 1] := by
 rw [netA_eq]
 exact Sx.solve_of 5 _ 10 _ _ (by decide +kernel) (by decide +kernel) (by decide +kernel) (by decide +kernel) (by decide +kernel) (by decide +kernel)
theorem solveM : Sx.SolveOk (Sx.mirF (netF lvA [10, 10, 10] 10)) [0, 20, 0, 20, 0] [0, 2, 2, 0, 1] := by
 rw [netA_eq]
 exact Sx.solve_of 5 _ 10 _ _ (by decide +kernel) (by decide +kernel) (by decide +kernel) (by decide +kernel) (by decide +kernel) (by decide +kernel)
theorem vA : validF lvA = true := by
 simp only [validF, sortLv, lvA, List.map_cons, List.map_nil, ← insN_eq]
 decide +kernel
theorem okA : validA lvA [10, 10, 10] 10 = true := by
 rw [validA, vA]; decide +kernel
set_option maxHeartbeats 4000000 in
theorem awake_spec : CallsTo Try.prog 9 [] (.bool true) := by
 have h := VA.of okA
 have s1 := Net_spec lvA [10, 10, 10] 10 wideA h (by decide)
 rw [netA_eq] at s1
 have hB := Sx.Balanced_ok _ _ _ _ _ solveN solveM (by decide +kernel) (by decide +kernel) (Sx.fromTo_of (by decide +kernel)) (Sx.fromTo_of (by decide +kernel))
 rw [show Sx.midF [0, 0, 20, 0, 0] [0, 20, 0, 20, 0] = [10, 0, 20, 0, 10] by decide +kernel] at hB
 have s2 := Solve_ok lvA [10, 10, 10] 10 [10, 0, 20, 0, 10] wideA h (by decide) hB (by decide +kernel) (fun v hv => by
  have : ∀ v : Nat, v < 5 → 0 ≤ at0 [10, 0, 20, 0, 10] v ∧ at0 [10, 0, 20, 0, 10] v ≤ 34359738368 := by decide +kernel
  exact this v hv)
 rw [show firstA [10, 0, 20, 0, 10] (tot lvA.2.1) = [10, 0, 20] by decide +kernel] at s2
 have s3 := Cost_spec lvA [10, 0, 20] wideA (by decide)
 rw [show costA lvA [10, 0, 20] = 20 by rw [costA, vA]; decide +kernel] at s3
 have s4 := Check_spec lvA [10, 10, 10] 10 [10, 0, 20] wideA
 rw [show checkA lvA [10, 10, 10] 10 [10, 0, 20] = 0 by rw [checkA, okA]; decide +kernel] at s4
 have s5 := Check_spec lvA [10, 10, 10] 10 [10, 0, 19] wideA
 rw [show checkA lvA [10, 10, 10] 10 [10, 0, 19] = 14 by rw [checkA, okA]; decide +kernel] at s5
 have t1 := sameI_spec [10, 0, 20] [10, 0, 20]
 simp only [lvD, listsD, arcsD, intsD, nD, bdsD, List.map_cons, List.map_nil, decide_true] at s1 s2 s3 s4 s5 t1
 refine callsTo_of Try.func9 rfl (by decide +kernel) (Nat.le_of_ble_eq_true rfl) ?_
 intro hat B X w0
 repeat' first | refine pw_step rfl ?_ | refine pw_ret ?_ | refine wR ?_ | (refine rc (s1) rfl ?_ ?_; (· first | rfl | simp (disch := omega) only [go_sem, simprocAttr, eq_self, decide_true, List.append_eq])) | (refine rc (s2) rfl ?_ ?_; (· first | rfl | simp (disch := omega) only [go_sem, simprocAttr, eq_self, decide_true, List.append_eq])) | (refine rc (s3) rfl ?_ ?_; (· first | rfl | simp (disch := omega) only [go_sem, simprocAttr, eq_self, decide_true, List.append_eq])) | (refine rc (s4) rfl ?_ ?_; (· first | rfl | simp (disch := omega) only [go_sem, simprocAttr, eq_self, decide_true, List.append_eq])) | (refine rc (s5) rfl ?_ ?_; (· first | rfl | simp (disch := omega) only [go_sem, simprocAttr, eq_self, decide_true, List.append_eq])) | (refine rc (t1) rfl ?_ ?_; (· first | rfl | simp (disch := omega) only [go_sem, simprocAttr, eq_self, decide_true, List.append_eq])) | (refine wpG_split rfl rfl (fun hc => ?_) (fun hc => ?_) <;> try simp only [hcL] at hc) | (refine pw_cond _ rfl rfl (fun hc => ?_) (fun hc => ?_) <;> (try simp only [hcL] at hc) <;> try omega) | simp (disch := omega) only [go_sem, simprocAttr, eq_self, decide_true, List.append_eq] | apply And.intro | omega | decide +kernel
 all_goals exact bool_some rfl
set_option maxHeartbeats 2000000 in
theorem lawNets (a : Lv) (ws : List Int) (sep : Int) (hw : wide a) : CallsTo Try.prog 3 [lvD a, intsD ws, .int sep] (.bool true) := by
 have hsm := sml_spec a
 rcases hs : smlF a with _ | _
 ·rw [hs] at hsm
  refine callsTo_of Try.func3 rfl (by decide +kernel) (Nat.le_of_ble_eq_true rfl) ?_
  intro hat B X w0
  have h1 := at_len 1 hat rfl
  rw [List.length_map] at h1
  repeat' first | refine pw_step rfl ?_ | refine pw_ret ?_ | refine wR ?_ | (refine rc (hsm) rfl ?_ ?_; (· first | rfl | simp (disch := omega) only [go_sem, simprocAttr])) | (refine rc (awake_spec) rfl ?_ ?_; (· first | rfl | simp (disch := omega) only [go_sem, simprocAttr])) | (refine wpG_split rfl rfl (fun hc => ?_) (fun hc => ?_) <;> try simp only [hcL] at hc) | (refine pw_cond _ rfl rfl (fun hc => ?_) (fun hc => ?_) <;> (try simp only [hcL] at hc) <;> try omega) | simp (disch := omega) only [go_sem, simprocAttr] | apply And.intro | omega | decide +kernel
  all_goals exact bool_some rfl
 rw [hs] at hsm
 have hi := sml_in hs
 rcases h : validA a ws sep with _ | _
 ·have s1 := Net_bad a ws sep hw h
  have s2 := rNet_bad a ws sep hw h
  have s3 := sameNet_refl (0, [])
  have s4 := Sx.rValid_spec (0, [])
  rw [show Sx.nOk (0, []) = true by decide +kernel] at s4
  refine callsTo_of Try.func3 rfl (by decide +kernel) (Nat.le_of_ble_eq_true rfl) ?_
  intro hat B X w0
  have h1 := at_len 1 hat rfl
  rw [List.length_map] at h1
  repeat' first | refine pw_step rfl ?_ | refine pw_ret ?_ | refine wR ?_ | (refine rc (hsm) rfl ?_ ?_; (· first | rfl | simp (disch := omega) only [go_sem, simprocAttr])) | (refine rc (awake_spec) rfl ?_ ?_; (· first | rfl | simp (disch := omega) only [go_sem, simprocAttr])) | (refine rc (s1) rfl ?_ ?_; (· first | rfl | simp (disch := omega) only [go_sem, simprocAttr])) | (refine rc (s2) rfl ?_ ?_; (· first | rfl | simp (disch := omega) only [go_sem, simprocAttr])) | (refine rc (s3) rfl ?_ ?_; (· first | rfl | simp (disch := omega) only [go_sem, simprocAttr])) | (refine rc (s4) rfl ?_ ?_; (· first | rfl | simp (disch := omega) only [go_sem, simprocAttr])) | (refine wpG_split rfl rfl (fun hc => ?_) (fun hc => ?_) <;> try simp only [hcL] at hc) | (refine pw_cond _ rfl rfl (fun hc => ?_) (fun hc => ?_) <;> (try simp only [hcL] at hc) <;> try omega) | simp (disch := omega) only [go_sem, simprocAttr] | apply And.intro | omega | decide +kernel
  all_goals exact bool_some rfl
 ·have hV := VA.of h
  have s1 := Net_spec a ws sep hw hV (by omega)
  have s2 := rNet_spec a ws sep hw hV (by omega)
  have s3 := sameNet_refl (netF a ws sep)
  have s4 := Sx.rValid_spec (netF a ws sep)
  rw [show Sx.nOk (netF a ws sep) = true from net_ok hV hi.2.1] at s4
  refine callsTo_of Try.func3 rfl (by decide +kernel) (Nat.le_of_ble_eq_true rfl) ?_
  intro hat B X w0
  have h1 := at_len 1 hat rfl
  rw [List.length_map] at h1
  repeat' first | refine pw_step rfl ?_ | refine pw_ret ?_ | refine wR ?_ | (refine rc (hsm) rfl ?_ ?_; (· first | rfl | simp (disch := omega) only [go_sem, simprocAttr])) | (refine rc (awake_spec) rfl ?_ ?_; (· first | rfl | simp (disch := omega) only [go_sem, simprocAttr])) | (refine rc (s1) rfl ?_ ?_; (· first | rfl | simp (disch := omega) only [go_sem, simprocAttr])) | (refine rc (s2) rfl ?_ ?_; (· first | rfl | simp (disch := omega) only [go_sem, simprocAttr])) | (refine rc (s3) rfl ?_ ?_; (· first | rfl | simp (disch := omega) only [go_sem, simprocAttr])) | (refine rc (s4) rfl ?_ ?_; (· first | rfl | simp (disch := omega) only [go_sem, simprocAttr])) | (refine wpG_split rfl rfl (fun hc => ?_) (fun hc => ?_) <;> try simp only [hcL] at hc) | (refine pw_cond _ rfl rfl (fun hc => ?_) (fun hc => ?_) <;> (try simp only [hcL] at hc) <;> try omega) | simp (disch := omega) only [go_sem, simprocAttr] | apply And.intro | omega | decide +kernel
  all_goals exact bool_some rfl
abbrev coD (a : Lv) (ws : List Int) (sep : Int) (x : List Int) : D := .ag [.int a.1, listsD a.2.1, arcsD a.2.2.1, listsD a.2.2.2, intsD ws, .int sep, intsD x]
set_option maxHeartbeats 2000000 in
theorem lawChecks (a : Lv) (ws : List Int) (sep : Int) (x : List Int) (hw : wide a) : CallsTo Try.prog 4 [coD a ws sep x] (.bool true) := by
 have hsm := sml_spec a
 rcases hs : smlF a with _ | _
 ·rw [hs] at hsm
  refine callsTo_of Try.func4 rfl (by decide +kernel) (Nat.le_of_ble_eq_true rfl) ?_
  intro hat B X w0
  have h1 := at_len2 0 4 hat rfl rfl
  have h2 := at_len2 0 6 hat rfl rfl
  rw [List.length_map] at h1 h2
  repeat' first | refine pw_step rfl ?_ | refine pw_ret ?_ | refine wR ?_ | (refine rc (hsm) rfl ?_ ?_; (· first | rfl | simp (disch := omega) only [go_sem, simprocAttr])) | (refine rc (awake_spec) rfl ?_ ?_; (· first | rfl | simp (disch := omega) only [go_sem, simprocAttr])) | (refine wpG_split rfl rfl (fun hc => ?_) (fun hc => ?_) <;> try simp only [hcL] at hc) | (refine pw_cond _ rfl rfl (fun hc => ?_) (fun hc => ?_) <;> (try simp only [hcL] at hc) <;> try omega) | simp (disch := omega) only [go_sem, simprocAttr] | apply And.intro | omega | decide +kernel
  all_goals exact bool_some rfl
 rw [hs] at hsm
 have hi := sml_in hs
 have s1 := Cost_spec a x hw (by omega)
 have s2 := rCost_spec a x hw (by omega)
 have s3 := Check_spec a ws sep x hw
 have s4 := rCheck_spec a ws sep x hw
 generalize costA a x = c1 at s1 s2
 generalize checkA a ws sep x = c2 at s3 s4
 refine callsTo_of Try.func4 rfl (by decide +kernel) (Nat.le_of_ble_eq_true rfl) ?_
 intro hat B X w0
 have h1 := at_len2 0 4 hat rfl rfl
 have h2 := at_len2 0 6 hat rfl rfl
 rw [List.length_map] at h1 h2
 repeat' first | refine pw_step rfl ?_ | refine pw_ret ?_ | refine wR ?_ | (refine rc (hsm) rfl ?_ ?_; (· first | rfl | simp (disch := omega) only [go_sem, simprocAttr])) | (refine rc (awake_spec) rfl ?_ ?_; (· first | rfl | simp (disch := omega) only [go_sem, simprocAttr])) | (refine rc (s1) rfl ?_ ?_; (· first | rfl | simp (disch := omega) only [go_sem, simprocAttr])) | (refine rc (s2) rfl ?_ ?_; (· first | rfl | simp (disch := omega) only [go_sem, simprocAttr])) | (refine rc (s3) rfl ?_ ?_; (· first | rfl | simp (disch := omega) only [go_sem, simprocAttr])) | (refine rc (s4) rfl ?_ ?_; (· first | rfl | simp (disch := omega) only [go_sem, simprocAttr])) | (refine wpG_split rfl rfl (fun hc => ?_) (fun hc => ?_) <;> try simp only [hcL] at hc) | (refine pw_cond _ rfl rfl (fun hc => ?_) (fun hc => ?_) <;> (try simp only [hcL] at hc) <;> try omega) | simp (disch := omega) only [go_sem, simprocAttr] | apply And.intro | omega | decide +kernel
 all_goals exact bool_some rfl
set_option maxHeartbeats 2000000 in
theorem lawSolves (a : Lv) (ws : List Int) (sep : Int) (hw : wide a) : CallsTo Try.prog 5 [lvD a, intsD ws, .int sep] (.bool true) := by
 have hsm := sml_spec a
 rcases hs : smlF a with _ | _
 ·rw [hs] at hsm
  refine callsTo_of Try.func5 rfl (by decide +kernel) (Nat.le_of_ble_eq_true rfl) ?_
  intro hat B X w0
  have h1 := at_len 1 hat rfl
  rw [List.length_map] at h1
  repeat' first | refine pw_step rfl ?_ | refine pw_ret ?_ | refine wR ?_ | (refine rc (hsm) rfl ?_ ?_; (· first | rfl | simp (disch := omega) only [go_sem, simprocAttr])) | (refine rc (awake_spec) rfl ?_ ?_; (· first | rfl | simp (disch := omega) only [go_sem, simprocAttr])) | (refine wpG_split rfl rfl (fun hc => ?_) (fun hc => ?_) <;> try simp only [hcL] at hc) | (refine pw_cond _ rfl rfl (fun hc => ?_) (fun hc => ?_) <;> (try simp only [hcL] at hc) <;> try omega) | simp (disch := omega) only [go_sem, simprocAttr] | apply And.intro | omega | decide +kernel
  all_goals exact bool_some rfl
 rw [hs] at hsm
 have hi := sml_in hs
 rcases h : validA a ws sep with _ | _
 ·have s1 := Solve_bad a ws sep hw h
  have s2 := rNet_bad a ws sep hw h
  refine callsTo_of Try.func5 rfl (by decide +kernel) (Nat.le_of_ble_eq_true rfl) ?_
  intro hat B X w0
  have h1 := at_len 1 hat rfl
  rw [List.length_map] at h1
  repeat' first | refine pw_step rfl ?_ | refine pw_ret ?_ | refine wR ?_ | (refine rc (hsm) rfl ?_ ?_; (· first | rfl | simp (disch := omega) only [go_sem, simprocAttr])) | (refine rc (awake_spec) rfl ?_ ?_; (· first | rfl | simp (disch := omega) only [go_sem, simprocAttr])) | (refine rc (s1) rfl ?_ ?_; (· first | rfl | simp (disch := omega) only [go_sem, simprocAttr])) | (refine rc (s2) rfl ?_ ?_; (· first | rfl | simp (disch := omega) only [go_sem, simprocAttr])) | (refine wpG_split rfl rfl (fun hc => ?_) (fun hc => ?_) <;> try simp only [hcL] at hc) | (refine pw_cond _ rfl rfl (fun hc => ?_) (fun hc => ?_) <;> (try simp only [hcL] at hc) <;> try omega) | simp (disch := omega) only [go_sem, simprocAttr] | apply And.intro | omega | decide +kernel
  all_goals exact bool_some rfl
 ·have hV := VA.of h
  obtain ⟨A, f, b, f2, _, _, hM⟩ := bal_parts hV hi.2.1
  generalize Sx.midF A b = M at hM
  have hml : M.length = tot a.2.1 + a.2.2.1.length := hM.len
  have htt := hV.tt
  have s1 := Solve_ok a ws sep M hw hV (by omega) hM.calls (by omega) hM.bd
  have s2 := rNet_spec a ws sep hw hV (by omega)
  have s3 := hM.calls
  have s4 := First_spec M (tot a.2.1) (by omega) (by omega) hM.bd
  have s5 := sameI_spec (firstA M (tot a.2.1)) (firstA M (tot a.2.1))
  rw [decide_eq_true rfl] at s5
  have e1 : (netF a ws sep).1 = ((tot a.2.1 + a.2.2.1.length : Nat) : Int) := rfl
  have e2 : ((tot a.2.1 + a.2.2.1.length : Nat) : Int) - a.2.2.1.length = (tot a.2.1 : Nat) := by omega
  have htm : (M.map D.int).take M.length = M.map D.int := List.take_of_length_le (by simp)
  have hml2 : (M.map D.int).length = M.length := List.length_map _
  revert s2 s3 e1
  generalize netF a ws sep = N
  obtain ⟨N1, N2⟩ := N
  rintro s2 s3 e1
  dsimp only at e1
  subst e1
  refine callsTo_of Try.func5 rfl (by decide +kernel) (Nat.le_of_ble_eq_true rfl) ?_
  intro hat B X w0
  have h1 := at_len 1 hat rfl
  rw [List.length_map] at h1
  repeat' first | refine pw_step rfl ?_ | refine pw_ret ?_ | refine pw_regionB 8 rfl (fun _ => false) hmix ?_ | (refine rc (hsm) rfl ?_ ?_; (· first | rfl | simp (disch := omega) only [go_sem, simprocAttr])) | (refine rc (awake_spec) rfl ?_ ?_; (· first | rfl | simp (disch := omega) only [go_sem, simprocAttr])) | (refine rc (s1) rfl ?_ ?_; (· first | rfl | simp (disch := omega) only [go_sem, simprocAttr])) | (refine rc (s2) rfl ?_ ?_; (· first | rfl | simp (disch := omega) only [go_sem, simprocAttr])) | refine rcM [(2000, 900)] (s3) rfl ?_ | (refine wpG_split rfl rfl (fun hc => ?_) (fun hc => ?_) <;> try simp only [hcL] at hc) | (refine pw_cond _ rfl rfl (fun hc => ?_) (fun hc => ?_) <;> (try simp only [hcL] at hc) <;> try omega) | simp (disch := omega) only [go_sem, simprocAttr] | apply And.intro | omega | decide +kernel
  all_goals try exact bool_some rfl
  refine eR [] [(3, .ptr 3 0 0 0), (7, .d (intsD (firstA M (tot a.2.1)))), (8, .int 0), (9, .ptr 9 0 0 0), (11, .ref 900 1 0 M.length M.length), (12, .int 0)] [(3, .cells [.int a.1, .d (listsD a.2.1), .d (arcsD a.2.2.1), .d (listsD a.2.2.2)]), (9, .cells [.int ((tot a.2.1 + a.2.2.1.length : Nat) : Int), .d (bdsD N2)]), (900, .row 1 (M.map D.int))] (by refine ⟨?_, ?_⟩ <;> (repeat' first | exact fmn | refine fmc ⟨(by first | rfl | (simp (disch := omega) only [go_sem, simprocAttr, inL]; first | done | omega | (congr 1; done))), ?_⟩); done) ?_
  refine pw_ent _ (ent_freeze 900 1 _ rfl (noGone_of _ rfl) (by decide)) ?_
  refine eR [] [(3, .ptr 3 0 0 0), (7, .d (intsD (firstA M (tot a.2.1)))), (8, .int 0), (9, .ptr 9 0 0 0), (11, .d (intsD M)), (12, .int 0)] [(3, .cells [.int a.1, .d (listsD a.2.1), .d (arcsD a.2.2.1), .d (listsD a.2.2.2)]), (9, .cells [.int ((tot a.2.1 + a.2.2.1.length : Nat) : Int), .d (bdsD N2)])] (by refine ⟨?_, ?_⟩ <;> (repeat' first | exact fmn | refine fmc ⟨(by first | rfl | (simp (disch := omega) only [go_sem, simprocAttr, inL, htm, hml2, List.drop_zero]; first | done | omega | (congr 1; done))), ?_⟩); done) ?_
  repeat' first | refine pw_step rfl ?_ | refine pw_ret ?_ | refine wR ?_ | (refine rc (awake_spec) rfl ?_ ?_; (· first | rfl | simp (disch := omega) only [go_sem, simprocAttr, e2])) | (refine rc (s4) rfl ?_ ?_; (· first | rfl | simp (disch := omega) only [go_sem, simprocAttr, e2])) | (refine rc (s5) rfl ?_ ?_; (· first | rfl | simp (disch := omega) only [go_sem, simprocAttr, e2])) | (refine wpG_split rfl rfl (fun hc => ?_) (fun hc => ?_) <;> try simp only [hcL] at hc) | (refine pw_cond _ rfl rfl (fun hc => ?_) (fun hc => ?_) <;> (try simp only [hcL] at hc) <;> try omega) | simp (disch := omega) only [go_sem, simprocAttr, e2] | apply And.intro | omega | decide +kernel
  all_goals exact bool_some rfl
end Go.Proofs.Ythbcmebhpabpnaa
namespace Go.Proofs.Ythbcmebhpabpnaa
open Go Go.PS Go.Proofs
open Sx (Bd bdD bdsD Net nD)
set_option maxRecDepth 100000
attribute [local irreducible] wpRun wpG CallsTo CallsM
theorem check_valid {a : Lv} {ws : List Int} {sep : Int} {x : List Int} (h : checkA a ws sep x = 0) : validA a ws sep = true := by
 rw [checkA] at h
 split at h
 ·assumption
 ·omega
set_option maxHeartbeats 4000000 in
theorem lawLeast (a : Lv) (ws : List Int) (sep : Int) (x : List Int) (hw : wide a) : CallsTo Try.prog 6 [coD a ws sep x] (.bool true) := by
 have hsm := sml_spec a
 rcases hs : smlF a with _ | _
 ·rw [hs] at hsm
  refine callsTo_of Try.func6 rfl (by decide +kernel) (Nat.le_of_ble_eq_true rfl) ?_
  intro hat B X w0
  have h1 := at_len2 0 4 hat rfl rfl
  have h2 := at_len2 0 6 hat rfl rfl
  rw [List.length_map] at h1 h2
  repeat' first | refine pw_step rfl ?_ | refine pw_ret ?_ | refine wR ?_ | (refine rc (hsm) rfl ?_ ?_; (· first | rfl | simp (disch := omega) only [go_sem, simprocAttr])) | (refine rc (awake_spec) rfl ?_ ?_; (· first | rfl | simp (disch := omega) only [go_sem, simprocAttr])) | (refine wpG_split rfl rfl (fun hc => ?_) (fun hc => ?_) <;> try simp only [hcL] at hc) | (refine pw_cond _ rfl rfl (fun hc => ?_) (fun hc => ?_) <;> (try simp only [hcL] at hc) <;> try omega) | simp (disch := omega) only [go_sem, simprocAttr] | apply And.intro | omega | decide +kernel
  all_goals exact bool_some rfl
 rw [hs] at hsm
 have hi := sml_in hs
 have s3 := rCheck_spec a ws sep x hw
 by_cases hc0 : checkA a ws sep x = 0
 rotate_left
 ·generalize checkA a ws sep x = c2 at s3 hc0
  refine callsTo_of Try.func6 rfl (by decide +kernel) (Nat.le_of_ble_eq_true rfl) ?_
  intro hat B X w0
  have h1 := at_len2 0 4 hat rfl rfl
  have h2 := at_len2 0 6 hat rfl rfl
  rw [List.length_map] at h1 h2
  repeat' first | refine pw_step rfl ?_ | refine pw_ret ?_ | refine wR ?_ | (refine rc (hsm) rfl ?_ ?_; (· first | rfl | simp (disch := omega) only [go_sem, simprocAttr, hc0])) | (refine rc (awake_spec) rfl ?_ ?_; (· first | rfl | simp (disch := omega) only [go_sem, simprocAttr, hc0])) | (refine rc (s3) rfl ?_ ?_; (· first | rfl | simp (disch := omega) only [go_sem, simprocAttr, hc0])) | (refine wpG_split rfl rfl (fun hc => ?_) (fun hc => ?_) <;> try simp only [hcL] at hc) | (refine pw_cond _ rfl rfl (fun hc => ?_) (fun hc => ?_) <;> (try simp only [hcL] at hc) <;> try omega) | simp (disch := omega) only [go_sem, simprocAttr, hc0] | apply And.intro | omega | decide +kernel
  all_goals exact bool_some rfl
 have h := check_valid hc0
 have hV := VA.of h
 obtain ⟨A, f, b, f2, _, _, hM⟩ := bal_parts hV hi.2.1
 generalize Sx.midF A b = M at hM
 have hml : M.length = tot a.2.1 + a.2.2.1.length := hM.len
 have htt := hV.tt
 have s1 := Solve_ok a ws sep M hw hV (by omega) hM.calls (by omega) hM.bd
 have s2 := Check_spec a ws sep (firstA M (tot a.2.1)) hw
 rw [first_check hV hM] at s2
 have s4 := Cost_spec a (firstA M (tot a.2.1)) hw (by omega)
 have s5 := Cost_spec a x hw (by omega)
 have hle := first_least hV hM hc0
 rw [hc0] at s3
 have hlow : lowR (firstA M (tot a.2.1)) (tot a.2.1) = 0 := by
  rcases Nat.eq_zero_or_pos (tot a.2.1) with e | e
  ·rw [e]; rfl
  ·exact first_low e
 have hyl := firstA_len M (tot a.2.1)
 generalize costA a (firstA M (tot a.2.1)) = k1 at s4 hle
 generalize costA a x = k2 at s5 hle
 revert s1 s2 s4 hlow hyl
 generalize firstA M (tot a.2.1) = y
 intro s1 s2 hlow hyl s4
 have hle' : ¬ k2 < k1 := by omega
 refine callsTo_of Try.func6 rfl (by decide +kernel) (Nat.le_of_ble_eq_true rfl) ?_
 intro hat B X w0
 have h1 := at_len2 0 4 hat rfl rfl
 have h2 := at_len2 0 6 hat rfl rfl
 rw [List.length_map] at h1 h2
 repeat' first | refine pw_step rfl ?_ | refine pw_ret ?_ | refine pw_regionB 4 rfl (fun _ => false) hmix ?_ | (refine rc (hsm) rfl ?_ ?_; (· first | rfl | simp (disch := omega) only [go_sem, simprocAttr])) | (refine rc (awake_spec) rfl ?_ ?_; (· first | rfl | simp (disch := omega) only [go_sem, simprocAttr])) | (refine rc (s3) rfl ?_ ?_; (· first | rfl | simp (disch := omega) only [go_sem, simprocAttr])) | (refine rc (s1) rfl ?_ ?_; (· first | rfl | simp (disch := omega) only [go_sem, simprocAttr])) | (refine wpG_split rfl rfl (fun hc => ?_) (fun hc => ?_) <;> try simp only [hcL] at hc) | (refine pw_cond _ rfl rfl (fun hc => ?_) (fun hc => ?_) <;> (try simp only [hcL] at hc) <;> try omega) | simp (disch := omega) only [go_sem, simprocAttr] | apply And.intro | omega | decide +kernel
 all_goals try exact bool_some rfl
 refine eR [] [(1, .ptr 1 0 0 0), (3, .d (intsD y)), (4, .int 0)] [(1, .cells [.int a.1, .d (listsD a.2.1), .d (arcsD a.2.2.1), .d (listsD a.2.2.2), .d (intsD ws), .int sep, .d (intsD x)])] (by refine ⟨?_, ?_⟩ <;> (repeat' first | exact fmn | refine fmc ⟨(by first | rfl | (simp (disch := omega) only [go_sem, simprocAttr, inL]; first | done | omega | (congr 1; done))), ?_⟩); done) ?_
 repeat' first | refine pw_step rfl ?_ | refine pw_ret ?_ | refine wR ?_ | (refine rc (s2) rfl ?_ ?_; (· first | rfl | simp (disch := omega) only [go_sem, simprocAttr, hle'])) | (refine rc (s4) rfl ?_ ?_; (· first | rfl | simp (disch := omega) only [go_sem, simprocAttr, hle'])) | (refine rc (s5) rfl ?_ ?_; (· first | rfl | simp (disch := omega) only [go_sem, simprocAttr, hle'])) | (refine wpG_split rfl rfl (fun hc => ?_) (fun hc => ?_) <;> try simp only [hcL] at hc) | (refine pw_cond _ rfl rfl (fun hc => ?_) (fun hc => ?_) <;> (try simp only [hcL] at hc) <;> try omega) | simp (maxSteps := 1000000) (disch := omega) only [go_sem, simprocAttr, hle'] | apply And.intro | omega | decide +kernel
 refine pw_loopI (κ := Nat) (fun (v : Nat) => v ≤ y.length) (fun (v : Nat) => [(3, .d (intsD y)), (5, .int (lowR y v)), (6, .int v)]) (fun (v : Nat) => []) (fun (v : Nat) => y.length - v) 0 ?_ ?_ ?_
 ·exact Nat.zero_le _
 ·exact eL [] _ _ (by refine ⟨?_, ?_⟩ <;> (repeat' first | exact fmn | refine fmc ⟨(by first | rfl | (simp (disch := omega) only [go_sem, simprocAttr, inL]; first | done | omega | (congr 1; done))), ?_⟩); done)
 ·intro v hv
  have hst : lowR y (v + 1) = if v = 0 ∨ at0 y v < lowR y v then at0 y v else lowR y v := rfl
  rcases Nat.lt_or_ge v y.length with hlt | hge
  ·have hg := at0_at (r := y) (i := v) hlt
   revert hg hst
   generalize at0 y (v : Int) = yv
   intro hst hg
   rcases Nat.eq_zero_or_pos v with rfl | h0
   ·rw [if_pos (.inl rfl)] at hst
    repeat' first | refine pw_step rfl ?_ | refine pw_ret ?_ | refine wR ?_ | (refine wpG_split rfl rfl (fun hc => ?_) (fun hc => ?_) <;> try simp only [hcL] at hc) | (refine pw_cond _ rfl rfl (fun hc => ?_) (fun hc => ?_) <;> (try simp only [hcL] at hc) <;> try omega) | simp (disch := omega) only [go_sem, simprocAttr, hg] | apply And.intro | omega | decide +kernel
    refine ⟨0 + 1, ?_, eL [] _ _ (by refine ⟨?_, ?_⟩ <;> (repeat' first | exact fmn | refine fmc ⟨(by first | rfl | (simp (disch := omega) only [go_sem, simprocAttr, inL, hst]; first | done | omega | (congr 1; done))), ?_⟩); done), ?_⟩
    ·omega
    ·omega
   ·have hv0 : ¬ (v : Int) = 0 := by omega
    by_cases c : yv < lowR y v
    ·rw [if_pos (.inr c)] at hst
     repeat' first | refine pw_step rfl ?_ | refine pw_ret ?_ | refine wR ?_ | (refine wpG_split rfl rfl (fun hc => ?_) (fun hc => ?_) <;> try simp only [hcL] at hc) | (refine pw_cond _ rfl rfl (fun hc => ?_) (fun hc => ?_) <;> (try simp only [hcL] at hc) <;> try omega) | simp (disch := omega) only [go_sem, simprocAttr, hg, hv0, c] | apply And.intro | omega | decide +kernel
     refine ⟨v + 1, ?_, eL [] _ _ (by refine ⟨?_, ?_⟩ <;> (repeat' first | exact fmn | refine fmc ⟨(by first | rfl | (simp (disch := omega) only [go_sem, simprocAttr, inL, hst]; first | done | omega | (congr 1; done))), ?_⟩); done), ?_⟩
     ·omega
     ·omega
    ·rw [if_neg (by rintro (h | h); omega; exact c h)] at hst
     repeat' first | refine pw_step rfl ?_ | refine pw_ret ?_ | refine wR ?_ | (refine wpG_split rfl rfl (fun hc => ?_) (fun hc => ?_) <;> try simp only [hcL] at hc) | (refine pw_cond _ rfl rfl (fun hc => ?_) (fun hc => ?_) <;> (try simp only [hcL] at hc) <;> try omega) | simp (disch := omega) only [go_sem, simprocAttr, hg, hv0, c] | apply And.intro | omega | decide +kernel
     refine ⟨v + 1, ?_, eL [] _ _ (by refine ⟨?_, ?_⟩ <;> (repeat' first | exact fmn | refine fmc ⟨(by first | rfl | (simp (disch := omega) only [go_sem, simprocAttr, inL, hst]; first | done | omega | (congr 1; done))), ?_⟩); done), ?_⟩
     ·omega
     ·omega
  ·have hv : v = y.length := by omega
   subst hv
   rw [hyl, hlow]
   repeat' first | refine pw_step rfl ?_ | refine pw_ret ?_ | refine wR ?_ | (refine rc (awake_spec) rfl ?_ ?_; (· first | rfl | simp (disch := omega) only [go_sem, simprocAttr, hyl])) | (refine wpG_split rfl rfl (fun hc => ?_) (fun hc => ?_) <;> try simp only [hcL] at hc) | (refine pw_cond _ rfl rfl (fun hc => ?_) (fun hc => ?_) <;> (try simp only [hcL] at hc) <;> try omega) | simp (disch := omega) only [go_sem, simprocAttr, hyl] | apply And.intro | omega | decide +kernel
   all_goals exact bool_some rfl
set_option maxHeartbeats 4000000 in
theorem lawStraight (a : Lv) (ws : List Int) (sep : Int) (hw : wide a) : CallsTo Try.prog 7 [lvD a, intsD ws, .int sep] (.bool true) := by
 have hsm := sml_spec a
 rcases hs : smlF a with _ | _
 ·rw [hs] at hsm
  refine callsTo_of Try.func7 rfl (by decide +kernel) (Nat.le_of_ble_eq_true rfl) ?_
  intro hat B X w0
  have h1 := at_len 1 hat rfl
  rw [List.length_map] at h1
  repeat' first | refine pw_step rfl ?_ | refine pw_ret ?_ | refine wR ?_ | (refine rc (hsm) rfl ?_ ?_; (· first | rfl | simp (disch := omega) only [go_sem, simprocAttr])) | (refine rc (awake_spec) rfl ?_ ?_; (· first | rfl | simp (disch := omega) only [go_sem, simprocAttr])) | (refine wpG_split rfl rfl (fun hc => ?_) (fun hc => ?_) <;> try simp only [hcL] at hc) | (refine pw_cond _ rfl rfl (fun hc => ?_) (fun hc => ?_) <;> (try simp only [hcL] at hc) <;> try omega) | simp (disch := omega) only [go_sem, simprocAttr] | apply And.intro | omega | decide +kernel
  all_goals exact bool_some rfl
 rw [hs] at hsm
 have hi := sml_in hs
 have hS : (∀ y, y ∈ a.2.1 → y.length = 1) → ∃ y : List Int, ∃ e : Int, y.length ≤ 1000 ∧ CallsTo Try.prog 18 [lvD a, intsD ws, .int sep] (.tup [intsD y, .int e]) ∧ ∀ v : Nat, v < y.length → y[v]? = some 0 := fun hone => by
  rcases h : validA a ws sep with _ | _
  ·exact ⟨[], 1, by simp, Solve_bad a ws sep hw h, fun v hv => by simp at hv⟩
  ·have hV := VA.of h
   obtain ⟨M, hM, hz⟩ := straight_zero hV hi.2.1 hone
   have hml : M.length = tot a.2.1 + a.2.2.1.length := hM.len
   refine ⟨firstA M (tot a.2.1), 0, by rw [firstA_len]; have := hV.tt; omega, Solve_ok a ws sep M hw hV (by omega) hM.calls (by omega) hM.bd, fun v hv => ?_⟩
   rw [at0_at hv, hz v (by rwa [firstA_len] at hv)]
 obtain ⟨n, ls, ar, cs⟩ := a
 dsimp only at hi hS
 refine callsTo_of Try.func7 rfl (by decide +kernel) (Nat.le_of_ble_eq_true rfl) ?_
 intro hat B X w0
 have h1 := at_len 1 hat rfl
 rw [List.length_map] at h1
 repeat' first | refine pw_step rfl ?_ | refine pw_ret ?_ | refine wR ?_ | (refine rc (hsm) rfl ?_ ?_; (· first | rfl | simp (disch := omega) only [go_sem, simprocAttr])) | (refine rc (awake_spec) rfl ?_ ?_; (· first | rfl | simp (disch := omega) only [go_sem, simprocAttr])) | (refine wpG_split rfl rfl (fun hc => ?_) (fun hc => ?_) <;> try simp only [hcL] at hc) | (refine pw_cond _ rfl rfl (fun hc => ?_) (fun hc => ?_) <;> (try simp only [hcL] at hc) <;> try omega) | simp (disch := omega) only [go_sem, simprocAttr] | apply And.intro | omega | decide +kernel
 all_goals try exact bool_some rfl
 refine pw_loopI (κ := Nat) (fun (i : Nat) => i ≤ ls.length ∧ ∀ (j : Nat) y, j < i → ls[j]? = some y → y.length = 1) (fun (i : Nat) => [(1, .d (intsD ws)), (2, .int sep), (3, .ptr 3 0 0 0), (7, .int i)]) (fun (i : Nat) => [(3, .cells [.int n, .d (listsD ls), .d (arcsD ar), .d (listsD cs)])]) (fun (i : Nat) => ls.length - i) 0 ?_ ?_ ?_
 ·exact ⟨Nat.zero_le _, fun j y h => by omega⟩
 ·exact eL [] _ _ (by refine ⟨?_, ?_⟩ <;> (repeat' first | exact fmn | refine fmc ⟨(by first | rfl | (simp (disch := omega) only [go_sem, simprocAttr, inL]; first | done | omega | (congr 1; done))), ?_⟩); done)
 ·rintro i ⟨hil, hinv⟩
  rcases Nat.lt_or_ge i ls.length with hlt | hge
  ·obtain ⟨y, hy⟩ := get_some hlt
   have hy40 := hi.2.2 y (List.mem_of_getElem? hy)
   by_cases c : y.length = 1
   ·have c' : (y.length : Int) = 1 := by omega
    repeat' first | refine pw_step rfl ?_ | refine pw_ret ?_ | refine wR ?_ | (refine wpG_split rfl rfl (fun hc => ?_) (fun hc => ?_) <;> try simp only [hcL] at hc) | (refine pw_cond _ rfl rfl (fun hc => ?_) (fun hc => ?_) <;> (try simp only [hcL] at hc) <;> try omega) | simp (disch := omega) only [go_sem, simprocAttr, hy, c'] | apply And.intro | omega | decide +kernel
    refine ⟨i + 1, ?_, eL [] _ _ (by refine ⟨?_, ?_⟩ <;> (repeat' first | exact fmn | refine fmc ⟨(by first | rfl | (simp (disch := omega) only [go_sem, simprocAttr, inL]; first | done | omega | (congr 1; done))), ?_⟩); done), ?_⟩
    ·exact ⟨by omega, upto_succ hinv hy c⟩
    ·omega
   ·have c' : ¬ (y.length : Int) = 1 := by omega
    repeat' first | refine pw_step rfl ?_ | refine pw_ret ?_ | refine wR ?_ | (refine rc (awake_spec) rfl ?_ ?_; (· first | rfl | simp (disch := omega) only [go_sem, simprocAttr, hy, c'])) | (refine wpG_split rfl rfl (fun hc => ?_) (fun hc => ?_) <;> try simp only [hcL] at hc) | (refine pw_cond _ rfl rfl (fun hc => ?_) (fun hc => ?_) <;> (try simp only [hcL] at hc) <;> try omega) | simp (disch := omega) only [go_sem, simprocAttr, hy, c'] | apply And.intro | omega | decide +kernel
    all_goals exact bool_some rfl
  ·have hi2 : i = ls.length := by omega
   subst hi2
   obtain ⟨y, e, hyl, s1, hz⟩ := hS fun y hy => by
    obtain ⟨j, hj⟩ := List.mem_iff_getElem?.1 hy
    exact hinv j y (List.getElem?_eq_some_iff.1 hj).1 hj
   repeat' first | refine pw_step rfl ?_ | refine pw_ret ?_ | refine wR ?_ | (refine rc (s1) rfl ?_ ?_; (· first | rfl | simp (disch := omega) only [go_sem, simprocAttr])) | (refine wpG_split rfl rfl (fun hc => ?_) (fun hc => ?_) <;> try simp only [hcL] at hc) | (refine pw_cond _ rfl rfl (fun hc => ?_) (fun hc => ?_) <;> (try simp only [hcL] at hc) <;> try omega) | simp (disch := omega) only [go_sem, simprocAttr] | apply And.intro | omega | decide +kernel
   refine pw_loopI (κ := Nat) (fun (v : Nat) => v ≤ y.length) (fun (v : Nat) => [(8, .d (intsD y)), (10, .int v)]) (fun (v : Nat) => []) (fun (v : Nat) => y.length - v) 0 ?_ ?_ ?_
   ·exact Nat.zero_le _
   ·exact eL [] _ _ (by refine ⟨?_, ?_⟩ <;> (repeat' first | exact fmn | refine fmc ⟨(by first | rfl | (simp (disch := omega) only [go_sem, simprocAttr, inL]; first | done | omega | (congr 1; done))), ?_⟩); done)
   ·intro v hv
    rcases Nat.lt_or_ge v y.length with hlt | hge
    ·have hg := hz v hlt
     repeat' first | refine pw_step rfl ?_ | refine pw_ret ?_ | refine wR ?_ | (refine wpG_split rfl rfl (fun hc => ?_) (fun hc => ?_) <;> try simp only [hcL] at hc) | (refine pw_cond _ rfl rfl (fun hc => ?_) (fun hc => ?_) <;> (try simp only [hcL] at hc) <;> try omega) | simp (disch := omega) only [go_sem, simprocAttr, hg] | apply And.intro | omega | decide +kernel
     refine ⟨v + 1, ?_, eL [] _ _ (by refine ⟨?_, ?_⟩ <;> (repeat' first | exact fmn | refine fmc ⟨(by first | rfl | (simp (disch := omega) only [go_sem, simprocAttr, inL]; first | done | omega | (congr 1; done))), ?_⟩); done), ?_⟩
     ·omega
     ·omega
    ·repeat' first | refine pw_step rfl ?_ | refine pw_ret ?_ | refine wR ?_ | (refine rc (awake_spec) rfl ?_ ?_; (· first | rfl | simp (disch := omega) only [go_sem, simprocAttr])) | (refine wpG_split rfl rfl (fun hc => ?_) (fun hc => ?_) <;> try simp only [hcL] at hc) | (refine pw_cond _ rfl rfl (fun hc => ?_) (fun hc => ?_) <;> (try simp only [hcL] at hc) <;> try omega) | simp (disch := omega) only [go_sem, simprocAttr] | apply And.intro | omega | decide +kernel
     all_goals exact bool_some rfl
end Go.Proofs.Ythbcmebhpabpnaa
namespace Go.Proofs.Ythbcmebhpabpnaa
open Go Go.PS Go.Proofs
set_option maxRecDepth 100000
theorem arg_co {x : D} (h : ArgOk Try.prog 39 x) : ∃ c : {a : Lv // wide a} × List Int × Int × List Int, x = coD c.1.1 c.2.1 c.2.2.1 c.2.2.2 := by
 obtain ⟨cs, h, rfl⟩ := h
 have h := cells_struct (ts := [25, 26, 3, 26]) (by kernel_rfl) h
 obtain ⟨_, _, rfl, h1, _, _, rfl, h2, _, _, rfl, h3, _, _, rfl, h4, rfl⟩ := h
 have h1 := cells_struct (ts := [3, 22, 23, 22]) (by kernel_rfl) h1
 obtain ⟨_, _, rfl, g1, _, _, rfl, g2, _, _, rfl, g3, _, _, rfl, g4, rfl⟩ := h1
 obtain ⟨a, rfl⟩ := cells_int g1
 obtain ⟨b, rfl, hb⟩ := cells_lists g2
 obtain ⟨c, rfl⟩ := cells_arcs g3
 obtain ⟨d, rfl, _⟩ := cells_lists g4
 obtain ⟨ws, rfl, _⟩ := cells_ints h2
 obtain ⟨sep, rfl⟩ := cells_int h3
 obtain ⟨xs, rfl, _⟩ := cells_ints h4
 rw [ty39]
 exact ⟨(⟨(a, b, c, d), hb⟩, ws, sep, xs), rfl⟩
theorem netsL (a : {a : Lv // wide a}) (ws : List Int) (sep : Int) : CallsTo Try.prog 3 [lvD a.1, intsD ws, .int sep] (.bool true) := lawNets a.1 ws sep a.2
theorem checksL (c : {a : Lv // wide a} × List Int × Int × List Int) : CallsTo Try.prog 4 [coD c.1.1 c.2.1 c.2.2.1 c.2.2.2] (.bool true) := lawChecks _ _ _ _ c.1.2
theorem solvesL (a : {a : Lv // wide a}) (ws : List Int) (sep : Int) : CallsTo Try.prog 5 [lvD a.1, intsD ws, .int sep] (.bool true) := lawSolves a.1 ws sep a.2
theorem leastL (c : {a : Lv // wide a} × List Int × Int × List Int) : CallsTo Try.prog 6 [coD c.1.1 c.2.1 c.2.2.1 c.2.2.2] (.bool true) := lawLeast _ _ _ _ c.1.2
theorem straightL (a : {a : Lv // wide a}) (ws : List Int) (sep : Int) : CallsTo Try.prog 7 [lvD a.1, intsD ws, .int sep] (.bool true) := lawStraight a.1 ws sep a.2
end Go.Proofs.Ythbcmebhpabpnaa
