/- Coordinates, their cost and their check. -/
import Derived.Test.YthbcmebhpabpnaaSxZc
import Derived.Test.YthbcmebhpabpnaaPSCode
set_option linter.unusedSimpArgs false
set_option linter.unusedVariables false
namespace Go.Proofs.Ythbcmebhpabpnaa
open Go Go.PS Go.Proofs
open Sx (Bd ite_min ite_max)
set_option maxRecDepth 100000
attribute [local irreducible] wpRun wpG CallsTo CallsM

def inX (n : Int) : Bool := decide (-34359738368 ≤ n ∧ n ≤ 34359738368)
def fitsF (a : Lv) (x : List Int) : Bool := decide (x.length = tot a.2.1) && !x.any fun n => !inX n
theorem fits_spec (a : Lv) (x : List Int) (h : tot a.2.1 ≤ 1000000) : CallsTo Try.prog 31 [lvD a, intsD x] (.bool (fitsF a x)) := by
 have hv := vertices_spec a h
 by_cases hl : x.length = tot a.2.1
 ·have e : fitsF a x = !x.any fun n => !inX n := by simp [fitsF, hl]
  rw [e]
  have hl' : (x.length : Int) = tot a.2.1 := by omega
  refine callsTo_of Try.func31 rfl (by decide +kernel) (Nat.le_of_ble_eq_true rfl) ?_
  intro hat B X w0
  repeat' first | refine pw_step rfl ?_ | refine pw_ret ?_ | refine wR ?_ | (refine rc (hv) rfl ?_ ?_; (· first | rfl | simp (disch := omega) only [go_sem, simprocAttr, hl'])) | (refine wpG_split rfl rfl (fun hc => ?_) (fun hc => ?_) <;> try simp only [hcL] at hc) | (refine pw_cond _ rfl rfl (fun hc => ?_) (fun hc => ?_) <;> (try simp only [hcL] at hc) <;> try omega) | simp (disch := omega) only [go_sem, simprocAttr, hl'] | apply And.intro | omega | decide +kernel
  refine pw_loopI (κ := Nat) (fun (k : Nat) => k ≤ x.length ∧ ∀ (j : Nat) y, j < k → x[j]? = some y → (!inX y) = false) (fun (k : Nat) => [(12, .d (intsD x)), (13, .int x.length), (14, .int k)]) (fun (k : Nat) => []) (fun (k : Nat) => x.length - k) 0 ?_ ?_ ?_
  ·exact ⟨Nat.zero_le _, fun j y h => by omega⟩
  ·exact eL [] _ _ (by refine ⟨?_, ?_⟩ <;> (repeat' first | exact fmn | refine fmc ⟨(by first | rfl | (simp (disch := omega) only [go_sem, simprocAttr, inL, hl']; first | done | omega | (congr 1; done))), ?_⟩); done)
  ·rintro k ⟨hk, hinv⟩
   rcases Nat.lt_or_ge k x.length with hlt | hge
   ·obtain ⟨y, hy⟩ := get_some hlt
    repeat' first | refine pw_step rfl ?_ | refine pw_ret ?_ | refine wR ?_ | (refine wpG_split rfl rfl (fun hc => ?_) (fun hc => ?_) <;> try simp only [hcL] at hc) | (refine pw_cond _ rfl rfl (fun hc => ?_) (fun hc => ?_) <;> (try simp only [hcL] at hc) <;> try omega) | simp (disch := omega) only [go_sem, simprocAttr, hy] | apply And.intro | omega | decide +kernel
    all_goals try
     refine bool_some ?_
     rw [any_at hy (by simp [inX]; omega)]; rfl
    refine ⟨k + 1, ?_, eL [] _ _ (by refine ⟨?_, ?_⟩ <;> (repeat' first | exact fmn | refine fmc ⟨(by first | rfl | (simp (disch := omega) only [go_sem, simprocAttr, inL]; first | done | omega | (congr 1; done))), ?_⟩); done), ?_⟩
    ·exact ⟨by omega, upto_succ hinv hy (by simp [inX]; omega)⟩
    ·omega
   ·repeat' first | refine pw_step rfl ?_ | refine pw_ret ?_ | refine wR ?_ | (refine wpG_split rfl rfl (fun hc => ?_) (fun hc => ?_) <;> try simp only [hcL] at hc) | (refine pw_cond _ rfl rfl (fun hc => ?_) (fun hc => ?_) <;> (try simp only [hcL] at hc) <;> try omega) | simp (disch := omega) only [go_sem, simprocAttr] | apply And.intro | omega | decide +kernel
    refine bool_some ?_
    rw [any_no (fun j y hj => hinv j y (by omega))]; rfl
 ·have hl' : ¬ (x.length : Int) = tot a.2.1 := by omega
  refine callsTo_of Try.func31 rfl (by decide +kernel) (Nat.le_of_ble_eq_true rfl) ?_
  intro hat B X w0
  have h1 := at_len 1 hat rfl
  rw [List.length_map] at h1
  repeat' first | refine pw_step rfl ?_ | refine pw_ret ?_ | refine wR ?_ | (refine rc (hv) rfl ?_ ?_; (· first | rfl | simp (disch := omega) only [go_sem, simprocAttr, hl'])) | (refine wpG_split rfl rfl (fun hc => ?_) (fun hc => ?_) <;> try simp only [hcL] at hc) | (refine pw_cond _ rfl rfl (fun hc => ?_) (fun hc => ?_) <;> (try simp only [hcL] at hc) <;> try omega) | simp (disch := omega) only [go_sem, simprocAttr, hl'] | apply And.intro | omega | decide +kernel
  refine bool_some ?_
  simp [fitsF, hl]
theorem rfits_spec (a : Lv) (x : List Int) (h : tot a.2.1 ≤ 1000000) : CallsTo Try.prog 33 [lvD a, intsD x] (.bool (fitsF a x)) := by
 have hv := rvertices_spec a h
 by_cases hl : x.length = tot a.2.1
 ·have e : fitsF a x = !x.any fun n => !inX n := by simp [fitsF, hl]
  rw [e]
  have hl' : (x.length : Int) = tot a.2.1 := by omega
  refine callsTo_of Try.func33 rfl (by decide +kernel) (Nat.le_of_ble_eq_true rfl) ?_
  intro hat B X w0
  repeat' first | refine pw_step rfl ?_ | refine pw_ret ?_ | refine wR ?_ | (refine rc (hv) rfl ?_ ?_; (· first | rfl | simp (disch := omega) only [go_sem, simprocAttr, hl'])) | (refine wpG_split rfl rfl (fun hc => ?_) (fun hc => ?_) <;> try simp only [hcL] at hc) | (refine pw_cond _ rfl rfl (fun hc => ?_) (fun hc => ?_) <;> (try simp only [hcL] at hc) <;> try omega) | simp (disch := omega) only [go_sem, simprocAttr, hl'] | apply And.intro | omega | decide +kernel
  refine pw_loopI (κ := Nat) (fun (k : Nat) => k ≤ x.length ∧ ∀ (j : Nat) y, j < k → x[j]? = some y → (!inX y) = false) (fun (k : Nat) => [(1, .d (intsD x)), (5, .int k)]) (fun (k : Nat) => []) (fun (k : Nat) => x.length - k) 0 ?_ ?_ ?_
  ·exact ⟨Nat.zero_le _, fun j y h => by omega⟩
  ·exact eL [] _ _ (by refine ⟨?_, ?_⟩ <;> (repeat' first | exact fmn | refine fmc ⟨(by first | rfl | (simp (disch := omega) only [go_sem, simprocAttr, inL]; first | done | omega | (congr 1; done))), ?_⟩); done)
  ·rintro k ⟨hk, hinv⟩
   rcases Nat.lt_or_ge k x.length with hlt | hge
   ·obtain ⟨y, hy⟩ := get_some hlt
    repeat' first | refine pw_step rfl ?_ | refine pw_ret ?_ | refine wR ?_ | (refine wpG_split rfl rfl (fun hc => ?_) (fun hc => ?_) <;> try simp only [hcL] at hc) | (refine pw_cond _ rfl rfl (fun hc => ?_) (fun hc => ?_) <;> (try simp only [hcL] at hc) <;> try omega) | simp (disch := omega) only [go_sem, simprocAttr, hy] | apply And.intro | omega | decide +kernel
    all_goals try
     refine bool_some ?_
     rw [any_at hy (by simp [inX]; omega)]; rfl
    refine ⟨k + 1, ?_, eL [] _ _ (by refine ⟨?_, ?_⟩ <;> (repeat' first | exact fmn | refine fmc ⟨(by first | rfl | (simp (disch := omega) only [go_sem, simprocAttr, inL]; first | done | omega | (congr 1; done))), ?_⟩); done), ?_⟩
    ·exact ⟨by omega, upto_succ hinv hy (by simp [inX]; omega)⟩
    ·omega
   ·repeat' first | refine pw_step rfl ?_ | refine pw_ret ?_ | refine wR ?_ | (refine wpG_split rfl rfl (fun hc => ?_) (fun hc => ?_) <;> try simp only [hcL] at hc) | (refine pw_cond _ rfl rfl (fun hc => ?_) (fun hc => ?_) <;> (try simp only [hcL] at hc) <;> try omega) | simp (disch := omega) only [go_sem, simprocAttr] | apply And.intro | omega | decide +kernel
    refine bool_some ?_
    rw [any_no (fun j y hj => hinv j y (by omega))]; rfl
 ·have hl' : ¬ (x.length : Int) = tot a.2.1 := by omega
  refine callsTo_of Try.func33 rfl (by decide +kernel) (Nat.le_of_ble_eq_true rfl) ?_
  intro hat B X w0
  have h1 := at_len 1 hat rfl
  rw [List.length_map] at h1
  repeat' first | refine pw_step rfl ?_ | refine pw_ret ?_ | refine wR ?_ | (refine rc (hv) rfl ?_ ?_; (· first | rfl | simp (disch := omega) only [go_sem, simprocAttr, hl'])) | (refine wpG_split rfl rfl (fun hc => ?_) (fun hc => ?_) <;> try simp only [hcL] at hc) | (refine pw_cond _ rfl rfl (fun hc => ?_) (fun hc => ?_) <;> (try simp only [hcL] at hc) <;> try omega) | simp (disch := omega) only [go_sem, simprocAttr, hl'] | apply And.intro | omega | decide +kernel
  refine bool_some ?_
  simp [fitsF, hl]
structure Fits (a : Lv) (x : List Int) : Prop where
 len : x.length = tot a.2.1
 at' : ∀ v : Int, 0 ≤ v → v < tot a.2.1 → x[v.toNat]? = some (at0 x v) ∧ -34359738368 ≤ at0 x v ∧ at0 x v ≤ 34359738368
theorem Fits.of {a : Lv} {x : List Int} (h : fitsF a x = true) : Fits a x := by
 simp only [fitsF, Bool.and_eq_true, decide_eq_true_eq, Bool.not_eq_true'] at h
 refine ⟨h.1, fun v h0 h1 => ?_⟩
 have hg := at0_get (r := x) h0 (by omega)
 have := List.any_eq_false.1 h.2 _ (List.mem_of_getElem? hg)
 simp only [inX, Bool.not_eq_true', Bool.not_eq_false', decide_eq_true_eq, Bool.not_eq_false] at this
 exact ⟨hg, this⟩
def absI (d : Int) : Int := max d (-d)
def costT (a : Lv) (x : List Int) (e : Arc) : Int := wgtF a.1 e * absI (at0 x e.1 - at0 x e.2)
def costS (a : Lv) (x : List Int) : Nat → Int
 | 0 => 0
 | k + 1 => costS a x k + match a.2.2.1[k]? with | some e => costT a x e | none => 0
def costA (a : Lv) (x : List Int) : Int := if validF a && fitsF a x then costS a x a.2.2.1.length else 0
theorem wgt_in (n : Int) (e : Arc) : 1 ≤ wgtF n e ∧ wgtF n e ≤ 8 := by
 rw [wgtF]; repeat' split
 all_goals omega
theorem costT_in {a : Lv} {x : List Int} (hv : validF a = true) (hf : Fits a x) {e : Arc} (he : e ∈ a.2.2.1) : 0 ≤ costT a x e ∧ costT a x e ≤ 549755813888 := by
 have h1 := valid_arcs hv e he
 have h2 := hf.at' e.1 h1.1.1 h1.1.2
 have h3 := hf.at' e.2 h1.2.1 h1.2.2
 have h4 := wgt_in a.1 e
 have h5 : 0 ≤ absI (at0 x e.1 - at0 x e.2) ∧ absI (at0 x e.1 - at0 x e.2) ≤ 68719476736 := by rw [absI]; omega
 rw [costT]
 refine ⟨Int.mul_nonneg (by omega) h5.1, ?_⟩
 have h6 : wgtF a.1 e * absI (at0 x e.1 - at0 x e.2) ≤ 8 * absI (at0 x e.1 - at0 x e.2) := Int.mul_le_mul_of_nonneg_right h4.2 h5.1
 omega
theorem costS_in {a : Lv} {x : List Int} (hv : validF a = true) (hf : Fits a x) : ∀ k, k ≤ a.2.2.1.length → 0 ≤ costS a x k ∧ costS a x k ≤ 549755813888 * k
 | 0, _ => by simp [costS]
 | k + 1, hk => by
  obtain ⟨e, he⟩ := get_some (show k < a.2.2.1.length by omega)
  have h1 := costS_in hv hf k (by omega)
  have h2 := costT_in hv hf (List.mem_of_getElem? he)
  rw [costS, he]
  dsimp only
  omega
theorem Cost_bad (a : Lv) (x : List Int) (hw : wide a) (h : (validF a && fitsF a x) = false) : CallsTo Try.prog 14 [lvD a, intsD x] (.int 0) := by
 have hv := LvValid_spec a hw
 rcases hva : validF a with _ | _
 ·rw [hva] at hv
  refine callsTo_of Try.func14 rfl (by decide +kernel) (Nat.le_of_ble_eq_true rfl) ?_
  intro hat B X w0
  repeat' first | refine pw_step rfl ?_ | refine pw_ret ?_ | refine wR ?_ | (refine rc (hv) rfl ?_ ?_; (· first | rfl | simp (disch := omega) only [go_sem, simprocAttr])) | (refine wpG_split rfl rfl (fun hc => ?_) (fun hc => ?_) <;> try simp only [hcL] at hc) | (refine pw_cond _ rfl rfl (fun hc => ?_) (fun hc => ?_) <;> (try simp only [hcL] at hc) <;> try omega) | simp (disch := omega) only [go_sem, simprocAttr] | apply And.intro | omega | decide +kernel
  exact rfl
 ·rw [hva] at hv h
  have hf := fits_spec a x (by have := (valid_vert hva).2.1; omega)
  rw [Bool.true_and] at h
  rw [h] at hf
  refine callsTo_of Try.func14 rfl (by decide +kernel) (Nat.le_of_ble_eq_true rfl) ?_
  intro hat B X w0
  repeat' first | refine pw_step rfl ?_ | refine pw_ret ?_ | refine wR ?_ | (refine rc (hv) rfl ?_ ?_; (· first | rfl | simp (disch := omega) only [go_sem, simprocAttr])) | (refine rc (hf) rfl ?_ ?_; (· first | rfl | simp (disch := omega) only [go_sem, simprocAttr])) | (refine wpG_split rfl rfl (fun hc => ?_) (fun hc => ?_) <;> try simp only [hcL] at hc) | (refine pw_cond _ rfl rfl (fun hc => ?_) (fun hc => ?_) <;> (try simp only [hcL] at hc) <;> try omega) | simp (disch := omega) only [go_sem, simprocAttr] | apply And.intro | omega | decide +kernel
  exact rfl
theorem rCost_bad (a : Lv) (x : List Int) (hw : wide a) (h : (validF a && fitsF a x) = false) : CallsTo Try.prog 15 [lvD a, intsD x] (.int 0) := by
 have hv := rLvValid_spec a hw
 rw [← valid_same] at hv
 rcases hva : validF a with _ | _
 ·rw [hva] at hv
  refine callsTo_of Try.func15 rfl (by decide +kernel) (Nat.le_of_ble_eq_true rfl) ?_
  intro hat B X w0
  repeat' first | refine pw_step rfl ?_ | refine pw_ret ?_ | refine wR ?_ | (refine rc (hv) rfl ?_ ?_; (· first | rfl | simp (disch := omega) only [go_sem, simprocAttr])) | (refine wpG_split rfl rfl (fun hc => ?_) (fun hc => ?_) <;> try simp only [hcL] at hc) | (refine pw_cond _ rfl rfl (fun hc => ?_) (fun hc => ?_) <;> (try simp only [hcL] at hc) <;> try omega) | simp (disch := omega) only [go_sem, simprocAttr] | apply And.intro | omega | decide +kernel
  exact rfl
 ·rw [hva] at hv h
  have hf := rfits_spec a x (by have := (valid_vert hva).2.1; omega)
  rw [Bool.true_and] at h
  rw [h] at hf
  refine callsTo_of Try.func15 rfl (by decide +kernel) (Nat.le_of_ble_eq_true rfl) ?_
  intro hat B X w0
  repeat' first | refine pw_step rfl ?_ | refine pw_ret ?_ | refine wR ?_ | (refine rc (hv) rfl ?_ ?_; (· first | rfl | simp (disch := omega) only [go_sem, simprocAttr])) | (refine rc (hf) rfl ?_ ?_; (· first | rfl | simp (disch := omega) only [go_sem, simprocAttr])) | (refine wpG_split rfl rfl (fun hc => ?_) (fun hc => ?_) <;> try simp only [hcL] at hc) | (refine pw_cond _ rfl rfl (fun hc => ?_) (fun hc => ?_) <;> (try simp only [hcL] at hc) <;> try omega) | simp (disch := omega) only [go_sem, simprocAttr] | apply And.intro | omega | decide +kernel
  exact rfl
set_option maxHeartbeats 4000000 in
theorem Cost_ok (a : Lv) (x : List Int) (hw : wide a) (hva : validF a = true) (hfa : fitsF a x = true) (hal : a.2.2.1.length ≤ 1000) : CallsTo Try.prog 14 [lvD a, intsD x] (.int (costS a x a.2.2.1.length)) := by
 have hv := LvValid_spec a hw
 rw [hva] at hv
 have hf := fits_spec a x (by have := (valid_vert hva).2.1; omega)
 rw [hfa] at hf
 have hF := Fits.of hfa
 have hat' := hF.at'
 have hxl := hF.len
 have hwt := weight_spec a
 have hin := costS_in hva hF
 have hti := fun e he => costT_in hva hF (e := e) he
 have harc := valid_arcs hva
 have hcs : ∀ (k : Nat) e, a.2.2.1[k]? = some e → costS a x (k + 1) = costS a x k + costT a x e := fun k e he => by rw [costS, he]
 have hct : ∀ e, costT a x e = wgtF a.1 e * absI (at0 x e.1 - at0 x e.2) := fun e => rfl
 have hcz : costS a x 0 = 0 := rfl
 revert hin hti hcs hct hcz
 generalize costS a x = S
 generalize costT a x = T
 intro hin hti hcs hct hcz
 have htt := (valid_vert hva).2.1
 obtain ⟨n, ls, ar, cs⟩ := a
 dsimp only at hat' hxl hwt hin hti harc hcs hct hal htt ⊢
 refine callsTo_of Try.func14 rfl (by decide +kernel) (Nat.le_of_ble_eq_true rfl) ?_
 intro hat B X w0
 repeat' first | refine pw_step rfl ?_ | refine pw_ret ?_ | refine wR ?_ | (refine rc (hv) rfl ?_ ?_; (· first | rfl | simp (disch := omega) only [go_sem, simprocAttr])) | (refine rc (hf) rfl ?_ ?_; (· first | rfl | simp (disch := omega) only [go_sem, simprocAttr])) | (refine wpG_split rfl rfl (fun hc => ?_) (fun hc => ?_) <;> try simp only [hcL] at hc) | (refine pw_cond _ rfl rfl (fun hc => ?_) (fun hc => ?_) <;> (try simp only [hcL] at hc) <;> try omega) | simp (disch := omega) only [go_sem, simprocAttr] | apply And.intro | omega | decide +kernel
 refine pw_loopI (κ := Nat) (fun (k : Nat) => k ≤ ar.length) (fun (k : Nat) => [(1, .d (intsD x)), (2, .ptr 2 0 0 0), (5, .int (S k)), (19, .d (arcsD ar)), (20, .int ar.length), (21, .int k)]) (fun (k : Nat) => [(2, .cells [.int n, .d (listsD ls), .d (arcsD ar), .d (listsD cs)])]) (fun (k : Nat) => ar.length - k) 0 ?_ ?_ ?_
 ·exact Nat.zero_le _
 ·exact eL [] _ _ (by refine ⟨?_, ?_⟩ <;> (repeat' first | exact fmn | refine fmc ⟨(by first | rfl | (simp (disch := omega) only [go_sem, simprocAttr, inL, hcz]; first | done | omega | (congr 1; done))), ?_⟩); done)
 ·intro k hk
  have hsk := hin k hk
  rcases Nat.lt_or_ge k ar.length with hlt | hge
  ·obtain ⟨⟨p, q⟩, he⟩ := get_some hlt
   have hm := List.mem_of_getElem? he
   have ha := harc _ hm
   dsimp only at ha
   obtain ⟨p, rfl⟩ : ∃ p' : Nat, p = p' := ⟨p.toNat, by omega⟩
   obtain ⟨q, rfl⟩ : ∃ q' : Nat, q = q' := ⟨q.toNat, by omega⟩
   have g1 := hat' p ha.1.1 ha.1.2
   have g2 := hat' q ha.2.1 ha.2.2
   rw [Int.toNat_natCast] at g1 g2
   obtain ⟨g1, b1⟩ := g1
   obtain ⟨g2, b2⟩ := g2
   have hw1 := hwt ((p : Int), (q : Int))
   have hs := hcs k _ he
   have ht := hti _ hm
   have hc2 := hct ((p : Int), (q : Int))
   have hwi := wgt_in n ((p : Int), (q : Int))
   have hs2 := hin (k + 1) hlt
   revert hw1 hs ht hc2 hwi g1 g2 b1 b2
   dsimp only
   generalize wgtF n ((p : Int), (q : Int)) = wg
   generalize T ((p : Int), (q : Int)) = tv
   generalize at0 x (p : Int) = xp
   generalize at0 x (q : Int) = xq
   intro g1 b1 g2 b2 hw1 hs ht hc2 hwi
   have hneg : (if xp - xq < -(xp - xq) then -(xp - xq) else xp - xq) = absI (xp - xq) := by rw [absI]; omega
   have hc3 : wg * absI (xp - xq) = tv := hc2.symm
   repeat' first | refine pw_step rfl ?_ | refine pw_ret ?_ | refine wR ?_ | (refine rc (hw1) rfl ?_ ?_; (· first | rfl | simp (disch := omega) only [go_sem, simprocAttr, he, g1, g2, hneg, hc3])) | (refine wpG_split rfl rfl (fun hc => ?_) (fun hc => ?_) <;> try simp only [hcL] at hc) | (refine pw_cond _ rfl rfl (fun hc => ?_) (fun hc => ?_) <;> (try simp only [hcL] at hc) <;> try omega) | simp (disch := omega) only [go_sem, simprocAttr, he, g1, g2, hneg, hc3] | apply And.intro | omega | decide +kernel
   refine ⟨k + 1, ?_, eL [] _ _ (by refine ⟨?_, ?_⟩ <;> (repeat' first | exact fmn | refine fmc ⟨(by first | rfl | (simp (disch := omega) only [go_sem, simprocAttr, inL, hs]; first | done | omega | (congr 1; done))), ?_⟩); done), ?_⟩
   ·omega
   ·omega
  ·have hk : k = ar.length := by omega
   subst hk
   repeat' first | refine pw_step rfl ?_ | refine pw_ret ?_ | refine wR ?_ | (refine wpG_split rfl rfl (fun hc => ?_) (fun hc => ?_) <;> try simp only [hcL] at hc) | (refine pw_cond _ rfl rfl (fun hc => ?_) (fun hc => ?_) <;> (try simp only [hcL] at hc) <;> try omega) | simp (disch := omega) only [go_sem, simprocAttr] | apply And.intro | omega | decide +kernel
   exact rfl
set_option maxHeartbeats 4000000 in
theorem rCost_ok (a : Lv) (x : List Int) (hw : wide a) (hva : validF a = true) (hfa : fitsF a x = true) (hal : a.2.2.1.length ≤ 1000) : CallsTo Try.prog 15 [lvD a, intsD x] (.int (costS a x a.2.2.1.length)) := by
 have hv := rLvValid_spec a hw
 rw [← valid_same, hva] at hv
 have hf := rfits_spec a x (by have := (valid_vert hva).2.1; omega)
 rw [hfa] at hf
 have hF := Fits.of hfa
 have hat' := hF.at'
 have hxl := hF.len
 have hwt := rweight_spec a
 have hin := costS_in hva hF
 have hti := fun e he => costT_in hva hF (e := e) he
 have harc := valid_arcs hva
 have hcs : ∀ (k : Nat) e, a.2.2.1[k]? = some e → costS a x (k + 1) = costS a x k + costT a x e := fun k e he => by rw [costS, he]
 have hct : ∀ e, costT a x e = wgtF a.1 e * absI (at0 x e.1 - at0 x e.2) := fun e => rfl
 have hcz : costS a x 0 = 0 := rfl
 revert hin hti hcs hct hcz
 generalize costS a x = S
 generalize costT a x = T
 intro hin hti hcs hct hcz
 have htt := (valid_vert hva).2.1
 obtain ⟨n, ls, ar, cs⟩ := a
 dsimp only at hat' hxl hwt hin hti harc hcs hct hal htt ⊢
 refine callsTo_of Try.func15 rfl (by decide +kernel) (Nat.le_of_ble_eq_true rfl) ?_
 intro hat B X w0
 repeat' first | refine pw_step rfl ?_ | refine pw_ret ?_ | refine wR ?_ | (refine rc (hv) rfl ?_ ?_; (· first | rfl | simp (disch := omega) only [go_sem, simprocAttr])) | (refine rc (hf) rfl ?_ ?_; (· first | rfl | simp (disch := omega) only [go_sem, simprocAttr])) | (refine wpG_split rfl rfl (fun hc => ?_) (fun hc => ?_) <;> try simp only [hcL] at hc) | (refine pw_cond _ rfl rfl (fun hc => ?_) (fun hc => ?_) <;> (try simp only [hcL] at hc) <;> try omega) | simp (disch := omega) only [go_sem, simprocAttr] | apply And.intro | omega | decide +kernel
 refine pw_loopI (κ := Nat) (fun (k : Nat) => k ≤ ar.length) (fun (k : Nat) => [(1, .d (intsD x)), (2, .ptr 2 0 0 0), (5, .int (S k)), (6, .int k)]) (fun (k : Nat) => [(2, .cells [.int n, .d (listsD ls), .d (arcsD ar), .d (listsD cs)])]) (fun (k : Nat) => ar.length - k) 0 ?_ ?_ ?_
 ·exact Nat.zero_le _
 ·exact eL [] _ _ (by refine ⟨?_, ?_⟩ <;> (repeat' first | exact fmn | refine fmc ⟨(by first | rfl | (simp (disch := omega) only [go_sem, simprocAttr, inL, hcz]; first | done | omega | (congr 1; done))), ?_⟩); done)
 ·intro k hk
  have hsk := hin k hk
  rcases Nat.lt_or_ge k ar.length with hlt | hge
  ·obtain ⟨⟨p, q⟩, he⟩ := get_some hlt
   have hm := List.mem_of_getElem? he
   have ha := harc _ hm
   dsimp only at ha
   obtain ⟨p, rfl⟩ : ∃ p' : Nat, p = p' := ⟨p.toNat, by omega⟩
   obtain ⟨q, rfl⟩ : ∃ q' : Nat, q = q' := ⟨q.toNat, by omega⟩
   have g1 := hat' p ha.1.1 ha.1.2
   have g2 := hat' q ha.2.1 ha.2.2
   rw [Int.toNat_natCast] at g1 g2
   obtain ⟨g1, b1⟩ := g1
   obtain ⟨g2, b2⟩ := g2
   have hw1 := hwt ((p : Int), (q : Int))
   have hs := hcs k _ he
   have ht := hti _ hm
   have hc2 := hct ((p : Int), (q : Int))
   have hwi := wgt_in n ((p : Int), (q : Int))
   have hs2 := hin (k + 1) hlt
   revert hw1 hs ht hc2 hwi g1 g2 b1 b2
   dsimp only
   generalize wgtF n ((p : Int), (q : Int)) = wg
   generalize T ((p : Int), (q : Int)) = tv
   generalize at0 x (p : Int) = xp
   generalize at0 x (q : Int) = xq
   intro g1 b1 g2 b2 hw1 hs ht hc2 hwi
   have hneg : (if xp < xq then xq else xp) - (if xq < xp then xq else xp) = absI (xp - xq) := by rw [absI]; omega
   have hc3 : wg * absI (xp - xq) = tv := hc2.symm
   repeat' first | refine pw_step rfl ?_ | refine pw_ret ?_ | refine wR ?_ | (refine rc (hw1) rfl ?_ ?_; (· first | rfl | simp (disch := omega) only [go_sem, simprocAttr, he, g1, g2, hneg, hc3])) | (refine wpG_split rfl rfl (fun hc => ?_) (fun hc => ?_) <;> try simp only [hcL] at hc) | (refine pw_cond _ rfl rfl (fun hc => ?_) (fun hc => ?_) <;> (try simp only [hcL] at hc) <;> try omega) | simp (disch := omega) only [go_sem, simprocAttr, he, g1, g2, hneg, hc3] | apply And.intro | omega | decide +kernel
   refine ⟨k + 1, ?_, eL [] _ _ (by refine ⟨?_, ?_⟩ <;> (repeat' first | exact fmn | refine fmc ⟨(by first | rfl | (simp (disch := omega) only [go_sem, simprocAttr, inL, hs]; first | done | omega | (congr 1; done))), ?_⟩); done), ?_⟩
   ·omega
   ·omega
  ·have hk : k = ar.length := by omega
   subst hk
   repeat' first | refine pw_step rfl ?_ | refine pw_ret ?_ | refine wR ?_ | (refine wpG_split rfl rfl (fun hc => ?_) (fun hc => ?_) <;> try simp only [hcL] at hc) | (refine pw_cond _ rfl rfl (fun hc => ?_) (fun hc => ?_) <;> (try simp only [hcL] at hc) <;> try omega) | simp (disch := omega) only [go_sem, simprocAttr] | apply And.intro | omega | decide +kernel
   exact rfl
end Go.Proofs.Ythbcmebhpabpnaa
namespace Go.Proofs.Ythbcmebhpabpnaa
open Go Go.PS Go.Proofs
open Sx (Bd ite_min ite_max)
set_option maxRecDepth 100000
attribute [local irreducible] wpRun wpG CallsTo CallsM

def badQ (x : List Int) (q : Bd) : Bool := decide (at0 x q.2.1 - at0 x q.1 < q.2.2.1)
def checkA (a : Lv) (ws : List Int) (sep : Int) (x : List Int) : Int := if validA a ws sep then (if fitsF a x then (if (allP ws sep a.2.1 a.2.1.length).any (badQ x) then 14 else 0) else 3) else 1
theorem allP_in {a : Lv} {ws : List Int} {sep : Int} (h : VA a ws sep) (k : Nat) : ∀ q, q ∈ allP ws sep a.2.1 k → (0 ≤ q.1 ∧ q.1 < tot a.2.1) ∧ (0 ≤ q.2.1 ∧ q.2.1 < tot a.2.1) ∧ 0 ≤ q.2.2.1 ∧ q.2.2.1 ≤ 2097153 := by
 intro q hq
 obtain ⟨i, _, hq⟩ := mem_catL.1 hq
 rw [prL] at hq
 split at hq
 ·rename_i x hx
  obtain ⟨j, hj, rfl⟩ := List.mem_map.1 hq
  have hj := List.mem_range.1 hj
  have g1 := at0_at (r := x) (i := j) (by omega)
  have g2 := at0_at (r := x) (i := j + 1) (by omega)
  have hm := List.mem_of_getElem? hx
  exact ⟨h.vert x hm _ (List.mem_of_getElem? g1), h.vert x hm _ (List.mem_of_getElem? g2), ap_in h _ _⟩
 ·simp at hq
theorem Check_bad (a : Lv) (ws : List Int) (sep : Int) (x : List Int) (hw : wide a) (h : validA a ws sep = false) : CallsTo Try.prog 16 [lvD a, intsD ws, .int sep, intsD x] (.int 1) := by
 have hv := valid_spec a ws sep hw
 rw [h] at hv
 refine callsTo_of Try.func16 rfl (by decide +kernel) (Nat.le_of_ble_eq_true rfl) ?_
 intro hat B X w0
 repeat' first | refine pw_step rfl ?_ | refine pw_ret ?_ | refine wR ?_ | (refine rc (hv) rfl ?_ ?_; (· first | rfl | simp (disch := omega) only [go_sem, simprocAttr])) | (refine wpG_split rfl rfl (fun hc => ?_) (fun hc => ?_) <;> try simp only [hcL] at hc) | (refine pw_cond _ rfl rfl (fun hc => ?_) (fun hc => ?_) <;> (try simp only [hcL] at hc) <;> try omega) | simp (disch := omega) only [go_sem, simprocAttr] | apply And.intro | omega | decide +kernel
 exact rfl
theorem rCheck_bad (a : Lv) (ws : List Int) (sep : Int) (x : List Int) (hw : wide a) (h : validA a ws sep = false) : CallsTo Try.prog 17 [lvD a, intsD ws, .int sep, intsD x] (.int 1) := by
 have hv := rvalid_spec a ws sep hw
 rw [h] at hv
 refine callsTo_of Try.func17 rfl (by decide +kernel) (Nat.le_of_ble_eq_true rfl) ?_
 intro hat B X w0
 repeat' first | refine pw_step rfl ?_ | refine pw_ret ?_ | refine wR ?_ | (refine rc (hv) rfl ?_ ?_; (· first | rfl | simp (disch := omega) only [go_sem, simprocAttr])) | (refine wpG_split rfl rfl (fun hc => ?_) (fun hc => ?_) <;> try simp only [hcL] at hc) | (refine pw_cond _ rfl rfl (fun hc => ?_) (fun hc => ?_) <;> (try simp only [hcL] at hc) <;> try omega) | simp (disch := omega) only [go_sem, simprocAttr] | apply And.intro | omega | decide +kernel
 exact rfl
theorem Check_unfit (a : Lv) (ws : List Int) (sep : Int) (x : List Int) (hw : wide a) (h : VA a ws sep) (hf : fitsF a x = false) : CallsTo Try.prog 16 [lvD a, intsD ws, .int sep, intsD x] (.int 3) := by
 have hv := valid_spec a ws sep hw
 rw [h.ok] at hv
 have hx := fits_spec a x (by have := h.tt; omega)
 rw [hf] at hx
 refine callsTo_of Try.func16 rfl (by decide +kernel) (Nat.le_of_ble_eq_true rfl) ?_
 intro hat B X w0
 repeat' first | refine pw_step rfl ?_ | refine pw_ret ?_ | refine wR ?_ | (refine rc (hv) rfl ?_ ?_; (· first | rfl | simp (disch := omega) only [go_sem, simprocAttr])) | (refine rc (hx) rfl ?_ ?_; (· first | rfl | simp (disch := omega) only [go_sem, simprocAttr])) | (refine wpG_split rfl rfl (fun hc => ?_) (fun hc => ?_) <;> try simp only [hcL] at hc) | (refine pw_cond _ rfl rfl (fun hc => ?_) (fun hc => ?_) <;> (try simp only [hcL] at hc) <;> try omega) | simp (disch := omega) only [go_sem, simprocAttr] | apply And.intro | omega | decide +kernel
 exact rfl
theorem rCheck_unfit (a : Lv) (ws : List Int) (sep : Int) (x : List Int) (hw : wide a) (h : VA a ws sep) (hf : fitsF a x = false) : CallsTo Try.prog 17 [lvD a, intsD ws, .int sep, intsD x] (.int 3) := by
 have hv := rvalid_spec a ws sep hw
 rw [h.ok] at hv
 have hx := rfits_spec a x (by have := h.tt; omega)
 rw [hf] at hx
 refine callsTo_of Try.func17 rfl (by decide +kernel) (Nat.le_of_ble_eq_true rfl) ?_
 intro hat B X w0
 repeat' first | refine pw_step rfl ?_ | refine pw_ret ?_ | refine wR ?_ | (refine rc (hv) rfl ?_ ?_; (· first | rfl | simp (disch := omega) only [go_sem, simprocAttr])) | (refine rc (hx) rfl ?_ ?_; (· first | rfl | simp (disch := omega) only [go_sem, simprocAttr])) | (refine wpG_split rfl rfl (fun hc => ?_) (fun hc => ?_) <;> try simp only [hcL] at hc) | (refine pw_cond _ rfl rfl (fun hc => ?_) (fun hc => ?_) <;> (try simp only [hcL] at hc) <;> try omega) | simp (disch := omega) only [go_sem, simprocAttr] | apply And.intro | omega | decide +kernel
 exact rfl
set_option maxHeartbeats 4000000 in
theorem Check_ok (a : Lv) (ws : List Int) (sep : Int) (x : List Int) (hw : wide a) (h : VA a ws sep) (hfa : fitsF a x = true) : CallsTo Try.prog 16 [lvD a, intsD ws, .int sep, intsD x] (.int (if (allP ws sep a.2.1 a.2.1.length).any (badQ x) then 14 else 0)) := by
 have hv := valid_spec a ws sep hw
 rw [h.ok] at hv
 have hx := fits_spec a x (by have := h.tt; omega)
 rw [hfa] at hx
 have hps := pairs_spec a ws sep h
 have hF := Fits.of hfa
 have hat' := hF.at'
 have hxl := hF.len
 have htt := h.tt
 have hin := allP_in h a.2.1.length
 have hAl := allP_len ws sep a.2.1 a.2.1.length (Nat.le_refl _)
 rw [List.take_length] at hAl
 generalize allP ws sep a.2.1 a.2.1.length = PL at hps hin hAl ⊢
 refine callsTo_of Try.func16 rfl (by decide +kernel) (Nat.le_of_ble_eq_true rfl) ?_
 intro hat B X w0
 repeat' first | refine pw_step rfl ?_ | refine pw_ret ?_ | refine wR ?_ | (refine rc (hv) rfl ?_ ?_; (· first | rfl | simp (disch := omega) only [go_sem, simprocAttr])) | (refine rc (hx) rfl ?_ ?_; (· first | rfl | simp (disch := omega) only [go_sem, simprocAttr])) | (refine rc (hps) rfl ?_ ?_; (· first | rfl | simp (disch := omega) only [go_sem, simprocAttr])) | (refine wpG_split rfl rfl (fun hc => ?_) (fun hc => ?_) <;> try simp only [hcL] at hc) | (refine pw_cond _ rfl rfl (fun hc => ?_) (fun hc => ?_) <;> (try simp only [hcL] at hc) <;> try omega) | simp (disch := omega) only [go_sem, simprocAttr] | apply And.intro | omega | decide +kernel
 refine pw_loopI (κ := Nat) (fun (j : Nat) => j ≤ PL.length ∧ ∀ (i : Nat) y, i < j → PL[i]? = some y → badQ x y = false) (fun (j : Nat) => [(3, .d (intsD x)), (23, .d (.sl (PL.map pairD))), (24, .int PL.length), (25, .int j)]) (fun (j : Nat) => []) (fun (j : Nat) => PL.length - j) 0 ?_ ?_ ?_
 ·exact ⟨Nat.zero_le _, fun i y h => by omega⟩
 ·exact eL [] _ _ (by refine ⟨?_, ?_⟩ <;> (repeat' first | exact fmn | refine fmc ⟨(by first | rfl | (simp (disch := omega) only [go_sem, simprocAttr, inL]; first | done | omega | (congr 1; done))), ?_⟩); done)
 ·rintro j ⟨hj, hinv⟩
  rcases Nat.lt_or_ge j PL.length with hlt | hge
  ·obtain ⟨⟨u, v, p, z⟩, hq⟩ := get_some hlt
   have hi := hin _ (List.mem_of_getElem? hq)
   dsimp only at hi
   obtain ⟨u, rfl⟩ : ∃ p' : Nat, u = p' := ⟨u.toNat, by omega⟩
   obtain ⟨v, rfl⟩ : ∃ p' : Nat, v = p' := ⟨v.toNat, by omega⟩
   have g1 := hat' u hi.1.1 hi.1.2
   have g2 := hat' v hi.2.1.1 hi.2.1.2
   rw [Int.toNat_natCast] at g1 g2
   obtain ⟨g1, b1⟩ := g1
   obtain ⟨g2, b2⟩ := g2
   have hb : badQ x ((u : Int), (v : Int), p, z) = decide (at0 x (v : Int) - at0 x (u : Int) < p) := rfl
   revert g1 b1 g2 b2 hb
   generalize at0 x (u : Int) = xu
   generalize at0 x (v : Int) = xv
   intro g1 b1 g2 b2 hb
   by_cases c : xv - xu < p
   ·rw [any_at hq (by rw [hb]; exact decide_eq_true c), if_pos rfl]
    repeat' first | refine pw_step rfl ?_ | refine pw_ret ?_ | refine wR ?_ | (refine wpG_split rfl rfl (fun hc => ?_) (fun hc => ?_) <;> try simp only [hcL] at hc) | (refine pw_cond _ rfl rfl (fun hc => ?_) (fun hc => ?_) <;> (try simp only [hcL] at hc) <;> try omega) | simp (disch := omega) only [go_sem, simprocAttr, hq, g1, g2, c] | apply And.intro | omega | decide +kernel
    exact rfl
   ·repeat' first | refine pw_step rfl ?_ | refine pw_ret ?_ | refine wR ?_ | (refine wpG_split rfl rfl (fun hc => ?_) (fun hc => ?_) <;> try simp only [hcL] at hc) | (refine pw_cond _ rfl rfl (fun hc => ?_) (fun hc => ?_) <;> (try simp only [hcL] at hc) <;> try omega) | simp (disch := omega) only [go_sem, simprocAttr, hq, g1, g2, c] | apply And.intro | omega | decide +kernel
    refine ⟨j + 1, ?_, eL [] _ _ (by refine ⟨?_, ?_⟩ <;> (repeat' first | exact fmn | refine fmc ⟨(by first | rfl | (simp (disch := omega) only [go_sem, simprocAttr, inL]; first | done | omega | (congr 1; done))), ?_⟩); done), ?_⟩
    ·exact ⟨by omega, upto_succ hinv hq (by rw [hb]; exact decide_eq_false c)⟩
    ·omega
  ·rw [any_no (fun i y hi => hinv i y (by omega)), if_neg (by decide)]
   repeat' first | refine pw_step rfl ?_ | refine pw_ret ?_ | refine wR ?_ | (refine wpG_split rfl rfl (fun hc => ?_) (fun hc => ?_) <;> try simp only [hcL] at hc) | (refine pw_cond _ rfl rfl (fun hc => ?_) (fun hc => ?_) <;> (try simp only [hcL] at hc) <;> try omega) | simp (disch := omega) only [go_sem, simprocAttr] | apply And.intro | omega | decide +kernel
   exact rfl
set_option maxHeartbeats 8000000 in
theorem rCheck_ok (a : Lv) (ws : List Int) (sep : Int) (x : List Int) (hw : wide a) (h : VA a ws sep) (hfa : fitsF a x = true) : CallsTo Try.prog 17 [lvD a, intsD ws, .int sep, intsD x] (.int (if (allP ws sep a.2.1 a.2.1.length).any (badQ x) then 14 else 0)) := by
 have hv := rvalid_spec a ws sep hw
 rw [h.ok] at hv
 have hx := rfits_spec a x (by have := h.tt; omega)
 rw [hfa] at hx
 have hF := Fits.of hfa
 have hat' := hF.at'
 have hxl := hF.len
 have htt := h.tt
 have hl := h.ls
 have hvt := h.vert
 have hds := rdistance_spec h
 have hap := ap_in h
 have hmem : ∀ k y, k < a.2.1.length → y ∈ allP ws sep a.2.1 (k + 1) → y ∈ allP ws sep a.2.1 a.2.1.length := fun k y hk hy => by
  obtain ⟨i, h1, h2⟩ := mem_catL.1 hy
  exact mem_catL.2 ⟨i, by omega, h2⟩
 obtain ⟨n, ls, ar, cs⟩ := a
 dsimp only at hat' hxl htt hl hvt hmem ⊢
 refine callsTo_of Try.func17 rfl (by decide +kernel) (Nat.le_of_ble_eq_true rfl) ?_
 intro hat B X w0
 repeat' first | refine pw_step rfl ?_ | refine pw_ret ?_ | refine wR ?_ | (refine rc (hv) rfl ?_ ?_; (· first | rfl | simp (disch := omega) only [go_sem, simprocAttr])) | (refine rc (hx) rfl ?_ ?_; (· first | rfl | simp (disch := omega) only [go_sem, simprocAttr])) | (refine wpG_split rfl rfl (fun hc => ?_) (fun hc => ?_) <;> try simp only [hcL] at hc) | (refine pw_cond _ rfl rfl (fun hc => ?_) (fun hc => ?_) <;> (try simp only [hcL] at hc) <;> try omega) | simp (disch := omega) only [go_sem, simprocAttr] | apply And.intro | omega | decide +kernel
 refine pw_loopI (κ := Nat) (fun (i : Nat) => i ≤ ls.length ∧ ∀ q, q ∈ allP ws sep ls i → badQ x q = false) (fun (i : Nat) => [(1, .d (intsD ws)), (2, .int sep), (3, .d (intsD x)), (4, .ptr 4 0 0 0), (9, .int i)]) (fun (i : Nat) => [(4, .cells [.int n, .d (listsD ls), .d (arcsD ar), .d (listsD cs)])]) (fun (i : Nat) => ls.length - i) 0 ?_ ?_ ?_
 ·exact ⟨Nat.zero_le _, fun q hq => by simp [allP, catN] at hq⟩
 ·exact eL [] _ _ (by refine ⟨?_, ?_⟩ <;> (repeat' first | exact fmn | refine fmc ⟨(by first | rfl | (simp (disch := omega) only [go_sem, simprocAttr, inL]; first | done | omega | (congr 1; done))), ?_⟩); done)
 ·rintro i ⟨hi, hinv⟩
  rcases Nat.lt_or_ge i ls.length with hlt | hge
  ·obtain ⟨y, hy⟩ := get_some hlt
   have hyv := hvt y (List.mem_of_getElem? hy)
   have hyl := tot_mem (List.mem_of_getElem? hy)
   repeat' first | refine pw_step rfl ?_ | refine pw_ret ?_ | refine wR ?_ | (refine wpG_split rfl rfl (fun hc => ?_) (fun hc => ?_) <;> try simp only [hcL] at hc) | (refine pw_cond _ rfl rfl (fun hc => ?_) (fun hc => ?_) <;> (try simp only [hcL] at hc) <;> try omega) | simp (disch := omega) only [go_sem, simprocAttr, hy] | apply And.intro | omega | decide +kernel
   refine pw_loopI (κ := Nat) (fun (j : Nat) => 1 ≤ j ∧ j - 1 ≤ y.length - 1 ∧ ∀ q, q ∈ curP ws sep ls i y j → badQ x q = false) (fun (j : Nat) => [(1, .d (intsD ws)), (2, .int sep), (3, .d (intsD x)), (4, .ptr 4 0 0 0), (9, .int i), (10, .int j)]) (fun (j : Nat) => [(4, .cells [.int n, .d (listsD ls), .d (arcsD ar), .d (listsD cs)])]) (fun (j : Nat) => y.length - j) 1 ?_ ?_ ?_
   ·exact ⟨Nat.le_refl _, by omega, fun q hq => hinv q (by rwa [curP_one] at hq)⟩
   ·exact eL [] _ _ (by refine ⟨?_, ?_⟩ <;> (repeat' first | exact fmn | refine fmc ⟨(by first | rfl | (simp (disch := omega) only [go_sem, simprocAttr, inL]; first | done | omega | (congr 1; done))), ?_⟩); done)
   ·rintro j ⟨hj1, hj, hinv2⟩
    rcases Nat.lt_or_ge j y.length with hjl | hjl
    ·obtain ⟨u, k1⟩ := get_some (show j - 1 < y.length by omega)
     obtain ⟨v, k2⟩ := get_some hjl
     have i1 := hyv _ (List.mem_of_getElem? k1)
     have i2 := hyv _ (List.mem_of_getElem? k2)
     obtain ⟨u, rfl⟩ : ∃ p' : Nat, u = p' := ⟨u.toNat, by omega⟩
     obtain ⟨v, rfl⟩ : ∃ p' : Nat, v = p' := ⟨v.toNat, by omega⟩
     have g1 := hat' u i1.1 i1.2
     have g2 := hat' v i2.1 i2.2
     rw [Int.toNat_natCast] at g1 g2
     obtain ⟨g1, b1⟩ := g1
     obtain ⟨g2, b2⟩ := g2
     have e1 : (j : Int) - 1 = (j - 1 : Nat) := by omega
     have hd := hds u v i1.1 i2.1
     have hp := curP_step (ws := ws) (sep := sep) (ls := ls) (k := i) hj1 k1 k2
     have hq := hap u v
     have hb : badQ x ((u : Int), (v : Int), apF ws sep u v, 0) = decide (at0 x (v : Int) - at0 x (u : Int) < apF ws sep u v) := rfl
     have hall : ((u : Int), (v : Int), apF ws sep u v, (0 : Int)) ∈ allP ws sep ls ls.length := by
      refine hmem i _ hlt ?_
      rw [allP_succ hy, List.mem_append]
      right
      rw [prN, List.mem_map]
      refine ⟨j - 1, List.mem_range.2 (by omega), ?_⟩
      have := prN_step (ws := ws) (sep := sep) hj1 k1 k2
      obtain ⟨i', rfl⟩ : ∃ i', j = i' + 1 := ⟨j - 1, by omega⟩
      rw [prN_succ, Nat.add_sub_cancel] at this
      exact List.singleton_inj.1 (List.append_cancel_left this)
     revert g1 b1 g2 b2 hb
     generalize at0 x (u : Int) = xu
     generalize at0 x (v : Int) = xv
     intro g1 b1 g2 b2 hb
     by_cases c : xv - xu < apF ws sep u v
     ·rw [show ((allP ws sep ls ls.length).any (badQ x)) = true from List.any_eq_true.2 ⟨_, hall, by rw [hb]; exact decide_eq_true c⟩, if_pos rfl]
      repeat' first | refine pw_step rfl ?_ | refine pw_ret ?_ | refine wR ?_ | (refine rc (hd) rfl ?_ ?_; (· first | rfl | simp (disch := omega) only [go_sem, simprocAttr, hy, e1, k1, k2, g1, g2, c])) | (refine wpG_split rfl rfl (fun hc => ?_) (fun hc => ?_) <;> try simp only [hcL] at hc) | (refine pw_cond _ rfl rfl (fun hc => ?_) (fun hc => ?_) <;> (try simp only [hcL] at hc) <;> try omega) | simp (disch := omega) only [go_sem, simprocAttr, hy, e1, k1, k2, g1, g2, c] | apply And.intro | omega | decide +kernel
      exact rfl
     ·repeat' first | refine pw_step rfl ?_ | refine pw_ret ?_ | refine wR ?_ | (refine rc (hd) rfl ?_ ?_; (· first | rfl | simp (disch := omega) only [go_sem, simprocAttr, hy, e1, k1, k2, g1, g2, c])) | (refine wpG_split rfl rfl (fun hc => ?_) (fun hc => ?_) <;> try simp only [hcL] at hc) | (refine pw_cond _ rfl rfl (fun hc => ?_) (fun hc => ?_) <;> (try simp only [hcL] at hc) <;> try omega) | simp (disch := omega) only [go_sem, simprocAttr, hy, e1, k1, k2, g1, g2, c] | apply And.intro | omega | decide +kernel
      refine ⟨j + 1, ?_, eL [] _ _ (by refine ⟨?_, ?_⟩ <;> (repeat' first | exact fmn | refine fmc ⟨(by first | rfl | (simp (disch := omega) only [go_sem, simprocAttr, inL]; first | done | omega | (congr 1; done))), ?_⟩); done), ?_⟩
      ·refine ⟨by omega, by omega, fun q hq => ?_⟩
       rw [hp, List.mem_append, List.mem_singleton] at hq
       rcases hq with hq | rfl
       ·exact hinv2 q hq
       ·rw [hb]; exact decide_eq_false c
      ·omega
    ·have hj : j - 1 = y.length - 1 := by omega
     have hs := curP_end (ws := ws) (sep := sep) hy hj
     repeat' first | refine pw_step rfl ?_ | refine pw_ret ?_ | refine wR ?_ | (refine wpG_split rfl rfl (fun hc => ?_) (fun hc => ?_) <;> try simp only [hcL] at hc) | (refine pw_cond _ rfl rfl (fun hc => ?_) (fun hc => ?_) <;> (try simp only [hcL] at hc) <;> try omega) | simp (disch := omega) only [go_sem, simprocAttr, hy] | apply And.intro | omega | decide +kernel
     refine ⟨i + 1, ?_, eL [] _ _ (by refine ⟨?_, ?_⟩ <;> (repeat' first | exact fmn | refine fmc ⟨(by first | rfl | (simp (disch := omega) only [go_sem, simprocAttr, inL]; first | done | omega | (congr 1; done))), ?_⟩); done), ?_⟩
     ·exact ⟨by omega, fun q hq => hinv2 q (by rwa [hs] at hq)⟩
     ·omega
  ·have hi : i = ls.length := by omega
   subst hi
   rw [show ((allP ws sep ls ls.length).any (badQ x)) = false from List.any_eq_false.2 fun q hq => by rw [hinv q hq]; decide, if_neg (by decide)]
   repeat' first | refine pw_step rfl ?_ | refine pw_ret ?_ | refine wR ?_ | (refine wpG_split rfl rfl (fun hc => ?_) (fun hc => ?_) <;> try simp only [hcL] at hc) | (refine pw_cond _ rfl rfl (fun hc => ?_) (fun hc => ?_) <;> (try simp only [hcL] at hc) <;> try omega) | simp (disch := omega) only [go_sem, simprocAttr] | apply And.intro | omega | decide +kernel
   exact rfl
theorem Check_spec (a : Lv) (ws : List Int) (sep : Int) (x : List Int) (hw : wide a) : CallsTo Try.prog 16 [lvD a, intsD ws, .int sep, intsD x] (.int (checkA a ws sep x)) := by
 rw [checkA]
 rcases h : validA a ws sep with _ | _
 ·rw [if_neg (by decide)]; exact Check_bad a ws sep x hw h
 ·rw [if_pos rfl]
  rcases hf : fitsF a x with _ | _
  ·rw [if_neg (by decide)]; exact Check_unfit a ws sep x hw (.of h) hf
  ·rw [if_pos rfl]; exact Check_ok a ws sep x hw (.of h) hf
theorem rCheck_spec (a : Lv) (ws : List Int) (sep : Int) (x : List Int) (hw : wide a) : CallsTo Try.prog 17 [lvD a, intsD ws, .int sep, intsD x] (.int (checkA a ws sep x)) := by
 rw [checkA]
 rcases h : validA a ws sep with _ | _
 ·rw [if_neg (by decide)]; exact rCheck_bad a ws sep x hw h
 ·rw [if_pos rfl]
  rcases hf : fitsF a x with _ | _
  ·rw [if_neg (by decide)]; exact rCheck_unfit a ws sep x hw (.of h) hf
  ·rw [if_pos rfl]; exact rCheck_ok a ws sep x hw (.of h) hf
theorem Cost_spec (a : Lv) (x : List Int) (hw : wide a) (hal : a.2.2.1.length ≤ 1000) : CallsTo Try.prog 14 [lvD a, intsD x] (.int (costA a x)) := by
 rw [costA]
 rcases h : validF a && fitsF a x with _ | _
 ·rw [if_neg (by decide)]; exact Cost_bad a x hw h
 ·rw [if_pos rfl]
  rw [Bool.and_eq_true] at h
  exact Cost_ok a x hw h.1 h.2 hal
theorem rCost_spec (a : Lv) (x : List Int) (hw : wide a) (hal : a.2.2.1.length ≤ 1000) : CallsTo Try.prog 15 [lvD a, intsD x] (.int (costA a x)) := by
 rw [costA]
 rcases h : validF a && fitsF a x with _ | _
 ·rw [if_neg (by decide)]; exact rCost_bad a x hw h
 ·rw [if_pos rfl]
  rw [Bool.and_eq_true] at h
  exact rCost_ok a x hw h.1 h.2 hal
end Go.Proofs.Ythbcmebhpabpnaa
namespace Go.Proofs.Ythbcmebhpabpnaa
open Go Go.PS Go.Proofs
open Sx (Bd bdD bdsD Net nD ite_min ite_max lowN lowN_le lowN_ge nodup_lt)
set_option maxRecDepth 100000
attribute [local irreducible] wpRun wpG CallsTo CallsM

def mapR (r : List Int) (k : Nat) : List (Int × Int) := (List.range k).map fun v : Nat => ((v : Int), at0 r v)
theorem mapR_len (r : List Int) (k : Nat) : (mapR r k).length = k := by simp [mapR]
theorem mapR_zero (r : List Int) : mapR r 0 = [] := rfl
theorem mapR_at {r : List Int} {k j : Nat} (h : j < k) : (mapR r k).getD j (0, 0) = ((j : Int), at0 r j) := by
 rw [List.getD_eq_getElem?_getD, mapR, List.getElem?_map, List.getElem?_range h]; rfl
theorem putM_new {x y : Int} : ∀ {l : List (Int × Int)}, (∀ p, p ∈ l → p.1 ≠ x) → putM l x y = l ++ [(x, y)]
 | [], _ => rfl
 | (a, b) :: l, h => by
  rw [putM, if_neg (show ¬ a = x from h (a, b) (by simp)), putM_new (l := l) (fun p hp => h p (List.mem_cons_of_mem _ hp))]; rfl
theorem mapR_put (r : List Int) (k : Nat) : putM (mapR r k) (k : Int) (at0 r k) = mapR r (k + 1) := by
 rw [putM_new]
 ·simp [mapR, List.range_succ]
 ·intro p hp
  obtain ⟨v, hv, rfl⟩ := List.mem_map.1 hp
  have := List.mem_range.1 hv
  dsimp only; omega
theorem getM_in {x y : Int} : ∀ {l m : List (Int × Int)}, (∀ p, p ∈ l → p.1 ≠ x) → getM (l ++ (x, y) :: m) x = y
 | [], _, _ => by simp [getM]
 | (a, b) :: l, m, h => by
  rw [List.cons_append, getM, if_neg (show ¬ a = x from h (a, b) (by simp)), getM_in (l := l) (fun p hp => h p (List.mem_cons_of_mem _ hp))]
theorem mapR_get {r : List Int} : ∀ {k v : Nat}, v < k → getM (mapR r k) (v : Int) = at0 r v
 | 0, v, h => by omega
 | k + 1, v, h => by
  have key : ∀ (l m : List (Int × Int)), (∃ p, p ∈ l ∧ p.1 = (v : Int)) → getM (l ++ m) (v : Int) = getM l (v : Int) := by
   intro l m
   induction l with
   | nil => rintro ⟨p, hp, _⟩; simp at hp
   | cons q l ih =>
    rintro ⟨p, hp, h2⟩
    obtain ⟨a, b⟩ := q
    rw [List.cons_append, getM, getM]
    by_cases c : a = (v : Int)
    ·rw [if_pos c, if_pos c]
    ·rw [if_neg c, if_neg c]
     rcases List.mem_cons.1 hp with rfl | hp
     ·exact absurd h2 c
     ·exact ih ⟨p, hp, h2⟩
  have e : mapR r (k + 1) = mapR r k ++ [((k : Int), at0 r k)] := by simp [mapR, List.range_succ]
  rcases Nat.lt_succ_iff_lt_or_eq.1 h with h1 | rfl
  ·rw [e, key (mapR r k) [((k : Int), at0 r k)] ⟨((v : Int), at0 r v), List.mem_map.2 ⟨v, List.mem_range.2 h1, rfl⟩, rfl⟩, mapR_get h1]
  ·rw [e, getM_in]
   intro p hp
   obtain ⟨u, hu, rfl⟩ := List.mem_map.1 hp
   have := List.mem_range.1 hu
   dsimp only; omega
def lowR (r : List Int) (T : Nat) : Int := lowN (fun v : Nat => at0 r v) T
def firstA (r : List Int) (T : Nat) : List Int := (List.range T).map fun v : Nat => at0 r v - lowR r T
def MinOf (r : List Int) (sn : List Nat) (m : Int) : Prop := (sn = [] → m = 0) ∧ (sn ≠ [] → (∃ j, j ∈ sn ∧ m = at0 r j) ∧ ∀ j, j ∈ sn → m ≤ at0 r (j : Nat))
theorem MinOf.step {r : List Int} {sn : List Nat} {m : Int} (h : MinOf r sn m) (j : Nat) : MinOf r (sn ++ [j]) (if sn = [] ∨ at0 r j < m then at0 r j else m) := by
 refine ⟨fun h => by simp at h, fun _ => ?_⟩
 by_cases c : sn = []
 ·subst c
  rw [if_pos (.inl rfl)]
  exact ⟨⟨j, by simp, rfl⟩, fun i hi => by simp at hi; subst hi; omega⟩
 ·obtain ⟨⟨i, hi, e⟩, h2⟩ := h.2 c
  split
  ·rename_i hc
   refine ⟨⟨j, by simp, rfl⟩, fun u hu => ?_⟩
   rw [List.mem_append, List.mem_singleton] at hu
   rcases hu with hu | rfl
   ·have := h2 u hu
    rcases hc with hc | hc
    ·exact absurd hc c
    ·omega
   ·omega
  ·rename_i hc
   refine ⟨⟨i, by simp [hi], e⟩, fun u hu => ?_⟩
   rw [List.mem_append, List.mem_singleton] at hu
   rcases hu with hu | rfl
   ·exact h2 u hu
   ·omega
theorem MinOf.all {r : List Int} {sn : List Nat} {m : Int} {T : Nat} (h : MinOf r sn m) (h1 : ∀ j, j < T → j ∈ sn) (h2 : ∀ j, j ∈ sn → j < T) : m = lowR r T := by
 rcases Nat.eq_zero_or_pos T with rfl | h0
 ·have : sn = [] := List.eq_nil_iff_forall_not_mem.2 fun j hj => by have := h2 j hj; omega
  rw [h.1 this]; rfl
 ·have hne : sn ≠ [] := fun e => by have := h1 0 h0; rw [e] at this; simp at this
  obtain ⟨⟨j, hj, e⟩, h3⟩ := h.2 hne
  have a1 : m ≤ lowR r T := lowN_ge h0 fun v hv => h3 v (h1 v hv)
  have a2 : lowR r T ≤ at0 r j := lowN_le (h := fun v : Nat => at0 r v) (h2 j hj)
  omega
theorem Solve_bad (a : Lv) (ws : List Int) (sep : Int) (hw : wide a) (h : validA a ws sep = false) : CallsTo Try.prog 18 [lvD a, intsD ws, .int sep] (.tup [.sl [], .int 1]) := by
 have hn := Net_bad a ws sep hw h
 refine callsTo_of Try.func18 rfl (by decide +kernel) (Nat.le_of_ble_eq_true rfl) ?_
 intro hat B X w0
 repeat' first | refine pw_step rfl ?_ | refine pw_ret ?_ | refine wR ?_ | (refine rc (hn) rfl ?_ ?_; (· first | rfl | simp (disch := omega) only [go_sem, simprocAttr])) | (refine wpG_split rfl rfl (fun hc => ?_) (fun hc => ?_) <;> try simp only [hcL] at hc) | (refine pw_cond _ rfl rfl (fun hc => ?_) (fun hc => ?_) <;> (try simp only [hcL] at hc) <;> try omega) | simp (disch := omega) only [go_sem, simprocAttr] | apply And.intro | omega | decide +kernel
 exact ⟨_, rfl, rfl, rfl, trivial⟩
set_option maxHeartbeats 8000000 in
theorem Solve_ok (a : Lv) (ws : List Int) (sep : Int) (r : List Int) (hw : wide a) (h : VA a ws sep) (hal : a.2.2.1.length ≤ 1000)
  (hB : CallsM Try.prog 19 [.d (nD (netF a ws sep))] [(2000, .dead)] (.tup [.ref 2000 1 0 r.length r.length, .int 0]) [(2000, .row 1 (r.map D.int))])
  (hrl : tot a.2.1 ≤ r.length) (hrb : ∀ v : Nat, v < r.length → 0 ≤ at0 r v ∧ at0 r v ≤ 34359738368) :
  CallsTo Try.prog 18 [lvD a, intsD ws, .int sep] (.tup [intsD (firstA r (tot a.2.1)), .int 0]) := by
 have hn := Net_spec a ws sep hw h hal
 have hvx := vertices_spec a (by have := h.tt; omega)
 have htt := h.tt
 obtain ⟨N, hN⟩ : ∃ N, N = netF a ws sep := ⟨_, rfl⟩
 rw [← hN] at hn hB
 obtain ⟨N1, N2⟩ := N
 obtain ⟨n, ls, ar, cs⟩ := a
 dsimp only at hvx htt hrl ⊢
 generalize tot ls = T at hvx htt hrl ⊢
 have hml : (r.map D.int).length = r.length := List.length_map _
 refine callsTo_of Try.func18 rfl (by decide +kernel) (Nat.le_of_ble_eq_true rfl) ?_
 intro hat B X w0
 repeat' first | refine pw_step rfl ?_ | refine pw_ret ?_ | refine wR ?_ | (refine rc (hn) rfl ?_ ?_; (· first | rfl | simp (disch := omega) only [go_sem, simprocAttr])) | (refine rc (hvx) rfl ?_ ?_; (· first | rfl | simp (disch := omega) only [go_sem, simprocAttr])) | refine rcM [(2000, 900)] (hB) rfl ?_ | (refine wpG_split rfl rfl (fun hc => ?_) (fun hc => ?_) <;> try simp only [hcL] at hc) | (refine pw_cond _ rfl rfl (fun hc => ?_) (fun hc => ?_) <;> (try simp only [hcL] at hc) <;> try omega) | simp (disch := omega) only [go_sem, simprocAttr] | apply And.intro | omega | decide +kernel
 refine pw_loopI (κ := Nat) (fun (k : Nat) => k ≤ T) (fun (k : Nat) => [(3, .ptr 3 0 0 0), (10, .ref 900 1 0 r.length r.length), (11, .mp 37), (39, .int T), (40, .int k)]) (fun (k : Nat) => [(3, .cells [.int n, .d (listsD ls), .d (arcsD ar), .d (listsD cs)]), (900, .row 1 (r.map D.int)), (37, .imap (mapR r k))]) (fun (k : Nat) => T - k) 0 ?_ ?_ ?_
 ·exact Nat.zero_le _
 ·exact eL [] _ _ (by refine ⟨?_, ?_⟩ <;> (repeat' first | exact fmn | refine fmc ⟨(by first | rfl | (simp (disch := omega) only [go_sem, simprocAttr, inL, mapR_zero]; first | done | omega | (congr 1; done))), ?_⟩); done)
 ·intro k hk
  rcases Nat.lt_or_ge k T with hlt | hge
  ·have hg := at0_at (r := r) (i := k) (by omega)
   have hp := mapR_put r k
   revert hg hp
   generalize at0 r (k : Int) = rk
   intro hg hp
   repeat' first | refine pw_step rfl ?_ | refine pw_ret ?_ | refine wR ?_ | (refine wpG_split rfl rfl (fun hc => ?_) (fun hc => ?_) <;> try simp only [hcL] at hc) | (refine pw_cond _ rfl rfl (fun hc => ?_) (fun hc => ?_) <;> (try simp only [hcL] at hc) <;> try omega) | simp (disch := omega) only [go_sem, simprocAttr, hg, hp, hml] | apply And.intro | omega | decide +kernel
   refine ⟨k + 1, ?_, eL [] _ _ (by refine ⟨?_, ?_⟩ <;> (repeat' first | exact fmn | refine fmc ⟨(by first | rfl | (simp (disch := omega) only [go_sem, simprocAttr, inL, hp]; first | done | omega | (congr 1; done))), ?_⟩); done), ?_⟩
   ·omega
   ·omega
  ·have hk : k = T := by omega
   subst hk
   have hMl := mapR_len r k
   repeat' first | refine pw_step rfl ?_ | refine pw_ret ?_ | refine wR ?_ | (refine wpG_split rfl rfl (fun hc => ?_) (fun hc => ?_) <;> try simp only [hcL] at hc) | (refine pw_cond _ rfl rfl (fun hc => ?_) (fun hc => ?_) <;> (try simp only [hcL] at hc) <;> try omega) | simp (disch := omega) only [go_sem, simprocAttr, hMl] | apply And.intro | omega | decide +kernel
   refine pw_loopI (κ := List Nat × Int) (fun (q : List Nat × Int) => MinOf r q.1 q.2 ∧ q.1.Nodup ∧ ∀ j, j ∈ q.1 → j < k) (fun (q : List Nat × Int) => [(11, .mp 37), (13, .int q.2), (14, .bool (!q.1.isEmpty)), (51, .ptr 51 1 0 0)]) (fun (q : List Nat × Int) => [(37, .imap (mapR r k)), (51, .iter 37 k q.1)]) (fun (q : List Nat × Int) => k - q.1.length) ([], (0 : Int)) ?_ ?_ ?_
   ·exact ⟨⟨fun _ => rfl, fun h => absurd rfl h⟩, List.nodup_nil, by simp⟩
   ·exact eL [] _ _ (by refine ⟨?_, ?_⟩ <;> (repeat' first | exact fmn | refine fmc ⟨(by first | rfl | (simp (disch := omega) only [go_sem, simprocAttr, inL, hMl, List.isEmpty_nil]; first | done | omega | (congr 1; done))), ?_⟩); done)
   ·rintro ⟨sn, m⟩ ⟨hmin, hnd, hlt⟩
    dsimp only at hmin hnd hlt ⊢
    have hln := nodup_lt k sn hnd hlt
    refine pw_step rfl ?_
    refine pw_next (i := 51) (o := 51) (m := 37) (k := k) (sn := sn) (l := mapR r k) rfl rfl rfl hMl (of_decide_eq_true rfl) (of_decide_eq_true rfl) (fun hall => ?_) (fun j hj hjn => ?_)
    ·have hm := hmin.all hall hlt
     subst hm
     obtain ⟨F, hF⟩ : ∃ F : Nat → List Int, F = fun u => fillRow (fun v : Nat => at0 r v - lowR r k) k u := ⟨_, rfl⟩
     have hfz : ∀ u : Nat, (F u).length = k := fun u => by rw [hF]; exact fillRow_len _ k u
     have hf0 : (F 0).map D.int = List.replicate k (D.int 0) := by rw [hF]; exact fillRow_zero _ k
     have hfe : F k = firstA r k := by rw [hF]; exact fillRow_end _ k
     have hfs : ∀ u : Nat, u < k → ((F u).map D.int).set u (D.int (at0 r u - lowR r k)) = (F (u + 1)).map D.int := fun u hu => by simp only [hF]; rw [← fillRow_step hu, List.map_set]
     have hlow : k = 0 ∨ (0 ≤ lowR r k ∧ lowR r k ≤ 34359738368) := by
      rcases Nat.eq_zero_or_pos k with h0 | h0
      ·exact .inl h0
      ·refine .inr ⟨lowN_ge h0 fun v hv => (hrb v (by omega)).1, ?_⟩
       have := lowN_le (h := fun v : Nat => at0 r v) h0
       have h2 := (hrb 0 (by omega)).2
       exact Int.le_trans this h2
     repeat' first | refine pw_step rfl ?_ | refine pw_ret ?_ | refine wR ?_ | (refine wpG_split rfl rfl (fun hc => ?_) (fun hc => ?_) <;> try simp only [hcL] at hc) | (refine pw_cond _ rfl rfl (fun hc => ?_) (fun hc => ?_) <;> (try simp only [hcL] at hc) <;> try omega) | simp (disch := omega) only [go_sem, simprocAttr, hMl] | apply And.intro | omega | decide +kernel
     refine pw_loopI (κ := Nat) (fun (u : Nat) => u ≤ k) (fun (u : Nat) => [(11, .mp 37), (13, .int (lowR r k)), (17, .ref 66 1 0 k k), (68, .int k), (69, .int u)]) (fun (u : Nat) => [(37, .imap (mapR r k)), (66, .row 1 ((F u).map D.int))]) (fun (u : Nat) => k - u) 0 ?_ ?_ ?_
     ·exact Nat.zero_le _
     ·exact eL [] _ _ (by refine ⟨?_, ?_⟩ <;> (repeat' first | exact fmn | refine fmc ⟨(by first | rfl | (simp (disch := omega) only [go_sem, simprocAttr, inL, hf0]; first | done | omega | (congr 1; done))), ?_⟩); done)
     ·intro u hu
      have hfl := hfz u
      rcases Nat.lt_or_ge u k with hlt2 | hge2
      ·have hg := mapR_get (r := r) hlt2
       have hsm := hfs u hlt2
       obtain ⟨od, hod⟩ := get_some (show u < (F u).length by omega)
       have hb1 := hrb u (by omega)
       have hb2 := hlow.resolve_left (by omega)
       have hfl2 := hfz (u + 1)
       revert hg hsm hb1 hb2
       generalize lowR r k = lw
       generalize at0 r (u : Int) = ru
       intro hg hsm hb1 hb2
       repeat' first | refine pw_step rfl ?_ | refine pw_ret ?_ | refine wR ?_ | (refine wpG_split rfl rfl (fun hc => ?_) (fun hc => ?_) <;> try simp only [hcL] at hc) | (refine pw_cond _ rfl rfl (fun hc => ?_) (fun hc => ?_) <;> (try simp only [hcL] at hc) <;> try omega) | simp (disch := omega) only [go_sem, simprocAttr, hMl, hg, hsm, hfl, hod] | apply And.intro | omega | decide +kernel
       refine ⟨u + 1, ?_, eL [] _ _ (by refine ⟨?_, ?_⟩ <;> (repeat' first | exact fmn | refine fmc ⟨(by first | rfl | (simp (disch := omega) only [go_sem, simprocAttr, inL, hsm]; first | done | omega | (congr 1; done))), ?_⟩); done), ?_⟩
       ·omega
       ·omega
      ·have hu : u = k := by omega
       subst hu
       repeat' first | refine pw_step rfl ?_ | refine pw_ret ?_ | refine wR ?_ | (refine wpG_split rfl rfl (fun hc => ?_) (fun hc => ?_) <;> try simp only [hcL] at hc) | (refine pw_cond _ rfl rfl (fun hc => ?_) (fun hc => ?_) <;> (try simp only [hcL] at hc) <;> try omega) | simp (disch := omega) only [go_sem, simprocAttr] | apply And.intro | omega | decide +kernel
       exact ⟨_, rfl, ret_ref (o := 66) rfl rfl (by simp [hfl]) (by rw [List.take_of_length_le (by simp [hfl]), hfe]), int_some rfl, trivial⟩
    ·have hst := hmin.step j
     have hgl : (sn ++ [j]).getLast? = some j := by simp
     have hgd := mapR_at (r := r) hj
     have hie : (sn ++ [j]).isEmpty = false := by simp
     have hnd' : (sn ++ [j]).Nodup := by
      rw [List.nodup_append]
      exact ⟨hnd, by simp, by intro x hx y hy; rw [List.mem_singleton] at hy; subst hy; rintro rfl; exact hjn hx⟩
     have hlt' : ∀ i, i ∈ sn ++ [j] → i < k := fun i hi => by
      rw [List.mem_append, List.mem_singleton] at hi
      rcases hi with hi | rfl
      ·exact hlt i hi
      ·exact hj
     have hln' := nodup_lt k _ hnd' hlt'
     rw [List.length_append, List.length_singleton] at hln'
     revert hst hgd
     generalize at0 r (j : Int) = rj
     intro hst hgd
     rcases hse : sn.isEmpty with _ | _
     ·have hne : sn ≠ [] := by rintro rfl; cases hse
      by_cases c : rj < m
      ·rw [if_pos (.inr c)] at hst
       repeat' first | refine pw_step rfl ?_ | refine pw_ret ?_ | refine wR ?_ | (refine wpG_split rfl rfl (fun hc => ?_) (fun hc => ?_) <;> try simp only [hcL] at hc) | (refine pw_cond _ rfl rfl (fun hc => ?_) (fun hc => ?_) <;> (try simp only [hcL] at hc) <;> try omega) | simp (disch := omega) only [go_sem, simprocAttr, hMl, hgl, hgd, hse, c, Bool.not_false] | apply And.intro | omega | decide +kernel
       refine ⟨(sn ++ [j], rj), ?_, eL [] _ _ (by refine ⟨?_, ?_⟩ <;> (repeat' first | exact fmn | refine fmc ⟨(by first | rfl | (simp (disch := omega) only [go_sem, simprocAttr, inL, hie]; first | done | omega | (congr 1; done))), ?_⟩); done), ?_⟩
       ·exact ⟨hst, hnd', hlt'⟩
       ·dsimp only; rw [List.length_append, List.length_singleton]; omega
      ·rw [if_neg (by rintro (h | h); exact hne h; exact c h)] at hst
       repeat' first | refine pw_step rfl ?_ | refine pw_ret ?_ | refine wR ?_ | (refine wpG_split rfl rfl (fun hc => ?_) (fun hc => ?_) <;> try simp only [hcL] at hc) | (refine pw_cond _ rfl rfl (fun hc => ?_) (fun hc => ?_) <;> (try simp only [hcL] at hc) <;> try omega) | simp (disch := omega) only [go_sem, simprocAttr, hMl, hgl, hgd, hse, c, Bool.not_false] | apply And.intro | omega | decide +kernel
       refine ⟨(sn ++ [j], m), ?_, eL [] _ _ (by refine ⟨?_, ?_⟩ <;> (repeat' first | exact fmn | refine fmc ⟨(by first | rfl | (simp (disch := omega) only [go_sem, simprocAttr, inL, hie]; first | done | omega | (congr 1; done))), ?_⟩); done), ?_⟩
       ·exact ⟨hst, hnd', hlt'⟩
       ·dsimp only; rw [List.length_append, List.length_singleton]; omega
     ·have he : sn = [] := List.isEmpty_iff.1 hse
      rw [if_pos (.inl he)] at hst
      repeat' first | refine pw_step rfl ?_ | refine pw_ret ?_ | refine wR ?_ | (refine wpG_split rfl rfl (fun hc => ?_) (fun hc => ?_) <;> try simp only [hcL] at hc) | (refine pw_cond _ rfl rfl (fun hc => ?_) (fun hc => ?_) <;> (try simp only [hcL] at hc) <;> try omega) | simp (disch := omega) only [go_sem, simprocAttr, hMl, hgl, hgd, hse, Bool.not_true] | apply And.intro | omega | decide +kernel
      refine ⟨(sn ++ [j], rj), ?_, eL [] _ _ (by refine ⟨?_, ?_⟩ <;> (repeat' first | exact fmn | refine fmc ⟨(by first | rfl | (simp (disch := omega) only [go_sem, simprocAttr, inL, hie]; first | done | omega | (congr 1; done))), ?_⟩); done), ?_⟩
      ·exact ⟨hst, hnd', hlt'⟩
      ·dsimp only; rw [List.length_append, List.length_singleton]; omega
end Go.Proofs.Ythbcmebhpabpnaa
namespace Go.Proofs.Ythbcmebhpabpnaa
open Go Go.PS Go.Proofs
open Sx (Bd bdD bdsD Net nD ite_min ite_max lowN lowN_le lowN_ge)
set_option maxRecDepth 100000
attribute [local irreducible] wpRun wpG CallsTo CallsM

def lowS (r : List Int) (u : Nat) : Int := if u = 0 then at0 r 0 else lowR r u
theorem lowS_step (r : List Int) (u : Nat) : (if at0 r u < lowS r u then at0 r (u : Nat) else lowS r u) = lowS r (u + 1) := by
 have e : lowR r (u + 1) = if u = 0 ∨ at0 r u < lowR r u then at0 r u else lowR r u := rfl
 rw [lowS, lowS, if_neg (Nat.succ_ne_zero u), e]
 rcases Nat.eq_zero_or_pos u with rfl | h0
 ·simp
 ·have hn : ¬ u = 0 := by omega
  simp only [hn, false_or, if_false]
set_option maxHeartbeats 4000000 in
theorem First_spec (r : List Int) (n : Nat) (hn : n ≤ r.length) (hr : r.length ≤ 1000000) (hrb : ∀ v : Nat, v < r.length → 0 ≤ at0 r v ∧ at0 r v ≤ 34359738368) : CallsTo Try.prog 21 [intsD r, .int n] (intsD (firstA r n)) := by
 have hsb : ∀ u, u ≤ n → 0 < n → 0 ≤ lowS r u ∧ lowS r u ≤ 34359738368 := fun u hu h0 => by
  rw [lowS]
  split
  ·exact hrb 0 (by omega)
  ·refine ⟨lowN_ge (by omega) fun v hv => (hrb v (by omega)).1, ?_⟩
   exact Int.le_trans (lowN_le (h := fun v : Nat => at0 r v) (k := u) (v := 0) (by omega)) (hrb 0 (by omega)).2
 obtain ⟨F, hF⟩ : ∃ F : Nat → List Int, F = fun k => (List.range k).map fun v : Nat => at0 r v - lowR r n := ⟨_, rfl⟩
 have hFl : ∀ k, (F k).length = k := fun k => by rw [hF]; simp
 have hF0 : F 0 = [] := by rw [hF]; rfl
 have hFs : ∀ k, F (k + 1) = F k ++ [at0 r k - lowR r n] := fun k => by rw [hF]; simp [List.range_succ]
 have hFe : F n = firstA r n := by rw [hF]; rfl
 have hS0 : lowS r 0 = at0 r 0 := rfl
 have hSn : 0 < n → lowS r n = lowR r n := fun h => if_neg (by omega)
 have hSs := lowS_step r
 revert hsb hS0 hSs hSn
 generalize lowS r = S
 intro hsb hS0 hSn hSs
 refine callsTo_of Try.func21 rfl (by decide +kernel) (Nat.le_of_ble_eq_true rfl) ?_
 intro hat B X w0
 repeat' first | refine pw_step rfl ?_ | refine pw_ret ?_ | refine wR ?_ | (refine wpG_split rfl rfl (fun hc => ?_) (fun hc => ?_) <;> try simp only [hcL] at hc) | (refine pw_cond _ rfl rfl (fun hc => ?_) (fun hc => ?_) <;> (try simp only [hcL] at hc) <;> try omega) | simp (disch := omega) only [go_sem, simprocAttr] | apply And.intro | omega | decide +kernel
 refine pw_ent _ (ent_nil 5 901 1 rfl rfl) ?_
 refine pw_loopI (κ := Nat) (fun (k : Nat) => k ≤ n) (fun (k : Nat) => [(0, .d (intsD r)), (1, .int n), (5, .ref 901 1 0 k k), (6, .int k)]) (fun (k : Nat) => [(901, .row 1 ((F k).map D.int))]) (fun (k : Nat) => n - k) 0 ?_ ?_ ?_
 ·exact Nat.zero_le _
 ·exact eL [] _ _ (by refine ⟨?_, ?_⟩ <;> (repeat' first | exact fmn | refine fmc ⟨(by first | rfl | (simp (disch := omega) only [go_sem, simprocAttr, inL, hF0]; first | done | omega | (congr 1; done))), ?_⟩); done)
 ·intro k hk
  have hfl := hFl k
  rcases Nat.lt_or_ge k n with hlt | hge
  ·have h0 : 0 < n := by omega
   have g0 := at0_at (r := r) (i := 0) (by omega)
   have gk := at0_at (r := r) (i := k) (by omega)
   have hs := hFs k
   have bk := hrb k (by omega)
   have bn := hsb n (Nat.le_refl _) h0
   rw [hSn h0] at bn
   have hS0' : S 0 = at0 r ((0 : Nat) : Int) := hS0
   revert hs bk gk
   generalize at0 r (k : Int) = rk
   intro gk hs bk
   rw [← hS0'] at g0
   repeat' first | refine pw_step rfl ?_ | refine pw_ret ?_ | refine wR ?_ | (refine wpG_split rfl rfl (fun hc => ?_) (fun hc => ?_) <;> try simp only [hcL] at hc) | (refine pw_cond _ rfl rfl (fun hc => ?_) (fun hc => ?_) <;> (try simp only [hcL] at hc) <;> try omega) | simp (disch := omega) only [go_sem, simprocAttr, g0] | apply And.intro | omega | decide +kernel
   refine pw_loopI (κ := Nat) (fun (u : Nat) => u ≤ n) (fun (u : Nat) => [(0, .d (intsD r)), (1, .int n), (5, .ref 901 1 0 k k), (6, .int k), (7, .int (S u)), (8, .int u)]) (fun (u : Nat) => [(901, .row 1 ((F k).map D.int))]) (fun (u : Nat) => n - u) 0 ?_ ?_ ?_
   ·exact Nat.zero_le _
   ·exact eL [] _ _ (by refine ⟨?_, ?_⟩ <;> (repeat' first | exact fmn | refine fmc ⟨(by first | rfl | (simp (disch := omega) only [go_sem, simprocAttr, inL]; first | done | omega | (congr 1; done))), ?_⟩); done)
   ·intro u hu
    rcases Nat.lt_or_ge u n with hul | hul
    ·have gu := at0_at (r := r) (i := u) (by omega)
     have hss := hSs u
     revert gu hss
     generalize at0 r (u : Int) = ru
     intro gu hss
     repeat' first | refine pw_step rfl ?_ | refine pw_ret ?_ | refine wR ?_ | (refine wpG_split rfl rfl (fun hc => ?_) (fun hc => ?_) <;> try simp only [hcL] at hc) | (refine pw_cond _ rfl rfl (fun hc => ?_) (fun hc => ?_) <;> (try simp only [hcL] at hc) <;> try omega) | simp (disch := omega) only [go_sem, simprocAttr, gu, hss] | apply And.intro | omega | decide +kernel
     refine ⟨u + 1, ?_, eL [] _ _ (by refine ⟨?_, ?_⟩ <;> (repeat' first | exact fmn | refine fmc ⟨(by first | rfl | (simp (disch := omega) only [go_sem, simprocAttr, inL, hss]; first | done | omega | (congr 1; done))), ?_⟩); done), ?_⟩
     ·omega
     ·omega
    ·have hu : u = n := by omega
     subst hu
     rw [hSn h0]
     have htk : (List.map D.int (F k)).take k = List.map D.int (F k) := List.take_of_length_le (by simp [hfl])
     repeat' first | refine pw_step rfl ?_ | refine pw_ret ?_ | refine wR ?_ | (refine wpG_split rfl rfl (fun hc => ?_) (fun hc => ?_) <;> try simp only [hcL] at hc) | (refine pw_cond _ rfl rfl (fun hc => ?_) (fun hc => ?_) <;> (try simp only [hcL] at hc) <;> try omega) | simp (disch := omega) only [go_sem, simprocAttr, gk, roomy, hfl, htk] | apply And.intro | omega | decide +kernel
     refine ⟨k + 1, ?_, eL [(901, 48)] _ _ (by refine ⟨?_, ?_⟩ <;> (repeat' first | exact fmn | refine fmc ⟨(by first | rfl | (simp (disch := omega) only [go_sem, simprocAttr, inL, hs, List.map_append, List.map_cons, List.map_nil]; first | done | omega | (congr 1; done))), ?_⟩); done), ?_⟩
     ·omega
     ·omega
  ·have hk : k = n := by omega
   subst hk
   repeat' first | refine pw_step rfl ?_ | refine pw_ret ?_ | refine wR ?_ | (refine wpG_split rfl rfl (fun hc => ?_) (fun hc => ?_) <;> try simp only [hcL] at hc) | (refine pw_cond _ rfl rfl (fun hc => ?_) (fun hc => ?_) <;> (try simp only [hcL] at hc) <;> try omega) | simp (disch := omega) only [go_sem, simprocAttr] | apply And.intro | omega | decide +kernel
   exact ret_ref (o := 901) rfl rfl (by simp [hfl]) (by rw [List.take_of_length_le (by simp [hfl]), hFe])
def long4 (c : List Int) : Bool := decide (40 < c.length)
def smlF (a : Lv) : Bool := decide (0 ≤ a.1 ∧ a.1 ≤ 30 ∧ a.2.1.length ≤ 10 ∧ a.2.2.1.length ≤ 40 ∧ a.2.2.2.length ≤ 40) && !a.2.1.any long4 && !a.2.2.2.any long4
theorem sml_spec (a : Lv) : CallsTo Try.prog 8 [lvD a] (.bool (smlF a)) := by
 obtain ⟨n, ls, ar, cs⟩ := a
 refine callsTo_of Try.func8 rfl (by decide +kernel) (Nat.le_of_ble_eq_true rfl) ?_
 intro hat B X w0
 have h1 := at_len2 0 1 hat rfl rfl
 have h2 := at_len2 0 2 hat rfl rfl
 have h3 := at_len2 0 3 hat rfl rfl
 rw [List.length_map] at h1 h2 h3
 dsimp only at h1 h2 h3
 repeat' first | refine pw_step rfl ?_ | refine pw_ret ?_ | refine wR ?_ | (refine wpG_split rfl rfl (fun hc => ?_) (fun hc => ?_) <;> try simp only [hcL] at hc) | (refine pw_cond _ rfl rfl (fun hc => ?_) (fun hc => ?_) <;> (try simp only [hcL] at hc) <;> try omega) | simp (disch := omega) only [go_sem, simprocAttr, List.append_eq] | apply And.intro | omega | decide +kernel
 all_goals try (refine bool_some ?_; simp [smlF]; omega)
 have hd : smlF (n, ls, ar, cs) = (!ls.any long4 && !cs.any long4) := by
  rw [smlF, decide_eq_true (by dsimp only; omega)]; simp
 rw [hd]
 refine pw_loopI (κ := Nat) (fun (k : Nat) => k ≤ ls.length ∧ ∀ (j : Nat) y, j < k → ls[j]? = some y → long4 y = false) (fun (k : Nat) => [(1, .ptr 1 0 0 0), (3, .int k)]) (fun (k : Nat) => [(1, .cells [.int n, .d (listsD ls), .d (arcsD ar), .d (listsD cs)])]) (fun (k : Nat) => ls.length - k) 0 ?_ ?_ ?_
 ·exact ⟨Nat.zero_le _, fun j y h => by omega⟩
 ·exact eL [] _ _ (by refine ⟨?_, ?_⟩ <;> (repeat' first | exact fmn | refine fmc ⟨(by first | rfl | (simp (disch := omega) only [go_sem, simprocAttr, inL]; first | done | omega | (congr 1; done))), ?_⟩); done)
 ·rintro k ⟨hk, hinv⟩
  rcases Nat.lt_or_ge k ls.length with hlt | hge
  ·obtain ⟨y, hy⟩ := get_some hlt
   have hyl : y.length ≤ 9223372036854775807 := by have := at_elem (m := y.map D.int) (k := k) 0 1 hat rfl rfl (by rw [List.getElem?_map, hy]; rfl); rwa [List.length_map] at this
   by_cases c : 40 < y.length
   ·have : ls.any long4 = true := any_at hy (by simpa [long4] using c)
    rw [this]
    repeat' first | refine pw_step rfl ?_ | refine pw_ret ?_ | refine wR ?_ | (refine wpG_split rfl rfl (fun hc => ?_) (fun hc => ?_) <;> try simp only [hcL] at hc) | (refine pw_cond _ rfl rfl (fun hc => ?_) (fun hc => ?_) <;> (try simp only [hcL] at hc) <;> try omega) | simp (disch := omega) only [go_sem, simprocAttr, hy] | apply And.intro | omega | decide +kernel
    exact bool_some rfl
   ·repeat' first | refine pw_step rfl ?_ | refine pw_ret ?_ | refine wR ?_ | (refine wpG_split rfl rfl (fun hc => ?_) (fun hc => ?_) <;> try simp only [hcL] at hc) | (refine pw_cond _ rfl rfl (fun hc => ?_) (fun hc => ?_) <;> (try simp only [hcL] at hc) <;> try omega) | simp (disch := omega) only [go_sem, simprocAttr, hy] | apply And.intro | omega | decide +kernel
    refine ⟨k + 1, ?_, eL [] _ _ (by refine ⟨?_, ?_⟩ <;> (repeat' first | exact fmn | refine fmc ⟨(by first | rfl | (simp (disch := omega) only [go_sem, simprocAttr, inL]; first | done | omega | (congr 1; done))), ?_⟩); done), ?_⟩
    ·exact ⟨by omega, upto_succ hinv hy (by simpa [long4] using c)⟩
    ·omega
  ·have : ls.any long4 = false := any_no fun j y hj => hinv j y (by omega)
   rw [this]
   repeat' first | refine pw_step rfl ?_ | refine pw_ret ?_ | refine wR ?_ | (refine wpG_split rfl rfl (fun hc => ?_) (fun hc => ?_) <;> try simp only [hcL] at hc) | (refine pw_cond _ rfl rfl (fun hc => ?_) (fun hc => ?_) <;> (try simp only [hcL] at hc) <;> try omega) | simp (disch := omega) only [go_sem, simprocAttr] | apply And.intro | omega | decide +kernel
   refine pw_loopI (κ := Nat) (fun (k : Nat) => k ≤ cs.length ∧ ∀ (j : Nat) y, j < k → cs[j]? = some y → long4 y = false) (fun (k : Nat) => [(1, .ptr 1 0 0 0), (4, .int k)]) (fun (k : Nat) => [(1, .cells [.int n, .d (listsD ls), .d (arcsD ar), .d (listsD cs)])]) (fun (k : Nat) => cs.length - k) 0 ?_ ?_ ?_
   ·exact ⟨Nat.zero_le _, fun j y h => by omega⟩
   ·exact eL [] _ _ (by refine ⟨?_, ?_⟩ <;> (repeat' first | exact fmn | refine fmc ⟨(by first | rfl | (simp (disch := omega) only [go_sem, simprocAttr, inL]; first | done | omega | (congr 1; done))), ?_⟩); done)
   ·rintro k ⟨hk, hinv⟩
    rcases Nat.lt_or_ge k cs.length with hlt | hge
    ·obtain ⟨y, hy⟩ := get_some hlt
     have hyl : y.length ≤ 9223372036854775807 := by have := at_elem (m := y.map D.int) (k := k) 0 3 hat rfl rfl (by rw [List.getElem?_map, hy]; rfl); rwa [List.length_map] at this
     by_cases c : 40 < y.length
     ·have : cs.any long4 = true := any_at hy (by simpa [long4] using c)
      rw [this]
      repeat' first | refine pw_step rfl ?_ | refine pw_ret ?_ | refine wR ?_ | (refine wpG_split rfl rfl (fun hc => ?_) (fun hc => ?_) <;> try simp only [hcL] at hc) | (refine pw_cond _ rfl rfl (fun hc => ?_) (fun hc => ?_) <;> (try simp only [hcL] at hc) <;> try omega) | simp (disch := omega) only [go_sem, simprocAttr, hy] | apply And.intro | omega | decide +kernel
      exact bool_some rfl
     ·repeat' first | refine pw_step rfl ?_ | refine pw_ret ?_ | refine wR ?_ | (refine wpG_split rfl rfl (fun hc => ?_) (fun hc => ?_) <;> try simp only [hcL] at hc) | (refine pw_cond _ rfl rfl (fun hc => ?_) (fun hc => ?_) <;> (try simp only [hcL] at hc) <;> try omega) | simp (disch := omega) only [go_sem, simprocAttr, hy] | apply And.intro | omega | decide +kernel
      refine ⟨k + 1, ?_, eL [] _ _ (by refine ⟨?_, ?_⟩ <;> (repeat' first | exact fmn | refine fmc ⟨(by first | rfl | (simp (disch := omega) only [go_sem, simprocAttr, inL]; first | done | omega | (congr 1; done))), ?_⟩); done), ?_⟩
      ·exact ⟨by omega, upto_succ hinv hy (by simpa [long4] using c)⟩
      ·omega
    ·have : cs.any long4 = false := any_no fun j y hj => hinv j y (by omega)
     rw [this]
     repeat' first | refine pw_step rfl ?_ | refine pw_ret ?_ | refine wR ?_ | (refine wpG_split rfl rfl (fun hc => ?_) (fun hc => ?_) <;> try simp only [hcL] at hc) | (refine pw_cond _ rfl rfl (fun hc => ?_) (fun hc => ?_) <;> (try simp only [hcL] at hc) <;> try omega) | simp (disch := omega) only [go_sem, simprocAttr] | apply And.intro | omega | decide +kernel
     exact bool_some rfl
theorem sml_in {a : Lv} (h : smlF a = true) : a.2.1.length ≤ 10 ∧ a.2.2.1.length ≤ 40 ∧ ∀ y, y ∈ a.2.1 → y.length ≤ 40 := by
 simp only [smlF, Bool.and_eq_true, decide_eq_true_eq, Bool.not_eq_true', List.any_eq_false] at h
 obtain ⟨⟨⟨h0, h00, h1, h2, h3⟩, h4⟩, h5⟩ := h
 refine ⟨h1, h2, fun y hy => ?_⟩
 have := h4 y hy; simp only [long4, decide_eq_true_eq] at this; omega
set_option maxHeartbeats 1000000 in
theorem sameNet_refl (g : Net) : CallsTo Try.prog 12 [nD g, nD g] (.bool true) := by
 obtain ⟨n, l⟩ := g
 refine callsTo_of Try.func12 rfl (by decide +kernel) (Nat.le_of_ble_eq_true rfl) ?_
 intro hat B X w0
 have hl := at_len2 0 1 hat rfl rfl
 rw [List.length_map] at hl
 dsimp only at hl
 repeat' first | refine pw_step rfl ?_ | refine pw_ret ?_ | refine wR ?_ | (refine wpG_split rfl rfl (fun hc => ?_) (fun hc => ?_) <;> try simp only [hcL] at hc) | (refine pw_cond _ rfl rfl (fun hc => ?_) (fun hc => ?_) <;> (try simp only [hcL] at hc) <;> try omega) | simp (disch := omega) only [go_sem, simprocAttr] | apply And.intro | omega | decide +kernel
 refine pw_loopI (κ := Nat) (fun (k : Nat) => k ≤ l.length) (fun (k : Nat) => [(2, .ptr 2 0 0 0), (3, .ptr 3 0 0 0), (5, .int k)]) (fun (k : Nat) => [(2, .cells [.int n, .d (bdsD l)]), (3, .cells [.int n, .d (bdsD l)])]) (fun (k : Nat) => l.length - k) 0 ?_ ?_ ?_
 ·exact Nat.zero_le _
 ·exact eL [] _ _ (by refine ⟨?_, ?_⟩ <;> (repeat' first | exact fmn | refine fmc ⟨(by first | rfl | (simp (disch := omega) only [go_sem, simprocAttr, inL]; first | done | omega | (congr 1; done))), ?_⟩); done)
 ·rintro k hk
  rcases Nat.lt_or_ge k l.length with hlt | hge
  ·obtain ⟨p, hp⟩ := get_some hlt
   repeat' first | refine pw_step rfl ?_ | refine pw_ret ?_ | refine wR ?_ | (refine wpG_split rfl rfl (fun hc => ?_) (fun hc => ?_) <;> try simp only [hcL] at hc) | (refine pw_cond _ rfl rfl (fun hc => ?_) (fun hc => ?_) <;> (try simp only [hcL] at hc) <;> try omega) | simp (disch := omega) only [go_sem, simprocAttr, hp] | apply And.intro | omega | decide +kernel
   refine ⟨k + 1, ?_, eL [] _ _ (by refine ⟨?_, ?_⟩ <;> (repeat' first | exact fmn | refine fmc ⟨(by first | rfl | (simp (disch := omega) only [go_sem, simprocAttr, inL]; first | done | omega | (congr 1; done))), ?_⟩); done), ?_⟩
   ·omega
   ·omega
  ·repeat' first | refine pw_step rfl ?_ | refine pw_ret ?_ | refine wR ?_ | (refine wpG_split rfl rfl (fun hc => ?_) (fun hc => ?_) <;> try simp only [hcL] at hc) | (refine pw_cond _ rfl rfl (fun hc => ?_) (fun hc => ?_) <;> (try simp only [hcL] at hc) <;> try omega) | simp (disch := omega) only [go_sem, simprocAttr] | apply And.intro | omega | decide +kernel
   exact rfl
end Go.Proofs.Ythbcmebhpabpnaa
namespace Go.Proofs.Ythbcmebhpabpnaa
open Go Go.PS Go.Proofs
open Sx (Bd bdD bdsD Net nD nOk BdsOk bdsOk_of PotB zeros Best SolveOk solve_best best_bd best_pot best_le mid_ok mid_at midF mir_ok pot_neg feasF costF costB costAt sumI gap feas_pot)
set_option maxRecDepth 100000
attribute [local irreducible] wpRun wpG CallsTo CallsM

theorem at0_sx (r : List Int) (v : Int) : Sx.at0 r v = at0 r v := rfl
variable {a : Lv} {ws : List Int} {sep : Int}
abbrev netN (a : Lv) : Nat := tot a.2.1 + a.2.2.1.length
abbrev netL (a : Lv) (ws : List Int) (sep : Int) : List Bd := arcsB a a.2.2.1.length ++ allP ws sep a.2.1 a.2.1.length
theorem mem_arcsB {k : Nat} {b : Bd} (h : b ∈ arcsB a k) : ∃ i x, i < k ∧ a.2.2.1[i]? = some x ∧ (b = (((tot a.2.1 + i : Nat) : Int), x.1, 0, wgtF a.1 x) ∨ b = (((tot a.2.1 + i : Nat) : Int), x.2, 0, wgtF a.1 x)) := by
 obtain ⟨i, hi, hb⟩ := mem_catL.1 h
 rw [arcL] at hb
 split at hb
 ·rename_i x hx
  rw [arcB] at hb
  simp only [List.mem_cons, List.not_mem_nil, or_false] at hb
  exact ⟨i, x, hi, hx, hb⟩
 ·simp at hb
theorem idx_of_get {l : List Int} (hn : l.Nodup) {k : Nat} {v : Int} (h : l[k]? = some v) : l.idxOf v = k := by
 obtain ⟨h1, h2⟩ := List.getElem?_eq_some_iff.1 h
 have h3 := List.idxOf_lt_length_iff.2 (List.mem_of_getElem? h)
 have h4 : l[l.idxOf v] = v := List.getElem_idxOf h3
 rcases Nat.lt_trichotomy (l.idxOf v) k with c | c | c
 ·exact absurd (h4.trans h2.symm) (List.pairwise_iff_getElem.1 hn _ _ h3 h1 c)
 ·exact c
 ·exact absurd (h2.trans h4.symm) (List.pairwise_iff_getElem.1 hn _ _ h1 h3 c)
theorem flat_at {ls : List (List Int)} {i : Nat} {x : List Int} (h : ls[i]? = some x) {j : Nat} {v : Int} (hj : x[j]? = some v) : ls.flatten[(ls.take i).flatten.length + j]? = some v := by
 obtain ⟨h1, h2⟩ := List.getElem?_eq_some_iff.1 h
 have e : ls = ls.take i ++ x :: ls.drop (i + 1) := by rw [← h2, ← List.drop_eq_getElem_cons h1, List.take_append_drop]
 have hjl := (List.getElem?_eq_some_iff.1 hj).1
 have e2 : ls.flatten = (ls.take i).flatten ++ (x ++ (ls.drop (i + 1)).flatten) := by
  conv => lhs; rw [e]
  simp
 rw [e2, List.getElem?_append_right (by omega), Nat.add_sub_cancel_left, List.getElem?_append_left hjl, hj]
theorem mem_allP {k : Nat} {b : Bd} (h : b ∈ allP ws sep a.2.1 k) : ∃ (i : Nat) (x : List Int) (j : Nat) (u v : Int), a.2.1[i]? = some x ∧ x[j]? = some u ∧ x[j + 1]? = some v ∧ b = (u, v, apF ws sep u v, 0) := by
 obtain ⟨i, hi, hb⟩ := mem_catL.1 h
 rw [prL] at hb
 split at hb
 ·rename_i x hx
  obtain ⟨j, hj, rfl⟩ := List.mem_map.1 hb
  have hj := List.mem_range.1 hj
  exact ⟨i, x, j, _, _, hx, at0_at (by omega), at0_at (by omega), rfl⟩
 ·simp at hb
def potA (a : Lv) (v : Nat) : Int := if v < tot a.2.1 then 4194304 * (a.2.1.flatten.idxOf (v : Int) : Int) else 0
theorem net_ok (h : VA a ws sep) (hal : a.2.2.1.length ≤ 40) : nOk ((netN a : Int), netL a ws sep) = true := by
 have h1 := h.tt
 have h2 := allP_len ws sep a.2.1 a.2.1.length (Nat.le_refl _)
 rw [List.take_length] at h2
 have h3 := arcsB_len a a.2.2.1.length (Nat.le_refl _)
 simp only [nOk, Bool.and_eq_true, decide_eq_true_eq, Bool.not_eq_true', List.any_eq_false, List.length_append]
 have hN : netN a = tot a.2.1 + a.2.2.1.length := rfl
 refine ⟨⟨by omega, by omega, by omega⟩, fun b hb => ?_⟩
 rw [List.mem_append] at hb
 simp only [Sx.bdIn, Bool.not_eq_true', decide_eq_false_iff_not, Classical.not_not]
 rcases hb with hb | hb
 ·obtain ⟨i, x, hi, hx, hb⟩ := mem_arcsB hb
  have hm := h.arcs x (List.mem_of_getElem? hx)
  have hw := wgt_in a.1 x
  rcases hb with rfl | rfl <;> (dsimp only; omega)
 ·obtain ⟨i, x, j, u, v, hx, hu, hv, rfl⟩ := mem_allP hb
  have hm := List.mem_of_getElem? hx
  have b1 := h.vert x hm _ (List.mem_of_getElem? hu)
  have b2 := h.vert x hm _ (List.mem_of_getElem? hv)
  have b3 := ap_in h u v
  have hne : u ≠ v := by
   rintro rfl
   have e1 := idx_of_get h.nodup (flat_at hx hu)
   have e2 := idx_of_get h.nodup (flat_at hx hv)
   omega
  dsimp only; omega
theorem net_pot (h : VA a ws sep) : PotB (netL a ws sep) (zeros (netL a ws sep)) (potA a) := by
 refine Sx.potB_nil.1 fun k b hk => ⟨?_, fun hf => by simp [Sx.at0] at hf⟩
 have hb := List.mem_of_getElem? hk
 rw [List.mem_append] at hb
 rcases hb with hb | hb
 ·obtain ⟨i, x, hi, hx, hb⟩ := mem_arcsB hb
  rcases hb with rfl | rfl
  ·dsimp only
   rw [potA, if_neg (by omega), potA]
   split <;> omega
  ·dsimp only
   rw [potA, if_neg (by omega), potA]
   split <;> omega
 ·obtain ⟨i, x, j, u, v, hx, hu, hv, rfl⟩ := mem_allP hb
  have hm := List.mem_of_getElem? hx
  have b1 := h.vert x hm _ (List.mem_of_getElem? hu)
  have b2 := h.vert x hm _ (List.mem_of_getElem? hv)
  have b3 := ap_in h u v
  have e1 := idx_of_get h.nodup (flat_at hx hu)
  have e2 := idx_of_get h.nodup (flat_at hx hv)
  dsimp only
  rw [potA, if_pos (by omega), potA, if_pos (by omega), show ((u.toNat : Nat) : Int) = u by omega, show ((v.toNat : Nat) : Int) = v by omega, e1, e2]
  omega
structure Bal (a : Lv) (ws : List Int) (sep : Int) (M : List Int) : Prop where
 len : M.length = netN a
 bd : ∀ v : Nat, v < M.length → 0 ≤ at0 M v ∧ at0 M v ≤ 34359738368
 pot : PotB (netL a ws sep) (zeros (netL a ws sep)) (fun v => at0 M v)
 calls : CallsM Try.prog 19 [.d (nD (netF a ws sep))] [(2000, .dead)] (.tup [.ref 2000 1 0 M.length M.length, .int 0]) [(2000, .row 1 (M.map D.int))]
 least : ∀ x : List Int, PotB (netL a ws sep) (zeros (netL a ws sep)) (fun v => at0 x v) → costB (netL a ws sep) M ≤ costB (netL a ws sep) x
theorem bal_parts (h : VA a ws sep) (hal : a.2.2.1.length ≤ 40) : ∃ A f b f2, Best (netN a) (netL a ws sep) A f ∧ Best (netN a) ((netL a ws sep).map Sx.mirB) b f2 ∧ Bal a ws sep (midF A b) := by
 have hg := net_ok h hal
 obtain ⟨hbd, hn, hll⟩ := bdsOk_of hg
 obtain ⟨A, f, hS, hB⟩ := solve_best hg ⟨_, net_pot h⟩
 have hgm := mir_ok hg
 obtain ⟨hbm, _, _⟩ := bdsOk_of hgm
 obtain ⟨b, f2, hS2, hB2⟩ := solve_best hgm ⟨_, pot_neg hbd (Sx.potB_zeros (best_pot hbd hB))⟩
 have hN : netN a ≤ 2048 := hn
 have hfa : Sx.fromTo A 34359738368 := fun v => by have := best_bd hbd hB v; omega
 have hfb : Sx.fromTo b 34359738368 := fun v => by have := best_bd hbm hB2 v; omega
 have hmid := mid_ok hg hB hB2
 have hml : (midF A b).length = netN a := by simp [midF, hB.rl]
 have hfp := feas_pot hmid.1
 have hrk : Sx.rkOk ((netN a : Int), netL a ws sep) (midF A b) = true := by
  have := hmid.1
  simp only [feasF, Bool.and_eq_true] at this; exact this.1
 obtain ⟨_, _, hrk⟩ := Sx.rkOk_in hrk
 refine ⟨A, f, b, f2, hB, hB2, hml, fun v hv => ?_, hfp.2.2, ?_, fun x hx => ?_⟩
 ·have h1 := hrk v (by omega) (by dsimp only; omega)
  rw [at0_sx] at h1
  refine ⟨?_, h1.2.2⟩
  have h2 := mid_at (a := A) (b := b) (v := v) (by rw [hB.rl]; omega)
  rw [at0_sx] at h2
  have h3 := Sx.lowN_le (h := Sx.halfAt A b (Sx.topN A b A.length)) (k := A.length) (v := v) (by rw [hB.rl]; omega)
  omega
 ·have hc := Sx.Balanced_ok ((netN a : Int), netL a ws sep) A b f f2 hS hS2 (by dsimp only; omega) (by rw [hB.rl]; omega) (fun v => by have := hfa v; omega) (fun v => by have := hfb v; omega)
  rw [show A.length = (midF A b).length by rw [hml, hB.rl]] at hc
  exact hc
 ·have h1 := (best_le hbd hB hx).1
  have h2 := hmid.2
  have hfe := Sx.best_feas hg hB
  have hr1 : Sx.rkOk ((netN a : Int), netL a ws sep) A = true := by
   simp only [feasF, Bool.and_eq_true] at hfe; exact hfe.1
  have hr2 : Sx.rkOk ((netN a : Int), netL a ws sep) (midF A b) = true := by
   have := hmid.1
   simp only [feasF, Bool.and_eq_true] at this; exact this.1
  rw [Sx.cost_is hr1, Sx.cost_is hr2] at h2
  omega
end Go.Proofs.Ythbcmebhpabpnaa
