/- The best order of a layer costs least (no program in sight). -/
import Derived.Test.YtldbcbclhpcofaaGreatSq
import Derived.Test.YtldbcbclhpcofaaGreatCd
import Derived.Test.YtldbcbclhpcofaaGreatF
import Derived.Test.YtldbcbclhpcofaaGreatPSBridge
import Derived.Test.YtldbcbclhpcofaaGreatTypes
import Derived.Test.YtldbcbclhpcofaaGreatPSFam
set_option linter.unusedSimpArgs false
set_option linter.unusedVariables false
namespace Go.Proofs.YtldbcbclhpcofaaGreat
open Go Go.PS Go.Proofs
open Go.Bd (ix invF invN comN sumC sumC_add sumC_mul invC Part bestF)

theorem cellAt_sq {g : Nat → Nat → Int} {n u v : Nat} (hu : u < n) (hv : v < n) : Zan (sqM g n) u v = g u v := by
 rw [Zan, sqM, lstN, List.getElem?_map, List.getElem?_range hu]
 simp only [Option.map_some, Option.getD_some]
 rw [at0, Int.toNat_natCast, rowG_get hv]; rfl
theorem stM_len (a : Lv) (old y : List Int) (w : Int) (i : Nat) : (stM a old y w i).length = y.length := by simp [stM, sqM]
def yG (y : List Int) (k : Nat) : Int := (y[k]?).getD 0
theorem wCell_inv (old y : List Int) (w : Int) (u v : Nat) : wCell old y w u v = w * invC old (yG y) u v := by
 have e : ∀ k : Nat, at0 y k = yG y k := fun k => by rw [at0, Int.toNat_natCast]; rfl
 rw [wCell, invC, e, e]
 by_cases h1 : yG y u ∈ old <;> by_cases h2 : yG y v ∈ old
 ·rw [ix_nat h1, ix_nat h2]
  by_cases h3 : old.idxOf (yG y v) < old.idxOf (yG y u)
  ·rw [if_pos ⟨by omega, by omega⟩, if_pos ⟨h1, h2, h3⟩, Int.mul_one]
  ·rw [if_neg (fun h => h3 (by omega)), if_neg (fun h => h3 h.2.2), Int.mul_zero]
 ·rw [if_neg (fun h => by
   have := h.1
   rw [ix, if_neg h2] at this; omega), if_neg (fun h => h2 h.2.1), Int.mul_zero]
 ·rw [if_neg (fun h => by
   have := h.2
   rw [ix_nat h2, ix, if_neg h1] at this; omega), if_neg (fun h => h1 h.1), Int.mul_zero]
 ·rw [if_neg (fun h => by
   have := h.1
   rw [ix, if_neg h2] at this; omega), if_neg (fun h => h1 h.1), Int.mul_zero]
theorem accC_two (a : Lv) (old y : List Int) (w : Int) (i : Nat) (u v : Nat) : accC a old y w i 2 u v = w * invC old (yG y) u v + bothC a i u v := by
 rw [← wCell_inv]
 show wCell old y w u v + Zan (Zat a i ((i : Int) - 1)) u v + Zan (Zat a i ((i : Int) + 1)) u v = _
 rw [bothC]; omega
theorem stM_sum (a : Lv) (old y : List Int) (w : Int) (i : Nat) {o : List Nat} (ho : Part y.length 0 o) :
  sumC (Zan (stM a old y w i)) o = w * sumC (invC old (yG y)) o + sumC (bothC a i) o := by
 rw [← sumC_mul, ← sumC_add]
 refine sumC_congr ho.nd fun u hu v hv _ => ?_
 rw [stM, cellAt_sq (ho.lt u hu) (ho.lt v hv), accC_two]
theorem Zcn {a : Lv} (hv : Zax a = true) {i : Nat} {y : List Int} (hy : a.2.1[i]? = some y) : y.Nodup :=
 (List.pairwise_flatten.1 (Zcb hv)).1 y (List.mem_of_getElem? hy)
theorem permL_perm {y : List Int} {o : List Nat} (hn : y.Nodup) (ho : Part y.length 0 o) : (Zbk y o).Perm y :=
 (List.perm_ext_iff_of_nodup (permL_nodup hn ho) hn).2 fun _ => permL_mem ho
theorem reorder_put {a : Lv} (hv : Zax a = true) {i : Nat} {y : List Int} {o : List Nat} (hy : a.2.1[i]? = some y) (ho : Part y.length 0 o) : Zch a i (Zbk y o) = (putL a i (Zbk y o), 0) := by
 have hil := (List.getElem?_eq_some_iff.1 hy).1
 rw [Zch, if_neg (by rw [hv]; decide), if_neg (by omega), Int.toNat_natCast, hy, Option.getD_some, if_neg (by rw [sortL_congr (permL_perm (Zcn hv hy) ho)]; simp)]
 rfl
theorem put_valid {a : Lv} (hv : Zax a = true) {i : Nat} {y : List Int} {o : List Nat} (hy : a.2.1[i]? = some y) (ho : Part y.length 0 o) : Zax (putL a i (Zbk y o)) = true := by
 have h := reorder_put hv hy ho
 have := reorder_valid (a := a) (i := i) (o := Zbk y o) (by rw [h])
 rw [h] at this; exact this
theorem put_self {a : Lv} {i : Nat} {y : List Int} (hy : a.2.1[i]? = some y) : putL a i y = a := by
 obtain ⟨hl, he⟩ := List.getElem?_eq_some_iff.1 hy
 rw [putL, ← he, List.set_getElem_self]
end Go.Proofs.YtldbcbclhpcofaaGreat
namespace Go.Proofs.YtldbcbclhpcofaaGreat
open Go Go.PS Go.Proofs
open Go.Bd (sm ix invF invN comN sumC Part bestF)
set_option maxRecDepth 100000
attribute [local irreducible] Zaw wpG Zah Zai

theorem cell_small (a : Lv) (i f : Int) (u v : Nat) : Zan (Zat a i f) u v ≤ ((a.2.2.1.length * a.2.2.1.length : Nat) : Int) := by
 have hz : Zan [] u v = 0 := by simp [Zan, lstN, at0]
 rw [Zat]
 split
 ·by_cases hu : u < (endsF a.2.1 a.2.2.1 i f (lenAt a i)).length
  ·by_cases hv : v < (endsF a.2.1 a.2.2.1 i f (lenAt a i)).length
   ·rw [cellAt_mat hu hv, cellF]
    split
    ·omega
    ·have hl : ∀ k, (lstN (endsF a.2.1 a.2.2.1 i f (lenAt a i)) k).length ≤ a.2.2.1.length := fun k => by
      by_cases hk : k < lenAt a i
      ·rw [endsF, lstN, List.getElem?_map, List.getElem?_range hk]
       exact endsN_len ..
      ·rw [lstN_out (by simp [endsF]; omega)]; exact Nat.zero_le _
     have := Nat.le_trans (behindF_le _ _) (Nat.mul_le_mul (hl u) (hl v))
     omega
   ·have : Zan (matF (endsF a.2.1 a.2.2.1 i f (lenAt a i))) u v = 0 := by
     rw [Zan, matF, lstN, List.getElem?_map, List.getElem?_range hu]
     simp only [Option.map_some, Option.getD_some]
     rw [at0, Int.toNat_natCast, List.getElem?_eq_none (by simp; omega)]; rfl
    omega
  ·have : Zan (matF (endsF a.2.1 a.2.2.1 i f (lenAt a i))) u v = 0 := by
    rw [Zan, lstN_out (by rw [matF]; simp; omega)]; simp [at0]
   omega
 ·rw [hz]; omega
theorem stM_ok {a : Lv} {old y : List Int} {w : Int} {i : Nat} (hw : 0 ≤ w ∧ w ≤ 1000) (har : a.2.2.1.length ≤ 700) (hy : y.length ≤ 8) : okM (stM a old y w i) = true := by
 refine sq_ok ⟨by rw [stM_len]; omega, fun p hp => ?_, fun p hp x hx => ?_⟩ (by rw [stM_len]; exact hy)
 ·rw [stM_len]
  obtain ⟨u, _, rfl⟩ := List.mem_map.1 hp
  exact rowG_len _ _
 ·obtain ⟨u, _, rfl⟩ := List.mem_map.1 hp
  obtain ⟨v, _, rfl⟩ := List.mem_map.1 hx
  have hb : a.2.2.1.length * a.2.2.1.length ≤ 490000 := Nat.le_trans (Nat.mul_le_mul har har) (by decide)
  have h1 := cell_small a i ((i : Int) - 1) u v
  have h2 := cell_small a i ((i : Int) + 1) u v
  have h3 := (accC_le a old y hw i 2 u v).1
  have h4 := (accC_le a old y hw i 0 u v).2
  have e : accC a old y w i 2 u v = accC a old y w i 0 u v + Zan (Zat a i ((i : Int) - 1)) u v + Zan (Zat a i ((i : Int) + 1)) u v := rfl
  omega
theorem bestAll_part (m : List (List Int)) : Part m.length 0 (Zbl m).1 ∧ (Zbl m).2 = sumC (Zan m) (Zbl m).1 := by
 obtain ⟨h1, _, h3⟩ := Go.Bd.best_of (Zan m) m.length [] (part_nil _) _ (bestAll_eq m)
 exact ⟨h1, h3⟩
theorem bestAll_le (m : List (List Int)) {o : List Nat} (ho : Part m.length 0 o) : (Zbl m).2 ≤ sumC (Zan m) o := by
 obtain ⟨s, h1, h2⟩ := Go.Bd.best_min (Zan m) m.length [] (part_nil _) o ho (List.nil_prefix)
 rw [bestAll_eq, Option.some.injEq] at h1
 rw [h1]; exact h2
end Go.Proofs.YtldbcbclhpcofaaGreat
namespace Go.Proofs.YtldbcbclhpcofaaGreat
open Go Go.PS Go.Proofs
open Go.Bd (sm ix invF invN comN sumC Part bestF)
set_option maxRecDepth 100000
attribute [local irreducible] Zaw wpG Zah Zai

end Go.Proofs.YtldbcbclhpcofaaGreat
namespace Go.Proofs.YtldbcbclhpcofaaGreat
open Go Go.PS Go.Proofs
open Go.Bd (sm ix invF invN comN sumC Part bestF)
set_option maxRecDepth 100000
attribute [local irreducible] Zaw wpG Zah Zai

end Go.Proofs.YtldbcbclhpcofaaGreat
namespace Go.Proofs.YtldbcbclhpcofaaGreat
open Go Go.PS Go.Proofs
open Go.Bd (sm ix invF invN comN sumC Part bestF)
set_option maxRecDepth 100000
attribute [local irreducible] Zaw wpG Zah Zai

end Go.Proofs.YtldbcbclhpcofaaGreat
namespace Go.Proofs.YtldbcbclhpcofaaGreat
open Go Go.PS Go.Proofs
open Go.Bd (sm ix invF invN comN sumC Part bestF)
set_option maxRecDepth 100000
attribute [local irreducible] Zaw wpG Zah Zai

theorem sum_nil {a : Lv} (h : Zax a = true) : costF a [] 7 = Zbf a := by
 have hz : ∀ k, invS a [] k = 0 := by
  intro k
  induction k with
  | zero => rfl
  | succ k ih =>
   have s1 : invS a [] (k + 1) = invS a [] k + (invF (lstN [] k) (lstN a.2.1 k) : Int) := rfl
   have s2 : ∀ (l : List Int) i, comN [] l i = [] := by
    intro l i
    induction i with
    | zero => rfl
    | succ i ihi => rw [comN]; split <;> simp [ihi]
   have s3 : lstN [] k = [] := lstN_out (Nat.zero_le _)
   rw [s1, ih, s3, invF, s2]; rfl
 rw [costF, if_pos (by rw [okW, h]; decide), hz]; omega
end Go.Proofs.YtldbcbclhpcofaaGreat
namespace Go.Proofs.YtldbcbclhpcofaaGreat
open Go Go.PS Go.Proofs
open Go.Bd (comN comO keptF cntN)
set_option maxRecDepth 100000
attribute [local irreducible] Zaw wpG Zah Zai

end Go.Proofs.YtldbcbclhpcofaaGreat
namespace Go.Proofs.YtldbcbclhpcofaaGreat
open Go Go.PS Go.Proofs
open Go.Bd (invF comN comO keptF sumC Part)

theorem reorder_perm {a : Lv} (hv : Zax a = true) {i : Nat} {y z : List Int} (hy : a.2.1[i]? = some y) (hz : z.Perm y) : Zch a i z = (putL a i z, 0) := by
 have hil := (List.getElem?_eq_some_iff.1 hy).1
 rw [Zch, if_neg (by rw [hv]; decide), if_neg (by omega), Int.toNat_natCast, hy, Option.getD_some, if_neg (by rw [sortL_congr hz]; simp)]
 rfl
theorem perm_valid {a : Lv} (hv : Zax a = true) {i : Nat} {y z : List Int} (hy : a.2.1[i]? = some y) (hz : z.Perm y) : Zax (putL a i z) = true := by
 have h := reorder_perm hv hy hz
 have := reorder_valid (a := a) (i := i) (o := z) (by rw [h])
 rw [h] at this; exact this
structure Kin (a b : Lv) : Prop where
 ok : Zax b = true
 wd : wide b
 len : b.2.1.length = a.2.1.length
 arcs : b.2.2.1 = a.2.2.1
 perm : ∀ k, (lstN b.2.1 k).Perm (lstN a.2.1 k)
theorem Kin.refl {a : Lv} (hv : Zax a = true) (hw : wide a) : Kin a a := ⟨hv, hw, rfl, rfl, fun _ => List.Perm.refl _⟩
theorem Kin.put {a b : Lv} (h : Kin a b) {i : Nat} {y z : List Int} (hy : b.2.1[i]? = some y) (hz : z.Perm y) : Kin a (putL b i z) := by
 have hil := (List.getElem?_eq_some_iff.1 hy).1
 have hyl : y.length ≤ 512 := by have := layer_le h.ok i; rw [Zbn hy] at this; exact this
 refine ⟨perm_valid h.ok hy hz, ?_, ?_, h.arcs, fun k => ?_⟩
 ·have := reorder_wide (a := b) (i := i) (o := z) h.wd (by have := hz.length_eq; omega)
  rw [reorder_perm h.ok hy hz] at this; exact this
 ·rw [← h.len]; exact List.length_set
 ·have hl : (putL b i z).2.1 = b.2.1.set i z := rfl
  by_cases c : k = i
  ·subst c
   have hs : lstN (b.2.1.set k z) k = z := by rw [lstN, List.getElem?_set, if_pos rfl, if_pos hil]; rfl
   rw [hl, hs]
   have := h.perm k
   rw [Zbn hy] at this
   exact hz.trans this
  ·have : lstN (b.2.1.set i z) k = lstN b.2.1 k := by rw [lstN, lstN, List.getElem?_set, if_neg (fun h => c h.symm)]
   rw [hl, this]; exact h.perm k
theorem Kin.lay {a b : Lv} (h : Kin a b) {k : Nat} (hk : k < a.2.1.length) : b.2.1[k]? = some (lstN b.2.1 k) := by
 obtain ⟨y, hy⟩ := Zam (l := b.2.1) (k := k) (by have := h.len; omega)
 rw [Zbn hy]; exact hy
end Go.Proofs.YtldbcbclhpcofaaGreat
namespace Go.Proofs.YtldbcbclhpcofaaGreat
open Go Go.PS Go.Proofs
set_option maxRecDepth 100000
attribute [local irreducible] Zaw wpG Zah Zai

end Go.Proofs.YtldbcbclhpcofaaGreat
namespace Go.Proofs.YtldbcbclhpcofaaGreat
open Go Go.PS Go.Proofs
set_option maxRecDepth 100000
attribute [local irreducible] Zaw wpG Zah Zai

end Go.Proofs.YtldbcbclhpcofaaGreat
namespace Go.Proofs.YtldbcbclhpcofaaGreat
open Go Go.PS Go.Proofs
open Go.Stb
set_option maxRecDepth 100000
attribute [local irreducible] Zaw wpG Zah Zai

end Go.Proofs.YtldbcbclhpcofaaGreat
namespace Go.Proofs.YtldbcbclhpcofaaGreat
open Go Go.PS Go.Proofs
open Go.Stb
set_option maxRecDepth 100000
attribute [local irreducible] Zaw wpG Zah Zai

end Go.Proofs.YtldbcbclhpcofaaGreat
namespace Go.Proofs.YtldbcbclhpcofaaGreat
open Go Go.PS Go.Proofs
open Go.Stb
set_option maxRecDepth 100000
attribute [local irreducible] Zaw wpG Zah Zai

end Go.Proofs.YtldbcbclhpcofaaGreat
namespace Go.Proofs.YtldbcbclhpcofaaGreat
open Go Go.PS Go.Proofs
open Go.Stb
set_option maxRecDepth 100000
attribute [local irreducible] Zaw wpG Zah Zai

def Blk (R : Nat → Nat → Prop) (s : Nat) : List Nat → List (List Nat) → Prop
 | L, [] => L = []
 | L, X :: Xs => X.Perm (L.take s) ∧ X.Pairwise R ∧ Blk R s (L.drop s) Xs
theorem Blk.nil_flat {R : Nat → Nat → Prop} {s : Nat} : ∀ {Xs : List (List Nat)}, Blk R s [] Xs → Xs.flatten = []
 | [], _ => rfl
 | X :: Xs, h => by
  obtain ⟨h1, _, h3⟩ := h
  rw [List.take_nil, List.perm_nil] at h1
  rw [List.drop_nil] at h3
  rw [List.flatten_cons, h1, Blk.nil_flat h3]; rfl
theorem Blk.nil_any {R : Nat → Nat → Prop} {s t : Nat} : ∀ {Xs : List (List Nat)}, Blk R s [] Xs → Blk R t [] Xs
 | [], h => h
 | X :: Xs, h => by
  obtain ⟨h1, h2, h3⟩ := h
  rw [List.take_nil] at h1
  rw [List.drop_nil] at h3
  exact ⟨by rw [List.take_nil]; exact h1, h2, by rw [List.drop_nil]; exact Blk.nil_any h3⟩
theorem Blk.perm {R : Nat → Nat → Prop} {s : Nat} : ∀ {L : List Nat} {Xs : List (List Nat)}, Blk R s L Xs → Xs.flatten.Perm L
 | L, [], h => by
  have : L = [] := h
  subst this; exact List.Perm.refl _
 | L, X :: Xs, h => by
  obtain ⟨h1, _, h3⟩ := h
  have := h1.append (Blk.perm h3)
  rw [List.take_append_drop] at this
  rw [List.flatten_cons]; exact this
theorem Blk.short {R : Nat → Nat → Prop} {s t : Nat} {L : List Nat} {Xs : List (List Nat)} (h : Blk R s L Xs) (hl : L.length ≤ s) (ht : L.length ≤ t) : Blk R t L Xs := by
 cases Xs with
 | nil => exact h
 | cons X Xs =>
  obtain ⟨h1, h2, h3⟩ := h
  rw [List.drop_of_length_le hl] at h3
  rw [List.take_of_length_le hl] at h1
  exact ⟨by rw [List.take_of_length_le ht]; exact h1, h2, by rw [List.drop_of_length_le ht]; exact h3.nil_any⟩
theorem Blk.one {R : Nat → Nat → Prop} {s : Nat} {L : List Nat} {Xs : List (List Nat)} (h : Blk R s L Xs) (hl : L.length ≤ s) : Xs.flatten.Pairwise R := by
 cases Xs with
 | nil => exact List.Pairwise.nil
 | cons X Xs =>
  obtain ⟨h1, h2, h3⟩ := h
  rw [List.drop_of_length_le hl] at h3
  rw [List.flatten_cons, h3.nil_flat, List.append_nil]; exact h2
end Go.Proofs.YtldbcbclhpcofaaGreat
namespace Go.Proofs.YtldbcbclhpcofaaGreat
open Go Go.PS Go.Proofs
open Go.Bd (sumC Part invC)

def orM (a : Lv) (i : Nat) : List (List Int) := stM a [] (lstN a.2.1 i) 0 i
theorem orM_len (a : Lv) (i : Nat) : (orM a i).length = (lstN a.2.1 i).length := stM_len ..
theorem orM_sum (a : Lv) (i : Nat) {o : List Nat} (ho : Part (lstN a.2.1 i).length 0 o) : sumC (Zan (orM a i)) o = sumC (bothC a i) o := by
 rw [orM, stM_sum _ _ _ _ _ ho]; omega
theorem orM_ok {a : Lv} {i : Nat} (har : a.2.2.1.length ≤ 700) (h8 : ¬ 8 < (lstN a.2.1 i).length) : okM (orM a i) = true := stM_ok (by decide) har (by omega)
theorem orM_part (a : Lv) (i : Nat) : Part (lstN a.2.1 i).length 0 (Zbl (orM a i)).1 := by
 have := (bestAll_part (orM a i)).1
 rw [orM_len] at this; exact this
def betB (a : Lv) (i : Nat) : Bool := decide ((Zbl (orM a i)).2 < sumC (Zan (orM a i)) (List.range (lstN a.2.1 i).length))
def betF (a : Lv) (i : Nat) : List Nat × Bool := if 8 < (lstN a.2.1 i).length then ([], false) else ((Zbl (orM a i)).1, betB a i)
def bestPut (a : Lv) (i : Nat) : Lv := putL a i (Zbk (lstN a.2.1 i) (Zbl (orM a i)).1)
theorem betF_yes {a : Lv} {i : Nat} (h : (betF a i).2 = true) : ¬ 8 < (lstN a.2.1 i).length ∧ betB a i = true := by
 rw [betF] at h
 split at h
 ·cases h
 ·exact ⟨by assumption, h⟩
theorem Kin.arr {a b : Lv} (h : Kin a b) {i : Nat} (hi : i < a.2.1.length) {o : List Nat} (ho : Part (lstN b.2.1 i).length 0 o) : Kin a (putL b i (Zbk (lstN b.2.1 i) o)) :=
 h.put (h.lay hi) (permL_perm (Zcn h.ok (h.lay hi)) ho)
theorem arr_total {a b : Lv} (h : Kin a b) {i : Nat} (hi : i < a.2.1.length) {o : List Nat} (ho : Part (lstN b.2.1 i).length 0 o) :
  Zbf (putL b i (Zbk (lstN b.2.1 i) o)) - Zbf b = sumC (Zan (orM b i)) o - sumC (Zan (orM b i)) (List.range (lstN b.2.1 i).length) := by
 rw [orM_sum _ _ ho, orM_sum _ _ (range_part _)]
 exact put_total h.ok (h.arr hi ho).ok (h.lay hi) ho
theorem bet_kin {a b : Lv} (h : Kin a b) {i : Nat} (hi : i < a.2.1.length) : Kin a (bestPut b i) := h.arr hi (orM_part b i)
theorem bet_less {a b : Lv} (h : Kin a b) {i : Nat} (hi : i < a.2.1.length) (hb : betB b i = true) : Zbf (bestPut b i) < Zbf b := by
 have h1 := arr_total h hi (orM_part b i)
 have h2 := (bestAll_part (orM b i)).2
 rw [betB, decide_eq_true_eq, h2] at hb
 rw [bestPut]; omega
theorem total_nn (a : Lv) : 0 ≤ Zbf a := by
 have := sumZ_bound (f := fun i => Zbj a i) (c := 360000000000) a.2.1.length fun i _ => BetweenF_le a i
 exact this.1
def refN : Nat → Lv → Nat → Lv
 | 0, b, _ => b
 | f + 1, b, i => if i < b.2.1.length then (if (betF b i).2 then refN f (bestPut b i) 0 else refN f b (i + 1)) else b
def refMs (b : Lv) (i : Nat) : Nat := (Zbf b).toNat * (b.2.1.length + 1) + (b.2.1.length - i)
def Zci (a : Lv) : Lv := refN (refMs a 0) a 0
theorem ms_step {b : Lv} {i : Nat} (h : i < b.2.1.length) : refMs b (i + 1) < refMs b i := by
 simp only [refMs]; omega
theorem ms_put {a b : Lv} (h : Kin a b) {i : Nat} (hi : i < a.2.1.length) (hb : betB b i = true) : refMs (bestPut b i) 0 < refMs b i := by
 have h1 := bet_less h hi hb
 have h2 := total_nn (bestPut b i)
 have h3 : (bestPut b i).2.1.length = b.2.1.length := by rw [(bet_kin h hi).len, h.len]
 have h4 := h.len
 rw [refMs, refMs, h3]
 have h5 : ((Zbf (bestPut b i)).toNat + 1) * (b.2.1.length + 1) ≤ (Zbf b).toNat * (b.2.1.length + 1) := Nat.mul_le_mul_right _ (by omega)
 rw [Nat.add_mul] at h5
 omega
theorem refN_end {f : Nat} {b : Lv} {i : Nat} (h : ¬ i < b.2.1.length) : refN f b i = b := by
 cases f with
 | zero => rfl
 | succ f => rw [refN, if_neg h]
theorem refN_ok {a : Lv} : ∀ (f : Nat) (b : Lv) (i : Nat), Kin a b → refMs b i ≤ f → i ≤ a.2.1.length → (∀ j, j < i → (betF b j).2 = false) →
  Kin a (refN f b i) ∧ Zbf (refN f b i) ≤ Zbf b ∧ ∀ j, j < a.2.1.length → (betF (refN f b i) j).2 = false
 | 0, b, i, h, hm, hi, hj => by
  have h4 := h.len
  simp only [refMs] at hm
  rw [refN]
  exact ⟨h, Int.le_refl _, fun j hlt => hj j (by omega)⟩
 | f + 1, b, i, h, hm, hi, hj => by
  have h4 := h.len
  by_cases hlt : i < b.2.1.length
  ·rw [refN, if_pos hlt]
   rcases hb : (betF b i).2 with _ | _
   ·rw [if_neg (by decide)]
    refine refN_ok f b (i + 1) h (by have := ms_step hlt; omega) (by omega) fun j hlj => ?_
    rcases Nat.lt_or_ge j i with c | c
    ·exact hj j c
    ·obtain rfl : j = i := by omega
     exact hb
   ·rw [if_pos rfl]
    have hb2 := (betF_yes hb).2
    have h5 := ms_put h (by omega) hb2
    have h6 := bet_less h (by omega) hb2
    obtain ⟨g1, g2, g3⟩ := refN_ok f (bestPut b i) 0 (bet_kin h (by omega)) (by omega) (Nat.zero_le _) (fun j hlj => absurd hlj (Nat.not_lt_zero j))
    exact ⟨g1, by omega, g3⟩
  ·rw [refN_end hlt]
   exact ⟨h, Int.le_refl _, fun j hlt2 => hj j (by omega)⟩
theorem refine_ok {a : Lv} (hv : Zax a = true) (hw : wide a) : Kin a (Zci a) ∧ Zbf (Zci a) ≤ Zbf a ∧ ∀ j, j < a.2.1.length → (betF (Zci a) j).2 = false :=
 refN_ok _ a 0 (Kin.refl hv hw) (Nat.le_refl _) (Nat.zero_le _) (fun j hlj => absurd hlj (Nat.not_lt_zero j))
def exaF (a : Lv) (i f : Int) : Lv × Int :=
 if matOk a i f = false then (lv0, 1) else if 8 < (lstN a.2.1 i.toNat).length then (lv0, 2) else (putL a i.toNat (Zbk (lstN a.2.1 i.toNat) (Zbl (Zat a i f)).1), 0)
def optF (a : Lv) (i : Int) : Bool := Zax a && decide (0 ≤ i ∧ i < a.2.1.length) && decide (¬ 8 < (lstN a.2.1 i.toNat).length) && !betB a i.toNat
theorem matF_len {a : Lv} {i f : Int} (h : matOk a i f = true) : (Zat a i f).length = (lstN a.2.1 i.toNat).length := by
 rw [Zat, if_pos h]
 simp [matF, endsF, lenAt, lstN]
theorem matF_part {a : Lv} {i f : Int} (h : matOk a i f = true) : Part (lstN a.2.1 i.toNat).length 0 (Zbl (Zat a i f)).1 := by
 have := (bestAll_part (Zat a i f)).1
 rw [matF_len h] at this; exact this
end Go.Proofs.YtldbcbclhpcofaaGreat
namespace Go.Proofs.YtldbcbclhpcofaaGreat
open Go Go.PS Go.Proofs
open Go.Stb

theorem matOk_in {a : Lv} {i f : Int} (h : matOk a i f = true) : Zax a = true ∧ (0 ≤ i ∧ i < a.2.1.length) ∧ (0 ≤ f ∧ f < a.2.1.length) ∧ (f = i - 1 ∨ f = i + 1) := by
 simp only [matOk, Bool.and_eq_true, decide_eq_true_eq] at h
 obtain ⟨⟨⟨h1, h2⟩, h3⟩, h4⟩ := h
 exact ⟨h1, h2, h3, h4⟩
end Go.Proofs.YtldbcbclhpcofaaGreat
namespace Go.Proofs.YtldbcbclhpcofaaGreat
open Go Go.PS Go.Proofs
open Go.Stb
set_option maxRecDepth 100000
attribute [local irreducible] Zaw wpG Zah Zai

def okP1 (x : Int) : Bool := decide (0 ≤ x ∧ x ≤ 1048576)
theorem all_take {l : List Int} (h : ∀ x, x ∈ l.take l.length → okP1 x = true) : l.all okP1 = true := by
 rw [List.take_length] at h
 rw [List.all_eq_true]; exact h
/-! The reference. -/
end Go.Proofs.YtldbcbclhpcofaaGreat
namespace Go.Proofs.YtldbcbclhpcofaaGreat
open Go Go.PS Go.Proofs
open Go.Stb
set_option maxRecDepth 100000
attribute [local irreducible] Zaw wpG Zah Zai

end Go.Proofs.YtldbcbclhpcofaaGreat
namespace Go.Proofs.YtldbcbclhpcofaaGreat
open Go Go.PS Go.Proofs
open Go.Stb
set_option maxRecDepth 100000
attribute [local irreducible] Zaw wpG Zah Zai

end Go.Proofs.YtldbcbclhpcofaaGreat
namespace Go.Proofs.YtldbcbclhpcofaaGreat
open Go Go.PS Go.Proofs
open Go.Stb
set_option maxRecDepth 100000
attribute [local irreducible] Zaw wpG Zah Zai

end Go.Proofs.YtldbcbclhpcofaaGreat
namespace Go.Proofs.YtldbcbclhpcofaaGreat
open Go Go.PS Go.Proofs
open Go.Stb
set_option maxRecDepth 100000
attribute [local irreducible] Zaw wpG Zah Zai

set_option maxHeartbeats 8000000 in
theorem copied_spec (a : Lv) (h : Zax a = true) : Zah Tryz.prog 63 [lvD a] (lvD a) := by
 obtain ⟨s1, s2, s3⟩ := Zco h
 obtain ⟨t1, t2⟩ := Zcm h
 have hca := cloneA_spec a.2.2.1 (by omega)
 have hl1 : ∀ (k : Nat) x, a.2.1[k]? = some x → Zah Tryz.prog 62 [Zak x] (Zak x) := fun k x hx => cloneI_spec x (by have := Zbp (List.mem_of_getElem? hx); omega)
 have hl2 : ∀ (k : Nat) x, a.2.2.2[k]? = some x → Zah Tryz.prog 62 [Zak x] (Zak x) := fun k x hx => cloneI_spec x (by have := s3 x (List.mem_of_getElem? hx); omega)
 obtain ⟨n, ls, ar, cs⟩ := a
 dsimp only at *
 refine Zaf Tryz.func63 rfl (by decide +kernel) (Nat.le_of_ble_eq_true rfl) ?_
 intro hat B X w0
 repeat' first | refine Zad rfl ?_ | refine Zac ?_ | refine wR ?_ | (refine rc (hca) rfl ?_ ?_; (· first | rfl | simp (disch := omega) only [go_sem, simprocAttr])) | (refine Zaa rfl rfl (fun hc => ?_) (fun hc => ?_) <;> try simp only [hcL] at hc) | (refine Zab _ rfl rfl (fun hc => ?_) (fun hc => ?_) <;> (try simp only [hcL] at hc) <;> try omega) | simp (disch := omega) only [go_sem, simprocAttr] | apply And.intro | omega | decide +kernel
 refine Zbc _ (Zcj 3 1 901 1 rfl rfl rfl) ?_
 refine Zao (κ := Nat) (fun (k : Nat) => k ≤ ls.length) (fun (k : Nat) => [(1, .ptr 1 0 0 0), (2, .ptr 2 0 0 0), (3, .ptr 3 0 0 0), (15, .d (Zaj ls)), (16, .int ls.length), (17, .int k)]) (fun (k : Nat) => [(1, .cells [.int n, .d (Zaj ls), .d (Zal ar), .d (Zaj cs)]), (2, .cells [.int 0, .nilS, .nilS, .nilS]), (3, .cells [.int n, .ref 901 1 0 k k, .d (Zal ar), .nilS]), (901, .row 1 ((ls.take k).map Zak))]) (fun (k : Nat) => ls.length - k) 0 ?_ ?_ ?_
 ·exact Nat.zero_le _
 ·exact eL [] _ _ (by refine ⟨?_, ?_⟩ <;> (repeat' first | exact fmn | refine fmc ⟨(by first | rfl | (simp (disch := omega) only [go_sem, simprocAttr, inL, List.take_zero, List.map_nil]; first | done | omega | (congr 1; done))), ?_⟩); done)
 ·intro k hk
  have hlk : (ls.take k).length = k := by rw [List.length_take]; omega
  have htk : ((ls.take k).map Zak).take k = (ls.take k).map Zak := List.take_of_length_le (by rw [List.length_map, hlk]; exact Nat.le_refl _)
  rcases Nat.lt_or_ge k ls.length with hlt | hge
  ·obtain ⟨x, hx⟩ := Zam hlt
   have hc1 := hl1 k x hx
   have e1 := Zas hx
   repeat' first | refine Zad rfl ?_ | refine Zac ?_ | refine wR ?_ | (refine rc (hc1) rfl ?_ ?_; (· first | rfl | simp (disch := omega) only [go_sem, simprocAttr, hx, hlk, htk, Zba])) | (refine Zaa rfl rfl (fun hc => ?_) (fun hc => ?_) <;> try simp only [hcL] at hc) | (refine Zab _ rfl rfl (fun hc => ?_) (fun hc => ?_) <;> (try simp only [hcL] at hc) <;> try omega) | simp (disch := omega) only [go_sem, simprocAttr, hx, hlk, htk, Zba] | exact fun d hd => by rw [List.mem_singleton.1 hd]; rfl | apply And.intro | omega | decide +kernel
   refine ⟨k + 1, ?_, eL [(901, 26)] _ _ (by refine ⟨?_, ?_⟩ <;> (repeat' first | exact fmn | refine fmc ⟨(by first | rfl | (simp (disch := omega) only [go_sem, simprocAttr, inL, e1, htk, List.map_append, List.map_cons, List.map_nil]; first | done | omega | (congr 1; done))), ?_⟩); done), ?_⟩
   ·omega
   ·omega
  ·have : k = ls.length := by omega
   subst this
   try dsimp only
   rw [List.take_length]
   repeat' first | refine Zad rfl ?_ | refine Zac ?_ | refine wR ?_ | (refine Zaa rfl rfl (fun hc => ?_) (fun hc => ?_) <;> try simp only [hcL] at hc) | (refine Zab _ rfl rfl (fun hc => ?_) (fun hc => ?_) <;> (try simp only [hcL] at hc) <;> try omega) | simp (disch := omega) only [go_sem, simprocAttr] | apply And.intro | omega | decide +kernel
   refine Zbc _ (Zcj 3 3 902 1 rfl rfl rfl) ?_
   refine Zao (κ := Nat) (fun (k : Nat) => k ≤ cs.length) (fun (k : Nat) => [(2, .ptr 2 0 0 0), (3, .ptr 3 0 0 0), (30, .d (Zaj cs)), (31, .int cs.length), (32, .int k)]) (fun (k : Nat) => [(2, .cells [.int 0, .nilS, .nilS, .nilS]), (3, .cells [.int n, .ref 901 1 0 ls.length ls.length, .d (Zal ar), .ref 902 1 0 k k]), (901, .row 1 (ls.map Zak)), (902, .row 1 ((cs.take k).map Zak))]) (fun (k : Nat) => cs.length - k) 0 ?_ ?_ ?_
   ·exact Nat.zero_le _
   ·exact eL [] _ _ (by refine ⟨?_, ?_⟩ <;> (repeat' first | exact fmn | refine fmc ⟨(by first | rfl | (simp (disch := omega) only [go_sem, simprocAttr, inL, List.take_zero, List.map_nil]; first | done | omega | (congr 1; done))), ?_⟩); done)
   ·intro k hk
    have hlk : (cs.take k).length = k := by rw [List.length_take]; omega
    have htk : ((cs.take k).map Zak).take k = (cs.take k).map Zak := List.take_of_length_le (by rw [List.length_map, hlk]; exact Nat.le_refl _)
    rcases Nat.lt_or_ge k cs.length with hlt | hge
    ·obtain ⟨x, hx⟩ := Zam hlt
     have hc1 := hl2 k x hx
     have e1 := Zas hx
     repeat' first | refine Zad rfl ?_ | refine Zac ?_ | refine wR ?_ | (refine rc (hc1) rfl ?_ ?_; (· first | rfl | simp (disch := omega) only [go_sem, simprocAttr, hx, hlk, htk, Zba])) | (refine Zaa rfl rfl (fun hc => ?_) (fun hc => ?_) <;> try simp only [hcL] at hc) | (refine Zab _ rfl rfl (fun hc => ?_) (fun hc => ?_) <;> (try simp only [hcL] at hc) <;> try omega) | simp (disch := omega) only [go_sem, simprocAttr, hx, hlk, htk, Zba] | exact fun d hd => by rw [List.mem_singleton.1 hd]; rfl | apply And.intro | omega | decide +kernel
     refine ⟨k + 1, ?_, eL [(902, 41)] _ _ (by refine ⟨?_, ?_⟩ <;> (repeat' first | exact fmn | refine fmc ⟨(by first | rfl | (simp (disch := omega) only [go_sem, simprocAttr, inL, e1, htk, List.map_append, List.map_cons, List.map_nil]; first | done | omega | (congr 1; done))), ?_⟩); done), ?_⟩
     ·omega
     ·omega
    ·have : k = cs.length := by omega
     subst this
     try dsimp only
     rw [List.take_length]
     repeat' first | refine Zad rfl ?_ | refine Zac ?_ | refine wR ?_ | (refine Zaa rfl rfl (fun hc => ?_) (fun hc => ?_) <;> try simp only [hcL] at hc) | (refine Zab _ rfl rfl (fun hc => ?_) (fun hc => ?_) <;> (try simp only [hcL] at hc) <;> try omega) | simp (disch := omega) only [go_sem, simprocAttr] | apply And.intro | omega | decide +kernel
     refine ⟨_, _, _, _, rfl, ?_⟩
     simp (disch := omega) only [go_sem, simprocAttr, toD, List.length_map, Nat.le_refl, List.drop_zero]
     rw [Zae, Zae]
/-! The reference. -/
end Go.Proofs.YtldbcbclhpcofaaGreat
namespace Go.Proofs.YtldbcbclhpcofaaGreat
open Go Go.PS Go.Proofs
set_option maxRecDepth 100000
attribute [local irreducible] Zaw wpG Zah Zai

theorem accC_zero (a : Lv) (i : Nat) (u v : Nat) : accC a [] (lstN a.2.1 i) 0 i 0 u v = 0 := by
 rw [accC, wCell]; split <;> rfl
set_option maxHeartbeats 16000000 in
theorem omatrix_spec (a : Lv) (i : Nat) (hw : wide a) (hv : Zax a = true) (hil : i < a.2.1.length) :
  Zah Tryz.prog 59 [lvD a, .int i] (Zaj (orM a i)) := by
 obtain ⟨y, hy⟩ := Zam hil
 obtain ⟨t1, t2⟩ := Zcm hv
 have hyl := Zbp (List.mem_of_getElem? hy)
 have hacc := accC_le a [] (lstN a.2.1 i) (w := 0) (by decide) i
 have haccS : ∀ t u v, accC a [] (lstN a.2.1 i) 0 i (t + 1) u v = accC a [] (lstN a.2.1 i) 0 i t u v + Zan (Zat a i (fixT i t)) u v := fun _ _ _ => rfl
 have haccZ := accC_zero a i
 have hMsq : ∀ t, Sq (Zat a i (fixT i t)) := fun t => MatrixF_sq a i (fixT i t)
 have hMlen : ∀ t, (Zat a i (fixT i t)).length = 0 ∨ (Zat a i (fixT i t)).length = y.length := fun t => by
  rw [Zat]
  split
  ·right
   simp [matF, endsF, lenAt, hy]
  ·left; rfl
 have hMs : ∀ t, Zah Tryz.prog 27 [lvD a, .int i, .int (fixT i t)] (Zaj (Zat a i (fixT i t))) := fun t => Matrix_spec a i (fixT i t) hw
 rw [orM, stM]
 rw [Zbn hy] at *
 generalize accC a [] y 0 i = A at *
 obtain ⟨Q, hQ⟩ : ∃ Q : Nat → List (List Int), ∀ t, Zat a i (fixT i t) = Q t := ⟨_, fun _ => rfl⟩
 simp only [hQ] at *
 obtain ⟨N, hN⟩ : ∃ N, N = y.length := ⟨_, rfl⟩
 have hN5 : N ≤ 512 := by omega
 obtain ⟨n, ls, ar, cs⟩ := a
 dsimp only at *
 refine Zaf Tryz.func59 rfl (by decide +kernel) (Nat.le_of_ble_eq_true rfl) ?_
 intro hat B X w0
 repeat' first | refine Zad rfl ?_ | refine Zac ?_ | refine wR ?_ | (refine Zaa rfl rfl (fun hc => ?_) (fun hc => ?_) <;> try simp only [hcL] at hc) | (refine Zab _ rfl rfl (fun hc => ?_) (fun hc => ?_) <;> (try simp only [hcL] at hc) <;> try omega) | simp (disch := omega) only [go_sem, simprocAttr, hy, List.append_eq, ← hN] | apply And.intro | omega | decide +kernel
 refine Zbc _ (ent_famNew 1 19 1 N rfl (fun i hi => by simp (disch := omega) only [go_sem, simprocAttr, obOf_fid, argEnv]) (by decide) (by decide)) ?_
 have hiN : ∀ (k : Nat) (x y : List D), k < N → (if k < N then x else y) = x := fun k x y h => if_pos h
 have hz : ∀ u, List.replicate N (D.int 0) = (rowG (A 0 u) N).map D.int := fun u => by
  rw [rowG_zero]; congr 1; exact rowG_congr fun v _ => (haccZ u v).symm
 refine Zap (κ := Nat) (fun (u : Nat) => u ≤ N) (fun (u : Nat) => [(1, .int i), (2, .ptr 2 0 0 0), (5, .ref 19 1 0 N N), (21, .int N), (22, .int u)]) (fun (u : Nat) => [⟨1, 19, 1, N, fun k => if k < u then (rowG (A 0 k) N).map D.int else []⟩]) (fun (u : Nat) => [(2, .cells [.int n, .d (Zaj ls), .d (Zal ar), .d (Zaj cs)])]) (fun (u : Nat) => N - u) 0 ?_ ?_ ?_
 ·exact Nat.zero_le _
 ·refine eF [] [] _ _ _ (by refine ⟨?_, ?_⟩ <;> (repeat' first | exact fmn | refine fmc ⟨(by first | rfl | (simp (disch := omega) only [go_sem, simprocAttr, inL, ← hN]; first | done | omega | (congr 1; done))), ?_⟩); done) ?_
  repeat' first | exact fmn | refine fmc ⟨?_, ?_⟩
  all_goals refine ⟨_, (by first | rfl | (simp (disch := omega) only [go_sem, simprocAttr, Nat.not_lt_zero]; done) | (simp (disch := omega) only [go_sem, simprocAttr, Nat.not_lt_zero]; rfl)), fun i hi => ?_⟩
  all_goals dsimp only at hi ⊢
  all_goals try (exfalso; omega)
  all_goals try (simp (disch := omega) only [go_sem, simprocAttr, Nat.not_lt_zero, Zav, Zau]; done)
 ·intro u hu
  rcases Nat.lt_or_ge u N with hlt | hge
  ·have hzu := hz u
   have hnu : ¬ u < u := by omega
   have hrl := rowG_len (A 0 u) N
   have hsu : ∀ i, i ≠ u → ((i < u + 1) = (i < u)) := fun i h => propext (by omega)
   refine Zbc _ (ent_bor _ _ [2, 19] 19 u 900 1 1 N (by first | rfl | (simp (disch := omega) only [go_sem, simprocAttr, hnu]; done) | (simp (disch := omega) only [go_sem, simprocAttr, hnu]; rfl)) (by first | (simp (disch := omega) only [go_sem, simprocAttr, hnu]; done) | (simp (disch := omega) only [go_sem, simprocAttr, hnu]; rfl)) (by first | (simp (disch := omega) only [go_sem, simprocAttr, hnu]; done) | (simp (disch := omega) only [go_sem, simprocAttr, hnu]; rfl)) (fun i hi hne => by simp (disch := omega) only [go_sem, simprocAttr, hne, hnu]; (repeat' split) <;> exact .ref _ _ _ _ _ ⟨by simp (disch := omega) only [go_sem, simprocAttr, hne, hnu], by simp (disch := omega) only [go_sem, simprocAttr, hne, hnu]⟩) (by (repeat' first | refine ab_nil ?_ | exact ab_obOf (ids := [2, 19]) rfl rfl (Nat.le_of_ble_eq_true rfl) | refine ab_hole ?_ | refine ab_row ?_ | refine ab_dead ?_ | refine ab_self ?_ | refine Zcp ?_ | refine ab_fam (by dsimp only; omega) (by dsimp only; omega) (by omega) (by omega) (Nat.le_of_ble_eq_true rfl) ?_); done) rfl rfl rfl) ?_
   repeat' first | refine Zad rfl ?_ | refine Zac ?_ | refine wR ?_ | (refine Zaa rfl rfl (fun hc => ?_) (fun hc => ?_) <;> try simp only [hcL] at hc) | (refine Zab _ rfl rfl (fun hc => ?_) (fun hc => ?_) <;> (try simp only [hcL] at hc) <;> try omega) | simp (disch := omega) only [go_sem, simprocAttr, ← hN, hnu] | apply And.intro | omega | decide +kernel
   refine ⟨u + 1, ?_, eF [(fid 1 u, 29)] [] _ _ _ (by refine ⟨?_, ?_⟩ <;> (repeat' first | exact fmn | refine fmc ⟨(by first | rfl | (simp (disch := omega) only [go_sem, simprocAttr, inL]; first | done | omega | (congr 1; done))), ?_⟩); done) ?_, ?_⟩
   ·omega
   ·repeat' first | exact fmn | refine fmc ⟨?_, ?_⟩
    all_goals refine ⟨_, (by first | rfl | (simp (disch := omega) only [go_sem, simprocAttr, hzu, hrl, hnu, hsu, Nat.lt_add_one, List.length_map]; done) | (simp (disch := omega) only [go_sem, simprocAttr, hzu, hrl, hnu, hsu, Nat.lt_add_one, List.length_map]; rfl)), fun i hi => ?_⟩
    all_goals dsimp only at hi ⊢
    all_goals rcases Decidable.em (i = u) with rfl | hi0
    all_goals try (exfalso; omega)
    all_goals try (simp (disch := omega) only [go_sem, simprocAttr, hzu, hrl, hnu, hsu, Nat.lt_add_one, List.length_map, Zav, Zau]; done)
    all_goals try (simp (disch := omega) only [go_sem, simprocAttr, hzu, hrl, hnu, hsu, Nat.lt_add_one, List.length_map, hi0, Zav, Zau]; done)
   ·omega
  ·have : N = u := by omega
   subst this
   try dsimp only
   obtain ⟨F, hF⟩ : ∃ F : List D, F = [D.int ((i : Int) - 1), D.int ((i : Int) + 1)] := ⟨_, rfl⟩
   have hFl : F.length = 2 := by rw [hF]; rfl
   have hFx : ∀ t, t < 2 → F[t]? = some (D.int (fixT i t)) := fun t ht => by
    rw [hF]
    rcases t with _ | _ | t
    ·rfl
    ·rfl
    ·omega
   repeat' first | refine Zad rfl ?_ | refine Zac ?_ | refine wR ?_ | (refine Zaa rfl rfl (fun hc => ?_) (fun hc => ?_) <;> try simp only [hcL] at hc) | (refine Zab _ rfl rfl (fun hc => ?_) (fun hc => ?_) <;> (try simp only [hcL] at hc) <;> try omega) | simp (disch := omega) only [go_sem, simprocAttr] | apply And.intro | omega | decide +kernel
   refine Zap (κ := Nat) (fun (t : Nat) => t ≤ 2) (fun (t : Nat) => [(1, .int i), (2, .ptr 2 0 0 0), (5, .ref 19 1 0 N N), (36, .d (.sl F)), (37, .int 2), (38, .int t)]) (fun (t : Nat) => [⟨1, 19, 1, N, fun k => (rowG (A t k) N).map D.int⟩]) (fun (t : Nat) => [(2, .cells [.int n, .d (Zaj ls), .d (Zal ar), .d (Zaj cs)])]) (fun (t : Nat) => 2 - t) 0 ?_ ?_ ?_
   ·exact Nat.zero_le _
   ·refine eF [] [] _ _ _ (by refine ⟨?_, ?_⟩ <;> (repeat' first | exact fmn | refine fmc ⟨(by first | rfl | (simp (disch := omega) only [go_sem, simprocAttr, inL, hF]; first | done | omega | (congr 1; done))), ?_⟩); done) ?_
    repeat' first | exact fmn | refine fmc ⟨?_, ?_⟩
    all_goals refine ⟨_, (by first | rfl | (simp (disch := omega) only [go_sem, simprocAttr, hiN]; done) | (simp (disch := omega) only [go_sem, simprocAttr, hiN]; rfl)), fun i hi => ?_⟩
    all_goals dsimp only at hi ⊢
    all_goals try (exfalso; omega)
    all_goals try (simp (disch := omega) only [go_sem, simprocAttr, hiN, Zav, Zau]; done)
   ·intro t ht
    rcases Nat.lt_or_ge t 2 with hlt2 | hge2
    ·have hx := hFx t hlt2
     have hM := hMs t
     have hsq := hMsq t
     have hml := hMlen t
     have hS := haccS t
     generalize hR : Q t = R at *
     repeat' first | refine Zad rfl ?_ | refine Zac ?_ | refine wR ?_ | (refine rc (hM) rfl ?_ ?_; (· first | rfl | simp (disch := omega) only [go_sem, simprocAttr, hx, List.append_eq])) | (refine Zaa rfl rfl (fun hc => ?_) (fun hc => ?_) <;> try simp only [hcL] at hc) | (refine Zab _ rfl rfl (fun hc => ?_) (fun hc => ?_) <;> (try simp only [hcL] at hc) <;> try omega) | simp (disch := omega) only [go_sem, simprocAttr, hx, List.append_eq] | apply And.intro | omega | decide +kernel
     refine Zap (κ := Nat) (fun (c : Nat) => c ≤ R.length) (fun (c : Nat) => [(1, .int i), (2, .ptr 2 0 0 0), (5, .ref 19 1 0 N N), (36, .d (.sl F)), (37, .int 2), (38, .int t), (45, .d (Zaj R)), (46, .int R.length), (47, .int c)]) (fun (c : Nat) => [⟨1, 19, 1, N, fun k => if k < c then (rowG (A (t + 1) k) N).map D.int else (rowG (A t k) N).map D.int⟩]) (fun (c : Nat) => [(2, .cells [.int n, .d (Zaj ls), .d (Zal ar), .d (Zaj cs)])]) (fun (c : Nat) => R.length - c) 0 ?_ ?_ ?_
     ·exact Nat.zero_le _
     ·refine eF [] [] _ _ _ (by refine ⟨?_, ?_⟩ <;> (repeat' first | exact fmn | refine fmc ⟨(by first | rfl | (simp (disch := omega) only [go_sem, simprocAttr, inL, hFl]; first | done | omega | (congr 1; done))), ?_⟩); done) ?_
      repeat' first | exact fmn | refine fmc ⟨?_, ?_⟩
      all_goals refine ⟨_, (by first | rfl | (simp (disch := omega) only [go_sem, simprocAttr, Nat.not_lt_zero]; done) | (simp (disch := omega) only [go_sem, simprocAttr, Nat.not_lt_zero]; rfl)), fun i hi => ?_⟩
      all_goals dsimp only at hi ⊢
      all_goals try (exfalso; omega)
      all_goals try (simp (disch := omega) only [go_sem, simprocAttr, Nat.not_lt_zero, Zav, Zau]; done)
     ·intro c hc0
      rcases Nat.lt_or_ge c R.length with hlc | hgc
      ·have hRN : R.length = N := by omega
       obtain ⟨r, hr⟩ := Zam hlc
       have hrl := hsq.row r (List.mem_of_getElem? hr)
       have hrN : r.length = N := by omega
       have hnu : ¬ c < c := by omega
       repeat' first | refine Zad rfl ?_ | refine Zac ?_ | refine wR ?_ | (refine Zaa rfl rfl (fun hc => ?_) (fun hc => ?_) <;> try simp only [hcL] at hc) | (refine Zab _ rfl rfl (fun hc => ?_) (fun hc => ?_) <;> (try simp only [hcL] at hc) <;> try omega) | simp (disch := omega) only [go_sem, simprocAttr, hr, hrN] | apply And.intro | omega | decide +kernel
       refine Zap (κ := Nat) (fun (b : Nat) => b ≤ N) (fun (b : Nat) => [(1, .int i), (2, .ptr 2 0 0 0), (5, .ref 19 1 0 N N), (9, .int c), (36, .d (.sl F)), (37, .int 2), (38, .int t), (45, .d (Zaj R)), (46, .int R.length), (47, .int c), (52, .d (Zak r)), (53, .int N), (54, .int b)]) (fun (b : Nat) => [⟨1, 19, 1, N, fun k => if k < c then (rowG (A (t + 1) k) N).map D.int else if k = c then (mixR (A t c) (A (t + 1) c) N b).map D.int else (rowG (A t k) N).map D.int⟩]) (fun (b : Nat) => [(2, .cells [.int n, .d (Zaj ls), .d (Zal ar), .d (Zaj cs)])]) (fun (b : Nat) => N - b) 0 ?_ ?_ ?_
       ·exact Nat.zero_le _
       ·refine eF [] [] _ _ _ (by refine ⟨?_, ?_⟩ <;> (repeat' first | exact fmn | refine fmc ⟨(by first | rfl | (simp (disch := omega) only [go_sem, simprocAttr, inL, hrN]; first | done | omega | (congr 1; done))), ?_⟩); done) ?_
        repeat' first | exact fmn | refine fmc ⟨?_, ?_⟩
        all_goals refine ⟨_, (by first | rfl | (simp (disch := omega) only [go_sem, simprocAttr, hnu, mixR_zero]; done) | (simp (disch := omega) only [go_sem, simprocAttr, hnu, mixR_zero]; rfl)), fun i hi => ?_⟩
        all_goals dsimp only at hi ⊢
        all_goals rcases Decidable.em (i = c) with rfl | hi0
        all_goals try (exfalso; omega)
        all_goals try (simp (disch := omega) only [go_sem, simprocAttr, hnu, mixR_zero, Zav, Zau]; done)
        all_goals try (simp (disch := omega) only [go_sem, simprocAttr, hnu, mixR_zero, hi0, Zav, Zau]; done)
       ·intro b hb
        have hfl2 := mixR_len (A t c) (A (t + 1) c) N b
        rcases Nat.lt_or_ge b N with hlb | hgb
        ·obtain ⟨p, hp, _, hpv, g1, g2⟩ := hsq.get hlc (show b < R.length by omega)
         rw [hr, Option.some.injEq] at hp
         rw [← hp] at hpv
         have hcell := hS c b
         have ha := hacc t c b
         have hg : (mixR (A t c) (A (t + 1) c) N b)[b]? = some (A t c b) := mixR_get hlb
         have hst : (mixR (A t c) (A (t + 1) c) N b).set b (A (t + 1) c b) = mixR (A t c) (A (t + 1) c) N (b + 1) := mixR_step hlb
         rw [hcell] at hst
         refine Zbc _ (ent_bor _ _ [2, 19] 19 c 900 1 1 N (by first | rfl | (simp (disch := omega) only [go_sem, simprocAttr, hnu, hfl2]; done) | (simp (disch := omega) only [go_sem, simprocAttr, hnu, hfl2]; rfl)) (by first | (simp (disch := omega) only [go_sem, simprocAttr, hnu, hfl2]; done) | (simp (disch := omega) only [go_sem, simprocAttr, hnu, hfl2]; rfl)) (by first | (simp (disch := omega) only [go_sem, simprocAttr, hnu, hfl2]; done) | (simp (disch := omega) only [go_sem, simprocAttr, hnu, hfl2]; rfl)) (fun i hi hne => by simp (disch := omega) only [go_sem, simprocAttr, hne, hnu, hfl2]; (repeat' split) <;> exact .ref _ _ _ _ _ ⟨by simp (disch := omega) only [go_sem, simprocAttr, hne, hnu, hfl2], by simp (disch := omega) only [go_sem, simprocAttr, hne, hnu, hfl2]⟩) (by (repeat' first | refine ab_nil ?_ | exact ab_obOf (ids := [2, 19]) rfl rfl (Nat.le_of_ble_eq_true rfl) | refine ab_hole ?_ | refine ab_row ?_ | refine ab_dead ?_ | refine ab_self ?_ | refine Zcp ?_ | refine ab_fam (by dsimp only; omega) (by dsimp only; omega) (by omega) (by omega) (Nat.le_of_ble_eq_true rfl) ?_); done) rfl rfl rfl) ?_
         repeat' first | refine Zad rfl ?_ | refine Zac ?_ | refine wR ?_ | (refine Zaa rfl rfl (fun hc => ?_) (fun hc => ?_) <;> try simp only [hcL] at hc) | (refine Zab _ rfl rfl (fun hc => ?_) (fun hc => ?_) <;> (try simp only [hcL] at hc) <;> try omega) | simp (disch := omega) only [go_sem, simprocAttr, hr, hrN, hpv, hg, hfl2, hnu] | apply And.intro | omega | decide +kernel
         refine ⟨b + 1, ?_, eF [(fid 1 c, 900)] [] _ _ _ (by refine ⟨?_, ?_⟩ <;> (repeat' first | exact fmn | refine fmc ⟨(by first | rfl | (simp (disch := omega) only [go_sem, simprocAttr, inL]; first | done | omega | (congr 1; done))), ?_⟩); done) ?_, ?_⟩
         ·omega
         ·repeat' first | exact fmn | refine fmc ⟨?_, ?_⟩
          all_goals refine ⟨_, (by first | rfl | (simp (disch := omega) only [go_sem, simprocAttr, hst.symm, List.map_set, List.length_set, List.length_map, hfl2, hnu]; done) | (simp (disch := omega) only [go_sem, simprocAttr, hst.symm, List.map_set, List.length_set, List.length_map, hfl2, hnu]; rfl)), fun i hi => ?_⟩
          all_goals dsimp only at hi ⊢
          all_goals rcases Decidable.em (i = c) with rfl | hi0
          all_goals try (exfalso; omega)
          all_goals try (simp (disch := omega) only [go_sem, simprocAttr, hst.symm, List.map_set, List.length_set, List.length_map, hfl2, hnu, Zav, Zau]; done)
          all_goals try (simp (disch := omega) only [go_sem, simprocAttr, hst.symm, List.map_set, List.length_set, List.length_map, hfl2, hnu, hi0, Zav, Zau]; done)
         ·omega
        ·have : N = b := by omega
         subst this
         have hsu : ∀ i, i ≠ c → ((i < c + 1) = (i < c)) := fun i h => propext (by omega)
         repeat' first | refine Zad rfl ?_ | refine Zac ?_ | refine wR ?_ | (refine Zaa rfl rfl (fun hc => ?_) (fun hc => ?_) <;> try simp only [hcL] at hc) | (refine Zab _ rfl rfl (fun hc => ?_) (fun hc => ?_) <;> (try simp only [hcL] at hc) <;> try omega) | simp (disch := omega) only [go_sem, simprocAttr] | apply And.intro | omega | decide +kernel
         refine ⟨c + 1, ?_, eF [] [] _ _ _ (by refine ⟨?_, ?_⟩ <;> (repeat' first | exact fmn | refine fmc ⟨(by first | rfl | (simp (disch := omega) only [go_sem, simprocAttr, inL]; first | done | omega | (congr 1; done))), ?_⟩); done) ?_, ?_⟩
         ·omega
         ·repeat' first | exact fmn | refine fmc ⟨?_, ?_⟩
          all_goals refine ⟨_, (by first | rfl | (simp (disch := omega) only [go_sem, simprocAttr, hnu, hsu, Nat.lt_add_one, mixR_full]; done) | (simp (disch := omega) only [go_sem, simprocAttr, hnu, hsu, Nat.lt_add_one, mixR_full]; rfl)), fun i hi => ?_⟩
          all_goals dsimp only at hi ⊢
          all_goals rcases Decidable.em (i = c) with rfl | hi0
          all_goals try (exfalso; omega)
          all_goals try (simp (disch := omega) only [go_sem, simprocAttr, hnu, hsu, Nat.lt_add_one, mixR_full, Zav, Zau]; done)
          all_goals try (simp (disch := omega) only [go_sem, simprocAttr, hnu, hsu, Nat.lt_add_one, mixR_full, hi0, Zav, Zau]; done)
         ·omega
      ·have : R.length = c := by omega
       subst this
       repeat' first | refine Zad rfl ?_ | refine Zac ?_ | refine wR ?_ | (refine Zaa rfl rfl (fun hc => ?_) (fun hc => ?_) <;> try simp only [hcL] at hc) | (refine Zab _ rfl rfl (fun hc => ?_) (fun hc => ?_) <;> (try simp only [hcL] at hc) <;> try omega) | simp (disch := omega) only [go_sem, simprocAttr] | apply And.intro | omega | decide +kernel
       rcases hml with hml | hml
       ·have hsame : ∀ k, rowG (A (t + 1) k) N = rowG (A t k) N := fun k => rowG_congr fun v _ => by
         rw [hS, Zan, lstN_out (by omega)]; simp [at0]
        refine ⟨t + 1, ?_, eF [] [] _ _ _ (by refine ⟨?_, ?_⟩ <;> (repeat' first | exact fmn | refine fmc ⟨(by first | rfl | (simp (disch := omega) only [go_sem, simprocAttr, inL]; first | done | omega | (congr 1; done))), ?_⟩); done) ?_, ?_⟩
        ·omega
        ·repeat' first | exact fmn | refine fmc ⟨?_, ?_⟩
         all_goals refine ⟨_, (by first | rfl | (simp (disch := omega) only [go_sem, simprocAttr, hml, Nat.not_lt_zero, hsame]; done) | (simp (disch := omega) only [go_sem, simprocAttr, hml, Nat.not_lt_zero, hsame]; rfl)), fun i hi => ?_⟩
         all_goals dsimp only at hi ⊢
         all_goals try (exfalso; omega)
         all_goals try (simp (disch := omega) only [go_sem, simprocAttr, hml, Nat.not_lt_zero, hsame, Zav, Zau]; done)
        ·omega
       ·have hRN : R.length = N := by omega
        refine ⟨t + 1, ?_, eF [] [] _ _ _ (by refine ⟨?_, ?_⟩ <;> (repeat' first | exact fmn | refine fmc ⟨(by first | rfl | (simp (disch := omega) only [go_sem, simprocAttr, inL]; first | done | omega | (congr 1; done))), ?_⟩); done) ?_, ?_⟩
        ·omega
        ·repeat' first | exact fmn | refine fmc ⟨?_, ?_⟩
         all_goals refine ⟨_, (by first | rfl | (simp (disch := omega) only [go_sem, simprocAttr, hRN, hiN]; done) | (simp (disch := omega) only [go_sem, simprocAttr, hRN, hiN]; rfl)), fun i hi => ?_⟩
         all_goals dsimp only at hi ⊢
         all_goals try (exfalso; omega)
         all_goals try (simp (disch := omega) only [go_sem, simprocAttr, hRN, hiN, Zav, Zau]; done)
        ·omega
    ·have : t = 2 := by omega
     subst this
     try dsimp only
     refine Zbc _ (ent_famRow _ _ _ _ ⟨Zaz rfl, Zaz rfl, (by (repeat' first | exact fmn | refine fmc ⟨⟨Nat.le_of_ble_eq_true rfl, Nat.le_of_ble_eq_true rfl, by dsimp only; omega⟩, ?_⟩); done)⟩ rfl [2, 19] rfl rfl rfl rfl) ?_
     repeat' first | refine Zad rfl ?_ | refine Zac ?_ | refine wR ?_ | (refine Zaa rfl rfl (fun hc => ?_) (fun hc => ?_) <;> try simp only [hcL] at hc) | (refine Zab _ rfl rfl (fun hc => ?_) (fun hc => ?_) <;> (try simp only [hcL] at hc) <;> try omega) | simp (disch := omega) only [go_sem, simprocAttr] | apply And.intro | omega | decide +kernel
     refine ret_ref (o := 19) rfl rfl (by simp) ?_
     rw [List.take_of_length_le (by simp), sqM, List.map_map]
     rfl
end Go.Proofs.YtldbcbclhpcofaaGreat
