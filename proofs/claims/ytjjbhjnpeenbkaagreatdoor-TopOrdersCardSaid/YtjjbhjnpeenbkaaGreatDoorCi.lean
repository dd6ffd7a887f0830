/- Crossings: what the matrix sums to; the program's numbers are the reference's. -/
import Derived.Test.YtjjbhjnpeenbkaaGreatDoorN
import Derived.Test.YtjjbhjnpeenbkaaGreatDoorPSMac
import Derived.Test.YtjjbhjnpeenbkaaGreatDoorD
import Derived.Test.YtjjbhjnpeenbkaaGreatDoorTypes
import Derived.Test.YtjjbhjnpeenbkaaGreatDoorPSFam
set_option linter.unusedSimpArgs false
set_option linter.unusedVariables false
set_option maxHeartbeats 16000000
namespace Go.Proofs.YtjjbhjnpeenbkaaGreatDoor
open Go Go.PS Go.Proofs

theorem Zgv {p : Prop} [Decidable p] (h : ¬ p) : ind p = 0 := by simp [ind, h]
theorem ZnH {p : Prop} [Decidable p] (h : p) : ind p = 1 := by simp [ind, h]
theorem ZhK {p q : Prop} [Decidable p] [Decidable q] (h : p ↔ q) : ind p = ind q := by
 by_cases hp : p
 ·rw [ZnH hp, ZnH (h.1 hp)]
 ·rw [Zgv hp, Zgv fun hq => hp (h.2 hq)]
theorem Zxa (own other : Pr → Int) (P : List Pr) (n : Nat) (hin : ∀ e, e ∈ P → 0 ≤ own e ∧ own e < n) :
  ZaE (fun A => ZaE (fun B => W (fun x y => ind (own x = (B : Int) ∧ own y = (A : Int) ∧ other y < other x)) P P) A) n = W (fun x y => ind (own x < own y ∧ other y < other x)) P P := by
 simp only [Zoy];refine ZiQ fun x hx y hy => ?_
 have h1 := hin x hx;have h2 := hin y hy;have hA : ∀ A : Nat, ZaE (fun B : Nat => ind (own x = (B : Int) ∧ own y = (A : Int) ∧ other y < other x)) A = ind (own x < A ∧ own y = (A : Int) ∧ other y < other x) := fun A => by
  rw [Zmh (own x) _ A fun k hk => Zgv fun h => hk h.1.symm];by_cases c : own x < A
  ·rw [if_pos ⟨h1.1, c⟩];refine ZhK ?_;constructor
   ·rintro ⟨_, h⟩; exact ⟨c, h⟩
   ·rintro ⟨_, h⟩; exact ⟨by omega, h⟩
  ·rw [if_neg (fun h => c h.2), Zgv fun h => c h.1]
 simp only [hA];rw [Zmh (own y) _ n fun k hk => Zgv fun h => hk h.2.1.symm, if_pos h2];refine ZhK ?_;constructor
 ·rintro ⟨h, _, h'⟩; exact ⟨by omega, h'⟩
 ·rintro ⟨h, h'⟩; exact ⟨by omega, by omega, h'⟩
theorem Ziv (f : Nat → List Int) {n k : Nat} (h : k < n) : Zaq ((List.range n).map f) k = f k := by simp [Zaq, h]
theorem ZkV {E : List (List Int)} {u v : Nat} (hu : u < E.length) (hv : v < E.length) : Zag (Zcx E) u v = Zdm E u v := by
 rw [Zag, Zcx, Ziv _ hu, at0, Int.toNat_natCast];simp [hv]
structure Near (a : Lv) (i : Nat) (y z : List Int) : Prop where
 ok : Zax a = true
 hy : a.2.1[i]? = some y
 hz : a.2.1[i + 1]? = some z
namespace Near
variable {a : Lv} {i : Nat} {y z : List Int}
theorem joins (h : Near a i y z) : ∀ x, x ∈ a.2.2.1 → ∃ r p q, Joins a.2.1 x r p q := fun x hx => by
 obtain ⟨k, hk⟩ := List.getElem?_of_mem hx;exact ZlO h.ok hk
theorem lt (h : Near a i y z) : i + 1 < a.2.1.length := (List.getElem?_eq_some_iff.1 h.hz).1
theorem ins (h : Near a i y z) : ∀ e, e ∈ Zbu y z a.2.2.1 → 0 ≤ e.1 ∧ e.1 < y.length ∧ 0 ≤ e.2 ∧ e.2 < z.length := Zwy (Zes h.ok) h.joins h.hy h.hz
theorem matD (h : Near a i y z) : ZaU a i ((i : Int) + 1) = Zcx (Zbb a.2.1 a.2.2.1 i ((i : Int) + 1) y.length) := by
 have hl := h.lt;have hok : Zej a i ((i : Int) + 1) = true := by
  simp [Zej, h.ok]; omega
 rw [ZaU, if_pos hok, Zce, Int.toNat_natCast, h.hy]; rfl
theorem matU (h : Near a i y z) : ZaU a ((i : Int) + 1) i = Zcx (Zbb a.2.1 a.2.2.1 ((i + 1 : Nat) : Int) i z.length) := by
 have hl := h.lt;have hok : Zej a ((i : Int) + 1) i = true := by
  simp [Zej, h.ok]; omega
 rw [ZaU, if_pos hok, Zce, show ((i : Int) + 1).toNat = i + 1 by omega, h.hz]; rfl
theorem lenD (h : Near a i y z) : (ZaU a i ((i : Int) + 1)).length = y.length := by rw [h.matD]; simp [Zcx, Zbb]
theorem cellD (h : Near a i y z) {u v : Nat} (hu : u < y.length) (hv : v < y.length) : Zag (ZaU a i ((i : Int) + 1)) u v = if u = v then 0 else W (fun x w => ind (x.1 = (u : Int) ∧ w.1 = (v : Int) ∧ w.2 < x.2)) (Zbu y z a.2.2.1) (Zbu y z a.2.2.1) := by
 rw [h.matD, ZkV (by simpa [Zbb] using hu) (by simpa [Zbb] using hv), Zdm];split
 ·rfl
 ·rw [Zbb, Ziv _ hu, Ziv _ hv, Zp4 (Zes h.ok) h.joins h.hy h.hz, Zp4 (Zes h.ok) h.joins h.hy h.hz, Zms];simp only [decide_eq_true_eq]
theorem cellU (h : Near a i y z) {u v : Nat} (hu : u < z.length) (hv : v < z.length) : Zag (ZaU a ((i : Int) + 1) i) u v = if u = v then 0 else W (fun x w => ind (x.2 = (u : Int) ∧ w.2 = (v : Int) ∧ w.1 < x.1)) (Zbu y z a.2.2.1) (Zbu y z a.2.2.1) := by
 rw [h.matU, ZkV (by simpa [Zbb] using hu) (by simpa [Zbb] using hv), Zdm];split
 ·rfl
 ·rw [Zbb, Ziv _ hu, Ziv _ hv, ZoZ (Zes h.ok) h.joins h.hy h.hz, ZoZ (Zes h.ok) h.joins h.hy h.hz, Zms];simp only [decide_eq_true_eq]
abbrev cr (_ : Near a i y z) : Int := W (fun x w => ind (x.1 < w.1 ∧ w.2 < x.2)) (Zbu y z a.2.2.1) (Zbu y z a.2.2.1)
theorem between (h : Near a i y z) : ZbS a i = h.cr := by
 have hl := h.lt;rw [ZbS, if_neg (by simp only [Zjg, decide_eq_true_eq]; omega), ZlY, h.lenD];rw [Zmx (g := fun A => ZaE (fun B => W (fun x w => ind (x.1 = (B : Int) ∧ w.1 = (A : Int) ∧ w.2 < x.2)) (Zbu y z a.2.2.1) (Zbu y z a.2.2.1)) A) _ fun A hA => Zmx _ fun B hB => by rw [h.cellD (by omega) hA, if_neg (by omega)]];exact Zxa (fun e => e.1) (fun e => e.2) _ _ fun e he => ⟨(h.ins e he).1, (h.ins e he).2.1⟩
end Near
namespace Near
variable {a : Lv} {i : Nat} {y z : List Int}
end Near
theorem ZkI {a : Lv} (h : Zax a = true) {i : Nat} (hi : i + 1 < a.2.1.length) : ∃ y z, Near a i y z := by
 obtain ⟨y, hy⟩ := Zad (l := a.2.1) (k := i) (by omega);obtain ⟨z, hz⟩ := Zad hi;exact ⟨y, z, h, hy, hz⟩
end Go.Proofs.YtjjbhjnpeenbkaaGreatDoor
namespace Go.Proofs.YtjjbhjnpeenbkaaGreatDoor
open Go Go.PS Go.Proofs
set_option maxRecDepth 100000
attribute [local irreducible] Zab wpG Zaa Zaf
end Go.Proofs.YtjjbhjnpeenbkaaGreatDoor
namespace Go.Proofs.YtjjbhjnpeenbkaaGreatDoor
open Go Go.PS Go.Proofs

theorem Zpf {l m : List Int} (h : l.Perm m) : ZaG l = ZaG m :=
 List.Perm.eq_of_pairwise (le := (· ≤ ·)) (fun a b _ _ h1 h2 => Int.le_antisymm h1 h2) (Zl6 l) (Zl6 m) ((Zhv l).trans (h.trans (Zhv m).symm))
namespace Near
variable {a : Lv} {i : Nat} {y z : List Int}
end Near
namespace Near
variable {a : Lv} {i k : Nat} {y z : List Int}
end Near
end Go.Proofs.YtjjbhjnpeenbkaaGreatDoor
namespace Go.Proofs.YtjjbhjnpeenbkaaGreatDoor
open Go Go.PS Go.Proofs
set_option maxRecDepth 100000
attribute [local irreducible] Zab wpG Zaa Zaf

section acc
variable {own oth : Pr → Int} {E : List Pr} {u v : Nat} {p q : Pr}
end acc
end Go.Proofs.YtjjbhjnpeenbkaaGreatDoor
namespace Go.Proofs.YtjjbhjnpeenbkaaGreatDoor
open Go Go.PS Go.Proofs
open Go.Bd (Zam ZfD Zfo ZmO)

theorem ZlP {c d : Nat → Nat → Int} : ∀ {l : List Nat}, l.Nodup → (∀ u, u ∈ l → ∀ v, v ∈ l → u ≠ v → c u v = d u v) → Zam c l = Zam d l
 | [], _, _ => rfl
 | u :: l, hn, h => by
  obtain ⟨h1, h2⟩ := List.nodup_cons.1 hn;have e : l.map (c u) = l.map (d u) := List.map_congr_left fun v hv => h u (by simp) v (List.mem_cons_of_mem _ hv) fun he => h1 (he ▸ hv)
  rw [Zam, Zam, e, ZlP h2 fun u hu v hv => h u (List.mem_cons_of_mem _ hu) v (List.mem_cons_of_mem _ hv)]
theorem ZrG (f : Nat → Nat → Pr → Int) (l : List Nat) : ∀ F : List Pr, Zam (fun u v => w1 (f u v) F) l = w1 (fun y => Zam (fun u v => f u v y) l) F
 | [] => by simp only [w1]; exact Zfo l
 | y :: F => by simp only [w1]; rw [ZfD, ZrG f l F]
theorem ZrA (f : Nat → Nat → Pr → Pr → Int) (l : List Nat) (F : List Pr) : ∀ E : List Pr, Zam (fun u v => W (f u v) F E) l = W (fun x y => Zam (fun u v => f u v x y) l) F E
 | [] => by simp only [W]; exact Zfo l
 | x :: E => by simp only [W]; rw [ZfD, ZrG, ZrA f l F E]
theorem Zq2 {own oth : Pr → Int} {P : List Pr} {o : List Nat} {c : Nat → Nat → Int} (hn : o.Nodup) (hin : ∀ e, e ∈ P → 0 ≤ own e ∧ (own e).toNat ∈ o)
  (hc : ∀ u, u ∈ o → ∀ v, v ∈ o → u ≠ v → c u v = W (fun x w => ind (own x = (u : Int) ∧ own w = (v : Int) ∧ oth w < oth x)) P P) :
  Zam c o = W (fun x w => ind (o.idxOf (own x).toNat < o.idxOf (own w).toNat ∧ oth w < oth x)) P P := by
 rw [ZlP hn hc, ZrA];refine ZiQ fun x hx w hw => ?_
 obtain ⟨x1, x2⟩ := hin x hx;obtain ⟨y1, y2⟩ := hin w hw;have e : ∀ u v : Nat, ind (own x = (u : Int) ∧ own w = (v : Int) ∧ oth w < oth x) = if u = (own x).toNat ∧ v = (own w).toNat then ind (oth w < oth x) else 0 := fun u v => by
  by_cases h : u = (own x).toNat ∧ v = (own w).toNat
  ·rw [if_pos h];exact ZhK ⟨fun h2 => h2.2.2, fun h2 => ⟨by omega, by omega, h2⟩⟩
  ·rw [if_neg h];exact Zgv fun h2 => h (by omega)
 have e2 : (fun u v : Nat => ind (own x = (u : Int) ∧ own w = (v : Int) ∧ oth w < oth x)) = fun u v => if u = (own x).toNat ∧ v = (own w).toNat then ind (oth w < oth x) else 0 := funext fun u => funext fun v => e u v
 rw [e2, ZmO _ _ _ o hn x2 y2];by_cases h : o.idxOf (own x).toNat < o.idxOf (own w).toNat
 ·rw [if_pos h];exact ZhK ⟨fun h2 => ⟨h, h2⟩, fun h2 => h2.2⟩
 ·rw [if_neg h];exact (Zgv fun h2 => h h2.1).symm
end Go.Proofs.YtjjbhjnpeenbkaaGreatDoor
namespace Go.Proofs.YtjjbhjnpeenbkaaGreatDoor
open Go Go.PS Go.Proofs
open Go.Bd (Zam Part Zfz)

def ZaH (y : List Int) (o : List Nat) : List Int := o.map fun k => (y[k]?).getD 0
theorem Zlv (y : List Int) (o : List Nat) : (ZaH y o).length = o.length := by simp [ZaH]
theorem ZpX {y : List Int} {o : List Nat} {p : Nat} {v : Int} (hp : p ∈ o) (h : y[p]? = some v) : (ZaH y o)[o.idxOf p]? = some v := by
 have hl := List.idxOf_lt_length_iff.2 hp;have hg : o[o.idxOf p]? = some p := by
  rw [List.getElem?_eq_getElem hl, List.getElem_idxOf]
 rw [ZaH, List.getElem?_map, hg, Option.map_some, h]; rfl
theorem Zne {y : List Int} {o : List Nat} (h : Part y.length 0 o) {v : Int} : v ∈ ZaH y o ↔ v ∈ y := by
 constructor
 ·intro hv;obtain ⟨k, hk, rfl⟩ := List.mem_map.1 hv;have := h.lt k hk;rw [List.getElem?_eq_getElem this];exact List.getElem_mem this
 ·intro hv;obtain ⟨p, hp⟩ := List.getElem?_of_mem hv;have hlt := (List.getElem?_eq_some_iff.1 hp).1;have := ZpX (Zfz y.length h.nd h.lt (by have := h.len; omega) p hlt) hp;exact List.mem_of_getElem? this
theorem Zq9 {y : List Int} {o : List Nat} (hy : y.Nodup) (h : Part y.length 0 o) : (ZaH y o).Nodup := by
 refine List.pairwise_map.2 (h.nd.imp_of_mem fun {a b} ha hb hne he => hne ?_);have h1 := h.lt a ha;have h2 := h.lt b hb;rw [List.getElem?_eq_getElem h1, List.getElem?_eq_getElem h2] at he;exact (List.getElem_inj hy).1 he
theorem Zrs {y : List Int} {o : List Nat} (hy : y.Nodup) (h : Part y.length 0 o) (v : Int) : placeF (ZaH y o) v = if 0 ≤ placeF y v then ((o.idxOf (placeF y v).toNat : Nat) : Int) else -1 := by
 by_cases hv : v ∈ y
 ·obtain ⟨p, hp⟩ := List.getElem?_of_mem hv;have hlt := (List.getElem?_eq_some_iff.1 hp).1;rw [Zhg (Zq9 hy h) (ZpX (Zfz y.length h.nd h.lt (by have := h.len; omega) p hlt) hp), Zhg hy hp, if_pos (by omega), Int.toNat_natCast]
 ·rw [Zib (fun h2 => hv ((Zne h).1 h2)), Zib hv, if_neg (by omega)]
theorem Zvh {y z : List Int} {o : List Nat} (hy : y.Nodup) (h : Part y.length 0 o) (ar : List Arc) : Zbu (ZaH y o) z ar = (Zbu y z ar).map fun e => (((o.idxOf e.1.toNat : Nat) : Int), e.2) := by
 rw [Zbu, Zbu, List.map_flatMap]
 congr 1
 funext x
 rw [Zfu, Zfu, Zrs hy h];by_cases c : 0 ≤ placeF y x.1
 ·rw [if_pos c];by_cases c2 : 0 ≤ placeF z x.2
  ·rw [if_pos ⟨by omega, c2⟩, if_pos ⟨c, c2⟩]; rfl
  ·rw [if_neg (fun h => c2 h.2), if_neg (fun h => c2 h.2)]; rfl
 ·rw [if_neg c, if_neg (fun h => by omega), if_neg (fun h => c h.1)]; rfl
theorem Zxo {y z : List Int} {o : List Nat} (hz : z.Nodup) (h : Part z.length 0 o) (ar : List Arc) : Zbu y (ZaH z o) ar = (Zbu y z ar).map fun e => (e.1, ((o.idxOf e.2.toNat : Nat) : Int)) := by
 rw [Zbu, Zbu, List.map_flatMap]
 congr 1
 funext x
 rw [Zfu, Zfu, Zrs hz h];by_cases c : 0 ≤ placeF y x.1
 ·by_cases c2 : 0 ≤ placeF z x.2
  ·rw [if_pos c2, if_pos ⟨c, by omega⟩, if_pos ⟨c, c2⟩]; rfl
  ·rw [if_neg c2, if_neg (fun h => by omega), if_neg (fun h => c2 h.2)]; rfl
 ·rw [if_neg (fun h => c h.1), if_neg (fun h => c h.1)]; rfl
theorem Near.perm_up {a a' : Lv} {i : Nat} {y z : List Int} {o : List Nat} (h : Near a i y z) (h' : Near a' i (ZaH y o) z) (har : a'.2.2.1 = a.2.2.1) (ho : Part y.length 0 o) :
  ZbS a' i = Zam (fun u v => Zag (ZaU a i ((i : Int) + 1)) u v) o := by
 have hy : y.Nodup := (List.pairwise_flatten.1 (Zes h.ok)).1 y (List.mem_of_getElem? h.hy);have hin := h.ins;rw [h'.between, Near.cr, har, Zvh hy ho, Zln];rw [Zq2 (own := fun e => e.1) (oth := fun e => e.2) (P := Zbu y z a.2.2.1) ho.nd (fun e he => ⟨(hin e he).1, Zfz y.length ho.nd ho.lt (by have := ho.len; omega) _ (by have := hin e he; omega)⟩)
  (fun u hu v hv hne => by rw [h.cellD (ho.lt u hu) (ho.lt v hv), if_neg hne])]
 exact ZiQ fun x _ w _ => ZhK ⟨fun h2 => ⟨by have := h2.1; dsimp only at this; omega, h2.2⟩, fun h2 => ⟨by have := h2.1; dsimp only; omega, h2.2⟩⟩
theorem Near.perm_dn {a a' : Lv} {i : Nat} {y z : List Int} {o : List Nat} (h : Near a i y z) (h' : Near a' i y (ZaH z o)) (har : a'.2.2.1 = a.2.2.1) (ho : Part z.length 0 o) :
  ZbS a' i = Zam (fun u v => Zag (ZaU a ((i : Int) + 1) i) u v) o := by
 have hz : z.Nodup := (List.pairwise_flatten.1 (Zes h.ok)).1 z (List.mem_of_getElem? h.hz);have hin := h.ins;rw [h'.between, Near.cr, har, Zxo hz ho, Zln, Zqe];rw [Zq2 (own := fun e => e.2) (oth := fun e => e.1) (P := Zbu y z a.2.2.1) ho.nd (fun e he => ⟨(hin e he).2.2.1, Zfz z.length ho.nd ho.lt (by have := ho.len; omega) _ (by have := hin e he; omega)⟩)
  (fun u hu v hv hne => by rw [h.cellU (ho.lt u hu) (ho.lt v hv), if_neg hne])]
 exact ZiQ fun x _ w _ => ZhK ⟨fun h2 => ⟨by have := h2.2; dsimp only at this; omega, h2.1⟩, fun h2 => ⟨h2.2, by have := h2.1; dsimp only; omega⟩⟩
end Go.Proofs.YtjjbhjnpeenbkaaGreatDoor
namespace Go.Proofs.YtjjbhjnpeenbkaaGreatDoor
open Go Go.PS Go.Proofs
open Go.Bd (Zam ZfD Zfo Part Zfz)

def ZbQ (a : Lv) (i : Nat) (y : List Int) : Lv := (a.1, a.2.1.set i y, a.2.2.1, a.2.2.2)
theorem Zrm (n : Nat) : Part n 0 (List.range n) := ⟨List.nodup_range, fun v hv => List.mem_range.1 hv, by simp⟩
theorem Zxb (y : List Int) : ZaH y (List.range y.length) = y := by
 refine List.ext_getElem? fun k => ?_
 rw [ZaH, List.getElem?_map];by_cases h : k < y.length
 ·rw [List.getElem?_range h, Option.map_some, List.getElem?_eq_getElem h]; rfl
 ·rw [List.getElem?_eq_none (by simpa using h), List.getElem?_eq_none (by omega)]; rfl
def ZgH (a : Lv) (i : Nat) (u v : Nat) : Int := Zag (ZaU a i ((i : Int) - 1)) u v + Zag (ZaU a i ((i : Int) + 1)) u v
theorem ZpA {f g : Nat → Int} (i : Nat) (h : ∀ j, j ≠ i → j + 1 ≠ i → f j = g j) : ∀ n, ZaE f n = ZaE g n + (if i < n then f i - g i else 0) + (if 0 < i ∧ i ≤ n then f (i - 1) - g (i - 1) else 0)
 | 0 => by simp only [ZaE]; rw [if_neg (by omega), if_neg (by omega)]; rfl
 | n + 1 => by
  rw [ZaE, ZaE, ZpA i h n];by_cases c1 : n = i
  ·subst c1
   (repeat' split) <;> omega
  ·by_cases c2 : n + 1 = i
   ·subst c2;simp only [Nat.add_sub_cancel]
    (repeat' split) <;> omega
   ·rw [h n c1 c2]
    (repeat' split) <;> omega
theorem Zjc {a : Lv} {j : Nat} (h : ¬ j + 1 < a.2.1.length) : ZbS a j = 0 := by
 rw [ZbS, if_pos (by simp only [Zjg, decide_eq_true_eq]; omega)]
theorem Zwa {a : Lv} {i : Nat} {y : List Int} {o : List Nat} (hv : Zax a = true) (hv' : Zax (ZbQ a i (ZaH y o)) = true) (hy : a.2.1[i]? = some y) (ho : Part y.length 0 o) :
  Za7 (ZbQ a i (ZaH y o)) - Za7 a = Zam (ZgH a i) o - Zam (ZgH a i) (List.range y.length) := by
 have hil := (List.getElem?_eq_some_iff.1 hy).1;have hlen : (ZbQ a i (ZaH y o)).2.1.length = a.2.1.length := List.length_set;have hget : ∀ j, j ≠ i → (ZbQ a i (ZaH y o)).2.1[j]? = a.2.1[j]? := fun j hj => List.getElem?_set_ne (Ne.symm hj)
 have hget2 : (ZbQ a i (ZaH y o)).2.1[i]? = some (ZaH y o) := List.getElem?_set_self hil;have hrp := Zrm y.length;have hpr := Zxb y
 -- elsewhere nothing changes
 have he : ∀ j : Nat, j ≠ i → j + 1 ≠ i → ZbS (ZbQ a i (ZaH y o)) j = ZbS a j := fun j h1 h2 => by
  by_cases c : j + 1 < a.2.1.length
  ·obtain ⟨p, q, hn⟩ := ZkI hv c;have hn' : Near (ZbQ a i (ZaH y o)) j p q := ⟨hv', (hget j h1).trans hn.hy, (hget (j + 1) h2).trans hn.hz⟩;rw [hn.between, hn'.between]; rfl
  ·rw [Zjc c, Zjc (by rw [hlen]; exact c)]
 have hup : ZbS (ZbQ a i (ZaH y o)) i - ZbS a i = Zam (Zag (ZaU a i ((i : Int) + 1))) o - Zam (Zag (ZaU a i ((i : Int) + 1))) (List.range y.length) := by
  by_cases c : i + 1 < a.2.1.length
  ·obtain ⟨p, z, hn⟩ := ZkI hv c;obtain rfl : p = y := by have := hn.hy; rw [hy] at this; cases this; rfl
   have hn' : Near (ZbQ a i (ZaH p o)) i (ZaH p o) z := ⟨hv', hget2, (hget (i + 1) (by omega)).trans hn.hz⟩;have hn0 : Near a i (ZaH p (List.range p.length)) z := by rw [hpr]; exact hn
   rw [hn.perm_up hn' rfl ho, hn.perm_up hn0 rfl hrp]
  ·have hm : ZaU a i ((i : Int) + 1) = [] := by
    rw [ZaU, if_neg];intro hh;simp only [Zej, Bool.and_eq_true, decide_eq_true_eq] at hh;omega
   have hz : Zag (ZaU a i ((i : Int) + 1)) = fun _ _ => 0 := by funext u v; rw [hm]; rfl
   rw [hz, Zfo, Zfo, Zjc c, Zjc (by rw [hlen]; exact c)]
 have hdn : (if 0 < i ∧ i ≤ a.2.1.length then ZbS (ZbQ a i (ZaH y o)) ((i - 1 : Nat) : Int) - ZbS a ((i - 1 : Nat) : Int) else 0) =
   Zam (Zag (ZaU a i ((i : Int) - 1))) o - Zam (Zag (ZaU a i ((i : Int) - 1))) (List.range y.length) := by
  by_cases c : 0 < i
  ·obtain ⟨k, rfl⟩ : ∃ k, i = k + 1 := ⟨i - 1, by omega⟩;rw [if_pos ⟨c, by omega⟩, Nat.add_sub_cancel, show ((k + 1 : Nat) : Int) - 1 = (k : Int) by omega, show ((k + 1 : Nat) : Int) = (k : Int) + 1 by omega];obtain ⟨x, p, hn⟩ := ZkI hv (i := k) (by omega);obtain rfl : p = y := by have := hn.hz; rw [hy] at this; cases this; rfl
   have hn' : Near (ZbQ a (k + 1) (ZaH p o)) k x (ZaH p o) := ⟨hv', (hget k (by omega)).trans hn.hy, hget2⟩;have hn0 : Near a k x (ZaH p (List.range p.length)) := by rw [hpr]; exact hn
   rw [hn.perm_dn hn' rfl ho, hn.perm_dn hn0 rfl hrp]
  ·obtain rfl : i = 0 := by omega
   have hm : ZaU a ((0 : Nat) : Int) (((0 : Nat) : Int) - 1) = [] := by
    rw [ZaU, if_neg];intro hh;simp only [Zej, Bool.and_eq_true, decide_eq_true_eq] at hh;omega
   have hz : Zag (ZaU a ((0 : Nat) : Int) (((0 : Nat) : Int) - 1)) = fun _ _ => 0 := by funext u v; rw [hm]; rfl
   rw [hz, Zfo, Zfo, if_neg (by omega)]; rfl
 have hb : ZgH a i = fun u v => Zag (ZaU a i ((i : Int) - 1)) u v + Zag (ZaU a i ((i : Int) + 1)) u v := rfl
 rw [Za7, Za7, hlen, ZpA i he a.2.1.length, if_pos hil, hdn, hup, hb, ZfD, ZfD];omega
end Go.Proofs.YtjjbhjnpeenbkaaGreatDoor
namespace Go.Proofs.YtjjbhjnpeenbkaaGreatDoor
open Go Go.PS Go.Proofs
set_option maxRecDepth 100000
theorem ZcQ {n : Nat} {cs : List D} (h : Zbo Tryz.prog (n + 1) 3 cs) : ∃ m : Int, cs = [.int m] := by
 have hu : Tryz.prog.underlying 3 = some (.int .i64) := by kernel_rfl
 simp only [Zbo, hu] at h;obtain ⟨m, rfl, _⟩ := h;exact ⟨m, rfl⟩
end Go.Proofs.YtjjbhjnpeenbkaaGreatDoor
namespace Go.Proofs.YtjjbhjnpeenbkaaGreatDoor.Gr
open Go Go.PS Go.Proofs
set_option maxRecDepth 100000
attribute [local irreducible] Zab wpG Zaa Zaf

abbrev Zbf (s : ByteArray) : D := .sc (.string s)
def ZiB (c : Int) : Bool := (decide (97 ≤ c) && decide (c ≤ 122)) || (decide (65 ≤ c) && decide (c ≤ 90)) || decide (c = 95)
def ZiH (c : Int) : Bool := decide (48 ≤ c) && decide (c ≤ 57)
theorem ZxD (c : Int) : Zaa Tryz.prog 199 [.sc (.int .u8 c)] (.bool (ZiB c)) := by
 refine kE Tryz.func199 ?_;intro hat B X w0;refine kw kO kc0 kc0 ?_
 repeat' first | exact True.intro | refine Bn.mk ?_ ?_ | intro hc
 all_goals
  refine Zaj ?_;rw [Bool.eq_iff_iff];simp [ZiB]
  try omega
theorem Zwg (c : Int) : Zaa Tryz.prog 200 [.sc (.int .u8 c)] (.bool (ZiH c)) := by
 refine kE Tryz.func200 ?_;intro hat B X w0;refine kw kO kc0 kc0 ?_
 repeat' first | exact True.intro | refine Bn.mk ?_ ?_ | intro hc
 all_goals
  refine Zaj ?_;rw [Bool.eq_iff_iff];simp [ZiH]
  try omega
def ZgL (s : ByteArray) (n : Nat) : Bool := decide (n < s.size) && (ZiB ((Zcy s).getD n 0) || (decide (0 < n) && ZiH ((Zcy s).getD n 0)))
def Zi7 (s : ByteArray) : Nat := ((List.range (s.size + 1)).findIdx? fun n => !ZgL s n).getD 0
theorem Zuc {s : ByteArray} {n : Nat} (h : ∀ j, j < n → ZgL s j = true) (hn : ZgL s n = false) (hl : n ≤ s.size) : Zi7 s = n := by
 rw [Zi7, Zel (k := n) (List.getElem?_range (by omega)) (by rw [hn]; rfl) (fun j y hj hy => by
  rw [List.getElem?_range (by omega)] at hy;cases hy;rw [h j hj]; rfl)]
 rfl
theorem Zr2 (s : ByteArray) (hs : s.size ≤ 1000000) : Zaa Tryz.prog 147 [Zbf s] (.int (Zi7 s)) := by
 have h1 := ZxD;have h2 := Zwg;refine kE Tryz.func147 ?_;intro hat B X w0;refine kw1 kO kc0 kc0 ?_;refine Zai (fun (n : Nat) => n ≤ s.size ∧ ∀ j, j < n → ZgL s j = true) (fun n => [(0, .d (Zbf s)), (3, .int n)]) (fun n => []) (fun n => s.size - n) 0 ?_ ?_ ?_
 ·exact ⟨Nat.zero_le _, fun j h => by omega⟩
 ·exact kN kc0 []
 ·rintro n ⟨hn, hinv⟩;have hg := fun h => Zuc hinv h hn
  rcases Nat.lt_or_ge n s.size with hlt | hge
  ·generalize hb : (Zcy s).getD n 0 = b;have e : ZgL s n = (ZiB b || (decide (0 < n) && ZiH b)) := by rw [ZgL, hb, decide_eq_true hlt, Bool.true_and]
   have h1b := h1 b;have h2b := h2 b;rcases c1 : ZiB b with _ | _ <;> rw [c1] at h1b e
   ·by_cases c0 : 0 < n
    ·have c0' : (0 : Int) < n := by omega
     rw [decide_eq_true c0] at e;rcases c2 : ZiH b with _ | _ <;> rw [c2] at h2b e
     ·refine kw1 kO (kc2 hb @c0') (kc2 h1b h2b) ?_;exact Zah (by rw [hg e])
     ·refine kw1 kO (kc2 hb @c0') (kc2 h1b h2b) ?_;refine ⟨n + 1, ?_, kN kc0 [], ?_⟩
      ·exact ⟨hlt, fun j hj => by rcases Nat.lt_or_ge j n with h | h; exact hinv j h; rw [show j = n by omega]; exact e⟩
      ·omega
    ·have c0' : ¬ (0 : Int) < n := by omega
     rw [decide_eq_false c0] at e;refine kw1 kO (kc2 hb @c0') (kc1 h1b) ?_;exact Zah (by rw [hg e])
   ·refine kw1 kO (kc1 hb) (kc1 h1b) ?_;refine ⟨n + 1, ?_, kN kc0 [], ?_⟩
    ·exact ⟨hlt, fun j hj => by rcases Nat.lt_or_ge j n with h | h; exact hinv j h; rw [show j = n by omega]; exact e⟩
    ·omega
  ·refine kw1 kO kc0 kc0 ?_;exact Zah (by rw [hg (by simp [ZgL]; omega)])
def Zm9 (s : ByteArray) : Bool := decide (s = ⟨#[100, 105, 103, 114, 97, 112, 104]⟩) || decide (s = ⟨#[103, 114, 97, 112, 104]⟩) || decide (s = ⟨#[110, 111, 100, 101]⟩) || decide (s = ⟨#[101, 100, 103, 101]⟩) || decide (s = ⟨#[115, 101, 116]⟩) || decide (s = ⟨#[99, 108, 117, 115, 116, 101, 114]⟩)
theorem ZzT (s : ByteArray) : Zaa Tryz.prog 148 [Zbf s] (.bool (Zm9 s)) := by
 refine kE Tryz.func148 ?_;intro hat B X w0
 repeat' first | refine ZaK rfl ?_ | refine ZaF ?_ | refine wR ?_ | (refine ZaM rfl rfl (fun hc => ?_) (fun hc => ?_) <;> try simp only [hcL] at hc) | (refine ZaL _ rfl rfl (fun hc => ?_) (fun hc => ?_) <;> (try simp only [hcL] at hc) <;> try omega) | simp (disch := omega) only [go_sem, simprocAttr] | apply And.intro | omega | decide +kernel
 all_goals
  refine Zaj ?_
  simp_all [Zm9]
def ZdF (s : ByteArray) : Bool := decide (s ≠ ⟨#[]⟩) && decide (s.size ≤ 16) && decide (Zi7 s = s.size) && !Zm9 s
theorem Zjk (s : ByteArray) (hs : s.size ≤ 1000000) : Zaa Tryz.prog 90 [Zbf s] (.bool (ZdF s)) := by
 have h1 := Zr2 s hs;have h2 := ZzT s;refine kE Tryz.func90 ?_;intro hat B X w0;refine kw kO kc0 (kc2 h1 h2) ?_
 repeat' first | exact True.intro | refine Bn.mk ?_ ?_ | intro hc
 all_goals
  refine Zaj ?_;rw [Bool.eq_iff_iff];simp [ZdF]
  first | done | omega | (intro _; exact ⟨⟨by assumption, by omega⟩, by omega⟩) | (intros; contradiction)
structure Pt where
 nm : ByteArray
 sd : Int
structure Nd where
 nm : ByteArray
 lb : ByteArray
 w : Int
 h : Int
 cl : Int
 ps : List Pt
structure Ed where
 fr : Int
 to : Int
 fp : Int
 tp : Int
 lb : ByteArray
 wt : Int
 ln : Int
structure Cl where
 nm : ByteArray
 pa : Int
structure Gph where
 nm : ByteArray
 dir : Bool
 ns : List Nd
 es : List Ed
 cs : List Cl
abbrev ptD (p : Pt) : D := .ag [Zbf p.nm, .int p.sd]
abbrev ndD (n : Nd) : D := .ag [Zbf n.nm, Zbf n.lb, .int n.w, .int n.h, .int n.cl, .sl (n.ps.map ptD)]
abbrev edD (e : Ed) : D := .ag [.int e.fr, .int e.to, .int e.fp, .int e.tp, Zbf e.lb, .int e.wt, .int e.ln]
abbrev clD (c : Cl) : D := .ag [Zbf c.nm, .int c.pa]
abbrev ZbV (g : Gph) : D := .ag [Zbf g.nm, .bool g.dir, .sl (g.ns.map ndD), .sl (g.es.map edD), .sl (g.cs.map clD)]
def fe (f : Nat → Int) : Nat → Int
 | 0 => 0
 | k + 1 => if fe f k = 0 then f k else fe f k
theorem ZjU {f : Nat → Int} {k : Nat} (h : fe f k = 0) (hk : f k = 0) : fe f (k + 1) = 0 := by rw [fe, if_pos h, hk]
theorem ZgO {f : Nat → Int} {k : Nat} (h : fe f k = 0) (hk : f k ≠ 0) : ∀ n, k < n → fe f n = f k := by
 intro n
 induction n with
 | zero => intro hn; omega
 | succ n ih =>
  intro hn;rw [fe];rcases Nat.lt_or_ge k n with h1 | h1
  ·rw [ih h1, if_neg hk]
  ·rw [show n = k by omega, if_pos h]
theorem Zof {f : Nat → Int} : ∀ {n : Nat}, fe f n = 0 → ∀ k, k < n → f k = 0 := by
 intro n
 induction n with
 | zero => intro _ k hk; omega
 | succ n ih =>
  intro h k hk;rw [fe] at h;by_cases h0 : fe f n = 0
  ·rw [if_pos h0] at h;rcases Nat.lt_or_ge k n with h1 | h1
   ·exact ih h0 k h1
   ·rw [show k = n by omega]; exact h
  ·rw [if_neg h0] at h; exact absurd h h0
theorem ZsG (l : List Nd) (g : Nat) (caps : List D) (p : Nd → Bool) (hp : ∀ x, Zaa Tryz.prog g (ndD x :: caps) (.bool (p x))) : Zaa Tryz.prog 201 [.sl (l.map ndD), .fn g caps] (.int (ZcH (l.findIdx? p))) := by
 refine kE Tryz.func201 ?_;intro hat B X w0;have hl := Zbi 0 hat rfl;rw [List.length_map] at hl;refine kw1 kO kc0 kc0 ?_;refine Zai (fun (k : Nat) => k ≤ l.length ∧ ∀ (j : Nat) y, j < k → l[j]? = some y → p y = false) (fun k => [(0, .d (.sl (l.map ndD))), (1, .d (.fn g caps)), (7, .int l.length), (8, .int k)]) (fun k => []) (fun k => l.length - k) 0 ?_ ?_ ?_
 ·exact ⟨Nat.zero_le _, fun j y h => by omega⟩
 ·exact kN kc0 []
 ·rintro k ⟨hk, hinv⟩;rcases Nat.lt_or_ge k l.length with hlt | hge
  ·obtain ⟨x, hx⟩ := Zad hlt;have hpx := hp x;rcases hb : p x with _ | _ <;> rw [hb] at hpx
   ·refine kw1 kO (kc1 hx) (kc1 (kcc [ndD x] caps hpx)) ?_;refine ⟨k + 1, ?_, kN kc0 [], ?_⟩
    ·exact ⟨by omega, ZbL hinv hx hb⟩
    ·omega
   ·refine kw1 kO (kc1 hx) (kc1 (kcc [ndD x] caps hpx)) ?_;refine Zah ?_;rw [Zel hx hb hinv]; rfl
  ·refine kw1 kO kc0 kc0 ?_;refine Zah ?_;rw [ZeX (fun j y hy => hinv j y (by have := (List.getElem?_eq_some_iff.1 hy).1; omega) hy)]; rfl
theorem ZuB (l : List Pt) (g : Nat) (caps : List D) (p : Pt → Bool) (hp : ∀ x, Zaa Tryz.prog g (ptD x :: caps) (.bool (p x))) : Zaa Tryz.prog 235 [.sl (l.map ptD), .fn g caps] (.int (ZcH (l.findIdx? p))) := by
 refine kE Tryz.func235 ?_;intro hat B X w0;have hl := Zbi 0 hat rfl;rw [List.length_map] at hl;refine kw1 kO kc0 kc0 ?_;refine Zai (fun (k : Nat) => k ≤ l.length ∧ ∀ (j : Nat) y, j < k → l[j]? = some y → p y = false) (fun k => [(0, .d (.sl (l.map ptD))), (1, .d (.fn g caps)), (7, .int l.length), (8, .int k)]) (fun k => []) (fun k => l.length - k) 0 ?_ ?_ ?_
 ·exact ⟨Nat.zero_le _, fun j y h => by omega⟩
 ·exact kN kc0 []
 ·rintro k ⟨hk, hinv⟩;rcases Nat.lt_or_ge k l.length with hlt | hge
  ·obtain ⟨x, hx⟩ := Zad hlt;have hpx := hp x;rcases hb : p x with _ | _ <;> rw [hb] at hpx
   ·refine kw1 kO (kc1 hx) (kc1 (kcc [ptD x] caps hpx)) ?_;refine ⟨k + 1, ?_, kN kc0 [], ?_⟩
    ·exact ⟨by omega, ZbL hinv hx hb⟩
    ·omega
   ·refine kw1 kO (kc1 hx) (kc1 (kcc [ptD x] caps hpx)) ?_;refine Zah ?_;rw [Zel hx hb hinv]; rfl
  ·refine kw1 kO kc0 kc0 ?_;refine Zah ?_;rw [ZeX (fun j y hy => hinv j y (by have := (List.getElem?_eq_some_iff.1 hy).1; omega) hy)]; rfl
theorem ZsH (l : List Cl) (g : Nat) (caps : List D) (p : Cl → Bool) (hp : ∀ x, Zaa Tryz.prog g (clD x :: caps) (.bool (p x))) : Zaa Tryz.prog 205 [.sl (l.map clD), .fn g caps] (.int (ZcH (l.findIdx? p))) := by
 refine kE Tryz.func205 ?_;intro hat B X w0;have hl := Zbi 0 hat rfl;rw [List.length_map] at hl;refine kw1 kO kc0 kc0 ?_;refine Zai (fun (k : Nat) => k ≤ l.length ∧ ∀ (j : Nat) y, j < k → l[j]? = some y → p y = false) (fun k => [(0, .d (.sl (l.map clD))), (1, .d (.fn g caps)), (7, .int l.length), (8, .int k)]) (fun k => []) (fun k => l.length - k) 0 ?_ ?_ ?_
 ·exact ⟨Nat.zero_le _, fun j y h => by omega⟩
 ·exact kN kc0 []
 ·rintro k ⟨hk, hinv⟩;rcases Nat.lt_or_ge k l.length with hlt | hge
  ·obtain ⟨x, hx⟩ := Zad hlt;have hpx := hp x;rcases hb : p x with _ | _ <;> rw [hb] at hpx
   ·refine kw1 kO (kc1 hx) (kc1 (kcc [clD x] caps hpx)) ?_;refine ⟨k + 1, ?_, kN kc0 [], ?_⟩
    ·exact ⟨by omega, ZbL hinv hx hb⟩
    ·omega
   ·refine kw1 kO (kc1 hx) (kc1 (kcc [clD x] caps hpx)) ?_;refine Zah ?_;rw [Zel hx hb hinv]; rfl
  ·refine kw1 kO kc0 kc0 ?_;refine Zah ?_;rw [ZeX (fun j y hy => hinv j y (by have := (List.getElem?_eq_some_iff.1 hy).1; omega) hy)]; rfl
theorem Zyo (l : List Pt) (g : Nat) (caps : List D) (p : Pt → Bool) (hp : ∀ x, Zaa Tryz.prog g (ptD x :: caps) (.bool (p x))) : Zaa Tryz.prog 203 [.sl (l.map ptD), .fn g caps] (.bool (l.any p)) := by
 have h := ZuB l g caps p hp;refine kE Tryz.func203 ?_;intro hat B X w0;refine kw1 kO kc0 (kc1 h) ?_;exact Zaj (ZgG p l)
theorem Zzo (l : List Cl) (g : Nat) (caps : List D) (p : Cl → Bool) (hp : ∀ x, Zaa Tryz.prog g (clD x :: caps) (.bool (p x))) : Zaa Tryz.prog 153 [.sl (l.map clD), .fn g caps] (.bool (l.any p)) := by
 have h := ZsH l g caps p hp;refine kE Tryz.func153 ?_;intro hat B X w0;refine kw1 kO kc0 (kc1 h) ?_;exact Zaj (ZgG p l)
theorem ZwP (n : Nd) (s : ByteArray) : Zaa Tryz.prog 202 [ndD n, .pt [Zbf s]] (.bool (decide (n.nm = s))) := by
 refine kE Tryz.func202 ?_;intro hat B X w0;refine kw1 kO kc0 kc0 ?_;exact Zaj rfl
theorem Zz1 (c : Cl) (s : ByteArray) (k : Int) : Zaa Tryz.prog 154 [clD c, .pt [Zbf s, .int k]] (.bool (decide (c.nm = s))) := by
 refine kE Tryz.func154 ?_;intro hat B X w0;refine kw1 kO kc0 kc0 ?_;exact Zaj rfl
theorem ZxM (c : Pt) (s : ByteArray) (k : Int) : Zaa Tryz.prog 204 [ptD c, .pt [Zbf s, .int k]] (.bool (decide (c.nm = s))) := by
 refine kE Tryz.func204 ?_;intro hat B X w0;refine kw1 kO kc0 kc0 ?_;exact Zaj rfl
def Zg1 (g : Gph) (s : ByteArray) : Int := ZcH (g.ns.findIdx? fun n => decide (n.nm = s))
theorem Zke (g : Gph) (s : ByteArray) : Zaa Tryz.prog 149 [ZbV g, Zbf s] (.int (Zg1 g s)) := by
 have h := ZsG g.ns 202 [.pt [Zbf s]] (fun n => decide (n.nm = s)) (fun x => ZwP x s);refine kE Tryz.func149 ?_;intro hat B X w0;refine kw1 kO kc0 (kc1 h) ?_;exact Zah rfl
def ZcN (c : Int) : Bool := decide (c < 32) || decide (126 < c)
def ZeW (s : ByteArray) : Int := if 32 < s.size then 2 else if (Zcy s).any ZcN then 7 else 0
theorem Zwd {s : ByteArray} {k : Nat} (h : k < s.size) : (Zcy s)[k]? = some ((Zcy s).getD k 0) := by
 have := ZeF s;rw [List.getD_eq_getElem?_getD, List.getElem?_eq_getElem (by omega)]; rfl
theorem Zni (s : ByteArray) : Zaa Tryz.prog 150 [Zbf s] (.int (ZeW s)) := by
 have hbl := ZeF s;have hbd : (ZcS s).length = s.size := by rw [ZcS, List.length_map, hbl]
 rw [ZeW];by_cases h32 : 32 < s.size
 ·rw [if_pos h32];refine kE Tryz.func150 ?_;intro hat B X w0;refine kw1 kO kc0 kc0 ?_;exact Zah rfl
 ·rw [if_neg h32];refine kE Tryz.func150 ?_;intro hat B X w0;refine kw1 kO (kc1 hbd) kc0 ?_;refine Zai (fun (k : Nat) => k ≤ s.size ∧ ∀ (j : Nat) y, j < k → (Zcy s)[j]? = some y → ZcN y = false) (fun k => [(9, .d (.sl (ZcS s))), (10, .int s.size), (11, .int k)]) (fun k => []) (fun k => s.size - k) 0 ?_ ?_ ?_
  ·exact ⟨Nat.zero_le _, fun j y h => by omega⟩
  ·exact kN kc0 []
  ·rintro k ⟨hk, hinv⟩;rcases Nat.lt_or_ge k s.size with hlt | hge
   ·have hx := Zwd hlt;generalize (Zcy s).getD k 0 = c at hx;have hd : (ZcS s)[k]? = some (.sc (.int .u8 c)) := by rw [ZcS, List.getElem?_map, hx]; rfl
    by_cases h1 : c < 32
    ·refine kw1 kO (kc3 hd hbd h1) kc0 ?_;refine Zah ?_;rw [if_pos (Zc7 (q := ZcN) hx (by rw [ZcN, decide_eq_true h1]; rfl))]
    ·by_cases h2 : 126 < c
     ·refine kw1 kO (kc4 hd hbd h1 h2) kc0 ?_;refine Zah ?_;rw [if_pos (Zc7 (q := ZcN) hx (by rw [ZcN, decide_eq_true h2, Bool.or_true]))]
     ·refine kw1 kO (kc4 hd hbd h1 h2) kc0 ?_;refine ⟨k + 1, ?_, kN kc0 [], ?_⟩
      ·exact ⟨hlt, ZbL hinv hx (by rw [ZcN, decide_eq_false h1, decide_eq_false h2]; rfl)⟩
      ·omega
   ·refine kw1 kO kc0 kc0 ?_;refine Zah ?_;rw [if_neg (by rw [ZdI (q := ZcN) (fun j y hj => hinv j y (by omega))]; decide)]
def ZfQ (n : Int) : Bool := decide (1 ≤ n) && decide (n ≤ 1048576)
theorem Zrl (n : Int) : Zaa Tryz.prog 151 [.int n] (.bool (ZfQ n)) := by
 refine kE Tryz.func151 ?_;intro hat B X w0;refine kw kO kc0 kc0 ?_
 repeat' first | exact True.intro | refine Bn.mk ?_ ?_ | intro hc
 all_goals
  refine Zaj ?_;rw [Bool.eq_iff_iff];simp [ZfQ]
  try omega
def Zkk (l : List Pt) (i : Nat) : Int := match l[i]? with
 | none => 0
 | some p => if ZdF p.nm = false then 5 else if (l.take i).any (fun q => decide (q.nm = p.nm)) then 6 else if p.sd < 0 ∨ 3 < p.sd then 7 else 0
def Zkg (l : List Pt) : Int := if 8 < l.length then 2 else fe (Zkk l) l.length
theorem ZzQ {l : List Pt} {i : Nat} {p : Pt} (h : l[i]? = some p) : Zkk l i = if ZdF p.nm = false then 5 else if (l.take i).any (fun q => decide (q.nm = p.nm)) then 6 else if p.sd < 0 ∨ 3 < p.sd then 7 else 0 := by rw [Zkk, h]
theorem ZsC (l : List Pt) (hn : ∀ p ∈ l, p.nm.size ≤ 1000000) : Zaa Tryz.prog 152 [.sl (l.map ptD)] (.int (Zkg l)) := by
 rw [Zkg];by_cases h8 : 8 < l.length
 ·rw [if_pos h8];refine kE Tryz.func152 ?_;intro hat B X w0;refine kw1 kO kc0 kc0 ?_;exact Zah rfl
 ·rw [if_neg h8];refine kE Tryz.func152 ?_;intro hat B X w0;refine kw1 kO kc0 kc0 ?_;refine Zai (fun (k : Nat) => k ≤ l.length ∧ fe (Zkk l) k = 0) (fun k => [(0, .d (.sl (l.map ptD))), (8, .d (.sl (l.map ptD))), (9, .int l.length), (10, .int k)]) (fun k => []) (fun k => l.length - k) 0 ?_ ?_ ?_
  ·exact ⟨Nat.zero_le _, rfl⟩
  ·exact kN kc0 []
  ·rintro k ⟨hk, hinv⟩;rcases Nat.lt_or_ge k l.length with hlt | hge
   ·obtain ⟨p, hp⟩ := Zad hlt;have e := ZzQ hp;have h1 := Zjk p.nm (hn p (List.mem_of_getElem? hp));have h2 := Zyo (l.take k) 204 [.pt [Zbf p.nm, .int p.sd]] (fun q => decide (q.nm = p.nm)) (fun x => ZxM x p.nm p.sd);have hlt' : (l.take k).map ptD = (l.map ptD).take k := List.map_take;rw [hlt'] at h2;rcases c1 : ZdF p.nm with _ | _ <;> rw [c1] at h1 e
    ·rw [if_pos rfl] at e;refine kw1 kO (kc1 hp) (kc1 h1) ?_;exact Zah (by rw [ZgO hinv (by rw [e]; decide) _ hlt, e])
    ·rw [if_neg (by decide)] at e;rcases c2 : (l.take k).any (fun q => decide (q.nm = p.nm)) with _ | _ <;> rw [c2] at h2 e
     ·rw [if_neg (by decide)] at e;by_cases c3 : p.sd < 0
      ·rw [if_pos (.inl c3)] at e;refine kw kO (kc2 hp c3) (kc2 h1 h2) ?_
       repeat' first | exact True.intro | refine Bn.mk ?_ ?_ | intro hc
       exact Zah (by rw [ZgO hinv (by rw [e]; decide) _ hlt, e])
      ·by_cases c4 : 3 < p.sd
       ·rw [if_pos (.inr c4)] at e;refine kw kO (kc3 hp c3 c4) (kc2 h1 h2) ?_
        repeat' first | exact True.intro | refine Bn.mk ?_ ?_ | intro hc
        exact Zah (by rw [ZgO hinv (by rw [e]; decide) _ hlt, e])
       ·rw [if_neg (by omega)] at e;refine kw kO (kc3 hp c3 c4) (kc2 h1 h2) ?_
        repeat' first | exact True.intro | refine Bn.mk ?_ ?_ | intro hc
        refine ⟨k + 1, ?_, eL [] _ _ (by refine ⟨?_, ?_⟩ <;> (repeat' first | exact fmn | refine fmc ⟨(by first | rfl | (simp (disch := omega) only [go_sem, simprocAttr, inL]; first | done | omega | (congr 1; done))), ?_⟩); done), ?_⟩
        ·exact ⟨hlt, ZjU hinv e⟩
        ·omega
     ·rw [if_pos rfl] at e;refine kw kO (kc1 hp) (kc2 h1 h2) ?_
      repeat' first | exact True.intro | refine Bn.mk ?_ ?_ | intro hc
      exact Zah (by rw [ZgO hinv (by rw [e]; decide) _ hlt, e])
   ·refine kw1 kO kc0 kc0 ?_;exact Zah (by rw [show l.length = k by omega, hinv])
structure Mod (g : Gph) : Prop where
 nm : g.nm.size ≤ 1000000
 ns : ∀ n ∈ g.ns, n.nm.size ≤ 1000000 ∧ n.lb.size ≤ 1000000 ∧ ∀ p ∈ n.ps, p.nm.size ≤ 1000000
 es : ∀ e ∈ g.es, e.lb.size ≤ 1000000
 cs : ∀ c ∈ g.cs, c.nm.size ≤ 1000000
def ZfG (g : Gph) (i : Nat) : Int := match g.ns[i]? with
 | none => 0
 | some n => if ZdF n.nm = false then 5 else if Zg1 g n.nm < i then 6 else if ZeW n.lb ≠ 0 then ZeW n.lb
  else if ZfQ n.w = false ∨ ZfQ n.h = false ∨ n.cl < -1 ∨ (g.cs.length : Int) ≤ n.cl then 3 else Zkg n.ps
def Zfc (cs : List Cl) : Nat → Int → List Int
 | 0, _ => []
 | f + 1, c => if c < 0 then [] else c :: Zfc cs f (match cs[c.toNat]? with | some x => x.pa | none => -1)
def Zdc (cs : List Cl) (c : Int) : List Int := Zfc cs (c + 1).toNat c
def Zfb (g : Gph) (i : Nat) : Int := match g.cs[i]? with
 | none => 0
 | some c => if ZdF c.nm = false then 5 else if 0 ≤ Zg1 g c.nm ∨ (g.cs.take i).any (fun x => decide (x.nm = c.nm)) = true then 6 else if c.pa < -1 ∨ (i : Int) ≤ c.pa then 3 else if 6 < (Zdc g.cs i).length then 2 else 0
def Zkx (g : Gph) (v : Int) : Nat := match g.ns[v.toNat]? with | some n => n.ps.length | none => 0
def Zhp (g : Gph) (e : Ed) : Int :=
 if e.fr < 0 ∨ e.to < 0 ∨ (g.ns.length : Int) ≤ e.fr ∨ (g.ns.length : Int) ≤ e.to ∨ e.fp < -1 ∨ e.tp < -1 ∨ (Zkx g e.fr : Int) ≤ e.fp ∨ (Zkx g e.to : Int) ≤ e.tp then 3
 else if ZeW e.lb ≠ 0 then ZeW e.lb else if e.wt < 1 ∨ 1000 < e.wt ∨ e.ln < 1 ∨ 64 < e.ln then 7 else 0
def Zgw (g : Gph) (i : Nat) : Int := match g.es[i]? with | none => 0 | some e => Zhp g e
def Zdt (g : Gph) : Int := if 64 < g.ns.length ∨ 256 < g.es.length ∨ 16 < g.cs.length then 2 else if ZdF g.nm = false then 5
 else if fe (ZfG g) g.ns.length ≠ 0 then fe (ZfG g) g.ns.length else if fe (Zfb g) g.cs.length ≠ 0 then fe (Zfb g) g.cs.length else fe (Zgw g) g.es.length
theorem ZwK {g : Gph} {i : Nat} {n : Nd} (h : g.ns[i]? = some n) : ZfG g i = if ZdF n.nm = false then 5 else if Zg1 g n.nm < i then 6 else if ZeW n.lb ≠ 0 then ZeW n.lb
  else if ZfQ n.w = false ∨ ZfQ n.h = false ∨ n.cl < -1 ∨ (g.cs.length : Int) ≤ n.cl then 3 else Zkg n.ps := by rw [ZfG, h]
theorem Zos {g : Gph} {i : Nat} {c : Cl} (h : g.cs[i]? = some c) : Zfb g i = if ZdF c.nm = false then 5 else if 0 ≤ Zg1 g c.nm ∨ (g.cs.take i).any (fun x => decide (x.nm = c.nm)) = true then 6 else if c.pa < -1 ∨ (i : Int) ≤ c.pa then 3 else if 6 < (Zdc g.cs i).length then 2 else 0 := by rw [Zfb, h]
theorem Zy9 (g : Gph) (i : Nat) (hm : Mod g) (hi : i < g.ns.length) : Zaa Tryz.prog 91 [ZbV g, .int i] (.int (ZfG g i)) := by
 obtain ⟨n, hn⟩ := Zad hi;obtain ⟨m1, m2, m3⟩ := hm.ns n (List.mem_of_getElem? hn);have e := ZwK hn;have h1 := Zjk n.nm m1;have h2 := Zke g n.nm;have h3 := Zni n.lb;have h4 := Zrl n.w;have h5 := Zrl n.h;have h6 := ZsC n.ps m3;rw [e];rcases c1 : ZdF n.nm with _ | _ <;> rw [c1] at h1
 ·rw [if_pos rfl];refine kE Tryz.func91 ?_;intro hat B X w0;refine kw1 kO (kc1 hn) (kc1 h1) ?_;exact Zah rfl
 ·rw [if_neg (by decide)];by_cases c2 : Zg1 g n.nm < i
  ·rw [if_pos c2];refine kE Tryz.func91 ?_;intro hat B X w0;refine kw1 kO (kc2 hn c2) (kc2 h1 h2) ?_;exact Zah rfl
  ·rw [if_neg c2];by_cases c3 : ZeW n.lb = 0
   ·rw [if_neg (by omega)];rw [c3] at h3;rcases c4 : ZfQ n.w with _ | _ <;> rw [c4] at h4
    ·rw [if_pos (.inl rfl)];refine kE Tryz.func91 ?_;intro hat B X w0;refine kw1 kO (kc2 hn c2) (kc4 h1 h2 h3 h4) ?_;exact Zah rfl
    ·rcases c5 : ZfQ n.h with _ | _ <;> rw [c5] at h5
     ·rw [if_pos (.inr (.inl rfl))];refine kE Tryz.func91 ?_;intro hat B X w0;refine kw1 kO (kc2 hn c2) (kc5 h1 h2 h3 h4 h5) ?_;exact Zah rfl
     ·by_cases c6 : n.cl < -1
      ·rw [if_pos (.inr (.inr (.inl c6)))];refine kE Tryz.func91 ?_;intro hat B X w0;refine kw1 kO (kc3 hn c2 c6) (kc5 h1 h2 h3 h4 h5) ?_;exact Zah rfl
      ·by_cases c7 : (g.cs.length : Int) ≤ n.cl
       ·rw [if_pos (.inr (.inr (.inr c7)))];refine kE Tryz.func91 ?_;intro hat B X w0;refine kw1 kO (kc4 hn c2 c6 c7) (kc5 h1 h2 h3 h4 h5) ?_;exact Zah rfl
       ·rw [if_neg (by simp; omega)];refine kE Tryz.func91 ?_;intro hat B X w0;refine kw1 kO (kc4 hn c2 c6 c7) (kc6 h1 h2 h3 h4 h5 h6) ?_;exact Zah rfl
   ·rw [if_pos (by omega)];refine kE Tryz.func91 ?_;intro hat B X w0;refine kw1 kO (kc3 hn c2 c3) (kc3 h1 h2 h3) ?_;exact Zah rfl
def ZiF (cs : List Cl) (c0 : Int) : Prop := ∀ (j : Nat) x, cs[j]? = some x → (j : Int) ≤ c0 → -1 ≤ x.pa ∧ x.pa < j
theorem Zui {cs : List Cl} {c0 : Int} (h : ZiF cs c0) : ∀ (f : Nat) (c : Int), c ≤ c0 → (c + 1).toNat ≤ f → Zfc cs f c = Zdc cs c := by
 intro f
 induction f using Nat.strongRecOn with
 | _ f ih =>
  intro c hc hf;by_cases h0 : c < 0
  ·rw [Zdc, show (c + 1).toNat = 0 by omega, Zfc];cases f with
   | zero => rfl
   | succ f => rw [Zfc, if_pos h0]
  ·obtain ⟨k, rfl⟩ : ∃ k : Nat, c = k := ⟨c.toNat, by omega⟩;cases f with
   | zero => omega
   | succ f =>
    rw [Zdc, show ((k : Int) + 1).toNat = k + 1 by omega, Zfc, Zfc, if_neg (by omega), if_neg (by omega), Int.toNat_natCast]
    congr 1
    cases hx : cs[k]? with
    | none =>
     dsimp only;rw [ih f (by omega) (-1) (by omega) (by omega)];rcases Nat.lt_or_ge k (f + 1) with h1 | h1
     ·rcases Nat.lt_or_ge k f with h2 | h2
      ·rw [ih k (by omega) (-1) (by omega) (by omega)]
      ·rw [ih k (by omega) (-1) (by omega) (by omega)]
     ·omega
    | some x =>
     dsimp only;obtain ⟨g1, g2⟩ := h k x hx hc;rw [ih f (by omega) x.pa (by omega) (by omega), ih k (by omega) x.pa (by omega) (by omega)]
theorem ZvF (cs : List Cl) {c : Int} (h : c < 0) : Zdc cs c = [] := by
 rw [Zdc, show (c + 1).toNat = 0 by omega, Zfc]
theorem ZtY {cs : List Cl} {c0 : Int} (h : ZiF cs c0) {k : Nat} {x : Cl} (hx : cs[k]? = some x) (hk : (k : Int) ≤ c0) : Zdc cs k = (k : Int) :: Zdc cs x.pa := by
 obtain ⟨g1, g2⟩ := h k x hx hk;rw [Zdc, show ((k : Int) + 1).toNat = k + 1 by omega, Zfc, if_neg (by omega), Int.toNat_natCast, hx];dsimp only;rw [Zui h k x.pa (by omega) (by omega)]
theorem ZuK (g : Gph) (i : Nat) (hi : i < g.cs.length) (hd : ZiF g.cs i) (h1 : i ≤ 1000) : Zaa Tryz.prog 206 [ZbV g, .int i] (.sl ((Zdc g.cs i).map D.int)) := by
 refine kE Tryz.func206 ?_;intro hat B X w0;refine kw1 kO kc0 kc0 ?_;refine Zav _ (ZdU 5 901 1 rfl rfl) ?_;refine Zai (fun (q : List Int × Int) => match q with | (l, c) => l ++ Zdc g.cs c = Zdc g.cs i ∧ -1 ≤ c ∧ c ≤ i ∧ (l.length : Int) + c ≤ i) (fun (l, c) => [(1, .int c), (2, .ptr 2 0 0 0), (5, .ref 901 1 0 l.length l.length)]) (fun (l, c) => [(2, .cells [.d (Zbf g.nm), .d (.bool g.dir), .d (.sl (g.ns.map ndD)), .d (.sl (g.es.map edD)), .d (.sl (g.cs.map clD))]), (901, .row 1 (l.map D.int))]) (fun (l, c) => (c + 1).toNat) ([], (i : Int)) ?_ ?_ ?_
 ·exact ⟨rfl, by omega, by omega, by simp⟩
 ·exact kN kc0 []
 ·rintro ⟨l, c⟩ ⟨q1, q2, q3, q4⟩;dsimp only at q1 q2 q3 q4 ⊢;by_cases h0 : c < 0
  ·repeat' first | refine ZaK rfl ?_ | refine ZaF ?_ | refine wR ?_ | (refine ZaM rfl rfl (fun hc => ?_) (fun hc => ?_) <;> try simp only [hcL] at hc) | (refine ZaL _ rfl rfl (fun hc => ?_) (fun hc => ?_) <;> (try simp only [hcL] at hc) <;> try omega) | simp (disch := omega) only [go_sem, simprocAttr, h0] | apply And.intro | omega | decide +kernel
   rw [ZvF _ h0, List.append_nil] at q1;exact Zdb (o := 901) rfl rfl (by simp) (by rw [List.take_of_length_le (by simp), q1])
  ·obtain ⟨k, rfl⟩ : ∃ k : Nat, c = k := ⟨c.toNat, by omega⟩;obtain ⟨x, hx⟩ := Zad (l := g.cs) (k := k) (by omega);obtain ⟨g1, g2⟩ := hd k x hx q3;have hs := ZtY hd hx q3;refine kw1 kO (kc2 hx @Zat) kc0 ?_;refine ⟨(l ++ [(k : Int)], x.pa), ?_, kN (kc5 @List.length_append.{0} @List.length_singleton.{0} @List.map_append.{0,0} @List.map_cons.{0,0} @List.map_nil.{0,0}) [(901, 11)], ?_⟩
   ·refine ⟨?_, by omega, by omega, ?_⟩
    ·rw [← q1, hs, List.append_assoc]; rfl
    ·rw [List.length_append, List.length_singleton]; omega
   ·dsimp only; omega
theorem Zs7 (g : Gph) (i : Nat) (hi : i < g.cs.length) (hd : ZiF g.cs i) (h1 : i ≤ 1000) : Zaa Tryz.prog 155 [ZbV g, .int i] (.int (Zdc g.cs i).length) := by
 have h := ZuK g i hi hd h1;refine kE Tryz.func155 ?_;intro hat B X w0;refine kw kO kc0 (kc1 h) ?_
 repeat' first | exact True.intro | refine Bn.mk ?_ ?_ | intro hc
 exact Zah rfl
theorem Ztr {g : Gph} {i : Nat} (h : fe (Zfb g) i = 0) {c : Cl} (hc : g.cs[i]? = some c) (h1 : ¬ c.pa < -1) (h2 : ¬ (i : Int) ≤ c.pa) : ZiF g.cs i := by
 intro j x hx hj;rcases Nat.lt_or_ge j i with hlt | hge
 ·have hz := Zof h j hlt;rw [Zos hx] at hz;split at hz
  ·cases hz
  ·split at hz
   ·cases hz
   ·split at hz
    ·cases hz
    ·rename_i hq; omega
 ·obtain rfl : j = i := by omega
  rw [hc] at hx; cases hx; omega
theorem Zsu (g : Gph) (i : Nat) (hm : Mod g) (hi : i < g.cs.length) (hz : fe (Zfb g) i = 0) (h16 : g.cs.length ≤ 16) : Zaa Tryz.prog 92 [ZbV g, .int i] (.int (Zfb g i)) := by
 obtain ⟨c, hc⟩ := Zad hi;have e := Zos hc;have h1 := Zjk c.nm (hm.cs c (List.mem_of_getElem? hc));have h2 := Zke g c.nm;have h3 := Zzo (g.cs.take i) 154 [.pt [Zbf c.nm, .int c.pa]] (fun x => decide (x.nm = c.nm)) (fun x => Zz1 x c.nm c.pa);have ht : (g.cs.take i).map clD = (g.cs.map clD).take i := List.map_take;rw [ht] at h3;rw [e];rcases c1 : ZdF c.nm with _ | _ <;> rw [c1] at h1
 ·rw [if_pos rfl];refine kE Tryz.func92 ?_;intro hat B X w0;refine kw1 kO (kc1 hc) (kc1 h1) ?_;exact Zah rfl
 ·rw [if_neg (by decide)];by_cases c2 : 0 ≤ Zg1 g c.nm
  ·rw [if_pos (.inl c2)];refine kE Tryz.func92 ?_;intro hat B X w0;refine kw1 kO (kc2 hc c2) (kc2 h1 h2) ?_;exact Zah rfl
  ·rcases c3 : (g.cs.take i).any (fun x => decide (x.nm = c.nm)) with _ | _ <;> rw [c3] at h3
   ·rw [if_neg (by simp; omega)];by_cases c4 : c.pa < -1
    ·rw [if_pos (.inl c4)];refine kE Tryz.func92 ?_;intro hat B X w0;refine kw1 kO (kc3 hc c2 c4) (kc3 h1 h2 h3) ?_;exact Zah rfl
    ·by_cases c5 : (i : Int) ≤ c.pa
     ·rw [if_pos (.inr c5)];refine kE Tryz.func92 ?_;intro hat B X w0;refine kw1 kO (kc4 hc c2 c4 c5) (kc3 h1 h2 h3) ?_;exact Zah rfl
     ·rw [if_neg (by omega)];have h4 := Zs7 g i hi (Ztr hz hc c4 c5) (by omega);by_cases c6 : 6 < (Zdc g.cs i).length
      ·rw [if_pos c6];refine kE Tryz.func92 ?_;intro hat B X w0;refine kw1 kO (kc5 hc c2 c4 c5 c6) (kc4 h1 h2 h3 h4) ?_;exact Zah rfl
      ·rw [if_neg c6];refine kE Tryz.func92 ?_;intro hat B X w0;refine kw1 kO (kc5 hc c2 c4 c5 c6) (kc4 h1 h2 h3 h4) ?_;exact Zah rfl
   ·rw [if_pos (.inr rfl)];refine kE Tryz.func92 ?_;intro hat B X w0;refine kw1 kO (kc2 hc c2) (kc3 h1 h2 h3) ?_;exact Zah rfl
theorem ZrJ {g : Gph} {v : Int} {n : Nd} (h : g.ns[v.toNat]? = some n) : Zkx g v = n.ps.length := by rw [Zkx, h]
theorem Ziq {a b : Int} (c : Prop) [Decidable c] : (if c then a else b) < b → True := fun _ => trivial
theorem ZsO (g : Gph) (e : Ed) : Zaa Tryz.prog 93 [ZbV g, edD e] (.int (Zhp g e)) := by
 have h1 := Zni e.lb;by_cases hin : 0 ≤ e.fr ∧ 0 ≤ e.to ∧ e.fr < g.ns.length ∧ e.to < g.ns.length
 ·obtain ⟨i1, i2, i3, i4⟩ := hin;obtain ⟨n1, g1⟩ := Zad (l := g.ns) (k := e.fr.toNat) (by omega);obtain ⟨n2, g2⟩ := Zad (l := g.ns) (k := e.to.toNat) (by omega);have p1 := ZrJ g1;have p2 := ZrJ g2;have q1 : ¬ (if e.to < e.fr then e.to else e.fr) < 0 := by split <;> omega
  have q2 : ¬ (g.ns.length : Int) ≤ (if e.fr < e.to then e.to else e.fr) := by split <;> omega
  rw [Zhp, p1, p2];by_cases hp : e.fp < -1 ∨ e.tp < -1 ∨ (n1.ps.length : Int) ≤ e.fp ∨ (n2.ps.length : Int) ≤ e.tp
  ·rw [if_pos (by omega)];by_cases k1 : (if e.tp < e.fp then e.tp else e.fp) < -1
   ·refine kE Tryz.func93 ?_;intro hat B X w0;refine kw1 kO (kc5 g1 g2 q1 q2 k1) kc0 ?_;exact Zah rfl
   ·have k2 : (n1.ps.length : Int) ≤ e.fp ∨ (n2.ps.length : Int) ≤ e.tp := by split at k1 <;> omega
    by_cases k3 : (n1.ps.length : Int) ≤ e.fp
    ·refine kE Tryz.func93 ?_;intro hat B X w0;refine kw1 kO (kc6 g1 g2 q1 q2 k1 k3) kc0 ?_;exact Zah rfl
    ·have k4 : (n2.ps.length : Int) ≤ e.tp := by omega
     refine kE Tryz.func93 ?_;intro hat B X w0;refine kw1 kO (kc7 g1 g2 q1 q2 k1 k3 k4) kc0 ?_;exact Zah rfl
  ·rw [if_neg (by omega)];have k1 : ¬ (if e.tp < e.fp then e.tp else e.fp) < -1 := by split <;> omega
   have k3 : ¬ (n1.ps.length : Int) ≤ e.fp := by omega
   have k4 : ¬ (n2.ps.length : Int) ≤ e.tp := by omega
   by_cases c3 : ZeW e.lb = 0
   ·rw [if_neg (by omega)];rw [c3] at h1;by_cases hw : e.wt < 1 ∨ 1000 < e.wt ∨ e.ln < 1 ∨ 64 < e.ln
    ·rw [if_pos hw];refine kE Tryz.func93 ?_;intro hat B X w0;refine kw kO (kc7 g1 g2 q1 q2 k1 k3 k4) (kc1 h1) ?_
     repeat' first | exact True.intro | refine Bn.mk ?_ ?_ | intro hc
     all_goals first | exact Zah rfl | (exfalso; omega)
    ·rw [if_neg hw];have w1 : ¬ e.wt < 1 := by omega
     have w2 : ¬ 1000 < e.wt := by omega
     have w3 : ¬ e.ln < 1 := by omega
     have w4 : ¬ 64 < e.ln := by omega
     refine kE Tryz.func93 ?_;intro hat B X w0
     repeat' first | refine ZaK rfl ?_ | refine ZaF ?_ | refine wR ?_ | (refine rc (h1) rfl ?_ ?_; (· first | rfl | simp (disch := omega) only [go_sem, simprocAttr, g1, g2, q1, q2, k1, k3, k4, w1, w2, w3, w4])) | (refine ZaM rfl rfl (fun hc => ?_) (fun hc => ?_) <;> try simp only [hcL] at hc) | (refine ZaL _ rfl rfl (fun hc => ?_) (fun hc => ?_) <;> (try simp only [hcL] at hc) <;> try omega) | simp (disch := omega) only [go_sem, simprocAttr, g1, g2, q1, q2, k1, k3, k4, w1, w2, w3, w4] | apply And.intro | omega | decide +kernel
     exact Zah rfl
   ·rw [if_pos (by omega)];refine kE Tryz.func93 ?_;intro hat B X w0;refine kw1 kO (kc8 g1 g2 q1 q2 k1 k3 k4 c3) (kc1 h1) ?_;exact Zah rfl
 ·rw [Zhp, if_pos (by omega)];by_cases q1 : (if e.to < e.fr then e.to else e.fr) < 0
  ·refine kE Tryz.func93 ?_;intro hat B X w0;refine kw1 kO (kc1 q1) kc0 ?_;exact Zah rfl
  ·have q2 : (g.ns.length : Int) ≤ (if e.fr < e.to then e.to else e.fr) := by split at q1 <;> split <;> omega
   refine kE Tryz.func93 ?_;intro hat B X w0;refine kw1 kO (kc2 q1 q2) kc0 ?_;exact Zah rfl
theorem Zh4 (g : Gph) (hm : Mod g) : Zaa Tryz.prog 45 [ZbV g] (.int (Zdt g)) := by
 have h1 := Zjk g.nm hm.nm;rw [Zdt];by_cases c0 : 64 < g.ns.length ∨ 256 < g.es.length ∨ 16 < g.cs.length
 ·rw [if_pos c0];refine kE Tryz.func45 ?_;intro hat B X w0;refine kw kO kc0 kc0 ?_
  repeat' first | exact True.intro | refine Bn.mk ?_ ?_ | intro hc
  all_goals first | exact Zah rfl | (exfalso; omega)
 ·rw [if_neg c0];have a1 : ¬ (64 : Int) < g.ns.length := by omega
  have a2 : ¬ (256 : Int) < g.es.length := by omega
  have a3 : ¬ (16 : Int) < g.cs.length := by omega
  rcases c1 : ZdF g.nm with _ | _ <;> rw [c1] at h1
  ·rw [if_pos rfl];refine kE Tryz.func45 ?_;intro hat B X w0;refine kw1 kO (kc3 a1 a2 a3) (kc1 h1) ?_;exact Zah rfl
  ·rw [if_neg (by decide)];refine kE Tryz.func45 ?_;intro hat B X w0;refine kw1 kO (kc3 a1 a2 a3) (kc1 h1) ?_;refine Zai (fun (k : Nat) => k ≤ g.ns.length ∧ fe (ZfG g) k = 0) (fun k => [(1, .ptr 1 0 0 0), (32, .int g.ns.length), (33, .int k)]) (fun k => [(1, .cells [.d (Zbf g.nm), .d (.bool g.dir), .d (.sl (g.ns.map ndD)), .d (.sl (g.es.map edD)), .d (.sl (g.cs.map clD))])]) (fun k => g.ns.length - k) 0 ?_ ?_ ?_
   ·exact ⟨Nat.zero_le _, rfl⟩
   ·exact kN kc0 []
   ·rintro k ⟨hk, hinv⟩;rcases Nat.lt_or_ge k g.ns.length with hlt | hge
    ·have h2 := Zy9 g k hm hlt;by_cases hz : ZfG g k = 0
     ·rw [hz] at h2;refine kw1 kO kc0 (kc1 h2) ?_;refine ⟨k + 1, ?_, kN kc0 [], ?_⟩
      ·exact ⟨hlt, ZjU hinv hz⟩
      ·omega
     ·refine kw1 kO (kc1 hz) (kc1 h2) ?_;exact Zah (by rw [ZgO hinv hz _ hlt, if_pos hz])
    ·obtain rfl : k = g.ns.length := by omega
     rw [if_neg (fun h => h hinv)];refine kw1 kO kc0 kc0 ?_;refine Zai (fun (k : Nat) => k ≤ g.cs.length ∧ fe (Zfb g) k = 0) (fun k => [(1, .ptr 1 0 0 0), (45, .int g.cs.length), (46, .int k)]) (fun k => [(1, .cells [.d (Zbf g.nm), .d (.bool g.dir), .d (.sl (g.ns.map ndD)), .d (.sl (g.es.map edD)), .d (.sl (g.cs.map clD))])]) (fun k => g.cs.length - k) 0 ?_ ?_ ?_
     ·exact ⟨Nat.zero_le _, rfl⟩
     ·exact kN kc0 []
     ·rintro k ⟨hk, hinv2⟩;rcases Nat.lt_or_ge k g.cs.length with hlt | hge
      ·have h2 := Zsu g k hm hlt hinv2 (by omega);by_cases hz : Zfb g k = 0
       ·rw [hz] at h2;refine kw1 kO kc0 (kc1 h2) ?_;refine ⟨k + 1, ?_, kN kc0 [], ?_⟩
        ·exact ⟨hlt, ZjU hinv2 hz⟩
        ·omega
       ·refine kw1 kO (kc1 hz) (kc1 h2) ?_;exact Zah (by rw [ZgO hinv2 hz _ hlt, if_pos hz])
      ·obtain rfl : k = g.cs.length := by omega
       rw [if_neg (fun h => h hinv2)];refine kw1 kO kc0 kc0 ?_;refine Zai (fun (k : Nat) => k ≤ g.es.length ∧ fe (Zgw g) k = 0) (fun k => [(1, .ptr 1 0 0 0), (57, .d (.sl (g.es.map edD))), (58, .int g.es.length), (59, .int k)]) (fun k => [(1, .cells [.d (Zbf g.nm), .d (.bool g.dir), .d (.sl (g.ns.map ndD)), .d (.sl (g.es.map edD)), .d (.sl (g.cs.map clD))])]) (fun k => g.es.length - k) 0 ?_ ?_ ?_
       ·exact ⟨Nat.zero_le _, rfl⟩
       ·exact kN kc0 []
       ·rintro k ⟨hk, hinv3⟩;rcases Nat.lt_or_ge k g.es.length with hlt | hge
        ·obtain ⟨x, hx⟩ := Zad hlt;have h2 := ZsO g x;have ee : Zgw g k = Zhp g x := by rw [Zgw, hx]
         rw [← ee] at h2;by_cases hz : Zgw g k = 0
         ·rw [hz] at h2;refine kw1 kO (kc1 hx) (kc1 h2) ?_;refine ⟨k + 1, ?_, kN kc0 [], ?_⟩
          ·exact ⟨hlt, ZjU hinv3 hz⟩
          ·omega
         ·refine kw1 kO (kc2 hx hz) (kc1 h2) ?_;exact Zah (by rw [ZgO hinv3 hz _ hlt])
        ·refine kw1 kO kc0 kc0 ?_;exact Zah (by rw [show g.es.length = k by omega, hinv3])
end Go.Proofs.YtjjbhjnpeenbkaaGreatDoor.Gr
namespace Go.Proofs.YtjjbhjnpeenbkaaGreatDoor
open Go Go.PS Go.Proofs
open Go.Bd (sm Zam ZbD)
set_option maxRecDepth 100000
attribute [local irreducible] Zab wpG Zaa Zaf

abbrev Zaw (v : Nat) : D := .int (v : Int)
abbrev Zcc (l : List Nat) : D := .sl (l.map Zaw)
theorem ZtR (l : List Nat) : Zcc l = Zac (l.map fun v : Nat => (v : Int)) := by rw [Zcc, Zac, List.map_map]; rfl
theorem Zkp (l : List Nat) : ∀ d, d ∈ l.map Zaw → d.cells.length = 1 := Zgy Zaw 1 (fun _ => rfl) l
theorem ZfO (v : Nat) : ∀ d, d ∈ [Zaw v] → d.cells.length = 1 := fun d hd => by rw [List.mem_singleton.1 hd]; rfl
theorem Zwv {l : List Nat} {v : Nat} : (v : Int) ∈ l.map (fun v : Nat => (v : Int)) ↔ v ∈ l := by
 simp [List.mem_map, Int.ofNat_inj]
theorem Ztw (l : List Int) (v : Int) : decide (0 ≤ placeF l v) = decide (v ∈ l) := by
 rw [Zp0, Bool.eq_iff_iff, List.any_eq_true];simp
theorem Zxx (l : List Int) (v : Int) : Zaa Tryz.prog 224 [Zac l, .int v] (.bool (decide (v ∈ l))) := by
 have h := ZjY l v;rw [← Ztw];refine kE Tryz.func224 ?_;intro hat B X w0;refine kw1 kO kc0 (kc1 h) ?_;exact Zaj rfl
theorem Zhz (l : List Nat) (v : Nat) : Zaa Tryz.prog 224 [Zcc l, .int v] (.bool (decide (v ∈ l))) := by
 have h := Zxx (l.map fun v : Nat => (v : Int)) v;rw [← ZtR, decide_eq_decide.2 Zwv] at h;exact h
def ZcN (x : Int) : Bool := decide (x < 0) || decide (1000000 < x)
def Zgz (n : Nat) (p : List Int) : Bool := decide (p.length ≠ n) || p.any ZcN
def okM (m : List (List Int)) : Bool := decide (m.length ≤ 8) && !m.any (Zgz m.length)
theorem Zk8 {m : List (List Int)} (h : okM m = true) : Sq m ∧ m.length ≤ 8 := by
 simp only [okM, Bool.and_eq_true, decide_eq_true_eq, Bool.not_eq_true', List.any_eq_false] at h;obtain ⟨h1, h2⟩ := h;have hr : ∀ p, p ∈ m → p.length = m.length ∧ ∀ x, x ∈ p → 0 ≤ x ∧ x ≤ 1000000 := fun p hp => by
  have := h2 p hp;simp only [Zgz, Bool.or_eq_true, decide_eq_true_eq, not_or, Bool.not_eq_true, List.any_eq_false] at this;refine ⟨by omega, fun x hx => ?_⟩;have := this.2 x hx;simp only [ZcN, Bool.or_eq_true, Bool.or_eq_false_iff, decide_eq_true_eq, decide_eq_false_iff_not, not_or] at this;omega
 exact ⟨⟨by omega, fun p hp => (hr p hp).1, fun p hp => (hr p hp).2⟩, h1⟩
theorem Zzu {m : List (List Int)} (h : Sq m) (h8 : m.length ≤ 8) : okM m = true := by
 simp only [okM, Bool.and_eq_true, decide_eq_true_eq, Bool.not_eq_true', List.any_eq_false];refine ⟨h8, fun p hp => ?_⟩;simp only [Zgz, Bool.or_eq_true, decide_eq_true_eq, not_or, Bool.not_eq_true, List.any_eq_false];refine ⟨fun hne => hne (h.row p hp), fun x hx => ?_⟩;have := h.val p hp x hx;simp only [ZcN, Bool.or_eq_true, Bool.or_eq_false_iff, decide_eq_true_eq, decide_eq_false_iff_not, not_or];omega
theorem Sq.small {m : List (List Int)} (h : Sq m) : ZbD (Zag m) m.length := fun u v hu hv => by
 obtain ⟨p, _, _, _, g1, g2⟩ := h.get hu hv;exact ⟨g1, g2⟩
theorem Zvc (x : Int) : Zaa Tryz.prog 223 [.int x] (.bool (ZcN x)) := by
 refine kE Tryz.func223 ?_;intro hat B X w0;refine kw kO kc0 kc0 ?_
 repeat' first | exact True.intro | refine Bn.mk ?_ ?_ | intro hc
 all_goals
  refine Zaj ?_;simp only [ZcN, *, decide_true, decide_false, Bool.true_or, Bool.or_true, Bool.false_or, Bool.or_false]
theorem ZoY (m : List (List Int)) : Zaa Tryz.prog 178 [Zae m] (.bool (okM m)) := by
 refine kE Tryz.func178 ?_;intro hat B X w0;have hl := Zbi 0 hat rfl;rw [List.length_map] at hl;by_cases c8 : 8 < m.length
 ·refine kw1 kO kc0 kc0 ?_;refine Zaj ?_;rw [okM, decide_eq_false (by omega)]; rfl
 ·refine kw1 kO kc0 kc0 ?_;refine Zai (fun (k : Nat) => k ≤ m.length ∧ ∀ (j : Nat) y, j < k → m[j]? = some y → Zgz m.length y = false) (fun k => [(0, .d (Zae m)), (8, .d (Zae m)), (9, .int m.length), (10, .int k)]) (fun k => []) (fun k => m.length - k) 0 ?_ ?_ ?_
  ·exact ⟨Nat.zero_le _, fun j y hj => by omega⟩
  ·exact kN kc0 []
  ·rintro k ⟨hk, hinv⟩;rcases Nat.lt_or_ge k m.length with hlt | hge
   ·obtain ⟨p, hp⟩ := Zad hlt;have hcf := ZjH p 223 ZcN Zvc;by_cases c : p.length = m.length
    ·have cI : (p.length : Int) = m.length := by omega
     rcases hb : p.any ZcN with _ | _ <;> rw [hb] at hcf
     ·refine kw1 kO (kc2 hp cI) (kc1 hcf) ?_;refine ⟨k + 1, ?_, kN kc0 [], ?_⟩
      ·exact ⟨by omega, ZbL hinv hp (by rw [Zgz, hb, decide_eq_false (by omega)]; rfl)⟩
      ·omega
     ·refine kw1 kO (kc2 hp cI) (kc1 hcf) ?_;refine Zaj ?_;rw [okM, Zc7 hp (by rw [Zgz, hb, Bool.or_true])]; simp
    ·have cI : ¬ (p.length : Int) = m.length := by omega
     refine kw1 kO (kc2 hp cI) (kc1 hcf) ?_;refine Zaj ?_;rw [okM, Zc7 hp (by rw [Zgz, decide_eq_true c, Bool.true_or])]; simp
   ·refine kw1 kO kc0 kc0 ?_;refine Zaj ?_;rw [okM, ZdI fun j y hj => hinv j y (by omega), decide_eq_true (by omega)]; rfl
end Go.Proofs.YtjjbhjnpeenbkaaGreatDoor
namespace Go.Proofs.YtjjbhjnpeenbkaaGreatDoor
open Go Go.PS Go.Proofs
open Go.Bd (sm Zam ZbD low Part Zbh Zig Za8)
set_option maxRecDepth 100000
attribute [local irreducible] Zab wpG Zaa Zaf

def lwF (m : List (List Int)) (k : Nat) : Int := sm (fun u => sm (fun v => min (Zag m u v) (Zag m v u)) u) k
theorem Zq3 (m : List (List Int)) : low (Zag m) m.length [] = lwF m m.length := by
 rw [low, lwF];refine Go.Bd.sm_congr _ fun u _ => Go.Bd.sm_congr _ fun v _ => ?_
 rw [if_pos ⟨List.not_mem_nil, List.not_mem_nil⟩, Int.min_comm]
theorem Zh0 (a b : Int) : (if b < a then b else a) = min a b := by omega
theorem Zol {m : List (List Int)} (hs : Sq m) (h8 : m.length ≤ 8) {u : Nat} (hu : u < m.length) (k : Nat) (hk : k ≤ u) : 0 ≤ sm (fun v => min (Zag m u v) (Zag m v u)) k ∧ sm (fun v => min (Zag m u v) (Zag m v u)) k ≤ 1000000 * k :=
 Go.Bd.sm_bounds k fun v hv => by
  have h1 := hs.small u v hu (by omega);have h2 := hs.small v u (by omega) hu;omega
theorem ZoD {m : List (List Int)} (hs : Sq m) (h8 : m.length ≤ 8) (k : Nat) (hk : k ≤ m.length) : 0 ≤ lwF m k ∧ lwF m k ≤ 8000000 * k :=
 Go.Bd.sm_bounds k fun u hu => by
  have := Zol hs h8 (u := u) (by omega) u (Nat.le_refl _);omega
theorem Ztu (m : List (List Int)) (h : okM m = true) : Zaa Tryz.prog 180 [Zae m] (.int (low (Zag m) m.length [])) := by
 have hv := ZoY m;rw [h] at hv;obtain ⟨hs, h8⟩ := Zk8 h;rw [Zq3];refine kE Tryz.func180 ?_;intro hat B X w0;refine kw1 kO kc0 (kc1 hv) ?_;refine Zai (fun (u : Nat) => u ≤ m.length) (fun u => [(0, .d (Zae m)), (3, .int (lwF m u)), (10, .int m.length), (11, .int u)]) (fun u => []) (fun u => m.length - u) 0 ?_ ?_ ?_
 ·exact Nat.zero_le _
 ·exact eL [] _ _ (by refine ⟨?_, ?_⟩ <;> (repeat' first | exact fmn | refine fmc ⟨(by first | rfl | (simp (disch := omega) only [go_sem, simprocAttr, inL, lwF, sm]; first | done | omega | (congr 1; done))), ?_⟩); done)
 ·intro u hu;have hb := ZoD hs h8 u hu;rcases Nat.lt_or_ge u m.length with hlt | hge
  ·have e1 : lwF m (u + 1) = lwF m u + sm (fun v => min (Zag m u v) (Zag m v u)) u := rfl;refine kw1 kO kc0 kc0 ?_;refine Zai (fun (v : Nat) => v ≤ u) (fun v => [(0, .d (Zae m)), (3, .int (lwF m u + sm (fun v => min (Zag m u v) (Zag m v u)) v)), (4, .int u), (10, .int m.length), (11, .int u), (14, .int u), (15, .int v)]) (fun v => []) (fun v => u - v) 0 ?_ ?_ ?_
   ·exact Nat.zero_le _
   ·exact eL [] _ _ (by refine ⟨?_, ?_⟩ <;> (repeat' first | exact fmn | refine fmc ⟨(by first | rfl | (simp (disch := omega) only [go_sem, simprocAttr, inL, sm, Int.add_zero]; first | done | omega | (congr 1; done))), ?_⟩); done)
   ·intro v hv;have hb2 := Zol hs h8 hlt v hv;rcases Nat.lt_or_ge v u with hlv | hgv
    ·obtain ⟨p, hp, hpl, hpv, h1, h2⟩ := hs.get hlt (show v < m.length by omega);obtain ⟨q, hq, hql, hqv, h3, h4⟩ := hs.get (show v < m.length by omega) hlt;have e2 : sm (fun v => min (Zag m u v) (Zag m v u)) (v + 1) = sm (fun v => min (Zag m u v) (Zag m v u)) v + min (Zag m u v) (Zag m v u) := rfl;refine kw1 kO (kc5 hp hq hpv hqv @Zh0) kc0 ?_;refine ⟨v + 1, ?_, kN (kc2 e2 @Int.add_assoc) [], ?_⟩
     ·omega
     ·omega
    ·have : v = u := by omega
     subst this;refine kw1 kO kc0 kc0 ?_;refine ⟨v + 1, ?_, kN (kc1 e1) [], ?_⟩
     ·omega
     ·omega
  ·have : u = m.length := by omega
   subst this;refine kw1 kO kc0 kc0 ?_;exact Zah rfl
theorem ZiK (n : Nat) : Part n n [] := ⟨List.nodup_nil, fun v hv => absurd hv List.not_mem_nil, by simp⟩
def Zcp (m : List (List Int)) : List Nat × Int := (Zbh (Zag m) m.length m.length []).getD ([], 0)
theorem ZlA (m : List (List Int)) : Zbh (Zag m) m.length m.length [] = some (Zcp m) := by
 obtain ⟨s, hs⟩ := Go.Bd.best_some (c := Zag m) m.length [] (ZiK _);rw [Zcp, hs]; rfl
end Go.Proofs.YtjjbhjnpeenbkaaGreatDoor
namespace Go.Proofs.YtjjbhjnpeenbkaaGreatDoor
open Go Go.PS Go.Proofs
open Go.Bd (sm Zam ZbD low Part Zbh Zig Za8 ZbM Zbv Zcw ZdA ZcE)
set_option maxRecDepth 100000
attribute [local irreducible] Zab wpG Zaa Zaf

theorem ZyO (l : List Nat) (hn : l.length ≤ 1000000) : Zaf Tryz.prog 214 [.ref 1000 1 0 l.length l.length] [(1000, .row 1 (l.map Zaw)), (2000, .dead)] (.ref 2000 1 0 l.length l.length) [(1000, .row 1 (l.map Zaw)), (2000, .row 1 (l.map Zaw))] := by
 rcases Decidable.em (l = []) with rfl | hl
 ·refine kM Tryz.func214 ?_;intro B X w0;refine ZcK ?_;refine kw1 kO kc0 kc0 ?_;refine Zir 4 rfl ?_;intro b;cases b
  ·repeat' first | refine ZaK rfl ?_ | refine ZaF ?_ | refine Zci (Nat.beq 5) Zbr ?_ | (refine ZaM rfl rfl (fun hc => ?_) (fun hc => ?_) <;> try simp only [hcL] at hc) | (refine ZaL _ rfl rfl (fun hc => ?_) (fun hc => ?_) <;> (try simp only [hcL] at hc) <;> try omega) | simp (disch := omega) only [go_sem, simprocAttr, roomy] | apply And.intro | omega | decide +kernel
   refine ⟨_, Zbk.1 (kN (L := [(2, .ref 2000 1 0 0 0)]) (M := [(1000, .row 1 []), (2000, .row 1 [])]) kc0 [(2000, 7)]), ?_⟩;exact ⟨rfl, List.forall_mem_cons.2 ⟨rfl, List.forall_mem_cons.2 ⟨rfl, List.forall_mem_nil _⟩⟩⟩
  ·refine kw1 kO kc0 kc0 ?_;refine ⟨_, Ent.trans (ZdU 2 7 1 rfl rfl) (Zbk.1 (eL [(2000, 7)] [(2, .ref 2000 1 0 0 0)] [(1000, .row 1 []), (2000, .row 1 [])] (by constructor <;> (repeat' first | exact List.forall_mem_nil _ | refine List.forall_mem_cons.2 ⟨rfl, ?_⟩)))), ?_⟩;exact ⟨rfl, List.forall_mem_cons.2 ⟨rfl, List.forall_mem_cons.2 ⟨rfl, List.forall_mem_nil _⟩⟩⟩
 ·have he : (l.map Zaw).isEmpty = false := by simpa using hl
  have hpos : 0 < l.length := List.length_pos_iff.2 hl;have hne : l.length ≠ 0 := by omega
  refine kM Tryz.func214 ?_;intro B X w0;refine ZcK ?_
  repeat' first | refine ZaK rfl ?_ | refine ZaF ?_ | refine Zci (Nat.beq 5) Zbr ?_ | (refine ZaM rfl rfl (fun hc => ?_) (fun hc => ?_) <;> try simp only [hcL] at hc) | (refine ZaL _ rfl rfl (fun hc => ?_) (fun hc => ?_) <;> (try simp only [hcL] at hc) <;> try omega) | simp (disch := omega) only [go_sem, simprocAttr, he, roomy, Zat, hne] | exact Zkp l | apply And.intro | omega | decide +kernel
  refine ⟨_, Zbk.1 (kN (L := [(2, .ref 2000 1 0 l.length l.length)]) (M := [(1000, .row 1 (l.map Zaw)), (2000, .row 1 (l.map Zaw))]) kc0 [(2000, 7)]), ?_⟩;exact ⟨rfl, List.forall_mem_cons.2 ⟨rfl, List.forall_mem_cons.2 ⟨rfl, List.forall_mem_nil _⟩⟩⟩
def bPV : Option (List Nat × Int) → PV
 | none => .nilS
 | some s => .d (Zcc s.1)
def lI : Option (List Nat × Int) → Int
 | none => 0
 | some s => s.2
theorem ZoW (c : Nat → Nat → Int) (n : Nat) : ∀ (f : Nat) (l : List Nat), Part n f l → ∀ (st : Option (List Nat × Int)) (cost rest : Int), (∀ s, st = some s → s.1.length = n) → ∀ s, ZbM c n f l cost rest st = some s → s.1.length = n
 | 0, l, hp, st, cost, rest, h, s, hs => by
  rw [ZbM] at hs;split at hs
  ·exact h s hs
  ·cases hs; have := hp.len; dsimp only; omega
 | f + 1, l, hp, st, cost, rest, h, s, hs => by
  rw [Go.Bd.ext_foldE] at hs;split at hs
  ·exact h s hs
  ·have key : ∀ k, k ≤ n → ∀ s, Zbv c n f l cost rest st k = some s → s.1.length = n := by
    intro k
    induction k with
    | zero => intro _ s hs; exact h s hs
    | succ k ih =>
     intro hk s hs;by_cases hm : k ∈ l
     ·rw [Go.Bd.foldE_in c n hm] at hs; exact ih (by omega) s hs
     ·rw [Go.Bd.foldE_out c n hm] at hs;exact ZoW c n f (l ++ [k]) (hp.snoc (by omega) hm) _ _ _ (ih (by omega)) s hs
   exact key n (Nat.le_refl _) s hs
theorem Zvb {c : Nat → Nat → Int} {n f : Nat} {l : List Nat} (hp : Part n (f + 1) l) {st : Option (List Nat × Int)} {cost rest : Int} (h : ∀ s, st = some s → s.1.length = n) : ∀ k, k ≤ n → ∀ s, Zbv c n f l cost rest st k = some s → s.1.length = n := by
 intro k
 induction k with
 | zero => intro _ s hs; exact h s hs
 | succ k ih =>
  intro hk s hs;by_cases hm : k ∈ l
  ·rw [Go.Bd.foldE_in c n hm] at hs; exact ih (by omega) s hs
  ·rw [Go.Bd.foldE_out c n hm] at hs;exact ZoW c n f (l ++ [k]) (hp.snoc (by omega) hm) _ _ _ (ih (by omega)) s hs
def ZeI (m : List (List Int)) (f : Nat) (l : List Nat) (st : Option (List Nat × Int)) (cost rest : Int) : Prop :=
 Zaf Tryz.prog 179 [.ptr 1000 0 0 0, .int cost, .int rest] [(1000, .cells [.d (Zae m), .ref 1001 1 0 l.length l.length, bPV st, .int (lI st)]), (1001, .row 1 (l.map Zaw)), (2000, .dead)] (.tup [])
  [(1000, .cells [.d (Zae m), .ref 2000 1 0 l.length l.length, bPV (ZbM (Zag m) m.length f l cost rest st), .int (lI (ZbM (Zag m) m.length f l cost rest st))]), (1001, .gone), (2000, .row 1 (l.map Zaw))]
structure ExtIn (m : List (List Int)) (l : List Nat) (st : Option (List Nat × Int)) (cost rest : Int) : Prop where
 len : ∀ s, st = some s → s.1.length = m.length
 pos : 0 < m.length ∨ st = none
 c0 : 0 ≤ cost
 c1 : cost ≤ 8000000 * l.length
 r0 : -8000000 * l.length ≤ rest
 r1 : rest ≤ 64000000
theorem Zng (m : List (List Int)) (f : Nat) (l : List Nat) (st : Option (List Nat × Int)) (cost rest : Int) (hi : ExtIn m l st cost rest) (hl : l.length ≤ 8) (hsh : ZcE st (cost + rest) = true) (he : ZbM (Zag m) m.length f l cost rest st = st) : ZeI m f l st cost rest := by
 rw [ZeI, he];rcases st with _ | ⟨b, k⟩
 ·cases hsh
 ·have hk : k ≤ cost + rest := by simpa [ZcE] using hsh
  have hbl := hi.len _ rfl;have hpos : 0 < m.length := hi.pos.resolve_right (by simp);have hne : (b.map Zaw).isEmpty = false := by
   cases b with
   | nil => simp at hbl; omega
   | cons x b => rfl
  obtain ⟨_, _, c0, c1, r0, r1⟩ := hi;simp only [bPV, lI];refine kM Tryz.func179 ?_;intro B X w0;refine ZcK ?_;refine kw1 kO (kc2 hne hk) kc0 ?_;refine ⟨_, Zh3 1001 2000 rfl (by decide) (by decide), ?_⟩;exact ⟨⟨[], rfl, trivial⟩, List.forall_mem_cons.2 ⟨by simp [mvG, upd, Zan, Ob.ren, PV.ren], List.forall_mem_cons.2 ⟨rfl, List.forall_mem_cons.2 ⟨by simp [mvG, upd, Zan, Ob.ren, PV.ren], List.forall_mem_nil _⟩⟩⟩⟩
theorem ZrV (m : List (List Int)) (hs : Sq m) (h8 : m.length ≤ 8) (l : List Nat) (hp : Part m.length 0 l) (st : Option (List Nat × Int)) (cost rest : Int) (hi : ExtIn m l st cost rest) (hsh : ZcE st (cost + rest) = false) : ZeI m 0 l st cost rest := by
 have hll := hp.len;have hlI : (l.length : Int) = m.length := by omega
 have he : ZbM (Zag m) m.length 0 l cost rest st = some (l, cost) := by rw [ZbM, if_neg (by rw [hsh]; decide)]
 rw [ZeI, he];have hcl := ZyO l (by omega);rcases st with _ | ⟨b, k⟩
 ·obtain ⟨_, _, c0, c1, r0, r1⟩ := hi;simp only [bPV, lI];refine kM Tryz.func179 ?_;intro B X w0;refine ZcK ?_;refine kw1 kO (kc1 hlI) (kc1 (kmc [(1000, 1001), (2000, 905)] hcl)) ?_;refine ⟨_, Ent.trans (Zbk.1 (eL [] [] [(1000, .cells [.d (Zae m), .ref 1001 1 0 l.length l.length, .ref 905 1 0 l.length l.length, .int cost]), (1001, .row 1 (l.map Zaw)), (905, .row 1 (l.map Zaw))] (by constructor <;> (repeat' first | exact List.forall_mem_nil _ | refine List.forall_mem_cons.2 ⟨rfl, ?_⟩)))) (Ent.trans (Zc5 905 1 (l.map Zaw) rfl (ZcR _ rfl) (by decide)) (Zh3 1001 2000 rfl (by decide) (by decide))), ?_⟩;exact ⟨⟨[], rfl, trivial⟩, List.forall_mem_cons.2 ⟨by simp [mvG, upd, Zan, Ob.ren, PV.ren, Zfn, Ob.frz, PV.frzL, PV.frz, Zat, hlI], List.forall_mem_cons.2 ⟨rfl, List.forall_mem_cons.2 ⟨by simp [mvG, upd, Zan, Ob.ren, PV.ren, Zfn, Ob.frz], List.forall_mem_nil _⟩⟩⟩⟩
 ·have hk : ¬ k ≤ cost + rest := by simpa [ZcE] using hsh
  have hbl := hi.len _ rfl;have hpos : 0 < m.length := hi.pos.resolve_right (by simp);have hne : (b.map Zaw).isEmpty = false := by
   cases b with
   | nil => simp at hbl; omega
   | cons x b => rfl
  obtain ⟨_, _, c0, c1, r0, r1⟩ := hi;simp only [bPV, lI];refine kM Tryz.func179 ?_;intro B X w0;refine ZcK ?_;refine kw1 kO (kc3 hne hk hlI) (kc1 (kmc [(1000, 1001), (2000, 905)] hcl)) ?_;refine ⟨_, Ent.trans (Zbk.1 (eL [] [] [(1000, .cells [.d (Zae m), .ref 1001 1 0 l.length l.length, .ref 905 1 0 l.length l.length, .int cost]), (1001, .row 1 (l.map Zaw)), (905, .row 1 (l.map Zaw))] (by constructor <;> (repeat' first | exact List.forall_mem_nil _ | refine List.forall_mem_cons.2 ⟨rfl, ?_⟩)))) (Ent.trans (Zc5 905 1 (l.map Zaw) rfl (ZcR _ rfl) (by decide)) (Zh3 1001 2000 rfl (by decide) (by decide))), ?_⟩;exact ⟨⟨[], rfl, trivial⟩, List.forall_mem_cons.2 ⟨by simp [mvG, upd, Zan, Ob.ren, PV.ren, Zfn, Ob.frz, PV.frzL, PV.frz, Zat, hlI], List.forall_mem_cons.2 ⟨rfl, List.forall_mem_cons.2 ⟨by simp [mvG, upd, Zan, Ob.ren, PV.ren, Zfn, Ob.frz], List.forall_mem_nil _⟩⟩⟩⟩
end Go.Proofs.YtjjbhjnpeenbkaaGreatDoor
