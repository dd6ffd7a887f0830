/- Levels: the plain laws of validity. -/
import Derived.Test.YtjjbhjnpeenbkaaGreatDoorD
set_option linter.unusedSimpArgs false
set_option linter.unusedVariables false
set_option maxHeartbeats 16000000
namespace Go.Proofs.YtjjbhjnpeenbkaaGreatDoor
open Go Go.PS Go.Proofs

theorem ZgD : ∀ {l m : List Int}, l.Nodup → (∀ x, x ∈ l → x ∈ m) → l.length ≤ m.length
 | [], m, _, _ => Nat.zero_le _
 | x :: l, m, hn, hs => by
  have hx : x ∈ m := hs x (by simp);have h1 := List.length_erase_of_mem hx;have h2 : 0 < m.length := List.length_pos_of_mem hx;have hn2 := List.nodup_cons.1 hn;have := ZgD (l := l) (m := m.erase x) hn2.2 (fun y hy => by
   have hne : y ≠ x := fun e => hn2.1 (e ▸ hy)
   exact (List.mem_erase_of_ne hne).2 (hs y (List.mem_cons_of_mem _ hy)))
  simp only [List.length_cons]; omega
def below (c : Nat) : List Int := (List.range c).map fun n : Nat => (n : Int)
theorem ZqL (c : Nat) : (below c).length = c := by simp [below]
theorem Zi6 {c : Nat} {v : Int} : v ∈ below c ↔ 0 ≤ v ∧ v < c := by
 simp only [below, List.mem_map, List.mem_range];constructor
 ·rintro ⟨n, h, rfl⟩; omega
 ·intro h; exact ⟨v.toNat, by omega, by omega⟩
theorem Ztk (c : Nat) : (below c).Nodup := by
 refine List.Pairwise.map _ ?_ (List.nodup_range (n := c));intro a b h; omega
theorem ZuC {c : Nat} {l : List Int} (hn : l.Nodup) (hb : ∀ v, v ∈ l → 0 ≤ v ∧ v < c) (hl : l.length = c) (v : Int) (h0 : 0 ≤ v) (h1 : v < c) : v ∈ l := by
 by_cases h : v ∈ l
 ·exact h
 ·have := ZgD (l := v :: l) (m := below c) (List.nodup_cons.2 ⟨h, hn⟩) (fun x hx => by
   rcases List.mem_cons.1 hx with rfl | hx
   ·exact Zi6.2 ⟨h0, h1⟩
   ·exact Zi6.2 (hb x hx))
  rw [ZqL, List.length_cons] at this;omega
theorem ZhP {A : List Int} {k : Nat} {v : Int} : v ∈ ZaX A k ↔ 0 ≤ v ∧ A[v.toNat]? = some (k : Int) := by
 simp only [ZaX, List.mem_map, List.mem_filter, List.mem_range, decide_eq_true_eq];constructor
 ·rintro ⟨n, ⟨h1, h2⟩, rfl⟩;exact ⟨by omega, by rw [Int.toNat_natCast]; exact h2⟩
 ·rintro ⟨h1, h2⟩;exact ⟨v.toNat, ⟨(List.getElem?_eq_some_iff.1 h2).1, h2⟩, by omega⟩
theorem Zz5 (A : List Int) (k : Nat) : (ZaX A k).Pairwise (· < ·) := by
 refine List.Pairwise.map (R := (· < ·)) _ ?_ ((List.pairwise_lt_range (n := A.length)).filter _);intro a b h; omega
theorem ZoC {A : List Int} {M k : Nat} (h : k < M) : (ZbB A M)[k]? = some (ZaX A k) := by simp [ZbB, h]
section layers
variable {A : List Int} {M : Nat}
theorem Zlc (hA : ∀ n : Nat, n < A.length → 0 ≤ at0 A n ∧ at0 A n < M) {v : Int} : v ∈ (ZbB A M).flatten ↔ 0 ≤ v ∧ v < A.length := by
 simp only [ZbB, List.mem_flatten, List.mem_map, List.mem_range];constructor
 ·rintro ⟨y, ⟨k, hk, rfl⟩, hv⟩;obtain ⟨h1, h2⟩ := ZhP.1 hv;have := (List.getElem?_eq_some_iff.1 h2).1;omega
 ·rintro ⟨h1, h2⟩;have h3 := hA v.toNat (by omega);refine ⟨_, ⟨(at0 A v.toNat).toNat, by omega, rfl⟩, ZhP.2 ⟨h1, ?_⟩⟩;rw [ZaW (by omega)]
  congr 1; omega
theorem Zqi : (ZbB A M).flatten.Nodup := by
 refine List.pairwise_flatten.2 ⟨fun y hy => ?_, ?_⟩
 ·obtain ⟨k, _, rfl⟩ := List.mem_map.1 hy;exact (Zz5 A k).imp (fun h => by omega)
 ·refine List.Pairwise.map _ ?_ (List.pairwise_lt_range (n := M));intro a b h x hx y hy e;subst e;have h1 := (ZhP.1 hx).2;rw [(ZhP.1 hy).2, Option.some.injEq] at h1;omega
theorem ZsE (hA : ∀ n : Nat, n < A.length → 0 ≤ at0 A n ∧ at0 A n < M) : tot (ZbB A M) = A.length := by
 rw [← Zka];have h1 := ZgD (l := (ZbB A M).flatten) (m := below A.length) Zqi (fun x hx => Zi6.2 ((Zlc hA).1 hx));have h2 := ZgD (l := below A.length) (m := (ZbB A M).flatten) (Ztk _) (fun x hx => (Zlc hA).2 (Zi6.1 hx));rw [ZqL] at h1 h2;omega
theorem Zw7 (hA : ∀ n : Nat, n < A.length → 0 ≤ at0 A n ∧ at0 A n < M) {n : Nat} (h : n < A.length) : ZaQ (ZbB A M) n = at0 A n := by
 have h3 := hA n h;have hk : (ZbB A M)[(at0 A n).toNat]? = some (ZaX A (at0 A n).toNat) := ZoC (by omega);have hm : ((n : Nat) : Int) ∈ ZaX A (at0 A n).toNat := ZhP.2 ⟨by omega, by rw [Int.toNat_natCast, ZaW h]; congr 1; omega⟩;rw [ZaQ, Zel hk (List.any_eq_true.2 ⟨_, hm, by simp⟩)]
 ·show (((at0 A n).toNat : Nat) : Int) = _; omega
 ·intro j y hj hy;rw [ZoC (by omega)] at hy;cases hy;rw [List.any_eq_false];intro x hx hxn;have : x = n := by simpa using hxn
  subst this;have h4 := (ZhP.1 hx).2;rw [Int.toNat_natCast, ZaW h, Option.some.injEq] at h4;omega
theorem ZsS (hA : ∀ n : Nat, n < A.length → 0 ≤ at0 A n ∧ at0 A n < M) : Zct A.length (ZbB A M) = true := by
 rw [ZfW];exact ⟨fun v hv => (Zlc hA).1 hv, Zqi⟩
theorem ZrM (hA : ∀ n : Nat, n < A.length → 0 ≤ at0 A n ∧ at0 A n < M) : ZbY A.length (ZbB A M) = A := by
 refine List.ext_getElem? fun u => ?_
 by_cases hu : u < A.length
 ·rw [ZiU hu, Zw7 hA hu, ZaW hu]
 ·rw [List.getElem?_eq_none (by rw [ZeB]; omega), List.getElem?_eq_none (by omega)]
end layers
theorem Zjt (ls : List (List Int)) : (ls.map ZaG).flatten.Perm ls.flatten := by
 induction ls with
 | nil => exact .refl _
 | cons y ls ih => simp only [List.map_cons, List.flatten_cons]; exact (Zhv y).append ih
theorem Zuv (ls : List (List Int)) : tot (ls.map ZaG) = tot ls := by
 rw [← Zka, ← Zka]; exact (Zjt ls).length_eq
theorem ZkE (ls : List (List Int)) (v : Int) : ZaQ (ls.map ZaG) v = ZaQ ls v := by
 rw [ZaQ, ZaQ, List.findIdx?_map]
 congr 2
 funext y
 show (ZaG y).any _ = y.any _;rw [Bool.eq_iff_iff, List.any_eq_true, List.any_eq_true];constructor
 ·rintro ⟨x, h1, h2⟩; exact ⟨x, (Zhv y).mem_iff.1 h1, h2⟩
 ·rintro ⟨x, h1, h2⟩; exact ⟨x, (Zhv y).mem_iff.2 h1, h2⟩
theorem Zr7 (c : Nat) (ls : List (List Int)) : Zct c (ls.map ZaG) = Zct c ls := by
 rw [Bool.eq_iff_iff, ZfW, ZfW, (Zjt ls).nodup_iff];constructor
 ·rintro ⟨h1, h2⟩; exact ⟨fun v hv => h1 v ((Zjt ls).mem_iff.2 hv), h2⟩
 ·rintro ⟨h1, h2⟩; exact ⟨fun v hv => h1 v ((Zjt ls).mem_iff.1 hv), h2⟩
theorem Zyp (c : Nat) (ls : List (List Int)) : ZbY c (ls.map ZaG) = ZbY c ls := by simp only [ZbY, ZkE]
theorem ZwL (ls : List (List Int)) : Zb3 (ls.map ZaG) = Zb3 ls := by
 rw [Zb3, Zb3, List.length_map, Zuv, Zr7, Zyp]
def Zfd (g : Gr) (r : List Int) : Nat := if g.1 = 0 then 0 else (Zch r (r.length - 1) + 1).toNat
structure Built (g : Gr) (r : List Int) : Prop where
 eq : ZaI g r = (Zd5 g r, 0)
 gok : gOk g = true
 len : (r.length : Int) = g.1
 rk : ∀ v : Nat, 0 ≤ at0 r v ∧ at0 r v ≤ 255
 loop : ∀ a, a ∈ g.2 → a.1 ≠ a.2
 gap : ∀ (k : Nat) a, g.2[k]? = some a → 0 ≤ at0 r a.2 - at0 r a.1 - 1
 big : g.1 + Za0 r g.2 g.2.length ≤ 512
theorem built {g : Gr} {r : List Int} (h : (ZaI g r).2 = 0) : Built g r := by
 rw [ZaI] at h;split at h
 ·cases h
 ·rename_i h1;have h1 : Zdr g r = true := by simpa using h1
  obtain ⟨g1, g2, g3, g4⟩ := ZjG h1;split at h
  ·cases h
  ·rename_i h2;split at h
   ·cases h
   ·rename_i h3;split at h
    ·cases h
    ·rename_i h4;refine ⟨?_, g1, g2, g4, fun a ha => ?_, fun k a ha => ?_, by omega⟩
     ·rw [ZaI, h1, if_neg (by decide), if_neg h2, if_neg h3, if_neg h4]
     ·have := List.any_eq_false.1 (Bool.eq_false_iff.2 h2) a ha;simpa [Zc6] using this
     ·have := List.any_eq_false.1 (Bool.eq_false_iff.2 h3) a (List.mem_of_getElem? ha);rw [Zco, decide_eq_true_eq] at this; omega
theorem Zq4 (g : Gr) (r : List Int) : (Zd5 g r).2.1 = ZbB (Zaz r g.2 g.2.length) (Zfd g r) := by
 rw [Zd5, Zfd];split
 ·rfl
 ·rfl
theorem ZyH {l : List Int} {P : Int → Prop} (h : ∀ x, x ∈ l → P x) (n : Nat) (hn : n < l.length) : P (at0 l n) := h _ (List.mem_of_getElem? (ZaW hn))
namespace Built
variable {g : Gr} {r : List Int}
theorem ends (b : Built g r) {k : Nat} {a : Arc} (h : g.2[k]? = some a) : 0 ≤ a.1 ∧ a.1 < g.1 ∧ 0 ≤ a.2 ∧ a.2 < g.1 := (ZhR b.gok).2.2.2 k a h
theorem high (b : Built g r) (hp : 0 < r.length) : (Zfd g r : Int) = Zch r (r.length - 1) + 1 := by
 have h1 := Zhc r (r.length - 1) 0 (by omega);have h2 := b.rk 0;have h3 := b.len;rw [Zfd, if_neg (by omega)]; omega
theorem high_le (b : Built g r) : Zfd g r ≤ 256 := by
 have h2 := Zj5 (fun j => (b.rk j).2) (r.length - 1);rw [Zfd];split <;> omega
theorem rk_lt (b : Built g r) {n : Nat} (h : n < r.length) : at0 r n < Zfd g r := by
 have := Zhc r (r.length - 1) n (by omega);rw [b.high (by omega)]; omega
theorem vals (b : Built g r) : ∀ n : Nat, n < (Zaz r g.2 g.2.length).length → 0 ≤ at0 (Zaz r g.2 g.2.length) n ∧ at0 (Zaz r g.2 g.2.length) n < Zfd g r := by
 refine fun n hn => ZyH (P := fun x => 0 ≤ x ∧ x < Zfd g r) ?_ n hn
 intro x hx;rw [Zaz, List.take_length, List.mem_append] at hx;rcases hx with hx | hx
 ·obtain ⟨k, hk⟩ := List.getElem?_of_mem hx;have hkl := (List.getElem?_eq_some_iff.1 hk).1;rw [ZaW hkl] at hk;cases hk;exact ⟨(b.rk k).1, b.rk_lt hkl⟩
 ·obtain ⟨a, ha, hx⟩ := List.mem_flatMap.1 hx;obtain ⟨k, hk⟩ := List.getElem?_of_mem ha;have he := b.ends hk;have hg := b.gap k a hk;have hl := b.len;have h1 := b.rk a.1.toNat;have h2 := b.rk_lt (n := a.2.toNat) (by omega);rw [show ((a.1.toNat : Nat) : Int) = a.1 by omega] at h1;rw [show ((a.2.toNat : Nat) : Int) = a.2 by omega] at h2;simp only [Zal, List.mem_map, List.mem_range] at hx;obtain ⟨j, hj, rfl⟩ := hx;rw [ZaC] at hj;omega
theorem all_len (b : Built g r) : (Zaz r g.2 g.2.length).length ≤ 512 := by
 have h1 := Zkh b.gap g.2.length (Nat.le_refl _);have h2 := b.len;have h3 := b.big;omega
theorem all_ge (b : Built g r) : r.length ≤ (Zaz r g.2 g.2.length).length := by simp [Zaz]
theorem all_take (b : Built g r) : (Zaz r g.2 g.2.length).take r.length = r := by simp [Zaz]
theorem ranks (b : Built g r) : Zb3 (Zd5 g r).2.1 = some (Zaz r g.2 g.2.length) := by
 have hv := b.vals;have hl := b.all_len;rw [Zq4, Zb3, Zlb, ZsE hv, if_neg (by have := b.high_le; omega), ZsS hv, if_pos rfl, ZrM hv]
end Built
theorem ZlL {a : Lv} (h : Zax a = true) : Zgd a = true ∧ a.2.2.2.any Zdh = false ∧ Zff a = true ∧ (ZaI (ZaZ a) (Za4 a)).2 = 0 ∧ ZcA a = (ZaI (ZaZ a) (Za4 a)).1 := by
 simp only [Zax, Bool.and_eq_true, Bool.not_eq_true', decide_eq_true_eq, Zj6] at h;obtain ⟨⟨⟨⟨h1, h2⟩, h3⟩, h4⟩, h5⟩ := h;exact ⟨h1, h2, h3, h4, h5⟩
theorem Zis {a : Lv} (h : Zax a = true) : Built (ZaZ a) (Za4 a) ∧ ZcA a = Zd5 (ZaZ a) (Za4 a) ∧ Zb3 a.2.1 = some (Zaz (Za4 a) (ZaZ a).2 (ZaZ a).2.length) := by
 obtain ⟨h1, h2, h3, h4, h5⟩ := ZlL h;have b := built h4;rw [b.eq] at h5;refine ⟨b, h5, ?_⟩;rw [← ZwL];have : a.2.1.map ZaG = (Zd5 (ZaZ a) (Za4 a)).2.1 := congrArg (fun x : Lv => x.2.1) h5;rw [this, b.ranks]
theorem Zqg {a : Lv} (h : Zax a = true) : Zb2 a = (ZaZ a, Za4 a, true) := by
 obtain ⟨h1, h2, h3, h4, h5⟩ := ZlL h;obtain ⟨b, hm, hr⟩ := Zis h;simp only [Zgd, decide_eq_true_eq] at h1;have hl := b.len;have hge := b.all_ge;have e1 : (ZaZ a).1 = a.1 := rfl;rw [Zb2, hr];dsimp only;rw [if_pos]
 ·have := b.all_take;rw [show a.1.toNat = (Za4 a).length by omega, this]
 ·simp only [ZfM, Bool.and_eq_true, decide_eq_true_eq, h2, Bool.not_false, and_true];omega
theorem ZxI {a : Lv} (h : (Zb2 a).2.2 = true) : ∃ o, Zb3 a.2.1 = some o ∧ ZfM a o = true ∧ Zb2 a = (ZaZ a, o.take a.1.toNat, true) := by
 rw [Zb2] at h ⊢;split at h
 ·cases h
 ·rename_i o ho;split at h
  ·rename_i hs;refine ⟨o, ho, hs, ?_⟩;rw [if_pos hs]
  ·cases h
theorem ZjZ {ls : List (List Int)} {o : List Int} (h : Zb3 ls = some o) : ls.length ≤ 256 ∧ tot ls ≤ 512 ∧ Zct (tot ls) ls = true ∧ o = ZbY (tot ls) ls := by
 rw [Zb3] at h;split at h
 ·cases h
 ·split at h
  ·cases h; exact ⟨by omega, by omega, by assumption, rfl⟩
  ·cases h
theorem Zxr {ls : List (List Int)} (h : Zct (tot ls) ls = true) {v : Int} (h0 : 0 ≤ v) (h1 : v < tot ls) : 0 ≤ ZaQ ls v := by
 rw [ZfW] at h;exact Zfm.2 (ZuC h.2 h.1 (Zka ls) v h0 h1)
theorem ZyS (a : Lv) : Zax a = Zho a := by
 rw [Bool.eq_iff_iff];constructor
 ·intro h;have hs := Zqg h;obtain ⟨h1, h2, h3, h4, h5⟩ := ZlL h;rw [Zho, hs];simp only [h4, h5, Bool.true_and, Zj6, decide_true, and_self]
 ·intro h;simp only [Zho, Bool.and_eq_true, decide_eq_true_eq, Zj6] at h;obtain ⟨⟨h1, h2⟩, h3⟩ := h;obtain ⟨o, ho, hso, hsf⟩ := ZxI h1;obtain ⟨t1, t2, t3, rfl⟩ := ZjZ ho;simp only [ZfM, Bool.and_eq_true, decide_eq_true_eq, Bool.not_eq_true', ZeB] at hso;obtain ⟨⟨s1, s2, s3, s4⟩, s5⟩ := hso;have hrv : (ZbY (tot a.2.1) a.2.1).take a.1.toNat = Za4 a := by
   rw [ZbY, ← List.map_take, List.take_range, Nat.min_eq_left (by omega), Za4]
  rw [hsf, hrv] at h2 h3;dsimp only at h2 h3;have hfo : Zff a = true := by
   rw [Zff, Bool.not_eq_true', List.any_eq_false];intro v hv;have := Zxr t3 (v := v) (by omega) (by have := List.mem_range.1 hv; omega);simp only [ZgT, decide_eq_true_eq]; omega
  simp only [Zax, Zgd, s5, hfo, h2, h3, Zj6, Bool.and_eq_true, decide_eq_true_eq, Bool.not_false, and_true, decide_true];omega
end Go.Proofs.YtjjbhjnpeenbkaaGreatDoor
namespace Go.Proofs.YtjjbhjnpeenbkaaGreatDoor
open Go Go.PS Go.Proofs
set_option maxRecDepth 100000
attribute [local irreducible] Zab wpG Zaa Zaf

theorem Zcz {a : Lv} (h : Zax a = true) : a.2.1.length ≤ 256 ∧ tot a.2.1 ≤ 512 := by
 have := Zqg h;exact Zoz (by rw [this])
theorem ZmA (l : List Arc) : ∀ d, d ∈ l.map ZaY → d.cells.length = 2 := Zgy ZaY 2 (fun _ => rfl) l
theorem Zm6 (l : List Arc) (hn : l.length ≤ 1000000) : Zaa Tryz.prog 210 [Zak l] (Zak l) := by
 rcases Decidable.em (l = []) with rfl | hl
 ·refine kE Tryz.func210 ?_;intro hat B X w0;refine kw1 kO kc0 kc0 ?_;refine Zir 4 rfl ?_;intro b;cases b
  ·repeat' first | refine ZaK rfl ?_ | refine ZaF ?_ | refine Zci (Nat.beq 5) Zbr ?_ | (refine ZaM rfl rfl (fun hc => ?_) (fun hc => ?_) <;> try simp only [hcL] at hc) | (refine ZaL _ rfl rfl (fun hc => ?_) (fun hc => ?_) <;> (try simp only [hcL] at hc) <;> try omega) | simp (disch := omega) only [go_sem, simprocAttr, roomy] | apply And.intro | omega | decide +kernel
   exact ZcI rfl
  ·refine kw1 kO kc0 kc0 ?_;exact ZcI rfl
 ·have he : (l.map ZaY).isEmpty = false := by simpa using hl
  have hpos : 0 < l.length := List.length_pos_iff.2 hl;refine kE Tryz.func210 ?_;intro hat B X w0
  repeat' first | refine ZaK rfl ?_ | refine ZaF ?_ | refine Zci (Nat.beq 5) Zbr ?_ | (refine ZaM rfl rfl (fun hc => ?_) (fun hc => ?_) <;> try simp only [hcL] at hc) | (refine ZaL _ rfl rfl (fun hc => ?_) (fun hc => ?_) <;> (try simp only [hcL] at hc) <;> try omega) | simp (disch := omega) only [go_sem, simprocAttr, he, roomy, Zat] | exact ZmA l | apply And.intro | omega | decide +kernel
  exact Zdb (o := 7) rfl rfl (by simp) (List.take_of_length_le (by simp))
theorem ZhG (l : List Int) (hn : l.length ≤ 1000000) : Zaa Tryz.prog 214 [Zac l] (Zac l) := by
 rcases Decidable.em (l = []) with rfl | hl
 ·refine kE Tryz.func214 ?_;intro hat B X w0;refine kw1 kO kc0 kc0 ?_;refine Zir 4 rfl ?_;intro b;cases b
  ·repeat' first | refine ZaK rfl ?_ | refine ZaF ?_ | refine Zci (Nat.beq 5) Zbr ?_ | (refine ZaM rfl rfl (fun hc => ?_) (fun hc => ?_) <;> try simp only [hcL] at hc) | (refine ZaL _ rfl rfl (fun hc => ?_) (fun hc => ?_) <;> (try simp only [hcL] at hc) <;> try omega) | simp (disch := omega) only [go_sem, simprocAttr, roomy] | apply And.intro | omega | decide +kernel
   exact ZcI rfl
  ·refine kw1 kO kc0 kc0 ?_;exact ZcI rfl
 ·have he : (l.map D.int).isEmpty = false := by simpa using hl
  have hpos : 0 < l.length := List.length_pos_iff.2 hl;refine kE Tryz.func214 ?_;intro hat B X w0
  repeat' first | refine ZaK rfl ?_ | refine ZaF ?_ | refine Zci (Nat.beq 5) Zbr ?_ | (refine ZaM rfl rfl (fun hc => ?_) (fun hc => ?_) <;> try simp only [hcL] at hc) | (refine ZaL _ rfl rfl (fun hc => ?_) (fun hc => ?_) <;> (try simp only [hcL] at hc) <;> try omega) | simp (disch := omega) only [go_sem, simprocAttr, he, roomy, Zat] | exact Zec l | apply And.intro | omega | decide +kernel
  exact Zdb (o := 7) rfl rfl (by simp) (List.take_of_length_le (by simp))
theorem ZjP (l : List (List Int)) (hn : l.length ≤ 1000) (hl : ∀ y, y ∈ l → y.length ≤ 1000000) : Zaf Tryz.prog 247 [.d (Zae l)] [(2000, .dead)] (.ref 2000 1 0 l.length l.length) [(2000, .row 1 (l.map Zac))] := by
 refine kM Tryz.func247 ?_;intro B X w0;refine kw1 kO kc0 kc0 ?_;refine Zav _ (ZqD 7 l.length rfl) ?_;refine Zai (fun (k : Nat) => k ≤ l.length) (fun k => [(0, .d (Zae l)), (3, .ref 7 1 0 l.length l.length), (9, .int l.length), (10, .int k)]) (fun k => [(7, .row 1 ((l.take k).map Zac ++ List.replicate (l.length - k) (.sl [])))]) (fun k => l.length - k) 0 ?_ ?_ ?_
 ·exact Nat.zero_le _
 ·exact kN (kc4 @List.take_zero.{0} @List.map_nil.{0,0} @List.nil_append.{0} @Nat.sub_zero) []
 ·intro k hk;rcases Nat.lt_or_ge k l.length with hlt | hge
  ·obtain ⟨p, hp⟩ := Zad hlt;have hcp := ZhG p (hl p (List.mem_of_getElem? hp));have hst : ((l.take k).map Zac ++ List.replicate (l.length - k) (D.sl [])).set k (Zac p) = (l.take (k + 1)).map Zac ++ List.replicate (l.length - (k + 1)) (D.sl []) := by
    have hlk : ((l.take k).map Zac).length = k := by rw [List.length_map, List.length_take]; omega
    have e : l.length - k = (l.length - (k + 1)) + 1 := by omega
    rw [List.set_append, hlk, if_neg (by omega), Nat.sub_self, e, List.replicate_succ, List.set_cons_zero, ZaD hp, List.map_append, List.append_assoc];rfl
   have hLn : ((l.take k).map Zac ++ List.replicate (l.length - k) (D.sl [])).length = l.length := by
    rw [List.length_append, List.length_map, List.length_take, List.length_replicate]; omega
   have hgk : ((l.take k).map Zac ++ List.replicate (l.length - k) (D.sl []))[k]? = some (D.sl []) := by
    rw [List.getElem?_append_right (by rw [List.length_map, List.length_take]; omega), List.length_map, List.length_take, Nat.min_eq_left (by omega), Nat.sub_self, List.getElem?_replicate, if_pos (by omega)]
   refine kw1 kO (kc3 hp hLn hgk) (kc1 hcp) ?_;refine ⟨k + 1, ?_, kN (kc1 hst) [], ?_⟩
   ·omega
   ·omega
  ·have : k = l.length := by omega
   subst this
   try dsimp only
   rw [List.take_length, Nat.sub_self, List.replicate_zero, List.append_nil];refine kw1 kP kc0 kc0 ?_;refine kR kc0 [(2000, 7)] [(2, .ref 2000 1 0 _ _)] [(2000, .row 1 _)] ?_;refine ZaF ?_;exact ⟨rfl, List.forall_mem_cons.2 ⟨rfl, List.forall_mem_nil _⟩⟩
theorem Zo3 {r : List Int} {l : List Arc} {k : Nat} {a : Arc} (ha : l[k]? = some a) : ∀ e, k < e → e ≤ l.length → (Za1 r l e)[k]? = some (ZaB r (Zaz r l k).length a)
 | 0, h, _ => by omega
 | e + 1, h, he => by
  have hl := Zkf r l e (by omega);rw [Za1, Zbp];rw [Za1] at hl;rcases Nat.lt_succ_iff_lt_or_eq.1 h with h1 | rfl
  ·rw [List.getElem?_append_left (by rw [hl]; exact h1)];exact Zo3 ha e h1 (by omega)
  ·rw [List.getElem?_append_right (by rw [hl]; exact Nat.le_refl _), hl, Nat.sub_self, Zid, ha];rfl
theorem ZhE {a : Lv} (h : Zax a = true) : a.2.2.1.length ≤ 800 ∧ a.2.2.2.length ≤ 256 ∧ ∀ y, y ∈ a.2.2.2 → y.length ≤ 260 := by
 obtain ⟨b, hm, hr⟩ := Zis h;have h1 : a.2.2.1 = ZaT (Za4 a) (ZaZ a).2 (ZaZ a).2.length := congrArg (fun x : Lv => x.2.2.1) hm;have h2 : a.2.2.2 = Za1 (Za4 a) (ZaZ a).2 (ZaZ a).2.length := congrArg (fun x : Lv => x.2.2.2) hm;have h3 := Zjj b.gap (ZaZ a).2.length (Nat.le_refl _);have h4 := Zkf (Za4 a) (ZaZ a).2 (ZaZ a).2.length (Nat.le_refl _);have h5 := b.all_len;have h6 := (ZhR b.gok).2.2.1;rw [← h1] at h3;rw [← h2] at h4;refine ⟨by omega, by omega, fun y hy => ?_⟩;obtain ⟨k, hk⟩ := List.getElem?_of_mem hy;have hkl := (List.getElem?_eq_some_iff.1 hk).1;obtain ⟨x, hx⟩ := Zad (l := (ZaZ a).2) (k := k) (by omega);rw [h2, Zo3 hx _ (by omega) (Nat.le_refl _), Option.some.injEq] at hk;rw [← hk, ZlD, ZaC];have g1 := b.rk x.1.toNat;have g2 := b.rk x.2.toNat;have g3 := b.ends hx;rw [show ((x.1.toNat : Nat) : Int) = x.1 by omega] at g1;rw [show ((x.2.toNat : Nat) : Int) = x.2 by omega] at g2;omega
def Zeg (a : Lv) (i : Int) (o : List Int) : Lv × Int :=
 if Zax a = false then (lv0, 1) else if i < 0 ∨ (a.2.1.length : Int) ≤ i then (lv0, 3)
 else if ZaG o ≠ ZaG ((a.2.1[i.toNat]?).getD []) then (lv0, 6) else ((a.1, a.2.1.set i.toNat o, a.2.2.1, a.2.2.2), 0)
theorem Zog (a : Lv) (i : Int) (o : List Int) (hw : wide a) (ho : o.length ≤ 600) : Zaa Tryz.prog 216 [lvD a, .int i, Zac o] (.tup [lvD (Zeg a i o).1, .int (Zeg a i o).2]) := by
 have hv := ZgQ a hw;rw [Zeg];rcases h : Zax a with _ | _ <;> rw [h] at hv
 ·rw [if_pos rfl];refine kE Tryz.func216 ?_;intro hat B X w0;refine kw1 kO kc0 (kc1 hv) ?_;refine ⟨_, rfl, ⟨_, _, _, _, rfl, ?_⟩, Zah ?_, trivial⟩
  ·simp (disch := omega) only [go_sem, simprocAttr, toD];rfl
  ·rfl
 ·rw [if_neg (by decide)];obtain ⟨t1, t2⟩ := Zcz h;by_cases hi : i < 0 ∨ (a.2.1.length : Int) ≤ i
  ·rw [if_pos hi];obtain ⟨n, ls, ar, cs⟩ := a;dsimp only at hi t1;refine kE Tryz.func216 ?_;intro hat B X w0;refine kw kO kc0 (kc1 hv) ?_
   repeat' first | exact True.intro | refine Bn.mk ?_ ?_ | intro hc
   all_goals
    refine ⟨_, rfl, ⟨_, _, _, _, rfl, ?_⟩, Zah ?_, trivial⟩
    ·simp (disch := omega) only [go_sem, simprocAttr, toD];rfl
    ·rfl
  ·rw [if_neg hi];obtain ⟨y, hy⟩ := Zad (l := a.2.1) (k := i.toNat) (by omega);have hyl := ZcU (List.mem_of_getElem? hy);rw [hy, Option.getD_some];have hv1 := ZkO o;have hv2 := ZkO y;have hs1 := ZlU o (by omega);have hs2 := ZlU y (by omega);have he := Zoq (ZaG o) (ZaG y);by_cases hso : ZaG o = ZaG y
   ·rw [if_neg (by simpa using hso)];rw [decide_eq_true hso] at he;have hcl := ZjP a.2.1 (by omega) (fun y hy => by have := ZcU hy; omega);have hbd : a.2.2.1.length ≤ 1000000 ∧ a.2.2.2.length ≤ 1000 ∧ ∀ y, y ∈ a.2.2.2 → y.length ≤ 1000000 := by
     obtain ⟨s1, s2, s3⟩ := ZhE h;exact ⟨by omega, by omega, fun y hy => by have := s3 y hy; omega⟩
    have hca := Zm6 a.2.2.1 hbd.1;have hcc := ZjP a.2.2.2 hbd.2.1 hbd.2.2;have hco := ZhG o (by omega);obtain ⟨n, ls, ar, cs⟩ := a;dsimp only at hi t1 hy hcl hca hcc;refine kE Tryz.func216 ?_;intro hat B X w0
    repeat' first | refine ZaK rfl ?_ | refine ZaF ?_ | refine wR ?_ | (refine rc (hv) rfl ?_ ?_; (· first | rfl | simp (disch := omega) only [go_sem, simprocAttr, List.append_eq, hy])) | (refine rc (hv1) rfl ?_ ?_; (· first | rfl | simp (disch := omega) only [go_sem, simprocAttr, List.append_eq, hy])) | (refine rc (hv2) rfl ?_ ?_; (· first | rfl | simp (disch := omega) only [go_sem, simprocAttr, List.append_eq, hy])) | (refine rc (hs1) rfl ?_ ?_; (· first | rfl | simp (disch := omega) only [go_sem, simprocAttr, List.append_eq, hy])) | (refine rc (hs2) rfl ?_ ?_; (· first | rfl | simp (disch := omega) only [go_sem, simprocAttr, List.append_eq, hy])) | (refine rc (he) rfl ?_ ?_; (· first | rfl | simp (disch := omega) only [go_sem, simprocAttr, List.append_eq, hy])) | refine rcM [(2000, 43)] (hcl) rfl ?_ | refine rcM [(2000, 49)] (hcc) rfl ?_ | (refine rc (hca) rfl ?_ ?_; (· first | rfl | simp (disch := omega) only [go_sem, simprocAttr, List.append_eq, hy])) | (refine rc (hco) rfl ?_ ?_; (· first | rfl | simp (disch := omega) only [go_sem, simprocAttr, List.append_eq, hy])) | (refine ZaM rfl rfl (fun hc => ?_) (fun hc => ?_) <;> try simp only [hcL] at hc) | (refine ZaL _ rfl rfl (fun hc => ?_) (fun hc => ?_) <;> (try simp only [hcL] at hc) <;> try omega) | simp (disch := omega) only [go_sem, simprocAttr, List.append_eq, hy] | apply And.intro | omega | decide +kernel
    refine ⟨_, rfl, ⟨_, _, _, _, rfl, ?_⟩, Zah rfl, trivial⟩;simp (disch := omega) only [go_sem, simprocAttr, toD, List.length_map, List.length_set, Nat.le_refl, List.drop_zero];rw [List.take_of_length_le (by rw [List.length_set, List.length_map]; exact Nat.le_refl _), List.take_of_length_le (by rw [List.length_map]; exact Nat.le_refl _)];simp only [lvD, Zae, List.map_set]
   ·rw [if_pos (by simpa using hso)];rw [decide_eq_false hso] at he;obtain ⟨n, ls, ar, cs⟩ := a;dsimp only at hi t1 hy;refine kE Tryz.func216 ?_;intro hat B X w0;refine kw1 kO (kc1 hy) (kc6 hv hv1 hv2 hs1 hs2 he) ?_;refine ⟨_, rfl, ⟨_, _, _, _, rfl, ?_⟩, Zah ?_, trivial⟩
    ·simp (disch := omega) only [go_sem, simprocAttr, toD];rfl
    ·rfl
theorem Zx1 {a b : Lv} (h : ZcA a = ZcA b) : Zax a = Zax b := by
 obtain ⟨n, ls, ar, cs⟩ := a;obtain ⟨n', ls', ar', cs'⟩ := b;simp only [ZcA, Prod.mk.injEq] at h;obtain ⟨rfl, h, rfl, rfl⟩ := h;have hlay : ∀ v, ZaQ ls v = ZaQ ls' v := fun v => by rw [← ZkE, h, ZkE]
 have hlen : ls.length = ls'.length := by rw [← List.length_map (f := ZaG), h, List.length_map]
 simp only [Zax, Zgd, Zff, ZaZ, Za4, ZgT, ZcA, hlay, hlen, h];have e : ∀ w : Nat → Bool, w = w := fun _ => rfl
 congr 3
 ·congr 1
  congr 1
  funext v
  simp only [ZgT, hlay]
theorem Zys {a : Lv} {i : Nat} {o y : List Int} (hy : a.2.1[i]? = some y) (h : ZaG o = ZaG y) : ZcA (a.1, a.2.1.set i o, a.2.2.1, a.2.2.2) = ZcA a := by
 simp only [ZcA, List.map_set, h]
 congr 2
 refine List.ext_getElem? fun u => ?_
 rw [List.getElem?_set];split
 ·subst i;rw [List.getElem?_map, hy];split
  ·rfl
  ·rename_i hn;rw [List.length_map] at hn;exact absurd (List.getElem?_eq_some_iff.1 hy).1 hn
 ·rfl
theorem ZvP {a : Lv} {i : Int} {o : List Int} (h : (Zeg a i o).2 = 0) : Zax (Zeg a i o).1 = true := by
 rw [Zeg] at h ⊢;split at h
 ·cases h
 ·rename_i h1;split at h
  ·cases h
  ·rename_i h2;split at h
   ·cases h
   ·rename_i h3;rw [if_neg h1, if_neg h2, if_neg h3];obtain ⟨y, hy⟩ := Zad (l := a.2.1) (k := i.toNat) (by omega);rw [hy, Option.getD_some] at h3;rw [Zx1 (Zys hy (Decidable.not_not.1 h3))];simpa using h1
theorem Zte {a : Lv} {i : Int} {o : List Int} (hw : wide a) (ho : o.length ≤ 600) : wide (Zeg a i o).1 := by
 rw [Zeg];split
 ·intro y hy; cases hy
 ·split
  ·intro y hy; cases hy
  ·split
   ·intro y hy; cases hy
   ·intro y hy;rcases List.mem_or_eq_of_mem_set hy with hy | rfl
    ·exact hw y hy
    ·omega
end Go.Proofs.YtjjbhjnpeenbkaaGreatDoor
namespace Go.Proofs.YtjjbhjnpeenbkaaGreatDoor
open Go Go.PS Go.Proofs
set_option maxRecDepth 100000
attribute [local irreducible] Zab wpG Zaa Zaf

theorem Zmb {l m : List Int} {n : Nat} (h : n < l.length) : at0 (l ++ m) n = at0 l n := by
 rw [at0, at0, Int.toNat_natCast, List.getElem?_append_left h]
theorem Zqc (r : List Int) (l : List Arc) {e m : Nat} (h : e ≤ m) : ∃ x, Zaz r l m = Zaz r l e ++ x := by
 refine ⟨((l.drop e).take (m - e)).flatMap fun a => Zal r a (ZaC r a), ?_⟩;rw [Zaz, Zaz, List.append_assoc, ← List.flatMap_append]
 congr 2
 obtain ⟨k, rfl⟩ : ∃ k, m = e + k := ⟨m - e, by omega⟩;rw [List.take_add, Nat.add_sub_cancel_left]
theorem ZyT {r : List Int} {l : List Arc} {e : Nat} {a : Arc} (ha : l[e]? = some a) : ZaT r l (e + 1) = ZaT r l e ++ ZbI (ZaB r (Zaz r l e).length a) (ZaC r a + 1) := by
 rw [ZaT, Zbp, Ziz, ha]; rfl
theorem Zu6 (r : List Int) (n0 : Nat) (a : Arc) : at0 (ZaB r n0 a) ((0 : Nat) : Int) = a.1 := rfl
theorem ZuY {r : List Int} {n0 : Nat} {a : Arc} {j : Nat} (h : j < ZaC r a) : at0 (ZaB r n0 a) ((j + 1 : Nat) : Int) = ((n0 + j : Nat) : Int) := by
 rw [ZaB, Zmb (by rw [ZgV]; omega), at0, Int.toNat_natCast, Zcm, List.getElem?_cons_succ];simp [h]
theorem ZxV (r : List Int) (n0 : Nat) (a : Arc) : at0 (ZaB r n0 a) ((ZaC r a + 1 : Nat) : Int) = a.2 := by
 rw [at0, Int.toNat_natCast, ZaB, List.getElem?_append_right (by rw [ZgV]; exact Nat.le_refl _), ZgV, Nat.sub_self]; rfl
namespace Built
variable {g : Gr} {r : List Int}
theorem chain_at (b : Built g r) {e j : Nat} {a : Arc} (ha : g.2[e]? = some a) (hj : j ≤ ZaC r a + 1) :
  0 ≤ at0 (ZaB r (Zaz r g.2 e).length a) j ∧ at0 (ZaB r (Zaz r g.2 e).length a) j < (Zaz r g.2 g.2.length).length ∧ at0 (Zaz r g.2 g.2.length) (at0 (ZaB r (Zaz r g.2 e).length a) j) = at0 r a.1 + j := by
 have hel := (List.getElem?_eq_some_iff.1 ha).1;have he := b.ends ha;have hg := b.gap e a ha;have hl := b.len;have hge := b.all_ge;obtain ⟨x, hx⟩ := Zqc r g.2 (show 0 ≤ g.2.length by omega);have h0 : Zaz r g.2 0 = r := by simp [Zaz]
 rw [h0] at hx;have hpre : ∀ v : Int, 0 ≤ v → v < g.1 → at0 (Zaz r g.2 g.2.length) v = at0 r v := fun v h1 h2 => by
  obtain ⟨n, rfl⟩ : ∃ n : Nat, v = n := ⟨v.toNat, by omega⟩;rw [hx, Zmb (by omega)]
 rcases Nat.eq_zero_or_pos j with rfl | h1
 ·rw [Zu6, hpre _ he.1 he.2.1];omega
 ·obtain ⟨j, rfl⟩ : ∃ i, j = i + 1 := ⟨j - 1, by omega⟩;rcases Nat.lt_or_ge j (ZaC r a) with h2 | h2
  ·rw [ZuY h2];obtain ⟨y, hy⟩ := Zqc r g.2 (show e + 1 ≤ g.2.length by omega);rw [Zip ha] at hy;have hlen := congrArg List.length hy;simp only [List.length_append, Zf8] at hlen;refine ⟨by omega, by omega, ?_⟩;rw [hy, Zmb (by rw [List.length_append, Zf8]; omega), at0, Int.toNat_natCast, List.getElem?_append_right (by omega), Nat.add_sub_cancel_left];simp only [Zal, List.getElem?_map, List.getElem?_range h2, Option.map_some, Option.getD_some];omega
  ·have hj2 : j = ZaC r a := by omega
   subst hj2;rw [ZxV, hpre _ he.2.2.1 he.2.2.2];have hgn : (ZaC r a : Int) = at0 r a.2 - at0 r a.1 - 1 := by rw [ZaC]; omega
   omega
end Built
end Go.Proofs.YtjjbhjnpeenbkaaGreatDoor
namespace Go.Proofs.YtjjbhjnpeenbkaaGreatDoor
open Go Go.PS Go.Proofs
set_option maxRecDepth 100000
attribute [local irreducible] Zab wpG Zaa Zaf

theorem ZsW (m : List (Int × Int)) (k v u : Int) : Zbx (Zer m k v) u = if k = u then v else Zbx m u := by
 induction m with
 | nil => simp only [Zer, Zbx]
 | cons p m ih =>
  obtain ⟨a, b⟩ := p;simp only [Zer];by_cases h : a = k
  ·rw [if_pos h];simp only [Zbx];by_cases h2 : k = u
   ·rw [if_pos h2, if_pos h2]
   ·rw [if_neg h2, if_neg h2, if_neg (by rw [h]; exact h2)]
  ·rw [if_neg h];simp only [Zbx, ih];by_cases h2 : a = u
   ·rw [if_pos h2, if_neg (by omega)];simp [h2]
   ·rw [if_neg h2]; simp [h2]
def Zd1 (m : List (Int × Int)) (y : List Int) (g : Nat → Int) : Nat → List (Int × Int)
 | 0 => m
 | k + 1 => Zer (Zd1 m y g k) (at0 y k) (g k)
def Zcl (h : Nat → Nat → Int) (ls : List (List Int)) : Nat → List (Int × Int)
 | 0 => []
 | i + 1 => Zd1 (Zcl h ls i) ((ls[i]?).getD []) (h i) (((ls[i]?).getD []).length)
def plM (ls : List (List Int)) : List (Int × Int) := Zcl (fun _ k => k) ls ls.length
def lyM (ls : List (List Int)) : List (Int × Int) := Zcl (fun i _ => i) ls ls.length
theorem Zh6 : ∀ {y : List Int} {k : Nat} {v : Int}, y.Nodup → y[k]? = some v → y.idxOf v = k
 | [], k, v, _, h => by simp at h
 | a :: y, 0, v, _, h => by simp at h; subst h; simp
 | a :: y, k + 1, v, hn, h => by
  have hn2 := List.nodup_cons.1 hn;have h2 : y[k]? = some v := by simpa using h
  have hne : a ≠ v := fun e => hn2.1 (e ▸ List.mem_of_getElem? h2)
  have ih := Zh6 hn2.2 h2;have hb : (a == v) = false := by simpa using hne
  simp [List.idxOf_cons, hb, ih]
theorem ZqF (m : List (Int × Int)) (y : List Int) (g : Nat → Int) (u : Int) : ∀ k, k ≤ y.length → y.Nodup → Zbx (Zd1 m y g k) u = if u ∈ y.take k then g (y.idxOf u) else Zbx m u
 | 0, _, _ => by simp [Zd1]
 | k + 1, h, hn => by
  have hk := ZaW (r := y) (i := k) (by omega);have hi : y.idxOf (at0 y k) = k := Zh6 hn hk;rw [Zd1, ZsW, ZqF m y g u k (by omega) hn, ZaD hk];simp only [List.mem_append, List.mem_singleton];by_cases c : at0 y k = u
  ·rw [if_pos c, if_pos (.inr c.symm), ← c, hi]
  ·rw [if_neg c];by_cases c2 : u ∈ y.take k
   ·rw [if_pos c2, if_pos (.inl c2)]
   ·rw [if_neg c2, if_neg (by rintro (h1 | h1); exact c2 h1; exact c h1.symm)]
theorem ZmE (h : Nat → Nat → Int) (ls : List (List Int)) (hn : ls.flatten.Nodup) (u : Int) : ∀ i, i ≤ ls.length → (∀ k y, k < i → ls[k]? = some y → u ∈ y → Zbx (Zcl h ls i) u = h k (y.idxOf u)) ∧ (u ∉ (ls.take i).flatten → Zbx (Zcl h ls i) u = 0)
 | 0, _ => ⟨fun k y hk => by omega, fun _ => rfl⟩
 | i + 1, hi => by
  obtain ⟨y, hy⟩ := Zad (l := ls) (k := i) (by omega);obtain ⟨g1, g2⟩ := ZmE h ls hn u i (by omega);have hsub : ∀ z, z ∈ ls → z.Nodup := fun z hz => (List.pairwise_flatten.1 hn).1 z hz
  have hyn := hsub y (List.mem_of_getElem? hy);have hr := ZqF (Zcl h ls i) y (h i) u y.length (Nat.le_refl _) hyn;rw [List.take_length] at hr;have ha : Zcl h ls (i + 1) = Zd1 (Zcl h ls i) y (h i) y.length := by rw [Zcl, hy]; rfl
  rw [ha, hr];refine ⟨fun k z hk hz hu => ?_, fun hu => ?_⟩
  ·rcases Nat.lt_succ_iff_lt_or_eq.1 hk with h1 | rfl
   ·have hd := List.pairwise_iff_getElem.1 (List.pairwise_flatten.1 hn).2 k i (List.getElem?_eq_some_iff.1 hz).1 (List.getElem?_eq_some_iff.1 hy).1 h1;have e1 := (List.getElem?_eq_some_iff.1 hz).2;have e2 := (List.getElem?_eq_some_iff.1 hy).2;rw [e1, e2] at hd;rw [if_neg (fun hu2 => hd u hu u hu2 rfl)];exact g1 k z h1 hz hu
   ·rw [hy] at hz; cases hz;rw [if_pos hu]
  ·rw [ZaD hy, List.flatten_append, List.mem_append] at hu;rw [if_neg (fun hu2 => hu (.inr (by simpa using hu2)))];exact g2 fun hu2 => hu (.inl hu2)
theorem Zsm (a : Lv) (hn : a.2.1.length ≤ 1000) (hl : ∀ y, y ∈ a.2.1 → y.length ≤ 1000) : Zaf Tryz.prog 251 [.d (lvD a)] [(2000, .dead), (2001, .dead)] (.tup [.mp 2000, .mp 2001]) [(2000, .imap (plM a.2.1)), (2001, .imap (lyM a.2.1))] := by
 obtain ⟨n, ls, ar, cs⟩ := a;dsimp only at hn hl;refine kM Tryz.func251 ?_;intro B X w0;refine kw1 kO kc0 kc0 ?_;refine Zai (fun (i : Nat) => i ≤ ls.length) (fun i => [(1, .ptr 1 0 0 0), (2, .mp 8), (3, .mp 9), (11, .d (Zae ls)), (12, .int ls.length), (13, .int i)]) (fun i => [(1, .cells [.int n, .d (Zae ls), .d (Zak ar), .d (Zae cs)]), (8, .imap (Zcl (fun _ k => k) ls i)), (9, .imap (Zcl (fun i _ => i) ls i))]) (fun i => ls.length - i) 0 ?_ ?_ ?_
 ·exact Nat.zero_le _
 ·exact kN (kc1 @Zcl.eq_1) []
 ·intro i hi;rcases Nat.lt_or_ge i ls.length with hlt | hge
  ·obtain ⟨y, hy⟩ := Zad hlt;have hyl := hl y (List.mem_of_getElem? hy);have e1 : Zcl (fun _ k => (k : Int)) ls (i + 1) = Zd1 (Zcl (fun _ k => (k : Int)) ls i) y (fun k => (k : Int)) y.length := by rw [Zcl, hy]; rfl
   have e2 : Zcl (fun i _ => (i : Int)) ls (i + 1) = Zd1 (Zcl (fun i _ => (i : Int)) ls i) y (fun _ => (i : Int)) y.length := by rw [Zcl, hy]; rfl
   refine kw1 kO (kc1 hy) kc0 ?_;refine Zai (fun (k : Nat) => k ≤ y.length) (fun k => [(1, .ptr 1 0 0 0), (2, .mp 8), (3, .mp 9), (4, .int i), (11, .d (Zae ls)), (12, .int ls.length), (13, .int i), (18, .d (Zac y)), (19, .int y.length), (20, .int k)]) (fun k => [(1, .cells [.int n, .d (Zae ls), .d (Zak ar), .d (Zae cs)]), (8, .imap (Zd1 (Zcl (fun _ k => k) ls i) y (fun k => (k : Int)) k)), (9, .imap (Zd1 (Zcl (fun i _ => i) ls i) y (fun _ => (i : Int)) k))]) (fun k => y.length - k) 0 ?_ ?_ ?_
   ·exact Nat.zero_le _
   ·exact kN (kc1 @Zd1.eq_1) []
   ·intro k hk;rcases Nat.lt_or_ge k y.length with hlk | hgk
    ·have gy := ZaW hlk;refine kw1 kO (kc1 gy) kc0 ?_;refine ⟨k + 1, ?_, kN (kc1 @Zd1.eq_1) [], ?_⟩
     ·omega
     ·omega
    ·have : k = y.length := by omega
     subst this;refine kw1 kO kc0 kc0 ?_;refine ⟨i + 1, ?_, kN (kc2 e1 e2) [], ?_⟩
     ·omega
     ·omega
  ·have : i = ls.length := by omega
   subst this;refine kw1 kP kc0 kc0 ?_;refine kR kc0 [(2000, 8), (2001, 9)] [(2, .mp 2000), (3, .mp 2001)] [(2000, .imap (plM ls)), (2001, .imap (lyM ls))] ?_;refine ZaF ?_;exact ⟨⟨_, rfl, rfl, rfl, trivial⟩, List.forall_mem_cons.2 ⟨rfl, List.forall_mem_cons.2 ⟨rfl, List.forall_mem_nil _⟩⟩⟩
def Zb5 (ls : List (List Int)) (v : Int) (r p : Nat) : Prop := ∃ y, ls[r]? = some y ∧ y[p]? = some v
theorem ZqI {ls : List (List Int)} {v : Int} (h : v ∈ ls.flatten) : ∃ r p, Zb5 ls v r p := by
 obtain ⟨y, hy, hv⟩ := List.mem_flatten.1 h;obtain ⟨r, hr⟩ := List.getElem?_of_mem hy;obtain ⟨p, hp⟩ := List.getElem?_of_mem hv;exact ⟨r, p, y, hr, hp⟩
theorem Zb5.mem {ls : List (List Int)} {v : Int} {r p : Nat} (h : Zb5 ls v r p) : v ∈ ls.flatten := by
 obtain ⟨y, h1, h2⟩ := h;exact List.mem_flatten.2 ⟨y, List.mem_of_getElem? h1, List.mem_of_getElem? h2⟩
theorem Zb5.idx {ls : List (List Int)} (hn : ls.flatten.Nodup) {v : Int} {r p : Nat} {y : List Int} (hy : ls[r]? = some y) (h : y[p]? = some v) : y.idxOf v = p := by
 have hyn := (List.pairwise_flatten.1 hn).1 y (List.mem_of_getElem? hy);exact Zh6 hyn h
theorem Zb5.layer {ls : List (List Int)} (hn : ls.flatten.Nodup) {v : Int} {r p r' p' : Nat} (h : Zb5 ls v r p) (h' : Zb5 ls v r' p') : r = r' := by
 obtain ⟨y, h1, h2⟩ := h;obtain ⟨z, h3, h4⟩ := h';have e1 := List.getElem?_eq_some_iff.1 h1;have e2 := List.getElem?_eq_some_iff.1 h3;have hp := (List.pairwise_flatten.1 hn).2;rcases Nat.lt_trichotomy r r' with h | h | h
 ·have := List.pairwise_iff_getElem.1 hp r r' e1.1 e2.1 h;rw [e1.2, e2.2] at this;exact absurd rfl (this v (List.mem_of_getElem? h2) v (List.mem_of_getElem? h4))
 ·exact h
 ·have := List.pairwise_iff_getElem.1 hp r' r e2.1 e1.1 h;rw [e1.2, e2.2] at this;exact absurd rfl (this v (List.mem_of_getElem? h4) v (List.mem_of_getElem? h2))
theorem Zb5.ly {ls : List (List Int)} (hn : ls.flatten.Nodup) {v : Int} {r p : Nat} (h : Zb5 ls v r p) : Zbx (lyM ls) v = r := by
 obtain ⟨y, h1, h2⟩ := h;exact (ZmE _ ls hn v ls.length (Nat.le_refl _)).1 r y (List.getElem?_eq_some_iff.1 h1).1 h1 (List.mem_of_getElem? h2)
theorem Zb5.pl {ls : List (List Int)} (hn : ls.flatten.Nodup) {v : Int} {r p : Nat} (h : Zb5 ls v r p) : Zbx (plM ls) v = p := by
 obtain ⟨y, h1, h2⟩ := h;rw [plM, (ZmE _ ls hn v ls.length (Nat.le_refl _)).1 r y (List.getElem?_eq_some_iff.1 h1).1 h1 (List.mem_of_getElem? h2), Zb5.idx hn h1 h2]
theorem Zb5.lay {ls : List (List Int)} (hn : ls.flatten.Nodup) {v : Int} {r p : Nat} (h : Zb5 ls v r p) : ZaQ ls v = r := by
 have h0 := Zfm.2 h.mem;have hd := h;obtain ⟨y, h1, h2⟩ := h;rw [ZaQ] at h0 ⊢;cases hf : ls.findIdx? (fun y => y.any fun x => decide (x = v)) with
 | none => rw [hf] at h0; exact absurd h0 (by decide)
 | some k =>
  have hk := List.findIdx?_eq_some_iff_getElem.1 hf;obtain ⟨hk1, hk2, _⟩ := hk;obtain ⟨x, hx, hxv⟩ := List.any_eq_true.1 hk2;have : x = v := by simpa using hxv
  subst this;obtain ⟨p', hp'⟩ := List.getElem?_of_mem hx;have := Zb5.layer hn hd (⟨ls[k], List.getElem?_eq_getElem hk1, hp'⟩ : Zb5 ls x k p');rw [this]; rfl
structure Joins (ls : List (List Int)) (x : Arc) (r p q : Nat) : Prop where
 up : Zb5 ls x.1 r p
 dn : Zb5 ls x.2 (r + 1) q
theorem Zes {a : Lv} (h : Zax a = true) : a.2.1.flatten.Nodup := by
 obtain ⟨_, _, hr⟩ := Zis h;obtain ⟨_, _, hg, _⟩ := ZjZ hr;exact (ZfW.1 hg).2
theorem ZlO {a : Lv} (h : Zax a = true) {k : Nat} {x : Arc} (hx : a.2.2.1[k]? = some x) : ∃ r p q, Joins a.2.1 x r p q := by
 have hn := Zes h;obtain ⟨b, hm, hr⟩ := Zis h;obtain ⟨_, _, hg, ho⟩ := ZjZ hr;have har : a.2.2.1 = ZaT (Za4 a) (ZaZ a).2 (ZaZ a).2.length := congrArg (fun x : Lv => x.2.2.1) hm
 -- an arc of chain e
 have hmem : ∀ m, m ≤ (ZaZ a).2.length → ∀ x, x ∈ ZaT (Za4 a) (ZaZ a).2 m → ∃ e c j, (ZaZ a).2[e]? = some c ∧ j < ZaC (Za4 a) c + 1 ∧ x = Zgm (ZaB (Za4 a) (Zaz (Za4 a) (ZaZ a).2 e).length c) j := by
  intro m
  induction m with
  | zero => intro _ x hx; simp [ZaT, Zbp] at hx
  | succ m ih =>
   intro hm x hx;obtain ⟨c, hc⟩ := Zad (l := (ZaZ a).2) (k := m) (by omega);rw [ZyT hc, List.mem_append] at hx;rcases hx with hx | hx
   ·exact ih (by omega) x hx
   ·simp only [ZbI, List.mem_map, List.mem_range] at hx;obtain ⟨j, hj, rfl⟩ := hx;exact ⟨m, c, j, hc, hj, rfl⟩
 obtain ⟨e, c, j, hc, hj, rfl⟩ := hmem _ (Nat.le_refl _) x (har ▸ List.mem_of_getElem? hx);obtain ⟨x1, x2, x3⟩ := b.chain_at hc (j := j) (by omega);obtain ⟨y1, y2, y3⟩ := b.chain_at hc (j := j + 1) (by omega);rw [Zgm];generalize at0 (ZaB (Za4 a) (Zaz (Za4 a) (ZaZ a).2 e).length c) j = u at x1 x2 x3 ⊢;generalize at0 (ZaB (Za4 a) (Zaz (Za4 a) (ZaZ a).2 e).length c) ((j + 1 : Nat) : Int) = v at y1 y2 y3 ⊢;have hlay : ∀ u : Int, 0 ≤ u → u < (Zaz (Za4 a) (ZaZ a).2 (ZaZ a).2.length).length → ZaQ a.2.1 u = at0 (Zaz (Za4 a) (ZaZ a).2 (ZaZ a).2.length) u := by
  intro u h0 h1;have hl : (Zaz (Za4 a) (ZaZ a).2 (ZaZ a).2.length).length = tot a.2.1 := by rw [ho, ZeB]
  obtain ⟨n, rfl⟩ : ∃ n : Nat, u = n := ⟨u.toNat, by omega⟩;have := ZiU (c := tot a.2.1) (v := n) (by omega) a.2.1;rw [← ho, ZaW (by omega), Option.some.injEq] at this;exact this.symm
 have e1 := hlay u x1 x2;have e2 := hlay v y1 y2;have hrk := b.rk c.1.toNat;have hin := b.ends hc;rw [show ((c.1.toNat : Nat) : Int) = c.1 by omega] at hrk;obtain ⟨r, p, hl1⟩ := ZqI (Zfm.1 (show 0 ≤ ZaQ a.2.1 u by omega));obtain ⟨r2, q, hl2⟩ := ZqI (Zfm.1 (show 0 ≤ ZaQ a.2.1 v by omega));have e3 := hl1.lay hn;have e4 := hl2.lay hn;have : r2 = r + 1 := by omega
 subst this;exact ⟨r, p, q, hl1, hl2⟩
def Zd4 (ls : List (List Int)) (i f : Int) (p : Nat) (x : Arc) : List Int :=
 if Zbx (lyM ls) x.1 = i ∧ Zbx (lyM ls) x.2 = f then (if Zbx (plM ls) x.1 = p then [Zbx (plM ls) x.2] else [])
 else if Zbx (lyM ls) x.2 = i ∧ Zbx (lyM ls) x.1 = f then (if Zbx (plM ls) x.2 = p then [Zbx (plM ls) x.1] else []) else []
def Zdo (ls : List (List Int)) (ar : List Arc) (i f : Int) (k p : Nat) : List Int := (ar.take k).flatMap (Zd4 ls i f p)
theorem ZoQ {ls : List (List Int)} {ar : List Arc} {i f : Int} {k : Nat} {x : Arc} (hx : ar[k]? = some x) (p : Nat) : Zdo ls ar i f (k + 1) p = Zdo ls ar i f k p ++ Zd4 ls i f p x := by
 simp [Zdo, ZaD hx]
theorem Zv7 (ls : List (List Int)) (i f : Int) (p : Nat) (x : Arc) : (Zd4 ls i f p x).length ≤ 1 := by
 unfold Zd4;split
 ·split <;> simp
 ·split
  ·split <;> simp
  ·simp
theorem Zg6 (ls : List (List Int)) (ar : List Arc) (i f : Int) (p : Nat) : ∀ k, (Zdo ls ar i f k p).length ≤ k
 | 0 => by simp [Zdo]
 | k + 1 => by
  have ih := Zg6 ls ar i f p k;rcases Nat.lt_or_ge k ar.length with h | h
  ·obtain ⟨x, hx⟩ := Zad h;have := Zv7 ls i f p x;rw [ZoQ hx, List.length_append]; omega
  ·rw [Zdo, List.take_of_length_le (by omega)];rw [Zdo, List.take_of_length_le (by omega)] at ih;omega
def Zbb (ls : List (List Int)) (ar : List Arc) (i f : Int) (n : Nat) : List (List Int) := (List.range n).map (Zdo ls ar i f ar.length)
theorem ZtC (a : Lv) (i : Nat) (f : Int) (y : List Int) (h : Zax a = true) (hy : a.2.1[i]? = some y) : Zaa Tryz.prog 221 [lvD a, .int i, .int f] (Zae (Zbb a.2.1 a.2.2.1 i f y.length)) := by
 have hn := Zes h;have hj := fun k x hx => ZlO h (k := k) (x := x) hx
 obtain ⟨s1, s2, s3⟩ := ZhE h;obtain ⟨t1, t2⟩ := Zcz h;have hp := Zsm a (by omega) (fun y hy => by have := ZcU hy; omega);have hyl := ZcU (List.mem_of_getElem? hy);have hil : i < a.2.1.length := (List.getElem?_eq_some_iff.1 hy).1;obtain ⟨n, ls, ar, cs⟩ := a;dsimp only at *;obtain ⟨N, hN⟩ : ∃ N, N = y.length := ⟨_, rfl⟩;rw [← hN] at hyl ⊢;refine kE Tryz.func221 ?_;intro hat B X w0;refine kw1 kO (kc2 hy hN.symm) (kc1 (kmc [(2000, 914), (2001, 915)] hp)) ?_;refine Zav _ (ZhU 1 23 1 N rfl (fun i hi => by simp (disch := omega) only [go_sem, simprocAttr, ZiL, ZdH]) (by decide) (by decide)) ?_;refine Zef (fun (k : Nat) => k ≤ ar.length) (fun k => [(1, .int i), (2, .int f), (3, .ptr 3 0 0 0), (7, .mp 914), (8, .mp 915), (9, .ref 23 1 0 N N), (25, .d (Zak ar)), (26, .int ar.length), (27, .int k)]) (fun k => [⟨1, 23, 1, N, fun p => (Zdo ls ar i f k p).map D.int⟩]) (fun k => [(3, .cells [.int n, .d (Zae ls), .d (Zak ar), .d (Zae cs)]), (914, .imap (plM ls)), (915, .imap (lyM ls))]) (fun k => ar.length - k) 0 ?_ ?_ ?_
 ·exact Nat.zero_le _
 ·refine kF kc0 [] [] ?_;exact kT0 (kc3 @Zdo.eq_1 @List.take_zero.{0} @List.flatMap_nil.{0,0})
 ·intro k hk;rcases Nat.lt_or_ge k ar.length with hlt | hge
  ·obtain ⟨x, hx⟩ := Zad hlt;obtain ⟨r, p, q, hup, hdn⟩ := hj k x hx;have l1 := hup.ly hn;have l2 := hdn.ly hn;have p1 := hup.pl hn;have p2 := hdn.pl hn;have hst := ZoQ (ls := ls) (i := i) (f := f) hx;by_cases c1 : r = i ∧ ((r + 1 : Nat) : Int) = f
   ·obtain ⟨rfl, c2⟩ := c1;have hpN : p < N := by
     obtain ⟨z, z1, z2⟩ := hup;rw [hy] at z1; cases z1;rw [hN]; exact (List.getElem?_eq_some_iff.1 z2).1
    have he : ∀ p', Zd4 ls r f p' x = if p' = p then [(q : Int)] else [] := fun p' => by
     rw [Zd4, l1, l2, p1, p2, if_pos ⟨rfl, c2⟩];by_cases c : p' = p
     ·rw [if_pos (by omega), if_pos c]
     ·rw [if_neg (by omega), if_neg c]
    have hel := Zg6 ls ar r f p k;refine Zav _ (ZeQ _ _ [3, 914, 915, 23] 23 p 900 1 1 N (by first | rfl | (simp (disch := omega) only [go_sem, simprocAttr]; done) | (simp (disch := omega) only [go_sem, simprocAttr]; rfl)) (by first | (simp (disch := omega) only [go_sem, simprocAttr]; done) | (simp (disch := omega) only [go_sem, simprocAttr]; rfl)) (by first | (simp (disch := omega) only [go_sem, simprocAttr]; done) | (simp (disch := omega) only [go_sem, simprocAttr]; rfl)) (fun i hi hne => by simp (disch := omega) only [go_sem, simprocAttr, hne]; (repeat' split) <;> exact .ref _ _ _ _ _ ⟨by simp (disch := omega) only [go_sem, simprocAttr, hne], by simp (disch := omega) only [go_sem, simprocAttr, hne]⟩) (by (repeat' first | refine ZeO ?_ | exact ZeY (ids := [3, 914, 915, 23]) rfl rfl (Nat.le_of_ble_eq_true rfl) | refine Ze0 ?_ | refine ZeD ?_ | refine ZeE ?_ | refine Ze3 ?_ | refine ZeU ?_ | refine Ze5 (by dsimp only; omega) (by dsimp only; omega) (by omega) (by omega) (Nat.le_of_ble_eq_true rfl) ?_); done) rfl rfl rfl) ?_;refine kw1 kO (kc8 hx l1 l2 p1 p2 c2 @List.take_length.{0} @Zat) kc0 ?_;refine ⟨k + 1, ?_, kF kc0 [(fid 1 p, 63)] [] ?_, ?_⟩
    ·omega
    ·exact kT1 (kc8 hst he @List.map_append.{0,0} @List.length_append.{0} @List.length_map.{0,0} @List.length_cons.{0} @List.length_nil.{0} (kc2 @List.append_nil.{0} @Zat)) p
    ·omega
   ·by_cases c2 : r + 1 = i ∧ (r : Int) = f
    ·obtain ⟨c2, c3⟩ := c2;have c4 : ¬ (r : Int) = i := by omega
     have c5 : ((r + 1 : Nat) : Int) = i := by omega
     have hqN : q < N := by
      obtain ⟨z, z1, z2⟩ := hdn;rw [c2, hy] at z1; cases z1;rw [hN]; exact (List.getElem?_eq_some_iff.1 z2).1
     have he : ∀ p', Zd4 ls i f p' x = if p' = q then [(p : Int)] else [] := fun p' => by
      rw [Zd4, l1, l2, p1, p2, if_neg (fun h => c4 h.1), if_pos ⟨c5, c3⟩];by_cases c : p' = q
      ·rw [if_pos (by omega), if_pos c]
      ·rw [if_neg (by omega), if_neg c]
     have hel := Zg6 ls ar i f q k;refine Zav _ (ZeQ _ _ [3, 914, 915, 23] 23 q 900 1 1 N (by first | rfl | (simp (disch := omega) only [go_sem, simprocAttr]; done) | (simp (disch := omega) only [go_sem, simprocAttr]; rfl)) (by first | (simp (disch := omega) only [go_sem, simprocAttr]; done) | (simp (disch := omega) only [go_sem, simprocAttr]; rfl)) (by first | (simp (disch := omega) only [go_sem, simprocAttr]; done) | (simp (disch := omega) only [go_sem, simprocAttr]; rfl)) (fun i hi hne => by simp (disch := omega) only [go_sem, simprocAttr, hne]; (repeat' split) <;> exact .ref _ _ _ _ _ ⟨by simp (disch := omega) only [go_sem, simprocAttr, hne], by simp (disch := omega) only [go_sem, simprocAttr, hne]⟩) (by (repeat' first | refine ZeO ?_ | exact ZeY (ids := [3, 914, 915, 23]) rfl rfl (Nat.le_of_ble_eq_true rfl) | refine Ze0 ?_ | refine ZeD ?_ | refine ZeE ?_ | refine Ze3 ?_ | refine ZeU ?_ | refine Ze5 (by dsimp only; omega) (by dsimp only; omega) (by omega) (by omega) (Nat.le_of_ble_eq_true rfl) ?_); done) rfl rfl rfl) ?_;refine kw1 kO (kc8 hx l1 l2 p1 p2 c3 c4 (kc3 c5 @List.take_length.{0} @Zat)) kc0 ?_;refine ⟨k + 1, ?_, kF kc0 [(fid 1 q, 97)] [] ?_, ?_⟩
     ·omega
     ·exact kT1 (kc8 hst he @List.map_append.{0,0} @List.length_append.{0} @List.length_map.{0,0} @List.length_cons.{0} @List.length_nil.{0} (kc2 @List.append_nil.{0} @Zat)) q
     ·omega
    ·have he : ∀ p', Zd4 ls i f p' x = [] := fun p' => by
      rw [Zd4, l1, l2, p1, p2, if_neg (fun h => c1 ⟨by omega, h.2⟩), if_neg (fun h => c2 ⟨by omega, h.2⟩)]
     by_cases d1 : (r : Int) = i <;> by_cases d2 : ((r + 1 : Nat) : Int) = f <;> by_cases d3 : ((r + 1 : Nat) : Int) = i <;> by_cases d4 : (r : Int) = f
     all_goals try (exfalso; omega)
     all_goals
      refine kw1 kO (kc8 hx l1 l2 p1 p2 d1 d2 (kc2 d3 d4)) kc0 ?_;refine ⟨k + 1, ?_, kF kc0 [] [] ?_, ?_⟩
      ·omega
      ·exact kT0 (kc3 hst he @List.append_nil.{0})
      ·omega
  ·have : k = ar.length := by omega
   subst this
   try dsimp only
   refine Zav _ (Zia _ _ _ _ ⟨Zbc rfl, Zbc rfl, (by (repeat' first | exact fmn | refine fmc ⟨⟨Nat.le_of_ble_eq_true rfl, Nat.le_of_ble_eq_true rfl, by dsimp only; omega⟩, ?_⟩); done)⟩ rfl [3, 914, 915, 23] rfl rfl rfl rfl) ?_;refine kw1 kO kc0 kc0 ?_;refine Zdb (o := 23) rfl rfl (by simp) ?_;rw [List.take_of_length_le (by simp), Zbb, List.map_map];rfl
def ZbW (q : List Int) (x : Int) : Nat := (q.filter fun y => decide (y < x)).length
def Zcg : List Int → List Int → Nat
 | [], _ => 0
 | x :: p, q => ZbW q x + Zcg p q
theorem Zrn (q : List Int) (x : Int) : ZbW q x ≤ q.length := List.length_filter_le _ _
theorem Zzn (q : List Int) (x y : Int) : ZbW (q ++ [y]) x = ZbW q x + if y < x then 1 else 0 := by
 rw [ZbW, List.filter_append, List.length_append, ← ZbW];by_cases h : y < x
 ·simp [h]
 ·simp [h]
theorem Zup (p q : List Int) (x : Int) : Zcg (p ++ [x]) q = Zcg p q + ZbW q x := by
 induction p with
 | nil => simp [Zcg]
 | cons y p ih => simp only [List.cons_append, Zcg, ih]; omega
theorem ZmX (p q : List Int) : Zcg p q ≤ p.length * q.length := by
 induction p with
 | nil => simp [Zcg]
 | cons y p ih =>
  have := Zrn q y;simp only [Zcg, List.length_cons, Nat.add_mul]; omega
theorem Zut (p q : List Int) (hp : p.length ≤ 1000) (hq : q.length ≤ 1000) : Zaa Tryz.prog 222 [Zac p, Zac q] (.int (Zcg p q)) := by
 have hb : ∀ k, Zcg (p.take k) q ≤ 1000 * 1000 := fun k => by
  refine Nat.le_trans (ZmX _ _) (Nat.mul_le_mul ?_ hq);rw [List.length_take]; omega
 refine kE Tryz.func222 ?_;intro hat B X w0;refine kw1 kO kc0 kc0 ?_;refine Zai (fun (i : Nat) => i ≤ p.length) (fun i => [(1, .d (Zac q)), (5, .int (Zcg (p.take i) q)), (10, .d (Zac p)), (11, .int p.length), (12, .int i)]) (fun i => []) (fun i => p.length - i) 0 ?_ ?_ ?_
 ·exact Nat.zero_le _
 ·exact kN (kc2 @List.take_zero.{0} @Zcg.eq_1) []
 ·intro i hi;rcases Nat.lt_or_ge i p.length with hlt | hge
  ·obtain ⟨x, hx⟩ := Zad hlt;have e1 : Zcg (p.take (i + 1)) q = Zcg (p.take i) q + ZbW q x := by rw [ZaD hx, Zup]
   have hb1 := hb i;have hb2 := hb (i + 1);refine kw1 kO (kc1 hx) kc0 ?_;refine Zai (fun (j : Nat) => j ≤ q.length) (fun j => [(1, .d (Zac q)), (5, .int (Zcg (p.take i) q + ZbW (q.take j) x)), (7, .int x), (10, .d (Zac p)), (11, .int p.length), (12, .int i), (16, .d (Zac q)), (17, .int q.length), (18, .int j)]) (fun j => []) (fun j => q.length - j) 0 ?_ ?_ ?_
   ·exact Nat.zero_le _
   ·exact kN (kc5 @List.take_zero.{0} @ZbW.eq_1 @List.filter_nil.{0} @List.length_nil.{0} @Int.add_zero) []
   ·intro j hj;rcases Nat.lt_or_ge j q.length with hlj | hgj
    ·obtain ⟨y, hy⟩ := Zad hlj;have e2 : ZbW (q.take (j + 1)) x = ZbW (q.take j) x + if y < x then 1 else 0 := by rw [ZaD hy, Zzn]
     have hu := Zrn (q.take j) x;rw [List.length_take] at hu;by_cases c : y < x
     ·rw [if_pos c] at e2;refine kw1 kO (kc2 hy c) kc0 ?_;refine ⟨j + 1, ?_, kN (kc4 e2 @Int.natCast_add @Int.natCast_one @Int.add_assoc) [], ?_⟩
      ·omega
      ·omega
     ·rw [if_neg c] at e2;refine kw1 kO (kc2 hy c) kc0 ?_;refine ⟨j + 1, ?_, kN (kc2 e2 @Nat.add_zero) [], ?_⟩
      ·omega
      ·omega
    ·have : j = q.length := by omega
     subst this
     try dsimp only
     rw [List.take_length];refine kw1 kO kc0 kc0 ?_;refine ⟨i + 1, ?_, kN (kc2 e1 @Int.natCast_add) [], ?_⟩
     ·omega
     ·omega
  ·have : i = p.length := by omega
   subst this
   try dsimp only
   rw [List.take_length];refine kw1 kO kc0 kc0 ?_;exact Zah rfl
theorem Ziu (a : Lv) (i : Int) : Zaa Tryz.prog 217 [lvD a, .int i] (.bool (decide (0 ≤ i ∧ i < a.2.1.length))) := by
 obtain ⟨n, ls, ar, cs⟩ := a;refine kE Tryz.func217 ?_;intro hat B X w0;have hl := Zb8 0 1 hat rfl rfl;rw [List.length_map] at hl;dsimp only at hl;by_cases c : 0 ≤ i
 ·refine kw1 kO (kc1 c) kc0 ?_;refine Zaj ?_;simp [c]
 ·refine kw1 kO (kc1 c) kc0 ?_;refine Zaj ?_;simp [c]
def Zaq (l : List (List Int)) (k : Nat) : List Int := (l[k]?).getD []
def Zdm (at_ : List (List Int)) (a b : Nat) : Int := if a = b then 0 else Zcg (Zaq at_ a) (Zaq at_ b)
def Zcx (at_ : List (List Int)) : List (List Int) := (List.range at_.length).map fun a => (List.range at_.length).map fun b => Zdm at_ a b
def Zej (a : Lv) (i f : Int) : Bool := Zax a && decide (0 ≤ i ∧ i < a.2.1.length) && decide (0 ≤ f ∧ f < a.2.1.length) && decide (f = i - 1 ∨ f = i + 1)
def Zce (a : Lv) (i : Int) : Nat := ((a.2.1[i.toNat]?).getD []).length
def ZaU (a : Lv) (i f : Int) : List (List Int) := if Zej a i f then Zcx (Zbb a.2.1 a.2.2.1 i f (Zce a i)) else []
def ZcY (at_ : List (List Int)) (a k : Nat) : List Int := Za9 (fun b => Zdm at_ a b) at_.length k
theorem ZwU (a : Lv) (i f : Nat) (hw : wide a) (hv : Zax a = true) (hi : i < a.2.1.length) (hf : f < a.2.1.length) (hif : (f : Int) = i - 1 ∨ (f : Int) = i + 1) :
  Zaa Tryz.prog 177 [lvD a, .int i, .int f] (Zae (Zcx (Zbb a.2.1 a.2.2.1 i f (Zce a i)))) := by
 have h1 := ZgQ a hw;rw [hv] at h1;have h2 := Ziu a i;have h3 := Ziu a f;rw [decide_eq_true (by omega)] at h2 h3;obtain ⟨y, hy⟩ := Zad hi;have h4 := ZtC a i f y hv hy;have hla : Zce a i = y.length := by rw [Zce, Int.toNat_natCast, hy]; rfl
 rw [hla];obtain ⟨t1, t2⟩ := Zcz hv;have hyl := ZcU (List.mem_of_getElem? hy);obtain ⟨s1, _, _⟩ := ZhE hv;have hEl : (Zbb a.2.1 a.2.2.1 i f y.length).length = y.length := by simp [Zbb]
 have hEn : ∀ p ∈ Zbb a.2.1 a.2.2.1 i f y.length, p.length ≤ 1000 := by
  intro p hp;simp only [Zbb, List.mem_map, List.mem_range] at hp;obtain ⟨k, _, rfl⟩ := hp;have := Zg6 a.2.1 a.2.2.1 i f k a.2.2.1.length;omega
 generalize Zbb a.2.1 a.2.2.1 i f y.length = E at *;obtain ⟨N, hN⟩ : ∃ N, N = E.length := ⟨_, rfl⟩;have hN5 : N ≤ 512 := by omega
 have hbh : ∀ (u v : Nat) p q, E[u]? = some p → E[v]? = some q → Zaa Tryz.prog 222 [Zac p, Zac q] (.int (Zcg p q)) := fun u v p q hu hv => Zut p q (hEn p (List.mem_of_getElem? hu)) (hEn q (List.mem_of_getElem? hv))
 obtain ⟨n, ls, ar, cs⟩ := a;dsimp only at *;refine kE Tryz.func177 ?_;intro hat B X w0;rcases hif with hif | hif
 all_goals
  refine kw1 kO (kc2 hif hN.symm) (kc4 h1 h2 h3 h4) ?_;refine Zav _ (ZhU 1 44 1 N rfl (fun i hi => by simp (disch := omega) only [go_sem, simprocAttr, ZiL, ZdH]) (by decide) (by decide)) ?_;refine Zef (fun (u : Nat) => u ≤ N) (fun u => [(3, .ptr 3 0 0 0), (7, .d (Zae E)), (8, .ref 44 1 0 N N), (46, .int N), (47, .int u)]) (fun u => [⟨1, 44, 1, N, fun k => if k < u then (ZcY E k N).map D.int else []⟩]) (fun u => [(3, .cells [.int n, .d (Zae ls), .d (Zak ar), .d (Zae cs)])]) (fun u => N - u) 0 ?_ ?_ ?_
  ·exact Nat.zero_le _
  ·refine kF (kc1 hN.symm) [] [] ?_;exact kT0 (kc1 @Nat.not_lt_zero)
  ·intro u hu;rcases Nat.lt_or_ge u N with hlt | hge
   ·obtain ⟨eu, heu⟩ := Zad (l := E) (k := u) (by omega);have hz : List.replicate N (D.int 0) = (ZcY E u 0).map D.int := by rw [ZcY, Zix, hN]
    have hnu : ¬ u < u := by omega
    refine Zav _ (ZeQ _ _ [3, 44] 44 u 900 1 1 N (by first | rfl | (simp (disch := omega) only [go_sem, simprocAttr, hnu]; done) | (simp (disch := omega) only [go_sem, simprocAttr, hnu]; rfl)) (by first | (simp (disch := omega) only [go_sem, simprocAttr, hnu]; done) | (simp (disch := omega) only [go_sem, simprocAttr, hnu]; rfl)) (by first | (simp (disch := omega) only [go_sem, simprocAttr, hnu]; done) | (simp (disch := omega) only [go_sem, simprocAttr, hnu]; rfl)) (fun i hi hne => by simp (disch := omega) only [go_sem, simprocAttr, hne, hnu]; (repeat' split) <;> exact .ref _ _ _ _ _ ⟨by simp (disch := omega) only [go_sem, simprocAttr, hne, hnu], by simp (disch := omega) only [go_sem, simprocAttr, hne, hnu]⟩) (by (repeat' first | refine ZeO ?_ | exact ZeY (ids := [3, 44]) rfl rfl (Nat.le_of_ble_eq_true rfl) | refine Ze0 ?_ | refine ZeD ?_ | refine ZeE ?_ | refine Ze3 ?_ | refine ZeU ?_ | refine Ze5 (by dsimp only; omega) (by dsimp only; omega) (by omega) (by omega) (Nat.le_of_ble_eq_true rfl) ?_); done) rfl rfl rfl) ?_;refine kw1 (kow (Nat.beq 54) (b := true)) (kc2 hN.symm hnu) kc0 ?_;refine Zef (fun (b : Nat) => b ≤ N) (fun b => [(3, .ptr 3 0 0 0), (7, .d (Zae E)), (8, .ref 44 1 0 N N), (9, .int u), (46, .int N), (47, .int u), (57, .int N), (58, .int b)]) (fun b => [⟨1, 44, 1, N, fun k => if k < u then (ZcY E k N).map D.int else if k = u then (ZcY E u b).map D.int else []⟩]) (fun b => [(3, .cells [.int n, .d (Zae ls), .d (Zak ar), .d (Zae cs)])]) (fun b => N - b) 0 ?_ ?_ ?_
    ·exact Nat.zero_le _
    ·refine kF (kc1 hN.symm) [(fid 1 u, 54)] [] ?_;exact kT1 (kc6 hz @Zdj @ZcY.eq_1 @List.length_map.{0,0} hN.symm hnu) u
    ·intro b hb;have hfl := Zdj (fun b => Zdm E u b) E.length b;rw [← hN] at hfl;rcases Nat.lt_or_ge b N with hlb | hgb
     ·obtain ⟨eb, heb⟩ := Zad (l := E) (k := b) (by omega);have hg : (ZcY E u b)[b]? = some 0 := by rw [ZcY, ZeN (by omega), if_neg (by omega)]
      have hst : (ZcY E u b).set b (Zdm E u b) = ZcY E u (b + 1) := Zi3 (g := fun b => Zdm E u b) (by omega);have hbe := hbh u b eu eb heu heb;have hfl2 : (ZcY E u b).length = N := by rw [ZcY, Zdj, hN]
      by_cases c : u = b
      ·have hcell : Zdm E u b = 0 := by rw [Zdm, if_pos c]
       have hst2 : ZcY E u (b + 1) = ZcY E u b := by
        rw [← hst, hcell];refine List.ext_getElem? fun v => ?_
        rw [List.getElem?_set];split
        ·rename_i hv2; subst hv2; rw [hg, if_pos (by omega)]
        ·rfl
       have cI : (u : Int) = b := by omega
       refine kw1 kO (kc2 hN.symm cI) kc0 ?_;refine ⟨b + 1, ?_, kF kc0 [] [] ?_, ?_⟩
       ·omega
       ·exact kT1 (kc2 hst2 hnu) u
       ·omega
      ·have hcell : Zdm E u b = Zcg eu eb := by rw [Zdm, if_neg c, Zaq, Zaq, heu, heb]; rfl
       have cI : ¬ (u : Int) = b := by omega
       rw [hcell] at hst;refine Zav _ (ZeQ _ _ [3, 44] 44 u 900 1 1 N (by first | rfl | (simp (disch := omega) only [go_sem, simprocAttr, hnu, hfl2]; done) | (simp (disch := omega) only [go_sem, simprocAttr, hnu, hfl2]; rfl)) (by first | (simp (disch := omega) only [go_sem, simprocAttr, hnu, hfl2]; done) | (simp (disch := omega) only [go_sem, simprocAttr, hnu, hfl2]; rfl)) (by first | (simp (disch := omega) only [go_sem, simprocAttr, hnu, hfl2]; done) | (simp (disch := omega) only [go_sem, simprocAttr, hnu, hfl2]; rfl)) (fun i hi hne => by simp (disch := omega) only [go_sem, simprocAttr, hne, hnu, hfl2]; (repeat' split) <;> exact .ref _ _ _ _ _ ⟨by simp (disch := omega) only [go_sem, simprocAttr, hne, hnu, hfl2], by simp (disch := omega) only [go_sem, simprocAttr, hne, hnu, hfl2]⟩) (by (repeat' first | refine ZeO ?_ | exact ZeY (ids := [3, 44]) rfl rfl (Nat.le_of_ble_eq_true rfl) | refine Ze0 ?_ | refine ZeD ?_ | refine ZeE ?_ | refine Ze3 ?_ | refine ZeU ?_ | refine Ze5 (by dsimp only; omega) (by dsimp only; omega) (by omega) (by omega) (Nat.le_of_ble_eq_true rfl) ?_); done) rfl rfl rfl) ?_;refine kw1 kO (kc7 hN.symm cI heu heb hg hfl2 hnu) (kc1 hbe) ?_;refine ⟨b + 1, ?_, kF kc0 [(fid 1 u, 900)] [] ?_, ?_⟩
       ·omega
       ·exact kT1 (kc6 @hst.symm @List.map_set.{0,0} @List.length_set.{0} @List.length_map.{0,0} hfl2 hnu) u
       ·omega
     ·have : b = N := by omega
      subst this;have hsu : ∀ i, i ≠ u → ((i < u + 1) = (i < u)) := fun i h => propext (by omega)
      refine kw1 kO kc0 kc0 ?_;refine ⟨u + 1, ?_, kF kc0 [] [] ?_, ?_⟩
      ·omega
      ·exact kT1 (kc3 hnu hsu @Nat.lt_add_one) u
      ·omega
   ·have : u = N := by omega
    subst this
    try dsimp only
    refine Zav _ (Zia _ _ _ _ ⟨Zbc rfl, Zbc rfl, (by (repeat' first | exact fmn | refine fmc ⟨⟨Nat.le_of_ble_eq_true rfl, Nat.le_of_ble_eq_true rfl, by dsimp only; omega⟩, ?_⟩); done)⟩ rfl [3, 44] rfl rfl rfl rfl) ?_;refine kw1 kO kc0 kc0 ?_;refine Zdb (o := 44) rfl rfl (by simp) ?_;rw [List.take_of_length_le (by simp), Zcx, ← hN, List.map_map];refine List.map_congr_left fun k hk => ?_
    rw [if_pos (List.mem_range.1 hk), ZcY, ← hN, ZiM];rfl
theorem Zz8 (a : Lv) (i f : Int) (hw : wide a) (hm : Zej a i f = false) : Zaa Tryz.prog 177 [lvD a, .int i, .int f] (Zae []) := by
 have h1 := ZgQ a hw;have h2 := Ziu a i;have h3 := Ziu a f;rw [Zej] at hm;rcases c1 : Zax a with _ | _ <;> rw [c1] at h1 hm
 ·refine kE Tryz.func177 ?_;intro hat B X w0;refine kw1 kO kc0 (kc1 h1) ?_;exact ZcI rfl
 ·by_cases c2 : 0 ≤ i ∧ i < a.2.1.length
  ·rw [decide_eq_true c2] at h2 hm;by_cases c3 : 0 ≤ f ∧ f < a.2.1.length
   ·rw [decide_eq_true c3] at h3 hm;have c4 : ¬ (f = i - 1 ∨ f = i + 1) := by simpa using hm
    have d1 : ¬ f = i - 1 := fun h => c4 (.inl h)
    have d2 : ¬ f = i + 1 := fun h => c4 (.inr h)
    obtain ⟨t1, t2⟩ := Zcz c1;refine kE Tryz.func177 ?_;intro hat B X w0;refine kw1 kO (kc2 d1 d2) (kc3 h1 h2 h3) ?_;exact ZcI rfl
   ·rw [decide_eq_false c3] at h3;refine kE Tryz.func177 ?_;intro hat B X w0;refine kw1 kO kc0 (kc3 h1 h2 h3) ?_;exact ZcI rfl
  ·rw [decide_eq_false c2] at h2;refine kE Tryz.func177 ?_;intro hat B X w0;refine kw1 kO kc0 (kc3 h1 h2 h3) ?_;exact ZcI rfl
theorem Zn4 (a : Lv) (i f : Int) (hw : wide a) : Zaa Tryz.prog 177 [lvD a, .int i, .int f] (Zae (ZaU a i f)) := by
 rcases h : Zej a i f with _ | _
 ·rw [ZaU, h, if_neg (by decide)];exact Zz8 a i f hw h
 ·have e : ZaU a i f = Zcx (Zbb a.2.1 a.2.2.1 i f (Zce a i)) := by rw [ZaU, h, if_pos rfl]
  rw [e];simp only [Zej, Bool.and_eq_true, decide_eq_true_eq] at h;obtain ⟨⟨⟨h1, h2⟩, h3⟩, h4⟩ := h;obtain ⟨i, rfl⟩ : ∃ n : Nat, i = n := ⟨i.toNat, by omega⟩;obtain ⟨f, rfl⟩ : ∃ n : Nat, f = n := ⟨f.toNat, by omega⟩;exact ZwU a i f hw h1 (by omega) (by omega) h4
def ZaE (f : Nat → Int) : Nat → Int
 | 0 => 0
 | k + 1 => ZaE f k + f k
theorem ZiW {f : Nat → Int} {c : Nat} : ∀ n, (∀ k, k < n → 0 ≤ f k ∧ f k ≤ c) → 0 ≤ ZaE f n ∧ ZaE f n ≤ ((n * c : Nat) : Int)
 | 0, _ => by simp [ZaE]
 | n + 1, h => by
  have ih := ZiW n fun k hk => h k (by omega)
  have := h n (by omega);rw [ZaE, Nat.add_mul]; omega
theorem Zmx {f g : Nat → Int} : ∀ n, (∀ k, k < n → f k = g k) → ZaE f n = ZaE g n
 | 0, _ => rfl
 | n + 1, h => by rw [ZaE, ZaE, Zmx n fun k hk => h k (by omega), h n (by omega)]
def Zag (m : List (List Int)) (b a : Nat) : Int := at0 (Zaq m b) a
def ZlY (m : List (List Int)) : Int := ZaE (fun a => ZaE (fun b => Zag m b a) a) m.length
structure Sq (m : List (List Int)) : Prop where
 len : m.length ≤ 600
 row : ∀ p, p ∈ m → p.length = m.length
 val : ∀ p, p ∈ m → ∀ x, x ∈ p → 0 ≤ x ∧ x ≤ 1000000
theorem Sq.get {m : List (List Int)} (h : Sq m) {b a : Nat} (hb : b < m.length) (ha : a < m.length) : ∃ p, m[b]? = some p ∧ p.length = m.length ∧ p[a]? = some (Zag m b a) ∧ 0 ≤ Zag m b a ∧ Zag m b a ≤ 1000000 := by
 obtain ⟨p, hp⟩ := Zad hb;have hl := h.row p (List.mem_of_getElem? hp);have hg := ZaW (r := p) (i := a) (by omega);have e : Zag m b a = at0 p a := by rw [Zag, Zaq, hp]; rfl
 rw [← e] at hg;exact ⟨p, hp, hl, hg, h.val p (List.mem_of_getElem? hp) _ (List.mem_of_getElem? hg)⟩
theorem Sq.nil : Sq [] := ⟨by simp, by simp, by simp⟩
theorem Zj8 (a : Lv) (i f : Int) : Sq (ZaU a i f) := by
 rw [ZaU];split
 ·rename_i h;simp only [Zej, Bool.and_eq_true, decide_eq_true_eq] at h;obtain ⟨⟨⟨h1, h2⟩, h3⟩, h4⟩ := h;obtain ⟨t1, t2⟩ := Zcz h1;obtain ⟨s1, _, _⟩ := ZhE h1;obtain ⟨y, hy⟩ := Zad (l := a.2.1) (k := i.toNat) (by omega);have hyl := ZcU (List.mem_of_getElem? hy);have hla : Zce a i = y.length := by rw [Zce, hy]; rfl
  have hEn : ∀ k, (Zaq (Zbb a.2.1 a.2.2.1 i f (Zce a i)) k).length ≤ 1000 := by
   intro k;rw [Zaq];cases hk : (Zbb a.2.1 a.2.2.1 i f (Zce a i))[k]? with
   | none => simp
   | some p =>
    have hp := List.mem_of_getElem? hk;simp only [Zbb, List.mem_map, List.mem_range] at hp;obtain ⟨k, _, rfl⟩ := hp;have := Zg6 a.2.1 a.2.2.1 i f k a.2.2.1.length;simp only [Option.getD_some]; omega
  have hEl : (Zbb a.2.1 a.2.2.1 i f (Zce a i)).length = y.length := by simp [Zbb, hla]
  generalize Zbb a.2.1 a.2.2.1 i f (Zce a i) = E at *;refine ⟨by simp [Zcx, hEl]; omega, fun p hp => ?_, fun p hp x hx => ?_⟩
  ·simp only [Zcx, List.mem_map, List.mem_range] at hp;obtain ⟨k, _, rfl⟩ := hp;simp [Zcx]
  ·simp only [Zcx, List.mem_map, List.mem_range] at hp;obtain ⟨k, _, rfl⟩ := hp;obtain ⟨j, _, rfl⟩ := List.mem_map.1 hx;rw [Zdm];split
   ·omega
   ·have h1 := ZmX (Zaq E k) (Zaq E j);have h2 : (Zaq E k).length * (Zaq E j).length ≤ 1000 * 1000 := Nat.mul_le_mul (hEn k) (hEn j);omega
 ·exact Sq.nil
def Zjg (a : Lv) (i : Int) : Bool := decide (¬ (0 ≤ i ∧ i < a.2.1.length) ∨ i = (a.2.1.length : Int) - 1)
def ZbS (a : Lv) (i : Int) : Int := if Zjg a i then 0 else ZlY (ZaU a i (i + 1))
theorem ZnJ {m : List (List Int)} (h : Sq m) {x : Nat} (hx : x < m.length) : ∀ k, k ≤ x → 0 ≤ ZaE (fun b => Zag m b x) k ∧ ZaE (fun b => Zag m b x) k ≤ 600 * 1000000 := fun k hk => by
 have := ZiW (f := fun b => Zag m b x) (c := 1000000) k fun b hb => by obtain ⟨_, _, _, _, h5⟩ := h.get (b := b) (a := x) (by omega) hx; exact h5
 have := h.len;have h2 : k * 1000000 ≤ 600 * 1000000 := Nat.mul_le_mul_right _ (by omega);omega
theorem Zmy {m : List (List Int)} (h : Sq m) : ∀ k, k ≤ m.length → 0 ≤ ZaE (fun x => ZaE (fun b => Zag m b x) x) k ∧ ZaE (fun x => ZaE (fun b => Zag m b x) x) k ≤ 600 * 600000000 := fun k hk => by
 have := ZiW (f := fun x => ZaE (fun b => Zag m b x) x) (c := 600000000) k fun x hx => by have := ZnJ h (x := x) (by omega) x (Nat.le_refl _); omega
 have := h.len;have h2 : k * 600000000 ≤ 600 * 600000000 := Nat.mul_le_mul_right _ (by omega);omega
theorem ZuM (a : Lv) (i : Int) (hw : wide a) : Zaa Tryz.prog 169 [lvD a, .int i] (.int (ZbS a i)) := by
 have h2 := Ziu a i;have h3 := Zn4 a i (i + 1) hw;rw [ZbS, Zjg];by_cases c1 : 0 ≤ i ∧ i < a.2.1.length
 ·rw [decide_eq_true c1] at h2;by_cases c2 : i = (a.2.1.length : Int) - 1
  ·rw [if_pos (by simp [c2])];obtain ⟨n, ls, ar, cs⟩ := a;dsimp only at c1 c2;refine kE Tryz.func169 ?_;intro hat B X w0;have hl := Zb8 0 1 hat rfl rfl;rw [List.length_map] at hl;dsimp only at hl;refine kw1 kO (kc1 c2.symm) (kc1 h2) ?_;exact Zah rfl
  ·rw [if_neg (by simp; omega)];have hs := Zj8 a i (i + 1);generalize ZaU a i (i + 1) = m at h3 hs ⊢;have hml := hs.len;obtain ⟨n, ls, ar, cs⟩ := a;dsimp only at c1 c2;refine kE Tryz.func169 ?_;intro hat B X w0;have hl := Zb8 0 1 hat rfl rfl;rw [List.length_map] at hl;dsimp only at hl;refine kw1 kO (kc1 c2) (kc2 h2 h3) ?_;refine Zai (fun (x : Nat) => x ≤ m.length) (fun x => [(5, .int (ZaE (fun x => ZaE (fun b => Zag m b x) x) x)), (6, .d (Zae m)), (27, .int m.length), (28, .int x)]) (fun x => []) (fun x => m.length - x) 0 ?_ ?_ ?_
   ·exact Nat.zero_le _
   ·exact kN (kc1 @ZaE.eq_1) []
   ·intro x hx;rcases Nat.lt_or_ge x m.length with hlt | hge
    ·have ho := Zmy hs x (by omega);have ho2 := Zmy hs (x + 1) (by omega);have e1 : ZaE (fun x => ZaE (fun b => Zag m b x) x) (x + 1) = ZaE (fun x => ZaE (fun b => Zag m b x) x) x + ZaE (fun b => Zag m b x) x := rfl;obtain ⟨s0, e0⟩ : ∃ s0, ZaE (fun x => ZaE (fun b => Zag m b x) x) x = s0 := ⟨_, rfl⟩;rw [e0] at ho e1;rw [e1] at ho2;refine kw1 kO kc0 kc0 ?_;refine Zai (fun (y : Nat) => y ≤ x) (fun y => [(5, .int (s0 + ZaE (fun b => Zag m b x) y)), (6, .d (Zae m)), (7, .int x), (27, .int m.length), (28, .int x), (31, .int x), (32, .int y)]) (fun y => []) (fun y => x - y) 0 ?_ ?_ ?_
     ·exact Nat.zero_le _
     ·exact kN (kc3 e0 @ZaE.eq_1 @Int.add_zero) []
     ·intro y hy;rcases Nat.lt_or_ge y x with hly | hgy
      ·obtain ⟨p, hp, hpl, hpg, hp1, hp2⟩ := hs.get (b := y) (a := x) (by omega) hlt;have hi := ZnJ hs hlt y (by omega);have e2 : ZaE (fun b => Zag m b x) (y + 1) = ZaE (fun b => Zag m b x) y + Zag m y x := rfl;refine kw1 kO (kc3 hp hpg hpl) kc0 ?_;refine ⟨y + 1, ?_, kN (kc2 e2 @Int.add_assoc) [], ?_⟩
       ·omega
       ·omega
      ·have : y = x := by omega
       subst this;refine kw1 kO kc0 kc0 ?_;refine ⟨y + 1, ?_, kN (kc1 e1) [], ?_⟩
       ·omega
       ·omega
    ·have : x = m.length := by omega
     subst this;refine kw1 kO kc0 kc0 ?_;exact Zah rfl
 ·rw [decide_eq_false c1] at h2;rw [if_pos (by simp only [decide_eq_true_eq]; exact .inl c1)];refine kE Tryz.func169 ?_;intro hat B X w0;refine kw1 kO kc0 (kc1 h2) ?_;exact Zah rfl
def Za7 (a : Lv) : Int := ZaE (fun i => ZbS a i) a.2.1.length
theorem Znz (a : Lv) (i : Int) : 0 ≤ ZbS a i ∧ ZbS a i ≤ 360000000000 := by
 rw [ZbS];split
 ·omega
 ·have hs := Zj8 a i (i + 1);have := Zmy hs _ (Nat.le_refl _);rw [ZlY]; omega
theorem Zpu (a : Lv) (hw : wide a) (hl : a.2.1.length ≤ 1000) : Zaa Tryz.prog 105 [lvD a] (.int (Za7 a)) := by
 have hb := fun i => ZuM a i hw
 have hbl := Znz a;have hs : ∀ k, k ≤ a.2.1.length → 0 ≤ ZaE (fun i => ZbS a i) k ∧ ZaE (fun i => ZbS a i) k ≤ 1000 * 360000000000 := fun k hk => by
  have := ZiW (f := fun i => ZbS a i) (c := 360000000000) k fun i _ => hbl i
  have h2 : k * 360000000000 ≤ 1000 * 360000000000 := Nat.mul_le_mul_right _ (by omega);omega
 rw [Za7];generalize hB : (fun i : Nat => ZbS a i) = Bf at hs ⊢;have hb2 : ∀ i : Nat, Zaa Tryz.prog 169 [lvD a, .int i] (.int (Bf i)) := fun i => by rw [← hB]; exact hb i
 obtain ⟨n, ls, ar, cs⟩ := a;dsimp only at *;refine kE Tryz.func105 ?_;intro hat B X w0;refine kw1 kO kc0 kc0 ?_;refine Zai (fun (i : Nat) => i ≤ ls.length) (fun i => [(1, .ptr 1 0 0 0), (3, .int (ZaE Bf i)), (7, .int ls.length), (8, .int i)]) (fun i => [(1, .cells [.int n, .d (Zae ls), .d (Zak ar), .d (Zae cs)])]) (fun i => ls.length - i) 0 ?_ ?_ ?_
 ·exact Nat.zero_le _
 ·exact kN (kc1 @ZaE.eq_1) []
 ·intro i hi;rcases Nat.lt_or_ge i ls.length with hlt | hge
  ·have h1 := hs i hi;have h2 := hs (i + 1) (by omega);have e1 : ZaE Bf (i + 1) = ZaE Bf i + Bf i := rfl;have hbi := hb2 i;refine kw1 kO kc0 (kc1 hbi) ?_;refine ⟨i + 1, ?_, kN (kc1 e1) [], ?_⟩
   ·omega
   ·omega
  ·have : i = ls.length := by omega
   subst this;refine kw1 kO kc0 kc0 ?_;exact Zah rfl
def Zfu (y z : List Int) (x : Arc) : List (Int × Int) := if 0 ≤ placeF y x.1 ∧ 0 ≤ placeF z x.2 then [(placeF y x.1, placeF z x.2)] else []
def Zbu (y z : List Int) (ar : List Arc) : List (Int × Int) := ar.flatMap (Zfu y z)
def ZjE (c : List Int) : Bool := decide (60 < c.length)
def Zfx (a : Lv) : Bool := decide (a.2.1.length ≤ 60 ∧ a.2.2.1.length ≤ 90 ∧ a.2.2.2.length ≤ 90) && !a.2.1.any ZjE && !a.2.2.2.any ZjE
theorem ZnQ {a : Lv} (h : Zfx a = true) : a.2.1.length ≤ 60 ∧ a.2.2.1.length ≤ 90 ∧ a.2.2.2.length ≤ 90 ∧ (∀ y, y ∈ a.2.1 → y.length ≤ 60) ∧ ∀ y, y ∈ a.2.2.2 → y.length ≤ 60 := by
 simp only [Zfx, Bool.and_eq_true, decide_eq_true_eq, Bool.not_eq_true', List.any_eq_false] at h;obtain ⟨⟨⟨h1, h2, h3⟩, h4⟩, h5⟩ := h;refine ⟨h1, h2, h3, fun y hy => ?_, fun y hy => ?_⟩
 ·have := h4 y hy; simp only [ZjE, decide_eq_true_eq] at this; omega
 ·have := h5 y hy; simp only [ZjE, decide_eq_true_eq] at this; omega
end Go.Proofs.YtjjbhjnpeenbkaaGreatDoor
namespace Go.Proofs.YtjjbhjnpeenbkaaGreatDoor
open Go Go.PS Go.Proofs

/-! ### Sums over pairs -/
abbrev Pr := Int × Int
def w1 (f : Pr → Int) : List Pr → Int
 | [] => 0
 | y :: F => f y + w1 f F
def W (f : Pr → Pr → Int) (F : List Pr) : List Pr → Int
 | [] => 0
 | x :: E => w1 (f x) F + W f F E
theorem Zkj {f g : Pr → Int} : ∀ {F : List Pr}, (∀ y, y ∈ F → f y = g y) → w1 f F = w1 g F
 | [], _ => rfl
 | y :: F, h => by rw [w1, w1, h y (by simp), Zkj fun z hz => h z (List.mem_cons_of_mem _ hz)]
theorem ZiQ {f g : Pr → Pr → Int} {F : List Pr} : ∀ {E : List Pr}, (∀ x, x ∈ E → ∀ y, y ∈ F → f x y = g x y) → W f F E = W g F E
 | [], _ => rfl
 | x :: E, h => by rw [W, W, Zkj (h x (by simp)), ZiQ fun z hz => h z (List.mem_cons_of_mem _ hz)]
theorem Zqu (f g : Pr → Int) : ∀ F : List Pr, w1 (fun y => f y + g y) F = w1 f F + w1 g F
 | [] => rfl
 | y :: F => by rw [w1, w1, w1, Zqu f g F]; omega
theorem ZrL (f g : Pr → Pr → Int) (F : List Pr) : ∀ E : List Pr, W (fun x y => f x y + g x y) F E = W f F E + W g F E
 | [] => rfl
 | x :: E => by rw [W, W, W, Zqu, ZrL f g F E]; omega
theorem Zmz : ∀ F : List Pr, w1 (fun _ => 0) F = 0
 | [] => rfl
 | y :: F => by rw [w1, Zmz F]; rfl
theorem Zqa (F : List Pr) : ∀ E : List Pr, W (fun _ _ => 0) F E = 0
 | [] => rfl
 | x :: E => by rw [W, Zmz, Zqa F E]; rfl
theorem Zoy (f : Nat → Pr → Pr → Int) (F E : List Pr) : ∀ n, ZaE (fun k => W (f k) F E) n = W (fun x y => ZaE (fun k => f k x y) n) F E
 | 0 => by simp only [ZaE]; rw [Zqa]
 | n + 1 => by simp only [ZaE]; rw [Zoy f F E n, ZrL]
theorem Znb (f : Pr → Pr → Int) : ∀ E : List Pr, W f [] E = 0
 | [] => rfl
 | x :: E => by rw [W, Znb f E]; rfl
theorem Zo0 (f : Pr → Pr → Int) (y : Pr) (F : List Pr) : ∀ E : List Pr, W f (y :: F) E = w1 (fun x => f x y) E + W f F E
 | [] => rfl
 | x :: E => by rw [W, W, w1, w1, Zo0 f y F E]; omega
theorem Zqe (f : Pr → Pr → Int) : ∀ F E : List Pr, W f F E = W (fun x y => f y x) E F
 | [], E => by rw [Znb, W]
 | y :: F, E => by rw [Zo0, W, Zqe f F E]
theorem Znq (g : Pr → Pr) (f : Pr → Int) : ∀ F : List Pr, w1 f (F.map g) = w1 (fun y => f (g y)) F
 | [] => rfl
 | y :: F => by rw [List.map_cons, w1, w1, Znq g f F]
theorem Zln (g : Pr → Pr) (f : Pr → Pr → Int) (F : List Pr) : ∀ E : List Pr, W f (F.map g) (E.map g) = W (fun x y => f (g x) (g y)) F E
 | [] => rfl
 | x :: E => by rw [List.map_cons, W, W, Znq, Zln g f F E]
def ind (p : Prop) [Decidable p] : Int := if p then 1 else 0
theorem Zre (x : Int) (p : Pr → Bool) (g : Pr → Int) : ∀ F : List Pr, ((ZbW ((F.filter p).map g) x : Nat) : Int) = w1 (fun y => ind (p y = true ∧ g y < x)) F
 | [] => rfl
 | y :: F => by
  have ih := Zre x p g F;rw [w1, ← ih];by_cases hp : p y = true
  ·rw [List.filter_cons_of_pos hp, List.map_cons, ZbW, ZbW, List.filter_cons];by_cases hg : g y < x
   ·simp [ind, hp, hg]; omega
   ·simp [ind, hp, hg]
  ·rw [List.filter_cons_of_neg hp];simp [ind, hp]
theorem Zms (p q : Pr → Bool) (g : Pr → Int) (F : List Pr) : ∀ E : List Pr, ((Zcg ((E.filter p).map g) ((F.filter q).map g) : Nat) : Int) = W (fun x y => ind (p x = true ∧ q y = true ∧ g y < g x)) F E
 | [] => rfl
 | x :: E => by
  have ih := Zms p q g F E;rw [W, ← ih];by_cases hp : p x = true
  ·rw [List.filter_cons_of_pos hp, List.map_cons, Zcg, Int.natCast_add, Zre]
   congr 1
   refine Zkj fun y _ => ?_
   simp [ind, hp]
  ·rw [List.filter_cons_of_neg hp];have : w1 (fun y => ind (p x = true ∧ q y = true ∧ g y < g x)) F = 0 := by
    rw [← Zmz F];refine Zkj fun y _ => ?_
    simp [ind, hp]
   rw [this]; omega
/-! ### Single sums of indicators -/
theorem Zmh (u : Int) (g : Nat → Int) : ∀ n : Nat, (∀ k : Nat, (k : Int) ≠ u → g k = 0) → ZaE g n = if 0 ≤ u ∧ u < n then g u.toNat else 0
 | 0, _ => by rw [ZaE, if_neg (by omega)]
 | n + 1, h => by
  rw [ZaE, Zmh u g n h];by_cases c : (n : Int) = u
  ·subst c;rw [if_neg (by omega), if_pos (by omega), Int.toNat_natCast]; omega
  ·rw [h n c];by_cases c2 : 0 ≤ u ∧ u < n
   ·rw [if_pos c2, if_pos (by omega)]; omega
   ·rw [if_neg c2, if_neg (by omega)]; rfl
/-! ### The ends, as pairs -/
theorem Zhg {y : List Int} (hn : y.Nodup) {v : Int} {p : Nat} (h : y[p]? = some v) : placeF y v = p := by
 have hi := Zh6 hn h;rw [placeF];cases hf : y.findIdx? (fun x => decide (x = v)) with
 | none =>
  have := List.findIdx?_eq_none_iff.1 hf v (List.mem_of_getElem? h);simp at this
 | some k =>
  obtain ⟨hk, hk2, _⟩ := List.findIdx?_eq_some_iff_getElem.1 hf;have hv : y[k] = v := by simpa using hk2
  have := Zh6 hn (k := k) (v := v) (by rw [List.getElem?_eq_getElem hk, hv]);rw [ZcH]; omega
theorem Zib {y : List Int} {v : Int} (h : v ∉ y) : placeF y v = -1 := by
 rw [placeF, ZeX]
 ·rfl
 ·intro j z hz;simp only [decide_eq_false_iff_not];rintro rfl;exact h (List.mem_of_getElem? hz)
theorem Zb5.placeF {ls : List (List Int)} (hn : ls.flatten.Nodup) {v : Int} {r p i : Nat} {y : List Int} (h : Zb5 ls v r p) (hy : ls[i]? = some y) : Go.Proofs.YtjjbhjnpeenbkaaGreatDoor.placeF y v = if r = i then (p : Int) else -1 := by
 by_cases c : r = i
 ·subst c;rw [if_pos rfl];obtain ⟨z, h1, h2⟩ := h;rw [hy] at h1; cases h1;exact Zhg ((List.pairwise_flatten.1 hn).1 y (List.mem_of_getElem? hy)) h2
 ·rw [if_neg c];refine Zib fun hv => ?_
  obtain ⟨q, hq⟩ := List.getElem?_of_mem hv;exact c (h.layer hn ⟨y, hy, hq⟩)
theorem Zkz {ls : List (List Int)} (hn : ls.flatten.Nodup) {x : Arc} {r p q i : Nat} {y z : List Int} (h : Joins ls x r p q) (hy : ls[i]? = some y) (hz : ls[i + 1]? = some z) : Zfu y z x = if r = i then [((p : Int), (q : Int))] else [] := by
 rw [Zfu, h.up.placeF hn hy, h.dn.placeF hn hz];by_cases c : r = i
 ·simp [c]
 ·simp [c]
theorem Joins.lt {ls : List (List Int)} {x : Arc} {r p q : Nat} (h : Joins ls x r p q) {y z : List Int} (hy : ls[r]? = some y) (hz : ls[r + 1]? = some z) : p < y.length ∧ q < z.length := by
 obtain ⟨⟨u, h1, h2⟩, ⟨v, h3, h4⟩⟩ := h;rw [hy] at h1; cases h1;rw [hz] at h3; cases h3;exact ⟨(List.getElem?_eq_some_iff.1 h2).1, (List.getElem?_eq_some_iff.1 h4).1⟩
section valid
variable {ls : List (List Int)} {ar : List Arc} (hn : ls.flatten.Nodup) (hj : ∀ x, x ∈ ar → ∃ r p q, Joins ls x r p q) {i : Nat} {y z : List Int} (hy : ls[i]? = some y) (hz : ls[i + 1]? = some z)
include hn hj hy hz
theorem Zwy : ∀ e, e ∈ Zbu y z ar → 0 ≤ e.1 ∧ e.1 < y.length ∧ 0 ≤ e.2 ∧ e.2 < z.length := by
 intro e he;obtain ⟨x, hx, he⟩ := List.mem_flatMap.1 he;obtain ⟨r, p, q, h⟩ := hj x hx;rw [Zkz hn h hy hz] at he;split at he
 ·rename_i c;subst c;have := h.lt hy hz;rw [List.mem_singleton] at he;subst he;dsimp only; omega
 ·cases he
theorem Zp4 (p' : Nat) : Zdo ls ar i ((i : Int) + 1) ar.length p' = ((Zbu y z ar).filter fun e : Pr => decide (e.1 = (p' : Int))).map (·.2) := by
 rw [Zdo, List.take_length]
 induction ar with
 | nil => rfl
 | cons x ar ih =>
  obtain ⟨r, p, q, h⟩ := hj x (by simp);rw [List.flatMap_cons, ih (fun w hw => hj w (List.mem_cons_of_mem _ hw))];have e : Zbu y z (x :: ar) = Zfu y z x ++ Zbu y z ar := by simp [Zbu]
  rw [e, List.filter_append, List.map_append]
  congr 1
  rw [Zkz hn h hy hz, Zd4, h.up.ly hn, h.dn.ly hn, h.up.pl hn, h.dn.pl hn];by_cases c : r = i
  ·subst c;rw [if_pos ⟨rfl, by omega⟩, if_pos rfl];by_cases c2 : (p : Int) = p'
   ·simp [c2]
   ·simp [c2]
  ·rw [if_neg (by omega), if_neg (by omega), if_neg c]; rfl
theorem ZoZ (q' : Nat) : Zdo ls ar ((i + 1 : Nat) : Int) i ar.length q' = ((Zbu y z ar).filter fun e : Pr => decide (e.2 = (q' : Int))).map (·.1) := by
 rw [Zdo, List.take_length]
 induction ar with
 | nil => rfl
 | cons x ar ih =>
  obtain ⟨r, p, q, h⟩ := hj x (by simp);rw [List.flatMap_cons, ih (fun w hw => hj w (List.mem_cons_of_mem _ hw))];have e : Zbu y z (x :: ar) = Zfu y z x ++ Zbu y z ar := by simp [Zbu]
  rw [e, List.filter_append, List.map_append]
  congr 1
  rw [Zkz hn h hy hz, Zd4, h.up.ly hn, h.dn.ly hn, h.up.pl hn, h.dn.pl hn];by_cases c : r = i
  ·subst c;rw [if_neg (by omega), if_pos ⟨by omega, rfl⟩, if_pos rfl];by_cases c2 : (q : Int) = q'
   ·simp [c2]
   ·simp [c2]
  ·rw [if_neg (by omega), if_neg (by omega), if_neg c]; rfl
end valid
end Go.Proofs.YtjjbhjnpeenbkaaGreatDoor
