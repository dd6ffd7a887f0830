/- Longest ways: what the search does, and ZbR which bounds. -/
import Derived.Test.YtjjbhjnpeenbkaaGreatDoorBaF
set_option linter.unusedSimpArgs false
set_option linter.unusedVariables false
set_option maxHeartbeats 16000000
namespace Go.Proofs.YtjjbhjnpeenbkaaGreatDoor.Sx
open Go Go.PS Go.Proofs

abbrev Way := Int × Int × Stp × Bool
abbrev Zja (w : Way) : D := .ag [.int w.1, .int w.2.1, .int w.2.2.1.1, .int w.2.2.1.2.1, .int w.2.2.1.2.2.1, .bool w.2.2.1.2.2.2, .bool w.2.2.2]
def Zha : Way := (0, 0, (0, 0, 0, false), false)
def Zdq : Way := (-1152921504606846976, 0, (0, 0, 0, false), false)
def ZcV : Way := (0, 0, (0, 0, 0, false), true)
abbrev LS := List Way × List Bool × List Int
def wAt (W : List Way) (v : Int) : Way := (W[v.toNat]?).getD Zdq
def bAt (B : List Bool) (v : Int) : Bool := (B[v.toNat]?).getD true
def Za5 (v : Int) (σ : LS) (s : Stp) : LS :=
 if (wAt σ.1 s.1).1 < (wAt σ.1 v).1 + s.2.1 then
  (σ.1.set s.1.toNat ((wAt σ.1 v).1 + s.2.1, v, s, false), if bAt σ.2.1 s.1 then σ.2 else (σ.2.1.set s.1.toNat true, σ.2.2 ++ [s.1]))
 else σ
def Za3 (L : List Stp) (v : Int) (σ : LS) (i : Nat) : LS := (L.take i).foldl (Za5 v) (σ.1, σ.2.1.set v.toNat false, σ.2.2)
def ZsB (ST : Nat → List Stp) (σ : LS) (v : Int) : LS := Za3 (ST v.toNat) v σ (ST v.toNat).length
def Zbm (ST : Nat → List Stp) (σ : LS) (j : Nat) : LS := (σ.2.2.take j).foldl (ZsB ST) (σ.1, σ.2.1, [])
def Zau (ST : Nat → List Stp) (σ : LS) : Nat → LS
 | 0 => σ
 | k + 1 => Zbm ST (Zau ST σ k) (Zau ST σ k).2.2.length
theorem Zmn {α β : Type} {f : β → α → β} {l : List α} {k : Nat} {x : α} (a : β) (h : l[k]? = some x) : (l.take (k + 1)).foldl f a = f ((l.take k).foldl f a) x := by
 rw [ZaD h, List.foldl_append]; rfl
theorem ZiT {L : List Stp} {v : Int} {σ : LS} {i : Nat} {s : Stp} (h : L[i]? = some s) : Za3 L v σ (i + 1) = Za5 v (Za3 L v σ i) s := Zmn _ h
theorem ZiJ {ST : Nat → List Stp} {σ : LS} {j : Nat} {v : Int} (h : σ.2.2[j]? = some v) : Zbm ST σ (j + 1) = Za3 (ST v.toNat) v (Zbm ST σ j) (ST v.toNat).length := Zmn _ h

def ZdZ (n : Nat) (U : Int) (c : Nat) (σ : LS) : Prop :=
 σ.1.length = n ∧ σ.2.1.length = n ∧ (∀ x ∈ σ.2.2, 0 ≤ x ∧ x < (n : Int)) ∧ (∀ w ∈ σ.1, -1152921504606846976 ≤ w.1 ∧ w.1 ≤ U) ∧ σ.2.2.length ≤ σ.2.1.count true + c
def ZgJ (n : Nat) (v : Int) (L : List Stp) : Prop := ∀ s ∈ L, 0 ≤ s.1 ∧ s.1 < (n : Int) ∧ s.1 ≠ v ∧ -16777216 ≤ s.2.1 ∧ s.2.1 ≤ 16777216
theorem Zws (l : List Bool) : ∀ v, l.count true ≤ (l.set v false).count true + 1 := by
 induction l with
 | nil => intro v; simp
 | cons b l ih =>
  intro v;cases v with
  | zero => cases b <;> simp
  | succ v => have := ih v; cases b <;> simp <;> omega
theorem ZvN (l : List Bool) : ∀ v, l[v]? = some false → (l.set v true).count true = l.count true + 1 := by
 induction l with
 | nil => intro v h; simp at h
 | cons b l ih =>
  intro v h;cases v with
  | zero => simp at h; subst h; simp
  | succ v => have := ih v (by simpa using h); cases b <;> simp <;> omega
theorem Zdp {W : List Way} {v : Int} {n : Nat} (hW : W.length = n) (h1 : 0 ≤ v) (h2 : v < (n : Int)) : W[v.toNat]? = some (wAt W v) := by
 obtain ⟨x, hx⟩ := Zad (show v.toNat < W.length by omega);rw [wAt, hx]; rfl
theorem ZlV {W : List Bool} {v : Int} {n : Nat} (hW : W.length = n) (h1 : 0 ≤ v) (h2 : v < (n : Int)) : W[v.toNat]? = some (bAt W v) := by
 obtain ⟨x, hx⟩ := Zad (show v.toNat < W.length by omega);rw [bAt, hx]; rfl
theorem Zf6 {W : List Way} {u v : Int} {x : Way} (h1 : 0 ≤ u) (h2 : 0 ≤ v) (h3 : v.toNat < W.length) : wAt (W.set v.toNat x) u = if u = v then x else wAt W u := by
 rw [wAt, List.getElem?_set];by_cases h : u = v
 ·subst h; rw [if_pos rfl, if_pos h3, if_pos rfl]; rfl
 ·rw [if_neg (by omega), if_neg h]; rfl
theorem ZyY {n c : Nat} {U v : Int} {σ : LS} {s : Stp} (h : ZdZ n (U + 16777216) c σ) (hv : (wAt σ.1 v).1 ≤ U) (h0 : 0 ≤ v) (hs : 0 ≤ s.1 ∧ s.1 < (n : Int) ∧ s.1 ≠ v ∧ -16777216 ≤ s.2.1 ∧ s.2.1 ≤ 16777216) :
  ZdZ n (U + 16777216) c (Za5 v σ s) ∧ (wAt (Za5 v σ s).1 v).1 ≤ U := by
 obtain ⟨g1, g2, g3, g4, g5⟩ := h;obtain ⟨s1, s2, s3, s4, s5⟩ := hs;rw [Za5];split
 ·rename_i hlt;have hold := g4 _ (List.mem_of_getElem? (Zdp g1 s1 s2));refine ⟨⟨by simp [g1], ?_, ?_, ?_, ?_⟩, ?_⟩
  ·split
   ·exact g2
   ·simp [g2]
  ·split
   ·exact g3
   ·intro x hx;rcases List.mem_append.1 hx with hx | hx
    ·exact g3 x hx
    ·rw [List.mem_singleton.1 hx]; exact ⟨s1, s2⟩
  ·intro w hw;rcases List.mem_or_eq_of_mem_set hw with hw | rfl
   ·exact g4 w hw
   ·dsimp only; omega
  ·split
   ·exact g5
   ·rename_i hb;have hb : bAt σ.2.1 s.1 = false := by simpa using hb
    have := ZvN σ.2.1 s.1.toNat (by rw [ZlV g2 s1 s2, hb]);dsimp only;rw [List.length_append, this, List.length_singleton]; omega
  ·dsimp only;rw [Zf6 h0 s1 (by omega), if_neg (by omega)]; exact hv
 ·exact ⟨⟨g1, g2, g3, g4, g5⟩, hv⟩
theorem Zr0 {n c c' : Nat} {U U' : Int} {σ : LS} (h : ZdZ n U c σ) (hU : U ≤ U') (hc : c ≤ c') : ZdZ n U' c' σ := by
 obtain ⟨g1, g2, g3, g4, g5⟩ := h;exact ⟨g1, g2, g3, fun w hw => by have := g4 w hw; omega, by omega⟩
theorem Zpm {n c : Nat} {U v : Int} {σ : LS} {L : List Stp} (h : ZdZ n U c σ) (h0 : 0 ≤ v) (hvn : v < (n : Int)) (hL : ZgJ n v L) :
  ∀ i, ZdZ n (U + 16777216) (c + 1) (Za3 L v σ i) ∧ (wAt (Za3 L v σ i).1 v).1 ≤ U := by
 intro i
 induction i with
 | zero =>
  obtain ⟨g1, g2, g3, g4, g5⟩ := h;have := Zws σ.2.1 v.toNat;exact ⟨⟨g1, by simp [Za3, g2], g3, fun w hw => by have := g4 w hw; omega, by simp only [Za3, List.take_zero, List.foldl_nil]; omega⟩, (g4 _ (List.mem_of_getElem? (Zdp g1 h0 hvn))).2⟩
 | succ i ih =>
  rcases Nat.lt_or_ge i L.length with hi | hi
  ·obtain ⟨s, hs⟩ := Zad hi;rw [ZiT hs];exact ZyY ih.1 ih.2 h0 (hL s (List.mem_of_getElem? hs))
  ·have : Za3 L v σ (i + 1) = Za3 L v σ i := by rw [Za3, Za3, List.take_of_length_le (by omega), List.take_of_length_le hi]
   rw [this]; exact ih
theorem ZlK {n c : Nat} {U : Int} {σ : LS} {ST : Nat → List Stp} (h : ZdZ n U c σ) (hST : ∀ v : Nat, v < n → ZgJ n v (ST v)) :
  ∀ j, j ≤ σ.2.2.length → ZdZ n (U + 16777216 * j) j (Zbm ST σ j) := by
 intro j
 induction j with
 | zero => intro _; obtain ⟨g1, g2, g3, g4, g5⟩ := h; exact ⟨g1, g2, by simp [Zbm], fun w hw => by have := g4 w hw; omega, by simp [Zbm]⟩
 | succ j ih =>
  intro hj;obtain ⟨v, hv⟩ := Zad (show j < σ.2.2.length by omega);have hvb := h.2.2.1 v (List.mem_of_getElem? hv);rw [ZiJ hv];refine Zr0 (Zpm (ih (by omega)) hvb.1 hvb.2 (?_) _).1 (by omega) (Nat.le_refl _);have := hST v.toNat (by omega)
  rwa [show ((v.toNat : Nat) : Int) = v by omega] at this
theorem Zq5 {n : Nat} {σ : LS} {ST : Nat → List Stp} (hn : n ≤ 2048) (h : ZdZ n 0 σ.2.2.length σ) (hq : σ.2.2.length ≤ n) (hST : ∀ v : Nat, v < n → ZgJ n v (ST v)) :
  ∀ k, k ≤ n + 1 → ZdZ n (70437463654400 * k) (Zau ST σ k).2.2.length (Zau ST σ k) ∧ (Zau ST σ k).2.2.length ≤ n * (k + 1) := by
 intro k
 induction k with
 | zero => intro _; exact ⟨by simpa [Zau] using h, by simpa [Zau] using hq⟩
 | succ k ih =>
  intro hk;obtain ⟨h1, h2⟩ := ih (by omega);have h3 := ZlK h1 hST (Zau ST σ k).2.2.length (Nat.le_refl _);have hqk : (Zau ST σ k).2.2.length ≤ 4198400 := by
   have : n * (k + 1) ≤ 2048 * 2050 := Nat.mul_le_mul hn (by omega);omega
  obtain ⟨g1, g2, g3, g4, g5⟩ := h3;have hc : ((Zbm ST (Zau ST σ k) (Zau ST σ k).2.2.length).2.1).count true ≤ n := by rw [← g2]; exact List.count_le_length
  refine ⟨⟨g1, g2, g3, fun w hw => ?_, by simp only [Zau]; omega⟩, ?_⟩
  ·have := g4 w hw; omega
  ·simp only [Zau];have : n * (k + 1 + 1) = n * (k + 1) + n := by rw [Nat.mul_succ]
   omega
def Zds (n : Nat) (st : List Int) (j : Nat) : List Way := (st.take j).foldl (fun W v => W.set v.toNat ZcV) (List.replicate n Zdq)
theorem ZqQ {n : Nat} {st : List Int} {j : Nat} {v : Int} (h : st[j]? = some v) : Zds n st (j + 1) = (Zds n st j).set v.toNat ZcV := Zmn _ h
theorem ZhC (n : Nat) (st : List Int) : ∀ j, (Zds n st j).length = n := by
 intro j;rw [Zds];generalize st.take j = l;have : ∀ (l : List Int) (W : List Way), (l.foldl (fun W v => W.set v.toNat ZcV) W).length = W.length := by
  intro l
  induction l with
  | nil => intro W; rfl
  | cons v l ih => intro W; rw [List.foldl_cons, ih]; simp
 rw [this]; simp
theorem Zyc (n : Nat) (st : List Int) (j : Nat) : ∀ w ∈ Zds n st j, w = Zdq ∨ w = ZcV := by
 rw [Zds];generalize st.take j = l;have : ∀ (l : List Int) (W : List Way), (∀ w ∈ W, w = Zdq ∨ w = ZcV) → ∀ w ∈ l.foldl (fun W v => W.set v.toNat ZcV) W, w = Zdq ∨ w = ZcV := by
  intro l
  induction l with
  | nil => intro W h; exact h
  | cons v l ih =>
   intro W h;rw [List.foldl_cons];refine ih _ fun w hw => ?_
   rcases List.mem_or_eq_of_mem_set hw with hw | rfl
   ·exact h w hw
   ·exact .inr rfl
 exact this l _ fun w hw => .inl (List.eq_of_mem_replicate hw)
def Zas (n : Nat) (st : List Int) : LS := (Zds n st st.length, List.replicate n false, st)
theorem Zns {n : Nat} {st : List Int} (hst : ∀ x ∈ st, 0 ≤ x ∧ x < (n : Int)) : ZdZ n 0 (Zas n st).2.2.length (Zas n st) := by
 refine ⟨ZhC _ _ _, by simp [Zas], hst, fun w hw => ?_, by omega⟩;rcases Zyc _ _ _ w hw with rfl | rfl <;> simp [Zdq, ZcV]
def ZhN (n : Nat) (ST : Nat → List Stp) (st : List Int) : Option Nat := ZbN (fun k => (Zau ST (Zas n st) k).2.2.isEmpty) (n + 2)
def ZbJ (n : Nat) (ST : Nat → List Stp) (st : List Int) : Option (List Way) := (ZhN n ST st).map fun k => (Zau ST (Zas n st) k).1
end Go.Proofs.YtjjbhjnpeenbkaaGreatDoor.Sx
namespace Go.Proofs.YtjjbhjnpeenbkaaGreatDoor.Sx
open Go Go.PS Go.Proofs
set_option maxRecDepth 100000
attribute [local irreducible] Zab wpG Zaa Zaf

theorem ZuU {v : Int} {σ : LS} {s : Stp} (h : ¬ (wAt σ.1 s.1).1 < (wAt σ.1 v).1 + s.2.1) : Za5 v σ s = σ := by rw [Za5, if_neg h]
theorem ZzA {v : Int} {σ : LS} {s : Stp} (h : (wAt σ.1 s.1).1 < (wAt σ.1 v).1 + s.2.1) (hb : bAt σ.2.1 s.1 = true) :
  Za5 v σ s = (σ.1.set s.1.toNat ((wAt σ.1 v).1 + s.2.1, v, s, false), σ.2.1, σ.2.2) := by rw [Za5, if_pos h, if_pos hb]
theorem ZsX {v : Int} {σ : LS} {s : Stp} (h : (wAt σ.1 s.1).1 < (wAt σ.1 v).1 + s.2.1) (hb : bAt σ.2.1 s.1 = false) :
  Za5 v σ s = (σ.1.set s.1.toNat ((wAt σ.1 v).1 + s.2.1, v, s, false), σ.2.1.set s.1.toNat true, σ.2.2 ++ [s.1]) := by
 rw [Za5, if_pos h, if_neg (by rw [hb]; exact Bool.false_ne_true)]
abbrev Zdy (W : List Way) : List D := W.map Zja
abbrev ZlQ (B : List Bool) : List D := B.map D.bool
abbrev intsL (l : List Int) : List D := l.map D.int
def ZdW (n k : Nat) : List Way := (List.range n).map fun u => if u < k then Zdq else Zha
theorem Zio (n k : Nat) : (ZdW n k).length = n := by simp [ZdW]
theorem Zkb {n k u : Nat} (h : u < n) : (ZdW n k)[u]? = some (if u < k then Zdq else Zha) := by simp [ZdW, h]
theorem ZvB (n : Nat) : Zdy (ZdW n 0) = List.replicate n (Zja Zha) := by
 rw [List.eq_replicate_iff];refine ⟨by simp [ZdW], fun b hb => ?_⟩;simp only [ZdW, List.map_map, List.mem_map, Zdy] at hb;obtain ⟨u, _, rfl⟩ := hb;simp
theorem Zsv {n k : Nat} (h : k < n) : (ZdW n k).set k Zdq = ZdW n (k + 1) := by
 refine List.ext_getElem? fun u => ?_
 by_cases hu : u < n
 ·rw [Zkb hu, List.getElem?_set, Zkb hu, Zio];by_cases c : k = u
  ·subst c; rw [if_pos rfl, if_pos h, if_pos (by omega)]
  ·rw [if_neg c];by_cases c2 : u < k
   ·rw [if_pos c2, if_pos (by omega)]
   ·rw [if_neg c2, if_neg (by omega)]
 ·rw [List.getElem?_eq_none (by rw [List.length_set, Zio]; omega), List.getElem?_eq_none (by rw [Zio]; omega)]
theorem Zzt (n : Nat) (st : List Int) : ZdW n n = Zds n st 0 := by
 refine List.ext_getElem? fun u => ?_
 by_cases hu : u < n
 ·rw [Zkb hu, if_pos hu]; simp [Zds, hu]
 ·rw [List.getElem?_eq_none (by rw [Zio]; omega), List.getElem?_eq_none (by rw [ZhC]; omega)]
def Zar (l : List Bd) (f : List Int) (v : Nat) : List Stp := Zd3 l f v l.length
theorem Zs3 {n : Nat} {l : List Bd} {f : List Int}
  (hb : ∀ (k : Nat) b, l[k]? = some b → 0 ≤ b.1 ∧ b.1 < n ∧ 0 ≤ b.2.1 ∧ b.2.1 < n ∧ b.1 ≠ b.2.1 ∧ -16777216 ≤ b.2.2.1 ∧ b.2.2.1 ≤ 16777216) (v : Nat) : ZgJ n v (Zar l f v) := by
 have key : ∀ k, ZgJ n v (Zd3 l f v k) := by
  intro k
  induction k with
  | zero => intro s hs; simp [Zd3, Zbp] at hs
  | succ k ih =>
   intro s hs;simp only [Zd3, Zbp] at hs;rcases List.mem_append.1 hs with hs | hs
   ·exact ih s hs
   ·rw [ZgI] at hs;split at hs
    ·rename_i b hbk;have := hb k b hbk;rcases List.mem_append.1 hs with hs | hs
     ·split at hs
      ·rw [List.mem_singleton.1 hs]; dsimp only; omega
      ·simp at hs
     ·split at hs
      ·rw [List.mem_singleton.1 hs]; dsimp only; omega
      ·simp at hs
    ·simp at hs
 exact key _
theorem Zyh (ST : Nat → List Stp) (σ : LS) : Zbm ST σ 0 = (σ.1, σ.2.1, []) := rfl
theorem ZrS (L : List Stp) (v : Int) (σ : LS) : Za3 L v σ 0 = (σ.1, σ.2.1.set v.toNat false, σ.2.2) := rfl
theorem Zjv (n : Nat) (l : List Bd) (f : List Int) (st : List Int) (hn : n ≤ 2048) (hl : l.length ≤ 4096) (hfl : f.length = l.length)
  (hb : ∀ (k : Nat) b, l[k]? = some b → 0 ≤ b.1 ∧ b.1 < n ∧ 0 ≤ b.2.1 ∧ b.2.1 < n ∧ b.1 ≠ b.2.1 ∧ -16777216 ≤ b.2.2.1 ∧ b.2.2.1 ≤ 16777216)
  (hst : ∀ x ∈ st, 0 ≤ x ∧ x < (n : Int)) (hsn : st.length ≤ n) :
  (∀ W, ZbJ n (Zar l f) st = some W → Zaf Tryz.prog 160 [.d (pD n l f), .d (Zac st)] [(2000, .dead)] (.tup [.ref 2000 7 0 n n, .bool true]) [(2000, .row 7 (Zdy W))]) ∧
  (ZbJ n (Zar l f) st = none → Zaf Tryz.prog 160 [.d (pD n l f), .d (Zac st)] [(2000, .dead)] (.tup [.nilS, .bool false]) [(2000, .dead)]) := by
 have hsteps := ZtA n l f hn hl hfl hb;have hSL : ∀ v : Nat, v < n → ZgJ n v (Zar l f v) := fun v _ => Zs3 hb v
 have hgood := Zq5 hn (Zns hst) hsn hSL;have main : ∀ (r : PV) (ob : Ob), (match ZbJ n (Zar l f) st with | some W => r = .tup [.ref 2000 7 0 n n, .bool true] ∧ ob = .row 7 (Zdy W) | none => r = .tup [.nilS, .bool false] ∧ ob = .dead) →
   Zaf Tryz.prog 160 [.d (pD n l f), .d (Zac st)] [(2000, .dead)] r [(2000, ob)] := by
  intro r ob hro;have hr1 : r.only [2000] 4 = true := by
   revert hro; split <;> (rintro ⟨rfl, rfl⟩; rfl)
  have hr2 : ob.only [2000] = true := by
   revert hro; split <;> (rintro ⟨rfl, rfl⟩; rfl)
  refine Zo1 Tryz.func160 rfl (by decide +kernel) (Nat.le_of_ble_eq_true rfl) rfl (Zbc rfl) hr1 (by simp [hr2]) rfl ?_;intro B X w0;refine kw1 kO kc0 (kc1 hsteps) ?_;refine Zai (fun (k : Nat) => k ≤ n) (fun k => [(0, .d (pD n l f)), (1, .d (Zac st)), (6, .d (.sl (Zg8 n l f))), (7, .ref 27 7 0 n n), (29, .int n), (30, .int k)]) (fun k => [(27, .row 7 (Zdy (ZdW n k)))]) (fun k => n - k) 0 ?_ ?_ ?_
  ·exact Nat.zero_le _
  ·exact kN (kc2 @ZvB @Zha.eq_1) []
  ·intro k hk;have hlen := Zio n k;rcases Nat.lt_or_ge k n with hlt | hge
   ·have hg : (ZdW n k)[k]? = some Zha := by rw [Zkb hlt, if_neg (by omega)]
    have hstp := Zsv hlt
    repeat' first | refine ZaK rfl ?_ | refine ZaF ?_ | refine wR ?_ | (refine ZaM rfl rfl (fun hc => ?_) (fun hc => ?_) <;> try simp only [hcL] at hc) | (refine ZaL _ rfl rfl (fun hc => ?_) (fun hc => ?_) <;> (try simp only [hcL] at hc) <;> try omega) | simp (disch := omega) only [go_sem, simprocAttr, hg, hlen, Zha] | apply And.intro | omega | decide +kernel
    refine ⟨k + 1, ?_, kN (kc3 @hstp.symm @List.map_set.{0,0} @Zdq.eq_1) [], ?_⟩
    ·omega
    ·omega
   ·refine kw1 kP kc0 kc0 ?_;have : k = n := by omega
    subst this;rw [Zzt k st];refine Zai (fun (j : Nat) => j ≤ st.length) (fun j => [(0, .d (pD k l f)), (1, .d (Zac st)), (6, .d (.sl (Zg8 k l f))), (7, .ref 27 7 0 k k), (38, .d (Zac st)), (39, .int st.length), (40, .int j)]) (fun j => [(27, .row 7 (Zdy (Zds k st j)))]) (fun j => st.length - j) 0 ?_ ?_ ?_
    ·exact Nat.zero_le _
    ·exact kN kc0 []
    ·intro j hj;have hlen := ZhC k st j;rcases Nat.lt_or_ge j st.length with hlt | hge2
     ·obtain ⟨x, hx⟩ := Zad hlt;have hxi := hst x (List.mem_of_getElem? hx);have hsu := ZqQ (n := k) hx;obtain ⟨v, rfl⟩ : ∃ v : Nat, x = v := ⟨x.toNat, by omega⟩;have hg : (Zds k st j)[v]? = some (wAt (Zds k st j) v) := Zdp (v := (v : Int)) hlen (by omega) (by omega);rw [Int.toNat_natCast] at hsu;refine kw1 kO (kc3 hx hg hlen) kc0 ?_;refine ⟨j + 1, ?_, kN (kc3 hsu @List.map_set.{0,0} @ZcV.eq_1) [], ?_⟩
      ·omega
      ·omega
     ·refine kw1 kP kc0 kc0 ?_;have : j = st.length := by omega
      subst this;refine Zai (fun (q : Nat) => match q with | k' => k' ≤ k + 1 ∧ ZbN (fun i => (Zau (Zar l f) (Zas k st) i).2.2.isEmpty) k' = none) (fun k' => [(0, .d (pD k l f)), (6, .d (.sl (Zg8 k l f))), (7, .ref 27 7 0 k k), (11, .d (Zac (Zau (Zar l f) (Zas k st) k').2.2)), (12, .ref 55 1 0 k k), (13, .int k')]) (fun k' => [(27, .row 7 (Zdy (Zau (Zar l f) (Zas k st) k').1)), (55, .row 1 (ZlQ (Zau (Zar l f) (Zas k st) k').2.1))]) (fun k' => k + 1 - k') 0 ?_ ?_ ?_
      ·exact ⟨Nat.zero_le _, rfl⟩
      ·exact kN (kc3 @Zau.eq_1 @Zas.eq_1 @List.map_replicate.{0,0}) []
      ·rintro m ⟨hm, hfirst⟩;obtain ⟨hG, hqn⟩ := hgood m hm;have hit : Zau (Zar l f) (Zas k st) (m + 1) = Zbm (Zar l f) (Zau (Zar l f) (Zas k st) m) (Zau (Zar l f) (Zas k st) m).2.2.length := rfl;have hend : (Zau (Zar l f) (Zas k st) m).2.2.isEmpty = true → ZbJ k (Zar l f) st = some (Zau (Zar l f) (Zas k st) m).1 := fun h => by
        rw [ZbJ, ZhN, Zqm (by omega) hfirst h]; rfl
       have hnx : (Zau (Zar l f) (Zas k st) m).2.2.isEmpty = false → ZbN (fun i => (Zau (Zar l f) (Zas k st) i).2.2.isEmpty) (m + 1) = none := fun h => Zob hfirst h
       try dsimp only
       generalize Zau (Zar l f) (Zas k st) m = σ at hG hqn hit hend hnx ⊢;have hq40 : k * (m + 1) ≤ 2048 * 2050 := Nat.mul_le_mul hn (by omega);rcases hem : σ.2.2.isEmpty with _ | _
       ·have hpos : 0 < σ.2.2.length := by
         rcases Nat.eq_zero_or_pos σ.2.2.length with h | h
         ·rw [List.length_eq_zero_iff.1 h] at hem; cases hem
         ·exact h
        rcases Nat.lt_or_ge k m with hbig | hsmall
        ·have e : ZbJ k (Zar l f) st = none := by
          have : m + 1 = k + 2 := by omega
          have h2 := hnx hem;rw [this] at h2;rw [ZbJ, ZhN, h2]; rfl
         rw [e] at hro;obtain ⟨rfl, rfl⟩ := hro;refine kw1 kP kc0 kc0 ?_;refine kR kc0 [(2000, 900)] [(4, .nilS), (5, .bool false)] [(2000, .dead)] ?_;refine ZaF ?_;exact ⟨⟨_, rfl, rfl, rfl, trivial⟩, List.forall_mem_cons.2 ⟨rfl, List.forall_mem_nil _⟩⟩
        ·refine kw1 kP kc0 kc0 ?_;refine Zav _ (ZdU 14 900 1 rfl rfl) ?_;refine Zai (fun (j : Nat) => j ≤ σ.2.2.length) (fun j => [(0, .d (pD k l f)), (6, .d (.sl (Zg8 k l f))), (7, .ref 27 7 0 k k), (12, .ref 55 1 0 k k), (13, .int ((m : Int) + 1)), (14, .ref 900 1 0 (Zbm (Zar l f) σ j).2.2.length (Zbm (Zar l f) σ j).2.2.length), (68, .d (Zac σ.2.2)), (69, .int σ.2.2.length), (70, .int j)]) (fun j => [(27, .row 7 (Zdy (Zbm (Zar l f) σ j).1)), (55, .row 1 (ZlQ (Zbm (Zar l f) σ j).2.1)), (900, .row 1 (intsL (Zbm (Zar l f) σ j).2.2))]) (fun j => σ.2.2.length - j) 0 ?_ ?_ ?_
         ·exact Nat.zero_le _
         ·exact kN (kc1 @Zyh) []
         ·intro j hj;rcases Nat.lt_or_ge j σ.2.2.length with hjl | hjg
          ·obtain ⟨x, hx⟩ := Zad hjl;have hxi := hG.2.2.1 x (List.mem_of_getElem? hx);obtain ⟨v, rfl⟩ : ∃ v : Nat, x = v := ⟨x.toNat, by omega⟩;have hmg := ZlK hG hSL j (by omega);have hin := Zpm hmg (v := (v : Int)) (L := Zar l f v) (by omega) (by omega) (hSL v (by omega));have hms := ZiJ (ST := Zar l f) hx;rw [Int.toNat_natCast] at hms;have hcnt : ∀ τ : LS, ZdZ k (70437463654400 * m + 16777216 * j + 16777216) (j + 1) τ → τ.2.2.length ≤ 4300000 := fun τ h => by
            have h1 := h.2.2.2.2;have h2 : τ.2.1.count true ≤ k := by rw [← h.2.1]; exact List.count_le_length
            omega
           try dsimp only
           generalize Zbm (Zar l f) σ j = μ at hmg hin hms ⊢;have hs := Zju l f v l.length;have hsl : (ZcX l f l.length v) = (Zar l f v).map stD := rfl;have hsr : (List.map (fun v => D.sl (ZcX l f l.length v)) (List.range k))[v]? = some (.sl ((Zar l f v).map stD)) := by simp [show v < k by omega]; rfl
           rw [hsl, List.length_map] at hs;have gb : μ.2.1[v]? = some (bAt μ.2.1 v) := ZlV (v := (v : Int)) hmg.2.1 (by omega) (by omega);have l1 := hmg.1;have l2 := hmg.2.1;refine kw1 kO (kc6 hx gb l1 l2 hsr @List.length_range) kc0 ?_;refine Zai (fun (i : Nat) => i ≤ (Zar l f v).length) (fun i => [(0, .d (pD k l f)), (6, .d (.sl (Zg8 k l f))), (7, .ref 27 7 0 k k), (12, .ref 55 1 0 k k), (13, .int ((m : Int) + 1)), (14, .ref 900 1 0 (Za3 (Zar l f v) v μ i).2.2.length (Za3 (Zar l f v) v μ i).2.2.length), (16, .int v), (68, .d (Zac σ.2.2)), (69, .int σ.2.2.length), (70, .int j), (80, .d (.sl ((Zar l f v).map stD))), (81, .int (Zar l f v).length), (82, .int i)]) (fun i => [(27, .row 7 (Zdy (Za3 (Zar l f v) v μ i).1)), (55, .row 1 (ZlQ (Za3 (Zar l f v) v μ i).2.1)), (900, .row 1 (intsL (Za3 (Zar l f v) v μ i).2.2))]) (fun i => (Zar l f v).length - i) 0 ?_ ?_ ?_
           ·exact Nat.zero_le _
           ·exact kN (kc3 @ZrS @List.map_set.{0,0} @Int.toNat_natCast) []
           ·intro i hi;rcases Nat.lt_or_ge i (Zar l f v).length with hil | hig
            ·obtain ⟨s, hs2⟩ := Zad hil;obtain ⟨hgi, hvi⟩ := hin i;have hsi := hSL v (by omega) s (List.mem_of_getElem? hs2);have hns := ZiT (v := (v : Int)) (σ := μ) hs2;have hlq := hcnt _ hgi
             try dsimp only
             generalize Za3 (Zar l f v) v μ i = τ at hgi hvi hns hlq ⊢;obtain ⟨W, Bs, q⟩ := τ;obtain ⟨to, len, bd, bk⟩ := s;obtain ⟨u, rfl⟩ : ∃ u : Nat, to = u := ⟨to.toNat, by have := hsi.1; dsimp only at this; omega⟩;dsimp only at hsi hvi hlq hns;have g1 : W.length = k := hgi.1;have g2 : Bs.length = k := hgi.2.1;have gv : W[v]? = some (wAt W v) := Zdp (v := (v : Int)) g1 (by omega) (by omega);have gu : W[u]? = some (wAt W u) := Zdp (v := (u : Int)) g1 (by omega) (by omega);have gbu : Bs[u]? = some (bAt Bs u) := ZlV (v := (u : Int)) g2 (by omega) (by omega);have bv := hgi.2.2.2.1 _ (List.mem_of_getElem? gv);have bu := hgi.2.2.2.1 _ (List.mem_of_getElem? gu);have htk : (List.map D.int q).take q.length = List.map D.int q := Zat _ _;rcases Decidable.em ((wAt W u).1 < (wAt W v).1 + len) with hlt | hlt
             ·rcases hbu : bAt Bs u with _ | _
              ·rw [ZsX hlt hbu] at hns;rw [hbu] at gbu;dsimp only at hns;rw [Int.toNat_natCast] at hns;refine kw1 kO (kc8 hs2 gv gu gbu g1 g2 htk @List.length_set.{0}) kc0 ?_;refine ⟨i + 1, ?_, kN (kc4 hns @List.map_set.{0,0} @List.map_append.{0,0} @List.length_append.{0}) [(900, 124)], ?_⟩
               ·omega
               ·omega
              ·rw [ZzA hlt hbu] at hns;rw [hbu] at gbu;dsimp only at hns;rw [Int.toNat_natCast] at hns;refine kw1 kO (kc8 hs2 gv gu gbu g1 g2 htk @List.length_set.{0}) kc0 ?_;refine ⟨i + 1, ?_, kN (kc2 hns @List.map_set.{0,0}) [], ?_⟩
               ·omega
               ·omega
             ·rw [ZuU hlt] at hns;refine kw1 kO (kc8 hs2 gv gu gbu g1 g2 htk @List.length_set.{0}) kc0 ?_;refine ⟨i + 1, ?_, kN (kc2 hns @List.map_set.{0,0}) [], ?_⟩
              ·omega
              ·omega
            ·have : i = (Zar l f v).length := by omega
             subst this;refine kw1 kO kc0 kc0 ?_;refine ⟨j + 1, ?_, kN (kc1 hms) [], ?_⟩
             ·omega
             ·omega
          ·have : j = σ.2.2.length := by omega
           subst this;have hmg := ZlK hG hSL σ.2.2.length (Nat.le_refl _);rw [← hit] at hmg;have hnx := hnx hem
           try dsimp only
           rw [← hit];generalize hnext : Zau (Zar l f) (Zas k st) (m + 1) = τ at hmg ⊢;refine Zav _ (Zc5 900 1 _ rfl (ZcR _ rfl) (by decide)) ?_;refine kw1 kO (kc2 @List.drop_zero.{0} @Zat) kc0 ?_;refine ⟨m + 1, ?_, kN (kc5 @hnext @List.drop_zero.{0} @Zat @Int.natCast_add @Int.natCast_one) [], ?_⟩
           ·exact ⟨by omega, hnx⟩
           ·omega
       ·have e := hend hem;have h0 : σ.2.2.length = 0 := by
         rw [List.isEmpty_iff] at hem; rw [hem]; rfl
        rw [e] at hro;obtain ⟨rfl, rfl⟩ := hro;refine kw1 kP (kc1 h0) kc0 ?_;refine kR kc0 [(2000, 27)] [(4, .ref 2000 7 0 _ _), (5, .bool true)] [(2000, .row 7 _)] ?_;refine ZaF ?_;exact ⟨⟨_, rfl, rfl, rfl, trivial⟩, List.forall_mem_cons.2 ⟨rfl, List.forall_mem_nil _⟩⟩
 refine ⟨fun W hW => main _ _ (by rw [hW]; exact ⟨rfl, rfl⟩), fun hN => main _ _ (by rw [hN]; exact ⟨rfl, rfl⟩)⟩
def Zap (W : List Way) (v : Int) : Nat → Int
 | 0 => v
 | k + 1 => (wAt W (Zap W v k)).2.1
def ZaJ (W : List Way) (v : Int) (k : Nat) : Stp := (wAt W (Zap W v k)).2.2.1
def ZcF (W : List Way) (f : List Int) (m0 v : Int) : Nat → Int
 | 0 => m0
 | k + 1 => if (ZaJ W v k).2.2.2 then min (ZcF W f m0 v k) (at0 f (ZaJ W v k).2.2.1) else ZcF W f m0 v k
def ZbC (W : List Way) (f : List Int) (m v : Int) : Nat → List Int
 | 0 => f
 | k + 1 => (ZbC W f m v k).set (ZaJ W v k).2.2.1.toNat (at0 (ZbC W f m v k) (ZaJ W v k).2.2.1 + (if (ZaJ W v k).2.2.2 then -m else m))
theorem Zev (W : List Way) (v : Int) (k : Nat) : Zap W v (k + 1) = (wAt W (Zap W v k)).2.1 := rfl
theorem ZlR (W : List Way) (f : List Int) (m0 v : Int) (k : Nat) : ZcF W f m0 v (k + 1) = if (ZaJ W v k).2.2.2 then min (ZcF W f m0 v k) (at0 f (ZaJ W v k).2.2.1) else ZcF W f m0 v k := rfl
theorem Zmg (W : List Way) (f : List Int) (m v : Int) (k : Nat) : ZbC W f m v (k + 1) = (ZbC W f m v k).set (ZaJ W v k).2.2.1.toNat (at0 (ZbC W f m v k) (ZaJ W v k).2.2.1 + (if (ZaJ W v k).2.2.2 then -m else m)) := rfl
def Zd2 (W : List Way) (f nd : List Int) (t : Int) (K : Nat) : Int := min (ZcF W f (at0 nd t) t K) (-(at0 nd (Zap W t K)))
theorem Zl2 (W : List Way) (f nd : List Int) (t : Int) (K : Nat) : Zd2 W f nd t K = min (ZcF W f (at0 nd t) t K) (-(at0 nd (Zap W t K))) := rfl
theorem ZgC (W : List Way) (f : List Int) (m v : Int) : ∀ k, (ZbC W f m v k).length = f.length
 | 0 => rfl
 | k + 1 => by simp [ZbC, ZgC W f m v k]
theorem Zqy {W : List Way} {f : List Int} {m v F M : Int} (hf : ZbR f F) (hM : 0 ≤ M) (hm : -M ≤ m ∧ m ≤ M) : ∀ k : Nat, ZbR (ZbC W f m v k) (F + M * k)
 | 0 => by simpa [ZbC] using hf
 | k + 1 => by
  have ih := Zqy (W := W) (v := v) hf hM hm k;have h1 := ih (ZaJ W v k).2.2.1;have e : F + M * ((k + 1 : Nat) : Int) = F + M * k + M := by rw [Int.natCast_add, Int.natCast_one, Int.mul_add, Int.mul_one, Int.add_assoc]
  rw [e, ZbC];refine ZkF (ZeS ih (by omega)) ?_ ?_ <;> split <;> omega
theorem ZmG {W : List Way} {f : List Int} {m0 v F : Int} (hf : ZbR f F) (hm : -F ≤ m0 ∧ m0 ≤ F) : ∀ k : Nat, -F ≤ ZcF W f m0 v k ∧ ZcF W f m0 v k ≤ F
 | 0 => by simpa [ZcF] using hm
 | k + 1 => by
  have ih := ZmG (W := W) (v := v) hf hm k;have h1 := hf (ZaJ W v k).2.2.1;rw [ZcF]; split <;> omega
def ZkQ (n m : Nat) (W : List Way) : Prop := W.length = n ∧ ∀ w ∈ W, 0 ≤ w.2.1 ∧ w.2.1 < (n : Int) ∧ 0 ≤ w.2.2.1.2.2.1 ∧ w.2.2.1.2.2.1 < (m : Int)
theorem Zk5 {n m : Nat} {W : List Way} {v : Int} (hW : ZkQ n m W) (h0 : 0 ≤ v) (hv : v < n) : ∀ k, 0 ≤ Zap W v k ∧ Zap W v k < n
 | 0 => ⟨h0, hv⟩
 | k + 1 => by
  obtain ⟨h1, h2⟩ := Zk5 hW h0 hv k;have := hW.2 _ (List.mem_of_getElem? (Zdp hW.1 h1 h2));exact ⟨this.1, this.2.1⟩
abbrev pM (n : Nat) (l : List Bd) (m : Nat) : Ob := .cells [.int n, .d (Zea l), .ref 1001 1 0 m m]
theorem ZuH (n : Nat) (l : List Bd) (f : List Int) (W : List Way) (t : Int) (nd : List Int) (K : Nat) (hn : n ≤ 2048) (hW : ZkQ n f.length W) (hndl : nd.length = n)
  (ht : 0 ≤ t ∧ t < n) (hK : K ≤ n) (h1 : ∀ j, j < K → (wAt W (Zap W t j)).2.2.2 = false) (h2 : (wAt W (Zap W t K)).2.2.2 = true) (hf : ZbR f 1125899906842624) (hnd : ZbR nd 1125899906842624) :
  Zaf Tryz.prog 213 [.ptr 1000 0 0 0, .d (.sl (Zdy W)), .int t, .ref 1002 1 0 n n] [(1000, pM n l f.length), (1001, .row 1 (intsL f)), (1002, .row 1 (intsL nd))]
   (.tup [.int (Zap W t K), .int (Zd2 W f nd t K)]) [(1000, pM n l f.length), (1001, .row 1 (intsL (ZbC W f (Zd2 W f nd t K) t K))), (1002, .row 1 (intsL nd))] := by
 have hbk := Zk5 hW ht.1 ht.2;have hms := ZmG (W := W) (v := t) (m0 := at0 nd t) hf (hnd t);have hst : ∀ k, ∃ b : Nat, (ZaJ W t k).2.2.1 = b ∧ b < f.length := by
  intro k;have := hW.2 _ (List.mem_of_getElem? (Zdp hW.1 (hbk k).1 (hbk k).2));exact ⟨(ZaJ W t k).2.2.1.toNat, by rw [ZaJ]; omega, by rw [ZaJ]; omega⟩
 refine kM Tryz.func213 ?_;intro B X w0;obtain ⟨t', rfl⟩ : ∃ t' : Nat, t = t' := ⟨t.toNat, by omega⟩;have gnt := ZaW (r := nd) (i := t') (by omega);have hWl := hW.1;refine kw1 kO (kc2 gnt hndl) kc0 ?_;refine Zai (fun (k : Nat) => k ≤ K) (fun k => [(0, .ptr 1000 0 0 0), (1, .d (.sl (Zdy W))), (2, .int t'), (3, .ref 1002 1 0 n n), (10, .int (Zap W t' k)), (11, .int (ZcF W f (at0 nd t') t' k)), (12, .int (Zap W t' k))]) (fun k => [(1000, pM n l f.length), (1001, .row 1 (intsL f)), (1002, .row 1 (intsL nd))]) (fun k => K - k) 0 ?_ ?_ ?_
 ·exact Nat.zero_le _
 ·exact kN (kc2 @Zap.eq_1 @ZcF.eq_1) []
 ·intro k hk;obtain ⟨b, hb1, hb2⟩ := hst k;have gb := ZaW hb2;have hbb := hf b;have hmk := hms k;have hmn := ZlR W f (at0 nd t') t' k;have hbn := Zev W t' k;obtain ⟨hv1, hv2⟩ := hbk k;have hgb : (wAt W (Zap W t' k)).2.2.2 = decide (k = K) := by
   rcases Decidable.em (k = K) with h | h
   ·rw [h, h2]; simp
   ·rw [h1 k (by omega), decide_eq_false h]
  rw [hb1] at hmn;rw [ZaJ] at hb1 hmn;obtain ⟨v, hv⟩ : ∃ v : Nat, Zap W t' k = v := ⟨(Zap W t' k).toNat, by omega⟩;rw [hv] at hv1 hv2 hbn hgb hmn hb1;have gv : W[v]? = some (wAt W v) := Zdp (v := (v : Int)) hWl hv1 hv2;rcases Nat.lt_or_ge k K with hlt | hge
  ·rw [decide_eq_false (show k ≠ K by omega)] at hgb;generalize hw : wAt W v = w at gv hbn hgb hmn hb1;obtain ⟨lg, fr, ⟨s1, s2, s3, s4⟩, bg⟩ := w;dsimp only at hbn hgb hmn hb1;subst hgb;cases s4 with
   | false =>
    rw [if_neg (by decide)] at hmn;refine kw1 kO (kc4 gv hv hWl hb1) kc0 ?_;refine ⟨k + 1, ?_, kN (kc2 hbn hmn) [], ?_⟩
    ·omega
    ·omega
   | true =>
    rw [if_pos rfl] at hmn;refine kw1 kO (kc6 gv hv hWl hb1 gb @Ziq) kc0 ?_;refine ⟨k + 1, ?_, kN (kc2 hbn hmn) [], ?_⟩
    ·omega
    ·omega
  ·have : k = K := by omega
   subst this;rw [decide_eq_true rfl] at hgb;have gnv := ZaW (r := nd) (i := v) (by omega);have hnv := hnd v;have hsm := Zl2 W f nd t' k;rw [hv] at hsm;have hsent := Zqy (W := W) (v := (t' : Int)) (m := Zd2 W f nd t' k) (M := 1125899906842624) hf (by omega) (by omega);have hfr : Zap W t' k = v := hv;refine kw1 kP (kc7 gv hv hWl hgb gnv hndl @Ziq) kc0 ?_;rw [← hsm];generalize Zd2 W f nd t' k = m at hsm hsent ⊢;refine Zai (fun (j : Nat) => j ≤ k) (fun j => [(0, .ptr 1000 0 0 0), (1, .d (.sl (Zdy W))), (10, .int v), (11, .int m), (14, .int (Zap W t' j))]) (fun j => [(1000, pM n l f.length), (1001, .row 1 (intsL (ZbC W f m t' j))), (1002, .row 1 (intsL nd))]) (fun j => k - j) 0 ?_ ?_ ?_
   ·exact Nat.zero_le _
   ·exact kN (kc2 @Zap.eq_1 @ZbC.eq_1) []
   ·intro j hj;obtain ⟨b, hb1, hb2⟩ := hst j;have hsl := ZgC W f m t' j;have gb := ZaW (r := ZbC W f m t' j) (i := b) (by omega);have hbb := hsent j b;have hmn := Zmg W f m t' j;have hbn := Zev W t' j;obtain ⟨hv1, hv2⟩ := hbk j;have hgj : (wAt W (Zap W t' j)).2.2.2 = decide (j = k) := by
     rcases Decidable.em (j = k) with h | h
     ·rw [h, h2]; simp
     ·rw [h1 j (by omega), decide_eq_false h]
    rw [hb1, Int.toNat_natCast] at hmn;rw [ZaJ] at hb1 hmn;obtain ⟨u, hu⟩ : ∃ u : Nat, Zap W t' j = u := ⟨(Zap W t' j).toNat, by omega⟩;rw [hu] at hv1 hv2 hbn hgj hmn hb1;have gu : W[u]? = some (wAt W u) := Zdp (v := (u : Int)) hWl hv1 hv2;rcases Nat.lt_or_ge j k with hlt | hge2
    ·rw [decide_eq_false (show j ≠ k by omega)] at hgj;generalize hw : wAt W u = w at gu hbn hgj hmn hb1;obtain ⟨lg, fr, ⟨s1, s2, s3, s4⟩, bg⟩ := w;dsimp only at hbn hgj hmn hb1;subst hgj;cases s4 with
     | false =>
      rw [if_neg (by decide)] at hmn;refine kw1 kO (kc6 gu hu hWl hb1 gb hsl) kc0 ?_;refine ⟨j + 1, ?_, kN (kc3 hbn hmn @List.map_set.{0,0}) [], ?_⟩
      ·omega
      ·omega
     | true =>
      rw [if_pos rfl] at hmn;refine kw1 kO (kc6 gu hu hWl hb1 gb hsl) kc0 ?_;refine ⟨j + 1, ?_, kN (kc4 hbn hmn @List.map_set.{0,0} @Int.sub_eq_add_neg) [], ?_⟩
      ·omega
      ·omega
    ·have : j = k := by omega
     subst this;rw [decide_eq_true rfl] at hgj;refine kw1 kP (kc4 gu hu hWl hgj) kc0 ?_;refine ZaF ?_;exact ⟨⟨_, rfl, rfl, rfl, trivial⟩, List.forall_mem_cons.2 ⟨rfl, List.forall_mem_cons.2 ⟨rfl, List.forall_mem_cons.2 ⟨rfl, List.forall_mem_nil _⟩⟩⟩⟩
def Zgc (nd : List Int) (v : Nat) : List Int := if at0 nd v < 0 then [(v : Int)] else []
def ZbK (nd : List Int) (k : Nat) : List Int := Zbp (Zgc nd) k
def ZaP (W : List Way) (nd : List Int) : Nat → Int
 | 0 => -1
 | k + 1 => if 0 < at0 nd k ∧ -576460752303423488 < (wAt W k).1 ∧ (ZaP W nd k < 0 ∨ (wAt W (ZaP W nd k)).1 < (wAt W k).1) then k else ZaP W nd k
def Zm5 (W : List Way) (t : Int) (m : Nat) : Option Nat := ZbN (fun k => (wAt W (Zap W t k)).2.2.2) m
def ZgW (n m : Nat) (W : List Way) : Bool := decide (W.length = n) && W.all fun w => decide (0 ≤ w.2.1 ∧ w.2.1 < (n : Int) ∧ 0 ≤ w.2.2.1.2.2.1 ∧ w.2.2.1.2.2.1 < (m : Int))
def inB (f : List Int) : Bool := f.all fun x => decide (-1125899906842624 ≤ x ∧ x ≤ 1125899906842624)
def ZjT (n : Nat) (l : List Bd) (f nd : List Int) : Option (List Int × List Int) :=
 match ZbJ n (Zar l f) (ZbK nd n) with
 | none => none
 | some W => match Zm5 W (ZaP W nd n) (n + 1) with
  | none => none
  | some K => if (decide (0 ≤ ZaP W nd n) && ZgW n l.length W && inB f && inB nd) = true then
    some (ZbC W f (Zd2 W f nd (ZaP W nd n) K) (ZaP W nd n) K,
     (nd.set (Zap W (ZaP W nd n) K).toNat (at0 nd (Zap W (ZaP W nd n) K) + Zd2 W f nd (ZaP W nd n) K)).set (ZaP W nd n).toNat
      (at0 (nd.set (Zap W (ZaP W nd n) K).toNat (at0 nd (Zap W (ZaP W nd n) K) + Zd2 W f nd (ZaP W nd n) K)) (ZaP W nd n) - Zd2 W f nd (ZaP W nd n) K)) else none
def ZeM (n : Nat) (l : List Bd) : Nat → List Int → List Int → Option (List Int)
 | 0, _, _ => none
 | r + 1, f, nd => if (ZbK nd n).isEmpty then some f else match ZjT n l f nd with
  | none => none
  | some s => ZeM n l r s.1 s.2
theorem Zi9 {f : List Int} (h : inB f = true) : ZbR f 1125899906842624 := by
 intro v;rw [at0];cases hx : f[v.toNat]? with
 | none => simp
 | some x =>
  simp only [inB, List.all_eq_true, decide_eq_true_eq] at h;exact h x (List.mem_of_getElem? hx)
theorem Zze {n m : Nat} {W : List Way} (h : ZgW n m W = true) : ZkQ n m W := by
 simp only [ZgW, Bool.and_eq_true, decide_eq_true_eq, List.all_eq_true] at h;exact h
theorem ZlT {p : Nat → Bool} : ∀ {m k : Nat}, ZbN p m = some k → k < m ∧ p k = true ∧ ∀ j, j < k → p j = false := by
 intro m
 induction m with
 | zero => intro k h; simp [ZbN] at h
 | succ m ih =>
  intro k h;rw [ZbN] at h;cases hm : ZbN p m with
  | some j =>
   rw [hm] at h;simp only [Option.some.injEq] at h;subst h;obtain ⟨h1, h2, h3⟩ := ih hm;exact ⟨by omega, h2, h3⟩
  | none =>
   rw [hm] at h;have hno : ∀ j, j < m → p j = false := by
    intro j hj;cases hp : p j with
    | false => rfl
    | true =>
     exfalso;have key : ∀ m, j < m → ZbN p m ≠ none := by
      intro m
      induction m with
      | zero => intro h; omega
      | succ m ih2 =>
       intro hjm hn;rw [ZbN] at hn;cases hq : ZbN p m with
       | some i => rw [hq] at hn; simp at hn
       | none =>
        rw [hq] at hn;rcases Nat.lt_or_ge j m with h | h
        ·exact ih2 h hq
        ·have : j = m := by omega
         subst this;simp [hp] at hn
     exact key m hj hm
   by_cases hp : p m = true
   ·simp [hp] at h; subst h; exact ⟨by omega, hp, hno⟩
   ·simp [hp] at h
theorem ZhY (nd : List Int) : ∀ k, (∀ x ∈ ZbK nd k, 0 ≤ x ∧ x < (k : Int)) ∧ (ZbK nd k).length ≤ k
 | 0 => by simp [ZbK, Zbp]
 | k + 1 => by
  obtain ⟨h1, h2⟩ := ZhY nd k;simp only [ZbK, Zbp] at h1 h2 ⊢;refine ⟨fun x hx => ?_, ?_⟩
  ·rcases List.mem_append.1 hx with hx | hx
   ·have := h1 x hx; omega
   ·rw [Zgc] at hx; split at hx
    ·rw [List.mem_singleton.1 hx]; omega
    ·simp at hx
  ·rw [List.length_append, Zgc]; split <;> simp <;> omega
theorem Zjn (W : List Way) (nd : List Int) : ∀ k, ZaP W nd k < (k : Int) ∧ -1 ≤ ZaP W nd k
 | 0 => by simp [ZaP]
 | k + 1 => by
  have := Zjn W nd k;rw [ZaP]; split <;> omega
theorem ZwO (n : Nat) (l : List Bd) (f0 f1 : List Int) (R : Nat) (hg : nOk (n, l) = true) (hfl : f0.length = l.length) (hc : ZeM n l R f0 (Zbw l n l.length) = some f1) :
  Zaf Tryz.prog 162 [.ptr 1000 0 0 0] [(1000, pM n l l.length), (1001, .row 1 (intsL f0))] (.tup []) [(1000, pM n l l.length), (1001, .row 1 (intsL f1))] := by
 obtain ⟨h1, h2, h3, h4⟩ := Zgx hg;dsimp only at h1 h2 h3 h4;have hneed := Zsz n l f0 hg;have hnl := Zht l n l.length;generalize Zbw l n l.length = nd0 at hc hneed hnl;refine kM Tryz.func162 ?_;intro B X w0;have htk0 : (f0.map D.int).take l.length = f0.map D.int := by rw [← hfl]; exact Zat _ _
 repeat' first | refine ZaK rfl ?_ | refine ZaF ?_ | refine wR ?_ | (refine Zfv [(2000, 14)] (hneed) rfl rfl rfl rfl rfl rfl (Zbc rfl) ?_ ?_ ?_ ?_ rfl ?_; (· (repeat' first | exact fmn | refine fmc ⟨⟨nofun, fun h => by first | rfl | (simp at h; done)⟩, ?_⟩)); (· (refine ⟨rfl, ?_, ?_⟩ <;> (repeat' first | exact fmn | refine fmc ⟨?_, ?_⟩ | exact trivial | exact Zft _ | exact ZfC _ (fun _ => rfl) _ | (intro d hd c hc; simp [D.flat, D.cells] at *)))); (· (repeat' first | exact trivial | refine ⟨.inl rfl, ?_⟩ | refine ⟨.inr ⟨_, rfl, rfl, .inr trivial⟩, ?_⟩ | refine ⟨.inr ⟨_, rfl, (by simp (disch := omega) only [go_sem, simprocAttr, hfl, htk0, List.drop_zero]; done), .inr trivial⟩, ?_⟩)); (· (repeat' first | exact fmn | refine fmc ⟨rfl, ?_⟩))) | (refine ZaM rfl rfl (fun hc => ?_) (fun hc => ?_) <;> try simp only [hcL] at hc) | (refine ZaL _ rfl rfl (fun hc => ?_) (fun hc => ?_) <;> (try simp only [hcL] at hc) <;> try omega) | simp (disch := omega) only [go_sem, simprocAttr, hfl, htk0, List.drop_zero] | apply And.intro | omega | decide +kernel
 refine Zai (fun (q : Nat × List Int × List Int) => match q with | ⟨r, f, nd⟩ => ZeM n l r f nd = some f1 ∧ f.length = l.length ∧ nd.length = n) (fun ⟨r, f, nd⟩ => [(0, .ptr 1000 0 0 0), (2, .ref 14 1 0 n n)]) (fun ⟨r, f, nd⟩ => [(1000, pM n l l.length), (1001, .row 1 (intsL f)), (14, .row 1 (intsL nd))]) (fun ⟨r, f, nd⟩ => r) (R, f0, nd0) ?_ ?_ ?_
 ·exact ⟨hc, hfl, hnl⟩
 ·exact kN kc0 []
 ·rintro ⟨r, f, nd⟩ ⟨hcf, hfl, hnl⟩
  try dsimp only
  cases r with
  | zero => rw [ZeM] at hcf; cases hcf
  | succ r =>
   rw [ZeM] at hcf;refine kw1 kO kc0 kc0 ?_;refine Zav _ (ZdU 3 900 1 rfl rfl) ?_;refine Zai (fun (i : Nat) => i ≤ n) (fun i => [(0, .ptr 1000 0 0 0), (2, .ref 14 1 0 n n), (3, .ref 900 1 0 (ZbK nd i).length (ZbK nd i).length), (15, .ref 14 1 0 n n), (16, .int n), (17, .int i)]) (fun i => [(1000, pM n l l.length), (1001, .row 1 (intsL f)), (14, .row 1 (intsL nd)), (900, .row 1 (intsL (ZbK nd i)))]) (fun i => n - i) 0 ?_ ?_ ?_
   ·exact Nat.zero_le _
   ·exact kN kc0 []
   ·intro i hi;rcases Nat.lt_or_ge i n with hin | hin
    ·have gi := ZaW (r := nd) (i := i) (by omega);have hns : ZbK nd (i + 1) = ZbK nd i ++ Zgc nd i := rfl;have hnl2 := (ZhY nd i).2;rcases Decidable.em (at0 nd i < 0) with hneg | hneg
     ·rw [Zgc, if_pos hneg] at hns;refine kw1 kO (kc3 gi hnl @Zat) kc0 ?_;refine ⟨i + 1, ?_, kN (kc3 hns @List.map_append.{0,0} @List.length_append.{0}) [(900, 27)], ?_⟩
      ·omega
      ·omega
     ·rw [Zgc, if_neg hneg, List.append_nil] at hns;refine kw1 kO (kc3 gi hnl @Zat) kc0 ?_;refine ⟨i + 1, ?_, kN (kc1 hns) [], ?_⟩
      ·omega
      ·omega
    ·have : i = n := by omega
     subst this;obtain ⟨hs1, hs2⟩ := ZhY nd i;refine Zav _ (Zc5 900 1 _ rfl (ZcR _ rfl) (by decide)) ?_;rcases hem : (ZbK nd i).isEmpty with _ | _
     ·rw [hem] at hcf;rw [if_neg (by decide), ZjT] at hcf;have hpos : 0 < (ZbK nd i).length := by
       rcases Nat.eq_zero_or_pos (ZbK nd i).length with h | h
       ·rw [List.length_eq_zero_iff.1 h] at hem; cases hem
       ·exact h
      have hlong := (Zjv i l f (ZbK nd i) (by omega) (by omega) hfl (fun k b hb => by have := h4 k b hb; omega) hs1 hs2).1;cases hW : ZbJ i (Zar l f) (ZbK nd i) with
      | none => rw [hW] at hcf; cases hcf
      | some W =>
       rw [hW] at hcf;have hlong := hlong W hW;dsimp only at hcf;cases hK : Zm5 W (ZaP W nd i) (i + 1) with
       | none => rw [hK] at hcf; cases hcf
       | some K =>
        rw [hK] at hcf;dsimp only at hcf;by_cases hcond : (decide (0 ≤ ZaP W nd i) && ZgW i l.length W && inB f && inB nd) = true
        ·rw [if_pos hcond] at hcf;dsimp only at hcf;simp only [Bool.and_eq_true, decide_eq_true_eq] at hcond;obtain ⟨⟨⟨c1, c2⟩, c3⟩, c4⟩ := hcond;obtain ⟨k1, k2, k3⟩ := ZlT hK;have hWI := Zze c2;have hpk := Zjn W nd i;have hsend := ZuH i l f W (ZaP W nd i) nd K (by omega) (hfl ▸ hWI) hnl ⟨c1, hpk.1⟩ (by omega) k3 k2 (Zi9 c3) (Zi9 c4);rw [hfl] at hsend;have hnw := Zi9 c4;have hmm := ZmG (W := W) (v := ZaP W nd i) (m0 := at0 nd (ZaP W nd i)) (Zi9 c3) (hnw _) K;have hsl := ZgC W f (Zd2 W f nd (ZaP W nd i) K) (ZaP W nd i) K;have hbk := Zk5 hWI c1 hpk.1 K;have hWl := hWI.1;have htkf : (f.map D.int).take l.length = f.map D.int := by rw [← hfl]; exact Zat _ _
         repeat' first | refine ZaK rfl ?_ | refine ZaF ?_ | refine wR ?_ | (refine Zfv [(2000, 35)] (hlong) rfl rfl rfl rfl rfl rfl (Zbc rfl) ?_ ?_ ?_ ?_ rfl ?_; (· (repeat' first | exact fmn | refine fmc ⟨⟨nofun, fun h => by first | rfl | (simp at h; done)⟩, ?_⟩)); (· (refine ⟨rfl, ?_, ?_⟩ <;> (repeat' first | exact fmn | refine fmc ⟨?_, ?_⟩ | exact trivial | exact Zft _ | exact ZfC _ (fun _ => rfl) _ | (intro d hd c hc; simp [D.flat, D.cells] at *)))); (· (repeat' first | exact trivial | refine ⟨.inl rfl, ?_⟩ | refine ⟨.inr ⟨_, rfl, rfl, .inr trivial⟩, ?_⟩ | refine ⟨.inr ⟨_, rfl, (by simp (disch := omega) only [go_sem, simprocAttr, hfl, hnl, htkf, Zat, List.drop_zero]; done), .inr trivial⟩, ?_⟩)); (· (repeat' first | exact fmn | refine fmc ⟨rfl, ?_⟩))) | (refine ZaM rfl rfl (fun hc => ?_) (fun hc => ?_) <;> try simp only [hcL] at hc) | (refine ZaL _ rfl rfl (fun hc => ?_) (fun hc => ?_) <;> (try simp only [hcL] at hc) <;> try omega) | simp (disch := omega) only [go_sem, simprocAttr, hfl, hnl, htkf, Zat, List.drop_zero] | apply And.intro | omega | decide +kernel
         refine Zai (fun (u : Nat) => u ≤ i) (fun u => [(0, .ptr 1000 0 0 0), (2, .ref 14 1 0 i i), (6, .ref 35 7 0 i i), (8, .int (ZaP W nd u)), (38, .ref 14 1 0 i i), (39, .int i), (40, .int u)]) (fun u => [(1000, pM i l l.length), (1001, .row 1 (intsL f)), (14, .row 1 (intsL nd)), (35, .row 7 (Zdy W))]) (fun u => i - u) 0 ?_ ?_ ?_
         ·exact Nat.zero_le _
         ·exact kN kc0 []
         ·intro u hu;rcases Nat.lt_or_ge u i with hui | hui
          ·have gn := ZaW (r := nd) (i := u) (by omega);have gw : W[u]? = some (wAt W u) := Zdp (v := (u : Int)) hWl (by omega) (by omega);obtain ⟨q1, q2⟩ := Zjn W nd u;have hps : ZaP W nd (u + 1) = if 0 < at0 nd u ∧ -576460752303423488 < (wAt W u).1 ∧ (ZaP W nd u < 0 ∨ (wAt W (ZaP W nd u)).1 < (wAt W u).1) then (u : Int) else ZaP W nd u := rfl
           generalize ZaP W nd u = p at q1 q2 hps ⊢;rcases Int.lt_or_le p 0 with hp | hp
           ·rcases Decidable.em (0 < at0 nd u ∧ -576460752303423488 < (wAt W u).1) with hq | hq
            ·rw [if_pos ⟨hq.1, hq.2, .inl hp⟩] at hps;refine kw1 kO (kc4 gn gw hWl hnl) kc0 ?_
             all_goals
              refine ⟨u + 1, ?_, kN (kc1 hps) [], ?_⟩
              ·omega
              ·omega
            ·rw [if_neg (by omega)] at hps;refine kw kO (kc4 gn gw hWl hnl) kc0 ?_
             repeat' first | exact True.intro | refine Bn.mk ?_ ?_ | intro hc
             all_goals
              refine ⟨u + 1, ?_, kN (kc1 hps) [], ?_⟩
              ·omega
              ·omega
           ·obtain ⟨p', rfl⟩ : ∃ p' : Nat, p = p' := ⟨p.toNat, by omega⟩;have gp : W[p']? = some (wAt W p') := Zdp (v := (p' : Int)) hWl (by omega) (by omega);rcases Decidable.em (0 < at0 nd u ∧ -576460752303423488 < (wAt W u).1 ∧ (wAt W p').1 < (wAt W u).1) with hq | hq
            ·rw [if_pos ⟨hq.1, hq.2.1, .inr hq.2.2⟩] at hps;refine kw1 kO (kc5 gn gw gp hWl hnl) kc0 ?_
             all_goals
              refine ⟨u + 1, ?_, kN (kc1 hps) [], ?_⟩
              ·omega
              ·omega
            ·rw [if_neg (by omega)] at hps;refine kw kO (kc5 gn gw gp hWl hnl) kc0 ?_
             repeat' first | exact True.intro | refine Bn.mk ?_ ?_ | intro hc
             all_goals
              refine ⟨u + 1, ?_, kN (kc1 hps) [], ?_⟩
              ·omega
              ·omega
          ·have : u = i := by omega
           subst this;refine Zav _ (Zc5 35 7 _ rfl (ZcR _ rfl) (by decide)) ?_;have htkw : (W.map Zja).take u = W.map Zja := by rw [← hWl]; exact Zat _ _
           have hsm := Zl2 W f nd (ZaP W nd u) K;obtain ⟨p, hp⟩ : ∃ p : Nat, ZaP W nd u = p := ⟨(ZaP W nd u).toNat, by omega⟩;obtain ⟨s, hs⟩ : ∃ s : Nat, Zap W (ZaP W nd u) K = s := ⟨(Zap W (ZaP W nd u) K).toNat, by omega⟩;rw [hs] at hsend hcf hbk hsm;rw [hp] at hsend hcf hpk hsm hmm;rw [Int.toNat_natCast, Int.toNat_natCast] at hcf;have gs := ZaW (r := nd) (i := s) (by omega);have gp := ZaW (r := nd) (i := p) (by omega);have ns := hnw s;have np := hnw p;generalize Zd2 W f nd p K = m at hsend hcf hsm;have gq : ((List.map D.int nd).set s (D.sc (.int .i64 (at0 nd s + m))))[p]? = some (D.int (at0 (nd.set s (at0 nd s + m)) p)) := by
            rw [← List.map_set, List.getElem?_map, ZaW (by rw [List.length_set]; omega)]; rfl
           have hq2 : -2251799813685248 ≤ at0 (nd.set s (at0 nd s + m)) p ∧ at0 (nd.set s (at0 nd s + m)) p ≤ 2251799813685248 := by
            rw [ZgM _ _ _ _ (by omega)]; split <;> omega
           refine kw1 kO (kc8 hp hfl hnl hWl htkw @List.drop_zero.{0} gs (kc2 gq @List.length_set.{0})) (kc1 (kmc [(1000, 1000), (1001, 1001), (1002, 14)] hsend)) ?_;refine ⟨(r, ZbC W f m p K, (nd.set s (at0 nd s + m)).set p (at0 (nd.set s (at0 nd s + m)) p - m)), ?_, kN (kc1 @List.map_set.{0,0}) [], ?_⟩
           ·exact ⟨hcf, by rw [ZgC, hfl], by rw [List.length_set, List.length_set, hnl]⟩
           ·show r < r + 1;omega
        ·rw [if_neg hcond] at hcf; cases hcf
     ·rw [hem, if_pos rfl] at hcf;cases hcf;have h0 : (ZbK nd i).length = 0 := by
       rw [List.isEmpty_iff] at hem; rw [hem]; rfl
      refine kw1 kP (kc1 h0) kc0 ?_;refine ZaF ?_;exact ⟨⟨_, rfl, trivial⟩, List.forall_mem_cons.2 ⟨rfl, List.forall_mem_cons.2 ⟨rfl, List.forall_mem_nil _⟩⟩⟩
def zeros (l : List Bd) : List Int := List.replicate l.length 0
theorem ZjN (n : Nat) : (∀ x ∈ ZbE n, 0 ≤ x ∧ x < (n : Int)) ∧ (ZbE n).length = n := by
 refine ⟨fun x hx => ?_, by simp [ZbE]⟩;obtain ⟨u, hu, rfl⟩ := List.mem_map.1 hx;have := List.mem_range.1 hu;omega
theorem ZpW (n : Nat) (l : List Bd) : pD n l (zeros l) = .pt [.int n, Zea l, .sl (List.replicate l.length (D.sc (.int .i64 0)))] := by simp [pD, zeros]
theorem ZyN (n : Nat) (l : List Bd) (hg : nOk (n, l) = true) (hno : ZbJ n (Zar l (zeros l)) (ZbE n) = none) :
  Zaf Tryz.prog 96 [.d (nD (n, l))] [(2000, .dead), (2001, .dead)] (.tup [.nilS, .nilS, .int 9]) [(2000, .dead), (2001, .dead)] := by
 have hv : Zaa Tryz.prog 159 [nD (n, l)] (.bool true) := hg ▸ ZfA (n, l);obtain ⟨h1, h2, h3, h4⟩ := Zgx hg;dsimp only at h1 h2 h3 h4;obtain ⟨a1, a2⟩ := ZjN n;have hall := Zl3 n l (zeros l) (by omega);have hlong := (Zjv n l (zeros l) (ZbE n) (by omega) (by omega) (by simp [zeros]) (fun k b hb => by have := h4 k b hb; omega) a1 (by omega)).2 hno;have htk : (List.replicate l.length (D.sc (.int .i64 0))).take l.length = List.replicate l.length (D.sc (.int .i64 0)) := List.take_of_length_le (by simp);have htk2 : ((ZbE n).map D.int).take n = (ZbE n).map D.int := List.take_of_length_le (by simp [a2]);rw [ZpW] at hall hlong;refine kM Tryz.func96 ?_;intro B X w0
 repeat' first | refine ZaK rfl ?_ | refine wR ?_ | (refine rc (hv) rfl ?_ ?_; (· first | rfl | simp (disch := omega) only [go_sem, simprocAttr, htk, htk2, a2, List.drop_zero, List.map_replicate, List.length_replicate])) | (refine Zfv [(2000, 25)] (hall) rfl rfl rfl rfl rfl rfl (Zbc rfl) ?_ ?_ ?_ ?_ rfl ?_; (· (repeat' first | exact fmn | refine fmc ⟨⟨nofun, fun h => by first | rfl | (simp at h; done)⟩, ?_⟩)); (· (refine ⟨rfl, ?_, ?_⟩ <;> (repeat' first | exact fmn | refine fmc ⟨?_, ?_⟩ | exact trivial | exact Zft _ | exact ZfC _ (fun _ => rfl) _ | (intro d hd c hc; simp [D.flat, D.cells] at *)))); (· (repeat' first | exact trivial | refine ⟨.inl rfl, ?_⟩ | refine ⟨.inr ⟨_, rfl, rfl, .inr trivial⟩, ?_⟩ | refine ⟨.inr ⟨_, rfl, (by simp (disch := omega) only [go_sem, simprocAttr, htk, htk2, a2, List.drop_zero, List.map_replicate, List.length_replicate]; done), .inr trivial⟩, ?_⟩)); (· (repeat' first | exact fmn | refine fmc ⟨rfl, ?_⟩))) | (refine Zfv [(2000, 26)] (hlong) rfl rfl rfl rfl rfl rfl (Zbc rfl) ?_ ?_ ?_ ?_ rfl ?_; (· (repeat' first | exact fmn | refine fmc ⟨⟨nofun, fun h => by first | rfl | (simp at h; done)⟩, ?_⟩)); (· (refine ⟨rfl, ?_, ?_⟩ <;> (repeat' first | exact fmn | refine fmc ⟨?_, ?_⟩ | exact trivial | exact Zft _ | exact ZfC _ (fun _ => rfl) _ | (intro d hd c hc; simp [D.flat, D.cells] at *)))); (· (repeat' first | exact trivial | refine ⟨.inl rfl, ?_⟩ | refine ⟨.inr ⟨_, rfl, rfl, .inr trivial⟩, ?_⟩ | refine ⟨.inr ⟨_, rfl, (by simp (disch := omega) only [go_sem, simprocAttr, htk, htk2, a2, List.drop_zero, List.map_replicate, List.length_replicate]; done), .inr trivial⟩, ?_⟩)); (· (repeat' first | exact fmn | refine fmc ⟨rfl, ?_⟩))) | (refine ZaM rfl rfl (fun hc => ?_) (fun hc => ?_) <;> try simp only [hcL] at hc) | (refine ZaL _ rfl rfl (fun hc => ?_) (fun hc => ?_) <;> (try simp only [hcL] at hc) <;> try omega) | simp (disch := omega) only [go_sem, simprocAttr, htk, htk2, a2, List.drop_zero, List.map_replicate, List.length_replicate] | apply And.intro | omega | decide +kernel
 refine ZaF ?_;exact ⟨⟨_, rfl, rfl, rfl, rfl, trivial⟩, List.forall_mem_cons.2 ⟨rfl, List.forall_mem_cons.2 ⟨rfl, List.forall_mem_nil _⟩⟩⟩
def ZdY (W : List Way) : List Int := W.map (·.1)
theorem ZmZ (n : Nat) (l : List Bd) (f : List Int) (R : Nat) (W0 W : List Way) (hg : nOk (n, l) = true) (h0 : ZbJ n (Zar l (zeros l)) (ZbE n) = some W0)
  (hc : ZeM n l R (zeros l) (Zbw l n l.length) = some f) (hfl : f.length = l.length) (hW : ZbJ n (Zar l f) (ZbE n) = some W) (hWl : W.length = n) :
  Zaf Tryz.prog 96 [.d (nD (n, l))] [(2000, .dead), (2001, .dead)] (.tup [.ref 2000 1 0 n n, .ref 2001 1 0 l.length l.length, .int 0]) [(2000, .row 1 (intsL (ZdY W))), (2001, .row 1 (intsL f))] := by
 have hv : Zaa Tryz.prog 159 [nD (n, l)] (.bool true) := hg ▸ ZfA (n, l);obtain ⟨h1, h2, h3, h4⟩ := Zgx hg;dsimp only at h1 h2 h3 h4;obtain ⟨a1, a2⟩ := ZjN n;have hall := Zl3 n l (zeros l) (by omega);have hall2 := Zl3 n l f (by omega);have hlong := (Zjv n l (zeros l) (ZbE n) (by omega) (by omega) (by simp [zeros]) (fun k b hb => by have := h4 k b hb; omega) a1 (by omega)).1 W0 h0;have hlong2 := (Zjv n l f (ZbE n) (by omega) (by omega) hfl (fun k b hb => by have := h4 k b hb; omega) a1 (by omega)).1 W hW;have hcert := ZwO n l (zeros l) f R hg (by simp [zeros]) hc;have htk : (List.replicate l.length (D.sc (.int .i64 0))).take l.length = List.replicate l.length (D.sc (.int .i64 0)) := List.take_of_length_le (by simp);have htk2 : ((ZbE n).map D.int).take n = (ZbE n).map D.int := List.take_of_length_le (by simp [a2]);have htk3 : (f.map D.int).take l.length = f.map D.int := List.take_of_length_le (by simp [hfl]);have hz : intsL (zeros l) = List.replicate l.length (D.sc (.int .i64 0)) := by simp [zeros]
 rw [hz] at hcert;rw [ZpW] at hall hlong;refine kM Tryz.func96 ?_;intro B X w0
 repeat' first | refine ZaK rfl ?_ | refine wR ?_ | (refine rc (hv) rfl ?_ ?_; (· first | rfl | simp (disch := omega) only [go_sem, simprocAttr, htk, htk2, htk3, a2, hfl, List.drop_zero, List.map_replicate, List.length_replicate])) | (refine Zfv [(2000, 25)] (hall) rfl rfl rfl rfl rfl rfl (Zbc rfl) ?_ ?_ ?_ ?_ rfl ?_; (· (repeat' first | exact fmn | refine fmc ⟨⟨nofun, fun h => by first | rfl | (simp at h; done)⟩, ?_⟩)); (· (refine ⟨rfl, ?_, ?_⟩ <;> (repeat' first | exact fmn | refine fmc ⟨?_, ?_⟩ | exact trivial | exact Zft _ | exact ZfC _ (fun _ => rfl) _ | (intro d hd c hc; simp [D.flat, D.cells] at *)))); (· (repeat' first | exact trivial | refine ⟨.inl rfl, ?_⟩ | refine ⟨.inr ⟨_, rfl, rfl, .inr trivial⟩, ?_⟩ | refine ⟨.inr ⟨_, rfl, (by simp (disch := omega) only [go_sem, simprocAttr, htk, htk2, htk3, a2, hfl, List.drop_zero, List.map_replicate, List.length_replicate]; done), .inr trivial⟩, ?_⟩)); (· (repeat' first | exact fmn | refine fmc ⟨rfl, ?_⟩))) | (refine Zfv [(2000, 26)] (hlong) rfl rfl rfl rfl rfl rfl (Zbc rfl) ?_ ?_ ?_ ?_ rfl ?_; (· (repeat' first | exact fmn | refine fmc ⟨⟨nofun, fun h => by first | rfl | (simp at h; done)⟩, ?_⟩)); (· (refine ⟨rfl, ?_, ?_⟩ <;> (repeat' first | exact fmn | refine fmc ⟨?_, ?_⟩ | exact trivial | exact Zft _ | exact ZfC _ (fun _ => rfl) _ | (intro d hd c hc; simp [D.flat, D.cells] at *)))); (· (repeat' first | exact trivial | refine ⟨.inl rfl, ?_⟩ | refine ⟨.inr ⟨_, rfl, rfl, .inr trivial⟩, ?_⟩ | refine ⟨.inr ⟨_, rfl, (by simp (disch := omega) only [go_sem, simprocAttr, htk, htk2, htk3, a2, hfl, List.drop_zero, List.map_replicate, List.length_replicate]; done), .inr trivial⟩, ?_⟩)); (· (repeat' first | exact fmn | refine fmc ⟨rfl, ?_⟩))) | refine rcM [(1000, 21), (1001, 19)] (hcert) rfl ?_ | (refine Zfv [(2000, 36)] (hall2) rfl rfl rfl rfl rfl rfl (Zbc rfl) ?_ ?_ ?_ ?_ rfl ?_; (· (repeat' first | exact fmn | refine fmc ⟨⟨nofun, fun h => by first | rfl | (simp at h; done)⟩, ?_⟩)); (· (refine ⟨rfl, ?_, ?_⟩ <;> (repeat' first | exact fmn | refine fmc ⟨?_, ?_⟩ | exact trivial | exact Zft _ | exact ZfC _ (fun _ => rfl) _ | (intro d hd c hc; simp [D.flat, D.cells] at *)))); (· (repeat' first | exact trivial | refine ⟨.inl rfl, ?_⟩ | refine ⟨.inr ⟨_, rfl, rfl, .inr trivial⟩, ?_⟩ | refine ⟨.inr ⟨_, rfl, (by simp (disch := omega) only [go_sem, simprocAttr, htk, htk2, htk3, a2, hfl, List.drop_zero, List.map_replicate, List.length_replicate]; done), .inr trivial⟩, ?_⟩)); (· (repeat' first | exact fmn | refine fmc ⟨rfl, ?_⟩))) | (refine Zfv [(2000, 37)] (hlong2) rfl rfl rfl rfl rfl rfl (Zbc rfl) ?_ ?_ ?_ ?_ rfl ?_; (· (repeat' first | exact fmn | refine fmc ⟨⟨nofun, fun h => by first | rfl | (simp at h; done)⟩, ?_⟩)); (· (refine ⟨rfl, ?_, ?_⟩ <;> (repeat' first | exact fmn | refine fmc ⟨?_, ?_⟩ | exact trivial | exact Zft _ | exact ZfC _ (fun _ => rfl) _ | (intro d hd c hc; simp [D.flat, D.cells] at *)))); (· (repeat' first | exact trivial | refine ⟨.inl rfl, ?_⟩ | refine ⟨.inr ⟨_, rfl, rfl, .inr trivial⟩, ?_⟩ | refine ⟨.inr ⟨_, rfl, (by simp (disch := omega) only [go_sem, simprocAttr, htk, htk2, htk3, a2, hfl, List.drop_zero, List.map_replicate, List.length_replicate]; done), .inr trivial⟩, ?_⟩)); (· (repeat' first | exact fmn | refine fmc ⟨rfl, ?_⟩))) | (refine ZaM rfl rfl (fun hc => ?_) (fun hc => ?_) <;> try simp only [hcL] at hc) | (refine ZaL _ rfl rfl (fun hc => ?_) (fun hc => ?_) <;> (try simp only [hcL] at hc) <;> try omega) | simp (disch := omega) only [go_sem, simprocAttr, htk, htk2, htk3, a2, hfl, List.drop_zero, List.map_replicate, List.length_replicate] | apply And.intro | omega | decide +kernel
 refine Zai (fun (k : Nat) => k ≤ n) (fun k => [(5, .ptr 21 0 0 0), (8, .ref 37 7 0 n n), (10, .ref 42 1 0 n n), (44, .int n), (45, .int k)]) (fun k => [(21, .cells [.int n, .d (Zea l), .ref 19 1 0 l.length l.length]), (19, .row 1 (intsL f)), (37, .row 7 (Zdy W)), (42, .row 1 ((Za9 (fun v => (wAt W v).1) n k).map D.int))]) (fun k => n - k) 0 ?_ ?_ ?_
 ·exact Nat.zero_le _
 ·exact kN (kc1 @Zix) []
 ·intro k hk;have hlen := Zdj (fun v => (wAt W v).1) n k;rcases Nat.lt_or_ge k n with hlt | hge
  ·have gw : W[k]? = some (wAt W k) := Zdp (v := (k : Int)) hWl (by omega) (by omega);have hst := Zi3 (g := fun v => (wAt W v).1) hlt;have gf : (Za9 (fun v => (wAt W v).1) n k)[k]? = _ := ZeN hlt;refine kw1 kO (kc4 gw gf hWl hlen) kc0 ?_;refine ⟨k + 1, ?_, kN (kc2 @hst.symm @List.map_set.{0,0}) [], ?_⟩
   ·omega
   ·omega
  ·refine kw1 kP kc0 kc0 ?_;have : k = n := by omega
   subst this;have e : Za9 (fun v => (wAt W v).1) k k = ZdY W := by
    rw [ZiM];refine List.ext_getElem? fun u => ?_
    rw [ZdY, List.getElem?_map, List.getElem?_map];rcases Nat.lt_or_ge u k with hu | hu
    ·have gw : W[u]? = some (wAt W u) := Zdp (v := (u : Int)) hWl (by omega) (by omega);rw [gw, List.getElem?_range hu]; rfl
    ·rw [List.getElem?_eq_none (by simpa using hu), List.getElem?_eq_none (by omega)]; rfl
   refine kR kc0 [(2000, 42), (2001, 19)] [(2, .ref 2000 1 0 _ _), (3, .ref 2001 1 0 _ _), (4, .int 0)] [(2000, .row 1 _), (2001, .row 1 _)] ?_;refine ZaF ?_;exact ⟨⟨_, rfl, rfl, rfl, rfl, trivial⟩, List.forall_mem_cons.2 ⟨Zn2 (by rw [e]), List.forall_mem_cons.2 ⟨rfl, List.forall_mem_nil _⟩⟩⟩
def SolveOk (g : Net) (a f : List Int) : Prop := ∃ n : Nat, g.1 = n ∧ a.length = n ∧ f.length = g.2.length ∧
 Zaf Tryz.prog 96 [.d (nD g)] [(2000, .dead), (2001, .dead)] (.tup [.ref 2000 1 0 n n, .ref 2001 1 0 g.2.length g.2.length, .int 0]) [(2000, .row 1 (intsL a)), (2001, .row 1 (intsL f))]
def SolveNo (g : Net) (e : Int) : Prop := Zaf Tryz.prog 96 [.d (nD g)] [(2000, .dead), (2001, .dead)] (.tup [.nilS, .nilS, .int e]) [(2000, .dead), (2001, .dead)]
theorem ZiX (x : Int) : x.fdiv (2 ^ min 1 64) = x / 2 := by
 have : (2 : Int) ^ min 1 64 = 2 := by decide
 rw [this, Int.fdiv_eq_ediv_of_nonneg _ (by decide)]
theorem solve_of (n : Nat) (l : List Bd) (R : Nat) (a f : List Int) (hg : nOk (n, l) = true) (h0 : (ZbJ n (Zar l (zeros l)) (ZbE n)).isSome = true)
  (hc : ZeM n l R (zeros l) (Zbw l n l.length) = some f) (hfl : f.length = l.length) (hW : (ZbJ n (Zar l f) (ZbE n)).map ZdY = some a) (hal : a.length = n) : SolveOk (n, l) a f := by
 obtain ⟨W0, h0⟩ := Option.isSome_iff_exists.1 h0;cases h : ZbJ n (Zar l f) (ZbE n) with
 | none => rw [h] at hW; cases hW
 | some W =>
  rw [h] at hW;simp only [Option.map_some, Option.some.injEq] at hW;subst hW;exact ⟨n, rfl, hal, hfl, ZmZ n l f R W0 W hg h0 hc hfl h (by simpa [ZdY] using hal)⟩
end Go.Proofs.YtjjbhjnpeenbkaaGreatDoor.Sx
