/- Longest ways: what the search does, and ZbY which bounds. -/
import Derived.Test.YtjjbhjnpeenbkaaGreatDoorBaF
set_option linter.unusedSimpArgs false
set_option linter.unusedVariables false
set_option maxHeartbeats 16000000
namespace Go.Proofs.YtjjbhjnpeenbkaaGreatDoor.Sx
open Go Go.PS Go.Proofs

abbrev Way := Int × Int × Stp × Bool
abbrev ZjS (w : Way) : D := .ag [.int w.1, .int w.2.1, .int w.2.2.1.1, .int w.2.2.1.2.1, .int w.2.2.1.2.2.1, .bool w.2.2.1.2.2.2, .bool w.2.2.2]
def Zht : Way := (0, 0, (0, 0, 0, false), false)
def ZdD : Way := (-1152921504606846976, 0, (0, 0, 0, false), false)
def ZcW : Way := (0, 0, (0, 0, 0, false), true)
abbrev LS := List Way × List Bool × List Int
def wAt (W : List Way) (v : Int) : Way := (W[v.toNat]?).getD ZdD
def bAt (B : List Bool) (v : Int) : Bool := (B[v.toNat]?).getD true
def Zbc (v : Int) (σ : LS) (s : Stp) : LS :=
 if (wAt σ.1 s.1).1 < (wAt σ.1 v).1 + s.2.1 then
  (σ.1.set s.1.toNat ((wAt σ.1 v).1 + s.2.1, v, s, false), if bAt σ.2.1 s.1 then σ.2 else (σ.2.1.set s.1.toNat true, σ.2.2 ++ [s.1]))
 else σ
def Za8 (L : List Stp) (v : Int) (σ : LS) (i : Nat) : LS := (L.take i).foldl (Zbc v) (σ.1, σ.2.1.set v.toNat false, σ.2.2)
def Zs5 (ST : Nat → List Stp) (σ : LS) (v : Int) : LS := Za8 (ST v.toNat) v σ (ST v.toNat).length
def Zbq (ST : Nat → List Stp) (σ : LS) (j : Nat) : LS := (σ.2.2.take j).foldl (Zs5 ST) (σ.1, σ.2.1, [])
def Zaw (ST : Nat → List Stp) (σ : LS) : Nat → LS
 | 0 => σ
 | k + 1 => Zbq ST (Zaw ST σ k) (Zaw ST σ k).2.2.length
theorem ZkR {α β : Type} {f : β → α → β} {l : List α} {k : Nat} {x : α} (a : β) (h : l[k]? = some x) : (l.take (k + 1)).foldl f a = f ((l.take k).foldl f a) x := by
 rw [ZaE h, List.foldl_append]; rfl
theorem Zic {L : List Stp} {v : Int} {σ : LS} {i : Nat} {s : Stp} (h : L[i]? = some s) : Za8 L v σ (i + 1) = Zbc v (Za8 L v σ i) s := ZkR _ h
theorem ZiA {ST : Nat → List Stp} {σ : LS} {j : Nat} {v : Int} (h : σ.2.2[j]? = some v) : Zbq ST σ (j + 1) = Za8 (ST v.toNat) v (Zbq ST σ j) (ST v.toNat).length := ZkR _ h

def Zd5 (n : Nat) (U : Int) (c : Nat) (σ : LS) : Prop :=
 σ.1.length = n ∧ σ.2.1.length = n ∧ (∀ x ∈ σ.2.2, 0 ≤ x ∧ x < (n : Int)) ∧ (∀ w ∈ σ.1, -1152921504606846976 ≤ w.1 ∧ w.1 ≤ U) ∧ σ.2.2.length ≤ σ.2.1.count true + c
def ZgY (n : Nat) (v : Int) (L : List Stp) : Prop := ∀ s ∈ L, 0 ≤ s.1 ∧ s.1 < (n : Int) ∧ s.1 ≠ v ∧ -16777216 ≤ s.2.1 ∧ s.2.1 ≤ 16777216
theorem Zr4 (l : List Bool) : ∀ v, l.count true ≤ (l.set v false).count true + 1 := by
 induction l with
 | nil => intro v; simp
 | cons b l ih =>
  intro v
  cases v with
  | zero => cases b <;> simp
  | succ v => have := ih v; cases b <;> simp <;> omega
theorem ZtH (l : List Bool) : ∀ v, l[v]? = some false → (l.set v true).count true = l.count true + 1 := by
 induction l with
 | nil => intro v h; simp at h
 | cons b l ih =>
  intro v h
  cases v with
  | zero => simp at h; subst h; simp
  | succ v => have := ih v (by simpa using h); cases b <;> simp <;> omega
theorem Zds {W : List Way} {v : Int} {n : Nat} (hW : W.length = n) (h1 : 0 ≤ v) (h2 : v < (n : Int)) : W[v.toNat]? = some (wAt W v) := by
 obtain ⟨x, hx⟩ := Zad (show v.toNat < W.length by omega)
 rw [wAt, hx]; rfl
theorem Zm5 {W : List Bool} {v : Int} {n : Nat} (hW : W.length = n) (h1 : 0 ≤ v) (h2 : v < (n : Int)) : W[v.toNat]? = some (bAt W v) := by
 obtain ⟨x, hx⟩ := Zad (show v.toNat < W.length by omega)
 rw [bAt, hx]; rfl
theorem Zf7 {W : List Way} {u v : Int} {x : Way} (h1 : 0 ≤ u) (h2 : 0 ≤ v) (h3 : v.toNat < W.length) : wAt (W.set v.toNat x) u = if u = v then x else wAt W u := by
 rw [wAt, List.getElem?_set]
 by_cases h : u = v
 ·subst h; rw [if_pos rfl, if_pos h3, if_pos rfl]; rfl
 ·rw [if_neg (by omega), if_neg h]; rfl
theorem Zz5 {n c : Nat} {U v : Int} {σ : LS} {s : Stp} (h : Zd5 n (U + 16777216) c σ) (hv : (wAt σ.1 v).1 ≤ U) (h0 : 0 ≤ v) (hs : 0 ≤ s.1 ∧ s.1 < (n : Int) ∧ s.1 ≠ v ∧ -16777216 ≤ s.2.1 ∧ s.2.1 ≤ 16777216) :
  Zd5 n (U + 16777216) c (Zbc v σ s) ∧ (wAt (Zbc v σ s).1 v).1 ≤ U := by
 obtain ⟨g1, g2, g3, g4, g5⟩ := h
 obtain ⟨s1, s2, s3, s4, s5⟩ := hs
 rw [Zbc]
 split
 ·rename_i hlt
  have hold := g4 _ (List.mem_of_getElem? (Zds g1 s1 s2))
  refine ⟨⟨by simp [g1], ?_, ?_, ?_, ?_⟩, ?_⟩
  ·split
   ·exact g2
   ·simp [g2]
  ·split
   ·exact g3
   ·intro x hx
    rcases List.mem_append.1 hx with hx | hx
    ·exact g3 x hx
    ·rw [List.mem_singleton.1 hx]; exact ⟨s1, s2⟩
  ·intro w hw
   rcases List.mem_or_eq_of_mem_set hw with hw | rfl
   ·exact g4 w hw
   ·dsimp only; omega
  ·split
   ·exact g5
   ·rename_i hb
    have hb : bAt σ.2.1 s.1 = false := by simpa using hb
    have := ZtH σ.2.1 s.1.toNat (by rw [Zm5 g2 s1 s2, hb])
    dsimp only
    rw [List.length_append, this, List.length_singleton]; omega
  ·dsimp only
   rw [Zf7 h0 s1 (by omega), if_neg (by omega)]; exact hv
 ·exact ⟨⟨g1, g2, g3, g4, g5⟩, hv⟩
theorem Zzr {n c c' : Nat} {U U' : Int} {σ : LS} (h : Zd5 n U c σ) (hU : U ≤ U') (hc : c ≤ c') : Zd5 n U' c' σ := by
 obtain ⟨g1, g2, g3, g4, g5⟩ := h
 exact ⟨g1, g2, g3, fun w hw => by have := g4 w hw; omega, by omega⟩
theorem ZnT {n c : Nat} {U v : Int} {σ : LS} {L : List Stp} (h : Zd5 n U c σ) (h0 : 0 ≤ v) (hvn : v < (n : Int)) (hL : ZgY n v L) :
  ∀ i, Zd5 n (U + 16777216) (c + 1) (Za8 L v σ i) ∧ (wAt (Za8 L v σ i).1 v).1 ≤ U := by
 intro i
 induction i with
 | zero =>
  obtain ⟨g1, g2, g3, g4, g5⟩ := h
  have := Zr4 σ.2.1 v.toNat
  exact ⟨⟨g1, by simp [Za8, g2], g3, fun w hw => by have := g4 w hw; omega, by simp only [Za8, List.take_zero, List.foldl_nil]; omega⟩, (g4 _ (List.mem_of_getElem? (Zds g1 h0 hvn))).2⟩
 | succ i ih =>
  rcases Nat.lt_or_ge i L.length with hi | hi
  ·obtain ⟨s, hs⟩ := Zad hi
   rw [Zic hs]
   exact Zz5 ih.1 ih.2 h0 (hL s (List.mem_of_getElem? hs))
  ·have : Za8 L v σ (i + 1) = Za8 L v σ i := by rw [Za8, Za8, List.take_of_length_le (by omega), List.take_of_length_le hi]
   rw [this]; exact ih
theorem ZlR {n c : Nat} {U : Int} {σ : LS} {ST : Nat → List Stp} (h : Zd5 n U c σ) (hST : ∀ v : Nat, v < n → ZgY n v (ST v)) :
  ∀ j, j ≤ σ.2.2.length → Zd5 n (U + 16777216 * j) j (Zbq ST σ j) := by
 intro j
 induction j with
 | zero => intro _; obtain ⟨g1, g2, g3, g4, g5⟩ := h; exact ⟨g1, g2, by simp [Zbq], fun w hw => by have := g4 w hw; omega, by simp [Zbq]⟩
 | succ j ih =>
  intro hj
  obtain ⟨v, hv⟩ := Zad (show j < σ.2.2.length by omega)
  have hvb := h.2.2.1 v (List.mem_of_getElem? hv)
  rw [ZiA hv]
  refine Zzr (ZnT (ih (by omega)) hvb.1 hvb.2 (?_) _).1 (by omega) (Nat.le_refl _)
  have := hST v.toNat (by omega)
  rwa [show ((v.toNat : Nat) : Int) = v by omega] at this
theorem Zrv {n : Nat} {σ : LS} {ST : Nat → List Stp} (hn : n ≤ 2048) (h : Zd5 n 0 σ.2.2.length σ) (hq : σ.2.2.length ≤ n) (hST : ∀ v : Nat, v < n → ZgY n v (ST v)) :
  ∀ k, k ≤ n + 1 → Zd5 n (70437463654400 * k) (Zaw ST σ k).2.2.length (Zaw ST σ k) ∧ (Zaw ST σ k).2.2.length ≤ n * (k + 1) := by
 intro k
 induction k with
 | zero => intro _; exact ⟨by simpa [Zaw] using h, by simpa [Zaw] using hq⟩
 | succ k ih =>
  intro hk
  obtain ⟨h1, h2⟩ := ih (by omega)
  have h3 := ZlR h1 hST (Zaw ST σ k).2.2.length (Nat.le_refl _)
  have hqk : (Zaw ST σ k).2.2.length ≤ 4198400 := by
   have : n * (k + 1) ≤ 2048 * 2050 := Nat.mul_le_mul hn (by omega)
   omega
  obtain ⟨g1, g2, g3, g4, g5⟩ := h3
  have hc : ((Zbq ST (Zaw ST σ k) (Zaw ST σ k).2.2.length).2.1).count true ≤ n := by rw [← g2]; exact List.count_le_length
  refine ⟨⟨g1, g2, g3, fun w hw => ?_, by simp only [Zaw]; omega⟩, ?_⟩
  ·have := g4 w hw; omega
  ·simp only [Zaw]
   have : n * (k + 1 + 1) = n * (k + 1) + n := by rw [Nat.mul_succ]
   omega
def Zdo (n : Nat) (st : List Int) (j : Nat) : List Way := (st.take j).foldl (fun W v => W.set v.toNat ZcW) (List.replicate n ZdD)
theorem ZqX {n : Nat} {st : List Int} {j : Nat} {v : Int} (h : st[j]? = some v) : Zdo n st (j + 1) = (Zdo n st j).set v.toNat ZcW := ZkR _ h
theorem ZhO (n : Nat) (st : List Int) : ∀ j, (Zdo n st j).length = n := by
 intro j
 rw [Zdo]
 generalize st.take j = l
 have : ∀ (l : List Int) (W : List Way), (l.foldl (fun W v => W.set v.toNat ZcW) W).length = W.length := by
  intro l
  induction l with
  | nil => intro W; rfl
  | cons v l ih => intro W; rw [List.foldl_cons, ih]; simp
 rw [this]; simp
theorem ZvX (n : Nat) (st : List Int) (j : Nat) : ∀ w ∈ Zdo n st j, w = ZdD ∨ w = ZcW := by
 rw [Zdo]
 generalize st.take j = l
 have : ∀ (l : List Int) (W : List Way), (∀ w ∈ W, w = ZdD ∨ w = ZcW) → ∀ w ∈ l.foldl (fun W v => W.set v.toNat ZcW) W, w = ZdD ∨ w = ZcW := by
  intro l
  induction l with
  | nil => intro W h; exact h
  | cons v l ih =>
   intro W h
   rw [List.foldl_cons]
   refine ih _ fun w hw => ?_
   rcases List.mem_or_eq_of_mem_set hw with hw | rfl
   ·exact h w hw
   ·exact .inr rfl
 exact this l _ fun w hw => .inl (List.eq_of_mem_replicate hw)
def Zat (n : Nat) (st : List Int) : LS := (Zdo n st st.length, List.replicate n false, st)
theorem Zou {n : Nat} {st : List Int} (hst : ∀ x ∈ st, 0 ≤ x ∧ x < (n : Int)) : Zd5 n 0 (Zat n st).2.2.length (Zat n st) := by
 refine ⟨ZhO _ _ _, by simp [Zat], hst, fun w hw => ?_, by omega⟩
 rcases ZvX _ _ _ w hw with rfl | rfl <;> simp [ZdD, ZcW]
def ZhB (n : Nat) (ST : Nat → List Stp) (st : List Int) : Option Nat := ZbQ (fun k => (Zaw ST (Zat n st) k).2.2.isEmpty) (n + 2)
def ZbW (n : Nat) (ST : Nat → List Stp) (st : List Int) : Option (List Way) := (ZhB n ST st).map fun k => (Zaw ST (Zat n st) k).1
end Go.Proofs.YtjjbhjnpeenbkaaGreatDoor.Sx
namespace Go.Proofs.YtjjbhjnpeenbkaaGreatDoor.Sx
open Go Go.PS Go.Proofs
set_option maxRecDepth 100000
attribute [local irreducible] Zab wpG Zaa Zai

theorem ZyB {v : Int} {σ : LS} {s : Stp} (h : ¬ (wAt σ.1 s.1).1 < (wAt σ.1 v).1 + s.2.1) : Zbc v σ s = σ := by rw [Zbc, if_neg h]
theorem ZyM {v : Int} {σ : LS} {s : Stp} (h : (wAt σ.1 s.1).1 < (wAt σ.1 v).1 + s.2.1) (hb : bAt σ.2.1 s.1 = true) :
  Zbc v σ s = (σ.1.set s.1.toNat ((wAt σ.1 v).1 + s.2.1, v, s, false), σ.2.1, σ.2.2) := by rw [Zbc, if_pos h, if_pos hb]
theorem ZsI {v : Int} {σ : LS} {s : Stp} (h : (wAt σ.1 s.1).1 < (wAt σ.1 v).1 + s.2.1) (hb : bAt σ.2.1 s.1 = false) :
  Zbc v σ s = (σ.1.set s.1.toNat ((wAt σ.1 v).1 + s.2.1, v, s, false), σ.2.1.set s.1.toNat true, σ.2.2 ++ [s.1]) := by
 rw [Zbc, if_pos h, if_neg (by rw [hb]; exact Bool.false_ne_true)]
abbrev Zdp (W : List Way) : List D := W.map ZjS
abbrev Zmo (B : List Bool) : List D := B.map D.bool
abbrev intsL (l : List Int) : List D := l.map D.int
def ZdY (n k : Nat) : List Way := (List.range n).map fun u => if u < k then ZdD else Zht
theorem ZiZ (n k : Nat) : (ZdY n k).length = n := by simp [ZdY]
theorem Zjg {n k u : Nat} (h : u < n) : (ZdY n k)[u]? = some (if u < k then ZdD else Zht) := by simp [ZdY, h]
theorem ZvG (n : Nat) : Zdp (ZdY n 0) = List.replicate n (ZjS Zht) := by
 rw [List.eq_replicate_iff]
 refine ⟨by simp [ZdY], fun b hb => ?_⟩
 simp only [ZdY, List.map_map, List.mem_map, Zdp] at hb
 obtain ⟨u, _, rfl⟩ := hb
 simp
theorem ZsL {n k : Nat} (h : k < n) : (ZdY n k).set k ZdD = ZdY n (k + 1) := by
 refine List.ext_getElem? fun u => ?_
 by_cases hu : u < n
 ·rw [Zjg hu, List.getElem?_set, Zjg hu, ZiZ]
  by_cases c : k = u
  ·subst c; rw [if_pos rfl, if_pos h, if_pos (by omega)]
  ·rw [if_neg c]
   by_cases c2 : u < k
   ·rw [if_pos c2, if_pos (by omega)]
   ·rw [if_neg c2, if_neg (by omega)]
 ·rw [List.getElem?_eq_none (by rw [List.length_set, ZiZ]; omega), List.getElem?_eq_none (by rw [ZiZ]; omega)]
theorem Zzf (n : Nat) (st : List Int) : ZdY n n = Zdo n st 0 := by
 refine List.ext_getElem? fun u => ?_
 by_cases hu : u < n
 ·rw [Zjg hu, if_pos hu]; simp [Zdo, hu]
 ·rw [List.getElem?_eq_none (by rw [ZiZ]; omega), List.getElem?_eq_none (by rw [ZhO]; omega)]
def Zav (l : List Bd) (f : List Int) (v : Nat) : List Stp := Zeo l f v l.length
theorem Zxb {n : Nat} {l : List Bd} {f : List Int}
  (hb : ∀ (k : Nat) b, l[k]? = some b → 0 ≤ b.1 ∧ b.1 < n ∧ 0 ≤ b.2.1 ∧ b.2.1 < n ∧ b.1 ≠ b.2.1 ∧ -16777216 ≤ b.2.2.1 ∧ b.2.2.1 ≤ 16777216) (v : Nat) : ZgY n v (Zav l f v) := by
 have key : ∀ k, ZgY n v (Zeo l f v k) := by
  intro k
  induction k with
  | zero => intro s hs; simp [Zeo, Zbw] at hs
  | succ k ih =>
   intro s hs
   simp only [Zeo, Zbw] at hs
   rcases List.mem_append.1 hs with hs | hs
   ·exact ih s hs
   ·rw [ZgE] at hs
    split at hs
    ·rename_i b hbk
     have := hb k b hbk
     rcases List.mem_append.1 hs with hs | hs
     ·split at hs
      ·rw [List.mem_singleton.1 hs]; dsimp only; omega
      ·simp at hs
     ·split at hs
      ·rw [List.mem_singleton.1 hs]; dsimp only; omega
      ·simp at hs
    ·simp at hs
 exact key _
theorem ZuT (ST : Nat → List Stp) (σ : LS) : Zbq ST σ 0 = (σ.1, σ.2.1, []) := rfl
theorem Zzd (L : List Stp) (v : Int) (σ : LS) : Za8 L v σ 0 = (σ.1, σ.2.1.set v.toNat false, σ.2.2) := rfl
theorem Zjx (n : Nat) (l : List Bd) (f : List Int) (st : List Int) (hn : n ≤ 2048) (hl : l.length ≤ 4096) (hfl : f.length = l.length)
  (hb : ∀ (k : Nat) b, l[k]? = some b → 0 ≤ b.1 ∧ b.1 < n ∧ 0 ≤ b.2.1 ∧ b.2.1 < n ∧ b.1 ≠ b.2.1 ∧ -16777216 ≤ b.2.2.1 ∧ b.2.2.1 ≤ 16777216)
  (hst : ∀ x ∈ st, 0 ≤ x ∧ x < (n : Int)) (hsn : st.length ≤ n) :
  (∀ W, ZbW n (Zav l f) st = some W → Zai Tryz.prog 160 [.d (pD n l f), .d (Zac st)] [(2000, .dead)] (.tup [.ref 2000 7 0 n n, .bool true]) [(2000, .row 7 (Zdp W))]) ∧
  (ZbW n (Zav l f) st = none → Zai Tryz.prog 160 [.d (pD n l f), .d (Zac st)] [(2000, .dead)] (.tup [.nilS, .bool false]) [(2000, .dead)]) := by
 have hsteps := Zym n l f hn hl hfl hb
 have hSL : ∀ v : Nat, v < n → ZgY n v (Zav l f v) := fun v _ => Zxb hb v
 have hgood := Zrv hn (Zou hst) hsn hSL
 have main : ∀ (r : PV) (ob : Ob), (match ZbW n (Zav l f) st with | some W => r = .tup [.ref 2000 7 0 n n, .bool true] ∧ ob = .row 7 (Zdp W) | none => r = .tup [.nilS, .bool false] ∧ ob = .dead) →
   Zai Tryz.prog 160 [.d (pD n l f), .d (Zac st)] [(2000, .dead)] r [(2000, ob)] := by
  intro r ob hro
  have hr1 : r.only [2000] 4 = true := by
   revert hro; split <;> (rintro ⟨rfl, rfl⟩; rfl)
  have hr2 : ob.only [2000] = true := by
   revert hro; split <;> (rintro ⟨rfl, rfl⟩; rfl)
  refine ZoI Tryz.func160 rfl (by decide +kernel) (Nat.le_of_ble_eq_true rfl) rfl (Zbk rfl) hr1 (by simp [hr2]) rfl ?_
  intro B X w0
  refine kw1 kc0 (kc1 hsteps) ?_
  refine Zaf (κ := Nat) (fun (k : Nat) => k ≤ n) (fun (k : Nat) => [(0, .d (pD n l f)), (1, .d (Zac st)), (6, .d (.sl (Zhs n l f))), (7, .ref 27 7 0 n n), (29, .int n), (30, .int k)]) (fun (k : Nat) => [(27, .row 7 (Zdp (ZdY n k)))]) (fun (k : Nat) => n - k) 0 ?_ ?_ ?_
  ·exact Nat.zero_le _
  ·exact kN (kc2 @ZvG @Zht.eq_1) []
  ·intro k hk
   have hlen := ZiZ n k
   rcases Nat.lt_or_ge k n with hlt | hge
   ·have hg : (ZdY n k)[k]? = some Zht := by rw [Zjg hlt, if_neg (by omega)]
    have hstp := ZsL hlt
    repeat' first | refine ZaK rfl ?_ | refine ZaG ?_ | refine wR ?_ | (refine ZaN rfl rfl (fun hc => ?_) (fun hc => ?_) <;> try simp only [hcL] at hc) | (refine ZaM _ rfl rfl (fun hc => ?_) (fun hc => ?_) <;> (try simp only [hcL] at hc) <;> try omega) | simp (disch := omega) only [go_sem, simprocAttr, hg, hlen, Zht] | apply And.intro | omega | decide +kernel
    refine ⟨k + 1, ?_, kN (kc3 @hstp.symm @List.map_set.{0,0} @ZdD.eq_1) [], ?_⟩
    ·omega
    ·omega
   ·refine ZcL kc0 kc0 ?_
    have : k = n := by omega
    subst this
    rw [Zzf k st]
    refine Zaf (κ := Nat) (fun (j : Nat) => j ≤ st.length) (fun (j : Nat) => [(0, .d (pD k l f)), (1, .d (Zac st)), (6, .d (.sl (Zhs k l f))), (7, .ref 27 7 0 k k), (38, .d (Zac st)), (39, .int st.length), (40, .int j)]) (fun (j : Nat) => [(27, .row 7 (Zdp (Zdo k st j)))]) (fun (j : Nat) => st.length - j) 0 ?_ ?_ ?_
    ·exact Nat.zero_le _
    ·exact kN kc0 []
    ·intro j hj
     have hlen := ZhO k st j
     rcases Nat.lt_or_ge j st.length with hlt | hge2
     ·obtain ⟨x, hx⟩ := Zad hlt
      have hxi := hst x (List.mem_of_getElem? hx)
      have hsu := ZqX (n := k) hx
      obtain ⟨v, rfl⟩ : ∃ v : Nat, x = v := ⟨x.toNat, by omega⟩
      have hg : (Zdo k st j)[v]? = some (wAt (Zdo k st j) v) := Zds (v := (v : Int)) hlen (by omega) (by omega)
      rw [Int.toNat_natCast] at hsu
      refine kw1 (kc3 hx hg hlen) kc0 ?_
      refine ⟨j + 1, ?_, kN (kc3 hsu @List.map_set.{0,0} @ZcW.eq_1) [], ?_⟩
      ·omega
      ·omega
     ·refine ZcL kc0 kc0 ?_
      have : j = st.length := by omega
      subst this
      refine Zaf (κ := Nat) (fun (q : Nat) => match q with | k' => k' ≤ k + 1 ∧ ZbQ (fun i => (Zaw (Zav l f) (Zat k st) i).2.2.isEmpty) k' = none) (fun (q : Nat) => match q with | k' => [(0, .d (pD k l f)), (6, .d (.sl (Zhs k l f))), (7, .ref 27 7 0 k k), (11, .d (Zac (Zaw (Zav l f) (Zat k st) k').2.2)), (12, .ref 55 1 0 k k), (13, .int k')]) (fun (q : Nat) => match q with | k' => [(27, .row 7 (Zdp (Zaw (Zav l f) (Zat k st) k').1)), (55, .row 1 (Zmo (Zaw (Zav l f) (Zat k st) k').2.1))]) (fun (q : Nat) => match q with | k' => k + 1 - k') 0 ?_ ?_ ?_
      ·exact ⟨Nat.zero_le _, rfl⟩
      ·exact kN (kc3 @Zaw.eq_1 @Zat.eq_1 @List.map_replicate.{0,0}) []
      ·rintro m ⟨hm, hfirst⟩
       obtain ⟨hG, hqn⟩ := hgood m hm
       have hit : Zaw (Zav l f) (Zat k st) (m + 1) = Zbq (Zav l f) (Zaw (Zav l f) (Zat k st) m) (Zaw (Zav l f) (Zat k st) m).2.2.length := rfl
       have hend : (Zaw (Zav l f) (Zat k st) m).2.2.isEmpty = true → ZbW k (Zav l f) st = some (Zaw (Zav l f) (Zat k st) m).1 := fun h => by
        rw [ZbW, ZhB, Znu (by omega) hfirst h]; rfl
       have hnx : (Zaw (Zav l f) (Zat k st) m).2.2.isEmpty = false → ZbQ (fun i => (Zaw (Zav l f) (Zat k st) i).2.2.isEmpty) (m + 1) = none := fun h => Zra hfirst h
       try dsimp only
       generalize Zaw (Zav l f) (Zat k st) m = σ at hG hqn hit hend hnx ⊢
       have hq40 : k * (m + 1) ≤ 2048 * 2050 := Nat.mul_le_mul hn (by omega)
       rcases hem : σ.2.2.isEmpty with _ | _
       ·have hpos : 0 < σ.2.2.length := by
         rcases Nat.eq_zero_or_pos σ.2.2.length with h | h
         ·rw [List.length_eq_zero_iff.1 h] at hem; cases hem
         ·exact h
        rcases Nat.lt_or_ge k m with hbig | hsmall
        ·have e : ZbW k (Zav l f) st = none := by
          have : m + 1 = k + 2 := by omega
          have h2 := hnx hem
          rw [this] at h2
          rw [ZbW, ZhB, h2]; rfl
         rw [e] at hro
         obtain ⟨rfl, rfl⟩ := hro
         refine ZcL kc0 kc0 ?_
         refine kR kc0 [(2000, 900)] [(4, .nilS), (5, .bool false)] [(2000, .dead)] ?_
         refine ZaG ?_
         exact ⟨⟨_, rfl, rfl, rfl, trivial⟩, List.forall_mem_cons.2 ⟨rfl, List.forall_mem_nil _⟩⟩
        ·refine ZcL kc0 kc0 ?_
         refine Zax _ (Zd3 14 900 1 rfl rfl) ?_
         refine Zaf (κ := Nat) (fun (j : Nat) => j ≤ σ.2.2.length) (fun (j : Nat) => [(0, .d (pD k l f)), (6, .d (.sl (Zhs k l f))), (7, .ref 27 7 0 k k), (12, .ref 55 1 0 k k), (13, .int ((m : Int) + 1)), (14, .ref 900 1 0 (Zbq (Zav l f) σ j).2.2.length (Zbq (Zav l f) σ j).2.2.length), (68, .d (Zac σ.2.2)), (69, .int σ.2.2.length), (70, .int j)]) (fun (j : Nat) => [(27, .row 7 (Zdp (Zbq (Zav l f) σ j).1)), (55, .row 1 (Zmo (Zbq (Zav l f) σ j).2.1)), (900, .row 1 (intsL (Zbq (Zav l f) σ j).2.2))]) (fun (j : Nat) => σ.2.2.length - j) 0 ?_ ?_ ?_
         ·exact Nat.zero_le _
         ·exact kN (kc1 @ZuT) []
         ·intro j hj
          rcases Nat.lt_or_ge j σ.2.2.length with hjl | hjg
          ·obtain ⟨x, hx⟩ := Zad hjl
           have hxi := hG.2.2.1 x (List.mem_of_getElem? hx)
           obtain ⟨v, rfl⟩ : ∃ v : Nat, x = v := ⟨x.toNat, by omega⟩
           have hmg := ZlR hG hSL j (by omega)
           have hin := ZnT hmg (v := (v : Int)) (L := Zav l f v) (by omega) (by omega) (hSL v (by omega))
           have hms := ZiA (ST := Zav l f) hx
           rw [Int.toNat_natCast] at hms
           have hcnt : ∀ τ : LS, Zd5 k (70437463654400 * m + 16777216 * j + 16777216) (j + 1) τ → τ.2.2.length ≤ 4300000 := fun τ h => by
            have h1 := h.2.2.2.2
            have h2 : τ.2.1.count true ≤ k := by rw [← h.2.1]; exact List.count_le_length
            omega
           try dsimp only
           generalize Zbq (Zav l f) σ j = μ at hmg hin hms ⊢
           have hs := ZjQ l f v l.length
           have hsl : (ZcV l f l.length v) = (Zav l f v).map stD := rfl
           have hsr : (List.map (fun v => D.sl (ZcV l f l.length v)) (List.range k))[v]? = some (.sl ((Zav l f v).map stD)) := by simp [show v < k by omega]; rfl
           rw [hsl, List.length_map] at hs
           have gb : μ.2.1[v]? = some (bAt μ.2.1 v) := Zm5 (v := (v : Int)) hmg.2.1 (by omega) (by omega)
           have l1 := hmg.1
           have l2 := hmg.2.1
           refine kw1 (kc6 hx gb l1 l2 hsr @List.length_range) kc0 ?_
           refine Zaf (κ := Nat) (fun (i : Nat) => i ≤ (Zav l f v).length) (fun (i : Nat) => [(0, .d (pD k l f)), (6, .d (.sl (Zhs k l f))), (7, .ref 27 7 0 k k), (12, .ref 55 1 0 k k), (13, .int ((m : Int) + 1)), (14, .ref 900 1 0 (Za8 (Zav l f v) v μ i).2.2.length (Za8 (Zav l f v) v μ i).2.2.length), (16, .int v), (68, .d (Zac σ.2.2)), (69, .int σ.2.2.length), (70, .int j), (80, .d (.sl ((Zav l f v).map stD))), (81, .int (Zav l f v).length), (82, .int i)]) (fun (i : Nat) => [(27, .row 7 (Zdp (Za8 (Zav l f v) v μ i).1)), (55, .row 1 (Zmo (Za8 (Zav l f v) v μ i).2.1)), (900, .row 1 (intsL (Za8 (Zav l f v) v μ i).2.2))]) (fun (i : Nat) => (Zav l f v).length - i) 0 ?_ ?_ ?_
           ·exact Nat.zero_le _
           ·exact kN (kc3 @Zzd @List.map_set.{0,0} @Int.toNat_natCast) []
           ·intro i hi
            rcases Nat.lt_or_ge i (Zav l f v).length with hil | hig
            ·obtain ⟨s, hs2⟩ := Zad hil
             obtain ⟨hgi, hvi⟩ := hin i
             have hsi := hSL v (by omega) s (List.mem_of_getElem? hs2)
             have hns := Zic (v := (v : Int)) (σ := μ) hs2
             have hlq := hcnt _ hgi
             try dsimp only
             generalize Za8 (Zav l f v) v μ i = τ at hgi hvi hns hlq ⊢
             obtain ⟨W, Bs, q⟩ := τ
             obtain ⟨to, len, bd, bk⟩ := s
             obtain ⟨u, rfl⟩ : ∃ u : Nat, to = u := ⟨to.toNat, by have := hsi.1; dsimp only at this; omega⟩
             dsimp only at hsi hvi hlq hns
             have g1 : W.length = k := hgi.1
             have g2 : Bs.length = k := hgi.2.1
             have gv : W[v]? = some (wAt W v) := Zds (v := (v : Int)) g1 (by omega) (by omega)
             have gu : W[u]? = some (wAt W u) := Zds (v := (u : Int)) g1 (by omega) (by omega)
             have gbu : Bs[u]? = some (bAt Bs u) := Zm5 (v := (u : Int)) g2 (by omega) (by omega)
             have bv := hgi.2.2.2.1 _ (List.mem_of_getElem? gv)
             have bu := hgi.2.2.2.1 _ (List.mem_of_getElem? gu)
             have htk : (List.map D.int q).take q.length = List.map D.int q := Zau _ _
             rcases Decidable.em ((wAt W u).1 < (wAt W v).1 + len) with hlt | hlt
             ·rcases hbu : bAt Bs u with _ | _
              ·rw [ZsI hlt hbu] at hns
               rw [hbu] at gbu
               dsimp only at hns
               rw [Int.toNat_natCast] at hns
               refine kw1 (kc8 hs2 gv gu gbu g1 g2 htk @List.length_set.{0}) kc0 ?_
               refine ⟨i + 1, ?_, kN (kc4 hns @List.map_set.{0,0} @List.map_append.{0,0} @List.length_append.{0}) [(900, 124)], ?_⟩
               ·omega
               ·omega
              ·rw [ZyM hlt hbu] at hns
               rw [hbu] at gbu
               dsimp only at hns
               rw [Int.toNat_natCast] at hns
               refine kw1 (kc8 hs2 gv gu gbu g1 g2 htk @List.length_set.{0}) kc0 ?_
               refine ⟨i + 1, ?_, kN (kc2 hns @List.map_set.{0,0}) [], ?_⟩
               ·omega
               ·omega
             ·rw [ZyB hlt] at hns
              refine kw1 (kc8 hs2 gv gu gbu g1 g2 htk @List.length_set.{0}) kc0 ?_
              refine ⟨i + 1, ?_, kN (kc2 hns @List.map_set.{0,0}) [], ?_⟩
              ·omega
              ·omega
            ·have : i = (Zav l f v).length := by omega
             subst this
             refine kw1 kc0 kc0 ?_
             refine ⟨j + 1, ?_, kN (kc1 hms) [], ?_⟩
             ·omega
             ·omega
          ·have : j = σ.2.2.length := by omega
           subst this
           have hmg := ZlR hG hSL σ.2.2.length (Nat.le_refl _)
           rw [← hit] at hmg
           have hnx := hnx hem
           try dsimp only
           rw [← hit]
           generalize hnext : Zaw (Zav l f) (Zat k st) (m + 1) = τ at hmg ⊢
           refine Zax _ (Zdk 900 1 _ rfl (ZcR _ rfl) (by decide)) ?_
           refine kw1 (kc2 @List.drop_zero.{0} @Zau) kc0 ?_
           refine ⟨m + 1, ?_, kN (kc5 @hnext @List.drop_zero.{0} @Zau @Int.natCast_add @Int.natCast_one) [], ?_⟩
           ·exact ⟨by omega, hnx⟩
           ·omega
       ·have e := hend hem
        have h0 : σ.2.2.length = 0 := by
         rw [List.isEmpty_iff] at hem; rw [hem]; rfl
        rw [e] at hro
        obtain ⟨rfl, rfl⟩ := hro
        refine ZcL (kc1 h0) kc0 ?_
        refine kR kc0 [(2000, 27)] [(4, .ref 2000 7 0 _ _), (5, .bool true)] [(2000, .row 7 _)] ?_
        refine ZaG ?_
        exact ⟨⟨_, rfl, rfl, rfl, trivial⟩, List.forall_mem_cons.2 ⟨rfl, List.forall_mem_nil _⟩⟩
 refine ⟨fun W hW => main _ _ (by rw [hW]; exact ⟨rfl, rfl⟩), fun hN => main _ _ (by rw [hN]; exact ⟨rfl, rfl⟩)⟩
def Zar (W : List Way) (v : Int) : Nat → Int
 | 0 => v
 | k + 1 => (wAt W (Zar W v k)).2.1
def ZaP (W : List Way) (v : Int) (k : Nat) : Stp := (wAt W (Zar W v k)).2.2.1
def ZcK (W : List Way) (f : List Int) (m0 v : Int) : Nat → Int
 | 0 => m0
 | k + 1 => if (ZaP W v k).2.2.2 then min (ZcK W f m0 v k) (at0 f (ZaP W v k).2.2.1) else ZcK W f m0 v k
def ZbD (W : List Way) (f : List Int) (m v : Int) : Nat → List Int
 | 0 => f
 | k + 1 => (ZbD W f m v k).set (ZaP W v k).2.2.1.toNat (at0 (ZbD W f m v k) (ZaP W v k).2.2.1 + (if (ZaP W v k).2.2.2 then -m else m))
theorem Zev (W : List Way) (v : Int) (k : Nat) : Zar W v (k + 1) = (wAt W (Zar W v k)).2.1 := rfl
theorem Zl8 (W : List Way) (f : List Int) (m0 v : Int) (k : Nat) : ZcK W f m0 v (k + 1) = if (ZaP W v k).2.2.2 then min (ZcK W f m0 v k) (at0 f (ZaP W v k).2.2.1) else ZcK W f m0 v k := rfl
theorem Zls (W : List Way) (f : List Int) (m v : Int) (k : Nat) : ZbD W f m v (k + 1) = (ZbD W f m v k).set (ZaP W v k).2.2.1.toNat (at0 (ZbD W f m v k) (ZaP W v k).2.2.1 + (if (ZaP W v k).2.2.2 then -m else m)) := rfl
def Zeb (W : List Way) (f nd : List Int) (t : Int) (K : Nat) : Int := min (ZcK W f (at0 nd t) t K) (-(at0 nd (Zar W t K)))
theorem ZkI (W : List Way) (f nd : List Int) (t : Int) (K : Nat) : Zeb W f nd t K = min (ZcK W f (at0 nd t) t K) (-(at0 nd (Zar W t K))) := rfl
theorem ZgF (W : List Way) (f : List Int) (m v : Int) : ∀ k, (ZbD W f m v k).length = f.length
 | 0 => rfl
 | k + 1 => by simp [ZbD, ZgF W f m v k]
theorem ZnE {W : List Way} {f : List Int} {m v F M : Int} (hf : ZbY f F) (hM : 0 ≤ M) (hm : -M ≤ m ∧ m ≤ M) : ∀ k : Nat, ZbY (ZbD W f m v k) (F + M * k)
 | 0 => by simpa [ZbD] using hf
 | k + 1 => by
  have ih := ZnE (W := W) (v := v) hf hM hm k
  have h1 := ih (ZaP W v k).2.2.1
  have e : F + M * ((k + 1 : Nat) : Int) = F + M * k + M := by rw [Int.natCast_add, Int.natCast_one, Int.mul_add, Int.mul_one, Int.add_assoc]
  rw [e, ZbD]
  refine ZkU (Ze1 ih (by omega)) ?_ ?_ <;> split <;> omega
theorem Zm0 {W : List Way} {f : List Int} {m0 v F : Int} (hf : ZbY f F) (hm : -F ≤ m0 ∧ m0 ≤ F) : ∀ k : Nat, -F ≤ ZcK W f m0 v k ∧ ZcK W f m0 v k ≤ F
 | 0 => by simpa [ZcK] using hm
 | k + 1 => by
  have ih := Zm0 (W := W) (v := v) hf hm k
  have h1 := hf (ZaP W v k).2.2.1
  rw [ZcK]; split <;> omega
def ZmA (n m : Nat) (W : List Way) : Prop := W.length = n ∧ ∀ w ∈ W, 0 ≤ w.2.1 ∧ w.2.1 < (n : Int) ∧ 0 ≤ w.2.2.1.2.2.1 ∧ w.2.2.1.2.2.1 < (m : Int)
theorem ZkO {n m : Nat} {W : List Way} {v : Int} (hW : ZmA n m W) (h0 : 0 ≤ v) (hv : v < n) : ∀ k, 0 ≤ Zar W v k ∧ Zar W v k < n
 | 0 => ⟨h0, hv⟩
 | k + 1 => by
  obtain ⟨h1, h2⟩ := ZkO hW h0 hv k
  have := hW.2 _ (List.mem_of_getElem? (Zds hW.1 h1 h2))
  exact ⟨this.1, this.2.1⟩
abbrev pM (n : Nat) (l : List Bd) (m : Nat) : Ob := .cells [.int n, .d (Zed l), .ref 1001 1 0 m m]
theorem ZwA (n : Nat) (l : List Bd) (f : List Int) (W : List Way) (t : Int) (nd : List Int) (K : Nat) (hn : n ≤ 2048) (hW : ZmA n f.length W) (hndl : nd.length = n)
  (ht : 0 ≤ t ∧ t < n) (hK : K ≤ n) (h1 : ∀ j, j < K → (wAt W (Zar W t j)).2.2.2 = false) (h2 : (wAt W (Zar W t K)).2.2.2 = true) (hf : ZbY f 1125899906842624) (hnd : ZbY nd 1125899906842624) :
  Zai Tryz.prog 213 [.ptr 1000 0 0 0, .d (.sl (Zdp W)), .int t, .ref 1002 1 0 n n] [(1000, pM n l f.length), (1001, .row 1 (intsL f)), (1002, .row 1 (intsL nd))]
   (.tup [.int (Zar W t K), .int (Zeb W f nd t K)]) [(1000, pM n l f.length), (1001, .row 1 (intsL (ZbD W f (Zeb W f nd t K) t K))), (1002, .row 1 (intsL nd))] := by
 have hbk := ZkO hW ht.1 ht.2
 have hms := Zm0 (W := W) (v := t) (m0 := at0 nd t) hf (hnd t)
 have hst : ∀ k, ∃ b : Nat, (ZaP W t k).2.2.1 = b ∧ b < f.length := by
  intro k
  have := hW.2 _ (List.mem_of_getElem? (Zds hW.1 (hbk k).1 (hbk k).2))
  exact ⟨(ZaP W t k).2.2.1.toNat, by rw [ZaP]; omega, by rw [ZaP]; omega⟩
 refine kM Tryz.func213 ?_
 intro B X w0
 obtain ⟨t', rfl⟩ : ∃ t' : Nat, t = t' := ⟨t.toNat, by omega⟩
 have gnt := Za0 (r := nd) (i := t') (by omega)
 have hWl := hW.1
 refine kw1 (kc2 gnt hndl) kc0 ?_
 refine Zaf (κ := Nat) (fun (k : Nat) => k ≤ K) (fun (k : Nat) => [(0, .ptr 1000 0 0 0), (1, .d (.sl (Zdp W))), (2, .int t'), (3, .ref 1002 1 0 n n), (10, .int (Zar W t' k)), (11, .int (ZcK W f (at0 nd t') t' k)), (12, .int (Zar W t' k))]) (fun (k : Nat) => [(1000, pM n l f.length), (1001, .row 1 (intsL f)), (1002, .row 1 (intsL nd))]) (fun (k : Nat) => K - k) 0 ?_ ?_ ?_
 ·exact Nat.zero_le _
 ·exact kN (kc2 @Zar.eq_1 @ZcK.eq_1) []
 ·intro k hk
  obtain ⟨b, hb1, hb2⟩ := hst k
  have gb := Za0 hb2
  have hbb := hf b
  have hmk := hms k
  have hmn := Zl8 W f (at0 nd t') t' k
  have hbn := Zev W t' k
  obtain ⟨hv1, hv2⟩ := hbk k
  have hgb : (wAt W (Zar W t' k)).2.2.2 = decide (k = K) := by
   rcases Decidable.em (k = K) with h | h
   ·rw [h, h2]; simp
   ·rw [h1 k (by omega), decide_eq_false h]
  rw [hb1] at hmn
  rw [ZaP] at hb1 hmn
  obtain ⟨v, hv⟩ : ∃ v : Nat, Zar W t' k = v := ⟨(Zar W t' k).toNat, by omega⟩
  rw [hv] at hv1 hv2 hbn hgb hmn hb1
  have gv : W[v]? = some (wAt W v) := Zds (v := (v : Int)) hWl hv1 hv2
  rcases Nat.lt_or_ge k K with hlt | hge
  ·rw [decide_eq_false (show k ≠ K by omega)] at hgb
   generalize hw : wAt W v = w at gv hbn hgb hmn hb1
   obtain ⟨lg, fr, ⟨s1, s2, s3, s4⟩, bg⟩ := w
   dsimp only at hbn hgb hmn hb1
   subst hgb
   cases s4 with
   | false =>
    rw [if_neg (by decide)] at hmn
    refine kw1 (kc4 gv hv hWl hb1) kc0 ?_
    refine ⟨k + 1, ?_, kN (kc2 hbn hmn) [], ?_⟩
    ·omega
    ·omega
   | true =>
    rw [if_pos rfl] at hmn
    refine kw1 (kc6 gv hv hWl hb1 gb @Zis) kc0 ?_
    refine ⟨k + 1, ?_, kN (kc2 hbn hmn) [], ?_⟩
    ·omega
    ·omega
  ·have : k = K := by omega
   subst this
   rw [decide_eq_true rfl] at hgb
   have gnv := Za0 (r := nd) (i := v) (by omega)
   have hnv := hnd v
   have hsm := ZkI W f nd t' k
   rw [hv] at hsm
   have hsent := ZnE (W := W) (v := (t' : Int)) (m := Zeb W f nd t' k) (M := 1125899906842624) hf (by omega) (by omega)
   have hfr : Zar W t' k = v := hv
   refine ZcL (kc7 gv hv hWl hgb gnv hndl @Zis) kc0 ?_
   rw [← hsm]
   generalize Zeb W f nd t' k = m at hsm hsent ⊢
   refine Zaf (κ := Nat) (fun (j : Nat) => j ≤ k) (fun (j : Nat) => [(0, .ptr 1000 0 0 0), (1, .d (.sl (Zdp W))), (10, .int v), (11, .int m), (14, .int (Zar W t' j))]) (fun (j : Nat) => [(1000, pM n l f.length), (1001, .row 1 (intsL (ZbD W f m t' j))), (1002, .row 1 (intsL nd))]) (fun (j : Nat) => k - j) 0 ?_ ?_ ?_
   ·exact Nat.zero_le _
   ·exact kN (kc2 @Zar.eq_1 @ZbD.eq_1) []
   ·intro j hj
    obtain ⟨b, hb1, hb2⟩ := hst j
    have hsl := ZgF W f m t' j
    have gb := Za0 (r := ZbD W f m t' j) (i := b) (by omega)
    have hbb := hsent j b
    have hmn := Zls W f m t' j
    have hbn := Zev W t' j
    obtain ⟨hv1, hv2⟩ := hbk j
    have hgj : (wAt W (Zar W t' j)).2.2.2 = decide (j = k) := by
     rcases Decidable.em (j = k) with h | h
     ·rw [h, h2]; simp
     ·rw [h1 j (by omega), decide_eq_false h]
    rw [hb1, Int.toNat_natCast] at hmn
    rw [ZaP] at hb1 hmn
    obtain ⟨u, hu⟩ : ∃ u : Nat, Zar W t' j = u := ⟨(Zar W t' j).toNat, by omega⟩
    rw [hu] at hv1 hv2 hbn hgj hmn hb1
    have gu : W[u]? = some (wAt W u) := Zds (v := (u : Int)) hWl hv1 hv2
    rcases Nat.lt_or_ge j k with hlt | hge2
    ·rw [decide_eq_false (show j ≠ k by omega)] at hgj
     generalize hw : wAt W u = w at gu hbn hgj hmn hb1
     obtain ⟨lg, fr, ⟨s1, s2, s3, s4⟩, bg⟩ := w
     dsimp only at hbn hgj hmn hb1
     subst hgj
     cases s4 with
     | false =>
      rw [if_neg (by decide)] at hmn
      refine kw1 (kc6 gu hu hWl hb1 gb hsl) kc0 ?_
      refine ⟨j + 1, ?_, kN (kc3 hbn hmn @List.map_set.{0,0}) [], ?_⟩
      ·omega
      ·omega
     | true =>
      rw [if_pos rfl] at hmn
      refine kw1 (kc6 gu hu hWl hb1 gb hsl) kc0 ?_
      refine ⟨j + 1, ?_, kN (kc4 hbn hmn @List.map_set.{0,0} @Int.sub_eq_add_neg) [], ?_⟩
      ·omega
      ·omega
    ·have : j = k := by omega
     subst this
     rw [decide_eq_true rfl] at hgj
     refine ZcL (kc4 gu hu hWl hgj) kc0 ?_
     refine ZaG ?_
     exact ⟨⟨_, rfl, rfl, rfl, trivial⟩, List.forall_mem_cons.2 ⟨rfl, List.forall_mem_cons.2 ⟨rfl, List.forall_mem_cons.2 ⟨rfl, List.forall_mem_nil _⟩⟩⟩⟩
def Zgh (nd : List Int) (v : Nat) : List Int := if at0 nd v < 0 then [(v : Int)] else []
def ZbO (nd : List Int) (k : Nat) : List Int := Zbw (Zgh nd) k
def ZaR (W : List Way) (nd : List Int) : Nat → Int
 | 0 => -1
 | k + 1 => if 0 < at0 nd k ∧ -576460752303423488 < (wAt W k).1 ∧ (ZaR W nd k < 0 ∨ (wAt W (ZaR W nd k)).1 < (wAt W k).1) then k else ZaR W nd k
def Zmy (W : List Way) (t : Int) (m : Nat) : Option Nat := ZbQ (fun k => (wAt W (Zar W t k)).2.2.2) m
def ZgO (n m : Nat) (W : List Way) : Bool := decide (W.length = n) && W.all fun w => decide (0 ≤ w.2.1 ∧ w.2.1 < (n : Int) ∧ 0 ≤ w.2.2.1.2.2.1 ∧ w.2.2.1.2.2.1 < (m : Int))
def inB (f : List Int) : Bool := f.all fun x => decide (-1125899906842624 ≤ x ∧ x ≤ 1125899906842624)
def Zj0 (n : Nat) (l : List Bd) (f nd : List Int) : Option (List Int × List Int) :=
 match ZbW n (Zav l f) (ZbO nd n) with
 | none => none
 | some W => match Zmy W (ZaR W nd n) (n + 1) with
  | none => none
  | some K => if (decide (0 ≤ ZaR W nd n) && ZgO n l.length W && inB f && inB nd) = true then
    some (ZbD W f (Zeb W f nd (ZaR W nd n) K) (ZaR W nd n) K,
     (nd.set (Zar W (ZaR W nd n) K).toNat (at0 nd (Zar W (ZaR W nd n) K) + Zeb W f nd (ZaR W nd n) K)).set (ZaR W nd n).toNat
      (at0 (nd.set (Zar W (ZaR W nd n) K).toNat (at0 nd (Zar W (ZaR W nd n) K) + Zeb W f nd (ZaR W nd n) K)) (ZaR W nd n) - Zeb W f nd (ZaR W nd n) K)) else none
def Zfi (n : Nat) (l : List Bd) : Nat → List Int → List Int → Option (List Int)
 | 0, _, _ => none
 | r + 1, f, nd => if (ZbO nd n).isEmpty then some f else match Zj0 n l f nd with
  | none => none
  | some s => Zfi n l r s.1 s.2
theorem Zj3 {f : List Int} (h : inB f = true) : ZbY f 1125899906842624 := by
 intro v
 rw [at0]
 cases hx : f[v.toNat]? with
 | none => simp
 | some x =>
  simp only [inB, List.all_eq_true, decide_eq_true_eq] at h
  exact h x (List.mem_of_getElem? hx)
theorem ZzP {n m : Nat} {W : List Way} (h : ZgO n m W = true) : ZmA n m W := by
 simp only [ZgO, Bool.and_eq_true, decide_eq_true_eq, List.all_eq_true] at h
 exact h
theorem Zk4 {p : Nat → Bool} : ∀ {m k : Nat}, ZbQ p m = some k → k < m ∧ p k = true ∧ ∀ j, j < k → p j = false := by
 intro m
 induction m with
 | zero => intro k h; simp [ZbQ] at h
 | succ m ih =>
  intro k h
  rw [ZbQ] at h
  cases hm : ZbQ p m with
  | some j =>
   rw [hm] at h
   simp only [Option.some.injEq] at h
   subst h
   obtain ⟨h1, h2, h3⟩ := ih hm
   exact ⟨by omega, h2, h3⟩
  | none =>
   rw [hm] at h
   have hno : ∀ j, j < m → p j = false := by
    intro j hj
    cases hp : p j with
    | false => rfl
    | true =>
     exfalso
     have key : ∀ m, j < m → ZbQ p m ≠ none := by
      intro m
      induction m with
      | zero => intro h; omega
      | succ m ih2 =>
       intro hjm hn
       rw [ZbQ] at hn
       cases hq : ZbQ p m with
       | some i => rw [hq] at hn; simp at hn
       | none =>
        rw [hq] at hn
        rcases Nat.lt_or_ge j m with h | h
        ·exact ih2 h hq
        ·have : j = m := by omega
         subst this
         simp [hp] at hn
     exact key m hj hm
   by_cases hp : p m = true
   ·simp [hp] at h; subst h; exact ⟨by omega, hp, hno⟩
   ·simp [hp] at h
theorem ZiF (nd : List Int) : ∀ k, (∀ x ∈ ZbO nd k, 0 ≤ x ∧ x < (k : Int)) ∧ (ZbO nd k).length ≤ k
 | 0 => by simp [ZbO, Zbw]
 | k + 1 => by
  obtain ⟨h1, h2⟩ := ZiF nd k
  simp only [ZbO, Zbw] at h1 h2 ⊢
  refine ⟨fun x hx => ?_, ?_⟩
  ·rcases List.mem_append.1 hx with hx | hx
   ·have := h1 x hx; omega
   ·rw [Zgh] at hx; split at hx
    ·rw [List.mem_singleton.1 hx]; omega
    ·simp at hx
  ·rw [List.length_append, Zgh]; split <;> simp <;> omega
theorem ZjF (W : List Way) (nd : List Int) : ∀ k, ZaR W nd k < (k : Int) ∧ -1 ≤ ZaR W nd k
 | 0 => by simp [ZaR]
 | k + 1 => by
  have := ZjF W nd k
  rw [ZaR]; split <;> omega
theorem Zzw (n : Nat) (l : List Bd) (f0 f1 : List Int) (R : Nat) (hg : nOk (n, l) = true) (hfl : f0.length = l.length) (hc : Zfi n l R f0 (ZbB l n l.length) = some f1) :
  Zai Tryz.prog 162 [.ptr 1000 0 0 0] [(1000, pM n l l.length), (1001, .row 1 (intsL f0))] (.tup []) [(1000, pM n l l.length), (1001, .row 1 (intsL f1))] := by
 obtain ⟨h1, h2, h3, h4⟩ := ZgV hg
 dsimp only at h1 h2 h3 h4
 have hneed := Ztx n l f0 hg
 have hnl := Zhw l n l.length
 generalize ZbB l n l.length = nd0 at hc hneed hnl
 refine kM Tryz.func162 ?_
 intro B X w0
 have htk0 : (f0.map D.int).take l.length = f0.map D.int := by rw [← hfl]; exact Zau _ _
 repeat' first | refine ZaK rfl ?_ | refine ZaG ?_ | refine wR ?_ | (refine ZfU [(2000, 14)] (hneed) rfl rfl rfl rfl rfl rfl (Zbk rfl) ?_ ?_ ?_ ?_ rfl ?_; (· (repeat' first | exact fmn | refine fmc ⟨⟨nofun, fun h => by first | rfl | (simp at h; done)⟩, ?_⟩)); (· (refine ⟨rfl, ?_, ?_⟩ <;> (repeat' first | exact fmn | refine fmc ⟨?_, ?_⟩ | exact trivial | exact Zgf _ | exact ZfL _ (fun _ => rfl) _ | (intro d hd c hc; simp [D.flat, D.cells] at *)))); (· (repeat' first | exact trivial | refine ⟨.inl rfl, ?_⟩ | refine ⟨.inr ⟨_, rfl, rfl, .inr trivial⟩, ?_⟩ | refine ⟨.inr ⟨_, rfl, (by simp (disch := omega) only [go_sem, simprocAttr, hfl, htk0, List.drop_zero]; done), .inr trivial⟩, ?_⟩)); (· (repeat' first | exact fmn | refine fmc ⟨rfl, ?_⟩))) | (refine ZaN rfl rfl (fun hc => ?_) (fun hc => ?_) <;> try simp only [hcL] at hc) | (refine ZaM _ rfl rfl (fun hc => ?_) (fun hc => ?_) <;> (try simp only [hcL] at hc) <;> try omega) | simp (disch := omega) only [go_sem, simprocAttr, hfl, htk0, List.drop_zero] | apply And.intro | omega | decide +kernel
 refine Zaf (κ := Nat × List Int × List Int) (fun (q : Nat × List Int × List Int) => match q with | ⟨r, f, nd⟩ => Zfi n l r f nd = some f1 ∧ f.length = l.length ∧ nd.length = n) (fun (q : Nat × List Int × List Int) => match q with | ⟨r, f, nd⟩ => [(0, .ptr 1000 0 0 0), (2, .ref 14 1 0 n n)]) (fun (q : Nat × List Int × List Int) => match q with | ⟨r, f, nd⟩ => [(1000, pM n l l.length), (1001, .row 1 (intsL f)), (14, .row 1 (intsL nd))]) (fun (q : Nat × List Int × List Int) => match q with | ⟨r, f, nd⟩ => r) (R, f0, nd0) ?_ ?_ ?_
 ·exact ⟨hc, hfl, hnl⟩
 ·exact kN kc0 []
 ·rintro ⟨r, f, nd⟩ ⟨hcf, hfl, hnl⟩
  try dsimp only
  cases r with
  | zero => rw [Zfi] at hcf; cases hcf
  | succ r =>
   rw [Zfi] at hcf
   refine kw1 kc0 kc0 ?_
   refine Zax _ (Zd3 3 900 1 rfl rfl) ?_
   refine Zaf (κ := Nat) (fun (i : Nat) => i ≤ n) (fun (i : Nat) => [(0, .ptr 1000 0 0 0), (2, .ref 14 1 0 n n), (3, .ref 900 1 0 (ZbO nd i).length (ZbO nd i).length), (15, .ref 14 1 0 n n), (16, .int n), (17, .int i)]) (fun (i : Nat) => [(1000, pM n l l.length), (1001, .row 1 (intsL f)), (14, .row 1 (intsL nd)), (900, .row 1 (intsL (ZbO nd i)))]) (fun (i : Nat) => n - i) 0 ?_ ?_ ?_
   ·exact Nat.zero_le _
   ·exact kN kc0 []
   ·intro i hi
    rcases Nat.lt_or_ge i n with hin | hin
    ·have gi := Za0 (r := nd) (i := i) (by omega)
     have hns : ZbO nd (i + 1) = ZbO nd i ++ Zgh nd i := rfl
     have hnl2 := (ZiF nd i).2
     rcases Decidable.em (at0 nd i < 0) with hneg | hneg
     ·rw [Zgh, if_pos hneg] at hns
      refine kw1 (kc3 gi hnl @Zau) kc0 ?_
      refine ⟨i + 1, ?_, kN (kc3 hns @List.map_append.{0,0} @List.length_append.{0}) [(900, 27)], ?_⟩
      ·omega
      ·omega
     ·rw [Zgh, if_neg hneg, List.append_nil] at hns
      refine kw1 (kc3 gi hnl @Zau) kc0 ?_
      refine ⟨i + 1, ?_, kN (kc1 hns) [], ?_⟩
      ·omega
      ·omega
    ·have : i = n := by omega
     subst this
     obtain ⟨hs1, hs2⟩ := ZiF nd i
     refine Zax _ (Zdk 900 1 _ rfl (ZcR _ rfl) (by decide)) ?_
     rcases hem : (ZbO nd i).isEmpty with _ | _
     ·rw [hem] at hcf
      rw [if_neg (by decide), Zj0] at hcf
      have hpos : 0 < (ZbO nd i).length := by
       rcases Nat.eq_zero_or_pos (ZbO nd i).length with h | h
       ·rw [List.length_eq_zero_iff.1 h] at hem; cases hem
       ·exact h
      have hlong := (Zjx i l f (ZbO nd i) (by omega) (by omega) hfl (fun k b hb => by have := h4 k b hb; omega) hs1 hs2).1
      cases hW : ZbW i (Zav l f) (ZbO nd i) with
      | none => rw [hW] at hcf; cases hcf
      | some W =>
       rw [hW] at hcf
       have hlong := hlong W hW
       dsimp only at hcf
       cases hK : Zmy W (ZaR W nd i) (i + 1) with
       | none => rw [hK] at hcf; cases hcf
       | some K =>
        rw [hK] at hcf
        dsimp only at hcf
        by_cases hcond : (decide (0 ≤ ZaR W nd i) && ZgO i l.length W && inB f && inB nd) = true
        ·rw [if_pos hcond] at hcf
         dsimp only at hcf
         simp only [Bool.and_eq_true, decide_eq_true_eq] at hcond
         obtain ⟨⟨⟨c1, c2⟩, c3⟩, c4⟩ := hcond
         obtain ⟨k1, k2, k3⟩ := Zk4 hK
         have hWI := ZzP c2
         have hpk := ZjF W nd i
         have hsend := ZwA i l f W (ZaR W nd i) nd K (by omega) (hfl ▸ hWI) hnl ⟨c1, hpk.1⟩ (by omega) k3 k2 (Zj3 c3) (Zj3 c4)
         rw [hfl] at hsend
         have hnw := Zj3 c4
         have hmm := Zm0 (W := W) (v := ZaR W nd i) (m0 := at0 nd (ZaR W nd i)) (Zj3 c3) (hnw _) K
         have hsl := ZgF W f (Zeb W f nd (ZaR W nd i) K) (ZaR W nd i) K
         have hbk := ZkO hWI c1 hpk.1 K
         have hWl := hWI.1
         have htkf : (f.map D.int).take l.length = f.map D.int := by rw [← hfl]; exact Zau _ _
         repeat' first | refine ZaK rfl ?_ | refine ZaG ?_ | refine wR ?_ | (refine ZfU [(2000, 35)] (hlong) rfl rfl rfl rfl rfl rfl (Zbk rfl) ?_ ?_ ?_ ?_ rfl ?_; (· (repeat' first | exact fmn | refine fmc ⟨⟨nofun, fun h => by first | rfl | (simp at h; done)⟩, ?_⟩)); (· (refine ⟨rfl, ?_, ?_⟩ <;> (repeat' first | exact fmn | refine fmc ⟨?_, ?_⟩ | exact trivial | exact Zgf _ | exact ZfL _ (fun _ => rfl) _ | (intro d hd c hc; simp [D.flat, D.cells] at *)))); (· (repeat' first | exact trivial | refine ⟨.inl rfl, ?_⟩ | refine ⟨.inr ⟨_, rfl, rfl, .inr trivial⟩, ?_⟩ | refine ⟨.inr ⟨_, rfl, (by simp (disch := omega) only [go_sem, simprocAttr, hfl, hnl, htkf, Zau, List.drop_zero]; done), .inr trivial⟩, ?_⟩)); (· (repeat' first | exact fmn | refine fmc ⟨rfl, ?_⟩))) | (refine ZaN rfl rfl (fun hc => ?_) (fun hc => ?_) <;> try simp only [hcL] at hc) | (refine ZaM _ rfl rfl (fun hc => ?_) (fun hc => ?_) <;> (try simp only [hcL] at hc) <;> try omega) | simp (disch := omega) only [go_sem, simprocAttr, hfl, hnl, htkf, Zau, List.drop_zero] | apply And.intro | omega | decide +kernel
         refine Zaf (κ := Nat) (fun (u : Nat) => u ≤ i) (fun (u : Nat) => [(0, .ptr 1000 0 0 0), (2, .ref 14 1 0 i i), (6, .ref 35 7 0 i i), (8, .int (ZaR W nd u)), (38, .ref 14 1 0 i i), (39, .int i), (40, .int u)]) (fun (u : Nat) => [(1000, pM i l l.length), (1001, .row 1 (intsL f)), (14, .row 1 (intsL nd)), (35, .row 7 (Zdp W))]) (fun (u : Nat) => i - u) 0 ?_ ?_ ?_
         ·exact Nat.zero_le _
         ·exact kN kc0 []
         ·intro u hu
          rcases Nat.lt_or_ge u i with hui | hui
          ·have gn := Za0 (r := nd) (i := u) (by omega)
           have gw : W[u]? = some (wAt W u) := Zds (v := (u : Int)) hWl (by omega) (by omega)
           obtain ⟨q1, q2⟩ := ZjF W nd u
           have hps : ZaR W nd (u + 1) = if 0 < at0 nd u ∧ -576460752303423488 < (wAt W u).1 ∧ (ZaR W nd u < 0 ∨ (wAt W (ZaR W nd u)).1 < (wAt W u).1) then (u : Int) else ZaR W nd u := rfl
           generalize ZaR W nd u = p at q1 q2 hps ⊢
           rcases Int.lt_or_le p 0 with hp | hp
           ·rcases Decidable.em (0 < at0 nd u ∧ -576460752303423488 < (wAt W u).1) with hq | hq
            ·rw [if_pos ⟨hq.1, hq.2, .inl hp⟩] at hps
             refine kw1 (kc4 gn gw hWl hnl) kc0 ?_
             all_goals
              refine ⟨u + 1, ?_, kN (kc1 hps) [], ?_⟩
              ·omega
              ·omega
            ·rw [if_neg (by omega)] at hps
             refine kw (kc4 gn gw hWl hnl) kc0 ?_
             repeat' first | exact True.intro | refine Bn.mk ?_ ?_ | intro hc
             all_goals
              refine ⟨u + 1, ?_, kN (kc1 hps) [], ?_⟩
              ·omega
              ·omega
           ·obtain ⟨p', rfl⟩ : ∃ p' : Nat, p = p' := ⟨p.toNat, by omega⟩
            have gp : W[p']? = some (wAt W p') := Zds (v := (p' : Int)) hWl (by omega) (by omega)
            rcases Decidable.em (0 < at0 nd u ∧ -576460752303423488 < (wAt W u).1 ∧ (wAt W p').1 < (wAt W u).1) with hq | hq
            ·rw [if_pos ⟨hq.1, hq.2.1, .inr hq.2.2⟩] at hps
             refine kw1 (kc5 gn gw gp hWl hnl) kc0 ?_
             all_goals
              refine ⟨u + 1, ?_, kN (kc1 hps) [], ?_⟩
              ·omega
              ·omega
            ·rw [if_neg (by omega)] at hps
             refine kw (kc5 gn gw gp hWl hnl) kc0 ?_
             repeat' first | exact True.intro | refine Bn.mk ?_ ?_ | intro hc
             all_goals
              refine ⟨u + 1, ?_, kN (kc1 hps) [], ?_⟩
              ·omega
              ·omega
          ·have : u = i := by omega
           subst this
           refine Zax _ (Zdk 35 7 _ rfl (ZcR _ rfl) (by decide)) ?_
           have htkw : (W.map ZjS).take u = W.map ZjS := by rw [← hWl]; exact Zau _ _
           have hsm := ZkI W f nd (ZaR W nd u) K
           obtain ⟨p, hp⟩ : ∃ p : Nat, ZaR W nd u = p := ⟨(ZaR W nd u).toNat, by omega⟩
           obtain ⟨s, hs⟩ : ∃ s : Nat, Zar W (ZaR W nd u) K = s := ⟨(Zar W (ZaR W nd u) K).toNat, by omega⟩
           rw [hs] at hsend hcf hbk hsm
           rw [hp] at hsend hcf hpk hsm hmm
           rw [Int.toNat_natCast, Int.toNat_natCast] at hcf
           have gs := Za0 (r := nd) (i := s) (by omega)
           have gp := Za0 (r := nd) (i := p) (by omega)
           have ns := hnw s
           have np := hnw p
           generalize Zeb W f nd p K = m at hsend hcf hsm
           have gq : ((List.map D.int nd).set s (D.sc (.int .i64 (at0 nd s + m))))[p]? = some (D.int (at0 (nd.set s (at0 nd s + m)) p)) := by
            rw [← List.map_set, List.getElem?_map, Za0 (by rw [List.length_set]; omega)]; rfl
           have hq2 : -2251799813685248 ≤ at0 (nd.set s (at0 nd s + m)) p ∧ at0 (nd.set s (at0 nd s + m)) p ≤ 2251799813685248 := by
            rw [ZgL _ _ _ _ (by omega)]; split <;> omega
           refine kw1 (kc8 hp hfl hnl hWl htkw @List.drop_zero.{0} gs (kc2 gq @List.length_set.{0})) (kc1 (kmc [(1000, 1000), (1001, 1001), (1002, 14)] hsend)) ?_
           refine ⟨(r, ZbD W f m p K, (nd.set s (at0 nd s + m)).set p (at0 (nd.set s (at0 nd s + m)) p - m)), ?_, kN (kc1 @List.map_set.{0,0}) [], ?_⟩
           ·exact ⟨hcf, by rw [ZgF, hfl], by rw [List.length_set, List.length_set, hnl]⟩
           ·show r < r + 1
            omega
        ·rw [if_neg hcond] at hcf; cases hcf
     ·rw [hem, if_pos rfl] at hcf
      cases hcf
      have h0 : (ZbO nd i).length = 0 := by
       rw [List.isEmpty_iff] at hem; rw [hem]; rfl
      refine ZcL (kc1 h0) kc0 ?_
      refine ZaG ?_
      exact ⟨⟨_, rfl, trivial⟩, List.forall_mem_cons.2 ⟨rfl, List.forall_mem_cons.2 ⟨rfl, List.forall_mem_nil _⟩⟩⟩
def zeros (l : List Bd) : List Int := List.replicate l.length 0
theorem Zkw (n : Nat) : (∀ x ∈ ZbU n, 0 ≤ x ∧ x < (n : Int)) ∧ (ZbU n).length = n := by
 refine ⟨fun x hx => ?_, by simp [ZbU]⟩
 obtain ⟨u, hu, rfl⟩ := List.mem_map.1 hx
 have := List.mem_range.1 hu
 omega
theorem ZnY (n : Nat) (l : List Bd) : pD n l (zeros l) = .pt [.int n, Zed l, .sl (List.replicate l.length (D.sc (.int .i64 0)))] := by simp [pD, zeros]
theorem ZvQ (n : Nat) (l : List Bd) (hg : nOk (n, l) = true) (hno : ZbW n (Zav l (zeros l)) (ZbU n) = none) :
  Zai Tryz.prog 96 [.d (nD (n, l))] [(2000, .dead), (2001, .dead)] (.tup [.nilS, .nilS, .int 9]) [(2000, .dead), (2001, .dead)] := by
 have hv : Zaa Tryz.prog 159 [nD (n, l)] (.bool true) := hg ▸ Ze5 (n, l)
 obtain ⟨h1, h2, h3, h4⟩ := ZgV hg
 dsimp only at h1 h2 h3 h4
 obtain ⟨a1, a2⟩ := Zkw n
 have hall := Znc n l (zeros l) (by omega)
 have hlong := (Zjx n l (zeros l) (ZbU n) (by omega) (by omega) (by simp [zeros]) (fun k b hb => by have := h4 k b hb; omega) a1 (by omega)).2 hno
 have htk : (List.replicate l.length (D.sc (.int .i64 0))).take l.length = List.replicate l.length (D.sc (.int .i64 0)) := List.take_of_length_le (by simp)
 have htk2 : ((ZbU n).map D.int).take n = (ZbU n).map D.int := List.take_of_length_le (by simp [a2])
 rw [ZnY] at hall hlong
 refine kM Tryz.func96 ?_
 intro B X w0
 repeat' first | refine ZaK rfl ?_ | refine wR ?_ | (refine rc (hv) rfl ?_ ?_; (· first | rfl | simp (disch := omega) only [go_sem, simprocAttr, htk, htk2, a2, List.drop_zero, List.map_replicate, List.length_replicate])) | (refine ZfU [(2000, 25)] (hall) rfl rfl rfl rfl rfl rfl (Zbk rfl) ?_ ?_ ?_ ?_ rfl ?_; (· (repeat' first | exact fmn | refine fmc ⟨⟨nofun, fun h => by first | rfl | (simp at h; done)⟩, ?_⟩)); (· (refine ⟨rfl, ?_, ?_⟩ <;> (repeat' first | exact fmn | refine fmc ⟨?_, ?_⟩ | exact trivial | exact Zgf _ | exact ZfL _ (fun _ => rfl) _ | (intro d hd c hc; simp [D.flat, D.cells] at *)))); (· (repeat' first | exact trivial | refine ⟨.inl rfl, ?_⟩ | refine ⟨.inr ⟨_, rfl, rfl, .inr trivial⟩, ?_⟩ | refine ⟨.inr ⟨_, rfl, (by simp (disch := omega) only [go_sem, simprocAttr, htk, htk2, a2, List.drop_zero, List.map_replicate, List.length_replicate]; done), .inr trivial⟩, ?_⟩)); (· (repeat' first | exact fmn | refine fmc ⟨rfl, ?_⟩))) | (refine ZfU [(2000, 26)] (hlong) rfl rfl rfl rfl rfl rfl (Zbk rfl) ?_ ?_ ?_ ?_ rfl ?_; (· (repeat' first | exact fmn | refine fmc ⟨⟨nofun, fun h => by first | rfl | (simp at h; done)⟩, ?_⟩)); (· (refine ⟨rfl, ?_, ?_⟩ <;> (repeat' first | exact fmn | refine fmc ⟨?_, ?_⟩ | exact trivial | exact Zgf _ | exact ZfL _ (fun _ => rfl) _ | (intro d hd c hc; simp [D.flat, D.cells] at *)))); (· (repeat' first | exact trivial | refine ⟨.inl rfl, ?_⟩ | refine ⟨.inr ⟨_, rfl, rfl, .inr trivial⟩, ?_⟩ | refine ⟨.inr ⟨_, rfl, (by simp (disch := omega) only [go_sem, simprocAttr, htk, htk2, a2, List.drop_zero, List.map_replicate, List.length_replicate]; done), .inr trivial⟩, ?_⟩)); (· (repeat' first | exact fmn | refine fmc ⟨rfl, ?_⟩))) | (refine ZaN rfl rfl (fun hc => ?_) (fun hc => ?_) <;> try simp only [hcL] at hc) | (refine ZaM _ rfl rfl (fun hc => ?_) (fun hc => ?_) <;> (try simp only [hcL] at hc) <;> try omega) | simp (disch := omega) only [go_sem, simprocAttr, htk, htk2, a2, List.drop_zero, List.map_replicate, List.length_replicate] | apply And.intro | omega | decide +kernel
 refine ZaG ?_
 exact ⟨⟨_, rfl, rfl, rfl, rfl, trivial⟩, List.forall_mem_cons.2 ⟨rfl, List.forall_mem_cons.2 ⟨rfl, List.forall_mem_nil _⟩⟩⟩
def ZeN (W : List Way) : List Int := W.map (·.1)
theorem ZpW (n : Nat) (l : List Bd) (f : List Int) (R : Nat) (W0 W : List Way) (hg : nOk (n, l) = true) (h0 : ZbW n (Zav l (zeros l)) (ZbU n) = some W0)
  (hc : Zfi n l R (zeros l) (ZbB l n l.length) = some f) (hfl : f.length = l.length) (hW : ZbW n (Zav l f) (ZbU n) = some W) (hWl : W.length = n) :
  Zai Tryz.prog 96 [.d (nD (n, l))] [(2000, .dead), (2001, .dead)] (.tup [.ref 2000 1 0 n n, .ref 2001 1 0 l.length l.length, .int 0]) [(2000, .row 1 (intsL (ZeN W))), (2001, .row 1 (intsL f))] := by
 have hv : Zaa Tryz.prog 159 [nD (n, l)] (.bool true) := hg ▸ Ze5 (n, l)
 obtain ⟨h1, h2, h3, h4⟩ := ZgV hg
 dsimp only at h1 h2 h3 h4
 obtain ⟨a1, a2⟩ := Zkw n
 have hall := Znc n l (zeros l) (by omega)
 have hall2 := Znc n l f (by omega)
 have hlong := (Zjx n l (zeros l) (ZbU n) (by omega) (by omega) (by simp [zeros]) (fun k b hb => by have := h4 k b hb; omega) a1 (by omega)).1 W0 h0
 have hlong2 := (Zjx n l f (ZbU n) (by omega) (by omega) hfl (fun k b hb => by have := h4 k b hb; omega) a1 (by omega)).1 W hW
 have hcert := Zzw n l (zeros l) f R hg (by simp [zeros]) hc
 have htk : (List.replicate l.length (D.sc (.int .i64 0))).take l.length = List.replicate l.length (D.sc (.int .i64 0)) := List.take_of_length_le (by simp)
 have htk2 : ((ZbU n).map D.int).take n = (ZbU n).map D.int := List.take_of_length_le (by simp [a2])
 have htk3 : (f.map D.int).take l.length = f.map D.int := List.take_of_length_le (by simp [hfl])
 have hz : intsL (zeros l) = List.replicate l.length (D.sc (.int .i64 0)) := by simp [zeros]
 rw [hz] at hcert
 rw [ZnY] at hall hlong
 refine kM Tryz.func96 ?_
 intro B X w0
 repeat' first | refine ZaK rfl ?_ | refine wR ?_ | (refine rc (hv) rfl ?_ ?_; (· first | rfl | simp (disch := omega) only [go_sem, simprocAttr, htk, htk2, htk3, a2, hfl, List.drop_zero, List.map_replicate, List.length_replicate])) | (refine ZfU [(2000, 25)] (hall) rfl rfl rfl rfl rfl rfl (Zbk rfl) ?_ ?_ ?_ ?_ rfl ?_; (· (repeat' first | exact fmn | refine fmc ⟨⟨nofun, fun h => by first | rfl | (simp at h; done)⟩, ?_⟩)); (· (refine ⟨rfl, ?_, ?_⟩ <;> (repeat' first | exact fmn | refine fmc ⟨?_, ?_⟩ | exact trivial | exact Zgf _ | exact ZfL _ (fun _ => rfl) _ | (intro d hd c hc; simp [D.flat, D.cells] at *)))); (· (repeat' first | exact trivial | refine ⟨.inl rfl, ?_⟩ | refine ⟨.inr ⟨_, rfl, rfl, .inr trivial⟩, ?_⟩ | refine ⟨.inr ⟨_, rfl, (by simp (disch := omega) only [go_sem, simprocAttr, htk, htk2, htk3, a2, hfl, List.drop_zero, List.map_replicate, List.length_replicate]; done), .inr trivial⟩, ?_⟩)); (· (repeat' first | exact fmn | refine fmc ⟨rfl, ?_⟩))) | (refine ZfU [(2000, 26)] (hlong) rfl rfl rfl rfl rfl rfl (Zbk rfl) ?_ ?_ ?_ ?_ rfl ?_; (· (repeat' first | exact fmn | refine fmc ⟨⟨nofun, fun h => by first | rfl | (simp at h; done)⟩, ?_⟩)); (· (refine ⟨rfl, ?_, ?_⟩ <;> (repeat' first | exact fmn | refine fmc ⟨?_, ?_⟩ | exact trivial | exact Zgf _ | exact ZfL _ (fun _ => rfl) _ | (intro d hd c hc; simp [D.flat, D.cells] at *)))); (· (repeat' first | exact trivial | refine ⟨.inl rfl, ?_⟩ | refine ⟨.inr ⟨_, rfl, rfl, .inr trivial⟩, ?_⟩ | refine ⟨.inr ⟨_, rfl, (by simp (disch := omega) only [go_sem, simprocAttr, htk, htk2, htk3, a2, hfl, List.drop_zero, List.map_replicate, List.length_replicate]; done), .inr trivial⟩, ?_⟩)); (· (repeat' first | exact fmn | refine fmc ⟨rfl, ?_⟩))) | refine rcM [(1000, 21), (1001, 19)] (hcert) rfl ?_ | (refine ZfU [(2000, 36)] (hall2) rfl rfl rfl rfl rfl rfl (Zbk rfl) ?_ ?_ ?_ ?_ rfl ?_; (· (repeat' first | exact fmn | refine fmc ⟨⟨nofun, fun h => by first | rfl | (simp at h; done)⟩, ?_⟩)); (· (refine ⟨rfl, ?_, ?_⟩ <;> (repeat' first | exact fmn | refine fmc ⟨?_, ?_⟩ | exact trivial | exact Zgf _ | exact ZfL _ (fun _ => rfl) _ | (intro d hd c hc; simp [D.flat, D.cells] at *)))); (· (repeat' first | exact trivial | refine ⟨.inl rfl, ?_⟩ | refine ⟨.inr ⟨_, rfl, rfl, .inr trivial⟩, ?_⟩ | refine ⟨.inr ⟨_, rfl, (by simp (disch := omega) only [go_sem, simprocAttr, htk, htk2, htk3, a2, hfl, List.drop_zero, List.map_replicate, List.length_replicate]; done), .inr trivial⟩, ?_⟩)); (· (repeat' first | exact fmn | refine fmc ⟨rfl, ?_⟩))) | (refine ZfU [(2000, 37)] (hlong2) rfl rfl rfl rfl rfl rfl (Zbk rfl) ?_ ?_ ?_ ?_ rfl ?_; (· (repeat' first | exact fmn | refine fmc ⟨⟨nofun, fun h => by first | rfl | (simp at h; done)⟩, ?_⟩)); (· (refine ⟨rfl, ?_, ?_⟩ <;> (repeat' first | exact fmn | refine fmc ⟨?_, ?_⟩ | exact trivial | exact Zgf _ | exact ZfL _ (fun _ => rfl) _ | (intro d hd c hc; simp [D.flat, D.cells] at *)))); (· (repeat' first | exact trivial | refine ⟨.inl rfl, ?_⟩ | refine ⟨.inr ⟨_, rfl, rfl, .inr trivial⟩, ?_⟩ | refine ⟨.inr ⟨_, rfl, (by simp (disch := omega) only [go_sem, simprocAttr, htk, htk2, htk3, a2, hfl, List.drop_zero, List.map_replicate, List.length_replicate]; done), .inr trivial⟩, ?_⟩)); (· (repeat' first | exact fmn | refine fmc ⟨rfl, ?_⟩))) | (refine ZaN rfl rfl (fun hc => ?_) (fun hc => ?_) <;> try simp only [hcL] at hc) | (refine ZaM _ rfl rfl (fun hc => ?_) (fun hc => ?_) <;> (try simp only [hcL] at hc) <;> try omega) | simp (disch := omega) only [go_sem, simprocAttr, htk, htk2, htk3, a2, hfl, List.drop_zero, List.map_replicate, List.length_replicate] | apply And.intro | omega | decide +kernel
 refine Zaf (κ := Nat) (fun (k : Nat) => k ≤ n) (fun (k : Nat) => [(5, .ptr 21 0 0 0), (8, .ref 37 7 0 n n), (10, .ref 42 1 0 n n), (44, .int n), (45, .int k)]) (fun (k : Nat) => [(21, .cells [.int n, .d (Zed l), .ref 19 1 0 l.length l.length]), (19, .row 1 (intsL f)), (37, .row 7 (Zdp W)), (42, .row 1 ((Zbf (fun v => (wAt W v).1) n k).map D.int))]) (fun (k : Nat) => n - k) 0 ?_ ?_ ?_
 ·exact Nat.zero_le _
 ·exact kN (kc1 @ZiJ) []
 ·intro k hk
  have hlen := ZdB (fun v => (wAt W v).1) n k
  rcases Nat.lt_or_ge k n with hlt | hge
  ·have gw : W[k]? = some (wAt W k) := Zds (v := (k : Int)) hWl (by omega) (by omega)
   have hst := ZhY (g := fun v => (wAt W v).1) hlt
   have gf : (Zbf (fun v => (wAt W v).1) n k)[k]? = _ := ZeM hlt
   refine kw1 (kc4 gw gf hWl hlen) kc0 ?_
   refine ⟨k + 1, ?_, kN (kc2 @hst.symm @List.map_set.{0,0}) [], ?_⟩
   ·omega
   ·omega
  ·refine ZcL kc0 kc0 ?_
   have : k = n := by omega
   subst this
   have e : Zbf (fun v => (wAt W v).1) k k = ZeN W := by
    rw [Zid]
    refine List.ext_getElem? fun u => ?_
    rw [ZeN, List.getElem?_map, List.getElem?_map]
    rcases Nat.lt_or_ge u k with hu | hu
    ·have gw : W[u]? = some (wAt W u) := Zds (v := (u : Int)) hWl (by omega) (by omega)
     rw [gw, List.getElem?_range hu]; rfl
    ·rw [List.getElem?_eq_none (by simpa using hu), List.getElem?_eq_none (by omega)]; rfl
   refine kR kc0 [(2000, 42), (2001, 19)] [(2, .ref 2000 1 0 _ _), (3, .ref 2001 1 0 _ _), (4, .int 0)] [(2000, .row 1 _), (2001, .row 1 _)] ?_
   refine ZaG ?_
   exact ⟨⟨_, rfl, rfl, rfl, rfl, trivial⟩, List.forall_mem_cons.2 ⟨Zq6 (by rw [e]), List.forall_mem_cons.2 ⟨rfl, List.forall_mem_nil _⟩⟩⟩
def SolveOk (g : Net) (a f : List Int) : Prop := ∃ n : Nat, g.1 = n ∧ a.length = n ∧ f.length = g.2.length ∧
 Zai Tryz.prog 96 [.d (nD g)] [(2000, .dead), (2001, .dead)] (.tup [.ref 2000 1 0 n n, .ref 2001 1 0 g.2.length g.2.length, .int 0]) [(2000, .row 1 (intsL a)), (2001, .row 1 (intsL f))]
def SolveNo (g : Net) (e : Int) : Prop := Zai Tryz.prog 96 [.d (nD g)] [(2000, .dead), (2001, .dead)] (.tup [.nilS, .nilS, .int e]) [(2000, .dead), (2001, .dead)]
theorem Zi5 (x : Int) : x.fdiv (2 ^ min 1 64) = x / 2 := by
 have : (2 : Int) ^ min 1 64 = 2 := by decide
 rw [this, Int.fdiv_eq_ediv_of_nonneg _ (by decide)]
theorem solve_of (n : Nat) (l : List Bd) (R : Nat) (a f : List Int) (hg : nOk (n, l) = true) (h0 : (ZbW n (Zav l (zeros l)) (ZbU n)).isSome = true)
  (hc : Zfi n l R (zeros l) (ZbB l n l.length) = some f) (hfl : f.length = l.length) (hW : (ZbW n (Zav l f) (ZbU n)).map ZeN = some a) (hal : a.length = n) : SolveOk (n, l) a f := by
 obtain ⟨W0, h0⟩ := Option.isSome_iff_exists.1 h0
 cases h : ZbW n (Zav l f) (ZbU n) with
 | none => rw [h] at hW; cases hW
 | some W =>
  rw [h] at hW
  simp only [Option.map_some, Option.some.injEq] at hW
  subst hW
  exact ⟨n, rfl, hal, hfl, ZpW n l f R W0 W hg h0 hc hfl h (by simpa [ZeN] using hal)⟩
end Go.Proofs.YtjjbhjnpeenbkaaGreatDoor.Sx
