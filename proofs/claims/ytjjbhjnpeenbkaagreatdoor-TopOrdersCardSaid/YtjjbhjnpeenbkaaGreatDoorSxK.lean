/- Longest ways: what the search does, and ZbW which bounds. -/
import Derived.Test.YtjjbhjnpeenbkaaGreatDoorBaF
set_option linter.unusedSimpArgs false
set_option linter.unusedVariables false
set_option maxHeartbeats 16000000
namespace Go.Proofs.YtjjbhjnpeenbkaaGreatDoor.Sx
open Go Go.PS Go.Proofs

abbrev Way := Int × Int × Stp × Bool
abbrev Zkf (w : Way) : D := .ag [.int w.1, .int w.2.1, .int w.2.2.1.1, .int w.2.2.1.2.1, .int w.2.2.1.2.2.1, .bool w.2.2.1.2.2.2, .bool w.2.2.2]
def ZhP : Way := (0, 0, (0, 0, 0, false), false)
def Zdu : Way := (-1152921504606846976, 0, (0, 0, 0, false), false)
def ZcV : Way := (0, 0, (0, 0, 0, false), true)
abbrev LS := List Way × List Bool × List Int
def wAt (W : List Way) (v : Int) : Way := (W[v.toNat]?).getD Zdu
def bAt (B : List Bool) (v : Int) : Bool := (B[v.toNat]?).getD true
def Za3 (v : Int) (σ : LS) (s : Stp) : LS :=
 if (wAt σ.1 s.1).1 < (wAt σ.1 v).1 + s.2.1 then
  (σ.1.set s.1.toNat ((wAt σ.1 v).1 + s.2.1, v, s, false), if bAt σ.2.1 s.1 then σ.2 else (σ.2.1.set s.1.toNat true, σ.2.2 ++ [s.1]))
 else σ
def ZaZ (L : List Stp) (v : Int) (σ : LS) (i : Nat) : LS := (L.take i).foldl (Za3 v) (σ.1, σ.2.1.set v.toNat false, σ.2.2)
def ZxZ (ST : Nat → List Stp) (σ : LS) (v : Int) : LS := ZaZ (ST v.toNat) v σ (ST v.toNat).length
def Zbi (ST : Nat → List Stp) (σ : LS) (j : Nat) : LS := (σ.2.2.take j).foldl (ZxZ ST) (σ.1, σ.2.1, [])
def Zav (ST : Nat → List Stp) (σ : LS) : Nat → LS
 | 0 => σ
 | k + 1 => Zbi ST (Zav ST σ k) (Zav ST σ k).2.2.length
theorem ZmL {α β : Type} {f : β → α → β} {l : List α} {k : Nat} {x : α} (a : β) (h : l[k]? = some x) : (l.take (k + 1)).foldl f a = f ((l.take k).foldl f a) x := by
 rw [ZaD h, List.foldl_append]; rfl
theorem Ziy {L : List Stp} {v : Int} {σ : LS} {i : Nat} {s : Stp} (h : L[i]? = some s) : ZaZ L v σ (i + 1) = Za3 v (ZaZ L v σ i) s := ZmL _ h
theorem Zh7 {ST : Nat → List Stp} {σ : LS} {j : Nat} {v : Int} (h : σ.2.2[j]? = some v) : Zbi ST σ (j + 1) = ZaZ (ST v.toNat) v (Zbi ST σ j) (ST v.toNat).length := ZmL _ h

def Zec (n : Nat) (U : Int) (c : Nat) (σ : LS) : Prop :=
 σ.1.length = n ∧ σ.2.1.length = n ∧ (∀ x ∈ σ.2.2, 0 ≤ x ∧ x < (n : Int)) ∧ (∀ w ∈ σ.1, -1152921504606846976 ≤ w.1 ∧ w.1 ≤ U) ∧ σ.2.2.length ≤ σ.2.1.count true + c
def ZgM (n : Nat) (v : Int) (L : List Stp) : Prop := ∀ s ∈ L, 0 ≤ s.1 ∧ s.1 < (n : Int) ∧ s.1 ≠ v ∧ -16777216 ≤ s.2.1 ∧ s.2.1 ≤ 16777216
theorem ZvU (l : List Bool) : ∀ v, l.count true ≤ (l.set v false).count true + 1 := by
 induction l with
 | nil => intro v; simp
 | cons b l ih =>
  intro v;cases v with
  | zero => cases b <;> simp
  | succ v => have := ih v; cases b <;> simp <;> omega
theorem ZzC (l : List Bool) : ∀ v, l[v]? = some false → (l.set v true).count true = l.count true + 1 := by
 induction l with
 | nil => intro v h; simp at h
 | cons b l ih =>
  intro v h;cases v with
  | zero => simp at h; subst h; simp
  | succ v => have := ih v (by simpa using h); cases b <;> simp <;> omega
theorem Zdt {W : List Way} {v : Int} {n : Nat} (hW : W.length = n) (h1 : 0 ≤ v) (h2 : v < (n : Int)) : W[v.toNat]? = some (wAt W v) := by
 obtain ⟨x, hx⟩ := Zad (show v.toNat < W.length by omega);rw [wAt, hx]; rfl
theorem Zk4 {W : List Bool} {v : Int} {n : Nat} (hW : W.length = n) (h1 : 0 ≤ v) (h2 : v < (n : Int)) : W[v.toNat]? = some (bAt W v) := by
 obtain ⟨x, hx⟩ := Zad (show v.toNat < W.length by omega);rw [bAt, hx]; rfl
theorem ZfL {W : List Way} {u v : Int} {x : Way} (h1 : 0 ≤ u) (h2 : 0 ≤ v) (h3 : v.toNat < W.length) : wAt (W.set v.toNat x) u = if u = v then x else wAt W u := by
 rw [wAt, List.getElem?_set];by_cases h : u = v
 ·subst h; rw [if_pos rfl, if_pos h3, if_pos rfl]; rfl
 ·rw [if_neg (by omega), if_neg h]; rfl
theorem Zvt {n c : Nat} {U v : Int} {σ : LS} {s : Stp} (h : Zec n (U + 16777216) c σ) (hv : (wAt σ.1 v).1 ≤ U) (h0 : 0 ≤ v) (hs : 0 ≤ s.1 ∧ s.1 < (n : Int) ∧ s.1 ≠ v ∧ -16777216 ≤ s.2.1 ∧ s.2.1 ≤ 16777216) :
  Zec n (U + 16777216) c (Za3 v σ s) ∧ (wAt (Za3 v σ s).1 v).1 ≤ U := by
 obtain ⟨g1, g2, g3, g4, g5⟩ := h;obtain ⟨s1, s2, s3, s4, s5⟩ := hs;rw [Za3];split
 ·rename_i hlt;have hold := g4 _ (List.mem_of_getElem? (Zdt g1 s1 s2));refine ⟨⟨by simp [g1], ?_, ?_, ?_, ?_⟩, ?_⟩
  ·split
   ·exact g2
   ·simp [g2]
  ·split
   ·exact g3
   ·intro x hx;rcases List.mem_append.1 hx with hx | hx
    ·exact g3 x hx
    ·rw [List.mem_singleton.1 hx]; exact ⟨s1, s2⟩
  ·intro w hw;rcases List.mem_or_eq_of_mem_set hw with hw | rfl
   ·exact g4 w hw
   ·dsimp only; omega
  ·split
   ·exact g5
   ·rename_i hb;have hb : bAt σ.2.1 s.1 = false := by simpa using hb
    have := ZzC σ.2.1 s.1.toNat (by rw [Zk4 g2 s1 s2, hb]);dsimp only;rw [List.length_append, this, List.length_singleton]; omega
  ·dsimp only;rw [ZfL h0 s1 (by omega), if_neg (by omega)]; exact hv
 ·exact ⟨⟨g1, g2, g3, g4, g5⟩, hv⟩
theorem ZsL {n c c' : Nat} {U U' : Int} {σ : LS} (h : Zec n U c σ) (hU : U ≤ U') (hc : c ≤ c') : Zec n U' c' σ := by
 obtain ⟨g1, g2, g3, g4, g5⟩ := h;exact ⟨g1, g2, g3, fun w hw => by have := g4 w hw; omega, by omega⟩
theorem ZoM {n c : Nat} {U v : Int} {σ : LS} {L : List Stp} (h : Zec n U c σ) (h0 : 0 ≤ v) (hvn : v < (n : Int)) (hL : ZgM n v L) :
  ∀ i, Zec n (U + 16777216) (c + 1) (ZaZ L v σ i) ∧ (wAt (ZaZ L v σ i).1 v).1 ≤ U := by
 intro i
 induction i with
 | zero =>
  obtain ⟨g1, g2, g3, g4, g5⟩ := h;have := ZvU σ.2.1 v.toNat;exact ⟨⟨g1, by simp [ZaZ, g2], g3, fun w hw => by have := g4 w hw; omega, by simp only [ZaZ, List.take_zero, List.foldl_nil]; omega⟩, (g4 _ (List.mem_of_getElem? (Zdt g1 h0 hvn))).2⟩
 | succ i ih =>
  rcases Nat.lt_or_ge i L.length with hi | hi
  ·obtain ⟨s, hs⟩ := Zad hi;rw [Ziy hs];exact Zvt ih.1 ih.2 h0 (hL s (List.mem_of_getElem? hs))
  ·have : ZaZ L v σ (i + 1) = ZaZ L v σ i := by rw [ZaZ, ZaZ, List.take_of_length_le (by omega), List.take_of_length_le hi]
   rw [this]; exact ih
theorem Zlq {n c : Nat} {U : Int} {σ : LS} {ST : Nat → List Stp} (h : Zec n U c σ) (hST : ∀ v : Nat, v < n → ZgM n v (ST v)) :
  ∀ j, j ≤ σ.2.2.length → Zec n (U + 16777216 * j) j (Zbi ST σ j) := by
 intro j
 induction j with
 | zero => intro _; obtain ⟨g1, g2, g3, g4, g5⟩ := h; exact ⟨g1, g2, by simp [Zbi], fun w hw => by have := g4 w hw; omega, by simp [Zbi]⟩
 | succ j ih =>
  intro hj;obtain ⟨v, hv⟩ := Zad (show j < σ.2.2.length by omega);have hvb := h.2.2.1 v (List.mem_of_getElem? hv);rw [Zh7 hv];refine ZsL (ZoM (ih (by omega)) hvb.1 hvb.2 (?_) _).1 (by omega) (Nat.le_refl _);have := hST v.toNat (by omega)
  rwa [show ((v.toNat : Nat) : Int) = v by omega] at this
theorem ZoS {n : Nat} {σ : LS} {ST : Nat → List Stp} (hn : n ≤ 2048) (h : Zec n 0 σ.2.2.length σ) (hq : σ.2.2.length ≤ n) (hST : ∀ v : Nat, v < n → ZgM n v (ST v)) :
  ∀ k, k ≤ n + 1 → Zec n (70437463654400 * k) (Zav ST σ k).2.2.length (Zav ST σ k) ∧ (Zav ST σ k).2.2.length ≤ n * (k + 1) := by
 intro k
 induction k with
 | zero => intro _; exact ⟨by simpa [Zav] using h, by simpa [Zav] using hq⟩
 | succ k ih =>
  intro hk;obtain ⟨h1, h2⟩ := ih (by omega);have h3 := Zlq h1 hST (Zav ST σ k).2.2.length (Nat.le_refl _);have hqk : (Zav ST σ k).2.2.length ≤ 4198400 := by
   have : n * (k + 1) ≤ 2048 * 2050 := Nat.mul_le_mul hn (by omega);omega
  obtain ⟨g1, g2, g3, g4, g5⟩ := h3;have hc : ((Zbi ST (Zav ST σ k) (Zav ST σ k).2.2.length).2.1).count true ≤ n := by rw [← g2]; exact List.count_le_length
  refine ⟨⟨g1, g2, g3, fun w hw => ?_, by simp only [Zav]; omega⟩, ?_⟩
  ·have := g4 w hw; omega
  ·simp only [Zav];have : n * (k + 1 + 1) = n * (k + 1) + n := by rw [Nat.mul_succ]
   omega
def Zdx (n : Nat) (st : List Int) (j : Nat) : List Way := (st.take j).foldl (fun W v => W.set v.toNat ZcV) (List.replicate n Zdu)
theorem ZnI {n : Nat} {st : List Int} {j : Nat} {v : Int} (h : st[j]? = some v) : Zdx n st (j + 1) = (Zdx n st j).set v.toNat ZcV := ZmL _ h
theorem Zg7 (n : Nat) (st : List Int) : ∀ j, (Zdx n st j).length = n := by
 intro j;rw [Zdx];generalize st.take j = l;have : ∀ (l : List Int) (W : List Way), (l.foldl (fun W v => W.set v.toNat ZcV) W).length = W.length := by
  intro l
  induction l with
  | nil => intro W; rfl
  | cons v l ih => intro W; rw [List.foldl_cons, ih]; simp
 rw [this]; simp
theorem ZwI (n : Nat) (st : List Int) (j : Nat) : ∀ w ∈ Zdx n st j, w = Zdu ∨ w = ZcV := by
 rw [Zdx];generalize st.take j = l;have : ∀ (l : List Int) (W : List Way), (∀ w ∈ W, w = Zdu ∨ w = ZcV) → ∀ w ∈ l.foldl (fun W v => W.set v.toNat ZcV) W, w = Zdu ∨ w = ZcV := by
  intro l
  induction l with
  | nil => intro W h; exact h
  | cons v l ih =>
   intro W h;rw [List.foldl_cons];refine ih _ fun w hw => ?_
   rcases List.mem_or_eq_of_mem_set hw with hw | rfl
   ·exact h w hw
   ·exact .inr rfl
 exact this l _ fun w hw => .inl (List.eq_of_mem_replicate hw)
def Zas (n : Nat) (st : List Int) : LS := (Zdx n st st.length, List.replicate n false, st)
theorem ZqA {n : Nat} {st : List Int} (hst : ∀ x ∈ st, 0 ≤ x ∧ x < (n : Int)) : Zec n 0 (Zas n st).2.2.length (Zas n st) := by
 refine ⟨Zg7 _ _ _, by simp [Zas], hst, fun w hw => ?_, by omega⟩;rcases ZwI _ _ _ w hw with rfl | rfl <;> simp [Zdu, ZcV]
def Zhk (n : Nat) (ST : Nat → List Stp) (st : List Int) : Option Nat := ZbO (fun k => (Zav ST (Zas n st) k).2.2.isEmpty) (n + 2)
def ZbJ (n : Nat) (ST : Nat → List Stp) (st : List Int) : Option (List Way) := (Zhk n ST st).map fun k => (Zav ST (Zas n st) k).1
end Go.Proofs.YtjjbhjnpeenbkaaGreatDoor.Sx
namespace Go.Proofs.YtjjbhjnpeenbkaaGreatDoor.Sx
open Go Go.PS Go.Proofs
set_option maxRecDepth 100000
attribute [local irreducible] Zab wpG Zaa Zaf

theorem Zx3 {v : Int} {σ : LS} {s : Stp} (h : ¬ (wAt σ.1 s.1).1 < (wAt σ.1 v).1 + s.2.1) : Za3 v σ s = σ := by rw [Za3, if_neg h]
theorem Zw6 {v : Int} {σ : LS} {s : Stp} (h : (wAt σ.1 s.1).1 < (wAt σ.1 v).1 + s.2.1) (hb : bAt σ.2.1 s.1 = true) :
  Za3 v σ s = (σ.1.set s.1.toNat ((wAt σ.1 v).1 + s.2.1, v, s, false), σ.2.1, σ.2.2) := by rw [Za3, if_pos h, if_pos hb]
theorem Zt6 {v : Int} {σ : LS} {s : Stp} (h : (wAt σ.1 s.1).1 < (wAt σ.1 v).1 + s.2.1) (hb : bAt σ.2.1 s.1 = false) :
  Za3 v σ s = (σ.1.set s.1.toNat ((wAt σ.1 v).1 + s.2.1, v, s, false), σ.2.1.set s.1.toNat true, σ.2.2 ++ [s.1]) := by
 rw [Za3, if_pos h, if_neg (by rw [hb]; exact Bool.false_ne_true)]
abbrev Zdj (W : List Way) : List D := W.map Zkf
abbrev Zll (B : List Bool) : List D := B.map D.bool
abbrev intsL (l : List Int) : List D := l.map D.int
def Zej (n k : Nat) : List Way := (List.range n).map fun u => if u < k then Zdu else ZhP
theorem ZiB (n k : Nat) : (Zej n k).length = n := by simp [Zej]
theorem Zj8 {n k u : Nat} (h : u < n) : (Zej n k)[u]? = some (if u < k then Zdu else ZhP) := by simp [Zej, h]
theorem Zxb (n : Nat) : Zdj (Zej n 0) = List.replicate n (Zkf ZhP) := by
 rw [List.eq_replicate_iff];refine ⟨by simp [Zej], fun b hb => ?_⟩;simp only [Zej, List.map_map, List.mem_map, Zdj] at hb;obtain ⟨u, _, rfl⟩ := hb;simp
theorem Zxi {n k : Nat} (h : k < n) : (Zej n k).set k Zdu = Zej n (k + 1) := by
 refine List.ext_getElem? fun u => ?_
 by_cases hu : u < n
 ·rw [Zj8 hu, List.getElem?_set, Zj8 hu, ZiB];by_cases c : k = u
  ·subst c; rw [if_pos rfl, if_pos h, if_pos (by omega)]
  ·rw [if_neg c];by_cases c2 : u < k
   ·rw [if_pos c2, if_pos (by omega)]
   ·rw [if_neg c2, if_neg (by omega)]
 ·rw [List.getElem?_eq_none (by rw [List.length_set, ZiB]; omega), List.getElem?_eq_none (by rw [ZiB]; omega)]
theorem Zy4 (n : Nat) (st : List Int) : Zej n n = Zdx n st 0 := by
 refine List.ext_getElem? fun u => ?_
 by_cases hu : u < n
 ·rw [Zj8 hu, if_pos hu]; simp [Zdx, hu]
 ·rw [List.getElem?_eq_none (by rw [ZiB]; omega), List.getElem?_eq_none (by rw [Zg7]; omega)]
def Zar (l : List Bd) (f : List Int) (v : Nat) : List Stp := Zea l f v l.length
theorem ZxH {n : Nat} {l : List Bd} {f : List Int}
  (hb : ∀ (k : Nat) b, l[k]? = some b → 0 ≤ b.1 ∧ b.1 < n ∧ 0 ≤ b.2.1 ∧ b.2.1 < n ∧ b.1 ≠ b.2.1 ∧ -16777216 ≤ b.2.2.1 ∧ b.2.2.1 ≤ 16777216) (v : Nat) : ZgM n v (Zar l f v) := by
 have key : ∀ k, ZgM n v (Zea l f v k) := by
  intro k
  induction k with
  | zero => intro s hs; simp [Zea, Zbq] at hs
  | succ k ih =>
   intro s hs;simp only [Zea, Zbq] at hs;rcases List.mem_append.1 hs with hs | hs
   ·exact ih s hs
   ·rw [ZgL] at hs;split at hs
    ·rename_i b hbk;have := hb k b hbk;rcases List.mem_append.1 hs with hs | hs
     ·split at hs
      ·rw [List.mem_singleton.1 hs]; dsimp only; omega
      ·simp at hs
     ·split at hs
      ·rw [List.mem_singleton.1 hs]; dsimp only; omega
      ·simp at hs
    ·simp at hs
 exact key _
theorem ZuO (ST : Nat → List Stp) (σ : LS) : Zbi ST σ 0 = (σ.1, σ.2.1, []) := rfl
theorem Zsb (L : List Stp) (v : Int) (σ : LS) : ZaZ L v σ 0 = (σ.1, σ.2.1.set v.toNat false, σ.2.2) := rfl
theorem ZjW (n : Nat) (l : List Bd) (f : List Int) (st : List Int) (hn : n ≤ 2048) (hl : l.length ≤ 4096) (hfl : f.length = l.length)
  (hb : ∀ (k : Nat) b, l[k]? = some b → 0 ≤ b.1 ∧ b.1 < n ∧ 0 ≤ b.2.1 ∧ b.2.1 < n ∧ b.1 ≠ b.2.1 ∧ -16777216 ≤ b.2.2.1 ∧ b.2.2.1 ≤ 16777216)
  (hst : ∀ x ∈ st, 0 ≤ x ∧ x < (n : Int)) (hsn : st.length ≤ n) :
  (∀ W, ZbJ n (Zar l f) st = some W → Zaf Tryz.prog 160 [.d (pD n l f), .d (Zac st)] [(2000, .dead)] (.tup [.ref 2000 7 0 n n, .bool true]) [(2000, .row 7 (Zdj W))]) ∧
  (ZbJ n (Zar l f) st = none → Zaf Tryz.prog 160 [.d (pD n l f), .d (Zac st)] [(2000, .dead)] (.tup [.nilS, .bool false]) [(2000, .dead)]) := by
 have hsteps := Zzu n l f hn hl hfl hb;have hSL : ∀ v : Nat, v < n → ZgM n v (Zar l f v) := fun v _ => ZxH hb v
 have hgood := ZoS hn (ZqA hst) hsn hSL;have main : ∀ (r : PV) (ob : Ob), (match ZbJ n (Zar l f) st with | some W => r = .tup [.ref 2000 7 0 n n, .bool true] ∧ ob = .row 7 (Zdj W) | none => r = .tup [.nilS, .bool false] ∧ ob = .dead) →
   Zaf Tryz.prog 160 [.d (pD n l f), .d (Zac st)] [(2000, .dead)] r [(2000, ob)] := by
  intro r ob hro;have hr1 : r.only [2000] 4 = true := by
   revert hro; split <;> (rintro ⟨rfl, rfl⟩; rfl)
  have hr2 : ob.only [2000] = true := by
   revert hro; split <;> (rintro ⟨rfl, rfl⟩; rfl)
  refine Zo6 Tryz.func160 rfl (by decide +kernel) (Nat.le_of_ble_eq_true rfl) rfl (ZbM rfl) hr1 (by simp [hr2]) rfl ?_;intro B X w0;refine kw1 kc0 (kc1 hsteps) ?_;refine Zai (fun (k : Nat) => k ≤ n) (fun k => [(0, .d (pD n l f)), (1, .d (Zac st)), (6, .d (.sl (Zhv n l f))), (7, .ref 27 7 0 n n), (29, .int n), (30, .int k)]) (fun k => [(27, .row 7 (Zdj (Zej n k)))]) (fun k => n - k) 0 ?_ ?_ ?_
  ·exact Nat.zero_le _
  ·exact kN (kc2 @Zxb @ZhP.eq_1) []
  ·intro k hk;have hlen := ZiB n k;rcases Nat.lt_or_ge k n with hlt | hge
   ·have hg : (Zej n k)[k]? = some ZhP := by rw [Zj8 hlt, if_neg (by omega)]
    have hstp := Zxi hlt;refine kw1 (kc3 hg hlen @ZhP.eq_1) kc0 ?_;refine ⟨k + 1, ?_, kN (kc3 @hstp.symm @List.map_set.{0,0} @Zdu.eq_1) [], ?_⟩
    ·omega
    ·omega
   ·refine Zcp kc0 kc0 ?_;have : k = n := by omega
    subst this;rw [Zy4 k st];refine Zai (fun (j : Nat) => j ≤ st.length) (fun j => [(0, .d (pD k l f)), (1, .d (Zac st)), (6, .d (.sl (Zhv k l f))), (7, .ref 27 7 0 k k), (38, .d (Zac st)), (39, .int st.length), (40, .int j)]) (fun j => [(27, .row 7 (Zdj (Zdx k st j)))]) (fun j => st.length - j) 0 ?_ ?_ ?_
    ·exact Nat.zero_le _
    ·exact kN kc0 []
    ·intro j hj;have hlen := Zg7 k st j;rcases Nat.lt_or_ge j st.length with hlt | hge2
     ·obtain ⟨x, hx⟩ := Zad hlt;have hxi := hst x (List.mem_of_getElem? hx);have hsu := ZnI (n := k) hx;obtain ⟨v, rfl⟩ : ∃ v : Nat, x = v := ⟨x.toNat, by omega⟩;have hg : (Zdx k st j)[v]? = some (wAt (Zdx k st j) v) := Zdt (v := (v : Int)) hlen (by omega) (by omega);rw [Int.toNat_natCast] at hsu;refine kw1 (kc3 hx hg hlen) kc0 ?_;refine ⟨j + 1, ?_, kN (kc3 hsu @List.map_set.{0,0} @ZcV.eq_1) [], ?_⟩
      ·omega
      ·omega
     ·refine Zcp kc0 kc0 ?_;have : j = st.length := by omega
      subst this;refine Zai (fun (q : Nat) => match q with | k' => k' ≤ k + 1 ∧ ZbO (fun i => (Zav (Zar l f) (Zas k st) i).2.2.isEmpty) k' = none) (fun k' => [(0, .d (pD k l f)), (6, .d (.sl (Zhv k l f))), (7, .ref 27 7 0 k k), (11, .d (Zac (Zav (Zar l f) (Zas k st) k').2.2)), (12, .ref 55 1 0 k k), (13, .int k')]) (fun k' => [(27, .row 7 (Zdj (Zav (Zar l f) (Zas k st) k').1)), (55, .row 1 (Zll (Zav (Zar l f) (Zas k st) k').2.1))]) (fun k' => k + 1 - k') 0 ?_ ?_ ?_
      ·exact ⟨Nat.zero_le _, rfl⟩
      ·exact kN (kc3 @Zav.eq_1 @Zas.eq_1 @List.map_replicate.{0,0}) []
      ·rintro m ⟨hm, hfirst⟩;obtain ⟨hG, hqn⟩ := hgood m hm;have hit : Zav (Zar l f) (Zas k st) (m + 1) = Zbi (Zar l f) (Zav (Zar l f) (Zas k st) m) (Zav (Zar l f) (Zas k st) m).2.2.length := rfl;have hend : (Zav (Zar l f) (Zas k st) m).2.2.isEmpty = true → ZbJ k (Zar l f) st = some (Zav (Zar l f) (Zas k st) m).1 := fun h => by
        rw [ZbJ, Zhk, Zn0 (by omega) hfirst h]; rfl
       have hnx : (Zav (Zar l f) (Zas k st) m).2.2.isEmpty = false → ZbO (fun i => (Zav (Zar l f) (Zas k st) i).2.2.isEmpty) (m + 1) = none := fun h => Zo0 hfirst h
       try dsimp only
       generalize Zav (Zar l f) (Zas k st) m = σ at hG hqn hit hend hnx ⊢;have hq40 : k * (m + 1) ≤ 2048 * 2050 := Nat.mul_le_mul hn (by omega);rcases hem : σ.2.2.isEmpty with _ | _
       ·have hpos : 0 < σ.2.2.length := by
         rcases Nat.eq_zero_or_pos σ.2.2.length with h | h
         ·rw [List.length_eq_zero_iff.1 h] at hem; cases hem
         ·exact h
        rcases Nat.lt_or_ge k m with hbig | hsmall
        ·have e : ZbJ k (Zar l f) st = none := by
          have : m + 1 = k + 2 := by omega
          have h2 := hnx hem;rw [this] at h2;rw [ZbJ, Zhk, h2]; rfl
         rw [e] at hro;obtain ⟨rfl, rfl⟩ := hro;refine Zcp kc0 kc0 ?_;refine kR kc0 [(2000, 900)] [(4, .nilS), (5, .bool false)] [(2000, .dead)] ?_;refine Za1 ?_;exact ⟨⟨_, rfl, rfl, rfl, trivial⟩, List.forall_mem_cons.2 ⟨rfl, List.forall_mem_nil _⟩⟩
        ·refine Zcp kc0 kc0 ?_;refine Zau _ (Zd5 14 900 1 rfl rfl) ?_;refine Zai (fun (j : Nat) => j ≤ σ.2.2.length) (fun j => [(0, .d (pD k l f)), (6, .d (.sl (Zhv k l f))), (7, .ref 27 7 0 k k), (12, .ref 55 1 0 k k), (13, .int ((m : Int) + 1)), (14, .ref 900 1 0 (Zbi (Zar l f) σ j).2.2.length (Zbi (Zar l f) σ j).2.2.length), (68, .d (Zac σ.2.2)), (69, .int σ.2.2.length), (70, .int j)]) (fun j => [(27, .row 7 (Zdj (Zbi (Zar l f) σ j).1)), (55, .row 1 (Zll (Zbi (Zar l f) σ j).2.1)), (900, .row 1 (intsL (Zbi (Zar l f) σ j).2.2))]) (fun j => σ.2.2.length - j) 0 ?_ ?_ ?_
         ·exact Nat.zero_le _
         ·exact kN (kc1 @ZuO) []
         ·intro j hj;rcases Nat.lt_or_ge j σ.2.2.length with hjl | hjg
          ·obtain ⟨x, hx⟩ := Zad hjl;have hxi := hG.2.2.1 x (List.mem_of_getElem? hx);obtain ⟨v, rfl⟩ : ∃ v : Nat, x = v := ⟨x.toNat, by omega⟩;have hmg := Zlq hG hSL j (by omega);have hin := ZoM hmg (v := (v : Int)) (L := Zar l f v) (by omega) (by omega) (hSL v (by omega));have hms := Zh7 (ST := Zar l f) hx;rw [Int.toNat_natCast] at hms;have hcnt : ∀ τ : LS, Zec k (70437463654400 * m + 16777216 * j + 16777216) (j + 1) τ → τ.2.2.length ≤ 4300000 := fun τ h => by
            have h1 := h.2.2.2.2;have h2 : τ.2.1.count true ≤ k := by rw [← h.2.1]; exact List.count_le_length
            omega
           try dsimp only
           generalize Zbi (Zar l f) σ j = μ at hmg hin hms ⊢;have hs := ZjR l f v l.length;have hsl : (ZcQ l f l.length v) = (Zar l f v).map stD := rfl;have hsr : (List.map (fun v => D.sl (ZcQ l f l.length v)) (List.range k))[v]? = some (.sl ((Zar l f v).map stD)) := by simp [show v < k by omega]; rfl
           rw [hsl, List.length_map] at hs;have gb : μ.2.1[v]? = some (bAt μ.2.1 v) := Zk4 (v := (v : Int)) hmg.2.1 (by omega) (by omega);have l1 := hmg.1;have l2 := hmg.2.1;refine kw1 (kc6 hx gb l1 l2 hsr @List.length_range) kc0 ?_;refine Zai (fun (i : Nat) => i ≤ (Zar l f v).length) (fun i => [(0, .d (pD k l f)), (6, .d (.sl (Zhv k l f))), (7, .ref 27 7 0 k k), (12, .ref 55 1 0 k k), (13, .int ((m : Int) + 1)), (14, .ref 900 1 0 (ZaZ (Zar l f v) v μ i).2.2.length (ZaZ (Zar l f v) v μ i).2.2.length), (16, .int v), (68, .d (Zac σ.2.2)), (69, .int σ.2.2.length), (70, .int j), (80, .d (.sl ((Zar l f v).map stD))), (81, .int (Zar l f v).length), (82, .int i)]) (fun i => [(27, .row 7 (Zdj (ZaZ (Zar l f v) v μ i).1)), (55, .row 1 (Zll (ZaZ (Zar l f v) v μ i).2.1)), (900, .row 1 (intsL (ZaZ (Zar l f v) v μ i).2.2))]) (fun i => (Zar l f v).length - i) 0 ?_ ?_ ?_
           ·exact Nat.zero_le _
           ·exact kN (kc3 @Zsb @List.map_set.{0,0} @Int.toNat_natCast) []
           ·intro i hi;rcases Nat.lt_or_ge i (Zar l f v).length with hil | hig
            ·obtain ⟨s, hs2⟩ := Zad hil;obtain ⟨hgi, hvi⟩ := hin i;have hsi := hSL v (by omega) s (List.mem_of_getElem? hs2);have hns := Ziy (v := (v : Int)) (σ := μ) hs2;have hlq := hcnt _ hgi
             try dsimp only
             generalize ZaZ (Zar l f v) v μ i = τ at hgi hvi hns hlq ⊢;obtain ⟨W, Bs, q⟩ := τ;obtain ⟨to, len, bd, bk⟩ := s;obtain ⟨u, rfl⟩ : ∃ u : Nat, to = u := ⟨to.toNat, by have := hsi.1; dsimp only at this; omega⟩;dsimp only at hsi hvi hlq hns;have g1 : W.length = k := hgi.1;have g2 : Bs.length = k := hgi.2.1;have gv : W[v]? = some (wAt W v) := Zdt (v := (v : Int)) g1 (by omega) (by omega);have gu : W[u]? = some (wAt W u) := Zdt (v := (u : Int)) g1 (by omega) (by omega);have gbu : Bs[u]? = some (bAt Bs u) := Zk4 (v := (u : Int)) g2 (by omega) (by omega);have bv := hgi.2.2.2.1 _ (List.mem_of_getElem? gv);have bu := hgi.2.2.2.1 _ (List.mem_of_getElem? gu);have htk : (List.map D.int q).take q.length = List.map D.int q := Zat _ _;rcases Decidable.em ((wAt W u).1 < (wAt W v).1 + len) with hlt | hlt
             ·rcases hbu : bAt Bs u with _ | _
              ·rw [Zt6 hlt hbu] at hns;rw [hbu] at gbu;dsimp only at hns;rw [Int.toNat_natCast] at hns;refine kw1 (kc8 hs2 gv gu gbu g1 g2 htk @List.length_set.{0}) kc0 ?_;refine ⟨i + 1, ?_, kN (kc4 hns @List.map_set.{0,0} @List.map_append.{0,0} @List.length_append.{0}) [(900, 124)], ?_⟩
               ·omega
               ·omega
              ·rw [Zw6 hlt hbu] at hns;rw [hbu] at gbu;dsimp only at hns;rw [Int.toNat_natCast] at hns;refine kw1 (kc8 hs2 gv gu gbu g1 g2 htk @List.length_set.{0}) kc0 ?_;refine ⟨i + 1, ?_, kN (kc2 hns @List.map_set.{0,0}) [], ?_⟩
               ·omega
               ·omega
             ·rw [Zx3 hlt] at hns;refine kw1 (kc8 hs2 gv gu gbu g1 g2 htk @List.length_set.{0}) kc0 ?_;refine ⟨i + 1, ?_, kN (kc2 hns @List.map_set.{0,0}) [], ?_⟩
              ·omega
              ·omega
            ·have : i = (Zar l f v).length := by omega
             subst this;refine kw1 kc0 kc0 ?_;refine ⟨j + 1, ?_, kN (kc1 hms) [], ?_⟩
             ·omega
             ·omega
          ·have : j = σ.2.2.length := by omega
           subst this;have hmg := Zlq hG hSL σ.2.2.length (Nat.le_refl _);rw [← hit] at hmg;have hnx := hnx hem
           try dsimp only
           rw [← hit];generalize hnext : Zav (Zar l f) (Zas k st) (m + 1) = τ at hmg ⊢;refine Zau _ (Zc8 900 1 _ rfl (ZcR _ rfl) (by decide)) ?_;refine kw1 (kc2 @List.drop_zero.{0} @Zat) kc0 ?_;refine ⟨m + 1, ?_, kN (kc5 @hnext @List.drop_zero.{0} @Zat @Int.natCast_add @Int.natCast_one) [], ?_⟩
           ·exact ⟨by omega, hnx⟩
           ·omega
       ·have e := hend hem;have h0 : σ.2.2.length = 0 := by
         rw [List.isEmpty_iff] at hem; rw [hem]; rfl
        rw [e] at hro;obtain ⟨rfl, rfl⟩ := hro;refine Zcp (kc1 h0) kc0 ?_;refine kR kc0 [(2000, 27)] [(4, .ref 2000 7 0 _ _), (5, .bool true)] [(2000, .row 7 _)] ?_;refine Za1 ?_;exact ⟨⟨_, rfl, rfl, rfl, trivial⟩, List.forall_mem_cons.2 ⟨rfl, List.forall_mem_nil _⟩⟩
 refine ⟨fun W hW => main _ _ (by rw [hW]; exact ⟨rfl, rfl⟩), fun hN => main _ _ (by rw [hN]; exact ⟨rfl, rfl⟩)⟩
def Zao (W : List Way) (v : Int) : Nat → Int
 | 0 => v
 | k + 1 => (wAt W (Zao W v k)).2.1
def ZaI (W : List Way) (v : Int) (k : Nat) : Stp := (wAt W (Zao W v k)).2.2.1
def ZcK (W : List Way) (f : List Int) (m0 v : Int) : Nat → Int
 | 0 => m0
 | k + 1 => if (ZaI W v k).2.2.2 then min (ZcK W f m0 v k) (at0 f (ZaI W v k).2.2.1) else ZcK W f m0 v k
def ZbC (W : List Way) (f : List Int) (m v : Int) : Nat → List Int
 | 0 => f
 | k + 1 => (ZbC W f m v k).set (ZaI W v k).2.2.1.toNat (at0 (ZbC W f m v k) (ZaI W v k).2.2.1 + (if (ZaI W v k).2.2.2 then -m else m))
theorem Zeq (W : List Way) (v : Int) (k : Nat) : Zao W v (k + 1) = (wAt W (Zao W v k)).2.1 := rfl
theorem Zmo (W : List Way) (f : List Int) (m0 v : Int) (k : Nat) : ZcK W f m0 v (k + 1) = if (ZaI W v k).2.2.2 then min (ZcK W f m0 v k) (at0 f (ZaI W v k).2.2.1) else ZcK W f m0 v k := rfl
theorem ZmA (W : List Way) (f : List Int) (m v : Int) (k : Nat) : ZbC W f m v (k + 1) = (ZbC W f m v k).set (ZaI W v k).2.2.1.toNat (at0 (ZbC W f m v k) (ZaI W v k).2.2.1 + (if (ZaI W v k).2.2.2 then -m else m)) := rfl
def Zee (W : List Way) (f nd : List Int) (t : Int) (K : Nat) : Int := min (ZcK W f (at0 nd t) t K) (-(at0 nd (Zao W t K)))
theorem Zl4 (W : List Way) (f nd : List Int) (t : Int) (K : Nat) : Zee W f nd t K = min (ZcK W f (at0 nd t) t K) (-(at0 nd (Zao W t K))) := rfl
theorem Zg0 (W : List Way) (f : List Int) (m v : Int) : ∀ k, (ZbC W f m v k).length = f.length
 | 0 => rfl
 | k + 1 => by simp [ZbC, Zg0 W f m v k]
theorem Zn6 {W : List Way} {f : List Int} {m v F M : Int} (hf : ZbW f F) (hM : 0 ≤ M) (hm : -M ≤ m ∧ m ≤ M) : ∀ k : Nat, ZbW (ZbC W f m v k) (F + M * k)
 | 0 => by simpa [ZbC] using hf
 | k + 1 => by
  have ih := Zn6 (W := W) (v := v) hf hM hm k;have h1 := ih (ZaI W v k).2.2.1;have e : F + M * ((k + 1 : Nat) : Int) = F + M * k + M := by rw [Int.natCast_add, Int.natCast_one, Int.mul_add, Int.mul_one, Int.add_assoc]
  rw [e, ZbC];refine ZlB (Ze8 ih (by omega)) ?_ ?_ <;> split <;> omega
theorem ZlQ {W : List Way} {f : List Int} {m0 v F : Int} (hf : ZbW f F) (hm : -F ≤ m0 ∧ m0 ≤ F) : ∀ k : Nat, -F ≤ ZcK W f m0 v k ∧ ZcK W f m0 v k ≤ F
 | 0 => by simpa [ZcK] using hm
 | k + 1 => by
  have ih := ZlQ (W := W) (v := v) hf hm k;have h1 := hf (ZaI W v k).2.2.1;rw [ZcK]; split <;> omega
def ZkN (n m : Nat) (W : List Way) : Prop := W.length = n ∧ ∀ w ∈ W, 0 ≤ w.2.1 ∧ w.2.1 < (n : Int) ∧ 0 ≤ w.2.2.1.2.2.1 ∧ w.2.2.1.2.2.1 < (m : Int)
theorem Zk8 {n m : Nat} {W : List Way} {v : Int} (hW : ZkN n m W) (h0 : 0 ≤ v) (hv : v < n) : ∀ k, 0 ≤ Zao W v k ∧ Zao W v k < n
 | 0 => ⟨h0, hv⟩
 | k + 1 => by
  obtain ⟨h1, h2⟩ := Zk8 hW h0 hv k;have := hW.2 _ (List.mem_of_getElem? (Zdt hW.1 h1 h2));exact ⟨this.1, this.2.1⟩
abbrev pM (n : Nat) (l : List Bd) (m : Nat) : Ob := .cells [.int n, .d (Zei l), .ref 1001 1 0 m m]
theorem ZvJ (n : Nat) (l : List Bd) (f : List Int) (W : List Way) (t : Int) (nd : List Int) (K : Nat) (hn : n ≤ 2048) (hW : ZkN n f.length W) (hndl : nd.length = n)
  (ht : 0 ≤ t ∧ t < n) (hK : K ≤ n) (h1 : ∀ j, j < K → (wAt W (Zao W t j)).2.2.2 = false) (h2 : (wAt W (Zao W t K)).2.2.2 = true) (hf : ZbW f 1125899906842624) (hnd : ZbW nd 1125899906842624) :
  Zaf Tryz.prog 213 [.ptr 1000 0 0 0, .d (.sl (Zdj W)), .int t, .ref 1002 1 0 n n] [(1000, pM n l f.length), (1001, .row 1 (intsL f)), (1002, .row 1 (intsL nd))]
   (.tup [.int (Zao W t K), .int (Zee W f nd t K)]) [(1000, pM n l f.length), (1001, .row 1 (intsL (ZbC W f (Zee W f nd t K) t K))), (1002, .row 1 (intsL nd))] := by
 have hbk := Zk8 hW ht.1 ht.2;have hms := ZlQ (W := W) (v := t) (m0 := at0 nd t) hf (hnd t);have hst : ∀ k, ∃ b : Nat, (ZaI W t k).2.2.1 = b ∧ b < f.length := by
  intro k;have := hW.2 _ (List.mem_of_getElem? (Zdt hW.1 (hbk k).1 (hbk k).2));exact ⟨(ZaI W t k).2.2.1.toNat, by rw [ZaI]; omega, by rw [ZaI]; omega⟩
 refine kM Tryz.func213 ?_;intro B X w0;obtain ⟨t', rfl⟩ : ∃ t' : Nat, t = t' := ⟨t.toNat, by omega⟩;have gnt := ZaS (r := nd) (i := t') (by omega);have hWl := hW.1;refine kw1 (kc2 gnt hndl) kc0 ?_;refine Zai (fun (k : Nat) => k ≤ K) (fun k => [(0, .ptr 1000 0 0 0), (1, .d (.sl (Zdj W))), (2, .int t'), (3, .ref 1002 1 0 n n), (10, .int (Zao W t' k)), (11, .int (ZcK W f (at0 nd t') t' k)), (12, .int (Zao W t' k))]) (fun k => [(1000, pM n l f.length), (1001, .row 1 (intsL f)), (1002, .row 1 (intsL nd))]) (fun k => K - k) 0 ?_ ?_ ?_
 ·exact Nat.zero_le _
 ·exact kN (kc2 @Zao.eq_1 @ZcK.eq_1) []
 ·intro k hk;obtain ⟨b, hb1, hb2⟩ := hst k;have gb := ZaS hb2;have hbb := hf b;have hmk := hms k;have hmn := Zmo W f (at0 nd t') t' k;have hbn := Zeq W t' k;obtain ⟨hv1, hv2⟩ := hbk k;have hgb : (wAt W (Zao W t' k)).2.2.2 = decide (k = K) := by
   rcases Decidable.em (k = K) with h | h
   ·rw [h, h2]; simp
   ·rw [h1 k (by omega), decide_eq_false h]
  rw [hb1] at hmn;rw [ZaI] at hb1 hmn;obtain ⟨v, hv⟩ : ∃ v : Nat, Zao W t' k = v := ⟨(Zao W t' k).toNat, by omega⟩;rw [hv] at hv1 hv2 hbn hgb hmn hb1;have gv : W[v]? = some (wAt W v) := Zdt (v := (v : Int)) hWl hv1 hv2;rcases Nat.lt_or_ge k K with hlt | hge
  ·rw [decide_eq_false (show k ≠ K by omega)] at hgb;generalize hw : wAt W v = w at gv hbn hgb hmn hb1;obtain ⟨lg, fr, ⟨s1, s2, s3, s4⟩, bg⟩ := w;dsimp only at hbn hgb hmn hb1;subst hgb;cases s4 with
   | false =>
    rw [if_neg (by decide)] at hmn;refine kw1 (kc4 gv hv hWl hb1) kc0 ?_;refine ⟨k + 1, ?_, kN (kc2 hbn hmn) [], ?_⟩
    ·omega
    ·omega
   | true =>
    rw [if_pos rfl] at hmn;refine kw1 (kc6 gv hv hWl hb1 gb @Zh9) kc0 ?_;refine ⟨k + 1, ?_, kN (kc2 hbn hmn) [], ?_⟩
    ·omega
    ·omega
  ·have : k = K := by omega
   subst this;rw [decide_eq_true rfl] at hgb;have gnv := ZaS (r := nd) (i := v) (by omega);have hnv := hnd v;have hsm := Zl4 W f nd t' k;rw [hv] at hsm;have hsent := Zn6 (W := W) (v := (t' : Int)) (m := Zee W f nd t' k) (M := 1125899906842624) hf (by omega) (by omega);have hfr : Zao W t' k = v := hv;refine Zcp (kc7 gv hv hWl hgb gnv hndl @Zh9) kc0 ?_;rw [← hsm];generalize Zee W f nd t' k = m at hsm hsent ⊢;refine Zai (fun (j : Nat) => j ≤ k) (fun j => [(0, .ptr 1000 0 0 0), (1, .d (.sl (Zdj W))), (10, .int v), (11, .int m), (14, .int (Zao W t' j))]) (fun j => [(1000, pM n l f.length), (1001, .row 1 (intsL (ZbC W f m t' j))), (1002, .row 1 (intsL nd))]) (fun j => k - j) 0 ?_ ?_ ?_
   ·exact Nat.zero_le _
   ·exact kN (kc2 @Zao.eq_1 @ZbC.eq_1) []
   ·intro j hj;obtain ⟨b, hb1, hb2⟩ := hst j;have hsl := Zg0 W f m t' j;have gb := ZaS (r := ZbC W f m t' j) (i := b) (by omega);have hbb := hsent j b;have hmn := ZmA W f m t' j;have hbn := Zeq W t' j;obtain ⟨hv1, hv2⟩ := hbk j;have hgj : (wAt W (Zao W t' j)).2.2.2 = decide (j = k) := by
     rcases Decidable.em (j = k) with h | h
     ·rw [h, h2]; simp
     ·rw [h1 j (by omega), decide_eq_false h]
    rw [hb1, Int.toNat_natCast] at hmn;rw [ZaI] at hb1 hmn;obtain ⟨u, hu⟩ : ∃ u : Nat, Zao W t' j = u := ⟨(Zao W t' j).toNat, by omega⟩;rw [hu] at hv1 hv2 hbn hgj hmn hb1;have gu : W[u]? = some (wAt W u) := Zdt (v := (u : Int)) hWl hv1 hv2;rcases Nat.lt_or_ge j k with hlt | hge2
    ·rw [decide_eq_false (show j ≠ k by omega)] at hgj;generalize hw : wAt W u = w at gu hbn hgj hmn hb1;obtain ⟨lg, fr, ⟨s1, s2, s3, s4⟩, bg⟩ := w;dsimp only at hbn hgj hmn hb1;subst hgj;cases s4 with
     | false =>
      rw [if_neg (by decide)] at hmn;refine kw1 (kc6 gu hu hWl hb1 gb hsl) kc0 ?_;refine ⟨j + 1, ?_, kN (kc3 hbn hmn @List.map_set.{0,0}) [], ?_⟩
      ·omega
      ·omega
     | true =>
      rw [if_pos rfl] at hmn;refine kw1 (kc6 gu hu hWl hb1 gb hsl) kc0 ?_;refine ⟨j + 1, ?_, kN (kc4 hbn hmn @List.map_set.{0,0} @Int.sub_eq_add_neg) [], ?_⟩
      ·omega
      ·omega
    ·have : j = k := by omega
     subst this;rw [decide_eq_true rfl] at hgj;refine Zcp (kc4 gu hu hWl hgj) kc0 ?_;refine Za1 ?_;exact ⟨⟨_, rfl, rfl, rfl, trivial⟩, List.forall_mem_cons.2 ⟨rfl, List.forall_mem_cons.2 ⟨rfl, List.forall_mem_cons.2 ⟨rfl, List.forall_mem_nil _⟩⟩⟩⟩
def ZfW (nd : List Int) (v : Nat) : List Int := if at0 nd v < 0 then [(v : Int)] else []
def ZbL (nd : List Int) (k : Nat) : List Int := Zbq (ZfW nd) k
def ZaL (W : List Way) (nd : List Int) : Nat → Int
 | 0 => -1
 | k + 1 => if 0 < at0 nd k ∧ -576460752303423488 < (wAt W k).1 ∧ (ZaL W nd k < 0 ∨ (wAt W (ZaL W nd k)).1 < (wAt W k).1) then k else ZaL W nd k
def Zle (W : List Way) (t : Int) (m : Nat) : Option Nat := ZbO (fun k => (wAt W (Zao W t k)).2.2.2) m
def Zgt (n m : Nat) (W : List Way) : Bool := decide (W.length = n) && W.all fun w => decide (0 ≤ w.2.1 ∧ w.2.1 < (n : Int) ∧ 0 ≤ w.2.2.1.2.2.1 ∧ w.2.2.1.2.2.1 < (m : Int))
def inB (f : List Int) : Bool := f.all fun x => decide (-1125899906842624 ≤ x ∧ x ≤ 1125899906842624)
def ZjC (n : Nat) (l : List Bd) (f nd : List Int) : Option (List Int × List Int) :=
 match ZbJ n (Zar l f) (ZbL nd n) with
 | none => none
 | some W => match Zle W (ZaL W nd n) (n + 1) with
  | none => none
  | some K => if (decide (0 ≤ ZaL W nd n) && Zgt n l.length W && inB f && inB nd) = true then
    some (ZbC W f (Zee W f nd (ZaL W nd n) K) (ZaL W nd n) K,
     (nd.set (Zao W (ZaL W nd n) K).toNat (at0 nd (Zao W (ZaL W nd n) K) + Zee W f nd (ZaL W nd n) K)).set (ZaL W nd n).toNat
      (at0 (nd.set (Zao W (ZaL W nd n) K).toNat (at0 nd (Zao W (ZaL W nd n) K) + Zee W f nd (ZaL W nd n) K)) (ZaL W nd n) - Zee W f nd (ZaL W nd n) K)) else none
def ZeX (n : Nat) (l : List Bd) : Nat → List Int → List Int → Option (List Int)
 | 0, _, _ => none
 | r + 1, f, nd => if (ZbL nd n).isEmpty then some f else match ZjC n l f nd with
  | none => none
  | some s => ZeX n l r s.1 s.2
theorem ZjK {f : List Int} (h : inB f = true) : ZbW f 1125899906842624 := by
 intro v;rw [at0];cases hx : f[v.toNat]? with
 | none => simp
 | some x =>
  simp only [inB, List.all_eq_true, decide_eq_true_eq] at h;exact h x (List.mem_of_getElem? hx)
theorem ZvB {n m : Nat} {W : List Way} (h : Zgt n m W = true) : ZkN n m W := by
 simp only [Zgt, Bool.and_eq_true, decide_eq_true_eq, List.all_eq_true] at h;exact h
theorem ZmU {p : Nat → Bool} : ∀ {m k : Nat}, ZbO p m = some k → k < m ∧ p k = true ∧ ∀ j, j < k → p j = false := by
 intro m
 induction m with
 | zero => intro k h; simp [ZbO] at h
 | succ m ih =>
  intro k h;rw [ZbO] at h;cases hm : ZbO p m with
  | some j =>
   rw [hm] at h;simp only [Option.some.injEq] at h;subst h;obtain ⟨h1, h2, h3⟩ := ih hm;exact ⟨by omega, h2, h3⟩
  | none =>
   rw [hm] at h;have hno : ∀ j, j < m → p j = false := by
    intro j hj;cases hp : p j with
    | false => rfl
    | true =>
     exfalso;have key : ∀ m, j < m → ZbO p m ≠ none := by
      intro m
      induction m with
      | zero => intro h; omega
      | succ m ih2 =>
       intro hjm hn;rw [ZbO] at hn;cases hq : ZbO p m with
       | some i => rw [hq] at hn; simp at hn
       | none =>
        rw [hq] at hn;rcases Nat.lt_or_ge j m with h | h
        ·exact ih2 h hq
        ·have : j = m := by omega
         subst this;simp [hp] at hn
     exact key m hj hm
   by_cases hp : p m = true
   ·simp [hp] at h; subst h; exact ⟨by omega, hp, hno⟩
   ·simp [hp] at h
theorem ZhZ (nd : List Int) : ∀ k, (∀ x ∈ ZbL nd k, 0 ≤ x ∧ x < (k : Int)) ∧ (ZbL nd k).length ≤ k
 | 0 => by simp [ZbL, Zbq]
 | k + 1 => by
  obtain ⟨h1, h2⟩ := ZhZ nd k;simp only [ZbL, Zbq] at h1 h2 ⊢;refine ⟨fun x hx => ?_, ?_⟩
  ·rcases List.mem_append.1 hx with hx | hx
   ·have := h1 x hx; omega
   ·rw [ZfW] at hx; split at hx
    ·rw [List.mem_singleton.1 hx]; omega
    ·simp at hx
  ·rw [List.length_append, ZfW]; split <;> simp <;> omega
theorem Zkq (W : List Way) (nd : List Int) : ∀ k, ZaL W nd k < (k : Int) ∧ -1 ≤ ZaL W nd k
 | 0 => by simp [ZaL]
 | k + 1 => by
  have := Zkq W nd k;rw [ZaL]; split <;> omega
theorem Zzv (n : Nat) (l : List Bd) (f0 f1 : List Int) (R : Nat) (hg : nOk (n, l) = true) (hfl : f0.length = l.length) (hc : ZeX n l R f0 (Zbt l n l.length) = some f1) :
  Zaf Tryz.prog 162 [.ptr 1000 0 0 0] [(1000, pM n l l.length), (1001, .row 1 (intsL f0))] (.tup []) [(1000, pM n l l.length), (1001, .row 1 (intsL f1))] := by
 obtain ⟨h1, h2, h3, h4⟩ := ZgF hg;dsimp only at h1 h2 h3 h4;have hneed := ZxM n l f0 hg;have hnl := Zhr l n l.length;generalize Zbt l n l.length = nd0 at hc hneed hnl;refine kM Tryz.func162 ?_;intro B X w0;have htk0 : (f0.map D.int).take l.length = f0.map D.int := by rw [← hfl]; exact Zat _ _
 refine kw1 (kc3 hfl htk0 @List.drop_zero.{0}) (kc1 (kfc [(2000, 14)] hneed)) ?_;refine Zai (fun (q : Nat × List Int × List Int) => match q with | ⟨r, f, nd⟩ => ZeX n l r f nd = some f1 ∧ f.length = l.length ∧ nd.length = n) (fun ⟨r, f, nd⟩ => [(0, .ptr 1000 0 0 0), (2, .ref 14 1 0 n n)]) (fun ⟨r, f, nd⟩ => [(1000, pM n l l.length), (1001, .row 1 (intsL f)), (14, .row 1 (intsL nd))]) (fun ⟨r, f, nd⟩ => r) (R, f0, nd0) ?_ ?_ ?_
 ·exact ⟨hc, hfl, hnl⟩
 ·exact kN kc0 []
 ·rintro ⟨r, f, nd⟩ ⟨hcf, hfl, hnl⟩
  try dsimp only
  cases r with
  | zero => rw [ZeX] at hcf; cases hcf
  | succ r =>
   rw [ZeX] at hcf;refine kw1 kc0 kc0 ?_;refine Zau _ (Zd5 3 900 1 rfl rfl) ?_;refine Zai (fun (i : Nat) => i ≤ n) (fun i => [(0, .ptr 1000 0 0 0), (2, .ref 14 1 0 n n), (3, .ref 900 1 0 (ZbL nd i).length (ZbL nd i).length), (15, .ref 14 1 0 n n), (16, .int n), (17, .int i)]) (fun i => [(1000, pM n l l.length), (1001, .row 1 (intsL f)), (14, .row 1 (intsL nd)), (900, .row 1 (intsL (ZbL nd i)))]) (fun i => n - i) 0 ?_ ?_ ?_
   ·exact Nat.zero_le _
   ·exact kN kc0 []
   ·intro i hi;rcases Nat.lt_or_ge i n with hin | hin
    ·have gi := ZaS (r := nd) (i := i) (by omega);have hns : ZbL nd (i + 1) = ZbL nd i ++ ZfW nd i := rfl;have hnl2 := (ZhZ nd i).2;rcases Decidable.em (at0 nd i < 0) with hneg | hneg
     ·rw [ZfW, if_pos hneg] at hns;refine kw1 (kc3 gi hnl @Zat) kc0 ?_;refine ⟨i + 1, ?_, kN (kc3 hns @List.map_append.{0,0} @List.length_append.{0}) [(900, 27)], ?_⟩
      ·omega
      ·omega
     ·rw [ZfW, if_neg hneg, List.append_nil] at hns;refine kw1 (kc3 gi hnl @Zat) kc0 ?_;refine ⟨i + 1, ?_, kN (kc1 hns) [], ?_⟩
      ·omega
      ·omega
    ·have : i = n := by omega
     subst this;obtain ⟨hs1, hs2⟩ := ZhZ nd i;refine Zau _ (Zc8 900 1 _ rfl (ZcR _ rfl) (by decide)) ?_;rcases hem : (ZbL nd i).isEmpty with _ | _
     ·rw [hem] at hcf;rw [if_neg (by decide), ZjC] at hcf;have hpos : 0 < (ZbL nd i).length := by
       rcases Nat.eq_zero_or_pos (ZbL nd i).length with h | h
       ·rw [List.length_eq_zero_iff.1 h] at hem; cases hem
       ·exact h
      have hlong := (ZjW i l f (ZbL nd i) (by omega) (by omega) hfl (fun k b hb => by have := h4 k b hb; omega) hs1 hs2).1;cases hW : ZbJ i (Zar l f) (ZbL nd i) with
      | none => rw [hW] at hcf; cases hcf
      | some W =>
       rw [hW] at hcf;have hlong := hlong W hW;dsimp only at hcf;cases hK : Zle W (ZaL W nd i) (i + 1) with
       | none => rw [hK] at hcf; cases hcf
       | some K =>
        rw [hK] at hcf;dsimp only at hcf;by_cases hcond : (decide (0 ≤ ZaL W nd i) && Zgt i l.length W && inB f && inB nd) = true
        ·rw [if_pos hcond] at hcf;dsimp only at hcf;simp only [Bool.and_eq_true, decide_eq_true_eq] at hcond;obtain ⟨⟨⟨c1, c2⟩, c3⟩, c4⟩ := hcond;obtain ⟨k1, k2, k3⟩ := ZmU hK;have hWI := ZvB c2;have hpk := Zkq W nd i;have hsend := ZvJ i l f W (ZaL W nd i) nd K (by omega) (hfl ▸ hWI) hnl ⟨c1, hpk.1⟩ (by omega) k3 k2 (ZjK c3) (ZjK c4);rw [hfl] at hsend;have hnw := ZjK c4;have hmm := ZlQ (W := W) (v := ZaL W nd i) (m0 := at0 nd (ZaL W nd i)) (ZjK c3) (hnw _) K;have hsl := Zg0 W f (Zee W f nd (ZaL W nd i) K) (ZaL W nd i) K;have hbk := Zk8 hWI c1 hpk.1 K;have hWl := hWI.1;have htkf : (f.map D.int).take l.length = f.map D.int := by rw [← hfl]; exact Zat _ _
         refine kw1 (kc5 hfl hnl htkf @Zat @List.drop_zero.{0}) (kc1 (kfc [(2000, 35)] hlong)) ?_;refine Zai (fun (u : Nat) => u ≤ i) (fun u => [(0, .ptr 1000 0 0 0), (2, .ref 14 1 0 i i), (6, .ref 35 7 0 i i), (8, .int (ZaL W nd u)), (38, .ref 14 1 0 i i), (39, .int i), (40, .int u)]) (fun u => [(1000, pM i l l.length), (1001, .row 1 (intsL f)), (14, .row 1 (intsL nd)), (35, .row 7 (Zdj W))]) (fun u => i - u) 0 ?_ ?_ ?_
         ·exact Nat.zero_le _
         ·exact kN kc0 []
         ·intro u hu;rcases Nat.lt_or_ge u i with hui | hui
          ·have gn := ZaS (r := nd) (i := u) (by omega);have gw : W[u]? = some (wAt W u) := Zdt (v := (u : Int)) hWl (by omega) (by omega);obtain ⟨q1, q2⟩ := Zkq W nd u;have hps : ZaL W nd (u + 1) = if 0 < at0 nd u ∧ -576460752303423488 < (wAt W u).1 ∧ (ZaL W nd u < 0 ∨ (wAt W (ZaL W nd u)).1 < (wAt W u).1) then (u : Int) else ZaL W nd u := rfl
           generalize ZaL W nd u = p at q1 q2 hps ⊢;rcases Int.lt_or_le p 0 with hp | hp
           ·rcases Decidable.em (0 < at0 nd u ∧ -576460752303423488 < (wAt W u).1) with hq | hq
            ·rw [if_pos ⟨hq.1, hq.2, .inl hp⟩] at hps;refine kw1 (kc4 gn gw hWl hnl) kc0 ?_
             all_goals
              refine ⟨u + 1, ?_, kN (kc1 hps) [], ?_⟩
              ·omega
              ·omega
            ·rw [if_neg (by omega)] at hps;refine kw (kc4 gn gw hWl hnl) kc0 ?_
             repeat' first | exact True.intro | refine Bn.mk ?_ ?_ | intro hc
             all_goals
              refine ⟨u + 1, ?_, kN (kc1 hps) [], ?_⟩
              ·omega
              ·omega
           ·obtain ⟨p', rfl⟩ : ∃ p' : Nat, p = p' := ⟨p.toNat, by omega⟩;have gp : W[p']? = some (wAt W p') := Zdt (v := (p' : Int)) hWl (by omega) (by omega);rcases Decidable.em (0 < at0 nd u ∧ -576460752303423488 < (wAt W u).1 ∧ (wAt W p').1 < (wAt W u).1) with hq | hq
            ·rw [if_pos ⟨hq.1, hq.2.1, .inr hq.2.2⟩] at hps;refine kw1 (kc5 gn gw gp hWl hnl) kc0 ?_
             all_goals
              refine ⟨u + 1, ?_, kN (kc1 hps) [], ?_⟩
              ·omega
              ·omega
            ·rw [if_neg (by omega)] at hps;refine kw (kc5 gn gw gp hWl hnl) kc0 ?_
             repeat' first | exact True.intro | refine Bn.mk ?_ ?_ | intro hc
             all_goals
              refine ⟨u + 1, ?_, kN (kc1 hps) [], ?_⟩
              ·omega
              ·omega
          ·have : u = i := by omega
           subst this;refine Zau _ (Zc8 35 7 _ rfl (ZcR _ rfl) (by decide)) ?_;have htkw : (W.map Zkf).take u = W.map Zkf := by rw [← hWl]; exact Zat _ _
           have hsm := Zl4 W f nd (ZaL W nd u) K;obtain ⟨p, hp⟩ : ∃ p : Nat, ZaL W nd u = p := ⟨(ZaL W nd u).toNat, by omega⟩;obtain ⟨s, hs⟩ : ∃ s : Nat, Zao W (ZaL W nd u) K = s := ⟨(Zao W (ZaL W nd u) K).toNat, by omega⟩;rw [hs] at hsend hcf hbk hsm;rw [hp] at hsend hcf hpk hsm hmm;rw [Int.toNat_natCast, Int.toNat_natCast] at hcf;have gs := ZaS (r := nd) (i := s) (by omega);have gp := ZaS (r := nd) (i := p) (by omega);have ns := hnw s;have np := hnw p;generalize Zee W f nd p K = m at hsend hcf hsm;have gq : ((List.map D.int nd).set s (D.sc (.int .i64 (at0 nd s + m))))[p]? = some (D.int (at0 (nd.set s (at0 nd s + m)) p)) := by
            rw [← List.map_set, List.getElem?_map, ZaS (by rw [List.length_set]; omega)]; rfl
           have hq2 : -2251799813685248 ≤ at0 (nd.set s (at0 nd s + m)) p ∧ at0 (nd.set s (at0 nd s + m)) p ≤ 2251799813685248 := by
            rw [Zgv _ _ _ _ (by omega)]; split <;> omega
           refine kw1 (kc8 hp hfl hnl hWl htkw @List.drop_zero.{0} gs (kc2 gq @List.length_set.{0})) (kc1 (kmc [(1000, 1000), (1001, 1001), (1002, 14)] hsend)) ?_;refine ⟨(r, ZbC W f m p K, (nd.set s (at0 nd s + m)).set p (at0 (nd.set s (at0 nd s + m)) p - m)), ?_, kN (kc1 @List.map_set.{0,0}) [], ?_⟩
           ·exact ⟨hcf, by rw [Zg0, hfl], by rw [List.length_set, List.length_set, hnl]⟩
           ·show r < r + 1;omega
        ·rw [if_neg hcond] at hcf; cases hcf
     ·rw [hem, if_pos rfl] at hcf;cases hcf;have h0 : (ZbL nd i).length = 0 := by
       rw [List.isEmpty_iff] at hem; rw [hem]; rfl
      refine Zcp (kc1 h0) kc0 ?_;refine Za1 ?_;exact ⟨⟨_, rfl, trivial⟩, List.forall_mem_cons.2 ⟨rfl, List.forall_mem_cons.2 ⟨rfl, List.forall_mem_nil _⟩⟩⟩
def zeros (l : List Bd) : List Int := List.replicate l.length 0
theorem Zjd (n : Nat) : (∀ x ∈ ZbE n, 0 ≤ x ∧ x < (n : Int)) ∧ (ZbE n).length = n := by
 refine ⟨fun x hx => ?_, by simp [ZbE]⟩;obtain ⟨u, hu, rfl⟩ := List.mem_map.1 hx;have := List.mem_range.1 hu;omega
theorem Zqt (n : Nat) (l : List Bd) : pD n l (zeros l) = .pt [.int n, Zei l, .sl (List.replicate l.length (D.sc (.int .i64 0)))] := by simp [pD, zeros]
theorem Zw4 (n : Nat) (l : List Bd) (hg : nOk (n, l) = true) (hno : ZbJ n (Zar l (zeros l)) (ZbE n) = none) :
  Zaf Tryz.prog 96 [.d (nD (n, l))] [(2000, .dead), (2001, .dead)] (.tup [.nilS, .nilS, .int 9]) [(2000, .dead), (2001, .dead)] := by
 have hv : Zaa Tryz.prog 159 [nD (n, l)] (.bool true) := hg ▸ ZfD (n, l);obtain ⟨h1, h2, h3, h4⟩ := ZgF hg;dsimp only at h1 h2 h3 h4;obtain ⟨a1, a2⟩ := Zjd n;have hall := Zlr n l (zeros l) (by omega);have hlong := (ZjW n l (zeros l) (ZbE n) (by omega) (by omega) (by simp [zeros]) (fun k b hb => by have := h4 k b hb; omega) a1 (by omega)).2 hno;have htk : (List.replicate l.length (D.sc (.int .i64 0))).take l.length = List.replicate l.length (D.sc (.int .i64 0)) := List.take_of_length_le (by simp);have htk2 : ((ZbE n).map D.int).take n = (ZbE n).map D.int := List.take_of_length_le (by simp [a2]);rw [Zqt] at hall hlong;refine kM Tryz.func96 ?_;intro B X w0;refine Zcp (kc6 htk htk2 a2 @List.drop_zero.{0} @List.map_replicate.{0,0} @List.length_replicate.{0}) (kc3 hv (kfc [(2000, 25)] hall) (kfc [(2000, 26)] hlong)) ?_;refine Za1 ?_;exact ⟨⟨_, rfl, rfl, rfl, rfl, trivial⟩, List.forall_mem_cons.2 ⟨rfl, List.forall_mem_cons.2 ⟨rfl, List.forall_mem_nil _⟩⟩⟩
def ZdU (W : List Way) : List Int := W.map (·.1)
theorem ZlD (n : Nat) (l : List Bd) (f : List Int) (R : Nat) (W0 W : List Way) (hg : nOk (n, l) = true) (h0 : ZbJ n (Zar l (zeros l)) (ZbE n) = some W0)
  (hc : ZeX n l R (zeros l) (Zbt l n l.length) = some f) (hfl : f.length = l.length) (hW : ZbJ n (Zar l f) (ZbE n) = some W) (hWl : W.length = n) :
  Zaf Tryz.prog 96 [.d (nD (n, l))] [(2000, .dead), (2001, .dead)] (.tup [.ref 2000 1 0 n n, .ref 2001 1 0 l.length l.length, .int 0]) [(2000, .row 1 (intsL (ZdU W))), (2001, .row 1 (intsL f))] := by
 have hv : Zaa Tryz.prog 159 [nD (n, l)] (.bool true) := hg ▸ ZfD (n, l);obtain ⟨h1, h2, h3, h4⟩ := ZgF hg;dsimp only at h1 h2 h3 h4;obtain ⟨a1, a2⟩ := Zjd n;have hall := Zlr n l (zeros l) (by omega);have hall2 := Zlr n l f (by omega);have hlong := (ZjW n l (zeros l) (ZbE n) (by omega) (by omega) (by simp [zeros]) (fun k b hb => by have := h4 k b hb; omega) a1 (by omega)).1 W0 h0;have hlong2 := (ZjW n l f (ZbE n) (by omega) (by omega) hfl (fun k b hb => by have := h4 k b hb; omega) a1 (by omega)).1 W hW;have hcert := Zzv n l (zeros l) f R hg (by simp [zeros]) hc;have htk : (List.replicate l.length (D.sc (.int .i64 0))).take l.length = List.replicate l.length (D.sc (.int .i64 0)) := List.take_of_length_le (by simp);have htk2 : ((ZbE n).map D.int).take n = (ZbE n).map D.int := List.take_of_length_le (by simp [a2]);have htk3 : (f.map D.int).take l.length = f.map D.int := List.take_of_length_le (by simp [hfl]);have hz : intsL (zeros l) = List.replicate l.length (D.sc (.int .i64 0)) := by simp [zeros]
 rw [hz] at hcert;rw [Zqt] at hall hlong;refine kM Tryz.func96 ?_;intro B X w0;refine Zcp (kc8 htk htk2 htk3 a2 hfl @List.drop_zero.{0} @List.map_replicate.{0,0} @List.length_replicate.{0}) (kc6 hv (kfc [(2000, 25)] hall) (kfc [(2000, 26)] hlong) (kmc [(1000, 21), (1001, 19)] hcert) (kfc [(2000, 36)] hall2) (kfc [(2000, 37)] hlong2)) ?_;refine Zai (fun (k : Nat) => k ≤ n) (fun k => [(5, .ptr 21 0 0 0), (8, .ref 37 7 0 n n), (10, .ref 42 1 0 n n), (44, .int n), (45, .int k)]) (fun k => [(21, .cells [.int n, .d (Zei l), .ref 19 1 0 l.length l.length]), (19, .row 1 (intsL f)), (37, .row 7 (Zdj W)), (42, .row 1 ((Za9 (fun v => (wAt W v).1) n k).map D.int))]) (fun k => n - k) 0 ?_ ?_ ?_
 ·exact Nat.zero_le _
 ·exact kN (kc1 @Zi0) []
 ·intro k hk;have hlen := Zdz (fun v => (wAt W v).1) n k;rcases Nat.lt_or_ge k n with hlt | hge
  ·have gw : W[k]? = some (wAt W k) := Zdt (v := (k : Int)) hWl (by omega) (by omega);have hst := ZiO (g := fun v => (wAt W v).1) hlt;have gf : (Za9 (fun v => (wAt W v).1) n k)[k]? = _ := Ze2 hlt;refine kw1 (kc4 gw gf hWl hlen) kc0 ?_;refine ⟨k + 1, ?_, kN (kc2 @hst.symm @List.map_set.{0,0}) [], ?_⟩
   ·omega
   ·omega
  ·refine Zcp kc0 kc0 ?_;have : k = n := by omega
   subst this;have e : Za9 (fun v => (wAt W v).1) k k = ZdU W := by
    rw [ZiV];refine List.ext_getElem? fun u => ?_
    rw [ZdU, List.getElem?_map, List.getElem?_map];rcases Nat.lt_or_ge u k with hu | hu
    ·have gw : W[u]? = some (wAt W u) := Zdt (v := (u : Int)) hWl (by omega) (by omega);rw [gw, List.getElem?_range hu]; rfl
    ·rw [List.getElem?_eq_none (by simpa using hu), List.getElem?_eq_none (by omega)]; rfl
   refine kR kc0 [(2000, 42), (2001, 19)] [(2, .ref 2000 1 0 _ _), (3, .ref 2001 1 0 _ _), (4, .int 0)] [(2000, .row 1 _), (2001, .row 1 _)] ?_;refine Za1 ?_;exact ⟨⟨_, rfl, rfl, rfl, rfl, trivial⟩, List.forall_mem_cons.2 ⟨Znh (by rw [e]), List.forall_mem_cons.2 ⟨rfl, List.forall_mem_nil _⟩⟩⟩
def SolveOk (g : Net) (a f : List Int) : Prop := ∃ n : Nat, g.1 = n ∧ a.length = n ∧ f.length = g.2.length ∧
 Zaf Tryz.prog 96 [.d (nD g)] [(2000, .dead), (2001, .dead)] (.tup [.ref 2000 1 0 n n, .ref 2001 1 0 g.2.length g.2.length, .int 0]) [(2000, .row 1 (intsL a)), (2001, .row 1 (intsL f))]
def SolveNo (g : Net) (e : Int) : Prop := Zaf Tryz.prog 96 [.d (nD g)] [(2000, .dead), (2001, .dead)] (.tup [.nilS, .nilS, .int e]) [(2000, .dead), (2001, .dead)]
theorem Ziz (x : Int) : x.fdiv (2 ^ min 1 64) = x / 2 := by
 have : (2 : Int) ^ min 1 64 = 2 := by decide
 rw [this, Int.fdiv_eq_ediv_of_nonneg _ (by decide)]
theorem solve_of (n : Nat) (l : List Bd) (R : Nat) (a f : List Int) (hg : nOk (n, l) = true) (h0 : (ZbJ n (Zar l (zeros l)) (ZbE n)).isSome = true)
  (hc : ZeX n l R (zeros l) (Zbt l n l.length) = some f) (hfl : f.length = l.length) (hW : (ZbJ n (Zar l f) (ZbE n)).map ZdU = some a) (hal : a.length = n) : SolveOk (n, l) a f := by
 obtain ⟨W0, h0⟩ := Option.isSome_iff_exists.1 h0;cases h : ZbJ n (Zar l f) (ZbE n) with
 | none => rw [h] at hW; cases hW
 | some W =>
  rw [h] at hW;simp only [Option.map_some, Option.some.injEq] at hW;subst hW;exact ⟨n, rfl, hal, hfl, ZlD n l f R W0 W hg h0 hc hfl h (by simpa [ZdU] using hal)⟩
end Go.Proofs.YtjjbhjnpeenbkaaGreatDoor.Sx
