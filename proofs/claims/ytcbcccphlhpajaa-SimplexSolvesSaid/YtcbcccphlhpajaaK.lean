/- Longest ways: what the search does, and within which bounds. -/
import Derived.Test.YtcbcccphlhpajaaJ
namespace Go.Proofs.Ytcbcccphlhpajaa
open Go Go.PS Go.Proofs

/-- A way: its length, where its last step begins, that step, and whether it is empty. -/
abbrev Way := Int × Int × Stp × Bool
abbrev wayD (w : Way) : D := .ag [.int w.1, .int w.2.1, .int w.2.2.1.1, .int w.2.2.1.2.1, .int w.2.2.1.2.2.1, .bool w.2.2.1.2.2.2, .bool w.2.2.2]
def way0 : Way := (0, 0, (0, 0, 0, false), false)
def wayN : Way := (-1152921504606846976, 0, (0, 0, 0, false), false)
def wayB : Way := (0, 0, (0, 0, 0, false), true)
/-- Ways, which vertices wait, and those that are next. -/
abbrev LS := List Way × List Bool × List Int
def wAt (W : List Way) (v : Int) : Way := (W[v.toNat]?).getD wayN
def bAt (B : List Bool) (v : Int) : Bool := (B[v.toNat]?).getD true
def relax (v : Int) (σ : LS) (s : Stp) : LS :=
  if (wAt σ.1 s.1).1 < (wAt σ.1 v).1 + s.2.1 then
    (σ.1.set s.1.toNat ((wAt σ.1 v).1 + s.2.1, v, s, false), if bAt σ.2.1 s.1 then σ.2 else (σ.2.1.set s.1.toNat true, σ.2.2 ++ [s.1]))
  else σ
def inner (L : List Stp) (v : Int) (σ : LS) (i : Nat) : LS := (L.take i).foldl (relax v) (σ.1, σ.2.1.set v.toNat false, σ.2.2)
def visit (ST : Nat → List Stp) (σ : LS) (v : Int) : LS := inner (ST v.toNat) v σ (ST v.toNat).length
def midN (ST : Nat → List Stp) (σ : LS) (j : Nat) : LS := (σ.2.2.take j).foldl (visit ST) (σ.1, σ.2.1, [])
def iterL (ST : Nat → List Stp) (σ : LS) : Nat → LS
  | 0 => σ
  | k + 1 => midN ST (iterL ST σ k) (iterL ST σ k).2.2.length
theorem foldl_take {α β : Type} {f : β → α → β} {l : List α} {k : Nat} {x : α} (a : β) (h : l[k]? = some x) : (l.take (k + 1)).foldl f a = f ((l.take k).foldl f a) x := by
  rw [take_snoc h, List.foldl_append]; rfl
theorem inner_succ {L : List Stp} {v : Int} {σ : LS} {i : Nat} {s : Stp} (h : L[i]? = some s) : inner L v σ (i + 1) = relax v (inner L v σ i) s := foldl_take _ h
theorem mid_succ {ST : Nat → List Stp} {σ : LS} {j : Nat} {v : Int} (h : σ.2.2[j]? = some v) : midN ST σ (j + 1) = inner (ST v.toNat) v (midN ST σ j) (ST v.toNat).length := foldl_take _ h

def Good (n : Nat) (U : Int) (c : Nat) (σ : LS) : Prop :=
  σ.1.length = n ∧ σ.2.1.length = n ∧ (∀ x ∈ σ.2.2, 0 ≤ x ∧ x < (n : Int)) ∧ (∀ w ∈ σ.1, -1152921504606846976 ≤ w.1 ∧ w.1 ≤ U) ∧ σ.2.2.length ≤ σ.2.1.count true + c
def GoodS (n : Nat) (v : Int) (L : List Stp) : Prop := ∀ s ∈ L, 0 ≤ s.1 ∧ s.1 < (n : Int) ∧ s.1 ≠ v ∧ -16777216 ≤ s.2.1 ∧ s.2.1 ≤ 16777216
theorem cnt_false (l : List Bool) : ∀ v, l.count true ≤ (l.set v false).count true + 1 := by
  induction l with
  | nil => intro v; simp
  | cons b l ih =>
    intro v
    cases v with
    | zero => cases b <;> simp
    | succ v => have := ih v; cases b <;> simp <;> omega
theorem cnt_true (l : List Bool) : ∀ v, l[v]? = some false → (l.set v true).count true = l.count true + 1 := by
  induction l with
  | nil => intro v h; simp at h
  | cons b l ih =>
    intro v h
    cases v with
    | zero => simp at h; subst h; simp
    | succ v => have := ih v (by simpa using h); cases b <;> simp <;> omega
theorem wAt_get {W : List Way} {v : Int} {n : Nat} (hW : W.length = n) (h1 : 0 ≤ v) (h2 : v < (n : Int)) : W[v.toNat]? = some (wAt W v) := by
  obtain ⟨x, hx⟩ := get_some (show v.toNat < W.length by omega)
  rw [wAt, hx]; rfl
theorem bAt_get {W : List Bool} {v : Int} {n : Nat} (hW : W.length = n) (h1 : 0 ≤ v) (h2 : v < (n : Int)) : W[v.toNat]? = some (bAt W v) := by
  obtain ⟨x, hx⟩ := get_some (show v.toNat < W.length by omega)
  rw [bAt, hx]; rfl
theorem wAt_set {W : List Way} {u v : Int} {x : Way} (h1 : 0 ≤ u) (h2 : 0 ≤ v) (h3 : v.toNat < W.length) : wAt (W.set v.toNat x) u = if u = v then x else wAt W u := by
  rw [wAt, List.getElem?_set]
  by_cases h : u = v
  · subst h; rw [if_pos rfl, if_pos h3, if_pos rfl]; rfl
  · rw [if_neg (by omega), if_neg h]; rfl
theorem relax_good {n c : Nat} {U v : Int} {σ : LS} {s : Stp} (h : Good n (U + 16777216) c σ) (hv : (wAt σ.1 v).1 ≤ U) (h0 : 0 ≤ v) (hs : 0 ≤ s.1 ∧ s.1 < (n : Int) ∧ s.1 ≠ v ∧ -16777216 ≤ s.2.1 ∧ s.2.1 ≤ 16777216) :
    Good n (U + 16777216) c (relax v σ s) ∧ (wAt (relax v σ s).1 v).1 ≤ U := by
  obtain ⟨g1, g2, g3, g4, g5⟩ := h
  obtain ⟨s1, s2, s3, s4, s5⟩ := hs
  rw [relax]
  split
  · rename_i hlt
    have hold := g4 _ (List.mem_of_getElem? (wAt_get g1 s1 s2))
    refine ⟨⟨by simp [g1], ?_, ?_, ?_, ?_⟩, ?_⟩
    · split
      · exact g2
      · simp [g2]
    · split
      · exact g3
      · intro x hx
        rcases List.mem_append.1 hx with hx | hx
        · exact g3 x hx
        · rw [List.mem_singleton.1 hx]; exact ⟨s1, s2⟩
    · intro w hw
      rcases List.mem_or_eq_of_mem_set hw with hw | rfl
      · exact g4 w hw
      · dsimp only; omega
    · split
      · exact g5
      · rename_i hb
        have hb : bAt σ.2.1 s.1 = false := by simpa using hb
        have := cnt_true σ.2.1 s.1.toNat (by rw [bAt_get g2 s1 s2, hb])
        dsimp only
        rw [List.length_append, this, List.length_singleton]; omega
    · dsimp only
      rw [wAt_set h0 s1 (by omega), if_neg (by omega)]; exact hv
  · exact ⟨⟨g1, g2, g3, g4, g5⟩, hv⟩
theorem good_mono {n c c' : Nat} {U U' : Int} {σ : LS} (h : Good n U c σ) (hU : U ≤ U') (hc : c ≤ c') : Good n U' c' σ := by
  obtain ⟨g1, g2, g3, g4, g5⟩ := h
  exact ⟨g1, g2, g3, fun w hw => by have := g4 w hw; omega, by omega⟩
theorem inner_good {n c : Nat} {U v : Int} {σ : LS} {L : List Stp} (h : Good n U c σ) (h0 : 0 ≤ v) (hvn : v < (n : Int)) (hL : GoodS n v L) :
    ∀ i, Good n (U + 16777216) (c + 1) (inner L v σ i) ∧ (wAt (inner L v σ i).1 v).1 ≤ U := by
  intro i
  induction i with
  | zero =>
    obtain ⟨g1, g2, g3, g4, g5⟩ := h
    have := cnt_false σ.2.1 v.toNat
    exact ⟨⟨g1, by simp [inner, g2], g3, fun w hw => by have := g4 w hw; omega, by simp only [inner, List.take_zero, List.foldl_nil]; omega⟩, (g4 _ (List.mem_of_getElem? (wAt_get g1 h0 hvn))).2⟩
  | succ i ih =>
    rcases Nat.lt_or_ge i L.length with hi | hi
    · obtain ⟨s, hs⟩ := get_some hi
      rw [inner_succ hs]
      exact relax_good ih.1 ih.2 h0 (hL s (List.mem_of_getElem? hs))
    · have : inner L v σ (i + 1) = inner L v σ i := by rw [inner, inner, List.take_of_length_le (by omega), List.take_of_length_le hi]
      rw [this]; exact ih
theorem mid_good {n c : Nat} {U : Int} {σ : LS} {ST : Nat → List Stp} (h : Good n U c σ) (hST : ∀ v : Nat, v < n → GoodS n v (ST v)) :
    ∀ j, j ≤ σ.2.2.length → Good n (U + 16777216 * j) j (midN ST σ j) := by
  intro j
  induction j with
  | zero => intro _; obtain ⟨g1, g2, g3, g4, g5⟩ := h; exact ⟨g1, g2, by simp [midN], fun w hw => by have := g4 w hw; omega, by simp [midN]⟩
  | succ j ih =>
    intro hj
    obtain ⟨v, hv⟩ := get_some (show j < σ.2.2.length by omega)
    have hvb := h.2.2.1 v (List.mem_of_getElem? hv)
    rw [mid_succ hv]
    refine good_mono (inner_good (ih (by omega)) hvb.1 hvb.2 (?_) _).1 (by omega) (Nat.le_refl _)
    have := hST v.toNat (by omega)
    rwa [show ((v.toNat : Nat) : Int) = v by omega] at this
theorem iter_good {n : Nat} {σ : LS} {ST : Nat → List Stp} (hn : n ≤ 2048) (h : Good n 0 σ.2.2.length σ) (hq : σ.2.2.length ≤ n) (hST : ∀ v : Nat, v < n → GoodS n v (ST v)) :
    ∀ k, k ≤ n + 1 → Good n (70437463654400 * k) (iterL ST σ k).2.2.length (iterL ST σ k) ∧ (iterL ST σ k).2.2.length ≤ n * (k + 1) := by
  intro k
  induction k with
  | zero => intro _; exact ⟨by simpa [iterL] using h, by simpa [iterL] using hq⟩
  | succ k ih =>
    intro hk
    obtain ⟨h1, h2⟩ := ih (by omega)
    have h3 := mid_good h1 hST (iterL ST σ k).2.2.length (Nat.le_refl _)
    have hqk : (iterL ST σ k).2.2.length ≤ 4198400 := by
      have : n * (k + 1) ≤ 2048 * 2050 := Nat.mul_le_mul hn (by omega)
      omega
    obtain ⟨g1, g2, g3, g4, g5⟩ := h3
    have hc : ((midN ST (iterL ST σ k) (iterL ST σ k).2.2.length).2.1).count true ≤ n := by rw [← g2]; exact List.count_le_length
    refine ⟨⟨g1, g2, g3, fun w hw => ?_, by simp only [iterL]; omega⟩, ?_⟩
    · have := g4 w hw; omega
    · simp only [iterL]
      have : n * (k + 1 + 1) = n * (k + 1) + n := by rw [Nat.mul_succ]
      omega
def startW (n : Nat) (st : List Int) (j : Nat) : List Way := (st.take j).foldl (fun W v => W.set v.toNat wayB) (List.replicate n wayN)
theorem startW_succ {n : Nat} {st : List Int} {j : Nat} {v : Int} (h : st[j]? = some v) : startW n st (j + 1) = (startW n st j).set v.toNat wayB := foldl_take _ h
theorem startW_len (n : Nat) (st : List Int) : ∀ j, (startW n st j).length = n := by
  intro j
  rw [startW]
  generalize st.take j = l
  have : ∀ (l : List Int) (W : List Way), (l.foldl (fun W v => W.set v.toNat wayB) W).length = W.length := by
    intro l
    induction l with
    | nil => intro W; rfl
    | cons v l ih => intro W; rw [List.foldl_cons, ih]; simp
  rw [this]; simp
theorem startW_mem (n : Nat) (st : List Int) (j : Nat) : ∀ w ∈ startW n st j, w = wayN ∨ w = wayB := by
  rw [startW]
  generalize st.take j = l
  have : ∀ (l : List Int) (W : List Way), (∀ w ∈ W, w = wayN ∨ w = wayB) → ∀ w ∈ l.foldl (fun W v => W.set v.toNat wayB) W, w = wayN ∨ w = wayB := by
    intro l
    induction l with
    | nil => intro W h; exact h
    | cons v l ih =>
      intro W h
      rw [List.foldl_cons]
      refine ih _ fun w hw => ?_
      rcases List.mem_or_eq_of_mem_set hw with hw | rfl
      · exact h w hw
      · exact .inr rfl
  exact this l _ fun w hw => .inl (List.eq_of_mem_replicate hw)
def state0 (n : Nat) (st : List Int) : LS := (startW n st st.length, List.replicate n false, st)
theorem state0_good {n : Nat} {st : List Int} (hst : ∀ x ∈ st, 0 ≤ x ∧ x < (n : Int)) : Good n 0 (state0 n st).2.2.length (state0 n st) := by
  refine ⟨startW_len _ _ _, by simp [state0], hst, fun w hw => ?_, by omega⟩
  rcases startW_mem _ _ _ w hw with rfl | rfl <;> simp [wayN, wayB]
/-- The round in which no vertex is left, if that is not too late. -/
def endL (n : Nat) (ST : Nat → List Stp) (st : List Int) : Option Nat := firstN (fun k => (iterL ST (state0 n st) k).2.2.isEmpty) (n + 2)
def longestF (n : Nat) (ST : Nat → List Stp) (st : List Int) : Option (List Way) := (endL n ST st).map fun k => (iterL ST (state0 n st) k).1
end Go.Proofs.Ytcbcccphlhpajaa
