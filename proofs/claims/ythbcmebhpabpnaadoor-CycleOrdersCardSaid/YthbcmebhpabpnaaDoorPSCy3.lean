/- The greedy order of a digraph's vertices. No program in sight. -/
import Derived.Test.YthbcmebhpabpnaaDoorPSBridge
import Derived.Test.YthbcmebhpabpnaaDoorPSFam
import Derived.Stop.Joined
import Derived.Lib.LaidTab
import Derived.Stop.LaidErr
set_option linter.unusedSimpArgs false
set_option linter.unusedVariables false
namespace Go.Cy
open Go.Bd (Part)

def inOut (S : List Nat) (a : NA) : Bool := !decide (a.1 = a.2) && (decide (a.1 ∈ S) && decide (a.2 ∈ S))
def degO (l : List NA) (S : List Nat) (v : Nat) : Nat := (l.filter fun a => inOut S a && decide (a.1 = v)).length
def degB (l : List NA) (S : List Nat) (v : Nat) : Nat := (l.filter fun a => inOut S a && decide (a.2 = v)).length
def pickV (n : Nat) (S : List Nat) (p : Nat → Bool) : Option Nat := (List.range n).find? fun v => decide (v ∈ S) && p v
def sinkV (n : Nat) (l : List NA) (S : List Nat) : Option Nat := pickV n S fun v => decide (degO l S v = 0)
def srcV (n : Nat) (l : List NA) (S : List Nat) : Option Nat := pickV n S fun v => decide (degB l S v = 0)
def diffV (l : List NA) (S : List Nat) (v : Nat) : Int := degO l S v - degB l S v
def bestStep (l : List NA) (S : List Nat) (acc : Option Nat) (v : Nat) : Option Nat :=
 if v ∈ S then match acc with
  | none => some v
  | some b => if diffV l S b < diffV l S v then some v else some b
 else acc
def bestK (l : List NA) (S : List Nat) (k : Nat) : Option Nat := (List.range k).foldl (bestStep l S) none
def bestV (n : Nat) (l : List NA) (S : List Nat) : Option Nat := bestK l S n
theorem bestK_succ (l : List NA) (S : List Nat) (k : Nat) : bestK l S (k + 1) = bestStep l S (bestK l S k) k := by simp [bestK, List.range_succ]
def runF (n : Nat) (l : List NA) : Nat → Nat → List Nat → List Nat → List Nat → List Nat
 | 0, _, _, f, s => f ++ s
 | k + 1, 0, S, f, s => match sinkV n l S with
  | some v => runF n l k 0 (S.erase v) f (v :: s)
  | none => runF n l k 1 S f s
 | k + 1, 1, S, f, s => match srcV n l S with
  | some v => runF n l k 1 (S.erase v) (f ++ [v]) s
  | none => runF n l k 2 S f s
 | k + 1, _ + 2, S, f, s => match bestV n l S with
  | some v => runF n l k 0 (S.erase v) (f ++ [v]) s
  | none => f ++ s
def greedyO (n : Nat) (l : List NA) : List Nat := runF n l (4 * n + 4) 0 (List.range n) [] []

theorem pickV_some {n : Nat} {S : List Nat} {p : Nat → Bool} {v : Nat} (h : pickV n S p = some v) : v < n ∧ v ∈ S ∧ p v = true := by
 have h1 := List.find?_some h
 have h2 := List.mem_of_find?_eq_some h
 simp only [Bool.and_eq_true, decide_eq_true_eq] at h1
 exact ⟨List.mem_range.1 h2, h1.1, h1.2⟩
theorem pickV_nil (n : Nat) (p : Nat → Bool) : pickV n [] p = none := by simp [pickV]
theorem bestK_nil (l : List NA) (k : Nat) : bestK l [] k = none := by
 induction k with
 | zero => rfl
 | succ k ih => rw [bestK_succ, ih]; simp [bestStep]
theorem bestK_spec (l : List NA) (S : List Nat) : ∀ (k : Nat), match bestK l S k with
  | none => ∀ u, u < k → u ∉ S
  | some v => v < k ∧ v ∈ S ∧ ∀ u, u < k → u ∈ S → diffV l S u ≤ diffV l S v := by
 intro k
 induction k with
 | zero => simp [bestK]
 | succ k ih =>
  rw [bestK_succ]
  revert ih
  rcases bestK l S k with _ | b <;> intro ih
  ·dsimp only at ih
   simp only [bestStep]
   by_cases c : k ∈ S
   ·rw [if_pos c]
    refine ⟨by omega, c, fun u hu hS => ?_⟩
    rcases Nat.lt_succ_iff_lt_or_eq.1 hu with h | rfl
    ·exact (ih u h hS).elim
    ·exact Int.le_refl _
   ·rw [if_neg c]
    intro u hu
    rcases Nat.lt_succ_iff_lt_or_eq.1 hu with h | rfl
    ·exact ih u h
    ·exact c
  ·obtain ⟨h1, h2, h3⟩ := ih
   simp only [bestStep]
   by_cases c : k ∈ S
   ·rw [if_pos c]
    by_cases c2 : diffV l S b < diffV l S k
    ·rw [if_pos c2]
     refine ⟨by omega, c, fun u hu hS => ?_⟩
     rcases Nat.lt_succ_iff_lt_or_eq.1 hu with h | rfl
     ·have := h3 u h hS; omega
     ·exact Int.le_refl _
    ·rw [if_neg c2]
     refine ⟨by omega, h2, fun u hu hS => ?_⟩
     rcases Nat.lt_succ_iff_lt_or_eq.1 hu with h | rfl
     ·exact h3 u h hS
     ·omega
   ·rw [if_neg c]
    refine ⟨by omega, h2, fun u hu hS => ?_⟩
    rcases Nat.lt_succ_iff_lt_or_eq.1 hu with h | rfl
    ·exact h3 u h hS
    ·exact (c hS).elim
theorem runF_nil (n : Nat) (l : List NA) : ∀ (k p : Nat) (f s : List Nat), runF n l k p [] f s = f ++ s
 | 0, _, _, _ => by simp [runF]
 | k + 1, 0, f, s => by rw [runF, sinkV, pickV_nil]; exact runF_nil n l k 1 f s
 | k + 1, 1, f, s => by rw [runF, srcV, pickV_nil]; exact runF_nil n l k 2 f s
 | k + 1, p + 2, f, s => by rw [runF, bestV, bestK_nil]
theorem count3 {p q r t : NA → Bool} : ∀ {l : List NA}, (∀ a, a ∈ l → (p a).toNat = (q a).toNat + (r a).toNat + (t a).toNat) → (l.filter p).length = (l.filter q).length + (l.filter r).length + (l.filter t).length
 | [], _ => rfl
 | a :: l, h => by
  have h1 := h a (by simp)
  have h2 := count3 fun b hb => h b (List.mem_cons_of_mem _ hb)
  have e : ∀ x : NA → Bool, ((a :: l).filter x).length = (x a).toNat + (l.filter x).length := fun x => by
   rw [List.filter_cons]
   cases x a
   ·simp
   ·simp; omega
  rw [e, e, e, e]; omega
theorem sum_zero : ∀ (S : List Nat), (S.map fun _ => 0).sum = 0
 | [] => rfl
 | x :: S => by rw [List.map_cons, List.sum_cons, sum_zero S]
theorem no_arcs (l : List NA) : (l.filter fun _ => false).length = 0 := by
 induction l with
 | nil => rfl
 | cons a l ih => rw [List.filter_cons]; exact ih
theorem toNat_sum {S : List Nat} {u : Nat} (hn : S.Nodup) (hu : u ∈ S) (b : Bool) : (S.map fun v => (b && decide (u = v)).toNat).sum = b.toNat := by
 cases b
 ·exact sum_zero S
 ·simp only [Bool.true_and, Bool.toNat_true]
  induction S with
  | nil => cases hu
  | cons x S ih =>
   have hn' := List.nodup_cons.1 hn
   rw [List.map_cons, List.sum_cons]
   rcases List.mem_cons.1 hu with rfl | hu
   ·have : (S.map fun v => (decide (u = v)).toNat).sum = 0 := by
     have : ∀ T : List Nat, u ∉ T → (T.map fun v => (decide (u = v)).toNat).sum = 0 := by
      intro T
      induction T with
      | nil => intro _; rfl
      | cons y T ih => intro h; rw [List.map_cons, List.sum_cons, ih (fun h' => h (List.mem_cons_of_mem _ h'))]; have : u ≠ y := fun e => h (by simp [e]); simp [this]
     exact this S hn'.1
    rw [this]; simp
   ·have : u ≠ x := fun e => hn'.1 (e ▸ hu)
    rw [ih hn'.2 hu]; simp [this]
theorem sum_deg {S : List Nat} (hn : S.Nodup) (e : NA → Nat) (he : ∀ a, inOut S a = true → e a ∈ S) : ∀ (l : List NA), (S.map fun v => (l.filter fun a => inOut S a && decide (e a = v)).length).sum = (l.filter (inOut S)).length
 | [] => sum_zero S
 | a :: l => by
  have h1 := sum_deg hn e he l
  have h2 : ∀ v, ((a :: l).filter fun a => inOut S a && decide (e a = v)).length = (inOut S a && decide (e a = v)).toNat + (l.filter fun a => inOut S a && decide (e a = v)).length := fun v => by
   rw [List.filter_cons]
   cases inOut S a && decide (e a = v)
   ·simp
   ·simp; omega
  simp only [h2, sum_add]
  rw [h1, List.filter_cons]
  cases h : inOut S a
  ·have : (S.map fun v => (false && decide (e a = v)).toNat).sum = 0 := sum_zero S
   rw [this]; simp
  ·have := toNat_sum hn (he a h) true
   rw [this]; simp; omega
theorem in_of {S : List Nat} {a : NA} (h : inOut S a = true) : a.1 ≠ a.2 ∧ a.1 ∈ S ∧ a.2 ∈ S := by
 simpa [inOut] using h
theorem sum_lt {f g : Nat → Nat} : ∀ {S : List Nat}, (∀ v, v ∈ S → f v < g v) → (S.map f).sum + S.length ≤ (S.map g).sum
 | [], _ => by simp
 | x :: S, h => by
  have h1 := h x (by simp)
  have h2 := sum_lt fun v hv => h v (List.mem_cons_of_mem _ hv)
  simp; omega
theorem best_pos {n : Nat} {l : List NA} {S : List Nat} (hn : S.Nodup) (hS : ∀ v, v ∈ S → v < n) (hne : S ≠ []) : ∃ v, bestV n l S = some v ∧ v ∈ S ∧ degB l S v ≤ degO l S v := by
 have h := bestK_spec l S n
 rw [bestV]
 revert h
 rcases bestK l S n with _ | v <;> intro h
 ·obtain ⟨x, hx⟩ := List.exists_mem_of_ne_nil S hne
  exact (h x (hS x hx) hx).elim
 ·obtain ⟨h1, h2, h3⟩ := h
  refine ⟨v, rfl, h2, Decidable.byContradiction fun hc => ?_⟩
  have h4 : (S.map (degO l S)).sum + S.length ≤ (S.map (degB l S)).sum := sum_lt fun u hu => by
   have := h3 u (hS u hu) hu
   simp only [diffV] at this
   omega
  have h5 : (S.map (degO l S)).sum = (l.filter (inOut S)).length := sum_deg hn (fun a => a.1) (fun a ha => (in_of ha).2.1) l
  have h6 : (S.map (degB l S)).sum = (l.filter (inOut S)).length := sum_deg hn (fun a => a.2) (fun a ha => (in_of ha).2.2) l
  have := List.length_pos_iff.2 hne
  omega
def bkC (l : List NA) (S M : List Nat) : Nat := (l.filter fun a => inOut S a && bwd M a).length
theorem arcs_erase {l : List NA} {S : List Nat} {v : Nat} (hn : S.Nodup) (hv : v ∈ S) : (l.filter (inOut S)).length = (l.filter (inOut (S.erase v))).length + degO l S v + degB l S v := by
 refine count3 fun a _ => ?_
 simp only [inOut, List.Nodup.mem_erase_iff hn]
 by_cases c0 : a.1 = a.2
 ·simp [c0]
 ·by_cases c1 : a.1 = v
  ·have c2 : ¬ a.2 = v := fun h => c0 (c1.trans h.symm)
   subst c1
   simp [c0, hv, c2]
  ·by_cases c2 : a.2 = v
   ·subst c2
    simp [c0, hv, c1]
   ·simp [c0, c1, c2]
theorem bk_last {l : List NA} {S M : List Nat} {v : Nat} (hn : S.Nodup) (hv : v ∈ S) (hM : M.Perm (S.erase v)) : bkC l S (M ++ [v]) = bkC l (S.erase v) M + degO l S v := by
 have hvM : v ∉ M := fun h => by have := (List.Nodup.mem_erase_iff hn).1 (hM.mem_iff.1 h); exact this.1 rfl
 have : bkC l S (M ++ [v]) = bkC l (S.erase v) M + degO l S v + (l.filter fun _ => false).length := by
  refine count3 fun a _ => ?_
  by_cases c0 : inOut S a = true
  ·obtain ⟨h0, h1, h2⟩ := in_of c0
   rw [c0]
   by_cases c1 : a.1 = v
   ·have c2 : a.2 ≠ v := fun h => h0 (c1.trans h.symm)
    have h3 : a.2 ∈ M := hM.mem_iff.2 ((List.Nodup.mem_erase_iff hn).2 ⟨c2, h2⟩)
    have h4 : inOut (S.erase v) a = false := by simp [inOut, List.Nodup.mem_erase_iff hn, c1]
    have h5 : bwd (M ++ [v]) a = true := by
     simp only [bwd, c1, decide_eq_true_eq]
     rw [idx_last hvM, idx_snoc h3]; exact List.idxOf_lt_length_of_mem h3
    simp [h4, h5, c1]
   ·have h3 : a.1 ∈ M := hM.mem_iff.2 ((List.Nodup.mem_erase_iff hn).2 ⟨c1, h1⟩)
    by_cases c2 : a.2 = v
    ·have h4 : inOut (S.erase v) a = false := by simp [inOut, List.Nodup.mem_erase_iff hn, c2]
     have h5 : bwd (M ++ [v]) a = false := by
      have := List.idxOf_lt_length_of_mem h3
      simp only [bwd, c2, decide_eq_false_iff_not]
      rw [idx_last hvM, idx_snoc h3]; omega
     simp [h4, h5, c1]
    ·have h4 : a.2 ∈ M := hM.mem_iff.2 ((List.Nodup.mem_erase_iff hn).2 ⟨c2, h2⟩)
     have h5 : inOut (S.erase v) a = true := by simp [inOut, List.Nodup.mem_erase_iff hn, c1, c2, h0, h1, h2]
     have h6 : bwd (M ++ [v]) a = bwd M a := by simp only [bwd]; rw [idx_snoc h3, idx_snoc h4]
     simp [h5, h6, c1]
  ·have c1 : inOut S a = false := by simpa using c0
   have c2 : inOut (S.erase v) a = false := by
    cases h : inOut (S.erase v) a
    ·rfl
    ·obtain ⟨h0, h1, h2⟩ := in_of h
     exfalso; apply c0
     simp [inOut, h0, List.mem_of_mem_erase h1, List.mem_of_mem_erase h2]
   simp [c1, c2]
 rw [no_arcs] at this; exact this
theorem bk_first {l : List NA} {S M : List Nat} {v : Nat} (hn : S.Nodup) (hv : v ∈ S) (hM : M.Perm (S.erase v)) : bkC l S (v :: M) = bkC l (S.erase v) M + degB l S v := by
 have idx_ne : ∀ u, u ≠ v → (v :: M).idxOf u = M.idxOf u + 1 := fun u hu => by
  have : (v == u) = false := by simpa using Ne.symm hu
  rw [List.idxOf_cons, this]; rfl
 have idx_v : (v :: M).idxOf v = 0 := by simp
 have : bkC l S (v :: M) = bkC l (S.erase v) M + degB l S v + (l.filter fun _ => false).length := by
  refine count3 fun a _ => ?_
  by_cases c0 : inOut S a = true
  ·obtain ⟨h0, h1, h2⟩ := in_of c0
   rw [c0]
   by_cases c1 : a.1 = v
   ·have c2 : a.2 ≠ v := fun h => h0 (c1.trans h.symm)
    have h4 : inOut (S.erase v) a = false := by simp [inOut, List.Nodup.mem_erase_iff hn, c1]
    have h5 : bwd (v :: M) a = false := by
     simp only [bwd, c1, decide_eq_false_iff_not]
     rw [idx_v]; omega
    simp [h4, h5, c2]
   ·by_cases c2 : a.2 = v
    ·have h4 : inOut (S.erase v) a = false := by simp [inOut, List.Nodup.mem_erase_iff hn, c2]
     have h5 : bwd (v :: M) a = true := by
      simp only [bwd, c2, decide_eq_true_eq]
      rw [idx_v, idx_ne _ c1]; omega
     simp [h4, h5, c2]
    ·have h5 : inOut (S.erase v) a = true := by simp [inOut, List.Nodup.mem_erase_iff hn, c1, c2, h0, h1, h2]
     have h6 : bwd (v :: M) a = bwd M a := by simp only [bwd]; rw [idx_ne _ c1, idx_ne _ c2]; congr 1; rw [eq_iff_iff]; omega
     simp [h5, h6, c2]
  ·have c1 : inOut S a = false := by simpa using c0
   have c2 : inOut (S.erase v) a = false := by
    cases h : inOut (S.erase v) a
    ·rfl
    ·obtain ⟨h0, h1, h2⟩ := in_of h
     exfalso; apply c0
     simp [inOut, h0, List.mem_of_mem_erase h1, List.mem_of_mem_erase h2]
   simp [c1, c2]
 rw [no_arcs] at this; exact this
theorem runF_spec (n : Nat) (l : List NA) : ∀ (k p : Nat) (S f s : List Nat), S.Nodup → (∀ v, v ∈ S → v < n) → 4 * S.length + 4 ≤ k + p → p ≤ 2 →
  ∃ M, M.Perm S ∧ runF n l k p S f s = f ++ M ++ s ∧ 2 * bkC l S M ≤ (l.filter (inOut S)).length := by
 intro k
 induction k with
 | zero => intro p S f s _ _ h h2; omega
 | succ k ih =>
  intro p S f s hn hS hk hp
  have len : ∀ v, v ∈ S → (S.erase v).length + 1 = S.length := fun v hv => by rw [List.length_erase_of_mem hv]; have := List.length_pos_of_mem hv; omega
  have sub : ∀ v u, u ∈ S.erase v → u < n := fun v u hu => hS u (List.mem_of_mem_erase hu)
  rcases p with _ | _ | p
  ·rw [runF]
   rcases hx : sinkV n l S with _ | v
   ·exact ih 1 S f s hn hS (by omega) (by omega)
   ·obtain ⟨h1, h2, h3⟩ := pickV_some hx
    have hl := len v h2
    obtain ⟨M, g1, g2, g3⟩ := ih 0 (S.erase v) f (v :: s) (hn.erase v) (sub v) (by omega) (by omega)
    refine ⟨M ++ [v], ((List.perm_append_comm.trans (g1.cons v)).trans (List.perm_cons_erase h2).symm), by dsimp only; rw [g2]; simp, ?_⟩
    have h4 := arcs_erase (l := l) hn h2
    simp only [decide_eq_true_eq] at h3
    rw [bk_last hn h2 g1]; omega
  ·rw [runF]
   rcases hx : srcV n l S with _ | v
   ·exact ih 2 S f s hn hS (by omega) (by omega)
   ·obtain ⟨h1, h2, h3⟩ := pickV_some hx
    have hl := len v h2
    obtain ⟨M, g1, g2, g3⟩ := ih 1 (S.erase v) (f ++ [v]) s (hn.erase v) (sub v) (by omega) (by omega)
    refine ⟨v :: M, (g1.cons v).trans (List.perm_cons_erase h2).symm, by dsimp only; rw [g2]; simp, ?_⟩
    have h4 := arcs_erase (l := l) hn h2
    simp only [decide_eq_true_eq] at h3
    rw [bk_first hn h2 g1]; omega
  ·obtain rfl : p = 0 := by omega
   rw [runF]
   by_cases hne : S = []
   ·subst hne
    rw [bestV, bestK_nil]
    exact ⟨[], List.Perm.nil, by simp, by simp [bkC, inOut, no_arcs]⟩
   ·obtain ⟨v, h1, h2, h3⟩ := best_pos (l := l) hn hS hne
    rw [h1]
    have hl := len v h2
    obtain ⟨M, g1, g2, g3⟩ := ih 0 (S.erase v) (f ++ [v]) s (hn.erase v) (sub v) (by omega) (by omega)
    refine ⟨v :: M, (g1.cons v).trans (List.perm_cons_erase h2).symm, by dsimp only; rw [g2]; simp, ?_⟩
    have h4 := arcs_erase (l := l) hn h2
    rw [bk_first hn h2 g1]; omega
theorem greedy_part (n : Nat) (l : List NA) : Part n 0 (greedyO n l) := by
 obtain ⟨M, h1, h2, _⟩ := runF_spec n l (4 * n + 4) 0 (List.range n) [] [] List.nodup_range (fun v hv => List.mem_range.1 hv) (by simp) (by omega)
 have e : greedyO n l = M := by rw [greedyO, h2]; simp
 rw [e]
 exact ⟨h1.nodup_iff.2 List.nodup_range, fun v hv => List.mem_range.1 (h1.mem_iff.1 hv), by simpa using h1.length_eq⟩
theorem greedy_half {n : Nat} {l : List NA} (hi : InN n l) : 2 * (backL (greedyO n l) l).length ≤ (noLoops l).length := by
 obtain ⟨M, h1, h2, h3⟩ := runF_spec n l (4 * n + 4) 0 (List.range n) [] [] List.nodup_range (fun v hv => List.mem_range.1 hv) (by simp) (by omega)
 have e : greedyO n l = M := by rw [greedyO, h2]; simp
 have e1 : ∀ a, a ∈ l → inOut (List.range n) a = !decide (a.1 = a.2) := fun a ha => by
  have := hi a ha
  simp [inOut, this.1, this.2]
 have e2 : l.filter (inOut (List.range n)) = noLoops l := List.filter_congr e1
 have e3 : bkC l (List.range n) M = (backL M l).length := by
  rw [back_len, bkC]
  congr 1
  refine List.filter_congr fun a ha => ?_
  rw [e1 a ha]
  cases hb : bwd M a
  ·simp
  ·have := bwd_ne hb
   simp [this]
 rw [e, ← e3, ← e2]; exact h3
end Go.Cy
namespace Go.Cy
open Go.Bd (Part)
def betterS (acc : Option (List Nat)) (s : List Nat) : Option (List Nat) := match acc with
 | none => some s
 | some b => if lessS s b then some s else some b
mutual
def srch (n : Nat) (l : List NA) : Nat → List Nat → List Nat
 | 0, m => backL m l
 | f + 1, m => (srchK n l f m n).getD []
def srchK (n : Nat) (l : List NA) (f : Nat) (m : List Nat) : Nat → Option (List Nat)
 | 0 => none
 | k + 1 => if k ∈ m then srchK n l f m k else betterS (srchK n l f m k) (srch n l f (m ++ [k]))
end
structure Best (n : Nat) (l : List NA) (m s : List Nat) : Prop where
 is : ∃ t, Part n 0 (m ++ t) ∧ s = backL (m ++ t) l
 least : ∀ t, Part n 0 (m ++ t) → lessS (backL (m ++ t) l) s = false
theorem lessS_irr (a : List Nat) : lessS a a = false := by rw [lessS, if_pos rfl]; exact lexLt_irr a
theorem lessS_tri {a b c : List Nat} (h1 : lessS a b = false) (h2 : lessS b c = false) : lessS a c = false := by
 cases h : lessS a c
 ·rfl
 ·exfalso
  cases h3 : lessS b a
  ·have := lessS_eq h1 h3
   subst this
   rw [h2] at h; cases h
  ·have := lessS_trans h3 h
   rw [h2] at this; cases this
theorem srch_best (n : Nat) (l : List NA) : ∀ (f : Nat) (m : List Nat), Part n f m → Best n l m (srch n l f m) := by
 intro f
 induction f with
 | zero =>
  intro m h
  rw [srch]
  refine ⟨⟨[], by rw [List.append_nil]; exact h, by rw [List.append_nil]⟩, fun t ht => ?_⟩
  have h1 := ht.len
  have h2 := h.len
  rw [List.length_append] at h1
  have : t = [] := List.eq_nil_of_length_eq_zero (by omega)
  subst this
  rw [List.append_nil]; exact lessS_irr _
 | succ f ih =>
  intro m h
  -- after k vertices: nothing yet, or the best of those completions that begin with one of them
  have key : ∀ k, k ≤ n → match srchK n l f m k with
    | none => ∀ u, u < k → u ∈ m
    | some s => (∃ t, Part n 0 (m ++ t) ∧ s = backL (m ++ t) l) ∧ ∀ u t, u < k → Part n 0 (m ++ u :: t) → lessS (backL (m ++ u :: t) l) s = false := by
   intro k
   induction k with
   | zero => intro _; rw [srchK]; intro u hu; omega
   | succ k ihk =>
    intro hk
    have ihk := ihk (by omega)
    rw [srchK]
    by_cases c : k ∈ m
    ·rw [if_pos c]
     revert ihk
     rcases srchK n l f m k with _ | s <;> intro ihk
     ·intro u hu
      rcases Nat.lt_succ_iff_lt_or_eq.1 hu with h1 | rfl
      ·exact ihk u h1
      ·exact c
     ·refine ⟨ihk.1, fun u t hu ht => ?_⟩
      rcases Nat.lt_succ_iff_lt_or_eq.1 hu with h1 | rfl
      ·exact ihk.2 u t h1 ht
      ·exfalso
       have := (List.nodup_append.1 ht.nd).2.2 u c u (by simp)
       exact this rfl
    ·rw [if_neg c]
     have hb := ih (m ++ [k]) (h.snoc (by omega) c)
     have e : ∀ t, m ++ [k] ++ t = m ++ k :: t := fun t => by simp
     obtain ⟨⟨t0, h1, h2⟩, h3⟩ := hb
     rw [e] at h1 h2
     have h3' : ∀ t, Part n 0 (m ++ k :: t) → lessS (backL (m ++ k :: t) l) (srch n l f (m ++ [k])) = false := fun t ht => by rw [← e]; exact h3 t (by rw [e]; exact ht)
     revert ihk
     rcases srchK n l f m k with _ | s <;> intro ihk
     ·refine ⟨⟨_, h1, h2⟩, fun u t hu ht => ?_⟩
      rcases Nat.lt_succ_iff_lt_or_eq.1 hu with h4 | rfl
      ·exfalso
       have := (List.nodup_append.1 ht.nd).2.2 u (ihk u h4) u (by simp)
       exact this rfl
      ·exact h3' t ht
     ·simp only [betterS]
      cases hl : lessS (srch n l f (m ++ [k])) s
      ·rw [if_neg Bool.false_ne_true]
       refine ⟨ihk.1, fun u t hu ht => ?_⟩
       rcases Nat.lt_succ_iff_lt_or_eq.1 hu with h4 | rfl
       ·exact ihk.2 u t h4 ht
       ·exact lessS_tri (h3' t ht) hl
      ·rw [if_pos rfl]
       refine ⟨⟨_, h1, h2⟩, fun u t hu ht => ?_⟩
       rcases Nat.lt_succ_iff_lt_or_eq.1 hu with h4 | rfl
       ·exact lessS_tri (ihk.2 u t h4 ht) (lessS_asymm hl)
       ·exact h3' t ht
  have hk := key n (Nat.le_refl n)
  rw [srch]
  revert hk
  rcases srchK n l f m n with _ | s <;> intro hk
  ·exfalso
   have := nd_le (n := m.length) (G := m) h.nd
   have hm : n ≤ m.length := by
    have : ∀ {a b : List Nat}, a.Nodup → (∀ x, x ∈ a → x ∈ b) → a.length ≤ b.length := by
     intro a
     induction a with
     | nil => intro b _ _; simp
     | cons x a ih =>
      intro b hn hs
      have hn' := List.nodup_cons.1 hn
      have hx := hs x (by simp)
      have := ih (b := b.erase x) hn'.2 fun y hy => (List.mem_erase_of_ne (fun e => hn'.1 (by rw [← e]; exact hy))).2 (hs y (List.mem_cons_of_mem _ hy))
      rw [List.length_erase_of_mem hx] at this
      have := List.length_pos_of_mem hx
      simp; omega
    have := this (a := List.range n) (b := m) List.nodup_range fun v hv => hk v (List.mem_range.1 hv)
    simpa using this
   have := h.len; omega
  ·refine ⟨hk.1, fun t ht => ?_⟩
   cases t with
   | nil =>
    have h1 := ht.len
    have h2 := h.len
    rw [List.append_nil] at h1; omega
   | cons u t => exact hk.2 u t (ht.lt u (by simp)) ht
theorem srch_least {n : Nat} {l : List NA} (h8 : n ≤ 8) (hi : InN n l) (hl : l.length < 1048576) : srch n l n [] = leastS n l := by
 have hP : Part n n [] := ⟨List.nodup_nil, by simp, by simp⟩
 obtain ⟨⟨t, h1, h2⟩, h3⟩ := srch_best n l n [] hP
 obtain ⟨M, g1, g2⟩ := least_back h8 hi hl
 refine lessS_eq ?_ ?_
 ·rw [h2]; exact least_min h8 hi hl h1
 ·rw [← g2]; exact h3 M g1
theorem srch_len (n : Nat) (l : List NA) {f : Nat} {m : List Nat} (h : Part n f m) : (srch n l f m).length ≤ l.length := by
 obtain ⟨⟨t, h1, h2⟩, _⟩ := srch_best n l f m h
 rw [h2, backL]
 exact Nat.le_trans (List.length_filter_le _ _) (by simp)
end Go.Cy
namespace Go.PS
open Go
theorem wrap_nat {n : Nat} (h : n < 9223372036854775808) : IntKind.i64.wrap (n : Int) = n := by
 rw [IntKind.wrap_i64]; omega
theorem bv_nat (a : Nat) : BitVec.ofInt 64 (a : Int) = BitVec.ofNat 64 a := BitVec.ofInt_natCast _ _
theorem bv_toNat {a : Nat} (h : a < 9223372036854775808) : (BitVec.ofNat 64 a).toNat = a := by
 rw [BitVec.toNat_ofNat, Nat.mod_eq_of_lt]; omega
theorem bv_and {a b : Nat} (ha : a < 9223372036854775808) (hb : b < 9223372036854775808) : IntKind.i64.wrap ((BitVec.ofInt 64 (a : Int) &&& BitVec.ofInt 64 (b : Int)).toNat : Int) = ((a &&& b : Nat) : Int) := by
 rw [bv_nat, bv_nat, BitVec.toNat_and, bv_toNat ha, bv_toNat hb]
 exact wrap_nat (Nat.lt_of_le_of_lt Nat.and_le_left ha)
theorem bv_or {a b : Nat} (ha : a < 9223372036854775808) (hb : b < 9223372036854775808) : IntKind.i64.wrap ((BitVec.ofInt 64 (a : Int) ||| BitVec.ofInt 64 (b : Int)).toNat : Int) = ((a ||| b : Nat) : Int) := by
 rw [bv_nat, bv_nat, BitVec.toNat_or, bv_toNat ha, bv_toNat hb]
 exact wrap_nat (Nat.or_lt_two_pow (n := 63) ha hb)
def andn (a b : Nat) : Nat := a ^^^ (a &&& b)
theorem andn_bit (a b i : Nat) : (andn a b).testBit i = (a.testBit i && !b.testBit i) := by
 simp only [andn, Nat.testBit_xor, Nat.testBit_and]
 cases a.testBit i <;> cases b.testBit i <;> rfl
theorem bv_andn {a b : Nat} (ha : a < 9223372036854775808) (hb : b < 9223372036854775808) : IntKind.i64.wrap ((BitVec.ofInt 64 (a : Int) &&& ~~~BitVec.ofInt 64 (b : Int)).toNat : Int) = ((andn a b : Nat) : Int) := by
 have e : (BitVec.ofNat 64 a &&& ~~~BitVec.ofNat 64 b).toNat = andn a b := by
  refine Nat.eq_of_testBit_eq fun i => ?_
  rw [andn_bit, BitVec.testBit_toNat, BitVec.getLsbD_and, BitVec.getLsbD_not]
  rw [← BitVec.testBit_toNat, bv_toNat ha, ← BitVec.testBit_toNat, bv_toNat hb]
  rcases Nat.lt_or_ge i 64 with h | h
  ·simp [h]
  ·have : a.testBit i = false := Nat.testBit_lt_two_pow (Nat.lt_of_lt_of_le ha (Nat.le_trans (by decide : 9223372036854775808 ≤ 2 ^ 64) (Nat.pow_le_pow_right (n := 2) (by decide) h)))
   simp [this]
 rw [bv_nat, bv_nat, e]
 refine wrap_nat (Nat.lt_of_le_of_lt ?_ ha)
 refine Nat.le_of_not_lt fun h => ?_
 have : andn a b ≤ a := by
  have h1 := Nat.and_le_left (n := a) (m := andn a b)
  have h2 : a &&& andn a b = andn a b := by
   refine Nat.eq_of_testBit_eq fun i => ?_
   rw [Nat.testBit_and, andn_bit]; cases a.testBit i <;> rfl
  rw [h2] at h1; exact h1
 omega
theorem andn_zero {a b n : Nat} (ha : a < 2 ^ n) : andn a b = 0 ↔ Go.Cy.inB n a b = true := by
 rw [Go.Cy.inB_iff]
 constructor
 ·intro h u _ hu
  have := andn_bit a b u
  rw [h, Nat.zero_testBit, hu] at this
  simpa using this.symm
 ·intro h
  refine Nat.eq_of_testBit_eq fun u => ?_
  rw [andn_bit, Nat.zero_testBit]
  rcases Nat.lt_or_ge u n with hu | hu
  ·cases hb : a.testBit u
   ·rfl
   ·rw [h u hu hb]; rfl
  ·rw [Nat.testBit_lt_two_pow (Nat.lt_of_lt_of_le ha (Nat.pow_le_pow_right (by decide) hu))]; rfl
theorem andn_pow : ∀ s : Nat, s < 256 → ∀ v : Nat, v < 8 → s.testBit v = true → andn s (2 ^ v) = s - 2 ^ v := by decide +kernel
theorem shr_bit : ∀ s : Nat, s < 256 → ∀ v : Nat, v < 8 → IntKind.i64.wrap ((BitVec.ofInt 64 ((s : Int).fdiv (2 ^ min v 64)) &&& 1#64).toNat : Int) = if s.testBit v then 1 else 0 := by decide +kernel
theorem shl_pow : ∀ n : Nat, n ≤ 8 → IntKind.i64.wrap (1 * 2 ^ min n 64) = ((2 ^ n : Nat) : Int) := by decide +kernel
end Go.PS
namespace Go.Hp
def at0 (l : List Nat) (i : Nat) : Nat := (l[i]?).getD 0
def swapL (l : List Nat) (i j : Nat) : List Nat := (l.set i (at0 l j)).set j (at0 l i)
theorem swapL_len (l : List Nat) (i j : Nat) : (swapL l i j).length = l.length := by simp [swapL]
theorem swapL_perm {l : List Nat} {i j : Nat} (hi : i < l.length) (hj : j < l.length) : (swapL l i j).Perm l := by
 have h := Array.swap_perm (xs := l.toArray) (i := i) (j := j) (by simpa using hi) (by simpa using hj)
 have e : (l.toArray.swap i j (by simpa using hi) (by simpa using hj)).toList = swapL l i j := by
  simp [Array.swap, swapL, at0, hi, hj]
 have h2 := h.toList
 rw [e] at h2
 simpa using h2
def upN : Nat → List Nat → Nat → List Nat
 | 0, l, _ => l
 | f + 1, l, j => if (j - 1) / 2 = j ∨ ¬ at0 l j < at0 l ((j - 1) / 2) then l else upN f (swapL l ((j - 1) / 2) j) ((j - 1) / 2)
theorem upN_perm : ∀ (f : Nat) {l : List Nat} {j : Nat}, j < l.length → (upN f l j).Perm l
 | 0, l, _, _ => List.Perm.refl _
 | f + 1, l, j, h => by
  rw [upN]
  split
  ·exact List.Perm.refl _
  ·have h2 : (j - 1) / 2 < l.length := by omega
   exact (upN_perm f (by rw [swapL_len]; exact h2)).trans (swapL_perm h2 h)
def kid (l : List Nat) (i n : Nat) : Nat := if 2 * i + 2 < n ∧ at0 l (2 * i + 2) < at0 l (2 * i + 1) then 2 * i + 2 else 2 * i + 1
def downN : Nat → List Nat → Nat → Nat → List Nat
 | 0, l, _, _ => l
 | f + 1, l, i, n => if n ≤ 2 * i + 1 then l else if ¬ at0 l (kid l i n) < at0 l i then l else downN f (swapL l i (kid l i n)) (kid l i n) n
theorem kid_lt {l : List Nat} {i n : Nat} (h : ¬ n ≤ 2 * i + 1) : kid l i n < n := by
 rw [kid]; split <;> omega
theorem downN_perm : ∀ (f : Nat) {l : List Nat} {i n : Nat}, n ≤ l.length → (downN f l i n).Perm l
 | 0, l, _, _, _ => List.Perm.refl _
 | f + 1, l, i, n, h => by
  rw [downN]
  split
  ·exact List.Perm.refl _
  ·rename_i h1
   split
   ·exact List.Perm.refl _
   ·have h2 := kid_lt (l := l) h1
    exact (downN_perm f (by rw [swapL_len]; exact h)).trans (swapL_perm (by omega) (by omega))
def pushF (l : List Nat) (x : Nat) : List Nat := upN (l.length + 1) (l ++ [x]) l.length
theorem pushF_perm (l : List Nat) (x : Nat) : (pushF l x).Perm (l ++ [x]) := upN_perm _ (by simp)
def sunk (l : List Nat) : List Nat := downN l.length (swapL l 0 (l.length - 1)) 0 (l.length - 1)
theorem sunk_perm {l : List Nat} (h : 0 < l.length) : (sunk l).Perm l :=
 (downN_perm _ (by rw [swapL_len]; omega)).trans (swapL_perm h (by omega))
theorem sunk_len {l : List Nat} (h : 0 < l.length) : (sunk l).length = l.length := (sunk_perm h).length_eq
def popX (l : List Nat) : Nat := at0 (sunk l) (l.length - 1)
def popR (l : List Nat) : List Nat := (sunk l).take (l.length - 1)
theorem pop_perm {l : List Nat} (h : 0 < l.length) : (popR l ++ [popX l]).Perm l := by
 have h1 := sunk_len h
 have : popR l ++ [popX l] = sunk l := by
  have h2 : l.length - 1 < (sunk l).length := by omega
  have h3 : at0 (sunk l) (l.length - 1) = (sunk l)[l.length - 1] := by rw [at0, List.getElem?_eq_getElem h2]; rfl
  rw [popR, popX, h3, ← List.take_succ_eq_append_getElem h2, show l.length - 1 + 1 = (sunk l).length by omega, List.take_length]
 rw [this]; exact sunk_perm h
theorem popR_len {l : List Nat} (h : 0 < l.length) : (popR l).length = l.length - 1 := by
 rw [popR, List.length_take, sunk_len h]; omega
end Go.Hp
namespace Go.Cy
def inC (l : List NA) (o : List Nat) (w : Nat) : Nat := (l.filter fun a => decide (a.2 = w) && !decide (a.1 ∈ o)).length
def hds (l : List NA) (v : Nat) : List Nat := (l.filter fun a => decide (a.1 = v)).map (·.2)
def occ (l : List Nat) (w : Nat) : Nat := (l.filter fun u => decide (u = w)).length
theorem occ_cons (x : Nat) (l : List Nat) (w : Nat) : occ (x :: l) w = (if x = w then 1 else 0) + occ l w := by
 simp only [occ, List.filter_cons]
 by_cases c : x = w
 ·rw [if_pos (by simp [c]), if_pos c]; simp; omega
 ·rw [if_neg (by simp [c]), if_neg c]; simp
theorem inC_zero {l : List NA} {o : List Nat} {w : Nat} : inC l o w = 0 ↔ ∀ a, a ∈ l → a.2 = w → a.1 ∈ o := by
 simp only [inC, List.length_eq_zero_iff, List.filter_eq_nil_iff, Bool.and_eq_true, decide_eq_true_eq, Bool.not_eq_true', decide_eq_false_iff_not, not_and, Classical.not_not]
theorem inC_take (v w : Nat) (o : List Nat) (hv : v ∉ o) : ∀ l : List NA, inC l o w = inC l (o ++ [v]) w + occ (hds l v) w
 | [] => rfl
 | a :: l => by
  have ih := inC_take v w o hv l
  simp only [inC, hds] at ih ⊢
  simp only [List.filter_cons]
  by_cases c2 : a.2 = w
  ·by_cases c1 : a.1 = v
   ·have h1 : a.1 ∉ o := c1 ▸ hv
    rw [if_pos (by simp [c2, h1]), if_neg (by simp [c1]), if_pos (by simp [c1]), List.map_cons, occ_cons, if_pos c2]
    simp only [List.length_cons]; omega
   ·by_cases c3 : a.1 ∈ o
    ·rw [if_neg (by simp [c3]), if_neg (by simp [c3]), if_neg (by simp [c1])]; exact ih
    ·rw [if_pos (by simp [c2, c3]), if_pos (by simp [c2, c3, c1]), if_neg (by simp [c1])]
     simp only [List.length_cons]; omega
  ·rw [if_neg (by simp [c2]), if_neg (by simp [c2])]
   by_cases c1 : a.1 = v
   ·rw [if_pos (by simp [c1]), List.map_cons, occ_cons, if_neg c2]; omega
   ·rw [if_neg (by simp [c1])]; exact ih
structure Kahn (n : Nat) (l : List NA) (q o : List Nat) (op : Nat → Nat) : Prop where
 nd : (q ++ o).Nodup
 lt : ∀ v, v ∈ q ++ o → v < n
 num : ∀ w, w < n → op w = inC l o w
 zero : ∀ w, w < n → (w ∈ q ++ o ↔ op w = 0)
 peel : Peel l o.reverse
structure KahnI (n : Nat) (l : List NA) (q o : List Nat) (r : List Nat) (op : Nat → Nat) : Prop where
 nd : (q ++ o).Nodup
 lt : ∀ v, v ∈ q ++ o → v < n
 num : ∀ w, w < n → op w = inC l o w + occ r w
 zero : ∀ w, w < n → (w ∈ q ++ o ↔ op w = 0)
 peel : Peel l o.reverse
theorem Kahn.pop {n : Nat} {l : List NA} {q o : List Nat} {op : Nat → Nat} (h : Kahn n l q o op) {v : Nat} {q' : List Nat} (hq : (q' ++ [v]).Perm q) : KahnI n l q' (o ++ [v]) (hds l v) op := by
 have hmem : ∀ w, w ∈ q' ++ (o ++ [v]) ↔ w ∈ q ++ o := fun w => by
  simp only [List.mem_append, ← hq.mem_iff, List.mem_cons, List.not_mem_nil, or_false]
  constructor
  ·rintro (h | h | h)
   ·exact .inl (.inl h)
   ·exact .inr h
   ·exact .inl (.inr h)
  ·rintro ((h | h) | h)
   ·exact .inl h
   ·exact .inr (.inr h)
   ·exact .inr (.inl h)
 have hvq : v ∈ q := hq.mem_iff.1 (by simp)
 have hvo : v ∉ o := fun hc => by
  have := (List.nodup_append.1 h.nd).2.2 v hvq v hc; exact this rfl
 have hvn := h.lt v (List.mem_append_left _ hvq)
 have hp : (q' ++ (o ++ [v])).Perm (q ++ o) := by
  have h1 : (q' ++ (o ++ [v])).Perm (q' ++ ([v] ++ o)) := List.Perm.append_left _ List.perm_append_comm
  refine h1.trans ?_
  rw [← List.append_assoc]
  exact List.Perm.append_right _ hq
 refine ⟨hp.nodup_iff.2 h.nd, fun w hw => h.lt w ((hmem w).1 hw), fun w hw => by rw [h.num w hw]; exact inC_take v w o hvo l, fun w hw => by rw [hmem]; exact h.zero w hw, ?_⟩
 rw [List.reverse_append]
 have hz := (h.zero v hvn).1 (List.mem_append_left _ hvq)
 rw [h.num v hvn] at hz
 exact h.peel.cons (by simpa using hvo) (fun a ha h2 _ => List.mem_reverse.2 (inC_zero.1 hz a ha h2))
theorem KahnI.done {n : Nat} {l : List NA} {q o : List Nat} {op : Nat → Nat} (h : KahnI n l q o [] op) : Kahn n l q o op :=
 ⟨h.nd, h.lt, fun w hw => by rw [h.num w hw]; rfl, h.zero, h.peel⟩
theorem KahnI.pos {n : Nat} {l : List NA} {q o r : List Nat} {op : Nat → Nat} {w : Nat} (h : KahnI n l q o (w :: r) op) (hw : w < n) : 0 < op w := by
 have := h.num w hw
 rw [occ_cons, if_pos rfl] at this; omega
theorem KahnI.keep {n : Nat} {l : List NA} {q o r : List Nat} {op op' : Nat → Nat} {w : Nat} (h : KahnI n l q o (w :: r) op) (hw : w < n) (h' : ∀ u, u < n → op' u = if u = w then op w - 1 else op u) (hne : op w ≠ 1) : KahnI n l q o r op' := by
 have hpos := h.pos hw
 refine ⟨h.nd, h.lt, fun u hu => ?_, fun u hu => ?_, h.peel⟩
 ·have := h.num u hu
  rw [occ_cons] at this
  rw [h' u hu]
  by_cases c : u = w
  ·subst c; rw [if_pos rfl] at this ⊢; omega
  ·rw [if_neg c]; rw [if_neg (Ne.symm c)] at this; omega
 ·rw [h.zero u hu, h' u hu]
  by_cases c : u = w
  ·subst c; rw [if_pos rfl]; omega
  ·rw [if_neg c]
theorem KahnI.push {n : Nat} {l : List NA} {q o r : List Nat} {op op' : Nat → Nat} {w : Nat} (h : KahnI n l q o (w :: r) op) (hw : w < n) (h' : ∀ u, u < n → op' u = if u = w then op w - 1 else op u) (he : op w = 1) {q' : List Nat} (hq : q'.Perm (q ++ [w])) : KahnI n l q' o r op' := by
 have hno : w ∉ q ++ o := fun hc => by have := (h.zero w hw).1 hc; omega
 have hmem : ∀ u, u ∈ q' ++ o ↔ u ∈ q ++ o ∨ u = w := fun u => by
  simp only [List.mem_append, hq.mem_iff, List.mem_cons, List.not_mem_nil, or_false]
  constructor
  ·rintro ((h | h) | h)
   ·exact .inl (.inl h)
   ·exact .inr h
   ·exact .inl (.inr h)
  ·rintro ((h | h) | h)
   ·exact .inl (.inl h)
   ·exact .inr h
   ·exact .inl (.inr h)
 have hp : (q' ++ o).Perm (w :: (q ++ o)) := by
  refine (List.Perm.append_right o hq).trans ?_
  rw [List.append_assoc]
  exact (List.perm_middle (a := w) (l₁ := q) (l₂ := o))
 refine ⟨hp.nodup_iff.2 (List.nodup_cons.2 ⟨hno, h.nd⟩), fun u hu => ?_, fun u hu => ?_, fun u hu => ?_, h.peel⟩
 ·rcases (hmem u).1 hu with h1 | rfl
  ·exact h.lt u h1
  ·exact hw
 ·have := h.num u hu
  rw [occ_cons] at this
  rw [h' u hu]
  by_cases c : u = w
  ·subst c; rw [if_pos rfl] at this ⊢; omega
  ·rw [if_neg c]; rw [if_neg (Ne.symm c)] at this; omega
 ·rw [hmem, h' u hu]
  by_cases c : u = w
  ·subst c; rw [if_pos rfl]
   exact ⟨fun _ => by omega, fun _ => .inr rfl⟩
  ·rw [if_neg c, ← h.zero u hu]
   exact ⟨fun h => h.resolve_right c, .inl⟩
theorem Kahn.fin {n : Nat} {l : List NA} {o : List Nat} {op : Nat → Nat} (h : Kahn n l [] o op) (hi : InN n l) (hl : ∀ a, a ∈ l → a.1 ≠ a.2) : ¬ o.length < n ↔ Acy l := by
 constructor
 ·intro hlen
  exact h.peel.all hi fun v hv => List.mem_reverse.2 (nd_all (by simpa using h.nd) (fun u hu => h.lt u (by simpa using hu)) (by omega) v hv)
 ·intro ha hlen
  have hs : Stuck n l o.reverse := by
   intro v hv hno hsrc
   have hno' : v ∉ [] ++ o := by simpa using hno
   apply hno'
   rw [h.zero v hv, h.num v hv, inC_zero]
   intro a ha h2
   exact List.mem_reverse.1 (hsrc a ha h2 (by rw [← h2]; exact hl a ha))
  have hall := stuck_all hi ha hs
  have h2 : n ≤ o.length := by
   have hsub : ∀ {a b : List Nat}, a.Nodup → (∀ x, x ∈ a → x ∈ b) → a.length ≤ b.length := by
    intro a
    induction a with
    | nil => intro b _ _; simp
    | cons x a ih =>
     intro b hn hs
     have hn' := List.nodup_cons.1 hn
     have hx := hs x (by simp)
     have := ih (b := b.erase x) hn'.2 fun y hy => (List.mem_erase_of_ne (fun e => hn'.1 (by rw [← e]; exact hy))).2 (hs y (List.mem_cons_of_mem _ hy))
     rw [List.length_erase_of_mem hx] at this
     have := List.length_pos_of_mem hx
     simp; omega
   have := hsub (a := List.range n) (b := o) List.nodup_range fun v hv => List.mem_reverse.1 (hall v (List.mem_range.1 hv))
   simpa using this
  omega
end Go.Cy
namespace Go.PS
open Go Go.ChangeShapes Go.WideShapes Go.RowKit Go.Deep
theorem tabs_laid {P : Program} {w : World} {g : Nat} (hg : P.globalNamed "math/bits.deBruijn64tab" = some g) (h : Lib.TabIs P w "math/bits.deBruijn64tab" .u8 db64) : TabsAt (tabs P) w noX := by
 intro q hq
 rw [tabs, hg] at hq
 obtain rfl := List.mem_singleton.1 hq
 have hc := fun i hi => h.cell hg i hi
 refine ⟨?_, fun h => h, fun j v hj => ?_⟩
 ·exact cell_lt (hc 0 (by decide))
 ·have hl := (List.getElem?_eq_some_iff.1 hj).1
  rw [hc j hl, List.getD_eq_getElem?_getD, hj]; rfl
section
variable {H : Type} {enc : TypeId × Value → H}
theorem law_laid {a : Assume} {C : Checked} {os : Os} {f : FuncId} {fn : Func} {s : ChangeSpec} {tb : TypeId} {L : List (String × DataW Unit)}
  (own : ownKnob C.prog.godebug = none) (started : os.Started) (noInit : C.prog.inits.idxOf? f = none) (hfn : C.prog.funcs[f]? = some fn)
  (witness : ∃ (w : World) (tape : Tape) (i : Input), w.os = os ∧ (w.forCall tape i).Shaped C.prog ∧ i.vars = [] ∧ Input.okWide C.prog (w.forCall tape i) .any w.heap.size f i ∧
   ((s.pre enc C.prog fn [] false (w.forCall tape i).memory i.args ∧ laidMetH C.prog L (w.forCall tape i).memory) ∧ sizedMet enc C.prog fn (OpenSpec.ofChange s) false (w.forCall tape i).memory i.args) ∧ a.holds C.prog (lone (Frame.enter C.prog f i.args .normal) [] (w.forCall tape i)))
  (hl : laidOutB C.prog = true) (hpl : (fn.params.toList.all fun t => plainTy C.prog 8 t && C.prog.readableRec t && decide (t < C.prog.types.size)) = true)
  (hres : fn.resultTypes = #[tb]) (hbool : C.prog.underlying tb = some .bool) (hvars : s.vars = [])
  (hs : ∀ ds : List (DataW H), ds.length = fn.params.size → s.fn H ds = { results := [.lit (.bool true)], args := ds })
  (hcall : ∀ xs : List D, xs.length = fn.params.size → (∀ (j : Nat) t x, fn.params[j]? = some t → xs[j]? = some x → ArgOk C.prog t x) → CallsTo C.prog f xs (.bool true))
  (htabs : ∀ w, laidMetH C.prog L w → TabsAt (tabs C.prog) w noX) :
  ReturnsInHanded a C os f .any (fun w args => (s.pre enc C.prog fn [] false w args ∧ laidMetH C.prog L w) ∧ sizedMet enc C.prog fn (OpenSpec.ofChange s) false w args) (s.post enc C.prog fn false true false false) := by
 refine returnsInHanded_of_change_and (X := fun w _ => laidMetH C.prog L w) (fun _ _ _ hh h => h.of_heap hh) own started noInit hfn witness ?_
 intro W base' args ds gs before hval hW _ hwt hL _
 have hW' := hW
 obtain ⟨p, q, hA, hV, rfl, _, _⟩ := hW
 rw [hvars] at hV
 obtain ⟨rfl, rfl⟩ := trodVars_none hV
 simp only [List.all_eq_true, Bool.and_eq_true, decide_eq_true_eq] at hpl
 obtain ⟨xs, h1, h2, h3, h4, h5⟩ := args_fit fn.params.toList args.toList ds p (fun t ht => (hpl t ht).1.1) (fun j t v hj hv => hval j t v (by simpa using hj) (by simpa using hv)) hA (fun j t d hj hd => sized_each hwt (j := j) (by rw [List.getElem?_append_left (List.getElem?_eq_some_iff.1 hj).1]; exact hj) (by rw [List.append_nil]; exact hd))
 have hc := hcall xs (by simpa using h1) (fun j t x hj hx => h4 j t x (by simpa using hj) hx)
 refine Calls.mono (hc.2 W noX args (fun b hb => hb.elim) ⟨by simp at h1 h2; omega, fun j d v hj hv => h5 j d v hj (by simpa using hv)⟩ (htabs W hL)) ?_
 rintro e W' ⟨v, rfl, hv, hb⟩
 refine ⟨v, rfl, ?_⟩
 cases hv
 have hlt : ∀ x ∈ p, x.block < W.heap.size := fun x hx => hW'.lt x (by simpa using hx)
 have hfn2 := hs ds (by simpa using h3)
 refine ⟨ds, [], p ++ [], [], p, [], hW', ?_, ?_, ?_, World.keptBut_mono (fun x hx => ⟨hx, .inr (.inl (by simpa using hx))⟩) (hb.frame (· ∈ p ++ [])), (fun h => by cases h)⟩
 ·rw [List.append_nil, hfn2, hres]
  exact ⟨[], [], ⟨1, by simp [DataW.trod, Value.cells, hbool]⟩, rfl, rfl⟩
 ·rw [List.append_nil, hfn2]
  exact args_stay hl hb _ _ _ _ (fun t ht => ⟨(hpl t ht).1.2, (hpl t ht).2⟩) hlt hA
 ·rw [hvars, List.append_nil, hfn2]
  rfl
end
end Go.PS
