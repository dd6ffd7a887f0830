/- The reference's insertion sort sorts. -/
import Derived.Test.YtpmmikkojpcogaaG
namespace Go.Proofs.Ytpmmikkojpcogaa
open Go Go.PS Go.Proofs
set_option maxRecDepth 100000
set_option linter.unusedSimpArgs false
set_option linter.unusedVariables false
attribute [local irreducible] wpRun wpG CallsTo CallsM

theorem downTo_gt (o : List Int) (x : Int) : ∀ (k j : Nat), downTo o x k ≤ j → j < k → x < at0 o j
  | 0, j, _, h => by omega
  | k + 1, j, h1, h2 => by
    rw [downTo] at h1
    split at h1
    · rename_i hx
      rcases Nat.lt_or_ge j k with h | h
      · exact downTo_gt o x k j h1 h
      · rw [show j = k by omega]; exact hx
    · omega
theorem downTo_le_at (o : List Int) (x : Int) : ∀ (k p : Nat), downTo o x k = p + 1 → at0 o p ≤ x
  | 0, p, h => by rw [downTo] at h; omega
  | k + 1, p, h => by
    rw [downTo] at h
    split at h
    · exact downTo_le_at o x k p h
    · rename_i hx
      rw [show p = k by omega]; omega
theorem insA_perm (o : List Int) (x : Int) : (insA o x).Perm (x :: o) := by
  rw [insA, List.append_assoc, List.singleton_append]
  refine List.perm_middle.trans ?_
  rw [List.take_append_drop]
theorem insA_sorted {o : List Int} (h : o.Pairwise (· ≤ ·)) (x : Int) : (insA o x).Pairwise (· ≤ ·) := by
  have hlo : ∀ a, a ∈ o.take (downTo o x o.length) → a ≤ x := by
    intro a ha
    obtain ⟨j, hj⟩ := List.mem_iff_getElem?.1 ha
    rw [List.getElem?_take] at hj
    split at hj
    · rename_i hjp
      obtain ⟨p, hp⟩ : ∃ p, downTo o x o.length = p + 1 := ⟨downTo o x o.length - 1, by omega⟩
      have h1 := downTo_le_at o x o.length p hp
      have h2 := downTo_le o x o.length
      have h3 := at0_at (r := o) (i := p) (by omega)
      rcases Nat.lt_or_ge j p with hl | hl
      · have h4 := (List.getElem?_eq_some_iff.1 hj)
        obtain ⟨h5, h6⟩ := h4
        obtain ⟨h7, h8⟩ := List.getElem?_eq_some_iff.1 h3
        have := List.pairwise_iff_getElem.1 h j p h5 h7 hl
        rw [h6, h8] at this
        exact Int.le_trans this h1
      · have : j = p := by omega
        subst this
        rw [h3] at hj
        cases hj
        exact h1
    · cases hj
  have hhi : ∀ a, a ∈ o.drop (downTo o x o.length) → x ≤ a := by
    intro a ha
    obtain ⟨j, hj⟩ := List.mem_iff_getElem?.1 ha
    rw [List.getElem?_drop] at hj
    have hlt : downTo o x o.length + j < o.length := (List.getElem?_eq_some_iff.1 hj).1
    have h1 := downTo_gt o x o.length (downTo o x o.length + j) (by omega) hlt
    rw [at0_at hlt] at hj
    cases hj
    omega
  rw [insA]
  refine List.pairwise_append.2 ⟨List.pairwise_append.2 ⟨h.sublist (List.take_sublist _ _), List.pairwise_singleton _ _, fun a ha b hb => ?_⟩, h.sublist (List.drop_sublist _ _), fun a ha b hb => ?_⟩
  · rw [List.mem_singleton.1 hb]; exact hlo a ha
  · rcases List.mem_append.1 ha with ha | ha
    · exact Int.le_trans (hlo a ha) (hhi b hb)
    · rw [List.mem_singleton.1 ha]; exact hhi b hb
theorem insN_perm (l : List Int) : ∀ k, k ≤ l.length → (insN l k).Perm (l.take k)
  | 0, _ => by simp [insN]
  | k + 1, h => by
    rw [insN, take_snoc (at0_at (r := l) (i := k) (by omega))]
    exact (insA_perm _ _).trans (((insN_perm l k (by omega)).cons _).trans (List.perm_append_singleton _ _).symm)
theorem insN_sorted (l : List Int) : ∀ k, (insN l k).Pairwise (· ≤ ·)
  | 0 => List.Pairwise.nil
  | k + 1 => by rw [insN]; exact insA_sorted (insN_sorted l k) _
theorem sortL_sorted (l : List Int) : (sortL l).Pairwise (· ≤ ·) := by
  have h := List.pairwise_mergeSort (le := fun x y : Int => decide (x ≤ y)) (by intro a b c h1 h2; simp only [decide_eq_true_eq] at *; omega) (by intro a b; simp only [Bool.or_eq_true, decide_eq_true_eq]; omega) l
  exact h.imp fun h => by simpa using h
theorem sortL_perm (l : List Int) : (sortL l).Perm l := List.mergeSort_perm _ _
theorem insN_eq (l : List Int) : insN l l.length = sortL l := by
  refine List.Perm.eq_of_pairwise (le := (· ≤ ·)) (fun a b _ _ h1 h2 => Int.le_antisymm h1 h2) (insN_sorted l _) (sortL_sorted l) ?_
  have := insN_perm l l.length (Nat.le_refl _)
  rw [List.take_length] at this
  exact this.trans (sortL_perm l).symm
theorem rSort_spec (l : List Int) (hl : l.length ≤ 1000) : CallsTo Try.prog 59 [intsD l] (intsD (sortL l)) := insN_eq l ▸ rSorted_spec l hl
end Go.Proofs.Ytpmmikkojpcogaa
