/- Counts. -/
import Derived.Test.YtjojcohihekceaaJ
namespace Go.Proofs.Ytjojcohihekceaa
open Go Go.PS Go.Proofs
set_option maxRecDepth 100000
set_option linter.unusedSimpArgs false
set_option linter.unusedVariables false
attribute [local irreducible] wpRun wpG CallsTo CallsM

theorem sumN_mono {f g : Nat → Nat} : ∀ n, (∀ u, u < n → f u ≤ g u) → sumN f n ≤ sumN g n
  | 0, _ => Nat.le_refl _
  | n + 1, h => Nat.add_le_add (sumN_mono n fun u hu => h u (by omega)) (h n (by omega))
theorem sumN_congr {f g : Nat → Nat} : ∀ n, (∀ u, u < n → f u = g u) → sumN f n = sumN g n
  | 0, _ => rfl
  | n + 1, h => by rw [sumN, sumN, sumN_congr n fun u hu => h u (by omega), h n (by omega)]
theorem sumN_add (f g : Nat → Nat) : ∀ n, sumN (fun u => f u + g u) n = sumN f n + sumN g n
  | 0 => rfl
  | n + 1 => by rw [sumN, sumN, sumN, sumN_add f g n]; omega
theorem sumN_one (c : Int) (m : Nat) : ∀ n : Nat, sumN (fun u => if c = (u : Int) then m else 0) n = if 0 ≤ c ∧ c < n then m else 0
  | 0 => by rw [if_neg (by omega)]; rfl
  | n + 1 => by
    rw [sumN, sumN_one c m n]
    by_cases h1 : 0 ≤ c ∧ c < n
    · rw [if_pos h1, if_neg (by omega), if_pos (by omega)]; omega
    · by_cases h2 : c = n
      · rw [if_neg h1, if_pos h2, if_pos (by omega)]; omega
      · rw [if_neg h1, if_neg h2, if_neg (by omega)]
theorem sumN_le {f : Nat → Nat} {c : Nat} : ∀ n, (∀ u, f u ≤ c) → sumN f n ≤ c * n
  | 0, _ => Nat.le_refl _
  | n + 1, h => by have := sumN_le n h; have := h n; rw [sumN, Nat.mul_succ]; omega
theorem sum_deg {n : Nat} {l : List Arc} (hl : ∀ (k : Nat) a, l[k]? = some a → 0 ≤ a.1 ∧ a.1 < n ∧ 0 ≤ a.2 ∧ a.2 < n) : ∀ k, k ≤ l.length →
    sumN (fun v => sumN (degAt l v) k) n = 2 * k := by
  intro k
  induction k with
  | zero => intro _; exact sumN_zero fun _ _ => rfl
  | succ k ih =>
    intro hk
    obtain ⟨a, ha⟩ := get_some (show k < l.length by omega)
    have h := hl k a ha
    simp only [sumN_succ]
    rw [sumN_add, ih (by omega)]
    have : sumN (fun v => degAt l v k) n = 2 := by
      rw [sumN_congr n (g := fun v => (if a.1 = (v : Int) then 1 else 0) + (if a.2 = (v : Int) then 1 else 0)) fun v _ => degAt_some ha, sumN_add, sumN_one, sumN_one, if_pos (by omega), if_pos (by omega)]
    rw [this]; omega
theorem near_le {n : Nat} {l : List Arc} {v : Int} : ∀ k, k ≤ l.length → sumN (fun u => (nearB l v k u).toNat) n ≤ sumN (degAt l v) k := by
  intro k
  induction k with
  | zero => intro _; rw [sumN_zero]; exact Nat.zero_le _; intro u _; rfl
  | succ k ih =>
    intro hk
    have ih := ih (by omega)
    obtain ⟨a, ha⟩ := get_some (show k < l.length by omega)
    rw [sumN_succ, degAt_some ha]
    have h1 : sumN (fun u => (nearB l v (k + 1) u).toNat) n ≤ sumN (fun u => (nearB l v k u).toNat + ((if a.2 = (u : Int) then (if a.1 = v then 1 else 0) else 0) + (if a.1 = (u : Int) then (if a.2 = v then 1 else 0) else 0))) n := by
      refine sumN_mono n fun u hu => ?_
      rw [nearB_succ ha, joinF]
      by_cases c1 : a.1 = v <;> by_cases c2 : a.2 = v <;> by_cases c3 : a.1 = (u : Int) <;> by_cases c4 : a.2 = (u : Int) <;> cases nearB l v k u <;>
        simp_all <;> omega
    rw [sumN_add, sumN_add, sumN_one, sumN_one] at h1
    have h2 : (if 0 ≤ a.2 ∧ a.2 < (n : Int) then (if a.1 = v then 1 else 0) else 0) ≤ (if a.1 = v then 1 else 0) := by split <;> omega
    have h3 : (if 0 ≤ a.1 ∧ a.1 < (n : Int) then (if a.2 = v then 1 else 0) else 0) ≤ (if a.2 = v then 1 else 0) := by split <;> omega
    omega
theorem near_cat_len (l : List Arc) (v : Int) : ∀ n, (catN (nearAt l v) n).length = sumN (fun u => (metF l v u).toNat) n
  | 0 => rfl
  | n + 1 => by
    rw [catN, List.length_append, near_cat_len l v n, sumN]
    congr 1
    rw [nearAt]; cases metF l v n <;> rfl
theorem near_deg (g : Gr) (v : Int) : (nearF g v).length ≤ degF g v := by
  rcases hg : gOk g with _ | _
  · simp [nearF, degF, hg]
  · rw [nearF, if_pos hg, degF, if_pos hg, near_cat_len]
    refine Nat.le_trans (sumN_mono _ fun u _ => ?_) (near_le _ (Nat.le_refl _))
    rw [metF]
    cases nearB g.2 v g.2.length u <;> simp
    exact Bool.toNat_le _
theorem near_mem {l : List Arc} {v x : Int} : ∀ {n : Nat}, x ∈ catN (nearAt l v) n ↔ ∃ u : Nat, u < n ∧ x = u ∧ metF l v u = true
  | 0 => by simp [catN]
  | n + 1 => by
    rw [catN, List.mem_append, near_mem (n := n)]
    constructor
    · rintro (⟨u, h1, h2, h3⟩ | h)
      · exact ⟨u, by omega, h2, h3⟩
      · rw [nearAt] at h
        split at h
        · rename_i hm
          simp at h; exact ⟨n, by omega, h, hm⟩
        · simp at h
    · rintro ⟨u, h1, h2, h3⟩
      rcases Nat.lt_succ_iff_lt_or_eq.1 h1 with h | rfl
      · exact .inl ⟨u, h, h2, h3⟩
      · refine .inr ?_; rw [nearAt, if_pos h3]; simp [h2]
theorem met_comm (l : List Arc) (u v : Nat) : metF l v u = metF l u v := by
  simp only [metF, nearB]
  congr 1
  · rw [Bool.eq_iff_iff]; simp; omega
  · congr 1; funext a
    rw [Bool.eq_iff_iff]; simp only [joinF, Bool.or_eq_true, Bool.and_eq_true, decide_eq_true_eq]; omega
theorem near_back {g : Gr} {v : Nat} {x : Int} (hg : gOk g = true) (hv : (v : Int) < g.1) (hx : x ∈ nearF g v) : hasF (nearF g x) v = true := by
  rw [nearF, if_pos hg] at hx
  obtain ⟨u, h1, rfl, h3⟩ := near_mem.1 hx
  rw [hasF, List.any_eq_true]
  refine ⟨v, ?_, by simp⟩
  rw [nearF, if_pos hg]
  exact near_mem.2 ⟨v, by omega, rfl, by rw [met_comm]; exact h3⟩
def allI (n : Nat) : List Int := (List.range n).map fun u : Nat => (u : Int)
theorem allI_len (n : Nat) : (allI n).length = n := by simp [allI]
theorem allI_succ (n : Nat) : allI (n + 1) = allI n ++ [(n : Int)] := by simp [allI, List.range_succ]
theorem allI_get {n k : Nat} (h : k < n) : (allI n)[k]? = some (k : Int) := by simp [allI, h]
theorem all_list (n : Nat) : listF (allI n) n = 0 := by
  have : ∀ k, k ≤ n → firstE (badAt (allI n) n) k = 0 := by
    intro k
    induction k with
    | zero => intro _; rfl
    | succ k ih =>
      intro hk
      refine firstE_succ (ih (by omega)) ?_
      simp only [badAt, allI_get (show k < n by omega)]
      rw [if_neg (by omega), if_neg]
      rw [Bool.not_eq_true, hasF]
      refine any_no fun j y hj hy => ?_
      rw [List.length_take, allI_len] at hj
      rw [List.getElem?_take_of_lt (by omega), allI_get (by omega)] at hy
      cases hy
      simp; omega
  rw [listF, allI_len]; exact this n (Nat.le_refl _)
theorem all_place {n : Nat} {x : Int} (h1 : 0 ≤ x) (h2 : x < n) : placeF (allI n) x = x := by
  obtain ⟨k, rfl⟩ : ∃ k : Nat, x = k := ⟨x.toNat, by omega⟩
  rw [placeF, findIdx_at (allI_get (show k < n by omega)) (by simp)]
  · rfl
  · intro j y hj hy
    rw [allI_get (by omega)] at hy
    cases hy
    simp; omega
theorem all_ind {g : Gr} {n : Nat} (hg : gOk g = true) (hn : g.1 = n) : (indF g (allI n)).1 = g ∧ (indF g (allI n)).2.2 = 0 := by
  obtain ⟨m, l⟩ := g
  dsimp only at hn
  subst hn
  obtain ⟨h1, h2, h3, h4⟩ := gOk_in hg
  have : ∀ k, k ≤ l.length → indL l (allI n) k = l.take k := by
    intro k
    induction k with
    | zero => intro _; rfl
    | succ k ih =>
      intro hk
      obtain ⟨a, ha⟩ := get_some (show k < l.length by omega)
      have := h4 k a ha
      dsimp only at this
      have e1 := all_place (n := n) this.1 this.2.1
      have e2 := all_place (n := n) this.2.2.1 this.2.2.2
      rw [(ind_in ha (by rw [indA, e1, e2]; simp; omega)).1, ih (by omega), take_snoc ha, e1, e2]
  have := this l.length (Nat.le_refl _)
  simp [indF, hg, all_list, this, allI_len]
theorem deg_le (g : Gr) (v : Int) : degF g v ≤ 2 * g.2.length := by
  rw [degF]; split
  · exact degAt_le _ _ _
  · omega
end Go.Proofs.Ytjojcohihekceaa
