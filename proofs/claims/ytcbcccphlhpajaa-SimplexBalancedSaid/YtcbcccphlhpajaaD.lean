/- Certificates. -/
import Derived.Test.YtcbcccphlhpajaaC
namespace Go.Proofs.Ytcbcccphlhpajaa
open Go Go.PS Go.Proofs
set_option maxRecDepth 100000
set_option linter.unusedSimpArgs false
set_option linter.unusedVariables false
attribute [local irreducible] wpRun wpG CallsTo

/-- What bound j adds at vertex v. -/
def addAt (l : List Bd) (f : List Int) (v : Int) (j : Nat) : Int := match l[j]?, f[j]? with
  | some b, some x => (if b.2.1 = v then x - b.2.2.2 else 0) - (if b.1 = v then x - b.2.2.2 else 0)
  | _, _ => 0
def balRow (l : List Bd) (f : List Int) (n k : Nat) : List Int := (List.range n).map fun v : Nat => sumI (addAt l f v) k
theorem balRow_len (l : List Bd) (f : List Int) (n k : Nat) : (balRow l f n k).length = n := by simp [balRow]
theorem balRow_zero (l : List Bd) (f : List Int) (n : Nat) : (balRow l f n 0).map D.int = List.replicate n (D.int 0) := by
  rw [List.eq_replicate_iff]
  refine ⟨by simp [balRow], fun b hb => ?_⟩
  simp only [balRow, List.map_map, List.mem_map] at hb
  obtain ⟨u, _, rfl⟩ := hb
  rfl
theorem balRow_get {l : List Bd} {f : List Int} {n k u : Nat} (hu : u < n) : (balRow l f n k)[u]? = some (sumI (addAt l f u) k) := by simp [balRow, hu]
theorem bal_step {l : List Bd} {f : List Int} {n k i j : Nat} {b : Bd} {x : Int} (hb : l[k]? = some b) (hx : f[k]? = some x) (hi : b.1 = i) (hj : b.2.1 = j) (hij : i ≠ j) (hin : i < n) (hjn : j < n) :
    balRow l f n (k + 1) = ((balRow l f n k).set j (sumI (addAt l f j) k + (x - b.2.2.2))).set i (sumI (addAt l f i) k - (x - b.2.2.2)) := by
  refine List.ext_getElem? fun u => ?_
  by_cases hu : u < n
  · rw [balRow_get hu, sumI_succ, List.getElem?_set, List.getElem?_set, List.length_set, balRow_len, balRow_get hu]
    have e : addAt l f u k = (if b.2.1 = (u : Int) then x - b.2.2.2 else 0) - (if b.1 = (u : Int) then x - b.2.2.2 else 0) := by simp [addAt, hb, hx]
    rw [e, hi, hj]
    by_cases c1 : i = u
    · subst c1
      rw [if_neg (by omega), if_pos rfl, if_pos rfl, if_pos hu]; congr 1; omega
    · by_cases c2 : j = u
      · subst c2
        rw [if_pos rfl, if_neg (by omega), if_neg c1, if_pos rfl, if_pos hu]; congr 1; omega
      · rw [if_neg (by omega), if_neg (by omega), if_neg c1, if_neg c2]; congr 1; omega
  · rw [List.getElem?_eq_none (by rw [balRow_len]; omega), List.getElem?_eq_none (by rw [List.length_set, List.length_set, balRow_len]; omega)]
def okAt (r : List Int) (l : List Bd) (f : List Int) (j : Nat) : Bool := match l[j]?, f[j]? with
  | some b, some x => decide (0 ≤ x ∧ x ≤ 1099511627776 ∧ (0 < x → gap r b = b.2.2.1))
  | _, _ => false
def checkF (g : Net) (r f : List Int) : Bool := feasF g r && decide (f.length = g.2.length) && allN (okAt r g.2 f) g.2.length && !(balRow g.2 f g.1.toNat g.2.length).any (fun x => decide (x ≠ 0))
theorem bal_bd {l : List Bd} {f r : List Int} {v : Int} {m : Nat} (hm : m ≤ l.length) (h4 : ∀ (k : Nat) b, l[k]? = some b → 0 ≤ b.2.2.2 ∧ b.2.2.2 ≤ 8000) (ho : allN (okAt r l f) m = true) :
    -(1099511635776 * (m : Int)) ≤ sumI (addAt l f v) m ∧ sumI (addAt l f v) m ≤ 1099511635776 * (m : Int) := by
  refine sumI_le (m := m) (fun k hk => ?_) m (Nat.le_refl _)
  have := allN_iff.1 ho k hk
  obtain ⟨b, hb⟩ := get_some (show k < l.length by omega)
  have h5 := h4 k b hb
  cases hx : f[k]? with
  | none => simp [okAt, hb, hx] at this
  | some x =>
    simp only [okAt, hb, hx, decide_eq_true_eq] at this
    simp only [addAt, hb, hx]
    split <;> split <;> omega
end Go.Proofs.Ytcbcccphlhpajaa
