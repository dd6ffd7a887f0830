/- Crossings: the plain laws. -/
import Derived.Test.YtldbcbclhpcofaaGreatCb
import Derived.Test.YtldbcbclhpcofaaGreatPSBridge
set_option linter.unusedSimpArgs false
set_option linter.unusedVariables false
namespace Go.Proofs.YtldbcbclhpcofaaGreat
open Go Go.PS Go.Proofs

/-! ### Sums over pairs -/
abbrev Pr := Int × Int
def w1 (f : Pr → Int) : List Pr → Int
 | [] => 0
 | y :: F => f y + w1 f F
def W (f : Pr → Pr → Int) (F : List Pr) : List Pr → Int
 | [] => 0
 | x :: E => w1 (f x) F + W f F E
theorem w1_congr {f g : Pr → Int} : ∀ {F : List Pr}, (∀ y, y ∈ F → f y = g y) → w1 f F = w1 g F
 | [], _ => rfl
 | y :: F, h => by rw [w1, w1, h y (by simp), w1_congr fun z hz => h z (List.mem_cons_of_mem _ hz)]
theorem W_congr {f g : Pr → Pr → Int} {F : List Pr} : ∀ {E : List Pr}, (∀ x, x ∈ E → ∀ y, y ∈ F → f x y = g x y) → W f F E = W g F E
 | [], _ => rfl
 | x :: E, h => by rw [W, W, w1_congr (h x (by simp)), W_congr fun z hz => h z (List.mem_cons_of_mem _ hz)]
theorem w1_add (f g : Pr → Int) : ∀ F : List Pr, w1 (fun y => f y + g y) F = w1 f F + w1 g F
 | [] => rfl
 | y :: F => by rw [w1, w1, w1, w1_add f g F]; omega
theorem W_add (f g : Pr → Pr → Int) (F : List Pr) : ∀ E : List Pr, W (fun x y => f x y + g x y) F E = W f F E + W g F E
 | [] => rfl
 | x :: E => by rw [W, W, W, w1_add, W_add f g F E]; omega
theorem w1_zero : ∀ F : List Pr, w1 (fun _ => 0) F = 0
 | [] => rfl
 | y :: F => by rw [w1, w1_zero F]; rfl
theorem W_zero (F : List Pr) : ∀ E : List Pr, W (fun _ _ => 0) F E = 0
 | [] => rfl
 | x :: E => by rw [W, w1_zero, W_zero F E]; rfl
theorem W_sum (f : Nat → Pr → Pr → Int) (F E : List Pr) : ∀ n, sumZ (fun k => W (f k) F E) n = W (fun x y => sumZ (fun k => f k x y) n) F E
 | 0 => by simp only [sumZ]; rw [W_zero]
 | n + 1 => by simp only [sumZ]; rw [W_sum f F E n, W_add]
theorem W_nil (f : Pr → Pr → Int) : ∀ E : List Pr, W f [] E = 0
 | [] => rfl
 | x :: E => by rw [W, W_nil f E]; rfl
theorem W_cons_right (f : Pr → Pr → Int) (y : Pr) (F : List Pr) : ∀ E : List Pr, W f (y :: F) E = w1 (fun x => f x y) E + W f F E
 | [] => rfl
 | x :: E => by rw [W, W, w1, w1, W_cons_right f y F E]; omega
theorem W_swap (f : Pr → Pr → Int) : ∀ F E : List Pr, W f F E = W (fun x y => f y x) E F
 | [], E => by rw [W_nil, W]
 | y :: F, E => by rw [W_cons_right, W, W_swap f F E]
theorem w1_map (g : Pr → Pr) (f : Pr → Int) : ∀ F : List Pr, w1 f (F.map g) = w1 (fun y => f (g y)) F
 | [] => rfl
 | y :: F => by rw [List.map_cons, w1, w1, w1_map g f F]
theorem W_map (g : Pr → Pr) (f : Pr → Pr → Int) (F : List Pr) : ∀ E : List Pr, W f (F.map g) (E.map g) = W (fun x y => f (g x) (g y)) F E
 | [] => rfl
 | x :: E => by rw [List.map_cons, W, W, w1_map, W_map g f F E]
def ind (p : Prop) [Decidable p] : Int := if p then 1 else 0
theorem under_w1 (x : Int) (p : Pr → Bool) (g : Pr → Int) : ∀ F : List Pr, ((under ((F.filter p).map g) x : Nat) : Int) = w1 (fun y => ind (p y = true ∧ g y < x)) F
 | [] => rfl
 | y :: F => by
  have ih := under_w1 x p g F
  rw [w1, ← ih]
  by_cases hp : p y = true
  ·rw [List.filter_cons_of_pos hp, List.map_cons, under, under, List.filter_cons]
   by_cases hg : g y < x
   ·simp [ind, hp, hg]; omega
   ·simp [ind, hp, hg]
  ·rw [List.filter_cons_of_neg hp]
   simp [ind, hp]
theorem behind_W (p q : Pr → Bool) (g : Pr → Int) (F : List Pr) : ∀ E : List Pr, ((behindF ((E.filter p).map g) ((F.filter q).map g) : Nat) : Int) = W (fun x y => ind (p x = true ∧ q y = true ∧ g y < g x)) F E
 | [] => rfl
 | x :: E => by
  have ih := behind_W p q g F E
  rw [W, ← ih]
  by_cases hp : p x = true
  ·rw [List.filter_cons_of_pos hp, List.map_cons, behindF, Int.natCast_add, under_w1]
   congr 1
   refine w1_congr fun y _ => ?_
   simp [ind, hp]
  ·rw [List.filter_cons_of_neg hp]
   have : w1 (fun y => ind (p x = true ∧ q y = true ∧ g y < g x)) F = 0 := by
    rw [← w1_zero F]
    refine w1_congr fun y _ => ?_
    simp [ind, hp]
   rw [this]; omega
/-! ### Single sums of indicators -/
theorem sum_one (u : Int) (g : Nat → Int) : ∀ n : Nat, (∀ k : Nat, (k : Int) ≠ u → g k = 0) → sumZ g n = if 0 ≤ u ∧ u < n then g u.toNat else 0
 | 0, _ => by rw [sumZ, if_neg (by omega)]
 | n + 1, h => by
  rw [sumZ, sum_one u g n h]
  by_cases c : (n : Int) = u
  ·subst c
   rw [if_neg (by omega), if_pos (by omega), Int.toNat_natCast]; omega
  ·rw [h n c]
   by_cases c2 : 0 ≤ u ∧ u < n
   ·rw [if_pos c2, if_pos (by omega)]; omega
   ·rw [if_neg c2, if_neg (by omega)]; rfl
/-! ### The ends, as pairs -/
theorem placeF_at {y : List Int} (hn : y.Nodup) {v : Int} {p : Nat} (h : y[p]? = some v) : placeF y v = p := by
 have hi := idxOf_at hn h
 rw [placeF]
 cases hf : y.findIdx? (fun x => decide (x = v)) with
 | none =>
  have := List.findIdx?_eq_none_iff.1 hf v (List.mem_of_getElem? h)
  simp at this
 | some k =>
  obtain ⟨hk, hk2, _⟩ := List.findIdx?_eq_some_iff_getElem.1 hf
  have hv : y[k] = v := by simpa using hk2
  have := idxOf_at hn (k := k) (v := v) (by rw [List.getElem?_eq_getElem hk, hv])
  rw [idxI]; omega
theorem placeF_no {y : List Int} {v : Int} (h : v ∉ y) : placeF y v = -1 := by
 rw [placeF, findIdx_no]
 ·rfl
 ·intro j z hz
  simp only [decide_eq_false_iff_not]
  rintro rfl
  exact h (List.mem_of_getElem? hz)
theorem Lies.placeF {ls : List (List Int)} (hn : ls.flatten.Nodup) {v : Int} {r p i : Nat} {y : List Int} (h : Lies ls v r p) (hy : ls[i]? = some y) : Go.Proofs.YtldbcbclhpcofaaGreat.placeF y v = if r = i then (p : Int) else -1 := by
 by_cases c : r = i
 ·subst c
  rw [if_pos rfl]
  obtain ⟨z, h1, h2⟩ := h
  rw [hy] at h1; cases h1
  exact placeF_at ((List.pairwise_flatten.1 hn).1 y (List.mem_of_getElem? hy)) h2
 ·rw [if_neg c]
  refine placeF_no fun hv => ?_
  obtain ⟨q, hq⟩ := List.getElem?_of_mem hv
  exact c (h.layer hn ⟨y, hy, hq⟩)
theorem pairOf_joins {ls : List (List Int)} (hn : ls.flatten.Nodup) {x : Arc} {r p q i : Nat} {y z : List Int} (h : Joins ls x r p q) (hy : ls[i]? = some y) (hz : ls[i + 1]? = some z) : pairOf y z x = if r = i then [((p : Int), (q : Int))] else [] := by
 rw [pairOf, h.up.placeF hn hy, h.dn.placeF hn hz]
 by_cases c : r = i
 ·simp [c]
 ·simp [c]
theorem Joins.lt {ls : List (List Int)} {x : Arc} {r p q : Nat} (h : Joins ls x r p q) {y z : List Int} (hy : ls[r]? = some y) (hz : ls[r + 1]? = some z) : p < y.length ∧ q < z.length := by
 obtain ⟨⟨u, h1, h2⟩, ⟨v, h3, h4⟩⟩ := h
 rw [hy] at h1; cases h1
 rw [hz] at h3; cases h3
 exact ⟨(List.getElem?_eq_some_iff.1 h2).1, (List.getElem?_eq_some_iff.1 h4).1⟩
section valid
variable {ls : List (List Int)} {ar : List Arc} (hn : ls.flatten.Nodup) (hj : ∀ x, x ∈ ar → ∃ r p q, Joins ls x r p q) {i : Nat} {y z : List Int} (hy : ls[i]? = some y) (hz : ls[i + 1]? = some z)
include hn hj hy hz
theorem pairs_in : ∀ e, e ∈ pairsF y z ar → 0 ≤ e.1 ∧ e.1 < y.length ∧ 0 ≤ e.2 ∧ e.2 < z.length := by
 intro e he
 obtain ⟨x, hx, he⟩ := List.mem_flatMap.1 he
 obtain ⟨r, p, q, h⟩ := hj x hx
 rw [pairOf_joins hn h hy hz] at he
 split at he
 ·rename_i c
  subst c
  have := h.lt hy hz
  rw [List.mem_singleton] at he
  subst he
  dsimp only; omega
 ·cases he
theorem ends_down (p' : Nat) : endsN ls ar i ((i : Int) + 1) ar.length p' = ((pairsF y z ar).filter fun e : Pr => decide (e.1 = (p' : Int))).map (·.2) := by
 rw [endsN, List.take_length]
 induction ar with
 | nil => rfl
 | cons x ar ih =>
  obtain ⟨r, p, q, h⟩ := hj x (by simp)
  rw [List.flatMap_cons, ih (fun w hw => hj w (List.mem_cons_of_mem _ hw))]
  have e : pairsF y z (x :: ar) = pairOf y z x ++ pairsF y z ar := by simp [pairsF]
  rw [e, List.filter_append, List.map_append]
  congr 1
  rw [pairOf_joins hn h hy hz, endsAt, h.up.ly hn, h.dn.ly hn, h.up.pl hn, h.dn.pl hn]
  by_cases c : r = i
  ·subst c
   rw [if_pos ⟨rfl, by omega⟩, if_pos rfl]
   by_cases c2 : (p : Int) = p'
   ·simp [c2]
   ·simp [c2]
  ·rw [if_neg (by omega), if_neg (by omega), if_neg c]; rfl
theorem ends_up (q' : Nat) : endsN ls ar ((i + 1 : Nat) : Int) i ar.length q' = ((pairsF y z ar).filter fun e : Pr => decide (e.2 = (q' : Int))).map (·.1) := by
 rw [endsN, List.take_length]
 induction ar with
 | nil => rfl
 | cons x ar ih =>
  obtain ⟨r, p, q, h⟩ := hj x (by simp)
  rw [List.flatMap_cons, ih (fun w hw => hj w (List.mem_cons_of_mem _ hw))]
  have e : pairsF y z (x :: ar) = pairOf y z x ++ pairsF y z ar := by simp [pairsF]
  rw [e, List.filter_append, List.map_append]
  congr 1
  rw [pairOf_joins hn h hy hz, endsAt, h.up.ly hn, h.dn.ly hn, h.up.pl hn, h.dn.pl hn]
  by_cases c : r = i
  ·subst c
   rw [if_neg (by omega), if_pos ⟨by omega, rfl⟩, if_pos rfl]
   by_cases c2 : (q : Int) = q'
   ·simp [c2]
   ·simp [c2]
  ·rw [if_neg (by omega), if_neg (by omega), if_neg c]; rfl
end valid
end Go.Proofs.YtldbcbclhpcofaaGreat
namespace Go.Proofs.YtldbcbclhpcofaaGreat
open Go Go.PS Go.Proofs

theorem ind_zero {p : Prop} [Decidable p] (h : ¬ p) : ind p = 0 := by simp [ind, h]
theorem ind_one {p : Prop} [Decidable p] (h : p) : ind p = 1 := by simp [ind, h]
theorem ind_congr {p q : Prop} [Decidable p] [Decidable q] (h : p ↔ q) : ind p = ind q := by
 by_cases hp : p
 ·rw [ind_one hp, ind_one (h.1 hp)]
 ·rw [ind_zero hp, ind_zero fun hq => hp (h.2 hq)]
theorem tri_sum (own other : Pr → Int) (P : List Pr) (n : Nat) (hin : ∀ e, e ∈ P → 0 ≤ own e ∧ own e < n) :
  sumZ (fun A => sumZ (fun B => W (fun x y => ind (own x = (B : Int) ∧ own y = (A : Int) ∧ other y < other x)) P P) A) n = W (fun x y => ind (own x < own y ∧ other y < other x)) P P := by
 simp only [W_sum]
 refine W_congr fun x hx y hy => ?_
 have h1 := hin x hx
 have h2 := hin y hy
 have hA : ∀ A : Nat, sumZ (fun B : Nat => ind (own x = (B : Int) ∧ own y = (A : Int) ∧ other y < other x)) A = ind (own x < A ∧ own y = (A : Int) ∧ other y < other x) := fun A => by
  rw [sum_one (own x) _ A fun k hk => ind_zero fun h => hk h.1.symm]
  by_cases c : own x < A
  ·rw [if_pos ⟨h1.1, c⟩]
   refine ind_congr ?_
   constructor
   ·rintro ⟨_, h⟩; exact ⟨c, h⟩
   ·rintro ⟨_, h⟩; exact ⟨by omega, h⟩
  ·rw [if_neg (fun h => c h.2), ind_zero fun h => c h.1]
 simp only [hA]
 rw [sum_one (own y) _ n fun k hk => ind_zero fun h => hk h.2.1.symm, if_pos h2]
 refine ind_congr ?_
 constructor
 ·rintro ⟨h, _, h'⟩; exact ⟨by omega, h'⟩
 ·rintro ⟨h, h'⟩; exact ⟨by omega, by omega, h'⟩
theorem lstN_map (f : Nat → List Int) {n k : Nat} (h : k < n) : lstN ((List.range n).map f) k = f k := by simp [lstN, h]
theorem cellAt_mat {E : List (List Int)} {u v : Nat} (hu : u < E.length) (hv : v < E.length) : cellAt (matF E) u v = cellF E u v := by
 rw [cellAt, matF, lstN_map _ hu, at0, Int.toNat_natCast]
 simp [hv]
structure Near (a : Lv) (i : Nat) (y z : List Int) : Prop where
 ok : validF a = true
 hy : a.2.1[i]? = some y
 hz : a.2.1[i + 1]? = some z
namespace Near
variable {a : Lv} {i : Nat} {y z : List Int}
theorem joins (h : Near a i y z) : ∀ x, x ∈ a.2.2.1 → ∃ r p q, Joins a.2.1 x r p q := fun x hx => by
 obtain ⟨k, hk⟩ := List.getElem?_of_mem hx
 exact valid_joins h.ok hk
theorem lt (h : Near a i y z) : i + 1 < a.2.1.length := (List.getElem?_eq_some_iff.1 h.hz).1
theorem ins (h : Near a i y z) : ∀ e, e ∈ pairsF y z a.2.2.1 → 0 ≤ e.1 ∧ e.1 < y.length ∧ 0 ≤ e.2 ∧ e.2 < z.length := pairs_in (valid_nodup h.ok) h.joins h.hy h.hz
theorem matD (h : Near a i y z) : MatrixF a i ((i : Int) + 1) = matF (endsF a.2.1 a.2.2.1 i ((i : Int) + 1) y.length) := by
 have hl := h.lt
 have hok : matOk a i ((i : Int) + 1) = true := by
  simp [matOk, h.ok]; omega
 rw [MatrixF, if_pos hok, lenAt, Int.toNat_natCast, h.hy]; rfl
theorem matU (h : Near a i y z) : MatrixF a ((i : Int) + 1) i = matF (endsF a.2.1 a.2.2.1 ((i + 1 : Nat) : Int) i z.length) := by
 have hl := h.lt
 have hok : matOk a ((i : Int) + 1) i = true := by
  simp [matOk, h.ok]; omega
 rw [MatrixF, if_pos hok, lenAt, show ((i : Int) + 1).toNat = i + 1 by omega, h.hz]; rfl
theorem lenD (h : Near a i y z) : (MatrixF a i ((i : Int) + 1)).length = y.length := by rw [h.matD]; simp [matF, endsF]
theorem cellD (h : Near a i y z) {u v : Nat} (hu : u < y.length) (hv : v < y.length) : cellAt (MatrixF a i ((i : Int) + 1)) u v = if u = v then 0 else W (fun x w => ind (x.1 = (u : Int) ∧ w.1 = (v : Int) ∧ w.2 < x.2)) (pairsF y z a.2.2.1) (pairsF y z a.2.2.1) := by
 rw [h.matD, cellAt_mat (by simpa [endsF] using hu) (by simpa [endsF] using hv), cellF]
 split
 ·rfl
 ·rw [endsF, lstN_map _ hu, lstN_map _ hv, ends_down (valid_nodup h.ok) h.joins h.hy h.hz, ends_down (valid_nodup h.ok) h.joins h.hy h.hz, behind_W]
  simp only [decide_eq_true_eq]
theorem cellU (h : Near a i y z) {u v : Nat} (hu : u < z.length) (hv : v < z.length) : cellAt (MatrixF a ((i : Int) + 1) i) u v = if u = v then 0 else W (fun x w => ind (x.2 = (u : Int) ∧ w.2 = (v : Int) ∧ w.1 < x.1)) (pairsF y z a.2.2.1) (pairsF y z a.2.2.1) := by
 rw [h.matU, cellAt_mat (by simpa [endsF] using hu) (by simpa [endsF] using hv), cellF]
 split
 ·rfl
 ·rw [endsF, lstN_map _ hu, lstN_map _ hv, ends_up (valid_nodup h.ok) h.joins h.hy h.hz, ends_up (valid_nodup h.ok) h.joins h.hy h.hz, behind_W]
  simp only [decide_eq_true_eq]
abbrev cr (_ : Near a i y z) : Int := W (fun x w => ind (x.1 < w.1 ∧ w.2 < x.2)) (pairsF y z a.2.2.1) (pairsF y z a.2.2.1)
theorem between (h : Near a i y z) : BetweenF a i = h.cr := by
 have hl := h.lt
 rw [BetweenF, if_neg (by simp only [noPair, decide_eq_true_eq]; omega), triF, h.lenD]
 rw [sumZ_congr (g := fun A => sumZ (fun B => W (fun x w => ind (x.1 = (B : Int) ∧ w.1 = (A : Int) ∧ w.2 < x.2)) (pairsF y z a.2.2.1) (pairsF y z a.2.2.1)) A) _ fun A hA => sumZ_congr _ fun B hB => by rw [h.cellD (by omega) hA, if_neg (by omega)]]
 exact tri_sum (fun e => e.1) (fun e => e.2) _ _ fun e he => ⟨(h.ins e he).1, (h.ins e he).2.1⟩
end Near
namespace Near
variable {a : Lv} {i : Nat} {y z : List Int}
end Near
theorem near_of {a : Lv} (h : validF a = true) {i : Nat} (hi : i + 1 < a.2.1.length) : ∃ y z, Near a i y z := by
 obtain ⟨y, hy⟩ := get_some (l := a.2.1) (k := i) (by omega)
 obtain ⟨z, hz⟩ := get_some hi
 exact ⟨y, z, h, hy, hz⟩
end Go.Proofs.YtldbcbclhpcofaaGreat
namespace Go.Proofs.YtldbcbclhpcofaaGreat
open Go Go.PS Go.Proofs
set_option maxRecDepth 100000
attribute [local irreducible] wpRun wpG CallsTo CallsM

end Go.Proofs.YtldbcbclhpcofaaGreat
namespace Go.Proofs.YtldbcbclhpcofaaGreat
open Go Go.PS Go.Proofs
set_option maxRecDepth 100000
attribute [local irreducible] wpRun wpG CallsTo CallsM

end Go.Proofs.YtldbcbclhpcofaaGreat
namespace Go.Proofs.YtldbcbclhpcofaaGreat
open Go Go.PS Go.Proofs

theorem sortL_congr {l m : List Int} (h : l.Perm m) : sortL l = sortL m :=
 List.Perm.eq_of_pairwise (le := (· ≤ ·)) (fun a b _ _ h1 h2 => Int.le_antisymm h1 h2) (sortL_sorted l) (sortL_sorted m) ((sortL_perm l).trans (h.trans (sortL_perm m).symm))
namespace Near
variable {a : Lv} {i : Nat} {y z : List Int}
end Near
namespace Near
variable {a : Lv} {i k : Nat} {y z : List Int}
end Near
end Go.Proofs.YtldbcbclhpcofaaGreat
namespace Go.Proofs.YtldbcbclhpcofaaGreat
open Go Go.PS Go.Proofs
set_option maxRecDepth 100000
attribute [local irreducible] wpRun wpG CallsTo CallsM

theorem w1_append (f : Pr → Int) (G : List Pr) : ∀ F : List Pr, w1 f (F ++ G) = w1 f F + w1 f G
 | [] => by rw [List.nil_append, w1]; omega
 | y :: F => by rw [List.cons_append, w1, w1, w1_append f G F]; omega
theorem W_append (f : Pr → Pr → Int) (F G : List Pr) : ∀ E : List Pr, W f F (E ++ G) = W f F E + W f F G
 | [] => by rw [List.nil_append, W]; omega
 | y :: E => by rw [List.cons_append, W, W, W_append f F G E]; omega
theorem w1_bound {f : Pr → Int} (h : ∀ y, 0 ≤ f y ∧ f y ≤ 1) : ∀ F : List Pr, 0 ≤ w1 f F ∧ w1 f F ≤ F.length
 | [] => by simp [w1]
 | y :: F => by
  have := w1_bound h F
  have := h y
  simp only [w1, List.length_cons]; omega
theorem W_bound {f : Pr → Pr → Int} (h : ∀ x y, 0 ≤ f x y ∧ f x y ≤ 1) (F : List Pr) : ∀ E : List Pr, 0 ≤ W f F E ∧ W f F E ≤ ((E.length * F.length : Nat) : Int)
 | [] => by simp [W]
 | x :: E => by
  have h1 := W_bound h F E
  have h2 := w1_bound (h x) F
  simp only [W, List.length_cons, Nat.add_mul, Nat.one_mul]; omega
def tly (own oth : Pr → Int) (A B : Nat) (x y : Pr) : Int := ind (own x = (A : Int) ∧ own y = (B : Int) ∧ own x ≠ own y ∧ oth y < oth x)
def accO (own oth : Pr → Int) (E : List Pr) (u A B : Nat) : Int := W (tly own oth A B) E (E.take u)
def accI (own oth : Pr → Int) (E : List Pr) (u : Nat) (p : Pr) (v A B : Nat) : Int := accO own oth E u A B + w1 (tly own oth A B p) (E.take v)
def rowI (c : Nat → Nat → Int) (n A : Nat) : List Int := (List.range n).map fun B => c A B
def tabI (c : Nat → Nat → Int) (n : Nat) : List (List Int) := (List.range n).map fun A => rowI c n A
theorem ind_01 (p : Prop) [Decidable p] : 0 ≤ ind p ∧ ind p ≤ 1 := by unfold ind; split <;> omega
theorem tly_01 (own oth : Pr → Int) (A B : Nat) (x y : Pr) : 0 ≤ tly own oth A B x y ∧ tly own oth A B x y ≤ 1 := ind_01 _
section acc
variable {own oth : Pr → Int} {E : List Pr} {u v : Nat} {p q : Pr}
theorem accO_zero : accO own oth E 0 = fun _ _ => 0 := by funext A B; rw [accO, List.take_zero, W]
theorem accI_zero : accI own oth E u p 0 = accO own oth E u := by funext A B; rw [accI, List.take_zero, w1]; omega
theorem accO_succ (hp : E[u]? = some p) : accO own oth E (u + 1) = accI own oth E u p E.length := by
 funext A B
 rw [accO, accI, accO, take_snoc hp, W_append, List.take_length, W, W]; omega
theorem accI_succ (hq : E[v]? = some q) (A B : Nat) : accI own oth E u p (v + 1) A B = accI own oth E u p v A B + tly own oth A B p q := by
 rw [accI, accI, take_snoc hq, w1_append, w1, w1]; omega
theorem accI_miss (hq : E[v]? = some q) (h : ¬ (own p ≠ own q ∧ oth q < oth p)) : accI own oth E u p (v + 1) = accI own oth E u p v := by
 funext A B
 rw [accI_succ hq, tly, ind_zero fun h2 => h h2.2.2]; omega
theorem accI_hit (hq : E[v]? = some q) (h1 : own p ≠ own q) (h2 : oth q < oth p) {A0 B0 : Nat} (hA : own p = A0) (hB : own q = B0) (A B : Nat) : accI own oth E u p (v + 1) A B = accI own oth E u p v A B + if A = A0 ∧ B = B0 then 1 else 0 := by
 rw [accI_succ hq, tly]
 by_cases c : A = A0 ∧ B = B0
 ·obtain ⟨rfl, rfl⟩ := c
  rw [ind_one ⟨hA, hB, h1, h2⟩, if_pos ⟨rfl, rfl⟩]
 ·rw [ind_zero fun h => c (by omega), if_neg c]
theorem accI_bound (hE : E.length ≤ 1000) (A B : Nat) : 0 ≤ accI own oth E u p v A B ∧ accI own oth E u p v A B ≤ 1001000 := by
 have h1 := W_bound (tly_01 own oth A B) E (E.take u)
 have h2 := w1_bound (tly_01 own oth A B p) (E.take v)
 have h3 : (E.take u).length * E.length ≤ 1000 * 1000 := Nat.mul_le_mul (by rw [List.length_take]; omega) hE
 rw [List.length_take] at h2
 rw [accI, accO]; omega
end acc
theorem rowI_len (c : Nat → Nat → Int) (n A : Nat) : (rowI c n A).length = n := by simp [rowI]
theorem rowI_get (c : Nat → Nat → Int) {n b : Nat} (A : Nat) (h : b < n) : (rowI c n A)[b]? = some (c A b) := by simp [rowI, h]
theorem rowI_zero (n A : Nat) : rowI (fun _ _ => 0) n A = List.replicate n 0 := by
 refine List.ext_getElem? fun b => ?_
 by_cases h : b < n
 ·rw [rowI_get _ _ h, List.getElem?_replicate, if_pos h]
 ·rw [List.getElem?_eq_none (by rw [rowI_len]; omega), List.getElem?_eq_none (by simp; omega)]
theorem rowI_congr {c c' : Nat → Nat → Int} (n A : Nat) (h : ∀ B, c A B = c' A B) : rowI c n A = rowI c' n A := List.map_congr_left fun B _ => h B
theorem rowI_set {c c' : Nat → Nat → Int} {n A b : Nat} {x : Int} (hb : b < n) (h : ∀ B, c' A B = if B = b then x else c A B) : (rowI c n A).set b x = rowI c' n A := by
 refine List.ext_getElem? fun B => ?_
 by_cases hB : B < n
 ·rw [rowI_get _ _ hB, h, List.getElem?_set]
  by_cases e : b = B
  ·subst e; rw [if_pos rfl, if_pos rfl, rowI_len, if_pos hb]
  ·rw [if_neg e, if_neg (fun h => e h.symm), rowI_get _ _ hB]
 ·rw [List.getElem?_eq_none (by rw [List.length_set, rowI_len]; omega), List.getElem?_eq_none (by rw [rowI_len]; omega)]
set_option maxHeartbeats 8000000 in
theorem rMat_dn (a : Lv) (i : Nat) (y z : List Int) (hn : Near a i y z) (hw : wide a) :
  CallsTo Tryz.prog 30 [lvD a, .int i, .int ((i : Int) + 1)] (listsD (tabI (accO (fun e => e.1) (fun e => e.2) (pairsF y z a.2.2.1) (pairsF y z a.2.2.1).length) y.length)) := by
 have h1 := rLvValid_spec a hw
 rw [← valid_same, hn.ok] at h1
 obtain ⟨s1, s2, s3⟩ := lv_sizes hn.ok
 obtain ⟨t1, t2⟩ := lv_le hn.ok
 have hy := hn.hy
 have hz := hn.hz
 have hlt := hn.lt
 have h2 := Ends_spec a i y z hy hz (by omega)
 have hEl := pairsF_le y z a.2.2.1
 have hin := hn.ins
 have hyl := tot_mem (List.mem_of_getElem? hn.hy)
 have hzl := tot_mem (List.mem_of_getElem? hn.hz)
 clear hn hw
 generalize pairsF y z a.2.2.1 = E at *
 have hE : E.length ≤ 1000 := by omega
 obtain ⟨N, hN⟩ : ∃ N, N = y.length := ⟨_, rfl⟩
 rw [← hN]
 have hN5 : N ≤ 512 := by omega
 have hin2 : ∀ e, e ∈ E → 0 ≤ e.1 ∧ e.1 < N := fun e he => by have := hin e he; omega
 obtain ⟨n, ls, ar, cs⟩ := a
 dsimp only at *
 have en : ((i : Int) + 1).toNat = i + 1 := by omega
 have m1 : ((i : Int) + 1 < i) = False := by simp only [eq_iff_iff, iff_false]; omega
 have m2 : ((i : Int) < (i : Int) + 1) = True := by simp only [eq_iff_iff, iff_true]; omega
 have m3 : ((i : Int) = (i : Int) + 1 - 1) = True := by simp only [eq_iff_iff, iff_true]; omega
 have m4 : ((i : Int) + 1 = (i : Int) - 1) = False := by simp only [eq_iff_iff, iff_false]; omega
 refine callsTo_of Tryz.func30 rfl (by decide +kernel) (Nat.le_of_ble_eq_true rfl) ?_
 intro hat B X w0
 have hl := at_len2 0 1 hat rfl rfl
 rw [List.length_map] at hl
 dsimp only at hl
 repeat' first | refine pw_seq ?_ | refine pw_skip ?_ | refine pw_ret ?_ | refine pw_exit ?_ | refine pw_block ?_ | refine pw_region (Nat.beq 61) hmix ?_ | (refine rc (h1) rfl ?_ ?_; (· first | rfl | (simp (disch := omega) only [go_sem, simprocAttr, List.append_eq, m1, m2, m3, m4, en]; done))) | (refine rc (h2) rfl ?_ ?_; (· first | rfl | (simp (disch := omega) only [go_sem, simprocAttr, List.append_eq, m1, m2, m3, m4, en]; done))) | (refine wpG_split rfl rfl (fun hc => ?_) (fun hc => ?_) <;> try simp only [hcL, reduceCtorEq] at hc) | (refine pw_cond _ rfl rfl (fun hc => ?_) (fun hc => ?_) <;> (try simp only [hcL, reduceCtorEq] at hc) <;> try (exfalso; omega)) | simp (maxSteps := 1000000) (disch := omega) only [go_sem, simprocAttr, List.append_eq, m1, m2, m3, m4, en] | apply And.intro | omega | decide +kernel
 refine pw_loopF (κ := Nat) (fun k => k ≤ N) (fun k => [(1, .int i), (3, .ptr 3 0 0 0), (7, .d (prsD E)), (8, .int 0), (9, .int 1), (10, .ref 901 1 0 k k), (11, .int k)])
  (fun k => match k with | 0 => [] | j + 1 => [⟨1, 901, 1, j + 1, fun _ => (List.replicate N 0).map D.int⟩])
  (fun k => match k with | 0 => [(3, .cells [.int n, .d (listsD ls), .d (arcsD ar), .d (listsD cs)]), (901, .row 1 [])] | j + 1 => [(3, .cells [.int n, .d (listsD ls), .d (arcsD ar), .d (listsD cs)])]) (fun k => N - k) 0 ?_ ?_ ?_
 ·exact Nat.zero_le _
 ·refine eF [] [(901, 61)] _ _ _ (by refine ⟨?_, ?_⟩ <;> (repeat' first | exact List.forall_mem_nil _ | refine List.forall_mem_cons.2 ⟨(by first | rfl | (simp (disch := omega) only [go_sem, simprocAttr, inL]; first | done | omega | (congr 1; done))), ?_⟩); done) ?_
  repeat' first | exact List.forall_mem_nil _ | refine List.forall_mem_cons.2 ⟨?_, ?_⟩
  all_goals refine ⟨_, (by first | rfl | (simp (disch := omega) only [go_sem, simprocAttr]; done) | (simp (disch := omega) only [go_sem, simprocAttr]; rfl)), fun i hi => ?_⟩
  all_goals dsimp only at hi ⊢
  all_goals try (exfalso; omega)
  all_goals try (simp (disch := omega) only [go_sem, simprocAttr, fid_lit, lit_fid]; done)
 ·intro k hk
  rcases Nat.lt_or_ge k N with hkN | hkN
  ·cases k with
   | zero =>
    dsimp only
    repeat' first | refine pw_seq ?_ | refine pw_skip ?_ | refine pw_ret ?_ | refine pw_exit ?_ | refine pw_block ?_ | refine pw_region (fun _ => false) hmix ?_ | (refine wpG_split rfl rfl (fun hc => ?_) (fun hc => ?_) <;> try simp only [hcL, reduceCtorEq] at hc) | (refine pw_cond _ rfl rfl (fun hc => ?_) (fun hc => ?_) <;> (try simp only [hcL, reduceCtorEq] at hc) <;> try (exfalso; omega)) | simp (maxSteps := 1000000) (disch := omega) only [go_sem, simprocAttr, List.append_eq, en, hy, hz, ← hN, roomy, List.isEmpty_nil] | apply And.intro | omega | decide +kernel
    refine ⟨1, ?_, eF [(fid 1 0, 79)] [(901, 81)] _ _ _ (by refine ⟨?_, ?_⟩ <;> (repeat' first | exact List.forall_mem_nil _ | refine List.forall_mem_cons.2 ⟨(by first | rfl | (simp (disch := omega) only [go_sem, simprocAttr, inL, List.map_replicate, List.length_replicate]; first | done | omega | (congr 1; done))), ?_⟩); done) ?_, ?_⟩
    ·omega
    ·refine List.forall_mem_cons.2 ⟨⟨fun _ => .ref 79 1 0 N N, ?_, fun r hr => ?_⟩, List.forall_mem_nil _⟩
     ·rw [refs_one]
      simp (maxSteps := 1000000) (disch := omega) only [go_sem, simprocAttr, List.isEmpty_nil]
     ·obtain rfl : r = 0 := by dsimp only at hr; omega
      simp (maxSteps := 1000000) (disch := omega) only [go_sem, simprocAttr, List.map_replicate, List.length_replicate]
    ·omega
   | succ k =>
    dsimp only
    repeat' first | refine pw_seq ?_ | refine pw_skip ?_ | refine pw_ret ?_ | refine pw_exit ?_ | refine pw_block ?_ | refine pw_region (fun _ => false) hmix ?_ | (refine wpG_split rfl rfl (fun hc => ?_) (fun hc => ?_) <;> try simp only [hcL, reduceCtorEq] at hc) | (refine pw_cond _ rfl rfl (fun hc => ?_) (fun hc => ?_) <;> (try simp only [hcL, reduceCtorEq] at hc) <;> try (exfalso; omega)) | simp (maxSteps := 1000000) (disch := omega) only [go_sem, simprocAttr, List.append_eq, en, hy, hz, ← hN, roomy] | apply And.intro | omega | decide +kernel
    refine ⟨k + 2, ?_, eF [(fid 1 (k + 1), 79)] [(901, 81)] _ _ _ (by refine ⟨?_, ?_⟩ <;> (repeat' first | exact List.forall_mem_nil _ | refine List.forall_mem_cons.2 ⟨(by first | rfl | (simp (disch := omega) only [go_sem, simprocAttr, inL, List.map_replicate, List.length_replicate]; first | done | omega | (congr 1; done))), ?_⟩); done) ?_, ?_⟩
    ·omega
    ·repeat' first | exact List.forall_mem_nil _ | refine List.forall_mem_cons.2 ⟨?_, ?_⟩
     all_goals refine ⟨_, (by first | rfl | (simp (disch := omega) only [go_sem, simprocAttr, List.map_replicate, List.length_replicate]; done) | (simp (disch := omega) only [go_sem, simprocAttr, List.map_replicate, List.length_replicate]; rfl)), fun i hi => ?_⟩
     all_goals dsimp only at hi ⊢
     all_goals rcases Decidable.em (i = k+1) with rfl | hi0
     all_goals try (exfalso; omega)
     all_goals try (simp (disch := omega) only [go_sem, simprocAttr, List.map_replicate, List.length_replicate, fid_lit, lit_fid]; done)
     all_goals try (simp (disch := omega) only [go_sem, simprocAttr, List.map_replicate, List.length_replicate, hi0, fid_lit, lit_fid]; done)
    ·omega
  ·cases k with
   | zero =>
    have hE0 : E = [] := by
     cases E with
     | nil => rfl
     | cons e E => have := hin2 e (by simp); omega
    subst hE0
    obtain rfl : N = 0 := by omega
    dsimp only
    repeat' first | refine pw_seq ?_ | refine pw_skip ?_ | refine pw_ret ?_ | refine pw_exit ?_ | refine pw_block ?_ | refine pw_region (fun _ => false) hmix ?_ | (refine wpG_split rfl rfl (fun hc => ?_) (fun hc => ?_) <;> try simp only [hcL, reduceCtorEq] at hc) | (refine pw_cond _ rfl rfl (fun hc => ?_) (fun hc => ?_) <;> (try simp only [hcL, reduceCtorEq] at hc) <;> try (exfalso; omega)) | simp (maxSteps := 1000000) (disch := omega) only [go_sem, simprocAttr, List.append_eq, en, hy, hz, ← hN] | apply And.intro | omega | decide +kernel
    refine pw_loopI (κ := Nat) (fun (u : Nat) => u = 0) (fun (u : Nat) => [(10, .ref 901 1 0 0 0), (7, .d (prsD [])), (12, .int u)]) (fun (u : Nat) => [(901, .row 1 [])]) (fun (u : Nat) => 0) 0 ?_ ?_ ?_
    ·rfl
    ·exact eL [] _ _ (by refine ⟨?_, ?_⟩ <;> (repeat' first | exact List.forall_mem_nil _ | refine List.forall_mem_cons.2 ⟨(by first | rfl | (simp (disch := omega) only [go_sem, simprocAttr, inL]; first | done | omega | (congr 1; done))), ?_⟩); done)
    ·rintro u rfl
     repeat' first | refine pw_seq ?_ | refine pw_skip ?_ | refine pw_ret ?_ | refine pw_exit ?_ | refine pw_block ?_ | refine pw_region (fun _ => false) hmix ?_ | (refine wpG_split rfl rfl (fun hc => ?_) (fun hc => ?_) <;> try simp only [hcL, reduceCtorEq] at hc) | (refine pw_cond _ rfl rfl (fun hc => ?_) (fun hc => ?_) <;> (try simp only [hcL, reduceCtorEq] at hc) <;> try (exfalso; omega)) | simp (maxSteps := 1000000) (disch := omega) only [go_sem, simprocAttr] | apply And.intro | omega | decide +kernel
     refine ret_ref (o := 901) rfl rfl (by simp) ?_
     simp [tabI]
   | succ k =>
    obtain rfl : N = k + 1 := by omega
    have hz0 : ∀ r, rowI (accO (fun e => e.1) (fun e => e.2) E 0) (k + 1) r = List.replicate (k + 1) 0 := fun r => by rw [accO_zero, rowI_zero]
    dsimp only
    repeat' first | refine pw_seq ?_ | refine pw_skip ?_ | refine pw_ret ?_ | refine pw_exit ?_ | refine pw_block ?_ | refine pw_region (fun _ => false) hmix ?_ | (refine wpG_split rfl rfl (fun hc => ?_) (fun hc => ?_) <;> try simp only [hcL, reduceCtorEq] at hc) | (refine pw_cond _ rfl rfl (fun hc => ?_) (fun hc => ?_) <;> (try simp only [hcL, reduceCtorEq] at hc) <;> try (exfalso; omega)) | simp (maxSteps := 1000000) (disch := omega) only [go_sem, simprocAttr, List.append_eq, en, hy, hz, ← hN] | apply And.intro | omega | decide +kernel
    refine pw_loopF (κ := Nat) (fun (u : Nat) => u ≤ E.length) (fun (u : Nat) => [(7, .d (prsD E)), (8, .int 0), (9, .int 1), (10, .ref 901 1 0 (k + 1) (k + 1)), (12, .int u)]) (fun (u : Nat) => [⟨1, 901, 1, k + 1, fun r => (rowI (accO (fun e => e.1) (fun e => e.2) E u) (k + 1) r).map D.int⟩]) (fun (u : Nat) => []) (fun (u : Nat) => E.length - u) 0 ?_ ?_ ?_
    ·exact Nat.zero_le _
    ·refine eF [] [] _ _ _ (by refine ⟨?_, ?_⟩ <;> (repeat' first | exact List.forall_mem_nil _ | refine List.forall_mem_cons.2 ⟨(by first | rfl | (simp (disch := omega) only [go_sem, simprocAttr, inL]; first | done | omega | (congr 1; done))), ?_⟩); done) ?_
     repeat' first | exact List.forall_mem_nil _ | refine List.forall_mem_cons.2 ⟨?_, ?_⟩
     all_goals refine ⟨_, (by first | rfl | (simp (disch := omega) only [go_sem, simprocAttr, hz0, List.map_replicate, List.length_replicate]; done) | (simp (disch := omega) only [go_sem, simprocAttr, hz0, List.map_replicate, List.length_replicate]; rfl)), fun i hi => ?_⟩
     all_goals dsimp only at hi ⊢
     all_goals try (exfalso; omega)
     all_goals try (simp (disch := omega) only [go_sem, simprocAttr, hz0, List.map_replicate, List.length_replicate, fid_lit, lit_fid]; done)
    ·intro u hu
     rcases Nat.lt_or_ge u E.length with hlu | hgu
     ·obtain ⟨p, hp⟩ := get_some hlu
      have hpi := hin2 p (List.mem_of_getElem? hp)
      obtain ⟨A0, hA0⟩ : ∃ A0 : Nat, p.1 = A0 := ⟨(p.1).toNat, by omega⟩
      repeat' first | refine pw_seq ?_ | refine pw_skip ?_ | refine pw_ret ?_ | refine pw_exit ?_ | refine pw_block ?_ | refine pw_region (fun _ => false) hmix ?_ | (refine wpG_split rfl rfl (fun hc => ?_) (fun hc => ?_) <;> try simp only [hcL, reduceCtorEq] at hc) | (refine pw_cond _ rfl rfl (fun hc => ?_) (fun hc => ?_) <;> (try simp only [hcL, reduceCtorEq] at hc) <;> try (exfalso; omega)) | simp (maxSteps := 1000000) (disch := omega) only [go_sem, simprocAttr, hp] | apply And.intro | omega | decide +kernel
      refine pw_loopF (κ := Nat) (fun (v : Nat) => v ≤ E.length) (fun (v : Nat) => [(7, .d (prsD E)), (8, .int 0), (9, .int 1), (10, .ref 901 1 0 (k + 1) (k + 1)), (12, .int u), (13, .int v)]) (fun (v : Nat) => [⟨1, 901, 1, k + 1, fun r => (rowI (accI (fun e => e.1) (fun e => e.2) E u p v) (k + 1) r).map D.int⟩]) (fun (v : Nat) => []) (fun (v : Nat) => E.length - v) 0 ?_ ?_ ?_
      ·exact Nat.zero_le _
      ·refine eF [] [] _ _ _ (by refine ⟨?_, ?_⟩ <;> (repeat' first | exact List.forall_mem_nil _ | refine List.forall_mem_cons.2 ⟨(by first | rfl | (simp (disch := omega) only [go_sem, simprocAttr, inL]; first | done | omega | (congr 1; done))), ?_⟩); done) ?_
       repeat' first | exact List.forall_mem_nil _ | refine List.forall_mem_cons.2 ⟨?_, ?_⟩
       all_goals refine ⟨_, (by first | rfl | (simp (disch := omega) only [go_sem, simprocAttr, accI_zero]; done) | (simp (disch := omega) only [go_sem, simprocAttr, accI_zero]; rfl)), fun i hi => ?_⟩
       all_goals dsimp only at hi ⊢
       all_goals try (exfalso; omega)
       all_goals try (simp (disch := omega) only [go_sem, simprocAttr, accI_zero, fid_lit, lit_fid]; done)
      ·intro v hv
       rcases Nat.lt_or_ge v E.length with hlv | hgv
       ·obtain ⟨q, hq⟩ := get_some hlv
        have hqi := hin2 q (List.mem_of_getElem? hq)
        obtain ⟨B0, hB0⟩ : ∃ B0 : Nat, q.1 = B0 := ⟨(q.1).toNat, by omega⟩
        by_cases c1 : p.1 = q.1
        ·have hm := accI_miss (own := (fun e => e.1)) (oth := (fun e => e.2)) (u := u) (p := p) hq (fun h => h.1 c1)
         repeat' first | refine pw_seq ?_ | refine pw_skip ?_ | refine pw_ret ?_ | refine pw_exit ?_ | refine pw_block ?_ | refine pw_region (fun _ => false) hmix ?_ | (refine wpG_split rfl rfl (fun hc => ?_) (fun hc => ?_) <;> try simp only [hcL, reduceCtorEq] at hc) | (refine pw_cond _ rfl rfl (fun hc => ?_) (fun hc => ?_) <;> (try simp only [hcL, reduceCtorEq] at hc) <;> try (exfalso; omega)) | simp (maxSteps := 1000000) (disch := omega) only [go_sem, simprocAttr, hp, hq, c1] | apply And.intro | omega | decide +kernel
         refine ⟨v + 1, ?_, eF [] [] _ _ _ (by refine ⟨?_, ?_⟩ <;> (repeat' first | exact List.forall_mem_nil _ | refine List.forall_mem_cons.2 ⟨(by first | rfl | (simp (disch := omega) only [go_sem, simprocAttr, inL]; first | done | omega | (congr 1; done))), ?_⟩); done) ?_, ?_⟩
         ·omega
         ·repeat' first | exact List.forall_mem_nil _ | refine List.forall_mem_cons.2 ⟨?_, ?_⟩
          all_goals refine ⟨_, (by first | rfl | (simp (disch := omega) only [go_sem, simprocAttr, hm]; done) | (simp (disch := omega) only [go_sem, simprocAttr, hm]; rfl)), fun i hi => ?_⟩
          all_goals dsimp only at hi ⊢
          all_goals try (exfalso; omega)
          all_goals try (simp (disch := omega) only [go_sem, simprocAttr, hm, fid_lit, lit_fid]; done)
         ·omega
        ·by_cases c2 : q.2 < p.2
         ·have hb := accI_bound (own := (fun e => e.1)) (oth := (fun e => e.2)) (u := u) (v := v) (p := p) hE A0 B0
          obtain ⟨x, hx⟩ : ∃ x, accI (fun e => e.1) (fun e => e.2) E u p v A0 B0 = x := ⟨_, rfl⟩
          rw [hx] at hb
          have hg : (rowI (accI (fun e => e.1) (fun e => e.2) E u p v) (k + 1) A0)[B0]? = some x := by rw [rowI_get _ _ (by omega), hx]
          have hh := accI_hit (own := (fun e => e.1)) (oth := (fun e => e.2)) (u := u) (p := p) hq c1 c2 hA0 hB0
          have hst : (rowI (accI (fun e => e.1) (fun e => e.2) E u p v) (k + 1) A0).set B0 (x + 1) = rowI (accI (fun e => e.1) (fun e => e.2) E u p (v + 1)) (k + 1) A0 := rowI_set (by omega) fun B => by
           rw [hh]
           by_cases c : B = B0
           ·subst c; rw [if_pos ⟨rfl, rfl⟩, if_pos rfl, hx]
           ·rw [if_neg (fun h => c h.2), if_neg c]; omega
          have hot : ∀ r, r ≠ A0 → rowI (accI (fun e => e.1) (fun e => e.2) E u p (v + 1)) (k + 1) r = rowI (accI (fun e => e.1) (fun e => e.2) E u p v) (k + 1) r := fun r hr => rowI_congr _ _ fun B => by rw [hh, if_neg (fun h => hr h.1)]; omega
          have hfl : (rowI (accI (fun e => e.1) (fun e => e.2) E u p v) (k + 1) A0).length = k + 1 := rowI_len _ _ _
          rw [hA0, hB0] at c1
          have cA : A0 < k + 1 := by omega
          have cB : B0 < k + 1 := by omega
          refine pw_ent _ (ent_bor _ _ [901] 901 A0 900 1 1 (k + 1) (by first | rfl | (simp (disch := omega) only [go_sem, simprocAttr]; done) | (simp (disch := omega) only [go_sem, simprocAttr]; rfl)) (by first | (simp (disch := omega) only [go_sem, simprocAttr]; done) | (simp (disch := omega) only [go_sem, simprocAttr]; rfl)) (by first | (simp (disch := omega) only [go_sem, simprocAttr]; done) | (simp (disch := omega) only [go_sem, simprocAttr]; rfl)) (fun i hi hne => by simp (disch := omega) only [go_sem, simprocAttr, hne]; (repeat' split) <;> exact .ref _ _ _ _ _ ⟨by simp (disch := omega) only [go_sem, simprocAttr, hne], by simp (disch := omega) only [go_sem, simprocAttr, hne]⟩) (by (repeat' first | refine ab_nil ?_ | exact ab_obOf (ids := [901]) rfl rfl (Nat.le_of_ble_eq_true rfl) | refine ab_hole ?_ | refine ab_row ?_ | refine ab_dead ?_ | refine ab_self ?_ | refine ab_self_fam ?_ | refine ab_fam (by dsimp only; omega) (by dsimp only; omega) (by omega) (by omega) (Nat.le_of_ble_eq_true rfl) ?_); done) rfl rfl rfl) ?_
          repeat' first | refine pw_seq ?_ | refine pw_skip ?_ | refine pw_ret ?_ | refine pw_exit ?_ | refine pw_block ?_ | refine pw_region (fun _ => false) hmix ?_ | (refine wpG_split rfl rfl (fun hc => ?_) (fun hc => ?_) <;> try simp only [hcL, reduceCtorEq] at hc) | (refine pw_cond _ rfl rfl (fun hc => ?_) (fun hc => ?_) <;> (try simp only [hcL, reduceCtorEq] at hc) <;> try (exfalso; omega)) | simp (maxSteps := 1000000) (disch := omega) only [go_sem, simprocAttr, hp, hq, hA0, hB0, c1, c2, hg, hfl] | apply And.intro | omega | decide +kernel
          refine ⟨v + 1, ?_, eF [(fid 1 A0, 900)] [] _ _ _ (by refine ⟨?_, ?_⟩ <;> (repeat' first | exact List.forall_mem_nil _ | refine List.forall_mem_cons.2 ⟨(by first | rfl | (simp (disch := omega) only [go_sem, simprocAttr, inL]; first | done | omega | (congr 1; done))), ?_⟩); done) ?_, ?_⟩
          ·omega
          ·repeat' first | exact List.forall_mem_nil _ | refine List.forall_mem_cons.2 ⟨?_, ?_⟩
           all_goals refine ⟨_, (by first | rfl | (simp (disch := omega) only [go_sem, simprocAttr, hst.symm, List.map_set, List.length_set, List.length_map, hfl, hot]; done) | (simp (disch := omega) only [go_sem, simprocAttr, hst.symm, List.map_set, List.length_set, List.length_map, hfl, hot]; rfl)), fun i hi => ?_⟩
           all_goals dsimp only at hi ⊢
           all_goals rcases Decidable.em (i = A0) with rfl | hi0
           all_goals try (exfalso; omega)
           all_goals try (simp (disch := omega) only [go_sem, simprocAttr, hst.symm, List.map_set, List.length_set, List.length_map, hfl, hot, fid_lit, lit_fid]; done)
           all_goals try (simp (disch := omega) only [go_sem, simprocAttr, hst.symm, List.map_set, List.length_set, List.length_map, hfl, hot, hi0, fid_lit, lit_fid]; done)
          ·omega
         ·have hm := accI_miss (own := (fun e => e.1)) (oth := (fun e => e.2)) (u := u) (p := p) hq (fun h => c2 h.2)
          repeat' first | refine pw_seq ?_ | refine pw_skip ?_ | refine pw_ret ?_ | refine pw_exit ?_ | refine pw_block ?_ | refine pw_region (fun _ => false) hmix ?_ | (refine wpG_split rfl rfl (fun hc => ?_) (fun hc => ?_) <;> try simp only [hcL, reduceCtorEq] at hc) | (refine pw_cond _ rfl rfl (fun hc => ?_) (fun hc => ?_) <;> (try simp only [hcL, reduceCtorEq] at hc) <;> try (exfalso; omega)) | simp (maxSteps := 1000000) (disch := omega) only [go_sem, simprocAttr, hp, hq, c1, c2] | apply And.intro | omega | decide +kernel
          refine ⟨v + 1, ?_, eF [] [] _ _ _ (by refine ⟨?_, ?_⟩ <;> (repeat' first | exact List.forall_mem_nil _ | refine List.forall_mem_cons.2 ⟨(by first | rfl | (simp (disch := omega) only [go_sem, simprocAttr, inL]; first | done | omega | (congr 1; done))), ?_⟩); done) ?_, ?_⟩
          ·omega
          ·repeat' first | exact List.forall_mem_nil _ | refine List.forall_mem_cons.2 ⟨?_, ?_⟩
           all_goals refine ⟨_, (by first | rfl | (simp (disch := omega) only [go_sem, simprocAttr, hm]; done) | (simp (disch := omega) only [go_sem, simprocAttr, hm]; rfl)), fun i hi => ?_⟩
           all_goals dsimp only at hi ⊢
           all_goals try (exfalso; omega)
           all_goals try (simp (disch := omega) only [go_sem, simprocAttr, hm, fid_lit, lit_fid]; done)
          ·omega
       ·have : v = E.length := by omega
        subst this
        have e1 := accO_succ (own := (fun e => e.1)) (oth := (fun e => e.2)) hp
        try dsimp only
        repeat' first | refine pw_seq ?_ | refine pw_skip ?_ | refine pw_ret ?_ | refine pw_exit ?_ | refine pw_block ?_ | refine pw_region (fun _ => false) hmix ?_ | (refine wpG_split rfl rfl (fun hc => ?_) (fun hc => ?_) <;> try simp only [hcL, reduceCtorEq] at hc) | (refine pw_cond _ rfl rfl (fun hc => ?_) (fun hc => ?_) <;> (try simp only [hcL, reduceCtorEq] at hc) <;> try (exfalso; omega)) | simp (maxSteps := 1000000) (disch := omega) only [go_sem, simprocAttr] | apply And.intro | omega | decide +kernel
        refine ⟨u + 1, ?_, eF [] [] _ _ _ (by refine ⟨?_, ?_⟩ <;> (repeat' first | exact List.forall_mem_nil _ | refine List.forall_mem_cons.2 ⟨(by first | rfl | (simp (disch := omega) only [go_sem, simprocAttr, inL]; first | done | omega | (congr 1; done))), ?_⟩); done) ?_, ?_⟩
        ·omega
        ·repeat' first | exact List.forall_mem_nil _ | refine List.forall_mem_cons.2 ⟨?_, ?_⟩
         all_goals refine ⟨_, (by first | rfl | (simp (disch := omega) only [go_sem, simprocAttr, e1]; done) | (simp (disch := omega) only [go_sem, simprocAttr, e1]; rfl)), fun i hi => ?_⟩
         all_goals dsimp only at hi ⊢
         all_goals try (exfalso; omega)
         all_goals try (simp (disch := omega) only [go_sem, simprocAttr, e1, fid_lit, lit_fid]; done)
        ·omega
     ·have : u = E.length := by omega
      subst this
      try dsimp only
      refine pw_ent _ (ent_famRow _ _ _ _ ⟨nodup_of rfl, nodup_of rfl, (by (repeat' first | exact List.forall_mem_nil _ | refine List.forall_mem_cons.2 ⟨⟨Nat.le_of_ble_eq_true rfl, Nat.le_of_ble_eq_true rfl, by dsimp only; omega⟩, ?_⟩); done)⟩ rfl [901] rfl rfl rfl rfl) ?_
      repeat' first | refine pw_seq ?_ | refine pw_skip ?_ | refine pw_ret ?_ | refine pw_exit ?_ | refine pw_block ?_ | refine pw_region (fun _ => false) hmix ?_ | (refine wpG_split rfl rfl (fun hc => ?_) (fun hc => ?_) <;> try simp only [hcL, reduceCtorEq] at hc) | (refine pw_cond _ rfl rfl (fun hc => ?_) (fun hc => ?_) <;> (try simp only [hcL, reduceCtorEq] at hc) <;> try (exfalso; omega)) | simp (maxSteps := 1000000) (disch := omega) only [go_sem, simprocAttr] | apply And.intro | omega | decide +kernel
      refine ret_ref (o := 901) rfl rfl (by simp) ?_
      rw [List.take_of_length_le (by simp), tabI, List.map_map, ← List.range_succ]
      exact List.map_congr_left fun r hr => rfl
set_option maxHeartbeats 8000000 in
theorem rMat_up (a : Lv) (i : Nat) (y z : List Int) (hn : Near a i y z) (hw : wide a) :
  CallsTo Tryz.prog 30 [lvD a, .int ((i : Int) + 1), .int i] (listsD (tabI (accO (fun e => e.2) (fun e => e.1) (pairsF y z a.2.2.1) (pairsF y z a.2.2.1).length) z.length)) := by
 have h1 := rLvValid_spec a hw
 rw [← valid_same, hn.ok] at h1
 obtain ⟨s1, s2, s3⟩ := lv_sizes hn.ok
 obtain ⟨t1, t2⟩ := lv_le hn.ok
 have hy := hn.hy
 have hz := hn.hz
 have hlt := hn.lt
 have h2 := Ends_spec a i y z hy hz (by omega)
 have hEl := pairsF_le y z a.2.2.1
 have hin := hn.ins
 have hyl := tot_mem (List.mem_of_getElem? hn.hy)
 have hzl := tot_mem (List.mem_of_getElem? hn.hz)
 clear hn hw
 generalize pairsF y z a.2.2.1 = E at *
 have hE : E.length ≤ 1000 := by omega
 obtain ⟨N, hN⟩ : ∃ N, N = z.length := ⟨_, rfl⟩
 rw [← hN]
 have hN5 : N ≤ 512 := by omega
 have hin2 : ∀ e, e ∈ E → 0 ≤ e.2 ∧ e.2 < N := fun e he => by have := hin e he; omega
 obtain ⟨n, ls, ar, cs⟩ := a
 dsimp only at *
 have en : ((i : Int) + 1).toNat = i + 1 := by omega
 have m1 : ((i : Int) + 1 < i) = False := by simp only [eq_iff_iff, iff_false]; omega
 have m2 : ((i : Int) < (i : Int) + 1) = True := by simp only [eq_iff_iff, iff_true]; omega
 have m3 : ((i : Int) = (i : Int) + 1 - 1) = True := by simp only [eq_iff_iff, iff_true]; omega
 have m4 : ((i : Int) + 1 = (i : Int) - 1) = False := by simp only [eq_iff_iff, iff_false]; omega
 refine callsTo_of Tryz.func30 rfl (by decide +kernel) (Nat.le_of_ble_eq_true rfl) ?_
 intro hat B X w0
 have hl := at_len2 0 1 hat rfl rfl
 rw [List.length_map] at hl
 dsimp only at hl
 repeat' first | refine pw_seq ?_ | refine pw_skip ?_ | refine pw_ret ?_ | refine pw_exit ?_ | refine pw_block ?_ | refine pw_region (Nat.beq 61) hmix ?_ | (refine rc (h1) rfl ?_ ?_; (· first | rfl | (simp (disch := omega) only [go_sem, simprocAttr, List.append_eq, m1, m2, m3, m4, en]; done))) | (refine rc (h2) rfl ?_ ?_; (· first | rfl | (simp (disch := omega) only [go_sem, simprocAttr, List.append_eq, m1, m2, m3, m4, en]; done))) | (refine wpG_split rfl rfl (fun hc => ?_) (fun hc => ?_) <;> try simp only [hcL, reduceCtorEq] at hc) | (refine pw_cond _ rfl rfl (fun hc => ?_) (fun hc => ?_) <;> (try simp only [hcL, reduceCtorEq] at hc) <;> try (exfalso; omega)) | simp (maxSteps := 1000000) (disch := omega) only [go_sem, simprocAttr, List.append_eq, m1, m2, m3, m4, en] | apply And.intro | omega | decide +kernel
 refine pw_loopF (κ := Nat) (fun k => k ≤ N) (fun k => [(1, .int ((i : Int) + 1)), (3, .ptr 3 0 0 0), (7, .d (prsD E)), (8, .int 1), (9, .int 0), (10, .ref 901 1 0 k k), (11, .int k)])
  (fun k => match k with | 0 => [] | j + 1 => [⟨1, 901, 1, j + 1, fun _ => (List.replicate N 0).map D.int⟩])
  (fun k => match k with | 0 => [(3, .cells [.int n, .d (listsD ls), .d (arcsD ar), .d (listsD cs)]), (901, .row 1 [])] | j + 1 => [(3, .cells [.int n, .d (listsD ls), .d (arcsD ar), .d (listsD cs)])]) (fun k => N - k) 0 ?_ ?_ ?_
 ·exact Nat.zero_le _
 ·refine eF [] [(901, 61)] _ _ _ (by refine ⟨?_, ?_⟩ <;> (repeat' first | exact List.forall_mem_nil _ | refine List.forall_mem_cons.2 ⟨(by first | rfl | (simp (disch := omega) only [go_sem, simprocAttr, inL]; first | done | omega | (congr 1; done))), ?_⟩); done) ?_
  repeat' first | exact List.forall_mem_nil _ | refine List.forall_mem_cons.2 ⟨?_, ?_⟩
  all_goals refine ⟨_, (by first | rfl | (simp (disch := omega) only [go_sem, simprocAttr]; done) | (simp (disch := omega) only [go_sem, simprocAttr]; rfl)), fun i hi => ?_⟩
  all_goals dsimp only at hi ⊢
  all_goals try (exfalso; omega)
  all_goals try (simp (disch := omega) only [go_sem, simprocAttr, fid_lit, lit_fid]; done)
 ·intro k hk
  rcases Nat.lt_or_ge k N with hkN | hkN
  ·cases k with
   | zero =>
    dsimp only
    repeat' first | refine pw_seq ?_ | refine pw_skip ?_ | refine pw_ret ?_ | refine pw_exit ?_ | refine pw_block ?_ | refine pw_region (fun _ => false) hmix ?_ | (refine wpG_split rfl rfl (fun hc => ?_) (fun hc => ?_) <;> try simp only [hcL, reduceCtorEq] at hc) | (refine pw_cond _ rfl rfl (fun hc => ?_) (fun hc => ?_) <;> (try simp only [hcL, reduceCtorEq] at hc) <;> try (exfalso; omega)) | simp (maxSteps := 1000000) (disch := omega) only [go_sem, simprocAttr, List.append_eq, en, hy, hz, ← hN, roomy, List.isEmpty_nil] | apply And.intro | omega | decide +kernel
    refine ⟨1, ?_, eF [(fid 1 0, 79)] [(901, 81)] _ _ _ (by refine ⟨?_, ?_⟩ <;> (repeat' first | exact List.forall_mem_nil _ | refine List.forall_mem_cons.2 ⟨(by first | rfl | (simp (disch := omega) only [go_sem, simprocAttr, inL, List.map_replicate, List.length_replicate]; first | done | omega | (congr 1; done))), ?_⟩); done) ?_, ?_⟩
    ·omega
    ·refine List.forall_mem_cons.2 ⟨⟨fun _ => .ref 79 1 0 N N, ?_, fun r hr => ?_⟩, List.forall_mem_nil _⟩
     ·rw [refs_one]
      simp (maxSteps := 1000000) (disch := omega) only [go_sem, simprocAttr, List.isEmpty_nil]
     ·obtain rfl : r = 0 := by dsimp only at hr; omega
      simp (maxSteps := 1000000) (disch := omega) only [go_sem, simprocAttr, List.map_replicate, List.length_replicate]
    ·omega
   | succ k =>
    dsimp only
    repeat' first | refine pw_seq ?_ | refine pw_skip ?_ | refine pw_ret ?_ | refine pw_exit ?_ | refine pw_block ?_ | refine pw_region (fun _ => false) hmix ?_ | (refine wpG_split rfl rfl (fun hc => ?_) (fun hc => ?_) <;> try simp only [hcL, reduceCtorEq] at hc) | (refine pw_cond _ rfl rfl (fun hc => ?_) (fun hc => ?_) <;> (try simp only [hcL, reduceCtorEq] at hc) <;> try (exfalso; omega)) | simp (maxSteps := 1000000) (disch := omega) only [go_sem, simprocAttr, List.append_eq, en, hy, hz, ← hN, roomy] | apply And.intro | omega | decide +kernel
    refine ⟨k + 2, ?_, eF [(fid 1 (k + 1), 79)] [(901, 81)] _ _ _ (by refine ⟨?_, ?_⟩ <;> (repeat' first | exact List.forall_mem_nil _ | refine List.forall_mem_cons.2 ⟨(by first | rfl | (simp (disch := omega) only [go_sem, simprocAttr, inL, List.map_replicate, List.length_replicate]; first | done | omega | (congr 1; done))), ?_⟩); done) ?_, ?_⟩
    ·omega
    ·repeat' first | exact List.forall_mem_nil _ | refine List.forall_mem_cons.2 ⟨?_, ?_⟩
     all_goals refine ⟨_, (by first | rfl | (simp (disch := omega) only [go_sem, simprocAttr, List.map_replicate, List.length_replicate]; done) | (simp (disch := omega) only [go_sem, simprocAttr, List.map_replicate, List.length_replicate]; rfl)), fun i hi => ?_⟩
     all_goals dsimp only at hi ⊢
     all_goals rcases Decidable.em (i = k+1) with rfl | hi0
     all_goals try (exfalso; omega)
     all_goals try (simp (disch := omega) only [go_sem, simprocAttr, List.map_replicate, List.length_replicate, fid_lit, lit_fid]; done)
     all_goals try (simp (disch := omega) only [go_sem, simprocAttr, List.map_replicate, List.length_replicate, hi0, fid_lit, lit_fid]; done)
    ·omega
  ·cases k with
   | zero =>
    have hE0 : E = [] := by
     cases E with
     | nil => rfl
     | cons e E => have := hin2 e (by simp); omega
    subst hE0
    obtain rfl : N = 0 := by omega
    dsimp only
    repeat' first | refine pw_seq ?_ | refine pw_skip ?_ | refine pw_ret ?_ | refine pw_exit ?_ | refine pw_block ?_ | refine pw_region (fun _ => false) hmix ?_ | (refine wpG_split rfl rfl (fun hc => ?_) (fun hc => ?_) <;> try simp only [hcL, reduceCtorEq] at hc) | (refine pw_cond _ rfl rfl (fun hc => ?_) (fun hc => ?_) <;> (try simp only [hcL, reduceCtorEq] at hc) <;> try (exfalso; omega)) | simp (maxSteps := 1000000) (disch := omega) only [go_sem, simprocAttr, List.append_eq, en, hy, hz, ← hN] | apply And.intro | omega | decide +kernel
    refine pw_loopI (κ := Nat) (fun (u : Nat) => u = 0) (fun (u : Nat) => [(10, .ref 901 1 0 0 0), (7, .d (prsD [])), (12, .int u)]) (fun (u : Nat) => [(901, .row 1 [])]) (fun (u : Nat) => 0) 0 ?_ ?_ ?_
    ·rfl
    ·exact eL [] _ _ (by refine ⟨?_, ?_⟩ <;> (repeat' first | exact List.forall_mem_nil _ | refine List.forall_mem_cons.2 ⟨(by first | rfl | (simp (disch := omega) only [go_sem, simprocAttr, inL]; first | done | omega | (congr 1; done))), ?_⟩); done)
    ·rintro u rfl
     repeat' first | refine pw_seq ?_ | refine pw_skip ?_ | refine pw_ret ?_ | refine pw_exit ?_ | refine pw_block ?_ | refine pw_region (fun _ => false) hmix ?_ | (refine wpG_split rfl rfl (fun hc => ?_) (fun hc => ?_) <;> try simp only [hcL, reduceCtorEq] at hc) | (refine pw_cond _ rfl rfl (fun hc => ?_) (fun hc => ?_) <;> (try simp only [hcL, reduceCtorEq] at hc) <;> try (exfalso; omega)) | simp (maxSteps := 1000000) (disch := omega) only [go_sem, simprocAttr] | apply And.intro | omega | decide +kernel
     refine ret_ref (o := 901) rfl rfl (by simp) ?_
     simp [tabI]
   | succ k =>
    obtain rfl : N = k + 1 := by omega
    have hz0 : ∀ r, rowI (accO (fun e => e.2) (fun e => e.1) E 0) (k + 1) r = List.replicate (k + 1) 0 := fun r => by rw [accO_zero, rowI_zero]
    dsimp only
    repeat' first | refine pw_seq ?_ | refine pw_skip ?_ | refine pw_ret ?_ | refine pw_exit ?_ | refine pw_block ?_ | refine pw_region (fun _ => false) hmix ?_ | (refine wpG_split rfl rfl (fun hc => ?_) (fun hc => ?_) <;> try simp only [hcL, reduceCtorEq] at hc) | (refine pw_cond _ rfl rfl (fun hc => ?_) (fun hc => ?_) <;> (try simp only [hcL, reduceCtorEq] at hc) <;> try (exfalso; omega)) | simp (maxSteps := 1000000) (disch := omega) only [go_sem, simprocAttr, List.append_eq, en, hy, hz, ← hN] | apply And.intro | omega | decide +kernel
    refine pw_loopF (κ := Nat) (fun (u : Nat) => u ≤ E.length) (fun (u : Nat) => [(7, .d (prsD E)), (8, .int 1), (9, .int 0), (10, .ref 901 1 0 (k + 1) (k + 1)), (12, .int u)]) (fun (u : Nat) => [⟨1, 901, 1, k + 1, fun r => (rowI (accO (fun e => e.2) (fun e => e.1) E u) (k + 1) r).map D.int⟩]) (fun (u : Nat) => []) (fun (u : Nat) => E.length - u) 0 ?_ ?_ ?_
    ·exact Nat.zero_le _
    ·refine eF [] [] _ _ _ (by refine ⟨?_, ?_⟩ <;> (repeat' first | exact List.forall_mem_nil _ | refine List.forall_mem_cons.2 ⟨(by first | rfl | (simp (disch := omega) only [go_sem, simprocAttr, inL]; first | done | omega | (congr 1; done))), ?_⟩); done) ?_
     repeat' first | exact List.forall_mem_nil _ | refine List.forall_mem_cons.2 ⟨?_, ?_⟩
     all_goals refine ⟨_, (by first | rfl | (simp (disch := omega) only [go_sem, simprocAttr, hz0, List.map_replicate, List.length_replicate]; done) | (simp (disch := omega) only [go_sem, simprocAttr, hz0, List.map_replicate, List.length_replicate]; rfl)), fun i hi => ?_⟩
     all_goals dsimp only at hi ⊢
     all_goals try (exfalso; omega)
     all_goals try (simp (disch := omega) only [go_sem, simprocAttr, hz0, List.map_replicate, List.length_replicate, fid_lit, lit_fid]; done)
    ·intro u hu
     rcases Nat.lt_or_ge u E.length with hlu | hgu
     ·obtain ⟨p, hp⟩ := get_some hlu
      have hpi := hin2 p (List.mem_of_getElem? hp)
      obtain ⟨A0, hA0⟩ : ∃ A0 : Nat, p.2 = A0 := ⟨(p.2).toNat, by omega⟩
      repeat' first | refine pw_seq ?_ | refine pw_skip ?_ | refine pw_ret ?_ | refine pw_exit ?_ | refine pw_block ?_ | refine pw_region (fun _ => false) hmix ?_ | (refine wpG_split rfl rfl (fun hc => ?_) (fun hc => ?_) <;> try simp only [hcL, reduceCtorEq] at hc) | (refine pw_cond _ rfl rfl (fun hc => ?_) (fun hc => ?_) <;> (try simp only [hcL, reduceCtorEq] at hc) <;> try (exfalso; omega)) | simp (maxSteps := 1000000) (disch := omega) only [go_sem, simprocAttr, hp] | apply And.intro | omega | decide +kernel
      refine pw_loopF (κ := Nat) (fun (v : Nat) => v ≤ E.length) (fun (v : Nat) => [(7, .d (prsD E)), (8, .int 1), (9, .int 0), (10, .ref 901 1 0 (k + 1) (k + 1)), (12, .int u), (13, .int v)]) (fun (v : Nat) => [⟨1, 901, 1, k + 1, fun r => (rowI (accI (fun e => e.2) (fun e => e.1) E u p v) (k + 1) r).map D.int⟩]) (fun (v : Nat) => []) (fun (v : Nat) => E.length - v) 0 ?_ ?_ ?_
      ·exact Nat.zero_le _
      ·refine eF [] [] _ _ _ (by refine ⟨?_, ?_⟩ <;> (repeat' first | exact List.forall_mem_nil _ | refine List.forall_mem_cons.2 ⟨(by first | rfl | (simp (disch := omega) only [go_sem, simprocAttr, inL]; first | done | omega | (congr 1; done))), ?_⟩); done) ?_
       repeat' first | exact List.forall_mem_nil _ | refine List.forall_mem_cons.2 ⟨?_, ?_⟩
       all_goals refine ⟨_, (by first | rfl | (simp (disch := omega) only [go_sem, simprocAttr, accI_zero]; done) | (simp (disch := omega) only [go_sem, simprocAttr, accI_zero]; rfl)), fun i hi => ?_⟩
       all_goals dsimp only at hi ⊢
       all_goals try (exfalso; omega)
       all_goals try (simp (disch := omega) only [go_sem, simprocAttr, accI_zero, fid_lit, lit_fid]; done)
      ·intro v hv
       rcases Nat.lt_or_ge v E.length with hlv | hgv
       ·obtain ⟨q, hq⟩ := get_some hlv
        have hqi := hin2 q (List.mem_of_getElem? hq)
        obtain ⟨B0, hB0⟩ : ∃ B0 : Nat, q.2 = B0 := ⟨(q.2).toNat, by omega⟩
        by_cases c1 : p.2 = q.2
        ·have hm := accI_miss (own := (fun e => e.2)) (oth := (fun e => e.1)) (u := u) (p := p) hq (fun h => h.1 c1)
         repeat' first | refine pw_seq ?_ | refine pw_skip ?_ | refine pw_ret ?_ | refine pw_exit ?_ | refine pw_block ?_ | refine pw_region (fun _ => false) hmix ?_ | (refine wpG_split rfl rfl (fun hc => ?_) (fun hc => ?_) <;> try simp only [hcL, reduceCtorEq] at hc) | (refine pw_cond _ rfl rfl (fun hc => ?_) (fun hc => ?_) <;> (try simp only [hcL, reduceCtorEq] at hc) <;> try (exfalso; omega)) | simp (maxSteps := 1000000) (disch := omega) only [go_sem, simprocAttr, hp, hq, c1] | apply And.intro | omega | decide +kernel
         refine ⟨v + 1, ?_, eF [] [] _ _ _ (by refine ⟨?_, ?_⟩ <;> (repeat' first | exact List.forall_mem_nil _ | refine List.forall_mem_cons.2 ⟨(by first | rfl | (simp (disch := omega) only [go_sem, simprocAttr, inL]; first | done | omega | (congr 1; done))), ?_⟩); done) ?_, ?_⟩
         ·omega
         ·repeat' first | exact List.forall_mem_nil _ | refine List.forall_mem_cons.2 ⟨?_, ?_⟩
          all_goals refine ⟨_, (by first | rfl | (simp (disch := omega) only [go_sem, simprocAttr, hm]; done) | (simp (disch := omega) only [go_sem, simprocAttr, hm]; rfl)), fun i hi => ?_⟩
          all_goals dsimp only at hi ⊢
          all_goals try (exfalso; omega)
          all_goals try (simp (disch := omega) only [go_sem, simprocAttr, hm, fid_lit, lit_fid]; done)
         ·omega
        ·by_cases c2 : q.1 < p.1
         ·have hb := accI_bound (own := (fun e => e.2)) (oth := (fun e => e.1)) (u := u) (v := v) (p := p) hE A0 B0
          obtain ⟨x, hx⟩ : ∃ x, accI (fun e => e.2) (fun e => e.1) E u p v A0 B0 = x := ⟨_, rfl⟩
          rw [hx] at hb
          have hg : (rowI (accI (fun e => e.2) (fun e => e.1) E u p v) (k + 1) A0)[B0]? = some x := by rw [rowI_get _ _ (by omega), hx]
          have hh := accI_hit (own := (fun e => e.2)) (oth := (fun e => e.1)) (u := u) (p := p) hq c1 c2 hA0 hB0
          have hst : (rowI (accI (fun e => e.2) (fun e => e.1) E u p v) (k + 1) A0).set B0 (x + 1) = rowI (accI (fun e => e.2) (fun e => e.1) E u p (v + 1)) (k + 1) A0 := rowI_set (by omega) fun B => by
           rw [hh]
           by_cases c : B = B0
           ·subst c; rw [if_pos ⟨rfl, rfl⟩, if_pos rfl, hx]
           ·rw [if_neg (fun h => c h.2), if_neg c]; omega
          have hot : ∀ r, r ≠ A0 → rowI (accI (fun e => e.2) (fun e => e.1) E u p (v + 1)) (k + 1) r = rowI (accI (fun e => e.2) (fun e => e.1) E u p v) (k + 1) r := fun r hr => rowI_congr _ _ fun B => by rw [hh, if_neg (fun h => hr h.1)]; omega
          have hfl : (rowI (accI (fun e => e.2) (fun e => e.1) E u p v) (k + 1) A0).length = k + 1 := rowI_len _ _ _
          rw [hA0, hB0] at c1
          have cA : A0 < k + 1 := by omega
          have cB : B0 < k + 1 := by omega
          refine pw_ent _ (ent_bor _ _ [901] 901 A0 900 1 1 (k + 1) (by first | rfl | (simp (disch := omega) only [go_sem, simprocAttr]; done) | (simp (disch := omega) only [go_sem, simprocAttr]; rfl)) (by first | (simp (disch := omega) only [go_sem, simprocAttr]; done) | (simp (disch := omega) only [go_sem, simprocAttr]; rfl)) (by first | (simp (disch := omega) only [go_sem, simprocAttr]; done) | (simp (disch := omega) only [go_sem, simprocAttr]; rfl)) (fun i hi hne => by simp (disch := omega) only [go_sem, simprocAttr, hne]; (repeat' split) <;> exact .ref _ _ _ _ _ ⟨by simp (disch := omega) only [go_sem, simprocAttr, hne], by simp (disch := omega) only [go_sem, simprocAttr, hne]⟩) (by (repeat' first | refine ab_nil ?_ | exact ab_obOf (ids := [901]) rfl rfl (Nat.le_of_ble_eq_true rfl) | refine ab_hole ?_ | refine ab_row ?_ | refine ab_dead ?_ | refine ab_self ?_ | refine ab_self_fam ?_ | refine ab_fam (by dsimp only; omega) (by dsimp only; omega) (by omega) (by omega) (Nat.le_of_ble_eq_true rfl) ?_); done) rfl rfl rfl) ?_
          repeat' first | refine pw_seq ?_ | refine pw_skip ?_ | refine pw_ret ?_ | refine pw_exit ?_ | refine pw_block ?_ | refine pw_region (fun _ => false) hmix ?_ | (refine wpG_split rfl rfl (fun hc => ?_) (fun hc => ?_) <;> try simp only [hcL, reduceCtorEq] at hc) | (refine pw_cond _ rfl rfl (fun hc => ?_) (fun hc => ?_) <;> (try simp only [hcL, reduceCtorEq] at hc) <;> try (exfalso; omega)) | simp (maxSteps := 1000000) (disch := omega) only [go_sem, simprocAttr, hp, hq, hA0, hB0, c1, c2, hg, hfl] | apply And.intro | omega | decide +kernel
          refine ⟨v + 1, ?_, eF [(fid 1 A0, 900)] [] _ _ _ (by refine ⟨?_, ?_⟩ <;> (repeat' first | exact List.forall_mem_nil _ | refine List.forall_mem_cons.2 ⟨(by first | rfl | (simp (disch := omega) only [go_sem, simprocAttr, inL]; first | done | omega | (congr 1; done))), ?_⟩); done) ?_, ?_⟩
          ·omega
          ·repeat' first | exact List.forall_mem_nil _ | refine List.forall_mem_cons.2 ⟨?_, ?_⟩
           all_goals refine ⟨_, (by first | rfl | (simp (disch := omega) only [go_sem, simprocAttr, hst.symm, List.map_set, List.length_set, List.length_map, hfl, hot]; done) | (simp (disch := omega) only [go_sem, simprocAttr, hst.symm, List.map_set, List.length_set, List.length_map, hfl, hot]; rfl)), fun i hi => ?_⟩
           all_goals dsimp only at hi ⊢
           all_goals rcases Decidable.em (i = A0) with rfl | hi0
           all_goals try (exfalso; omega)
           all_goals try (simp (disch := omega) only [go_sem, simprocAttr, hst.symm, List.map_set, List.length_set, List.length_map, hfl, hot, fid_lit, lit_fid]; done)
           all_goals try (simp (disch := omega) only [go_sem, simprocAttr, hst.symm, List.map_set, List.length_set, List.length_map, hfl, hot, hi0, fid_lit, lit_fid]; done)
          ·omega
         ·have hm := accI_miss (own := (fun e => e.2)) (oth := (fun e => e.1)) (u := u) (p := p) hq (fun h => c2 h.2)
          repeat' first | refine pw_seq ?_ | refine pw_skip ?_ | refine pw_ret ?_ | refine pw_exit ?_ | refine pw_block ?_ | refine pw_region (fun _ => false) hmix ?_ | (refine wpG_split rfl rfl (fun hc => ?_) (fun hc => ?_) <;> try simp only [hcL, reduceCtorEq] at hc) | (refine pw_cond _ rfl rfl (fun hc => ?_) (fun hc => ?_) <;> (try simp only [hcL, reduceCtorEq] at hc) <;> try (exfalso; omega)) | simp (maxSteps := 1000000) (disch := omega) only [go_sem, simprocAttr, hp, hq, c1, c2] | apply And.intro | omega | decide +kernel
          refine ⟨v + 1, ?_, eF [] [] _ _ _ (by refine ⟨?_, ?_⟩ <;> (repeat' first | exact List.forall_mem_nil _ | refine List.forall_mem_cons.2 ⟨(by first | rfl | (simp (disch := omega) only [go_sem, simprocAttr, inL]; first | done | omega | (congr 1; done))), ?_⟩); done) ?_, ?_⟩
          ·omega
          ·repeat' first | exact List.forall_mem_nil _ | refine List.forall_mem_cons.2 ⟨?_, ?_⟩
           all_goals refine ⟨_, (by first | rfl | (simp (disch := omega) only [go_sem, simprocAttr, hm]; done) | (simp (disch := omega) only [go_sem, simprocAttr, hm]; rfl)), fun i hi => ?_⟩
           all_goals dsimp only at hi ⊢
           all_goals try (exfalso; omega)
           all_goals try (simp (disch := omega) only [go_sem, simprocAttr, hm, fid_lit, lit_fid]; done)
          ·omega
       ·have : v = E.length := by omega
        subst this
        have e1 := accO_succ (own := (fun e => e.2)) (oth := (fun e => e.1)) hp
        try dsimp only
        repeat' first | refine pw_seq ?_ | refine pw_skip ?_ | refine pw_ret ?_ | refine pw_exit ?_ | refine pw_block ?_ | refine pw_region (fun _ => false) hmix ?_ | (refine wpG_split rfl rfl (fun hc => ?_) (fun hc => ?_) <;> try simp only [hcL, reduceCtorEq] at hc) | (refine pw_cond _ rfl rfl (fun hc => ?_) (fun hc => ?_) <;> (try simp only [hcL, reduceCtorEq] at hc) <;> try (exfalso; omega)) | simp (maxSteps := 1000000) (disch := omega) only [go_sem, simprocAttr] | apply And.intro | omega | decide +kernel
        refine ⟨u + 1, ?_, eF [] [] _ _ _ (by refine ⟨?_, ?_⟩ <;> (repeat' first | exact List.forall_mem_nil _ | refine List.forall_mem_cons.2 ⟨(by first | rfl | (simp (disch := omega) only [go_sem, simprocAttr, inL]; first | done | omega | (congr 1; done))), ?_⟩); done) ?_, ?_⟩
        ·omega
        ·repeat' first | exact List.forall_mem_nil _ | refine List.forall_mem_cons.2 ⟨?_, ?_⟩
         all_goals refine ⟨_, (by first | rfl | (simp (disch := omega) only [go_sem, simprocAttr, e1]; done) | (simp (disch := omega) only [go_sem, simprocAttr, e1]; rfl)), fun i hi => ?_⟩
         all_goals dsimp only at hi ⊢
         all_goals try (exfalso; omega)
         all_goals try (simp (disch := omega) only [go_sem, simprocAttr, e1, fid_lit, lit_fid]; done)
        ·omega
     ·have : u = E.length := by omega
      subst this
      try dsimp only
      refine pw_ent _ (ent_famRow _ _ _ _ ⟨nodup_of rfl, nodup_of rfl, (by (repeat' first | exact List.forall_mem_nil _ | refine List.forall_mem_cons.2 ⟨⟨Nat.le_of_ble_eq_true rfl, Nat.le_of_ble_eq_true rfl, by dsimp only; omega⟩, ?_⟩); done)⟩ rfl [901] rfl rfl rfl rfl) ?_
      repeat' first | refine pw_seq ?_ | refine pw_skip ?_ | refine pw_ret ?_ | refine pw_exit ?_ | refine pw_block ?_ | refine pw_region (fun _ => false) hmix ?_ | (refine wpG_split rfl rfl (fun hc => ?_) (fun hc => ?_) <;> try simp only [hcL, reduceCtorEq] at hc) | (refine pw_cond _ rfl rfl (fun hc => ?_) (fun hc => ?_) <;> (try simp only [hcL, reduceCtorEq] at hc) <;> try (exfalso; omega)) | simp (maxSteps := 1000000) (disch := omega) only [go_sem, simprocAttr] | apply And.intro | omega | decide +kernel
      refine ret_ref (o := 901) rfl rfl (by simp) ?_
      rw [List.take_of_length_le (by simp), tabI, List.map_map, ← List.range_succ]
      exact List.map_congr_left fun r hr => rfl
end Go.Proofs.YtldbcbclhpcofaaGreat
namespace Go.Proofs.YtldbcbclhpcofaaGreat
open Go Go.PS Go.Proofs
set_option maxRecDepth 100000
attribute [local irreducible] wpRun wpG CallsTo CallsM

theorem Near.tabD {a : Lv} {i : Nat} {y z : List Int} (h : Near a i y z) : MatrixF a i ((i : Int) + 1) = tabI (accO (fun e => e.1) (fun e => e.2) (pairsF y z a.2.2.1) (pairsF y z a.2.2.1).length) y.length := by
 have hl : (endsF a.2.1 a.2.2.1 i ((i : Int) + 1) y.length).length = y.length := by simp [endsF]
 rw [h.matD, matF, hl, tabI]
 refine List.map_congr_left fun u hu => ?_
 rw [rowI]
 refine List.map_congr_left fun v hv => ?_
 have hu := List.mem_range.1 hu
 have hv := List.mem_range.1 hv
 rw [← cellAt_mat (by omega) (by omega), ← h.matD, h.cellD hu hv, accO, List.take_length]
 split
 ·rename_i c
  rw [← W_zero (pairsF y z a.2.2.1) (pairsF y z a.2.2.1)]
  exact W_congr fun x _ w _ => (ind_zero fun h => h.2.2.1 (by omega)).symm
 ·rename_i c
  exact W_congr fun x _ w _ => ind_congr ⟨fun h => ⟨h.1, h.2.1, fun h2 => c (Int.ofNat_inj.1 (h.1.symm.trans ((show x.1 = w.1 from h2).trans h.2.1))), h.2.2⟩, fun h => ⟨h.1, h.2.1, h.2.2.2⟩⟩
theorem Near.tabU {a : Lv} {i : Nat} {y z : List Int} (h : Near a i y z) : MatrixF a ((i : Int) + 1) i = tabI (accO (fun e => e.2) (fun e => e.1) (pairsF y z a.2.2.1) (pairsF y z a.2.2.1).length) z.length := by
 have hl : (endsF a.2.1 a.2.2.1 ((i + 1 : Nat) : Int) i z.length).length = z.length := by simp [endsF]
 rw [h.matU, matF, hl, tabI]
 refine List.map_congr_left fun u hu => ?_
 rw [rowI]
 refine List.map_congr_left fun v hv => ?_
 have hu := List.mem_range.1 hu
 have hv := List.mem_range.1 hv
 rw [← cellAt_mat (by omega) (by omega), ← h.matU, h.cellU hu hv, accO, List.take_length]
 split
 ·rename_i c
  rw [← W_zero (pairsF y z a.2.2.1) (pairsF y z a.2.2.1)]
  exact W_congr fun x _ w _ => (ind_zero fun h => h.2.2.1 (by omega)).symm
 ·rename_i c
  exact W_congr fun x _ w _ => ind_congr ⟨fun h => ⟨h.1, h.2.1, fun h2 => c (Int.ofNat_inj.1 (h.1.symm.trans ((show x.2 = w.2 from h2).trans h.2.1))), h.2.2⟩, fun h => ⟨h.1, h.2.1, h.2.2.2⟩⟩
theorem rMat_no (a : Lv) (i f : Int) (hw : wide a) (hm : matOk a i f = false) : CallsTo Tryz.prog 30 [lvD a, .int i, .int f] (listsD []) := by
 have h1 := rLvValid_spec a hw
 rw [← valid_same] at h1
 rw [matOk] at hm
 rcases c1 : validF a with _ | _ <;> rw [c1] at h1 hm
 ·refine callsTo_of Tryz.func30 rfl (by decide +kernel) (Nat.le_of_ble_eq_true rfl) ?_
  intro hat B X w0
  repeat' first | refine pw_seq ?_ | refine pw_skip ?_ | refine pw_ret ?_ | refine pw_exit ?_ | refine pw_block ?_ | refine pw_region (fun _ => false) hmix ?_ | (refine rc (h1) rfl ?_ ?_; (· first | rfl | (simp (disch := omega) only [go_sem, simprocAttr, List.append_eq]; done))) | (refine wpG_split rfl rfl (fun hc => ?_) (fun hc => ?_) <;> try simp only [hcL, reduceCtorEq] at hc) | (refine pw_cond _ rfl rfl (fun hc => ?_) (fun hc => ?_) <;> (try simp only [hcL, reduceCtorEq] at hc) <;> try (exfalso; omega)) | simp (maxSteps := 1000000) (disch := omega) only [go_sem, simprocAttr, List.append_eq] | apply And.intro | omega | decide +kernel
  exact sl_some rfl
 ·simp only [Bool.true_and, Bool.and_eq_false_iff, decide_eq_false_iff_not] at hm
  obtain ⟨t1, t2⟩ := lv_le c1
  obtain ⟨n, ls, ar, cs⟩ := a
  dsimp only at hm t1
  have hm2 : i < 0 ∨ ls.length ≤ i ∨ f < 0 ∨ ls.length ≤ f ∨ (¬ f = i - 1 ∧ ¬ f = i + 1) := by omega
  refine callsTo_of Tryz.func30 rfl (by decide +kernel) (Nat.le_of_ble_eq_true rfl) ?_
  intro hat B X w0
  have hl := at_len2 0 1 hat rfl rfl
  rw [List.length_map] at hl
  dsimp only at hl
  repeat' first | refine pw_seq ?_ | refine pw_skip ?_ | refine pw_ret ?_ | refine pw_exit ?_ | refine pw_block ?_ | refine pw_region (fun _ => false) hmix ?_ | (refine rc (h1) rfl ?_ ?_; (· first | rfl | (simp (disch := omega) only [go_sem, simprocAttr, List.append_eq]; done))) | (refine wpG_split rfl rfl (fun hc => ?_) (fun hc => ?_) <;> try simp only [hcL, reduceCtorEq] at hc) | (refine pw_cond _ rfl rfl (fun hc => ?_) (fun hc => ?_) <;> (try simp only [hcL, reduceCtorEq] at hc) <;> try (exfalso; omega)) | simp (maxSteps := 1000000) (disch := omega) only [go_sem, simprocAttr, List.append_eq] | apply And.intro | omega | decide +kernel
  all_goals exact sl_some rfl
theorem rMatrix_spec (a : Lv) (i f : Int) (hw : wide a) : CallsTo Tryz.prog 30 [lvD a, .int i, .int f] (listsD (MatrixF a i f)) := by
 rcases h : matOk a i f with _ | _
 ·rw [MatrixF, h, if_neg (by decide)]
  exact rMat_no a i f hw h
 ·simp only [matOk, Bool.and_eq_true, decide_eq_true_eq] at h
  obtain ⟨⟨⟨h1, h2⟩, h3⟩, h4⟩ := h
  rcases h4 with h4 | h4
  ·obtain ⟨k, rfl⟩ : ∃ n : Nat, f = n := ⟨f.toNat, by omega⟩
   obtain rfl : i = (k : Int) + 1 := by omega
   obtain ⟨y, z, hn⟩ := near_of h1 (i := k) (by omega)
   rw [hn.tabU]
   exact rMat_up a k y z hn hw
  ·obtain ⟨k, rfl⟩ : ∃ n : Nat, i = n := ⟨i.toNat, by omega⟩
   subst h4
   obtain ⟨y, z, hn⟩ := near_of h1 (i := k) (by omega)
   rw [hn.tabD]
   exact rMat_dn a k y z hn hw
end Go.Proofs.YtldbcbclhpcofaaGreat
namespace Go.Proofs.YtldbcbclhpcofaaGreat
open Go Go.PS Go.Proofs
open Go.Bd (sumC sumC_add sumC_zero sumC_hit)

theorem sumC_congr {c d : Nat → Nat → Int} : ∀ {l : List Nat}, l.Nodup → (∀ u, u ∈ l → ∀ v, v ∈ l → u ≠ v → c u v = d u v) → sumC c l = sumC d l
 | [], _, _ => rfl
 | u :: l, hn, h => by
  obtain ⟨h1, h2⟩ := List.nodup_cons.1 hn
  have e : l.map (c u) = l.map (d u) := List.map_congr_left fun v hv => h u (by simp) v (List.mem_cons_of_mem _ hv) fun he => h1 (he ▸ hv)
  rw [sumC, sumC, e, sumC_congr h2 fun u hu v hv => h u (List.mem_cons_of_mem _ hu) v (List.mem_cons_of_mem _ hv)]
theorem sumC_w1 (f : Nat → Nat → Pr → Int) (l : List Nat) : ∀ F : List Pr, sumC (fun u v => w1 (f u v) F) l = w1 (fun y => sumC (fun u v => f u v y) l) F
 | [] => by simp only [w1]; exact sumC_zero l
 | y :: F => by simp only [w1]; rw [sumC_add, sumC_w1 f l F]
theorem sumC_W (f : Nat → Nat → Pr → Pr → Int) (l : List Nat) (F : List Pr) : ∀ E : List Pr, sumC (fun u v => W (f u v) F E) l = W (fun x y => sumC (fun u v => f u v x y) l) F E
 | [] => by simp only [W]; exact sumC_zero l
 | x :: E => by simp only [W]; rw [sumC_add, sumC_w1, sumC_W f l F E]
theorem sumC_tab {own oth : Pr → Int} {P : List Pr} {o : List Nat} {c : Nat → Nat → Int} (hn : o.Nodup) (hin : ∀ e, e ∈ P → 0 ≤ own e ∧ (own e).toNat ∈ o)
  (hc : ∀ u, u ∈ o → ∀ v, v ∈ o → u ≠ v → c u v = W (fun x w => ind (own x = (u : Int) ∧ own w = (v : Int) ∧ oth w < oth x)) P P) :
  sumC c o = W (fun x w => ind (o.idxOf (own x).toNat < o.idxOf (own w).toNat ∧ oth w < oth x)) P P := by
 rw [sumC_congr hn hc, sumC_W]
 refine W_congr fun x hx w hw => ?_
 obtain ⟨x1, x2⟩ := hin x hx
 obtain ⟨y1, y2⟩ := hin w hw
 have e : ∀ u v : Nat, ind (own x = (u : Int) ∧ own w = (v : Int) ∧ oth w < oth x) = if u = (own x).toNat ∧ v = (own w).toNat then ind (oth w < oth x) else 0 := fun u v => by
  by_cases h : u = (own x).toNat ∧ v = (own w).toNat
  ·rw [if_pos h]
   exact ind_congr ⟨fun h2 => h2.2.2, fun h2 => ⟨by omega, by omega, h2⟩⟩
  ·rw [if_neg h]
   exact ind_zero fun h2 => h (by omega)
 have e2 : (fun u v : Nat => ind (own x = (u : Int) ∧ own w = (v : Int) ∧ oth w < oth x)) = fun u v => if u = (own x).toNat ∧ v = (own w).toNat then ind (oth w < oth x) else 0 := funext fun u => funext fun v => e u v
 rw [e2, sumC_hit _ _ _ o hn x2 y2]
 by_cases h : o.idxOf (own x).toNat < o.idxOf (own w).toNat
 ·rw [if_pos h]
  exact ind_congr ⟨fun h2 => ⟨h, h2⟩, fun h2 => h2.2⟩
 ·rw [if_neg h]
  exact (ind_zero fun h2 => h h2.1).symm
end Go.Proofs.YtldbcbclhpcofaaGreat
namespace Go.Proofs.YtldbcbclhpcofaaGreat
open Go Go.PS Go.Proofs
open Go.Bd (sumC Part full)

def permL (y : List Int) (o : List Nat) : List Int := o.map fun k => (y[k]?).getD 0
theorem permL_len (y : List Int) (o : List Nat) : (permL y o).length = o.length := by simp [permL]
theorem permL_at {y : List Int} {o : List Nat} {p : Nat} {v : Int} (hp : p ∈ o) (h : y[p]? = some v) : (permL y o)[o.idxOf p]? = some v := by
 have hl := List.idxOf_lt_length_iff.2 hp
 have hg : o[o.idxOf p]? = some p := by
  rw [List.getElem?_eq_getElem hl, List.getElem_idxOf]
 rw [permL, List.getElem?_map, hg, Option.map_some, h]; rfl
theorem permL_mem {y : List Int} {o : List Nat} (h : Part y.length 0 o) {v : Int} : v ∈ permL y o ↔ v ∈ y := by
 constructor
 ·intro hv
  obtain ⟨k, hk, rfl⟩ := List.mem_map.1 hv
  have := h.lt k hk
  rw [List.getElem?_eq_getElem this]
  exact List.getElem_mem this
 ·intro hv
  obtain ⟨p, hp⟩ := List.getElem?_of_mem hv
  have hlt := (List.getElem?_eq_some_iff.1 hp).1
  have := permL_at (full y.length h.nd h.lt (by have := h.len; omega) p hlt) hp
  exact List.mem_of_getElem? this
theorem permL_nodup {y : List Int} {o : List Nat} (hy : y.Nodup) (h : Part y.length 0 o) : (permL y o).Nodup := by
 refine List.pairwise_map.2 (h.nd.imp_of_mem fun {a b} ha hb hne he => hne ?_)
 have h1 := h.lt a ha
 have h2 := h.lt b hb
 rw [List.getElem?_eq_getElem h1, List.getElem?_eq_getElem h2] at he
 exact (List.getElem_inj hy).1 he
theorem permL_place {y : List Int} {o : List Nat} (hy : y.Nodup) (h : Part y.length 0 o) (v : Int) : placeF (permL y o) v = if 0 ≤ placeF y v then ((o.idxOf (placeF y v).toNat : Nat) : Int) else -1 := by
 by_cases hv : v ∈ y
 ·obtain ⟨p, hp⟩ := List.getElem?_of_mem hv
  have hlt := (List.getElem?_eq_some_iff.1 hp).1
  rw [placeF_at (permL_nodup hy h) (permL_at (full y.length h.nd h.lt (by have := h.len; omega) p hlt) hp), placeF_at hy hp, if_pos (by omega), Int.toNat_natCast]
 ·rw [placeF_no (fun h2 => hv ((permL_mem h).1 h2)), placeF_no hv, if_neg (by omega)]
theorem pairs_perm_up {y z : List Int} {o : List Nat} (hy : y.Nodup) (h : Part y.length 0 o) (ar : List Arc) : pairsF (permL y o) z ar = (pairsF y z ar).map fun e => (((o.idxOf e.1.toNat : Nat) : Int), e.2) := by
 rw [pairsF, pairsF, List.map_flatMap]
 congr 1
 funext x
 rw [pairOf, pairOf, permL_place hy h]
 by_cases c : 0 ≤ placeF y x.1
 ·rw [if_pos c]
  by_cases c2 : 0 ≤ placeF z x.2
  ·rw [if_pos ⟨by omega, c2⟩, if_pos ⟨c, c2⟩]; rfl
  ·rw [if_neg (fun h => c2 h.2), if_neg (fun h => c2 h.2)]; rfl
 ·rw [if_neg c, if_neg (fun h => by omega), if_neg (fun h => c h.1)]; rfl
theorem pairs_perm_dn {y z : List Int} {o : List Nat} (hz : z.Nodup) (h : Part z.length 0 o) (ar : List Arc) : pairsF y (permL z o) ar = (pairsF y z ar).map fun e => (e.1, ((o.idxOf e.2.toNat : Nat) : Int)) := by
 rw [pairsF, pairsF, List.map_flatMap]
 congr 1
 funext x
 rw [pairOf, pairOf, permL_place hz h]
 by_cases c : 0 ≤ placeF y x.1
 ·by_cases c2 : 0 ≤ placeF z x.2
  ·rw [if_pos c2, if_pos ⟨c, by omega⟩, if_pos ⟨c, c2⟩]; rfl
  ·rw [if_neg c2, if_neg (fun h => by omega), if_neg (fun h => c2 h.2)]; rfl
 ·rw [if_neg (fun h => c h.1), if_neg (fun h => c h.1)]; rfl
theorem Near.perm_up {a a' : Lv} {i : Nat} {y z : List Int} {o : List Nat} (h : Near a i y z) (h' : Near a' i (permL y o) z) (har : a'.2.2.1 = a.2.2.1) (ho : Part y.length 0 o) :
  BetweenF a' i = sumC (fun u v => cellAt (MatrixF a i ((i : Int) + 1)) u v) o := by
 have hy : y.Nodup := (List.pairwise_flatten.1 (valid_nodup h.ok)).1 y (List.mem_of_getElem? h.hy)
 have hin := h.ins
 rw [h'.between, Near.cr, har, pairs_perm_up hy ho, W_map]
 rw [sumC_tab (own := fun e => e.1) (oth := fun e => e.2) (P := pairsF y z a.2.2.1) ho.nd (fun e he => ⟨(hin e he).1, full y.length ho.nd ho.lt (by have := ho.len; omega) _ (by have := hin e he; omega)⟩)
  (fun u hu v hv hne => by rw [h.cellD (ho.lt u hu) (ho.lt v hv), if_neg hne])]
 exact W_congr fun x _ w _ => ind_congr ⟨fun h2 => ⟨by have := h2.1; dsimp only at this; omega, h2.2⟩, fun h2 => ⟨by have := h2.1; dsimp only; omega, h2.2⟩⟩
theorem Near.perm_dn {a a' : Lv} {i : Nat} {y z : List Int} {o : List Nat} (h : Near a i y z) (h' : Near a' i y (permL z o)) (har : a'.2.2.1 = a.2.2.1) (ho : Part z.length 0 o) :
  BetweenF a' i = sumC (fun u v => cellAt (MatrixF a ((i : Int) + 1) i) u v) o := by
 have hz : z.Nodup := (List.pairwise_flatten.1 (valid_nodup h.ok)).1 z (List.mem_of_getElem? h.hz)
 have hin := h.ins
 rw [h'.between, Near.cr, har, pairs_perm_dn hz ho, W_map, W_swap]
 rw [sumC_tab (own := fun e => e.2) (oth := fun e => e.1) (P := pairsF y z a.2.2.1) ho.nd (fun e he => ⟨(hin e he).2.2.1, full z.length ho.nd ho.lt (by have := ho.len; omega) _ (by have := hin e he; omega)⟩)
  (fun u hu v hv hne => by rw [h.cellU (ho.lt u hu) (ho.lt v hv), if_neg hne])]
 exact W_congr fun x _ w _ => ind_congr ⟨fun h2 => ⟨by have := h2.2; dsimp only at this; omega, h2.1⟩, fun h2 => ⟨h2.2, by have := h2.1; dsimp only; omega⟩⟩
end Go.Proofs.YtldbcbclhpcofaaGreat
namespace Go.Proofs.YtldbcbclhpcofaaGreat
open Go Go.PS Go.Proofs
open Go.Bd (sumC sumC_add sumC_zero Part full)

def putL (a : Lv) (i : Nat) (y : List Int) : Lv := (a.1, a.2.1.set i y, a.2.2.1, a.2.2.2)
theorem range_part (n : Nat) : Part n 0 (List.range n) := ⟨List.nodup_range, fun v hv => List.mem_range.1 hv, by simp⟩
theorem permL_range (y : List Int) : permL y (List.range y.length) = y := by
 refine List.ext_getElem? fun k => ?_
 rw [permL, List.getElem?_map]
 by_cases h : k < y.length
 ·rw [List.getElem?_range h, Option.map_some, List.getElem?_eq_getElem h]; rfl
 ·rw [List.getElem?_eq_none (by simpa using h), List.getElem?_eq_none (by omega)]; rfl
def bothC (a : Lv) (i : Nat) (u v : Nat) : Int := cellAt (MatrixF a i ((i : Int) - 1)) u v + cellAt (MatrixF a i ((i : Int) + 1)) u v
theorem sumZ_two {f g : Nat → Int} (i : Nat) (h : ∀ j, j ≠ i → j + 1 ≠ i → f j = g j) : ∀ n, sumZ f n = sumZ g n + (if i < n then f i - g i else 0) + (if 0 < i ∧ i ≤ n then f (i - 1) - g (i - 1) else 0)
 | 0 => by simp only [sumZ]; rw [if_neg (by omega), if_neg (by omega)]; rfl
 | n + 1 => by
  rw [sumZ, sumZ, sumZ_two i h n]
  by_cases c1 : n = i
  ·subst c1
   (repeat' split) <;> omega
  ·by_cases c2 : n + 1 = i
   ·subst c2
    simp only [Nat.add_sub_cancel]
    (repeat' split) <;> omega
   ·rw [h n c1 c2]
    (repeat' split) <;> omega
theorem between_out {a : Lv} {j : Nat} (h : ¬ j + 1 < a.2.1.length) : BetweenF a j = 0 := by
 rw [BetweenF, if_pos (by simp only [noPair, decide_eq_true_eq]; omega)]
theorem put_total {a : Lv} {i : Nat} {y : List Int} {o : List Nat} (hv : validF a = true) (hv' : validF (putL a i (permL y o)) = true) (hy : a.2.1[i]? = some y) (ho : Part y.length 0 o) :
  TotalF (putL a i (permL y o)) - TotalF a = sumC (bothC a i) o - sumC (bothC a i) (List.range y.length) := by
 have hil := (List.getElem?_eq_some_iff.1 hy).1
 have hlen : (putL a i (permL y o)).2.1.length = a.2.1.length := List.length_set
 have hget : ∀ j, j ≠ i → (putL a i (permL y o)).2.1[j]? = a.2.1[j]? := fun j hj => List.getElem?_set_ne (Ne.symm hj)
 have hget2 : (putL a i (permL y o)).2.1[i]? = some (permL y o) := List.getElem?_set_self hil
 have hrp := range_part y.length
 have hpr := permL_range y
 -- elsewhere nothing changes
 have he : ∀ j : Nat, j ≠ i → j + 1 ≠ i → BetweenF (putL a i (permL y o)) j = BetweenF a j := fun j h1 h2 => by
  by_cases c : j + 1 < a.2.1.length
  ·obtain ⟨p, q, hn⟩ := near_of hv c
   have hn' : Near (putL a i (permL y o)) j p q := ⟨hv', (hget j h1).trans hn.hy, (hget (j + 1) h2).trans hn.hz⟩
   rw [hn.between, hn'.between]; rfl
  ·rw [between_out c, between_out (by rw [hlen]; exact c)]
 have hup : BetweenF (putL a i (permL y o)) i - BetweenF a i = sumC (cellAt (MatrixF a i ((i : Int) + 1))) o - sumC (cellAt (MatrixF a i ((i : Int) + 1))) (List.range y.length) := by
  by_cases c : i + 1 < a.2.1.length
  ·obtain ⟨p, z, hn⟩ := near_of hv c
   obtain rfl : p = y := by have := hn.hy; rw [hy] at this; cases this; rfl
   have hn' : Near (putL a i (permL p o)) i (permL p o) z := ⟨hv', hget2, (hget (i + 1) (by omega)).trans hn.hz⟩
   have hn0 : Near a i (permL p (List.range p.length)) z := by rw [hpr]; exact hn
   rw [hn.perm_up hn' rfl ho, hn.perm_up hn0 rfl hrp]
  ·have hm : MatrixF a i ((i : Int) + 1) = [] := by
    rw [MatrixF, if_neg]
    intro hh
    simp only [matOk, Bool.and_eq_true, decide_eq_true_eq] at hh
    omega
   have hz : cellAt (MatrixF a i ((i : Int) + 1)) = fun _ _ => 0 := by funext u v; rw [hm]; rfl
   rw [hz, sumC_zero, sumC_zero, between_out c, between_out (by rw [hlen]; exact c)]
 have hdn : (if 0 < i ∧ i ≤ a.2.1.length then BetweenF (putL a i (permL y o)) ((i - 1 : Nat) : Int) - BetweenF a ((i - 1 : Nat) : Int) else 0) =
   sumC (cellAt (MatrixF a i ((i : Int) - 1))) o - sumC (cellAt (MatrixF a i ((i : Int) - 1))) (List.range y.length) := by
  by_cases c : 0 < i
  ·obtain ⟨k, rfl⟩ : ∃ k, i = k + 1 := ⟨i - 1, by omega⟩
   rw [if_pos ⟨c, by omega⟩, Nat.add_sub_cancel, show ((k + 1 : Nat) : Int) - 1 = (k : Int) by omega, show ((k + 1 : Nat) : Int) = (k : Int) + 1 by omega]
   obtain ⟨x, p, hn⟩ := near_of hv (i := k) (by omega)
   obtain rfl : p = y := by have := hn.hz; rw [hy] at this; cases this; rfl
   have hn' : Near (putL a (k + 1) (permL p o)) k x (permL p o) := ⟨hv', (hget k (by omega)).trans hn.hy, hget2⟩
   have hn0 : Near a k x (permL p (List.range p.length)) := by rw [hpr]; exact hn
   rw [hn.perm_dn hn' rfl ho, hn.perm_dn hn0 rfl hrp]
  ·obtain rfl : i = 0 := by omega
   have hm : MatrixF a ((0 : Nat) : Int) (((0 : Nat) : Int) - 1) = [] := by
    rw [MatrixF, if_neg]
    intro hh
    simp only [matOk, Bool.and_eq_true, decide_eq_true_eq] at hh
    omega
   have hz : cellAt (MatrixF a ((0 : Nat) : Int) (((0 : Nat) : Int) - 1)) = fun _ _ => 0 := by funext u v; rw [hm]; rfl
   rw [hz, sumC_zero, sumC_zero, if_neg (by omega)]; rfl
 have hb : bothC a i = fun u v => cellAt (MatrixF a i ((i : Int) - 1)) u v + cellAt (MatrixF a i ((i : Int) + 1)) u v := rfl
 rw [TotalF, TotalF, hlen, sumZ_two i he a.2.1.length, if_pos hil, hdn, hup, hb, sumC_add, sumC_add]
 omega
end Go.Proofs.YtldbcbclhpcofaaGreat
