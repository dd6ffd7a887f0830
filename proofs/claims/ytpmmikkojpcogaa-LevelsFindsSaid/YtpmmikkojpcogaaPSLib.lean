/- Plain laws for loops over lists, and small steps of walks. -/
import Derived.Test.YtpmmikkojpcogaaPSFam
namespace Go.PS
open Go

theorem get_some {α : Type} {l : List α} {k : Nat} (h : k < l.length) : ∃ x, l[k]? = some x := ⟨_, List.getElem?_eq_getElem h⟩
theorem bool_some {a b : Bool} (h : a = b) : some (D.sc (.bool a)) = some (D.bool b) := by rw [h]
theorem int_some {a b : Int} (h : a = b) : some (D.sc (.int .i64 a)) = some (D.int b) := by rw [h]
theorem int_pv {a b : Int} (h : a = b) : PV.d (.sc (.int .i64 a)) = PV.d (.sc (.int .i64 b)) := by rw [h]
theorem bool_pv {a b : Bool} (h : a = b) : PV.d (.sc (.bool a)) = PV.d (.sc (.bool b)) := by rw [h]
theorem sl_some {a b : List D} (h : a = b) : some (D.sl a) = some (D.sl b) := by rw [h]
theorem row_ob {sz : Nat} {a b : List D} (h : a = b) : Ob.row sz a = Ob.row sz b := by rw [h]

/-- Lists that lie in memory are not too long. -/
theorem at_len {ds : List D} {l : List D} (i : Nat) (h : ∃ w X vs, AtAll w X ds vs) (hi : ds[i]? = some (.sl l)) : l.length ≤ 9223372036854775807 := by
  obtain ⟨w, X, vs, h1, h2⟩ := h
  have hlt : i < vs.size := by have := (List.getElem?_eq_some_iff.1 hi).1; omega
  have := h2 i _ _ hi (Array.getElem?_eq_getElem hlt)
  generalize vs[i] = v at this
  cases this with
  | slnil => simp
  | sl _ b off cap sz hl hc => simp only [maxLen] at hc; omega
/-- The same, of a list that is a part of an argument. -/
theorem at_len2 {ds cs : List D} {l : List D} (i j : Nat) (h : ∃ w X vs, AtAll w X ds vs) (hi : ds[i]? = some (.ag cs)) (hj : cs[j]? = some (.sl l)) : l.length ≤ 9223372036854775807 := by
  obtain ⟨w, X, vs, h1, h2⟩ := h
  have hlt : i < vs.size := by have := (List.getElem?_eq_some_iff.1 hi).1; omega
  have := h2 i _ _ hi (Array.getElem?_eq_getElem hlt)
  generalize vs[i] = v at this
  cases this with
  | ag _ arr hsz hone hat =>
    have hlt : j < arr.size := by have := (List.getElem?_eq_some_iff.1 hj).1; omega
    have := hat j _ _ hj (Array.getElem?_eq_getElem hlt)
    generalize arr[j] = v at this
    cases this with
    | slnil => simp
    | sl _ b off cap sz hl hc => simp only [maxLen] at hc; omega
/-- A list of the state's own as a result. -/
theorem ret_ref {S : St} {t o sz len cap : Nat} {l l' : List D} (h1 : S.env t = .ref o sz 0 len cap) (h2 : S.objs o = .row sz l') (h3 : len ≤ l'.length) (h4 : l'.take len = l) : toD S.objs 4 (S.env t) = some (.sl l) := by
  rw [h1]
  simp only [toD, h2, Nat.zero_add, true_and, if_pos h3, List.drop_zero, h4]

/-- All numbers below n. -/
def allN (p : Nat → Bool) : Nat → Bool
  | 0 => true
  | k + 1 => allN p k && p k
theorem allN_iff {p : Nat → Bool} {n : Nat} : allN p n = true ↔ ∀ k, k < n → p k = true := by
  induction n with
  | zero => simp [allN]
  | succ n ih =>
    simp only [allN, Bool.and_eq_true, ih]
    constructor
    · rintro ⟨h1, h2⟩ k hk
      rcases Nat.lt_succ_iff_lt_or_eq.1 hk with h | rfl
      · exact h1 k h
      · exact h2
    · intro h; exact ⟨fun k hk => h k (by omega), h n (by omega)⟩
theorem allN_false {p : Nat → Bool} {n k : Nat} (hk : k < n) (h : p k = false) : allN p n = false := by
  cases hq : allN p n with
  | false => rfl
  | true => rw [allN_iff.1 hq k hk] at h; cases h
theorem allN_succ {p : Nat → Bool} {k : Nat} (h1 : allN p k = true) (h2 : p k = true) : allN p (k + 1) = true := by simp [allN, h1, h2]

/-- Lists laid end to end. -/
def catN {α : Type} (f : Nat → List α) : Nat → List α
  | 0 => []
  | k + 1 => catN f k ++ f k

/-- The first number below n. -/
def firstN (p : Nat → Bool) : Nat → Option Nat
  | 0 => none
  | k + 1 => match firstN p k with | some i => some i | none => if p k then some k else none
theorem firstN_at {p : Nat → Bool} {n k : Nat} (hk : k < n) (h1 : firstN p k = none) (h2 : p k = true) : firstN p n = some k := by
  induction n with
  | zero => omega
  | succ n ih =>
    rcases Nat.lt_succ_iff_lt_or_eq.1 hk with h | rfl
    · simp [firstN, ih h]
    · simp [firstN, h1, h2]
theorem firstN_succ {p : Nat → Bool} {k : Nat} (h1 : firstN p k = none) (h2 : p k = false) : firstN p (k + 1) = none := by simp [firstN, h1, h2]

/-- The first code that is not 0. -/
def firstE (e : Nat → Int) : Nat → Int
  | 0 => 0
  | k + 1 => if firstE e k = 0 then e k else firstE e k
theorem firstE_at {e : Nat → Int} {n k : Nat} {c : Int} (hk : k < n) (h1 : firstE e k = 0) (h2 : e k = c) (hc : c ≠ 0) : firstE e n = c := by
  induction n with
  | zero => omega
  | succ n ih =>
    rcases Nat.lt_succ_iff_lt_or_eq.1 hk with h | rfl
    · simp [firstE, ih h, hc]
    · simp [firstE, h1, h2]
theorem firstE_succ {e : Nat → Int} {k : Nat} (h1 : firstE e k = 0) (h2 : e k = 0) : firstE e (k + 1) = 0 := by simp [firstE, h1, h2]
theorem any_no {α : Type} {q : α → Bool} {l : List α} (h : ∀ (j : Nat) y, j < l.length → l[j]? = some y → q y = false) : l.any q = false := by
  rw [Bool.eq_false_iff]
  intro hq
  obtain ⟨x, hx, hx2⟩ := List.any_eq_true.1 hq
  obtain ⟨k, hk⟩ := List.getElem?_of_mem hx
  rw [h k x (List.getElem?_eq_some_iff.1 hk).1 hk] at hx2; cases hx2
theorem any_at {α : Type} {q : α → Bool} {l : List α} {k : Nat} {x : α} (h : l[k]? = some x) (hq : q x = true) : l.any q = true := List.any_eq_true.2 ⟨x, List.mem_of_getElem? h, hq⟩
theorem take_ne {α : Type} {l m : List α} {k : Nat} {x y : α} (h1 : l[k]? = some x) (h2 : m[k]? = some y) (h : x ≠ y) : l ≠ m := by
  rintro rfl; rw [h1] at h2; cases h2; exact h rfl
theorem findIdx_at {α : Type} {q : α → Bool} : ∀ {l : List α} {k : Nat} {x : α}, l[k]? = some x → q x = true → (∀ j y, j < k → l[j]? = some y → q y = false) → l.findIdx? q = some k
  | [], k, x, h, _, _ => by simp at h
  | a :: l, 0, x, h, hq, _ => by simp at h; subst h; simp [List.findIdx?_cons, hq]
  | a :: l, k + 1, x, h, hq, hn => by
    have h0 : q a = false := hn 0 a (by omega) rfl
    have := findIdx_at (l := l) (k := k) (x := x) (by simpa using h) hq (fun j y hj hy => hn (j + 1) y (by omega) (by simpa using hy))
    simp [List.findIdx?_cons, h0, this]
theorem findIdx_no {α : Type} {q : α → Bool} : ∀ {l : List α}, (∀ (j : Nat) y, l[j]? = some y → q y = false) → l.findIdx? q = none
  | [], _ => rfl
  | a :: l, hn => by
    have h0 : q a = false := hn 0 a rfl
    have := findIdx_no (l := l) (fun j y hy => hn (j + 1) y (by simpa using hy))
    simp [List.findIdx?_cons, h0, this]
/-- An index, or -1. -/
def idxI : Option Nat → Int
  | some i => i
  | none => -1
theorem idx_any {α : Type} (q : α → Bool) (l : List α) : decide (0 ≤ idxI (l.findIdx? q)) = l.any q := by
  induction l with
  | nil => rfl
  | cons a l ih =>
    rw [List.findIdx?_cons, List.any_cons, ← ih]
    cases hq : q a with
    | true => simp [idxI]
    | false =>
      cases hf : l.findIdx? q with
      | none => simp [idxI]
      | some i => simp only [Bool.false_eq_true, if_false, Option.map_some, idxI, Bool.false_or]; congr 1; apply propext; omega
theorem upto_succ {α : Type} {l : List α} {P : α → Prop} {k : Nat} {x : α} (h : ∀ (j : Nat) y, j < k → l[j]? = some y → P y) (hx : l[k]? = some x) (hp : P x) : ∀ (j : Nat) y, j < k + 1 → l[j]? = some y → P y := by
  intro j y hj hy
  rcases Nat.lt_succ_iff_lt_or_eq.1 hj with h1 | h1
  · exact h j y h1 hy
  · rw [h1, hx] at hy; cases hy; exact hp
theorem take_snoc {α : Type} {l : List α} {k : Nat} {x : α} (h : l[k]? = some x) : l.take (k + 1) = l.take k ++ [x] := by
  rw [List.take_add_one, h]; rfl

theorem flat_ints (l : List Int) : ∀ d, d ∈ l.map D.int → ∀ c, c ∈ d.cells → c.flat 4 = true := by
  intro d hd c hc
  obtain ⟨p, _, rfl⟩ := List.mem_map.1 hd
  simp only [D.cells, List.mem_singleton] at hc
  subst hc; rfl
theorem cells_map {α : Type} (f : α → D) (n : Nat) (hf : ∀ a, (f a).cells.length = n) (l : List α) : ∀ d, d ∈ l.map f → d.cells.length = n := by
  intro d hd
  obtain ⟨p, _, rfl⟩ := List.mem_map.1 hd
  exact hf p
theorem flat_map {α : Type} (f : α → D) (hf : ∀ a, ((f a).cells.all (D.flat 4)) = true) (l : List α) : ∀ d, d ∈ l.map f → ∀ c, c ∈ d.cells → c.flat 4 = true := by
  intro d hd c hc
  obtain ⟨p, _, rfl⟩ := List.mem_map.1 hd
  have := hf p
  simp only [List.all_eq_true] at this
  exact this c hc
theorem take_map_len {α β : Type} (f : α → β) (l : List α) : (l.map f).take l.length = l.map f := by
  rw [← List.length_map (f := f)]; exact List.take_length
attribute [go_sem] argEnv envOf obOf argEnvM gOf Nat.beq_eq Bool.or_eq_true Nat.zero_add Nat.le_refl Nat.zero_mul Nat.add_zero wrap_in thenQ blockQ forall_eq forall_eq_or_imp
end Go.PS
