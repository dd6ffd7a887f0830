/- Lists of places, compared by their means; the order that stable sorting makes of them (no program in sight). -/
import Derived.Test.YtjjbhjnpeenbkaaGreatDoorPSMac
import Derived.Test.YtjjbhjnpeenbkaaGreatDoorPSFam
import Derived.Stop.Joined
import Derived.Lib.LaidTab
import Derived.Stop.LaidErr
set_option linter.unusedSimpArgs false
set_option linter.unusedVariables false
set_option maxHeartbeats 16000000
namespace Go.Stb

def ZiP (l : List Int) : Bool := decide (l.length ≤ 4096) && l.all fun x => decide (0 ≤ x ∧ x ≤ 1048576)
def ZaA (l : List Int) : Nat := if ZiP l then l.length else 0
def Zbe (l : List Int) : Int := if ZiP l then l.sum else 0
def sg (a b : Int) : Int := if a < b then -1 else if b < a then 1 else 0
def ZbT (a b : List Int) : Int :=
 if ZaA a = 0 ∨ ZaA b = 0 then sg (min (ZaA a) 1 : Nat) (min (ZaA b) 1 : Nat) else sg (Zbe a * ZaA b) (Zbe b * ZaA a)
theorem ZqZ (a b : Int) : sg a b = -sg b a := by
 unfold sg; split <;> split <;> omega
theorem ZlX (a b : List Int) : ZbT a b = -ZbT b a := by
 unfold ZbT;by_cases h : ZaA a = 0 ∨ ZaA b = 0
 ·rw [if_pos h, if_pos h.symm, ZqZ]
 ·rw [if_neg h, if_neg (fun c => h c.symm), ZqZ]
theorem ZwV {a b : Int} : sg a b < 0 ↔ a < b := by unfold sg; split <;> (try split) <;> omega
theorem ZlJ {a b : List Int} : ZbT a b < 0 ↔ (ZaA a = 0 ∧ 0 < ZaA b) ∨ (0 < ZaA a ∧ 0 < ZaA b ∧ Zbe a * ZaA b < Zbe b * ZaA a) := by
 unfold ZbT;split <;> rw [ZwV] <;> omega
theorem Znm {a b : List Int} (h : ZbT a b < 0) : ¬ ZbT b a < 0 := by have := ZlX a b; omega
theorem Zu2 {x y : Int} {n : Nat} (hn : 0 < n) (h : x * n ≤ y * n) : x ≤ y := Int.le_of_mul_le_mul_right h (by omega)
theorem ZlG {a c : List Int} (b : List Int) (h : ZbT a c < 0) : ZbT a b < 0 ∨ ZbT b c < 0 := by
 rw [ZlJ] at h;rw [ZlJ, ZlJ];rcases h with ⟨h1, h2⟩ | ⟨h1, h2, h3⟩
 ·rcases Nat.eq_zero_or_pos (ZaA b) with c1 | c1
  ·exact .inr (.inl ⟨c1, h2⟩)
  ·exact .inl (.inl ⟨h1, c1⟩)
 ·rcases Nat.eq_zero_or_pos (ZaA b) with c1 | c1
  ·exact .inr (.inl ⟨c1, h2⟩)
  ·by_cases c2 : Zbe a * ZaA b < Zbe b * ZaA a
   ·exact .inl (.inr ⟨h1, c1, c2⟩)
   ·by_cases c3 : Zbe b * ZaA c < Zbe c * ZaA b
    ·exact .inr (.inr ⟨c1, h2, c3⟩)
    ·exfalso;have e1 : Zbe b * ZaA a * ZaA c ≤ Zbe a * ZaA b * ZaA c := Int.mul_le_mul_of_nonneg_right (by omega) (by omega);have e2 : Zbe c * ZaA b * ZaA a ≤ Zbe b * ZaA c * ZaA a := Int.mul_le_mul_of_nonneg_right (by omega) (by omega);have e3 : Zbe c * ZaA a * ZaA b ≤ Zbe a * ZaA c * ZaA b := by
      have s1 : Zbe c * ZaA b * ZaA a = Zbe c * ZaA a * ZaA b := by rw [Int.mul_assoc, Int.mul_comm (ZaA b : Int), ← Int.mul_assoc]
      have s2 : Zbe b * ZaA c * ZaA a = Zbe b * ZaA a * ZaA c := by rw [Int.mul_assoc, Int.mul_comm (ZaA c : Int), ← Int.mul_assoc]
      have s3 : Zbe a * ZaA b * ZaA c = Zbe a * ZaA c * ZaA b := by rw [Int.mul_assoc, Int.mul_comm (ZaA b : Int), ← Int.mul_assoc]
      omega
     have := Zu2 c1 e3;omega
def Zfg (p : Nat → List Int) (j k : Nat) : Prop := ZbT (p j) (p k) < 0 ∨ (¬ ZbT (p k) (p j) < 0 ∧ j < k)
theorem Zqh (p : Nat → List Int) : Ord (Zfg p) where
 asymm := fun a b h1 h2 => by
  rcases h1 with h1 | ⟨h1, h3⟩ <;> rcases h2 with h2 | ⟨h2, h4⟩
  ·exact Znm h1 h2
  ·exact h2 h1
  ·exact h1 h2
  ·omega
 trans := fun a b c h1 h2 => by
  rcases h1 with h1 | ⟨h1, h3⟩
  ·rcases ZlG (p c) h1 with h | h
   ·exact .inl h
   ·rcases h2 with h2 | ⟨h2, h4⟩
    ·exact absurd h (Znm h2)
    ·exact absurd h h2
  ·rcases h2 with h2 | ⟨h2, h4⟩
   ·rcases ZlG (p a) h2 with h | h
    ·exact absurd h h1
    ·exact .inl h
   ·refine .inr ⟨fun h => ?_, by omega⟩;rcases ZlG (p b) h with h | h
    ·exact h2 h
    ·exact h1 h
 total := fun a b h => by
  by_cases h1 : ZbT (p a) (p b) < 0
  ·exact .inl (.inl h1)
  ·by_cases h2 : ZbT (p b) (p a) < 0
   ·exact .inr (.inl h2)
   ·rcases Nat.lt_or_ge a b with h3 | h3
    ·exact .inl (.inr ⟨h2, h3⟩)
    ·exact .inr (.inr ⟨h1, by omega⟩)
theorem ZzM {p : Nat → List Int} {j k : Nat} (h : j < k) : ZbT (p k) (p j) < 0 ↔ Zfg p k j :=
 ⟨fun c => .inl c, fun c => by
  rcases c with c | ⟨_, c⟩
  ·exact c
  ·omega⟩
theorem ZpT {l : List Int} {c : Nat} (h : ∀ x, x ∈ l → 0 ≤ x ∧ x ≤ c) : 0 ≤ l.sum ∧ l.sum ≤ ((l.length * c : Nat) : Int) := by
 induction l with
 | nil => simp
 | cons x l ih =>
  have h1 := ih fun y hy => h y (List.mem_cons_of_mem _ hy)
  have h2 := h x (by simp);rw [List.sum_cons, List.length_cons, Nat.add_mul]; omega
theorem ZwE (l : List Int) : ZaA l ≤ 4096 := by
 unfold ZaA ZiP;split
 ·rename_i h;simp only [Bool.and_eq_true, decide_eq_true_eq] at h;exact h.1
 ·omega
theorem Zz2 (l : List Int) : 0 ≤ Zbe l ∧ Zbe l ≤ 4294967296 := by
 unfold Zbe;split
 ·rename_i h;simp only [ZiP, Bool.and_eq_true, decide_eq_true_eq, List.all_eq_true] at h;have h1 := ZpT (c := 1048576) h.2;have h2 : l.length * 1048576 ≤ 4096 * 1048576 := Nat.mul_le_mul_right _ h.1;omega
 ·omega
theorem Zql (a b : List Int) : 0 ≤ Zbe a * ZaA b ∧ Zbe a * ZaA b ≤ 17592186044416 := by
 have h1 := Zz2 a;have h2 := ZwE b;constructor
 ·exact Int.mul_nonneg h1.1 (by omega)
 ·have h3 : Zbe a * ZaA b ≤ 4294967296 * (ZaA b : Int) := Int.mul_le_mul_of_nonneg_right h1.2 (by omega);omega
variable {α : Type} {R : α → α → Prop}

theorem ZwA (h : Ord R) {l : List α} {x z : α} (hs : l.Pairwise R) (hz : l.getLast? = some z) (hx : x ∈ l) : x = z ∨ R x z := by
 obtain ⟨l', rfl⟩ : ∃ l', l = l' ++ [z] := by
  rcases List.eq_nil_or_concat l with rfl | ⟨l', w, rfl⟩
  ·simp at hz
  ·refine ⟨l', ?_⟩;rw [List.concat_eq_append] at hz ⊢;simp at hz; rw [hz]
 rcases List.mem_append.1 hx with hx | hx
 ·exact .inr ((List.pairwise_append.1 hs).2.2 x hx z (by simp))
 ·exact .inl (List.mem_singleton.1 hx)
theorem Zk3 (h : Ord R) {l : List α} {x z : α} (hs : l.Pairwise R) (hz : l.head? = some z) (hx : x ∈ l) : x = z ∨ R z x := by
 cases l with
 | nil => cases hx
 | cons w l =>
  have : w = z := by simpa using hz
  subst this;rcases List.mem_cons.1 hx with rfl | hx
  ·exact .inl rfl
  ·exact .inr ((List.pairwise_cons.1 hs).1 x hx)
theorem ZnF (h : Ord R) {u v : List α} (su : u.Pairwise R) (sv : v.Pairwise R) (huv : ∀ x, u.getLast? = some x → ∀ y, v.head? = some y → R x y) : (u ++ v).Pairwise R := by
 refine List.pairwise_append.2 ⟨su, sv, fun x hx y hy => ?_⟩;obtain ⟨z, hz⟩ : ∃ z, u.getLast? = some z := by
  cases hu : u.getLast? with
  | none => rw [List.getLast?_eq_none_iff] at hu; subst hu; cases hx
  | some z => exact ⟨z, rfl⟩
 obtain ⟨w, hw⟩ : ∃ w, v.head? = some w := by
  cases v with
  | nil => cases hy
  | cons w v => exact ⟨w, rfl⟩
 have hzw := huv z hz w hw;have hxw : R x w := by
  rcases ZwA h su hz hx with rfl | h3
  ·exact hzw
  ·exact h.trans x z w h3 hzw
 rcases Zk3 h sv hw hy with rfl | h4
 ·exact hxw
 ·exact h.trans x w y hxw h4
theorem ZmW {l : List α} {k : Nat} {x : α} (hk : k ≤ l.length) (h : (l.take k).getLast? = some x) : 0 < k ∧ l[k - 1]? = some x := by
 rcases Nat.eq_zero_or_pos k with rfl | h0
 ·simp at h
 ·refine ⟨h0, ?_⟩;rw [List.getLast?_eq_getElem?, List.length_take, Nat.min_eq_left hk, List.getElem?_take, if_pos (by omega)] at h;exact h
theorem Zlj {l : List α} {k : Nat} {x : α} (h : (l.drop k).head? = some x) : l[k]? = some x := by
 rw [List.head?_drop] at h; exact h
theorem Zlw (h : Ord R) {A : List α} {y : α} {i : Nat} (hi : i ≤ A.length) (hA : A.Pairwise R) (h1 : ∀ x, 0 < i → A[i - 1]? = some x → R x y) (h2 : ∀ x, A[i]? = some x → R y x) :
  (A.take i ++ y :: A.drop i).Pairwise R := by
 have sp := List.take_append_drop i A;rw [← sp] at hA;obtain ⟨s1, s2, _⟩ := List.pairwise_append.1 hA;have e : A.take i ++ y :: A.drop i = (A.take i ++ [y]) ++ A.drop i := by simp
 rw [e];refine ZnF h (ZnF h s1 (List.pairwise_singleton _ _) fun x hx z hz => ?_) s2 fun x hx z hz => ?_
 ·obtain ⟨h3, h4⟩ := ZmW hi hx;have : y = z := by simpa using hz
  subst this; exact h1 x h3 h4
 ·have : y = x := by simpa using hx
  subst this; exact h2 z (Zlj hz)
theorem Zxi (h : Ord R) {A B T : List α} {k q : Nat} (hk : k ≤ A.length) (hq : q ≤ B.length) (hA : A.Pairwise R) (hB : B.Pairwise R) (hT : T.Pairwise R) (hp : T.Perm (A ++ B)) (hn : (A ++ B).Nodup)
  (h1 : ∀ x y, 0 < k → A[k - 1]? = some x → B[q]? = some y → R x y) (h2 : ∀ x y, 0 < q → B[q - 1]? = some x → A[k]? = some y → R x y) :
  ∃ T1 T2, T = T1 ++ T2 ∧ T1.Perm (A.take k ++ B.take q) ∧ T2.Perm (A.drop k ++ B.drop q) ∧ T1.Pairwise R ∧ T2.Pairwise R := by
 have ea := List.take_append_drop k A;have eb := List.take_append_drop q B;have hpp : (A ++ B).Perm ((A.take k ++ B.take q) ++ (A.drop k ++ B.drop q)) := by
  have e1 : A ++ B = A.take k ++ (A.drop k ++ B.take q) ++ B.drop q := by
   rw [← List.append_assoc (A.take k), ea, List.append_assoc, eb]
  have e2 : (A.take k ++ B.take q) ++ (A.drop k ++ B.drop q) = A.take k ++ (B.take q ++ A.drop k) ++ B.drop q := by simp
  rw [e1, e2];exact (List.perm_append_comm.append_left _).append_right _
 refine ZrY h (hp.trans hpp) hT ?_ (hpp.nodup_iff.1 hn);refine ZlN h (by rw [ea]; exact hA) (by rw [eb]; exact hB) (fun x hx y hy => ?_) (fun x hx y hy => ?_)
 ·obtain ⟨c1, c2⟩ := ZmW hk hx;exact h1 x y c1 c2 (Zlj hy)
 ·obtain ⟨c1, c2⟩ := ZmW hq hx;exact h2 x y c1 c2 (Zlj hy)
end Go.Stb
namespace Go.Cy
open Go.Bd (Part)

abbrev NA := Nat × Nat

def Acy (l : List NA) : Prop := ∃ r : Nat → Nat, ∀ a, a ∈ l → a.1 ≠ a.2 → r a.1 < r a.2
def ZlS (l : List NA) : List NA := l.filter fun a => !decide (a.1 = a.2)
def InN (n : Nat) (l : List NA) : Prop := ∀ a, a ∈ l → a.1 < n ∧ a.2 < n

def Src (l : List NA) (G : List Nat) (v : Nat) : Prop := ∀ a, a ∈ l → a.2 = v → a.1 ≠ v → a.1 ∈ G
def ZgR (l : List NA) (G : List Nat) : Prop := ∃ r : Nat → Nat, (∀ v, v ∈ G → r v < G.length) ∧ ∀ a, a ∈ l → a.1 ≠ a.2 → a.2 ∈ G → a.1 ∈ G ∧ r a.1 < r a.2
theorem ZgR.cons {l : List NA} {G : List Nat} {v : Nat} (h : ZgR l G) (hv : v ∉ G) (hs : Src l G v) : ZgR l (v :: G) := by
 obtain ⟨r, h1, h2⟩ := h;refine ⟨fun u => if u = v then G.length else r u, ?_, ?_⟩
 ·intro u hu;dsimp only;by_cases c : u = v
  ·simp [c]
  ·rw [if_neg c];have := h1 u (by simpa [c] using hu);simp; omega
 ·intro a ha hn h3;dsimp only;by_cases c : a.2 = v
  ·have h4 := hs a ha c (by rw [← c]; exact hn);have h5 : a.1 ≠ v := fun h => hv (h ▸ h4)
   refine ⟨List.mem_cons_of_mem _ h4, ?_⟩;rw [if_neg h5, if_pos c];exact h1 _ h4
  ·have h4 := h2 a ha hn (by simpa [c] using h3);have h5 : a.1 ≠ v := fun h => hv (h ▸ h4.1)
   refine ⟨List.mem_cons_of_mem _ h4.1, ?_⟩;rw [if_neg h5, if_neg c];exact h4.2
theorem ZgR.all {n : Nat} {l : List NA} {G : List Nat} (h : ZgR l G) (hi : InN n l) (hg : ∀ v, v < n → v ∈ G) : Acy l := by
 obtain ⟨r, _, h2⟩ := h;exact ⟨r, fun a ha hn => (h2 a ha hn (hg _ (hi a ha).2)).2⟩
theorem nd_le : ∀ {n : Nat} {G : List Nat}, G.Nodup → (∀ v, v ∈ G → v < n) → G.length ≤ n
 | 0, [], _, _ => by simp
 | 0, v :: _, _, h => by have := h v (by simp); omega
 | n + 1, G, hn, h => by
  have := @nd_le n (G.erase n) (hn.erase _) fun v hv => by
   have h1 := (List.Nodup.mem_erase_iff hn).1 hv;have := h v h1.2; omega
  have := List.length_erase_le (a := n) (l := G);have : G.length ≤ (G.erase n).length + 1 := by rw [List.length_erase]; split <;> omega
  omega
theorem Zoa : ∀ {n : Nat} {G : List Nat}, G.Nodup → (∀ v, v ∈ G → v < n) → n ≤ G.length → ∀ v, v < n → v ∈ G := by
 intro n G hn h hl v hv;refine Decidable.byContradiction fun hc => ?_
 have := @nd_le n (v :: G) (List.nodup_cons.2 ⟨hc, hn⟩) fun u hu => by
  rcases List.mem_cons.1 hu with rfl | hu
  ·exact hv
  ·exact h u hu
 simp at this; omega
def Zp5 (n : Nat) (l : List NA) (G : List Nat) : Prop := ∀ v, v < n → v ∉ G → ¬ Src l G v
theorem ZxH {n : Nat} {l : List NA} {G : List Nat} (hi : InN n l) (ha : Acy l) (hs : Zp5 n l G) : ∀ v, v < n → v ∈ G := by
 obtain ⟨r, hr⟩ := ha;have : ∀ (k v : Nat), r v < k → v < n → v ∈ G := by
  intro k
  induction k with
  | zero => intro v h; omega
  | succ k ih =>
   intro v hk hv;refine Decidable.byContradiction fun hc => hs v hv hc ?_
   intro a ha h2 h1;have h3 := hr a ha (by rw [h2]; exact h1);rw [h2] at h3;exact ih a.1 (by omega) (hi a ha).1
 exact fun v hv => this (r v + 1) v (by omega) hv

def Zcn (l : List NA) (set : List Nat) : List NA := l.mapIdx fun i a => if i ∈ set then (a.2, a.1) else a
theorem flipN_get {l : List NA} {set : List Nat} {k : Nat} {a : NA} (h : l[k]? = some a) : (Zcn l set)[k]? = some (if k ∈ set then (a.2, a.1) else a) := by
 simp [Zcn, List.getElem?_mapIdx, h]
theorem flipN_len (l : List NA) (set : List Nat) : (Zcn l set).length = l.length := by simp [Zcn]
theorem flipN_mem {l : List NA} {set : List Nat} {b : NA} (h : b ∈ Zcn l set) : ∃ k a, l[k]? = some a ∧ b = if k ∈ set then (a.2, a.1) else a := by
 obtain ⟨k, hk⟩ := List.mem_iff_getElem?.1 h;have hlt : k < l.length := by have := (List.getElem?_eq_some_iff.1 hk).1; rw [flipN_len] at this; exact this
 refine ⟨k, l[k], List.getElem?_eq_getElem hlt, ?_⟩;have := flipN_get (set := set) (List.getElem?_eq_getElem hlt);rw [hk] at this;exact Option.some.inj this
abbrev Asc (l : List Nat) : Prop := l.Pairwise (· < ·)
def Zhs (l : List NA) (set : List Nat) : Prop := Asc set ∧ ∀ i, i ∈ set → ∃ a, l[i]? = some a ∧ a.1 ≠ a.2
def Brk (l : List NA) (set : List Nat) : Prop := Zhs l set ∧ Acy (Zcn l set)
def bwd (M : List Nat) (a : NA) : Bool := decide (M.idxOf a.2 < M.idxOf a.1)
def Zi4 (M : List Nat) (l : List NA) (i : Nat) : Bool := match l[i]? with
 | some a => bwd M a
 | none => false
def ZcM (M : List Nat) (l : List NA) : List Nat := (List.range l.length).filter (Zi4 M l)
theorem Zu8 {M : List Nat} {l : List NA} {i : Nat} : i ∈ ZcM M l ↔ ∃ a, l[i]? = some a ∧ bwd M a = true := by
 simp only [ZcM, List.mem_filter, List.mem_range, Zi4];constructor
 ·rintro ⟨h1, h2⟩;rw [List.getElem?_eq_getElem h1] at h2 ⊢;exact ⟨_, rfl, h2⟩
 ·rintro ⟨a, h1, h2⟩;refine ⟨(List.getElem?_eq_some_iff.1 h1).1, ?_⟩;rw [h1]; exact h2
theorem ZAd {M : List Nat} {a : NA} (h : bwd M a = true) : a.1 ≠ a.2 := by
 intro e;simp only [bwd, decide_eq_true_eq, e] at h;omega
theorem Zz3 {M : List Nat} {u v : Nat} (hu : u ∈ M) (hv : v ∈ M) (h : M.idxOf u = M.idxOf v) : u = v := by
 have h1 := List.getElem_idxOf (List.idxOf_lt_length_of_mem hu);have h2 := List.getElem_idxOf (List.idxOf_lt_length_of_mem hv);simp only [h] at h1;exact h1.symm.trans h2
theorem Part.mem {n : Nat} {M : List Nat} (h : Part n 0 M) {v : Nat} (hv : v < n) : v ∈ M := Zoa h.nd h.lt (by have := h.len; omega) v hv
theorem ZoN {a b : List Nat} (h : a.Perm b) : a.sum = b.sum := by
 induction h with
 | nil => rfl
 | cons x _ ih => simp [ih]
 | swap x y l => simp; omega
 | trans _ _ h1 h2 => exact h1.trans h2
theorem ZjI {α : Type} {l : List α} : l.reverse.Nodup ↔ l.Nodup := by
 simp only [List.Nodup, List.pairwise_reverse, ne_comm]
def bkR (c : Nat → Nat → Nat) : List Nat → Nat
 | [] => 0
 | v :: P => bkR c P + (P.map (c v)).sum
def Zd7 (F : Nat → Nat → Bool) : List Nat → Prop
 | [] => True
 | v :: P => Zd7 F P ∧ ∀ u, F v u = true → u ∈ P
def bits (n s : Nat) : List Nat := (List.range n).filter fun u => s.testBit u
theorem mem_bits {n s u : Nat} : u ∈ bits n s ↔ u < n ∧ s.testBit u = true := by simp [bits]
theorem clr : ∀ s, s < 256 → ∀ v, v < 8 → s.testBit v = true → s - 2 ^ v < s ∧ ∀ u, u < 8 → (s - 2 ^ v).testBit u = (s.testBit u && !decide (u = v)) := by decide +kernel
def inB (n a b : Nat) : Bool := (List.range n).all fun u => !a.testBit u || b.testBit u
theorem inB_iff {n a b : Nat} : inB n a b = true ↔ ∀ u, u < n → a.testBit u = true → b.testBit u = true := by
 simp only [inB, List.all_eq_true, List.mem_range, Bool.or_eq_true, Bool.not_eq_true'];constructor
 ·intro h u hu ha;rcases h u hu with h | h
  ·rw [h] at ha; cases ha
  ·exact h
 ·intro h u hu;cases ha : a.testBit u
  ·exact .inl rfl
  ·exact .inr (h u hu ha)
def Zei (p : Nat → Bool) (g : Nat → Nat) (L : List Nat) (m : Nat) : Nat := L.foldl (fun acc v => if p v then min acc (g v) else acc) m
theorem foldMin_le {p : Nat → Bool} {g : Nat → Nat} : ∀ {L : List Nat} {m : Nat}, Zei p g L m ≤ m ∧ ∀ v, v ∈ L → p v = true → Zei p g L m ≤ g v
 | [], m => ⟨Nat.le_refl _, by simp⟩
 | w :: L, m => by
  have ih := @foldMin_le p g L (if p w then min m (g w) else m);have e : Zei p g (w :: L) m = Zei p g L (if p w then min m (g w) else m) := rfl;rw [e];have h1 : (if p w then min m (g w) else m) ≤ m := by split <;> omega
  refine ⟨by omega, fun v hv hp => ?_⟩;rcases List.mem_cons.1 hv with rfl | hv
  ·have : (if p v then min m (g v) else m) ≤ g v := by rw [if_pos hp]; omega
   omega
  ·exact ih.2 v hv hp
theorem ZnT {p : Nat → Bool} {g : Nat → Nat} : ∀ {L : List Nat} {m : Nat}, Zei p g L m = m ∨ ∃ v, v ∈ L ∧ p v = true ∧ Zei p g L m = g v
 | [], m => .inl rfl
 | w :: L, m => by
  have ih := @ZnT p g L (if p w then min m (g w) else m);have e : Zei p g (w :: L) m = Zei p g L (if p w then min m (g w) else m) := rfl;rw [e];rcases ih with h | ⟨v, h1, h2, h3⟩
  ·rw [h];by_cases c : p w = true
   ·rw [if_pos c];rcases Nat.le_total m (g w) with h4 | h4
    ·left; omega
    ·right; exact ⟨w, by simp, c, by omega⟩
   ·rw [if_neg c]; exact .inl rfl
  ·exact .inr ⟨v, List.mem_cons_of_mem _ h1, h2, h3⟩
def atN (l : List Nat) (i : Nat) : Nat := (l[i]?).getD 0
def ZdC (n : Nat) (fm : List Nat) (s v : Nat) : Bool := s.testBit v && inB n (atN fm v) (s - 2 ^ v)
def Zep (n : Nat) (c : Nat → Nat → Nat) (L : List Nat) (s v : Nat) : Nat := atN L (s - 2 ^ v) + ((bits n (s - 2 ^ v)).map (c v)).sum
def Zga (n : Nat) (c : Nat → Nat → Nat) (fm L : List Nat) (s : Nat) : Nat := Zei (ZdC n fm s) (Zep n c L s) (List.range n) 1048576
def Zb0 (n : Nat) (c : Nat → Nat → Nat) (fm : List Nat) : Nat → List Nat
 | 0 => [0]
 | k + 1 => Zb0 n c fm k ++ [Zga n c fm (Zb0 n c fm k) (k + 1)]
theorem costL_len (n : Nat) (c : Nat → Nat → Nat) (fm : List Nat) (k : Nat) : (Zb0 n c fm k).length = k + 1 := by
 induction k with
 | zero => rfl
 | succ k ih => simp [Zb0, ih]
def Zcq (n : Nat) (c : Nat → Nat → Nat) (fm : List Nat) (s : Nat) : Nat := atN (Zb0 n c fm s) s
theorem costL_at (n : Nat) (c : Nat → Nat → Nat) (fm : List Nat) {k s : Nat} (h : s ≤ k) : atN (Zb0 n c fm k) s = Zcq n c fm s := by
 induction k with
 | zero => obtain rfl : s = 0 := by omega
           rfl
 | succ k ih =>
  rcases Nat.lt_or_ge s (k + 1) with h1 | h1
  ·rw [← ih (by omega)];simp only [atN, Zb0];rw [List.getElem?_append_left (by rw [costL_len]; omega)]
  ·obtain rfl : s = k + 1 := by omega
   rfl
theorem costN_zero (n : Nat) (c : Nat → Nat → Nat) (fm : List Nat) : Zcq n c fm 0 = 0 := rfl
theorem costN_succ (n : Nat) (c : Nat → Nat → Nat) (fm : List Nat) (k : Nat) : Zcq n c fm (k + 1) = Zga n c fm (Zb0 n c fm k) (k + 1) := by
 simp only [Zcq, atN, Zb0];rw [List.getElem?_append_right (by rw [costL_len]; omega), costL_len];simp
def ZdO (n : Nat) (c : Nat → Nat → Nat) (fm : List Nat) : Nat := Zcq n c fm (2 ^ n - 1)
def fmF (fm : List Nat) (v u : Nat) : Bool := (atN fm v).testBit u
def Zee (n s : Nat) (R : List Nat) : Prop := R.Nodup ∧ ∀ u, u ∈ R ↔ u < n ∧ s.testBit u = true
theorem pow_le8 {n : Nat} (h : n ≤ 8) : 2 ^ n ≤ 256 := Nat.pow_le_pow_right (n := 2) (by decide) h
theorem Zrd {n s : Nat} {R : List Nat} (h : Zee n s R) : R.Perm (bits n s) :=
 (List.perm_ext_iff_of_nodup h.1 (List.nodup_range.filter _)).2 fun u => (h.2 u).trans mem_bits.symm
theorem Zee.tail {n s v : Nat} {P : List Nat} (h8 : n ≤ 8) (hs : s < 2 ^ n) (h : Zee n s (v :: P)) : v < n ∧ s.testBit v = true ∧ s - 2 ^ v < s ∧ Zee n (s - 2 ^ v) P := by
 have := pow_le8 h8;obtain ⟨h1, h2⟩ := (h.2 v).1 (by simp);obtain ⟨h3, h4⟩ := clr s (by omega) v (by omega) h2;have hn := List.nodup_cons.1 h.1;refine ⟨h1, h2, h3, hn.2, fun u => ?_⟩;constructor
 ·intro hu;obtain ⟨h5, h6⟩ := (h.2 u).1 (List.mem_cons_of_mem _ hu);refine ⟨h5, ?_⟩;rw [h4 u (by omega), h6];have : u ≠ v := fun e => hn.1 (e ▸ hu)
  simp [this]
 ·rintro ⟨h5, h6⟩;rw [h4 u (by omega)] at h6;simp only [Bool.and_eq_true, Bool.not_eq_true', decide_eq_false_iff_not] at h6;rcases List.mem_cons.1 ((h.2 u).2 ⟨h5, h6.1⟩) with e | h7
  ·exact (h6.2 e).elim
  ·exact h7
theorem Zee.cons {n s v : Nat} {P : List Nat} (h8 : n ≤ 8) (hs : s < 2 ^ n) (hv : v < n) (hb : s.testBit v = true) (h : Zee n (s - 2 ^ v) P) : Zee n s (v :: P) := by
 have := pow_le8 h8;obtain ⟨h3, h4⟩ := clr s (by omega) v (by omega) hb;refine ⟨List.nodup_cons.2 ⟨fun hc => ?_, h.1⟩, fun u => ?_⟩
 ·have := ((h.2 v).1 hc).2;rw [h4 v (by omega)] at this;simp at this
 ·rw [List.mem_cons, h.2];constructor
  ·rintro (rfl | ⟨h5, h6⟩)
   ·exact ⟨hv, hb⟩
   ·rw [h4 u (by omega)] at h6;simp only [Bool.and_eq_true] at h6;exact ⟨h5, h6.1⟩
  ·rintro ⟨h5, h6⟩;by_cases e : u = v
   ·exact .inl e
   ·right
    refine ⟨h5, ?_⟩;rw [h4 u (by omega), h6]; simp [e]
theorem ZxU {n s : Nat} (hs : s < 2 ^ n) (h : Zee n s []) : s = 0 := by
 refine Nat.eq_of_testBit_eq fun u => ?_
 rw [Nat.zero_testBit];rcases Nat.lt_or_ge u n with hu | hu
 ·cases hb : s.testBit u
  ·rfl
  ·have := (h.2 u).2 ⟨hu, hb⟩;cases this
 ·exact Nat.testBit_lt_two_pow (Nat.lt_of_lt_of_le hs (Nat.pow_le_pow_right (by decide) hu))
theorem ZmD {n : Nat} (h8 : n ≤ 8) (c : Nat → Nat → Nat) (fm : List Nat) : ∀ (R : List Nat) (s : Nat), s < 2 ^ n → Zee n s R → Zd7 (fmF fm) R → Zcq n c fm s ≤ bkR c R
 | [], s, hs, ho, _ => by
  rw [ZxU hs ho, costN_zero]; exact Nat.zero_le _
 | v :: P, s, hs, ho, ha => by
  obtain ⟨h1, h2, h3, h4⟩ := ho.tail h8 hs;obtain ⟨k, rfl⟩ : ∃ k, s = k + 1 := ⟨s - 1, by omega⟩;have ih := ZmD h8 c fm P _ (by omega) h4 ha.1;rw [costN_succ, Zga];have hok : ZdC n fm (k + 1) v = true := by
   simp only [ZdC, h2, Bool.true_and];exact inB_iff.2 fun u hu hb => ((h4.2 u).1 (ha.2 u hb)).2
  have := (@foldMin_le (ZdC n fm (k + 1)) (Zep n c (Zb0 n c fm k) (k + 1)) (List.range n) 1048576).2 v (List.mem_range.2 h1) hok;refine Nat.le_trans this ?_;rw [Zep, costL_at n c fm (by omega), bkR, ← ZoN ((Zrd h4).map (c v))];omega
theorem ZmV {n : Nat} (h8 : n ≤ 8) (c : Nat → Nat → Nat) (fm : List Nat) (hf : ∀ v, atN fm v < 2 ^ n) : ∀ (s : Nat), s < 2 ^ n → Zcq n c fm s < 1048576 → ∃ R, Zee n s R ∧ Zd7 (fmF fm) R ∧ bkR c R = Zcq n c fm s := by
 intro s
 induction s using Nat.strongRecOn with
 | ind s ih =>
  intro hs hc;rcases Nat.eq_zero_or_pos s with rfl | hpos
  ·exact ⟨[], ⟨List.nodup_nil, by simp⟩, trivial, rfl⟩
  ·obtain ⟨k, rfl⟩ : ∃ k, s = k + 1 := ⟨s - 1, by omega⟩;rw [costN_succ, Zga] at hc ⊢;rcases @ZnT (ZdC n fm (k + 1)) (Zep n c (Zb0 n c fm k) (k + 1)) (List.range n) 1048576 with h | ⟨v, h1, h2, h3⟩
   ·omega
   ·rw [h3] at hc ⊢;have hv := List.mem_range.1 h1;simp only [ZdC, Bool.and_eq_true] at h2;have := pow_le8 h8;obtain ⟨h4, h5⟩ := clr (k + 1) (by omega) v (by omega) h2.1;rw [Zep, costL_at n c fm (by omega)] at hc ⊢;obtain ⟨P, g1, g2, g3⟩ := ih (k + 1 - 2 ^ v) h4 (by omega) (by omega);refine ⟨v :: P, g1.cons h8 hs hv h2.1, ⟨g2, fun u hu => ?_⟩, ?_⟩
    ·refine (g1.2 u).2 ?_;rcases Nat.lt_or_ge u n with hun | hun
     ·exact ⟨hun, inB_iff.1 h2.2 u hun hu⟩
     ·have := Nat.testBit_lt_two_pow (Nat.lt_of_lt_of_le (hf v) (Nat.pow_le_pow_right (n := 2) (by decide) hun));rw [fmF, this] at hu; cases hu
    ·rw [bkR, g3, ZoN ((Zrd g1).map (c v))]
theorem Zif {n : Nat} {R : List Nat} : Zee n (2 ^ n - 1) R ↔ Part n 0 R.reverse := by
 constructor
 ·rintro ⟨h1, h2⟩;have h3 : ∀ u, u ∈ R ↔ u < n := fun u => by rw [h2]; simp [Nat.testBit_two_pow_sub_one]
  refine ⟨ZjI.2 h1, fun v hv => (h3 v).1 (List.mem_reverse.1 hv), ?_⟩;have := (List.perm_ext_iff_of_nodup h1 List.nodup_range).2 (fun u => by rw [h3, List.mem_range]);simpa using this.length_eq
 ·intro h;refine ⟨ZjI.1 h.nd, fun u => ?_⟩;constructor
  ·intro hu;have := h.lt u (List.mem_reverse.2 hu);simp [Nat.testBit_two_pow_sub_one, this]
  ·rintro ⟨hu, _⟩;exact List.mem_reverse.1 (Part.mem h hu)
theorem Zyf (n : Nat) : Part n 0 (List.range n) := ⟨List.nodup_range, fun v hv => List.mem_range.1 hv, by simp⟩
theorem Ze4 {P : List Nat} {v u : Nat} (hu : u ∈ P) : (P ++ [v]).idxOf u = P.idxOf u := by rw [List.idxOf_append, if_pos hu]
theorem ZiS {P : List Nat} {v : Nat} (hv : v ∉ P) : (P ++ [v]).idxOf v = P.length := by
 rw [List.idxOf_append, if_neg hv]; simp
theorem Zlt {F : Nat → Nat → Bool} : ∀ {R : List Nat}, R.Nodup → (Zd7 F R ↔ ∀ v, v ∈ R → ∀ u, F v u = true → u ∈ R ∧ R.reverse.idxOf u < R.reverse.idxOf v)
 | [], _ => by simp [Zd7]
 | v :: P, hn => by
  have hn' := List.nodup_cons.1 hn;have hv : v ∉ P.reverse := fun h => hn'.1 (List.mem_reverse.1 h)
  rw [Zd7, Zlt hn'.2, List.reverse_cons];constructor
  ·rintro ⟨h1, h2⟩ w hw u hu;rcases List.mem_cons.1 hw with rfl | hw
   ·have h3 := h2 u hu;refine ⟨List.mem_cons_of_mem _ h3, ?_⟩;rw [ZiS hv, Ze4 (List.mem_reverse.2 h3)];exact List.idxOf_lt_length_of_mem (List.mem_reverse.2 h3)
   ·obtain ⟨h3, h4⟩ := h1 w hw u hu;refine ⟨List.mem_cons_of_mem _ h3, ?_⟩;rw [Ze4 (List.mem_reverse.2 h3), Ze4 (List.mem_reverse.2 hw)];exact h4
  ·intro h;have key : ∀ w, w ∈ v :: P → ∀ u, F w u = true → u ∈ P := by
    intro w hw u hu;obtain ⟨h3, h4⟩ := h w hw u hu;rcases List.mem_cons.1 h3 with rfl | h3
    ·exfalso;rw [ZiS hv] at h4;rcases List.mem_cons.1 hw with rfl | hw
     ·rw [ZiS hv] at h4; omega
     ·rw [Ze4 (List.mem_reverse.2 hw)] at h4;have := List.idxOf_lt_length_of_mem (List.mem_reverse.2 hw);omega
    ·exact h3
   refine ⟨fun w hw u hu => ?_, fun u hu => key v (by simp) u hu⟩;have h3 := key w (List.mem_cons_of_mem _ hw) u hu;have h4 := (h w (List.mem_cons_of_mem _ hw) u hu).2;rw [Ze4 (List.mem_reverse.2 h3), Ze4 (List.mem_reverse.2 hw)] at h4;exact ⟨h3, h4⟩
def cnt (l : List NA) (u v : Nat) : Nat := (l.filter fun a => !decide (a.1 = a.2) && (decide (a.1 = u) && decide (a.2 = v))).length
def ind (a : NA) (u v : Nat) : Nat := if a.1 ≠ a.2 ∧ a.1 = u ∧ a.2 = v then 1 else 0
theorem cnt_cons (a : NA) (l : List NA) (u v : Nat) : cnt (a :: l) u v = ind a u v + cnt l u v := by
 simp only [cnt, ind, List.filter_cons];by_cases c : a.1 ≠ a.2 ∧ a.1 = u ∧ a.2 = v
 ·rw [if_pos c, if_pos (by simp [c.1, c.2.1, c.2.2]; intro h; exact c.1 (by rw [c.2.1, c.2.2, h]))]; simp; omega
 ·rw [if_neg c, if_neg (by simp only [Bool.and_eq_true, Bool.not_eq_true', decide_eq_false_iff_not, decide_eq_true_eq]; exact c)]; simp
theorem Zrc (f g : Nat → Nat) : ∀ P : List Nat, (P.map fun u => f u + g u).sum = (P.map f).sum + (P.map g).sum
 | [] => rfl
 | x :: P => by simp [Zrc f g P]; omega
theorem Zp3 (c d : Nat → Nat → Nat) : ∀ R, bkR (fun u v => c u v + d u v) R = bkR c R + bkR d R
 | [] => rfl
 | v :: P => by
  simp only [bkR, Zp3 c d P, Zrc];omega
theorem ZqM : ∀ R, bkR (fun _ _ => 0) R = 0
 | [] => rfl
 | v :: P => by
  have h0 : ∀ T : List Nat, (T.map fun _ => 0).sum = 0 := fun T => by
   induction T with
   | nil => rfl
   | cons x T ih => rw [List.map_cons, List.sum_cons, ih]
  have := h0 P;have e : bkR (fun _ _ => 0) (v :: P) = bkR (fun _ _ => 0) P + (P.map fun _ => 0).sum := rfl;rw [e, ZqM P, this]
theorem ZmU (a : NA) (v : Nat) : ∀ {P : List Nat}, P.Nodup → v ∉ P → (P.map (ind a v)).sum = if a.1 = v ∧ a.2 ∈ P then 1 else 0
 | [], _, _ => by simp
 | u :: P, hn, hv => by
  have hn' := List.nodup_cons.1 hn;rw [List.map_cons, List.sum_cons, ZmU a v hn'.2 (fun h => hv (List.mem_cons_of_mem _ h))];have hvu : v ≠ u := fun h => hv (by simp [h])
  simp only [ind, List.mem_cons];by_cases c1 : a.1 = v
  ·by_cases c2 : a.2 = u
   ·have : a.2 ∉ P := c2 ▸ hn'.1;rw [if_pos ⟨by rw [c1, c2]; exact hvu, c1, c2⟩, if_neg (fun h => this h.2), if_pos ⟨c1, .inl c2⟩]
   ·rw [if_neg (fun h => c2 h.2.2)];by_cases c3 : a.2 ∈ P
    ·rw [if_pos ⟨c1, c3⟩, if_pos ⟨c1, .inr c3⟩]
    ·rw [if_neg (fun h => c3 h.2), if_neg (fun h => h.2.elim c2 c3)]
  ·rw [if_neg (fun h => c1 h.2.1), if_neg (fun h => c1 h.1), if_neg (fun h => c1 h.1)]
theorem Zly (a : NA) : ∀ {R : List Nat}, R.Nodup → (a.1 ∉ R ∨ a.2 ∉ R) → bkR (ind a) R = 0
 | [], _, _ => rfl
 | v :: P, hn, h => by
  have hn' := List.nodup_cons.1 hn;rw [bkR, Zly a hn'.2 (h.imp (fun h h' => h (List.mem_cons_of_mem _ h')) (fun h h' => h (List.mem_cons_of_mem _ h'))), ZmU a v hn'.2 hn'.1, if_neg];rintro ⟨h1, h2⟩;rcases h with h | h
  ·exact h (by simp [h1])
  ·exact h (List.mem_cons_of_mem _ h2)
theorem ZnV (a : NA) : ∀ {R : List Nat}, R.Nodup → a.1 ∈ R → a.2 ∈ R → bkR (ind a) R = if bwd R.reverse a then 1 else 0
 | [], _, h, _ => by cases h
 | v :: P, hn, h1, h2 => by
  have hn' := List.nodup_cons.1 hn;have hv : v ∉ P.reverse := fun h => hn'.1 (List.mem_reverse.1 h)
  rw [bkR, ZmU a v hn'.2 hn'.1, List.reverse_cons];by_cases c1 : a.1 = v
  ·rw [Zly a hn'.2 (.inl (c1 ▸ hn'.1))];by_cases c2 : a.2 = v
   ·rw [if_neg (fun h => hn'.1 (c2 ▸ h.2)), if_neg (by simp [bwd, c1, c2])]
   ·have h3 := (List.mem_cons.1 h2).resolve_left c2;have h4 := List.idxOf_lt_length_of_mem (List.mem_reverse.2 h3);rw [if_pos ⟨c1, h3⟩, if_pos (by simp only [bwd, c1, decide_eq_true_eq]; rw [ZiS hv, Ze4 (List.mem_reverse.2 h3)]; exact h4)]
  ·rw [if_neg (fun h => c1 h.1)];have h3 := (List.mem_cons.1 h1).resolve_left c1;by_cases c2 : a.2 = v
   ·rw [Zly a hn'.2 (.inr (c2 ▸ hn'.1)), if_neg];have h4 := List.idxOf_lt_length_of_mem (List.mem_reverse.2 h3);simp only [bwd, c2, decide_eq_true_eq];rw [ZiS hv, Ze4 (List.mem_reverse.2 h3)]; omega
   ·have h5 := (List.mem_cons.1 h2).resolve_left c2;have e : bwd (P.reverse ++ [v]) a = bwd P.reverse a := by
     simp only [bwd];rw [Ze4 (List.mem_reverse.2 h3), Ze4 (List.mem_reverse.2 h5)]
    rw [ZnV a hn'.2 h3 h5, e, Nat.add_zero]
theorem Zrb : ∀ (l : List NA) {R : List Nat}, R.Nodup → (∀ a, a ∈ l → a.1 ∈ R ∧ a.2 ∈ R) → bkR (cnt l) R = (l.filter (bwd R.reverse)).length
 | [], R, _, _ => by
  have : cnt [] = fun _ _ => 0 := rfl
  rw [this, ZqM]; rfl
 | a :: l, R, hn, h => by
  have e : cnt (a :: l) = fun u v => ind a u v + cnt l u v := funext fun u => funext fun v => cnt_cons a l u v
  rw [e, Zp3, Zrb l hn (fun b hb => h b (List.mem_cons_of_mem _ hb)), ZnV a hn (h a (by simp)).1 (h a (by simp)).2, List.filter_cons];split
  ·simp; omega
  ·simp
theorem Zrz (M : List Nat) (l : List NA) : (ZcM M l).length = (l.filter (bwd M)).length := by
 have : ∀ k, k ≤ l.length → ((List.range k).filter (Zi4 M l)).length = ((l.take k).filter (bwd M)).length := by
  intro k
  induction k with
  | zero => intro _; rfl
  | succ k ih =>
   intro hk;have hg := List.getElem?_eq_getElem (show k < l.length by omega);rw [List.range_succ, List.filter_append, List.length_append, ih (by omega), List.take_add_one, hg, List.filter_append, List.length_append];simp only [Option.toList, List.filter_cons, List.filter_nil, Zi4, hg];split <;> rfl
 have h := this l.length (Nat.le_refl _);rw [List.take_length] at h;exact h
theorem ZvE {n : Nat} {l : List NA} {R : List Nat} (hi : InN n l) (hR : Part n 0 R.reverse) : bkR (cnt l) R = (ZcM R.reverse l).length := by
 have hm : ∀ u, u < n → u ∈ R := fun u hu => List.mem_reverse.1 (Part.mem hR hu)
 rw [Zrb l (ZjI.1 hR.nd) (fun a ha => ⟨hm _ (hi a ha).1, hm _ (hi a ha).2⟩), Zrz]
def ZbG (fm : List Nat) (v u : Nat) : List Nat := fm.set v (atN fm v ||| 2 ^ u)
def ZeH (n : Nat) (c : Nat → Nat → Nat) (size : Nat) (k : Nat) (a : NA) (st : List Nat × List Nat) : List Nat × List Nat :=
 if a.1 = a.2 then st else if ZdO n c (ZbG st.1 a.1 a.2) = size then (ZbG st.1 a.1 a.2, st.2 ++ [k]) else (ZbG st.1 a.2 a.1, st.2)
def Zcb (n : Nat) (c : Nat → Nat → Nat) (size : Nat) (l : List NA) : Nat → List Nat × List Nat
 | 0 => (List.replicate n 0, [])
 | k + 1 => match l[k]? with
  | some a => ZeH n c size k a (Zcb n c size l k)
  | none => Zcb n c size l k
def Zbs (n : Nat) (l : List NA) : Nat := ZdO n (cnt l) (List.replicate n 0)
def Zdu (n : Nat) (l : List NA) : List Nat := (Zcb n (cnt l) (Zbs n l) l l.length).2
theorem Znl {fm : List Nat} {v u w : Nat} (hv : v < fm.length) : atN (ZbG fm v u) w = if w = v then atN fm v ||| 2 ^ u else atN fm w := by
 simp only [atN, ZbG, List.getElem?_set];by_cases c : v = w
 ·subst c; simp [hv]
 ·rw [if_neg c, if_neg (Ne.symm c)]
theorem ZAc {fm : List Nat} {v u w x : Nat} (hv : v < fm.length) : fmF (ZbG fm v u) w x = (fmF fm w x || (decide (w = v) && decide (x = u))) := by
 simp only [fmF, Znl hv];by_cases c : w = v
 ·subst c;rw [if_pos rfl, Nat.testBit_or, Nat.testBit_two_pow];by_cases c2 : x = u
  ·simp [c2]
  ·simp [c2, Ne.symm c2]
 ·simp [c]
theorem orAt_lt {n : Nat} {fm : List Nat} {v u : Nat} (hv : v < fm.length) (hu : u < n) (h : ∀ w, atN fm w < 2 ^ n) : ∀ w, atN (ZbG fm v u) w < 2 ^ n := by
 intro w;rw [Znl hv];split
 ·exact Nat.or_lt_two_pow (h v) (Nat.pow_lt_pow_right (by decide) hu)
 ·exact h w
structure Dec (n : Nat) (l : List NA) (k : Nat) (fm D : List Nat) : Prop where
 len : fm.length = n
 lt : ∀ w, atN fm w < 2 ^ n
 asc : Asc D
 below : ∀ i, i ∈ D → i < k
 adm : ∀ R, Part n 0 R.reverse → (Zd7 (fmF fm) R ↔ ∀ j, j < k → (j ∈ D ↔ j ∈ ZcM R.reverse l))
 some : ∃ R, Part n 0 R.reverse ∧ Zd7 (fmF fm) R ∧ bkR (cnt l) R = Zbs n l
 first : ∀ R, Part n 0 R.reverse → bkR (cnt l) R = Zbs n l → (∀ j, j < k → (j ∈ D ↔ j ∈ ZcM R.reverse l)) ∨ ∃ j, j < k ∧ j ∈ D ∧ j ∉ ZcM R.reverse l ∧ ∀ i, i < j → (i ∈ D ↔ i ∈ ZcM R.reverse l)
theorem ZsU {α : Type} (p : α → Bool) (l : List α) : (l.filter p).length ≤ l.length := List.length_filter_le _ _
theorem atN_rep (n w : Nat) : atN (List.replicate n 0) w = 0 := by
 simp only [atN, List.getElem?_replicate];split <;> rfl
theorem Zp7 (n : Nat) (R : List Nat) : Zd7 (fmF (List.replicate n 0)) R := by
 induction R with
 | nil => trivial
 | cons v P ih => exact ⟨ih, fun u hu => by rw [fmF, atN_rep, Nat.zero_testBit] at hu; cases hu⟩
theorem pow_pos' (n : Nat) : 0 < 2 ^ n := Nat.pow_pos (by decide)
theorem ZnW {n : Nat} {l : List NA} (h8 : n ≤ 8) {R : List Nat} (hR : Part n 0 R.reverse) : Zbs n l ≤ bkR (cnt l) R := by
 have := pow_pos' n;exact ZmD h8 _ _ R _ (by omega) (Zif.2 hR) (Zp7 n R)
theorem Zxz {n : Nat} {l : List NA} (hi : InN n l) {R : List Nat} (hR : Part n 0 R.reverse) : bkR (cnt l) R ≤ l.length := by
 rw [ZvE hi hR, Zrz]; exact ZsU _ _
theorem ZqX {n : Nat} {l : List NA} (h8 : n ≤ 8) (hi : InN n l) : Zbs n l ≤ l.length := by
 have hR : Part n 0 (List.range n).reverse.reverse := by rw [List.reverse_reverse]; exact Zyf n
 exact Nat.le_trans (ZnW h8 hR) (Zxz hi hR)
theorem Ztz {n : Nat} {l : List NA} (h8 : n ≤ 8) (hi : InN n l) (hl : l.length < 1048576) : Dec n l 0 (List.replicate n 0) [] where
 len := by simp
 lt := fun w => by rw [atN_rep]; exact pow_pos' n
 asc := List.Pairwise.nil
 below := by simp
 adm := fun R _ => ⟨fun _ j h => by omega, fun _ => Zp7 n R⟩
 some := by
  have := pow_pos' n;have := ZqX h8 hi;obtain ⟨R, h1, h2, h3⟩ := ZmV h8 (cnt l) (List.replicate n 0) (fun w => by rw [atN_rep]; exact pow_pos' n) (2 ^ n - 1) (by omega) (by have : Zcq n (cnt l) (List.replicate n 0) (2 ^ n - 1) = Zbs n l := rfl; omega);exact ⟨R, Zif.1 h1, h2, h3⟩
 first := fun R _ _ => .inl fun j h => by omega
theorem Zjz {n : Nat} {fm R : List Nat} {v u : Nat} (hv : v < fm.length) (hf : fm.length = n) (hu : u < n) (hR : Part n 0 R.reverse) : Zd7 (fmF (ZbG fm v u)) R ↔ Zd7 (fmF fm) R ∧ R.reverse.idxOf u < R.reverse.idxOf v := by
 have hn := ZjI.1 hR.nd;have hm : ∀ u, u < n → u ∈ R := fun u hu => List.mem_reverse.1 (Part.mem hR hu)
 rw [Zlt hn, Zlt hn];simp only [ZAc hv, Bool.or_eq_true, Bool.and_eq_true, decide_eq_true_eq];constructor
 ·intro h;exact ⟨fun w hw x hx => h w hw x (.inl hx), (h v (hm v (by omega)) u (.inr ⟨rfl, rfl⟩)).2⟩
 ·rintro ⟨h1, h2⟩ w hw x (hx | ⟨rfl, rfl⟩)
  ·exact h1 w hw x hx
  ·exact ⟨hm x hu, h2⟩
theorem Zu0 {n : Nat} {l : List NA} (h8 : n ≤ 8) (hi : InN n l) (hl : l.length < 1048576) {k : Nat} {a : NA} (ha : l[k]? = some a) {st : List Nat × List Nat} (h : Dec n l k st.1 st.2) :
  Dec n l (k + 1) (ZeH n (cnt l) (Zbs n l) k a st).1 (ZeH n (cnt l) (Zbs n l) k a st).2 := by
 obtain ⟨fm, D⟩ := st;dsimp only at h;have hin := hi a (List.mem_of_getElem? ha);have hkD : k ∉ D := fun hc => by have := h.below k hc; omega
 have hmem : ∀ M : List Nat, k ∈ ZcM M l ↔ bwd M a = true := fun M => by
  rw [Zu8];constructor
  ·rintro ⟨b, hb, h2⟩;rw [ha] at hb; cases hb; exact h2
  ·intro h2; exact ⟨a, ha, h2⟩
 have hpos := pow_pos' n;have hsz := ZqX h8 hi;simp only [ZeH];by_cases c : a.1 = a.2
 ·rw [if_pos c];have hnb : ∀ M : List Nat, k ∉ ZcM M l := fun M hc => ZAd ((hmem M).1 hc) c
  have hext : ∀ M : List Nat, (∀ j, j < k + 1 → (j ∈ D ↔ j ∈ ZcM M l)) ↔ ∀ j, j < k → (j ∈ D ↔ j ∈ ZcM M l) := fun M => by
   constructor
   ·intro h j hj; exact h j (by omega)
   ·intro h j hj;rcases Nat.lt_succ_iff_lt_or_eq.1 hj with h1 | rfl
    ·exact h j h1
    ·exact ⟨fun h => (hkD h).elim, fun h => (hnb M h).elim⟩
  exact {
   len := h.len
   lt := h.lt
   asc := h.asc
   below := fun i hi => by have := h.below i hi; omega
   adm := fun R hR => by rw [hext]; exact h.adm R hR
   some := h.some
   first := fun R hR hs => by
    rcases h.first R hR hs with h1 | ⟨j, h1, h2⟩
    ·exact .inl ((hext _).2 h1)
    ·exact .inr ⟨j, by omega, h2⟩ }
 ·rw [if_neg c];have hv1 : a.1 < fm.length := by rw [h.len]; exact hin.1
  have hv2 : a.2 < fm.length := by rw [h.len]; exact hin.2
  have hbw : ∀ M : List Nat, bwd M a = true ↔ M.idxOf a.2 < M.idxOf a.1 := fun M => by simp [bwd]
  by_cases c2 : ZdO n (cnt l) (ZbG fm a.1 a.2) = Zbs n l
  ·rw [if_pos c2];have hext : ∀ M : List Nat, (∀ j, j < k + 1 → (j ∈ D ++ [k] ↔ j ∈ ZcM M l)) ↔ (∀ j, j < k → (j ∈ D ↔ j ∈ ZcM M l)) ∧ bwd M a = true := fun M => by
    constructor
    ·intro h;refine ⟨fun j hj => ?_, (hmem M).1 ((h k (by omega)).1 (by simp))⟩;rw [← h j (by omega)];have : j ≠ k := by omega
     simp [this]
    ·rintro ⟨h1, h2⟩ j hj;rcases Nat.lt_succ_iff_lt_or_eq.1 hj with h3 | rfl
     ·rw [← h1 j h3];have : j ≠ k := by omega
      simp [this]
     ·exact ⟨fun _ => (hmem M).2 h2, fun _ => by simp⟩
   exact {
    len := by simp [ZbG, h.len]
    lt := orAt_lt hv1 hin.2 h.lt
    asc := List.pairwise_append.2 ⟨h.asc, List.pairwise_singleton _ _, fun x hx y hy => by rw [List.mem_singleton.1 hy]; exact h.below x hx⟩
    below := fun i hi => by
     rcases List.mem_append.1 hi with h1 | h1
     ·have := h.below i h1; omega
     ·rw [List.mem_singleton.1 h1]; omega
    adm := fun R hR => by rw [hext, Zjz hv1 h.len hin.2 hR, h.adm R hR, hbw]
    some := by
     obtain ⟨R, h1, h2, h3⟩ := ZmV h8 (cnt l) (ZbG fm a.1 a.2) (orAt_lt hv1 hin.2 h.lt) (2 ^ n - 1) (by omega) (by have e : Zcq n (cnt l) (ZbG fm a.1 a.2) (2 ^ n - 1) = ZdO n (cnt l) (ZbG fm a.1 a.2) := rfl; omega);exact ⟨R, Zif.1 h1, h2, h3.trans c2⟩
    first := fun R hR hs => by
     rcases h.first R hR hs with h1 | ⟨j, h1, h2, h3, h4⟩
     ·by_cases c3 : bwd R.reverse a = true
      ·exact .inl ((hext _).2 ⟨h1, c3⟩)
      ·refine .inr ⟨k, by omega, by simp, fun hc => c3 ((hmem _).1 hc), fun i hi => ?_⟩;rw [← h1 i hi];have : i ≠ k := by omega
       simp [this]
     ·refine .inr ⟨j, by omega, by simp [h2], h3, fun i hi => ?_⟩;rw [← h4 i hi];have : i ≠ k := by omega
      simp [this] }
  ·rw [if_neg c2];have hno : ∀ R : List Nat, Part n 0 R.reverse → Zd7 (fmF fm) R → bkR (cnt l) R = Zbs n l → bwd R.reverse a = false := by
    intro R hR hA hs;cases hb : bwd R.reverse a
    ·rfl
    ·exfalso;have h1 := (Zjz hv1 h.len hin.2 hR).2 ⟨hA, (hbw _).1 hb⟩;have h2 := ZmD h8 (cnt l) (ZbG fm a.1 a.2) R _ (by omega) (Zif.2 hR) h1;have e : Zcq n (cnt l) (ZbG fm a.1 a.2) (2 ^ n - 1) = ZdO n (cnt l) (ZbG fm a.1 a.2) := rfl;obtain ⟨R', g1, g2, g3⟩ := ZmV h8 (cnt l) (ZbG fm a.1 a.2) (orAt_lt hv1 hin.2 h.lt) (2 ^ n - 1) (by omega) (by omega);have := ZnW (l := l) h8 (Zif.1 g1);omega
   have hnb : ∀ R : List Nat, Part n 0 R.reverse → (R.reverse.idxOf a.1 < R.reverse.idxOf a.2 ↔ ¬ bwd R.reverse a = true) := fun R hR => by
    rw [hbw];have : R.reverse.idxOf a.1 ≠ R.reverse.idxOf a.2 := fun h => c (Zz3 (Part.mem hR hin.1) (Part.mem hR hin.2) h)
    omega
   have hext : ∀ M : List Nat, (∀ j, j < k + 1 → (j ∈ D ↔ j ∈ ZcM M l)) ↔ (∀ j, j < k → (j ∈ D ↔ j ∈ ZcM M l)) ∧ ¬ bwd M a = true := fun M => by
    constructor
    ·intro h;exact ⟨fun j hj => h j (by omega), fun hb => hkD ((h k (by omega)).2 ((hmem M).2 hb))⟩
    ·rintro ⟨h1, h2⟩ j hj;rcases Nat.lt_succ_iff_lt_or_eq.1 hj with h3 | rfl
     ·exact h1 j h3
     ·exact ⟨fun h => (hkD h).elim, fun h => (h2 ((hmem M).1 h)).elim⟩
   exact {
    len := by simp [ZbG, h.len]
    lt := orAt_lt hv2 hin.1 h.lt
    asc := h.asc
    below := fun i hi => by have := h.below i hi; omega
    adm := fun R hR => by rw [hext, Zjz hv2 h.len hin.1 hR, h.adm R hR, hnb R hR]
    some := by
     obtain ⟨R, h1, h2, h3⟩ := h.some;refine ⟨R, h1, (Zjz hv2 h.len hin.1 h1).2 ⟨h2, (hnb R h1).2 ?_⟩, h3⟩;rw [hno R h1 h2 h3]; decide
    first := fun R hR hs => by
     rcases h.first R hR hs with h1 | ⟨j, h1, h2⟩
     ·refine .inl ((hext _).2 ⟨h1, ?_⟩);rw [hno R hR ((h.adm R hR).2 h1) hs]; decide
     ·exact .inr ⟨j, by omega, h2⟩ }
theorem dec_all {n : Nat} {l : List NA} (h8 : n ≤ 8) (hi : InN n l) (hl : l.length < 1048576) : ∀ k, k ≤ l.length → Dec n l k (Zcb n (cnt l) (Zbs n l) l k).1 (Zcb n (cnt l) (Zbs n l) l k).2
 | 0, _ => Ztz h8 hi hl
 | k + 1, hk => by
  have ha := List.getElem?_eq_getElem (show k < l.length by omega);rw [Zcb, ha];exact Zu0 h8 hi hl ha (dec_all h8 hi hl k (by omega))
end Go.Cy
namespace Go.PS
open Go
theorem Zm0 {n : Nat} (h : n < 9223372036854775808) : IntKind.i64.wrap (n : Int) = n := by
 rw [IntKind.wrap_i64]; omega
theorem Zhe (a : Nat) : BitVec.ofInt 64 (a : Int) = BitVec.ofNat 64 a := BitVec.ofInt_natCast _ _
theorem ZhO {a : Nat} (h : a < 9223372036854775808) : (BitVec.ofNat 64 a).toNat = a := by
 rw [BitVec.toNat_ofNat, Nat.mod_eq_of_lt]; omega
theorem Zwq {a b : Nat} (ha : a < 9223372036854775808) (hb : b < 9223372036854775808) : IntKind.i64.wrap ((BitVec.ofInt 64 (a : Int) &&& BitVec.ofInt 64 (b : Int)).toNat : Int) = ((a &&& b : Nat) : Int) := by
 rw [Zhe, Zhe, BitVec.toNat_and, ZhO ha, ZhO hb];exact Zm0 (Nat.lt_of_le_of_lt Nat.and_le_left ha)
theorem ZoJ {a b : Nat} (ha : a < 9223372036854775808) (hb : b < 9223372036854775808) : IntKind.i64.wrap ((BitVec.ofInt 64 (a : Int) ||| BitVec.ofInt 64 (b : Int)).toNat : Int) = ((a ||| b : Nat) : Int) := by
 rw [Zhe, Zhe, BitVec.toNat_or, ZhO ha, ZhO hb];exact Zm0 (Nat.or_lt_two_pow (n := 63) ha hb)
def Zet (a b : Nat) : Nat := a ^^^ (a &&& b)
theorem ZjA (a b i : Nat) : (Zet a b).testBit i = (a.testBit i && !b.testBit i) := by
 simp only [Zet, Nat.testBit_xor, Nat.testBit_and];cases a.testBit i <;> cases b.testBit i <;> rfl
theorem ZnG {a b : Nat} (ha : a < 9223372036854775808) (hb : b < 9223372036854775808) : IntKind.i64.wrap ((BitVec.ofInt 64 (a : Int) &&& ~~~BitVec.ofInt 64 (b : Int)).toNat : Int) = ((Zet a b : Nat) : Int) := by
 have e : (BitVec.ofNat 64 a &&& ~~~BitVec.ofNat 64 b).toNat = Zet a b := by
  refine Nat.eq_of_testBit_eq fun i => ?_
  rw [ZjA, BitVec.testBit_toNat, BitVec.getLsbD_and, BitVec.getLsbD_not];rw [← BitVec.testBit_toNat, ZhO ha, ← BitVec.testBit_toNat, ZhO hb];rcases Nat.lt_or_ge i 64 with h | h
  ·simp [h]
  ·have : a.testBit i = false := Nat.testBit_lt_two_pow (Nat.lt_of_lt_of_le ha (Nat.le_trans (by decide : 9223372036854775808 ≤ 2 ^ 64) (Nat.pow_le_pow_right (n := 2) (by decide) h)));simp [this]
 rw [Zhe, Zhe, e];refine Zm0 (Nat.lt_of_le_of_lt ?_ ha);refine Nat.le_of_not_lt fun h => ?_
 have : Zet a b ≤ a := by
  have h1 := Nat.and_le_left (n := a) (m := Zet a b);have h2 : a &&& Zet a b = Zet a b := by
   refine Nat.eq_of_testBit_eq fun i => ?_
   rw [Nat.testBit_and, ZjA]; cases a.testBit i <;> rfl
  rw [h2] at h1; exact h1
 omega
theorem Zwu {a b n : Nat} (ha : a < 2 ^ n) : Zet a b = 0 ↔ Go.Cy.inB n a b = true := by
 rw [Go.Cy.inB_iff];constructor
 ·intro h u _ hu;have := ZjA a b u;rw [h, Nat.zero_testBit, hu] at this;simpa using this.symm
 ·intro h;refine Nat.eq_of_testBit_eq fun u => ?_
  rw [ZjA, Nat.zero_testBit];rcases Nat.lt_or_ge u n with hu | hu
  ·cases hb : a.testBit u
   ·rfl
   ·rw [h u hu hb]; rfl
  ·rw [Nat.testBit_lt_two_pow (Nat.lt_of_lt_of_le ha (Nat.pow_le_pow_right (by decide) hu))]; rfl
theorem Zsx : ∀ s : Nat, s < 256 → ∀ v : Nat, v < 8 → s.testBit v = true → Zet s (2 ^ v) = s - 2 ^ v := by decide +kernel
theorem Zy2 : ∀ s : Nat, s < 256 → ∀ v : Nat, v < 8 → IntKind.i64.wrap ((BitVec.ofInt 64 ((s : Int).fdiv (2 ^ min v 64)) &&& 1#64).toNat : Int) = if s.testBit v then 1 else 0 := by decide +kernel
theorem Zjl : ∀ n : Nat, n ≤ 8 → IntKind.i64.wrap (1 * 2 ^ min n 64) = ((2 ^ n : Nat) : Int) := by decide +kernel
end Go.PS
namespace Go.Hp
def at0 (l : List Nat) (i : Nat) : Nat := (l[i]?).getD 0
def Zjs (l : List Nat) (i j : Nat) : List Nat := (l.set i (at0 l j)).set j (at0 l i)
def upN : Nat → List Nat → Nat → List Nat
 | 0, l, _ => l
 | f + 1, l, j => if (j - 1) / 2 = j ∨ ¬ at0 l j < at0 l ((j - 1) / 2) then l else upN f (Zjs l ((j - 1) / 2) j) ((j - 1) / 2)
def kid (l : List Nat) (i n : Nat) : Nat := if 2 * i + 2 < n ∧ at0 l (2 * i + 2) < at0 l (2 * i + 1) then 2 * i + 2 else 2 * i + 1
def ZmM : Nat → List Nat → Nat → Nat → List Nat
 | 0, l, _, _ => l
 | f + 1, l, i, n => if n ≤ 2 * i + 1 then l else if ¬ at0 l (kid l i n) < at0 l i then l else ZmM f (Zjs l i (kid l i n)) (kid l i n) n
def Zq0 (l : List Nat) (x : Nat) : List Nat := upN (l.length + 1) (l ++ [x]) l.length
def ZkB (l : List Nat) : List Nat := ZmM l.length (Zjs l 0 (l.length - 1)) 0 (l.length - 1)
def Znu (l : List Nat) : Nat := at0 (ZkB l) (l.length - 1)
def ZrK (l : List Nat) : List Nat := (ZkB l).take (l.length - 1)
end Go.Hp
namespace Go.Cy
def inC (l : List NA) (o : List Nat) (w : Nat) : Nat := (l.filter fun a => decide (a.2 = w) && !decide (a.1 ∈ o)).length
def hds (l : List NA) (v : Nat) : List Nat := (l.filter fun a => decide (a.1 = v)).map (·.2)
def occ (l : List Nat) (w : Nat) : Nat := (l.filter fun u => decide (u = w)).length
theorem ZmP (x : Nat) (l : List Nat) (w : Nat) : occ (x :: l) w = (if x = w then 1 else 0) + occ l w := by
 simp only [occ, List.filter_cons];by_cases c : x = w
 ·rw [if_pos (by simp [c]), if_pos c]; simp; omega
 ·rw [if_neg (by simp [c]), if_neg c]; simp
theorem ZuD {l : List NA} {o : List Nat} {w : Nat} : inC l o w = 0 ↔ ∀ a, a ∈ l → a.2 = w → a.1 ∈ o := by
 simp only [inC, List.length_eq_zero_iff, List.filter_eq_nil_iff, Bool.and_eq_true, decide_eq_true_eq, Bool.not_eq_true', decide_eq_false_iff_not, not_and, Classical.not_not]
structure Kahn (n : Nat) (l : List NA) (q o : List Nat) (op : Nat → Nat) : Prop where
 nd : (q ++ o).Nodup
 lt : ∀ v, v ∈ q ++ o → v < n
 num : ∀ w, w < n → op w = inC l o w
 zero : ∀ w, w < n → (w ∈ q ++ o ↔ op w = 0)
 peel : ZgR l o.reverse
structure KahnI (n : Nat) (l : List NA) (q o : List Nat) (r : List Nat) (op : Nat → Nat) : Prop where
 nd : (q ++ o).Nodup
 lt : ∀ v, v ∈ q ++ o → v < n
 num : ∀ w, w < n → op w = inC l o w + occ r w
 zero : ∀ w, w < n → (w ∈ q ++ o ↔ op w = 0)
 peel : ZgR l o.reverse
theorem KahnI.done {n : Nat} {l : List NA} {q o : List Nat} {op : Nat → Nat} (h : KahnI n l q o [] op) : Kahn n l q o op :=
 ⟨h.nd, h.lt, fun w hw => by rw [h.num w hw]; rfl, h.zero, h.peel⟩
theorem KahnI.pos {n : Nat} {l : List NA} {q o r : List Nat} {op : Nat → Nat} {w : Nat} (h : KahnI n l q o (w :: r) op) (hw : w < n) : 0 < op w := by
 have := h.num w hw;rw [ZmP, if_pos rfl] at this; omega
theorem KahnI.keep {n : Nat} {l : List NA} {q o r : List Nat} {op op' : Nat → Nat} {w : Nat} (h : KahnI n l q o (w :: r) op) (hw : w < n) (h' : ∀ u, u < n → op' u = if u = w then op w - 1 else op u) (hne : op w ≠ 1) : KahnI n l q o r op' := by
 have hpos := h.pos hw;refine ⟨h.nd, h.lt, fun u hu => ?_, fun u hu => ?_, h.peel⟩
 ·have := h.num u hu;rw [ZmP] at this;rw [h' u hu];by_cases c : u = w
  ·subst c; rw [if_pos rfl] at this ⊢; omega
  ·rw [if_neg c]; rw [if_neg (Ne.symm c)] at this; omega
 ·rw [h.zero u hu, h' u hu];by_cases c : u = w
  ·subst c; rw [if_pos rfl]; omega
  ·rw [if_neg c]
theorem KahnI.push {n : Nat} {l : List NA} {q o r : List Nat} {op op' : Nat → Nat} {w : Nat} (h : KahnI n l q o (w :: r) op) (hw : w < n) (h' : ∀ u, u < n → op' u = if u = w then op w - 1 else op u) (he : op w = 1) {q' : List Nat} (hq : q'.Perm (q ++ [w])) : KahnI n l q' o r op' := by
 have hno : w ∉ q ++ o := fun hc => by have := (h.zero w hw).1 hc; omega
 have hmem : ∀ u, u ∈ q' ++ o ↔ u ∈ q ++ o ∨ u = w := fun u => by
  simp only [List.mem_append, hq.mem_iff, List.mem_cons, List.not_mem_nil, or_false];constructor
  ·rintro ((h | h) | h)
   ·exact .inl (.inl h)
   ·exact .inr h
   ·exact .inl (.inr h)
  ·rintro ((h | h) | h)
   ·exact .inl (.inl h)
   ·exact .inr h
   ·exact .inl (.inr h)
 have hp : (q' ++ o).Perm (w :: (q ++ o)) := by
  refine (List.Perm.append_right o hq).trans ?_;rw [List.append_assoc];exact (List.perm_middle (a := w) (l₁ := q) (l₂ := o))
 refine ⟨hp.nodup_iff.2 (List.nodup_cons.2 ⟨hno, h.nd⟩), fun u hu => ?_, fun u hu => ?_, fun u hu => ?_, h.peel⟩
 ·rcases (hmem u).1 hu with h1 | rfl
  ·exact h.lt u h1
  ·exact hw
 ·have := h.num u hu;rw [ZmP] at this;rw [h' u hu];by_cases c : u = w
  ·subst c; rw [if_pos rfl] at this ⊢; omega
  ·rw [if_neg c]; rw [if_neg (Ne.symm c)] at this; omega
 ·rw [hmem, h' u hu];by_cases c : u = w
  ·subst c; rw [if_pos rfl];exact ⟨fun _ => by omega, fun _ => .inr rfl⟩
  ·rw [if_neg c, ← h.zero u hu];exact ⟨fun h => h.resolve_right c, .inl⟩
theorem Kahn.fin {n : Nat} {l : List NA} {o : List Nat} {op : Nat → Nat} (h : Kahn n l [] o op) (hi : InN n l) (hl : ∀ a, a ∈ l → a.1 ≠ a.2) : ¬ o.length < n ↔ Acy l := by
 constructor
 ·intro hlen;exact h.peel.all hi fun v hv => List.mem_reverse.2 (Zoa (by simpa using h.nd) (fun u hu => h.lt u (by simpa using hu)) (by omega) v hv)
 ·intro ha hlen;have hs : Zp5 n l o.reverse := by
   intro v hv hno hsrc;have hno' : v ∉ [] ++ o := by simpa using hno
   apply hno';rw [h.zero v hv, h.num v hv, ZuD];intro a ha h2;exact List.mem_reverse.1 (hsrc a ha h2 (by rw [← h2]; exact hl a ha))
  have hall := ZxH hi ha hs;have h2 : n ≤ o.length := by
   have hsub : ∀ {a b : List Nat}, a.Nodup → (∀ x, x ∈ a → x ∈ b) → a.length ≤ b.length := by
    intro a
    induction a with
    | nil => intro b _ _; simp
    | cons x a ih =>
     intro b hn hs;have hn' := List.nodup_cons.1 hn;have hx := hs x (by simp);have := ih (b := b.erase x) hn'.2 fun y hy => (List.mem_erase_of_ne (fun e => hn'.1 (by rw [← e]; exact hy))).2 (hs y (List.mem_cons_of_mem _ hy))
     rw [List.length_erase_of_mem hx] at this;have := List.length_pos_of_mem hx;simp; omega
   have := hsub (a := List.range n) (b := o) List.nodup_range fun v hv => List.mem_reverse.1 (hall v (List.mem_range.1 hv))
   simpa using this
  omega
end Go.Cy
namespace Go.PS
open Go Go.ChangeShapes Go.WideShapes Go.RowKit Go.Deep
theorem ZzE {P : Program} {w : World} {g : Nat} (hg : P.globalNamed "math/bits.deBruijn64tab" = some g) (h : Lib.TabIs P w "math/bits.deBruijn64tab" .u8 Zd6) : Zd8 (tabs P) w noX := by
 intro q hq;rw [tabs, hg] at hq;obtain rfl := List.mem_singleton.1 hq;have hc := fun i hi => h.cell hg i hi
 refine ⟨?_, fun h => h, fun j v hj => ?_⟩
 ·exact ZhW (hc 0 (by decide))
 ·have hl := (List.getElem?_eq_some_iff.1 hj).1;rw [hc j hl, List.getD_eq_getElem?_getD, hj]; rfl
section
variable {H : Type} {enc : TypeId × Value → H}
theorem ZvA {a : Assume} {C : Checked} {os : Os} {f : FuncId} {fn : Func} {s : ChangeSpec} {tb : TypeId} {L : List (String × DataW Unit)}
  (own : ownKnob C.prog.godebug = none) (started : os.Started) (noInit : C.prog.inits.idxOf? f = none) (hfn : C.prog.funcs[f]? = some fn)
  (witness : ∃ (w : World) (tape : Tape) (i : Input), w.os = os ∧ (w.forCall tape i).Shaped C.prog ∧ i.vars = [] ∧ Input.okWide C.prog (w.forCall tape i) .any w.heap.size f i ∧
   ((s.pre enc C.prog fn [] false (w.forCall tape i).memory i.args ∧ laidMetH C.prog L (w.forCall tape i).memory) ∧ sizedMet enc C.prog fn (OpenSpec.ofChange s) false (w.forCall tape i).memory i.args) ∧ a.holds C.prog (lone (Frame.enter C.prog f i.args .normal) [] (w.forCall tape i)))
  (hl : laidOutB C.prog = true) (hpl : (fn.params.toList.all fun t => Zcu C.prog 8 t && C.prog.readableRec t && decide (t < C.prog.types.size)) = true)
  (hres : fn.resultTypes = #[tb]) (hbool : C.prog.underlying tb = some .bool) (hvars : s.vars = [])
  (hs : ∀ ds : List (DataW H), ds.length = fn.params.size → s.fn H ds = { results := [.lit (.bool true)], args := ds })
  (hcall : ∀ xs : List D, xs.length = fn.params.size → (∀ (j : Nat) t x, fn.params[j]? = some t → xs[j]? = some x → Zh1 C.prog t x) → Zaa C.prog f xs (.bool true))
  (htabs : ∀ w, laidMetH C.prog L w → Zd8 (tabs C.prog) w noX) :
  ReturnsInHanded a C os f .any (fun w args => (s.pre enc C.prog fn [] false w args ∧ laidMetH C.prog L w) ∧ sizedMet enc C.prog fn (OpenSpec.ofChange s) false w args) (s.post enc C.prog fn false true false false) := by
 refine returnsInHanded_of_change_and (X := fun w _ => laidMetH C.prog L w) (fun _ _ _ hh h => h.of_heap hh) own started noInit hfn witness ?_;intro W base' args ds gs before hval hW _ hwt hL _;have hW' := hW;obtain ⟨p, q, hA, hV, rfl, _, _⟩ := hW;rw [hvars] at hV;obtain ⟨rfl, rfl⟩ := trodVars_none hV;simp only [List.all_eq_true, Bool.and_eq_true, decide_eq_true_eq] at hpl;obtain ⟨xs, h1, h2, h3, h4, h5⟩ := ZrO fn.params.toList args.toList ds p (fun t ht => (hpl t ht).1.1) (fun j t v hj hv => hval j t v (by simpa using hj) (by simpa using hv)) hA (fun j t d hj hd => Zqn hwt (j := j) (by rw [List.getElem?_append_left (List.getElem?_eq_some_iff.1 hj).1]; exact hj) (by rw [List.append_nil]; exact hd));have hc := hcall xs (by simpa using h1) (fun j t x hj hx => h4 j t x (by simpa using hj) hx);refine Calls.mono (hc.2 W noX args (fun b hb => hb.elim) ⟨by simp at h1 h2; omega, fun j d v hj hv => h5 j d v hj (by simpa using hv)⟩ (htabs W hL)) ?_;rintro e W' ⟨v, rfl, hv, hb⟩;refine ⟨v, rfl, ?_⟩;cases hv;have hlt : ∀ x ∈ p, x.block < W.heap.size := fun x hx => hW'.lt x (by simpa using hx)
 have hfn2 := hs ds (by simpa using h3);refine ⟨ds, [], p ++ [], [], p, [], hW', ?_, ?_, ?_, World.keptBut_mono (fun x hx => ⟨hx, .inr (.inl (by simpa using hx))⟩) (hb.frame (· ∈ p ++ [])), (fun h => by cases h)⟩
 ·rw [List.append_nil, hfn2, hres];exact ⟨[], [], ⟨1, by simp [DataW.trod, Value.cells, hbool]⟩, rfl, rfl⟩
 ·rw [List.append_nil, hfn2];exact Zvz hl hb _ _ _ _ (fun t ht => ⟨(hpl t ht).1.2, (hpl t ht).2⟩) hlt hA
 ·rw [hvars, List.append_nil, hfn2];rfl
end
end Go.PS
