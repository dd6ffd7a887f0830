/- Stable sorting: the symmetric merge, where one side is one element. -/
import Derived.Test.YtjjbhjnpeenbkaaGreatDoorStE
import Derived.Test.YtjjbhjnpeenbkaaGreatDoorPSCmp
set_option linter.unusedSimpArgs false
set_option linter.unusedVariables false
set_option maxHeartbeats 16000000
namespace Go.Proofs.YtjjbhjnpeenbkaaGreatDoor
open Go Go.PS Go.Proofs
open Go.Stb
set_option maxRecDepth 100000
attribute [local irreducible] Zab wpG Zaa Zaf

theorem Zjf {x : Int} (h : 0 ≤ x) (h2 : x ≤ 18446744073709551615) : IntKind.u64.wrap x = x := by
 simp [IntKind.wrap, IntKind.bits, IntKind.signed];omega
theorem ZiX {x : Int} (h : 0 ≤ x) : x.fdiv (2 ^ min 1 64) = x / 2 := by
 rw [Int.fdiv_eq_ediv_of_nonneg _ (by decide)]; rfl
def ZaS (P A Q : List Nat) (y : Nat) (k : Nat) : List Nat := P ++ A.take k ++ y :: (A.drop k ++ Q)
theorem Zn8 {P A Q : List Nat} {y k : Nat} (hk : k ≤ A.length) : (ZaS P A Q y k).length = P.length + A.length + 1 + Q.length := by
 simp only [ZaS, List.length_append, List.length_cons, List.length_take, List.length_drop]; omega
theorem Zpg {P A Q : List Nat} {y k : Nat} (hk : k ≤ A.length) : (ZaS P A Q y k)[P.length + k]? = some y := by
 have : (P ++ A.take k).length = P.length + k := by rw [List.length_append, List.length_take]; omega
 rw [ZaS, ← this]; exact Zgu _ _ _
theorem Zr9 {P A Q : List Nat} {y k x : Nat} (hx : A[k]? = some x) : (ZaS P A Q y k)[P.length + k + 1]? = some x := by
 have hk := (List.getElem?_eq_some_iff.1 hx).1;have e : ZaS P A Q y k = (P ++ A.take k ++ [y]) ++ x :: (A.drop (k + 1) ++ Q) := by rw [ZaS, ZfY hx]; simp
 have : (P ++ A.take k ++ [y]).length = P.length + k + 1 := by simp only [List.length_append, List.length_take, List.length_cons, List.length_nil]; omega
 rw [e, ← this]; exact Zgu _ _ _
theorem ZrZ {P A Q : List Nat} {y k x : Nat} (hx : A[k]? = some x) : (ZaS P A Q y (k + 1))[P.length + k]? = some x := by
 have hk := (List.getElem?_eq_some_iff.1 hx).1;have e : ZaS P A Q y (k + 1) = (P ++ A.take k) ++ x :: (y :: (A.drop (k + 1) ++ Q)) := by rw [ZaS, ZaD hx]; simp
 have : (P ++ A.take k).length = P.length + k := by simp only [List.length_append, List.length_take]; omega
 rw [e, ← this]; exact Zgu _ _ _
theorem Zsb {P A Q : List Nat} {y k x : Nat} (hx : A[k]? = some x) : ((ZaS P A Q y k).set (P.length + k) x).set (P.length + k + 1) y = ZaS P A Q y (k + 1) := by
 have hk := (List.getElem?_eq_some_iff.1 hx).1;have l1 : (P ++ A.take k).length = P.length + k := by simp only [List.length_append, List.length_take]; omega
 have e : (ZaS P A Q y k).set (P.length + k) x = (P ++ A.take k ++ [x]) ++ x :: (A.drop (k + 1) ++ Q) := by rw [ZaS, ← l1, ZfZ, ZfY hx]; simp
 have l2 : (P ++ A.take k ++ [x]).length = P.length + k + 1 := by simp only [List.length_append, List.length_take, List.length_cons, List.length_nil]; omega
 rw [e, ← l2, ZfZ, ZaS, ZaD hx]; simp
theorem Zya {P A Q : List Nat} {y k x : Nat} (hx : A[k]? = some x) : ((ZaS P A Q y (k + 1)).set (P.length + k + 1) x).set (P.length + k) y = ZaS P A Q y k := by
 have hk := (List.getElem?_eq_some_iff.1 hx).1;have l1 : (P ++ A.take k).length = P.length + k := by simp only [List.length_append, List.length_take]; omega
 have l2 : (P ++ A.take (k + 1)).length = P.length + k + 1 := by simp only [List.length_append, List.length_take]; omega
 have e : (ZaS P A Q y (k + 1)).set (P.length + k + 1) x = (P ++ A.take k) ++ x :: (x :: (A.drop (k + 1) ++ Q)) := by rw [ZaS, ← l2, ZfZ, ZaD hx]; simp
 rw [e, ← l1, ZfZ, ZaS, ZfY hx]; simp
theorem ZtP (v : Nat → Int) (p : Nat → List D) (g : Nat) (c : Nat → Nat → Int) (R : Nat → Nat → Prop) (hR : Ord R) (hcmp : ∀ j k, Zaa Tryz.prog g [elD v p j, elD v p k] (.int (c j k)))
  (P B Q T : List Nat) (x : Nat) (hBs : B.Pairwise R) (hb : ∀ z, z ∈ B → Zda c R x z) (hne : ∀ z, z ∈ B → x ≠ z) (hT : T.Perm ([x] ++ B)) (hTs : T.Pairwise R) (N : Nat) (hN : P.length + (1 + B.length) + Q.length = N) (hN1 : N ≤ 1000000) (a m b : Int)
  (ha : a = P.length) (hm : m = (P.length + 1 : Nat)) (hbb : b = (P.length + 1 + B.length : Nat)) :
  Zaf Tryz.prog 281 [.ref 1000 2 0 N N, .int a, .int m, .int b, .d (.fn g [])] [(1000, .row 2 ((P ++ [x] ++ B ++ Q).map (elD v p)))] (.tup []) [(1000, .row 2 ((P ++ T ++ Q).map (elD v p)))] := by
 subst ha hm hbb;have hrow0 : P ++ [x] ++ B ++ Q = ZaS P B Q x 0 := by simp [ZaS]
 rw [hrow0];have hpl : ∀ k, k ≤ B.length → (ZaS P B Q x k).length = N := fun k hk => by rw [Zn8 hk]; omega
 have hpa : ∀ k, k ≤ B.length → (ZaS P B Q x k)[P.length + k]? = some x := fun k hk => Zpg hk
 have hpn : ∀ k z, B[k]? = some z → (ZaS P B Q x k)[P.length + k + 1]? = some z := fun k z => Zr9
 have hpu : ∀ k z, B[k]? = some z → ((ZaS P B Q x k).set (P.length + k) z).set (P.length + k + 1) x = ZaS P B Q x (k + 1) := fun k z => Zsb
 have hp0 : ∀ k z, B[k]? = some z → (ZaS P B Q x 0)[P.length + 1 + k]? = some z := fun k z hz => by
  have e : ZaS P B Q x 0 = P ++ x :: (B ++ Q) := by simp [ZaS]
  rw [e, List.getElem?_append_right (by omega), show P.length + 1 + k - P.length = k + 1 by omega, List.getElem?_cons_succ, List.getElem?_append_left (List.getElem?_eq_some_iff.1 hz).1, hz]
 have hend : ∀ i, i ≤ B.length → (∀ z, 0 < i → B[i - 1]? = some z → R z x) → (∀ z, B[i]? = some z → R x z) → P ++ T ++ Q = ZaS P B Q x i := fun i hi h1 h2 => by
  have h3 := Zlw hR hi hBs h1 h2;have h4 : (B.take i ++ x :: B.drop i).Perm ([x] ++ B) := by
   refine List.perm_middle.trans ?_;rw [List.take_append_drop]; exact List.Perm.refl _
  have : T = B.take i ++ x :: B.drop i := ZgE hR (hT.trans h4.symm) hTs h3;rw [this, ZaS]; simp
 generalize hA : P.length = A0 at *;generalize ZaS P B Q x = L at *;generalize P ++ T ++ Q = LT at *;have d1 : ((A0 + 1 : Nat) : Int) - (A0 : Int) = 1 := by omega
 refine kM Tryz.func281 ?_;intro B0 X w0;refine ZcK ?_;have g0 := hpa (0) (Nat.zero_le _);rw [Nat.add_zero] at g0;have l0 := hpl (0) (Nat.zero_le _);refine kw1 kO (kc1 d1) kc0 ?_;refine Zai (fun (q : Nat × Nat) => match q with | (i, j) => i ≤ j ∧ j ≤ B.length ∧ (∀ z, 0 < i → B[i - 1]? = some z → R z x) ∧ (∀ z, B[j]? = some z → R x z)) (fun (i, j) => [(0, .ref 1000 2 0 N N), (1, .int A0), (4, .d (.fn g [])), (10, .int ((A0 + 1 + i : Nat) : Int)), (11, .int ((A0 + 1 + j : Nat) : Int))]) (fun (i, j) => [(1000, .row 2 ((L 0).map (elD v p)))]) (fun (i, j) => j - i) (0, B.length) ?_ ?_ ?_
 ·exact ⟨Nat.zero_le _, Nat.le_refl _, fun z h => by omega, fun z hz => by rw [List.getElem?_eq_none (Nat.le_refl _)] at hz; cases hz⟩
 ·exact kN (kc1 @Nat.add_zero) []
 ·rintro ⟨i, j⟩ ⟨hij, hj, hlo, hhi⟩;dsimp only at hij hj hlo hhi ⊢;rcases Nat.lt_or_ge i j with hlt | hge
  ·obtain ⟨h, hh⟩ : ∃ h, h = (i + j) / 2 := ⟨_, rfl⟩;obtain ⟨z, hz⟩ := Zad (l := B) (k := h) (by omega);have hzm := List.mem_of_getElem? hz;have c1 := hcmp z x;have g1 := hp0 h z hz;have w1 : IntKind.u64.wrap (((A0 + 1 + i : Nat) : Int) + ((A0 + 1 + j : Nat) : Int)) = ((A0 + 1 + i : Nat) : Int) + ((A0 + 1 + j : Nat) : Int) := Zjf (by omega) (by omega);have w2 : (((A0 + 1 + i : Nat) : Int) + ((A0 + 1 + j : Nat) : Int)).fdiv (2 ^ min 1 64) = ((A0 + 1 + h : Nat) : Int) := by rw [ZiX (by omega)]; omega
   by_cases cc : c z x < 0
   ·repeat' first | refine ZaK rfl ?_ | refine ZaF ?_ | refine wR ?_ | (refine rc (c1) rfl ?_ ?_; (· first | rfl | simp (disch := omega) only [go_sem, simprocAttr, w1, w2, g1, g0, l0, cc])) | (refine ZaM rfl rfl (fun hc => ?_) (fun hc => ?_) <;> try simp only [hcL] at hc) | (refine ZaL _ rfl rfl (fun hc => ?_) (fun hc => ?_) <;> (try simp only [hcL] at hc) <;> try omega) | simp (disch := omega) only [go_sem, simprocAttr, w1, w2, g1, g0, l0, cc] | apply And.intro | omega | decide +kernel
    refine ⟨(h + 1, j), ?_, eL [] _ _ (by refine ⟨?_, ?_⟩ <;> (repeat' first | exact fmn | refine fmc ⟨(by first | rfl | (simp (disch := omega) only [go_sem, simprocAttr, inL, ← Int.natCast_add, Nat.add_assoc]; first | done | omega | (congr 1; done))), ?_⟩); done), ?_⟩
    ·exact ⟨by omega, by omega, fun y _ hy => by
      dsimp only at hy;rw [Nat.add_sub_cancel, hz, Option.some.injEq] at hy;rw [← hy]; exact (hb z hzm).1 cc, hhi⟩
    ·dsimp only; omega
   ·have hxz : R x z := by
     rcases hR.total x z (hne z hzm) with h1 | h1
     ·exact h1
     ·exact absurd ((hb z hzm).2 h1) cc
    repeat' first | refine ZaK rfl ?_ | refine ZaF ?_ | refine wR ?_ | (refine rc (c1) rfl ?_ ?_; (· first | rfl | simp (disch := omega) only [go_sem, simprocAttr, w1, w2, g1, g0, l0, cc])) | (refine ZaM rfl rfl (fun hc => ?_) (fun hc => ?_) <;> try simp only [hcL] at hc) | (refine ZaL _ rfl rfl (fun hc => ?_) (fun hc => ?_) <;> (try simp only [hcL] at hc) <;> try omega) | simp (disch := omega) only [go_sem, simprocAttr, w1, w2, g1, g0, l0, cc] | apply And.intro | omega | decide +kernel
    refine ⟨(i, h), ?_, kN kc0 [], ?_⟩
    ·exact ⟨by omega, by omega, hlo, fun y hy => by
      dsimp only at hy;rw [hz, Option.some.injEq] at hy;rw [← hy]; exact hxz⟩
    ·dsimp only; omega
  ·have : i = j := by omega
   subst this;have hfin := hend i hj hlo hhi;refine kw1 kO kc0 kc0 ?_;refine Zai (fun (k : Nat) => k ≤ i) (fun k => [(0, .ref 1000 2 0 N N), (10, .int ((A0 + 1 + i : Nat) : Int)), (13, .int ((A0 + k : Nat) : Int))]) (fun k => [(1000, .row 2 ((L k).map (elD v p)))]) (fun k => i - k) 0 ?_ ?_ ?_
   ·exact Nat.zero_le _
   ·exact kN (kc1 @Nat.add_zero) []
   ·intro k hk;have e1 : ((A0 + 1 + i : Nat) : Int) - 1 = ((A0 + i : Nat) : Int) := by omega
    rcases Nat.lt_or_ge k i with hlk | hgk
    ·obtain ⟨z, hz⟩ := Zad (l := B) (k := k) (by omega);have q1 := hpa (k) (by omega);have q2 := hpn k z hz;have q3 := hpu k z hz;have q4 := hpl (k) (by omega);have e2 : ((A0 + k : Nat) : Int) + 1 = ((A0 + k + 1 : Nat) : Int) := by omega
     have q5 : ((L k).set (A0 + k) z)[A0 + k + 1]? = some z := by rw [List.getElem?_set, if_neg (by omega), q2]
     have q6 : (((L k).map (elD v p)).set (A0 + k) (elD v p z))[A0 + k + 1]? = some (elD v p z) := by rw [← List.map_set, List.getElem?_map, q5]; rfl
     have q7 : (((L k).map (elD v p)).set (A0 + k) (elD v p z)).set (A0 + k + 1) (elD v p x) = (L (k + 1)).map (elD v p) := by rw [← q3, List.map_set, List.map_set]
     refine kw1 kO (kc8 e1 e2 q1 q2 q4 @List.length_set.{0} q6 q7) kc0 ?_;refine ⟨k + 1, ?_, kN (kc2 q7 @Nat.add_assoc) [], ?_⟩
     ·omega
     ·omega
    ·have : k = i := by omega
     subst this;refine kw1 kO (kc1 e1) kc0 ?_;refine ⟨_, Zbk.1 (kN (L := []) (M := [(1000, .row 2 (LT.map (elD v p)))]) (kc1 hfin) []), ?_⟩;exact ⟨⟨[], rfl, trivial⟩, fmc ⟨rfl, fmn⟩⟩
theorem ZzH (v : Nat → Int) (p : Nat → List D) (g : Nat) (c : Nat → Nat → Int) (R : Nat → Nat → Prop) (hR : Ord R) (hcmp : ∀ j k, Zaa Tryz.prog g [elD v p j, elD v p k] (.int (c j k)))
  (P A Q T : List Nat) (y : Nat) (hA2 : 2 ≤ A.length) (hAs : A.Pairwise R) (hb : ∀ z, z ∈ A → Zda c R z y) (hne : ∀ z, z ∈ A → z ≠ y) (hT : T.Perm (A ++ [y])) (hTs : T.Pairwise R) (N : Nat) (hN : P.length + (A.length + 1) + Q.length = N) (hN1 : N ≤ 1000000) (a m b : Int)
  (ha : a = P.length) (hm : m = (P.length + A.length : Nat)) (hbb : b = (P.length + A.length + 1 : Nat)) :
  Zaf Tryz.prog 281 [.ref 1000 2 0 N N, .int a, .int m, .int b, .d (.fn g [])] [(1000, .row 2 ((P ++ A ++ [y] ++ Q).map (elD v p)))] (.tup []) [(1000, .row 2 ((P ++ T ++ Q).map (elD v p)))] := by
 subst ha hm hbb;have hrow0 : P ++ A ++ [y] ++ Q = ZaS P A Q y A.length := by simp [ZaS]
 rw [hrow0];have hpl : ∀ k, k ≤ A.length → (ZaS P A Q y k).length = N := fun k hk => by rw [Zn8 hk]; omega
 have hpa : ∀ k, k ≤ A.length → (ZaS P A Q y k)[P.length + k]? = some y := fun k hk => Zpg hk
 have hpn : ∀ k z, A[k]? = some z → (ZaS P A Q y (k + 1))[P.length + k]? = some z := fun k z => ZrZ
 have hpu : ∀ k z, A[k]? = some z → ((ZaS P A Q y (k + 1)).set (P.length + k + 1) z).set (P.length + k) y = ZaS P A Q y k := fun k z => Zya
 have hp0 : ∀ k z, A[k]? = some z → (ZaS P A Q y A.length)[P.length + k]? = some z := fun k z hz => by
  have e : ZaS P A Q y A.length = P ++ (A ++ (y :: Q)) := by simp [ZaS]
  rw [e, List.getElem?_append_right (by omega), Nat.add_sub_cancel_left, List.getElem?_append_left (List.getElem?_eq_some_iff.1 hz).1, hz]
 have hend : ∀ i, i ≤ A.length → (∀ z, 0 < i → A[i - 1]? = some z → R z y) → (∀ z, A[i]? = some z → R y z) → P ++ T ++ Q = ZaS P A Q y i := fun i hi h1 h2 => by
  have h3 := Zlw hR hi hAs h1 h2;have h4 : (A.take i ++ y :: A.drop i).Perm (A ++ [y]) := by
   refine List.perm_middle.trans ?_;rw [List.take_append_drop]; exact List.perm_append_comm (l₁ := [y]) (l₂ := A)
  have : T = A.take i ++ y :: A.drop i := ZgE hR (hT.trans h4.symm) hTs h3;rw [this, ZaS]; simp
 generalize hA : P.length = A0 at *;generalize ZaS P A Q y = L at *;generalize P ++ T ++ Q = LT at *;have d1 : ((A0 + A.length : Nat) : Int) - (A0 : Int) = A.length := by omega
 have d2 : ((A0 + A.length + 1 : Nat) : Int) - ((A0 + A.length : Nat) : Int) = 1 := by omega
 have d3 : ¬ ((A.length : Int) = 1) := by omega
 refine kM Tryz.func281 ?_;intro B0 X w0;refine ZcK ?_;have g0 := hpa (A.length) (Nat.le_refl _);have l0 := hpl (A.length) (Nat.le_refl _);refine kw1 kO (kc3 d1 d2 d3) kc0 ?_;refine Zai (fun (q : Nat × Nat) => match q with | (i, j) => i ≤ j ∧ j ≤ A.length ∧ (∀ z, 0 < i → A[i - 1]? = some z → R z y) ∧ (∀ z, A[j]? = some z → R y z)) (fun (i, j) => [(0, .ref 1000 2 0 N N), (2, .int ((A0 + A.length : Nat) : Int)), (4, .d (.fn g [])), (14, .int ((A0 + i : Nat) : Int)), (15, .int ((A0 + j : Nat) : Int))]) (fun (i, j) => [(1000, .row 2 ((L A.length).map (elD v p)))]) (fun (i, j) => j - i) (0, A.length) ?_ ?_ ?_
 ·exact ⟨Nat.zero_le _, Nat.le_refl _, fun z h => by omega, fun z hz => by rw [List.getElem?_eq_none (Nat.le_refl _)] at hz; cases hz⟩
 ·exact kN (kc1 @Nat.add_zero) []
 ·rintro ⟨i, j⟩ ⟨hij, hj, hlo, hhi⟩;dsimp only at hij hj hlo hhi ⊢;rcases Nat.lt_or_ge i j with hlt | hge
  ·obtain ⟨h, hh⟩ : ∃ h, h = (i + j) / 2 := ⟨_, rfl⟩;obtain ⟨z, hz⟩ := Zad (l := A) (k := h) (by omega);have hzm := List.mem_of_getElem? hz;have c1 := hcmp y z;have g1 := hp0 h z hz;have w1 : IntKind.u64.wrap (((A0 + i : Nat) : Int) + ((A0 + j : Nat) : Int)) = ((A0 + i : Nat) : Int) + ((A0 + j : Nat) : Int) := Zjf (by omega) (by omega);have w2 : (((A0 + i : Nat) : Int) + ((A0 + j : Nat) : Int)).fdiv (2 ^ min 1 64) = ((A0 + h : Nat) : Int) := by rw [ZiX (by omega)]; omega
   by_cases cc : c y z < 0
   ·repeat' first | refine ZaK rfl ?_ | refine ZaF ?_ | refine wR ?_ | (refine rc (c1) rfl ?_ ?_; (· first | rfl | simp (disch := omega) only [go_sem, simprocAttr, w1, w2, g1, g0, l0, cc])) | (refine ZaM rfl rfl (fun hc => ?_) (fun hc => ?_) <;> try simp only [hcL] at hc) | (refine ZaL _ rfl rfl (fun hc => ?_) (fun hc => ?_) <;> (try simp only [hcL] at hc) <;> try omega) | simp (disch := omega) only [go_sem, simprocAttr, w1, w2, g1, g0, l0, cc] | apply And.intro | omega | decide +kernel
    refine ⟨(i, h), ?_, kN kc0 [], ?_⟩
    ·exact ⟨by omega, by omega, hlo, fun x hx => by
      dsimp only at hx;rw [hz, Option.some.injEq] at hx;rw [← hx]; exact (hb z hzm).1 cc⟩
    ·dsimp only; omega
   ·have hxz : R z y := by
     rcases hR.total z y (hne z hzm) with h1 | h1
     ·exact h1
     ·exact absurd ((hb z hzm).2 h1) cc
    repeat' first | refine ZaK rfl ?_ | refine ZaF ?_ | refine wR ?_ | (refine rc (c1) rfl ?_ ?_; (· first | rfl | simp (disch := omega) only [go_sem, simprocAttr, w1, w2, g1, g0, l0, cc])) | (refine ZaM rfl rfl (fun hc => ?_) (fun hc => ?_) <;> try simp only [hcL] at hc) | (refine ZaL _ rfl rfl (fun hc => ?_) (fun hc => ?_) <;> (try simp only [hcL] at hc) <;> try omega) | simp (disch := omega) only [go_sem, simprocAttr, w1, w2, g1, g0, l0, cc] | apply And.intro | omega | decide +kernel
    refine ⟨(h + 1, j), ?_, eL [] _ _ (by refine ⟨?_, ?_⟩ <;> (repeat' first | exact fmn | refine fmc ⟨(by first | rfl | (simp (disch := omega) only [go_sem, simprocAttr, inL, ← Int.natCast_add, Nat.add_assoc]; first | done | omega | (congr 1; done))), ?_⟩); done), ?_⟩
    ·exact ⟨by omega, by omega, fun x _ hx => by
      dsimp only at hx;rw [Nat.add_sub_cancel, hz, Option.some.injEq] at hx;rw [← hx]; exact hxz, hhi⟩
    ·dsimp only; omega
  ·have : i = j := by omega
   subst this;have hfin := hend i hj hlo hhi;refine kw1 kO kc0 kc0 ?_;refine Zai (fun (k : Nat) => i ≤ k ∧ k ≤ A.length) (fun k => [(0, .ref 1000 2 0 N N), (14, .int ((A0 + i : Nat) : Int)), (17, .int ((A0 + k : Nat) : Int))]) (fun k => [(1000, .row 2 ((L k).map (elD v p)))]) (fun k => k) A.length ?_ ?_ ?_
   ·exact ⟨hj, Nat.le_refl _⟩
   ·exact kN kc0 []
   ·rintro k ⟨hk1, hk2⟩;rcases Nat.lt_or_ge i k with hlk | hgk
    ·obtain ⟨k, rfl⟩ : ∃ m, k = m + 1 := ⟨k - 1, by omega⟩;obtain ⟨z, hz⟩ := Zad (l := A) (k := k) (by omega);have q1 := hpa (k + 1) (by omega);have q2 := hpn k z hz;have q3 := hpu k z hz;have q4 := hpl (k + 1) (by omega);have e1 : ((A0 + (k + 1) : Nat) : Int) - 1 = ((A0 + k : Nat) : Int) := by omega
     rw [← Nat.add_assoc] at q1 e1 ⊢;have q5 : ((L (k + 1)).set (A0 + k + 1) z)[A0 + k]? = some z := by rw [List.getElem?_set, if_neg (by omega), q2]
     have q6 : (((L (k + 1)).map (elD v p)).set (A0 + k + 1) (elD v p z))[A0 + k]? = some (elD v p z) := by rw [← List.map_set, List.getElem?_map, q5]; rfl
     have q7 : (((L (k + 1)).map (elD v p)).set (A0 + k + 1) (elD v p z)).set (A0 + k) (elD v p y) = (L k).map (elD v p) := by rw [← q3, List.map_set, List.map_set]
     refine kw1 kO (kc7 e1 q1 q2 q4 @List.length_set.{0} q6 q7) kc0 ?_;refine ⟨k, ?_, kN (kc1 q7) [], ?_⟩
     ·omega
     ·omega
    ·have : k = i := by omega
     subst this;refine kw1 kO kc0 kc0 ?_;refine ⟨_, Zbk.1 (kN (L := []) (M := [(1000, .row 2 (LT.map (elD v p)))]) (kc1 hfin) []), ?_⟩;exact ⟨⟨[], rfl, trivial⟩, fmc ⟨rfl, fmn⟩⟩
def Zor (v : Nat → Int) (p : Nat → List D) (g : Nat) (c : Nat → Nat → Int) (R : Nat → Nat → Prop) (N : Nat) (P A B Q : List Nat) : Prop :=
 ∀ T : List Nat, 0 < A.length → 0 < B.length → A.Pairwise R → B.Pairwise R → (∀ s, s ∈ A → ∀ z, z ∈ B → Zda c R s z) → (A ++ B).Nodup → T.Perm (A ++ B) → T.Pairwise R → P.length + A.length + B.length + Q.length = N →
  ∀ a m b : Int, a = P.length → m = (P.length + A.length : Nat) → b = (P.length + A.length + B.length : Nat) →
  Zaf Tryz.prog 281 [.ref 1000 2 0 N N, .int a, .int m, .int b, .d (.fn g [])] [(1000, .row 2 ((P ++ A ++ B ++ Q).map (elD v p)))] (.tup []) [(1000, .row 2 ((P ++ T ++ Q).map (elD v p)))]
theorem Zxh (v : Nat → Int) (p : Nat → List D) (g : Nat) (c : Nat → Nat → Int) (R : Nat → Nat → Prop) (hR : Ord R) (hcmp : ∀ j k, Zaa Tryz.prog g [elD v p j, elD v p k] (.int (c j k))) (N : Nat) (hN1 : N ≤ 1000000)
  (P A B Q T : List Nat) (hA2 : 2 ≤ A.length) (hB2 : 2 ≤ B.length) (IH : ∀ P' A' B' Q', A'.length + B'.length < A.length + B.length → Zor v p g c R N P' A' B' Q')
  (hAs : A.Pairwise R) (hBs : B.Pairwise R) (hb : ∀ s, s ∈ A → ∀ z, z ∈ B → Zda c R s z) (hnd : (A ++ B).Nodup) (hT : T.Perm (A ++ B)) (hTs : T.Pairwise R) (hN : P.length + A.length + B.length + Q.length = N) :
  Zaf Tryz.prog 281 [.ref 1000 2 0 N N, .int P.length, .int (P.length + A.length : Nat), .int (P.length + A.length + B.length : Nat), .d (.fn g [])] [(1000, .row 2 ((P ++ A ++ B ++ Q).map (elD v p)))] (.tup []) [(1000, .row 2 ((P ++ T ++ Q).map (elD v p)))] := by
 have hne : ∀ s, s ∈ A → ∀ z, z ∈ B → s ≠ z := (List.nodup_append.1 hnd).2.2;have hndA := (List.nodup_append.1 hnd).1;have hndB := (List.nodup_append.1 hnd).2.1;generalize hA0 : P.length = A0 at *;obtain ⟨m, hm⟩ : ∃ m, m = A0 + A.length := ⟨_, rfl⟩;obtain ⟨b, hbb⟩ : ∃ b, b = A0 + A.length + B.length := ⟨_, rfl⟩;rw [← hbb, ← hm];obtain ⟨mid, hmid⟩ : ∃ mid, mid = (A0 + b) / 2 := ⟨_, rfl⟩;obtain ⟨n0, hn0⟩ : ∃ n0, n0 = mid + m := ⟨_, rfl⟩;obtain ⟨s0, r0, hsr⟩ : ∃ s0 r0 : Nat, (mid < m ∧ s0 = n0 - b ∧ r0 = mid) ∨ (¬ mid < m ∧ s0 = A0 ∧ r0 = m) := by
  by_cases h : mid < m
  ·exact ⟨n0 - b, mid, .inl ⟨h, rfl, rfl⟩⟩
  ·exact ⟨A0, m, .inr ⟨h, rfl, rfl⟩⟩
 -- the stretches at a split, and what is done with them
 have hgA : ∀ k x, A[k]? = some x → (P ++ A ++ B ++ Q)[A0 + k]? = some x := fun k x hx => by
  have h1 := (List.getElem?_eq_some_iff.1 hx).1;rw [List.append_assoc, List.append_assoc, List.getElem?_append_right (by omega), hA0, Nat.add_sub_cancel_left, List.getElem?_append_left h1, hx]
 have hgB : ∀ k x, B[k]? = some x → (P ++ A ++ B ++ Q)[m + k]? = some x := fun k x hx => by
  have h1 := (List.getElem?_eq_some_iff.1 hx).1;rw [List.append_assoc, List.getElem?_append_right (by rw [List.length_append]; omega), List.getElem?_append_left (by rw [List.length_append]; omega), show m + k - (P ++ A).length = k by rw [List.length_append]; omega, hx]
 have hl0 : (P ++ A ++ B ++ Q).length = N := by simp only [List.length_append]; omega
 have hfin : ∀ k q : Nat, A0 + k + q = mid → k ≤ A.length → q ≤ B.length → (∀ x y, 0 < k → A[k - 1]? = some x → B[q]? = some y → R x y) → (∀ x y, 0 < q → B[q - 1]? = some x → A[k]? = some y → R x y) →
   ∃ L1 L2 : List Nat, 
    ((k < A.length ∧ 0 < q) → Zaf Tryz.prog 290 [.ref 1000 2 0 N N, .int (A0 + k : Nat), .int m, .int (m + q : Nat), .d (.fn g [])] [(1000, .row 2 ((P ++ A ++ B ++ Q).map (elD v p)))] (.tup []) [(1000, .row 2 (L1.map (elD v p)))]) ∧
    (¬ (k < A.length ∧ 0 < q) → P ++ A ++ B ++ Q = L1) ∧
    ((0 < k ∧ 0 < q) → Zaf Tryz.prog 281 [.ref 1000 2 0 N N, .int A0, .int (A0 + k : Nat), .int mid, .d (.fn g [])] [(1000, .row 2 (L1.map (elD v p)))] (.tup []) [(1000, .row 2 (L2.map (elD v p)))]) ∧
    (¬ (0 < k ∧ 0 < q) → L1 = L2) ∧
    ((k < A.length ∧ q < B.length) → Zaf Tryz.prog 281 [.ref 1000 2 0 N N, .int mid, .int (m + q : Nat), .int b, .d (.fn g [])] [(1000, .row 2 (L2.map (elD v p)))] (.tup []) [(1000, .row 2 ((P ++ T ++ Q).map (elD v p)))]) ∧
    (¬ (k < A.length ∧ q < B.length) → L2 = P ++ T ++ Q) := by
  intro k q hkq hk hq h1 h2;obtain ⟨T1, T2, rfl, p1, p2, s1, s2⟩ := Zxi hR hk hq hAs hBs hTs hT hnd h1 h2;have lt := List.length_take (i := k) (l := A);have ld := List.length_drop (i := k) (l := A);have mt := List.length_take (i := q) (l := B);have md := List.length_drop (i := q) (l := B);have ea := List.take_append_drop k A;have eb := List.take_append_drop q B;have e1 := p1.length_eq;have e2 := p2.length_eq;rw [List.length_append] at e1 e2;have sa : (A.take k).Pairwise R ∧ (A.drop k).Pairwise R := by
   have := hAs;rw [← ea] at this;exact ⟨(List.pairwise_append.1 this).1, (List.pairwise_append.1 this).2.1⟩
  have sb : (B.take q).Pairwise R ∧ (B.drop q).Pairwise R := by
   have := hBs;rw [← eb] at this;exact ⟨(List.pairwise_append.1 this).1, (List.pairwise_append.1 this).2.1⟩
  have nd1 : (A.take k ++ B.take q).Nodup := List.nodup_append.2 ⟨hndA.sublist (List.take_sublist _ _), hndB.sublist (List.take_sublist _ _), fun s hs z hz => hne s (List.mem_of_mem_take hs) z (List.mem_of_mem_take hz)⟩;have nd2 : (A.drop k ++ B.drop q).Nodup := List.nodup_append.2 ⟨hndA.sublist (List.drop_sublist _ _), hndB.sublist (List.drop_sublist _ _), fun s hs z hz => hne s (List.mem_of_mem_drop hs) z (List.mem_of_mem_drop hz)⟩;refine ⟨P ++ A.take k ++ B.take q ++ A.drop k ++ B.drop q ++ Q, P ++ T1 ++ A.drop k ++ B.drop q ++ Q, ?_, ?_, ?_, ?_, ?_, ?_⟩
  ·rintro ⟨c1, c2⟩;have h := Zz6 v p g (P ++ A.take k) (A.drop k) (B.take q) (B.drop q ++ Q) (by omega) (by omega) N (by simp only [List.length_append]; omega) hN1 ((A0 + k : Nat) : Int) m ((m + q : Nat) : Int)
    (by rw [List.length_append]; omega) (by rw [List.length_append]; omega) (by rw [List.length_append]; omega)
   have r1 : P ++ A.take k ++ A.drop k ++ B.take q ++ (B.drop q ++ Q) = P ++ A ++ B ++ Q := by
    rw [List.append_assoc P, ea, List.append_assoc (P ++ A), ← List.append_assoc (B.take q), eb, ← List.append_assoc]
   have r2 : P ++ A.take k ++ B.take q ++ A.drop k ++ (B.drop q ++ Q) = P ++ A.take k ++ B.take q ++ A.drop k ++ B.drop q ++ Q := by simp
   rw [r1, r2] at h; exact h
  ·intro c1;by_cases c2 : k < A.length
   ·have : q = 0 := by
     by_cases c3 : 0 < q
     ·exact absurd ⟨c2, c3⟩ c1
     ·omega
    subst this;refine Eq.trans (congrArg (fun Z => P ++ Z ++ B ++ Q) ea.symm) ?_;simp
   ·have : k = A.length := by omega
    subst this;refine Eq.trans (congrArg (fun Z => P ++ A ++ Z ++ Q) eb.symm) ?_;simp
  ·rintro ⟨c1, c2⟩;have h := IH P (A.take k) (B.take q) (A.drop k ++ B.drop q ++ Q) (by omega) T1 (by omega) (by omega) sa.1 sb.1 (fun s hs z hz => hb s (List.mem_of_mem_take hs) z (List.mem_of_mem_take hz)) nd1 p1 s1 (by simp only [List.length_append]; omega)
    A0 ((A0 + k : Nat) : Int) mid (by omega) (by omega) (by omega)
   have r1 : P ++ A.take k ++ B.take q ++ (A.drop k ++ B.drop q ++ Q) = P ++ A.take k ++ B.take q ++ A.drop k ++ B.drop q ++ Q := by simp
   have r2 : P ++ T1 ++ (A.drop k ++ B.drop q ++ Q) = P ++ T1 ++ A.drop k ++ B.drop q ++ Q := by simp
   rw [r1, r2] at h; exact h
  ·intro c1;have : T1 = A.take k ++ B.take q := by
    refine ZgE hR p1 s1 ?_;rcases Nat.eq_zero_or_pos k with rfl | c2
    ·rw [List.take_zero, List.nil_append]; exact sb.1
    ·have : q = 0 := by
      by_cases c3 : 0 < q
      ·exact absurd ⟨c2, c3⟩ c1
      ·omega
     subst this;rw [List.take_zero, List.append_nil]; exact sa.1
   rw [this]; simp
  ·rintro ⟨c1, c2⟩;have h := IH (P ++ T1) (A.drop k) (B.drop q) Q (by omega) T2 (by omega) (by omega) sa.2 sb.2 (fun s hs z hz => hb s (List.mem_of_mem_drop hs) z (List.mem_of_mem_drop hz)) nd2 p2 s2 (by rw [List.length_append]; omega)
    mid ((m + q : Nat) : Int) b (by rw [List.length_append]; omega) (by rw [List.length_append]; omega) (by rw [List.length_append]; omega)
   have r2 : P ++ T1 ++ T2 ++ Q = P ++ (T1 ++ T2) ++ Q := by simp
   rw [r2] at h; exact h
  ·intro c1;have : T2 = A.drop k ++ B.drop q := by
    refine ZgE hR p2 s2 ?_;by_cases c2 : k < A.length
    ·have : q = B.length := by
      by_cases c3 : q < B.length
      ·exact absurd ⟨c2, c3⟩ c1
      ·omega
     subst this;rw [List.drop_length, List.append_nil]; exact sa.2
    ·have : k = A.length := by omega
     subst this;rw [List.drop_length, List.nil_append]; exact sb.2
   rw [this]; simp
 clear IH hT hTs;generalize P ++ A ++ B ++ Q = L0 at *;generalize P ++ T ++ Q = LT at *;have d1 : ¬ ((m : Int) - (A0 : Int) = 1) := by omega
 have d2 : ¬ ((b : Int) - (m : Int) = 1) := by omega
 have w1 : IntKind.u64.wrap ((A0 : Int) + (b : Int)) = (A0 : Int) + (b : Int) := Zjf (by omega) (by omega);have w2 : ((A0 : Int) + (b : Int)).fdiv (2 ^ min 1 64) = (mid : Int) := by rw [ZiX (by omega)]; omega
 have d3 : (mid : Int) + (m : Int) = (n0 : Int) := by omega
 have d4 : (n0 : Int) - 1 = ((n0 - 1 : Nat) : Int) := by omega
 obtain ⟨pp, hpp⟩ : ∃ pp, pp = n0 - 1 := ⟨_, rfl⟩;rw [← hpp] at d4;refine kM Tryz.func281 ?_;intro B0 X w0;refine ZcK ?_
 repeat' first | refine ZaK rfl ?_ | refine ZaF ?_ | refine wR ?_ | (refine ZaM rfl rfl (fun hc => ?_) (fun hc => ?_) <;> try simp only [hcL] at hc) | (refine ZaL _ rfl rfl (fun hc => ?_) (fun hc => ?_) <;> (try simp only [hcL] at hc) <;> try omega) | simp (disch := omega) only [go_sem, simprocAttr, d1, d2, d3, d4, w1, w2] | apply And.intro | omega | decide +kernel
 all_goals
  refine Zai (fun (q : Nat × Nat) => match q with | (s, r) => s0 ≤ s ∧ s ≤ r ∧ r ≤ r0 ∧ (s = s0 ∨ ∃ x y, A[s - 1 - A0]? = some x ∧ B[mid - s]? = some y ∧ R x y) ∧ (r = r0 ∨ ∃ x y, B[mid - r - 1]? = some x ∧ A[r - A0]? = some y ∧ R x y)) (fun (s, r) => [(0, .ref 1000 2 0 N N), (1, .int A0), (2, .int m), (3, .int b), (4, .d (.fn g [])), (18, .int mid), (19, .int n0), (20, .int s), (21, .int r), (22, .int pp)]) (fun (s, r) => [(1000, .row 2 (L0.map (elD v p)))]) (fun (s, r) => r - s) (s0, r0) ?_ ?_ ?_
  ·exact ⟨Nat.le_refl _, by omega, Nat.le_refl _, .inl rfl, .inl rfl⟩
  ·exact kN kc0 []
  ·rintro ⟨s, r⟩ ⟨h1, h2, h3, h4, h5⟩;dsimp only at h1 h2 h3 h4 h5 ⊢;rcases Nat.lt_or_ge s r with hlt | hge
   ·obtain ⟨cc, hcc⟩ : ∃ cc, cc = (s + r) / 2 := ⟨_, rfl⟩;obtain ⟨dd, hdd⟩ : ∃ dd, dd = pp - cc := ⟨_, rfl⟩;obtain ⟨x, hx⟩ := Zad (l := A) (k := cc - A0) (by omega);obtain ⟨y, hy⟩ := Zad (l := B) (k := mid - 1 - cc) (by omega);have g1 := hgA _ _ hx;have g2 := hgB _ _ hy;rw [show A0 + (cc - A0) = cc by omega] at g1;rw [show m + (mid - 1 - cc) = dd by omega] at g2;have c1 := hcmp y x;have hbk := hb x (List.mem_of_getElem? hx) y (List.mem_of_getElem? hy);have hn := hne x (List.mem_of_getElem? hx) y (List.mem_of_getElem? hy);have v1 : IntKind.u64.wrap ((s : Int) + (r : Int)) = (s : Int) + (r : Int) := Zjf (by omega) (by omega);have v2 : ((s : Int) + (r : Int)).fdiv (2 ^ min 1 64) = (cc : Int) := by rw [ZiX (by omega)]; omega
    have v3 : (pp : Int) - (cc : Int) = (dd : Int) := by omega
    by_cases hc1 : c y x < 0
    ·refine kw1 kO (kc7 v1 v2 v3 g1 g2 hl0 hc1) (kc1 c1) ?_;refine ⟨(s, cc), ?_, kN kc0 [], ?_⟩
     ·dsimp only;exact ⟨h1, by omega, by omega, h4, .inr ⟨y, x, by rw [show mid - cc - 1 = mid - 1 - cc by omega]; exact hy, hx, hbk.1 hc1⟩⟩
     ·dsimp only; omega
    ·have hxy : R x y := by
      rcases hR.total x y hn with h | h
      ·exact h
      ·exact absurd (hbk.2 h) hc1
     refine kw1 kO (kc7 v1 v2 v3 g1 g2 hl0 hc1) (kc1 c1) ?_;refine ⟨(cc + 1, r), ?_, kN kc0 [], ?_⟩
     ·dsimp only;exact ⟨by omega, by omega, h3, .inr ⟨x, y, by rw [show cc + 1 - 1 - A0 = cc - A0 by omega]; exact hx, by rw [show mid - (cc + 1) = mid - 1 - cc by omega]; exact hy, hxy⟩, h5⟩
     ·dsimp only; omega
   ·have : s = r := by omega
    subst this;obtain ⟨k, hk⟩ : ∃ k, k = s - A0 := ⟨_, rfl⟩;obtain ⟨q, hq⟩ : ∃ q, q = mid - s := ⟨_, rfl⟩;obtain ⟨L1, L2, f1, f2, f3, f4, f5, f6⟩ := hfin k q (by omega) (by omega) (by omega) (fun x y h0 hx hy => by
     rcases h4 with h4 | ⟨x', y', e1, e2, e3⟩
     ·rw [List.getElem?_eq_none (by omega)] at hy; cases hy
     ·rw [show s - 1 - A0 = k - 1 by omega, hx, Option.some.injEq] at e1;rw [← hq, hy, Option.some.injEq] at e2;rw [e1, e2]; exact e3) (fun x y h0 hx hy => by
     rcases h5 with h5 | ⟨x', y', e1, e2, e3⟩
     ·rw [List.getElem?_eq_none (by omega)] at hy; cases hy
     ·rw [show mid - s - 1 = q - 1 by omega, hx, Option.some.injEq] at e1;rw [← hk, hy, Option.some.injEq] at e2;rw [e1, e2]; exact e3)
    rw [show A0 + k = s by omega] at f1 f3;obtain ⟨en, hen⟩ : ∃ en, en = m + q := ⟨_, rfl⟩;rw [← hen] at f1 f5;have v4 : (n0 : Int) - (s : Int) = (en : Int) := by omega
    clear hfin hgA hgB hb hne h4 h5;by_cases c1 : k < A.length ∧ 0 < q <;> by_cases c2 : 0 < k ∧ 0 < q <;> by_cases c3 : k < A.length ∧ q < B.length
    all_goals
     try have f2 := f2 c1
     try have f4 := f4 c2
     try have f6 := f6 c3
     try subst f2
     try subst f4
     try subst f6
     repeat' first | refine ZaK rfl ?_ | refine ZaF ?_ | refine wR ?_ | refine rcM [] (f1 c1) rfl ?_ | refine rcM [] (f3 c2) rfl ?_ | refine rcM [] (f5 c3) rfl ?_ | (refine ZaM rfl rfl (fun hc => ?_) (fun hc => ?_) <;> try simp only [hcL] at hc) | (refine ZaL _ rfl rfl (fun hc => ?_) (fun hc => ?_) <;> (try simp only [hcL] at hc) <;> try omega) | simp (disch := omega) only [go_sem, simprocAttr, v4] | apply And.intro | omega | decide +kernel
     all_goals
      refine ⟨_, Zbk.1 (kN (L := []) (M := [(1000, .row 2 (_))]) kc0 []), ?_⟩
     all_goals exact ⟨⟨[], rfl, trivial⟩, fmc ⟨rfl, fmn⟩⟩
theorem ZtI (v : Nat → Int) (p : Nat → List D) (g : Nat) (c : Nat → Nat → Int) (R : Nat → Nat → Prop) (hR : Ord R) (hcmp : ∀ j k, Zaa Tryz.prog g [elD v p j, elD v p k] (.int (c j k))) (N : Nat) (hN1 : N ≤ 1000000) :
  ∀ (n : Nat) (P A B Q : List Nat), A.length + B.length < n → Zor v p g c R N P A B Q := by
 intro n
 induction n with
 | zero => intro P A B Q h; omega
 | succ n ih =>
  intro P A B Q hn T hA hB hAs hBs hb hnd hT hTs hN a m b ha hm hbb;subst ha hm hbb;have hne : ∀ s, s ∈ A → ∀ z, z ∈ B → s ≠ z := (List.nodup_append.1 hnd).2.2;by_cases c1 : A.length = 1
  ·obtain ⟨x, rfl⟩ := List.length_eq_one_iff.1 c1;exact ZtP v p g c R hR hcmp P B Q T x hBs (fun z hz => hb x (by simp) z hz) (fun z hz => hne x (by simp) z hz) hT hTs N (by rw [← hN, List.length_singleton]; omega) hN1 _ _ _ rfl rfl rfl
  ·by_cases c2 : B.length = 1
   ·obtain ⟨y, rfl⟩ := List.length_eq_one_iff.1 c2;exact ZzH v p g c R hR hcmp P A Q T y (by omega) hAs (fun z hz => hb z hz y (by simp)) (fun z hz => hne z hz y (by simp)) hT hTs N (by rw [← hN, List.length_singleton]; omega) hN1 _ _ _ rfl rfl rfl
   ·exact Zxh v p g c R hR hcmp N hN1 P A B Q T (by omega) (by omega) (fun P' A' B' Q' h => ih P' A' B' Q' (by omega)) hAs hBs hb hnd hT hTs hN
def Blk (R : Nat → Nat → Prop) (s : Nat) : List Nat → List (List Nat) → Prop
 | L, [] => L = []
 | L, X :: Xs => X.Perm (L.take s) ∧ X.Pairwise R ∧ Blk R s (L.drop s) Xs
theorem Blk.nil_flat {R : Nat → Nat → Prop} {s : Nat} : ∀ {Xs : List (List Nat)}, Blk R s [] Xs → Xs.flatten = []
 | [], _ => rfl
 | X :: Xs, h => by
  obtain ⟨h1, _, h3⟩ := h;rw [List.take_nil, List.perm_nil] at h1;rw [List.drop_nil] at h3;rw [List.flatten_cons, h1, Blk.nil_flat h3]; rfl
theorem Blk.nil_any {R : Nat → Nat → Prop} {s t : Nat} : ∀ {Xs : List (List Nat)}, Blk R s [] Xs → Blk R t [] Xs
 | [], h => h
 | X :: Xs, h => by
  obtain ⟨h1, h2, h3⟩ := h;rw [List.take_nil] at h1;rw [List.drop_nil] at h3;exact ⟨by rw [List.take_nil]; exact h1, h2, by rw [List.drop_nil]; exact Blk.nil_any h3⟩
theorem Blk.perm {R : Nat → Nat → Prop} {s : Nat} : ∀ {L : List Nat} {Xs : List (List Nat)}, Blk R s L Xs → Xs.flatten.Perm L
 | L, [], h => by
  have : L = [] := h;subst this; exact List.Perm.refl _
 | L, X :: Xs, h => by
  obtain ⟨h1, _, h3⟩ := h;have := h1.append (Blk.perm h3);rw [List.take_append_drop] at this;rw [List.flatten_cons]; exact this
theorem Blk.short {R : Nat → Nat → Prop} {s t : Nat} {L : List Nat} {Xs : List (List Nat)} (h : Blk R s L Xs) (hl : L.length ≤ s) (ht : L.length ≤ t) : Blk R t L Xs := by
 cases Xs with
 | nil => exact h
 | cons X Xs =>
  obtain ⟨h1, h2, h3⟩ := h;rw [List.drop_of_length_le hl] at h3;rw [List.take_of_length_le hl] at h1;exact ⟨by rw [List.take_of_length_le ht]; exact h1, h2, by rw [List.drop_of_length_le ht]; exact h3.nil_any⟩
theorem Blk.one {R : Nat → Nat → Prop} {s : Nat} {L : List Nat} {Xs : List (List Nat)} (h : Blk R s L Xs) (hl : L.length ≤ s) : Xs.flatten.Pairwise R := by
 cases Xs with
 | nil => exact List.Pairwise.nil
 | cons X Xs =>
  obtain ⟨h1, h2, h3⟩ := h;rw [List.drop_of_length_le hl] at h3;rw [List.flatten_cons, h3.nil_flat, List.append_nil]; exact h2
theorem Blk.two {R : Nat → Nat → Prop} {s : Nat} {L : List Nat} {Xs : List (List Nat)} (h : Blk R s L Xs) (hl : s < L.length) (hs : 0 < s) :
  ∃ X Y Ys, Xs = X :: Y :: Ys ∧ X.Perm (L.take s) ∧ Y.Perm ((L.drop s).take s) ∧ X.Pairwise R ∧ Y.Pairwise R ∧ Blk R s (L.drop (2 * s)) Ys := by
 cases Xs with
 | nil =>
  have : L = [] := h;subst this; simp at hl
 | cons X Xs =>
  obtain ⟨h1, h2, h3⟩ := h;cases Xs with
  | nil =>
   have : L.drop s = [] := h3;have := congrArg List.length this;rw [List.length_drop, List.length_nil] at this; omega
  | cons Y Ys =>
   obtain ⟨g1, g2, g3⟩ := h3;rw [List.drop_drop, show s + s = 2 * s by omega] at g3;exact ⟨X, Y, Ys, rfl, h1, g1, h2, g2, g3⟩
theorem Zo5 (L : List Nat) (s : Nat) : L.take s ++ (L.drop s).take s = L.take (2 * s) := by
 rw [show 2 * s = s + s by omega, List.take_add]
theorem ZnL {c : Nat → Nat → Int} {R : Nat → Nat → Prop} {L : List Nat} (h : L.Pairwise (Zda c R)) (s : Nat) {X Y : List Nat} (hx : X.Perm (L.take s)) (hy : Y.Perm ((L.drop s).take s)) : ∀ x, x ∈ X → ∀ y, y ∈ Y → Zda c R x y := fun x h1 y h2 => by
 rw [← List.take_append_drop s L] at h;exact (List.pairwise_append.1 h).2.2 x (hx.mem_iff.1 h1) y (List.mem_of_mem_take (hy.mem_iff.1 h2))
theorem Zx8 (v : Nat → Int) (p : Nat → List D) (g : Nat) (c : Nat → Nat → Int) (R : Nat → Nat → Prop) (hR : Ord R) (hcmp : ∀ j k, Zaa Tryz.prog g [elD v p j, elD v p k] (.int (c j k)))
  (L T : List Nat) (hb : L.Pairwise (Zda c R)) (hnd : L.Nodup) (hT : T.Perm L) (hTs : T.Pairwise R) (hN1 : L.length ≤ 100000) :
  Zaf Tryz.prog 262 [.ref 1000 2 0 L.length L.length, .int L.length, .d (.fn g [])] [(1000, .row 2 (L.map (elD v p)))] (.tup []) [(1000, .row 2 (T.map (elD v p)))] := by
 generalize hN : L.length = N at *;have hmerge := fun P A B Q => ZtI v p g c R hR hcmp N (by omega) (A.length + B.length + 1) P A B Q (by omega)
 have hsort := fun P M Q S h1 h2 h3 h4 h5 a e ha he => Zyl v p g c R hR hcmp P M Q S h1 h2 h3 h4 N h5 (by omega) a e ha he
 refine kM Tryz.func262 ?_;intro B0 X0 w0;refine ZcK ?_;refine kw1 kO kc0 kc0 ?_;refine Zai (fun (q : List (List Nat) × List Nat) => match q with | (Ds, L2) => (∀ Fs, Blk R 20 L2 Fs → Blk R 20 L (Ds ++ Fs)) ∧ L2.Pairwise (Zda c R) ∧ L2.Nodup ∧ Ds.flatten.length + L2.length = N) (fun (Ds, L2) => [(0, .ref 1000 2 0 N N), (1, .int N), (2, .d (.fn g [])), (6, .int 20), (7, .int Ds.flatten.length), (8, .int ((Ds.flatten.length + 20 : Nat) : Int))]) (fun (Ds, L2) => [(1000, .row 2 ((Ds.flatten ++ L2).map (elD v p)))]) (fun (Ds, L2) => L2.length) ([], L) ?_ ?_ ?_
 ·exact ⟨fun Fs h => h, hb, hnd, by rw [← hN]; simp⟩
 ·exact kN (kc2 @List.flatten_nil.{0} @List.nil_append.{0}) []
 ·rintro ⟨Ds, L2⟩ ⟨h1, h2, h3, h4⟩;dsimp only at h1 h2 h3 h4 ⊢;by_cases hlen : 20 ≤ L2.length
  ·obtain ⟨S, hS1, hS2⟩ := Zhy hR (h3.sublist (List.take_sublist 20 L2));have ht := List.length_take (i := 20) (l := L2);have hSl := hS1.length_eq;have hso := hsort Ds.flatten (L2.take 20) (L2.drop 20) S (h2.sublist (List.take_sublist _ _)) (h3.sublist (List.take_sublist _ _)) hS1 hS2 (by rw [List.length_drop]; omega) Ds.flatten.length ((Ds.flatten.length + 20 : Nat) : Int) rfl (by omega);rw [List.append_assoc, List.take_append_drop] at hso;have e1 : (Ds ++ [S]).flatten = Ds.flatten ++ S := by simp
   have e2 : (Ds.flatten ++ S).length = Ds.flatten.length + 20 := by rw [List.length_append]; omega
   have v0 : ((Ds.flatten.length + 20 : Nat) : Int) + 20 = ((Ds.flatten.length + 20 + 20 : Nat) : Int) := by omega
   refine kw1 kO (kc1 v0) (kc1 (kmc [] hso)) ?_;refine ⟨(Ds ++ [S], L2.drop 20), ?_, kN (kc2 e1 e2) [], ?_⟩
   ·dsimp only;refine ⟨fun Fs hF => ?_, h2.sublist (List.drop_sublist _ _), h3.sublist (List.drop_sublist _ _), by rw [e1, e2, List.length_drop]; omega⟩;have := h1 (S :: Fs) ⟨hS1, hS2, hF⟩;rw [List.append_assoc]; exact this
   ·dsimp only; rw [List.length_drop]; omega
  ·obtain ⟨S, hS1, hS2⟩ := Zhy hR h3;have hSl := hS1.length_eq;have hso := hsort Ds.flatten L2 [] S h2 h3 hS1 hS2 (by rw [List.length_nil]; omega) Ds.flatten.length N rfl (by omega);rw [List.append_nil, List.append_nil] at hso;have hB : Blk R 20 L (Ds ++ [S]) := h1 [S] ⟨by rw [List.take_of_length_le (by omega)]; exact hS1, hS2, List.drop_of_length_le (by omega)⟩;have e1 : (Ds ++ [S]).flatten = Ds.flatten ++ S := by simp
   refine kw1 kO kc0 (kc1 (kmc [] hso)) ?_;refine Zai (fun (q : Nat × List (List Nat)) => match q with | (s, Ds) => 20 ≤ s ∧ s ≤ 400000 ∧ Blk R s L Ds) (fun (s, Ds) => [(0, .ref 1000 2 0 N N), (1, .int N), (2, .d (.fn g [])), (6, .int s)]) (fun (s, Ds) => [(1000, .row 2 (Ds.flatten.map (elD v p)))]) (fun (s, Ds) => N - s) (20, Ds ++ [S]) ?_ ?_ ?_
   ·exact ⟨Nat.le_refl _, by omega, hB⟩
   ·exact kN (kc1 e1) []
   ·clear h1 h2 h3 h4 hlen hS1 hS2 hSl hso hB e1;rintro ⟨s, Ds⟩ ⟨g1, g2, g3⟩;dsimp only at g1 g2 g3 ⊢;rcases Nat.lt_or_ge s N with hlt | hge
    ·refine kw1 kO kc0 kc0 ?_;refine Zai (fun (q : List (List Nat) × List (List Nat) × List Nat) => match q with | (Es, Ds, L2) => (∀ Fs, Blk R (2 * s) L2 Fs → Blk R (2 * s) L (Es ++ Fs)) ∧ Blk R s L2 Ds ∧ L2.Pairwise (Zda c R) ∧ L2.Nodup ∧ Es.flatten.length + L2.length = N) (fun (Es, Ds, L2) => [(0, .ref 1000 2 0 N N), (1, .int N), (2, .d (.fn g [])), (6, .int s), (7, .int Es.flatten.length), (8, .int ((Es.flatten.length + 2 * s : Nat) : Int))]) (fun (Es, Ds, L2) => [(1000, .row 2 ((Es.flatten ++ Ds.flatten).map (elD v p)))]) (fun (Es, Ds, L2) => L2.length) ([], Ds, L) ?_ ?_ ?_
     ·exact ⟨fun Fs h => h, g3, hb, hnd, by rw [← hN]; simp⟩
     ·have z2 : ((2 * s : Nat) : Int) = 2 * (s : Int) := by omega
      exact kN (kc5 @List.flatten_nil.{0} @List.nil_append.{0} @List.length_nil.{0} @Nat.zero_add z2) []
     ·rintro ⟨Es, Ds, L2⟩ ⟨h1, h0, h2, h3, h4⟩;dsimp only at h0 h1 h2 h3 h4 ⊢;by_cases hlen : 2 * s ≤ L2.length
      ·obtain ⟨X, Y, Ys, rfl, p1, p2, s1, s2, hY⟩ := h0.two (by omega) (by omega);have l1 := p1.length_eq;have l2 := p2.length_eq;rw [List.length_take] at l1;rw [List.length_take, List.length_drop] at l2;have hXY : (X ++ Y).Perm (L2.take (2 * s)) := by rw [← Zo5]; exact p1.append p2
       have hnXY : (X ++ Y).Nodup := hXY.nodup_iff.2 (h3.sublist (List.take_sublist _ _));obtain ⟨S, hS1, hS2⟩ := Zhy hR hnXY;have lS := hS1.length_eq;rw [List.length_append] at lS;have lY := hY.perm.length_eq;rw [List.length_drop] at lY;have hme := hmerge Es.flatten X Y Ys.flatten S (by omega) (by omega) s1 s2 (ZnL h2 s p1 p2) hnXY hS1 hS2 (by omega) Es.flatten.length ((Es.flatten.length + s : Nat) : Int) ((Es.flatten.length + 2 * s : Nat) : Int) rfl (by omega) (by omega);have r1 : Es.flatten ++ X ++ Y ++ Ys.flatten = Es.flatten ++ (X :: Y :: Ys).flatten := by simp
       have r2 : Es.flatten ++ S ++ Ys.flatten = (Es ++ [S]).flatten ++ Ys.flatten := by simp
       rw [r1, r2] at hme;have e2 : (Es ++ [S]).flatten.length = Es.flatten.length + 2 * s := by
        have : (Es ++ [S]).flatten = Es.flatten ++ S := by simp
        rw [this, List.length_append]; omega
       have v1 : (Es.flatten.length : Int) + (s : Int) = ((Es.flatten.length + s : Nat) : Int) := by omega
       have v2 : ((Es.flatten.length + 2 * s : Nat) : Int) + 2 * (s : Int) = ((Es.flatten.length + 2 * s + 2 * s : Nat) : Int) := by omega
       refine kw1 kO (kc2 v1 v2) (kc1 (kmc [] hme)) ?_;refine ⟨(Es ++ [S], Ys, L2.drop (2 * s)), ?_, kN (kc1 e2) [], ?_⟩
       ·dsimp only;refine ⟨fun Fs hF => ?_, hY, h2.sublist (List.drop_sublist _ _), h3.sublist (List.drop_sublist _ _), by rw [e2, List.length_drop]; omega⟩;have := h1 (S :: Fs) ⟨hS1.trans hXY, hS2, hF⟩;rw [List.append_assoc]; exact this
       ·dsimp only; rw [List.length_drop]; omega
      ·have v1 : (Es.flatten.length : Int) + (s : Int) = ((Es.flatten.length + s : Nat) : Int) := by omega
       have v3 : (s : Int) * 2 = ((2 * s : Nat) : Int) := by omega
       by_cases hl2 : s < L2.length
       ·obtain ⟨X, Y, Ys, rfl, p1, p2, s1, s2, hY⟩ := h0.two (by omega) (by omega);have l1 := p1.length_eq;have l2 := p2.length_eq;rw [List.length_take] at l1;rw [List.length_take, List.length_drop] at l2;have hXY : (X ++ Y).Perm (L2.take (2 * s)) := by rw [← Zo5]; exact p1.append p2
        have hnXY : (X ++ Y).Nodup := hXY.nodup_iff.2 (h3.sublist (List.take_sublist _ _));obtain ⟨S, hS1, hS2⟩ := Zhy hR hnXY;have lS := hS1.length_eq;rw [List.length_append] at lS;rw [List.drop_of_length_le (by omega)] at hY;have hYf := hY.nil_flat;have hme := hmerge Es.flatten X Y [] S (by omega) (by omega) s1 s2 (ZnL h2 s p1 p2) hnXY hS1 hS2 (by rw [List.length_nil]; omega) Es.flatten.length ((Es.flatten.length + s : Nat) : Int) N rfl (by omega) (by omega);have r1 : Es.flatten ++ X ++ Y ++ [] = Es.flatten ++ (X :: Y :: Ys).flatten := by simp [hYf]
        have r2 : Es.flatten ++ S ++ [] = (Es ++ [S]).flatten := by simp
        rw [r1, r2] at hme;have hF : Blk R (2 * s) L (Es ++ [S]) := h1 [S] ⟨hS1.trans hXY, hS2, List.drop_of_length_le (by omega)⟩;refine kw1 kO (kc2 v1 v3) (kc1 (kmc [] hme)) ?_;refine ⟨(2 * s, Es ++ [S]), ?_, kN kc0 [], ?_⟩
        ·exact ⟨by omega, by omega, hF⟩
        ·dsimp only; omega
       ·have hF := h1 Ds (h0.short (by omega) (by omega));have r2 : Es.flatten ++ Ds.flatten = (Es ++ Ds).flatten := by simp
        refine kw1 kO (kc2 v1 v3) kc0 ?_;refine ⟨(2 * s, Es ++ Ds), ?_, kN (kc1 r2) [], ?_⟩
        ·exact ⟨by omega, by omega, hF⟩
        ·dsimp only; omega
    ·have hfl : Ds.flatten = T := ZgE hR (g3.perm.trans hT.symm) (g3.one (by omega)) hTs;refine kw1 kO kc0 kc0 ?_;refine ⟨_, Zbk.1 (kN (L := []) (M := [(1000, .row 2 (T.map (elD v p)))]) (kc1 hfl) []), ?_⟩;exact ⟨⟨[], rfl, trivial⟩, fmc ⟨rfl, fmn⟩⟩
theorem Zs6 (v : Nat → Int) (p : Nat → List D) (g : Nat) (c : Nat → Nat → Int) (R : Nat → Nat → Prop) (hR : Ord R) (hcmp : ∀ j k, Zaa Tryz.prog g [elD v p j, elD v p k] (.int (c j k)))
  (L T : List Nat) (hb : L.Pairwise (Zda c R)) (hnd : L.Nodup) (hT : T.Perm L) (hTs : T.Pairwise R) (hN1 : L.length ≤ 100000) :
  Zaf Tryz.prog 244 [.ref 1000 2 0 L.length L.length, .d (.fn g [])] [(1000, .row 2 (L.map (elD v p)))] (.tup []) [(1000, .row 2 (T.map (elD v p)))] := by
 have h1 := Zx8 v p g c R hR hcmp L T hb hnd hT hTs hN1;refine kM Tryz.func244 ?_;intro B0 X0 w0;refine ZcK ?_;refine kw1 kO kc0 (kc1 (kmc [] h1)) ?_;refine ⟨_, Zbk.1 (kN (L := []) (M := [(1000, .row 2 (T.map (elD v p)))]) kc0 []), ?_⟩;exact ⟨⟨[], rfl, trivial⟩, fmc ⟨rfl, fmn⟩⟩
end Go.Proofs.YtjjbhjnpeenbkaaGreatDoor
namespace Go.Proofs.YtjjbhjnpeenbkaaGreatDoor
open Go Go.PS Go.Proofs
open Go.Stb

def ZiI (y : List Int) (v : Int) (x : Arc) : List Int := (if x.1 = v ∧ 0 ≤ placeF y x.2 then [placeF y x.2] else []) ++ (if x.2 = v ∧ 0 ≤ placeF y x.1 then [placeF y x.1] else [])
def Zbt (y : List Int) (ar : List Arc) (v : Int) : List Int := ar.flatMap (ZiI y v)
theorem Zpc (y : List Int) (v : Int) : ∀ ar : List Arc, (Zbt y ar v).length ≤ 2 * ar.length
 | [] => by simp [Zbt]
 | x :: ar => by
  have ih := Zpc y v ar;have : (ZiI y v x).length ≤ 2 := by
   rw [ZiI]; split <;> split <;> simp
  rw [Zbt] at ih ⊢;rw [List.flatMap_cons, List.length_append, List.length_cons]; omega
def Zdf (p : Nat → List Int) (T : List Nat) (k : Nat) : Nat → Nat
 | 0 => 0
 | n + 1 => if 0 < ZbT (p ((T[n]?).getD 0)) (p k) then Zdf p T k n else n + 1
def ZhD (p : Nat → List Int) (T : List Nat) (k : Nat) : List Nat := T.take (Zdf p T k T.length) ++ k :: T.drop (Zdf p T k T.length)
def Zmv (p : Nat → List Int) (l : List Nat) : List Nat := l.foldl (ZhD p) []
theorem Zky (p : Nat → List Int) (T : List Nat) (k : Nat) : ∀ n, Zdf p T k n ≤ n
 | 0 => Nat.le_refl _
 | n + 1 => by rw [Zdf]; have := Zky p T k n; split <;> omega
theorem Znd (p : Nat → List Int) (T : List Nat) (k : Nat) : (ZhD p T k).Perm (k :: T) := by
 rw [ZhD];refine List.perm_middle.trans ?_;rw [List.take_append_drop]
theorem ZqE (p : Nat → List Int) (T : List Nat) (k : Nat) : ∀ n, 0 < Zdf p T k n → ¬ 0 < ZbT (p ((T[Zdf p T k n - 1]?).getD 0)) (p k)
 | 0, h => by rw [Zdf] at h; omega
 | n + 1, h => by
  rw [Zdf] at h ⊢;split
  ·rename_i c;rw [if_pos c] at h;exact ZqE p T k n h
  ·rename_i c;exact c
theorem Zqz (p : Nat → List Int) (T : List Nat) (k : Nat) : ∀ n, Zdf p T k n < n → 0 < ZbT (p ((T[Zdf p T k n]?).getD 0)) (p k)
 | 0, h => by omega
 | n + 1, h => by
  rw [Zdf] at h ⊢;split
  ·rename_i c;rw [if_pos c] at h;by_cases c2 : Zdf p T k n < n
   ·exact Zqz p T k n c2
   ·have := Zky p T k n;have : Zdf p T k n = n := by omega
    rw [this]; exact c
  ·rename_i c;rw [if_neg c] at h; omega
theorem Zzm {p : Nat → List Int} {T : List Nat} {k : Nat} (hs : T.Pairwise (Zfg p)) (hk : ∀ j, j ∈ T → j < k) : (ZhD p T k).Pairwise (Zfg p) := by
 have hle := Zky p T k T.length;refine Zlw (Zqh p) hle hs (fun x h0 hx => ?_) (fun x hx => ?_)
 ·have := ZqE p T k T.length h0;rw [hx, Option.getD_some] at this;exact .inr ⟨fun h => this (by have := ZlX (p x) (p k); omega), hk x (List.mem_of_getElem? hx)⟩
 ·have h1 := (List.getElem?_eq_some_iff.1 hx).1;have := Zqz p T k T.length h1;rw [hx, Option.getD_some] at this;exact .inl (by have := ZlX (p k) (p x); omega)
theorem Zub (p : Nat → List Int) (l : List Nat) : (Zmv p l).Perm l := by
 have : ∀ (l T : List Nat), (l.foldl (ZhD p) T).Perm (l ++ T) := by
  intro l
  induction l with
  | nil => intro T; exact List.Perm.refl _
  | cons k l ih =>
   intro T;rw [List.foldl_cons];refine (ih _).trans (((Znd p T k).append_left l).trans ?_);exact List.perm_middle
 have h := this l [];rw [List.append_nil] at h; exact h
theorem Zzg {p : Nat → List Int} {l : List Nat} (hl : l.Pairwise (· < ·)) : (Zmv p l).Pairwise (Zfg p) := by
 have : ∀ (l T : List Nat), T.Pairwise (Zfg p) → l.Pairwise (· < ·) → (∀ j, j ∈ T → ∀ k, k ∈ l → j < k) → (l.foldl (ZhD p) T).Pairwise (Zfg p) := by
  intro l
  induction l with
  | nil => intro T h _ _; exact h
  | cons k l ih =>
   intro T h1 h2 h3;rw [List.pairwise_cons] at h2;rw [List.foldl_cons];refine ih _ (Zzm h1 fun j hj => h3 j hj k (by simp)) h2.2 fun j hj q hq => ?_
   rcases List.mem_cons.1 ((Znd p T k).mem_iff.1 hj) with rfl | hj
   ·exact h2.1 q hq
   ·exact h3 j hj q (List.mem_cons_of_mem _ hq)
 exact this l [] List.Pairwise.nil hl (fun j hj => by cases hj)
def Zcv (y z : List Int) (ar : List Arc) (k : Nat) : Bool := !(Zbt z ar (at0 y k)).isEmpty
def Zba (y z : List Int) (ar : List Arc) (n : Nat) : List Nat := (List.range n).filter (Zcv y z ar)
def Zeq (y z : List Int) (ar : List Arc) : List Nat := Zmv (fun k => Zbt z ar (at0 y k)) (Zba y z ar y.length)
def ZeV (y z : List Int) (ar : List Arc) : List Int := (List.range y.length).map fun k => if Zcv y z ar k then at0 y (((Zeq y z ar)[(Zba y z ar k).length]?).getD 0 : Nat) else at0 y k
theorem ZjO (y z : List Int) (ar : List Arc) (n : Nat) : Zba y z ar (n + 1) = if Zcv y z ar n then Zba y z ar n ++ [n] else Zba y z ar n := by
 rw [Zba, List.range_succ, List.filter_append, List.filter_cons, List.filter_nil];split <;> simp [Zba]
theorem Zih (y z : List Int) (ar : List Arc) (n : Nat) : (Zba y z ar n).Pairwise (· < ·) := List.Pairwise.filter _ List.pairwise_lt_range
theorem ZkN {y z : List Int} {ar : List Arc} {n k : Nat} (h : k ∈ Zba y z ar n) : k < n ∧ Zcv y z ar k = true := by
 rw [Zba, List.mem_filter, List.mem_range] at h; exact h
theorem Zhh {y z : List Int} {ar : List Arc} : ∀ {n k : Nat}, k < n → Zcv y z ar k = true → (Zba y z ar n)[(Zba y z ar k).length]? = some k
 | 0, _, h, _ => by omega
 | n + 1, k, h, hk => by
  rcases Nat.lt_or_ge k n with c | c
  ·have ih := Zhh c hk;rw [ZjO];split
   ·rw [List.getElem?_append_left (List.getElem?_eq_some_iff.1 ih).1]; exact ih
   ·exact ih
  ·have : k = n := by omega
   subst this;rw [ZjO, if_pos hk, List.getElem?_append_right (Nat.le_refl _), Nat.sub_self]; rfl
theorem Zjd (y z : List Int) (ar : List Arc) : (Zeq y z ar).Perm (Zba y z ar y.length) := Zub _ _
theorem Zp1 (y z : List Int) (ar : List Arc) : (Zeq y z ar).length = (Zba y z ar y.length).length := (Zjd y z ar).length_eq
def ZiG (y z : List Int) (ar : List Arc) : List Nat := (List.range y.length).map fun k => if Zcv y z ar k then ((Zeq y z ar)[(Zba y z ar k).length]?).getD 0 else k
theorem ZuA (y z : List Int) (ar : List Arc) : ZeV y z ar = ZaH y (ZiG y z ar) := by
 rw [ZeV, ZaH, ZiG, List.map_map];refine List.map_congr_left fun k _ => ?_
 simp only [Function.comp_apply, at0, Int.toNat_natCast];split <;> rfl
theorem Zij {y z : List Int} {ar : List Arc} {k : Nat} (hk : k < y.length) (h : Zcv y z ar k = true) :
  ∃ t, (Zeq y z ar)[(Zba y z ar k).length]? = some t ∧ t < y.length ∧ Zcv y z ar t = true := by
 have h1 := (List.getElem?_eq_some_iff.1 (Zhh hk h)).1;rw [← Zp1] at h1;obtain ⟨t, ht⟩ := Zad h1;have h2 := (Zjd y z ar).mem_iff.1 (List.mem_of_getElem? ht);exact ⟨t, ht, ZkN h2⟩
theorem Zqw {l : List Nat} (hn : l.Nodup) {i j x : Nat} (hi : l[i]? = some x) (hj : l[j]? = some x) : i = j := by
 obtain ⟨i1, e1⟩ := List.getElem?_eq_some_iff.1 hi;obtain ⟨j1, e2⟩ := List.getElem?_eq_some_iff.1 hj;have hp := List.pairwise_iff_getElem.1 hn;rcases Nat.lt_trichotomy i j with h | h | h
 ·exact absurd (e1.trans e2.symm) (hp i j i1 j1 h)
 ·exact h
 ·exact absurd (e2.trans e1.symm) (hp j i j1 i1 h)
theorem ZwY (y z : List Int) (ar : List Arc) : (Zeq y z ar).Nodup :=
 (Zjd y z ar).nodup_iff.2 ((Zih y z ar y.length).imp fun h => Nat.ne_of_lt h)
theorem ZnX {y z : List Int} {ar : List Arc} {j k n : Nat} (hj : j < n) (hk : k < n) (h1 : Zcv y z ar j = true) (h2 : Zcv y z ar k = true) (he : (Zba y z ar j).length = (Zba y z ar k).length) : j = k := by
 have e1 := Zhh hj h1;have e2 := Zhh hk h2;rw [he, e2, Option.some.injEq] at e1;exact e1.symm
theorem ZxA (y z : List Int) (ar : List Arc) : Go.Bd.Part y.length 0 (ZiG y z ar) := by
 refine ⟨?_, fun v hv => ?_, by simp [ZiG]⟩
 ·rw [ZiG, List.nodup_iff_pairwise_ne, List.pairwise_map];refine List.Pairwise.imp_of_mem (R := (· < ·)) (fun {j k} hj hk hlt => ?_) List.pairwise_lt_range;rw [List.mem_range] at hj hk;rcases c1 : Zcv y z ar j with _ | _ <;> rcases c2 : Zcv y z ar k with _ | _ <;> simp only [if_true, if_false, Bool.false_eq_true]
  ·omega
  ·obtain ⟨t, h1, h2, h3⟩ := Zij hk c2;rw [h1, Option.getD_some];rintro rfl;rw [c1] at h3; cases h3
  ·obtain ⟨t, h1, h2, h3⟩ := Zij hj c1;rw [h1, Option.getD_some];rintro rfl;rw [c2] at h3; cases h3
  ·obtain ⟨t, h1, h2, h3⟩ := Zij hj c1;obtain ⟨u, g1, g2, g3⟩ := Zij hk c2;rw [h1, g1, Option.getD_some, Option.getD_some];rintro rfl;have := Zqw (ZwY y z ar) h1 g1;have := ZnX hj hk c1 c2 this;omega
 ·obtain ⟨k, hk, rfl⟩ := List.mem_map.1 hv;rw [List.mem_range] at hk;rcases c1 : Zcv y z ar k with _ | _ <;> simp only [if_true, if_false, Bool.false_eq_true]
  ·exact hk
  ·obtain ⟨t, h1, h2, h3⟩ := Zij hk c1;rw [h1]; exact h2
theorem ZqR {y : List Int} (hn : y.Nodup) (z : List Int) (ar : List Arc) : (ZeV y z ar).Perm y := by
 rw [ZuA]; exact Zlz hn (ZxA y z ar)
theorem Zvw (y z : List Int) (ar : List Arc) : (ZeV y z ar).length = y.length := by simp [ZeV]
def ZgZ (b : Lv) (i f : Nat) : Lv := ZbQ b i (ZeV (Zaq b.2.1 i) (Zaq b.2.1 f) b.2.2.1)
theorem ZqS {a b : Lv} (h : Kin a b) {i : Nat} (hi : i < a.2.1.length) (f : Nat) : Kin a (ZgZ b i f) :=
 h.put (h.lay hi) (ZqR (Zic h.ok (h.lay hi)) _ _)
def Zdk (b : Lv) : Nat → Lv
 | 0 => b
 | k + 1 => ZgZ (Zdk b k) (k + 1) k
def upB (b : Lv) (n : Nat) : Nat → Lv
 | 0 => b
 | k + 1 => ZgZ (upB b n k) (n - 2 - k) (n - 1 - k)
def swB (b : Lv) : Lv := upB (Zdk b (b.2.1.length - 1)) b.2.1.length (b.2.1.length - 1)
theorem Zm4 {a b : Lv} (h : Kin a b) : ∀ k, k ≤ a.2.1.length - 1 → Kin a (Zdk b k)
 | 0, _ => h
 | k + 1, hk => ZqS (Zm4 h k (by omega)) (by omega) k
theorem Zls {a b : Lv} (h : Kin a b) : ∀ k, k ≤ a.2.1.length - 1 → Kin a (upB b a.2.1.length k)
 | 0, _ => h
 | k + 1, hk => ZqS (Zls h k (by omega)) (by omega) _
theorem Ztc {a b : Lv} (h : Kin a b) : Kin a (swB b) := by
 rw [swB, h.len];exact Zls (Zm4 h _ (Nat.le_refl _)) _ (Nat.le_refl _)
def ZcZ (a : Lv) : Nat → Lv
 | 0 => a
 | k + 1 => swB (ZcZ a k)
def Zb9 (a : Lv) : Nat → Lv
 | 0 => a
 | k + 1 => if Za7 (ZcZ a (k + 1)) < Za7 (Zb9 a k) then ZcZ a (k + 1) else Zb9 a k
theorem ZmQ {a : Lv} (hv : Zax a = true) (hw : wide a) : ∀ k, Kin a (ZcZ a k)
 | 0 => Kin.refl hv hw
 | k + 1 => Ztc (ZmQ hv hw k)
theorem Zl4 {a : Lv} (hv : Zax a = true) (hw : wide a) : ∀ k, Kin a (Zb9 a k)
 | 0 => Kin.refl hv hw
 | k + 1 => by
  rw [Zb9];split
  ·exact ZmQ hv hw (k + 1)
  ·exact Zl4 hv hw k
def Zfp (r : Int) : Nat := (min (max r 0) 100).toNat
def ZjQ (a : Lv) (r : Int) : Lv × Int := if Zax a then (Zb9 a (Zfp r), Za7 (Zb9 a (Zfp r))) else (lv0, 0)
end Go.Proofs.YtjjbhjnpeenbkaaGreatDoor
namespace Go.Proofs.YtjjbhjnpeenbkaaGreatDoor
open Go Go.PS Go.Proofs
open Go.Stb
set_option maxRecDepth 100000
attribute [local irreducible] Zab wpG Zaa Zaf

def ZeZ (x : Int) : Bool := decide (0 ≤ x ∧ x ≤ 1048576)
theorem ZvD (l : List Int) : ZiP l = (decide (l.length ≤ 4096) && l.all ZeZ) := rfl
theorem Zve {l : List Int} (h : ∀ x, x ∈ l → ZeZ x = true) : 0 ≤ l.sum ∧ l.sum ≤ ((l.length * 1048576 : Nat) : Int) :=
 ZpT fun x hx => by
  have := h x hx;rw [ZeZ, decide_eq_true_eq] at this;exact this
theorem Zw9 {l : List Int} {k : Nat} {x : Int} (h : l[k]? = some x) : (l.take (k + 1)).sum = (l.take k).sum + x := by
 rw [ZaD h, List.sum_append]; simp
theorem Zul {l : List Int} {k : Nat} {x : Int} (h : l[k]? = some x) (hx : ZeZ x = false) : l.all ZeZ = false := by
 rw [List.all_eq_false];exact ⟨x, List.mem_of_getElem? h, by rw [hx]; decide⟩
theorem all_take {l : List Int} (h : ∀ x, x ∈ l.take l.length → ZeZ x = true) : l.all ZeZ = true := by
 rw [List.take_length] at h;rw [List.all_eq_true]; exact h
theorem Znk (l : List Int) : Zaa Tryz.prog 263 [Zac l] (.tup [.int (Zbe l), .int (ZaA l)]) := by
 rw [Zbe, ZaA, ZvD];refine kE Tryz.func263 ?_;intro hat B X w0;by_cases hl : l.length ≤ 4096
 ·refine kw1 kO kc0 kc0 ?_;refine Zai (fun (k : Nat) => k ≤ l.length ∧ (∀ x, x ∈ l.take k → ZeZ x = true)) (fun k => [(0, .d (Zac l)), (4, .int (l.take k).sum), (10, .d (Zac l)), (11, .int l.length), (12, .int k)]) (fun k => []) (fun k => l.length - k) 0 ?_ ?_ ?_
  ·exact ⟨Nat.zero_le _, fun x hx => by rw [List.take_zero] at hx; cases hx⟩
  ·exact kN (kc2 @List.take_zero.{0} @List.sum_nil.{0}) []
  ·rintro k ⟨hk, hinv⟩;have hb := Zve hinv;rw [List.length_take, Nat.min_eq_left hk] at hb;rcases Nat.lt_or_ge k l.length with hlt | hge
   ·obtain ⟨x, hx⟩ := Zad hlt;have e1 := Zw9 hx;by_cases c : 0 ≤ x ∧ x ≤ 1048576
    ·obtain ⟨c1, c2⟩ := c;refine kw1 kO (kc1 hx) kc0 ?_;refine ⟨k + 1, ?_, kN (kc1 e1) [], ?_⟩
     ·refine ⟨by omega, fun y hy => ?_⟩;rw [ZaD hx] at hy;rcases List.mem_append.1 hy with hy | hy
      ·exact hinv y hy
      ·rw [List.mem_singleton.1 hy, ZeZ, decide_eq_true ⟨c1, c2⟩]
     ·omega
    ·rw [Zul hx (by rw [ZeZ, decide_eq_false c]), Bool.and_false, if_neg (by decide), if_neg (by decide)];refine kw kO (kc1 hx) kc0 ?_
     repeat' first | exact True.intro | refine Bn.mk ?_ ?_ | intro hc
     all_goals exact ⟨_, rfl, Zah rfl, Zah rfl, trivial⟩
   ·have : k = l.length := by omega
    subst this;rw [all_take hinv, decide_eq_true hl, Bool.true_and, if_pos rfl, if_pos rfl];refine kw1 kO kc0 kc0 ?_;refine ⟨_, rfl, Zah ?_, Zah rfl, trivial⟩;rw [List.take_length]
 ·rw [decide_eq_false hl, Bool.false_and, if_neg (by decide), if_neg (by decide)];have hl2 := Zbi 0 hat rfl;rw [List.length_map] at hl2;refine kw1 kO kc0 kc0 ?_;exact ⟨_, rfl, Zah rfl, Zah rfl, trivial⟩
theorem Zrh (a : Int) : Zaa Tryz.prog 282 [.int a] (.bool false) := by
 refine kE Tryz.func282 ?_;intro hat B X w0;refine kw1 kO kc0 kc0 ?_;exact Zaj (by simp)
theorem ZkY (a b : Int) : Zaa Tryz.prog 264 [.int a, .int b] (.int (sg a b)) := by
 have h1 := Zrh a;have h2 := Zrh b;rw [sg];refine kE Tryz.func264 ?_;intro hat B X w0;by_cases c1 : a < b
 ·rw [if_pos c1];refine kw1 kO (kc1 c1) (kc2 h1 h2) ?_;exact Zah rfl
 ·rw [if_neg c1];by_cases c2 : b < a
  ·rw [if_pos c2];refine kw1 kO (kc2 c1 c2) (kc2 h1 h2) ?_;exact Zah rfl
  ·rw [if_neg c2];refine kw1 kO (kc2 c1 c2) (kc2 h1 h2) ?_;exact Zah rfl
theorem Znw (n : Nat) : (if (1 : Int) < n then (1 : Int) else (n : Int)) = ((min n 1 : Nat) : Int) := by split <;> omega
theorem Zzs (a b : List Int) : Zaa Tryz.prog 246 [Zac a, Zac b] (.int (ZbT a b)) := by
 have h1 := Znk a;have h2 := Znk b;have h4 := ZkY (Zbe a * ZaA b) (Zbe b * ZaA a);have p1 := Zql a b;have p2 := Zql b a;rw [ZbT];have m1 := Znw (ZaA a);have m2 := Znw (ZaA b);have z0 : ((min 0 1 : Nat) : Int) = 0 := rfl;generalize Zbe a = S at *;generalize Zbe b = T at *;generalize ZaA a = j at *;generalize ZaA b = k at *;refine kE Tryz.func246 ?_;intro hat B X w0;by_cases c1 : j = 0
 ·rw [if_pos (.inl c1), c1, z0];rw [c1] at h1;have h3 := ZkY 0 ((min k 1 : Nat) : Int);have q1 : ((0 : Nat) : Int) = 0 := rfl;refine kw1 kO (kc2 q1 m2) (kc3 h1 h2 h3) ?_;exact Zah rfl
 ·by_cases c2 : k = 0
  ·rw [if_pos (.inr c2), c2, z0];rw [c2] at h2;have h3 := ZkY ((min j 1 : Nat) : Int) 0;have q1 : ((0 : Nat) : Int) = 0 := rfl;have c1I : ¬ (j : Int) = 0 := by omega
   refine kw1 kO (kc3 q1 m1 c1I) (kc3 h1 h2 h3) ?_;exact Zah rfl
  ·rw [if_neg (by omega)];refine kw1 kO kc0 (kc3 h1 h2 h4) ?_;exact Zah rfl
theorem Zw2 (u v : Int) (a b : List Int) : Zaa Tryz.prog 245 [.ag [.int u, Zac a], .ag [.int v, Zac b]] (.int (ZbT a b)) := by
 have h1 := Zzs a b;refine kE Tryz.func245 ?_;intro hat B X w0;refine kw1 kO kc0 (kc1 h1) ?_;exact Zah rfl
/-! The reference. -/
theorem ZkZ {a : Lv} (h : Zax a = true) {v : Int} (hv : v ∈ a.2.1.flatten) : 0 ≤ v ∧ v < tot a.2.1 := by
 obtain ⟨_, _, hr⟩ := Zis h;obtain ⟨_, _, hg, _⟩ := ZjZ hr;exact (ZfW.1 hg).1 v hv
theorem Ztv {a : Lv} (h : Zax a = true) {x : Arc} (hx : x ∈ a.2.2.1) : x.1 ≠ x.2 ∧ (0 ≤ x.1 ∧ x.1 < tot a.2.1) ∧ (0 ≤ x.2 ∧ x.2 < tot a.2.1) := by
 obtain ⟨k, hk⟩ := List.getElem?_of_mem hx;obtain ⟨r, p, q, h1, h2⟩ := ZlO h hk;refine ⟨fun e => ?_, ZkZ h h1.mem, ZkZ h h2.mem⟩;rw [← e] at h2;have := Zb5.layer (Zes h) h1 h2;omega
theorem ZtN {z : List Int} {ar : List Arc} {v : Int} {k : Nat} {x : Arc} (h : ar[k]? = some x) : Zbt z (ar.take (k + 1)) v = Zbt z (ar.take k) v ++ ZiI z v x := by
 rw [Zbt, Zbt, ZaD h, List.flatMap_append, List.flatMap_cons, List.flatMap_nil, List.append_nil]
theorem Zvn (a : Lv) (v : Int) (z pl : List Int) (har : a.2.2.1.length ≤ 1000) (hpl : ∀ u : Int, 0 ≤ u → u < pl.length → pl[u.toNat]? = some (placeF z u))
  (hx : ∀ x, x ∈ a.2.2.1 → x.1 ≠ x.2 ∧ (0 ≤ x.1 ∧ x.1 < pl.length) ∧ (0 ≤ x.2 ∧ x.2 < pl.length)) :
  Zaa Tryz.prog 243 [lvD a, .int v, Zac pl] (Zac (Zbt z a.2.2.1 v)) := by
 obtain ⟨n, ls, ar, cs⟩ := a;dsimp only at har hx ⊢;refine kE Tryz.func243 ?_;intro hat B X w0;refine kw1 kO kc0 kc0 ?_;refine Zav _ (ZdU 7 901 1 rfl rfl) ?_;refine Zai (fun (k : Nat) => k ≤ ar.length) (fun k => [(1, .int v), (2, .d (Zac pl)), (7, .ref 901 1 0 (Zbt z (ar.take k) v).length (Zbt z (ar.take k) v).length), (11, .d (Zak ar)), (12, .int ar.length), (13, .int k)]) (fun k => [(901, .row 1 ((Zbt z (ar.take k) v).map D.int))]) (fun k => ar.length - k) 0 ?_ ?_ ?_
 ·exact Nat.zero_le _
 ·exact kN (kc5 @List.take_zero.{0} @Zbt.eq_1 @List.flatMap_nil.{0,0} @List.map_nil.{0,0} @List.length_nil.{0}) []
 ·intro k hk;have hRl := Zpc z v (ar.take k);rw [List.length_take, Nat.min_eq_left hk] at hRl;rcases Nat.lt_or_ge k ar.length with hlt | hge
  ·obtain ⟨x, hxk⟩ := Zad hlt;obtain ⟨hne, ⟨b1, b2⟩, ⟨b3, b4⟩⟩ := hx x (List.mem_of_getElem? hxk);have g1 := hpl x.1 b1 b2;have g2 := hpl x.2 b3 b4;have e1 := ZtN (z := z) (v := v) hxk;rw [ZiI] at e1;generalize Zbt z (ar.take k) v = R at *;generalize placeF z x.1 = q1 at *;generalize placeF z x.2 = q2 at *;obtain ⟨s, t⟩ := x;dsimp only at *;have htl : (R.map D.int).take R.length = R.map D.int := Zat _ _;have i1 : s.toNat < pl.length := by omega
   have i2 : t.toNat < pl.length := by omega
   by_cases c1 : s = v ∧ 0 ≤ q2
   ·obtain ⟨c1, c2⟩ := c1;have c3 : ¬ t = v := fun e => hne (c1.trans e.symm)
    rw [if_pos ⟨c1, c2⟩, if_neg (fun h => c3 h.1), List.append_nil] at e1;refine kw1 kO (kc8 hxk g1 g2 i1 i2 b1 b2 (kc6 b3 b4 c1 c2 c3 htl)) kc0 ?_;refine ⟨k + 1, ?_, kN (kc8 e1 @List.map_append.{0,0} @List.map_cons.{0,0} @List.map_nil.{0,0} @List.length_append.{0} @List.length_cons.{0} @List.length_nil.{0} (kc2 @Nat.zero_add htl)) [(901, 36)], ?_⟩
    ·omega
    ·omega
   ·by_cases c4 : t = v ∧ 0 ≤ q1
    ·obtain ⟨c4, c5⟩ := c4;have c3 : ¬ s = v := fun e => hne (e.trans c4.symm)
     rw [if_neg c1, if_pos ⟨c4, c5⟩, List.nil_append] at e1;refine kw1 kO (kc8 hxk g1 g2 i1 i2 b1 b2 (kc6 b3 b4 c3 c4 c5 htl)) kc0 ?_;refine ⟨k + 1, ?_, kN (kc8 e1 @List.map_append.{0,0} @List.map_cons.{0,0} @List.map_nil.{0,0} @List.length_append.{0} @List.length_cons.{0} @List.length_nil.{0} (kc2 @Nat.zero_add htl)) [(901, 56)], ?_⟩
     ·omega
     ·omega
    ·rw [if_neg c1, if_neg c4, List.nil_append, List.append_nil] at e1;refine kw kO (kc8 hxk g1 g2 i1 i2 b1 b2 (kc3 b3 b4 htl)) kc0 ?_
     repeat' first | exact True.intro | refine Bn.mk ?_ ?_ | intro hc
     all_goals
      refine ⟨k + 1, ?_, kN (kc1 e1) [], ?_⟩
      ·omega
      ·omega
  ·have : k = ar.length := by omega
   subst this;rw [List.take_length] at hRl ⊢;refine kw1 kO kc0 kc0 ?_;exact Zdb (o := 901) rfl rfl (by simp) (Zat _ _)
theorem Zqo {g : Nat → Int} {n j : Nat} {x : Int} : (Za2 g n).set j x = Za2 (fun u => if u = j then x else g u) n := by
 refine List.ext_getElem? fun v => ?_
 rw [List.getElem?_set, ZdD];by_cases c : v < n
 ·rw [ZeG c, ZeG c];by_cases c2 : j = v
  ·subst c2; rw [if_pos rfl, if_pos c, if_pos rfl]
  ·rw [if_neg c2, if_neg (fun h => c2 h.symm)]
 ·rw [List.getElem?_eq_none (by rw [ZdD]; omega), List.getElem?_eq_none (by rw [ZdD]; omega)];by_cases c2 : j = v
  ·rw [if_pos c2, if_neg (by omega)]
  ·rw [if_neg c2]
theorem ZzL {z : List Int} (hn : z.Nodup) {k : Nat} {v : Int} (h : z[k]? = some v) (u : Int) : placeF (z.take (k + 1)) u = if u = v then (k : Int) else placeF (z.take k) u := by
 have hn1 : (z.take (k + 1)).Nodup := hn.sublist (List.take_sublist _ _);have hn0 : (z.take k).Nodup := hn.sublist (List.take_sublist _ _);by_cases c : u = v
 ·subst c;rw [if_pos rfl];exact Zhg hn1 (by rw [List.getElem?_take, if_pos (by omega)]; exact h)
 ·rw [if_neg c];by_cases c2 : u ∈ z.take k
  ·obtain ⟨j, hj⟩ := List.getElem?_of_mem c2;rw [Zhg hn0 hj];have hjk : j < k := by have := (List.getElem?_eq_some_iff.1 hj).1; rw [List.length_take] at this; omega
   refine Zhg hn1 ?_;rw [List.getElem?_take, if_pos hjk] at hj;rw [List.getElem?_take, if_pos (by omega)]; exact hj
  ·rw [Zib c2, Zib];rw [ZaD h];intro hm;rcases List.mem_append.1 hm with hm | hm
   ·exact c2 hm
   ·exact c (List.mem_singleton.1 hm)
def Ze2 (y z : List Int) (ar : List Arc) (q : Nat) : List Int := Za2 (fun k => if Zcv y z ar k = true ∧ (Zba y z ar k).length < q then at0 y (((Zeq y z ar)[(Zba y z ar k).length]?).getD 0 : Nat) else at0 y k) y.length
theorem Zwh (y z : List Int) (ar : List Arc) (q : Nat) : (Ze2 y z ar q).length = y.length := ZdD _ _
theorem ZvT (y z : List Int) (ar : List Arc) : Ze2 y z ar 0 = y := by
 have : Ze2 y z ar 0 = Za2 (fun k : Nat => at0 y k) y.length := Zgi fun k _ => if_neg (by omega)
 rw [this];refine List.ext_getElem? fun k => ?_
 by_cases c : k < y.length
 ·rw [ZeG c, ZaW c]
 ·rw [List.getElem?_eq_none (by rw [ZdD]; omega), List.getElem?_eq_none (by omega)]
theorem Zv1 (y z : List Int) (ar : List Arc) : Ze2 y z ar (Zba y z ar y.length).length = ZeV y z ar := by
 refine List.map_congr_left fun k hk => ?_
 rw [List.mem_range] at hk;rcases c : Zcv y z ar k with _ | _
 ·simp
 ·have := (List.getElem?_eq_some_iff.1 (Zhh hk c)).1;simp [this]
theorem Ztf {y z : List Int} {ar : List Arc} {q j t : Nat} (hj : (Zba y z ar y.length)[q]? = some j) (ht : (Zeq y z ar)[q]? = some t) : (Ze2 y z ar q).set j (at0 y t) = Ze2 y z ar (q + 1) := by
 have h1 := ZkN (List.mem_of_getElem? hj);have h2 := Zhh h1.1 h1.2;have hq : (Zba y z ar j).length = q := by
  exact (Zqw ((Zih y z ar y.length).imp fun h => Nat.ne_of_lt h) hj h2).symm
 rw [Ze2, Zqo];refine Zgi fun k hk => ?_
 by_cases c : k = j
 ·subst c;rw [if_pos rfl, if_pos ⟨h1.2, by omega⟩, hq, ht]; rfl
 ·rw [if_neg c];by_cases c2 : Zcv y z ar k = true
  ·have : (Zba y z ar k).length ≠ q := fun e => c (ZnX hk h1.1 c2 h1.2 (by omega))
   by_cases c3 : (Zba y z ar k).length < q
   ·rw [if_pos ⟨c2, c3⟩, if_pos ⟨c2, by omega⟩]
   ·rw [if_neg (fun h => c3 h.2), if_neg (fun h => by have := h.2; omega)]
  ·rw [if_neg (fun h => c2 h.1), if_neg (fun h => c2 h.1)]
theorem Zpb (y z : List Int) (ar : List Arc) : ∀ n, (Zba y z ar n).length ≤ n
 | 0 => by simp [Zba]
 | n + 1 => by
  have := Zpb y z ar n;rw [ZjO]; split
  ·rw [List.length_append, List.length_singleton]; omega
  ·omega
theorem Zp6 (a : Lv) (i f : Nat) (hw : wide a) (hv : Zax a = true) (har : a.2.2.1.length ≤ 700) (hi : i < a.2.1.length) (hf : f < a.2.1.length) :
  Zaa Tryz.prog 215 [lvD a, .int i, .int f] (lvD (ZgZ a i f)) := by
 obtain ⟨y, hy⟩ := Zad hi;obtain ⟨z, hz⟩ := Zad hf;have hyn := Zic hv hy;have hzn := Zic hv hz;obtain ⟨t1, t2⟩ := Zcz hv;have hyl := ZcU (List.mem_of_getElem? hy);have hzl := ZcU (List.mem_of_getElem? hz);have hzr : ∀ (k : Nat) v, z[k]? = some v → 0 ≤ v ∧ v < tot a.2.1 := fun k v hk => ZkZ hv (List.mem_flatten.2 ⟨z, List.mem_of_getElem? hz, List.mem_of_getElem? hk⟩)
 have hpl : ∀ v, Zaa Tryz.prog 243 [lvD a, .int v, Zac (Za2 (fun u : Nat => placeF z u) (tot a.2.1))] (Zac (Zbt z a.2.2.1 v)) := fun v =>
  Zvn a v z _ (by omega) (fun u h0 h1 => by
   rw [ZdD] at h1;rw [ZeG (by omega), show ((u.toNat : Nat) : Int) = u by omega]) (fun x hx => by
   rw [ZdD]; exact Ztv hv hx)
 have hre := Zog a i (ZeV y z a.2.2.1) hw (by rw [Zvw]; omega);rw [Zk7 hv hy (ZqR hyn z a.2.2.1)] at hre;have hlay : ZgZ a i f = ZbQ a i (ZeV y z a.2.2.1) := by rw [ZgZ, Zc0 hy, Zc0 hz]
 rw [← hlay] at hre;have hcl := ZrR y (by omega);have hFl := Zpb y z a.2.2.1;have hbk : (Zba y z a.2.2.1 y.length).Pairwise (Zda (fun j k : Nat => ZbT (Zbt z a.2.2.1 (at0 y j)) (Zbt z a.2.2.1 (at0 y k))) (Zfg fun k : Nat => Zbt z a.2.2.1 (at0 y k))) := by
  refine List.Pairwise.imp ?_ (Zih y z a.2.2.1 y.length);intro j k h;exact ZzM (p := fun k : Nat => Zbt z a.2.2.1 (at0 y k)) h
 have hso := Zs6 (fun k : Nat => at0 y k) (fun k : Nat => (Zbt z a.2.2.1 (at0 y k)).map D.int) 245 (fun j k : Nat => ZbT (Zbt z a.2.2.1 (at0 y j)) (Zbt z a.2.2.1 (at0 y k))) (Zfg fun k : Nat => Zbt z a.2.2.1 (at0 y k)) (Zqh _)
  (fun j k => Zw2 _ _ _ _) (Zba y z a.2.2.1 y.length) (Zeq y z a.2.2.1) hbk ((Zih y z a.2.2.1 y.length).imp fun h => Nat.ne_of_lt h)
  (Zjd y z a.2.2.1) (Zzg (Zih y z a.2.2.1 y.length)) (by have := hFl y.length; omega)
 have hSl := Zp1 y z a.2.2.1;have hO0 := ZvT y z a.2.2.1;have hOf := Zv1 y z a.2.2.1;have hOl := Zwh y z a.2.2.1;have hOs : ∀ q j t : Nat, (Zba y z a.2.2.1 y.length)[q]? = some j → (Zeq y z a.2.2.1)[q]? = some t → (Ze2 y z a.2.2.1 q).set j (at0 y t) = Ze2 y z a.2.2.1 (q + 1) := fun q j t => Ztf
 have hFs := ZjO y z a.2.2.1;have hF0 : Zba y z a.2.2.1 0 = [] := rfl;have hFm : ∀ q j : Nat, (Zba y z a.2.2.1 y.length)[q]? = some j → j < y.length := fun q j h => (ZkN (List.mem_of_getElem? h)).1
 have hH : ∀ k : Nat, Zcv y z a.2.2.1 k = decide (0 < (Zbt z a.2.2.1 (at0 y k)).length) := fun k => by
  rw [Zcv];cases Zbt z a.2.2.1 (at0 y k) <;> simp
 obtain ⟨C, hC⟩ : ∃ C, C = tot a.2.1 := ⟨_, rfl⟩;rw [← hC] at hpl hzr t2;clear hlay hbk;generalize ZgZ a i f = PP at *;generalize hPQ : (fun k : Nat => Zbt z a.2.2.1 (at0 y k)) = PQ at *;have hPQe : ∀ k : Nat, Zbt z a.2.2.1 (at0 y k) = PQ k := fun k => by rw [← hPQ]
 have hplk : ∀ k : Nat, Zaa Tryz.prog 243 [lvD a, .int (at0 y k), Zac (Za2 (fun u : Nat => placeF z u) C)] (Zac (PQ k)) := fun k => by rw [← hPQe]; exact hpl _
 simp only [hPQe] at hso hH;clear hpl hPQ hPQe;generalize Zba y z a.2.2.1 = F at *;generalize Zeq y z a.2.2.1 = T at *;generalize Ze2 y z a.2.2.1 = ON at *;generalize ZeV y z a.2.2.1 = OBv at *;simp only [hH] at hFs;clear hH;obtain ⟨n', ls', ar', cs'⟩ := PP;obtain ⟨n, ls, ar, cs⟩ := a;dsimp only at *;have htk := ZpI ls;refine kE Tryz.func215 ?_;intro hat B X w0;refine kw1 kO kc0 kc0 ?_;refine Zai (fun (k : Nat) => k ≤ ls.length) (fun k => [(1, .int i), (2, .int f), (3, .ptr 3 0 0 0), (6, .ptr 6 0 0 0), (7, .int (tot (ls.take k))), (25, .d (Zae ls)), (26, .int ls.length), (27, .int k)]) (fun k => [(3, .cells [.int n, .d (Zae ls), .d (Zak ar), .d (Zae cs)]), (6, .cells [.int 0, .nilS, .nilS, .nilS])]) (fun k => ls.length - k) 0 ?_ ?_ ?_
 ·exact Nat.zero_le _
 ·exact kN (kc2 @List.take_zero.{0} @tot.eq_1) []
 ·intro k hk;have hle := htk k;rcases Nat.lt_or_ge k ls.length with hlt | hge
  ·obtain ⟨x, hx⟩ := Zad hlt;have e1 := Zpo hx;have hle2 := htk (k + 1);refine kw1 kO (kc1 hx) kc0 ?_;refine ⟨k + 1, ?_, kN (kc2 e1 @Int.natCast_add) [], ?_⟩
   ·omega
   ·omega
  ·have : k = ls.length := by omega
   subst this
   try dsimp only
   rw [List.take_length, ← hC];have hz0 : List.replicate C (D.int 0) = (Zcd (fun _ => 0) (fun _ => -1) C 0).map D.int := by rw [ZoA, Zq6]
   refine kw1 kO kc0 kc0 ?_;refine Zai (fun (k : Nat) => k ≤ C) (fun k => [(1, .int i), (2, .int f), (3, .ptr 3 0 0 0), (6, .ptr 6 0 0 0), (10, .ref 37 1 0 C C), (39, .int C), (40, .int k)]) (fun k => [(3, .cells [.int n, .d (Zae ls), .d (Zak ar), .d (Zae cs)]), (6, .cells [.int 0, .nilS, .nilS, .nilS]), (37, .row 1 ((Zcd (fun _ => 0) (fun _ => -1) C k).map D.int))]) (fun k => C - k) 0 ?_ ?_ ?_
   ·exact Nat.zero_le _
   ·exact kN (kc1 hz0) []
   ·intro k hk;have hml := Ziy (fun _ => 0) (fun _ => -1) C k;rcases Nat.lt_or_ge k C with hlt | hge
    ·have hg : (Zcd (fun _ => 0) (fun _ => -1) C k)[k]? = some 0 := Zo9 hlt;have hs2 : ((Zcd (fun _ => 0) (fun _ => -1) C k).map D.int).set k (D.int (-1)) = (Zcd (fun _ => 0) (fun _ => -1) C (k + 1)).map D.int := by rw [← Zpl hlt, List.map_set]
     refine kw1 kO (kc3 hg hml hs2) kc0 ?_;refine ⟨k + 1, ?_, kN (kc1 hs2) [], ?_⟩
     ·omega
     ·omega
    ·have : k = C := by omega
     subst this;have hz1 : Zcd (fun _ => 0) (fun _ => -1) k k = Za2 (fun u : Nat => placeF (z.take 0) u) k := by rw [ZpK]; exact Zgi fun v _ => rfl
     try dsimp only
     rw [hz1];refine kw1 kO (kc1 hz) kc0 ?_;refine Zai (fun (j : Nat) => j ≤ z.length) (fun j => [(1, .int i), (3, .ptr 3 0 0 0), (6, .ptr 6 0 0 0), (10, .ref 37 1 0 k k), (51, .d (Zac z)), (52, .int z.length), (53, .int j)]) (fun j => [(3, .cells [.int n, .d (Zae ls), .d (Zak ar), .d (Zae cs)]), (6, .cells [.int 0, .nilS, .nilS, .nilS]), (37, .row 1 ((Za2 (fun u : Nat => placeF (z.take j) u) k).map D.int))]) (fun j => z.length - j) 0 ?_ ?_ ?_
     ·exact Nat.zero_le _
     ·exact kN kc0 []
     ·intro j hj;have hml := ZdD (fun u : Nat => placeF (z.take j) u) k;rcases Nat.lt_or_ge j z.length with hlt | hge
      ·obtain ⟨v, hv1⟩ := Zad hlt;obtain ⟨v1, v2⟩ := hzr j v hv1;obtain ⟨v, rfl⟩ : ∃ m : Nat, v = m := ⟨v.toNat, by omega⟩;have hg : (Za2 (fun u : Nat => placeF (z.take j) u) k)[v]? = some (placeF (z.take j) v) := ZeG (by omega);have hs1 : (Za2 (fun u : Nat => placeF (z.take j) u) k).set v (j : Int) = Za2 (fun u : Nat => placeF (z.take (j + 1)) u) k := by
        rw [Zqo];refine Zgi fun u hu => ?_
        rw [ZzL hzn hv1];by_cases c : u = v
        ·subst c; rw [if_pos rfl, if_pos rfl]
        ·rw [if_neg c, if_neg (by omega)]
       have hs2 : ((Za2 (fun u : Nat => placeF (z.take j) u) k).map D.int).set v (D.int j) = (Za2 (fun u : Nat => placeF (z.take (j + 1)) u) k).map D.int := by rw [← hs1, List.map_set]
       refine kw1 kO (kc4 hv1 hg hml hs2) kc0 ?_;refine ⟨j + 1, ?_, kN (kc1 hs2) [], ?_⟩
       ·omega
       ·omega
      ·have : j = z.length := by omega
       subst this
       try dsimp only
       rw [List.take_length];refine Zav _ (Zc5 37 1 ((Za2 (fun u : Nat => placeF z u) k).map D.int) rfl (ZcR _ rfl) (by decide)) ?_;have htl : ((Za2 (fun u : Nat => placeF z u) k).map D.int).take k = (Za2 (fun u : Nat => placeF z u) k).map D.int := List.take_of_length_le (by rw [List.length_map, ZdD]; exact Nat.le_refl _);have hPl := ZdD (fun u : Nat => placeF z u) k;refine kw1 kO (kc4 hy htl hPl @List.drop_zero.{0}) (kc1 (kmc [(2000, 903)] hcl)) ?_;refine Zav _ (ZdU 15 901 1 rfl rfl) ?_;refine Zav _ (ZdU 16 902 2 rfl rfl) ?_;refine Zai (fun (q : Nat) => q ≤ y.length) (fun q => [(1, .int i), (3, .ptr 3 0 0 0), (6, .ptr 6 0 0 0), (10, .d (Zac (Za2 (fun u : Nat => placeF z u) k))), (14, .ref 903 1 0 y.length y.length), (15, .ref 901 1 0 (F q).length (F q).length), (16, .ref 902 2 0 (F q).length (F q).length), (69, .ref 903 1 0 y.length y.length), (70, .int y.length), (71, .int q)]) (fun q => [(3, .cells [.int n, .d (Zae ls), .d (Zak ar), .d (Zae cs)]), (6, .cells [.int 0, .nilS, .nilS, .nilS]), (901, .row 1 ((F q).map Zaw)), (902, .row 2 ((F q).map (elD (fun k : Nat => at0 y k) fun k => (PQ k).map D.int))), (903, .row 1 (y.map D.int))]) (fun q => y.length - q) 0 ?_ ?_ ?_
       ·exact Nat.zero_le _
       ·exact kN (kc6 hF0 @List.map_nil.{0,0} @List.length_nil.{0} htl hPl @Nat.le_refl) []
       ·intro q hq;have hql := hFl q;rcases Nat.lt_or_ge q y.length with hlt | hge
        ·have gq := ZaW (r := y) (i := q) hlt;have hp := hplk q;have e1 := hFs q;have h1 : ((F q).map Zaw).take (F q).length = (F q).map Zaw := Zat _ _;have h2 : ((F q).map (elD (fun k : Nat => at0 y k) fun k => (PQ k).map D.int)).take (F q).length = (F q).map (elD (fun k : Nat => at0 y k) fun k => (PQ k).map D.int) := Zat _ _;by_cases c : 0 < (PQ q).length
         ·rw [decide_eq_true c, if_pos rfl] at e1
          repeat' first | refine ZaK rfl ?_ | refine ZaF ?_ | refine wR ?_ | (refine rc (hp) rfl ?_ ?_; (· first | rfl | simp (disch := omega) only [go_sem, simprocAttr, gq, c, h1, h2, roomy])) | (refine ZaM rfl rfl (fun hc => ?_) (fun hc => ?_) <;> try simp only [hcL] at hc) | (refine ZaL _ rfl rfl (fun hc => ?_) (fun hc => ?_) <;> (try simp only [hcL] at hc) <;> try omega) | simp (disch := omega) only [go_sem, simprocAttr, gq, c, h1, h2, roomy] | (first | exact Zec _ | exact fun d hd => by rw [List.mem_singleton.1 hd]; rfl) | apply And.intro | omega | decide +kernel
          refine ⟨q + 1, ?_, kN (kc8 e1 h1 h2 @List.map_append.{0,0} @List.map_cons.{0,0} @List.map_nil.{0,0} @List.length_append.{0} (kc3 @List.length_cons.{0} @List.length_nil.{0} @Nat.zero_add)) [(901, 86), (902, 92)], ?_⟩
          ·omega
          ·omega
         ·rw [decide_eq_false c, if_neg (by decide)] at e1;refine kw1 kO (kc2 gq c) (kc1 hp) ?_;refine ⟨q + 1, ?_, kN (kc1 e1) [], ?_⟩
          ·omega
          ·omega
        ·have : q = y.length := by omega
         subst this;refine kw1 kO kc0 (kc1 (kmc [(1000, 902)] hso)) ?_;refine Zai (fun (q : Nat) => q ≤ (F y.length).length) (fun q => [(1, .int i), (3, .ptr 3 0 0 0), (6, .ptr 6 0 0 0), (14, .ref 903 1 0 y.length y.length), (15, .ref 901 1 0 (F y.length).length (F y.length).length), (96, .ref 902 2 0 (F y.length).length (F y.length).length), (97, .int (F y.length).length), (98, .int q)]) (fun q => [(3, .cells [.int n, .d (Zae ls), .d (Zak ar), .d (Zae cs)]), (6, .cells [.int 0, .nilS, .nilS, .nilS]), (901, .row 1 ((F y.length).map Zaw)), (902, .row 2 (T.map (elD (fun k : Nat => at0 y k) fun k => (PQ k).map D.int))), (903, .row 1 ((ON q).map D.int))]) (fun q => (F y.length).length - q) 0 ?_ ?_ ?_
         ·exact Nat.zero_le _
         ·exact kN (kc1 hO0) []
         ·intro q hq;have hol := hOl q;rcases Nat.lt_or_ge q (F y.length).length with hlt | hge
          ·obtain ⟨j, hj⟩ := Zad hlt;obtain ⟨t, ht⟩ := Zad (l := T) (k := q) (by omega);have hjy := hFm q j hj;have hs1 := hOs q j t hj ht;obtain ⟨w, hw1⟩ := Zad (l := ON q) (k := j) (by omega);have hs2 : ((ON q).map D.int).set j (D.int (at0 y t)) = (ON (q + 1)).map D.int := by rw [← hs1, List.map_set]
           refine kw1 kO (kc6 hj ht hw1 hol hSl hs2) kc0 ?_;refine ⟨q + 1, ?_, kN (kc1 hs2) [], ?_⟩
           ·omega
           ·omega
          ·have : q = (F y.length).length := by omega
           subst this
           try dsimp only
           rw [hOf] at hol ⊢;refine Zav _ (Zc5 903 1 (OBv.map D.int) rfl (ZcR _ rfl) (by decide)) ?_;have htl2 : (OBv.map D.int).take y.length = OBv.map D.int := by rw [← hol]; exact Zat _ _
           refine kw1 kO (kc3 htl2 hol @List.drop_zero.{0}) (kc1 hre) ?_;refine ⟨_, _, _, _, rfl, ?_⟩;simp (disch := omega) only [go_sem, simprocAttr, toD]
end Go.Proofs.YtjjbhjnpeenbkaaGreatDoor
