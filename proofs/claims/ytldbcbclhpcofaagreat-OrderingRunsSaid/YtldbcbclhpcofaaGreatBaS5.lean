/- Stable sorting: the symmetric merge. -/
import Derived.Test.YtldbcbclhpcofaaGreatStH
import Derived.Test.YtldbcbclhpcofaaGreatPSBridge
set_option linter.unusedSimpArgs false
set_option linter.unusedVariables false
namespace Go.Proofs.YtldbcbclhpcofaaGreat
open Go Go.PS Go.Proofs
open Go.Stb
set_option maxRecDepth 100000
attribute [local irreducible] Zax wpG Zah Zai

def MergeOk (v : Nat → Int) (p : Nat → List D) (g : Nat) (c : Nat → Nat → Int) (R : Nat → Nat → Prop) (N : Nat) (P A B Q : List Nat) : Prop :=
 ∀ T : List Nat, 0 < A.length → 0 < B.length → A.Pairwise R → B.Pairwise R → (∀ s, s ∈ A → ∀ z, z ∈ B → Back c R s z) → (A ++ B).Nodup → T.Perm (A ++ B) → T.Pairwise R → P.length + A.length + B.length + Q.length = N →
  ∀ a m b : Int, a = P.length → m = (P.length + A.length : Nat) → b = (P.length + A.length + B.length : Nat) →
  Zai Tryz.prog 122 [.ref 1000 2 0 N N, .int a, .int m, .int b, .d (.fn g [])] [(1000, .row 2 ((P ++ A ++ B ++ Q).map (elD v p)))] (.tup []) [(1000, .row 2 ((P ++ T ++ Q).map (elD v p)))]
set_option maxHeartbeats 8000000 in
theorem merge_main (v : Nat → Int) (p : Nat → List D) (g : Nat) (c : Nat → Nat → Int) (R : Nat → Nat → Prop) (hR : Ord R) (hcmp : ∀ j k, Zah Tryz.prog g [elD v p j, elD v p k] (.int (c j k))) (N : Nat) (hN1 : N ≤ 1000000)
  (P A B Q T : List Nat) (hA2 : 2 ≤ A.length) (hB2 : 2 ≤ B.length) (IH : ∀ P' A' B' Q', A'.length + B'.length < A.length + B.length → MergeOk v p g c R N P' A' B' Q')
  (hAs : A.Pairwise R) (hBs : B.Pairwise R) (hb : ∀ s, s ∈ A → ∀ z, z ∈ B → Back c R s z) (hnd : (A ++ B).Nodup) (hT : T.Perm (A ++ B)) (hTs : T.Pairwise R) (hN : P.length + A.length + B.length + Q.length = N) :
  Zai Tryz.prog 122 [.ref 1000 2 0 N N, .int P.length, .int (P.length + A.length : Nat), .int (P.length + A.length + B.length : Nat), .d (.fn g [])] [(1000, .row 2 ((P ++ A ++ B ++ Q).map (elD v p)))] (.tup []) [(1000, .row 2 ((P ++ T ++ Q).map (elD v p)))] := by
 have hne : ∀ s, s ∈ A → ∀ z, z ∈ B → s ≠ z := (List.nodup_append.1 hnd).2.2
 have hndA := (List.nodup_append.1 hnd).1
 have hndB := (List.nodup_append.1 hnd).2.1
 generalize hA0 : P.length = A0 at *
 obtain ⟨m, hm⟩ : ∃ m, m = A0 + A.length := ⟨_, rfl⟩
 obtain ⟨b, hbb⟩ : ∃ b, b = A0 + A.length + B.length := ⟨_, rfl⟩
 rw [← hbb, ← hm]
 obtain ⟨mid, hmid⟩ : ∃ mid, mid = (A0 + b) / 2 := ⟨_, rfl⟩
 obtain ⟨n0, hn0⟩ : ∃ n0, n0 = mid + m := ⟨_, rfl⟩
 obtain ⟨s0, r0, hsr⟩ : ∃ s0 r0 : Nat, (mid < m ∧ s0 = n0 - b ∧ r0 = mid) ∨ (¬ mid < m ∧ s0 = A0 ∧ r0 = m) := by
  by_cases h : mid < m
  ·exact ⟨n0 - b, mid, .inl ⟨h, rfl, rfl⟩⟩
  ·exact ⟨A0, m, .inr ⟨h, rfl, rfl⟩⟩
 -- the stretches at a split, and what is done with them
 have hgA : ∀ k x, A[k]? = some x → (P ++ A ++ B ++ Q)[A0 + k]? = some x := fun k x hx => by
  have h1 := (List.getElem?_eq_some_iff.1 hx).1
  rw [List.append_assoc, List.append_assoc, List.getElem?_append_right (by omega), hA0, Nat.add_sub_cancel_left, List.getElem?_append_left h1, hx]
 have hgB : ∀ k x, B[k]? = some x → (P ++ A ++ B ++ Q)[m + k]? = some x := fun k x hx => by
  have h1 := (List.getElem?_eq_some_iff.1 hx).1
  rw [List.append_assoc, List.getElem?_append_right (by rw [List.length_append]; omega), List.getElem?_append_left (by rw [List.length_append]; omega), show m + k - (P ++ A).length = k by rw [List.length_append]; omega, hx]
 have hl0 : (P ++ A ++ B ++ Q).length = N := by simp only [List.length_append]; omega
 have hfin : ∀ k q : Nat, A0 + k + q = mid → k ≤ A.length → q ≤ B.length → (∀ x y, 0 < k → A[k - 1]? = some x → B[q]? = some y → R x y) → (∀ x y, 0 < q → B[q - 1]? = some x → A[k]? = some y → R x y) →
   ∃ L1 L2 : List Nat, 
    ((k < A.length ∧ 0 < q) → Zai Tryz.prog 131 [.ref 1000 2 0 N N, .int (A0 + k : Nat), .int m, .int (m + q : Nat), .d (.fn g [])] [(1000, .row 2 ((P ++ A ++ B ++ Q).map (elD v p)))] (.tup []) [(1000, .row 2 (L1.map (elD v p)))]) ∧
    (¬ (k < A.length ∧ 0 < q) → P ++ A ++ B ++ Q = L1) ∧
    ((0 < k ∧ 0 < q) → Zai Tryz.prog 122 [.ref 1000 2 0 N N, .int A0, .int (A0 + k : Nat), .int mid, .d (.fn g [])] [(1000, .row 2 (L1.map (elD v p)))] (.tup []) [(1000, .row 2 (L2.map (elD v p)))]) ∧
    (¬ (0 < k ∧ 0 < q) → L1 = L2) ∧
    ((k < A.length ∧ q < B.length) → Zai Tryz.prog 122 [.ref 1000 2 0 N N, .int mid, .int (m + q : Nat), .int b, .d (.fn g [])] [(1000, .row 2 (L2.map (elD v p)))] (.tup []) [(1000, .row 2 ((P ++ T ++ Q).map (elD v p)))]) ∧
    (¬ (k < A.length ∧ q < B.length) → L2 = P ++ T ++ Q) := by
  intro k q hkq hk hq h1 h2
  obtain ⟨T1, T2, rfl, p1, p2, s1, s2⟩ := merge_split hR hk hq hAs hBs hTs hT hnd h1 h2
  have lt := List.length_take (i := k) (l := A)
  have ld := List.length_drop (i := k) (l := A)
  have mt := List.length_take (i := q) (l := B)
  have md := List.length_drop (i := q) (l := B)
  have ea := List.take_append_drop k A
  have eb := List.take_append_drop q B
  have e1 := p1.length_eq
  have e2 := p2.length_eq
  rw [List.length_append] at e1 e2
  have sa : (A.take k).Pairwise R ∧ (A.drop k).Pairwise R := by
   have := hAs
   rw [← ea] at this
   exact ⟨(List.pairwise_append.1 this).1, (List.pairwise_append.1 this).2.1⟩
  have sb : (B.take q).Pairwise R ∧ (B.drop q).Pairwise R := by
   have := hBs
   rw [← eb] at this
   exact ⟨(List.pairwise_append.1 this).1, (List.pairwise_append.1 this).2.1⟩
  have nd1 : (A.take k ++ B.take q).Nodup := List.nodup_append.2 ⟨hndA.sublist (List.take_sublist _ _), hndB.sublist (List.take_sublist _ _), fun s hs z hz => hne s (List.mem_of_mem_take hs) z (List.mem_of_mem_take hz)⟩
  have nd2 : (A.drop k ++ B.drop q).Nodup := List.nodup_append.2 ⟨hndA.sublist (List.drop_sublist _ _), hndB.sublist (List.drop_sublist _ _), fun s hs z hz => hne s (List.mem_of_mem_drop hs) z (List.mem_of_mem_drop hz)⟩
  refine ⟨P ++ A.take k ++ B.take q ++ A.drop k ++ B.drop q ++ Q, P ++ T1 ++ A.drop k ++ B.drop q ++ Q, ?_, ?_, ?_, ?_, ?_, ?_⟩
  ·rintro ⟨c1, c2⟩
   have h := rot_spec v p g (P ++ A.take k) (A.drop k) (B.take q) (B.drop q ++ Q) (by omega) (by omega) N (by simp only [List.length_append]; omega) hN1 ((A0 + k : Nat) : Int) m ((m + q : Nat) : Int)
    (by rw [List.length_append]; omega) (by rw [List.length_append]; omega) (by rw [List.length_append]; omega)
   have r1 : P ++ A.take k ++ A.drop k ++ B.take q ++ (B.drop q ++ Q) = P ++ A ++ B ++ Q := by
    rw [List.append_assoc P, ea, List.append_assoc (P ++ A), ← List.append_assoc (B.take q), eb, ← List.append_assoc]
   have r2 : P ++ A.take k ++ B.take q ++ A.drop k ++ (B.drop q ++ Q) = P ++ A.take k ++ B.take q ++ A.drop k ++ B.drop q ++ Q := by simp
   rw [r1, r2] at h; exact h
  ·intro c1
   by_cases c2 : k < A.length
   ·have : q = 0 := by
     by_cases c3 : 0 < q
     ·exact absurd ⟨c2, c3⟩ c1
     ·omega
    subst this
    refine Eq.trans (congrArg (fun Z => P ++ Z ++ B ++ Q) ea.symm) ?_
    simp
   ·have : k = A.length := by omega
    subst this
    refine Eq.trans (congrArg (fun Z => P ++ A ++ Z ++ Q) eb.symm) ?_
    simp
  ·rintro ⟨c1, c2⟩
   have h := IH P (A.take k) (B.take q) (A.drop k ++ B.drop q ++ Q) (by omega) T1 (by omega) (by omega) sa.1 sb.1 (fun s hs z hz => hb s (List.mem_of_mem_take hs) z (List.mem_of_mem_take hz)) nd1 p1 s1 (by simp only [List.length_append]; omega)
    A0 ((A0 + k : Nat) : Int) mid (by omega) (by omega) (by omega)
   have r1 : P ++ A.take k ++ B.take q ++ (A.drop k ++ B.drop q ++ Q) = P ++ A.take k ++ B.take q ++ A.drop k ++ B.drop q ++ Q := by simp
   have r2 : P ++ T1 ++ (A.drop k ++ B.drop q ++ Q) = P ++ T1 ++ A.drop k ++ B.drop q ++ Q := by simp
   rw [r1, r2] at h; exact h
  ·intro c1
   have : T1 = A.take k ++ B.take q := by
    refine uniq hR p1 s1 ?_
    rcases Nat.eq_zero_or_pos k with rfl | c2
    ·rw [List.take_zero, List.nil_append]; exact sb.1
    ·have : q = 0 := by
      by_cases c3 : 0 < q
      ·exact absurd ⟨c2, c3⟩ c1
      ·omega
     subst this
     rw [List.take_zero, List.append_nil]; exact sa.1
   rw [this]; simp
  ·rintro ⟨c1, c2⟩
   have h := IH (P ++ T1) (A.drop k) (B.drop q) Q (by omega) T2 (by omega) (by omega) sa.2 sb.2 (fun s hs z hz => hb s (List.mem_of_mem_drop hs) z (List.mem_of_mem_drop hz)) nd2 p2 s2 (by rw [List.length_append]; omega)
    mid ((m + q : Nat) : Int) b (by rw [List.length_append]; omega) (by rw [List.length_append]; omega) (by rw [List.length_append]; omega)
   have r2 : P ++ T1 ++ T2 ++ Q = P ++ (T1 ++ T2) ++ Q := by simp
   rw [r2] at h; exact h
  ·intro c1
   have : T2 = A.drop k ++ B.drop q := by
    refine uniq hR p2 s2 ?_
    by_cases c2 : k < A.length
    ·have : q = B.length := by
      by_cases c3 : q < B.length
      ·exact absurd ⟨c2, c3⟩ c1
      ·omega
     subst this
     rw [List.drop_length, List.append_nil]; exact sa.2
    ·have : k = A.length := by omega
     subst this
     rw [List.drop_length, List.nil_append]; exact sb.2
   rw [this]; simp
 clear IH hT hTs
 generalize P ++ A ++ B ++ Q = L0 at *
 generalize P ++ T ++ Q = LT at *
 have d1 : ¬ ((m : Int) - (A0 : Int) = 1) := by omega
 have d2 : ¬ ((b : Int) - (m : Int) = 1) := by omega
 have w1 : IntKind.u64.wrap ((A0 : Int) + (b : Int)) = (A0 : Int) + (b : Int) := wrapU (by omega) (by omega)
 have w2 : ((A0 : Int) + (b : Int)).fdiv (2 ^ min 1 64) = (mid : Int) := by rw [shr1 (by omega)]; omega
 have d3 : (mid : Int) + (m : Int) = (n0 : Int) := by omega
 have d4 : (n0 : Int) - 1 = ((n0 - 1 : Nat) : Int) := by omega
 obtain ⟨pp, hpp⟩ : ∃ pp, pp = n0 - 1 := ⟨_, rfl⟩
 rw [← hpp] at d4
 refine Zag Tryz.func122 rfl (by decide +kernel) (Nat.le_of_ble_eq_true rfl) rfl (Zba rfl) rfl rfl rfl ?_
 intro B0 X w0
 refine Zcs ?_
 repeat' first | refine Zad rfl ?_ | refine Zac ?_ | refine wR ?_ | (refine Zaa rfl rfl (fun hc => ?_) (fun hc => ?_) <;> try simp only [hcL] at hc) | (refine Zab _ rfl rfl (fun hc => ?_) (fun hc => ?_) <;> (try simp only [hcL] at hc) <;> try omega) | simp (disch := omega) only [go_sem, simprocAttr, d1, d2, d3, d4, w1, w2] | apply And.intro | omega | decide +kernel
 all_goals
  refine Zap (κ := Nat × Nat) (fun (q : Nat × Nat) => match q with | (s, r) => s0 ≤ s ∧ s ≤ r ∧ r ≤ r0 ∧ (s = s0 ∨ ∃ x y, A[s - 1 - A0]? = some x ∧ B[mid - s]? = some y ∧ R x y) ∧ (r = r0 ∨ ∃ x y, B[mid - r - 1]? = some x ∧ A[r - A0]? = some y ∧ R x y)) (fun (q : Nat × Nat) => match q with | (s, r) => [(0, .ref 1000 2 0 N N), (1, .int A0), (2, .int m), (3, .int b), (4, .d (.fn g [])), (18, .int mid), (19, .int n0), (20, .int s), (21, .int r), (22, .int pp)]) (fun (q : Nat × Nat) => match q with | (s, r) => [(1000, .row 2 (L0.map (elD v p)))]) (fun (q : Nat × Nat) => match q with | (s, r) => r - s) (s0, r0) ?_ ?_ ?_
  ·exact ⟨Nat.le_refl _, by omega, Nat.le_refl _, .inl rfl, .inl rfl⟩
  ·exact eL [] _ _ (by refine ⟨?_, ?_⟩ <;> (repeat' first | exact fmn | refine fmc ⟨(by first | rfl | (simp (disch := omega) only [go_sem, simprocAttr, inL]; first | done | omega | (congr 1; done))), ?_⟩); done)
  ·rintro ⟨s, r⟩ ⟨h1, h2, h3, h4, h5⟩
   dsimp only at h1 h2 h3 h4 h5 ⊢
   rcases Nat.lt_or_ge s r with hlt | hge
   ·obtain ⟨cc, hcc⟩ : ∃ cc, cc = (s + r) / 2 := ⟨_, rfl⟩
    obtain ⟨dd, hdd⟩ : ∃ dd, dd = pp - cc := ⟨_, rfl⟩
    obtain ⟨x, hx⟩ := Zan (l := A) (k := cc - A0) (by omega)
    obtain ⟨y, hy⟩ := Zan (l := B) (k := mid - 1 - cc) (by omega)
    have g1 := hgA _ _ hx
    have g2 := hgB _ _ hy
    rw [show A0 + (cc - A0) = cc by omega] at g1
    rw [show m + (mid - 1 - cc) = dd by omega] at g2
    have c1 := hcmp y x
    have hbk := hb x (List.mem_of_getElem? hx) y (List.mem_of_getElem? hy)
    have hn := hne x (List.mem_of_getElem? hx) y (List.mem_of_getElem? hy)
    have v1 : IntKind.u64.wrap ((s : Int) + (r : Int)) = (s : Int) + (r : Int) := wrapU (by omega) (by omega)
    have v2 : ((s : Int) + (r : Int)).fdiv (2 ^ min 1 64) = (cc : Int) := by rw [shr1 (by omega)]; omega
    have v3 : (pp : Int) - (cc : Int) = (dd : Int) := by omega
    by_cases hc1 : c y x < 0
    ·repeat' first | refine Zad rfl ?_ | refine Zac ?_ | refine wR ?_ | (refine rc (c1) rfl ?_ ?_; (· first | rfl | simp (disch := omega) only [go_sem, simprocAttr, v1, v2, v3, g1, g2, hl0, hc1])) | (refine Zaa rfl rfl (fun hc => ?_) (fun hc => ?_) <;> try simp only [hcL] at hc) | (refine Zab _ rfl rfl (fun hc => ?_) (fun hc => ?_) <;> (try simp only [hcL] at hc) <;> try omega) | simp (disch := omega) only [go_sem, simprocAttr, v1, v2, v3, g1, g2, hl0, hc1] | apply And.intro | omega | decide +kernel
     refine ⟨(s, cc), ?_, eL [] _ _ (by refine ⟨?_, ?_⟩ <;> (repeat' first | exact fmn | refine fmc ⟨(by first | rfl | (simp (disch := omega) only [go_sem, simprocAttr, inL]; first | done | omega | (congr 1; done))), ?_⟩); done), ?_⟩
     ·dsimp only
      exact ⟨h1, by omega, by omega, h4, .inr ⟨y, x, by rw [show mid - cc - 1 = mid - 1 - cc by omega]; exact hy, hx, hbk.1 hc1⟩⟩
     ·dsimp only; omega
    ·have hxy : R x y := by
      rcases hR.total x y hn with h | h
      ·exact h
      ·exact absurd (hbk.2 h) hc1
     repeat' first | refine Zad rfl ?_ | refine Zac ?_ | refine wR ?_ | (refine rc (c1) rfl ?_ ?_; (· first | rfl | simp (disch := omega) only [go_sem, simprocAttr, v1, v2, v3, g1, g2, hl0, hc1])) | (refine Zaa rfl rfl (fun hc => ?_) (fun hc => ?_) <;> try simp only [hcL] at hc) | (refine Zab _ rfl rfl (fun hc => ?_) (fun hc => ?_) <;> (try simp only [hcL] at hc) <;> try omega) | simp (disch := omega) only [go_sem, simprocAttr, v1, v2, v3, g1, g2, hl0, hc1] | apply And.intro | omega | decide +kernel
     refine ⟨(cc + 1, r), ?_, eL [] _ _ (by refine ⟨?_, ?_⟩ <;> (repeat' first | exact fmn | refine fmc ⟨(by first | rfl | (simp (disch := omega) only [go_sem, simprocAttr, inL]; first | done | omega | (congr 1; done))), ?_⟩); done), ?_⟩
     ·dsimp only
      exact ⟨by omega, by omega, h3, .inr ⟨x, y, by rw [show cc + 1 - 1 - A0 = cc - A0 by omega]; exact hx, by rw [show mid - (cc + 1) = mid - 1 - cc by omega]; exact hy, hxy⟩, h5⟩
     ·dsimp only; omega
   ·have : s = r := by omega
    subst this
    obtain ⟨k, hk⟩ : ∃ k, k = s - A0 := ⟨_, rfl⟩
    obtain ⟨q, hq⟩ : ∃ q, q = mid - s := ⟨_, rfl⟩
    obtain ⟨L1, L2, f1, f2, f3, f4, f5, f6⟩ := hfin k q (by omega) (by omega) (by omega) (fun x y h0 hx hy => by
     rcases h4 with h4 | ⟨x', y', e1, e2, e3⟩
     ·rw [List.getElem?_eq_none (by omega)] at hy; cases hy
     ·rw [show s - 1 - A0 = k - 1 by omega, hx, Option.some.injEq] at e1
      rw [← hq, hy, Option.some.injEq] at e2
      rw [e1, e2]; exact e3) (fun x y h0 hx hy => by
     rcases h5 with h5 | ⟨x', y', e1, e2, e3⟩
     ·rw [List.getElem?_eq_none (by omega)] at hy; cases hy
     ·rw [show mid - s - 1 = q - 1 by omega, hx, Option.some.injEq] at e1
      rw [← hk, hy, Option.some.injEq] at e2
      rw [e1, e2]; exact e3)
    rw [show A0 + k = s by omega] at f1 f3
    obtain ⟨en, hen⟩ : ∃ en, en = m + q := ⟨_, rfl⟩
    rw [← hen] at f1 f5
    have v4 : (n0 : Int) - (s : Int) = (en : Int) := by omega
    clear hfin hgA hgB hb hne h4 h5
    by_cases c1 : k < A.length ∧ 0 < q <;> by_cases c2 : 0 < k ∧ 0 < q <;> by_cases c3 : k < A.length ∧ q < B.length
    all_goals
     try have f2 := f2 c1
     try have f4 := f4 c2
     try have f6 := f6 c3
     try subst f2
     try subst f4
     try subst f6
     repeat' first | refine Zad rfl ?_ | refine Zac ?_ | refine wR ?_ | refine rcM [] (f1 c1) rfl ?_ | refine rcM [] (f3 c2) rfl ?_ | refine rcM [] (f5 c3) rfl ?_ | (refine Zaa rfl rfl (fun hc => ?_) (fun hc => ?_) <;> try simp only [hcL] at hc) | (refine Zab _ rfl rfl (fun hc => ?_) (fun hc => ?_) <;> (try simp only [hcL] at hc) <;> try omega) | simp (disch := omega) only [go_sem, simprocAttr, v4] | apply And.intro | omega | decide +kernel
     all_goals
      refine ⟨_, Zbh.1 (eL [] [] [(1000, .row 2 (_))] (by refine ⟨?_, ?_⟩ <;> (repeat' first | exact fmn | refine fmc ⟨(by first | rfl | (simp (disch := omega) only [go_sem, simprocAttr, inL]; first | done | omega | (congr 1; done))), ?_⟩); done)), ?_⟩
     all_goals exact ⟨⟨[], rfl, trivial⟩, fmc ⟨rfl, fmn⟩⟩
end Go.Proofs.YtldbcbclhpcofaaGreat
namespace Go.Proofs.YtldbcbclhpcofaaGreat
open Go Go.PS Go.Proofs
open Go.Stb
set_option maxRecDepth 100000
attribute [local irreducible] Zax wpG Zah Zai

theorem merge_all (v : Nat → Int) (p : Nat → List D) (g : Nat) (c : Nat → Nat → Int) (R : Nat → Nat → Prop) (hR : Ord R) (hcmp : ∀ j k, Zah Tryz.prog g [elD v p j, elD v p k] (.int (c j k))) (N : Nat) (hN1 : N ≤ 1000000) :
  ∀ (n : Nat) (P A B Q : List Nat), A.length + B.length < n → MergeOk v p g c R N P A B Q := by
 intro n
 induction n with
 | zero => intro P A B Q h; omega
 | succ n ih =>
  intro P A B Q hn T hA hB hAs hBs hb hnd hT hTs hN a m b ha hm hbb
  subst ha hm hbb
  have hne : ∀ s, s ∈ A → ∀ z, z ∈ B → s ≠ z := (List.nodup_append.1 hnd).2.2
  by_cases c1 : A.length = 1
  ·obtain ⟨x, rfl⟩ := List.length_eq_one_iff.1 c1
   exact merge_left v p g c R hR hcmp P B Q T x hBs (fun z hz => hb x (by simp) z hz) (fun z hz => hne x (by simp) z hz) hT hTs N (by rw [← hN, List.length_singleton]; omega) hN1 _ _ _ rfl rfl rfl
  ·by_cases c2 : B.length = 1
   ·obtain ⟨y, rfl⟩ := List.length_eq_one_iff.1 c2
    exact merge_right v p g c R hR hcmp P A Q T y (by omega) hAs (fun z hz => hb z hz y (by simp)) (fun z hz => hne z hz y (by simp)) hT hTs N (by rw [← hN, List.length_singleton]; omega) hN1 _ _ _ rfl rfl rfl
   ·exact merge_main v p g c R hR hcmp N hN1 P A B Q T (by omega) (by omega) (fun P' A' B' Q' h => ih P' A' B' Q' (by omega)) hAs hBs hb hnd hT hTs hN
def Blk (R : Nat → Nat → Prop) (s : Nat) : List Nat → List (List Nat) → Prop
 | L, [] => L = []
 | L, X :: Xs => X.Perm (L.take s) ∧ X.Pairwise R ∧ Blk R s (L.drop s) Xs
theorem Blk.nil_flat {R : Nat → Nat → Prop} {s : Nat} : ∀ {Xs : List (List Nat)}, Blk R s [] Xs → Xs.flatten = []
 | [], _ => rfl
 | X :: Xs, h => by
  obtain ⟨h1, _, h3⟩ := h
  rw [List.take_nil, List.perm_nil] at h1
  rw [List.drop_nil] at h3
  rw [List.flatten_cons, h1, Blk.nil_flat h3]; rfl
theorem Blk.nil_any {R : Nat → Nat → Prop} {s t : Nat} : ∀ {Xs : List (List Nat)}, Blk R s [] Xs → Blk R t [] Xs
 | [], h => h
 | X :: Xs, h => by
  obtain ⟨h1, h2, h3⟩ := h
  rw [List.take_nil] at h1
  rw [List.drop_nil] at h3
  exact ⟨by rw [List.take_nil]; exact h1, h2, by rw [List.drop_nil]; exact Blk.nil_any h3⟩
theorem Blk.perm {R : Nat → Nat → Prop} {s : Nat} : ∀ {L : List Nat} {Xs : List (List Nat)}, Blk R s L Xs → Xs.flatten.Perm L
 | L, [], h => by
  have : L = [] := h
  subst this; exact List.Perm.refl _
 | L, X :: Xs, h => by
  obtain ⟨h1, _, h3⟩ := h
  have := h1.append (Blk.perm h3)
  rw [List.take_append_drop] at this
  rw [List.flatten_cons]; exact this
theorem Blk.short {R : Nat → Nat → Prop} {s t : Nat} {L : List Nat} {Xs : List (List Nat)} (h : Blk R s L Xs) (hl : L.length ≤ s) (ht : L.length ≤ t) : Blk R t L Xs := by
 cases Xs with
 | nil => exact h
 | cons X Xs =>
  obtain ⟨h1, h2, h3⟩ := h
  rw [List.drop_of_length_le hl] at h3
  rw [List.take_of_length_le hl] at h1
  exact ⟨by rw [List.take_of_length_le ht]; exact h1, h2, by rw [List.drop_of_length_le ht]; exact h3.nil_any⟩
theorem Blk.one {R : Nat → Nat → Prop} {s : Nat} {L : List Nat} {Xs : List (List Nat)} (h : Blk R s L Xs) (hl : L.length ≤ s) : Xs.flatten.Pairwise R := by
 cases Xs with
 | nil => exact List.Pairwise.nil
 | cons X Xs =>
  obtain ⟨h1, h2, h3⟩ := h
  rw [List.drop_of_length_le hl] at h3
  rw [List.flatten_cons, h3.nil_flat, List.append_nil]; exact h2
theorem Blk.two {R : Nat → Nat → Prop} {s : Nat} {L : List Nat} {Xs : List (List Nat)} (h : Blk R s L Xs) (hl : s < L.length) (hs : 0 < s) :
  ∃ X Y Ys, Xs = X :: Y :: Ys ∧ X.Perm (L.take s) ∧ Y.Perm ((L.drop s).take s) ∧ X.Pairwise R ∧ Y.Pairwise R ∧ Blk R s (L.drop (2 * s)) Ys := by
 cases Xs with
 | nil =>
  have : L = [] := h
  subst this; simp at hl
 | cons X Xs =>
  obtain ⟨h1, h2, h3⟩ := h
  cases Xs with
  | nil =>
   have : L.drop s = [] := h3
   have := congrArg List.length this
   rw [List.length_drop, List.length_nil] at this; omega
  | cons Y Ys =>
   obtain ⟨g1, g2, g3⟩ := h3
   rw [List.drop_drop, show s + s = 2 * s by omega] at g3
   exact ⟨X, Y, Ys, rfl, h1, g1, h2, g2, g3⟩
theorem two_take (L : List Nat) (s : Nat) : L.take s ++ (L.drop s).take s = L.take (2 * s) := by
 rw [show 2 * s = s + s by omega, List.take_add]
theorem back_two {c : Nat → Nat → Int} {R : Nat → Nat → Prop} {L : List Nat} (h : L.Pairwise (Back c R)) (s : Nat) {X Y : List Nat} (hx : X.Perm (L.take s)) (hy : Y.Perm ((L.drop s).take s)) : ∀ x, x ∈ X → ∀ y, y ∈ Y → Back c R x y := fun x h1 y h2 => by
 rw [← List.take_append_drop s L] at h
 exact (List.pairwise_append.1 h).2.2 x (hx.mem_iff.1 h1) y (List.mem_of_mem_take (hy.mem_iff.1 h2))
set_option maxHeartbeats 8000000 in
theorem stable_spec (v : Nat → Int) (p : Nat → List D) (g : Nat) (c : Nat → Nat → Int) (R : Nat → Nat → Prop) (hR : Ord R) (hcmp : ∀ j k, Zah Tryz.prog g [elD v p j, elD v p k] (.int (c j k)))
  (L T : List Nat) (hb : L.Pairwise (Back c R)) (hnd : L.Nodup) (hT : T.Perm L) (hTs : T.Pairwise R) (hN1 : L.length ≤ 100000) :
  Zai Tryz.prog 105 [.ref 1000 2 0 L.length L.length, .int L.length, .d (.fn g [])] [(1000, .row 2 (L.map (elD v p)))] (.tup []) [(1000, .row 2 (T.map (elD v p)))] := by
 generalize hN : L.length = N at *
 have hmerge := fun P A B Q => merge_all v p g c R hR hcmp N (by omega) (A.length + B.length + 1) P A B Q (by omega)
 have hsort := fun P M Q S h1 h2 h3 h4 h5 a e ha he => isort_spec v p g c R hR hcmp P M Q S h1 h2 h3 h4 N h5 (by omega) a e ha he
 refine Zag Tryz.func105 rfl (by decide +kernel) (Nat.le_of_ble_eq_true rfl) rfl (Zba rfl) rfl rfl rfl ?_
 intro B0 X0 w0
 refine Zcs ?_
 repeat' first | refine Zad rfl ?_ | refine Zac ?_ | refine wR ?_ | (refine Zaa rfl rfl (fun hc => ?_) (fun hc => ?_) <;> try simp only [hcL] at hc) | (refine Zab _ rfl rfl (fun hc => ?_) (fun hc => ?_) <;> (try simp only [hcL] at hc) <;> try omega) | simp (disch := omega) only [go_sem, simprocAttr] | apply And.intro | omega | decide +kernel
 refine Zap (κ := List (List Nat) × List Nat) (fun (q : List (List Nat) × List Nat) => match q with | (Ds, L2) => (∀ Fs, Blk R 20 L2 Fs → Blk R 20 L (Ds ++ Fs)) ∧ L2.Pairwise (Back c R) ∧ L2.Nodup ∧ Ds.flatten.length + L2.length = N) (fun (q : List (List Nat) × List Nat) => match q with | (Ds, L2) => [(0, .ref 1000 2 0 N N), (1, .int N), (2, .d (.fn g [])), (6, .int 20), (7, .int Ds.flatten.length), (8, .int ((Ds.flatten.length + 20 : Nat) : Int))]) (fun (q : List (List Nat) × List Nat) => match q with | (Ds, L2) => [(1000, .row 2 ((Ds.flatten ++ L2).map (elD v p)))]) (fun (q : List (List Nat) × List Nat) => match q with | (Ds, L2) => L2.length) ([], L) ?_ ?_ ?_
 ·exact ⟨fun Fs h => h, hb, hnd, by rw [← hN]; simp⟩
 ·exact eL [] _ _ (by refine ⟨?_, ?_⟩ <;> (repeat' first | exact fmn | refine fmc ⟨(by first | rfl | (simp (disch := omega) only [go_sem, simprocAttr, inL, List.flatten_nil, List.nil_append]; first | done | omega | (congr 1; done))), ?_⟩); done)
 ·rintro ⟨Ds, L2⟩ ⟨h1, h2, h3, h4⟩
  dsimp only at h1 h2 h3 h4 ⊢
  by_cases hlen : 20 ≤ L2.length
  ·obtain ⟨S, hS1, hS2⟩ := exists_sorted hR (h3.sublist (List.take_sublist 20 L2))
   have ht := List.length_take (i := 20) (l := L2)
   have hSl := hS1.length_eq
   have hso := hsort Ds.flatten (L2.take 20) (L2.drop 20) S (h2.sublist (List.take_sublist _ _)) (h3.sublist (List.take_sublist _ _)) hS1 hS2 (by rw [List.length_drop]; omega) Ds.flatten.length ((Ds.flatten.length + 20 : Nat) : Int) rfl (by omega)
   rw [List.append_assoc, List.take_append_drop] at hso
   have e1 : (Ds ++ [S]).flatten = Ds.flatten ++ S := by simp
   have e2 : (Ds.flatten ++ S).length = Ds.flatten.length + 20 := by rw [List.length_append]; omega
   have v0 : ((Ds.flatten.length + 20 : Nat) : Int) + 20 = ((Ds.flatten.length + 20 + 20 : Nat) : Int) := by omega
   repeat' first | refine Zad rfl ?_ | refine Zac ?_ | refine wR ?_ | refine rcM [] (hso) rfl ?_ | (refine Zaa rfl rfl (fun hc => ?_) (fun hc => ?_) <;> try simp only [hcL] at hc) | (refine Zab _ rfl rfl (fun hc => ?_) (fun hc => ?_) <;> (try simp only [hcL] at hc) <;> try omega) | simp (disch := omega) only [go_sem, simprocAttr, v0] | apply And.intro | omega | decide +kernel
   refine ⟨(Ds ++ [S], L2.drop 20), ?_, eL [] _ _ (by refine ⟨?_, ?_⟩ <;> (repeat' first | exact fmn | refine fmc ⟨(by first | rfl | (simp (disch := omega) only [go_sem, simprocAttr, inL, e1, e2]; first | done | omega | (congr 1; done))), ?_⟩); done), ?_⟩
   ·dsimp only
    refine ⟨fun Fs hF => ?_, h2.sublist (List.drop_sublist _ _), h3.sublist (List.drop_sublist _ _), by rw [e1, e2, List.length_drop]; omega⟩
    have := h1 (S :: Fs) ⟨hS1, hS2, hF⟩
    rw [List.append_assoc]; exact this
   ·dsimp only; rw [List.length_drop]; omega
  ·obtain ⟨S, hS1, hS2⟩ := exists_sorted hR h3
   have hSl := hS1.length_eq
   have hso := hsort Ds.flatten L2 [] S h2 h3 hS1 hS2 (by rw [List.length_nil]; omega) Ds.flatten.length N rfl (by omega)
   rw [List.append_nil, List.append_nil] at hso
   have hB : Blk R 20 L (Ds ++ [S]) := h1 [S] ⟨by rw [List.take_of_length_le (by omega)]; exact hS1, hS2, List.drop_of_length_le (by omega)⟩
   have e1 : (Ds ++ [S]).flatten = Ds.flatten ++ S := by simp
   repeat' first | refine Zad rfl ?_ | refine Zac ?_ | refine wR ?_ | refine rcM [] (hso) rfl ?_ | (refine Zaa rfl rfl (fun hc => ?_) (fun hc => ?_) <;> try simp only [hcL] at hc) | (refine Zab _ rfl rfl (fun hc => ?_) (fun hc => ?_) <;> (try simp only [hcL] at hc) <;> try omega) | simp (disch := omega) only [go_sem, simprocAttr] | apply And.intro | omega | decide +kernel
   refine Zap (κ := Nat × List (List Nat)) (fun (q : Nat × List (List Nat)) => match q with | (s, Ds) => 20 ≤ s ∧ s ≤ 400000 ∧ Blk R s L Ds) (fun (q : Nat × List (List Nat)) => match q with | (s, Ds) => [(0, .ref 1000 2 0 N N), (1, .int N), (2, .d (.fn g [])), (6, .int s)]) (fun (q : Nat × List (List Nat)) => match q with | (s, Ds) => [(1000, .row 2 (Ds.flatten.map (elD v p)))]) (fun (q : Nat × List (List Nat)) => match q with | (s, Ds) => N - s) (20, Ds ++ [S]) ?_ ?_ ?_
   ·exact ⟨Nat.le_refl _, by omega, hB⟩
   ·exact eL [] _ _ (by refine ⟨?_, ?_⟩ <;> (repeat' first | exact fmn | refine fmc ⟨(by first | rfl | (simp (disch := omega) only [go_sem, simprocAttr, inL, e1]; first | done | omega | (congr 1; done))), ?_⟩); done)
   ·clear h1 h2 h3 h4 hlen hS1 hS2 hSl hso hB e1
    rintro ⟨s, Ds⟩ ⟨g1, g2, g3⟩
    dsimp only at g1 g2 g3 ⊢
    rcases Nat.lt_or_ge s N with hlt | hge
    ·repeat' first | refine Zad rfl ?_ | refine Zac ?_ | refine wR ?_ | (refine Zaa rfl rfl (fun hc => ?_) (fun hc => ?_) <;> try simp only [hcL] at hc) | (refine Zab _ rfl rfl (fun hc => ?_) (fun hc => ?_) <;> (try simp only [hcL] at hc) <;> try omega) | simp (disch := omega) only [go_sem, simprocAttr] | apply And.intro | omega | decide +kernel
     refine Zap (κ := List (List Nat) × List (List Nat) × List Nat) (fun (q : List (List Nat) × List (List Nat) × List Nat) => match q with | (Es, Ds, L2) => (∀ Fs, Blk R (2 * s) L2 Fs → Blk R (2 * s) L (Es ++ Fs)) ∧ Blk R s L2 Ds ∧ L2.Pairwise (Back c R) ∧ L2.Nodup ∧ Es.flatten.length + L2.length = N) (fun (q : List (List Nat) × List (List Nat) × List Nat) => match q with | (Es, Ds, L2) => [(0, .ref 1000 2 0 N N), (1, .int N), (2, .d (.fn g [])), (6, .int s), (7, .int Es.flatten.length), (8, .int ((Es.flatten.length + 2 * s : Nat) : Int))]) (fun (q : List (List Nat) × List (List Nat) × List Nat) => match q with | (Es, Ds, L2) => [(1000, .row 2 ((Es.flatten ++ Ds.flatten).map (elD v p)))]) (fun (q : List (List Nat) × List (List Nat) × List Nat) => match q with | (Es, Ds, L2) => L2.length) ([], Ds, L) ?_ ?_ ?_
     ·exact ⟨fun Fs h => h, g3, hb, hnd, by rw [← hN]; simp⟩
     ·have z2 : ((2 * s : Nat) : Int) = 2 * (s : Int) := by omega
      exact eL [] _ _ (by refine ⟨?_, ?_⟩ <;> (repeat' first | exact fmn | refine fmc ⟨(by first | rfl | (simp (disch := omega) only [go_sem, simprocAttr, inL, List.flatten_nil, List.nil_append, List.length_nil, Nat.zero_add, z2]; first | done | omega | (congr 1; done))), ?_⟩); done)
     ·rintro ⟨Es, Ds, L2⟩ ⟨h1, h0, h2, h3, h4⟩
      dsimp only at h0 h1 h2 h3 h4 ⊢
      by_cases hlen : 2 * s ≤ L2.length
      ·obtain ⟨X, Y, Ys, rfl, p1, p2, s1, s2, hY⟩ := h0.two (by omega) (by omega)
       have l1 := p1.length_eq
       have l2 := p2.length_eq
       rw [List.length_take] at l1
       rw [List.length_take, List.length_drop] at l2
       have hXY : (X ++ Y).Perm (L2.take (2 * s)) := by rw [← two_take]; exact p1.append p2
       have hnXY : (X ++ Y).Nodup := hXY.nodup_iff.2 (h3.sublist (List.take_sublist _ _))
       obtain ⟨S, hS1, hS2⟩ := exists_sorted hR hnXY
       have lS := hS1.length_eq
       rw [List.length_append] at lS
       have lY := hY.perm.length_eq
       rw [List.length_drop] at lY
       have hme := hmerge Es.flatten X Y Ys.flatten S (by omega) (by omega) s1 s2 (back_two h2 s p1 p2) hnXY hS1 hS2 (by omega) Es.flatten.length ((Es.flatten.length + s : Nat) : Int) ((Es.flatten.length + 2 * s : Nat) : Int) rfl (by omega) (by omega)
       have r1 : Es.flatten ++ X ++ Y ++ Ys.flatten = Es.flatten ++ (X :: Y :: Ys).flatten := by simp
       have r2 : Es.flatten ++ S ++ Ys.flatten = (Es ++ [S]).flatten ++ Ys.flatten := by simp
       rw [r1, r2] at hme
       have e2 : (Es ++ [S]).flatten.length = Es.flatten.length + 2 * s := by
        have : (Es ++ [S]).flatten = Es.flatten ++ S := by simp
        rw [this, List.length_append]; omega
       have v1 : (Es.flatten.length : Int) + (s : Int) = ((Es.flatten.length + s : Nat) : Int) := by omega
       have v2 : ((Es.flatten.length + 2 * s : Nat) : Int) + 2 * (s : Int) = ((Es.flatten.length + 2 * s + 2 * s : Nat) : Int) := by omega
       repeat' first | refine Zad rfl ?_ | refine Zac ?_ | refine wR ?_ | refine rcM [] (hme) rfl ?_ | (refine Zaa rfl rfl (fun hc => ?_) (fun hc => ?_) <;> try simp only [hcL] at hc) | (refine Zab _ rfl rfl (fun hc => ?_) (fun hc => ?_) <;> (try simp only [hcL] at hc) <;> try omega) | simp (disch := omega) only [go_sem, simprocAttr, v1, v2] | apply And.intro | omega | decide +kernel
       refine ⟨(Es ++ [S], Ys, L2.drop (2 * s)), ?_, eL [] _ _ (by refine ⟨?_, ?_⟩ <;> (repeat' first | exact fmn | refine fmc ⟨(by first | rfl | (simp (disch := omega) only [go_sem, simprocAttr, inL, e2]; first | done | omega | (congr 1; done))), ?_⟩); done), ?_⟩
       ·dsimp only
        refine ⟨fun Fs hF => ?_, hY, h2.sublist (List.drop_sublist _ _), h3.sublist (List.drop_sublist _ _), by rw [e2, List.length_drop]; omega⟩
        have := h1 (S :: Fs) ⟨hS1.trans hXY, hS2, hF⟩
        rw [List.append_assoc]; exact this
       ·dsimp only; rw [List.length_drop]; omega
      ·have v1 : (Es.flatten.length : Int) + (s : Int) = ((Es.flatten.length + s : Nat) : Int) := by omega
       have v3 : (s : Int) * 2 = ((2 * s : Nat) : Int) := by omega
       by_cases hl2 : s < L2.length
       ·obtain ⟨X, Y, Ys, rfl, p1, p2, s1, s2, hY⟩ := h0.two (by omega) (by omega)
        have l1 := p1.length_eq
        have l2 := p2.length_eq
        rw [List.length_take] at l1
        rw [List.length_take, List.length_drop] at l2
        have hXY : (X ++ Y).Perm (L2.take (2 * s)) := by rw [← two_take]; exact p1.append p2
        have hnXY : (X ++ Y).Nodup := hXY.nodup_iff.2 (h3.sublist (List.take_sublist _ _))
        obtain ⟨S, hS1, hS2⟩ := exists_sorted hR hnXY
        have lS := hS1.length_eq
        rw [List.length_append] at lS
        rw [List.drop_of_length_le (by omega)] at hY
        have hYf := hY.nil_flat
        have hme := hmerge Es.flatten X Y [] S (by omega) (by omega) s1 s2 (back_two h2 s p1 p2) hnXY hS1 hS2 (by rw [List.length_nil]; omega) Es.flatten.length ((Es.flatten.length + s : Nat) : Int) N rfl (by omega) (by omega)
        have r1 : Es.flatten ++ X ++ Y ++ [] = Es.flatten ++ (X :: Y :: Ys).flatten := by simp [hYf]
        have r2 : Es.flatten ++ S ++ [] = (Es ++ [S]).flatten := by simp
        rw [r1, r2] at hme
        have hF : Blk R (2 * s) L (Es ++ [S]) := h1 [S] ⟨hS1.trans hXY, hS2, List.drop_of_length_le (by omega)⟩
        repeat' first | refine Zad rfl ?_ | refine Zac ?_ | refine wR ?_ | refine rcM [] (hme) rfl ?_ | (refine Zaa rfl rfl (fun hc => ?_) (fun hc => ?_) <;> try simp only [hcL] at hc) | (refine Zab _ rfl rfl (fun hc => ?_) (fun hc => ?_) <;> (try simp only [hcL] at hc) <;> try omega) | simp (disch := omega) only [go_sem, simprocAttr, v1, v3] | apply And.intro | omega | decide +kernel
        refine ⟨(2 * s, Es ++ [S]), ?_, eL [] _ _ (by refine ⟨?_, ?_⟩ <;> (repeat' first | exact fmn | refine fmc ⟨(by first | rfl | (simp (disch := omega) only [go_sem, simprocAttr, inL]; first | done | omega | (congr 1; done))), ?_⟩); done), ?_⟩
        ·exact ⟨by omega, by omega, hF⟩
        ·dsimp only; omega
       ·have hF := h1 Ds (h0.short (by omega) (by omega))
        have r2 : Es.flatten ++ Ds.flatten = (Es ++ Ds).flatten := by simp
        repeat' first | refine Zad rfl ?_ | refine Zac ?_ | refine wR ?_ | (refine Zaa rfl rfl (fun hc => ?_) (fun hc => ?_) <;> try simp only [hcL] at hc) | (refine Zab _ rfl rfl (fun hc => ?_) (fun hc => ?_) <;> (try simp only [hcL] at hc) <;> try omega) | simp (disch := omega) only [go_sem, simprocAttr, v1, v3] | apply And.intro | omega | decide +kernel
        refine ⟨(2 * s, Es ++ Ds), ?_, eL [] _ _ (by refine ⟨?_, ?_⟩ <;> (repeat' first | exact fmn | refine fmc ⟨(by first | rfl | (simp (disch := omega) only [go_sem, simprocAttr, inL, r2]; first | done | omega | (congr 1; done))), ?_⟩); done), ?_⟩
        ·exact ⟨by omega, by omega, hF⟩
        ·dsimp only; omega
    ·have hfl : Ds.flatten = T := uniq hR (g3.perm.trans hT.symm) (g3.one (by omega)) hTs
     repeat' first | refine Zad rfl ?_ | refine Zac ?_ | refine wR ?_ | (refine Zaa rfl rfl (fun hc => ?_) (fun hc => ?_) <;> try simp only [hcL] at hc) | (refine Zab _ rfl rfl (fun hc => ?_) (fun hc => ?_) <;> (try simp only [hcL] at hc) <;> try omega) | simp (disch := omega) only [go_sem, simprocAttr] | apply And.intro | omega | decide +kernel
     refine ⟨_, Zbh.1 (eL [] [] [(1000, .row 2 (T.map (elD v p)))] (by refine ⟨?_, ?_⟩ <;> (repeat' first | exact fmn | refine fmc ⟨(by first | rfl | (simp (disch := omega) only [go_sem, simprocAttr, inL, hfl]; first | done | omega | (congr 1; done))), ?_⟩); done)), ?_⟩
     exact ⟨⟨[], rfl, trivial⟩, fmc ⟨rfl, fmn⟩⟩
theorem SortStable_spec (v : Nat → Int) (p : Nat → List D) (g : Nat) (c : Nat → Nat → Int) (R : Nat → Nat → Prop) (hR : Ord R) (hcmp : ∀ j k, Zah Tryz.prog g [elD v p j, elD v p k] (.int (c j k)))
  (L T : List Nat) (hb : L.Pairwise (Back c R)) (hnd : L.Nodup) (hT : T.Perm L) (hTs : T.Pairwise R) (hN1 : L.length ≤ 100000) :
  Zai Tryz.prog 98 [.ref 1000 2 0 L.length L.length, .d (.fn g [])] [(1000, .row 2 (L.map (elD v p)))] (.tup []) [(1000, .row 2 (T.map (elD v p)))] := by
 have h1 := stable_spec v p g c R hR hcmp L T hb hnd hT hTs hN1
 refine Zag Tryz.func98 rfl (by decide +kernel) (Nat.le_of_ble_eq_true rfl) rfl (Zba rfl) rfl rfl rfl ?_
 intro B0 X0 w0
 refine Zcs ?_
 repeat' first | refine Zad rfl ?_ | refine Zac ?_ | refine wR ?_ | refine rcM [] (h1) rfl ?_ | (refine Zaa rfl rfl (fun hc => ?_) (fun hc => ?_) <;> try simp only [hcL] at hc) | (refine Zab _ rfl rfl (fun hc => ?_) (fun hc => ?_) <;> (try simp only [hcL] at hc) <;> try omega) | simp (disch := omega) only [go_sem, simprocAttr] | apply And.intro | omega | decide +kernel
 refine ⟨_, Zbh.1 (eL [] [] [(1000, .row 2 (T.map (elD v p)))] (by refine ⟨?_, ?_⟩ <;> (repeat' first | exact fmn | refine fmc ⟨(by first | rfl | (simp (disch := omega) only [go_sem, simprocAttr, inL]; first | done | omega | (congr 1; done))), ?_⟩); done)), ?_⟩
 exact ⟨⟨[], rfl, trivial⟩, fmc ⟨rfl, fmn⟩⟩
end Go.Proofs.YtldbcbclhpcofaaGreat
namespace Go.Proofs.YtldbcbclhpcofaaGreat
open Go Go.PS Go.Proofs
open Go.Bd (sumC Part invC)

def orM (a : Lv) (i : Nat) : List (List Int) := stM a [] (lstN a.2.1 i) 0 i
theorem orM_len (a : Lv) (i : Nat) : (orM a i).length = (lstN a.2.1 i).length := stM_len ..
theorem orM_sum (a : Lv) (i : Nat) {o : List Nat} (ho : Part (lstN a.2.1 i).length 0 o) : sumC (Zao (orM a i)) o = sumC (bothC a i) o := by
 rw [orM, stM_sum _ _ _ _ _ ho]; omega
theorem orM_ok {a : Lv} {i : Nat} (har : a.2.2.1.length ≤ 700) (h8 : ¬ 8 < (lstN a.2.1 i).length) : okM (orM a i) = true := stM_ok (by decide) har (by omega)
theorem orM_part (a : Lv) (i : Nat) : Part (lstN a.2.1 i).length 0 (Zbm (orM a i)).1 := by
 have := (bestAll_part (orM a i)).1
 rw [orM_len] at this; exact this
def betB (a : Lv) (i : Nat) : Bool := decide ((Zbm (orM a i)).2 < sumC (Zao (orM a i)) (List.range (lstN a.2.1 i).length))
def betF (a : Lv) (i : Nat) : List Nat × Bool := if 8 < (lstN a.2.1 i).length then ([], false) else ((Zbm (orM a i)).1, betB a i)
def bestPut (a : Lv) (i : Nat) : Lv := putL a i (Zbl (lstN a.2.1 i) (Zbm (orM a i)).1)
theorem betF_yes {a : Lv} {i : Nat} (h : (betF a i).2 = true) : ¬ 8 < (lstN a.2.1 i).length ∧ betB a i = true := by
 rw [betF] at h
 split at h
 ·cases h
 ·exact ⟨by assumption, h⟩
theorem Kin.arr {a b : Lv} (h : Kin a b) {i : Nat} (hi : i < a.2.1.length) {o : List Nat} (ho : Part (lstN b.2.1 i).length 0 o) : Kin a (putL b i (Zbl (lstN b.2.1 i) o)) :=
 h.put (h.lay hi) (permL_perm (Zct h.ok (h.lay hi)) ho)
theorem arr_total {a b : Lv} (h : Kin a b) {i : Nat} (hi : i < a.2.1.length) {o : List Nat} (ho : Part (lstN b.2.1 i).length 0 o) :
  Zbg (putL b i (Zbl (lstN b.2.1 i) o)) - Zbg b = sumC (Zao (orM b i)) o - sumC (Zao (orM b i)) (List.range (lstN b.2.1 i).length) := by
 rw [orM_sum _ _ ho, orM_sum _ _ (range_part _)]
 exact put_total h.ok (h.arr hi ho).ok (h.lay hi) ho
theorem bet_kin {a b : Lv} (h : Kin a b) {i : Nat} (hi : i < a.2.1.length) : Kin a (bestPut b i) := h.arr hi (orM_part b i)
theorem bet_less {a b : Lv} (h : Kin a b) {i : Nat} (hi : i < a.2.1.length) (hb : betB b i = true) : Zbg (bestPut b i) < Zbg b := by
 have h1 := arr_total h hi (orM_part b i)
 have h2 := (bestAll_part (orM b i)).2
 rw [betB, decide_eq_true_eq, h2] at hb
 rw [bestPut]; omega
theorem total_nn (a : Lv) : 0 ≤ Zbg a := by
 have := sumZ_bound (f := fun i => Zbk a i) (c := 360000000000) a.2.1.length fun i _ => BetweenF_le a i
 exact this.1
def refN : Nat → Lv → Nat → Lv
 | 0, b, _ => b
 | f + 1, b, i => if i < b.2.1.length then (if (betF b i).2 then refN f (bestPut b i) 0 else refN f b (i + 1)) else b
def refMs (b : Lv) (i : Nat) : Nat := (Zbg b).toNat * (b.2.1.length + 1) + (b.2.1.length - i)
def Zck (a : Lv) : Lv := refN (refMs a 0) a 0
theorem ms_step {b : Lv} {i : Nat} (h : i < b.2.1.length) : refMs b (i + 1) < refMs b i := by
 simp only [refMs]; omega
theorem ms_put {a b : Lv} (h : Kin a b) {i : Nat} (hi : i < a.2.1.length) (hb : betB b i = true) : refMs (bestPut b i) 0 < refMs b i := by
 have h1 := bet_less h hi hb
 have h2 := total_nn (bestPut b i)
 have h3 : (bestPut b i).2.1.length = b.2.1.length := by rw [(bet_kin h hi).len, h.len]
 have h4 := h.len
 rw [refMs, refMs, h3]
 have h5 : ((Zbg (bestPut b i)).toNat + 1) * (b.2.1.length + 1) ≤ (Zbg b).toNat * (b.2.1.length + 1) := Nat.mul_le_mul_right _ (by omega)
 rw [Nat.add_mul] at h5
 omega
theorem refN_end {f : Nat} {b : Lv} {i : Nat} (h : ¬ i < b.2.1.length) : refN f b i = b := by
 cases f with
 | zero => rfl
 | succ f => rw [refN, if_neg h]
theorem refN_ok {a : Lv} : ∀ (f : Nat) (b : Lv) (i : Nat), Kin a b → refMs b i ≤ f → i ≤ a.2.1.length → (∀ j, j < i → (betF b j).2 = false) →
  Kin a (refN f b i) ∧ Zbg (refN f b i) ≤ Zbg b ∧ ∀ j, j < a.2.1.length → (betF (refN f b i) j).2 = false
 | 0, b, i, h, hm, hi, hj => by
  have h4 := h.len
  simp only [refMs] at hm
  rw [refN]
  exact ⟨h, Int.le_refl _, fun j hlt => hj j (by omega)⟩
 | f + 1, b, i, h, hm, hi, hj => by
  have h4 := h.len
  by_cases hlt : i < b.2.1.length
  ·rw [refN, if_pos hlt]
   rcases hb : (betF b i).2 with _ | _
   ·rw [if_neg (by decide)]
    refine refN_ok f b (i + 1) h (by have := ms_step hlt; omega) (by omega) fun j hlj => ?_
    rcases Nat.lt_or_ge j i with c | c
    ·exact hj j c
    ·obtain rfl : j = i := by omega
     exact hb
   ·rw [if_pos rfl]
    have hb2 := (betF_yes hb).2
    have h5 := ms_put h (by omega) hb2
    have h6 := bet_less h (by omega) hb2
    obtain ⟨g1, g2, g3⟩ := refN_ok f (bestPut b i) 0 (bet_kin h (by omega)) (by omega) (Nat.zero_le _) (fun j hlj => absurd hlj (Nat.not_lt_zero j))
    exact ⟨g1, by omega, g3⟩
  ·rw [refN_end hlt]
   exact ⟨h, Int.le_refl _, fun j hlt2 => hj j (by omega)⟩
theorem refine_ok {a : Lv} (hv : Zay a = true) (hw : wide a) : Kin a (Zck a) ∧ Zbg (Zck a) ≤ Zbg a ∧ ∀ j, j < a.2.1.length → (betF (Zck a) j).2 = false :=
 refN_ok _ a 0 (Kin.refl hv hw) (Nat.le_refl _) (Nat.zero_le _) (fun j hlj => absurd hlj (Nat.not_lt_zero j))
def exaF (a : Lv) (i f : Int) : Lv × Int :=
 if matOk a i f = false then (lv0, 1) else if 8 < (lstN a.2.1 i.toNat).length then (lv0, 2) else (putL a i.toNat (Zbl (lstN a.2.1 i.toNat) (Zbm (Zau a i f)).1), 0)
def optF (a : Lv) (i : Int) : Bool := Zay a && decide (0 ≤ i ∧ i < a.2.1.length) && decide (¬ 8 < (lstN a.2.1 i.toNat).length) && !betB a i.toNat
theorem matF_len {a : Lv} {i f : Int} (h : matOk a i f = true) : (Zau a i f).length = (lstN a.2.1 i.toNat).length := by
 rw [Zau, if_pos h]
 simp [matF, endsF, lenAt, lstN]
theorem matF_part {a : Lv} {i f : Int} (h : matOk a i f = true) : Part (lstN a.2.1 i.toNat).length 0 (Zbm (Zau a i f)).1 := by
 have := (bestAll_part (Zau a i f)).1
 rw [matF_len h] at this; exact this
end Go.Proofs.YtldbcbclhpcofaaGreat
namespace Go.Proofs.YtldbcbclhpcofaaGreat
open Go Go.PS Go.Proofs
open Go.Stb

def plcA (y : List Int) (v : Int) (x : Arc) : List Int := (if x.1 = v ∧ 0 ≤ placeF y x.2 then [placeF y x.2] else []) ++ (if x.2 = v ∧ 0 ≤ placeF y x.1 then [placeF y x.1] else [])
def plcF (y : List Int) (ar : List Arc) (v : Int) : List Int := ar.flatMap (plcA y v)
def nearA (v u : Int) (k : Nat) (x : Arc) : List Int := if (x.1 = u ∧ x.2 = v) ∨ (x.1 = v ∧ x.2 = u) then [(k : Int)] else []
def nearF (y : List Int) (ar : List Arc) (v : Int) : List Int := (List.range y.length).flatMap fun k : Nat => ar.flatMap (nearA v (at0 y k) k)
theorem placeF_range (y : List Int) (v : Int) : -1 ≤ placeF y v ∧ placeF y v < y.length := by
 by_cases h : v ∈ y
 ·obtain ⟨k, hk⟩ := List.getElem?_of_mem h
  have h1 := placeF_mem y v
  rw [decide_eq_true h, decide_eq_true_eq] at h1
  refine ⟨by omega, ?_⟩
  rw [placeF]
  rw [placeF] at h1
  cases hf : y.findIdx? (fun x => decide (x = v)) with
  | none => rw [hf] at h1; simp [idxI] at h1
  | some j =>
   have := (List.findIdx?_eq_some_iff_getElem.1 hf).1
   simp only [idxI]; omega
 ·rw [placeF_no h]; omega
theorem hit_place {y : List Int} (hn : y.Nodup) (u : Int) {n : Nat} (h : n < y.length) : at0 y n = u ↔ placeF y u = n := by
 have hg := at0_at h
 constructor
 ·intro e; rw [e] at hg; exact placeF_at hn hg
 ·intro e
  have h1 := placeF_mem y u
  have h2 : u ∈ y := by
   by_cases c : u ∈ y
   ·exact c
   ·rw [placeF_no c] at e; omega
  obtain ⟨k, hk⟩ := List.getElem?_of_mem h2
  have := placeF_at hn hk
  have : k = n := by omega
  subst this
  rw [hg, Option.some.injEq] at hk; exact hk
theorem hits {y : List Int} (hn : y.Nodup) (u : Int) : ∀ n, n ≤ y.length → ((List.range n).flatMap fun k : Nat => if at0 y k = u then [(k : Int)] else []) = if 0 ≤ placeF y u ∧ placeF y u < n then [placeF y u] else []
 | 0, _ => by
  rw [if_neg (by omega)]; rfl
 | n + 1, h => by
  rw [List.range_succ, List.flatMap_append, hits hn u n (by omega), List.flatMap_cons, List.flatMap_nil, List.append_nil]
  have h1 := hit_place hn u (n := n) (by omega)
  by_cases c : at0 y n = u
  ·have := h1.1 c
   rw [if_pos c, if_neg (by omega), if_pos (by omega), this]; rfl
  ·rw [if_neg c, List.append_nil]
   have : placeF y u ≠ n := fun e => c (h1.2 e)
   by_cases c2 : 0 ≤ placeF y u ∧ placeF y u < n
   ·rw [if_pos c2, if_pos (by omega)]
   ·rw [if_neg c2, if_neg (by omega)]
theorem hits_all {y : List Int} (hn : y.Nodup) (u : Int) : ((List.range y.length).flatMap fun k : Nat => if at0 y k = u then [(k : Int)] else []) = if 0 ≤ placeF y u then [placeF y u] else [] := by
 rw [hits hn u _ (Nat.le_refl _)]
 have := placeF_range y u
 by_cases c : 0 ≤ placeF y u
 ·rw [if_pos c, if_pos ⟨c, this.2⟩]
 ·rw [if_neg c, if_neg (fun h => c h.1)]
theorem near_perm {y : List Int} (hn : y.Nodup) {ar : List Arc} (hl : ∀ x, x ∈ ar → x.1 ≠ x.2) (v : Int) : (nearF y ar v).Perm (plcF y ar v) := by
 refine (flatMap_swap (fun (k : Nat) (x : Arc) => nearA v (at0 y k) k x) ar (List.range y.length)).trans ?_
 have : ∀ ar : List Arc, (∀ x, x ∈ ar → x.1 ≠ x.2) → (ar.flatMap fun x => (List.range y.length).flatMap fun k : Nat => nearA v (at0 y k) k x) = plcF y ar v := by
  intro ar hl
  induction ar with
  | nil => rfl
  | cons x ar ih =>
   rw [List.flatMap_cons, plcF, List.flatMap_cons, ih fun z hz => hl z (List.mem_cons_of_mem _ hz)]
   congr 1
   have hx := hl x (by simp)
   by_cases c1 : x.1 = v
   ·have c2 : ¬ x.2 = v := fun e => hx (c1.trans e.symm)
    have e : (fun k : Nat => nearA v (at0 y k) k x) = fun k : Nat => if at0 y k = x.2 then [(k : Int)] else [] := by
     funext k
     by_cases c3 : at0 y k = x.2
     ·rw [nearA, if_pos (.inr ⟨c1, c3.symm⟩), if_pos c3]
     ·rw [nearA, if_neg (fun h => by
       rcases h with h | h
       ·exact c2 h.2
       ·exact c3 h.2.symm), if_neg c3]
    rw [e, hits_all hn, plcA]
    by_cases c3 : 0 ≤ placeF y x.2
    ·rw [if_pos c3, if_pos ⟨c1, c3⟩, if_neg (fun h => c2 h.1)]; rfl
    ·rw [if_neg c3, if_neg (fun h => c3 h.2), if_neg (fun h => c2 h.1)]; rfl
   ·by_cases c2 : x.2 = v
    ·have e : (fun k : Nat => nearA v (at0 y k) k x) = fun k : Nat => if at0 y k = x.1 then [(k : Int)] else [] := by
      funext k
      by_cases c3 : at0 y k = x.1
      ·rw [nearA, if_pos (.inl ⟨c3.symm, c2⟩), if_pos c3]
      ·rw [nearA, if_neg (fun h => by
        rcases h with h | h
        ·exact c3 h.1.symm
        ·exact c1 h.1), if_neg c3]
     rw [e, hits_all hn, plcA]
     by_cases c3 : 0 ≤ placeF y x.1
     ·rw [if_pos c3, if_neg (fun h => c1 h.1), if_pos ⟨c2, c3⟩]; rfl
     ·rw [if_neg c3, if_neg (fun h => c1 h.1), if_neg (fun h => c3 h.2)]; rfl
    ·have e : (fun k : Nat => nearA v (at0 y k) k x) = fun k : Nat => [] := by
      funext k
      rw [nearA, if_neg (fun h => by
       rcases h with h | h
       ·exact c2 h.2
       ·exact c1 h.1)]
     rw [e, plcA, if_neg (fun h => c1 h.1), if_neg (fun h => c2 h.1)]
     simp
 rw [this ar hl]
theorem plcF_len (y : List Int) (v : Int) : ∀ ar : List Arc, (plcF y ar v).length ≤ 2 * ar.length
 | [] => by simp [plcF]
 | x :: ar => by
  have ih := plcF_len y v ar
  have : (plcA y v x).length ≤ 2 := by
   rw [plcA]; split <;> split <;> simp
  rw [plcF] at ih ⊢
  rw [List.flatMap_cons, List.length_append, List.length_cons]; omega
def downP (p : Nat → List Int) (T : List Nat) (k : Nat) : Nat → Nat
 | 0 => 0
 | n + 1 => if 0 < cmpP (p ((T[n]?).getD 0)) (p k) then downP p T k n else n + 1
def insP (p : Nat → List Int) (T : List Nat) (k : Nat) : List Nat := T.take (downP p T k T.length) ++ k :: T.drop (downP p T k T.length)
def sortP (p : Nat → List Int) (l : List Nat) : List Nat := l.foldl (insP p) []
theorem downP_le (p : Nat → List Int) (T : List Nat) (k : Nat) : ∀ n, downP p T k n ≤ n
 | 0 => Nat.le_refl _
 | n + 1 => by rw [downP]; have := downP_le p T k n; split <;> omega
theorem insP_perm (p : Nat → List Int) (T : List Nat) (k : Nat) : (insP p T k).Perm (k :: T) := by
 rw [insP]
 refine List.perm_middle.trans ?_
 rw [List.take_append_drop]
theorem downP_low (p : Nat → List Int) (T : List Nat) (k : Nat) : ∀ n, 0 < downP p T k n → ¬ 0 < cmpP (p ((T[downP p T k n - 1]?).getD 0)) (p k)
 | 0, h => by rw [downP] at h; omega
 | n + 1, h => by
  rw [downP] at h ⊢
  split
  ·rename_i c
   rw [if_pos c] at h
   exact downP_low p T k n h
  ·rename_i c
   exact c
theorem downP_high (p : Nat → List Int) (T : List Nat) (k : Nat) : ∀ n, downP p T k n < n → 0 < cmpP (p ((T[downP p T k n]?).getD 0)) (p k)
 | 0, h => by omega
 | n + 1, h => by
  rw [downP] at h ⊢
  split
  ·rename_i c
   rw [if_pos c] at h
   by_cases c2 : downP p T k n < n
   ·exact downP_high p T k n c2
   ·have := downP_le p T k n
    have : downP p T k n = n := by omega
    rw [this]; exact c
  ·rename_i c
   rw [if_neg c] at h; omega
theorem insP_sorted {p : Nat → List Int} {T : List Nat} {k : Nat} (hs : T.Pairwise (ordP p)) (hk : ∀ j, j ∈ T → j < k) : (insP p T k).Pairwise (ordP p) := by
 have hle := downP_le p T k T.length
 refine put_sorted (ordP_ord p) hle hs (fun x h0 hx => ?_) (fun x hx => ?_)
 ·have := downP_low p T k T.length h0
  rw [hx, Option.getD_some] at this
  exact .inr ⟨fun h => this (by have := cmpP_anti (p x) (p k); omega), hk x (List.mem_of_getElem? hx)⟩
 ·have h1 := (List.getElem?_eq_some_iff.1 hx).1
  have := downP_high p T k T.length h1
  rw [hx, Option.getD_some] at this
  exact .inl (by have := cmpP_anti (p k) (p x); omega)
theorem sortP_snoc (p : Nat → List Int) (l : List Nat) (k : Nat) : sortP p (l ++ [k]) = insP p (sortP p l) k := by simp [sortP]
theorem sortP_perm (p : Nat → List Int) (l : List Nat) : (sortP p l).Perm l := by
 have : ∀ (l T : List Nat), (l.foldl (insP p) T).Perm (l ++ T) := by
  intro l
  induction l with
  | nil => intro T; exact List.Perm.refl _
  | cons k l ih =>
   intro T
   rw [List.foldl_cons]
   refine (ih _).trans (((insP_perm p T k).append_left l).trans ?_)
   exact List.perm_middle
 have h := this l []
 rw [List.append_nil] at h; exact h
theorem sortP_sorted {p : Nat → List Int} {l : List Nat} (hl : l.Pairwise (· < ·)) : (sortP p l).Pairwise (ordP p) := by
 have : ∀ (l T : List Nat), T.Pairwise (ordP p) → l.Pairwise (· < ·) → (∀ j, j ∈ T → ∀ k, k ∈ l → j < k) → (l.foldl (insP p) T).Pairwise (ordP p) := by
  intro l
  induction l with
  | nil => intro T h _ _; exact h
  | cons k l ih =>
   intro T h1 h2 h3
   rw [List.pairwise_cons] at h2
   rw [List.foldl_cons]
   refine ih _ (insP_sorted h1 fun j hj => h3 j hj k (by simp)) h2.2 fun j hj q hq => ?_
   rcases List.mem_cons.1 ((insP_perm p T k).mem_iff.1 hj) with rfl | hj
   ·exact h2.1 q hq
   ·exact h3 j hj q (List.mem_cons_of_mem _ hq)
 exact this l [] List.Pairwise.nil hl (fun j hj => by cases hj)
def hasN (y z : List Int) (ar : List Arc) (k : Nat) : Bool := !(plcF z ar (at0 y k)).isEmpty
def freeN (y z : List Int) (ar : List Arc) (n : Nat) : List Nat := (List.range n).filter (hasN y z ar)
def sortB (y z : List Int) (ar : List Arc) : List Nat := sortP (fun k => plcF z ar (at0 y k)) (freeN y z ar y.length)
def ordB (y z : List Int) (ar : List Arc) : List Int := (List.range y.length).map fun k => if hasN y z ar k then at0 y (((sortB y z ar)[(freeN y z ar k).length]?).getD 0 : Nat) else at0 y k
theorem freeN_succ (y z : List Int) (ar : List Arc) (n : Nat) : freeN y z ar (n + 1) = if hasN y z ar n then freeN y z ar n ++ [n] else freeN y z ar n := by
 rw [freeN, List.range_succ, List.filter_append, List.filter_cons, List.filter_nil]
 split <;> simp [freeN]
theorem freeN_inc (y z : List Int) (ar : List Arc) (n : Nat) : (freeN y z ar n).Pairwise (· < ·) := List.Pairwise.filter _ List.pairwise_lt_range
theorem freeN_lt {y z : List Int} {ar : List Arc} {n k : Nat} (h : k ∈ freeN y z ar n) : k < n ∧ hasN y z ar k = true := by
 rw [freeN, List.mem_filter, List.mem_range] at h; exact h
theorem freeN_at {y z : List Int} {ar : List Arc} : ∀ {n k : Nat}, k < n → hasN y z ar k = true → (freeN y z ar n)[(freeN y z ar k).length]? = some k
 | 0, _, h, _ => by omega
 | n + 1, k, h, hk => by
  rcases Nat.lt_or_ge k n with c | c
  ·have ih := freeN_at c hk
   rw [freeN_succ]
   split
   ·rw [List.getElem?_append_left (List.getElem?_eq_some_iff.1 ih).1]; exact ih
   ·exact ih
  ·have : k = n := by omega
   subst this
   rw [freeN_succ, if_pos hk, List.getElem?_append_right (Nat.le_refl _), Nat.sub_self]; rfl
theorem sortB_perm (y z : List Int) (ar : List Arc) : (sortB y z ar).Perm (freeN y z ar y.length) := sortP_perm _ _
theorem sortB_len (y z : List Int) (ar : List Arc) : (sortB y z ar).length = (freeN y z ar y.length).length := (sortB_perm y z ar).length_eq
def ordO (y z : List Int) (ar : List Arc) : List Nat := (List.range y.length).map fun k => if hasN y z ar k then ((sortB y z ar)[(freeN y z ar k).length]?).getD 0 else k
theorem ordB_eq (y z : List Int) (ar : List Arc) : ordB y z ar = Zbl y (ordO y z ar) := by
 rw [ordB, Zbl, ordO, List.map_map]
 refine List.map_congr_left fun k _ => ?_
 simp only [Function.comp_apply, at0, Int.toNat_natCast]
 split <;> rfl
theorem sortB_at {y z : List Int} {ar : List Arc} {k : Nat} (hk : k < y.length) (h : hasN y z ar k = true) :
  ∃ t, (sortB y z ar)[(freeN y z ar k).length]? = some t ∧ t < y.length ∧ hasN y z ar t = true := by
 have h1 := (List.getElem?_eq_some_iff.1 (freeN_at hk h)).1
 rw [← sortB_len] at h1
 obtain ⟨t, ht⟩ := Zan h1
 have h2 := (sortB_perm y z ar).mem_iff.1 (List.mem_of_getElem? ht)
 exact ⟨t, ht, freeN_lt h2⟩
theorem nodup_get {l : List Nat} (hn : l.Nodup) {i j x : Nat} (hi : l[i]? = some x) (hj : l[j]? = some x) : i = j := by
 obtain ⟨i1, e1⟩ := List.getElem?_eq_some_iff.1 hi
 obtain ⟨j1, e2⟩ := List.getElem?_eq_some_iff.1 hj
 have hp := List.pairwise_iff_getElem.1 hn
 rcases Nat.lt_trichotomy i j with h | h | h
 ·exact absurd (e1.trans e2.symm) (hp i j i1 j1 h)
 ·exact h
 ·exact absurd (e2.trans e1.symm) (hp j i j1 i1 h)
theorem sortB_nodup (y z : List Int) (ar : List Arc) : (sortB y z ar).Nodup :=
 (sortB_perm y z ar).nodup_iff.2 ((freeN_inc y z ar y.length).imp fun h => Nat.ne_of_lt h)
theorem freeN_inj {y z : List Int} {ar : List Arc} {j k n : Nat} (hj : j < n) (hk : k < n) (h1 : hasN y z ar j = true) (h2 : hasN y z ar k = true) (he : (freeN y z ar j).length = (freeN y z ar k).length) : j = k := by
 have e1 := freeN_at hj h1
 have e2 := freeN_at hk h2
 rw [he, e2, Option.some.injEq] at e1
 exact e1.symm
theorem ordO_part (y z : List Int) (ar : List Arc) : Go.Bd.Part y.length 0 (ordO y z ar) := by
 refine ⟨?_, fun v hv => ?_, by simp [ordO]⟩
 ·rw [ordO, List.nodup_iff_pairwise_ne, List.pairwise_map]
  refine List.Pairwise.imp_of_mem (R := (· < ·)) (fun {j k} hj hk hlt => ?_) List.pairwise_lt_range
  rw [List.mem_range] at hj hk
  rcases c1 : hasN y z ar j with _ | _ <;> rcases c2 : hasN y z ar k with _ | _ <;> simp only [if_true, if_false, Bool.false_eq_true]
  ·omega
  ·obtain ⟨t, h1, h2, h3⟩ := sortB_at hk c2
   rw [h1, Option.getD_some]
   rintro rfl
   rw [c1] at h3; cases h3
  ·obtain ⟨t, h1, h2, h3⟩ := sortB_at hj c1
   rw [h1, Option.getD_some]
   rintro rfl
   rw [c2] at h3; cases h3
  ·obtain ⟨t, h1, h2, h3⟩ := sortB_at hj c1
   obtain ⟨u, g1, g2, g3⟩ := sortB_at hk c2
   rw [h1, g1, Option.getD_some, Option.getD_some]
   rintro rfl
   have := nodup_get (sortB_nodup y z ar) h1 g1
   have := freeN_inj hj hk c1 c2 this
   omega
 ·obtain ⟨k, hk, rfl⟩ := List.mem_map.1 hv
  rw [List.mem_range] at hk
  rcases c1 : hasN y z ar k with _ | _ <;> simp only [if_true, if_false, Bool.false_eq_true]
  ·exact hk
  ·obtain ⟨t, h1, h2, h3⟩ := sortB_at hk c1
   rw [h1]; exact h2
theorem ordB_perm {y : List Int} (hn : y.Nodup) (z : List Int) (ar : List Arc) : (ordB y z ar).Perm y := by
 rw [ordB_eq]; exact permL_perm hn (ordO_part y z ar)
theorem ordB_len (y z : List Int) (ar : List Arc) : (ordB y z ar).length = y.length := by simp [ordB]
def layB (b : Lv) (i f : Nat) : Lv := putL b i (ordB (lstN b.2.1 i) (lstN b.2.1 f) b.2.2.1)
theorem layB_kin {a b : Lv} (h : Kin a b) {i : Nat} (hi : i < a.2.1.length) (f : Nat) : Kin a (layB b i f) :=
 h.put (h.lay hi) (ordB_perm (Zct h.ok (h.lay hi)) _ _)
def dwnB (b : Lv) : Nat → Lv
 | 0 => b
 | k + 1 => layB (dwnB b k) (k + 1) k
def upB (b : Lv) (n : Nat) : Nat → Lv
 | 0 => b
 | k + 1 => layB (upB b n k) (n - 2 - k) (n - 1 - k)
def swB (b : Lv) : Lv := upB (dwnB b (b.2.1.length - 1)) b.2.1.length (b.2.1.length - 1)
theorem dwnB_kin {a b : Lv} (h : Kin a b) : ∀ k, k ≤ a.2.1.length - 1 → Kin a (dwnB b k)
 | 0, _ => h
 | k + 1, hk => layB_kin (dwnB_kin h k (by omega)) (by omega) k
theorem upB_kin {a b : Lv} (h : Kin a b) : ∀ k, k ≤ a.2.1.length - 1 → Kin a (upB b a.2.1.length k)
 | 0, _ => h
 | k + 1, hk => layB_kin (upB_kin h k (by omega)) (by omega) _
theorem swB_kin {a b : Lv} (h : Kin a b) : Kin a (swB b) := by
 rw [swB, h.len]
 exact upB_kin (dwnB_kin h _ (Nat.le_refl _)) _ (Nat.le_refl _)
def nowB (a : Lv) : Nat → Lv
 | 0 => a
 | k + 1 => swB (nowB a k)
def bstB (a : Lv) : Nat → Lv
 | 0 => a
 | k + 1 => if Zbg (nowB a (k + 1)) < Zbg (bstB a k) then nowB a (k + 1) else bstB a k
theorem nowB_kin {a : Lv} (hv : Zay a = true) (hw : wide a) : ∀ k, Kin a (nowB a k)
 | 0 => Kin.refl hv hw
 | k + 1 => swB_kin (nowB_kin hv hw k)
theorem bstB_kin {a : Lv} (hv : Zay a = true) (hw : wide a) : ∀ k, Kin a (bstB a k)
 | 0 => Kin.refl hv hw
 | k + 1 => by
  rw [bstB]
  split
  ·exact nowB_kin hv hw (k + 1)
  ·exact bstB_kin hv hw k
def rndB (r : Int) : Nat := (min (max r 0) 100).toNat
def barF (a : Lv) (i f : Int) : Lv := if matOk a i f then layB a i.toNat f.toNat else lv0
def swpF (a : Lv) : Lv := if Zay a then swB a else lv0
def brnF (a : Lv) (r : Int) : Lv × Int := if Zay a then (bstB a (rndB r), Zbg (bstB a (rndB r))) else (lv0, 0)
theorem matOk_in {a : Lv} {i f : Int} (h : matOk a i f = true) : Zay a = true ∧ (0 ≤ i ∧ i < a.2.1.length) ∧ (0 ≤ f ∧ f < a.2.1.length) ∧ (f = i - 1 ∨ f = i + 1) := by
 simp only [matOk, Bool.and_eq_true, decide_eq_true_eq] at h
 obtain ⟨⟨⟨h1, h2⟩, h3⟩, h4⟩ := h
 exact ⟨h1, h2, h3, h4⟩
end Go.Proofs.YtldbcbclhpcofaaGreat
namespace Go.Proofs.YtldbcbclhpcofaaGreat
open Go Go.PS Go.Proofs
open Go.Stb
set_option maxRecDepth 100000
attribute [local irreducible] Zax wpG Zah Zai

def okP1 (x : Int) : Bool := decide (0 ≤ x ∧ x ≤ 1048576)
theorem okPl_eq (l : List Int) : okPl l = (decide (l.length ≤ 4096) && l.all okP1) := rfl
theorem bsum_bound {l : List Int} (h : ∀ x, x ∈ l → okP1 x = true) : 0 ≤ l.sum ∧ l.sum ≤ ((l.length * 1048576 : Nat) : Int) :=
 isum_bound fun x hx => by
  have := h x hx
  rw [okP1, decide_eq_true_eq] at this
  exact this
theorem sum_snoc {l : List Int} {k : Nat} {x : Int} (h : l[k]? = some x) : (l.take (k + 1)).sum = (l.take k).sum + x := by
 rw [Zat h, List.sum_append]; simp
theorem all_at {l : List Int} {k : Nat} {x : Int} (h : l[k]? = some x) (hx : okP1 x = false) : l.all okP1 = false := by
 rw [List.all_eq_false]
 exact ⟨x, List.mem_of_getElem? h, by rw [hx]; decide⟩
theorem all_take {l : List Int} (h : ∀ x, x ∈ l.take l.length → okP1 x = true) : l.all okP1 = true := by
 rw [List.take_length] at h
 rw [List.all_eq_true]; exact h
set_option maxHeartbeats 1000000 in
theorem bsum_spec (l : List Int) : Zah Tryz.prog 106 [Zak l] (.tup [.int (sumP l), .int (cntP l)]) := by
 rw [sumP, cntP, okPl_eq]
 refine Zaf Tryz.func106 rfl (by decide +kernel) (Nat.le_of_ble_eq_true rfl) ?_
 intro hat B X w0
 by_cases hl : l.length ≤ 4096
 ·repeat' first | refine Zad rfl ?_ | refine Zac ?_ | refine wR ?_ | (refine Zaa rfl rfl (fun hc => ?_) (fun hc => ?_) <;> try simp only [hcL] at hc) | (refine Zab _ rfl rfl (fun hc => ?_) (fun hc => ?_) <;> (try simp only [hcL] at hc) <;> try omega) | simp (disch := omega) only [go_sem, simprocAttr] | apply And.intro | omega | decide +kernel
  refine Zap (κ := Nat) (fun (k : Nat) => k ≤ l.length ∧ (∀ x, x ∈ l.take k → okP1 x = true)) (fun (k : Nat) => [(0, .d (Zak l)), (4, .int (l.take k).sum), (10, .d (Zak l)), (11, .int l.length), (12, .int k)]) (fun (k : Nat) => []) (fun (k : Nat) => l.length - k) 0 ?_ ?_ ?_
  ·exact ⟨Nat.zero_le _, fun x hx => by rw [List.take_zero] at hx; cases hx⟩
  ·exact eL [] _ _ (by refine ⟨?_, ?_⟩ <;> (repeat' first | exact fmn | refine fmc ⟨(by first | rfl | (simp (disch := omega) only [go_sem, simprocAttr, inL, List.take_zero, List.sum_nil]; first | done | omega | (congr 1; done))), ?_⟩); done)
  ·rintro k ⟨hk, hinv⟩
   have hb := bsum_bound hinv
   rw [List.length_take, Nat.min_eq_left hk] at hb
   rcases Nat.lt_or_ge k l.length with hlt | hge
   ·obtain ⟨x, hx⟩ := Zan hlt
    have e1 := sum_snoc hx
    by_cases c : 0 ≤ x ∧ x ≤ 1048576
    ·obtain ⟨c1, c2⟩ := c
     repeat' first | refine Zad rfl ?_ | refine Zac ?_ | refine wR ?_ | (refine Zaa rfl rfl (fun hc => ?_) (fun hc => ?_) <;> try simp only [hcL] at hc) | (refine Zab _ rfl rfl (fun hc => ?_) (fun hc => ?_) <;> (try simp only [hcL] at hc) <;> try omega) | simp (disch := omega) only [go_sem, simprocAttr, hx] | apply And.intro | omega | decide +kernel
     refine ⟨k + 1, ?_, eL [] _ _ (by refine ⟨?_, ?_⟩ <;> (repeat' first | exact fmn | refine fmc ⟨(by first | rfl | (simp (disch := omega) only [go_sem, simprocAttr, inL, e1]; first | done | omega | (congr 1; done))), ?_⟩); done), ?_⟩
     ·refine ⟨by omega, fun y hy => ?_⟩
      rw [Zat hx] at hy
      rcases List.mem_append.1 hy with hy | hy
      ·exact hinv y hy
      ·rw [List.mem_singleton.1 hy, okP1, decide_eq_true ⟨c1, c2⟩]
     ·omega
    ·rw [all_at hx (by rw [okP1, decide_eq_false c]), Bool.and_false, if_neg (by decide), if_neg (by decide)]
     repeat' first | refine Zad rfl ?_ | refine Zac ?_ | refine wR ?_ | (refine Zaa rfl rfl (fun hc => ?_) (fun hc => ?_) <;> try simp only [hcL] at hc) | (refine Zab _ rfl rfl (fun hc => ?_) (fun hc => ?_) <;> (try simp only [hcL] at hc) <;> try omega) | simp (disch := omega) only [go_sem, simprocAttr, hx] | apply And.intro | omega | decide +kernel
     all_goals exact ⟨_, rfl, Zar rfl, Zar rfl, trivial⟩
   ·have : k = l.length := by omega
    subst this
    rw [all_take hinv, decide_eq_true hl, Bool.true_and, if_pos rfl, if_pos rfl]
    repeat' first | refine Zad rfl ?_ | refine Zac ?_ | refine wR ?_ | (refine Zaa rfl rfl (fun hc => ?_) (fun hc => ?_) <;> try simp only [hcL] at hc) | (refine Zab _ rfl rfl (fun hc => ?_) (fun hc => ?_) <;> (try simp only [hcL] at hc) <;> try omega) | simp (disch := omega) only [go_sem, simprocAttr] | apply And.intro | omega | decide +kernel
    refine ⟨_, rfl, Zar ?_, Zar rfl, trivial⟩
    rw [List.take_length]
 ·rw [decide_eq_false hl, Bool.false_and, if_neg (by decide), if_neg (by decide)]
  have hl2 := at_len 0 hat rfl
  rw [List.length_map] at hl2
  repeat' first | refine Zad rfl ?_ | refine Zac ?_ | refine wR ?_ | (refine Zaa rfl rfl (fun hc => ?_) (fun hc => ?_) <;> try simp only [hcL] at hc) | (refine Zab _ rfl rfl (fun hc => ?_) (fun hc => ?_) <;> (try simp only [hcL] at hc) <;> try omega) | simp (disch := omega) only [go_sem, simprocAttr] | apply And.intro | omega | decide +kernel
  exact ⟨_, rfl, Zar rfl, Zar rfl, trivial⟩
theorem isNaN_spec (a : Int) : Zah Tryz.prog 123 [.int a] (.bool false) := by
 refine Zaf Tryz.func123 rfl (by decide +kernel) (Nat.le_of_ble_eq_true rfl) ?_
 intro hat B X w0
 repeat' first | refine Zad rfl ?_ | refine Zac ?_ | refine wR ?_ | (refine Zaa rfl rfl (fun hc => ?_) (fun hc => ?_) <;> try simp only [hcL] at hc) | (refine Zab _ rfl rfl (fun hc => ?_) (fun hc => ?_) <;> (try simp only [hcL] at hc) <;> try omega) | simp (disch := omega) only [go_sem, simprocAttr] | apply And.intro | omega | decide +kernel
 exact Zas (by simp)
theorem compare_spec (a b : Int) : Zah Tryz.prog 107 [.int a, .int b] (.int (sg a b)) := by
 have h1 := isNaN_spec a
 have h2 := isNaN_spec b
 rw [sg]
 refine Zaf Tryz.func107 rfl (by decide +kernel) (Nat.le_of_ble_eq_true rfl) ?_
 intro hat B X w0
 by_cases c1 : a < b
 ·rw [if_pos c1]
  repeat' first | refine Zad rfl ?_ | refine Zac ?_ | refine wR ?_ | (refine rc (h1) rfl ?_ ?_; (· first | rfl | simp (disch := omega) only [go_sem, simprocAttr, c1])) | (refine rc (h2) rfl ?_ ?_; (· first | rfl | simp (disch := omega) only [go_sem, simprocAttr, c1])) | (refine Zaa rfl rfl (fun hc => ?_) (fun hc => ?_) <;> try simp only [hcL] at hc) | (refine Zab _ rfl rfl (fun hc => ?_) (fun hc => ?_) <;> (try simp only [hcL] at hc) <;> try omega) | simp (disch := omega) only [go_sem, simprocAttr, c1] | apply And.intro | omega | decide +kernel
  exact Zar rfl
 ·rw [if_neg c1]
  by_cases c2 : b < a
  ·rw [if_pos c2]
   repeat' first | refine Zad rfl ?_ | refine Zac ?_ | refine wR ?_ | (refine rc (h1) rfl ?_ ?_; (· first | rfl | simp (disch := omega) only [go_sem, simprocAttr, c1, c2])) | (refine rc (h2) rfl ?_ ?_; (· first | rfl | simp (disch := omega) only [go_sem, simprocAttr, c1, c2])) | (refine Zaa rfl rfl (fun hc => ?_) (fun hc => ?_) <;> try simp only [hcL] at hc) | (refine Zab _ rfl rfl (fun hc => ?_) (fun hc => ?_) <;> (try simp only [hcL] at hc) <;> try omega) | simp (disch := omega) only [go_sem, simprocAttr, c1, c2] | apply And.intro | omega | decide +kernel
   exact Zar rfl
  ·rw [if_neg c2]
   repeat' first | refine Zad rfl ?_ | refine Zac ?_ | refine wR ?_ | (refine rc (h1) rfl ?_ ?_; (· first | rfl | simp (disch := omega) only [go_sem, simprocAttr, c1, c2])) | (refine rc (h2) rfl ?_ ?_; (· first | rfl | simp (disch := omega) only [go_sem, simprocAttr, c1, c2])) | (refine Zaa rfl rfl (fun hc => ?_) (fun hc => ?_) <;> try simp only [hcL] at hc) | (refine Zab _ rfl rfl (fun hc => ?_) (fun hc => ?_) <;> (try simp only [hcL] at hc) <;> try omega) | simp (disch := omega) only [go_sem, simprocAttr, c1, c2] | apply And.intro | omega | decide +kernel
   exact Zar rfl
theorem min_one (n : Nat) : (if (1 : Int) < n then (1 : Int) else (n : Int)) = ((min n 1 : Nat) : Int) := by split <;> omega
set_option maxHeartbeats 1000000 in
theorem bCompare_spec (a b : List Int) : Zah Tryz.prog 100 [Zak a, Zak b] (.int (cmpP a b)) := by
 have h1 := bsum_spec a
 have h2 := bsum_spec b
 have h4 := compare_spec (sumP a * cntP b) (sumP b * cntP a)
 have p1 := prodP_le a b
 have p2 := prodP_le b a
 rw [cmpP]
 have m1 := min_one (cntP a)
 have m2 := min_one (cntP b)
 have z0 : ((min 0 1 : Nat) : Int) = 0 := rfl
 generalize sumP a = S at *
 generalize sumP b = T at *
 generalize cntP a = j at *
 generalize cntP b = k at *
 refine Zaf Tryz.func100 rfl (by decide +kernel) (Nat.le_of_ble_eq_true rfl) ?_
 intro hat B X w0
 by_cases c1 : j = 0
 ·rw [if_pos (.inl c1), c1, z0]
  rw [c1] at h1
  have h3 := compare_spec 0 ((min k 1 : Nat) : Int)
  have q1 : ((0 : Nat) : Int) = 0 := rfl
  repeat' first | refine Zad rfl ?_ | refine Zac ?_ | refine wR ?_ | (refine rc (h1) rfl ?_ ?_; (· first | rfl | simp (disch := omega) only [go_sem, simprocAttr, q1, m2])) | (refine rc (h2) rfl ?_ ?_; (· first | rfl | simp (disch := omega) only [go_sem, simprocAttr, q1, m2])) | (refine rc (h3) rfl ?_ ?_; (· first | rfl | simp (disch := omega) only [go_sem, simprocAttr, q1, m2])) | (refine Zaa rfl rfl (fun hc => ?_) (fun hc => ?_) <;> try simp only [hcL] at hc) | (refine Zab _ rfl rfl (fun hc => ?_) (fun hc => ?_) <;> (try simp only [hcL] at hc) <;> try omega) | simp (disch := omega) only [go_sem, simprocAttr, q1, m2] | apply And.intro | omega | decide +kernel
  exact Zar rfl
 ·by_cases c2 : k = 0
  ·rw [if_pos (.inr c2), c2, z0]
   rw [c2] at h2
   have h3 := compare_spec ((min j 1 : Nat) : Int) 0
   have q1 : ((0 : Nat) : Int) = 0 := rfl
   have c1I : ¬ (j : Int) = 0 := by omega
   repeat' first | refine Zad rfl ?_ | refine Zac ?_ | refine wR ?_ | (refine rc (h1) rfl ?_ ?_; (· first | rfl | simp (disch := omega) only [go_sem, simprocAttr, q1, m1, c1I])) | (refine rc (h2) rfl ?_ ?_; (· first | rfl | simp (disch := omega) only [go_sem, simprocAttr, q1, m1, c1I])) | (refine rc (h3) rfl ?_ ?_; (· first | rfl | simp (disch := omega) only [go_sem, simprocAttr, q1, m1, c1I])) | (refine Zaa rfl rfl (fun hc => ?_) (fun hc => ?_) <;> try simp only [hcL] at hc) | (refine Zab _ rfl rfl (fun hc => ?_) (fun hc => ?_) <;> (try simp only [hcL] at hc) <;> try omega) | simp (disch := omega) only [go_sem, simprocAttr, q1, m1, c1I] | apply And.intro | omega | decide +kernel
   exact Zar rfl
  ·rw [if_neg (by omega)]
   repeat' first | refine Zad rfl ?_ | refine Zac ?_ | refine wR ?_ | (refine rc (h1) rfl ?_ ?_; (· first | rfl | simp (disch := omega) only [go_sem, simprocAttr])) | (refine rc (h2) rfl ?_ ?_; (· first | rfl | simp (disch := omega) only [go_sem, simprocAttr])) | (refine rc (h4) rfl ?_ ?_; (· first | rfl | simp (disch := omega) only [go_sem, simprocAttr])) | (refine Zaa rfl rfl (fun hc => ?_) (fun hc => ?_) <;> try simp only [hcL] at hc) | (refine Zab _ rfl rfl (fun hc => ?_) (fun hc => ?_) <;> (try simp only [hcL] at hc) <;> try omega) | simp (disch := omega) only [go_sem, simprocAttr] | apply And.intro | omega | decide +kernel
   exact Zar rfl
theorem bless_spec (u v : Int) (a b : List Int) : Zah Tryz.prog 99 [.ag [.int u, Zak a], .ag [.int v, Zak b]] (.int (cmpP a b)) := by
 have h1 := bCompare_spec a b
 refine Zaf Tryz.func99 rfl (by decide +kernel) (Nat.le_of_ble_eq_true rfl) ?_
 intro hat B X w0
 repeat' first | refine Zad rfl ?_ | refine Zac ?_ | refine wR ?_ | (refine rc (h1) rfl ?_ ?_; (· first | rfl | simp (disch := omega) only [go_sem, simprocAttr])) | (refine Zaa rfl rfl (fun hc => ?_) (fun hc => ?_) <;> try simp only [hcL] at hc) | (refine Zab _ rfl rfl (fun hc => ?_) (fun hc => ?_) <;> (try simp only [hcL] at hc) <;> try omega) | simp (disch := omega) only [go_sem, simprocAttr] | apply And.intro | omega | decide +kernel
 exact Zar rfl
/-! The reference. -/
def plP (l : List Int) : List Int := if okPl l then l else []
theorem plP_sum (l : List Int) : (plP l).sum = sumP l := by rw [plP, sumP]; split <;> rfl
theorem plP_len (l : List Int) : (plP l).length = cntP l := by rw [plP, cntP]; split <;> rfl
set_option maxHeartbeats 1000000 in
theorem rplaces_spec (l : List Int) : Zah Tryz.prog 124 [Zak l] (Zak (plP l)) := by
 rw [plP, okPl_eq]
 refine Zaf Tryz.func124 rfl (by decide +kernel) (Nat.le_of_ble_eq_true rfl) ?_
 intro hat B X w0
 by_cases hl : l.length ≤ 4096
 ·repeat' first | refine Zad rfl ?_ | refine Zac ?_ | refine wR ?_ | (refine Zaa rfl rfl (fun hc => ?_) (fun hc => ?_) <;> try simp only [hcL] at hc) | (refine Zab _ rfl rfl (fun hc => ?_) (fun hc => ?_) <;> (try simp only [hcL] at hc) <;> try omega) | simp (disch := omega) only [go_sem, simprocAttr] | apply And.intro | omega | decide +kernel
  refine Zap (κ := Nat) (fun (k : Nat) => k ≤ l.length ∧ (∀ x, x ∈ l.take k → okP1 x = true)) (fun (k : Nat) => [(0, .d (Zak l)), (3, .int k)]) (fun (k : Nat) => []) (fun (k : Nat) => l.length - k) 0 ?_ ?_ ?_
  ·exact ⟨Nat.zero_le _, fun x hx => by rw [List.take_zero] at hx; cases hx⟩
  ·exact eL [] _ _ (by refine ⟨?_, ?_⟩ <;> (repeat' first | exact fmn | refine fmc ⟨(by first | rfl | (simp (disch := omega) only [go_sem, simprocAttr, inL]; first | done | omega | (congr 1; done))), ?_⟩); done)
  ·rintro k ⟨hk, hinv⟩
   rcases Nat.lt_or_ge k l.length with hlt | hge
   ·obtain ⟨x, hx⟩ := Zan hlt
    by_cases c : 0 ≤ x ∧ x ≤ 1048576
    ·obtain ⟨c1, c2⟩ := c
     repeat' first | refine Zad rfl ?_ | refine Zac ?_ | refine wR ?_ | (refine Zaa rfl rfl (fun hc => ?_) (fun hc => ?_) <;> try simp only [hcL] at hc) | (refine Zab _ rfl rfl (fun hc => ?_) (fun hc => ?_) <;> (try simp only [hcL] at hc) <;> try omega) | simp (disch := omega) only [go_sem, simprocAttr, hx] | apply And.intro | omega | decide +kernel
     refine ⟨k + 1, ?_, eL [] _ _ (by refine ⟨?_, ?_⟩ <;> (repeat' first | exact fmn | refine fmc ⟨(by first | rfl | (simp (disch := omega) only [go_sem, simprocAttr, inL]; first | done | omega | (congr 1; done))), ?_⟩); done), ?_⟩
     ·refine ⟨by omega, fun y hy => ?_⟩
      rw [Zat hx] at hy
      rcases List.mem_append.1 hy with hy | hy
      ·exact hinv y hy
      ·rw [List.mem_singleton.1 hy, okP1, decide_eq_true ⟨c1, c2⟩]
     ·omega
    ·rw [all_at hx (by rw [okP1, decide_eq_false c]), Bool.and_false, if_neg (by decide)]
     repeat' first | refine Zad rfl ?_ | refine Zac ?_ | refine wR ?_ | (refine Zaa rfl rfl (fun hc => ?_) (fun hc => ?_) <;> try simp only [hcL] at hc) | (refine Zab _ rfl rfl (fun hc => ?_) (fun hc => ?_) <;> (try simp only [hcL] at hc) <;> try omega) | simp (disch := omega) only [go_sem, simprocAttr, hx] | apply And.intro | omega | decide +kernel
     all_goals exact Zcd rfl
   ·have : k = l.length := by omega
    subst this
    rw [all_take hinv, decide_eq_true hl, Bool.true_and, if_pos rfl]
    repeat' first | refine Zad rfl ?_ | refine Zac ?_ | refine wR ?_ | (refine Zaa rfl rfl (fun hc => ?_) (fun hc => ?_) <;> try simp only [hcL] at hc) | (refine Zab _ rfl rfl (fun hc => ?_) (fun hc => ?_) <;> (try simp only [hcL] at hc) <;> try omega) | simp (disch := omega) only [go_sem, simprocAttr] | apply And.intro | omega | decide +kernel
    exact Zcd rfl
 ·rw [decide_eq_false hl, Bool.false_and, if_neg (by decide)]
  have hl2 := at_len 0 hat rfl
  rw [List.length_map] at hl2
  repeat' first | refine Zad rfl ?_ | refine Zac ?_ | refine wR ?_ | (refine Zaa rfl rfl (fun hc => ?_) (fun hc => ?_) <;> try simp only [hcL] at hc) | (refine Zab _ rfl rfl (fun hc => ?_) (fun hc => ?_) <;> (try simp only [hcL] at hc) <;> try omega) | simp (disch := omega) only [go_sem, simprocAttr] | apply And.intro | omega | decide +kernel
  exact Zcd rfl
theorem plP_ok (l : List Int) : (plP l).length ≤ 4096 ∧ ∀ x, x ∈ plP l → okP1 x = true := by
 rw [plP]
 split
 ·rename_i h
  rw [okPl_eq, Bool.and_eq_true, decide_eq_true_eq, List.all_eq_true] at h
  exact h
 ·exact ⟨Nat.zero_le _, fun x hx => by cases hx⟩
theorem rsum_spec (l : List Int) (h : l.length ≤ 4096) (hx : ∀ x, x ∈ l → okP1 x = true) : Zah Tryz.prog 125 [Zak l] (.int l.sum) := by
 refine Zaf Tryz.func125 rfl (by decide +kernel) (Nat.le_of_ble_eq_true rfl) ?_
 intro hat B X w0
 repeat' first | refine Zad rfl ?_ | refine Zac ?_ | refine wR ?_ | (refine Zaa rfl rfl (fun hc => ?_) (fun hc => ?_) <;> try simp only [hcL] at hc) | (refine Zab _ rfl rfl (fun hc => ?_) (fun hc => ?_) <;> (try simp only [hcL] at hc) <;> try omega) | simp (disch := omega) only [go_sem, simprocAttr] | apply And.intro | omega | decide +kernel
 refine Zap (κ := Nat) (fun (k : Nat) => k ≤ l.length) (fun (k : Nat) => [(0, .d (Zak l)), (3, .int (l.take k).sum), (4, .int k)]) (fun (k : Nat) => []) (fun (k : Nat) => l.length - k) 0 ?_ ?_ ?_
 ·exact Nat.zero_le _
 ·exact eL [] _ _ (by refine ⟨?_, ?_⟩ <;> (repeat' first | exact fmn | refine fmc ⟨(by first | rfl | (simp (disch := omega) only [go_sem, simprocAttr, inL, List.take_zero, List.sum_nil]; first | done | omega | (congr 1; done))), ?_⟩); done)
 ·intro k hk
  have hb := bsum_bound (l := l.take k) (fun x h => hx x (List.mem_of_mem_take h))
  rw [List.length_take, Nat.min_eq_left hk] at hb
  rcases Nat.lt_or_ge k l.length with hlt | hge
  ·obtain ⟨x, hx1⟩ := Zan hlt
   have e1 := sum_snoc hx1
   have hx2 := hx x (List.mem_of_getElem? hx1)
   rw [okP1, decide_eq_true_eq] at hx2
   repeat' first | refine Zad rfl ?_ | refine Zac ?_ | refine wR ?_ | (refine Zaa rfl rfl (fun hc => ?_) (fun hc => ?_) <;> try simp only [hcL] at hc) | (refine Zab _ rfl rfl (fun hc => ?_) (fun hc => ?_) <;> (try simp only [hcL] at hc) <;> try omega) | simp (disch := omega) only [go_sem, simprocAttr, hx1] | apply And.intro | omega | decide +kernel
   refine ⟨k + 1, ?_, eL [] _ _ (by refine ⟨?_, ?_⟩ <;> (repeat' first | exact fmn | refine fmc ⟨(by first | rfl | (simp (disch := omega) only [go_sem, simprocAttr, inL, e1]; first | done | omega | (congr 1; done))), ?_⟩); done), ?_⟩
   ·omega
   ·omega
  ·have : k = l.length := by omega
   subst this
   repeat' first | refine Zad rfl ?_ | refine Zac ?_ | refine wR ?_ | (refine Zaa rfl rfl (fun hc => ?_) (fun hc => ?_) <;> try simp only [hcL] at hc) | (refine Zab _ rfl rfl (fun hc => ?_) (fun hc => ?_) <;> (try simp only [hcL] at hc) <;> try omega) | simp (disch := omega) only [go_sem, simprocAttr] | apply And.intro | omega | decide +kernel
   exact Zar (by rw [List.take_length])
set_option maxHeartbeats 1000000 in
theorem rCompare_spec (a b : List Int) : Zah Tryz.prog 109 [Zak a, Zak b] (.int (cmpP a b)) := by
 have h1 := rplaces_spec a
 have h2 := rplaces_spec b
 have h3 := rsum_spec (plP a) (plP_ok a).1 (plP_ok a).2
 have h4 := rsum_spec (plP b) (plP_ok b).1 (plP_ok b).2
 have p1 := prodP_le a b
 have p2 := prodP_le b a
 rw [cmpP]
 rw [plP_sum] at h3 h4
 have l1 := plP_len a
 have l2 := plP_len b
 have l3 := cntP_le a
 have l4 := cntP_le b
 generalize plP a = A at *
 generalize plP b = C at *
 refine Zaf Tryz.func109 rfl (by decide +kernel) (Nat.le_of_ble_eq_true rfl) ?_
 intro hat B X w0
 by_cases c1 : A.length = 0
 ·by_cases c2 : C.length = 0
  ·rw [if_pos (.inl (by omega)), show cntP a = 0 by omega, show cntP b = 0 by omega]
   have c1I : (A.length : Int) = 0 := by omega
   have c2I : (C.length : Int) = 0 := by omega
   repeat' first | refine Zad rfl ?_ | refine Zac ?_ | refine wR ?_ | (refine rc (h1) rfl ?_ ?_; (· first | rfl | simp (disch := omega) only [go_sem, simprocAttr, c1I, c2I])) | (refine rc (h2) rfl ?_ ?_; (· first | rfl | simp (disch := omega) only [go_sem, simprocAttr, c1I, c2I])) | (refine Zaa rfl rfl (fun hc => ?_) (fun hc => ?_) <;> try simp only [hcL] at hc) | (refine Zab _ rfl rfl (fun hc => ?_) (fun hc => ?_) <;> (try simp only [hcL] at hc) <;> try omega) | simp (disch := omega) only [go_sem, simprocAttr, c1I, c2I] | apply And.intro | omega | decide +kernel
   exact Zar rfl
  ·rw [if_pos (.inl (by omega)), show cntP a = 0 by omega, show min (cntP b) 1 = 1 by omega]
   have c1I : (A.length : Int) = 0 := by omega
   have c2I : ¬ (C.length : Int) = 0 := by omega
   repeat' first | refine Zad rfl ?_ | refine Zac ?_ | refine wR ?_ | (refine rc (h1) rfl ?_ ?_; (· first | rfl | simp (disch := omega) only [go_sem, simprocAttr, c1I, c2I])) | (refine rc (h2) rfl ?_ ?_; (· first | rfl | simp (disch := omega) only [go_sem, simprocAttr, c1I, c2I])) | (refine Zaa rfl rfl (fun hc => ?_) (fun hc => ?_) <;> try simp only [hcL] at hc) | (refine Zab _ rfl rfl (fun hc => ?_) (fun hc => ?_) <;> (try simp only [hcL] at hc) <;> try omega) | simp (disch := omega) only [go_sem, simprocAttr, c1I, c2I] | apply And.intro | omega | decide +kernel
   exact Zar rfl
 ·have c1I : ¬ (A.length : Int) = 0 := by omega
  by_cases c2 : C.length = 0
  ·rw [if_pos (.inr (by omega)), show cntP b = 0 by omega, show min (cntP a) 1 = 1 by omega]
   have c2I : (C.length : Int) = 0 := by omega
   repeat' first | refine Zad rfl ?_ | refine Zac ?_ | refine wR ?_ | (refine rc (h1) rfl ?_ ?_; (· first | rfl | simp (disch := omega) only [go_sem, simprocAttr, c1I, c2I])) | (refine rc (h2) rfl ?_ ?_; (· first | rfl | simp (disch := omega) only [go_sem, simprocAttr, c1I, c2I])) | (refine Zaa rfl rfl (fun hc => ?_) (fun hc => ?_) <;> try simp only [hcL] at hc) | (refine Zab _ rfl rfl (fun hc => ?_) (fun hc => ?_) <;> (try simp only [hcL] at hc) <;> try omega) | simp (disch := omega) only [go_sem, simprocAttr, c1I, c2I] | apply And.intro | omega | decide +kernel
   exact Zar rfl
  ·have c2I : ¬ (C.length : Int) = 0 := by omega
   rw [if_neg (by omega)]
   rw [← l2] at p1
   rw [← l1] at p2
   rw [← l1, ← l2]
   rw [sg]
   by_cases c3 : sumP a * (C.length : Int) < sumP b * (A.length : Int)
   ·rw [if_pos c3]
    repeat' first | refine Zad rfl ?_ | refine Zac ?_ | refine wR ?_ | (refine rc (h1) rfl ?_ ?_; (· first | rfl | simp (disch := omega) only [go_sem, simprocAttr, c1I, c2I, c3])) | (refine rc (h2) rfl ?_ ?_; (· first | rfl | simp (disch := omega) only [go_sem, simprocAttr, c1I, c2I, c3])) | (refine rc (h3) rfl ?_ ?_; (· first | rfl | simp (disch := omega) only [go_sem, simprocAttr, c1I, c2I, c3])) | (refine rc (h4) rfl ?_ ?_; (· first | rfl | simp (disch := omega) only [go_sem, simprocAttr, c1I, c2I, c3])) | (refine Zaa rfl rfl (fun hc => ?_) (fun hc => ?_) <;> try simp only [hcL] at hc) | (refine Zab _ rfl rfl (fun hc => ?_) (fun hc => ?_) <;> (try simp only [hcL] at hc) <;> try omega) | simp (disch := omega) only [go_sem, simprocAttr, c1I, c2I, c3] | apply And.intro | omega | decide +kernel
    exact Zar rfl
   ·rw [if_neg c3]
    by_cases c4 : sumP b * (A.length : Int) < sumP a * (C.length : Int)
    ·rw [if_pos c4]
     repeat' first | refine Zad rfl ?_ | refine Zac ?_ | refine wR ?_ | (refine rc (h1) rfl ?_ ?_; (· first | rfl | simp (disch := omega) only [go_sem, simprocAttr, c1I, c2I, c3, c4])) | (refine rc (h2) rfl ?_ ?_; (· first | rfl | simp (disch := omega) only [go_sem, simprocAttr, c1I, c2I, c3, c4])) | (refine rc (h3) rfl ?_ ?_; (· first | rfl | simp (disch := omega) only [go_sem, simprocAttr, c1I, c2I, c3, c4])) | (refine rc (h4) rfl ?_ ?_; (· first | rfl | simp (disch := omega) only [go_sem, simprocAttr, c1I, c2I, c3, c4])) | (refine Zaa rfl rfl (fun hc => ?_) (fun hc => ?_) <;> try simp only [hcL] at hc) | (refine Zab _ rfl rfl (fun hc => ?_) (fun hc => ?_) <;> (try simp only [hcL] at hc) <;> try omega) | simp (disch := omega) only [go_sem, simprocAttr, c1I, c2I, c3, c4] | apply And.intro | omega | decide +kernel
     exact Zar rfl
    ·rw [if_neg c4]
     repeat' first | refine Zad rfl ?_ | refine Zac ?_ | refine wR ?_ | (refine rc (h1) rfl ?_ ?_; (· first | rfl | simp (disch := omega) only [go_sem, simprocAttr, c1I, c2I, c3, c4])) | (refine rc (h2) rfl ?_ ?_; (· first | rfl | simp (disch := omega) only [go_sem, simprocAttr, c1I, c2I, c3, c4])) | (refine rc (h3) rfl ?_ ?_; (· first | rfl | simp (disch := omega) only [go_sem, simprocAttr, c1I, c2I, c3, c4])) | (refine rc (h4) rfl ?_ ?_; (· first | rfl | simp (disch := omega) only [go_sem, simprocAttr, c1I, c2I, c3, c4])) | (refine Zaa rfl rfl (fun hc => ?_) (fun hc => ?_) <;> try simp only [hcL] at hc) | (refine Zab _ rfl rfl (fun hc => ?_) (fun hc => ?_) <;> (try simp only [hcL] at hc) <;> try omega) | simp (disch := omega) only [go_sem, simprocAttr, c1I, c2I, c3, c4] | apply And.intro | omega | decide +kernel
     exact Zar rfl
end Go.Proofs.YtldbcbclhpcofaaGreat
