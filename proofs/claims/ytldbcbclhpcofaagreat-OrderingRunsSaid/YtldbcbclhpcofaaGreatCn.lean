/- Crossings: the reference's matrix. -/
import Derived.Test.YtldbcbclhpcofaaGreatCd
import Derived.Test.YtldbcbclhpcofaaGreatPSBridge
import Derived.Test.YtldbcbclhpcofaaGreatF
import Derived.Test.YtldbcbclhpcofaaGreatPSFam
set_option linter.unusedSimpArgs false
set_option linter.unusedVariables false
namespace Go.Proofs.YtldbcbclhpcofaaGreat
open Go Go.PS Go.Proofs
set_option maxRecDepth 100000
attribute [local irreducible] Zax wpG Zah Zai

theorem w1_append (f : Pr → Int) (G : List Pr) : ∀ F : List Pr, w1 f (F ++ G) = w1 f F + w1 f G
 | [] => by rw [List.nil_append, w1]; omega
 | y :: F => by rw [List.cons_append, w1, w1, w1_append f G F]; omega
theorem W_append (f : Pr → Pr → Int) (F G : List Pr) : ∀ E : List Pr, W f F (E ++ G) = W f F E + W f F G
 | [] => by rw [List.nil_append, W]; omega
 | y :: E => by rw [List.cons_append, W, W, W_append f F G E]; omega
theorem w1_bound {f : Pr → Int} (h : ∀ y, 0 ≤ f y ∧ f y ≤ 1) : ∀ F : List Pr, 0 ≤ w1 f F ∧ w1 f F ≤ F.length
 | [] => by simp [w1]
 | y :: F => by
  have := w1_bound h F
  have := h y
  simp only [w1, List.length_cons]; omega
theorem W_bound {f : Pr → Pr → Int} (h : ∀ x y, 0 ≤ f x y ∧ f x y ≤ 1) (F : List Pr) : ∀ E : List Pr, 0 ≤ W f F E ∧ W f F E ≤ ((E.length * F.length : Nat) : Int)
 | [] => by simp [W]
 | x :: E => by
  have h1 := W_bound h F E
  have h2 := w1_bound (h x) F
  simp only [W, List.length_cons, Nat.add_mul, Nat.one_mul]; omega
def tly (own oth : Pr → Int) (A B : Nat) (x y : Pr) : Int := ind (own x = (A : Int) ∧ own y = (B : Int) ∧ own x ≠ own y ∧ oth y < oth x)
def accO (own oth : Pr → Int) (E : List Pr) (u A B : Nat) : Int := W (tly own oth A B) E (E.take u)
def accI (own oth : Pr → Int) (E : List Pr) (u : Nat) (p : Pr) (v A B : Nat) : Int := accO own oth E u A B + w1 (tly own oth A B p) (E.take v)
def rowI (c : Nat → Nat → Int) (n A : Nat) : List Int := (List.range n).map fun B => c A B
def tabI (c : Nat → Nat → Int) (n : Nat) : List (List Int) := (List.range n).map fun A => rowI c n A
theorem ind_01 (p : Prop) [Decidable p] : 0 ≤ ind p ∧ ind p ≤ 1 := by unfold ind; split <;> omega
theorem tly_01 (own oth : Pr → Int) (A B : Nat) (x y : Pr) : 0 ≤ tly own oth A B x y ∧ tly own oth A B x y ≤ 1 := ind_01 _
section acc
variable {own oth : Pr → Int} {E : List Pr} {u v : Nat} {p q : Pr}
theorem accO_zero : accO own oth E 0 = fun _ _ => 0 := by funext A B; rw [accO, List.take_zero, W]
theorem accI_zero : accI own oth E u p 0 = accO own oth E u := by funext A B; rw [accI, List.take_zero, w1]; omega
theorem accO_succ (hp : E[u]? = some p) : accO own oth E (u + 1) = accI own oth E u p E.length := by
 funext A B
 rw [accO, accI, accO, Zat hp, W_append, List.take_length, W, W]; omega
theorem accI_succ (hq : E[v]? = some q) (A B : Nat) : accI own oth E u p (v + 1) A B = accI own oth E u p v A B + tly own oth A B p q := by
 rw [accI, accI, Zat hq, w1_append, w1, w1]; omega
theorem accI_miss (hq : E[v]? = some q) (h : ¬ (own p ≠ own q ∧ oth q < oth p)) : accI own oth E u p (v + 1) = accI own oth E u p v := by
 funext A B
 rw [accI_succ hq, tly, ind_zero fun h2 => h h2.2.2]; omega
theorem accI_hit (hq : E[v]? = some q) (h1 : own p ≠ own q) (h2 : oth q < oth p) {A0 B0 : Nat} (hA : own p = A0) (hB : own q = B0) (A B : Nat) : accI own oth E u p (v + 1) A B = accI own oth E u p v A B + if A = A0 ∧ B = B0 then 1 else 0 := by
 rw [accI_succ hq, tly]
 by_cases c : A = A0 ∧ B = B0
 ·obtain ⟨rfl, rfl⟩ := c
  rw [ind_one ⟨hA, hB, h1, h2⟩, if_pos ⟨rfl, rfl⟩]
 ·rw [ind_zero fun h => c (by omega), if_neg c]
theorem accI_bound (hE : E.length ≤ 1000) (A B : Nat) : 0 ≤ accI own oth E u p v A B ∧ accI own oth E u p v A B ≤ 1001000 := by
 have h1 := W_bound (tly_01 own oth A B) E (E.take u)
 have h2 := w1_bound (tly_01 own oth A B p) (E.take v)
 have h3 : (E.take u).length * E.length ≤ 1000 * 1000 := Nat.mul_le_mul (by rw [List.length_take]; omega) hE
 rw [List.length_take] at h2
 rw [accI, accO]; omega
end acc
theorem rowI_len (c : Nat → Nat → Int) (n A : Nat) : (rowI c n A).length = n := by simp [rowI]
theorem rowI_get (c : Nat → Nat → Int) {n b : Nat} (A : Nat) (h : b < n) : (rowI c n A)[b]? = some (c A b) := by simp [rowI, h]
theorem rowI_zero (n A : Nat) : rowI (fun _ _ => 0) n A = List.replicate n 0 := by
 refine List.ext_getElem? fun b => ?_
 by_cases h : b < n
 ·rw [rowI_get _ _ h, List.getElem?_replicate, if_pos h]
 ·rw [List.getElem?_eq_none (by rw [rowI_len]; omega), List.getElem?_eq_none (by simp; omega)]
theorem rowI_congr {c c' : Nat → Nat → Int} (n A : Nat) (h : ∀ B, c A B = c' A B) : rowI c n A = rowI c' n A := List.map_congr_left fun B _ => h B
theorem rowI_set {c c' : Nat → Nat → Int} {n A b : Nat} {x : Int} (hb : b < n) (h : ∀ B, c' A B = if B = b then x else c A B) : (rowI c n A).set b x = rowI c' n A := by
 refine List.ext_getElem? fun B => ?_
 by_cases hB : B < n
 ·rw [rowI_get _ _ hB, h, List.getElem?_set]
  by_cases e : b = B
  ·subst e; rw [if_pos rfl, if_pos rfl, rowI_len, if_pos hb]
  ·rw [if_neg e, if_neg (fun h => e h.symm), rowI_get _ _ hB]
 ·rw [List.getElem?_eq_none (by rw [List.length_set, rowI_len]; omega), List.getElem?_eq_none (by rw [rowI_len]; omega)]
set_option maxHeartbeats 8000000 in
theorem rMat_dn (a : Lv) (i : Nat) (y z : List Int) (hn : Near a i y z) (hw : wide a) :
  Zah Tryz.prog 30 [lvD a, .int i, .int ((i : Int) + 1)] (Zaj (tabI (accO (fun e => e.1) (fun e => e.2) (Zbe y z a.2.2.1) (Zbe y z a.2.2.1).length) y.length)) := by
 have h1 := Zbw a hw
 rw [← valid_same, hn.ok] at h1
 obtain ⟨s1, s2, s3⟩ := Zcu hn.ok
 obtain ⟨t1, t2⟩ := Zcq hn.ok
 have hy := hn.hy
 have hz := hn.hz
 have hlt := hn.lt
 have h2 := Ends_spec a i y z hy hz (by omega)
 have hEl := pairsF_le y z a.2.2.1
 have hin := hn.ins
 have hyl := Zbq (List.mem_of_getElem? hn.hy)
 have hzl := Zbq (List.mem_of_getElem? hn.hz)
 clear hn hw
 generalize Zbe y z a.2.2.1 = E at *
 have hE : E.length ≤ 1000 := by omega
 obtain ⟨N, hN⟩ : ∃ N, N = y.length := ⟨_, rfl⟩
 rw [← hN]
 have hN5 : N ≤ 512 := by omega
 have hin2 : ∀ e, e ∈ E → 0 ≤ e.1 ∧ e.1 < N := fun e he => by have := hin e he; omega
 obtain ⟨n, ls, ar, cs⟩ := a
 dsimp only at *
 have en : ((i : Int) + 1).toNat = i + 1 := by omega
 have m1 : ((i : Int) + 1 < i) = False := by simp only [eq_iff_iff, iff_false]; omega
 have m2 : ((i : Int) < (i : Int) + 1) = True := by simp only [eq_iff_iff, iff_true]; omega
 have m3 : ((i : Int) = (i : Int) + 1 - 1) = True := by simp only [eq_iff_iff, iff_true]; omega
 have m4 : ((i : Int) + 1 = (i : Int) - 1) = False := by simp only [eq_iff_iff, iff_false]; omega
 refine Zaf Tryz.func30 rfl (by decide +kernel) (Nat.le_of_ble_eq_true rfl) ?_
 intro hat B X w0
 have hl := Zbt 0 1 hat rfl rfl
 rw [List.length_map] at hl
 dsimp only at hl
 repeat' first | refine Zad rfl ?_ | refine Zac ?_ | refine Zcx (Nat.beq 61) hmix ?_ | (refine rc (h1) rfl ?_ ?_; (· first | rfl | simp (disch := omega) only [go_sem, simprocAttr, List.append_eq, m1, m2, m3, m4, en])) | (refine rc (h2) rfl ?_ ?_; (· first | rfl | simp (disch := omega) only [go_sem, simprocAttr, List.append_eq, m1, m2, m3, m4, en])) | (refine Zaa rfl rfl (fun hc => ?_) (fun hc => ?_) <;> try simp only [hcL] at hc) | (refine Zab _ rfl rfl (fun hc => ?_) (fun hc => ?_) <;> (try simp only [hcL] at hc) <;> try omega) | simp (disch := omega) only [go_sem, simprocAttr, List.append_eq, m1, m2, m3, m4, en] | apply And.intro | omega | decide +kernel
 refine Zaq (κ := Nat) (fun k => k ≤ N) (fun k => [(1, .int i), (3, .ptr 3 0 0 0), (7, .d (prsD E)), (8, .int 0), (9, .int 1), (10, .ref 901 1 0 k k), (11, .int k)])
  (fun k => match k with | 0 => [] | j + 1 => [⟨1, 901, 1, j + 1, fun _ => (List.replicate N 0).map D.int⟩])
  (fun k => match k with | 0 => [(3, .cells [.int n, .d (Zaj ls), .d (Zal ar), .d (Zaj cs)]), (901, .row 1 [])] | j + 1 => [(3, .cells [.int n, .d (Zaj ls), .d (Zal ar), .d (Zaj cs)])]) (fun k => N - k) 0 ?_ ?_ ?_
 ·exact Nat.zero_le _
 ·refine eF [] [(901, 61)] _ _ _ (by refine ⟨?_, ?_⟩ <;> (repeat' first | exact fmn | refine fmc ⟨(by first | rfl | (simp (disch := omega) only [go_sem, simprocAttr, inL]; first | done | omega | (congr 1; done))), ?_⟩); done) ?_
  repeat' first | exact fmn | refine fmc ⟨?_, ?_⟩
  all_goals refine ⟨_, (by first | rfl | (simp (disch := omega) only [go_sem, simprocAttr]; done) | (simp (disch := omega) only [go_sem, simprocAttr]; rfl)), fun i hi => ?_⟩
  all_goals dsimp only at hi ⊢
  all_goals try (exfalso; omega)
  all_goals try (simp (disch := omega) only [go_sem, simprocAttr, Zaw, Zav]; done)
 ·intro k hk
  rcases Nat.lt_or_ge k N with hkN | hkN
  ·cases k with
   | zero =>
    dsimp only
    repeat' first | refine Zad rfl ?_ | refine Zac ?_ | refine wR ?_ | (refine Zaa rfl rfl (fun hc => ?_) (fun hc => ?_) <;> try simp only [hcL] at hc) | (refine Zab _ rfl rfl (fun hc => ?_) (fun hc => ?_) <;> (try simp only [hcL] at hc) <;> try omega) | simp (disch := omega) only [go_sem, simprocAttr, List.append_eq, en, hy, hz, ← hN, Zbb, List.isEmpty_nil] | apply And.intro | omega | decide +kernel
    refine ⟨1, ?_, eF [(fid 1 0, 79)] [(901, 81)] _ _ _ (by refine ⟨?_, ?_⟩ <;> (repeat' first | exact fmn | refine fmc ⟨(by first | rfl | (simp (disch := omega) only [go_sem, simprocAttr, inL, List.map_replicate, List.length_replicate]; first | done | omega | (congr 1; done))), ?_⟩); done) ?_, ?_⟩
    ·omega
    ·refine List.forall_mem_cons.2 ⟨⟨fun _ => .ref 79 1 0 N N, ?_, fun r hr => ?_⟩, List.forall_mem_nil _⟩
     ·rw [refs_one]
      simp (disch := omega) only [go_sem, simprocAttr, List.isEmpty_nil]
     ·obtain rfl : r = 0 := by dsimp only at hr; omega
      simp (disch := omega) only [go_sem, simprocAttr, List.map_replicate, List.length_replicate]
    ·omega
   | succ k =>
    dsimp only
    repeat' first | refine Zad rfl ?_ | refine Zac ?_ | refine wR ?_ | (refine Zaa rfl rfl (fun hc => ?_) (fun hc => ?_) <;> try simp only [hcL] at hc) | (refine Zab _ rfl rfl (fun hc => ?_) (fun hc => ?_) <;> (try simp only [hcL] at hc) <;> try omega) | simp (disch := omega) only [go_sem, simprocAttr, List.append_eq, en, hy, hz, ← hN, Zbb] | apply And.intro | omega | decide +kernel
    refine ⟨k + 2, ?_, eF [(fid 1 (k + 1), 79)] [(901, 81)] _ _ _ (by refine ⟨?_, ?_⟩ <;> (repeat' first | exact fmn | refine fmc ⟨(by first | rfl | (simp (disch := omega) only [go_sem, simprocAttr, inL, List.map_replicate, List.length_replicate]; first | done | omega | (congr 1; done))), ?_⟩); done) ?_, ?_⟩
    ·omega
    ·repeat' first | exact fmn | refine fmc ⟨?_, ?_⟩
     all_goals refine ⟨_, (by first | rfl | (simp (disch := omega) only [go_sem, simprocAttr, List.map_replicate, List.length_replicate]; done) | (simp (disch := omega) only [go_sem, simprocAttr, List.map_replicate, List.length_replicate]; rfl)), fun i hi => ?_⟩
     all_goals dsimp only at hi ⊢
     all_goals rcases Decidable.em (i = k+1) with rfl | hi0
     all_goals try (exfalso; omega)
     all_goals try (simp (disch := omega) only [go_sem, simprocAttr, List.map_replicate, List.length_replicate, Zaw, Zav]; done)
     all_goals try (simp (disch := omega) only [go_sem, simprocAttr, List.map_replicate, List.length_replicate, hi0, Zaw, Zav]; done)
    ·omega
  ·cases k with
   | zero =>
    have hE0 : E = [] := by
     cases E with
     | nil => rfl
     | cons e E => have := hin2 e (by simp); omega
    subst hE0
    obtain rfl : N = 0 := by omega
    dsimp only
    repeat' first | refine Zad rfl ?_ | refine Zac ?_ | refine wR ?_ | (refine Zaa rfl rfl (fun hc => ?_) (fun hc => ?_) <;> try simp only [hcL] at hc) | (refine Zab _ rfl rfl (fun hc => ?_) (fun hc => ?_) <;> (try simp only [hcL] at hc) <;> try omega) | simp (disch := omega) only [go_sem, simprocAttr, List.append_eq, en, hy, hz, ← hN] | apply And.intro | omega | decide +kernel
    refine Zap (κ := Nat) (fun (u : Nat) => u = 0) (fun (u : Nat) => [(10, .ref 901 1 0 0 0), (7, .d (prsD [])), (12, .int u)]) (fun (u : Nat) => [(901, .row 1 [])]) (fun (u : Nat) => 0) 0 ?_ ?_ ?_
    ·rfl
    ·exact eL [] _ _ (by refine ⟨?_, ?_⟩ <;> (repeat' first | exact fmn | refine fmc ⟨(by first | rfl | (simp (disch := omega) only [go_sem, simprocAttr, inL]; first | done | omega | (congr 1; done))), ?_⟩); done)
    ·rintro u rfl
     repeat' first | refine Zad rfl ?_ | refine Zac ?_ | refine wR ?_ | (refine Zaa rfl rfl (fun hc => ?_) (fun hc => ?_) <;> try simp only [hcL] at hc) | (refine Zab _ rfl rfl (fun hc => ?_) (fun hc => ?_) <;> (try simp only [hcL] at hc) <;> try omega) | simp (disch := omega) only [go_sem, simprocAttr] | apply And.intro | omega | decide +kernel
     refine Zci (o := 901) rfl rfl (by simp) ?_
     simp [tabI]
   | succ k =>
    obtain rfl : N = k + 1 := by omega
    have hz0 : ∀ r, rowI (accO (fun e => e.1) (fun e => e.2) E 0) (k + 1) r = List.replicate (k + 1) 0 := fun r => by rw [accO_zero, rowI_zero]
    dsimp only
    repeat' first | refine Zad rfl ?_ | refine Zac ?_ | refine wR ?_ | (refine Zaa rfl rfl (fun hc => ?_) (fun hc => ?_) <;> try simp only [hcL] at hc) | (refine Zab _ rfl rfl (fun hc => ?_) (fun hc => ?_) <;> (try simp only [hcL] at hc) <;> try omega) | simp (disch := omega) only [go_sem, simprocAttr, List.append_eq, en, hy, hz, ← hN] | apply And.intro | omega | decide +kernel
    refine Zaq (κ := Nat) (fun (u : Nat) => u ≤ E.length) (fun (u : Nat) => [(7, .d (prsD E)), (8, .int 0), (9, .int 1), (10, .ref 901 1 0 (k + 1) (k + 1)), (12, .int u)]) (fun (u : Nat) => [⟨1, 901, 1, k + 1, fun r => (rowI (accO (fun e => e.1) (fun e => e.2) E u) (k + 1) r).map D.int⟩]) (fun (u : Nat) => []) (fun (u : Nat) => E.length - u) 0 ?_ ?_ ?_
    ·exact Nat.zero_le _
    ·refine eF [] [] _ _ _ (by refine ⟨?_, ?_⟩ <;> (repeat' first | exact fmn | refine fmc ⟨(by first | rfl | (simp (disch := omega) only [go_sem, simprocAttr, inL]; first | done | omega | (congr 1; done))), ?_⟩); done) ?_
     repeat' first | exact fmn | refine fmc ⟨?_, ?_⟩
     all_goals refine ⟨_, (by first | rfl | (simp (disch := omega) only [go_sem, simprocAttr, hz0, List.map_replicate, List.length_replicate]; done) | (simp (disch := omega) only [go_sem, simprocAttr, hz0, List.map_replicate, List.length_replicate]; rfl)), fun i hi => ?_⟩
     all_goals dsimp only at hi ⊢
     all_goals try (exfalso; omega)
     all_goals try (simp (disch := omega) only [go_sem, simprocAttr, hz0, List.map_replicate, List.length_replicate, Zaw, Zav]; done)
    ·intro u hu
     rcases Nat.lt_or_ge u E.length with hlu | hgu
     ·obtain ⟨p, hp⟩ := Zan hlu
      have hpi := hin2 p (List.mem_of_getElem? hp)
      obtain ⟨A0, hA0⟩ : ∃ A0 : Nat, p.1 = A0 := ⟨(p.1).toNat, by omega⟩
      repeat' first | refine Zad rfl ?_ | refine Zac ?_ | refine wR ?_ | (refine Zaa rfl rfl (fun hc => ?_) (fun hc => ?_) <;> try simp only [hcL] at hc) | (refine Zab _ rfl rfl (fun hc => ?_) (fun hc => ?_) <;> (try simp only [hcL] at hc) <;> try omega) | simp (disch := omega) only [go_sem, simprocAttr, hp] | apply And.intro | omega | decide +kernel
      refine Zaq (κ := Nat) (fun (v : Nat) => v ≤ E.length) (fun (v : Nat) => [(7, .d (prsD E)), (8, .int 0), (9, .int 1), (10, .ref 901 1 0 (k + 1) (k + 1)), (12, .int u), (13, .int v)]) (fun (v : Nat) => [⟨1, 901, 1, k + 1, fun r => (rowI (accI (fun e => e.1) (fun e => e.2) E u p v) (k + 1) r).map D.int⟩]) (fun (v : Nat) => []) (fun (v : Nat) => E.length - v) 0 ?_ ?_ ?_
      ·exact Nat.zero_le _
      ·refine eF [] [] _ _ _ (by refine ⟨?_, ?_⟩ <;> (repeat' first | exact fmn | refine fmc ⟨(by first | rfl | (simp (disch := omega) only [go_sem, simprocAttr, inL]; first | done | omega | (congr 1; done))), ?_⟩); done) ?_
       repeat' first | exact fmn | refine fmc ⟨?_, ?_⟩
       all_goals refine ⟨_, (by first | rfl | (simp (disch := omega) only [go_sem, simprocAttr, accI_zero]; done) | (simp (disch := omega) only [go_sem, simprocAttr, accI_zero]; rfl)), fun i hi => ?_⟩
       all_goals dsimp only at hi ⊢
       all_goals try (exfalso; omega)
       all_goals try (simp (disch := omega) only [go_sem, simprocAttr, accI_zero, Zaw, Zav]; done)
      ·intro v hv
       rcases Nat.lt_or_ge v E.length with hlv | hgv
       ·obtain ⟨q, hq⟩ := Zan hlv
        have hqi := hin2 q (List.mem_of_getElem? hq)
        obtain ⟨B0, hB0⟩ : ∃ B0 : Nat, q.1 = B0 := ⟨(q.1).toNat, by omega⟩
        by_cases c1 : p.1 = q.1
        ·have hm := accI_miss (own := (fun e => e.1)) (oth := (fun e => e.2)) (u := u) (p := p) hq (fun h => h.1 c1)
         repeat' first | refine Zad rfl ?_ | refine Zac ?_ | refine wR ?_ | (refine Zaa rfl rfl (fun hc => ?_) (fun hc => ?_) <;> try simp only [hcL] at hc) | (refine Zab _ rfl rfl (fun hc => ?_) (fun hc => ?_) <;> (try simp only [hcL] at hc) <;> try omega) | simp (disch := omega) only [go_sem, simprocAttr, hp, hq, c1] | apply And.intro | omega | decide +kernel
         refine ⟨v + 1, ?_, eF [] [] _ _ _ (by refine ⟨?_, ?_⟩ <;> (repeat' first | exact fmn | refine fmc ⟨(by first | rfl | (simp (disch := omega) only [go_sem, simprocAttr, inL]; first | done | omega | (congr 1; done))), ?_⟩); done) ?_, ?_⟩
         ·omega
         ·repeat' first | exact fmn | refine fmc ⟨?_, ?_⟩
          all_goals refine ⟨_, (by first | rfl | (simp (disch := omega) only [go_sem, simprocAttr, hm]; done) | (simp (disch := omega) only [go_sem, simprocAttr, hm]; rfl)), fun i hi => ?_⟩
          all_goals dsimp only at hi ⊢
          all_goals try (exfalso; omega)
          all_goals try (simp (disch := omega) only [go_sem, simprocAttr, hm, Zaw, Zav]; done)
         ·omega
        ·by_cases c2 : q.2 < p.2
         ·have hb := accI_bound (own := (fun e => e.1)) (oth := (fun e => e.2)) (u := u) (v := v) (p := p) hE A0 B0
          obtain ⟨x, hx⟩ : ∃ x, accI (fun e => e.1) (fun e => e.2) E u p v A0 B0 = x := ⟨_, rfl⟩
          rw [hx] at hb
          have hg : (rowI (accI (fun e => e.1) (fun e => e.2) E u p v) (k + 1) A0)[B0]? = some x := by rw [rowI_get _ _ (by omega), hx]
          have hh := accI_hit (own := (fun e => e.1)) (oth := (fun e => e.2)) (u := u) (p := p) hq c1 c2 hA0 hB0
          have hst : (rowI (accI (fun e => e.1) (fun e => e.2) E u p v) (k + 1) A0).set B0 (x + 1) = rowI (accI (fun e => e.1) (fun e => e.2) E u p (v + 1)) (k + 1) A0 := rowI_set (by omega) fun B => by
           rw [hh]
           by_cases c : B = B0
           ·subst c; rw [if_pos ⟨rfl, rfl⟩, if_pos rfl, hx]
           ·rw [if_neg (fun h => c h.2), if_neg c]; omega
          have hot : ∀ r, r ≠ A0 → rowI (accI (fun e => e.1) (fun e => e.2) E u p (v + 1)) (k + 1) r = rowI (accI (fun e => e.1) (fun e => e.2) E u p v) (k + 1) r := fun r hr => rowI_congr _ _ fun B => by rw [hh, if_neg (fun h => hr h.1)]; omega
          have hfl : (rowI (accI (fun e => e.1) (fun e => e.2) E u p v) (k + 1) A0).length = k + 1 := rowI_len _ _ _
          rw [hA0, hB0] at c1
          have cA : A0 < k + 1 := by omega
          have cB : B0 < k + 1 := by omega
          refine Zbd _ (ent_bor _ _ [901] 901 A0 900 1 1 (k + 1) (by first | rfl | (simp (disch := omega) only [go_sem, simprocAttr]; done) | (simp (disch := omega) only [go_sem, simprocAttr]; rfl)) (by first | (simp (disch := omega) only [go_sem, simprocAttr]; done) | (simp (disch := omega) only [go_sem, simprocAttr]; rfl)) (by first | (simp (disch := omega) only [go_sem, simprocAttr]; done) | (simp (disch := omega) only [go_sem, simprocAttr]; rfl)) (fun i hi hne => by simp (disch := omega) only [go_sem, simprocAttr, hne]; (repeat' split) <;> exact .ref _ _ _ _ _ ⟨by simp (disch := omega) only [go_sem, simprocAttr, hne], by simp (disch := omega) only [go_sem, simprocAttr, hne]⟩) (by (repeat' first | refine ab_nil ?_ | exact ab_obOf (ids := [901]) rfl rfl (Nat.le_of_ble_eq_true rfl) | refine ab_hole ?_ | refine ab_row ?_ | refine ab_dead ?_ | refine ab_self ?_ | refine Zcv ?_ | refine ab_fam (by dsimp only; omega) (by dsimp only; omega) (by omega) (by omega) (Nat.le_of_ble_eq_true rfl) ?_); done) rfl rfl rfl) ?_
          repeat' first | refine Zad rfl ?_ | refine Zac ?_ | refine wR ?_ | (refine Zaa rfl rfl (fun hc => ?_) (fun hc => ?_) <;> try simp only [hcL] at hc) | (refine Zab _ rfl rfl (fun hc => ?_) (fun hc => ?_) <;> (try simp only [hcL] at hc) <;> try omega) | simp (disch := omega) only [go_sem, simprocAttr, hp, hq, hA0, hB0, c1, c2, hg, hfl] | apply And.intro | omega | decide +kernel
          refine ⟨v + 1, ?_, eF [(fid 1 A0, 900)] [] _ _ _ (by refine ⟨?_, ?_⟩ <;> (repeat' first | exact fmn | refine fmc ⟨(by first | rfl | (simp (disch := omega) only [go_sem, simprocAttr, inL]; first | done | omega | (congr 1; done))), ?_⟩); done) ?_, ?_⟩
          ·omega
          ·repeat' first | exact fmn | refine fmc ⟨?_, ?_⟩
           all_goals refine ⟨_, (by first | rfl | (simp (disch := omega) only [go_sem, simprocAttr, hst.symm, List.map_set, List.length_set, List.length_map, hfl, hot]; done) | (simp (disch := omega) only [go_sem, simprocAttr, hst.symm, List.map_set, List.length_set, List.length_map, hfl, hot]; rfl)), fun i hi => ?_⟩
           all_goals dsimp only at hi ⊢
           all_goals rcases Decidable.em (i = A0) with rfl | hi0
           all_goals try (exfalso; omega)
           all_goals try (simp (disch := omega) only [go_sem, simprocAttr, hst.symm, List.map_set, List.length_set, List.length_map, hfl, hot, Zaw, Zav]; done)
           all_goals try (simp (disch := omega) only [go_sem, simprocAttr, hst.symm, List.map_set, List.length_set, List.length_map, hfl, hot, hi0, Zaw, Zav]; done)
          ·omega
         ·have hm := accI_miss (own := (fun e => e.1)) (oth := (fun e => e.2)) (u := u) (p := p) hq (fun h => c2 h.2)
          repeat' first | refine Zad rfl ?_ | refine Zac ?_ | refine wR ?_ | (refine Zaa rfl rfl (fun hc => ?_) (fun hc => ?_) <;> try simp only [hcL] at hc) | (refine Zab _ rfl rfl (fun hc => ?_) (fun hc => ?_) <;> (try simp only [hcL] at hc) <;> try omega) | simp (disch := omega) only [go_sem, simprocAttr, hp, hq, c1, c2] | apply And.intro | omega | decide +kernel
          refine ⟨v + 1, ?_, eF [] [] _ _ _ (by refine ⟨?_, ?_⟩ <;> (repeat' first | exact fmn | refine fmc ⟨(by first | rfl | (simp (disch := omega) only [go_sem, simprocAttr, inL]; first | done | omega | (congr 1; done))), ?_⟩); done) ?_, ?_⟩
          ·omega
          ·repeat' first | exact fmn | refine fmc ⟨?_, ?_⟩
           all_goals refine ⟨_, (by first | rfl | (simp (disch := omega) only [go_sem, simprocAttr, hm]; done) | (simp (disch := omega) only [go_sem, simprocAttr, hm]; rfl)), fun i hi => ?_⟩
           all_goals dsimp only at hi ⊢
           all_goals try (exfalso; omega)
           all_goals try (simp (disch := omega) only [go_sem, simprocAttr, hm, Zaw, Zav]; done)
          ·omega
       ·have : v = E.length := by omega
        subst this
        have e1 := accO_succ (own := (fun e => e.1)) (oth := (fun e => e.2)) hp
        try dsimp only
        repeat' first | refine Zad rfl ?_ | refine Zac ?_ | refine wR ?_ | (refine Zaa rfl rfl (fun hc => ?_) (fun hc => ?_) <;> try simp only [hcL] at hc) | (refine Zab _ rfl rfl (fun hc => ?_) (fun hc => ?_) <;> (try simp only [hcL] at hc) <;> try omega) | simp (disch := omega) only [go_sem, simprocAttr] | apply And.intro | omega | decide +kernel
        refine ⟨u + 1, ?_, eF [] [] _ _ _ (by refine ⟨?_, ?_⟩ <;> (repeat' first | exact fmn | refine fmc ⟨(by first | rfl | (simp (disch := omega) only [go_sem, simprocAttr, inL]; first | done | omega | (congr 1; done))), ?_⟩); done) ?_, ?_⟩
        ·omega
        ·repeat' first | exact fmn | refine fmc ⟨?_, ?_⟩
         all_goals refine ⟨_, (by first | rfl | (simp (disch := omega) only [go_sem, simprocAttr, e1]; done) | (simp (disch := omega) only [go_sem, simprocAttr, e1]; rfl)), fun i hi => ?_⟩
         all_goals dsimp only at hi ⊢
         all_goals try (exfalso; omega)
         all_goals try (simp (disch := omega) only [go_sem, simprocAttr, e1, Zaw, Zav]; done)
        ·omega
     ·have : u = E.length := by omega
      subst this
      try dsimp only
      refine Zbd _ (Zcp _ _ _ _ ⟨Zba rfl, Zba rfl, (by (repeat' first | exact fmn | refine fmc ⟨⟨Nat.le_of_ble_eq_true rfl, Nat.le_of_ble_eq_true rfl, by dsimp only; omega⟩, ?_⟩); done)⟩ rfl [901] rfl rfl rfl rfl) ?_
      repeat' first | refine Zad rfl ?_ | refine Zac ?_ | refine wR ?_ | (refine Zaa rfl rfl (fun hc => ?_) (fun hc => ?_) <;> try simp only [hcL] at hc) | (refine Zab _ rfl rfl (fun hc => ?_) (fun hc => ?_) <;> (try simp only [hcL] at hc) <;> try omega) | simp (disch := omega) only [go_sem, simprocAttr] | apply And.intro | omega | decide +kernel
      refine Zci (o := 901) rfl rfl (by simp) ?_
      rw [List.take_of_length_le (by simp), tabI, List.map_map, ← List.range_succ]
      exact List.map_congr_left fun r hr => rfl
set_option maxHeartbeats 8000000 in
theorem rMat_up (a : Lv) (i : Nat) (y z : List Int) (hn : Near a i y z) (hw : wide a) :
  Zah Tryz.prog 30 [lvD a, .int ((i : Int) + 1), .int i] (Zaj (tabI (accO (fun e => e.2) (fun e => e.1) (Zbe y z a.2.2.1) (Zbe y z a.2.2.1).length) z.length)) := by
 have h1 := Zbw a hw
 rw [← valid_same, hn.ok] at h1
 obtain ⟨s1, s2, s3⟩ := Zcu hn.ok
 obtain ⟨t1, t2⟩ := Zcq hn.ok
 have hy := hn.hy
 have hz := hn.hz
 have hlt := hn.lt
 have h2 := Ends_spec a i y z hy hz (by omega)
 have hEl := pairsF_le y z a.2.2.1
 have hin := hn.ins
 have hyl := Zbq (List.mem_of_getElem? hn.hy)
 have hzl := Zbq (List.mem_of_getElem? hn.hz)
 clear hn hw
 generalize Zbe y z a.2.2.1 = E at *
 have hE : E.length ≤ 1000 := by omega
 obtain ⟨N, hN⟩ : ∃ N, N = z.length := ⟨_, rfl⟩
 rw [← hN]
 have hN5 : N ≤ 512 := by omega
 have hin2 : ∀ e, e ∈ E → 0 ≤ e.2 ∧ e.2 < N := fun e he => by have := hin e he; omega
 obtain ⟨n, ls, ar, cs⟩ := a
 dsimp only at *
 have en : ((i : Int) + 1).toNat = i + 1 := by omega
 have m1 : ((i : Int) + 1 < i) = False := by simp only [eq_iff_iff, iff_false]; omega
 have m2 : ((i : Int) < (i : Int) + 1) = True := by simp only [eq_iff_iff, iff_true]; omega
 have m3 : ((i : Int) = (i : Int) + 1 - 1) = True := by simp only [eq_iff_iff, iff_true]; omega
 have m4 : ((i : Int) + 1 = (i : Int) - 1) = False := by simp only [eq_iff_iff, iff_false]; omega
 refine Zaf Tryz.func30 rfl (by decide +kernel) (Nat.le_of_ble_eq_true rfl) ?_
 intro hat B X w0
 have hl := Zbt 0 1 hat rfl rfl
 rw [List.length_map] at hl
 dsimp only at hl
 repeat' first | refine Zad rfl ?_ | refine Zac ?_ | refine Zcx (Nat.beq 61) hmix ?_ | (refine rc (h1) rfl ?_ ?_; (· first | rfl | simp (disch := omega) only [go_sem, simprocAttr, List.append_eq, m1, m2, m3, m4, en])) | (refine rc (h2) rfl ?_ ?_; (· first | rfl | simp (disch := omega) only [go_sem, simprocAttr, List.append_eq, m1, m2, m3, m4, en])) | (refine Zaa rfl rfl (fun hc => ?_) (fun hc => ?_) <;> try simp only [hcL] at hc) | (refine Zab _ rfl rfl (fun hc => ?_) (fun hc => ?_) <;> (try simp only [hcL] at hc) <;> try omega) | simp (disch := omega) only [go_sem, simprocAttr, List.append_eq, m1, m2, m3, m4, en] | apply And.intro | omega | decide +kernel
 refine Zaq (κ := Nat) (fun k => k ≤ N) (fun k => [(1, .int ((i : Int) + 1)), (3, .ptr 3 0 0 0), (7, .d (prsD E)), (8, .int 1), (9, .int 0), (10, .ref 901 1 0 k k), (11, .int k)])
  (fun k => match k with | 0 => [] | j + 1 => [⟨1, 901, 1, j + 1, fun _ => (List.replicate N 0).map D.int⟩])
  (fun k => match k with | 0 => [(3, .cells [.int n, .d (Zaj ls), .d (Zal ar), .d (Zaj cs)]), (901, .row 1 [])] | j + 1 => [(3, .cells [.int n, .d (Zaj ls), .d (Zal ar), .d (Zaj cs)])]) (fun k => N - k) 0 ?_ ?_ ?_
 ·exact Nat.zero_le _
 ·refine eF [] [(901, 61)] _ _ _ (by refine ⟨?_, ?_⟩ <;> (repeat' first | exact fmn | refine fmc ⟨(by first | rfl | (simp (disch := omega) only [go_sem, simprocAttr, inL]; first | done | omega | (congr 1; done))), ?_⟩); done) ?_
  repeat' first | exact fmn | refine fmc ⟨?_, ?_⟩
  all_goals refine ⟨_, (by first | rfl | (simp (disch := omega) only [go_sem, simprocAttr]; done) | (simp (disch := omega) only [go_sem, simprocAttr]; rfl)), fun i hi => ?_⟩
  all_goals dsimp only at hi ⊢
  all_goals try (exfalso; omega)
  all_goals try (simp (disch := omega) only [go_sem, simprocAttr, Zaw, Zav]; done)
 ·intro k hk
  rcases Nat.lt_or_ge k N with hkN | hkN
  ·cases k with
   | zero =>
    dsimp only
    repeat' first | refine Zad rfl ?_ | refine Zac ?_ | refine wR ?_ | (refine Zaa rfl rfl (fun hc => ?_) (fun hc => ?_) <;> try simp only [hcL] at hc) | (refine Zab _ rfl rfl (fun hc => ?_) (fun hc => ?_) <;> (try simp only [hcL] at hc) <;> try omega) | simp (disch := omega) only [go_sem, simprocAttr, List.append_eq, en, hy, hz, ← hN, Zbb, List.isEmpty_nil] | apply And.intro | omega | decide +kernel
    refine ⟨1, ?_, eF [(fid 1 0, 79)] [(901, 81)] _ _ _ (by refine ⟨?_, ?_⟩ <;> (repeat' first | exact fmn | refine fmc ⟨(by first | rfl | (simp (disch := omega) only [go_sem, simprocAttr, inL, List.map_replicate, List.length_replicate]; first | done | omega | (congr 1; done))), ?_⟩); done) ?_, ?_⟩
    ·omega
    ·refine List.forall_mem_cons.2 ⟨⟨fun _ => .ref 79 1 0 N N, ?_, fun r hr => ?_⟩, List.forall_mem_nil _⟩
     ·rw [refs_one]
      simp (disch := omega) only [go_sem, simprocAttr, List.isEmpty_nil]
     ·obtain rfl : r = 0 := by dsimp only at hr; omega
      simp (disch := omega) only [go_sem, simprocAttr, List.map_replicate, List.length_replicate]
    ·omega
   | succ k =>
    dsimp only
    repeat' first | refine Zad rfl ?_ | refine Zac ?_ | refine wR ?_ | (refine Zaa rfl rfl (fun hc => ?_) (fun hc => ?_) <;> try simp only [hcL] at hc) | (refine Zab _ rfl rfl (fun hc => ?_) (fun hc => ?_) <;> (try simp only [hcL] at hc) <;> try omega) | simp (disch := omega) only [go_sem, simprocAttr, List.append_eq, en, hy, hz, ← hN, Zbb] | apply And.intro | omega | decide +kernel
    refine ⟨k + 2, ?_, eF [(fid 1 (k + 1), 79)] [(901, 81)] _ _ _ (by refine ⟨?_, ?_⟩ <;> (repeat' first | exact fmn | refine fmc ⟨(by first | rfl | (simp (disch := omega) only [go_sem, simprocAttr, inL, List.map_replicate, List.length_replicate]; first | done | omega | (congr 1; done))), ?_⟩); done) ?_, ?_⟩
    ·omega
    ·repeat' first | exact fmn | refine fmc ⟨?_, ?_⟩
     all_goals refine ⟨_, (by first | rfl | (simp (disch := omega) only [go_sem, simprocAttr, List.map_replicate, List.length_replicate]; done) | (simp (disch := omega) only [go_sem, simprocAttr, List.map_replicate, List.length_replicate]; rfl)), fun i hi => ?_⟩
     all_goals dsimp only at hi ⊢
     all_goals rcases Decidable.em (i = k+1) with rfl | hi0
     all_goals try (exfalso; omega)
     all_goals try (simp (disch := omega) only [go_sem, simprocAttr, List.map_replicate, List.length_replicate, Zaw, Zav]; done)
     all_goals try (simp (disch := omega) only [go_sem, simprocAttr, List.map_replicate, List.length_replicate, hi0, Zaw, Zav]; done)
    ·omega
  ·cases k with
   | zero =>
    have hE0 : E = [] := by
     cases E with
     | nil => rfl
     | cons e E => have := hin2 e (by simp); omega
    subst hE0
    obtain rfl : N = 0 := by omega
    dsimp only
    repeat' first | refine Zad rfl ?_ | refine Zac ?_ | refine wR ?_ | (refine Zaa rfl rfl (fun hc => ?_) (fun hc => ?_) <;> try simp only [hcL] at hc) | (refine Zab _ rfl rfl (fun hc => ?_) (fun hc => ?_) <;> (try simp only [hcL] at hc) <;> try omega) | simp (disch := omega) only [go_sem, simprocAttr, List.append_eq, en, hy, hz, ← hN] | apply And.intro | omega | decide +kernel
    refine Zap (κ := Nat) (fun (u : Nat) => u = 0) (fun (u : Nat) => [(10, .ref 901 1 0 0 0), (7, .d (prsD [])), (12, .int u)]) (fun (u : Nat) => [(901, .row 1 [])]) (fun (u : Nat) => 0) 0 ?_ ?_ ?_
    ·rfl
    ·exact eL [] _ _ (by refine ⟨?_, ?_⟩ <;> (repeat' first | exact fmn | refine fmc ⟨(by first | rfl | (simp (disch := omega) only [go_sem, simprocAttr, inL]; first | done | omega | (congr 1; done))), ?_⟩); done)
    ·rintro u rfl
     repeat' first | refine Zad rfl ?_ | refine Zac ?_ | refine wR ?_ | (refine Zaa rfl rfl (fun hc => ?_) (fun hc => ?_) <;> try simp only [hcL] at hc) | (refine Zab _ rfl rfl (fun hc => ?_) (fun hc => ?_) <;> (try simp only [hcL] at hc) <;> try omega) | simp (disch := omega) only [go_sem, simprocAttr] | apply And.intro | omega | decide +kernel
     refine Zci (o := 901) rfl rfl (by simp) ?_
     simp [tabI]
   | succ k =>
    obtain rfl : N = k + 1 := by omega
    have hz0 : ∀ r, rowI (accO (fun e => e.2) (fun e => e.1) E 0) (k + 1) r = List.replicate (k + 1) 0 := fun r => by rw [accO_zero, rowI_zero]
    dsimp only
    repeat' first | refine Zad rfl ?_ | refine Zac ?_ | refine wR ?_ | (refine Zaa rfl rfl (fun hc => ?_) (fun hc => ?_) <;> try simp only [hcL] at hc) | (refine Zab _ rfl rfl (fun hc => ?_) (fun hc => ?_) <;> (try simp only [hcL] at hc) <;> try omega) | simp (disch := omega) only [go_sem, simprocAttr, List.append_eq, en, hy, hz, ← hN] | apply And.intro | omega | decide +kernel
    refine Zaq (κ := Nat) (fun (u : Nat) => u ≤ E.length) (fun (u : Nat) => [(7, .d (prsD E)), (8, .int 1), (9, .int 0), (10, .ref 901 1 0 (k + 1) (k + 1)), (12, .int u)]) (fun (u : Nat) => [⟨1, 901, 1, k + 1, fun r => (rowI (accO (fun e => e.2) (fun e => e.1) E u) (k + 1) r).map D.int⟩]) (fun (u : Nat) => []) (fun (u : Nat) => E.length - u) 0 ?_ ?_ ?_
    ·exact Nat.zero_le _
    ·refine eF [] [] _ _ _ (by refine ⟨?_, ?_⟩ <;> (repeat' first | exact fmn | refine fmc ⟨(by first | rfl | (simp (disch := omega) only [go_sem, simprocAttr, inL]; first | done | omega | (congr 1; done))), ?_⟩); done) ?_
     repeat' first | exact fmn | refine fmc ⟨?_, ?_⟩
     all_goals refine ⟨_, (by first | rfl | (simp (disch := omega) only [go_sem, simprocAttr, hz0, List.map_replicate, List.length_replicate]; done) | (simp (disch := omega) only [go_sem, simprocAttr, hz0, List.map_replicate, List.length_replicate]; rfl)), fun i hi => ?_⟩
     all_goals dsimp only at hi ⊢
     all_goals try (exfalso; omega)
     all_goals try (simp (disch := omega) only [go_sem, simprocAttr, hz0, List.map_replicate, List.length_replicate, Zaw, Zav]; done)
    ·intro u hu
     rcases Nat.lt_or_ge u E.length with hlu | hgu
     ·obtain ⟨p, hp⟩ := Zan hlu
      have hpi := hin2 p (List.mem_of_getElem? hp)
      obtain ⟨A0, hA0⟩ : ∃ A0 : Nat, p.2 = A0 := ⟨(p.2).toNat, by omega⟩
      repeat' first | refine Zad rfl ?_ | refine Zac ?_ | refine wR ?_ | (refine Zaa rfl rfl (fun hc => ?_) (fun hc => ?_) <;> try simp only [hcL] at hc) | (refine Zab _ rfl rfl (fun hc => ?_) (fun hc => ?_) <;> (try simp only [hcL] at hc) <;> try omega) | simp (disch := omega) only [go_sem, simprocAttr, hp] | apply And.intro | omega | decide +kernel
      refine Zaq (κ := Nat) (fun (v : Nat) => v ≤ E.length) (fun (v : Nat) => [(7, .d (prsD E)), (8, .int 1), (9, .int 0), (10, .ref 901 1 0 (k + 1) (k + 1)), (12, .int u), (13, .int v)]) (fun (v : Nat) => [⟨1, 901, 1, k + 1, fun r => (rowI (accI (fun e => e.2) (fun e => e.1) E u p v) (k + 1) r).map D.int⟩]) (fun (v : Nat) => []) (fun (v : Nat) => E.length - v) 0 ?_ ?_ ?_
      ·exact Nat.zero_le _
      ·refine eF [] [] _ _ _ (by refine ⟨?_, ?_⟩ <;> (repeat' first | exact fmn | refine fmc ⟨(by first | rfl | (simp (disch := omega) only [go_sem, simprocAttr, inL]; first | done | omega | (congr 1; done))), ?_⟩); done) ?_
       repeat' first | exact fmn | refine fmc ⟨?_, ?_⟩
       all_goals refine ⟨_, (by first | rfl | (simp (disch := omega) only [go_sem, simprocAttr, accI_zero]; done) | (simp (disch := omega) only [go_sem, simprocAttr, accI_zero]; rfl)), fun i hi => ?_⟩
       all_goals dsimp only at hi ⊢
       all_goals try (exfalso; omega)
       all_goals try (simp (disch := omega) only [go_sem, simprocAttr, accI_zero, Zaw, Zav]; done)
      ·intro v hv
       rcases Nat.lt_or_ge v E.length with hlv | hgv
       ·obtain ⟨q, hq⟩ := Zan hlv
        have hqi := hin2 q (List.mem_of_getElem? hq)
        obtain ⟨B0, hB0⟩ : ∃ B0 : Nat, q.2 = B0 := ⟨(q.2).toNat, by omega⟩
        by_cases c1 : p.2 = q.2
        ·have hm := accI_miss (own := (fun e => e.2)) (oth := (fun e => e.1)) (u := u) (p := p) hq (fun h => h.1 c1)
         repeat' first | refine Zad rfl ?_ | refine Zac ?_ | refine wR ?_ | (refine Zaa rfl rfl (fun hc => ?_) (fun hc => ?_) <;> try simp only [hcL] at hc) | (refine Zab _ rfl rfl (fun hc => ?_) (fun hc => ?_) <;> (try simp only [hcL] at hc) <;> try omega) | simp (disch := omega) only [go_sem, simprocAttr, hp, hq, c1] | apply And.intro | omega | decide +kernel
         refine ⟨v + 1, ?_, eF [] [] _ _ _ (by refine ⟨?_, ?_⟩ <;> (repeat' first | exact fmn | refine fmc ⟨(by first | rfl | (simp (disch := omega) only [go_sem, simprocAttr, inL]; first | done | omega | (congr 1; done))), ?_⟩); done) ?_, ?_⟩
         ·omega
         ·repeat' first | exact fmn | refine fmc ⟨?_, ?_⟩
          all_goals refine ⟨_, (by first | rfl | (simp (disch := omega) only [go_sem, simprocAttr, hm]; done) | (simp (disch := omega) only [go_sem, simprocAttr, hm]; rfl)), fun i hi => ?_⟩
          all_goals dsimp only at hi ⊢
          all_goals try (exfalso; omega)
          all_goals try (simp (disch := omega) only [go_sem, simprocAttr, hm, Zaw, Zav]; done)
         ·omega
        ·by_cases c2 : q.1 < p.1
         ·have hb := accI_bound (own := (fun e => e.2)) (oth := (fun e => e.1)) (u := u) (v := v) (p := p) hE A0 B0
          obtain ⟨x, hx⟩ : ∃ x, accI (fun e => e.2) (fun e => e.1) E u p v A0 B0 = x := ⟨_, rfl⟩
          rw [hx] at hb
          have hg : (rowI (accI (fun e => e.2) (fun e => e.1) E u p v) (k + 1) A0)[B0]? = some x := by rw [rowI_get _ _ (by omega), hx]
          have hh := accI_hit (own := (fun e => e.2)) (oth := (fun e => e.1)) (u := u) (p := p) hq c1 c2 hA0 hB0
          have hst : (rowI (accI (fun e => e.2) (fun e => e.1) E u p v) (k + 1) A0).set B0 (x + 1) = rowI (accI (fun e => e.2) (fun e => e.1) E u p (v + 1)) (k + 1) A0 := rowI_set (by omega) fun B => by
           rw [hh]
           by_cases c : B = B0
           ·subst c; rw [if_pos ⟨rfl, rfl⟩, if_pos rfl, hx]
           ·rw [if_neg (fun h => c h.2), if_neg c]; omega
          have hot : ∀ r, r ≠ A0 → rowI (accI (fun e => e.2) (fun e => e.1) E u p (v + 1)) (k + 1) r = rowI (accI (fun e => e.2) (fun e => e.1) E u p v) (k + 1) r := fun r hr => rowI_congr _ _ fun B => by rw [hh, if_neg (fun h => hr h.1)]; omega
          have hfl : (rowI (accI (fun e => e.2) (fun e => e.1) E u p v) (k + 1) A0).length = k + 1 := rowI_len _ _ _
          rw [hA0, hB0] at c1
          have cA : A0 < k + 1 := by omega
          have cB : B0 < k + 1 := by omega
          refine Zbd _ (ent_bor _ _ [901] 901 A0 900 1 1 (k + 1) (by first | rfl | (simp (disch := omega) only [go_sem, simprocAttr]; done) | (simp (disch := omega) only [go_sem, simprocAttr]; rfl)) (by first | (simp (disch := omega) only [go_sem, simprocAttr]; done) | (simp (disch := omega) only [go_sem, simprocAttr]; rfl)) (by first | (simp (disch := omega) only [go_sem, simprocAttr]; done) | (simp (disch := omega) only [go_sem, simprocAttr]; rfl)) (fun i hi hne => by simp (disch := omega) only [go_sem, simprocAttr, hne]; (repeat' split) <;> exact .ref _ _ _ _ _ ⟨by simp (disch := omega) only [go_sem, simprocAttr, hne], by simp (disch := omega) only [go_sem, simprocAttr, hne]⟩) (by (repeat' first | refine ab_nil ?_ | exact ab_obOf (ids := [901]) rfl rfl (Nat.le_of_ble_eq_true rfl) | refine ab_hole ?_ | refine ab_row ?_ | refine ab_dead ?_ | refine ab_self ?_ | refine Zcv ?_ | refine ab_fam (by dsimp only; omega) (by dsimp only; omega) (by omega) (by omega) (Nat.le_of_ble_eq_true rfl) ?_); done) rfl rfl rfl) ?_
          repeat' first | refine Zad rfl ?_ | refine Zac ?_ | refine wR ?_ | (refine Zaa rfl rfl (fun hc => ?_) (fun hc => ?_) <;> try simp only [hcL] at hc) | (refine Zab _ rfl rfl (fun hc => ?_) (fun hc => ?_) <;> (try simp only [hcL] at hc) <;> try omega) | simp (disch := omega) only [go_sem, simprocAttr, hp, hq, hA0, hB0, c1, c2, hg, hfl] | apply And.intro | omega | decide +kernel
          refine ⟨v + 1, ?_, eF [(fid 1 A0, 900)] [] _ _ _ (by refine ⟨?_, ?_⟩ <;> (repeat' first | exact fmn | refine fmc ⟨(by first | rfl | (simp (disch := omega) only [go_sem, simprocAttr, inL]; first | done | omega | (congr 1; done))), ?_⟩); done) ?_, ?_⟩
          ·omega
          ·repeat' first | exact fmn | refine fmc ⟨?_, ?_⟩
           all_goals refine ⟨_, (by first | rfl | (simp (disch := omega) only [go_sem, simprocAttr, hst.symm, List.map_set, List.length_set, List.length_map, hfl, hot]; done) | (simp (disch := omega) only [go_sem, simprocAttr, hst.symm, List.map_set, List.length_set, List.length_map, hfl, hot]; rfl)), fun i hi => ?_⟩
           all_goals dsimp only at hi ⊢
           all_goals rcases Decidable.em (i = A0) with rfl | hi0
           all_goals try (exfalso; omega)
           all_goals try (simp (disch := omega) only [go_sem, simprocAttr, hst.symm, List.map_set, List.length_set, List.length_map, hfl, hot, Zaw, Zav]; done)
           all_goals try (simp (disch := omega) only [go_sem, simprocAttr, hst.symm, List.map_set, List.length_set, List.length_map, hfl, hot, hi0, Zaw, Zav]; done)
          ·omega
         ·have hm := accI_miss (own := (fun e => e.2)) (oth := (fun e => e.1)) (u := u) (p := p) hq (fun h => c2 h.2)
          repeat' first | refine Zad rfl ?_ | refine Zac ?_ | refine wR ?_ | (refine Zaa rfl rfl (fun hc => ?_) (fun hc => ?_) <;> try simp only [hcL] at hc) | (refine Zab _ rfl rfl (fun hc => ?_) (fun hc => ?_) <;> (try simp only [hcL] at hc) <;> try omega) | simp (disch := omega) only [go_sem, simprocAttr, hp, hq, c1, c2] | apply And.intro | omega | decide +kernel
          refine ⟨v + 1, ?_, eF [] [] _ _ _ (by refine ⟨?_, ?_⟩ <;> (repeat' first | exact fmn | refine fmc ⟨(by first | rfl | (simp (disch := omega) only [go_sem, simprocAttr, inL]; first | done | omega | (congr 1; done))), ?_⟩); done) ?_, ?_⟩
          ·omega
          ·repeat' first | exact fmn | refine fmc ⟨?_, ?_⟩
           all_goals refine ⟨_, (by first | rfl | (simp (disch := omega) only [go_sem, simprocAttr, hm]; done) | (simp (disch := omega) only [go_sem, simprocAttr, hm]; rfl)), fun i hi => ?_⟩
           all_goals dsimp only at hi ⊢
           all_goals try (exfalso; omega)
           all_goals try (simp (disch := omega) only [go_sem, simprocAttr, hm, Zaw, Zav]; done)
          ·omega
       ·have : v = E.length := by omega
        subst this
        have e1 := accO_succ (own := (fun e => e.2)) (oth := (fun e => e.1)) hp
        try dsimp only
        repeat' first | refine Zad rfl ?_ | refine Zac ?_ | refine wR ?_ | (refine Zaa rfl rfl (fun hc => ?_) (fun hc => ?_) <;> try simp only [hcL] at hc) | (refine Zab _ rfl rfl (fun hc => ?_) (fun hc => ?_) <;> (try simp only [hcL] at hc) <;> try omega) | simp (disch := omega) only [go_sem, simprocAttr] | apply And.intro | omega | decide +kernel
        refine ⟨u + 1, ?_, eF [] [] _ _ _ (by refine ⟨?_, ?_⟩ <;> (repeat' first | exact fmn | refine fmc ⟨(by first | rfl | (simp (disch := omega) only [go_sem, simprocAttr, inL]; first | done | omega | (congr 1; done))), ?_⟩); done) ?_, ?_⟩
        ·omega
        ·repeat' first | exact fmn | refine fmc ⟨?_, ?_⟩
         all_goals refine ⟨_, (by first | rfl | (simp (disch := omega) only [go_sem, simprocAttr, e1]; done) | (simp (disch := omega) only [go_sem, simprocAttr, e1]; rfl)), fun i hi => ?_⟩
         all_goals dsimp only at hi ⊢
         all_goals try (exfalso; omega)
         all_goals try (simp (disch := omega) only [go_sem, simprocAttr, e1, Zaw, Zav]; done)
        ·omega
     ·have : u = E.length := by omega
      subst this
      try dsimp only
      refine Zbd _ (Zcp _ _ _ _ ⟨Zba rfl, Zba rfl, (by (repeat' first | exact fmn | refine fmc ⟨⟨Nat.le_of_ble_eq_true rfl, Nat.le_of_ble_eq_true rfl, by dsimp only; omega⟩, ?_⟩); done)⟩ rfl [901] rfl rfl rfl rfl) ?_
      repeat' first | refine Zad rfl ?_ | refine Zac ?_ | refine wR ?_ | (refine Zaa rfl rfl (fun hc => ?_) (fun hc => ?_) <;> try simp only [hcL] at hc) | (refine Zab _ rfl rfl (fun hc => ?_) (fun hc => ?_) <;> (try simp only [hcL] at hc) <;> try omega) | simp (disch := omega) only [go_sem, simprocAttr] | apply And.intro | omega | decide +kernel
      refine Zci (o := 901) rfl rfl (by simp) ?_
      rw [List.take_of_length_le (by simp), tabI, List.map_map, ← List.range_succ]
      exact List.map_congr_left fun r hr => rfl
end Go.Proofs.YtldbcbclhpcofaaGreat
namespace Go.Proofs.YtldbcbclhpcofaaGreat
open Go Go.PS Go.Proofs
set_option maxRecDepth 100000
attribute [local irreducible] Zax wpG Zah Zai

theorem Near.tabD {a : Lv} {i : Nat} {y z : List Int} (h : Near a i y z) : Zau a i ((i : Int) + 1) = tabI (accO (fun e => e.1) (fun e => e.2) (Zbe y z a.2.2.1) (Zbe y z a.2.2.1).length) y.length := by
 have hl : (endsF a.2.1 a.2.2.1 i ((i : Int) + 1) y.length).length = y.length := by simp [endsF]
 rw [h.matD, matF, hl, tabI]
 refine List.map_congr_left fun u hu => ?_
 rw [rowI]
 refine List.map_congr_left fun v hv => ?_
 have hu := List.mem_range.1 hu
 have hv := List.mem_range.1 hv
 rw [← cellAt_mat (by omega) (by omega), ← h.matD, h.cellD hu hv, accO, List.take_length]
 split
 ·rename_i c
  rw [← W_zero (Zbe y z a.2.2.1) (Zbe y z a.2.2.1)]
  exact W_congr fun x _ w _ => (ind_zero fun h => h.2.2.1 (by omega)).symm
 ·rename_i c
  exact W_congr fun x _ w _ => ind_congr ⟨fun h => ⟨h.1, h.2.1, fun h2 => c (Int.ofNat_inj.1 (h.1.symm.trans ((show x.1 = w.1 from h2).trans h.2.1))), h.2.2⟩, fun h => ⟨h.1, h.2.1, h.2.2.2⟩⟩
theorem Near.tabU {a : Lv} {i : Nat} {y z : List Int} (h : Near a i y z) : Zau a ((i : Int) + 1) i = tabI (accO (fun e => e.2) (fun e => e.1) (Zbe y z a.2.2.1) (Zbe y z a.2.2.1).length) z.length := by
 have hl : (endsF a.2.1 a.2.2.1 ((i + 1 : Nat) : Int) i z.length).length = z.length := by simp [endsF]
 rw [h.matU, matF, hl, tabI]
 refine List.map_congr_left fun u hu => ?_
 rw [rowI]
 refine List.map_congr_left fun v hv => ?_
 have hu := List.mem_range.1 hu
 have hv := List.mem_range.1 hv
 rw [← cellAt_mat (by omega) (by omega), ← h.matU, h.cellU hu hv, accO, List.take_length]
 split
 ·rename_i c
  rw [← W_zero (Zbe y z a.2.2.1) (Zbe y z a.2.2.1)]
  exact W_congr fun x _ w _ => (ind_zero fun h => h.2.2.1 (by omega)).symm
 ·rename_i c
  exact W_congr fun x _ w _ => ind_congr ⟨fun h => ⟨h.1, h.2.1, fun h2 => c (Int.ofNat_inj.1 (h.1.symm.trans ((show x.2 = w.2 from h2).trans h.2.1))), h.2.2⟩, fun h => ⟨h.1, h.2.1, h.2.2.2⟩⟩
theorem rMat_no (a : Lv) (i f : Int) (hw : wide a) (hm : matOk a i f = false) : Zah Tryz.prog 30 [lvD a, .int i, .int f] (Zaj []) := by
 have h1 := Zbw a hw
 rw [← valid_same] at h1
 rw [matOk] at hm
 rcases c1 : Zay a with _ | _ <;> rw [c1] at h1 hm
 ·refine Zaf Tryz.func30 rfl (by decide +kernel) (Nat.le_of_ble_eq_true rfl) ?_
  intro hat B X w0
  repeat' first | refine Zad rfl ?_ | refine Zac ?_ | refine wR ?_ | (refine rc (h1) rfl ?_ ?_; (· first | rfl | simp (disch := omega) only [go_sem, simprocAttr, List.append_eq])) | (refine Zaa rfl rfl (fun hc => ?_) (fun hc => ?_) <;> try simp only [hcL] at hc) | (refine Zab _ rfl rfl (fun hc => ?_) (fun hc => ?_) <;> (try simp only [hcL] at hc) <;> try omega) | simp (disch := omega) only [go_sem, simprocAttr, List.append_eq] | apply And.intro | omega | decide +kernel
  exact Zcd rfl
 ·simp only [Bool.true_and, Bool.and_eq_false_iff, decide_eq_false_iff_not] at hm
  obtain ⟨t1, t2⟩ := Zcq c1
  obtain ⟨n, ls, ar, cs⟩ := a
  dsimp only at hm t1
  have hm2 : i < 0 ∨ ls.length ≤ i ∨ f < 0 ∨ ls.length ≤ f ∨ (¬ f = i - 1 ∧ ¬ f = i + 1) := by omega
  refine Zaf Tryz.func30 rfl (by decide +kernel) (Nat.le_of_ble_eq_true rfl) ?_
  intro hat B X w0
  have hl := Zbt 0 1 hat rfl rfl
  rw [List.length_map] at hl
  dsimp only at hl
  repeat' first | refine Zad rfl ?_ | refine Zac ?_ | refine wR ?_ | (refine rc (h1) rfl ?_ ?_; (· first | rfl | simp (disch := omega) only [go_sem, simprocAttr, List.append_eq])) | (refine Zaa rfl rfl (fun hc => ?_) (fun hc => ?_) <;> try simp only [hcL] at hc) | (refine Zab _ rfl rfl (fun hc => ?_) (fun hc => ?_) <;> (try simp only [hcL] at hc) <;> try omega) | simp (disch := omega) only [go_sem, simprocAttr, List.append_eq] | apply And.intro | omega | decide +kernel
  all_goals exact Zcd rfl
theorem rMatrix_spec (a : Lv) (i f : Int) (hw : wide a) : Zah Tryz.prog 30 [lvD a, .int i, .int f] (Zaj (Zau a i f)) := by
 rcases h : matOk a i f with _ | _
 ·rw [Zau, h, if_neg (by decide)]
  exact rMat_no a i f hw h
 ·simp only [matOk, Bool.and_eq_true, decide_eq_true_eq] at h
  obtain ⟨⟨⟨h1, h2⟩, h3⟩, h4⟩ := h
  rcases h4 with h4 | h4
  ·obtain ⟨k, rfl⟩ : ∃ n : Nat, f = n := ⟨f.toNat, by omega⟩
   obtain rfl : i = (k : Int) + 1 := by omega
   obtain ⟨y, z, hn⟩ := near_of h1 (i := k) (by omega)
   rw [hn.tabU]
   exact rMat_up a k y z hn hw
  ·obtain ⟨k, rfl⟩ : ∃ n : Nat, i = n := ⟨i.toNat, by omega⟩
   subst h4
   obtain ⟨y, z, hn⟩ := near_of h1 (i := k) (by omega)
   rw [hn.tabD]
   exact rMat_dn a k y z hn hw
end Go.Proofs.YtldbcbclhpcofaaGreat
namespace Go.Proofs.YtldbcbclhpcofaaGreat
open Go Go.PS Go.Proofs
open Go.Bd (sumC sumC_add sumC_zero sumC_hit)

theorem sumC_congr {c d : Nat → Nat → Int} : ∀ {l : List Nat}, l.Nodup → (∀ u, u ∈ l → ∀ v, v ∈ l → u ≠ v → c u v = d u v) → sumC c l = sumC d l
 | [], _, _ => rfl
 | u :: l, hn, h => by
  obtain ⟨h1, h2⟩ := List.nodup_cons.1 hn
  have e : l.map (c u) = l.map (d u) := List.map_congr_left fun v hv => h u (by simp) v (List.mem_cons_of_mem _ hv) fun he => h1 (he ▸ hv)
  rw [sumC, sumC, e, sumC_congr h2 fun u hu v hv => h u (List.mem_cons_of_mem _ hu) v (List.mem_cons_of_mem _ hv)]
theorem sumC_w1 (f : Nat → Nat → Pr → Int) (l : List Nat) : ∀ F : List Pr, sumC (fun u v => w1 (f u v) F) l = w1 (fun y => sumC (fun u v => f u v y) l) F
 | [] => by simp only [w1]; exact sumC_zero l
 | y :: F => by simp only [w1]; rw [sumC_add, sumC_w1 f l F]
theorem sumC_W (f : Nat → Nat → Pr → Pr → Int) (l : List Nat) (F : List Pr) : ∀ E : List Pr, sumC (fun u v => W (f u v) F E) l = W (fun x y => sumC (fun u v => f u v x y) l) F E
 | [] => by simp only [W]; exact sumC_zero l
 | x :: E => by simp only [W]; rw [sumC_add, sumC_w1, sumC_W f l F E]
theorem sumC_tab {own oth : Pr → Int} {P : List Pr} {o : List Nat} {c : Nat → Nat → Int} (hn : o.Nodup) (hin : ∀ e, e ∈ P → 0 ≤ own e ∧ (own e).toNat ∈ o)
  (hc : ∀ u, u ∈ o → ∀ v, v ∈ o → u ≠ v → c u v = W (fun x w => ind (own x = (u : Int) ∧ own w = (v : Int) ∧ oth w < oth x)) P P) :
  sumC c o = W (fun x w => ind (o.idxOf (own x).toNat < o.idxOf (own w).toNat ∧ oth w < oth x)) P P := by
 rw [sumC_congr hn hc, sumC_W]
 refine W_congr fun x hx w hw => ?_
 obtain ⟨x1, x2⟩ := hin x hx
 obtain ⟨y1, y2⟩ := hin w hw
 have e : ∀ u v : Nat, ind (own x = (u : Int) ∧ own w = (v : Int) ∧ oth w < oth x) = if u = (own x).toNat ∧ v = (own w).toNat then ind (oth w < oth x) else 0 := fun u v => by
  by_cases h : u = (own x).toNat ∧ v = (own w).toNat
  ·rw [if_pos h]
   exact ind_congr ⟨fun h2 => h2.2.2, fun h2 => ⟨by omega, by omega, h2⟩⟩
  ·rw [if_neg h]
   exact ind_zero fun h2 => h (by omega)
 have e2 : (fun u v : Nat => ind (own x = (u : Int) ∧ own w = (v : Int) ∧ oth w < oth x)) = fun u v => if u = (own x).toNat ∧ v = (own w).toNat then ind (oth w < oth x) else 0 := funext fun u => funext fun v => e u v
 rw [e2, sumC_hit _ _ _ o hn x2 y2]
 by_cases h : o.idxOf (own x).toNat < o.idxOf (own w).toNat
 ·rw [if_pos h]
  exact ind_congr ⟨fun h2 => ⟨h, h2⟩, fun h2 => h2.2⟩
 ·rw [if_neg h]
  exact (ind_zero fun h2 => h h2.1).symm
end Go.Proofs.YtldbcbclhpcofaaGreat
namespace Go.Proofs.YtldbcbclhpcofaaGreat
open Go Go.PS Go.Proofs
open Go.Bd (sumC Part full)

def Zbl (y : List Int) (o : List Nat) : List Int := o.map fun k => (y[k]?).getD 0
theorem permL_len (y : List Int) (o : List Nat) : (Zbl y o).length = o.length := by simp [Zbl]
theorem permL_at {y : List Int} {o : List Nat} {p : Nat} {v : Int} (hp : p ∈ o) (h : y[p]? = some v) : (Zbl y o)[o.idxOf p]? = some v := by
 have hl := List.idxOf_lt_length_iff.2 hp
 have hg : o[o.idxOf p]? = some p := by
  rw [List.getElem?_eq_getElem hl, List.getElem_idxOf]
 rw [Zbl, List.getElem?_map, hg, Option.map_some, h]; rfl
theorem permL_mem {y : List Int} {o : List Nat} (h : Part y.length 0 o) {v : Int} : v ∈ Zbl y o ↔ v ∈ y := by
 constructor
 ·intro hv
  obtain ⟨k, hk, rfl⟩ := List.mem_map.1 hv
  have := h.lt k hk
  rw [List.getElem?_eq_getElem this]
  exact List.getElem_mem this
 ·intro hv
  obtain ⟨p, hp⟩ := List.getElem?_of_mem hv
  have hlt := (List.getElem?_eq_some_iff.1 hp).1
  have := permL_at (full y.length h.nd h.lt (by have := h.len; omega) p hlt) hp
  exact List.mem_of_getElem? this
theorem permL_nodup {y : List Int} {o : List Nat} (hy : y.Nodup) (h : Part y.length 0 o) : (Zbl y o).Nodup := by
 refine List.pairwise_map.2 (h.nd.imp_of_mem fun {a b} ha hb hne he => hne ?_)
 have h1 := h.lt a ha
 have h2 := h.lt b hb
 rw [List.getElem?_eq_getElem h1, List.getElem?_eq_getElem h2] at he
 exact (List.getElem_inj hy).1 he
theorem permL_place {y : List Int} {o : List Nat} (hy : y.Nodup) (h : Part y.length 0 o) (v : Int) : placeF (Zbl y o) v = if 0 ≤ placeF y v then ((o.idxOf (placeF y v).toNat : Nat) : Int) else -1 := by
 by_cases hv : v ∈ y
 ·obtain ⟨p, hp⟩ := List.getElem?_of_mem hv
  have hlt := (List.getElem?_eq_some_iff.1 hp).1
  rw [placeF_at (permL_nodup hy h) (permL_at (full y.length h.nd h.lt (by have := h.len; omega) p hlt) hp), placeF_at hy hp, if_pos (by omega), Int.toNat_natCast]
 ·rw [placeF_no (fun h2 => hv ((permL_mem h).1 h2)), placeF_no hv, if_neg (by omega)]
theorem pairs_perm_up {y z : List Int} {o : List Nat} (hy : y.Nodup) (h : Part y.length 0 o) (ar : List Arc) : Zbe (Zbl y o) z ar = (Zbe y z ar).map fun e => (((o.idxOf e.1.toNat : Nat) : Int), e.2) := by
 rw [Zbe, Zbe, List.map_flatMap]
 congr 1
 funext x
 rw [pairOf, pairOf, permL_place hy h]
 by_cases c : 0 ≤ placeF y x.1
 ·rw [if_pos c]
  by_cases c2 : 0 ≤ placeF z x.2
  ·rw [if_pos ⟨by omega, c2⟩, if_pos ⟨c, c2⟩]; rfl
  ·rw [if_neg (fun h => c2 h.2), if_neg (fun h => c2 h.2)]; rfl
 ·rw [if_neg c, if_neg (fun h => by omega), if_neg (fun h => c h.1)]; rfl
theorem pairs_perm_dn {y z : List Int} {o : List Nat} (hz : z.Nodup) (h : Part z.length 0 o) (ar : List Arc) : Zbe y (Zbl z o) ar = (Zbe y z ar).map fun e => (e.1, ((o.idxOf e.2.toNat : Nat) : Int)) := by
 rw [Zbe, Zbe, List.map_flatMap]
 congr 1
 funext x
 rw [pairOf, pairOf, permL_place hz h]
 by_cases c : 0 ≤ placeF y x.1
 ·by_cases c2 : 0 ≤ placeF z x.2
  ·rw [if_pos c2, if_pos ⟨c, by omega⟩, if_pos ⟨c, c2⟩]; rfl
  ·rw [if_neg c2, if_neg (fun h => by omega), if_neg (fun h => c2 h.2)]; rfl
 ·rw [if_neg (fun h => c h.1), if_neg (fun h => c h.1)]; rfl
theorem Near.perm_up {a a' : Lv} {i : Nat} {y z : List Int} {o : List Nat} (h : Near a i y z) (h' : Near a' i (Zbl y o) z) (har : a'.2.2.1 = a.2.2.1) (ho : Part y.length 0 o) :
  Zbk a' i = sumC (fun u v => Zao (Zau a i ((i : Int) + 1)) u v) o := by
 have hy : y.Nodup := (List.pairwise_flatten.1 (Zcc h.ok)).1 y (List.mem_of_getElem? h.hy)
 have hin := h.ins
 rw [h'.between, Near.cr, har, pairs_perm_up hy ho, W_map]
 rw [sumC_tab (own := fun e => e.1) (oth := fun e => e.2) (P := Zbe y z a.2.2.1) ho.nd (fun e he => ⟨(hin e he).1, full y.length ho.nd ho.lt (by have := ho.len; omega) _ (by have := hin e he; omega)⟩)
  (fun u hu v hv hne => by rw [h.cellD (ho.lt u hu) (ho.lt v hv), if_neg hne])]
 exact W_congr fun x _ w _ => ind_congr ⟨fun h2 => ⟨by have := h2.1; dsimp only at this; omega, h2.2⟩, fun h2 => ⟨by have := h2.1; dsimp only; omega, h2.2⟩⟩
theorem Near.perm_dn {a a' : Lv} {i : Nat} {y z : List Int} {o : List Nat} (h : Near a i y z) (h' : Near a' i y (Zbl z o)) (har : a'.2.2.1 = a.2.2.1) (ho : Part z.length 0 o) :
  Zbk a' i = sumC (fun u v => Zao (Zau a ((i : Int) + 1) i) u v) o := by
 have hz : z.Nodup := (List.pairwise_flatten.1 (Zcc h.ok)).1 z (List.mem_of_getElem? h.hz)
 have hin := h.ins
 rw [h'.between, Near.cr, har, pairs_perm_dn hz ho, W_map, W_swap]
 rw [sumC_tab (own := fun e => e.2) (oth := fun e => e.1) (P := Zbe y z a.2.2.1) ho.nd (fun e he => ⟨(hin e he).2.2.1, full z.length ho.nd ho.lt (by have := ho.len; omega) _ (by have := hin e he; omega)⟩)
  (fun u hu v hv hne => by rw [h.cellU (ho.lt u hu) (ho.lt v hv), if_neg hne])]
 exact W_congr fun x _ w _ => ind_congr ⟨fun h2 => ⟨by have := h2.2; dsimp only at this; omega, h2.1⟩, fun h2 => ⟨h2.2, by have := h2.1; dsimp only; omega⟩⟩
end Go.Proofs.YtldbcbclhpcofaaGreat
namespace Go.Proofs.YtldbcbclhpcofaaGreat
open Go Go.PS Go.Proofs
open Go.Bd (sumC sumC_add sumC_zero Part full)

def putL (a : Lv) (i : Nat) (y : List Int) : Lv := (a.1, a.2.1.set i y, a.2.2.1, a.2.2.2)
theorem range_part (n : Nat) : Part n 0 (List.range n) := ⟨List.nodup_range, fun v hv => List.mem_range.1 hv, by simp⟩
theorem permL_range (y : List Int) : Zbl y (List.range y.length) = y := by
 refine List.ext_getElem? fun k => ?_
 rw [Zbl, List.getElem?_map]
 by_cases h : k < y.length
 ·rw [List.getElem?_range h, Option.map_some, List.getElem?_eq_getElem h]; rfl
 ·rw [List.getElem?_eq_none (by simpa using h), List.getElem?_eq_none (by omega)]; rfl
def bothC (a : Lv) (i : Nat) (u v : Nat) : Int := Zao (Zau a i ((i : Int) - 1)) u v + Zao (Zau a i ((i : Int) + 1)) u v
theorem sumZ_two {f g : Nat → Int} (i : Nat) (h : ∀ j, j ≠ i → j + 1 ≠ i → f j = g j) : ∀ n, sumZ f n = sumZ g n + (if i < n then f i - g i else 0) + (if 0 < i ∧ i ≤ n then f (i - 1) - g (i - 1) else 0)
 | 0 => by simp only [sumZ]; rw [if_neg (by omega), if_neg (by omega)]; rfl
 | n + 1 => by
  rw [sumZ, sumZ, sumZ_two i h n]
  by_cases c1 : n = i
  ·subst c1
   (repeat' split) <;> omega
  ·by_cases c2 : n + 1 = i
   ·subst c2
    simp only [Nat.add_sub_cancel]
    (repeat' split) <;> omega
   ·rw [h n c1 c2]
    (repeat' split) <;> omega
theorem between_out {a : Lv} {j : Nat} (h : ¬ j + 1 < a.2.1.length) : Zbk a j = 0 := by
 rw [Zbk, if_pos (by simp only [noPair, decide_eq_true_eq]; omega)]
theorem put_total {a : Lv} {i : Nat} {y : List Int} {o : List Nat} (hv : Zay a = true) (hv' : Zay (putL a i (Zbl y o)) = true) (hy : a.2.1[i]? = some y) (ho : Part y.length 0 o) :
  Zbg (putL a i (Zbl y o)) - Zbg a = sumC (bothC a i) o - sumC (bothC a i) (List.range y.length) := by
 have hil := (List.getElem?_eq_some_iff.1 hy).1
 have hlen : (putL a i (Zbl y o)).2.1.length = a.2.1.length := List.length_set
 have hget : ∀ j, j ≠ i → (putL a i (Zbl y o)).2.1[j]? = a.2.1[j]? := fun j hj => List.getElem?_set_ne (Ne.symm hj)
 have hget2 : (putL a i (Zbl y o)).2.1[i]? = some (Zbl y o) := List.getElem?_set_self hil
 have hrp := range_part y.length
 have hpr := permL_range y
 -- elsewhere nothing changes
 have he : ∀ j : Nat, j ≠ i → j + 1 ≠ i → Zbk (putL a i (Zbl y o)) j = Zbk a j := fun j h1 h2 => by
  by_cases c : j + 1 < a.2.1.length
  ·obtain ⟨p, q, hn⟩ := near_of hv c
   have hn' : Near (putL a i (Zbl y o)) j p q := ⟨hv', (hget j h1).trans hn.hy, (hget (j + 1) h2).trans hn.hz⟩
   rw [hn.between, hn'.between]; rfl
  ·rw [between_out c, between_out (by rw [hlen]; exact c)]
 have hup : Zbk (putL a i (Zbl y o)) i - Zbk a i = sumC (Zao (Zau a i ((i : Int) + 1))) o - sumC (Zao (Zau a i ((i : Int) + 1))) (List.range y.length) := by
  by_cases c : i + 1 < a.2.1.length
  ·obtain ⟨p, z, hn⟩ := near_of hv c
   obtain rfl : p = y := by have := hn.hy; rw [hy] at this; cases this; rfl
   have hn' : Near (putL a i (Zbl p o)) i (Zbl p o) z := ⟨hv', hget2, (hget (i + 1) (by omega)).trans hn.hz⟩
   have hn0 : Near a i (Zbl p (List.range p.length)) z := by rw [hpr]; exact hn
   rw [hn.perm_up hn' rfl ho, hn.perm_up hn0 rfl hrp]
  ·have hm : Zau a i ((i : Int) + 1) = [] := by
    rw [Zau, if_neg]
    intro hh
    simp only [matOk, Bool.and_eq_true, decide_eq_true_eq] at hh
    omega
   have hz : Zao (Zau a i ((i : Int) + 1)) = fun _ _ => 0 := by funext u v; rw [hm]; rfl
   rw [hz, sumC_zero, sumC_zero, between_out c, between_out (by rw [hlen]; exact c)]
 have hdn : (if 0 < i ∧ i ≤ a.2.1.length then Zbk (putL a i (Zbl y o)) ((i - 1 : Nat) : Int) - Zbk a ((i - 1 : Nat) : Int) else 0) =
   sumC (Zao (Zau a i ((i : Int) - 1))) o - sumC (Zao (Zau a i ((i : Int) - 1))) (List.range y.length) := by
  by_cases c : 0 < i
  ·obtain ⟨k, rfl⟩ : ∃ k, i = k + 1 := ⟨i - 1, by omega⟩
   rw [if_pos ⟨c, by omega⟩, Nat.add_sub_cancel, show ((k + 1 : Nat) : Int) - 1 = (k : Int) by omega, show ((k + 1 : Nat) : Int) = (k : Int) + 1 by omega]
   obtain ⟨x, p, hn⟩ := near_of hv (i := k) (by omega)
   obtain rfl : p = y := by have := hn.hz; rw [hy] at this; cases this; rfl
   have hn' : Near (putL a (k + 1) (Zbl p o)) k x (Zbl p o) := ⟨hv', (hget k (by omega)).trans hn.hy, hget2⟩
   have hn0 : Near a k x (Zbl p (List.range p.length)) := by rw [hpr]; exact hn
   rw [hn.perm_dn hn' rfl ho, hn.perm_dn hn0 rfl hrp]
  ·obtain rfl : i = 0 := by omega
   have hm : Zau a ((0 : Nat) : Int) (((0 : Nat) : Int) - 1) = [] := by
    rw [Zau, if_neg]
    intro hh
    simp only [matOk, Bool.and_eq_true, decide_eq_true_eq] at hh
    omega
   have hz : Zao (Zau a ((0 : Nat) : Int) (((0 : Nat) : Int) - 1)) = fun _ _ => 0 := by funext u v; rw [hm]; rfl
   rw [hz, sumC_zero, sumC_zero, if_neg (by omega)]; rfl
 have hb : bothC a i = fun u v => Zao (Zau a i ((i : Int) - 1)) u v + Zao (Zau a i ((i : Int) + 1)) u v := rfl
 rw [Zbg, Zbg, hlen, sumZ_two i he a.2.1.length, if_pos hil, hdn, hup, hb, sumC_add, sumC_add]
 omega
end Go.Proofs.YtldbcbclhpcofaaGreat
namespace Go.Proofs.YtldbcbclhpcofaaGreat
open Go Go.PS Go.Proofs
set_option maxRecDepth 100000
theorem cells_int {n : Nat} {cs : List D} (h : Zca Tryz.prog (n + 1) 3 cs) : ∃ m : Int, cs = [.int m] := by
 have hu : Tryz.prog.underlying 3 = some (.int .i64) := by kernel_rfl
 simp only [Zca, hu] at h
 obtain ⟨m, rfl, _⟩ := h
 exact ⟨m, rfl⟩
theorem arg_int {x : D} (h : ArgOk Tryz.prog 3 x) : ∃ m : Int, x = .int m := by
 obtain ⟨cs, h, rfl⟩ := h
 obtain ⟨m, rfl⟩ := cells_int h
 rw [ty3]
 exact ⟨m, rfl⟩
theorem cells_arc {n : Nat} {cs : List D} (h : Zca Tryz.prog (n + 2) 44 cs) : ∃ p : Arc, cs = [.int p.1, .int p.2] := by
 have h := cells_struct (ts := [3, 3]) (by kernel_rfl) h
 obtain ⟨p, r, rfl, hp, q, r', rfl, hq, rfl⟩ := h
 obtain ⟨a, rfl⟩ := cells_int hp
 obtain ⟨b, rfl⟩ := cells_int hq
 exact ⟨(a, b), rfl⟩
theorem cells_arcs {n : Nat} {cs : List D} (h : Zca Tryz.prog (n + 3) 23 cs) : ∃ l : List Arc, cs = [Zal l] := by
 obtain ⟨l, rfl, hl⟩ := cells_slice (e := 44) (by kernel_rfl) h
 obtain ⟨ys, rfl⟩ := map_of (f := arcD) (l := l) (fun d hd => by
  obtain ⟨es, rfl, _, he⟩ := hl d hd
  obtain ⟨p, rfl⟩ := cells_arc he
  rw [ty44]; exact ⟨p, rfl⟩)
 exact ⟨ys, rfl⟩
theorem cells_ints {n : Nat} {cs : List D} (h : Zca Tryz.prog (n + 2) 37 cs) : ∃ l : List Int, cs = [Zak l] ∧ l.length * 8 ≤ 140737488351232 := by
 obtain ⟨l, rfl, hb, hl⟩ := cells_sliceS (e := 3) (by kernel_rfl) h
 obtain ⟨ys, rfl⟩ := map_of (f := D.int) (l := l) (fun d hd => by
  obtain ⟨es, rfl, _, he⟩ := hl d hd
  obtain ⟨p, rfl⟩ := cells_int he
  rw [ty3]; exact ⟨p, rfl⟩)
 refine ⟨ys, rfl, ?_⟩
 have hb3 : Tryz.prog.bytesOf 3 = 8 := by kernel_rfl
 rw [hb3, List.length_map] at hb
 exact hb
theorem map_of2 {α : Type} {f : α → D} {p : α → Prop} : ∀ {l : List D}, (∀ d ∈ l, ∃ a, d = f a ∧ p a) → ∃ ys : List α, l = ys.map f ∧ ∀ y ∈ ys, p y
 | [], _ => ⟨[], rfl, fun y hy => by cases hy⟩
 | d :: l, h => by
  obtain ⟨a, rfl, ha⟩ := h d (by simp)
  obtain ⟨ys, rfl, hy⟩ := map_of2 (l := l) (fun e he => h e (List.mem_cons_of_mem _ he))
  refine ⟨a :: ys, rfl, fun y hy2 => ?_⟩
  rcases List.mem_cons.1 hy2 with rfl | hy2
  ·exact ha
  ·exact hy y hy2
theorem cells_lists {n : Nat} {cs : List D} (h : Zca Tryz.prog (n + 3) 22 cs) : ∃ l : List (List Int), cs = [Zaj l] ∧ ∀ y ∈ l, y.length * 8 ≤ 140737488351232 := by
 obtain ⟨l, rfl, hl⟩ := cells_slice (e := 37) (by kernel_rfl) h
 obtain ⟨ys, rfl, hy⟩ := map_of2 (f := Zak) (p := fun y => y.length * 8 ≤ 140737488351232) (l := l) (fun d hd => by
  obtain ⟨es, rfl, _, he⟩ := hl d hd
  obtain ⟨p, rfl, hp⟩ := cells_ints he
  rw [ty37]; exact ⟨p, rfl, hp⟩)
 exact ⟨ys, rfl, hy⟩
theorem arg_lv {x : D} (h : ArgOk Tryz.prog 25 x) : ∃ a : {a : Lv // wide a}, x = lvD a.1 := by
 obtain ⟨cs, h, rfl⟩ := h
 have h := cells_struct (ts := [3, 22, 23, 22]) (by kernel_rfl) h
 obtain ⟨_, _, rfl, h1, _, _, rfl, h2, _, _, rfl, h3, _, _, rfl, h4, rfl⟩ := h
 obtain ⟨a, rfl⟩ := cells_int h1
 obtain ⟨b, rfl, hb⟩ := cells_lists h2
 obtain ⟨c, rfl⟩ := cells_arcs h3
 obtain ⟨d, rfl, _⟩ := cells_lists h4
 rw [ty25]
 exact ⟨⟨(a, b, c, d), hb⟩, rfl⟩
end Go.Proofs.YtldbcbclhpcofaaGreat
namespace Go.Proofs.YtldbcbclhpcofaaGreat
open Go Go.PS Go.Proofs
open Go.Bd (sm sumC Small)
set_option maxRecDepth 100000
attribute [local irreducible] Zax wpG Zah Zai

abbrev natD (v : Nat) : D := .int (v : Int)
abbrev Zam (l : List Nat) : D := .sl (l.map natD)
theorem nats_ints (l : List Nat) : Zam l = Zak (l.map fun v : Nat => (v : Int)) := by rw [Zam, Zak, List.map_map]; rfl
theorem nat_cells (l : List Nat) : ∀ d, d ∈ l.map natD → d.cells.length = 1 := cells_map natD 1 (fun _ => rfl) l
theorem nat_one (v : Nat) : ∀ d, d ∈ [natD v] → d.cells.length = 1 := fun d hd => by rw [List.mem_singleton.1 hd]; rfl
theorem mem_nats {l : List Nat} {v : Nat} : (v : Int) ∈ l.map (fun v : Nat => (v : Int)) ↔ v ∈ l := by
 simp [List.mem_map, Int.ofNat_inj]
theorem placeF_mem (l : List Int) (v : Int) : decide (0 ≤ placeF l v) = decide (v ∈ l) := by
 rw [placeF_iff, Bool.eq_iff_iff, List.any_eq_true]
 simp
theorem containsI_spec (l : List Int) (v : Int) : Zah Tryz.prog 85 [Zak l, .int v] (.bool (decide (v ∈ l))) := by
 have h := index_spec l v
 rw [← placeF_mem]
 refine Zaf Tryz.func85 rfl (by decide +kernel) (Nat.le_of_ble_eq_true rfl) ?_
 intro hat B X w0
 repeat' first | refine Zad rfl ?_ | refine Zac ?_ | refine wR ?_ | (refine rc (h) rfl ?_ ?_; (· first | rfl | simp (disch := omega) only [go_sem, simprocAttr])) | (refine Zaa rfl rfl (fun hc => ?_) (fun hc => ?_) <;> try simp only [hcL] at hc) | (refine Zab _ rfl rfl (fun hc => ?_) (fun hc => ?_) <;> (try simp only [hcL] at hc) <;> try omega) | simp (disch := omega) only [go_sem, simprocAttr] | apply And.intro | omega | decide +kernel
 exact Zas rfl
theorem containsN_spec (l : List Nat) (v : Nat) : Zah Tryz.prog 85 [Zam l, .int v] (.bool (decide (v ∈ l))) := by
 have h := containsI_spec (l.map fun v : Nat => (v : Int)) v
 rw [← nats_ints, decide_eq_decide.2 mem_nats] at h
 exact h
theorem in_spec (l : List Int) (v : Int) : Zah Tryz.prog 89 [Zak l, .int v] (.bool (decide (v ∈ l))) := by
 refine Zaf Tryz.func89 rfl (by decide +kernel) (Nat.le_of_ble_eq_true rfl) ?_
 intro hat B X w0
 have hl := at_len 0 hat rfl
 rw [List.length_map] at hl
 repeat' first | refine Zad rfl ?_ | refine Zac ?_ | refine wR ?_ | (refine Zaa rfl rfl (fun hc => ?_) (fun hc => ?_) <;> try simp only [hcL] at hc) | (refine Zab _ rfl rfl (fun hc => ?_) (fun hc => ?_) <;> (try simp only [hcL] at hc) <;> try omega) | simp (disch := omega) only [go_sem, simprocAttr] | apply And.intro | omega | decide +kernel
 refine Zap (κ := Nat) (fun (k : Nat) => k ≤ l.length ∧ ∀ (j : Nat) y, j < k → l[j]? = some y → y ≠ v) (fun (k : Nat) => [(0, .d (Zak l)), (1, .int v), (5, .int k)]) (fun (k : Nat) => []) (fun (k : Nat) => l.length - k) 0 ?_ ?_ ?_
 ·exact ⟨Nat.zero_le _, fun j y hj => by omega⟩
 ·exact eL [] _ _ (by refine ⟨?_, ?_⟩ <;> (repeat' first | exact fmn | refine fmc ⟨(by first | rfl | (simp (disch := omega) only [go_sem, simprocAttr, inL]; first | done | omega | (congr 1; done))), ?_⟩); done)
 ·rintro k ⟨hk, hinv⟩
  rcases Nat.lt_or_ge k l.length with hlt | hge
  ·obtain ⟨y, hy⟩ := Zan hlt
   by_cases c : y = v
   ·repeat' first | refine Zad rfl ?_ | refine Zac ?_ | refine wR ?_ | (refine Zaa rfl rfl (fun hc => ?_) (fun hc => ?_) <;> try simp only [hcL] at hc) | (refine Zab _ rfl rfl (fun hc => ?_) (fun hc => ?_) <;> (try simp only [hcL] at hc) <;> try omega) | simp (disch := omega) only [go_sem, simprocAttr, hy, c] | apply And.intro | omega | decide +kernel
    refine Zas ?_
    rw [decide_eq_true (c ▸ List.mem_of_getElem? hy)]
   ·repeat' first | refine Zad rfl ?_ | refine Zac ?_ | refine wR ?_ | (refine Zaa rfl rfl (fun hc => ?_) (fun hc => ?_) <;> try simp only [hcL] at hc) | (refine Zab _ rfl rfl (fun hc => ?_) (fun hc => ?_) <;> (try simp only [hcL] at hc) <;> try omega) | simp (disch := omega) only [go_sem, simprocAttr, hy, c] | apply And.intro | omega | decide +kernel
    refine ⟨k + 1, ?_, eL [] _ _ (by refine ⟨?_, ?_⟩ <;> (repeat' first | exact fmn | refine fmc ⟨(by first | rfl | (simp (disch := omega) only [go_sem, simprocAttr, inL]; first | done | omega | (congr 1; done))), ?_⟩); done), ?_⟩
    ·exact ⟨by omega, Zbr hinv hy c⟩
    ·omega
  ·repeat' first | refine Zad rfl ?_ | refine Zac ?_ | refine wR ?_ | (refine Zaa rfl rfl (fun hc => ?_) (fun hc => ?_) <;> try simp only [hcL] at hc) | (refine Zab _ rfl rfl (fun hc => ?_) (fun hc => ?_) <;> (try simp only [hcL] at hc) <;> try omega) | simp (disch := omega) only [go_sem, simprocAttr] | apply And.intro | omega | decide +kernel
   refine Zas ?_
   rw [decide_eq_false]
   intro hm
   obtain ⟨j, hj⟩ := List.getElem?_of_mem hm
   exact hinv j v (by have := (List.getElem?_eq_some_iff.1 hj).1; omega) hj rfl
theorem inN_spec (l : List Nat) (v : Nat) : Zah Tryz.prog 89 [Zam l, .int v] (.bool (decide (v ∈ l))) := by
 have h := in_spec (l.map fun v : Nat => (v : Int)) v
 rw [← nats_ints, decide_eq_decide.2 mem_nats] at h
 exact h
def badC (x : Int) : Bool := decide (x < 0) || decide (1000000 < x)
def badRow (n : Nat) (p : List Int) : Bool := decide (p.length ≠ n) || p.any badC
def okM (m : List (List Int)) : Bool := decide (m.length ≤ 8) && !m.any (badRow m.length)
theorem ok_sq {m : List (List Int)} (h : okM m = true) : Sq m ∧ m.length ≤ 8 := by
 simp only [okM, Bool.and_eq_true, decide_eq_true_eq, Bool.not_eq_true', List.any_eq_false] at h
 obtain ⟨h1, h2⟩ := h
 have hr : ∀ p, p ∈ m → p.length = m.length ∧ ∀ x, x ∈ p → 0 ≤ x ∧ x ≤ 1000000 := fun p hp => by
  have := h2 p hp
  simp only [badRow, Bool.or_eq_true, decide_eq_true_eq, not_or, Bool.not_eq_true, List.any_eq_false] at this
  refine ⟨by omega, fun x hx => ?_⟩
  have := this.2 x hx
  simp only [badC, Bool.or_eq_true, Bool.or_eq_false_iff, decide_eq_true_eq, decide_eq_false_iff_not, not_or] at this
  omega
 exact ⟨⟨by omega, fun p hp => (hr p hp).1, fun p hp => (hr p hp).2⟩, h1⟩
theorem sq_ok {m : List (List Int)} (h : Sq m) (h8 : m.length ≤ 8) : okM m = true := by
 simp only [okM, Bool.and_eq_true, decide_eq_true_eq, Bool.not_eq_true', List.any_eq_false]
 refine ⟨h8, fun p hp => ?_⟩
 simp only [badRow, Bool.or_eq_true, decide_eq_true_eq, not_or, Bool.not_eq_true, List.any_eq_false]
 refine ⟨fun hne => hne (h.row p hp), fun x hx => ?_⟩
 have := h.val p hp x hx
 simp only [badC, Bool.or_eq_true, Bool.or_eq_false_iff, decide_eq_true_eq, decide_eq_false_iff_not, not_or]
 omega
theorem Sq.small {m : List (List Int)} (h : Sq m) : Small (Zao m) m.length := fun u v hu hv => by
 obtain ⟨p, _, _, _, g1, g2⟩ := h.get hu hv
 exact ⟨g1, g2⟩
theorem bad1_spec (x : Int) : Zah Tryz.prog 84 [.int x] (.bool (badC x)) := by
 refine Zaf Tryz.func84 rfl (by decide +kernel) (Nat.le_of_ble_eq_true rfl) ?_
 intro hat B X w0
 repeat' first | refine Zad rfl ?_ | refine Zac ?_ | refine wR ?_ | (refine Zaa rfl rfl (fun hc => ?_) (fun hc => ?_) <;> try simp only [hcL] at hc) | (refine Zab _ rfl rfl (fun hc => ?_) (fun hc => ?_) <;> (try simp only [hcL] at hc) <;> try omega) | simp (disch := omega) only [go_sem, simprocAttr] | apply And.intro | omega | decide +kernel
 all_goals
  refine Zas ?_
  simp only [badC, *, decide_true, decide_false, Bool.true_or, Bool.or_true, Bool.false_or, Bool.or_false]
set_option maxHeartbeats 1000000 in
theorem bValid_spec (m : List (List Int)) : Zah Tryz.prog 50 [Zaj m] (.bool (okM m)) := by
 refine Zaf Tryz.func50 rfl (by decide +kernel) (Nat.le_of_ble_eq_true rfl) ?_
 intro hat B X w0
 have hl := at_len 0 hat rfl
 rw [List.length_map] at hl
 by_cases c8 : 8 < m.length
 ·repeat' first | refine Zad rfl ?_ | refine Zac ?_ | refine wR ?_ | (refine Zaa rfl rfl (fun hc => ?_) (fun hc => ?_) <;> try simp only [hcL] at hc) | (refine Zab _ rfl rfl (fun hc => ?_) (fun hc => ?_) <;> (try simp only [hcL] at hc) <;> try omega) | simp (disch := omega) only [go_sem, simprocAttr] | apply And.intro | omega | decide +kernel
  refine Zas ?_
  rw [okM, decide_eq_false (by omega)]; rfl
 ·repeat' first | refine Zad rfl ?_ | refine Zac ?_ | refine wR ?_ | (refine Zaa rfl rfl (fun hc => ?_) (fun hc => ?_) <;> try simp only [hcL] at hc) | (refine Zab _ rfl rfl (fun hc => ?_) (fun hc => ?_) <;> (try simp only [hcL] at hc) <;> try omega) | simp (disch := omega) only [go_sem, simprocAttr] | apply And.intro | omega | decide +kernel
  refine Zap (κ := Nat) (fun (k : Nat) => k ≤ m.length ∧ ∀ (j : Nat) y, j < k → m[j]? = some y → badRow m.length y = false) (fun (k : Nat) => [(0, .d (Zaj m)), (8, .d (Zaj m)), (9, .int m.length), (10, .int k)]) (fun (k : Nat) => []) (fun (k : Nat) => m.length - k) 0 ?_ ?_ ?_
  ·exact ⟨Nat.zero_le _, fun j y hj => by omega⟩
  ·exact eL [] _ _ (by refine ⟨?_, ?_⟩ <;> (repeat' first | exact fmn | refine fmc ⟨(by first | rfl | (simp (disch := omega) only [go_sem, simprocAttr, inL]; first | done | omega | (congr 1; done))), ?_⟩); done)
  ·rintro k ⟨hk, hinv⟩
   rcases Nat.lt_or_ge k m.length with hlt | hge
   ·obtain ⟨p, hp⟩ := Zan hlt
    have hcf := containsF_spec p 84 badC bad1_spec
    by_cases c : p.length = m.length
    ·have cI : (p.length : Int) = m.length := by omega
     rcases hb : p.any badC with _ | _ <;> rw [hb] at hcf
     ·repeat' first | refine Zad rfl ?_ | refine Zac ?_ | refine wR ?_ | (refine rc (hcf) rfl ?_ ?_; (· first | rfl | simp (disch := omega) only [go_sem, simprocAttr, hp, cI])) | (refine Zaa rfl rfl (fun hc => ?_) (fun hc => ?_) <;> try simp only [hcL] at hc) | (refine Zab _ rfl rfl (fun hc => ?_) (fun hc => ?_) <;> (try simp only [hcL] at hc) <;> try omega) | simp (disch := omega) only [go_sem, simprocAttr, hp, cI] | apply And.intro | omega | decide +kernel
      refine ⟨k + 1, ?_, eL [] _ _ (by refine ⟨?_, ?_⟩ <;> (repeat' first | exact fmn | refine fmc ⟨(by first | rfl | (simp (disch := omega) only [go_sem, simprocAttr, inL]; first | done | omega | (congr 1; done))), ?_⟩); done), ?_⟩
      ·exact ⟨by omega, Zbr hinv hp (by rw [badRow, hb, decide_eq_false (by omega)]; rfl)⟩
      ·omega
     ·repeat' first | refine Zad rfl ?_ | refine Zac ?_ | refine wR ?_ | (refine rc (hcf) rfl ?_ ?_; (· first | rfl | simp (disch := omega) only [go_sem, simprocAttr, hp, cI])) | (refine Zaa rfl rfl (fun hc => ?_) (fun hc => ?_) <;> try simp only [hcL] at hc) | (refine Zab _ rfl rfl (fun hc => ?_) (fun hc => ?_) <;> (try simp only [hcL] at hc) <;> try omega) | simp (disch := omega) only [go_sem, simprocAttr, hp, cI] | apply And.intro | omega | decide +kernel
      refine Zas ?_
      rw [okM, any_at hp (by rw [badRow, hb, Bool.or_true])]; simp
    ·have cI : ¬ (p.length : Int) = m.length := by omega
     repeat' first | refine Zad rfl ?_ | refine Zac ?_ | refine wR ?_ | (refine rc (hcf) rfl ?_ ?_; (· first | rfl | simp (disch := omega) only [go_sem, simprocAttr, hp, cI])) | (refine Zaa rfl rfl (fun hc => ?_) (fun hc => ?_) <;> try simp only [hcL] at hc) | (refine Zab _ rfl rfl (fun hc => ?_) (fun hc => ?_) <;> (try simp only [hcL] at hc) <;> try omega) | simp (disch := omega) only [go_sem, simprocAttr, hp, cI] | apply And.intro | omega | decide +kernel
     refine Zas ?_
     rw [okM, any_at hp (by rw [badRow, decide_eq_true c, Bool.true_or])]; simp
   ·repeat' first | refine Zad rfl ?_ | refine Zac ?_ | refine wR ?_ | (refine Zaa rfl rfl (fun hc => ?_) (fun hc => ?_) <;> try simp only [hcL] at hc) | (refine Zab _ rfl rfl (fun hc => ?_) (fun hc => ?_) <;> (try simp only [hcL] at hc) <;> try omega) | simp (disch := omega) only [go_sem, simprocAttr] | apply And.intro | omega | decide +kernel
    refine Zas ?_
    rw [okM, any_no fun j y hj => hinv j y (by omega), decide_eq_true (by omega)]; rfl
set_option maxHeartbeats 1000000 in
theorem rbValid_spec (m : List (List Int)) : Zah Tryz.prog 57 [Zaj m] (.bool (okM m)) := by
 refine Zaf Tryz.func57 rfl (by decide +kernel) (Nat.le_of_ble_eq_true rfl) ?_
 intro hat B X w0
 have hl := at_len 0 hat rfl
 rw [List.length_map] at hl
 by_cases c8 : 8 < m.length
 ·repeat' first | refine Zad rfl ?_ | refine Zac ?_ | refine wR ?_ | (refine Zaa rfl rfl (fun hc => ?_) (fun hc => ?_) <;> try simp only [hcL] at hc) | (refine Zab _ rfl rfl (fun hc => ?_) (fun hc => ?_) <;> (try simp only [hcL] at hc) <;> try omega) | simp (disch := omega) only [go_sem, simprocAttr] | apply And.intro | omega | decide +kernel
  refine Zas ?_
  rw [okM, decide_eq_false (by omega)]; rfl
 ·repeat' first | refine Zad rfl ?_ | refine Zac ?_ | refine wR ?_ | (refine Zaa rfl rfl (fun hc => ?_) (fun hc => ?_) <;> try simp only [hcL] at hc) | (refine Zab _ rfl rfl (fun hc => ?_) (fun hc => ?_) <;> (try simp only [hcL] at hc) <;> try omega) | simp (disch := omega) only [go_sem, simprocAttr] | apply And.intro | omega | decide +kernel
  refine Zap (κ := Nat) (fun (k : Nat) => k ≤ m.length ∧ ∀ (j : Nat) y, j < k → m[j]? = some y → badRow m.length y = false) (fun (k : Nat) => [(0, .d (Zaj m)), (3, .int k)]) (fun (k : Nat) => []) (fun (k : Nat) => m.length - k) 0 ?_ ?_ ?_
  ·exact ⟨Nat.zero_le _, fun j y hj => by omega⟩
  ·exact eL [] _ _ (by refine ⟨?_, ?_⟩ <;> (repeat' first | exact fmn | refine fmc ⟨(by first | rfl | (simp (disch := omega) only [go_sem, simprocAttr, inL]; first | done | omega | (congr 1; done))), ?_⟩); done)
  ·rintro k ⟨hk, hinv⟩
   rcases Nat.lt_or_ge k m.length with hlt | hge
   ·obtain ⟨p, hp⟩ := Zan hlt
    by_cases c : p.length = m.length
    ·have cI : (p.length : Int) = m.length := by omega
     repeat' first | refine Zad rfl ?_ | refine Zac ?_ | refine wR ?_ | (refine Zaa rfl rfl (fun hc => ?_) (fun hc => ?_) <;> try simp only [hcL] at hc) | (refine Zab _ rfl rfl (fun hc => ?_) (fun hc => ?_) <;> (try simp only [hcL] at hc) <;> try omega) | simp (disch := omega) only [go_sem, simprocAttr, hp, cI] | apply And.intro | omega | decide +kernel
     refine Zap (κ := Nat) (fun (i : Nat) => i ≤ m.length ∧ ∀ (j : Nat) y, j < i → p[j]? = some y → badC y = false) (fun (i : Nat) => [(0, .d (Zaj m)), (3, .int k), (4, .int i)]) (fun (i : Nat) => []) (fun (i : Nat) => m.length - i) 0 ?_ ?_ ?_
     ·exact ⟨Nat.zero_le _, fun j y hj => by omega⟩
     ·exact eL [] _ _ (by refine ⟨?_, ?_⟩ <;> (repeat' first | exact fmn | refine fmc ⟨(by first | rfl | (simp (disch := omega) only [go_sem, simprocAttr, inL]; first | done | omega | (congr 1; done))), ?_⟩); done)
     ·rintro i ⟨hi, hinv2⟩
      rcases Nat.lt_or_ge i m.length with hli | hgi
      ·obtain ⟨x, hx⟩ := Zan (l := p) (k := i) (by omega)
       by_cases d1 : x < 0
       ·repeat' first | refine Zad rfl ?_ | refine Zac ?_ | refine wR ?_ | (refine Zaa rfl rfl (fun hc => ?_) (fun hc => ?_) <;> try simp only [hcL] at hc) | (refine Zab _ rfl rfl (fun hc => ?_) (fun hc => ?_) <;> (try simp only [hcL] at hc) <;> try omega) | simp (disch := omega) only [go_sem, simprocAttr, hp, hx, d1] | apply And.intro | omega | decide +kernel
        refine Zas ?_
        rw [okM, any_at hp (by rw [badRow, any_at hx (by rw [badC, decide_eq_true d1]; rfl), Bool.or_true])]; simp
       ·by_cases d2 : 1000000 < x
        ·repeat' first | refine Zad rfl ?_ | refine Zac ?_ | refine wR ?_ | (refine Zaa rfl rfl (fun hc => ?_) (fun hc => ?_) <;> try simp only [hcL] at hc) | (refine Zab _ rfl rfl (fun hc => ?_) (fun hc => ?_) <;> (try simp only [hcL] at hc) <;> try omega) | simp (disch := omega) only [go_sem, simprocAttr, hp, hx, d1, d2] | apply And.intro | omega | decide +kernel
         refine Zas ?_
         rw [okM, any_at hp (by rw [badRow, any_at hx (by rw [badC, decide_eq_true d2, Bool.or_true]), Bool.or_true])]; simp
        ·repeat' first | refine Zad rfl ?_ | refine Zac ?_ | refine wR ?_ | (refine Zaa rfl rfl (fun hc => ?_) (fun hc => ?_) <;> try simp only [hcL] at hc) | (refine Zab _ rfl rfl (fun hc => ?_) (fun hc => ?_) <;> (try simp only [hcL] at hc) <;> try omega) | simp (disch := omega) only [go_sem, simprocAttr, hp, hx, d1, d2] | apply And.intro | omega | decide +kernel
         refine ⟨i + 1, ?_, eL [] _ _ (by refine ⟨?_, ?_⟩ <;> (repeat' first | exact fmn | refine fmc ⟨(by first | rfl | (simp (disch := omega) only [go_sem, simprocAttr, inL]; first | done | omega | (congr 1; done))), ?_⟩); done), ?_⟩
         ·exact ⟨by omega, Zbr hinv2 hx (by rw [badC, decide_eq_false d1, decide_eq_false d2]; rfl)⟩
         ·omega
      ·repeat' first | refine Zad rfl ?_ | refine Zac ?_ | refine wR ?_ | (refine Zaa rfl rfl (fun hc => ?_) (fun hc => ?_) <;> try simp only [hcL] at hc) | (refine Zab _ rfl rfl (fun hc => ?_) (fun hc => ?_) <;> (try simp only [hcL] at hc) <;> try omega) | simp (disch := omega) only [go_sem, simprocAttr] | apply And.intro | omega | decide +kernel
       refine ⟨k + 1, ?_, eL [] _ _ (by refine ⟨?_, ?_⟩ <;> (repeat' first | exact fmn | refine fmc ⟨(by first | rfl | (simp (disch := omega) only [go_sem, simprocAttr, inL]; first | done | omega | (congr 1; done))), ?_⟩); done), ?_⟩
       ·exact ⟨by omega, Zbr hinv hp (by rw [badRow, decide_eq_false (by omega), any_no fun j y hj => hinv2 j y (by omega)]; rfl)⟩
       ·omega
    ·have cI : ¬ (p.length : Int) = m.length := by omega
     repeat' first | refine Zad rfl ?_ | refine Zac ?_ | refine wR ?_ | (refine Zaa rfl rfl (fun hc => ?_) (fun hc => ?_) <;> try simp only [hcL] at hc) | (refine Zab _ rfl rfl (fun hc => ?_) (fun hc => ?_) <;> (try simp only [hcL] at hc) <;> try omega) | simp (disch := omega) only [go_sem, simprocAttr, hp, cI] | apply And.intro | omega | decide +kernel
     refine Zas ?_
     rw [okM, any_at hp (by rw [badRow, decide_eq_true c, Bool.true_or])]; simp
   ·repeat' first | refine Zad rfl ?_ | refine Zac ?_ | refine wR ?_ | (refine Zaa rfl rfl (fun hc => ?_) (fun hc => ?_) <;> try simp only [hcL] at hc) | (refine Zab _ rfl rfl (fun hc => ?_) (fun hc => ?_) <;> (try simp only [hcL] at hc) <;> try omega) | simp (disch := omega) only [go_sem, simprocAttr] | apply And.intro | omega | decide +kernel
    refine Zas ?_
    rw [okM, any_no fun j y hj => hinv j y (by omega), decide_eq_true (by omega)]; rfl
end Go.Proofs.YtldbcbclhpcofaaGreat
