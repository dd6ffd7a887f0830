/- Crossings: the matrix. -/
import Derived.Test.YtldbcbclhpcofaaGreatM
set_option linter.unusedSimpArgs false
set_option linter.unusedVariables false
namespace Go.Proofs.YtldbcbclhpcofaaGreat
open Go Go.PS Go.Proofs
set_option maxRecDepth 100000
attribute [local irreducible] Zax wpG Zah Zai

def under (q : List Int) (x : Int) : Nat := (q.filter fun y => decide (y < x)).length
def Zch : List Int → List Int → Nat
 | [], _ => 0
 | x :: p, q => under q x + Zch p q
theorem under_le (q : List Int) (x : Int) : under q x ≤ q.length := List.length_filter_le _ _
theorem under_snoc (q : List Int) (x y : Int) : under (q ++ [y]) x = under q x + if y < x then 1 else 0 := by
 rw [under, List.filter_append, List.length_append, ← under]
 by_cases h : y < x
 ·simp [h]
 ·simp [h]
theorem behindF_snoc (p q : List Int) (x : Int) : Zch (p ++ [x]) q = Zch p q + under q x := by
 induction p with
 | nil => simp [Zch]
 | cons y p ih => simp only [List.cons_append, Zch, ih]; omega
theorem behindF_le (p q : List Int) : Zch p q ≤ p.length * q.length := by
 induction p with
 | nil => simp [Zch]
 | cons y p ih =>
  have := under_le q y
  simp only [Zch, List.length_cons, Nat.add_mul]; omega
theorem behind_spec (p q : List Int) (hp : p.length ≤ 1000) (hq : q.length ≤ 1000) : Zah Tryz.prog 55 [Zak p, Zak q] (.int (Zch p q)) := by
 have hb : ∀ k, Zch (p.take k) q ≤ 1000 * 1000 := fun k => by
  refine Nat.le_trans (behindF_le _ _) (Nat.mul_le_mul ?_ hq)
  rw [List.length_take]; omega
 refine Zaf Tryz.func55 rfl (by decide +kernel) (Nat.le_of_ble_eq_true rfl) ?_
 intro hat B X w0
 repeat' first | refine Zad rfl ?_ | refine Zac ?_ | refine wR ?_ | (refine Zaa rfl rfl (fun hc => ?_) (fun hc => ?_) <;> try simp only [hcL] at hc) | (refine Zab _ rfl rfl (fun hc => ?_) (fun hc => ?_) <;> (try simp only [hcL] at hc) <;> try omega) | simp (disch := omega) only [go_sem, simprocAttr] | apply And.intro | omega | decide +kernel
 refine Zap (κ := Nat) (fun (i : Nat) => i ≤ p.length) (fun (i : Nat) => [(1, .d (Zak q)), (5, .int (Zch (p.take i) q)), (10, .d (Zak p)), (11, .int p.length), (12, .int i)]) (fun (i : Nat) => []) (fun (i : Nat) => p.length - i) 0 ?_ ?_ ?_
 ·exact Nat.zero_le _
 ·exact eL [] _ _ (by refine ⟨?_, ?_⟩ <;> (repeat' first | exact fmn | refine fmc ⟨(by first | rfl | (simp (disch := omega) only [go_sem, simprocAttr, inL, List.take_zero, Zch]; first | done | omega | (congr 1; done))), ?_⟩); done)
 ·intro i hi
  rcases Nat.lt_or_ge i p.length with hlt | hge
  ·obtain ⟨x, hx⟩ := Zan hlt
   have e1 : Zch (p.take (i + 1)) q = Zch (p.take i) q + under q x := by rw [Zat hx, behindF_snoc]
   have hb1 := hb i
   have hb2 := hb (i + 1)
   repeat' first | refine Zad rfl ?_ | refine Zac ?_ | refine wR ?_ | (refine Zaa rfl rfl (fun hc => ?_) (fun hc => ?_) <;> try simp only [hcL] at hc) | (refine Zab _ rfl rfl (fun hc => ?_) (fun hc => ?_) <;> (try simp only [hcL] at hc) <;> try omega) | simp (disch := omega) only [go_sem, simprocAttr, hx] | apply And.intro | omega | decide +kernel
   refine Zap (κ := Nat) (fun (j : Nat) => j ≤ q.length) (fun (j : Nat) => [(1, .d (Zak q)), (5, .int (Zch (p.take i) q + under (q.take j) x)), (7, .int x), (10, .d (Zak p)), (11, .int p.length), (12, .int i), (16, .d (Zak q)), (17, .int q.length), (18, .int j)]) (fun (j : Nat) => []) (fun (j : Nat) => q.length - j) 0 ?_ ?_ ?_
   ·exact Nat.zero_le _
   ·exact eL [] _ _ (by refine ⟨?_, ?_⟩ <;> (repeat' first | exact fmn | refine fmc ⟨(by first | rfl | (simp (disch := omega) only [go_sem, simprocAttr, inL, List.take_zero, under, List.filter_nil, List.length_nil, Int.add_zero]; first | done | omega | (congr 1; done))), ?_⟩); done)
   ·intro j hj
    rcases Nat.lt_or_ge j q.length with hlj | hgj
    ·obtain ⟨y, hy⟩ := Zan hlj
     have e2 : under (q.take (j + 1)) x = under (q.take j) x + if y < x then 1 else 0 := by rw [Zat hy, under_snoc]
     have hu := under_le (q.take j) x
     rw [List.length_take] at hu
     by_cases c : y < x
     ·rw [if_pos c] at e2
      repeat' first | refine Zad rfl ?_ | refine Zac ?_ | refine wR ?_ | (refine Zaa rfl rfl (fun hc => ?_) (fun hc => ?_) <;> try simp only [hcL] at hc) | (refine Zab _ rfl rfl (fun hc => ?_) (fun hc => ?_) <;> (try simp only [hcL] at hc) <;> try omega) | simp (disch := omega) only [go_sem, simprocAttr, hy, c] | apply And.intro | omega | decide +kernel
      refine ⟨j + 1, ?_, eL [] _ _ (by refine ⟨?_, ?_⟩ <;> (repeat' first | exact fmn | refine fmc ⟨(by first | rfl | (simp (disch := omega) only [go_sem, simprocAttr, inL, e2, Int.natCast_add, Int.natCast_one, Int.add_assoc]; first | done | omega | (congr 1; done))), ?_⟩); done), ?_⟩
      ·omega
      ·omega
     ·rw [if_neg c] at e2
      repeat' first | refine Zad rfl ?_ | refine Zac ?_ | refine wR ?_ | (refine Zaa rfl rfl (fun hc => ?_) (fun hc => ?_) <;> try simp only [hcL] at hc) | (refine Zab _ rfl rfl (fun hc => ?_) (fun hc => ?_) <;> (try simp only [hcL] at hc) <;> try omega) | simp (disch := omega) only [go_sem, simprocAttr, hy, c] | apply And.intro | omega | decide +kernel
      refine ⟨j + 1, ?_, eL [] _ _ (by refine ⟨?_, ?_⟩ <;> (repeat' first | exact fmn | refine fmc ⟨(by first | rfl | (simp (disch := omega) only [go_sem, simprocAttr, inL, e2, Nat.add_zero]; first | done | omega | (congr 1; done))), ?_⟩); done), ?_⟩
      ·omega
      ·omega
    ·have : j = q.length := by omega
     subst this
     try dsimp only
     rw [List.take_length]
     repeat' first | refine Zad rfl ?_ | refine Zac ?_ | refine wR ?_ | (refine Zaa rfl rfl (fun hc => ?_) (fun hc => ?_) <;> try simp only [hcL] at hc) | (refine Zab _ rfl rfl (fun hc => ?_) (fun hc => ?_) <;> (try simp only [hcL] at hc) <;> try omega) | simp (disch := omega) only [go_sem, simprocAttr] | apply And.intro | omega | decide +kernel
     refine ⟨i + 1, ?_, eL [] _ _ (by refine ⟨?_, ?_⟩ <;> (repeat' first | exact fmn | refine fmc ⟨(by first | rfl | (simp (disch := omega) only [go_sem, simprocAttr, inL, e1, Int.natCast_add]; first | done | omega | (congr 1; done))), ?_⟩); done), ?_⟩
     ·omega
     ·omega
  ·have : i = p.length := by omega
   subst this
   try dsimp only
   rw [List.take_length]
   repeat' first | refine Zad rfl ?_ | refine Zac ?_ | refine wR ?_ | (refine Zaa rfl rfl (fun hc => ?_) (fun hc => ?_) <;> try simp only [hcL] at hc) | (refine Zab _ rfl rfl (fun hc => ?_) (fun hc => ?_) <;> (try simp only [hcL] at hc) <;> try omega) | simp (disch := omega) only [go_sem, simprocAttr] | apply And.intro | omega | decide +kernel
   exact Zar rfl
theorem exists_spec (a : Lv) (i : Int) : Zah Tryz.prog 53 [lvD a, .int i] (.bool (decide (0 ≤ i ∧ i < a.2.1.length))) := by
 obtain ⟨n, ls, ar, cs⟩ := a
 refine Zaf Tryz.func53 rfl (by decide +kernel) (Nat.le_of_ble_eq_true rfl) ?_
 intro hat B X w0
 have hl := Zbt 0 1 hat rfl rfl
 rw [List.length_map] at hl
 dsimp only at hl
 by_cases c : 0 ≤ i
 ·repeat' first | refine Zad rfl ?_ | refine Zac ?_ | refine wR ?_ | (refine Zaa rfl rfl (fun hc => ?_) (fun hc => ?_) <;> try simp only [hcL] at hc) | (refine Zab _ rfl rfl (fun hc => ?_) (fun hc => ?_) <;> (try simp only [hcL] at hc) <;> try omega) | simp (disch := omega) only [go_sem, simprocAttr, c] | apply And.intro | omega | decide +kernel
  refine Zas ?_
  simp [c]
 ·repeat' first | refine Zad rfl ?_ | refine Zac ?_ | refine wR ?_ | (refine Zaa rfl rfl (fun hc => ?_) (fun hc => ?_) <;> try simp only [hcL] at hc) | (refine Zab _ rfl rfl (fun hc => ?_) (fun hc => ?_) <;> (try simp only [hcL] at hc) <;> try omega) | simp (disch := omega) only [go_sem, simprocAttr, c] | apply And.intro | omega | decide +kernel
  refine Zas ?_
  simp [c]
def lstN (l : List (List Int)) (k : Nat) : List Int := (l[k]?).getD []
def cellF (at_ : List (List Int)) (a b : Nat) : Int := if a = b then 0 else Zch (lstN at_ a) (lstN at_ b)
def matF (at_ : List (List Int)) : List (List Int) := (List.range at_.length).map fun a => (List.range at_.length).map fun b => cellF at_ a b
def matOk (a : Lv) (i f : Int) : Bool := Zay a && decide (0 ≤ i ∧ i < a.2.1.length) && decide (0 ≤ f ∧ f < a.2.1.length) && decide (f = i - 1 ∨ f = i + 1)
def lenAt (a : Lv) (i : Int) : Nat := ((a.2.1[i.toNat]?).getD []).length
def Zau (a : Lv) (i f : Int) : List (List Int) := if matOk a i f then matF (endsF a.2.1 a.2.2.1 i f (lenAt a i)) else []
def fillC (at_ : List (List Int)) (a k : Nat) : List Int := fillRow (fun b => cellF at_ a b) at_.length k
set_option maxHeartbeats 8000000 in
theorem Matrix_main (a : Lv) (i f : Nat) (hw : wide a) (hv : Zay a = true) (hi : i < a.2.1.length) (hf : f < a.2.1.length) (hif : (f : Int) = i - 1 ∨ (f : Int) = i + 1) :
  Zah Tryz.prog 27 [lvD a, .int i, .int f] (Zaj (matF (endsF a.2.1 a.2.2.1 i f (lenAt a i)))) := by
 have h1 := Zbx a hw
 rw [hv] at h1
 have h2 := exists_spec a i
 have h3 := exists_spec a f
 rw [decide_eq_true (by omega)] at h2 h3
 obtain ⟨y, hy⟩ := Zan hi
 have h4 := ends_spec a i f y hv hy
 have hla : lenAt a i = y.length := by rw [lenAt, Int.toNat_natCast, hy]; rfl
 rw [hla]
 obtain ⟨t1, t2⟩ := Zcq hv
 have hyl := Zbq (List.mem_of_getElem? hy)
 obtain ⟨s1, _, _⟩ := Zcu hv
 have hEl : (endsF a.2.1 a.2.2.1 i f y.length).length = y.length := by simp [endsF]
 have hEn : ∀ p ∈ endsF a.2.1 a.2.2.1 i f y.length, p.length ≤ 1000 := by
  intro p hp
  simp only [endsF, List.mem_map, List.mem_range] at hp
  obtain ⟨k, _, rfl⟩ := hp
  have := endsN_len a.2.1 a.2.2.1 i f k a.2.2.1.length
  omega
 generalize endsF a.2.1 a.2.2.1 i f y.length = E at *
 obtain ⟨N, hN⟩ : ∃ N, N = E.length := ⟨_, rfl⟩
 have hN5 : N ≤ 512 := by omega
 have hbh : ∀ (u v : Nat) p q, E[u]? = some p → E[v]? = some q → Zah Tryz.prog 55 [Zak p, Zak q] (.int (Zch p q)) := fun u v p q hu hv => behind_spec p q (hEn p (List.mem_of_getElem? hu)) (hEn q (List.mem_of_getElem? hv))
 obtain ⟨n, ls, ar, cs⟩ := a
 dsimp only at *
 refine Zaf Tryz.func27 rfl (by decide +kernel) (Nat.le_of_ble_eq_true rfl) ?_
 intro hat B X w0
 rcases hif with hif | hif
 all_goals
  repeat' first | refine Zad rfl ?_ | refine Zac ?_ | refine wR ?_ | (refine rc (h1) rfl ?_ ?_; (· first | rfl | simp (disch := omega) only [go_sem, simprocAttr, hif, List.append_eq, ← hN])) | (refine rc (h2) rfl ?_ ?_; (· first | rfl | simp (disch := omega) only [go_sem, simprocAttr, hif, List.append_eq, ← hN])) | (refine rc (h3) rfl ?_ ?_; (· first | rfl | simp (disch := omega) only [go_sem, simprocAttr, hif, List.append_eq, ← hN])) | (refine rc (h4) rfl ?_ ?_; (· first | rfl | simp (disch := omega) only [go_sem, simprocAttr, hif, List.append_eq, ← hN])) | (refine Zaa rfl rfl (fun hc => ?_) (fun hc => ?_) <;> try simp only [hcL] at hc) | (refine Zab _ rfl rfl (fun hc => ?_) (fun hc => ?_) <;> (try simp only [hcL] at hc) <;> try omega) | simp (disch := omega) only [go_sem, simprocAttr, hif, List.append_eq, ← hN] | apply And.intro | omega | decide +kernel
  refine Zbd _ (ent_famNew 1 44 1 N rfl (fun i hi => by simp (disch := omega) only [go_sem, simprocAttr, obOf_fid, argEnv]) (by decide) (by decide)) ?_
  refine Zaq (κ := Nat) (fun (u : Nat) => u ≤ N) (fun (u : Nat) => [(3, .ptr 3 0 0 0), (7, .d (Zaj E)), (8, .ref 44 1 0 N N), (46, .int N), (47, .int u)]) (fun (u : Nat) => [⟨1, 44, 1, N, fun k => if k < u then (fillC E k N).map D.int else []⟩]) (fun (u : Nat) => [(3, .cells [.int n, .d (Zaj ls), .d (Zal ar), .d (Zaj cs)])]) (fun (u : Nat) => N - u) 0 ?_ ?_ ?_
  ·exact Nat.zero_le _
  ·refine eF [] [] _ _ _ (by refine ⟨?_, ?_⟩ <;> (repeat' first | exact fmn | refine fmc ⟨(by first | rfl | (simp (disch := omega) only [go_sem, simprocAttr, inL, ← hN]; first | done | omega | (congr 1; done))), ?_⟩); done) ?_
   repeat' first | exact fmn | refine fmc ⟨?_, ?_⟩
   all_goals refine ⟨_, (by first | rfl | (simp (disch := omega) only [go_sem, simprocAttr, Nat.not_lt_zero]; done) | (simp (disch := omega) only [go_sem, simprocAttr, Nat.not_lt_zero]; rfl)), fun i hi => ?_⟩
   all_goals dsimp only at hi ⊢
   all_goals try (exfalso; omega)
   all_goals try (simp (disch := omega) only [go_sem, simprocAttr, Nat.not_lt_zero, Zaw, Zav]; done)
  ·intro u hu
   rcases Nat.lt_or_ge u N with hlt | hge
   ·obtain ⟨eu, heu⟩ := Zan (l := E) (k := u) (by omega)
    have hz : List.replicate N (D.int 0) = (fillC E u 0).map D.int := by rw [fillC, fillRow_zero, hN]
    have hnu : ¬ u < u := by omega
    refine Zbd _ (ent_bor _ _ [3, 44] 44 u 900 1 1 N (by first | rfl | (simp (disch := omega) only [go_sem, simprocAttr, hnu]; done) | (simp (disch := omega) only [go_sem, simprocAttr, hnu]; rfl)) (by first | (simp (disch := omega) only [go_sem, simprocAttr, hnu]; done) | (simp (disch := omega) only [go_sem, simprocAttr, hnu]; rfl)) (by first | (simp (disch := omega) only [go_sem, simprocAttr, hnu]; done) | (simp (disch := omega) only [go_sem, simprocAttr, hnu]; rfl)) (fun i hi hne => by simp (disch := omega) only [go_sem, simprocAttr, hne, hnu]; (repeat' split) <;> exact .ref _ _ _ _ _ ⟨by simp (disch := omega) only [go_sem, simprocAttr, hne, hnu], by simp (disch := omega) only [go_sem, simprocAttr, hne, hnu]⟩) (by (repeat' first | refine ab_nil ?_ | exact ab_obOf (ids := [3, 44]) rfl rfl (Nat.le_of_ble_eq_true rfl) | refine ab_hole ?_ | refine ab_row ?_ | refine ab_dead ?_ | refine ab_self ?_ | refine Zcv ?_ | refine ab_fam (by dsimp only; omega) (by dsimp only; omega) (by omega) (by omega) (Nat.le_of_ble_eq_true rfl) ?_); done) rfl rfl rfl) ?_
    repeat' first | refine Zad rfl ?_ | refine Zac ?_ | refine Zcx (Nat.beq 54) hmix ?_ | (refine Zaa rfl rfl (fun hc => ?_) (fun hc => ?_) <;> try simp only [hcL] at hc) | (refine Zab _ rfl rfl (fun hc => ?_) (fun hc => ?_) <;> (try simp only [hcL] at hc) <;> try omega) | simp (disch := omega) only [go_sem, simprocAttr, ← hN, hnu] | apply And.intro | omega | decide +kernel
    refine Zaq (κ := Nat) (fun (b : Nat) => b ≤ N) (fun (b : Nat) => [(3, .ptr 3 0 0 0), (7, .d (Zaj E)), (8, .ref 44 1 0 N N), (9, .int u), (46, .int N), (47, .int u), (57, .int N), (58, .int b)]) (fun (b : Nat) => [⟨1, 44, 1, N, fun k => if k < u then (fillC E k N).map D.int else if k = u then (fillC E u b).map D.int else []⟩]) (fun (b : Nat) => [(3, .cells [.int n, .d (Zaj ls), .d (Zal ar), .d (Zaj cs)])]) (fun (b : Nat) => N - b) 0 ?_ ?_ ?_
    ·exact Nat.zero_le _
    ·refine eF [(fid 1 u, 54)] [] _ _ _ (by refine ⟨?_, ?_⟩ <;> (repeat' first | exact fmn | refine fmc ⟨(by first | rfl | (simp (disch := omega) only [go_sem, simprocAttr, inL, ← hN]; first | done | omega | (congr 1; done))), ?_⟩); done) ?_
     repeat' first | exact fmn | refine fmc ⟨?_, ?_⟩
     all_goals refine ⟨_, (by first | rfl | (simp (disch := omega) only [go_sem, simprocAttr, hz, Zcw, fillC, List.length_map, ← hN, hnu]; done) | (simp (disch := omega) only [go_sem, simprocAttr, hz, Zcw, fillC, List.length_map, ← hN, hnu]; rfl)), fun i hi => ?_⟩
     all_goals dsimp only at hi ⊢
     all_goals rcases Decidable.em (i = u) with rfl | hi0
     all_goals try (exfalso; omega)
     all_goals try (simp (disch := omega) only [go_sem, simprocAttr, hz, Zcw, fillC, List.length_map, ← hN, hnu, Zaw, Zav]; done)
     all_goals try (simp (disch := omega) only [go_sem, simprocAttr, hz, Zcw, fillC, List.length_map, ← hN, hnu, hi0, Zaw, Zav]; done)
    ·intro b hb
     have hfl := Zcw (fun b => cellF E u b) E.length b
     rw [← hN] at hfl
     rcases Nat.lt_or_ge b N with hlb | hgb
     ·obtain ⟨eb, heb⟩ := Zan (l := E) (k := b) (by omega)
      have hg : (fillC E u b)[b]? = some 0 := by rw [fillC, fillRow_get (by omega), if_neg (by omega)]
      have hst : (fillC E u b).set b (cellF E u b) = fillC E u (b + 1) := fillRow_step (g := fun b => cellF E u b) (by omega)
      have hbe := hbh u b eu eb heu heb
      have hfl2 : (fillC E u b).length = N := by rw [fillC, Zcw, hN]
      by_cases c : u = b
      ·have hcell : cellF E u b = 0 := by rw [cellF, if_pos c]
       have hst2 : fillC E u (b + 1) = fillC E u b := by
        rw [← hst, hcell]
        refine List.ext_getElem? fun v => ?_
        rw [List.getElem?_set]
        split
        ·rename_i hv2; subst hv2; rw [hg, if_pos (by omega)]
        ·rfl
       have cI : (u : Int) = b := by omega
       repeat' first | refine Zad rfl ?_ | refine Zac ?_ | refine wR ?_ | (refine Zaa rfl rfl (fun hc => ?_) (fun hc => ?_) <;> try simp only [hcL] at hc) | (refine Zab _ rfl rfl (fun hc => ?_) (fun hc => ?_) <;> (try simp only [hcL] at hc) <;> try omega) | simp (disch := omega) only [go_sem, simprocAttr, ← hN, cI] | apply And.intro | omega | decide +kernel
       refine ⟨b + 1, ?_, eF [] [] _ _ _ (by refine ⟨?_, ?_⟩ <;> (repeat' first | exact fmn | refine fmc ⟨(by first | rfl | (simp (disch := omega) only [go_sem, simprocAttr, inL]; first | done | omega | (congr 1; done))), ?_⟩); done) ?_, ?_⟩
       ·omega
       ·repeat' first | exact fmn | refine fmc ⟨?_, ?_⟩
        all_goals refine ⟨_, (by first | rfl | (simp (disch := omega) only [go_sem, simprocAttr, hst2, hnu]; done) | (simp (disch := omega) only [go_sem, simprocAttr, hst2, hnu]; rfl)), fun i hi => ?_⟩
        all_goals dsimp only at hi ⊢
        all_goals rcases Decidable.em (i = u) with rfl | hi0
        all_goals try (exfalso; omega)
        all_goals try (simp (disch := omega) only [go_sem, simprocAttr, hst2, hnu, Zaw, Zav]; done)
        all_goals try (simp (disch := omega) only [go_sem, simprocAttr, hst2, hnu, hi0, Zaw, Zav]; done)
       ·omega
      ·have hcell : cellF E u b = Zch eu eb := by rw [cellF, if_neg c, lstN, lstN, heu, heb]; rfl
       have cI : ¬ (u : Int) = b := by omega
       rw [hcell] at hst
       refine Zbd _ (ent_bor _ _ [3, 44] 44 u 900 1 1 N (by first | rfl | (simp (disch := omega) only [go_sem, simprocAttr, hnu, hfl2]; done) | (simp (disch := omega) only [go_sem, simprocAttr, hnu, hfl2]; rfl)) (by first | (simp (disch := omega) only [go_sem, simprocAttr, hnu, hfl2]; done) | (simp (disch := omega) only [go_sem, simprocAttr, hnu, hfl2]; rfl)) (by first | (simp (disch := omega) only [go_sem, simprocAttr, hnu, hfl2]; done) | (simp (disch := omega) only [go_sem, simprocAttr, hnu, hfl2]; rfl)) (fun i hi hne => by simp (disch := omega) only [go_sem, simprocAttr, hne, hnu, hfl2]; (repeat' split) <;> exact .ref _ _ _ _ _ ⟨by simp (disch := omega) only [go_sem, simprocAttr, hne, hnu, hfl2], by simp (disch := omega) only [go_sem, simprocAttr, hne, hnu, hfl2]⟩) (by (repeat' first | refine ab_nil ?_ | exact ab_obOf (ids := [3, 44]) rfl rfl (Nat.le_of_ble_eq_true rfl) | refine ab_hole ?_ | refine ab_row ?_ | refine ab_dead ?_ | refine ab_self ?_ | refine Zcv ?_ | refine ab_fam (by dsimp only; omega) (by dsimp only; omega) (by omega) (by omega) (Nat.le_of_ble_eq_true rfl) ?_); done) rfl rfl rfl) ?_
       repeat' first | refine Zad rfl ?_ | refine Zac ?_ | refine wR ?_ | (refine rc (hbe) rfl ?_ ?_; (· first | rfl | simp (disch := omega) only [go_sem, simprocAttr, ← hN, cI, heu, heb, hg, hfl2, hnu])) | (refine Zaa rfl rfl (fun hc => ?_) (fun hc => ?_) <;> try simp only [hcL] at hc) | (refine Zab _ rfl rfl (fun hc => ?_) (fun hc => ?_) <;> (try simp only [hcL] at hc) <;> try omega) | simp (disch := omega) only [go_sem, simprocAttr, ← hN, cI, heu, heb, hg, hfl2, hnu] | apply And.intro | omega | decide +kernel
       refine ⟨b + 1, ?_, eF [(fid 1 u, 900)] [] _ _ _ (by refine ⟨?_, ?_⟩ <;> (repeat' first | exact fmn | refine fmc ⟨(by first | rfl | (simp (disch := omega) only [go_sem, simprocAttr, inL]; first | done | omega | (congr 1; done))), ?_⟩); done) ?_, ?_⟩
       ·omega
       ·repeat' first | exact fmn | refine fmc ⟨?_, ?_⟩
        all_goals refine ⟨_, (by first | rfl | (simp (disch := omega) only [go_sem, simprocAttr, hst.symm, List.map_set, List.length_set, List.length_map, hfl2, hnu]; done) | (simp (disch := omega) only [go_sem, simprocAttr, hst.symm, List.map_set, List.length_set, List.length_map, hfl2, hnu]; rfl)), fun i hi => ?_⟩
        all_goals dsimp only at hi ⊢
        all_goals rcases Decidable.em (i = u) with rfl | hi0
        all_goals try (exfalso; omega)
        all_goals try (simp (disch := omega) only [go_sem, simprocAttr, hst.symm, List.map_set, List.length_set, List.length_map, hfl2, hnu, Zaw, Zav]; done)
        all_goals try (simp (disch := omega) only [go_sem, simprocAttr, hst.symm, List.map_set, List.length_set, List.length_map, hfl2, hnu, hi0, Zaw, Zav]; done)
       ·omega
     ·have : b = N := by omega
      subst this
      have hsu : ∀ i, i ≠ u → ((i < u + 1) = (i < u)) := fun i h => propext (by omega)
      repeat' first | refine Zad rfl ?_ | refine Zac ?_ | refine wR ?_ | (refine Zaa rfl rfl (fun hc => ?_) (fun hc => ?_) <;> try simp only [hcL] at hc) | (refine Zab _ rfl rfl (fun hc => ?_) (fun hc => ?_) <;> (try simp only [hcL] at hc) <;> try omega) | simp (disch := omega) only [go_sem, simprocAttr] | apply And.intro | omega | decide +kernel
      refine ⟨u + 1, ?_, eF [] [] _ _ _ (by refine ⟨?_, ?_⟩ <;> (repeat' first | exact fmn | refine fmc ⟨(by first | rfl | (simp (disch := omega) only [go_sem, simprocAttr, inL]; first | done | omega | (congr 1; done))), ?_⟩); done) ?_, ?_⟩
      ·omega
      ·repeat' first | exact fmn | refine fmc ⟨?_, ?_⟩
       all_goals refine ⟨_, (by first | rfl | (simp (disch := omega) only [go_sem, simprocAttr, hnu, hsu, Nat.lt_add_one]; done) | (simp (disch := omega) only [go_sem, simprocAttr, hnu, hsu, Nat.lt_add_one]; rfl)), fun i hi => ?_⟩
       all_goals dsimp only at hi ⊢
       all_goals rcases Decidable.em (i = u) with rfl | hi0
       all_goals try (exfalso; omega)
       all_goals try (simp (disch := omega) only [go_sem, simprocAttr, hnu, hsu, Nat.lt_add_one, Zaw, Zav]; done)
       all_goals try (simp (disch := omega) only [go_sem, simprocAttr, hnu, hsu, Nat.lt_add_one, hi0, Zaw, Zav]; done)
      ·omega
   ·have : u = N := by omega
    subst this
    try dsimp only
    refine Zbd _ (Zcp _ _ _ _ ⟨Zba rfl, Zba rfl, (by (repeat' first | exact fmn | refine fmc ⟨⟨Nat.le_of_ble_eq_true rfl, Nat.le_of_ble_eq_true rfl, by dsimp only; omega⟩, ?_⟩); done)⟩ rfl [3, 44] rfl rfl rfl rfl) ?_
    repeat' first | refine Zad rfl ?_ | refine Zac ?_ | refine wR ?_ | (refine Zaa rfl rfl (fun hc => ?_) (fun hc => ?_) <;> try simp only [hcL] at hc) | (refine Zab _ rfl rfl (fun hc => ?_) (fun hc => ?_) <;> (try simp only [hcL] at hc) <;> try omega) | simp (disch := omega) only [go_sem, simprocAttr] | apply And.intro | omega | decide +kernel
    refine Zci (o := 44) rfl rfl (by simp) ?_
    rw [List.take_of_length_le (by simp), matF, ← hN, List.map_map]
    refine List.map_congr_left fun k hk => ?_
    rw [if_pos (List.mem_range.1 hk), fillC, ← hN, fillRow_end]
    rfl
end Go.Proofs.YtldbcbclhpcofaaGreat
namespace Go.Proofs.YtldbcbclhpcofaaGreat
open Go Go.PS Go.Proofs
set_option maxRecDepth 100000
attribute [local irreducible] Zax wpG Zah Zai

set_option maxHeartbeats 4000000 in
theorem Matrix_no (a : Lv) (i f : Int) (hw : wide a) (hm : matOk a i f = false) : Zah Tryz.prog 27 [lvD a, .int i, .int f] (Zaj []) := by
 have h1 := Zbx a hw
 have h2 := exists_spec a i
 have h3 := exists_spec a f
 rw [matOk] at hm
 rcases c1 : Zay a with _ | _ <;> rw [c1] at h1 hm
 ·refine Zaf Tryz.func27 rfl (by decide +kernel) (Nat.le_of_ble_eq_true rfl) ?_
  intro hat B X w0
  repeat' first | refine Zad rfl ?_ | refine Zac ?_ | refine wR ?_ | (refine rc (h1) rfl ?_ ?_; (· first | rfl | simp (disch := omega) only [go_sem, simprocAttr, List.append_eq])) | (refine Zaa rfl rfl (fun hc => ?_) (fun hc => ?_) <;> try simp only [hcL] at hc) | (refine Zab _ rfl rfl (fun hc => ?_) (fun hc => ?_) <;> (try simp only [hcL] at hc) <;> try omega) | simp (disch := omega) only [go_sem, simprocAttr, List.append_eq] | apply And.intro | omega | decide +kernel
  exact Zcd rfl
 ·by_cases c2 : 0 ≤ i ∧ i < a.2.1.length
  ·rw [decide_eq_true c2] at h2 hm
   by_cases c3 : 0 ≤ f ∧ f < a.2.1.length
   ·rw [decide_eq_true c3] at h3 hm
    have c4 : ¬ (f = i - 1 ∨ f = i + 1) := by simpa using hm
    have d1 : ¬ f = i - 1 := fun h => c4 (.inl h)
    have d2 : ¬ f = i + 1 := fun h => c4 (.inr h)
    obtain ⟨t1, t2⟩ := Zcq c1
    refine Zaf Tryz.func27 rfl (by decide +kernel) (Nat.le_of_ble_eq_true rfl) ?_
    intro hat B X w0
    repeat' first | refine Zad rfl ?_ | refine Zac ?_ | refine wR ?_ | (refine rc (h1) rfl ?_ ?_; (· first | rfl | simp (disch := omega) only [go_sem, simprocAttr, List.append_eq, d1, d2])) | (refine rc (h2) rfl ?_ ?_; (· first | rfl | simp (disch := omega) only [go_sem, simprocAttr, List.append_eq, d1, d2])) | (refine rc (h3) rfl ?_ ?_; (· first | rfl | simp (disch := omega) only [go_sem, simprocAttr, List.append_eq, d1, d2])) | (refine Zaa rfl rfl (fun hc => ?_) (fun hc => ?_) <;> try simp only [hcL] at hc) | (refine Zab _ rfl rfl (fun hc => ?_) (fun hc => ?_) <;> (try simp only [hcL] at hc) <;> try omega) | simp (disch := omega) only [go_sem, simprocAttr, List.append_eq, d1, d2] | apply And.intro | omega | decide +kernel
    exact Zcd rfl
   ·rw [decide_eq_false c3] at h3
    refine Zaf Tryz.func27 rfl (by decide +kernel) (Nat.le_of_ble_eq_true rfl) ?_
    intro hat B X w0
    repeat' first | refine Zad rfl ?_ | refine Zac ?_ | refine wR ?_ | (refine rc (h1) rfl ?_ ?_; (· first | rfl | simp (disch := omega) only [go_sem, simprocAttr, List.append_eq])) | (refine rc (h2) rfl ?_ ?_; (· first | rfl | simp (disch := omega) only [go_sem, simprocAttr, List.append_eq])) | (refine rc (h3) rfl ?_ ?_; (· first | rfl | simp (disch := omega) only [go_sem, simprocAttr, List.append_eq])) | (refine Zaa rfl rfl (fun hc => ?_) (fun hc => ?_) <;> try simp only [hcL] at hc) | (refine Zab _ rfl rfl (fun hc => ?_) (fun hc => ?_) <;> (try simp only [hcL] at hc) <;> try omega) | simp (disch := omega) only [go_sem, simprocAttr, List.append_eq] | apply And.intro | omega | decide +kernel
    exact Zcd rfl
  ·rw [decide_eq_false c2] at h2
   refine Zaf Tryz.func27 rfl (by decide +kernel) (Nat.le_of_ble_eq_true rfl) ?_
   intro hat B X w0
   repeat' first | refine Zad rfl ?_ | refine Zac ?_ | refine wR ?_ | (refine rc (h1) rfl ?_ ?_; (· first | rfl | simp (disch := omega) only [go_sem, simprocAttr, List.append_eq])) | (refine rc (h2) rfl ?_ ?_; (· first | rfl | simp (disch := omega) only [go_sem, simprocAttr, List.append_eq])) | (refine rc (h3) rfl ?_ ?_; (· first | rfl | simp (disch := omega) only [go_sem, simprocAttr, List.append_eq])) | (refine Zaa rfl rfl (fun hc => ?_) (fun hc => ?_) <;> try simp only [hcL] at hc) | (refine Zab _ rfl rfl (fun hc => ?_) (fun hc => ?_) <;> (try simp only [hcL] at hc) <;> try omega) | simp (disch := omega) only [go_sem, simprocAttr, List.append_eq] | apply And.intro | omega | decide +kernel
   exact Zcd rfl
theorem Matrix_spec (a : Lv) (i f : Int) (hw : wide a) : Zah Tryz.prog 27 [lvD a, .int i, .int f] (Zaj (Zau a i f)) := by
 rcases h : matOk a i f with _ | _
 ·rw [Zau, h, if_neg (by decide)]
  exact Matrix_no a i f hw h
 ·have e : Zau a i f = matF (endsF a.2.1 a.2.2.1 i f (lenAt a i)) := by rw [Zau, h, if_pos rfl]
  rw [e]
  simp only [matOk, Bool.and_eq_true, decide_eq_true_eq] at h
  obtain ⟨⟨⟨h1, h2⟩, h3⟩, h4⟩ := h
  obtain ⟨i, rfl⟩ : ∃ n : Nat, i = n := ⟨i.toNat, by omega⟩
  obtain ⟨f, rfl⟩ : ∃ n : Nat, f = n := ⟨f.toNat, by omega⟩
  exact Matrix_main a i f hw h1 (by omega) (by omega) h4
def sumZ (f : Nat → Int) : Nat → Int
 | 0 => 0
 | k + 1 => sumZ f k + f k
theorem sumZ_bound {f : Nat → Int} {c : Nat} : ∀ n, (∀ k, k < n → 0 ≤ f k ∧ f k ≤ c) → 0 ≤ sumZ f n ∧ sumZ f n ≤ ((n * c : Nat) : Int)
 | 0, _ => by simp [sumZ]
 | n + 1, h => by
  have ih := sumZ_bound n fun k hk => h k (by omega)
  have := h n (by omega)
  rw [sumZ, Nat.add_mul]; omega
theorem sumZ_congr {f g : Nat → Int} : ∀ n, (∀ k, k < n → f k = g k) → sumZ f n = sumZ g n
 | 0, _ => rfl
 | n + 1, h => by rw [sumZ, sumZ, sumZ_congr n fun k hk => h k (by omega), h n (by omega)]
def Zao (m : List (List Int)) (b a : Nat) : Int := at0 (lstN m b) a
def triF (m : List (List Int)) : Int := sumZ (fun a => sumZ (fun b => Zao m b a) a) m.length
structure Sq (m : List (List Int)) : Prop where
 len : m.length ≤ 600
 row : ∀ p, p ∈ m → p.length = m.length
 val : ∀ p, p ∈ m → ∀ x, x ∈ p → 0 ≤ x ∧ x ≤ 1000000
theorem Sq.get {m : List (List Int)} (h : Sq m) {b a : Nat} (hb : b < m.length) (ha : a < m.length) : ∃ p, m[b]? = some p ∧ p.length = m.length ∧ p[a]? = some (Zao m b a) ∧ 0 ≤ Zao m b a ∧ Zao m b a ≤ 1000000 := by
 obtain ⟨p, hp⟩ := Zan hb
 have hl := h.row p (List.mem_of_getElem? hp)
 have hg := at0_at (r := p) (i := a) (by omega)
 have e : Zao m b a = at0 p a := by rw [Zao, lstN, hp]; rfl
 rw [← e] at hg
 exact ⟨p, hp, hl, hg, h.val p (List.mem_of_getElem? hp) _ (List.mem_of_getElem? hg)⟩
theorem Sq.nil : Sq [] := ⟨by simp, by simp, by simp⟩
theorem MatrixF_sq (a : Lv) (i f : Int) : Sq (Zau a i f) := by
 rw [Zau]
 split
 ·rename_i h
  simp only [matOk, Bool.and_eq_true, decide_eq_true_eq] at h
  obtain ⟨⟨⟨h1, h2⟩, h3⟩, h4⟩ := h
  obtain ⟨t1, t2⟩ := Zcq h1
  obtain ⟨s1, _, _⟩ := Zcu h1
  obtain ⟨y, hy⟩ := Zan (l := a.2.1) (k := i.toNat) (by omega)
  have hyl := Zbq (List.mem_of_getElem? hy)
  have hla : lenAt a i = y.length := by rw [lenAt, hy]; rfl
  have hEn : ∀ k, (lstN (endsF a.2.1 a.2.2.1 i f (lenAt a i)) k).length ≤ 1000 := by
   intro k
   rw [lstN]
   cases hk : (endsF a.2.1 a.2.2.1 i f (lenAt a i))[k]? with
   | none => simp
   | some p =>
    have hp := List.mem_of_getElem? hk
    simp only [endsF, List.mem_map, List.mem_range] at hp
    obtain ⟨k, _, rfl⟩ := hp
    have := endsN_len a.2.1 a.2.2.1 i f k a.2.2.1.length
    simp only [Option.getD_some]; omega
  have hEl : (endsF a.2.1 a.2.2.1 i f (lenAt a i)).length = y.length := by simp [endsF, hla]
  generalize endsF a.2.1 a.2.2.1 i f (lenAt a i) = E at *
  refine ⟨by simp [matF, hEl]; omega, fun p hp => ?_, fun p hp x hx => ?_⟩
  ·simp only [matF, List.mem_map, List.mem_range] at hp
   obtain ⟨k, _, rfl⟩ := hp
   simp [matF]
  ·simp only [matF, List.mem_map, List.mem_range] at hp
   obtain ⟨k, _, rfl⟩ := hp
   obtain ⟨j, _, rfl⟩ := List.mem_map.1 hx
   rw [cellF]
   split
   ·omega
   ·have h1 := behindF_le (lstN E k) (lstN E j)
    have h2 : (lstN E k).length * (lstN E j).length ≤ 1000 * 1000 := Nat.mul_le_mul (hEn k) (hEn j)
    omega
 ·exact Sq.nil
def noPair (a : Lv) (i : Int) : Bool := decide (¬ (0 ≤ i ∧ i < a.2.1.length) ∨ i = (a.2.1.length : Int) - 1)
def Zbk (a : Lv) (i : Int) : Int := if noPair a i then 0 else triF (Zau a i (i + 1))
theorem tri_inner {m : List (List Int)} (h : Sq m) {x : Nat} (hx : x < m.length) : ∀ k, k ≤ x → 0 ≤ sumZ (fun b => Zao m b x) k ∧ sumZ (fun b => Zao m b x) k ≤ 600 * 1000000 := fun k hk => by
 have := sumZ_bound (f := fun b => Zao m b x) (c := 1000000) k fun b hb => by obtain ⟨_, _, _, _, h5⟩ := h.get (b := b) (a := x) (by omega) hx; exact h5
 have := h.len
 have h2 : k * 1000000 ≤ 600 * 1000000 := Nat.mul_le_mul_right _ (by omega)
 omega
theorem tri_outer {m : List (List Int)} (h : Sq m) : ∀ k, k ≤ m.length → 0 ≤ sumZ (fun x => sumZ (fun b => Zao m b x) x) k ∧ sumZ (fun x => sumZ (fun b => Zao m b x) x) k ≤ 600 * 600000000 := fun k hk => by
 have := sumZ_bound (f := fun x => sumZ (fun b => Zao m b x) x) (c := 600000000) k fun x hx => by have := tri_inner h (x := x) (by omega) x (Nat.le_refl _); omega
 have := h.len
 have h2 : k * 600000000 ≤ 600 * 600000000 := Nat.mul_le_mul_right _ (by omega)
 omega
set_option maxHeartbeats 4000000 in
theorem Between_spec (a : Lv) (i : Int) (hw : wide a) : Zah Tryz.prog 65 [lvD a, .int i] (.int (Zbk a i)) := by
 have h2 := exists_spec a i
 have h3 := Matrix_spec a i (i + 1) hw
 rw [Zbk, noPair]
 by_cases c1 : 0 ≤ i ∧ i < a.2.1.length
 ·rw [decide_eq_true c1] at h2
  by_cases c2 : i = (a.2.1.length : Int) - 1
  ·rw [if_pos (by simp [c2])]
   obtain ⟨n, ls, ar, cs⟩ := a
   dsimp only at c1 c2
   refine Zaf Tryz.func65 rfl (by decide +kernel) (Nat.le_of_ble_eq_true rfl) ?_
   intro hat B X w0
   have hl := Zbt 0 1 hat rfl rfl
   rw [List.length_map] at hl
   dsimp only at hl
   repeat' first | refine Zad rfl ?_ | refine Zac ?_ | refine wR ?_ | (refine rc (h2) rfl ?_ ?_; (· first | rfl | simp (disch := omega) only [go_sem, simprocAttr, ← c2])) | (refine Zaa rfl rfl (fun hc => ?_) (fun hc => ?_) <;> try simp only [hcL] at hc) | (refine Zab _ rfl rfl (fun hc => ?_) (fun hc => ?_) <;> (try simp only [hcL] at hc) <;> try omega) | simp (disch := omega) only [go_sem, simprocAttr, ← c2] | apply And.intro | omega | decide +kernel
   exact Zar rfl
  ·rw [if_neg (by simp; omega)]
   have hs := MatrixF_sq a i (i + 1)
   generalize Zau a i (i + 1) = m at h3 hs ⊢
   have hml := hs.len
   obtain ⟨n, ls, ar, cs⟩ := a
   dsimp only at c1 c2
   refine Zaf Tryz.func65 rfl (by decide +kernel) (Nat.le_of_ble_eq_true rfl) ?_
   intro hat B X w0
   have hl := Zbt 0 1 hat rfl rfl
   rw [List.length_map] at hl
   dsimp only at hl
   repeat' first | refine Zad rfl ?_ | refine Zac ?_ | refine wR ?_ | (refine rc (h2) rfl ?_ ?_; (· first | rfl | simp (disch := omega) only [go_sem, simprocAttr, c2])) | (refine rc (h3) rfl ?_ ?_; (· first | rfl | simp (disch := omega) only [go_sem, simprocAttr, c2])) | (refine Zaa rfl rfl (fun hc => ?_) (fun hc => ?_) <;> try simp only [hcL] at hc) | (refine Zab _ rfl rfl (fun hc => ?_) (fun hc => ?_) <;> (try simp only [hcL] at hc) <;> try omega) | simp (disch := omega) only [go_sem, simprocAttr, c2] | apply And.intro | omega | decide +kernel
   refine Zap (κ := Nat) (fun (x : Nat) => x ≤ m.length) (fun (x : Nat) => [(5, .int (sumZ (fun x => sumZ (fun b => Zao m b x) x) x)), (6, .d (Zaj m)), (27, .int m.length), (28, .int x)]) (fun (x : Nat) => []) (fun (x : Nat) => m.length - x) 0 ?_ ?_ ?_
   ·exact Nat.zero_le _
   ·exact eL [] _ _ (by refine ⟨?_, ?_⟩ <;> (repeat' first | exact fmn | refine fmc ⟨(by first | rfl | (simp (disch := omega) only [go_sem, simprocAttr, inL, sumZ]; first | done | omega | (congr 1; done))), ?_⟩); done)
   ·intro x hx
    rcases Nat.lt_or_ge x m.length with hlt | hge
    ·have ho := tri_outer hs x (by omega)
     have ho2 := tri_outer hs (x + 1) (by omega)
     have e1 : sumZ (fun x => sumZ (fun b => Zao m b x) x) (x + 1) = sumZ (fun x => sumZ (fun b => Zao m b x) x) x + sumZ (fun b => Zao m b x) x := rfl
     obtain ⟨s0, e0⟩ : ∃ s0, sumZ (fun x => sumZ (fun b => Zao m b x) x) x = s0 := ⟨_, rfl⟩
     rw [e0] at ho e1
     rw [e1] at ho2
     repeat' first | refine Zad rfl ?_ | refine Zac ?_ | refine wR ?_ | (refine Zaa rfl rfl (fun hc => ?_) (fun hc => ?_) <;> try simp only [hcL] at hc) | (refine Zab _ rfl rfl (fun hc => ?_) (fun hc => ?_) <;> (try simp only [hcL] at hc) <;> try omega) | simp (disch := omega) only [go_sem, simprocAttr] | apply And.intro | omega | decide +kernel
     refine Zap (κ := Nat) (fun (y : Nat) => y ≤ x) (fun (y : Nat) => [(5, .int (s0 + sumZ (fun b => Zao m b x) y)), (6, .d (Zaj m)), (7, .int x), (27, .int m.length), (28, .int x), (31, .int x), (32, .int y)]) (fun (y : Nat) => []) (fun (y : Nat) => x - y) 0 ?_ ?_ ?_
     ·exact Nat.zero_le _
     ·exact eL [] _ _ (by refine ⟨?_, ?_⟩ <;> (repeat' first | exact fmn | refine fmc ⟨(by first | rfl | (simp (disch := omega) only [go_sem, simprocAttr, inL, e0, sumZ, Int.add_zero]; first | done | omega | (congr 1; done))), ?_⟩); done)
     ·intro y hy
      rcases Nat.lt_or_ge y x with hly | hgy
      ·obtain ⟨p, hp, hpl, hpg, hp1, hp2⟩ := hs.get (b := y) (a := x) (by omega) hlt
       have hi := tri_inner hs hlt y (by omega)
       have e2 : sumZ (fun b => Zao m b x) (y + 1) = sumZ (fun b => Zao m b x) y + Zao m y x := rfl
       repeat' first | refine Zad rfl ?_ | refine Zac ?_ | refine wR ?_ | (refine Zaa rfl rfl (fun hc => ?_) (fun hc => ?_) <;> try simp only [hcL] at hc) | (refine Zab _ rfl rfl (fun hc => ?_) (fun hc => ?_) <;> (try simp only [hcL] at hc) <;> try omega) | simp (disch := omega) only [go_sem, simprocAttr, hp, hpg, hpl] | apply And.intro | omega | decide +kernel
       refine ⟨y + 1, ?_, eL [] _ _ (by refine ⟨?_, ?_⟩ <;> (repeat' first | exact fmn | refine fmc ⟨(by first | rfl | (simp (disch := omega) only [go_sem, simprocAttr, inL, e2, Int.add_assoc]; first | done | omega | (congr 1; done))), ?_⟩); done), ?_⟩
       ·omega
       ·omega
      ·have : y = x := by omega
       subst this
       repeat' first | refine Zad rfl ?_ | refine Zac ?_ | refine wR ?_ | (refine Zaa rfl rfl (fun hc => ?_) (fun hc => ?_) <;> try simp only [hcL] at hc) | (refine Zab _ rfl rfl (fun hc => ?_) (fun hc => ?_) <;> (try simp only [hcL] at hc) <;> try omega) | simp (disch := omega) only [go_sem, simprocAttr] | apply And.intro | omega | decide +kernel
       refine ⟨y + 1, ?_, eL [] _ _ (by refine ⟨?_, ?_⟩ <;> (repeat' first | exact fmn | refine fmc ⟨(by first | rfl | (simp (disch := omega) only [go_sem, simprocAttr, inL, e1]; first | done | omega | (congr 1; done))), ?_⟩); done), ?_⟩
       ·omega
       ·omega
    ·have : x = m.length := by omega
     subst this
     repeat' first | refine Zad rfl ?_ | refine Zac ?_ | refine wR ?_ | (refine Zaa rfl rfl (fun hc => ?_) (fun hc => ?_) <;> try simp only [hcL] at hc) | (refine Zab _ rfl rfl (fun hc => ?_) (fun hc => ?_) <;> (try simp only [hcL] at hc) <;> try omega) | simp (disch := omega) only [go_sem, simprocAttr] | apply And.intro | omega | decide +kernel
     exact Zar rfl
 ·rw [decide_eq_false c1] at h2
  rw [if_pos (by simp only [decide_eq_true_eq]; exact .inl c1)]
  refine Zaf Tryz.func65 rfl (by decide +kernel) (Nat.le_of_ble_eq_true rfl) ?_
  intro hat B X w0
  repeat' first | refine Zad rfl ?_ | refine Zac ?_ | refine wR ?_ | (refine rc (h2) rfl ?_ ?_; (· first | rfl | simp (disch := omega) only [go_sem, simprocAttr])) | (refine Zaa rfl rfl (fun hc => ?_) (fun hc => ?_) <;> try simp only [hcL] at hc) | (refine Zab _ rfl rfl (fun hc => ?_) (fun hc => ?_) <;> (try simp only [hcL] at hc) <;> try omega) | simp (disch := omega) only [go_sem, simprocAttr] | apply And.intro | omega | decide +kernel
  exact Zar rfl
def Zbg (a : Lv) : Int := sumZ (fun i => Zbk a i) a.2.1.length
theorem BetweenF_le (a : Lv) (i : Int) : 0 ≤ Zbk a i ∧ Zbk a i ≤ 360000000000 := by
 rw [Zbk]
 split
 ·omega
 ·have hs := MatrixF_sq a i (i + 1)
  have := tri_outer hs _ (Nat.le_refl _)
  rw [triF]; omega
theorem Total_spec (a : Lv) (hw : wide a) (hl : a.2.1.length ≤ 1000) : Zah Tryz.prog 38 [lvD a] (.int (Zbg a)) := by
 have hb := fun i => Between_spec a i hw
 have hbl := BetweenF_le a
 have hs : ∀ k, k ≤ a.2.1.length → 0 ≤ sumZ (fun i => Zbk a i) k ∧ sumZ (fun i => Zbk a i) k ≤ 1000 * 360000000000 := fun k hk => by
  have := sumZ_bound (f := fun i => Zbk a i) (c := 360000000000) k fun i _ => hbl i
  have h2 : k * 360000000000 ≤ 1000 * 360000000000 := Nat.mul_le_mul_right _ (by omega)
  omega
 rw [Zbg]
 generalize hB : (fun i : Nat => Zbk a i) = Bf at hs ⊢
 have hb2 : ∀ i : Nat, Zah Tryz.prog 65 [lvD a, .int i] (.int (Bf i)) := fun i => by rw [← hB]; exact hb i
 obtain ⟨n, ls, ar, cs⟩ := a
 dsimp only at *
 refine Zaf Tryz.func38 rfl (by decide +kernel) (Nat.le_of_ble_eq_true rfl) ?_
 intro hat B X w0
 repeat' first | refine Zad rfl ?_ | refine Zac ?_ | refine wR ?_ | (refine Zaa rfl rfl (fun hc => ?_) (fun hc => ?_) <;> try simp only [hcL] at hc) | (refine Zab _ rfl rfl (fun hc => ?_) (fun hc => ?_) <;> (try simp only [hcL] at hc) <;> try omega) | simp (disch := omega) only [go_sem, simprocAttr] | apply And.intro | omega | decide +kernel
 refine Zap (κ := Nat) (fun (i : Nat) => i ≤ ls.length) (fun (i : Nat) => [(1, .ptr 1 0 0 0), (3, .int (sumZ Bf i)), (7, .int ls.length), (8, .int i)]) (fun (i : Nat) => [(1, .cells [.int n, .d (Zaj ls), .d (Zal ar), .d (Zaj cs)])]) (fun (i : Nat) => ls.length - i) 0 ?_ ?_ ?_
 ·exact Nat.zero_le _
 ·exact eL [] _ _ (by refine ⟨?_, ?_⟩ <;> (repeat' first | exact fmn | refine fmc ⟨(by first | rfl | (simp (disch := omega) only [go_sem, simprocAttr, inL, sumZ]; first | done | omega | (congr 1; done))), ?_⟩); done)
 ·intro i hi
  rcases Nat.lt_or_ge i ls.length with hlt | hge
  ·have h1 := hs i hi
   have h2 := hs (i + 1) (by omega)
   have e1 : sumZ Bf (i + 1) = sumZ Bf i + Bf i := rfl
   have hbi := hb2 i
   repeat' first | refine Zad rfl ?_ | refine Zac ?_ | refine wR ?_ | (refine rc (hbi) rfl ?_ ?_; (· first | rfl | simp (disch := omega) only [go_sem, simprocAttr])) | (refine Zaa rfl rfl (fun hc => ?_) (fun hc => ?_) <;> try simp only [hcL] at hc) | (refine Zab _ rfl rfl (fun hc => ?_) (fun hc => ?_) <;> (try simp only [hcL] at hc) <;> try omega) | simp (disch := omega) only [go_sem, simprocAttr] | apply And.intro | omega | decide +kernel
   refine ⟨i + 1, ?_, eL [] _ _ (by refine ⟨?_, ?_⟩ <;> (repeat' first | exact fmn | refine fmc ⟨(by first | rfl | (simp (disch := omega) only [go_sem, simprocAttr, inL, e1]; first | done | omega | (congr 1; done))), ?_⟩); done), ?_⟩
   ·omega
   ·omega
  ·have : i = ls.length := by omega
   subst this
   repeat' first | refine Zad rfl ?_ | refine Zac ?_ | refine wR ?_ | (refine Zaa rfl rfl (fun hc => ?_) (fun hc => ?_) <;> try simp only [hcL] at hc) | (refine Zab _ rfl rfl (fun hc => ?_) (fun hc => ?_) <;> (try simp only [hcL] at hc) <;> try omega) | simp (disch := omega) only [go_sem, simprocAttr] | apply And.intro | omega | decide +kernel
   exact Zar rfl
end Go.Proofs.YtldbcbclhpcofaaGreat
namespace Go.Proofs.YtldbcbclhpcofaaGreat
open Go Go.PS Go.Proofs
set_option maxRecDepth 100000
attribute [local irreducible] Zax wpG Zah Zai

theorem place_spec (l : List Int) (v : Int) : Zah Tryz.prog 70 [Zak l, .int v] (.int (placeF l v)) := by
 refine Zaf Tryz.func70 rfl (by decide +kernel) (Nat.le_of_ble_eq_true rfl) ?_
 intro hat B X w0
 have hl := at_len 0 hat rfl
 rw [List.length_map] at hl
 repeat' first | refine Zad rfl ?_ | refine Zac ?_ | refine wR ?_ | (refine Zaa rfl rfl (fun hc => ?_) (fun hc => ?_) <;> try simp only [hcL] at hc) | (refine Zab _ rfl rfl (fun hc => ?_) (fun hc => ?_) <;> (try simp only [hcL] at hc) <;> try omega) | simp (disch := omega) only [go_sem, simprocAttr] | apply And.intro | omega | decide +kernel
 refine Zap (κ := Nat) (fun (k : Nat) => k ≤ l.length ∧ ∀ (j : Nat) y, j < k → l[j]? = some y → (decide (y = v)) = false) (fun (k : Nat) => [(0, .d (Zak l)), (1, .int v), (5, .int k)]) (fun (k : Nat) => []) (fun (k : Nat) => l.length - k) 0 ?_ ?_ ?_
 ·exact ⟨Nat.zero_le _, fun j y h => by omega⟩
 ·exact eL [] _ _ (by refine ⟨?_, ?_⟩ <;> (repeat' first | exact fmn | refine fmc ⟨(by first | rfl | (simp (disch := omega) only [go_sem, simprocAttr, inL]; first | done | omega | (congr 1; done))), ?_⟩); done)
 ·rintro k ⟨hk, hinv⟩
  rcases Nat.lt_or_ge k l.length with hlt | hge
  ·obtain ⟨p, hp⟩ := Zan hlt
   repeat' first | refine Zad rfl ?_ | refine Zac ?_ | refine wR ?_ | (refine Zaa rfl rfl (fun hc => ?_) (fun hc => ?_) <;> try simp only [hcL] at hc) | (refine Zab _ rfl rfl (fun hc => ?_) (fun hc => ?_) <;> (try simp only [hcL] at hc) <;> try omega) | simp (disch := omega) only [go_sem, simprocAttr, hp] | apply And.intro | omega | decide +kernel
   ·refine Zar ?_
    rw [placeF, findIdx_at hp (by simpa using hc) hinv]; rfl
   ·refine ⟨k + 1, ?_, eL [] _ _ (by refine ⟨?_, ?_⟩ <;> (repeat' first | exact fmn | refine fmc ⟨(by first | rfl | (simp (disch := omega) only [go_sem, simprocAttr, inL]; first | done | omega | (congr 1; done))), ?_⟩); done), ?_⟩
    ·exact ⟨by omega, Zbr hinv hp (by simpa using hc)⟩
    ·omega
  ·repeat' first | refine Zad rfl ?_ | refine Zac ?_ | refine wR ?_ | (refine Zaa rfl rfl (fun hc => ?_) (fun hc => ?_) <;> try simp only [hcL] at hc) | (refine Zab _ rfl rfl (fun hc => ?_) (fun hc => ?_) <;> (try simp only [hcL] at hc) <;> try omega) | simp (disch := omega) only [go_sem, simprocAttr] | apply And.intro | omega | decide +kernel
   refine Zar ?_
   rw [placeF, findIdx_no (fun j y hy => hinv j y (by have := (List.getElem?_eq_some_iff.1 hy).1; omega) hy)]; rfl
def pairOf (y z : List Int) (x : Arc) : List (Int × Int) := if 0 ≤ placeF y x.1 ∧ 0 ≤ placeF z x.2 then [(placeF y x.1, placeF z x.2)] else []
def Zbe (y z : List Int) (ar : List Arc) : List (Int × Int) := ar.flatMap (pairOf y z)
abbrev pairD (p : Int × Int) : D := .sl [.int p.1, .int p.2]
abbrev prsD (l : List (Int × Int)) : D := .sl (l.map pairD)
theorem pairsF_le (y z : List Int) (ar : List Arc) : (Zbe y z ar).length ≤ ar.length := by
 induction ar with
 | nil => simp [Zbe]
 | cons x ar ih =>
  have : (pairOf y z x).length ≤ 1 := by unfold pairOf; split <;> simp
  simp only [Zbe, List.flatMap_cons, List.length_append, List.length_cons] at ih ⊢; omega
set_option maxHeartbeats 1000000 in
theorem Ends_spec (a : Lv) (i : Nat) (y z : List Int) (hy : a.2.1[i]? = some y) (hz : a.2.1[i + 1]? = some z) (ha : a.2.2.1.length ≤ 1000) : Zah Tryz.prog 45 [lvD a, .int i] (prsD (Zbe y z a.2.2.1)) := by
 have hil : i + 1 < a.2.1.length := (List.getElem?_eq_some_iff.1 hz).1
 obtain ⟨n, ls, ar, cs⟩ := a
 dsimp only at *
 refine Zaf Tryz.func45 rfl (by decide +kernel) (Nat.le_of_ble_eq_true rfl) ?_
 intro hat B X w0
 have hl := Zbt 0 1 hat rfl rfl
 rw [List.length_map] at hl
 dsimp only at hl
 repeat' first | refine Zad rfl ?_ | refine Zac ?_ | refine Zcx (Nat.beq 9) hmix ?_ | (refine Zaa rfl rfl (fun hc => ?_) (fun hc => ?_) <;> try simp only [hcL] at hc) | (refine Zab _ rfl rfl (fun hc => ?_) (fun hc => ?_) <;> (try simp only [hcL] at hc) <;> try omega) | simp (disch := omega) only [go_sem, simprocAttr] | apply And.intro | omega | decide +kernel
 refine Zap (κ := Nat) (fun (k : Nat) => k ≤ ar.length) (fun (k : Nat) => [(1, .int i), (2, .ptr 2 0 0 0), (5, .ref 901 1 0 (Zbe y z (ar.take k)).length (Zbe y z (ar.take k)).length), (6, .int k)]) (fun (k : Nat) => [(2, .cells [.int n, .d (Zaj ls), .d (Zal ar), .d (Zaj cs)]), (901, .row 1 ((Zbe y z (ar.take k)).map pairD))]) (fun (k : Nat) => ar.length - k) 0 ?_ ?_ ?_
 ·exact Nat.zero_le _
 ·exact eL [(901, 9)] _ _ (by refine ⟨?_, ?_⟩ <;> (repeat' first | exact fmn | refine fmc ⟨(by first | rfl | (simp (disch := omega) only [go_sem, simprocAttr, inL, List.take_zero, Zbe, List.flatMap_nil, List.length_nil]; first | done | omega | (congr 1; done))), ?_⟩); done)
 ·intro k hk
  have hle := pairsF_le y z (ar.take k)
  rw [List.length_take] at hle
  rcases Nat.lt_or_ge k ar.length with hlt | hge
  ·obtain ⟨x, hx⟩ := Zan hlt
   have e1 : Zbe y z (ar.take (k + 1)) = Zbe y z (ar.take k) ++ pairOf y z x := by rw [Zat hx, Zbe, List.flatMap_append]; simp [Zbe]
   have p1 := place_spec y x.1
   have p2 := place_spec z x.2
   have en : ((i : Int) + 1).toNat = i + 1 := by omega
   rw [pairOf] at e1
   generalize placeF y x.1 = u at *
   generalize placeF z x.2 = v at *
   generalize Zbe y z (ar.take k) = R at *
   by_cases c1 : 0 ≤ u <;> by_cases c2 : 0 ≤ v
   ·rw [if_pos ⟨c1, c2⟩] at e1
    repeat' first | refine Zad rfl ?_ | refine Zac ?_ | refine wR ?_ | (refine rc (p1) rfl ?_ ?_; (· first | rfl | simp (disch := omega) only [go_sem, simprocAttr, hx, hy, hz, en, c1, c2, Zbb, Zae])) | (refine rc (p2) rfl ?_ ?_; (· first | rfl | simp (disch := omega) only [go_sem, simprocAttr, hx, hy, hz, en, c1, c2, Zbb, Zae])) | (refine Zaa rfl rfl (fun hc => ?_) (fun hc => ?_) <;> try simp only [hcL] at hc) | (refine Zab _ rfl rfl (fun hc => ?_) (fun hc => ?_) <;> (try simp only [hcL] at hc) <;> try omega) | simp (disch := omega) only [go_sem, simprocAttr, hx, hy, hz, en, c1, c2, Zbb, Zae] | apply And.intro | omega | decide +kernel
    refine ⟨k + 1, ?_, eL [(901, 53)] _ _ (by refine ⟨?_, ?_⟩ <;> (repeat' first | exact fmn | refine fmc ⟨(by first | rfl | (simp (disch := omega) only [go_sem, simprocAttr, inL, e1, List.map_append, List.length_append, List.length_cons, List.length_nil]; first | done | omega | (congr 1; done))), ?_⟩); done), ?_⟩
    ·omega
    ·omega
   all_goals
    rw [if_neg (by omega), List.append_nil] at e1
    repeat' first | refine Zad rfl ?_ | refine Zac ?_ | refine wR ?_ | (refine rc (p1) rfl ?_ ?_; (· first | rfl | simp (disch := omega) only [go_sem, simprocAttr, hx, hy, hz, en, c1, c2])) | (refine rc (p2) rfl ?_ ?_; (· first | rfl | simp (disch := omega) only [go_sem, simprocAttr, hx, hy, hz, en, c1, c2])) | (refine Zaa rfl rfl (fun hc => ?_) (fun hc => ?_) <;> try simp only [hcL] at hc) | (refine Zab _ rfl rfl (fun hc => ?_) (fun hc => ?_) <;> (try simp only [hcL] at hc) <;> try omega) | simp (disch := omega) only [go_sem, simprocAttr, hx, hy, hz, en, c1, c2] | apply And.intro | omega | decide +kernel
    refine ⟨k + 1, ?_, eL [] _ _ (by refine ⟨?_, ?_⟩ <;> (repeat' first | exact fmn | refine fmc ⟨(by first | rfl | (simp (disch := omega) only [go_sem, simprocAttr, inL, e1]; first | done | omega | (congr 1; done))), ?_⟩); done), ?_⟩
    ·omega
    ·omega
  ·have : k = ar.length := by omega
   subst this
   try dsimp only
   rw [List.take_length]
   repeat' first | refine Zad rfl ?_ | refine Zac ?_ | refine wR ?_ | (refine Zaa rfl rfl (fun hc => ?_) (fun hc => ?_) <;> try simp only [hcL] at hc) | (refine Zab _ rfl rfl (fun hc => ?_) (fun hc => ?_) <;> (try simp only [hcL] at hc) <;> try omega) | simp (disch := omega) only [go_sem, simprocAttr] | apply And.intro | omega | decide +kernel
   exact Zci (o := 901) rfl rfl (by simp) (List.take_of_length_le (by simp))
def crossB (x y : Int × Int) : Bool := decide (x.1 < y.1) && decide (y.2 < x.2)
def crossF : List (Int × Int) → List (Int × Int) → Nat
 | [], _ => 0
 | x :: E, F => F.countP (crossB x) + crossF E F
theorem crossF_snoc (E F : List (Int × Int)) (x : Int × Int) : crossF (E ++ [x]) F = crossF E F + F.countP (crossB x) := by
 induction E with
 | nil => simp [crossF]
 | cons y E ih => simp only [List.cons_append, crossF, ih]; omega
theorem crossF_le (E F : List (Int × Int)) : crossF E F ≤ E.length * F.length := by
 induction E with
 | nil => simp [crossF]
 | cons y E ih =>
  have := List.countP_le_length (p := crossB y) (l := F)
  simp only [crossF, List.length_cons, Nat.add_mul]; omega
def Zcb (a : Lv) (i : Int) : Int := if Zay a = false ∨ i < 0 ∨ (a.2.1.length : Int) - 1 ≤ i then 0 else crossF (Zbe (lstN a.2.1 i.toNat) (lstN a.2.1 (i.toNat + 1)) a.2.2.1) (Zbe (lstN a.2.1 i.toNat) (lstN a.2.1 (i.toNat + 1)) a.2.2.1)
set_option maxHeartbeats 4000000 in
theorem rBetween_spec (a : Lv) (i : Int) (hw : wide a) : Zah Tryz.prog 23 [lvD a, .int i] (.int (Zcb a i)) := by
 have h1 := Zbw a hw
 rw [← valid_same] at h1
 rw [Zcb]
 rcases h : Zay a with _ | _ <;> rw [h] at h1
 ·rw [if_pos (.inl rfl)]
  refine Zaf Tryz.func23 rfl (by decide +kernel) (Nat.le_of_ble_eq_true rfl) ?_
  intro hat B X w0
  repeat' first | refine Zad rfl ?_ | refine Zac ?_ | refine wR ?_ | (refine rc (h1) rfl ?_ ?_; (· first | rfl | simp (disch := omega) only [go_sem, simprocAttr, List.append_eq])) | (refine Zaa rfl rfl (fun hc => ?_) (fun hc => ?_) <;> try simp only [hcL] at hc) | (refine Zab _ rfl rfl (fun hc => ?_) (fun hc => ?_) <;> (try simp only [hcL] at hc) <;> try omega) | simp (disch := omega) only [go_sem, simprocAttr, List.append_eq] | apply And.intro | omega | decide +kernel
  exact Zar rfl
 ·obtain ⟨s1, s2, s3⟩ := Zcu h
  by_cases c : i < 0 ∨ (a.2.1.length : Int) - 1 ≤ i
  ·rw [if_pos (.inr c)]
   obtain ⟨n, ls, ar, cs⟩ := a
   dsimp only at c
   refine Zaf Tryz.func23 rfl (by decide +kernel) (Nat.le_of_ble_eq_true rfl) ?_
   intro hat B X w0
   have hl := Zbt 0 1 hat rfl rfl
   rw [List.length_map] at hl
   dsimp only at hl
   repeat' first | refine Zad rfl ?_ | refine Zac ?_ | refine wR ?_ | (refine rc (h1) rfl ?_ ?_; (· first | rfl | simp (disch := omega) only [go_sem, simprocAttr, List.append_eq])) | (refine Zaa rfl rfl (fun hc => ?_) (fun hc => ?_) <;> try simp only [hcL] at hc) | (refine Zab _ rfl rfl (fun hc => ?_) (fun hc => ?_) <;> (try simp only [hcL] at hc) <;> try omega) | simp (disch := omega) only [go_sem, simprocAttr, List.append_eq] | apply And.intro | omega | decide +kernel
   all_goals exact Zar rfl
  ·rw [if_neg (by rintro (h | h); cases h; exact c h)]
   obtain ⟨i, rfl⟩ : ∃ n : Nat, i = n := ⟨i.toNat, by omega⟩
   rw [Int.toNat_natCast]
   obtain ⟨y, hy⟩ := Zan (l := a.2.1) (k := i) (by omega)
   obtain ⟨z, hz⟩ := Zan (l := a.2.1) (k := i + 1) (by omega)
   have h2 := Ends_spec a i y z hy hz (by omega)
   have hEl := pairsF_le y z a.2.2.1
   have e1 : lstN a.2.1 i = y := by rw [lstN, hy]; rfl
   have e2 : lstN a.2.1 (i + 1) = z := by rw [lstN, hz]; rfl
   rw [e1, e2]
   generalize Zbe y z a.2.2.1 = E at *
   have hcl : ∀ k, k ≤ E.length → crossF (E.take k) E ≤ 800 * 800 := fun k hk => by
    refine Nat.le_trans (crossF_le _ _) (Nat.mul_le_mul ?_ (by omega))
    rw [List.length_take]; omega
   obtain ⟨n, ls, ar, cs⟩ := a
   dsimp only at *
   refine Zaf Tryz.func23 rfl (by decide +kernel) (Nat.le_of_ble_eq_true rfl) ?_
   intro hat B X w0
   have hl := Zbt 0 1 hat rfl rfl
   rw [List.length_map] at hl
   dsimp only at hl
   repeat' first | refine Zad rfl ?_ | refine Zac ?_ | refine wR ?_ | (refine rc (h1) rfl ?_ ?_; (· first | rfl | simp (disch := omega) only [go_sem, simprocAttr, List.append_eq])) | (refine rc (h2) rfl ?_ ?_; (· first | rfl | simp (disch := omega) only [go_sem, simprocAttr, List.append_eq])) | (refine Zaa rfl rfl (fun hc => ?_) (fun hc => ?_) <;> try simp only [hcL] at hc) | (refine Zab _ rfl rfl (fun hc => ?_) (fun hc => ?_) <;> (try simp only [hcL] at hc) <;> try omega) | simp (disch := omega) only [go_sem, simprocAttr, List.append_eq] | apply And.intro | omega | decide +kernel
   refine Zap (κ := Nat) (fun (u : Nat) => u ≤ E.length) (fun (u : Nat) => [(5, .d (prsD E)), (6, .int (crossF (E.take u) E)), (7, .int u)]) (fun (u : Nat) => []) (fun (u : Nat) => E.length - u) 0 ?_ ?_ ?_
   ·exact Nat.zero_le _
   ·exact eL [] _ _ (by refine ⟨?_, ?_⟩ <;> (repeat' first | exact fmn | refine fmc ⟨(by first | rfl | (simp (disch := omega) only [go_sem, simprocAttr, inL, List.take_zero, crossF]; first | done | omega | (congr 1; done))), ?_⟩); done)
   ·intro u hu
    rcases Nat.lt_or_ge u E.length with hlt | hge
    ·obtain ⟨p, hp⟩ := Zan hlt
     have f1 : crossF (E.take (u + 1)) E = crossF (E.take u) E + E.countP (crossB p) := by rw [Zat hp, crossF_snoc]
     have b1 := hcl u hu
     have b2 := hcl (u + 1) (by omega)
     obtain ⟨c0, e0⟩ : ∃ c0, crossF (E.take u) E = c0 := ⟨_, rfl⟩
     rw [e0] at b1 f1
     repeat' first | refine Zad rfl ?_ | refine Zac ?_ | refine wR ?_ | (refine Zaa rfl rfl (fun hc => ?_) (fun hc => ?_) <;> try simp only [hcL] at hc) | (refine Zab _ rfl rfl (fun hc => ?_) (fun hc => ?_) <;> (try simp only [hcL] at hc) <;> try omega) | simp (disch := omega) only [go_sem, simprocAttr] | apply And.intro | omega | decide +kernel
     refine Zap (κ := Nat) (fun (v : Nat) => v ≤ E.length) (fun (v : Nat) => [(5, .d (prsD E)), (6, .int ((c0 + (E.take v).countP (crossB p) : Nat) : Int)), (7, .int u), (8, .int v)]) (fun (v : Nat) => []) (fun (v : Nat) => E.length - v) 0 ?_ ?_ ?_
     ·exact Nat.zero_le _
     ·exact eL [] _ _ (by refine ⟨?_, ?_⟩ <;> (repeat' first | exact fmn | refine fmc ⟨(by first | rfl | (simp (disch := omega) only [go_sem, simprocAttr, inL, e0, List.take_zero, List.countP_nil, Nat.add_zero]; first | done | omega | (congr 1; done))), ?_⟩); done)
     ·intro v hv
      rcases Nat.lt_or_ge v E.length with hlv | hgv
      ·obtain ⟨q, hq⟩ := Zan hlv
       have f2 : (E.take (v + 1)).countP (crossB p) = (E.take v).countP (crossB p) + if crossB p q then 1 else 0 := by
        rw [Zat hq, List.countP_append]; simp [List.countP_cons]
       have hle := List.countP_le_length (p := crossB p) (l := E.take v)
       rw [List.length_take] at hle
       generalize (E.take v).countP (crossB p) = d at *
       by_cases d1 : p.1 < q.1 <;> by_cases d2 : q.2 < p.2
       all_goals simp only [crossB, d1, d2, decide_true, decide_false, Bool.and_true, Bool.and_false, Bool.false_eq_true, if_true, if_false, Nat.add_zero] at f2
       all_goals
        repeat' first | refine Zad rfl ?_ | refine Zac ?_ | refine wR ?_ | (refine Zaa rfl rfl (fun hc => ?_) (fun hc => ?_) <;> try simp only [hcL] at hc) | (refine Zab _ rfl rfl (fun hc => ?_) (fun hc => ?_) <;> (try simp only [hcL] at hc) <;> try omega) | simp (disch := omega) only [go_sem, simprocAttr, List.append_eq, hp, hq, d1, d2] | apply And.intro | omega | decide +kernel
        refine ⟨v + 1, ?_, eL [] _ _ (by refine ⟨?_, ?_⟩ <;> (repeat' first | exact fmn | refine fmc ⟨(by first | rfl | (simp (disch := omega) only [go_sem, simprocAttr, inL, f2, Int.natCast_add, Int.natCast_one, Int.add_assoc]; first | done | omega | (congr 1; done))), ?_⟩); done), ?_⟩
        ·omega
        ·omega
      ·have : v = E.length := by omega
       subst this
       try dsimp only
       rw [List.take_length]
       repeat' first | refine Zad rfl ?_ | refine Zac ?_ | refine wR ?_ | (refine Zaa rfl rfl (fun hc => ?_) (fun hc => ?_) <;> try simp only [hcL] at hc) | (refine Zab _ rfl rfl (fun hc => ?_) (fun hc => ?_) <;> (try simp only [hcL] at hc) <;> try omega) | simp (disch := omega) only [go_sem, simprocAttr] | apply And.intro | omega | decide +kernel
       refine ⟨u + 1, ?_, eL [] _ _ (by refine ⟨?_, ?_⟩ <;> (repeat' first | exact fmn | refine fmc ⟨(by first | rfl | (simp (disch := omega) only [go_sem, simprocAttr, inL, f1]; first | done | omega | (congr 1; done))), ?_⟩); done), ?_⟩
       ·omega
       ·omega
    ·have : u = E.length := by omega
     subst this
     try dsimp only
     rw [List.take_length]
     repeat' first | refine Zad rfl ?_ | refine Zac ?_ | refine wR ?_ | (refine Zaa rfl rfl (fun hc => ?_) (fun hc => ?_) <;> try simp only [hcL] at hc) | (refine Zab _ rfl rfl (fun hc => ?_) (fun hc => ?_) <;> (try simp only [hcL] at hc) <;> try omega) | simp (disch := omega) only [go_sem, simprocAttr] | apply And.intro | omega | decide +kernel
     exact Zar rfl
end Go.Proofs.YtldbcbclhpcofaaGreat
namespace Go.Proofs.YtldbcbclhpcofaaGreat
open Go Go.PS Go.Proofs
set_option maxRecDepth 100000
attribute [local irreducible] Zax wpG Zah Zai

def rTotalF (a : Lv) : Int := sumZ (fun i => Zcb a i) a.2.1.length
theorem rBetweenF_le (a : Lv) (i : Int) : 0 ≤ Zcb a i ∧ Zcb a i ≤ 360000000000 := by
 rw [Zcb]
 split
 ·omega
 ·rename_i h
  have hv : Zay a = true := by
   rcases hv : Zay a with _ | _
   ·exact absurd (.inl hv) h
   ·rfl
  obtain ⟨s1, s2, s3⟩ := Zcu hv
  have h1 := pairsF_le (lstN a.2.1 i.toNat) (lstN a.2.1 (i.toNat + 1)) a.2.2.1
  generalize Zbe (lstN a.2.1 i.toNat) (lstN a.2.1 (i.toNat + 1)) a.2.2.1 = E at *
  have h2 := crossF_le E E
  have h3 : E.length * E.length ≤ 800 * 800 := Nat.mul_le_mul (by omega) (by omega)
  omega
theorem rTotal_spec (a : Lv) (hw : wide a) (hl : a.2.1.length ≤ 1000) : Zah Tryz.prog 20 [lvD a] (.int (rTotalF a)) := by
 have hb := fun i => rBetween_spec a i hw
 have hbl := rBetweenF_le a
 have hs : ∀ k, k ≤ a.2.1.length → 0 ≤ sumZ (fun i => Zcb a i) k ∧ sumZ (fun i => Zcb a i) k ≤ 1000 * 360000000000 := fun k hk => by
  have := sumZ_bound (f := fun i => Zcb a i) (c := 360000000000) k fun i _ => hbl i
  have h2 : k * 360000000000 ≤ 1000 * 360000000000 := Nat.mul_le_mul_right _ (by omega)
  omega
 rw [rTotalF]
 generalize hB : (fun i : Nat => Zcb a i) = Bf at hs ⊢
 have hb2 : ∀ i : Nat, Zah Tryz.prog 23 [lvD a, .int i] (.int (Bf i)) := fun i => by rw [← hB]; exact hb i
 obtain ⟨n, ls, ar, cs⟩ := a
 dsimp only at *
 refine Zaf Tryz.func20 rfl (by decide +kernel) (Nat.le_of_ble_eq_true rfl) ?_
 intro hat B X w0
 repeat' first | refine Zad rfl ?_ | refine Zac ?_ | refine wR ?_ | (refine Zaa rfl rfl (fun hc => ?_) (fun hc => ?_) <;> try simp only [hcL] at hc) | (refine Zab _ rfl rfl (fun hc => ?_) (fun hc => ?_) <;> (try simp only [hcL] at hc) <;> try omega) | simp (disch := omega) only [go_sem, simprocAttr] | apply And.intro | omega | decide +kernel
 refine Zap (κ := Nat) (fun (i : Nat) => i ≤ ls.length) (fun (i : Nat) => [(1, .ptr 1 0 0 0), (3, .int (sumZ Bf i)), (4, .int i)]) (fun (i : Nat) => [(1, .cells [.int n, .d (Zaj ls), .d (Zal ar), .d (Zaj cs)])]) (fun (i : Nat) => ls.length - i) 0 ?_ ?_ ?_
 ·exact Nat.zero_le _
 ·exact eL [] _ _ (by refine ⟨?_, ?_⟩ <;> (repeat' first | exact fmn | refine fmc ⟨(by first | rfl | (simp (disch := omega) only [go_sem, simprocAttr, inL, sumZ]; first | done | omega | (congr 1; done))), ?_⟩); done)
 ·intro i hi
  rcases Nat.lt_or_ge i ls.length with hlt | hge
  ·have h1 := hs i hi
   have h2 := hs (i + 1) (by omega)
   have e1 : sumZ Bf (i + 1) = sumZ Bf i + Bf i := rfl
   have hbi := hb2 i
   repeat' first | refine Zad rfl ?_ | refine Zac ?_ | refine wR ?_ | (refine rc (hbi) rfl ?_ ?_; (· first | rfl | simp (disch := omega) only [go_sem, simprocAttr])) | (refine Zaa rfl rfl (fun hc => ?_) (fun hc => ?_) <;> try simp only [hcL] at hc) | (refine Zab _ rfl rfl (fun hc => ?_) (fun hc => ?_) <;> (try simp only [hcL] at hc) <;> try omega) | simp (disch := omega) only [go_sem, simprocAttr] | apply And.intro | omega | decide +kernel
   refine ⟨i + 1, ?_, eL [] _ _ (by refine ⟨?_, ?_⟩ <;> (repeat' first | exact fmn | refine fmc ⟨(by first | rfl | (simp (disch := omega) only [go_sem, simprocAttr, inL, e1]; first | done | omega | (congr 1; done))), ?_⟩); done), ?_⟩
   ·omega
   ·omega
  ·have : i = ls.length := by omega
   subst this
   repeat' first | refine Zad rfl ?_ | refine Zac ?_ | refine wR ?_ | (refine Zaa rfl rfl (fun hc => ?_) (fun hc => ?_) <;> try simp only [hcL] at hc) | (refine Zab _ rfl rfl (fun hc => ?_) (fun hc => ?_) <;> (try simp only [hcL] at hc) <;> try omega) | simp (disch := omega) only [go_sem, simprocAttr] | apply And.intro | omega | decide +kernel
   exact Zar rfl
end Go.Proofs.YtldbcbclhpcofaaGreat
namespace Go.Proofs.YtldbcbclhpcofaaGreat
open Go Go.PS Go.Proofs

/-! ### Sums over pairs -/
abbrev Pr := Int × Int
def w1 (f : Pr → Int) : List Pr → Int
 | [] => 0
 | y :: F => f y + w1 f F
def W (f : Pr → Pr → Int) (F : List Pr) : List Pr → Int
 | [] => 0
 | x :: E => w1 (f x) F + W f F E
theorem w1_congr {f g : Pr → Int} : ∀ {F : List Pr}, (∀ y, y ∈ F → f y = g y) → w1 f F = w1 g F
 | [], _ => rfl
 | y :: F, h => by rw [w1, w1, h y (by simp), w1_congr fun z hz => h z (List.mem_cons_of_mem _ hz)]
theorem W_congr {f g : Pr → Pr → Int} {F : List Pr} : ∀ {E : List Pr}, (∀ x, x ∈ E → ∀ y, y ∈ F → f x y = g x y) → W f F E = W g F E
 | [], _ => rfl
 | x :: E, h => by rw [W, W, w1_congr (h x (by simp)), W_congr fun z hz => h z (List.mem_cons_of_mem _ hz)]
theorem w1_add (f g : Pr → Int) : ∀ F : List Pr, w1 (fun y => f y + g y) F = w1 f F + w1 g F
 | [] => rfl
 | y :: F => by rw [w1, w1, w1, w1_add f g F]; omega
theorem W_add (f g : Pr → Pr → Int) (F : List Pr) : ∀ E : List Pr, W (fun x y => f x y + g x y) F E = W f F E + W g F E
 | [] => rfl
 | x :: E => by rw [W, W, W, w1_add, W_add f g F E]; omega
theorem w1_zero : ∀ F : List Pr, w1 (fun _ => 0) F = 0
 | [] => rfl
 | y :: F => by rw [w1, w1_zero F]; rfl
theorem W_zero (F : List Pr) : ∀ E : List Pr, W (fun _ _ => 0) F E = 0
 | [] => rfl
 | x :: E => by rw [W, w1_zero, W_zero F E]; rfl
theorem W_sum (f : Nat → Pr → Pr → Int) (F E : List Pr) : ∀ n, sumZ (fun k => W (f k) F E) n = W (fun x y => sumZ (fun k => f k x y) n) F E
 | 0 => by simp only [sumZ]; rw [W_zero]
 | n + 1 => by simp only [sumZ]; rw [W_sum f F E n, W_add]
theorem W_nil (f : Pr → Pr → Int) : ∀ E : List Pr, W f [] E = 0
 | [] => rfl
 | x :: E => by rw [W, W_nil f E]; rfl
theorem W_cons_right (f : Pr → Pr → Int) (y : Pr) (F : List Pr) : ∀ E : List Pr, W f (y :: F) E = w1 (fun x => f x y) E + W f F E
 | [] => rfl
 | x :: E => by rw [W, W, w1, w1, W_cons_right f y F E]; omega
theorem W_swap (f : Pr → Pr → Int) : ∀ F E : List Pr, W f F E = W (fun x y => f y x) E F
 | [], E => by rw [W_nil, W]
 | y :: F, E => by rw [W_cons_right, W, W_swap f F E]
theorem w1_map (g : Pr → Pr) (f : Pr → Int) : ∀ F : List Pr, w1 f (F.map g) = w1 (fun y => f (g y)) F
 | [] => rfl
 | y :: F => by rw [List.map_cons, w1, w1, w1_map g f F]
theorem W_map (g : Pr → Pr) (f : Pr → Pr → Int) (F : List Pr) : ∀ E : List Pr, W f (F.map g) (E.map g) = W (fun x y => f (g x) (g y)) F E
 | [] => rfl
 | x :: E => by rw [List.map_cons, W, W, w1_map, W_map g f F E]
def ind (p : Prop) [Decidable p] : Int := if p then 1 else 0
theorem w1_count (p : Pr → Bool) : ∀ F : List Pr, ((F.countP p : Nat) : Int) = w1 (fun y => ind (p y = true)) F
 | [] => rfl
 | y :: F => by
  have := w1_count p F
  rw [w1, ← this, List.countP_cons, ind]
  split <;> omega
theorem cross_W (F : List Pr) : ∀ E : List Pr, ((crossF E F : Nat) : Int) = W (fun x y => ind (x.1 < y.1 ∧ y.2 < x.2)) F E
 | [] => rfl
 | x :: E => by
  rw [crossF, W, ← cross_W F E, Int.natCast_add, w1_count]
  congr 1
  refine w1_congr fun y _ => ?_
  simp [ind, crossB]
theorem under_w1 (x : Int) (p : Pr → Bool) (g : Pr → Int) : ∀ F : List Pr, ((under ((F.filter p).map g) x : Nat) : Int) = w1 (fun y => ind (p y = true ∧ g y < x)) F
 | [] => rfl
 | y :: F => by
  have ih := under_w1 x p g F
  rw [w1, ← ih]
  by_cases hp : p y = true
  ·rw [List.filter_cons_of_pos hp, List.map_cons, under, under, List.filter_cons]
   by_cases hg : g y < x
   ·simp [ind, hp, hg]; omega
   ·simp [ind, hp, hg]
  ·rw [List.filter_cons_of_neg hp]
   simp [ind, hp]
theorem behind_W (p q : Pr → Bool) (g : Pr → Int) (F : List Pr) : ∀ E : List Pr, ((Zch ((E.filter p).map g) ((F.filter q).map g) : Nat) : Int) = W (fun x y => ind (p x = true ∧ q y = true ∧ g y < g x)) F E
 | [] => rfl
 | x :: E => by
  have ih := behind_W p q g F E
  rw [W, ← ih]
  by_cases hp : p x = true
  ·rw [List.filter_cons_of_pos hp, List.map_cons, Zch, Int.natCast_add, under_w1]
   congr 1
   refine w1_congr fun y _ => ?_
   simp [ind, hp]
  ·rw [List.filter_cons_of_neg hp]
   have : w1 (fun y => ind (p x = true ∧ q y = true ∧ g y < g x)) F = 0 := by
    rw [← w1_zero F]
    refine w1_congr fun y _ => ?_
    simp [ind, hp]
   rw [this]; omega
/-! ### Single sums of indicators -/
theorem sum_one (u : Int) (g : Nat → Int) : ∀ n : Nat, (∀ k : Nat, (k : Int) ≠ u → g k = 0) → sumZ g n = if 0 ≤ u ∧ u < n then g u.toNat else 0
 | 0, _ => by rw [sumZ, if_neg (by omega)]
 | n + 1, h => by
  rw [sumZ, sum_one u g n h]
  by_cases c : (n : Int) = u
  ·subst c
   rw [if_neg (by omega), if_pos (by omega), Int.toNat_natCast]; omega
  ·rw [h n c]
   by_cases c2 : 0 ≤ u ∧ u < n
   ·rw [if_pos c2, if_pos (by omega)]; omega
   ·rw [if_neg c2, if_neg (by omega)]; rfl
/-! ### The ends, as pairs -/
theorem placeF_at {y : List Int} (hn : y.Nodup) {v : Int} {p : Nat} (h : y[p]? = some v) : placeF y v = p := by
 have hi := idxOf_at hn h
 rw [placeF]
 cases hf : y.findIdx? (fun x => decide (x = v)) with
 | none =>
  have := List.findIdx?_eq_none_iff.1 hf v (List.mem_of_getElem? h)
  simp at this
 | some k =>
  obtain ⟨hk, hk2, _⟩ := List.findIdx?_eq_some_iff_getElem.1 hf
  have hv : y[k] = v := by simpa using hk2
  have := idxOf_at hn (k := k) (v := v) (by rw [List.getElem?_eq_getElem hk, hv])
  rw [idxI]; omega
theorem placeF_no {y : List Int} {v : Int} (h : v ∉ y) : placeF y v = -1 := by
 rw [placeF, findIdx_no]
 ·rfl
 ·intro j z hz
  simp only [decide_eq_false_iff_not]
  rintro rfl
  exact h (List.mem_of_getElem? hz)
theorem Lies.placeF {ls : List (List Int)} (hn : ls.flatten.Nodup) {v : Int} {r p i : Nat} {y : List Int} (h : Lies ls v r p) (hy : ls[i]? = some y) : Go.Proofs.YtldbcbclhpcofaaGreat.placeF y v = if r = i then (p : Int) else -1 := by
 by_cases c : r = i
 ·subst c
  rw [if_pos rfl]
  obtain ⟨z, h1, h2⟩ := h
  rw [hy] at h1; cases h1
  exact placeF_at ((List.pairwise_flatten.1 hn).1 y (List.mem_of_getElem? hy)) h2
 ·rw [if_neg c]
  refine placeF_no fun hv => ?_
  obtain ⟨q, hq⟩ := List.getElem?_of_mem hv
  exact c (h.layer hn ⟨y, hy, hq⟩)
theorem pairOf_joins {ls : List (List Int)} (hn : ls.flatten.Nodup) {x : Arc} {r p q i : Nat} {y z : List Int} (h : Joins ls x r p q) (hy : ls[i]? = some y) (hz : ls[i + 1]? = some z) : pairOf y z x = if r = i then [((p : Int), (q : Int))] else [] := by
 rw [pairOf, h.up.placeF hn hy, h.dn.placeF hn hz]
 by_cases c : r = i
 ·simp [c]
 ·simp [c]
theorem Joins.lt {ls : List (List Int)} {x : Arc} {r p q : Nat} (h : Joins ls x r p q) {y z : List Int} (hy : ls[r]? = some y) (hz : ls[r + 1]? = some z) : p < y.length ∧ q < z.length := by
 obtain ⟨⟨u, h1, h2⟩, ⟨v, h3, h4⟩⟩ := h
 rw [hy] at h1; cases h1
 rw [hz] at h3; cases h3
 exact ⟨(List.getElem?_eq_some_iff.1 h2).1, (List.getElem?_eq_some_iff.1 h4).1⟩
section valid
variable {ls : List (List Int)} {ar : List Arc} (hn : ls.flatten.Nodup) (hj : ∀ x, x ∈ ar → ∃ r p q, Joins ls x r p q) {i : Nat} {y z : List Int} (hy : ls[i]? = some y) (hz : ls[i + 1]? = some z)
include hn hj hy hz
theorem pairs_in : ∀ e, e ∈ Zbe y z ar → 0 ≤ e.1 ∧ e.1 < y.length ∧ 0 ≤ e.2 ∧ e.2 < z.length := by
 intro e he
 obtain ⟨x, hx, he⟩ := List.mem_flatMap.1 he
 obtain ⟨r, p, q, h⟩ := hj x hx
 rw [pairOf_joins hn h hy hz] at he
 split at he
 ·rename_i c
  subst c
  have := h.lt hy hz
  rw [List.mem_singleton] at he
  subst he
  dsimp only; omega
 ·cases he
theorem ends_down (p' : Nat) : endsN ls ar i ((i : Int) + 1) ar.length p' = ((Zbe y z ar).filter fun e : Pr => decide (e.1 = (p' : Int))).map (·.2) := by
 rw [endsN, List.take_length]
 induction ar with
 | nil => rfl
 | cons x ar ih =>
  obtain ⟨r, p, q, h⟩ := hj x (by simp)
  rw [List.flatMap_cons, ih (fun w hw => hj w (List.mem_cons_of_mem _ hw))]
  have e : Zbe y z (x :: ar) = pairOf y z x ++ Zbe y z ar := by simp [Zbe]
  rw [e, List.filter_append, List.map_append]
  congr 1
  rw [pairOf_joins hn h hy hz, endsAt, h.up.ly hn, h.dn.ly hn, h.up.pl hn, h.dn.pl hn]
  by_cases c : r = i
  ·subst c
   rw [if_pos ⟨rfl, by omega⟩, if_pos rfl]
   by_cases c2 : (p : Int) = p'
   ·simp [c2]
   ·simp [c2]
  ·rw [if_neg (by omega), if_neg (by omega), if_neg c]; rfl
theorem ends_up (q' : Nat) : endsN ls ar ((i + 1 : Nat) : Int) i ar.length q' = ((Zbe y z ar).filter fun e : Pr => decide (e.2 = (q' : Int))).map (·.1) := by
 rw [endsN, List.take_length]
 induction ar with
 | nil => rfl
 | cons x ar ih =>
  obtain ⟨r, p, q, h⟩ := hj x (by simp)
  rw [List.flatMap_cons, ih (fun w hw => hj w (List.mem_cons_of_mem _ hw))]
  have e : Zbe y z (x :: ar) = pairOf y z x ++ Zbe y z ar := by simp [Zbe]
  rw [e, List.filter_append, List.map_append]
  congr 1
  rw [pairOf_joins hn h hy hz, endsAt, h.up.ly hn, h.dn.ly hn, h.up.pl hn, h.dn.pl hn]
  by_cases c : r = i
  ·subst c
   rw [if_neg (by omega), if_pos ⟨by omega, rfl⟩, if_pos rfl]
   by_cases c2 : (q : Int) = q'
   ·simp [c2]
   ·simp [c2]
  ·rw [if_neg (by omega), if_neg (by omega), if_neg c]; rfl
end valid
end Go.Proofs.YtldbcbclhpcofaaGreat
namespace Go.Proofs.YtldbcbclhpcofaaGreat
open Go Go.PS Go.Proofs

theorem ind_zero {p : Prop} [Decidable p] (h : ¬ p) : ind p = 0 := by simp [ind, h]
theorem ind_one {p : Prop} [Decidable p] (h : p) : ind p = 1 := by simp [ind, h]
theorem ind_congr {p q : Prop} [Decidable p] [Decidable q] (h : p ↔ q) : ind p = ind q := by
 by_cases hp : p
 ·rw [ind_one hp, ind_one (h.1 hp)]
 ·rw [ind_zero hp, ind_zero fun hq => hp (h.2 hq)]
theorem tri_sum (own other : Pr → Int) (P : List Pr) (n : Nat) (hin : ∀ e, e ∈ P → 0 ≤ own e ∧ own e < n) :
  sumZ (fun A => sumZ (fun B => W (fun x y => ind (own x = (B : Int) ∧ own y = (A : Int) ∧ other y < other x)) P P) A) n = W (fun x y => ind (own x < own y ∧ other y < other x)) P P := by
 simp only [W_sum]
 refine W_congr fun x hx y hy => ?_
 have h1 := hin x hx
 have h2 := hin y hy
 have hA : ∀ A : Nat, sumZ (fun B : Nat => ind (own x = (B : Int) ∧ own y = (A : Int) ∧ other y < other x)) A = ind (own x < A ∧ own y = (A : Int) ∧ other y < other x) := fun A => by
  rw [sum_one (own x) _ A fun k hk => ind_zero fun h => hk h.1.symm]
  by_cases c : own x < A
  ·rw [if_pos ⟨h1.1, c⟩]
   refine ind_congr ?_
   constructor
   ·rintro ⟨_, h⟩; exact ⟨c, h⟩
   ·rintro ⟨_, h⟩; exact ⟨by omega, h⟩
  ·rw [if_neg (fun h => c h.2), ind_zero fun h => c h.1]
 simp only [hA]
 rw [sum_one (own y) _ n fun k hk => ind_zero fun h => hk h.2.1.symm, if_pos h2]
 refine ind_congr ?_
 constructor
 ·rintro ⟨h, _, h'⟩; exact ⟨by omega, h'⟩
 ·rintro ⟨h, h'⟩; exact ⟨by omega, by omega, h'⟩
theorem lstN_map (f : Nat → List Int) {n k : Nat} (h : k < n) : lstN ((List.range n).map f) k = f k := by simp [lstN, h]
theorem cellAt_mat {E : List (List Int)} {u v : Nat} (hu : u < E.length) (hv : v < E.length) : Zao (matF E) u v = cellF E u v := by
 rw [Zao, matF, lstN_map _ hu, at0, Int.toNat_natCast]
 simp [hv]
structure Near (a : Lv) (i : Nat) (y z : List Int) : Prop where
 ok : Zay a = true
 hy : a.2.1[i]? = some y
 hz : a.2.1[i + 1]? = some z
namespace Near
variable {a : Lv} {i : Nat} {y z : List Int}
theorem joins (h : Near a i y z) : ∀ x, x ∈ a.2.2.1 → ∃ r p q, Joins a.2.1 x r p q := fun x hx => by
 obtain ⟨k, hk⟩ := List.getElem?_of_mem hx
 exact valid_joins h.ok hk
theorem lt (h : Near a i y z) : i + 1 < a.2.1.length := (List.getElem?_eq_some_iff.1 h.hz).1
theorem ins (h : Near a i y z) : ∀ e, e ∈ Zbe y z a.2.2.1 → 0 ≤ e.1 ∧ e.1 < y.length ∧ 0 ≤ e.2 ∧ e.2 < z.length := pairs_in (Zcc h.ok) h.joins h.hy h.hz
theorem matD (h : Near a i y z) : Zau a i ((i : Int) + 1) = matF (endsF a.2.1 a.2.2.1 i ((i : Int) + 1) y.length) := by
 have hl := h.lt
 have hok : matOk a i ((i : Int) + 1) = true := by
  simp [matOk, h.ok]; omega
 rw [Zau, if_pos hok, lenAt, Int.toNat_natCast, h.hy]; rfl
theorem matU (h : Near a i y z) : Zau a ((i : Int) + 1) i = matF (endsF a.2.1 a.2.2.1 ((i + 1 : Nat) : Int) i z.length) := by
 have hl := h.lt
 have hok : matOk a ((i : Int) + 1) i = true := by
  simp [matOk, h.ok]; omega
 rw [Zau, if_pos hok, lenAt, show ((i : Int) + 1).toNat = i + 1 by omega, h.hz]; rfl
theorem lenD (h : Near a i y z) : (Zau a i ((i : Int) + 1)).length = y.length := by rw [h.matD]; simp [matF, endsF]
theorem cellD (h : Near a i y z) {u v : Nat} (hu : u < y.length) (hv : v < y.length) : Zao (Zau a i ((i : Int) + 1)) u v = if u = v then 0 else W (fun x w => ind (x.1 = (u : Int) ∧ w.1 = (v : Int) ∧ w.2 < x.2)) (Zbe y z a.2.2.1) (Zbe y z a.2.2.1) := by
 rw [h.matD, cellAt_mat (by simpa [endsF] using hu) (by simpa [endsF] using hv), cellF]
 split
 ·rfl
 ·rw [endsF, lstN_map _ hu, lstN_map _ hv, ends_down (Zcc h.ok) h.joins h.hy h.hz, ends_down (Zcc h.ok) h.joins h.hy h.hz, behind_W]
  simp only [decide_eq_true_eq]
theorem cellU (h : Near a i y z) {u v : Nat} (hu : u < z.length) (hv : v < z.length) : Zao (Zau a ((i : Int) + 1) i) u v = if u = v then 0 else W (fun x w => ind (x.2 = (u : Int) ∧ w.2 = (v : Int) ∧ w.1 < x.1)) (Zbe y z a.2.2.1) (Zbe y z a.2.2.1) := by
 rw [h.matU, cellAt_mat (by simpa [endsF] using hu) (by simpa [endsF] using hv), cellF]
 split
 ·rfl
 ·rw [endsF, lstN_map _ hu, lstN_map _ hv, ends_up (Zcc h.ok) h.joins h.hy h.hz, ends_up (Zcc h.ok) h.joins h.hy h.hz, behind_W]
  simp only [decide_eq_true_eq]
abbrev cr (_ : Near a i y z) : Int := W (fun x w => ind (x.1 < w.1 ∧ w.2 < x.2)) (Zbe y z a.2.2.1) (Zbe y z a.2.2.1)
theorem between (h : Near a i y z) : Zbk a i = h.cr := by
 have hl := h.lt
 rw [Zbk, if_neg (by simp only [noPair, decide_eq_true_eq]; omega), triF, h.lenD]
 rw [sumZ_congr (g := fun A => sumZ (fun B => W (fun x w => ind (x.1 = (B : Int) ∧ w.1 = (A : Int) ∧ w.2 < x.2)) (Zbe y z a.2.2.1) (Zbe y z a.2.2.1)) A) _ fun A hA => sumZ_congr _ fun B hB => by rw [h.cellD (by omega) hA, if_neg (by omega)]]
 exact tri_sum (fun e => e.1) (fun e => e.2) _ _ fun e he => ⟨(h.ins e he).1, (h.ins e he).2.1⟩
theorem rbetween (h : Near a i y z) : Zcb a i = h.cr := by
 have hl := h.lt
 rw [Zcb, if_neg (by rw [h.ok]; simp; omega), Int.toNat_natCast, lstN, lstN, h.hy, h.hz, Option.getD_some, Option.getD_some, cross_W]
end Near
namespace Near
variable {a : Lv} {i : Nat} {y z : List Int}
end Near
theorem near_of {a : Lv} (h : Zay a = true) {i : Nat} (hi : i + 1 < a.2.1.length) : ∃ y z, Near a i y z := by
 obtain ⟨y, hy⟩ := Zan (l := a.2.1) (k := i) (by omega)
 obtain ⟨z, hz⟩ := Zan hi
 exact ⟨y, z, h, hy, hz⟩
theorem between_same (a : Lv) (i : Int) : Zbk a i = Zcb a i := by
 rcases h : Zay a with _ | _
 ·have hm : Zau a i (i + 1) = [] := by rw [Zau, if_neg (by simp [matOk, h])]
  have e2 : Zcb a i = 0 := by rw [Zcb, if_pos (.inl h)]
  rw [e2, Zbk, hm]
  split <;> rfl
 ·by_cases c : 0 ≤ i ∧ i + 1 < a.2.1.length
  ·obtain ⟨n, rfl⟩ : ∃ n : Nat, i = n := ⟨i.toNat, by omega⟩
   obtain ⟨y, z, hn⟩ := near_of h (i := n) (by omega)
   rw [hn.between, hn.rbetween]
  ·rw [Zcb, if_pos (by rw [h]; simp; omega)]
   rw [Zbk]
   split
   ·rfl
   ·rename_i h2
    simp only [noPair, decide_eq_true_eq] at h2
    omega
theorem total_same (a : Lv) : Zbg a = rTotalF a := sumZ_congr _ fun i _ => between_same a i
end Go.Proofs.YtldbcbclhpcofaaGreat
namespace Go.Proofs.YtldbcbclhpcofaaGreat
open Go Go.PS Go.Proofs
set_option maxRecDepth 100000
attribute [local irreducible] Zax wpG Zah Zai

end Go.Proofs.YtldbcbclhpcofaaGreat
namespace Go.Proofs.YtldbcbclhpcofaaGreat
open Go Go.PS Go.Proofs
set_option maxRecDepth 100000
attribute [local irreducible] Zax wpG Zah Zai

end Go.Proofs.YtldbcbclhpcofaaGreat
namespace Go.Proofs.YtldbcbclhpcofaaGreat
open Go Go.PS Go.Proofs

theorem sortL_congr {l m : List Int} (h : l.Perm m) : sortL l = sortL m :=
 List.Perm.eq_of_pairwise (le := (· ≤ ·)) (fun a b _ _ h1 h2 => Int.le_antisymm h1 h2) (sortL_sorted l) (sortL_sorted m) ((sortL_perm l).trans (h.trans (sortL_perm m).symm))
namespace Near
variable {a : Lv} {i : Nat} {y z : List Int}
end Near
namespace Near
variable {a : Lv} {i k : Nat} {y z : List Int}
end Near
end Go.Proofs.YtldbcbclhpcofaaGreat
