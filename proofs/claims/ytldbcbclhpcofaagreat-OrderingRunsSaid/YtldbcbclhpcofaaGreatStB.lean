/- The exhaustive search: sums of orders, the best order that begins with a list. -/
import Derived.Test.YtldbcbclhpcofaaGreatCn
import Derived.Test.YtldbcbclhpcofaaGreatPSBridge
set_option linter.unusedSimpArgs false
set_option linter.unusedVariables false
namespace Go.Proofs.YtldbcbclhpcofaaGreat
open Go Go.PS Go.Proofs
open Go.Bd (sm sumC Small low Part bestF foldB better)
set_option maxRecDepth 100000
attribute [local irreducible] Zax wpG Zah Zai

def lwF (m : List (List Int)) (k : Nat) : Int := sm (fun u => sm (fun v => min (Zao m u v) (Zao m v u)) u) k
theorem lw_low (m : List (List Int)) : low (Zao m) m.length [] = lwF m m.length := by
 rw [low, lwF]
 refine Go.Bd.sm_congr _ fun u _ => Go.Bd.sm_congr _ fun v _ => ?_
 rw [if_pos ⟨List.not_mem_nil, List.not_mem_nil⟩, Int.min_comm]
theorem iteI_min (a b : Int) : (if b < a then b else a) = min a b := by omega
theorem lw_in {m : List (List Int)} (hs : Sq m) (h8 : m.length ≤ 8) {u : Nat} (hu : u < m.length) (k : Nat) (hk : k ≤ u) : 0 ≤ sm (fun v => min (Zao m u v) (Zao m v u)) k ∧ sm (fun v => min (Zao m u v) (Zao m v u)) k ≤ 1000000 * k :=
 Go.Bd.sm_bounds k fun v hv => by
  have h1 := hs.small u v hu (by omega)
  have h2 := hs.small v u (by omega) hu
  omega
theorem lw_bounds {m : List (List Int)} (hs : Sq m) (h8 : m.length ≤ 8) (k : Nat) (hk : k ≤ m.length) : 0 ≤ lwF m k ∧ lwF m k ≤ 8000000 * k :=
 Go.Bd.sm_bounds k fun u hu => by
  have := lw_in hs h8 (u := u) (by omega) u (Nat.le_refl _)
  omega
set_option maxHeartbeats 1000000 in
theorem Lower_spec (m : List (List Int)) (h : okM m = true) : Zah Tryz.prog 52 [Zaj m] (.int (low (Zao m) m.length [])) := by
 have hv := bValid_spec m
 rw [h] at hv
 obtain ⟨hs, h8⟩ := ok_sq h
 rw [lw_low]
 refine Zaf Tryz.func52 rfl (by decide +kernel) (Nat.le_of_ble_eq_true rfl) ?_
 intro hat B X w0
 repeat' first | refine Zad rfl ?_ | refine Zac ?_ | refine wR ?_ | (refine rc (hv) rfl ?_ ?_; (· first | rfl | simp (disch := omega) only [go_sem, simprocAttr])) | (refine Zaa rfl rfl (fun hc => ?_) (fun hc => ?_) <;> try simp only [hcL] at hc) | (refine Zab _ rfl rfl (fun hc => ?_) (fun hc => ?_) <;> (try simp only [hcL] at hc) <;> try omega) | simp (disch := omega) only [go_sem, simprocAttr] | apply And.intro | omega | decide +kernel
 refine Zap (κ := Nat) (fun (u : Nat) => u ≤ m.length) (fun (u : Nat) => [(0, .d (Zaj m)), (3, .int (lwF m u)), (10, .int m.length), (11, .int u)]) (fun (u : Nat) => []) (fun (u : Nat) => m.length - u) 0 ?_ ?_ ?_
 ·exact Nat.zero_le _
 ·exact eL [] _ _ (by refine ⟨?_, ?_⟩ <;> (repeat' first | exact fmn | refine fmc ⟨(by first | rfl | (simp (disch := omega) only [go_sem, simprocAttr, inL, lwF, sm]; first | done | omega | (congr 1; done))), ?_⟩); done)
 ·intro u hu
  have hb := lw_bounds hs h8 u hu
  rcases Nat.lt_or_ge u m.length with hlt | hge
  ·have e1 : lwF m (u + 1) = lwF m u + sm (fun v => min (Zao m u v) (Zao m v u)) u := rfl
   repeat' first | refine Zad rfl ?_ | refine Zac ?_ | refine wR ?_ | (refine Zaa rfl rfl (fun hc => ?_) (fun hc => ?_) <;> try simp only [hcL] at hc) | (refine Zab _ rfl rfl (fun hc => ?_) (fun hc => ?_) <;> (try simp only [hcL] at hc) <;> try omega) | simp (disch := omega) only [go_sem, simprocAttr] | apply And.intro | omega | decide +kernel
   refine Zap (κ := Nat) (fun (v : Nat) => v ≤ u) (fun (v : Nat) => [(0, .d (Zaj m)), (3, .int (lwF m u + sm (fun v => min (Zao m u v) (Zao m v u)) v)), (4, .int u), (10, .int m.length), (11, .int u), (14, .int u), (15, .int v)]) (fun (v : Nat) => []) (fun (v : Nat) => u - v) 0 ?_ ?_ ?_
   ·exact Nat.zero_le _
   ·exact eL [] _ _ (by refine ⟨?_, ?_⟩ <;> (repeat' first | exact fmn | refine fmc ⟨(by first | rfl | (simp (disch := omega) only [go_sem, simprocAttr, inL, sm, Int.add_zero]; first | done | omega | (congr 1; done))), ?_⟩); done)
   ·intro v hv
    have hb2 := lw_in hs h8 hlt v hv
    rcases Nat.lt_or_ge v u with hlv | hgv
    ·obtain ⟨p, hp, hpl, hpv, h1, h2⟩ := hs.get hlt (show v < m.length by omega)
     obtain ⟨q, hq, hql, hqv, h3, h4⟩ := hs.get (show v < m.length by omega) hlt
     have e2 : sm (fun v => min (Zao m u v) (Zao m v u)) (v + 1) = sm (fun v => min (Zao m u v) (Zao m v u)) v + min (Zao m u v) (Zao m v u) := rfl
     repeat' first | refine Zad rfl ?_ | refine Zac ?_ | refine wR ?_ | (refine Zaa rfl rfl (fun hc => ?_) (fun hc => ?_) <;> try simp only [hcL] at hc) | (refine Zab _ rfl rfl (fun hc => ?_) (fun hc => ?_) <;> (try simp only [hcL] at hc) <;> try omega) | simp (disch := omega) only [go_sem, simprocAttr, hp, hq, hpv, hqv, iteI_min] | apply And.intro | omega | decide +kernel
     refine ⟨v + 1, ?_, eL [] _ _ (by refine ⟨?_, ?_⟩ <;> (repeat' first | exact fmn | refine fmc ⟨(by first | rfl | (simp (disch := omega) only [go_sem, simprocAttr, inL, e2, Int.add_assoc]; first | done | omega | (congr 1; done))), ?_⟩); done), ?_⟩
     ·omega
     ·omega
    ·have : v = u := by omega
     subst this
     repeat' first | refine Zad rfl ?_ | refine Zac ?_ | refine wR ?_ | (refine Zaa rfl rfl (fun hc => ?_) (fun hc => ?_) <;> try simp only [hcL] at hc) | (refine Zab _ rfl rfl (fun hc => ?_) (fun hc => ?_) <;> (try simp only [hcL] at hc) <;> try omega) | simp (disch := omega) only [go_sem, simprocAttr] | apply And.intro | omega | decide +kernel
     refine ⟨v + 1, ?_, eL [] _ _ (by refine ⟨?_, ?_⟩ <;> (repeat' first | exact fmn | refine fmc ⟨(by first | rfl | (simp (disch := omega) only [go_sem, simprocAttr, inL, e1]; first | done | omega | (congr 1; done))), ?_⟩); done), ?_⟩
     ·omega
     ·omega
  ·have : u = m.length := by omega
   subst this
   repeat' first | refine Zad rfl ?_ | refine Zac ?_ | refine wR ?_ | (refine Zaa rfl rfl (fun hc => ?_) (fun hc => ?_) <;> try simp only [hcL] at hc) | (refine Zab _ rfl rfl (fun hc => ?_) (fun hc => ?_) <;> (try simp only [hcL] at hc) <;> try omega) | simp (disch := omega) only [go_sem, simprocAttr] | apply And.intro | omega | decide +kernel
   exact Zar rfl
theorem drop_at {l : List Nat} {i u : Nat} (h : l[i]? = some u) : l.drop i = u :: l.drop (i + 1) := by
 obtain ⟨hl, he⟩ := List.getElem?_eq_some_iff.1 h
 rw [← he]; exact List.drop_eq_getElem_cons hl
set_option maxHeartbeats 1000000 in
theorem sum_spec (m : List (List Int)) (l : List Nat) (hs : Sq m) (h8 : m.length ≤ 8) (hl : ∀ v, v ∈ l → v < m.length) (hll : l.length ≤ 8) : Zah Tryz.prog 88 [Zaj m, Zam l] (.int (sumC (Zao m) l)) := by
 have hbd : ∀ i, 0 ≤ sumC (Zao m) (l.drop i) ∧ sumC (Zao m) (l.drop i) ≤ 64000000 := fun i => by
  have := Go.Bd.sumC_bounds hs.small (l.drop i) (fun v hv => hl v (List.mem_of_mem_drop hv)) (by rw [List.length_drop]; omega)
  rw [List.length_drop] at this
  omega
 have hb0 := hbd 0
 rw [List.drop_zero] at hb0
 refine Zaf Tryz.func88 rfl (by decide +kernel) (Nat.le_of_ble_eq_true rfl) ?_
 intro hat B X w0
 repeat' first | refine Zad rfl ?_ | refine Zac ?_ | refine wR ?_ | (refine Zaa rfl rfl (fun hc => ?_) (fun hc => ?_) <;> try simp only [hcL] at hc) | (refine Zab _ rfl rfl (fun hc => ?_) (fun hc => ?_) <;> (try simp only [hcL] at hc) <;> try omega) | simp (disch := omega) only [go_sem, simprocAttr] | apply And.intro | omega | decide +kernel
 refine Zap (κ := Nat) (fun (i : Nat) => i ≤ l.length) (fun (i : Nat) => [(0, .d (Zaj m)), (1, .d (Zam l)), (5, .int (sumC (Zao m) l - sumC (Zao m) (l.drop i))), (6, .int i)]) (fun (i : Nat) => []) (fun (i : Nat) => l.length - i) 0 ?_ ?_ ?_
 ·exact Nat.zero_le _
 ·exact eL [] _ _ (by refine ⟨?_, ?_⟩ <;> (repeat' first | exact fmn | refine fmc ⟨(by first | rfl | (simp (disch := omega) only [go_sem, simprocAttr, inL, List.drop_zero, Int.sub_self]; first | done | omega | (congr 1; done))), ?_⟩); done)
 ·intro i hi
  have b1 := hbd i
  rcases Nat.lt_or_ge i l.length with hlt | hge
  ·obtain ⟨u, hu⟩ := Zan hlt
   have hd := drop_at hu
   have hul := hl u (List.mem_of_getElem? hu)
   have b2 := hbd (i + 1)
   have e1 : sumC (Zao m) (l.drop i) = ((l.drop (i + 1)).map (Zao m u)).sum + sumC (Zao m) (l.drop (i + 1)) := by rw [hd]; rfl
   have hdl : (l.drop (i + 1)).length = l.length - (i + 1) := List.length_drop ..
   have hsb : ∀ j, 0 ≤ (((l.drop (i + 1)).take j).map (Zao m u)).sum ∧ (((l.drop (i + 1)).take j).map (Zao m u)).sum ≤ 8000000 := fun j => by
    have := Go.Bd.sum_bounds (f := Zao m u) (K := 1000000) ((l.drop (i + 1)).take j) fun v hv => hs.small u v hul (hl v (List.mem_of_mem_drop (List.mem_of_mem_take hv)))
    rw [List.length_take, hdl] at this
    omega
   generalize sumC (Zao m) l = S at *
   generalize sumC (Zao m) (l.drop i) = S1 at *
   repeat' first | refine Zad rfl ?_ | refine Zac ?_ | refine wR ?_ | (refine Zaa rfl rfl (fun hc => ?_) (fun hc => ?_) <;> try simp only [hcL] at hc) | (refine Zab _ rfl rfl (fun hc => ?_) (fun hc => ?_) <;> (try simp only [hcL] at hc) <;> try omega) | simp (disch := omega) only [go_sem, simprocAttr] | apply And.intro | omega | decide +kernel
   refine Zap (κ := Nat) (fun (j : Nat) => j ≤ l.length - (i + 1)) (fun (j : Nat) => [(0, .d (Zaj m)), (1, .d (Zam l)), (5, .int (S - S1 + (((l.drop (i + 1)).take j).map (Zao m u)).sum)), (6, .int i), (7, .int (i + 1 + j : Nat))]) (fun (j : Nat) => []) (fun (j : Nat) => l.length - j) 0 ?_ ?_ ?_
   ·exact Nat.zero_le _
   ·exact eL [] _ _ (by refine ⟨?_, ?_⟩ <;> (repeat' first | exact fmn | refine fmc ⟨(by first | rfl | (simp (disch := omega) only [go_sem, simprocAttr, inL, List.take_zero, List.map_nil, List.sum_nil, Int.add_zero, Int.natCast_add, Int.natCast_one]; first | done | omega | (congr 1; done))), ?_⟩); done)
   ·intro j hj
    have hb2 := hsb j
    rcases Nat.lt_or_ge (i + 1 + j) l.length with hlj | hgj
    ·obtain ⟨v, hv⟩ := Zan hlj
     have hvl := hl v (List.mem_of_getElem? hv)
     obtain ⟨p, hp, hpl, hpv, h1, h2⟩ := hs.get hul hvl
     have e2 : (((l.drop (i + 1)).take (j + 1)).map (Zao m u)).sum = (((l.drop (i + 1)).take j).map (Zao m u)).sum + Zao m u v := by
      rw [Zat (x := v) (by rw [List.getElem?_drop]; exact hv), List.map_append, List.sum_append]; simp
     repeat' first | refine Zad rfl ?_ | refine Zac ?_ | refine wR ?_ | (refine Zaa rfl rfl (fun hc => ?_) (fun hc => ?_) <;> try simp only [hcL] at hc) | (refine Zab _ rfl rfl (fun hc => ?_) (fun hc => ?_) <;> (try simp only [hcL] at hc) <;> try omega) | simp (disch := omega) only [go_sem, simprocAttr, hu, hv, hp, hpv] | apply And.intro | omega | decide +kernel
     refine ⟨j + 1, ?_, eL [] _ _ (by refine ⟨?_, ?_⟩ <;> (repeat' first | exact fmn | refine fmc ⟨(by first | rfl | (simp (disch := omega) only [go_sem, simprocAttr, inL, e2, Int.natCast_add, Int.natCast_one, Int.add_assoc]; first | done | omega | (congr 1; done))), ?_⟩); done), ?_⟩
     ·omega
     ·omega
    ·have : j = l.length - (i + 1) := by omega
     subst this
     have ht : (l.drop (i + 1)).take (l.length - (i + 1)) = l.drop (i + 1) := List.take_of_length_le (by omega)
     have e3 : S - S1 + (((l.drop (i + 1)).take (l.length - (i + 1))).map (Zao m u)).sum = S - sumC (Zao m) (l.drop (i + 1)) := by rw [ht]; omega
     repeat' first | refine Zad rfl ?_ | refine Zac ?_ | refine wR ?_ | (refine Zaa rfl rfl (fun hc => ?_) (fun hc => ?_) <;> try simp only [hcL] at hc) | (refine Zab _ rfl rfl (fun hc => ?_) (fun hc => ?_) <;> (try simp only [hcL] at hc) <;> try omega) | simp (disch := omega) only [go_sem, simprocAttr] | apply And.intro | omega | decide +kernel
     refine ⟨i + 1, ?_, eL [] _ _ (by refine ⟨?_, ?_⟩ <;> (repeat' first | exact fmn | refine fmc ⟨(by first | rfl | (simp (disch := omega) only [go_sem, simprocAttr, inL, e3]; first | done | omega | (congr 1; done))), ?_⟩); done), ?_⟩
     ·omega
     ·omega
  ·have : i = l.length := by omega
   subst this
   have : sumC (Zao m) (l.drop l.length) = 0 := by rw [List.drop_length]; rfl
   repeat' first | refine Zad rfl ?_ | refine Zac ?_ | refine wR ?_ | (refine Zaa rfl rfl (fun hc => ?_) (fun hc => ?_) <;> try simp only [hcL] at hc) | (refine Zab _ rfl rfl (fun hc => ?_) (fun hc => ?_) <;> (try simp only [hcL] at hc) <;> try omega) | simp (disch := omega) only [go_sem, simprocAttr] | apply And.intro | omega | decide +kernel
   exact Zar (by omega)
end Go.Proofs.YtldbcbclhpcofaaGreat
namespace Go.Proofs.YtldbcbclhpcofaaGreat
open Go Go.PS Go.Proofs
open Go.Bd (sm sumC Small low Part bestF foldB better)
set_option maxRecDepth 100000
attribute [local irreducible] Zax wpG Zah Zai

def outL : Option (List Nat × Int) → List Nat
 | none => []
 | some s => s.1
def leastL : Option (List Nat × Int) → Int
 | none => -1
 | some s => s.2
set_option maxHeartbeats 4000000 in
theorem best_rec (m : List (List Int)) (hs : Sq m) (h8 : m.length ≤ 8) : ∀ (f : Nat) (l : List Nat), Part m.length f l → ∀ (b : List Nat) (k : Int), bestF (Zao m) m.length f l = some (b, k) →
  Zai Tryz.prog 58 [.d (Zaj m), .ref 1000 1 0 l.length l.length] [(1000, .row 1 (l.map natD)), (2000, .dead)] (.tup [.ref 2000 1 0 b.length b.length, .int k]) [(1000, .gone), (2000, .row 1 (b.map natD))] := by
 intro f
 induction f with
 | zero =>
  intro l hp b k hb
  have hll := hp.len
  rw [bestF] at hb
  cases hb
  have h1 := sum_spec m l hs h8 hp.lt (by omega)
  refine Zag Tryz.func58 rfl (by decide +kernel) (Nat.le_of_ble_eq_true rfl) rfl (Zba rfl) rfl rfl rfl ?_
  intro B X w0
  refine Zcs ?_
  have hlI : (l.length : Int) = m.length := by omega
  repeat' first | refine Zad rfl ?_ | refine Zac ?_ | refine wR ?_ | (refine rc (h1) rfl ?_ ?_; (· first | rfl | simp (disch := omega) only [go_sem, simprocAttr, hlI, Zae])) | (refine Zaa rfl rfl (fun hc => ?_) (fun hc => ?_) <;> try simp only [hcL] at hc) | (refine Zab _ rfl rfl (fun hc => ?_) (fun hc => ?_) <;> (try simp only [hcL] at hc) <;> try omega) | simp (disch := omega) only [go_sem, simprocAttr, hlI, Zae] | apply And.intro | omega | decide +kernel
  refine ⟨_, ent_move 1000 2000 rfl (by decide) (by decide), ?_⟩
  exact ⟨⟨_, rfl, by simp [ResAllM, ResIsM, mvG, upd, PV.ren, hlI]; done⟩, List.forall_mem_cons.2 ⟨rfl, List.forall_mem_cons.2 ⟨by simp [mvG, upd, obOf, Ob.ren, PV.ren], List.forall_mem_nil _⟩⟩⟩
 | succ f IH =>
  intro l hp b k hb
  have hll := hp.len
  rw [Go.Bd.best_foldB] at hb
  refine Zag Tryz.func58 rfl (by decide +kernel) (Nat.le_of_ble_eq_true rfl) rfl (Zba rfl) rfl rfl rfl ?_
  intro B X w0
  refine Zcs ?_
  repeat' first | refine Zad rfl ?_ | refine Zac ?_ | refine wR ?_ | (refine Zaa rfl rfl (fun hc => ?_) (fun hc => ?_) <;> try simp only [hcL] at hc) | (refine Zab _ rfl rfl (fun hc => ?_) (fun hc => ?_) <;> (try simp only [hcL] at hc) <;> try omega) | simp (disch := omega) only [go_sem, simprocAttr] | apply And.intro | omega | decide +kernel
  refine Zbd _ (ent_nil 6 902 1 rfl rfl) ?_
  refine Zap (κ := Nat) (fun (v : Nat) => v ≤ m.length) (fun (v : Nat) => [(0, .d (Zaj m)), (1, .ref 1000 1 0 l.length l.length), (6, .ref 902 1 0 (outL (foldB (Zao m) m.length f l v)).length (outL (foldB (Zao m) m.length f l v)).length), (7, .int (leastL (foldB (Zao m) m.length f l v))), (8, .int v)]) (fun (v : Nat) => [(902, .row 1 ((outL (foldB (Zao m) m.length f l v)).map natD)), (1000, .row 1 (l.map natD))]) (fun (v : Nat) => m.length - v) 0 ?_ ?_ ?_
  ·exact Nat.zero_le _
  ·exact eL [] _ _ (by refine ⟨?_, ?_⟩ <;> (repeat' first | exact fmn | refine fmc ⟨(by first | rfl | (simp (disch := omega) only [go_sem, simprocAttr, inL, Go.Bd.foldB_zero, outL, leastL, List.length_nil, List.map_nil]; first | done | omega | (congr 1; done))), ?_⟩); done)
  ·intro v hv
   rcases Nat.lt_or_ge v m.length with hlt | hge
   ·have hin := inN_spec l v
    by_cases hm : v ∈ l
    ·rw [decide_eq_true hm] at hin
     have e1 := Go.Bd.foldB_in (Zao m) m.length (f := f) hm
     repeat' first | refine Zad rfl ?_ | refine Zac ?_ | refine wR ?_ | (refine rc (hin) rfl ?_ ?_; (· first | rfl | simp (disch := omega) only [go_sem, simprocAttr, Zae])) | (refine Zaa rfl rfl (fun hc => ?_) (fun hc => ?_) <;> try simp only [hcL] at hc) | (refine Zab _ rfl rfl (fun hc => ?_) (fun hc => ?_) <;> (try simp only [hcL] at hc) <;> try omega) | simp (disch := omega) only [go_sem, simprocAttr, Zae] | apply And.intro | omega | decide +kernel
     refine ⟨v + 1, ?_, eL [] _ _ (by refine ⟨?_, ?_⟩ <;> (repeat' first | exact fmn | refine fmc ⟨(by first | rfl | (simp (disch := omega) only [go_sem, simprocAttr, inL, e1]; first | done | omega | (congr 1; done))), ?_⟩); done), ?_⟩
     ·omega
     ·omega
    ·rw [decide_eq_false hm] at hin
     have hp' := hp.snoc hlt hm
     obtain ⟨⟨b', k'⟩, hb'⟩ := Go.Bd.best_some (c := Zao m) f (l ++ [v]) hp'
     have ih := IH (l ++ [v]) hp' b' k' hb'
     obtain ⟨g1, g2, g3, _⟩ := Go.Bd.best_bounds hs.small h8 hp' hb'
     dsimp only at g1 g2 g3
     simp only [List.length_append, List.length_cons, List.length_nil, List.map_append, List.map_cons, List.map_nil, Nat.zero_add] at ih
     have e1 := Go.Bd.foldB_out (Zao m) m.length (f := f) hm
     rw [hb'] at e1
     have hfb := Go.Bd.foldB_bounds hs.small h8 hp v hv
     rcases hst : foldB (Zao m) m.length f l v with _ | ⟨b0, k0⟩ <;> rw [hst] at e1 hfb
     ·have e2 : foldB (Zao m) m.length f l (v + 1) = some (b', k') := e1
      repeat' first | refine Zad rfl ?_ | refine Zac ?_ | refine Zcx (Nat.beq 31) hmix ?_ | (refine rc (hin) rfl ?_ ?_; (· first | rfl | simp (disch := omega) only [go_sem, simprocAttr, Zae, outL, leastL, Zbb])) | refine rcM [(1000, 36), (2000, 903)] (ih) rfl ?_ | (refine Zaa rfl rfl (fun hc => ?_) (fun hc => ?_) <;> try simp only [hcL] at hc) | (refine Zab _ rfl rfl (fun hc => ?_) (fun hc => ?_) <;> (try simp only [hcL] at hc) <;> try omega) | simp (disch := omega) only [go_sem, simprocAttr, Zae, outL, leastL, Zbb] | (first | exact nat_cells l | exact nat_one v) | apply And.intro | omega | decide +kernel
      refine ⟨v + 1, ?_, eL [(902, 903)] _ _ (by refine ⟨?_, ?_⟩ <;> (repeat' first | exact fmn | refine fmc ⟨(by first | rfl | (simp (disch := omega) only [go_sem, simprocAttr, inL, e2, outL, leastL]; first | done | omega | (congr 1; done))), ?_⟩); done), ?_⟩
      ·omega
      ·omega
     ·obtain ⟨g4, g5, g6⟩ := hfb _ rfl
      dsimp only at g4 g5 g6
      by_cases hk : k' < k0
      ·have e2 : foldB (Zao m) m.length f l (v + 1) = some (b', k') := by rw [e1, better, if_pos hk]
       repeat' first | refine Zad rfl ?_ | refine Zac ?_ | refine Zcx (Nat.beq 31) hmix ?_ | (refine rc (hin) rfl ?_ ?_; (· first | rfl | simp (disch := omega) only [go_sem, simprocAttr, Zae, outL, leastL, Zbb, hk])) | refine rcM [(1000, 36), (2000, 903)] (ih) rfl ?_ | (refine Zaa rfl rfl (fun hc => ?_) (fun hc => ?_) <;> try simp only [hcL] at hc) | (refine Zab _ rfl rfl (fun hc => ?_) (fun hc => ?_) <;> (try simp only [hcL] at hc) <;> try omega) | simp (disch := omega) only [go_sem, simprocAttr, Zae, outL, leastL, Zbb, hk] | (first | exact nat_cells l | exact nat_one v) | apply And.intro | omega | decide +kernel
       refine ⟨v + 1, ?_, eL [(902, 903)] _ _ (by refine ⟨?_, ?_⟩ <;> (repeat' first | exact fmn | refine fmc ⟨(by first | rfl | (simp (disch := omega) only [go_sem, simprocAttr, inL, e2, outL, leastL]; first | done | omega | (congr 1; done))), ?_⟩); done), ?_⟩
       ·omega
       ·omega
      ·have e2 : foldB (Zao m) m.length f l (v + 1) = some (b0, k0) := by rw [e1, better, if_neg hk]
       repeat' first | refine Zad rfl ?_ | refine Zac ?_ | refine Zcx (Nat.beq 31) hmix ?_ | (refine rc (hin) rfl ?_ ?_; (· first | rfl | simp (disch := omega) only [go_sem, simprocAttr, Zae, outL, leastL, Zbb, hk])) | refine rcM [(1000, 36), (2000, 903)] (ih) rfl ?_ | (refine Zaa rfl rfl (fun hc => ?_) (fun hc => ?_) <;> try simp only [hcL] at hc) | (refine Zab _ rfl rfl (fun hc => ?_) (fun hc => ?_) <;> (try simp only [hcL] at hc) <;> try omega) | simp (disch := omega) only [go_sem, simprocAttr, Zae, outL, leastL, Zbb, hk] | (first | exact nat_cells l | exact nat_one v) | apply And.intro | omega | decide +kernel
       refine ⟨v + 1, ?_, eL [] _ _ (by refine ⟨?_, ?_⟩ <;> (repeat' first | exact fmn | refine fmc ⟨(by first | rfl | (simp (disch := omega) only [go_sem, simprocAttr, inL, e2, outL, leastL]; first | done | omega | (congr 1; done))), ?_⟩); done), ?_⟩
       ·omega
       ·omega
   ·have : v = m.length := by omega
    subst this
    rw [hb]
    repeat' first | refine Zad rfl ?_ | refine Zac ?_ | refine wR ?_ | (refine Zaa rfl rfl (fun hc => ?_) (fun hc => ?_) <;> try simp only [hcL] at hc) | (refine Zab _ rfl rfl (fun hc => ?_) (fun hc => ?_) <;> (try simp only [hcL] at hc) <;> try omega) | simp (disch := omega) only [go_sem, simprocAttr, outL, leastL] | apply And.intro | omega | decide +kernel
    refine ⟨_, Ent.trans (ent_gone 1000) (Zbh.1 (eL [(2000, 902)] [(4, .ref 2000 1 0 b.length b.length), (5, .int k)] [(1000, .gone), (2000, .row 1 (b.map natD))] (by constructor <;> (repeat' first | exact List.forall_mem_nil _ | refine List.forall_mem_cons.2 ⟨rfl, ?_⟩)))), ?_⟩
    exact ⟨⟨_, rfl, rfl, rfl, trivial⟩, List.forall_mem_cons.2 ⟨rfl, List.forall_mem_cons.2 ⟨rfl, List.forall_mem_nil _⟩⟩⟩
set_option maxHeartbeats 4000000 in
theorem best_data (m : List (List Int)) (hs : Sq m) (h8 : m.length ≤ 8) (f : Nat) (l : List Nat) (hp : Part m.length (f + 1) l) (b : List Nat) (k : Int) (hb : foldB (Zao m) m.length f l m.length = some (b, k)) :
  Zah Tryz.prog 58 [Zaj m, Zam l] (.tup [Zam b, .int k]) := by
 have hll := hp.len
 refine Zaf Tryz.func58 rfl (by decide +kernel) (Nat.le_of_ble_eq_true rfl) ?_
 intro hat B X w0
 repeat' first | refine Zad rfl ?_ | refine Zac ?_ | refine wR ?_ | (refine Zaa rfl rfl (fun hc => ?_) (fun hc => ?_) <;> try simp only [hcL] at hc) | (refine Zab _ rfl rfl (fun hc => ?_) (fun hc => ?_) <;> (try simp only [hcL] at hc) <;> try omega) | simp (disch := omega) only [go_sem, simprocAttr] | apply And.intro | omega | decide +kernel
 refine Zbd _ (ent_nil 6 902 1 rfl rfl) ?_
 refine Zap (κ := Nat) (fun (v : Nat) => v ≤ m.length) (fun (v : Nat) => [(0, .d (Zaj m)), (1, .d (Zam l)), (6, .ref 902 1 0 (outL (foldB (Zao m) m.length f l v)).length (outL (foldB (Zao m) m.length f l v)).length), (7, .int (leastL (foldB (Zao m) m.length f l v))), (8, .int v)]) (fun (v : Nat) => [(902, .row 1 ((outL (foldB (Zao m) m.length f l v)).map natD))]) (fun (v : Nat) => m.length - v) 0 ?_ ?_ ?_
 ·exact Nat.zero_le _
 ·exact eL [] _ _ (by refine ⟨?_, ?_⟩ <;> (repeat' first | exact fmn | refine fmc ⟨(by first | rfl | (simp (disch := omega) only [go_sem, simprocAttr, inL, Go.Bd.foldB_zero, outL, leastL, List.length_nil, List.map_nil]; first | done | omega | (congr 1; done))), ?_⟩); done)
 ·intro v hv
  rcases Nat.lt_or_ge v m.length with hlt | hge
  ·have hin := inN_spec l v
   by_cases hm : v ∈ l
   ·rw [decide_eq_true hm] at hin
    have e1 := Go.Bd.foldB_in (Zao m) m.length (f := f) hm
    repeat' first | refine Zad rfl ?_ | refine Zac ?_ | refine wR ?_ | (refine rc (hin) rfl ?_ ?_; (· first | rfl | simp (disch := omega) only [go_sem, simprocAttr, Zae])) | (refine Zaa rfl rfl (fun hc => ?_) (fun hc => ?_) <;> try simp only [hcL] at hc) | (refine Zab _ rfl rfl (fun hc => ?_) (fun hc => ?_) <;> (try simp only [hcL] at hc) <;> try omega) | simp (disch := omega) only [go_sem, simprocAttr, Zae] | apply And.intro | omega | decide +kernel
    refine ⟨v + 1, ?_, eL [] _ _ (by refine ⟨?_, ?_⟩ <;> (repeat' first | exact fmn | refine fmc ⟨(by first | rfl | (simp (disch := omega) only [go_sem, simprocAttr, inL, e1]; first | done | omega | (congr 1; done))), ?_⟩); done), ?_⟩
    ·omega
    ·omega
   ·rw [decide_eq_false hm] at hin
    have hp' := hp.snoc hlt hm
    obtain ⟨⟨b', k'⟩, hb'⟩ := Go.Bd.best_some (c := Zao m) f (l ++ [v]) hp'
    have ih := best_rec m hs h8 f (l ++ [v]) hp' b' k' hb'
    obtain ⟨g1, g2, g3, _⟩ := Go.Bd.best_bounds hs.small h8 hp' hb'
    dsimp only at g1 g2 g3
    simp only [List.length_append, List.length_cons, List.length_nil, List.map_append, List.map_cons, List.map_nil, Nat.zero_add] at ih
    have e1 := Go.Bd.foldB_out (Zao m) m.length (f := f) hm
    rw [hb'] at e1
    have hfb := Go.Bd.foldB_bounds hs.small h8 hp v hv
    rcases hst : foldB (Zao m) m.length f l v with _ | ⟨b0, k0⟩ <;> rw [hst] at e1 hfb
    ·have e2 : foldB (Zao m) m.length f l (v + 1) = some (b', k') := e1
     repeat' first | refine Zad rfl ?_ | refine Zac ?_ | refine Zcx (Nat.beq 31) hmix ?_ | (refine rc (hin) rfl ?_ ?_; (· first | rfl | simp (disch := omega) only [go_sem, simprocAttr, Zae, outL, leastL, Zbb])) | refine rcM [(1000, 36), (2000, 903)] (ih) rfl ?_ | (refine Zaa rfl rfl (fun hc => ?_) (fun hc => ?_) <;> try simp only [hcL] at hc) | (refine Zab _ rfl rfl (fun hc => ?_) (fun hc => ?_) <;> (try simp only [hcL] at hc) <;> try omega) | simp (disch := omega) only [go_sem, simprocAttr, Zae, outL, leastL, Zbb] | (first | exact nat_cells l | exact nat_one v) | apply And.intro | omega | decide +kernel
     refine ⟨v + 1, ?_, eL [(902, 903)] _ _ (by refine ⟨?_, ?_⟩ <;> (repeat' first | exact fmn | refine fmc ⟨(by first | rfl | (simp (disch := omega) only [go_sem, simprocAttr, inL, e2, outL, leastL]; first | done | omega | (congr 1; done))), ?_⟩); done), ?_⟩
     ·omega
     ·omega
    ·obtain ⟨g4, g5, g6⟩ := hfb _ rfl
     dsimp only at g4 g5 g6
     by_cases hk : k' < k0
     ·have e2 : foldB (Zao m) m.length f l (v + 1) = some (b', k') := by rw [e1, better, if_pos hk]
      repeat' first | refine Zad rfl ?_ | refine Zac ?_ | refine Zcx (Nat.beq 31) hmix ?_ | (refine rc (hin) rfl ?_ ?_; (· first | rfl | simp (disch := omega) only [go_sem, simprocAttr, Zae, outL, leastL, Zbb, hk])) | refine rcM [(1000, 36), (2000, 903)] (ih) rfl ?_ | (refine Zaa rfl rfl (fun hc => ?_) (fun hc => ?_) <;> try simp only [hcL] at hc) | (refine Zab _ rfl rfl (fun hc => ?_) (fun hc => ?_) <;> (try simp only [hcL] at hc) <;> try omega) | simp (disch := omega) only [go_sem, simprocAttr, Zae, outL, leastL, Zbb, hk] | (first | exact nat_cells l | exact nat_one v) | apply And.intro | omega | decide +kernel
      refine ⟨v + 1, ?_, eL [(902, 903)] _ _ (by refine ⟨?_, ?_⟩ <;> (repeat' first | exact fmn | refine fmc ⟨(by first | rfl | (simp (disch := omega) only [go_sem, simprocAttr, inL, e2, outL, leastL]; first | done | omega | (congr 1; done))), ?_⟩); done), ?_⟩
      ·omega
      ·omega
     ·have e2 : foldB (Zao m) m.length f l (v + 1) = some (b0, k0) := by rw [e1, better, if_neg hk]
      repeat' first | refine Zad rfl ?_ | refine Zac ?_ | refine Zcx (Nat.beq 31) hmix ?_ | (refine rc (hin) rfl ?_ ?_; (· first | rfl | simp (disch := omega) only [go_sem, simprocAttr, Zae, outL, leastL, Zbb, hk])) | refine rcM [(1000, 36), (2000, 903)] (ih) rfl ?_ | (refine Zaa rfl rfl (fun hc => ?_) (fun hc => ?_) <;> try simp only [hcL] at hc) | (refine Zab _ rfl rfl (fun hc => ?_) (fun hc => ?_) <;> (try simp only [hcL] at hc) <;> try omega) | simp (disch := omega) only [go_sem, simprocAttr, Zae, outL, leastL, Zbb, hk] | (first | exact nat_cells l | exact nat_one v) | apply And.intro | omega | decide +kernel
      refine ⟨v + 1, ?_, eL [] _ _ (by refine ⟨?_, ?_⟩ <;> (repeat' first | exact fmn | refine fmc ⟨(by first | rfl | (simp (disch := omega) only [go_sem, simprocAttr, inL, e2, outL, leastL]; first | done | omega | (congr 1; done))), ?_⟩); done), ?_⟩
      ·omega
      ·omega
  ·have : v = m.length := by omega
   subst this
   rw [hb]
   repeat' first | refine Zad rfl ?_ | refine Zac ?_ | refine wR ?_ | (refine Zaa rfl rfl (fun hc => ?_) (fun hc => ?_) <;> try simp only [hcL] at hc) | (refine Zab _ rfl rfl (fun hc => ?_) (fun hc => ?_) <;> (try simp only [hcL] at hc) <;> try omega) | simp (disch := omega) only [go_sem, simprocAttr, outL, leastL] | apply And.intro | omega | decide +kernel
   exact ⟨_, rfl, Zci (o := 902) rfl rfl (by simp) (Zae _ _), Zar rfl, trivial⟩
theorem best_full (m : List (List Int)) (l : List Nat) (hs : Sq m) (h8 : m.length ≤ 8) (hl : ∀ v, v ∈ l → v < m.length) (hll : l.length = m.length) : Zah Tryz.prog 58 [Zaj m, Zam l] (.tup [Zam l, .int (sumC (Zao m) l)]) := by
 have h1 := sum_spec m l hs h8 hl (by omega)
 refine Zaf Tryz.func58 rfl (by decide +kernel) (Nat.le_of_ble_eq_true rfl) ?_
 intro hat B X w0
 repeat' first | refine Zad rfl ?_ | refine Zac ?_ | refine wR ?_ | (refine rc (h1) rfl ?_ ?_; (· first | rfl | simp (disch := omega) only [go_sem, simprocAttr, hll])) | (refine Zaa rfl rfl (fun hc => ?_) (fun hc => ?_) <;> try simp only [hcL] at hc) | (refine Zab _ rfl rfl (fun hc => ?_) (fun hc => ?_) <;> (try simp only [hcL] at hc) <;> try omega) | simp (disch := omega) only [go_sem, simprocAttr, hll] | apply And.intro | omega | decide +kernel
 exact ⟨_, rfl, Zcd rfl, Zar rfl, trivial⟩
theorem part_nil (n : Nat) : Part n n [] := ⟨List.nodup_nil, fun v hv => absurd hv List.not_mem_nil, by simp⟩
def Zbm (m : List (List Int)) : List Nat × Int := (bestF (Zao m) m.length m.length []).getD ([], 0)
theorem bestAll_eq (m : List (List Int)) : bestF (Zao m) m.length m.length [] = some (Zbm m) := by
 obtain ⟨s, hs⟩ := Go.Bd.best_some (c := Zao m) m.length [] (part_nil _)
 rw [Zbm, hs]; rfl
theorem best_all (m : List (List Int)) (hs : Sq m) (h8 : m.length ≤ 8) : Zah Tryz.prog 58 [Zaj m, .sl []] (.tup [Zam (Zbm m).1, .int (Zbm m).2]) := by
 have hb := bestAll_eq m
 have hp := part_nil m.length
 rcases hn : m.length with _ | f
 ·rw [hn, bestF] at hb
  have h0 := best_full m [] hs h8 (fun v hv => absurd hv List.not_mem_nil) (by rw [hn]; rfl)
  rw [Option.some.injEq] at hb
  rw [← hb]; exact h0
 ·rw [hn] at hb hp
  rw [Go.Bd.best_foldB] at hb
  rw [← hn] at hb
  exact best_data m hs h8 f [] (by rw [hn]; exact hp) _ _ hb
theorem rLeast_spec (m : List (List Int)) : Zah Tryz.prog 29 [Zaj m] (if okM m then .tup [Zam (Zbm m).1, .int (Zbm m).2, .int 0] else .tup [.sl [], .int 0, .int 1]) := by
 have hv := rbValid_spec m
 rcases h : okM m with _ | _ <;> rw [h] at hv
 ·rw [if_neg (by decide)]
  refine Zaf Tryz.func29 rfl (by decide +kernel) (Nat.le_of_ble_eq_true rfl) ?_
  intro hat B X w0
  repeat' first | refine Zad rfl ?_ | refine Zac ?_ | refine wR ?_ | (refine rc (hv) rfl ?_ ?_; (· first | rfl | simp (disch := omega) only [go_sem, simprocAttr])) | (refine Zaa rfl rfl (fun hc => ?_) (fun hc => ?_) <;> try simp only [hcL] at hc) | (refine Zab _ rfl rfl (fun hc => ?_) (fun hc => ?_) <;> (try simp only [hcL] at hc) <;> try omega) | simp (disch := omega) only [go_sem, simprocAttr] | apply And.intro | omega | decide +kernel
  exact ⟨_, rfl, Zcd rfl, Zar rfl, Zar rfl, trivial⟩
 ·rw [if_pos rfl]
  obtain ⟨hs, h8⟩ := ok_sq h
  have hb := best_all m hs h8
  refine Zaf Tryz.func29 rfl (by decide +kernel) (Nat.le_of_ble_eq_true rfl) ?_
  intro hat B X w0
  repeat' first | refine Zad rfl ?_ | refine Zac ?_ | refine wR ?_ | (refine rc (hv) rfl ?_ ?_; (· first | rfl | simp (disch := omega) only [go_sem, simprocAttr])) | (refine rc (hb) rfl ?_ ?_; (· first | rfl | simp (disch := omega) only [go_sem, simprocAttr])) | (refine Zaa rfl rfl (fun hc => ?_) (fun hc => ?_) <;> try simp only [hcL] at hc) | (refine Zab _ rfl rfl (fun hc => ?_) (fun hc => ?_) <;> (try simp only [hcL] at hc) <;> try omega) | simp (disch := omega) only [go_sem, simprocAttr] | apply And.intro | omega | decide +kernel
  exact ⟨_, rfl, Zcd rfl, Zar rfl, Zar rfl, trivial⟩
end Go.Proofs.YtldbcbclhpcofaaGreat
namespace Go.Proofs.YtldbcbclhpcofaaGreat
open Go Go.PS Go.Proofs
open Go.Bd (sm sumC Small low Part bestF foldB better extF foldE more less shut)
set_option maxRecDepth 100000
attribute [local irreducible] Zax wpG Zah Zai

theorem cloneN_spec (l : List Nat) (hn : l.length ≤ 1000000) : Zai Tryz.prog 62 [.ref 1000 1 0 l.length l.length] [(1000, .row 1 (l.map natD)), (2000, .dead)] (.ref 2000 1 0 l.length l.length) [(1000, .row 1 (l.map natD)), (2000, .row 1 (l.map natD))] := by
 rcases Decidable.em (l = []) with rfl | hl
 ·refine Zag Tryz.func62 rfl (by decide +kernel) (Nat.le_of_ble_eq_true rfl) rfl (Zba rfl) rfl rfl rfl ?_
  intro B X w0
  refine Zcs ?_
  repeat' first | refine Zad rfl ?_ | refine Zac ?_ | refine wR ?_ | (refine Zaa rfl rfl (fun hc => ?_) (fun hc => ?_) <;> try simp only [hcL] at hc) | (refine Zab _ rfl rfl (fun hc => ?_) (fun hc => ?_) <;> (try simp only [hcL] at hc) <;> try omega) | simp (disch := omega) only [go_sem, simprocAttr] | apply And.intro | omega | decide +kernel
  refine pw_anyb 4 rfl ?_
  intro b
  cases b
  ·repeat' first | refine Zad rfl ?_ | refine Zac ?_ | refine Zcx (Nat.beq 5) hmix ?_ | (refine Zaa rfl rfl (fun hc => ?_) (fun hc => ?_) <;> try simp only [hcL] at hc) | (refine Zab _ rfl rfl (fun hc => ?_) (fun hc => ?_) <;> (try simp only [hcL] at hc) <;> try omega) | simp (disch := omega) only [go_sem, simprocAttr, Zbb] | apply And.intro | omega | decide +kernel
   refine ⟨_, Zbh.1 (eL [(2000, 7)] [(2, .ref 2000 1 0 0 0)] [(1000, .row 1 []), (2000, .row 1 [])] (by refine ⟨?_, ?_⟩ <;> (repeat' first | exact fmn | refine fmc ⟨(by first | rfl | (simp (disch := omega) only [go_sem, simprocAttr, inL]; first | done | omega | (congr 1; done))), ?_⟩); done)), ?_⟩
   exact ⟨rfl, List.forall_mem_cons.2 ⟨rfl, List.forall_mem_cons.2 ⟨rfl, List.forall_mem_nil _⟩⟩⟩
  ·repeat' first | refine Zad rfl ?_ | refine Zac ?_ | refine wR ?_ | (refine Zaa rfl rfl (fun hc => ?_) (fun hc => ?_) <;> try simp only [hcL] at hc) | (refine Zab _ rfl rfl (fun hc => ?_) (fun hc => ?_) <;> (try simp only [hcL] at hc) <;> try omega) | simp (disch := omega) only [go_sem, simprocAttr] | apply And.intro | omega | decide +kernel
   refine ⟨_, Ent.trans (ent_nil 2 7 1 rfl rfl) (Zbh.1 (eL [(2000, 7)] [(2, .ref 2000 1 0 0 0)] [(1000, .row 1 []), (2000, .row 1 [])] (by constructor <;> (repeat' first | exact List.forall_mem_nil _ | refine List.forall_mem_cons.2 ⟨rfl, ?_⟩)))), ?_⟩
   exact ⟨rfl, List.forall_mem_cons.2 ⟨rfl, List.forall_mem_cons.2 ⟨rfl, List.forall_mem_nil _⟩⟩⟩
 ·have he : (l.map natD).isEmpty = false := by simpa using hl
  have hpos : 0 < l.length := List.length_pos_iff.2 hl
  have hne : l.length ≠ 0 := by omega
  refine Zag Tryz.func62 rfl (by decide +kernel) (Nat.le_of_ble_eq_true rfl) rfl (Zba rfl) rfl rfl rfl ?_
  intro B X w0
  refine Zcs ?_
  repeat' first | refine Zad rfl ?_ | refine Zac ?_ | refine Zcx (Nat.beq 5) hmix ?_ | (refine Zaa rfl rfl (fun hc => ?_) (fun hc => ?_) <;> try simp only [hcL] at hc) | (refine Zab _ rfl rfl (fun hc => ?_) (fun hc => ?_) <;> (try simp only [hcL] at hc) <;> try omega) | simp (disch := omega) only [go_sem, simprocAttr, he, Zbb, Zae, hne] | exact nat_cells l | apply And.intro | omega | decide +kernel
  refine ⟨_, Zbh.1 (eL [(2000, 7)] [(2, .ref 2000 1 0 l.length l.length)] [(1000, .row 1 (l.map natD)), (2000, .row 1 (l.map natD))] (by refine ⟨?_, ?_⟩ <;> (repeat' first | exact fmn | refine fmc ⟨(by first | rfl | (simp (disch := omega) only [go_sem, simprocAttr, inL]; first | done | omega | (congr 1; done))), ?_⟩); done)), ?_⟩
  exact ⟨rfl, List.forall_mem_cons.2 ⟨rfl, List.forall_mem_cons.2 ⟨rfl, List.forall_mem_nil _⟩⟩⟩
def bPV : Option (List Nat × Int) → PV
 | none => .nilS
 | some s => .d (Zam s.1)
def lI : Option (List Nat × Int) → Int
 | none => 0
 | some s => s.2
theorem ext_len (c : Nat → Nat → Int) (n : Nat) : ∀ (f : Nat) (l : List Nat), Part n f l → ∀ (st : Option (List Nat × Int)) (cost rest : Int), (∀ s, st = some s → s.1.length = n) → ∀ s, extF c n f l cost rest st = some s → s.1.length = n
 | 0, l, hp, st, cost, rest, h, s, hs => by
  rw [extF] at hs
  split at hs
  ·exact h s hs
  ·cases hs; have := hp.len; dsimp only; omega
 | f + 1, l, hp, st, cost, rest, h, s, hs => by
  rw [Go.Bd.ext_foldE] at hs
  split at hs
  ·exact h s hs
  ·have key : ∀ k, k ≤ n → ∀ s, foldE c n f l cost rest st k = some s → s.1.length = n := by
    intro k
    induction k with
    | zero => intro _ s hs; exact h s hs
    | succ k ih =>
     intro hk s hs
     by_cases hm : k ∈ l
     ·rw [Go.Bd.foldE_in c n hm] at hs; exact ih (by omega) s hs
     ·rw [Go.Bd.foldE_out c n hm] at hs
      exact ext_len c n f (l ++ [k]) (hp.snoc (by omega) hm) _ _ _ (ih (by omega)) s hs
   exact key n (Nat.le_refl _) s hs
theorem foldE_len {c : Nat → Nat → Int} {n f : Nat} {l : List Nat} (hp : Part n (f + 1) l) {st : Option (List Nat × Int)} {cost rest : Int} (h : ∀ s, st = some s → s.1.length = n) : ∀ k, k ≤ n → ∀ s, foldE c n f l cost rest st k = some s → s.1.length = n := by
 intro k
 induction k with
 | zero => intro _ s hs; exact h s hs
 | succ k ih =>
  intro hk s hs
  by_cases hm : k ∈ l
  ·rw [Go.Bd.foldE_in c n hm] at hs; exact ih (by omega) s hs
  ·rw [Go.Bd.foldE_out c n hm] at hs
   exact ext_len c n f (l ++ [k]) (hp.snoc (by omega) hm) _ _ _ (ih (by omega)) s hs
def ExtOk (m : List (List Int)) (f : Nat) (l : List Nat) (st : Option (List Nat × Int)) (cost rest : Int) : Prop :=
 Zai Tryz.prog 51 [.ptr 1000 0 0 0, .int cost, .int rest] [(1000, .cells [.d (Zaj m), .ref 1001 1 0 l.length l.length, bPV st, .int (lI st)]), (1001, .row 1 (l.map natD)), (2000, .dead)] (.tup [])
  [(1000, .cells [.d (Zaj m), .ref 2000 1 0 l.length l.length, bPV (extF (Zao m) m.length f l cost rest st), .int (lI (extF (Zao m) m.length f l cost rest st))]), (1001, .gone), (2000, .row 1 (l.map natD))]
structure ExtIn (m : List (List Int)) (l : List Nat) (st : Option (List Nat × Int)) (cost rest : Int) : Prop where
 len : ∀ s, st = some s → s.1.length = m.length
 pos : 0 < m.length ∨ st = none
 c0 : 0 ≤ cost
 c1 : cost ≤ 8000000 * l.length
 r0 : -8000000 * l.length ≤ rest
 r1 : rest ≤ 64000000
theorem ext_shut (m : List (List Int)) (f : Nat) (l : List Nat) (st : Option (List Nat × Int)) (cost rest : Int) (hi : ExtIn m l st cost rest) (hl : l.length ≤ 8) (hsh : shut st (cost + rest) = true) (he : extF (Zao m) m.length f l cost rest st = st) : ExtOk m f l st cost rest := by
 rw [ExtOk, he]
 rcases st with _ | ⟨b, k⟩
 ·cases hsh
 ·have hk : k ≤ cost + rest := by simpa [shut] using hsh
  have hbl := hi.len _ rfl
  have hpos : 0 < m.length := hi.pos.resolve_right (by simp)
  have hne : (b.map natD).isEmpty = false := by
   cases b with
   | nil => simp at hbl; omega
   | cons x b => rfl
  obtain ⟨_, _, c0, c1, r0, r1⟩ := hi
  simp only [bPV, lI]
  refine Zag Tryz.func51 rfl (by decide +kernel) (Nat.le_of_ble_eq_true rfl) rfl (Zba rfl) rfl rfl rfl ?_
  intro B X w0
  refine Zcs ?_
  repeat' first | refine Zad rfl ?_ | refine Zac ?_ | refine wR ?_ | (refine Zaa rfl rfl (fun hc => ?_) (fun hc => ?_) <;> try simp only [hcL] at hc) | (refine Zab _ rfl rfl (fun hc => ?_) (fun hc => ?_) <;> (try simp only [hcL] at hc) <;> try omega) | simp (disch := omega) only [go_sem, simprocAttr, hne, hk] | apply And.intro | omega | decide +kernel
  refine ⟨_, ent_move 1001 2000 rfl (by decide) (by decide), ?_⟩
  exact ⟨⟨[], rfl, trivial⟩, List.forall_mem_cons.2 ⟨by simp [mvG, upd, obOf, Ob.ren, PV.ren], List.forall_mem_cons.2 ⟨rfl, List.forall_mem_cons.2 ⟨by simp [mvG, upd, obOf, Ob.ren, PV.ren], List.forall_mem_nil _⟩⟩⟩⟩
theorem ext_zero (m : List (List Int)) (hs : Sq m) (h8 : m.length ≤ 8) (l : List Nat) (hp : Part m.length 0 l) (st : Option (List Nat × Int)) (cost rest : Int) (hi : ExtIn m l st cost rest) (hsh : shut st (cost + rest) = false) : ExtOk m 0 l st cost rest := by
 have hll := hp.len
 have hlI : (l.length : Int) = m.length := by omega
 have he : extF (Zao m) m.length 0 l cost rest st = some (l, cost) := by rw [extF, if_neg (by rw [hsh]; decide)]
 rw [ExtOk, he]
 have hcl := cloneN_spec l (by omega)
 rcases st with _ | ⟨b, k⟩
 ·obtain ⟨_, _, c0, c1, r0, r1⟩ := hi
  simp only [bPV, lI]
  refine Zag Tryz.func51 rfl (by decide +kernel) (Nat.le_of_ble_eq_true rfl) rfl (Zba rfl) rfl rfl rfl ?_
  intro B X w0
  refine Zcs ?_
  repeat' first | refine Zad rfl ?_ | refine Zac ?_ | refine wR ?_ | refine rcM [(1000, 1001), (2000, 905)] (hcl) rfl ?_ | (refine Zaa rfl rfl (fun hc => ?_) (fun hc => ?_) <;> try simp only [hcL] at hc) | (refine Zab _ rfl rfl (fun hc => ?_) (fun hc => ?_) <;> (try simp only [hcL] at hc) <;> try omega) | simp (disch := omega) only [go_sem, simprocAttr, hlI] | apply And.intro | omega | decide +kernel
  refine ⟨_, Ent.trans (Zbh.1 (eL [] [] [(1000, .cells [.d (Zaj m), .ref 1001 1 0 l.length l.length, .ref 905 1 0 l.length l.length, .int cost]), (1001, .row 1 (l.map natD)), (905, .row 1 (l.map natD))] (by constructor <;> (repeat' first | exact List.forall_mem_nil _ | refine List.forall_mem_cons.2 ⟨rfl, ?_⟩)))) (Ent.trans (Zcm 905 1 (l.map natD) rfl (Zcn _ rfl) (by decide)) (ent_move 1001 2000 rfl (by decide) (by decide))), ?_⟩
  exact ⟨⟨[], rfl, trivial⟩, List.forall_mem_cons.2 ⟨by simp [mvG, upd, obOf, Ob.ren, PV.ren, frzObs_at, Ob.frz, PV.frzL, PV.frz, Zae, hlI], List.forall_mem_cons.2 ⟨rfl, List.forall_mem_cons.2 ⟨by simp [mvG, upd, obOf, Ob.ren, PV.ren, frzObs_at, Ob.frz], List.forall_mem_nil _⟩⟩⟩⟩
 ·have hk : ¬ k ≤ cost + rest := by simpa [shut] using hsh
  have hbl := hi.len _ rfl
  have hpos : 0 < m.length := hi.pos.resolve_right (by simp)
  have hne : (b.map natD).isEmpty = false := by
   cases b with
   | nil => simp at hbl; omega
   | cons x b => rfl
  obtain ⟨_, _, c0, c1, r0, r1⟩ := hi
  simp only [bPV, lI]
  refine Zag Tryz.func51 rfl (by decide +kernel) (Nat.le_of_ble_eq_true rfl) rfl (Zba rfl) rfl rfl rfl ?_
  intro B X w0
  refine Zcs ?_
  repeat' first | refine Zad rfl ?_ | refine Zac ?_ | refine wR ?_ | refine rcM [(1000, 1001), (2000, 905)] (hcl) rfl ?_ | (refine Zaa rfl rfl (fun hc => ?_) (fun hc => ?_) <;> try simp only [hcL] at hc) | (refine Zab _ rfl rfl (fun hc => ?_) (fun hc => ?_) <;> (try simp only [hcL] at hc) <;> try omega) | simp (disch := omega) only [go_sem, simprocAttr, hne, hk, hlI] | apply And.intro | omega | decide +kernel
  refine ⟨_, Ent.trans (Zbh.1 (eL [] [] [(1000, .cells [.d (Zaj m), .ref 1001 1 0 l.length l.length, .ref 905 1 0 l.length l.length, .int cost]), (1001, .row 1 (l.map natD)), (905, .row 1 (l.map natD))] (by constructor <;> (repeat' first | exact List.forall_mem_nil _ | refine List.forall_mem_cons.2 ⟨rfl, ?_⟩)))) (Ent.trans (Zcm 905 1 (l.map natD) rfl (Zcn _ rfl) (by decide)) (ent_move 1001 2000 rfl (by decide) (by decide))), ?_⟩
  exact ⟨⟨[], rfl, trivial⟩, List.forall_mem_cons.2 ⟨by simp [mvG, upd, obOf, Ob.ren, PV.ren, frzObs_at, Ob.frz, PV.frzL, PV.frz, Zae, hlI], List.forall_mem_cons.2 ⟨rfl, List.forall_mem_cons.2 ⟨by simp [mvG, upd, obOf, Ob.ren, PV.ren, frzObs_at, Ob.frz], List.forall_mem_nil _⟩⟩⟩⟩
end Go.Proofs.YtldbcbclhpcofaaGreat
namespace Go.Proofs.YtldbcbclhpcofaaGreat
open Go Go.PS Go.Proofs
open Go.Bd (sm sumC Small low Part bestF foldB better extF foldE more less shut)
set_option maxRecDepth 100000
attribute [local irreducible] Zax wpG Zah Zai

def moreK (m : List (List Int)) (l : List Nat) (v k : Nat) : Int := sm (fun w => if w ≠ v ∧ w ∉ l then Zao m v w else 0) k
def lessK (m : List (List Int)) (l : List Nat) (v k : Nat) : Int := sm (fun w => if w ≠ v ∧ w ∉ l then min (Zao m v w) (Zao m w v) else 0) k
theorem pd_move {ids : List Nat} {S : St} {o o2 : Nat} (h1 : o ∈ ids) (h2 : o2 < 1000 ∨ 2000 ≤ o2) (h : Zbj ids S.objs) :
  Zbj ids (fun x => if x = o then .gone else if x = o2 then (S.objs o).ren (mvG o o2) else (S.objs x).ren (mvG o o2)) := fun i a b hi => by
 dsimp only
 rw [if_neg (fun e : i = o => hi (e ▸ h1)), if_neg (by omega), h i a b hi]; rfl
theorem moreK_in {m : List (List Int)} {l : List Nat} {v k : Nat} (h : ¬ (k ≠ v ∧ k ∉ l)) : moreK m l v (k + 1) = moreK m l v k := by rw [moreK, sm, if_neg h, Int.add_zero]; rfl
theorem moreK_out {m : List (List Int)} {l : List Nat} {v k : Nat} (h : k ≠ v ∧ k ∉ l) : moreK m l v (k + 1) = moreK m l v k + Zao m v k := by rw [moreK, sm, if_pos h]; rfl
theorem lessK_in {m : List (List Int)} {l : List Nat} {v k : Nat} (h : ¬ (k ≠ v ∧ k ∉ l)) : lessK m l v (k + 1) = lessK m l v k := by rw [lessK, sm, if_neg h, Int.add_zero]; rfl
theorem lessK_out {m : List (List Int)} {l : List Nat} {v k : Nat} (h : k ≠ v ∧ k ∉ l) : lessK m l v (k + 1) = lessK m l v k + min (Zao m v k) (Zao m k v) := by rw [lessK, sm, if_pos h]; rfl
set_option maxHeartbeats 16000000 in
theorem ext_main (m : List (List Int)) (hs : Sq m) (h8 : m.length ≤ 8) : ∀ (f : Nat) (l : List Nat), Part m.length f l → ∀ (st : Option (List Nat × Int)) (cost rest : Int), ExtIn m l st cost rest → ExtOk m f l st cost rest := by
 intro f
 induction f with
 | zero =>
  intro l hp st cost rest hi
  have hll := hp.len
  rcases hsh : shut st (cost + rest) with _ | _
  ·exact ext_zero m hs h8 l hp st cost rest hi hsh
  ·exact ext_shut m 0 l st cost rest hi (by omega) hsh (by rw [extF, if_pos hsh])
 | succ f IH =>
  intro l hp st cost rest hi
  have hll := hp.len
  rcases hsh : shut st (cost + rest) with _ | _
  ·rw [ExtOk, Go.Bd.ext_foldE, if_neg (by rw [hsh]; decide)]
   have hlen := foldE_len (cost := cost) (rest := rest) (c := Zao m) hp hi.len
   have hIH : ∀ v, v < m.length → v ∉ l → ExtOk m f (l ++ [v]) (foldE (Zao m) m.length f l cost rest st v) (cost + moreK m l v m.length) (rest - lessK m l v m.length) := fun v hv hm => by
    have b1 : 0 ≤ moreK m l v m.length ∧ moreK m l v m.length ≤ 1000000 * m.length := Go.Bd.more_bounds hs.small l hv m.length (Nat.le_refl _)
    have b2 : 0 ≤ lessK m l v m.length ∧ lessK m l v m.length ≤ 1000000 * m.length := Go.Bd.less_bounds hs.small l hv m.length (Nat.le_refl _)
    have b3 := hi.c0
    have b4 := hi.c1
    have b5 := hi.r0
    have b6 := hi.r1
    refine IH _ (hp.snoc hv hm) _ _ _ ⟨hlen v (by omega), .inl (by omega), by omega, ?_, ?_, by omega⟩
    ·rw [List.length_append, Int.natCast_add, Int.mul_add]
     simp only [List.length_cons, List.length_nil]
     omega
    ·rw [List.length_append, Int.natCast_add, Int.mul_add]
     simp only [List.length_cons, List.length_nil]
     omega
   obtain ⟨st0, hst0⟩ : ∃ st0, st = st0 := ⟨_, rfl⟩
   rw [hst0] at hlen hIH ⊢
   obtain ⟨hbl, hpos, c0, c1, r0, r1⟩ := hi
   obtain ⟨⟨be, ke⟩, hend⟩ : ∃ s, foldE (Zao m) m.length f l cost rest st0 m.length = some s := by
    obtain ⟨s, hx⟩ := Go.Bd.ext_some (c := Zao m) (f + 1) l hp cost rest st0
    rw [Go.Bd.ext_foldE, if_neg (by rw [← hst0, hsh]; decide)] at hx
    exact ⟨s, hx⟩
   rw [hend]
   all_goals
    rw [← hst0]
    rcases st with _ | ⟨b, k⟩
    all_goals simp only [bPV, lI]
    all_goals
     refine Zag Tryz.func51 rfl (by decide +kernel) (Nat.le_of_ble_eq_true rfl) rfl (Zba rfl) rfl rfl rfl ?_
    all_goals intro B X w0
    all_goals refine Zcs ?_
    ·have hnl : ¬ (l.length : Int) = m.length := by omega
     repeat' first | refine Zad rfl ?_ | refine Zac ?_ | refine wR ?_ | (refine Zaa rfl rfl (fun hc => ?_) (fun hc => ?_) <;> try simp only [hcL] at hc) | (refine Zab _ rfl rfl (fun hc => ?_) (fun hc => ?_) <;> (try simp only [hcL] at hc) <;> try omega) | simp (disch := omega) only [go_sem, simprocAttr, hnl] | apply And.intro | omega | decide +kernel
     refine Zap (κ := Nat) (fun (v : Nat) => v ≤ m.length) (fun (v : Nat) => [(0, .ptr 1000 0 0 0), (1, .int cost), (2, .int rest), (51, .d (Zaj m)), (52, .int m.length), (53, .int v)]) (fun (v : Nat) => [(1000, .cells [.d (Zaj m), .ref 901 1 0 l.length l.length, bPV (foldE (Zao m) m.length f l cost rest st0 v), .int (lI (foldE (Zao m) m.length f l cost rest st0 v))]), (1001, .gone), (901, .row 1 (l.map natD))]) (fun (v : Nat) => m.length - v) 0 ?_ ?_ ?_
     ·exact Nat.zero_le _
     ·try dsimp only
      rw [Go.Bd.foldE_zero, ← hst0]
      exact Zbh.2 (Ent.trans (ent_move 1001 901 rfl (by decide) (by decide)) (Zbh.1 (eL [] _ _ (by refine ⟨?_, ?_⟩ <;> (repeat' first | exact List.forall_mem_nil _ | refine List.forall_mem_cons.2 ⟨(by first | rfl | (simp (disch := omega) only [go_sem, simprocAttr, inL, bPV, lI]; first | done | omega | (congr 1; done))), ?_⟩); done) (h7 := pd_move (by simp) (by decide) (by repeat' first | exact pd_dead | exact pd_of _ rfl | refine pd_upd rfl ?_)))))
     ·intro v hv
      have hlv := hlen v hv
      rcases Nat.lt_or_ge v m.length with hlt | hge
      ·have hin := containsN_spec l v
       by_cases hm : v ∈ l
       ·rw [decide_eq_true hm] at hin
        have e1 := Go.Bd.foldE_in (Zao m) m.length (f := f) (cost := cost) (rest := rest) (st := st0) hm
        rcases hst : foldE (Zao m) m.length f l cost rest st0 v with _ | ⟨b0, k0⟩ <;> rw [hst] at e1 <;> simp only [bPV, lI]
        all_goals
         repeat' first | refine Zad rfl ?_ | refine Zac ?_ | refine wR ?_ | (refine rc (hin) rfl ?_ ?_; (· first | rfl | simp (disch := omega) only [go_sem, simprocAttr, Zae])) | (refine Zaa rfl rfl (fun hc => ?_) (fun hc => ?_) <;> try simp only [hcL] at hc) | (refine Zab _ rfl rfl (fun hc => ?_) (fun hc => ?_) <;> (try simp only [hcL] at hc) <;> try omega) | simp (disch := omega) only [go_sem, simprocAttr, Zae] | apply And.intro | omega | decide +kernel
         refine ⟨v + 1, ?_, ?_, ?_⟩
         ·omega
         ·try dsimp only
          rw [e1]
          exact eL [] _ _ (by refine ⟨?_, ?_⟩ <;> (repeat' first | exact fmn | refine fmc ⟨(by first | rfl | (simp (disch := omega) only [go_sem, simprocAttr, inL, bPV, lI]; first | done | omega | (congr 1; done))), ?_⟩); done)
         ·omega
       ·rw [decide_eq_false hm] at hin
        have e1 := Go.Bd.foldE_out (Zao m) m.length (f := f) (cost := cost) (rest := rest) (st := st0) hm
        have ih := hIH v hlt hm
        have en : (((l.length + 1 : Nat) : Int) - 1).toNat = l.length := by omega
        have hT : (l.map natD ++ [natD v]).take l.length = l.map natD := List.take_left' (List.length_map ..)
        rcases hst : foldE (Zao m) m.length f l cost rest st0 v with _ | ⟨b0, k0⟩
        all_goals
         rw [hst] at e1 ih
         have e3 : foldE (Zao m) m.length f l cost rest st0 (v + 1) = extF (Zao m) m.length f (l ++ [v]) (cost + moreK m l v m.length) (rest - lessK m l v m.length) _ := e1
         rw [ExtOk, ← e3] at ih
         obtain ⟨⟨b2, k2⟩, hst2⟩ : ∃ s, foldE (Zao m) m.length f l cost rest st0 (v + 1) = some s := by
          rw [e3]; exact Go.Bd.ext_some f (l ++ [v]) (hp.snoc hlt hm) _ _ _
         rw [hst2] at ih e3
         simp only [bPV, lI, List.length_append, List.length_cons, List.length_nil, List.map_append, List.map_cons, List.map_nil, Nat.zero_add] at ih ⊢
        ·repeat' first | refine Zad rfl ?_ | refine Zac ?_ | refine wR ?_ | (refine rc (hin) rfl ?_ ?_; (· first | rfl | simp (disch := omega) only [go_sem, simprocAttr, Zae])) | (refine Zaa rfl rfl (fun hc => ?_) (fun hc => ?_) <;> try simp only [hcL] at hc) | (refine Zab _ rfl rfl (fun hc => ?_) (fun hc => ?_) <;> (try simp only [hcL] at hc) <;> try omega) | simp (disch := omega) only [go_sem, simprocAttr, Zae] | apply And.intro | omega | decide +kernel
         refine Zap (κ := Nat) (fun (w : Nat) => w ≤ m.length) (fun (w : Nat) => [(0, .ptr 1000 0 0 0), (1, .int cost), (2, .int rest), (6, .int v), (7, .int (moreK m l v w)), (8, .int (lessK m l v w)), (51, .d (Zaj m)), (52, .int m.length), (53, .int v), (65, .d (Zaj m)), (66, .int m.length), (67, .int w)]) (fun (w : Nat) => [(1000, .cells [.d (Zaj m), .ref 901 1 0 l.length l.length, .nilS, .int 0]), (1001, .gone), (901, .row 1 (l.map natD))]) (fun (w : Nat) => m.length - w) 0 ?_ ?_ ?_
         ·exact Nat.zero_le _
         ·exact eL [] _ _ (by refine ⟨?_, ?_⟩ <;> (repeat' first | exact fmn | refine fmc ⟨(by first | rfl | (simp (disch := omega) only [go_sem, simprocAttr, inL, moreK, lessK, sm]; first | done | omega | (congr 1; done))), ?_⟩); done)
         ·intro w hw
          have b1 : 0 ≤ moreK m l v w ∧ moreK m l v w ≤ 1000000 * w := Go.Bd.more_bounds hs.small l hlt w hw
          have b2 : 0 ≤ lessK m l v w ∧ lessK m l v w ≤ 1000000 * w := Go.Bd.less_bounds hs.small l hlt w hw
          rcases Nat.lt_or_ge w m.length with hlw | hgw
          ·obtain ⟨p, hp1, hp2, hp3, hp4, hp5⟩ := hs.get hlt hlw
           obtain ⟨q, hq1, hq2, hq3, hq4, hq5⟩ := hs.get hlw hlt
           have hcw := containsN_spec l w
           by_cases d1 : w = v
           ·have e1 := moreK_in (m := m) (l := l) (v := v) (k := w) (fun h => h.1 d1)
            have e2 := lessK_in (m := m) (l := l) (v := v) (k := w) (fun h => h.1 d1)
            have d1I : (w : Int) = v := by omega
            repeat' first | refine Zad rfl ?_ | refine Zac ?_ | refine wR ?_ | (refine Zaa rfl rfl (fun hc => ?_) (fun hc => ?_) <;> try simp only [hcL] at hc) | (refine Zab _ rfl rfl (fun hc => ?_) (fun hc => ?_) <;> (try simp only [hcL] at hc) <;> try omega) | simp (disch := omega) only [go_sem, simprocAttr, d1I] | apply And.intro | omega | decide +kernel
            refine ⟨w + 1, ?_, eL [] _ _ (by refine ⟨?_, ?_⟩ <;> (repeat' first | exact fmn | refine fmc ⟨(by first | rfl | (simp (disch := omega) only [go_sem, simprocAttr, inL, e1, e2]; first | done | omega | (congr 1; done))), ?_⟩); done), ?_⟩
            ·omega
            ·omega
           ·have d1I : ¬ (w : Int) = v := by omega
            by_cases d2 : w ∈ l
            ·have e1 := moreK_in (m := m) (l := l) (v := v) (k := w) (fun h => h.2 d2)
             have e2 := lessK_in (m := m) (l := l) (v := v) (k := w) (fun h => h.2 d2)
             rw [decide_eq_true d2] at hcw
             repeat' first | refine Zad rfl ?_ | refine Zac ?_ | refine wR ?_ | (refine rc (hcw) rfl ?_ ?_; (· first | rfl | simp (disch := omega) only [go_sem, simprocAttr, d1I, Zae])) | (refine Zaa rfl rfl (fun hc => ?_) (fun hc => ?_) <;> try simp only [hcL] at hc) | (refine Zab _ rfl rfl (fun hc => ?_) (fun hc => ?_) <;> (try simp only [hcL] at hc) <;> try omega) | simp (disch := omega) only [go_sem, simprocAttr, d1I, Zae] | apply And.intro | omega | decide +kernel
             refine ⟨w + 1, ?_, eL [] _ _ (by refine ⟨?_, ?_⟩ <;> (repeat' first | exact fmn | refine fmc ⟨(by first | rfl | (simp (disch := omega) only [go_sem, simprocAttr, inL, e1, e2]; first | done | omega | (congr 1; done))), ?_⟩); done), ?_⟩
             ·omega
             ·omega
            ·have e1 := moreK_out (m := m) (l := l) (v := v) (k := w) ⟨d1, d2⟩
             have e2 := lessK_out (m := m) (l := l) (v := v) (k := w) ⟨d1, d2⟩
             rw [decide_eq_false d2] at hcw
             repeat' first | refine Zad rfl ?_ | refine Zac ?_ | refine wR ?_ | (refine rc (hcw) rfl ?_ ?_; (· first | rfl | simp (disch := omega) only [go_sem, simprocAttr, d1I, Zae, hp1, hp3, hq1, hq3, iteI_min])) | (refine Zaa rfl rfl (fun hc => ?_) (fun hc => ?_) <;> try simp only [hcL] at hc) | (refine Zab _ rfl rfl (fun hc => ?_) (fun hc => ?_) <;> (try simp only [hcL] at hc) <;> try omega) | simp (disch := omega) only [go_sem, simprocAttr, d1I, Zae, hp1, hp3, hq1, hq3, iteI_min] | apply And.intro | omega | decide +kernel
             refine ⟨w + 1, ?_, eL [] _ _ (by refine ⟨?_, ?_⟩ <;> (repeat' first | exact fmn | refine fmc ⟨(by first | rfl | (simp (disch := omega) only [go_sem, simprocAttr, inL, e1, e2]; first | done | omega | (congr 1; done))), ?_⟩); done), ?_⟩
             ·omega
             ·omega
          ·have : w = m.length := by omega
           subst this
           repeat' first | refine Zad rfl ?_ | refine Zac ?_ | refine wR ?_ | refine rcM [(1001, 125), (2000, 904)] (ih) rfl ?_ | (refine Zaa rfl rfl (fun hc => ?_) (fun hc => ?_) <;> try simp only [hcL] at hc) | (refine Zab _ rfl rfl (fun hc => ?_) (fun hc => ?_) <;> (try simp only [hcL] at hc) <;> try omega) | simp (disch := omega) only [go_sem, simprocAttr, Zbb, Zae, en, Nat.sub_zero] | exact nat_one v | apply And.intro | omega | decide +kernel
           refine ⟨v + 1, ?_, ?_, ?_⟩
           ·omega
           ·try dsimp only
            rw [hst2]
            exact Zbh.2 (Ent.trans (ent_trunc 904 1 _ l.length rfl) (Ent.trans (ent_cap 1000 1 904 1 0 l.length (l.length + 1) l.length rfl rfl (by omega)) (Zbh.1 (eL [(901, 904)] _ _ (by refine ⟨?_, ?_⟩ <;> (repeat' first | exact List.forall_mem_nil _ | refine List.forall_mem_cons.2 ⟨(by first | rfl | (simp (disch := omega) only [go_sem, simprocAttr, inL, hT, bPV, lI, List.set_cons_succ, List.set_cons_zero]; first | done | omega | (congr 1; done))), ?_⟩); done)))))
           ·omega
        ·repeat' first | refine Zad rfl ?_ | refine Zac ?_ | refine wR ?_ | (refine rc (hin) rfl ?_ ?_; (· first | rfl | simp (disch := omega) only [go_sem, simprocAttr, Zae])) | (refine Zaa rfl rfl (fun hc => ?_) (fun hc => ?_) <;> try simp only [hcL] at hc) | (refine Zab _ rfl rfl (fun hc => ?_) (fun hc => ?_) <;> (try simp only [hcL] at hc) <;> try omega) | simp (disch := omega) only [go_sem, simprocAttr, Zae] | apply And.intro | omega | decide +kernel
         refine Zap (κ := Nat) (fun (w : Nat) => w ≤ m.length) (fun (w : Nat) => [(0, .ptr 1000 0 0 0), (1, .int cost), (2, .int rest), (6, .int v), (7, .int (moreK m l v w)), (8, .int (lessK m l v w)), (51, .d (Zaj m)), (52, .int m.length), (53, .int v), (65, .d (Zaj m)), (66, .int m.length), (67, .int w)]) (fun (w : Nat) => [(1000, .cells [.d (Zaj m), .ref 901 1 0 l.length l.length, .d (Zam b0), .int k0]), (1001, .gone), (901, .row 1 (l.map natD))]) (fun (w : Nat) => m.length - w) 0 ?_ ?_ ?_
         ·exact Nat.zero_le _
         ·exact eL [] _ _ (by refine ⟨?_, ?_⟩ <;> (repeat' first | exact fmn | refine fmc ⟨(by first | rfl | (simp (disch := omega) only [go_sem, simprocAttr, inL, moreK, lessK, sm]; first | done | omega | (congr 1; done))), ?_⟩); done)
         ·intro w hw
          have b1 : 0 ≤ moreK m l v w ∧ moreK m l v w ≤ 1000000 * w := Go.Bd.more_bounds hs.small l hlt w hw
          have b2 : 0 ≤ lessK m l v w ∧ lessK m l v w ≤ 1000000 * w := Go.Bd.less_bounds hs.small l hlt w hw
          rcases Nat.lt_or_ge w m.length with hlw | hgw
          ·obtain ⟨p, hp1, hp2, hp3, hp4, hp5⟩ := hs.get hlt hlw
           obtain ⟨q, hq1, hq2, hq3, hq4, hq5⟩ := hs.get hlw hlt
           have hcw := containsN_spec l w
           by_cases d1 : w = v
           ·have e1 := moreK_in (m := m) (l := l) (v := v) (k := w) (fun h => h.1 d1)
            have e2 := lessK_in (m := m) (l := l) (v := v) (k := w) (fun h => h.1 d1)
            have d1I : (w : Int) = v := by omega
            repeat' first | refine Zad rfl ?_ | refine Zac ?_ | refine wR ?_ | (refine Zaa rfl rfl (fun hc => ?_) (fun hc => ?_) <;> try simp only [hcL] at hc) | (refine Zab _ rfl rfl (fun hc => ?_) (fun hc => ?_) <;> (try simp only [hcL] at hc) <;> try omega) | simp (disch := omega) only [go_sem, simprocAttr, d1I] | apply And.intro | omega | decide +kernel
            refine ⟨w + 1, ?_, eL [] _ _ (by refine ⟨?_, ?_⟩ <;> (repeat' first | exact fmn | refine fmc ⟨(by first | rfl | (simp (disch := omega) only [go_sem, simprocAttr, inL, e1, e2]; first | done | omega | (congr 1; done))), ?_⟩); done), ?_⟩
            ·omega
            ·omega
           ·have d1I : ¬ (w : Int) = v := by omega
            by_cases d2 : w ∈ l
            ·have e1 := moreK_in (m := m) (l := l) (v := v) (k := w) (fun h => h.2 d2)
             have e2 := lessK_in (m := m) (l := l) (v := v) (k := w) (fun h => h.2 d2)
             rw [decide_eq_true d2] at hcw
             repeat' first | refine Zad rfl ?_ | refine Zac ?_ | refine wR ?_ | (refine rc (hcw) rfl ?_ ?_; (· first | rfl | simp (disch := omega) only [go_sem, simprocAttr, d1I, Zae])) | (refine Zaa rfl rfl (fun hc => ?_) (fun hc => ?_) <;> try simp only [hcL] at hc) | (refine Zab _ rfl rfl (fun hc => ?_) (fun hc => ?_) <;> (try simp only [hcL] at hc) <;> try omega) | simp (disch := omega) only [go_sem, simprocAttr, d1I, Zae] | apply And.intro | omega | decide +kernel
             refine ⟨w + 1, ?_, eL [] _ _ (by refine ⟨?_, ?_⟩ <;> (repeat' first | exact fmn | refine fmc ⟨(by first | rfl | (simp (disch := omega) only [go_sem, simprocAttr, inL, e1, e2]; first | done | omega | (congr 1; done))), ?_⟩); done), ?_⟩
             ·omega
             ·omega
            ·have e1 := moreK_out (m := m) (l := l) (v := v) (k := w) ⟨d1, d2⟩
             have e2 := lessK_out (m := m) (l := l) (v := v) (k := w) ⟨d1, d2⟩
             rw [decide_eq_false d2] at hcw
             repeat' first | refine Zad rfl ?_ | refine Zac ?_ | refine wR ?_ | (refine rc (hcw) rfl ?_ ?_; (· first | rfl | simp (disch := omega) only [go_sem, simprocAttr, d1I, Zae, hp1, hp3, hq1, hq3, iteI_min])) | (refine Zaa rfl rfl (fun hc => ?_) (fun hc => ?_) <;> try simp only [hcL] at hc) | (refine Zab _ rfl rfl (fun hc => ?_) (fun hc => ?_) <;> (try simp only [hcL] at hc) <;> try omega) | simp (disch := omega) only [go_sem, simprocAttr, d1I, Zae, hp1, hp3, hq1, hq3, iteI_min] | apply And.intro | omega | decide +kernel
             refine ⟨w + 1, ?_, eL [] _ _ (by refine ⟨?_, ?_⟩ <;> (repeat' first | exact fmn | refine fmc ⟨(by first | rfl | (simp (disch := omega) only [go_sem, simprocAttr, inL, e1, e2]; first | done | omega | (congr 1; done))), ?_⟩); done), ?_⟩
             ·omega
             ·omega
          ·have : w = m.length := by omega
           subst this
           repeat' first | refine Zad rfl ?_ | refine Zac ?_ | refine wR ?_ | refine rcM [(1001, 125), (2000, 904)] (ih) rfl ?_ | (refine Zaa rfl rfl (fun hc => ?_) (fun hc => ?_) <;> try simp only [hcL] at hc) | (refine Zab _ rfl rfl (fun hc => ?_) (fun hc => ?_) <;> (try simp only [hcL] at hc) <;> try omega) | simp (disch := omega) only [go_sem, simprocAttr, Zbb, Zae, en, Nat.sub_zero] | exact nat_one v | apply And.intro | omega | decide +kernel
           refine ⟨v + 1, ?_, ?_, ?_⟩
           ·omega
           ·try dsimp only
            rw [hst2]
            exact Zbh.2 (Ent.trans (ent_trunc 904 1 _ l.length rfl) (Ent.trans (ent_cap 1000 1 904 1 0 l.length (l.length + 1) l.length rfl rfl (by omega)) (Zbh.1 (eL [(901, 904)] _ _ (by refine ⟨?_, ?_⟩ <;> (repeat' first | exact List.forall_mem_nil _ | refine List.forall_mem_cons.2 ⟨(by first | rfl | (simp (disch := omega) only [go_sem, simprocAttr, inL, hT, bPV, lI, List.set_cons_succ, List.set_cons_zero]; first | done | omega | (congr 1; done))), ?_⟩); done)))))
           ·omega
      ·have : v = m.length := by omega
       subst this
       rw [hend]
       simp only [bPV, lI]
       repeat' first | refine Zad rfl ?_ | refine Zac ?_ | refine wR ?_ | (refine Zaa rfl rfl (fun hc => ?_) (fun hc => ?_) <;> try simp only [hcL] at hc) | (refine Zab _ rfl rfl (fun hc => ?_) (fun hc => ?_) <;> (try simp only [hcL] at hc) <;> try omega) | simp (disch := omega) only [go_sem, simprocAttr] | apply And.intro | omega | decide +kernel
       refine ⟨_, Zbh.1 (eL [(2000, 901)] [] [(1000, .cells [.d (Zaj m), .ref 2000 1 0 l.length l.length, .d (Zam be), .int ke]), (1001, .gone), (2000, .row 1 (l.map natD))] (by constructor <;> (repeat' first | exact List.forall_mem_nil _ | refine List.forall_mem_cons.2 ⟨rfl, ?_⟩); done)), ?_⟩
       exact ⟨⟨[], rfl, trivial⟩, List.forall_mem_cons.2 ⟨rfl, List.forall_mem_cons.2 ⟨rfl, List.forall_mem_cons.2 ⟨rfl, List.forall_mem_nil _⟩⟩⟩⟩
    ·have hk : ¬ k ≤ cost + rest := by simpa [shut] using hsh
     have hbl' := hbl _ rfl
     have hnl : ¬ (l.length : Int) = m.length := by omega
     have hne : (b.map natD).isEmpty = false := by
      cases b with
      | nil => simp at hbl'; omega
      | cons x b => rfl
     repeat' first | refine Zad rfl ?_ | refine Zac ?_ | refine wR ?_ | (refine Zaa rfl rfl (fun hc => ?_) (fun hc => ?_) <;> try simp only [hcL] at hc) | (refine Zab _ rfl rfl (fun hc => ?_) (fun hc => ?_) <;> (try simp only [hcL] at hc) <;> try omega) | simp (disch := omega) only [go_sem, simprocAttr, hne, hk, hnl] | apply And.intro | omega | decide +kernel
     refine Zap (κ := Nat) (fun (v : Nat) => v ≤ m.length) (fun (v : Nat) => [(0, .ptr 1000 0 0 0), (1, .int cost), (2, .int rest), (51, .d (Zaj m)), (52, .int m.length), (53, .int v)]) (fun (v : Nat) => [(1000, .cells [.d (Zaj m), .ref 901 1 0 l.length l.length, bPV (foldE (Zao m) m.length f l cost rest st0 v), .int (lI (foldE (Zao m) m.length f l cost rest st0 v))]), (1001, .gone), (901, .row 1 (l.map natD))]) (fun (v : Nat) => m.length - v) 0 ?_ ?_ ?_
     ·exact Nat.zero_le _
     ·try dsimp only
      rw [Go.Bd.foldE_zero, ← hst0]
      exact Zbh.2 (Ent.trans (ent_move 1001 901 rfl (by decide) (by decide)) (Zbh.1 (eL [] _ _ (by refine ⟨?_, ?_⟩ <;> (repeat' first | exact List.forall_mem_nil _ | refine List.forall_mem_cons.2 ⟨(by first | rfl | (simp (disch := omega) only [go_sem, simprocAttr, inL, bPV, lI]; first | done | omega | (congr 1; done))), ?_⟩); done) (h7 := pd_move (by simp) (by decide) (by repeat' first | exact pd_dead | exact pd_of _ rfl | refine pd_upd rfl ?_)))))
     ·intro v hv
      have hlv := hlen v hv
      rcases Nat.lt_or_ge v m.length with hlt | hge
      ·have hin := containsN_spec l v
       by_cases hm : v ∈ l
       ·rw [decide_eq_true hm] at hin
        have e1 := Go.Bd.foldE_in (Zao m) m.length (f := f) (cost := cost) (rest := rest) (st := st0) hm
        rcases hst : foldE (Zao m) m.length f l cost rest st0 v with _ | ⟨b0, k0⟩ <;> rw [hst] at e1 <;> simp only [bPV, lI]
        all_goals
         repeat' first | refine Zad rfl ?_ | refine Zac ?_ | refine wR ?_ | (refine rc (hin) rfl ?_ ?_; (· first | rfl | simp (disch := omega) only [go_sem, simprocAttr, Zae])) | (refine Zaa rfl rfl (fun hc => ?_) (fun hc => ?_) <;> try simp only [hcL] at hc) | (refine Zab _ rfl rfl (fun hc => ?_) (fun hc => ?_) <;> (try simp only [hcL] at hc) <;> try omega) | simp (disch := omega) only [go_sem, simprocAttr, Zae] | apply And.intro | omega | decide +kernel
         refine ⟨v + 1, ?_, ?_, ?_⟩
         ·omega
         ·try dsimp only
          rw [e1]
          exact eL [] _ _ (by refine ⟨?_, ?_⟩ <;> (repeat' first | exact fmn | refine fmc ⟨(by first | rfl | (simp (disch := omega) only [go_sem, simprocAttr, inL, bPV, lI]; first | done | omega | (congr 1; done))), ?_⟩); done)
         ·omega
       ·rw [decide_eq_false hm] at hin
        have e1 := Go.Bd.foldE_out (Zao m) m.length (f := f) (cost := cost) (rest := rest) (st := st0) hm
        have ih := hIH v hlt hm
        have en : (((l.length + 1 : Nat) : Int) - 1).toNat = l.length := by omega
        have hT : (l.map natD ++ [natD v]).take l.length = l.map natD := List.take_left' (List.length_map ..)
        rcases hst : foldE (Zao m) m.length f l cost rest st0 v with _ | ⟨b0, k0⟩
        all_goals
         rw [hst] at e1 ih
         have e3 : foldE (Zao m) m.length f l cost rest st0 (v + 1) = extF (Zao m) m.length f (l ++ [v]) (cost + moreK m l v m.length) (rest - lessK m l v m.length) _ := e1
         rw [ExtOk, ← e3] at ih
         obtain ⟨⟨b2, k2⟩, hst2⟩ : ∃ s, foldE (Zao m) m.length f l cost rest st0 (v + 1) = some s := by
          rw [e3]; exact Go.Bd.ext_some f (l ++ [v]) (hp.snoc hlt hm) _ _ _
         rw [hst2] at ih e3
         simp only [bPV, lI, List.length_append, List.length_cons, List.length_nil, List.map_append, List.map_cons, List.map_nil, Nat.zero_add] at ih ⊢
        ·repeat' first | refine Zad rfl ?_ | refine Zac ?_ | refine wR ?_ | (refine rc (hin) rfl ?_ ?_; (· first | rfl | simp (disch := omega) only [go_sem, simprocAttr, Zae])) | (refine Zaa rfl rfl (fun hc => ?_) (fun hc => ?_) <;> try simp only [hcL] at hc) | (refine Zab _ rfl rfl (fun hc => ?_) (fun hc => ?_) <;> (try simp only [hcL] at hc) <;> try omega) | simp (disch := omega) only [go_sem, simprocAttr, Zae] | apply And.intro | omega | decide +kernel
         refine Zap (κ := Nat) (fun (w : Nat) => w ≤ m.length) (fun (w : Nat) => [(0, .ptr 1000 0 0 0), (1, .int cost), (2, .int rest), (6, .int v), (7, .int (moreK m l v w)), (8, .int (lessK m l v w)), (51, .d (Zaj m)), (52, .int m.length), (53, .int v), (65, .d (Zaj m)), (66, .int m.length), (67, .int w)]) (fun (w : Nat) => [(1000, .cells [.d (Zaj m), .ref 901 1 0 l.length l.length, .nilS, .int 0]), (1001, .gone), (901, .row 1 (l.map natD))]) (fun (w : Nat) => m.length - w) 0 ?_ ?_ ?_
         ·exact Nat.zero_le _
         ·exact eL [] _ _ (by refine ⟨?_, ?_⟩ <;> (repeat' first | exact fmn | refine fmc ⟨(by first | rfl | (simp (disch := omega) only [go_sem, simprocAttr, inL, moreK, lessK, sm]; first | done | omega | (congr 1; done))), ?_⟩); done)
         ·intro w hw
          have b1 : 0 ≤ moreK m l v w ∧ moreK m l v w ≤ 1000000 * w := Go.Bd.more_bounds hs.small l hlt w hw
          have b2 : 0 ≤ lessK m l v w ∧ lessK m l v w ≤ 1000000 * w := Go.Bd.less_bounds hs.small l hlt w hw
          rcases Nat.lt_or_ge w m.length with hlw | hgw
          ·obtain ⟨p, hp1, hp2, hp3, hp4, hp5⟩ := hs.get hlt hlw
           obtain ⟨q, hq1, hq2, hq3, hq4, hq5⟩ := hs.get hlw hlt
           have hcw := containsN_spec l w
           by_cases d1 : w = v
           ·have e1 := moreK_in (m := m) (l := l) (v := v) (k := w) (fun h => h.1 d1)
            have e2 := lessK_in (m := m) (l := l) (v := v) (k := w) (fun h => h.1 d1)
            have d1I : (w : Int) = v := by omega
            repeat' first | refine Zad rfl ?_ | refine Zac ?_ | refine wR ?_ | (refine Zaa rfl rfl (fun hc => ?_) (fun hc => ?_) <;> try simp only [hcL] at hc) | (refine Zab _ rfl rfl (fun hc => ?_) (fun hc => ?_) <;> (try simp only [hcL] at hc) <;> try omega) | simp (disch := omega) only [go_sem, simprocAttr, d1I] | apply And.intro | omega | decide +kernel
            refine ⟨w + 1, ?_, eL [] _ _ (by refine ⟨?_, ?_⟩ <;> (repeat' first | exact fmn | refine fmc ⟨(by first | rfl | (simp (disch := omega) only [go_sem, simprocAttr, inL, e1, e2]; first | done | omega | (congr 1; done))), ?_⟩); done), ?_⟩
            ·omega
            ·omega
           ·have d1I : ¬ (w : Int) = v := by omega
            by_cases d2 : w ∈ l
            ·have e1 := moreK_in (m := m) (l := l) (v := v) (k := w) (fun h => h.2 d2)
             have e2 := lessK_in (m := m) (l := l) (v := v) (k := w) (fun h => h.2 d2)
             rw [decide_eq_true d2] at hcw
             repeat' first | refine Zad rfl ?_ | refine Zac ?_ | refine wR ?_ | (refine rc (hcw) rfl ?_ ?_; (· first | rfl | simp (disch := omega) only [go_sem, simprocAttr, d1I, Zae])) | (refine Zaa rfl rfl (fun hc => ?_) (fun hc => ?_) <;> try simp only [hcL] at hc) | (refine Zab _ rfl rfl (fun hc => ?_) (fun hc => ?_) <;> (try simp only [hcL] at hc) <;> try omega) | simp (disch := omega) only [go_sem, simprocAttr, d1I, Zae] | apply And.intro | omega | decide +kernel
             refine ⟨w + 1, ?_, eL [] _ _ (by refine ⟨?_, ?_⟩ <;> (repeat' first | exact fmn | refine fmc ⟨(by first | rfl | (simp (disch := omega) only [go_sem, simprocAttr, inL, e1, e2]; first | done | omega | (congr 1; done))), ?_⟩); done), ?_⟩
             ·omega
             ·omega
            ·have e1 := moreK_out (m := m) (l := l) (v := v) (k := w) ⟨d1, d2⟩
             have e2 := lessK_out (m := m) (l := l) (v := v) (k := w) ⟨d1, d2⟩
             rw [decide_eq_false d2] at hcw
             repeat' first | refine Zad rfl ?_ | refine Zac ?_ | refine wR ?_ | (refine rc (hcw) rfl ?_ ?_; (· first | rfl | simp (disch := omega) only [go_sem, simprocAttr, d1I, Zae, hp1, hp3, hq1, hq3, iteI_min])) | (refine Zaa rfl rfl (fun hc => ?_) (fun hc => ?_) <;> try simp only [hcL] at hc) | (refine Zab _ rfl rfl (fun hc => ?_) (fun hc => ?_) <;> (try simp only [hcL] at hc) <;> try omega) | simp (disch := omega) only [go_sem, simprocAttr, d1I, Zae, hp1, hp3, hq1, hq3, iteI_min] | apply And.intro | omega | decide +kernel
             refine ⟨w + 1, ?_, eL [] _ _ (by refine ⟨?_, ?_⟩ <;> (repeat' first | exact fmn | refine fmc ⟨(by first | rfl | (simp (disch := omega) only [go_sem, simprocAttr, inL, e1, e2]; first | done | omega | (congr 1; done))), ?_⟩); done), ?_⟩
             ·omega
             ·omega
          ·have : w = m.length := by omega
           subst this
           repeat' first | refine Zad rfl ?_ | refine Zac ?_ | refine wR ?_ | refine rcM [(1001, 125), (2000, 904)] (ih) rfl ?_ | (refine Zaa rfl rfl (fun hc => ?_) (fun hc => ?_) <;> try simp only [hcL] at hc) | (refine Zab _ rfl rfl (fun hc => ?_) (fun hc => ?_) <;> (try simp only [hcL] at hc) <;> try omega) | simp (disch := omega) only [go_sem, simprocAttr, Zbb, Zae, en, Nat.sub_zero] | exact nat_one v | apply And.intro | omega | decide +kernel
           refine ⟨v + 1, ?_, ?_, ?_⟩
           ·omega
           ·try dsimp only
            rw [hst2]
            exact Zbh.2 (Ent.trans (ent_trunc 904 1 _ l.length rfl) (Ent.trans (ent_cap 1000 1 904 1 0 l.length (l.length + 1) l.length rfl rfl (by omega)) (Zbh.1 (eL [(901, 904)] _ _ (by refine ⟨?_, ?_⟩ <;> (repeat' first | exact List.forall_mem_nil _ | refine List.forall_mem_cons.2 ⟨(by first | rfl | (simp (disch := omega) only [go_sem, simprocAttr, inL, hT, bPV, lI, List.set_cons_succ, List.set_cons_zero]; first | done | omega | (congr 1; done))), ?_⟩); done)))))
           ·omega
        ·repeat' first | refine Zad rfl ?_ | refine Zac ?_ | refine wR ?_ | (refine rc (hin) rfl ?_ ?_; (· first | rfl | simp (disch := omega) only [go_sem, simprocAttr, Zae])) | (refine Zaa rfl rfl (fun hc => ?_) (fun hc => ?_) <;> try simp only [hcL] at hc) | (refine Zab _ rfl rfl (fun hc => ?_) (fun hc => ?_) <;> (try simp only [hcL] at hc) <;> try omega) | simp (disch := omega) only [go_sem, simprocAttr, Zae] | apply And.intro | omega | decide +kernel
         refine Zap (κ := Nat) (fun (w : Nat) => w ≤ m.length) (fun (w : Nat) => [(0, .ptr 1000 0 0 0), (1, .int cost), (2, .int rest), (6, .int v), (7, .int (moreK m l v w)), (8, .int (lessK m l v w)), (51, .d (Zaj m)), (52, .int m.length), (53, .int v), (65, .d (Zaj m)), (66, .int m.length), (67, .int w)]) (fun (w : Nat) => [(1000, .cells [.d (Zaj m), .ref 901 1 0 l.length l.length, .d (Zam b0), .int k0]), (1001, .gone), (901, .row 1 (l.map natD))]) (fun (w : Nat) => m.length - w) 0 ?_ ?_ ?_
         ·exact Nat.zero_le _
         ·exact eL [] _ _ (by refine ⟨?_, ?_⟩ <;> (repeat' first | exact fmn | refine fmc ⟨(by first | rfl | (simp (disch := omega) only [go_sem, simprocAttr, inL, moreK, lessK, sm]; first | done | omega | (congr 1; done))), ?_⟩); done)
         ·intro w hw
          have b1 : 0 ≤ moreK m l v w ∧ moreK m l v w ≤ 1000000 * w := Go.Bd.more_bounds hs.small l hlt w hw
          have b2 : 0 ≤ lessK m l v w ∧ lessK m l v w ≤ 1000000 * w := Go.Bd.less_bounds hs.small l hlt w hw
          rcases Nat.lt_or_ge w m.length with hlw | hgw
          ·obtain ⟨p, hp1, hp2, hp3, hp4, hp5⟩ := hs.get hlt hlw
           obtain ⟨q, hq1, hq2, hq3, hq4, hq5⟩ := hs.get hlw hlt
           have hcw := containsN_spec l w
           by_cases d1 : w = v
           ·have e1 := moreK_in (m := m) (l := l) (v := v) (k := w) (fun h => h.1 d1)
            have e2 := lessK_in (m := m) (l := l) (v := v) (k := w) (fun h => h.1 d1)
            have d1I : (w : Int) = v := by omega
            repeat' first | refine Zad rfl ?_ | refine Zac ?_ | refine wR ?_ | (refine Zaa rfl rfl (fun hc => ?_) (fun hc => ?_) <;> try simp only [hcL] at hc) | (refine Zab _ rfl rfl (fun hc => ?_) (fun hc => ?_) <;> (try simp only [hcL] at hc) <;> try omega) | simp (disch := omega) only [go_sem, simprocAttr, d1I] | apply And.intro | omega | decide +kernel
            refine ⟨w + 1, ?_, eL [] _ _ (by refine ⟨?_, ?_⟩ <;> (repeat' first | exact fmn | refine fmc ⟨(by first | rfl | (simp (disch := omega) only [go_sem, simprocAttr, inL, e1, e2]; first | done | omega | (congr 1; done))), ?_⟩); done), ?_⟩
            ·omega
            ·omega
           ·have d1I : ¬ (w : Int) = v := by omega
            by_cases d2 : w ∈ l
            ·have e1 := moreK_in (m := m) (l := l) (v := v) (k := w) (fun h => h.2 d2)
             have e2 := lessK_in (m := m) (l := l) (v := v) (k := w) (fun h => h.2 d2)
             rw [decide_eq_true d2] at hcw
             repeat' first | refine Zad rfl ?_ | refine Zac ?_ | refine wR ?_ | (refine rc (hcw) rfl ?_ ?_; (· first | rfl | simp (disch := omega) only [go_sem, simprocAttr, d1I, Zae])) | (refine Zaa rfl rfl (fun hc => ?_) (fun hc => ?_) <;> try simp only [hcL] at hc) | (refine Zab _ rfl rfl (fun hc => ?_) (fun hc => ?_) <;> (try simp only [hcL] at hc) <;> try omega) | simp (disch := omega) only [go_sem, simprocAttr, d1I, Zae] | apply And.intro | omega | decide +kernel
             refine ⟨w + 1, ?_, eL [] _ _ (by refine ⟨?_, ?_⟩ <;> (repeat' first | exact fmn | refine fmc ⟨(by first | rfl | (simp (disch := omega) only [go_sem, simprocAttr, inL, e1, e2]; first | done | omega | (congr 1; done))), ?_⟩); done), ?_⟩
             ·omega
             ·omega
            ·have e1 := moreK_out (m := m) (l := l) (v := v) (k := w) ⟨d1, d2⟩
             have e2 := lessK_out (m := m) (l := l) (v := v) (k := w) ⟨d1, d2⟩
             rw [decide_eq_false d2] at hcw
             repeat' first | refine Zad rfl ?_ | refine Zac ?_ | refine wR ?_ | (refine rc (hcw) rfl ?_ ?_; (· first | rfl | simp (disch := omega) only [go_sem, simprocAttr, d1I, Zae, hp1, hp3, hq1, hq3, iteI_min])) | (refine Zaa rfl rfl (fun hc => ?_) (fun hc => ?_) <;> try simp only [hcL] at hc) | (refine Zab _ rfl rfl (fun hc => ?_) (fun hc => ?_) <;> (try simp only [hcL] at hc) <;> try omega) | simp (disch := omega) only [go_sem, simprocAttr, d1I, Zae, hp1, hp3, hq1, hq3, iteI_min] | apply And.intro | omega | decide +kernel
             refine ⟨w + 1, ?_, eL [] _ _ (by refine ⟨?_, ?_⟩ <;> (repeat' first | exact fmn | refine fmc ⟨(by first | rfl | (simp (disch := omega) only [go_sem, simprocAttr, inL, e1, e2]; first | done | omega | (congr 1; done))), ?_⟩); done), ?_⟩
             ·omega
             ·omega
          ·have : w = m.length := by omega
           subst this
           repeat' first | refine Zad rfl ?_ | refine Zac ?_ | refine wR ?_ | refine rcM [(1001, 125), (2000, 904)] (ih) rfl ?_ | (refine Zaa rfl rfl (fun hc => ?_) (fun hc => ?_) <;> try simp only [hcL] at hc) | (refine Zab _ rfl rfl (fun hc => ?_) (fun hc => ?_) <;> (try simp only [hcL] at hc) <;> try omega) | simp (disch := omega) only [go_sem, simprocAttr, Zbb, Zae, en, Nat.sub_zero] | exact nat_one v | apply And.intro | omega | decide +kernel
           refine ⟨v + 1, ?_, ?_, ?_⟩
           ·omega
           ·try dsimp only
            rw [hst2]
            exact Zbh.2 (Ent.trans (ent_trunc 904 1 _ l.length rfl) (Ent.trans (ent_cap 1000 1 904 1 0 l.length (l.length + 1) l.length rfl rfl (by omega)) (Zbh.1 (eL [(901, 904)] _ _ (by refine ⟨?_, ?_⟩ <;> (repeat' first | exact List.forall_mem_nil _ | refine List.forall_mem_cons.2 ⟨(by first | rfl | (simp (disch := omega) only [go_sem, simprocAttr, inL, hT, bPV, lI, List.set_cons_succ, List.set_cons_zero]; first | done | omega | (congr 1; done))), ?_⟩); done)))))
           ·omega
      ·have : v = m.length := by omega
       subst this
       rw [hend]
       simp only [bPV, lI]
       repeat' first | refine Zad rfl ?_ | refine Zac ?_ | refine wR ?_ | (refine Zaa rfl rfl (fun hc => ?_) (fun hc => ?_) <;> try simp only [hcL] at hc) | (refine Zab _ rfl rfl (fun hc => ?_) (fun hc => ?_) <;> (try simp only [hcL] at hc) <;> try omega) | simp (disch := omega) only [go_sem, simprocAttr] | apply And.intro | omega | decide +kernel
       refine ⟨_, Zbh.1 (eL [(2000, 901)] [] [(1000, .cells [.d (Zaj m), .ref 2000 1 0 l.length l.length, .d (Zam be), .int ke]), (1001, .gone), (2000, .row 1 (l.map natD))] (by constructor <;> (repeat' first | exact List.forall_mem_nil _ | refine List.forall_mem_cons.2 ⟨rfl, ?_⟩); done)), ?_⟩
       exact ⟨⟨[], rfl, trivial⟩, List.forall_mem_cons.2 ⟨rfl, List.forall_mem_cons.2 ⟨rfl, List.forall_mem_cons.2 ⟨rfl, List.forall_mem_nil _⟩⟩⟩⟩
  ·exact ext_shut m (f + 1) l st cost rest hi (by omega) hsh (by rw [Go.Bd.ext_foldE, if_pos hsh])
end Go.Proofs.YtldbcbclhpcofaaGreat
namespace Go.Proofs.YtldbcbclhpcofaaGreat
open Go Go.PS Go.Proofs
open Go.Bd (sm sumC Small low Part bestF foldB better extF foldE more less shut fixC)
set_option maxRecDepth 100000
attribute [local irreducible] Zax wpG Zah Zai

theorem ext_all (m : List (List Int)) : extF (Zao m) m.length m.length [] 0 (low (Zao m) m.length []) none = some (Zbm m) := by
 have h := Go.Bd.ext_best (Zao m) m.length [] (part_nil _) none
 rw [bestAll_eq] at h
 exact h
set_option maxHeartbeats 1000000 in
theorem Least_spec (m : List (List Int)) : Zah Tryz.prog 26 [Zaj m] (if okM m then .tup [Zam (Zbm m).1, .int (Zbm m).2, .int 0] else .tup [.sl [], .int 0, .int 1]) := by
 have hv := bValid_spec m
 rcases h : okM m with _ | _ <;> rw [h] at hv
 ·rw [if_neg (by decide)]
  refine Zaf Tryz.func26 rfl (by decide +kernel) (Nat.le_of_ble_eq_true rfl) ?_
  intro hat B X w0
  repeat' first | refine Zad rfl ?_ | refine Zac ?_ | refine wR ?_ | (refine rc (hv) rfl ?_ ?_; (· first | rfl | simp (disch := omega) only [go_sem, simprocAttr])) | (refine Zaa rfl rfl (fun hc => ?_) (fun hc => ?_) <;> try simp only [hcL] at hc) | (refine Zab _ rfl rfl (fun hc => ?_) (fun hc => ?_) <;> (try simp only [hcL] at hc) <;> try omega) | simp (disch := omega) only [go_sem, simprocAttr] | apply And.intro | omega | decide +kernel
  exact ⟨_, rfl, Zcd rfl, Zar rfl, Zar rfl, trivial⟩
 ·rw [if_pos rfl]
  obtain ⟨hs, h8⟩ := ok_sq h
  have hlo := Lower_spec m h
  have hb : 0 ≤ low (Zao m) m.length [] ∧ low (Zao m) m.length [] ≤ 64000000 := by
   rw [lw_low]
   have := lw_bounds hs h8 m.length (Nat.le_refl _)
   omega
  have he := ext_main m hs h8 m.length [] (part_nil _) none 0 (low (Zao m) m.length []) ⟨fun s hs => (by cases hs), .inr rfl, by omega, by simp, by simp only [List.length_nil]; omega, by omega⟩
  rw [ExtOk, ext_all] at he
  simp only [bPV, lI, List.length_nil, List.map_nil] at he
  refine Zaf Tryz.func26 rfl (by decide +kernel) (Nat.le_of_ble_eq_true rfl) ?_
  intro hat B X w0
  repeat' first | refine Zad rfl ?_ | refine Zac ?_ | refine pw_regionB 4 rfl (fun _ => false) hmix ?_ | (refine rc (hv) rfl ?_ ?_; (· first | rfl | simp (disch := omega) only [go_sem, simprocAttr])) | (refine Zaa rfl rfl (fun hc => ?_) (fun hc => ?_) <;> try simp only [hcL] at hc) | (refine Zab _ rfl rfl (fun hc => ?_) (fun hc => ?_) <;> (try simp only [hcL] at hc) <;> try omega) | simp (disch := omega) only [go_sem, simprocAttr] | apply And.intro | omega | decide +kernel
  refine Zbd _ (Zcl 11 1 901 1 rfl rfl rfl) ?_
  repeat' first | refine Zad rfl ?_ | refine Zac ?_ | refine wR ?_ | (refine rc (hlo) rfl ?_ ?_; (· first | rfl | simp (disch := omega) only [go_sem, simprocAttr])) | refine rcM [(1000, 11), (1001, 901), (2000, 902)] (he) rfl ?_ | (refine Zaa rfl rfl (fun hc => ?_) (fun hc => ?_) <;> try simp only [hcL] at hc) | (refine Zab _ rfl rfl (fun hc => ?_) (fun hc => ?_) <;> (try simp only [hcL] at hc) <;> try omega) | simp (disch := omega) only [go_sem, simprocAttr] | apply And.intro | omega | decide +kernel
  exact ⟨_, rfl, Zcd rfl, Zar rfl, Zar rfl, trivial⟩
end Go.Proofs.YtldbcbclhpcofaaGreat
namespace Go.Proofs.YtldbcbclhpcofaaGreat
open Go Go.PS Go.Proofs
open Go.Bd (ix invF invN comN refN refB)
set_option maxRecDepth 100000
attribute [local irreducible] Zax wpG Zah Zai

theorem ix_nat {l : List Int} {v : Int} (h : v ∈ l) : ix l v = ((l.idxOf v : Nat) : Int) := by rw [ix, if_pos h]
end Go.Proofs.YtldbcbclhpcofaaGreat
