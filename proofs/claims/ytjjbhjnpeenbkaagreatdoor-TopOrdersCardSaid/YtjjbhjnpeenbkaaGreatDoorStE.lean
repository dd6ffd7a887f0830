/- Branch and bound: extend, all of it. -/
import Derived.Test.YtjjbhjnpeenbkaaGreatDoorCi
import Derived.Test.YtjjbhjnpeenbkaaGreatDoorPSMac
import Derived.Test.YtjjbhjnpeenbkaaGreatDoorD
import Derived.Test.YtjjbhjnpeenbkaaGreatDoorTypes
import Derived.Test.YtjjbhjnpeenbkaaGreatDoorPSStable
import Derived.Test.YtjjbhjnpeenbkaaGreatDoorPSFam
set_option linter.unusedSimpArgs false
set_option linter.unusedVariables false
set_option maxHeartbeats 16000000
namespace Go.Proofs.YtjjbhjnpeenbkaaGreatDoor
open Go Go.PS Go.Proofs
open Go.Bd (sm Zam ZbD low Part Zbg Zii Za7 ZbS Zbw ZcC ZdD ZcH)
set_option maxRecDepth 100000
attribute [local irreducible] Zab wpG Zaa Zaf

def Zby (m : List (List Int)) (l : List Nat) (v k : Nat) : Int := sm (fun w => if w ≠ v ∧ w ∉ l then Zah m v w else 0) k
def ZbB (m : List (List Int)) (l : List Nat) (v k : Nat) : Int := sm (fun w => if w ≠ v ∧ w ∉ l then min (Zah m v w) (Zah m w v) else 0) k
theorem Zoq {ids : List Nat} {S : St} {o o2 : Nat} (h1 : o ∈ ids) (h2 : o2 < 1000 ∨ 2000 ≤ o2) (h : ZbQ ids S.objs) :
  ZbQ ids (fun x => if x = o then .gone else if x = o2 then (S.objs o).ren (mvG o o2) else (S.objs x).ren (mvG o o2)) := fun i a b hi => by
 dsimp only;rw [if_neg (fun e : i = o => hi (e ▸ h1)), if_neg (by omega), h i a b hi]; rfl
theorem ZfQ {m : List (List Int)} {l : List Nat} {v k : Nat} (h : ¬ (k ≠ v ∧ k ∉ l)) : Zby m l v (k + 1) = Zby m l v k := by rw [Zby, sm, if_neg h, Int.add_zero]; rfl
theorem Zjl {m : List (List Int)} {l : List Nat} {v k : Nat} (h : k ≠ v ∧ k ∉ l) : Zby m l v (k + 1) = Zby m l v k + Zah m v k := by rw [Zby, sm, if_pos h]; rfl
theorem Zga {m : List (List Int)} {l : List Nat} {v k : Nat} (h : ¬ (k ≠ v ∧ k ∉ l)) : ZbB m l v (k + 1) = ZbB m l v k := by rw [ZbB, sm, if_neg h, Int.add_zero]; rfl
theorem Zku {m : List (List Int)} {l : List Nat} {v k : Nat} (h : k ≠ v ∧ k ∉ l) : ZbB m l v (k + 1) = ZbB m l v k + min (Zah m v k) (Zah m k v) := by rw [ZbB, sm, if_pos h]; rfl
theorem Zx1 (m : List (List Int)) (hs : Sq m) (h8 : m.length ≤ 8) : ∀ (f : Nat) (l : List Nat), Part m.length f l → ∀ (st : Option (List Nat × Int)) (cost rest : Int), ExtIn m l st cost rest → ZeO m f l st cost rest := by
 intro f
 induction f with
 | zero =>
  intro l hp st cost rest hi;have hll := hp.len;rcases hsh : ZcH st (cost + rest) with _ | _
  ·exact ZsQ m hs h8 l hp st cost rest hi hsh
  ·exact Zoo m 0 l st cost rest hi (by omega) hsh (by rw [ZbS, if_pos hsh])
 | succ f IH =>
  intro l hp st cost rest hi;have hll := hp.len;rcases hsh : ZcH st (cost + rest) with _ | _
  ·rw [ZeO, Go.Bd.ext_foldE, if_neg (by rw [hsh]; decide)];have hlen := Zwg (cost := cost) (rest := rest) (c := Zah m) hp hi.len;have hIH : ∀ v, v < m.length → v ∉ l → ZeO m f (l ++ [v]) (Zbw (Zah m) m.length f l cost rest st v) (cost + Zby m l v m.length) (rest - ZbB m l v m.length) := fun v hv hm => by
    have b1 : 0 ≤ Zby m l v m.length ∧ Zby m l v m.length ≤ 1000000 * m.length := Go.Bd.more_bounds hs.small l hv m.length (Nat.le_refl _);have b2 : 0 ≤ ZbB m l v m.length ∧ ZbB m l v m.length ≤ 1000000 * m.length := Go.Bd.less_bounds hs.small l hv m.length (Nat.le_refl _);have b3 := hi.c0;have b4 := hi.c1;have b5 := hi.r0;have b6 := hi.r1;refine IH _ (hp.snoc hv hm) _ _ _ ⟨hlen v (by omega), .inl (by omega), by omega, ?_, ?_, by omega⟩
    ·rw [List.length_append, Int.natCast_add, Int.mul_add];simp only [List.length_cons, List.length_nil];omega
    ·rw [List.length_append, Int.natCast_add, Int.mul_add];simp only [List.length_cons, List.length_nil];omega
   obtain ⟨st0, hst0⟩ : ∃ st0, st = st0 := ⟨_, rfl⟩;rw [hst0] at hlen hIH ⊢;obtain ⟨hbl, hpos, c0, c1, r0, r1⟩ := hi;obtain ⟨⟨be, ke⟩, hend⟩ : ∃ s, Zbw (Zah m) m.length f l cost rest st0 m.length = some s := by
    obtain ⟨s, hx⟩ := Go.Bd.ext_some (c := Zah m) (f + 1) l hp cost rest st0;rw [Go.Bd.ext_foldE, if_neg (by rw [← hst0, hsh]; decide)] at hx;exact ⟨s, hx⟩
   rw [hend]
   all_goals
    rw [← hst0];rcases st with _ | ⟨b, k⟩
    all_goals simp only [bPV, lI]
    all_goals
     refine kM Tryz.func179 ?_
    all_goals intro B X w0
    all_goals refine ZcO ?_
    ·have hnl : ¬ (l.length : Int) = m.length := by omega
     refine kw1 (kc1 hnl) kc0 ?_;refine Zai (fun (v : Nat) => v ≤ m.length) (fun v => [(0, .ptr 1000 0 0 0), (1, .int cost), (2, .int rest), (51, .d (Zae m)), (52, .int m.length), (53, .int v)]) (fun v => [(1000, .cells [.d (Zae m), .ref 901 1 0 l.length l.length, bPV (Zbw (Zah m) m.length f l cost rest st0 v), .int (lI (Zbw (Zah m) m.length f l cost rest st0 v))]), (1001, .gone), (901, .row 1 (l.map ZaB))]) (fun v => m.length - v) 0 ?_ ?_ ?_
     ·exact Nat.zero_le _
     ·try dsimp only
      rw [Go.Bd.foldE_zero, ← hst0];exact Zbh.2 (Ent.trans (ZiJ 1001 901 rfl (by decide) (by decide)) (Zbh.1 (eL [] _ _ (by refine ⟨?_, ?_⟩ <;> (repeat' first | exact List.forall_mem_nil _ | refine List.forall_mem_cons.2 ⟨(by first | rfl | (simp (disch := omega) only [go_sem, simprocAttr, inL, bPV, lI]; first | done | omega | (congr 1; done))), ?_⟩); done) (h7 := Zoq (by simp) (by decide) (by repeat' first | exact Zfh | exact Zfe _ rfl | refine Zfp rfl ?_)))))
     ·intro v hv;have hlv := hlen v hv;rcases Nat.lt_or_ge v m.length with hlt | hge
      ·have hin := ZhD l v;by_cases hm : v ∈ l
       ·rw [decide_eq_true hm] at hin;have e1 := Go.Bd.foldE_in (Zah m) m.length (f := f) (cost := cost) (rest := rest) (st := st0) hm;rcases hst : Zbw (Zah m) m.length f l cost rest st0 v with _ | ⟨b0, k0⟩ <;> rw [hst] at e1 <;> simp only [bPV, lI]
        all_goals
         refine kw1 (kc1 @Zat) (kc1 hin) ?_;refine ⟨v + 1, ?_, ?_, ?_⟩
         ·omega
         ·try dsimp only
          rw [e1];exact kN (kc2 @bPV.eq_1 @lI.eq_1) []
         ·omega
       ·rw [decide_eq_false hm] at hin;have e1 := Go.Bd.foldE_out (Zah m) m.length (f := f) (cost := cost) (rest := rest) (st := st0) hm;have ih := hIH v hlt hm;have en : (((l.length + 1 : Nat) : Int) - 1).toNat = l.length := by omega
        have hT : (l.map ZaB ++ [ZaB v]).take l.length = l.map ZaB := List.take_left' (List.length_map ..);rcases hst : Zbw (Zah m) m.length f l cost rest st0 v with _ | ⟨b0, k0⟩
        all_goals
         rw [hst] at e1 ih;have e3 : Zbw (Zah m) m.length f l cost rest st0 (v + 1) = ZbS (Zah m) m.length f (l ++ [v]) (cost + Zby m l v m.length) (rest - ZbB m l v m.length) _ := e1;rw [ZeO, ← e3] at ih;obtain ⟨⟨b2, k2⟩, hst2⟩ : ∃ s, Zbw (Zah m) m.length f l cost rest st0 (v + 1) = some s := by
          rw [e3]; exact Go.Bd.ext_some f (l ++ [v]) (hp.snoc hlt hm) _ _ _
         rw [hst2] at ih e3;simp only [bPV, lI, List.length_append, List.length_cons, List.length_nil, List.map_append, List.map_cons, List.map_nil, Nat.zero_add] at ih ⊢
        ·refine kw1 (kc1 @Zat) (kc1 hin) ?_;refine Zai (fun (w : Nat) => w ≤ m.length) (fun w => [(0, .ptr 1000 0 0 0), (1, .int cost), (2, .int rest), (6, .int v), (7, .int (Zby m l v w)), (8, .int (ZbB m l v w)), (51, .d (Zae m)), (52, .int m.length), (53, .int v), (65, .d (Zae m)), (66, .int m.length), (67, .int w)]) (fun w => [(1000, .cells [.d (Zae m), .ref 901 1 0 l.length l.length, .nilS, .int 0]), (1001, .gone), (901, .row 1 (l.map ZaB))]) (fun w => m.length - w) 0 ?_ ?_ ?_
         ·exact Nat.zero_le _
         ·exact eL [] _ _ (by refine ⟨?_, ?_⟩ <;> (repeat' first | exact fmn | refine fmc ⟨(by first | rfl | (simp (disch := omega) only [go_sem, simprocAttr, inL, Zby, ZbB, sm]; first | done | omega | (congr 1; done))), ?_⟩); done)
         ·intro w hw;have b1 : 0 ≤ Zby m l v w ∧ Zby m l v w ≤ 1000000 * w := Go.Bd.more_bounds hs.small l hlt w hw;have b2 : 0 ≤ ZbB m l v w ∧ ZbB m l v w ≤ 1000000 * w := Go.Bd.less_bounds hs.small l hlt w hw;rcases Nat.lt_or_ge w m.length with hlw | hgw
          ·obtain ⟨p, hp1, hp2, hp3, hp4, hp5⟩ := hs.get hlt hlw;obtain ⟨q, hq1, hq2, hq3, hq4, hq5⟩ := hs.get hlw hlt;have hcw := ZhD l w;by_cases d1 : w = v
           ·have e1 := ZfQ (m := m) (l := l) (v := v) (k := w) (fun h => h.1 d1);have e2 := Zga (m := m) (l := l) (v := v) (k := w) (fun h => h.1 d1);have d1I : (w : Int) = v := by omega
            refine kw1 (kc1 d1I) kc0 ?_;refine ⟨w + 1, ?_, kN (kc2 e1 e2) [], ?_⟩
            ·omega
            ·omega
           ·have d1I : ¬ (w : Int) = v := by omega
            by_cases d2 : w ∈ l
            ·have e1 := ZfQ (m := m) (l := l) (v := v) (k := w) (fun h => h.2 d2);have e2 := Zga (m := m) (l := l) (v := v) (k := w) (fun h => h.2 d2);rw [decide_eq_true d2] at hcw;refine kw1 (kc2 d1I @Zat) (kc1 hcw) ?_;refine ⟨w + 1, ?_, kN (kc2 e1 e2) [], ?_⟩
             ·omega
             ·omega
            ·have e1 := Zjl (m := m) (l := l) (v := v) (k := w) ⟨d1, d2⟩;have e2 := Zku (m := m) (l := l) (v := v) (k := w) ⟨d1, d2⟩;rw [decide_eq_false d2] at hcw;refine kw1 (kc7 d1I @Zat hp1 hp3 hq1 hq3 @Zh0) (kc1 hcw) ?_;refine ⟨w + 1, ?_, kN (kc2 e1 e2) [], ?_⟩
             ·omega
             ·omega
          ·have : w = m.length := by omega
           subst this;refine kw1 (kc3 @Zat en @Nat.sub_zero) (kc1 (kmc [(1001, 125), (2000, 904)] ih)) ?_;refine ⟨v + 1, ?_, ?_, ?_⟩
           ·omega
           ·try dsimp only
            rw [hst2];exact Zbh.2 (Ent.trans (Zjc 904 1 _ l.length rfl) (Ent.trans (Zi4 1000 1 904 1 0 l.length (l.length + 1) l.length rfl rfl (by omega)) (Zbh.1 (eL [(901, 904)] _ _ (by refine ⟨?_, ?_⟩ <;> (repeat' first | exact List.forall_mem_nil _ | refine List.forall_mem_cons.2 ⟨(by first | rfl | (simp (disch := omega) only [go_sem, simprocAttr, inL, hT, bPV, lI, List.set_cons_succ, List.set_cons_zero]; first | done | omega | (congr 1; done))), ?_⟩); done)))))
           ·omega
        ·refine kw1 (kc1 @Zat) (kc1 hin) ?_;refine Zai (fun (w : Nat) => w ≤ m.length) (fun w => [(0, .ptr 1000 0 0 0), (1, .int cost), (2, .int rest), (6, .int v), (7, .int (Zby m l v w)), (8, .int (ZbB m l v w)), (51, .d (Zae m)), (52, .int m.length), (53, .int v), (65, .d (Zae m)), (66, .int m.length), (67, .int w)]) (fun w => [(1000, .cells [.d (Zae m), .ref 901 1 0 l.length l.length, .d (Zce b0), .int k0]), (1001, .gone), (901, .row 1 (l.map ZaB))]) (fun w => m.length - w) 0 ?_ ?_ ?_
         ·exact Nat.zero_le _
         ·exact eL [] _ _ (by refine ⟨?_, ?_⟩ <;> (repeat' first | exact fmn | refine fmc ⟨(by first | rfl | (simp (disch := omega) only [go_sem, simprocAttr, inL, Zby, ZbB, sm]; first | done | omega | (congr 1; done))), ?_⟩); done)
         ·intro w hw;have b1 : 0 ≤ Zby m l v w ∧ Zby m l v w ≤ 1000000 * w := Go.Bd.more_bounds hs.small l hlt w hw;have b2 : 0 ≤ ZbB m l v w ∧ ZbB m l v w ≤ 1000000 * w := Go.Bd.less_bounds hs.small l hlt w hw;rcases Nat.lt_or_ge w m.length with hlw | hgw
          ·obtain ⟨p, hp1, hp2, hp3, hp4, hp5⟩ := hs.get hlt hlw;obtain ⟨q, hq1, hq2, hq3, hq4, hq5⟩ := hs.get hlw hlt;have hcw := ZhD l w;by_cases d1 : w = v
           ·have e1 := ZfQ (m := m) (l := l) (v := v) (k := w) (fun h => h.1 d1);have e2 := Zga (m := m) (l := l) (v := v) (k := w) (fun h => h.1 d1);have d1I : (w : Int) = v := by omega
            refine kw1 (kc1 d1I) kc0 ?_;refine ⟨w + 1, ?_, kN (kc2 e1 e2) [], ?_⟩
            ·omega
            ·omega
           ·have d1I : ¬ (w : Int) = v := by omega
            by_cases d2 : w ∈ l
            ·have e1 := ZfQ (m := m) (l := l) (v := v) (k := w) (fun h => h.2 d2);have e2 := Zga (m := m) (l := l) (v := v) (k := w) (fun h => h.2 d2);rw [decide_eq_true d2] at hcw;refine kw1 (kc2 d1I @Zat) (kc1 hcw) ?_;refine ⟨w + 1, ?_, kN (kc2 e1 e2) [], ?_⟩
             ·omega
             ·omega
            ·have e1 := Zjl (m := m) (l := l) (v := v) (k := w) ⟨d1, d2⟩;have e2 := Zku (m := m) (l := l) (v := v) (k := w) ⟨d1, d2⟩;rw [decide_eq_false d2] at hcw;refine kw1 (kc7 d1I @Zat hp1 hp3 hq1 hq3 @Zh0) (kc1 hcw) ?_;refine ⟨w + 1, ?_, kN (kc2 e1 e2) [], ?_⟩
             ·omega
             ·omega
          ·have : w = m.length := by omega
           subst this;refine kw1 (kc3 @Zat en @Nat.sub_zero) (kc1 (kmc [(1001, 125), (2000, 904)] ih)) ?_;refine ⟨v + 1, ?_, ?_, ?_⟩
           ·omega
           ·try dsimp only
            rw [hst2];exact Zbh.2 (Ent.trans (Zjc 904 1 _ l.length rfl) (Ent.trans (Zi4 1000 1 904 1 0 l.length (l.length + 1) l.length rfl rfl (by omega)) (Zbh.1 (eL [(901, 904)] _ _ (by refine ⟨?_, ?_⟩ <;> (repeat' first | exact List.forall_mem_nil _ | refine List.forall_mem_cons.2 ⟨(by first | rfl | (simp (disch := omega) only [go_sem, simprocAttr, inL, hT, bPV, lI, List.set_cons_succ, List.set_cons_zero]; first | done | omega | (congr 1; done))), ?_⟩); done)))))
           ·omega
      ·have : v = m.length := by omega
       subst this;rw [hend];simp only [bPV, lI];refine kw1 kc0 kc0 ?_;refine ⟨_, Zbh.1 (eL [(2000, 901)] [] [(1000, .cells [.d (Zae m), .ref 2000 1 0 l.length l.length, .d (Zce be), .int ke]), (1001, .gone), (2000, .row 1 (l.map ZaB))] (by constructor <;> (repeat' first | exact List.forall_mem_nil _ | refine List.forall_mem_cons.2 ⟨rfl, ?_⟩); done)), ?_⟩;exact ⟨⟨[], rfl, trivial⟩, List.forall_mem_cons.2 ⟨rfl, List.forall_mem_cons.2 ⟨rfl, List.forall_mem_cons.2 ⟨rfl, List.forall_mem_nil _⟩⟩⟩⟩
    ·have hk : ¬ k ≤ cost + rest := by simpa [ZcH] using hsh
     have hbl' := hbl _ rfl;have hnl : ¬ (l.length : Int) = m.length := by omega
     have hne : (b.map ZaB).isEmpty = false := by
      cases b with
      | nil => simp at hbl'; omega
      | cons x b => rfl
     refine kw1 (kc3 hne hk hnl) kc0 ?_;refine Zai (fun (v : Nat) => v ≤ m.length) (fun v => [(0, .ptr 1000 0 0 0), (1, .int cost), (2, .int rest), (51, .d (Zae m)), (52, .int m.length), (53, .int v)]) (fun v => [(1000, .cells [.d (Zae m), .ref 901 1 0 l.length l.length, bPV (Zbw (Zah m) m.length f l cost rest st0 v), .int (lI (Zbw (Zah m) m.length f l cost rest st0 v))]), (1001, .gone), (901, .row 1 (l.map ZaB))]) (fun v => m.length - v) 0 ?_ ?_ ?_
     ·exact Nat.zero_le _
     ·try dsimp only
      rw [Go.Bd.foldE_zero, ← hst0];exact Zbh.2 (Ent.trans (ZiJ 1001 901 rfl (by decide) (by decide)) (Zbh.1 (eL [] _ _ (by refine ⟨?_, ?_⟩ <;> (repeat' first | exact List.forall_mem_nil _ | refine List.forall_mem_cons.2 ⟨(by first | rfl | (simp (disch := omega) only [go_sem, simprocAttr, inL, bPV, lI]; first | done | omega | (congr 1; done))), ?_⟩); done) (h7 := Zoq (by simp) (by decide) (by repeat' first | exact Zfh | exact Zfe _ rfl | refine Zfp rfl ?_)))))
     ·intro v hv;have hlv := hlen v hv;rcases Nat.lt_or_ge v m.length with hlt | hge
      ·have hin := ZhD l v;by_cases hm : v ∈ l
       ·rw [decide_eq_true hm] at hin;have e1 := Go.Bd.foldE_in (Zah m) m.length (f := f) (cost := cost) (rest := rest) (st := st0) hm;rcases hst : Zbw (Zah m) m.length f l cost rest st0 v with _ | ⟨b0, k0⟩ <;> rw [hst] at e1 <;> simp only [bPV, lI]
        all_goals
         refine kw1 (kc1 @Zat) (kc1 hin) ?_;refine ⟨v + 1, ?_, ?_, ?_⟩
         ·omega
         ·try dsimp only
          rw [e1];exact kN (kc2 @bPV.eq_1 @lI.eq_1) []
         ·omega
       ·rw [decide_eq_false hm] at hin;have e1 := Go.Bd.foldE_out (Zah m) m.length (f := f) (cost := cost) (rest := rest) (st := st0) hm;have ih := hIH v hlt hm;have en : (((l.length + 1 : Nat) : Int) - 1).toNat = l.length := by omega
        have hT : (l.map ZaB ++ [ZaB v]).take l.length = l.map ZaB := List.take_left' (List.length_map ..);rcases hst : Zbw (Zah m) m.length f l cost rest st0 v with _ | ⟨b0, k0⟩
        all_goals
         rw [hst] at e1 ih;have e3 : Zbw (Zah m) m.length f l cost rest st0 (v + 1) = ZbS (Zah m) m.length f (l ++ [v]) (cost + Zby m l v m.length) (rest - ZbB m l v m.length) _ := e1;rw [ZeO, ← e3] at ih;obtain ⟨⟨b2, k2⟩, hst2⟩ : ∃ s, Zbw (Zah m) m.length f l cost rest st0 (v + 1) = some s := by
          rw [e3]; exact Go.Bd.ext_some f (l ++ [v]) (hp.snoc hlt hm) _ _ _
         rw [hst2] at ih e3;simp only [bPV, lI, List.length_append, List.length_cons, List.length_nil, List.map_append, List.map_cons, List.map_nil, Nat.zero_add] at ih ⊢
        ·refine kw1 (kc1 @Zat) (kc1 hin) ?_;refine Zai (fun (w : Nat) => w ≤ m.length) (fun w => [(0, .ptr 1000 0 0 0), (1, .int cost), (2, .int rest), (6, .int v), (7, .int (Zby m l v w)), (8, .int (ZbB m l v w)), (51, .d (Zae m)), (52, .int m.length), (53, .int v), (65, .d (Zae m)), (66, .int m.length), (67, .int w)]) (fun w => [(1000, .cells [.d (Zae m), .ref 901 1 0 l.length l.length, .nilS, .int 0]), (1001, .gone), (901, .row 1 (l.map ZaB))]) (fun w => m.length - w) 0 ?_ ?_ ?_
         ·exact Nat.zero_le _
         ·exact eL [] _ _ (by refine ⟨?_, ?_⟩ <;> (repeat' first | exact fmn | refine fmc ⟨(by first | rfl | (simp (disch := omega) only [go_sem, simprocAttr, inL, Zby, ZbB, sm]; first | done | omega | (congr 1; done))), ?_⟩); done)
         ·intro w hw;have b1 : 0 ≤ Zby m l v w ∧ Zby m l v w ≤ 1000000 * w := Go.Bd.more_bounds hs.small l hlt w hw;have b2 : 0 ≤ ZbB m l v w ∧ ZbB m l v w ≤ 1000000 * w := Go.Bd.less_bounds hs.small l hlt w hw;rcases Nat.lt_or_ge w m.length with hlw | hgw
          ·obtain ⟨p, hp1, hp2, hp3, hp4, hp5⟩ := hs.get hlt hlw;obtain ⟨q, hq1, hq2, hq3, hq4, hq5⟩ := hs.get hlw hlt;have hcw := ZhD l w;by_cases d1 : w = v
           ·have e1 := ZfQ (m := m) (l := l) (v := v) (k := w) (fun h => h.1 d1);have e2 := Zga (m := m) (l := l) (v := v) (k := w) (fun h => h.1 d1);have d1I : (w : Int) = v := by omega
            refine kw1 (kc1 d1I) kc0 ?_;refine ⟨w + 1, ?_, kN (kc2 e1 e2) [], ?_⟩
            ·omega
            ·omega
           ·have d1I : ¬ (w : Int) = v := by omega
            by_cases d2 : w ∈ l
            ·have e1 := ZfQ (m := m) (l := l) (v := v) (k := w) (fun h => h.2 d2);have e2 := Zga (m := m) (l := l) (v := v) (k := w) (fun h => h.2 d2);rw [decide_eq_true d2] at hcw;refine kw1 (kc2 d1I @Zat) (kc1 hcw) ?_;refine ⟨w + 1, ?_, kN (kc2 e1 e2) [], ?_⟩
             ·omega
             ·omega
            ·have e1 := Zjl (m := m) (l := l) (v := v) (k := w) ⟨d1, d2⟩;have e2 := Zku (m := m) (l := l) (v := v) (k := w) ⟨d1, d2⟩;rw [decide_eq_false d2] at hcw;refine kw1 (kc7 d1I @Zat hp1 hp3 hq1 hq3 @Zh0) (kc1 hcw) ?_;refine ⟨w + 1, ?_, kN (kc2 e1 e2) [], ?_⟩
             ·omega
             ·omega
          ·have : w = m.length := by omega
           subst this;refine kw1 (kc3 @Zat en @Nat.sub_zero) (kc1 (kmc [(1001, 125), (2000, 904)] ih)) ?_;refine ⟨v + 1, ?_, ?_, ?_⟩
           ·omega
           ·try dsimp only
            rw [hst2];exact Zbh.2 (Ent.trans (Zjc 904 1 _ l.length rfl) (Ent.trans (Zi4 1000 1 904 1 0 l.length (l.length + 1) l.length rfl rfl (by omega)) (Zbh.1 (eL [(901, 904)] _ _ (by refine ⟨?_, ?_⟩ <;> (repeat' first | exact List.forall_mem_nil _ | refine List.forall_mem_cons.2 ⟨(by first | rfl | (simp (disch := omega) only [go_sem, simprocAttr, inL, hT, bPV, lI, List.set_cons_succ, List.set_cons_zero]; first | done | omega | (congr 1; done))), ?_⟩); done)))))
           ·omega
        ·refine kw1 (kc1 @Zat) (kc1 hin) ?_;refine Zai (fun (w : Nat) => w ≤ m.length) (fun w => [(0, .ptr 1000 0 0 0), (1, .int cost), (2, .int rest), (6, .int v), (7, .int (Zby m l v w)), (8, .int (ZbB m l v w)), (51, .d (Zae m)), (52, .int m.length), (53, .int v), (65, .d (Zae m)), (66, .int m.length), (67, .int w)]) (fun w => [(1000, .cells [.d (Zae m), .ref 901 1 0 l.length l.length, .d (Zce b0), .int k0]), (1001, .gone), (901, .row 1 (l.map ZaB))]) (fun w => m.length - w) 0 ?_ ?_ ?_
         ·exact Nat.zero_le _
         ·exact eL [] _ _ (by refine ⟨?_, ?_⟩ <;> (repeat' first | exact fmn | refine fmc ⟨(by first | rfl | (simp (disch := omega) only [go_sem, simprocAttr, inL, Zby, ZbB, sm]; first | done | omega | (congr 1; done))), ?_⟩); done)
         ·intro w hw;have b1 : 0 ≤ Zby m l v w ∧ Zby m l v w ≤ 1000000 * w := Go.Bd.more_bounds hs.small l hlt w hw;have b2 : 0 ≤ ZbB m l v w ∧ ZbB m l v w ≤ 1000000 * w := Go.Bd.less_bounds hs.small l hlt w hw;rcases Nat.lt_or_ge w m.length with hlw | hgw
          ·obtain ⟨p, hp1, hp2, hp3, hp4, hp5⟩ := hs.get hlt hlw;obtain ⟨q, hq1, hq2, hq3, hq4, hq5⟩ := hs.get hlw hlt;have hcw := ZhD l w;by_cases d1 : w = v
           ·have e1 := ZfQ (m := m) (l := l) (v := v) (k := w) (fun h => h.1 d1);have e2 := Zga (m := m) (l := l) (v := v) (k := w) (fun h => h.1 d1);have d1I : (w : Int) = v := by omega
            refine kw1 (kc1 d1I) kc0 ?_;refine ⟨w + 1, ?_, kN (kc2 e1 e2) [], ?_⟩
            ·omega
            ·omega
           ·have d1I : ¬ (w : Int) = v := by omega
            by_cases d2 : w ∈ l
            ·have e1 := ZfQ (m := m) (l := l) (v := v) (k := w) (fun h => h.2 d2);have e2 := Zga (m := m) (l := l) (v := v) (k := w) (fun h => h.2 d2);rw [decide_eq_true d2] at hcw;refine kw1 (kc2 d1I @Zat) (kc1 hcw) ?_;refine ⟨w + 1, ?_, kN (kc2 e1 e2) [], ?_⟩
             ·omega
             ·omega
            ·have e1 := Zjl (m := m) (l := l) (v := v) (k := w) ⟨d1, d2⟩;have e2 := Zku (m := m) (l := l) (v := v) (k := w) ⟨d1, d2⟩;rw [decide_eq_false d2] at hcw;refine kw1 (kc7 d1I @Zat hp1 hp3 hq1 hq3 @Zh0) (kc1 hcw) ?_;refine ⟨w + 1, ?_, kN (kc2 e1 e2) [], ?_⟩
             ·omega
             ·omega
          ·have : w = m.length := by omega
           subst this;refine kw1 (kc3 @Zat en @Nat.sub_zero) (kc1 (kmc [(1001, 125), (2000, 904)] ih)) ?_;refine ⟨v + 1, ?_, ?_, ?_⟩
           ·omega
           ·try dsimp only
            rw [hst2];exact Zbh.2 (Ent.trans (Zjc 904 1 _ l.length rfl) (Ent.trans (Zi4 1000 1 904 1 0 l.length (l.length + 1) l.length rfl rfl (by omega)) (Zbh.1 (eL [(901, 904)] _ _ (by refine ⟨?_, ?_⟩ <;> (repeat' first | exact List.forall_mem_nil _ | refine List.forall_mem_cons.2 ⟨(by first | rfl | (simp (disch := omega) only [go_sem, simprocAttr, inL, hT, bPV, lI, List.set_cons_succ, List.set_cons_zero]; first | done | omega | (congr 1; done))), ?_⟩); done)))))
           ·omega
      ·have : v = m.length := by omega
       subst this;rw [hend];simp only [bPV, lI];refine kw1 kc0 kc0 ?_;refine ⟨_, Zbh.1 (eL [(2000, 901)] [] [(1000, .cells [.d (Zae m), .ref 2000 1 0 l.length l.length, .d (Zce be), .int ke]), (1001, .gone), (2000, .row 1 (l.map ZaB))] (by constructor <;> (repeat' first | exact List.forall_mem_nil _ | refine List.forall_mem_cons.2 ⟨rfl, ?_⟩); done)), ?_⟩;exact ⟨⟨[], rfl, trivial⟩, List.forall_mem_cons.2 ⟨rfl, List.forall_mem_cons.2 ⟨rfl, List.forall_mem_cons.2 ⟨rfl, List.forall_mem_nil _⟩⟩⟩⟩
  ·exact Zoo m (f + 1) l st cost rest hi (by omega) hsh (by rw [Go.Bd.ext_foldE, if_pos hsh])
end Go.Proofs.YtjjbhjnpeenbkaaGreatDoor
namespace Go.Proofs.YtjjbhjnpeenbkaaGreatDoor
open Go Go.PS Go.Proofs
open Go.Bd (sm Zam ZbD low Part Zbg Zii Za7 ZbS Zbw ZcC ZdD ZcH Zem)
set_option maxRecDepth 100000
attribute [local irreducible] Zab wpG Zaa Zaf

theorem ZxP (m : List (List Int)) : ZbS (Zah m) m.length m.length [] 0 (low (Zah m) m.length []) none = some (Zcr m) := by
 have h := Go.Bd.ext_best (Zah m) m.length [] (ZhW _) none;rw [Zlm] at h;exact h
theorem Zoi (m : List (List Int)) : Zaa Tryz.prog 110 [Zae m] (if okM m then .tup [Zce (Zcr m).1, .int (Zcr m).2, .int 0] else .tup [.sl [], .int 0, .int 1]) := by
 have hv := Zoy m;rcases h : okM m with _ | _ <;> rw [h] at hv
 ·rw [if_neg (by decide)];refine kE Tryz.func110 ?_;intro hat B X w0;refine kw1 kc0 (kc1 hv) ?_;exact ⟨_, rfl, Zc1 rfl, Zag rfl, Zag rfl, trivial⟩
 ·rw [if_pos rfl];obtain ⟨hs, h8⟩ := Zm0 h;have hlo := Zz0 m h;have hb : 0 ≤ low (Zah m) m.length [] ∧ low (Zah m) m.length [] ≤ 64000000 := by
   rw [ZqO];have := Zqe hs h8 m.length (Nat.le_refl _);omega
  have he := Zx1 m hs h8 m.length [] (ZhW _) none 0 (low (Zah m) m.length []) ⟨fun s hs => (by cases hs), .inr rfl, by omega, by simp, by simp only [List.length_nil]; omega, by omega⟩;rw [ZeO, ZxP] at he;simp only [bPV, lI, List.length_nil, List.map_nil] at he;refine kE Tryz.func110 ?_;intro hat B X w0
  repeat' first | refine Zbk rfl ?_ | refine Za1 ?_ | refine ZyK 4 rfl (fun _ => false) ZbV ?_ | (refine rc (hv) rfl ?_ ?_; (· first | rfl | simp (disch := omega) only [go_sem, simprocAttr])) | (refine Zbn rfl rfl (fun hc => ?_) (fun hc => ?_) <;> try simp only [hcL] at hc) | (refine Zbl _ rfl rfl (fun hc => ?_) (fun hc => ?_) <;> (try simp only [hcL] at hc) <;> try omega) | simp (disch := omega) only [go_sem, simprocAttr] | apply And.intro | omega | decide +kernel
  refine Zau _ (Zcy 11 1 901 1 rfl rfl rfl) ?_;refine kw1 kc0 (kc2 hlo (kmc [(1000, 11), (1001, 901), (2000, 902)] he)) ?_;exact ⟨_, rfl, Zc1 rfl, Zag rfl, Zag rfl, trivial⟩
end Go.Proofs.YtjjbhjnpeenbkaaGreatDoor
namespace Go.Proofs.YtjjbhjnpeenbkaaGreatDoor
open Go Go.PS Go.Proofs
open Go.Bd (ix Zda ZdN Zcj Zb2 Zhs)
set_option maxRecDepth 100000
attribute [local irreducible] Zab wpG Zaa Zaf

theorem ZlL {l : List Int} {v : Int} (h : v ∈ l) : ix l v = ((l.idxOf v : Nat) : Int) := by rw [ix, if_pos h]
theorem Zc7 {l : List (List Int)} {k : Nat} {y : List Int} (h : l[k]? = some y) : Zaq l k = y := by rw [Zaq, h]; rfl
theorem ZhL {l : List (List Int)} {k : Nat} (h : l.length ≤ k) : Zaq l k = [] := by rw [Zaq, List.getElem?_eq_none h]; rfl
def okW (a : Lv) (w : Int) : Bool := Zaw a && decide (0 ≤ w ∧ w ≤ 1000)
def ZjG (a : Lv) (old : List (List Int)) (k : Nat) : Int := ZaE (fun i => (Zda (Zaq old i) (Zaq a.2.1 i) : Int)) k
def Zlu (a : Lv) (old : List (List Int)) (w : Int) : Int := if okW a w then Za6 a + w * ZjG a old a.2.1.length else -1
theorem Zwf {a : Lv} (h : Zaw a = true) (k : Nat) : (Zaq a.2.1 k).length ≤ 512 := by
 obtain ⟨t1, t2⟩ := Zcv h;rcases Nat.lt_or_ge k a.2.1.length with hlt | hge
 ·obtain ⟨y, hy⟩ := Zad hlt;rw [Zc7 hy];have := ZcM (List.mem_of_getElem? hy);omega
 ·rw [ZhL hge]; simp
def ZaX (g : Nat → Int) (n : Nat) : List Int := (List.range n).map g
def Zcg (f g : Nat → Int) (n b : Nat) : List Int := ZaX (fun v => if v < b then g v else f v) n
theorem ZdF (g : Nat → Int) (n : Nat) : (ZaX g n).length = n := by simp [ZaX]
theorem Ze0 {g : Nat → Int} {n v : Nat} (h : v < n) : (ZaX g n)[v]? = some (g v) := by simp [ZaX, h]
theorem Zgp {f g : Nat → Int} {n : Nat} (h : ∀ v, v < n → f v = g v) : ZaX f n = ZaX g n := List.map_congr_left fun v hv => h v (List.mem_range.1 hv)
theorem Zia (f g : Nat → Int) (n b : Nat) : (Zcg f g n b).length = n := ZdF _ _
theorem ZqG (f g : Nat → Int) (n : Nat) : Zcg f g n 0 = ZaX f n := Zgp fun v _ => if_neg (by omega)
theorem ZnU (f g : Nat → Int) (n : Nat) : Zcg f g n n = ZaX g n := Zgp fun v hv => if_pos hv
theorem Zp4 {f g : Nat → Int} {n b : Nat} (h : b < n) : (Zcg f g n b)[b]? = some (f b) := by rw [Zcg, Ze0 h, if_neg (by omega)]
theorem ZnO {f g : Nat → Int} {n b : Nat} (h : b < n) : (Zcg f g n b).set b (g b) = Zcg f g n (b + 1) := by
 refine List.ext_getElem? fun v => ?_
 rw [List.getElem?_set, Zia];by_cases c : b = v
 ·subst c;rw [if_pos rfl, if_pos h, Zcg, Ze0 h, if_pos (by omega)]
 ·rw [if_neg c];by_cases c2 : v < n
  ·rw [Zcg, Zcg, Ze0 c2, Ze0 c2];by_cases c3 : v < b
   ·rw [if_pos c3, if_pos (by omega)]
   ·rw [if_neg c3, if_neg (by omega)]
  ·rw [List.getElem?_eq_none (by rw [Zia]; omega), List.getElem?_eq_none (by rw [Zia]; omega)]
theorem ZpX (n : Nat) : List.replicate n (D.int 0) = (ZaX (fun _ => 0) n).map D.int := by
 rw [ZaX, List.map_map];refine List.ext_getElem? fun v => ?_
 by_cases c : v < n <;> simp [List.getElem?_replicate, c]
def ZhF (old y : List Int) (w : Int) (u v : Nat) : Int := if 0 ≤ ix old (at0 y v) ∧ ix old (at0 y v) < ix old (at0 y u) then w else 0
def ZdV (i : Nat) (t : Nat) : Int := if t = 0 then (i : Int) - 1 else (i : Int) + 1
def Zdo (a : Lv) (old y : List Int) (w : Int) (i : Nat) : Nat → Nat → Nat → Int
 | 0, u, v => ZhF old y w u v
 | t + 1, u, v => Zdo a old y w i t u v + Zah (ZaQ a i (ZdV i t)) u v
def sqM (g : Nat → Nat → Int) (n : Nat) : List (List Int) := (List.range n).map fun u => ZaX (g u) n
def stM (a : Lv) (old y : List Int) (w : Int) (i : Nat) : List (List Int) := sqM (Zdo a old y w i 2) y.length
theorem ZrB {m : List (List Int)} (h : Sq m) (u v : Nat) : 0 ≤ Zah m u v ∧ Zah m u v ≤ 1000000 := by
 by_cases hu : u < m.length
 ·by_cases hv : v < m.length
  ·obtain ⟨_, _, _, _, h1, h2⟩ := h.get hu hv;exact ⟨h1, h2⟩
  ·obtain ⟨p, hp⟩ := Zad hu;have := h.row p (List.mem_of_getElem? hp);rw [Zah, Zc7 hp, at0, Int.toNat_natCast, List.getElem?_eq_none (by omega)]; decide
 ·rw [Zah, ZhL (by omega)]; simp [at0]
theorem Zi9 (a : Lv) (old y : List Int) {w : Int} (hw : 0 ≤ w ∧ w ≤ 1000) (i : Nat) : ∀ t u v, 0 ≤ Zdo a old y w i t u v ∧ Zdo a old y w i t u v ≤ 1000 + 1000000 * t
 | 0, u, v => by
  rw [Zdo, ZhF]; split <;> omega
 | t + 1, u, v => by
  have ih := Zi9 a old y hw i t u v;have := ZrB (Zjj a i (ZdV i t)) u v;rw [Zdo]; omega

end Go.Proofs.YtjjbhjnpeenbkaaGreatDoor
namespace Go.Proofs.YtjjbhjnpeenbkaaGreatDoor
open Go Go.PS Go.Proofs
open Go.Bd (ix Zda ZdN Zcj Zam Zfj Zly ZhG Part Zbg)

theorem ZuW {g : Nat → Nat → Int} {n u v : Nat} (hu : u < n) (hv : v < n) : Zah (sqM g n) u v = g u v := by
 rw [Zah, sqM, Zaq, List.getElem?_map, List.getElem?_range hu];simp only [Option.map_some, Option.getD_some];rw [at0, Int.toNat_natCast, Ze0 hv]; rfl
theorem Zkp (a : Lv) (old y : List Int) (w : Int) (i : Nat) : (stM a old y w i).length = y.length := by simp [stM, sqM]
def yG (y : List Int) (k : Nat) : Int := (y[k]?).getD 0
theorem Zr3 (old y : List Int) (w : Int) (u v : Nat) : ZhF old y w u v = w * ZhG old (yG y) u v := by
 have e : ∀ k : Nat, at0 y k = yG y k := fun k => by rw [at0, Int.toNat_natCast]; rfl
 rw [ZhF, ZhG, e, e];by_cases h1 : yG y u ∈ old <;> by_cases h2 : yG y v ∈ old
 ·rw [ZlL h1, ZlL h2];by_cases h3 : old.idxOf (yG y v) < old.idxOf (yG y u)
  ·rw [if_pos ⟨by omega, by omega⟩, if_pos ⟨h1, h2, h3⟩, Int.mul_one]
  ·rw [if_neg (fun h => h3 (by omega)), if_neg (fun h => h3 h.2.2), Int.mul_zero]
 ·rw [if_neg (fun h => by
   have := h.1;rw [ix, if_neg h2] at this; omega), if_neg (fun h => h2 h.2.1), Int.mul_zero]
 ·rw [if_neg (fun h => by
   have := h.2;rw [ZlL h2, ix, if_neg h1] at this; omega), if_neg (fun h => h1 h.1), Int.mul_zero]
 ·rw [if_neg (fun h => by
   have := h.1;rw [ix, if_neg h2] at this; omega), if_neg (fun h => h1 h.1), Int.mul_zero]
theorem ZsX (a : Lv) (old y : List Int) (w : Int) (i : Nat) (u v : Nat) : Zdo a old y w i 2 u v = w * ZhG old (yG y) u v + ZgG a i u v := by
 rw [← Zr3];show ZhF old y w u v + Zah (ZaQ a i ((i : Int) - 1)) u v + Zah (ZaQ a i ((i : Int) + 1)) u v = _;rw [ZgG]; omega
theorem Zyr (a : Lv) (old y : List Int) (w : Int) (i : Nat) {o : List Nat} (ho : Part y.length 0 o) :
  Zam (Zah (stM a old y w i)) o = w * Zam (ZhG old (yG y)) o + Zam (ZgG a i) o := by
 rw [← Zly, ← Zfj];refine ZmM ho.nd fun u hu v hv _ => ?_
 rw [stM, ZuW (ho.lt u hu) (ho.lt v hv), ZsX]
theorem Zib {a : Lv} (hv : Zaw a = true) {i : Nat} {y : List Int} (hy : a.2.1[i]? = some y) : y.Nodup :=
 (List.pairwise_flatten.1 (Zew hv)).1 y (List.mem_of_getElem? hy)
theorem Zm5 {y : List Int} {o : List Nat} (hn : y.Nodup) (ho : Part y.length 0 o) : (ZaG y o).Perm y :=
 (List.perm_ext_iff_of_nodup (Zpi hn ho) hn).2 fun _ => Zof ho
theorem Zyi {a : Lv} (hv : Zaw a = true) {i : Nat} {y : List Int} {o : List Nat} (hy : a.2.1[i]? = some y) (ho : Part y.length 0 o) : ZdY a i (ZaG y o) = (ZbN a i (ZaG y o), 0) := by
 have hil := (List.getElem?_eq_some_iff.1 hy).1;rw [ZdY, if_neg (by rw [hv]; decide), if_neg (by omega), Int.toNat_natCast, hy, Option.getD_some, if_neg (by rw [Zqq (Zm5 (Zib hv hy) ho)]; simp)];rfl
end Go.Proofs.YtjjbhjnpeenbkaaGreatDoor
namespace Go.Proofs.YtjjbhjnpeenbkaaGreatDoor
open Go Go.PS Go.Proofs
open Go.Bd (sm ix Zda ZdN Zcj Zam Part Zbg)
set_option maxRecDepth 100000
attribute [local irreducible] Zab wpG Zaa Zaf

theorem Zne (a : Lv) (i f : Int) (u v : Nat) : Zah (ZaQ a i f) u v ≤ ((a.2.2.1.length * a.2.2.1.length : Nat) : Int) := by
 have hz : Zah [] u v = 0 := by simp [Zah, Zaq, at0]
 rw [ZaQ];split
 ·by_cases hu : u < (Za8 a.2.1 a.2.2.1 i f (Zci a i)).length
  ·by_cases hv : v < (Za8 a.2.1 a.2.2.1 i f (Zci a i)).length
   ·rw [ZmP hu hv, Zdr];split
    ·omega
    ·have hl : ∀ k, (Zaq (Za8 a.2.1 a.2.2.1 i f (Zci a i)) k).length ≤ a.2.2.1.length := fun k => by
      by_cases hk : k < Zci a i
      ·rw [Za8, Zaq, List.getElem?_map, List.getElem?_range hk];exact ZhO ..
      ·rw [ZhL (by simp [Za8]; omega)]; exact Nat.zero_le _
     have := Nat.le_trans (ZlK _ _) (Nat.mul_le_mul (hl u) (hl v));omega
   ·have : Zah (Zcz (Za8 a.2.1 a.2.2.1 i f (Zci a i))) u v = 0 := by
     rw [Zah, Zcz, Zaq, List.getElem?_map, List.getElem?_range hu];simp only [Option.map_some, Option.getD_some];rw [at0, Int.toNat_natCast, List.getElem?_eq_none (by simp; omega)]; rfl
    omega
  ·have : Zah (Zcz (Za8 a.2.1 a.2.2.1 i f (Zci a i))) u v = 0 := by
    rw [Zah, ZhL (by rw [Zcz]; simp; omega)]; simp [at0]
   omega
 ·rw [hz]; omega
theorem Zzj {a : Lv} {old y : List Int} {w : Int} {i : Nat} (hw : 0 ≤ w ∧ w ≤ 1000) (har : a.2.2.1.length ≤ 700) (hy : y.length ≤ 8) : okM (stM a old y w i) = true := by
 refine ZyG ⟨by rw [Zkp]; omega, fun p hp => ?_, fun p hp x hx => ?_⟩ (by rw [Zkp]; exact hy)
 ·rw [Zkp];obtain ⟨u, _, rfl⟩ := List.mem_map.1 hp;exact ZdF _ _
 ·obtain ⟨u, _, rfl⟩ := List.mem_map.1 hp;obtain ⟨v, _, rfl⟩ := List.mem_map.1 hx;have hb : a.2.2.1.length * a.2.2.1.length ≤ 490000 := Nat.le_trans (Nat.mul_le_mul har har) (by decide);have h1 := Zne a i ((i : Int) - 1) u v;have h2 := Zne a i ((i : Int) + 1) u v;have h3 := (Zi9 a old y hw i 2 u v).1;have h4 := (Zi9 a old y hw i 0 u v).2;have e : Zdo a old y w i 2 u v = Zdo a old y w i 0 u v + Zah (ZaQ a i ((i : Int) - 1)) u v + Zah (ZaQ a i ((i : Int) + 1)) u v := rfl;omega
theorem ZnD (m : List (List Int)) : Part m.length 0 (Zcr m).1 ∧ (Zcr m).2 = Zam (Zah m) (Zcr m).1 := by
 obtain ⟨h1, _, h3⟩ := Go.Bd.best_of (Zah m) m.length [] (ZhW _) _ (Zlm m);exact ⟨h1, h3⟩
def ZuE (a : Lv) (old : List (List Int)) (w : Int) (i : Nat) : Lv :=
 if (Zcr (stM a (Zaq old i) (Zaq a.2.1 i) w i)).2 < Zam (Zah (stM a (Zaq old i) (Zaq a.2.1 i) w i)) (List.range (Zaq a.2.1 i).length) then ZbN a i (ZaG (Zaq a.2.1 i) (Zcr (stM a (Zaq old i) (Zaq a.2.1 i) w i)).1) else a
theorem Zyz (l : List Int) (hn : l.length ≤ 1000000) : Zaf Tryz.prog 214 [.d (Zac l)] [(2000, .dead)] (.ref 2000 1 0 l.length l.length) [(2000, .row 1 (l.map D.int))] := by
 rcases Decidable.em (l = []) with rfl | hl
 ·refine kM Tryz.func214 ?_;intro B X w0;refine ZcO ?_;refine kw1 kc0 kc0 ?_;refine Zid 4 rfl ?_;intro b;cases b
  ·repeat' first | refine Zbk rfl ?_ | refine Za1 ?_ | refine ZcI (Nat.beq 5) ZbV ?_ | (refine Zbn rfl rfl (fun hc => ?_) (fun hc => ?_) <;> try simp only [hcL] at hc) | (refine Zbl _ rfl rfl (fun hc => ?_) (fun hc => ?_) <;> (try simp only [hcL] at hc) <;> try omega) | simp (disch := omega) only [go_sem, simprocAttr, roomy] | apply And.intro | omega | decide +kernel
   refine ⟨_, Zbh.1 (kN (L := [(2, .ref 2000 1 0 0 0)]) (M := [(2000, .row 1 [])]) kc0 [(2000, 7)]), ?_⟩;exact ⟨rfl, List.forall_mem_cons.2 ⟨rfl, List.forall_mem_nil _⟩⟩
  ·refine kw1 kc0 kc0 ?_;refine ⟨_, Ent.trans (Zd5 2 7 1 rfl rfl) (Zbh.1 (eL [(2000, 7)] [(2, .ref 2000 1 0 0 0)] [(2000, .row 1 [])] (by constructor <;> (repeat' first | exact List.forall_mem_nil _ | refine List.forall_mem_cons.2 ⟨rfl, ?_⟩)))), ?_⟩;exact ⟨rfl, List.forall_mem_cons.2 ⟨rfl, List.forall_mem_nil _⟩⟩
 ·have he : (l.map D.int).isEmpty = false := by simpa using hl
  have hpos : 0 < l.length := List.length_pos_iff.2 hl;refine kM Tryz.func214 ?_;intro B X w0;refine ZcO ?_;refine Zfw ⟨Nat.beq 5, ⟨⟩⟩ (kc2 he @Zat) kc0 ?_;refine ⟨_, Zbh.1 (kN (L := [(2, .ref 2000 1 0 l.length l.length)]) (M := [(2000, .row 1 (l.map D.int))]) kc0 [(2000, 7)]), ?_⟩;exact ⟨rfl, List.forall_mem_cons.2 ⟨rfl, List.forall_mem_nil _⟩⟩



theorem Zqz (l m : List Int) : Zaa Tryz.prog 31 [Zac l, Zac m] (.bool (decide (l = m))) := by
 refine kE Tryz.func31 ?_;intro hat B X w0;have hl := Zbf 0 hat rfl;have hm := Zbf 1 hat rfl;rw [List.length_map] at hl hm;by_cases hlm : l.length = m.length
 ·refine kw1 kc0 kc0 ?_;refine Zai (fun (k : Nat) => k ≤ l.length ∧ l.take k = m.take k) (fun k => [(0, .d (Zac l)), (1, .d (Zac m)), (5, .int k)]) (fun k => []) (fun k => l.length - k) 0 ?_ ?_ ?_
  ·exact ⟨Nat.zero_le _, rfl⟩
  ·exact kN kc0 []
  ·rintro k ⟨hk, hinv⟩;rcases Nat.lt_or_ge k l.length with hlt | hge
   ·obtain ⟨p, hp⟩ := Zad hlt;obtain ⟨q, hq⟩ := Zad (hlm ▸ hlt);refine kw (kc2 hp hq) kc0 ?_
    repeat' first | exact True.intro | refine Bn.mk ?_ ?_ | intro hc
    ·refine Zaj ?_;rw [decide_eq_false (ZfZ hp hq hc)]
    ·refine ⟨k + 1, ?_, eL [] _ _ (by refine ⟨?_, ?_⟩ <;> (repeat' first | exact fmn | refine fmc ⟨(by first | rfl | (simp (disch := omega) only [go_sem, simprocAttr, inL]; first | done | omega | (congr 1; done))), ?_⟩); done), ?_⟩
     ·exact ⟨by omega, by rw [ZaD hp, ZaD hq, hinv, hc]⟩
     ·omega
   ·refine kw1 kc0 kc0 ?_;refine Zaj ?_;rw [List.take_of_length_le hge, List.take_of_length_le (by omega)] at hinv;simp [hinv]
 ·refine kw1 kc0 kc0 ?_;refine Zaj ?_;rw [decide_eq_false];rintro rfl; exact hlm rfl
theorem sum_nil {a : Lv} (h : Zaw a = true) : Zlu a [] 7 = Za6 a := by
 have hz : ∀ k, ZjG a [] k = 0 := by
  intro k
  induction k with
  | zero => rfl
  | succ k ih =>
   have s1 : ZjG a [] (k + 1) = ZjG a [] k + (Zda (Zaq [] k) (Zaq a.2.1 k) : Int) := rfl;have s2 : ∀ (l : List Int) i, Zcj [] l i = [] := by
    intro l i
    induction i with
    | zero => rfl
    | succ i ihi => rw [Zcj]; split <;> simp [ihi]
   have s3 : Zaq [] k = [] := ZhL (Nat.zero_le _);rw [s1, ih, s3, Zda, s2]; rfl
 rw [Zlu, if_pos (by rw [okW, h]; decide), hz]; omega
end Go.Proofs.YtjjbhjnpeenbkaaGreatDoor
namespace Go.Proofs.YtjjbhjnpeenbkaaGreatDoor
open Go Go.PS Go.Proofs
open Go.Bd (Zcj ZjA ZoJ Zty)
set_option maxRecDepth 100000
attribute [local irreducible] Zab wpG Zaa Zaf

end Go.Proofs.YtjjbhjnpeenbkaaGreatDoor
namespace Go.Proofs.YtjjbhjnpeenbkaaGreatDoor
open Go Go.PS Go.Proofs
open Go.Bd (Zda Zcj ZjA ZoJ Zam Part)

theorem ZlY {a : Lv} (hv : Zaw a = true) {i : Nat} {y z : List Int} (hy : a.2.1[i]? = some y) (hz : z.Perm y) : ZdY a i z = (ZbN a i z, 0) := by
 have hil := (List.getElem?_eq_some_iff.1 hy).1;rw [ZdY, if_neg (by rw [hv]; decide), if_neg (by omega), Int.toNat_natCast, hy, Option.getD_some, if_neg (by rw [Zqq hz]; simp)];rfl
theorem Zs5 {a : Lv} (hv : Zaw a = true) {i : Nat} {y z : List Int} (hy : a.2.1[i]? = some y) (hz : z.Perm y) : Zaw (ZbN a i z) = true := by
 have h := ZlY hv hy hz;have := ZwB (a := a) (i := i) (o := z) (by rw [h]);rw [h] at this; exact this
structure Kin (a b : Lv) : Prop where
 ok : Zaw b = true
 wd : wide b
 len : b.2.1.length = a.2.1.length
 arcs : b.2.2.1 = a.2.2.1
 perm : ∀ k, (Zaq b.2.1 k).Perm (Zaq a.2.1 k)
theorem Kin.refl {a : Lv} (hv : Zaw a = true) (hw : wide a) : Kin a a := ⟨hv, hw, rfl, rfl, fun _ => List.Perm.refl _⟩
theorem Kin.put {a b : Lv} (h : Kin a b) {i : Nat} {y z : List Int} (hy : b.2.1[i]? = some y) (hz : z.Perm y) : Kin a (ZbN b i z) := by
 have hil := (List.getElem?_eq_some_iff.1 hy).1;have hyl : y.length ≤ 512 := by have := Zwf h.ok i; rw [Zc7 hy] at this; exact this
 refine ⟨Zs5 h.ok hy hz, ?_, ?_, h.arcs, fun k => ?_⟩
 ·have := Zwu (a := b) (i := i) (o := z) h.wd (by have := hz.length_eq; omega);rw [ZlY h.ok hy hz] at this; exact this
 ·rw [← h.len]; exact List.length_set
 ·have hl : (ZbN b i z).2.1 = b.2.1.set i z := rfl;by_cases c : k = i
  ·subst c;have hs : Zaq (b.2.1.set k z) k = z := by rw [Zaq, List.getElem?_set, if_pos rfl, if_pos hil]; rfl
   rw [hl, hs];have := h.perm k;rw [Zc7 hy] at this;exact hz.trans this
  ·have : Zaq (b.2.1.set i z) k = Zaq b.2.1 k := by rw [Zaq, Zaq, List.getElem?_set, if_neg (fun h => c h.symm)]
   rw [hl, this]; exact h.perm k
theorem Kin.lay {a b : Lv} (h : Kin a b) {k : Nat} (hk : k < a.2.1.length) : b.2.1[k]? = some (Zaq b.2.1 k) := by
 obtain ⟨y, hy⟩ := Zad (l := b.2.1) (k := k) (by have := h.len; omega);rw [Zc7 hy]; exact hy
theorem Kin.llen {a b : Lv} (h : Kin a b) (k : Nat) : (Zaq b.2.1 k).length = (Zaq a.2.1 k).length := (h.perm k).length_eq
def Zb0 (b : Lv) (old : List (List Int)) (w : Int) : Nat → Lv
 | 0 => b
 | k + 1 => if 8 < (Zaq (Zb0 b old w k).2.1 k).length then Zb0 b old w k else ZuE (Zb0 b old w k) old w k
end Go.Proofs.YtjjbhjnpeenbkaaGreatDoor
namespace Go.Proofs.YtjjbhjnpeenbkaaGreatDoor
open Go Go.PS Go.Proofs
open Go.Bd (Zam Part ZhG)

def orM (a : Lv) (i : Nat) : List (List Int) := stM a [] (Zaq a.2.1 i) 0 i
theorem ZoP (a : Lv) (i : Nat) : (orM a i).length = (Zaq a.2.1 i).length := Zkp ..
theorem Zob (a : Lv) (i : Nat) {o : List Nat} (ho : Part (Zaq a.2.1 i).length 0 o) : Zam (Zah (orM a i)) o = Zam (ZgG a i) o := by
 rw [orM, Zyr _ _ _ _ _ ho]; omega
theorem Zr7 {a : Lv} {i : Nat} (har : a.2.2.1.length ≤ 700) (h8 : ¬ 8 < (Zaq a.2.1 i).length) : okM (orM a i) = true := Zzj (by decide) har (by omega)
theorem ZkU (a : Lv) (i : Nat) : Part (Zaq a.2.1 i).length 0 (Zcr (orM a i)).1 := by
 have := (ZnD (orM a i)).1;rw [ZoP] at this; exact this
def Zfn (a : Lv) (i : Nat) : Bool := decide ((Zcr (orM a i)).2 < Zam (Zah (orM a i)) (List.range (Zaq a.2.1 i).length))
def Zb5 (a : Lv) (i : Nat) : List Nat × Bool := if 8 < (Zaq a.2.1 i).length then ([], false) else ((Zcr (orM a i)).1, Zfn a i)
def Zev (a : Lv) (i : Nat) : Lv := ZbN a i (ZaG (Zaq a.2.1 i) (Zcr (orM a i)).1)
theorem Zl5 {a : Lv} {i : Nat} (h : (Zb5 a i).2 = true) : ¬ 8 < (Zaq a.2.1 i).length ∧ Zfn a i = true := by
 rw [Zb5] at h;split at h
 ·cases h
 ·exact ⟨by assumption, h⟩
theorem Kin.arr {a b : Lv} (h : Kin a b) {i : Nat} (hi : i < a.2.1.length) {o : List Nat} (ho : Part (Zaq b.2.1 i).length 0 o) : Kin a (ZbN b i (ZaG (Zaq b.2.1 i) o)) :=
 h.put (h.lay hi) (Zm5 (Zib h.ok (h.lay hi)) ho)
theorem Zxo {a b : Lv} (h : Kin a b) {i : Nat} (hi : i < a.2.1.length) {o : List Nat} (ho : Part (Zaq b.2.1 i).length 0 o) :
  Za6 (ZbN b i (ZaG (Zaq b.2.1 i) o)) - Za6 b = Zam (Zah (orM b i)) o - Zam (Zah (orM b i)) (List.range (Zaq b.2.1 i).length) := by
 rw [Zob _ _ ho, Zob _ _ (ZqZ _)];exact Zvm h.ok (h.arr hi ho).ok (h.lay hi) ho
theorem ZmQ {a b : Lv} (h : Kin a b) {i : Nat} (hi : i < a.2.1.length) : Kin a (Zev b i) := h.arr hi (ZkU b i)
theorem ZrC {a b : Lv} (h : Kin a b) {i : Nat} (hi : i < a.2.1.length) (hb : Zfn b i = true) : Za6 (Zev b i) < Za6 b := by
 have h1 := Zxo h hi (ZkU b i);have h2 := (ZnD (orM b i)).2;rw [Zfn, decide_eq_true_eq, h2] at hb;rw [Zev]; omega
theorem Ztp (a : Lv) : 0 ≤ Za6 a := by
 have := Zir (f := fun i => ZbX a i) (c := 360000000000) a.2.1.length fun i _ => ZpE a i
 exact this.1
def Zb2 : Nat → Lv → Nat → Lv
 | 0, b, _ => b
 | f + 1, b, i => if i < b.2.1.length then (if (Zb5 b i).2 then Zb2 f (Zev b i) 0 else Zb2 f b (i + 1)) else b
def ZdR (b : Lv) (i : Nat) : Nat := (Za6 b).toNat * (b.2.1.length + 1) + (b.2.1.length - i)
def Zdv (a : Lv) : Lv := Zb2 (ZdR a 0) a 0
theorem ZqE {b : Lv} {i : Nat} (h : i < b.2.1.length) : ZdR b (i + 1) < ZdR b i := by
 simp only [ZdR]; omega
theorem Znj {a b : Lv} (h : Kin a b) {i : Nat} (hi : i < a.2.1.length) (hb : Zfn b i = true) : ZdR (Zev b i) 0 < ZdR b i := by
 have h1 := ZrC h hi hb;have h2 := Ztp (Zev b i);have h3 : (Zev b i).2.1.length = b.2.1.length := by rw [(ZmQ h hi).len, h.len]
 have h4 := h.len;rw [ZdR, ZdR, h3];have h5 : ((Za6 (Zev b i)).toNat + 1) * (b.2.1.length + 1) ≤ (Za6 b).toNat * (b.2.1.length + 1) := Nat.mul_le_mul_right _ (by omega);rw [Nat.add_mul] at h5;omega
theorem Znw {f : Nat} {b : Lv} {i : Nat} (h : ¬ i < b.2.1.length) : Zb2 f b i = b := by
 cases f with
 | zero => rfl
 | succ f => rw [Zb2, if_neg h]
theorem Zje {a : Lv} : ∀ (f : Nat) (b : Lv) (i : Nat), Kin a b → ZdR b i ≤ f → i ≤ a.2.1.length → (∀ j, j < i → (Zb5 b j).2 = false) →
  Kin a (Zb2 f b i) ∧ Za6 (Zb2 f b i) ≤ Za6 b ∧ ∀ j, j < a.2.1.length → (Zb5 (Zb2 f b i) j).2 = false
 | 0, b, i, h, hm, hi, hj => by
  have h4 := h.len;simp only [ZdR] at hm;rw [Zb2];exact ⟨h, Int.le_refl _, fun j hlt => hj j (by omega)⟩
 | f + 1, b, i, h, hm, hi, hj => by
  have h4 := h.len;by_cases hlt : i < b.2.1.length
  ·rw [Zb2, if_pos hlt];rcases hb : (Zb5 b i).2 with _ | _
   ·rw [if_neg (by decide)];refine Zje f b (i + 1) h (by have := ZqE hlt; omega) (by omega) fun j hlj => ?_
    rcases Nat.lt_or_ge j i with c | c
    ·exact hj j c
    ·obtain rfl : j = i := by omega
     exact hb
   ·rw [if_pos rfl];have hb2 := (Zl5 hb).2;have h5 := Znj h (by omega) hb2;have h6 := ZrC h (by omega) hb2;obtain ⟨g1, g2, g3⟩ := Zje f (Zev b i) 0 (ZmQ h (by omega)) (by omega) (Nat.zero_le _) (fun j hlj => absurd hlj (Nat.not_lt_zero j));exact ⟨g1, by omega, g3⟩
  ·rw [Znw hlt];exact ⟨h, Int.le_refl _, fun j hlt2 => hj j (by omega)⟩
theorem ZzW {a : Lv} (hv : Zaw a = true) (hw : wide a) : Kin a (Zdv a) ∧ Za6 (Zdv a) ≤ Za6 a ∧ ∀ j, j < a.2.1.length → (Zb5 (Zdv a) j).2 = false :=
 Zje _ a 0 (Kin.refl hv hw) (Nat.le_refl _) (Nat.zero_le _) (fun j hlj => absurd hlj (Nat.not_lt_zero j))
def ZjY (a : Lv) (i : Int) : Bool := Zaw a && decide (0 ≤ i ∧ i < a.2.1.length) && decide (¬ 8 < (Zaq a.2.1 i.toNat).length) && !Zfn a i.toNat
end Go.Proofs.YtjjbhjnpeenbkaaGreatDoor
namespace Go.Proofs.YtjjbhjnpeenbkaaGreatDoor
open Go Go.PS Go.Proofs
set_option maxRecDepth 100000
attribute [local irreducible] Zab wpG Zaa Zaf

abbrev elD (v : Nat → Int) (p : Nat → List D) (k : Nat) : D := .ag [.int (v k), .sl (p k)]
theorem Zuy (v : Nat → Int) (p : Nat → List D) (g : Nat) (a b n N : Nat) (L : Nat → List Nat) (hlen : ∀ i, (L i).length = N) (hN : N ≤ 1000000) (ha : a + n ≤ N) (hb : b + n ≤ N)
  (hstep : ∀ i, i < n → ∃ u w, (L i)[a + i]? = some u ∧ (L i)[b + i]? = some w ∧ ((L i).set (a + i) w).set (b + i) u = L (i + 1)) :
  Zaf Tryz.prog 292 [.ref 1000 2 0 N N, .int a, .int b, .int n, .d (.fn g [])] [(1000, .row 2 ((L 0).map (elD v p)))] (.tup []) [(1000, .row 2 ((L n).map (elD v p)))] := by
 refine kM Tryz.func292 ?_;intro B X w0;refine ZcO ?_;refine kw1 kc0 kc0 ?_;refine Zai (fun (i : Nat) => i ≤ n) (fun i => [(0, .ref 1000 2 0 N N), (1, .int a), (2, .int b), (3, .int n), (10, .int i)]) (fun i => [(1000, .row 2 ((L i).map (elD v p)))]) (fun i => n - i) 0 ?_ ?_ ?_
 ·exact Nat.zero_le _
 ·exact kN kc0 []
 ·intro i hi;rcases Nat.lt_or_ge i n with hlt | hge
  ·obtain ⟨u, w, hu, hw, hs⟩ := hstep i hlt;have hl := hlen i;have e1 : ((a : Int) + i).toNat = a + i := by omega
   have e2 : ((b : Int) + i).toNat = b + i := by omega
   have hs2 : (((L i).map (elD v p)).set (a + i) (elD v p w)).set (b + i) (elD v p u) = (L (i + 1)).map (elD v p) := by rw [← hs, List.map_set, List.map_set]
   have hz : ((L i).set (a + i) w)[b + i]? = some w := by
    rw [List.getElem?_set];by_cases c : a + i = b + i
    ·rw [if_pos c, if_pos (by omega)]
    ·rw [if_neg c, hw]
   have hz2 : (((L i).map (elD v p)).set (a + i) (elD v p w))[b + i]? = some (elD v p w) := by rw [← List.map_set, List.getElem?_map, hz]; rfl
   refine kw1 (kc8 e1 e2 hu hw hl @List.length_set.{0} hz2 hs2) kc0 ?_;refine ⟨i + 1, ?_, kN (kc1 hs2) [], ?_⟩
   ·omega
   ·omega
  ·have : i = n := by omega
   subst this;refine kw1 kc0 kc0 ?_;refine ⟨_, Zbh.1 (kN (L := []) (M := [(1000, .row 2 ((L i).map (elD v p)))]) kc0 []), ?_⟩;exact ⟨⟨[], rfl, trivial⟩, fmc ⟨rfl, fmn⟩⟩
theorem Zf7 {α : Type} (A : List α) (u w : α) (C : List α) : (A ++ u :: C).set A.length w = A ++ w :: C := by
 rw [List.set_append, if_neg (Nat.lt_irrefl _), Nat.sub_self]; rfl
theorem Zgx {α : Type} (A : List α) (u : α) (C : List α) : (A ++ u :: C)[A.length]? = some u := by
 rw [List.getElem?_append_right (Nat.le_refl _), Nat.sub_self]; rfl
theorem ZfU {α : Type} {l : List α} {i : Nat} {u : α} (h : l[i]? = some u) : l.drop i = u :: l.drop (i + 1) := by
 obtain ⟨hl, rfl⟩ := List.getElem?_eq_some_iff.1 h;exact List.drop_eq_getElem_cons hl
def swN (X U Y V Z : List Nat) (i : Nat) : List Nat := X ++ V.take i ++ U.drop i ++ Y ++ U.take i ++ V.drop i ++ Z
theorem ZxV {X U Y V Z : List Nat} (h : U.length = V.length) {i : Nat} (hi : i < U.length) :
  ∃ u w, (swN X U Y V Z i)[X.length + i]? = some u ∧ (swN X U Y V Z i)[X.length + U.length + Y.length + i]? = some w ∧ ((swN X U Y V Z i).set (X.length + i) w).set (X.length + U.length + Y.length + i) u = swN X U Y V Z (i + 1) := by
 obtain ⟨u, hu⟩ := Zad hi;obtain ⟨w, hw⟩ := Zad (l := V) (k := i) (by omega);have e1 : swN X U Y V Z i = (X ++ V.take i) ++ u :: ((U.drop (i + 1) ++ Y ++ U.take i) ++ w :: (V.drop (i + 1) ++ Z)) := by
  rw [swN, ZfU hu, ZfU hw]; simp
 have e2 : swN X U Y V Z i = ((X ++ V.take i) ++ u :: (U.drop (i + 1) ++ Y ++ U.take i)) ++ w :: (V.drop (i + 1) ++ Z) := by rw [e1]; simp
 have l1 : (X ++ V.take i).length = X.length + i := by rw [List.length_append, List.length_take]; omega
 have l2 : ((X ++ V.take i) ++ u :: (U.drop (i + 1) ++ Y ++ U.take i)).length = X.length + U.length + Y.length + i := by
  simp only [List.length_append, List.length_cons, List.length_take, List.length_drop]; omega
 have l3 : ((X ++ V.take i) ++ w :: (U.drop (i + 1) ++ Y ++ U.take i)).length = X.length + U.length + Y.length + i := by
  simp only [List.length_append, List.length_cons, List.length_take, List.length_drop]; omega
 refine ⟨u, w, ?_, ?_, ?_⟩
 ·rw [e1, ← l1]; exact Zgx _ _ _
 ·rw [e2, ← l2]; exact Zgx _ _ _
 ·rw [e1, ← l1, Zf7];have e3 : (X ++ V.take i) ++ w :: ((U.drop (i + 1) ++ Y ++ U.take i) ++ w :: (V.drop (i + 1) ++ Z)) = ((X ++ V.take i) ++ w :: (U.drop (i + 1) ++ Y ++ U.take i)) ++ w :: (V.drop (i + 1) ++ Z) := by simp
  rw [e3, ← l3, Zf7, swN, ZaD hw, ZaD hu]; simp
theorem Zls (v : Nat → Int) (p : Nat → List D) (g : Nat) (X U Y V Z : List Nat) (h : U.length = V.length) (N : Nat) (hN : X.length + U.length + Y.length + V.length + Z.length = N) (hN1 : N ≤ 1000000) (a b n : Int)
  (ha : a = X.length) (hb : b = (X.length + U.length + Y.length : Nat)) (hn : n = U.length) :
  Zaf Tryz.prog 292 [.ref 1000 2 0 N N, .int a, .int b, .int n, .d (.fn g [])] [(1000, .row 2 ((X ++ U ++ Y ++ V ++ Z).map (elD v p)))] (.tup []) [(1000, .row 2 ((X ++ V ++ Y ++ U ++ Z).map (elD v p)))] := by
 have hm := Zuy v p g X.length (X.length + U.length + Y.length) U.length N (swN X U Y V Z) (fun i => by
  rw [swN]; simp only [List.length_append, List.length_take, List.length_drop]; omega) hN1 (by omega) (by omega) (fun i hi => ZxV h hi)
 have e0 : swN X U Y V Z 0 = X ++ U ++ Y ++ V ++ Z := by rw [swN]; simp
 have e1 : swN X U Y V Z U.length = X ++ V ++ Y ++ U ++ Z := by
  rw [swN, List.take_of_length_le (l := V) (by omega), List.drop_of_length_le (l := U) (Nat.le_refl _), List.take_of_length_le (l := U) (Nat.le_refl _), List.drop_of_length_le (l := V) (by omega)]; simp
 rw [e0, e1] at hm;rw [ha, hb, hn];exact hm
theorem ZyV (v : Nat → Int) (p : Nat → List D) (g : Nat) (P U V Q : List Nat) (hU : 0 < U.length) (hV : 0 < V.length) (N : Nat) (hN : P.length + U.length + V.length + Q.length = N) (hN1 : N ≤ 1000000) (a m b : Int)
  (ha : a = P.length) (hm : m = (P.length + U.length : Nat)) (hb : b = (P.length + U.length + V.length : Nat)) :
  Zaf Tryz.prog 290 [.ref 1000 2 0 N N, .int a, .int m, .int b, .d (.fn g [])] [(1000, .row 2 ((P ++ U ++ V ++ Q).map (elD v p)))] (.tup []) [(1000, .row 2 ((P ++ V ++ U ++ Q).map (elD v p)))] := by
 subst ha hm hb;obtain ⟨M, hM⟩ : ∃ M, M = P.length + U.length := ⟨_, rfl⟩;obtain ⟨R, hR⟩ : ∃ R, R = P ++ V ++ U ++ Q := ⟨_, rfl⟩;rw [← hR, ← hM];have d1 : ((M + V.length : Nat) : Int) - (M : Int) = V.length := by omega
 have d2 : (M : Int) - (P.length : Int) = U.length := by omega
 refine kM Tryz.func290 ?_;intro B X w0;refine ZcO ?_;refine kw1 (kc2 d1 d2) kc0 ?_;refine Zai (fun (q : List Nat × List Nat × List Nat × List Nat) => match q with | (P, U, V, Q) => 0 < U.length ∧ 0 < V.length ∧ P.length + U.length = M ∧ P.length + U.length + V.length + Q.length = N ∧ P ++ V ++ U ++ Q = R) (fun (P, U, V, Q) => [(0, .ref 1000 2 0 N N), (2, .int M), (4, .d (.fn g [])), (10, .int U.length), (11, .int V.length)]) (fun (P, U, V, Q) => [(1000, .row 2 ((P ++ U ++ V ++ Q).map (elD v p)))]) (fun (P, U, V, Q) => U.length + V.length) (P, U, V, Q) ?_ ?_ ?_
 ·exact ⟨hU, hV, hM.symm, by omega, hR.symm⟩
 ·exact kN kc0 []
 ·rintro ⟨P, U, V, Q⟩ ⟨hU, hV, hM, hN, hR⟩;dsimp only at hU hV hM hN hR ⊢;rcases Nat.lt_trichotomy U.length V.length with hlt | heq | hgt
  ·obtain ⟨V1, V2, rfl, hl⟩ : ∃ V1 V2, V = V1 ++ V2 ∧ V2.length = U.length := ⟨V.take (V.length - U.length), V.drop (V.length - U.length), (List.take_append_drop _ _).symm, by rw [List.length_drop]; omega⟩;rw [List.length_append] at hlt hN;have h1 := Zls v p g P U V1 V2 Q hl.symm N (by omega) hN1 ((M : Int) - (U.length : Int)) ((M : Int) + ((V1 ++ V2).length : Int) - (U.length : Int)) U.length (by omega) (by rw [List.length_append]; omega) rfl;have e0 : P ++ U ++ (V1 ++ V2) ++ Q = P ++ U ++ V1 ++ V2 ++ Q := by simp
   have e1 : P ++ V2 ++ V1 ++ U ++ Q = P ++ V2 ++ V1 ++ (U ++ Q) := by simp
   have e2 : ((V1 ++ V2).length : Int) - (U.length : Int) = V1.length := by rw [List.length_append]; omega
   have b1 : (V1 ++ V2).length ≤ 1000000 := by rw [List.length_append]; omega
   have b2 : U.length < (V1 ++ V2).length := by rw [List.length_append]; omega
   rw [← e0] at h1;have b3 : (V1 ++ V2).length = V1.length + V2.length := List.length_append;generalize hVV : V1 ++ V2 = VV at *;refine kw1 kc0 (kc1 (kmc [] h1)) ?_;refine ⟨(P, V2, V1, U ++ Q), ?_, kN (kc3 e1 e2 hl) [], ?_⟩
   ·dsimp only;refine ⟨by omega, by omega, by omega, ?_, ?_⟩
    ·rw [List.length_append]; omega
    ·rw [← hR, ← hVV]; simp
   ·dsimp only; omega
  ·have h1 := Zls v p g P U [] V Q heq N (by simp only [List.length_nil]; omega) hN1 ((M : Int) - (V.length : Int)) M V.length (by omega) (by simp only [List.length_nil]; omega) (by omega);rw [List.append_nil, List.append_nil] at h1;refine kw1 (kc1 heq) (kc1 (kmc [] h1)) ?_;refine ⟨_, Zbh.1 (kN (L := []) (M := [(1000, .row 2 ((P ++ V ++ U ++ Q).map (elD v p)))]) kc0 []), ?_⟩;rw [hR];exact ⟨⟨[], rfl, trivial⟩, fmc ⟨rfl, fmn⟩⟩
  ·obtain ⟨U1, U2, rfl, hl⟩ : ∃ U1 U2, U = U1 ++ U2 ∧ U1.length = V.length := ⟨U.take V.length, U.drop V.length, (List.take_append_drop _ _).symm, by rw [List.length_take]; omega⟩;rw [List.length_append] at hgt hN;have h1 := Zls v p g P U1 U2 V Q hl N (by omega) hN1 ((M : Int) - ((U1 ++ U2).length : Int)) M V.length (by rw [List.length_append] at hM ⊢; omega) (by rw [List.length_append] at hM; omega) (by omega);have e0 : P ++ (U1 ++ U2) ++ V ++ Q = P ++ U1 ++ U2 ++ V ++ Q := by simp
   have e1 : P ++ V ++ U2 ++ U1 ++ Q = (P ++ V) ++ U2 ++ U1 ++ Q := by simp
   have e2 : ((U1 ++ U2).length : Int) - (V.length : Int) = U2.length := by rw [List.length_append]; omega
   have b1 : (U1 ++ U2).length ≤ 1000000 := by rw [List.length_append]; omega
   have b2 : V.length < (U1 ++ U2).length := by rw [List.length_append]; omega
   rw [← e0] at h1;have b3 : (U1 ++ U2).length = U1.length + U2.length := List.length_append;generalize hUU : U1 ++ U2 = UU at *;refine kw1 kc0 (kc1 (kmc [] h1)) ?_;refine ⟨(P ++ V, U2, U1, Q), ?_, kN (kc3 e1 e2 hl) [], ?_⟩
   ·dsimp only;refine ⟨by omega, by omega, ?_, ?_, ?_⟩
    ·rw [List.length_append]; omega
    ·rw [List.length_append]; omega
    ·rw [← hR, ← hUU]; simp
   ·dsimp only; omega
end Go.Proofs.YtjjbhjnpeenbkaaGreatDoor
namespace Go.Proofs.YtjjbhjnpeenbkaaGreatDoor
open Go Go.PS Go.Proofs
open Go.Stb
set_option maxRecDepth 100000
attribute [local irreducible] Zab wpG Zaa Zaf

def Zdg (c : Nat → Nat → Int) (R : Nat → Nat → Prop) (s x : Nat) : Prop := c x s < 0 ↔ R x s
theorem ZrV {c : Nat → Nat → Int} {R : Nat → Nat → Prop} {M : List Nat} (h : M.Pairwise (Zdg c R)) {k x s : Nat} (hx : M[k]? = some x) (hs : s ∈ M.take k) : Zdg c R s x := by
 rw [← List.take_append_drop k M] at h;exact (List.pairwise_append.1 h).2.2 s hs x (by rw [ZfU hx]; simp)
theorem ZxL {M : List Nat} (h : M.Nodup) {k x s : Nat} (hx : M[k]? = some x) (hs : s ∈ M.take k) : s ≠ x := by
 rw [← List.take_append_drop k M, List.nodup_append] at h;exact h.2.2 s hs x (by rw [ZfU hx]; simp)
theorem ZxT (v : Nat → Int) (p : Nat → List D) (g : Nat) (c : Nat → Nat → Int) (R : Nat → Nat → Prop) (hR : Ord R) (hcmp : ∀ j k, Zaa Tryz.prog g [elD v p j, elD v p k] (.int (c j k)))
  (P M Q T : List Nat) (hb : M.Pairwise (Zdg c R)) (hnd : M.Nodup) (hT : T.Perm M) (hTs : T.Pairwise R) (N : Nat) (hN : P.length + M.length + Q.length = N) (hN1 : N ≤ 1000000) (a e : Int) (ha : a = P.length) (he : e = (P.length + M.length : Nat)) :
  Zaf Tryz.prog 280 [.ref 1000 2 0 N N, .int a, .int e, .d (.fn g [])] [(1000, .row 2 ((P ++ M ++ Q).map (elD v p)))] (.tup []) [(1000, .row 2 ((P ++ T ++ Q).map (elD v p)))] := by
 subst ha he;obtain ⟨A, hA⟩ : ∃ A, A = P.length := ⟨_, rfl⟩;rw [← hA];refine kM Tryz.func280 ?_;intro B X w0;refine ZcO ?_;refine kw1 kc0 kc0 ?_;refine Zai (fun (q : Nat × List Nat) => match q with | (k, S) => 1 ≤ k ∧ k ≤ M.length + 1 ∧ S.Pairwise R ∧ S.Perm (M.take k)) (fun (k, S) => [(0, .ref 1000 2 0 N N), (1, .int A), (2, .int ((A + M.length : Nat) : Int)), (3, .d (.fn g [])), (8, .int ((A + k : Nat) : Int))]) (fun (k, S) => [(1000, .row 2 ((P ++ S ++ M.drop k ++ Q).map (elD v p)))]) (fun (k, S) => M.length + 1 - k) (1, M.take 1) ?_ ?_ ?_
 ·refine ⟨Nat.le_refl _, by omega, ?_, List.Perm.refl _⟩;rcases M with _ | ⟨x, M⟩
  ·exact List.Pairwise.nil
  ·exact List.pairwise_singleton _ _
 ·have e0 : P ++ M.take 1 ++ M.drop 1 ++ Q = P ++ M ++ Q := by rw [List.append_assoc P, List.take_append_drop]
  exact kN (kc3 e0 @Int.natCast_add @Int.natCast_one) []
 ·rintro ⟨k, S⟩ ⟨hk1, hk2, hSs, hSp⟩;dsimp only at hk1 hk2 hSs hSp ⊢;have hSl := hSp.length_eq;rw [List.length_take] at hSl;rcases Nat.lt_or_ge k M.length with hlt | hge
  ·obtain ⟨x, hx⟩ := Zad hlt;have hdr := ZfU hx;have hSx : ∀ s, s ∈ S → Zdg c R s x ∧ s ≠ x := fun s hs => ⟨ZrV hb hx (hSp.mem_iff.1 hs), ZxL hnd hx (hSp.mem_iff.1 hs)⟩
   generalize hQ2 : M.drop (k + 1) ++ Q = Q2 at *;have hQl : Q2.length + k + 1 = M.length + Q.length := by rw [← hQ2, List.length_append, List.length_drop]; omega
   refine kw1 kc0 kc0 ?_;refine Zai (fun (q : List Nat × List Nat) => match q with | (S1, S2) => S1 ++ S2 = S ∧ (∀ s, s ∈ S2 → R x s)) (fun (S1, S2) => [(0, .ref 1000 2 0 N N), (1, .int A), (2, .int ((A + M.length : Nat) : Int)), (3, .d (.fn g [])), (8, .int ((A + k : Nat) : Int)), (9, .int ((A + S1.length : Nat) : Int))]) (fun (S1, S2) => [(1000, .row 2 ((P ++ S1 ++ x :: (S2 ++ Q2)).map (elD v p)))]) (fun (S1, S2) => S1.length) (S, []) ?_ ?_ ?_
   ·exact ⟨List.append_nil _, fun s hs => by cases hs⟩
   ·have e0 : P ++ S ++ M.drop k ++ Q = P ++ S ++ x :: Q2 := by rw [hdr, ← hQ2]; simp
    have e1 : S.length = k := by omega
    exact kN (kc3 e0 e1 @List.nil_append.{0}) []
   ·rintro ⟨S1, S2⟩ ⟨hSS, hS2⟩;dsimp only at hSS hS2 ⊢;have hl0 : S1.length + S2.length = k := by
     have := congrArg List.length hSS;rw [List.length_append] at this; omega
    have hdone : S1 = [] ∨ (∃ S3 s, S1 = S3 ++ [s]) := by
     rcases List.eq_nil_or_concat S1 with h | ⟨l, z, h⟩
     ·exact .inl h
     ·exact .inr ⟨l, z, by rw [h, List.concat_eq_append]⟩
    have hfin : (∀ s, s ∈ S1 → R s x) → (S1 ++ x :: S2).Pairwise R ∧ (S1 ++ x :: S2).Perm (M.take (k + 1)) := fun h => by
     refine ⟨Zuc hR (by rw [hSS]; exact hSs) h hS2, ?_⟩;rw [ZaD hx];refine List.perm_middle.trans ?_;rw [hSS];exact (List.perm_append_comm (l₁ := [x]) (l₂ := S)).trans (hSp.append_right [x])
    have hrow : P ++ S1 ++ x :: (S2 ++ Q2) = P ++ (S1 ++ x :: S2) ++ M.drop (k + 1) ++ Q := by rw [← hQ2]; simp
    have hkk : ((A + k : Nat) : Int) + 1 = ((A + (k + 1) : Nat) : Int) := by omega
    rcases hdone with rfl | ⟨S3, s, rfl⟩
    ·obtain ⟨f1, f2⟩ := hfin (fun s hs => by cases hs);have z0 : A + ([] : List Nat).length = A := rfl;rw [z0];refine kw1 kc0 kc0 ?_;have hrow0 : P ++ x :: (S2 ++ Q2) = P ++ x :: S2 ++ M.drop (k + 1) ++ Q := by rw [← hQ2]; simp
     refine ⟨(k + 1, x :: S2), ?_, kN (kc2 @hrow0 hkk) [], ?_⟩
     ·exact ⟨by omega, by omega, f1, f2⟩
     ·dsimp only; omega
    ·obtain ⟨hbk, hne⟩ := hSx s (by rw [← hSS]; simp);have h1 := hcmp x s;rw [List.length_append, List.length_singleton] at hl0;obtain ⟨J, hJ⟩ : ∃ J, J = A + S3.length := ⟨_, rfl⟩;have z0 : A + (S3 ++ [s]).length = J + 1 := by rw [List.length_append, List.length_singleton]; omega
     have g1 : (P ++ (S3 ++ [s]) ++ x :: (S2 ++ Q2))[J + 1]? = some x := by
      rw [← z0, hA, ← List.length_append]; exact Zgx _ _ _
     have rw1 : P ++ (S3 ++ [s]) ++ x :: (S2 ++ Q2) = (P ++ S3) ++ s :: x :: (S2 ++ Q2) := by simp
     have hPJ : (P ++ S3).length = J := by rw [List.length_append]; omega
     have g2 : (P ++ (S3 ++ [s]) ++ x :: (S2 ++ Q2))[J]? = some s := by rw [rw1, ← hPJ]; exact Zgx _ _ _
     have hln : (P ++ (S3 ++ [s]) ++ x :: (S2 ++ Q2)).length = N := by
      simp only [List.length_append, List.length_cons, List.length_nil]; omega
     have hst : ((P ++ (S3 ++ [s]) ++ x :: (S2 ++ Q2)).set (J + 1) s).set J x = P ++ S3 ++ x :: (s :: S2 ++ Q2) := by
      have r1 : (P ++ (S3 ++ [s]) ++ x :: (S2 ++ Q2)).set (J + 1) s = (P ++ S3) ++ s :: s :: (S2 ++ Q2) := by
       rw [← z0, hA, ← List.length_append, Zf7]; simp
      rw [r1, ← hPJ, Zf7]; simp
     have g3 : ((P ++ (S3 ++ [s]) ++ x :: (S2 ++ Q2)).set (J + 1) s)[J]? = some s := by
      rw [List.getElem?_set, if_neg (by omega), g2]
     rw [z0];rw [hrow] at *;generalize hLL : P ++ (S3 ++ [s] ++ x :: S2) ++ M.drop (k + 1) ++ Q = LL at *;have g4 : ((LL.map (elD v p)).set (J + 1) (elD v p s))[J]? = some (elD v p s) := by rw [← List.map_set, List.getElem?_map, g3]; rfl
     have hs2 : ((LL.map (elD v p)).set (J + 1) (elD v p s)).set J (elD v p x) = (P ++ S3 ++ x :: (s :: S2 ++ Q2)).map (elD v p) := by rw [← hst, List.map_set, List.map_set]
     have n1 : (((J + 1 : Nat) : Int) - 1).toNat = J := by omega
     have n2 : (((J + 1 : Nat) : Int)).toNat = J + 1 := by omega
     have n3 : ((J + 1 : Nat) : Int) - 1 = (J : Int) := by omega
     by_cases hlt2 : c x s < 0
     ·refine kw1 (kc8 n1 n2 n3 g1 g2 hln hlt2 (kc3 @List.length_set.{0} g4 hs2)) (kc1 h1) ?_;refine ⟨(S3, s :: S2), ?_, kN (kc2 hs2 hJ) [], ?_⟩
      ·dsimp only;exact ⟨by rw [← hSS]; simp, fun z hz => by
        rcases List.mem_cons.1 hz with rfl | hz
        ·exact hbk.1 hlt2
        ·exact hS2 z hz⟩
      ·dsimp only; rw [List.length_append, List.length_singleton]; omega
     ·have hsx : R s x := by
       rcases hR.total s x hne with h | h
       ·exact h
       ·exact absurd (hbk.2 h) hlt2
      have hS1s : (S3 ++ [s]).Pairwise R := by
       rw [← hSS] at hSs;exact (List.pairwise_append.1 hSs).1
      obtain ⟨f1, f2⟩ := hfin (fun z hz => by
       rcases List.mem_append.1 hz with hz | hz
       ·exact hR.trans z s x ((List.pairwise_append.1 hS1s).2.2 z hz s (by simp)) hsx
       ·rw [List.mem_singleton.1 hz]; exact hsx)
      refine kw1 (kc7 n1 n2 n3 g1 g2 hln hlt2) (kc1 h1) ?_;refine ⟨(k + 1, S3 ++ [s] ++ x :: S2), ?_, kN (kc2 hLL hkk) [], ?_⟩
      ·exact ⟨by omega, by omega, f1, f2⟩
      ·dsimp only; omega
  ·have hS : S = T := by
    rw [List.take_of_length_le hge] at hSp;exact ZgH hR (hSp.trans hT.symm) hSs hTs
   subst hS;refine kw1 kc0 kc0 ?_;have e0 : P ++ S ++ M.drop k ++ Q = P ++ S ++ Q := by rw [List.drop_of_length_le hge, List.append_nil]
   refine ⟨_, Zbh.1 (kN (L := []) (M := [(1000, .row 2 ((P ++ S ++ Q).map (elD v p)))]) (kc1 e0) []), ?_⟩;exact ⟨⟨[], rfl, trivial⟩, fmc ⟨rfl, fmn⟩⟩
end Go.Proofs.YtjjbhjnpeenbkaaGreatDoor
