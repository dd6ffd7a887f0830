/- Branch and bound: extend, all of it. -/
import Derived.Test.YtjjbhjnpeenbkaaGreatDoorCi
import Derived.Test.YtjjbhjnpeenbkaaGreatDoorPSMac
import Derived.Test.YtjjbhjnpeenbkaaGreatDoorD
import Derived.Test.YtjjbhjnpeenbkaaGreatDoorTypes
import Derived.Test.YtjjbhjnpeenbkaaGreatDoorPSCmp
import Derived.Test.YtjjbhjnpeenbkaaGreatDoorPSFam
set_option linter.unusedSimpArgs false
set_option linter.unusedVariables false
set_option maxHeartbeats 16000000
namespace Go.Proofs.YtjjbhjnpeenbkaaGreatDoor
open Go Go.PS Go.Proofs
open Go.Bd (sm Zam ZbD low Part Zbh Zig Za8 ZbM Zbv Zcw ZdA ZcE)
set_option maxRecDepth 100000
attribute [local irreducible] Zab wpG Zaa Zaf

def Zby (m : List (List Int)) (l : List Nat) (v k : Nat) : Int := sm (fun w => if w ≠ v ∧ w ∉ l then Zag m v w else 0) k
def ZbA (m : List (List Int)) (l : List Nat) (v k : Nat) : Int := sm (fun w => if w ≠ v ∧ w ∉ l then min (Zag m v w) (Zag m w v) else 0) k
theorem ZpS {ids : List Nat} {S : St} {o o2 : Nat} (h1 : o ∈ ids) (h2 : o2 < 1000 ∨ 2000 ≤ o2) (h : ZbU ids S.objs) :
  ZbU ids (fun x => if x = o then .gone else if x = o2 then (S.objs o).ren (mvG o o2) else (S.objs x).ren (mvG o o2)) := fun i a b hi => by
 dsimp only;rw [if_neg (fun e : i = o => hi (e ▸ h1)), if_neg (by omega), h i a b hi]; rfl
theorem ZfX {m : List (List Int)} {l : List Nat} {v k : Nat} (h : ¬ (k ≠ v ∧ k ∉ l)) : Zby m l v (k + 1) = Zby m l v k := by rw [Zby, sm, if_neg h, Int.add_zero]; rfl
theorem Zj3 {m : List (List Int)} {l : List Nat} {v k : Nat} (h : k ≠ v ∧ k ∉ l) : Zby m l v (k + 1) = Zby m l v k + Zag m v k := by rw [Zby, sm, if_pos h]; rfl
theorem Zf9 {m : List (List Int)} {l : List Nat} {v k : Nat} (h : ¬ (k ≠ v ∧ k ∉ l)) : ZbA m l v (k + 1) = ZbA m l v k := by rw [ZbA, sm, if_neg h, Int.add_zero]; rfl
theorem Zj1 {m : List (List Int)} {l : List Nat} {v k : Nat} (h : k ≠ v ∧ k ∉ l) : ZbA m l v (k + 1) = ZbA m l v k + min (Zag m v k) (Zag m k v) := by rw [ZbA, sm, if_pos h]; rfl
theorem Zvx (m : List (List Int)) (hs : Sq m) (h8 : m.length ≤ 8) : ∀ (f : Nat) (l : List Nat), Part m.length f l → ∀ (st : Option (List Nat × Int)) (cost rest : Int), ExtIn m l st cost rest → ZeI m f l st cost rest := by
 intro f
 induction f with
 | zero =>
  intro l hp st cost rest hi;have hll := hp.len;rcases hsh : ZcE st (cost + rest) with _ | _
  ·exact ZrV m hs h8 l hp st cost rest hi hsh
  ·exact Zng m 0 l st cost rest hi (by omega) hsh (by rw [ZbM, if_pos hsh])
 | succ f IH =>
  intro l hp st cost rest hi;have hll := hp.len;rcases hsh : ZcE st (cost + rest) with _ | _
  ·rw [ZeI, Go.Bd.ext_foldE, if_neg (by rw [hsh]; decide)];have hlen := Zvb (cost := cost) (rest := rest) (c := Zag m) hp hi.len;have hIH : ∀ v, v < m.length → v ∉ l → ZeI m f (l ++ [v]) (Zbv (Zag m) m.length f l cost rest st v) (cost + Zby m l v m.length) (rest - ZbA m l v m.length) := fun v hv hm => by
    have b1 : 0 ≤ Zby m l v m.length ∧ Zby m l v m.length ≤ 1000000 * m.length := Go.Bd.more_bounds hs.small l hv m.length (Nat.le_refl _);have b2 : 0 ≤ ZbA m l v m.length ∧ ZbA m l v m.length ≤ 1000000 * m.length := Go.Bd.less_bounds hs.small l hv m.length (Nat.le_refl _);have b3 := hi.c0;have b4 := hi.c1;have b5 := hi.r0;have b6 := hi.r1;refine IH _ (hp.snoc hv hm) _ _ _ ⟨hlen v (by omega), .inl (by omega), by omega, ?_, ?_, by omega⟩
    ·rw [List.length_append, Int.natCast_add, Int.mul_add];simp only [List.length_cons, List.length_nil];omega
    ·rw [List.length_append, Int.natCast_add, Int.mul_add];simp only [List.length_cons, List.length_nil];omega
   obtain ⟨st0, hst0⟩ : ∃ st0, st = st0 := ⟨_, rfl⟩;rw [hst0] at hlen hIH ⊢;obtain ⟨hbl, hpos, c0, c1, r0, r1⟩ := hi;obtain ⟨⟨be, ke⟩, hend⟩ : ∃ s, Zbv (Zag m) m.length f l cost rest st0 m.length = some s := by
    obtain ⟨s, hx⟩ := Go.Bd.ext_some (c := Zag m) (f + 1) l hp cost rest st0;rw [Go.Bd.ext_foldE, if_neg (by rw [← hst0, hsh]; decide)] at hx;exact ⟨s, hx⟩
   rw [hend]
   all_goals
    rw [← hst0];rcases st with _ | ⟨b, k⟩
    all_goals simp only [bPV, lI]
    all_goals
     refine kM Tryz.func179 ?_
    all_goals intro B X w0
    all_goals refine ZcK ?_
    ·have hnl : ¬ (l.length : Int) = m.length := by omega
     refine kw1 kO (kc1 hnl) kc0 ?_;refine Zai (fun (v : Nat) => v ≤ m.length) (fun v => [(0, .ptr 1000 0 0 0), (1, .int cost), (2, .int rest), (51, .d (Zae m)), (52, .int m.length), (53, .int v)]) (fun v => [(1000, .cells [.d (Zae m), .ref 901 1 0 l.length l.length, bPV (Zbv (Zag m) m.length f l cost rest st0 v), .int (lI (Zbv (Zag m) m.length f l cost rest st0 v))]), (1001, .gone), (901, .row 1 (l.map Zaw))]) (fun v => m.length - v) 0 ?_ ?_ ?_
     ·exact Nat.zero_le _
     ·try dsimp only
      rw [Go.Bd.foldE_zero, ← hst0];exact Zbk.2 (Ent.trans (Zh3 1001 901 rfl (by decide) (by decide)) (Zbk.1 (eL [] _ _ (by refine ⟨?_, ?_⟩ <;> (repeat' first | exact List.forall_mem_nil _ | refine List.forall_mem_cons.2 ⟨(by first | rfl | (simp (disch := omega) only [go_sem, simprocAttr, inL, bPV, lI]; first | done | omega | (congr 1; done))), ?_⟩); done) (h7 := ZpS (by simp) (by decide) (by repeat' first | exact Zgr | exact Zgg _ rfl | refine ZfE rfl ?_)))))
     ·intro v hv;have hlv := hlen v hv;rcases Nat.lt_or_ge v m.length with hlt | hge
      ·have hin := Zhz l v;by_cases hm : v ∈ l
       ·rw [decide_eq_true hm] at hin;have e1 := Go.Bd.foldE_in (Zag m) m.length (f := f) (cost := cost) (rest := rest) (st := st0) hm;rcases hst : Zbv (Zag m) m.length f l cost rest st0 v with _ | ⟨b0, k0⟩ <;> rw [hst] at e1 <;> simp only [bPV, lI]
        all_goals
         refine kw1 kO (kc1 @Zat) (kc1 hin) ?_;refine ⟨v + 1, ?_, ?_, ?_⟩
         ·omega
         ·try dsimp only
          rw [e1];exact kN (kc2 @bPV.eq_1 @lI.eq_1) []
         ·omega
       ·rw [decide_eq_false hm] at hin;have e1 := Go.Bd.foldE_out (Zag m) m.length (f := f) (cost := cost) (rest := rest) (st := st0) hm;have ih := hIH v hlt hm;have en : (((l.length + 1 : Nat) : Int) - 1).toNat = l.length := by omega
        have hT : (l.map Zaw ++ [Zaw v]).take l.length = l.map Zaw := List.take_left' (List.length_map ..);rcases hst : Zbv (Zag m) m.length f l cost rest st0 v with _ | ⟨b0, k0⟩
        all_goals
         rw [hst] at e1 ih;have e3 : Zbv (Zag m) m.length f l cost rest st0 (v + 1) = ZbM (Zag m) m.length f (l ++ [v]) (cost + Zby m l v m.length) (rest - ZbA m l v m.length) _ := e1;rw [ZeI, ← e3] at ih;obtain ⟨⟨b2, k2⟩, hst2⟩ : ∃ s, Zbv (Zag m) m.length f l cost rest st0 (v + 1) = some s := by
          rw [e3]; exact Go.Bd.ext_some f (l ++ [v]) (hp.snoc hlt hm) _ _ _
         rw [hst2] at ih e3;simp only [bPV, lI, List.length_append, List.length_cons, List.length_nil, List.map_append, List.map_cons, List.map_nil, Nat.zero_add] at ih ⊢
        ·refine kw1 kO (kc1 @Zat) (kc1 hin) ?_;refine Zai (fun (w : Nat) => w ≤ m.length) (fun w => [(0, .ptr 1000 0 0 0), (1, .int cost), (2, .int rest), (6, .int v), (7, .int (Zby m l v w)), (8, .int (ZbA m l v w)), (51, .d (Zae m)), (52, .int m.length), (53, .int v), (65, .d (Zae m)), (66, .int m.length), (67, .int w)]) (fun w => [(1000, .cells [.d (Zae m), .ref 901 1 0 l.length l.length, .nilS, .int 0]), (1001, .gone), (901, .row 1 (l.map Zaw))]) (fun w => m.length - w) 0 ?_ ?_ ?_
         ·exact Nat.zero_le _
         ·exact eL [] _ _ (by refine ⟨?_, ?_⟩ <;> (repeat' first | exact fmn | refine fmc ⟨(by first | rfl | (simp (disch := omega) only [go_sem, simprocAttr, inL, Zby, ZbA, sm]; first | done | omega | (congr 1; done))), ?_⟩); done)
         ·intro w hw;have b1 : 0 ≤ Zby m l v w ∧ Zby m l v w ≤ 1000000 * w := Go.Bd.more_bounds hs.small l hlt w hw;have b2 : 0 ≤ ZbA m l v w ∧ ZbA m l v w ≤ 1000000 * w := Go.Bd.less_bounds hs.small l hlt w hw;rcases Nat.lt_or_ge w m.length with hlw | hgw
          ·obtain ⟨p, hp1, hp2, hp3, hp4, hp5⟩ := hs.get hlt hlw;obtain ⟨q, hq1, hq2, hq3, hq4, hq5⟩ := hs.get hlw hlt;have hcw := Zhz l w;by_cases d1 : w = v
           ·have e1 := ZfX (m := m) (l := l) (v := v) (k := w) (fun h => h.1 d1);have e2 := Zf9 (m := m) (l := l) (v := v) (k := w) (fun h => h.1 d1);have d1I : (w : Int) = v := by omega
            refine kw1 kO (kc1 d1I) kc0 ?_;refine ⟨w + 1, ?_, kN (kc2 e1 e2) [], ?_⟩
            ·omega
            ·omega
           ·have d1I : ¬ (w : Int) = v := by omega
            by_cases d2 : w ∈ l
            ·have e1 := ZfX (m := m) (l := l) (v := v) (k := w) (fun h => h.2 d2);have e2 := Zf9 (m := m) (l := l) (v := v) (k := w) (fun h => h.2 d2);rw [decide_eq_true d2] at hcw;refine kw1 kO (kc2 d1I @Zat) (kc1 hcw) ?_;refine ⟨w + 1, ?_, kN (kc2 e1 e2) [], ?_⟩
             ·omega
             ·omega
            ·have e1 := Zj3 (m := m) (l := l) (v := v) (k := w) ⟨d1, d2⟩;have e2 := Zj1 (m := m) (l := l) (v := v) (k := w) ⟨d1, d2⟩;rw [decide_eq_false d2] at hcw;refine kw1 kO (kc7 d1I @Zat hp1 hp3 hq1 hq3 @Zh0) (kc1 hcw) ?_;refine ⟨w + 1, ?_, kN (kc2 e1 e2) [], ?_⟩
             ·omega
             ·omega
          ·have : w = m.length := by omega
           subst this
           repeat' first | refine ZaK rfl ?_ | refine ZaF ?_ | refine wR ?_ | refine rcM [(1001, 125), (2000, 904)] (ih) rfl ?_ | (refine ZaM rfl rfl (fun hc => ?_) (fun hc => ?_) <;> try simp only [hcL] at hc) | (refine ZaL _ rfl rfl (fun hc => ?_) (fun hc => ?_) <;> (try simp only [hcL] at hc) <;> try omega) | simp (disch := omega) only [go_sem, simprocAttr, roomy, Zat, en, Nat.sub_zero] | exact ZfO v | apply And.intro | omega | decide +kernel
           refine ⟨v + 1, ?_, ?_, ?_⟩
           ·omega
           ·try dsimp only
            rw [hst2];exact Zbk.2 (Ent.trans (Zj4 904 1 _ l.length rfl) (Ent.trans (Zj0 1000 1 904 1 0 l.length (l.length + 1) l.length rfl rfl (by omega)) (Zbk.1 (eL [(901, 904)] _ _ (by refine ⟨?_, ?_⟩ <;> (repeat' first | exact List.forall_mem_nil _ | refine List.forall_mem_cons.2 ⟨(by first | rfl | (simp (disch := omega) only [go_sem, simprocAttr, inL, hT, bPV, lI, List.set_cons_succ, List.set_cons_zero]; first | done | omega | (congr 1; done))), ?_⟩); done)))))
           ·omega
        ·refine kw1 kO (kc1 @Zat) (kc1 hin) ?_;refine Zai (fun (w : Nat) => w ≤ m.length) (fun w => [(0, .ptr 1000 0 0 0), (1, .int cost), (2, .int rest), (6, .int v), (7, .int (Zby m l v w)), (8, .int (ZbA m l v w)), (51, .d (Zae m)), (52, .int m.length), (53, .int v), (65, .d (Zae m)), (66, .int m.length), (67, .int w)]) (fun w => [(1000, .cells [.d (Zae m), .ref 901 1 0 l.length l.length, .d (Zcc b0), .int k0]), (1001, .gone), (901, .row 1 (l.map Zaw))]) (fun w => m.length - w) 0 ?_ ?_ ?_
         ·exact Nat.zero_le _
         ·exact eL [] _ _ (by refine ⟨?_, ?_⟩ <;> (repeat' first | exact fmn | refine fmc ⟨(by first | rfl | (simp (disch := omega) only [go_sem, simprocAttr, inL, Zby, ZbA, sm]; first | done | omega | (congr 1; done))), ?_⟩); done)
         ·intro w hw;have b1 : 0 ≤ Zby m l v w ∧ Zby m l v w ≤ 1000000 * w := Go.Bd.more_bounds hs.small l hlt w hw;have b2 : 0 ≤ ZbA m l v w ∧ ZbA m l v w ≤ 1000000 * w := Go.Bd.less_bounds hs.small l hlt w hw;rcases Nat.lt_or_ge w m.length with hlw | hgw
          ·obtain ⟨p, hp1, hp2, hp3, hp4, hp5⟩ := hs.get hlt hlw;obtain ⟨q, hq1, hq2, hq3, hq4, hq5⟩ := hs.get hlw hlt;have hcw := Zhz l w;by_cases d1 : w = v
           ·have e1 := ZfX (m := m) (l := l) (v := v) (k := w) (fun h => h.1 d1);have e2 := Zf9 (m := m) (l := l) (v := v) (k := w) (fun h => h.1 d1);have d1I : (w : Int) = v := by omega
            refine kw1 kO (kc1 d1I) kc0 ?_;refine ⟨w + 1, ?_, kN (kc2 e1 e2) [], ?_⟩
            ·omega
            ·omega
           ·have d1I : ¬ (w : Int) = v := by omega
            by_cases d2 : w ∈ l
            ·have e1 := ZfX (m := m) (l := l) (v := v) (k := w) (fun h => h.2 d2);have e2 := Zf9 (m := m) (l := l) (v := v) (k := w) (fun h => h.2 d2);rw [decide_eq_true d2] at hcw;refine kw1 kO (kc2 d1I @Zat) (kc1 hcw) ?_;refine ⟨w + 1, ?_, kN (kc2 e1 e2) [], ?_⟩
             ·omega
             ·omega
            ·have e1 := Zj3 (m := m) (l := l) (v := v) (k := w) ⟨d1, d2⟩;have e2 := Zj1 (m := m) (l := l) (v := v) (k := w) ⟨d1, d2⟩;rw [decide_eq_false d2] at hcw;refine kw1 kO (kc7 d1I @Zat hp1 hp3 hq1 hq3 @Zh0) (kc1 hcw) ?_;refine ⟨w + 1, ?_, kN (kc2 e1 e2) [], ?_⟩
             ·omega
             ·omega
          ·have : w = m.length := by omega
           subst this
           repeat' first | refine ZaK rfl ?_ | refine ZaF ?_ | refine wR ?_ | refine rcM [(1001, 125), (2000, 904)] (ih) rfl ?_ | (refine ZaM rfl rfl (fun hc => ?_) (fun hc => ?_) <;> try simp only [hcL] at hc) | (refine ZaL _ rfl rfl (fun hc => ?_) (fun hc => ?_) <;> (try simp only [hcL] at hc) <;> try omega) | simp (disch := omega) only [go_sem, simprocAttr, roomy, Zat, en, Nat.sub_zero] | exact ZfO v | apply And.intro | omega | decide +kernel
           refine ⟨v + 1, ?_, ?_, ?_⟩
           ·omega
           ·try dsimp only
            rw [hst2];exact Zbk.2 (Ent.trans (Zj4 904 1 _ l.length rfl) (Ent.trans (Zj0 1000 1 904 1 0 l.length (l.length + 1) l.length rfl rfl (by omega)) (Zbk.1 (eL [(901, 904)] _ _ (by refine ⟨?_, ?_⟩ <;> (repeat' first | exact List.forall_mem_nil _ | refine List.forall_mem_cons.2 ⟨(by first | rfl | (simp (disch := omega) only [go_sem, simprocAttr, inL, hT, bPV, lI, List.set_cons_succ, List.set_cons_zero]; first | done | omega | (congr 1; done))), ?_⟩); done)))))
           ·omega
      ·have : v = m.length := by omega
       subst this;rw [hend];simp only [bPV, lI];refine kw1 kO kc0 kc0 ?_;refine ⟨_, Zbk.1 (eL [(2000, 901)] [] [(1000, .cells [.d (Zae m), .ref 2000 1 0 l.length l.length, .d (Zcc be), .int ke]), (1001, .gone), (2000, .row 1 (l.map Zaw))] (by constructor <;> (repeat' first | exact List.forall_mem_nil _ | refine List.forall_mem_cons.2 ⟨rfl, ?_⟩); done)), ?_⟩;exact ⟨⟨[], rfl, trivial⟩, List.forall_mem_cons.2 ⟨rfl, List.forall_mem_cons.2 ⟨rfl, List.forall_mem_cons.2 ⟨rfl, List.forall_mem_nil _⟩⟩⟩⟩
    ·have hk : ¬ k ≤ cost + rest := by simpa [ZcE] using hsh
     have hbl' := hbl _ rfl;have hnl : ¬ (l.length : Int) = m.length := by omega
     have hne : (b.map Zaw).isEmpty = false := by
      cases b with
      | nil => simp at hbl'; omega
      | cons x b => rfl
     refine kw1 kO (kc3 hne hk hnl) kc0 ?_;refine Zai (fun (v : Nat) => v ≤ m.length) (fun v => [(0, .ptr 1000 0 0 0), (1, .int cost), (2, .int rest), (51, .d (Zae m)), (52, .int m.length), (53, .int v)]) (fun v => [(1000, .cells [.d (Zae m), .ref 901 1 0 l.length l.length, bPV (Zbv (Zag m) m.length f l cost rest st0 v), .int (lI (Zbv (Zag m) m.length f l cost rest st0 v))]), (1001, .gone), (901, .row 1 (l.map Zaw))]) (fun v => m.length - v) 0 ?_ ?_ ?_
     ·exact Nat.zero_le _
     ·try dsimp only
      rw [Go.Bd.foldE_zero, ← hst0];exact Zbk.2 (Ent.trans (Zh3 1001 901 rfl (by decide) (by decide)) (Zbk.1 (eL [] _ _ (by refine ⟨?_, ?_⟩ <;> (repeat' first | exact List.forall_mem_nil _ | refine List.forall_mem_cons.2 ⟨(by first | rfl | (simp (disch := omega) only [go_sem, simprocAttr, inL, bPV, lI]; first | done | omega | (congr 1; done))), ?_⟩); done) (h7 := ZpS (by simp) (by decide) (by repeat' first | exact Zgr | exact Zgg _ rfl | refine ZfE rfl ?_)))))
     ·intro v hv;have hlv := hlen v hv;rcases Nat.lt_or_ge v m.length with hlt | hge
      ·have hin := Zhz l v;by_cases hm : v ∈ l
       ·rw [decide_eq_true hm] at hin;have e1 := Go.Bd.foldE_in (Zag m) m.length (f := f) (cost := cost) (rest := rest) (st := st0) hm;rcases hst : Zbv (Zag m) m.length f l cost rest st0 v with _ | ⟨b0, k0⟩ <;> rw [hst] at e1 <;> simp only [bPV, lI]
        all_goals
         refine kw1 kO (kc1 @Zat) (kc1 hin) ?_;refine ⟨v + 1, ?_, ?_, ?_⟩
         ·omega
         ·try dsimp only
          rw [e1];exact kN (kc2 @bPV.eq_1 @lI.eq_1) []
         ·omega
       ·rw [decide_eq_false hm] at hin;have e1 := Go.Bd.foldE_out (Zag m) m.length (f := f) (cost := cost) (rest := rest) (st := st0) hm;have ih := hIH v hlt hm;have en : (((l.length + 1 : Nat) : Int) - 1).toNat = l.length := by omega
        have hT : (l.map Zaw ++ [Zaw v]).take l.length = l.map Zaw := List.take_left' (List.length_map ..);rcases hst : Zbv (Zag m) m.length f l cost rest st0 v with _ | ⟨b0, k0⟩
        all_goals
         rw [hst] at e1 ih;have e3 : Zbv (Zag m) m.length f l cost rest st0 (v + 1) = ZbM (Zag m) m.length f (l ++ [v]) (cost + Zby m l v m.length) (rest - ZbA m l v m.length) _ := e1;rw [ZeI, ← e3] at ih;obtain ⟨⟨b2, k2⟩, hst2⟩ : ∃ s, Zbv (Zag m) m.length f l cost rest st0 (v + 1) = some s := by
          rw [e3]; exact Go.Bd.ext_some f (l ++ [v]) (hp.snoc hlt hm) _ _ _
         rw [hst2] at ih e3;simp only [bPV, lI, List.length_append, List.length_cons, List.length_nil, List.map_append, List.map_cons, List.map_nil, Nat.zero_add] at ih ⊢
        ·refine kw1 kO (kc1 @Zat) (kc1 hin) ?_;refine Zai (fun (w : Nat) => w ≤ m.length) (fun w => [(0, .ptr 1000 0 0 0), (1, .int cost), (2, .int rest), (6, .int v), (7, .int (Zby m l v w)), (8, .int (ZbA m l v w)), (51, .d (Zae m)), (52, .int m.length), (53, .int v), (65, .d (Zae m)), (66, .int m.length), (67, .int w)]) (fun w => [(1000, .cells [.d (Zae m), .ref 901 1 0 l.length l.length, .nilS, .int 0]), (1001, .gone), (901, .row 1 (l.map Zaw))]) (fun w => m.length - w) 0 ?_ ?_ ?_
         ·exact Nat.zero_le _
         ·exact eL [] _ _ (by refine ⟨?_, ?_⟩ <;> (repeat' first | exact fmn | refine fmc ⟨(by first | rfl | (simp (disch := omega) only [go_sem, simprocAttr, inL, Zby, ZbA, sm]; first | done | omega | (congr 1; done))), ?_⟩); done)
         ·intro w hw;have b1 : 0 ≤ Zby m l v w ∧ Zby m l v w ≤ 1000000 * w := Go.Bd.more_bounds hs.small l hlt w hw;have b2 : 0 ≤ ZbA m l v w ∧ ZbA m l v w ≤ 1000000 * w := Go.Bd.less_bounds hs.small l hlt w hw;rcases Nat.lt_or_ge w m.length with hlw | hgw
          ·obtain ⟨p, hp1, hp2, hp3, hp4, hp5⟩ := hs.get hlt hlw;obtain ⟨q, hq1, hq2, hq3, hq4, hq5⟩ := hs.get hlw hlt;have hcw := Zhz l w;by_cases d1 : w = v
           ·have e1 := ZfX (m := m) (l := l) (v := v) (k := w) (fun h => h.1 d1);have e2 := Zf9 (m := m) (l := l) (v := v) (k := w) (fun h => h.1 d1);have d1I : (w : Int) = v := by omega
            refine kw1 kO (kc1 d1I) kc0 ?_;refine ⟨w + 1, ?_, kN (kc2 e1 e2) [], ?_⟩
            ·omega
            ·omega
           ·have d1I : ¬ (w : Int) = v := by omega
            by_cases d2 : w ∈ l
            ·have e1 := ZfX (m := m) (l := l) (v := v) (k := w) (fun h => h.2 d2);have e2 := Zf9 (m := m) (l := l) (v := v) (k := w) (fun h => h.2 d2);rw [decide_eq_true d2] at hcw;refine kw1 kO (kc2 d1I @Zat) (kc1 hcw) ?_;refine ⟨w + 1, ?_, kN (kc2 e1 e2) [], ?_⟩
             ·omega
             ·omega
            ·have e1 := Zj3 (m := m) (l := l) (v := v) (k := w) ⟨d1, d2⟩;have e2 := Zj1 (m := m) (l := l) (v := v) (k := w) ⟨d1, d2⟩;rw [decide_eq_false d2] at hcw;refine kw1 kO (kc7 d1I @Zat hp1 hp3 hq1 hq3 @Zh0) (kc1 hcw) ?_;refine ⟨w + 1, ?_, kN (kc2 e1 e2) [], ?_⟩
             ·omega
             ·omega
          ·have : w = m.length := by omega
           subst this
           repeat' first | refine ZaK rfl ?_ | refine ZaF ?_ | refine wR ?_ | refine rcM [(1001, 125), (2000, 904)] (ih) rfl ?_ | (refine ZaM rfl rfl (fun hc => ?_) (fun hc => ?_) <;> try simp only [hcL] at hc) | (refine ZaL _ rfl rfl (fun hc => ?_) (fun hc => ?_) <;> (try simp only [hcL] at hc) <;> try omega) | simp (disch := omega) only [go_sem, simprocAttr, roomy, Zat, en, Nat.sub_zero] | exact ZfO v | apply And.intro | omega | decide +kernel
           refine ⟨v + 1, ?_, ?_, ?_⟩
           ·omega
           ·try dsimp only
            rw [hst2];exact Zbk.2 (Ent.trans (Zj4 904 1 _ l.length rfl) (Ent.trans (Zj0 1000 1 904 1 0 l.length (l.length + 1) l.length rfl rfl (by omega)) (Zbk.1 (eL [(901, 904)] _ _ (by refine ⟨?_, ?_⟩ <;> (repeat' first | exact List.forall_mem_nil _ | refine List.forall_mem_cons.2 ⟨(by first | rfl | (simp (disch := omega) only [go_sem, simprocAttr, inL, hT, bPV, lI, List.set_cons_succ, List.set_cons_zero]; first | done | omega | (congr 1; done))), ?_⟩); done)))))
           ·omega
        ·refine kw1 kO (kc1 @Zat) (kc1 hin) ?_;refine Zai (fun (w : Nat) => w ≤ m.length) (fun w => [(0, .ptr 1000 0 0 0), (1, .int cost), (2, .int rest), (6, .int v), (7, .int (Zby m l v w)), (8, .int (ZbA m l v w)), (51, .d (Zae m)), (52, .int m.length), (53, .int v), (65, .d (Zae m)), (66, .int m.length), (67, .int w)]) (fun w => [(1000, .cells [.d (Zae m), .ref 901 1 0 l.length l.length, .d (Zcc b0), .int k0]), (1001, .gone), (901, .row 1 (l.map Zaw))]) (fun w => m.length - w) 0 ?_ ?_ ?_
         ·exact Nat.zero_le _
         ·exact eL [] _ _ (by refine ⟨?_, ?_⟩ <;> (repeat' first | exact fmn | refine fmc ⟨(by first | rfl | (simp (disch := omega) only [go_sem, simprocAttr, inL, Zby, ZbA, sm]; first | done | omega | (congr 1; done))), ?_⟩); done)
         ·intro w hw;have b1 : 0 ≤ Zby m l v w ∧ Zby m l v w ≤ 1000000 * w := Go.Bd.more_bounds hs.small l hlt w hw;have b2 : 0 ≤ ZbA m l v w ∧ ZbA m l v w ≤ 1000000 * w := Go.Bd.less_bounds hs.small l hlt w hw;rcases Nat.lt_or_ge w m.length with hlw | hgw
          ·obtain ⟨p, hp1, hp2, hp3, hp4, hp5⟩ := hs.get hlt hlw;obtain ⟨q, hq1, hq2, hq3, hq4, hq5⟩ := hs.get hlw hlt;have hcw := Zhz l w;by_cases d1 : w = v
           ·have e1 := ZfX (m := m) (l := l) (v := v) (k := w) (fun h => h.1 d1);have e2 := Zf9 (m := m) (l := l) (v := v) (k := w) (fun h => h.1 d1);have d1I : (w : Int) = v := by omega
            refine kw1 kO (kc1 d1I) kc0 ?_;refine ⟨w + 1, ?_, kN (kc2 e1 e2) [], ?_⟩
            ·omega
            ·omega
           ·have d1I : ¬ (w : Int) = v := by omega
            by_cases d2 : w ∈ l
            ·have e1 := ZfX (m := m) (l := l) (v := v) (k := w) (fun h => h.2 d2);have e2 := Zf9 (m := m) (l := l) (v := v) (k := w) (fun h => h.2 d2);rw [decide_eq_true d2] at hcw;refine kw1 kO (kc2 d1I @Zat) (kc1 hcw) ?_;refine ⟨w + 1, ?_, kN (kc2 e1 e2) [], ?_⟩
             ·omega
             ·omega
            ·have e1 := Zj3 (m := m) (l := l) (v := v) (k := w) ⟨d1, d2⟩;have e2 := Zj1 (m := m) (l := l) (v := v) (k := w) ⟨d1, d2⟩;rw [decide_eq_false d2] at hcw;refine kw1 kO (kc7 d1I @Zat hp1 hp3 hq1 hq3 @Zh0) (kc1 hcw) ?_;refine ⟨w + 1, ?_, kN (kc2 e1 e2) [], ?_⟩
             ·omega
             ·omega
          ·have : w = m.length := by omega
           subst this
           repeat' first | refine ZaK rfl ?_ | refine ZaF ?_ | refine wR ?_ | refine rcM [(1001, 125), (2000, 904)] (ih) rfl ?_ | (refine ZaM rfl rfl (fun hc => ?_) (fun hc => ?_) <;> try simp only [hcL] at hc) | (refine ZaL _ rfl rfl (fun hc => ?_) (fun hc => ?_) <;> (try simp only [hcL] at hc) <;> try omega) | simp (disch := omega) only [go_sem, simprocAttr, roomy, Zat, en, Nat.sub_zero] | exact ZfO v | apply And.intro | omega | decide +kernel
           refine ⟨v + 1, ?_, ?_, ?_⟩
           ·omega
           ·try dsimp only
            rw [hst2];exact Zbk.2 (Ent.trans (Zj4 904 1 _ l.length rfl) (Ent.trans (Zj0 1000 1 904 1 0 l.length (l.length + 1) l.length rfl rfl (by omega)) (Zbk.1 (eL [(901, 904)] _ _ (by refine ⟨?_, ?_⟩ <;> (repeat' first | exact List.forall_mem_nil _ | refine List.forall_mem_cons.2 ⟨(by first | rfl | (simp (disch := omega) only [go_sem, simprocAttr, inL, hT, bPV, lI, List.set_cons_succ, List.set_cons_zero]; first | done | omega | (congr 1; done))), ?_⟩); done)))))
           ·omega
      ·have : v = m.length := by omega
       subst this;rw [hend];simp only [bPV, lI];refine kw1 kO kc0 kc0 ?_;refine ⟨_, Zbk.1 (eL [(2000, 901)] [] [(1000, .cells [.d (Zae m), .ref 2000 1 0 l.length l.length, .d (Zcc be), .int ke]), (1001, .gone), (2000, .row 1 (l.map Zaw))] (by constructor <;> (repeat' first | exact List.forall_mem_nil _ | refine List.forall_mem_cons.2 ⟨rfl, ?_⟩); done)), ?_⟩;exact ⟨⟨[], rfl, trivial⟩, List.forall_mem_cons.2 ⟨rfl, List.forall_mem_cons.2 ⟨rfl, List.forall_mem_cons.2 ⟨rfl, List.forall_mem_nil _⟩⟩⟩⟩
  ·exact Zng m (f + 1) l st cost rest hi (by omega) hsh (by rw [Go.Bd.ext_foldE, if_pos hsh])
end Go.Proofs.YtjjbhjnpeenbkaaGreatDoor
namespace Go.Proofs.YtjjbhjnpeenbkaaGreatDoor
open Go Go.PS Go.Proofs
open Go.Bd (sm Zam ZbD low Part Zbh Zig Za8 ZbM Zbv Zcw ZdA ZcE Zex)
set_option maxRecDepth 100000
attribute [local irreducible] Zab wpG Zaa Zaf

theorem ZvC (m : List (List Int)) : ZbM (Zag m) m.length m.length [] 0 (low (Zag m) m.length []) none = some (Zcp m) := by
 have h := Go.Bd.ext_best (Zag m) m.length [] (ZiK _) none;rw [ZlA] at h;exact h
theorem ZnK (m : List (List Int)) : Zaa Tryz.prog 110 [Zae m] (if okM m then .tup [Zcc (Zcp m).1, .int (Zcp m).2, .int 0] else .tup [.sl [], .int 0, .int 1]) := by
 have hv := ZoY m;rcases h : okM m with _ | _ <;> rw [h] at hv
 ·rw [if_neg (by decide)];refine kE Tryz.func110 ?_;intro hat B X w0;refine kw1 kO kc0 (kc1 hv) ?_;exact ⟨_, rfl, ZcI rfl, Zah rfl, Zah rfl, trivial⟩
 ·rw [if_pos rfl];obtain ⟨hs, h8⟩ := Zk8 h;have hlo := Ztu m h;have hb : 0 ≤ low (Zag m) m.length [] ∧ low (Zag m) m.length [] ≤ 64000000 := by
   rw [Zq3];have := ZoD hs h8 m.length (Nat.le_refl _);omega
  have he := Zvx m hs h8 m.length [] (ZiK _) none 0 (low (Zag m) m.length []) ⟨fun s hs => (by cases hs), .inr rfl, by omega, by simp, by simp only [List.length_nil]; omega, by omega⟩;rw [ZeI, ZvC] at he;simp only [bPV, lI, List.length_nil, List.map_nil] at he;refine kE Tryz.func110 ?_;intro hat B X w0
  repeat' first | refine ZaK rfl ?_ | refine ZaF ?_ | refine ZsY 4 rfl (fun _ => false) Zbr ?_ | (refine rc (hv) rfl ?_ ?_; (· first | rfl | simp (disch := omega) only [go_sem, simprocAttr])) | (refine ZaM rfl rfl (fun hc => ?_) (fun hc => ?_) <;> try simp only [hcL] at hc) | (refine ZaL _ rfl rfl (fun hc => ?_) (fun hc => ?_) <;> (try simp only [hcL] at hc) <;> try omega) | simp (disch := omega) only [go_sem, simprocAttr] | apply And.intro | omega | decide +kernel
  refine Zav _ (Zcs 11 1 901 1 rfl rfl rfl) ?_;refine kw1 kO kc0 (kc2 hlo (kmc [(1000, 11), (1001, 901), (2000, 902)] he)) ?_;exact ⟨_, rfl, ZcI rfl, Zah rfl, Zah rfl, trivial⟩
end Go.Proofs.YtjjbhjnpeenbkaaGreatDoor
namespace Go.Proofs.YtjjbhjnpeenbkaaGreatDoor
open Go Go.PS Go.Proofs
open Go.Bd (ix Zde ZdL Zck ZbX ZhJ)
set_option maxRecDepth 100000
attribute [local irreducible] Zab wpG Zaa Zaf

theorem ZkP {l : List Int} {v : Int} (h : v ∈ l) : ix l v = ((l.idxOf v : Nat) : Int) := by rw [ix, if_pos h]
theorem Zc0 {l : List (List Int)} {k : Nat} {y : List Int} (h : l[k]? = some y) : Zaq l k = y := by rw [Zaq, h]; rfl
theorem ZhM {l : List (List Int)} {k : Nat} (h : l.length ≤ k) : Zaq l k = [] := by rw [Zaq, List.getElem?_eq_none h]; rfl
def okW (a : Lv) (w : Int) : Bool := Zax a && decide (0 ≤ w ∧ w ≤ 1000)
def Zj9 (a : Lv) (old : List (List Int)) (k : Nat) : Int := ZaE (fun i => (Zde (Zaq old i) (Zaq a.2.1 i) : Int)) k
def Zml (a : Lv) (old : List (List Int)) (w : Int) : Int := if okW a w then Za7 a + w * Zj9 a old a.2.1.length else -1
theorem ZtL {a : Lv} (h : Zax a = true) (k : Nat) : (Zaq a.2.1 k).length ≤ 512 := by
 obtain ⟨t1, t2⟩ := Zcz h;rcases Nat.lt_or_ge k a.2.1.length with hlt | hge
 ·obtain ⟨y, hy⟩ := Zad hlt;rw [Zc0 hy];have := ZcU (List.mem_of_getElem? hy);omega
 ·rw [ZhM hge]; simp
def Za2 (g : Nat → Int) (n : Nat) : List Int := (List.range n).map g
def Zcd (f g : Nat → Int) (n b : Nat) : List Int := Za2 (fun v => if v < b then g v else f v) n
theorem ZdD (g : Nat → Int) (n : Nat) : (Za2 g n).length = n := by simp [Za2]
theorem ZeG {g : Nat → Int} {n v : Nat} (h : v < n) : (Za2 g n)[v]? = some (g v) := by simp [Za2, h]
theorem Zgi {f g : Nat → Int} {n : Nat} (h : ∀ v, v < n → f v = g v) : Za2 f n = Za2 g n := List.map_congr_left fun v hv => h v (List.mem_range.1 hv)
theorem Ziy (f g : Nat → Int) (n b : Nat) : (Zcd f g n b).length = n := ZdD _ _
theorem ZoA (f g : Nat → Int) (n : Nat) : Zcd f g n 0 = Za2 f n := Zgi fun v _ => if_neg (by omega)
theorem ZpK (f g : Nat → Int) (n : Nat) : Zcd f g n n = Za2 g n := Zgi fun v hv => if_pos hv
theorem Zo9 {f g : Nat → Int} {n b : Nat} (h : b < n) : (Zcd f g n b)[b]? = some (f b) := by rw [Zcd, ZeG h, if_neg (by omega)]
theorem Zpl {f g : Nat → Int} {n b : Nat} (h : b < n) : (Zcd f g n b).set b (g b) = Zcd f g n (b + 1) := by
 refine List.ext_getElem? fun v => ?_
 rw [List.getElem?_set, Ziy];by_cases c : b = v
 ·subst c;rw [if_pos rfl, if_pos h, Zcd, ZeG h, if_pos (by omega)]
 ·rw [if_neg c];by_cases c2 : v < n
  ·rw [Zcd, Zcd, ZeG c2, ZeG c2];by_cases c3 : v < b
   ·rw [if_pos c3, if_pos (by omega)]
   ·rw [if_neg c3, if_neg (by omega)]
  ·rw [List.getElem?_eq_none (by rw [Ziy]; omega), List.getElem?_eq_none (by rw [Ziy]; omega)]
theorem Zq6 (n : Nat) : List.replicate n (D.int 0) = (Za2 (fun _ => 0) n).map D.int := by
 rw [Za2, List.map_map];refine List.ext_getElem? fun v => ?_
 by_cases c : v < n <;> simp [List.getElem?_replicate, c]
def Zhk (old y : List Int) (w : Int) (u v : Nat) : Int := if 0 ≤ ix old (at0 y v) ∧ ix old (at0 y v) < ix old (at0 y u) then w else 0
def ZdV (i : Nat) (t : Nat) : Int := if t = 0 then (i : Int) - 1 else (i : Int) + 1
def Zdn (a : Lv) (old y : List Int) (w : Int) (i : Nat) : Nat → Nat → Nat → Int
 | 0, u, v => Zhk old y w u v
 | t + 1, u, v => Zdn a old y w i t u v + Zag (ZaU a i (ZdV i t)) u v
def sqM (g : Nat → Nat → Int) (n : Nat) : List (List Int) := (List.range n).map fun u => Za2 (g u) n
def stM (a : Lv) (old y : List Int) (w : Int) (i : Nat) : List (List Int) := sqM (Zdn a old y w i 2) y.length
theorem Zry {m : List (List Int)} (h : Sq m) (u v : Nat) : 0 ≤ Zag m u v ∧ Zag m u v ≤ 1000000 := by
 by_cases hu : u < m.length
 ·by_cases hv : v < m.length
  ·obtain ⟨_, _, _, _, h1, h2⟩ := h.get hu hv;exact ⟨h1, h2⟩
  ·obtain ⟨p, hp⟩ := Zad hu;have := h.row p (List.mem_of_getElem? hp);rw [Zag, Zc0 hp, at0, Int.toNat_natCast, List.getElem?_eq_none (by omega)]; decide
 ·rw [Zag, ZhM (by omega)]; simp [at0]
theorem Zjy (a : Lv) (old y : List Int) {w : Int} (hw : 0 ≤ w ∧ w ≤ 1000) (i : Nat) : ∀ t u v, 0 ≤ Zdn a old y w i t u v ∧ Zdn a old y w i t u v ≤ 1000 + 1000000 * t
 | 0, u, v => by
  rw [Zdn, Zhk]; split <;> omega
 | t + 1, u, v => by
  have ih := Zjy a old y hw i t u v;have := Zry (Zj8 a i (ZdV i t)) u v;rw [Zdn]; omega

end Go.Proofs.YtjjbhjnpeenbkaaGreatDoor
namespace Go.Proofs.YtjjbhjnpeenbkaaGreatDoor
open Go Go.PS Go.Proofs
open Go.Bd (ix Zde ZdL Zck Zam ZfD ZmN Zhn Part Zbh)

theorem ZwS {g : Nat → Nat → Int} {n u v : Nat} (hu : u < n) (hv : v < n) : Zag (sqM g n) u v = g u v := by
 rw [Zag, sqM, Zaq, List.getElem?_map, List.getElem?_range hu];simp only [Option.map_some, Option.getD_some];rw [at0, Int.toNat_natCast, ZeG hv]; rfl
theorem Zkd (a : Lv) (old y : List Int) (w : Int) (i : Nat) : (stM a old y w i).length = y.length := by simp [stM, sqM]
def yG (y : List Int) (k : Nat) : Int := (y[k]?).getD 0
theorem Zy7 (old y : List Int) (w : Int) (u v : Nat) : Zhk old y w u v = w * Zhn old (yG y) u v := by
 have e : ∀ k : Nat, at0 y k = yG y k := fun k => by rw [at0, Int.toNat_natCast]; rfl
 rw [Zhk, Zhn, e, e];by_cases h1 : yG y u ∈ old <;> by_cases h2 : yG y v ∈ old
 ·rw [ZkP h1, ZkP h2];by_cases h3 : old.idxOf (yG y v) < old.idxOf (yG y u)
  ·rw [if_pos ⟨by omega, by omega⟩, if_pos ⟨h1, h2, h3⟩, Int.mul_one]
  ·rw [if_neg (fun h => h3 (by omega)), if_neg (fun h => h3 h.2.2), Int.mul_zero]
 ·rw [if_neg (fun h => by
   have := h.1;rw [ix, if_neg h2] at this; omega), if_neg (fun h => h2 h.2.1), Int.mul_zero]
 ·rw [if_neg (fun h => by
   have := h.2;rw [ZkP h2, ix, if_neg h1] at this; omega), if_neg (fun h => h1 h.1), Int.mul_zero]
 ·rw [if_neg (fun h => by
   have := h.1;rw [ix, if_neg h2] at this; omega), if_neg (fun h => h1 h.1), Int.mul_zero]
theorem ZsN (a : Lv) (old y : List Int) (w : Int) (i : Nat) (u v : Nat) : Zdn a old y w i 2 u v = w * Zhn old (yG y) u v + ZgH a i u v := by
 rw [← Zy7];show Zhk old y w u v + Zag (ZaU a i ((i : Int) - 1)) u v + Zag (ZaU a i ((i : Int) + 1)) u v = _;rw [ZgH]; omega
theorem Zuz (a : Lv) (old y : List Int) (w : Int) (i : Nat) {o : List Nat} (ho : Part y.length 0 o) :
  Zam (Zag (stM a old y w i)) o = w * Zam (Zhn old (yG y)) o + Zam (ZgH a i) o := by
 rw [← ZmN, ← ZfD];refine ZlP ho.nd fun u hu v hv _ => ?_
 rw [stM, ZwS (ho.lt u hu) (ho.lt v hv), ZsN]
theorem Zic {a : Lv} (hv : Zax a = true) {i : Nat} {y : List Int} (hy : a.2.1[i]? = some y) : y.Nodup :=
 (List.pairwise_flatten.1 (Zes hv)).1 y (List.mem_of_getElem? hy)
theorem Zlz {y : List Int} {o : List Nat} (hn : y.Nodup) (ho : Part y.length 0 o) : (ZaH y o).Perm y :=
 (List.perm_ext_iff_of_nodup (Zq9 hn ho) hn).2 fun _ => Zne ho
theorem ZyC {a : Lv} (hv : Zax a = true) {i : Nat} {y : List Int} {o : List Nat} (hy : a.2.1[i]? = some y) (ho : Part y.length 0 o) : Zeg a i (ZaH y o) = (ZbQ a i (ZaH y o), 0) := by
 have hil := (List.getElem?_eq_some_iff.1 hy).1;rw [Zeg, if_neg (by rw [hv]; decide), if_neg (by omega), Int.toNat_natCast, hy, Option.getD_some, if_neg (by rw [Zpf (Zlz (Zic hv hy) ho)]; simp)];rfl
end Go.Proofs.YtjjbhjnpeenbkaaGreatDoor
namespace Go.Proofs.YtjjbhjnpeenbkaaGreatDoor
open Go Go.PS Go.Proofs
open Go.Bd (sm ix Zde ZdL Zck Zam Part Zbh)
set_option maxRecDepth 100000
attribute [local irreducible] Zab wpG Zaa Zaf

theorem ZpH (a : Lv) (i f : Int) (u v : Nat) : Zag (ZaU a i f) u v ≤ ((a.2.2.1.length * a.2.2.1.length : Nat) : Int) := by
 have hz : Zag [] u v = 0 := by simp [Zag, Zaq, at0]
 rw [ZaU];split
 ·by_cases hu : u < (Zbb a.2.1 a.2.2.1 i f (Zce a i)).length
  ·by_cases hv : v < (Zbb a.2.1 a.2.2.1 i f (Zce a i)).length
   ·rw [ZkV hu hv, Zdm];split
    ·omega
    ·have hl : ∀ k, (Zaq (Zbb a.2.1 a.2.2.1 i f (Zce a i)) k).length ≤ a.2.2.1.length := fun k => by
      by_cases hk : k < Zce a i
      ·rw [Zbb, Zaq, List.getElem?_map, List.getElem?_range hk];exact Zg6 ..
      ·rw [ZhM (by simp [Zbb]; omega)]; exact Nat.zero_le _
     have := Nat.le_trans (ZmX _ _) (Nat.mul_le_mul (hl u) (hl v));omega
   ·have : Zag (Zcx (Zbb a.2.1 a.2.2.1 i f (Zce a i))) u v = 0 := by
     rw [Zag, Zcx, Zaq, List.getElem?_map, List.getElem?_range hu];simp only [Option.map_some, Option.getD_some];rw [at0, Int.toNat_natCast, List.getElem?_eq_none (by simp; omega)]; rfl
    omega
  ·have : Zag (Zcx (Zbb a.2.1 a.2.2.1 i f (Zce a i))) u v = 0 := by
    rw [Zag, ZhM (by rw [Zcx]; simp; omega)]; simp [at0]
   omega
 ·rw [hz]; omega
theorem ZzJ {a : Lv} {old y : List Int} {w : Int} {i : Nat} (hw : 0 ≤ w ∧ w ≤ 1000) (har : a.2.2.1.length ≤ 700) (hy : y.length ≤ 8) : okM (stM a old y w i) = true := by
 refine Zzu ⟨by rw [Zkd]; omega, fun p hp => ?_, fun p hp x hx => ?_⟩ (by rw [Zkd]; exact hy)
 ·rw [Zkd];obtain ⟨u, _, rfl⟩ := List.mem_map.1 hp;exact ZdD _ _
 ·obtain ⟨u, _, rfl⟩ := List.mem_map.1 hp;obtain ⟨v, _, rfl⟩ := List.mem_map.1 hx;have hb : a.2.2.1.length * a.2.2.1.length ≤ 490000 := Nat.le_trans (Nat.mul_le_mul har har) (by decide);have h1 := ZpH a i ((i : Int) - 1) u v;have h2 := ZpH a i ((i : Int) + 1) u v;have h3 := (Zjy a old y hw i 2 u v).1;have h4 := (Zjy a old y hw i 0 u v).2;have e : Zdn a old y w i 2 u v = Zdn a old y w i 0 u v + Zag (ZaU a i ((i : Int) - 1)) u v + Zag (ZaU a i ((i : Int) + 1)) u v := rfl;omega
theorem ZoK (m : List (List Int)) : Part m.length 0 (Zcp m).1 ∧ (Zcp m).2 = Zam (Zag m) (Zcp m).1 := by
 obtain ⟨h1, _, h3⟩ := Go.Bd.best_of (Zag m) m.length [] (ZiK _) _ (ZlA m);exact ⟨h1, h3⟩
def Zxp (a : Lv) (old : List (List Int)) (w : Int) (i : Nat) : Lv :=
 if (Zcp (stM a (Zaq old i) (Zaq a.2.1 i) w i)).2 < Zam (Zag (stM a (Zaq old i) (Zaq a.2.1 i) w i)) (List.range (Zaq a.2.1 i).length) then ZbQ a i (ZaH (Zaq a.2.1 i) (Zcp (stM a (Zaq old i) (Zaq a.2.1 i) w i)).1) else a
theorem ZrR (l : List Int) (hn : l.length ≤ 1000000) : Zaf Tryz.prog 214 [.d (Zac l)] [(2000, .dead)] (.ref 2000 1 0 l.length l.length) [(2000, .row 1 (l.map D.int))] := by
 rcases Decidable.em (l = []) with rfl | hl
 ·refine kM Tryz.func214 ?_;intro B X w0;refine ZcK ?_;refine kw1 kO kc0 kc0 ?_;refine Zir 4 rfl ?_;intro b;cases b
  ·repeat' first | refine ZaK rfl ?_ | refine ZaF ?_ | refine Zci (Nat.beq 5) Zbr ?_ | (refine ZaM rfl rfl (fun hc => ?_) (fun hc => ?_) <;> try simp only [hcL] at hc) | (refine ZaL _ rfl rfl (fun hc => ?_) (fun hc => ?_) <;> (try simp only [hcL] at hc) <;> try omega) | simp (disch := omega) only [go_sem, simprocAttr, roomy] | apply And.intro | omega | decide +kernel
   refine ⟨_, Zbk.1 (kN (L := [(2, .ref 2000 1 0 0 0)]) (M := [(2000, .row 1 [])]) kc0 [(2000, 7)]), ?_⟩;exact ⟨rfl, List.forall_mem_cons.2 ⟨rfl, List.forall_mem_nil _⟩⟩
  ·refine kw1 kO kc0 kc0 ?_;refine ⟨_, Ent.trans (ZdU 2 7 1 rfl rfl) (Zbk.1 (eL [(2000, 7)] [(2, .ref 2000 1 0 0 0)] [(2000, .row 1 [])] (by constructor <;> (repeat' first | exact List.forall_mem_nil _ | refine List.forall_mem_cons.2 ⟨rfl, ?_⟩)))), ?_⟩;exact ⟨rfl, List.forall_mem_cons.2 ⟨rfl, List.forall_mem_nil _⟩⟩
 ·have he : (l.map D.int).isEmpty = false := by simpa using hl
  have hpos : 0 < l.length := List.length_pos_iff.2 hl;refine kM Tryz.func214 ?_;intro B X w0;refine ZcK ?_
  repeat' first | refine ZaK rfl ?_ | refine ZaF ?_ | refine Zci (Nat.beq 5) Zbr ?_ | (refine ZaM rfl rfl (fun hc => ?_) (fun hc => ?_) <;> try simp only [hcL] at hc) | (refine ZaL _ rfl rfl (fun hc => ?_) (fun hc => ?_) <;> (try simp only [hcL] at hc) <;> try omega) | simp (disch := omega) only [go_sem, simprocAttr, he, roomy, Zat] | exact Zec l | apply And.intro | omega | decide +kernel
  refine ⟨_, Zbk.1 (kN (L := [(2, .ref 2000 1 0 l.length l.length)]) (M := [(2000, .row 1 (l.map D.int))]) kc0 [(2000, 7)]), ?_⟩;exact ⟨rfl, List.forall_mem_cons.2 ⟨rfl, List.forall_mem_nil _⟩⟩



theorem ZoL (l m : List Int) : Zaa Tryz.prog 31 [Zac l, Zac m] (.bool (decide (l = m))) := by
 refine kE Tryz.func31 ?_;intro hat B X w0;have hl := Zbi 0 hat rfl;have hm := Zbi 1 hat rfl;rw [List.length_map] at hl hm;by_cases hlm : l.length = m.length
 ·refine kw1 kO kc0 kc0 ?_;refine Zai (fun (k : Nat) => k ≤ l.length ∧ l.take k = m.take k) (fun k => [(0, .d (Zac l)), (1, .d (Zac m)), (5, .int k)]) (fun k => []) (fun k => l.length - k) 0 ?_ ?_ ?_
  ·exact ⟨Nat.zero_le _, rfl⟩
  ·exact kN kc0 []
  ·rintro k ⟨hk, hinv⟩;rcases Nat.lt_or_ge k l.length with hlt | hge
   ·obtain ⟨p, hp⟩ := Zad hlt;obtain ⟨q, hq⟩ := Zad (hlm ▸ hlt);refine kw kO (kc2 hp hq) kc0 ?_
    repeat' first | exact True.intro | refine Bn.mk ?_ ?_ | intro hc
    ·refine Zaj ?_;rw [decide_eq_false (Zf5 hp hq hc)]
    ·refine ⟨k + 1, ?_, eL [] _ _ (by refine ⟨?_, ?_⟩ <;> (repeat' first | exact fmn | refine fmc ⟨(by first | rfl | (simp (disch := omega) only [go_sem, simprocAttr, inL]; first | done | omega | (congr 1; done))), ?_⟩); done), ?_⟩
     ·exact ⟨by omega, by rw [ZaD hp, ZaD hq, hinv, hc]⟩
     ·omega
   ·refine kw1 kO kc0 kc0 ?_;refine Zaj ?_;rw [List.take_of_length_le hge, List.take_of_length_le (by omega)] at hinv;simp [hinv]
 ·refine kw1 kO kc0 kc0 ?_;refine Zaj ?_;rw [decide_eq_false];rintro rfl; exact hlm rfl
theorem sum_nil {a : Lv} (h : Zax a = true) : Zml a [] 7 = Za7 a := by
 have hz : ∀ k, Zj9 a [] k = 0 := by
  intro k
  induction k with
  | zero => rfl
  | succ k ih =>
   have s1 : Zj9 a [] (k + 1) = Zj9 a [] k + (Zde (Zaq [] k) (Zaq a.2.1 k) : Int) := rfl;have s2 : ∀ (l : List Int) i, Zck [] l i = [] := by
    intro l i
    induction i with
    | zero => rfl
    | succ i ihi => rw [Zck]; split <;> simp [ihi]
   have s3 : Zaq [] k = [] := ZhM (Nat.zero_le _);rw [s1, ih, s3, Zde, s2]; rfl
 rw [Zml, if_pos (by rw [okW, h]; decide), hz]; omega
end Go.Proofs.YtjjbhjnpeenbkaaGreatDoor
namespace Go.Proofs.YtjjbhjnpeenbkaaGreatDoor
open Go Go.PS Go.Proofs
open Go.Bd (Zck Zj2 Zri Zvo)
set_option maxRecDepth 100000
attribute [local irreducible] Zab wpG Zaa Zaf

end Go.Proofs.YtjjbhjnpeenbkaaGreatDoor
namespace Go.Proofs.YtjjbhjnpeenbkaaGreatDoor
open Go Go.PS Go.Proofs
open Go.Bd (Zde Zck Zj2 Zri Zam Part)

theorem Zk7 {a : Lv} (hv : Zax a = true) {i : Nat} {y z : List Int} (hy : a.2.1[i]? = some y) (hz : z.Perm y) : Zeg a i z = (ZbQ a i z, 0) := by
 have hil := (List.getElem?_eq_some_iff.1 hy).1;rw [Zeg, if_neg (by rw [hv]; decide), if_neg (by omega), Int.toNat_natCast, hy, Option.getD_some, if_neg (by rw [Zpf hz]; simp)];rfl
theorem ZwQ {a : Lv} (hv : Zax a = true) {i : Nat} {y z : List Int} (hy : a.2.1[i]? = some y) (hz : z.Perm y) : Zax (ZbQ a i z) = true := by
 have h := Zk7 hv hy hz;have := ZvP (a := a) (i := i) (o := z) (by rw [h]);rw [h] at this; exact this
structure Kin (a b : Lv) : Prop where
 ok : Zax b = true
 wd : wide b
 len : b.2.1.length = a.2.1.length
 arcs : b.2.2.1 = a.2.2.1
 perm : ∀ k, (Zaq b.2.1 k).Perm (Zaq a.2.1 k)
theorem Kin.refl {a : Lv} (hv : Zax a = true) (hw : wide a) : Kin a a := ⟨hv, hw, rfl, rfl, fun _ => List.Perm.refl _⟩
theorem Kin.put {a b : Lv} (h : Kin a b) {i : Nat} {y z : List Int} (hy : b.2.1[i]? = some y) (hz : z.Perm y) : Kin a (ZbQ b i z) := by
 have hil := (List.getElem?_eq_some_iff.1 hy).1;have hyl : y.length ≤ 512 := by have := ZtL h.ok i; rw [Zc0 hy] at this; exact this
 refine ⟨ZwQ h.ok hy hz, ?_, ?_, h.arcs, fun k => ?_⟩
 ·have := Zte (a := b) (i := i) (o := z) h.wd (by have := hz.length_eq; omega);rw [Zk7 h.ok hy hz] at this; exact this
 ·rw [← h.len]; exact List.length_set
 ·have hl : (ZbQ b i z).2.1 = b.2.1.set i z := rfl;by_cases c : k = i
  ·subst c;have hs : Zaq (b.2.1.set k z) k = z := by rw [Zaq, List.getElem?_set, if_pos rfl, if_pos hil]; rfl
   rw [hl, hs];have := h.perm k;rw [Zc0 hy] at this;exact hz.trans this
  ·have : Zaq (b.2.1.set i z) k = Zaq b.2.1 k := by rw [Zaq, Zaq, List.getElem?_set, if_neg (fun h => c h.symm)]
   rw [hl, this]; exact h.perm k
theorem Kin.lay {a b : Lv} (h : Kin a b) {k : Nat} (hk : k < a.2.1.length) : b.2.1[k]? = some (Zaq b.2.1 k) := by
 obtain ⟨y, hy⟩ := Zad (l := b.2.1) (k := k) (by have := h.len; omega);rw [Zc0 hy]; exact hy
theorem Kin.llen {a b : Lv} (h : Kin a b) (k : Nat) : (Zaq b.2.1 k).length = (Zaq a.2.1 k).length := (h.perm k).length_eq
def Zb1 (b : Lv) (old : List (List Int)) (w : Int) : Nat → Lv
 | 0 => b
 | k + 1 => if 8 < (Zaq (Zb1 b old w k).2.1 k).length then Zb1 b old w k else Zxp (Zb1 b old w k) old w k
end Go.Proofs.YtjjbhjnpeenbkaaGreatDoor
namespace Go.Proofs.YtjjbhjnpeenbkaaGreatDoor
open Go Go.PS Go.Proofs
open Go.Bd (Zam Part Zhn)

def orM (a : Lv) (i : Nat) : List (List Int) := stM a [] (Zaq a.2.1 i) 0 i
theorem Zro (a : Lv) (i : Nat) : (orM a i).length = (Zaq a.2.1 i).length := Zkd ..
theorem ZpL (a : Lv) (i : Nat) {o : List Nat} (ho : Part (Zaq a.2.1 i).length 0 o) : Zam (Zag (orM a i)) o = Zam (ZgH a i) o := by
 rw [orM, Zuz _ _ _ _ _ ho]; omega
theorem ZyU {a : Lv} {i : Nat} (har : a.2.2.1.length ≤ 700) (h8 : ¬ 8 < (Zaq a.2.1 i).length) : okM (orM a i) = true := ZzJ (by decide) har (by omega)
theorem Zmj (a : Lv) (i : Nat) : Part (Zaq a.2.1 i).length 0 (Zcp (orM a i)).1 := by
 have := (ZoK (orM a i)).1;rw [Zro] at this; exact this
def Zfk (a : Lv) (i : Nat) : Bool := decide ((Zcp (orM a i)).2 < Zam (Zag (orM a i)) (List.range (Zaq a.2.1 i).length))
def Zb6 (a : Lv) (i : Nat) : List Nat × Bool := if 8 < (Zaq a.2.1 i).length then ([], false) else ((Zcp (orM a i)).1, Zfk a i)
def Zez (a : Lv) (i : Nat) : Lv := ZbQ a i (ZaH (Zaq a.2.1 i) (Zcp (orM a i)).1)
theorem Zlm {a : Lv} {i : Nat} (h : (Zb6 a i).2 = true) : ¬ 8 < (Zaq a.2.1 i).length ∧ Zfk a i = true := by
 rw [Zb6] at h;split at h
 ·cases h
 ·exact ⟨by assumption, h⟩
theorem Kin.arr {a b : Lv} (h : Kin a b) {i : Nat} (hi : i < a.2.1.length) {o : List Nat} (ho : Part (Zaq b.2.1 i).length 0 o) : Kin a (ZbQ b i (ZaH (Zaq b.2.1 i) o)) :=
 h.put (h.lay hi) (Zlz (Zic h.ok (h.lay hi)) ho)
theorem ZxO {a b : Lv} (h : Kin a b) {i : Nat} (hi : i < a.2.1.length) {o : List Nat} (ho : Part (Zaq b.2.1 i).length 0 o) :
  Za7 (ZbQ b i (ZaH (Zaq b.2.1 i) o)) - Za7 b = Zam (Zag (orM b i)) o - Zam (Zag (orM b i)) (List.range (Zaq b.2.1 i).length) := by
 rw [ZpL _ _ ho, ZpL _ _ (Zrm _)];exact Zwa h.ok (h.arr hi ho).ok (h.lay hi) ho
theorem Zmc {a b : Lv} (h : Kin a b) {i : Nat} (hi : i < a.2.1.length) : Kin a (Zez b i) := h.arr hi (Zmj b i)
theorem Zqq {a b : Lv} (h : Kin a b) {i : Nat} (hi : i < a.2.1.length) (hb : Zfk b i = true) : Za7 (Zez b i) < Za7 b := by
 have h1 := ZxO h hi (Zmj b i);have h2 := (ZoK (orM b i)).2;rw [Zfk, decide_eq_true_eq, h2] at hb;rw [Zez]; omega
theorem Zzd (a : Lv) : 0 ≤ Za7 a := by
 have := ZiW (f := fun i => ZbS a i) (c := 360000000000) a.2.1.length fun i _ => Znz a i
 exact this.1
def ZbX : Nat → Lv → Nat → Lv
 | 0, b, _ => b
 | f + 1, b, i => if i < b.2.1.length then (if (Zb6 b i).2 then ZbX f (Zez b i) 0 else ZbX f b (i + 1)) else b
def ZdK (b : Lv) (i : Nat) : Nat := (Za7 b).toNat * (b.2.1.length + 1) + (b.2.1.length - i)
def Zdv (a : Lv) : Lv := ZbX (ZdK a 0) a 0
theorem Zqb {b : Lv} {i : Nat} (h : i < b.2.1.length) : ZdK b (i + 1) < ZdK b i := by
 simp only [ZdK]; omega
theorem Zpy {a b : Lv} (h : Kin a b) {i : Nat} (hi : i < a.2.1.length) (hb : Zfk b i = true) : ZdK (Zez b i) 0 < ZdK b i := by
 have h1 := Zqq h hi hb;have h2 := Zzd (Zez b i);have h3 : (Zez b i).2.1.length = b.2.1.length := by rw [(Zmc h hi).len, h.len]
 have h4 := h.len;rw [ZdK, ZdK, h3];have h5 : ((Za7 (Zez b i)).toNat + 1) * (b.2.1.length + 1) ≤ (Za7 b).toNat * (b.2.1.length + 1) := Nat.mul_le_mul_right _ (by omega);rw [Nat.add_mul] at h5;omega
theorem ZpQ {f : Nat} {b : Lv} {i : Nat} (h : ¬ i < b.2.1.length) : ZbX f b i = b := by
 cases f with
 | zero => rfl
 | succ f => rw [ZbX, if_neg h]
theorem Zjr {a : Lv} : ∀ (f : Nat) (b : Lv) (i : Nat), Kin a b → ZdK b i ≤ f → i ≤ a.2.1.length → (∀ j, j < i → (Zb6 b j).2 = false) →
  Kin a (ZbX f b i) ∧ Za7 (ZbX f b i) ≤ Za7 b ∧ ∀ j, j < a.2.1.length → (Zb6 (ZbX f b i) j).2 = false
 | 0, b, i, h, hm, hi, hj => by
  have h4 := h.len;simp only [ZdK] at hm;rw [ZbX];exact ⟨h, Int.le_refl _, fun j hlt => hj j (by omega)⟩
 | f + 1, b, i, h, hm, hi, hj => by
  have h4 := h.len;by_cases hlt : i < b.2.1.length
  ·rw [ZbX, if_pos hlt];rcases hb : (Zb6 b i).2 with _ | _
   ·rw [if_neg (by decide)];refine Zjr f b (i + 1) h (by have := Zqb hlt; omega) (by omega) fun j hlj => ?_
    rcases Nat.lt_or_ge j i with c | c
    ·exact hj j c
    ·obtain rfl : j = i := by omega
     exact hb
   ·rw [if_pos rfl];have hb2 := (Zlm hb).2;have h5 := Zpy h (by omega) hb2;have h6 := Zqq h (by omega) hb2;obtain ⟨g1, g2, g3⟩ := Zjr f (Zez b i) 0 (Zmc h (by omega)) (by omega) (Nat.zero_le _) (fun j hlj => absurd hlj (Nat.not_lt_zero j));exact ⟨g1, by omega, g3⟩
  ·rw [ZpQ hlt];exact ⟨h, Int.le_refl _, fun j hlt2 => hj j (by omega)⟩
theorem Ztt {a : Lv} (hv : Zax a = true) (hw : wide a) : Kin a (Zdv a) ∧ Za7 (Zdv a) ≤ Za7 a ∧ ∀ j, j < a.2.1.length → (Zb6 (Zdv a) j).2 = false :=
 Zjr _ a 0 (Kin.refl hv hw) (Nat.le_refl _) (Nat.zero_le _) (fun j hlj => absurd hlj (Nat.not_lt_zero j))
def Zjp (a : Lv) (i : Int) : Bool := Zax a && decide (0 ≤ i ∧ i < a.2.1.length) && decide (¬ 8 < (Zaq a.2.1 i.toNat).length) && !Zfk a i.toNat
end Go.Proofs.YtjjbhjnpeenbkaaGreatDoor
namespace Go.Proofs.YtjjbhjnpeenbkaaGreatDoor
open Go Go.PS Go.Proofs
set_option maxRecDepth 100000
attribute [local irreducible] Zab wpG Zaa Zaf

abbrev elD (v : Nat → Int) (p : Nat → List D) (k : Nat) : D := .ag [.int (v k), .sl (p k)]
theorem ZtD (v : Nat → Int) (p : Nat → List D) (g : Nat) (a b n N : Nat) (L : Nat → List Nat) (hlen : ∀ i, (L i).length = N) (hN : N ≤ 1000000) (ha : a + n ≤ N) (hb : b + n ≤ N)
  (hstep : ∀ i, i < n → ∃ u w, (L i)[a + i]? = some u ∧ (L i)[b + i]? = some w ∧ ((L i).set (a + i) w).set (b + i) u = L (i + 1)) :
  Zaf Tryz.prog 292 [.ref 1000 2 0 N N, .int a, .int b, .int n, .d (.fn g [])] [(1000, .row 2 ((L 0).map (elD v p)))] (.tup []) [(1000, .row 2 ((L n).map (elD v p)))] := by
 refine kM Tryz.func292 ?_;intro B X w0;refine ZcK ?_;refine kw1 kO kc0 kc0 ?_;refine Zai (fun (i : Nat) => i ≤ n) (fun i => [(0, .ref 1000 2 0 N N), (1, .int a), (2, .int b), (3, .int n), (10, .int i)]) (fun i => [(1000, .row 2 ((L i).map (elD v p)))]) (fun i => n - i) 0 ?_ ?_ ?_
 ·exact Nat.zero_le _
 ·exact kN kc0 []
 ·intro i hi;rcases Nat.lt_or_ge i n with hlt | hge
  ·obtain ⟨u, w, hu, hw, hs⟩ := hstep i hlt;have hl := hlen i;have e1 : ((a : Int) + i).toNat = a + i := by omega
   have e2 : ((b : Int) + i).toNat = b + i := by omega
   have hs2 : (((L i).map (elD v p)).set (a + i) (elD v p w)).set (b + i) (elD v p u) = (L (i + 1)).map (elD v p) := by rw [← hs, List.map_set, List.map_set]
   have hz : ((L i).set (a + i) w)[b + i]? = some w := by
    rw [List.getElem?_set];by_cases c : a + i = b + i
    ·rw [if_pos c, if_pos (by omega)]
    ·rw [if_neg c, hw]
   have hz2 : (((L i).map (elD v p)).set (a + i) (elD v p w))[b + i]? = some (elD v p w) := by rw [← List.map_set, List.getElem?_map, hz]; rfl
   refine kw1 kO (kc8 e1 e2 hu hw hl @List.length_set.{0} hz2 hs2) kc0 ?_;refine ⟨i + 1, ?_, kN (kc1 hs2) [], ?_⟩
   ·omega
   ·omega
  ·have : i = n := by omega
   subst this;refine kw1 kO kc0 kc0 ?_;refine ⟨_, Zbk.1 (kN (L := []) (M := [(1000, .row 2 ((L i).map (elD v p)))]) kc0 []), ?_⟩;exact ⟨⟨[], rfl, trivial⟩, fmc ⟨rfl, fmn⟩⟩
theorem ZfZ {α : Type} (A : List α) (u w : α) (C : List α) : (A ++ u :: C).set A.length w = A ++ w :: C := by
 rw [List.set_append, if_neg (Nat.lt_irrefl _), Nat.sub_self]; rfl
theorem Zgu {α : Type} (A : List α) (u : α) (C : List α) : (A ++ u :: C)[A.length]? = some u := by
 rw [List.getElem?_append_right (Nat.le_refl _), Nat.sub_self]; rfl
theorem ZfY {α : Type} {l : List α} {i : Nat} {u : α} (h : l[i]? = some u) : l.drop i = u :: l.drop (i + 1) := by
 obtain ⟨hl, rfl⟩ := List.getElem?_eq_some_iff.1 h;exact List.drop_eq_getElem_cons hl
def swN (X U Y V Z : List Nat) (i : Nat) : List Nat := X ++ V.take i ++ U.drop i ++ Y ++ U.take i ++ V.drop i ++ Z
theorem ZtO {X U Y V Z : List Nat} (h : U.length = V.length) {i : Nat} (hi : i < U.length) :
  ∃ u w, (swN X U Y V Z i)[X.length + i]? = some u ∧ (swN X U Y V Z i)[X.length + U.length + Y.length + i]? = some w ∧ ((swN X U Y V Z i).set (X.length + i) w).set (X.length + U.length + Y.length + i) u = swN X U Y V Z (i + 1) := by
 obtain ⟨u, hu⟩ := Zad hi;obtain ⟨w, hw⟩ := Zad (l := V) (k := i) (by omega);have e1 : swN X U Y V Z i = (X ++ V.take i) ++ u :: ((U.drop (i + 1) ++ Y ++ U.take i) ++ w :: (V.drop (i + 1) ++ Z)) := by
  rw [swN, ZfY hu, ZfY hw]; simp
 have e2 : swN X U Y V Z i = ((X ++ V.take i) ++ u :: (U.drop (i + 1) ++ Y ++ U.take i)) ++ w :: (V.drop (i + 1) ++ Z) := by rw [e1]; simp
 have l1 : (X ++ V.take i).length = X.length + i := by rw [List.length_append, List.length_take]; omega
 have l2 : ((X ++ V.take i) ++ u :: (U.drop (i + 1) ++ Y ++ U.take i)).length = X.length + U.length + Y.length + i := by
  simp only [List.length_append, List.length_cons, List.length_take, List.length_drop]; omega
 have l3 : ((X ++ V.take i) ++ w :: (U.drop (i + 1) ++ Y ++ U.take i)).length = X.length + U.length + Y.length + i := by
  simp only [List.length_append, List.length_cons, List.length_take, List.length_drop]; omega
 refine ⟨u, w, ?_, ?_, ?_⟩
 ·rw [e1, ← l1]; exact Zgu _ _ _
 ·rw [e2, ← l2]; exact Zgu _ _ _
 ·rw [e1, ← l1, ZfZ];have e3 : (X ++ V.take i) ++ w :: ((U.drop (i + 1) ++ Y ++ U.take i) ++ w :: (V.drop (i + 1) ++ Z)) = ((X ++ V.take i) ++ w :: (U.drop (i + 1) ++ Y ++ U.take i)) ++ w :: (V.drop (i + 1) ++ Z) := by simp
  rw [e3, ← l3, ZfZ, swN, ZaD hw, ZaD hu]; simp
theorem Zmk (v : Nat → Int) (p : Nat → List D) (g : Nat) (X U Y V Z : List Nat) (h : U.length = V.length) (N : Nat) (hN : X.length + U.length + Y.length + V.length + Z.length = N) (hN1 : N ≤ 1000000) (a b n : Int)
  (ha : a = X.length) (hb : b = (X.length + U.length + Y.length : Nat)) (hn : n = U.length) :
  Zaf Tryz.prog 292 [.ref 1000 2 0 N N, .int a, .int b, .int n, .d (.fn g [])] [(1000, .row 2 ((X ++ U ++ Y ++ V ++ Z).map (elD v p)))] (.tup []) [(1000, .row 2 ((X ++ V ++ Y ++ U ++ Z).map (elD v p)))] := by
 have hm := ZtD v p g X.length (X.length + U.length + Y.length) U.length N (swN X U Y V Z) (fun i => by
  rw [swN]; simp only [List.length_append, List.length_take, List.length_drop]; omega) hN1 (by omega) (by omega) (fun i hi => ZtO h hi)
 have e0 : swN X U Y V Z 0 = X ++ U ++ Y ++ V ++ Z := by rw [swN]; simp
 have e1 : swN X U Y V Z U.length = X ++ V ++ Y ++ U ++ Z := by
  rw [swN, List.take_of_length_le (l := V) (by omega), List.drop_of_length_le (l := U) (Nat.le_refl _), List.take_of_length_le (l := U) (Nat.le_refl _), List.drop_of_length_le (l := V) (by omega)]; simp
 rw [e0, e1] at hm;rw [ha, hb, hn];exact hm
theorem Zz6 (v : Nat → Int) (p : Nat → List D) (g : Nat) (P U V Q : List Nat) (hU : 0 < U.length) (hV : 0 < V.length) (N : Nat) (hN : P.length + U.length + V.length + Q.length = N) (hN1 : N ≤ 1000000) (a m b : Int)
  (ha : a = P.length) (hm : m = (P.length + U.length : Nat)) (hb : b = (P.length + U.length + V.length : Nat)) :
  Zaf Tryz.prog 290 [.ref 1000 2 0 N N, .int a, .int m, .int b, .d (.fn g [])] [(1000, .row 2 ((P ++ U ++ V ++ Q).map (elD v p)))] (.tup []) [(1000, .row 2 ((P ++ V ++ U ++ Q).map (elD v p)))] := by
 subst ha hm hb;obtain ⟨M, hM⟩ : ∃ M, M = P.length + U.length := ⟨_, rfl⟩;obtain ⟨R, hR⟩ : ∃ R, R = P ++ V ++ U ++ Q := ⟨_, rfl⟩;rw [← hR, ← hM];have d1 : ((M + V.length : Nat) : Int) - (M : Int) = V.length := by omega
 have d2 : (M : Int) - (P.length : Int) = U.length := by omega
 refine kM Tryz.func290 ?_;intro B X w0;refine ZcK ?_;refine kw1 kO (kc2 d1 d2) kc0 ?_;refine Zai (fun (q : List Nat × List Nat × List Nat × List Nat) => match q with | (P, U, V, Q) => 0 < U.length ∧ 0 < V.length ∧ P.length + U.length = M ∧ P.length + U.length + V.length + Q.length = N ∧ P ++ V ++ U ++ Q = R) (fun (P, U, V, Q) => [(0, .ref 1000 2 0 N N), (2, .int M), (4, .d (.fn g [])), (10, .int U.length), (11, .int V.length)]) (fun (P, U, V, Q) => [(1000, .row 2 ((P ++ U ++ V ++ Q).map (elD v p)))]) (fun (P, U, V, Q) => U.length + V.length) (P, U, V, Q) ?_ ?_ ?_
 ·exact ⟨hU, hV, hM.symm, by omega, hR.symm⟩
 ·exact kN kc0 []
 ·rintro ⟨P, U, V, Q⟩ ⟨hU, hV, hM, hN, hR⟩;dsimp only at hU hV hM hN hR ⊢;rcases Nat.lt_trichotomy U.length V.length with hlt | heq | hgt
  ·obtain ⟨V1, V2, rfl, hl⟩ : ∃ V1 V2, V = V1 ++ V2 ∧ V2.length = U.length := ⟨V.take (V.length - U.length), V.drop (V.length - U.length), (List.take_append_drop _ _).symm, by rw [List.length_drop]; omega⟩;rw [List.length_append] at hlt hN;have h1 := Zmk v p g P U V1 V2 Q hl.symm N (by omega) hN1 ((M : Int) - (U.length : Int)) ((M : Int) + ((V1 ++ V2).length : Int) - (U.length : Int)) U.length (by omega) (by rw [List.length_append]; omega) rfl;have e0 : P ++ U ++ (V1 ++ V2) ++ Q = P ++ U ++ V1 ++ V2 ++ Q := by simp
   have e1 : P ++ V2 ++ V1 ++ U ++ Q = P ++ V2 ++ V1 ++ (U ++ Q) := by simp
   have e2 : ((V1 ++ V2).length : Int) - (U.length : Int) = V1.length := by rw [List.length_append]; omega
   have b1 : (V1 ++ V2).length ≤ 1000000 := by rw [List.length_append]; omega
   have b2 : U.length < (V1 ++ V2).length := by rw [List.length_append]; omega
   rw [← e0] at h1;have b3 : (V1 ++ V2).length = V1.length + V2.length := List.length_append;generalize hVV : V1 ++ V2 = VV at *;refine kw1 kO kc0 (kc1 (kmc [] h1)) ?_;refine ⟨(P, V2, V1, U ++ Q), ?_, kN (kc3 e1 e2 hl) [], ?_⟩
   ·dsimp only;refine ⟨by omega, by omega, by omega, ?_, ?_⟩
    ·rw [List.length_append]; omega
    ·rw [← hR, ← hVV]; simp
   ·dsimp only; omega
  ·have h1 := Zmk v p g P U [] V Q heq N (by simp only [List.length_nil]; omega) hN1 ((M : Int) - (V.length : Int)) M V.length (by omega) (by simp only [List.length_nil]; omega) (by omega);rw [List.append_nil, List.append_nil] at h1;refine kw1 kO (kc1 heq) (kc1 (kmc [] h1)) ?_;refine ⟨_, Zbk.1 (kN (L := []) (M := [(1000, .row 2 ((P ++ V ++ U ++ Q).map (elD v p)))]) kc0 []), ?_⟩;rw [hR];exact ⟨⟨[], rfl, trivial⟩, fmc ⟨rfl, fmn⟩⟩
  ·obtain ⟨U1, U2, rfl, hl⟩ : ∃ U1 U2, U = U1 ++ U2 ∧ U1.length = V.length := ⟨U.take V.length, U.drop V.length, (List.take_append_drop _ _).symm, by rw [List.length_take]; omega⟩;rw [List.length_append] at hgt hN;have h1 := Zmk v p g P U1 U2 V Q hl N (by omega) hN1 ((M : Int) - ((U1 ++ U2).length : Int)) M V.length (by rw [List.length_append] at hM ⊢; omega) (by rw [List.length_append] at hM; omega) (by omega);have e0 : P ++ (U1 ++ U2) ++ V ++ Q = P ++ U1 ++ U2 ++ V ++ Q := by simp
   have e1 : P ++ V ++ U2 ++ U1 ++ Q = (P ++ V) ++ U2 ++ U1 ++ Q := by simp
   have e2 : ((U1 ++ U2).length : Int) - (V.length : Int) = U2.length := by rw [List.length_append]; omega
   have b1 : (U1 ++ U2).length ≤ 1000000 := by rw [List.length_append]; omega
   have b2 : V.length < (U1 ++ U2).length := by rw [List.length_append]; omega
   rw [← e0] at h1;have b3 : (U1 ++ U2).length = U1.length + U2.length := List.length_append;generalize hUU : U1 ++ U2 = UU at *;refine kw1 kO kc0 (kc1 (kmc [] h1)) ?_;refine ⟨(P ++ V, U2, U1, Q), ?_, kN (kc3 e1 e2 hl) [], ?_⟩
   ·dsimp only;refine ⟨by omega, by omega, ?_, ?_, ?_⟩
    ·rw [List.length_append]; omega
    ·rw [List.length_append]; omega
    ·rw [← hR, ← hUU]; simp
   ·dsimp only; omega
end Go.Proofs.YtjjbhjnpeenbkaaGreatDoor
namespace Go.Proofs.YtjjbhjnpeenbkaaGreatDoor
open Go Go.PS Go.Proofs
open Go.Stb
set_option maxRecDepth 100000
attribute [local irreducible] Zab wpG Zaa Zaf

def Zda (c : Nat → Nat → Int) (R : Nat → Nat → Prop) (s x : Nat) : Prop := c x s < 0 ↔ R x s
theorem Zuf {c : Nat → Nat → Int} {R : Nat → Nat → Prop} {M : List Nat} (h : M.Pairwise (Zda c R)) {k x s : Nat} (hx : M[k]? = some x) (hs : s ∈ M.take k) : Zda c R s x := by
 rw [← List.take_append_drop k M] at h;exact (List.pairwise_append.1 h).2.2 s hs x (by rw [ZfY hx]; simp)
theorem Zvp {M : List Nat} (h : M.Nodup) {k x s : Nat} (hx : M[k]? = some x) (hs : s ∈ M.take k) : s ≠ x := by
 rw [← List.take_append_drop k M, List.nodup_append] at h;exact h.2.2 s hs x (by rw [ZfY hx]; simp)
theorem Zyl (v : Nat → Int) (p : Nat → List D) (g : Nat) (c : Nat → Nat → Int) (R : Nat → Nat → Prop) (hR : Ord R) (hcmp : ∀ j k, Zaa Tryz.prog g [elD v p j, elD v p k] (.int (c j k)))
  (P M Q T : List Nat) (hb : M.Pairwise (Zda c R)) (hnd : M.Nodup) (hT : T.Perm M) (hTs : T.Pairwise R) (N : Nat) (hN : P.length + M.length + Q.length = N) (hN1 : N ≤ 1000000) (a e : Int) (ha : a = P.length) (he : e = (P.length + M.length : Nat)) :
  Zaf Tryz.prog 280 [.ref 1000 2 0 N N, .int a, .int e, .d (.fn g [])] [(1000, .row 2 ((P ++ M ++ Q).map (elD v p)))] (.tup []) [(1000, .row 2 ((P ++ T ++ Q).map (elD v p)))] := by
 subst ha he;obtain ⟨A, hA⟩ : ∃ A, A = P.length := ⟨_, rfl⟩;rw [← hA];refine kM Tryz.func280 ?_;intro B X w0;refine ZcK ?_;refine kw1 kO kc0 kc0 ?_;refine Zai (fun (q : Nat × List Nat) => match q with | (k, S) => 1 ≤ k ∧ k ≤ M.length + 1 ∧ S.Pairwise R ∧ S.Perm (M.take k)) (fun (k, S) => [(0, .ref 1000 2 0 N N), (1, .int A), (2, .int ((A + M.length : Nat) : Int)), (3, .d (.fn g [])), (8, .int ((A + k : Nat) : Int))]) (fun (k, S) => [(1000, .row 2 ((P ++ S ++ M.drop k ++ Q).map (elD v p)))]) (fun (k, S) => M.length + 1 - k) (1, M.take 1) ?_ ?_ ?_
 ·refine ⟨Nat.le_refl _, by omega, ?_, List.Perm.refl _⟩;rcases M with _ | ⟨x, M⟩
  ·exact List.Pairwise.nil
  ·exact List.pairwise_singleton _ _
 ·have e0 : P ++ M.take 1 ++ M.drop 1 ++ Q = P ++ M ++ Q := by rw [List.append_assoc P, List.take_append_drop]
  exact kN (kc3 e0 @Int.natCast_add @Int.natCast_one) []
 ·rintro ⟨k, S⟩ ⟨hk1, hk2, hSs, hSp⟩;dsimp only at hk1 hk2 hSs hSp ⊢;have hSl := hSp.length_eq;rw [List.length_take] at hSl;rcases Nat.lt_or_ge k M.length with hlt | hge
  ·obtain ⟨x, hx⟩ := Zad hlt;have hdr := ZfY hx;have hSx : ∀ s, s ∈ S → Zda c R s x ∧ s ≠ x := fun s hs => ⟨Zuf hb hx (hSp.mem_iff.1 hs), Zvp hnd hx (hSp.mem_iff.1 hs)⟩
   generalize hQ2 : M.drop (k + 1) ++ Q = Q2 at *;have hQl : Q2.length + k + 1 = M.length + Q.length := by rw [← hQ2, List.length_append, List.length_drop]; omega
   refine kw1 kO kc0 kc0 ?_;refine Zai (fun (q : List Nat × List Nat) => match q with | (S1, S2) => S1 ++ S2 = S ∧ (∀ s, s ∈ S2 → R x s)) (fun (S1, S2) => [(0, .ref 1000 2 0 N N), (1, .int A), (2, .int ((A + M.length : Nat) : Int)), (3, .d (.fn g [])), (8, .int ((A + k : Nat) : Int)), (9, .int ((A + S1.length : Nat) : Int))]) (fun (S1, S2) => [(1000, .row 2 ((P ++ S1 ++ x :: (S2 ++ Q2)).map (elD v p)))]) (fun (S1, S2) => S1.length) (S, []) ?_ ?_ ?_
   ·exact ⟨List.append_nil _, fun s hs => by cases hs⟩
   ·have e0 : P ++ S ++ M.drop k ++ Q = P ++ S ++ x :: Q2 := by rw [hdr, ← hQ2]; simp
    have e1 : S.length = k := by omega
    exact kN (kc3 e0 e1 @List.nil_append.{0}) []
   ·rintro ⟨S1, S2⟩ ⟨hSS, hS2⟩;dsimp only at hSS hS2 ⊢;have hl0 : S1.length + S2.length = k := by
     have := congrArg List.length hSS;rw [List.length_append] at this; omega
    have hdone : S1 = [] ∨ (∃ S3 s, S1 = S3 ++ [s]) := by
     rcases List.eq_nil_or_concat S1 with h | ⟨l, z, h⟩
     ·exact .inl h
     ·exact .inr ⟨l, z, by rw [h, List.concat_eq_append]⟩
    have hfin : (∀ s, s ∈ S1 → R s x) → (S1 ++ x :: S2).Pairwise R ∧ (S1 ++ x :: S2).Perm (M.take (k + 1)) := fun h => by
     refine ⟨ZyA hR (by rw [hSS]; exact hSs) h hS2, ?_⟩;rw [ZaD hx];refine List.perm_middle.trans ?_;rw [hSS];exact (List.perm_append_comm (l₁ := [x]) (l₂ := S)).trans (hSp.append_right [x])
    have hrow : P ++ S1 ++ x :: (S2 ++ Q2) = P ++ (S1 ++ x :: S2) ++ M.drop (k + 1) ++ Q := by rw [← hQ2]; simp
    have hkk : ((A + k : Nat) : Int) + 1 = ((A + (k + 1) : Nat) : Int) := by omega
    rcases hdone with rfl | ⟨S3, s, rfl⟩
    ·obtain ⟨f1, f2⟩ := hfin (fun s hs => by cases hs);have z0 : A + ([] : List Nat).length = A := rfl;rw [z0];refine kw1 kO kc0 kc0 ?_;have hrow0 : P ++ x :: (S2 ++ Q2) = P ++ x :: S2 ++ M.drop (k + 1) ++ Q := by rw [← hQ2]; simp
     refine ⟨(k + 1, x :: S2), ?_, kN (kc2 @hrow0 hkk) [], ?_⟩
     ·exact ⟨by omega, by omega, f1, f2⟩
     ·dsimp only; omega
    ·obtain ⟨hbk, hne⟩ := hSx s (by rw [← hSS]; simp);have h1 := hcmp x s;rw [List.length_append, List.length_singleton] at hl0;obtain ⟨J, hJ⟩ : ∃ J, J = A + S3.length := ⟨_, rfl⟩;have z0 : A + (S3 ++ [s]).length = J + 1 := by rw [List.length_append, List.length_singleton]; omega
     have g1 : (P ++ (S3 ++ [s]) ++ x :: (S2 ++ Q2))[J + 1]? = some x := by
      rw [← z0, hA, ← List.length_append]; exact Zgu _ _ _
     have rw1 : P ++ (S3 ++ [s]) ++ x :: (S2 ++ Q2) = (P ++ S3) ++ s :: x :: (S2 ++ Q2) := by simp
     have hPJ : (P ++ S3).length = J := by rw [List.length_append]; omega
     have g2 : (P ++ (S3 ++ [s]) ++ x :: (S2 ++ Q2))[J]? = some s := by rw [rw1, ← hPJ]; exact Zgu _ _ _
     have hln : (P ++ (S3 ++ [s]) ++ x :: (S2 ++ Q2)).length = N := by
      simp only [List.length_append, List.length_cons, List.length_nil]; omega
     have hst : ((P ++ (S3 ++ [s]) ++ x :: (S2 ++ Q2)).set (J + 1) s).set J x = P ++ S3 ++ x :: (s :: S2 ++ Q2) := by
      have r1 : (P ++ (S3 ++ [s]) ++ x :: (S2 ++ Q2)).set (J + 1) s = (P ++ S3) ++ s :: s :: (S2 ++ Q2) := by
       rw [← z0, hA, ← List.length_append, ZfZ]; simp
      rw [r1, ← hPJ, ZfZ]; simp
     have g3 : ((P ++ (S3 ++ [s]) ++ x :: (S2 ++ Q2)).set (J + 1) s)[J]? = some s := by
      rw [List.getElem?_set, if_neg (by omega), g2]
     rw [z0];rw [hrow] at *;generalize hLL : P ++ (S3 ++ [s] ++ x :: S2) ++ M.drop (k + 1) ++ Q = LL at *;have g4 : ((LL.map (elD v p)).set (J + 1) (elD v p s))[J]? = some (elD v p s) := by rw [← List.map_set, List.getElem?_map, g3]; rfl
     have hs2 : ((LL.map (elD v p)).set (J + 1) (elD v p s)).set J (elD v p x) = (P ++ S3 ++ x :: (s :: S2 ++ Q2)).map (elD v p) := by rw [← hst, List.map_set, List.map_set]
     have n1 : (((J + 1 : Nat) : Int) - 1).toNat = J := by omega
     have n2 : (((J + 1 : Nat) : Int)).toNat = J + 1 := by omega
     have n3 : ((J + 1 : Nat) : Int) - 1 = (J : Int) := by omega
     by_cases hlt2 : c x s < 0
     ·refine kw1 kO (kc8 n1 n2 n3 g1 g2 hln hlt2 (kc3 @List.length_set.{0} g4 hs2)) (kc1 h1) ?_;refine ⟨(S3, s :: S2), ?_, kN (kc2 hs2 hJ) [], ?_⟩
      ·dsimp only;exact ⟨by rw [← hSS]; simp, fun z hz => by
        rcases List.mem_cons.1 hz with rfl | hz
        ·exact hbk.1 hlt2
        ·exact hS2 z hz⟩
      ·dsimp only; rw [List.length_append, List.length_singleton]; omega
     ·have hsx : R s x := by
       rcases hR.total s x hne with h | h
       ·exact h
       ·exact absurd (hbk.2 h) hlt2
      have hS1s : (S3 ++ [s]).Pairwise R := by
       rw [← hSS] at hSs;exact (List.pairwise_append.1 hSs).1
      obtain ⟨f1, f2⟩ := hfin (fun z hz => by
       rcases List.mem_append.1 hz with hz | hz
       ·exact hR.trans z s x ((List.pairwise_append.1 hS1s).2.2 z hz s (by simp)) hsx
       ·rw [List.mem_singleton.1 hz]; exact hsx)
      refine kw1 kO (kc7 n1 n2 n3 g1 g2 hln hlt2) (kc1 h1) ?_;refine ⟨(k + 1, S3 ++ [s] ++ x :: S2), ?_, kN (kc2 hLL hkk) [], ?_⟩
      ·exact ⟨by omega, by omega, f1, f2⟩
      ·dsimp only; omega
  ·have hS : S = T := by
    rw [List.take_of_length_le hge] at hSp;exact ZgE hR (hSp.trans hT.symm) hSs hTs
   subst hS;refine kw1 kO kc0 kc0 ?_;have e0 : P ++ S ++ M.drop k ++ Q = P ++ S ++ Q := by rw [List.drop_of_length_le hge, List.append_nil]
   refine ⟨_, Zbk.1 (kN (L := []) (M := [(1000, .row 2 ((P ++ S ++ Q).map (elD v p)))]) (kc1 e0) []), ?_⟩;exact ⟨⟨[], rfl, trivial⟩, fmc ⟨rfl, fmn⟩⟩
end Go.Proofs.YtjjbhjnpeenbkaaGreatDoor
