/- Branch and bound: extend, all of it. -/
import Derived.Test.YtelghbnlceeecaaGreatStA
import Derived.Test.YtelghbnlceeecaaGreatPSBridge
set_option linter.unusedSimpArgs false
set_option linter.unusedVariables false
namespace Go.Proofs.YtelghbnlceeecaaGreat
open Go Go.PS Go.Proofs
open Go.Bd (sm sumC Small low Part bestF foldB better extF foldE more less shut)
set_option maxRecDepth 100000
attribute [local irreducible] wpRun wpG CallsTo CallsM

/-- The two sums of a round of extend. -/
def moreK (m : List (List Int)) (l : List Nat) (v k : Nat) : Int := sm (fun w => if w ≠ v ∧ w ∉ l then cellAt m v w else 0) k
def lessK (m : List (List Int)) (l : List Nat) (v k : Nat) : Int := sm (fun w => if w ≠ v ∧ w ∉ l then min (cellAt m v w) (cellAt m w v) else 0) k
theorem pd_move {ids : List Nat} {S : St} {o o2 : Nat} (h1 : o ∈ ids) (h2 : o2 < 1000 ∨ 2000 ≤ o2) (h : PassedDead ids S.objs) :
    PassedDead ids (fun x => if x = o then .gone else if x = o2 then (S.objs o).ren (mvG o o2) else (S.objs x).ren (mvG o o2)) := fun i a b hi => by
  dsimp only
  rw [if_neg (fun e : i = o => hi (e ▸ h1)), if_neg (by omega), h i a b hi]; rfl
theorem moreK_in {m : List (List Int)} {l : List Nat} {v k : Nat} (h : ¬ (k ≠ v ∧ k ∉ l)) : moreK m l v (k + 1) = moreK m l v k := by rw [moreK, sm, if_neg h, Int.add_zero]; rfl
theorem moreK_out {m : List (List Int)} {l : List Nat} {v k : Nat} (h : k ≠ v ∧ k ∉ l) : moreK m l v (k + 1) = moreK m l v k + cellAt m v k := by rw [moreK, sm, if_pos h]; rfl
theorem lessK_in {m : List (List Int)} {l : List Nat} {v k : Nat} (h : ¬ (k ≠ v ∧ k ∉ l)) : lessK m l v (k + 1) = lessK m l v k := by rw [lessK, sm, if_neg h, Int.add_zero]; rfl
theorem lessK_out {m : List (List Int)} {l : List Nat} {v k : Nat} (h : k ≠ v ∧ k ∉ l) : lessK m l v (k + 1) = lessK m l v k + min (cellAt m v k) (cellAt m k v) := by rw [lessK, sm, if_pos h]; rfl
set_option maxHeartbeats 16000000 in
theorem ext_main (m : List (List Int)) (hs : Sq m) (h8 : m.length ≤ 8) : ∀ (f : Nat) (l : List Nat), Part m.length f l → ∀ (st : Option (List Nat × Int)) (cost rest : Int), ExtIn m l st cost rest → ExtOk m f l st cost rest := by
  intro f
  induction f with
  | zero =>
    intro l hp st cost rest hi
    have hll := hp.len
    rcases hsh : shut st (cost + rest) with _ | _
    · exact ext_zero m hs h8 l hp st cost rest hi hsh
    · exact ext_shut m 0 l st cost rest hi (by omega) hsh (by rw [extF, if_pos hsh])
  | succ f IH =>
    intro l hp st cost rest hi
    have hll := hp.len
    rcases hsh : shut st (cost + rest) with _ | _
    · rw [ExtOk, Go.Bd.ext_foldE, if_neg (by rw [hsh]; decide)]
      have hlen := foldE_len (cost := cost) (rest := rest) (c := cellAt m) hp hi.len
      have hIH : ∀ v, v < m.length → v ∉ l → ExtOk m f (l ++ [v]) (foldE (cellAt m) m.length f l cost rest st v) (cost + moreK m l v m.length) (rest - lessK m l v m.length) := fun v hv hm => by
        have b1 : 0 ≤ moreK m l v m.length ∧ moreK m l v m.length ≤ 1000000 * m.length := Go.Bd.more_bounds hs.small l hv m.length (Nat.le_refl _)
        have b2 : 0 ≤ lessK m l v m.length ∧ lessK m l v m.length ≤ 1000000 * m.length := Go.Bd.less_bounds hs.small l hv m.length (Nat.le_refl _)
        have b3 := hi.c0
        have b4 := hi.c1
        have b5 := hi.r0
        have b6 := hi.r1
        refine IH _ (hp.snoc hv hm) _ _ _ ⟨hlen v (by omega), .inl (by omega), by omega, ?_, ?_, by omega⟩
        · rw [List.length_append, Int.natCast_add, Int.mul_add]
          simp only [List.length_cons, List.length_nil]
          omega
        · rw [List.length_append, Int.natCast_add, Int.mul_add]
          simp only [List.length_cons, List.length_nil]
          omega
      obtain ⟨st0, hst0⟩ : ∃ st0, st = st0 := ⟨_, rfl⟩
      rw [hst0] at hlen hIH ⊢
      obtain ⟨hbl, hpos, c0, c1, r0, r1⟩ := hi
      obtain ⟨⟨be, ke⟩, hend⟩ : ∃ s, foldE (cellAt m) m.length f l cost rest st0 m.length = some s := by
        obtain ⟨s, hx⟩ := Go.Bd.ext_some (c := cellAt m) (f + 1) l hp cost rest st0
        rw [Go.Bd.ext_foldE, if_neg (by rw [← hst0, hsh]; decide)] at hx
        exact ⟨s, hx⟩
      rw [hend]
      all_goals
        rw [← hst0]
        rcases st with _ | ⟨b, k⟩
        all_goals simp only [bPV, lI]
        all_goals
          refine callsM_of Tryz.func49 rfl (by decide +kernel) (Nat.le_of_ble_eq_true rfl) rfl (nodup_of rfl) rfl rfl rfl ?_
        all_goals intro B X w0
        all_goals refine pw_post ?_
        · have hnl : ¬ (l.length : Int) = m.length := by omega
          repeat' first | refine pw_seq ?_ | refine pw_skip ?_ | refine pw_ret ?_ | refine pw_exit ?_ | refine pw_block ?_ | refine pw_region (fun _ => false) hmix ?_ | (refine wpG_split rfl rfl (fun hc => ?_) (fun hc => ?_) <;> try simp only [hcL, reduceCtorEq] at hc) | (refine pw_cond _ rfl rfl (fun hc => ?_) (fun hc => ?_) <;> (try simp only [hcL, reduceCtorEq] at hc) <;> try (exfalso; omega)) | simp (maxSteps := 1000000) (disch := omega) only [go_sem, simprocAttr, hnl] | apply And.intro | omega | decide +kernel
          refine pw_loopI (κ := Nat) (fun (v : Nat) => v ≤ m.length) (fun (v : Nat) => [(0, .ptr 1000 0 0 0), (1, .int cost), (2, .int rest), (51, .d (listsD m)), (52, .int m.length), (53, .int v)]) (fun (v : Nat) => [(1000, .cells [.d (listsD m), .ref 901 1 0 l.length l.length, bPV (foldE (cellAt m) m.length f l cost rest st0 v), .int (lI (foldE (cellAt m) m.length f l cost rest st0 v))]), (1001, .gone), (901, .row 1 (l.map natD))]) (fun (v : Nat) => m.length - v) 0 ?_ ?_ ?_
          · exact Nat.zero_le _
          · try dsimp only
            rw [Go.Bd.foldE_zero, ← hst0]
            exact entL_iff.2 (Ent.trans (ent_move 1001 901 rfl (by decide) (by decide)) (entL_iff.1 (eL [] _ _ (by refine ⟨?_, ?_⟩ <;> (repeat' first | exact List.forall_mem_nil _ | refine List.forall_mem_cons.2 ⟨(by first | rfl | (simp (disch := omega) only [go_sem, simprocAttr, inL, bPV, lI]; first | done | omega | (congr 1; done))), ?_⟩); done) (h7 := pd_move (by simp) (by decide) (by repeat' first | exact pd_dead | exact pd_of _ rfl | refine pd_upd rfl ?_)))))
          · intro v hv
            have hlv := hlen v hv
            rcases Nat.lt_or_ge v m.length with hlt | hge
            · have hin := containsN_spec l v
              by_cases hm : v ∈ l
              · rw [decide_eq_true hm] at hin
                have e1 := Go.Bd.foldE_in (cellAt m) m.length (f := f) (cost := cost) (rest := rest) (st := st0) hm
                rcases hst : foldE (cellAt m) m.length f l cost rest st0 v with _ | ⟨b0, k0⟩ <;> rw [hst] at e1 <;> simp only [bPV, lI]
                all_goals
                  repeat' first | refine pw_seq ?_ | refine pw_skip ?_ | refine pw_ret ?_ | refine pw_exit ?_ | refine pw_block ?_ | refine pw_region (fun _ => false) hmix ?_ | (refine rc (hin) rfl ?_ ?_; (· first | rfl | (simp (disch := omega) only [go_sem, simprocAttr, take_map_len]; done))) | (refine wpG_split rfl rfl (fun hc => ?_) (fun hc => ?_) <;> try simp only [hcL, reduceCtorEq] at hc) | (refine pw_cond _ rfl rfl (fun hc => ?_) (fun hc => ?_) <;> (try simp only [hcL, reduceCtorEq] at hc) <;> try (exfalso; omega)) | simp (maxSteps := 1000000) (disch := omega) only [go_sem, simprocAttr, take_map_len] | apply And.intro | omega | decide +kernel
                  refine ⟨v + 1, ?_, ?_, ?_⟩
                  · omega
                  · try dsimp only
                    rw [e1]
                    exact eL [] _ _ (by refine ⟨?_, ?_⟩ <;> (repeat' first | exact List.forall_mem_nil _ | refine List.forall_mem_cons.2 ⟨(by first | rfl | (simp (disch := omega) only [go_sem, simprocAttr, inL, bPV, lI]; first | done | omega | (congr 1; done))), ?_⟩); done)
                  · omega
              · rw [decide_eq_false hm] at hin
                have e1 := Go.Bd.foldE_out (cellAt m) m.length (f := f) (cost := cost) (rest := rest) (st := st0) hm
                have ih := hIH v hlt hm
                have en : (((l.length + 1 : Nat) : Int) - 1).toNat = l.length := by omega
                have hT : (l.map natD ++ [natD v]).take l.length = l.map natD := List.take_left' (List.length_map ..)
                rcases hst : foldE (cellAt m) m.length f l cost rest st0 v with _ | ⟨b0, k0⟩
                all_goals
                  rw [hst] at e1 ih
                  have e3 : foldE (cellAt m) m.length f l cost rest st0 (v + 1) = extF (cellAt m) m.length f (l ++ [v]) (cost + moreK m l v m.length) (rest - lessK m l v m.length) _ := e1
                  rw [ExtOk, ← e3] at ih
                  obtain ⟨⟨b2, k2⟩, hst2⟩ : ∃ s, foldE (cellAt m) m.length f l cost rest st0 (v + 1) = some s := by
                    rw [e3]; exact Go.Bd.ext_some f (l ++ [v]) (hp.snoc hlt hm) _ _ _
                  rw [hst2] at ih e3
                  simp only [bPV, lI, List.length_append, List.length_cons, List.length_nil, List.map_append, List.map_cons, List.map_nil, Nat.zero_add] at ih ⊢
                · repeat' first | refine pw_seq ?_ | refine pw_skip ?_ | refine pw_ret ?_ | refine pw_exit ?_ | refine pw_block ?_ | refine pw_region (fun _ => false) hmix ?_ | (refine rc (hin) rfl ?_ ?_; (· first | rfl | (simp (disch := omega) only [go_sem, simprocAttr, take_map_len]; done))) | (refine wpG_split rfl rfl (fun hc => ?_) (fun hc => ?_) <;> try simp only [hcL, reduceCtorEq] at hc) | (refine pw_cond _ rfl rfl (fun hc => ?_) (fun hc => ?_) <;> (try simp only [hcL, reduceCtorEq] at hc) <;> try (exfalso; omega)) | simp (maxSteps := 1000000) (disch := omega) only [go_sem, simprocAttr, take_map_len] | apply And.intro | omega | decide +kernel
                  refine pw_loopI (κ := Nat) (fun (w : Nat) => w ≤ m.length) (fun (w : Nat) => [(0, .ptr 1000 0 0 0), (1, .int cost), (2, .int rest), (6, .int v), (7, .int (moreK m l v w)), (8, .int (lessK m l v w)), (51, .d (listsD m)), (52, .int m.length), (53, .int v), (65, .d (listsD m)), (66, .int m.length), (67, .int w)]) (fun (w : Nat) => [(1000, .cells [.d (listsD m), .ref 901 1 0 l.length l.length, .nilS, .int 0]), (1001, .gone), (901, .row 1 (l.map natD))]) (fun (w : Nat) => m.length - w) 0 ?_ ?_ ?_
                  · exact Nat.zero_le _
                  · exact eL [] _ _ (by refine ⟨?_, ?_⟩ <;> (repeat' first | exact List.forall_mem_nil _ | refine List.forall_mem_cons.2 ⟨(by first | rfl | (simp (disch := omega) only [go_sem, simprocAttr, inL, moreK, lessK, sm]; first | done | omega | (congr 1; done))), ?_⟩); done)
                  · intro w hw
                    have b1 : 0 ≤ moreK m l v w ∧ moreK m l v w ≤ 1000000 * w := Go.Bd.more_bounds hs.small l hlt w hw
                    have b2 : 0 ≤ lessK m l v w ∧ lessK m l v w ≤ 1000000 * w := Go.Bd.less_bounds hs.small l hlt w hw
                    rcases Nat.lt_or_ge w m.length with hlw | hgw
                    · obtain ⟨p, hp1, hp2, hp3, hp4, hp5⟩ := hs.get hlt hlw
                      obtain ⟨q, hq1, hq2, hq3, hq4, hq5⟩ := hs.get hlw hlt
                      have hcw := containsN_spec l w
                      by_cases d1 : w = v
                      · have e1 := moreK_in (m := m) (l := l) (v := v) (k := w) (fun h => h.1 d1)
                        have e2 := lessK_in (m := m) (l := l) (v := v) (k := w) (fun h => h.1 d1)
                        have d1I : (w : Int) = v := by omega
                        repeat' first | refine pw_seq ?_ | refine pw_skip ?_ | refine pw_ret ?_ | refine pw_exit ?_ | refine pw_block ?_ | refine pw_region (fun _ => false) hmix ?_ | (refine wpG_split rfl rfl (fun hc => ?_) (fun hc => ?_) <;> try simp only [hcL, reduceCtorEq] at hc) | (refine pw_cond _ rfl rfl (fun hc => ?_) (fun hc => ?_) <;> (try simp only [hcL, reduceCtorEq] at hc) <;> try (exfalso; omega)) | simp (maxSteps := 1000000) (disch := omega) only [go_sem, simprocAttr, d1I] | apply And.intro | omega | decide +kernel
                        refine ⟨w + 1, ?_, eL [] _ _ (by refine ⟨?_, ?_⟩ <;> (repeat' first | exact List.forall_mem_nil _ | refine List.forall_mem_cons.2 ⟨(by first | rfl | (simp (disch := omega) only [go_sem, simprocAttr, inL, e1, e2]; first | done | omega | (congr 1; done))), ?_⟩); done), ?_⟩
                        · omega
                        · omega
                      · have d1I : ¬ (w : Int) = v := by omega
                        by_cases d2 : w ∈ l
                        · have e1 := moreK_in (m := m) (l := l) (v := v) (k := w) (fun h => h.2 d2)
                          have e2 := lessK_in (m := m) (l := l) (v := v) (k := w) (fun h => h.2 d2)
                          rw [decide_eq_true d2] at hcw
                          repeat' first | refine pw_seq ?_ | refine pw_skip ?_ | refine pw_ret ?_ | refine pw_exit ?_ | refine pw_block ?_ | refine pw_region (fun _ => false) hmix ?_ | (refine rc (hcw) rfl ?_ ?_; (· first | rfl | (simp (disch := omega) only [go_sem, simprocAttr, d1I, take_map_len]; done))) | (refine wpG_split rfl rfl (fun hc => ?_) (fun hc => ?_) <;> try simp only [hcL, reduceCtorEq] at hc) | (refine pw_cond _ rfl rfl (fun hc => ?_) (fun hc => ?_) <;> (try simp only [hcL, reduceCtorEq] at hc) <;> try (exfalso; omega)) | simp (maxSteps := 1000000) (disch := omega) only [go_sem, simprocAttr, d1I, take_map_len] | apply And.intro | omega | decide +kernel
                          refine ⟨w + 1, ?_, eL [] _ _ (by refine ⟨?_, ?_⟩ <;> (repeat' first | exact List.forall_mem_nil _ | refine List.forall_mem_cons.2 ⟨(by first | rfl | (simp (disch := omega) only [go_sem, simprocAttr, inL, e1, e2]; first | done | omega | (congr 1; done))), ?_⟩); done), ?_⟩
                          · omega
                          · omega
                        · have e1 := moreK_out (m := m) (l := l) (v := v) (k := w) ⟨d1, d2⟩
                          have e2 := lessK_out (m := m) (l := l) (v := v) (k := w) ⟨d1, d2⟩
                          rw [decide_eq_false d2] at hcw
                          repeat' first | refine pw_seq ?_ | refine pw_skip ?_ | refine pw_ret ?_ | refine pw_exit ?_ | refine pw_block ?_ | refine pw_region (fun _ => false) hmix ?_ | (refine rc (hcw) rfl ?_ ?_; (· first | rfl | (simp (disch := omega) only [go_sem, simprocAttr, d1I, take_map_len, hp1, hp3, hq1, hq3, iteI_min]; done))) | (refine wpG_split rfl rfl (fun hc => ?_) (fun hc => ?_) <;> try simp only [hcL, reduceCtorEq] at hc) | (refine pw_cond _ rfl rfl (fun hc => ?_) (fun hc => ?_) <;> (try simp only [hcL, reduceCtorEq] at hc) <;> try (exfalso; omega)) | simp (maxSteps := 1000000) (disch := omega) only [go_sem, simprocAttr, d1I, take_map_len, hp1, hp3, hq1, hq3, iteI_min] | apply And.intro | omega | decide +kernel
                          refine ⟨w + 1, ?_, eL [] _ _ (by refine ⟨?_, ?_⟩ <;> (repeat' first | exact List.forall_mem_nil _ | refine List.forall_mem_cons.2 ⟨(by first | rfl | (simp (disch := omega) only [go_sem, simprocAttr, inL, e1, e2]; first | done | omega | (congr 1; done))), ?_⟩); done), ?_⟩
                          · omega
                          · omega
                    · have : w = m.length := by omega
                      subst this
                      repeat' first | refine pw_seq ?_ | refine pw_skip ?_ | refine pw_ret ?_ | refine pw_exit ?_ | refine pw_block ?_ | refine pw_region (fun _ => false) hmix ?_ | refine rcM [(1001, 125), (2000, 904)] (ih) rfl ?_ | (refine wpG_split rfl rfl (fun hc => ?_) (fun hc => ?_) <;> try simp only [hcL, reduceCtorEq] at hc) | (refine pw_cond _ rfl rfl (fun hc => ?_) (fun hc => ?_) <;> (try simp only [hcL, reduceCtorEq] at hc) <;> try (exfalso; omega)) | simp (maxSteps := 1000000) (disch := omega) only [go_sem, simprocAttr, roomy, take_map_len, en, Nat.sub_zero] | exact nat_one v | apply And.intro | omega | decide +kernel
                      refine ⟨v + 1, ?_, ?_, ?_⟩
                      · omega
                      · try dsimp only
                        rw [hst2]
                        exact entL_iff.2 (Ent.trans (ent_trunc 904 1 _ l.length rfl) (Ent.trans (ent_cap 1000 1 904 1 0 l.length (l.length + 1) l.length rfl rfl (by omega)) (entL_iff.1 (eL [(901, 904)] _ _ (by refine ⟨?_, ?_⟩ <;> (repeat' first | exact List.forall_mem_nil _ | refine List.forall_mem_cons.2 ⟨(by first | rfl | (simp (disch := omega) only [go_sem, simprocAttr, inL, hT, bPV, lI, List.set_cons_succ, List.set_cons_zero]; first | done | omega | (congr 1; done))), ?_⟩); done)))))
                      · omega
                · repeat' first | refine pw_seq ?_ | refine pw_skip ?_ | refine pw_ret ?_ | refine pw_exit ?_ | refine pw_block ?_ | refine pw_region (fun _ => false) hmix ?_ | (refine rc (hin) rfl ?_ ?_; (· first | rfl | (simp (disch := omega) only [go_sem, simprocAttr, take_map_len]; done))) | (refine wpG_split rfl rfl (fun hc => ?_) (fun hc => ?_) <;> try simp only [hcL, reduceCtorEq] at hc) | (refine pw_cond _ rfl rfl (fun hc => ?_) (fun hc => ?_) <;> (try simp only [hcL, reduceCtorEq] at hc) <;> try (exfalso; omega)) | simp (maxSteps := 1000000) (disch := omega) only [go_sem, simprocAttr, take_map_len] | apply And.intro | omega | decide +kernel
                  refine pw_loopI (κ := Nat) (fun (w : Nat) => w ≤ m.length) (fun (w : Nat) => [(0, .ptr 1000 0 0 0), (1, .int cost), (2, .int rest), (6, .int v), (7, .int (moreK m l v w)), (8, .int (lessK m l v w)), (51, .d (listsD m)), (52, .int m.length), (53, .int v), (65, .d (listsD m)), (66, .int m.length), (67, .int w)]) (fun (w : Nat) => [(1000, .cells [.d (listsD m), .ref 901 1 0 l.length l.length, .d (natsD b0), .int k0]), (1001, .gone), (901, .row 1 (l.map natD))]) (fun (w : Nat) => m.length - w) 0 ?_ ?_ ?_
                  · exact Nat.zero_le _
                  · exact eL [] _ _ (by refine ⟨?_, ?_⟩ <;> (repeat' first | exact List.forall_mem_nil _ | refine List.forall_mem_cons.2 ⟨(by first | rfl | (simp (disch := omega) only [go_sem, simprocAttr, inL, moreK, lessK, sm]; first | done | omega | (congr 1; done))), ?_⟩); done)
                  · intro w hw
                    have b1 : 0 ≤ moreK m l v w ∧ moreK m l v w ≤ 1000000 * w := Go.Bd.more_bounds hs.small l hlt w hw
                    have b2 : 0 ≤ lessK m l v w ∧ lessK m l v w ≤ 1000000 * w := Go.Bd.less_bounds hs.small l hlt w hw
                    rcases Nat.lt_or_ge w m.length with hlw | hgw
                    · obtain ⟨p, hp1, hp2, hp3, hp4, hp5⟩ := hs.get hlt hlw
                      obtain ⟨q, hq1, hq2, hq3, hq4, hq5⟩ := hs.get hlw hlt
                      have hcw := containsN_spec l w
                      by_cases d1 : w = v
                      · have e1 := moreK_in (m := m) (l := l) (v := v) (k := w) (fun h => h.1 d1)
                        have e2 := lessK_in (m := m) (l := l) (v := v) (k := w) (fun h => h.1 d1)
                        have d1I : (w : Int) = v := by omega
                        repeat' first | refine pw_seq ?_ | refine pw_skip ?_ | refine pw_ret ?_ | refine pw_exit ?_ | refine pw_block ?_ | refine pw_region (fun _ => false) hmix ?_ | (refine wpG_split rfl rfl (fun hc => ?_) (fun hc => ?_) <;> try simp only [hcL, reduceCtorEq] at hc) | (refine pw_cond _ rfl rfl (fun hc => ?_) (fun hc => ?_) <;> (try simp only [hcL, reduceCtorEq] at hc) <;> try (exfalso; omega)) | simp (maxSteps := 1000000) (disch := omega) only [go_sem, simprocAttr, d1I] | apply And.intro | omega | decide +kernel
                        refine ⟨w + 1, ?_, eL [] _ _ (by refine ⟨?_, ?_⟩ <;> (repeat' first | exact List.forall_mem_nil _ | refine List.forall_mem_cons.2 ⟨(by first | rfl | (simp (disch := omega) only [go_sem, simprocAttr, inL, e1, e2]; first | done | omega | (congr 1; done))), ?_⟩); done), ?_⟩
                        · omega
                        · omega
                      · have d1I : ¬ (w : Int) = v := by omega
                        by_cases d2 : w ∈ l
                        · have e1 := moreK_in (m := m) (l := l) (v := v) (k := w) (fun h => h.2 d2)
                          have e2 := lessK_in (m := m) (l := l) (v := v) (k := w) (fun h => h.2 d2)
                          rw [decide_eq_true d2] at hcw
                          repeat' first | refine pw_seq ?_ | refine pw_skip ?_ | refine pw_ret ?_ | refine pw_exit ?_ | refine pw_block ?_ | refine pw_region (fun _ => false) hmix ?_ | (refine rc (hcw) rfl ?_ ?_; (· first | rfl | (simp (disch := omega) only [go_sem, simprocAttr, d1I, take_map_len]; done))) | (refine wpG_split rfl rfl (fun hc => ?_) (fun hc => ?_) <;> try simp only [hcL, reduceCtorEq] at hc) | (refine pw_cond _ rfl rfl (fun hc => ?_) (fun hc => ?_) <;> (try simp only [hcL, reduceCtorEq] at hc) <;> try (exfalso; omega)) | simp (maxSteps := 1000000) (disch := omega) only [go_sem, simprocAttr, d1I, take_map_len] | apply And.intro | omega | decide +kernel
                          refine ⟨w + 1, ?_, eL [] _ _ (by refine ⟨?_, ?_⟩ <;> (repeat' first | exact List.forall_mem_nil _ | refine List.forall_mem_cons.2 ⟨(by first | rfl | (simp (disch := omega) only [go_sem, simprocAttr, inL, e1, e2]; first | done | omega | (congr 1; done))), ?_⟩); done), ?_⟩
                          · omega
                          · omega
                        · have e1 := moreK_out (m := m) (l := l) (v := v) (k := w) ⟨d1, d2⟩
                          have e2 := lessK_out (m := m) (l := l) (v := v) (k := w) ⟨d1, d2⟩
                          rw [decide_eq_false d2] at hcw
                          repeat' first | refine pw_seq ?_ | refine pw_skip ?_ | refine pw_ret ?_ | refine pw_exit ?_ | refine pw_block ?_ | refine pw_region (fun _ => false) hmix ?_ | (refine rc (hcw) rfl ?_ ?_; (· first | rfl | (simp (disch := omega) only [go_sem, simprocAttr, d1I, take_map_len, hp1, hp3, hq1, hq3, iteI_min]; done))) | (refine wpG_split rfl rfl (fun hc => ?_) (fun hc => ?_) <;> try simp only [hcL, reduceCtorEq] at hc) | (refine pw_cond _ rfl rfl (fun hc => ?_) (fun hc => ?_) <;> (try simp only [hcL, reduceCtorEq] at hc) <;> try (exfalso; omega)) | simp (maxSteps := 1000000) (disch := omega) only [go_sem, simprocAttr, d1I, take_map_len, hp1, hp3, hq1, hq3, iteI_min] | apply And.intro | omega | decide +kernel
                          refine ⟨w + 1, ?_, eL [] _ _ (by refine ⟨?_, ?_⟩ <;> (repeat' first | exact List.forall_mem_nil _ | refine List.forall_mem_cons.2 ⟨(by first | rfl | (simp (disch := omega) only [go_sem, simprocAttr, inL, e1, e2]; first | done | omega | (congr 1; done))), ?_⟩); done), ?_⟩
                          · omega
                          · omega
                    · have : w = m.length := by omega
                      subst this
                      repeat' first | refine pw_seq ?_ | refine pw_skip ?_ | refine pw_ret ?_ | refine pw_exit ?_ | refine pw_block ?_ | refine pw_region (fun _ => false) hmix ?_ | refine rcM [(1001, 125), (2000, 904)] (ih) rfl ?_ | (refine wpG_split rfl rfl (fun hc => ?_) (fun hc => ?_) <;> try simp only [hcL, reduceCtorEq] at hc) | (refine pw_cond _ rfl rfl (fun hc => ?_) (fun hc => ?_) <;> (try simp only [hcL, reduceCtorEq] at hc) <;> try (exfalso; omega)) | simp (maxSteps := 1000000) (disch := omega) only [go_sem, simprocAttr, roomy, take_map_len, en, Nat.sub_zero] | exact nat_one v | apply And.intro | omega | decide +kernel
                      refine ⟨v + 1, ?_, ?_, ?_⟩
                      · omega
                      · try dsimp only
                        rw [hst2]
                        exact entL_iff.2 (Ent.trans (ent_trunc 904 1 _ l.length rfl) (Ent.trans (ent_cap 1000 1 904 1 0 l.length (l.length + 1) l.length rfl rfl (by omega)) (entL_iff.1 (eL [(901, 904)] _ _ (by refine ⟨?_, ?_⟩ <;> (repeat' first | exact List.forall_mem_nil _ | refine List.forall_mem_cons.2 ⟨(by first | rfl | (simp (disch := omega) only [go_sem, simprocAttr, inL, hT, bPV, lI, List.set_cons_succ, List.set_cons_zero]; first | done | omega | (congr 1; done))), ?_⟩); done)))))
                      · omega
            · have : v = m.length := by omega
              subst this
              rw [hend]
              simp only [bPV, lI]
              repeat' first | refine pw_seq ?_ | refine pw_skip ?_ | refine pw_ret ?_ | refine pw_exit ?_ | refine pw_block ?_ | refine pw_region (fun _ => false) hmix ?_ | (refine wpG_split rfl rfl (fun hc => ?_) (fun hc => ?_) <;> try simp only [hcL, reduceCtorEq] at hc) | (refine pw_cond _ rfl rfl (fun hc => ?_) (fun hc => ?_) <;> (try simp only [hcL, reduceCtorEq] at hc) <;> try (exfalso; omega)) | simp (maxSteps := 1000000) (disch := omega) only [go_sem, simprocAttr] | apply And.intro | omega | decide +kernel
              refine ⟨_, entL_iff.1 (eL [(2000, 901)] [] [(1000, .cells [.d (listsD m), .ref 2000 1 0 l.length l.length, .d (natsD be), .int ke]), (1001, .gone), (2000, .row 1 (l.map natD))] (by constructor <;> (repeat' first | exact List.forall_mem_nil _ | refine List.forall_mem_cons.2 ⟨rfl, ?_⟩); done)), ?_⟩
              exact ⟨⟨[], rfl, trivial⟩, List.forall_mem_cons.2 ⟨rfl, List.forall_mem_cons.2 ⟨rfl, List.forall_mem_cons.2 ⟨rfl, List.forall_mem_nil _⟩⟩⟩⟩
        · have hk : ¬ k ≤ cost + rest := by simpa [shut] using hsh
          have hbl' := hbl _ rfl
          have hnl : ¬ (l.length : Int) = m.length := by omega
          have hne : (b.map natD).isEmpty = false := by
            cases b with
            | nil => simp at hbl'; omega
            | cons x b => rfl
          repeat' first | refine pw_seq ?_ | refine pw_skip ?_ | refine pw_ret ?_ | refine pw_exit ?_ | refine pw_block ?_ | refine pw_region (fun _ => false) hmix ?_ | (refine wpG_split rfl rfl (fun hc => ?_) (fun hc => ?_) <;> try simp only [hcL, reduceCtorEq] at hc) | (refine pw_cond _ rfl rfl (fun hc => ?_) (fun hc => ?_) <;> (try simp only [hcL, reduceCtorEq] at hc) <;> try (exfalso; omega)) | simp (maxSteps := 1000000) (disch := omega) only [go_sem, simprocAttr, hne, hk, hnl] | apply And.intro | omega | decide +kernel
          refine pw_loopI (κ := Nat) (fun (v : Nat) => v ≤ m.length) (fun (v : Nat) => [(0, .ptr 1000 0 0 0), (1, .int cost), (2, .int rest), (51, .d (listsD m)), (52, .int m.length), (53, .int v)]) (fun (v : Nat) => [(1000, .cells [.d (listsD m), .ref 901 1 0 l.length l.length, bPV (foldE (cellAt m) m.length f l cost rest st0 v), .int (lI (foldE (cellAt m) m.length f l cost rest st0 v))]), (1001, .gone), (901, .row 1 (l.map natD))]) (fun (v : Nat) => m.length - v) 0 ?_ ?_ ?_
          · exact Nat.zero_le _
          · try dsimp only
            rw [Go.Bd.foldE_zero, ← hst0]
            exact entL_iff.2 (Ent.trans (ent_move 1001 901 rfl (by decide) (by decide)) (entL_iff.1 (eL [] _ _ (by refine ⟨?_, ?_⟩ <;> (repeat' first | exact List.forall_mem_nil _ | refine List.forall_mem_cons.2 ⟨(by first | rfl | (simp (disch := omega) only [go_sem, simprocAttr, inL, bPV, lI]; first | done | omega | (congr 1; done))), ?_⟩); done) (h7 := pd_move (by simp) (by decide) (by repeat' first | exact pd_dead | exact pd_of _ rfl | refine pd_upd rfl ?_)))))
          · intro v hv
            have hlv := hlen v hv
            rcases Nat.lt_or_ge v m.length with hlt | hge
            · have hin := containsN_spec l v
              by_cases hm : v ∈ l
              · rw [decide_eq_true hm] at hin
                have e1 := Go.Bd.foldE_in (cellAt m) m.length (f := f) (cost := cost) (rest := rest) (st := st0) hm
                rcases hst : foldE (cellAt m) m.length f l cost rest st0 v with _ | ⟨b0, k0⟩ <;> rw [hst] at e1 <;> simp only [bPV, lI]
                all_goals
                  repeat' first | refine pw_seq ?_ | refine pw_skip ?_ | refine pw_ret ?_ | refine pw_exit ?_ | refine pw_block ?_ | refine pw_region (fun _ => false) hmix ?_ | (refine rc (hin) rfl ?_ ?_; (· first | rfl | (simp (disch := omega) only [go_sem, simprocAttr, take_map_len]; done))) | (refine wpG_split rfl rfl (fun hc => ?_) (fun hc => ?_) <;> try simp only [hcL, reduceCtorEq] at hc) | (refine pw_cond _ rfl rfl (fun hc => ?_) (fun hc => ?_) <;> (try simp only [hcL, reduceCtorEq] at hc) <;> try (exfalso; omega)) | simp (maxSteps := 1000000) (disch := omega) only [go_sem, simprocAttr, take_map_len] | apply And.intro | omega | decide +kernel
                  refine ⟨v + 1, ?_, ?_, ?_⟩
                  · omega
                  · try dsimp only
                    rw [e1]
                    exact eL [] _ _ (by refine ⟨?_, ?_⟩ <;> (repeat' first | exact List.forall_mem_nil _ | refine List.forall_mem_cons.2 ⟨(by first | rfl | (simp (disch := omega) only [go_sem, simprocAttr, inL, bPV, lI]; first | done | omega | (congr 1; done))), ?_⟩); done)
                  · omega
              · rw [decide_eq_false hm] at hin
                have e1 := Go.Bd.foldE_out (cellAt m) m.length (f := f) (cost := cost) (rest := rest) (st := st0) hm
                have ih := hIH v hlt hm
                have en : (((l.length + 1 : Nat) : Int) - 1).toNat = l.length := by omega
                have hT : (l.map natD ++ [natD v]).take l.length = l.map natD := List.take_left' (List.length_map ..)
                rcases hst : foldE (cellAt m) m.length f l cost rest st0 v with _ | ⟨b0, k0⟩
                all_goals
                  rw [hst] at e1 ih
                  have e3 : foldE (cellAt m) m.length f l cost rest st0 (v + 1) = extF (cellAt m) m.length f (l ++ [v]) (cost + moreK m l v m.length) (rest - lessK m l v m.length) _ := e1
                  rw [ExtOk, ← e3] at ih
                  obtain ⟨⟨b2, k2⟩, hst2⟩ : ∃ s, foldE (cellAt m) m.length f l cost rest st0 (v + 1) = some s := by
                    rw [e3]; exact Go.Bd.ext_some f (l ++ [v]) (hp.snoc hlt hm) _ _ _
                  rw [hst2] at ih e3
                  simp only [bPV, lI, List.length_append, List.length_cons, List.length_nil, List.map_append, List.map_cons, List.map_nil, Nat.zero_add] at ih ⊢
                · repeat' first | refine pw_seq ?_ | refine pw_skip ?_ | refine pw_ret ?_ | refine pw_exit ?_ | refine pw_block ?_ | refine pw_region (fun _ => false) hmix ?_ | (refine rc (hin) rfl ?_ ?_; (· first | rfl | (simp (disch := omega) only [go_sem, simprocAttr, take_map_len]; done))) | (refine wpG_split rfl rfl (fun hc => ?_) (fun hc => ?_) <;> try simp only [hcL, reduceCtorEq] at hc) | (refine pw_cond _ rfl rfl (fun hc => ?_) (fun hc => ?_) <;> (try simp only [hcL, reduceCtorEq] at hc) <;> try (exfalso; omega)) | simp (maxSteps := 1000000) (disch := omega) only [go_sem, simprocAttr, take_map_len] | apply And.intro | omega | decide +kernel
                  refine pw_loopI (κ := Nat) (fun (w : Nat) => w ≤ m.length) (fun (w : Nat) => [(0, .ptr 1000 0 0 0), (1, .int cost), (2, .int rest), (6, .int v), (7, .int (moreK m l v w)), (8, .int (lessK m l v w)), (51, .d (listsD m)), (52, .int m.length), (53, .int v), (65, .d (listsD m)), (66, .int m.length), (67, .int w)]) (fun (w : Nat) => [(1000, .cells [.d (listsD m), .ref 901 1 0 l.length l.length, .nilS, .int 0]), (1001, .gone), (901, .row 1 (l.map natD))]) (fun (w : Nat) => m.length - w) 0 ?_ ?_ ?_
                  · exact Nat.zero_le _
                  · exact eL [] _ _ (by refine ⟨?_, ?_⟩ <;> (repeat' first | exact List.forall_mem_nil _ | refine List.forall_mem_cons.2 ⟨(by first | rfl | (simp (disch := omega) only [go_sem, simprocAttr, inL, moreK, lessK, sm]; first | done | omega | (congr 1; done))), ?_⟩); done)
                  · intro w hw
                    have b1 : 0 ≤ moreK m l v w ∧ moreK m l v w ≤ 1000000 * w := Go.Bd.more_bounds hs.small l hlt w hw
                    have b2 : 0 ≤ lessK m l v w ∧ lessK m l v w ≤ 1000000 * w := Go.Bd.less_bounds hs.small l hlt w hw
                    rcases Nat.lt_or_ge w m.length with hlw | hgw
                    · obtain ⟨p, hp1, hp2, hp3, hp4, hp5⟩ := hs.get hlt hlw
                      obtain ⟨q, hq1, hq2, hq3, hq4, hq5⟩ := hs.get hlw hlt
                      have hcw := containsN_spec l w
                      by_cases d1 : w = v
                      · have e1 := moreK_in (m := m) (l := l) (v := v) (k := w) (fun h => h.1 d1)
                        have e2 := lessK_in (m := m) (l := l) (v := v) (k := w) (fun h => h.1 d1)
                        have d1I : (w : Int) = v := by omega
                        repeat' first | refine pw_seq ?_ | refine pw_skip ?_ | refine pw_ret ?_ | refine pw_exit ?_ | refine pw_block ?_ | refine pw_region (fun _ => false) hmix ?_ | (refine wpG_split rfl rfl (fun hc => ?_) (fun hc => ?_) <;> try simp only [hcL, reduceCtorEq] at hc) | (refine pw_cond _ rfl rfl (fun hc => ?_) (fun hc => ?_) <;> (try simp only [hcL, reduceCtorEq] at hc) <;> try (exfalso; omega)) | simp (maxSteps := 1000000) (disch := omega) only [go_sem, simprocAttr, d1I] | apply And.intro | omega | decide +kernel
                        refine ⟨w + 1, ?_, eL [] _ _ (by refine ⟨?_, ?_⟩ <;> (repeat' first | exact List.forall_mem_nil _ | refine List.forall_mem_cons.2 ⟨(by first | rfl | (simp (disch := omega) only [go_sem, simprocAttr, inL, e1, e2]; first | done | omega | (congr 1; done))), ?_⟩); done), ?_⟩
                        · omega
                        · omega
                      · have d1I : ¬ (w : Int) = v := by omega
                        by_cases d2 : w ∈ l
                        · have e1 := moreK_in (m := m) (l := l) (v := v) (k := w) (fun h => h.2 d2)
                          have e2 := lessK_in (m := m) (l := l) (v := v) (k := w) (fun h => h.2 d2)
                          rw [decide_eq_true d2] at hcw
                          repeat' first | refine pw_seq ?_ | refine pw_skip ?_ | refine pw_ret ?_ | refine pw_exit ?_ | refine pw_block ?_ | refine pw_region (fun _ => false) hmix ?_ | (refine rc (hcw) rfl ?_ ?_; (· first | rfl | (simp (disch := omega) only [go_sem, simprocAttr, d1I, take_map_len]; done))) | (refine wpG_split rfl rfl (fun hc => ?_) (fun hc => ?_) <;> try simp only [hcL, reduceCtorEq] at hc) | (refine pw_cond _ rfl rfl (fun hc => ?_) (fun hc => ?_) <;> (try simp only [hcL, reduceCtorEq] at hc) <;> try (exfalso; omega)) | simp (maxSteps := 1000000) (disch := omega) only [go_sem, simprocAttr, d1I, take_map_len] | apply And.intro | omega | decide +kernel
                          refine ⟨w + 1, ?_, eL [] _ _ (by refine ⟨?_, ?_⟩ <;> (repeat' first | exact List.forall_mem_nil _ | refine List.forall_mem_cons.2 ⟨(by first | rfl | (simp (disch := omega) only [go_sem, simprocAttr, inL, e1, e2]; first | done | omega | (congr 1; done))), ?_⟩); done), ?_⟩
                          · omega
                          · omega
                        · have e1 := moreK_out (m := m) (l := l) (v := v) (k := w) ⟨d1, d2⟩
                          have e2 := lessK_out (m := m) (l := l) (v := v) (k := w) ⟨d1, d2⟩
                          rw [decide_eq_false d2] at hcw
                          repeat' first | refine pw_seq ?_ | refine pw_skip ?_ | refine pw_ret ?_ | refine pw_exit ?_ | refine pw_block ?_ | refine pw_region (fun _ => false) hmix ?_ | (refine rc (hcw) rfl ?_ ?_; (· first | rfl | (simp (disch := omega) only [go_sem, simprocAttr, d1I, take_map_len, hp1, hp3, hq1, hq3, iteI_min]; done))) | (refine wpG_split rfl rfl (fun hc => ?_) (fun hc => ?_) <;> try simp only [hcL, reduceCtorEq] at hc) | (refine pw_cond _ rfl rfl (fun hc => ?_) (fun hc => ?_) <;> (try simp only [hcL, reduceCtorEq] at hc) <;> try (exfalso; omega)) | simp (maxSteps := 1000000) (disch := omega) only [go_sem, simprocAttr, d1I, take_map_len, hp1, hp3, hq1, hq3, iteI_min] | apply And.intro | omega | decide +kernel
                          refine ⟨w + 1, ?_, eL [] _ _ (by refine ⟨?_, ?_⟩ <;> (repeat' first | exact List.forall_mem_nil _ | refine List.forall_mem_cons.2 ⟨(by first | rfl | (simp (disch := omega) only [go_sem, simprocAttr, inL, e1, e2]; first | done | omega | (congr 1; done))), ?_⟩); done), ?_⟩
                          · omega
                          · omega
                    · have : w = m.length := by omega
                      subst this
                      repeat' first | refine pw_seq ?_ | refine pw_skip ?_ | refine pw_ret ?_ | refine pw_exit ?_ | refine pw_block ?_ | refine pw_region (fun _ => false) hmix ?_ | refine rcM [(1001, 125), (2000, 904)] (ih) rfl ?_ | (refine wpG_split rfl rfl (fun hc => ?_) (fun hc => ?_) <;> try simp only [hcL, reduceCtorEq] at hc) | (refine pw_cond _ rfl rfl (fun hc => ?_) (fun hc => ?_) <;> (try simp only [hcL, reduceCtorEq] at hc) <;> try (exfalso; omega)) | simp (maxSteps := 1000000) (disch := omega) only [go_sem, simprocAttr, roomy, take_map_len, en, Nat.sub_zero] | exact nat_one v | apply And.intro | omega | decide +kernel
                      refine ⟨v + 1, ?_, ?_, ?_⟩
                      · omega
                      · try dsimp only
                        rw [hst2]
                        exact entL_iff.2 (Ent.trans (ent_trunc 904 1 _ l.length rfl) (Ent.trans (ent_cap 1000 1 904 1 0 l.length (l.length + 1) l.length rfl rfl (by omega)) (entL_iff.1 (eL [(901, 904)] _ _ (by refine ⟨?_, ?_⟩ <;> (repeat' first | exact List.forall_mem_nil _ | refine List.forall_mem_cons.2 ⟨(by first | rfl | (simp (disch := omega) only [go_sem, simprocAttr, inL, hT, bPV, lI, List.set_cons_succ, List.set_cons_zero]; first | done | omega | (congr 1; done))), ?_⟩); done)))))
                      · omega
                · repeat' first | refine pw_seq ?_ | refine pw_skip ?_ | refine pw_ret ?_ | refine pw_exit ?_ | refine pw_block ?_ | refine pw_region (fun _ => false) hmix ?_ | (refine rc (hin) rfl ?_ ?_; (· first | rfl | (simp (disch := omega) only [go_sem, simprocAttr, take_map_len]; done))) | (refine wpG_split rfl rfl (fun hc => ?_) (fun hc => ?_) <;> try simp only [hcL, reduceCtorEq] at hc) | (refine pw_cond _ rfl rfl (fun hc => ?_) (fun hc => ?_) <;> (try simp only [hcL, reduceCtorEq] at hc) <;> try (exfalso; omega)) | simp (maxSteps := 1000000) (disch := omega) only [go_sem, simprocAttr, take_map_len] | apply And.intro | omega | decide +kernel
                  refine pw_loopI (κ := Nat) (fun (w : Nat) => w ≤ m.length) (fun (w : Nat) => [(0, .ptr 1000 0 0 0), (1, .int cost), (2, .int rest), (6, .int v), (7, .int (moreK m l v w)), (8, .int (lessK m l v w)), (51, .d (listsD m)), (52, .int m.length), (53, .int v), (65, .d (listsD m)), (66, .int m.length), (67, .int w)]) (fun (w : Nat) => [(1000, .cells [.d (listsD m), .ref 901 1 0 l.length l.length, .d (natsD b0), .int k0]), (1001, .gone), (901, .row 1 (l.map natD))]) (fun (w : Nat) => m.length - w) 0 ?_ ?_ ?_
                  · exact Nat.zero_le _
                  · exact eL [] _ _ (by refine ⟨?_, ?_⟩ <;> (repeat' first | exact List.forall_mem_nil _ | refine List.forall_mem_cons.2 ⟨(by first | rfl | (simp (disch := omega) only [go_sem, simprocAttr, inL, moreK, lessK, sm]; first | done | omega | (congr 1; done))), ?_⟩); done)
                  · intro w hw
                    have b1 : 0 ≤ moreK m l v w ∧ moreK m l v w ≤ 1000000 * w := Go.Bd.more_bounds hs.small l hlt w hw
                    have b2 : 0 ≤ lessK m l v w ∧ lessK m l v w ≤ 1000000 * w := Go.Bd.less_bounds hs.small l hlt w hw
                    rcases Nat.lt_or_ge w m.length with hlw | hgw
                    · obtain ⟨p, hp1, hp2, hp3, hp4, hp5⟩ := hs.get hlt hlw
                      obtain ⟨q, hq1, hq2, hq3, hq4, hq5⟩ := hs.get hlw hlt
                      have hcw := containsN_spec l w
                      by_cases d1 : w = v
                      · have e1 := moreK_in (m := m) (l := l) (v := v) (k := w) (fun h => h.1 d1)
                        have e2 := lessK_in (m := m) (l := l) (v := v) (k := w) (fun h => h.1 d1)
                        have d1I : (w : Int) = v := by omega
                        repeat' first | refine pw_seq ?_ | refine pw_skip ?_ | refine pw_ret ?_ | refine pw_exit ?_ | refine pw_block ?_ | refine pw_region (fun _ => false) hmix ?_ | (refine wpG_split rfl rfl (fun hc => ?_) (fun hc => ?_) <;> try simp only [hcL, reduceCtorEq] at hc) | (refine pw_cond _ rfl rfl (fun hc => ?_) (fun hc => ?_) <;> (try simp only [hcL, reduceCtorEq] at hc) <;> try (exfalso; omega)) | simp (maxSteps := 1000000) (disch := omega) only [go_sem, simprocAttr, d1I] | apply And.intro | omega | decide +kernel
                        refine ⟨w + 1, ?_, eL [] _ _ (by refine ⟨?_, ?_⟩ <;> (repeat' first | exact List.forall_mem_nil _ | refine List.forall_mem_cons.2 ⟨(by first | rfl | (simp (disch := omega) only [go_sem, simprocAttr, inL, e1, e2]; first | done | omega | (congr 1; done))), ?_⟩); done), ?_⟩
                        · omega
                        · omega
                      · have d1I : ¬ (w : Int) = v := by omega
                        by_cases d2 : w ∈ l
                        · have e1 := moreK_in (m := m) (l := l) (v := v) (k := w) (fun h => h.2 d2)
                          have e2 := lessK_in (m := m) (l := l) (v := v) (k := w) (fun h => h.2 d2)
                          rw [decide_eq_true d2] at hcw
                          repeat' first | refine pw_seq ?_ | refine pw_skip ?_ | refine pw_ret ?_ | refine pw_exit ?_ | refine pw_block ?_ | refine pw_region (fun _ => false) hmix ?_ | (refine rc (hcw) rfl ?_ ?_; (· first | rfl | (simp (disch := omega) only [go_sem, simprocAttr, d1I, take_map_len]; done))) | (refine wpG_split rfl rfl (fun hc => ?_) (fun hc => ?_) <;> try simp only [hcL, reduceCtorEq] at hc) | (refine pw_cond _ rfl rfl (fun hc => ?_) (fun hc => ?_) <;> (try simp only [hcL, reduceCtorEq] at hc) <;> try (exfalso; omega)) | simp (maxSteps := 1000000) (disch := omega) only [go_sem, simprocAttr, d1I, take_map_len] | apply And.intro | omega | decide +kernel
                          refine ⟨w + 1, ?_, eL [] _ _ (by refine ⟨?_, ?_⟩ <;> (repeat' first | exact List.forall_mem_nil _ | refine List.forall_mem_cons.2 ⟨(by first | rfl | (simp (disch := omega) only [go_sem, simprocAttr, inL, e1, e2]; first | done | omega | (congr 1; done))), ?_⟩); done), ?_⟩
                          · omega
                          · omega
                        · have e1 := moreK_out (m := m) (l := l) (v := v) (k := w) ⟨d1, d2⟩
                          have e2 := lessK_out (m := m) (l := l) (v := v) (k := w) ⟨d1, d2⟩
                          rw [decide_eq_false d2] at hcw
                          repeat' first | refine pw_seq ?_ | refine pw_skip ?_ | refine pw_ret ?_ | refine pw_exit ?_ | refine pw_block ?_ | refine pw_region (fun _ => false) hmix ?_ | (refine rc (hcw) rfl ?_ ?_; (· first | rfl | (simp (disch := omega) only [go_sem, simprocAttr, d1I, take_map_len, hp1, hp3, hq1, hq3, iteI_min]; done))) | (refine wpG_split rfl rfl (fun hc => ?_) (fun hc => ?_) <;> try simp only [hcL, reduceCtorEq] at hc) | (refine pw_cond _ rfl rfl (fun hc => ?_) (fun hc => ?_) <;> (try simp only [hcL, reduceCtorEq] at hc) <;> try (exfalso; omega)) | simp (maxSteps := 1000000) (disch := omega) only [go_sem, simprocAttr, d1I, take_map_len, hp1, hp3, hq1, hq3, iteI_min] | apply And.intro | omega | decide +kernel
                          refine ⟨w + 1, ?_, eL [] _ _ (by refine ⟨?_, ?_⟩ <;> (repeat' first | exact List.forall_mem_nil _ | refine List.forall_mem_cons.2 ⟨(by first | rfl | (simp (disch := omega) only [go_sem, simprocAttr, inL, e1, e2]; first | done | omega | (congr 1; done))), ?_⟩); done), ?_⟩
                          · omega
                          · omega
                    · have : w = m.length := by omega
                      subst this
                      repeat' first | refine pw_seq ?_ | refine pw_skip ?_ | refine pw_ret ?_ | refine pw_exit ?_ | refine pw_block ?_ | refine pw_region (fun _ => false) hmix ?_ | refine rcM [(1001, 125), (2000, 904)] (ih) rfl ?_ | (refine wpG_split rfl rfl (fun hc => ?_) (fun hc => ?_) <;> try simp only [hcL, reduceCtorEq] at hc) | (refine pw_cond _ rfl rfl (fun hc => ?_) (fun hc => ?_) <;> (try simp only [hcL, reduceCtorEq] at hc) <;> try (exfalso; omega)) | simp (maxSteps := 1000000) (disch := omega) only [go_sem, simprocAttr, roomy, take_map_len, en, Nat.sub_zero] | exact nat_one v | apply And.intro | omega | decide +kernel
                      refine ⟨v + 1, ?_, ?_, ?_⟩
                      · omega
                      · try dsimp only
                        rw [hst2]
                        exact entL_iff.2 (Ent.trans (ent_trunc 904 1 _ l.length rfl) (Ent.trans (ent_cap 1000 1 904 1 0 l.length (l.length + 1) l.length rfl rfl (by omega)) (entL_iff.1 (eL [(901, 904)] _ _ (by refine ⟨?_, ?_⟩ <;> (repeat' first | exact List.forall_mem_nil _ | refine List.forall_mem_cons.2 ⟨(by first | rfl | (simp (disch := omega) only [go_sem, simprocAttr, inL, hT, bPV, lI, List.set_cons_succ, List.set_cons_zero]; first | done | omega | (congr 1; done))), ?_⟩); done)))))
                      · omega
            · have : v = m.length := by omega
              subst this
              rw [hend]
              simp only [bPV, lI]
              repeat' first | refine pw_seq ?_ | refine pw_skip ?_ | refine pw_ret ?_ | refine pw_exit ?_ | refine pw_block ?_ | refine pw_region (fun _ => false) hmix ?_ | (refine wpG_split rfl rfl (fun hc => ?_) (fun hc => ?_) <;> try simp only [hcL, reduceCtorEq] at hc) | (refine pw_cond _ rfl rfl (fun hc => ?_) (fun hc => ?_) <;> (try simp only [hcL, reduceCtorEq] at hc) <;> try (exfalso; omega)) | simp (maxSteps := 1000000) (disch := omega) only [go_sem, simprocAttr] | apply And.intro | omega | decide +kernel
              refine ⟨_, entL_iff.1 (eL [(2000, 901)] [] [(1000, .cells [.d (listsD m), .ref 2000 1 0 l.length l.length, .d (natsD be), .int ke]), (1001, .gone), (2000, .row 1 (l.map natD))] (by constructor <;> (repeat' first | exact List.forall_mem_nil _ | refine List.forall_mem_cons.2 ⟨rfl, ?_⟩); done)), ?_⟩
              exact ⟨⟨[], rfl, trivial⟩, List.forall_mem_cons.2 ⟨rfl, List.forall_mem_cons.2 ⟨rfl, List.forall_mem_cons.2 ⟨rfl, List.forall_mem_nil _⟩⟩⟩⟩
    · exact ext_shut m (f + 1) l st cost rest hi (by omega) hsh (by rw [Go.Bd.ext_foldE, if_pos hsh])
end Go.Proofs.YtelghbnlceeecaaGreat
namespace Go.Proofs.YtelghbnlceeecaaGreat
open Go Go.PS Go.Proofs
open Go.Bd (sm sumC Small low Part bestF foldB better extF foldE more less shut fixC)
set_option maxRecDepth 100000
attribute [local irreducible] wpRun wpG CallsTo CallsM

theorem ext_all (m : List (List Int)) : extF (cellAt m) m.length m.length [] 0 (low (cellAt m) m.length []) none = some (bestAll m) := by
  have h := Go.Bd.ext_best (cellAt m) m.length [] (part_nil _) none
  rw [bestAll_eq] at h
  exact h
set_option maxHeartbeats 1000000 in
theorem Least_spec (m : List (List Int)) : CallsTo Tryz.prog 26 [listsD m] (if okM m then .tup [natsD (bestAll m).1, .int (bestAll m).2, .int 0] else .tup [.sl [], .int 0, .int 1]) := by
  have hv := bValid_spec m
  rcases h : okM m with _ | _ <;> rw [h] at hv
  · rw [if_neg (by decide)]
    refine callsTo_of Tryz.func26 rfl (by decide +kernel) (Nat.le_of_ble_eq_true rfl) ?_
    intro hat B X w0
    repeat' first | refine pw_seq ?_ | refine pw_skip ?_ | refine pw_ret ?_ | refine pw_exit ?_ | refine pw_block ?_ | refine pw_region (fun _ => false) hmix ?_ | (refine rc (hv) rfl ?_ ?_; (· first | rfl | (simp (disch := omega) only [go_sem, simprocAttr]; done))) | (refine wpG_split rfl rfl (fun hc => ?_) (fun hc => ?_) <;> try simp only [hcL, reduceCtorEq] at hc) | (refine pw_cond _ rfl rfl (fun hc => ?_) (fun hc => ?_) <;> (try simp only [hcL, reduceCtorEq] at hc) <;> try (exfalso; omega)) | simp (maxSteps := 1000000) (disch := omega) only [go_sem, simprocAttr] | apply And.intro | omega | decide +kernel
    exact ⟨_, rfl, sl_some rfl, int_some rfl, int_some rfl, trivial⟩
  · rw [if_pos rfl]
    obtain ⟨hs, h8⟩ := ok_sq h
    have hlo := Lower_spec m h
    have hb : 0 ≤ low (cellAt m) m.length [] ∧ low (cellAt m) m.length [] ≤ 64000000 := by
      rw [lw_low]
      have := lw_bounds hs h8 m.length (Nat.le_refl _)
      omega
    have he := ext_main m hs h8 m.length [] (part_nil _) none 0 (low (cellAt m) m.length []) ⟨fun s hs => (by cases hs), .inr rfl, by omega, by simp, by simp only [List.length_nil]; omega, by omega⟩
    rw [ExtOk, ext_all] at he
    simp only [bPV, lI, List.length_nil, List.map_nil] at he
    refine callsTo_of Tryz.func26 rfl (by decide +kernel) (Nat.le_of_ble_eq_true rfl) ?_
    intro hat B X w0
    repeat' first | refine pw_seq ?_ | refine pw_skip ?_ | refine pw_ret ?_ | refine pw_exit ?_ | refine pw_block ?_ | refine pw_regionB 4 rfl (fun _ => false) hmix ?_ | (refine rc (hv) rfl ?_ ?_; (· first | rfl | (simp (disch := omega) only [go_sem, simprocAttr]; done))) | (refine wpG_split rfl rfl (fun hc => ?_) (fun hc => ?_) <;> try simp only [hcL, reduceCtorEq] at hc) | (refine pw_cond _ rfl rfl (fun hc => ?_) (fun hc => ?_) <;> (try simp only [hcL, reduceCtorEq] at hc) <;> try (exfalso; omega)) | simp (maxSteps := 1000000) (disch := omega) only [go_sem, simprocAttr] | apply And.intro | omega | decide +kernel
    refine pw_ent _ (ent_nilC 11 1 901 1 rfl rfl rfl) ?_
    repeat' first | refine pw_seq ?_ | refine pw_skip ?_ | refine pw_ret ?_ | refine pw_exit ?_ | refine pw_block ?_ | refine pw_region (fun _ => false) hmix ?_ | (refine rc (hlo) rfl ?_ ?_; (· first | rfl | (simp (disch := omega) only [go_sem, simprocAttr]; done))) | refine rcM [(1000, 11), (1001, 901), (2000, 902)] (he) rfl ?_ | (refine wpG_split rfl rfl (fun hc => ?_) (fun hc => ?_) <;> try simp only [hcL, reduceCtorEq] at hc) | (refine pw_cond _ rfl rfl (fun hc => ?_) (fun hc => ?_) <;> (try simp only [hcL, reduceCtorEq] at hc) <;> try (exfalso; omega)) | simp (maxSteps := 1000000) (disch := omega) only [go_sem, simprocAttr] | apply And.intro | omega | decide +kernel
    exact ⟨_, rfl, sl_some rfl, int_some rfl, int_some rfl, trivial⟩
end Go.Proofs.YtelghbnlceeecaaGreat
namespace Go.Proofs.YtelghbnlceeecaaGreat
open Go Go.PS Go.Proofs
open Go.Bd (ix invF invN comN refN refB)
set_option maxRecDepth 100000
attribute [local irreducible] wpRun wpG CallsTo CallsM

theorem placeF_ix (l : List Int) (v : Int) : placeF l v = ix l v := by
  by_cases h : v ∈ l
  · rw [ix, if_pos h]
    have hlt := List.idxOf_lt_length_iff.2 h
    have hg : l[l.idxOf v]? = some v := by rw [List.getElem?_eq_getElem hlt, List.getElem_idxOf]
    have hn : ∀ j y, j < l.idxOf v → l[j]? = some y → decide (y = v) = false := by
      intro j y hj hy
      rw [decide_eq_false_iff_not]
      rintro rfl
      have h1 := List.not_of_lt_findIdx (p := fun x => x == y) (xs := l) (i := j) (by rw [List.idxOf] at hj; exact hj)
      obtain ⟨hl2, he⟩ := List.getElem?_eq_some_iff.1 hy
      simp [he] at h1
    rw [placeF, findIdx_at hg (by simp) hn]; rfl
  · rw [ix, if_neg h, placeF, findIdx_no (fun j y hy => by
      rw [decide_eq_false_iff_not]
      rintro rfl
      exact h (List.mem_of_getElem? hy))]; rfl
theorem indexX_spec (l : List Int) (v : Int) : CallsTo Tryz.prog 28 [intsD l, .int v] (.int (ix l v)) := placeF_ix l v ▸ index_spec l v
theorem rIndex_spec (l : List Int) (v : Int) : CallsTo Tryz.prog 40 [intsD l, .int v] (.int (ix l v)) := by
  rw [← placeF_ix]
  refine callsTo_of Tryz.func40 rfl (by decide +kernel) (Nat.le_of_ble_eq_true rfl) ?_
  intro hat B X w0
  have hl := at_len 0 hat rfl
  rw [List.length_map] at hl
  repeat' first | refine pw_seq ?_ | refine pw_skip ?_ | refine pw_ret ?_ | refine pw_exit ?_ | refine pw_block ?_ | refine pw_region (fun _ => false) hmix ?_ | (refine wpG_split rfl rfl (fun hc => ?_) (fun hc => ?_) <;> try simp only [hcL, reduceCtorEq] at hc) | (refine pw_cond _ rfl rfl (fun hc => ?_) (fun hc => ?_) <;> (try simp only [hcL, reduceCtorEq] at hc) <;> try (exfalso; omega)) | simp (maxSteps := 1000000) (disch := omega) only [go_sem, simprocAttr] | apply And.intro | omega | decide +kernel
  refine pw_loopI (κ := Nat) (fun (k : Nat) => k ≤ l.length ∧ ∀ (j : Nat) y, j < k → l[j]? = some y → (decide (y = v)) = false) (fun (k : Nat) => [(0, .d (intsD l)), (1, .int v), (5, .int k)]) (fun (k : Nat) => []) (fun (k : Nat) => l.length - k) 0 ?_ ?_ ?_
  · exact ⟨Nat.zero_le _, fun j y h => by omega⟩
  · exact eL [] _ _ (by refine ⟨?_, ?_⟩ <;> (repeat' first | exact List.forall_mem_nil _ | refine List.forall_mem_cons.2 ⟨(by first | rfl | (simp (disch := omega) only [go_sem, simprocAttr, inL]; first | done | omega | (congr 1; done))), ?_⟩); done)
  · rintro k ⟨hk, hinv⟩
    rcases Nat.lt_or_ge k l.length with hlt | hge
    · obtain ⟨p, hp⟩ := get_some hlt
      repeat' first | refine pw_seq ?_ | refine pw_skip ?_ | refine pw_ret ?_ | refine pw_exit ?_ | refine pw_block ?_ | refine pw_region (fun _ => false) hmix ?_ | (refine wpG_split rfl rfl (fun hc => ?_) (fun hc => ?_) <;> try simp only [hcL, reduceCtorEq] at hc) | (refine pw_cond _ rfl rfl (fun hc => ?_) (fun hc => ?_) <;> (try simp only [hcL, reduceCtorEq] at hc) <;> try (exfalso; omega)) | simp (maxSteps := 1000000) (disch := omega) only [go_sem, simprocAttr, hp] | apply And.intro | omega | decide +kernel
      · refine int_some ?_
        rw [placeF, findIdx_at hp (by simpa using hc) hinv]; rfl
      · refine ⟨k + 1, ?_, eL [] _ _ (by refine ⟨?_, ?_⟩ <;> (repeat' first | exact List.forall_mem_nil _ | refine List.forall_mem_cons.2 ⟨(by first | rfl | (simp (disch := omega) only [go_sem, simprocAttr, inL]; first | done | omega | (congr 1; done))), ?_⟩); done), ?_⟩
        · exact ⟨by omega, upto_succ hinv hp (by simpa using hc)⟩
        · omega
    · repeat' first | refine pw_seq ?_ | refine pw_skip ?_ | refine pw_ret ?_ | refine pw_exit ?_ | refine pw_block ?_ | refine pw_region (fun _ => false) hmix ?_ | (refine wpG_split rfl rfl (fun hc => ?_) (fun hc => ?_) <;> try simp only [hcL, reduceCtorEq] at hc) | (refine pw_cond _ rfl rfl (fun hc => ?_) (fun hc => ?_) <;> (try simp only [hcL, reduceCtorEq] at hc) <;> try (exfalso; omega)) | simp (maxSteps := 1000000) (disch := omega) only [go_sem, simprocAttr] | apply And.intro | omega | decide +kernel
      refine int_some ?_
      rw [placeF, findIdx_no (fun j y hy => hinv j y (by have := (List.getElem?_eq_some_iff.1 hy).1; omega) hy)]; rfl
theorem ix_nat {l : List Int} {v : Int} (h : v ∈ l) : ix l v = ((l.idxOf v : Nat) : Int) := by rw [ix, if_pos h]
theorem invN_le (f : Int → Nat) : ∀ l : List Int, invN f l ≤ l.length * l.length
  | [] => Nat.le_refl _
  | u :: l => by
    have ih := invN_le f l
    have h1 := List.countP_le_length (p := fun v => decide (f v < f u)) (l := l)
    rw [invN, List.length_cons, Nat.add_mul, Nat.mul_add]
    omega
theorem comN_len (old order : List Int) : ∀ i, (comN old order i).length ≤ i
  | 0 => Nat.le_refl _
  | i + 1 => by
    have ih := comN_len old order i
    rw [comN]
    split
    · split
      · rw [List.length_append]; simp; omega
      · omega
    · omega
theorem invF_le (old order : List Int) : Go.Bd.invF old order ≤ order.length * order.length := by
  have h1 := invN_le (fun v => old.idxOf v) (comN old order order.length)
  have h2 := comN_len old order order.length
  exact Nat.le_trans h1 (Nat.mul_le_mul h2 h2)
theorem com_in {old order : List Int} {i : Nat} {v : Int} (h : order[i]? = some v) (hc : v ∈ old ∧ v ∉ order.take i) : comN old order (i + 1) = comN old order i ++ [v] := by rw [comN, h]; exact if_pos hc
theorem com_out {old order : List Int} {i : Nat} {v : Int} (h : order[i]? = some v) (hc : ¬ (v ∈ old ∧ v ∉ order.take i)) : comN old order (i + 1) = comN old order i := by rw [comN, h]; exact if_neg hc
set_option maxHeartbeats 2000000 in
theorem Inversions_spec (old order : List Int) (ho : order.length ≤ 600) : CallsTo Tryz.prog 11 [intsD old, intsD order] (.int (invF old order)) := by
  refine callsTo_of Tryz.func11 rfl (by decide +kernel) (Nat.le_of_ble_eq_true rfl) ?_
  intro hat B X w0
  have hlo := at_len 0 hat rfl
  rw [List.length_map] at hlo
  repeat' first | refine pw_seq ?_ | refine pw_skip ?_ | refine pw_ret ?_ | refine pw_exit ?_ | refine pw_block ?_ | refine pw_region (fun _ => false) hmix ?_ | (refine wpG_split rfl rfl (fun hc => ?_) (fun hc => ?_) <;> try simp only [hcL, reduceCtorEq] at hc) | (refine pw_cond _ rfl rfl (fun hc => ?_) (fun hc => ?_) <;> (try simp only [hcL, reduceCtorEq] at hc) <;> try (exfalso; omega)) | simp (maxSteps := 1000000) (disch := omega) only [go_sem, simprocAttr] | apply And.intro | omega | decide +kernel
  refine pw_ent _ (ent_nil 5 901 1 rfl rfl) ?_
  refine pw_loopI (κ := Nat) (fun (i : Nat) => i ≤ order.length) (fun (i : Nat) => [(0, .d (intsD old)), (1, .d (intsD order)), (5, .ref 901 1 0 (comN old order i).length (comN old order i).length), (14, .d (intsD order)), (15, .int order.length), (16, .int i)]) (fun (i : Nat) => [(901, .row 1 (((comN old order i).map fun v => old.idxOf v).map natD))]) (fun (i : Nat) => order.length - i) 0 ?_ ?_ ?_
  · exact Nat.zero_le _
  · exact eL [] _ _ (by refine ⟨?_, ?_⟩ <;> (repeat' first | exact List.forall_mem_nil _ | refine List.forall_mem_cons.2 ⟨(by first | rfl | (simp (disch := omega) only [go_sem, simprocAttr, inL, comN, List.length_nil, List.map_nil]; first | done | omega | (congr 1; done))), ?_⟩); done)
  · intro i hi
    have hcl := comN_len old order i
    rcases Nat.lt_or_ge i order.length with hlt | hge
    · obtain ⟨v, hv⟩ := get_some hlt
      have h1 := indexX_spec old v
      have h2 := containsI_spec (order.take i) v
      simp only [intsD, List.map_take] at h2
      by_cases c1 : v ∈ old
      · rw [ix_nat c1] at h1
        by_cases c2 : v ∈ order.take i
        · rw [decide_eq_true c2] at h2
          have e1 := com_out (old := old) hv (fun h => h.2 c2)
          repeat' first | refine pw_seq ?_ | refine pw_skip ?_ | refine pw_ret ?_ | refine pw_exit ?_ | refine pw_block ?_ | refine pw_region (fun _ => false) hmix ?_ | (refine rc (h1) rfl ?_ ?_; (· first | rfl | (simp (disch := omega) only [go_sem, simprocAttr, hv]; done))) | (refine rc (h2) rfl ?_ ?_; (· first | rfl | (simp (disch := omega) only [go_sem, simprocAttr, hv]; done))) | (refine wpG_split rfl rfl (fun hc => ?_) (fun hc => ?_) <;> try simp only [hcL, reduceCtorEq] at hc) | (refine pw_cond _ rfl rfl (fun hc => ?_) (fun hc => ?_) <;> (try simp only [hcL, reduceCtorEq] at hc) <;> try (exfalso; omega)) | simp (maxSteps := 1000000) (disch := omega) only [go_sem, simprocAttr, hv] | exact one_int order | apply And.intro | omega | decide +kernel
          refine ⟨i + 1, ?_, eL [] _ _ (by refine ⟨?_, ?_⟩ <;> (repeat' first | exact List.forall_mem_nil _ | refine List.forall_mem_cons.2 ⟨(by first | rfl | (simp (disch := omega) only [go_sem, simprocAttr, inL, e1]; first | done | omega | (congr 1; done))), ?_⟩); done), ?_⟩
          · omega
          · omega
        · rw [decide_eq_false c2] at h2
          have e1 := com_in (old := old) hv ⟨c1, c2⟩
          have htl : (((comN old order i).map fun v => old.idxOf v).map natD).take (comN old order i).length = ((comN old order i).map fun v => old.idxOf v).map natD := List.take_of_length_le (by simp)
          repeat' first | refine pw_seq ?_ | refine pw_skip ?_ | refine pw_ret ?_ | refine pw_exit ?_ | refine pw_block ?_ | refine pw_region (fun _ => false) hmix ?_ | (refine rc (h1) rfl ?_ ?_; (· first | rfl | (simp (disch := omega) only [go_sem, simprocAttr, hv, roomy, htl]; done))) | (refine rc (h2) rfl ?_ ?_; (· first | rfl | (simp (disch := omega) only [go_sem, simprocAttr, hv, roomy, htl]; done))) | (refine wpG_split rfl rfl (fun hc => ?_) (fun hc => ?_) <;> try simp only [hcL, reduceCtorEq] at hc) | (refine pw_cond _ rfl rfl (fun hc => ?_) (fun hc => ?_) <;> (try simp only [hcL, reduceCtorEq] at hc) <;> try (exfalso; omega)) | simp (maxSteps := 1000000) (disch := omega) only [go_sem, simprocAttr, hv, roomy, htl] | (first | exact nat_one _ | exact one_int order) | apply And.intro | omega | decide +kernel
          refine ⟨i + 1, ?_, eL [(901, 37)] _ _ (by refine ⟨?_, ?_⟩ <;> (repeat' first | exact List.forall_mem_nil _ | refine List.forall_mem_cons.2 ⟨(by first | rfl | (simp (disch := omega) only [go_sem, simprocAttr, inL, e1, List.map_append, List.length_append, List.map_cons, List.map_nil, List.length_cons, List.length_nil]; first | done | omega | (congr 1; done))), ?_⟩); done), ?_⟩
          · omega
          · omega
      · have h1' : CallsTo Tryz.prog 28 [intsD old, .int v] (.int (-1)) := by rw [ix, if_neg c1] at h1; exact h1
        have e1 := com_out (old := old) hv (fun h => c1 h.1)
        repeat' first | refine pw_seq ?_ | refine pw_skip ?_ | refine pw_ret ?_ | refine pw_exit ?_ | refine pw_block ?_ | refine pw_region (fun _ => false) hmix ?_ | (refine rc (h1') rfl ?_ ?_; (· first | rfl | (simp (disch := omega) only [go_sem, simprocAttr, hv]; done))) | (refine wpG_split rfl rfl (fun hc => ?_) (fun hc => ?_) <;> try simp only [hcL, reduceCtorEq] at hc) | (refine pw_cond _ rfl rfl (fun hc => ?_) (fun hc => ?_) <;> (try simp only [hcL, reduceCtorEq] at hc) <;> try (exfalso; omega)) | simp (maxSteps := 1000000) (disch := omega) only [go_sem, simprocAttr, hv] | apply And.intro | omega | decide +kernel
        refine ⟨i + 1, ?_, eL [] _ _ (by refine ⟨?_, ?_⟩ <;> (repeat' first | exact List.forall_mem_nil _ | refine List.forall_mem_cons.2 ⟨(by first | rfl | (simp (disch := omega) only [go_sem, simprocAttr, inL, e1]; first | done | omega | (congr 1; done))), ?_⟩); done), ?_⟩
        · omega
        · omega
    · have : i = order.length := by omega
      subst this
      rw [invF]
      generalize comN old order order.length = C at *
      have hbd : ∀ i, invN (fun v => old.idxOf v) (C.take i) ≤ 360000 := fun i => by
        refine Nat.le_trans (invN_le _ _) ?_
        have : (C.take i).length ≤ 600 := by rw [List.length_take]; omega
        exact Nat.le_trans (Nat.mul_le_mul this this) (by decide)
      repeat' first | refine pw_seq ?_ | refine pw_skip ?_ | refine pw_ret ?_ | refine pw_exit ?_ | refine pw_block ?_ | refine pw_region (fun _ => false) hmix ?_ | (refine wpG_split rfl rfl (fun hc => ?_) (fun hc => ?_) <;> try simp only [hcL, reduceCtorEq] at hc) | (refine pw_cond _ rfl rfl (fun hc => ?_) (fun hc => ?_) <;> (try simp only [hcL, reduceCtorEq] at hc) <;> try (exfalso; omega)) | simp (maxSteps := 1000000) (disch := omega) only [go_sem, simprocAttr] | apply And.intro | omega | decide +kernel
      refine pw_loopI (κ := Nat) (fun (i : Nat) => i ≤ C.length) (fun (i : Nat) => [(5, .ref 901 1 0 C.length C.length), (9, .int (invN (fun v => old.idxOf v) (C.take i))), (39, .ref 901 1 0 C.length C.length), (40, .int C.length), (41, .int i)]) (fun (i : Nat) => [(901, .row 1 ((C.map fun v => old.idxOf v).map natD))]) (fun (i : Nat) => C.length - i) 0 ?_ ?_ ?_
      · exact Nat.zero_le _
      · exact eL [] _ _ (by refine ⟨?_, ?_⟩ <;> (repeat' first | exact List.forall_mem_nil _ | refine List.forall_mem_cons.2 ⟨(by first | rfl | (simp (disch := omega) only [go_sem, simprocAttr, inL, List.take_zero, invN]; first | done | omega | (congr 1; done))), ?_⟩); done)
      · intro i hi
        rcases Nat.lt_or_ge i C.length with hlt | hge
        · obtain ⟨v, hv⟩ := get_some hlt
          have e1 : invN (fun v => old.idxOf v) (C.take (i + 1)) = invN (fun v => old.idxOf v) (C.take i) + (C.take i).countP (fun u => decide (old.idxOf v < old.idxOf u)) := by rw [take_snoc hv, Go.Bd.invN_snoc]
          have b1 := hbd i
          have b2 := hbd (i + 1)
          generalize invN (fun v => old.idxOf v) (C.take i) = T at *
          repeat' first | refine pw_seq ?_ | refine pw_skip ?_ | refine pw_ret ?_ | refine pw_exit ?_ | refine pw_block ?_ | refine pw_region (fun _ => false) hmix ?_ | (refine wpG_split rfl rfl (fun hc => ?_) (fun hc => ?_) <;> try simp only [hcL, reduceCtorEq] at hc) | (refine pw_cond _ rfl rfl (fun hc => ?_) (fun hc => ?_) <;> (try simp only [hcL, reduceCtorEq] at hc) <;> try (exfalso; omega)) | simp (maxSteps := 1000000) (disch := omega) only [go_sem, simprocAttr, hv] | apply And.intro | omega | decide +kernel
          refine pw_loopI (κ := Nat) (fun (j : Nat) => j ≤ i) (fun (j : Nat) => [(5, .ref 901 1 0 C.length C.length), (9, .int ((T + ((C.take i).take j).countP (fun u => decide (old.idxOf v < old.idxOf u)) : Nat) : Int)), (11, .int (old.idxOf v)), (39, .ref 901 1 0 C.length C.length), (40, .int C.length), (41, .int i), (48, .ref 901 1 0 i C.length), (49, .int i), (50, .int j)]) (fun (j : Nat) => [(901, .row 1 ((C.map fun v => old.idxOf v).map natD))]) (fun (j : Nat) => i - j) 0 ?_ ?_ ?_
          · exact Nat.zero_le _
          · exact eL [] _ _ (by refine ⟨?_, ?_⟩ <;> (repeat' first | exact List.forall_mem_nil _ | refine List.forall_mem_cons.2 ⟨(by first | rfl | (simp (disch := omega) only [go_sem, simprocAttr, inL, List.take_zero, List.countP_nil, Nat.add_zero, Nat.sub_zero]; first | done | omega | (congr 1; done))), ?_⟩); done)
          · intro j hj
            have b3 := List.countP_le_length (p := fun u => decide (old.idxOf v < old.idxOf u)) (l := (C.take i).take j)
            rw [List.length_take, List.length_take] at b3
            rcases Nat.lt_or_ge j i with hlj | hgj
            · obtain ⟨u, hu⟩ := get_some (l := C) (k := j) (by omega)
              have hu' : (C.take i)[j]? = some u := by rw [List.getElem?_take, if_pos hlj]; exact hu
              have e2 : ((C.take i).take (j + 1)).countP (fun u => decide (old.idxOf v < old.idxOf u)) = ((C.take i).take j).countP (fun u => decide (old.idxOf v < old.idxOf u)) + if old.idxOf v < old.idxOf u then 1 else 0 := by
                rw [take_snoc hu', List.countP_append]; simp [List.countP_cons]
              by_cases c : old.idxOf v < old.idxOf u
              · rw [if_pos c] at e2
                have cI : ((old.idxOf v : Nat) : Int) < ((old.idxOf u : Nat) : Int) := by omega
                repeat' first | refine pw_seq ?_ | refine pw_skip ?_ | refine pw_ret ?_ | refine pw_exit ?_ | refine pw_block ?_ | refine pw_region (fun _ => false) hmix ?_ | (refine wpG_split rfl rfl (fun hc => ?_) (fun hc => ?_) <;> try simp only [hcL, reduceCtorEq] at hc) | (refine pw_cond _ rfl rfl (fun hc => ?_) (fun hc => ?_) <;> (try simp only [hcL, reduceCtorEq] at hc) <;> try (exfalso; omega)) | simp (maxSteps := 1000000) (disch := omega) only [go_sem, simprocAttr, hu, cI] | apply And.intro | omega | decide +kernel
                refine ⟨j + 1, ?_, eL [] _ _ (by refine ⟨?_, ?_⟩ <;> (repeat' first | exact List.forall_mem_nil _ | refine List.forall_mem_cons.2 ⟨(by first | rfl | (simp (disch := omega) only [go_sem, simprocAttr, inL, e2, Int.natCast_add, Int.natCast_one, Int.add_assoc]; first | done | omega | (congr 1; done))), ?_⟩); done), ?_⟩
                · omega
                · omega
              · rw [if_neg c, Nat.add_zero] at e2
                have cI : ¬ ((old.idxOf v : Nat) : Int) < ((old.idxOf u : Nat) : Int) := by omega
                repeat' first | refine pw_seq ?_ | refine pw_skip ?_ | refine pw_ret ?_ | refine pw_exit ?_ | refine pw_block ?_ | refine pw_region (fun _ => false) hmix ?_ | (refine wpG_split rfl rfl (fun hc => ?_) (fun hc => ?_) <;> try simp only [hcL, reduceCtorEq] at hc) | (refine pw_cond _ rfl rfl (fun hc => ?_) (fun hc => ?_) <;> (try simp only [hcL, reduceCtorEq] at hc) <;> try (exfalso; omega)) | simp (maxSteps := 1000000) (disch := omega) only [go_sem, simprocAttr, hu, cI] | apply And.intro | omega | decide +kernel
                refine ⟨j + 1, ?_, eL [] _ _ (by refine ⟨?_, ?_⟩ <;> (repeat' first | exact List.forall_mem_nil _ | refine List.forall_mem_cons.2 ⟨(by first | rfl | (simp (disch := omega) only [go_sem, simprocAttr, inL, e2]; first | done | omega | (congr 1; done))), ?_⟩); done), ?_⟩
                · omega
                · omega
            · have : j = i := by omega
              subst this
              have ht : (C.take j).take j = C.take j := by rw [List.take_take, Nat.min_self]
              repeat' first | refine pw_seq ?_ | refine pw_skip ?_ | refine pw_ret ?_ | refine pw_exit ?_ | refine pw_block ?_ | refine pw_region (fun _ => false) hmix ?_ | (refine wpG_split rfl rfl (fun hc => ?_) (fun hc => ?_) <;> try simp only [hcL, reduceCtorEq] at hc) | (refine pw_cond _ rfl rfl (fun hc => ?_) (fun hc => ?_) <;> (try simp only [hcL, reduceCtorEq] at hc) <;> try (exfalso; omega)) | simp (maxSteps := 1000000) (disch := omega) only [go_sem, simprocAttr] | apply And.intro | omega | decide +kernel
              refine ⟨j + 1, ?_, eL [] _ _ (by refine ⟨?_, ?_⟩ <;> (repeat' first | exact List.forall_mem_nil _ | refine List.forall_mem_cons.2 ⟨(by first | rfl | (simp (disch := omega) only [go_sem, simprocAttr, inL, e1, ht]; first | done | omega | (congr 1; done))), ?_⟩); done), ?_⟩
              · omega
              · omega
        · have : i = C.length := by omega
          subst this
          rw [List.take_length]
          repeat' first | refine pw_seq ?_ | refine pw_skip ?_ | refine pw_ret ?_ | refine pw_exit ?_ | refine pw_block ?_ | refine pw_region (fun _ => false) hmix ?_ | (refine wpG_split rfl rfl (fun hc => ?_) (fun hc => ?_) <;> try simp only [hcL, reduceCtorEq] at hc) | (refine pw_cond _ rfl rfl (fun hc => ?_) (fun hc => ?_) <;> (try simp only [hcL, reduceCtorEq] at hc) <;> try (exfalso; omega)) | simp (maxSteps := 1000000) (disch := omega) only [go_sem, simprocAttr] | apply And.intro | omega | decide +kernel
          exact int_some rfl
end Go.Proofs.YtelghbnlceeecaaGreat
