/- Lanes: whether the numbers fit, as the reference decides it. -/
import Derived.Test.YtelghbnlceeecaaRtB
import Derived.Test.YtelghbnlceeecaaPSFam
import Derived.Test.YtelghbnlceeecaaE
namespace Go.Proofs.Ytelghbnlceeecaa
open Go Go.PS Go.Proofs
set_option maxRecDepth 100000
set_option linter.unusedSimpArgs false
set_option linter.unusedVariables false
attribute [local irreducible] wpRun wpG CallsTo CallsM

theorem ptOk_co (u v : Int) : ptOk (u, v) = (!coB u && !coB v) := by
  rw [Bool.eq_iff_iff]
  simp only [ptOk, coB, decide_eq_true_eq, Bool.and_eq_true, Bool.not_eq_true', Bool.or_eq_false_iff, decide_eq_false_iff_not]
  omega
theorem coB_zero : coB 0 = false := by decide
theorem ranks_all {a : Lv} (h : validF a = true) : (ranksF a.2.1).isSome = true ∧ ((ranksF a.2.1).getD []) = rowR (tot a.2.1) a.2.1 := by
  obtain ⟨_, _, hr⟩ := valid_built h
  obtain ⟨_, _, _, ho⟩ := ranks_ok hr
  rw [hr]; exact ⟨rfl, ho⟩
set_option maxHeartbeats 4000000 in
theorem right_spec (a : Lv) (x t b : List Int) (hw : wide a) : CallsTo Try.prog 35 [lvD a, intsD x, intsD t, intsD b] (.bool (rightF a x t b)) := by
  have hv := rLvValid_spec a hw
  rw [← valid_same] at hv
  rw [rightF]
  rcases h : validF a with _ | _ <;> rw [h] at hv
  · refine callsTo_of Try.func35 rfl (by decide +kernel) (Nat.le_of_ble_eq_true rfl) ?_
    intro hat B X w0
    repeat' first
      | refine pw_seq ?_
      | refine pw_skip ?_
      | refine pw_ret ?_
      | refine pw_exit ?_
      | refine pw_block ?_
      | refine pw_region (fun _ => false) hmix ?_
      | (refine rc (hv) rfl ?_ ?_; (· first | rfl | (simp (disch := omega) only [go_sem, simprocAttr, List.append_eq]; done)))
      | (refine wpG_split rfl rfl (fun hc => ?_) (fun hc => ?_) <;> try simp only [hcL, reduceCtorEq] at hc)
      | (refine pw_cond _ rfl rfl (fun hc => ?_) (fun hc => ?_) <;> (try simp only [hcL, reduceCtorEq] at hc) <;> try (exfalso; omega))
      | simp (maxSteps := 1000000) (disch := omega) only [go_sem, simprocAttr, List.append_eq]
      | apply And.intro
      | omega
      | decide +kernel
    exact bool_some rfl
  · obtain ⟨t1, t2⟩ := lv_le h
    have hr := Ranks_spec a hw
    obtain ⟨r1, r2⟩ := ranks_all h
    rw [r1, r2] at hr
    have hrl := rowR_len (tot a.2.1) a.2.1
    generalize rowR (tot a.2.1) a.2.1 = R at hr hrl
    rw [lensB]
    obtain ⟨n, ls, ar, cs⟩ := a
    dsimp only at t1 t2 hv hr hrl ⊢
    refine callsTo_of Try.func35 rfl (by decide +kernel) (Nat.le_of_ble_eq_true rfl) ?_
    intro hat B X w0
    have hx := at_len 1 hat rfl
    have ht := at_len 2 hat rfl
    have hb := at_len 3 hat rfl
    rw [List.length_map] at hx ht hb
    by_cases c : x.length = tot ls ∧ t.length = ls.length ∧ b.length = ls.length
    · obtain ⟨ca, cb, cc⟩ := c
      have caI : (x.length : Int) = R.length := by omega
      have cbI : (t.length : Int) = ls.length := by omega
      have ccI : (b.length : Int) = ls.length := by omega
      repeat' first
        | refine pw_seq ?_
        | refine pw_skip ?_
        | refine pw_ret ?_
        | refine pw_exit ?_
        | refine pw_block ?_
        | refine pw_region (fun _ => false) hmix ?_
        | (refine rc (hv) rfl ?_ ?_; (· first | rfl | (simp (disch := omega) only [go_sem, simprocAttr, List.append_eq, caI, cbI, ccI]; done)))
        | (refine rc (hr) rfl ?_ ?_; (· first | rfl | (simp (disch := omega) only [go_sem, simprocAttr, List.append_eq, caI, cbI, ccI]; done)))
        | (refine wpG_split rfl rfl (fun hc => ?_) (fun hc => ?_) <;> try simp only [hcL, reduceCtorEq] at hc)
        | (refine pw_cond _ rfl rfl (fun hc => ?_) (fun hc => ?_) <;> (try simp only [hcL, reduceCtorEq] at hc) <;> try (exfalso; omega))
        | simp (maxSteps := 1000000) (disch := omega) only [go_sem, simprocAttr, List.append_eq, caI, cbI, ccI]
        | apply And.intro
        | omega
        | decide +kernel
      refine pw_loopI (κ := Nat) (fun (k : Nat) => k ≤ x.length ∧ ∀ (j : Nat) y, j < k → x[j]? = some y → coB y = false) (fun (k : Nat) => [(1, .d (intsD x)), (2, .d (intsD t)), (3, .d (intsD b)), (4, .ptr 4 0 0 0), (11, .int k)]) (fun (k : Nat) => [(4, .cells [.int n, .d (listsD ls), .d (arcsD ar), .d (listsD cs)])]) (fun (k : Nat) => x.length - k) 0 ?_ ?_ ?_
      · exact ⟨Nat.zero_le _, fun j y hj => by omega⟩
      · exact eL [] _ _ (by refine ⟨?_, ?_⟩ <;> (repeat' first | exact List.forall_mem_nil _ | refine List.forall_mem_cons.2 ⟨(by first | rfl | (simp (disch := omega) only [go_sem, simprocAttr, inL]; first | done | omega | (congr 1; done))), ?_⟩); done)
      · rintro k ⟨hk, hinv⟩
        rcases Nat.lt_or_ge k x.length with hlt | hge
        · obtain ⟨y, hy⟩ := get_some hlt
          have hp := Point_spec (y, 0)
          rw [ptOk_co, coB_zero] at hp
          rcases hco : coB y with _ | _ <;> rw [hco] at hp
          · repeat' first
              | refine pw_seq ?_
              | refine pw_skip ?_
              | refine pw_ret ?_
              | refine pw_exit ?_
              | refine pw_block ?_
              | refine pw_region (fun _ => false) hmix ?_
              | (refine rc (hp) rfl ?_ ?_; (· first | rfl | (simp (disch := omega) only [go_sem, simprocAttr, hy]; done)))
              | (refine wpG_split rfl rfl (fun hc => ?_) (fun hc => ?_) <;> try simp only [hcL, reduceCtorEq] at hc)
              | (refine pw_cond _ rfl rfl (fun hc => ?_) (fun hc => ?_) <;> (try simp only [hcL, reduceCtorEq] at hc) <;> try (exfalso; omega))
              | simp (maxSteps := 1000000) (disch := omega) only [go_sem, simprocAttr, hy]
              | apply And.intro
              | omega
              | decide +kernel
            refine ⟨k + 1, ?_, eL [] _ _ (by refine ⟨?_, ?_⟩ <;> (repeat' first | exact List.forall_mem_nil _ | refine List.forall_mem_cons.2 ⟨(by first | rfl | (simp (disch := omega) only [go_sem, simprocAttr, inL]; first | done | omega | (congr 1; done))), ?_⟩); done), ?_⟩
            · exact ⟨by omega, upto_succ hinv hy hco⟩
            · omega
          · repeat' first
              | refine pw_seq ?_
              | refine pw_skip ?_
              | refine pw_ret ?_
              | refine pw_exit ?_
              | refine pw_block ?_
              | refine pw_region (fun _ => false) hmix ?_
              | (refine rc (hp) rfl ?_ ?_; (· first | rfl | (simp (disch := omega) only [go_sem, simprocAttr, hy]; done)))
              | (refine wpG_split rfl rfl (fun hc => ?_) (fun hc => ?_) <;> try simp only [hcL, reduceCtorEq] at hc)
              | (refine pw_cond _ rfl rfl (fun hc => ?_) (fun hc => ?_) <;> (try simp only [hcL, reduceCtorEq] at hc) <;> try (exfalso; omega))
              | simp (maxSteps := 1000000) (disch := omega) only [go_sem, simprocAttr, hy]
              | apply And.intro
              | omega
              | decide +kernel
            refine bool_some ?_
            rw [any_at hy hco]; simp
        · have : k = x.length := by omega
          subst this
          try dsimp only
          have hxa : x.any coB = false := any_no fun j y hj => hinv j y hj
          rw [hxa]
          repeat' first
            | refine pw_seq ?_
            | refine pw_skip ?_
            | refine pw_ret ?_
            | refine pw_exit ?_
            | refine pw_block ?_
            | refine pw_region (fun _ => false) hmix ?_
            | (refine wpG_split rfl rfl (fun hc => ?_) (fun hc => ?_) <;> try simp only [hcL, reduceCtorEq] at hc)
            | (refine pw_cond _ rfl rfl (fun hc => ?_) (fun hc => ?_) <;> (try simp only [hcL, reduceCtorEq] at hc) <;> try (exfalso; omega))
            | simp (maxSteps := 1000000) (disch := omega) only [go_sem, simprocAttr]
            | apply And.intro
            | omega
            | decide +kernel
          refine pw_loopI (κ := Nat) (fun (k : Nat) => k ≤ t.length ∧ ∀ j, j < k → wrongAt t b j = false) (fun (k : Nat) => [(2, .d (intsD t)), (3, .d (intsD b)), (12, .int k)]) (fun (k : Nat) => []) (fun (k : Nat) => t.length - k) 0 ?_ ?_ ?_
          · exact ⟨Nat.zero_le _, fun j hj => by omega⟩
          · exact eL [] _ _ (by refine ⟨?_, ?_⟩ <;> (repeat' first | exact List.forall_mem_nil _ | refine List.forall_mem_cons.2 ⟨(by first | rfl | (simp (disch := omega) only [go_sem, simprocAttr, inL]; first | done | omega | (congr 1; done))), ?_⟩); done)
          · rintro k ⟨hk, hinv⟩
            rcases Nat.lt_or_ge k t.length with hlt | hge
            · have g1 := at0_at hlt
              have g2 := at0_at (r := b) (i := k) (by omega)
              have hp := Point_spec (at0 t (k : Int), at0 b (k : Int))
              rw [ptOk_co] at hp
              rcases hco : (coB (at0 t (k : Int)) || coB (at0 b (k : Int))) with _ | _
              · rw [← Bool.not_or, hco] at hp
                have hwr : wrongAt t b k = upB t b k := by rw [wrongAt, hco]; rfl
                rcases k with _ | k
                · have hu : upB t b 0 = decide (at0 b 0 < at0 t 0) := by simp [upB]
                  have g1 : t[0]? = some (at0 t 0) := g1
                  have g2 : b[0]? = some (at0 b 0) := g2
                  have hp : CallsTo Try.prog 67 [ptD (at0 t 0, at0 b 0)] (.bool (!false)) := hp
                  by_cases d1 : at0 b 0 < at0 t 0
                  · repeat' first
                      | refine pw_seq ?_
                      | refine pw_skip ?_
                      | refine pw_ret ?_
                      | refine pw_exit ?_
                      | refine pw_block ?_
                      | refine pw_region (fun _ => false) hmix ?_
                      | (refine rc (hp) rfl ?_ ?_; (· first | rfl | (simp (disch := omega) only [go_sem, simprocAttr, List.append_eq, g1, g2, d1]; done)))
                      | (refine wpG_split rfl rfl (fun hc => ?_) (fun hc => ?_) <;> try simp only [hcL, reduceCtorEq] at hc)
                      | (refine pw_cond _ rfl rfl (fun hc => ?_) (fun hc => ?_) <;> (try simp only [hcL, reduceCtorEq] at hc) <;> try (exfalso; omega))
                      | simp (maxSteps := 1000000) (disch := omega) only [go_sem, simprocAttr, List.append_eq, g1, g2, d1]
                      | apply And.intro
                      | omega
                      | decide +kernel
                    refine bool_some ?_
                    rw [rangeAny_true (k := 0) (by omega) (by rw [hwr, hu, decide_eq_true d1])]; simp
                  · repeat' first
                      | refine pw_seq ?_
                      | refine pw_skip ?_
                      | refine pw_ret ?_
                      | refine pw_exit ?_
                      | refine pw_block ?_
                      | refine pw_region (fun _ => false) hmix ?_
                      | (refine rc (hp) rfl ?_ ?_; (· first | rfl | (simp (disch := omega) only [go_sem, simprocAttr, List.append_eq, g1, g2, d1]; done)))
                      | (refine wpG_split rfl rfl (fun hc => ?_) (fun hc => ?_) <;> try simp only [hcL, reduceCtorEq] at hc)
                      | (refine pw_cond _ rfl rfl (fun hc => ?_) (fun hc => ?_) <;> (try simp only [hcL, reduceCtorEq] at hc) <;> try (exfalso; omega))
                      | simp (maxSteps := 1000000) (disch := omega) only [go_sem, simprocAttr, List.append_eq, g1, g2, d1]
                      | apply And.intro
                      | omega
                      | decide +kernel
                    refine ⟨1, ?_, eL [] _ _ (by refine ⟨?_, ?_⟩ <;> (repeat' first | exact List.forall_mem_nil _ | refine List.forall_mem_cons.2 ⟨(by first | rfl | (simp (disch := omega) only [go_sem, simprocAttr, inL]; first | done | omega | (congr 1; done))), ?_⟩); done), ?_⟩
                    · exact ⟨by omega, below_succ hinv (by rw [hwr, hu, decide_eq_false d1])⟩
                    · omega
                · have g3 := at0_at (r := b) (i := k) (by omega)
                  have ek : ((k + 1 : Nat) : Int) - 1 = k := by omega
                  have ek0 : (0 : Int) < ((k + 1 : Nat) : Int) := by omega
                  have hu : upB t b (k + 1) = (decide (at0 b ((k + 1 : Nat) : Int) < at0 t ((k + 1 : Nat) : Int)) || decide (at0 t ((k + 1 : Nat) : Int) < at0 b (k : Int))) := by simp [upB]
                  by_cases d1 : at0 b ((k + 1 : Nat) : Int) < at0 t ((k + 1 : Nat) : Int)
                  · repeat' first
                      | refine pw_seq ?_
                      | refine pw_skip ?_
                      | refine pw_ret ?_
                      | refine pw_exit ?_
                      | refine pw_block ?_
                      | refine pw_region (fun _ => false) hmix ?_
                      | (refine rc (hp) rfl ?_ ?_; (· first | rfl | (simp (disch := omega) only [go_sem, simprocAttr, List.append_eq, g1, g2, d1]; done)))
                      | (refine wpG_split rfl rfl (fun hc => ?_) (fun hc => ?_) <;> try simp only [hcL, reduceCtorEq] at hc)
                      | (refine pw_cond _ rfl rfl (fun hc => ?_) (fun hc => ?_) <;> (try simp only [hcL, reduceCtorEq] at hc) <;> try (exfalso; omega))
                      | simp (maxSteps := 1000000) (disch := omega) only [go_sem, simprocAttr, List.append_eq, g1, g2, d1]
                      | apply And.intro
                      | omega
                      | decide +kernel
                    refine bool_some ?_
                    rw [rangeAny_true hlt (by rw [hwr, hu, decide_eq_true d1]; rfl)]; simp
                  · by_cases d2 : at0 t ((k + 1 : Nat) : Int) < at0 b (k : Int)
                    · repeat' first
                        | refine pw_seq ?_
                        | refine pw_skip ?_
                        | refine pw_ret ?_
                        | refine pw_exit ?_
                        | refine pw_block ?_
                        | refine pw_region (fun _ => false) hmix ?_
                        | (refine rc (hp) rfl ?_ ?_; (· first | rfl | (simp (disch := omega) only [go_sem, simprocAttr, List.append_eq, g1, g2, g3, d1, d2, ek, ek0]; done)))
                        | (refine wpG_split rfl rfl (fun hc => ?_) (fun hc => ?_) <;> try simp only [hcL, reduceCtorEq] at hc)
                        | (refine pw_cond _ rfl rfl (fun hc => ?_) (fun hc => ?_) <;> (try simp only [hcL, reduceCtorEq] at hc) <;> try (exfalso; omega))
                        | simp (maxSteps := 1000000) (disch := omega) only [go_sem, simprocAttr, List.append_eq, g1, g2, g3, d1, d2, ek, ek0]
                        | apply And.intro
                        | omega
                        | decide +kernel
                      refine bool_some ?_
                      rw [rangeAny_true hlt (by rw [hwr, hu, decide_eq_true d2, Bool.or_true])]; simp
                    · repeat' first
                        | refine pw_seq ?_
                        | refine pw_skip ?_
                        | refine pw_ret ?_
                        | refine pw_exit ?_
                        | refine pw_block ?_
                        | refine pw_region (fun _ => false) hmix ?_
                        | (refine rc (hp) rfl ?_ ?_; (· first | rfl | (simp (disch := omega) only [go_sem, simprocAttr, List.append_eq, g1, g2, g3, d1, d2, ek, ek0]; done)))
                        | (refine wpG_split rfl rfl (fun hc => ?_) (fun hc => ?_) <;> try simp only [hcL, reduceCtorEq] at hc)
                        | (refine pw_cond _ rfl rfl (fun hc => ?_) (fun hc => ?_) <;> (try simp only [hcL, reduceCtorEq] at hc) <;> try (exfalso; omega))
                        | simp (maxSteps := 1000000) (disch := omega) only [go_sem, simprocAttr, List.append_eq, g1, g2, g3, d1, d2, ek, ek0]
                        | apply And.intro
                        | omega
                        | decide +kernel
                      refine ⟨k + 1 + 1, ?_, eL [] _ _ (by refine ⟨?_, ?_⟩ <;> (repeat' first | exact List.forall_mem_nil _ | refine List.forall_mem_cons.2 ⟨(by first | rfl | (simp (disch := omega) only [go_sem, simprocAttr, inL]; first | done | omega | (congr 1; done))), ?_⟩); done), ?_⟩
                      · exact ⟨by omega, below_succ hinv (by rw [hwr, hu, decide_eq_false d1, decide_eq_false d2]; rfl)⟩
                      · omega
              · rw [← Bool.not_or, hco] at hp
                repeat' first
                  | refine pw_seq ?_
                  | refine pw_skip ?_
                  | refine pw_ret ?_
                  | refine pw_exit ?_
                  | refine pw_block ?_
                  | refine pw_region (fun _ => false) hmix ?_
                  | (refine rc (hp) rfl ?_ ?_; (· first | rfl | (simp (disch := omega) only [go_sem, simprocAttr, List.append_eq, g1, g2]; done)))
                  | (refine wpG_split rfl rfl (fun hc => ?_) (fun hc => ?_) <;> try simp only [hcL, reduceCtorEq] at hc)
                  | (refine pw_cond _ rfl rfl (fun hc => ?_) (fun hc => ?_) <;> (try simp only [hcL, reduceCtorEq] at hc) <;> try (exfalso; omega))
                  | simp (maxSteps := 1000000) (disch := omega) only [go_sem, simprocAttr, List.append_eq, g1, g2]
                  | apply And.intro
                  | omega
                  | decide +kernel
                refine bool_some ?_
                rw [rangeAny_true hlt (by rw [wrongAt, hco]; rfl)]; simp
            · repeat' first
                | refine pw_seq ?_
                | refine pw_skip ?_
                | refine pw_ret ?_
                | refine pw_exit ?_
                | refine pw_block ?_
                | refine pw_region (fun _ => false) hmix ?_
                | (refine wpG_split rfl rfl (fun hc => ?_) (fun hc => ?_) <;> try simp only [hcL, reduceCtorEq] at hc)
                | (refine pw_cond _ rfl rfl (fun hc => ?_) (fun hc => ?_) <;> (try simp only [hcL, reduceCtorEq] at hc) <;> try (exfalso; omega))
                | simp (maxSteps := 1000000) (disch := omega) only [go_sem, simprocAttr]
                | apply And.intro
                | omega
                | decide +kernel
              refine bool_some ?_
              rw [rangeAny_false (fun j hj => hinv j (by omega)), decide_eq_true ⟨ca, cb, cc⟩]; rfl
    · rw [decide_eq_false c]
      repeat' first
        | refine pw_seq ?_
        | refine pw_skip ?_
        | refine pw_ret ?_
        | refine pw_exit ?_
        | refine pw_block ?_
        | refine pw_region (fun _ => false) hmix ?_
        | (refine rc (hv) rfl ?_ ?_; (· first | rfl | (simp (disch := omega) only [go_sem, simprocAttr, List.append_eq]; done)))
        | (refine rc (hr) rfl ?_ ?_; (· first | rfl | (simp (disch := omega) only [go_sem, simprocAttr, List.append_eq]; done)))
        | (refine wpG_split rfl rfl (fun hc => ?_) (fun hc => ?_) <;> try simp only [hcL, reduceCtorEq] at hc)
        | (refine pw_cond _ rfl rfl (fun hc => ?_) (fun hc => ?_) <;> (try simp only [hcL, reduceCtorEq] at hc) <;> try (exfalso; omega))
        | simp (maxSteps := 1000000) (disch := omega) only [go_sem, simprocAttr, List.append_eq]
        | apply And.intro
        | omega
        | decide +kernel
      all_goals exact bool_some (by simp)
end Go.Proofs.Ytelghbnlceeecaa
namespace Go.Proofs.Ytelghbnlceeecaa
open Go Go.PS Go.Proofs
set_option maxRecDepth 100000
set_option linter.unusedSimpArgs false
set_option linter.unusedVariables false
attribute [local irreducible] wpRun wpG CallsTo CallsM

theorem pt_cells (l : List Pt) : ∀ d, d ∈ l.map ptD → d.cells.length = 2 := cells_map ptD 2 (fun _ => rfl) l
theorem pt_one (p : Pt) : ∀ d, d ∈ [ptD p] → d.cells.length = 2 := fun d hd => by rw [List.mem_singleton.1 hd]; rfl
set_option maxHeartbeats 1000000 in
theorem add_spec (l : List Pt) (p : Pt) (hl : l.length ≤ 2000) : CallsM Try.prog 33 [.d (ptD p), .ptr 1000 0 0 0] [(1000, .cells [.ref 1001 2 0 l.length l.length]), (1001, .row 2 (l.map ptD)), (2000, .dead)] (.tup [])
    [(1000, .cells [.ref 2000 2 0 (stepP l p).length (stepP l p).length]), (1001, .gone), (2000, .row 2 ((stepP l p).map ptD))] := by
  rw [stepP]
  rcases List.eq_nil_or_concat l with rfl | ⟨m, q, rfl⟩
  · rw [if_neg (by simp)]
    refine callsM_of Try.func33 rfl (by decide +kernel) (Nat.le_of_ble_eq_true rfl) rfl (nodup_of rfl) rfl rfl rfl ?_
    intro B X w0
    refine pw_post ?_
    repeat' first
      | refine pw_seq ?_
      | refine pw_skip ?_
      | refine pw_ret ?_
      | refine pw_exit ?_
      | refine pw_block ?_
      | refine pw_region (fun _ => false) hmix ?_
      | (refine wpG_split rfl rfl (fun hc => ?_) (fun hc => ?_) <;> try simp only [hcL, reduceCtorEq] at hc)
      | (refine pw_cond _ rfl rfl (fun hc => ?_) (fun hc => ?_) <;> (try simp only [hcL, reduceCtorEq] at hc) <;> try (exfalso; omega))
      | simp (maxSteps := 1000000) (disch := omega) only [go_sem, simprocAttr, roomy]
      | exact pt_one p
      | apply And.intro
      | omega
      | decide +kernel
    refine ⟨_, entL_iff.1 (eL [(2000, 19)] [] [(1000, .cells [.ref 2000 2 0 1 1]), (1001, .gone), (2000, .row 2 [ptD p])] (by refine ⟨?_, ?_⟩ <;> (repeat' first | exact List.forall_mem_nil _ | refine List.forall_mem_cons.2 ⟨(by first | rfl | (simp (disch := omega) only [go_sem, simprocAttr, inL]; first | done | omega | (congr 1; done))), ?_⟩); done)), ?_⟩
    exact ⟨⟨[], rfl, trivial⟩, List.forall_mem_cons.2 ⟨rfl, List.forall_mem_cons.2 ⟨rfl, List.forall_mem_cons.2 ⟨rfl, List.forall_mem_nil _⟩⟩⟩⟩
  · have hg : (m ++ [q])[m.length]? = some q := by simp
    have hlen : (m ++ [q]).length = m.length + 1 := by simp
    rw [List.concat_eq_append] at hl ⊢
    have hgl : (m ++ [q]).getLast? = some q := by simp
    rw [hgl]
    have hne : (m ++ [q]).length ≠ 0 := by omega
    have en : (((m.length + 1 : Nat) : Int) - 1).toNat = m.length := by omega
    by_cases c : q = p
    · subst c
      rw [if_pos rfl]
      generalize m ++ [q] = L at *
      refine callsM_of Try.func33 rfl (by decide +kernel) (Nat.le_of_ble_eq_true rfl) rfl (nodup_of rfl) rfl rfl rfl ?_
      intro B X w0
      refine pw_post ?_
      repeat' first
        | refine pw_seq ?_
        | refine pw_skip ?_
        | refine pw_ret ?_
        | refine pw_exit ?_
        | refine pw_block ?_
        | refine pw_region (fun _ => false) hmix ?_
        | (refine wpG_split rfl rfl (fun hc => ?_) (fun hc => ?_) <;> try simp only [hcL, reduceCtorEq] at hc)
        | (refine pw_cond _ rfl rfl (fun hc => ?_) (fun hc => ?_) <;> (try simp only [hcL, reduceCtorEq] at hc) <;> try (exfalso; omega))
        | simp (maxSteps := 1000000) (disch := omega) only [go_sem, simprocAttr, hlen, hg, en]
        | apply And.intro
        | omega
        | decide +kernel
      refine ⟨_, ent_move 1001 2000 rfl (by decide) (by decide), ?_⟩
      exact ⟨⟨[], rfl, trivial⟩, List.forall_mem_cons.2 ⟨by simp [mvG, upd, obOf, Ob.ren, PV.ren], List.forall_mem_cons.2 ⟨rfl, List.forall_mem_cons.2 ⟨by simp [mvG, upd, obOf, Ob.ren, PV.ren], List.forall_mem_nil _⟩⟩⟩⟩
    · rw [if_neg (by simpa using c)]
      have hd : (decide (q.1 = p.1) && decide (q.2 = p.2)) = false := by rw [ptEq]; exact decide_eq_false c
      generalize m ++ [q] = L at *
      refine callsM_of Try.func33 rfl (by decide +kernel) (Nat.le_of_ble_eq_true rfl) rfl (nodup_of rfl) rfl rfl rfl ?_
      intro B X w0
      refine pw_post ?_
      repeat' first
        | refine pw_seq ?_
        | refine pw_skip ?_
        | refine pw_ret ?_
        | refine pw_exit ?_
        | refine pw_block ?_
        | refine pw_region (fun _ => false) hmix ?_
        | (refine wpG_split rfl rfl (fun hc => ?_) (fun hc => ?_) <;> try simp only [hcL, reduceCtorEq] at hc)
        | (refine pw_cond _ rfl rfl (fun hc => ?_) (fun hc => ?_) <;> (try simp only [hcL, reduceCtorEq] at hc) <;> try (exfalso; omega))
        | simp (maxSteps := 1000000) (disch := omega) only [go_sem, simprocAttr, hlen, hg, en, hd, roomy]
        | exact pt_one p
        | apply And.intro
        | omega
        | decide +kernel
      refine ⟨_, entL_iff.1 (eL [(2000, 19)] [] [(1000, .cells [.ref 2000 2 0 (L ++ [p]).length (L ++ [p]).length]), (1001, .gone), (2000, .row 2 ((L ++ [p]).map ptD))] (by refine ⟨?_, ?_⟩ <;> (repeat' first | exact List.forall_mem_nil _ | refine List.forall_mem_cons.2 ⟨(by first | rfl | (simp (disch := omega) only [go_sem, simprocAttr, inL, List.map_append, List.length_append, List.length_cons, List.length_nil, List.map_cons, List.map_nil, ← hlen, List.take_length, take_map_len]; first | done | omega | (congr 1; done))), ?_⟩); done)), ?_⟩
      exact ⟨⟨[], rfl, trivial⟩, List.forall_mem_cons.2 ⟨rfl, List.forall_mem_cons.2 ⟨rfl, List.forall_mem_cons.2 ⟨rfl, List.forall_mem_nil _⟩⟩⟩⟩
set_option maxHeartbeats 1000000 in
theorem with_spec (l : List Pt) (p : Pt) (hl : l.length ≤ 2000) : CallsM Try.prog 37 [.ref 1000 2 0 l.length l.length, .d (ptD p)] [(1000, .row 2 (l.map ptD)), (2000, .dead)] (.ref 2000 2 0 (stepP l p).length (stepP l p).length)
    [(1000, .gone), (2000, .row 2 ((stepP l p).map ptD))] := by
  rw [stepP]
  rcases List.eq_nil_or_concat l with rfl | ⟨m, q, rfl⟩
  · rw [if_neg (by simp)]
    refine callsM_of Try.func37 rfl (by decide +kernel) (Nat.le_of_ble_eq_true rfl) rfl (nodup_of rfl) rfl rfl rfl ?_
    intro B X w0
    refine pw_post ?_
    repeat' first
      | refine pw_seq ?_
      | refine pw_skip ?_
      | refine pw_ret ?_
      | refine pw_exit ?_
      | refine pw_block ?_
      | refine pw_region (fun _ => false) hmix ?_
      | (refine wpG_split rfl rfl (fun hc => ?_) (fun hc => ?_) <;> try simp only [hcL, reduceCtorEq] at hc)
      | (refine pw_cond _ rfl rfl (fun hc => ?_) (fun hc => ?_) <;> (try simp only [hcL, reduceCtorEq] at hc) <;> try (exfalso; omega))
      | simp (maxSteps := 1000000) (disch := omega) only [go_sem, simprocAttr, roomy]
      | exact pt_one p
      | apply And.intro
      | omega
      | decide +kernel
    refine ⟨_, entL_iff.1 (eL [(2000, 22)] [(4, .ref 2000 2 0 1 1)] [(1000, .gone), (2000, .row 2 [ptD p])] (by refine ⟨?_, ?_⟩ <;> (repeat' first | exact List.forall_mem_nil _ | refine List.forall_mem_cons.2 ⟨(by first | rfl | (simp (disch := omega) only [go_sem, simprocAttr, inL]; first | done | omega | (congr 1; done))), ?_⟩); done)), ?_⟩
    exact ⟨rfl, List.forall_mem_cons.2 ⟨rfl, List.forall_mem_cons.2 ⟨rfl, List.forall_mem_nil _⟩⟩⟩
  · have hg : (m ++ [q])[m.length]? = some q := by simp
    have hlen : (m ++ [q]).length = m.length + 1 := by simp
    rw [List.concat_eq_append] at hl ⊢
    have hgl : (m ++ [q]).getLast? = some q := by simp
    rw [hgl]
    have hne : (m ++ [q]).length ≠ 0 := by omega
    have en : (((m.length + 1 : Nat) : Int) - 1).toNat = m.length := by omega
    by_cases c : q = p
    · subst c
      rw [if_pos rfl]
      generalize m ++ [q] = L at *
      refine callsM_of Try.func37 rfl (by decide +kernel) (Nat.le_of_ble_eq_true rfl) rfl (nodup_of rfl) rfl rfl rfl ?_
      intro B X w0
      refine pw_post ?_
      repeat' first
        | refine pw_seq ?_
        | refine pw_skip ?_
        | refine pw_ret ?_
        | refine pw_exit ?_
        | refine pw_block ?_
        | refine pw_region (fun _ => false) hmix ?_
        | (refine wpG_split rfl rfl (fun hc => ?_) (fun hc => ?_) <;> try simp only [hcL, reduceCtorEq] at hc)
        | (refine pw_cond _ rfl rfl (fun hc => ?_) (fun hc => ?_) <;> (try simp only [hcL, reduceCtorEq] at hc) <;> try (exfalso; omega))
        | simp (maxSteps := 1000000) (disch := omega) only [go_sem, simprocAttr, hlen, hg, en]
        | apply And.intro
        | omega
        | decide +kernel
      refine ⟨_, ent_move 1000 2000 rfl (by decide) (by decide), ?_⟩
      exact ⟨by simp [mvG, upd, obOf, Ob.ren, PV.ren, ResM, ResIsM, hlen], List.forall_mem_cons.2 ⟨rfl, List.forall_mem_cons.2 ⟨by simp [mvG, upd, obOf, Ob.ren, PV.ren], List.forall_mem_nil _⟩⟩⟩
    · rw [if_neg (by simpa using c)]
      have hd : (decide (q.1 = p.1) && decide (q.2 = p.2)) = false := by rw [ptEq]; exact decide_eq_false c
      generalize m ++ [q] = L at *
      refine callsM_of Try.func37 rfl (by decide +kernel) (Nat.le_of_ble_eq_true rfl) rfl (nodup_of rfl) rfl rfl rfl ?_
      intro B X w0
      refine pw_post ?_
      repeat' first
        | refine pw_seq ?_
        | refine pw_skip ?_
        | refine pw_ret ?_
        | refine pw_exit ?_
        | refine pw_block ?_
        | refine pw_region (fun _ => false) hmix ?_
        | (refine wpG_split rfl rfl (fun hc => ?_) (fun hc => ?_) <;> try simp only [hcL, reduceCtorEq] at hc)
        | (refine pw_cond _ rfl rfl (fun hc => ?_) (fun hc => ?_) <;> (try simp only [hcL, reduceCtorEq] at hc) <;> try (exfalso; omega))
        | simp (maxSteps := 1000000) (disch := omega) only [go_sem, simprocAttr, hlen, hg, en, hd, roomy]
        | exact pt_one p
        | apply And.intro
        | omega
        | decide +kernel
      refine ⟨_, entL_iff.1 (eL [(2000, 22)] [(4, .ref 2000 2 0 (L ++ [p]).length (L ++ [p]).length)] [(1000, .gone), (2000, .row 2 ((L ++ [p]).map ptD))] (by refine ⟨?_, ?_⟩ <;> (repeat' first | exact List.forall_mem_nil _ | refine List.forall_mem_cons.2 ⟨(by first | rfl | (simp (disch := omega) only [go_sem, simprocAttr, inL, List.map_append, List.length_append, List.length_cons, List.length_nil, List.map_cons, List.map_nil, ← hlen, List.take_length, take_map_len]; first | done | omega | (congr 1; done))), ?_⟩); done)), ?_⟩
      exact ⟨rfl, List.forall_mem_cons.2 ⟨rfl, List.forall_mem_cons.2 ⟨rfl, List.forall_mem_nil _⟩⟩⟩
end Go.Proofs.Ytelghbnlceeecaa
namespace Go.Proofs.Ytelghbnlceeecaa
open Go Go.PS Go.Proofs
set_option maxRecDepth 100000
set_option linter.unusedSimpArgs false
set_option linter.unusedVariables false
attribute [local irreducible] wpRun wpG CallsTo CallsM

def lanesF (a : Lv) (x t b : List Int) (e : Int) : List Pn × Int :=
  if fitsF a x t b = false then ([], 1) else if e < 0 ∨ (a.2.2.2.length : Int) ≤ e then ([], 3)
  else (pathN ((a.2.2.2[e.toNat]?).getD []) x t b (layI a.2.1 (at0 ((a.2.2.2[e.toNat]?).getD []) 0)).toNat ((a.2.2.2[e.toNat]?).getD []).length, 0)
theorem path_first (c x t b : List Int) (k i : Nat) (h0 : i = 0) (h : i + 1 < c.length) : pathN c x t b k (i + 1) = stepP (pathN c x t b k i) (at0 x (at0 c i), at0 b ((k + i : Nat) : Int)) := by
  simp only [pathN]; rw [if_pos h, if_neg (by omega)]
theorem path_mid (c x t b : List Int) (k i : Nat) (h0 : 0 < i) (h : i + 1 < c.length) : pathN c x t b k (i + 1) = stepP (stepP (pathN c x t b k i) (at0 x (at0 c i), at0 t ((k + i : Nat) : Int))) (at0 x (at0 c i), at0 b ((k + i : Nat) : Int)) := by
  simp only [pathN]; rw [if_pos h0, if_pos h]
theorem path_last (c x t b : List Int) (k i : Nat) (h0 : 0 < i) (h : ¬ i + 1 < c.length) : pathN c x t b k (i + 1) = stepP (pathN c x t b k i) (at0 x (at0 c i), at0 t ((k + i : Nat) : Int)) := by
  simp only [pathN]; rw [if_pos h0, if_neg h]
theorem stepP_len (l : List Pn) (p : Pn) : (stepP l p).length ≤ l.length + 1 := by unfold stepP; split <;> simp
set_option maxHeartbeats 8000000 in
theorem Lanes_spec (a : Lv) (x t b : List Int) (e : Int) (hw : wide a) : CallsTo Try.prog 12 [lvD a, intsD x, intsD t, intsD b, .int e] (.tup [ptsD (lanesF a x t b e).1, .int (lanesF a x t b e).2]) := by
  have hf := fits_spec a x t b hw
  rw [lanesF]
  rcases h : fitsF a x t b with _ | _ <;> rw [h] at hf
  · rw [if_pos rfl]
    refine callsTo_of Try.func12 rfl (by decide +kernel) (Nat.le_of_ble_eq_true rfl) ?_
    intro hat B X w0
    repeat' first
      | refine pw_seq ?_
      | refine pw_skip ?_
      | refine pw_ret ?_
      | refine pw_exit ?_
      | refine pw_block ?_
      | refine pw_region (fun _ => false) hmix ?_
      | (refine rc (hf) rfl ?_ ?_; (· first | rfl | (simp (disch := omega) only [go_sem, simprocAttr, List.append_eq]; done)))
      | (refine wpG_split rfl rfl (fun hc => ?_) (fun hc => ?_) <;> try simp only [hcL, reduceCtorEq] at hc)
      | (refine pw_cond _ rfl rfl (fun hc => ?_) (fun hc => ?_) <;> (try simp only [hcL, reduceCtorEq] at hc) <;> try (exfalso; omega))
      | simp (maxSteps := 1000000) (disch := omega) only [go_sem, simprocAttr, List.append_eq]
      | apply And.intro
      | omega
      | decide +kernel
    exact ⟨_, rfl, sl_some rfl, int_some rfl, trivial⟩
  · rw [if_neg (by decide)]
    by_cases he : e < 0 ∨ (a.2.2.2.length : Int) ≤ e
    · rw [if_pos he]
      obtain ⟨n, ls, ar, cs⟩ := a
      dsimp only at he
      refine callsTo_of Try.func12 rfl (by decide +kernel) (Nat.le_of_ble_eq_true rfl) ?_
      intro hat B X w0
      repeat' first
        | refine pw_seq ?_
        | refine pw_skip ?_
        | refine pw_ret ?_
        | refine pw_exit ?_
        | refine pw_block ?_
        | refine pw_region (fun _ => false) hmix ?_
        | (refine rc (hf) rfl ?_ ?_; (· first | rfl | (simp (disch := omega) only [go_sem, simprocAttr, List.append_eq]; done)))
        | (refine wpG_split rfl rfl (fun hc => ?_) (fun hc => ?_) <;> try simp only [hcL, reduceCtorEq] at hc)
        | (refine pw_cond _ rfl rfl (fun hc => ?_) (fun hc => ?_) <;> (try simp only [hcL, reduceCtorEq] at hc) <;> try (exfalso; omega))
        | simp (maxSteps := 1000000) (disch := omega) only [go_sem, simprocAttr, List.append_eq]
        | apply And.intro
        | omega
        | decide +kernel
      all_goals exact ⟨_, rfl, sl_some rfl, int_some rfl, trivial⟩
    · rw [if_neg he]
      obtain ⟨hv, hx, ht, hb⟩ := fits_bounds h
      obtain ⟨t1, t2⟩ := lv_le hv
      obtain ⟨s1, s2, s3⟩ := lv_sizes hv
      obtain ⟨e, rfl⟩ : ∃ n : Nat, e = n := ⟨e.toNat, by omega⟩
      rw [Int.toNat_natCast]
      obtain ⟨c, hc0⟩ := get_some (l := a.2.2.2) (k := e) (by omega)
      rw [hc0, Option.getD_some]
      have hcl := s3 c (List.mem_of_getElem? hc0)
      obtain ⟨c1, c2, c3⟩ := valid_chain hv hc0
      have hrk := Rank_spec a (at0 c 0) hw
      rw [rankF, if_pos hv] at hrk
      have c2' : 0 ≤ layI a.2.1 (at0 c 0) := c2
      have c3' : ∀ i : Nat, i < c.length → 0 ≤ at0 c i ∧ at0 c i < x.length ∧ ((layI a.2.1 (at0 c 0)).toNat + i : Nat) < t.length := fun i hi => by
        obtain ⟨u1, u2, u3, u4⟩ := c3 i hi
        have u3' : layI a.2.1 (at0 c i) = layI a.2.1 (at0 c 0) + i := u3
        refine ⟨u1, by omega, by omega⟩
      obtain ⟨K, hK⟩ : ∃ K : Nat, layI a.2.1 (at0 c 0) = K := ⟨(layI a.2.1 (at0 c 0)).toNat, by omega⟩
      rw [hK, Int.toNat_natCast] at c3'
      rw [hK, Int.toNat_natCast]
      rw [hK] at hrk
      have hc00 : c[0]? = some (at0 c 0) := at0_at (by omega)
      obtain ⟨n, ls, ar, cs⟩ := a
      dsimp only at *
      refine callsTo_of Try.func12 rfl (by decide +kernel) (Nat.le_of_ble_eq_true rfl) ?_
      intro hat B X w0
      repeat' first
        | refine pw_seq ?_
        | refine pw_skip ?_
        | refine pw_ret ?_
        | refine pw_exit ?_
        | refine pw_block ?_
        | refine pw_region (fun _ => false) hmix ?_
        | (refine rc (hf) rfl ?_ ?_; (· first | rfl | (simp (disch := omega) only [go_sem, simprocAttr, List.append_eq, hc0, hc00]; done)))
        | (refine rc (hrk) rfl ?_ ?_; (· first | rfl | (simp (disch := omega) only [go_sem, simprocAttr, List.append_eq, hc0, hc00]; done)))
        | (refine wpG_split rfl rfl (fun hc => ?_) (fun hc => ?_) <;> try simp only [hcL, reduceCtorEq] at hc)
        | (refine pw_cond _ rfl rfl (fun hc => ?_) (fun hc => ?_) <;> (try simp only [hcL, reduceCtorEq] at hc) <;> try (exfalso; omega))
        | simp (maxSteps := 1000000) (disch := omega) only [go_sem, simprocAttr, List.append_eq, hc0, hc00]
        | apply And.intro
        | omega
        | decide +kernel
      refine pw_ent _ (ent_nilC 12 0 901 2 rfl rfl rfl) ?_
      refine pw_loopI (κ := Nat) (fun (i : Nat) => i ≤ c.length) (fun (i : Nat) => [(1, .d (intsD x)), (2, .d (intsD t)), (3, .d (intsD b)), (12, .ptr 12 0 0 0), (13, .fn 33 [.ptr 12 0 0 0]), (14, .d (intsD c)), (15, .int K), (44, .d (intsD c)), (45, .int c.length), (46, .int i)]) (fun (i : Nat) => [(12, .cells [.ref 901 2 0 (pathN c x t b K i).length (pathN c x t b K i).length]), (901, .row 2 ((pathN c x t b K i).map ptD))]) (fun (i : Nat) => c.length - i) 0 ?_ ?_ ?_
      · exact Nat.zero_le _
      · exact eL [] _ _ (by refine ⟨?_, ?_⟩ <;> (repeat' first | exact List.forall_mem_nil _ | refine List.forall_mem_cons.2 ⟨(by first | rfl | (simp (disch := omega) only [go_sem, simprocAttr, inL, pathN, List.length_nil, List.map_nil]; first | done | omega | (congr 1; done))), ?_⟩); done)
      · intro i hi
        have hpl := pathN_len c x t b K i
        rcases Nat.lt_or_ge i c.length with hlt | hge
        · obtain ⟨u1, u2, u3⟩ := c3' i hlt
          have g0 := at0_at hlt
          have g1 := at0_get (r := x) u1 u2
          have g2 := at0_at (r := t) (i := K + i) u3
          have g3 := at0_at (r := b) (i := K + i) (by omega)
          have en : ((K : Int) + (i : Int)).toNat = K + i := by omega
          have a1 := add_spec (pathN c x t b K i) (at0 x (at0 c i), at0 t ((K + i : Nat) : Int)) (by omega)
          have a2 := add_spec (pathN c x t b K i) (at0 x (at0 c i), at0 b ((K + i : Nat) : Int)) (by omega)
          have hs := stepP_len (pathN c x t b K i) (at0 x (at0 c i), at0 t ((K + i : Nat) : Int))
          have a3 := add_spec (stepP (pathN c x t b K i) (at0 x (at0 c i), at0 t ((K + i : Nat) : Int))) (at0 x (at0 c i), at0 b ((K + i : Nat) : Int)) (by omega)
          rcases Nat.eq_zero_or_pos i with hi0 | hi0
          · have hp := path_first c x t b K i hi0 (by omega)
            repeat' first
              | refine pw_seq ?_
              | refine pw_skip ?_
              | refine pw_ret ?_
              | refine pw_exit ?_
              | refine pw_block ?_
              | refine pw_region (fun _ => false) hmix ?_
              | refine rcM [(1000, 12), (1001, 901), (2000, 902)] (a2) rfl ?_
              | (refine wpG_split rfl rfl (fun hc => ?_) (fun hc => ?_) <;> try simp only [hcL, reduceCtorEq] at hc)
              | (refine pw_cond _ rfl rfl (fun hc => ?_) (fun hc => ?_) <;> (try simp only [hcL, reduceCtorEq] at hc) <;> try (exfalso; omega))
              | simp (maxSteps := 1000000) (disch := omega) only [go_sem, simprocAttr, List.append_eq, g0, g1, g2, g3, en]
              | apply And.intro
              | omega
              | decide +kernel
            refine ⟨i + 1, ?_, eL [(901, 902)] _ _ (by refine ⟨?_, ?_⟩ <;> (repeat' first | exact List.forall_mem_nil _ | refine List.forall_mem_cons.2 ⟨(by first | rfl | (simp (disch := omega) only [go_sem, simprocAttr, inL, hp]; first | done | omega | (congr 1; done))), ?_⟩); done), ?_⟩
            · omega
            · omega
          · by_cases hn : i + 1 < c.length
            · have hp := path_mid c x t b K i hi0 hn
              repeat' first
                | refine pw_seq ?_
                | refine pw_skip ?_
                | refine pw_ret ?_
                | refine pw_exit ?_
                | refine pw_block ?_
                | refine pw_region (fun _ => false) hmix ?_
                | refine rcM [(1000, 12), (1001, 901), (2000, 902)] (a1) rfl ?_
                | refine rcM [(1000, 12), (1001, 902), (2000, 903)] (a3) rfl ?_
                | (refine wpG_split rfl rfl (fun hc => ?_) (fun hc => ?_) <;> try simp only [hcL, reduceCtorEq] at hc)
                | (refine pw_cond _ rfl rfl (fun hc => ?_) (fun hc => ?_) <;> (try simp only [hcL, reduceCtorEq] at hc) <;> try (exfalso; omega))
                | simp (maxSteps := 1000000) (disch := omega) only [go_sem, simprocAttr, List.append_eq, g0, g1, g2, g3, en]
                | apply And.intro
                | omega
                | decide +kernel
              refine ⟨i + 1, ?_, eL [(901, 903)] _ _ (by refine ⟨?_, ?_⟩ <;> (repeat' first | exact List.forall_mem_nil _ | refine List.forall_mem_cons.2 ⟨(by first | rfl | (simp (disch := omega) only [go_sem, simprocAttr, inL, hp]; first | done | omega | (congr 1; done))), ?_⟩); done), ?_⟩
              · omega
              · omega
            · have hp := path_last c x t b K i hi0 hn
              repeat' first
                | refine pw_seq ?_
                | refine pw_skip ?_
                | refine pw_ret ?_
                | refine pw_exit ?_
                | refine pw_block ?_
                | refine pw_region (fun _ => false) hmix ?_
                | refine rcM [(1000, 12), (1001, 901), (2000, 902)] (a1) rfl ?_
                | (refine wpG_split rfl rfl (fun hc => ?_) (fun hc => ?_) <;> try simp only [hcL, reduceCtorEq] at hc)
                | (refine pw_cond _ rfl rfl (fun hc => ?_) (fun hc => ?_) <;> (try simp only [hcL, reduceCtorEq] at hc) <;> try (exfalso; omega))
                | simp (maxSteps := 1000000) (disch := omega) only [go_sem, simprocAttr, List.append_eq, g0, g1, g2, g3, en]
                | apply And.intro
                | omega
                | decide +kernel
              refine ⟨i + 1, ?_, eL [(901, 902)] _ _ (by refine ⟨?_, ?_⟩ <;> (repeat' first | exact List.forall_mem_nil _ | refine List.forall_mem_cons.2 ⟨(by first | rfl | (simp (disch := omega) only [go_sem, simprocAttr, inL, hp]; first | done | omega | (congr 1; done))), ?_⟩); done), ?_⟩
              · omega
              · omega
        · have : i = c.length := by omega
          subst this
          repeat' first
            | refine pw_seq ?_
            | refine pw_skip ?_
            | refine pw_ret ?_
            | refine pw_exit ?_
            | refine pw_block ?_
            | refine pw_region (fun _ => false) hmix ?_
            | (refine wpG_split rfl rfl (fun hc => ?_) (fun hc => ?_) <;> try simp only [hcL, reduceCtorEq] at hc)
            | (refine pw_cond _ rfl rfl (fun hc => ?_) (fun hc => ?_) <;> (try simp only [hcL, reduceCtorEq] at hc) <;> try (exfalso; omega))
            | simp (maxSteps := 1000000) (disch := omega) only [go_sem, simprocAttr]
            | apply And.intro
            | omega
            | decide +kernel
          exact ⟨_, rfl, ret_ref (o := 901) rfl rfl (by simp) (take_map_len _ _), int_some rfl, trivial⟩
end Go.Proofs.Ytelghbnlceeecaa
namespace Go.Proofs.Ytelghbnlceeecaa
open Go Go.PS Go.Proofs
set_option maxRecDepth 100000
set_option linter.unusedSimpArgs false
set_option linter.unusedVariables false
attribute [local irreducible] wpRun wpG CallsTo CallsM

set_option maxHeartbeats 8000000 in
theorem rLanes_spec (a : Lv) (x t b : List Int) (e : Int) (hw : wide a) : CallsTo Try.prog 13 [lvD a, intsD x, intsD t, intsD b, .int e] (.tup [ptsD (lanesF a x t b e).1, .int (lanesF a x t b e).2]) := by
  have hf := right_spec a x t b hw
  rw [fits_right] at hf
  have hfr := fits_right a x t b
  rw [lanesF]
  rcases h : fitsF a x t b with _ | _ <;> rw [h] at hf
  · rw [if_pos rfl]
    refine callsTo_of Try.func13 rfl (by decide +kernel) (Nat.le_of_ble_eq_true rfl) ?_
    intro hat B X w0
    repeat' first
      | refine pw_seq ?_
      | refine pw_skip ?_
      | refine pw_ret ?_
      | refine pw_exit ?_
      | refine pw_block ?_
      | refine pw_region (fun _ => false) hmix ?_
      | (refine rc (hf) rfl ?_ ?_; (· first | rfl | (simp (disch := omega) only [go_sem, simprocAttr, List.append_eq]; done)))
      | (refine wpG_split rfl rfl (fun hc => ?_) (fun hc => ?_) <;> try simp only [hcL, reduceCtorEq] at hc)
      | (refine pw_cond _ rfl rfl (fun hc => ?_) (fun hc => ?_) <;> (try simp only [hcL, reduceCtorEq] at hc) <;> try (exfalso; omega))
      | simp (maxSteps := 1000000) (disch := omega) only [go_sem, simprocAttr, List.append_eq]
      | apply And.intro
      | omega
      | decide +kernel
    exact ⟨_, rfl, sl_some rfl, int_some rfl, trivial⟩
  · rw [if_neg (by decide)]
    by_cases he : e < 0 ∨ (a.2.2.2.length : Int) ≤ e
    · rw [if_pos he]
      obtain ⟨n, ls, ar, cs⟩ := a
      dsimp only at he
      refine callsTo_of Try.func13 rfl (by decide +kernel) (Nat.le_of_ble_eq_true rfl) ?_
      intro hat B X w0
      repeat' first
        | refine pw_seq ?_
        | refine pw_skip ?_
        | refine pw_ret ?_
        | refine pw_exit ?_
        | refine pw_block ?_
        | refine pw_region (fun _ => false) hmix ?_
        | (refine rc (hf) rfl ?_ ?_; (· first | rfl | (simp (disch := omega) only [go_sem, simprocAttr, List.append_eq]; done)))
        | (refine wpG_split rfl rfl (fun hc => ?_) (fun hc => ?_) <;> try simp only [hcL, reduceCtorEq] at hc)
        | (refine pw_cond _ rfl rfl (fun hc => ?_) (fun hc => ?_) <;> (try simp only [hcL, reduceCtorEq] at hc) <;> try (exfalso; omega))
        | simp (maxSteps := 1000000) (disch := omega) only [go_sem, simprocAttr, List.append_eq]
        | apply And.intro
        | omega
        | decide +kernel
      all_goals exact ⟨_, rfl, sl_some rfl, int_some rfl, trivial⟩
    · rw [if_neg he]
      obtain ⟨hv, hx, ht, hb⟩ := fits_bounds h
      obtain ⟨t1, t2⟩ := lv_le hv
      obtain ⟨s1, s2, s3⟩ := lv_sizes hv
      obtain ⟨e, rfl⟩ : ∃ n : Nat, e = n := ⟨e.toNat, by omega⟩
      rw [Int.toNat_natCast]
      obtain ⟨c, hc0⟩ := get_some (l := a.2.2.2) (k := e) (by omega)
      rw [hc0, Option.getD_some]
      have hcl := s3 c (List.mem_of_getElem? hc0)
      obtain ⟨c1, c2, c3⟩ := valid_chain hv hc0
      have hrk := Ranks_spec a hw
      obtain ⟨r1, r2⟩ := ranks_all hv
      rw [r1, r2] at hrk
      have hrg : ∀ v : Int, 0 ≤ v → v < tot a.2.1 → (rowR (tot a.2.1) a.2.1)[v.toNat]? = some (layI a.2.1 v) := fun v h0 h1 => by
        have := rowR_get (c := tot a.2.1) (v := v.toNat) (by omega) a.2.1
        rw [show ((v.toNat : Nat) : Int) = v by omega] at this; exact this
      have hrl := rowR_len (tot a.2.1) a.2.1
      generalize rowR (tot a.2.1) a.2.1 = R at hrk hrg hrl
      have c2' : 0 ≤ layI a.2.1 (at0 c 0) := c2
      have c3' : ∀ i : Nat, i < c.length → 0 ≤ at0 c i ∧ at0 c i < x.length ∧ ((layI a.2.1 (at0 c 0)).toNat + i : Nat) < t.length := fun i hi => by
        obtain ⟨u1, u2, u3, u4⟩ := c3 i hi
        have u3' : layI a.2.1 (at0 c i) = layI a.2.1 (at0 c 0) + i := u3
        refine ⟨u1, by omega, by omega⟩
      obtain ⟨K, hK⟩ : ∃ K : Nat, layI a.2.1 (at0 c 0) = K := ⟨(layI a.2.1 (at0 c 0)).toNat, by omega⟩
      rw [hK, Int.toNat_natCast] at c3'
      rw [hK, Int.toNat_natCast]
      have c4 : ∀ i : Nat, i < c.length → layI a.2.1 (at0 c i) = ((K + i : Nat) : Int) := fun i hi => by
        have u3 : layI a.2.1 (at0 c i) = layI a.2.1 (at0 c 0) + i := (c3 i hi).2.2.1
        omega
      have hc00 : c[0]? = some (at0 c 0) := at0_at (by omega)
      obtain ⟨n, ls, ar, cs⟩ := a
      dsimp only at *
      refine callsTo_of Try.func13 rfl (by decide +kernel) (Nat.le_of_ble_eq_true rfl) ?_
      intro hat B X w0
      repeat' first
        | refine pw_seq ?_
        | refine pw_skip ?_
        | refine pw_ret ?_
        | refine pw_exit ?_
        | refine pw_block ?_
        | refine pw_region (fun _ => false) hmix ?_
        | (refine rc (hf) rfl ?_ ?_; (· first | rfl | (simp (disch := omega) only [go_sem, simprocAttr, List.append_eq, hc0, hc00]; done)))
        | (refine rc (hrk) rfl ?_ ?_; (· first | rfl | (simp (disch := omega) only [go_sem, simprocAttr, List.append_eq, hc0, hc00]; done)))
        | (refine wpG_split rfl rfl (fun hc => ?_) (fun hc => ?_) <;> try simp only [hcL, reduceCtorEq] at hc)
        | (refine pw_cond _ rfl rfl (fun hc => ?_) (fun hc => ?_) <;> (try simp only [hcL, reduceCtorEq] at hc) <;> try (exfalso; omega))
        | simp (maxSteps := 1000000) (disch := omega) only [go_sem, simprocAttr, List.append_eq, hc0, hc00]
        | apply And.intro
        | omega
        | decide +kernel
      refine pw_ent _ (ent_nil 15 901 2 rfl rfl) ?_
      refine pw_loopI (κ := Nat) (fun (i : Nat) => i ≤ c.length) (fun (i : Nat) => [(1, .d (intsD x)), (2, .d (intsD t)), (3, .d (intsD b)), (12, .d (intsD R)), (14, .d (intsD c)), (15, .ref 901 2 0 (pathN c x t b K i).length (pathN c x t b K i).length), (16, .int i)]) (fun (i : Nat) => [(901, .row 2 ((pathN c x t b K i).map ptD))]) (fun (i : Nat) => c.length - i) 0 ?_ ?_ ?_
      · exact Nat.zero_le _
      · exact eL [] _ _ (by refine ⟨?_, ?_⟩ <;> (repeat' first | exact List.forall_mem_nil _ | refine List.forall_mem_cons.2 ⟨(by first | rfl | (simp (disch := omega) only [go_sem, simprocAttr, inL, pathN, List.length_nil, List.map_nil]; first | done | omega | (congr 1; done))), ?_⟩); done)
      · intro i hi
        have hpl := pathN_len c x t b K i
        rcases Nat.lt_or_ge i c.length with hlt | hge
        · obtain ⟨u1, u2, u3⟩ := c3' i hlt
          have g0 := at0_at hlt
          have g1 := at0_get (r := x) u1 u2
          have g2 := at0_at (r := t) (i := K + i) u3
          have g3 := at0_at (r := b) (i := K + i) (by omega)
          have g4 := hrg (at0 c i) u1 (by omega)
          rw [c4 i hlt] at g4
          have a1 := with_spec (pathN c x t b K i) (at0 x (at0 c i), at0 t ((K + i : Nat) : Int)) (by omega)
          have a2 := with_spec (pathN c x t b K i) (at0 x (at0 c i), at0 b ((K + i : Nat) : Int)) (by omega)
          have hs := stepP_len (pathN c x t b K i) (at0 x (at0 c i), at0 t ((K + i : Nat) : Int))
          have a3 := with_spec (stepP (pathN c x t b K i) (at0 x (at0 c i), at0 t ((K + i : Nat) : Int))) (at0 x (at0 c i), at0 b ((K + i : Nat) : Int)) (by omega)
          rcases Nat.eq_zero_or_pos i with hi0 | hi0
          · have hp := path_first c x t b K i hi0 (by omega)
            repeat' first
              | refine pw_seq ?_
              | refine pw_skip ?_
              | refine pw_ret ?_
              | refine pw_exit ?_
              | refine pw_block ?_
              | refine pw_region (fun _ => false) hmix ?_
              | refine rcM [(1000, 901), (2000, 902)] (a2) rfl ?_
              | (refine wpG_split rfl rfl (fun hc => ?_) (fun hc => ?_) <;> try simp only [hcL, reduceCtorEq] at hc)
              | (refine pw_cond _ rfl rfl (fun hc => ?_) (fun hc => ?_) <;> (try simp only [hcL, reduceCtorEq] at hc) <;> try (exfalso; omega))
              | simp (maxSteps := 1000000) (disch := omega) only [go_sem, simprocAttr, List.append_eq, g0, g1, g2, g3, g4]
              | apply And.intro
              | omega
              | decide +kernel
            refine ⟨i + 1, ?_, eL [(901, 902)] _ _ (by refine ⟨?_, ?_⟩ <;> (repeat' first | exact List.forall_mem_nil _ | refine List.forall_mem_cons.2 ⟨(by first | rfl | (simp (disch := omega) only [go_sem, simprocAttr, inL, hp]; first | done | omega | (congr 1; done))), ?_⟩); done), ?_⟩
            · omega
            · omega
          · by_cases hn : i + 1 < c.length
            · have hp := path_mid c x t b K i hi0 hn
              repeat' first
                | refine pw_seq ?_
                | refine pw_skip ?_
                | refine pw_ret ?_
                | refine pw_exit ?_
                | refine pw_block ?_
                | refine pw_region (fun _ => false) hmix ?_
                | refine rcM [(1000, 901), (2000, 902)] (a1) rfl ?_
                | refine rcM [(1000, 902), (2000, 903)] (a3) rfl ?_
                | (refine wpG_split rfl rfl (fun hc => ?_) (fun hc => ?_) <;> try simp only [hcL, reduceCtorEq] at hc)
                | (refine pw_cond _ rfl rfl (fun hc => ?_) (fun hc => ?_) <;> (try simp only [hcL, reduceCtorEq] at hc) <;> try (exfalso; omega))
                | simp (maxSteps := 1000000) (disch := omega) only [go_sem, simprocAttr, List.append_eq, g0, g1, g2, g3, g4]
                | apply And.intro
                | omega
                | decide +kernel
              refine ⟨i + 1, ?_, eL [(901, 903)] _ _ (by refine ⟨?_, ?_⟩ <;> (repeat' first | exact List.forall_mem_nil _ | refine List.forall_mem_cons.2 ⟨(by first | rfl | (simp (disch := omega) only [go_sem, simprocAttr, inL, hp]; first | done | omega | (congr 1; done))), ?_⟩); done), ?_⟩
              · omega
              · omega
            · have hp := path_last c x t b K i hi0 hn
              repeat' first
                | refine pw_seq ?_
                | refine pw_skip ?_
                | refine pw_ret ?_
                | refine pw_exit ?_
                | refine pw_block ?_
                | refine pw_region (fun _ => false) hmix ?_
                | refine rcM [(1000, 901), (2000, 902)] (a1) rfl ?_
                | (refine wpG_split rfl rfl (fun hc => ?_) (fun hc => ?_) <;> try simp only [hcL, reduceCtorEq] at hc)
                | (refine pw_cond _ rfl rfl (fun hc => ?_) (fun hc => ?_) <;> (try simp only [hcL, reduceCtorEq] at hc) <;> try (exfalso; omega))
                | simp (maxSteps := 1000000) (disch := omega) only [go_sem, simprocAttr, List.append_eq, g0, g1, g2, g3, g4]
                | apply And.intro
                | omega
                | decide +kernel
              refine ⟨i + 1, ?_, eL [(901, 902)] _ _ (by refine ⟨?_, ?_⟩ <;> (repeat' first | exact List.forall_mem_nil _ | refine List.forall_mem_cons.2 ⟨(by first | rfl | (simp (disch := omega) only [go_sem, simprocAttr, inL, hp]; first | done | omega | (congr 1; done))), ?_⟩); done), ?_⟩
              · omega
              · omega
        · have : i = c.length := by omega
          subst this
          repeat' first
            | refine pw_seq ?_
            | refine pw_skip ?_
            | refine pw_ret ?_
            | refine pw_exit ?_
            | refine pw_block ?_
            | refine pw_region (fun _ => false) hmix ?_
            | (refine wpG_split rfl rfl (fun hc => ?_) (fun hc => ?_) <;> try simp only [hcL, reduceCtorEq] at hc)
            | (refine pw_cond _ rfl rfl (fun hc => ?_) (fun hc => ?_) <;> (try simp only [hcL, reduceCtorEq] at hc) <;> try (exfalso; omega))
            | simp (maxSteps := 1000000) (disch := omega) only [go_sem, simprocAttr]
            | apply And.intro
            | omega
            | decide +kernel
          exact ⟨_, rfl, ret_ref (o := 901) rfl rfl (by simp) (take_map_len _ _), int_some rfl, trivial⟩
end Go.Proofs.Ytelghbnlceeecaa
namespace Go.Proofs.Ytelghbnlceeecaa
open Go Go.PS Go.Proofs
set_option maxRecDepth 100000
set_option linter.unusedSimpArgs false
set_option linter.unusedVariables false
attribute [local irreducible] wpRun wpG CallsTo CallsM

abbrev laneD (a : Lv) (x t b : List Int) (e : Int) : D := .ag [.int a.1, listsD a.2.1, arcsD a.2.2.1, listsD a.2.2.2, intsD x, intsD t, intsD b, .int e]
def smallL (a : Lv) (x t b : List Int) : Bool := decide (sumW (sumW a.2.2.1.length a.2.1 (min a.2.1.length 300)) a.2.2.2 (min a.2.2.2.length 300) < 1000) && decide (a.2.1.length < 300) && decide (a.2.2.2.length < 300) && decide (x.length < 1000) && decide (t.length < 300) && decide (b.length < 300)
set_option maxHeartbeats 3000000 in
theorem smallL_spec (a : Lv) (x t b : List Int) (e : Int) : CallsTo Try.prog 10 [laneD a x t b e] (.bool (smallL a x t b)) := by
  obtain ⟨n, ls, ar, cs⟩ := a
  rw [smallL]
  dsimp only
  refine callsTo_of Try.func10 rfl (by decide +kernel) (Nat.le_of_ble_eq_true rfl) ?_
  intro hat B X w0
  have h1 := at_len2 0 1 hat rfl rfl
  have h2 := at_len2 0 2 hat rfl rfl
  have h3 := at_len2 0 3 hat rfl rfl
  have h4 := at_len2 0 4 hat rfl rfl
  have h5 := at_len2 0 5 hat rfl rfl
  have h6 := at_len2 0 6 hat rfl rfl
  rw [List.length_map] at h1 h2 h3 h4 h5 h6
  dsimp only at h1 h2 h3 h4 h5 h6
  repeat' first
    | refine pw_seq ?_
    | refine pw_skip ?_
    | refine pw_ret ?_
    | refine pw_exit ?_
    | refine pw_block ?_
    | refine pw_region (fun _ => false) hmix ?_
    | (refine wpG_split rfl rfl (fun hc => ?_) (fun hc => ?_) <;> try simp only [hcL, reduceCtorEq] at hc)
    | (refine pw_cond _ rfl rfl (fun hc => ?_) (fun hc => ?_) <;> (try simp only [hcL, reduceCtorEq] at hc) <;> try (exfalso; omega))
    | simp (maxSteps := 1000000) (disch := omega) only [go_sem, simprocAttr]
    | apply And.intro
    | omega
    | decide +kernel
  refine pw_loopI (κ := Nat) (fun (k : Nat) => k ≤ ls.length ∧ k ≤ 300) (fun (k : Nat) => [(1, .ptr 1 0 0 0), (3, .int (sumW ar.length ls k)), (4, .int k)]) (fun (k : Nat) => [(1, .cells [.int n, .d (listsD ls), .d (arcsD ar), .d (listsD cs), .d (intsD x), .d (intsD t), .d (intsD b), .int e])]) (fun (k : Nat) => ls.length - k) 0 ?_ ?_ ?_
  · exact ⟨Nat.zero_le _, by omega⟩
  · exact eL [] _ _ (by refine ⟨?_, ?_⟩ <;> (repeat' first | exact List.forall_mem_nil _ | refine List.forall_mem_cons.2 ⟨(by first | rfl | (simp (disch := omega) only [go_sem, simprocAttr, inL, sumW]; first | done | omega | (congr 1; done))), ?_⟩); done)
  · rintro k ⟨hk, hk4⟩
    by_cases hlt : k < ls.length ∧ k < 300
    · obtain ⟨hlt, hlt4⟩ := hlt
      obtain ⟨p, hp⟩ := get_some hlt
      have hs : sumW ar.length ls (k + 1) = IntKind.i64.wrap (sumW ar.length ls k + min (p.length : Int) 1000) := by rw [sumW, hp]; rfl
      repeat' first
        | refine pw_seq ?_
        | refine pw_skip ?_
        | refine pw_ret ?_
        | refine pw_exit ?_
        | refine pw_block ?_
        | refine pw_region (fun _ => false) hmix ?_
        | (refine wpG_split rfl rfl (fun hc => ?_) (fun hc => ?_) <;> try simp only [hcL, reduceCtorEq] at hc)
        | (refine pw_cond _ rfl rfl (fun hc => ?_) (fun hc => ?_) <;> (try simp only [hcL, reduceCtorEq] at hc) <;> try (exfalso; omega))
        | simp (maxSteps := 1000000) (disch := omega) only [go_sem, simprocAttr, hp, ite_min]
        | apply And.intro
        | omega
        | decide +kernel
      refine ⟨k + 1, ?_, eL [] _ _ (by refine ⟨?_, ?_⟩ <;> (repeat' first | exact List.forall_mem_nil _ | refine List.forall_mem_cons.2 ⟨(by first | rfl | (simp (disch := omega) only [go_sem, simprocAttr, inL, hs]; first | done | omega | (congr 1; done))), ?_⟩); done), ?_⟩
      · exact ⟨by omega, by omega⟩
      · omega
    · have hkm : min ls.length 300 = k := by omega
      rw [hkm]
      generalize sumW ar.length ls k = X1
      rcases Nat.lt_or_ge k ls.length with h | h
      all_goals
        repeat' first
          | refine pw_seq ?_
          | refine pw_skip ?_
          | refine pw_ret ?_
          | refine pw_exit ?_
          | refine pw_block ?_
          | refine pw_region (fun _ => false) hmix ?_
          | (refine wpG_split rfl rfl (fun hc => ?_) (fun hc => ?_) <;> try simp only [hcL, reduceCtorEq] at hc)
          | (refine pw_cond _ rfl rfl (fun hc => ?_) (fun hc => ?_) <;> (try simp only [hcL, reduceCtorEq] at hc) <;> try (exfalso; omega))
          | simp (maxSteps := 1000000) (disch := omega) only [go_sem, simprocAttr]
          | apply And.intro
          | omega
          | decide +kernel
        refine pw_loopI (κ := Nat) (fun (j : Nat) => j ≤ cs.length ∧ j ≤ 300) (fun (j : Nat) => [(1, .ptr 1 0 0 0), (3, .int (sumW X1 cs j)), (5, .int j)]) (fun (j : Nat) => [(1, .cells [.int n, .d (listsD ls), .d (arcsD ar), .d (listsD cs), .d (intsD x), .d (intsD t), .d (intsD b), .int e])]) (fun (j : Nat) => cs.length - j) 0 ?_ ?_ ?_
        · exact ⟨Nat.zero_le _, by omega⟩
        · exact eL [] _ _ (by refine ⟨?_, ?_⟩ <;> (repeat' first | exact List.forall_mem_nil _ | refine List.forall_mem_cons.2 ⟨(by first | rfl | (simp (disch := omega) only [go_sem, simprocAttr, inL, sumW]; first | done | omega | (congr 1; done))), ?_⟩); done)
        · rintro j ⟨hj, hj4⟩
          by_cases hlt2 : j < cs.length ∧ j < 300
          · obtain ⟨hlt2, hlt4⟩ := hlt2
            obtain ⟨p, hp⟩ := get_some hlt2
            have hs : sumW X1 cs (j + 1) = IntKind.i64.wrap (sumW X1 cs j + min (p.length : Int) 1000) := by rw [sumW, hp]; rfl
            repeat' first
              | refine pw_seq ?_
              | refine pw_skip ?_
              | refine pw_ret ?_
              | refine pw_exit ?_
              | refine pw_block ?_
              | refine pw_region (fun _ => false) hmix ?_
              | (refine wpG_split rfl rfl (fun hc => ?_) (fun hc => ?_) <;> try simp only [hcL, reduceCtorEq] at hc)
              | (refine pw_cond _ rfl rfl (fun hc => ?_) (fun hc => ?_) <;> (try simp only [hcL, reduceCtorEq] at hc) <;> try (exfalso; omega))
              | simp (maxSteps := 1000000) (disch := omega) only [go_sem, simprocAttr, hp, ite_min]
              | apply And.intro
              | omega
              | decide +kernel
            refine ⟨j + 1, ?_, eL [] _ _ (by refine ⟨?_, ?_⟩ <;> (repeat' first | exact List.forall_mem_nil _ | refine List.forall_mem_cons.2 ⟨(by first | rfl | (simp (disch := omega) only [go_sem, simprocAttr, inL, hs]; first | done | omega | (congr 1; done))), ?_⟩); done), ?_⟩
            · exact ⟨by omega, by omega⟩
            · omega
          · have hjm : min cs.length 300 = j := by omega
            rw [hjm]
            generalize sumW X1 cs j = Y1
            rcases Nat.lt_or_ge j cs.length with h3 | h3
            all_goals
              repeat' first
                | refine pw_seq ?_
                | refine pw_skip ?_
                | refine pw_ret ?_
                | refine pw_exit ?_
                | refine pw_block ?_
                | refine pw_region (fun _ => false) hmix ?_
                | (refine wpG_split rfl rfl (fun hc => ?_) (fun hc => ?_) <;> try simp only [hcL, reduceCtorEq] at hc)
                | (refine pw_cond _ rfl rfl (fun hc => ?_) (fun hc => ?_) <;> (try simp only [hcL, reduceCtorEq] at hc) <;> try (exfalso; omega))
                | simp (maxSteps := 1000000) (disch := omega) only [go_sem, simprocAttr]
                | apply And.intro
                | omega
                | decide +kernel
              all_goals
                refine bool_some ?_
                rw [Bool.eq_iff_iff]
                simp only [Bool.and_eq_true, decide_eq_true_eq, Bool.false_eq_true, false_iff, true_iff]
                omega
set_option maxHeartbeats 1000000 in
theorem lawLanes (a : Lv) (x t b : List Int) (e : Int) (hw : wide a) : CallsTo Try.prog 3 [laneD a x t b e] (.bool true) := by
  have h1 := smallL_spec a x t b e
  have h2 := Lanes_spec a x t b e hw
  have h3 := rLanes_spec a x t b e hw
  have h4 := ptSame_spec (lanesF a x t b e).1 (lanesF a x t b e).1
  rw [decide_eq_true rfl] at h4
  have h5 := rtAwake_spec
  generalize lanesF a x t b e = R at h2 h3 h4
  obtain ⟨n, ls, ar, cs⟩ := a
  rcases hs : smallL (n, ls, ar, cs) x t b with _ | _ <;> rw [hs] at h1
  all_goals
    refine callsTo_of Try.func3 rfl (by decide +kernel) (Nat.le_of_ble_eq_true rfl) ?_
    intro hat B X w0
    repeat' first
      | refine pw_seq ?_
      | refine pw_skip ?_
      | refine pw_ret ?_
      | refine pw_exit ?_
      | refine pw_block ?_
      | refine pw_region (fun _ => false) hmix ?_
      | (refine rc (h1) rfl ?_ ?_; (· first | rfl | (simp (disch := omega) only [go_sem, simprocAttr, List.append_eq]; done)))
      | (refine rc (h2) rfl ?_ ?_; (· first | rfl | (simp (disch := omega) only [go_sem, simprocAttr, List.append_eq]; done)))
      | (refine rc (h3) rfl ?_ ?_; (· first | rfl | (simp (disch := omega) only [go_sem, simprocAttr, List.append_eq]; done)))
      | (refine rc (h4) rfl ?_ ?_; (· first | rfl | (simp (disch := omega) only [go_sem, simprocAttr, List.append_eq]; done)))
      | (refine rc (h5) rfl ?_ ?_; (· first | rfl | (simp (disch := omega) only [go_sem, simprocAttr, List.append_eq]; done)))
      | (refine wpG_split rfl rfl (fun hc => ?_) (fun hc => ?_) <;> try simp only [hcL, reduceCtorEq] at hc)
      | (refine pw_cond _ rfl rfl (fun hc => ?_) (fun hc => ?_) <;> (try simp only [hcL, reduceCtorEq] at hc) <;> try (exfalso; omega))
      | simp (maxSteps := 1000000) (disch := omega) only [go_sem, simprocAttr, List.append_eq]
      | apply And.intro
      | omega
      | decide +kernel
    exact bool_some rfl
set_option maxHeartbeats 4000000 in
theorem lawDown (a : Lv) (x t b : List Int) (e : Int) (hw : wide a) : CallsTo Try.prog 4 [laneD a x t b e] (.bool true) := by
  have h1 := smallL_spec a x t b e
  have h2 := Lanes_spec a x t b e hw
  have h5 := rtAwake_spec
  rcases hs : smallL a x t b with _ | _ <;> rw [hs] at h1
  · obtain ⟨n, ls, ar, cs⟩ := a
    refine callsTo_of Try.func4 rfl (by decide +kernel) (Nat.le_of_ble_eq_true rfl) ?_
    intro hat B X w0
    repeat' first
      | refine pw_seq ?_
      | refine pw_skip ?_
      | refine pw_ret ?_
      | refine pw_exit ?_
      | refine pw_block ?_
      | refine pw_region (fun _ => false) hmix ?_
      | (refine rc (h1) rfl ?_ ?_; (· first | rfl | (simp (disch := omega) only [go_sem, simprocAttr, List.append_eq]; done)))
      | (refine rc (h5) rfl ?_ ?_; (· first | rfl | (simp (disch := omega) only [go_sem, simprocAttr, List.append_eq]; done)))
      | (refine wpG_split rfl rfl (fun hc => ?_) (fun hc => ?_) <;> try simp only [hcL, reduceCtorEq] at hc)
      | (refine pw_cond _ rfl rfl (fun hc => ?_) (fun hc => ?_) <;> (try simp only [hcL, reduceCtorEq] at hc) <;> try (exfalso; omega))
      | simp (maxSteps := 1000000) (disch := omega) only [go_sem, simprocAttr, List.append_eq]
      | apply And.intro
      | omega
      | decide +kernel
    exact bool_some rfl
  · rw [lanesF] at h2
    rcases h : fitsF a x t b with _ | _
    · rw [if_pos h] at h2
      obtain ⟨n, ls, ar, cs⟩ := a
      refine callsTo_of Try.func4 rfl (by decide +kernel) (Nat.le_of_ble_eq_true rfl) ?_
      intro hat B X w0
      repeat' first
        | refine pw_seq ?_
        | refine pw_skip ?_
        | refine pw_ret ?_
        | refine pw_exit ?_
        | refine pw_block ?_
        | refine pw_region (fun _ => false) hmix ?_
        | (refine rc (h1) rfl ?_ ?_; (· first | rfl | (simp (disch := omega) only [go_sem, simprocAttr, List.append_eq]; done)))
        | (refine rc (h2) rfl ?_ ?_; (· first | rfl | (simp (disch := omega) only [go_sem, simprocAttr, List.append_eq]; done)))
        | (refine rc (h5) rfl ?_ ?_; (· first | rfl | (simp (disch := omega) only [go_sem, simprocAttr, List.append_eq]; done)))
        | (refine wpG_split rfl rfl (fun hc => ?_) (fun hc => ?_) <;> try simp only [hcL, reduceCtorEq] at hc)
        | (refine pw_cond _ rfl rfl (fun hc => ?_) (fun hc => ?_) <;> (try simp only [hcL, reduceCtorEq] at hc) <;> try (exfalso; omega))
        | simp (maxSteps := 1000000) (disch := omega) only [go_sem, simprocAttr, List.append_eq]
        | apply And.intro
        | omega
        | decide +kernel
      exact bool_some rfl
    · rw [if_neg (by rw [h]; decide)] at h2
      by_cases he : e < 0 ∨ (a.2.2.2.length : Int) ≤ e
      · rw [if_pos he] at h2
        obtain ⟨n, ls, ar, cs⟩ := a
        refine callsTo_of Try.func4 rfl (by decide +kernel) (Nat.le_of_ble_eq_true rfl) ?_
        intro hat B X w0
        repeat' first
          | refine pw_seq ?_
          | refine pw_skip ?_
          | refine pw_ret ?_
          | refine pw_exit ?_
          | refine pw_block ?_
          | refine pw_region (fun _ => false) hmix ?_
          | (refine rc (h1) rfl ?_ ?_; (· first | rfl | (simp (disch := omega) only [go_sem, simprocAttr, List.append_eq]; done)))
          | (refine rc (h2) rfl ?_ ?_; (· first | rfl | (simp (disch := omega) only [go_sem, simprocAttr, List.append_eq]; done)))
          | (refine rc (h5) rfl ?_ ?_; (· first | rfl | (simp (disch := omega) only [go_sem, simprocAttr, List.append_eq]; done)))
          | (refine wpG_split rfl rfl (fun hc => ?_) (fun hc => ?_) <;> try simp only [hcL, reduceCtorEq] at hc)
          | (refine pw_cond _ rfl rfl (fun hc => ?_) (fun hc => ?_) <;> (try simp only [hcL, reduceCtorEq] at hc) <;> try (exfalso; omega))
          | simp (maxSteps := 1000000) (disch := omega) only [go_sem, simprocAttr, List.append_eq]
          | apply And.intro
          | omega
          | decide +kernel
        exact bool_some rfl
      · rw [if_neg he] at h2
        obtain ⟨hv, hx, ht, hb⟩ := fits_bounds h
        have ho := fits_ordered h
        obtain ⟨t1, t2⟩ := lv_le hv
        obtain ⟨s1, s2, s3⟩ := lv_sizes hv
        obtain ⟨e, rfl⟩ : ∃ n : Nat, e = n := ⟨e.toNat, by omega⟩
        rw [Int.toNat_natCast] at h2
        obtain ⟨c, hc0⟩ := get_some (l := a.2.2.2) (k := e) (by omega)
        rw [hc0, Option.getD_some] at h2
        have hcl := s3 c (List.mem_of_getElem? hc0)
        obtain ⟨c1, c2, c3⟩ := valid_chain hv hc0
        have c2' : 0 ≤ layI a.2.1 (at0 c 0) := c2
        obtain ⟨K, hK⟩ : ∃ K : Nat, layI a.2.1 (at0 c 0) = K := ⟨(layI a.2.1 (at0 c 0)).toNat, by omega⟩
        rw [hK, Int.toNat_natCast] at h2
        have hKc : K + c.length ≤ a.2.1.length := by
          obtain ⟨u1, u2, u3, u4⟩ := c3 (c.length - 1) (by omega)
          have u3' : layI a.2.1 (at0 c ((c.length - 1 : Nat) : Int)) = layI a.2.1 (at0 c 0) + ((c.length - 1 : Nat) : Int) := u3
          omega
        obtain ⟨p1, p2, p3⟩ := path_down (x := x) ho hKc c1
        have hpl := pathN_len c x t b K c.length
        generalize pathN c x t b K c.length = L at *
        have hL0 := (List.getElem?_eq_some_iff.1 p2).1
        rw [List.getLast?_eq_getElem?] at p3
        have f1 : c[0]? = some (at0 c 0) := at0_at (by omega)
        have f2 := at0_at (r := c) (i := c.length - 1) (by omega)
        obtain ⟨g1, g2, _⟩ := c3 0 (by omega)
        have g1 : 0 ≤ at0 c 0 := g1
        have g2 : at0 c 0 < tot a.2.1 := g2
        obtain ⟨g3, g4, _⟩ := c3 (c.length - 1) (by omega)
        have f3 := at0_get (r := x) g1 (by omega)
        have f4 := at0_get (r := x) g3 (by omega)
        have p2 : L[0]? = some (at0 x (at0 c 0), at0 b (K : Int)) := p2
        have en1 : ((c.length : Int) - 1).toNat = c.length - 1 := by omega
        have en2 : ((L.length : Int) - 1).toNat = L.length - 1 := by omega
        obtain ⟨n, ls, ar, cs⟩ := a
        dsimp only at *
        refine callsTo_of Try.func4 rfl (by decide +kernel) (Nat.le_of_ble_eq_true rfl) ?_
        intro hat B X w0
        have hwl := at_len2 0 4 hat rfl rfl
        rw [List.length_map] at hwl
        repeat' first
          | refine pw_seq ?_
          | refine pw_skip ?_
          | refine pw_ret ?_
          | refine pw_exit ?_
          | refine pw_block ?_
          | refine pw_region (fun _ => false) hmix ?_
          | (refine rc (h1) rfl ?_ ?_; (· first | rfl | (simp (disch := omega) only [go_sem, simprocAttr, List.append_eq, hc0, f1, f2, f3, f4, p2, p3, en1, en2]; done)))
          | (refine rc (h2) rfl ?_ ?_; (· first | rfl | (simp (disch := omega) only [go_sem, simprocAttr, List.append_eq, hc0, f1, f2, f3, f4, p2, p3, en1, en2]; done)))
          | (refine wpG_split rfl rfl (fun hc => ?_) (fun hc => ?_) <;> try simp only [hcL, reduceCtorEq] at hc)
          | (refine pw_cond _ rfl rfl (fun hc => ?_) (fun hc => ?_) <;> (try simp only [hcL, reduceCtorEq] at hc) <;> try (exfalso; omega))
          | simp (maxSteps := 1000000) (disch := omega) only [go_sem, simprocAttr, List.append_eq, hc0, f1, f2, f3, f4, p2, p3, en1, en2]
          | apply And.intro
          | omega
          | decide +kernel
        refine pw_loopI (κ := Nat) (fun (k : Nat) => 1 ≤ k ∧ k ≤ L.length) (fun (k : Nat) => [(3, .d (ptsD L)), (8, .int k)]) (fun (k : Nat) => []) (fun (k : Nat) => L.length - k) 1 ?_ ?_ ?_
        · omega
        · exact eL [] _ _ (by refine ⟨?_, ?_⟩ <;> (repeat' first | exact List.forall_mem_nil _ | refine List.forall_mem_cons.2 ⟨(by first | rfl | (simp (disch := omega) only [go_sem, simprocAttr, inL]; first | done | omega | (congr 1; done))), ?_⟩); done)
        · rintro k ⟨hk1, hk⟩
          rcases Nat.lt_or_ge k L.length with hlt | hge
          · obtain ⟨k, rfl⟩ : ∃ m, k = m + 1 := ⟨k - 1, by omega⟩
            obtain ⟨q, hq⟩ := get_some hlt
            obtain ⟨p, hp⟩ := get_some (show k < L.length by omega)
            obtain ⟨d1, d2⟩ := p1 k p q hp hq
            have d3 : ¬ q.2 < p.2 := by omega
            have d4 : (decide (q.1 = p.1) && decide (q.2 = p.2)) = false := by rw [ptEq]; exact decide_eq_false fun h => d2 h.symm
            have ek : ((k + 1 : Nat) : Int) - 1 = k := by omega
            repeat' first
              | refine pw_seq ?_
              | refine pw_skip ?_
              | refine pw_ret ?_
              | refine pw_exit ?_
              | refine pw_block ?_
              | refine pw_region (fun _ => false) hmix ?_
              | (refine wpG_split rfl rfl (fun hc => ?_) (fun hc => ?_) <;> try simp only [hcL, reduceCtorEq] at hc)
              | (refine pw_cond _ rfl rfl (fun hc => ?_) (fun hc => ?_) <;> (try simp only [hcL, reduceCtorEq] at hc) <;> try (exfalso; omega))
              | simp (maxSteps := 1000000) (disch := omega) only [go_sem, simprocAttr, List.append_eq, hp, hq, d3, d4, ek]
              | apply And.intro
              | omega
              | decide +kernel
            refine ⟨k + 1 + 1, ?_, eL [] _ _ (by refine ⟨?_, ?_⟩ <;> (repeat' first | exact List.forall_mem_nil _ | refine List.forall_mem_cons.2 ⟨(by first | rfl | (simp (disch := omega) only [go_sem, simprocAttr, inL]; first | done | omega | (congr 1; done))), ?_⟩); done), ?_⟩
            · omega
            · omega
          · have : k = L.length := by omega
            subst this
            repeat' first
              | refine pw_seq ?_
              | refine pw_skip ?_
              | refine pw_ret ?_
              | refine pw_exit ?_
              | refine pw_block ?_
              | refine pw_region (fun _ => false) hmix ?_
              | (refine rc (h5) rfl ?_ ?_; (· first | rfl | (simp (disch := omega) only [go_sem, simprocAttr]; done)))
              | (refine wpG_split rfl rfl (fun hc => ?_) (fun hc => ?_) <;> try simp only [hcL, reduceCtorEq] at hc)
              | (refine pw_cond _ rfl rfl (fun hc => ?_) (fun hc => ?_) <;> (try simp only [hcL, reduceCtorEq] at hc) <;> try (exfalso; omega))
              | simp (maxSteps := 1000000) (disch := omega) only [go_sem, simprocAttr]
              | apply And.intro
              | omega
              | decide +kernel
            exact bool_some rfl
end Go.Proofs.Ytelghbnlceeecaa
