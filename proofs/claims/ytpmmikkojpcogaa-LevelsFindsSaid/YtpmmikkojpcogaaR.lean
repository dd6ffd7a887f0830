/- The reference's Reorder; reordered levels are valid; the laws' awake. -/
import Derived.Test.YtpmmikkojpcogaaQ
namespace Go.Proofs.Ytpmmikkojpcogaa
open Go Go.PS Go.Proofs
set_option maxRecDepth 100000
set_option linter.unusedSimpArgs false
set_option linter.unusedVariables false
attribute [local irreducible] wpRun wpG CallsTo CallsM

set_option maxHeartbeats 4000000 in
theorem rReorder_spec (a : Lv) (i : Int) (o : List Int) (hw : wide a) (ho : o.length ≤ 600) : CallsTo Try.prog 29 [lvD a, .int i, intsD o] (.tup [lvD (reorderF a i o).1, .int (reorderF a i o).2]) := by
  have hv := rLvValid_spec a hw
  rw [← valid_same] at hv
  rw [reorderF]
  rcases h : validF a with _ | _ <;> rw [h] at hv
  · rw [if_pos rfl]
    refine callsTo_of Try.func29 rfl (by decide +kernel) (Nat.le_of_ble_eq_true rfl) ?_
    intro hat B X w0
    repeat' first
      | refine pw_seq ?_
      | refine pw_skip ?_
      | refine pw_ret ?_
      | refine pw_exit ?_
      | refine pw_block ?_
      | refine pw_region (fun _ => false) hmix ?_
      | (refine run_callT (hv) rfl rfl ?_ ?_; (· first | exact .inl rfl | exact .inr rfl))
      | (refine run_callT (hv) rfl ?_ ?_ ?_; (· first | rfl | (simp (maxSteps := 1000000) (disch := omega) only [go_sem, Nat.reduceEqDiff, ↓reduceIte, Nat.reduceLT, Nat.reduceAdd, Nat.reduceSub, Nat.reduceLeDiff, Nat.reduceMul, Int.reduceToNat, reduceCtorEq, List.append_eq]; done)); (· first | exact .inl rfl | exact .inr rfl))
      | (refine wpG_split rfl rfl (fun hc => ?_) (fun hc => ?_) <;> try simp only [decide_eq_true_eq, decide_eq_false_iff_not, Bool.not_eq_true', Bool.not_eq_false', Bool.false_eq_true, Bool.true_eq_false, reduceCtorEq, Bool.and_eq_true, Bool.or_eq_true, not_and, not_or] at hc)
      | (refine pw_cond _ rfl rfl (fun hc => ?_) (fun hc => ?_) <;> (try simp only [decide_eq_true_eq, decide_eq_false_iff_not, Bool.not_eq_true', Bool.not_eq_false', Bool.false_eq_true, Bool.true_eq_false, reduceCtorEq, Bool.and_eq_true, Bool.or_eq_true, not_and, not_or] at hc) <;> try (exfalso; omega))
      | simp (maxSteps := 1000000) (disch := omega) only [go_sem, Nat.reduceEqDiff, ↓reduceIte, Nat.reduceLT, Nat.reduceAdd, Nat.reduceSub, Nat.reduceLeDiff, Nat.reduceMul, Int.reduceToNat, reduceCtorEq, List.append_eq]
      | apply And.intro
      | omega
      | decide +kernel
    refine ⟨_, rfl, ⟨_, _, _, _, rfl, ?_⟩, int_some ?_, trivial⟩
    · simp (maxSteps := 1000000) (disch := omega) only [go_sem, Nat.reduceEqDiff, ↓reduceIte, Nat.reduceLT, Nat.reduceAdd, Nat.reduceSub, Nat.reduceLeDiff, Nat.reduceMul, Int.reduceToNat, reduceCtorEq, toD]
      rfl
    · rfl
  · rw [if_neg (by decide)]
    obtain ⟨t1, t2⟩ := lv_le h
    by_cases hi : i < 0 ∨ (a.2.1.length : Int) ≤ i
    · rw [if_pos hi]
      obtain ⟨n, ls, ar, cs⟩ := a
      dsimp only at hi t1
      refine callsTo_of Try.func29 rfl (by decide +kernel) (Nat.le_of_ble_eq_true rfl) ?_
      intro hat B X w0
      repeat' first
        | refine pw_seq ?_
        | refine pw_skip ?_
        | refine pw_ret ?_
        | refine pw_exit ?_
        | refine pw_block ?_
        | refine pw_region (fun _ => false) hmix ?_
        | (refine run_callT (hv) rfl rfl ?_ ?_; (· first | exact .inl rfl | exact .inr rfl))
        | (refine run_callT (hv) rfl ?_ ?_ ?_; (· first | rfl | (simp (maxSteps := 1000000) (disch := omega) only [go_sem, Nat.reduceEqDiff, ↓reduceIte, Nat.reduceLT, Nat.reduceAdd, Nat.reduceSub, Nat.reduceLeDiff, Nat.reduceMul, Int.reduceToNat, reduceCtorEq, List.append_eq]; done)); (· first | exact .inl rfl | exact .inr rfl))
        | (refine wpG_split rfl rfl (fun hc => ?_) (fun hc => ?_) <;> try simp only [decide_eq_true_eq, decide_eq_false_iff_not, Bool.not_eq_true', Bool.not_eq_false', Bool.false_eq_true, Bool.true_eq_false, reduceCtorEq, Bool.and_eq_true, Bool.or_eq_true, not_and, not_or] at hc)
        | (refine pw_cond _ rfl rfl (fun hc => ?_) (fun hc => ?_) <;> (try simp only [decide_eq_true_eq, decide_eq_false_iff_not, Bool.not_eq_true', Bool.not_eq_false', Bool.false_eq_true, Bool.true_eq_false, reduceCtorEq, Bool.and_eq_true, Bool.or_eq_true, not_and, not_or] at hc) <;> try (exfalso; omega))
        | simp (maxSteps := 1000000) (disch := omega) only [go_sem, Nat.reduceEqDiff, ↓reduceIte, Nat.reduceLT, Nat.reduceAdd, Nat.reduceSub, Nat.reduceLeDiff, Nat.reduceMul, Int.reduceToNat, reduceCtorEq, List.append_eq]
        | apply And.intro
        | omega
        | decide +kernel
      all_goals
        refine ⟨_, rfl, ⟨_, _, _, _, rfl, ?_⟩, int_some ?_, trivial⟩
        · simp (maxSteps := 1000000) (disch := omega) only [go_sem, Nat.reduceEqDiff, ↓reduceIte, Nat.reduceLT, Nat.reduceAdd, Nat.reduceSub, Nat.reduceLeDiff, Nat.reduceMul, Int.reduceToNat, reduceCtorEq, toD]
          rfl
        · rfl
    · rw [if_neg hi]
      obtain ⟨y, hy⟩ := get_some (l := a.2.1) (k := i.toNat) (by omega)
      have hyl := tot_mem (List.mem_of_getElem? hy)
      rw [hy, Option.getD_some]
      have hs1 := rSort_spec o (by omega)
      have hs2 := rSort_spec y (by omega)
      have he := sameI_spec (sortL o) (sortL y)
      obtain ⟨n, ls, ar, cs⟩ := a
      dsimp only at hi t1 hy hyl t2
      by_cases hso : sortL o = sortL y
      · rw [if_neg (by simpa using hso)]
        rw [decide_eq_true hso] at he
        have hlen : o.length = y.length := by rw [← sortL_len o, hso, sortL_len]
        obtain ⟨p, rfl⟩ : ∃ p : Nat, i = p := ⟨i.toNat, by omega⟩
        rw [Int.toNat_natCast] at hy ⊢
        refine callsTo_of Try.func29 rfl (by decide +kernel) (Nat.le_of_ble_eq_true rfl) ?_
        intro hat B X w0
        repeat' first
          | refine pw_seq ?_
          | refine pw_skip ?_
          | refine pw_ret ?_
          | refine pw_exit ?_
          | refine pw_block ?_
          | refine pw_region (fun _ => false) hmix ?_
          | (refine run_callT (hv) rfl rfl ?_ ?_; (· first | exact .inl rfl | exact .inr rfl))
          | (refine run_callT (hv) rfl ?_ ?_ ?_; (· first | rfl | (simp (maxSteps := 1000000) (disch := omega) only [go_sem, Nat.reduceEqDiff, ↓reduceIte, Nat.reduceLT, Nat.reduceAdd, Nat.reduceSub, Nat.reduceLeDiff, Nat.reduceMul, Int.reduceToNat, reduceCtorEq, List.append_eq, hy, hlen]; done)); (· first | exact .inl rfl | exact .inr rfl))
          | (refine run_callT (hs1) rfl rfl ?_ ?_; (· first | exact .inl rfl | exact .inr rfl))
          | (refine run_callT (hs1) rfl ?_ ?_ ?_; (· first | rfl | (simp (maxSteps := 1000000) (disch := omega) only [go_sem, Nat.reduceEqDiff, ↓reduceIte, Nat.reduceLT, Nat.reduceAdd, Nat.reduceSub, Nat.reduceLeDiff, Nat.reduceMul, Int.reduceToNat, reduceCtorEq, List.append_eq, hy, hlen]; done)); (· first | exact .inl rfl | exact .inr rfl))
          | (refine run_callT (hs2) rfl rfl ?_ ?_; (· first | exact .inl rfl | exact .inr rfl))
          | (refine run_callT (hs2) rfl ?_ ?_ ?_; (· first | rfl | (simp (maxSteps := 1000000) (disch := omega) only [go_sem, Nat.reduceEqDiff, ↓reduceIte, Nat.reduceLT, Nat.reduceAdd, Nat.reduceSub, Nat.reduceLeDiff, Nat.reduceMul, Int.reduceToNat, reduceCtorEq, List.append_eq, hy, hlen]; done)); (· first | exact .inl rfl | exact .inr rfl))
          | (refine run_callT (he) rfl rfl ?_ ?_; (· first | exact .inl rfl | exact .inr rfl))
          | (refine run_callT (he) rfl ?_ ?_ ?_; (· first | rfl | (simp (maxSteps := 1000000) (disch := omega) only [go_sem, Nat.reduceEqDiff, ↓reduceIte, Nat.reduceLT, Nat.reduceAdd, Nat.reduceSub, Nat.reduceLeDiff, Nat.reduceMul, Int.reduceToNat, reduceCtorEq, List.append_eq, hy, hlen]; done)); (· first | exact .inl rfl | exact .inr rfl))
          | (refine wpG_split rfl rfl (fun hc => ?_) (fun hc => ?_) <;> try simp only [decide_eq_true_eq, decide_eq_false_iff_not, Bool.not_eq_true', Bool.not_eq_false', Bool.false_eq_true, Bool.true_eq_false, reduceCtorEq, Bool.and_eq_true, Bool.or_eq_true, not_and, not_or] at hc)
          | (refine pw_cond _ rfl rfl (fun hc => ?_) (fun hc => ?_) <;> (try simp only [decide_eq_true_eq, decide_eq_false_iff_not, Bool.not_eq_true', Bool.not_eq_false', Bool.false_eq_true, Bool.true_eq_false, reduceCtorEq, Bool.and_eq_true, Bool.or_eq_true, not_and, not_or] at hc) <;> try (exfalso; omega))
          | simp (maxSteps := 1000000) (disch := omega) only [go_sem, Nat.reduceEqDiff, ↓reduceIte, Nat.reduceLT, Nat.reduceAdd, Nat.reduceSub, Nat.reduceLeDiff, Nat.reduceMul, Int.reduceToNat, reduceCtorEq, List.append_eq, hy, hlen]
          | apply And.intro
          | omega
          | decide +kernel
        refine pw_ent _ (ent_nilC 8 1 901 1 rfl rfl rfl) ?_
        refine pw_loopI (κ := Nat) (fun (k : Nat) => k ≤ ls.length) (fun (k : Nat) => [(1, .int p), (2, .d (intsD o)), (3, .ptr 3 0 0 0), (6, .ptr 6 0 0 0), (8, .ptr 8 0 0 0), (9, .int k)]) (fun (k : Nat) => [(3, .cells [.int n, .d (listsD ls), .d (arcsD ar), .d (listsD cs)]), (6, .cells [.int 0, .nilS, .nilS, .nilS]), (8, .cells [.int n, .ref 901 1 0 k k, .d (arcsD ar), .d (listsD cs)]), (901, .row 1 (((ls.set p o).take k).map intsD))]) (fun (k : Nat) => ls.length - k) 0 ?_ ?_ ?_
        · exact Nat.zero_le _
        · exact entL_ren [] _ _ (by (repeat' first | exact List.forall_mem_nil _ | refine List.forall_mem_cons.2 ⟨(by first | rfl | (simp (disch := omega) only [go_sem, Nat.reduceEqDiff, ↓reduceIte, Nat.reduceLT, Nat.reduceAdd, Nat.reduceSub, Nat.reduceLeDiff, Nat.reduceMul, Int.reduceToNat, reduceCtorEq, List.take_zero, List.map_nil, PV.d.injEq, PV.ref.injEq, D.sc.injEq, Value.int.injEq, Value.bool.injEq, Ob.row.injEq, true_and, and_true]; first | done | omega | (congr 1; done))), ?_⟩); done) (by (repeat' first | exact List.forall_mem_nil _ | refine List.forall_mem_cons.2 ⟨(by first | rfl | (simp (disch := omega) only [go_sem, Nat.reduceEqDiff, ↓reduceIte, Nat.reduceLT, Nat.reduceAdd, Nat.reduceSub, Nat.reduceLeDiff, Nat.reduceMul, Int.reduceToNat, reduceCtorEq, List.take_zero, List.map_nil, PV.d.injEq, PV.ref.injEq, D.sc.injEq, Value.int.injEq, Value.bool.injEq, Ob.row.injEq, true_and, and_true]; first | done | omega | (congr 1; done))), ?_⟩); done) rfl rfl (nodup_of rfl) rfl (by (repeat' first | exact pd_of _ rfl | exact pd_dead | refine pd_upd rfl ?_ | refine pd_frz ?_); done)
        · intro k hk
          have hlk : (((ls.set p o).take k).map intsD).length = k := by rw [List.length_map, List.length_take, List.length_set]; omega
          have htk : List.take k (((ls.set p o).take k).map intsD) = ((ls.set p o).take k).map intsD := List.take_of_length_le (by rw [hlk]; exact Nat.le_refl _)
          rcases Nat.lt_or_ge k ls.length with hlt | hge
          · obtain ⟨q, hq⟩ := get_some hlt
            by_cases hkp : k = p
            · subst hkp
              have hts := take_snoc (l := ls.set k o) (k := k) (x := o) (by rw [List.getElem?_set, if_pos rfl, if_pos hlt])
              repeat' first
                | refine pw_seq ?_
                | refine pw_skip ?_
                | refine pw_ret ?_
                | refine pw_exit ?_
                | refine pw_block ?_
                | refine pw_region (fun _ => false) hmix ?_
                | (refine wpG_split rfl rfl (fun hc => ?_) (fun hc => ?_) <;> try simp only [decide_eq_true_eq, decide_eq_false_iff_not, Bool.not_eq_true', Bool.not_eq_false', Bool.false_eq_true, Bool.true_eq_false, reduceCtorEq, Bool.and_eq_true, Bool.or_eq_true, not_and, not_or] at hc)
                | (refine pw_cond _ rfl rfl (fun hc => ?_) (fun hc => ?_) <;> (try simp only [decide_eq_true_eq, decide_eq_false_iff_not, Bool.not_eq_true', Bool.not_eq_false', Bool.false_eq_true, Bool.true_eq_false, reduceCtorEq, Bool.and_eq_true, Bool.or_eq_true, not_and, not_or] at hc) <;> try (exfalso; omega))
                | simp (maxSteps := 1000000) (disch := omega) only [go_sem, Nat.reduceEqDiff, ↓reduceIte, Nat.reduceLT, Nat.reduceAdd, Nat.reduceSub, Nat.reduceLeDiff, Nat.reduceMul, Int.reduceToNat, reduceCtorEq, hq, hlk, roomy]
                | apply And.intro
                | omega
                | decide +kernel
              refine ⟨k + 1, ?_, entL_ren [(901, 67)] _ _ (by (repeat' first | exact List.forall_mem_nil _ | refine List.forall_mem_cons.2 ⟨(by first | rfl | (simp (disch := omega) only [go_sem, Nat.reduceEqDiff, ↓reduceIte, Nat.reduceLT, Nat.reduceAdd, Nat.reduceSub, Nat.reduceLeDiff, Nat.reduceMul, Int.reduceToNat, reduceCtorEq, hts, List.map_append, htk, PV.d.injEq, PV.ref.injEq, D.sc.injEq, Value.int.injEq, Value.bool.injEq, Ob.row.injEq, true_and, and_true]; first | done | omega | (congr 1; done))), ?_⟩); done) (by (repeat' first | exact List.forall_mem_nil _ | refine List.forall_mem_cons.2 ⟨(by first | rfl | (simp (disch := omega) only [go_sem, Nat.reduceEqDiff, ↓reduceIte, Nat.reduceLT, Nat.reduceAdd, Nat.reduceSub, Nat.reduceLeDiff, Nat.reduceMul, Int.reduceToNat, reduceCtorEq, hts, List.map_append, htk, PV.d.injEq, PV.ref.injEq, D.sc.injEq, Value.int.injEq, Value.bool.injEq, Ob.row.injEq, true_and, and_true]; first | done | omega | (congr 1; done))), ?_⟩); done) rfl rfl (nodup_of rfl) rfl (by (repeat' first | exact pd_of _ rfl | exact pd_dead | refine pd_upd rfl ?_ | refine pd_frz ?_); done), ?_⟩
              · omega
              · omega
            · have hts := take_snoc (l := ls.set p o) (k := k) (x := q) (by rw [List.getElem?_set, if_neg (by omega), hq])
              have hkp2 : ¬ (k : Int) = p := by omega
              repeat' first
                | refine pw_seq ?_
                | refine pw_skip ?_
                | refine pw_ret ?_
                | refine pw_exit ?_
                | refine pw_block ?_
                | refine pw_region (fun _ => false) hmix ?_
                | (refine wpG_split rfl rfl (fun hc => ?_) (fun hc => ?_) <;> try simp only [decide_eq_true_eq, decide_eq_false_iff_not, Bool.not_eq_true', Bool.not_eq_false', Bool.false_eq_true, Bool.true_eq_false, reduceCtorEq, Bool.and_eq_true, Bool.or_eq_true, not_and, not_or] at hc)
                | (refine pw_cond _ rfl rfl (fun hc => ?_) (fun hc => ?_) <;> (try simp only [decide_eq_true_eq, decide_eq_false_iff_not, Bool.not_eq_true', Bool.not_eq_false', Bool.false_eq_true, Bool.true_eq_false, reduceCtorEq, Bool.and_eq_true, Bool.or_eq_true, not_and, not_or] at hc) <;> try (exfalso; omega))
                | simp (maxSteps := 1000000) (disch := omega) only [go_sem, Nat.reduceEqDiff, ↓reduceIte, Nat.reduceLT, Nat.reduceAdd, Nat.reduceSub, Nat.reduceLeDiff, Nat.reduceMul, Int.reduceToNat, reduceCtorEq, hq, hlk, roomy, hkp2]
                | apply And.intro
                | omega
                | decide +kernel
              refine ⟨k + 1, ?_, entL_ren [(901, 77)] _ _ (by (repeat' first | exact List.forall_mem_nil _ | refine List.forall_mem_cons.2 ⟨(by first | rfl | (simp (disch := omega) only [go_sem, Nat.reduceEqDiff, ↓reduceIte, Nat.reduceLT, Nat.reduceAdd, Nat.reduceSub, Nat.reduceLeDiff, Nat.reduceMul, Int.reduceToNat, reduceCtorEq, hts, List.map_append, htk, PV.d.injEq, PV.ref.injEq, D.sc.injEq, Value.int.injEq, Value.bool.injEq, Ob.row.injEq, true_and, and_true]; first | done | omega | (congr 1; done))), ?_⟩); done) (by (repeat' first | exact List.forall_mem_nil _ | refine List.forall_mem_cons.2 ⟨(by first | rfl | (simp (disch := omega) only [go_sem, Nat.reduceEqDiff, ↓reduceIte, Nat.reduceLT, Nat.reduceAdd, Nat.reduceSub, Nat.reduceLeDiff, Nat.reduceMul, Int.reduceToNat, reduceCtorEq, hts, List.map_append, htk, PV.d.injEq, PV.ref.injEq, D.sc.injEq, Value.int.injEq, Value.bool.injEq, Ob.row.injEq, true_and, and_true]; first | done | omega | (congr 1; done))), ?_⟩); done) rfl rfl (nodup_of rfl) rfl (by (repeat' first | exact pd_of _ rfl | exact pd_dead | refine pd_upd rfl ?_ | refine pd_frz ?_); done), ?_⟩
              · omega
              · omega
          · have : k = ls.length := by omega
            subst this
            repeat' first
              | refine pw_seq ?_
              | refine pw_skip ?_
              | refine pw_ret ?_
              | refine pw_exit ?_
              | refine pw_block ?_
              | refine pw_region (fun _ => false) hmix ?_
              | (refine wpG_split rfl rfl (fun hc => ?_) (fun hc => ?_) <;> try simp only [decide_eq_true_eq, decide_eq_false_iff_not, Bool.not_eq_true', Bool.not_eq_false', Bool.false_eq_true, Bool.true_eq_false, reduceCtorEq, Bool.and_eq_true, Bool.or_eq_true, not_and, not_or] at hc)
              | (refine pw_cond _ rfl rfl (fun hc => ?_) (fun hc => ?_) <;> (try simp only [decide_eq_true_eq, decide_eq_false_iff_not, Bool.not_eq_true', Bool.not_eq_false', Bool.false_eq_true, Bool.true_eq_false, reduceCtorEq, Bool.and_eq_true, Bool.or_eq_true, not_and, not_or] at hc) <;> try (exfalso; omega))
              | simp (maxSteps := 1000000) (disch := omega) only [go_sem, Nat.reduceEqDiff, ↓reduceIte, Nat.reduceLT, Nat.reduceAdd, Nat.reduceSub, Nat.reduceLeDiff, Nat.reduceMul, Int.reduceToNat, reduceCtorEq]
              | apply And.intro
              | omega
              | decide +kernel
            refine ⟨_, rfl, ⟨_, _, _, _, rfl, ?_⟩, int_some rfl, trivial⟩
            have htl : (ls.set p o).take ls.length = ls.set p o := List.take_of_length_le (by rw [List.length_set]; exact Nat.le_refl _)
            simp (maxSteps := 1000000) (disch := omega) only [go_sem, Nat.reduceEqDiff, ↓reduceIte, Nat.reduceLT, Nat.reduceAdd, Nat.reduceSub, Nat.reduceLeDiff, Nat.reduceMul, Int.reduceToNat, reduceCtorEq, toD, htl, List.length_map, List.length_set, Nat.le_refl, List.drop_zero]
            rw [List.take_of_length_le (by rw [List.length_map, List.length_set]; exact Nat.le_refl _)]
      · rw [if_pos (by simpa using hso)]
        rw [decide_eq_false hso] at he
        by_cases hlen : o.length = y.length
        all_goals
          refine callsTo_of Try.func29 rfl (by decide +kernel) (Nat.le_of_ble_eq_true rfl) ?_
          intro hat B X w0
          have hol := at_len 2 hat rfl
          rw [List.length_map] at hol
          repeat' first
            | refine pw_seq ?_
            | refine pw_skip ?_
            | refine pw_ret ?_
            | refine pw_exit ?_
            | refine pw_block ?_
            | refine pw_region (fun _ => false) hmix ?_
            | (refine run_callT (hv) rfl rfl ?_ ?_; (· first | exact .inl rfl | exact .inr rfl))
            | (refine run_callT (hv) rfl ?_ ?_ ?_; (· first | rfl | (simp (maxSteps := 1000000) (disch := omega) only [go_sem, Nat.reduceEqDiff, ↓reduceIte, Nat.reduceLT, Nat.reduceAdd, Nat.reduceSub, Nat.reduceLeDiff, Nat.reduceMul, Int.reduceToNat, reduceCtorEq, List.append_eq, hy, hlen]; done)); (· first | exact .inl rfl | exact .inr rfl))
            | (refine run_callT (hs1) rfl rfl ?_ ?_; (· first | exact .inl rfl | exact .inr rfl))
            | (refine run_callT (hs1) rfl ?_ ?_ ?_; (· first | rfl | (simp (maxSteps := 1000000) (disch := omega) only [go_sem, Nat.reduceEqDiff, ↓reduceIte, Nat.reduceLT, Nat.reduceAdd, Nat.reduceSub, Nat.reduceLeDiff, Nat.reduceMul, Int.reduceToNat, reduceCtorEq, List.append_eq, hy, hlen]; done)); (· first | exact .inl rfl | exact .inr rfl))
            | (refine run_callT (hs2) rfl rfl ?_ ?_; (· first | exact .inl rfl | exact .inr rfl))
            | (refine run_callT (hs2) rfl ?_ ?_ ?_; (· first | rfl | (simp (maxSteps := 1000000) (disch := omega) only [go_sem, Nat.reduceEqDiff, ↓reduceIte, Nat.reduceLT, Nat.reduceAdd, Nat.reduceSub, Nat.reduceLeDiff, Nat.reduceMul, Int.reduceToNat, reduceCtorEq, List.append_eq, hy, hlen]; done)); (· first | exact .inl rfl | exact .inr rfl))
            | (refine run_callT (he) rfl rfl ?_ ?_; (· first | exact .inl rfl | exact .inr rfl))
            | (refine run_callT (he) rfl ?_ ?_ ?_; (· first | rfl | (simp (maxSteps := 1000000) (disch := omega) only [go_sem, Nat.reduceEqDiff, ↓reduceIte, Nat.reduceLT, Nat.reduceAdd, Nat.reduceSub, Nat.reduceLeDiff, Nat.reduceMul, Int.reduceToNat, reduceCtorEq, List.append_eq, hy, hlen]; done)); (· first | exact .inl rfl | exact .inr rfl))
            | (refine wpG_split rfl rfl (fun hc => ?_) (fun hc => ?_) <;> try simp only [decide_eq_true_eq, decide_eq_false_iff_not, Bool.not_eq_true', Bool.not_eq_false', Bool.false_eq_true, Bool.true_eq_false, reduceCtorEq, Bool.and_eq_true, Bool.or_eq_true, not_and, not_or] at hc)
            | (refine pw_cond _ rfl rfl (fun hc => ?_) (fun hc => ?_) <;> (try simp only [decide_eq_true_eq, decide_eq_false_iff_not, Bool.not_eq_true', Bool.not_eq_false', Bool.false_eq_true, Bool.true_eq_false, reduceCtorEq, Bool.and_eq_true, Bool.or_eq_true, not_and, not_or] at hc) <;> try (exfalso; omega))
            | simp (maxSteps := 1000000) (disch := omega) only [go_sem, Nat.reduceEqDiff, ↓reduceIte, Nat.reduceLT, Nat.reduceAdd, Nat.reduceSub, Nat.reduceLeDiff, Nat.reduceMul, Int.reduceToNat, reduceCtorEq, List.append_eq, hy, hlen]
            | apply And.intro
            | omega
            | decide +kernel
          all_goals
            refine ⟨_, rfl, ⟨_, _, _, _, rfl, ?_⟩, int_some ?_, trivial⟩
            · simp (maxSteps := 1000000) (disch := omega) only [go_sem, Nat.reduceEqDiff, ↓reduceIte, Nat.reduceLT, Nat.reduceAdd, Nat.reduceSub, Nat.reduceLeDiff, Nat.reduceMul, Int.reduceToNat, reduceCtorEq, toD]
              rfl
            · rfl
/-- Validity does not hang on the order in the layers. -/
theorem valid_sort {a b : Lv} (h : sortLv a = sortLv b) : validF a = validF b := by
  obtain ⟨n, ls, ar, cs⟩ := a
  obtain ⟨n', ls', ar', cs'⟩ := b
  simp only [sortLv, Prod.mk.injEq] at h
  obtain ⟨rfl, h, rfl, rfl⟩ := h
  have hlay : ∀ v, layI ls v = layI ls' v := fun v => by rw [← sort_lay, h, sort_lay]
  have hlen : ls.length = ls'.length := by rw [← List.length_map (f := sortL), h, List.length_map]
  simp only [validF, headOk, foundOk, srcG, ranksV, lostV, sortLv, hlay, hlen, h]
  have e : ∀ w : Nat → Bool, w = w := fun _ => rfl
  congr 3
  · congr 1
    congr 1
    funext v
    simp only [lostV, hlay]
theorem reorder_sort {a : Lv} {i : Nat} {o y : List Int} (hy : a.2.1[i]? = some y) (h : sortL o = sortL y) : sortLv (a.1, a.2.1.set i o, a.2.2.1, a.2.2.2) = sortLv a := by
  simp only [sortLv, List.map_set, h]
  congr 2
  refine List.ext_getElem? fun u => ?_
  rw [List.getElem?_set]
  split
  · subst i
    rw [List.getElem?_map, hy]
    split
    · rfl
    · rename_i hn
      rw [List.length_map] at hn
      exact absurd (List.getElem?_eq_some_iff.1 hy).1 hn
  · rfl
theorem reorder_valid {a : Lv} {i : Int} {o : List Int} (h : (reorderF a i o).2 = 0) : validF (reorderF a i o).1 = true := by
  rw [reorderF] at h ⊢
  split at h
  · cases h
  · rename_i h1
    split at h
    · cases h
    · rename_i h2
      split at h
      · cases h
      · rename_i h3
        rw [if_neg h1, if_neg h2, if_neg h3]
        obtain ⟨y, hy⟩ := get_some (l := a.2.1) (k := i.toNat) (by omega)
        rw [hy, Option.getD_some] at h3
        rw [valid_sort (reorder_sort hy (Decidable.not_not.1 h3))]
        simpa using h1
theorem reorder_wide {a : Lv} {i : Int} {o : List Int} (hw : wide a) (ho : o.length ≤ 600) : wide (reorderF a i o).1 := by
  rw [reorderF]
  split
  · intro y hy; cases hy
  · split
    · intro y hy; cases hy
    · split
      · intro y hy; cases hy
      · intro y hy
        rcases List.mem_or_eq_of_mem_set hy with hy | rfl
        · exact hw y hy
        · omega
end Go.Proofs.Ytpmmikkojpcogaa
