/- The law of restored levels. -/
import Derived.Test.YtpmmikkojpcogaaT
namespace Go.Proofs.Ytpmmikkojpcogaa
open Go Go.PS Go.Proofs
set_option maxRecDepth 100000
set_option linter.unusedSimpArgs false
set_option linter.unusedVariables false
attribute [local irreducible] wpRun wpG CallsTo CallsM

set_option maxHeartbeats 4000000 in
theorem lawRestores (a : Lv) (hw : wide a) : CallsTo Try.prog 8 [lvD a] (.bool true) := by
  have h1 := small_spec a
  have h2 := LvValid_spec a hw
  have h7 := awake_spec
  by_cases hs : smallF a = true ∧ validF a = true
  · obtain ⟨hs, hvv⟩ := hs
    rw [hs] at h1
    rw [hvv] at h2
    obtain ⟨v1, v2, v3, v4, v5⟩ := valid_head hvv
    obtain ⟨s1, s2, s3⟩ := lv_sizes hvv
    obtain ⟨t1, t2⟩ := lv_le hvv
    have hpl := plain_spec a (by omega) (fun y hy => by have := tot_mem hy; omega)
    have hbd := Build_spec (srcG a) (ranksV a)
    have hb2 : buildF (srcG a) (ranksV a) = (sortLv a, 0) := Prod.ext v5.symm v4
    rw [hb2] at hbd
    have hsm := rSame_spec (sortLv a) (sortLv a)
    rw [sameLv_iff.2 rfl] at hsm
    have hrk := fun v => Rank_spec a v hw
    have hrf : ∀ v, rankF a v = layI a.2.1 v := fun v => by rw [rankF, if_pos hvv]
    simp only [hrf] at hrk
    obtain ⟨m, ls, ar, cs⟩ := a
    simp only [headOk, decide_eq_true_eq] at v1
    obtain ⟨n, rfl⟩ : ∃ n : Nat, m = n := ⟨m.toNat, by omega⟩
    have hsg : srcG ((n : Int), ls, ar, cs) = ((n : Int), cs.map endsA) := rfl
    rw [hsg] at hbd
    have hRg : ∀ v : Nat, v < n → (ranksV ((n : Int), ls, ar, cs))[v]? = some (layI ls v) := fun v hv => by simp [ranksV, hv]
    have hRl : (ranksV ((n : Int), ls, ar, cs)).length = n := by simp [ranksV]
    generalize ranksV ((n : Int), ls, ar, cs) = R at *
    generalize sortLv ((n : Int), ls, ar, cs) = S at *
    dsimp only at s1 s2 s3 v2 hrk
    refine callsTo_of Try.func8 rfl (by decide +kernel) (Nat.le_of_ble_eq_true rfl) ?_
    intro hat B X w0
    repeat' first
      | refine pw_seq ?_
      | refine pw_skip ?_
      | refine pw_ret ?_
      | refine pw_exit ?_
      | refine pw_block ?_
      | refine pw_region (fun _ => false) hmix ?_
      | (refine run_callT (h1) rfl rfl ?_ ?_; (· first | exact .inl rfl | exact .inr rfl))
      | (refine run_callT (h1) rfl ?_ ?_ ?_; (· first | rfl | (simp (maxSteps := 1000000) (disch := omega) only [go_sem, Nat.reduceEqDiff, ↓reduceIte, Nat.reduceLT, Nat.reduceAdd, Nat.reduceSub, Nat.reduceLeDiff, Nat.reduceMul, Int.reduceToNat, reduceCtorEq, List.append_eq]; done)); (· first | exact .inl rfl | exact .inr rfl))
      | (refine run_callT (h2) rfl rfl ?_ ?_; (· first | exact .inl rfl | exact .inr rfl))
      | (refine run_callT (h2) rfl ?_ ?_ ?_; (· first | rfl | (simp (maxSteps := 1000000) (disch := omega) only [go_sem, Nat.reduceEqDiff, ↓reduceIte, Nat.reduceLT, Nat.reduceAdd, Nat.reduceSub, Nat.reduceLeDiff, Nat.reduceMul, Int.reduceToNat, reduceCtorEq, List.append_eq]; done)); (· first | exact .inl rfl | exact .inr rfl))
      | (refine wpG_split rfl rfl (fun hc => ?_) (fun hc => ?_) <;> try simp only [decide_eq_true_eq, decide_eq_false_iff_not, Bool.not_eq_true', Bool.not_eq_false', Bool.false_eq_true, Bool.true_eq_false, reduceCtorEq, Bool.and_eq_true, Bool.or_eq_true, not_and, not_or] at hc)
      | (refine pw_cond _ rfl rfl (fun hc => ?_) (fun hc => ?_) <;> (try simp only [decide_eq_true_eq, decide_eq_false_iff_not, Bool.not_eq_true', Bool.not_eq_false', Bool.false_eq_true, Bool.true_eq_false, reduceCtorEq, Bool.and_eq_true, Bool.or_eq_true, not_and, not_or] at hc) <;> try (exfalso; omega))
      | simp (maxSteps := 1000000) (disch := omega) only [go_sem, Nat.reduceEqDiff, ↓reduceIte, Nat.reduceLT, Nat.reduceAdd, Nat.reduceSub, Nat.reduceLeDiff, Nat.reduceMul, Int.reduceToNat, reduceCtorEq, List.append_eq]
      | apply And.intro
      | omega
      | decide +kernel
    refine pw_ent _ (ent_nilC 3 1 901 2 rfl rfl rfl) ?_
    refine pw_ent _ (ent_nil 4 902 1 rfl rfl) ?_
    refine pw_loopI (κ := Nat) (fun (v : Nat) => v ≤ n) (fun (v : Nat) => [(1, .ptr 1 0 0 0), (3, .ptr 3 0 0 0), (4, .ref 902 1 0 v v), (5, .int v)]) (fun (v : Nat) => [(1, .cells [.int n, .d (listsD ls), .d (arcsD ar), .d (listsD cs)]), (3, .cells [.int n, .ref 901 2 0 0 0]), (901, .row 2 []), (902, .row 1 ((R.take v).map D.int))]) (fun (v : Nat) => n - v) 0 ?_ ?_ ?_
    · exact Nat.zero_le _
    · exact entL_ren [] _ _ (by (repeat' first | exact List.forall_mem_nil _ | refine List.forall_mem_cons.2 ⟨(by first | rfl | (simp (disch := omega) only [go_sem, Nat.reduceEqDiff, ↓reduceIte, Nat.reduceLT, Nat.reduceAdd, Nat.reduceSub, Nat.reduceLeDiff, Nat.reduceMul, Int.reduceToNat, reduceCtorEq, List.take_zero, List.map_nil, PV.d.injEq, PV.ref.injEq, D.sc.injEq, Value.int.injEq, Value.bool.injEq, Ob.row.injEq, true_and, and_true]; first | done | omega | (congr 1; done))), ?_⟩); done) (by (repeat' first | exact List.forall_mem_nil _ | refine List.forall_mem_cons.2 ⟨(by first | rfl | (simp (disch := omega) only [go_sem, Nat.reduceEqDiff, ↓reduceIte, Nat.reduceLT, Nat.reduceAdd, Nat.reduceSub, Nat.reduceLeDiff, Nat.reduceMul, Int.reduceToNat, reduceCtorEq, List.take_zero, List.map_nil, PV.d.injEq, PV.ref.injEq, D.sc.injEq, Value.int.injEq, Value.bool.injEq, Ob.row.injEq, true_and, and_true]; first | done | omega | (congr 1; done))), ?_⟩); done) rfl rfl (nodup_of rfl) rfl (by (repeat' first | exact pd_of _ rfl | exact pd_dead | refine pd_upd rfl ?_ | refine pd_frz ?_); done)
    · intro v hv
      have hlk : ((R.take v).map D.int).length = v := by rw [List.length_map, List.length_take]; omega
      have htk : List.take v ((R.take v).map D.int) = (R.take v).map D.int := List.take_of_length_le (by rw [hlk]; exact Nat.le_refl _)
      rcases Nat.lt_or_ge v n with hlt | hge
      · have hr := hrk v
        have hts := take_snoc (hRg v hlt)
        repeat' first
          | refine pw_seq ?_
          | refine pw_skip ?_
          | refine pw_ret ?_
          | refine pw_exit ?_
          | refine pw_block ?_
          | refine pw_region (fun _ => false) hmix ?_
          | (refine run_callT (hr) rfl rfl ?_ ?_; (· first | exact .inl rfl | exact .inr rfl))
          | (refine run_callT (hr) rfl ?_ ?_ ?_; (· first | rfl | (simp (maxSteps := 1000000) (disch := omega) only [go_sem, Nat.reduceEqDiff, ↓reduceIte, Nat.reduceLT, Nat.reduceAdd, Nat.reduceSub, Nat.reduceLeDiff, Nat.reduceMul, Int.reduceToNat, reduceCtorEq, hlk, roomy]; done)); (· first | exact .inl rfl | exact .inr rfl))
          | (refine wpG_split rfl rfl (fun hc => ?_) (fun hc => ?_) <;> try simp only [decide_eq_true_eq, decide_eq_false_iff_not, Bool.not_eq_true', Bool.not_eq_false', Bool.false_eq_true, Bool.true_eq_false, reduceCtorEq, Bool.and_eq_true, Bool.or_eq_true, not_and, not_or] at hc)
          | (refine pw_cond _ rfl rfl (fun hc => ?_) (fun hc => ?_) <;> (try simp only [decide_eq_true_eq, decide_eq_false_iff_not, Bool.not_eq_true', Bool.not_eq_false', Bool.false_eq_true, Bool.true_eq_false, reduceCtorEq, Bool.and_eq_true, Bool.or_eq_true, not_and, not_or] at hc) <;> try (exfalso; omega))
          | simp (maxSteps := 1000000) (disch := omega) only [go_sem, Nat.reduceEqDiff, ↓reduceIte, Nat.reduceLT, Nat.reduceAdd, Nat.reduceSub, Nat.reduceLeDiff, Nat.reduceMul, Int.reduceToNat, reduceCtorEq, hlk, roomy]
          | apply And.intro
          | omega
          | decide +kernel
        refine ⟨v + 1, ?_, entL_ren [(902, 33)] _ _ (by (repeat' first | exact List.forall_mem_nil _ | refine List.forall_mem_cons.2 ⟨(by first | rfl | (simp (disch := omega) only [go_sem, Nat.reduceEqDiff, ↓reduceIte, Nat.reduceLT, Nat.reduceAdd, Nat.reduceSub, Nat.reduceLeDiff, Nat.reduceMul, Int.reduceToNat, reduceCtorEq, hts, List.map_append, htk, PV.d.injEq, PV.ref.injEq, D.sc.injEq, Value.int.injEq, Value.bool.injEq, Ob.row.injEq, true_and, and_true]; first | done | omega | (congr 1; done))), ?_⟩); done) (by (repeat' first | exact List.forall_mem_nil _ | refine List.forall_mem_cons.2 ⟨(by first | rfl | (simp (disch := omega) only [go_sem, Nat.reduceEqDiff, ↓reduceIte, Nat.reduceLT, Nat.reduceAdd, Nat.reduceSub, Nat.reduceLeDiff, Nat.reduceMul, Int.reduceToNat, reduceCtorEq, hts, List.map_append, htk, PV.d.injEq, PV.ref.injEq, D.sc.injEq, Value.int.injEq, Value.bool.injEq, Ob.row.injEq, true_and, and_true]; first | done | omega | (congr 1; done))), ?_⟩); done) rfl rfl (nodup_of rfl) rfl (by (repeat' first | exact pd_of _ rfl | exact pd_dead | refine pd_upd rfl ?_ | refine pd_frz ?_); done), ?_⟩
        · omega
        · omega
      · have : v = n := by omega
        subst this
        try dsimp only
        rw [List.take_of_length_le (by omega)]
        repeat' first
          | refine pw_seq ?_
          | refine pw_skip ?_
          | refine pw_ret ?_
          | refine pw_exit ?_
          | refine pw_block ?_
          | refine pw_region (fun _ => false) hmix ?_
          | (refine wpG_split rfl rfl (fun hc => ?_) (fun hc => ?_) <;> try simp only [decide_eq_true_eq, decide_eq_false_iff_not, Bool.not_eq_true', Bool.not_eq_false', Bool.false_eq_true, Bool.true_eq_false, reduceCtorEq, Bool.and_eq_true, Bool.or_eq_true, not_and, not_or] at hc)
          | (refine pw_cond _ rfl rfl (fun hc => ?_) (fun hc => ?_) <;> (try simp only [decide_eq_true_eq, decide_eq_false_iff_not, Bool.not_eq_true', Bool.not_eq_false', Bool.false_eq_true, Bool.true_eq_false, reduceCtorEq, Bool.and_eq_true, Bool.or_eq_true, not_and, not_or] at hc) <;> try (exfalso; omega))
          | simp (maxSteps := 1000000) (disch := omega) only [go_sem, Nat.reduceEqDiff, ↓reduceIte, Nat.reduceLT, Nat.reduceAdd, Nat.reduceSub, Nat.reduceLeDiff, Nat.reduceMul, Int.reduceToNat, reduceCtorEq]
          | apply And.intro
          | omega
          | decide +kernel
        refine pw_loopI (κ := Nat) (fun (k : Nat) => k ≤ cs.length) (fun (k : Nat) => [(1, .ptr 1 0 0 0), (3, .ptr 3 0 0 0), (4, .ref 902 1 0 v v), (6, .int k)]) (fun (k : Nat) => [(1, .cells [.int v, .d (listsD ls), .d (arcsD ar), .d (listsD cs)]), (3, .cells [.int v, .ref 901 2 0 k k]), (901, .row 2 (((cs.take k).map endsA).map arcD)), (902, .row 1 (R.map D.int))]) (fun (k : Nat) => cs.length - k) 0 ?_ ?_ ?_
        · exact Nat.zero_le _
        · exact entL_ren [] _ _ (by (repeat' first | exact List.forall_mem_nil _ | refine List.forall_mem_cons.2 ⟨(by first | rfl | (simp (disch := omega) only [go_sem, Nat.reduceEqDiff, ↓reduceIte, Nat.reduceLT, Nat.reduceAdd, Nat.reduceSub, Nat.reduceLeDiff, Nat.reduceMul, Int.reduceToNat, reduceCtorEq, List.take_zero, List.map_nil, PV.d.injEq, PV.ref.injEq, D.sc.injEq, Value.int.injEq, Value.bool.injEq, Ob.row.injEq, true_and, and_true]; first | done | omega | (congr 1; done))), ?_⟩); done) (by (repeat' first | exact List.forall_mem_nil _ | refine List.forall_mem_cons.2 ⟨(by first | rfl | (simp (disch := omega) only [go_sem, Nat.reduceEqDiff, ↓reduceIte, Nat.reduceLT, Nat.reduceAdd, Nat.reduceSub, Nat.reduceLeDiff, Nat.reduceMul, Int.reduceToNat, reduceCtorEq, List.take_zero, List.map_nil, PV.d.injEq, PV.ref.injEq, D.sc.injEq, Value.int.injEq, Value.bool.injEq, Ob.row.injEq, true_and, and_true]; first | done | omega | (congr 1; done))), ?_⟩); done) rfl rfl (nodup_of rfl) rfl (by (repeat' first | exact pd_of _ rfl | exact pd_dead | refine pd_upd rfl ?_ | refine pd_frz ?_); done)
        · intro k hk
          rcases Nat.lt_or_ge k cs.length with hlt | hge
          · obtain ⟨c, hc0⟩ := get_some hlt
            have hc2 := s3 c (List.mem_of_getElem? hc0)
            have hsc : ¬ c.length < 2 := by
              have := List.any_eq_false.1 v2 c (List.mem_of_getElem? hc0)
              simpa [shortC] using this
            have e1 := at0_at (r := c) (i := 0) (by omega)
            have e2 := at0_get (r := c) (v := (c.length : Int) - 1) (by omega) (by omega)
            have hts := take_snoc hc0
            have hlk : (((cs.take k).map endsA).map arcD).length = k := by rw [List.length_map, List.length_map, List.length_take]; omega
            have htk : List.take k (((cs.take k).map endsA).map arcD) = ((cs.take k).map endsA).map arcD := List.take_of_length_le (by rw [hlk]; exact Nat.le_refl _)
            repeat' first
              | refine pw_seq ?_
              | refine pw_skip ?_
              | refine pw_ret ?_
              | refine pw_exit ?_
              | refine pw_block ?_
              | refine pw_region (fun _ => false) hmix ?_
              | (refine wpG_split rfl rfl (fun hc => ?_) (fun hc => ?_) <;> try simp only [decide_eq_true_eq, decide_eq_false_iff_not, Bool.not_eq_true', Bool.not_eq_false', Bool.false_eq_true, Bool.true_eq_false, reduceCtorEq, Bool.and_eq_true, Bool.or_eq_true, not_and, not_or] at hc)
              | (refine pw_cond _ rfl rfl (fun hc => ?_) (fun hc => ?_) <;> (try simp only [decide_eq_true_eq, decide_eq_false_iff_not, Bool.not_eq_true', Bool.not_eq_false', Bool.false_eq_true, Bool.true_eq_false, reduceCtorEq, Bool.and_eq_true, Bool.or_eq_true, not_and, not_or] at hc) <;> try (exfalso; omega))
              | simp (maxSteps := 1000000) (disch := omega) only [go_sem, Nat.reduceEqDiff, ↓reduceIte, Nat.reduceLT, Nat.reduceAdd, Nat.reduceSub, Nat.reduceLeDiff, Nat.reduceMul, Int.reduceToNat, reduceCtorEq, hc0, e1, e2, roomy, hlk]
              | apply And.intro
              | omega
              | decide +kernel
            refine ⟨k + 1, ?_, entL_ren [(901, 62)] _ _ (by (repeat' first | exact List.forall_mem_nil _ | refine List.forall_mem_cons.2 ⟨(by first | rfl | (simp (disch := omega) only [go_sem, Nat.reduceEqDiff, ↓reduceIte, Nat.reduceLT, Nat.reduceAdd, Nat.reduceSub, Nat.reduceLeDiff, Nat.reduceMul, Int.reduceToNat, reduceCtorEq, hts, List.map_append, htk, PV.d.injEq, PV.ref.injEq, D.sc.injEq, Value.int.injEq, Value.bool.injEq, Ob.row.injEq, true_and, and_true]; first | done | omega | (congr 1; done))), ?_⟩); done) (by (repeat' first | exact List.forall_mem_nil _ | refine List.forall_mem_cons.2 ⟨(by first | rfl | (simp (disch := omega) only [go_sem, Nat.reduceEqDiff, ↓reduceIte, Nat.reduceLT, Nat.reduceAdd, Nat.reduceSub, Nat.reduceLeDiff, Nat.reduceMul, Int.reduceToNat, reduceCtorEq, hts, List.map_append, htk, PV.d.injEq, PV.ref.injEq, D.sc.injEq, Value.int.injEq, Value.bool.injEq, Ob.row.injEq, true_and, and_true]; first | done | omega | (congr 1; done))), ?_⟩); done) rfl rfl (nodup_of rfl) rfl (by (repeat' first | exact pd_of _ rfl | exact pd_dead | refine pd_upd rfl ?_ | refine pd_frz ?_); done), ?_⟩
            · omega
            · omega
          · have : k = cs.length := by omega
            subst this
            try dsimp only
            rw [List.take_length]
            have htA : ((cs.map endsA).map arcD).take cs.length = (cs.map endsA).map arcD := List.take_of_length_le (by simp)
            have htR : (R.map D.int).take v = R.map D.int := List.take_of_length_le (by simp [hRl])
            have hlA : ((cs.map endsA).map arcD).length = cs.length := by simp
            have hlR : (R.map D.int).length = v := by simp [hRl]
            refine pw_ent _ (ent_freeze 901 2 ((cs.map endsA).map arcD) rfl (noGone_of _ rfl) (by decide)) ?_
            refine pw_ent _ (ent_ren [] [(1, .ptr 1 0 0 0), (3, .ptr 3 0 0 0), (4, .ref 902 1 0 v v), (6, .int cs.length)] [(1, .cells [.int v, .d (listsD ls), .d (arcsD ar), .d (listsD cs)]), (3, .cells [.int v, .d (arcsD (cs.map endsA))]), (902, .row 1 (R.map D.int))] (by (repeat' first | exact List.forall_mem_nil _ | refine List.forall_mem_cons.2 ⟨(by first | rfl | (simp (disch := omega) only [go_sem, Nat.reduceEqDiff, ↓reduceIte, Nat.reduceLT, Nat.reduceAdd, Nat.reduceSub, Nat.reduceLeDiff, Nat.reduceMul, Int.reduceToNat, reduceCtorEq, List.drop_zero, htA, hlA, Nat.le_refl, PV.d.injEq, PV.ref.injEq, D.sc.injEq, Value.int.injEq, Value.bool.injEq, Ob.row.injEq, true_and, and_true]; first | done | omega | (congr 1; done))), ?_⟩); done) (by (repeat' first | exact List.forall_mem_nil _ | refine List.forall_mem_cons.2 ⟨(by first | rfl | (simp (disch := omega) only [go_sem, Nat.reduceEqDiff, ↓reduceIte, Nat.reduceLT, Nat.reduceAdd, Nat.reduceSub, Nat.reduceLeDiff, Nat.reduceMul, Int.reduceToNat, reduceCtorEq, List.drop_zero, htA, hlA, Nat.le_refl, PV.d.injEq, PV.ref.injEq, D.sc.injEq, Value.int.injEq, Value.bool.injEq, Ob.row.injEq, true_and, and_true]; first | done | omega | (congr 1; done))), ?_⟩); done) rfl rfl (nodup_of rfl) rfl (by (repeat' first | exact pd_of _ rfl | exact pd_dead | refine pd_upd rfl ?_ | refine pd_frz ?_); done)) ?_
            refine pw_ent _ (ent_freeze 902 1 (R.map D.int) rfl (noGone_of _ rfl) (by decide)) ?_
            repeat' first
              | refine pw_seq ?_
              | refine pw_skip ?_
              | refine pw_ret ?_
              | refine pw_exit ?_
              | refine pw_block ?_
              | refine pw_region (fun _ => false) hmix ?_
              | (refine run_callT (hbd) rfl rfl ?_ ?_; (· first | exact .inl rfl | exact .inr rfl))
              | (refine run_callT (hbd) rfl ?_ ?_ ?_; (· first | rfl | (simp (maxSteps := 1000000) (disch := omega) only [go_sem, Nat.reduceEqDiff, ↓reduceIte, Nat.reduceLT, Nat.reduceAdd, Nat.reduceSub, Nat.reduceLeDiff, Nat.reduceMul, Int.reduceToNat, reduceCtorEq, htR, hlR, List.drop_zero]; done)); (· first | exact .inl rfl | exact .inr rfl))
              | (refine run_callT (hpl) rfl rfl ?_ ?_; (· first | exact .inl rfl | exact .inr rfl))
              | (refine run_callT (hpl) rfl ?_ ?_ ?_; (· first | rfl | (simp (maxSteps := 1000000) (disch := omega) only [go_sem, Nat.reduceEqDiff, ↓reduceIte, Nat.reduceLT, Nat.reduceAdd, Nat.reduceSub, Nat.reduceLeDiff, Nat.reduceMul, Int.reduceToNat, reduceCtorEq, htR, hlR, List.drop_zero]; done)); (· first | exact .inl rfl | exact .inr rfl))
              | (refine run_callT (hsm) rfl rfl ?_ ?_; (· first | exact .inl rfl | exact .inr rfl))
              | (refine run_callT (hsm) rfl ?_ ?_ ?_; (· first | rfl | (simp (maxSteps := 1000000) (disch := omega) only [go_sem, Nat.reduceEqDiff, ↓reduceIte, Nat.reduceLT, Nat.reduceAdd, Nat.reduceSub, Nat.reduceLeDiff, Nat.reduceMul, Int.reduceToNat, reduceCtorEq, htR, hlR, List.drop_zero]; done)); (· first | exact .inl rfl | exact .inr rfl))
              | (refine run_callT (h7) rfl rfl ?_ ?_; (· first | exact .inl rfl | exact .inr rfl))
              | (refine run_callT (h7) rfl ?_ ?_ ?_; (· first | rfl | (simp (maxSteps := 1000000) (disch := omega) only [go_sem, Nat.reduceEqDiff, ↓reduceIte, Nat.reduceLT, Nat.reduceAdd, Nat.reduceSub, Nat.reduceLeDiff, Nat.reduceMul, Int.reduceToNat, reduceCtorEq, htR, hlR, List.drop_zero]; done)); (· first | exact .inl rfl | exact .inr rfl))
              | (refine wpG_split rfl rfl (fun hc => ?_) (fun hc => ?_) <;> try simp only [decide_eq_true_eq, decide_eq_false_iff_not, Bool.not_eq_true', Bool.not_eq_false', Bool.false_eq_true, Bool.true_eq_false, reduceCtorEq, Bool.and_eq_true, Bool.or_eq_true, not_and, not_or] at hc)
              | (refine pw_cond _ rfl rfl (fun hc => ?_) (fun hc => ?_) <;> (try simp only [decide_eq_true_eq, decide_eq_false_iff_not, Bool.not_eq_true', Bool.not_eq_false', Bool.false_eq_true, Bool.true_eq_false, reduceCtorEq, Bool.and_eq_true, Bool.or_eq_true, not_and, not_or] at hc) <;> try (exfalso; omega))
              | simp (maxSteps := 1000000) (disch := omega) only [go_sem, Nat.reduceEqDiff, ↓reduceIte, Nat.reduceLT, Nat.reduceAdd, Nat.reduceSub, Nat.reduceLeDiff, Nat.reduceMul, Int.reduceToNat, reduceCtorEq, htR, hlR, List.drop_zero]
              | apply And.intro
              | omega
              | decide +kernel
            exact bool_some rfl
  · rcases hs1 : smallF a with _ | _
    · rw [hs1] at h1
      refine callsTo_of Try.func8 rfl (by decide +kernel) (Nat.le_of_ble_eq_true rfl) ?_
      intro hat B X w0
      repeat' first
        | refine pw_seq ?_
        | refine pw_skip ?_
        | refine pw_ret ?_
        | refine pw_exit ?_
        | refine pw_block ?_
        | refine pw_region (fun _ => false) hmix ?_
        | (refine run_callT (h1) rfl rfl ?_ ?_; (· first | exact .inl rfl | exact .inr rfl))
        | (refine run_callT (h1) rfl ?_ ?_ ?_; (· first | rfl | (simp (maxSteps := 1000000) (disch := omega) only [go_sem, Nat.reduceEqDiff, ↓reduceIte, Nat.reduceLT, Nat.reduceAdd, Nat.reduceSub, Nat.reduceLeDiff, Nat.reduceMul, Int.reduceToNat, reduceCtorEq, List.append_eq]; done)); (· first | exact .inl rfl | exact .inr rfl))
        | (refine run_callT (h2) rfl rfl ?_ ?_; (· first | exact .inl rfl | exact .inr rfl))
        | (refine run_callT (h2) rfl ?_ ?_ ?_; (· first | rfl | (simp (maxSteps := 1000000) (disch := omega) only [go_sem, Nat.reduceEqDiff, ↓reduceIte, Nat.reduceLT, Nat.reduceAdd, Nat.reduceSub, Nat.reduceLeDiff, Nat.reduceMul, Int.reduceToNat, reduceCtorEq, List.append_eq]; done)); (· first | exact .inl rfl | exact .inr rfl))
        | (refine run_callT (h7) rfl rfl ?_ ?_; (· first | exact .inl rfl | exact .inr rfl))
        | (refine run_callT (h7) rfl ?_ ?_ ?_; (· first | rfl | (simp (maxSteps := 1000000) (disch := omega) only [go_sem, Nat.reduceEqDiff, ↓reduceIte, Nat.reduceLT, Nat.reduceAdd, Nat.reduceSub, Nat.reduceLeDiff, Nat.reduceMul, Int.reduceToNat, reduceCtorEq, List.append_eq]; done)); (· first | exact .inl rfl | exact .inr rfl))
        | (refine wpG_split rfl rfl (fun hc => ?_) (fun hc => ?_) <;> try simp only [decide_eq_true_eq, decide_eq_false_iff_not, Bool.not_eq_true', Bool.not_eq_false', Bool.false_eq_true, Bool.true_eq_false, reduceCtorEq, Bool.and_eq_true, Bool.or_eq_true, not_and, not_or] at hc)
        | (refine pw_cond _ rfl rfl (fun hc => ?_) (fun hc => ?_) <;> (try simp only [decide_eq_true_eq, decide_eq_false_iff_not, Bool.not_eq_true', Bool.not_eq_false', Bool.false_eq_true, Bool.true_eq_false, reduceCtorEq, Bool.and_eq_true, Bool.or_eq_true, not_and, not_or] at hc) <;> try (exfalso; omega))
        | simp (maxSteps := 1000000) (disch := omega) only [go_sem, Nat.reduceEqDiff, ↓reduceIte, Nat.reduceLT, Nat.reduceAdd, Nat.reduceSub, Nat.reduceLeDiff, Nat.reduceMul, Int.reduceToNat, reduceCtorEq, List.append_eq]
        | apply And.intro
        | omega
        | decide +kernel
      exact bool_some rfl
    · rcases hs2 : validF a with _ | _
      · rw [hs1] at h1
        rw [hs2] at h2
        refine callsTo_of Try.func8 rfl (by decide +kernel) (Nat.le_of_ble_eq_true rfl) ?_
        intro hat B X w0
        repeat' first
          | refine pw_seq ?_
          | refine pw_skip ?_
          | refine pw_ret ?_
          | refine pw_exit ?_
          | refine pw_block ?_
          | refine pw_region (fun _ => false) hmix ?_
          | (refine run_callT (h1) rfl rfl ?_ ?_; (· first | exact .inl rfl | exact .inr rfl))
          | (refine run_callT (h1) rfl ?_ ?_ ?_; (· first | rfl | (simp (maxSteps := 1000000) (disch := omega) only [go_sem, Nat.reduceEqDiff, ↓reduceIte, Nat.reduceLT, Nat.reduceAdd, Nat.reduceSub, Nat.reduceLeDiff, Nat.reduceMul, Int.reduceToNat, reduceCtorEq, List.append_eq]; done)); (· first | exact .inl rfl | exact .inr rfl))
          | (refine run_callT (h2) rfl rfl ?_ ?_; (· first | exact .inl rfl | exact .inr rfl))
          | (refine run_callT (h2) rfl ?_ ?_ ?_; (· first | rfl | (simp (maxSteps := 1000000) (disch := omega) only [go_sem, Nat.reduceEqDiff, ↓reduceIte, Nat.reduceLT, Nat.reduceAdd, Nat.reduceSub, Nat.reduceLeDiff, Nat.reduceMul, Int.reduceToNat, reduceCtorEq, List.append_eq]; done)); (· first | exact .inl rfl | exact .inr rfl))
          | (refine run_callT (h7) rfl rfl ?_ ?_; (· first | exact .inl rfl | exact .inr rfl))
          | (refine run_callT (h7) rfl ?_ ?_ ?_; (· first | rfl | (simp (maxSteps := 1000000) (disch := omega) only [go_sem, Nat.reduceEqDiff, ↓reduceIte, Nat.reduceLT, Nat.reduceAdd, Nat.reduceSub, Nat.reduceLeDiff, Nat.reduceMul, Int.reduceToNat, reduceCtorEq, List.append_eq]; done)); (· first | exact .inl rfl | exact .inr rfl))
          | (refine wpG_split rfl rfl (fun hc => ?_) (fun hc => ?_) <;> try simp only [decide_eq_true_eq, decide_eq_false_iff_not, Bool.not_eq_true', Bool.not_eq_false', Bool.false_eq_true, Bool.true_eq_false, reduceCtorEq, Bool.and_eq_true, Bool.or_eq_true, not_and, not_or] at hc)
          | (refine pw_cond _ rfl rfl (fun hc => ?_) (fun hc => ?_) <;> (try simp only [decide_eq_true_eq, decide_eq_false_iff_not, Bool.not_eq_true', Bool.not_eq_false', Bool.false_eq_true, Bool.true_eq_false, reduceCtorEq, Bool.and_eq_true, Bool.or_eq_true, not_and, not_or] at hc) <;> try (exfalso; omega))
          | simp (maxSteps := 1000000) (disch := omega) only [go_sem, Nat.reduceEqDiff, ↓reduceIte, Nat.reduceLT, Nat.reduceAdd, Nat.reduceSub, Nat.reduceLeDiff, Nat.reduceMul, Int.reduceToNat, reduceCtorEq, List.append_eq]
          | apply And.intro
          | omega
          | decide +kernel
        exact bool_some rfl
      · exact absurd ⟨hs1, hs2⟩ hs
end Go.Proofs.Ytpmmikkojpcogaa
