/- The law of proper levels: the walk. -/
import Derived.Test.YtpmmikkojpcogaaW
namespace Go.Proofs.Ytpmmikkojpcogaa
open Go Go.PS Go.Proofs
set_option maxRecDepth 100000
set_option linter.unusedSimpArgs false
set_option linter.unusedVariables false
attribute [local irreducible] wpRun wpG CallsTo CallsM

theorem build_no {g : Gr} {r : List Int} (h : (buildF g r).2 ≠ 0) : (buildF g r).1 = lv0 := by
  rw [buildF] at h ⊢
  split
  · rfl
  · split
    · rfl
    · split
      · rfl
      · split
        · rfl
        · rename_i h1 h2 h3 h4
          rw [if_neg h1, if_neg h2, if_neg h3, if_neg h4] at h
          exact absurd rfl h
theorem lawProper_no (g : Gr) (r : List Int) (h : (buildF g r).2 ≠ 0) : CallsTo Try.prog 6 [gD g, intsD r] (.bool true) := by
  have h1 := Build_spec g r
  have h2 := rSame_spec lv0 lv0
  rw [sameLv_iff.2 rfl] at h2
  rw [build_no h] at h1
  have h3 := awake_spec
  generalize (buildF g r).2 = e at h h1
  simp only [lv0, List.map_nil] at h1 h2
  refine callsTo_of Try.func6 rfl (by decide +kernel) (Nat.le_of_ble_eq_true rfl) ?_
  intro hat B X w0
  repeat' first
    | refine pw_seq ?_
    | refine pw_skip ?_
    | refine pw_ret ?_
    | refine pw_exit ?_
    | refine pw_block ?_
    | refine pw_region (fun _ => false) hmix ?_
    | (refine run_callT (h1) rfl rfl ?_ ?_; (· first | exact .inl rfl | exact .inr rfl))
    | (refine run_callT (h1) rfl ?_ ?_ ?_; (· first | rfl | (simp (maxSteps := 1000000) (disch := omega) only [go_sem, Nat.reduceEqDiff, ↓reduceIte, Nat.reduceLT, Nat.reduceAdd, Nat.reduceSub, Nat.reduceLeDiff, Nat.reduceMul, Int.reduceToNat, reduceCtorEq, List.append_eq, h]; done)); (· first | exact .inl rfl | exact .inr rfl))
    | (refine run_callT (h2) rfl rfl ?_ ?_; (· first | exact .inl rfl | exact .inr rfl))
    | (refine run_callT (h2) rfl ?_ ?_ ?_; (· first | rfl | (simp (maxSteps := 1000000) (disch := omega) only [go_sem, Nat.reduceEqDiff, ↓reduceIte, Nat.reduceLT, Nat.reduceAdd, Nat.reduceSub, Nat.reduceLeDiff, Nat.reduceMul, Int.reduceToNat, reduceCtorEq, List.append_eq, h]; done)); (· first | exact .inl rfl | exact .inr rfl))
    | (refine run_callT (h3) rfl rfl ?_ ?_; (· first | exact .inl rfl | exact .inr rfl))
    | (refine run_callT (h3) rfl ?_ ?_ ?_; (· first | rfl | (simp (maxSteps := 1000000) (disch := omega) only [go_sem, Nat.reduceEqDiff, ↓reduceIte, Nat.reduceLT, Nat.reduceAdd, Nat.reduceSub, Nat.reduceLeDiff, Nat.reduceMul, Int.reduceToNat, reduceCtorEq, List.append_eq, h]; done)); (· first | exact .inl rfl | exact .inr rfl))
    | (refine wpG_split rfl rfl (fun hc => ?_) (fun hc => ?_) <;> try simp only [decide_eq_true_eq, decide_eq_false_iff_not, Bool.not_eq_true', Bool.not_eq_false', Bool.false_eq_true, Bool.true_eq_false, reduceCtorEq, Bool.and_eq_true, Bool.or_eq_true, not_and, not_or] at hc)
    | (refine pw_cond _ rfl rfl (fun hc => ?_) (fun hc => ?_) <;> (try simp only [decide_eq_true_eq, decide_eq_false_iff_not, Bool.not_eq_true', Bool.not_eq_false', Bool.false_eq_true, Bool.true_eq_false, reduceCtorEq, Bool.and_eq_true, Bool.or_eq_true, not_and, not_or] at hc) <;> try (exfalso; omega))
    | simp (maxSteps := 1000000) (disch := omega) only [go_sem, Nat.reduceEqDiff, ↓reduceIte, Nat.reduceLT, Nat.reduceAdd, Nat.reduceSub, Nat.reduceLeDiff, Nat.reduceMul, Int.reduceToNat, reduceCtorEq, List.append_eq, h]
    | apply And.intro
    | omega
    | decide +kernel
  exact bool_some rfl
set_option maxHeartbeats 8000000 in
theorem lawProper (g : Gr) (r : List Int) : CallsTo Try.prog 6 [gD g, intsD r] (.bool true) := by
  by_cases h : (buildF g r).2 = 0
  · have b := built h
    have h1 := Build_spec g r
    rw [b.eq] at h1
    have hwm : wide (madeF g r) := by
      intro y hy
      have := tot_mem hy
      obtain ⟨_, t2, _⟩ := ranks_ok b.ranks
      omega
    have h2 := Ranks_spec (madeF g r) hwm
    rw [b.ranks] at h2
    have h3 := awake_spec
    have hch := fun e j a ha hj => b.chain_at (e := e) (j := j) (a := a) ha hj
    have hag := fun e j a ha hj => arcsF_get (r := r) (l := g.2) (e := e) (j := j) (a := a) ha hj
    have hcg := fun e a (ha : g.2[e]? = some a) => chainsF_get (r := r) (l := g.2) ha g.2.length (List.getElem?_eq_some_iff.1 ha).1 (Nat.le_refl _)
    have hcl := chainsF_len r g.2 g.2.length (Nat.le_refl _)
    have hal := b.all_len
    have hge := b.all_ge
    have htk := b.all_take
    have harl := arcsF_len b.gap
    have hAl := allR_le b.gap
    have hlen := b.len
    have hgok := gOk_in b.gok
    have hm : madeF g r = (g.1, (madeF g r).2.1, arcsF r g.2 g.2.length, chainsF r g.2 g.2.length) := rfl
    rw [hm] at h1 h2
    generalize (madeF g r).2.1 = L at h1 h2
    obtain ⟨m, l⟩ := g
    dsimp only at *
    obtain ⟨n, rfl⟩ : ∃ n : Nat, m = n := ⟨m.toNat, by omega⟩
    have hrn : r.length = n := by omega
    have hE : ∀ e, e ≤ l.length → (arcsF r l e).length ≤ 800 := fun e he => by
      have e1 := harl e he
      have e2 := hAl e he
      have e3 : sumG r l e ≤ sumG r l l.length := sumG_mono b.gap l.length e he
      have e4 := hAl l.length (Nat.le_refl _)
      omega
    have hEl := hE l.length (Nat.le_refl _)
    have hEs : ∀ e a, l[e]? = some a → (arcsF r l (e + 1)).length = (arcsF r l e).length + (gapN r a + 1) := fun e a ha => by
      rw [arcsF_succ ha, List.length_append, pairsN_len]
    generalize hEE : arcsF r l l.length = E at *
    generalize hCC : chainsF r l l.length = C at *
    generalize hAA : allR r l l.length = A at *
    simp only [Option.getD_some, Option.isSome_some] at h2
    refine callsTo_of Try.func6 rfl (by decide +kernel) (Nat.le_of_ble_eq_true rfl) ?_
    intro hat B X w0
    repeat' first
      | refine pw_seq ?_
      | refine pw_skip ?_
      | refine pw_ret ?_
      | refine pw_exit ?_
      | refine pw_block ?_
      | refine pw_region (fun _ => false) hmix ?_
      | (refine run_callT (h1) rfl rfl ?_ ?_; (· first | exact .inl rfl | exact .inr rfl))
      | (refine run_callT (h1) rfl ?_ ?_ ?_; (· first | rfl | (simp (maxSteps := 1000000) (disch := omega) only [go_sem, Nat.reduceEqDiff, ↓reduceIte, Nat.reduceLT, Nat.reduceAdd, Nat.reduceSub, Nat.reduceLeDiff, Nat.reduceMul, Int.reduceToNat, reduceCtorEq, List.append_eq, hcl]; done)); (· first | exact .inl rfl | exact .inr rfl))
      | (refine run_callT (h2) rfl rfl ?_ ?_; (· first | exact .inl rfl | exact .inr rfl))
      | (refine run_callT (h2) rfl ?_ ?_ ?_; (· first | rfl | (simp (maxSteps := 1000000) (disch := omega) only [go_sem, Nat.reduceEqDiff, ↓reduceIte, Nat.reduceLT, Nat.reduceAdd, Nat.reduceSub, Nat.reduceLeDiff, Nat.reduceMul, Int.reduceToNat, reduceCtorEq, List.append_eq, hcl]; done)); (· first | exact .inl rfl | exact .inr rfl))
      | (refine run_callT (h3) rfl rfl ?_ ?_; (· first | exact .inl rfl | exact .inr rfl))
      | (refine run_callT (h3) rfl ?_ ?_ ?_; (· first | rfl | (simp (maxSteps := 1000000) (disch := omega) only [go_sem, Nat.reduceEqDiff, ↓reduceIte, Nat.reduceLT, Nat.reduceAdd, Nat.reduceSub, Nat.reduceLeDiff, Nat.reduceMul, Int.reduceToNat, reduceCtorEq, List.append_eq, hcl]; done)); (· first | exact .inl rfl | exact .inr rfl))
      | (refine wpG_split rfl rfl (fun hc => ?_) (fun hc => ?_) <;> try simp only [decide_eq_true_eq, decide_eq_false_iff_not, Bool.not_eq_true', Bool.not_eq_false', Bool.false_eq_true, Bool.true_eq_false, reduceCtorEq, Bool.and_eq_true, Bool.or_eq_true, not_and, not_or] at hc)
      | (refine pw_cond _ rfl rfl (fun hc => ?_) (fun hc => ?_) <;> (try simp only [decide_eq_true_eq, decide_eq_false_iff_not, Bool.not_eq_true', Bool.not_eq_false', Bool.false_eq_true, Bool.true_eq_false, reduceCtorEq, Bool.and_eq_true, Bool.or_eq_true, not_and, not_or] at hc) <;> try (exfalso; omega))
      | simp (maxSteps := 1000000) (disch := omega) only [go_sem, Nat.reduceEqDiff, ↓reduceIte, Nat.reduceLT, Nat.reduceAdd, Nat.reduceSub, Nat.reduceLeDiff, Nat.reduceMul, Int.reduceToNat, reduceCtorEq, List.append_eq, hcl]
      | apply And.intro
      | omega
      | decide +kernel
    refine pw_loopI (κ := Nat) (fun (i : Nat) => i ≤ l.length) (fun (i : Nat) => [(1, .d (intsD r)), (2, .ptr 2 0 0 0), (5, .ptr 5 0 0 0), (7, .d (intsD A)), (9, .int (arcsF r l i).length), (10, .int i)]) (fun (i : Nat) => [(2, .cells [.int n, .d (arcsD l)]), (5, .cells [.int n, .d (listsD L), .d (arcsD E), .d (listsD C)])]) (fun (i : Nat) => l.length - i) 0 ?_ ?_ ?_
    · exact Nat.zero_le _
    · exact entL_ren [] _ _ (by (repeat' first | exact List.forall_mem_nil _ | refine List.forall_mem_cons.2 ⟨(by first | rfl | (simp (disch := omega) only [go_sem, Nat.reduceEqDiff, ↓reduceIte, Nat.reduceLT, Nat.reduceAdd, Nat.reduceSub, Nat.reduceLeDiff, Nat.reduceMul, Int.reduceToNat, reduceCtorEq, arcsF, catN, List.length_nil, PV.d.injEq, PV.ref.injEq, D.sc.injEq, Value.int.injEq, Value.bool.injEq, Ob.row.injEq, true_and, and_true]; first | done | omega | (congr 1; done))), ?_⟩); done) (by (repeat' first | exact List.forall_mem_nil _ | refine List.forall_mem_cons.2 ⟨(by first | rfl | (simp (disch := omega) only [go_sem, Nat.reduceEqDiff, ↓reduceIte, Nat.reduceLT, Nat.reduceAdd, Nat.reduceSub, Nat.reduceLeDiff, Nat.reduceMul, Int.reduceToNat, reduceCtorEq, arcsF, catN, List.length_nil, PV.d.injEq, PV.ref.injEq, D.sc.injEq, Value.int.injEq, Value.bool.injEq, Ob.row.injEq, true_and, and_true]; first | done | omega | (congr 1; done))), ?_⟩); done) rfl rfl (nodup_of rfl) rfl (by (repeat' first | exact pd_of _ rfl | exact pd_dead | refine pd_upd rfl ?_ | refine pd_frz ?_); done)
    · intro i hi
      rcases Nat.lt_or_ge i l.length with hlt | hge2
      · obtain ⟨a, ha⟩ := get_some hlt
        have hc0 := hcg i a ha
        have hs := hEs i a ha
        have hsl := hE (i + 1) (by omega)
        have hcl2 := chainOf_len r (allR r l i).length a
        have hca := fun j hj => hch i j a ha hj
        have hea := fun j hj => hag i j a ha hj
        have hfst := chainOf_first r (allR r l i).length a
        have hlst := chainOf_last r (allR r l i).length a
        generalize chainOf r (allR r l i).length a = c at *
        generalize hGG : gapN r a = G at *
        have gc0 := at0_at (r := c) (i := 0) (by omega)
        have gcl := at0_at (r := c) (i := G + 1) (by omega)
        rw [hfst] at gc0
        rw [hlst] at gcl
        have en : (((G + 2 : Nat) : Int) - 1).toNat = G + 1 := by omega
        repeat' first
          | refine pw_seq ?_
          | refine pw_skip ?_
          | refine pw_ret ?_
          | refine pw_exit ?_
          | refine pw_block ?_
          | refine pw_region (fun _ => false) hmix ?_
          | (refine wpG_split rfl rfl (fun hc => ?_) (fun hc => ?_) <;> try simp only [decide_eq_true_eq, decide_eq_false_iff_not, Bool.not_eq_true', Bool.not_eq_false', Bool.false_eq_true, Bool.true_eq_false, reduceCtorEq, Bool.and_eq_true, Bool.or_eq_true, not_and, not_or] at hc)
          | (refine pw_cond _ rfl rfl (fun hc => ?_) (fun hc => ?_) <;> (try simp only [decide_eq_true_eq, decide_eq_false_iff_not, Bool.not_eq_true', Bool.not_eq_false', Bool.false_eq_true, Bool.true_eq_false, reduceCtorEq, Bool.and_eq_true, Bool.or_eq_true, not_and, not_or] at hc) <;> try (exfalso; omega))
          | simp (maxSteps := 1000000) (disch := omega) only [go_sem, Nat.reduceEqDiff, ↓reduceIte, Nat.reduceLT, Nat.reduceAdd, Nat.reduceSub, Nat.reduceLeDiff, Nat.reduceMul, Int.reduceToNat, reduceCtorEq, List.append_eq, ha, hc0, gc0, gcl, en, hcl, hcl2]
          | apply And.intro
          | omega
          | decide +kernel
        refine pw_loopI (κ := Nat) (fun (j : Nat) => j ≤ G + 1) (fun (j : Nat) => [(1, .d (intsD r)), (2, .ptr 2 0 0 0), (5, .ptr 5 0 0 0), (7, .d (intsD A)), (9, .int ((arcsF r l i).length + j)), (10, .int i), (11, .d (intsD c)), (12, .int ((j : Int) + 1))]) (fun (j : Nat) => [(2, .cells [.int n, .d (arcsD l)]), (5, .cells [.int n, .d (listsD L), .d (arcsD E), .d (listsD C)])]) (fun (j : Nat) => G + 1 - j) 0 ?_ ?_ ?_
        · exact Nat.zero_le _
        · exact entL_ren [] _ _ (by (repeat' first | exact List.forall_mem_nil _ | refine List.forall_mem_cons.2 ⟨(by first | rfl | (simp (disch := omega) only [go_sem, Nat.reduceEqDiff, ↓reduceIte, Nat.reduceLT, Nat.reduceAdd, Nat.reduceSub, Nat.reduceLeDiff, Nat.reduceMul, Int.reduceToNat, reduceCtorEq, Int.add_zero, PV.d.injEq, PV.ref.injEq, D.sc.injEq, Value.int.injEq, Value.bool.injEq, Ob.row.injEq, true_and, and_true]; first | done | omega | (congr 1; done))), ?_⟩); done) (by (repeat' first | exact List.forall_mem_nil _ | refine List.forall_mem_cons.2 ⟨(by first | rfl | (simp (disch := omega) only [go_sem, Nat.reduceEqDiff, ↓reduceIte, Nat.reduceLT, Nat.reduceAdd, Nat.reduceSub, Nat.reduceLeDiff, Nat.reduceMul, Int.reduceToNat, reduceCtorEq, Int.add_zero, PV.d.injEq, PV.ref.injEq, D.sc.injEq, Value.int.injEq, Value.bool.injEq, Ob.row.injEq, true_and, and_true]; first | done | omega | (congr 1; done))), ?_⟩); done) rfl rfl (nodup_of rfl) rfl (by (repeat' first | exact pd_of _ rfl | exact pd_dead | refine pd_upd rfl ?_ | refine pd_frz ?_); done)
        · intro j hj
          rcases Nat.lt_or_ge j (G + 1) with hj1 | hj1
          · obtain ⟨x1, x2, x3⟩ := hca j (by omega)
            obtain ⟨y1, y2, y3⟩ := hca (j + 1) (by omega)
            have gE := hea j hj1
            have gx := at0_at (r := c) (i := j) (by omega)
            have gy := at0_at (r := c) (i := j + 1) (by omega)
            have gAx := at0_get (r := A) (v := at0 c j) x1 x2
            have gAy := at0_get (r := A) (v := at0 c ((j + 1 : Nat) : Int)) y1 y2
            rw [x3] at gAx
            rw [y3] at gAy
            rw [pairAt] at gE
            have hEj : (arcsF r l i).length + j < E.length := (List.getElem?_eq_some_iff.1 gE).1
            have rk := b.rk a.1.toNat
            have hin := b.ends ha
            rw [show ((a.1.toNat : Nat) : Int) = a.1 by omega] at rk
            generalize at0 c j = x at *
            generalize at0 c ((j + 1 : Nat) : Int) = y at *
            generalize (arcsF r l i).length = u at *
            generalize at0 r a.1 = p at *
            have eu : ((u : Int) + j).toNat = u + j := by omega
            have ej : ((j : Int) + 1).toNat = j + 1 := by omega
            repeat' first
              | refine pw_seq ?_
              | refine pw_skip ?_
              | refine pw_ret ?_
              | refine pw_exit ?_
              | refine pw_block ?_
              | refine pw_region (fun _ => false) hmix ?_
              | (refine wpG_split rfl rfl (fun hc => ?_) (fun hc => ?_) <;> try simp only [decide_eq_true_eq, decide_eq_false_iff_not, Bool.not_eq_true', Bool.not_eq_false', Bool.false_eq_true, Bool.true_eq_false, reduceCtorEq, Bool.and_eq_true, Bool.or_eq_true, not_and, not_or] at hc)
              | (refine pw_cond _ rfl rfl (fun hc => ?_) (fun hc => ?_) <;> (try simp only [decide_eq_true_eq, decide_eq_false_iff_not, Bool.not_eq_true', Bool.not_eq_false', Bool.false_eq_true, Bool.true_eq_false, reduceCtorEq, Bool.and_eq_true, Bool.or_eq_true, not_and, not_or] at hc) <;> try (exfalso; omega))
              | simp (maxSteps := 1000000) (disch := omega) only [go_sem, Nat.reduceEqDiff, ↓reduceIte, Nat.reduceLT, Nat.reduceAdd, Nat.reduceSub, Nat.reduceLeDiff, Nat.reduceMul, Int.reduceToNat, reduceCtorEq, List.append_eq, gE, gx, gy, gAx, gAy, eu, ej, Int.add_sub_cancel, hcl2]
              | apply And.intro
              | omega
              | decide +kernel
            refine ⟨j + 1, ?_, entL_ren [] _ _ (by (repeat' first | exact List.forall_mem_nil _ | refine List.forall_mem_cons.2 ⟨(by first | rfl | (simp (disch := omega) only [go_sem, Nat.reduceEqDiff, ↓reduceIte, Nat.reduceLT, Nat.reduceAdd, Nat.reduceSub, Nat.reduceLeDiff, Nat.reduceMul, Int.reduceToNat, reduceCtorEq, Int.natCast_add, Int.natCast_one, Int.add_assoc, PV.d.injEq, PV.ref.injEq, D.sc.injEq, Value.int.injEq, Value.bool.injEq, Ob.row.injEq, true_and, and_true]; first | done | omega | (congr 1; done))), ?_⟩); done) (by (repeat' first | exact List.forall_mem_nil _ | refine List.forall_mem_cons.2 ⟨(by first | rfl | (simp (disch := omega) only [go_sem, Nat.reduceEqDiff, ↓reduceIte, Nat.reduceLT, Nat.reduceAdd, Nat.reduceSub, Nat.reduceLeDiff, Nat.reduceMul, Int.reduceToNat, reduceCtorEq, Int.natCast_add, Int.natCast_one, Int.add_assoc, PV.d.injEq, PV.ref.injEq, D.sc.injEq, Value.int.injEq, Value.bool.injEq, Ob.row.injEq, true_and, and_true]; first | done | omega | (congr 1; done))), ?_⟩); done) rfl rfl (nodup_of rfl) rfl (by (repeat' first | exact pd_of _ rfl | exact pd_dead | refine pd_upd rfl ?_ | refine pd_frz ?_); done), ?_⟩
            · omega
            · omega
          · have : j = G + 1 := by omega
            subst this
            repeat' first
              | refine pw_seq ?_
              | refine pw_skip ?_
              | refine pw_ret ?_
              | refine pw_exit ?_
              | refine pw_block ?_
              | refine pw_region (fun _ => false) hmix ?_
              | (refine wpG_split rfl rfl (fun hc => ?_) (fun hc => ?_) <;> try simp only [decide_eq_true_eq, decide_eq_false_iff_not, Bool.not_eq_true', Bool.not_eq_false', Bool.false_eq_true, Bool.true_eq_false, reduceCtorEq, Bool.and_eq_true, Bool.or_eq_true, not_and, not_or] at hc)
              | (refine pw_cond _ rfl rfl (fun hc => ?_) (fun hc => ?_) <;> (try simp only [decide_eq_true_eq, decide_eq_false_iff_not, Bool.not_eq_true', Bool.not_eq_false', Bool.false_eq_true, Bool.true_eq_false, reduceCtorEq, Bool.and_eq_true, Bool.or_eq_true, not_and, not_or] at hc) <;> try (exfalso; omega))
              | simp (maxSteps := 1000000) (disch := omega) only [go_sem, Nat.reduceEqDiff, ↓reduceIte, Nat.reduceLT, Nat.reduceAdd, Nat.reduceSub, Nat.reduceLeDiff, Nat.reduceMul, Int.reduceToNat, reduceCtorEq, hcl2]
              | apply And.intro
              | omega
              | decide +kernel
            refine ⟨i + 1, ?_, entL_ren [] _ _ (by (repeat' first | exact List.forall_mem_nil _ | refine List.forall_mem_cons.2 ⟨(by first | rfl | (simp (disch := omega) only [go_sem, Nat.reduceEqDiff, ↓reduceIte, Nat.reduceLT, Nat.reduceAdd, Nat.reduceSub, Nat.reduceLeDiff, Nat.reduceMul, Int.reduceToNat, reduceCtorEq, hs, Int.natCast_add, Int.natCast_one, Int.add_assoc, PV.d.injEq, PV.ref.injEq, D.sc.injEq, Value.int.injEq, Value.bool.injEq, Ob.row.injEq, true_and, and_true]; first | done | omega | (congr 1; done))), ?_⟩); done) (by (repeat' first | exact List.forall_mem_nil _ | refine List.forall_mem_cons.2 ⟨(by first | rfl | (simp (disch := omega) only [go_sem, Nat.reduceEqDiff, ↓reduceIte, Nat.reduceLT, Nat.reduceAdd, Nat.reduceSub, Nat.reduceLeDiff, Nat.reduceMul, Int.reduceToNat, reduceCtorEq, hs, Int.natCast_add, Int.natCast_one, Int.add_assoc, PV.d.injEq, PV.ref.injEq, D.sc.injEq, Value.int.injEq, Value.bool.injEq, Ob.row.injEq, true_and, and_true]; first | done | omega | (congr 1; done))), ?_⟩); done) rfl rfl (nodup_of rfl) rfl (by (repeat' first | exact pd_of _ rfl | exact pd_dead | refine pd_upd rfl ?_ | refine pd_frz ?_); done), ?_⟩
            · omega
            · omega
      · have : i = l.length := by omega
        subst this
        try dsimp only
        rw [hEE]
        repeat' first
          | refine pw_seq ?_
          | refine pw_skip ?_
          | refine pw_ret ?_
          | refine pw_exit ?_
          | refine pw_block ?_
          | refine pw_region (fun _ => false) hmix ?_
          | (refine wpG_split rfl rfl (fun hc => ?_) (fun hc => ?_) <;> try simp only [decide_eq_true_eq, decide_eq_false_iff_not, Bool.not_eq_true', Bool.not_eq_false', Bool.false_eq_true, Bool.true_eq_false, reduceCtorEq, Bool.and_eq_true, Bool.or_eq_true, not_and, not_or] at hc)
          | (refine pw_cond _ rfl rfl (fun hc => ?_) (fun hc => ?_) <;> (try simp only [decide_eq_true_eq, decide_eq_false_iff_not, Bool.not_eq_true', Bool.not_eq_false', Bool.false_eq_true, Bool.true_eq_false, reduceCtorEq, Bool.and_eq_true, Bool.or_eq_true, not_and, not_or] at hc) <;> try (exfalso; omega))
          | simp (maxSteps := 1000000) (disch := omega) only [go_sem, Nat.reduceEqDiff, ↓reduceIte, Nat.reduceLT, Nat.reduceAdd, Nat.reduceSub, Nat.reduceLeDiff, Nat.reduceMul, Int.reduceToNat, reduceCtorEq, hcl]
          | apply And.intro
          | omega
          | decide +kernel
        refine pw_loopI (κ := Nat) (fun (v : Nat) => v ≤ n) (fun (v : Nat) => [(1, .d (intsD r)), (2, .ptr 2 0 0 0), (5, .ptr 5 0 0 0), (7, .d (intsD A)), (9, .int E.length), (13, .int v)]) (fun (v : Nat) => [(2, .cells [.int n, .d (arcsD l)]), (5, .cells [.int n, .d (listsD L), .d (arcsD E), .d (listsD C)])]) (fun (v : Nat) => n - v) 0 ?_ ?_ ?_
        · exact Nat.zero_le _
        · exact entL_ren [] _ _ (by (repeat' first | exact List.forall_mem_nil _ | refine List.forall_mem_cons.2 ⟨(by first | rfl | (simp (disch := omega) only [go_sem, Nat.reduceEqDiff, ↓reduceIte, Nat.reduceLT, Nat.reduceAdd, Nat.reduceSub, Nat.reduceLeDiff, Nat.reduceMul, Int.reduceToNat, reduceCtorEq, PV.d.injEq, PV.ref.injEq, D.sc.injEq, Value.int.injEq, Value.bool.injEq, Ob.row.injEq, true_and, and_true]; first | done | omega | (congr 1; done))), ?_⟩); done) (by (repeat' first | exact List.forall_mem_nil _ | refine List.forall_mem_cons.2 ⟨(by first | rfl | (simp (disch := omega) only [go_sem, Nat.reduceEqDiff, ↓reduceIte, Nat.reduceLT, Nat.reduceAdd, Nat.reduceSub, Nat.reduceLeDiff, Nat.reduceMul, Int.reduceToNat, reduceCtorEq, PV.d.injEq, PV.ref.injEq, D.sc.injEq, Value.int.injEq, Value.bool.injEq, Ob.row.injEq, true_and, and_true]; first | done | omega | (congr 1; done))), ?_⟩); done) rfl rfl (nodup_of rfl) rfl (by (repeat' first | exact pd_of _ rfl | exact pd_dead | refine pd_upd rfl ?_ | refine pd_frz ?_); done)
        · intro v hv
          rcases Nat.lt_or_ge v n with hv1 | hv1
          · have g1 := at0_at (r := r) (i := v) (by omega)
            have g2 : A[v]? = some (at0 r v) := by
              have : (A.take r.length)[v]? = some (at0 r v) := by rw [htk]; exact g1
              rwa [List.getElem?_take_of_lt (by omega)] at this
            repeat' first
              | refine pw_seq ?_
              | refine pw_skip ?_
              | refine pw_ret ?_
              | refine pw_exit ?_
              | refine pw_block ?_
              | refine pw_region (fun _ => false) hmix ?_
              | (refine wpG_split rfl rfl (fun hc => ?_) (fun hc => ?_) <;> try simp only [decide_eq_true_eq, decide_eq_false_iff_not, Bool.not_eq_true', Bool.not_eq_false', Bool.false_eq_true, Bool.true_eq_false, reduceCtorEq, Bool.and_eq_true, Bool.or_eq_true, not_and, not_or] at hc)
              | (refine pw_cond _ rfl rfl (fun hc => ?_) (fun hc => ?_) <;> (try simp only [decide_eq_true_eq, decide_eq_false_iff_not, Bool.not_eq_true', Bool.not_eq_false', Bool.false_eq_true, Bool.true_eq_false, reduceCtorEq, Bool.and_eq_true, Bool.or_eq_true, not_and, not_or] at hc) <;> try (exfalso; omega))
              | simp (maxSteps := 1000000) (disch := omega) only [go_sem, Nat.reduceEqDiff, ↓reduceIte, Nat.reduceLT, Nat.reduceAdd, Nat.reduceSub, Nat.reduceLeDiff, Nat.reduceMul, Int.reduceToNat, reduceCtorEq, List.append_eq, g1, g2]
              | apply And.intro
              | omega
              | decide +kernel
            refine ⟨v + 1, ?_, entL_ren [] _ _ (by (repeat' first | exact List.forall_mem_nil _ | refine List.forall_mem_cons.2 ⟨(by first | rfl | (simp (disch := omega) only [go_sem, Nat.reduceEqDiff, ↓reduceIte, Nat.reduceLT, Nat.reduceAdd, Nat.reduceSub, Nat.reduceLeDiff, Nat.reduceMul, Int.reduceToNat, reduceCtorEq, PV.d.injEq, PV.ref.injEq, D.sc.injEq, Value.int.injEq, Value.bool.injEq, Ob.row.injEq, true_and, and_true]; first | done | omega | (congr 1; done))), ?_⟩); done) (by (repeat' first | exact List.forall_mem_nil _ | refine List.forall_mem_cons.2 ⟨(by first | rfl | (simp (disch := omega) only [go_sem, Nat.reduceEqDiff, ↓reduceIte, Nat.reduceLT, Nat.reduceAdd, Nat.reduceSub, Nat.reduceLeDiff, Nat.reduceMul, Int.reduceToNat, reduceCtorEq, PV.d.injEq, PV.ref.injEq, D.sc.injEq, Value.int.injEq, Value.bool.injEq, Ob.row.injEq, true_and, and_true]; first | done | omega | (congr 1; done))), ?_⟩); done) rfl rfl (nodup_of rfl) rfl (by (repeat' first | exact pd_of _ rfl | exact pd_dead | refine pd_upd rfl ?_ | refine pd_frz ?_); done), ?_⟩
            · omega
            · omega
          · have : v = n := by omega
            subst this
            repeat' first
              | refine pw_seq ?_
              | refine pw_skip ?_
              | refine pw_ret ?_
              | refine pw_exit ?_
              | refine pw_block ?_
              | refine pw_region (fun _ => false) hmix ?_
              | (refine run_callT (h3) rfl rfl ?_ ?_; (· first | exact .inl rfl | exact .inr rfl))
              | (refine run_callT (h3) rfl ?_ ?_ ?_; (· first | rfl | (simp (maxSteps := 1000000) (disch := omega) only [go_sem, Nat.reduceEqDiff, ↓reduceIte, Nat.reduceLT, Nat.reduceAdd, Nat.reduceSub, Nat.reduceLeDiff, Nat.reduceMul, Int.reduceToNat, reduceCtorEq]; done)); (· first | exact .inl rfl | exact .inr rfl))
              | (refine wpG_split rfl rfl (fun hc => ?_) (fun hc => ?_) <;> try simp only [decide_eq_true_eq, decide_eq_false_iff_not, Bool.not_eq_true', Bool.not_eq_false', Bool.false_eq_true, Bool.true_eq_false, reduceCtorEq, Bool.and_eq_true, Bool.or_eq_true, not_and, not_or] at hc)
              | (refine pw_cond _ rfl rfl (fun hc => ?_) (fun hc => ?_) <;> (try simp only [decide_eq_true_eq, decide_eq_false_iff_not, Bool.not_eq_true', Bool.not_eq_false', Bool.false_eq_true, Bool.true_eq_false, reduceCtorEq, Bool.and_eq_true, Bool.or_eq_true, not_and, not_or] at hc) <;> try (exfalso; omega))
              | simp (maxSteps := 1000000) (disch := omega) only [go_sem, Nat.reduceEqDiff, ↓reduceIte, Nat.reduceLT, Nat.reduceAdd, Nat.reduceSub, Nat.reduceLeDiff, Nat.reduceMul, Int.reduceToNat, reduceCtorEq]
              | apply And.intro
              | omega
              | decide +kernel
            exact bool_some rfl
  · exact lawProper_no g r h
end Go.Proofs.Ytpmmikkojpcogaa
