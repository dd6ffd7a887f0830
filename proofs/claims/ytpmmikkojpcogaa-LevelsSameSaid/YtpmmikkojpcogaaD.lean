/- Levels built by the reference: the walk. -/
import Derived.Test.YtpmmikkojpcogaaC
namespace Go.Proofs.Ytpmmikkojpcogaa
open Go Go.PS Go.Proofs
set_option maxRecDepth 100000
set_option linter.unusedSimpArgs false
set_option linter.unusedVariables false
attribute [local irreducible] wpRun wpG CallsTo CallsM

theorem one_int (r : List Int) : ∀ d, d ∈ List.map D.int r → d.cells.length = 1 := by
  intro d hd
  obtain ⟨x, _, rfl⟩ := List.mem_map.1 hd
  rfl
def hiN (r : List Int) : Nat → Int
  | 0 => -1
  | k + 1 => max (hiN r k) (at0 r k)
theorem hiN_max {r : List Int} (h : ∀ v : Nat, 0 ≤ at0 r v) : ∀ k : Nat, hiN r (k + 1) = maxN r k
  | 0 => by
    have h0 := h 0
    show max (-1) (at0 r ((0 : Nat) : Int)) = at0 r ((0 : Nat) : Int)
    omega
  | k + 1 => by rw [hiN, hiN_max h k, maxN]
def layersN (all : List Int) (k : Nat) : List (List Int) := (List.range k).map fun j => layerOf all j
theorem layersN_succ (all : List Int) (k : Nat) : layersN all (k + 1) = layersN all k ++ [layerOf all k] := by simp [layersN, List.range_succ]
theorem layersN_len (all : List Int) (k : Nat) : (layersN all k).length = k := by simp [layersN]
set_option maxHeartbeats 16000000 in
theorem made_spec (n : Nat) (l : List Arc) (r : List Int) (hrn : r.length = n) (hn : n ≤ 64) (hl : l.length ≤ 256) (g4 : ∀ (k : Nat) (a : Arc), l[k]? = some a → 0 ≤ a.1 ∧ a.1 < n ∧ 0 ≤ a.2 ∧ a.2 < n)
    (h5 : ∀ v : Nat, 0 ≤ at0 r v ∧ at0 r v ≤ 255) (hgap : ∀ (k : Nat) a, l[k]? = some a → 0 ≤ at0 r a.2 - at0 r a.1 - 1) (hbig : (n : Int) + sumG r l l.length ≤ 512) :
    CallsTo Try.prog 50 [gD (n, l), intsD r] (lvD (madeF (n, l) r)) := by
  have allR_len : ∀ e, e ≤ l.length → (allR r l e).length ≤ 512 := fun e he => by
    have h1 := allR_le hgap e he
    have h2 := sumG_mono hgap l.length e he
    omega
  have hA0 : allR r l 0 = r := by simp [allR]
  refine callsTo_of Try.func50 rfl (by decide +kernel) (Nat.le_of_ble_eq_true rfl) ?_
  intro hat B X w0
  repeat' first
    | refine pw_seq ?_
    | refine pw_skip ?_
    | refine pw_ret ?_
    | refine pw_exit ?_
    | refine pw_block ?_
    | refine pw_region (Nat.beq 20) hmix ?_
    | (refine wpG_split rfl rfl (fun hc => ?_) (fun hc => ?_) <;> try simp only [decide_eq_true_eq, decide_eq_false_iff_not, Bool.not_eq_true', Bool.not_eq_false', Bool.false_eq_true, Bool.true_eq_false, reduceCtorEq, Bool.and_eq_true, Bool.or_eq_true, not_and, not_or] at hc)
    | (refine pw_cond _ rfl rfl (fun hc => ?_) (fun hc => ?_) <;> (try simp only [decide_eq_true_eq, decide_eq_false_iff_not, Bool.not_eq_true', Bool.not_eq_false', Bool.false_eq_true, Bool.true_eq_false, reduceCtorEq, Bool.and_eq_true, Bool.or_eq_true, not_and, not_or] at hc) <;> try (exfalso; omega))
    | simp (maxSteps := 1000000) (disch := omega) only [go_sem, Nat.reduceEqDiff, ↓reduceIte, Nat.reduceLT, Nat.reduceAdd, Nat.reduceSub, Nat.reduceLeDiff, Nat.reduceMul, Int.reduceToNat, reduceCtorEq, List.append_eq, hrn, roomy]
    | exact one_int r
    | apply And.intro
    | omega
    | decide +kernel
  refine pw_ent _ (ent_nilC 5 1 905 1 rfl rfl rfl) ?_
  refine pw_ent _ (ent_nilC 5 2 901 2 rfl rfl rfl) ?_
  refine pw_ent _ (ent_nilC 5 3 902 1 rfl rfl rfl) ?_
  refine pw_loopI (κ := Nat) (fun (e : Nat) => e ≤ l.length) (fun (e : Nat) => [(1, .d (intsD r)), (2, .ptr 2 0 0 0), (4, .ptr 4 0 0 0), (5, .ptr 5 0 0 0), (6, .ref 904 1 0 (allR r l e).length (allR r l e).length), (7, .int e)]) (fun (e : Nat) => [(2, .cells [.int n, .d (arcsD l)]), (4, .cells [.int 0, .nilS, .nilS, .nilS]), (5, .cells [.int n, .ref 905 1 0 0 0, .ref 901 2 0 (arcsF r l e).length (arcsF r l e).length, .ref 902 1 0 (chainsF r l e).length (chainsF r l e).length]), (905, .row 1 []), (901, .row 2 ((arcsF r l e).map arcD)), (902, .row 1 ((chainsF r l e).map intsD)), (904, .row 1 ((allR r l e).map D.int))]) (fun (e : Nat) => l.length - e) 0 ?_ ?_ ?_
  · exact Nat.zero_le _
  · exact entL_ren [(904, 22)] _ _ (by (repeat' first | exact List.forall_mem_nil _ | refine List.forall_mem_cons.2 ⟨(by first | rfl | (simp (disch := omega) only [go_sem, Nat.reduceEqDiff, ↓reduceIte, Nat.reduceLT, Nat.reduceAdd, Nat.reduceSub, Nat.reduceLeDiff, Nat.reduceMul, Int.reduceToNat, reduceCtorEq, hA0, hrn, PV.d.injEq, PV.ref.injEq, D.sc.injEq, Value.int.injEq, Value.bool.injEq, Ob.row.injEq, true_and, and_true]; first | done | omega | (congr 1; done))), ?_⟩); done) (by (repeat' first | exact List.forall_mem_nil _ | refine List.forall_mem_cons.2 ⟨(by first | rfl | (simp (disch := omega) only [go_sem, Nat.reduceEqDiff, ↓reduceIte, Nat.reduceLT, Nat.reduceAdd, Nat.reduceSub, Nat.reduceLeDiff, Nat.reduceMul, Int.reduceToNat, reduceCtorEq, hA0, hrn, PV.d.injEq, PV.ref.injEq, D.sc.injEq, Value.int.injEq, Value.bool.injEq, Ob.row.injEq, true_and, and_true]; first | done | omega | (congr 1; done))), ?_⟩); done) rfl rfl (nodup_of rfl) rfl (by (repeat' first | exact pd_of _ rfl | exact pd_dead | refine pd_upd rfl ?_ | refine pd_frz ?_); done)
  · intro e he
    rcases Nat.lt_or_ge e l.length with hel | hel
    · obtain ⟨a, ha⟩ := get_some hel
      have hai := g4 e a ha
      have hga := hgap e a ha
      have e1 := at0_get (r := r) (v := a.1) hai.1 (by omega)
      have e2 := at0_get (r := r) (v := a.2) hai.2.2.1 (by omega)
      have f1 := h5 a.1.toNat
      have f2 := h5 a.2.toNat
      rw [show ((a.1.toNat : Nat) : Int) = a.1 by omega] at f1
      rw [show ((a.2.toNat : Nat) : Int) = a.2 by omega] at f2
      have hgn : (gapN r a : Int) = at0 r a.2 - at0 r a.1 - 1 := by rw [gapN]; omega
      have hall := allR_succ (r := r) ha
      have hal := allR_len e he
      have hafl := arcsF_len hgap e he
      generalize hA : allR r l e = all at hal hall hafl
      try dsimp only
      try rw [hA]
      repeat' first
        | refine pw_seq ?_
        | refine pw_skip ?_
        | refine pw_ret ?_
        | refine pw_exit ?_
        | refine pw_block ?_
        | refine pw_region (Nat.beq 37) hmix ?_
        | (refine wpG_split rfl rfl (fun hc => ?_) (fun hc => ?_) <;> try simp only [decide_eq_true_eq, decide_eq_false_iff_not, Bool.not_eq_true', Bool.not_eq_false', Bool.false_eq_true, Bool.true_eq_false, reduceCtorEq, Bool.and_eq_true, Bool.or_eq_true, not_and, not_or] at hc)
        | (refine pw_cond _ rfl rfl (fun hc => ?_) (fun hc => ?_) <;> (try simp only [decide_eq_true_eq, decide_eq_false_iff_not, Bool.not_eq_true', Bool.not_eq_false', Bool.false_eq_true, Bool.true_eq_false, reduceCtorEq, Bool.and_eq_true, Bool.or_eq_true, not_and, not_or] at hc) <;> try (exfalso; omega))
        | simp (maxSteps := 1000000) (disch := omega) only [go_sem, Nat.reduceEqDiff, ↓reduceIte, Nat.reduceLT, Nat.reduceAdd, Nat.reduceSub, Nat.reduceLeDiff, Nat.reduceMul, Int.reduceToNat, reduceCtorEq, ha, e1, hrn]
        | apply And.intro
        | omega
        | decide +kernel
      refine pw_loopI (κ := Nat) (fun (u : Nat) => u ≤ gapN r a) (fun (u : Nat) => [(1, .d (intsD r)), (2, .ptr 2 0 0 0), (4, .ptr 4 0 0 0), (5, .ptr 5 0 0 0), (6, .ref 904 1 0 (all.length + u) (all.length + u)), (7, .int e), (8, .ptr 8 0 0 0), (9, .ref 903 1 0 (u + 1) (u + 1)), (10, .int (at0 r a.1 + 1 + u))]) (fun (u : Nat) => [(2, .cells [.int n, .d (arcsD l)]), (4, .cells [.int 0, .nilS, .nilS, .nilS]), (8, .cells [.int a.1, .int a.2]), (5, .cells [.int n, .ref 905 1 0 0 0, .ref 901 2 0 (arcsF r l e).length (arcsF r l e).length, .ref 902 1 0 (chainsF r l e).length (chainsF r l e).length]), (905, .row 1 []), (901, .row 2 ((arcsF r l e).map arcD)), (902, .row 1 ((chainsF r l e).map intsD)), (904, .row 1 ((all ++ news r a u).map D.int)), (903, .row 1 ((chainUp all.length a u).map D.int))]) (fun (u : Nat) => gapN r a - u) 0 ?_ ?_ ?_
      · exact Nat.zero_le _
      · exact entL_ren [(903, 37)] _ _ (by (repeat' first | exact List.forall_mem_nil _ | refine List.forall_mem_cons.2 ⟨(by first | rfl | (simp (disch := omega) only [go_sem, Nat.reduceEqDiff, ↓reduceIte, Nat.reduceLT, Nat.reduceAdd, Nat.reduceSub, Nat.reduceLeDiff, Nat.reduceMul, Int.reduceToNat, reduceCtorEq, chainUp, news, List.range_zero, List.append_nil, hA, PV.d.injEq, PV.ref.injEq, D.sc.injEq, Value.int.injEq, Value.bool.injEq, Ob.row.injEq, true_and, and_true]; first | done | omega | (congr 1; done))), ?_⟩); done) (by (repeat' first | exact List.forall_mem_nil _ | refine List.forall_mem_cons.2 ⟨(by first | rfl | (simp (disch := omega) only [go_sem, Nat.reduceEqDiff, ↓reduceIte, Nat.reduceLT, Nat.reduceAdd, Nat.reduceSub, Nat.reduceLeDiff, Nat.reduceMul, Int.reduceToNat, reduceCtorEq, chainUp, news, List.range_zero, List.append_nil, hA, PV.d.injEq, PV.ref.injEq, D.sc.injEq, Value.int.injEq, Value.bool.injEq, Ob.row.injEq, true_and, and_true]; first | done | omega | (congr 1; done))), ?_⟩); done) rfl rfl (nodup_of rfl) rfl (by (repeat' first | exact pd_of _ rfl | exact pd_dead | refine pd_upd rfl ?_ | refine pd_frz ?_); done)
      · intro u hu
        have hcl := chainUp_len all.length a u
        have hnl := news_len r a u
        have htk : ((chainUp all.length a u).map D.int).take (u + 1) = (chainUp all.length a u).map D.int := List.take_of_length_le (by rw [List.length_map, hcl]; exact Nat.le_refl _)
        have hta : ((all ++ news r a u).map D.int).take (all.length + u) = (all ++ news r a u).map D.int := List.take_of_length_le (by rw [List.length_map, List.length_append, hnl]; exact Nat.le_refl _)
        rcases Nat.lt_or_ge u (gapN r a) with hul | hul
        · have hcs := chainUp_succ all.length a u
          have hns := news_succ r a u
          have hap : all ++ news r a (u + 1) = (all ++ news r a u) ++ [at0 r a.1 + 1 + u] := by rw [hns, List.append_assoc]
          have hlu : (all ++ news r a u).length = all.length + u := by rw [List.length_append, hnl]
          generalize all ++ news r a u = G at *
          generalize chainUp all.length a u = c at *
          repeat' first
            | refine pw_seq ?_
            | refine pw_skip ?_
            | refine pw_ret ?_
            | refine pw_exit ?_
            | refine pw_block ?_
            | refine pw_region (fun _ => false) hmix ?_
            | (refine wpG_split rfl rfl (fun hc => ?_) (fun hc => ?_) <;> try simp only [decide_eq_true_eq, decide_eq_false_iff_not, Bool.not_eq_true', Bool.not_eq_false', Bool.false_eq_true, Bool.true_eq_false, reduceCtorEq, Bool.and_eq_true, Bool.or_eq_true, not_and, not_or] at hc)
            | (refine pw_cond _ rfl rfl (fun hc => ?_) (fun hc => ?_) <;> (try simp only [decide_eq_true_eq, decide_eq_false_iff_not, Bool.not_eq_true', Bool.not_eq_false', Bool.false_eq_true, Bool.true_eq_false, reduceCtorEq, Bool.and_eq_true, Bool.or_eq_true, not_and, not_or] at hc) <;> try (exfalso; omega))
            | simp (maxSteps := 1000000) (disch := omega) only [go_sem, Nat.reduceEqDiff, ↓reduceIte, Nat.reduceLT, Nat.reduceAdd, Nat.reduceSub, Nat.reduceLeDiff, Nat.reduceMul, Int.reduceToNat, reduceCtorEq, e2, hrn, roomy, hcl, htk, hta, hlu]
            | apply And.intro
            | omega
            | decide +kernel
          refine ⟨u + 1, ?_, entL_ren [(903, 57), (904, 61)] _ _ (by (repeat' first | exact List.forall_mem_nil _ | refine List.forall_mem_cons.2 ⟨(by first | rfl | (simp (disch := omega) only [go_sem, Nat.reduceEqDiff, ↓reduceIte, Nat.reduceLT, Nat.reduceAdd, Nat.reduceSub, Nat.reduceLeDiff, Nat.reduceMul, Int.reduceToNat, reduceCtorEq, hcs, hap, List.map_append, Int.natCast_add, Int.natCast_one, ← Int.add_assoc, List.length_append, hcl, hlu, PV.d.injEq, PV.ref.injEq, D.sc.injEq, Value.int.injEq, Value.bool.injEq, Ob.row.injEq, true_and, and_true]; first | done | omega | (congr 1; done))), ?_⟩); done) (by (repeat' first | exact List.forall_mem_nil _ | refine List.forall_mem_cons.2 ⟨(by first | rfl | (simp (disch := omega) only [go_sem, Nat.reduceEqDiff, ↓reduceIte, Nat.reduceLT, Nat.reduceAdd, Nat.reduceSub, Nat.reduceLeDiff, Nat.reduceMul, Int.reduceToNat, reduceCtorEq, hcs, hap, List.map_append, Int.natCast_add, Int.natCast_one, ← Int.add_assoc, List.length_append, hcl, hlu, PV.d.injEq, PV.ref.injEq, D.sc.injEq, Value.int.injEq, Value.bool.injEq, Ob.row.injEq, true_and, and_true]; first | done | omega | (congr 1; done))), ?_⟩); done) rfl rfl (nodup_of rfl) rfl (by (repeat' first | exact pd_of _ rfl | exact pd_dead | refine pd_upd rfl ?_ | refine pd_frz ?_); done), ?_⟩
          · omega
          · omega
        · have : u = gapN r a := by omega
          subst this
          have hcd : chainOf r all.length a = chainUp all.length a (gapN r a) ++ [a.2] := rfl
          have hcl2 := chainOf_len r all.length a
          repeat' first
            | refine pw_seq ?_
            | refine pw_skip ?_
            | refine pw_exit ?_
            | refine pw_block ?_
            | refine pw_region (fun _ => false) hmix ?_
            | (refine wpG_split rfl rfl (fun hc => ?_) (fun hc => ?_) <;> try simp only [decide_eq_true_eq, decide_eq_false_iff_not, Bool.not_eq_true', Bool.not_eq_false', Bool.false_eq_true, Bool.true_eq_false, reduceCtorEq, Bool.and_eq_true, Bool.or_eq_true, not_and, not_or] at hc)
            | (refine pw_cond _ rfl rfl (fun hc => ?_) (fun hc => ?_) <;> (try simp only [decide_eq_true_eq, decide_eq_false_iff_not, Bool.not_eq_true', Bool.not_eq_false', Bool.false_eq_true, Bool.true_eq_false, reduceCtorEq, Bool.and_eq_true, Bool.or_eq_true, not_and, not_or] at hc) <;> try (exfalso; omega))
            | simp (maxSteps := 1000000) (disch := omega) only [go_sem, Nat.reduceEqDiff, ↓reduceIte, Nat.reduceLT, Nat.reduceAdd, Nat.reduceSub, Nat.reduceLeDiff, Nat.reduceMul, Int.reduceToNat, reduceCtorEq, e2, hrn, roomy, hcl, htk]
            | apply And.intro
            | omega
            | decide +kernel
          refine pw_loopI (κ := Nat) (fun (j : Nat) => j ≤ gapN r a + 1) (fun (j : Nat) => [(1, .d (intsD r)), (2, .ptr 2 0 0 0), (4, .ptr 4 0 0 0), (5, .ptr 5 0 0 0), (6, .ref 904 1 0 (all.length + gapN r a) (all.length + gapN r a)), (7, .int e), (8, .ptr 8 0 0 0), (9, .ref 903 1 0 (gapN r a + 2) (gapN r a + 2)), (11, .int ((j : Int) + 1))]) (fun (j : Nat) => [(2, .cells [.int n, .d (arcsD l)]), (4, .cells [.int 0, .nilS, .nilS, .nilS]), (8, .cells [.int a.1, .int a.2]), (5, .cells [.int n, .ref 905 1 0 0 0, .ref 901 2 0 (arcsF r l e ++ pairsN (chainOf r all.length a) j).length (arcsF r l e ++ pairsN (chainOf r all.length a) j).length, .ref 902 1 0 (chainsF r l e).length (chainsF r l e).length]), (905, .row 1 []), (901, .row 2 ((arcsF r l e ++ pairsN (chainOf r all.length a) j).map arcD)), (902, .row 1 ((chainsF r l e).map intsD)), (904, .row 1 ((all ++ news r a (gapN r a)).map D.int)), (903, .row 1 ((chainOf r all.length a).map D.int))]) (fun (j : Nat) => gapN r a + 1 - j) 0 ?_ ?_ ?_
          · exact Nat.zero_le _
          · exact entL_ren [(903, 66)] _ _ (by (repeat' first | exact List.forall_mem_nil _ | refine List.forall_mem_cons.2 ⟨(by first | rfl | (simp (disch := omega) only [go_sem, Nat.reduceEqDiff, ↓reduceIte, Nat.reduceLT, Nat.reduceAdd, Nat.reduceSub, Nat.reduceLeDiff, Nat.reduceMul, Int.reduceToNat, reduceCtorEq, hcd, List.map_append, pairsN, List.range_zero, List.append_nil, PV.d.injEq, PV.ref.injEq, D.sc.injEq, Value.int.injEq, Value.bool.injEq, Ob.row.injEq, true_and, and_true]; first | done | omega | (congr 1; done))), ?_⟩); done) (by (repeat' first | exact List.forall_mem_nil _ | refine List.forall_mem_cons.2 ⟨(by first | rfl | (simp (disch := omega) only [go_sem, Nat.reduceEqDiff, ↓reduceIte, Nat.reduceLT, Nat.reduceAdd, Nat.reduceSub, Nat.reduceLeDiff, Nat.reduceMul, Int.reduceToNat, reduceCtorEq, hcd, List.map_append, pairsN, List.range_zero, List.append_nil, PV.d.injEq, PV.ref.injEq, D.sc.injEq, Value.int.injEq, Value.bool.injEq, Ob.row.injEq, true_and, and_true]; first | done | omega | (congr 1; done))), ?_⟩); done) rfl rfl (nodup_of rfl) rfl (by (repeat' first | exact pd_of _ rfl | exact pd_dead | refine pd_upd rfl ?_ | refine pd_frz ?_); done)
          · intro j hj
            have hpl := pairsN_len (chainOf r all.length a) j
            rcases Nat.lt_or_ge j (gapN r a + 1) with hjl | hjl
            · have gc1 := at0_at (r := chainOf r all.length a) (i := j) (by omega)
              have gc2 := at0_at (r := chainOf r all.length a) (i := j + 1) (by omega)
              have en : ((j : Int) + 1).toNat = j + 1 := by omega
              have hps := pairsN_succ (chainOf r all.length a) j
              have hpa : arcD (pairAt (chainOf r all.length a) j) = .ag [.int (at0 (chainOf r all.length a) j), .int (at0 (chainOf r all.length a) ((j + 1 : Nat) : Int))] := rfl
              have hap : arcsF r l e ++ pairsN (chainOf r all.length a) (j + 1) = (arcsF r l e ++ pairsN (chainOf r all.length a) j) ++ [pairAt (chainOf r all.length a) j] := by rw [hps, List.append_assoc]
              have hal2 : (arcsF r l e ++ pairsN (chainOf r all.length a) j).length ≤ 2000 := by rw [List.length_append]; omega
              try dsimp only
              generalize chainOf r all.length a = c at *
              generalize hG : arcsF r l e ++ pairsN c j = G at *
              repeat' first
                | refine pw_seq ?_
                | refine pw_skip ?_
                | refine pw_ret ?_
                | refine pw_exit ?_
                | refine pw_block ?_
                | refine pw_region (fun _ => false) hmix ?_
                | (refine wpG_split rfl rfl (fun hc => ?_) (fun hc => ?_) <;> try simp only [decide_eq_true_eq, decide_eq_false_iff_not, Bool.not_eq_true', Bool.not_eq_false', Bool.false_eq_true, Bool.true_eq_false, reduceCtorEq, Bool.and_eq_true, Bool.or_eq_true, not_and, not_or] at hc)
                | (refine pw_cond _ rfl rfl (fun hc => ?_) (fun hc => ?_) <;> (try simp only [decide_eq_true_eq, decide_eq_false_iff_not, Bool.not_eq_true', Bool.not_eq_false', Bool.false_eq_true, Bool.true_eq_false, reduceCtorEq, Bool.and_eq_true, Bool.or_eq_true, not_and, not_or] at hc) <;> try (exfalso; omega))
                | simp (maxSteps := 1000000) (disch := omega) only [go_sem, Nat.reduceEqDiff, ↓reduceIte, Nat.reduceLT, Nat.reduceAdd, Nat.reduceSub, Nat.reduceLeDiff, Nat.reduceMul, Int.reduceToNat, reduceCtorEq, gc1, gc2, en, hcl2, Int.add_sub_cancel, roomy, take_map_len]
                | apply And.intro
                | omega
                | decide +kernel
              refine ⟨j + 1, ?_, entL_ren [(901, 86)] _ _ (by (repeat' first | exact List.forall_mem_nil _ | refine List.forall_mem_cons.2 ⟨(by first | rfl | (simp (disch := omega) only [go_sem, Nat.reduceEqDiff, ↓reduceIte, Nat.reduceLT, Nat.reduceAdd, Nat.reduceSub, Nat.reduceLeDiff, Nat.reduceMul, Int.reduceToNat, reduceCtorEq, hap, List.map_append, List.length_append, List.length_cons, List.length_nil, hpa, Int.natCast_add, Int.natCast_one, PV.d.injEq, PV.ref.injEq, D.sc.injEq, Value.int.injEq, Value.bool.injEq, Ob.row.injEq, true_and, and_true]; first | done | omega | (congr 1; done))), ?_⟩); done) (by (repeat' first | exact List.forall_mem_nil _ | refine List.forall_mem_cons.2 ⟨(by first | rfl | (simp (disch := omega) only [go_sem, Nat.reduceEqDiff, ↓reduceIte, Nat.reduceLT, Nat.reduceAdd, Nat.reduceSub, Nat.reduceLeDiff, Nat.reduceMul, Int.reduceToNat, reduceCtorEq, hap, List.map_append, List.length_append, List.length_cons, List.length_nil, hpa, Int.natCast_add, Int.natCast_one, PV.d.injEq, PV.ref.injEq, D.sc.injEq, Value.int.injEq, Value.bool.injEq, Ob.row.injEq, true_and, and_true]; first | done | omega | (congr 1; done))), ?_⟩); done) rfl rfl (nodup_of rfl) rfl (by (repeat' first | exact pd_of _ rfl | exact pd_dead | refine pd_upd rfl ?_ | refine pd_frz ?_); done), ?_⟩
              · omega
              · omega
            · have : j = gapN r a + 1 := by omega
              subst this
              have hcf : chainsF r l (e + 1) = chainsF r l e ++ [chainOf r all.length a] := by rw [chainsF, catN, chainAt, ha, hA]; rfl
              have haf : arcsF r l (e + 1) = arcsF r l e ++ pairsN (chainOf r all.length a) (gapN r a + 1) := by rw [arcsF, catN, arcsAt, ha, hA]; rfl
              have hcfl := chainsF_len r l e he
              have hnl := news_len r a (gapN r a)
              have hcd2 : ((chainOf r all.length a).map D.int).take (gapN r a + 2) = (chainOf r all.length a).map D.int := List.take_of_length_le (by rw [List.length_map, hcl2]; exact Nat.le_refl _)
              have hcft : ((chainsF r l e).map intsD).take e = (chainsF r l e).map intsD := List.take_of_length_le (by rw [List.length_map, hcfl]; exact Nat.le_refl _)
              refine pw_ent _ (ent_freeze 903 1 ((chainOf r all.length a).map D.int) rfl (noGone_of _ rfl) (by decide)) ?_
              repeat' first
                | refine pw_seq ?_
                | refine pw_skip ?_
                | refine pw_ret ?_
                | refine pw_exit ?_
                | refine pw_block ?_
                | refine pw_region (fun _ => false) hmix ?_
                | (refine wpG_split rfl rfl (fun hc => ?_) (fun hc => ?_) <;> try simp only [decide_eq_true_eq, decide_eq_false_iff_not, Bool.not_eq_true', Bool.not_eq_false', Bool.false_eq_true, Bool.true_eq_false, reduceCtorEq, Bool.and_eq_true, Bool.or_eq_true, not_and, not_or] at hc)
                | (refine pw_cond _ rfl rfl (fun hc => ?_) (fun hc => ?_) <;> (try simp only [decide_eq_true_eq, decide_eq_false_iff_not, Bool.not_eq_true', Bool.not_eq_false', Bool.false_eq_true, Bool.true_eq_false, reduceCtorEq, Bool.and_eq_true, Bool.or_eq_true, not_and, not_or] at hc) <;> try (exfalso; omega))
                | simp (maxSteps := 1000000) (disch := omega) only [go_sem, Nat.reduceEqDiff, ↓reduceIte, Nat.reduceLT, Nat.reduceAdd, Nat.reduceSub, Nat.reduceLeDiff, Nat.reduceMul, Int.reduceToNat, reduceCtorEq, hcl2, roomy, List.length_map, hcd2, hcfl, take_map_len]
                | apply And.intro
                | omega
                | decide +kernel
              refine ⟨e + 1, ?_, entL_ren [(902, 92)] _ _ (by (repeat' first | exact List.forall_mem_nil _ | refine List.forall_mem_cons.2 ⟨(by first | rfl | (simp (disch := omega) only [go_sem, Nat.reduceEqDiff, ↓reduceIte, Nat.reduceLT, Nat.reduceAdd, Nat.reduceSub, Nat.reduceLeDiff, Nat.reduceMul, Int.reduceToNat, reduceCtorEq, hcf, haf, hall, List.map_append, List.length_append, List.length_cons, List.length_nil, hnl, Int.natCast_add, Int.natCast_one, hcl2, hcd2, hcfl, hcft, PV.d.injEq, PV.ref.injEq, D.sc.injEq, Value.int.injEq, Value.bool.injEq, Ob.row.injEq, true_and, and_true]; first | done | omega | (congr 1; done))), ?_⟩); done) (by (repeat' first | exact List.forall_mem_nil _ | refine List.forall_mem_cons.2 ⟨(by first | rfl | (simp (disch := omega) only [go_sem, Nat.reduceEqDiff, ↓reduceIte, Nat.reduceLT, Nat.reduceAdd, Nat.reduceSub, Nat.reduceLeDiff, Nat.reduceMul, Int.reduceToNat, reduceCtorEq, hcf, haf, hall, List.map_append, List.length_append, List.length_cons, List.length_nil, hnl, Int.natCast_add, Int.natCast_one, hcl2, hcd2, hcfl, hcft, PV.d.injEq, PV.ref.injEq, D.sc.injEq, Value.int.injEq, Value.bool.injEq, Ob.row.injEq, true_and, and_true]; first | done | omega | (congr 1; done))), ?_⟩); done) rfl rfl (nodup_of rfl) rfl (by (repeat' first | exact pd_of _ rfl | exact pd_dead | refine pd_upd rfl ?_ | refine pd_frz ?_); done), ?_⟩
              · omega
              · omega
    · have : e = l.length := by omega
      subst this
      have hal := allR_len l.length (Nat.le_refl _)
      have hmd : madeF (n, l) r = ((n : Int), if (n : Int) = 0 then [] else (List.range (maxN r (r.length - 1) + 1).toNat).map fun k => layerOf (allR r l l.length) k, arcsF r l l.length, chainsF r l l.length) := rfl
      rw [hmd]
      generalize allR r l l.length = A at hal ⊢
      generalize arcsF r l l.length = E
      generalize chainsF r l l.length = C
      repeat' first
        | refine pw_seq ?_
        | refine pw_skip ?_
        | refine pw_ret ?_
        | refine pw_exit ?_
        | refine pw_block ?_
        | refine pw_region (fun _ => false) hmix ?_
        | (refine wpG_split rfl rfl (fun hc => ?_) (fun hc => ?_) <;> try simp only [decide_eq_true_eq, decide_eq_false_iff_not, Bool.not_eq_true', Bool.not_eq_false', Bool.false_eq_true, Bool.true_eq_false, reduceCtorEq, Bool.and_eq_true, Bool.or_eq_true, not_and, not_or] at hc)
        | (refine pw_cond _ rfl rfl (fun hc => ?_) (fun hc => ?_) <;> (try simp only [decide_eq_true_eq, decide_eq_false_iff_not, Bool.not_eq_true', Bool.not_eq_false', Bool.false_eq_true, Bool.true_eq_false, reduceCtorEq, Bool.and_eq_true, Bool.or_eq_true, not_and, not_or] at hc) <;> try (exfalso; omega))
        | simp (maxSteps := 1000000) (disch := omega) only [go_sem, Nat.reduceEqDiff, ↓reduceIte, Nat.reduceLT, Nat.reduceAdd, Nat.reduceSub, Nat.reduceLeDiff, Nat.reduceMul, Int.reduceToNat, reduceCtorEq]
        | apply And.intro
        | omega
        | decide +kernel
      refine pw_loopI (κ := Nat) (fun (v : Nat) => v ≤ n) (fun (v : Nat) => [(1, .d (intsD r)), (2, .ptr 2 0 0 0), (4, .ptr 4 0 0 0), (5, .ptr 5 0 0 0), (6, .ref 904 1 0 A.length A.length), (12, .int (hiN r v)), (13, .int v)]) (fun (v : Nat) => [(2, .cells [.int n, .d (arcsD l)]), (4, .cells [.int 0, .nilS, .nilS, .nilS]), (5, .cells [.int n, .ref 905 1 0 0 0, .ref 901 2 0 E.length E.length, .ref 902 1 0 C.length C.length]), (905, .row 1 ([])), (901, .row 2 (E.map arcD)), (902, .row 1 (C.map intsD)), (904, .row 1 (A.map D.int))]) (fun (v : Nat) => n - v) 0 ?_ ?_ ?_
      · exact Nat.zero_le _
      · exact entL_ren [] _ _ (by (repeat' first | exact List.forall_mem_nil _ | refine List.forall_mem_cons.2 ⟨(by first | rfl | (simp (disch := omega) only [go_sem, Nat.reduceEqDiff, ↓reduceIte, Nat.reduceLT, Nat.reduceAdd, Nat.reduceSub, Nat.reduceLeDiff, Nat.reduceMul, Int.reduceToNat, reduceCtorEq, hiN, PV.d.injEq, PV.ref.injEq, D.sc.injEq, Value.int.injEq, Value.bool.injEq, Ob.row.injEq, true_and, and_true]; first | done | omega | (congr 1; done))), ?_⟩); done) (by (repeat' first | exact List.forall_mem_nil _ | refine List.forall_mem_cons.2 ⟨(by first | rfl | (simp (disch := omega) only [go_sem, Nat.reduceEqDiff, ↓reduceIte, Nat.reduceLT, Nat.reduceAdd, Nat.reduceSub, Nat.reduceLeDiff, Nat.reduceMul, Int.reduceToNat, reduceCtorEq, hiN, PV.d.injEq, PV.ref.injEq, D.sc.injEq, Value.int.injEq, Value.bool.injEq, Ob.row.injEq, true_and, and_true]; first | done | omega | (congr 1; done))), ?_⟩); done) rfl rfl (nodup_of rfl) rfl (by (repeat' first | exact pd_of _ rfl | exact pd_dead | refine pd_upd rfl ?_ | refine pd_frz ?_); done)
      · intro v hv
        rcases Nat.lt_or_ge v n with hvn | hvn
        · have gv := at0_at (r := r) (i := v) (by omega)
          repeat' first
            | refine pw_seq ?_
            | refine pw_skip ?_
            | refine pw_ret ?_
            | refine pw_exit ?_
            | refine pw_block ?_
            | refine pw_region (fun _ => false) hmix ?_
            | (refine wpG_split rfl rfl (fun hc => ?_) (fun hc => ?_) <;> try simp only [decide_eq_true_eq, decide_eq_false_iff_not, Bool.not_eq_true', Bool.not_eq_false', Bool.false_eq_true, Bool.true_eq_false, reduceCtorEq, Bool.and_eq_true, Bool.or_eq_true, not_and, not_or] at hc)
            | (refine pw_cond _ rfl rfl (fun hc => ?_) (fun hc => ?_) <;> (try simp only [decide_eq_true_eq, decide_eq_false_iff_not, Bool.not_eq_true', Bool.not_eq_false', Bool.false_eq_true, Bool.true_eq_false, reduceCtorEq, Bool.and_eq_true, Bool.or_eq_true, not_and, not_or] at hc) <;> try (exfalso; omega))
            | simp (maxSteps := 1000000) (disch := omega) only [go_sem, Nat.reduceEqDiff, ↓reduceIte, Nat.reduceLT, Nat.reduceAdd, Nat.reduceSub, Nat.reduceLeDiff, Nat.reduceMul, Int.reduceToNat, reduceCtorEq, gv, hrn]
            | apply And.intro
            | omega
            | decide +kernel
          refine ⟨v + 1, ?_, entL_ren [] _ _ (by (repeat' first | exact List.forall_mem_nil _ | refine List.forall_mem_cons.2 ⟨(by first | rfl | (simp (disch := omega) only [go_sem, Nat.reduceEqDiff, ↓reduceIte, Nat.reduceLT, Nat.reduceAdd, Nat.reduceSub, Nat.reduceLeDiff, Nat.reduceMul, Int.reduceToNat, reduceCtorEq, hiN, ite_max, PV.d.injEq, PV.ref.injEq, D.sc.injEq, Value.int.injEq, Value.bool.injEq, Ob.row.injEq, true_and, and_true]; first | done | omega | (congr 1; done))), ?_⟩); done) (by (repeat' first | exact List.forall_mem_nil _ | refine List.forall_mem_cons.2 ⟨(by first | rfl | (simp (disch := omega) only [go_sem, Nat.reduceEqDiff, ↓reduceIte, Nat.reduceLT, Nat.reduceAdd, Nat.reduceSub, Nat.reduceLeDiff, Nat.reduceMul, Int.reduceToNat, reduceCtorEq, hiN, ite_max, PV.d.injEq, PV.ref.injEq, D.sc.injEq, Value.int.injEq, Value.bool.injEq, Ob.row.injEq, true_and, and_true]; first | done | omega | (congr 1; done))), ?_⟩); done) rfl rfl (nodup_of rfl) rfl (by (repeat' first | exact pd_of _ rfl | exact pd_dead | refine pd_upd rfl ?_ | refine pd_frz ?_); done), ?_⟩
          · omega
          · omega
        · have : n = v := by omega
          subst this
          obtain ⟨H, hH⟩ : ∃ H : Nat, hiN r n + 1 = H ∧ H ≤ 256 ∧ (if (n : Int) = 0 then [] else (List.range (maxN r (r.length - 1) + 1).toNat).map fun k => layerOf A k) = layersN A H := by
            rcases Nat.eq_zero_or_pos n with h0 | h0
            · refine ⟨0, ?_, by omega, ?_⟩
              · rw [h0, hiN]; rfl
              · rw [if_pos (by omega)]; rfl
            · obtain ⟨m, rfl⟩ : ∃ m, n = m + 1 := ⟨n - 1, by omega⟩
              have e1 := hiN_max (fun v => (h5 v).1) m
              have e2 := maxN_le (fun j => (h5 j).2) m
              have e3 := maxN_ge r m 0 (by omega)
              have e4 := h5 0
              refine ⟨(maxN r m + 1).toNat, by omega, by omega, ?_⟩
              rw [if_neg (by omega), hrn, Nat.add_sub_cancel]
              rfl
          obtain ⟨hH, hH2, hH3⟩ := hH
          rw [hH3]
          generalize hiN r n = hi at hH ⊢
          repeat' first
            | refine pw_seq ?_
            | refine pw_skip ?_
            | refine pw_ret ?_
            | refine pw_exit ?_
            | refine pw_block ?_
            | refine pw_region (fun _ => false) hmix ?_
            | (refine wpG_split rfl rfl (fun hc => ?_) (fun hc => ?_) <;> try simp only [decide_eq_true_eq, decide_eq_false_iff_not, Bool.not_eq_true', Bool.not_eq_false', Bool.false_eq_true, Bool.true_eq_false, reduceCtorEq, Bool.and_eq_true, Bool.or_eq_true, not_and, not_or] at hc)
            | (refine pw_cond _ rfl rfl (fun hc => ?_) (fun hc => ?_) <;> (try simp only [decide_eq_true_eq, decide_eq_false_iff_not, Bool.not_eq_true', Bool.not_eq_false', Bool.false_eq_true, Bool.true_eq_false, reduceCtorEq, Bool.and_eq_true, Bool.or_eq_true, not_and, not_or] at hc) <;> try (exfalso; omega))
            | simp (maxSteps := 1000000) (disch := omega) only [go_sem, Nat.reduceEqDiff, ↓reduceIte, Nat.reduceLT, Nat.reduceAdd, Nat.reduceSub, Nat.reduceLeDiff, Nat.reduceMul, Int.reduceToNat, reduceCtorEq]
            | apply And.intro
            | omega
            | decide +kernel
          refine pw_loopI (κ := Nat) (fun (k : Nat) => k ≤ H) (fun (k : Nat) => [(1, .d (intsD r)), (2, .ptr 2 0 0 0), (4, .ptr 4 0 0 0), (5, .ptr 5 0 0 0), (6, .ref 904 1 0 A.length A.length), (12, .int hi), (14, .int k)]) (fun (k : Nat) => [(2, .cells [.int n, .d (arcsD l)]), (4, .cells [.int 0, .nilS, .nilS, .nilS]), (5, .cells [.int n, .ref 905 1 0 k k, .ref 901 2 0 E.length E.length, .ref 902 1 0 C.length C.length]), (905, .row 1 ((layersN A k).map intsD)), (901, .row 2 (E.map arcD)), (902, .row 1 (C.map intsD)), (904, .row 1 (A.map D.int))]) (fun (k : Nat) => H - k) 0 ?_ ?_ ?_
          · exact Nat.zero_le _
          · exact entL_ren [] _ _ (by (repeat' first | exact List.forall_mem_nil _ | refine List.forall_mem_cons.2 ⟨(by first | rfl | (simp (disch := omega) only [go_sem, Nat.reduceEqDiff, ↓reduceIte, Nat.reduceLT, Nat.reduceAdd, Nat.reduceSub, Nat.reduceLeDiff, Nat.reduceMul, Int.reduceToNat, reduceCtorEq, layersN, List.range_zero, List.map_nil, PV.d.injEq, PV.ref.injEq, D.sc.injEq, Value.int.injEq, Value.bool.injEq, Ob.row.injEq, true_and, and_true]; first | done | omega | (congr 1; done))), ?_⟩); done) (by (repeat' first | exact List.forall_mem_nil _ | refine List.forall_mem_cons.2 ⟨(by first | rfl | (simp (disch := omega) only [go_sem, Nat.reduceEqDiff, ↓reduceIte, Nat.reduceLT, Nat.reduceAdd, Nat.reduceSub, Nat.reduceLeDiff, Nat.reduceMul, Int.reduceToNat, reduceCtorEq, layersN, List.range_zero, List.map_nil, PV.d.injEq, PV.ref.injEq, D.sc.injEq, Value.int.injEq, Value.bool.injEq, Ob.row.injEq, true_and, and_true]; first | done | omega | (congr 1; done))), ?_⟩); done) rfl rfl (nodup_of rfl) rfl (by (repeat' first | exact pd_of _ rfl | exact pd_dead | refine pd_upd rfl ?_ | refine pd_frz ?_); done)
          · intro k hk
            rcases Nat.lt_or_ge k H with hkH | hkH
            · have hlk := layersN_len A k
              repeat' first
                | refine pw_seq ?_
                | refine pw_skip ?_
                | refine pw_ret ?_
                | refine pw_exit ?_
                | refine pw_block ?_
                | refine pw_region (fun _ => false) hmix ?_
                | (refine wpG_split rfl rfl (fun hc => ?_) (fun hc => ?_) <;> try simp only [decide_eq_true_eq, decide_eq_false_iff_not, Bool.not_eq_true', Bool.not_eq_false', Bool.false_eq_true, Bool.true_eq_false, reduceCtorEq, Bool.and_eq_true, Bool.or_eq_true, not_and, not_or] at hc)
                | (refine pw_cond _ rfl rfl (fun hc => ?_) (fun hc => ?_) <;> (try simp only [decide_eq_true_eq, decide_eq_false_iff_not, Bool.not_eq_true', Bool.not_eq_false', Bool.false_eq_true, Bool.true_eq_false, reduceCtorEq, Bool.and_eq_true, Bool.or_eq_true, not_and, not_or] at hc) <;> try (exfalso; omega))
                | simp (maxSteps := 1000000) (disch := omega) only [go_sem, Nat.reduceEqDiff, ↓reduceIte, Nat.reduceLT, Nat.reduceAdd, Nat.reduceSub, Nat.reduceLeDiff, Nat.reduceMul, Int.reduceToNat, reduceCtorEq]
                | apply And.intro
                | omega
                | decide +kernel
              refine pw_ent _ (ent_nil 15 906 1 rfl rfl) ?_
              refine pw_loopI (κ := Nat) (fun (i : Nat) => i ≤ A.length) (fun (i : Nat) => [(1, .d (intsD r)), (2, .ptr 2 0 0 0), (4, .ptr 4 0 0 0), (5, .ptr 5 0 0 0), (6, .ref 904 1 0 A.length A.length), (12, .int hi), (14, .int k), (15, .ref 906 1 0 (layerOf (A.take i) k).length (layerOf (A.take i) k).length), (16, .int i)]) (fun (i : Nat) => [(2, .cells [.int n, .d (arcsD l)]), (4, .cells [.int 0, .nilS, .nilS, .nilS]), (5, .cells [.int n, .ref 905 1 0 k k, .ref 901 2 0 E.length E.length, .ref 902 1 0 C.length C.length]), (905, .row 1 ((layersN A k).map intsD)), (901, .row 2 (E.map arcD)), (902, .row 1 (C.map intsD)), (904, .row 1 (A.map D.int)), (906, .row 1 ((layerOf (A.take i) k).map D.int))]) (fun (i : Nat) => A.length - i) 0 ?_ ?_ ?_
              · exact Nat.zero_le _
              · exact entL_ren [] _ _ (by (repeat' first | exact List.forall_mem_nil _ | refine List.forall_mem_cons.2 ⟨(by first | rfl | (simp (disch := omega) only [go_sem, Nat.reduceEqDiff, ↓reduceIte, Nat.reduceLT, Nat.reduceAdd, Nat.reduceSub, Nat.reduceLeDiff, Nat.reduceMul, Int.reduceToNat, reduceCtorEq, layerOf, List.take_zero, List.range_zero, List.length_nil, List.filter_nil, List.map_nil, PV.d.injEq, PV.ref.injEq, D.sc.injEq, Value.int.injEq, Value.bool.injEq, Ob.row.injEq, true_and, and_true]; first | done | omega | (congr 1; done))), ?_⟩); done) (by (repeat' first | exact List.forall_mem_nil _ | refine List.forall_mem_cons.2 ⟨(by first | rfl | (simp (disch := omega) only [go_sem, Nat.reduceEqDiff, ↓reduceIte, Nat.reduceLT, Nat.reduceAdd, Nat.reduceSub, Nat.reduceLeDiff, Nat.reduceMul, Int.reduceToNat, reduceCtorEq, layerOf, List.take_zero, List.range_zero, List.length_nil, List.filter_nil, List.map_nil, PV.d.injEq, PV.ref.injEq, D.sc.injEq, Value.int.injEq, Value.bool.injEq, Ob.row.injEq, true_and, and_true]; first | done | omega | (congr 1; done))), ?_⟩); done) rfl rfl (nodup_of rfl) rfl (by (repeat' first | exact pd_of _ rfl | exact pd_dead | refine pd_upd rfl ?_ | refine pd_frz ?_); done)
              · intro i hi2
                have hll := layerOf_len (A.take i) k
                rw [List.length_take] at hll
                rcases Nat.lt_or_ge i A.length with hiA | hiA
                · have gi := at0_at hiA
                  have hst : layerOf (A.take (i + 1)) k = if at0 A i = k then layerOf (A.take i) k ++ [(i : Int)] else layerOf (A.take i) k := by
                    rw [take_snoc gi, layerOf_snoc, List.length_take, Nat.min_eq_left (by omega)]
                  generalize layerOf (A.take i) k = L at hst hll ⊢
                  by_cases hx : at0 A i = k
                  · rw [if_pos hx] at hst
                    repeat' first
                      | refine pw_seq ?_
                      | refine pw_skip ?_
                      | refine pw_ret ?_
                      | refine pw_exit ?_
                      | refine pw_block ?_
                      | refine pw_region (fun _ => false) hmix ?_
                      | (refine wpG_split rfl rfl (fun hc => ?_) (fun hc => ?_) <;> try simp only [decide_eq_true_eq, decide_eq_false_iff_not, Bool.not_eq_true', Bool.not_eq_false', Bool.false_eq_true, Bool.true_eq_false, reduceCtorEq, Bool.and_eq_true, Bool.or_eq_true, not_and, not_or] at hc)
                      | (refine pw_cond _ rfl rfl (fun hc => ?_) (fun hc => ?_) <;> (try simp only [decide_eq_true_eq, decide_eq_false_iff_not, Bool.not_eq_true', Bool.not_eq_false', Bool.false_eq_true, Bool.true_eq_false, reduceCtorEq, Bool.and_eq_true, Bool.or_eq_true, not_and, not_or] at hc) <;> try (exfalso; omega))
                      | simp (maxSteps := 1000000) (disch := omega) only [go_sem, Nat.reduceEqDiff, ↓reduceIte, Nat.reduceLT, Nat.reduceAdd, Nat.reduceSub, Nat.reduceLeDiff, Nat.reduceMul, Int.reduceToNat, reduceCtorEq, gi, hx, roomy, take_map_len]
                      | apply And.intro
                      | omega
                      | decide +kernel
                    refine ⟨i + 1, ?_, entL_ren [(906, 126)] _ _ (by (repeat' first | exact List.forall_mem_nil _ | refine List.forall_mem_cons.2 ⟨(by first | rfl | (simp (disch := omega) only [go_sem, Nat.reduceEqDiff, ↓reduceIte, Nat.reduceLT, Nat.reduceAdd, Nat.reduceSub, Nat.reduceLeDiff, Nat.reduceMul, Int.reduceToNat, reduceCtorEq, hst, List.map_append, List.length_append, List.length_cons, List.length_nil, PV.d.injEq, PV.ref.injEq, D.sc.injEq, Value.int.injEq, Value.bool.injEq, Ob.row.injEq, true_and, and_true]; first | done | omega | (congr 1; done))), ?_⟩); done) (by (repeat' first | exact List.forall_mem_nil _ | refine List.forall_mem_cons.2 ⟨(by first | rfl | (simp (disch := omega) only [go_sem, Nat.reduceEqDiff, ↓reduceIte, Nat.reduceLT, Nat.reduceAdd, Nat.reduceSub, Nat.reduceLeDiff, Nat.reduceMul, Int.reduceToNat, reduceCtorEq, hst, List.map_append, List.length_append, List.length_cons, List.length_nil, PV.d.injEq, PV.ref.injEq, D.sc.injEq, Value.int.injEq, Value.bool.injEq, Ob.row.injEq, true_and, and_true]; first | done | omega | (congr 1; done))), ?_⟩); done) rfl rfl (nodup_of rfl) rfl (by (repeat' first | exact pd_of _ rfl | exact pd_dead | refine pd_upd rfl ?_ | refine pd_frz ?_); done), ?_⟩
                    · omega
                    · omega
                  · rw [if_neg hx] at hst
                    repeat' first
                      | refine pw_seq ?_
                      | refine pw_skip ?_
                      | refine pw_ret ?_
                      | refine pw_exit ?_
                      | refine pw_block ?_
                      | refine pw_region (fun _ => false) hmix ?_
                      | (refine wpG_split rfl rfl (fun hc => ?_) (fun hc => ?_) <;> try simp only [decide_eq_true_eq, decide_eq_false_iff_not, Bool.not_eq_true', Bool.not_eq_false', Bool.false_eq_true, Bool.true_eq_false, reduceCtorEq, Bool.and_eq_true, Bool.or_eq_true, not_and, not_or] at hc)
                      | (refine pw_cond _ rfl rfl (fun hc => ?_) (fun hc => ?_) <;> (try simp only [decide_eq_true_eq, decide_eq_false_iff_not, Bool.not_eq_true', Bool.not_eq_false', Bool.false_eq_true, Bool.true_eq_false, reduceCtorEq, Bool.and_eq_true, Bool.or_eq_true, not_and, not_or] at hc) <;> try (exfalso; omega))
                      | simp (maxSteps := 1000000) (disch := omega) only [go_sem, Nat.reduceEqDiff, ↓reduceIte, Nat.reduceLT, Nat.reduceAdd, Nat.reduceSub, Nat.reduceLeDiff, Nat.reduceMul, Int.reduceToNat, reduceCtorEq, gi, roomy, take_map_len]
                      | apply And.intro
                      | omega
                      | decide +kernel
                    refine ⟨i + 1, ?_, entL_ren [] _ _ (by (repeat' first | exact List.forall_mem_nil _ | refine List.forall_mem_cons.2 ⟨(by first | rfl | (simp (disch := omega) only [go_sem, Nat.reduceEqDiff, ↓reduceIte, Nat.reduceLT, Nat.reduceAdd, Nat.reduceSub, Nat.reduceLeDiff, Nat.reduceMul, Int.reduceToNat, reduceCtorEq, hst, PV.d.injEq, PV.ref.injEq, D.sc.injEq, Value.int.injEq, Value.bool.injEq, Ob.row.injEq, true_and, and_true]; first | done | omega | (congr 1; done))), ?_⟩); done) (by (repeat' first | exact List.forall_mem_nil _ | refine List.forall_mem_cons.2 ⟨(by first | rfl | (simp (disch := omega) only [go_sem, Nat.reduceEqDiff, ↓reduceIte, Nat.reduceLT, Nat.reduceAdd, Nat.reduceSub, Nat.reduceLeDiff, Nat.reduceMul, Int.reduceToNat, reduceCtorEq, hst, PV.d.injEq, PV.ref.injEq, D.sc.injEq, Value.int.injEq, Value.bool.injEq, Ob.row.injEq, true_and, and_true]; first | done | omega | (congr 1; done))), ?_⟩); done) rfl rfl (nodup_of rfl) rfl (by (repeat' first | exact pd_of _ rfl | exact pd_dead | refine pd_upd rfl ?_ | refine pd_frz ?_); done), ?_⟩
                    · omega
                    · omega
                · have : i = A.length := by omega
                  subst this
                  have hAA : A.take A.length = A := List.take_length
                  rw [hAA] at hll
                  have hls := layersN_succ A k
                  have hlt : ((layersN A k).map intsD).take k = (layersN A k).map intsD := List.take_of_length_le (by rw [List.length_map, hlk]; exact Nat.le_refl _)
                  try dsimp only
                  rw [hAA]
                  refine pw_ent _ (ent_freeze 906 1 ((layerOf A k).map D.int) rfl (noGone_of _ rfl) (by decide)) ?_
                  repeat' first
                    | refine pw_seq ?_
                    | refine pw_skip ?_
                    | refine pw_ret ?_
                    | refine pw_exit ?_
                    | refine pw_block ?_
                    | refine pw_region (fun _ => false) hmix ?_
                    | (refine wpG_split rfl rfl (fun hc => ?_) (fun hc => ?_) <;> try simp only [decide_eq_true_eq, decide_eq_false_iff_not, Bool.not_eq_true', Bool.not_eq_false', Bool.false_eq_true, Bool.true_eq_false, reduceCtorEq, Bool.and_eq_true, Bool.or_eq_true, not_and, not_or] at hc)
                    | (refine pw_cond _ rfl rfl (fun hc => ?_) (fun hc => ?_) <;> (try simp only [decide_eq_true_eq, decide_eq_false_iff_not, Bool.not_eq_true', Bool.not_eq_false', Bool.false_eq_true, Bool.true_eq_false, reduceCtorEq, Bool.and_eq_true, Bool.or_eq_true, not_and, not_or] at hc) <;> try (exfalso; omega))
                    | simp (maxSteps := 1000000) (disch := omega) only [go_sem, Nat.reduceEqDiff, ↓reduceIte, Nat.reduceLT, Nat.reduceAdd, Nat.reduceSub, Nat.reduceLeDiff, Nat.reduceMul, Int.reduceToNat, reduceCtorEq, roomy, List.length_map, hlk, take_map_len]
                    | apply And.intro
                    | omega
                    | decide +kernel
                  refine ⟨k + 1, ?_, entL_ren [(905, 131)] _ _ (by (repeat' first | exact List.forall_mem_nil _ | refine List.forall_mem_cons.2 ⟨(by first | rfl | (simp (disch := omega) only [go_sem, Nat.reduceEqDiff, ↓reduceIte, Nat.reduceLT, Nat.reduceAdd, Nat.reduceSub, Nat.reduceLeDiff, Nat.reduceMul, Int.reduceToNat, reduceCtorEq, hls, List.map_append, List.length_append, List.length_cons, List.length_nil, hlk, hlt, Int.natCast_add, Int.natCast_one, PV.d.injEq, PV.ref.injEq, D.sc.injEq, Value.int.injEq, Value.bool.injEq, Ob.row.injEq, true_and, and_true]; first | done | omega | (congr 1; done))), ?_⟩); done) (by (repeat' first | exact List.forall_mem_nil _ | refine List.forall_mem_cons.2 ⟨(by first | rfl | (simp (disch := omega) only [go_sem, Nat.reduceEqDiff, ↓reduceIte, Nat.reduceLT, Nat.reduceAdd, Nat.reduceSub, Nat.reduceLeDiff, Nat.reduceMul, Int.reduceToNat, reduceCtorEq, hls, List.map_append, List.length_append, List.length_cons, List.length_nil, hlk, hlt, Int.natCast_add, Int.natCast_one, PV.d.injEq, PV.ref.injEq, D.sc.injEq, Value.int.injEq, Value.bool.injEq, Ob.row.injEq, true_and, and_true]; first | done | omega | (congr 1; done))), ?_⟩); done) rfl rfl (nodup_of rfl) rfl (by (repeat' first | exact pd_of _ rfl | exact pd_dead | refine pd_upd rfl ?_ | refine pd_frz ?_); done), ?_⟩
                  · omega
                  · omega
            · have : k = H := by omega
              subst this
              have hlk := layersN_len A k
              repeat' first
                | refine pw_seq ?_
                | refine pw_skip ?_
                | refine pw_ret ?_
                | refine pw_exit ?_
                | refine pw_block ?_
                | refine pw_region (fun _ => false) hmix ?_
                | (refine wpG_split rfl rfl (fun hc => ?_) (fun hc => ?_) <;> try simp only [decide_eq_true_eq, decide_eq_false_iff_not, Bool.not_eq_true', Bool.not_eq_false', Bool.false_eq_true, Bool.true_eq_false, reduceCtorEq, Bool.and_eq_true, Bool.or_eq_true, not_and, not_or] at hc)
                | (refine pw_cond _ rfl rfl (fun hc => ?_) (fun hc => ?_) <;> (try simp only [decide_eq_true_eq, decide_eq_false_iff_not, Bool.not_eq_true', Bool.not_eq_false', Bool.false_eq_true, Bool.true_eq_false, reduceCtorEq, Bool.and_eq_true, Bool.or_eq_true, not_and, not_or] at hc) <;> try (exfalso; omega))
                | simp (maxSteps := 1000000) (disch := omega) only [go_sem, Nat.reduceEqDiff, ↓reduceIte, Nat.reduceLT, Nat.reduceAdd, Nat.reduceSub, Nat.reduceLeDiff, Nat.reduceMul, Int.reduceToNat, reduceCtorEq]
                | apply And.intro
                | omega
                | decide +kernel
              have hlt : ((layersN A k).map intsD).take k = (layersN A k).map intsD := List.take_of_length_le (by rw [List.length_map, hlk]; exact Nat.le_refl _)
              refine ⟨_, _, _, _, rfl, ?_⟩
              simp (maxSteps := 1000000) (disch := omega) only [go_sem, Nat.reduceEqDiff, ↓reduceIte, Nat.reduceLT, Nat.reduceAdd, Nat.reduceSub, Nat.reduceLeDiff, Nat.reduceMul, Int.reduceToNat, reduceCtorEq, toD, hlk, hlt, take_map_len]
end Go.Proofs.Ytpmmikkojpcogaa
