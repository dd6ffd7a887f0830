/- The law on costs: Run never costs more than the kept start; vertices stay in their layers. -/
import Derived.Test.YtelghbnlceeecaaStP
set_option linter.unusedSimpArgs false
set_option linter.unusedVariables false
namespace Go.Proofs.Ytelghbnlceeecaa
open Go Go.PS Go.Proofs
open Go.Bd (keptF invF)
set_option maxRecDepth 100000
attribute [local irreducible] wpRun wpG CallsTo CallsM

theorem few_old {a : Lv} {old : List (List Int)} (h : fewS a old = true) (i : Nat) : (lstN old i).length ≤ 600 := by
  obtain ⟨_, _, _, _, h5⟩ := fewS_in h
  simp only [fewS, Bool.and_eq_true, Bool.not_eq_true'] at h
  have h2 := h.1.2
  rw [List.take_of_length_le (by omega)] at h2
  rcases Nat.lt_or_ge i old.length with hlt | hge
  · obtain ⟨y, hy⟩ := get_some hlt
    rw [lstN_at hy]
    have := List.any_eq_false.1 h2 y (List.mem_of_getElem? hy)
    simp only [longB, decide_eq_true_eq] at this
    omega
  · rw [lstN_out hge]; simp
theorem kin_rank {a b : Lv} (h : Kin a b) {k : Nat} (hk : k < a.2.1.length) {v : Int} (hv : v ∈ lstN a.2.1 k) : rankF b v = (k : Int) := by
  have hm : v ∈ lstN b.2.1 k := (h.perm k).mem_iff.2 hv
  obtain ⟨p, hp⟩ := List.getElem?_of_mem hm
  rw [rankF, if_pos h.ok]
  exact Lies.lay (valid_nodup h.ok) ⟨_, h.lay hk, hp⟩
set_option maxHeartbeats 16000000 in
theorem lawCosts (a : Lv) (old : List (List Int)) (w r : Int) (hw : wide a) : CallsTo Try.prog 8 [lvD a, listsD old, stepD w r] (.bool true) := by
  have h5 := lives_spec
  have h1 := fewS_spec a old hw
  rcases hf : fewS a old with _ | _ <;> rw [hf] at h1
  · refine callsTo_of Try.func8 rfl (by decide +kernel) (Nat.le_of_ble_eq_true rfl) ?_
    intro hat B X w0
    repeat' first | refine pw_seq ?_ | refine pw_skip ?_ | refine pw_ret ?_ | refine pw_exit ?_ | refine pw_block ?_ | refine pw_region (fun _ => false) hmix ?_ | (refine rc (h1) rfl ?_ ?_; (· first | rfl | (simp (disch := omega) only [go_sem, simprocAttr, List.append_eq]; done))) | (refine rc (h5) rfl ?_ ?_; (· first | rfl | (simp (disch := omega) only [go_sem, simprocAttr, List.append_eq]; done))) | (refine wpG_split rfl rfl (fun hc => ?_) (fun hc => ?_) <;> try simp only [hcL, reduceCtorEq] at hc) | (refine pw_cond _ rfl rfl (fun hc => ?_) (fun hc => ?_) <;> (try simp only [hcL, reduceCtorEq] at hc) <;> try (exfalso; omega)) | simp (maxSteps := 1000000) (disch := omega) only [go_sem, simprocAttr, List.append_eq] | apply And.intro | omega | decide +kernel
    exact bool_some rfl
  · have h4 := LvValid_spec a hw
    rcases hv : validF a with _ | _ <;> rw [hv] at h4
    · refine callsTo_of Try.func8 rfl (by decide +kernel) (Nat.le_of_ble_eq_true rfl) ?_
      intro hat B X w0
      repeat' first | refine pw_seq ?_ | refine pw_skip ?_ | refine pw_ret ?_ | refine pw_exit ?_ | refine pw_block ?_ | refine pw_region (fun _ => false) hmix ?_ | (refine rc (h1) rfl ?_ ?_; (· first | rfl | (simp (disch := omega) only [go_sem, simprocAttr, List.append_eq]; done))) | (refine rc (h4) rfl ?_ ?_; (· first | rfl | (simp (disch := omega) only [go_sem, simprocAttr, List.append_eq]; done))) | (refine rc (h5) rfl ?_ ?_; (· first | rfl | (simp (disch := omega) only [go_sem, simprocAttr, List.append_eq]; done))) | (refine wpG_split rfl rfl (fun hc => ?_) (fun hc => ?_) <;> try simp only [hcL, reduceCtorEq] at hc) | (refine pw_cond _ rfl rfl (fun hc => ?_) (fun hc => ?_) <;> (try simp only [hcL, reduceCtorEq] at hc) <;> try (exfalso; omega)) | simp (maxSteps := 1000000) (disch := omega) only [go_sem, simprocAttr, List.append_eq] | apply And.intro | omega | decide +kernel
      all_goals exact bool_some rfl
    · by_cases hg : 0 ≤ r ∧ r ≤ 3 ∧ 0 ≤ w ∧ w ≤ 1000
      · obtain ⟨g1, g2, g3, g4⟩ := hg
        obtain ⟨r, rfl⟩ : ∃ n : Nat, r = n := ⟨r.toNat, by omega⟩
        obtain ⟨f1, f2, f3, f4, f5⟩ := fewS_in hf
        have hol := few_old hf
        have hok : okW a w = true := by rw [okW, hv, decide_eq_true ⟨g3, g4⟩]; rfl
        have h2 := Run_spec a old w r hw (by omega) hol
        rw [runF, if_neg (by rw [hok]; rintro (h | h); cases h; omega), Int.toNat_natCast] at h2
        have hK := run_kin hv hw old w r
        have hKs := start_kin hv hw old a.2.1.length (Nat.le_refl _)
        have hcs := run_cost hv hw old ⟨g3, g4⟩ r
        have h3 := Cost_spec (runN a old w r) old w hK.wd
        have h6 := Start_spec a old hw hv hol
        have h7 := Cost_spec (startN a old a.2.1.length) old w hKs.wd
        have h8 := LvValid_spec (runN a old w r) hK.wd
        rw [hK.ok] at h8
        have hrk := fun v => rRank_spec (runN a old w r) v hK.wd
        have hrke := fun (k : Nat) (hk : k < a.2.1.length) (v : Int) (hm : v ∈ lstN a.2.1 k) => kin_rank hK hk hm
        have hll := hK.llen
        have hlay := fun (k : Nat) (hk : k < a.2.1.length) => hK.lay hk
        have hlen := hK.len
        have hay := fun (k : Nat) (hk : k < a.2.1.length) => (Kin.refl hv hw).lay hk
        have hly := fun k : Nat => Layer_spec a old w k hw (by omega)
        have hca := Cost_spec a old w hw
        have hlc : ∀ k : Nat, k < a.2.1.length → ∃ (b : Lv) (e : Int), layerF a old w k = (b, e) ∧ (e = 0 → wide b ∧ costF b old w ≤ costF a old w) := fun k hk => by
          by_cases hb8 : 8 < (lstN a.2.1 k).length
          · exact ⟨lv0, 2, by rw [layerF, if_neg (by rw [hok]; decide), if_neg (by omega), Int.toNat_natCast, if_pos hb8], fun h => by cases h⟩
          · exact ⟨bestLay a old w k, 0, layerF_ok hok hk hb8, fun _ => ⟨(best_kin (Kin.refl hv hw) old w hk).wd, best_cost (Kin.refl hv hw) old ⟨g3, g4⟩ hk⟩⟩
        have hcb := fun (b : Lv) (hwb : wide b) => Cost_spec b old w hwb
        have hyl := layer_le hv
        clear hK hKs hcs
        have hcs := run_cost hv hw old ⟨g3, g4⟩ r
        generalize costF (runN a old w r) old w = C1 at *
        generalize costF (startN a old a.2.1.length) old w = C2 at *
        generalize costF a old w = C0 at *
        generalize runN a old w r = b at *
        generalize startN a old a.2.1.length = s at *
        obtain ⟨n', ls', ar', cs'⟩ := b
        obtain ⟨n2, ls2, ar2, cs2⟩ := s
        obtain ⟨n, ls, ar, cs⟩ := a
        dsimp only at *
        refine callsTo_of Try.func8 rfl (by decide +kernel) (Nat.le_of_ble_eq_true rfl) ?_
        intro hat B X w0
        have hcsn : ¬ C2 < C1 := by omega
        repeat' first | refine pw_seq ?_ | refine pw_skip ?_ | refine pw_ret ?_ | refine pw_exit ?_ | refine pw_block ?_ | refine pw_region (fun _ => false) hmix ?_ | (refine rc (h1) rfl ?_ ?_; (· first | rfl | (simp (disch := omega) only [go_sem, simprocAttr, List.append_eq, hlen, hcsn]; done))) | (refine rc (h4) rfl ?_ ?_; (· first | rfl | (simp (disch := omega) only [go_sem, simprocAttr, List.append_eq, hlen, hcsn]; done))) | (refine rc (h2) rfl ?_ ?_; (· first | rfl | (simp (disch := omega) only [go_sem, simprocAttr, List.append_eq, hlen, hcsn]; done))) | (refine rc (h8) rfl ?_ ?_; (· first | rfl | (simp (disch := omega) only [go_sem, simprocAttr, List.append_eq, hlen, hcsn]; done))) | (refine rc (h3) rfl ?_ ?_; (· first | rfl | (simp (disch := omega) only [go_sem, simprocAttr, List.append_eq, hlen, hcsn]; done))) | (refine rc (h6) rfl ?_ ?_; (· first | rfl | (simp (disch := omega) only [go_sem, simprocAttr, List.append_eq, hlen, hcsn]; done))) | (refine rc (h7) rfl ?_ ?_; (· first | rfl | (simp (disch := omega) only [go_sem, simprocAttr, List.append_eq, hlen, hcsn]; done))) | (refine wpG_split rfl rfl (fun hc => ?_) (fun hc => ?_) <;> try simp only [hcL, reduceCtorEq] at hc) | (refine pw_cond _ rfl rfl (fun hc => ?_) (fun hc => ?_) <;> (try simp only [hcL, reduceCtorEq] at hc) <;> try (exfalso; omega)) | simp (maxSteps := 1000000) (disch := omega) only [go_sem, simprocAttr, List.append_eq, hlen, hcsn] | apply And.intro | omega | decide +kernel
        refine pw_loopI (κ := Nat) (fun (k : Nat) => k ≤ ls.length) (fun (k : Nat) => [(1, .d (listsD old)), (3, .ptr 3 0 0 0), (5, .ptr 5 0 0 0), (7, .ptr 7 0 0 0), (10, .int k)]) (fun (k : Nat) => [(3, .cells [.int n, .d (listsD ls), .d (arcsD ar), .d (listsD cs)]), (5, .cells [.int w, .int r]), (7, .cells [.int n', .d (listsD ls'), .d (arcsD ar'), .d (listsD cs')])]) (fun (k : Nat) => ls.length - k) 0 ?_ ?_ ?_
        · exact Nat.zero_le _
        · exact eL [] _ _ (by refine ⟨?_, ?_⟩ <;> (repeat' first | exact List.forall_mem_nil _ | refine List.forall_mem_cons.2 ⟨(by first | rfl | (simp (disch := omega) only [go_sem, simprocAttr, inL]; first | done | omega | (congr 1; done))), ?_⟩); done)
        · intro k hk
          rcases Nat.lt_or_ge k ls.length with hlt | hge
          · have c1 := hlay k hlt
            have c2 := hay k hlt
            have c3 := hll k
            have c4 := hrke k hlt
            have c5 := hly k
            have c7 := hyl k
            obtain ⟨bb, e, hbe, hbc⟩ := hlc k hlt
            rw [hbe] at c5
            generalize lstN ls' k = y' at *
            generalize lstN ls k = y at *
            repeat' first | refine pw_seq ?_ | refine pw_skip ?_ | refine pw_ret ?_ | refine pw_exit ?_ | refine pw_block ?_ | refine pw_region (fun _ => false) hmix ?_ | (refine wpG_split rfl rfl (fun hc => ?_) (fun hc => ?_) <;> try simp only [hcL, reduceCtorEq] at hc) | (refine pw_cond _ rfl rfl (fun hc => ?_) (fun hc => ?_) <;> (try simp only [hcL, reduceCtorEq] at hc) <;> try (exfalso; omega)) | simp (maxSteps := 1000000) (disch := omega) only [go_sem, simprocAttr, List.append_eq, c1, c2, c3] | apply And.intro | omega | decide +kernel
            refine pw_loopI (κ := Nat) (fun (j : Nat) => j ≤ y.length) (fun (j : Nat) => [(1, .d (listsD old)), (3, .ptr 3 0 0 0), (5, .ptr 5 0 0 0), (7, .ptr 7 0 0 0), (10, .int k), (11, .int j)]) (fun (j : Nat) => [(3, .cells [.int n, .d (listsD ls), .d (arcsD ar), .d (listsD cs)]), (5, .cells [.int w, .int r]), (7, .cells [.int n', .d (listsD ls'), .d (arcsD ar'), .d (listsD cs')])]) (fun (j : Nat) => y.length - j) 0 ?_ ?_ ?_
            · exact Nat.zero_le _
            · exact eL [] _ _ (by refine ⟨?_, ?_⟩ <;> (repeat' first | exact List.forall_mem_nil _ | refine List.forall_mem_cons.2 ⟨(by first | rfl | (simp (disch := omega) only [go_sem, simprocAttr, inL]; first | done | omega | (congr 1; done))), ?_⟩); done)
            · intro j hj
              rcases Nat.lt_or_ge j y.length with hlj | hgj
              · obtain ⟨v, hvj⟩ := get_some hlj
                have d1 := hrk v
                rw [c4 v (List.mem_of_getElem? hvj)] at d1
                repeat' first | refine pw_seq ?_ | refine pw_skip ?_ | refine pw_ret ?_ | refine pw_exit ?_ | refine pw_block ?_ | refine pw_region (fun _ => false) hmix ?_ | (refine rc (d1) rfl ?_ ?_; (· first | rfl | (simp (disch := omega) only [go_sem, simprocAttr, List.append_eq, c2, hvj]; done))) | (refine wpG_split rfl rfl (fun hc => ?_) (fun hc => ?_) <;> try simp only [hcL, reduceCtorEq] at hc) | (refine pw_cond _ rfl rfl (fun hc => ?_) (fun hc => ?_) <;> (try simp only [hcL, reduceCtorEq] at hc) <;> try (exfalso; omega)) | simp (maxSteps := 1000000) (disch := omega) only [go_sem, simprocAttr, List.append_eq, c2, hvj] | apply And.intro | omega | decide +kernel
                refine ⟨j + 1, ?_, eL [] _ _ (by refine ⟨?_, ?_⟩ <;> (repeat' first | exact List.forall_mem_nil _ | refine List.forall_mem_cons.2 ⟨(by first | rfl | (simp (disch := omega) only [go_sem, simprocAttr, inL]; first | done | omega | (congr 1; done))), ?_⟩); done), ?_⟩
                · omega
                · omega
              · have : j = y.length := by omega
                subst this
                by_cases he : e = 0
                · obtain ⟨hwb, hcc⟩ := hbc he
                  have c6 := hcb bb hwb
                  subst he
                  have hccn : ¬ C0 < costF bb old w := by omega
                  generalize costF bb old w = CB at *
                  obtain ⟨n3, ls3, ar3, cs3⟩ := bb
                  dsimp only at *
                  repeat' first | refine pw_seq ?_ | refine pw_skip ?_ | refine pw_ret ?_ | refine pw_exit ?_ | refine pw_block ?_ | refine pw_region (fun _ => false) hmix ?_ | (refine rc (c5) rfl ?_ ?_; (· first | rfl | (simp (disch := omega) only [go_sem, simprocAttr, List.append_eq, c2, hccn]; done))) | (refine rc (c6) rfl ?_ ?_; (· first | rfl | (simp (disch := omega) only [go_sem, simprocAttr, List.append_eq, c2, hccn]; done))) | (refine rc (hca) rfl ?_ ?_; (· first | rfl | (simp (disch := omega) only [go_sem, simprocAttr, List.append_eq, c2, hccn]; done))) | (refine wpG_split rfl rfl (fun hc => ?_) (fun hc => ?_) <;> try simp only [hcL, reduceCtorEq] at hc) | (refine pw_cond _ rfl rfl (fun hc => ?_) (fun hc => ?_) <;> (try simp only [hcL, reduceCtorEq] at hc) <;> try (exfalso; omega)) | simp (maxSteps := 1000000) (disch := omega) only [go_sem, simprocAttr, List.append_eq, c2, hccn] | apply And.intro | omega | decide +kernel
                  refine ⟨k + 1, ?_, eL [] _ _ (by refine ⟨?_, ?_⟩ <;> (repeat' first | exact List.forall_mem_nil _ | refine List.forall_mem_cons.2 ⟨(by first | rfl | (simp (disch := omega) only [go_sem, simprocAttr, inL]; first | done | omega | (congr 1; done))), ?_⟩); done), ?_⟩
                  · omega
                  · omega
                · obtain ⟨n3, ls3, ar3, cs3⟩ := bb
                  dsimp only at *
                  repeat' first | refine pw_seq ?_ | refine pw_skip ?_ | refine pw_ret ?_ | refine pw_exit ?_ | refine pw_block ?_ | refine pw_region (fun _ => false) hmix ?_ | (refine rc (c5) rfl ?_ ?_; (· first | rfl | (simp (disch := omega) only [go_sem, simprocAttr, List.append_eq, c2, he]; done))) | (refine rc (hca) rfl ?_ ?_; (· first | rfl | (simp (disch := omega) only [go_sem, simprocAttr, List.append_eq, c2, he]; done))) | (refine wpG_split rfl rfl (fun hc => ?_) (fun hc => ?_) <;> try simp only [hcL, reduceCtorEq] at hc) | (refine pw_cond _ rfl rfl (fun hc => ?_) (fun hc => ?_) <;> (try simp only [hcL, reduceCtorEq] at hc) <;> try (exfalso; omega)) | simp (maxSteps := 1000000) (disch := omega) only [go_sem, simprocAttr, List.append_eq, c2, he] | apply And.intro | omega | decide +kernel
                  refine ⟨k + 1, ?_, eL [] _ _ (by refine ⟨?_, ?_⟩ <;> (repeat' first | exact List.forall_mem_nil _ | refine List.forall_mem_cons.2 ⟨(by first | rfl | (simp (disch := omega) only [go_sem, simprocAttr, inL]; first | done | omega | (congr 1; done))), ?_⟩); done), ?_⟩
                  · omega
                  · omega
          · repeat' first | refine pw_seq ?_ | refine pw_skip ?_ | refine pw_ret ?_ | refine pw_exit ?_ | refine pw_block ?_ | refine pw_region (fun _ => false) hmix ?_ | (refine rc (h5) rfl ?_ ?_; (· first | rfl | (simp (disch := omega) only [go_sem, simprocAttr]; done))) | (refine wpG_split rfl rfl (fun hc => ?_) (fun hc => ?_) <;> try simp only [hcL, reduceCtorEq] at hc) | (refine pw_cond _ rfl rfl (fun hc => ?_) (fun hc => ?_) <;> (try simp only [hcL, reduceCtorEq] at hc) <;> try (exfalso; omega)) | simp (maxSteps := 1000000) (disch := omega) only [go_sem, simprocAttr] | apply And.intro | omega | decide +kernel
            exact bool_some rfl
      · refine callsTo_of Try.func8 rfl (by decide +kernel) (Nat.le_of_ble_eq_true rfl) ?_
        intro hat B X w0
        repeat' first | refine pw_seq ?_ | refine pw_skip ?_ | refine pw_ret ?_ | refine pw_exit ?_ | refine pw_block ?_ | refine pw_region (fun _ => false) hmix ?_ | (refine rc (h1) rfl ?_ ?_; (· first | rfl | (simp (disch := omega) only [go_sem, simprocAttr, List.append_eq]; done))) | (refine rc (h4) rfl ?_ ?_; (· first | rfl | (simp (disch := omega) only [go_sem, simprocAttr, List.append_eq]; done))) | (refine rc (h5) rfl ?_ ?_; (· first | rfl | (simp (disch := omega) only [go_sem, simprocAttr, List.append_eq]; done))) | (refine wpG_split rfl rfl (fun hc => ?_) (fun hc => ?_) <;> try simp only [hcL, reduceCtorEq] at hc) | (refine pw_cond _ rfl rfl (fun hc => ?_) (fun hc => ?_) <;> (try simp only [hcL, reduceCtorEq] at hc) <;> try (exfalso; omega)) | simp (maxSteps := 1000000) (disch := omega) only [go_sem, simprocAttr, List.append_eq] | apply And.intro | omega | decide +kernel
        all_goals exact bool_some rfl
end Go.Proofs.Ytelghbnlceeecaa
namespace Go.Proofs.Ytelghbnlceeecaa
open Go Go.PS Go.Proofs
open Go.Bd (keptF invF)
set_option maxRecDepth 100000
attribute [local irreducible] wpRun wpG CallsTo CallsM

def crossT (F E : List (Int × Int)) : Nat := (F.map fun y => E.countP fun x => crossB x y).sum
theorem crossT_cons (x : Int × Int) (E : List (Int × Int)) : ∀ F, crossT F (x :: E) = F.countP (crossB x) + crossT F E
  | [] => rfl
  | y :: F => by
    have ih := crossT_cons x E F
    simp only [crossT, List.map_cons, List.sum_cons, List.countP_cons] at ih ⊢
    omega
theorem crossF_T (F : List (Int × Int)) : ∀ E, crossF E F = crossT F E
  | [] => by
    have : ∀ G : List (Int × Int), crossT G [] = 0 := fun G => by
      induction G with
      | nil => rfl
      | cons y G ih => simp only [crossT, List.map_cons, List.sum_cons, List.countP_nil] at ih ⊢; omega
    rw [this]; rfl
  | x :: E => by rw [crossF, crossF_T F E, crossT_cons]
theorem cross_one (x : Int × Int) : ∀ F : List (Int × Int), F.countP (crossB x) + F.countP (fun y => crossB y x) ≤ F.length
  | [] => Nat.le_refl _
  | y :: F => by
    have ih := cross_one x F
    have hb : ¬ (crossB x y = true ∧ crossB y x = true) := by
      simp only [crossB, Bool.and_eq_true, decide_eq_true_eq]; omega
    simp only [List.countP_cons, List.length_cons]
    by_cases h1 : crossB x y = true <;> by_cases h2 : crossB y x = true
    · exact absurd ⟨h1, h2⟩ hb
    all_goals simp only [h1, h2, if_true, if_false, Bool.false_eq_true] <;> omega
theorem cross_two (F : List (Int × Int)) : ∀ E : List (Int × Int), crossF E F + crossT E F ≤ E.length * F.length
  | [] => by simp [crossF, crossT]
  | x :: E => by
    have ih := cross_two F E
    have h1 := cross_one x F
    have e : crossT (x :: E) F = F.countP (fun y => crossB y x) + crossT E F := by simp only [crossT, List.map_cons, List.sum_cons]
    rw [crossF, e, List.length_cons, Nat.add_mul]
    omega
theorem cross_half (E : List (Int × Int)) : 2 * crossF E E ≤ E.length * E.length := by
  have h := cross_two E E
  rw [← crossF_T] at h
  omega
theorem total_small {a : Lv} (h10 : a.2.2.1.length ≤ 10) (h12 : a.2.1.length ≤ 12) : TotalF a ≤ 600 := by
  have hb : ∀ i : Int, BetweenF a i ≤ 50 := fun i => by
    rw [between_same, rBetweenF]
    split
    · decide
    · have h1 := cross_half (pairsF (lstN a.2.1 i.toNat) (lstN a.2.1 (i.toNat + 1)) a.2.2.1)
      have h2 := pairsF_le (lstN a.2.1 i.toNat) (lstN a.2.1 (i.toNat + 1)) a.2.2.1
      have h3 : (pairsF (lstN a.2.1 i.toNat) (lstN a.2.1 (i.toNat + 1)) a.2.2.1).length ≤ 10 := by omega
      have h4 := Nat.mul_le_mul h3 h3
      omega
  have := sumZ_bound (f := fun i => BetweenF a i) (c := 50) a.2.1.length fun i _ => ⟨(BetweenF_le a i).1, hb i⟩
  rw [TotalF]
  have h2 : ((a.2.1.length * 50 : Nat) : Int) ≤ 600 := by omega
  omega
theorem invS_zero {b : Lv} {old : List (List Int)} : ∀ n, invS b old n = 0 → ∀ i, i < n → invF (lstN old i) (lstN b.2.1 i) = 0
  | n + 1, h, i, hi => by
    have s1 : invS b old (n + 1) = invS b old n + (invF (lstN old n) (lstN b.2.1 n) : Int) := rfl
    have hnn : ∀ k, 0 ≤ invS b old k := by
      intro k
      induction k with
      | zero => exact Int.le_refl _
      | succ k ih =>
        have s2 : invS b old (k + 1) = invS b old k + (invF (lstN old k) (lstN b.2.1 k) : Int) := rfl
        omega
    have := hnn n
    rcases Nat.lt_succ_iff_lt_or_eq.1 hi with h1 | rfl
    · exact invS_zero n (by omega) i h1
    · omega
theorem invS_of {b : Lv} {old : List (List Int)} : ∀ n, (∀ i, i < n → invF (lstN old i) (lstN b.2.1 i) = 0) → invS b old n = 0
  | 0, _ => rfl
  | n + 1, h => by
    have s1 : invS b old (n + 1) = invS b old n + (invF (lstN old n) (lstN b.2.1 n) : Int) := rfl
    rw [s1, invS_of n fun i hi => h i (by omega), h n (by omega)]; rfl
/-- With the greatest weight the best order of a layer has no inversions if there were none. -/
theorem best_inv {a b : Lv} (h : Kin a b) (old : List (List Int)) (h10 : a.2.2.1.length ≤ 10) (h12 : a.2.1.length ≤ 12) (h0 : invS b old a.2.1.length = 0) {i : Nat} (hi : i < a.2.1.length) : invS (bestLay b old 1000 i) old a.2.1.length = 0 := by
  have hk := best_kin h old 1000 hi
  have hc := best_cost h old (w := 1000) (by decide) hi
  have e : ∀ c : Lv, Kin a c → costF c old 1000 = TotalF c + 1000 * invS c old a.2.1.length := fun c hc => by
    rw [costF, if_pos (by rw [okW, hc.ok]; rfl), hc.len]
  rw [e _ hk, e _ h, h0] at hc
  have h1 := total_small (a := b) (by rw [h.arcs]; exact h10) (by rw [h.len]; exact h12)
  have h2 := (TotalF_le hk.ok).1
  have h3 := (invS_le hk.ok old a.2.1.length (by omega)).1
  omega
theorem round_inv {a b : Lv} (h : Kin a b) (old : List (List Int)) (h10 : a.2.2.1.length ≤ 10) (h12 : a.2.1.length ≤ 12) (h0 : invS b old a.2.1.length = 0) : ∀ k, k ≤ a.2.1.length → invS (roundN b old 1000 k) old a.2.1.length = 0
  | 0, _ => h0
  | k + 1, hk => by
    have ih := round_inv h old h10 h12 h0 k (by omega)
    rw [roundN]
    split
    · exact ih
    · exact best_inv (round_kin h old 1000 k (by omega)) old h10 h12 ih (by omega)
theorem run_inv {a : Lv} (hv : validF a = true) (hw : wide a) (old : List (List Int)) (h10 : a.2.2.1.length ≤ 10) (h12 : a.2.1.length ≤ 12) : ∀ r, invS (runN a old 1000 r) old a.2.1.length = 0
  | 0 => invS_of _ (start_inv hv hw old _ (Nat.le_refl _))
  | r + 1 => round_inv (run_kin hv hw old 1000 r) old h10 h12 (run_inv hv hw old h10 h12 r) _ (Nat.le_refl _)
set_option maxHeartbeats 8000000 in
theorem lawKeeps (a : Lv) (old : List (List Int)) (r : Int) (hw : wide a) : CallsTo Try.prog 9 [lvD a, listsD old, .int r] (.bool true) := by
  have h5 := lives_spec
  have h1 := fewS_spec a old hw
  rcases hf : fewS a old with _ | _ <;> rw [hf] at h1
  · refine callsTo_of Try.func9 rfl (by decide +kernel) (Nat.le_of_ble_eq_true rfl) ?_
    intro hat B X w0
    repeat' first | refine pw_seq ?_ | refine pw_skip ?_ | refine pw_ret ?_ | refine pw_exit ?_ | refine pw_block ?_ | refine pw_region (fun _ => false) hmix ?_ | (refine rc (h1) rfl ?_ ?_; (· first | rfl | (simp (disch := omega) only [go_sem, simprocAttr, List.append_eq]; done))) | (refine rc (h5) rfl ?_ ?_; (· first | rfl | (simp (disch := omega) only [go_sem, simprocAttr, List.append_eq]; done))) | (refine wpG_split rfl rfl (fun hc => ?_) (fun hc => ?_) <;> try simp only [hcL, reduceCtorEq] at hc) | (refine pw_cond _ rfl rfl (fun hc => ?_) (fun hc => ?_) <;> (try simp only [hcL, reduceCtorEq] at hc) <;> try (exfalso; omega)) | simp (maxSteps := 1000000) (disch := omega) only [go_sem, simprocAttr, List.append_eq] | apply And.intro | omega | decide +kernel
    exact bool_some rfl
  · have h4 := LvValid_spec a hw
    obtain ⟨f1, f2, f3, f4, f5⟩ := fewS_in hf
    rcases hv : validF a with _ | _ <;> rw [hv] at h4
    · obtain ⟨n, ls, ar, cs⟩ := a
      dsimp only at f3
      refine callsTo_of Try.func9 rfl (by decide +kernel) (Nat.le_of_ble_eq_true rfl) ?_
      intro hat B X w0
      repeat' first | refine pw_seq ?_ | refine pw_skip ?_ | refine pw_ret ?_ | refine pw_exit ?_ | refine pw_block ?_ | refine pw_region (fun _ => false) hmix ?_ | (refine rc (h1) rfl ?_ ?_; (· first | rfl | (simp (disch := omega) only [go_sem, simprocAttr, List.append_eq]; done))) | (refine rc (h4) rfl ?_ ?_; (· first | rfl | (simp (disch := omega) only [go_sem, simprocAttr, List.append_eq]; done))) | (refine rc (h5) rfl ?_ ?_; (· first | rfl | (simp (disch := omega) only [go_sem, simprocAttr, List.append_eq]; done))) | (refine wpG_split rfl rfl (fun hc => ?_) (fun hc => ?_) <;> try simp only [hcL, reduceCtorEq] at hc) | (refine pw_cond _ rfl rfl (fun hc => ?_) (fun hc => ?_) <;> (try simp only [hcL, reduceCtorEq] at hc) <;> try (exfalso; omega)) | simp (maxSteps := 1000000) (disch := omega) only [go_sem, simprocAttr, List.append_eq] | apply And.intro | omega | decide +kernel
      all_goals exact bool_some rfl
    · by_cases hg : 0 ≤ r ∧ r ≤ 2 ∧ a.2.2.1.length ≤ 10
      · obtain ⟨g1, g2, g3⟩ := hg
        obtain ⟨r, rfl⟩ : ∃ n : Nat, r = n := ⟨r.toNat, by omega⟩
        have hol := few_old hf
        have hok : okW a 1000 = true := by rw [okW, hv]; rfl
        have h2 := Run_spec a old 1000 r hw (by omega) hol
        rw [runF, if_neg (by rw [hok]; rintro (h | h); cases h; omega), Int.toNat_natCast] at h2
        have hK := run_kin hv hw old 1000 r
        have hlay := fun (k : Nat) (hk : k < a.2.1.length) => hK.lay hk
        have hlen := hK.len
        have hinv := invS_zero _ (run_inv hv hw old g3 f2 r)
        have hyl := layer_le hK.ok
        have hiv := fun k : Nat => Inversions_spec (lstN old k) (lstN (runN a old 1000 r).2.1 k) (by have := hyl k; omega)
        clear hK
        generalize costF (runN a old 1000 r) old 1000 = C1 at *
        generalize runN a old 1000 r = b at *
        obtain ⟨n', ls', ar', cs'⟩ := b
        obtain ⟨n, ls, ar, cs⟩ := a
        dsimp only at *
        refine callsTo_of Try.func9 rfl (by decide +kernel) (Nat.le_of_ble_eq_true rfl) ?_
        intro hat B X w0
        repeat' first | refine pw_seq ?_ | refine pw_skip ?_ | refine pw_ret ?_ | refine pw_exit ?_ | refine pw_block ?_ | refine pw_region (fun _ => false) hmix ?_ | (refine rc (h1) rfl ?_ ?_; (· first | rfl | (simp (disch := omega) only [go_sem, simprocAttr, List.append_eq, hlen]; done))) | (refine rc (h4) rfl ?_ ?_; (· first | rfl | (simp (disch := omega) only [go_sem, simprocAttr, List.append_eq, hlen]; done))) | (refine rc (h2) rfl ?_ ?_; (· first | rfl | (simp (disch := omega) only [go_sem, simprocAttr, List.append_eq, hlen]; done))) | (refine wpG_split rfl rfl (fun hc => ?_) (fun hc => ?_) <;> try simp only [hcL, reduceCtorEq] at hc) | (refine pw_cond _ rfl rfl (fun hc => ?_) (fun hc => ?_) <;> (try simp only [hcL, reduceCtorEq] at hc) <;> try (exfalso; omega)) | simp (maxSteps := 1000000) (disch := omega) only [go_sem, simprocAttr, List.append_eq, hlen] | apply And.intro | omega | decide +kernel
        refine pw_loopI (κ := Nat) (fun (k : Nat) => k ≤ ls.length ∧ k ≤ old.length) (fun (k : Nat) => [(1, .d (listsD old)), (7, .ptr 7 0 0 0), (10, .int k)]) (fun (k : Nat) => [(7, .cells [.int n', .d (listsD ls'), .d (arcsD ar'), .d (listsD cs')])]) (fun (k : Nat) => ls.length - k) 0 ?_ ?_ ?_
        · exact ⟨Nat.zero_le _, Nat.zero_le _⟩
        · exact eL [] _ _ (by refine ⟨?_, ?_⟩ <;> (repeat' first | exact List.forall_mem_nil _ | refine List.forall_mem_cons.2 ⟨(by first | rfl | (simp (disch := omega) only [go_sem, simprocAttr, inL]; first | done | omega | (congr 1; done))), ?_⟩); done)
        · rintro k ⟨hk1, hk2⟩
          by_cases hgo : k < ls.length ∧ k < old.length
          · obtain ⟨e1, e2⟩ := hgo
            have c1 := hlay k e1
            obtain ⟨p, hp⟩ := get_some e2
            have c2 := hiv k
            rw [hinv k e1, lstN_at hp] at c2
            generalize lstN ls' k = y at *
            repeat' first | refine pw_seq ?_ | refine pw_skip ?_ | refine pw_ret ?_ | refine pw_exit ?_ | refine pw_block ?_ | refine pw_region (fun _ => false) hmix ?_ | (refine rc (c2) rfl ?_ ?_; (· first | rfl | (simp (disch := omega) only [go_sem, simprocAttr, List.append_eq, hlen, c1, hp]; done))) | (refine wpG_split rfl rfl (fun hc => ?_) (fun hc => ?_) <;> try simp only [hcL, reduceCtorEq] at hc) | (refine pw_cond _ rfl rfl (fun hc => ?_) (fun hc => ?_) <;> (try simp only [hcL, reduceCtorEq] at hc) <;> try (exfalso; omega)) | simp (maxSteps := 1000000) (disch := omega) only [go_sem, simprocAttr, List.append_eq, hlen, c1, hp] | apply And.intro | omega | decide +kernel
            refine ⟨k + 1, ?_, eL [] _ _ (by refine ⟨?_, ?_⟩ <;> (repeat' first | exact List.forall_mem_nil _ | refine List.forall_mem_cons.2 ⟨(by first | rfl | (simp (disch := omega) only [go_sem, simprocAttr, inL]; first | done | omega | (congr 1; done))), ?_⟩); done), ?_⟩
            · omega
            · omega
          · repeat' first | refine pw_seq ?_ | refine pw_skip ?_ | refine pw_ret ?_ | refine pw_exit ?_ | refine pw_block ?_ | refine pw_region (fun _ => false) hmix ?_ | (refine rc (h5) rfl ?_ ?_; (· first | rfl | (simp (disch := omega) only [go_sem, simprocAttr, List.append_eq, hlen]; done))) | (refine wpG_split rfl rfl (fun hc => ?_) (fun hc => ?_) <;> try simp only [hcL, reduceCtorEq] at hc) | (refine pw_cond _ rfl rfl (fun hc => ?_) (fun hc => ?_) <;> (try simp only [hcL, reduceCtorEq] at hc) <;> try (exfalso; omega)) | simp (maxSteps := 1000000) (disch := omega) only [go_sem, simprocAttr, List.append_eq, hlen] | apply And.intro | omega | decide +kernel
            all_goals exact bool_some rfl
      · obtain ⟨n, ls, ar, cs⟩ := a
        dsimp only at hg f3
        refine callsTo_of Try.func9 rfl (by decide +kernel) (Nat.le_of_ble_eq_true rfl) ?_
        intro hat B X w0
        repeat' first | refine pw_seq ?_ | refine pw_skip ?_ | refine pw_ret ?_ | refine pw_exit ?_ | refine pw_block ?_ | refine pw_region (fun _ => false) hmix ?_ | (refine rc (h1) rfl ?_ ?_; (· first | rfl | (simp (disch := omega) only [go_sem, simprocAttr, List.append_eq]; done))) | (refine rc (h4) rfl ?_ ?_; (· first | rfl | (simp (disch := omega) only [go_sem, simprocAttr, List.append_eq]; done))) | (refine rc (h5) rfl ?_ ?_; (· first | rfl | (simp (disch := omega) only [go_sem, simprocAttr, List.append_eq]; done))) | (refine wpG_split rfl rfl (fun hc => ?_) (fun hc => ?_) <;> try simp only [hcL, reduceCtorEq] at hc) | (refine pw_cond _ rfl rfl (fun hc => ?_) (fun hc => ?_) <;> (try simp only [hcL, reduceCtorEq] at hc) <;> try (exfalso; omega)) | simp (maxSteps := 1000000) (disch := omega) only [go_sem, simprocAttr, List.append_eq] | apply And.intro | omega | decide +kernel
        all_goals exact bool_some rfl
end Go.Proofs.Ytelghbnlceeecaa
