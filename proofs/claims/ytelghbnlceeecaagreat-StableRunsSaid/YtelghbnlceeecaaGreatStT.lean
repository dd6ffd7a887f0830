/- The kept start, by the reference. -/
import Derived.Test.YtelghbnlceeecaaGreatStL
set_option linter.unusedSimpArgs false
set_option linter.unusedVariables false
namespace Go.Proofs.YtelghbnlceeecaaGreat
open Go Go.PS Go.Proofs
open Go.Bd (ix comN comO keptF cntN)
set_option maxRecDepth 100000
attribute [local irreducible] wpRun wpG CallsTo CallsM

set_option maxHeartbeats 16000000 in
theorem Start_spec (a : Lv) (old : List (List Int)) (hw : wide a) (hv : validF a = true) (hol : ∀ i, (lstN old i).length ≤ 600) :
    CallsTo Tryz.prog 19 [lvD a, listsD old] (lvD (startN a old a.2.1.length)) := by
  have hK := start_kin hv hw old
  have hS : ∀ k, startN a old (k + 1) = putL (startN a old k) k (keptF (lstN (startN a old k).2.1 k) (lstN old k)) := fun _ => rfl
  have hS0 : startN a old 0 = a := rfl
  obtain ⟨t1, t2⟩ := lv_le hv
  obtain ⟨L, hL⟩ : ∃ L, L = a.2.1.length := ⟨_, rfl⟩
  rw [← hL] at hK t1 ⊢
  have hkl : ∀ k, k ≤ L → (startN a old k).2.1.length = L := fun k hk => by rw [(hK k hk).len, hL]
  have hlay : ∀ k, k < L → (startN a old k).2.1[k]? = some (lstN (startN a old k).2.1 k) := fun k hk => (hK k (by omega)).lay (by omega)
  have hr : ∀ k, k < L → CallsTo Tryz.prog 41 [lvD (startN a old k), .int k, intsD (keptF (lstN (startN a old k).2.1 k) (lstN old k))] (.tup [lvD (startN a old (k + 1)), .int 0]) := fun k hk => by
    have h1 := rReorder_spec (startN a old k) k (keptF (lstN (startN a old k).2.1 k) (lstN old k)) (hK k (by omega)).wd (by
      rw [Go.Bd.keptF_len]
      have := layer_le (hK k (by omega)).ok k
      omega)
    rw [reorder_perm (hK k (by omega)).ok (hlay k hk) (Go.Bd.keptF_perm (layer_nodup (hK k (by omega)).ok (hlay k hk)) _), ← hS] at h1
    exact h1
  have hnd : ∀ k, k < L → (lstN (startN a old k).2.1 k).Nodup := fun k hk => layer_nodup (hK k (by omega)).ok (hlay k hk)
  have hll : ∀ k, k < L → (lstN (startN a old k).2.1 k).length ≤ 512 := fun k hk => layer_le (hK k (by omega)).ok k
  clear hK
  generalize startN a old = S at *
  refine callsTo_of Tryz.func19 rfl (by decide +kernel) (Nat.le_of_ble_eq_true rfl) ?_
  intro hat B X w0
  repeat' first | refine pw_seq ?_ | refine pw_skip ?_ | refine pw_ret ?_ | refine pw_exit ?_ | refine pw_block ?_ | refine pw_region (fun _ => false) hmix ?_ | (refine wpG_split rfl rfl (fun hc => ?_) (fun hc => ?_) <;> try simp only [hcL, reduceCtorEq] at hc) | (refine pw_cond _ rfl rfl (fun hc => ?_) (fun hc => ?_) <;> (try simp only [hcL, reduceCtorEq] at hc) <;> try (exfalso; omega)) | simp (maxSteps := 1000000) (disch := omega) only [go_sem, simprocAttr] | apply And.intro | omega | decide +kernel
  refine pw_loopI (κ := Nat) (fun (k : Nat) => k ≤ L) (fun (k : Nat) => [(1, .d (listsD old)), (2, .ptr 2 0 0 0), (4, .ptr 4 0 0 0), (5, .int k)]) (fun (k : Nat) => [(2, .cells [.int (S k).1, .d (listsD (S k).2.1), .d (arcsD (S k).2.2.1), .d (listsD (S k).2.2.2)]), (4, .cells [.int 0, .nilS, .nilS, .nilS])]) (fun (k : Nat) => L - k) 0 ?_ ?_ ?_
  · exact Nat.zero_le _
  · exact eL [] _ _ (by refine ⟨?_, ?_⟩ <;> (repeat' first | exact List.forall_mem_nil _ | refine List.forall_mem_cons.2 ⟨(by first | rfl | (simp (disch := omega) only [go_sem, simprocAttr, inL, hS0]; first | done | omega | (congr 1; done))), ?_⟩); done)
  · intro k hk
    have hkl' := hkl k hk
    rcases Nat.lt_or_ge k L with hlt | hge
    · have hy := hlay k hlt
      have hrk := hr k hlt
      have hn := hnd k hlt
      have hlk := hll k hlt
      have hb := before_spec old k
      have hpo := hol k
      generalize hb1 : S (k + 1) = b' at hrk
      generalize S k = b at *
      generalize lstN old k = prev at *
      generalize lstN b.2.1 k = y at *
      obtain ⟨n, ls, ar, cs⟩ := b
      obtain ⟨n', ls', ar', cs'⟩ := b'
      dsimp only at *
      repeat' first | refine pw_seq ?_ | refine pw_skip ?_ | refine pw_ret ?_ | refine pw_exit ?_ | refine pw_block ?_ | refine pw_region (fun _ => false) hmix ?_ | (refine rc (hb) rfl ?_ ?_; (· first | rfl | (simp (disch := omega) only [go_sem, simprocAttr, hkl', hy]; done))) | (refine wpG_split rfl rfl (fun hc => ?_) (fun hc => ?_) <;> try simp only [hcL, reduceCtorEq] at hc) | (refine pw_cond _ rfl rfl (fun hc => ?_) (fun hc => ?_) <;> (try simp only [hcL, reduceCtorEq] at hc) <;> try (exfalso; omega)) | simp (maxSteps := 1000000) (disch := omega) only [go_sem, simprocAttr, hkl', hy] | apply And.intro | omega | decide +kernel
      refine pw_ent _ (ent_nil 8 901 1 rfl rfl) ?_
      refine pw_loopI (κ := Nat) (fun (j : Nat) => j ≤ prev.length) (fun (j : Nat) => [(1, .d (listsD old)), (2, .ptr 2 0 0 0), (4, .ptr 4 0 0 0), (5, .int k), (6, .d (intsD prev)), (7, .d (intsD y)), (8, .ref 901 1 0 (comO y prev j).length (comO y prev j).length), (9, .int j)]) (fun (j : Nat) => [(2, .cells [.int n, .d (listsD ls), .d (arcsD ar), .d (listsD cs)]), (4, .cells [.int 0, .nilS, .nilS, .nilS]), (901, .row 1 ((comO y prev j).map D.int))]) (fun (j : Nat) => prev.length - j) 0 ?_ ?_ ?_
      · exact Nat.zero_le _
      · exact eL [] _ _ (by refine ⟨?_, ?_⟩ <;> (repeat' first | exact List.forall_mem_nil _ | refine List.forall_mem_cons.2 ⟨(by first | rfl | (simp (disch := omega) only [go_sem, simprocAttr, inL, comO, comN, List.length_nil, List.map_nil]; first | done | omega | (congr 1; done))), ?_⟩); done)
      · intro j hj
        have hcl2 := comO_len y prev j
        rcases Nat.lt_or_ge j prev.length with hlj | hgj
        · obtain ⟨v, hv2⟩ := get_some hlj
          have h1 := rIndex_spec prev v
          have h2 := rIndex_spec y v
          have hfi := Go.Bd.first_iff hv2
          have hmi : 0 ≤ ix y v ↔ v ∈ y := by
            rw [ix]
            split
            · rename_i h; exact ⟨fun _ => h, fun _ => by omega⟩
            · rename_i h; exact ⟨fun h' => by omega, fun h' => absurd h' h⟩
          by_cases c1 : ix prev v = (j : Int)
          · by_cases c2 : 0 ≤ ix y v
            · have e1 := comO_in (layer := y) hv2 ⟨hmi.1 c2, hfi.1 c1⟩
              repeat' first | refine pw_seq ?_ | refine pw_skip ?_ | refine pw_ret ?_ | refine pw_exit ?_ | refine pw_block ?_ | refine pw_region (fun _ => false) hmix ?_ | (refine rc (h1) rfl ?_ ?_; (· first | rfl | (simp (disch := omega) only [go_sem, simprocAttr, hv2, c1, c2, roomy, take_map_len]; done))) | (refine rc (h2) rfl ?_ ?_; (· first | rfl | (simp (disch := omega) only [go_sem, simprocAttr, hv2, c1, c2, roomy, take_map_len]; done))) | (refine wpG_split rfl rfl (fun hc => ?_) (fun hc => ?_) <;> try simp only [hcL, reduceCtorEq] at hc) | (refine pw_cond _ rfl rfl (fun hc => ?_) (fun hc => ?_) <;> (try simp only [hcL, reduceCtorEq] at hc) <;> try (exfalso; omega)) | simp (maxSteps := 1000000) (disch := omega) only [go_sem, simprocAttr, hv2, c1, c2, roomy, take_map_len] | exact one_int [_] | apply And.intro | omega | decide +kernel
              refine ⟨j + 1, ?_, eL [(901, 59)] _ _ (by refine ⟨?_, ?_⟩ <;> (repeat' first | exact List.forall_mem_nil _ | refine List.forall_mem_cons.2 ⟨(by first | rfl | (simp (disch := omega) only [go_sem, simprocAttr, inL, e1, List.map_append, List.length_append, List.map_cons, List.map_nil, List.length_cons, List.length_nil]; first | done | omega | (congr 1; done))), ?_⟩); done), ?_⟩
              · omega
              · omega
            · have e1 := comO_out (layer := y) hv2 (fun h => c2 (hmi.2 h.1))
              repeat' first | refine pw_seq ?_ | refine pw_skip ?_ | refine pw_ret ?_ | refine pw_exit ?_ | refine pw_block ?_ | refine pw_region (fun _ => false) hmix ?_ | (refine rc (h1) rfl ?_ ?_; (· first | rfl | (simp (disch := omega) only [go_sem, simprocAttr, hv2, c1, c2]; done))) | (refine rc (h2) rfl ?_ ?_; (· first | rfl | (simp (disch := omega) only [go_sem, simprocAttr, hv2, c1, c2]; done))) | (refine wpG_split rfl rfl (fun hc => ?_) (fun hc => ?_) <;> try simp only [hcL, reduceCtorEq] at hc) | (refine pw_cond _ rfl rfl (fun hc => ?_) (fun hc => ?_) <;> (try simp only [hcL, reduceCtorEq] at hc) <;> try (exfalso; omega)) | simp (maxSteps := 1000000) (disch := omega) only [go_sem, simprocAttr, hv2, c1, c2] | apply And.intro | omega | decide +kernel
              refine ⟨j + 1, ?_, eL [] _ _ (by refine ⟨?_, ?_⟩ <;> (repeat' first | exact List.forall_mem_nil _ | refine List.forall_mem_cons.2 ⟨(by first | rfl | (simp (disch := omega) only [go_sem, simprocAttr, inL, e1]; first | done | omega | (congr 1; done))), ?_⟩); done), ?_⟩
              · omega
              · omega
          · have e1 := comO_out (layer := y) hv2 (fun h => c1 (hfi.2 h.2))
            repeat' first | refine pw_seq ?_ | refine pw_skip ?_ | refine pw_ret ?_ | refine pw_exit ?_ | refine pw_block ?_ | refine pw_region (fun _ => false) hmix ?_ | (refine rc (h1) rfl ?_ ?_; (· first | rfl | (simp (disch := omega) only [go_sem, simprocAttr, hv2, c1]; done))) | (refine rc (h2) rfl ?_ ?_; (· first | rfl | (simp (disch := omega) only [go_sem, simprocAttr, hv2, c1]; done))) | (refine wpG_split rfl rfl (fun hc => ?_) (fun hc => ?_) <;> try simp only [hcL, reduceCtorEq] at hc) | (refine pw_cond _ rfl rfl (fun hc => ?_) (fun hc => ?_) <;> (try simp only [hcL, reduceCtorEq] at hc) <;> try (exfalso; omega)) | simp (maxSteps := 1000000) (disch := omega) only [go_sem, simprocAttr, hv2, c1] | apply And.intro | omega | decide +kernel
            refine ⟨j + 1, ?_, eL [] _ _ (by refine ⟨?_, ?_⟩ <;> (repeat' first | exact List.forall_mem_nil _ | refine List.forall_mem_cons.2 ⟨(by first | rfl | (simp (disch := omega) only [go_sem, simprocAttr, inL, e1]; first | done | omega | (congr 1; done))), ?_⟩); done), ?_⟩
            · omega
            · omega
        · have : j = prev.length := by omega
          subst this
          have hcd := fun k (v : Int) (h : y[k]? = some v) => Go.Bd.cnt_lt (old := prev) hn h
          have hget := fun k (v : Int) (h : y[k]? = some v) => Go.Bd.keptF_get (old := prev) h
          have hkfl := Go.Bd.keptF_len y prev
          generalize hC : comO y prev prev.length = C at *
          generalize keptF y prev = R at *
          repeat' first | refine pw_seq ?_ | refine pw_skip ?_ | refine pw_ret ?_ | refine pw_exit ?_ | refine pw_block ?_ | refine pw_region (fun _ => false) hmix ?_ | (refine wpG_split rfl rfl (fun hc => ?_) (fun hc => ?_) <;> try simp only [hcL, reduceCtorEq] at hc) | (refine pw_cond _ rfl rfl (fun hc => ?_) (fun hc => ?_) <;> (try simp only [hcL, reduceCtorEq] at hc) <;> try (exfalso; omega)) | simp (maxSteps := 1000000) (disch := omega) only [go_sem, simprocAttr] | apply And.intro | omega | decide +kernel
          refine pw_ent _ (ent_nil 10 902 1 rfl rfl) ?_
          refine pw_loopI (κ := Nat) (fun (j : Nat) => j ≤ y.length) (fun (j : Nat) => [(1, .d (listsD old)), (2, .ptr 2 0 0 0), (4, .ptr 4 0 0 0), (5, .int k), (7, .d (intsD y)), (8, .ref 901 1 0 C.length C.length), (10, .ref 902 1 0 j j), (11, .int (cntN C y j)), (12, .int j)]) (fun (j : Nat) => [(2, .cells [.int n, .d (listsD ls), .d (arcsD ar), .d (listsD cs)]), (4, .cells [.int 0, .nilS, .nilS, .nilS]), (901, .row 1 (C.map D.int)), (902, .row 1 ((R.take j).map D.int))]) (fun (j : Nat) => y.length - j) 0 ?_ ?_ ?_
          · exact Nat.zero_le _
          · exact eL [] _ _ (by refine ⟨?_, ?_⟩ <;> (repeat' first | exact List.forall_mem_nil _ | refine List.forall_mem_cons.2 ⟨(by first | rfl | (simp (disch := omega) only [go_sem, simprocAttr, inL, List.take_zero, List.map_nil, Go.Bd.cntN_zero]; first | done | omega | (congr 1; done))), ?_⟩); done)
          · intro j hj
            have hrj : (R.take j).length = j := by rw [List.length_take]; omega
            have htk : ((R.take j).map D.int).take j = (R.take j).map D.int := List.take_of_length_le (by rw [List.length_map, hrj]; exact Nat.le_refl _)
            rcases Nat.lt_or_ge j y.length with hlj | hgj
            · obtain ⟨v, hv2⟩ := get_some hlj
              have h1 := rIndex_spec C v
              have hmi : 0 ≤ ix C v ↔ v ∈ C := by
                rw [ix]
                split
                · rename_i h; exact ⟨fun _ => h, fun _ => by omega⟩
                · rename_i h; exact ⟨fun h' => by omega, fun h' => absurd h' h⟩
              have hg := hget j v hv2
              by_cases c : v ∈ C
              · have hcd2 := hcd j v hv2 c
                obtain ⟨x, hx⟩ := get_some hcd2
                rw [if_pos c, hx, Option.getD_some] at hg
                have e1 := Go.Bd.cntN_in hv2 c
                have e2 : R.take (j + 1) = R.take j ++ [x] := take_snoc hg
                have ci := hmi.2 c
                have ci2 : ¬ ix C v < 0 := by omega
                generalize R.take j = RR at *
                have hcn : cntN C y j ≤ 600 := by
                  have h5 : cntN C y j ≤ (y.take j).length := List.length_filter_le _ _
                  rw [List.length_take] at h5; omega
                repeat' first | refine pw_seq ?_ | refine pw_skip ?_ | refine pw_ret ?_ | refine pw_exit ?_ | refine pw_block ?_ | refine pw_region (fun _ => false) hmix ?_ | (refine rc (h1) rfl ?_ ?_; (· first | rfl | (simp (disch := omega) only [go_sem, simprocAttr, hv2, hx, ci2, hrj, htk, take_map_len, roomy]; done))) | (refine wpG_split rfl rfl (fun hc => ?_) (fun hc => ?_) <;> try simp only [hcL, reduceCtorEq] at hc) | (refine pw_cond _ rfl rfl (fun hc => ?_) (fun hc => ?_) <;> (try simp only [hcL, reduceCtorEq] at hc) <;> try (exfalso; omega)) | simp (maxSteps := 1000000) (disch := omega) only [go_sem, simprocAttr, hv2, hx, ci2, hrj, htk, take_map_len, roomy] | exact one_int [_] | apply And.intro | omega | decide +kernel
                refine ⟨j + 1, ?_, eL [(902, 86)] _ _ (by refine ⟨?_, ?_⟩ <;> (repeat' first | exact List.forall_mem_nil _ | refine List.forall_mem_cons.2 ⟨(by first | rfl | (simp (disch := omega) only [go_sem, simprocAttr, inL, e1, e2, List.map_append, List.map_cons, List.map_nil, Int.natCast_add, Int.natCast_one]; first | done | omega | (congr 1; done))), ?_⟩); done), ?_⟩
                · omega
                · omega
              · rw [if_neg c] at hg
                have e1 := Go.Bd.cntN_out hv2 c
                have e2 : R.take (j + 1) = R.take j ++ [v] := take_snoc hg
                have ci2 : ix C v < 0 := by
                  have := mt hmi.1 c
                  omega
                generalize R.take j = RR at *
                repeat' first | refine pw_seq ?_ | refine pw_skip ?_ | refine pw_ret ?_ | refine pw_exit ?_ | refine pw_block ?_ | refine pw_region (fun _ => false) hmix ?_ | (refine rc (h1) rfl ?_ ?_; (· first | rfl | (simp (disch := omega) only [go_sem, simprocAttr, hv2, ci2, hrj, htk, take_map_len, roomy]; done))) | (refine wpG_split rfl rfl (fun hc => ?_) (fun hc => ?_) <;> try simp only [hcL, reduceCtorEq] at hc) | (refine pw_cond _ rfl rfl (fun hc => ?_) (fun hc => ?_) <;> (try simp only [hcL, reduceCtorEq] at hc) <;> try (exfalso; omega)) | simp (maxSteps := 1000000) (disch := omega) only [go_sem, simprocAttr, hv2, ci2, hrj, htk, take_map_len, roomy] | exact one_int [_] | apply And.intro | omega | decide +kernel
                refine ⟨j + 1, ?_, eL [(902, 79)] _ _ (by refine ⟨?_, ?_⟩ <;> (repeat' first | exact List.forall_mem_nil _ | refine List.forall_mem_cons.2 ⟨(by first | rfl | (simp (disch := omega) only [go_sem, simprocAttr, inL, e1, e2, List.map_append, List.map_cons, List.map_nil]; first | done | omega | (congr 1; done))), ?_⟩); done), ?_⟩
                · omega
                · omega
            · have : j = y.length := by omega
              subst this
              have hfull : R.take y.length = R := List.take_of_length_le (by omega)
              rw [hfull] at htk
              rw [hfull]
              refine pw_ent _ (ent_freeze 902 1 (R.map D.int) rfl (noGone_of _ rfl) (by decide)) ?_
              repeat' first | refine pw_seq ?_ | refine pw_skip ?_ | refine pw_ret ?_ | refine pw_exit ?_ | refine pw_block ?_ | refine pw_region (fun _ => false) hmix ?_ | (refine rc (hrk) rfl ?_ ?_; (· first | rfl | (simp (disch := omega) only [go_sem, simprocAttr, hkfl, htk, List.drop_zero]; done))) | (refine wpG_split rfl rfl (fun hc => ?_) (fun hc => ?_) <;> try simp only [hcL, reduceCtorEq] at hc) | (refine pw_cond _ rfl rfl (fun hc => ?_) (fun hc => ?_) <;> (try simp only [hcL, reduceCtorEq] at hc) <;> try (exfalso; omega)) | simp (maxSteps := 1000000) (disch := omega) only [go_sem, simprocAttr, hkfl, htk, List.drop_zero] | apply And.intro | omega | decide +kernel
              refine ⟨k + 1, ?_, eL [] _ _ (by refine ⟨?_, ?_⟩ <;> (repeat' first | exact List.forall_mem_nil _ | refine List.forall_mem_cons.2 ⟨(by first | rfl | (simp (disch := omega) only [go_sem, simprocAttr, inL, hb1]; first | done | omega | (congr 1; done))), ?_⟩); done), ?_⟩
              · omega
              · omega
    · have : k = L := by omega
      subst this
      generalize S k = b at *
      obtain ⟨n, ls, ar, cs⟩ := b
      dsimp only at *
      repeat' first | refine pw_seq ?_ | refine pw_skip ?_ | refine pw_ret ?_ | refine pw_exit ?_ | refine pw_block ?_ | refine pw_region (fun _ => false) hmix ?_ | (refine wpG_split rfl rfl (fun hc => ?_) (fun hc => ?_) <;> try simp only [hcL, reduceCtorEq] at hc) | (refine pw_cond _ rfl rfl (fun hc => ?_) (fun hc => ?_) <;> (try simp only [hcL, reduceCtorEq] at hc) <;> try (exfalso; omega)) | simp (maxSteps := 1000000) (disch := omega) only [go_sem, simprocAttr, hkl'] | apply And.intro | omega | decide +kernel
      refine ⟨_, _, _, _, rfl, ?_⟩
      simp (maxSteps := 1000000) (disch := omega) only [go_sem, simprocAttr, toD]
end Go.Proofs.YtelghbnlceeecaaGreat
namespace Go.Proofs.YtelghbnlceeecaaGreat
open Go Go.PS Go.Proofs
open Go.Bd (keptF)
set_option maxRecDepth 100000
attribute [local irreducible] wpRun wpG CallsTo CallsM

theorem layerF_ok {b : Lv} {w : Int} {old : List (List Int)} {i : Nat} (hok : okW b w = true) (hi : i < b.2.1.length) (h8 : ¬ 8 < (lstN b.2.1 i).length) : layerF b old w i = (bestLay b old w i, 0) := by
  rw [layerF, if_neg (by rw [hok]; decide), if_neg (by omega), Int.toNat_natCast, if_neg h8]
set_option maxHeartbeats 16000000 in
theorem Run_spec (a : Lv) (old : List (List Int)) (w r : Int) (hw : wide a) (har : a.2.2.1.length ≤ 700) (hol : ∀ i, (lstN old i).length ≤ 600) :
    CallsTo Tryz.prog 6 [lvD a, listsD old, .int w, .int r] (.tup [lvD (runF a old w r).1, .int (runF a old w r).2.1, .int (runF a old w r).2.2]) := by
  have h1 := wrong_spec a w hw
  rw [runF]
  rcases hok : okW a w with _ | _ <;> rw [hok] at h1
  · rw [if_pos (.inl rfl)]
    refine callsTo_of Tryz.func6 rfl (by decide +kernel) (Nat.le_of_ble_eq_true rfl) ?_
    intro hat B X w0
    repeat' first | refine pw_seq ?_ | refine pw_skip ?_ | refine pw_ret ?_ | refine pw_exit ?_ | refine pw_block ?_ | refine pw_region (fun _ => false) hmix ?_ | (refine rc (h1) rfl ?_ ?_; (· first | rfl | (simp (disch := omega) only [go_sem, simprocAttr, List.append_eq]; done))) | (refine wpG_split rfl rfl (fun hc => ?_) (fun hc => ?_) <;> try simp only [hcL, reduceCtorEq] at hc) | (refine pw_cond _ rfl rfl (fun hc => ?_) (fun hc => ?_) <;> (try simp only [hcL, reduceCtorEq] at hc) <;> try (exfalso; omega)) | simp (maxSteps := 1000000) (disch := omega) only [go_sem, simprocAttr, List.append_eq] | apply And.intro | omega | decide +kernel
    refine ⟨_, rfl, ⟨_, _, _, _, rfl, ?_⟩, int_some rfl, int_some rfl, trivial⟩
    simp (maxSteps := 1000000) (disch := omega) only [go_sem, simprocAttr, toD]
    rfl
  · by_cases hr : r < 0 ∨ 100 < r
    · rw [if_pos (.inr hr)]
      refine callsTo_of Tryz.func6 rfl (by decide +kernel) (Nat.le_of_ble_eq_true rfl) ?_
      intro hat B X w0
      repeat' first | refine pw_seq ?_ | refine pw_skip ?_ | refine pw_ret ?_ | refine pw_exit ?_ | refine pw_block ?_ | refine pw_region (fun _ => false) hmix ?_ | (refine rc (h1) rfl ?_ ?_; (· first | rfl | (simp (disch := omega) only [go_sem, simprocAttr, List.append_eq]; done))) | (refine wpG_split rfl rfl (fun hc => ?_) (fun hc => ?_) <;> try simp only [hcL, reduceCtorEq] at hc) | (refine pw_cond _ rfl rfl (fun hc => ?_) (fun hc => ?_) <;> (try simp only [hcL, reduceCtorEq] at hc) <;> try (exfalso; omega)) | simp (maxSteps := 1000000) (disch := omega) only [go_sem, simprocAttr, List.append_eq] | apply And.intro | omega | decide +kernel
      all_goals
        refine ⟨_, rfl, ⟨_, _, _, _, rfl, ?_⟩, int_some rfl, int_some rfl, trivial⟩
        simp (maxSteps := 1000000) (disch := omega) only [go_sem, simprocAttr, toD]
        rfl
    · rw [if_neg (by rintro (h | h); cases h; exact hr h)]
      obtain ⟨r, rfl⟩ : ∃ n : Nat, r = n := ⟨r.toNat, by omega⟩
      rw [Int.toNat_natCast]
      have hok2 := hok
      simp only [okW, Bool.and_eq_true, decide_eq_true_eq] at hok2
      obtain ⟨hv, hwt⟩ := hok2
      obtain ⟨t1, t2⟩ := lv_le hv
      have hKs := start_kin hv hw old
      have hKr := run_kin hv hw old w
      have hkept : ∀ k, k < a.2.1.length → CallsTo Tryz.prog 16 [intsD (lstN a.2.1 k), intsD (lstN old k)] (intsD (keptF (lstN a.2.1 k) (lstN old k))) := fun k hk =>
        kept_spec _ _ (layer_nodup hv ((Kin.refl hv hw).lay hk)) (by have := layer_le hv k; omega) (hol k)
      have hre : ∀ k, k < a.2.1.length → CallsTo Tryz.prog 15 [lvD (startN a old k), .int k, intsD (keptF (lstN a.2.1 k) (lstN old k))] (.tup [lvD (startN a old (k + 1)), .int 0]) := fun k hk => by
        have hK := hKs k (by omega)
        have hy := hK.lay hk
        have hsl := start_later a old k k (Nat.le_refl _)
        have h2 := Reorder_spec (startN a old k) k (keptF (lstN (startN a old k).2.1 k) (lstN old k)) hK.wd (by
          rw [Go.Bd.keptF_len]
          have := layer_le hK.ok k
          omega)
        rw [reorder_perm hK.ok hy (Go.Bd.keptF_perm (layer_nodup hK.ok hy) _)] at h2
        rw [← hsl]; exact h2
      have hG : ∀ q k, k ≤ a.2.1.length → Kin a (roundN (runN a old w q) old w k) := fun q k hk => round_kin (hKr q) old w k hk
      have hGs : ∀ q k, roundN (runN a old w q) old w (k + 1) = if 8 < (lstN (roundN (runN a old w q) old w k).2.1 k).length then roundN (runN a old w q) old w k else bestLay (roundN (runN a old w q) old w k) old w k := fun _ _ => rfl
      have hG0 : ∀ q, roundN (runN a old w q) old w 0 = runN a old w q := fun _ => rfl
      have hGL : ∀ q, roundN (runN a old w q) old w a.2.1.length = runN a old w (q + 1) := fun _ => rfl
      have hR0 : startN a old a.2.1.length = runN a old w 0 := rfl
      have hlen2 : ∀ q k, k ≤ a.2.1.length → (lstN (roundN (runN a old w q) old w k).2.1 k).length = (lstN (runN a old w q).2.1 k).length := fun q k hk => by rw [(hG q k hk).llen, (hKr q).llen]
      have hLy : ∀ q k, k < a.2.1.length → ¬ 8 < (lstN (runN a old w q).2.1 k).length → CallsTo Tryz.prog 10 [lvD (roundN (runN a old w q) old w k), listsD old, .int w, .int k] (.tup [lvD (roundN (runN a old w q) old w (k + 1)), .int 0]) := fun q k hk h8 => by
        have hK := hG q k (by omega)
        have h2 := Layer_spec (roundN (runN a old w q) old w k) old w k hK.wd (by rw [hK.arcs]; exact har)
        have h8' : ¬ 8 < (lstN (roundN (runN a old w q) old w k).2.1 k).length := by rw [hlen2 q k (by omega)]; exact h8
        rw [layerF_ok (by rw [okW, hK.ok, decide_eq_true hwt]; rfl) (by rw [hK.len]; exact hk) h8'] at h2
        rw [hGs, if_neg h8']
        exact h2
      have hskip : ∀ q k, k < a.2.1.length → 8 < (lstN (runN a old w q).2.1 k).length → roundN (runN a old w q) old w (k + 1) = roundN (runN a old w q) old w k := fun q k hk h8 => by
        rw [hGs, if_pos (by rw [hlen2 q k (by omega)]; exact h8)]
      have hrl : ∀ q k, k < a.2.1.length → (runN a old w q).2.1[k]? = some (lstN (runN a old w q).2.1 k) := fun q k hk => (hKr q).lay hk
      have hrlen : ∀ q, (runN a old w q).2.1.length = a.2.1.length := fun q => (hKr q).len
      have hlb : ∀ q k, (lstN (runN a old w q).2.1 k).length ≤ 512 := fun q k => layer_le (hKr q).ok k
      have hco := Cost_spec (runN a old w r) old w (hKr r).wd
      have hay : ∀ k, k < a.2.1.length → a.2.1[k]? = some (lstN a.2.1 k) := fun k hk => (Kin.refl hv hw).lay hk
      have hS0 : startN a old 0 = a := rfl
      have hls := list_spec old
      clear hKs hKr hG hGs hlen2
      generalize hGG : (fun q k => roundN (runN a old w q) old w k) = G
      have hGe : ∀ q k, roundN (runN a old w q) old w k = G q k := fun q k => by rw [← hGG]
      simp only [hGe] at hG0 hGL hLy hskip
      clear hGe hGG
      generalize costF (runN a old w r) old w = CC at *
      generalize runN a old w = R at *
      generalize startN a old = S at *
      obtain ⟨n, ls, ar, cs⟩ := a
      dsimp only at *
      refine callsTo_of Tryz.func6 rfl (by decide +kernel) (Nat.le_of_ble_eq_true rfl) ?_
      intro hat B X w0
      repeat' first | refine pw_seq ?_ | refine pw_skip ?_ | refine pw_ret ?_ | refine pw_exit ?_ | refine pw_block ?_ | refine pw_region (fun _ => false) hmix ?_ | (refine rc (h1) rfl ?_ ?_; (· first | rfl | (simp (disch := omega) only [go_sem, simprocAttr, List.append_eq]; done))) | (refine wpG_split rfl rfl (fun hc => ?_) (fun hc => ?_) <;> try simp only [hcL, reduceCtorEq] at hc) | (refine pw_cond _ rfl rfl (fun hc => ?_) (fun hc => ?_) <;> (try simp only [hcL, reduceCtorEq] at hc) <;> try (exfalso; omega)) | simp (maxSteps := 1000000) (disch := omega) only [go_sem, simprocAttr, List.append_eq] | apply And.intro | omega | decide +kernel
      refine pw_loopI (κ := Nat) (fun (k : Nat) => k ≤ ls.length) (fun (k : Nat) => [(1, .d (listsD old)), (2, .int w), (3, .int r), (8, .ptr 8 0 0 0), (11, .ptr 11 0 0 0), (34, .d (listsD ls)), (35, .int ls.length), (36, .int k)]) (fun (k : Nat) => [(8, .cells [.int 0, .nilS, .nilS, .nilS]), (11, .cells [.int (S k).1, .d (listsD (S k).2.1), .d (arcsD (S k).2.2.1), .d (listsD (S k).2.2.2)])]) (fun (k : Nat) => ls.length - k) 0 ?_ ?_ ?_
      · exact Nat.zero_le _
      · exact eL [] _ _ (by refine ⟨?_, ?_⟩ <;> (repeat' first | exact List.forall_mem_nil _ | refine List.forall_mem_cons.2 ⟨(by first | rfl | (simp (disch := omega) only [go_sem, simprocAttr, inL, hS0]; first | done | omega | (congr 1; done))), ?_⟩); done)
      · intro k hk
        rcases Nat.lt_or_ge k ls.length with hlt | hge
        · have c1 := hls k
          have c2 := hkept k hlt
          have c3 := hre k hlt
          have c4 := hay k hlt
          repeat' first | refine pw_seq ?_ | refine pw_skip ?_ | refine pw_ret ?_ | refine pw_exit ?_ | refine pw_block ?_ | refine pw_region (fun _ => false) hmix ?_ | (refine rc (c1) rfl ?_ ?_; (· first | rfl | (simp (disch := omega) only [go_sem, simprocAttr, c4]; done))) | (refine rc (c2) rfl ?_ ?_; (· first | rfl | (simp (disch := omega) only [go_sem, simprocAttr, c4]; done))) | (refine rc (c3) rfl ?_ ?_; (· first | rfl | (simp (disch := omega) only [go_sem, simprocAttr, c4]; done))) | (refine wpG_split rfl rfl (fun hc => ?_) (fun hc => ?_) <;> try simp only [hcL, reduceCtorEq] at hc) | (refine pw_cond _ rfl rfl (fun hc => ?_) (fun hc => ?_) <;> (try simp only [hcL, reduceCtorEq] at hc) <;> try (exfalso; omega)) | simp (maxSteps := 1000000) (disch := omega) only [go_sem, simprocAttr, c4] | apply And.intro | omega | decide +kernel
          refine ⟨k + 1, ?_, eL [] _ _ (by refine ⟨?_, ?_⟩ <;> (repeat' first | exact List.forall_mem_nil _ | refine List.forall_mem_cons.2 ⟨(by first | rfl | (simp (disch := omega) only [go_sem, simprocAttr, inL]; first | done | omega | (congr 1; done))), ?_⟩); done), ?_⟩
          · omega
          · omega
        · have : k = ls.length := by omega
          subst this
          rw [hR0]
          repeat' first | refine pw_seq ?_ | refine pw_skip ?_ | refine pw_ret ?_ | refine pw_exit ?_ | refine pw_block ?_ | refine pw_region (fun _ => false) hmix ?_ | (refine wpG_split rfl rfl (fun hc => ?_) (fun hc => ?_) <;> try simp only [hcL, reduceCtorEq] at hc) | (refine pw_cond _ rfl rfl (fun hc => ?_) (fun hc => ?_) <;> (try simp only [hcL, reduceCtorEq] at hc) <;> try (exfalso; omega)) | simp (maxSteps := 1000000) (disch := omega) only [go_sem, simprocAttr] | apply And.intro | omega | decide +kernel
          refine pw_loopI (κ := Nat) (fun (q : Nat) => q ≤ r) (fun (q : Nat) => [(1, .d (listsD old)), (2, .int w), (8, .ptr 8 0 0 0), (11, .ptr 11 0 0 0), (58, .int r), (59, .int q)]) (fun (q : Nat) => [(8, .cells [.int 0, .nilS, .nilS, .nilS]), (11, .cells [.int (R q).1, .d (listsD (R q).2.1), .d (arcsD (R q).2.2.1), .d (listsD (R q).2.2.2)])]) (fun (q : Nat) => r - q) 0 ?_ ?_ ?_
          · exact Nat.zero_le _
          · exact eL [] _ _ (by refine ⟨?_, ?_⟩ <;> (repeat' first | exact List.forall_mem_nil _ | refine List.forall_mem_cons.2 ⟨(by first | rfl | (simp (disch := omega) only [go_sem, simprocAttr, inL]; first | done | omega | (congr 1; done))), ?_⟩); done)
          · intro q hq
            rcases Nat.lt_or_ge q r with hlq | hgq
            · have d1 := hrlen q
              repeat' first | refine pw_seq ?_ | refine pw_skip ?_ | refine pw_ret ?_ | refine pw_exit ?_ | refine pw_block ?_ | refine pw_region (fun _ => false) hmix ?_ | (refine wpG_split rfl rfl (fun hc => ?_) (fun hc => ?_) <;> try simp only [hcL, reduceCtorEq] at hc) | (refine pw_cond _ rfl rfl (fun hc => ?_) (fun hc => ?_) <;> (try simp only [hcL, reduceCtorEq] at hc) <;> try (exfalso; omega)) | simp (maxSteps := 1000000) (disch := omega) only [go_sem, simprocAttr, d1] | apply And.intro | omega | decide +kernel
              refine pw_loopI (κ := Nat) (fun (k : Nat) => k ≤ ls.length) (fun (k : Nat) => [(1, .d (listsD old)), (2, .int w), (8, .ptr 8 0 0 0), (11, .ptr 11 0 0 0), (58, .int r), (59, .int q), (62, .d (listsD (R q).2.1)), (63, .int ls.length), (64, .int k)]) (fun (k : Nat) => [(8, .cells [.int 0, .nilS, .nilS, .nilS]), (11, .cells [.int (G q k).1, .d (listsD (G q k).2.1), .d (arcsD (G q k).2.2.1), .d (listsD (G q k).2.2.2)])]) (fun (k : Nat) => ls.length - k) 0 ?_ ?_ ?_
              · exact Nat.zero_le _
              · exact eL [] _ _ (by refine ⟨?_, ?_⟩ <;> (repeat' first | exact List.forall_mem_nil _ | refine List.forall_mem_cons.2 ⟨(by first | rfl | (simp (disch := omega) only [go_sem, simprocAttr, inL, hG0, d1]; first | done | omega | (congr 1; done))), ?_⟩); done)
              · intro k hk
                rcases Nat.lt_or_ge k ls.length with hlk | hgk
                · have d2 := hrl q k hlk
                  have d3 := hlb q k
                  by_cases h8 : 8 < (lstN (R q).2.1 k).length
                  · have e1 := hskip q k hlk h8
                    generalize lstN (R q).2.1 k = y at *
                    repeat' first | refine pw_seq ?_ | refine pw_skip ?_ | refine pw_ret ?_ | refine pw_exit ?_ | refine pw_block ?_ | refine pw_region (fun _ => false) hmix ?_ | (refine wpG_split rfl rfl (fun hc => ?_) (fun hc => ?_) <;> try simp only [hcL, reduceCtorEq] at hc) | (refine pw_cond _ rfl rfl (fun hc => ?_) (fun hc => ?_) <;> (try simp only [hcL, reduceCtorEq] at hc) <;> try (exfalso; omega)) | simp (maxSteps := 1000000) (disch := omega) only [go_sem, simprocAttr, d2, d1, h8] | apply And.intro | omega | decide +kernel
                    refine ⟨k + 1, ?_, eL [] _ _ (by refine ⟨?_, ?_⟩ <;> (repeat' first | exact List.forall_mem_nil _ | refine List.forall_mem_cons.2 ⟨(by first | rfl | (simp (disch := omega) only [go_sem, simprocAttr, inL, e1]; first | done | omega | (congr 1; done))), ?_⟩); done), ?_⟩
                    · omega
                    · omega
                  · have e1 := hLy q k hlk h8
                    generalize lstN (R q).2.1 k = y at *
                    repeat' first | refine pw_seq ?_ | refine pw_skip ?_ | refine pw_ret ?_ | refine pw_exit ?_ | refine pw_block ?_ | refine pw_region (fun _ => false) hmix ?_ | (refine rc (e1) rfl ?_ ?_; (· first | rfl | (simp (disch := omega) only [go_sem, simprocAttr, d2, d1, h8]; done))) | (refine wpG_split rfl rfl (fun hc => ?_) (fun hc => ?_) <;> try simp only [hcL, reduceCtorEq] at hc) | (refine pw_cond _ rfl rfl (fun hc => ?_) (fun hc => ?_) <;> (try simp only [hcL, reduceCtorEq] at hc) <;> try (exfalso; omega)) | simp (maxSteps := 1000000) (disch := omega) only [go_sem, simprocAttr, d2, d1, h8] | apply And.intro | omega | decide +kernel
                    refine ⟨k + 1, ?_, eL [] _ _ (by refine ⟨?_, ?_⟩ <;> (repeat' first | exact List.forall_mem_nil _ | refine List.forall_mem_cons.2 ⟨(by first | rfl | (simp (disch := omega) only [go_sem, simprocAttr, inL]; first | done | omega | (congr 1; done))), ?_⟩); done), ?_⟩
                    · omega
                    · omega
                · have : k = ls.length := by omega
                  subst this
                  rw [hGL]
                  repeat' first | refine pw_seq ?_ | refine pw_skip ?_ | refine pw_ret ?_ | refine pw_exit ?_ | refine pw_block ?_ | refine pw_region (fun _ => false) hmix ?_ | (refine wpG_split rfl rfl (fun hc => ?_) (fun hc => ?_) <;> try simp only [hcL, reduceCtorEq] at hc) | (refine pw_cond _ rfl rfl (fun hc => ?_) (fun hc => ?_) <;> (try simp only [hcL, reduceCtorEq] at hc) <;> try (exfalso; omega)) | simp (maxSteps := 1000000) (disch := omega) only [go_sem, simprocAttr] | apply And.intro | omega | decide +kernel
                  refine ⟨q + 1, ?_, eL [] _ _ (by refine ⟨?_, ?_⟩ <;> (repeat' first | exact List.forall_mem_nil _ | refine List.forall_mem_cons.2 ⟨(by first | rfl | (simp (disch := omega) only [go_sem, simprocAttr, inL]; first | done | omega | (congr 1; done))), ?_⟩); done), ?_⟩
                  · omega
                  · omega
            · have : q = r := by omega
              subst this
              repeat' first | refine pw_seq ?_ | refine pw_skip ?_ | refine pw_ret ?_ | refine pw_exit ?_ | refine pw_block ?_ | refine pw_region (fun _ => false) hmix ?_ | (refine rc (hco) rfl ?_ ?_; (· first | rfl | (simp (disch := omega) only [go_sem, simprocAttr, List.append_eq]; done))) | (refine wpG_split rfl rfl (fun hc => ?_) (fun hc => ?_) <;> try simp only [hcL, reduceCtorEq] at hc) | (refine pw_cond _ rfl rfl (fun hc => ?_) (fun hc => ?_) <;> (try simp only [hcL, reduceCtorEq] at hc) <;> try (exfalso; omega)) | simp (maxSteps := 1000000) (disch := omega) only [go_sem, simprocAttr, List.append_eq] | apply And.intro | omega | decide +kernel
              refine ⟨_, rfl, ⟨_, _, _, _, rfl, ?_⟩, int_some rfl, int_some rfl, trivial⟩
              simp (maxSteps := 1000000) (disch := omega) only [go_sem, simprocAttr, toD]
end Go.Proofs.YtelghbnlceeecaaGreat
namespace Go.Proofs.YtelghbnlceeecaaGreat
open Go Go.PS Go.Proofs
open Go.Bd (keptF invF)
set_option maxRecDepth 100000
attribute [local irreducible] wpRun wpG CallsTo CallsM

theorem few_old {a : Lv} {old : List (List Int)} (h : fewS a old = true) (i : Nat) : (lstN old i).length ≤ 600 := by
  obtain ⟨_, _, _, _, h5⟩ := fewS_in h
  simp only [fewS, Bool.and_eq_true, Bool.not_eq_true'] at h
  have h2 := h.1.2
  rw [List.take_of_length_le (by omega)] at h2
  rcases Nat.lt_or_ge i old.length with hlt | hge
  · obtain ⟨y, hy⟩ := get_some hlt
    rw [lstN_at hy]
    have := List.any_eq_false.1 h2 y (List.mem_of_getElem? hy)
    simp only [longB, decide_eq_true_eq] at this
    omega
  · rw [lstN_out hge]; simp
end Go.Proofs.YtelghbnlceeecaaGreat
namespace Go.Proofs.YtelghbnlceeecaaGreat
open Go Go.PS Go.Proofs
open Go.Bd (keptF)
set_option maxRecDepth 100000
attribute [local irreducible] wpRun wpG CallsTo CallsM

set_option maxHeartbeats 16000000 in
theorem rRun_spec (a : Lv) (old : List (List Int)) (w r : Int) (hw : wide a) (har : a.2.2.1.length ≤ 700) (hol : ∀ i, (lstN old i).length ≤ 600) :
    CallsTo Tryz.prog 7 [lvD a, listsD old, .int w, .int r] (.tup [lvD (runF a old w r).1, .int (runF a old w r).2.1, .int (runF a old w r).2.2]) := by
  have h1 := rLvValid_spec a hw
  rw [← valid_same] at h1
  rw [runF]
  rcases hok : okW a w with _ | _
  · rw [if_pos (.inl rfl)]
    rw [okW] at hok
    rcases hv : validF a with _ | _ <;> rw [hv] at h1 hok
    · refine callsTo_of Tryz.func7 rfl (by decide +kernel) (Nat.le_of_ble_eq_true rfl) ?_
      intro hat B X w0
      repeat' first | refine pw_seq ?_ | refine pw_skip ?_ | refine pw_ret ?_ | refine pw_exit ?_ | refine pw_block ?_ | refine pw_region (fun _ => false) hmix ?_ | (refine rc (h1) rfl ?_ ?_; (· first | rfl | (simp (disch := omega) only [go_sem, simprocAttr, List.append_eq]; done))) | (refine wpG_split rfl rfl (fun hc => ?_) (fun hc => ?_) <;> try simp only [hcL, reduceCtorEq] at hc) | (refine pw_cond _ rfl rfl (fun hc => ?_) (fun hc => ?_) <;> (try simp only [hcL, reduceCtorEq] at hc) <;> try (exfalso; omega)) | simp (maxSteps := 1000000) (disch := omega) only [go_sem, simprocAttr, List.append_eq] | apply And.intro | omega | decide +kernel
      refine ⟨_, rfl, ⟨_, _, _, _, rfl, ?_⟩, int_some rfl, int_some rfl, trivial⟩
      simp (maxSteps := 1000000) (disch := omega) only [go_sem, simprocAttr, toD]
      rfl
    · have hn : ¬ (0 ≤ w ∧ w ≤ 1000) := by simpa using hok
      refine callsTo_of Tryz.func7 rfl (by decide +kernel) (Nat.le_of_ble_eq_true rfl) ?_
      intro hat B X w0
      repeat' first | refine pw_seq ?_ | refine pw_skip ?_ | refine pw_ret ?_ | refine pw_exit ?_ | refine pw_block ?_ | refine pw_region (fun _ => false) hmix ?_ | (refine rc (h1) rfl ?_ ?_; (· first | rfl | (simp (disch := omega) only [go_sem, simprocAttr, List.append_eq]; done))) | (refine wpG_split rfl rfl (fun hc => ?_) (fun hc => ?_) <;> try simp only [hcL, reduceCtorEq] at hc) | (refine pw_cond _ rfl rfl (fun hc => ?_) (fun hc => ?_) <;> (try simp only [hcL, reduceCtorEq] at hc) <;> try (exfalso; omega)) | simp (maxSteps := 1000000) (disch := omega) only [go_sem, simprocAttr, List.append_eq] | apply And.intro | omega | decide +kernel
      all_goals
        refine ⟨_, rfl, ⟨_, _, _, _, rfl, ?_⟩, int_some rfl, int_some rfl, trivial⟩
        simp (maxSteps := 1000000) (disch := omega) only [go_sem, simprocAttr, toD]
        rfl
  · have hok2 := hok
    simp only [okW, Bool.and_eq_true, decide_eq_true_eq] at hok2
    obtain ⟨hv, hwt⟩ := hok2
    rw [hv] at h1
    by_cases hr : r < 0 ∨ 100 < r
    · rw [if_pos (.inr hr)]
      refine callsTo_of Tryz.func7 rfl (by decide +kernel) (Nat.le_of_ble_eq_true rfl) ?_
      intro hat B X w0
      repeat' first | refine pw_seq ?_ | refine pw_skip ?_ | refine pw_ret ?_ | refine pw_exit ?_ | refine pw_block ?_ | refine pw_region (fun _ => false) hmix ?_ | (refine rc (h1) rfl ?_ ?_; (· first | rfl | (simp (disch := omega) only [go_sem, simprocAttr, List.append_eq]; done))) | (refine wpG_split rfl rfl (fun hc => ?_) (fun hc => ?_) <;> try simp only [hcL, reduceCtorEq] at hc) | (refine pw_cond _ rfl rfl (fun hc => ?_) (fun hc => ?_) <;> (try simp only [hcL, reduceCtorEq] at hc) <;> try (exfalso; omega)) | simp (maxSteps := 1000000) (disch := omega) only [go_sem, simprocAttr, List.append_eq] | apply And.intro | omega | decide +kernel
      all_goals
        refine ⟨_, rfl, ⟨_, _, _, _, rfl, ?_⟩, int_some rfl, int_some rfl, trivial⟩
        simp (maxSteps := 1000000) (disch := omega) only [go_sem, simprocAttr, toD]
        rfl
    · rw [if_neg (by rintro (h | h); cases h; exact hr h)]
      obtain ⟨r, rfl⟩ : ∃ n : Nat, r = n := ⟨r.toNat, by omega⟩
      rw [Int.toNat_natCast]
      obtain ⟨t1, t2⟩ := lv_le hv
      have hKr := run_kin hv hw old w
      have hst := Start_spec a old hw hv hol
      have hG : ∀ q k, k ≤ a.2.1.length → Kin a (roundN (runN a old w q) old w k) := fun q k hk => round_kin (hKr q) old w k hk
      have hGs : ∀ q k, roundN (runN a old w q) old w (k + 1) = if 8 < (lstN (roundN (runN a old w q) old w k).2.1 k).length then roundN (runN a old w q) old w k else bestLay (roundN (runN a old w q) old w k) old w k := fun _ _ => rfl
      have hG0 : ∀ q, roundN (runN a old w q) old w 0 = runN a old w q := fun _ => rfl
      have hGL : ∀ q, roundN (runN a old w q) old w a.2.1.length = runN a old w (q + 1) := fun _ => rfl
      have hR0 : startN a old a.2.1.length = runN a old w 0 := rfl
      have hLy : ∀ q k, k < a.2.1.length → ∃ (b : Lv) (e : Int), CallsTo Tryz.prog 20 [lvD (roundN (runN a old w q) old w k), listsD old, .int w, .int k] (.tup [lvD b, .int e]) ∧
          roundN (runN a old w q) old w (k + 1) = if e = 0 then b else roundN (runN a old w q) old w k := fun q k hk => by
        have hK := hG q k (by omega)
        have h2 := rLayer_spec (roundN (runN a old w q) old w k) old w k hK.wd (by rw [hK.arcs]; exact har)
        refine ⟨_, _, h2, ?_⟩
        have hokb : okW (roundN (runN a old w q) old w k) w = true := by rw [okW, hK.ok, decide_eq_true hwt]; rfl
        by_cases h8 : 8 < (lstN (roundN (runN a old w q) old w k).2.1 k).length
        · have he : layerF (roundN (runN a old w q) old w k) old w k = (lv0, 2) := by
            rw [layerF, if_neg (by rw [hokb]; decide), if_neg (by have := hK.len; omega), Int.toNat_natCast, if_pos h8]
          rw [hGs, if_pos h8, he, if_neg (by decide)]
        · have he := layerF_ok hokb (old := old) (by rw [hK.len]; exact hk) h8
          rw [hGs, if_neg h8, he, if_pos rfl]
      have hglen : ∀ q k, k ≤ a.2.1.length → (roundN (runN a old w q) old w k).2.1.length = a.2.1.length := fun q k hk => (hG q k hk).len
      have hco := rCost_spec (runN a old w r) old w (hKr r).wd
      clear hKr hG hGs
      generalize hGG : (fun q k => roundN (runN a old w q) old w k) = G
      have hGe : ∀ q k, roundN (runN a old w q) old w k = G q k := fun q k => by rw [← hGG]
      simp only [hGe] at hG0 hGL hLy hglen
      clear hGe hGG
      generalize costF (runN a old w r) old w = CC at *
      generalize runN a old w = R at *
      rw [hR0] at hst
      obtain ⟨n, ls, ar, cs⟩ := a
      dsimp only at *
      refine callsTo_of Tryz.func7 rfl (by decide +kernel) (Nat.le_of_ble_eq_true rfl) ?_
      intro hat B X w0
      repeat' first | refine pw_seq ?_ | refine pw_skip ?_ | refine pw_ret ?_ | refine pw_exit ?_ | refine pw_block ?_ | refine pw_region (fun _ => false) hmix ?_ | (refine rc (h1) rfl ?_ ?_; (· first | rfl | (simp (disch := omega) only [go_sem, simprocAttr, List.append_eq]; done))) | (refine rc (hst) rfl ?_ ?_; (· first | rfl | (simp (disch := omega) only [go_sem, simprocAttr, List.append_eq]; done))) | (refine wpG_split rfl rfl (fun hc => ?_) (fun hc => ?_) <;> try simp only [hcL, reduceCtorEq] at hc) | (refine pw_cond _ rfl rfl (fun hc => ?_) (fun hc => ?_) <;> (try simp only [hcL, reduceCtorEq] at hc) <;> try (exfalso; omega)) | simp (maxSteps := 1000000) (disch := omega) only [go_sem, simprocAttr, List.append_eq] | apply And.intro | omega | decide +kernel
      refine pw_loopI (κ := Nat) (fun (q : Nat) => q ≤ r) (fun (q : Nat) => [(1, .d (listsD old)), (2, .int w), (3, .int r), (4, .ptr 4 0 0 0), (8, .ptr 8 0 0 0), (11, .int q)]) (fun (q : Nat) => [(4, .cells [.int (R q).1, .d (listsD (R q).2.1), .d (arcsD (R q).2.2.1), .d (listsD (R q).2.2.2)]), (8, .cells [.int 0, .nilS, .nilS, .nilS])]) (fun (q : Nat) => r - q) 0 ?_ ?_ ?_
      · exact Nat.zero_le _
      · exact eL [] _ _ (by refine ⟨?_, ?_⟩ <;> (repeat' first | exact List.forall_mem_nil _ | refine List.forall_mem_cons.2 ⟨(by first | rfl | (simp (disch := omega) only [go_sem, simprocAttr, inL]; first | done | omega | (congr 1; done))), ?_⟩); done)
      · intro q hq
        rcases Nat.lt_or_ge q r with hlq | hgq
        · repeat' first | refine pw_seq ?_ | refine pw_skip ?_ | refine pw_ret ?_ | refine pw_exit ?_ | refine pw_block ?_ | refine pw_region (fun _ => false) hmix ?_ | (refine wpG_split rfl rfl (fun hc => ?_) (fun hc => ?_) <;> try simp only [hcL, reduceCtorEq] at hc) | (refine pw_cond _ rfl rfl (fun hc => ?_) (fun hc => ?_) <;> (try simp only [hcL, reduceCtorEq] at hc) <;> try (exfalso; omega)) | simp (maxSteps := 1000000) (disch := omega) only [go_sem, simprocAttr] | apply And.intro | omega | decide +kernel
          refine pw_loopI (κ := Nat) (fun (k : Nat) => k ≤ ls.length) (fun (k : Nat) => [(1, .d (listsD old)), (2, .int w), (3, .int r), (4, .ptr 4 0 0 0), (8, .ptr 8 0 0 0), (11, .int q), (12, .int k)]) (fun (k : Nat) => [(4, .cells [.int (G q k).1, .d (listsD (G q k).2.1), .d (arcsD (G q k).2.2.1), .d (listsD (G q k).2.2.2)]), (8, .cells [.int 0, .nilS, .nilS, .nilS])]) (fun (k : Nat) => ls.length - k) 0 ?_ ?_ ?_
          · exact Nat.zero_le _
          · exact eL [] _ _ (by refine ⟨?_, ?_⟩ <;> (repeat' first | exact List.forall_mem_nil _ | refine List.forall_mem_cons.2 ⟨(by first | rfl | (simp (disch := omega) only [go_sem, simprocAttr, inL, hG0]; first | done | omega | (congr 1; done))), ?_⟩); done)
          · intro k hk
            have d1 := hglen q k hk
            rcases Nat.lt_or_ge k ls.length with hlk | hgk
            · obtain ⟨b, e, c1, e1⟩ := hLy q k hlk
              by_cases he : e = 0
              · rw [if_pos he] at e1
                subst he
                repeat' first | refine pw_seq ?_ | refine pw_skip ?_ | refine pw_ret ?_ | refine pw_exit ?_ | refine pw_block ?_ | refine pw_region (fun _ => false) hmix ?_ | (refine rc (c1) rfl ?_ ?_; (· first | rfl | (simp (disch := omega) only [go_sem, simprocAttr, d1]; done))) | (refine wpG_split rfl rfl (fun hc => ?_) (fun hc => ?_) <;> try simp only [hcL, reduceCtorEq] at hc) | (refine pw_cond _ rfl rfl (fun hc => ?_) (fun hc => ?_) <;> (try simp only [hcL, reduceCtorEq] at hc) <;> try (exfalso; omega)) | simp (maxSteps := 1000000) (disch := omega) only [go_sem, simprocAttr, d1] | apply And.intro | omega | decide +kernel
                refine ⟨k + 1, ?_, eL [] _ _ (by refine ⟨?_, ?_⟩ <;> (repeat' first | exact List.forall_mem_nil _ | refine List.forall_mem_cons.2 ⟨(by first | rfl | (simp (disch := omega) only [go_sem, simprocAttr, inL, e1]; first | done | omega | (congr 1; done))), ?_⟩); done), ?_⟩
                · omega
                · omega
              · rw [if_neg he] at e1
                repeat' first | refine pw_seq ?_ | refine pw_skip ?_ | refine pw_ret ?_ | refine pw_exit ?_ | refine pw_block ?_ | refine pw_region (fun _ => false) hmix ?_ | (refine rc (c1) rfl ?_ ?_; (· first | rfl | (simp (disch := omega) only [go_sem, simprocAttr, d1, he]; done))) | (refine wpG_split rfl rfl (fun hc => ?_) (fun hc => ?_) <;> try simp only [hcL, reduceCtorEq] at hc) | (refine pw_cond _ rfl rfl (fun hc => ?_) (fun hc => ?_) <;> (try simp only [hcL, reduceCtorEq] at hc) <;> try (exfalso; omega)) | simp (maxSteps := 1000000) (disch := omega) only [go_sem, simprocAttr, d1, he] | apply And.intro | omega | decide +kernel
                refine ⟨k + 1, ?_, eL [] _ _ (by refine ⟨?_, ?_⟩ <;> (repeat' first | exact List.forall_mem_nil _ | refine List.forall_mem_cons.2 ⟨(by first | rfl | (simp (disch := omega) only [go_sem, simprocAttr, inL, e1]; first | done | omega | (congr 1; done))), ?_⟩); done), ?_⟩
                · omega
                · omega
            · have : k = ls.length := by omega
              subst this
              rw [hGL]
              have d2 : (R (q + 1)).2.1.length = ls.length := by rw [← hGL]; exact d1
              repeat' first | refine pw_seq ?_ | refine pw_skip ?_ | refine pw_ret ?_ | refine pw_exit ?_ | refine pw_block ?_ | refine pw_region (fun _ => false) hmix ?_ | (refine wpG_split rfl rfl (fun hc => ?_) (fun hc => ?_) <;> try simp only [hcL, reduceCtorEq] at hc) | (refine pw_cond _ rfl rfl (fun hc => ?_) (fun hc => ?_) <;> (try simp only [hcL, reduceCtorEq] at hc) <;> try (exfalso; omega)) | simp (maxSteps := 1000000) (disch := omega) only [go_sem, simprocAttr, d2] | apply And.intro | omega | decide +kernel
              refine ⟨q + 1, ?_, eL [] _ _ (by refine ⟨?_, ?_⟩ <;> (repeat' first | exact List.forall_mem_nil _ | refine List.forall_mem_cons.2 ⟨(by first | rfl | (simp (disch := omega) only [go_sem, simprocAttr, inL]; first | done | omega | (congr 1; done))), ?_⟩); done), ?_⟩
              · omega
              · omega
        · have : q = r := by omega
          subst this
          repeat' first | refine pw_seq ?_ | refine pw_skip ?_ | refine pw_ret ?_ | refine pw_exit ?_ | refine pw_block ?_ | refine pw_region (fun _ => false) hmix ?_ | (refine rc (hco) rfl ?_ ?_; (· first | rfl | (simp (disch := omega) only [go_sem, simprocAttr, List.append_eq]; done))) | (refine wpG_split rfl rfl (fun hc => ?_) (fun hc => ?_) <;> try simp only [hcL, reduceCtorEq] at hc) | (refine pw_cond _ rfl rfl (fun hc => ?_) (fun hc => ?_) <;> (try simp only [hcL, reduceCtorEq] at hc) <;> try (exfalso; omega)) | simp (maxSteps := 1000000) (disch := omega) only [go_sem, simprocAttr, List.append_eq] | apply And.intro | omega | decide +kernel
          refine ⟨_, rfl, ⟨_, _, _, _, rfl, ?_⟩, int_some rfl, int_some rfl, trivial⟩
          simp (maxSteps := 1000000) (disch := omega) only [go_sem, simprocAttr, toD]
set_option maxHeartbeats 2000000 in
theorem lawRuns (a : Lv) (old : List (List Int)) (w r : Int) (hw : wide a) : CallsTo Tryz.prog 3 [lvD a, listsD old, stepD w r] (.bool true) := by
  have h5 := lives_spec
  have h1 := fewS_spec a old hw
  rcases hf : fewS a old with _ | _ <;> rw [hf] at h1
  · refine callsTo_of Tryz.func3 rfl (by decide +kernel) (Nat.le_of_ble_eq_true rfl) ?_
    intro hat B X w0
    repeat' first | refine pw_seq ?_ | refine pw_skip ?_ | refine pw_ret ?_ | refine pw_exit ?_ | refine pw_block ?_ | refine pw_region (fun _ => false) hmix ?_ | (refine rc (h1) rfl ?_ ?_; (· first | rfl | (simp (disch := omega) only [go_sem, simprocAttr, List.append_eq]; done))) | (refine rc (h5) rfl ?_ ?_; (· first | rfl | (simp (disch := omega) only [go_sem, simprocAttr, List.append_eq]; done))) | (refine wpG_split rfl rfl (fun hc => ?_) (fun hc => ?_) <;> try simp only [hcL, reduceCtorEq] at hc) | (refine pw_cond _ rfl rfl (fun hc => ?_) (fun hc => ?_) <;> (try simp only [hcL, reduceCtorEq] at hc) <;> try (exfalso; omega)) | simp (maxSteps := 1000000) (disch := omega) only [go_sem, simprocAttr, List.append_eq] | apply And.intro | omega | decide +kernel
    exact bool_some rfl
  · obtain ⟨f1, f2, f3, f4, f5⟩ := fewS_in hf
    have h2 := Run_spec a old w r hw (by omega) (few_old hf)
    have h3 := rRun_spec a old w r hw (by omega) (few_old hf)
    have h4 := rSame_spec (runF a old w r).1 (runF a old w r).1
    rw [sameLv_iff.2 rfl] at h4
    generalize runF a old w r = R at *
    obtain ⟨⟨n', ls', ar', cs'⟩, c, e⟩ := R
    refine callsTo_of Tryz.func3 rfl (by decide +kernel) (Nat.le_of_ble_eq_true rfl) ?_
    intro hat B X w0
    repeat' first | refine pw_seq ?_ | refine pw_skip ?_ | refine pw_ret ?_ | refine pw_exit ?_ | refine pw_block ?_ | refine pw_region (fun _ => false) hmix ?_ | (refine rc (h1) rfl ?_ ?_; (· first | rfl | (simp (disch := omega) only [go_sem, simprocAttr, List.append_eq]; done))) | (refine rc (h2) rfl ?_ ?_; (· first | rfl | (simp (disch := omega) only [go_sem, simprocAttr, List.append_eq]; done))) | (refine rc (h3) rfl ?_ ?_; (· first | rfl | (simp (disch := omega) only [go_sem, simprocAttr, List.append_eq]; done))) | (refine rc (h4) rfl ?_ ?_; (· first | rfl | (simp (disch := omega) only [go_sem, simprocAttr, List.append_eq]; done))) | (refine rc (h5) rfl ?_ ?_; (· first | rfl | (simp (disch := omega) only [go_sem, simprocAttr, List.append_eq]; done))) | (refine wpG_split rfl rfl (fun hc => ?_) (fun hc => ?_) <;> try simp only [hcL, reduceCtorEq] at hc) | (refine pw_cond _ rfl rfl (fun hc => ?_) (fun hc => ?_) <;> (try simp only [hcL, reduceCtorEq] at hc) <;> try (exfalso; omega)) | simp (maxSteps := 1000000) (disch := omega) only [go_sem, simprocAttr, List.append_eq] | apply And.intro | omega | decide +kernel
    all_goals exact bool_some rfl
end Go.Proofs.YtelghbnlceeecaaGreat
