/- Reorder: the walks. -/
import Derived.Test.YtelghbnlceeecaaK
import Derived.Test.YtelghbnlceeecaaPSBridge
import Derived.Test.YtelghbnlceeecaaTypes
namespace Go.Proofs.Ytelghbnlceeecaa
open Go Go.PS Go.Proofs
set_option maxRecDepth 100000
set_option linter.unusedSimpArgs false
set_option linter.unusedVariables false
attribute [local irreducible] wpRun wpG CallsTo CallsM

theorem arc_cells (l : List Arc) : ∀ d, d ∈ l.map arcD → d.cells.length = 2 := cells_map arcD 2 (fun _ => rfl) l
theorem cloneA_spec (l : List Arc) (hn : l.length ≤ 1000000) : CallsTo Try.prog 91 [arcsD l] (arcsD l) := by
  rcases Decidable.em (l = []) with rfl | hl
  · refine callsTo_of Try.func91 rfl (by decide +kernel) (Nat.le_of_ble_eq_true rfl) ?_
    intro hat B X w0
    repeat' first
      | refine pw_seq ?_
      | refine pw_skip ?_
      | refine pw_ret ?_
      | refine pw_exit ?_
      | refine pw_block ?_
      | refine pw_region (fun _ => false) hmix ?_
      | (refine wpG_split rfl rfl (fun hc => ?_) (fun hc => ?_) <;> try simp only [hcL, reduceCtorEq] at hc)
      | (refine pw_cond _ rfl rfl (fun hc => ?_) (fun hc => ?_) <;> (try simp only [hcL, reduceCtorEq] at hc) <;> try (exfalso; omega))
      | simp (maxSteps := 1000000) (disch := omega) only [go_sem, simprocAttr]
      | apply And.intro
      | omega
      | decide +kernel
    refine pw_anyb 4 rfl ?_
    intro b
    cases b
    · repeat' first
        | refine pw_seq ?_
        | refine pw_skip ?_
        | refine pw_ret ?_
        | refine pw_exit ?_
        | refine pw_block ?_
        | refine pw_region (Nat.beq 5) hmix ?_
        | (refine wpG_split rfl rfl (fun hc => ?_) (fun hc => ?_) <;> try simp only [hcL, reduceCtorEq] at hc)
        | (refine pw_cond _ rfl rfl (fun hc => ?_) (fun hc => ?_) <;> (try simp only [hcL, reduceCtorEq] at hc) <;> try (exfalso; omega))
        | simp (maxSteps := 1000000) (disch := omega) only [go_sem, simprocAttr, roomy]
        | apply And.intro
        | omega
        | decide +kernel
      exact sl_some rfl
    · repeat' first
        | refine pw_seq ?_
        | refine pw_skip ?_
        | refine pw_ret ?_
        | refine pw_exit ?_
        | refine pw_block ?_
        | refine pw_region (fun _ => false) hmix ?_
        | (refine wpG_split rfl rfl (fun hc => ?_) (fun hc => ?_) <;> try simp only [hcL, reduceCtorEq] at hc)
        | (refine pw_cond _ rfl rfl (fun hc => ?_) (fun hc => ?_) <;> (try simp only [hcL, reduceCtorEq] at hc) <;> try (exfalso; omega))
        | simp (maxSteps := 1000000) (disch := omega) only [go_sem, simprocAttr]
        | apply And.intro
        | omega
        | decide +kernel
      exact sl_some rfl
  · have he : (l.map arcD).isEmpty = false := by simpa using hl
    have hpos : 0 < l.length := List.length_pos_iff.2 hl
    refine callsTo_of Try.func91 rfl (by decide +kernel) (Nat.le_of_ble_eq_true rfl) ?_
    intro hat B X w0
    repeat' first
      | refine pw_seq ?_
      | refine pw_skip ?_
      | refine pw_ret ?_
      | refine pw_exit ?_
      | refine pw_block ?_
      | refine pw_region (Nat.beq 5) hmix ?_
      | (refine wpG_split rfl rfl (fun hc => ?_) (fun hc => ?_) <;> try simp only [hcL, reduceCtorEq] at hc)
      | (refine pw_cond _ rfl rfl (fun hc => ?_) (fun hc => ?_) <;> (try simp only [hcL, reduceCtorEq] at hc) <;> try (exfalso; omega))
      | simp (maxSteps := 1000000) (disch := omega) only [go_sem, simprocAttr, he, roomy, take_map_len]
      | exact arc_cells l
      | apply And.intro
      | omega
      | decide +kernel
    exact ret_ref (o := 7) rfl rfl (by simp) (List.take_of_length_le (by simp))
theorem cloneI_spec (l : List Int) (hn : l.length ≤ 1000000) : CallsTo Try.prog 55 [intsD l] (intsD l) := by
  rcases Decidable.em (l = []) with rfl | hl
  · refine callsTo_of Try.func55 rfl (by decide +kernel) (Nat.le_of_ble_eq_true rfl) ?_
    intro hat B X w0
    repeat' first
      | refine pw_seq ?_
      | refine pw_skip ?_
      | refine pw_ret ?_
      | refine pw_exit ?_
      | refine pw_block ?_
      | refine pw_region (fun _ => false) hmix ?_
      | (refine wpG_split rfl rfl (fun hc => ?_) (fun hc => ?_) <;> try simp only [hcL, reduceCtorEq] at hc)
      | (refine pw_cond _ rfl rfl (fun hc => ?_) (fun hc => ?_) <;> (try simp only [hcL, reduceCtorEq] at hc) <;> try (exfalso; omega))
      | simp (maxSteps := 1000000) (disch := omega) only [go_sem, simprocAttr]
      | apply And.intro
      | omega
      | decide +kernel
    refine pw_anyb 4 rfl ?_
    intro b
    cases b
    · repeat' first
        | refine pw_seq ?_
        | refine pw_skip ?_
        | refine pw_ret ?_
        | refine pw_exit ?_
        | refine pw_block ?_
        | refine pw_region (Nat.beq 5) hmix ?_
        | (refine wpG_split rfl rfl (fun hc => ?_) (fun hc => ?_) <;> try simp only [hcL, reduceCtorEq] at hc)
        | (refine pw_cond _ rfl rfl (fun hc => ?_) (fun hc => ?_) <;> (try simp only [hcL, reduceCtorEq] at hc) <;> try (exfalso; omega))
        | simp (maxSteps := 1000000) (disch := omega) only [go_sem, simprocAttr, roomy]
        | apply And.intro
        | omega
        | decide +kernel
      exact sl_some rfl
    · repeat' first
        | refine pw_seq ?_
        | refine pw_skip ?_
        | refine pw_ret ?_
        | refine pw_exit ?_
        | refine pw_block ?_
        | refine pw_region (fun _ => false) hmix ?_
        | (refine wpG_split rfl rfl (fun hc => ?_) (fun hc => ?_) <;> try simp only [hcL, reduceCtorEq] at hc)
        | (refine pw_cond _ rfl rfl (fun hc => ?_) (fun hc => ?_) <;> (try simp only [hcL, reduceCtorEq] at hc) <;> try (exfalso; omega))
        | simp (maxSteps := 1000000) (disch := omega) only [go_sem, simprocAttr]
        | apply And.intro
        | omega
        | decide +kernel
      exact sl_some rfl
  · have he : (l.map D.int).isEmpty = false := by simpa using hl
    have hpos : 0 < l.length := List.length_pos_iff.2 hl
    refine callsTo_of Try.func55 rfl (by decide +kernel) (Nat.le_of_ble_eq_true rfl) ?_
    intro hat B X w0
    repeat' first
      | refine pw_seq ?_
      | refine pw_skip ?_
      | refine pw_ret ?_
      | refine pw_exit ?_
      | refine pw_block ?_
      | refine pw_region (Nat.beq 5) hmix ?_
      | (refine wpG_split rfl rfl (fun hc => ?_) (fun hc => ?_) <;> try simp only [hcL, reduceCtorEq] at hc)
      | (refine pw_cond _ rfl rfl (fun hc => ?_) (fun hc => ?_) <;> (try simp only [hcL, reduceCtorEq] at hc) <;> try (exfalso; omega))
      | simp (maxSteps := 1000000) (disch := omega) only [go_sem, simprocAttr, he, roomy, take_map_len]
      | exact one_int l
      | apply And.intro
      | omega
      | decide +kernel
    exact ret_ref (o := 7) rfl rfl (by simp) (List.take_of_length_le (by simp))
theorem clone_spec (l : List (List Int)) (hn : l.length ≤ 1000) (hl : ∀ y, y ∈ l → y.length ≤ 1000000) : CallsM Try.prog 90 [.d (listsD l)] [(2000, .dead)] (.ref 2000 1 0 l.length l.length) [(2000, .row 1 (l.map intsD))] := by
  refine callsM_of Try.func90 rfl (by decide +kernel) (Nat.le_of_ble_eq_true rfl) rfl (nodup_of rfl) rfl rfl rfl ?_
  intro B X w0
  repeat' first
    | refine pw_seq ?_
    | refine pw_skip ?_
    | refine pw_ret ?_
    | refine pw_exit ?_
    | refine pw_block ?_
    | refine pw_region (fun _ => false) hmix ?_
    | (refine wpG_split rfl rfl (fun hc => ?_) (fun hc => ?_) <;> try simp only [hcL, reduceCtorEq] at hc)
    | (refine pw_cond _ rfl rfl (fun hc => ?_) (fun hc => ?_) <;> (try simp only [hcL, reduceCtorEq] at hc) <;> try (exfalso; omega))
    | simp (maxSteps := 1000000) (disch := omega) only [go_sem, simprocAttr]
    | apply And.intro
    | omega
    | decide +kernel
  refine pw_ent _ (ent_nilRow 7 l.length rfl) ?_
  refine pw_loopI (κ := Nat) (fun (k : Nat) => k ≤ l.length) (fun (k : Nat) => [(0, .d (listsD l)), (3, .ref 7 1 0 l.length l.length), (9, .int l.length), (10, .int k)]) (fun (k : Nat) => [(7, .row 1 ((l.take k).map intsD ++ List.replicate (l.length - k) (.sl [])))]) (fun (k : Nat) => l.length - k) 0 ?_ ?_ ?_
  · exact Nat.zero_le _
  · exact eL [] _ _ (by refine ⟨?_, ?_⟩ <;> (repeat' first | exact List.forall_mem_nil _ | refine List.forall_mem_cons.2 ⟨(by first | rfl | (simp (disch := omega) only [go_sem, simprocAttr, inL, List.take_zero, List.map_nil, List.nil_append, Nat.sub_zero]; first | done | omega | (congr 1; done))), ?_⟩); done)
  · intro k hk
    rcases Nat.lt_or_ge k l.length with hlt | hge
    · obtain ⟨p, hp⟩ := get_some hlt
      have hcp := cloneI_spec p (hl p (List.mem_of_getElem? hp))
      have hst : ((l.take k).map intsD ++ List.replicate (l.length - k) (D.sl [])).set k (intsD p) = (l.take (k + 1)).map intsD ++ List.replicate (l.length - (k + 1)) (D.sl []) := by
        have hlk : ((l.take k).map intsD).length = k := by rw [List.length_map, List.length_take]; omega
        have e : l.length - k = (l.length - (k + 1)) + 1 := by omega
        rw [List.set_append, hlk, if_neg (by omega), Nat.sub_self, e, List.replicate_succ, List.set_cons_zero, take_snoc hp, List.map_append, List.append_assoc]
        rfl
      have hLn : ((l.take k).map intsD ++ List.replicate (l.length - k) (D.sl [])).length = l.length := by
        rw [List.length_append, List.length_map, List.length_take, List.length_replicate]; omega
      have hgk : ((l.take k).map intsD ++ List.replicate (l.length - k) (D.sl []))[k]? = some (D.sl []) := by
        rw [List.getElem?_append_right (by rw [List.length_map, List.length_take]; omega), List.length_map, List.length_take, Nat.min_eq_left (by omega), Nat.sub_self, List.getElem?_replicate, if_pos (by omega)]
      repeat' first
        | refine pw_seq ?_
        | refine pw_skip ?_
        | refine pw_ret ?_
        | refine pw_exit ?_
        | refine pw_block ?_
        | refine pw_region (fun _ => false) hmix ?_
        | (refine rc (hcp) rfl ?_ ?_; (· first | rfl | (simp (disch := omega) only [go_sem, simprocAttr, hp, hLn, hgk]; done)))
        | (refine wpG_split rfl rfl (fun hc => ?_) (fun hc => ?_) <;> try simp only [hcL, reduceCtorEq] at hc)
        | (refine pw_cond _ rfl rfl (fun hc => ?_) (fun hc => ?_) <;> (try simp only [hcL, reduceCtorEq] at hc) <;> try (exfalso; omega))
        | simp (maxSteps := 1000000) (disch := omega) only [go_sem, simprocAttr, hp, hLn, hgk]
        | apply And.intro
        | omega
        | decide +kernel
      refine ⟨k + 1, ?_, eL [] _ _ (by refine ⟨?_, ?_⟩ <;> (repeat' first | exact List.forall_mem_nil _ | refine List.forall_mem_cons.2 ⟨(by first | rfl | (simp (disch := omega) only [go_sem, simprocAttr, inL, hst]; first | done | omega | (congr 1; done))), ?_⟩); done), ?_⟩
      · omega
      · omega
    · have : k = l.length := by omega
      subst this
      try dsimp only
      rw [List.take_length, Nat.sub_self, List.replicate_zero, List.append_nil]
      repeat' first
        | refine pw_seq ?_
        | refine pw_skip ?_
        | refine pw_exit ?_
        | refine pw_block ?_
        | refine pw_region (fun _ => false) hmix ?_
        | (refine wpG_split rfl rfl (fun hc => ?_) (fun hc => ?_) <;> try simp only [hcL, reduceCtorEq] at hc)
        | (refine pw_cond _ rfl rfl (fun hc => ?_) (fun hc => ?_) <;> (try simp only [hcL, reduceCtorEq] at hc) <;> try (exfalso; omega))
        | simp (maxSteps := 1000000) (disch := omega) only [go_sem, simprocAttr]
        | apply And.intro
        | omega
        | decide +kernel
      refine eR [(2000, 7)] [(2, .ref 2000 1 0 _ _)] [(2000, .row 1 _)] (by refine ⟨?_, ?_⟩ <;> (repeat' first | exact List.forall_mem_nil _ | refine List.forall_mem_cons.2 ⟨(by first | rfl | (simp (disch := omega) only [go_sem, simprocAttr, inL]; first | done | omega | (congr 1; done))), ?_⟩); done) ?_
      refine pw_ret ?_
      exact ⟨rfl, List.forall_mem_cons.2 ⟨rfl, List.forall_mem_nil _⟩⟩
theorem chainsF_get {r : List Int} {l : List Arc} {k : Nat} {a : Arc} (ha : l[k]? = some a) : ∀ e, k < e → e ≤ l.length → (chainsF r l e)[k]? = some (chainOf r (allR r l k).length a)
  | 0, h, _ => by omega
  | e + 1, h, he => by
    have hl := chainsF_len r l e (by omega)
    rw [chainsF, catN]
    rw [chainsF] at hl
    rcases Nat.lt_succ_iff_lt_or_eq.1 h with h1 | rfl
    · rw [List.getElem?_append_left (by rw [hl]; exact h1)]
      exact chainsF_get ha e h1 (by omega)
    · rw [List.getElem?_append_right (by rw [hl]; exact Nat.le_refl _), hl, Nat.sub_self, chainAt, ha]
      rfl
theorem lv_sizes {a : Lv} (h : validF a = true) : a.2.2.1.length ≤ 800 ∧ a.2.2.2.length ≤ 256 ∧ ∀ y, y ∈ a.2.2.2 → y.length ≤ 260 := by
  obtain ⟨b, hm, hr⟩ := valid_built h
  have h1 : a.2.2.1 = arcsF (ranksV a) (srcG a).2 (srcG a).2.length := congrArg (fun x : Lv => x.2.2.1) hm
  have h2 : a.2.2.2 = chainsF (ranksV a) (srcG a).2 (srcG a).2.length := congrArg (fun x : Lv => x.2.2.2) hm
  have h3 := arcsF_len b.gap (srcG a).2.length (Nat.le_refl _)
  have h4 := chainsF_len (ranksV a) (srcG a).2 (srcG a).2.length (Nat.le_refl _)
  have h5 := b.all_len
  have h6 := (gOk_in b.gok).2.2.1
  rw [← h1] at h3
  rw [← h2] at h4
  refine ⟨by omega, by omega, fun y hy => ?_⟩
  obtain ⟨k, hk⟩ := List.getElem?_of_mem hy
  have hkl := (List.getElem?_eq_some_iff.1 hk).1
  obtain ⟨x, hx⟩ := get_some (l := (srcG a).2) (k := k) (by omega)
  rw [h2, chainsF_get hx _ (by omega) (Nat.le_refl _), Option.some.injEq] at hk
  rw [← hk, chainOf_len, gapN]
  have g1 := b.rk x.1.toNat
  have g2 := b.rk x.2.toNat
  have g3 := b.ends hx
  rw [show ((x.1.toNat : Nat) : Int) = x.1 by omega] at g1
  rw [show ((x.2.toNat : Nat) : Int) = x.2 by omega] at g2
  omega
def reorderF (a : Lv) (i : Int) (o : List Int) : Lv × Int :=
  if validF a = false then (lv0, 1) else if i < 0 ∨ (a.2.1.length : Int) ≤ i then (lv0, 3)
  else if sortL o ≠ sortL ((a.2.1[i.toNat]?).getD []) then (lv0, 6) else ((a.1, a.2.1.set i.toNat o, a.2.2.1, a.2.2.2), 0)
set_option maxHeartbeats 4000000 in
theorem Reorder_spec (a : Lv) (i : Int) (o : List Int) (hw : wide a) (ho : o.length ≤ 600) : CallsTo Try.prog 56 [lvD a, .int i, intsD o] (.tup [lvD (reorderF a i o).1, .int (reorderF a i o).2]) := by
  have hv := LvValid_spec a hw
  rw [reorderF]
  rcases h : validF a with _ | _ <;> rw [h] at hv
  · rw [if_pos rfl]
    refine callsTo_of Try.func56 rfl (by decide +kernel) (Nat.le_of_ble_eq_true rfl) ?_
    intro hat B X w0
    repeat' first
      | refine pw_seq ?_
      | refine pw_skip ?_
      | refine pw_ret ?_
      | refine pw_exit ?_
      | refine pw_block ?_
      | refine pw_region (fun _ => false) hmix ?_
      | (refine rc (hv) rfl ?_ ?_; (· first | rfl | (simp (disch := omega) only [go_sem, simprocAttr, List.append_eq]; done)))
      | (refine wpG_split rfl rfl (fun hc => ?_) (fun hc => ?_) <;> try simp only [hcL, reduceCtorEq] at hc)
      | (refine pw_cond _ rfl rfl (fun hc => ?_) (fun hc => ?_) <;> (try simp only [hcL, reduceCtorEq] at hc) <;> try (exfalso; omega))
      | simp (maxSteps := 1000000) (disch := omega) only [go_sem, simprocAttr, List.append_eq]
      | apply And.intro
      | omega
      | decide +kernel
    refine ⟨_, rfl, ⟨_, _, _, _, rfl, ?_⟩, int_some ?_, trivial⟩
    · simp (maxSteps := 1000000) (disch := omega) only [go_sem, simprocAttr, toD]
      rfl
    · rfl
  · rw [if_neg (by decide)]
    obtain ⟨t1, t2⟩ := lv_le h
    by_cases hi : i < 0 ∨ (a.2.1.length : Int) ≤ i
    · rw [if_pos hi]
      obtain ⟨n, ls, ar, cs⟩ := a
      dsimp only at hi t1
      refine callsTo_of Try.func56 rfl (by decide +kernel) (Nat.le_of_ble_eq_true rfl) ?_
      intro hat B X w0
      repeat' first
        | refine pw_seq ?_
        | refine pw_skip ?_
        | refine pw_ret ?_
        | refine pw_exit ?_
        | refine pw_block ?_
        | refine pw_region (fun _ => false) hmix ?_
        | (refine rc (hv) rfl ?_ ?_; (· first | rfl | (simp (disch := omega) only [go_sem, simprocAttr, List.append_eq]; done)))
        | (refine wpG_split rfl rfl (fun hc => ?_) (fun hc => ?_) <;> try simp only [hcL, reduceCtorEq] at hc)
        | (refine pw_cond _ rfl rfl (fun hc => ?_) (fun hc => ?_) <;> (try simp only [hcL, reduceCtorEq] at hc) <;> try (exfalso; omega))
        | simp (maxSteps := 1000000) (disch := omega) only [go_sem, simprocAttr, List.append_eq]
        | apply And.intro
        | omega
        | decide +kernel
      all_goals
        refine ⟨_, rfl, ⟨_, _, _, _, rfl, ?_⟩, int_some ?_, trivial⟩
        · simp (maxSteps := 1000000) (disch := omega) only [go_sem, simprocAttr, toD]
          rfl
        · rfl
    · rw [if_neg hi]
      obtain ⟨y, hy⟩ := get_some (l := a.2.1) (k := i.toNat) (by omega)
      have hyl := tot_mem (List.mem_of_getElem? hy)
      rw [hy, Option.getD_some]
      have hv1 := Values_spec o
      have hv2 := Values_spec y
      have hs1 := Sorted_spec o (by omega)
      have hs2 := Sorted_spec y (by omega)
      have he := equalI_spec (sortL o) (sortL y)
      by_cases hso : sortL o = sortL y
      · rw [if_neg (by simpa using hso)]
        rw [decide_eq_true hso] at he
        have hcl := clone_spec a.2.1 (by omega) (fun y hy => by have := tot_mem hy; omega)
        have hbd : a.2.2.1.length ≤ 1000000 ∧ a.2.2.2.length ≤ 1000 ∧ ∀ y, y ∈ a.2.2.2 → y.length ≤ 1000000 := by
          obtain ⟨s1, s2, s3⟩ := lv_sizes h
          exact ⟨by omega, by omega, fun y hy => by have := s3 y hy; omega⟩
        have hca := cloneA_spec a.2.2.1 hbd.1
        have hcc := clone_spec a.2.2.2 hbd.2.1 hbd.2.2
        have hco := cloneI_spec o (by omega)
        obtain ⟨n, ls, ar, cs⟩ := a
        dsimp only at hi t1 hy hcl hca hcc
        refine callsTo_of Try.func56 rfl (by decide +kernel) (Nat.le_of_ble_eq_true rfl) ?_
        intro hat B X w0
        repeat' first
          | refine pw_seq ?_
          | refine pw_skip ?_
          | refine pw_ret ?_
          | refine pw_exit ?_
          | refine pw_block ?_
          | refine pw_region (fun _ => false) hmix ?_
          | (refine rc (hv) rfl ?_ ?_; (· first | rfl | (simp (disch := omega) only [go_sem, simprocAttr, List.append_eq, hy]; done)))
          | (refine rc (hv1) rfl ?_ ?_; (· first | rfl | (simp (disch := omega) only [go_sem, simprocAttr, List.append_eq, hy]; done)))
          | (refine rc (hv2) rfl ?_ ?_; (· first | rfl | (simp (disch := omega) only [go_sem, simprocAttr, List.append_eq, hy]; done)))
          | (refine rc (hs1) rfl ?_ ?_; (· first | rfl | (simp (disch := omega) only [go_sem, simprocAttr, List.append_eq, hy]; done)))
          | (refine rc (hs2) rfl ?_ ?_; (· first | rfl | (simp (disch := omega) only [go_sem, simprocAttr, List.append_eq, hy]; done)))
          | (refine rc (he) rfl ?_ ?_; (· first | rfl | (simp (disch := omega) only [go_sem, simprocAttr, List.append_eq, hy]; done)))
          | refine rcM [(2000, 43)] (hcl) rfl ?_
          | refine rcM [(2000, 49)] (hcc) rfl ?_
          | (refine rc (hca) rfl ?_ ?_; (· first | rfl | (simp (disch := omega) only [go_sem, simprocAttr, List.append_eq, hy]; done)))
          | (refine rc (hco) rfl ?_ ?_; (· first | rfl | (simp (disch := omega) only [go_sem, simprocAttr, List.append_eq, hy]; done)))
          | (refine wpG_split rfl rfl (fun hc => ?_) (fun hc => ?_) <;> try simp only [hcL, reduceCtorEq] at hc)
          | (refine pw_cond _ rfl rfl (fun hc => ?_) (fun hc => ?_) <;> (try simp only [hcL, reduceCtorEq] at hc) <;> try (exfalso; omega))
          | simp (maxSteps := 1000000) (disch := omega) only [go_sem, simprocAttr, List.append_eq, hy]
          | apply And.intro
          | omega
          | decide +kernel
        refine ⟨_, rfl, ⟨_, _, _, _, rfl, ?_⟩, int_some rfl, trivial⟩
        simp (maxSteps := 1000000) (disch := omega) only [go_sem, simprocAttr, toD, List.length_map, List.length_set, Nat.le_refl, List.drop_zero]
        rw [List.take_of_length_le (by rw [List.length_set, List.length_map]; exact Nat.le_refl _), List.take_of_length_le (by rw [List.length_map]; exact Nat.le_refl _)]
        simp only [lvD, listsD, List.map_set]
      · rw [if_pos (by simpa using hso)]
        rw [decide_eq_false hso] at he
        obtain ⟨n, ls, ar, cs⟩ := a
        dsimp only at hi t1 hy
        refine callsTo_of Try.func56 rfl (by decide +kernel) (Nat.le_of_ble_eq_true rfl) ?_
        intro hat B X w0
        repeat' first
          | refine pw_seq ?_
          | refine pw_skip ?_
          | refine pw_ret ?_
          | refine pw_exit ?_
          | refine pw_block ?_
          | refine pw_region (fun _ => false) hmix ?_
          | (refine rc (hv) rfl ?_ ?_; (· first | rfl | (simp (disch := omega) only [go_sem, simprocAttr, List.append_eq, hy]; done)))
          | (refine rc (hv1) rfl ?_ ?_; (· first | rfl | (simp (disch := omega) only [go_sem, simprocAttr, List.append_eq, hy]; done)))
          | (refine rc (hv2) rfl ?_ ?_; (· first | rfl | (simp (disch := omega) only [go_sem, simprocAttr, List.append_eq, hy]; done)))
          | (refine rc (hs1) rfl ?_ ?_; (· first | rfl | (simp (disch := omega) only [go_sem, simprocAttr, List.append_eq, hy]; done)))
          | (refine rc (hs2) rfl ?_ ?_; (· first | rfl | (simp (disch := omega) only [go_sem, simprocAttr, List.append_eq, hy]; done)))
          | (refine rc (he) rfl ?_ ?_; (· first | rfl | (simp (disch := omega) only [go_sem, simprocAttr, List.append_eq, hy]; done)))
          | (refine wpG_split rfl rfl (fun hc => ?_) (fun hc => ?_) <;> try simp only [hcL, reduceCtorEq] at hc)
          | (refine pw_cond _ rfl rfl (fun hc => ?_) (fun hc => ?_) <;> (try simp only [hcL, reduceCtorEq] at hc) <;> try (exfalso; omega))
          | simp (maxSteps := 1000000) (disch := omega) only [go_sem, simprocAttr, List.append_eq, hy]
          | apply And.intro
          | omega
          | decide +kernel
        refine ⟨_, rfl, ⟨_, _, _, _, rfl, ?_⟩, int_some ?_, trivial⟩
        · simp (maxSteps := 1000000) (disch := omega) only [go_sem, simprocAttr, toD]
          rfl
        · rfl
end Go.Proofs.Ytelghbnlceeecaa
namespace Go.Proofs.Ytelghbnlceeecaa
open Go Go.PS Go.Proofs
set_option maxRecDepth 100000
set_option linter.unusedSimpArgs false
set_option linter.unusedVariables false
attribute [local irreducible] wpRun wpG CallsTo CallsM

set_option maxHeartbeats 4000000 in
theorem rReorder_spec (a : Lv) (i : Int) (o : List Int) (hw : wide a) (ho : o.length ≤ 600) : CallsTo Try.prog 59 [lvD a, .int i, intsD o] (.tup [lvD (reorderF a i o).1, .int (reorderF a i o).2]) := by
  have hv := rLvValid_spec a hw
  rw [← valid_same] at hv
  rw [reorderF]
  rcases h : validF a with _ | _ <;> rw [h] at hv
  · rw [if_pos rfl]
    refine callsTo_of Try.func59 rfl (by decide +kernel) (Nat.le_of_ble_eq_true rfl) ?_
    intro hat B X w0
    repeat' first
      | refine pw_seq ?_
      | refine pw_skip ?_
      | refine pw_ret ?_
      | refine pw_exit ?_
      | refine pw_block ?_
      | refine pw_region (fun _ => false) hmix ?_
      | (refine rc (hv) rfl ?_ ?_; (· first | rfl | (simp (disch := omega) only [go_sem, simprocAttr, List.append_eq]; done)))
      | (refine wpG_split rfl rfl (fun hc => ?_) (fun hc => ?_) <;> try simp only [hcL, reduceCtorEq] at hc)
      | (refine pw_cond _ rfl rfl (fun hc => ?_) (fun hc => ?_) <;> (try simp only [hcL, reduceCtorEq] at hc) <;> try (exfalso; omega))
      | simp (maxSteps := 1000000) (disch := omega) only [go_sem, simprocAttr, List.append_eq]
      | apply And.intro
      | omega
      | decide +kernel
    refine ⟨_, rfl, ⟨_, _, _, _, rfl, ?_⟩, int_some ?_, trivial⟩
    · simp (maxSteps := 1000000) (disch := omega) only [go_sem, simprocAttr, toD]
      rfl
    · rfl
  · rw [if_neg (by decide)]
    obtain ⟨t1, t2⟩ := lv_le h
    by_cases hi : i < 0 ∨ (a.2.1.length : Int) ≤ i
    · rw [if_pos hi]
      obtain ⟨n, ls, ar, cs⟩ := a
      dsimp only at hi t1
      refine callsTo_of Try.func59 rfl (by decide +kernel) (Nat.le_of_ble_eq_true rfl) ?_
      intro hat B X w0
      repeat' first
        | refine pw_seq ?_
        | refine pw_skip ?_
        | refine pw_ret ?_
        | refine pw_exit ?_
        | refine pw_block ?_
        | refine pw_region (fun _ => false) hmix ?_
        | (refine rc (hv) rfl ?_ ?_; (· first | rfl | (simp (disch := omega) only [go_sem, simprocAttr, List.append_eq]; done)))
        | (refine wpG_split rfl rfl (fun hc => ?_) (fun hc => ?_) <;> try simp only [hcL, reduceCtorEq] at hc)
        | (refine pw_cond _ rfl rfl (fun hc => ?_) (fun hc => ?_) <;> (try simp only [hcL, reduceCtorEq] at hc) <;> try (exfalso; omega))
        | simp (maxSteps := 1000000) (disch := omega) only [go_sem, simprocAttr, List.append_eq]
        | apply And.intro
        | omega
        | decide +kernel
      all_goals
        refine ⟨_, rfl, ⟨_, _, _, _, rfl, ?_⟩, int_some ?_, trivial⟩
        · simp (maxSteps := 1000000) (disch := omega) only [go_sem, simprocAttr, toD]
          rfl
        · rfl
    · rw [if_neg hi]
      obtain ⟨y, hy⟩ := get_some (l := a.2.1) (k := i.toNat) (by omega)
      have hyl := tot_mem (List.mem_of_getElem? hy)
      rw [hy, Option.getD_some]
      have hs1 := rSort_spec o (by omega)
      have hs2 := rSort_spec y (by omega)
      have he := sameI_spec (sortL o) (sortL y)
      obtain ⟨n, ls, ar, cs⟩ := a
      dsimp only at hi t1 hy hyl t2
      by_cases hso : sortL o = sortL y
      · rw [if_neg (by simpa using hso)]
        rw [decide_eq_true hso] at he
        have hlen : o.length = y.length := by rw [← sortL_len o, hso, sortL_len]
        obtain ⟨p, rfl⟩ : ∃ p : Nat, i = p := ⟨i.toNat, by omega⟩
        rw [Int.toNat_natCast] at hy ⊢
        refine callsTo_of Try.func59 rfl (by decide +kernel) (Nat.le_of_ble_eq_true rfl) ?_
        intro hat B X w0
        repeat' first
          | refine pw_seq ?_
          | refine pw_skip ?_
          | refine pw_ret ?_
          | refine pw_exit ?_
          | refine pw_block ?_
          | refine pw_region (fun _ => false) hmix ?_
          | (refine rc (hv) rfl ?_ ?_; (· first | rfl | (simp (disch := omega) only [go_sem, simprocAttr, List.append_eq, hy, hlen]; done)))
          | (refine rc (hs1) rfl ?_ ?_; (· first | rfl | (simp (disch := omega) only [go_sem, simprocAttr, List.append_eq, hy, hlen]; done)))
          | (refine rc (hs2) rfl ?_ ?_; (· first | rfl | (simp (disch := omega) only [go_sem, simprocAttr, List.append_eq, hy, hlen]; done)))
          | (refine rc (he) rfl ?_ ?_; (· first | rfl | (simp (disch := omega) only [go_sem, simprocAttr, List.append_eq, hy, hlen]; done)))
          | (refine wpG_split rfl rfl (fun hc => ?_) (fun hc => ?_) <;> try simp only [hcL, reduceCtorEq] at hc)
          | (refine pw_cond _ rfl rfl (fun hc => ?_) (fun hc => ?_) <;> (try simp only [hcL, reduceCtorEq] at hc) <;> try (exfalso; omega))
          | simp (maxSteps := 1000000) (disch := omega) only [go_sem, simprocAttr, List.append_eq, hy, hlen]
          | apply And.intro
          | omega
          | decide +kernel
        refine pw_ent _ (ent_nilC 8 1 901 1 rfl rfl rfl) ?_
        refine pw_loopI (κ := Nat) (fun (k : Nat) => k ≤ ls.length) (fun (k : Nat) => [(1, .int p), (2, .d (intsD o)), (3, .ptr 3 0 0 0), (6, .ptr 6 0 0 0), (8, .ptr 8 0 0 0), (9, .int k)]) (fun (k : Nat) => [(3, .cells [.int n, .d (listsD ls), .d (arcsD ar), .d (listsD cs)]), (6, .cells [.int 0, .nilS, .nilS, .nilS]), (8, .cells [.int n, .ref 901 1 0 k k, .d (arcsD ar), .d (listsD cs)]), (901, .row 1 (((ls.set p o).take k).map intsD))]) (fun (k : Nat) => ls.length - k) 0 ?_ ?_ ?_
        · exact Nat.zero_le _
        · exact eL [] _ _ (by refine ⟨?_, ?_⟩ <;> (repeat' first | exact List.forall_mem_nil _ | refine List.forall_mem_cons.2 ⟨(by first | rfl | (simp (disch := omega) only [go_sem, simprocAttr, inL, List.take_zero, List.map_nil]; first | done | omega | (congr 1; done))), ?_⟩); done)
        · intro k hk
          have hlk : (((ls.set p o).take k).map intsD).length = k := by rw [List.length_map, List.length_take, List.length_set]; omega
          have htk : List.take k (((ls.set p o).take k).map intsD) = ((ls.set p o).take k).map intsD := List.take_of_length_le (by rw [hlk]; exact Nat.le_refl _)
          rcases Nat.lt_or_ge k ls.length with hlt | hge
          · obtain ⟨q, hq⟩ := get_some hlt
            by_cases hkp : k = p
            · subst hkp
              have hts := take_snoc (l := ls.set k o) (k := k) (x := o) (by rw [List.getElem?_set, if_pos rfl, if_pos hlt])
              repeat' first
                | refine pw_seq ?_
                | refine pw_skip ?_
                | refine pw_ret ?_
                | refine pw_exit ?_
                | refine pw_block ?_
                | refine pw_region (fun _ => false) hmix ?_
                | (refine wpG_split rfl rfl (fun hc => ?_) (fun hc => ?_) <;> try simp only [hcL, reduceCtorEq] at hc)
                | (refine pw_cond _ rfl rfl (fun hc => ?_) (fun hc => ?_) <;> (try simp only [hcL, reduceCtorEq] at hc) <;> try (exfalso; omega))
                | simp (maxSteps := 1000000) (disch := omega) only [go_sem, simprocAttr, hq, hlk, roomy]
                | apply And.intro
                | omega
                | decide +kernel
              refine ⟨k + 1, ?_, eL [(901, 67)] _ _ (by refine ⟨?_, ?_⟩ <;> (repeat' first | exact List.forall_mem_nil _ | refine List.forall_mem_cons.2 ⟨(by first | rfl | (simp (disch := omega) only [go_sem, simprocAttr, inL, hts, List.map_append, htk]; first | done | omega | (congr 1; done))), ?_⟩); done), ?_⟩
              · omega
              · omega
            · have hts := take_snoc (l := ls.set p o) (k := k) (x := q) (by rw [List.getElem?_set, if_neg (by omega), hq])
              have hkp2 : ¬ (k : Int) = p := by omega
              repeat' first
                | refine pw_seq ?_
                | refine pw_skip ?_
                | refine pw_ret ?_
                | refine pw_exit ?_
                | refine pw_block ?_
                | refine pw_region (fun _ => false) hmix ?_
                | (refine wpG_split rfl rfl (fun hc => ?_) (fun hc => ?_) <;> try simp only [hcL, reduceCtorEq] at hc)
                | (refine pw_cond _ rfl rfl (fun hc => ?_) (fun hc => ?_) <;> (try simp only [hcL, reduceCtorEq] at hc) <;> try (exfalso; omega))
                | simp (maxSteps := 1000000) (disch := omega) only [go_sem, simprocAttr, hq, hlk, roomy, hkp2]
                | apply And.intro
                | omega
                | decide +kernel
              refine ⟨k + 1, ?_, eL [(901, 77)] _ _ (by refine ⟨?_, ?_⟩ <;> (repeat' first | exact List.forall_mem_nil _ | refine List.forall_mem_cons.2 ⟨(by first | rfl | (simp (disch := omega) only [go_sem, simprocAttr, inL, hts, List.map_append, htk]; first | done | omega | (congr 1; done))), ?_⟩); done), ?_⟩
              · omega
              · omega
          · have : k = ls.length := by omega
            subst this
            repeat' first
              | refine pw_seq ?_
              | refine pw_skip ?_
              | refine pw_ret ?_
              | refine pw_exit ?_
              | refine pw_block ?_
              | refine pw_region (fun _ => false) hmix ?_
              | (refine wpG_split rfl rfl (fun hc => ?_) (fun hc => ?_) <;> try simp only [hcL, reduceCtorEq] at hc)
              | (refine pw_cond _ rfl rfl (fun hc => ?_) (fun hc => ?_) <;> (try simp only [hcL, reduceCtorEq] at hc) <;> try (exfalso; omega))
              | simp (maxSteps := 1000000) (disch := omega) only [go_sem, simprocAttr]
              | apply And.intro
              | omega
              | decide +kernel
            refine ⟨_, rfl, ⟨_, _, _, _, rfl, ?_⟩, int_some rfl, trivial⟩
            have htl : (ls.set p o).take ls.length = ls.set p o := List.take_of_length_le (by rw [List.length_set]; exact Nat.le_refl _)
            simp (maxSteps := 1000000) (disch := omega) only [go_sem, simprocAttr, toD, htl, List.length_map, List.length_set, Nat.le_refl, List.drop_zero]
            rw [List.take_of_length_le (by rw [List.length_map, List.length_set]; exact Nat.le_refl _)]
      · rw [if_pos (by simpa using hso)]
        rw [decide_eq_false hso] at he
        by_cases hlen : o.length = y.length
        all_goals
          refine callsTo_of Try.func59 rfl (by decide +kernel) (Nat.le_of_ble_eq_true rfl) ?_
          intro hat B X w0
          have hol := at_len 2 hat rfl
          rw [List.length_map] at hol
          repeat' first
            | refine pw_seq ?_
            | refine pw_skip ?_
            | refine pw_ret ?_
            | refine pw_exit ?_
            | refine pw_block ?_
            | refine pw_region (fun _ => false) hmix ?_
            | (refine rc (hv) rfl ?_ ?_; (· first | rfl | (simp (disch := omega) only [go_sem, simprocAttr, List.append_eq, hy, hlen]; done)))
            | (refine rc (hs1) rfl ?_ ?_; (· first | rfl | (simp (disch := omega) only [go_sem, simprocAttr, List.append_eq, hy, hlen]; done)))
            | (refine rc (hs2) rfl ?_ ?_; (· first | rfl | (simp (disch := omega) only [go_sem, simprocAttr, List.append_eq, hy, hlen]; done)))
            | (refine rc (he) rfl ?_ ?_; (· first | rfl | (simp (disch := omega) only [go_sem, simprocAttr, List.append_eq, hy, hlen]; done)))
            | (refine wpG_split rfl rfl (fun hc => ?_) (fun hc => ?_) <;> try simp only [hcL, reduceCtorEq] at hc)
            | (refine pw_cond _ rfl rfl (fun hc => ?_) (fun hc => ?_) <;> (try simp only [hcL, reduceCtorEq] at hc) <;> try (exfalso; omega))
            | simp (maxSteps := 1000000) (disch := omega) only [go_sem, simprocAttr, List.append_eq, hy, hlen]
            | apply And.intro
            | omega
            | decide +kernel
          all_goals
            refine ⟨_, rfl, ⟨_, _, _, _, rfl, ?_⟩, int_some ?_, trivial⟩
            · simp (maxSteps := 1000000) (disch := omega) only [go_sem, simprocAttr, toD]
              rfl
            · rfl
/-- Validity does not hang on the order in the layers. -/
theorem valid_sort {a b : Lv} (h : sortLv a = sortLv b) : validF a = validF b := by
  obtain ⟨n, ls, ar, cs⟩ := a
  obtain ⟨n', ls', ar', cs'⟩ := b
  simp only [sortLv, Prod.mk.injEq] at h
  obtain ⟨rfl, h, rfl, rfl⟩ := h
  have hlay : ∀ v, layI ls v = layI ls' v := fun v => by rw [← sort_lay, h, sort_lay]
  have hlen : ls.length = ls'.length := by rw [← List.length_map (f := sortL), h, List.length_map]
  simp only [validF, headOk, foundOk, srcG, ranksV, lostV, sortLv, hlay, hlen, h]
  have e : ∀ w : Nat → Bool, w = w := fun _ => rfl
  congr 3
  · congr 1
    congr 1
    funext v
    simp only [lostV, hlay]
theorem reorder_sort {a : Lv} {i : Nat} {o y : List Int} (hy : a.2.1[i]? = some y) (h : sortL o = sortL y) : sortLv (a.1, a.2.1.set i o, a.2.2.1, a.2.2.2) = sortLv a := by
  simp only [sortLv, List.map_set, h]
  congr 2
  refine List.ext_getElem? fun u => ?_
  rw [List.getElem?_set]
  split
  · subst i
    rw [List.getElem?_map, hy]
    split
    · rfl
    · rename_i hn
      rw [List.length_map] at hn
      exact absurd (List.getElem?_eq_some_iff.1 hy).1 hn
  · rfl
theorem reorder_valid {a : Lv} {i : Int} {o : List Int} (h : (reorderF a i o).2 = 0) : validF (reorderF a i o).1 = true := by
  rw [reorderF] at h ⊢
  split at h
  · cases h
  · rename_i h1
    split at h
    · cases h
    · rename_i h2
      split at h
      · cases h
      · rename_i h3
        rw [if_neg h1, if_neg h2, if_neg h3]
        obtain ⟨y, hy⟩ := get_some (l := a.2.1) (k := i.toNat) (by omega)
        rw [hy, Option.getD_some] at h3
        rw [valid_sort (reorder_sort hy (Decidable.not_not.1 h3))]
        simpa using h1
theorem reorder_wide {a : Lv} {i : Int} {o : List Int} (hw : wide a) (ho : o.length ≤ 600) : wide (reorderF a i o).1 := by
  rw [reorderF]
  split
  · intro y hy; cases hy
  · split
    · intro y hy; cases hy
    · split
      · intro y hy; cases hy
      · intro y hy
        rcases List.mem_or_eq_of_mem_set hy with hy | rfl
        · exact hw y hy
        · omega
end Go.Proofs.Ytelghbnlceeecaa
namespace Go.Proofs.Ytelghbnlceeecaa
open Go Go.PS Go.Proofs
set_option maxRecDepth 100000
set_option linter.unusedSimpArgs false
set_option linter.unusedVariables false
attribute [local irreducible] wpRun wpG CallsTo CallsM

theorem at0_left {l m : List Int} {n : Nat} (h : n < l.length) : at0 (l ++ m) n = at0 l n := by
  rw [at0, at0, Int.toNat_natCast, List.getElem?_append_left h]
theorem allR_pre (r : List Int) (l : List Arc) {e m : Nat} (h : e ≤ m) : ∃ x, allR r l m = allR r l e ++ x := by
  refine ⟨((l.drop e).take (m - e)).flatMap fun a => news r a (gapN r a), ?_⟩
  rw [allR, allR, List.append_assoc, ← List.flatMap_append]
  congr 2
  obtain ⟨k, rfl⟩ : ∃ k, m = e + k := ⟨m - e, by omega⟩
  rw [List.take_add, Nat.add_sub_cancel_left]
theorem arcsF_pre (r : List Int) (l : List Arc) (e : Nat) : ∀ k, ∃ x, arcsF r l (e + k) = arcsF r l e ++ x
  | 0 => ⟨[], by simp⟩
  | k + 1 => by
    obtain ⟨x, hx⟩ := arcsF_pre r l e k
    refine ⟨x ++ arcsAt r l (e + k), ?_⟩
    rw [← List.append_assoc, ← hx]; rfl
theorem arcsF_succ {r : List Int} {l : List Arc} {e : Nat} {a : Arc} (ha : l[e]? = some a) : arcsF r l (e + 1) = arcsF r l e ++ pairsN (chainOf r (allR r l e).length a) (gapN r a + 1) := by
  rw [arcsF, catN, arcsAt, ha]; rfl
/-- Arc j of chain e. -/
theorem arcsF_get {r : List Int} {l : List Arc} {e j : Nat} {a : Arc} (ha : l[e]? = some a) (hj : j < gapN r a + 1) : (arcsF r l l.length)[(arcsF r l e).length + j]? = some (pairAt (chainOf r (allR r l e).length a) j) := by
  have hel := (List.getElem?_eq_some_iff.1 ha).1
  obtain ⟨x, hx⟩ := arcsF_pre r l (e + 1) (l.length - (e + 1))
  rw [show e + 1 + (l.length - (e + 1)) = l.length by omega] at hx
  have hp : (pairsN (chainOf r (allR r l e).length a) (gapN r a + 1))[j]? = some (pairAt (chainOf r (allR r l e).length a) j) := by simp [pairsN, hj]
  rw [hx, arcsF_succ ha, List.append_assoc, List.getElem?_append_right (by omega), Nat.add_sub_cancel_left, List.getElem?_append_left (by rw [pairsN_len]; exact hj), hp]
theorem chainOf_first (r : List Int) (n0 : Nat) (a : Arc) : at0 (chainOf r n0 a) ((0 : Nat) : Int) = a.1 := rfl
theorem chainOf_mid {r : List Int} {n0 : Nat} {a : Arc} {j : Nat} (h : j < gapN r a) : at0 (chainOf r n0 a) ((j + 1 : Nat) : Int) = ((n0 + j : Nat) : Int) := by
  rw [chainOf, at0_left (by rw [chainUp_len]; omega), at0, Int.toNat_natCast, chainUp, List.getElem?_cons_succ]
  simp [h]
theorem chainOf_last (r : List Int) (n0 : Nat) (a : Arc) : at0 (chainOf r n0 a) ((gapN r a + 1 : Nat) : Int) = a.2 := by
  rw [at0, Int.toNat_natCast, chainOf, List.getElem?_append_right (by rw [chainUp_len]; exact Nat.le_refl _), chainUp_len, Nat.sub_self]; rfl
namespace Built
variable {g : Gr} {r : List Int}
/-- The vertices of a chain, and their ranks. -/
theorem chain_at (b : Built g r) {e j : Nat} {a : Arc} (ha : g.2[e]? = some a) (hj : j ≤ gapN r a + 1) :
    0 ≤ at0 (chainOf r (allR r g.2 e).length a) j ∧ at0 (chainOf r (allR r g.2 e).length a) j < (allR r g.2 g.2.length).length ∧ at0 (allR r g.2 g.2.length) (at0 (chainOf r (allR r g.2 e).length a) j) = at0 r a.1 + j := by
  have hel := (List.getElem?_eq_some_iff.1 ha).1
  have he := b.ends ha
  have hg := b.gap e a ha
  have hl := b.len
  have hge := b.all_ge
  obtain ⟨x, hx⟩ := allR_pre r g.2 (show 0 ≤ g.2.length by omega)
  have h0 : allR r g.2 0 = r := by simp [allR]
  rw [h0] at hx
  have hpre : ∀ v : Int, 0 ≤ v → v < g.1 → at0 (allR r g.2 g.2.length) v = at0 r v := fun v h1 h2 => by
    obtain ⟨n, rfl⟩ : ∃ n : Nat, v = n := ⟨v.toNat, by omega⟩
    rw [hx, at0_left (by omega)]
  rcases Nat.eq_zero_or_pos j with rfl | h1
  · rw [chainOf_first, hpre _ he.1 he.2.1]
    omega
  · obtain ⟨j, rfl⟩ : ∃ i, j = i + 1 := ⟨j - 1, by omega⟩
    rcases Nat.lt_or_ge j (gapN r a) with h2 | h2
    · rw [chainOf_mid h2]
      obtain ⟨y, hy⟩ := allR_pre r g.2 (show e + 1 ≤ g.2.length by omega)
      rw [allR_succ ha] at hy
      have hlen := congrArg List.length hy
      simp only [List.length_append, news_len] at hlen
      refine ⟨by omega, by omega, ?_⟩
      rw [hy, at0_left (by rw [List.length_append, news_len]; omega), at0, Int.toNat_natCast, List.getElem?_append_right (by omega), Nat.add_sub_cancel_left]
      simp only [news, List.getElem?_map, List.getElem?_range h2, Option.map_some, Option.getD_some]
      omega
    · have hj2 : j = gapN r a := by omega
      subst hj2
      rw [chainOf_last, hpre _ he.2.2.1 he.2.2.2]
      have hgn : (gapN r a : Int) = at0 r a.2 - at0 r a.1 - 1 := by rw [gapN]; omega
      omega
end Built
end Go.Proofs.Ytelghbnlceeecaa
namespace Go.Proofs.Ytelghbnlceeecaa
open Go Go.PS Go.Proofs
set_option maxRecDepth 100000
set_option linter.unusedSimpArgs false
set_option linter.unusedVariables false
attribute [local irreducible] wpRun wpG CallsTo CallsM

theorem getM_put (m : List (Int × Int)) (k v u : Int) : getM (putM m k v) u = if k = u then v else getM m u := by
  induction m with
  | nil => simp only [putM, getM]
  | cons p m ih =>
    obtain ⟨a, b⟩ := p
    simp only [putM]
    by_cases h : a = k
    · rw [if_pos h]
      simp only [getM]
      by_cases h2 : k = u
      · rw [if_pos h2, if_pos h2]
      · rw [if_neg h2, if_neg h2, if_neg (by rw [h]; exact h2)]
    · rw [if_neg h]
      simp only [getM, ih]
      by_cases h2 : a = u
      · rw [if_pos h2, if_neg (by omega)]
        simp [h2]
      · rw [if_neg h2]; simp [h2]
/-- A map that is filled layer by layer. -/
def rowM (m : List (Int × Int)) (y : List Int) (g : Nat → Int) : Nat → List (Int × Int)
  | 0 => m
  | k + 1 => putM (rowM m y g k) (at0 y k) (g k)
def allM (h : Nat → Nat → Int) (ls : List (List Int)) : Nat → List (Int × Int)
  | 0 => []
  | i + 1 => rowM (allM h ls i) ((ls[i]?).getD []) (h i) (((ls[i]?).getD []).length)
def plM (ls : List (List Int)) : List (Int × Int) := allM (fun _ k => k) ls ls.length
def lyM (ls : List (List Int)) : List (Int × Int) := allM (fun i _ => i) ls ls.length
theorem idxOf_at : ∀ {y : List Int} {k : Nat} {v : Int}, y.Nodup → y[k]? = some v → y.idxOf v = k
  | [], k, v, _, h => by simp at h
  | a :: y, 0, v, _, h => by simp at h; subst h; simp
  | a :: y, k + 1, v, hn, h => by
    have hn2 := List.nodup_cons.1 hn
    have h2 : y[k]? = some v := by simpa using h
    have hne : a ≠ v := fun e => hn2.1 (e ▸ List.mem_of_getElem? h2)
    have ih := idxOf_at hn2.2 h2
    have hb : (a == v) = false := by simpa using hne
    simp [List.idxOf_cons, hb, ih]
theorem getM_row (m : List (Int × Int)) (y : List Int) (g : Nat → Int) (u : Int) : ∀ k, k ≤ y.length → y.Nodup → getM (rowM m y g k) u = if u ∈ y.take k then g (y.idxOf u) else getM m u
  | 0, _, _ => by simp [rowM]
  | k + 1, h, hn => by
    have hk := at0_at (r := y) (i := k) (by omega)
    have hi : y.idxOf (at0 y k) = k := idxOf_at hn hk
    rw [rowM, getM_put, getM_row m y g u k (by omega) hn, take_snoc hk]
    simp only [List.mem_append, List.mem_singleton]
    by_cases c : at0 y k = u
    · rw [if_pos c, if_pos (.inr c.symm), ← c, hi]
    · rw [if_neg c]
      by_cases c2 : u ∈ y.take k
      · rw [if_pos c2, if_pos (.inl c2)]
      · rw [if_neg c2, if_neg (by rintro (h1 | h1); exact c2 h1; exact c h1.symm)]
theorem getM_all (h : Nat → Nat → Int) (ls : List (List Int)) (hn : ls.flatten.Nodup) (u : Int) : ∀ i, i ≤ ls.length → (∀ k y, k < i → ls[k]? = some y → u ∈ y → getM (allM h ls i) u = h k (y.idxOf u)) ∧ (u ∉ (ls.take i).flatten → getM (allM h ls i) u = 0)
  | 0, _ => ⟨fun k y hk => by omega, fun _ => rfl⟩
  | i + 1, hi => by
    obtain ⟨y, hy⟩ := get_some (l := ls) (k := i) (by omega)
    obtain ⟨g1, g2⟩ := getM_all h ls hn u i (by omega)
    have hsub : ∀ z, z ∈ ls → z.Nodup := fun z hz => (List.pairwise_flatten.1 hn).1 z hz
    have hyn := hsub y (List.mem_of_getElem? hy)
    have hr := getM_row (allM h ls i) y (h i) u y.length (Nat.le_refl _) hyn
    rw [List.take_length] at hr
    have ha : allM h ls (i + 1) = rowM (allM h ls i) y (h i) y.length := by rw [allM, hy]; rfl
    rw [ha, hr]
    refine ⟨fun k z hk hz hu => ?_, fun hu => ?_⟩
    · rcases Nat.lt_succ_iff_lt_or_eq.1 hk with h1 | rfl
      · have hd := List.pairwise_iff_getElem.1 (List.pairwise_flatten.1 hn).2 k i (List.getElem?_eq_some_iff.1 hz).1 (List.getElem?_eq_some_iff.1 hy).1 h1
        have e1 := (List.getElem?_eq_some_iff.1 hz).2
        have e2 := (List.getElem?_eq_some_iff.1 hy).2
        rw [e1, e2] at hd
        rw [if_neg (fun hu2 => hd u hu u hu2 rfl)]
        exact g1 k z h1 hz hu
      · rw [hy] at hz; cases hz
        rw [if_pos hu]
    · rw [take_snoc hy, List.flatten_append, List.mem_append] at hu
      rw [if_neg (fun hu2 => hu (.inr (by simpa using hu2)))]
      exact g2 fun hu2 => hu (.inl hu2)
set_option maxHeartbeats 4000000 in
theorem places_spec (a : Lv) (hn : a.2.1.length ≤ 1000) (hl : ∀ y, y ∈ a.2.1 → y.length ≤ 1000) : CallsM Try.prog 121 [.d (lvD a)] [(2000, .dead), (2001, .dead)] (.tup [.mp 2000, .mp 2001]) [(2000, .imap (plM a.2.1)), (2001, .imap (lyM a.2.1))] := by
  obtain ⟨n, ls, ar, cs⟩ := a
  dsimp only at hn hl
  refine callsM_of Try.func121 rfl (by decide +kernel) (Nat.le_of_ble_eq_true rfl) rfl (nodup_of rfl) rfl rfl rfl ?_
  intro B X w0
  repeat' first
    | refine pw_seq ?_
    | refine pw_skip ?_
    | refine pw_ret ?_
    | refine pw_exit ?_
    | refine pw_block ?_
    | refine pw_region (fun _ => false) hmix ?_
    | (refine wpG_split rfl rfl (fun hc => ?_) (fun hc => ?_) <;> try simp only [hcL, reduceCtorEq] at hc)
    | (refine pw_cond _ rfl rfl (fun hc => ?_) (fun hc => ?_) <;> (try simp only [hcL, reduceCtorEq] at hc) <;> try (exfalso; omega))
    | simp (maxSteps := 1000000) (disch := omega) only [go_sem, simprocAttr]
    | apply And.intro
    | omega
    | decide +kernel
  refine pw_loopI (κ := Nat) (fun (i : Nat) => i ≤ ls.length) (fun (i : Nat) => [(1, .ptr 1 0 0 0), (2, .mp 8), (3, .mp 9), (11, .d (listsD ls)), (12, .int ls.length), (13, .int i)]) (fun (i : Nat) => [(1, .cells [.int n, .d (listsD ls), .d (arcsD ar), .d (listsD cs)]), (8, .imap (allM (fun _ k => k) ls i)), (9, .imap (allM (fun i _ => i) ls i))]) (fun (i : Nat) => ls.length - i) 0 ?_ ?_ ?_
  · exact Nat.zero_le _
  · exact eL [] _ _ (by refine ⟨?_, ?_⟩ <;> (repeat' first | exact List.forall_mem_nil _ | refine List.forall_mem_cons.2 ⟨(by first | rfl | (simp (disch := omega) only [go_sem, simprocAttr, inL, allM]; first | done | omega | (congr 1; done))), ?_⟩); done)
  · intro i hi
    rcases Nat.lt_or_ge i ls.length with hlt | hge
    · obtain ⟨y, hy⟩ := get_some hlt
      have hyl := hl y (List.mem_of_getElem? hy)
      have e1 : allM (fun _ k => (k : Int)) ls (i + 1) = rowM (allM (fun _ k => (k : Int)) ls i) y (fun k => (k : Int)) y.length := by rw [allM, hy]; rfl
      have e2 : allM (fun i _ => (i : Int)) ls (i + 1) = rowM (allM (fun i _ => (i : Int)) ls i) y (fun _ => (i : Int)) y.length := by rw [allM, hy]; rfl
      repeat' first
        | refine pw_seq ?_
        | refine pw_skip ?_
        | refine pw_ret ?_
        | refine pw_exit ?_
        | refine pw_block ?_
        | refine pw_region (fun _ => false) hmix ?_
        | (refine wpG_split rfl rfl (fun hc => ?_) (fun hc => ?_) <;> try simp only [hcL, reduceCtorEq] at hc)
        | (refine pw_cond _ rfl rfl (fun hc => ?_) (fun hc => ?_) <;> (try simp only [hcL, reduceCtorEq] at hc) <;> try (exfalso; omega))
        | simp (maxSteps := 1000000) (disch := omega) only [go_sem, simprocAttr, hy]
        | apply And.intro
        | omega
        | decide +kernel
      refine pw_loopI (κ := Nat) (fun (k : Nat) => k ≤ y.length) (fun (k : Nat) => [(1, .ptr 1 0 0 0), (2, .mp 8), (3, .mp 9), (4, .int i), (11, .d (listsD ls)), (12, .int ls.length), (13, .int i), (18, .d (intsD y)), (19, .int y.length), (20, .int k)]) (fun (k : Nat) => [(1, .cells [.int n, .d (listsD ls), .d (arcsD ar), .d (listsD cs)]), (8, .imap (rowM (allM (fun _ k => k) ls i) y (fun k => (k : Int)) k)), (9, .imap (rowM (allM (fun i _ => i) ls i) y (fun _ => (i : Int)) k))]) (fun (k : Nat) => y.length - k) 0 ?_ ?_ ?_
      · exact Nat.zero_le _
      · exact eL [] _ _ (by refine ⟨?_, ?_⟩ <;> (repeat' first | exact List.forall_mem_nil _ | refine List.forall_mem_cons.2 ⟨(by first | rfl | (simp (disch := omega) only [go_sem, simprocAttr, inL, rowM]; first | done | omega | (congr 1; done))), ?_⟩); done)
      · intro k hk
        rcases Nat.lt_or_ge k y.length with hlk | hgk
        · have gy := at0_at hlk
          repeat' first
            | refine pw_seq ?_
            | refine pw_skip ?_
            | refine pw_ret ?_
            | refine pw_exit ?_
            | refine pw_block ?_
            | refine pw_region (fun _ => false) hmix ?_
            | (refine wpG_split rfl rfl (fun hc => ?_) (fun hc => ?_) <;> try simp only [hcL, reduceCtorEq] at hc)
            | (refine pw_cond _ rfl rfl (fun hc => ?_) (fun hc => ?_) <;> (try simp only [hcL, reduceCtorEq] at hc) <;> try (exfalso; omega))
            | simp (maxSteps := 1000000) (disch := omega) only [go_sem, simprocAttr, gy]
            | apply And.intro
            | omega
            | decide +kernel
          refine ⟨k + 1, ?_, eL [] _ _ (by refine ⟨?_, ?_⟩ <;> (repeat' first | exact List.forall_mem_nil _ | refine List.forall_mem_cons.2 ⟨(by first | rfl | (simp (disch := omega) only [go_sem, simprocAttr, inL, rowM]; first | done | omega | (congr 1; done))), ?_⟩); done), ?_⟩
          · omega
          · omega
        · have : k = y.length := by omega
          subst this
          repeat' first
            | refine pw_seq ?_
            | refine pw_skip ?_
            | refine pw_ret ?_
            | refine pw_exit ?_
            | refine pw_block ?_
            | refine pw_region (fun _ => false) hmix ?_
            | (refine wpG_split rfl rfl (fun hc => ?_) (fun hc => ?_) <;> try simp only [hcL, reduceCtorEq] at hc)
            | (refine pw_cond _ rfl rfl (fun hc => ?_) (fun hc => ?_) <;> (try simp only [hcL, reduceCtorEq] at hc) <;> try (exfalso; omega))
            | simp (maxSteps := 1000000) (disch := omega) only [go_sem, simprocAttr]
            | apply And.intro
            | omega
            | decide +kernel
          refine ⟨i + 1, ?_, eL [] _ _ (by refine ⟨?_, ?_⟩ <;> (repeat' first | exact List.forall_mem_nil _ | refine List.forall_mem_cons.2 ⟨(by first | rfl | (simp (disch := omega) only [go_sem, simprocAttr, inL, e1, e2]; first | done | omega | (congr 1; done))), ?_⟩); done), ?_⟩
          · omega
          · omega
    · have : i = ls.length := by omega
      subst this
      repeat' first
        | refine pw_seq ?_
        | refine pw_skip ?_
        | refine pw_exit ?_
        | refine pw_block ?_
        | refine pw_region (fun _ => false) hmix ?_
        | (refine wpG_split rfl rfl (fun hc => ?_) (fun hc => ?_) <;> try simp only [hcL, reduceCtorEq] at hc)
        | (refine pw_cond _ rfl rfl (fun hc => ?_) (fun hc => ?_) <;> (try simp only [hcL, reduceCtorEq] at hc) <;> try (exfalso; omega))
        | simp (maxSteps := 1000000) (disch := omega) only [go_sem, simprocAttr]
        | apply And.intro
        | omega
        | decide +kernel
      refine eR [(2000, 8), (2001, 9)] [(2, .mp 2000), (3, .mp 2001)] [(2000, .imap (plM ls)), (2001, .imap (lyM ls))] (by refine ⟨?_, ?_⟩ <;> (repeat' first | exact List.forall_mem_nil _ | refine List.forall_mem_cons.2 ⟨(by first | rfl | (simp (disch := omega) only [go_sem, simprocAttr, inL]; first | done | omega | (congr 1; done))), ?_⟩); done) ?_
      refine pw_ret ?_
      exact ⟨⟨_, rfl, rfl, rfl, trivial⟩, List.forall_mem_cons.2 ⟨rfl, List.forall_mem_cons.2 ⟨rfl, List.forall_mem_nil _⟩⟩⟩
end Go.Proofs.Ytelghbnlceeecaa
namespace Go.Proofs.Ytelghbnlceeecaa
open Go Go.PS Go.Proofs
set_option maxRecDepth 100000
set_option linter.unusedSimpArgs false
set_option linter.unusedVariables false
attribute [local irreducible] wpRun wpG CallsTo CallsM

/-- Vertex v lies in layer r, at place p. -/
def Lies (ls : List (List Int)) (v : Int) (r p : Nat) : Prop := ∃ y, ls[r]? = some y ∧ y[p]? = some v
theorem lies_of {ls : List (List Int)} {v : Int} (h : v ∈ ls.flatten) : ∃ r p, Lies ls v r p := by
  obtain ⟨y, hy, hv⟩ := List.mem_flatten.1 h
  obtain ⟨r, hr⟩ := List.getElem?_of_mem hy
  obtain ⟨p, hp⟩ := List.getElem?_of_mem hv
  exact ⟨r, p, y, hr, hp⟩
theorem Lies.mem {ls : List (List Int)} {v : Int} {r p : Nat} (h : Lies ls v r p) : v ∈ ls.flatten := by
  obtain ⟨y, h1, h2⟩ := h
  exact List.mem_flatten.2 ⟨y, List.mem_of_getElem? h1, List.mem_of_getElem? h2⟩
theorem Lies.idx {ls : List (List Int)} (hn : ls.flatten.Nodup) {v : Int} {r p : Nat} {y : List Int} (hy : ls[r]? = some y) (h : y[p]? = some v) : y.idxOf v = p := by
  have hyn := (List.pairwise_flatten.1 hn).1 y (List.mem_of_getElem? hy)
  exact idxOf_at hyn h
theorem Lies.layer {ls : List (List Int)} (hn : ls.flatten.Nodup) {v : Int} {r p r' p' : Nat} (h : Lies ls v r p) (h' : Lies ls v r' p') : r = r' := by
  obtain ⟨y, h1, h2⟩ := h
  obtain ⟨z, h3, h4⟩ := h'
  have e1 := List.getElem?_eq_some_iff.1 h1
  have e2 := List.getElem?_eq_some_iff.1 h3
  have hp := (List.pairwise_flatten.1 hn).2
  rcases Nat.lt_trichotomy r r' with h | h | h
  · have := List.pairwise_iff_getElem.1 hp r r' e1.1 e2.1 h
    rw [e1.2, e2.2] at this
    exact absurd rfl (this v (List.mem_of_getElem? h2) v (List.mem_of_getElem? h4))
  · exact h
  · have := List.pairwise_iff_getElem.1 hp r' r e2.1 e1.1 h
    rw [e1.2, e2.2] at this
    exact absurd rfl (this v (List.mem_of_getElem? h4) v (List.mem_of_getElem? h2))
theorem Lies.place {ls : List (List Int)} (hn : ls.flatten.Nodup) {v : Int} {r p p' : Nat} (h : Lies ls v r p) (h' : Lies ls v r p') : p = p' := by
  obtain ⟨y, h1, h2⟩ := h
  obtain ⟨z, h3, h4⟩ := h'
  rw [h1] at h3; cases h3
  rw [← Lies.idx hn h1 h2, ← Lies.idx hn h1 h4]
theorem Lies.ly {ls : List (List Int)} (hn : ls.flatten.Nodup) {v : Int} {r p : Nat} (h : Lies ls v r p) : getM (lyM ls) v = r := by
  obtain ⟨y, h1, h2⟩ := h
  exact (getM_all _ ls hn v ls.length (Nat.le_refl _)).1 r y (List.getElem?_eq_some_iff.1 h1).1 h1 (List.mem_of_getElem? h2)
theorem Lies.pl {ls : List (List Int)} (hn : ls.flatten.Nodup) {v : Int} {r p : Nat} (h : Lies ls v r p) : getM (plM ls) v = p := by
  obtain ⟨y, h1, h2⟩ := h
  rw [plM, (getM_all _ ls hn v ls.length (Nat.le_refl _)).1 r y (List.getElem?_eq_some_iff.1 h1).1 h1 (List.mem_of_getElem? h2), Lies.idx hn h1 h2]
theorem Lies.lay {ls : List (List Int)} (hn : ls.flatten.Nodup) {v : Int} {r p : Nat} (h : Lies ls v r p) : layI ls v = r := by
  have h0 := layI_mem.2 h.mem
  have hd := h
  obtain ⟨y, h1, h2⟩ := h
  rw [layI] at h0 ⊢
  cases hf : ls.findIdx? (fun y => y.any fun x => decide (x = v)) with
  | none => rw [hf] at h0; exact absurd h0 (by decide)
  | some k =>
    have hk := List.findIdx?_eq_some_iff_getElem.1 hf
    obtain ⟨hk1, hk2, _⟩ := hk
    obtain ⟨x, hx, hxv⟩ := List.any_eq_true.1 hk2
    have : x = v := by simpa using hxv
    subst this
    obtain ⟨p', hp'⟩ := List.getElem?_of_mem hx
    have := Lies.layer hn hd (⟨ls[k], List.getElem?_eq_getElem hk1, hp'⟩ : Lies ls x k p')
    rw [this]; rfl
/-- The ends of an arc of valid levels. -/
structure Joins (ls : List (List Int)) (x : Arc) (r p q : Nat) : Prop where
  up : Lies ls x.1 r p
  dn : Lies ls x.2 (r + 1) q
theorem valid_nodup {a : Lv} (h : validF a = true) : a.2.1.flatten.Nodup := by
  obtain ⟨_, _, hr⟩ := valid_built h
  obtain ⟨_, _, hg, _⟩ := ranks_ok hr
  exact (good_iff.1 hg).2
theorem valid_joins {a : Lv} (h : validF a = true) {k : Nat} {x : Arc} (hx : a.2.2.1[k]? = some x) : ∃ r p q, Joins a.2.1 x r p q := by
  have hn := valid_nodup h
  obtain ⟨b, hm, hr⟩ := valid_built h
  obtain ⟨_, _, hg, ho⟩ := ranks_ok hr
  have har : a.2.2.1 = arcsF (ranksV a) (srcG a).2 (srcG a).2.length := congrArg (fun x : Lv => x.2.2.1) hm
  -- an arc of chain e
  have hmem : ∀ m, m ≤ (srcG a).2.length → ∀ x, x ∈ arcsF (ranksV a) (srcG a).2 m → ∃ e c j, (srcG a).2[e]? = some c ∧ j < gapN (ranksV a) c + 1 ∧ x = pairAt (chainOf (ranksV a) (allR (ranksV a) (srcG a).2 e).length c) j := by
    intro m
    induction m with
    | zero => intro _ x hx; simp [arcsF, catN] at hx
    | succ m ih =>
      intro hm x hx
      obtain ⟨c, hc⟩ := get_some (l := (srcG a).2) (k := m) (by omega)
      rw [arcsF_succ hc, List.mem_append] at hx
      rcases hx with hx | hx
      · exact ih (by omega) x hx
      · simp only [pairsN, List.mem_map, List.mem_range] at hx
        obtain ⟨j, hj, rfl⟩ := hx
        exact ⟨m, c, j, hc, hj, rfl⟩
  obtain ⟨e, c, j, hc, hj, rfl⟩ := hmem _ (Nat.le_refl _) x (har ▸ List.mem_of_getElem? hx)
  obtain ⟨x1, x2, x3⟩ := b.chain_at hc (j := j) (by omega)
  obtain ⟨y1, y2, y3⟩ := b.chain_at hc (j := j + 1) (by omega)
  rw [pairAt]
  generalize at0 (chainOf (ranksV a) (allR (ranksV a) (srcG a).2 e).length c) j = u at x1 x2 x3 ⊢
  generalize at0 (chainOf (ranksV a) (allR (ranksV a) (srcG a).2 e).length c) ((j + 1 : Nat) : Int) = v at y1 y2 y3 ⊢
  have hlay : ∀ u : Int, 0 ≤ u → u < (allR (ranksV a) (srcG a).2 (srcG a).2.length).length → layI a.2.1 u = at0 (allR (ranksV a) (srcG a).2 (srcG a).2.length) u := by
    intro u h0 h1
    have hl : (allR (ranksV a) (srcG a).2 (srcG a).2.length).length = tot a.2.1 := by rw [ho, rowR_len]
    obtain ⟨n, rfl⟩ : ∃ n : Nat, u = n := ⟨u.toNat, by omega⟩
    have := rowR_get (c := tot a.2.1) (v := n) (by omega) a.2.1
    rw [← ho, at0_at (by omega), Option.some.injEq] at this
    exact this.symm
  have e1 := hlay u x1 x2
  have e2 := hlay v y1 y2
  have hrk := b.rk c.1.toNat
  have hin := b.ends hc
  rw [show ((c.1.toNat : Nat) : Int) = c.1 by omega] at hrk
  obtain ⟨r, p, hl1⟩ := lies_of (layI_mem.1 (show 0 ≤ layI a.2.1 u by omega))
  obtain ⟨r2, q, hl2⟩ := lies_of (layI_mem.1 (show 0 ≤ layI a.2.1 v by omega))
  have e3 := hl1.lay hn
  have e4 := hl2.lay hn
  have : r2 = r + 1 := by omega
  subst this
  exact ⟨r, p, q, hl1, hl2⟩
end Go.Proofs.Ytelghbnlceeecaa
namespace Go.Proofs.Ytelghbnlceeecaa
open Go Go.PS Go.Proofs

theorem valid_lay {a : Lv} (h : validF a = true) : ∀ u : Int, 0 ≤ u → u < (allR (ranksV a) (srcG a).2 (srcG a).2.length).length → layI a.2.1 u = at0 (allR (ranksV a) (srcG a).2 (srcG a).2.length) u := by
  obtain ⟨b, hm, hr⟩ := valid_built h
  obtain ⟨_, _, hg, ho⟩ := ranks_ok hr
  intro u h0 h1
  have hl : (allR (ranksV a) (srcG a).2 (srcG a).2.length).length = tot a.2.1 := by rw [ho, rowR_len]
  obtain ⟨n, rfl⟩ : ∃ n : Nat, u = n := ⟨u.toNat, by omega⟩
  have := rowR_get (c := tot a.2.1) (v := n) (by omega) a.2.1
  rw [← ho, at0_at (by omega), Option.some.injEq] at this
  exact this.symm
theorem valid_chain {a : Lv} (h : validF a = true) {e : Nat} {c : List Int} (hc : a.2.2.2[e]? = some c) :
    2 ≤ c.length ∧ 0 ≤ layI a.2.1 (at0 c ((0 : Nat) : Int)) ∧ ∀ i : Nat, i < c.length → 0 ≤ at0 c i ∧ at0 c i < tot a.2.1 ∧ layI a.2.1 (at0 c i) = layI a.2.1 (at0 c ((0 : Nat) : Int)) + i ∧ layI a.2.1 (at0 c i) < a.2.1.length := by
  have hlay := valid_lay h
  obtain ⟨b, hm, hr⟩ := valid_built h
  obtain ⟨_, _, hg, ho⟩ := ranks_ok hr
  have hl : (allR (ranksV a) (srcG a).2 (srcG a).2.length).length = tot a.2.1 := by rw [ho, rowR_len]
  have hcs : a.2.2.2 = chainsF (ranksV a) (srcG a).2 (srcG a).2.length := congrArg (fun x : Lv => x.2.2.2) hm
  rw [hcs] at hc
  have hel := (List.getElem?_eq_some_iff.1 hc).1
  rw [chainsF_len _ _ _ (Nat.le_refl _)] at hel
  obtain ⟨x, hx⟩ := get_some hel
  rw [chainsF_get hx _ hel (Nat.le_refl _), Option.some.injEq] at hc
  subst hc
  have hcl : (chainOf (ranksV a) (allR (ranksV a) (srcG a).2 e).length x).length = gapN (ranksV a) x + 2 := by
    rw [chainOf, List.length_append, chainUp_len]; rfl
  have c0 := b.chain_at hx (j := 0) (by omega)
  have hrk := b.rk x.1.toNat
  have hin := b.ends hx
  rw [show ((x.1.toNat : Nat) : Int) = x.1 by omega] at hrk
  have l0 := hlay _ c0.1 c0.2.1
  refine ⟨by omega, by omega, fun i hi => ?_⟩
  have ci := b.chain_at hx (j := i) (by omega)
  have li := hlay _ ci.1 ci.2.1
  have hmem := layI_mem.1 (show 0 ≤ layI a.2.1 (at0 (chainOf (ranksV a) (allR (ranksV a) (srcG a).2 e).length x) i) by omega)
  obtain ⟨r, p, hlie⟩ := lies_of hmem
  have e3 := hlie.lay (valid_nodup h)
  have hlt : r < a.2.1.length := by
    obtain ⟨y, hy, _⟩ := hlie
    exact (List.getElem?_eq_some_iff.1 hy).1
  exact ⟨ci.1, by omega, by omega, by omega⟩
end Go.Proofs.Ytelghbnlceeecaa
namespace Go.Proofs.Ytelghbnlceeecaa
open Go Go.PS Go.Proofs

abbrev Pn := Int × Int
/-- One point more, unless it is the last one again. -/
def stepP (out : List Pn) (p : Pn) : List Pn := if out.getLast? = some p then out else out ++ [p]
/-- The path after i vertices of a chain whose first vertex lies in layer k. -/
def pathN (c x t b : List Int) (k : Nat) : Nat → List Pn
  | 0 => []
  | i + 1 =>
    let o := if 0 < i then stepP (pathN c x t b k i) (at0 x (at0 c i), at0 t ((k + i : Nat) : Int)) else pathN c x t b k i
    if i + 1 < c.length then stepP o (at0 x (at0 c i), at0 b ((k + i : Nat) : Int)) else o
/-- A path that never goes up, without a point twice in a row. -/
def Down (l : List Pn) : Prop := ∀ (i : Nat) p q, l[i]? = some p → l[i + 1]? = some q → p.2 ≤ q.2 ∧ p ≠ q
theorem stepP_last (l : List Pn) (p : Pn) : (stepP l p).getLast? = some p := by
  unfold stepP
  split
  · assumption
  · simp
theorem stepP_head {l : List Pn} {p q : Pn} (h : l[0]? = some q) : (stepP l p)[0]? = some q := by
  unfold stepP
  split
  · exact h
  · rw [List.getElem?_append_left (List.getElem?_eq_some_iff.1 h).1]; exact h
theorem stepP_down {l : List Pn} {p q : Pn} (h : Down l) (hq : l.getLast? = some q) (hle : q.2 ≤ p.2) : Down (stepP l p) := by
  unfold stepP
  split
  · exact h
  · rename_i hne
    intro i u v hu hv
    rw [List.getElem?_append] at hu hv
    by_cases c : i + 1 < l.length
    · rw [if_pos (by omega)] at hu
      rw [if_pos c] at hv
      exact h i u v hu hv
    · have hi : i + 1 = l.length := by
        have := (List.getElem?_eq_some_iff.1 (show (l ++ [p])[i + 1]? = some v by rw [List.getElem?_append]; exact hv)).1
        simp at this; omega
      rw [if_pos (by omega)] at hu
      rw [if_neg c] at hv
      have e1 : l.getLast? = some u := by rw [List.getLast?_eq_getElem?, ← hu]; congr 1; omega
      have e2 : v = p := by
        rw [hi, Nat.sub_self] at hv
        cases hv; rfl
      rw [hq, Option.some.injEq] at e1
      subst e1
      subst e2
      exact ⟨hle, fun he => hne (by rw [hq, he])⟩
/-- The numbers of the layers are in order. -/
structure Ordered (t b : List Int) (n : Nat) : Prop where
  own : ∀ k, k < n → at0 t ((k : Nat) : Int) ≤ at0 b ((k : Nat) : Int)
  next : ∀ k, k + 1 < n → at0 b ((k : Nat) : Int) ≤ at0 t ((k + 1 : Nat) : Int)
theorem path_inv {c x t b : List Int} {k n : Nat} (ho : Ordered t b n) (hk : k + c.length ≤ n) (hc : 2 ≤ c.length) : ∀ i, i < c.length → 0 < i →
    Down (pathN c x t b k i) ∧ (pathN c x t b k i)[0]? = some (at0 x (at0 c ((0 : Nat) : Int)), at0 b (k : Int)) ∧ (pathN c x t b k i).getLast? = some (at0 x (at0 c ((i - 1 : Nat) : Int)), at0 b ((k + (i - 1) : Nat) : Int))
  | 0, _, h => absurd h (Nat.lt_irrefl 0)
  | 1, h, _ => by
    have e : pathN c x t b k 1 = [(at0 x (at0 c ((0 : Nat) : Int)), at0 b ((k + 0 : Nat) : Int))] := by
      simp only [pathN]
      rw [if_pos (by omega), if_neg (by omega), stepP, if_neg (by simp)]; rfl
    rw [e]
    refine ⟨fun i p q hp hq => ?_, rfl, rfl⟩
    simp at hq
  | i + 2, h, _ => by
    obtain ⟨h1, h2, h3⟩ := path_inv (x := x) ho hk hc (i + 1) (by omega) (by omega)
    have e : pathN c x t b k (i + 2) = stepP (stepP (pathN c x t b k (i + 1)) (at0 x (at0 c ((i + 1 : Nat) : Int)), at0 t ((k + (i + 1) : Nat) : Int))) (at0 x (at0 c ((i + 1 : Nat) : Int)), at0 b ((k + (i + 1) : Nat) : Int)) := by
      rw [pathN, if_pos (by omega), if_pos (by omega)]
    rw [e]
    have o1 := ho.own (k + (i + 1)) (by omega)
    have o2 := ho.next (k + i) (by omega)
    have d1 : Down (stepP (pathN c x t b k (i + 1)) (at0 x (at0 c ((i + 1 : Nat) : Int)), at0 t ((k + (i + 1) : Nat) : Int))) := stepP_down h1 h3 (by
      show at0 b ((k + (i + 1 - 1) : Nat) : Int) ≤ _
      rw [show k + (i + 1 - 1) = k + i by omega]; exact o2)
    exact ⟨stepP_down d1 (stepP_last _ _) o1, stepP_head (stepP_head h2), stepP_last _ _⟩
/-- What RouteDown asks of a path. -/
theorem path_down {c x t b : List Int} {k n : Nat} (ho : Ordered t b n) (hk : k + c.length ≤ n) (hc : 2 ≤ c.length) :
    Down (pathN c x t b k c.length) ∧ (pathN c x t b k c.length)[0]? = some (at0 x (at0 c ((0 : Nat) : Int)), at0 b (k : Int)) ∧
      (pathN c x t b k c.length).getLast? = some (at0 x (at0 c ((c.length - 1 : Nat) : Int)), at0 t ((k + (c.length - 1) : Nat) : Int)) := by
  obtain ⟨m, hm⟩ : ∃ m, c.length = m + 2 := ⟨c.length - 2, by omega⟩
  obtain ⟨h1, h2, h3⟩ := path_inv (x := x) ho hk hc (m + 1) (by omega) (by omega)
  have e : pathN c x t b k c.length = stepP (pathN c x t b k (m + 1)) (at0 x (at0 c ((m + 1 : Nat) : Int)), at0 t ((k + (m + 1) : Nat) : Int)) := by
    rw [hm, pathN, if_neg (by omega), if_pos (by omega)]
  rw [e, hm]
  have o2 := ho.next (k + m) (by omega)
  refine ⟨stepP_down h1 h3 ?_, stepP_head h2, stepP_last _ _⟩
  show at0 b ((k + (m + 1 - 1) : Nat) : Int) ≤ _
  rw [show k + (m + 1 - 1) = k + m by omega]; exact o2
theorem pathN_len (c x t b : List Int) (k : Nat) : ∀ i, (pathN c x t b k i).length ≤ 2 * i
  | 0 => Nat.le_refl _
  | i + 1 => by
    have ih := pathN_len c x t b k i
    have hs : ∀ l p, (stepP l p).length ≤ l.length + 1 := fun l p => by unfold stepP; split <;> simp
    have h1 := hs (pathN c x t b k i) (at0 x (at0 c i), at0 t ((k + i : Nat) : Int))
    have h2 := hs (if 0 < i then stepP (pathN c x t b k i) (at0 x (at0 c i), at0 t ((k + i : Nat) : Int)) else pathN c x t b k i) (at0 x (at0 c i), at0 b ((k + i : Nat) : Int))
    simp only [pathN]
    split <;> split at h2 <;> split <;> omega
end Go.Proofs.Ytelghbnlceeecaa
namespace Go.Proofs.Ytelghbnlceeecaa
open Go Go.PS Go.Proofs

/-- No coordinate. -/
def coB (x : Int) : Bool := decide (x < -268435456) || decide (268435456 < x)
/-- Layer k lies wrong. -/
def upB (t b : List Int) (k : Nat) : Bool := decide (at0 b (k : Int) < at0 t (k : Int)) || (decide (0 < k) && decide (at0 t (k : Int) < at0 b ((k - 1 : Nat) : Int)))
def lensB (a : Lv) (x t b : List Int) : Bool := decide (x.length = tot a.2.1 ∧ t.length = a.2.1.length ∧ b.length = a.2.1.length)
/-- As the program says it. -/
def fitsF (a : Lv) (x t b : List Int) : Bool := validF a && lensB a x t b && !x.any coB && !t.any coB && !b.any coB && !(List.range t.length).any (upB t b)
/-- As the reference says it. -/
def wrongAt (t b : List Int) (k : Nat) : Bool := coB (at0 t (k : Int)) || coB (at0 b (k : Int)) || upB t b k
def rightF (a : Lv) (x t b : List Int) : Bool := validF a && lensB a x t b && !x.any coB && !(List.range t.length).any (wrongAt t b)
theorem any_at0 (l : List Int) (q : Int → Bool) : l.any q = (List.range l.length).any fun k => q (at0 l (k : Int)) := by
  rw [Bool.eq_iff_iff, List.any_eq_true, List.any_eq_true]
  constructor
  · rintro ⟨v, hv, hq⟩
    obtain ⟨k, hk⟩ := List.getElem?_of_mem hv
    have hlt := (List.getElem?_eq_some_iff.1 hk).1
    refine ⟨k, List.mem_range.2 hlt, ?_⟩
    rw [at0, Int.toNat_natCast, hk]; exact hq
  · rintro ⟨k, hk, hq⟩
    have hk := List.mem_range.1 hk
    refine ⟨at0 l (k : Int), ?_, hq⟩
    rw [at0, Int.toNat_natCast, List.getElem?_eq_getElem hk]
    exact List.getElem_mem hk
theorem any_or {α : Type} (p q : α → Bool) : ∀ l : List α, l.any (fun v => p v || q v) = (l.any p || l.any q)
  | [] => rfl
  | v :: l => by
    simp only [List.any_cons, any_or p q l]
    cases p v <;> cases q v <;> cases l.any p <;> cases l.any q <;> rfl
theorem fits_right (a : Lv) (x t b : List Int) : rightF a x t b = fitsF a x t b := by
  rw [rightF, fitsF]
  cases hl : lensB a x t b with
  | false => simp
  | true =>
    simp only [lensB, decide_eq_true_eq] at hl
    have e : (List.range t.length).any (wrongAt t b) = (t.any coB || b.any coB || (List.range t.length).any (upB t b)) := by
      rw [any_at0 t, any_at0 b, hl.2.2, ← hl.2.1, ← any_or, ← any_or]
      rfl
    rw [e]
    cases validF a <;> cases x.any coB <;> cases t.any coB <;> cases b.any coB <;> cases (List.range t.length).any (upB t b) <;> rfl
theorem fits_ordered {a : Lv} {x t b : List Int} (h : fitsF a x t b = true) : Ordered t b a.2.1.length := by
  simp only [fitsF, Bool.and_eq_true, Bool.not_eq_true', lensB, decide_eq_true_eq] at h
  obtain ⟨⟨_, hl⟩, hu⟩ := (⟨⟨h.1.1.1.1.1, h.1.1.1.1.2⟩, h.2⟩ : (validF a = true ∧ _) ∧ _)
  have hk : ∀ k, k < a.2.1.length → upB t b k = false := fun k hk => by
    have := List.any_eq_false.1 hu k (List.mem_range.2 (by omega))
    simpa using this
  refine ⟨fun k hk1 => ?_, fun k hk1 => ?_⟩
  · have := hk k hk1
    simp only [upB, Bool.or_eq_false_iff, decide_eq_false_iff_not] at this
    omega
  · have := hk (k + 1) hk1
    simp only [upB, Bool.or_eq_false_iff, Bool.and_eq_false_iff, decide_eq_false_iff_not, Nat.add_sub_cancel] at this
    rcases this.2 with h | h <;> omega
theorem fits_bounds {a : Lv} {x t b : List Int} (h : fitsF a x t b = true) : validF a = true ∧ x.length = tot a.2.1 ∧ t.length = a.2.1.length ∧ b.length = a.2.1.length := by
  simp only [fitsF, Bool.and_eq_true, Bool.not_eq_true', lensB, decide_eq_true_eq] at h
  exact ⟨h.1.1.1.1.1, h.1.1.1.1.2⟩
end Go.Proofs.Ytelghbnlceeecaa
namespace Go.Proofs.Ytelghbnlceeecaa
open Go Go.PS Go.Proofs
set_option maxRecDepth 100000
theorem cells_int {n : Nat} {cs : List D} (h : CellsOk Try.prog (n + 1) 3 cs) : ∃ m : Int, cs = [.int m] := by
  have hu : Try.prog.underlying 3 = some (.int .i64) := by kernel_rfl
  simp only [CellsOk, hu] at h
  obtain ⟨m, rfl, _⟩ := h
  exact ⟨m, rfl⟩
theorem arg_int {x : D} (h : ArgOk Try.prog 3 x) : ∃ m : Int, x = .int m := by
  obtain ⟨cs, h, rfl⟩ := h
  obtain ⟨m, rfl⟩ := cells_int h
  rw [ty3]
  exact ⟨m, rfl⟩
theorem cells_arc {n : Nat} {cs : List D} (h : CellsOk Try.prog (n + 2) 66 cs) : ∃ p : Arc, cs = [.int p.1, .int p.2] := by
  have h := cells_struct (ts := [3, 3]) (by kernel_rfl) h
  obtain ⟨p, r, rfl, hp, q, r', rfl, hq, rfl⟩ := h
  obtain ⟨a, rfl⟩ := cells_int hp
  obtain ⟨b, rfl⟩ := cells_int hq
  exact ⟨(a, b), rfl⟩
theorem cells_arcs {n : Nat} {cs : List D} (h : CellsOk Try.prog (n + 3) 23 cs) : ∃ l : List Arc, cs = [arcsD l] := by
  obtain ⟨l, rfl, hl⟩ := cells_slice (e := 66) (by kernel_rfl) h
  obtain ⟨ys, rfl⟩ := map_of (f := arcD) (l := l) (fun d hd => by
    obtain ⟨es, rfl, _, he⟩ := hl d hd
    obtain ⟨p, rfl⟩ := cells_arc he
    rw [ty66]; exact ⟨p, rfl⟩)
  exact ⟨ys, rfl⟩
theorem cells_ints {n : Nat} {cs : List D} (h : CellsOk Try.prog (n + 2) 26 cs) : ∃ l : List Int, cs = [intsD l] ∧ l.length * 8 ≤ 140737488351232 := by
  obtain ⟨l, rfl, hb, hl⟩ := cells_sliceS (e := 3) (by kernel_rfl) h
  obtain ⟨ys, rfl⟩ := map_of (f := D.int) (l := l) (fun d hd => by
    obtain ⟨es, rfl, _, he⟩ := hl d hd
    obtain ⟨p, rfl⟩ := cells_int he
    rw [ty3]; exact ⟨p, rfl⟩)
  refine ⟨ys, rfl, ?_⟩
  have hb3 : Try.prog.bytesOf 3 = 8 := by kernel_rfl
  rw [hb3, List.length_map] at hb
  exact hb
theorem map_of2 {α : Type} {f : α → D} {p : α → Prop} : ∀ {l : List D}, (∀ d ∈ l, ∃ a, d = f a ∧ p a) → ∃ ys : List α, l = ys.map f ∧ ∀ y ∈ ys, p y
  | [], _ => ⟨[], rfl, fun y hy => by cases hy⟩
  | d :: l, h => by
    obtain ⟨a, rfl, ha⟩ := h d (by simp)
    obtain ⟨ys, rfl, hy⟩ := map_of2 (l := l) (fun e he => h e (List.mem_cons_of_mem _ he))
    refine ⟨a :: ys, rfl, fun y hy2 => ?_⟩
    rcases List.mem_cons.1 hy2 with rfl | hy2
    · exact ha
    · exact hy y hy2
theorem cells_lists {n : Nat} {cs : List D} (h : CellsOk Try.prog (n + 3) 22 cs) : ∃ l : List (List Int), cs = [listsD l] ∧ ∀ y ∈ l, y.length * 8 ≤ 140737488351232 := by
  obtain ⟨l, rfl, hl⟩ := cells_slice (e := 26) (by kernel_rfl) h
  obtain ⟨ys, rfl, hy⟩ := map_of2 (f := intsD) (p := fun y => y.length * 8 ≤ 140737488351232) (l := l) (fun d hd => by
    obtain ⟨es, rfl, _, he⟩ := hl d hd
    obtain ⟨p, rfl, hp⟩ := cells_ints he
    rw [ty26]; exact ⟨p, rfl, hp⟩)
  exact ⟨ys, rfl, hy⟩
theorem arg_ints {x : D} (h : ArgOk Try.prog 26 x) : ∃ l : List Int, x = intsD l := by
  obtain ⟨cs, h, rfl⟩ := h
  obtain ⟨l, rfl, _⟩ := cells_ints h
  rw [ty26]; exact ⟨l, rfl⟩
theorem arg_g {x : D} (h : ArgOk Try.prog 68 x) : ∃ g : Gr, x = gD g := by
  obtain ⟨cs, h, rfl⟩ := h
  have h := cells_struct (ts := [3, 23]) (by kernel_rfl) h
  obtain ⟨_, _, rfl, h1, _, _, rfl, h2, rfl⟩ := h
  obtain ⟨a, rfl⟩ := cells_int h1
  obtain ⟨l, rfl⟩ := cells_arcs h2
  rw [ty68]
  exact ⟨(a, l), rfl⟩
theorem arg_lv {x : D} (h : ArgOk Try.prog 25 x) : ∃ a : {a : Lv // wide a}, x = lvD a.1 := by
  obtain ⟨cs, h, rfl⟩ := h
  have h := cells_struct (ts := [3, 22, 23, 22]) (by kernel_rfl) h
  obtain ⟨_, _, rfl, h1, _, _, rfl, h2, _, _, rfl, h3, _, _, rfl, h4, rfl⟩ := h
  obtain ⟨a, rfl⟩ := cells_int h1
  obtain ⟨b, rfl, hb⟩ := cells_lists h2
  obtain ⟨c, rfl⟩ := cells_arcs h3
  obtain ⟨d, rfl, _⟩ := cells_lists h4
  rw [ty25]
  exact ⟨⟨(a, b, c, d), hb⟩, rfl⟩
end Go.Proofs.Ytelghbnlceeecaa
namespace Go.Proofs.Ytelghbnlceeecaa
open Go Go.PS Go.Proofs
set_option maxRecDepth 100000
set_option linter.unusedSimpArgs false
set_option linter.unusedVariables false
attribute [local irreducible] wpRun wpG CallsTo

theorem divmod (n k : Int) (hk : 0 < k) : ∃ q r, n.tdiv k = q ∧ n.tmod k = r ∧ n = k * q + r ∧ -k < r ∧ r < k ∧ (0 ≤ n → 0 ≤ r) ∧ (n ≤ 0 → r ≤ 0) := by
  refine ⟨_, _, rfl, rfl, (Int.mul_tdiv_add_tmod n k).symm, ?_, Int.tmod_lt_of_pos n hk, fun h => Int.tmod_nonneg k h, fun h => ?_⟩
  · have := Int.lt_tmod_of_pos n hk; omega
  · have := Int.tmod_nonneg (a := -n) k (by omega)
    rw [Int.neg_tmod] at this; omega

theorem third_spec (n : Int) (h1 : -9223372036854775807 ≤ n) (h2 : n ≤ 9223372036854775807) : CallsTo Try.prog 63 [.int n] (.int (n / 3)) := by
  obtain ⟨q, r, hq, hr, hn, hr1, hr2, hr3, hr4⟩ := divmod n 3 (by omega)
  refine callsTo_of Try.func63 rfl (by decide +kernel) (Nat.le_of_ble_eq_true rfl) ?_
  intro _ B X w0
  repeat' first
    | refine pw_seq ?_
    | refine pw_skip ?_
    | refine pw_ret ?_
    | refine pw_exit ?_
    | refine pw_block ?_
    | refine pw_region (fun _ => false) hmix ?_
    | (refine wpG_split rfl rfl (fun hc => ?_) (fun hc => ?_) <;> try simp only [hcL, reduceCtorEq] at hc)
    | (refine pw_cond _ rfl rfl (fun hc => ?_) (fun hc => ?_) <;> (try simp only [hcL, reduceCtorEq] at hc) <;> try (exfalso; omega))
    | simp (maxSteps := 1000000) (disch := omega) only [go_sem, simprocAttr, hq, hr]
    | apply And.intro
    | omega
    | decide +kernel
  all_goals
    refine int_some ?_
    omega

abbrev Pt := Int × Int
abbrev ptD (p : Pt) : D := .ag [.int p.1, .int p.2]
theorem ptEq (p q : Pt) : (decide (p.1 = q.1) && decide (p.2 = q.2)) = decide (p = q) := by
  rw [Bool.eq_iff_iff]; simp [Prod.ext_iff]
def ptOk (p : Pt) : Bool := decide (-268435456 ≤ p.1 ∧ p.1 ≤ 268435456 ∧ -268435456 ≤ p.2 ∧ p.2 ≤ 268435456)
theorem gvalid_spec (p : Pt) : CallsTo Try.prog 101 [ptD p] (.bool (ptOk p)) := by
  refine callsTo_of Try.func101 rfl (by decide +kernel) (Nat.le_of_ble_eq_true rfl) ?_
  intro _ B X w0
  repeat' first
    | refine pw_seq ?_
    | refine pw_skip ?_
    | refine pw_ret ?_
    | refine pw_exit ?_
    | refine pw_block ?_
    | refine pw_region (fun _ => false) hmix ?_
    | (refine wpG_split rfl rfl (fun hc => ?_) (fun hc => ?_) <;> try simp only [hcL, reduceCtorEq] at hc)
    | (refine pw_cond _ rfl rfl (fun hc => ?_) (fun hc => ?_) <;> (try simp only [hcL, reduceCtorEq] at hc) <;> try (exfalso; omega))
    | simp (maxSteps := 1000000) (disch := omega) only [go_sem, simprocAttr]
    | apply And.intro
    | omega
    | decide +kernel
  all_goals
    refine bool_some ?_
    rw [Bool.eq_iff_iff]
    simp only [ptOk, decide_eq_true_eq, Bool.false_eq_true, false_iff, true_iff]
    omega
theorem Point_spec (p : Pt) : CallsTo Try.prog 67 [ptD p] (.bool (ptOk p)) := by
  refine callsTo_of Try.func67 rfl (by decide +kernel) (Nat.le_of_ble_eq_true rfl) ?_
  intro _ B X w0
  repeat' first
    | refine pw_seq ?_
    | refine pw_skip ?_
    | refine pw_ret ?_
    | refine pw_exit ?_
    | refine pw_block ?_
    | refine pw_region (fun _ => false) hmix ?_
    | (refine wpG_split rfl rfl (fun hc => ?_) (fun hc => ?_) <;> try simp only [hcL, reduceCtorEq] at hc)
    | (refine pw_cond _ rfl rfl (fun hc => ?_) (fun hc => ?_) <;> (try simp only [hcL, reduceCtorEq] at hc) <;> try (exfalso; omega))
    | simp (maxSteps := 1000000) (disch := omega) only [go_sem, simprocAttr]
    | apply And.intro
    | omega
    | decide +kernel
  all_goals
    refine bool_some ?_
    rw [Bool.eq_iff_iff]
    simp only [ptOk, decide_eq_true_eq, Bool.false_eq_true, false_iff, true_iff]
    omega

theorem shr1 (a : Int) : a.fdiv (2 ^ min 1 64) = a / 2 := by
  show a.fdiv 2 = a / 2
  exact Int.fdiv_eq_ediv_of_nonneg a (by omega)

def inR (p : Pt) : Prop := -268435456 ≤ p.1 ∧ p.1 ≤ 268435456 ∧ -268435456 ≤ p.2 ∧ p.2 ≤ 268435456
def mid (a b : Pt) : Pt := ((a.1 + b.1) / 2, (a.2 + b.2) / 2)
theorem mid_in {a b : Pt} (h1 : inR a) (h2 : inR b) : inR (mid a b) := by
  simp only [inR, mid] at *; omega
theorem middle_spec (a b : Pt) (h1 : inR a) (h2 : inR b) : CallsTo Try.prog 102 [ptD a, ptD b] (ptD (mid a b)) := by
  simp only [inR] at h1 h2
  refine callsTo_of Try.func102 rfl (by decide +kernel) (Nat.le_of_ble_eq_true rfl) ?_
  intro _ B X w0
  repeat' first
    | refine pw_seq ?_
    | refine pw_skip ?_
    | refine pw_ret ?_
    | refine pw_exit ?_
    | refine pw_block ?_
    | refine pw_region (fun _ => false) hmix ?_
    | (refine wpG_split rfl rfl (fun hc => ?_) (fun hc => ?_) <;> try simp only [hcL, reduceCtorEq] at hc)
    | (refine pw_cond _ rfl rfl (fun hc => ?_) (fun hc => ?_) <;> (try simp only [hcL, reduceCtorEq] at hc) <;> try (exfalso; omega))
    | simp (maxSteps := 1000000) (disch := omega) only [go_sem, simprocAttr, shr1, Int.reduceLE]
    | apply And.intro
    | omega
    | decide +kernel
  all_goals
    refine ⟨_, _, _, _, rfl, ?_⟩
    simp (maxSteps := 1000000) (disch := omega) only [go_sem, simprocAttr, mid]
abbrev Bx := Int × Int × Int × Int
abbrev bxD (b : Bx) : D := .ag [.int b.1, .int b.2.1, .int b.2.2.1, .int b.2.2.2]
def bxOk (b : Bx) : Bool := ptOk (b.1, b.2.1) && ptOk (b.2.2.1, b.2.2.2) && decide (b.1 ≤ b.2.2.1) && decide (b.2.1 ≤ b.2.2.2)

theorem curve1_spec (p : Pt) : CallsTo Try.prog 100 [ptD p] (.bool (!ptOk p)) := by
  refine callsTo_of Try.func100 rfl (by decide +kernel) (Nat.le_of_ble_eq_true rfl) ?_
  intro _ B X w0
  repeat' first
    | refine pw_seq ?_
    | refine pw_skip ?_
    | refine pw_ret ?_
    | refine pw_exit ?_
    | refine pw_block ?_
    | refine pw_region (fun _ => false) hmix ?_
    | (refine rc (gvalid_spec p) rfl ?_ ?_; (· first | rfl | (simp (disch := omega) only [go_sem, simprocAttr]; done)))
    | (refine wpG_split rfl rfl (fun hc => ?_) (fun hc => ?_) <;> try simp only [hcL, reduceCtorEq] at hc)
    | (refine pw_cond _ rfl rfl (fun hc => ?_) (fun hc => ?_) <;> (try simp only [hcL, reduceCtorEq] at hc) <;> try (exfalso; omega))
    | simp (maxSteps := 1000000) (disch := omega) only [go_sem, simprocAttr]
    | apply And.intro
    | omega
    | decide +kernel
  all_goals exact bool_some rfl
theorem points1_spec (p : Pt) : CallsTo Try.prog 115 [ptD p] (.bool (!ptOk p)) := by
  refine callsTo_of Try.func115 rfl (by decide +kernel) (Nat.le_of_ble_eq_true rfl) ?_
  intro _ B X w0
  repeat' first
    | refine pw_seq ?_
    | refine pw_skip ?_
    | refine pw_ret ?_
    | refine pw_exit ?_
    | refine pw_block ?_
    | refine pw_region (fun _ => false) hmix ?_
    | (refine rc (gvalid_spec p) rfl ?_ ?_; (· first | rfl | (simp (disch := omega) only [go_sem, simprocAttr]; done)))
    | (refine wpG_split rfl rfl (fun hc => ?_) (fun hc => ?_) <;> try simp only [hcL, reduceCtorEq] at hc)
    | (refine pw_cond _ rfl rfl (fun hc => ?_) (fun hc => ?_) <;> (try simp only [hcL, reduceCtorEq] at hc) <;> try (exfalso; omega))
    | simp (maxSteps := 1000000) (disch := omega) only [go_sem, simprocAttr]
    | apply And.intro
    | omega
    | decide +kernel
  all_goals exact bool_some rfl
def bxHas (b : Bx) (p : Pt) : Bool := bxOk b && ptOk p && decide (b.1 ≤ p.1) && decide (p.1 ≤ b.2.2.1) && decide (b.2.1 ≤ p.2) && decide (p.2 ≤ b.2.2.2)
end Go.Proofs.Ytelghbnlceeecaa
