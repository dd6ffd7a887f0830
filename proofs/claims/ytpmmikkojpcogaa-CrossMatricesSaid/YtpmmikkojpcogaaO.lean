/- Rank, Place: the walks. -/
import Derived.Test.YtpmmikkojpcogaaK
import Derived.Test.YtpmmikkojpcogaaPSBridge
namespace Go.Proofs.Ytpmmikkojpcogaa
open Go Go.PS Go.Proofs
set_option maxRecDepth 100000
set_option linter.unusedSimpArgs false
set_option linter.unusedVariables false
attribute [local irreducible] wpRun wpG CallsTo CallsM

def rankF (a : Lv) (v : Int) : Int := if validF a then layI a.2.1 v else -1
def posF (a : Lv) (v : Int) : Int := if validF a then posI a.2.1 v else -1
theorem Rank_spec (a : Lv) (v : Int) (hw : wide a) : CallsTo Try.prog 23 [lvD a, .int v] (.int (rankF a v)) := by
  have hv := LvValid_spec a hw
  have hf := find_spec a v
  rw [rankF]
  rcases h : validF a with _ | _ <;> rw [h] at hv
  all_goals
    refine callsTo_of Try.func23 rfl (by decide +kernel) (Nat.le_of_ble_eq_true rfl) ?_
    intro hat B X w0
    repeat' first
      | refine pw_seq ?_
      | refine pw_skip ?_
      | refine pw_ret ?_
      | refine pw_exit ?_
      | refine pw_block ?_
      | refine pw_region (fun _ => false) hmix ?_
      | (refine rc (hv) rfl ?_ ?_; (· first | rfl | (simp (disch := omega) only [go_sem, simprocAttr]; done)))
      | (refine rc (hf) rfl ?_ ?_; (· first | rfl | (simp (disch := omega) only [go_sem, simprocAttr]; done)))
      | (refine wpG_split rfl rfl (fun hc => ?_) (fun hc => ?_) <;> try simp only [hcL, reduceCtorEq] at hc)
      | (refine pw_cond _ rfl rfl (fun hc => ?_) (fun hc => ?_) <;> (try simp only [hcL, reduceCtorEq] at hc) <;> try (exfalso; omega))
      | simp (maxSteps := 1000000) (disch := omega) only [go_sem, simprocAttr]
      | apply And.intro
      | omega
      | decide +kernel
    exact int_some rfl
theorem Place_spec (a : Lv) (v : Int) (hw : wide a) : CallsTo Try.prog 25 [lvD a, .int v] (.int (posF a v)) := by
  have hv := LvValid_spec a hw
  have hf := find_spec a v
  rw [posF]
  rcases h : validF a with _ | _ <;> rw [h] at hv
  all_goals
    refine callsTo_of Try.func25 rfl (by decide +kernel) (Nat.le_of_ble_eq_true rfl) ?_
    intro hat B X w0
    repeat' first
      | refine pw_seq ?_
      | refine pw_skip ?_
      | refine pw_ret ?_
      | refine pw_exit ?_
      | refine pw_block ?_
      | refine pw_region (fun _ => false) hmix ?_
      | (refine rc (hv) rfl ?_ ?_; (· first | rfl | (simp (disch := omega) only [go_sem, simprocAttr]; done)))
      | (refine rc (hf) rfl ?_ ?_; (· first | rfl | (simp (disch := omega) only [go_sem, simprocAttr]; done)))
      | (refine wpG_split rfl rfl (fun hc => ?_) (fun hc => ?_) <;> try simp only [hcL, reduceCtorEq] at hc)
      | (refine pw_cond _ rfl rfl (fun hc => ?_) (fun hc => ?_) <;> (try simp only [hcL, reduceCtorEq] at hc) <;> try (exfalso; omega))
      | simp (maxSteps := 1000000) (disch := omega) only [go_sem, simprocAttr]
      | apply And.intro
      | omega
      | decide +kernel
    exact int_some rfl
def hasV (v : Int) (y : List Int) : Bool := y.any fun x => decide (x = v)
theorem layI_def (ls : List (List Int)) (v : Int) : layI ls v = idxI (ls.findIdx? (hasV v)) := rfl
theorem lv_le {a : Lv} (h : validF a = true) : a.2.1.length ≤ 256 ∧ tot a.2.1 ≤ 512 := by
  have := valid_source h
  exact rTot (by rw [this])
set_option maxHeartbeats 1000000 in
theorem rRank_spec (a : Lv) (v : Int) (hw : wide a) : CallsTo Try.prog 24 [lvD a, .int v] (.int (rankF a v)) := by
  have hv := rLvValid_spec a hw
  rw [← valid_same] at hv
  rw [rankF]
  rcases h : validF a with _ | _ <;> rw [h] at hv
  · refine callsTo_of Try.func24 rfl (by decide +kernel) (Nat.le_of_ble_eq_true rfl) ?_
    intro hat B X w0
    repeat' first
      | refine pw_seq ?_
      | refine pw_skip ?_
      | refine pw_ret ?_
      | refine pw_exit ?_
      | refine pw_block ?_
      | refine pw_region (fun _ => false) hmix ?_
      | (refine rc (hv) rfl ?_ ?_; (· first | rfl | (simp (disch := omega) only [go_sem, simprocAttr]; done)))
      | (refine wpG_split rfl rfl (fun hc => ?_) (fun hc => ?_) <;> try simp only [hcL, reduceCtorEq] at hc)
      | (refine pw_cond _ rfl rfl (fun hc => ?_) (fun hc => ?_) <;> (try simp only [hcL, reduceCtorEq] at hc) <;> try (exfalso; omega))
      | simp (maxSteps := 1000000) (disch := omega) only [go_sem, simprocAttr]
      | apply And.intro
      | omega
      | decide +kernel
    exact int_some rfl
  · obtain ⟨t1, t2⟩ := lv_le h
    obtain ⟨n, ls, ar, cs⟩ := a
    dsimp only at t1 t2
    refine callsTo_of Try.func24 rfl (by decide +kernel) (Nat.le_of_ble_eq_true rfl) ?_
    intro hat B X w0
    repeat' first
      | refine pw_seq ?_
      | refine pw_skip ?_
      | refine pw_ret ?_
      | refine pw_exit ?_
      | refine pw_block ?_
      | refine pw_region (fun _ => false) hmix ?_
      | (refine rc (hv) rfl ?_ ?_; (· first | rfl | (simp (disch := omega) only [go_sem, simprocAttr]; done)))
      | (refine wpG_split rfl rfl (fun hc => ?_) (fun hc => ?_) <;> try simp only [hcL, reduceCtorEq] at hc)
      | (refine pw_cond _ rfl rfl (fun hc => ?_) (fun hc => ?_) <;> (try simp only [hcL, reduceCtorEq] at hc) <;> try (exfalso; omega))
      | simp (maxSteps := 1000000) (disch := omega) only [go_sem, simprocAttr]
      | apply And.intro
      | omega
      | decide +kernel
    refine pw_loopI (κ := Nat) (fun (i : Nat) => i ≤ ls.length ∧ ∀ (j : Nat) y, j < i → ls[j]? = some y → hasV v y = false) (fun (i : Nat) => [(1, .int v), (2, .ptr 2 0 0 0), (5, .int i)]) (fun (i : Nat) => [(2, .cells [.int n, .d (listsD ls), .d (arcsD ar), .d (listsD cs)])]) (fun (i : Nat) => ls.length - i) 0 ?_ ?_ ?_
    · exact ⟨Nat.zero_le _, fun j y h => by omega⟩
    · exact eL [] _ _ (by refine ⟨?_, ?_⟩ <;> (repeat' first | exact List.forall_mem_nil _ | refine List.forall_mem_cons.2 ⟨(by first | rfl | (simp (disch := omega) only [go_sem, simprocAttr, inL]; first | done | omega | (congr 1; done))), ?_⟩); done)
    · rintro i ⟨hi, hinv⟩
      rcases Nat.lt_or_ge i ls.length with hlt | hge
      · obtain ⟨y, hy⟩ := get_some hlt
        have hyl := tot_mem (List.mem_of_getElem? hy)
        repeat' first
          | refine pw_seq ?_
          | refine pw_skip ?_
          | refine pw_ret ?_
          | refine pw_exit ?_
          | refine pw_block ?_
          | refine pw_region (fun _ => false) hmix ?_
          | (refine wpG_split rfl rfl (fun hc => ?_) (fun hc => ?_) <;> try simp only [hcL, reduceCtorEq] at hc)
          | (refine pw_cond _ rfl rfl (fun hc => ?_) (fun hc => ?_) <;> (try simp only [hcL, reduceCtorEq] at hc) <;> try (exfalso; omega))
          | simp (maxSteps := 1000000) (disch := omega) only [go_sem, simprocAttr, hy]
          | apply And.intro
          | omega
          | decide +kernel
        refine pw_loopI (κ := Nat) (fun (k : Nat) => k ≤ y.length ∧ ∀ (j : Nat) x, j < k → y[j]? = some x → decide (x = v) = false) (fun (k : Nat) => [(1, .int v), (2, .ptr 2 0 0 0), (5, .int i), (6, .int k)]) (fun (k : Nat) => [(2, .cells [.int n, .d (listsD ls), .d (arcsD ar), .d (listsD cs)])]) (fun (k : Nat) => y.length - k) 0 ?_ ?_ ?_
        · exact ⟨Nat.zero_le _, fun j x h => by omega⟩
        · exact eL [] _ _ (by refine ⟨?_, ?_⟩ <;> (repeat' first | exact List.forall_mem_nil _ | refine List.forall_mem_cons.2 ⟨(by first | rfl | (simp (disch := omega) only [go_sem, simprocAttr, inL]; first | done | omega | (congr 1; done))), ?_⟩); done)
        · rintro k ⟨hk, hinv2⟩
          rcases Nat.lt_or_ge k y.length with hlk | hgk
          · obtain ⟨x, hx⟩ := get_some hlk
            repeat' first
              | refine pw_seq ?_
              | refine pw_skip ?_
              | refine pw_ret ?_
              | refine pw_exit ?_
              | refine pw_block ?_
              | refine pw_region (fun _ => false) hmix ?_
              | (refine wpG_split rfl rfl (fun hc => ?_) (fun hc => ?_) <;> try simp only [hcL, reduceCtorEq] at hc)
              | (refine pw_cond _ rfl rfl (fun hc => ?_) (fun hc => ?_) <;> (try simp only [hcL, reduceCtorEq] at hc) <;> try (exfalso; omega))
              | simp (maxSteps := 1000000) (disch := omega) only [go_sem, simprocAttr, hy, hx]
              | apply And.intro
              | omega
              | decide +kernel
            · refine int_some ?_
              rw [layI_def, findIdx_at hy (any_at hx (by simpa using hc)) hinv]; rfl
            · refine ⟨k + 1, ?_, eL [] _ _ (by refine ⟨?_, ?_⟩ <;> (repeat' first | exact List.forall_mem_nil _ | refine List.forall_mem_cons.2 ⟨(by first | rfl | (simp (disch := omega) only [go_sem, simprocAttr, inL]; first | done | omega | (congr 1; done))), ?_⟩); done), ?_⟩
              · exact ⟨by omega, upto_succ hinv2 hx (by simpa using hc)⟩
              · omega
          · repeat' first
              | refine pw_seq ?_
              | refine pw_skip ?_
              | refine pw_ret ?_
              | refine pw_exit ?_
              | refine pw_block ?_
              | refine pw_region (fun _ => false) hmix ?_
              | (refine wpG_split rfl rfl (fun hc => ?_) (fun hc => ?_) <;> try simp only [hcL, reduceCtorEq] at hc)
              | (refine pw_cond _ rfl rfl (fun hc => ?_) (fun hc => ?_) <;> (try simp only [hcL, reduceCtorEq] at hc) <;> try (exfalso; omega))
              | simp (maxSteps := 1000000) (disch := omega) only [go_sem, simprocAttr, hy]
              | apply And.intro
              | omega
              | decide +kernel
            refine ⟨i + 1, ?_, eL [] _ _ (by refine ⟨?_, ?_⟩ <;> (repeat' first | exact List.forall_mem_nil _ | refine List.forall_mem_cons.2 ⟨(by first | rfl | (simp (disch := omega) only [go_sem, simprocAttr, inL]; first | done | omega | (congr 1; done))), ?_⟩); done), ?_⟩
            · exact ⟨by omega, upto_succ hinv hy (any_no fun j x hj => hinv2 j x (by omega))⟩
            · omega
      · repeat' first
          | refine pw_seq ?_
          | refine pw_skip ?_
          | refine pw_ret ?_
          | refine pw_exit ?_
          | refine pw_block ?_
          | refine pw_region (fun _ => false) hmix ?_
          | (refine wpG_split rfl rfl (fun hc => ?_) (fun hc => ?_) <;> try simp only [hcL, reduceCtorEq] at hc)
          | (refine pw_cond _ rfl rfl (fun hc => ?_) (fun hc => ?_) <;> (try simp only [hcL, reduceCtorEq] at hc) <;> try (exfalso; omega))
          | simp (maxSteps := 1000000) (disch := omega) only [go_sem, simprocAttr]
          | apply And.intro
          | omega
          | decide +kernel
        refine int_some ?_
        rw [layI_def, findIdx_no (fun j y hy => hinv j y (by have := (List.getElem?_eq_some_iff.1 hy).1; omega) hy)]; rfl
theorem posI_def (ls : List (List Int)) (v : Int) : posI ls v = match ls.findIdx? (hasV v) with
  | some k => placeF ((ls[k]?).getD []) v
  | none => -1 := rfl
theorem findIdx_some {α : Type} {q : α → Bool} {l : List α} {k : Nat} (h : l.findIdx? q = some k) : k < l.length := by
  rw [List.findIdx?_eq_some_iff_getElem] at h
  exact h.1
set_option maxHeartbeats 1000000 in
theorem rPlace_spec (a : Lv) (v : Int) (hw : wide a) : CallsTo Try.prog 26 [lvD a, .int v] (.int (posF a v)) := by
  have hv := rRank_spec a v hw
  by_cases hr : 0 ≤ rankF a v
  · obtain ⟨i, hi⟩ : ∃ i : Nat, rankF a v = i := ⟨(rankF a v).toNat, by omega⟩
    rw [hi] at hv
    have h : validF a = true := by
      rw [rankF] at hr
      split at hr
      · assumption
      · exact absurd hr (by decide)
    obtain ⟨t1, t2⟩ := lv_le h
    rw [posF, if_pos h]
    rw [rankF, if_pos h, layI_def] at hi
    rw [posI_def]
    rcases hf : a.2.1.findIdx? (hasV v) with _ | k
    · rw [hf] at hi; simp only [idxI] at hi; omega
    · rw [hf] at hi
      have hik : k = i := by simp only [idxI] at hi; omega
      subst hik
      have hkl := findIdx_some hf
      obtain ⟨n, ls, ar, cs⟩ := a
      dsimp only at t1 t2 hkl ⊢
      obtain ⟨y, hy⟩ := get_some hkl
      have hyl := tot_mem (List.mem_of_getElem? hy)
      rw [hy, Option.getD_some]
      refine callsTo_of Try.func26 rfl (by decide +kernel) (Nat.le_of_ble_eq_true rfl) ?_
      intro hat B X w0
      repeat' first
        | refine pw_seq ?_
        | refine pw_skip ?_
        | refine pw_ret ?_
        | refine pw_exit ?_
        | refine pw_block ?_
        | refine pw_region (fun _ => false) hmix ?_
        | (refine rc (hv) rfl ?_ ?_; (· first | rfl | (simp (disch := omega) only [go_sem, simprocAttr]; done)))
        | (refine wpG_split rfl rfl (fun hc => ?_) (fun hc => ?_) <;> try simp only [hcL, reduceCtorEq] at hc)
        | (refine pw_cond _ rfl rfl (fun hc => ?_) (fun hc => ?_) <;> (try simp only [hcL, reduceCtorEq] at hc) <;> try (exfalso; omega))
        | simp (maxSteps := 1000000) (disch := omega) only [go_sem, simprocAttr]
        | apply And.intro
        | omega
        | decide +kernel
      refine pw_loopI (κ := Nat) (fun (j : Nat) => j ≤ y.length ∧ ∀ (u : Nat) x, u < j → y[u]? = some x → decide (x = v) = false) (fun (j : Nat) => [(1, .int v), (2, .ptr 2 0 0 0), (5, .int k), (6, .int j)]) (fun (j : Nat) => [(2, .cells [.int n, .d (listsD ls), .d (arcsD ar), .d (listsD cs)])]) (fun (j : Nat) => y.length - j) 0 ?_ ?_ ?_
      · exact ⟨Nat.zero_le _, fun j x h => by omega⟩
      · exact eL [] _ _ (by refine ⟨?_, ?_⟩ <;> (repeat' first | exact List.forall_mem_nil _ | refine List.forall_mem_cons.2 ⟨(by first | rfl | (simp (disch := omega) only [go_sem, simprocAttr, inL]; first | done | omega | (congr 1; done))), ?_⟩); done)
      · rintro j ⟨hj, hinv⟩
        rcases Nat.lt_or_ge j y.length with hlj | hgj
        · obtain ⟨x, hx⟩ := get_some hlj
          repeat' first
            | refine pw_seq ?_
            | refine pw_skip ?_
            | refine pw_ret ?_
            | refine pw_exit ?_
            | refine pw_block ?_
            | refine pw_region (fun _ => false) hmix ?_
            | (refine wpG_split rfl rfl (fun hc => ?_) (fun hc => ?_) <;> try simp only [hcL, reduceCtorEq] at hc)
            | (refine pw_cond _ rfl rfl (fun hc => ?_) (fun hc => ?_) <;> (try simp only [hcL, reduceCtorEq] at hc) <;> try (exfalso; omega))
            | simp (maxSteps := 1000000) (disch := omega) only [go_sem, simprocAttr, hy, hx]
            | apply And.intro
            | omega
            | decide +kernel
          · refine int_some ?_
            rw [placeF, findIdx_at hx (by simpa using hc) hinv]; rfl
          · refine ⟨j + 1, ?_, eL [] _ _ (by refine ⟨?_, ?_⟩ <;> (repeat' first | exact List.forall_mem_nil _ | refine List.forall_mem_cons.2 ⟨(by first | rfl | (simp (disch := omega) only [go_sem, simprocAttr, inL]; first | done | omega | (congr 1; done))), ?_⟩); done), ?_⟩
            · exact ⟨by omega, upto_succ hinv hx (by simpa using hc)⟩
            · omega
        · repeat' first
            | refine pw_seq ?_
            | refine pw_skip ?_
            | refine pw_ret ?_
            | refine pw_exit ?_
            | refine pw_block ?_
            | refine pw_region (fun _ => false) hmix ?_
            | (refine wpG_split rfl rfl (fun hc => ?_) (fun hc => ?_) <;> try simp only [hcL, reduceCtorEq] at hc)
            | (refine pw_cond _ rfl rfl (fun hc => ?_) (fun hc => ?_) <;> (try simp only [hcL, reduceCtorEq] at hc) <;> try (exfalso; omega))
            | simp (maxSteps := 1000000) (disch := omega) only [go_sem, simprocAttr, hy]
            | apply And.intro
            | omega
            | decide +kernel
          refine int_some ?_
          rw [placeF, findIdx_no (fun u x hx => hinv u x (by have := (List.getElem?_eq_some_iff.1 hx).1; omega) hx)]; rfl
  · have hr1 : rankF a v = -1 := by
      rw [rankF] at hr ⊢
      split at hr
      · rename_i h
        rw [if_pos h]
        rw [layI_def] at hr ⊢
        rcases hf : a.2.1.findIdx? (hasV v) with _ | k
        · rfl
        · rw [hf] at hr; simp only [idxI] at hr; omega
      · rename_i h; rw [if_neg h]
    have hp1 : posF a v = -1 := by
      rw [posF]
      split
      · rename_i h
        rw [rankF, if_pos h, layI_def] at hr1
        rw [posI_def]
        rcases hf : a.2.1.findIdx? (hasV v) with _ | k
        · rfl
        · rw [hf] at hr1; simp only [idxI] at hr1; omega
      · rfl
    rw [hr1] at hv
    rw [hp1]
    obtain ⟨n, ls, ar, cs⟩ := a
    refine callsTo_of Try.func26 rfl (by decide +kernel) (Nat.le_of_ble_eq_true rfl) ?_
    intro hat B X w0
    repeat' first
      | refine pw_seq ?_
      | refine pw_skip ?_
      | refine pw_ret ?_
      | refine pw_exit ?_
      | refine pw_block ?_
      | refine pw_region (fun _ => false) hmix ?_
      | (refine rc (hv) rfl ?_ ?_; (· first | rfl | (simp (disch := omega) only [go_sem, simprocAttr]; done)))
      | (refine wpG_split rfl rfl (fun hc => ?_) (fun hc => ?_) <;> try simp only [hcL, reduceCtorEq] at hc)
      | (refine pw_cond _ rfl rfl (fun hc => ?_) (fun hc => ?_) <;> (try simp only [hcL, reduceCtorEq] at hc) <;> try (exfalso; omega))
      | simp (maxSteps := 1000000) (disch := omega) only [go_sem, simprocAttr]
      | apply And.intro
      | omega
      | decide +kernel
    refine pw_loopI (κ := Nat) (fun (j : Nat) => True) (fun (j : Nat) => [(1, .int v), (2, .ptr 2 0 0 0), (5, .int (-1)), (6, .int j)]) (fun (j : Nat) => [(2, .cells [.int n, .d (listsD ls), .d (arcsD ar), .d (listsD cs)])]) (fun (j : Nat) => 0) 0 ?_ ?_ ?_
    · trivial
    · exact eL [] _ _ (by refine ⟨?_, ?_⟩ <;> (repeat' first | exact List.forall_mem_nil _ | refine List.forall_mem_cons.2 ⟨(by first | rfl | (simp (disch := omega) only [go_sem, simprocAttr, inL]; first | done | omega | (congr 1; done))), ?_⟩); done)
    · intro j _
      repeat' first
        | refine pw_seq ?_
        | refine pw_skip ?_
        | refine pw_ret ?_
        | refine pw_exit ?_
        | refine pw_block ?_
        | refine pw_region (fun _ => false) hmix ?_
        | (refine wpG_split rfl rfl (fun hc => ?_) (fun hc => ?_) <;> try simp only [hcL, reduceCtorEq] at hc)
        | (refine pw_cond _ rfl rfl (fun hc => ?_) (fun hc => ?_) <;> (try simp only [hcL, reduceCtorEq] at hc) <;> try (exfalso; omega))
        | simp (maxSteps := 1000000) (disch := omega) only [go_sem, simprocAttr]
        | apply And.intro
        | omega
        | decide +kernel
      exact int_some rfl
end Go.Proofs.Ytpmmikkojpcogaa
namespace Go.Proofs.Ytpmmikkojpcogaa
open Go Go.PS Go.Proofs
set_option maxRecDepth 100000
set_option linter.unusedSimpArgs false
set_option linter.unusedVariables false
attribute [local irreducible] wpRun wpG CallsTo CallsM

theorem arc_cells (l : List Arc) : ∀ d, d ∈ l.map arcD → d.cells.length = 2 := cells_map arcD 2 (fun _ => rfl) l
theorem cloneA_spec (l : List Arc) (hn : l.length ≤ 1000000) : CallsTo Try.prog 63 [arcsD l] (arcsD l) := by
  rcases Decidable.em (l = []) with rfl | hl
  · refine callsTo_of Try.func63 rfl (by decide +kernel) (Nat.le_of_ble_eq_true rfl) ?_
    intro hat B X w0
    repeat' first
      | refine pw_seq ?_
      | refine pw_skip ?_
      | refine pw_ret ?_
      | refine pw_exit ?_
      | refine pw_block ?_
      | refine pw_region (fun _ => false) hmix ?_
      | (refine wpG_split rfl rfl (fun hc => ?_) (fun hc => ?_) <;> try simp only [hcL, reduceCtorEq] at hc)
      | (refine pw_cond _ rfl rfl (fun hc => ?_) (fun hc => ?_) <;> (try simp only [hcL, reduceCtorEq] at hc) <;> try (exfalso; omega))
      | simp (maxSteps := 1000000) (disch := omega) only [go_sem, simprocAttr]
      | apply And.intro
      | omega
      | decide +kernel
    refine pw_anyb 4 rfl ?_
    intro b
    cases b
    · repeat' first
        | refine pw_seq ?_
        | refine pw_skip ?_
        | refine pw_ret ?_
        | refine pw_exit ?_
        | refine pw_block ?_
        | refine pw_region (Nat.beq 5) hmix ?_
        | (refine wpG_split rfl rfl (fun hc => ?_) (fun hc => ?_) <;> try simp only [hcL, reduceCtorEq] at hc)
        | (refine pw_cond _ rfl rfl (fun hc => ?_) (fun hc => ?_) <;> (try simp only [hcL, reduceCtorEq] at hc) <;> try (exfalso; omega))
        | simp (maxSteps := 1000000) (disch := omega) only [go_sem, simprocAttr, roomy]
        | apply And.intro
        | omega
        | decide +kernel
      exact sl_some rfl
    · repeat' first
        | refine pw_seq ?_
        | refine pw_skip ?_
        | refine pw_ret ?_
        | refine pw_exit ?_
        | refine pw_block ?_
        | refine pw_region (fun _ => false) hmix ?_
        | (refine wpG_split rfl rfl (fun hc => ?_) (fun hc => ?_) <;> try simp only [hcL, reduceCtorEq] at hc)
        | (refine pw_cond _ rfl rfl (fun hc => ?_) (fun hc => ?_) <;> (try simp only [hcL, reduceCtorEq] at hc) <;> try (exfalso; omega))
        | simp (maxSteps := 1000000) (disch := omega) only [go_sem, simprocAttr]
        | apply And.intro
        | omega
        | decide +kernel
      exact sl_some rfl
  · have he : (l.map arcD).isEmpty = false := by simpa using hl
    have hpos : 0 < l.length := List.length_pos_iff.2 hl
    refine callsTo_of Try.func63 rfl (by decide +kernel) (Nat.le_of_ble_eq_true rfl) ?_
    intro hat B X w0
    repeat' first
      | refine pw_seq ?_
      | refine pw_skip ?_
      | refine pw_ret ?_
      | refine pw_exit ?_
      | refine pw_block ?_
      | refine pw_region (Nat.beq 5) hmix ?_
      | (refine wpG_split rfl rfl (fun hc => ?_) (fun hc => ?_) <;> try simp only [hcL, reduceCtorEq] at hc)
      | (refine pw_cond _ rfl rfl (fun hc => ?_) (fun hc => ?_) <;> (try simp only [hcL, reduceCtorEq] at hc) <;> try (exfalso; omega))
      | simp (maxSteps := 1000000) (disch := omega) only [go_sem, simprocAttr, he, roomy, take_map_len]
      | exact arc_cells l
      | apply And.intro
      | omega
      | decide +kernel
    exact ret_ref (o := 7) rfl rfl (by simp) (List.take_of_length_le (by simp))
theorem cloneI_spec (l : List Int) (hn : l.length ≤ 1000000) : CallsTo Try.prog 64 [intsD l] (intsD l) := by
  rcases Decidable.em (l = []) with rfl | hl
  · refine callsTo_of Try.func64 rfl (by decide +kernel) (Nat.le_of_ble_eq_true rfl) ?_
    intro hat B X w0
    repeat' first
      | refine pw_seq ?_
      | refine pw_skip ?_
      | refine pw_ret ?_
      | refine pw_exit ?_
      | refine pw_block ?_
      | refine pw_region (fun _ => false) hmix ?_
      | (refine wpG_split rfl rfl (fun hc => ?_) (fun hc => ?_) <;> try simp only [hcL, reduceCtorEq] at hc)
      | (refine pw_cond _ rfl rfl (fun hc => ?_) (fun hc => ?_) <;> (try simp only [hcL, reduceCtorEq] at hc) <;> try (exfalso; omega))
      | simp (maxSteps := 1000000) (disch := omega) only [go_sem, simprocAttr]
      | apply And.intro
      | omega
      | decide +kernel
    refine pw_anyb 4 rfl ?_
    intro b
    cases b
    · repeat' first
        | refine pw_seq ?_
        | refine pw_skip ?_
        | refine pw_ret ?_
        | refine pw_exit ?_
        | refine pw_block ?_
        | refine pw_region (Nat.beq 5) hmix ?_
        | (refine wpG_split rfl rfl (fun hc => ?_) (fun hc => ?_) <;> try simp only [hcL, reduceCtorEq] at hc)
        | (refine pw_cond _ rfl rfl (fun hc => ?_) (fun hc => ?_) <;> (try simp only [hcL, reduceCtorEq] at hc) <;> try (exfalso; omega))
        | simp (maxSteps := 1000000) (disch := omega) only [go_sem, simprocAttr, roomy]
        | apply And.intro
        | omega
        | decide +kernel
      exact sl_some rfl
    · repeat' first
        | refine pw_seq ?_
        | refine pw_skip ?_
        | refine pw_ret ?_
        | refine pw_exit ?_
        | refine pw_block ?_
        | refine pw_region (fun _ => false) hmix ?_
        | (refine wpG_split rfl rfl (fun hc => ?_) (fun hc => ?_) <;> try simp only [hcL, reduceCtorEq] at hc)
        | (refine pw_cond _ rfl rfl (fun hc => ?_) (fun hc => ?_) <;> (try simp only [hcL, reduceCtorEq] at hc) <;> try (exfalso; omega))
        | simp (maxSteps := 1000000) (disch := omega) only [go_sem, simprocAttr]
        | apply And.intro
        | omega
        | decide +kernel
      exact sl_some rfl
  · have he : (l.map D.int).isEmpty = false := by simpa using hl
    have hpos : 0 < l.length := List.length_pos_iff.2 hl
    refine callsTo_of Try.func64 rfl (by decide +kernel) (Nat.le_of_ble_eq_true rfl) ?_
    intro hat B X w0
    repeat' first
      | refine pw_seq ?_
      | refine pw_skip ?_
      | refine pw_ret ?_
      | refine pw_exit ?_
      | refine pw_block ?_
      | refine pw_region (Nat.beq 5) hmix ?_
      | (refine wpG_split rfl rfl (fun hc => ?_) (fun hc => ?_) <;> try simp only [hcL, reduceCtorEq] at hc)
      | (refine pw_cond _ rfl rfl (fun hc => ?_) (fun hc => ?_) <;> (try simp only [hcL, reduceCtorEq] at hc) <;> try (exfalso; omega))
      | simp (maxSteps := 1000000) (disch := omega) only [go_sem, simprocAttr, he, roomy, take_map_len]
      | exact one_int l
      | apply And.intro
      | omega
      | decide +kernel
    exact ret_ref (o := 7) rfl rfl (by simp) (List.take_of_length_le (by simp))
theorem clone_spec (l : List (List Int)) (hn : l.length ≤ 1000) (hl : ∀ y, y ∈ l → y.length ≤ 1000000) : CallsM Try.prog 62 [.d (listsD l)] [(2000, .dead)] (.ref 2000 1 0 l.length l.length) [(2000, .row 1 (l.map intsD))] := by
  refine callsM_of Try.func62 rfl (by decide +kernel) (Nat.le_of_ble_eq_true rfl) rfl (nodup_of rfl) rfl rfl rfl ?_
  intro B X w0
  repeat' first
    | refine pw_seq ?_
    | refine pw_skip ?_
    | refine pw_ret ?_
    | refine pw_exit ?_
    | refine pw_block ?_
    | refine pw_region (fun _ => false) hmix ?_
    | (refine wpG_split rfl rfl (fun hc => ?_) (fun hc => ?_) <;> try simp only [hcL, reduceCtorEq] at hc)
    | (refine pw_cond _ rfl rfl (fun hc => ?_) (fun hc => ?_) <;> (try simp only [hcL, reduceCtorEq] at hc) <;> try (exfalso; omega))
    | simp (maxSteps := 1000000) (disch := omega) only [go_sem, simprocAttr]
    | apply And.intro
    | omega
    | decide +kernel
  refine pw_ent _ (ent_nilRow 7 l.length rfl) ?_
  refine pw_loopI (κ := Nat) (fun (k : Nat) => k ≤ l.length) (fun (k : Nat) => [(0, .d (listsD l)), (3, .ref 7 1 0 l.length l.length), (9, .int l.length), (10, .int k)]) (fun (k : Nat) => [(7, .row 1 ((l.take k).map intsD ++ List.replicate (l.length - k) (.sl [])))]) (fun (k : Nat) => l.length - k) 0 ?_ ?_ ?_
  · exact Nat.zero_le _
  · exact eL [] _ _ (by refine ⟨?_, ?_⟩ <;> (repeat' first | exact List.forall_mem_nil _ | refine List.forall_mem_cons.2 ⟨(by first | rfl | (simp (disch := omega) only [go_sem, simprocAttr, inL, List.take_zero, List.map_nil, List.nil_append, Nat.sub_zero]; first | done | omega | (congr 1; done))), ?_⟩); done)
  · intro k hk
    rcases Nat.lt_or_ge k l.length with hlt | hge
    · obtain ⟨p, hp⟩ := get_some hlt
      have hcp := cloneI_spec p (hl p (List.mem_of_getElem? hp))
      have hst : ((l.take k).map intsD ++ List.replicate (l.length - k) (D.sl [])).set k (intsD p) = (l.take (k + 1)).map intsD ++ List.replicate (l.length - (k + 1)) (D.sl []) := by
        have hlk : ((l.take k).map intsD).length = k := by rw [List.length_map, List.length_take]; omega
        have e : l.length - k = (l.length - (k + 1)) + 1 := by omega
        rw [List.set_append, hlk, if_neg (by omega), Nat.sub_self, e, List.replicate_succ, List.set_cons_zero, take_snoc hp, List.map_append, List.append_assoc]
        rfl
      have hLn : ((l.take k).map intsD ++ List.replicate (l.length - k) (D.sl [])).length = l.length := by
        rw [List.length_append, List.length_map, List.length_take, List.length_replicate]; omega
      have hgk : ((l.take k).map intsD ++ List.replicate (l.length - k) (D.sl []))[k]? = some (D.sl []) := by
        rw [List.getElem?_append_right (by rw [List.length_map, List.length_take]; omega), List.length_map, List.length_take, Nat.min_eq_left (by omega), Nat.sub_self, List.getElem?_replicate, if_pos (by omega)]
      repeat' first
        | refine pw_seq ?_
        | refine pw_skip ?_
        | refine pw_ret ?_
        | refine pw_exit ?_
        | refine pw_block ?_
        | refine pw_region (fun _ => false) hmix ?_
        | (refine rc (hcp) rfl ?_ ?_; (· first | rfl | (simp (disch := omega) only [go_sem, simprocAttr, hp, hLn, hgk]; done)))
        | (refine wpG_split rfl rfl (fun hc => ?_) (fun hc => ?_) <;> try simp only [hcL, reduceCtorEq] at hc)
        | (refine pw_cond _ rfl rfl (fun hc => ?_) (fun hc => ?_) <;> (try simp only [hcL, reduceCtorEq] at hc) <;> try (exfalso; omega))
        | simp (maxSteps := 1000000) (disch := omega) only [go_sem, simprocAttr, hp, hLn, hgk]
        | apply And.intro
        | omega
        | decide +kernel
      refine ⟨k + 1, ?_, eL [] _ _ (by refine ⟨?_, ?_⟩ <;> (repeat' first | exact List.forall_mem_nil _ | refine List.forall_mem_cons.2 ⟨(by first | rfl | (simp (disch := omega) only [go_sem, simprocAttr, inL, hst]; first | done | omega | (congr 1; done))), ?_⟩); done), ?_⟩
      · omega
      · omega
    · have : k = l.length := by omega
      subst this
      try dsimp only
      rw [List.take_length, Nat.sub_self, List.replicate_zero, List.append_nil]
      repeat' first
        | refine pw_seq ?_
        | refine pw_skip ?_
        | refine pw_exit ?_
        | refine pw_block ?_
        | refine pw_region (fun _ => false) hmix ?_
        | (refine wpG_split rfl rfl (fun hc => ?_) (fun hc => ?_) <;> try simp only [hcL, reduceCtorEq] at hc)
        | (refine pw_cond _ rfl rfl (fun hc => ?_) (fun hc => ?_) <;> (try simp only [hcL, reduceCtorEq] at hc) <;> try (exfalso; omega))
        | simp (maxSteps := 1000000) (disch := omega) only [go_sem, simprocAttr]
        | apply And.intro
        | omega
        | decide +kernel
      refine eR [(2000, 7)] [(2, .ref 2000 1 0 _ _)] [(2000, .row 1 _)] (by refine ⟨?_, ?_⟩ <;> (repeat' first | exact List.forall_mem_nil _ | refine List.forall_mem_cons.2 ⟨(by first | rfl | (simp (disch := omega) only [go_sem, simprocAttr, inL]; first | done | omega | (congr 1; done))), ?_⟩); done) ?_
      refine pw_ret ?_
      exact ⟨rfl, List.forall_mem_cons.2 ⟨rfl, List.forall_mem_nil _⟩⟩
theorem chainsF_get {r : List Int} {l : List Arc} {k : Nat} {a : Arc} (ha : l[k]? = some a) : ∀ e, k < e → e ≤ l.length → (chainsF r l e)[k]? = some (chainOf r (allR r l k).length a)
  | 0, h, _ => by omega
  | e + 1, h, he => by
    have hl := chainsF_len r l e (by omega)
    rw [chainsF, catN]
    rw [chainsF] at hl
    rcases Nat.lt_succ_iff_lt_or_eq.1 h with h1 | rfl
    · rw [List.getElem?_append_left (by rw [hl]; exact h1)]
      exact chainsF_get ha e h1 (by omega)
    · rw [List.getElem?_append_right (by rw [hl]; exact Nat.le_refl _), hl, Nat.sub_self, chainAt, ha]
      rfl
theorem lv_sizes {a : Lv} (h : validF a = true) : a.2.2.1.length ≤ 800 ∧ a.2.2.2.length ≤ 256 ∧ ∀ y, y ∈ a.2.2.2 → y.length ≤ 260 := by
  obtain ⟨b, hm, hr⟩ := valid_built h
  have h1 : a.2.2.1 = arcsF (ranksV a) (srcG a).2 (srcG a).2.length := congrArg (fun x : Lv => x.2.2.1) hm
  have h2 : a.2.2.2 = chainsF (ranksV a) (srcG a).2 (srcG a).2.length := congrArg (fun x : Lv => x.2.2.2) hm
  have h3 := arcsF_len b.gap (srcG a).2.length (Nat.le_refl _)
  have h4 := chainsF_len (ranksV a) (srcG a).2 (srcG a).2.length (Nat.le_refl _)
  have h5 := b.all_len
  have h6 := (gOk_in b.gok).2.2.1
  rw [← h1] at h3
  rw [← h2] at h4
  refine ⟨by omega, by omega, fun y hy => ?_⟩
  obtain ⟨k, hk⟩ := List.getElem?_of_mem hy
  have hkl := (List.getElem?_eq_some_iff.1 hk).1
  obtain ⟨x, hx⟩ := get_some (l := (srcG a).2) (k := k) (by omega)
  rw [h2, chainsF_get hx _ (by omega) (Nat.le_refl _), Option.some.injEq] at hk
  rw [← hk, chainOf_len, gapN]
  have g1 := b.rk x.1.toNat
  have g2 := b.rk x.2.toNat
  have g3 := b.ends hx
  rw [show ((x.1.toNat : Nat) : Int) = x.1 by omega] at g1
  rw [show ((x.2.toNat : Nat) : Int) = x.2 by omega] at g2
  omega
def reorderF (a : Lv) (i : Int) (o : List Int) : Lv × Int :=
  if validF a = false then (lv0, 1) else if i < 0 ∨ (a.2.1.length : Int) ≤ i then (lv0, 3)
  else if sortL o ≠ sortL ((a.2.1[i.toNat]?).getD []) then (lv0, 6) else ((a.1, a.2.1.set i.toNat o, a.2.2.1, a.2.2.2), 0)
set_option maxHeartbeats 4000000 in
theorem Reorder_spec (a : Lv) (i : Int) (o : List Int) (hw : wide a) (ho : o.length ≤ 600) : CallsTo Try.prog 28 [lvD a, .int i, intsD o] (.tup [lvD (reorderF a i o).1, .int (reorderF a i o).2]) := by
  have hv := LvValid_spec a hw
  rw [reorderF]
  rcases h : validF a with _ | _ <;> rw [h] at hv
  · rw [if_pos rfl]
    refine callsTo_of Try.func28 rfl (by decide +kernel) (Nat.le_of_ble_eq_true rfl) ?_
    intro hat B X w0
    repeat' first
      | refine pw_seq ?_
      | refine pw_skip ?_
      | refine pw_ret ?_
      | refine pw_exit ?_
      | refine pw_block ?_
      | refine pw_region (fun _ => false) hmix ?_
      | (refine rc (hv) rfl ?_ ?_; (· first | rfl | (simp (disch := omega) only [go_sem, simprocAttr, List.append_eq]; done)))
      | (refine wpG_split rfl rfl (fun hc => ?_) (fun hc => ?_) <;> try simp only [hcL, reduceCtorEq] at hc)
      | (refine pw_cond _ rfl rfl (fun hc => ?_) (fun hc => ?_) <;> (try simp only [hcL, reduceCtorEq] at hc) <;> try (exfalso; omega))
      | simp (maxSteps := 1000000) (disch := omega) only [go_sem, simprocAttr, List.append_eq]
      | apply And.intro
      | omega
      | decide +kernel
    refine ⟨_, rfl, ⟨_, _, _, _, rfl, ?_⟩, int_some ?_, trivial⟩
    · simp (maxSteps := 1000000) (disch := omega) only [go_sem, simprocAttr, toD]
      rfl
    · rfl
  · rw [if_neg (by decide)]
    obtain ⟨t1, t2⟩ := lv_le h
    by_cases hi : i < 0 ∨ (a.2.1.length : Int) ≤ i
    · rw [if_pos hi]
      obtain ⟨n, ls, ar, cs⟩ := a
      dsimp only at hi t1
      refine callsTo_of Try.func28 rfl (by decide +kernel) (Nat.le_of_ble_eq_true rfl) ?_
      intro hat B X w0
      repeat' first
        | refine pw_seq ?_
        | refine pw_skip ?_
        | refine pw_ret ?_
        | refine pw_exit ?_
        | refine pw_block ?_
        | refine pw_region (fun _ => false) hmix ?_
        | (refine rc (hv) rfl ?_ ?_; (· first | rfl | (simp (disch := omega) only [go_sem, simprocAttr, List.append_eq]; done)))
        | (refine wpG_split rfl rfl (fun hc => ?_) (fun hc => ?_) <;> try simp only [hcL, reduceCtorEq] at hc)
        | (refine pw_cond _ rfl rfl (fun hc => ?_) (fun hc => ?_) <;> (try simp only [hcL, reduceCtorEq] at hc) <;> try (exfalso; omega))
        | simp (maxSteps := 1000000) (disch := omega) only [go_sem, simprocAttr, List.append_eq]
        | apply And.intro
        | omega
        | decide +kernel
      all_goals
        refine ⟨_, rfl, ⟨_, _, _, _, rfl, ?_⟩, int_some ?_, trivial⟩
        · simp (maxSteps := 1000000) (disch := omega) only [go_sem, simprocAttr, toD]
          rfl
        · rfl
    · rw [if_neg hi]
      obtain ⟨y, hy⟩ := get_some (l := a.2.1) (k := i.toNat) (by omega)
      have hyl := tot_mem (List.mem_of_getElem? hy)
      rw [hy, Option.getD_some]
      have hv1 := Values_spec o
      have hv2 := Values_spec y
      have hs1 := Sorted_spec o (by omega)
      have hs2 := Sorted_spec y (by omega)
      have he := equalI_spec (sortL o) (sortL y)
      by_cases hso : sortL o = sortL y
      · rw [if_neg (by simpa using hso)]
        rw [decide_eq_true hso] at he
        have hcl := clone_spec a.2.1 (by omega) (fun y hy => by have := tot_mem hy; omega)
        have hbd : a.2.2.1.length ≤ 1000000 ∧ a.2.2.2.length ≤ 1000 ∧ ∀ y, y ∈ a.2.2.2 → y.length ≤ 1000000 := by
          obtain ⟨s1, s2, s3⟩ := lv_sizes h
          exact ⟨by omega, by omega, fun y hy => by have := s3 y hy; omega⟩
        have hca := cloneA_spec a.2.2.1 hbd.1
        have hcc := clone_spec a.2.2.2 hbd.2.1 hbd.2.2
        have hco := cloneI_spec o (by omega)
        obtain ⟨n, ls, ar, cs⟩ := a
        dsimp only at hi t1 hy hcl hca hcc
        refine callsTo_of Try.func28 rfl (by decide +kernel) (Nat.le_of_ble_eq_true rfl) ?_
        intro hat B X w0
        repeat' first
          | refine pw_seq ?_
          | refine pw_skip ?_
          | refine pw_ret ?_
          | refine pw_exit ?_
          | refine pw_block ?_
          | refine pw_region (fun _ => false) hmix ?_
          | (refine rc (hv) rfl ?_ ?_; (· first | rfl | (simp (disch := omega) only [go_sem, simprocAttr, List.append_eq, hy]; done)))
          | (refine rc (hv1) rfl ?_ ?_; (· first | rfl | (simp (disch := omega) only [go_sem, simprocAttr, List.append_eq, hy]; done)))
          | (refine rc (hv2) rfl ?_ ?_; (· first | rfl | (simp (disch := omega) only [go_sem, simprocAttr, List.append_eq, hy]; done)))
          | (refine rc (hs1) rfl ?_ ?_; (· first | rfl | (simp (disch := omega) only [go_sem, simprocAttr, List.append_eq, hy]; done)))
          | (refine rc (hs2) rfl ?_ ?_; (· first | rfl | (simp (disch := omega) only [go_sem, simprocAttr, List.append_eq, hy]; done)))
          | (refine rc (he) rfl ?_ ?_; (· first | rfl | (simp (disch := omega) only [go_sem, simprocAttr, List.append_eq, hy]; done)))
          | refine rcM [(2000, 43)] (hcl) rfl ?_
          | refine rcM [(2000, 49)] (hcc) rfl ?_
          | (refine rc (hca) rfl ?_ ?_; (· first | rfl | (simp (disch := omega) only [go_sem, simprocAttr, List.append_eq, hy]; done)))
          | (refine rc (hco) rfl ?_ ?_; (· first | rfl | (simp (disch := omega) only [go_sem, simprocAttr, List.append_eq, hy]; done)))
          | (refine wpG_split rfl rfl (fun hc => ?_) (fun hc => ?_) <;> try simp only [hcL, reduceCtorEq] at hc)
          | (refine pw_cond _ rfl rfl (fun hc => ?_) (fun hc => ?_) <;> (try simp only [hcL, reduceCtorEq] at hc) <;> try (exfalso; omega))
          | simp (maxSteps := 1000000) (disch := omega) only [go_sem, simprocAttr, List.append_eq, hy]
          | apply And.intro
          | omega
          | decide +kernel
        refine ⟨_, rfl, ⟨_, _, _, _, rfl, ?_⟩, int_some rfl, trivial⟩
        simp (maxSteps := 1000000) (disch := omega) only [go_sem, simprocAttr, toD, List.length_map, List.length_set, Nat.le_refl, List.drop_zero]
        rw [List.take_of_length_le (by rw [List.length_set, List.length_map]; exact Nat.le_refl _), List.take_of_length_le (by rw [List.length_map]; exact Nat.le_refl _)]
        simp only [lvD, listsD, List.map_set]
      · rw [if_pos (by simpa using hso)]
        rw [decide_eq_false hso] at he
        obtain ⟨n, ls, ar, cs⟩ := a
        dsimp only at hi t1 hy
        refine callsTo_of Try.func28 rfl (by decide +kernel) (Nat.le_of_ble_eq_true rfl) ?_
        intro hat B X w0
        repeat' first
          | refine pw_seq ?_
          | refine pw_skip ?_
          | refine pw_ret ?_
          | refine pw_exit ?_
          | refine pw_block ?_
          | refine pw_region (fun _ => false) hmix ?_
          | (refine rc (hv) rfl ?_ ?_; (· first | rfl | (simp (disch := omega) only [go_sem, simprocAttr, List.append_eq, hy]; done)))
          | (refine rc (hv1) rfl ?_ ?_; (· first | rfl | (simp (disch := omega) only [go_sem, simprocAttr, List.append_eq, hy]; done)))
          | (refine rc (hv2) rfl ?_ ?_; (· first | rfl | (simp (disch := omega) only [go_sem, simprocAttr, List.append_eq, hy]; done)))
          | (refine rc (hs1) rfl ?_ ?_; (· first | rfl | (simp (disch := omega) only [go_sem, simprocAttr, List.append_eq, hy]; done)))
          | (refine rc (hs2) rfl ?_ ?_; (· first | rfl | (simp (disch := omega) only [go_sem, simprocAttr, List.append_eq, hy]; done)))
          | (refine rc (he) rfl ?_ ?_; (· first | rfl | (simp (disch := omega) only [go_sem, simprocAttr, List.append_eq, hy]; done)))
          | (refine wpG_split rfl rfl (fun hc => ?_) (fun hc => ?_) <;> try simp only [hcL, reduceCtorEq] at hc)
          | (refine pw_cond _ rfl rfl (fun hc => ?_) (fun hc => ?_) <;> (try simp only [hcL, reduceCtorEq] at hc) <;> try (exfalso; omega))
          | simp (maxSteps := 1000000) (disch := omega) only [go_sem, simprocAttr, List.append_eq, hy]
          | apply And.intro
          | omega
          | decide +kernel
        refine ⟨_, rfl, ⟨_, _, _, _, rfl, ?_⟩, int_some ?_, trivial⟩
        · simp (maxSteps := 1000000) (disch := omega) only [go_sem, simprocAttr, toD]
          rfl
        · rfl
end Go.Proofs.Ytpmmikkojpcogaa
namespace Go.Proofs.Ytpmmikkojpcogaa
open Go Go.PS Go.Proofs
set_option maxRecDepth 100000
set_option linter.unusedSimpArgs false
set_option linter.unusedVariables false
attribute [local irreducible] wpRun wpG CallsTo CallsM

set_option maxHeartbeats 4000000 in
theorem rReorder_spec (a : Lv) (i : Int) (o : List Int) (hw : wide a) (ho : o.length ≤ 600) : CallsTo Try.prog 29 [lvD a, .int i, intsD o] (.tup [lvD (reorderF a i o).1, .int (reorderF a i o).2]) := by
  have hv := rLvValid_spec a hw
  rw [← valid_same] at hv
  rw [reorderF]
  rcases h : validF a with _ | _ <;> rw [h] at hv
  · rw [if_pos rfl]
    refine callsTo_of Try.func29 rfl (by decide +kernel) (Nat.le_of_ble_eq_true rfl) ?_
    intro hat B X w0
    repeat' first
      | refine pw_seq ?_
      | refine pw_skip ?_
      | refine pw_ret ?_
      | refine pw_exit ?_
      | refine pw_block ?_
      | refine pw_region (fun _ => false) hmix ?_
      | (refine rc (hv) rfl ?_ ?_; (· first | rfl | (simp (disch := omega) only [go_sem, simprocAttr, List.append_eq]; done)))
      | (refine wpG_split rfl rfl (fun hc => ?_) (fun hc => ?_) <;> try simp only [hcL, reduceCtorEq] at hc)
      | (refine pw_cond _ rfl rfl (fun hc => ?_) (fun hc => ?_) <;> (try simp only [hcL, reduceCtorEq] at hc) <;> try (exfalso; omega))
      | simp (maxSteps := 1000000) (disch := omega) only [go_sem, simprocAttr, List.append_eq]
      | apply And.intro
      | omega
      | decide +kernel
    refine ⟨_, rfl, ⟨_, _, _, _, rfl, ?_⟩, int_some ?_, trivial⟩
    · simp (maxSteps := 1000000) (disch := omega) only [go_sem, simprocAttr, toD]
      rfl
    · rfl
  · rw [if_neg (by decide)]
    obtain ⟨t1, t2⟩ := lv_le h
    by_cases hi : i < 0 ∨ (a.2.1.length : Int) ≤ i
    · rw [if_pos hi]
      obtain ⟨n, ls, ar, cs⟩ := a
      dsimp only at hi t1
      refine callsTo_of Try.func29 rfl (by decide +kernel) (Nat.le_of_ble_eq_true rfl) ?_
      intro hat B X w0
      repeat' first
        | refine pw_seq ?_
        | refine pw_skip ?_
        | refine pw_ret ?_
        | refine pw_exit ?_
        | refine pw_block ?_
        | refine pw_region (fun _ => false) hmix ?_
        | (refine rc (hv) rfl ?_ ?_; (· first | rfl | (simp (disch := omega) only [go_sem, simprocAttr, List.append_eq]; done)))
        | (refine wpG_split rfl rfl (fun hc => ?_) (fun hc => ?_) <;> try simp only [hcL, reduceCtorEq] at hc)
        | (refine pw_cond _ rfl rfl (fun hc => ?_) (fun hc => ?_) <;> (try simp only [hcL, reduceCtorEq] at hc) <;> try (exfalso; omega))
        | simp (maxSteps := 1000000) (disch := omega) only [go_sem, simprocAttr, List.append_eq]
        | apply And.intro
        | omega
        | decide +kernel
      all_goals
        refine ⟨_, rfl, ⟨_, _, _, _, rfl, ?_⟩, int_some ?_, trivial⟩
        · simp (maxSteps := 1000000) (disch := omega) only [go_sem, simprocAttr, toD]
          rfl
        · rfl
    · rw [if_neg hi]
      obtain ⟨y, hy⟩ := get_some (l := a.2.1) (k := i.toNat) (by omega)
      have hyl := tot_mem (List.mem_of_getElem? hy)
      rw [hy, Option.getD_some]
      have hs1 := rSort_spec o (by omega)
      have hs2 := rSort_spec y (by omega)
      have he := sameI_spec (sortL o) (sortL y)
      obtain ⟨n, ls, ar, cs⟩ := a
      dsimp only at hi t1 hy hyl t2
      by_cases hso : sortL o = sortL y
      · rw [if_neg (by simpa using hso)]
        rw [decide_eq_true hso] at he
        have hlen : o.length = y.length := by rw [← sortL_len o, hso, sortL_len]
        obtain ⟨p, rfl⟩ : ∃ p : Nat, i = p := ⟨i.toNat, by omega⟩
        rw [Int.toNat_natCast] at hy ⊢
        refine callsTo_of Try.func29 rfl (by decide +kernel) (Nat.le_of_ble_eq_true rfl) ?_
        intro hat B X w0
        repeat' first
          | refine pw_seq ?_
          | refine pw_skip ?_
          | refine pw_ret ?_
          | refine pw_exit ?_
          | refine pw_block ?_
          | refine pw_region (fun _ => false) hmix ?_
          | (refine rc (hv) rfl ?_ ?_; (· first | rfl | (simp (disch := omega) only [go_sem, simprocAttr, List.append_eq, hy, hlen]; done)))
          | (refine rc (hs1) rfl ?_ ?_; (· first | rfl | (simp (disch := omega) only [go_sem, simprocAttr, List.append_eq, hy, hlen]; done)))
          | (refine rc (hs2) rfl ?_ ?_; (· first | rfl | (simp (disch := omega) only [go_sem, simprocAttr, List.append_eq, hy, hlen]; done)))
          | (refine rc (he) rfl ?_ ?_; (· first | rfl | (simp (disch := omega) only [go_sem, simprocAttr, List.append_eq, hy, hlen]; done)))
          | (refine wpG_split rfl rfl (fun hc => ?_) (fun hc => ?_) <;> try simp only [hcL, reduceCtorEq] at hc)
          | (refine pw_cond _ rfl rfl (fun hc => ?_) (fun hc => ?_) <;> (try simp only [hcL, reduceCtorEq] at hc) <;> try (exfalso; omega))
          | simp (maxSteps := 1000000) (disch := omega) only [go_sem, simprocAttr, List.append_eq, hy, hlen]
          | apply And.intro
          | omega
          | decide +kernel
        refine pw_ent _ (ent_nilC 8 1 901 1 rfl rfl rfl) ?_
        refine pw_loopI (κ := Nat) (fun (k : Nat) => k ≤ ls.length) (fun (k : Nat) => [(1, .int p), (2, .d (intsD o)), (3, .ptr 3 0 0 0), (6, .ptr 6 0 0 0), (8, .ptr 8 0 0 0), (9, .int k)]) (fun (k : Nat) => [(3, .cells [.int n, .d (listsD ls), .d (arcsD ar), .d (listsD cs)]), (6, .cells [.int 0, .nilS, .nilS, .nilS]), (8, .cells [.int n, .ref 901 1 0 k k, .d (arcsD ar), .d (listsD cs)]), (901, .row 1 (((ls.set p o).take k).map intsD))]) (fun (k : Nat) => ls.length - k) 0 ?_ ?_ ?_
        · exact Nat.zero_le _
        · exact eL [] _ _ (by refine ⟨?_, ?_⟩ <;> (repeat' first | exact List.forall_mem_nil _ | refine List.forall_mem_cons.2 ⟨(by first | rfl | (simp (disch := omega) only [go_sem, simprocAttr, inL, List.take_zero, List.map_nil]; first | done | omega | (congr 1; done))), ?_⟩); done)
        · intro k hk
          have hlk : (((ls.set p o).take k).map intsD).length = k := by rw [List.length_map, List.length_take, List.length_set]; omega
          have htk : List.take k (((ls.set p o).take k).map intsD) = ((ls.set p o).take k).map intsD := List.take_of_length_le (by rw [hlk]; exact Nat.le_refl _)
          rcases Nat.lt_or_ge k ls.length with hlt | hge
          · obtain ⟨q, hq⟩ := get_some hlt
            by_cases hkp : k = p
            · subst hkp
              have hts := take_snoc (l := ls.set k o) (k := k) (x := o) (by rw [List.getElem?_set, if_pos rfl, if_pos hlt])
              repeat' first
                | refine pw_seq ?_
                | refine pw_skip ?_
                | refine pw_ret ?_
                | refine pw_exit ?_
                | refine pw_block ?_
                | refine pw_region (fun _ => false) hmix ?_
                | (refine wpG_split rfl rfl (fun hc => ?_) (fun hc => ?_) <;> try simp only [hcL, reduceCtorEq] at hc)
                | (refine pw_cond _ rfl rfl (fun hc => ?_) (fun hc => ?_) <;> (try simp only [hcL, reduceCtorEq] at hc) <;> try (exfalso; omega))
                | simp (maxSteps := 1000000) (disch := omega) only [go_sem, simprocAttr, hq, hlk, roomy]
                | apply And.intro
                | omega
                | decide +kernel
              refine ⟨k + 1, ?_, eL [(901, 67)] _ _ (by refine ⟨?_, ?_⟩ <;> (repeat' first | exact List.forall_mem_nil _ | refine List.forall_mem_cons.2 ⟨(by first | rfl | (simp (disch := omega) only [go_sem, simprocAttr, inL, hts, List.map_append, htk]; first | done | omega | (congr 1; done))), ?_⟩); done), ?_⟩
              · omega
              · omega
            · have hts := take_snoc (l := ls.set p o) (k := k) (x := q) (by rw [List.getElem?_set, if_neg (by omega), hq])
              have hkp2 : ¬ (k : Int) = p := by omega
              repeat' first
                | refine pw_seq ?_
                | refine pw_skip ?_
                | refine pw_ret ?_
                | refine pw_exit ?_
                | refine pw_block ?_
                | refine pw_region (fun _ => false) hmix ?_
                | (refine wpG_split rfl rfl (fun hc => ?_) (fun hc => ?_) <;> try simp only [hcL, reduceCtorEq] at hc)
                | (refine pw_cond _ rfl rfl (fun hc => ?_) (fun hc => ?_) <;> (try simp only [hcL, reduceCtorEq] at hc) <;> try (exfalso; omega))
                | simp (maxSteps := 1000000) (disch := omega) only [go_sem, simprocAttr, hq, hlk, roomy, hkp2]
                | apply And.intro
                | omega
                | decide +kernel
              refine ⟨k + 1, ?_, eL [(901, 77)] _ _ (by refine ⟨?_, ?_⟩ <;> (repeat' first | exact List.forall_mem_nil _ | refine List.forall_mem_cons.2 ⟨(by first | rfl | (simp (disch := omega) only [go_sem, simprocAttr, inL, hts, List.map_append, htk]; first | done | omega | (congr 1; done))), ?_⟩); done), ?_⟩
              · omega
              · omega
          · have : k = ls.length := by omega
            subst this
            repeat' first
              | refine pw_seq ?_
              | refine pw_skip ?_
              | refine pw_ret ?_
              | refine pw_exit ?_
              | refine pw_block ?_
              | refine pw_region (fun _ => false) hmix ?_
              | (refine wpG_split rfl rfl (fun hc => ?_) (fun hc => ?_) <;> try simp only [hcL, reduceCtorEq] at hc)
              | (refine pw_cond _ rfl rfl (fun hc => ?_) (fun hc => ?_) <;> (try simp only [hcL, reduceCtorEq] at hc) <;> try (exfalso; omega))
              | simp (maxSteps := 1000000) (disch := omega) only [go_sem, simprocAttr]
              | apply And.intro
              | omega
              | decide +kernel
            refine ⟨_, rfl, ⟨_, _, _, _, rfl, ?_⟩, int_some rfl, trivial⟩
            have htl : (ls.set p o).take ls.length = ls.set p o := List.take_of_length_le (by rw [List.length_set]; exact Nat.le_refl _)
            simp (maxSteps := 1000000) (disch := omega) only [go_sem, simprocAttr, toD, htl, List.length_map, List.length_set, Nat.le_refl, List.drop_zero]
            rw [List.take_of_length_le (by rw [List.length_map, List.length_set]; exact Nat.le_refl _)]
      · rw [if_pos (by simpa using hso)]
        rw [decide_eq_false hso] at he
        by_cases hlen : o.length = y.length
        all_goals
          refine callsTo_of Try.func29 rfl (by decide +kernel) (Nat.le_of_ble_eq_true rfl) ?_
          intro hat B X w0
          have hol := at_len 2 hat rfl
          rw [List.length_map] at hol
          repeat' first
            | refine pw_seq ?_
            | refine pw_skip ?_
            | refine pw_ret ?_
            | refine pw_exit ?_
            | refine pw_block ?_
            | refine pw_region (fun _ => false) hmix ?_
            | (refine rc (hv) rfl ?_ ?_; (· first | rfl | (simp (disch := omega) only [go_sem, simprocAttr, List.append_eq, hy, hlen]; done)))
            | (refine rc (hs1) rfl ?_ ?_; (· first | rfl | (simp (disch := omega) only [go_sem, simprocAttr, List.append_eq, hy, hlen]; done)))
            | (refine rc (hs2) rfl ?_ ?_; (· first | rfl | (simp (disch := omega) only [go_sem, simprocAttr, List.append_eq, hy, hlen]; done)))
            | (refine rc (he) rfl ?_ ?_; (· first | rfl | (simp (disch := omega) only [go_sem, simprocAttr, List.append_eq, hy, hlen]; done)))
            | (refine wpG_split rfl rfl (fun hc => ?_) (fun hc => ?_) <;> try simp only [hcL, reduceCtorEq] at hc)
            | (refine pw_cond _ rfl rfl (fun hc => ?_) (fun hc => ?_) <;> (try simp only [hcL, reduceCtorEq] at hc) <;> try (exfalso; omega))
            | simp (maxSteps := 1000000) (disch := omega) only [go_sem, simprocAttr, List.append_eq, hy, hlen]
            | apply And.intro
            | omega
            | decide +kernel
          all_goals
            refine ⟨_, rfl, ⟨_, _, _, _, rfl, ?_⟩, int_some ?_, trivial⟩
            · simp (maxSteps := 1000000) (disch := omega) only [go_sem, simprocAttr, toD]
              rfl
            · rfl
/-- Validity does not hang on the order in the layers. -/
theorem valid_sort {a b : Lv} (h : sortLv a = sortLv b) : validF a = validF b := by
  obtain ⟨n, ls, ar, cs⟩ := a
  obtain ⟨n', ls', ar', cs'⟩ := b
  simp only [sortLv, Prod.mk.injEq] at h
  obtain ⟨rfl, h, rfl, rfl⟩ := h
  have hlay : ∀ v, layI ls v = layI ls' v := fun v => by rw [← sort_lay, h, sort_lay]
  have hlen : ls.length = ls'.length := by rw [← List.length_map (f := sortL), h, List.length_map]
  simp only [validF, headOk, foundOk, srcG, ranksV, lostV, sortLv, hlay, hlen, h]
  have e : ∀ w : Nat → Bool, w = w := fun _ => rfl
  congr 3
  · congr 1
    congr 1
    funext v
    simp only [lostV, hlay]
theorem reorder_sort {a : Lv} {i : Nat} {o y : List Int} (hy : a.2.1[i]? = some y) (h : sortL o = sortL y) : sortLv (a.1, a.2.1.set i o, a.2.2.1, a.2.2.2) = sortLv a := by
  simp only [sortLv, List.map_set, h]
  congr 2
  refine List.ext_getElem? fun u => ?_
  rw [List.getElem?_set]
  split
  · subst i
    rw [List.getElem?_map, hy]
    split
    · rfl
    · rename_i hn
      rw [List.length_map] at hn
      exact absurd (List.getElem?_eq_some_iff.1 hy).1 hn
  · rfl
theorem reorder_valid {a : Lv} {i : Int} {o : List Int} (h : (reorderF a i o).2 = 0) : validF (reorderF a i o).1 = true := by
  rw [reorderF] at h ⊢
  split at h
  · cases h
  · rename_i h1
    split at h
    · cases h
    · rename_i h2
      split at h
      · cases h
      · rename_i h3
        rw [if_neg h1, if_neg h2, if_neg h3]
        obtain ⟨y, hy⟩ := get_some (l := a.2.1) (k := i.toNat) (by omega)
        rw [hy, Option.getD_some] at h3
        rw [valid_sort (reorder_sort hy (Decidable.not_not.1 h3))]
        simpa using h1
theorem reorder_wide {a : Lv} {i : Int} {o : List Int} (hw : wide a) (ho : o.length ≤ 600) : wide (reorderF a i o).1 := by
  rw [reorderF]
  split
  · intro y hy; cases hy
  · split
    · intro y hy; cases hy
    · split
      · intro y hy; cases hy
      · intro y hy
        rcases List.mem_or_eq_of_mem_set hy with hy | rfl
        · exact hw y hy
        · omega
end Go.Proofs.Ytpmmikkojpcogaa
namespace Go.Proofs.Ytpmmikkojpcogaa
open Go Go.PS Go.Proofs
set_option maxRecDepth 100000
theorem cells_int {n : Nat} {cs : List D} (h : CellsOk Try.prog (n + 1) 3 cs) : ∃ m : Int, cs = [.int m] := by
  have hu : Try.prog.underlying 3 = some (.int .i64) := by kernel_rfl
  simp only [CellsOk, hu] at h
  obtain ⟨m, rfl, _⟩ := h
  exact ⟨m, rfl⟩
theorem arg_int {x : D} (h : ArgOk Try.prog 3 x) : ∃ m : Int, x = .int m := by
  obtain ⟨cs, h, rfl⟩ := h
  obtain ⟨m, rfl⟩ := cells_int h
  rw [ty3]
  exact ⟨m, rfl⟩
theorem cells_arc {n : Nat} {cs : List D} (h : CellsOk Try.prog (n + 2) 39 cs) : ∃ p : Arc, cs = [.int p.1, .int p.2] := by
  have h := cells_struct (ts := [3, 3]) (by kernel_rfl) h
  obtain ⟨p, r, rfl, hp, q, r', rfl, hq, rfl⟩ := h
  obtain ⟨a, rfl⟩ := cells_int hp
  obtain ⟨b, rfl⟩ := cells_int hq
  exact ⟨(a, b), rfl⟩
theorem cells_arcs {n : Nat} {cs : List D} (h : CellsOk Try.prog (n + 3) 22 cs) : ∃ l : List Arc, cs = [arcsD l] := by
  obtain ⟨l, rfl, hl⟩ := cells_slice (e := 39) (by kernel_rfl) h
  obtain ⟨ys, rfl⟩ := map_of (f := arcD) (l := l) (fun d hd => by
    obtain ⟨es, rfl, _, he⟩ := hl d hd
    obtain ⟨p, rfl⟩ := cells_arc he
    rw [ty39]; exact ⟨p, rfl⟩)
  exact ⟨ys, rfl⟩
theorem cells_ints {n : Nat} {cs : List D} (h : CellsOk Try.prog (n + 2) 25 cs) : ∃ l : List Int, cs = [intsD l] ∧ l.length * 8 ≤ 140737488351232 := by
  obtain ⟨l, rfl, hb, hl⟩ := cells_sliceS (e := 3) (by kernel_rfl) h
  obtain ⟨ys, rfl⟩ := map_of (f := D.int) (l := l) (fun d hd => by
    obtain ⟨es, rfl, _, he⟩ := hl d hd
    obtain ⟨p, rfl⟩ := cells_int he
    rw [ty3]; exact ⟨p, rfl⟩)
  refine ⟨ys, rfl, ?_⟩
  have hb3 : Try.prog.bytesOf 3 = 8 := by kernel_rfl
  rw [hb3, List.length_map] at hb
  exact hb
theorem map_of2 {α : Type} {f : α → D} {p : α → Prop} : ∀ {l : List D}, (∀ d ∈ l, ∃ a, d = f a ∧ p a) → ∃ ys : List α, l = ys.map f ∧ ∀ y ∈ ys, p y
  | [], _ => ⟨[], rfl, fun y hy => by cases hy⟩
  | d :: l, h => by
    obtain ⟨a, rfl, ha⟩ := h d (by simp)
    obtain ⟨ys, rfl, hy⟩ := map_of2 (l := l) (fun e he => h e (List.mem_cons_of_mem _ he))
    refine ⟨a :: ys, rfl, fun y hy2 => ?_⟩
    rcases List.mem_cons.1 hy2 with rfl | hy2
    · exact ha
    · exact hy y hy2
theorem cells_lists {n : Nat} {cs : List D} (h : CellsOk Try.prog (n + 3) 26 cs) : ∃ l : List (List Int), cs = [listsD l] ∧ ∀ y ∈ l, y.length * 8 ≤ 140737488351232 := by
  obtain ⟨l, rfl, hl⟩ := cells_slice (e := 25) (by kernel_rfl) h
  obtain ⟨ys, rfl, hy⟩ := map_of2 (f := intsD) (p := fun y => y.length * 8 ≤ 140737488351232) (l := l) (fun d hd => by
    obtain ⟨es, rfl, _, he⟩ := hl d hd
    obtain ⟨p, rfl, hp⟩ := cells_ints he
    rw [ty25]; exact ⟨p, rfl, hp⟩)
  exact ⟨ys, rfl, hy⟩
theorem arg_ints {x : D} (h : ArgOk Try.prog 25 x) : ∃ l : List Int, x = intsD l := by
  obtain ⟨cs, h, rfl⟩ := h
  obtain ⟨l, rfl, _⟩ := cells_ints h
  rw [ty25]; exact ⟨l, rfl⟩
theorem arg_g {x : D} (h : ArgOk Try.prog 24 x) : ∃ g : Gr, x = gD g := by
  obtain ⟨cs, h, rfl⟩ := h
  have h := cells_struct (ts := [3, 22]) (by kernel_rfl) h
  obtain ⟨_, _, rfl, h1, _, _, rfl, h2, rfl⟩ := h
  obtain ⟨a, rfl⟩ := cells_int h1
  obtain ⟨l, rfl⟩ := cells_arcs h2
  rw [ty24]
  exact ⟨(a, l), rfl⟩
theorem arg_lv {x : D} (h : ArgOk Try.prog 28 x) : ∃ a : {a : Lv // wide a}, x = lvD a.1 := by
  obtain ⟨cs, h, rfl⟩ := h
  have h := cells_struct (ts := [3, 26, 22, 26]) (by kernel_rfl) h
  obtain ⟨_, _, rfl, h1, _, _, rfl, h2, _, _, rfl, h3, _, _, rfl, h4, rfl⟩ := h
  obtain ⟨a, rfl⟩ := cells_int h1
  obtain ⟨b, rfl, hb⟩ := cells_lists h2
  obtain ⟨c, rfl⟩ := cells_arcs h3
  obtain ⟨d, rfl, _⟩ := cells_lists h4
  rw [ty28]
  exact ⟨⟨(a, b, c, d), hb⟩, rfl⟩
end Go.Proofs.Ytpmmikkojpcogaa
namespace Go.Proofs.Ytpmmikkojpcogaa
open Go Go.PS Go.Proofs
set_option maxRecDepth 100000
set_option linter.unusedSimpArgs false
set_option linter.unusedVariables false
attribute [local irreducible] wpRun wpG CallsTo CallsM

theorem at0_left {l m : List Int} {n : Nat} (h : n < l.length) : at0 (l ++ m) n = at0 l n := by
  rw [at0, at0, Int.toNat_natCast, List.getElem?_append_left h]
theorem allR_pre (r : List Int) (l : List Arc) {e m : Nat} (h : e ≤ m) : ∃ x, allR r l m = allR r l e ++ x := by
  refine ⟨((l.drop e).take (m - e)).flatMap fun a => news r a (gapN r a), ?_⟩
  rw [allR, allR, List.append_assoc, ← List.flatMap_append]
  congr 2
  obtain ⟨k, rfl⟩ : ∃ k, m = e + k := ⟨m - e, by omega⟩
  rw [List.take_add, Nat.add_sub_cancel_left]
theorem arcsF_pre (r : List Int) (l : List Arc) (e : Nat) : ∀ k, ∃ x, arcsF r l (e + k) = arcsF r l e ++ x
  | 0 => ⟨[], by simp⟩
  | k + 1 => by
    obtain ⟨x, hx⟩ := arcsF_pre r l e k
    refine ⟨x ++ arcsAt r l (e + k), ?_⟩
    rw [← List.append_assoc, ← hx]; rfl
theorem arcsF_succ {r : List Int} {l : List Arc} {e : Nat} {a : Arc} (ha : l[e]? = some a) : arcsF r l (e + 1) = arcsF r l e ++ pairsN (chainOf r (allR r l e).length a) (gapN r a + 1) := by
  rw [arcsF, catN, arcsAt, ha]; rfl
/-- Arc j of chain e. -/
theorem arcsF_get {r : List Int} {l : List Arc} {e j : Nat} {a : Arc} (ha : l[e]? = some a) (hj : j < gapN r a + 1) : (arcsF r l l.length)[(arcsF r l e).length + j]? = some (pairAt (chainOf r (allR r l e).length a) j) := by
  have hel := (List.getElem?_eq_some_iff.1 ha).1
  obtain ⟨x, hx⟩ := arcsF_pre r l (e + 1) (l.length - (e + 1))
  rw [show e + 1 + (l.length - (e + 1)) = l.length by omega] at hx
  have hp : (pairsN (chainOf r (allR r l e).length a) (gapN r a + 1))[j]? = some (pairAt (chainOf r (allR r l e).length a) j) := by simp [pairsN, hj]
  rw [hx, arcsF_succ ha, List.append_assoc, List.getElem?_append_right (by omega), Nat.add_sub_cancel_left, List.getElem?_append_left (by rw [pairsN_len]; exact hj), hp]
theorem chainOf_first (r : List Int) (n0 : Nat) (a : Arc) : at0 (chainOf r n0 a) ((0 : Nat) : Int) = a.1 := rfl
theorem chainOf_mid {r : List Int} {n0 : Nat} {a : Arc} {j : Nat} (h : j < gapN r a) : at0 (chainOf r n0 a) ((j + 1 : Nat) : Int) = ((n0 + j : Nat) : Int) := by
  rw [chainOf, at0_left (by rw [chainUp_len]; omega), at0, Int.toNat_natCast, chainUp, List.getElem?_cons_succ]
  simp [h]
theorem chainOf_last (r : List Int) (n0 : Nat) (a : Arc) : at0 (chainOf r n0 a) ((gapN r a + 1 : Nat) : Int) = a.2 := by
  rw [at0, Int.toNat_natCast, chainOf, List.getElem?_append_right (by rw [chainUp_len]; exact Nat.le_refl _), chainUp_len, Nat.sub_self]; rfl
namespace Built
variable {g : Gr} {r : List Int}
/-- The vertices of a chain, and their ranks. -/
theorem chain_at (b : Built g r) {e j : Nat} {a : Arc} (ha : g.2[e]? = some a) (hj : j ≤ gapN r a + 1) :
    0 ≤ at0 (chainOf r (allR r g.2 e).length a) j ∧ at0 (chainOf r (allR r g.2 e).length a) j < (allR r g.2 g.2.length).length ∧ at0 (allR r g.2 g.2.length) (at0 (chainOf r (allR r g.2 e).length a) j) = at0 r a.1 + j := by
  have hel := (List.getElem?_eq_some_iff.1 ha).1
  have he := b.ends ha
  have hg := b.gap e a ha
  have hl := b.len
  have hge := b.all_ge
  obtain ⟨x, hx⟩ := allR_pre r g.2 (show 0 ≤ g.2.length by omega)
  have h0 : allR r g.2 0 = r := by simp [allR]
  rw [h0] at hx
  have hpre : ∀ v : Int, 0 ≤ v → v < g.1 → at0 (allR r g.2 g.2.length) v = at0 r v := fun v h1 h2 => by
    obtain ⟨n, rfl⟩ : ∃ n : Nat, v = n := ⟨v.toNat, by omega⟩
    rw [hx, at0_left (by omega)]
  rcases Nat.eq_zero_or_pos j with rfl | h1
  · rw [chainOf_first, hpre _ he.1 he.2.1]
    omega
  · obtain ⟨j, rfl⟩ : ∃ i, j = i + 1 := ⟨j - 1, by omega⟩
    rcases Nat.lt_or_ge j (gapN r a) with h2 | h2
    · rw [chainOf_mid h2]
      obtain ⟨y, hy⟩ := allR_pre r g.2 (show e + 1 ≤ g.2.length by omega)
      rw [allR_succ ha] at hy
      have hlen := congrArg List.length hy
      simp only [List.length_append, news_len] at hlen
      refine ⟨by omega, by omega, ?_⟩
      rw [hy, at0_left (by rw [List.length_append, news_len]; omega), at0, Int.toNat_natCast, List.getElem?_append_right (by omega), Nat.add_sub_cancel_left]
      simp only [news, List.getElem?_map, List.getElem?_range h2, Option.map_some, Option.getD_some]
      omega
    · have hj2 : j = gapN r a := by omega
      subst hj2
      rw [chainOf_last, hpre _ he.2.2.1 he.2.2.2]
      have hgn : (gapN r a : Int) = at0 r a.2 - at0 r a.1 - 1 := by rw [gapN]; omega
      omega
end Built
end Go.Proofs.Ytpmmikkojpcogaa
namespace Go.Proofs.Ytpmmikkojpcogaa
open Go Go.PS Go.Proofs
set_option maxRecDepth 100000
set_option linter.unusedSimpArgs false
set_option linter.unusedVariables false
attribute [local irreducible] wpRun wpG CallsTo CallsM

theorem getM_put (m : List (Int × Int)) (k v u : Int) : getM (putM m k v) u = if k = u then v else getM m u := by
  induction m with
  | nil => simp only [putM, getM]
  | cons p m ih =>
    obtain ⟨a, b⟩ := p
    simp only [putM]
    by_cases h : a = k
    · rw [if_pos h]
      simp only [getM]
      by_cases h2 : k = u
      · rw [if_pos h2, if_pos h2]
      · rw [if_neg h2, if_neg h2, if_neg (by rw [h]; exact h2)]
    · rw [if_neg h]
      simp only [getM, ih]
      by_cases h2 : a = u
      · rw [if_pos h2, if_neg (by omega)]
        simp [h2]
      · rw [if_neg h2]; simp [h2]
/-- A map that is filled layer by layer. -/
def rowM (m : List (Int × Int)) (y : List Int) (g : Nat → Int) : Nat → List (Int × Int)
  | 0 => m
  | k + 1 => putM (rowM m y g k) (at0 y k) (g k)
def allM (h : Nat → Nat → Int) (ls : List (List Int)) : Nat → List (Int × Int)
  | 0 => []
  | i + 1 => rowM (allM h ls i) ((ls[i]?).getD []) (h i) (((ls[i]?).getD []).length)
def plM (ls : List (List Int)) : List (Int × Int) := allM (fun _ k => k) ls ls.length
def lyM (ls : List (List Int)) : List (Int × Int) := allM (fun i _ => i) ls ls.length
theorem idxOf_at : ∀ {y : List Int} {k : Nat} {v : Int}, y.Nodup → y[k]? = some v → y.idxOf v = k
  | [], k, v, _, h => by simp at h
  | a :: y, 0, v, _, h => by simp at h; subst h; simp
  | a :: y, k + 1, v, hn, h => by
    have hn2 := List.nodup_cons.1 hn
    have h2 : y[k]? = some v := by simpa using h
    have hne : a ≠ v := fun e => hn2.1 (e ▸ List.mem_of_getElem? h2)
    have ih := idxOf_at hn2.2 h2
    have hb : (a == v) = false := by simpa using hne
    simp [List.idxOf_cons, hb, ih]
theorem getM_row (m : List (Int × Int)) (y : List Int) (g : Nat → Int) (u : Int) : ∀ k, k ≤ y.length → y.Nodup → getM (rowM m y g k) u = if u ∈ y.take k then g (y.idxOf u) else getM m u
  | 0, _, _ => by simp [rowM]
  | k + 1, h, hn => by
    have hk := at0_at (r := y) (i := k) (by omega)
    have hi : y.idxOf (at0 y k) = k := idxOf_at hn hk
    rw [rowM, getM_put, getM_row m y g u k (by omega) hn, take_snoc hk]
    simp only [List.mem_append, List.mem_singleton]
    by_cases c : at0 y k = u
    · rw [if_pos c, if_pos (.inr c.symm), ← c, hi]
    · rw [if_neg c]
      by_cases c2 : u ∈ y.take k
      · rw [if_pos c2, if_pos (.inl c2)]
      · rw [if_neg c2, if_neg (by rintro (h1 | h1); exact c2 h1; exact c h1.symm)]
theorem getM_all (h : Nat → Nat → Int) (ls : List (List Int)) (hn : ls.flatten.Nodup) (u : Int) : ∀ i, i ≤ ls.length → (∀ k y, k < i → ls[k]? = some y → u ∈ y → getM (allM h ls i) u = h k (y.idxOf u)) ∧ (u ∉ (ls.take i).flatten → getM (allM h ls i) u = 0)
  | 0, _ => ⟨fun k y hk => by omega, fun _ => rfl⟩
  | i + 1, hi => by
    obtain ⟨y, hy⟩ := get_some (l := ls) (k := i) (by omega)
    obtain ⟨g1, g2⟩ := getM_all h ls hn u i (by omega)
    have hsub : ∀ z, z ∈ ls → z.Nodup := fun z hz => (List.pairwise_flatten.1 hn).1 z hz
    have hyn := hsub y (List.mem_of_getElem? hy)
    have hr := getM_row (allM h ls i) y (h i) u y.length (Nat.le_refl _) hyn
    rw [List.take_length] at hr
    have ha : allM h ls (i + 1) = rowM (allM h ls i) y (h i) y.length := by rw [allM, hy]; rfl
    rw [ha, hr]
    refine ⟨fun k z hk hz hu => ?_, fun hu => ?_⟩
    · rcases Nat.lt_succ_iff_lt_or_eq.1 hk with h1 | rfl
      · have hd := List.pairwise_iff_getElem.1 (List.pairwise_flatten.1 hn).2 k i (List.getElem?_eq_some_iff.1 hz).1 (List.getElem?_eq_some_iff.1 hy).1 h1
        have e1 := (List.getElem?_eq_some_iff.1 hz).2
        have e2 := (List.getElem?_eq_some_iff.1 hy).2
        rw [e1, e2] at hd
        rw [if_neg (fun hu2 => hd u hu u hu2 rfl)]
        exact g1 k z h1 hz hu
      · rw [hy] at hz; cases hz
        rw [if_pos hu]
    · rw [take_snoc hy, List.flatten_append, List.mem_append] at hu
      rw [if_neg (fun hu2 => hu (.inr (by simpa using hu2)))]
      exact g2 fun hu2 => hu (.inl hu2)
set_option maxHeartbeats 4000000 in
theorem places_spec (a : Lv) (hn : a.2.1.length ≤ 1000) (hl : ∀ y, y ∈ a.2.1 → y.length ≤ 1000) : CallsM Try.prog 70 [.d (lvD a)] [(2000, .dead), (2001, .dead)] (.tup [.mp 2000, .mp 2001]) [(2000, .imap (plM a.2.1)), (2001, .imap (lyM a.2.1))] := by
  obtain ⟨n, ls, ar, cs⟩ := a
  dsimp only at hn hl
  refine callsM_of Try.func70 rfl (by decide +kernel) (Nat.le_of_ble_eq_true rfl) rfl (nodup_of rfl) rfl rfl rfl ?_
  intro B X w0
  repeat' first
    | refine pw_seq ?_
    | refine pw_skip ?_
    | refine pw_ret ?_
    | refine pw_exit ?_
    | refine pw_block ?_
    | refine pw_region (fun _ => false) hmix ?_
    | (refine wpG_split rfl rfl (fun hc => ?_) (fun hc => ?_) <;> try simp only [hcL, reduceCtorEq] at hc)
    | (refine pw_cond _ rfl rfl (fun hc => ?_) (fun hc => ?_) <;> (try simp only [hcL, reduceCtorEq] at hc) <;> try (exfalso; omega))
    | simp (maxSteps := 1000000) (disch := omega) only [go_sem, simprocAttr]
    | apply And.intro
    | omega
    | decide +kernel
  refine pw_loopI (κ := Nat) (fun (i : Nat) => i ≤ ls.length) (fun (i : Nat) => [(1, .ptr 1 0 0 0), (2, .mp 8), (3, .mp 9), (11, .d (listsD ls)), (12, .int ls.length), (13, .int i)]) (fun (i : Nat) => [(1, .cells [.int n, .d (listsD ls), .d (arcsD ar), .d (listsD cs)]), (8, .imap (allM (fun _ k => k) ls i)), (9, .imap (allM (fun i _ => i) ls i))]) (fun (i : Nat) => ls.length - i) 0 ?_ ?_ ?_
  · exact Nat.zero_le _
  · exact eL [] _ _ (by refine ⟨?_, ?_⟩ <;> (repeat' first | exact List.forall_mem_nil _ | refine List.forall_mem_cons.2 ⟨(by first | rfl | (simp (disch := omega) only [go_sem, simprocAttr, inL, allM]; first | done | omega | (congr 1; done))), ?_⟩); done)
  · intro i hi
    rcases Nat.lt_or_ge i ls.length with hlt | hge
    · obtain ⟨y, hy⟩ := get_some hlt
      have hyl := hl y (List.mem_of_getElem? hy)
      have e1 : allM (fun _ k => (k : Int)) ls (i + 1) = rowM (allM (fun _ k => (k : Int)) ls i) y (fun k => (k : Int)) y.length := by rw [allM, hy]; rfl
      have e2 : allM (fun i _ => (i : Int)) ls (i + 1) = rowM (allM (fun i _ => (i : Int)) ls i) y (fun _ => (i : Int)) y.length := by rw [allM, hy]; rfl
      repeat' first
        | refine pw_seq ?_
        | refine pw_skip ?_
        | refine pw_ret ?_
        | refine pw_exit ?_
        | refine pw_block ?_
        | refine pw_region (fun _ => false) hmix ?_
        | (refine wpG_split rfl rfl (fun hc => ?_) (fun hc => ?_) <;> try simp only [hcL, reduceCtorEq] at hc)
        | (refine pw_cond _ rfl rfl (fun hc => ?_) (fun hc => ?_) <;> (try simp only [hcL, reduceCtorEq] at hc) <;> try (exfalso; omega))
        | simp (maxSteps := 1000000) (disch := omega) only [go_sem, simprocAttr, hy]
        | apply And.intro
        | omega
        | decide +kernel
      refine pw_loopI (κ := Nat) (fun (k : Nat) => k ≤ y.length) (fun (k : Nat) => [(1, .ptr 1 0 0 0), (2, .mp 8), (3, .mp 9), (4, .int i), (11, .d (listsD ls)), (12, .int ls.length), (13, .int i), (18, .d (intsD y)), (19, .int y.length), (20, .int k)]) (fun (k : Nat) => [(1, .cells [.int n, .d (listsD ls), .d (arcsD ar), .d (listsD cs)]), (8, .imap (rowM (allM (fun _ k => k) ls i) y (fun k => (k : Int)) k)), (9, .imap (rowM (allM (fun i _ => i) ls i) y (fun _ => (i : Int)) k))]) (fun (k : Nat) => y.length - k) 0 ?_ ?_ ?_
      · exact Nat.zero_le _
      · exact eL [] _ _ (by refine ⟨?_, ?_⟩ <;> (repeat' first | exact List.forall_mem_nil _ | refine List.forall_mem_cons.2 ⟨(by first | rfl | (simp (disch := omega) only [go_sem, simprocAttr, inL, rowM]; first | done | omega | (congr 1; done))), ?_⟩); done)
      · intro k hk
        rcases Nat.lt_or_ge k y.length with hlk | hgk
        · have gy := at0_at hlk
          repeat' first
            | refine pw_seq ?_
            | refine pw_skip ?_
            | refine pw_ret ?_
            | refine pw_exit ?_
            | refine pw_block ?_
            | refine pw_region (fun _ => false) hmix ?_
            | (refine wpG_split rfl rfl (fun hc => ?_) (fun hc => ?_) <;> try simp only [hcL, reduceCtorEq] at hc)
            | (refine pw_cond _ rfl rfl (fun hc => ?_) (fun hc => ?_) <;> (try simp only [hcL, reduceCtorEq] at hc) <;> try (exfalso; omega))
            | simp (maxSteps := 1000000) (disch := omega) only [go_sem, simprocAttr, gy]
            | apply And.intro
            | omega
            | decide +kernel
          refine ⟨k + 1, ?_, eL [] _ _ (by refine ⟨?_, ?_⟩ <;> (repeat' first | exact List.forall_mem_nil _ | refine List.forall_mem_cons.2 ⟨(by first | rfl | (simp (disch := omega) only [go_sem, simprocAttr, inL, rowM]; first | done | omega | (congr 1; done))), ?_⟩); done), ?_⟩
          · omega
          · omega
        · have : k = y.length := by omega
          subst this
          repeat' first
            | refine pw_seq ?_
            | refine pw_skip ?_
            | refine pw_ret ?_
            | refine pw_exit ?_
            | refine pw_block ?_
            | refine pw_region (fun _ => false) hmix ?_
            | (refine wpG_split rfl rfl (fun hc => ?_) (fun hc => ?_) <;> try simp only [hcL, reduceCtorEq] at hc)
            | (refine pw_cond _ rfl rfl (fun hc => ?_) (fun hc => ?_) <;> (try simp only [hcL, reduceCtorEq] at hc) <;> try (exfalso; omega))
            | simp (maxSteps := 1000000) (disch := omega) only [go_sem, simprocAttr]
            | apply And.intro
            | omega
            | decide +kernel
          refine ⟨i + 1, ?_, eL [] _ _ (by refine ⟨?_, ?_⟩ <;> (repeat' first | exact List.forall_mem_nil _ | refine List.forall_mem_cons.2 ⟨(by first | rfl | (simp (disch := omega) only [go_sem, simprocAttr, inL, e1, e2]; first | done | omega | (congr 1; done))), ?_⟩); done), ?_⟩
          · omega
          · omega
    · have : i = ls.length := by omega
      subst this
      repeat' first
        | refine pw_seq ?_
        | refine pw_skip ?_
        | refine pw_exit ?_
        | refine pw_block ?_
        | refine pw_region (fun _ => false) hmix ?_
        | (refine wpG_split rfl rfl (fun hc => ?_) (fun hc => ?_) <;> try simp only [hcL, reduceCtorEq] at hc)
        | (refine pw_cond _ rfl rfl (fun hc => ?_) (fun hc => ?_) <;> (try simp only [hcL, reduceCtorEq] at hc) <;> try (exfalso; omega))
        | simp (maxSteps := 1000000) (disch := omega) only [go_sem, simprocAttr]
        | apply And.intro
        | omega
        | decide +kernel
      refine eR [(2000, 8), (2001, 9)] [(2, .mp 2000), (3, .mp 2001)] [(2000, .imap (plM ls)), (2001, .imap (lyM ls))] (by refine ⟨?_, ?_⟩ <;> (repeat' first | exact List.forall_mem_nil _ | refine List.forall_mem_cons.2 ⟨(by first | rfl | (simp (disch := omega) only [go_sem, simprocAttr, inL]; first | done | omega | (congr 1; done))), ?_⟩); done) ?_
      refine pw_ret ?_
      exact ⟨⟨_, rfl, rfl, rfl, trivial⟩, List.forall_mem_cons.2 ⟨rfl, List.forall_mem_cons.2 ⟨rfl, List.forall_mem_nil _⟩⟩⟩
end Go.Proofs.Ytpmmikkojpcogaa
namespace Go.Proofs.Ytpmmikkojpcogaa
open Go Go.PS Go.Proofs
set_option maxRecDepth 100000
set_option linter.unusedSimpArgs false
set_option linter.unusedVariables false
attribute [local irreducible] wpRun wpG CallsTo CallsM

/-- Vertex v lies in layer r, at place p. -/
def Lies (ls : List (List Int)) (v : Int) (r p : Nat) : Prop := ∃ y, ls[r]? = some y ∧ y[p]? = some v
theorem lies_of {ls : List (List Int)} {v : Int} (h : v ∈ ls.flatten) : ∃ r p, Lies ls v r p := by
  obtain ⟨y, hy, hv⟩ := List.mem_flatten.1 h
  obtain ⟨r, hr⟩ := List.getElem?_of_mem hy
  obtain ⟨p, hp⟩ := List.getElem?_of_mem hv
  exact ⟨r, p, y, hr, hp⟩
theorem Lies.mem {ls : List (List Int)} {v : Int} {r p : Nat} (h : Lies ls v r p) : v ∈ ls.flatten := by
  obtain ⟨y, h1, h2⟩ := h
  exact List.mem_flatten.2 ⟨y, List.mem_of_getElem? h1, List.mem_of_getElem? h2⟩
theorem Lies.idx {ls : List (List Int)} (hn : ls.flatten.Nodup) {v : Int} {r p : Nat} {y : List Int} (hy : ls[r]? = some y) (h : y[p]? = some v) : y.idxOf v = p := by
  have hyn := (List.pairwise_flatten.1 hn).1 y (List.mem_of_getElem? hy)
  exact idxOf_at hyn h
theorem Lies.layer {ls : List (List Int)} (hn : ls.flatten.Nodup) {v : Int} {r p r' p' : Nat} (h : Lies ls v r p) (h' : Lies ls v r' p') : r = r' := by
  obtain ⟨y, h1, h2⟩ := h
  obtain ⟨z, h3, h4⟩ := h'
  have e1 := List.getElem?_eq_some_iff.1 h1
  have e2 := List.getElem?_eq_some_iff.1 h3
  have hp := (List.pairwise_flatten.1 hn).2
  rcases Nat.lt_trichotomy r r' with h | h | h
  · have := List.pairwise_iff_getElem.1 hp r r' e1.1 e2.1 h
    rw [e1.2, e2.2] at this
    exact absurd rfl (this v (List.mem_of_getElem? h2) v (List.mem_of_getElem? h4))
  · exact h
  · have := List.pairwise_iff_getElem.1 hp r' r e2.1 e1.1 h
    rw [e1.2, e2.2] at this
    exact absurd rfl (this v (List.mem_of_getElem? h4) v (List.mem_of_getElem? h2))
theorem Lies.place {ls : List (List Int)} (hn : ls.flatten.Nodup) {v : Int} {r p p' : Nat} (h : Lies ls v r p) (h' : Lies ls v r p') : p = p' := by
  obtain ⟨y, h1, h2⟩ := h
  obtain ⟨z, h3, h4⟩ := h'
  rw [h1] at h3; cases h3
  rw [← Lies.idx hn h1 h2, ← Lies.idx hn h1 h4]
theorem Lies.ly {ls : List (List Int)} (hn : ls.flatten.Nodup) {v : Int} {r p : Nat} (h : Lies ls v r p) : getM (lyM ls) v = r := by
  obtain ⟨y, h1, h2⟩ := h
  exact (getM_all _ ls hn v ls.length (Nat.le_refl _)).1 r y (List.getElem?_eq_some_iff.1 h1).1 h1 (List.mem_of_getElem? h2)
theorem Lies.pl {ls : List (List Int)} (hn : ls.flatten.Nodup) {v : Int} {r p : Nat} (h : Lies ls v r p) : getM (plM ls) v = p := by
  obtain ⟨y, h1, h2⟩ := h
  rw [plM, (getM_all _ ls hn v ls.length (Nat.le_refl _)).1 r y (List.getElem?_eq_some_iff.1 h1).1 h1 (List.mem_of_getElem? h2), Lies.idx hn h1 h2]
theorem Lies.lay {ls : List (List Int)} (hn : ls.flatten.Nodup) {v : Int} {r p : Nat} (h : Lies ls v r p) : layI ls v = r := by
  have h0 := layI_mem.2 h.mem
  have hd := h
  obtain ⟨y, h1, h2⟩ := h
  rw [layI] at h0 ⊢
  cases hf : ls.findIdx? (fun y => y.any fun x => decide (x = v)) with
  | none => rw [hf] at h0; exact absurd h0 (by decide)
  | some k =>
    have hk := List.findIdx?_eq_some_iff_getElem.1 hf
    obtain ⟨hk1, hk2, _⟩ := hk
    obtain ⟨x, hx, hxv⟩ := List.any_eq_true.1 hk2
    have : x = v := by simpa using hxv
    subst this
    obtain ⟨p', hp'⟩ := List.getElem?_of_mem hx
    have := Lies.layer hn hd (⟨ls[k], List.getElem?_eq_getElem hk1, hp'⟩ : Lies ls x k p')
    rw [this]; rfl
/-- The ends of an arc of valid levels. -/
structure Joins (ls : List (List Int)) (x : Arc) (r p q : Nat) : Prop where
  up : Lies ls x.1 r p
  dn : Lies ls x.2 (r + 1) q
theorem valid_nodup {a : Lv} (h : validF a = true) : a.2.1.flatten.Nodup := by
  obtain ⟨_, _, hr⟩ := valid_built h
  obtain ⟨_, _, hg, _⟩ := ranks_ok hr
  exact (good_iff.1 hg).2
theorem valid_joins {a : Lv} (h : validF a = true) {k : Nat} {x : Arc} (hx : a.2.2.1[k]? = some x) : ∃ r p q, Joins a.2.1 x r p q := by
  have hn := valid_nodup h
  obtain ⟨b, hm, hr⟩ := valid_built h
  obtain ⟨_, _, hg, ho⟩ := ranks_ok hr
  have har : a.2.2.1 = arcsF (ranksV a) (srcG a).2 (srcG a).2.length := congrArg (fun x : Lv => x.2.2.1) hm
  -- an arc of chain e
  have hmem : ∀ m, m ≤ (srcG a).2.length → ∀ x, x ∈ arcsF (ranksV a) (srcG a).2 m → ∃ e c j, (srcG a).2[e]? = some c ∧ j < gapN (ranksV a) c + 1 ∧ x = pairAt (chainOf (ranksV a) (allR (ranksV a) (srcG a).2 e).length c) j := by
    intro m
    induction m with
    | zero => intro _ x hx; simp [arcsF, catN] at hx
    | succ m ih =>
      intro hm x hx
      obtain ⟨c, hc⟩ := get_some (l := (srcG a).2) (k := m) (by omega)
      rw [arcsF_succ hc, List.mem_append] at hx
      rcases hx with hx | hx
      · exact ih (by omega) x hx
      · simp only [pairsN, List.mem_map, List.mem_range] at hx
        obtain ⟨j, hj, rfl⟩ := hx
        exact ⟨m, c, j, hc, hj, rfl⟩
  obtain ⟨e, c, j, hc, hj, rfl⟩ := hmem _ (Nat.le_refl _) x (har ▸ List.mem_of_getElem? hx)
  obtain ⟨x1, x2, x3⟩ := b.chain_at hc (j := j) (by omega)
  obtain ⟨y1, y2, y3⟩ := b.chain_at hc (j := j + 1) (by omega)
  rw [pairAt]
  generalize at0 (chainOf (ranksV a) (allR (ranksV a) (srcG a).2 e).length c) j = u at x1 x2 x3 ⊢
  generalize at0 (chainOf (ranksV a) (allR (ranksV a) (srcG a).2 e).length c) ((j + 1 : Nat) : Int) = v at y1 y2 y3 ⊢
  have hlay : ∀ u : Int, 0 ≤ u → u < (allR (ranksV a) (srcG a).2 (srcG a).2.length).length → layI a.2.1 u = at0 (allR (ranksV a) (srcG a).2 (srcG a).2.length) u := by
    intro u h0 h1
    have hl : (allR (ranksV a) (srcG a).2 (srcG a).2.length).length = tot a.2.1 := by rw [ho, rowR_len]
    obtain ⟨n, rfl⟩ : ∃ n : Nat, u = n := ⟨u.toNat, by omega⟩
    have := rowR_get (c := tot a.2.1) (v := n) (by omega) a.2.1
    rw [← ho, at0_at (by omega), Option.some.injEq] at this
    exact this.symm
  have e1 := hlay u x1 x2
  have e2 := hlay v y1 y2
  have hrk := b.rk c.1.toNat
  have hin := b.ends hc
  rw [show ((c.1.toNat : Nat) : Int) = c.1 by omega] at hrk
  obtain ⟨r, p, hl1⟩ := lies_of (layI_mem.1 (show 0 ≤ layI a.2.1 u by omega))
  obtain ⟨r2, q, hl2⟩ := lies_of (layI_mem.1 (show 0 ≤ layI a.2.1 v by omega))
  have e3 := hl1.lay hn
  have e4 := hl2.lay hn
  have : r2 = r + 1 := by omega
  subst this
  exact ⟨r, p, q, hl1, hl2⟩
end Go.Proofs.Ytpmmikkojpcogaa
