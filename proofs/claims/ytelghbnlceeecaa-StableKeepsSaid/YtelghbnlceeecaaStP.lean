/- Small arguments; the chapter's example. -/
import Derived.Test.YtelghbnlceeecaaStH
import Derived.Test.YtelghbnlceeecaaE
import Derived.Test.YtelghbnlceeecaaPSBridge
set_option linter.unusedSimpArgs false
set_option linter.unusedVariables false
namespace Go.Proofs.Ytelghbnlceeecaa
open Go Go.PS Go.Proofs
open Go.Bd (sm ix invF invN comN sumC Part bestF)
set_option maxRecDepth 100000
attribute [local irreducible] wpRun wpG CallsTo CallsM

def longB (n : Nat) (y : List Int) : Bool := decide (n < y.length)
def fewS (a : Lv) (old : List (List Int)) : Bool := !(a.2.2.2.take 41).any (longB 13) && !(old.take 13).any (longB 12) && decide (tot a.2.1 ≤ 30 ∧ a.2.1.length ≤ 12 ∧ a.2.2.1.length ≤ 40 ∧ a.2.2.2.length ≤ 40 ∧ old.length ≤ 12)
theorem any_takeL {p : List Int → Bool} {l : List (List Int)} {n k : Nat} {y : List Int} (h : l[k]? = some y) (hk : k < n) (hp : p y = true) : (l.take n).any p = true := any_at (k := k) (by rw [List.getElem?_take, if_pos hk]; exact h) hp
theorem no_takeL {p : List Int → Bool} {l : List (List Int)} {n : Nat} (h : ∀ (j : Nat) y, j < n → l[j]? = some y → p y = false) : (l.take n).any p = false := any_no fun j y hj hy => by
  rw [List.length_take] at hj
  rw [List.getElem?_take, if_pos (by omega)] at hy
  exact h j y (by omega) hy
set_option maxHeartbeats 8000000 in
theorem fewS_spec (a : Lv) (old : List (List Int)) (hw : wide a) : CallsTo Try.prog 18 [lvD a, listsD old] (.bool (fewS a old)) := by
  rw [fewS]
  have hyw : ∀ (k : Nat) y, a.2.1[k]? = some y → y.length * 8 ≤ 140737488351232 := fun k y h => hw y (List.mem_of_getElem? h)
  obtain ⟨n, ls, ar, cs⟩ := a
  dsimp only at hyw ⊢
  refine callsTo_of Try.func18 rfl (by decide +kernel) (Nat.le_of_ble_eq_true rfl) ?_
  intro hat B X w0
  have h1 := at_len2 0 1 hat rfl rfl
  have h2 := at_len2 0 2 hat rfl rfl
  have h3 := at_len2 0 3 hat rfl rfl
  have h4 := at_len 1 hat rfl
  rw [List.length_map] at h1 h2 h3 h4
  dsimp only at h1 h2 h3
  repeat' first | refine pw_seq ?_ | refine pw_skip ?_ | refine pw_ret ?_ | refine pw_exit ?_ | refine pw_block ?_ | refine pw_region (fun _ => false) hmix ?_ | (refine wpG_split rfl rfl (fun hc => ?_) (fun hc => ?_) <;> try simp only [hcL, reduceCtorEq] at hc) | (refine pw_cond _ rfl rfl (fun hc => ?_) (fun hc => ?_) <;> (try simp only [hcL, reduceCtorEq] at hc) <;> try (exfalso; omega)) | simp (maxSteps := 1000000) (disch := omega) only [go_sem, simprocAttr] | apply And.intro | omega | decide +kernel
  refine pw_loopI (κ := Nat) (fun (k : Nat) => k ≤ ls.length ∧ (0 < k → tot (ls.take (k - 1)) ≤ 30)) (fun (k : Nat) => [(1, .d (listsD old)), (2, .ptr 2 0 0 0), (5, .int (tot (ls.take k))), (6, .int k)]) (fun (k : Nat) => [(2, .cells [.int n, .d (listsD ls), .d (arcsD ar), .d (listsD cs)])]) (fun (k : Nat) => ls.length - k) 0 ?_ ?_ ?_
  · exact ⟨Nat.zero_le _, fun h => absurd h (Nat.lt_irrefl 0)⟩
  · exact eL [] _ _ (by refine ⟨?_, ?_⟩ <;> (repeat' first | exact List.forall_mem_nil _ | refine List.forall_mem_cons.2 ⟨(by first | rfl | (simp (disch := omega) only [go_sem, simprocAttr, inL, List.take_zero, tot]; first | done | omega | (congr 1; done))), ?_⟩); done)
  · rintro k ⟨hk, hkp⟩
    have hle := tot_take_le ls k
    have hbd : tot (ls.take k) ≤ 30 + 17592186043904 := by
      rcases k with _ | k
      · rw [List.take_zero]; simp [tot]
      · have := hkp (by omega)
        obtain ⟨y, hy⟩ := get_some (l := ls) (k := k) (by omega)
        have h5 := hyw k y hy
        rw [Nat.add_sub_cancel] at this
        rw [tot_snoc hy]; omega
    by_cases hgo : k < ls.length ∧ tot (ls.take k) ≤ 30
    · obtain ⟨hlt, h30⟩ := hgo
      obtain ⟨y, hy⟩ := get_some hlt
      have e1 := tot_snoc hy
      have h5 := hyw k y hy
      repeat' first | refine pw_seq ?_ | refine pw_skip ?_ | refine pw_ret ?_ | refine pw_exit ?_ | refine pw_block ?_ | refine pw_region (fun _ => false) hmix ?_ | (refine wpG_split rfl rfl (fun hc => ?_) (fun hc => ?_) <;> try simp only [hcL, reduceCtorEq] at hc) | (refine pw_cond _ rfl rfl (fun hc => ?_) (fun hc => ?_) <;> (try simp only [hcL, reduceCtorEq] at hc) <;> try (exfalso; omega)) | simp (maxSteps := 1000000) (disch := omega) only [go_sem, simprocAttr, hy] | apply And.intro | omega | decide +kernel
      refine ⟨k + 1, ?_, eL [] _ _ (by refine ⟨?_, ?_⟩ <;> (repeat' first | exact List.forall_mem_nil _ | refine List.forall_mem_cons.2 ⟨(by first | rfl | (simp (disch := omega) only [go_sem, simprocAttr, inL, e1, Int.natCast_add]; first | done | omega | (congr 1; done))), ?_⟩); done), ?_⟩
      · exact ⟨by omega, fun _ => by rw [Nat.add_sub_cancel]; exact h30⟩
      · omega
    · have hN : tot (ls.take k) ≤ 30 ↔ tot ls ≤ 30 := by
        by_cases hkl : k < ls.length
        · have : ¬ tot (ls.take k) ≤ 30 := fun h => hgo ⟨hkl, h⟩
          omega
        · rw [List.take_of_length_le (by omega)]
      generalize tot (ls.take k) = N at *
      have hgoI : ((k : Int) < ls.length ∧ ((N : Nat) : Int) ≤ 30) → False := fun h => hgo ⟨by omega, by omega⟩
      repeat' first | refine pw_seq ?_ | refine pw_skip ?_ | refine pw_ret ?_ | refine pw_exit ?_ | refine pw_block ?_ | refine pw_region (fun _ => false) hmix ?_ | (refine wpG_split rfl rfl (fun hc => ?_) (fun hc => ?_) <;> try simp only [hcL, reduceCtorEq] at hc) | (refine pw_cond _ rfl rfl (fun hc => ?_) (fun hc => ?_) <;> (try simp only [hcL, reduceCtorEq] at hc) <;> try (exfalso; omega)) | simp (maxSteps := 1000000) (disch := omega) only [go_sem, simprocAttr] | apply And.intro | omega | decide +kernel
      all_goals
        refine pw_loopI (κ := Nat) (fun (j : Nat) => j ≤ cs.length ∧ j ≤ 41 ∧ ∀ (q : Nat) y, q < j → cs[q]? = some y → longB 13 y = false) (fun (j : Nat) => [(1, .d (listsD old)), (2, .ptr 2 0 0 0), (5, .int N), (7, .int j)]) (fun (j : Nat) => [(2, .cells [.int n, .d (listsD ls), .d (arcsD ar), .d (listsD cs)])]) (fun (j : Nat) => cs.length - j) 0 ?_ ?_ ?_
        · exact ⟨Nat.zero_le _, by omega, fun q y hq => by omega⟩
        · exact eL [] _ _ (by refine ⟨?_, ?_⟩ <;> (repeat' first | exact List.forall_mem_nil _ | refine List.forall_mem_cons.2 ⟨(by first | rfl | (simp (disch := omega) only [go_sem, simprocAttr, inL]; first | done | omega | (congr 1; done))), ?_⟩); done)
        · rintro j ⟨hj1, hj2, hinv⟩
          by_cases hgo2 : j < cs.length ∧ j < 41
          · obtain ⟨g1, g2⟩ := hgo2
            obtain ⟨y, hy⟩ := get_some g1
            by_cases hlong : 13 < y.length
            · repeat' first | refine pw_seq ?_ | refine pw_skip ?_ | refine pw_ret ?_ | refine pw_exit ?_ | refine pw_block ?_ | refine pw_region (fun _ => false) hmix ?_ | (refine wpG_split rfl rfl (fun hc => ?_) (fun hc => ?_) <;> try simp only [hcL, reduceCtorEq] at hc) | (refine pw_cond _ rfl rfl (fun hc => ?_) (fun hc => ?_) <;> (try simp only [hcL, reduceCtorEq] at hc) <;> try (exfalso; omega)) | simp (maxSteps := 1000000) (disch := omega) only [go_sem, simprocAttr, hy, hlong] | apply And.intro | omega | decide +kernel
              refine bool_some ?_
              rw [any_takeL hy g2 (by rw [longB, decide_eq_true hlong])]; rfl
            · repeat' first | refine pw_seq ?_ | refine pw_skip ?_ | refine pw_ret ?_ | refine pw_exit ?_ | refine pw_block ?_ | refine pw_region (fun _ => false) hmix ?_ | (refine wpG_split rfl rfl (fun hc => ?_) (fun hc => ?_) <;> try simp only [hcL, reduceCtorEq] at hc) | (refine pw_cond _ rfl rfl (fun hc => ?_) (fun hc => ?_) <;> (try simp only [hcL, reduceCtorEq] at hc) <;> try (exfalso; omega)) | simp (maxSteps := 1000000) (disch := omega) only [go_sem, simprocAttr, hy, hlong] | apply And.intro | omega | decide +kernel
              refine ⟨j + 1, ?_, eL [] _ _ (by refine ⟨?_, ?_⟩ <;> (repeat' first | exact List.forall_mem_nil _ | refine List.forall_mem_cons.2 ⟨(by first | rfl | (simp (disch := omega) only [go_sem, simprocAttr, inL]; first | done | omega | (congr 1; done))), ?_⟩); done), ?_⟩
              · exact ⟨by omega, by omega, upto_succ hinv hy (by rw [longB, decide_eq_false hlong])⟩
              · omega
          · have ha1 : (cs.take 41).any (longB 13) = false := no_takeL fun q y hq hy => hinv q y (by have := (List.getElem?_eq_some_iff.1 hy).1; omega) hy
            repeat' first | refine pw_seq ?_ | refine pw_skip ?_ | refine pw_ret ?_ | refine pw_exit ?_ | refine pw_block ?_ | refine pw_region (fun _ => false) hmix ?_ | (refine wpG_split rfl rfl (fun hc => ?_) (fun hc => ?_) <;> try simp only [hcL, reduceCtorEq] at hc) | (refine pw_cond _ rfl rfl (fun hc => ?_) (fun hc => ?_) <;> (try simp only [hcL, reduceCtorEq] at hc) <;> try (exfalso; omega)) | simp (maxSteps := 1000000) (disch := omega) only [go_sem, simprocAttr] | apply And.intro | omega | decide +kernel
            all_goals
              refine pw_loopI (κ := Nat) (fun (u : Nat) => u ≤ old.length ∧ u ≤ 13 ∧ ∀ (q : Nat) y, q < u → old[q]? = some y → longB 12 y = false) (fun (u : Nat) => [(1, .d (listsD old)), (2, .ptr 2 0 0 0), (5, .int N), (8, .int u)]) (fun (u : Nat) => [(2, .cells [.int n, .d (listsD ls), .d (arcsD ar), .d (listsD cs)])]) (fun (u : Nat) => old.length - u) 0 ?_ ?_ ?_
              · exact ⟨Nat.zero_le _, by omega, fun q y hq => by omega⟩
              · exact eL [] _ _ (by refine ⟨?_, ?_⟩ <;> (repeat' first | exact List.forall_mem_nil _ | refine List.forall_mem_cons.2 ⟨(by first | rfl | (simp (disch := omega) only [go_sem, simprocAttr, inL]; first | done | omega | (congr 1; done))), ?_⟩); done)
              · rintro u ⟨hu1, hu2, hinv2⟩
                by_cases hgo3 : u < old.length ∧ u < 13
                · obtain ⟨g1, g2⟩ := hgo3
                  obtain ⟨y, hy⟩ := get_some g1
                  by_cases hlong : 12 < y.length
                  · repeat' first | refine pw_seq ?_ | refine pw_skip ?_ | refine pw_ret ?_ | refine pw_exit ?_ | refine pw_block ?_ | refine pw_region (fun _ => false) hmix ?_ | (refine wpG_split rfl rfl (fun hc => ?_) (fun hc => ?_) <;> try simp only [hcL, reduceCtorEq] at hc) | (refine pw_cond _ rfl rfl (fun hc => ?_) (fun hc => ?_) <;> (try simp only [hcL, reduceCtorEq] at hc) <;> try (exfalso; omega)) | simp (maxSteps := 1000000) (disch := omega) only [go_sem, simprocAttr, hy, hlong] | apply And.intro | omega | decide +kernel
                    refine bool_some ?_
                    rw [any_takeL (n := 13) hy g2 (by rw [longB, decide_eq_true hlong])]; simp
                  · repeat' first | refine pw_seq ?_ | refine pw_skip ?_ | refine pw_ret ?_ | refine pw_exit ?_ | refine pw_block ?_ | refine pw_region (fun _ => false) hmix ?_ | (refine wpG_split rfl rfl (fun hc => ?_) (fun hc => ?_) <;> try simp only [hcL, reduceCtorEq] at hc) | (refine pw_cond _ rfl rfl (fun hc => ?_) (fun hc => ?_) <;> (try simp only [hcL, reduceCtorEq] at hc) <;> try (exfalso; omega)) | simp (maxSteps := 1000000) (disch := omega) only [go_sem, simprocAttr, hy, hlong] | apply And.intro | omega | decide +kernel
                    refine ⟨u + 1, ?_, eL [] _ _ (by refine ⟨?_, ?_⟩ <;> (repeat' first | exact List.forall_mem_nil _ | refine List.forall_mem_cons.2 ⟨(by first | rfl | (simp (disch := omega) only [go_sem, simprocAttr, inL]; first | done | omega | (congr 1; done))), ?_⟩); done), ?_⟩
                    · exact ⟨by omega, by omega, upto_succ hinv2 hy (by rw [longB, decide_eq_false hlong])⟩
                    · omega
                · have ha2 : (old.take 13).any (longB 12) = false := no_takeL fun q y hq hy => hinv2 q y (by have := (List.getElem?_eq_some_iff.1 hy).1; omega) hy
                  repeat' first | refine pw_seq ?_ | refine pw_skip ?_ | refine pw_ret ?_ | refine pw_exit ?_ | refine pw_block ?_ | refine pw_region (fun _ => false) hmix ?_ | (refine wpG_split rfl rfl (fun hc => ?_) (fun hc => ?_) <;> try simp only [hcL, reduceCtorEq] at hc) | (refine pw_cond _ rfl rfl (fun hc => ?_) (fun hc => ?_) <;> (try simp only [hcL, reduceCtorEq] at hc) <;> try (exfalso; omega)) | simp (maxSteps := 1000000) (disch := omega) only [go_sem, simprocAttr] | apply And.intro | omega | decide +kernel
                  all_goals
                    refine bool_some ?_
                    rw [ha1, ha2, Bool.eq_iff_iff]
                    simp only [Bool.not_false, Bool.true_and, decide_eq_true_eq, Bool.false_eq_true, false_iff, true_iff]
                    omega
theorem fewS_in {a : Lv} {old : List (List Int)} (h : fewS a old = true) : tot a.2.1 ≤ 30 ∧ a.2.1.length ≤ 12 ∧ a.2.2.1.length ≤ 40 ∧ a.2.2.2.length ≤ 40 ∧ old.length ≤ 12 := by
  simp only [fewS, Bool.and_eq_true, decide_eq_true_eq] at h
  exact h.2
end Go.Proofs.Ytelghbnlceeecaa
namespace Go.Proofs.Ytelghbnlceeecaa
open Go Go.PS Go.Proofs
open Go.Bd (sm ix invF invN comN sumC Part bestF)
set_option maxRecDepth 100000
attribute [local irreducible] wpRun wpG CallsTo CallsM

def exOld : List (List Int) := [[], [2, 3]]
def exG2 : Gr := (4, [(0, 3), (1, 2)])
theorem sx_build : buildF exG2 [0, 0, 1, 1] = (cxL, 0) := by decide +kernel
theorem sx_m1 : MatrixF cxL 1 0 = [[0, 1], [0, 0]] := by simp only [MatrixF, matOk, cxL_valid]; decide +kernel
theorem sx_m2 : MatrixF cxL 1 2 = [] := by simp only [MatrixF, matOk, cxL_valid]; decide +kernel
theorem sx_mat (w : Int) : stM cxL [2, 3] [2, 3] w 1 = sqM (fun u v => wCell [2, 3] [2, 3] w u v + cellAt [[0, 1], [0, 0]] u v + cellAt [] u v) 2 := by
  have h : accC cxL [2, 3] [2, 3] w 1 2 = fun u v => wCell [2, 3] [2, 3] w u v + cellAt [[0, 1], [0, 0]] u v + cellAt [] u v := by
    funext u v
    show wCell [2, 3] [2, 3] w u v + cellAt (MatrixF cxL 1 0) u v + cellAt (MatrixF cxL 1 2) u v = _
    rw [sx_m1, sx_m2]
  rw [stM, h]; rfl
theorem sx_l0 : layerF cxL exOld 0 1 = (cxK, 0) := by
  have e : bestLay cxL exOld 0 1 = cxK := by
    show (if (bestAll (stM cxL [2, 3] [2, 3] 0 1)).2 < sumC (cellAt (stM cxL [2, 3] [2, 3] 0 1)) (List.range 2) then putL cxL 1 (permL [2, 3] (bestAll (stM cxL [2, 3] [2, 3] 0 1)).1) else cxL) = cxK
    rw [sx_mat]; decide +kernel
  rw [layerF, if_neg (by rw [okW, cxL_valid]; decide), if_neg (by decide), if_neg (by decide)]
  show (bestLay cxL exOld 0 1, (0 : Int)) = _
  rw [e]
theorem sx_l1 : layerF cxL exOld 1 1 = (cxL, 0) := by
  have e : bestLay cxL exOld 1 1 = cxL := by
    show (if (bestAll (stM cxL [2, 3] [2, 3] 1 1)).2 < sumC (cellAt (stM cxL [2, 3] [2, 3] 1 1)) (List.range 2) then putL cxL 1 (permL [2, 3] (bestAll (stM cxL [2, 3] [2, 3] 1 1)).1) else cxL) = cxL
    rw [sx_mat]; decide +kernel
  rw [layerF, if_neg (by rw [okW, cxL_valid]; decide), if_neg (by decide), if_neg (by decide)]
  show (bestLay cxL exOld 1 1, (0 : Int)) = _
  rw [e]
theorem sx_c1 : costF cxL exOld 5 = 1 := by
  rw [costF, if_pos (by rw [okW, cxL_valid]; decide), cx2]; decide +kernel
theorem sx_c2 : costF cxK exOld 5 = 5 := by
  rw [costF, if_pos (by rw [okW, cxK_valid]; decide), cx3]; decide +kernel
theorem wide_cx : wide cxL ∧ wide cxK := by
  constructor <;>
  · intro y hy
    simp only [cxL, cxK, List.mem_cons, List.not_mem_nil, or_false] at hy
    rcases hy with rfl | rfl <;> decide
theorem sameInts_spec (l m : List Int) : CallsTo Try.prog 39 [intsD l, intsD m] (.bool (decide (l = m))) := by
  refine callsTo_of Try.func39 rfl (by decide +kernel) (Nat.le_of_ble_eq_true rfl) ?_
  intro hat B X w0
  have hl := at_len 0 hat rfl
  have hm := at_len 1 hat rfl
  rw [List.length_map] at hl hm
  by_cases hlm : l.length = m.length
  · repeat' first | refine pw_seq ?_ | refine pw_skip ?_ | refine pw_ret ?_ | refine pw_exit ?_ | refine pw_block ?_ | refine pw_region (fun _ => false) hmix ?_ | (refine wpG_split rfl rfl (fun hc => ?_) (fun hc => ?_) <;> try simp only [hcL, reduceCtorEq] at hc) | (refine pw_cond _ rfl rfl (fun hc => ?_) (fun hc => ?_) <;> (try simp only [hcL, reduceCtorEq] at hc) <;> try (exfalso; omega)) | simp (maxSteps := 1000000) (disch := omega) only [go_sem, simprocAttr] | apply And.intro | omega | decide +kernel
    refine pw_loopI (κ := Nat) (fun (k : Nat) => k ≤ l.length ∧ l.take k = m.take k) (fun (k : Nat) => [(0, .d (intsD l)), (1, .d (intsD m)), (5, .int k)]) (fun (k : Nat) => []) (fun (k : Nat) => l.length - k) 0 ?_ ?_ ?_
    · exact ⟨Nat.zero_le _, rfl⟩
    · exact eL [] _ _ (by refine ⟨?_, ?_⟩ <;> (repeat' first | exact List.forall_mem_nil _ | refine List.forall_mem_cons.2 ⟨(by first | rfl | (simp (disch := omega) only [go_sem, simprocAttr, inL]; first | done | omega | (congr 1; done))), ?_⟩); done)
    · rintro k ⟨hk, hinv⟩
      rcases Nat.lt_or_ge k l.length with hlt | hge
      · obtain ⟨p, hp⟩ := get_some hlt
        obtain ⟨q, hq⟩ := get_some (hlm ▸ hlt)
        repeat' first | refine pw_seq ?_ | refine pw_skip ?_ | refine pw_ret ?_ | refine pw_exit ?_ | refine pw_block ?_ | refine pw_region (fun _ => false) hmix ?_ | (refine wpG_split rfl rfl (fun hc => ?_) (fun hc => ?_) <;> try simp only [hcL, reduceCtorEq] at hc) | (refine pw_cond _ rfl rfl (fun hc => ?_) (fun hc => ?_) <;> (try simp only [hcL, reduceCtorEq] at hc) <;> try (exfalso; omega)) | simp (maxSteps := 1000000) (disch := omega) only [go_sem, simprocAttr, hp, hq] | apply And.intro | omega | decide +kernel
        · refine bool_some ?_
          rw [decide_eq_false (take_ne hp hq hc)]
        · refine ⟨k + 1, ?_, eL [] _ _ (by refine ⟨?_, ?_⟩ <;> (repeat' first | exact List.forall_mem_nil _ | refine List.forall_mem_cons.2 ⟨(by first | rfl | (simp (disch := omega) only [go_sem, simprocAttr, inL]; first | done | omega | (congr 1; done))), ?_⟩); done), ?_⟩
          · exact ⟨by omega, by rw [take_snoc hp, take_snoc hq, hinv, hc]⟩
          · omega
      · repeat' first | refine pw_seq ?_ | refine pw_skip ?_ | refine pw_ret ?_ | refine pw_exit ?_ | refine pw_block ?_ | refine pw_region (fun _ => false) hmix ?_ | (refine wpG_split rfl rfl (fun hc => ?_) (fun hc => ?_) <;> try simp only [hcL, reduceCtorEq] at hc) | (refine pw_cond _ rfl rfl (fun hc => ?_) (fun hc => ?_) <;> (try simp only [hcL, reduceCtorEq] at hc) <;> try (exfalso; omega)) | simp (maxSteps := 1000000) (disch := omega) only [go_sem, simprocAttr] | apply And.intro | omega | decide +kernel
        refine bool_some ?_
        rw [List.take_of_length_le hge, List.take_of_length_le (by omega)] at hinv
        simp [hinv]
  · repeat' first | refine pw_seq ?_ | refine pw_skip ?_ | refine pw_ret ?_ | refine pw_exit ?_ | refine pw_block ?_ | refine pw_region (fun _ => false) hmix ?_ | (refine wpG_split rfl rfl (fun hc => ?_) (fun hc => ?_) <;> try simp only [hcL, reduceCtorEq] at hc) | (refine pw_cond _ rfl rfl (fun hc => ?_) (fun hc => ?_) <;> (try simp only [hcL, reduceCtorEq] at hc) <;> try (exfalso; omega)) | simp (maxSteps := 1000000) (disch := omega) only [go_sem, simprocAttr] | apply And.intro | omega | decide +kernel
    refine bool_some ?_
    rw [decide_eq_false]
    rintro rfl; exact hlm rfl
set_option maxHeartbeats 4000000 in
theorem lives_spec : CallsTo Try.prog 15 [] (.bool true) := by
  have h1 := rBuild_spec exG2 [0, 0, 1, 1]
  rw [sx_build] at h1
  have h2 := Layer_spec cxL exOld 0 1 wide_cx.1 (by decide)
  rw [sx_l0] at h2
  have h3 := Layer_spec cxL exOld 1 1 wide_cx.1 (by decide)
  rw [sx_l1] at h3
  have h4 := Cost_spec cxL exOld 5 wide_cx.1
  rw [sx_c1] at h4
  have h5 := Cost_spec cxK exOld 5 wide_cx.2
  rw [sx_c2] at h5
  have h6 := Inversions_spec [1, 2, 3] [3, 9, 1, 2] (by decide)
  rw [show invF [1, 2, 3] [3, 9, 1, 2] = 2 by decide +kernel] at h6
  have h7 := sameInts_spec [3, 2] [3, 2]
  have h8 := sameInts_spec [2, 3] [2, 3]
  rw [decide_eq_true rfl] at h7 h8
  simp only [exG2, exOld, cxL, cxK, List.map_cons, List.map_nil] at h1 h2 h3 h4 h5 h6 h7 h8
  refine callsTo_of Try.func15 rfl (by decide +kernel) (Nat.le_of_ble_eq_true rfl) ?_
  intro hat B X w0
  repeat' first | refine pw_seq ?_ | refine pw_skip ?_ | refine pw_ret ?_ | refine pw_exit ?_ | refine pw_block ?_ | refine pw_region (fun _ => false) hmix ?_ | (refine rc (h1) rfl ?_ ?_; (· first | rfl | (simp (disch := omega) only [go_sem, simprocAttr, List.append_eq, List.map_cons, List.map_nil]; done))) | (refine rc (h2) rfl ?_ ?_; (· first | rfl | (simp (disch := omega) only [go_sem, simprocAttr, List.append_eq, List.map_cons, List.map_nil]; done))) | (refine rc (h3) rfl ?_ ?_; (· first | rfl | (simp (disch := omega) only [go_sem, simprocAttr, List.append_eq, List.map_cons, List.map_nil]; done))) | (refine rc (h4) rfl ?_ ?_; (· first | rfl | (simp (disch := omega) only [go_sem, simprocAttr, List.append_eq, List.map_cons, List.map_nil]; done))) | (refine rc (h5) rfl ?_ ?_; (· first | rfl | (simp (disch := omega) only [go_sem, simprocAttr, List.append_eq, List.map_cons, List.map_nil]; done))) | (refine rc (h6) rfl ?_ ?_; (· first | rfl | (simp (disch := omega) only [go_sem, simprocAttr, List.append_eq, List.map_cons, List.map_nil]; done))) | (refine rc (h7) rfl ?_ ?_; (· first | rfl | (simp (disch := omega) only [go_sem, simprocAttr, List.append_eq, List.map_cons, List.map_nil]; done))) | (refine rc (h8) rfl ?_ ?_; (· first | rfl | (simp (disch := omega) only [go_sem, simprocAttr, List.append_eq, List.map_cons, List.map_nil]; done))) | (refine wpG_split rfl rfl (fun hc => ?_) (fun hc => ?_) <;> try simp only [hcL, reduceCtorEq] at hc) | (refine pw_cond _ rfl rfl (fun hc => ?_) (fun hc => ?_) <;> (try simp only [hcL, reduceCtorEq] at hc) <;> try (exfalso; omega)) | simp (maxSteps := 1000000) (disch := omega) only [go_sem, simprocAttr, List.append_eq, List.map_cons, List.map_nil] | apply And.intro | omega | decide +kernel
  exact bool_some rfl
theorem sum_nil {a : Lv} (h : validF a = true) : costF a [] 7 = TotalF a := by
  have hz : ∀ k, invS a [] k = 0 := by
    intro k
    induction k with
    | zero => rfl
    | succ k ih =>
      have s1 : invS a [] (k + 1) = invS a [] k + (invF (lstN [] k) (lstN a.2.1 k) : Int) := rfl
      have s2 : ∀ (l : List Int) i, comN [] l i = [] := by
        intro l i
        induction i with
        | zero => rfl
        | succ i ihi => rw [comN]; split <;> simp [ihi]
      have s3 : lstN [] k = [] := lstN_out (Nat.zero_le _)
      rw [s1, ih, s3, invF, s2]; rfl
  rw [costF, if_pos (by rw [okW, h]; decide), hz]; omega
abbrev stepD (w n : Int) : D := .ag [.int w, .int n]
end Go.Proofs.Ytelghbnlceeecaa
namespace Go.Proofs.Ytelghbnlceeecaa
open Go Go.PS Go.Proofs
open Go.Bd (comN comO keptF cntN)
set_option maxRecDepth 100000
attribute [local irreducible] wpRun wpG CallsTo CallsM

theorem comO_len (layer old : List Int) (k : Nat) : (comO layer old k).length ≤ k := comN_len layer old k
theorem comO_in {layer old : List Int} {k : Nat} {v : Int} (h : old[k]? = some v) (hc : v ∈ layer ∧ v ∉ old.take k) : comO layer old (k + 1) = comO layer old k ++ [v] := com_in h hc
theorem comO_out {layer old : List Int} {k : Nat} {v : Int} (h : old[k]? = some v) (hc : ¬ (v ∈ layer ∧ v ∉ old.take k)) : comO layer old (k + 1) = comO layer old k := com_out h hc
theorem yG_at {y : List Int} {k : Nat} {v : Int} (h : y[k]? = some v) : yG y k = v := by rw [yG, h]; rfl
theorem rowG_yG (y : List Int) : rowG (yG y) y.length = y := permL_range y
set_option maxHeartbeats 4000000 in
theorem kept_spec (layer old : List Int) (hn : layer.Nodup) (hl : layer.length ≤ 600) (ho : old.length ≤ 600) : CallsTo Try.prog 61 [intsD layer, intsD old] (intsD (keptF layer old)) := by
  have hcl := cloneO_spec layer (by omega)
  have hkg : rowG (yG (keptF layer old)) layer.length = keptF layer old := by rw [← Go.Bd.keptF_len layer old]; exact rowG_yG _
  refine callsTo_of Try.func61 rfl (by decide +kernel) (Nat.le_of_ble_eq_true rfl) ?_
  intro hat B X w0
  repeat' first | refine pw_seq ?_ | refine pw_skip ?_ | refine pw_ret ?_ | refine pw_exit ?_ | refine pw_block ?_ | refine pw_region (fun _ => false) hmix ?_ | (refine wpG_split rfl rfl (fun hc => ?_) (fun hc => ?_) <;> try simp only [hcL, reduceCtorEq] at hc) | (refine pw_cond _ rfl rfl (fun hc => ?_) (fun hc => ?_) <;> (try simp only [hcL, reduceCtorEq] at hc) <;> try (exfalso; omega)) | simp (maxSteps := 1000000) (disch := omega) only [go_sem, simprocAttr] | apply And.intro | omega | decide +kernel
  refine pw_ent _ (ent_nil 5 901 1 rfl rfl) ?_
  refine pw_loopI (κ := Nat) (fun (k : Nat) => k ≤ old.length) (fun (k : Nat) => [(0, .d (intsD layer)), (1, .d (intsD old)), (5, .ref 901 1 0 (comO layer old k).length (comO layer old k).length), (12, .d (intsD old)), (13, .int old.length), (14, .int k)]) (fun (k : Nat) => [(901, .row 1 ((comO layer old k).map D.int))]) (fun (k : Nat) => old.length - k) 0 ?_ ?_ ?_
  · exact Nat.zero_le _
  · exact eL [] _ _ (by refine ⟨?_, ?_⟩ <;> (repeat' first | exact List.forall_mem_nil _ | refine List.forall_mem_cons.2 ⟨(by first | rfl | (simp (disch := omega) only [go_sem, simprocAttr, inL, comO, comN, List.length_nil, List.map_nil]; first | done | omega | (congr 1; done))), ?_⟩); done)
  · intro k hk
    have hcl2 := comO_len layer old k
    rcases Nat.lt_or_ge k old.length with hlt | hge
    · obtain ⟨v, hv⟩ := get_some hlt
      have h1 := containsI_spec layer v
      have h2 := containsI_spec (old.take k) v
      simp only [intsD, List.map_take] at h2
      by_cases c1 : v ∈ layer
      · rw [decide_eq_true c1] at h1
        by_cases c2 : v ∈ old.take k
        · rw [decide_eq_true c2] at h2
          have e1 := comO_out (layer := layer) hv (fun h => h.2 c2)
          repeat' first | refine pw_seq ?_ | refine pw_skip ?_ | refine pw_ret ?_ | refine pw_exit ?_ | refine pw_block ?_ | refine pw_region (fun _ => false) hmix ?_ | (refine rc (h1) rfl ?_ ?_; (· first | rfl | (simp (disch := omega) only [go_sem, simprocAttr, hv]; done))) | (refine rc (h2) rfl ?_ ?_; (· first | rfl | (simp (disch := omega) only [go_sem, simprocAttr, hv]; done))) | (refine wpG_split rfl rfl (fun hc => ?_) (fun hc => ?_) <;> try simp only [hcL, reduceCtorEq] at hc) | (refine pw_cond _ rfl rfl (fun hc => ?_) (fun hc => ?_) <;> (try simp only [hcL, reduceCtorEq] at hc) <;> try (exfalso; omega)) | simp (maxSteps := 1000000) (disch := omega) only [go_sem, simprocAttr, hv] | exact one_int old | apply And.intro | omega | decide +kernel
          refine ⟨k + 1, ?_, eL [] _ _ (by refine ⟨?_, ?_⟩ <;> (repeat' first | exact List.forall_mem_nil _ | refine List.forall_mem_cons.2 ⟨(by first | rfl | (simp (disch := omega) only [go_sem, simprocAttr, inL, e1]; first | done | omega | (congr 1; done))), ?_⟩); done), ?_⟩
          · omega
          · omega
        · rw [decide_eq_false c2] at h2
          have e1 := comO_in (layer := layer) hv ⟨c1, c2⟩
          repeat' first | refine pw_seq ?_ | refine pw_skip ?_ | refine pw_ret ?_ | refine pw_exit ?_ | refine pw_block ?_ | refine pw_region (fun _ => false) hmix ?_ | (refine rc (h1) rfl ?_ ?_; (· first | rfl | (simp (disch := omega) only [go_sem, simprocAttr, hv, roomy, take_map_len]; done))) | (refine rc (h2) rfl ?_ ?_; (· first | rfl | (simp (disch := omega) only [go_sem, simprocAttr, hv, roomy, take_map_len]; done))) | (refine wpG_split rfl rfl (fun hc => ?_) (fun hc => ?_) <;> try simp only [hcL, reduceCtorEq] at hc) | (refine pw_cond _ rfl rfl (fun hc => ?_) (fun hc => ?_) <;> (try simp only [hcL, reduceCtorEq] at hc) <;> try (exfalso; omega)) | simp (maxSteps := 1000000) (disch := omega) only [go_sem, simprocAttr, hv, roomy, take_map_len] | (first | exact one_int [_] | exact one_int old) | apply And.intro | omega | decide +kernel
          refine ⟨k + 1, ?_, eL [(901, 33)] _ _ (by refine ⟨?_, ?_⟩ <;> (repeat' first | exact List.forall_mem_nil _ | refine List.forall_mem_cons.2 ⟨(by first | rfl | (simp (disch := omega) only [go_sem, simprocAttr, inL, e1, List.map_append, List.length_append, List.map_cons, List.map_nil, List.length_cons, List.length_nil]; first | done | omega | (congr 1; done))), ?_⟩); done), ?_⟩
          · omega
          · omega
      · rw [decide_eq_false c1] at h1
        have e1 := comO_out (layer := layer) hv (fun h => c1 h.1)
        repeat' first | refine pw_seq ?_ | refine pw_skip ?_ | refine pw_ret ?_ | refine pw_exit ?_ | refine pw_block ?_ | refine pw_region (fun _ => false) hmix ?_ | (refine rc (h1) rfl ?_ ?_; (· first | rfl | (simp (disch := omega) only [go_sem, simprocAttr, hv]; done))) | (refine wpG_split rfl rfl (fun hc => ?_) (fun hc => ?_) <;> try simp only [hcL, reduceCtorEq] at hc) | (refine pw_cond _ rfl rfl (fun hc => ?_) (fun hc => ?_) <;> (try simp only [hcL, reduceCtorEq] at hc) <;> try (exfalso; omega)) | simp (maxSteps := 1000000) (disch := omega) only [go_sem, simprocAttr, hv] | apply And.intro | omega | decide +kernel
        refine ⟨k + 1, ?_, eL [] _ _ (by refine ⟨?_, ?_⟩ <;> (repeat' first | exact List.forall_mem_nil _ | refine List.forall_mem_cons.2 ⟨(by first | rfl | (simp (disch := omega) only [go_sem, simprocAttr, inL, e1]; first | done | omega | (congr 1; done))), ?_⟩); done), ?_⟩
        · omega
        · omega
    · have : k = old.length := by omega
      subst this
      have hcd := fun k (v : Int) (h : layer[k]? = some v) => Go.Bd.cnt_lt (old := old) hn h
      have hget := fun k (v : Int) (h : layer[k]? = some v) => Go.Bd.keptF_get (old := old) h
      generalize hC : comO layer old old.length = C at *
      repeat' first | refine pw_seq ?_ | refine pw_skip ?_ | refine pw_ret ?_ | refine pw_exit ?_ | refine pw_block ?_ | refine pw_region (fun _ => false) hmix ?_ | refine rcM [(2000, 902)] (hcl) rfl ?_ | (refine wpG_split rfl rfl (fun hc => ?_) (fun hc => ?_) <;> try simp only [hcL, reduceCtorEq] at hc) | (refine pw_cond _ rfl rfl (fun hc => ?_) (fun hc => ?_) <;> (try simp only [hcL, reduceCtorEq] at hc) <;> try (exfalso; omega)) | simp (maxSteps := 1000000) (disch := omega) only [go_sem, simprocAttr] | apply And.intro | omega | decide +kernel
      refine pw_loopI (κ := Nat) (fun (k : Nat) => k ≤ layer.length) (fun (k : Nat) => [(0, .d (intsD layer)), (5, .ref 901 1 0 C.length C.length), (8, .ref 902 1 0 layer.length layer.length), (9, .int (cntN C layer k)), (37, .d (intsD layer)), (38, .int layer.length), (39, .int k)]) (fun (k : Nat) => [(901, .row 1 (C.map D.int)), (902, .row 1 ((mixR (yG layer) (yG (keptF layer old)) layer.length k).map D.int))]) (fun (k : Nat) => layer.length - k) 0 ?_ ?_ ?_
      · exact Nat.zero_le _
      · exact eL [] _ _ (by refine ⟨?_, ?_⟩ <;> (repeat' first | exact List.forall_mem_nil _ | refine List.forall_mem_cons.2 ⟨(by first | rfl | (simp (disch := omega) only [go_sem, simprocAttr, inL, mixR_zero, rowG_yG, Go.Bd.cntN_zero]; first | done | omega | (congr 1; done))), ?_⟩); done)
      · intro k hk
        have hml := mixR_len (yG layer) (yG (keptF layer old)) layer.length k
        rcases Nat.lt_or_ge k layer.length with hlt | hge
        · obtain ⟨v, hv⟩ := get_some hlt
          have h1 := containsI_spec C v
          have hg := hget k v hv
          have hyk := yG_at hg
          have hst : (mixR (yG layer) (yG (keptF layer old)) layer.length k).set k (yG (keptF layer old) k) = mixR (yG layer) (yG (keptF layer old)) layer.length (k + 1) := mixR_step hlt
          by_cases c : v ∈ C
          · rw [decide_eq_true c] at h1
            rw [if_pos c] at hyk
            have hcd2 := hcd k v hv c
            obtain ⟨x, hx⟩ := get_some hcd2
            rw [hx, Option.getD_some] at hyk
            rw [hyk] at hst
            have e1 := Go.Bd.cntN_in hv c
            have hcn : cntN C layer k ≤ 600 := by
              have h5 : cntN C layer k ≤ (layer.take k).length := List.length_filter_le _ _
              rw [List.length_take] at h5; omega
            generalize mixR (yG layer) (yG (keptF layer old)) layer.length k = R at *
            have hRg : ∃ z, R[k]? = some z := get_some (by omega)
            obtain ⟨z, hz⟩ := hRg
            repeat' first | refine pw_seq ?_ | refine pw_skip ?_ | refine pw_ret ?_ | refine pw_exit ?_ | refine pw_block ?_ | refine pw_region (fun _ => false) hmix ?_ | (refine rc (h1) rfl ?_ ?_; (· first | rfl | (simp (disch := omega) only [go_sem, simprocAttr, hv, hx, hml, hz, take_map_len]; done))) | (refine wpG_split rfl rfl (fun hc => ?_) (fun hc => ?_) <;> try simp only [hcL, reduceCtorEq] at hc) | (refine pw_cond _ rfl rfl (fun hc => ?_) (fun hc => ?_) <;> (try simp only [hcL, reduceCtorEq] at hc) <;> try (exfalso; omega)) | simp (maxSteps := 1000000) (disch := omega) only [go_sem, simprocAttr, hv, hx, hml, hz, take_map_len] | apply And.intro | omega | decide +kernel
            refine ⟨k + 1, ?_, eL [] _ _ (by refine ⟨?_, ?_⟩ <;> (repeat' first | exact List.forall_mem_nil _ | refine List.forall_mem_cons.2 ⟨(by first | rfl | (simp (disch := omega) only [go_sem, simprocAttr, inL, e1, hst.symm, List.map_set, Int.natCast_add, Int.natCast_one]; first | done | omega | (congr 1; done))), ?_⟩); done), ?_⟩
            · omega
            · omega
          · rw [decide_eq_false c] at h1
            rw [if_neg c] at hyk
            have e1 := Go.Bd.cntN_out hv c
            have hsm : mixR (yG layer) (yG (keptF layer old)) layer.length (k + 1) = mixR (yG layer) (yG (keptF layer old)) layer.length k := mixR_same hlt (by rw [hyk, yG_at hv])
            repeat' first | refine pw_seq ?_ | refine pw_skip ?_ | refine pw_ret ?_ | refine pw_exit ?_ | refine pw_block ?_ | refine pw_region (fun _ => false) hmix ?_ | (refine rc (h1) rfl ?_ ?_; (· first | rfl | (simp (disch := omega) only [go_sem, simprocAttr, hv, take_map_len]; done))) | (refine wpG_split rfl rfl (fun hc => ?_) (fun hc => ?_) <;> try simp only [hcL, reduceCtorEq] at hc) | (refine pw_cond _ rfl rfl (fun hc => ?_) (fun hc => ?_) <;> (try simp only [hcL, reduceCtorEq] at hc) <;> try (exfalso; omega)) | simp (maxSteps := 1000000) (disch := omega) only [go_sem, simprocAttr, hv, take_map_len] | apply And.intro | omega | decide +kernel
            refine ⟨k + 1, ?_, eL [] _ _ (by refine ⟨?_, ?_⟩ <;> (repeat' first | exact List.forall_mem_nil _ | refine List.forall_mem_cons.2 ⟨(by first | rfl | (simp (disch := omega) only [go_sem, simprocAttr, inL, e1, hsm]; first | done | omega | (congr 1; done))), ?_⟩); done), ?_⟩
            · omega
            · omega
        · have : k = layer.length := by omega
          subst this
          rw [mixR_full, hkg]
          have hkl := Go.Bd.keptF_len layer old
          repeat' first | refine pw_seq ?_ | refine pw_skip ?_ | refine pw_ret ?_ | refine pw_exit ?_ | refine pw_block ?_ | refine pw_region (fun _ => false) hmix ?_ | (refine wpG_split rfl rfl (fun hc => ?_) (fun hc => ?_) <;> try simp only [hcL, reduceCtorEq] at hc) | (refine pw_cond _ rfl rfl (fun hc => ?_) (fun hc => ?_) <;> (try simp only [hcL, reduceCtorEq] at hc) <;> try (exfalso; omega)) | simp (maxSteps := 1000000) (disch := omega) only [go_sem, simprocAttr] | apply And.intro | omega | decide +kernel
          exact ret_ref (o := 902) rfl rfl (by simp [hkl]) (List.take_of_length_le (by simp [hkl]))
end Go.Proofs.Ytelghbnlceeecaa
namespace Go.Proofs.Ytelghbnlceeecaa
open Go Go.PS Go.Proofs
open Go.Bd (invF comN comO keptF sumC Part)

theorem reorder_perm {a : Lv} (hv : validF a = true) {i : Nat} {y z : List Int} (hy : a.2.1[i]? = some y) (hz : z.Perm y) : reorderF a i z = (putL a i z, 0) := by
  have hil := (List.getElem?_eq_some_iff.1 hy).1
  rw [reorderF, if_neg (by rw [hv]; decide), if_neg (by omega), Int.toNat_natCast, hy, Option.getD_some, if_neg (by rw [sortL_congr hz]; simp)]
  rfl
theorem perm_valid {a : Lv} (hv : validF a = true) {i : Nat} {y z : List Int} (hy : a.2.1[i]? = some y) (hz : z.Perm y) : validF (putL a i z) = true := by
  have h := reorder_perm hv hy hz
  have := reorder_valid (a := a) (i := i) (o := z) (by rw [h])
  rw [h] at this; exact this
/-- Levels that differ in the orders of their layers only. -/
structure Kin (a b : Lv) : Prop where
  ok : validF b = true
  wd : wide b
  len : b.2.1.length = a.2.1.length
  arcs : b.2.2.1 = a.2.2.1
  perm : ∀ k, (lstN b.2.1 k).Perm (lstN a.2.1 k)
theorem Kin.refl {a : Lv} (hv : validF a = true) (hw : wide a) : Kin a a := ⟨hv, hw, rfl, rfl, fun _ => List.Perm.refl _⟩
theorem Kin.put {a b : Lv} (h : Kin a b) {i : Nat} {y z : List Int} (hy : b.2.1[i]? = some y) (hz : z.Perm y) : Kin a (putL b i z) := by
  have hil := (List.getElem?_eq_some_iff.1 hy).1
  have hyl : y.length ≤ 512 := by have := layer_le h.ok i; rw [lstN_at hy] at this; exact this
  refine ⟨perm_valid h.ok hy hz, ?_, ?_, h.arcs, fun k => ?_⟩
  · have := reorder_wide (a := b) (i := i) (o := z) h.wd (by have := hz.length_eq; omega)
    rw [reorder_perm h.ok hy hz] at this; exact this
  · rw [← h.len]; exact List.length_set
  · have hl : (putL b i z).2.1 = b.2.1.set i z := rfl
    by_cases c : k = i
    · subst c
      have hs : lstN (b.2.1.set k z) k = z := by rw [lstN, List.getElem?_set, if_pos rfl, if_pos hil]; rfl
      rw [hl, hs]
      have := h.perm k
      rw [lstN_at hy] at this
      exact hz.trans this
    · have : lstN (b.2.1.set i z) k = lstN b.2.1 k := by rw [lstN, lstN, List.getElem?_set, if_neg (fun h => c h.symm)]
      rw [hl, this]; exact h.perm k
theorem put_other (b : Lv) {i k : Nat} (z : List Int) (c : k ≠ i) : lstN (putL b i z).2.1 k = lstN b.2.1 k := by
  have hl : (putL b i z).2.1 = b.2.1.set i z := rfl
  rw [hl, lstN, lstN, List.getElem?_set, if_neg (fun h => c h.symm)]
theorem put_own {b : Lv} {i : Nat} (z : List Int) (h : i < b.2.1.length) : lstN (putL b i z).2.1 i = z := by
  have hl : (putL b i z).2.1 = b.2.1.set i z := rfl
  rw [hl, lstN, List.getElem?_set, if_pos rfl, if_pos h]; rfl
theorem Kin.lay {a b : Lv} (h : Kin a b) {k : Nat} (hk : k < a.2.1.length) : b.2.1[k]? = some (lstN b.2.1 k) := by
  obtain ⟨y, hy⟩ := get_some (l := b.2.1) (k := k) (by have := h.len; omega)
  rw [lstN_at hy]; exact hy
theorem Kin.llen {a b : Lv} (h : Kin a b) (k : Nat) : (lstN b.2.1 k).length = (lstN a.2.1 k).length := (h.perm k).length_eq
/-- The kept start, layer by layer. -/
def startN (a : Lv) (old : List (List Int)) : Nat → Lv
  | 0 => a
  | k + 1 => putL (startN a old k) k (keptF (lstN (startN a old k).2.1 k) (lstN old k))
theorem start_kin {a : Lv} (hv : validF a = true) (hw : wide a) (old : List (List Int)) : ∀ k, k ≤ a.2.1.length → Kin a (startN a old k)
  | 0, _ => Kin.refl hv hw
  | k + 1, hk => by
    have ih := start_kin hv hw old k (by omega)
    have hy := ih.lay (k := k) (by omega)
    exact ih.put hy (Go.Bd.keptF_perm (layer_nodup ih.ok hy) _)
theorem start_later (a : Lv) (old : List (List Int)) : ∀ k j, k ≤ j → lstN (startN a old k).2.1 j = lstN a.2.1 j
  | 0, _, _ => rfl
  | k + 1, j, h => by
    rw [startN, put_other _ _ (by omega)]
    exact start_later a old k j (by omega)
theorem start_inv {a : Lv} (hv : validF a = true) (hw : wide a) (old : List (List Int)) : ∀ k, k ≤ a.2.1.length → ∀ j, j < k → invF (lstN old j) (lstN (startN a old k).2.1 j) = 0
  | k + 1, hk, j, hj => by
    have ih := start_kin hv hw old k (by omega)
    have hy := ih.lay (k := k) (by omega)
    rw [startN]
    by_cases c : j = k
    · subst c
      rw [put_own _ (by have := ih.len; omega)]
      exact Go.Bd.keptF_inv (layer_nodup ih.ok hy) _
    · rw [put_other _ _ c]
      exact start_inv hv hw old k (by omega) j (by omega)
theorem best_kin {a b : Lv} (h : Kin a b) (old : List (List Int)) (w : Int) {i : Nat} (hi : i < a.2.1.length) : Kin a (bestLay b old w i) := by
  have hy := h.lay hi
  rw [bestLay]
  split
  · refine h.put hy (permL_perm (layer_nodup h.ok hy) ?_)
    have := (bestAll_part (stM b (lstN old i) (lstN b.2.1 i) w i)).1
    rw [stM_len] at this; exact this
  · exact h
theorem best_cost {a b : Lv} (h : Kin a b) (old : List (List Int)) {w : Int} (hwt : 0 ≤ w ∧ w ≤ 1000) {i : Nat} (hi : i < a.2.1.length) : costF (bestLay b old w i) old w ≤ costF b old w := by
  have hy := h.lay hi
  rw [bestLay]
  split
  · rename_i hlt
    obtain ⟨hp, he⟩ := bestAll_part (stM b (lstN old i) (lstN b.2.1 i) w i)
    rw [stM_len] at hp
    have := put_cost h.ok old hwt hy hp
    rw [← he] at this
    omega
  · exact Int.le_refl _
def roundN (b : Lv) (old : List (List Int)) (w : Int) : Nat → Lv
  | 0 => b
  | k + 1 => if 8 < (lstN (roundN b old w k).2.1 k).length then roundN b old w k else bestLay (roundN b old w k) old w k
theorem round_kin {a b : Lv} (h : Kin a b) (old : List (List Int)) (w : Int) : ∀ k, k ≤ a.2.1.length → Kin a (roundN b old w k)
  | 0, _ => h
  | k + 1, hk => by
    have ih := round_kin h old w k (by omega)
    rw [roundN]
    split
    · exact ih
    · exact best_kin ih old w (by omega)
theorem round_cost {a b : Lv} (h : Kin a b) (old : List (List Int)) {w : Int} (hwt : 0 ≤ w ∧ w ≤ 1000) : ∀ k, k ≤ a.2.1.length → costF (roundN b old w k) old w ≤ costF b old w
  | 0, _ => Int.le_refl _
  | k + 1, hk => by
    have ih := round_cost h old hwt k (by omega)
    rw [roundN]
    split
    · exact ih
    · exact Int.le_trans (best_cost (round_kin h old w k (by omega)) old hwt (by omega)) ih
def runN (a : Lv) (old : List (List Int)) (w : Int) : Nat → Lv
  | 0 => startN a old a.2.1.length
  | r + 1 => roundN (runN a old w r) old w a.2.1.length
theorem run_kin {a : Lv} (hv : validF a = true) (hw : wide a) (old : List (List Int)) (w : Int) : ∀ r, Kin a (runN a old w r)
  | 0 => start_kin hv hw old _ (Nat.le_refl _)
  | r + 1 => round_kin (run_kin hv hw old w r) old w _ (Nat.le_refl _)
theorem run_cost {a : Lv} (hv : validF a = true) (hw : wide a) (old : List (List Int)) {w : Int} (hwt : 0 ≤ w ∧ w ≤ 1000) : ∀ r, costF (runN a old w r) old w ≤ costF (startN a old a.2.1.length) old w
  | 0 => Int.le_refl _
  | r + 1 => Int.le_trans (round_cost (run_kin hv hw old w r) old hwt _ (Nat.le_refl _)) (run_cost hv hw old hwt r)
def runF (a : Lv) (old : List (List Int)) (w r : Int) : Lv × Int × Int :=
  if okW a w = false ∨ r < 0 ∨ 100 < r then (lv0, 0, 1) else (runN a old w r.toNat, costF (runN a old w r.toNat) old w, 0)
end Go.Proofs.Ytelghbnlceeecaa
namespace Go.Proofs.Ytelghbnlceeecaa
open Go Go.PS Go.Proofs
open Go.Bd (ix comN comO keptF cntN)
set_option maxRecDepth 100000
attribute [local irreducible] wpRun wpG CallsTo CallsM

set_option maxHeartbeats 16000000 in
theorem Start_spec (a : Lv) (old : List (List Int)) (hw : wide a) (hv : validF a = true) (hol : ∀ i, (lstN old i).length ≤ 600) :
    CallsTo Try.prog 27 [lvD a, listsD old] (lvD (startN a old a.2.1.length)) := by
  have hK := start_kin hv hw old
  have hS : ∀ k, startN a old (k + 1) = putL (startN a old k) k (keptF (lstN (startN a old k).2.1 k) (lstN old k)) := fun _ => rfl
  have hS0 : startN a old 0 = a := rfl
  obtain ⟨t1, t2⟩ := lv_le hv
  obtain ⟨L, hL⟩ : ∃ L, L = a.2.1.length := ⟨_, rfl⟩
  rw [← hL] at hK t1 ⊢
  have hkl : ∀ k, k ≤ L → (startN a old k).2.1.length = L := fun k hk => by rw [(hK k hk).len, hL]
  have hlay : ∀ k, k < L → (startN a old k).2.1[k]? = some (lstN (startN a old k).2.1 k) := fun k hk => (hK k (by omega)).lay (by omega)
  have hr : ∀ k, k < L → CallsTo Try.prog 59 [lvD (startN a old k), .int k, intsD (keptF (lstN (startN a old k).2.1 k) (lstN old k))] (.tup [lvD (startN a old (k + 1)), .int 0]) := fun k hk => by
    have h1 := rReorder_spec (startN a old k) k (keptF (lstN (startN a old k).2.1 k) (lstN old k)) (hK k (by omega)).wd (by
      rw [Go.Bd.keptF_len]
      have := layer_le (hK k (by omega)).ok k
      omega)
    rw [reorder_perm (hK k (by omega)).ok (hlay k hk) (Go.Bd.keptF_perm (layer_nodup (hK k (by omega)).ok (hlay k hk)) _), ← hS] at h1
    exact h1
  have hnd : ∀ k, k < L → (lstN (startN a old k).2.1 k).Nodup := fun k hk => layer_nodup (hK k (by omega)).ok (hlay k hk)
  have hll : ∀ k, k < L → (lstN (startN a old k).2.1 k).length ≤ 512 := fun k hk => layer_le (hK k (by omega)).ok k
  clear hK
  generalize startN a old = S at *
  refine callsTo_of Try.func27 rfl (by decide +kernel) (Nat.le_of_ble_eq_true rfl) ?_
  intro hat B X w0
  repeat' first | refine pw_seq ?_ | refine pw_skip ?_ | refine pw_ret ?_ | refine pw_exit ?_ | refine pw_block ?_ | refine pw_region (fun _ => false) hmix ?_ | (refine wpG_split rfl rfl (fun hc => ?_) (fun hc => ?_) <;> try simp only [hcL, reduceCtorEq] at hc) | (refine pw_cond _ rfl rfl (fun hc => ?_) (fun hc => ?_) <;> (try simp only [hcL, reduceCtorEq] at hc) <;> try (exfalso; omega)) | simp (maxSteps := 1000000) (disch := omega) only [go_sem, simprocAttr] | apply And.intro | omega | decide +kernel
  refine pw_loopI (κ := Nat) (fun (k : Nat) => k ≤ L) (fun (k : Nat) => [(1, .d (listsD old)), (2, .ptr 2 0 0 0), (4, .ptr 4 0 0 0), (5, .int k)]) (fun (k : Nat) => [(2, .cells [.int (S k).1, .d (listsD (S k).2.1), .d (arcsD (S k).2.2.1), .d (listsD (S k).2.2.2)]), (4, .cells [.int 0, .nilS, .nilS, .nilS])]) (fun (k : Nat) => L - k) 0 ?_ ?_ ?_
  · exact Nat.zero_le _
  · exact eL [] _ _ (by refine ⟨?_, ?_⟩ <;> (repeat' first | exact List.forall_mem_nil _ | refine List.forall_mem_cons.2 ⟨(by first | rfl | (simp (disch := omega) only [go_sem, simprocAttr, inL, hS0]; first | done | omega | (congr 1; done))), ?_⟩); done)
  · intro k hk
    have hkl' := hkl k hk
    rcases Nat.lt_or_ge k L with hlt | hge
    · have hy := hlay k hlt
      have hrk := hr k hlt
      have hn := hnd k hlt
      have hlk := hll k hlt
      have hb := before_spec old k
      have hpo := hol k
      generalize hb1 : S (k + 1) = b' at hrk
      generalize S k = b at *
      generalize lstN old k = prev at *
      generalize lstN b.2.1 k = y at *
      obtain ⟨n, ls, ar, cs⟩ := b
      obtain ⟨n', ls', ar', cs'⟩ := b'
      dsimp only at *
      repeat' first | refine pw_seq ?_ | refine pw_skip ?_ | refine pw_ret ?_ | refine pw_exit ?_ | refine pw_block ?_ | refine pw_region (fun _ => false) hmix ?_ | (refine rc (hb) rfl ?_ ?_; (· first | rfl | (simp (disch := omega) only [go_sem, simprocAttr, hkl', hy]; done))) | (refine wpG_split rfl rfl (fun hc => ?_) (fun hc => ?_) <;> try simp only [hcL, reduceCtorEq] at hc) | (refine pw_cond _ rfl rfl (fun hc => ?_) (fun hc => ?_) <;> (try simp only [hcL, reduceCtorEq] at hc) <;> try (exfalso; omega)) | simp (maxSteps := 1000000) (disch := omega) only [go_sem, simprocAttr, hkl', hy] | apply And.intro | omega | decide +kernel
      refine pw_ent _ (ent_nil 8 901 1 rfl rfl) ?_
      refine pw_loopI (κ := Nat) (fun (j : Nat) => j ≤ prev.length) (fun (j : Nat) => [(1, .d (listsD old)), (2, .ptr 2 0 0 0), (4, .ptr 4 0 0 0), (5, .int k), (6, .d (intsD prev)), (7, .d (intsD y)), (8, .ref 901 1 0 (comO y prev j).length (comO y prev j).length), (9, .int j)]) (fun (j : Nat) => [(2, .cells [.int n, .d (listsD ls), .d (arcsD ar), .d (listsD cs)]), (4, .cells [.int 0, .nilS, .nilS, .nilS]), (901, .row 1 ((comO y prev j).map D.int))]) (fun (j : Nat) => prev.length - j) 0 ?_ ?_ ?_
      · exact Nat.zero_le _
      · exact eL [] _ _ (by refine ⟨?_, ?_⟩ <;> (repeat' first | exact List.forall_mem_nil _ | refine List.forall_mem_cons.2 ⟨(by first | rfl | (simp (disch := omega) only [go_sem, simprocAttr, inL, comO, comN, List.length_nil, List.map_nil]; first | done | omega | (congr 1; done))), ?_⟩); done)
      · intro j hj
        have hcl2 := comO_len y prev j
        rcases Nat.lt_or_ge j prev.length with hlj | hgj
        · obtain ⟨v, hv2⟩ := get_some hlj
          have h1 := rIndex_spec prev v
          have h2 := rIndex_spec y v
          have hfi := Go.Bd.first_iff hv2
          have hmi : 0 ≤ ix y v ↔ v ∈ y := by
            rw [ix]
            split
            · rename_i h; exact ⟨fun _ => h, fun _ => by omega⟩
            · rename_i h; exact ⟨fun h' => by omega, fun h' => absurd h' h⟩
          by_cases c1 : ix prev v = (j : Int)
          · by_cases c2 : 0 ≤ ix y v
            · have e1 := comO_in (layer := y) hv2 ⟨hmi.1 c2, hfi.1 c1⟩
              repeat' first | refine pw_seq ?_ | refine pw_skip ?_ | refine pw_ret ?_ | refine pw_exit ?_ | refine pw_block ?_ | refine pw_region (fun _ => false) hmix ?_ | (refine rc (h1) rfl ?_ ?_; (· first | rfl | (simp (disch := omega) only [go_sem, simprocAttr, hv2, c1, c2, roomy, take_map_len]; done))) | (refine rc (h2) rfl ?_ ?_; (· first | rfl | (simp (disch := omega) only [go_sem, simprocAttr, hv2, c1, c2, roomy, take_map_len]; done))) | (refine wpG_split rfl rfl (fun hc => ?_) (fun hc => ?_) <;> try simp only [hcL, reduceCtorEq] at hc) | (refine pw_cond _ rfl rfl (fun hc => ?_) (fun hc => ?_) <;> (try simp only [hcL, reduceCtorEq] at hc) <;> try (exfalso; omega)) | simp (maxSteps := 1000000) (disch := omega) only [go_sem, simprocAttr, hv2, c1, c2, roomy, take_map_len] | exact one_int [_] | apply And.intro | omega | decide +kernel
              refine ⟨j + 1, ?_, eL [(901, 59)] _ _ (by refine ⟨?_, ?_⟩ <;> (repeat' first | exact List.forall_mem_nil _ | refine List.forall_mem_cons.2 ⟨(by first | rfl | (simp (disch := omega) only [go_sem, simprocAttr, inL, e1, List.map_append, List.length_append, List.map_cons, List.map_nil, List.length_cons, List.length_nil]; first | done | omega | (congr 1; done))), ?_⟩); done), ?_⟩
              · omega
              · omega
            · have e1 := comO_out (layer := y) hv2 (fun h => c2 (hmi.2 h.1))
              repeat' first | refine pw_seq ?_ | refine pw_skip ?_ | refine pw_ret ?_ | refine pw_exit ?_ | refine pw_block ?_ | refine pw_region (fun _ => false) hmix ?_ | (refine rc (h1) rfl ?_ ?_; (· first | rfl | (simp (disch := omega) only [go_sem, simprocAttr, hv2, c1, c2]; done))) | (refine rc (h2) rfl ?_ ?_; (· first | rfl | (simp (disch := omega) only [go_sem, simprocAttr, hv2, c1, c2]; done))) | (refine wpG_split rfl rfl (fun hc => ?_) (fun hc => ?_) <;> try simp only [hcL, reduceCtorEq] at hc) | (refine pw_cond _ rfl rfl (fun hc => ?_) (fun hc => ?_) <;> (try simp only [hcL, reduceCtorEq] at hc) <;> try (exfalso; omega)) | simp (maxSteps := 1000000) (disch := omega) only [go_sem, simprocAttr, hv2, c1, c2] | apply And.intro | omega | decide +kernel
              refine ⟨j + 1, ?_, eL [] _ _ (by refine ⟨?_, ?_⟩ <;> (repeat' first | exact List.forall_mem_nil _ | refine List.forall_mem_cons.2 ⟨(by first | rfl | (simp (disch := omega) only [go_sem, simprocAttr, inL, e1]; first | done | omega | (congr 1; done))), ?_⟩); done), ?_⟩
              · omega
              · omega
          · have e1 := comO_out (layer := y) hv2 (fun h => c1 (hfi.2 h.2))
            repeat' first | refine pw_seq ?_ | refine pw_skip ?_ | refine pw_ret ?_ | refine pw_exit ?_ | refine pw_block ?_ | refine pw_region (fun _ => false) hmix ?_ | (refine rc (h1) rfl ?_ ?_; (· first | rfl | (simp (disch := omega) only [go_sem, simprocAttr, hv2, c1]; done))) | (refine rc (h2) rfl ?_ ?_; (· first | rfl | (simp (disch := omega) only [go_sem, simprocAttr, hv2, c1]; done))) | (refine wpG_split rfl rfl (fun hc => ?_) (fun hc => ?_) <;> try simp only [hcL, reduceCtorEq] at hc) | (refine pw_cond _ rfl rfl (fun hc => ?_) (fun hc => ?_) <;> (try simp only [hcL, reduceCtorEq] at hc) <;> try (exfalso; omega)) | simp (maxSteps := 1000000) (disch := omega) only [go_sem, simprocAttr, hv2, c1] | apply And.intro | omega | decide +kernel
            refine ⟨j + 1, ?_, eL [] _ _ (by refine ⟨?_, ?_⟩ <;> (repeat' first | exact List.forall_mem_nil _ | refine List.forall_mem_cons.2 ⟨(by first | rfl | (simp (disch := omega) only [go_sem, simprocAttr, inL, e1]; first | done | omega | (congr 1; done))), ?_⟩); done), ?_⟩
            · omega
            · omega
        · have : j = prev.length := by omega
          subst this
          have hcd := fun k (v : Int) (h : y[k]? = some v) => Go.Bd.cnt_lt (old := prev) hn h
          have hget := fun k (v : Int) (h : y[k]? = some v) => Go.Bd.keptF_get (old := prev) h
          have hkfl := Go.Bd.keptF_len y prev
          generalize hC : comO y prev prev.length = C at *
          generalize keptF y prev = R at *
          repeat' first | refine pw_seq ?_ | refine pw_skip ?_ | refine pw_ret ?_ | refine pw_exit ?_ | refine pw_block ?_ | refine pw_region (fun _ => false) hmix ?_ | (refine wpG_split rfl rfl (fun hc => ?_) (fun hc => ?_) <;> try simp only [hcL, reduceCtorEq] at hc) | (refine pw_cond _ rfl rfl (fun hc => ?_) (fun hc => ?_) <;> (try simp only [hcL, reduceCtorEq] at hc) <;> try (exfalso; omega)) | simp (maxSteps := 1000000) (disch := omega) only [go_sem, simprocAttr] | apply And.intro | omega | decide +kernel
          refine pw_ent _ (ent_nil 10 902 1 rfl rfl) ?_
          refine pw_loopI (κ := Nat) (fun (j : Nat) => j ≤ y.length) (fun (j : Nat) => [(1, .d (listsD old)), (2, .ptr 2 0 0 0), (4, .ptr 4 0 0 0), (5, .int k), (7, .d (intsD y)), (8, .ref 901 1 0 C.length C.length), (10, .ref 902 1 0 j j), (11, .int (cntN C y j)), (12, .int j)]) (fun (j : Nat) => [(2, .cells [.int n, .d (listsD ls), .d (arcsD ar), .d (listsD cs)]), (4, .cells [.int 0, .nilS, .nilS, .nilS]), (901, .row 1 (C.map D.int)), (902, .row 1 ((R.take j).map D.int))]) (fun (j : Nat) => y.length - j) 0 ?_ ?_ ?_
          · exact Nat.zero_le _
          · exact eL [] _ _ (by refine ⟨?_, ?_⟩ <;> (repeat' first | exact List.forall_mem_nil _ | refine List.forall_mem_cons.2 ⟨(by first | rfl | (simp (disch := omega) only [go_sem, simprocAttr, inL, List.take_zero, List.map_nil, Go.Bd.cntN_zero]; first | done | omega | (congr 1; done))), ?_⟩); done)
          · intro j hj
            have hrj : (R.take j).length = j := by rw [List.length_take]; omega
            have htk : ((R.take j).map D.int).take j = (R.take j).map D.int := List.take_of_length_le (by rw [List.length_map, hrj]; exact Nat.le_refl _)
            rcases Nat.lt_or_ge j y.length with hlj | hgj
            · obtain ⟨v, hv2⟩ := get_some hlj
              have h1 := rIndex_spec C v
              have hmi : 0 ≤ ix C v ↔ v ∈ C := by
                rw [ix]
                split
                · rename_i h; exact ⟨fun _ => h, fun _ => by omega⟩
                · rename_i h; exact ⟨fun h' => by omega, fun h' => absurd h' h⟩
              have hg := hget j v hv2
              by_cases c : v ∈ C
              · have hcd2 := hcd j v hv2 c
                obtain ⟨x, hx⟩ := get_some hcd2
                rw [if_pos c, hx, Option.getD_some] at hg
                have e1 := Go.Bd.cntN_in hv2 c
                have e2 : R.take (j + 1) = R.take j ++ [x] := take_snoc hg
                have ci := hmi.2 c
                have ci2 : ¬ ix C v < 0 := by omega
                generalize R.take j = RR at *
                have hcn : cntN C y j ≤ 600 := by
                  have h5 : cntN C y j ≤ (y.take j).length := List.length_filter_le _ _
                  rw [List.length_take] at h5; omega
                repeat' first | refine pw_seq ?_ | refine pw_skip ?_ | refine pw_ret ?_ | refine pw_exit ?_ | refine pw_block ?_ | refine pw_region (fun _ => false) hmix ?_ | (refine rc (h1) rfl ?_ ?_; (· first | rfl | (simp (disch := omega) only [go_sem, simprocAttr, hv2, hx, ci2, hrj, htk, take_map_len, roomy]; done))) | (refine wpG_split rfl rfl (fun hc => ?_) (fun hc => ?_) <;> try simp only [hcL, reduceCtorEq] at hc) | (refine pw_cond _ rfl rfl (fun hc => ?_) (fun hc => ?_) <;> (try simp only [hcL, reduceCtorEq] at hc) <;> try (exfalso; omega)) | simp (maxSteps := 1000000) (disch := omega) only [go_sem, simprocAttr, hv2, hx, ci2, hrj, htk, take_map_len, roomy] | exact one_int [_] | apply And.intro | omega | decide +kernel
                refine ⟨j + 1, ?_, eL [(902, 86)] _ _ (by refine ⟨?_, ?_⟩ <;> (repeat' first | exact List.forall_mem_nil _ | refine List.forall_mem_cons.2 ⟨(by first | rfl | (simp (disch := omega) only [go_sem, simprocAttr, inL, e1, e2, List.map_append, List.map_cons, List.map_nil, Int.natCast_add, Int.natCast_one]; first | done | omega | (congr 1; done))), ?_⟩); done), ?_⟩
                · omega
                · omega
              · rw [if_neg c] at hg
                have e1 := Go.Bd.cntN_out hv2 c
                have e2 : R.take (j + 1) = R.take j ++ [v] := take_snoc hg
                have ci2 : ix C v < 0 := by
                  have := mt hmi.1 c
                  omega
                generalize R.take j = RR at *
                repeat' first | refine pw_seq ?_ | refine pw_skip ?_ | refine pw_ret ?_ | refine pw_exit ?_ | refine pw_block ?_ | refine pw_region (fun _ => false) hmix ?_ | (refine rc (h1) rfl ?_ ?_; (· first | rfl | (simp (disch := omega) only [go_sem, simprocAttr, hv2, ci2, hrj, htk, take_map_len, roomy]; done))) | (refine wpG_split rfl rfl (fun hc => ?_) (fun hc => ?_) <;> try simp only [hcL, reduceCtorEq] at hc) | (refine pw_cond _ rfl rfl (fun hc => ?_) (fun hc => ?_) <;> (try simp only [hcL, reduceCtorEq] at hc) <;> try (exfalso; omega)) | simp (maxSteps := 1000000) (disch := omega) only [go_sem, simprocAttr, hv2, ci2, hrj, htk, take_map_len, roomy] | exact one_int [_] | apply And.intro | omega | decide +kernel
                refine ⟨j + 1, ?_, eL [(902, 79)] _ _ (by refine ⟨?_, ?_⟩ <;> (repeat' first | exact List.forall_mem_nil _ | refine List.forall_mem_cons.2 ⟨(by first | rfl | (simp (disch := omega) only [go_sem, simprocAttr, inL, e1, e2, List.map_append, List.map_cons, List.map_nil]; first | done | omega | (congr 1; done))), ?_⟩); done), ?_⟩
                · omega
                · omega
            · have : j = y.length := by omega
              subst this
              have hfull : R.take y.length = R := List.take_of_length_le (by omega)
              rw [hfull] at htk
              rw [hfull]
              refine pw_ent _ (ent_freeze 902 1 (R.map D.int) rfl (noGone_of _ rfl) (by decide)) ?_
              repeat' first | refine pw_seq ?_ | refine pw_skip ?_ | refine pw_ret ?_ | refine pw_exit ?_ | refine pw_block ?_ | refine pw_region (fun _ => false) hmix ?_ | (refine rc (hrk) rfl ?_ ?_; (· first | rfl | (simp (disch := omega) only [go_sem, simprocAttr, hkfl, htk, List.drop_zero]; done))) | (refine wpG_split rfl rfl (fun hc => ?_) (fun hc => ?_) <;> try simp only [hcL, reduceCtorEq] at hc) | (refine pw_cond _ rfl rfl (fun hc => ?_) (fun hc => ?_) <;> (try simp only [hcL, reduceCtorEq] at hc) <;> try (exfalso; omega)) | simp (maxSteps := 1000000) (disch := omega) only [go_sem, simprocAttr, hkfl, htk, List.drop_zero] | apply And.intro | omega | decide +kernel
              refine ⟨k + 1, ?_, eL [] _ _ (by refine ⟨?_, ?_⟩ <;> (repeat' first | exact List.forall_mem_nil _ | refine List.forall_mem_cons.2 ⟨(by first | rfl | (simp (disch := omega) only [go_sem, simprocAttr, inL, hb1]; first | done | omega | (congr 1; done))), ?_⟩); done), ?_⟩
              · omega
              · omega
    · have : k = L := by omega
      subst this
      generalize S k = b at *
      obtain ⟨n, ls, ar, cs⟩ := b
      dsimp only at *
      repeat' first | refine pw_seq ?_ | refine pw_skip ?_ | refine pw_ret ?_ | refine pw_exit ?_ | refine pw_block ?_ | refine pw_region (fun _ => false) hmix ?_ | (refine wpG_split rfl rfl (fun hc => ?_) (fun hc => ?_) <;> try simp only [hcL, reduceCtorEq] at hc) | (refine pw_cond _ rfl rfl (fun hc => ?_) (fun hc => ?_) <;> (try simp only [hcL, reduceCtorEq] at hc) <;> try (exfalso; omega)) | simp (maxSteps := 1000000) (disch := omega) only [go_sem, simprocAttr, hkl'] | apply And.intro | omega | decide +kernel
      refine ⟨_, _, _, _, rfl, ?_⟩
      simp (maxSteps := 1000000) (disch := omega) only [go_sem, simprocAttr, toD]
end Go.Proofs.Ytelghbnlceeecaa
namespace Go.Proofs.Ytelghbnlceeecaa
open Go Go.PS Go.Proofs
open Go.Bd (keptF)
set_option maxRecDepth 100000
attribute [local irreducible] wpRun wpG CallsTo CallsM

theorem layerF_ok {b : Lv} {w : Int} {old : List (List Int)} {i : Nat} (hok : okW b w = true) (hi : i < b.2.1.length) (h8 : ¬ 8 < (lstN b.2.1 i).length) : layerF b old w i = (bestLay b old w i, 0) := by
  rw [layerF, if_neg (by rw [hok]; decide), if_neg (by omega), Int.toNat_natCast, if_neg h8]
set_option maxHeartbeats 16000000 in
theorem Run_spec (a : Lv) (old : List (List Int)) (w r : Int) (hw : wide a) (har : a.2.2.1.length ≤ 700) (hol : ∀ i, (lstN old i).length ≤ 600) :
    CallsTo Try.prog 26 [lvD a, listsD old, .int w, .int r] (.tup [lvD (runF a old w r).1, .int (runF a old w r).2.1, .int (runF a old w r).2.2]) := by
  have h1 := wrong_spec a w hw
  rw [runF]
  rcases hok : okW a w with _ | _ <;> rw [hok] at h1
  · rw [if_pos (.inl rfl)]
    refine callsTo_of Try.func26 rfl (by decide +kernel) (Nat.le_of_ble_eq_true rfl) ?_
    intro hat B X w0
    repeat' first | refine pw_seq ?_ | refine pw_skip ?_ | refine pw_ret ?_ | refine pw_exit ?_ | refine pw_block ?_ | refine pw_region (fun _ => false) hmix ?_ | (refine rc (h1) rfl ?_ ?_; (· first | rfl | (simp (disch := omega) only [go_sem, simprocAttr, List.append_eq]; done))) | (refine wpG_split rfl rfl (fun hc => ?_) (fun hc => ?_) <;> try simp only [hcL, reduceCtorEq] at hc) | (refine pw_cond _ rfl rfl (fun hc => ?_) (fun hc => ?_) <;> (try simp only [hcL, reduceCtorEq] at hc) <;> try (exfalso; omega)) | simp (maxSteps := 1000000) (disch := omega) only [go_sem, simprocAttr, List.append_eq] | apply And.intro | omega | decide +kernel
    refine ⟨_, rfl, ⟨_, _, _, _, rfl, ?_⟩, int_some rfl, int_some rfl, trivial⟩
    simp (maxSteps := 1000000) (disch := omega) only [go_sem, simprocAttr, toD]
    rfl
  · by_cases hr : r < 0 ∨ 100 < r
    · rw [if_pos (.inr hr)]
      refine callsTo_of Try.func26 rfl (by decide +kernel) (Nat.le_of_ble_eq_true rfl) ?_
      intro hat B X w0
      repeat' first | refine pw_seq ?_ | refine pw_skip ?_ | refine pw_ret ?_ | refine pw_exit ?_ | refine pw_block ?_ | refine pw_region (fun _ => false) hmix ?_ | (refine rc (h1) rfl ?_ ?_; (· first | rfl | (simp (disch := omega) only [go_sem, simprocAttr, List.append_eq]; done))) | (refine wpG_split rfl rfl (fun hc => ?_) (fun hc => ?_) <;> try simp only [hcL, reduceCtorEq] at hc) | (refine pw_cond _ rfl rfl (fun hc => ?_) (fun hc => ?_) <;> (try simp only [hcL, reduceCtorEq] at hc) <;> try (exfalso; omega)) | simp (maxSteps := 1000000) (disch := omega) only [go_sem, simprocAttr, List.append_eq] | apply And.intro | omega | decide +kernel
      all_goals
        refine ⟨_, rfl, ⟨_, _, _, _, rfl, ?_⟩, int_some rfl, int_some rfl, trivial⟩
        simp (maxSteps := 1000000) (disch := omega) only [go_sem, simprocAttr, toD]
        rfl
    · rw [if_neg (by rintro (h | h); cases h; exact hr h)]
      obtain ⟨r, rfl⟩ : ∃ n : Nat, r = n := ⟨r.toNat, by omega⟩
      rw [Int.toNat_natCast]
      have hok2 := hok
      simp only [okW, Bool.and_eq_true, decide_eq_true_eq] at hok2
      obtain ⟨hv, hwt⟩ := hok2
      obtain ⟨t1, t2⟩ := lv_le hv
      have hKs := start_kin hv hw old
      have hKr := run_kin hv hw old w
      have hkept : ∀ k, k < a.2.1.length → CallsTo Try.prog 61 [intsD (lstN a.2.1 k), intsD (lstN old k)] (intsD (keptF (lstN a.2.1 k) (lstN old k))) := fun k hk =>
        kept_spec _ _ (layer_nodup hv ((Kin.refl hv hw).lay hk)) (by have := layer_le hv k; omega) (hol k)
      have hre : ∀ k, k < a.2.1.length → CallsTo Try.prog 56 [lvD (startN a old k), .int k, intsD (keptF (lstN a.2.1 k) (lstN old k))] (.tup [lvD (startN a old (k + 1)), .int 0]) := fun k hk => by
        have hK := hKs k (by omega)
        have hy := hK.lay hk
        have hsl := start_later a old k k (Nat.le_refl _)
        have h2 := Reorder_spec (startN a old k) k (keptF (lstN (startN a old k).2.1 k) (lstN old k)) hK.wd (by
          rw [Go.Bd.keptF_len]
          have := layer_le hK.ok k
          omega)
        rw [reorder_perm hK.ok hy (Go.Bd.keptF_perm (layer_nodup hK.ok hy) _)] at h2
        rw [← hsl]; exact h2
      have hG : ∀ q k, k ≤ a.2.1.length → Kin a (roundN (runN a old w q) old w k) := fun q k hk => round_kin (hKr q) old w k hk
      have hGs : ∀ q k, roundN (runN a old w q) old w (k + 1) = if 8 < (lstN (roundN (runN a old w q) old w k).2.1 k).length then roundN (runN a old w q) old w k else bestLay (roundN (runN a old w q) old w k) old w k := fun _ _ => rfl
      have hG0 : ∀ q, roundN (runN a old w q) old w 0 = runN a old w q := fun _ => rfl
      have hGL : ∀ q, roundN (runN a old w q) old w a.2.1.length = runN a old w (q + 1) := fun _ => rfl
      have hR0 : startN a old a.2.1.length = runN a old w 0 := rfl
      have hlen2 : ∀ q k, k ≤ a.2.1.length → (lstN (roundN (runN a old w q) old w k).2.1 k).length = (lstN (runN a old w q).2.1 k).length := fun q k hk => by rw [(hG q k hk).llen, (hKr q).llen]
      have hLy : ∀ q k, k < a.2.1.length → ¬ 8 < (lstN (runN a old w q).2.1 k).length → CallsTo Try.prog 23 [lvD (roundN (runN a old w q) old w k), listsD old, .int w, .int k] (.tup [lvD (roundN (runN a old w q) old w (k + 1)), .int 0]) := fun q k hk h8 => by
        have hK := hG q k (by omega)
        have h2 := Layer_spec (roundN (runN a old w q) old w k) old w k hK.wd (by rw [hK.arcs]; exact har)
        have h8' : ¬ 8 < (lstN (roundN (runN a old w q) old w k).2.1 k).length := by rw [hlen2 q k (by omega)]; exact h8
        rw [layerF_ok (by rw [okW, hK.ok, decide_eq_true hwt]; rfl) (by rw [hK.len]; exact hk) h8'] at h2
        rw [hGs, if_neg h8']
        exact h2
      have hskip : ∀ q k, k < a.2.1.length → 8 < (lstN (runN a old w q).2.1 k).length → roundN (runN a old w q) old w (k + 1) = roundN (runN a old w q) old w k := fun q k hk h8 => by
        rw [hGs, if_pos (by rw [hlen2 q k (by omega)]; exact h8)]
      have hrl : ∀ q k, k < a.2.1.length → (runN a old w q).2.1[k]? = some (lstN (runN a old w q).2.1 k) := fun q k hk => (hKr q).lay hk
      have hrlen : ∀ q, (runN a old w q).2.1.length = a.2.1.length := fun q => (hKr q).len
      have hlb : ∀ q k, (lstN (runN a old w q).2.1 k).length ≤ 512 := fun q k => layer_le (hKr q).ok k
      have hco := Cost_spec (runN a old w r) old w (hKr r).wd
      have hay : ∀ k, k < a.2.1.length → a.2.1[k]? = some (lstN a.2.1 k) := fun k hk => (Kin.refl hv hw).lay hk
      have hS0 : startN a old 0 = a := rfl
      have hls := list_spec old
      clear hKs hKr hG hGs hlen2
      generalize hGG : (fun q k => roundN (runN a old w q) old w k) = G
      have hGe : ∀ q k, roundN (runN a old w q) old w k = G q k := fun q k => by rw [← hGG]
      simp only [hGe] at hG0 hGL hLy hskip
      clear hGe hGG
      generalize costF (runN a old w r) old w = CC at *
      generalize runN a old w = R at *
      generalize startN a old = S at *
      obtain ⟨n, ls, ar, cs⟩ := a
      dsimp only at *
      refine callsTo_of Try.func26 rfl (by decide +kernel) (Nat.le_of_ble_eq_true rfl) ?_
      intro hat B X w0
      repeat' first | refine pw_seq ?_ | refine pw_skip ?_ | refine pw_ret ?_ | refine pw_exit ?_ | refine pw_block ?_ | refine pw_region (fun _ => false) hmix ?_ | (refine rc (h1) rfl ?_ ?_; (· first | rfl | (simp (disch := omega) only [go_sem, simprocAttr, List.append_eq]; done))) | (refine wpG_split rfl rfl (fun hc => ?_) (fun hc => ?_) <;> try simp only [hcL, reduceCtorEq] at hc) | (refine pw_cond _ rfl rfl (fun hc => ?_) (fun hc => ?_) <;> (try simp only [hcL, reduceCtorEq] at hc) <;> try (exfalso; omega)) | simp (maxSteps := 1000000) (disch := omega) only [go_sem, simprocAttr, List.append_eq] | apply And.intro | omega | decide +kernel
      refine pw_loopI (κ := Nat) (fun (k : Nat) => k ≤ ls.length) (fun (k : Nat) => [(1, .d (listsD old)), (2, .int w), (3, .int r), (8, .ptr 8 0 0 0), (11, .ptr 11 0 0 0), (34, .d (listsD ls)), (35, .int ls.length), (36, .int k)]) (fun (k : Nat) => [(8, .cells [.int 0, .nilS, .nilS, .nilS]), (11, .cells [.int (S k).1, .d (listsD (S k).2.1), .d (arcsD (S k).2.2.1), .d (listsD (S k).2.2.2)])]) (fun (k : Nat) => ls.length - k) 0 ?_ ?_ ?_
      · exact Nat.zero_le _
      · exact eL [] _ _ (by refine ⟨?_, ?_⟩ <;> (repeat' first | exact List.forall_mem_nil _ | refine List.forall_mem_cons.2 ⟨(by first | rfl | (simp (disch := omega) only [go_sem, simprocAttr, inL, hS0]; first | done | omega | (congr 1; done))), ?_⟩); done)
      · intro k hk
        rcases Nat.lt_or_ge k ls.length with hlt | hge
        · have c1 := hls k
          have c2 := hkept k hlt
          have c3 := hre k hlt
          have c4 := hay k hlt
          repeat' first | refine pw_seq ?_ | refine pw_skip ?_ | refine pw_ret ?_ | refine pw_exit ?_ | refine pw_block ?_ | refine pw_region (fun _ => false) hmix ?_ | (refine rc (c1) rfl ?_ ?_; (· first | rfl | (simp (disch := omega) only [go_sem, simprocAttr, c4]; done))) | (refine rc (c2) rfl ?_ ?_; (· first | rfl | (simp (disch := omega) only [go_sem, simprocAttr, c4]; done))) | (refine rc (c3) rfl ?_ ?_; (· first | rfl | (simp (disch := omega) only [go_sem, simprocAttr, c4]; done))) | (refine wpG_split rfl rfl (fun hc => ?_) (fun hc => ?_) <;> try simp only [hcL, reduceCtorEq] at hc) | (refine pw_cond _ rfl rfl (fun hc => ?_) (fun hc => ?_) <;> (try simp only [hcL, reduceCtorEq] at hc) <;> try (exfalso; omega)) | simp (maxSteps := 1000000) (disch := omega) only [go_sem, simprocAttr, c4] | apply And.intro | omega | decide +kernel
          refine ⟨k + 1, ?_, eL [] _ _ (by refine ⟨?_, ?_⟩ <;> (repeat' first | exact List.forall_mem_nil _ | refine List.forall_mem_cons.2 ⟨(by first | rfl | (simp (disch := omega) only [go_sem, simprocAttr, inL]; first | done | omega | (congr 1; done))), ?_⟩); done), ?_⟩
          · omega
          · omega
        · have : k = ls.length := by omega
          subst this
          rw [hR0]
          repeat' first | refine pw_seq ?_ | refine pw_skip ?_ | refine pw_ret ?_ | refine pw_exit ?_ | refine pw_block ?_ | refine pw_region (fun _ => false) hmix ?_ | (refine wpG_split rfl rfl (fun hc => ?_) (fun hc => ?_) <;> try simp only [hcL, reduceCtorEq] at hc) | (refine pw_cond _ rfl rfl (fun hc => ?_) (fun hc => ?_) <;> (try simp only [hcL, reduceCtorEq] at hc) <;> try (exfalso; omega)) | simp (maxSteps := 1000000) (disch := omega) only [go_sem, simprocAttr] | apply And.intro | omega | decide +kernel
          refine pw_loopI (κ := Nat) (fun (q : Nat) => q ≤ r) (fun (q : Nat) => [(1, .d (listsD old)), (2, .int w), (8, .ptr 8 0 0 0), (11, .ptr 11 0 0 0), (58, .int r), (59, .int q)]) (fun (q : Nat) => [(8, .cells [.int 0, .nilS, .nilS, .nilS]), (11, .cells [.int (R q).1, .d (listsD (R q).2.1), .d (arcsD (R q).2.2.1), .d (listsD (R q).2.2.2)])]) (fun (q : Nat) => r - q) 0 ?_ ?_ ?_
          · exact Nat.zero_le _
          · exact eL [] _ _ (by refine ⟨?_, ?_⟩ <;> (repeat' first | exact List.forall_mem_nil _ | refine List.forall_mem_cons.2 ⟨(by first | rfl | (simp (disch := omega) only [go_sem, simprocAttr, inL]; first | done | omega | (congr 1; done))), ?_⟩); done)
          · intro q hq
            rcases Nat.lt_or_ge q r with hlq | hgq
            · have d1 := hrlen q
              repeat' first | refine pw_seq ?_ | refine pw_skip ?_ | refine pw_ret ?_ | refine pw_exit ?_ | refine pw_block ?_ | refine pw_region (fun _ => false) hmix ?_ | (refine wpG_split rfl rfl (fun hc => ?_) (fun hc => ?_) <;> try simp only [hcL, reduceCtorEq] at hc) | (refine pw_cond _ rfl rfl (fun hc => ?_) (fun hc => ?_) <;> (try simp only [hcL, reduceCtorEq] at hc) <;> try (exfalso; omega)) | simp (maxSteps := 1000000) (disch := omega) only [go_sem, simprocAttr, d1] | apply And.intro | omega | decide +kernel
              refine pw_loopI (κ := Nat) (fun (k : Nat) => k ≤ ls.length) (fun (k : Nat) => [(1, .d (listsD old)), (2, .int w), (8, .ptr 8 0 0 0), (11, .ptr 11 0 0 0), (58, .int r), (59, .int q), (62, .d (listsD (R q).2.1)), (63, .int ls.length), (64, .int k)]) (fun (k : Nat) => [(8, .cells [.int 0, .nilS, .nilS, .nilS]), (11, .cells [.int (G q k).1, .d (listsD (G q k).2.1), .d (arcsD (G q k).2.2.1), .d (listsD (G q k).2.2.2)])]) (fun (k : Nat) => ls.length - k) 0 ?_ ?_ ?_
              · exact Nat.zero_le _
              · exact eL [] _ _ (by refine ⟨?_, ?_⟩ <;> (repeat' first | exact List.forall_mem_nil _ | refine List.forall_mem_cons.2 ⟨(by first | rfl | (simp (disch := omega) only [go_sem, simprocAttr, inL, hG0, d1]; first | done | omega | (congr 1; done))), ?_⟩); done)
              · intro k hk
                rcases Nat.lt_or_ge k ls.length with hlk | hgk
                · have d2 := hrl q k hlk
                  have d3 := hlb q k
                  by_cases h8 : 8 < (lstN (R q).2.1 k).length
                  · have e1 := hskip q k hlk h8
                    generalize lstN (R q).2.1 k = y at *
                    repeat' first | refine pw_seq ?_ | refine pw_skip ?_ | refine pw_ret ?_ | refine pw_exit ?_ | refine pw_block ?_ | refine pw_region (fun _ => false) hmix ?_ | (refine wpG_split rfl rfl (fun hc => ?_) (fun hc => ?_) <;> try simp only [hcL, reduceCtorEq] at hc) | (refine pw_cond _ rfl rfl (fun hc => ?_) (fun hc => ?_) <;> (try simp only [hcL, reduceCtorEq] at hc) <;> try (exfalso; omega)) | simp (maxSteps := 1000000) (disch := omega) only [go_sem, simprocAttr, d2, d1, h8] | apply And.intro | omega | decide +kernel
                    refine ⟨k + 1, ?_, eL [] _ _ (by refine ⟨?_, ?_⟩ <;> (repeat' first | exact List.forall_mem_nil _ | refine List.forall_mem_cons.2 ⟨(by first | rfl | (simp (disch := omega) only [go_sem, simprocAttr, inL, e1]; first | done | omega | (congr 1; done))), ?_⟩); done), ?_⟩
                    · omega
                    · omega
                  · have e1 := hLy q k hlk h8
                    generalize lstN (R q).2.1 k = y at *
                    repeat' first | refine pw_seq ?_ | refine pw_skip ?_ | refine pw_ret ?_ | refine pw_exit ?_ | refine pw_block ?_ | refine pw_region (fun _ => false) hmix ?_ | (refine rc (e1) rfl ?_ ?_; (· first | rfl | (simp (disch := omega) only [go_sem, simprocAttr, d2, d1, h8]; done))) | (refine wpG_split rfl rfl (fun hc => ?_) (fun hc => ?_) <;> try simp only [hcL, reduceCtorEq] at hc) | (refine pw_cond _ rfl rfl (fun hc => ?_) (fun hc => ?_) <;> (try simp only [hcL, reduceCtorEq] at hc) <;> try (exfalso; omega)) | simp (maxSteps := 1000000) (disch := omega) only [go_sem, simprocAttr, d2, d1, h8] | apply And.intro | omega | decide +kernel
                    refine ⟨k + 1, ?_, eL [] _ _ (by refine ⟨?_, ?_⟩ <;> (repeat' first | exact List.forall_mem_nil _ | refine List.forall_mem_cons.2 ⟨(by first | rfl | (simp (disch := omega) only [go_sem, simprocAttr, inL]; first | done | omega | (congr 1; done))), ?_⟩); done), ?_⟩
                    · omega
                    · omega
                · have : k = ls.length := by omega
                  subst this
                  rw [hGL]
                  repeat' first | refine pw_seq ?_ | refine pw_skip ?_ | refine pw_ret ?_ | refine pw_exit ?_ | refine pw_block ?_ | refine pw_region (fun _ => false) hmix ?_ | (refine wpG_split rfl rfl (fun hc => ?_) (fun hc => ?_) <;> try simp only [hcL, reduceCtorEq] at hc) | (refine pw_cond _ rfl rfl (fun hc => ?_) (fun hc => ?_) <;> (try simp only [hcL, reduceCtorEq] at hc) <;> try (exfalso; omega)) | simp (maxSteps := 1000000) (disch := omega) only [go_sem, simprocAttr] | apply And.intro | omega | decide +kernel
                  refine ⟨q + 1, ?_, eL [] _ _ (by refine ⟨?_, ?_⟩ <;> (repeat' first | exact List.forall_mem_nil _ | refine List.forall_mem_cons.2 ⟨(by first | rfl | (simp (disch := omega) only [go_sem, simprocAttr, inL]; first | done | omega | (congr 1; done))), ?_⟩); done), ?_⟩
                  · omega
                  · omega
            · have : q = r := by omega
              subst this
              repeat' first | refine pw_seq ?_ | refine pw_skip ?_ | refine pw_ret ?_ | refine pw_exit ?_ | refine pw_block ?_ | refine pw_region (fun _ => false) hmix ?_ | (refine rc (hco) rfl ?_ ?_; (· first | rfl | (simp (disch := omega) only [go_sem, simprocAttr, List.append_eq]; done))) | (refine wpG_split rfl rfl (fun hc => ?_) (fun hc => ?_) <;> try simp only [hcL, reduceCtorEq] at hc) | (refine pw_cond _ rfl rfl (fun hc => ?_) (fun hc => ?_) <;> (try simp only [hcL, reduceCtorEq] at hc) <;> try (exfalso; omega)) | simp (maxSteps := 1000000) (disch := omega) only [go_sem, simprocAttr, List.append_eq] | apply And.intro | omega | decide +kernel
              refine ⟨_, rfl, ⟨_, _, _, _, rfl, ?_⟩, int_some rfl, int_some rfl, trivial⟩
              simp (maxSteps := 1000000) (disch := omega) only [go_sem, simprocAttr, toD]
end Go.Proofs.Ytelghbnlceeecaa
