/- The reference's Ranks, Source, Valid: the walks. -/
import Derived.Test.YtpmmikkojpcogaaK
namespace Go.Proofs.Ytpmmikkojpcogaa
open Go Go.PS Go.Proofs
set_option maxRecDepth 100000
set_option linter.unusedSimpArgs false
set_option linter.unusedVariables false
attribute [local irreducible] wpRun wpG CallsTo CallsM

/-- How many vertices the layers hold. -/
def tot : List (List Int) → Nat
  | [] => 0
  | y :: l => y.length + tot l
theorem tot_append (l m : List (List Int)) : tot (l ++ m) = tot l + tot m := by
  induction l with
  | nil => simp [tot]
  | cons y l ih => simp only [List.cons_append, tot, ih]; omega
theorem tot_snoc {l : List (List Int)} {k : Nat} {y : List Int} (h : l[k]? = some y) : tot (l.take (k + 1)) = tot (l.take k) + y.length := by
  rw [take_snoc h, tot_append]; simp [tot]
theorem tot_take_le (l : List (List Int)) (k : Nat) : tot (l.take k) ≤ tot l := by
  conv => rhs; rw [← List.take_append_drop k l]
  rw [tot_append]; omega
theorem tot_flat (l : List (List Int)) : l.flatten.length = tot l := by
  induction l with
  | nil => rfl
  | cons y l ih => simp only [List.flatten_cons, List.length_append, tot, ih]
theorem tot_mem {l : List (List Int)} {y : List Int} (h : y ∈ l) : y.length ≤ tot l := by
  induction l with
  | nil => cases h
  | cons x l ih =>
    rw [tot]
    rcases List.mem_cons.1 h with rfl | h
    · omega
    · have := ih h; omega
/-- All numbers lie below c, none occurs twice. -/
def good (c : Nat) (ls : List (List Int)) : Bool := ls.flatten.all (fun v => decide (0 ≤ v ∧ v < c)) && decide ls.flatten.Nodup
def rowR (c : Nat) (ls : List (List Int)) : List Int := (List.range c).map fun v : Nat => layI ls v
def ranksF (ls : List (List Int)) : Option (List Int) := if 256 < ls.length ∨ 512 < tot ls then none else if good (tot ls) ls then some (rowR (tot ls) ls) else none
theorem rowR_len (c : Nat) (ls : List (List Int)) : (rowR c ls).length = c := by simp [rowR]
theorem rowR_get {c v : Nat} (h : v < c) (ls : List (List Int)) : (rowR c ls)[v]? = some (layI ls v) := by simp [rowR, h]
theorem layI_nil (v : Int) : layI [] v = -1 := rfl
theorem layI_mem {ls : List (List Int)} {v : Int} : 0 ≤ layI ls v ↔ v ∈ ls.flatten := by
  have h := idx_any (fun y : List Int => y.any fun x => decide (x = v)) ls
  have : decide (0 ≤ layI ls v) = true ↔ v ∈ ls.flatten := by
    rw [layI, h, List.any_eq_true, List.mem_flatten]
    constructor
    · rintro ⟨y, h1, h2⟩
      obtain ⟨x, h3, h4⟩ := List.any_eq_true.1 h2
      have : x = v := by simpa using h4
      exact ⟨y, h1, this ▸ h3⟩
    · rintro ⟨y, h1, h2⟩
      exact ⟨y, h1, List.any_eq_true.2 ⟨v, h2, by simp⟩⟩
  simpa using this
theorem layI_no {ls : List (List Int)} {v : Int} (h : v ∉ ls.flatten) : layI ls v = -1 := by
  have h2 : ¬ 0 ≤ layI ls v := fun h1 => h (layI_mem.1 h1)
  unfold layI at h2 ⊢
  unfold idxI at h2 ⊢
  split
  · rename_i i hi; rw [hi] at h2; dsimp only at h2; omega
  · rfl
/-- One layer more. -/
theorem layI_snoc (ls : List (List Int)) (y : List Int) (v : Int) : layI (ls ++ [y]) v = if v ∈ ls.flatten then layI ls v else if v ∈ y then (ls.length : Int) else -1 := by
  by_cases h1 : v ∈ ls.flatten
  · rw [if_pos h1]
    have h2 := layI_mem.2 h1
    unfold layI at h2 ⊢
    rw [List.findIdx?_append]
    cases hf : ls.findIdx? (fun y => y.any fun x => decide (x = v)) with
    | none => rw [hf] at h2; exact absurd h2 (by decide)
    | some i => rfl
  · rw [if_neg h1]
    have h2 := layI_no h1
    by_cases h3 : v ∈ y
    · rw [if_pos h3]
      unfold layI at h2 ⊢
      rw [List.findIdx?_append]
      cases hf : ls.findIdx? (fun y => y.any fun x => decide (x = v)) with
      | some i => rw [hf] at h2; simp only [idxI] at h2; omega
      | none =>
        have : (y.any fun x => decide (x = v)) = true := List.any_eq_true.2 ⟨v, h3, by simp⟩
        rw [List.findIdx?_cons, if_pos this]
        simp [idxI]
    · rw [if_neg h3]
      refine layI_no ?_
      rw [List.flatten_append, List.mem_append]
      rintro (h | h)
      · exact h1 h
      · exact h3 (by simpa using h)
/-- The first i layers, and k vertices of the next. -/
def pre (ls : List (List Int)) (i k : Nat) : List (List Int) := ls.take i ++ [((ls[i]?).getD []).take k]
theorem flat_pre (ls : List (List Int)) {i k : Nat} {y : List Int} (h : ls[i]? = some y) : ls.flatten = (pre ls i k).flatten ++ (y.drop k ++ (ls.drop (i + 1)).flatten) := by
  have hd : ls.drop i = y :: ls.drop (i + 1) := by
    obtain ⟨hi, he⟩ := List.getElem?_eq_some_iff.1 h
    rw [← he]; exact List.drop_eq_getElem_cons hi
  conv => lhs; rw [← List.take_append_drop i ls, hd, List.flatten_append, List.flatten_cons]
  rw [pre, h, List.flatten_append]
  simp only [Option.getD_some, List.flatten_cons, List.flatten_nil, List.append_nil]
  conv => lhs; rw [← List.take_append_drop k y]
  simp only [List.append_assoc]
theorem flat_step (ls : List (List Int)) {i k : Nat} {y : List Int} {v : Int} (h : ls[i]? = some y) (hv : y[k]? = some v) : (pre ls i (k + 1)).flatten = (pre ls i k).flatten ++ [v] := by
  simp only [pre, h, Option.getD_some, List.flatten_append, List.flatten_cons, List.flatten_nil, List.append_nil, take_snoc hv, List.append_assoc]
theorem rowR_step {c : Nat} (ls : List (List Int)) {i k : Nat} {y : List Int} {v : Int} (h : ls[i]? = some y) (hv : y[k]? = some v) (h0 : 0 ≤ v) (h1 : layI (pre ls i k) v < 0) :
    (rowR c (pre ls i k)).set v.toNat (i : Int) = rowR c (pre ls i (k + 1)) := by
  have hi : (ls.take i).length = i := by rw [List.length_take]; have := (List.getElem?_eq_some_iff.1 h).1; omega
  refine List.ext_getElem? fun u => ?_
  by_cases hu : u < c
  · rw [rowR_get hu, List.getElem?_set, rowR_get hu, rowR_len]
    simp only [pre, h, Option.getD_some, layI_snoc, take_snoc hv, hi, List.mem_append, List.mem_singleton] at h1 ⊢
    by_cases e : v.toNat = u
    · subst e
      have ev : ((v.toNat : Nat) : Int) = v := by omega
      rw [if_pos rfl, if_pos hu, ev]
      split at h1
      · rename_i hm; have := layI_mem.2 hm; omega
      · rename_i hm
        rw [if_neg hm, if_pos (.inr rfl)]
    · rw [if_neg e]
      have : ¬ (u : Int) = v := by omega
      simp [this]
  · rw [List.getElem?_eq_none (by rw [List.length_set, rowR_len]; omega), List.getElem?_eq_none (by rw [rowR_len]; omega)]
theorem layI_pre0 (ls : List (List Int)) (i : Nat) (v : Int) : layI (pre ls i 0) v = layI (ls.take i) v := by
  rw [pre, layI_snoc]
  by_cases h : v ∈ (ls.take i).flatten
  · rw [if_pos h]
  · rw [if_neg h, List.take_zero, if_neg List.not_mem_nil, layI_no h]
theorem rowR_pre0 (c : Nat) (ls : List (List Int)) (i : Nat) : rowR c (pre ls i 0) = rowR c (ls.take i) := by
  simp only [rowR, layI_pre0]
theorem pre_full {ls : List (List Int)} {i : Nat} {y : List Int} (h : ls[i]? = some y) : pre ls i y.length = ls.take (i + 1) := by
  rw [pre, h, Option.getD_some, List.take_length, take_snoc h]
theorem good_pre0 {c : Nat} {ls : List (List Int)} {i : Nat} : good c (pre ls i 0) = good c (ls.take i) := by
  simp [good, pre]
theorem good_iff {c : Nat} {ls : List (List Int)} : good c ls = true ↔ (∀ v ∈ ls.flatten, 0 ≤ v ∧ v < c) ∧ ls.flatten.Nodup := by
  simp only [good, Bool.and_eq_true, List.all_eq_true, decide_eq_true_eq]
theorem good_step {c : Nat} {ls : List (List Int)} {i k : Nat} {y : List Int} {v : Int} (h : ls[i]? = some y) (hv : y[k]? = some v) (hg : good c (pre ls i k) = true) (h0 : 0 ≤ v) (h2 : v < c) (h1 : layI (pre ls i k) v < 0) :
    good c (pre ls i (k + 1)) = true := by
  rw [good_iff] at hg ⊢
  rw [flat_step ls h hv]
  have hn : v ∉ (pre ls i k).flatten := fun hm => by have := layI_mem.2 hm; omega
  refine ⟨fun u hu => ?_, List.nodup_append.2 ⟨hg.2, by simp, fun a ha b hb => ?_⟩⟩
  · rcases List.mem_append.1 hu with hu | hu
    · exact hg.1 u hu
    · rw [List.mem_singleton.1 hu]; exact ⟨h0, h2⟩
  · rw [List.mem_singleton.1 hb]; rintro rfl; exact hn ha
theorem bad_step {c : Nat} {ls : List (List Int)} {i k : Nat} {y : List Int} {v : Int} (h : ls[i]? = some y) (hv : y[k]? = some v) (hb : v < 0 ∨ (c : Int) ≤ v ∨ 0 ≤ layI (pre ls i k) v) : good c ls = false := by
  rw [Bool.eq_false_iff]
  intro hg
  rw [good_iff] at hg
  have hd : y.drop k = v :: y.drop (k + 1) := by
    obtain ⟨hi, he⟩ := List.getElem?_eq_some_iff.1 hv
    rw [← he]; exact List.drop_eq_getElem_cons hi
  have hf := flat_pre ls (k := k) h
  rw [hd] at hf
  rw [hf] at hg
  have hm := hg.1 v (by simp)
  rcases hb with hb | hb | hb
  · omega
  · omega
  · exact (List.nodup_append.1 hg.2).2.2 v (layI_mem.1 hb) v (by simp) rfl
theorem rowR_zero (c : Nat) : rowR c [] = List.replicate c (-1) := by
  rw [List.eq_replicate_iff]
  refine ⟨rowR_len _ _, fun b hb => ?_⟩
  obtain ⟨u, _, rfl⟩ := List.mem_map.1 hb
  rfl
/-- The row while it is filled with -1. -/
def negRow (c k : Nat) : List Int := List.replicate k (-1) ++ List.replicate (c - k) 0
theorem negRow_len {c k : Nat} (h : k ≤ c) : (negRow c k).length = c := by simp [negRow]; omega
theorem negRow_set {c k : Nat} (h : k < c) : (negRow c k).set k (-1) = negRow c (k + 1) := by
  have e : c - k = (c - (k + 1)) + 1 := by omega
  rw [negRow, e, List.replicate_succ, List.set_append, List.length_replicate, if_neg (by omega), Nat.sub_self, List.set_cons_zero, negRow, List.replicate_succ', List.append_assoc]
  rfl
theorem negRow_get {c k : Nat} (h : k < c) : ∃ x, (negRow c k)[k]? = some x := get_some (by rw [negRow_len (by omega)]; exact h)
theorem negRow_full (c : Nat) : negRow c c = rowR c [] := by rw [rowR_zero, negRow, Nat.sub_self]; simp
theorem negRow_zero (c : Nat) : (negRow c 0).map D.int = List.replicate c (D.int 0) := by simp [negRow]
set_option maxHeartbeats 8000000 in
theorem Ranks_spec (a : Lv) (hw : wide a) : CallsTo Try.prog 22 [lvD a] (.tup [intsD ((ranksF a.2.1).getD []), .bool (ranksF a.2.1).isSome]) := by
  obtain ⟨m, ls, ar, cs⟩ := a
  have hww : ∀ y, y ∈ ls → y.length * 8 ≤ 140737488351232 := hw
  refine callsTo_of Try.func22 rfl (by decide +kernel) (Nat.le_of_ble_eq_true rfl) ?_
  intro hat B X w0
  have h1 := at_len2 0 1 hat rfl rfl
  rw [List.length_map] at h1
  dsimp only at h1
  repeat' first
    | refine pw_seq ?_
    | refine pw_skip ?_
    | refine pw_ret ?_
    | refine pw_exit ?_
    | refine pw_block ?_
    | refine pw_region (fun _ => false) hmix ?_
    | (refine wpG_split rfl rfl (fun hc => ?_) (fun hc => ?_) <;> try simp only [decide_eq_true_eq, decide_eq_false_iff_not, Bool.not_eq_true', Bool.not_eq_false', Bool.false_eq_true, Bool.true_eq_false, reduceCtorEq, Bool.and_eq_true, Bool.or_eq_true, not_and, not_or] at hc)
    | (refine pw_cond _ rfl rfl (fun hc => ?_) (fun hc => ?_) <;> (try simp only [decide_eq_true_eq, decide_eq_false_iff_not, Bool.not_eq_true', Bool.not_eq_false', Bool.false_eq_true, Bool.true_eq_false, reduceCtorEq, Bool.and_eq_true, Bool.or_eq_true, not_and, not_or] at hc) <;> try (exfalso; omega))
    | simp (maxSteps := 1000000) (disch := omega) only [go_sem, Nat.reduceEqDiff, ↓reduceIte, Nat.reduceLT, Nat.reduceAdd, Nat.reduceSub, Nat.reduceLeDiff, Nat.reduceMul, Int.reduceToNat, reduceCtorEq]
    | apply And.intro
    | omega
    | decide +kernel
  refine pw_loopI (κ := Nat) (fun (i : Nat) => i ≤ ls.length ∧ i ≤ 257 ∧ tot (ls.take i) ≤ 512 + 17592186043904) (fun (i : Nat) => [(1, .ptr 1 0 0 0), (4, .int (tot (ls.take i))), (5, .int i)]) (fun (i : Nat) => [(1, .cells [.int m, .d (listsD ls), .d (arcsD ar), .d (listsD cs)])]) (fun (i : Nat) => ls.length - i) 0 ?_ ?_ ?_
  · exact ⟨Nat.zero_le _, by omega, by simp [tot]⟩
  · exact entL_ren [] _ _ (by (repeat' first | exact List.forall_mem_nil _ | refine List.forall_mem_cons.2 ⟨(by first | rfl | (simp (disch := omega) only [go_sem, Nat.reduceEqDiff, ↓reduceIte, Nat.reduceLT, Nat.reduceAdd, Nat.reduceSub, Nat.reduceLeDiff, Nat.reduceMul, Int.reduceToNat, reduceCtorEq, List.take_zero, tot, PV.d.injEq, PV.ref.injEq, D.sc.injEq, Value.int.injEq, Value.bool.injEq, Ob.row.injEq, true_and, and_true]; first | done | omega | (congr 1; done))), ?_⟩); done) (by (repeat' first | exact List.forall_mem_nil _ | refine List.forall_mem_cons.2 ⟨(by first | rfl | (simp (disch := omega) only [go_sem, Nat.reduceEqDiff, ↓reduceIte, Nat.reduceLT, Nat.reduceAdd, Nat.reduceSub, Nat.reduceLeDiff, Nat.reduceMul, Int.reduceToNat, reduceCtorEq, List.take_zero, tot, PV.d.injEq, PV.ref.injEq, D.sc.injEq, Value.int.injEq, Value.bool.injEq, Ob.row.injEq, true_and, and_true]; first | done | omega | (congr 1; done))), ?_⟩); done) rfl rfl (nodup_of rfl) rfl (by (repeat' first | exact pd_of _ rfl | exact pd_dead | refine pd_upd rfl ?_ | refine pd_frz ?_); done)
  · rintro i ⟨hi1, hi2, hi3⟩
    by_cases hgo : i < ls.length ∧ i < 257 ∧ tot (ls.take i) ≤ 512
    · obtain ⟨g1, g2, g3⟩ := hgo
      obtain ⟨y, hy⟩ := get_some g1
      have hyw := hww y (List.mem_of_getElem? hy)
      have hts := tot_snoc hy
      repeat' first
        | refine pw_seq ?_
        | refine pw_skip ?_
        | refine pw_ret ?_
        | refine pw_exit ?_
        | refine pw_block ?_
        | refine pw_region (fun _ => false) hmix ?_
        | (refine wpG_split rfl rfl (fun hc => ?_) (fun hc => ?_) <;> try simp only [decide_eq_true_eq, decide_eq_false_iff_not, Bool.not_eq_true', Bool.not_eq_false', Bool.false_eq_true, Bool.true_eq_false, reduceCtorEq, Bool.and_eq_true, Bool.or_eq_true, not_and, not_or] at hc)
        | (refine pw_cond _ rfl rfl (fun hc => ?_) (fun hc => ?_) <;> (try simp only [decide_eq_true_eq, decide_eq_false_iff_not, Bool.not_eq_true', Bool.not_eq_false', Bool.false_eq_true, Bool.true_eq_false, reduceCtorEq, Bool.and_eq_true, Bool.or_eq_true, not_and, not_or] at hc) <;> try (exfalso; omega))
        | simp (maxSteps := 1000000) (disch := omega) only [go_sem, Nat.reduceEqDiff, ↓reduceIte, Nat.reduceLT, Nat.reduceAdd, Nat.reduceSub, Nat.reduceLeDiff, Nat.reduceMul, Int.reduceToNat, reduceCtorEq, hy]
        | apply And.intro
        | omega
        | decide +kernel
      refine ⟨i + 1, ?_, entL_ren [] _ _ (by (repeat' first | exact List.forall_mem_nil _ | refine List.forall_mem_cons.2 ⟨(by first | rfl | (simp (disch := omega) only [go_sem, Nat.reduceEqDiff, ↓reduceIte, Nat.reduceLT, Nat.reduceAdd, Nat.reduceSub, Nat.reduceLeDiff, Nat.reduceMul, Int.reduceToNat, reduceCtorEq, hts, Int.natCast_add, PV.d.injEq, PV.ref.injEq, D.sc.injEq, Value.int.injEq, Value.bool.injEq, Ob.row.injEq, true_and, and_true]; first | done | omega | (congr 1; done))), ?_⟩); done) (by (repeat' first | exact List.forall_mem_nil _ | refine List.forall_mem_cons.2 ⟨(by first | rfl | (simp (disch := omega) only [go_sem, Nat.reduceEqDiff, ↓reduceIte, Nat.reduceLT, Nat.reduceAdd, Nat.reduceSub, Nat.reduceLeDiff, Nat.reduceMul, Int.reduceToNat, reduceCtorEq, hts, Int.natCast_add, PV.d.injEq, PV.ref.injEq, D.sc.injEq, Value.int.injEq, Value.bool.injEq, Ob.row.injEq, true_and, and_true]; first | done | omega | (congr 1; done))), ?_⟩); done) rfl rfl (nodup_of rfl) rfl (by (repeat' first | exact pd_of _ rfl | exact pd_dead | refine pd_upd rfl ?_ | refine pd_frz ?_); done), ?_⟩
      · exact ⟨by omega, by omega, by omega⟩
      · omega
    · have hout : (256 < ls.length ∨ 512 < tot (ls.take i)) ∨ (i = ls.length ∧ ls.length ≤ 256 ∧ tot ls ≤ 512) := by
        by_cases c1 : i = ls.length
        · rw [c1, List.take_length]; omega
        · omega
      rcases hout with hno | ⟨rfl, g2, g3⟩
      · have htl := tot_take_le ls i
        have hrf : ranksF ls = none := by rw [ranksF, if_pos (by omega)]
        rw [hrf]
        have hlt : i < ls.length ∨ i = ls.length := by omega
        rcases hlt with hlt | hlt
        all_goals
          by_cases h257 : i < 257
          all_goals
            repeat' first
              | refine pw_seq ?_
              | refine pw_skip ?_
              | refine pw_ret ?_
              | refine pw_exit ?_
              | refine pw_block ?_
              | refine pw_region (fun _ => false) hmix ?_
              | (refine wpG_split rfl rfl (fun hc => ?_) (fun hc => ?_) <;> try simp only [decide_eq_true_eq, decide_eq_false_iff_not, Bool.not_eq_true', Bool.not_eq_false', Bool.false_eq_true, Bool.true_eq_false, reduceCtorEq, Bool.and_eq_true, Bool.or_eq_true, not_and, not_or] at hc)
              | (refine pw_cond _ rfl rfl (fun hc => ?_) (fun hc => ?_) <;> (try simp only [decide_eq_true_eq, decide_eq_false_iff_not, Bool.not_eq_true', Bool.not_eq_false', Bool.false_eq_true, Bool.true_eq_false, reduceCtorEq, Bool.and_eq_true, Bool.or_eq_true, not_and, not_or] at hc) <;> try (exfalso; omega))
              | simp (maxSteps := 1000000) (disch := omega) only [go_sem, Nat.reduceEqDiff, ↓reduceIte, Nat.reduceLT, Nat.reduceAdd, Nat.reduceSub, Nat.reduceLeDiff, Nat.reduceMul, Int.reduceToNat, reduceCtorEq]
              | apply And.intro
              | omega
              | decide +kernel
            all_goals exact ⟨_, rfl, rfl, bool_some rfl, trivial⟩
      · rw [List.take_length]
        have hrf : ranksF ls = if good (tot ls) ls then some (rowR (tot ls) ls) else none := by rw [ranksF, if_neg (by omega)]
        rw [hrf]
        generalize hc : tot ls = c at g3 ⊢
        repeat' first
          | refine pw_seq ?_
          | refine pw_skip ?_
          | refine pw_exit ?_
          | refine pw_block ?_
          | refine pw_region (Nat.beq 43) hmix ?_
          | (refine wpG_split rfl rfl (fun hc => ?_) (fun hc => ?_) <;> try simp only [decide_eq_true_eq, decide_eq_false_iff_not, Bool.not_eq_true', Bool.not_eq_false', Bool.false_eq_true, Bool.true_eq_false, reduceCtorEq, Bool.and_eq_true, Bool.or_eq_true, not_and, not_or] at hc)
          | (refine pw_cond _ rfl rfl (fun hc => ?_) (fun hc => ?_) <;> (try simp only [decide_eq_true_eq, decide_eq_false_iff_not, Bool.not_eq_true', Bool.not_eq_false', Bool.false_eq_true, Bool.true_eq_false, reduceCtorEq, Bool.and_eq_true, Bool.or_eq_true, not_and, not_or] at hc) <;> try (exfalso; omega))
          | simp (maxSteps := 1000000) (disch := omega) only [go_sem, Nat.reduceEqDiff, ↓reduceIte, Nat.reduceLT, Nat.reduceAdd, Nat.reduceSub, Nat.reduceLeDiff, Nat.reduceMul, Int.reduceToNat, reduceCtorEq]
          | apply And.intro
          | omega
          | decide +kernel
        refine pw_loopI (κ := Nat) (fun (v : Nat) => v ≤ c) (fun (v : Nat) => [(1, .ptr 1 0 0 0), (4, .int c), (6, .ref 43 1 0 c c), (7, .int v)]) (fun (v : Nat) => [(1, .cells [.int m, .d (listsD ls), .d (arcsD ar), .d (listsD cs)]), (43, .row 1 ((negRow c v).map D.int))]) (fun (v : Nat) => c - v) 0 ?_ ?_ ?_
        · exact Nat.zero_le _
        · exact entL_ren [] _ _ (by (repeat' first | exact List.forall_mem_nil _ | refine List.forall_mem_cons.2 ⟨(by first | rfl | (simp (disch := omega) only [go_sem, Nat.reduceEqDiff, ↓reduceIte, Nat.reduceLT, Nat.reduceAdd, Nat.reduceSub, Nat.reduceLeDiff, Nat.reduceMul, Int.reduceToNat, reduceCtorEq, negRow_zero, PV.d.injEq, PV.ref.injEq, D.sc.injEq, Value.int.injEq, Value.bool.injEq, Ob.row.injEq, true_and, and_true]; first | done | omega | (congr 1; done))), ?_⟩); done) (by (repeat' first | exact List.forall_mem_nil _ | refine List.forall_mem_cons.2 ⟨(by first | rfl | (simp (disch := omega) only [go_sem, Nat.reduceEqDiff, ↓reduceIte, Nat.reduceLT, Nat.reduceAdd, Nat.reduceSub, Nat.reduceLeDiff, Nat.reduceMul, Int.reduceToNat, reduceCtorEq, negRow_zero, PV.d.injEq, PV.ref.injEq, D.sc.injEq, Value.int.injEq, Value.bool.injEq, Ob.row.injEq, true_and, and_true]; first | done | omega | (congr 1; done))), ?_⟩); done) rfl rfl (nodup_of rfl) rfl (by (repeat' first | exact pd_of _ rfl | exact pd_dead | refine pd_upd rfl ?_ | refine pd_frz ?_); done)
        · intro v hv
          have hnl := negRow_len hv
          rcases Nat.lt_or_ge v c with hlt | hge
          · obtain ⟨x, hx⟩ := negRow_get hlt
            have hst := negRow_set hlt
            repeat' first
              | refine pw_seq ?_
              | refine pw_skip ?_
              | refine pw_ret ?_
              | refine pw_exit ?_
              | refine pw_block ?_
              | refine pw_region (fun _ => false) hmix ?_
              | (refine wpG_split rfl rfl (fun hc => ?_) (fun hc => ?_) <;> try simp only [decide_eq_true_eq, decide_eq_false_iff_not, Bool.not_eq_true', Bool.not_eq_false', Bool.false_eq_true, Bool.true_eq_false, reduceCtorEq, Bool.and_eq_true, Bool.or_eq_true, not_and, not_or] at hc)
              | (refine pw_cond _ rfl rfl (fun hc => ?_) (fun hc => ?_) <;> (try simp only [decide_eq_true_eq, decide_eq_false_iff_not, Bool.not_eq_true', Bool.not_eq_false', Bool.false_eq_true, Bool.true_eq_false, reduceCtorEq, Bool.and_eq_true, Bool.or_eq_true, not_and, not_or] at hc) <;> try (exfalso; omega))
              | simp (maxSteps := 1000000) (disch := omega) only [go_sem, Nat.reduceEqDiff, ↓reduceIte, Nat.reduceLT, Nat.reduceAdd, Nat.reduceSub, Nat.reduceLeDiff, Nat.reduceMul, Int.reduceToNat, reduceCtorEq, hx, hnl]
              | apply And.intro
              | omega
              | decide +kernel
            refine ⟨v + 1, ?_, entL_ren [] _ _ (by (repeat' first | exact List.forall_mem_nil _ | refine List.forall_mem_cons.2 ⟨(by first | rfl | (simp (disch := omega) only [go_sem, Nat.reduceEqDiff, ↓reduceIte, Nat.reduceLT, Nat.reduceAdd, Nat.reduceSub, Nat.reduceLeDiff, Nat.reduceMul, Int.reduceToNat, reduceCtorEq, hst.symm, List.map_set, PV.d.injEq, PV.ref.injEq, D.sc.injEq, Value.int.injEq, Value.bool.injEq, Ob.row.injEq, true_and, and_true]; first | done | omega | (congr 1; done))), ?_⟩); done) (by (repeat' first | exact List.forall_mem_nil _ | refine List.forall_mem_cons.2 ⟨(by first | rfl | (simp (disch := omega) only [go_sem, Nat.reduceEqDiff, ↓reduceIte, Nat.reduceLT, Nat.reduceAdd, Nat.reduceSub, Nat.reduceLeDiff, Nat.reduceMul, Int.reduceToNat, reduceCtorEq, hst.symm, List.map_set, PV.d.injEq, PV.ref.injEq, D.sc.injEq, Value.int.injEq, Value.bool.injEq, Ob.row.injEq, true_and, and_true]; first | done | omega | (congr 1; done))), ?_⟩); done) rfl rfl (nodup_of rfl) rfl (by (repeat' first | exact pd_of _ rfl | exact pd_dead | refine pd_upd rfl ?_ | refine pd_frz ?_); done), ?_⟩
            · omega
            · omega
          · have : v = c := by omega
            subst this
            try dsimp only
            rw [negRow_full]
            repeat' first
              | refine pw_seq ?_
              | refine pw_skip ?_
              | refine pw_ret ?_
              | refine pw_exit ?_
              | refine pw_block ?_
              | refine pw_region (fun _ => false) hmix ?_
              | (refine wpG_split rfl rfl (fun hc => ?_) (fun hc => ?_) <;> try simp only [decide_eq_true_eq, decide_eq_false_iff_not, Bool.not_eq_true', Bool.not_eq_false', Bool.false_eq_true, Bool.true_eq_false, reduceCtorEq, Bool.and_eq_true, Bool.or_eq_true, not_and, not_or] at hc)
              | (refine pw_cond _ rfl rfl (fun hc => ?_) (fun hc => ?_) <;> (try simp only [decide_eq_true_eq, decide_eq_false_iff_not, Bool.not_eq_true', Bool.not_eq_false', Bool.false_eq_true, Bool.true_eq_false, reduceCtorEq, Bool.and_eq_true, Bool.or_eq_true, not_and, not_or] at hc) <;> try (exfalso; omega))
              | simp (maxSteps := 1000000) (disch := omega) only [go_sem, Nat.reduceEqDiff, ↓reduceIte, Nat.reduceLT, Nat.reduceAdd, Nat.reduceSub, Nat.reduceLeDiff, Nat.reduceMul, Int.reduceToNat, reduceCtorEq]
              | apply And.intro
              | omega
              | decide +kernel
            refine pw_loopI (κ := Nat) (fun (i : Nat) => i ≤ ls.length ∧ good v (ls.take i) = true) (fun (i : Nat) => [(1, .ptr 1 0 0 0), (4, .int v), (6, .ref 43 1 0 v v), (8, .int i)]) (fun (i : Nat) => [(1, .cells [.int m, .d (listsD ls), .d (arcsD ar), .d (listsD cs)]), (43, .row 1 ((rowR v (ls.take i)).map D.int))]) (fun (i : Nat) => ls.length - i) 0 ?_ ?_ ?_
            · exact ⟨Nat.zero_le _, by simp [good]⟩
            · exact entL_ren [] _ _ (by (repeat' first | exact List.forall_mem_nil _ | refine List.forall_mem_cons.2 ⟨(by first | rfl | (simp (disch := omega) only [go_sem, Nat.reduceEqDiff, ↓reduceIte, Nat.reduceLT, Nat.reduceAdd, Nat.reduceSub, Nat.reduceLeDiff, Nat.reduceMul, Int.reduceToNat, reduceCtorEq, List.take_zero, PV.d.injEq, PV.ref.injEq, D.sc.injEq, Value.int.injEq, Value.bool.injEq, Ob.row.injEq, true_and, and_true]; first | done | omega | (congr 1; done))), ?_⟩); done) (by (repeat' first | exact List.forall_mem_nil _ | refine List.forall_mem_cons.2 ⟨(by first | rfl | (simp (disch := omega) only [go_sem, Nat.reduceEqDiff, ↓reduceIte, Nat.reduceLT, Nat.reduceAdd, Nat.reduceSub, Nat.reduceLeDiff, Nat.reduceMul, Int.reduceToNat, reduceCtorEq, List.take_zero, PV.d.injEq, PV.ref.injEq, D.sc.injEq, Value.int.injEq, Value.bool.injEq, Ob.row.injEq, true_and, and_true]; first | done | omega | (congr 1; done))), ?_⟩); done) rfl rfl (nodup_of rfl) rfl (by (repeat' first | exact pd_of _ rfl | exact pd_dead | refine pd_upd rfl ?_ | refine pd_frz ?_); done)
            · rintro i ⟨hi, hgood⟩
              rcases Nat.lt_or_ge i ls.length with hlt | hge
              · obtain ⟨y, hy⟩ := get_some hlt
                have hyw := hww y (List.mem_of_getElem? hy)
                repeat' first
                  | refine pw_seq ?_
                  | refine pw_skip ?_
                  | refine pw_ret ?_
                  | refine pw_exit ?_
                  | refine pw_block ?_
                  | refine pw_region (fun _ => false) hmix ?_
                  | (refine wpG_split rfl rfl (fun hc => ?_) (fun hc => ?_) <;> try simp only [decide_eq_true_eq, decide_eq_false_iff_not, Bool.not_eq_true', Bool.not_eq_false', Bool.false_eq_true, Bool.true_eq_false, reduceCtorEq, Bool.and_eq_true, Bool.or_eq_true, not_and, not_or] at hc)
                  | (refine pw_cond _ rfl rfl (fun hc => ?_) (fun hc => ?_) <;> (try simp only [decide_eq_true_eq, decide_eq_false_iff_not, Bool.not_eq_true', Bool.not_eq_false', Bool.false_eq_true, Bool.true_eq_false, reduceCtorEq, Bool.and_eq_true, Bool.or_eq_true, not_and, not_or] at hc) <;> try (exfalso; omega))
                  | simp (maxSteps := 1000000) (disch := omega) only [go_sem, Nat.reduceEqDiff, ↓reduceIte, Nat.reduceLT, Nat.reduceAdd, Nat.reduceSub, Nat.reduceLeDiff, Nat.reduceMul, Int.reduceToNat, reduceCtorEq, hy]
                  | apply And.intro
                  | omega
                  | decide +kernel
                refine pw_loopI (κ := Nat) (fun (k : Nat) => k ≤ y.length ∧ good v (pre ls i k) = true) (fun (k : Nat) => [(1, .ptr 1 0 0 0), (4, .int v), (6, .ref 43 1 0 v v), (8, .int i), (9, .int k)]) (fun (k : Nat) => [(1, .cells [.int m, .d (listsD ls), .d (arcsD ar), .d (listsD cs)]), (43, .row 1 ((rowR v (pre ls i k)).map D.int))]) (fun (k : Nat) => y.length - k) 0 ?_ ?_ ?_
                · exact ⟨Nat.zero_le _, by rw [good_pre0]; exact hgood⟩
                · exact entL_ren [] _ _ (by (repeat' first | exact List.forall_mem_nil _ | refine List.forall_mem_cons.2 ⟨(by first | rfl | (simp (disch := omega) only [go_sem, Nat.reduceEqDiff, ↓reduceIte, Nat.reduceLT, Nat.reduceAdd, Nat.reduceSub, Nat.reduceLeDiff, Nat.reduceMul, Int.reduceToNat, reduceCtorEq, rowR_pre0, PV.d.injEq, PV.ref.injEq, D.sc.injEq, Value.int.injEq, Value.bool.injEq, Ob.row.injEq, true_and, and_true]; first | done | omega | (congr 1; done))), ?_⟩); done) (by (repeat' first | exact List.forall_mem_nil _ | refine List.forall_mem_cons.2 ⟨(by first | rfl | (simp (disch := omega) only [go_sem, Nat.reduceEqDiff, ↓reduceIte, Nat.reduceLT, Nat.reduceAdd, Nat.reduceSub, Nat.reduceLeDiff, Nat.reduceMul, Int.reduceToNat, reduceCtorEq, rowR_pre0, PV.d.injEq, PV.ref.injEq, D.sc.injEq, Value.int.injEq, Value.bool.injEq, Ob.row.injEq, true_and, and_true]; first | done | omega | (congr 1; done))), ?_⟩); done) rfl rfl (nodup_of rfl) rfl (by (repeat' first | exact pd_of _ rfl | exact pd_dead | refine pd_upd rfl ?_ | refine pd_frz ?_); done)
                · rintro k ⟨hk, hgk⟩
                  rcases Nat.lt_or_ge k y.length with hlk | hgk2
                  · obtain ⟨x, hx⟩ := get_some hlk
                    have hrl := rowR_len v (pre ls i k)
                    by_cases hin : 0 ≤ x ∧ x < v
                    · have hg := rowR_get (v := x.toNat) (c := v) (by omega) (pre ls i k)
                      rw [show ((x.toNat : Nat) : Int) = x by omega] at hg
                      by_cases hd : layI (pre ls i k) x < 0
                      · have hst := rowR_step (c := v) ls hy hx hin.1 hd
                        repeat' first
                          | refine pw_seq ?_
                          | refine pw_skip ?_
                          | refine pw_ret ?_
                          | refine pw_exit ?_
                          | refine pw_block ?_
                          | refine pw_region (fun _ => false) hmix ?_
                          | (refine wpG_split rfl rfl (fun hc => ?_) (fun hc => ?_) <;> try simp only [decide_eq_true_eq, decide_eq_false_iff_not, Bool.not_eq_true', Bool.not_eq_false', Bool.false_eq_true, Bool.true_eq_false, reduceCtorEq, Bool.and_eq_true, Bool.or_eq_true, not_and, not_or] at hc)
                          | (refine pw_cond _ rfl rfl (fun hc => ?_) (fun hc => ?_) <;> (try simp only [decide_eq_true_eq, decide_eq_false_iff_not, Bool.not_eq_true', Bool.not_eq_false', Bool.false_eq_true, Bool.true_eq_false, reduceCtorEq, Bool.and_eq_true, Bool.or_eq_true, not_and, not_or] at hc) <;> try (exfalso; omega))
                          | simp (maxSteps := 1000000) (disch := omega) only [go_sem, Nat.reduceEqDiff, ↓reduceIte, Nat.reduceLT, Nat.reduceAdd, Nat.reduceSub, Nat.reduceLeDiff, Nat.reduceMul, Int.reduceToNat, reduceCtorEq, hy, hx, hrl, hg]
                          | apply And.intro
                          | omega
                          | decide +kernel
                        refine ⟨k + 1, ?_, entL_ren [] _ _ (by (repeat' first | exact List.forall_mem_nil _ | refine List.forall_mem_cons.2 ⟨(by first | rfl | (simp (disch := omega) only [go_sem, Nat.reduceEqDiff, ↓reduceIte, Nat.reduceLT, Nat.reduceAdd, Nat.reduceSub, Nat.reduceLeDiff, Nat.reduceMul, Int.reduceToNat, reduceCtorEq, hst.symm, List.map_set, PV.d.injEq, PV.ref.injEq, D.sc.injEq, Value.int.injEq, Value.bool.injEq, Ob.row.injEq, true_and, and_true]; first | done | omega | (congr 1; done))), ?_⟩); done) (by (repeat' first | exact List.forall_mem_nil _ | refine List.forall_mem_cons.2 ⟨(by first | rfl | (simp (disch := omega) only [go_sem, Nat.reduceEqDiff, ↓reduceIte, Nat.reduceLT, Nat.reduceAdd, Nat.reduceSub, Nat.reduceLeDiff, Nat.reduceMul, Int.reduceToNat, reduceCtorEq, hst.symm, List.map_set, PV.d.injEq, PV.ref.injEq, D.sc.injEq, Value.int.injEq, Value.bool.injEq, Ob.row.injEq, true_and, and_true]; first | done | omega | (congr 1; done))), ?_⟩); done) rfl rfl (nodup_of rfl) rfl (by (repeat' first | exact pd_of _ rfl | exact pd_dead | refine pd_upd rfl ?_ | refine pd_frz ?_); done), ?_⟩
                        · exact ⟨by omega, good_step hy hx hgk hin.1 hin.2 hd⟩
                        · omega
                      · have hbad := bad_step (c := v) hy hx (.inr (.inr (by omega)))
                        rw [hbad]
                        repeat' first
                          | refine pw_seq ?_
                          | refine pw_skip ?_
                          | refine pw_ret ?_
                          | refine pw_exit ?_
                          | refine pw_block ?_
                          | refine pw_region (fun _ => false) hmix ?_
                          | (refine wpG_split rfl rfl (fun hc => ?_) (fun hc => ?_) <;> try simp only [decide_eq_true_eq, decide_eq_false_iff_not, Bool.not_eq_true', Bool.not_eq_false', Bool.false_eq_true, Bool.true_eq_false, reduceCtorEq, Bool.and_eq_true, Bool.or_eq_true, not_and, not_or] at hc)
                          | (refine pw_cond _ rfl rfl (fun hc => ?_) (fun hc => ?_) <;> (try simp only [decide_eq_true_eq, decide_eq_false_iff_not, Bool.not_eq_true', Bool.not_eq_false', Bool.false_eq_true, Bool.true_eq_false, reduceCtorEq, Bool.and_eq_true, Bool.or_eq_true, not_and, not_or] at hc) <;> try (exfalso; omega))
                          | simp (maxSteps := 1000000) (disch := omega) only [go_sem, Nat.reduceEqDiff, ↓reduceIte, Nat.reduceLT, Nat.reduceAdd, Nat.reduceSub, Nat.reduceLeDiff, Nat.reduceMul, Int.reduceToNat, reduceCtorEq, hy, hx, hrl, hg]
                          | apply And.intro
                          | omega
                          | decide +kernel
                        all_goals exact ⟨_, rfl, rfl, bool_some rfl, trivial⟩
                    · have hbad := bad_step (c := v) hy hx (by omega)
                      rw [hbad]
                      repeat' first
                        | refine pw_seq ?_
                        | refine pw_skip ?_
                        | refine pw_ret ?_
                        | refine pw_exit ?_
                        | refine pw_block ?_
                        | refine pw_region (fun _ => false) hmix ?_
                        | (refine wpG_split rfl rfl (fun hc => ?_) (fun hc => ?_) <;> try simp only [decide_eq_true_eq, decide_eq_false_iff_not, Bool.not_eq_true', Bool.not_eq_false', Bool.false_eq_true, Bool.true_eq_false, reduceCtorEq, Bool.and_eq_true, Bool.or_eq_true, not_and, not_or] at hc)
                        | (refine pw_cond _ rfl rfl (fun hc => ?_) (fun hc => ?_) <;> (try simp only [decide_eq_true_eq, decide_eq_false_iff_not, Bool.not_eq_true', Bool.not_eq_false', Bool.false_eq_true, Bool.true_eq_false, reduceCtorEq, Bool.and_eq_true, Bool.or_eq_true, not_and, not_or] at hc) <;> try (exfalso; omega))
                        | simp (maxSteps := 1000000) (disch := omega) only [go_sem, Nat.reduceEqDiff, ↓reduceIte, Nat.reduceLT, Nat.reduceAdd, Nat.reduceSub, Nat.reduceLeDiff, Nat.reduceMul, Int.reduceToNat, reduceCtorEq, hy, hx, hrl]
                        | apply And.intro
                        | omega
                        | decide +kernel
                      all_goals exact ⟨_, rfl, rfl, bool_some rfl, trivial⟩
                  · have : k = y.length := by omega
                    subst this
                    have hpf := pre_full hy
                    repeat' first
                      | refine pw_seq ?_
                      | refine pw_skip ?_
                      | refine pw_ret ?_
                      | refine pw_exit ?_
                      | refine pw_block ?_
                      | refine pw_region (fun _ => false) hmix ?_
                      | (refine wpG_split rfl rfl (fun hc => ?_) (fun hc => ?_) <;> try simp only [decide_eq_true_eq, decide_eq_false_iff_not, Bool.not_eq_true', Bool.not_eq_false', Bool.false_eq_true, Bool.true_eq_false, reduceCtorEq, Bool.and_eq_true, Bool.or_eq_true, not_and, not_or] at hc)
                      | (refine pw_cond _ rfl rfl (fun hc => ?_) (fun hc => ?_) <;> (try simp only [decide_eq_true_eq, decide_eq_false_iff_not, Bool.not_eq_true', Bool.not_eq_false', Bool.false_eq_true, Bool.true_eq_false, reduceCtorEq, Bool.and_eq_true, Bool.or_eq_true, not_and, not_or] at hc) <;> try (exfalso; omega))
                      | simp (maxSteps := 1000000) (disch := omega) only [go_sem, Nat.reduceEqDiff, ↓reduceIte, Nat.reduceLT, Nat.reduceAdd, Nat.reduceSub, Nat.reduceLeDiff, Nat.reduceMul, Int.reduceToNat, reduceCtorEq, hy]
                      | apply And.intro
                      | omega
                      | decide +kernel
                    refine ⟨i + 1, ?_, entL_ren [] _ _ (by (repeat' first | exact List.forall_mem_nil _ | refine List.forall_mem_cons.2 ⟨(by first | rfl | (simp (disch := omega) only [go_sem, Nat.reduceEqDiff, ↓reduceIte, Nat.reduceLT, Nat.reduceAdd, Nat.reduceSub, Nat.reduceLeDiff, Nat.reduceMul, Int.reduceToNat, reduceCtorEq, hpf, PV.d.injEq, PV.ref.injEq, D.sc.injEq, Value.int.injEq, Value.bool.injEq, Ob.row.injEq, true_and, and_true]; first | done | omega | (congr 1; done))), ?_⟩); done) (by (repeat' first | exact List.forall_mem_nil _ | refine List.forall_mem_cons.2 ⟨(by first | rfl | (simp (disch := omega) only [go_sem, Nat.reduceEqDiff, ↓reduceIte, Nat.reduceLT, Nat.reduceAdd, Nat.reduceSub, Nat.reduceLeDiff, Nat.reduceMul, Int.reduceToNat, reduceCtorEq, hpf, PV.d.injEq, PV.ref.injEq, D.sc.injEq, Value.int.injEq, Value.bool.injEq, Ob.row.injEq, true_and, and_true]; first | done | omega | (congr 1; done))), ?_⟩); done) rfl rfl (nodup_of rfl) rfl (by (repeat' first | exact pd_of _ rfl | exact pd_dead | refine pd_upd rfl ?_ | refine pd_frz ?_); done), ?_⟩
                    · exact ⟨by omega, by rw [← hpf]; exact hgk⟩
                    · omega
              · have : i = ls.length := by omega
                subst this
                rw [List.take_length] at hgood
                try dsimp only
                rw [List.take_length, hgood]
                repeat' first
                  | refine pw_seq ?_
                  | refine pw_skip ?_
                  | refine pw_ret ?_
                  | refine pw_exit ?_
                  | refine pw_block ?_
                  | refine pw_region (fun _ => false) hmix ?_
                  | (refine wpG_split rfl rfl (fun hc => ?_) (fun hc => ?_) <;> try simp only [decide_eq_true_eq, decide_eq_false_iff_not, Bool.not_eq_true', Bool.not_eq_false', Bool.false_eq_true, Bool.true_eq_false, reduceCtorEq, Bool.and_eq_true, Bool.or_eq_true, not_and, not_or] at hc)
                  | (refine pw_cond _ rfl rfl (fun hc => ?_) (fun hc => ?_) <;> (try simp only [decide_eq_true_eq, decide_eq_false_iff_not, Bool.not_eq_true', Bool.not_eq_false', Bool.false_eq_true, Bool.true_eq_false, reduceCtorEq, Bool.and_eq_true, Bool.or_eq_true, not_and, not_or] at hc) <;> try (exfalso; omega))
                  | simp (maxSteps := 1000000) (disch := omega) only [go_sem, Nat.reduceEqDiff, ↓reduceIte, Nat.reduceLT, Nat.reduceAdd, Nat.reduceSub, Nat.reduceLeDiff, Nat.reduceMul, Int.reduceToNat, reduceCtorEq]
                  | apply And.intro
                  | omega
                  | decide +kernel
                exact ⟨_, rfl, ret_ref (o := 43) rfl rfl (by simp [rowR_len]) (List.take_of_length_le (by simp [rowR_len])), bool_some rfl, trivial⟩
end Go.Proofs.Ytpmmikkojpcogaa
