/- The reference's Ranks, Source, Valid: the walks. -/
import Derived.Test.YtldbcbclhpcofaaE
set_option linter.unusedSimpArgs false
set_option linter.unusedVariables false
namespace Go.Proofs.Ytldbcbclhpcofaa
open Go Go.PS Go.Proofs
set_option maxRecDepth 100000
attribute [local irreducible] wpRun wpG CallsTo CallsM

def tot : List (List Int) → Nat
 | [] => 0
 | y :: l => y.length + tot l
theorem tot_append (l m : List (List Int)) : tot (l ++ m) = tot l + tot m := by
 induction l with
 | nil => simp [tot]
 | cons y l ih => simp only [List.cons_append, tot, ih]; omega
theorem tot_snoc {l : List (List Int)} {k : Nat} {y : List Int} (h : l[k]? = some y) : tot (l.take (k + 1)) = tot (l.take k) + y.length := by
 rw [take_snoc h, tot_append]; simp [tot]
theorem tot_take_le (l : List (List Int)) (k : Nat) : tot (l.take k) ≤ tot l := by
 conv => rhs; rw [← List.take_append_drop k l]
 rw [tot_append]; omega
theorem tot_flat (l : List (List Int)) : l.flatten.length = tot l := by
 induction l with
 | nil => rfl
 | cons y l ih => simp only [List.flatten_cons, List.length_append, tot, ih]
theorem tot_mem {l : List (List Int)} {y : List Int} (h : y ∈ l) : y.length ≤ tot l := by
 induction l with
 | nil => cases h
 | cons x l ih =>
  rw [tot]
  rcases List.mem_cons.1 h with rfl | h
  ·omega
  ·have := ih h; omega
def good (c : Nat) (ls : List (List Int)) : Bool := ls.flatten.all (fun v => decide (0 ≤ v ∧ v < c)) && decide ls.flatten.Nodup
def rowR (c : Nat) (ls : List (List Int)) : List Int := (List.range c).map fun v : Nat => layI ls v
def ranksF (ls : List (List Int)) : Option (List Int) := if 256 < ls.length ∨ 512 < tot ls then none else if good (tot ls) ls then some (rowR (tot ls) ls) else none
theorem rowR_len (c : Nat) (ls : List (List Int)) : (rowR c ls).length = c := by simp [rowR]
theorem rowR_get {c v : Nat} (h : v < c) (ls : List (List Int)) : (rowR c ls)[v]? = some (layI ls v) := by simp [rowR, h]
theorem layI_mem {ls : List (List Int)} {v : Int} : 0 ≤ layI ls v ↔ v ∈ ls.flatten := by
 have h := idx_any (fun y : List Int => y.any fun x => decide (x = v)) ls
 have : decide (0 ≤ layI ls v) = true ↔ v ∈ ls.flatten := by
  rw [layI, h, List.any_eq_true, List.mem_flatten]
  constructor
  ·rintro ⟨y, h1, h2⟩
   obtain ⟨x, h3, h4⟩ := List.any_eq_true.1 h2
   have : x = v := by simpa using h4
   exact ⟨y, h1, this ▸ h3⟩
  ·rintro ⟨y, h1, h2⟩
   exact ⟨y, h1, List.any_eq_true.2 ⟨v, h2, by simp⟩⟩
 simpa using this
theorem layI_no {ls : List (List Int)} {v : Int} (h : v ∉ ls.flatten) : layI ls v = -1 := by
 have h2 : ¬ 0 ≤ layI ls v := fun h1 => h (layI_mem.1 h1)
 unfold layI at h2 ⊢
 unfold idxI at h2 ⊢
 split
 ·rename_i i hi; rw [hi] at h2; dsimp only at h2; omega
 ·rfl
theorem layI_snoc (ls : List (List Int)) (y : List Int) (v : Int) : layI (ls ++ [y]) v = if v ∈ ls.flatten then layI ls v else if v ∈ y then (ls.length : Int) else -1 := by
 by_cases h1 : v ∈ ls.flatten
 ·rw [if_pos h1]
  have h2 := layI_mem.2 h1
  unfold layI at h2 ⊢
  rw [List.findIdx?_append]
  cases hf : ls.findIdx? (fun y => y.any fun x => decide (x = v)) with
  | none => rw [hf] at h2; exact absurd h2 (by decide)
  | some i => rfl
 ·rw [if_neg h1]
  have h2 := layI_no h1
  by_cases h3 : v ∈ y
  ·rw [if_pos h3]
   unfold layI at h2 ⊢
   rw [List.findIdx?_append]
   cases hf : ls.findIdx? (fun y => y.any fun x => decide (x = v)) with
   | some i => rw [hf] at h2; simp only [idxI] at h2; omega
   | none =>
    have : (y.any fun x => decide (x = v)) = true := List.any_eq_true.2 ⟨v, h3, by simp⟩
    rw [List.findIdx?_cons, if_pos this]
    simp [idxI]
  ·rw [if_neg h3]
   refine layI_no ?_
   rw [List.flatten_append, List.mem_append]
   rintro (h | h)
   ·exact h1 h
   ·exact h3 (by simpa using h)
def pre (ls : List (List Int)) (i k : Nat) : List (List Int) := ls.take i ++ [((ls[i]?).getD []).take k]
theorem flat_pre (ls : List (List Int)) {i k : Nat} {y : List Int} (h : ls[i]? = some y) : ls.flatten = (pre ls i k).flatten ++ (y.drop k ++ (ls.drop (i + 1)).flatten) := by
 have hd : ls.drop i = y :: ls.drop (i + 1) := by
  obtain ⟨hi, he⟩ := List.getElem?_eq_some_iff.1 h
  rw [← he]; exact List.drop_eq_getElem_cons hi
 conv => lhs; rw [← List.take_append_drop i ls, hd, List.flatten_append, List.flatten_cons]
 rw [pre, h, List.flatten_append]
 simp only [Option.getD_some, List.flatten_cons, List.flatten_nil, List.append_nil]
 conv => lhs; rw [← List.take_append_drop k y]
 simp only [List.append_assoc]
theorem flat_step (ls : List (List Int)) {i k : Nat} {y : List Int} {v : Int} (h : ls[i]? = some y) (hv : y[k]? = some v) : (pre ls i (k + 1)).flatten = (pre ls i k).flatten ++ [v] := by
 simp only [pre, h, Option.getD_some, List.flatten_append, List.flatten_cons, List.flatten_nil, List.append_nil, take_snoc hv, List.append_assoc]
theorem rowR_step {c : Nat} (ls : List (List Int)) {i k : Nat} {y : List Int} {v : Int} (h : ls[i]? = some y) (hv : y[k]? = some v) (h0 : 0 ≤ v) (h1 : layI (pre ls i k) v < 0) :
  (rowR c (pre ls i k)).set v.toNat (i : Int) = rowR c (pre ls i (k + 1)) := by
 have hi : (ls.take i).length = i := by rw [List.length_take]; have := (List.getElem?_eq_some_iff.1 h).1; omega
 refine List.ext_getElem? fun u => ?_
 by_cases hu : u < c
 ·rw [rowR_get hu, List.getElem?_set, rowR_get hu, rowR_len]
  simp only [pre, h, Option.getD_some, layI_snoc, take_snoc hv, hi, List.mem_append, List.mem_singleton] at h1 ⊢
  by_cases e : v.toNat = u
  ·subst e
   have ev : ((v.toNat : Nat) : Int) = v := by omega
   rw [if_pos rfl, if_pos hu, ev]
   split at h1
   ·rename_i hm; have := layI_mem.2 hm; omega
   ·rename_i hm
    rw [if_neg hm, if_pos (.inr rfl)]
  ·rw [if_neg e]
   have : ¬ (u : Int) = v := by omega
   simp [this]
 ·rw [List.getElem?_eq_none (by rw [List.length_set, rowR_len]; omega), List.getElem?_eq_none (by rw [rowR_len]; omega)]
theorem layI_pre0 (ls : List (List Int)) (i : Nat) (v : Int) : layI (pre ls i 0) v = layI (ls.take i) v := by
 rw [pre, layI_snoc]
 by_cases h : v ∈ (ls.take i).flatten
 ·rw [if_pos h]
 ·rw [if_neg h, List.take_zero, if_neg List.not_mem_nil, layI_no h]
theorem rowR_pre0 (c : Nat) (ls : List (List Int)) (i : Nat) : rowR c (pre ls i 0) = rowR c (ls.take i) := by
 simp only [rowR, layI_pre0]
theorem pre_full {ls : List (List Int)} {i : Nat} {y : List Int} (h : ls[i]? = some y) : pre ls i y.length = ls.take (i + 1) := by
 rw [pre, h, Option.getD_some, List.take_length, take_snoc h]
theorem good_pre0 {c : Nat} {ls : List (List Int)} {i : Nat} : good c (pre ls i 0) = good c (ls.take i) := by
 simp [good, pre]
theorem good_iff {c : Nat} {ls : List (List Int)} : good c ls = true ↔ (∀ v ∈ ls.flatten, 0 ≤ v ∧ v < c) ∧ ls.flatten.Nodup := by
 simp only [good, Bool.and_eq_true, List.all_eq_true, decide_eq_true_eq]
theorem good_step {c : Nat} {ls : List (List Int)} {i k : Nat} {y : List Int} {v : Int} (h : ls[i]? = some y) (hv : y[k]? = some v) (hg : good c (pre ls i k) = true) (h0 : 0 ≤ v) (h2 : v < c) (h1 : layI (pre ls i k) v < 0) :
  good c (pre ls i (k + 1)) = true := by
 rw [good_iff] at hg ⊢
 rw [flat_step ls h hv]
 have hn : v ∉ (pre ls i k).flatten := fun hm => by have := layI_mem.2 hm; omega
 refine ⟨fun u hu => ?_, List.nodup_append.2 ⟨hg.2, by simp, fun a ha b hb => ?_⟩⟩
 ·rcases List.mem_append.1 hu with hu | hu
  ·exact hg.1 u hu
  ·rw [List.mem_singleton.1 hu]; exact ⟨h0, h2⟩
 ·rw [List.mem_singleton.1 hb]; rintro rfl; exact hn ha
theorem bad_step {c : Nat} {ls : List (List Int)} {i k : Nat} {y : List Int} {v : Int} (h : ls[i]? = some y) (hv : y[k]? = some v) (hb : v < 0 ∨ (c : Int) ≤ v ∨ 0 ≤ layI (pre ls i k) v) : good c ls = false := by
 rw [Bool.eq_false_iff]
 intro hg
 rw [good_iff] at hg
 have hd : y.drop k = v :: y.drop (k + 1) := by
  obtain ⟨hi, he⟩ := List.getElem?_eq_some_iff.1 hv
  rw [← he]; exact List.drop_eq_getElem_cons hi
 have hf := flat_pre ls (k := k) h
 rw [hd] at hf
 rw [hf] at hg
 have hm := hg.1 v (by simp)
 rcases hb with hb | hb | hb
 ·omega
 ·omega
 ·exact (List.nodup_append.1 hg.2).2.2 v (layI_mem.1 hb) v (by simp) rfl
theorem rowR_zero (c : Nat) : rowR c [] = List.replicate c (-1) := by
 rw [List.eq_replicate_iff]
 refine ⟨rowR_len _ _, fun b hb => ?_⟩
 obtain ⟨u, _, rfl⟩ := List.mem_map.1 hb
 rfl
def negRow (c k : Nat) : List Int := List.replicate k (-1) ++ List.replicate (c - k) 0
theorem negRow_len {c k : Nat} (h : k ≤ c) : (negRow c k).length = c := by simp [negRow]; omega
theorem negRow_set {c k : Nat} (h : k < c) : (negRow c k).set k (-1) = negRow c (k + 1) := by
 have e : c - k = (c - (k + 1)) + 1 := by omega
 rw [negRow, e, List.replicate_succ, List.set_append, List.length_replicate, if_neg (by omega), Nat.sub_self, List.set_cons_zero, negRow, List.replicate_succ', List.append_assoc]
 rfl
theorem negRow_get {c k : Nat} (h : k < c) : ∃ x, (negRow c k)[k]? = some x := get_some (by rw [negRow_len (by omega)]; exact h)
theorem negRow_full (c : Nat) : negRow c c = rowR c [] := by rw [rowR_zero, negRow, Nat.sub_self]; simp
theorem negRow_zero (c : Nat) : (negRow c 0).map D.int = List.replicate c (D.int 0) := by simp [negRow]
set_option maxHeartbeats 8000000 in
theorem Ranks_spec (a : Lv) (hw : wide a) : CallsTo Try.prog 51 [lvD a] (.tup [intsD ((ranksF a.2.1).getD []), .bool (ranksF a.2.1).isSome]) := by
 obtain ⟨m, ls, ar, cs⟩ := a
 have hww : ∀ y, y ∈ ls → y.length * 8 ≤ 140737488351232 := hw
 refine callsTo_of Try.func51 rfl (by decide +kernel) (Nat.le_of_ble_eq_true rfl) ?_
 intro hat B X w0
 have h1 := at_len2 0 1 hat rfl rfl
 rw [List.length_map] at h1
 dsimp only at h1
 repeat' first | refine pw_seq ?_ | refine pw_skip ?_ | refine pw_ret ?_ | refine pw_exit ?_ | refine pw_block ?_ | refine pw_region (fun _ => false) hmix ?_ | (refine wpG_split rfl rfl (fun hc => ?_) (fun hc => ?_) <;> try simp only [hcL, reduceCtorEq] at hc) | (refine pw_cond _ rfl rfl (fun hc => ?_) (fun hc => ?_) <;> (try simp only [hcL, reduceCtorEq] at hc) <;> try (exfalso; omega)) | simp (maxSteps := 1000000) (disch := omega) only [go_sem, simprocAttr] | apply And.intro | omega | decide +kernel
 refine pw_loopI (κ := Nat) (fun (i : Nat) => i ≤ ls.length ∧ i ≤ 257 ∧ tot (ls.take i) ≤ 512 + 17592186043904) (fun (i : Nat) => [(1, .ptr 1 0 0 0), (4, .int (tot (ls.take i))), (5, .int i)]) (fun (i : Nat) => [(1, .cells [.int m, .d (listsD ls), .d (arcsD ar), .d (listsD cs)])]) (fun (i : Nat) => ls.length - i) 0 ?_ ?_ ?_
 ·exact ⟨Nat.zero_le _, by omega, by simp [tot]⟩
 ·exact eL [] _ _ (by refine ⟨?_, ?_⟩ <;> (repeat' first | exact List.forall_mem_nil _ | refine List.forall_mem_cons.2 ⟨(by first | rfl | (simp (disch := omega) only [go_sem, simprocAttr, inL, List.take_zero, tot]; first | done | omega | (congr 1; done))), ?_⟩); done)
 ·rintro i ⟨hi1, hi2, hi3⟩
  by_cases hgo : i < ls.length ∧ i < 257 ∧ tot (ls.take i) ≤ 512
  ·obtain ⟨g1, g2, g3⟩ := hgo
   obtain ⟨y, hy⟩ := get_some g1
   have hyw := hww y (List.mem_of_getElem? hy)
   have hts := tot_snoc hy
   repeat' first | refine pw_seq ?_ | refine pw_skip ?_ | refine pw_ret ?_ | refine pw_exit ?_ | refine pw_block ?_ | refine pw_region (fun _ => false) hmix ?_ | (refine wpG_split rfl rfl (fun hc => ?_) (fun hc => ?_) <;> try simp only [hcL, reduceCtorEq] at hc) | (refine pw_cond _ rfl rfl (fun hc => ?_) (fun hc => ?_) <;> (try simp only [hcL, reduceCtorEq] at hc) <;> try (exfalso; omega)) | simp (maxSteps := 1000000) (disch := omega) only [go_sem, simprocAttr, hy] | apply And.intro | omega | decide +kernel
   refine ⟨i + 1, ?_, eL [] _ _ (by refine ⟨?_, ?_⟩ <;> (repeat' first | exact List.forall_mem_nil _ | refine List.forall_mem_cons.2 ⟨(by first | rfl | (simp (disch := omega) only [go_sem, simprocAttr, inL, hts, Int.natCast_add]; first | done | omega | (congr 1; done))), ?_⟩); done), ?_⟩
   ·exact ⟨by omega, by omega, by omega⟩
   ·omega
  ·have hout : (256 < ls.length ∨ 512 < tot (ls.take i)) ∨ (i = ls.length ∧ ls.length ≤ 256 ∧ tot ls ≤ 512) := by
    by_cases c1 : i = ls.length
    ·rw [c1, List.take_length]; omega
    ·omega
   rcases hout with hno | ⟨rfl, g2, g3⟩
   ·have htl := tot_take_le ls i
    have hrf : ranksF ls = none := by rw [ranksF, if_pos (by omega)]
    rw [hrf]
    have hlt : i < ls.length ∨ i = ls.length := by omega
    rcases hlt with hlt | hlt
    all_goals
     by_cases h257 : i < 257
     all_goals
      repeat' first | refine pw_seq ?_ | refine pw_skip ?_ | refine pw_ret ?_ | refine pw_exit ?_ | refine pw_block ?_ | refine pw_region (fun _ => false) hmix ?_ | (refine wpG_split rfl rfl (fun hc => ?_) (fun hc => ?_) <;> try simp only [hcL, reduceCtorEq] at hc) | (refine pw_cond _ rfl rfl (fun hc => ?_) (fun hc => ?_) <;> (try simp only [hcL, reduceCtorEq] at hc) <;> try (exfalso; omega)) | simp (maxSteps := 1000000) (disch := omega) only [go_sem, simprocAttr] | apply And.intro | omega | decide +kernel
      all_goals exact ⟨_, rfl, rfl, bool_some rfl, trivial⟩
   ·rw [List.take_length]
    have hrf : ranksF ls = if good (tot ls) ls then some (rowR (tot ls) ls) else none := by rw [ranksF, if_neg (by omega)]
    rw [hrf]
    generalize hc : tot ls = c at g3 ⊢
    repeat' first | refine pw_seq ?_ | refine pw_skip ?_ | refine pw_exit ?_ | refine pw_block ?_ | refine pw_region (Nat.beq 43) hmix ?_ | (refine wpG_split rfl rfl (fun hc => ?_) (fun hc => ?_) <;> try simp only [hcL, reduceCtorEq] at hc) | (refine pw_cond _ rfl rfl (fun hc => ?_) (fun hc => ?_) <;> (try simp only [hcL, reduceCtorEq] at hc) <;> try (exfalso; omega)) | simp (maxSteps := 1000000) (disch := omega) only [go_sem, simprocAttr] | apply And.intro | omega | decide +kernel
    refine pw_loopI (κ := Nat) (fun (v : Nat) => v ≤ c) (fun (v : Nat) => [(1, .ptr 1 0 0 0), (4, .int c), (6, .ref 43 1 0 c c), (7, .int v)]) (fun (v : Nat) => [(1, .cells [.int m, .d (listsD ls), .d (arcsD ar), .d (listsD cs)]), (43, .row 1 ((negRow c v).map D.int))]) (fun (v : Nat) => c - v) 0 ?_ ?_ ?_
    ·exact Nat.zero_le _
    ·exact eL [] _ _ (by refine ⟨?_, ?_⟩ <;> (repeat' first | exact List.forall_mem_nil _ | refine List.forall_mem_cons.2 ⟨(by first | rfl | (simp (disch := omega) only [go_sem, simprocAttr, inL, negRow_zero]; first | done | omega | (congr 1; done))), ?_⟩); done)
    ·intro v hv
     have hnl := negRow_len hv
     rcases Nat.lt_or_ge v c with hlt | hge
     ·obtain ⟨x, hx⟩ := negRow_get hlt
      have hst := negRow_set hlt
      repeat' first | refine pw_seq ?_ | refine pw_skip ?_ | refine pw_ret ?_ | refine pw_exit ?_ | refine pw_block ?_ | refine pw_region (fun _ => false) hmix ?_ | (refine wpG_split rfl rfl (fun hc => ?_) (fun hc => ?_) <;> try simp only [hcL, reduceCtorEq] at hc) | (refine pw_cond _ rfl rfl (fun hc => ?_) (fun hc => ?_) <;> (try simp only [hcL, reduceCtorEq] at hc) <;> try (exfalso; omega)) | simp (maxSteps := 1000000) (disch := omega) only [go_sem, simprocAttr, hx, hnl] | apply And.intro | omega | decide +kernel
      refine ⟨v + 1, ?_, eL [] _ _ (by refine ⟨?_, ?_⟩ <;> (repeat' first | exact List.forall_mem_nil _ | refine List.forall_mem_cons.2 ⟨(by first | rfl | (simp (disch := omega) only [go_sem, simprocAttr, inL, hst.symm, List.map_set]; first | done | omega | (congr 1; done))), ?_⟩); done), ?_⟩
      ·omega
      ·omega
     ·have : v = c := by omega
      subst this
      try dsimp only
      rw [negRow_full]
      repeat' first | refine pw_seq ?_ | refine pw_skip ?_ | refine pw_ret ?_ | refine pw_exit ?_ | refine pw_block ?_ | refine pw_region (fun _ => false) hmix ?_ | (refine wpG_split rfl rfl (fun hc => ?_) (fun hc => ?_) <;> try simp only [hcL, reduceCtorEq] at hc) | (refine pw_cond _ rfl rfl (fun hc => ?_) (fun hc => ?_) <;> (try simp only [hcL, reduceCtorEq] at hc) <;> try (exfalso; omega)) | simp (maxSteps := 1000000) (disch := omega) only [go_sem, simprocAttr] | apply And.intro | omega | decide +kernel
      refine pw_loopI (κ := Nat) (fun (i : Nat) => i ≤ ls.length ∧ good v (ls.take i) = true) (fun (i : Nat) => [(1, .ptr 1 0 0 0), (4, .int v), (6, .ref 43 1 0 v v), (8, .int i)]) (fun (i : Nat) => [(1, .cells [.int m, .d (listsD ls), .d (arcsD ar), .d (listsD cs)]), (43, .row 1 ((rowR v (ls.take i)).map D.int))]) (fun (i : Nat) => ls.length - i) 0 ?_ ?_ ?_
      ·exact ⟨Nat.zero_le _, by simp [good]⟩
      ·exact eL [] _ _ (by refine ⟨?_, ?_⟩ <;> (repeat' first | exact List.forall_mem_nil _ | refine List.forall_mem_cons.2 ⟨(by first | rfl | (simp (disch := omega) only [go_sem, simprocAttr, inL, List.take_zero]; first | done | omega | (congr 1; done))), ?_⟩); done)
      ·rintro i ⟨hi, hgood⟩
       rcases Nat.lt_or_ge i ls.length with hlt | hge
       ·obtain ⟨y, hy⟩ := get_some hlt
        have hyw := hww y (List.mem_of_getElem? hy)
        repeat' first | refine pw_seq ?_ | refine pw_skip ?_ | refine pw_ret ?_ | refine pw_exit ?_ | refine pw_block ?_ | refine pw_region (fun _ => false) hmix ?_ | (refine wpG_split rfl rfl (fun hc => ?_) (fun hc => ?_) <;> try simp only [hcL, reduceCtorEq] at hc) | (refine pw_cond _ rfl rfl (fun hc => ?_) (fun hc => ?_) <;> (try simp only [hcL, reduceCtorEq] at hc) <;> try (exfalso; omega)) | simp (maxSteps := 1000000) (disch := omega) only [go_sem, simprocAttr, hy] | apply And.intro | omega | decide +kernel
        refine pw_loopI (κ := Nat) (fun (k : Nat) => k ≤ y.length ∧ good v (pre ls i k) = true) (fun (k : Nat) => [(1, .ptr 1 0 0 0), (4, .int v), (6, .ref 43 1 0 v v), (8, .int i), (9, .int k)]) (fun (k : Nat) => [(1, .cells [.int m, .d (listsD ls), .d (arcsD ar), .d (listsD cs)]), (43, .row 1 ((rowR v (pre ls i k)).map D.int))]) (fun (k : Nat) => y.length - k) 0 ?_ ?_ ?_
        ·exact ⟨Nat.zero_le _, by rw [good_pre0]; exact hgood⟩
        ·exact eL [] _ _ (by refine ⟨?_, ?_⟩ <;> (repeat' first | exact List.forall_mem_nil _ | refine List.forall_mem_cons.2 ⟨(by first | rfl | (simp (disch := omega) only [go_sem, simprocAttr, inL, rowR_pre0]; first | done | omega | (congr 1; done))), ?_⟩); done)
        ·rintro k ⟨hk, hgk⟩
         rcases Nat.lt_or_ge k y.length with hlk | hgk2
         ·obtain ⟨x, hx⟩ := get_some hlk
          have hrl := rowR_len v (pre ls i k)
          by_cases hin : 0 ≤ x ∧ x < v
          ·have hg := rowR_get (v := x.toNat) (c := v) (by omega) (pre ls i k)
           rw [show ((x.toNat : Nat) : Int) = x by omega] at hg
           by_cases hd : layI (pre ls i k) x < 0
           ·have hst := rowR_step (c := v) ls hy hx hin.1 hd
            repeat' first | refine pw_seq ?_ | refine pw_skip ?_ | refine pw_ret ?_ | refine pw_exit ?_ | refine pw_block ?_ | refine pw_region (fun _ => false) hmix ?_ | (refine wpG_split rfl rfl (fun hc => ?_) (fun hc => ?_) <;> try simp only [hcL, reduceCtorEq] at hc) | (refine pw_cond _ rfl rfl (fun hc => ?_) (fun hc => ?_) <;> (try simp only [hcL, reduceCtorEq] at hc) <;> try (exfalso; omega)) | simp (maxSteps := 1000000) (disch := omega) only [go_sem, simprocAttr, hy, hx, hrl, hg] | apply And.intro | omega | decide +kernel
            refine ⟨k + 1, ?_, eL [] _ _ (by refine ⟨?_, ?_⟩ <;> (repeat' first | exact List.forall_mem_nil _ | refine List.forall_mem_cons.2 ⟨(by first | rfl | (simp (disch := omega) only [go_sem, simprocAttr, inL, hst.symm, List.map_set]; first | done | omega | (congr 1; done))), ?_⟩); done), ?_⟩
            ·exact ⟨by omega, good_step hy hx hgk hin.1 hin.2 hd⟩
            ·omega
           ·have hbad := bad_step (c := v) hy hx (.inr (.inr (by omega)))
            rw [hbad]
            repeat' first | refine pw_seq ?_ | refine pw_skip ?_ | refine pw_ret ?_ | refine pw_exit ?_ | refine pw_block ?_ | refine pw_region (fun _ => false) hmix ?_ | (refine wpG_split rfl rfl (fun hc => ?_) (fun hc => ?_) <;> try simp only [hcL, reduceCtorEq] at hc) | (refine pw_cond _ rfl rfl (fun hc => ?_) (fun hc => ?_) <;> (try simp only [hcL, reduceCtorEq] at hc) <;> try (exfalso; omega)) | simp (maxSteps := 1000000) (disch := omega) only [go_sem, simprocAttr, hy, hx, hrl, hg] | apply And.intro | omega | decide +kernel
            all_goals exact ⟨_, rfl, rfl, bool_some rfl, trivial⟩
          ·have hbad := bad_step (c := v) hy hx (by omega)
           rw [hbad]
           repeat' first | refine pw_seq ?_ | refine pw_skip ?_ | refine pw_ret ?_ | refine pw_exit ?_ | refine pw_block ?_ | refine pw_region (fun _ => false) hmix ?_ | (refine wpG_split rfl rfl (fun hc => ?_) (fun hc => ?_) <;> try simp only [hcL, reduceCtorEq] at hc) | (refine pw_cond _ rfl rfl (fun hc => ?_) (fun hc => ?_) <;> (try simp only [hcL, reduceCtorEq] at hc) <;> try (exfalso; omega)) | simp (maxSteps := 1000000) (disch := omega) only [go_sem, simprocAttr, hy, hx, hrl] | apply And.intro | omega | decide +kernel
           all_goals exact ⟨_, rfl, rfl, bool_some rfl, trivial⟩
         ·have : k = y.length := by omega
          subst this
          have hpf := pre_full hy
          repeat' first | refine pw_seq ?_ | refine pw_skip ?_ | refine pw_ret ?_ | refine pw_exit ?_ | refine pw_block ?_ | refine pw_region (fun _ => false) hmix ?_ | (refine wpG_split rfl rfl (fun hc => ?_) (fun hc => ?_) <;> try simp only [hcL, reduceCtorEq] at hc) | (refine pw_cond _ rfl rfl (fun hc => ?_) (fun hc => ?_) <;> (try simp only [hcL, reduceCtorEq] at hc) <;> try (exfalso; omega)) | simp (maxSteps := 1000000) (disch := omega) only [go_sem, simprocAttr, hy] | apply And.intro | omega | decide +kernel
          refine ⟨i + 1, ?_, eL [] _ _ (by refine ⟨?_, ?_⟩ <;> (repeat' first | exact List.forall_mem_nil _ | refine List.forall_mem_cons.2 ⟨(by first | rfl | (simp (disch := omega) only [go_sem, simprocAttr, inL, hpf]; first | done | omega | (congr 1; done))), ?_⟩); done), ?_⟩
          ·exact ⟨by omega, by rw [← hpf]; exact hgk⟩
          ·omega
       ·have : i = ls.length := by omega
        subst this
        rw [List.take_length] at hgood
        try dsimp only
        rw [List.take_length, hgood]
        repeat' first | refine pw_seq ?_ | refine pw_skip ?_ | refine pw_ret ?_ | refine pw_exit ?_ | refine pw_block ?_ | refine pw_region (fun _ => false) hmix ?_ | (refine wpG_split rfl rfl (fun hc => ?_) (fun hc => ?_) <;> try simp only [hcL, reduceCtorEq] at hc) | (refine pw_cond _ rfl rfl (fun hc => ?_) (fun hc => ?_) <;> (try simp only [hcL, reduceCtorEq] at hc) <;> try (exfalso; omega)) | simp (maxSteps := 1000000) (disch := omega) only [go_sem, simprocAttr] | apply And.intro | omega | decide +kernel
        exact ⟨_, rfl, ret_ref (o := 43) rfl rfl (by simp [rowR_len]) (List.take_of_length_le (by simp [rowR_len])), bool_some rfl, trivial⟩
end Go.Proofs.Ytldbcbclhpcofaa
namespace Go.Proofs.Ytldbcbclhpcofaa
open Go Go.PS Go.Proofs
set_option maxRecDepth 100000
attribute [local irreducible] wpRun wpG CallsTo CallsM

def sourceOk (a : Lv) (o : List Int) : Bool := decide (0 ≤ a.1 ∧ a.1 ≤ o.length ∧ a.1 ≤ 64 ∧ a.2.2.2.length ≤ 256) && !a.2.2.2.any shortC
def sourceF (a : Lv) : Gr × List Int × Bool := match ranksF a.2.1 with
 | none => ((0, []), [], false)
 | some o => if sourceOk a o then (srcG a, o.take a.1.toNat, true) else ((0, []), [], false)
def rValidF (a : Lv) : Bool := (sourceF a).2.2 && decide ((buildF (sourceF a).1 (sourceF a).2.1).2 = 0) && sameLv (buildF (sourceF a).1 (sourceF a).2.1).1 (sortLv a)
set_option maxHeartbeats 4000000 in
theorem Source_spec (a : Lv) (hw : wide a) : CallsTo Try.prog 32 [lvD a] (.tup [gD (sourceF a).1, intsD (sourceF a).2.1, .bool (sourceF a).2.2]) := by
 have hr := Ranks_spec a hw
 obtain ⟨m, ls, ar, cs⟩ := a
 dsimp only at hr
 have hsf : sourceF (m, ls, ar, cs) = match ranksF ls with
  | none => ((0, []), [], false)
  | some o => if sourceOk (m, ls, ar, cs) o then ((m, cs.map endsA), o.take m.toNat, true) else ((0, []), [], false) := rfl
 rw [hsf]
 rcases hrf : ranksF ls with _ | o
 ·rw [hrf] at hr
  dsimp only [Option.getD_none, Option.isSome_none] at hr
  refine callsTo_of Try.func32 rfl (by decide +kernel) (Nat.le_of_ble_eq_true rfl) ?_
  intro hat B X w0
  repeat' first | refine pw_seq ?_ | refine pw_skip ?_ | refine pw_ret ?_ | refine pw_exit ?_ | refine pw_block ?_ | refine pw_region (fun _ => false) hmix ?_ | (refine rc (hr) rfl ?_ ?_; (· first | rfl | (simp (disch := omega) only [go_sem, simprocAttr, List.append_eq]; done))) | (refine wpG_split rfl rfl (fun hc => ?_) (fun hc => ?_) <;> try simp only [hcL, reduceCtorEq] at hc) | (refine pw_cond _ rfl rfl (fun hc => ?_) (fun hc => ?_) <;> (try simp only [hcL, reduceCtorEq] at hc) <;> try (exfalso; omega)) | simp (maxSteps := 1000000) (disch := omega) only [go_sem, simprocAttr, List.append_eq] | apply And.intro | omega | decide +kernel
  refine ⟨_, rfl, ⟨_, _, _, _, rfl, ?_⟩, rfl, bool_some rfl, trivial⟩
  simp (maxSteps := 1000000) (disch := omega) only [go_sem, simprocAttr, toD]
  rfl
 ·rw [hrf] at hr
  dsimp only [Option.getD_some, Option.isSome_some] at hr
  dsimp only
  have hol : o.length ≤ 512 := by
   rw [ranksF] at hrf
   split at hrf
   ·cases hrf
   ·split at hrf
    ·cases hrf; rw [rowR_len]; omega
    ·cases hrf
  refine callsTo_of Try.func32 rfl (by decide +kernel) (Nat.le_of_ble_eq_true rfl) ?_
  intro hat B X w0
  have h3 := at_len2 0 3 hat rfl rfl
  rw [List.length_map] at h3
  dsimp only at h3
  repeat' first | refine pw_seq ?_ | refine pw_skip ?_ | refine pw_ret ?_ | refine pw_exit ?_ | refine pw_block ?_ | refine pw_region (fun _ => false) hmix ?_ | (refine rc (hr) rfl ?_ ?_; (· first | rfl | (simp (disch := omega) only [go_sem, simprocAttr, List.append_eq]; done))) | (refine wpG_split rfl rfl (fun hc => ?_) (fun hc => ?_) <;> try simp only [hcL, reduceCtorEq] at hc) | (refine pw_cond _ rfl rfl (fun hc => ?_) (fun hc => ?_) <;> (try simp only [hcL, reduceCtorEq] at hc) <;> try (exfalso; omega)) | simp (maxSteps := 1000000) (disch := omega) only [go_sem, simprocAttr, List.append_eq] | apply And.intro | omega | decide +kernel
  all_goals try
   rw [if_neg (by simp [sourceOk]; omega)]
   refine ⟨_, rfl, ⟨_, _, _, _, rfl, ?_⟩, rfl, bool_some rfl, trivial⟩
   simp (maxSteps := 1000000) (disch := omega) only [go_sem, simprocAttr, toD]
   rfl
  obtain ⟨n, rfl⟩ : ∃ n : Nat, m = n := ⟨m.toNat, by omega⟩
  have hn1 : n ≤ o.length := by omega
  have hn2 : n ≤ 64 := by omega
  have hc2 : cs.length ≤ 256 := by omega
  have hso : sourceOk ((n : Int), ls, ar, cs) o = !cs.any shortC := by
   simp only [sourceOk]; rw [decide_eq_true (by omega), Bool.true_and]
  rw [hso]
  refine pw_ent _ (ent_nilC 7 1 901 2 rfl rfl rfl) ?_
  refine pw_loopI (κ := Nat) (fun (k : Nat) => k ≤ cs.length ∧ ∀ (j : Nat) y, j < k → cs[j]? = some y → shortC y = false) (fun (k : Nat) => [(1, .ptr 1 0 0 0), (2, .ptr 2 0 0 0), (5, .d (intsD o)), (7, .ptr 7 0 0 0), (8, .int k)]) (fun (k : Nat) => [(1, .cells [.int n, .d (listsD ls), .d (arcsD ar), .d (listsD cs)]), (2, .cells [.int 0, .nilS]), (7, .cells [.int n, .ref 901 2 0 k k]), (901, .row 2 (((cs.take k).map endsA).map arcD))]) (fun (k : Nat) => cs.length - k) 0 ?_ ?_ ?_
  ·exact ⟨Nat.zero_le _, fun j y h => by omega⟩
  ·exact eL [] _ _ (by refine ⟨?_, ?_⟩ <;> (repeat' first | exact List.forall_mem_nil _ | refine List.forall_mem_cons.2 ⟨(by first | rfl | (simp (disch := omega) only [go_sem, simprocAttr, inL, List.take_zero, List.map_nil]; first | done | omega | (congr 1; done))), ?_⟩); done)
  ·rintro k ⟨hk, hinv⟩
   rcases Nat.lt_or_ge k cs.length with hlt | hge
   ·obtain ⟨c, hc0⟩ := get_some hlt
    by_cases hsc : c.length < 2
    ·have : cs.any shortC = true := any_at hc0 (by simpa [shortC] using hsc)
     rw [this]
     repeat' first | refine pw_seq ?_ | refine pw_skip ?_ | refine pw_ret ?_ | refine pw_exit ?_ | refine pw_block ?_ | refine pw_region (fun _ => false) hmix ?_ | (refine wpG_split rfl rfl (fun hc => ?_) (fun hc => ?_) <;> try simp only [hcL, reduceCtorEq] at hc) | (refine pw_cond _ rfl rfl (fun hc => ?_) (fun hc => ?_) <;> (try simp only [hcL, reduceCtorEq] at hc) <;> try (exfalso; omega)) | simp (maxSteps := 1000000) (disch := omega) only [go_sem, simprocAttr, hc0] | apply And.intro | omega | decide +kernel
     refine ⟨_, rfl, ⟨_, _, _, _, rfl, ?_⟩, rfl, bool_some rfl, trivial⟩
     simp (maxSteps := 1000000) (disch := omega) only [go_sem, simprocAttr, toD]
     rfl
    ·have hcl : c.length ≤ 9223372036854775807 := by have := at_elem (m := c.map D.int) (k := k) 0 3 hat rfl rfl (by rw [List.getElem?_map, hc0]; rfl); rwa [List.length_map] at this
     have e1 := at0_at (r := c) (i := 0) (by omega)
     have e2 := at0_get (r := c) (v := (c.length : Int) - 1) (by omega) (by omega)
     have hts := take_snoc hc0
     have hlk : (((cs.take k).map endsA).map arcD).length = k := by rw [List.length_map, List.length_map, List.length_take]; omega
     have htk : List.take k (((cs.take k).map endsA).map arcD) = ((cs.take k).map endsA).map arcD := List.take_of_length_le (by rw [hlk]; exact Nat.le_refl _)
     repeat' first | refine pw_seq ?_ | refine pw_skip ?_ | refine pw_ret ?_ | refine pw_exit ?_ | refine pw_block ?_ | refine pw_region (fun _ => false) hmix ?_ | (refine wpG_split rfl rfl (fun hc => ?_) (fun hc => ?_) <;> try simp only [hcL, reduceCtorEq] at hc) | (refine pw_cond _ rfl rfl (fun hc => ?_) (fun hc => ?_) <;> (try simp only [hcL, reduceCtorEq] at hc) <;> try (exfalso; omega)) | simp (maxSteps := 1000000) (disch := omega) only [go_sem, simprocAttr, hc0, e1, e2, roomy, hlk] | apply And.intro | omega | decide +kernel
     refine ⟨k + 1, ?_, eL [(901, 73)] _ _ (by refine ⟨?_, ?_⟩ <;> (repeat' first | exact List.forall_mem_nil _ | refine List.forall_mem_cons.2 ⟨(by first | rfl | (simp (disch := omega) only [go_sem, simprocAttr, inL, hts, List.map_append, htk]; first | done | omega | (congr 1; done))), ?_⟩); done), ?_⟩
     ·exact ⟨by omega, upto_succ hinv hc0 (by simpa [shortC] using hsc)⟩
     ·omega
   ·have : k = cs.length := by omega
    subst this
    have hsc : cs.any shortC = false := any_no fun j y hj => hinv j y hj
    try dsimp only
    rw [List.take_length, hsc, if_pos (by decide)]
    have hlA : ((cs.map endsA).map arcD).length = cs.length := by simp
    repeat' first | refine pw_seq ?_ | refine pw_skip ?_ | refine pw_ret ?_ | refine pw_exit ?_ | refine pw_block ?_ | refine pw_region (fun _ => false) hmix ?_ | (refine wpG_split rfl rfl (fun hc => ?_) (fun hc => ?_) <;> try simp only [hcL, reduceCtorEq] at hc) | (refine pw_cond _ rfl rfl (fun hc => ?_) (fun hc => ?_) <;> (try simp only [hcL, reduceCtorEq] at hc) <;> try (exfalso; omega)) | simp (maxSteps := 1000000) (disch := omega) only [go_sem, simprocAttr] | exact one_int o | apply And.intro | omega | decide +kernel
    refine ⟨_, rfl, ⟨_, _, _, _, rfl, ?_⟩, ?_, bool_some rfl, trivial⟩
    ·simp (maxSteps := 1000000) (disch := omega) only [go_sem, simprocAttr, toD, hlA, Nat.le_refl, List.drop_zero]
     rw [List.take_of_length_le (by rw [hlA]; exact Nat.le_refl _)]
    ·exact sl_some (by rw [List.map_take])
theorem rTot {a : Lv} (h : (sourceF a).2.2 = true) : a.2.1.length ≤ 256 ∧ tot a.2.1 ≤ 512 := by
 rw [sourceF] at h
 split at h
 ·cases h
 ·rename_i o ho
  rw [ranksF] at ho
  split at ho
  ·cases ho
  ·omega
set_option maxHeartbeats 4000000 in
theorem rLvValid_spec (a : Lv) (hw : wide a) : CallsTo Try.prog 15 [lvD a] (.bool (rValidF a)) := by
 have hs := Source_spec a hw
 have hb := rBuild_spec (sourceF a).1 (sourceF a).2.1
 have hm := rSame_spec (buildF (sourceF a).1 (sourceF a).2.1).1 (sortLv a)
 rcases h1 : (sourceF a).2.2 with _ | _
 ·rw [h1] at hs
  rw [rValidF, h1]
  refine callsTo_of Try.func15 rfl (by decide +kernel) (Nat.le_of_ble_eq_true rfl) ?_
  intro hat B X w0
  repeat' first | refine pw_seq ?_ | refine pw_skip ?_ | refine pw_ret ?_ | refine pw_exit ?_ | refine pw_block ?_ | refine pw_region (fun _ => false) hmix ?_ | (refine rc (hs) rfl ?_ ?_; (· first | rfl | (simp (disch := omega) only [go_sem, simprocAttr, List.append_eq]; done))) | (refine wpG_split rfl rfl (fun hc => ?_) (fun hc => ?_) <;> try simp only [hcL, reduceCtorEq] at hc) | (refine pw_cond _ rfl rfl (fun hc => ?_) (fun hc => ?_) <;> (try simp only [hcL, reduceCtorEq] at hc) <;> try (exfalso; omega)) | simp (maxSteps := 1000000) (disch := omega) only [go_sem, simprocAttr, List.append_eq] | apply And.intro | omega | decide +kernel
  exact bool_some rfl
 ·rw [h1] at hs
  rw [rValidF, h1]
  obtain ⟨t1, t2⟩ := rTot h1
  have hp := plain_spec a (by omega) (fun y hy => by have := tot_mem hy; omega)
  generalize sourceF a = S at *
  generalize buildF S.1 S.2.1 = BF at *
  obtain ⟨b, e⟩ := BF
  dsimp only at hb hm ⊢
  by_cases he : e = 0
  ·subst he
   rcases hsv : sameLv b (sortLv a) with _ | _ <;> rw [hsv] at hm
   all_goals
    refine callsTo_of Try.func15 rfl (by decide +kernel) (Nat.le_of_ble_eq_true rfl) ?_
    intro hat B X w0
    repeat' first | refine pw_seq ?_ | refine pw_skip ?_ | refine pw_ret ?_ | refine pw_exit ?_ | refine pw_block ?_ | refine pw_region (fun _ => false) hmix ?_ | (refine rc (hs) rfl ?_ ?_; (· first | rfl | (simp (disch := omega) only [go_sem, simprocAttr, List.append_eq]; done))) | (refine rc (hb) rfl ?_ ?_; (· first | rfl | (simp (disch := omega) only [go_sem, simprocAttr, List.append_eq]; done))) | (refine rc (hp) rfl ?_ ?_; (· first | rfl | (simp (disch := omega) only [go_sem, simprocAttr, List.append_eq]; done))) | (refine rc (hm) rfl ?_ ?_; (· first | rfl | (simp (disch := omega) only [go_sem, simprocAttr, List.append_eq]; done))) | (refine wpG_split rfl rfl (fun hc => ?_) (fun hc => ?_) <;> try simp only [hcL, reduceCtorEq] at hc) | (refine pw_cond _ rfl rfl (fun hc => ?_) (fun hc => ?_) <;> (try simp only [hcL, reduceCtorEq] at hc) <;> try (exfalso; omega)) | simp (maxSteps := 1000000) (disch := omega) only [go_sem, simprocAttr, List.append_eq] | apply And.intro | omega | decide +kernel
    exact bool_some rfl
  ·refine callsTo_of Try.func15 rfl (by decide +kernel) (Nat.le_of_ble_eq_true rfl) ?_
   intro hat B X w0
   repeat' first | refine pw_seq ?_ | refine pw_skip ?_ | refine pw_ret ?_ | refine pw_exit ?_ | refine pw_block ?_ | refine pw_region (fun _ => false) hmix ?_ | (refine rc (hs) rfl ?_ ?_; (· first | rfl | (simp (disch := omega) only [go_sem, simprocAttr, List.append_eq, he]; done))) | (refine rc (hb) rfl ?_ ?_; (· first | rfl | (simp (disch := omega) only [go_sem, simprocAttr, List.append_eq, he]; done))) | (refine rc (hp) rfl ?_ ?_; (· first | rfl | (simp (disch := omega) only [go_sem, simprocAttr, List.append_eq, he]; done))) | (refine rc (hm) rfl ?_ ?_; (· first | rfl | (simp (disch := omega) only [go_sem, simprocAttr, List.append_eq, he]; done))) | (refine wpG_split rfl rfl (fun hc => ?_) (fun hc => ?_) <;> try simp only [hcL, reduceCtorEq] at hc) | (refine pw_cond _ rfl rfl (fun hc => ?_) (fun hc => ?_) <;> (try simp only [hcL, reduceCtorEq] at hc) <;> try (exfalso; omega)) | simp (maxSteps := 1000000) (disch := omega) only [go_sem, simprocAttr, List.append_eq, he] | apply And.intro | omega | decide +kernel
   refine bool_some ?_
   simp [he]
end Go.Proofs.Ytldbcbclhpcofaa
namespace Go.Proofs.Ytldbcbclhpcofaa
open Go Go.PS Go.Proofs

theorem nodup_le : ∀ {l m : List Int}, l.Nodup → (∀ x, x ∈ l → x ∈ m) → l.length ≤ m.length
 | [], m, _, _ => Nat.zero_le _
 | x :: l, m, hn, hs => by
  have hx : x ∈ m := hs x (by simp)
  have h1 := List.length_erase_of_mem hx
  have h2 : 0 < m.length := List.length_pos_of_mem hx
  have hn2 := List.nodup_cons.1 hn
  have := nodup_le (l := l) (m := m.erase x) hn2.2 (fun y hy => by
   have hne : y ≠ x := fun e => hn2.1 (e ▸ hy)
   exact (List.mem_erase_of_ne hne).2 (hs y (List.mem_cons_of_mem _ hy)))
  simp only [List.length_cons]; omega
def below (c : Nat) : List Int := (List.range c).map fun n : Nat => (n : Int)
theorem below_len (c : Nat) : (below c).length = c := by simp [below]
theorem below_mem {c : Nat} {v : Int} : v ∈ below c ↔ 0 ≤ v ∧ v < c := by
 simp only [below, List.mem_map, List.mem_range]
 constructor
 ·rintro ⟨n, h, rfl⟩; omega
 ·intro h; exact ⟨v.toNat, by omega, by omega⟩
theorem below_nodup (c : Nat) : (below c).Nodup := by
 refine List.Pairwise.map _ ?_ (List.nodup_range (n := c))
 intro a b h; omega
theorem nodup_all {c : Nat} {l : List Int} (hn : l.Nodup) (hb : ∀ v, v ∈ l → 0 ≤ v ∧ v < c) (hl : l.length = c) (v : Int) (h0 : 0 ≤ v) (h1 : v < c) : v ∈ l := by
 by_cases h : v ∈ l
 ·exact h
 ·have := nodup_le (l := v :: l) (m := below c) (List.nodup_cons.2 ⟨h, hn⟩) (fun x hx => by
   rcases List.mem_cons.1 hx with rfl | hx
   ·exact below_mem.2 ⟨h0, h1⟩
   ·exact below_mem.2 (hb x hx))
  rw [below_len, List.length_cons] at this
  omega
theorem layerOf_mem {A : List Int} {k : Nat} {v : Int} : v ∈ layerOf A k ↔ 0 ≤ v ∧ A[v.toNat]? = some (k : Int) := by
 simp only [layerOf, List.mem_map, List.mem_filter, List.mem_range, decide_eq_true_eq]
 constructor
 ·rintro ⟨n, ⟨h1, h2⟩, rfl⟩
  exact ⟨by omega, by rw [Int.toNat_natCast]; exact h2⟩
 ·rintro ⟨h1, h2⟩
  exact ⟨v.toNat, ⟨(List.getElem?_eq_some_iff.1 h2).1, h2⟩, by omega⟩
theorem layerOf_sorted (A : List Int) (k : Nat) : (layerOf A k).Pairwise (· < ·) := by
 refine List.Pairwise.map (R := (· < ·)) _ ?_ ((List.pairwise_lt_range (n := A.length)).filter _)
 intro a b h; omega
theorem layersN_get {A : List Int} {M k : Nat} (h : k < M) : (layersN A M)[k]? = some (layerOf A k) := by simp [layersN, h]
section layers
variable {A : List Int} {M : Nat}
theorem layers_flat (hA : ∀ n : Nat, n < A.length → 0 ≤ at0 A n ∧ at0 A n < M) {v : Int} : v ∈ (layersN A M).flatten ↔ 0 ≤ v ∧ v < A.length := by
 simp only [layersN, List.mem_flatten, List.mem_map, List.mem_range]
 constructor
 ·rintro ⟨y, ⟨k, hk, rfl⟩, hv⟩
  obtain ⟨h1, h2⟩ := layerOf_mem.1 hv
  have := (List.getElem?_eq_some_iff.1 h2).1
  omega
 ·rintro ⟨h1, h2⟩
  have h3 := hA v.toNat (by omega)
  refine ⟨_, ⟨(at0 A v.toNat).toNat, by omega, rfl⟩, layerOf_mem.2 ⟨h1, ?_⟩⟩
  rw [at0_at (by omega)]
  congr 1; omega
theorem layers_nodup : (layersN A M).flatten.Nodup := by
 refine List.pairwise_flatten.2 ⟨fun y hy => ?_, ?_⟩
 ·obtain ⟨k, _, rfl⟩ := List.mem_map.1 hy
  exact (layerOf_sorted A k).imp (fun h => by omega)
 ·refine List.Pairwise.map _ ?_ (List.pairwise_lt_range (n := M))
  intro a b h x hx y hy e
  subst e
  have h1 := (layerOf_mem.1 hx).2
  rw [(layerOf_mem.1 hy).2, Option.some.injEq] at h1
  omega
theorem layers_tot (hA : ∀ n : Nat, n < A.length → 0 ≤ at0 A n ∧ at0 A n < M) : tot (layersN A M) = A.length := by
 rw [← tot_flat]
 have h1 := nodup_le (l := (layersN A M).flatten) (m := below A.length) layers_nodup (fun x hx => below_mem.2 ((layers_flat hA).1 hx))
 have h2 := nodup_le (l := below A.length) (m := (layersN A M).flatten) (below_nodup _) (fun x hx => (layers_flat hA).2 (below_mem.1 hx))
 rw [below_len] at h1 h2
 omega
theorem layers_lay (hA : ∀ n : Nat, n < A.length → 0 ≤ at0 A n ∧ at0 A n < M) {n : Nat} (h : n < A.length) : layI (layersN A M) n = at0 A n := by
 have h3 := hA n h
 have hk : (layersN A M)[(at0 A n).toNat]? = some (layerOf A (at0 A n).toNat) := layersN_get (by omega)
 have hm : ((n : Nat) : Int) ∈ layerOf A (at0 A n).toNat := layerOf_mem.2 ⟨by omega, by rw [Int.toNat_natCast, at0_at h]; congr 1; omega⟩
 rw [layI, findIdx_at hk (List.any_eq_true.2 ⟨_, hm, by simp⟩)]
 ·show (((at0 A n).toNat : Nat) : Int) = _; omega
 ·intro j y hj hy
  rw [layersN_get (by omega)] at hy
  cases hy
  rw [List.any_eq_false]
  intro x hx hxn
  have : x = n := by simpa using hxn
  subst this
  have h4 := (layerOf_mem.1 hx).2
  rw [Int.toNat_natCast, at0_at h, Option.some.injEq] at h4
  omega
theorem layers_good (hA : ∀ n : Nat, n < A.length → 0 ≤ at0 A n ∧ at0 A n < M) : good A.length (layersN A M) = true := by
 rw [good_iff]
 exact ⟨fun v hv => (layers_flat hA).1 hv, layers_nodup⟩
theorem layers_row (hA : ∀ n : Nat, n < A.length → 0 ≤ at0 A n ∧ at0 A n < M) : rowR A.length (layersN A M) = A := by
 refine List.ext_getElem? fun u => ?_
 by_cases hu : u < A.length
 ·rw [rowR_get hu, layers_lay hA hu, at0_at hu]
 ·rw [List.getElem?_eq_none (by rw [rowR_len]; omega), List.getElem?_eq_none (by omega)]
end layers
theorem sort_flat (ls : List (List Int)) : (ls.map sortL).flatten.Perm ls.flatten := by
 induction ls with
 | nil => exact .refl _
 | cons y ls ih => simp only [List.map_cons, List.flatten_cons]; exact (sortL_perm y).append ih
theorem sort_tot (ls : List (List Int)) : tot (ls.map sortL) = tot ls := by
 rw [← tot_flat, ← tot_flat]; exact (sort_flat ls).length_eq
theorem sort_lay (ls : List (List Int)) (v : Int) : layI (ls.map sortL) v = layI ls v := by
 rw [layI, layI, List.findIdx?_map]
 congr 2
 funext y
 show (sortL y).any _ = y.any _
 rw [Bool.eq_iff_iff, List.any_eq_true, List.any_eq_true]
 constructor
 ·rintro ⟨x, h1, h2⟩; exact ⟨x, (sortL_perm y).mem_iff.1 h1, h2⟩
 ·rintro ⟨x, h1, h2⟩; exact ⟨x, (sortL_perm y).mem_iff.2 h1, h2⟩
theorem sort_good (c : Nat) (ls : List (List Int)) : good c (ls.map sortL) = good c ls := by
 rw [Bool.eq_iff_iff, good_iff, good_iff, (sort_flat ls).nodup_iff]
 constructor
 ·rintro ⟨h1, h2⟩; exact ⟨fun v hv => h1 v ((sort_flat ls).mem_iff.2 hv), h2⟩
 ·rintro ⟨h1, h2⟩; exact ⟨fun v hv => h1 v ((sort_flat ls).mem_iff.1 hv), h2⟩
theorem sort_row (c : Nat) (ls : List (List Int)) : rowR c (ls.map sortL) = rowR c ls := by simp only [rowR, sort_lay]
theorem sort_ranks (ls : List (List Int)) : ranksF (ls.map sortL) = ranksF ls := by
 rw [ranksF, ranksF, List.length_map, sort_tot, sort_good, sort_row]
def highN (g : Gr) (r : List Int) : Nat := if g.1 = 0 then 0 else (maxN r (r.length - 1) + 1).toNat
structure Built (g : Gr) (r : List Int) : Prop where
 eq : buildF g r = (madeF g r, 0)
 gok : gOk g = true
 len : (r.length : Int) = g.1
 rk : ∀ v : Nat, 0 ≤ at0 r v ∧ at0 r v ≤ 255
 loop : ∀ a, a ∈ g.2 → a.1 ≠ a.2
 gap : ∀ (k : Nat) a, g.2[k]? = some a → 0 ≤ at0 r a.2 - at0 r a.1 - 1
 big : g.1 + sumG r g.2 g.2.length ≤ 512
theorem built {g : Gr} {r : List Int} (h : (buildF g r).2 = 0) : Built g r := by
 rw [buildF] at h
 split at h
 ·cases h
 ·rename_i h1
  have h1 : ranksOk g r = true := by simpa using h1
  obtain ⟨g1, g2, g3, g4⟩ := ranksOk_in h1
  split at h
  ·cases h
  ·rename_i h2
   split at h
   ·cases h
   ·rename_i h3
    split at h
    ·cases h
    ·rename_i h4
     refine ⟨?_, g1, g2, g4, fun a ha => ?_, fun k a ha => ?_, by omega⟩
     ·rw [buildF, h1, if_neg (by decide), if_neg h2, if_neg h3, if_neg h4]
     ·have := List.any_eq_false.1 (Bool.eq_false_iff.2 h2) a ha
      simpa [loopF] using this
     ·have := List.any_eq_false.1 (Bool.eq_false_iff.2 h3) a (List.mem_of_getElem? ha)
      rw [upward, decide_eq_true_eq] at this; omega
theorem made_layers (g : Gr) (r : List Int) : (madeF g r).2.1 = layersN (allR r g.2 g.2.length) (highN g r) := by
 rw [madeF, highN]
 split
 ·rfl
 ·rfl
theorem at0_mem {l : List Int} {P : Int → Prop} (h : ∀ x, x ∈ l → P x) (n : Nat) (hn : n < l.length) : P (at0 l n) := h _ (List.mem_of_getElem? (at0_at hn))
namespace Built
variable {g : Gr} {r : List Int}
theorem ends (b : Built g r) {k : Nat} {a : Arc} (h : g.2[k]? = some a) : 0 ≤ a.1 ∧ a.1 < g.1 ∧ 0 ≤ a.2 ∧ a.2 < g.1 := (gOk_in b.gok).2.2.2 k a h
theorem high (b : Built g r) (hp : 0 < r.length) : (highN g r : Int) = maxN r (r.length - 1) + 1 := by
 have h1 := maxN_ge r (r.length - 1) 0 (by omega)
 have h2 := b.rk 0
 have h3 := b.len
 rw [highN, if_neg (by omega)]; omega
theorem high_le (b : Built g r) : highN g r ≤ 256 := by
 have h2 := maxN_le (fun j => (b.rk j).2) (r.length - 1)
 rw [highN]
 split <;> omega
theorem rk_lt (b : Built g r) {n : Nat} (h : n < r.length) : at0 r n < highN g r := by
 have := maxN_ge r (r.length - 1) n (by omega)
 rw [b.high (by omega)]; omega
theorem vals (b : Built g r) : ∀ n : Nat, n < (allR r g.2 g.2.length).length → 0 ≤ at0 (allR r g.2 g.2.length) n ∧ at0 (allR r g.2 g.2.length) n < highN g r := by
 refine fun n hn => at0_mem (P := fun x => 0 ≤ x ∧ x < highN g r) ?_ n hn
 intro x hx
 rw [allR, List.take_length, List.mem_append] at hx
 rcases hx with hx | hx
 ·obtain ⟨k, hk⟩ := List.getElem?_of_mem hx
  have hkl := (List.getElem?_eq_some_iff.1 hk).1
  rw [at0_at hkl] at hk
  cases hk
  exact ⟨(b.rk k).1, b.rk_lt hkl⟩
 ·obtain ⟨a, ha, hx⟩ := List.mem_flatMap.1 hx
  obtain ⟨k, hk⟩ := List.getElem?_of_mem ha
  have he := b.ends hk
  have hg := b.gap k a hk
  have hl := b.len
  have h1 := b.rk a.1.toNat
  have h2 := b.rk_lt (n := a.2.toNat) (by omega)
  rw [show ((a.1.toNat : Nat) : Int) = a.1 by omega] at h1
  rw [show ((a.2.toNat : Nat) : Int) = a.2 by omega] at h2
  simp only [news, List.mem_map, List.mem_range] at hx
  obtain ⟨j, hj, rfl⟩ := hx
  rw [gapN] at hj
  omega
theorem all_len (b : Built g r) : (allR r g.2 g.2.length).length ≤ 512 := by
 have h1 := allR_le b.gap g.2.length (Nat.le_refl _)
 have h2 := b.len
 have h3 := b.big
 omega
theorem all_ge (b : Built g r) : r.length ≤ (allR r g.2 g.2.length).length := by simp [allR]
theorem all_take (b : Built g r) : (allR r g.2 g.2.length).take r.length = r := by simp [allR]
theorem ranks (b : Built g r) : ranksF (madeF g r).2.1 = some (allR r g.2 g.2.length) := by
 have hv := b.vals
 have hl := b.all_len
 rw [made_layers, ranksF, layersN_len, layers_tot hv, if_neg (by have := b.high_le; omega), layers_good hv, if_pos rfl, layers_row hv]
end Built
theorem valid_head {a : Lv} (h : validF a = true) : headOk a = true ∧ a.2.2.2.any shortC = false ∧ foundOk a = true ∧ (buildF (srcG a) (ranksV a)).2 = 0 ∧ sortLv a = (buildF (srcG a) (ranksV a)).1 := by
 simp only [validF, Bool.and_eq_true, Bool.not_eq_true', decide_eq_true_eq, sameLv_iff] at h
 obtain ⟨⟨⟨⟨h1, h2⟩, h3⟩, h4⟩, h5⟩ := h
 exact ⟨h1, h2, h3, h4, h5⟩
theorem valid_built {a : Lv} (h : validF a = true) : Built (srcG a) (ranksV a) ∧ sortLv a = madeF (srcG a) (ranksV a) ∧ ranksF a.2.1 = some (allR (ranksV a) (srcG a).2 (srcG a).2.length) := by
 obtain ⟨h1, h2, h3, h4, h5⟩ := valid_head h
 have b := built h4
 rw [b.eq] at h5
 refine ⟨b, h5, ?_⟩
 rw [← sort_ranks]
 have : a.2.1.map sortL = (madeF (srcG a) (ranksV a)).2.1 := congrArg (fun x : Lv => x.2.1) h5
 rw [this, b.ranks]
theorem valid_source {a : Lv} (h : validF a = true) : sourceF a = (srcG a, ranksV a, true) := by
 obtain ⟨h1, h2, h3, h4, h5⟩ := valid_head h
 obtain ⟨b, hm, hr⟩ := valid_built h
 simp only [headOk, decide_eq_true_eq] at h1
 have hl := b.len
 have hge := b.all_ge
 have e1 : (srcG a).1 = a.1 := rfl
 rw [sourceF, hr]
 dsimp only
 rw [if_pos]
 ·have := b.all_take
  rw [show a.1.toNat = (ranksV a).length by omega, this]
 ·simp only [sourceOk, Bool.and_eq_true, decide_eq_true_eq, h2, Bool.not_false, and_true]
  omega
theorem source_ok {a : Lv} (h : (sourceF a).2.2 = true) : ∃ o, ranksF a.2.1 = some o ∧ sourceOk a o = true ∧ sourceF a = (srcG a, o.take a.1.toNat, true) := by
 rw [sourceF] at h ⊢
 split at h
 ·cases h
 ·rename_i o ho
  split at h
  ·rename_i hs
   refine ⟨o, ho, hs, ?_⟩
   rw [if_pos hs]
  ·cases h
theorem ranks_ok {ls : List (List Int)} {o : List Int} (h : ranksF ls = some o) : ls.length ≤ 256 ∧ tot ls ≤ 512 ∧ good (tot ls) ls = true ∧ o = rowR (tot ls) ls := by
 rw [ranksF] at h
 split at h
 ·cases h
 ·split at h
  ·cases h; exact ⟨by omega, by omega, by assumption, rfl⟩
  ·cases h
theorem good_all {ls : List (List Int)} (h : good (tot ls) ls = true) {v : Int} (h0 : 0 ≤ v) (h1 : v < tot ls) : 0 ≤ layI ls v := by
 rw [good_iff] at h
 exact layI_mem.2 (nodup_all h.2 h.1 (tot_flat ls) v h0 h1)
theorem valid_same (a : Lv) : validF a = rValidF a := by
 rw [Bool.eq_iff_iff]
 constructor
 ·intro h
  have hs := valid_source h
  obtain ⟨h1, h2, h3, h4, h5⟩ := valid_head h
  rw [rValidF, hs]
  simp only [h4, h5, Bool.true_and, sameLv_iff, decide_true, and_self]
 ·intro h
  simp only [rValidF, Bool.and_eq_true, decide_eq_true_eq, sameLv_iff] at h
  obtain ⟨⟨h1, h2⟩, h3⟩ := h
  obtain ⟨o, ho, hso, hsf⟩ := source_ok h1
  obtain ⟨t1, t2, t3, rfl⟩ := ranks_ok ho
  simp only [sourceOk, Bool.and_eq_true, decide_eq_true_eq, Bool.not_eq_true', rowR_len] at hso
  obtain ⟨⟨s1, s2, s3, s4⟩, s5⟩ := hso
  have hrv : (rowR (tot a.2.1) a.2.1).take a.1.toNat = ranksV a := by
   rw [rowR, ← List.map_take, List.take_range, Nat.min_eq_left (by omega), ranksV]
  rw [hsf, hrv] at h2 h3
  dsimp only at h2 h3
  have hfo : foundOk a = true := by
   rw [foundOk, Bool.not_eq_true', List.any_eq_false]
   intro v hv
   have := good_all t3 (v := v) (by omega) (by have := List.mem_range.1 hv; omega)
   simp only [lostV, decide_eq_true_eq]; omega
  simp only [validF, headOk, s5, hfo, h2, h3, sameLv_iff, Bool.and_eq_true, decide_eq_true_eq, Bool.not_false, and_true, decide_true]
  omega
end Go.Proofs.Ytldbcbclhpcofaa
namespace Go.Proofs.Ytldbcbclhpcofaa
open Go Go.PS Go.Proofs
set_option maxRecDepth 100000
attribute [local irreducible] wpRun wpG CallsTo CallsM

theorem lv_le {a : Lv} (h : validF a = true) : a.2.1.length ≤ 256 ∧ tot a.2.1 ≤ 512 := by
 have := valid_source h
 exact rTot (by rw [this])
end Go.Proofs.Ytldbcbclhpcofaa
namespace Go.Proofs.Ytldbcbclhpcofaa
open Go Go.PS Go.Proofs
set_option maxRecDepth 100000
attribute [local irreducible] wpRun wpG CallsTo CallsM

theorem arc_cells (l : List Arc) : ∀ d, d ∈ l.map arcD → d.cells.length = 2 := cells_map arcD 2 (fun _ => rfl) l
theorem cloneA_spec (l : List Arc) (hn : l.length ≤ 1000000) : CallsTo Try.prog 54 [arcsD l] (arcsD l) := by
 rcases Decidable.em (l = []) with rfl | hl
 ·refine callsTo_of Try.func54 rfl (by decide +kernel) (Nat.le_of_ble_eq_true rfl) ?_
  intro hat B X w0
  repeat' first | refine pw_seq ?_ | refine pw_skip ?_ | refine pw_ret ?_ | refine pw_exit ?_ | refine pw_block ?_ | refine pw_region (fun _ => false) hmix ?_ | (refine wpG_split rfl rfl (fun hc => ?_) (fun hc => ?_) <;> try simp only [hcL, reduceCtorEq] at hc) | (refine pw_cond _ rfl rfl (fun hc => ?_) (fun hc => ?_) <;> (try simp only [hcL, reduceCtorEq] at hc) <;> try (exfalso; omega)) | simp (maxSteps := 1000000) (disch := omega) only [go_sem, simprocAttr] | apply And.intro | omega | decide +kernel
  refine pw_anyb 4 rfl ?_
  intro b
  cases b
  ·repeat' first | refine pw_seq ?_ | refine pw_skip ?_ | refine pw_ret ?_ | refine pw_exit ?_ | refine pw_block ?_ | refine pw_region (Nat.beq 5) hmix ?_ | (refine wpG_split rfl rfl (fun hc => ?_) (fun hc => ?_) <;> try simp only [hcL, reduceCtorEq] at hc) | (refine pw_cond _ rfl rfl (fun hc => ?_) (fun hc => ?_) <;> (try simp only [hcL, reduceCtorEq] at hc) <;> try (exfalso; omega)) | simp (maxSteps := 1000000) (disch := omega) only [go_sem, simprocAttr, roomy] | apply And.intro | omega | decide +kernel
   exact sl_some rfl
  ·repeat' first | refine pw_seq ?_ | refine pw_skip ?_ | refine pw_ret ?_ | refine pw_exit ?_ | refine pw_block ?_ | refine pw_region (fun _ => false) hmix ?_ | (refine wpG_split rfl rfl (fun hc => ?_) (fun hc => ?_) <;> try simp only [hcL, reduceCtorEq] at hc) | (refine pw_cond _ rfl rfl (fun hc => ?_) (fun hc => ?_) <;> (try simp only [hcL, reduceCtorEq] at hc) <;> try (exfalso; omega)) | simp (maxSteps := 1000000) (disch := omega) only [go_sem, simprocAttr] | apply And.intro | omega | decide +kernel
   exact sl_some rfl
 ·have he : (l.map arcD).isEmpty = false := by simpa using hl
  have hpos : 0 < l.length := List.length_pos_iff.2 hl
  refine callsTo_of Try.func54 rfl (by decide +kernel) (Nat.le_of_ble_eq_true rfl) ?_
  intro hat B X w0
  repeat' first | refine pw_seq ?_ | refine pw_skip ?_ | refine pw_ret ?_ | refine pw_exit ?_ | refine pw_block ?_ | refine pw_region (Nat.beq 5) hmix ?_ | (refine wpG_split rfl rfl (fun hc => ?_) (fun hc => ?_) <;> try simp only [hcL, reduceCtorEq] at hc) | (refine pw_cond _ rfl rfl (fun hc => ?_) (fun hc => ?_) <;> (try simp only [hcL, reduceCtorEq] at hc) <;> try (exfalso; omega)) | simp (maxSteps := 1000000) (disch := omega) only [go_sem, simprocAttr, he, roomy, take_map_len] | exact arc_cells l | apply And.intro | omega | decide +kernel
  exact ret_ref (o := 7) rfl rfl (by simp) (List.take_of_length_le (by simp))
theorem cloneI_spec (l : List Int) (hn : l.length ≤ 1000000) : CallsTo Try.prog 45 [intsD l] (intsD l) := by
 rcases Decidable.em (l = []) with rfl | hl
 ·refine callsTo_of Try.func45 rfl (by decide +kernel) (Nat.le_of_ble_eq_true rfl) ?_
  intro hat B X w0
  repeat' first | refine pw_seq ?_ | refine pw_skip ?_ | refine pw_ret ?_ | refine pw_exit ?_ | refine pw_block ?_ | refine pw_region (fun _ => false) hmix ?_ | (refine wpG_split rfl rfl (fun hc => ?_) (fun hc => ?_) <;> try simp only [hcL, reduceCtorEq] at hc) | (refine pw_cond _ rfl rfl (fun hc => ?_) (fun hc => ?_) <;> (try simp only [hcL, reduceCtorEq] at hc) <;> try (exfalso; omega)) | simp (maxSteps := 1000000) (disch := omega) only [go_sem, simprocAttr] | apply And.intro | omega | decide +kernel
  refine pw_anyb 4 rfl ?_
  intro b
  cases b
  ·repeat' first | refine pw_seq ?_ | refine pw_skip ?_ | refine pw_ret ?_ | refine pw_exit ?_ | refine pw_block ?_ | refine pw_region (Nat.beq 5) hmix ?_ | (refine wpG_split rfl rfl (fun hc => ?_) (fun hc => ?_) <;> try simp only [hcL, reduceCtorEq] at hc) | (refine pw_cond _ rfl rfl (fun hc => ?_) (fun hc => ?_) <;> (try simp only [hcL, reduceCtorEq] at hc) <;> try (exfalso; omega)) | simp (maxSteps := 1000000) (disch := omega) only [go_sem, simprocAttr, roomy] | apply And.intro | omega | decide +kernel
   exact sl_some rfl
  ·repeat' first | refine pw_seq ?_ | refine pw_skip ?_ | refine pw_ret ?_ | refine pw_exit ?_ | refine pw_block ?_ | refine pw_region (fun _ => false) hmix ?_ | (refine wpG_split rfl rfl (fun hc => ?_) (fun hc => ?_) <;> try simp only [hcL, reduceCtorEq] at hc) | (refine pw_cond _ rfl rfl (fun hc => ?_) (fun hc => ?_) <;> (try simp only [hcL, reduceCtorEq] at hc) <;> try (exfalso; omega)) | simp (maxSteps := 1000000) (disch := omega) only [go_sem, simprocAttr] | apply And.intro | omega | decide +kernel
   exact sl_some rfl
 ·have he : (l.map D.int).isEmpty = false := by simpa using hl
  have hpos : 0 < l.length := List.length_pos_iff.2 hl
  refine callsTo_of Try.func45 rfl (by decide +kernel) (Nat.le_of_ble_eq_true rfl) ?_
  intro hat B X w0
  repeat' first | refine pw_seq ?_ | refine pw_skip ?_ | refine pw_ret ?_ | refine pw_exit ?_ | refine pw_block ?_ | refine pw_region (Nat.beq 5) hmix ?_ | (refine wpG_split rfl rfl (fun hc => ?_) (fun hc => ?_) <;> try simp only [hcL, reduceCtorEq] at hc) | (refine pw_cond _ rfl rfl (fun hc => ?_) (fun hc => ?_) <;> (try simp only [hcL, reduceCtorEq] at hc) <;> try (exfalso; omega)) | simp (maxSteps := 1000000) (disch := omega) only [go_sem, simprocAttr, he, roomy, take_map_len] | exact one_int l | apply And.intro | omega | decide +kernel
  exact ret_ref (o := 7) rfl rfl (by simp) (List.take_of_length_le (by simp))
theorem clone_spec (l : List (List Int)) (hn : l.length ≤ 1000) (hl : ∀ y, y ∈ l → y.length ≤ 1000000) : CallsM Try.prog 71 [.d (listsD l)] [(2000, .dead)] (.ref 2000 1 0 l.length l.length) [(2000, .row 1 (l.map intsD))] := by
 refine callsM_of Try.func71 rfl (by decide +kernel) (Nat.le_of_ble_eq_true rfl) rfl (nodup_of rfl) rfl rfl rfl ?_
 intro B X w0
 repeat' first | refine pw_seq ?_ | refine pw_skip ?_ | refine pw_ret ?_ | refine pw_exit ?_ | refine pw_block ?_ | refine pw_region (fun _ => false) hmix ?_ | (refine wpG_split rfl rfl (fun hc => ?_) (fun hc => ?_) <;> try simp only [hcL, reduceCtorEq] at hc) | (refine pw_cond _ rfl rfl (fun hc => ?_) (fun hc => ?_) <;> (try simp only [hcL, reduceCtorEq] at hc) <;> try (exfalso; omega)) | simp (maxSteps := 1000000) (disch := omega) only [go_sem, simprocAttr] | apply And.intro | omega | decide +kernel
 refine pw_ent _ (ent_nilRow 7 l.length rfl) ?_
 refine pw_loopI (κ := Nat) (fun (k : Nat) => k ≤ l.length) (fun (k : Nat) => [(0, .d (listsD l)), (3, .ref 7 1 0 l.length l.length), (9, .int l.length), (10, .int k)]) (fun (k : Nat) => [(7, .row 1 ((l.take k).map intsD ++ List.replicate (l.length - k) (.sl [])))]) (fun (k : Nat) => l.length - k) 0 ?_ ?_ ?_
 ·exact Nat.zero_le _
 ·exact eL [] _ _ (by refine ⟨?_, ?_⟩ <;> (repeat' first | exact List.forall_mem_nil _ | refine List.forall_mem_cons.2 ⟨(by first | rfl | (simp (disch := omega) only [go_sem, simprocAttr, inL, List.take_zero, List.map_nil, List.nil_append, Nat.sub_zero]; first | done | omega | (congr 1; done))), ?_⟩); done)
 ·intro k hk
  rcases Nat.lt_or_ge k l.length with hlt | hge
  ·obtain ⟨p, hp⟩ := get_some hlt
   have hcp := cloneI_spec p (hl p (List.mem_of_getElem? hp))
   have hst : ((l.take k).map intsD ++ List.replicate (l.length - k) (D.sl [])).set k (intsD p) = (l.take (k + 1)).map intsD ++ List.replicate (l.length - (k + 1)) (D.sl []) := by
    have hlk : ((l.take k).map intsD).length = k := by rw [List.length_map, List.length_take]; omega
    have e : l.length - k = (l.length - (k + 1)) + 1 := by omega
    rw [List.set_append, hlk, if_neg (by omega), Nat.sub_self, e, List.replicate_succ, List.set_cons_zero, take_snoc hp, List.map_append, List.append_assoc]
    rfl
   have hLn : ((l.take k).map intsD ++ List.replicate (l.length - k) (D.sl [])).length = l.length := by
    rw [List.length_append, List.length_map, List.length_take, List.length_replicate]; omega
   have hgk : ((l.take k).map intsD ++ List.replicate (l.length - k) (D.sl []))[k]? = some (D.sl []) := by
    rw [List.getElem?_append_right (by rw [List.length_map, List.length_take]; omega), List.length_map, List.length_take, Nat.min_eq_left (by omega), Nat.sub_self, List.getElem?_replicate, if_pos (by omega)]
   repeat' first | refine pw_seq ?_ | refine pw_skip ?_ | refine pw_ret ?_ | refine pw_exit ?_ | refine pw_block ?_ | refine pw_region (fun _ => false) hmix ?_ | (refine rc (hcp) rfl ?_ ?_; (· first | rfl | (simp (disch := omega) only [go_sem, simprocAttr, hp, hLn, hgk]; done))) | (refine wpG_split rfl rfl (fun hc => ?_) (fun hc => ?_) <;> try simp only [hcL, reduceCtorEq] at hc) | (refine pw_cond _ rfl rfl (fun hc => ?_) (fun hc => ?_) <;> (try simp only [hcL, reduceCtorEq] at hc) <;> try (exfalso; omega)) | simp (maxSteps := 1000000) (disch := omega) only [go_sem, simprocAttr, hp, hLn, hgk] | apply And.intro | omega | decide +kernel
   refine ⟨k + 1, ?_, eL [] _ _ (by refine ⟨?_, ?_⟩ <;> (repeat' first | exact List.forall_mem_nil _ | refine List.forall_mem_cons.2 ⟨(by first | rfl | (simp (disch := omega) only [go_sem, simprocAttr, inL, hst]; first | done | omega | (congr 1; done))), ?_⟩); done), ?_⟩
   ·omega
   ·omega
  ·have : k = l.length := by omega
   subst this
   try dsimp only
   rw [List.take_length, Nat.sub_self, List.replicate_zero, List.append_nil]
   repeat' first | refine pw_seq ?_ | refine pw_skip ?_ | refine pw_exit ?_ | refine pw_block ?_ | refine pw_region (fun _ => false) hmix ?_ | (refine wpG_split rfl rfl (fun hc => ?_) (fun hc => ?_) <;> try simp only [hcL, reduceCtorEq] at hc) | (refine pw_cond _ rfl rfl (fun hc => ?_) (fun hc => ?_) <;> (try simp only [hcL, reduceCtorEq] at hc) <;> try (exfalso; omega)) | simp (maxSteps := 1000000) (disch := omega) only [go_sem, simprocAttr] | apply And.intro | omega | decide +kernel
   refine eR [(2000, 7)] [(2, .ref 2000 1 0 _ _)] [(2000, .row 1 _)] (by refine ⟨?_, ?_⟩ <;> (repeat' first | exact List.forall_mem_nil _ | refine List.forall_mem_cons.2 ⟨(by first | rfl | (simp (disch := omega) only [go_sem, simprocAttr, inL]; first | done | omega | (congr 1; done))), ?_⟩); done) ?_
   refine pw_ret ?_
   exact ⟨rfl, List.forall_mem_cons.2 ⟨rfl, List.forall_mem_nil _⟩⟩
theorem chainsF_get {r : List Int} {l : List Arc} {k : Nat} {a : Arc} (ha : l[k]? = some a) : ∀ e, k < e → e ≤ l.length → (chainsF r l e)[k]? = some (chainOf r (allR r l k).length a)
 | 0, h, _ => by omega
 | e + 1, h, he => by
  have hl := chainsF_len r l e (by omega)
  rw [chainsF, catN]
  rw [chainsF] at hl
  rcases Nat.lt_succ_iff_lt_or_eq.1 h with h1 | rfl
  ·rw [List.getElem?_append_left (by rw [hl]; exact h1)]
   exact chainsF_get ha e h1 (by omega)
  ·rw [List.getElem?_append_right (by rw [hl]; exact Nat.le_refl _), hl, Nat.sub_self, chainAt, ha]
   rfl
theorem lv_sizes {a : Lv} (h : validF a = true) : a.2.2.1.length ≤ 800 ∧ a.2.2.2.length ≤ 256 ∧ ∀ y, y ∈ a.2.2.2 → y.length ≤ 260 := by
 obtain ⟨b, hm, hr⟩ := valid_built h
 have h1 : a.2.2.1 = arcsF (ranksV a) (srcG a).2 (srcG a).2.length := congrArg (fun x : Lv => x.2.2.1) hm
 have h2 : a.2.2.2 = chainsF (ranksV a) (srcG a).2 (srcG a).2.length := congrArg (fun x : Lv => x.2.2.2) hm
 have h3 := arcsF_len b.gap (srcG a).2.length (Nat.le_refl _)
 have h4 := chainsF_len (ranksV a) (srcG a).2 (srcG a).2.length (Nat.le_refl _)
 have h5 := b.all_len
 have h6 := (gOk_in b.gok).2.2.1
 rw [← h1] at h3
 rw [← h2] at h4
 refine ⟨by omega, by omega, fun y hy => ?_⟩
 obtain ⟨k, hk⟩ := List.getElem?_of_mem hy
 have hkl := (List.getElem?_eq_some_iff.1 hk).1
 obtain ⟨x, hx⟩ := get_some (l := (srcG a).2) (k := k) (by omega)
 rw [h2, chainsF_get hx _ (by omega) (Nat.le_refl _), Option.some.injEq] at hk
 rw [← hk, chainOf_len, gapN]
 have g1 := b.rk x.1.toNat
 have g2 := b.rk x.2.toNat
 have g3 := b.ends hx
 rw [show ((x.1.toNat : Nat) : Int) = x.1 by omega] at g1
 rw [show ((x.2.toNat : Nat) : Int) = x.2 by omega] at g2
 omega
def reorderF (a : Lv) (i : Int) (o : List Int) : Lv × Int :=
 if validF a = false then (lv0, 1) else if i < 0 ∨ (a.2.1.length : Int) ≤ i then (lv0, 3)
 else if sortL o ≠ sortL ((a.2.1[i.toNat]?).getD []) then (lv0, 6) else ((a.1, a.2.1.set i.toNat o, a.2.2.1, a.2.2.2), 0)
set_option maxHeartbeats 4000000 in
theorem Reorder_spec (a : Lv) (i : Int) (o : List Int) (hw : wide a) (ho : o.length ≤ 600) : CallsTo Try.prog 49 [lvD a, .int i, intsD o] (.tup [lvD (reorderF a i o).1, .int (reorderF a i o).2]) := by
 have hv := LvValid_spec a hw
 rw [reorderF]
 rcases h : validF a with _ | _ <;> rw [h] at hv
 ·rw [if_pos rfl]
  refine callsTo_of Try.func49 rfl (by decide +kernel) (Nat.le_of_ble_eq_true rfl) ?_
  intro hat B X w0
  repeat' first | refine pw_seq ?_ | refine pw_skip ?_ | refine pw_ret ?_ | refine pw_exit ?_ | refine pw_block ?_ | refine pw_region (fun _ => false) hmix ?_ | (refine rc (hv) rfl ?_ ?_; (· first | rfl | (simp (disch := omega) only [go_sem, simprocAttr, List.append_eq]; done))) | (refine wpG_split rfl rfl (fun hc => ?_) (fun hc => ?_) <;> try simp only [hcL, reduceCtorEq] at hc) | (refine pw_cond _ rfl rfl (fun hc => ?_) (fun hc => ?_) <;> (try simp only [hcL, reduceCtorEq] at hc) <;> try (exfalso; omega)) | simp (maxSteps := 1000000) (disch := omega) only [go_sem, simprocAttr, List.append_eq] | apply And.intro | omega | decide +kernel
  refine ⟨_, rfl, ⟨_, _, _, _, rfl, ?_⟩, int_some ?_, trivial⟩
  ·simp (maxSteps := 1000000) (disch := omega) only [go_sem, simprocAttr, toD]
   rfl
  ·rfl
 ·rw [if_neg (by decide)]
  obtain ⟨t1, t2⟩ := lv_le h
  by_cases hi : i < 0 ∨ (a.2.1.length : Int) ≤ i
  ·rw [if_pos hi]
   obtain ⟨n, ls, ar, cs⟩ := a
   dsimp only at hi t1
   refine callsTo_of Try.func49 rfl (by decide +kernel) (Nat.le_of_ble_eq_true rfl) ?_
   intro hat B X w0
   repeat' first | refine pw_seq ?_ | refine pw_skip ?_ | refine pw_ret ?_ | refine pw_exit ?_ | refine pw_block ?_ | refine pw_region (fun _ => false) hmix ?_ | (refine rc (hv) rfl ?_ ?_; (· first | rfl | (simp (disch := omega) only [go_sem, simprocAttr, List.append_eq]; done))) | (refine wpG_split rfl rfl (fun hc => ?_) (fun hc => ?_) <;> try simp only [hcL, reduceCtorEq] at hc) | (refine pw_cond _ rfl rfl (fun hc => ?_) (fun hc => ?_) <;> (try simp only [hcL, reduceCtorEq] at hc) <;> try (exfalso; omega)) | simp (maxSteps := 1000000) (disch := omega) only [go_sem, simprocAttr, List.append_eq] | apply And.intro | omega | decide +kernel
   all_goals
    refine ⟨_, rfl, ⟨_, _, _, _, rfl, ?_⟩, int_some ?_, trivial⟩
    ·simp (maxSteps := 1000000) (disch := omega) only [go_sem, simprocAttr, toD]
     rfl
    ·rfl
  ·rw [if_neg hi]
   obtain ⟨y, hy⟩ := get_some (l := a.2.1) (k := i.toNat) (by omega)
   have hyl := tot_mem (List.mem_of_getElem? hy)
   rw [hy, Option.getD_some]
   have hv1 := Values_spec o
   have hv2 := Values_spec y
   have hs1 := Sorted_spec o (by omega)
   have hs2 := Sorted_spec y (by omega)
   have he := equalI_spec (sortL o) (sortL y)
   by_cases hso : sortL o = sortL y
   ·rw [if_neg (by simpa using hso)]
    rw [decide_eq_true hso] at he
    have hcl := clone_spec a.2.1 (by omega) (fun y hy => by have := tot_mem hy; omega)
    have hbd : a.2.2.1.length ≤ 1000000 ∧ a.2.2.2.length ≤ 1000 ∧ ∀ y, y ∈ a.2.2.2 → y.length ≤ 1000000 := by
     obtain ⟨s1, s2, s3⟩ := lv_sizes h
     exact ⟨by omega, by omega, fun y hy => by have := s3 y hy; omega⟩
    have hca := cloneA_spec a.2.2.1 hbd.1
    have hcc := clone_spec a.2.2.2 hbd.2.1 hbd.2.2
    have hco := cloneI_spec o (by omega)
    obtain ⟨n, ls, ar, cs⟩ := a
    dsimp only at hi t1 hy hcl hca hcc
    refine callsTo_of Try.func49 rfl (by decide +kernel) (Nat.le_of_ble_eq_true rfl) ?_
    intro hat B X w0
    repeat' first | refine pw_seq ?_ | refine pw_skip ?_ | refine pw_ret ?_ | refine pw_exit ?_ | refine pw_block ?_ | refine pw_region (fun _ => false) hmix ?_ | (refine rc (hv) rfl ?_ ?_; (· first | rfl | (simp (disch := omega) only [go_sem, simprocAttr, List.append_eq, hy]; done))) | (refine rc (hv1) rfl ?_ ?_; (· first | rfl | (simp (disch := omega) only [go_sem, simprocAttr, List.append_eq, hy]; done))) | (refine rc (hv2) rfl ?_ ?_; (· first | rfl | (simp (disch := omega) only [go_sem, simprocAttr, List.append_eq, hy]; done))) | (refine rc (hs1) rfl ?_ ?_; (· first | rfl | (simp (disch := omega) only [go_sem, simprocAttr, List.append_eq, hy]; done))) | (refine rc (hs2) rfl ?_ ?_; (· first | rfl | (simp (disch := omega) only [go_sem, simprocAttr, List.append_eq, hy]; done))) | (refine rc (he) rfl ?_ ?_; (· first | rfl | (simp (disch := omega) only [go_sem, simprocAttr, List.append_eq, hy]; done))) | refine rcM [(2000, 43)] (hcl) rfl ?_ | refine rcM [(2000, 49)] (hcc) rfl ?_ | (refine rc (hca) rfl ?_ ?_; (· first | rfl | (simp (disch := omega) only [go_sem, simprocAttr, List.append_eq, hy]; done))) | (refine rc (hco) rfl ?_ ?_; (· first | rfl | (simp (disch := omega) only [go_sem, simprocAttr, List.append_eq, hy]; done))) | (refine wpG_split rfl rfl (fun hc => ?_) (fun hc => ?_) <;> try simp only [hcL, reduceCtorEq] at hc) | (refine pw_cond _ rfl rfl (fun hc => ?_) (fun hc => ?_) <;> (try simp only [hcL, reduceCtorEq] at hc) <;> try (exfalso; omega)) | simp (maxSteps := 1000000) (disch := omega) only [go_sem, simprocAttr, List.append_eq, hy] | apply And.intro | omega | decide +kernel
    refine ⟨_, rfl, ⟨_, _, _, _, rfl, ?_⟩, int_some rfl, trivial⟩
    simp (maxSteps := 1000000) (disch := omega) only [go_sem, simprocAttr, toD, List.length_map, List.length_set, Nat.le_refl, List.drop_zero]
    rw [List.take_of_length_le (by rw [List.length_set, List.length_map]; exact Nat.le_refl _), List.take_of_length_le (by rw [List.length_map]; exact Nat.le_refl _)]
    simp only [lvD, listsD, List.map_set]
   ·rw [if_pos (by simpa using hso)]
    rw [decide_eq_false hso] at he
    obtain ⟨n, ls, ar, cs⟩ := a
    dsimp only at hi t1 hy
    refine callsTo_of Try.func49 rfl (by decide +kernel) (Nat.le_of_ble_eq_true rfl) ?_
    intro hat B X w0
    repeat' first | refine pw_seq ?_ | refine pw_skip ?_ | refine pw_ret ?_ | refine pw_exit ?_ | refine pw_block ?_ | refine pw_region (fun _ => false) hmix ?_ | (refine rc (hv) rfl ?_ ?_; (· first | rfl | (simp (disch := omega) only [go_sem, simprocAttr, List.append_eq, hy]; done))) | (refine rc (hv1) rfl ?_ ?_; (· first | rfl | (simp (disch := omega) only [go_sem, simprocAttr, List.append_eq, hy]; done))) | (refine rc (hv2) rfl ?_ ?_; (· first | rfl | (simp (disch := omega) only [go_sem, simprocAttr, List.append_eq, hy]; done))) | (refine rc (hs1) rfl ?_ ?_; (· first | rfl | (simp (disch := omega) only [go_sem, simprocAttr, List.append_eq, hy]; done))) | (refine rc (hs2) rfl ?_ ?_; (· first | rfl | (simp (disch := omega) only [go_sem, simprocAttr, List.append_eq, hy]; done))) | (refine rc (he) rfl ?_ ?_; (· first | rfl | (simp (disch := omega) only [go_sem, simprocAttr, List.append_eq, hy]; done))) | (refine wpG_split rfl rfl (fun hc => ?_) (fun hc => ?_) <;> try simp only [hcL, reduceCtorEq] at hc) | (refine pw_cond _ rfl rfl (fun hc => ?_) (fun hc => ?_) <;> (try simp only [hcL, reduceCtorEq] at hc) <;> try (exfalso; omega)) | simp (maxSteps := 1000000) (disch := omega) only [go_sem, simprocAttr, List.append_eq, hy] | apply And.intro | omega | decide +kernel
    refine ⟨_, rfl, ⟨_, _, _, _, rfl, ?_⟩, int_some ?_, trivial⟩
    ·simp (maxSteps := 1000000) (disch := omega) only [go_sem, simprocAttr, toD]
     rfl
    ·rfl
end Go.Proofs.Ytldbcbclhpcofaa
namespace Go.Proofs.Ytldbcbclhpcofaa
open Go Go.PS Go.Proofs
set_option maxRecDepth 100000
attribute [local irreducible] wpRun wpG CallsTo CallsM

set_option maxHeartbeats 4000000 in
theorem rReorder_spec (a : Lv) (i : Int) (o : List Int) (hw : wide a) (ho : o.length ≤ 600) : CallsTo Try.prog 18 [lvD a, .int i, intsD o] (.tup [lvD (reorderF a i o).1, .int (reorderF a i o).2]) := by
 have hv := rLvValid_spec a hw
 rw [← valid_same] at hv
 rw [reorderF]
 rcases h : validF a with _ | _ <;> rw [h] at hv
 ·rw [if_pos rfl]
  refine callsTo_of Try.func18 rfl (by decide +kernel) (Nat.le_of_ble_eq_true rfl) ?_
  intro hat B X w0
  repeat' first | refine pw_seq ?_ | refine pw_skip ?_ | refine pw_ret ?_ | refine pw_exit ?_ | refine pw_block ?_ | refine pw_region (fun _ => false) hmix ?_ | (refine rc (hv) rfl ?_ ?_; (· first | rfl | (simp (disch := omega) only [go_sem, simprocAttr, List.append_eq]; done))) | (refine wpG_split rfl rfl (fun hc => ?_) (fun hc => ?_) <;> try simp only [hcL, reduceCtorEq] at hc) | (refine pw_cond _ rfl rfl (fun hc => ?_) (fun hc => ?_) <;> (try simp only [hcL, reduceCtorEq] at hc) <;> try (exfalso; omega)) | simp (maxSteps := 1000000) (disch := omega) only [go_sem, simprocAttr, List.append_eq] | apply And.intro | omega | decide +kernel
  refine ⟨_, rfl, ⟨_, _, _, _, rfl, ?_⟩, int_some ?_, trivial⟩
  ·simp (maxSteps := 1000000) (disch := omega) only [go_sem, simprocAttr, toD]
   rfl
  ·rfl
 ·rw [if_neg (by decide)]
  obtain ⟨t1, t2⟩ := lv_le h
  by_cases hi : i < 0 ∨ (a.2.1.length : Int) ≤ i
  ·rw [if_pos hi]
   obtain ⟨n, ls, ar, cs⟩ := a
   dsimp only at hi t1
   refine callsTo_of Try.func18 rfl (by decide +kernel) (Nat.le_of_ble_eq_true rfl) ?_
   intro hat B X w0
   repeat' first | refine pw_seq ?_ | refine pw_skip ?_ | refine pw_ret ?_ | refine pw_exit ?_ | refine pw_block ?_ | refine pw_region (fun _ => false) hmix ?_ | (refine rc (hv) rfl ?_ ?_; (· first | rfl | (simp (disch := omega) only [go_sem, simprocAttr, List.append_eq]; done))) | (refine wpG_split rfl rfl (fun hc => ?_) (fun hc => ?_) <;> try simp only [hcL, reduceCtorEq] at hc) | (refine pw_cond _ rfl rfl (fun hc => ?_) (fun hc => ?_) <;> (try simp only [hcL, reduceCtorEq] at hc) <;> try (exfalso; omega)) | simp (maxSteps := 1000000) (disch := omega) only [go_sem, simprocAttr, List.append_eq] | apply And.intro | omega | decide +kernel
   all_goals
    refine ⟨_, rfl, ⟨_, _, _, _, rfl, ?_⟩, int_some ?_, trivial⟩
    ·simp (maxSteps := 1000000) (disch := omega) only [go_sem, simprocAttr, toD]
     rfl
    ·rfl
  ·rw [if_neg hi]
   obtain ⟨y, hy⟩ := get_some (l := a.2.1) (k := i.toNat) (by omega)
   have hyl := tot_mem (List.mem_of_getElem? hy)
   rw [hy, Option.getD_some]
   have hs1 := rSort_spec o (by omega)
   have hs2 := rSort_spec y (by omega)
   have he := sameI_spec (sortL o) (sortL y)
   obtain ⟨n, ls, ar, cs⟩ := a
   dsimp only at hi t1 hy hyl t2
   by_cases hso : sortL o = sortL y
   ·rw [if_neg (by simpa using hso)]
    rw [decide_eq_true hso] at he
    have hlen : o.length = y.length := by rw [← sortL_len o, hso, sortL_len]
    obtain ⟨p, rfl⟩ : ∃ p : Nat, i = p := ⟨i.toNat, by omega⟩
    rw [Int.toNat_natCast] at hy ⊢
    refine callsTo_of Try.func18 rfl (by decide +kernel) (Nat.le_of_ble_eq_true rfl) ?_
    intro hat B X w0
    repeat' first | refine pw_seq ?_ | refine pw_skip ?_ | refine pw_ret ?_ | refine pw_exit ?_ | refine pw_block ?_ | refine pw_region (fun _ => false) hmix ?_ | (refine rc (hv) rfl ?_ ?_; (· first | rfl | (simp (disch := omega) only [go_sem, simprocAttr, List.append_eq, hy, hlen]; done))) | (refine rc (hs1) rfl ?_ ?_; (· first | rfl | (simp (disch := omega) only [go_sem, simprocAttr, List.append_eq, hy, hlen]; done))) | (refine rc (hs2) rfl ?_ ?_; (· first | rfl | (simp (disch := omega) only [go_sem, simprocAttr, List.append_eq, hy, hlen]; done))) | (refine rc (he) rfl ?_ ?_; (· first | rfl | (simp (disch := omega) only [go_sem, simprocAttr, List.append_eq, hy, hlen]; done))) | (refine wpG_split rfl rfl (fun hc => ?_) (fun hc => ?_) <;> try simp only [hcL, reduceCtorEq] at hc) | (refine pw_cond _ rfl rfl (fun hc => ?_) (fun hc => ?_) <;> (try simp only [hcL, reduceCtorEq] at hc) <;> try (exfalso; omega)) | simp (maxSteps := 1000000) (disch := omega) only [go_sem, simprocAttr, List.append_eq, hy, hlen] | apply And.intro | omega | decide +kernel
    refine pw_ent _ (ent_nilC 8 1 901 1 rfl rfl rfl) ?_
    refine pw_loopI (κ := Nat) (fun (k : Nat) => k ≤ ls.length) (fun (k : Nat) => [(1, .int p), (2, .d (intsD o)), (3, .ptr 3 0 0 0), (6, .ptr 6 0 0 0), (8, .ptr 8 0 0 0), (9, .int k)]) (fun (k : Nat) => [(3, .cells [.int n, .d (listsD ls), .d (arcsD ar), .d (listsD cs)]), (6, .cells [.int 0, .nilS, .nilS, .nilS]), (8, .cells [.int n, .ref 901 1 0 k k, .d (arcsD ar), .d (listsD cs)]), (901, .row 1 (((ls.set p o).take k).map intsD))]) (fun (k : Nat) => ls.length - k) 0 ?_ ?_ ?_
    ·exact Nat.zero_le _
    ·exact eL [] _ _ (by refine ⟨?_, ?_⟩ <;> (repeat' first | exact List.forall_mem_nil _ | refine List.forall_mem_cons.2 ⟨(by first | rfl | (simp (disch := omega) only [go_sem, simprocAttr, inL, List.take_zero, List.map_nil]; first | done | omega | (congr 1; done))), ?_⟩); done)
    ·intro k hk
     have hlk : (((ls.set p o).take k).map intsD).length = k := by rw [List.length_map, List.length_take, List.length_set]; omega
     have htk : List.take k (((ls.set p o).take k).map intsD) = ((ls.set p o).take k).map intsD := List.take_of_length_le (by rw [hlk]; exact Nat.le_refl _)
     rcases Nat.lt_or_ge k ls.length with hlt | hge
     ·obtain ⟨q, hq⟩ := get_some hlt
      by_cases hkp : k = p
      ·subst hkp
       have hts := take_snoc (l := ls.set k o) (k := k) (x := o) (by rw [List.getElem?_set, if_pos rfl, if_pos hlt])
       repeat' first | refine pw_seq ?_ | refine pw_skip ?_ | refine pw_ret ?_ | refine pw_exit ?_ | refine pw_block ?_ | refine pw_region (fun _ => false) hmix ?_ | (refine wpG_split rfl rfl (fun hc => ?_) (fun hc => ?_) <;> try simp only [hcL, reduceCtorEq] at hc) | (refine pw_cond _ rfl rfl (fun hc => ?_) (fun hc => ?_) <;> (try simp only [hcL, reduceCtorEq] at hc) <;> try (exfalso; omega)) | simp (maxSteps := 1000000) (disch := omega) only [go_sem, simprocAttr, hq, hlk, roomy] | apply And.intro | omega | decide +kernel
       refine ⟨k + 1, ?_, eL [(901, 67)] _ _ (by refine ⟨?_, ?_⟩ <;> (repeat' first | exact List.forall_mem_nil _ | refine List.forall_mem_cons.2 ⟨(by first | rfl | (simp (disch := omega) only [go_sem, simprocAttr, inL, hts, List.map_append, htk]; first | done | omega | (congr 1; done))), ?_⟩); done), ?_⟩
       ·omega
       ·omega
      ·have hts := take_snoc (l := ls.set p o) (k := k) (x := q) (by rw [List.getElem?_set, if_neg (by omega), hq])
       have hkp2 : ¬ (k : Int) = p := by omega
       repeat' first | refine pw_seq ?_ | refine pw_skip ?_ | refine pw_ret ?_ | refine pw_exit ?_ | refine pw_block ?_ | refine pw_region (fun _ => false) hmix ?_ | (refine wpG_split rfl rfl (fun hc => ?_) (fun hc => ?_) <;> try simp only [hcL, reduceCtorEq] at hc) | (refine pw_cond _ rfl rfl (fun hc => ?_) (fun hc => ?_) <;> (try simp only [hcL, reduceCtorEq] at hc) <;> try (exfalso; omega)) | simp (maxSteps := 1000000) (disch := omega) only [go_sem, simprocAttr, hq, hlk, roomy, hkp2] | apply And.intro | omega | decide +kernel
       refine ⟨k + 1, ?_, eL [(901, 77)] _ _ (by refine ⟨?_, ?_⟩ <;> (repeat' first | exact List.forall_mem_nil _ | refine List.forall_mem_cons.2 ⟨(by first | rfl | (simp (disch := omega) only [go_sem, simprocAttr, inL, hts, List.map_append, htk]; first | done | omega | (congr 1; done))), ?_⟩); done), ?_⟩
       ·omega
       ·omega
     ·have : k = ls.length := by omega
      subst this
      repeat' first | refine pw_seq ?_ | refine pw_skip ?_ | refine pw_ret ?_ | refine pw_exit ?_ | refine pw_block ?_ | refine pw_region (fun _ => false) hmix ?_ | (refine wpG_split rfl rfl (fun hc => ?_) (fun hc => ?_) <;> try simp only [hcL, reduceCtorEq] at hc) | (refine pw_cond _ rfl rfl (fun hc => ?_) (fun hc => ?_) <;> (try simp only [hcL, reduceCtorEq] at hc) <;> try (exfalso; omega)) | simp (maxSteps := 1000000) (disch := omega) only [go_sem, simprocAttr] | apply And.intro | omega | decide +kernel
      refine ⟨_, rfl, ⟨_, _, _, _, rfl, ?_⟩, int_some rfl, trivial⟩
      have htl : (ls.set p o).take ls.length = ls.set p o := List.take_of_length_le (by rw [List.length_set]; exact Nat.le_refl _)
      simp (maxSteps := 1000000) (disch := omega) only [go_sem, simprocAttr, toD, htl, List.length_map, List.length_set, Nat.le_refl, List.drop_zero]
      rw [List.take_of_length_le (by rw [List.length_map, List.length_set]; exact Nat.le_refl _)]
   ·rw [if_pos (by simpa using hso)]
    rw [decide_eq_false hso] at he
    by_cases hlen : o.length = y.length
    all_goals
     refine callsTo_of Try.func18 rfl (by decide +kernel) (Nat.le_of_ble_eq_true rfl) ?_
     intro hat B X w0
     have hol := at_len 2 hat rfl
     rw [List.length_map] at hol
     repeat' first | refine pw_seq ?_ | refine pw_skip ?_ | refine pw_ret ?_ | refine pw_exit ?_ | refine pw_block ?_ | refine pw_region (fun _ => false) hmix ?_ | (refine rc (hv) rfl ?_ ?_; (· first | rfl | (simp (disch := omega) only [go_sem, simprocAttr, List.append_eq, hy, hlen]; done))) | (refine rc (hs1) rfl ?_ ?_; (· first | rfl | (simp (disch := omega) only [go_sem, simprocAttr, List.append_eq, hy, hlen]; done))) | (refine rc (hs2) rfl ?_ ?_; (· first | rfl | (simp (disch := omega) only [go_sem, simprocAttr, List.append_eq, hy, hlen]; done))) | (refine rc (he) rfl ?_ ?_; (· first | rfl | (simp (disch := omega) only [go_sem, simprocAttr, List.append_eq, hy, hlen]; done))) | (refine wpG_split rfl rfl (fun hc => ?_) (fun hc => ?_) <;> try simp only [hcL, reduceCtorEq] at hc) | (refine pw_cond _ rfl rfl (fun hc => ?_) (fun hc => ?_) <;> (try simp only [hcL, reduceCtorEq] at hc) <;> try (exfalso; omega)) | simp (maxSteps := 1000000) (disch := omega) only [go_sem, simprocAttr, List.append_eq, hy, hlen] | apply And.intro | omega | decide +kernel
     all_goals
      refine ⟨_, rfl, ⟨_, _, _, _, rfl, ?_⟩, int_some ?_, trivial⟩
      ·simp (maxSteps := 1000000) (disch := omega) only [go_sem, simprocAttr, toD]
       rfl
      ·rfl
theorem valid_sort {a b : Lv} (h : sortLv a = sortLv b) : validF a = validF b := by
 obtain ⟨n, ls, ar, cs⟩ := a
 obtain ⟨n', ls', ar', cs'⟩ := b
 simp only [sortLv, Prod.mk.injEq] at h
 obtain ⟨rfl, h, rfl, rfl⟩ := h
 have hlay : ∀ v, layI ls v = layI ls' v := fun v => by rw [← sort_lay, h, sort_lay]
 have hlen : ls.length = ls'.length := by rw [← List.length_map (f := sortL), h, List.length_map]
 simp only [validF, headOk, foundOk, srcG, ranksV, lostV, sortLv, hlay, hlen, h]
 have e : ∀ w : Nat → Bool, w = w := fun _ => rfl
 congr 3
 ·congr 1
  congr 1
  funext v
  simp only [lostV, hlay]
theorem reorder_sort {a : Lv} {i : Nat} {o y : List Int} (hy : a.2.1[i]? = some y) (h : sortL o = sortL y) : sortLv (a.1, a.2.1.set i o, a.2.2.1, a.2.2.2) = sortLv a := by
 simp only [sortLv, List.map_set, h]
 congr 2
 refine List.ext_getElem? fun u => ?_
 rw [List.getElem?_set]
 split
 ·subst i
  rw [List.getElem?_map, hy]
  split
  ·rfl
  ·rename_i hn
   rw [List.length_map] at hn
   exact absurd (List.getElem?_eq_some_iff.1 hy).1 hn
 ·rfl
theorem reorder_valid {a : Lv} {i : Int} {o : List Int} (h : (reorderF a i o).2 = 0) : validF (reorderF a i o).1 = true := by
 rw [reorderF] at h ⊢
 split at h
 ·cases h
 ·rename_i h1
  split at h
  ·cases h
  ·rename_i h2
   split at h
   ·cases h
   ·rename_i h3
    rw [if_neg h1, if_neg h2, if_neg h3]
    obtain ⟨y, hy⟩ := get_some (l := a.2.1) (k := i.toNat) (by omega)
    rw [hy, Option.getD_some] at h3
    rw [valid_sort (reorder_sort hy (Decidable.not_not.1 h3))]
    simpa using h1
theorem reorder_wide {a : Lv} {i : Int} {o : List Int} (hw : wide a) (ho : o.length ≤ 600) : wide (reorderF a i o).1 := by
 rw [reorderF]
 split
 ·intro y hy; cases hy
 ·split
  ·intro y hy; cases hy
  ·split
   ·intro y hy; cases hy
   ·intro y hy
    rcases List.mem_or_eq_of_mem_set hy with hy | rfl
    ·exact hw y hy
    ·omega
end Go.Proofs.Ytldbcbclhpcofaa
namespace Go.Proofs.Ytldbcbclhpcofaa
open Go Go.PS Go.Proofs
set_option maxRecDepth 100000
attribute [local irreducible] wpRun wpG CallsTo CallsM

theorem at0_left {l m : List Int} {n : Nat} (h : n < l.length) : at0 (l ++ m) n = at0 l n := by
 rw [at0, at0, Int.toNat_natCast, List.getElem?_append_left h]
theorem allR_pre (r : List Int) (l : List Arc) {e m : Nat} (h : e ≤ m) : ∃ x, allR r l m = allR r l e ++ x := by
 refine ⟨((l.drop e).take (m - e)).flatMap fun a => news r a (gapN r a), ?_⟩
 rw [allR, allR, List.append_assoc, ← List.flatMap_append]
 congr 2
 obtain ⟨k, rfl⟩ : ∃ k, m = e + k := ⟨m - e, by omega⟩
 rw [List.take_add, Nat.add_sub_cancel_left]
theorem arcsF_succ {r : List Int} {l : List Arc} {e : Nat} {a : Arc} (ha : l[e]? = some a) : arcsF r l (e + 1) = arcsF r l e ++ pairsN (chainOf r (allR r l e).length a) (gapN r a + 1) := by
 rw [arcsF, catN, arcsAt, ha]; rfl
theorem chainOf_first (r : List Int) (n0 : Nat) (a : Arc) : at0 (chainOf r n0 a) ((0 : Nat) : Int) = a.1 := rfl
theorem chainOf_mid {r : List Int} {n0 : Nat} {a : Arc} {j : Nat} (h : j < gapN r a) : at0 (chainOf r n0 a) ((j + 1 : Nat) : Int) = ((n0 + j : Nat) : Int) := by
 rw [chainOf, at0_left (by rw [chainUp_len]; omega), at0, Int.toNat_natCast, chainUp, List.getElem?_cons_succ]
 simp [h]
theorem chainOf_last (r : List Int) (n0 : Nat) (a : Arc) : at0 (chainOf r n0 a) ((gapN r a + 1 : Nat) : Int) = a.2 := by
 rw [at0, Int.toNat_natCast, chainOf, List.getElem?_append_right (by rw [chainUp_len]; exact Nat.le_refl _), chainUp_len, Nat.sub_self]; rfl
namespace Built
variable {g : Gr} {r : List Int}
theorem chain_at (b : Built g r) {e j : Nat} {a : Arc} (ha : g.2[e]? = some a) (hj : j ≤ gapN r a + 1) :
  0 ≤ at0 (chainOf r (allR r g.2 e).length a) j ∧ at0 (chainOf r (allR r g.2 e).length a) j < (allR r g.2 g.2.length).length ∧ at0 (allR r g.2 g.2.length) (at0 (chainOf r (allR r g.2 e).length a) j) = at0 r a.1 + j := by
 have hel := (List.getElem?_eq_some_iff.1 ha).1
 have he := b.ends ha
 have hg := b.gap e a ha
 have hl := b.len
 have hge := b.all_ge
 obtain ⟨x, hx⟩ := allR_pre r g.2 (show 0 ≤ g.2.length by omega)
 have h0 : allR r g.2 0 = r := by simp [allR]
 rw [h0] at hx
 have hpre : ∀ v : Int, 0 ≤ v → v < g.1 → at0 (allR r g.2 g.2.length) v = at0 r v := fun v h1 h2 => by
  obtain ⟨n, rfl⟩ : ∃ n : Nat, v = n := ⟨v.toNat, by omega⟩
  rw [hx, at0_left (by omega)]
 rcases Nat.eq_zero_or_pos j with rfl | h1
 ·rw [chainOf_first, hpre _ he.1 he.2.1]
  omega
 ·obtain ⟨j, rfl⟩ : ∃ i, j = i + 1 := ⟨j - 1, by omega⟩
  rcases Nat.lt_or_ge j (gapN r a) with h2 | h2
  ·rw [chainOf_mid h2]
   obtain ⟨y, hy⟩ := allR_pre r g.2 (show e + 1 ≤ g.2.length by omega)
   rw [allR_succ ha] at hy
   have hlen := congrArg List.length hy
   simp only [List.length_append, news_len] at hlen
   refine ⟨by omega, by omega, ?_⟩
   rw [hy, at0_left (by rw [List.length_append, news_len]; omega), at0, Int.toNat_natCast, List.getElem?_append_right (by omega), Nat.add_sub_cancel_left]
   simp only [news, List.getElem?_map, List.getElem?_range h2, Option.map_some, Option.getD_some]
   omega
  ·have hj2 : j = gapN r a := by omega
   subst hj2
   rw [chainOf_last, hpre _ he.2.2.1 he.2.2.2]
   have hgn : (gapN r a : Int) = at0 r a.2 - at0 r a.1 - 1 := by rw [gapN]; omega
   omega
end Built
end Go.Proofs.Ytldbcbclhpcofaa
