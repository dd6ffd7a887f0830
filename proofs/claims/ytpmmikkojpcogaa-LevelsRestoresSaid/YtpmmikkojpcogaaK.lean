/- levels.Valid: the walk. -/
import Derived.Test.YtpmmikkojpcogaaJ
namespace Go.Proofs.Ytpmmikkojpcogaa
open Go Go.PS Go.Proofs
set_option maxRecDepth 100000
set_option linter.unusedSimpArgs false
set_option linter.unusedVariables false
attribute [local irreducible] wpRun wpG CallsTo CallsM

/-- A row that is filled from the front. -/
def fillRow (g : Nat → Int) (n k : Nat) : List Int := (List.range n).map fun u => if u < k then g u else 0
theorem fillRow_len (g : Nat → Int) (n k : Nat) : (fillRow g n k).length = n := by simp [fillRow]
theorem fillRow_get {g : Nat → Int} {n k u : Nat} (h : u < n) : (fillRow g n k)[u]? = some (if u < k then g u else 0) := by simp [fillRow, h]
theorem fillRow_zero (g : Nat → Int) (n : Nat) : (fillRow g n 0).map D.int = List.replicate n (D.int 0) := by
  rw [List.eq_replicate_iff]
  refine ⟨by simp [fillRow], fun b hb => ?_⟩
  simp only [fillRow, List.map_map, List.mem_map] at hb
  obtain ⟨u, _, rfl⟩ := hb
  simp
theorem fillRow_step {g : Nat → Int} {n k : Nat} (h : k < n) : (fillRow g n k).set k (g k) = fillRow g n (k + 1) := by
  refine List.ext_getElem? fun u => ?_
  by_cases hu : u < n
  · rw [fillRow_get hu, List.getElem?_set, fillRow_get hu, fillRow_len]
    by_cases c : k = u
    · subst c; rw [if_pos rfl, if_pos h, if_pos (by omega)]
    · rw [if_neg c]
      by_cases c2 : u < k
      · rw [if_pos c2, if_pos (by omega)]
      · rw [if_neg c2, if_neg (by omega)]
  · rw [List.getElem?_eq_none (by rw [List.length_set, fillRow_len]; omega), List.getElem?_eq_none (by rw [fillRow_len]; omega)]
theorem fillRow_end (g : Nat → Int) (n : Nat) : fillRow g n n = (List.range n).map g := by
  rw [fillRow]
  refine List.map_congr_left fun u hu => ?_
  rw [if_pos (List.mem_range.1 hu)]

/-- A list in a list that is a part of an argument. -/
theorem at_elem {ds cs : List D} {l : List D} {m : List D} {k : Nat} (i j : Nat) (h : ∃ w X vs, AtAll w X ds vs) (hi : ds[i]? = some (.ag cs)) (hj : cs[j]? = some (.sl l)) (hk : l[k]? = some (.sl m)) : m.length ≤ 9223372036854775807 := by
  obtain ⟨w, X, vs, h1, h2⟩ := h
  have hlt : i < vs.size := by have := (List.getElem?_eq_some_iff.1 hi).1; omega
  have := h2 i _ _ hi (Array.getElem?_eq_getElem hlt)
  generalize vs[i] = v at this
  cases this with
  | ag _ arr hsz hone hat =>
    have hlt : j < arr.size := by have := (List.getElem?_eq_some_iff.1 hj).1; omega
    have := hat j _ _ hj (Array.getElem?_eq_getElem hlt)
    generalize arr[j] = v at this
    cases this with
    | slnil => cases hk
    | sl _ b off cap sz hl hc hsz vals hv he =>
      have := he k _ 0 _ hk rfl
      generalize vals k 0 = v at this
      cases this with
      | slnil => simp
      | sl _ b off cap sz hl hc => simp only [maxLen] at hc; omega
/-- The ends of a chain; the digraph and the ranks of levels. -/
def endsA (c : List Int) : Arc := (at0 c 0, at0 c ((c.length : Int) - 1))
def srcG (a : Lv) : Gr := (a.1, a.2.2.2.map endsA)
def ranksV (a : Lv) : List Int := (List.range a.1.toNat).map fun v : Nat => layI a.2.1 v
def headOk (a : Lv) : Bool := decide (0 ≤ a.1 ∧ a.1 ≤ 64 ∧ a.2.2.2.length ≤ 256 ∧ a.2.1.length ≤ 256)
def shortC (c : List Int) : Bool := decide (c.length < 2)
def lostV (a : Lv) (v : Nat) : Bool := decide (layI a.2.1 v < 0)
def foundOk (a : Lv) : Bool := !(List.range a.1.toNat).any (lostV a)
def validF (a : Lv) : Bool := headOk a && !a.2.2.2.any shortC && foundOk a && decide ((buildF (srcG a) (ranksV a)).2 = 0) && sameLv (sortLv a) (buildF (srcG a) (ranksV a)).1
/-- Layers that fit into memory. -/
def wide (a : Lv) : Prop := ∀ y, y ∈ a.2.1 → y.length * 8 ≤ 140737488351232
set_option maxHeartbeats 4000000 in
theorem LvValid_spec (a : Lv) (hw : wide a) : CallsTo Try.prog 19 [lvD a] (.bool (validF a)) := by
  have hfd := find_spec a
  have hbd := Build_spec (srcG a) (ranksV a)
  have hsd := sorted_spec a
  have hsm := Same_spec (sortLv a) (buildF (srcG a) (ranksV a)).1
  obtain ⟨m, ls, ar, cs⟩ := a
  refine callsTo_of Try.func19 rfl (by decide +kernel) (Nat.le_of_ble_eq_true rfl) ?_
  intro hat B X w0
  have h1 := at_len2 0 1 hat rfl rfl
  have h2 := at_len2 0 2 hat rfl rfl
  have h3 := at_len2 0 3 hat rfl rfl
  rw [List.length_map] at h1 h2 h3
  dsimp only at h1 h2 h3
  repeat' first
    | refine pw_seq ?_
    | refine pw_skip ?_
    | refine pw_ret ?_
    | refine pw_exit ?_
    | refine pw_block ?_
    | refine pw_region (fun _ => false) hmix ?_
    | (refine wpG_split rfl rfl (fun hc => ?_) (fun hc => ?_) <;> try simp only [decide_eq_true_eq, decide_eq_false_iff_not, Bool.not_eq_true', Bool.not_eq_false', Bool.false_eq_true, Bool.true_eq_false, reduceCtorEq, Bool.and_eq_true, Bool.or_eq_true, not_and, not_or] at hc)
    | (refine pw_cond _ rfl rfl (fun hc => ?_) (fun hc => ?_) <;> (try simp only [decide_eq_true_eq, decide_eq_false_iff_not, Bool.not_eq_true', Bool.not_eq_false', Bool.false_eq_true, Bool.true_eq_false, reduceCtorEq, Bool.and_eq_true, Bool.or_eq_true, not_and, not_or] at hc) <;> try (exfalso; omega))
    | simp (maxSteps := 1000000) (disch := omega) only [go_sem, Nat.reduceEqDiff, ↓reduceIte, Nat.reduceLT, Nat.reduceAdd, Nat.reduceSub, Nat.reduceLeDiff, Nat.reduceMul, Int.reduceToNat, reduceCtorEq, List.append_eq]
    | apply And.intro
    | omega
    | decide +kernel
  all_goals try (refine bool_some ?_; simp [validF, headOk]; omega)
  obtain ⟨n, rfl⟩ : ∃ n : Nat, m = n := ⟨m.toNat, by omega⟩
  have hhd : headOk ((n : Int), ls, ar, cs) = true := by simp [headOk]; omega
  have hn64 : n ≤ 64 := by omega
  have hc256 : cs.length ≤ 256 := by omega
  have hl256 : ls.length ≤ 256 := by omega
  refine pw_ent _ (ent_nilC 3 1 901 2 rfl rfl rfl) ?_
  refine pw_loopI (κ := Nat) (fun (k : Nat) => k ≤ cs.length ∧ ∀ (j : Nat) y, j < k → cs[j]? = some y → shortC y = false) (fun (k : Nat) => [(1, .ptr 1 0 0 0), (3, .ptr 3 0 0 0), (34, .d (listsD cs)), (35, .int cs.length), (36, .int k)]) (fun (k : Nat) => [(1, .cells [.int n, .d (listsD ls), .d (arcsD ar), .d (listsD cs)]), (3, .cells [.int n, .ref 901 2 0 k k]), (901, .row 2 (((cs.take k).map endsA).map arcD))]) (fun (k : Nat) => cs.length - k) 0 ?_ ?_ ?_
  · exact ⟨Nat.zero_le _, fun j y h => by omega⟩
  · exact entL_ren [] _ _ (by (repeat' first | exact List.forall_mem_nil _ | refine List.forall_mem_cons.2 ⟨(by first | rfl | (simp (disch := omega) only [go_sem, Nat.reduceEqDiff, ↓reduceIte, Nat.reduceLT, Nat.reduceAdd, Nat.reduceSub, Nat.reduceLeDiff, Nat.reduceMul, Int.reduceToNat, reduceCtorEq, List.take_zero, List.map_nil, PV.d.injEq, PV.ref.injEq, D.sc.injEq, Value.int.injEq, Value.bool.injEq, Ob.row.injEq, true_and, and_true]; first | done | omega | (congr 1; done))), ?_⟩); done) (by (repeat' first | exact List.forall_mem_nil _ | refine List.forall_mem_cons.2 ⟨(by first | rfl | (simp (disch := omega) only [go_sem, Nat.reduceEqDiff, ↓reduceIte, Nat.reduceLT, Nat.reduceAdd, Nat.reduceSub, Nat.reduceLeDiff, Nat.reduceMul, Int.reduceToNat, reduceCtorEq, List.take_zero, List.map_nil, PV.d.injEq, PV.ref.injEq, D.sc.injEq, Value.int.injEq, Value.bool.injEq, Ob.row.injEq, true_and, and_true]; first | done | omega | (congr 1; done))), ?_⟩); done) rfl rfl (nodup_of rfl) rfl (by (repeat' first | exact pd_of _ rfl | exact pd_dead | refine pd_upd rfl ?_ | refine pd_frz ?_); done)
  · rintro k ⟨hk, hinv⟩
    rcases Nat.lt_or_ge k cs.length with hlt | hge
    · obtain ⟨c, hc0⟩ := get_some hlt
      by_cases hsc : c.length < 2
      · repeat' first
          | refine pw_seq ?_
          | refine pw_skip ?_
          | refine pw_ret ?_
          | refine pw_exit ?_
          | refine pw_block ?_
          | refine pw_region (fun _ => false) hmix ?_
          | (refine wpG_split rfl rfl (fun hc => ?_) (fun hc => ?_) <;> try simp only [decide_eq_true_eq, decide_eq_false_iff_not, Bool.not_eq_true', Bool.not_eq_false', Bool.false_eq_true, Bool.true_eq_false, reduceCtorEq, Bool.and_eq_true, Bool.or_eq_true, not_and, not_or] at hc)
          | (refine pw_cond _ rfl rfl (fun hc => ?_) (fun hc => ?_) <;> (try simp only [decide_eq_true_eq, decide_eq_false_iff_not, Bool.not_eq_true', Bool.not_eq_false', Bool.false_eq_true, Bool.true_eq_false, reduceCtorEq, Bool.and_eq_true, Bool.or_eq_true, not_and, not_or] at hc) <;> try (exfalso; omega))
          | simp (maxSteps := 1000000) (disch := omega) only [go_sem, Nat.reduceEqDiff, ↓reduceIte, Nat.reduceLT, Nat.reduceAdd, Nat.reduceSub, Nat.reduceLeDiff, Nat.reduceMul, Int.reduceToNat, reduceCtorEq, hc0]
          | apply And.intro
          | omega
          | decide +kernel
        refine bool_some ?_
        have : cs.any shortC = true := any_at hc0 (by simpa [shortC] using hsc)
        simp [validF, this]
      · have hcl : c.length ≤ 9223372036854775807 := by have := at_elem (m := c.map D.int) (k := k) 0 3 hat rfl rfl (by rw [List.getElem?_map, hc0]; rfl); rwa [List.length_map] at this
        have e1 := at0_at (r := c) (i := 0) (by omega)
        have e2 := at0_get (r := c) (v := (c.length : Int) - 1) (by omega) (by omega)
        have hts := take_snoc hc0
        have hlk : (((cs.take k).map endsA).map arcD).length = k := by rw [List.length_map, List.length_map, List.length_take]; omega
        have htk : List.take k (((cs.take k).map endsA).map arcD) = ((cs.take k).map endsA).map arcD := List.take_of_length_le (by rw [hlk]; exact Nat.le_refl _)
        repeat' first
          | refine pw_seq ?_
          | refine pw_skip ?_
          | refine pw_ret ?_
          | refine pw_exit ?_
          | refine pw_block ?_
          | refine pw_region (fun _ => false) hmix ?_
          | (refine wpG_split rfl rfl (fun hc => ?_) (fun hc => ?_) <;> try simp only [decide_eq_true_eq, decide_eq_false_iff_not, Bool.not_eq_true', Bool.not_eq_false', Bool.false_eq_true, Bool.true_eq_false, reduceCtorEq, Bool.and_eq_true, Bool.or_eq_true, not_and, not_or] at hc)
          | (refine pw_cond _ rfl rfl (fun hc => ?_) (fun hc => ?_) <;> (try simp only [decide_eq_true_eq, decide_eq_false_iff_not, Bool.not_eq_true', Bool.not_eq_false', Bool.false_eq_true, Bool.true_eq_false, reduceCtorEq, Bool.and_eq_true, Bool.or_eq_true, not_and, not_or] at hc) <;> try (exfalso; omega))
          | simp (maxSteps := 1000000) (disch := omega) only [go_sem, Nat.reduceEqDiff, ↓reduceIte, Nat.reduceLT, Nat.reduceAdd, Nat.reduceSub, Nat.reduceLeDiff, Nat.reduceMul, Int.reduceToNat, reduceCtorEq, hc0, e1, e2, roomy, hlk]
          | apply And.intro
          | omega
          | decide +kernel
        refine ⟨k + 1, ?_, entL_ren [(901, 56)] _ _ (by (repeat' first | exact List.forall_mem_nil _ | refine List.forall_mem_cons.2 ⟨(by first | rfl | (simp (disch := omega) only [go_sem, Nat.reduceEqDiff, ↓reduceIte, Nat.reduceLT, Nat.reduceAdd, Nat.reduceSub, Nat.reduceLeDiff, Nat.reduceMul, Int.reduceToNat, reduceCtorEq, hts, List.map_append, htk, PV.d.injEq, PV.ref.injEq, D.sc.injEq, Value.int.injEq, Value.bool.injEq, Ob.row.injEq, true_and, and_true]; first | done | omega | (congr 1; done))), ?_⟩); done) (by (repeat' first | exact List.forall_mem_nil _ | refine List.forall_mem_cons.2 ⟨(by first | rfl | (simp (disch := omega) only [go_sem, Nat.reduceEqDiff, ↓reduceIte, Nat.reduceLT, Nat.reduceAdd, Nat.reduceSub, Nat.reduceLeDiff, Nat.reduceMul, Int.reduceToNat, reduceCtorEq, hts, List.map_append, htk, PV.d.injEq, PV.ref.injEq, D.sc.injEq, Value.int.injEq, Value.bool.injEq, Ob.row.injEq, true_and, and_true]; first | done | omega | (congr 1; done))), ?_⟩); done) rfl rfl (nodup_of rfl) rfl (by (repeat' first | exact pd_of _ rfl | exact pd_dead | refine pd_upd rfl ?_ | refine pd_frz ?_); done), ?_⟩
        · exact ⟨by omega, upto_succ hinv hc0 (by simpa [shortC] using hsc)⟩
        · omega
    · have : k = cs.length := by omega
      subst this
      have hsc : cs.any shortC = false := any_no fun j y hj => hinv j y hj
      try dsimp only
      rw [List.take_length]
      repeat' first
        | refine pw_seq ?_
        | refine pw_skip ?_
        | refine pw_exit ?_
        | refine pw_block ?_
        | refine pw_region (Nat.beq 61) hmix ?_
        | (refine wpG_split rfl rfl (fun hc => ?_) (fun hc => ?_) <;> try simp only [decide_eq_true_eq, decide_eq_false_iff_not, Bool.not_eq_true', Bool.not_eq_false', Bool.false_eq_true, Bool.true_eq_false, reduceCtorEq, Bool.and_eq_true, Bool.or_eq_true, not_and, not_or] at hc)
        | (refine pw_cond _ rfl rfl (fun hc => ?_) (fun hc => ?_) <;> (try simp only [decide_eq_true_eq, decide_eq_false_iff_not, Bool.not_eq_true', Bool.not_eq_false', Bool.false_eq_true, Bool.true_eq_false, reduceCtorEq, Bool.and_eq_true, Bool.or_eq_true, not_and, not_or] at hc) <;> try (exfalso; omega))
        | simp (maxSteps := 1000000) (disch := omega) only [go_sem, Nat.reduceEqDiff, ↓reduceIte, Nat.reduceLT, Nat.reduceAdd, Nat.reduceSub, Nat.reduceLeDiff, Nat.reduceMul, Int.reduceToNat, reduceCtorEq]
        | apply And.intro
        | omega
        | decide +kernel
      refine pw_loopI (κ := Nat) (fun (v : Nat) => v ≤ n ∧ ∀ u, u < v → lostV (n, ls, ar, cs) u = false) (fun (v : Nat) => [(1, .ptr 1 0 0 0), (3, .ptr 3 0 0 0), (6, .ref 61 1 0 n n), (63, .int n), (64, .int v)]) (fun (v : Nat) => [(1, .cells [.int n, .d (listsD ls), .d (arcsD ar), .d (listsD cs)]), (3, .cells [.int n, .ref 901 2 0 cs.length cs.length]), (901, .row 2 ((cs.map endsA).map arcD)), (61, .row 1 ((fillRow (fun u => layI ls u) n v).map D.int))]) (fun (v : Nat) => n - v) 0 ?_ ?_ ?_
      · exact ⟨Nat.zero_le _, fun u h => by omega⟩
      · exact entL_ren [] _ _ (by (repeat' first | exact List.forall_mem_nil _ | refine List.forall_mem_cons.2 ⟨(by first | rfl | (simp (disch := omega) only [go_sem, Nat.reduceEqDiff, ↓reduceIte, Nat.reduceLT, Nat.reduceAdd, Nat.reduceSub, Nat.reduceLeDiff, Nat.reduceMul, Int.reduceToNat, reduceCtorEq, fillRow_zero, PV.d.injEq, PV.ref.injEq, D.sc.injEq, Value.int.injEq, Value.bool.injEq, Ob.row.injEq, true_and, and_true]; first | done | omega | (congr 1; done))), ?_⟩); done) (by (repeat' first | exact List.forall_mem_nil _ | refine List.forall_mem_cons.2 ⟨(by first | rfl | (simp (disch := omega) only [go_sem, Nat.reduceEqDiff, ↓reduceIte, Nat.reduceLT, Nat.reduceAdd, Nat.reduceSub, Nat.reduceLeDiff, Nat.reduceMul, Int.reduceToNat, reduceCtorEq, fillRow_zero, PV.d.injEq, PV.ref.injEq, D.sc.injEq, Value.int.injEq, Value.bool.injEq, Ob.row.injEq, true_and, and_true]; first | done | omega | (congr 1; done))), ?_⟩); done) rfl rfl (nodup_of rfl) rfl (by (repeat' first | exact pd_of _ rfl | exact pd_dead | refine pd_upd rfl ?_ | refine pd_frz ?_); done)
      · rintro v ⟨hv, hinv2⟩
        have hfl := fillRow_len (fun u => layI ls u) n v
        rcases Nat.lt_or_ge v n with hlt | hge
        · have hg := fillRow_get (g := fun u => layI ls u) (k := v) hlt
          have hst := fillRow_step (g := fun u => layI ls u) hlt
          have hsm : (List.map D.int (fillRow (fun u => layI ls u) n v)).set v (D.sc (Value.int IntKind.i64 (layI ls v))) = List.map D.int (fillRow (fun u => layI ls u) n (v + 1)) := by rw [← hst, List.map_set]
          have hfl2 := fillRow_len (fun u => layI ls u) n (v + 1)
          have hg2 := fillRow_get (g := fun u => layI ls u) (k := v + 1) hlt
          rw [if_pos (by omega)] at hg2
          have hf := hfd v
          dsimp only at hf
          by_cases hn : layI ls v < 0
          · have hfo : foundOk ((n : Int), ls, ar, cs) = false := by
              rw [foundOk, Bool.not_eq_false', List.any_eq_true]
              exact ⟨v, by simpa using hlt, by simpa [lostV] using hn⟩
            repeat' first
              | refine pw_seq ?_
              | refine pw_skip ?_
              | refine pw_ret ?_
              | refine pw_exit ?_
              | refine pw_block ?_
              | refine pw_region (fun _ => false) hmix ?_
              | (refine run_callT (hf) rfl rfl ?_ ?_; (· first | exact .inl rfl | exact .inr rfl))
              | (refine run_callT (hf) rfl ?_ ?_ ?_; (· first | rfl | (simp (maxSteps := 1000000) (disch := omega) only [go_sem, Nat.reduceEqDiff, ↓reduceIte, Nat.reduceLT, Nat.reduceAdd, Nat.reduceSub, Nat.reduceLeDiff, Nat.reduceMul, Int.reduceToNat, reduceCtorEq, hg, hsm, hg2, hfl, hfl2]; done)); (· first | exact .inl rfl | exact .inr rfl))
              | (refine wpG_split rfl rfl (fun hc => ?_) (fun hc => ?_) <;> try simp only [decide_eq_true_eq, decide_eq_false_iff_not, Bool.not_eq_true', Bool.not_eq_false', Bool.false_eq_true, Bool.true_eq_false, reduceCtorEq, Bool.and_eq_true, Bool.or_eq_true, not_and, not_or] at hc)
              | (refine pw_cond _ rfl rfl (fun hc => ?_) (fun hc => ?_) <;> (try simp only [decide_eq_true_eq, decide_eq_false_iff_not, Bool.not_eq_true', Bool.not_eq_false', Bool.false_eq_true, Bool.true_eq_false, reduceCtorEq, Bool.and_eq_true, Bool.or_eq_true, not_and, not_or] at hc) <;> try (exfalso; omega))
              | simp (maxSteps := 1000000) (disch := omega) only [go_sem, Nat.reduceEqDiff, ↓reduceIte, Nat.reduceLT, Nat.reduceAdd, Nat.reduceSub, Nat.reduceLeDiff, Nat.reduceMul, Int.reduceToNat, reduceCtorEq, hg, hsm, hg2, hfl, hfl2]
              | apply And.intro
              | omega
              | decide +kernel
            refine bool_some ?_
            simp [validF, hfo]
          · repeat' first
              | refine pw_seq ?_
              | refine pw_skip ?_
              | refine pw_ret ?_
              | refine pw_exit ?_
              | refine pw_block ?_
              | refine pw_region (fun _ => false) hmix ?_
              | (refine run_callT (hf) rfl rfl ?_ ?_; (· first | exact .inl rfl | exact .inr rfl))
              | (refine run_callT (hf) rfl ?_ ?_ ?_; (· first | rfl | (simp (maxSteps := 1000000) (disch := omega) only [go_sem, Nat.reduceEqDiff, ↓reduceIte, Nat.reduceLT, Nat.reduceAdd, Nat.reduceSub, Nat.reduceLeDiff, Nat.reduceMul, Int.reduceToNat, reduceCtorEq, hg, hsm, hg2, hfl, hfl2]; done)); (· first | exact .inl rfl | exact .inr rfl))
              | (refine wpG_split rfl rfl (fun hc => ?_) (fun hc => ?_) <;> try simp only [decide_eq_true_eq, decide_eq_false_iff_not, Bool.not_eq_true', Bool.not_eq_false', Bool.false_eq_true, Bool.true_eq_false, reduceCtorEq, Bool.and_eq_true, Bool.or_eq_true, not_and, not_or] at hc)
              | (refine pw_cond _ rfl rfl (fun hc => ?_) (fun hc => ?_) <;> (try simp only [decide_eq_true_eq, decide_eq_false_iff_not, Bool.not_eq_true', Bool.not_eq_false', Bool.false_eq_true, Bool.true_eq_false, reduceCtorEq, Bool.and_eq_true, Bool.or_eq_true, not_and, not_or] at hc) <;> try (exfalso; omega))
              | simp (maxSteps := 1000000) (disch := omega) only [go_sem, Nat.reduceEqDiff, ↓reduceIte, Nat.reduceLT, Nat.reduceAdd, Nat.reduceSub, Nat.reduceLeDiff, Nat.reduceMul, Int.reduceToNat, reduceCtorEq, hg, hsm, hg2, hfl, hfl2]
              | apply And.intro
              | omega
              | decide +kernel
            refine ⟨v + 1, ?_, entL_ren [] _ _ (by (repeat' first | exact List.forall_mem_nil _ | refine List.forall_mem_cons.2 ⟨(by first | rfl | (simp (disch := omega) only [go_sem, Nat.reduceEqDiff, ↓reduceIte, Nat.reduceLT, Nat.reduceAdd, Nat.reduceSub, Nat.reduceLeDiff, Nat.reduceMul, Int.reduceToNat, reduceCtorEq, hsm, PV.d.injEq, PV.ref.injEq, D.sc.injEq, Value.int.injEq, Value.bool.injEq, Ob.row.injEq, true_and, and_true]; first | done | omega | (congr 1; done))), ?_⟩); done) (by (repeat' first | exact List.forall_mem_nil _ | refine List.forall_mem_cons.2 ⟨(by first | rfl | (simp (disch := omega) only [go_sem, Nat.reduceEqDiff, ↓reduceIte, Nat.reduceLT, Nat.reduceAdd, Nat.reduceSub, Nat.reduceLeDiff, Nat.reduceMul, Int.reduceToNat, reduceCtorEq, hsm, PV.d.injEq, PV.ref.injEq, D.sc.injEq, Value.int.injEq, Value.bool.injEq, Ob.row.injEq, true_and, and_true]; first | done | omega | (congr 1; done))), ?_⟩); done) rfl rfl (nodup_of rfl) rfl (by (repeat' first | exact pd_of _ rfl | exact pd_dead | refine pd_upd rfl ?_ | refine pd_frz ?_); done), ?_⟩
            · refine ⟨by omega, fun u hu => ?_⟩
              rcases Nat.lt_succ_iff_lt_or_eq.1 hu with h | rfl
              · exact hinv2 u h
              · simpa [lostV] using hn
            · omega
        · have : v = n := by omega
          subst this
          have hfo : foundOk ((v : Int), ls, ar, cs) = true := by
            rw [foundOk, Bool.not_eq_true', List.any_eq_false]
            intro u hu
            rw [hinv2 u (by simpa using hu)]
            decide
          have hre : fillRow (fun u => layI ls u) v v = ranksV ((v : Int), ls, ar, cs) := by rw [fillRow_end, ranksV]; rfl
          have hsg : srcG ((v : Int), ls, ar, cs) = ((v : Int), cs.map endsA) := rfl
          try dsimp only
          rw [hre]
          rw [hsg] at hbd hsm
          have hvf : validF ((v : Int), ls, ar, cs) = (decide ((buildF ((v : Int), cs.map endsA) (ranksV ((v : Int), ls, ar, cs))).2 = 0) && sameLv (sortLv ((v : Int), ls, ar, cs)) (buildF ((v : Int), cs.map endsA) (ranksV ((v : Int), ls, ar, cs))).1) := by rw [validF, hhd, hsc, hfo, hsg]; simp
          rw [hvf]
          have hrl : (ranksV ((v : Int), ls, ar, cs)).length = v := by simp [ranksV]
          generalize ranksV ((v : Int), ls, ar, cs) = R at *
          generalize buildF ((v : Int), cs.map endsA) R = BF at *
          obtain ⟨b, e⟩ := BF
          have hsd1 := hsd (by simpa using (show ls.length ≤ 1000 by omega)) hw
          generalize sortLv ((v : Int), ls, ar, cs) = S at *
          dsimp only at hbd hsm ⊢
          have htA : ((cs.map endsA).map arcD).take cs.length = (cs.map endsA).map arcD := List.take_of_length_le (by simp)
          have htR : (R.map D.int).take v = R.map D.int := List.take_of_length_le (by simp [hrl])
          have hlA : ((cs.map endsA).map arcD).length = cs.length := by simp
          have hlR : (R.map D.int).length = v := by simp [hrl]
          refine pw_ent _ (ent_freeze 901 2 ((cs.map endsA).map arcD) rfl (noGone_of _ rfl) (by decide)) ?_
          refine pw_ent _ (ent_ren [] [(1, .ptr 1 0 0 0), (3, .ptr 3 0 0 0), (6, .ref 61 1 0 v v), (63, .int v), (64, .int v)] [(1, .cells [.int v, .d (listsD ls), .d (arcsD ar), .d (listsD cs)]), (3, .cells [.int v, .d (arcsD (cs.map endsA))]), (61, .row 1 (R.map D.int))] (by (repeat' first | exact List.forall_mem_nil _ | refine List.forall_mem_cons.2 ⟨(by first | rfl | (simp (disch := omega) only [go_sem, Nat.reduceEqDiff, ↓reduceIte, Nat.reduceLT, Nat.reduceAdd, Nat.reduceSub, Nat.reduceLeDiff, Nat.reduceMul, Int.reduceToNat, reduceCtorEq, List.drop_zero, htA, hlA, Nat.le_refl, PV.d.injEq, PV.ref.injEq, D.sc.injEq, Value.int.injEq, Value.bool.injEq, Ob.row.injEq, true_and, and_true]; first | done | omega | (congr 1; done))), ?_⟩); done) (by (repeat' first | exact List.forall_mem_nil _ | refine List.forall_mem_cons.2 ⟨(by first | rfl | (simp (disch := omega) only [go_sem, Nat.reduceEqDiff, ↓reduceIte, Nat.reduceLT, Nat.reduceAdd, Nat.reduceSub, Nat.reduceLeDiff, Nat.reduceMul, Int.reduceToNat, reduceCtorEq, List.drop_zero, htA, hlA, Nat.le_refl, PV.d.injEq, PV.ref.injEq, D.sc.injEq, Value.int.injEq, Value.bool.injEq, Ob.row.injEq, true_and, and_true]; first | done | omega | (congr 1; done))), ?_⟩); done) rfl rfl (nodup_of rfl) rfl (by (repeat' first | exact pd_of _ rfl | exact pd_dead | refine pd_upd rfl ?_ | refine pd_frz ?_); done)) ?_
          refine pw_ent _ (ent_freeze 61 1 (R.map D.int) rfl (noGone_of _ rfl) (by decide)) ?_
          by_cases he : e = 0
          · subst he
            rcases hsv : sameLv S b with _ | _ <;> rw [hsv] at hsm
            all_goals
              repeat' first
                | refine pw_seq ?_
                | refine pw_skip ?_
                | refine pw_ret ?_
                | refine pw_exit ?_
                | refine pw_block ?_
                | refine pw_region (fun _ => false) hmix ?_
                | (refine run_callT (hbd) rfl rfl ?_ ?_; (· first | exact .inl rfl | exact .inr rfl))
                | (refine run_callT (hbd) rfl ?_ ?_ ?_; (· first | rfl | (simp (maxSteps := 1000000) (disch := omega) only [go_sem, Nat.reduceEqDiff, ↓reduceIte, Nat.reduceLT, Nat.reduceAdd, Nat.reduceSub, Nat.reduceLeDiff, Nat.reduceMul, Int.reduceToNat, reduceCtorEq, htR, hlR, List.drop_zero]; done)); (· first | exact .inl rfl | exact .inr rfl))
                | (refine run_callT (hsd1) rfl rfl ?_ ?_; (· first | exact .inl rfl | exact .inr rfl))
                | (refine run_callT (hsd1) rfl ?_ ?_ ?_; (· first | rfl | (simp (maxSteps := 1000000) (disch := omega) only [go_sem, Nat.reduceEqDiff, ↓reduceIte, Nat.reduceLT, Nat.reduceAdd, Nat.reduceSub, Nat.reduceLeDiff, Nat.reduceMul, Int.reduceToNat, reduceCtorEq, htR, hlR, List.drop_zero]; done)); (· first | exact .inl rfl | exact .inr rfl))
                | (refine run_callT (hsm) rfl rfl ?_ ?_; (· first | exact .inl rfl | exact .inr rfl))
                | (refine run_callT (hsm) rfl ?_ ?_ ?_; (· first | rfl | (simp (maxSteps := 1000000) (disch := omega) only [go_sem, Nat.reduceEqDiff, ↓reduceIte, Nat.reduceLT, Nat.reduceAdd, Nat.reduceSub, Nat.reduceLeDiff, Nat.reduceMul, Int.reduceToNat, reduceCtorEq, htR, hlR, List.drop_zero]; done)); (· first | exact .inl rfl | exact .inr rfl))
                | (refine wpG_split rfl rfl (fun hc => ?_) (fun hc => ?_) <;> try simp only [decide_eq_true_eq, decide_eq_false_iff_not, Bool.not_eq_true', Bool.not_eq_false', Bool.false_eq_true, Bool.true_eq_false, reduceCtorEq, Bool.and_eq_true, Bool.or_eq_true, not_and, not_or] at hc)
                | (refine pw_cond _ rfl rfl (fun hc => ?_) (fun hc => ?_) <;> (try simp only [decide_eq_true_eq, decide_eq_false_iff_not, Bool.not_eq_true', Bool.not_eq_false', Bool.false_eq_true, Bool.true_eq_false, reduceCtorEq, Bool.and_eq_true, Bool.or_eq_true, not_and, not_or] at hc) <;> try (exfalso; omega))
                | simp (maxSteps := 1000000) (disch := omega) only [go_sem, Nat.reduceEqDiff, ↓reduceIte, Nat.reduceLT, Nat.reduceAdd, Nat.reduceSub, Nat.reduceLeDiff, Nat.reduceMul, Int.reduceToNat, reduceCtorEq, htR, hlR, List.drop_zero]
                | apply And.intro
                | omega
                | decide +kernel
              refine bool_some ?_
              simp [hsv]
          · repeat' first
              | refine pw_seq ?_
              | refine pw_skip ?_
              | refine pw_ret ?_
              | refine pw_exit ?_
              | refine pw_block ?_
              | refine pw_region (fun _ => false) hmix ?_
              | (refine run_callT (hbd) rfl rfl ?_ ?_; (· first | exact .inl rfl | exact .inr rfl))
              | (refine run_callT (hbd) rfl ?_ ?_ ?_; (· first | rfl | (simp (maxSteps := 1000000) (disch := omega) only [go_sem, Nat.reduceEqDiff, ↓reduceIte, Nat.reduceLT, Nat.reduceAdd, Nat.reduceSub, Nat.reduceLeDiff, Nat.reduceMul, Int.reduceToNat, reduceCtorEq, he, htR, hlR, List.drop_zero]; done)); (· first | exact .inl rfl | exact .inr rfl))
              | (refine run_callT (hsd1) rfl rfl ?_ ?_; (· first | exact .inl rfl | exact .inr rfl))
              | (refine run_callT (hsd1) rfl ?_ ?_ ?_; (· first | rfl | (simp (maxSteps := 1000000) (disch := omega) only [go_sem, Nat.reduceEqDiff, ↓reduceIte, Nat.reduceLT, Nat.reduceAdd, Nat.reduceSub, Nat.reduceLeDiff, Nat.reduceMul, Int.reduceToNat, reduceCtorEq, he, htR, hlR, List.drop_zero]; done)); (· first | exact .inl rfl | exact .inr rfl))
              | (refine run_callT (hsm) rfl rfl ?_ ?_; (· first | exact .inl rfl | exact .inr rfl))
              | (refine run_callT (hsm) rfl ?_ ?_ ?_; (· first | rfl | (simp (maxSteps := 1000000) (disch := omega) only [go_sem, Nat.reduceEqDiff, ↓reduceIte, Nat.reduceLT, Nat.reduceAdd, Nat.reduceSub, Nat.reduceLeDiff, Nat.reduceMul, Int.reduceToNat, reduceCtorEq, he, htR, hlR, List.drop_zero]; done)); (· first | exact .inl rfl | exact .inr rfl))
              | (refine wpG_split rfl rfl (fun hc => ?_) (fun hc => ?_) <;> try simp only [decide_eq_true_eq, decide_eq_false_iff_not, Bool.not_eq_true', Bool.not_eq_false', Bool.false_eq_true, Bool.true_eq_false, reduceCtorEq, Bool.and_eq_true, Bool.or_eq_true, not_and, not_or] at hc)
              | (refine pw_cond _ rfl rfl (fun hc => ?_) (fun hc => ?_) <;> (try simp only [decide_eq_true_eq, decide_eq_false_iff_not, Bool.not_eq_true', Bool.not_eq_false', Bool.false_eq_true, Bool.true_eq_false, reduceCtorEq, Bool.and_eq_true, Bool.or_eq_true, not_and, not_or] at hc) <;> try (exfalso; omega))
              | simp (maxSteps := 1000000) (disch := omega) only [go_sem, Nat.reduceEqDiff, ↓reduceIte, Nat.reduceLT, Nat.reduceAdd, Nat.reduceSub, Nat.reduceLeDiff, Nat.reduceMul, Int.reduceToNat, reduceCtorEq, he, htR, hlR, List.drop_zero]
              | apply And.intro
              | omega
              | decide +kernel
            refine bool_some ?_
            simp [he]
end Go.Proofs.Ytpmmikkojpcogaa
