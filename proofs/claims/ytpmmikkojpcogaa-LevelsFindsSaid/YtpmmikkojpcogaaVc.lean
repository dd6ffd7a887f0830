/- slices.Sorted(slices.Values(l)): a sorted list. -/
import Derived.Test.YtpmmikkojpcogaaVa
import Derived.Test.YtpmmikkojpcogaaVb
namespace Go.Proofs.Ytpmmikkojpcogaa
open Go Go.Proofs Go.RowKit Go.Shelf Go.Sort
attribute [local go_sem] Oper.semAt_some
set_option maxRecDepth 100000 in
set_option maxHeartbeats 2000000 in
theorem collect_in (n : Nat) (hn : 4 ≤ n) (Bs ob : Nat) (sv : Value) (zs : List Int) (hlen : zs.length ≤ maxLen) (hbytes : zs.length * 8 ≤ 140737488351232) (w : World)
    (hBs : Bs < w.heap.size) (hc : w.cell? ⟨Bs, ob, none⟩ = some sv) (hI : Ints w.heap.size w sv zs) :
    CallsIn Fence.wide n Try.prog 75 #[.func (.func 77) #[] #[.pointer (some ⟨Bs, ob, none⟩)]] w fun e W' => ∃ v, e = .returned v ∧ W'.ownsRow w.heap.size 3 1 v zs.length (zs.map (Value.int .i64)) ∧ (v = .slice none 0 0 ↔ zs = []) ∧ Below w.heap.size w W' := by
  have h1 : 1 ≤ n := by omega
  have hF : Fence.wide.fn 78 := trivial
  refine callsIn_of_wp Try.func75 rfl trivial ?_ rfl
  simp only [Try.ntmps75, List.size_toArray, List.length_cons, List.length_nil, Nat.reduceAdd, Nat.reduceSub, Array.replicate_succ, Array.replicate_zero, List.push_toArray, List.append_toArray, List.nil_append, List.cons_append]
  gi_wp2_with (gi_at_call 78; refine (appendSeq_in Fence.wide (n - 1) trivial trivial rfl (by omega) Bs ob sv zs hlen hbytes w hBs hc hI).mono ?_; rintro e w' ⟨v, rfl, hrow, hnil, hb⟩)
  go_ret
  exact ⟨v, rfl, hrow, hnil, hb⟩
set_option maxRecDepth 100000 in
set_option maxHeartbeats 2000000 in
theorem sorted_in (n : Nat) (hn : 5 ≤ n) (Bs ob : Nat) (sv : Value) (zs : List Int) (hlen : zs.length ≤ maxLen) (hbytes : zs.length * 8 ≤ 140737488351232) (w : World)
    (hBs : Bs < w.heap.size) (hc : w.cell? ⟨Bs, ob, none⟩ = some sv) (hI : Ints w.heap.size w sv zs) :
    CallsIn Fence.wide n Try.prog 60 #[.func (.func 77) #[] #[.pointer (some ⟨Bs, ob, none⟩)]] w fun e W' => ∃ v, e = .returned v ∧ W'.ownsRow w.heap.size 3 1 v zs.length ((sortL zs).map (Value.int .i64)) ∧ Below w.heap.size w W' := by
  have h1 : 1 ≤ n := by omega
  have hF1 : Fence.wide.fn 75 := trivial
  have hF2 : Fence.wide.fn 76 := trivial
  refine callsIn_of_wp Try.func60 rfl trivial ?_ rfl
  simp only [Try.ntmps60, List.size_toArray, List.length_cons, List.length_nil, Nat.reduceAdd, Nat.reduceSub, Array.replicate_succ, Array.replicate_zero, List.push_toArray, List.append_toArray, List.nil_append, List.cons_append]
  gi_wp2_with (gi_at_call 75; refine (collect_in (n - 1) (by omega) Bs ob sv zs hlen hbytes w hBs hc hI).mono ?_; rintro e W ⟨v, rfl, hrow, hnil, hb⟩)
  rcases hrow.2 with ⟨rfl, hz⟩ | ⟨gb, cap, cur, rfl, hbase, hgb, r1, r2, r3, r4⟩
  · have hss : zs = [] := List.eq_nil_of_length_eq_zero hz
    subst hss
    gi_wp2_with (gi_at_call 76; refine (callsIn_wide.2 (Any.slices_Sort_int_none Try.laysSort none 0 W)).mono ?_; rintro e w' ⟨rfl, rfl⟩)
    go_ret
    exact ⟨.slice none 0 0, rfl, by simpa [sortL] using hrow, hb⟩
  · have hH : Holds (Value.int .i64) W gb 0 zs.toArray := holds_of_blockI hgb (by simpa using r4)
    have hgl : gb < W.heap.size := (Array.getElem?_eq_some_iff.1 hgb).1
    have hsz : zs.length < 4611686018427387904 := by omega
    have cS := Any.slices_Sort_int Try.laysSort gb 0 cap zs W hH hgl hsz
    gi_wp2_with (gi_at_call 76; refine (callsIn_wide.2 cS).mono ?_; rintro e w' ⟨rfl, nn, os, rfl⟩)
    go_ret
    exact ⟨_, rfl, ownsRow_sortedI (by simp) hbase hgb r1 r2 r3, hb.grown (grownBy_sortedI _) hb.size (fun j hj => by cases hj; exact hbase)⟩
end Go.Proofs.Ytpmmikkojpcogaa
namespace Go.Proofs.Ytpmmikkojpcogaa
open Go Go.PS Go.Proofs
set_option maxRecDepth 100000
set_option linter.unusedSimpArgs false
set_option linter.unusedVariables false
/-- Integers as data, in the words of the walk through the library. -/
theorem ints_at {w : World} {X : Nat → Prop} {l : List Int} {v : Value} (h : D.At w X (intsD l) v) : Ints w.heap.size w v l := by
  generalize hd : intsD l = d at h
  cases h with
  | sc => cases hd
  | ag => cases hd
  | tup => cases hd
  | pt => cases hd
  | fn => cases hd
  | slnil base cap =>
    simp only [intsD, D.sl.injEq, List.map_eq_nil_iff] at hd
    exact .inl ⟨base, cap, rfl, hd⟩
  | sl L b off cap sz hl hc hsz vals hv hat =>
    simp only [intsD, D.sl.injEq] at hd
    subst hd
    rcases Nat.eq_zero_or_pos l.length with h0 | h0
    · have : l = [] := List.length_eq_zero_iff.1 h0
      subst this
      exact .inl ⟨_, cap, rfl, rfl⟩
    · have hs1 : sz = 1 := by
        have := hsz (D.int l[0]) (List.mem_map.2 ⟨l[0], List.getElem_mem h0, rfl⟩)
        simpa [D.cells] using this.symm
      subst hs1
      have key : ∀ j, j < l.length → w.cell? ⟨b, off + j, none⟩ = some (.int .i64 (l[j]?.getD 0)) := by
        intro j hj
        have hi : (l.map D.int)[j]? = some (D.int l[j]) := by rw [List.getElem?_map, List.getElem?_eq_getElem hj]; rfl
        have h1 := hv j _ 0 (D.int l[j]) hi rfl
        have h2 := hat j _ 0 (D.int l[j]) hi rfl
        rw [Nat.mul_one, Nat.add_zero] at h1
        generalize vals j 0 = x at h1 h2
        cases h2
        rw [h1.1, List.getElem?_eq_getElem hj]; rfl
      refine .inr ⟨b, off, cap, by rw [List.length_map], ?_, key⟩
      have := key 0 h0
      rw [Nat.add_zero] at this
      exact cell_lt this
theorem Sorted_spec (l : List Int) (hl : l.length * 8 ≤ 140737488351232) : CallsTo Try.prog 60 [.fn 77 [.pt [intsD l]]] (intsD (sortL l)) := by
  refine ⟨⟨_, Try.func60, rfl, by decide +kernel⟩, fun w X vs hX hat => ?_⟩
  obtain ⟨hsz, hat⟩ := hat
  obtain ⟨v, rfl⟩ : ∃ v, vs = #[v] := by
    have : vs.size = 1 := hsz
    refine ⟨vs[0], Array.ext (by simp [this]) fun i h1 h2 => ?_⟩
    have : i = 0 := by simp at h2; omega
    subst this; rfl
  have hv := hat 0 _ v rfl rfl
  cases hv with
  | fn _ _ arr hasz harr =>
    obtain ⟨x, rfl⟩ : ∃ x, arr = #[x] := by
      have : arr.size = 1 := hasz
      refine ⟨arr[0], Array.ext (by simp [this]) fun i h1 h2 => ?_⟩
      have : i = 0 := by simp at h2; omega
      subst this; rfl
    have hx := harr 0 _ x rfl rfl
    cases hx with
    | pt _ b off vals hpv hpat =>
      have h1 := hpv 0 _ rfl
      have h2 := hpat 0 _ rfl
      rw [Nat.add_zero] at h1
      have hI := ints_at h2
      refine (callsIn_wide.1 (sorted_in 5 (by omega) b off (vals 0) l (by simp only [maxLen]; omega) (by omega) w (cell_lt h1.1) h1.1 hI)).mono ?_
      rintro e w' ⟨v, rfl, hrow, hb⟩
      refine ⟨v, rfl, ?_, hb⟩
      obtain ⟨hlen, hrow⟩ := hrow
      rcases hrow with ⟨rfl, hz⟩ | ⟨g, cap, cur, rfl, hbase, hgb, r1, r2, r3, r4⟩
      · have hss : l = [] := List.eq_nil_of_length_eq_zero hz
        subst hss
        rw [show intsD (sortL []) = .sl [] by simp [sortL]]
        exact .slnil _ _
      · have hcell : ∀ i z, (sortL l)[i]? = some z → w'.cell? ⟨g, i, none⟩ = some (.int .i64 z) := by
          intro i z hz
          have hil := (List.getElem?_eq_some_iff.1 hz).1
          rw [sortL_len] at hil
          have h3 := congrArg (fun t : List Value => t[i]?) r4
          simp only [List.getElem?_map, hz, Option.map_some] at h3
          rw [List.getElem?_take_of_lt (by omega), Array.getElem?_toList] at h3
          rw [cell_arr hgb]; exact h3
        have hlen2 : (intsL (sortL l)).length = l.length := by rw [List.length_map, sortL_len]
        rw [← hlen2]
        refine .sl _ g 0 cap 1 (by rw [hlen2]; exact r1) r2 (fun d hd => by obtain ⟨z, _, rfl⟩ := List.mem_map.1 hd; rfl) (fun i _ => .int .i64 (((sortL l)[i]?).getD 0)) (fun i d j c hi hj => ?_) (fun i d j c hi hj => ?_)
        · rw [List.getElem?_map] at hi
          cases hz : (sortL l)[i]? with
          | none => rw [hz] at hi; cases hi
          | some z =>
            rw [hz] at hi
            simp only [Option.map_some, Option.some.injEq] at hi
            subst hi
            cases j with
            | succ j => simp [D.cells] at hj
            | zero => exact ⟨by rw [Nat.mul_one, Nat.add_zero, Nat.zero_add]; exact hcell i z hz, rfl, fun hx => by have := hX g hx; omega⟩
        · rw [List.getElem?_map] at hi
          cases hz : (sortL l)[i]? with
          | none => rw [hz] at hi; cases hi
          | some z =>
            rw [hz] at hi
            simp only [Option.map_some, Option.some.injEq] at hi
            subst hi
            cases j with
            | succ j => simp [D.cells] at hj
            | zero =>
              simp only [D.cells, List.getElem?_cons_zero, Option.some.injEq] at hj
              subst hj
              exact .sc _ rfl
theorem Values_spec (l : List Int) : CallsTo Try.prog 61 [intsD l] (.fn 77 [.pt [intsD l]]) := by
  refine callsTo_of Try.func61 rfl (by decide +kernel) (Nat.le_of_ble_eq_true rfl) ?_
  intro hat B X w0
  repeat' first
    | refine pw_seq ?_
    | refine pw_skip ?_
    | refine pw_ret ?_
    | refine pw_exit ?_
    | refine pw_block ?_
    | refine pw_region (fun _ => false) hmix ?_
    | (refine wpG_split rfl rfl (fun hc => ?_) (fun hc => ?_) <;> try simp only [decide_eq_true_eq, decide_eq_false_iff_not, Bool.not_eq_true', Bool.not_eq_false', Bool.false_eq_true, Bool.true_eq_false, reduceCtorEq, Bool.and_eq_true, Bool.or_eq_true, not_and, not_or] at hc)
    | (refine pw_cond _ rfl rfl (fun hc => ?_) (fun hc => ?_) <;> (try simp only [decide_eq_true_eq, decide_eq_false_iff_not, Bool.not_eq_true', Bool.not_eq_false', Bool.false_eq_true, Bool.true_eq_false, reduceCtorEq, Bool.and_eq_true, Bool.or_eq_true, not_and, not_or] at hc) <;> try (exfalso; omega))
    | simp (maxSteps := 1000000) (disch := omega) only [go_sem, Nat.reduceEqDiff, ↓reduceIte, Nat.reduceLT, Nat.reduceAdd, Nat.reduceSub, Nat.reduceLeDiff, Nat.reduceMul, Int.reduceToNat, reduceCtorEq]
    | apply And.intro
    | omega
    | decide +kernel
  rfl
end Go.Proofs.Ytpmmikkojpcogaa
