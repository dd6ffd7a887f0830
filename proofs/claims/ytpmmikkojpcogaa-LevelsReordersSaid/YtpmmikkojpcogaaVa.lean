/- Sorting in place: the library's sort, as the kit has proved it, on a row of the caller's own. -/
import Derived.Test.YtpmmikkojpcogaaA
import Derived.Shelf.Sort.Plain
import Derived.Shelf.Slices.In.SortNone
import Derived.Sort.OwnSortedInts
import Derived.Ground.NamesProg
namespace Go.Proofs
open Go.Shelf
def Try.laysSort_ren : Go.Shelf.Ren := ⟨fun | 189 => 76 | 125 => 80 | 257 => 79 | 128 => 90 | 129 => 91 | 294 => 81 | 295 => 82 | 296 => 83 | 297 => 84 | 298 => 85 | 299 => 86 | 216 => 87 | 300 => 88 | 301 => 89 | 328 => 92 | 329 => 93 | 330 => 94 | 331 => 95 | 332 => 96 | 215 => 97 | 343 => 98 | n => n, fun | 28 => 25 | 3 => 3 | 46 => 84 | 0 => 0 | 51 => 94 | 53 => 96 | 4 => 4 | 183 => 87 | 182 => 86 | 131 => 48 | 5 => 5 | 9 => 9 | 218 => 97 | 222 => 101 | 228 => 103 | 229 => 58 | n => n, fun | n => n⟩
theorem Try.laysSort : Go.Proofs.Lays.n189 Try.prog Try.laysSort_ren := {
  mixed := by kernel_rfl
  f125 := Try.func80.trans (congrArg some (by kernel_rfl))
  f128 := Try.func90.trans (congrArg some (by kernel_rfl))
  f129 := Try.func91.trans (congrArg some (by kernel_rfl))
  f189 := Try.func76.trans (congrArg some (by kernel_rfl))
  f215 := Try.func97.trans (congrArg some (by kernel_rfl))
  f216 := Try.func87.trans (congrArg some (by kernel_rfl))
  f257 := Try.func79.trans (congrArg some (by kernel_rfl))
  f294 := Try.func81.trans (congrArg some (by kernel_rfl))
  f295 := Try.func82.trans (congrArg some (by kernel_rfl))
  f296 := Try.func83.trans (congrArg some (by kernel_rfl))
  f297 := Try.func84.trans (congrArg some (by kernel_rfl))
  f298 := Try.func85.trans (congrArg some (by kernel_rfl))
  f299 := Try.func86.trans (congrArg some (by kernel_rfl))
  f300 := Try.func88.trans (congrArg some (by kernel_rfl))
  f301 := Try.func89.trans (congrArg some (by kernel_rfl))
  f328 := Try.func92.trans (congrArg some (by kernel_rfl))
  f329 := Try.func93.trans (congrArg some (by kernel_rfl))
  f330 := Try.func94.trans (congrArg some (by kernel_rfl))
  f331 := Try.func95.trans (congrArg some (by kernel_rfl))
  f332 := Try.func96.trans (congrArg some (by kernel_rfl))
  f343 := Try.func98.trans (congrArg some (by kernel_rfl))
  t0 := Try.underlying0
  a0 := Try.isAgg0
  z0 := Try.sizeOf0
  v0 := Try.zeroValue0
  t3 := Try.underlying3
  a3 := Try.isAgg3
  z3 := Try.sizeOf3
  v3 := Try.zeroValue3
  t4 := Try.underlying4
  a4 := Try.isAgg4
  z4 := Try.sizeOf4
  v4 := Try.zeroValue4
  t5 := Try.underlying5
  a5 := Try.isAgg5
  z5 := Try.sizeOf5
  v5 := Try.zeroValue5
  t9 := Try.underlying9
  a9 := Try.isAgg9
  z9 := Try.sizeOf9
  v9 := Try.zeroValue9
  t28 := Try.underlying25
  a28 := Try.isAgg25
  z28 := Try.sizeOf25
  v28 := Try.zeroValue25
  t46 := Try.underlying84
  a46 := Try.isAgg84
  z46 := Try.sizeOf84
  v46 := Try.zeroValue84
  t51 := Try.underlying94
  a51 := Try.isAgg94
  z51 := Try.sizeOf94
  v51 := Try.zeroValue94
  t53 := Try.underlying96
  a53 := Try.isAgg96
  z53 := Try.sizeOf96
  v53 := Try.zeroValue96
  t131 := Try.underlying48
  a131 := Try.isAgg48
  z131 := Try.sizeOf48
  v131 := Try.zeroValue48
  t182 := Try.underlying86
  a182 := Try.isAgg86
  z182 := Try.sizeOf86
  v182 := Try.zeroValue86
  t183 := Try.underlying87
  a183 := Try.isAgg87
  z183 := Try.sizeOf87
  v183 := Try.zeroValue87
  t218 := Try.underlying97
  a218 := Try.isAgg97
  z218 := Try.sizeOf97
  v218 := Try.zeroValue97
  t222 := Try.underlying101
  a222 := Try.isAgg101
  z222 := Try.sizeOf101
  v222 := Try.zeroValue101
  t228 := Try.underlying103
  a228 := Try.isAgg103
  z228 := Try.sizeOf103
  v228 := Try.zeroValue103
  t229 := Try.underlying58
  a229 := Try.isAgg58
  z229 := Try.sizeOf58
  v229 := Try.zeroValue58 }
end Go.Proofs
namespace Go.Proofs.Ytpmmikkojpcogaa
open Go Go.PS Go.Proofs Go.Sort Go.RowKit
abbrev intsL (l : List Int) : List D := l.map D.int
def sortL (l : List Int) : List Int := l.mergeSort fun x y => decide (x ≤ y)
theorem sortL_len (l : List Int) : (sortL l).length = l.length := by simp [sortL]
theorem row_cells {w : World} {ι : Nat → Option Nat} {X : Nat → Prop} {c : Array Value} {l : List Int} (hsz : (intsL l).length * 1 ≤ c.size)
    (h : ∀ (i : Nat) d (j : Nat) e v, (intsL l)[i]? = some d → d.cells[j]? = some e → c[i * 1 + j]? = some v → D.At w (ownX ι X) e v) : c.toList.take l.length = l.map (Value.int .i64) := by
  rw [List.length_map, Nat.mul_one] at hsz
  refine List.ext_getElem? fun i => ?_
  rcases Nat.lt_or_ge i l.length with hi | hi
  · rw [List.getElem?_take_of_lt hi, Array.getElem?_toList, List.getElem?_map, List.getElem?_eq_getElem hi]
    obtain ⟨x, hx⟩ : ∃ x, c[i]? = some x := ⟨_, Array.getElem?_eq_getElem (by omega)⟩
    have := h i (D.int l[i]) 0 (D.int l[i]) x (by rw [List.getElem?_map, List.getElem?_eq_getElem hi]; rfl) rfl (by rw [Nat.mul_one, Nat.add_zero]; exact hx)
    rw [hx]
    cases this
    rfl
  · rw [List.getElem?_eq_none (by simp; omega), List.getElem?_eq_none (by simp; omega)]
theorem Sort_spec (l : List Int) (hl : l.length < 4611686018427387904) :
    CallsM Try.prog 76 [.ref 1000 1 0 l.length l.length] [(1000, .row 1 (intsL l))] (.tup []) [(1000, .row 1 (intsL (sortL l)))] := by
  refine ⟨⟨_, Try.func76, rfl, by decide +kernel⟩, fun w ι X vs hX hinj hlt hsz hat hobs hdom => ?_⟩
  obtain ⟨v, rfl⟩ : ∃ v, vs = #[v] := by
    have : vs.size = 1 := hsz
    refine ⟨vs[0], Array.ext (by simp [this]) fun i h1 h2 => ?_⟩
    have : i = 0 := by simp at h2; omega
    subst this; rfl
  have hv := hat 0 _ v rfl rfl
  have ho := hobs 1000
  have hdead : ∀ o, o ≠ 1000 → ∀ r, obOf [(1000, r)] o = .dead := fun o h r => by simp [obOf, upd, h]
  have hsame : ∀ r, obOf [(1000, r)] 1000 = r := fun r => rfl
  rw [hsame] at ho
  have hnone : ∀ o, o ≠ 1000 → ι o = none := fun o h => by
    have := hobs o
    rw [hdead o h] at this
    cases this with | dead h => exact h
  have hpost : ∀ w', w.grownBy w' (ι 1000) → (∀ b, ι 1000 = some b → bsz w' b = bsz w b) → Ob.At w' ι X 1000 (.row 1 (intsL (sortL l))) →
      ∃ v ι', Ending.returned (.tuple #[]) = .returned v ∧ PV.At w' ι' X (.tup []) v ∧ (∀ o, Ob.At w' ι' X o (obOf [(1000, .row 1 (intsL (sortL l)))] o)) ∧ (∀ o b, ι' o = some b → o ∈ [(1000, Ob.row 1 (intsL (sortL l)))].map (·.1)) ∧
      (∀ o o' b, obOf [(1000, .row 1 (intsL (sortL l)))] o ≠ .gone → obOf [(1000, .row 1 (intsL (sortL l)))] o' ≠ .gone → ι' o = some b → ι' o' = some b → o = o') ∧ (∀ o b, ι' o = some b → ¬ X b ∧ ((∃ o', ι o' = some b) ∨ w.heap.size ≤ b) ∧ b < w'.heap.size) ∧
      w'.os = w.os ∧ w'.tape = w.tape ∧ w'.output = w.output ∧ w.heap.size ≤ w'.heap.size ∧
      (∀ b, b < w.heap.size → (∀ o, ι o ≠ some b) → w'.heap[b]? = w.heap[b]?) ∧
      (∀ o b, ι o = some b → ι' o = some b ∧ bsz w' b = bsz w b) := by
    rintro w' ⟨g1, g2, g3, g4, g5⟩ hb hrow
    refine ⟨_, ι, rfl, .tup [] #[] rfl (fun j d v hj => by simp at hj), fun o => ?_, fun o b h => hdom o b h, fun o o' b _ _ h h' => ?_, fun o b h => ⟨fun hx => (hX b hx).2 o h, .inl ⟨o, h⟩, by have := hlt o b h; omega⟩, g1, g2, g3, g4, fun b hbs hn => g5 b hbs fun h => hn 1000 h.symm, fun o b h => ⟨h, ?_⟩⟩
    · by_cases h : o = 1000
      · subst h; exact hrow
      · rw [hdead o h]; exact .dead (hnone o h)
    · have e1 : o = 1000 := Classical.byContradiction fun hne => by rw [hnone o hne] at h; cases h
      have e2 : o' = 1000 := Classical.byContradiction fun hne => by rw [hnone o' hne] at h'; cases h'
      rw [e1, e2]
    · have e1 : o = 1000 := Classical.byContradiction fun hne => by rw [hnone o hne] at h; cases h
      subst e1; exact hb b h
  generalize hn : l.length = n at hv
  cases hv with
  | ref0 _ _ _ base =>
    have : l = [] := List.length_eq_zero_iff.1 hn
    subst this
    refine (Any.slices_Sort_int_none Try.laysSort base 0 w).mono ?_
    rintro e w' ⟨rfl, rfl⟩
    exact hpost w' ⟨rfl, rfl, rfl, Nat.le_refl _, fun _ _ _ => rfl⟩ (fun _ _ => rfl) (by rw [show sortL [] = [] by simp [sortL]]; exact ho)
  | ref _ _ _ _ _ capr b hι hlc hc hm hs =>
    generalize hL : intsL l = L at ho
    cases ho with
    | row0 _ h => rw [h] at hι; cases hι
    | row _ _ b' c T hι' hb hszc hcl hone h =>
      subst hL
      obtain rfl : b' = b := by rw [hι] at hι'; exact (Option.some.inj hι').symm
      have htk := row_cells hszc h
      subst hn
      rw [Nat.zero_mul]
      refine (Any.slices_Sort_int Try.laysSort b' 0 capr l w (holds_of_blockI hb htk) (hlt 1000 b' hι) hl).mono ?_
      rintro e w' ⟨rfl, k, os, rfl⟩
      have hh := heap_sortedI (n := k) (os := os) (sortL l).toArray hb
      have hg := grownBy_sortedI (w := w) (g := b') (n := k) (os := os) (sortL l).toArray
      have hle : (sortL l).length ≤ c.size := by rw [sortL_len]; simpa using hszc
      have htk2 := take_putCellsI c (sortL l) hle
      have hpsz : (putCells (Value.int .i64) 0 (sortL l).toArray c).size = c.size := by simp [putCells]
      refine hpost _ (by rw [hι]; exact hg) (fun b hb2 => ?_) ?_
      · rw [hι] at hb2; cases hb2
        show bsz _ b' = bsz w b'
        simp only [bsz]
        rw [show (grow (putRow (Value.int .i64) (Sort.ahead w k) b' 0 (l.mergeSort fun x y => decide (x ≤ y)).toArray) os).heap[b']? = _ from hh, hb]
        exact hpsz
      · refine .row 1 _ b' _ T hι hh (by rw [hpsz, List.length_map, Nat.mul_one]; exact hle) (fun d hd => by obtain ⟨z, _, rfl⟩ := List.mem_map.1 hd; rfl) (fun j v hj => ?_) (fun i d j e v hi hj hv => ?_)
        · simp only [putCells, Array.getElem?_mapIdx] at hj
          cases hcj : c[j]? with
          | none => rw [hcj] at hj; cases hj
          | some x =>
            rw [hcj] at hj
            simp only [Option.map_some, Option.some.injEq] at hj
            subst hj
            split
            · rfl
            · exact hone j x hcj
        · rw [List.getElem?_map] at hi
          cases hz : (sortL l)[i]? with
          | none => rw [hz] at hi; cases hi
          | some z =>
            rw [hz] at hi
            simp only [Option.map_some, Option.some.injEq] at hi
            subst hi
            have hil := (List.getElem?_eq_some_iff.1 hz).1
            cases j with
            | succ j => simp [D.cells] at hj
            | zero =>
              simp only [D.cells, List.getElem?_cons_zero, Option.some.injEq] at hj
              subst hj
              have h1 := congrArg (fun t : List Value => t[i]?) htk2
              simp only [List.getElem?_map, hz, Option.map_some] at h1
              rw [List.getElem?_take_of_lt hil, Array.getElem?_toList] at h1
              rw [Nat.mul_one, Nat.add_zero, h1] at hv
              cases hv
              exact .sc _ rfl
end Go.Proofs.Ytpmmikkojpcogaa
