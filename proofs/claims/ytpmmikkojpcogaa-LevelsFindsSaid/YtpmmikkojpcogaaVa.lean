/- Sorting in place: the library's sort, as the kit has proved it, on a row of the caller's own. -/
import Derived.Test.YtpmmikkojpcogaaA
import Derived.Shelf.Sort.Plain
import Derived.Shelf.Slices.In.SortNone
import Derived.Sort.OwnSortedInts
import Derived.Shelf.Lay
import Derived.Ground.NamesProg
namespace Go.Proofs
open Go.Shelf
shelf_lay Lays.n189 Nm 189 at Try as Try.laysSort
end Go.Proofs
namespace Go.Proofs.Ytpmmikkojpcogaa
open Go Go.PS Go.Proofs Go.Sort Go.RowKit
abbrev intsL (l : List Int) : List D := l.map D.int
def sortL (l : List Int) : List Int := l.mergeSort fun x y => decide (x ≤ y)
theorem sortL_len (l : List Int) : (sortL l).length = l.length := by simp [sortL]
theorem row_cells {w : World} {ι : Nat → Option Nat} {X : Nat → Prop} {c : Array Value} {l : List Int} (hsz : (intsL l).length * 1 ≤ c.size)
    (h : ∀ (i : Nat) d (j : Nat) e v, (intsL l)[i]? = some d → d.cells[j]? = some e → c[i * 1 + j]? = some v → D.At w (ownX ι X) e v) : c.toList.take l.length = l.map (Value.int .i64) := by
  rw [List.length_map, Nat.mul_one] at hsz
  refine List.ext_getElem? fun i => ?_
  rcases Nat.lt_or_ge i l.length with hi | hi
  · rw [List.getElem?_take_of_lt hi, Array.getElem?_toList, List.getElem?_map, List.getElem?_eq_getElem hi]
    obtain ⟨x, hx⟩ : ∃ x, c[i]? = some x := ⟨_, Array.getElem?_eq_getElem (by omega)⟩
    have := h i (D.int l[i]) 0 (D.int l[i]) x (by rw [List.getElem?_map, List.getElem?_eq_getElem hi]; rfl) rfl (by rw [Nat.mul_one, Nat.add_zero]; exact hx)
    rw [hx]
    cases this
    rfl
  · rw [List.getElem?_eq_none (by simp; omega), List.getElem?_eq_none (by simp; omega)]
theorem Sort_spec (l : List Int) (hl : l.length < 4611686018427387904) :
    CallsM Try.prog 76 [.ref 1000 1 0 l.length l.length] [(1000, .row 1 (intsL l))] (.tup []) [(1000, .row 1 (intsL (sortL l)))] := by
  refine ⟨⟨_, Try.func76, rfl, by decide +kernel⟩, fun w ι X vs hX hinj hlt hsz hat hobs hdom => ?_⟩
  obtain ⟨v, rfl⟩ : ∃ v, vs = #[v] := by
    have : vs.size = 1 := hsz
    refine ⟨vs[0], Array.ext (by simp [this]) fun i h1 h2 => ?_⟩
    have : i = 0 := by simp at h2; omega
    subst this; rfl
  have hv := hat 0 _ v rfl rfl
  have ho := hobs 1000
  have hdead : ∀ o, o ≠ 1000 → ∀ r, obOf [(1000, r)] o = .dead := fun o h r => by simp [obOf, upd, h]
  have hsame : ∀ r, obOf [(1000, r)] 1000 = r := fun r => rfl
  rw [hsame] at ho
  have hnone : ∀ o, o ≠ 1000 → ι o = none := fun o h => by
    have := hobs o
    rw [hdead o h] at this
    cases this with | dead h => exact h
  have hpost : ∀ w', w.grownBy w' (ι 1000) → (∀ b, ι 1000 = some b → bsz w' b = bsz w b) → Ob.At w' ι X 1000 (.row 1 (intsL (sortL l))) →
      ∃ v ι', Ending.returned (.tuple #[]) = .returned v ∧ PV.At w' ι' X (.tup []) v ∧ (∀ o, Ob.At w' ι' X o (obOf [(1000, .row 1 (intsL (sortL l)))] o)) ∧ (∀ o b, ι' o = some b → o ∈ [(1000, Ob.row 1 (intsL (sortL l)))].map (·.1)) ∧
      (∀ o o' b, obOf [(1000, .row 1 (intsL (sortL l)))] o ≠ .gone → obOf [(1000, .row 1 (intsL (sortL l)))] o' ≠ .gone → ι' o = some b → ι' o' = some b → o = o') ∧ (∀ o b, ι' o = some b → ¬ X b ∧ ((∃ o', ι o' = some b) ∨ w.heap.size ≤ b) ∧ b < w'.heap.size) ∧
      w'.os = w.os ∧ w'.tape = w.tape ∧ w'.output = w.output ∧ w.heap.size ≤ w'.heap.size ∧
      (∀ b, b < w.heap.size → (∀ o, ι o ≠ some b) → w'.heap[b]? = w.heap[b]?) ∧
      (∀ o b, ι o = some b → ι' o = some b ∧ bsz w' b = bsz w b) := by
    rintro w' ⟨g1, g2, g3, g4, g5⟩ hb hrow
    refine ⟨_, ι, rfl, .tup [] #[] rfl (fun j d v hj => by simp at hj), fun o => ?_, fun o b h => hdom o b h, fun o o' b _ _ h h' => ?_, fun o b h => ⟨fun hx => (hX b hx).2 o h, .inl ⟨o, h⟩, by have := hlt o b h; omega⟩, g1, g2, g3, g4, fun b hbs hn => g5 b hbs fun h => hn 1000 h.symm, fun o b h => ⟨h, ?_⟩⟩
    · by_cases h : o = 1000
      · subst h; exact hrow
      · rw [hdead o h]; exact .dead (hnone o h)
    · have e1 : o = 1000 := Classical.byContradiction fun hne => by rw [hnone o hne] at h; cases h
      have e2 : o' = 1000 := Classical.byContradiction fun hne => by rw [hnone o' hne] at h'; cases h'
      rw [e1, e2]
    · have e1 : o = 1000 := Classical.byContradiction fun hne => by rw [hnone o hne] at h; cases h
      subst e1; exact hb b h
  generalize hn : l.length = n at hv
  cases hv with
  | ref0 _ _ _ base =>
    have : l = [] := List.length_eq_zero_iff.1 hn
    subst this
    refine (Any.slices_Sort_int_none Try.laysSort base 0 w).mono ?_
    rintro e w' ⟨rfl, rfl⟩
    exact hpost w' ⟨rfl, rfl, rfl, Nat.le_refl _, fun _ _ _ => rfl⟩ (fun _ _ => rfl) (by rw [show sortL [] = [] by simp [sortL]]; exact ho)
  | ref _ _ _ _ _ capr b hι hlc hc hm hs =>
    generalize hL : intsL l = L at ho
    cases ho with
    | row0 _ h => rw [h] at hι; cases hι
    | row _ _ b' c T hι' hb hszc hcl hone h =>
      subst hL
      obtain rfl : b' = b := by rw [hι] at hι'; exact (Option.some.inj hι').symm
      have htk := row_cells hszc h
      subst hn
      rw [Nat.zero_mul]
      refine (Any.slices_Sort_int Try.laysSort b' 0 capr l w (holds_of_blockI hb htk) (hlt 1000 b' hι) hl).mono ?_
      rintro e w' ⟨rfl, k, os, rfl⟩
      have hh := heap_sortedI (n := k) (os := os) (sortL l).toArray hb
      have hg := grownBy_sortedI (w := w) (g := b') (n := k) (os := os) (sortL l).toArray
      have hle : (sortL l).length ≤ c.size := by rw [sortL_len]; simpa using hszc
      have htk2 := take_putCellsI c (sortL l) hle
      have hpsz : (putCells (Value.int .i64) 0 (sortL l).toArray c).size = c.size := by simp [putCells]
      refine hpost _ (by rw [hι]; exact hg) (fun b hb2 => ?_) ?_
      · rw [hι] at hb2; cases hb2
        show bsz _ b' = bsz w b'
        simp only [bsz]
        rw [show (grow (putRow (Value.int .i64) (Sort.ahead w k) b' 0 (l.mergeSort fun x y => decide (x ≤ y)).toArray) os).heap[b']? = _ from hh, hb]
        exact hpsz
      · refine .row 1 _ b' _ T hι hh (by rw [hpsz, List.length_map, Nat.mul_one]; exact hle) (fun d hd => by obtain ⟨z, _, rfl⟩ := List.mem_map.1 hd; rfl) (fun j v hj => ?_) (fun i d j e v hi hj hv => ?_)
        · simp only [putCells, Array.getElem?_mapIdx] at hj
          cases hcj : c[j]? with
          | none => rw [hcj] at hj; cases hj
          | some x =>
            rw [hcj] at hj
            simp only [Option.map_some, Option.some.injEq] at hj
            subst hj
            split
            · rfl
            · exact hone j x hcj
        · rw [List.getElem?_map] at hi
          cases hz : (sortL l)[i]? with
          | none => rw [hz] at hi; cases hi
          | some z =>
            rw [hz] at hi
            simp only [Option.map_some, Option.some.injEq] at hi
            subst hi
            have hil := (List.getElem?_eq_some_iff.1 hz).1
            cases j with
            | succ j => simp [D.cells] at hj
            | zero =>
              simp only [D.cells, List.getElem?_cons_zero, Option.some.injEq] at hj
              subst hj
              have h1 := congrArg (fun t : List Value => t[i]?) htk2
              simp only [List.getElem?_map, hz, Option.map_some] at h1
              rw [List.getElem?_take_of_lt hil, Array.getElem?_toList] at h1
              rw [Nat.mul_one, Nat.add_zero, h1] at hv
              cases hv
              exact .sc _ rfl
end Go.Proofs.Ytpmmikkojpcogaa
