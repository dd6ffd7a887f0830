/- Orders that keep an old order: Run never costs more than the kept start, and keeps the old order with a great weight. The rows of these two statements. -/
import Derived.Test.YtelghbnlceeecaaRows
import Derived.Test.YtelghbnlceeecaaStV
import Derived.Test.YtelghbnlceeecaaCe
set_option linter.unusedSimpArgs false
set_option linter.unusedVariables false
namespace Go.Proofs.Ytelghbnlceeecaa
open Go Go.PS Go.ChangeShapes Go.WideShapes Go.ChangeAt Go.RowKit
set_option maxRecDepth 100000
theorem Try.own : ownKnob Try.prog.godebug = none := by kernel_rfl
theorem Try.laidOut : laidOutB Try.prog = true := by kernel_rfl
theorem arg_lists {x : D} (h : ArgOk Try.prog 22 x) : ∃ l : List (List Int), x = listsD l := by
  obtain ⟨cs, h, rfl⟩ := h
  obtain ⟨l, rfl, _⟩ := cells_lists h
  rw [ty22]; exact ⟨l, rfl⟩
theorem arg_step {x : D} (h : ArgOk Try.prog 46 x) : ∃ q : Int × Int, x = stepD q.1 q.2 := by
  obtain ⟨cs, h, rfl⟩ := h
  have h := cells_struct (ts := [3, 3]) (by kernel_rfl) h
  obtain ⟨_, _, rfl, h1, _, _, rfl, h2, rfl⟩ := h
  obtain ⟨a, rfl⟩ := cells_int h1
  obtain ⟨b, rfl⟩ := cells_int h2
  rw [ty46]
  exact ⟨(a, b), rfl⟩
theorem lawCostsA (a : {a : Lv // wide a}) (old : List (List Int)) (q : Int × Int) : CallsTo Try.prog 8 [lvD a.1, listsD old, stepD q.1 q.2] (.bool true) := lawCosts a.1 old q.1 q.2 a.2
theorem lawKeepsA (a : {a : Lv // wide a}) (old : List (List Int)) (r : Int) : CallsTo Try.prog 9 [lvD a.1, listsD old, .int r] (.bool true) := lawKeeps a.1 old r a.2
set_option maxRecDepth 100000 in
theorem costs_lifted (os : Os) (started : os.Started) (H : Type) (enc : TypeId × Value → H) :
    ReturnsInHanded {} Try.checked os 8 .any (Rows.stableCostsSpec.pre6 enc Try.prog Try.f8 [] false) (Rows.stableCostsSpec.post enc Try.prog Try.f8 false true false false) :=
  law_lifted (C := Try.checked) (tb := 4) Try.own started (by kernel_rfl) Try.func8
    (ChangeSpec.witness6 (enc := enc) (C := Try.checked) false ⟨#[], #[.agg #[.int .i64 0, .slice none 0 0, .slice none 0 0, .slice none 0 0], .slice none 0 0, .agg #[.int .i64 0, .int .i64 0]], []⟩ 8 (by kernel_rfl) (by kernel_rfl) (by kernel_rfl) (by kernel_rfl)) Try.laidOut (by kernel_rfl) (by kernel_rfl) (by kernel_rfl) rfl
    (fun ds h => by
      match ds, h with
      | [d0, d1, d2], _ => rfl)
    (fun xs hl ha => by
      match xs, hl with
      | [x0, x1, x2], _ =>
        obtain ⟨y0, rfl⟩ := arg_lv (ha 0 25 x0 (by kernel_rfl) rfl)
        obtain ⟨y1, rfl⟩ := arg_lists (ha 1 22 x1 (by kernel_rfl) rfl)
        obtain ⟨y2, rfl⟩ := arg_step (ha 2 46 x2 (by kernel_rfl) rfl)
        exact lawCostsA y0 y1 y2)
theorem costs_holds : Rows.StableCostsSaid :=
  OpenClaim.holds_of_wide 8 Try.f8 rfl rfl rfl rfl rfl rfl rfl ⟨rfl, rfl, rfl, rfl, rfl⟩ rfl rfl rfl rfl rfl (by kernel_rfl) Try.func8 (by kernel_rfl)
    (of_decide_eq_true (by kernel_rfl)) (by unfold Func.isWrapper; first | (rw [if_pos (by decide +kernel)]; kernel_rfl) | (rw [if_neg (by decide +kernel)]; exact ⟨rfl, rfl⟩))
    (fun os started H enc _ => costs_lifted os started H enc)
set_option maxRecDepth 100000 in
theorem keeps_lifted (os : Os) (started : os.Started) (H : Type) (enc : TypeId × Value → H) :
    ReturnsInHanded {} Try.checked os 9 .any (Rows.stableKeepsSpec.pre6 enc Try.prog Try.f9 [] false) (Rows.stableKeepsSpec.post enc Try.prog Try.f9 false true false false) :=
  law_lifted (C := Try.checked) (tb := 4) Try.own started (by kernel_rfl) Try.func9
    (ChangeSpec.witness6 (enc := enc) (C := Try.checked) false ⟨#[], #[.agg #[.int .i64 0, .slice none 0 0, .slice none 0 0, .slice none 0 0], .slice none 0 0, .int .i64 0], []⟩ 8 (by kernel_rfl) (by kernel_rfl) (by kernel_rfl) (by kernel_rfl)) Try.laidOut (by kernel_rfl) (by kernel_rfl) (by kernel_rfl) rfl
    (fun ds h => by
      match ds, h with
      | [d0, d1, d2], _ => rfl)
    (fun xs hl ha => by
      match xs, hl with
      | [x0, x1, x2], _ =>
        obtain ⟨y0, rfl⟩ := arg_lv (ha 0 25 x0 (by kernel_rfl) rfl)
        obtain ⟨y1, rfl⟩ := arg_lists (ha 1 22 x1 (by kernel_rfl) rfl)
        obtain ⟨y2, rfl⟩ := arg_int (ha 2 3 x2 (by kernel_rfl) rfl)
        exact lawKeepsA y0 y1 y2)
theorem keeps_holds : Rows.StableKeepsSaid :=
  OpenClaim.holds_of_wide 9 Try.f9 rfl rfl rfl rfl rfl rfl rfl ⟨rfl, rfl, rfl, rfl, rfl⟩ rfl rfl rfl rfl rfl (by kernel_rfl) Try.func9 (by kernel_rfl)
    (of_decide_eq_true (by kernel_rfl)) (by unfold Func.isWrapper; first | (rw [if_pos (by decide +kernel)]; kernel_rfl) | (rw [if_neg (by decide +kernel)]; exact ⟨rfl, rfl⟩))
    (fun os started H enc _ => keeps_lifted os started H enc)
end Go.Proofs.Ytelghbnlceeecaa
