/- Orders that keep an old order: Inversions, Cost and Layer agree with the specification. The rows of these three statements. -/
import Derived.Test.YtelghbnlceeecaaRows
import Derived.Test.YtelghbnlceeecaaStL
import Derived.Test.YtelghbnlceeecaaCn
namespace Go.Proofs.Ytelghbnlceeecaa
open Go Go.PS Go.ChangeShapes Go.WideShapes Go.ChangeAt Go.RowKit
set_option maxRecDepth 100000
theorem Try.own : ownKnob Try.prog.godebug = none := by kernel_rfl
theorem Try.laidOut : laidOutB Try.prog = true := by kernel_rfl
theorem arg_lists {x : D} (h : ArgOk Try.prog 22 x) : ∃ l : List (List Int), x = listsD l := by
  obtain ⟨cs, h, rfl⟩ := h
  obtain ⟨l, rfl, _⟩ := cells_lists h
  rw [ty22]; exact ⟨l, rfl⟩
theorem arg_step {x : D} (h : ArgOk Try.prog 46 x) : ∃ q : Int × Int, x = stepD q.1 q.2 := by
  obtain ⟨cs, h, rfl⟩ := h
  have h := cells_struct (ts := [3, 3]) (by kernel_rfl) h
  obtain ⟨_, _, rfl, h1, _, _, rfl, h2, rfl⟩ := h
  obtain ⟨a, rfl⟩ := cells_int h1
  obtain ⟨b, rfl⟩ := cells_int h2
  rw [ty46]
  exact ⟨(a, b), rfl⟩
theorem lawPricesA (a : {a : Lv // wide a}) (old : List (List Int)) (w : Int) : CallsTo Try.prog 6 [lvD a.1, listsD old, .int w] (.bool true) := lawPrices a.1 old w a.2
theorem lawLayersA (a : {a : Lv // wide a}) (old : List (List Int)) (q : Int × Int) : CallsTo Try.prog 7 [lvD a.1, listsD old, stepD q.1 q.2] (.bool true) := lawLayers a.1 old q.1 q.2 a.2
set_option maxRecDepth 100000 in
theorem inversions_lifted (os : Os) (started : os.Started) (H : Type) (enc : TypeId × Value → H) :
    ReturnsInHanded {} Try.checked os 5 .any (Rows.stableInversionsSpec.pre6 enc Try.prog Try.f5 [] false) (Rows.stableInversionsSpec.post enc Try.prog Try.f5 false true false false) :=
  law_lifted (C := Try.checked) (tb := 4) Try.own started (by kernel_rfl) Try.func5
    (ChangeSpec.witness6 (enc := enc) (C := Try.checked) false ⟨#[], #[.slice none 0 0, .slice none 0 0], []⟩ 8 (by kernel_rfl) (by kernel_rfl) (by kernel_rfl) (by kernel_rfl)) Try.laidOut (by kernel_rfl) (by kernel_rfl) (by kernel_rfl) rfl
    (fun ds h => by
      match ds, h with
      | [d0, d1], _ => rfl)
    (fun xs hl ha => by
      match xs, hl with
      | [x0, x1], _ =>
        obtain ⟨y0, rfl⟩ := arg_ints (ha 0 26 x0 (by kernel_rfl) rfl)
        obtain ⟨y1, rfl⟩ := arg_ints (ha 1 26 x1 (by kernel_rfl) rfl)
        exact lawInversions y0 y1)
theorem inversions_holds : Rows.StableInversionsSaid :=
  OpenClaim.holds_of_wide 5 Try.f5 rfl rfl rfl rfl rfl rfl rfl ⟨rfl, rfl, rfl, rfl, rfl⟩ rfl rfl rfl rfl rfl (by kernel_rfl) Try.func5 (by kernel_rfl)
    (of_decide_eq_true (by kernel_rfl)) (by unfold Func.isWrapper; first | (rw [if_pos (by decide +kernel)]; kernel_rfl) | (rw [if_neg (by decide +kernel)]; exact ⟨rfl, rfl⟩))
    (fun os started H enc _ => inversions_lifted os started H enc)
set_option maxRecDepth 100000 in
theorem prices_lifted (os : Os) (started : os.Started) (H : Type) (enc : TypeId × Value → H) :
    ReturnsInHanded {} Try.checked os 6 .any (Rows.stablePricesSpec.pre6 enc Try.prog Try.f6 [] false) (Rows.stablePricesSpec.post enc Try.prog Try.f6 false true false false) :=
  law_lifted (C := Try.checked) (tb := 4) Try.own started (by kernel_rfl) Try.func6
    (ChangeSpec.witness6 (enc := enc) (C := Try.checked) false ⟨#[], #[.agg #[.int .i64 0, .slice none 0 0, .slice none 0 0, .slice none 0 0], .slice none 0 0, .int .i64 0], []⟩ 8 (by kernel_rfl) (by kernel_rfl) (by kernel_rfl) (by kernel_rfl)) Try.laidOut (by kernel_rfl) (by kernel_rfl) (by kernel_rfl) rfl
    (fun ds h => by
      match ds, h with
      | [d0, d1, d2], _ => rfl)
    (fun xs hl ha => by
      match xs, hl with
      | [x0, x1, x2], _ =>
        obtain ⟨y0, rfl⟩ := arg_lv (ha 0 25 x0 (by kernel_rfl) rfl)
        obtain ⟨y1, rfl⟩ := arg_lists (ha 1 22 x1 (by kernel_rfl) rfl)
        obtain ⟨y2, rfl⟩ := arg_int (ha 2 3 x2 (by kernel_rfl) rfl)
        exact lawPricesA y0 y1 y2)
theorem prices_holds : Rows.StablePricesSaid :=
  OpenClaim.holds_of_wide 6 Try.f6 rfl rfl rfl rfl rfl rfl rfl ⟨rfl, rfl, rfl, rfl, rfl⟩ rfl rfl rfl rfl rfl (by kernel_rfl) Try.func6 (by kernel_rfl)
    (of_decide_eq_true (by kernel_rfl)) (by unfold Func.isWrapper; first | (rw [if_pos (by decide +kernel)]; kernel_rfl) | (rw [if_neg (by decide +kernel)]; exact ⟨rfl, rfl⟩))
    (fun os started H enc _ => prices_lifted os started H enc)
set_option maxRecDepth 100000 in
theorem layers_lifted (os : Os) (started : os.Started) (H : Type) (enc : TypeId × Value → H) :
    ReturnsInHanded {} Try.checked os 7 .any (Rows.stableLayersSpec.pre6 enc Try.prog Try.f7 [] false) (Rows.stableLayersSpec.post enc Try.prog Try.f7 false true false false) :=
  law_lifted (C := Try.checked) (tb := 4) Try.own started (by kernel_rfl) Try.func7
    (ChangeSpec.witness6 (enc := enc) (C := Try.checked) false ⟨#[], #[.agg #[.int .i64 0, .slice none 0 0, .slice none 0 0, .slice none 0 0], .slice none 0 0, .agg #[.int .i64 0, .int .i64 0]], []⟩ 8 (by kernel_rfl) (by kernel_rfl) (by kernel_rfl) (by kernel_rfl)) Try.laidOut (by kernel_rfl) (by kernel_rfl) (by kernel_rfl) rfl
    (fun ds h => by
      match ds, h with
      | [d0, d1, d2], _ => rfl)
    (fun xs hl ha => by
      match xs, hl with
      | [x0, x1, x2], _ =>
        obtain ⟨y0, rfl⟩ := arg_lv (ha 0 25 x0 (by kernel_rfl) rfl)
        obtain ⟨y1, rfl⟩ := arg_lists (ha 1 22 x1 (by kernel_rfl) rfl)
        obtain ⟨y2, rfl⟩ := arg_step (ha 2 46 x2 (by kernel_rfl) rfl)
        exact lawLayersA y0 y1 y2)
theorem layers_holds : Rows.StableLayersSaid :=
  OpenClaim.holds_of_wide 7 Try.f7 rfl rfl rfl rfl rfl rfl rfl ⟨rfl, rfl, rfl, rfl, rfl⟩ rfl rfl rfl rfl rfl (by kernel_rfl) Try.func7 (by kernel_rfl)
    (of_decide_eq_true (by kernel_rfl)) (by unfold Func.isWrapper; first | (rw [if_pos (by decide +kernel)]; kernel_rfl) | (rw [if_neg (by decide +kernel)]; exact ⟨rfl, rfl⟩))
    (fun os started H enc _ => layers_lifted os started H enc)
end Go.Proofs.Ytelghbnlceeecaa
