/- Barycenters: means are compared exactly; layers, sweeps and runs agree with the specification, keep what they say and never make more crossings. The rows of these five statements. -/
import Derived.Test.YtldbcbclhpcofaaRows
import Derived.Test.YtldbcbclhpcofaaBaG
import Derived.Test.YtldbcbclhpcofaaCf
set_option linter.unusedSimpArgs false
set_option linter.unusedVariables false
namespace Go.Proofs.Ytldbcbclhpcofaa
open Go Go.PS Go.ChangeShapes Go.WideShapes Go.ChangeAt Go.RowKit
set_option maxRecDepth 100000
theorem Try.own : ownKnob Try.prog.godebug = none := by kernel_rfl
theorem Try.laidOut : laidOutB Try.prog = true := by kernel_rfl
theorem lawLayersA (a : {a : Lv // wide a}) (i f : Int) : CallsTo Try.prog 4 [lvD a.1, .int i, .int f] (.bool true) := lawLayersB a.1 i f a.2
theorem lawKeepsA (a : {a : Lv // wide a}) (i f : Int) : CallsTo Try.prog 6 [lvD a.1, .int i, .int f] (.bool true) := lawKeepsB a.1 i f a.2
theorem lawImprovesA (a : {a : Lv // wide a}) (r : Int) : CallsTo Try.prog 5 [lvD a.1, .int r] (.bool true) := lawImproves a.1 r a.2
theorem lawSweepsA (a : {a : Lv // wide a}) (r : Int) : CallsTo Try.prog 7 [lvD a.1, .int r] (.bool true) := lawSweeps a.1 r a.2
set_option maxRecDepth 100000 in
theorem compares_lifted (os : Os) (started : os.Started) (H : Type) (enc : TypeId × Value → H) :
  ReturnsInHanded {} Try.checked os 3 .any (Rows.baryComparesSpec.pre6 enc Try.prog Try.f3 [] false) (Rows.baryComparesSpec.post enc Try.prog Try.f3 false true false false) :=
 law_lifted (C := Try.checked) (tb := 4) Try.own started (by kernel_rfl) Try.func3
  (ChangeSpec.witness6 (enc := enc) (C := Try.checked) false ⟨#[], #[.slice none 0 0, .slice none 0 0], []⟩ 8 (by kernel_rfl) (by kernel_rfl) (by kernel_rfl) (by kernel_rfl)) Try.laidOut (by kernel_rfl) (by kernel_rfl) (by kernel_rfl) rfl
  (fun ds h => by
   match ds, h with
   | [d0, d1], _ => rfl)
  (fun xs hl ha => by
   match xs, hl with
   | [x0, x1], _ =>
    obtain ⟨y0, rfl⟩ := arg_ints (ha 0 22 x0 (by kernel_rfl) rfl)
    obtain ⟨y1, rfl⟩ := arg_ints (ha 1 22 x1 (by kernel_rfl) rfl)
    exact lawCompares y0 y1)
theorem compares_holds : Rows.BaryComparesSaid :=
 OpenClaim.holds_of_wide 3 Try.f3 rfl rfl rfl rfl rfl rfl rfl ⟨rfl, rfl, rfl, rfl, rfl⟩ rfl rfl rfl rfl rfl (by kernel_rfl) Try.func3 (by kernel_rfl)
  (of_decide_eq_true (by kernel_rfl)) (by unfold Func.isWrapper; first | (rw [if_pos (by decide +kernel)]; kernel_rfl) | (rw [if_neg (by decide +kernel)]; exact ⟨rfl, rfl⟩))
  (fun os started H enc _ => compares_lifted os started H enc)
set_option maxRecDepth 100000 in
theorem layers_lifted (os : Os) (started : os.Started) (H : Type) (enc : TypeId × Value → H) :
  ReturnsInHanded {} Try.checked os 4 .any (Rows.baryLayersSpec.pre6 enc Try.prog Try.f4 [] false) (Rows.baryLayersSpec.post enc Try.prog Try.f4 false true false false) :=
 law_lifted (C := Try.checked) (tb := 4) Try.own started (by kernel_rfl) Try.func4
  (ChangeSpec.witness6 (enc := enc) (C := Try.checked) false ⟨#[], #[.agg #[.int .i64 0, .slice none 0 0, .slice none 0 0, .slice none 0 0], .int .i64 0, .int .i64 0], []⟩ 8 (by kernel_rfl) (by kernel_rfl) (by kernel_rfl) (by kernel_rfl)) Try.laidOut (by kernel_rfl) (by kernel_rfl) (by kernel_rfl) rfl
  (fun ds h => by
   match ds, h with
   | [d0, d1, d2], _ => rfl)
  (fun xs hl ha => by
   match xs, hl with
   | [x0, x1, x2], _ =>
    obtain ⟨y0, rfl⟩ := arg_lv (ha 0 29 x0 (by kernel_rfl) rfl)
    obtain ⟨y1, rfl⟩ := arg_int (ha 1 3 x1 (by kernel_rfl) rfl)
    obtain ⟨y2, rfl⟩ := arg_int (ha 2 3 x2 (by kernel_rfl) rfl)
    exact lawLayersA y0 y1 y2)
theorem layers_holds : Rows.BaryLayersSaid :=
 OpenClaim.holds_of_wide 4 Try.f4 rfl rfl rfl rfl rfl rfl rfl ⟨rfl, rfl, rfl, rfl, rfl⟩ rfl rfl rfl rfl rfl (by kernel_rfl) Try.func4 (by kernel_rfl)
  (of_decide_eq_true (by kernel_rfl)) (by unfold Func.isWrapper; first | (rw [if_pos (by decide +kernel)]; kernel_rfl) | (rw [if_neg (by decide +kernel)]; exact ⟨rfl, rfl⟩))
  (fun os started H enc _ => layers_lifted os started H enc)
set_option maxRecDepth 100000 in
theorem improves_lifted (os : Os) (started : os.Started) (H : Type) (enc : TypeId × Value → H) :
  ReturnsInHanded {} Try.checked os 5 .any (Rows.baryImprovesSpec.pre6 enc Try.prog Try.f5 [] false) (Rows.baryImprovesSpec.post enc Try.prog Try.f5 false true false false) :=
 law_lifted (C := Try.checked) (tb := 4) Try.own started (by kernel_rfl) Try.func5
  (ChangeSpec.witness6 (enc := enc) (C := Try.checked) false ⟨#[], #[.agg #[.int .i64 0, .slice none 0 0, .slice none 0 0, .slice none 0 0], .int .i64 0], []⟩ 8 (by kernel_rfl) (by kernel_rfl) (by kernel_rfl) (by kernel_rfl)) Try.laidOut (by kernel_rfl) (by kernel_rfl) (by kernel_rfl) rfl
  (fun ds h => by
   match ds, h with
   | [d0, d1], _ => rfl)
  (fun xs hl ha => by
   match xs, hl with
   | [x0, x1], _ =>
    obtain ⟨y0, rfl⟩ := arg_lv (ha 0 29 x0 (by kernel_rfl) rfl)
    obtain ⟨y1, rfl⟩ := arg_int (ha 1 3 x1 (by kernel_rfl) rfl)
    exact lawImprovesA y0 y1)
theorem improves_holds : Rows.BaryImprovesSaid :=
 OpenClaim.holds_of_wide 5 Try.f5 rfl rfl rfl rfl rfl rfl rfl ⟨rfl, rfl, rfl, rfl, rfl⟩ rfl rfl rfl rfl rfl (by kernel_rfl) Try.func5 (by kernel_rfl)
  (of_decide_eq_true (by kernel_rfl)) (by unfold Func.isWrapper; first | (rw [if_pos (by decide +kernel)]; kernel_rfl) | (rw [if_neg (by decide +kernel)]; exact ⟨rfl, rfl⟩))
  (fun os started H enc _ => improves_lifted os started H enc)
set_option maxRecDepth 100000 in
theorem keeps_lifted (os : Os) (started : os.Started) (H : Type) (enc : TypeId × Value → H) :
  ReturnsInHanded {} Try.checked os 6 .any (Rows.baryKeepsSpec.pre6 enc Try.prog Try.f6 [] false) (Rows.baryKeepsSpec.post enc Try.prog Try.f6 false true false false) :=
 law_lifted (C := Try.checked) (tb := 4) Try.own started (by kernel_rfl) Try.func6
  (ChangeSpec.witness6 (enc := enc) (C := Try.checked) false ⟨#[], #[.agg #[.int .i64 0, .slice none 0 0, .slice none 0 0, .slice none 0 0], .int .i64 0, .int .i64 0], []⟩ 8 (by kernel_rfl) (by kernel_rfl) (by kernel_rfl) (by kernel_rfl)) Try.laidOut (by kernel_rfl) (by kernel_rfl) (by kernel_rfl) rfl
  (fun ds h => by
   match ds, h with
   | [d0, d1, d2], _ => rfl)
  (fun xs hl ha => by
   match xs, hl with
   | [x0, x1, x2], _ =>
    obtain ⟨y0, rfl⟩ := arg_lv (ha 0 29 x0 (by kernel_rfl) rfl)
    obtain ⟨y1, rfl⟩ := arg_int (ha 1 3 x1 (by kernel_rfl) rfl)
    obtain ⟨y2, rfl⟩ := arg_int (ha 2 3 x2 (by kernel_rfl) rfl)
    exact lawKeepsA y0 y1 y2)
theorem keeps_holds : Rows.BaryKeepsSaid :=
 OpenClaim.holds_of_wide 6 Try.f6 rfl rfl rfl rfl rfl rfl rfl ⟨rfl, rfl, rfl, rfl, rfl⟩ rfl rfl rfl rfl rfl (by kernel_rfl) Try.func6 (by kernel_rfl)
  (of_decide_eq_true (by kernel_rfl)) (by unfold Func.isWrapper; first | (rw [if_pos (by decide +kernel)]; kernel_rfl) | (rw [if_neg (by decide +kernel)]; exact ⟨rfl, rfl⟩))
  (fun os started H enc _ => keeps_lifted os started H enc)
set_option maxRecDepth 100000 in
theorem sweeps_lifted (os : Os) (started : os.Started) (H : Type) (enc : TypeId × Value → H) :
  ReturnsInHanded {} Try.checked os 7 .any (Rows.barySweepsSpec.pre6 enc Try.prog Try.f7 [] false) (Rows.barySweepsSpec.post enc Try.prog Try.f7 false true false false) :=
 law_lifted (C := Try.checked) (tb := 4) Try.own started (by kernel_rfl) Try.func7
  (ChangeSpec.witness6 (enc := enc) (C := Try.checked) false ⟨#[], #[.agg #[.int .i64 0, .slice none 0 0, .slice none 0 0, .slice none 0 0], .int .i64 0], []⟩ 8 (by kernel_rfl) (by kernel_rfl) (by kernel_rfl) (by kernel_rfl)) Try.laidOut (by kernel_rfl) (by kernel_rfl) (by kernel_rfl) rfl
  (fun ds h => by
   match ds, h with
   | [d0, d1], _ => rfl)
  (fun xs hl ha => by
   match xs, hl with
   | [x0, x1], _ =>
    obtain ⟨y0, rfl⟩ := arg_lv (ha 0 29 x0 (by kernel_rfl) rfl)
    obtain ⟨y1, rfl⟩ := arg_int (ha 1 3 x1 (by kernel_rfl) rfl)
    exact lawSweepsA y0 y1)
theorem sweeps_holds : Rows.BarySweepsSaid :=
 OpenClaim.holds_of_wide 7 Try.f7 rfl rfl rfl rfl rfl rfl rfl ⟨rfl, rfl, rfl, rfl, rfl⟩ rfl rfl rfl rfl rfl (by kernel_rfl) Try.func7 (by kernel_rfl)
  (of_decide_eq_true (by kernel_rfl)) (by unfold Func.isWrapper; first | (rw [if_pos (by decide +kernel)]; kernel_rfl) | (rw [if_neg (by decide +kernel)]; exact ⟨rfl, rfl⟩))
  (fun os started H enc _ => sweeps_lifted os started H enc)
end Go.Proofs.Ytldbcbclhpcofaa
