/- Ordering: Run agrees with the specification. The row of this statement. -/
import Derived.Test.YtldbcbclhpcofaaGreatRows
import Derived.Test.YtldbcbclhpcofaaGreatOrE
import Derived.Test.YtldbcbclhpcofaaGreatCn
set_option linter.unusedSimpArgs false
set_option linter.unusedVariables false
namespace Go.Proofs.YtldbcbclhpcofaaGreat
open Go Go.PS Go.ChangeShapes Go.WideShapes Go.ChangeAt Go.RowKit
set_option maxRecDepth 100000
theorem Tryz.own : ownKnob Tryz.prog.godebug = none := by kernel_rfl
theorem Tryz.laidOut : laidOutB Tryz.prog = true := by kernel_rfl
theorem lawRunsA (a : {a : Lv // wide a}) (r : Int) : Zah Tryz.prog 5 [lvD a.1, .int r] (.bool true) := lawRuns a.1 r a.2
set_option maxRecDepth 100000 in
theorem runs_lifted (os : Os) (started : os.Started) (H : Type) (enc : TypeId × Value → H) :
  ReturnsInHanded {} Tryz.checked os 5 .any (Rows.orderingRunsSpec.pre6 enc Tryz.prog Tryz.f5 [] false) (Rows.orderingRunsSpec.post enc Tryz.prog Tryz.f5 false true false false) :=
 law_lifted (C := Tryz.checked) (tb := 4) Tryz.own started (by kernel_rfl) Tryz.func5
  (ChangeSpec.witness6 (enc := enc) (C := Tryz.checked) false ⟨#[], #[.agg #[.int .i64 0, .slice none 0 0, .slice none 0 0, .slice none 0 0], .int .i64 0], []⟩ 8 (by kernel_rfl) (by kernel_rfl) (by kernel_rfl) (by kernel_rfl)) Tryz.laidOut (by kernel_rfl) (by kernel_rfl) (by kernel_rfl) rfl
  (fun ds h => by
   match ds, h with
   | [d0, d1], _ => rfl)
  (fun xs hl ha => by
   match xs, hl with
   | [x0, x1], _ =>
    obtain ⟨y0, rfl⟩ := arg_lv (ha 0 25 x0 (by kernel_rfl) rfl)
    obtain ⟨y1, rfl⟩ := arg_int (ha 1 3 x1 (by kernel_rfl) rfl)
    exact lawRunsA y0 y1)
theorem runs_holds : Rows.OrderingRunsSaid :=
 OpenClaim.holds_of_wide 5 Tryz.f5 rfl rfl rfl rfl rfl rfl rfl ⟨rfl, rfl, rfl, rfl, rfl⟩ rfl rfl rfl rfl rfl (by kernel_rfl) Tryz.func5 (by kernel_rfl)
  (of_decide_eq_true (by kernel_rfl)) (by unfold Func.isWrapper; first | (rw [if_pos (by decide +kernel)]; kernel_rfl) | (rw [if_neg (by decide +kernel)]; exact ⟨rfl, rfl⟩))
  (fun os started H enc _ => runs_lifted os started H enc)
end Go.Proofs.YtldbcbclhpcofaaGreat
