/- Ordering: Exact, Optimal and Refine agree with the specification. The rows of these two statements. -/
import Derived.Test.YtldbcbclhpcofaaGreatRows
import Derived.Test.YtldbcbclhpcofaaGreatOrF
import Derived.Test.YtldbcbclhpcofaaGreatS
set_option linter.unusedSimpArgs false
set_option linter.unusedVariables false
namespace Go.Proofs.YtldbcbclhpcofaaGreat
open Go Go.PS Go.ChangeShapes Go.WideShapes Go.ChangeAt Go.RowKit
set_option maxRecDepth 100000
theorem Tryz.own : ownKnob Tryz.prog.godebug = none := by kernel_rfl
theorem Tryz.laidOut : laidOutB Tryz.prog = true := by kernel_rfl
theorem lawExactA (a : {a : Lv // wide a}) (i f : Int) : CallsTo Tryz.prog 3 [lvD a.1, .int i, .int f] (.bool true) := lawExact a.1 i f a.2
theorem lawRefinesA (a : {a : Lv // wide a}) : CallsTo Tryz.prog 4 [lvD a.1] (.bool true) := lawRefines a.1 a.2
set_option maxRecDepth 100000 in
theorem exact_lifted (os : Os) (started : os.Started) (H : Type) (enc : TypeId × Value → H) :
  ReturnsInHanded {} Tryz.checked os 3 .any (Rows.orderingExactSpec.pre6 enc Tryz.prog Tryz.f3 [] false) (Rows.orderingExactSpec.post enc Tryz.prog Tryz.f3 false true false false) :=
 law_lifted (C := Tryz.checked) (tb := 4) Tryz.own started (by kernel_rfl) Tryz.func3
  (ChangeSpec.witness6 (enc := enc) (C := Tryz.checked) false ⟨#[], #[.agg #[.int .i64 0, .slice none 0 0, .slice none 0 0, .slice none 0 0], .int .i64 0, .int .i64 0], []⟩ 8 (by kernel_rfl) (by kernel_rfl) (by kernel_rfl) (by kernel_rfl)) Tryz.laidOut (by kernel_rfl) (by kernel_rfl) (by kernel_rfl) rfl
  (fun ds h => by
   match ds, h with
   | [d0, d1, d2], _ => rfl)
  (fun xs hl ha => by
   match xs, hl with
   | [x0, x1, x2], _ =>
    obtain ⟨y0, rfl⟩ := arg_lv (ha 0 25 x0 (by kernel_rfl) rfl)
    obtain ⟨y1, rfl⟩ := arg_int (ha 1 3 x1 (by kernel_rfl) rfl)
    obtain ⟨y2, rfl⟩ := arg_int (ha 2 3 x2 (by kernel_rfl) rfl)
    exact lawExactA y0 y1 y2)
theorem exact_holds : Rows.OrderingExactSaid :=
 OpenClaim.holds_of_wide 3 Tryz.f3 rfl rfl rfl rfl rfl rfl rfl ⟨rfl, rfl, rfl, rfl, rfl⟩ rfl rfl rfl rfl rfl (by kernel_rfl) Tryz.func3 (by kernel_rfl)
  (of_decide_eq_true (by kernel_rfl)) (by unfold Func.isWrapper; first | (rw [if_pos (by decide +kernel)]; kernel_rfl) | (rw [if_neg (by decide +kernel)]; exact ⟨rfl, rfl⟩))
  (fun os started H enc _ => exact_lifted os started H enc)
set_option maxRecDepth 100000 in
theorem refines_lifted (os : Os) (started : os.Started) (H : Type) (enc : TypeId × Value → H) :
  ReturnsInHanded {} Tryz.checked os 4 .any (Rows.orderingRefinesSpec.pre6 enc Tryz.prog Tryz.f4 [] false) (Rows.orderingRefinesSpec.post enc Tryz.prog Tryz.f4 false true false false) :=
 law_lifted (C := Tryz.checked) (tb := 4) Tryz.own started (by kernel_rfl) Tryz.func4
  (ChangeSpec.witness6 (enc := enc) (C := Tryz.checked) false ⟨#[], #[.agg #[.int .i64 0, .slice none 0 0, .slice none 0 0, .slice none 0 0]], []⟩ 8 (by kernel_rfl) (by kernel_rfl) (by kernel_rfl) (by kernel_rfl)) Tryz.laidOut (by kernel_rfl) (by kernel_rfl) (by kernel_rfl) rfl
  (fun ds h => by
   match ds, h with
   | [d0], _ => rfl)
  (fun xs hl ha => by
   match xs, hl with
   | [x0], _ =>
    obtain ⟨y0, rfl⟩ := arg_lv (ha 0 25 x0 (by kernel_rfl) rfl)
    exact lawRefinesA y0)
theorem refines_holds : Rows.OrderingRefinesSaid :=
 OpenClaim.holds_of_wide 4 Tryz.f4 rfl rfl rfl rfl rfl rfl rfl ⟨rfl, rfl, rfl, rfl, rfl⟩ rfl rfl rfl rfl rfl (by kernel_rfl) Tryz.func4 (by kernel_rfl)
  (of_decide_eq_true (by kernel_rfl)) (by unfold Func.isWrapper; first | (rw [if_pos (by decide +kernel)]; kernel_rfl) | (rw [if_neg (by decide +kernel)]; exact ⟨rfl, rfl⟩))
  (fun os started H enc _ => refines_lifted os started H enc)
end Go.Proofs.YtldbcbclhpcofaaGreat
