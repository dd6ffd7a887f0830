/- The law on matrices of crossings: its row. -/
import Derived.Test.YtpmmikkojpcogaaRows
import Derived.Test.YtpmmikkojpcogaaCn
import Derived.Test.YtpmmikkojpcogaaO
namespace Go.Proofs.Ytpmmikkojpcogaa
open Go Go.PS Go.ChangeShapes Go.WideShapes Go.ChangeAt Go.RowKit
theorem Try.own : ownKnob Try.prog.godebug = none := by kernel_rfl
theorem Try.laidOut : laidOutB Try.prog = true := by kernel_rfl
theorem lawMatricesA (a : {a : Lv // wide a}) (i f : Int) : CallsTo Try.prog 10 [lvD a.1, .int i, .int f] (.bool true) := lawMatrices a.1 i f a.2
set_option maxRecDepth 100000 in
theorem matrices_lifted (os : Os) (started : os.Started) (H : Type) (enc : TypeId × Value → H) :
    ReturnsInHanded {} Try.checked os 10 .any (Rows.crossMatricesSpec.pre6 enc Try.prog Try.f10 [] false) (Rows.crossMatricesSpec.post enc Try.prog Try.f10 false true false false) :=
  law_lifted (C := Try.checked) (tb := 4) Try.own started (by kernel_rfl) Try.func10
    (ChangeSpec.witness6 (enc := enc) (C := Try.checked) false ⟨#[], #[.agg #[.int .i64 0, .slice none 0 0, .slice none 0 0, .slice none 0 0], .int .i64 0, .int .i64 0], []⟩ 8 (by kernel_rfl) (by kernel_rfl) (by kernel_rfl) (by kernel_rfl)) Try.laidOut (by kernel_rfl) (by kernel_rfl) (by kernel_rfl) rfl
    (fun ds h => by
      match ds, h with
      | [d0, d1, d2], _ => rfl)
    (fun xs hl ha => by
      match xs, hl with
      | [x0, x1, x2], _ =>
        obtain ⟨y0, rfl⟩ := arg_lv (ha 0 28 x0 (by kernel_rfl) rfl)
        obtain ⟨y1, rfl⟩ := arg_int (ha 1 3 x1 (by kernel_rfl) rfl)
        obtain ⟨y2, rfl⟩ := arg_int (ha 2 3 x2 (by kernel_rfl) rfl)
        exact lawMatricesA y0 y1 y2)
theorem matrices_holds : Rows.CrossMatricesSaid :=
  OpenClaim.holds_of_wide 10 Try.f10 rfl rfl rfl rfl rfl rfl rfl ⟨rfl, rfl, rfl, rfl, rfl⟩ rfl rfl rfl rfl rfl (by kernel_rfl) Try.func10 (by kernel_rfl)
    (of_decide_eq_true (by kernel_rfl)) (by unfold Func.isWrapper; first | (rw [if_pos (by decide +kernel)]; kernel_rfl) | (rw [if_neg (by decide +kernel)]; exact ⟨rfl, rfl⟩))
    (fun os started H enc _ => matrices_lifted os started H enc)
end Go.Proofs.Ytpmmikkojpcogaa
