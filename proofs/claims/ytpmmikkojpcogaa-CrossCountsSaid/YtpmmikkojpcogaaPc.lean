/- Laws on crossings: their rows. -/
import Derived.Test.YtpmmikkojpcogaaRows
import Derived.Test.YtpmmikkojpcogaaCj
namespace Go.Proofs.Ytpmmikkojpcogaa
open Go Go.PS Go.ChangeShapes Go.WideShapes Go.ChangeAt Go.RowKit
theorem Try.own : ownKnob Try.prog.godebug = none := by kernel_rfl
theorem Try.laidOut : laidOutB Try.prog = true := by kernel_rfl
theorem lawSumsA (a : {a : Lv // wide a}) : CallsTo Try.prog 11 [lvD a.1] (.bool true) := lawSums a.1 a.2
theorem lawCountsA (a : {a : Lv // wide a}) (i : Int) : CallsTo Try.prog 13 [lvD a.1, .int i] (.bool true) := lawCounts a.1 i a.2
theorem lawTurnsA (a : {a : Lv // wide a}) (i k : Int) : CallsTo Try.prog 12 [lvD a.1, .int i, .int k] (.bool true) := lawTurns a.1 i k a.2
set_option maxRecDepth 100000 in
theorem sums_lifted (os : Os) (started : os.Started) (H : Type) (enc : TypeId × Value → H) :
    ReturnsInHanded {} Try.checked os 11 .any (Rows.crossSumsSpec.pre6 enc Try.prog Try.f11 [] false) (Rows.crossSumsSpec.post enc Try.prog Try.f11 false true false false) :=
  law_lifted (C := Try.checked) (tb := 4) Try.own started (by kernel_rfl) Try.func11
    (ChangeSpec.witness6 (enc := enc) (C := Try.checked) false ⟨#[], #[.agg #[.int .i64 0, .slice none 0 0, .slice none 0 0, .slice none 0 0]], []⟩ 8 (by kernel_rfl) (by kernel_rfl) (by kernel_rfl) (by kernel_rfl)) Try.laidOut (by kernel_rfl) (by kernel_rfl) (by kernel_rfl) rfl
    (fun ds h => by
      match ds, h with
      | [d0], _ => rfl)
    (fun xs hl ha => by
      match xs, hl with
      | [x0], _ =>
        obtain ⟨y0, rfl⟩ := arg_lv (ha 0 28 x0 (by kernel_rfl) rfl)
        exact lawSumsA y0)
theorem sums_holds : Rows.CrossSumsSaid :=
  OpenClaim.holds_of_wide 11 Try.f11 rfl rfl rfl rfl rfl rfl rfl ⟨rfl, rfl, rfl, rfl, rfl⟩ rfl rfl rfl rfl rfl (by kernel_rfl) Try.func11 (by kernel_rfl)
    (of_decide_eq_true (by kernel_rfl)) (by unfold Func.isWrapper; first | (rw [if_pos (by decide +kernel)]; kernel_rfl) | (rw [if_neg (by decide +kernel)]; exact ⟨rfl, rfl⟩))
    (fun os started H enc _ => sums_lifted os started H enc)
set_option maxRecDepth 100000 in
theorem turns_lifted (os : Os) (started : os.Started) (H : Type) (enc : TypeId × Value → H) :
    ReturnsInHanded {} Try.checked os 12 .any (Rows.crossTurnsSpec.pre6 enc Try.prog Try.f12 [] false) (Rows.crossTurnsSpec.post enc Try.prog Try.f12 false true false false) :=
  law_lifted (C := Try.checked) (tb := 4) Try.own started (by kernel_rfl) Try.func12
    (ChangeSpec.witness6 (enc := enc) (C := Try.checked) false ⟨#[], #[.agg #[.int .i64 0, .slice none 0 0, .slice none 0 0, .slice none 0 0], .int .i64 0, .int .i64 0], []⟩ 8 (by kernel_rfl) (by kernel_rfl) (by kernel_rfl) (by kernel_rfl)) Try.laidOut (by kernel_rfl) (by kernel_rfl) (by kernel_rfl) rfl
    (fun ds h => by
      match ds, h with
      | [d0, d1, d2], _ => rfl)
    (fun xs hl ha => by
      match xs, hl with
      | [x0, x1, x2], _ =>
        obtain ⟨y0, rfl⟩ := arg_lv (ha 0 28 x0 (by kernel_rfl) rfl)
        obtain ⟨y1, rfl⟩ := arg_int (ha 1 3 x1 (by kernel_rfl) rfl)
        obtain ⟨y2, rfl⟩ := arg_int (ha 2 3 x2 (by kernel_rfl) rfl)
        exact lawTurnsA y0 y1 y2)
theorem turns_holds : Rows.CrossTurnsSaid :=
  OpenClaim.holds_of_wide 12 Try.f12 rfl rfl rfl rfl rfl rfl rfl ⟨rfl, rfl, rfl, rfl, rfl⟩ rfl rfl rfl rfl rfl (by kernel_rfl) Try.func12 (by kernel_rfl)
    (of_decide_eq_true (by kernel_rfl)) (by unfold Func.isWrapper; first | (rw [if_pos (by decide +kernel)]; kernel_rfl) | (rw [if_neg (by decide +kernel)]; exact ⟨rfl, rfl⟩))
    (fun os started H enc _ => turns_lifted os started H enc)
set_option maxRecDepth 100000 in
theorem counts_lifted (os : Os) (started : os.Started) (H : Type) (enc : TypeId × Value → H) :
    ReturnsInHanded {} Try.checked os 13 .any (Rows.crossCountsSpec.pre6 enc Try.prog Try.f13 [] false) (Rows.crossCountsSpec.post enc Try.prog Try.f13 false true false false) :=
  law_lifted (C := Try.checked) (tb := 4) Try.own started (by kernel_rfl) Try.func13
    (ChangeSpec.witness6 (enc := enc) (C := Try.checked) false ⟨#[], #[.agg #[.int .i64 0, .slice none 0 0, .slice none 0 0, .slice none 0 0], .int .i64 0], []⟩ 8 (by kernel_rfl) (by kernel_rfl) (by kernel_rfl) (by kernel_rfl)) Try.laidOut (by kernel_rfl) (by kernel_rfl) (by kernel_rfl) rfl
    (fun ds h => by
      match ds, h with
      | [d0, d1], _ => rfl)
    (fun xs hl ha => by
      match xs, hl with
      | [x0, x1], _ =>
        obtain ⟨y0, rfl⟩ := arg_lv (ha 0 28 x0 (by kernel_rfl) rfl)
        obtain ⟨y1, rfl⟩ := arg_int (ha 1 3 x1 (by kernel_rfl) rfl)
        exact lawCountsA y0 y1)
theorem counts_holds : Rows.CrossCountsSaid :=
  OpenClaim.holds_of_wide 13 Try.f13 rfl rfl rfl rfl rfl rfl rfl ⟨rfl, rfl, rfl, rfl, rfl⟩ rfl rfl rfl rfl rfl (by kernel_rfl) Try.func13 (by kernel_rfl)
    (of_decide_eq_true (by kernel_rfl)) (by unfold Func.isWrapper; first | (rw [if_pos (by decide +kernel)]; kernel_rfl) | (rw [if_neg (by decide +kernel)]; exact ⟨rfl, rfl⟩))
    (fun os started H enc _ => counts_lifted os started H enc)
end Go.Proofs.Ytpmmikkojpcogaa
