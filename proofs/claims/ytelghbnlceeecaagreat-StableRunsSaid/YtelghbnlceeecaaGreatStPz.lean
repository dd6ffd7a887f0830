/- Orders that keep an old order: Run agrees with the specification. The row of this statement. -/
import Derived.Test.YtelghbnlceeecaaGreatRows
import Derived.Test.YtelghbnlceeecaaGreatStT
import Derived.Test.YtelghbnlceeecaaGreatCn
set_option linter.unusedSimpArgs false
set_option linter.unusedVariables false
namespace Go.Proofs.YtelghbnlceeecaaGreat
open Go Go.PS Go.ChangeShapes Go.WideShapes Go.ChangeAt Go.RowKit
set_option maxRecDepth 100000
theorem Tryz.own : ownKnob Tryz.prog.godebug = none := by kernel_rfl
theorem Tryz.laidOut : laidOutB Tryz.prog = true := by kernel_rfl
theorem arg_lists {x : D} (h : ArgOk Tryz.prog 22 x) : ∃ l : List (List Int), x = listsD l := by
  obtain ⟨cs, h, rfl⟩ := h
  obtain ⟨l, rfl, _⟩ := cells_lists h
  rw [ty22]; exact ⟨l, rfl⟩
theorem arg_step {x : D} (h : ArgOk Tryz.prog 27 x) : ∃ q : Int × Int, x = stepD q.1 q.2 := by
  obtain ⟨cs, h, rfl⟩ := h
  have h := cells_struct (ts := [3, 3]) (by kernel_rfl) h
  obtain ⟨_, _, rfl, h1, _, _, rfl, h2, rfl⟩ := h
  obtain ⟨a, rfl⟩ := cells_int h1
  obtain ⟨b, rfl⟩ := cells_int h2
  rw [ty27]
  exact ⟨(a, b), rfl⟩
theorem lawRunsA (a : {a : Lv // wide a}) (old : List (List Int)) (q : Int × Int) : CallsTo Tryz.prog 3 [lvD a.1, listsD old, stepD q.1 q.2] (.bool true) := lawRuns a.1 old q.1 q.2 a.2
set_option maxRecDepth 100000 in
theorem runs_lifted (os : Os) (started : os.Started) (H : Type) (enc : TypeId × Value → H) :
    ReturnsInHanded {} Tryz.checked os 3 .any (Rows.stableRunsSpec.pre6 enc Tryz.prog Tryz.f3 [] false) (Rows.stableRunsSpec.post enc Tryz.prog Tryz.f3 false true false false) :=
  law_lifted (C := Tryz.checked) (tb := 4) Tryz.own started (by kernel_rfl) Tryz.func3
    (ChangeSpec.witness6 (enc := enc) (C := Tryz.checked) false ⟨#[], #[.agg #[.int .i64 0, .slice none 0 0, .slice none 0 0, .slice none 0 0], .slice none 0 0, .agg #[.int .i64 0, .int .i64 0]], []⟩ 8 (by kernel_rfl) (by kernel_rfl) (by kernel_rfl) (by kernel_rfl)) Tryz.laidOut (by kernel_rfl) (by kernel_rfl) (by kernel_rfl) rfl
    (fun ds h => by
      match ds, h with
      | [d0, d1, d2], _ => rfl)
    (fun xs hl ha => by
      match xs, hl with
      | [x0, x1, x2], _ =>
        obtain ⟨y0, rfl⟩ := arg_lv (ha 0 25 x0 (by kernel_rfl) rfl)
        obtain ⟨y1, rfl⟩ := arg_lists (ha 1 22 x1 (by kernel_rfl) rfl)
        obtain ⟨y2, rfl⟩ := arg_step (ha 2 27 x2 (by kernel_rfl) rfl)
        exact lawRunsA y0 y1 y2)
theorem runs_holds : Rows.StableRunsSaid :=
  OpenClaim.holds_of_wide 3 Tryz.f3 rfl rfl rfl rfl rfl rfl rfl ⟨rfl, rfl, rfl, rfl, rfl⟩ rfl rfl rfl rfl rfl (by kernel_rfl) Tryz.func3 (by kernel_rfl)
    (of_decide_eq_true (by kernel_rfl)) (by unfold Func.isWrapper; first | (rw [if_pos (by decide +kernel)]; kernel_rfl) | (rw [if_neg (by decide +kernel)]; exact ⟨rfl, rfl⟩))
    (fun os started H enc _ => runs_lifted os started H enc)
end Go.Proofs.YtelghbnlceeecaaGreat
