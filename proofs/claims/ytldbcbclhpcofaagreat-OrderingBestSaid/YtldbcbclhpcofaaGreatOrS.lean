/- Ordering: no order of a layer has fewer crossings with the fixed layer than Exact. The row of this statement. -/
import Derived.Test.YtldbcbclhpcofaaGreatRows
import Derived.Test.YtldbcbclhpcofaaGreatOrC
import Derived.Test.YtldbcbclhpcofaaGreatSq
set_option linter.unusedSimpArgs false
set_option linter.unusedVariables false
namespace Go.Proofs.YtldbcbclhpcofaaGreat
open Go Go.PS Go.ChangeShapes Go.WideShapes Go.ChangeAt Go.RowKit
set_option maxRecDepth 100000
theorem Tryz.own : ownKnob Tryz.prog.godebug = none := by kernel_rfl
theorem Tryz.laidOut : laidOutB Tryz.prog = true := by kernel_rfl
theorem arg_pair {x : D} (h : ArgOk Tryz.prog 40 x) : ∃ q : Int × Int, x = .ag [.int q.1, .int q.2] := by
 obtain ⟨cs, h, rfl⟩ := h
 have h := cells_array (k := 2) (e := 3) (by kernel_rfl) h
 obtain ⟨_, _, rfl, h1, _, _, rfl, h2, rfl⟩ := h
 obtain ⟨a, rfl⟩ := cells_int h1
 obtain ⟨b, rfl⟩ := cells_int h2
 rw [ty40]
 exact ⟨(a, b), rfl⟩
theorem lawBestA (a : {a : Lv // wide a}) (q : Int × Int) (o : List Int) : Zah Tryz.prog 7 [lvD a.1, .ag [.int q.1, .int q.2], Zak o] (.bool true) := lawBest a.1 q.1 q.2 o a.2
set_option maxRecDepth 100000 in
theorem best_lifted (os : Os) (started : os.Started) (H : Type) (enc : TypeId × Value → H) :
  ReturnsInHanded {} Tryz.checked os 7 .any (Rows.orderingBestSpec.pre6 enc Tryz.prog Tryz.f7 [] false) (Rows.orderingBestSpec.post enc Tryz.prog Tryz.f7 false true false false) :=
 law_lifted (C := Tryz.checked) (tb := 4) Tryz.own started (by kernel_rfl) Tryz.func7
  (ChangeSpec.witness6 (enc := enc) (C := Tryz.checked) false ⟨#[], #[.agg #[.int .i64 0, .slice none 0 0, .slice none 0 0, .slice none 0 0], .agg #[.int .i64 0, .int .i64 0], .slice none 0 0], []⟩ 8 (by kernel_rfl) (by kernel_rfl) (by kernel_rfl) (by kernel_rfl)) Tryz.laidOut (by kernel_rfl) (by kernel_rfl) (by kernel_rfl) rfl
  (fun ds h => by
   match ds, h with
   | [d0, d1, d2], _ => rfl)
  (fun xs hl ha => by
   match xs, hl with
   | [x0, x1, x2], _ =>
    obtain ⟨y0, rfl⟩ := arg_lv (ha 0 25 x0 (by kernel_rfl) rfl)
    obtain ⟨y1, rfl⟩ := arg_pair (ha 1 40 x1 (by kernel_rfl) rfl)
    obtain ⟨y2, rfl⟩ := arg_ints (ha 2 37 x2 (by kernel_rfl) rfl)
    exact lawBestA y0 y1 y2)
theorem best_holds : Rows.OrderingBestSaid :=
 OpenClaim.holds_of_wide 7 Tryz.f7 rfl rfl rfl rfl rfl rfl rfl ⟨rfl, rfl, rfl, rfl, rfl⟩ rfl rfl rfl rfl rfl (by kernel_rfl) Tryz.func7 (by kernel_rfl)
  (of_decide_eq_true (by kernel_rfl)) (by unfold Func.isWrapper; first | (rw [if_pos (by decide +kernel)]; kernel_rfl) | (rw [if_neg (by decide +kernel)]; exact ⟨rfl, rfl⟩))
  (fun os started H enc _ => best_lifted os started H enc)
end Go.Proofs.YtldbcbclhpcofaaGreat
