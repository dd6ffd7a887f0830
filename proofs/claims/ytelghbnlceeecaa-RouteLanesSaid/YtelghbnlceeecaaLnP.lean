/- The paths of edges: Lanes returns the specified path, never goes up, and lists no point twice in a row. The rows of both statements. -/
import Derived.Test.YtelghbnlceeecaaRows
import Derived.Test.YtelghbnlceeecaaLnB
import Derived.Test.YtelghbnlceeecaaQ
namespace Go.Proofs.Ytelghbnlceeecaa
open Go Go.PS Go.ChangeShapes Go.WideShapes Go.ChangeAt Go.RowKit
set_option maxRecDepth 100000
theorem Try.own : ownKnob Try.prog.godebug = none := by kernel_rfl
theorem Try.laidOut : laidOutB Try.prog = true := by kernel_rfl
abbrev LaneA := {a : Lv // wide a} × List Int × List Int × List Int × Int
theorem cells_lv {n : Nat} {cs : List D} (h : CellsOk Try.prog (n + 4) 25 cs) : ∃ a : {a : Lv // wide a}, cs = [.int a.1.1, listsD a.1.2.1, arcsD a.1.2.2.1, listsD a.1.2.2.2] := by
  have h := cells_struct (ts := [3, 22, 23, 22]) (by kernel_rfl) h
  obtain ⟨_, _, rfl, h1, _, _, rfl, h2, _, _, rfl, h3, _, _, rfl, h4, rfl⟩ := h
  obtain ⟨a, rfl⟩ := cells_int h1
  obtain ⟨b, rfl, hb⟩ := cells_lists h2
  obtain ⟨c, rfl⟩ := cells_arcs h3
  obtain ⟨d, rfl, _⟩ := cells_lists h4
  exact ⟨⟨(a, b, c, d), hb⟩, rfl⟩
theorem arg_lane {x : D} (h : ArgOk Try.prog 28 x) : ∃ q : LaneA, x = laneD q.1.1 q.2.1 q.2.2.1 q.2.2.2.1 q.2.2.2.2 := by
  obtain ⟨cs, h, rfl⟩ := h
  have h := cells_struct (ts := [25, 26, 26, 26, 3]) (by kernel_rfl) h
  obtain ⟨_, _, rfl, h1, _, _, rfl, h2, _, _, rfl, h3, _, _, rfl, h4, _, _, rfl, h5, rfl⟩ := h
  obtain ⟨a, rfl⟩ := cells_lv h1
  obtain ⟨b, rfl, _⟩ := cells_ints h2
  obtain ⟨c, rfl, _⟩ := cells_ints h3
  obtain ⟨d, rfl, _⟩ := cells_ints h4
  obtain ⟨e, rfl⟩ := cells_int h5
  rw [ty28]
  exact ⟨(a, b, c, d, e), rfl⟩
theorem lawLanesA (q : LaneA) : CallsTo Try.prog 3 [laneD q.1.1 q.2.1 q.2.2.1 q.2.2.2.1 q.2.2.2.2] (.bool true) := lawLanes q.1.1 q.2.1 q.2.2.1 q.2.2.2.1 q.2.2.2.2 q.1.2
theorem lawDownA (q : LaneA) : CallsTo Try.prog 4 [laneD q.1.1 q.2.1 q.2.2.1 q.2.2.2.1 q.2.2.2.2] (.bool true) := lawDown q.1.1 q.2.1 q.2.2.1 q.2.2.2.1 q.2.2.2.2 q.1.2
set_option maxRecDepth 100000 in
theorem lanes_lifted (os : Os) (started : os.Started) (H : Type) (enc : TypeId × Value → H) :
    ReturnsInHanded {} Try.checked os 3 .any (Rows.routeLanesSpec.pre6 enc Try.prog Try.f3 [] false) (Rows.routeLanesSpec.post enc Try.prog Try.f3 false true false false) :=
  law_lifted (C := Try.checked) (tb := 4) Try.own started (by kernel_rfl) Try.func3
    (ChangeSpec.witness6 (enc := enc) (C := Try.checked) false ⟨#[], #[.agg #[.int .i64 0, .slice none 0 0, .slice none 0 0, .slice none 0 0, .slice none 0 0, .slice none 0 0, .slice none 0 0, .int .i64 0]], []⟩ 8 (by kernel_rfl) (by kernel_rfl) (by kernel_rfl) (by kernel_rfl)) Try.laidOut (by kernel_rfl) (by kernel_rfl) (by kernel_rfl) rfl
    (fun ds h => by
      match ds, h with
      | [d0], _ => rfl)
    (fun xs hl ha => by
      match xs, hl with
      | [x0], _ =>
        obtain ⟨y0, rfl⟩ := arg_lane (ha 0 28 x0 (by kernel_rfl) rfl)
        exact lawLanesA y0)
theorem lanes_holds : Rows.RouteLanesSaid :=
  OpenClaim.holds_of_wide 3 Try.f3 rfl rfl rfl rfl rfl rfl rfl ⟨rfl, rfl, rfl, rfl, rfl⟩ rfl rfl rfl rfl rfl (by kernel_rfl) Try.func3 (by kernel_rfl)
    (of_decide_eq_true (by kernel_rfl)) (by unfold Func.isWrapper; first | (rw [if_pos (by decide +kernel)]; kernel_rfl) | (rw [if_neg (by decide +kernel)]; exact ⟨rfl, rfl⟩))
    (fun os started H enc _ => lanes_lifted os started H enc)
set_option maxRecDepth 100000 in
theorem down_lifted (os : Os) (started : os.Started) (H : Type) (enc : TypeId × Value → H) :
    ReturnsInHanded {} Try.checked os 4 .any (Rows.routeDownSpec.pre6 enc Try.prog Try.f4 [] false) (Rows.routeDownSpec.post enc Try.prog Try.f4 false true false false) :=
  law_lifted (C := Try.checked) (tb := 4) Try.own started (by kernel_rfl) Try.func4
    (ChangeSpec.witness6 (enc := enc) (C := Try.checked) false ⟨#[], #[.agg #[.int .i64 0, .slice none 0 0, .slice none 0 0, .slice none 0 0, .slice none 0 0, .slice none 0 0, .slice none 0 0, .int .i64 0]], []⟩ 8 (by kernel_rfl) (by kernel_rfl) (by kernel_rfl) (by kernel_rfl)) Try.laidOut (by kernel_rfl) (by kernel_rfl) (by kernel_rfl) rfl
    (fun ds h => by
      match ds, h with
      | [d0], _ => rfl)
    (fun xs hl ha => by
      match xs, hl with
      | [x0], _ =>
        obtain ⟨y0, rfl⟩ := arg_lane (ha 0 28 x0 (by kernel_rfl) rfl)
        exact lawDownA y0)
theorem down_holds : Rows.RouteDownSaid :=
  OpenClaim.holds_of_wide 4 Try.f4 rfl rfl rfl rfl rfl rfl rfl ⟨rfl, rfl, rfl, rfl, rfl⟩ rfl rfl rfl rfl rfl (by kernel_rfl) Try.func4 (by kernel_rfl)
    (of_decide_eq_true (by kernel_rfl)) (by unfold Func.isWrapper; first | (rw [if_pos (by decide +kernel)]; kernel_rfl) | (rw [if_neg (by decide +kernel)]; exact ⟨rfl, rfl⟩))
    (fun os started H enc _ => down_lifted os started H enc)
end Go.Proofs.Ytelghbnlceeecaa
