/-
  NARROWER THAN 'FOR EVERY INPUT', by the rows' own cells (each row's printed sentence says how): TopOrders: laid · TopCoordinates: laid · TopCurves: laid · LayeredRanks: laid · LayeredOrders: laid · LayeredPlaces: laid · LayeredOptimal: laid · LayeredSeparates: laid.
  DERIVED. THE GIVEN ROWS OF THIS SEAT. 8 by the template 'for every input the law returns true; each argument reads behind the call as it read before'; 0 by the template 'total and deterministic' (their statements: YtjjbhjnpeenbkaaGreatDoorTotals.lean).
  GIVEN WITH THE SEED: the statements are not yours to turn. If you find one false, say at which input.
  Laid BY PROGRAM, IN A SANDBOX (cutbox-rows.mjs): the forced cells as the released guide's own fill.sh prints them over the translation a72351112eefd80d… (all of the seat's roots in one cut). By AI agents, Wed Nov 11 2026. No macro, syntax, notation, axiom, sorry.
-/
import Derived.Test.YtjjbhjnpeenbkaaGreatDoorChecked
import GoSem.Claim
import GoSem.ClaimJoined
import GoSem.ClaimMapViews
import Derived.JoinedTies
import Derived.KernelRfl
namespace Go.Proofs.YtjjbhjnpeenbkaaGreatDoor
/- THE CELL 'sum', in the pinned program and in every row, IS THE sha256 OF THE DUMP (.gsa) THAT YtjjbhjnpeenbkaaGreatDoorProg.lean LOADS. Nothing in Lean hashes anything: it is a label: what it is worth is what the hold of that sum in a sandbox is worth. -/
noncomputable def Tryz.pinned : Pinned := { name := "ytjjbhjnpeenbkaagreatdoor", sum := "a72351112eefd80d440c1776a9cc7e2968a78ab7627373f08c93d87afab864bf", checked := Tryz.checked }
namespace Rows
def none {H : Type} : Left H := { results := [], args := [] }

/- WHAT THE LISTED PACKAGE-LEVEL VARIABLES READ AS WHEN THE CALL BEGINS. Each datum BY PROGRAM (the guide's laid-datum.mjs) off the statement by which the dump's own 'gosem.cut.vars' lays the variable. In a bare row this is a premise. The card (YtjjbhjnpeenbkaaGreatDoorCards.lean) ties it to the program's text. -/
def laid_math_bits_deBruijn32tab {H : Type} : DataW H := .agg [.lit (.int .u8 0), .lit (.int .u8 1), .lit (.int .u8 28), .lit (.int .u8 2), .lit (.int .u8 29), .lit (.int .u8 14), .lit (.int .u8 24), .lit (.int .u8 3), .lit (.int .u8 30), .lit (.int .u8 22), .lit (.int .u8 20), .lit (.int .u8 15), .lit (.int .u8 25), .lit (.int .u8 17), .lit (.int .u8 4), .lit (.int .u8 8), .lit (.int .u8 31), .lit (.int .u8 27), .lit (.int .u8 13), .lit (.int .u8 23), .lit (.int .u8 21), .lit (.int .u8 19), .lit (.int .u8 16), .lit (.int .u8 7), .lit (.int .u8 26), .lit (.int .u8 12), .lit (.int .u8 18), .lit (.int .u8 6), .lit (.int .u8 11), .lit (.int .u8 5), .lit (.int .u8 10), .lit (.int .u8 9)]
def laid_math_bits_deBruijn64tab {H : Type} : DataW H := .agg [.lit (.int .u8 0), .lit (.int .u8 1), .lit (.int .u8 56), .lit (.int .u8 2), .lit (.int .u8 57), .lit (.int .u8 49), .lit (.int .u8 28), .lit (.int .u8 3), .lit (.int .u8 61), .lit (.int .u8 58), .lit (.int .u8 42), .lit (.int .u8 50), .lit (.int .u8 38), .lit (.int .u8 29), .lit (.int .u8 17), .lit (.int .u8 4), .lit (.int .u8 62), .lit (.int .u8 47), .lit (.int .u8 59), .lit (.int .u8 36), .lit (.int .u8 45), .lit (.int .u8 43), .lit (.int .u8 51), .lit (.int .u8 22), .lit (.int .u8 53), .lit (.int .u8 39), .lit (.int .u8 33), .lit (.int .u8 30), .lit (.int .u8 24), .lit (.int .u8 18), .lit (.int .u8 12), .lit (.int .u8 5), .lit (.int .u8 63), .lit (.int .u8 55), .lit (.int .u8 48), .lit (.int .u8 27), .lit (.int .u8 60), .lit (.int .u8 41), .lit (.int .u8 37), .lit (.int .u8 16), .lit (.int .u8 46), .lit (.int .u8 35), .lit (.int .u8 44), .lit (.int .u8 21), .lit (.int .u8 52), .lit (.int .u8 32), .lit (.int .u8 23), .lit (.int .u8 11), .lit (.int .u8 54), .lit (.int .u8 26), .lit (.int .u8 40), .lit (.int .u8 15), .lit (.int .u8 34), .lit (.int .u8 20), .lit (.int .u8 31), .lit (.int .u8 10), .lit (.int .u8 25), .lit (.int .u8 14), .lit (.int .u8 19), .lit (.int .u8 9), .lit (.int .u8 13), .lit (.int .u8 8), .lit (.int .u8 7), .lit (.int .u8 6)]

/-- 'layouttop.TopOrders': WHATEVER THE INPUT: true; the input reads as it did. -/
def topOrdersSpec : ChangeSpec := { name := "topOrders", fn := fun _ => fun
  | [d1, d2] => { results := [.lit (.bool true)], args := [d1, d2] }
  | _ => none }
def topOrdersRow : OpenClaim := { program := "ytjjbhjnpeenbkaagreatdoor", sum := "a72351112eefd80d440c1776a9cc7e2968a78ab7627373f08c93d87afab864bf", func := "layout/layouttop.TopOrders", spec := "topOrders", unfollowed := true, recurses := true, named := ["math/bits.deBruijn32tab", "math/bits.deBruijn64tab"], apart := false, laid := [("math/bits.deBruijn32tab", laid_math_bits_deBruijn32tab), ("math/bits.deBruijn64tab", laid_math_bits_deBruijn64tab)] }
def TopOrdersSaid : Prop := topOrdersRow.holds Tryz.pinned (OpenSpec.ofChange topOrdersSpec)

/-- ITS FALSE NEIGHBOUR: 'it returns false'. Refute it at one input. -/
def topOrdersWrong : ChangeSpec := { name := "topOrders", fn := fun _ => fun
  | [d1, d2] => { results := [.lit (.bool false)], args := [d1, d2] }
  | _ => none }
def TopOrdersWrongFalsely : Prop := topOrdersRow.holds Tryz.pinned (OpenSpec.ofChange topOrdersWrong)

/-- 'layouttop.TopCoordinates': WHATEVER THE INPUT: true; the input reads as it did. -/
def topCoordinatesSpec : ChangeSpec := { name := "topCoordinates", fn := fun _ => fun
  | [d1, d2, d3] => { results := [.lit (.bool true)], args := [d1, d2, d3] }
  | _ => none }
def topCoordinatesRow : OpenClaim := { program := "ytjjbhjnpeenbkaagreatdoor", sum := "a72351112eefd80d440c1776a9cc7e2968a78ab7627373f08c93d87afab864bf", func := "layout/layouttop.TopCoordinates", spec := "topCoordinates", unfollowed := true, recurses := true, named := ["math/bits.deBruijn32tab", "math/bits.deBruijn64tab"], apart := false, laid := [("math/bits.deBruijn32tab", laid_math_bits_deBruijn32tab), ("math/bits.deBruijn64tab", laid_math_bits_deBruijn64tab)] }
def TopCoordinatesSaid : Prop := topCoordinatesRow.holds Tryz.pinned (OpenSpec.ofChange topCoordinatesSpec)

/-- ITS FALSE NEIGHBOUR: 'it returns false'. Refute it at one input. -/
def topCoordinatesWrong : ChangeSpec := { name := "topCoordinates", fn := fun _ => fun
  | [d1, d2, d3] => { results := [.lit (.bool false)], args := [d1, d2, d3] }
  | _ => none }
def TopCoordinatesWrongFalsely : Prop := topCoordinatesRow.holds Tryz.pinned (OpenSpec.ofChange topCoordinatesWrong)

/-- 'layouttop.TopCurves': WHATEVER THE INPUT: true; the input reads as it did. -/
def topCurvesSpec : ChangeSpec := { name := "topCurves", fn := fun _ => fun
  | [d1, d2] => { results := [.lit (.bool true)], args := [d1, d2] }
  | _ => none }
def topCurvesRow : OpenClaim := { program := "ytjjbhjnpeenbkaagreatdoor", sum := "a72351112eefd80d440c1776a9cc7e2968a78ab7627373f08c93d87afab864bf", func := "layout/layouttop.TopCurves", spec := "topCurves", unfollowed := true, recurses := true, named := ["math/bits.deBruijn32tab", "math/bits.deBruijn64tab"], apart := false, laid := [("math/bits.deBruijn32tab", laid_math_bits_deBruijn32tab), ("math/bits.deBruijn64tab", laid_math_bits_deBruijn64tab)] }
def TopCurvesSaid : Prop := topCurvesRow.holds Tryz.pinned (OpenSpec.ofChange topCurvesSpec)

/-- ITS FALSE NEIGHBOUR: 'it returns false'. Refute it at one input. -/
def topCurvesWrong : ChangeSpec := { name := "topCurves", fn := fun _ => fun
  | [d1, d2] => { results := [.lit (.bool false)], args := [d1, d2] }
  | _ => none }
def TopCurvesWrongFalsely : Prop := topCurvesRow.holds Tryz.pinned (OpenSpec.ofChange topCurvesWrong)

/-- 'layoutlaw27.LayeredRanks': WHATEVER THE INPUT: true; the input reads as it did. -/
def layeredRanksSpec : ChangeSpec := { name := "layeredRanks", fn := fun _ => fun
  | [d] => { results := [.lit (.bool true)], args := [d] }
  | _ => none }
def layeredRanksRow : OpenClaim := { program := "ytjjbhjnpeenbkaagreatdoor", sum := "a72351112eefd80d440c1776a9cc7e2968a78ab7627373f08c93d87afab864bf", func := "layout/layoutlaw27.LayeredRanks", spec := "layeredRanks", unfollowed := true, recurses := true, named := ["math/bits.deBruijn32tab", "math/bits.deBruijn64tab"], apart := false, laid := [("math/bits.deBruijn32tab", laid_math_bits_deBruijn32tab), ("math/bits.deBruijn64tab", laid_math_bits_deBruijn64tab)] }
def LayeredRanksSaid : Prop := layeredRanksRow.holds Tryz.pinned (OpenSpec.ofChange layeredRanksSpec)

/-- ITS FALSE NEIGHBOUR: 'it returns false'. Refute it at one input. -/
def layeredRanksWrong : ChangeSpec := { name := "layeredRanks", fn := fun _ => fun
  | [d] => { results := [.lit (.bool false)], args := [d] }
  | _ => none }
def LayeredRanksWrongFalsely : Prop := layeredRanksRow.holds Tryz.pinned (OpenSpec.ofChange layeredRanksWrong)

/-- 'layoutlaw27.LayeredOrders': WHATEVER THE INPUT: true; the input reads as it did. -/
def layeredOrdersSpec : ChangeSpec := { name := "layeredOrders", fn := fun _ => fun
  | [d1, d2] => { results := [.lit (.bool true)], args := [d1, d2] }
  | _ => none }
def layeredOrdersRow : OpenClaim := { program := "ytjjbhjnpeenbkaagreatdoor", sum := "a72351112eefd80d440c1776a9cc7e2968a78ab7627373f08c93d87afab864bf", func := "layout/layoutlaw27.LayeredOrders", spec := "layeredOrders", unfollowed := true, recurses := true, named := ["math/bits.deBruijn32tab", "math/bits.deBruijn64tab"], apart := false, laid := [("math/bits.deBruijn32tab", laid_math_bits_deBruijn32tab), ("math/bits.deBruijn64tab", laid_math_bits_deBruijn64tab)] }
def LayeredOrdersSaid : Prop := layeredOrdersRow.holds Tryz.pinned (OpenSpec.ofChange layeredOrdersSpec)

/-- ITS FALSE NEIGHBOUR: 'it returns false'. Refute it at one input. -/
def layeredOrdersWrong : ChangeSpec := { name := "layeredOrders", fn := fun _ => fun
  | [d1, d2] => { results := [.lit (.bool false)], args := [d1, d2] }
  | _ => none }
def LayeredOrdersWrongFalsely : Prop := layeredOrdersRow.holds Tryz.pinned (OpenSpec.ofChange layeredOrdersWrong)

/-- 'layoutlaw27.LayeredPlaces': WHATEVER THE INPUT: true; the input reads as it did. -/
def layeredPlacesSpec : ChangeSpec := { name := "layeredPlaces", fn := fun _ => fun
  | [d1, d2] => { results := [.lit (.bool true)], args := [d1, d2] }
  | _ => none }
def layeredPlacesRow : OpenClaim := { program := "ytjjbhjnpeenbkaagreatdoor", sum := "a72351112eefd80d440c1776a9cc7e2968a78ab7627373f08c93d87afab864bf", func := "layout/layoutlaw27.LayeredPlaces", spec := "layeredPlaces", unfollowed := true, recurses := true, named := ["math/bits.deBruijn32tab", "math/bits.deBruijn64tab"], apart := false, laid := [("math/bits.deBruijn32tab", laid_math_bits_deBruijn32tab), ("math/bits.deBruijn64tab", laid_math_bits_deBruijn64tab)] }
def LayeredPlacesSaid : Prop := layeredPlacesRow.holds Tryz.pinned (OpenSpec.ofChange layeredPlacesSpec)

/-- ITS FALSE NEIGHBOUR: 'it returns false'. Refute it at one input. -/
def layeredPlacesWrong : ChangeSpec := { name := "layeredPlaces", fn := fun _ => fun
  | [d1, d2] => { results := [.lit (.bool false)], args := [d1, d2] }
  | _ => none }
def LayeredPlacesWrongFalsely : Prop := layeredPlacesRow.holds Tryz.pinned (OpenSpec.ofChange layeredPlacesWrong)

/-- 'layoutlaw27.LayeredOptimal': WHATEVER THE INPUT: true; the input reads as it did. -/
def layeredOptimalSpec : ChangeSpec := { name := "layeredOptimal", fn := fun _ => fun
  | [d1, d2] => { results := [.lit (.bool true)], args := [d1, d2] }
  | _ => none }
def layeredOptimalRow : OpenClaim := { program := "ytjjbhjnpeenbkaagreatdoor", sum := "a72351112eefd80d440c1776a9cc7e2968a78ab7627373f08c93d87afab864bf", func := "layout/layoutlaw27.LayeredOptimal", spec := "layeredOptimal", unfollowed := true, recurses := true, named := ["math/bits.deBruijn32tab", "math/bits.deBruijn64tab"], apart := false, laid := [("math/bits.deBruijn32tab", laid_math_bits_deBruijn32tab), ("math/bits.deBruijn64tab", laid_math_bits_deBruijn64tab)] }
def LayeredOptimalSaid : Prop := layeredOptimalRow.holds Tryz.pinned (OpenSpec.ofChange layeredOptimalSpec)

/-- ITS FALSE NEIGHBOUR: 'it returns false'. Refute it at one input. -/
def layeredOptimalWrong : ChangeSpec := { name := "layeredOptimal", fn := fun _ => fun
  | [d1, d2] => { results := [.lit (.bool false)], args := [d1, d2] }
  | _ => none }
def LayeredOptimalWrongFalsely : Prop := layeredOptimalRow.holds Tryz.pinned (OpenSpec.ofChange layeredOptimalWrong)

/-- 'layoutlaw27.LayeredSeparates': WHATEVER THE INPUT: true; the input reads as it did. -/
def layeredSeparatesSpec : ChangeSpec := { name := "layeredSeparates", fn := fun _ => fun
  | [d1, d2] => { results := [.lit (.bool true)], args := [d1, d2] }
  | _ => none }
def layeredSeparatesRow : OpenClaim := { program := "ytjjbhjnpeenbkaagreatdoor", sum := "a72351112eefd80d440c1776a9cc7e2968a78ab7627373f08c93d87afab864bf", func := "layout/layoutlaw27.LayeredSeparates", spec := "layeredSeparates", unfollowed := true, recurses := true, named := ["math/bits.deBruijn32tab", "math/bits.deBruijn64tab"], apart := false, laid := [("math/bits.deBruijn32tab", laid_math_bits_deBruijn32tab), ("math/bits.deBruijn64tab", laid_math_bits_deBruijn64tab)] }
def LayeredSeparatesSaid : Prop := layeredSeparatesRow.holds Tryz.pinned (OpenSpec.ofChange layeredSeparatesSpec)

/-- ITS FALSE NEIGHBOUR: 'it returns false'. Refute it at one input. -/
def layeredSeparatesWrong : ChangeSpec := { name := "layeredSeparates", fn := fun _ => fun
  | [d1, d2] => { results := [.lit (.bool false)], args := [d1, d2] }
  | _ => none }
def LayeredSeparatesWrongFalsely : Prop := layeredSeparatesRow.holds Tryz.pinned (OpenSpec.ofChange layeredSeparatesWrong)

/- THE SECOND FORM. 'bulk': how many values and letters a reading holds, each counted each time it is reached (what is shared counts as often as it is met; a slice's spare places count too). A statement '..UptoSaid' is the law's where the arguments, and the package variables that the reading takes, are together of bulk at most 1048576: NARROWER than '..Said'. Prove '..Said' where nothing that the law and all that it calls make is longer than what came in: it says more and counts as full. Else prove '..UptoSaid'. A law counts once. -/
mutual
def uptoBulk {H : Type} : DataW H → Nat
  | .lit (.string bytes) => bytes.length + 1
  | .lit _ => 1
  | .nil => 1
  | .ptr d => uptoBulk d + 1
  | .slice elems spare => uptoBulkAll elems + uptoBulkAll spare + 1
  | .agg parts => uptoBulkAll parts + 1
  | .iface _ d => uptoBulk d + 1
  | .map entries => uptoBulkEntries entries + 1
  | .held _ => 1
def uptoBulkAll {H : Type} : List (DataW H) → Nat
  | [] => 0
  | d :: r => uptoBulk d + uptoBulkAll r
def uptoBulkEntries {H : Type} : List (Lit × DataW H) → Nat
  | [] => 0
  | x :: r => uptoBulkEntry x + uptoBulkEntries r
def uptoBulkEntry {H : Type} : Lit × DataW H → Nat
  | (.string bytes, d) => bytes.length + uptoBulk d + 1
  | (_, d) => uptoBulk d + 1
 end
def uptoSmall : (H : Type) → List (DataW H) → Bool := fun _ ds => decide (uptoBulkAll ds ≤ 1048576)
def OpenSpec.upto (s : _root_.Go.ChangeSpec) : _root_.Go.OpenSpec := { _root_.Go.OpenSpec.ofChange s with cond := some uptoSmall }

/-- 'layouttop.TopOrders', WHERE WHAT IT READS IS OF BULK AT MOST 1048576: true; the input reads as it did. -/
def topOrdersUptoRow : OpenClaim := { program := "ytjjbhjnpeenbkaagreatdoor", sum := "a72351112eefd80d440c1776a9cc7e2968a78ab7627373f08c93d87afab864bf", func := "layout/layouttop.TopOrders", spec := "topOrders", unfollowed := true, recurses := true, named := ["math/bits.deBruijn32tab", "math/bits.deBruijn64tab"], apart := false, laid := [("math/bits.deBruijn32tab", laid_math_bits_deBruijn32tab), ("math/bits.deBruijn64tab", laid_math_bits_deBruijn64tab)], narrowed := true }
def TopOrdersUptoSaid : Prop := topOrdersUptoRow.holds Tryz.pinned (OpenSpec.upto topOrdersSpec)

/-- 'layouttop.TopCoordinates', WHERE WHAT IT READS IS OF BULK AT MOST 1048576: true; the input reads as it did. -/
def topCoordinatesUptoRow : OpenClaim := { program := "ytjjbhjnpeenbkaagreatdoor", sum := "a72351112eefd80d440c1776a9cc7e2968a78ab7627373f08c93d87afab864bf", func := "layout/layouttop.TopCoordinates", spec := "topCoordinates", unfollowed := true, recurses := true, named := ["math/bits.deBruijn32tab", "math/bits.deBruijn64tab"], apart := false, laid := [("math/bits.deBruijn32tab", laid_math_bits_deBruijn32tab), ("math/bits.deBruijn64tab", laid_math_bits_deBruijn64tab)], narrowed := true }
def TopCoordinatesUptoSaid : Prop := topCoordinatesUptoRow.holds Tryz.pinned (OpenSpec.upto topCoordinatesSpec)

/-- 'layouttop.TopCurves', WHERE WHAT IT READS IS OF BULK AT MOST 1048576: true; the input reads as it did. -/
def topCurvesUptoRow : OpenClaim := { program := "ytjjbhjnpeenbkaagreatdoor", sum := "a72351112eefd80d440c1776a9cc7e2968a78ab7627373f08c93d87afab864bf", func := "layout/layouttop.TopCurves", spec := "topCurves", unfollowed := true, recurses := true, named := ["math/bits.deBruijn32tab", "math/bits.deBruijn64tab"], apart := false, laid := [("math/bits.deBruijn32tab", laid_math_bits_deBruijn32tab), ("math/bits.deBruijn64tab", laid_math_bits_deBruijn64tab)], narrowed := true }
def TopCurvesUptoSaid : Prop := topCurvesUptoRow.holds Tryz.pinned (OpenSpec.upto topCurvesSpec)

/-- 'layoutlaw27.LayeredRanks', WHERE WHAT IT READS IS OF BULK AT MOST 1048576: true; the input reads as it did. -/
def layeredRanksUptoRow : OpenClaim := { program := "ytjjbhjnpeenbkaagreatdoor", sum := "a72351112eefd80d440c1776a9cc7e2968a78ab7627373f08c93d87afab864bf", func := "layout/layoutlaw27.LayeredRanks", spec := "layeredRanks", unfollowed := true, recurses := true, named := ["math/bits.deBruijn32tab", "math/bits.deBruijn64tab"], apart := false, laid := [("math/bits.deBruijn32tab", laid_math_bits_deBruijn32tab), ("math/bits.deBruijn64tab", laid_math_bits_deBruijn64tab)], narrowed := true }
def LayeredRanksUptoSaid : Prop := layeredRanksUptoRow.holds Tryz.pinned (OpenSpec.upto layeredRanksSpec)

/-- 'layoutlaw27.LayeredOrders', WHERE WHAT IT READS IS OF BULK AT MOST 1048576: true; the input reads as it did. -/
def layeredOrdersUptoRow : OpenClaim := { program := "ytjjbhjnpeenbkaagreatdoor", sum := "a72351112eefd80d440c1776a9cc7e2968a78ab7627373f08c93d87afab864bf", func := "layout/layoutlaw27.LayeredOrders", spec := "layeredOrders", unfollowed := true, recurses := true, named := ["math/bits.deBruijn32tab", "math/bits.deBruijn64tab"], apart := false, laid := [("math/bits.deBruijn32tab", laid_math_bits_deBruijn32tab), ("math/bits.deBruijn64tab", laid_math_bits_deBruijn64tab)], narrowed := true }
def LayeredOrdersUptoSaid : Prop := layeredOrdersUptoRow.holds Tryz.pinned (OpenSpec.upto layeredOrdersSpec)

/-- 'layoutlaw27.LayeredPlaces', WHERE WHAT IT READS IS OF BULK AT MOST 1048576: true; the input reads as it did. -/
def layeredPlacesUptoRow : OpenClaim := { program := "ytjjbhjnpeenbkaagreatdoor", sum := "a72351112eefd80d440c1776a9cc7e2968a78ab7627373f08c93d87afab864bf", func := "layout/layoutlaw27.LayeredPlaces", spec := "layeredPlaces", unfollowed := true, recurses := true, named := ["math/bits.deBruijn32tab", "math/bits.deBruijn64tab"], apart := false, laid := [("math/bits.deBruijn32tab", laid_math_bits_deBruijn32tab), ("math/bits.deBruijn64tab", laid_math_bits_deBruijn64tab)], narrowed := true }
def LayeredPlacesUptoSaid : Prop := layeredPlacesUptoRow.holds Tryz.pinned (OpenSpec.upto layeredPlacesSpec)

/-- 'layoutlaw27.LayeredOptimal', WHERE WHAT IT READS IS OF BULK AT MOST 1048576: true; the input reads as it did. -/
def layeredOptimalUptoRow : OpenClaim := { program := "ytjjbhjnpeenbkaagreatdoor", sum := "a72351112eefd80d440c1776a9cc7e2968a78ab7627373f08c93d87afab864bf", func := "layout/layoutlaw27.LayeredOptimal", spec := "layeredOptimal", unfollowed := true, recurses := true, named := ["math/bits.deBruijn32tab", "math/bits.deBruijn64tab"], apart := false, laid := [("math/bits.deBruijn32tab", laid_math_bits_deBruijn32tab), ("math/bits.deBruijn64tab", laid_math_bits_deBruijn64tab)], narrowed := true }
def LayeredOptimalUptoSaid : Prop := layeredOptimalUptoRow.holds Tryz.pinned (OpenSpec.upto layeredOptimalSpec)

/-- 'layoutlaw27.LayeredSeparates', WHERE WHAT IT READS IS OF BULK AT MOST 1048576: true; the input reads as it did. -/
def layeredSeparatesUptoRow : OpenClaim := { program := "ytjjbhjnpeenbkaagreatdoor", sum := "a72351112eefd80d440c1776a9cc7e2968a78ab7627373f08c93d87afab864bf", func := "layout/layoutlaw27.LayeredSeparates", spec := "layeredSeparates", unfollowed := true, recurses := true, named := ["math/bits.deBruijn32tab", "math/bits.deBruijn64tab"], apart := false, laid := [("math/bits.deBruijn32tab", laid_math_bits_deBruijn32tab), ("math/bits.deBruijn64tab", laid_math_bits_deBruijn64tab)], narrowed := true }
def LayeredSeparatesUptoSaid : Prop := layeredSeparatesUptoRow.holds Tryz.pinned (OpenSpec.upto layeredSeparatesSpec)

end Rows
end Go.Proofs.YtjjbhjnpeenbkaaGreatDoor
