/-
  No cell of these rows narrows 'for every input' (looked for: loops, veiled, ifaces, maps, wideKeys, modest, calm, conditions, laid).
  DERIVED. THE GIVEN ROWS OF THIS SEAT. 4 by the template 'for every input the law returns true; each argument reads behind the call as it read before'; 0 by the template 'total and deterministic' (their statements: YtnleimbfafcclaaTotals.lean).
  GIVEN WITH THE SEED: the statements are not yours to turn. If you find one false, say at which input.
  Laid BY PROGRAM, IN A SANDBOX (cutbox-rows.mjs): the forced cells as the released guide's own fill.sh prints them over the translation 83b912b451b7f31a… (all of the seat's roots in one cut). By AI agents, Wed Nov 11 2026. No macro, syntax, notation, axiom, sorry.
-/
import Derived.Test.YtnleimbfafcclaaChecked
import GoSem.Claim
import GoSem.ClaimJoined
import GoSem.ClaimMapViews
import Derived.JoinedTies
import Derived.KernelRfl
namespace Go.Proofs.Ytnleimbfafcclaa
/- THE CELL 'sum', in the pinned program and in every row, IS THE sha256 OF THE DUMP (.gsa) THAT YtnleimbfafcclaaProg.lean LOADS. Nothing in Lean hashes anything: it is a label: what it is worth is what the hold of that sum in a sandbox is worth. -/
noncomputable def Try.pinned : Pinned := { name := "ytnleimbfafcclaa", sum := "83b912b451b7f31a2fda2d05c1b04c19f4ba2f9188dd109a84afbd5570e4ddeb", checked := Try.checked }
namespace Rows
def none {H : Type} : Left H := { results := [], args := [] }

/-- 'layoutlaw28.RouteCurves': WHATEVER THE INPUT: true; the input reads as it did. -/
def routeCurvesSpec : ChangeSpec := { name := "routeCurves", fn := fun _ => fun
  | [d] => { results := [.lit (.bool true)], args := [d] }
  | _ => none }
def routeCurvesRow : OpenClaim := { program := "ytnleimbfafcclaa", sum := "83b912b451b7f31a2fda2d05c1b04c19f4ba2f9188dd109a84afbd5570e4ddeb", func := "layout/layoutlaw28.RouteCurves", spec := "routeCurves", unfollowed := true, recurses := true, apart := false }
def RouteCurvesSaid : Prop := routeCurvesRow.holds Try.pinned (OpenSpec.ofChange routeCurvesSpec)

/-- ITS FALSE NEIGHBOUR: 'it returns false'. Refute it at one input. -/
def routeCurvesWrong : ChangeSpec := { name := "routeCurves", fn := fun _ => fun
  | [d] => { results := [.lit (.bool false)], args := [d] }
  | _ => none }
def RouteCurvesWrongFalsely : Prop := routeCurvesRow.holds Try.pinned (OpenSpec.ofChange routeCurvesWrong)

/-- 'layoutlaw28.RouteFlattens': WHATEVER THE INPUT: true; the input reads as it did. -/
def routeFlattensSpec : ChangeSpec := { name := "routeFlattens", fn := fun _ => fun
  | [d1, d2] => { results := [.lit (.bool true)], args := [d1, d2] }
  | _ => none }
def routeFlattensRow : OpenClaim := { program := "ytnleimbfafcclaa", sum := "83b912b451b7f31a2fda2d05c1b04c19f4ba2f9188dd109a84afbd5570e4ddeb", func := "layout/layoutlaw28.RouteFlattens", spec := "routeFlattens", unfollowed := true, recurses := true, apart := false }
def RouteFlattensSaid : Prop := routeFlattensRow.holds Try.pinned (OpenSpec.ofChange routeFlattensSpec)

/-- ITS FALSE NEIGHBOUR: 'it returns false'. Refute it at one input. -/
def routeFlattensWrong : ChangeSpec := { name := "routeFlattens", fn := fun _ => fun
  | [d1, d2] => { results := [.lit (.bool false)], args := [d1, d2] }
  | _ => none }
def RouteFlattensWrongFalsely : Prop := routeFlattensRow.holds Try.pinned (OpenSpec.ofChange routeFlattensWrong)

/-- 'layoutlaw28.RouteHull': WHATEVER THE INPUT: true; the input reads as it did. -/
def routeHullSpec : ChangeSpec := { name := "routeHull", fn := fun _ => fun
  | [d1, d2] => { results := [.lit (.bool true)], args := [d1, d2] }
  | _ => none }
def routeHullRow : OpenClaim := { program := "ytnleimbfafcclaa", sum := "83b912b451b7f31a2fda2d05c1b04c19f4ba2f9188dd109a84afbd5570e4ddeb", func := "layout/layoutlaw28.RouteHull", spec := "routeHull", unfollowed := true, recurses := true, apart := false }
def RouteHullSaid : Prop := routeHullRow.holds Try.pinned (OpenSpec.ofChange routeHullSpec)

/-- ITS FALSE NEIGHBOUR: 'it returns false'. Refute it at one input. -/
def routeHullWrong : ChangeSpec := { name := "routeHull", fn := fun _ => fun
  | [d1, d2] => { results := [.lit (.bool false)], args := [d1, d2] }
  | _ => none }
def RouteHullWrongFalsely : Prop := routeHullRow.holds Try.pinned (OpenSpec.ofChange routeHullWrong)

/-- 'layoutlaw28.RouteClears': WHATEVER THE INPUT: true; the input reads as it did. -/
def routeClearsSpec : ChangeSpec := { name := "routeClears", fn := fun _ => fun
  | [d1, d2] => { results := [.lit (.bool true)], args := [d1, d2] }
  | _ => none }
def routeClearsRow : OpenClaim := { program := "ytnleimbfafcclaa", sum := "83b912b451b7f31a2fda2d05c1b04c19f4ba2f9188dd109a84afbd5570e4ddeb", func := "layout/layoutlaw28.RouteClears", spec := "routeClears", unfollowed := true, recurses := true, apart := false }
def RouteClearsSaid : Prop := routeClearsRow.holds Try.pinned (OpenSpec.ofChange routeClearsSpec)

/-- ITS FALSE NEIGHBOUR: 'it returns false'. Refute it at one input. -/
def routeClearsWrong : ChangeSpec := { name := "routeClears", fn := fun _ => fun
  | [d1, d2] => { results := [.lit (.bool false)], args := [d1, d2] }
  | _ => none }
def RouteClearsWrongFalsely : Prop := routeClearsRow.holds Try.pinned (OpenSpec.ofChange routeClearsWrong)

/- THE SECOND FORM. 'bulk': how many values and letters a reading holds, each counted each time it is reached (what is shared counts as often as it is met; a slice's spare places count too). A statement '..UptoSaid' is the law's where the arguments, and the package variables that the reading takes, are together of bulk at most 1048576: NARROWER than '..Said'. Prove '..Said' where nothing that the law and all that it calls make is longer than what came in: it says more and counts as full. Else prove '..UptoSaid'. A law counts once. -/
mutual
def uptoBulk {H : Type} : DataW H → Nat
  | .lit (.string bytes) => bytes.length + 1
  | .lit _ => 1
  | .nil => 1
  | .ptr d => uptoBulk d + 1
  | .slice elems spare => uptoBulkAll elems + uptoBulkAll spare + 1
  | .agg parts => uptoBulkAll parts + 1
  | .iface _ d => uptoBulk d + 1
  | .map entries => uptoBulkEntries entries + 1
  | .held _ => 1
def uptoBulkAll {H : Type} : List (DataW H) → Nat
  | [] => 0
  | d :: r => uptoBulk d + uptoBulkAll r
def uptoBulkEntries {H : Type} : List (Lit × DataW H) → Nat
  | [] => 0
  | x :: r => uptoBulkEntry x + uptoBulkEntries r
def uptoBulkEntry {H : Type} : Lit × DataW H → Nat
  | (.string bytes, d) => bytes.length + uptoBulk d + 1
  | (_, d) => uptoBulk d + 1
 end
def uptoSmall : (H : Type) → List (DataW H) → Bool := fun _ ds => decide (uptoBulkAll ds ≤ 1048576)
def OpenSpec.upto (s : _root_.Go.ChangeSpec) : _root_.Go.OpenSpec := { _root_.Go.OpenSpec.ofChange s with cond := some uptoSmall }

/-- 'layoutlaw28.RouteCurves', WHERE WHAT IT READS IS OF BULK AT MOST 1048576: true; the input reads as it did. -/
def routeCurvesUptoRow : OpenClaim := { program := "ytnleimbfafcclaa", sum := "83b912b451b7f31a2fda2d05c1b04c19f4ba2f9188dd109a84afbd5570e4ddeb", func := "layout/layoutlaw28.RouteCurves", spec := "routeCurves", unfollowed := true, recurses := true, apart := false, narrowed := true }
def RouteCurvesUptoSaid : Prop := routeCurvesUptoRow.holds Try.pinned (OpenSpec.upto routeCurvesSpec)

/-- 'layoutlaw28.RouteFlattens', WHERE WHAT IT READS IS OF BULK AT MOST 1048576: true; the input reads as it did. -/
def routeFlattensUptoRow : OpenClaim := { program := "ytnleimbfafcclaa", sum := "83b912b451b7f31a2fda2d05c1b04c19f4ba2f9188dd109a84afbd5570e4ddeb", func := "layout/layoutlaw28.RouteFlattens", spec := "routeFlattens", unfollowed := true, recurses := true, apart := false, narrowed := true }
def RouteFlattensUptoSaid : Prop := routeFlattensUptoRow.holds Try.pinned (OpenSpec.upto routeFlattensSpec)

/-- 'layoutlaw28.RouteHull', WHERE WHAT IT READS IS OF BULK AT MOST 1048576: true; the input reads as it did. -/
def routeHullUptoRow : OpenClaim := { program := "ytnleimbfafcclaa", sum := "83b912b451b7f31a2fda2d05c1b04c19f4ba2f9188dd109a84afbd5570e4ddeb", func := "layout/layoutlaw28.RouteHull", spec := "routeHull", unfollowed := true, recurses := true, apart := false, narrowed := true }
def RouteHullUptoSaid : Prop := routeHullUptoRow.holds Try.pinned (OpenSpec.upto routeHullSpec)

/-- 'layoutlaw28.RouteClears', WHERE WHAT IT READS IS OF BULK AT MOST 1048576: true; the input reads as it did. -/
def routeClearsUptoRow : OpenClaim := { program := "ytnleimbfafcclaa", sum := "83b912b451b7f31a2fda2d05c1b04c19f4ba2f9188dd109a84afbd5570e4ddeb", func := "layout/layoutlaw28.RouteClears", spec := "routeClears", unfollowed := true, recurses := true, apart := false, narrowed := true }
def RouteClearsUptoSaid : Prop := routeClearsUptoRow.holds Try.pinned (OpenSpec.upto routeClearsSpec)

end Rows
end Go.Proofs.Ytnleimbfafcclaa
