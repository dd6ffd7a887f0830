/-
  No cell of these rows narrows 'for every input' (looked for: loops, veiled, ifaces, maps, wideKeys, modest, calm, conditions, laid).
  DERIVED. THE GIVEN ROWS OF THIS SEAT. 7 by the template 'for every input the law returns true; each argument reads behind the call as it read before'; 0 by the template 'total and deterministic' (their statements: YtelghbnlceeecaaTotals.lean).
  GIVEN WITH THE SEED: the statements are not yours to turn. If you find one false, say at which input.
  Laid BY PROGRAM, IN A SANDBOX (cutbox-rows.mjs): the forced cells as the released guide's own fill.sh prints them over the translation 576feb1d9082ef8e… (all of the seat's roots in one cut). By AI agents, Wed Nov 11 2026. No macro, syntax, notation, axiom, sorry.
-/
import Derived.Test.YtelghbnlceeecaaChecked
import GoSem.Claim
import GoSem.ClaimJoined
import GoSem.ClaimMapViews
import Derived.JoinedTies
import Derived.KernelRfl
namespace Go.Proofs.Ytelghbnlceeecaa
/- THE CELL 'sum', in the pinned program and in every row, IS THE sha256 OF THE DUMP (.gsa) THAT YtelghbnlceeecaaProg.lean LOADS. Nothing in Lean hashes anything: it is a label: what it is worth is what the hold of that sum in a sandbox is worth. -/
noncomputable def Try.pinned : Pinned := { name := "ytelghbnlceeecaa", sum := "576feb1d9082ef8e61fb9d334f79486c270639c008ca1636089f6de741727a52", checked := Try.checked }
namespace Rows
def none {H : Type} : Left H := { results := [], args := [] }

/-- 'layoutlaw28.RouteLanes': WHATEVER THE INPUT: true; the input reads as it did. -/
def routeLanesSpec : ChangeSpec := { name := "routeLanes", fn := fun _ => fun
  | [d] => { results := [.lit (.bool true)], args := [d] }
  | _ => none }
def routeLanesRow : OpenClaim := { program := "ytelghbnlceeecaa", sum := "576feb1d9082ef8e61fb9d334f79486c270639c008ca1636089f6de741727a52", func := "layout/layoutlaw28.RouteLanes", spec := "routeLanes", unfollowed := true, recurses := true, apart := false }
def RouteLanesSaid : Prop := routeLanesRow.holds Try.pinned (OpenSpec.ofChange routeLanesSpec)

/-- ITS FALSE NEIGHBOUR: 'it returns false'. Refute it at one input. -/
def routeLanesWrong : ChangeSpec := { name := "routeLanes", fn := fun _ => fun
  | [d] => { results := [.lit (.bool false)], args := [d] }
  | _ => none }
def RouteLanesWrongFalsely : Prop := routeLanesRow.holds Try.pinned (OpenSpec.ofChange routeLanesWrong)

/-- 'layoutlaw28.RouteDown': WHATEVER THE INPUT: true; the input reads as it did. -/
def routeDownSpec : ChangeSpec := { name := "routeDown", fn := fun _ => fun
  | [d] => { results := [.lit (.bool true)], args := [d] }
  | _ => none }
def routeDownRow : OpenClaim := { program := "ytelghbnlceeecaa", sum := "576feb1d9082ef8e61fb9d334f79486c270639c008ca1636089f6de741727a52", func := "layout/layoutlaw28.RouteDown", spec := "routeDown", unfollowed := true, recurses := true, apart := false }
def RouteDownSaid : Prop := routeDownRow.holds Try.pinned (OpenSpec.ofChange routeDownSpec)

/-- ITS FALSE NEIGHBOUR: 'it returns false'. Refute it at one input. -/
def routeDownWrong : ChangeSpec := { name := "routeDown", fn := fun _ => fun
  | [d] => { results := [.lit (.bool false)], args := [d] }
  | _ => none }
def RouteDownWrongFalsely : Prop := routeDownRow.holds Try.pinned (OpenSpec.ofChange routeDownWrong)

/-- 'layoutlaw52.StableInversions': WHATEVER THE INPUT: true; the input reads as it did. -/
def stableInversionsSpec : ChangeSpec := { name := "stableInversions", fn := fun _ => fun
  | [d1, d2] => { results := [.lit (.bool true)], args := [d1, d2] }
  | _ => none }
def stableInversionsRow : OpenClaim := { program := "ytelghbnlceeecaa", sum := "576feb1d9082ef8e61fb9d334f79486c270639c008ca1636089f6de741727a52", func := "layout/layoutlaw52.StableInversions", spec := "stableInversions", unfollowed := true, recurses := true, apart := false }
def StableInversionsSaid : Prop := stableInversionsRow.holds Try.pinned (OpenSpec.ofChange stableInversionsSpec)

/-- ITS FALSE NEIGHBOUR: 'it returns false'. Refute it at one input. -/
def stableInversionsWrong : ChangeSpec := { name := "stableInversions", fn := fun _ => fun
  | [d1, d2] => { results := [.lit (.bool false)], args := [d1, d2] }
  | _ => none }
def StableInversionsWrongFalsely : Prop := stableInversionsRow.holds Try.pinned (OpenSpec.ofChange stableInversionsWrong)

/-- 'layoutlaw52.StablePrices': WHATEVER THE INPUT: true; the input reads as it did. -/
def stablePricesSpec : ChangeSpec := { name := "stablePrices", fn := fun _ => fun
  | [d1, d2, d3] => { results := [.lit (.bool true)], args := [d1, d2, d3] }
  | _ => none }
def stablePricesRow : OpenClaim := { program := "ytelghbnlceeecaa", sum := "576feb1d9082ef8e61fb9d334f79486c270639c008ca1636089f6de741727a52", func := "layout/layoutlaw52.StablePrices", spec := "stablePrices", unfollowed := true, recurses := true, apart := false }
def StablePricesSaid : Prop := stablePricesRow.holds Try.pinned (OpenSpec.ofChange stablePricesSpec)

/-- ITS FALSE NEIGHBOUR: 'it returns false'. Refute it at one input. -/
def stablePricesWrong : ChangeSpec := { name := "stablePrices", fn := fun _ => fun
  | [d1, d2, d3] => { results := [.lit (.bool false)], args := [d1, d2, d3] }
  | _ => none }
def StablePricesWrongFalsely : Prop := stablePricesRow.holds Try.pinned (OpenSpec.ofChange stablePricesWrong)

/-- 'layoutlaw52.StableLayers': WHATEVER THE INPUT: true; the input reads as it did. -/
def stableLayersSpec : ChangeSpec := { name := "stableLayers", fn := fun _ => fun
  | [d1, d2, d3] => { results := [.lit (.bool true)], args := [d1, d2, d3] }
  | _ => none }
def stableLayersRow : OpenClaim := { program := "ytelghbnlceeecaa", sum := "576feb1d9082ef8e61fb9d334f79486c270639c008ca1636089f6de741727a52", func := "layout/layoutlaw52.StableLayers", spec := "stableLayers", unfollowed := true, recurses := true, apart := false }
def StableLayersSaid : Prop := stableLayersRow.holds Try.pinned (OpenSpec.ofChange stableLayersSpec)

/-- ITS FALSE NEIGHBOUR: 'it returns false'. Refute it at one input. -/
def stableLayersWrong : ChangeSpec := { name := "stableLayers", fn := fun _ => fun
  | [d1, d2, d3] => { results := [.lit (.bool false)], args := [d1, d2, d3] }
  | _ => none }
def StableLayersWrongFalsely : Prop := stableLayersRow.holds Try.pinned (OpenSpec.ofChange stableLayersWrong)

/-- 'layoutlaw52.StableCosts': WHATEVER THE INPUT: true; the input reads as it did. -/
def stableCostsSpec : ChangeSpec := { name := "stableCosts", fn := fun _ => fun
  | [d1, d2, d3] => { results := [.lit (.bool true)], args := [d1, d2, d3] }
  | _ => none }
def stableCostsRow : OpenClaim := { program := "ytelghbnlceeecaa", sum := "576feb1d9082ef8e61fb9d334f79486c270639c008ca1636089f6de741727a52", func := "layout/layoutlaw52.StableCosts", spec := "stableCosts", unfollowed := true, recurses := true, apart := false }
def StableCostsSaid : Prop := stableCostsRow.holds Try.pinned (OpenSpec.ofChange stableCostsSpec)

/-- ITS FALSE NEIGHBOUR: 'it returns false'. Refute it at one input. -/
def stableCostsWrong : ChangeSpec := { name := "stableCosts", fn := fun _ => fun
  | [d1, d2, d3] => { results := [.lit (.bool false)], args := [d1, d2, d3] }
  | _ => none }
def StableCostsWrongFalsely : Prop := stableCostsRow.holds Try.pinned (OpenSpec.ofChange stableCostsWrong)

/-- 'layoutlaw52.StableKeeps': WHATEVER THE INPUT: true; the input reads as it did. -/
def stableKeepsSpec : ChangeSpec := { name := "stableKeeps", fn := fun _ => fun
  | [d1, d2, d3] => { results := [.lit (.bool true)], args := [d1, d2, d3] }
  | _ => none }
def stableKeepsRow : OpenClaim := { program := "ytelghbnlceeecaa", sum := "576feb1d9082ef8e61fb9d334f79486c270639c008ca1636089f6de741727a52", func := "layout/layoutlaw52.StableKeeps", spec := "stableKeeps", unfollowed := true, recurses := true, apart := false }
def StableKeepsSaid : Prop := stableKeepsRow.holds Try.pinned (OpenSpec.ofChange stableKeepsSpec)

/-- ITS FALSE NEIGHBOUR: 'it returns false'. Refute it at one input. -/
def stableKeepsWrong : ChangeSpec := { name := "stableKeeps", fn := fun _ => fun
  | [d1, d2, d3] => { results := [.lit (.bool false)], args := [d1, d2, d3] }
  | _ => none }
def StableKeepsWrongFalsely : Prop := stableKeepsRow.holds Try.pinned (OpenSpec.ofChange stableKeepsWrong)

/- THE SECOND FORM. 'bulk': how many values and letters a reading holds, each counted each time it is reached (what is shared counts as often as it is met; a slice's spare places count too). A statement '..UptoSaid' is the law's where the arguments, and the package variables that the reading takes, are together of bulk at most 1048576: NARROWER than '..Said'. Prove '..Said' where nothing that the law and all that it calls make is longer than what came in: it says more and counts as full. Else prove '..UptoSaid'. A law counts once. -/
mutual
def uptoBulk {H : Type} : DataW H → Nat
  | .lit (.string bytes) => bytes.length + 1
  | .lit _ => 1
  | .nil => 1
  | .ptr d => uptoBulk d + 1
  | .slice elems spare => uptoBulkAll elems + uptoBulkAll spare + 1
  | .agg parts => uptoBulkAll parts + 1
  | .iface _ d => uptoBulk d + 1
  | .map entries => uptoBulkEntries entries + 1
  | .held _ => 1
def uptoBulkAll {H : Type} : List (DataW H) → Nat
  | [] => 0
  | d :: r => uptoBulk d + uptoBulkAll r
def uptoBulkEntries {H : Type} : List (Lit × DataW H) → Nat
  | [] => 0
  | x :: r => uptoBulkEntry x + uptoBulkEntries r
def uptoBulkEntry {H : Type} : Lit × DataW H → Nat
  | (.string bytes, d) => bytes.length + uptoBulk d + 1
  | (_, d) => uptoBulk d + 1
 end
def uptoSmall : (H : Type) → List (DataW H) → Bool := fun _ ds => decide (uptoBulkAll ds ≤ 1048576)
def OpenSpec.upto (s : _root_.Go.ChangeSpec) : _root_.Go.OpenSpec := { _root_.Go.OpenSpec.ofChange s with cond := some uptoSmall }

/-- 'layoutlaw28.RouteLanes', WHERE WHAT IT READS IS OF BULK AT MOST 1048576: true; the input reads as it did. -/
def routeLanesUptoRow : OpenClaim := { program := "ytelghbnlceeecaa", sum := "576feb1d9082ef8e61fb9d334f79486c270639c008ca1636089f6de741727a52", func := "layout/layoutlaw28.RouteLanes", spec := "routeLanes", unfollowed := true, recurses := true, apart := false, narrowed := true }
def RouteLanesUptoSaid : Prop := routeLanesUptoRow.holds Try.pinned (OpenSpec.upto routeLanesSpec)

/-- 'layoutlaw28.RouteDown', WHERE WHAT IT READS IS OF BULK AT MOST 1048576: true; the input reads as it did. -/
def routeDownUptoRow : OpenClaim := { program := "ytelghbnlceeecaa", sum := "576feb1d9082ef8e61fb9d334f79486c270639c008ca1636089f6de741727a52", func := "layout/layoutlaw28.RouteDown", spec := "routeDown", unfollowed := true, recurses := true, apart := false, narrowed := true }
def RouteDownUptoSaid : Prop := routeDownUptoRow.holds Try.pinned (OpenSpec.upto routeDownSpec)

/-- 'layoutlaw52.StableInversions', WHERE WHAT IT READS IS OF BULK AT MOST 1048576: true; the input reads as it did. -/
def stableInversionsUptoRow : OpenClaim := { program := "ytelghbnlceeecaa", sum := "576feb1d9082ef8e61fb9d334f79486c270639c008ca1636089f6de741727a52", func := "layout/layoutlaw52.StableInversions", spec := "stableInversions", unfollowed := true, recurses := true, apart := false, narrowed := true }
def StableInversionsUptoSaid : Prop := stableInversionsUptoRow.holds Try.pinned (OpenSpec.upto stableInversionsSpec)

/-- 'layoutlaw52.StablePrices', WHERE WHAT IT READS IS OF BULK AT MOST 1048576: true; the input reads as it did. -/
def stablePricesUptoRow : OpenClaim := { program := "ytelghbnlceeecaa", sum := "576feb1d9082ef8e61fb9d334f79486c270639c008ca1636089f6de741727a52", func := "layout/layoutlaw52.StablePrices", spec := "stablePrices", unfollowed := true, recurses := true, apart := false, narrowed := true }
def StablePricesUptoSaid : Prop := stablePricesUptoRow.holds Try.pinned (OpenSpec.upto stablePricesSpec)

/-- 'layoutlaw52.StableLayers', WHERE WHAT IT READS IS OF BULK AT MOST 1048576: true; the input reads as it did. -/
def stableLayersUptoRow : OpenClaim := { program := "ytelghbnlceeecaa", sum := "576feb1d9082ef8e61fb9d334f79486c270639c008ca1636089f6de741727a52", func := "layout/layoutlaw52.StableLayers", spec := "stableLayers", unfollowed := true, recurses := true, apart := false, narrowed := true }
def StableLayersUptoSaid : Prop := stableLayersUptoRow.holds Try.pinned (OpenSpec.upto stableLayersSpec)

/-- 'layoutlaw52.StableCosts', WHERE WHAT IT READS IS OF BULK AT MOST 1048576: true; the input reads as it did. -/
def stableCostsUptoRow : OpenClaim := { program := "ytelghbnlceeecaa", sum := "576feb1d9082ef8e61fb9d334f79486c270639c008ca1636089f6de741727a52", func := "layout/layoutlaw52.StableCosts", spec := "stableCosts", unfollowed := true, recurses := true, apart := false, narrowed := true }
def StableCostsUptoSaid : Prop := stableCostsUptoRow.holds Try.pinned (OpenSpec.upto stableCostsSpec)

/-- 'layoutlaw52.StableKeeps', WHERE WHAT IT READS IS OF BULK AT MOST 1048576: true; the input reads as it did. -/
def stableKeepsUptoRow : OpenClaim := { program := "ytelghbnlceeecaa", sum := "576feb1d9082ef8e61fb9d334f79486c270639c008ca1636089f6de741727a52", func := "layout/layoutlaw52.StableKeeps", spec := "stableKeeps", unfollowed := true, recurses := true, apart := false, narrowed := true }
def StableKeepsUptoSaid : Prop := stableKeepsUptoRow.holds Try.pinned (OpenSpec.upto stableKeepsSpec)

end Rows
end Go.Proofs.Ytelghbnlceeecaa
