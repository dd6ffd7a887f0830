/-
  No cell of these rows narrows 'for every input' (looked for: loops, veiled, ifaces, maps, wideKeys, modest, calm, conditions, laid).
  DERIVED. THE GIVEN ROWS OF THIS SEAT. 5 by the template 'for every input the law returns true; each argument reads behind the call as it read before'; 0 by the template 'total and deterministic' (their statements: YtldbcbclhpcofaaGreatTotals.lean).
  GIVEN WITH THE SEED: the statements are not yours to turn. If you find one false, say at which input.
  Laid BY PROGRAM, IN A SANDBOX (cutbox-rows.mjs): the forced cells as the released guide's own fill.sh prints them over the translation 80d1dfeb3e26ef69… (all of the seat's roots in one cut). By AI agents, Wed Nov 11 2026. No macro, syntax, notation, axiom, sorry.
-/
import Derived.Test.YtldbcbclhpcofaaGreatChecked
import GoSem.Claim
import GoSem.ClaimJoined
import GoSem.ClaimMapViews
import Derived.JoinedTies
import Derived.KernelRfl
namespace Go.Proofs.YtldbcbclhpcofaaGreat
/- THE CELL 'sum', in the pinned program and in every row, IS THE sha256 OF THE DUMP (.gsa) THAT YtldbcbclhpcofaaGreatProg.lean LOADS. Nothing in Lean hashes anything: it is a label: what it is worth is what the hold of that sum in a sandbox is worth. -/
noncomputable def Tryz.pinned : Pinned := { name := "ytldbcbclhpcofaagreat", sum := "80d1dfeb3e26ef69f350e25a64db600907f3c1d5674521cf62f07b7e2cbf9e8f", checked := Tryz.checked }
namespace Rows
def none {H : Type} : Left H := { results := [], args := [] }

/-- 'layoutlaw25.OrderingExact': WHATEVER THE INPUT: true; the input reads as it did. -/
def orderingExactSpec : ChangeSpec := { name := "orderingExact", fn := fun _ => fun
  | [d1, d2, d3] => { results := [.lit (.bool true)], args := [d1, d2, d3] }
  | _ => none }
def orderingExactRow : OpenClaim := { program := "ytldbcbclhpcofaagreat", sum := "80d1dfeb3e26ef69f350e25a64db600907f3c1d5674521cf62f07b7e2cbf9e8f", func := "layout/layoutlaw25.OrderingExact", spec := "orderingExact", unfollowed := true, recurses := true, apart := false }
def OrderingExactSaid : Prop := orderingExactRow.holds Tryz.pinned (OpenSpec.ofChange orderingExactSpec)

/-- ITS FALSE NEIGHBOUR: 'it returns false'. Refute it at one input. -/
def orderingExactWrong : ChangeSpec := { name := "orderingExact", fn := fun _ => fun
  | [d1, d2, d3] => { results := [.lit (.bool false)], args := [d1, d2, d3] }
  | _ => none }
def OrderingExactWrongFalsely : Prop := orderingExactRow.holds Tryz.pinned (OpenSpec.ofChange orderingExactWrong)

/-- 'layoutlaw25.OrderingRefines': WHATEVER THE INPUT: true; the input reads as it did. -/
def orderingRefinesSpec : ChangeSpec := { name := "orderingRefines", fn := fun _ => fun
  | [d] => { results := [.lit (.bool true)], args := [d] }
  | _ => none }
def orderingRefinesRow : OpenClaim := { program := "ytldbcbclhpcofaagreat", sum := "80d1dfeb3e26ef69f350e25a64db600907f3c1d5674521cf62f07b7e2cbf9e8f", func := "layout/layoutlaw25.OrderingRefines", spec := "orderingRefines", unfollowed := true, recurses := true, apart := false }
def OrderingRefinesSaid : Prop := orderingRefinesRow.holds Tryz.pinned (OpenSpec.ofChange orderingRefinesSpec)

/-- ITS FALSE NEIGHBOUR: 'it returns false'. Refute it at one input. -/
def orderingRefinesWrong : ChangeSpec := { name := "orderingRefines", fn := fun _ => fun
  | [d] => { results := [.lit (.bool false)], args := [d] }
  | _ => none }
def OrderingRefinesWrongFalsely : Prop := orderingRefinesRow.holds Tryz.pinned (OpenSpec.ofChange orderingRefinesWrong)

/-- 'layoutlaw25.OrderingRuns': WHATEVER THE INPUT: true; the input reads as it did. -/
def orderingRunsSpec : ChangeSpec := { name := "orderingRuns", fn := fun _ => fun
  | [d1, d2] => { results := [.lit (.bool true)], args := [d1, d2] }
  | _ => none }
def orderingRunsRow : OpenClaim := { program := "ytldbcbclhpcofaagreat", sum := "80d1dfeb3e26ef69f350e25a64db600907f3c1d5674521cf62f07b7e2cbf9e8f", func := "layout/layoutlaw25.OrderingRuns", spec := "orderingRuns", unfollowed := true, recurses := true, apart := false }
def OrderingRunsSaid : Prop := orderingRunsRow.holds Tryz.pinned (OpenSpec.ofChange orderingRunsSpec)

/-- ITS FALSE NEIGHBOUR: 'it returns false'. Refute it at one input. -/
def orderingRunsWrong : ChangeSpec := { name := "orderingRuns", fn := fun _ => fun
  | [d1, d2] => { results := [.lit (.bool false)], args := [d1, d2] }
  | _ => none }
def OrderingRunsWrongFalsely : Prop := orderingRunsRow.holds Tryz.pinned (OpenSpec.ofChange orderingRunsWrong)

/-- 'layoutlaw25.OrderingGains': WHATEVER THE INPUT: true; the input reads as it did. -/
def orderingGainsSpec : ChangeSpec := { name := "orderingGains", fn := fun _ => fun
  | [d1, d2] => { results := [.lit (.bool true)], args := [d1, d2] }
  | _ => none }
def orderingGainsRow : OpenClaim := { program := "ytldbcbclhpcofaagreat", sum := "80d1dfeb3e26ef69f350e25a64db600907f3c1d5674521cf62f07b7e2cbf9e8f", func := "layout/layoutlaw25.OrderingGains", spec := "orderingGains", unfollowed := true, recurses := true, apart := false }
def OrderingGainsSaid : Prop := orderingGainsRow.holds Tryz.pinned (OpenSpec.ofChange orderingGainsSpec)

/-- ITS FALSE NEIGHBOUR: 'it returns false'. Refute it at one input. -/
def orderingGainsWrong : ChangeSpec := { name := "orderingGains", fn := fun _ => fun
  | [d1, d2] => { results := [.lit (.bool false)], args := [d1, d2] }
  | _ => none }
def OrderingGainsWrongFalsely : Prop := orderingGainsRow.holds Tryz.pinned (OpenSpec.ofChange orderingGainsWrong)

/-- 'layoutlaw25.OrderingBest': WHATEVER THE INPUT: true; the input reads as it did. -/
def orderingBestSpec : ChangeSpec := { name := "orderingBest", fn := fun _ => fun
  | [d1, d2, d3] => { results := [.lit (.bool true)], args := [d1, d2, d3] }
  | _ => none }
def orderingBestRow : OpenClaim := { program := "ytldbcbclhpcofaagreat", sum := "80d1dfeb3e26ef69f350e25a64db600907f3c1d5674521cf62f07b7e2cbf9e8f", func := "layout/layoutlaw25.OrderingBest", spec := "orderingBest", unfollowed := true, recurses := true, apart := false }
def OrderingBestSaid : Prop := orderingBestRow.holds Tryz.pinned (OpenSpec.ofChange orderingBestSpec)

/-- ITS FALSE NEIGHBOUR: 'it returns false'. Refute it at one input. -/
def orderingBestWrong : ChangeSpec := { name := "orderingBest", fn := fun _ => fun
  | [d1, d2, d3] => { results := [.lit (.bool false)], args := [d1, d2, d3] }
  | _ => none }
def OrderingBestWrongFalsely : Prop := orderingBestRow.holds Tryz.pinned (OpenSpec.ofChange orderingBestWrong)

/- THE SECOND FORM. 'bulk': how many values and letters a reading holds, each counted each time it is reached (what is shared counts as often as it is met; a slice's spare places count too). A statement '..UptoSaid' is the law's where the arguments, and the package variables that the reading takes, are together of bulk at most 1048576: NARROWER than '..Said'. Prove '..Said' where nothing that the law and all that it calls make is longer than what came in: it says more and counts as full. Else prove '..UptoSaid'. A law counts once. -/
mutual
def uptoBulk {H : Type} : DataW H → Nat
  | .lit (.string bytes) => bytes.length + 1
  | .lit _ => 1
  | .nil => 1
  | .ptr d => uptoBulk d + 1
  | .slice elems spare => uptoBulkAll elems + uptoBulkAll spare + 1
  | .agg parts => uptoBulkAll parts + 1
  | .iface _ d => uptoBulk d + 1
  | .map entries => uptoBulkEntries entries + 1
  | .held _ => 1
def uptoBulkAll {H : Type} : List (DataW H) → Nat
  | [] => 0
  | d :: r => uptoBulk d + uptoBulkAll r
def uptoBulkEntries {H : Type} : List (Lit × DataW H) → Nat
  | [] => 0
  | x :: r => uptoBulkEntry x + uptoBulkEntries r
def uptoBulkEntry {H : Type} : Lit × DataW H → Nat
  | (.string bytes, d) => bytes.length + uptoBulk d + 1
  | (_, d) => uptoBulk d + 1
 end
def uptoSmall : (H : Type) → List (DataW H) → Bool := fun _ ds => decide (uptoBulkAll ds ≤ 1048576)
def OpenSpec.upto (s : _root_.Go.ChangeSpec) : _root_.Go.OpenSpec := { _root_.Go.OpenSpec.ofChange s with cond := some uptoSmall }

/-- 'layoutlaw25.OrderingExact', WHERE WHAT IT READS IS OF BULK AT MOST 1048576: true; the input reads as it did. -/
def orderingExactUptoRow : OpenClaim := { program := "ytldbcbclhpcofaagreat", sum := "80d1dfeb3e26ef69f350e25a64db600907f3c1d5674521cf62f07b7e2cbf9e8f", func := "layout/layoutlaw25.OrderingExact", spec := "orderingExact", unfollowed := true, recurses := true, apart := false, narrowed := true }
def OrderingExactUptoSaid : Prop := orderingExactUptoRow.holds Tryz.pinned (OpenSpec.upto orderingExactSpec)

/-- 'layoutlaw25.OrderingRefines', WHERE WHAT IT READS IS OF BULK AT MOST 1048576: true; the input reads as it did. -/
def orderingRefinesUptoRow : OpenClaim := { program := "ytldbcbclhpcofaagreat", sum := "80d1dfeb3e26ef69f350e25a64db600907f3c1d5674521cf62f07b7e2cbf9e8f", func := "layout/layoutlaw25.OrderingRefines", spec := "orderingRefines", unfollowed := true, recurses := true, apart := false, narrowed := true }
def OrderingRefinesUptoSaid : Prop := orderingRefinesUptoRow.holds Tryz.pinned (OpenSpec.upto orderingRefinesSpec)

/-- 'layoutlaw25.OrderingRuns', WHERE WHAT IT READS IS OF BULK AT MOST 1048576: true; the input reads as it did. -/
def orderingRunsUptoRow : OpenClaim := { program := "ytldbcbclhpcofaagreat", sum := "80d1dfeb3e26ef69f350e25a64db600907f3c1d5674521cf62f07b7e2cbf9e8f", func := "layout/layoutlaw25.OrderingRuns", spec := "orderingRuns", unfollowed := true, recurses := true, apart := false, narrowed := true }
def OrderingRunsUptoSaid : Prop := orderingRunsUptoRow.holds Tryz.pinned (OpenSpec.upto orderingRunsSpec)

/-- 'layoutlaw25.OrderingGains', WHERE WHAT IT READS IS OF BULK AT MOST 1048576: true; the input reads as it did. -/
def orderingGainsUptoRow : OpenClaim := { program := "ytldbcbclhpcofaagreat", sum := "80d1dfeb3e26ef69f350e25a64db600907f3c1d5674521cf62f07b7e2cbf9e8f", func := "layout/layoutlaw25.OrderingGains", spec := "orderingGains", unfollowed := true, recurses := true, apart := false, narrowed := true }
def OrderingGainsUptoSaid : Prop := orderingGainsUptoRow.holds Tryz.pinned (OpenSpec.upto orderingGainsSpec)

/-- 'layoutlaw25.OrderingBest', WHERE WHAT IT READS IS OF BULK AT MOST 1048576: true; the input reads as it did. -/
def orderingBestUptoRow : OpenClaim := { program := "ytldbcbclhpcofaagreat", sum := "80d1dfeb3e26ef69f350e25a64db600907f3c1d5674521cf62f07b7e2cbf9e8f", func := "layout/layoutlaw25.OrderingBest", spec := "orderingBest", unfollowed := true, recurses := true, apart := false, narrowed := true }
def OrderingBestUptoSaid : Prop := orderingBestUptoRow.holds Tryz.pinned (OpenSpec.upto orderingBestSpec)

end Rows
end Go.Proofs.YtldbcbclhpcofaaGreat
