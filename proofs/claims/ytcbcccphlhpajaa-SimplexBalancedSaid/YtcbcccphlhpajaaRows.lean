/-
  No cell of these rows narrows 'for every input' (looked for: loops, veiled, ifaces, maps, wideKeys, modest, calm, conditions, laid).
  DERIVED. THE GIVEN ROWS OF THIS SEAT. 5 by the template 'for every input the law returns true; each argument reads behind the call as it read before'; 0 by the template 'total and deterministic' (their statements: YtcbcccphlhpajaaTotals.lean).
  GIVEN WITH THE SEED: the statements are not yours to turn. If you find one false, say at which input.
  Laid BY PROGRAM, IN A SANDBOX (cutbox-rows.mjs): the forced cells as the released guide's own fill.sh prints them over the translation 1f47108105845f0e… (all of the seat's roots in one cut). By AI agents, Wed Nov 11 2026. No macro, syntax, notation, axiom, sorry.
-/
import Derived.Test.YtcbcccphlhpajaaChecked
import GoSem.Claim
import GoSem.ClaimJoined
import GoSem.ClaimMapViews
import Derived.JoinedTies
import Derived.KernelRfl
namespace Go.Proofs.Ytcbcccphlhpajaa
/- THE CELL 'sum', in the pinned program and in every row, IS THE sha256 OF THE DUMP (.gsa) THAT YtcbcccphlhpajaaProg.lean LOADS. Nothing in Lean hashes anything: it is a label: what it is worth is what the hold of that sum in a sandbox is worth. -/
noncomputable def Try.pinned : Pinned := { name := "ytcbcccphlhpajaa", sum := "1f47108105845f0e18b87d7b2c5cc8bdd8d1aa32b53ad996c13311a40b1a4f99", checked := Try.checked }
namespace Rows
def none {H : Type} : Left H := { results := [], args := [] }

/-- 'layoutlaw20.SimplexChecks': WHATEVER THE INPUT: true; the input reads as it did. -/
def simplexChecksSpec : ChangeSpec := { name := "simplexChecks", fn := fun _ => fun
  | [d1, d2, d3] => { results := [.lit (.bool true)], args := [d1, d2, d3] }
  | _ => none }
def simplexChecksRow : OpenClaim := { program := "ytcbcccphlhpajaa", sum := "1f47108105845f0e18b87d7b2c5cc8bdd8d1aa32b53ad996c13311a40b1a4f99", func := "layout/layoutlaw20.SimplexChecks", spec := "simplexChecks", apart := false }
def SimplexChecksSaid : Prop := simplexChecksRow.holds Try.pinned (OpenSpec.ofChange simplexChecksSpec)

/-- ITS FALSE NEIGHBOUR: 'it returns false'. Refute it at one input. -/
def simplexChecksWrong : ChangeSpec := { name := "simplexChecks", fn := fun _ => fun
  | [d1, d2, d3] => { results := [.lit (.bool false)], args := [d1, d2, d3] }
  | _ => none }
def SimplexChecksWrongFalsely : Prop := simplexChecksRow.holds Try.pinned (OpenSpec.ofChange simplexChecksWrong)

/-- 'layoutlaw20.SimplexSolves': WHATEVER THE INPUT: true; the input reads as it did. -/
def simplexSolvesSpec : ChangeSpec := { name := "simplexSolves", fn := fun _ => fun
  | [d] => { results := [.lit (.bool true)], args := [d] }
  | _ => none }
def simplexSolvesRow : OpenClaim := { program := "ytcbcccphlhpajaa", sum := "1f47108105845f0e18b87d7b2c5cc8bdd8d1aa32b53ad996c13311a40b1a4f99", func := "layout/layoutlaw20.SimplexSolves", spec := "simplexSolves", apart := false }
def SimplexSolvesSaid : Prop := simplexSolvesRow.holds Try.pinned (OpenSpec.ofChange simplexSolvesSpec)

/-- ITS FALSE NEIGHBOUR: 'it returns false'. Refute it at one input. -/
def simplexSolvesWrong : ChangeSpec := { name := "simplexSolves", fn := fun _ => fun
  | [d] => { results := [.lit (.bool false)], args := [d] }
  | _ => none }
def SimplexSolvesWrongFalsely : Prop := simplexSolvesRow.holds Try.pinned (OpenSpec.ofChange simplexSolvesWrong)

/-- 'layoutlaw20.SimplexLeast': WHATEVER THE INPUT: true; the input reads as it did. -/
def simplexLeastSpec : ChangeSpec := { name := "simplexLeast", fn := fun _ => fun
  | [d1, d2] => { results := [.lit (.bool true)], args := [d1, d2] }
  | _ => none }
def simplexLeastRow : OpenClaim := { program := "ytcbcccphlhpajaa", sum := "1f47108105845f0e18b87d7b2c5cc8bdd8d1aa32b53ad996c13311a40b1a4f99", func := "layout/layoutlaw20.SimplexLeast", spec := "simplexLeast", apart := false }
def SimplexLeastSaid : Prop := simplexLeastRow.holds Try.pinned (OpenSpec.ofChange simplexLeastSpec)

/-- ITS FALSE NEIGHBOUR: 'it returns false'. Refute it at one input. -/
def simplexLeastWrong : ChangeSpec := { name := "simplexLeast", fn := fun _ => fun
  | [d1, d2] => { results := [.lit (.bool false)], args := [d1, d2] }
  | _ => none }
def SimplexLeastWrongFalsely : Prop := simplexLeastRow.holds Try.pinned (OpenSpec.ofChange simplexLeastWrong)

/-- 'layoutlaw20.SimplexBalanced': WHATEVER THE INPUT: true; the input reads as it did. -/
def simplexBalancedSpec : ChangeSpec := { name := "simplexBalanced", fn := fun _ => fun
  | [d] => { results := [.lit (.bool true)], args := [d] }
  | _ => none }
def simplexBalancedRow : OpenClaim := { program := "ytcbcccphlhpajaa", sum := "1f47108105845f0e18b87d7b2c5cc8bdd8d1aa32b53ad996c13311a40b1a4f99", func := "layout/layoutlaw20.SimplexBalanced", spec := "simplexBalanced", apart := false }
def SimplexBalancedSaid : Prop := simplexBalancedRow.holds Try.pinned (OpenSpec.ofChange simplexBalancedSpec)

/-- ITS FALSE NEIGHBOUR: 'it returns false'. Refute it at one input. -/
def simplexBalancedWrong : ChangeSpec := { name := "simplexBalanced", fn := fun _ => fun
  | [d] => { results := [.lit (.bool false)], args := [d] }
  | _ => none }
def SimplexBalancedWrongFalsely : Prop := simplexBalancedRow.holds Try.pinned (OpenSpec.ofChange simplexBalancedWrong)

/-- 'layoutlaw20.SimplexShifts': WHATEVER THE INPUT: true; the input reads as it did. -/
def simplexShiftsSpec : ChangeSpec := { name := "simplexShifts", fn := fun _ => fun
  | [d1, d2, d3] => { results := [.lit (.bool true)], args := [d1, d2, d3] }
  | _ => none }
def simplexShiftsRow : OpenClaim := { program := "ytcbcccphlhpajaa", sum := "1f47108105845f0e18b87d7b2c5cc8bdd8d1aa32b53ad996c13311a40b1a4f99", func := "layout/layoutlaw20.SimplexShifts", spec := "simplexShifts", apart := false }
def SimplexShiftsSaid : Prop := simplexShiftsRow.holds Try.pinned (OpenSpec.ofChange simplexShiftsSpec)

/-- ITS FALSE NEIGHBOUR: 'it returns false'. Refute it at one input. -/
def simplexShiftsWrong : ChangeSpec := { name := "simplexShifts", fn := fun _ => fun
  | [d1, d2, d3] => { results := [.lit (.bool false)], args := [d1, d2, d3] }
  | _ => none }
def SimplexShiftsWrongFalsely : Prop := simplexShiftsRow.holds Try.pinned (OpenSpec.ofChange simplexShiftsWrong)

/- THE SECOND FORM. 'bulk': how many values and letters a reading holds, each counted each time it is reached (what is shared counts as often as it is met; a slice's spare places count too). A statement '..UptoSaid' is the law's where the arguments, and the package variables that the reading takes, are together of bulk at most 1048576: NARROWER than '..Said'. Prove '..Said' where nothing that the law and all that it calls make is longer than what came in: it says more and counts as full. Else prove '..UptoSaid'. A law counts once. -/
mutual
def uptoBulk {H : Type} : DataW H → Nat
  | .lit (.string bytes) => bytes.length + 1
  | .lit _ => 1
  | .nil => 1
  | .ptr d => uptoBulk d + 1
  | .slice elems spare => uptoBulkAll elems + uptoBulkAll spare + 1
  | .agg parts => uptoBulkAll parts + 1
  | .iface _ d => uptoBulk d + 1
  | .map entries => uptoBulkEntries entries + 1
  | .held _ => 1
def uptoBulkAll {H : Type} : List (DataW H) → Nat
  | [] => 0
  | d :: r => uptoBulk d + uptoBulkAll r
def uptoBulkEntries {H : Type} : List (Lit × DataW H) → Nat
  | [] => 0
  | x :: r => uptoBulkEntry x + uptoBulkEntries r
def uptoBulkEntry {H : Type} : Lit × DataW H → Nat
  | (.string bytes, d) => bytes.length + uptoBulk d + 1
  | (_, d) => uptoBulk d + 1
 end
def uptoSmall : (H : Type) → List (DataW H) → Bool := fun _ ds => decide (uptoBulkAll ds ≤ 1048576)
def OpenSpec.upto (s : _root_.Go.ChangeSpec) : _root_.Go.OpenSpec := { _root_.Go.OpenSpec.ofChange s with cond := some uptoSmall }

/-- 'layoutlaw20.SimplexChecks', WHERE WHAT IT READS IS OF BULK AT MOST 1048576: true; the input reads as it did. -/
def simplexChecksUptoRow : OpenClaim := { program := "ytcbcccphlhpajaa", sum := "1f47108105845f0e18b87d7b2c5cc8bdd8d1aa32b53ad996c13311a40b1a4f99", func := "layout/layoutlaw20.SimplexChecks", spec := "simplexChecks", apart := false, narrowed := true }
def SimplexChecksUptoSaid : Prop := simplexChecksUptoRow.holds Try.pinned (OpenSpec.upto simplexChecksSpec)

/-- 'layoutlaw20.SimplexSolves', WHERE WHAT IT READS IS OF BULK AT MOST 1048576: true; the input reads as it did. -/
def simplexSolvesUptoRow : OpenClaim := { program := "ytcbcccphlhpajaa", sum := "1f47108105845f0e18b87d7b2c5cc8bdd8d1aa32b53ad996c13311a40b1a4f99", func := "layout/layoutlaw20.SimplexSolves", spec := "simplexSolves", apart := false, narrowed := true }
def SimplexSolvesUptoSaid : Prop := simplexSolvesUptoRow.holds Try.pinned (OpenSpec.upto simplexSolvesSpec)

/-- 'layoutlaw20.SimplexLeast', WHERE WHAT IT READS IS OF BULK AT MOST 1048576: true; the input reads as it did. -/
def simplexLeastUptoRow : OpenClaim := { program := "ytcbcccphlhpajaa", sum := "1f47108105845f0e18b87d7b2c5cc8bdd8d1aa32b53ad996c13311a40b1a4f99", func := "layout/layoutlaw20.SimplexLeast", spec := "simplexLeast", apart := false, narrowed := true }
def SimplexLeastUptoSaid : Prop := simplexLeastUptoRow.holds Try.pinned (OpenSpec.upto simplexLeastSpec)

/-- 'layoutlaw20.SimplexBalanced', WHERE WHAT IT READS IS OF BULK AT MOST 1048576: true; the input reads as it did. -/
def simplexBalancedUptoRow : OpenClaim := { program := "ytcbcccphlhpajaa", sum := "1f47108105845f0e18b87d7b2c5cc8bdd8d1aa32b53ad996c13311a40b1a4f99", func := "layout/layoutlaw20.SimplexBalanced", spec := "simplexBalanced", apart := false, narrowed := true }
def SimplexBalancedUptoSaid : Prop := simplexBalancedUptoRow.holds Try.pinned (OpenSpec.upto simplexBalancedSpec)

/-- 'layoutlaw20.SimplexShifts', WHERE WHAT IT READS IS OF BULK AT MOST 1048576: true; the input reads as it did. -/
def simplexShiftsUptoRow : OpenClaim := { program := "ytcbcccphlhpajaa", sum := "1f47108105845f0e18b87d7b2c5cc8bdd8d1aa32b53ad996c13311a40b1a4f99", func := "layout/layoutlaw20.SimplexShifts", spec := "simplexShifts", apart := false, narrowed := true }
def SimplexShiftsUptoSaid : Prop := simplexShiftsUptoRow.holds Try.pinned (OpenSpec.upto simplexShiftsSpec)

end Rows
end Go.Proofs.Ytcbcccphlhpajaa
