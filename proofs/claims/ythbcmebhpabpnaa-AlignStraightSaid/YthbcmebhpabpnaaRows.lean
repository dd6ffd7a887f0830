/-
  No cell of these rows narrows 'for every input' (looked for: loops, veiled, ifaces, maps, wideKeys, modest, calm, conditions, laid).
  DERIVED. THE GIVEN ROWS OF THIS SEAT. 5 by the template 'for every input the law returns true; each argument reads behind the call as it read before'; 0 by the template 'total and deterministic' (their statements: YthbcmebhpabpnaaTotals.lean).
  GIVEN WITH THE SEED: the statements are not yours to turn. If you find one false, say at which input.
  Laid BY PROGRAM, IN A SANDBOX (cutbox-rows.mjs): the forced cells as the released guide's own fill.sh prints them over the translation a4886abbf3ad02a0… (all of the seat's roots in one cut). By AI agents, Wed Nov 11 2026. No macro, syntax, notation, axiom, sorry.
-/
import Derived.Test.YthbcmebhpabpnaaChecked
import GoSem.Claim
import GoSem.ClaimJoined
import GoSem.ClaimMapViews
import Derived.JoinedTies
import Derived.KernelRfl
namespace Go.Proofs.Ythbcmebhpabpnaa
/- THE CELL 'sum', in the pinned program and in every row, IS THE sha256 OF THE DUMP (.gsa) THAT YthbcmebhpabpnaaProg.lean LOADS. Nothing in Lean hashes anything: it is a label: what it is worth is what the hold of that sum in a sandbox is worth. -/
noncomputable def Try.pinned : Pinned := { name := "ythbcmebhpabpnaa", sum := "a4886abbf3ad02a0ca9d38b6140260dbdc1ade2ad1434000fdb8353b7d93fc40", checked := Try.checked }
namespace Rows
def none {H : Type} : Left H := { results := [], args := [] }

/-- 'layoutlaw26.AlignNets': WHATEVER THE INPUT: true; the input reads as it did. -/
def alignNetsSpec : ChangeSpec := { name := "alignNets", fn := fun _ => fun
  | [d1, d2, d3] => { results := [.lit (.bool true)], args := [d1, d2, d3] }
  | _ => none }
def alignNetsRow : OpenClaim := { program := "ythbcmebhpabpnaa", sum := "a4886abbf3ad02a0ca9d38b6140260dbdc1ade2ad1434000fdb8353b7d93fc40", func := "layout/layoutlaw26.AlignNets", spec := "alignNets", unfollowed := true, recurses := true, apart := false }
def AlignNetsSaid : Prop := alignNetsRow.holds Try.pinned (OpenSpec.ofChange alignNetsSpec)

/-- ITS FALSE NEIGHBOUR: 'it returns false'. Refute it at one input. -/
def alignNetsWrong : ChangeSpec := { name := "alignNets", fn := fun _ => fun
  | [d1, d2, d3] => { results := [.lit (.bool false)], args := [d1, d2, d3] }
  | _ => none }
def AlignNetsWrongFalsely : Prop := alignNetsRow.holds Try.pinned (OpenSpec.ofChange alignNetsWrong)

/-- 'layoutlaw26.AlignChecks': WHATEVER THE INPUT: true; the input reads as it did. -/
def alignChecksSpec : ChangeSpec := { name := "alignChecks", fn := fun _ => fun
  | [d] => { results := [.lit (.bool true)], args := [d] }
  | _ => none }
def alignChecksRow : OpenClaim := { program := "ythbcmebhpabpnaa", sum := "a4886abbf3ad02a0ca9d38b6140260dbdc1ade2ad1434000fdb8353b7d93fc40", func := "layout/layoutlaw26.AlignChecks", spec := "alignChecks", unfollowed := true, recurses := true, apart := false }
def AlignChecksSaid : Prop := alignChecksRow.holds Try.pinned (OpenSpec.ofChange alignChecksSpec)

/-- ITS FALSE NEIGHBOUR: 'it returns false'. Refute it at one input. -/
def alignChecksWrong : ChangeSpec := { name := "alignChecks", fn := fun _ => fun
  | [d] => { results := [.lit (.bool false)], args := [d] }
  | _ => none }
def AlignChecksWrongFalsely : Prop := alignChecksRow.holds Try.pinned (OpenSpec.ofChange alignChecksWrong)

/-- 'layoutlaw26.AlignSolves': WHATEVER THE INPUT: true; the input reads as it did. -/
def alignSolvesSpec : ChangeSpec := { name := "alignSolves", fn := fun _ => fun
  | [d1, d2, d3] => { results := [.lit (.bool true)], args := [d1, d2, d3] }
  | _ => none }
def alignSolvesRow : OpenClaim := { program := "ythbcmebhpabpnaa", sum := "a4886abbf3ad02a0ca9d38b6140260dbdc1ade2ad1434000fdb8353b7d93fc40", func := "layout/layoutlaw26.AlignSolves", spec := "alignSolves", unfollowed := true, recurses := true, apart := false }
def AlignSolvesSaid : Prop := alignSolvesRow.holds Try.pinned (OpenSpec.ofChange alignSolvesSpec)

/-- ITS FALSE NEIGHBOUR: 'it returns false'. Refute it at one input. -/
def alignSolvesWrong : ChangeSpec := { name := "alignSolves", fn := fun _ => fun
  | [d1, d2, d3] => { results := [.lit (.bool false)], args := [d1, d2, d3] }
  | _ => none }
def AlignSolvesWrongFalsely : Prop := alignSolvesRow.holds Try.pinned (OpenSpec.ofChange alignSolvesWrong)

/-- 'layoutlaw26.AlignLeast': WHATEVER THE INPUT: true; the input reads as it did. -/
def alignLeastSpec : ChangeSpec := { name := "alignLeast", fn := fun _ => fun
  | [d] => { results := [.lit (.bool true)], args := [d] }
  | _ => none }
def alignLeastRow : OpenClaim := { program := "ythbcmebhpabpnaa", sum := "a4886abbf3ad02a0ca9d38b6140260dbdc1ade2ad1434000fdb8353b7d93fc40", func := "layout/layoutlaw26.AlignLeast", spec := "alignLeast", unfollowed := true, recurses := true, apart := false }
def AlignLeastSaid : Prop := alignLeastRow.holds Try.pinned (OpenSpec.ofChange alignLeastSpec)

/-- ITS FALSE NEIGHBOUR: 'it returns false'. Refute it at one input. -/
def alignLeastWrong : ChangeSpec := { name := "alignLeast", fn := fun _ => fun
  | [d] => { results := [.lit (.bool false)], args := [d] }
  | _ => none }
def AlignLeastWrongFalsely : Prop := alignLeastRow.holds Try.pinned (OpenSpec.ofChange alignLeastWrong)

/-- 'layoutlaw26.AlignStraight': WHATEVER THE INPUT: true; the input reads as it did. -/
def alignStraightSpec : ChangeSpec := { name := "alignStraight", fn := fun _ => fun
  | [d1, d2, d3] => { results := [.lit (.bool true)], args := [d1, d2, d3] }
  | _ => none }
def alignStraightRow : OpenClaim := { program := "ythbcmebhpabpnaa", sum := "a4886abbf3ad02a0ca9d38b6140260dbdc1ade2ad1434000fdb8353b7d93fc40", func := "layout/layoutlaw26.AlignStraight", spec := "alignStraight", unfollowed := true, recurses := true, apart := false }
def AlignStraightSaid : Prop := alignStraightRow.holds Try.pinned (OpenSpec.ofChange alignStraightSpec)

/-- ITS FALSE NEIGHBOUR: 'it returns false'. Refute it at one input. -/
def alignStraightWrong : ChangeSpec := { name := "alignStraight", fn := fun _ => fun
  | [d1, d2, d3] => { results := [.lit (.bool false)], args := [d1, d2, d3] }
  | _ => none }
def AlignStraightWrongFalsely : Prop := alignStraightRow.holds Try.pinned (OpenSpec.ofChange alignStraightWrong)

/- THE SECOND FORM. 'bulk': how many values and letters a reading holds, each counted each time it is reached (what is shared counts as often as it is met; a slice's spare places count too). A statement '..UptoSaid' is the law's where the arguments, and the package variables that the reading takes, are together of bulk at most 1048576: NARROWER than '..Said'. Prove '..Said' where nothing that the law and all that it calls make is longer than what came in: it says more and counts as full. Else prove '..UptoSaid'. A law counts once. -/
mutual
def uptoBulk {H : Type} : DataW H → Nat
  | .lit (.string bytes) => bytes.length + 1
  | .lit _ => 1
  | .nil => 1
  | .ptr d => uptoBulk d + 1
  | .slice elems spare => uptoBulkAll elems + uptoBulkAll spare + 1
  | .agg parts => uptoBulkAll parts + 1
  | .iface _ d => uptoBulk d + 1
  | .map entries => uptoBulkEntries entries + 1
  | .held _ => 1
def uptoBulkAll {H : Type} : List (DataW H) → Nat
  | [] => 0
  | d :: r => uptoBulk d + uptoBulkAll r
def uptoBulkEntries {H : Type} : List (Lit × DataW H) → Nat
  | [] => 0
  | x :: r => uptoBulkEntry x + uptoBulkEntries r
def uptoBulkEntry {H : Type} : Lit × DataW H → Nat
  | (.string bytes, d) => bytes.length + uptoBulk d + 1
  | (_, d) => uptoBulk d + 1
 end
def uptoSmall : (H : Type) → List (DataW H) → Bool := fun _ ds => decide (uptoBulkAll ds ≤ 1048576)
def OpenSpec.upto (s : _root_.Go.ChangeSpec) : _root_.Go.OpenSpec := { _root_.Go.OpenSpec.ofChange s with cond := some uptoSmall }

/-- 'layoutlaw26.AlignNets', WHERE WHAT IT READS IS OF BULK AT MOST 1048576: true; the input reads as it did. -/
def alignNetsUptoRow : OpenClaim := { program := "ythbcmebhpabpnaa", sum := "a4886abbf3ad02a0ca9d38b6140260dbdc1ade2ad1434000fdb8353b7d93fc40", func := "layout/layoutlaw26.AlignNets", spec := "alignNets", unfollowed := true, recurses := true, apart := false, narrowed := true }
def AlignNetsUptoSaid : Prop := alignNetsUptoRow.holds Try.pinned (OpenSpec.upto alignNetsSpec)

/-- 'layoutlaw26.AlignChecks', WHERE WHAT IT READS IS OF BULK AT MOST 1048576: true; the input reads as it did. -/
def alignChecksUptoRow : OpenClaim := { program := "ythbcmebhpabpnaa", sum := "a4886abbf3ad02a0ca9d38b6140260dbdc1ade2ad1434000fdb8353b7d93fc40", func := "layout/layoutlaw26.AlignChecks", spec := "alignChecks", unfollowed := true, recurses := true, apart := false, narrowed := true }
def AlignChecksUptoSaid : Prop := alignChecksUptoRow.holds Try.pinned (OpenSpec.upto alignChecksSpec)

/-- 'layoutlaw26.AlignSolves', WHERE WHAT IT READS IS OF BULK AT MOST 1048576: true; the input reads as it did. -/
def alignSolvesUptoRow : OpenClaim := { program := "ythbcmebhpabpnaa", sum := "a4886abbf3ad02a0ca9d38b6140260dbdc1ade2ad1434000fdb8353b7d93fc40", func := "layout/layoutlaw26.AlignSolves", spec := "alignSolves", unfollowed := true, recurses := true, apart := false, narrowed := true }
def AlignSolvesUptoSaid : Prop := alignSolvesUptoRow.holds Try.pinned (OpenSpec.upto alignSolvesSpec)

/-- 'layoutlaw26.AlignLeast', WHERE WHAT IT READS IS OF BULK AT MOST 1048576: true; the input reads as it did. -/
def alignLeastUptoRow : OpenClaim := { program := "ythbcmebhpabpnaa", sum := "a4886abbf3ad02a0ca9d38b6140260dbdc1ade2ad1434000fdb8353b7d93fc40", func := "layout/layoutlaw26.AlignLeast", spec := "alignLeast", unfollowed := true, recurses := true, apart := false, narrowed := true }
def AlignLeastUptoSaid : Prop := alignLeastUptoRow.holds Try.pinned (OpenSpec.upto alignLeastSpec)

/-- 'layoutlaw26.AlignStraight', WHERE WHAT IT READS IS OF BULK AT MOST 1048576: true; the input reads as it did. -/
def alignStraightUptoRow : OpenClaim := { program := "ythbcmebhpabpnaa", sum := "a4886abbf3ad02a0ca9d38b6140260dbdc1ade2ad1434000fdb8353b7d93fc40", func := "layout/layoutlaw26.AlignStraight", spec := "alignStraight", unfollowed := true, recurses := true, apart := false, narrowed := true }
def AlignStraightUptoSaid : Prop := alignStraightUptoRow.holds Try.pinned (OpenSpec.upto alignStraightSpec)

end Rows
end Go.Proofs.Ythbcmebhpabpnaa
