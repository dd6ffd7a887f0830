/-
  No cell of these rows narrows 'for every input' (looked for: loops, veiled, ifaces, maps, wideKeys, modest, calm, conditions, laid).
  DERIVED. THE GIVEN ROWS OF THIS SEAT. 5 by the template 'for every input the law returns true; each argument reads behind the call as it read before'; 0 by the template 'total and deterministic' (their statements: YtldbcbclhpcofaaTotals.lean).
  GIVEN WITH THE SEED: the statements are not yours to turn. If you find one false, say at which input.
  Laid BY PROGRAM, IN A SANDBOX (cutbox-rows.mjs): the forced cells as the released guide's own fill.sh prints them over the translation b052269495101af4… (all of the seat's roots in one cut). By AI agents, Wed Nov 11 2026. No macro, syntax, notation, axiom, sorry.
-/
import Derived.Test.YtldbcbclhpcofaaChecked
import GoSem.Claim
import GoSem.ClaimJoined
import GoSem.ClaimMapViews
import Derived.JoinedTies
import Derived.KernelRfl
namespace Go.Proofs.Ytldbcbclhpcofaa
/- THE CELL 'sum', in the pinned program and in every row, IS THE sha256 OF THE DUMP (.gsa) THAT YtldbcbclhpcofaaProg.lean LOADS. Nothing in Lean hashes anything: it is a label: what it is worth is what the hold of that sum in a sandbox is worth. -/
noncomputable def Try.pinned : Pinned := { name := "ytldbcbclhpcofaa", sum := "b052269495101af4d710b2f273c397116836e3b6140343266eea3145d0aadc53", checked := Try.checked }
namespace Rows
def none {H : Type} : Left H := { results := [], args := [] }

/-- 'layoutlaw23.BaryCompares': WHATEVER THE INPUT: true; the input reads as it did. -/
def baryComparesSpec : ChangeSpec := { name := "baryCompares", fn := fun _ => fun
  | [d1, d2] => { results := [.lit (.bool true)], args := [d1, d2] }
  | _ => none }
def baryComparesRow : OpenClaim := { program := "ytldbcbclhpcofaa", sum := "b052269495101af4d710b2f273c397116836e3b6140343266eea3145d0aadc53", func := "layout/layoutlaw23.BaryCompares", spec := "baryCompares", unfollowed := true, recurses := true, apart := false }
def BaryComparesSaid : Prop := baryComparesRow.holds Try.pinned (OpenSpec.ofChange baryComparesSpec)

/-- ITS FALSE NEIGHBOUR: 'it returns false'. Refute it at one input. -/
def baryComparesWrong : ChangeSpec := { name := "baryCompares", fn := fun _ => fun
  | [d1, d2] => { results := [.lit (.bool false)], args := [d1, d2] }
  | _ => none }
def BaryComparesWrongFalsely : Prop := baryComparesRow.holds Try.pinned (OpenSpec.ofChange baryComparesWrong)

/-- 'layoutlaw23.BaryLayers': WHATEVER THE INPUT: true; the input reads as it did. -/
def baryLayersSpec : ChangeSpec := { name := "baryLayers", fn := fun _ => fun
  | [d1, d2, d3] => { results := [.lit (.bool true)], args := [d1, d2, d3] }
  | _ => none }
def baryLayersRow : OpenClaim := { program := "ytldbcbclhpcofaa", sum := "b052269495101af4d710b2f273c397116836e3b6140343266eea3145d0aadc53", func := "layout/layoutlaw23.BaryLayers", spec := "baryLayers", unfollowed := true, recurses := true, apart := false }
def BaryLayersSaid : Prop := baryLayersRow.holds Try.pinned (OpenSpec.ofChange baryLayersSpec)

/-- ITS FALSE NEIGHBOUR: 'it returns false'. Refute it at one input. -/
def baryLayersWrong : ChangeSpec := { name := "baryLayers", fn := fun _ => fun
  | [d1, d2, d3] => { results := [.lit (.bool false)], args := [d1, d2, d3] }
  | _ => none }
def BaryLayersWrongFalsely : Prop := baryLayersRow.holds Try.pinned (OpenSpec.ofChange baryLayersWrong)

/-- 'layoutlaw23.BaryImproves': WHATEVER THE INPUT: true; the input reads as it did. -/
def baryImprovesSpec : ChangeSpec := { name := "baryImproves", fn := fun _ => fun
  | [d1, d2] => { results := [.lit (.bool true)], args := [d1, d2] }
  | _ => none }
def baryImprovesRow : OpenClaim := { program := "ytldbcbclhpcofaa", sum := "b052269495101af4d710b2f273c397116836e3b6140343266eea3145d0aadc53", func := "layout/layoutlaw23.BaryImproves", spec := "baryImproves", unfollowed := true, recurses := true, apart := false }
def BaryImprovesSaid : Prop := baryImprovesRow.holds Try.pinned (OpenSpec.ofChange baryImprovesSpec)

/-- ITS FALSE NEIGHBOUR: 'it returns false'. Refute it at one input. -/
def baryImprovesWrong : ChangeSpec := { name := "baryImproves", fn := fun _ => fun
  | [d1, d2] => { results := [.lit (.bool false)], args := [d1, d2] }
  | _ => none }
def BaryImprovesWrongFalsely : Prop := baryImprovesRow.holds Try.pinned (OpenSpec.ofChange baryImprovesWrong)

/-- 'layoutlaw23.BaryKeeps': WHATEVER THE INPUT: true; the input reads as it did. -/
def baryKeepsSpec : ChangeSpec := { name := "baryKeeps", fn := fun _ => fun
  | [d1, d2, d3] => { results := [.lit (.bool true)], args := [d1, d2, d3] }
  | _ => none }
def baryKeepsRow : OpenClaim := { program := "ytldbcbclhpcofaa", sum := "b052269495101af4d710b2f273c397116836e3b6140343266eea3145d0aadc53", func := "layout/layoutlaw23.BaryKeeps", spec := "baryKeeps", unfollowed := true, recurses := true, apart := false }
def BaryKeepsSaid : Prop := baryKeepsRow.holds Try.pinned (OpenSpec.ofChange baryKeepsSpec)

/-- ITS FALSE NEIGHBOUR: 'it returns false'. Refute it at one input. -/
def baryKeepsWrong : ChangeSpec := { name := "baryKeeps", fn := fun _ => fun
  | [d1, d2, d3] => { results := [.lit (.bool false)], args := [d1, d2, d3] }
  | _ => none }
def BaryKeepsWrongFalsely : Prop := baryKeepsRow.holds Try.pinned (OpenSpec.ofChange baryKeepsWrong)

/-- 'layoutlaw23.BarySweeps': WHATEVER THE INPUT: true; the input reads as it did. -/
def barySweepsSpec : ChangeSpec := { name := "barySweeps", fn := fun _ => fun
  | [d1, d2] => { results := [.lit (.bool true)], args := [d1, d2] }
  | _ => none }
def barySweepsRow : OpenClaim := { program := "ytldbcbclhpcofaa", sum := "b052269495101af4d710b2f273c397116836e3b6140343266eea3145d0aadc53", func := "layout/layoutlaw23.BarySweeps", spec := "barySweeps", unfollowed := true, recurses := true, apart := false }
def BarySweepsSaid : Prop := barySweepsRow.holds Try.pinned (OpenSpec.ofChange barySweepsSpec)

/-- ITS FALSE NEIGHBOUR: 'it returns false'. Refute it at one input. -/
def barySweepsWrong : ChangeSpec := { name := "barySweeps", fn := fun _ => fun
  | [d1, d2] => { results := [.lit (.bool false)], args := [d1, d2] }
  | _ => none }
def BarySweepsWrongFalsely : Prop := barySweepsRow.holds Try.pinned (OpenSpec.ofChange barySweepsWrong)

/- THE SECOND FORM. 'bulk': how many values and letters a reading holds, each counted each time it is reached (what is shared counts as often as it is met; a slice's spare places count too). A statement '..UptoSaid' is the law's where the arguments, and the package variables that the reading takes, are together of bulk at most 1048576: NARROWER than '..Said'. Prove '..Said' where nothing that the law and all that it calls make is longer than what came in: it says more and counts as full. Else prove '..UptoSaid'. A law counts once. -/
mutual
def uptoBulk {H : Type} : DataW H → Nat
  | .lit (.string bytes) => bytes.length + 1
  | .lit _ => 1
  | .nil => 1
  | .ptr d => uptoBulk d + 1
  | .slice elems spare => uptoBulkAll elems + uptoBulkAll spare + 1
  | .agg parts => uptoBulkAll parts + 1
  | .iface _ d => uptoBulk d + 1
  | .map entries => uptoBulkEntries entries + 1
  | .held _ => 1
def uptoBulkAll {H : Type} : List (DataW H) → Nat
  | [] => 0
  | d :: r => uptoBulk d + uptoBulkAll r
def uptoBulkEntries {H : Type} : List (Lit × DataW H) → Nat
  | [] => 0
  | x :: r => uptoBulkEntry x + uptoBulkEntries r
def uptoBulkEntry {H : Type} : Lit × DataW H → Nat
  | (.string bytes, d) => bytes.length + uptoBulk d + 1
  | (_, d) => uptoBulk d + 1
 end
def uptoSmall : (H : Type) → List (DataW H) → Bool := fun _ ds => decide (uptoBulkAll ds ≤ 1048576)
def OpenSpec.upto (s : _root_.Go.ChangeSpec) : _root_.Go.OpenSpec := { _root_.Go.OpenSpec.ofChange s with cond := some uptoSmall }

/-- 'layoutlaw23.BaryCompares', WHERE WHAT IT READS IS OF BULK AT MOST 1048576: true; the input reads as it did. -/
def baryComparesUptoRow : OpenClaim := { program := "ytldbcbclhpcofaa", sum := "b052269495101af4d710b2f273c397116836e3b6140343266eea3145d0aadc53", func := "layout/layoutlaw23.BaryCompares", spec := "baryCompares", unfollowed := true, recurses := true, apart := false, narrowed := true }
def BaryComparesUptoSaid : Prop := baryComparesUptoRow.holds Try.pinned (OpenSpec.upto baryComparesSpec)

/-- 'layoutlaw23.BaryLayers', WHERE WHAT IT READS IS OF BULK AT MOST 1048576: true; the input reads as it did. -/
def baryLayersUptoRow : OpenClaim := { program := "ytldbcbclhpcofaa", sum := "b052269495101af4d710b2f273c397116836e3b6140343266eea3145d0aadc53", func := "layout/layoutlaw23.BaryLayers", spec := "baryLayers", unfollowed := true, recurses := true, apart := false, narrowed := true }
def BaryLayersUptoSaid : Prop := baryLayersUptoRow.holds Try.pinned (OpenSpec.upto baryLayersSpec)

/-- 'layoutlaw23.BaryImproves', WHERE WHAT IT READS IS OF BULK AT MOST 1048576: true; the input reads as it did. -/
def baryImprovesUptoRow : OpenClaim := { program := "ytldbcbclhpcofaa", sum := "b052269495101af4d710b2f273c397116836e3b6140343266eea3145d0aadc53", func := "layout/layoutlaw23.BaryImproves", spec := "baryImproves", unfollowed := true, recurses := true, apart := false, narrowed := true }
def BaryImprovesUptoSaid : Prop := baryImprovesUptoRow.holds Try.pinned (OpenSpec.upto baryImprovesSpec)

/-- 'layoutlaw23.BaryKeeps', WHERE WHAT IT READS IS OF BULK AT MOST 1048576: true; the input reads as it did. -/
def baryKeepsUptoRow : OpenClaim := { program := "ytldbcbclhpcofaa", sum := "b052269495101af4d710b2f273c397116836e3b6140343266eea3145d0aadc53", func := "layout/layoutlaw23.BaryKeeps", spec := "baryKeeps", unfollowed := true, recurses := true, apart := false, narrowed := true }
def BaryKeepsUptoSaid : Prop := baryKeepsUptoRow.holds Try.pinned (OpenSpec.upto baryKeepsSpec)

/-- 'layoutlaw23.BarySweeps', WHERE WHAT IT READS IS OF BULK AT MOST 1048576: true; the input reads as it did. -/
def barySweepsUptoRow : OpenClaim := { program := "ytldbcbclhpcofaa", sum := "b052269495101af4d710b2f273c397116836e3b6140343266eea3145d0aadc53", func := "layout/layoutlaw23.BarySweeps", spec := "barySweeps", unfollowed := true, recurses := true, apart := false, narrowed := true }
def BarySweepsUptoSaid : Prop := barySweepsUptoRow.holds Try.pinned (OpenSpec.upto barySweepsSpec)

end Rows
end Go.Proofs.Ytldbcbclhpcofaa
