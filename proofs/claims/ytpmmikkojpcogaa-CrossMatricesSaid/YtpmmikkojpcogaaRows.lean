/-
  No cell of these rows narrows 'for every input' (looked for: loops, veiled, ifaces, maps, wideKeys, modest, calm, conditions, laid).
  DERIVED. THE GIVEN ROWS OF THIS SEAT. 11 by the template 'for every input the law returns true; each argument reads behind the call as it read before'; 0 by the template 'total and deterministic' (their statements: YtpmmikkojpcogaaTotals.lean).
  GIVEN WITH THE SEED: the statements are not yours to turn. If you find one false, say at which input.
  Laid BY PROGRAM, IN A SANDBOX (cutbox-rows.mjs): the forced cells as the released guide's own fill.sh prints them over the translation 20a3538af40ee167… (all of the seat's roots in one cut). By AI agents, Wed Nov 11 2026. No macro, syntax, notation, axiom, sorry.
-/
import Derived.Test.YtpmmikkojpcogaaChecked
import GoSem.Claim
import GoSem.ClaimJoined
import GoSem.ClaimMapViews
import Derived.JoinedTies
import Derived.KernelRfl
namespace Go.Proofs.Ytpmmikkojpcogaa
/- THE CELL 'sum', in the pinned program and in every row, IS THE sha256 OF THE DUMP (.gsa) THAT YtpmmikkojpcogaaProg.lean LOADS. Nothing in Lean hashes anything: it is a label: what it is worth is what the hold of that sum in a sandbox is worth. -/
noncomputable def Try.pinned : Pinned := { name := "ytpmmikkojpcogaa", sum := "20a3538af40ee1675e7380e9f6a4dc9ac06154eba60242d0135e1e553ac373b3", checked := Try.checked }
namespace Rows
def none {H : Type} : Left H := { results := [], args := [] }

/-- 'layoutlaw21.LevelsBuilds': WHATEVER THE INPUT: true; the input reads as it did. -/
def levelsBuildsSpec : ChangeSpec := { name := "levelsBuilds", fn := fun _ => fun
  | [d1, d2] => { results := [.lit (.bool true)], args := [d1, d2] }
  | _ => none }
def levelsBuildsRow : OpenClaim := { program := "ytpmmikkojpcogaa", sum := "20a3538af40ee1675e7380e9f6a4dc9ac06154eba60242d0135e1e553ac373b3", func := "layout/layoutlaw21.LevelsBuilds", spec := "levelsBuilds", unfollowed := true, recurses := true, apart := false }
def LevelsBuildsSaid : Prop := levelsBuildsRow.holds Try.pinned (OpenSpec.ofChange levelsBuildsSpec)

/-- ITS FALSE NEIGHBOUR: 'it returns false'. Refute it at one input. -/
def levelsBuildsWrong : ChangeSpec := { name := "levelsBuilds", fn := fun _ => fun
  | [d1, d2] => { results := [.lit (.bool false)], args := [d1, d2] }
  | _ => none }
def LevelsBuildsWrongFalsely : Prop := levelsBuildsRow.holds Try.pinned (OpenSpec.ofChange levelsBuildsWrong)

/-- 'layoutlaw21.LevelsValid': WHATEVER THE INPUT: true; the input reads as it did. -/
def levelsValidSpec : ChangeSpec := { name := "levelsValid", fn := fun _ => fun
  | [d] => { results := [.lit (.bool true)], args := [d] }
  | _ => none }
def levelsValidRow : OpenClaim := { program := "ytpmmikkojpcogaa", sum := "20a3538af40ee1675e7380e9f6a4dc9ac06154eba60242d0135e1e553ac373b3", func := "layout/layoutlaw21.LevelsValid", spec := "levelsValid", unfollowed := true, recurses := true, apart := false }
def LevelsValidSaid : Prop := levelsValidRow.holds Try.pinned (OpenSpec.ofChange levelsValidSpec)

/-- ITS FALSE NEIGHBOUR: 'it returns false'. Refute it at one input. -/
def levelsValidWrong : ChangeSpec := { name := "levelsValid", fn := fun _ => fun
  | [d] => { results := [.lit (.bool false)], args := [d] }
  | _ => none }
def LevelsValidWrongFalsely : Prop := levelsValidRow.holds Try.pinned (OpenSpec.ofChange levelsValidWrong)

/-- 'layoutlaw21.LevelsSame': WHATEVER THE INPUT: true; the input reads as it did. -/
def levelsSameSpec : ChangeSpec := { name := "levelsSame", fn := fun _ => fun
  | [d1, d2] => { results := [.lit (.bool true)], args := [d1, d2] }
  | _ => none }
def levelsSameRow : OpenClaim := { program := "ytpmmikkojpcogaa", sum := "20a3538af40ee1675e7380e9f6a4dc9ac06154eba60242d0135e1e553ac373b3", func := "layout/layoutlaw21.LevelsSame", spec := "levelsSame", unfollowed := true, recurses := true, apart := false }
def LevelsSameSaid : Prop := levelsSameRow.holds Try.pinned (OpenSpec.ofChange levelsSameSpec)

/-- ITS FALSE NEIGHBOUR: 'it returns false'. Refute it at one input. -/
def levelsSameWrong : ChangeSpec := { name := "levelsSame", fn := fun _ => fun
  | [d1, d2] => { results := [.lit (.bool false)], args := [d1, d2] }
  | _ => none }
def LevelsSameWrongFalsely : Prop := levelsSameRow.holds Try.pinned (OpenSpec.ofChange levelsSameWrong)

/-- 'layoutlaw21.LevelsProper': WHATEVER THE INPUT: true; the input reads as it did. -/
def levelsProperSpec : ChangeSpec := { name := "levelsProper", fn := fun _ => fun
  | [d1, d2] => { results := [.lit (.bool true)], args := [d1, d2] }
  | _ => none }
def levelsProperRow : OpenClaim := { program := "ytpmmikkojpcogaa", sum := "20a3538af40ee1675e7380e9f6a4dc9ac06154eba60242d0135e1e553ac373b3", func := "layout/layoutlaw21.LevelsProper", spec := "levelsProper", unfollowed := true, recurses := true, apart := false }
def LevelsProperSaid : Prop := levelsProperRow.holds Try.pinned (OpenSpec.ofChange levelsProperSpec)

/-- ITS FALSE NEIGHBOUR: 'it returns false'. Refute it at one input. -/
def levelsProperWrong : ChangeSpec := { name := "levelsProper", fn := fun _ => fun
  | [d1, d2] => { results := [.lit (.bool false)], args := [d1, d2] }
  | _ => none }
def LevelsProperWrongFalsely : Prop := levelsProperRow.holds Try.pinned (OpenSpec.ofChange levelsProperWrong)

/-- 'layoutlaw21.LevelsFinds': WHATEVER THE INPUT: true; the input reads as it did. -/
def levelsFindsSpec : ChangeSpec := { name := "levelsFinds", fn := fun _ => fun
  | [d1, d2] => { results := [.lit (.bool true)], args := [d1, d2] }
  | _ => none }
def levelsFindsRow : OpenClaim := { program := "ytpmmikkojpcogaa", sum := "20a3538af40ee1675e7380e9f6a4dc9ac06154eba60242d0135e1e553ac373b3", func := "layout/layoutlaw21.LevelsFinds", spec := "levelsFinds", unfollowed := true, recurses := true, apart := false }
def LevelsFindsSaid : Prop := levelsFindsRow.holds Try.pinned (OpenSpec.ofChange levelsFindsSpec)

/-- ITS FALSE NEIGHBOUR: 'it returns false'. Refute it at one input. -/
def levelsFindsWrong : ChangeSpec := { name := "levelsFinds", fn := fun _ => fun
  | [d1, d2] => { results := [.lit (.bool false)], args := [d1, d2] }
  | _ => none }
def LevelsFindsWrongFalsely : Prop := levelsFindsRow.holds Try.pinned (OpenSpec.ofChange levelsFindsWrong)

/-- 'layoutlaw21.LevelsRestores': WHATEVER THE INPUT: true; the input reads as it did. -/
def levelsRestoresSpec : ChangeSpec := { name := "levelsRestores", fn := fun _ => fun
  | [d] => { results := [.lit (.bool true)], args := [d] }
  | _ => none }
def levelsRestoresRow : OpenClaim := { program := "ytpmmikkojpcogaa", sum := "20a3538af40ee1675e7380e9f6a4dc9ac06154eba60242d0135e1e553ac373b3", func := "layout/layoutlaw21.LevelsRestores", spec := "levelsRestores", unfollowed := true, recurses := true, apart := false }
def LevelsRestoresSaid : Prop := levelsRestoresRow.holds Try.pinned (OpenSpec.ofChange levelsRestoresSpec)

/-- ITS FALSE NEIGHBOUR: 'it returns false'. Refute it at one input. -/
def levelsRestoresWrong : ChangeSpec := { name := "levelsRestores", fn := fun _ => fun
  | [d] => { results := [.lit (.bool false)], args := [d] }
  | _ => none }
def LevelsRestoresWrongFalsely : Prop := levelsRestoresRow.holds Try.pinned (OpenSpec.ofChange levelsRestoresWrong)

/-- 'layoutlaw21.LevelsReorders': WHATEVER THE INPUT: true; the input reads as it did. -/
def levelsReordersSpec : ChangeSpec := { name := "levelsReorders", fn := fun _ => fun
  | [d1, d2, d3] => { results := [.lit (.bool true)], args := [d1, d2, d3] }
  | _ => none }
def levelsReordersRow : OpenClaim := { program := "ytpmmikkojpcogaa", sum := "20a3538af40ee1675e7380e9f6a4dc9ac06154eba60242d0135e1e553ac373b3", func := "layout/layoutlaw21.LevelsReorders", spec := "levelsReorders", unfollowed := true, recurses := true, apart := false }
def LevelsReordersSaid : Prop := levelsReordersRow.holds Try.pinned (OpenSpec.ofChange levelsReordersSpec)

/-- ITS FALSE NEIGHBOUR: 'it returns false'. Refute it at one input. -/
def levelsReordersWrong : ChangeSpec := { name := "levelsReorders", fn := fun _ => fun
  | [d1, d2, d3] => { results := [.lit (.bool false)], args := [d1, d2, d3] }
  | _ => none }
def LevelsReordersWrongFalsely : Prop := levelsReordersRow.holds Try.pinned (OpenSpec.ofChange levelsReordersWrong)

/-- 'layoutlaw22.CrossMatrices': WHATEVER THE INPUT: true; the input reads as it did. -/
def crossMatricesSpec : ChangeSpec := { name := "crossMatrices", fn := fun _ => fun
  | [d1, d2, d3] => { results := [.lit (.bool true)], args := [d1, d2, d3] }
  | _ => none }
def crossMatricesRow : OpenClaim := { program := "ytpmmikkojpcogaa", sum := "20a3538af40ee1675e7380e9f6a4dc9ac06154eba60242d0135e1e553ac373b3", func := "layout/layoutlaw22.CrossMatrices", spec := "crossMatrices", unfollowed := true, recurses := true, apart := false }
def CrossMatricesSaid : Prop := crossMatricesRow.holds Try.pinned (OpenSpec.ofChange crossMatricesSpec)

/-- ITS FALSE NEIGHBOUR: 'it returns false'. Refute it at one input. -/
def crossMatricesWrong : ChangeSpec := { name := "crossMatrices", fn := fun _ => fun
  | [d1, d2, d3] => { results := [.lit (.bool false)], args := [d1, d2, d3] }
  | _ => none }
def CrossMatricesWrongFalsely : Prop := crossMatricesRow.holds Try.pinned (OpenSpec.ofChange crossMatricesWrong)

/-- 'layoutlaw22.CrossSums': WHATEVER THE INPUT: true; the input reads as it did. -/
def crossSumsSpec : ChangeSpec := { name := "crossSums", fn := fun _ => fun
  | [d] => { results := [.lit (.bool true)], args := [d] }
  | _ => none }
def crossSumsRow : OpenClaim := { program := "ytpmmikkojpcogaa", sum := "20a3538af40ee1675e7380e9f6a4dc9ac06154eba60242d0135e1e553ac373b3", func := "layout/layoutlaw22.CrossSums", spec := "crossSums", unfollowed := true, recurses := true, apart := false }
def CrossSumsSaid : Prop := crossSumsRow.holds Try.pinned (OpenSpec.ofChange crossSumsSpec)

/-- ITS FALSE NEIGHBOUR: 'it returns false'. Refute it at one input. -/
def crossSumsWrong : ChangeSpec := { name := "crossSums", fn := fun _ => fun
  | [d] => { results := [.lit (.bool false)], args := [d] }
  | _ => none }
def CrossSumsWrongFalsely : Prop := crossSumsRow.holds Try.pinned (OpenSpec.ofChange crossSumsWrong)

/-- 'layoutlaw22.CrossTurns': WHATEVER THE INPUT: true; the input reads as it did. -/
def crossTurnsSpec : ChangeSpec := { name := "crossTurns", fn := fun _ => fun
  | [d1, d2, d3] => { results := [.lit (.bool true)], args := [d1, d2, d3] }
  | _ => none }
def crossTurnsRow : OpenClaim := { program := "ytpmmikkojpcogaa", sum := "20a3538af40ee1675e7380e9f6a4dc9ac06154eba60242d0135e1e553ac373b3", func := "layout/layoutlaw22.CrossTurns", spec := "crossTurns", unfollowed := true, recurses := true, apart := false }
def CrossTurnsSaid : Prop := crossTurnsRow.holds Try.pinned (OpenSpec.ofChange crossTurnsSpec)

/-- ITS FALSE NEIGHBOUR: 'it returns false'. Refute it at one input. -/
def crossTurnsWrong : ChangeSpec := { name := "crossTurns", fn := fun _ => fun
  | [d1, d2, d3] => { results := [.lit (.bool false)], args := [d1, d2, d3] }
  | _ => none }
def CrossTurnsWrongFalsely : Prop := crossTurnsRow.holds Try.pinned (OpenSpec.ofChange crossTurnsWrong)

/-- 'layoutlaw22.CrossCounts': WHATEVER THE INPUT: true; the input reads as it did. -/
def crossCountsSpec : ChangeSpec := { name := "crossCounts", fn := fun _ => fun
  | [d1, d2] => { results := [.lit (.bool true)], args := [d1, d2] }
  | _ => none }
def crossCountsRow : OpenClaim := { program := "ytpmmikkojpcogaa", sum := "20a3538af40ee1675e7380e9f6a4dc9ac06154eba60242d0135e1e553ac373b3", func := "layout/layoutlaw22.CrossCounts", spec := "crossCounts", unfollowed := true, recurses := true, apart := false }
def CrossCountsSaid : Prop := crossCountsRow.holds Try.pinned (OpenSpec.ofChange crossCountsSpec)

/-- ITS FALSE NEIGHBOUR: 'it returns false'. Refute it at one input. -/
def crossCountsWrong : ChangeSpec := { name := "crossCounts", fn := fun _ => fun
  | [d1, d2] => { results := [.lit (.bool false)], args := [d1, d2] }
  | _ => none }
def CrossCountsWrongFalsely : Prop := crossCountsRow.holds Try.pinned (OpenSpec.ofChange crossCountsWrong)

/- THE SECOND FORM. 'bulk': how many values and letters a reading holds, each counted each time it is reached (what is shared counts as often as it is met; a slice's spare places count too). A statement '..UptoSaid' is the law's where the arguments, and the package variables that the reading takes, are together of bulk at most 1048576: NARROWER than '..Said'. Prove '..Said' where nothing that the law and all that it calls make is longer than what came in: it says more and counts as full. Else prove '..UptoSaid'. A law counts once. -/
mutual
def uptoBulk {H : Type} : DataW H → Nat
  | .lit (.string bytes) => bytes.length + 1
  | .lit _ => 1
  | .nil => 1
  | .ptr d => uptoBulk d + 1
  | .slice elems spare => uptoBulkAll elems + uptoBulkAll spare + 1
  | .agg parts => uptoBulkAll parts + 1
  | .iface _ d => uptoBulk d + 1
  | .map entries => uptoBulkEntries entries + 1
  | .held _ => 1
def uptoBulkAll {H : Type} : List (DataW H) → Nat
  | [] => 0
  | d :: r => uptoBulk d + uptoBulkAll r
def uptoBulkEntries {H : Type} : List (Lit × DataW H) → Nat
  | [] => 0
  | x :: r => uptoBulkEntry x + uptoBulkEntries r
def uptoBulkEntry {H : Type} : Lit × DataW H → Nat
  | (.string bytes, d) => bytes.length + uptoBulk d + 1
  | (_, d) => uptoBulk d + 1
 end
def uptoSmall : (H : Type) → List (DataW H) → Bool := fun _ ds => decide (uptoBulkAll ds ≤ 1048576)
def OpenSpec.upto (s : _root_.Go.ChangeSpec) : _root_.Go.OpenSpec := { _root_.Go.OpenSpec.ofChange s with cond := some uptoSmall }

/-- 'layoutlaw21.LevelsBuilds', WHERE WHAT IT READS IS OF BULK AT MOST 1048576: true; the input reads as it did. -/
def levelsBuildsUptoRow : OpenClaim := { program := "ytpmmikkojpcogaa", sum := "20a3538af40ee1675e7380e9f6a4dc9ac06154eba60242d0135e1e553ac373b3", func := "layout/layoutlaw21.LevelsBuilds", spec := "levelsBuilds", unfollowed := true, recurses := true, apart := false, narrowed := true }
def LevelsBuildsUptoSaid : Prop := levelsBuildsUptoRow.holds Try.pinned (OpenSpec.upto levelsBuildsSpec)

/-- 'layoutlaw21.LevelsValid', WHERE WHAT IT READS IS OF BULK AT MOST 1048576: true; the input reads as it did. -/
def levelsValidUptoRow : OpenClaim := { program := "ytpmmikkojpcogaa", sum := "20a3538af40ee1675e7380e9f6a4dc9ac06154eba60242d0135e1e553ac373b3", func := "layout/layoutlaw21.LevelsValid", spec := "levelsValid", unfollowed := true, recurses := true, apart := false, narrowed := true }
def LevelsValidUptoSaid : Prop := levelsValidUptoRow.holds Try.pinned (OpenSpec.upto levelsValidSpec)

/-- 'layoutlaw21.LevelsSame', WHERE WHAT IT READS IS OF BULK AT MOST 1048576: true; the input reads as it did. -/
def levelsSameUptoRow : OpenClaim := { program := "ytpmmikkojpcogaa", sum := "20a3538af40ee1675e7380e9f6a4dc9ac06154eba60242d0135e1e553ac373b3", func := "layout/layoutlaw21.LevelsSame", spec := "levelsSame", unfollowed := true, recurses := true, apart := false, narrowed := true }
def LevelsSameUptoSaid : Prop := levelsSameUptoRow.holds Try.pinned (OpenSpec.upto levelsSameSpec)

/-- 'layoutlaw21.LevelsProper', WHERE WHAT IT READS IS OF BULK AT MOST 1048576: true; the input reads as it did. -/
def levelsProperUptoRow : OpenClaim := { program := "ytpmmikkojpcogaa", sum := "20a3538af40ee1675e7380e9f6a4dc9ac06154eba60242d0135e1e553ac373b3", func := "layout/layoutlaw21.LevelsProper", spec := "levelsProper", unfollowed := true, recurses := true, apart := false, narrowed := true }
def LevelsProperUptoSaid : Prop := levelsProperUptoRow.holds Try.pinned (OpenSpec.upto levelsProperSpec)

/-- 'layoutlaw21.LevelsFinds', WHERE WHAT IT READS IS OF BULK AT MOST 1048576: true; the input reads as it did. -/
def levelsFindsUptoRow : OpenClaim := { program := "ytpmmikkojpcogaa", sum := "20a3538af40ee1675e7380e9f6a4dc9ac06154eba60242d0135e1e553ac373b3", func := "layout/layoutlaw21.LevelsFinds", spec := "levelsFinds", unfollowed := true, recurses := true, apart := false, narrowed := true }
def LevelsFindsUptoSaid : Prop := levelsFindsUptoRow.holds Try.pinned (OpenSpec.upto levelsFindsSpec)

/-- 'layoutlaw21.LevelsRestores', WHERE WHAT IT READS IS OF BULK AT MOST 1048576: true; the input reads as it did. -/
def levelsRestoresUptoRow : OpenClaim := { program := "ytpmmikkojpcogaa", sum := "20a3538af40ee1675e7380e9f6a4dc9ac06154eba60242d0135e1e553ac373b3", func := "layout/layoutlaw21.LevelsRestores", spec := "levelsRestores", unfollowed := true, recurses := true, apart := false, narrowed := true }
def LevelsRestoresUptoSaid : Prop := levelsRestoresUptoRow.holds Try.pinned (OpenSpec.upto levelsRestoresSpec)

/-- 'layoutlaw21.LevelsReorders', WHERE WHAT IT READS IS OF BULK AT MOST 1048576: true; the input reads as it did. -/
def levelsReordersUptoRow : OpenClaim := { program := "ytpmmikkojpcogaa", sum := "20a3538af40ee1675e7380e9f6a4dc9ac06154eba60242d0135e1e553ac373b3", func := "layout/layoutlaw21.LevelsReorders", spec := "levelsReorders", unfollowed := true, recurses := true, apart := false, narrowed := true }
def LevelsReordersUptoSaid : Prop := levelsReordersUptoRow.holds Try.pinned (OpenSpec.upto levelsReordersSpec)

/-- 'layoutlaw22.CrossMatrices', WHERE WHAT IT READS IS OF BULK AT MOST 1048576: true; the input reads as it did. -/
def crossMatricesUptoRow : OpenClaim := { program := "ytpmmikkojpcogaa", sum := "20a3538af40ee1675e7380e9f6a4dc9ac06154eba60242d0135e1e553ac373b3", func := "layout/layoutlaw22.CrossMatrices", spec := "crossMatrices", unfollowed := true, recurses := true, apart := false, narrowed := true }
def CrossMatricesUptoSaid : Prop := crossMatricesUptoRow.holds Try.pinned (OpenSpec.upto crossMatricesSpec)

/-- 'layoutlaw22.CrossSums', WHERE WHAT IT READS IS OF BULK AT MOST 1048576: true; the input reads as it did. -/
def crossSumsUptoRow : OpenClaim := { program := "ytpmmikkojpcogaa", sum := "20a3538af40ee1675e7380e9f6a4dc9ac06154eba60242d0135e1e553ac373b3", func := "layout/layoutlaw22.CrossSums", spec := "crossSums", unfollowed := true, recurses := true, apart := false, narrowed := true }
def CrossSumsUptoSaid : Prop := crossSumsUptoRow.holds Try.pinned (OpenSpec.upto crossSumsSpec)

/-- 'layoutlaw22.CrossTurns', WHERE WHAT IT READS IS OF BULK AT MOST 1048576: true; the input reads as it did. -/
def crossTurnsUptoRow : OpenClaim := { program := "ytpmmikkojpcogaa", sum := "20a3538af40ee1675e7380e9f6a4dc9ac06154eba60242d0135e1e553ac373b3", func := "layout/layoutlaw22.CrossTurns", spec := "crossTurns", unfollowed := true, recurses := true, apart := false, narrowed := true }
def CrossTurnsUptoSaid : Prop := crossTurnsUptoRow.holds Try.pinned (OpenSpec.upto crossTurnsSpec)

/-- 'layoutlaw22.CrossCounts', WHERE WHAT IT READS IS OF BULK AT MOST 1048576: true; the input reads as it did. -/
def crossCountsUptoRow : OpenClaim := { program := "ytpmmikkojpcogaa", sum := "20a3538af40ee1675e7380e9f6a4dc9ac06154eba60242d0135e1e553ac373b3", func := "layout/layoutlaw22.CrossCounts", spec := "crossCounts", unfollowed := true, recurses := true, apart := false, narrowed := true }
def CrossCountsUptoSaid : Prop := crossCountsUptoRow.holds Try.pinned (OpenSpec.upto crossCountsSpec)

end Rows
end Go.Proofs.Ytpmmikkojpcogaa
