/-
  NARROWER THAN 'FOR EVERY INPUT', by the rows' own cells (each row's printed sentence says how): CycleBreaks: laid · CycleGreedy: laid · CycleLeast: laid · CycleHalf: laid · CycleSmallest: laid · CycleOrders: laid.
  DERIVED. THE GIVEN ROWS OF THIS SEAT. 6 by the template 'for every input the law returns true; each argument reads behind the call as it read before'; 0 by the template 'total and deterministic' (their statements: YthbcmebhpabpnaaDoorTotals.lean).
  GIVEN WITH THE SEED: the statements are not yours to turn. If you find one false, say at which input.
  Laid BY PROGRAM, IN A SANDBOX (cutbox-rows.mjs): the forced cells as the released guide's own fill.sh prints them over the translation e2987b427860d46b… (all of the seat's roots in one cut). By AI agents, Wed Nov 11 2026. No macro, syntax, notation, axiom, sorry.
-/
import Derived.Test.YthbcmebhpabpnaaDoorChecked
import GoSem.Claim
import GoSem.ClaimJoined
import GoSem.ClaimMapViews
import Derived.JoinedTies
import Derived.KernelRfl
namespace Go.Proofs.YthbcmebhpabpnaaDoor
/- THE CELL 'sum', in the pinned program and in every row, IS THE sha256 OF THE DUMP (.gsa) THAT YthbcmebhpabpnaaDoorProg.lean LOADS. Nothing in Lean hashes anything: it is a label: what it is worth is what the hold of that sum in a sandbox is worth. -/
noncomputable def Tryd.pinned : Pinned := { name := "ythbcmebhpabpnaadoor", sum := "e2987b427860d46b2bb214e0c8f43b3542f3b971203a7030f0b46b2cecc9a975", checked := Tryd.checked }
namespace Rows
def none {H : Type} : Left H := { results := [], args := [] }

/- WHAT THE LISTED PACKAGE-LEVEL VARIABLES READ AS WHEN THE CALL BEGINS. Each datum BY PROGRAM (the guide's laid-datum.mjs) off the statement by which the dump's own 'gosem.cut.vars' lays the variable. In a bare row this is a premise. The card (YthbcmebhpabpnaaDoorCards.lean) ties it to the program's text. -/
def laid_math_bits_deBruijn32tab {H : Type} : DataW H := .agg [.lit (.int .u8 0), .lit (.int .u8 1), .lit (.int .u8 28), .lit (.int .u8 2), .lit (.int .u8 29), .lit (.int .u8 14), .lit (.int .u8 24), .lit (.int .u8 3), .lit (.int .u8 30), .lit (.int .u8 22), .lit (.int .u8 20), .lit (.int .u8 15), .lit (.int .u8 25), .lit (.int .u8 17), .lit (.int .u8 4), .lit (.int .u8 8), .lit (.int .u8 31), .lit (.int .u8 27), .lit (.int .u8 13), .lit (.int .u8 23), .lit (.int .u8 21), .lit (.int .u8 19), .lit (.int .u8 16), .lit (.int .u8 7), .lit (.int .u8 26), .lit (.int .u8 12), .lit (.int .u8 18), .lit (.int .u8 6), .lit (.int .u8 11), .lit (.int .u8 5), .lit (.int .u8 10), .lit (.int .u8 9)]
def laid_math_bits_deBruijn64tab {H : Type} : DataW H := .agg [.lit (.int .u8 0), .lit (.int .u8 1), .lit (.int .u8 56), .lit (.int .u8 2), .lit (.int .u8 57), .lit (.int .u8 49), .lit (.int .u8 28), .lit (.int .u8 3), .lit (.int .u8 61), .lit (.int .u8 58), .lit (.int .u8 42), .lit (.int .u8 50), .lit (.int .u8 38), .lit (.int .u8 29), .lit (.int .u8 17), .lit (.int .u8 4), .lit (.int .u8 62), .lit (.int .u8 47), .lit (.int .u8 59), .lit (.int .u8 36), .lit (.int .u8 45), .lit (.int .u8 43), .lit (.int .u8 51), .lit (.int .u8 22), .lit (.int .u8 53), .lit (.int .u8 39), .lit (.int .u8 33), .lit (.int .u8 30), .lit (.int .u8 24), .lit (.int .u8 18), .lit (.int .u8 12), .lit (.int .u8 5), .lit (.int .u8 63), .lit (.int .u8 55), .lit (.int .u8 48), .lit (.int .u8 27), .lit (.int .u8 60), .lit (.int .u8 41), .lit (.int .u8 37), .lit (.int .u8 16), .lit (.int .u8 46), .lit (.int .u8 35), .lit (.int .u8 44), .lit (.int .u8 21), .lit (.int .u8 52), .lit (.int .u8 32), .lit (.int .u8 23), .lit (.int .u8 11), .lit (.int .u8 54), .lit (.int .u8 26), .lit (.int .u8 40), .lit (.int .u8 15), .lit (.int .u8 34), .lit (.int .u8 20), .lit (.int .u8 31), .lit (.int .u8 10), .lit (.int .u8 25), .lit (.int .u8 14), .lit (.int .u8 19), .lit (.int .u8 9), .lit (.int .u8 13), .lit (.int .u8 8), .lit (.int .u8 7), .lit (.int .u8 6)]

/-- 'layoutlaw19.CycleBreaks': WHATEVER THE INPUT: true; the input reads as it did. -/
def cycleBreaksSpec : ChangeSpec := { name := "cycleBreaks", fn := fun _ => fun
  | [d1, d2] => { results := [.lit (.bool true)], args := [d1, d2] }
  | _ => none }
def cycleBreaksRow : OpenClaim := { program := "ythbcmebhpabpnaadoor", sum := "e2987b427860d46b2bb214e0c8f43b3542f3b971203a7030f0b46b2cecc9a975", func := "layout/layoutlaw19.CycleBreaks", spec := "cycleBreaks", unfollowed := true, recurses := true, named := ["math/bits.deBruijn32tab", "math/bits.deBruijn64tab"], apart := false, laid := [("math/bits.deBruijn32tab", laid_math_bits_deBruijn32tab), ("math/bits.deBruijn64tab", laid_math_bits_deBruijn64tab)] }
def CycleBreaksSaid : Prop := cycleBreaksRow.holds Tryd.pinned (OpenSpec.ofChange cycleBreaksSpec)

/-- ITS FALSE NEIGHBOUR: 'it returns false'. Refute it at one input. -/
def cycleBreaksWrong : ChangeSpec := { name := "cycleBreaks", fn := fun _ => fun
  | [d1, d2] => { results := [.lit (.bool false)], args := [d1, d2] }
  | _ => none }
def CycleBreaksWrongFalsely : Prop := cycleBreaksRow.holds Tryd.pinned (OpenSpec.ofChange cycleBreaksWrong)

/-- 'layoutlaw19.CycleGreedy': WHATEVER THE INPUT: true; the input reads as it did. -/
def cycleGreedySpec : ChangeSpec := { name := "cycleGreedy", fn := fun _ => fun
  | [d] => { results := [.lit (.bool true)], args := [d] }
  | _ => none }
def cycleGreedyRow : OpenClaim := { program := "ythbcmebhpabpnaadoor", sum := "e2987b427860d46b2bb214e0c8f43b3542f3b971203a7030f0b46b2cecc9a975", func := "layout/layoutlaw19.CycleGreedy", spec := "cycleGreedy", unfollowed := true, recurses := true, named := ["math/bits.deBruijn32tab", "math/bits.deBruijn64tab"], apart := false, laid := [("math/bits.deBruijn32tab", laid_math_bits_deBruijn32tab), ("math/bits.deBruijn64tab", laid_math_bits_deBruijn64tab)] }
def CycleGreedySaid : Prop := cycleGreedyRow.holds Tryd.pinned (OpenSpec.ofChange cycleGreedySpec)

/-- ITS FALSE NEIGHBOUR: 'it returns false'. Refute it at one input. -/
def cycleGreedyWrong : ChangeSpec := { name := "cycleGreedy", fn := fun _ => fun
  | [d] => { results := [.lit (.bool false)], args := [d] }
  | _ => none }
def CycleGreedyWrongFalsely : Prop := cycleGreedyRow.holds Tryd.pinned (OpenSpec.ofChange cycleGreedyWrong)

/-- 'layoutlaw19.CycleLeast': WHATEVER THE INPUT: true; the input reads as it did. -/
def cycleLeastSpec : ChangeSpec := { name := "cycleLeast", fn := fun _ => fun
  | [d] => { results := [.lit (.bool true)], args := [d] }
  | _ => none }
def cycleLeastRow : OpenClaim := { program := "ythbcmebhpabpnaadoor", sum := "e2987b427860d46b2bb214e0c8f43b3542f3b971203a7030f0b46b2cecc9a975", func := "layout/layoutlaw19.CycleLeast", spec := "cycleLeast", unfollowed := true, recurses := true, named := ["math/bits.deBruijn32tab", "math/bits.deBruijn64tab"], apart := false, laid := [("math/bits.deBruijn32tab", laid_math_bits_deBruijn32tab), ("math/bits.deBruijn64tab", laid_math_bits_deBruijn64tab)] }
def CycleLeastSaid : Prop := cycleLeastRow.holds Tryd.pinned (OpenSpec.ofChange cycleLeastSpec)

/-- ITS FALSE NEIGHBOUR: 'it returns false'. Refute it at one input. -/
def cycleLeastWrong : ChangeSpec := { name := "cycleLeast", fn := fun _ => fun
  | [d] => { results := [.lit (.bool false)], args := [d] }
  | _ => none }
def CycleLeastWrongFalsely : Prop := cycleLeastRow.holds Tryd.pinned (OpenSpec.ofChange cycleLeastWrong)

/-- 'layoutlaw19.CycleHalf': WHATEVER THE INPUT: true; the input reads as it did. -/
def cycleHalfSpec : ChangeSpec := { name := "cycleHalf", fn := fun _ => fun
  | [d] => { results := [.lit (.bool true)], args := [d] }
  | _ => none }
def cycleHalfRow : OpenClaim := { program := "ythbcmebhpabpnaadoor", sum := "e2987b427860d46b2bb214e0c8f43b3542f3b971203a7030f0b46b2cecc9a975", func := "layout/layoutlaw19.CycleHalf", spec := "cycleHalf", unfollowed := true, recurses := true, named := ["math/bits.deBruijn32tab", "math/bits.deBruijn64tab"], apart := false, laid := [("math/bits.deBruijn32tab", laid_math_bits_deBruijn32tab), ("math/bits.deBruijn64tab", laid_math_bits_deBruijn64tab)] }
def CycleHalfSaid : Prop := cycleHalfRow.holds Tryd.pinned (OpenSpec.ofChange cycleHalfSpec)

/-- ITS FALSE NEIGHBOUR: 'it returns false'. Refute it at one input. -/
def cycleHalfWrong : ChangeSpec := { name := "cycleHalf", fn := fun _ => fun
  | [d] => { results := [.lit (.bool false)], args := [d] }
  | _ => none }
def CycleHalfWrongFalsely : Prop := cycleHalfRow.holds Tryd.pinned (OpenSpec.ofChange cycleHalfWrong)

/-- 'layoutlaw19.CycleSmallest': WHATEVER THE INPUT: true; the input reads as it did. -/
def cycleSmallestSpec : ChangeSpec := { name := "cycleSmallest", fn := fun _ => fun
  | [d1, d2] => { results := [.lit (.bool true)], args := [d1, d2] }
  | _ => none }
def cycleSmallestRow : OpenClaim := { program := "ythbcmebhpabpnaadoor", sum := "e2987b427860d46b2bb214e0c8f43b3542f3b971203a7030f0b46b2cecc9a975", func := "layout/layoutlaw19.CycleSmallest", spec := "cycleSmallest", unfollowed := true, recurses := true, named := ["math/bits.deBruijn32tab", "math/bits.deBruijn64tab"], apart := false, laid := [("math/bits.deBruijn32tab", laid_math_bits_deBruijn32tab), ("math/bits.deBruijn64tab", laid_math_bits_deBruijn64tab)] }
def CycleSmallestSaid : Prop := cycleSmallestRow.holds Tryd.pinned (OpenSpec.ofChange cycleSmallestSpec)

/-- ITS FALSE NEIGHBOUR: 'it returns false'. Refute it at one input. -/
def cycleSmallestWrong : ChangeSpec := { name := "cycleSmallest", fn := fun _ => fun
  | [d1, d2] => { results := [.lit (.bool false)], args := [d1, d2] }
  | _ => none }
def CycleSmallestWrongFalsely : Prop := cycleSmallestRow.holds Tryd.pinned (OpenSpec.ofChange cycleSmallestWrong)

/-- 'layoutlaw19.CycleOrders': WHATEVER THE INPUT: true; the input reads as it did. -/
def cycleOrdersSpec : ChangeSpec := { name := "cycleOrders", fn := fun _ => fun
  | [d1, d2] => { results := [.lit (.bool true)], args := [d1, d2] }
  | _ => none }
def cycleOrdersRow : OpenClaim := { program := "ythbcmebhpabpnaadoor", sum := "e2987b427860d46b2bb214e0c8f43b3542f3b971203a7030f0b46b2cecc9a975", func := "layout/layoutlaw19.CycleOrders", spec := "cycleOrders", unfollowed := true, recurses := true, named := ["math/bits.deBruijn32tab", "math/bits.deBruijn64tab"], apart := false, laid := [("math/bits.deBruijn32tab", laid_math_bits_deBruijn32tab), ("math/bits.deBruijn64tab", laid_math_bits_deBruijn64tab)] }
def CycleOrdersSaid : Prop := cycleOrdersRow.holds Tryd.pinned (OpenSpec.ofChange cycleOrdersSpec)

/-- ITS FALSE NEIGHBOUR: 'it returns false'. Refute it at one input. -/
def cycleOrdersWrong : ChangeSpec := { name := "cycleOrders", fn := fun _ => fun
  | [d1, d2] => { results := [.lit (.bool false)], args := [d1, d2] }
  | _ => none }
def CycleOrdersWrongFalsely : Prop := cycleOrdersRow.holds Tryd.pinned (OpenSpec.ofChange cycleOrdersWrong)

/- THE SECOND FORM. 'bulk': how many values and letters a reading holds, each counted each time it is reached (what is shared counts as often as it is met; a slice's spare places count too). A statement '..UptoSaid' is the law's where the arguments, and the package variables that the reading takes, are together of bulk at most 1048576: NARROWER than '..Said'. Prove '..Said' where nothing that the law and all that it calls make is longer than what came in: it says more and counts as full. Else prove '..UptoSaid'. A law counts once. -/
mutual
def uptoBulk {H : Type} : DataW H → Nat
  | .lit (.string bytes) => bytes.length + 1
  | .lit _ => 1
  | .nil => 1
  | .ptr d => uptoBulk d + 1
  | .slice elems spare => uptoBulkAll elems + uptoBulkAll spare + 1
  | .agg parts => uptoBulkAll parts + 1
  | .iface _ d => uptoBulk d + 1
  | .map entries => uptoBulkEntries entries + 1
  | .held _ => 1
def uptoBulkAll {H : Type} : List (DataW H) → Nat
  | [] => 0
  | d :: r => uptoBulk d + uptoBulkAll r
def uptoBulkEntries {H : Type} : List (Lit × DataW H) → Nat
  | [] => 0
  | x :: r => uptoBulkEntry x + uptoBulkEntries r
def uptoBulkEntry {H : Type} : Lit × DataW H → Nat
  | (.string bytes, d) => bytes.length + uptoBulk d + 1
  | (_, d) => uptoBulk d + 1
 end
def uptoSmall : (H : Type) → List (DataW H) → Bool := fun _ ds => decide (uptoBulkAll ds ≤ 1048576)
def OpenSpec.upto (s : _root_.Go.ChangeSpec) : _root_.Go.OpenSpec := { _root_.Go.OpenSpec.ofChange s with cond := some uptoSmall }

/-- 'layoutlaw19.CycleBreaks', WHERE WHAT IT READS IS OF BULK AT MOST 1048576: true; the input reads as it did. -/
def cycleBreaksUptoRow : OpenClaim := { program := "ythbcmebhpabpnaadoor", sum := "e2987b427860d46b2bb214e0c8f43b3542f3b971203a7030f0b46b2cecc9a975", func := "layout/layoutlaw19.CycleBreaks", spec := "cycleBreaks", unfollowed := true, recurses := true, named := ["math/bits.deBruijn32tab", "math/bits.deBruijn64tab"], apart := false, laid := [("math/bits.deBruijn32tab", laid_math_bits_deBruijn32tab), ("math/bits.deBruijn64tab", laid_math_bits_deBruijn64tab)], narrowed := true }
def CycleBreaksUptoSaid : Prop := cycleBreaksUptoRow.holds Tryd.pinned (OpenSpec.upto cycleBreaksSpec)

/-- 'layoutlaw19.CycleGreedy', WHERE WHAT IT READS IS OF BULK AT MOST 1048576: true; the input reads as it did. -/
def cycleGreedyUptoRow : OpenClaim := { program := "ythbcmebhpabpnaadoor", sum := "e2987b427860d46b2bb214e0c8f43b3542f3b971203a7030f0b46b2cecc9a975", func := "layout/layoutlaw19.CycleGreedy", spec := "cycleGreedy", unfollowed := true, recurses := true, named := ["math/bits.deBruijn32tab", "math/bits.deBruijn64tab"], apart := false, laid := [("math/bits.deBruijn32tab", laid_math_bits_deBruijn32tab), ("math/bits.deBruijn64tab", laid_math_bits_deBruijn64tab)], narrowed := true }
def CycleGreedyUptoSaid : Prop := cycleGreedyUptoRow.holds Tryd.pinned (OpenSpec.upto cycleGreedySpec)

/-- 'layoutlaw19.CycleLeast', WHERE WHAT IT READS IS OF BULK AT MOST 1048576: true; the input reads as it did. -/
def cycleLeastUptoRow : OpenClaim := { program := "ythbcmebhpabpnaadoor", sum := "e2987b427860d46b2bb214e0c8f43b3542f3b971203a7030f0b46b2cecc9a975", func := "layout/layoutlaw19.CycleLeast", spec := "cycleLeast", unfollowed := true, recurses := true, named := ["math/bits.deBruijn32tab", "math/bits.deBruijn64tab"], apart := false, laid := [("math/bits.deBruijn32tab", laid_math_bits_deBruijn32tab), ("math/bits.deBruijn64tab", laid_math_bits_deBruijn64tab)], narrowed := true }
def CycleLeastUptoSaid : Prop := cycleLeastUptoRow.holds Tryd.pinned (OpenSpec.upto cycleLeastSpec)

/-- 'layoutlaw19.CycleHalf', WHERE WHAT IT READS IS OF BULK AT MOST 1048576: true; the input reads as it did. -/
def cycleHalfUptoRow : OpenClaim := { program := "ythbcmebhpabpnaadoor", sum := "e2987b427860d46b2bb214e0c8f43b3542f3b971203a7030f0b46b2cecc9a975", func := "layout/layoutlaw19.CycleHalf", spec := "cycleHalf", unfollowed := true, recurses := true, named := ["math/bits.deBruijn32tab", "math/bits.deBruijn64tab"], apart := false, laid := [("math/bits.deBruijn32tab", laid_math_bits_deBruijn32tab), ("math/bits.deBruijn64tab", laid_math_bits_deBruijn64tab)], narrowed := true }
def CycleHalfUptoSaid : Prop := cycleHalfUptoRow.holds Tryd.pinned (OpenSpec.upto cycleHalfSpec)

/-- 'layoutlaw19.CycleSmallest', WHERE WHAT IT READS IS OF BULK AT MOST 1048576: true; the input reads as it did. -/
def cycleSmallestUptoRow : OpenClaim := { program := "ythbcmebhpabpnaadoor", sum := "e2987b427860d46b2bb214e0c8f43b3542f3b971203a7030f0b46b2cecc9a975", func := "layout/layoutlaw19.CycleSmallest", spec := "cycleSmallest", unfollowed := true, recurses := true, named := ["math/bits.deBruijn32tab", "math/bits.deBruijn64tab"], apart := false, laid := [("math/bits.deBruijn32tab", laid_math_bits_deBruijn32tab), ("math/bits.deBruijn64tab", laid_math_bits_deBruijn64tab)], narrowed := true }
def CycleSmallestUptoSaid : Prop := cycleSmallestUptoRow.holds Tryd.pinned (OpenSpec.upto cycleSmallestSpec)

/-- 'layoutlaw19.CycleOrders', WHERE WHAT IT READS IS OF BULK AT MOST 1048576: true; the input reads as it did. -/
def cycleOrdersUptoRow : OpenClaim := { program := "ythbcmebhpabpnaadoor", sum := "e2987b427860d46b2bb214e0c8f43b3542f3b971203a7030f0b46b2cecc9a975", func := "layout/layoutlaw19.CycleOrders", spec := "cycleOrders", unfollowed := true, recurses := true, named := ["math/bits.deBruijn32tab", "math/bits.deBruijn64tab"], apart := false, laid := [("math/bits.deBruijn32tab", laid_math_bits_deBruijn32tab), ("math/bits.deBruijn64tab", laid_math_bits_deBruijn64tab)], narrowed := true }
def CycleOrdersUptoSaid : Prop := cycleOrdersUptoRow.holds Tryd.pinned (OpenSpec.upto cycleOrdersSpec)

end Rows
end Go.Proofs.YthbcmebhpabpnaaDoor
