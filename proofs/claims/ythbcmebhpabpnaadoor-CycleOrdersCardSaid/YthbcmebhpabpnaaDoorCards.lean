/-
  DERIVED. GIVEN WITH THE SEED: THE CARDS: each row of YthbcmebhpabpnaaDoorRows.lean that lists a variable, with what it lists TIED to the program's text (the seventh form; the later family's looks); each row that meets fmt, with fmt's text TOLD by the authors' own Lean function (tested against real Go, not proved from fmt's source: count such statements apart). THE CARD IS WHAT COUNTS. Prove the row's statement (the work); the ties are given (YthbcmebhpabpnaaDoorTie.lean); close each card by the builder's one call (the guide's Derived/Test/ToyasCard.lean, 'card_holds'). Laid BY PROGRAM, IN A SANDBOX (cutbox-door.mjs). By AI agents, Wed Nov 11 2026. No macro, syntax, notation, axiom, sorry.
-/
import Derived.Test.YthbcmebhpabpnaaDoorRows
import GoSem.ClaimSeven
namespace Go.Proofs.YthbcmebhpabpnaaDoor
namespace Rows

/-- THE TIED CARD OF 'layoutlaw19.CycleBreaks'. -/
def cycleBreaksCard : Claim7 := { stood := { row := cycleBreaksRow, standIns := [], harness := (true, "d106be408ffb6103c04bb822f4fd39b2fb38d03a7ea62f47002902eeeee55f86"), looks := true }, kinds := [], alts := [], laidByText := true, laidKinds := [.data, .data], laidTests := true, laidLooks := .later }
def CycleBreaksCardSaid : Prop := Claim7.holds Tryd.pinned (.plain (OpenSpec.ofChange cycleBreaksSpec)) cycleBreaksCard

/-- THE TIED CARD OF 'layoutlaw19.CycleGreedy'. -/
def cycleGreedyCard : Claim7 := { stood := { row := cycleGreedyRow, standIns := [], harness := (true, "d106be408ffb6103c04bb822f4fd39b2fb38d03a7ea62f47002902eeeee55f86"), looks := true }, kinds := [], alts := [], laidByText := true, laidKinds := [.data, .data], laidTests := true, laidLooks := .later }
def CycleGreedyCardSaid : Prop := Claim7.holds Tryd.pinned (.plain (OpenSpec.ofChange cycleGreedySpec)) cycleGreedyCard

/-- THE TIED CARD OF 'layoutlaw19.CycleLeast'. -/
def cycleLeastCard : Claim7 := { stood := { row := cycleLeastRow, standIns := [], harness := (true, "d106be408ffb6103c04bb822f4fd39b2fb38d03a7ea62f47002902eeeee55f86"), looks := true }, kinds := [], alts := [], laidByText := true, laidKinds := [.data, .data], laidTests := true, laidLooks := .later }
def CycleLeastCardSaid : Prop := Claim7.holds Tryd.pinned (.plain (OpenSpec.ofChange cycleLeastSpec)) cycleLeastCard

/-- THE TIED CARD OF 'layoutlaw19.CycleHalf'. -/
def cycleHalfCard : Claim7 := { stood := { row := cycleHalfRow, standIns := [], harness := (true, "d106be408ffb6103c04bb822f4fd39b2fb38d03a7ea62f47002902eeeee55f86"), looks := true }, kinds := [], alts := [], laidByText := true, laidKinds := [.data, .data], laidTests := true, laidLooks := .later }
def CycleHalfCardSaid : Prop := Claim7.holds Tryd.pinned (.plain (OpenSpec.ofChange cycleHalfSpec)) cycleHalfCard

/-- THE TIED CARD OF 'layoutlaw19.CycleSmallest'. -/
def cycleSmallestCard : Claim7 := { stood := { row := cycleSmallestRow, standIns := [], harness := (true, "d106be408ffb6103c04bb822f4fd39b2fb38d03a7ea62f47002902eeeee55f86"), looks := true }, kinds := [], alts := [], laidByText := true, laidKinds := [.data, .data], laidTests := true, laidLooks := .later }
def CycleSmallestCardSaid : Prop := Claim7.holds Tryd.pinned (.plain (OpenSpec.ofChange cycleSmallestSpec)) cycleSmallestCard

/-- THE TIED CARD OF 'layoutlaw19.CycleOrders'. -/
def cycleOrdersCard : Claim7 := { stood := { row := cycleOrdersRow, standIns := [], harness := (true, "d106be408ffb6103c04bb822f4fd39b2fb38d03a7ea62f47002902eeeee55f86"), looks := true }, kinds := [], alts := [], laidByText := true, laidKinds := [.data, .data], laidTests := true, laidLooks := .later }
def CycleOrdersCardSaid : Prop := Claim7.holds Tryd.pinned (.plain (OpenSpec.ofChange cycleOrdersSpec)) cycleOrdersCard

/-- THE SECOND FORM's CARD OF 'layoutlaw19.CycleBreaks'. -/
def cycleBreaksUptoCard : Claim7 := { stood := { row := cycleBreaksUptoRow, standIns := [], harness := (true, "d106be408ffb6103c04bb822f4fd39b2fb38d03a7ea62f47002902eeeee55f86"), looks := true }, kinds := [], alts := [], laidByText := true, laidKinds := [.data, .data], laidTests := true, laidLooks := .later }
def CycleBreaksUptoCardSaid : Prop := Claim7.holds Tryd.pinned (.plain (OpenSpec.upto cycleBreaksSpec)) cycleBreaksUptoCard

/-- THE SECOND FORM's CARD OF 'layoutlaw19.CycleGreedy'. -/
def cycleGreedyUptoCard : Claim7 := { stood := { row := cycleGreedyUptoRow, standIns := [], harness := (true, "d106be408ffb6103c04bb822f4fd39b2fb38d03a7ea62f47002902eeeee55f86"), looks := true }, kinds := [], alts := [], laidByText := true, laidKinds := [.data, .data], laidTests := true, laidLooks := .later }
def CycleGreedyUptoCardSaid : Prop := Claim7.holds Tryd.pinned (.plain (OpenSpec.upto cycleGreedySpec)) cycleGreedyUptoCard

/-- THE SECOND FORM's CARD OF 'layoutlaw19.CycleLeast'. -/
def cycleLeastUptoCard : Claim7 := { stood := { row := cycleLeastUptoRow, standIns := [], harness := (true, "d106be408ffb6103c04bb822f4fd39b2fb38d03a7ea62f47002902eeeee55f86"), looks := true }, kinds := [], alts := [], laidByText := true, laidKinds := [.data, .data], laidTests := true, laidLooks := .later }
def CycleLeastUptoCardSaid : Prop := Claim7.holds Tryd.pinned (.plain (OpenSpec.upto cycleLeastSpec)) cycleLeastUptoCard

/-- THE SECOND FORM's CARD OF 'layoutlaw19.CycleHalf'. -/
def cycleHalfUptoCard : Claim7 := { stood := { row := cycleHalfUptoRow, standIns := [], harness := (true, "d106be408ffb6103c04bb822f4fd39b2fb38d03a7ea62f47002902eeeee55f86"), looks := true }, kinds := [], alts := [], laidByText := true, laidKinds := [.data, .data], laidTests := true, laidLooks := .later }
def CycleHalfUptoCardSaid : Prop := Claim7.holds Tryd.pinned (.plain (OpenSpec.upto cycleHalfSpec)) cycleHalfUptoCard

/-- THE SECOND FORM's CARD OF 'layoutlaw19.CycleSmallest'. -/
def cycleSmallestUptoCard : Claim7 := { stood := { row := cycleSmallestUptoRow, standIns := [], harness := (true, "d106be408ffb6103c04bb822f4fd39b2fb38d03a7ea62f47002902eeeee55f86"), looks := true }, kinds := [], alts := [], laidByText := true, laidKinds := [.data, .data], laidTests := true, laidLooks := .later }
def CycleSmallestUptoCardSaid : Prop := Claim7.holds Tryd.pinned (.plain (OpenSpec.upto cycleSmallestSpec)) cycleSmallestUptoCard

/-- THE SECOND FORM's CARD OF 'layoutlaw19.CycleOrders'. -/
def cycleOrdersUptoCard : Claim7 := { stood := { row := cycleOrdersUptoRow, standIns := [], harness := (true, "d106be408ffb6103c04bb822f4fd39b2fb38d03a7ea62f47002902eeeee55f86"), looks := true }, kinds := [], alts := [], laidByText := true, laidKinds := [.data, .data], laidTests := true, laidLooks := .later }
def CycleOrdersUptoCardSaid : Prop := Claim7.holds Tryd.pinned (.plain (OpenSpec.upto cycleOrdersSpec)) cycleOrdersUptoCard
end Rows
end Go.Proofs.YthbcmebhpabpnaaDoor
