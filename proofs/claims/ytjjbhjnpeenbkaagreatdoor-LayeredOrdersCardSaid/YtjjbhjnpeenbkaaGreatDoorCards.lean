/-
  DERIVED. GIVEN WITH THE SEED: THE CARDS: each row of YtjjbhjnpeenbkaaGreatDoorRows.lean that lists a variable, with what it lists TIED to the program's text (the seventh form; the later family's looks); each row that meets fmt, with fmt's text TOLD by the authors' own Lean function (tested against real Go, not proved from fmt's source: count such statements apart). THE CARD IS WHAT COUNTS. Prove the row's statement (the work); the ties are given (YtjjbhjnpeenbkaaGreatDoorTie.lean); close each card by the builder's one call (the guide's Derived/Test/ToyasCard.lean, 'card_holds'). Laid BY PROGRAM, IN A SANDBOX (cutbox-door.mjs). By AI agents, Wed Nov 11 2026. No macro, syntax, notation, axiom, sorry.
-/
import Derived.Test.YtjjbhjnpeenbkaaGreatDoorRows
import GoSem.ClaimSeven
namespace Go.Proofs.YtjjbhjnpeenbkaaGreatDoor
namespace Rows

/-- THE TIED CARD OF 'layouttop.TopOrders'. -/
def topOrdersCard : Claim7 := { stood := { row := topOrdersRow, standIns := [], harness := (true, "aedaad92516876768e1caf54a72ba25701bd6e588e22f05541e2256aa9fc2635"), looks := false }, kinds := [], alts := [], laidByText := true, laidKinds := [.data, .data], laidTests := true, laidLooks := .later }
def TopOrdersCardSaid : Prop := Claim7.holds Tryz.pinned (.plain (OpenSpec.ofChange topOrdersSpec)) topOrdersCard

/-- THE TIED CARD OF 'layouttop.TopCoordinates'. -/
def topCoordinatesCard : Claim7 := { stood := { row := topCoordinatesRow, standIns := [], harness := (true, "aedaad92516876768e1caf54a72ba25701bd6e588e22f05541e2256aa9fc2635"), looks := false }, kinds := [], alts := [], laidByText := true, laidKinds := [.data, .data], laidTests := true, laidLooks := .later }
def TopCoordinatesCardSaid : Prop := Claim7.holds Tryz.pinned (.plain (OpenSpec.ofChange topCoordinatesSpec)) topCoordinatesCard

/-- THE TIED CARD OF 'layouttop.TopCurves'. -/
def topCurvesCard : Claim7 := { stood := { row := topCurvesRow, standIns := [], harness := (true, "aedaad92516876768e1caf54a72ba25701bd6e588e22f05541e2256aa9fc2635"), looks := false }, kinds := [], alts := [], laidByText := true, laidKinds := [.data, .data], laidTests := true, laidLooks := .later }
def TopCurvesCardSaid : Prop := Claim7.holds Tryz.pinned (.plain (OpenSpec.ofChange topCurvesSpec)) topCurvesCard

/-- THE TIED CARD OF 'layoutlaw27.LayeredRanks'. -/
def layeredRanksCard : Claim7 := { stood := { row := layeredRanksRow, standIns := [], harness := (true, "aedaad92516876768e1caf54a72ba25701bd6e588e22f05541e2256aa9fc2635"), looks := false }, kinds := [], alts := [], laidByText := true, laidKinds := [.data, .data], laidTests := true, laidLooks := .later }
def LayeredRanksCardSaid : Prop := Claim7.holds Tryz.pinned (.plain (OpenSpec.ofChange layeredRanksSpec)) layeredRanksCard

/-- THE TIED CARD OF 'layoutlaw27.LayeredOrders'. -/
def layeredOrdersCard : Claim7 := { stood := { row := layeredOrdersRow, standIns := [], harness := (true, "aedaad92516876768e1caf54a72ba25701bd6e588e22f05541e2256aa9fc2635"), looks := false }, kinds := [], alts := [], laidByText := true, laidKinds := [.data, .data], laidTests := true, laidLooks := .later }
def LayeredOrdersCardSaid : Prop := Claim7.holds Tryz.pinned (.plain (OpenSpec.ofChange layeredOrdersSpec)) layeredOrdersCard

/-- THE TIED CARD OF 'layoutlaw27.LayeredPlaces'. -/
def layeredPlacesCard : Claim7 := { stood := { row := layeredPlacesRow, standIns := [], harness := (true, "aedaad92516876768e1caf54a72ba25701bd6e588e22f05541e2256aa9fc2635"), looks := false }, kinds := [], alts := [], laidByText := true, laidKinds := [.data, .data], laidTests := true, laidLooks := .later }
def LayeredPlacesCardSaid : Prop := Claim7.holds Tryz.pinned (.plain (OpenSpec.ofChange layeredPlacesSpec)) layeredPlacesCard

/-- THE TIED CARD OF 'layoutlaw27.LayeredOptimal'. -/
def layeredOptimalCard : Claim7 := { stood := { row := layeredOptimalRow, standIns := [], harness := (true, "aedaad92516876768e1caf54a72ba25701bd6e588e22f05541e2256aa9fc2635"), looks := false }, kinds := [], alts := [], laidByText := true, laidKinds := [.data, .data], laidTests := true, laidLooks := .later }
def LayeredOptimalCardSaid : Prop := Claim7.holds Tryz.pinned (.plain (OpenSpec.ofChange layeredOptimalSpec)) layeredOptimalCard

/-- THE TIED CARD OF 'layoutlaw27.LayeredSeparates'. -/
def layeredSeparatesCard : Claim7 := { stood := { row := layeredSeparatesRow, standIns := [], harness := (true, "aedaad92516876768e1caf54a72ba25701bd6e588e22f05541e2256aa9fc2635"), looks := false }, kinds := [], alts := [], laidByText := true, laidKinds := [.data, .data], laidTests := true, laidLooks := .later }
def LayeredSeparatesCardSaid : Prop := Claim7.holds Tryz.pinned (.plain (OpenSpec.ofChange layeredSeparatesSpec)) layeredSeparatesCard

/-- THE SECOND FORM's CARD OF 'layouttop.TopOrders'. -/
def topOrdersUptoCard : Claim7 := { stood := { row := topOrdersUptoRow, standIns := [], harness := (true, "aedaad92516876768e1caf54a72ba25701bd6e588e22f05541e2256aa9fc2635"), looks := false }, kinds := [], alts := [], laidByText := true, laidKinds := [.data, .data], laidTests := true, laidLooks := .later }
def TopOrdersUptoCardSaid : Prop := Claim7.holds Tryz.pinned (.plain (OpenSpec.upto topOrdersSpec)) topOrdersUptoCard

/-- THE SECOND FORM's CARD OF 'layouttop.TopCoordinates'. -/
def topCoordinatesUptoCard : Claim7 := { stood := { row := topCoordinatesUptoRow, standIns := [], harness := (true, "aedaad92516876768e1caf54a72ba25701bd6e588e22f05541e2256aa9fc2635"), looks := false }, kinds := [], alts := [], laidByText := true, laidKinds := [.data, .data], laidTests := true, laidLooks := .later }
def TopCoordinatesUptoCardSaid : Prop := Claim7.holds Tryz.pinned (.plain (OpenSpec.upto topCoordinatesSpec)) topCoordinatesUptoCard

/-- THE SECOND FORM's CARD OF 'layouttop.TopCurves'. -/
def topCurvesUptoCard : Claim7 := { stood := { row := topCurvesUptoRow, standIns := [], harness := (true, "aedaad92516876768e1caf54a72ba25701bd6e588e22f05541e2256aa9fc2635"), looks := false }, kinds := [], alts := [], laidByText := true, laidKinds := [.data, .data], laidTests := true, laidLooks := .later }
def TopCurvesUptoCardSaid : Prop := Claim7.holds Tryz.pinned (.plain (OpenSpec.upto topCurvesSpec)) topCurvesUptoCard

/-- THE SECOND FORM's CARD OF 'layoutlaw27.LayeredRanks'. -/
def layeredRanksUptoCard : Claim7 := { stood := { row := layeredRanksUptoRow, standIns := [], harness := (true, "aedaad92516876768e1caf54a72ba25701bd6e588e22f05541e2256aa9fc2635"), looks := false }, kinds := [], alts := [], laidByText := true, laidKinds := [.data, .data], laidTests := true, laidLooks := .later }
def LayeredRanksUptoCardSaid : Prop := Claim7.holds Tryz.pinned (.plain (OpenSpec.upto layeredRanksSpec)) layeredRanksUptoCard

/-- THE SECOND FORM's CARD OF 'layoutlaw27.LayeredOrders'. -/
def layeredOrdersUptoCard : Claim7 := { stood := { row := layeredOrdersUptoRow, standIns := [], harness := (true, "aedaad92516876768e1caf54a72ba25701bd6e588e22f05541e2256aa9fc2635"), looks := false }, kinds := [], alts := [], laidByText := true, laidKinds := [.data, .data], laidTests := true, laidLooks := .later }
def LayeredOrdersUptoCardSaid : Prop := Claim7.holds Tryz.pinned (.plain (OpenSpec.upto layeredOrdersSpec)) layeredOrdersUptoCard

/-- THE SECOND FORM's CARD OF 'layoutlaw27.LayeredPlaces'. -/
def layeredPlacesUptoCard : Claim7 := { stood := { row := layeredPlacesUptoRow, standIns := [], harness := (true, "aedaad92516876768e1caf54a72ba25701bd6e588e22f05541e2256aa9fc2635"), looks := false }, kinds := [], alts := [], laidByText := true, laidKinds := [.data, .data], laidTests := true, laidLooks := .later }
def LayeredPlacesUptoCardSaid : Prop := Claim7.holds Tryz.pinned (.plain (OpenSpec.upto layeredPlacesSpec)) layeredPlacesUptoCard

/-- THE SECOND FORM's CARD OF 'layoutlaw27.LayeredOptimal'. -/
def layeredOptimalUptoCard : Claim7 := { stood := { row := layeredOptimalUptoRow, standIns := [], harness := (true, "aedaad92516876768e1caf54a72ba25701bd6e588e22f05541e2256aa9fc2635"), looks := false }, kinds := [], alts := [], laidByText := true, laidKinds := [.data, .data], laidTests := true, laidLooks := .later }
def LayeredOptimalUptoCardSaid : Prop := Claim7.holds Tryz.pinned (.plain (OpenSpec.upto layeredOptimalSpec)) layeredOptimalUptoCard

/-- THE SECOND FORM's CARD OF 'layoutlaw27.LayeredSeparates'. -/
def layeredSeparatesUptoCard : Claim7 := { stood := { row := layeredSeparatesUptoRow, standIns := [], harness := (true, "aedaad92516876768e1caf54a72ba25701bd6e588e22f05541e2256aa9fc2635"), looks := false }, kinds := [], alts := [], laidByText := true, laidKinds := [.data, .data], laidTests := true, laidLooks := .later }
def LayeredSeparatesUptoCardSaid : Prop := Claim7.holds Tryz.pinned (.plain (OpenSpec.upto layeredSeparatesSpec)) layeredSeparatesUptoCard
end Rows
end Go.Proofs.YtjjbhjnpeenbkaaGreatDoor
