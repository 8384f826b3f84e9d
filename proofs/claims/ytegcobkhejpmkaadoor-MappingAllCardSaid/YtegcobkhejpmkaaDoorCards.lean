/-
  DERIVED. GIVEN WITH THE SEED: THE CARDS: each row of YtegcobkhejpmkaaDoorRows.lean that lists a variable, with what it lists TIED to the program's text (the seventh form; the later family's looks); each row that meets fmt, with fmt's text TOLD by the authors' own Lean function (tested against real Go, not proved from fmt's source: count such statements apart). THE CARD IS WHAT COUNTS. Prove the row's statement (the work); the ties are given (YtegcobkhejpmkaaDoorTie.lean); close each card by the builder's one call (the guide's Derived/Test/ToyasCard.lean, 'card_holds'). Laid BY PROGRAM, IN A SANDBOX (cutbox-door.mjs). By AI agents, Wed Nov 11 2026. No macro, syntax, notation, axiom, sorry.
-/
import Derived.Test.YtegcobkhejpmkaaDoorRows
import GoSem.ClaimSeven
namespace Go.Proofs.YtegcobkhejpmkaaDoor
namespace Rows

/-- THE TIED CARD OF 'brokerlaw45.MappingChecks'. -/
def mappingChecksCard : Claim7 := { stood := { row := mappingChecksRow, standIns := [], harness := (true, "2d846149791e7bab93cb0cf840bc61e6d229ea0cd83a8c996967a9b13230be9c"), looks := false }, kinds := [], alts := [], laidByText := true, laidKinds := [.data, .pinned], laidTests := true, laidLooks := .later }
def MappingChecksCardSaid : Prop := Claim7.holds Tryd.pinned (.plain (OpenSpec.ofChange mappingChecksSpec)) mappingChecksCard

/-- THE TIED CARD OF 'brokerlaw45.MappingApplies'. -/
def mappingAppliesCard : Claim7 := { stood := { row := mappingAppliesRow, standIns := [], harness := (true, "2d846149791e7bab93cb0cf840bc61e6d229ea0cd83a8c996967a9b13230be9c"), looks := false }, kinds := [], alts := [], laidByText := true, laidKinds := [.data, .pinned], laidTests := true, laidLooks := .later }
def MappingAppliesCardSaid : Prop := Claim7.holds Tryd.pinned (.plain (OpenSpec.ofChange mappingAppliesSpec)) mappingAppliesCard

/-- THE TIED CARD OF 'brokerlaw45.MappingAll'. -/
def mappingAllCard : Claim7 := { stood := { row := mappingAllRow, standIns := [], harness := (true, "2d846149791e7bab93cb0cf840bc61e6d229ea0cd83a8c996967a9b13230be9c"), looks := false }, kinds := [], alts := [], laidByText := true, laidKinds := [.data, .pinned], laidTests := true, laidLooks := .later }
def MappingAllCardSaid : Prop := Claim7.holds Tryd.pinned (.plain (OpenSpec.ofChange mappingAllSpec)) mappingAllCard

/-- THE TIED CARD OF 'brokerlaw45.MappingKeys'. -/
def mappingKeysCard : Claim7 := { stood := { row := mappingKeysRow, standIns := [], harness := (true, "2d846149791e7bab93cb0cf840bc61e6d229ea0cd83a8c996967a9b13230be9c"), looks := false }, kinds := [], alts := [], laidByText := true, laidKinds := [.data, .pinned], laidTests := true, laidLooks := .later }
def MappingKeysCardSaid : Prop := Claim7.holds Tryd.pinned (.plain (OpenSpec.ofChange mappingKeysSpec)) mappingKeysCard

/-- THE TIED CARD OF 'brokerlaw45.MappingTopics'. -/
def mappingTopicsCard : Claim7 := { stood := { row := mappingTopicsRow, standIns := [], harness := (true, "2d846149791e7bab93cb0cf840bc61e6d229ea0cd83a8c996967a9b13230be9c"), looks := false }, kinds := [], alts := [], laidByText := true, laidKinds := [.data, .pinned], laidTests := true, laidLooks := .later }
def MappingTopicsCardSaid : Prop := Claim7.holds Tryd.pinned (.plain (OpenSpec.ofChange mappingTopicsSpec)) mappingTopicsCard

/-- THE TIED CARD OF 'brokerlaw45.MappingApart'. -/
def mappingApartCard : Claim7 := { stood := { row := mappingApartRow, standIns := [], harness := (true, "2d846149791e7bab93cb0cf840bc61e6d229ea0cd83a8c996967a9b13230be9c"), looks := false }, kinds := [], alts := [], laidByText := true, laidKinds := [.data, .pinned], laidTests := true, laidLooks := .later }
def MappingApartCardSaid : Prop := Claim7.holds Tryd.pinned (.plain (OpenSpec.ofChange mappingApartSpec)) mappingApartCard

/-- THE TIED CARD OF 'brokerlaw45.MappingSame'. -/
def mappingSameCard : Claim7 := { stood := { row := mappingSameRow, standIns := [], harness := (true, "2d846149791e7bab93cb0cf840bc61e6d229ea0cd83a8c996967a9b13230be9c"), looks := false }, kinds := [], alts := [], laidByText := true, laidKinds := [.data, .pinned], laidTests := true, laidLooks := .later }
def MappingSameCardSaid : Prop := Claim7.holds Tryd.pinned (.plain (OpenSpec.ofChange mappingSameSpec)) mappingSameCard

/-- THE TIED CARD OF 'brokerlaw45.MappingBack'. -/
def mappingBackCard : Claim7 := { stood := { row := mappingBackRow, standIns := [], harness := (true, "2d846149791e7bab93cb0cf840bc61e6d229ea0cd83a8c996967a9b13230be9c"), looks := false }, kinds := [], alts := [], laidByText := true, laidKinds := [.data, .pinned], laidTests := true, laidLooks := .later }
def MappingBackCardSaid : Prop := Claim7.holds Tryd.pinned (.plain (OpenSpec.ofChange mappingBackSpec)) mappingBackCard

/-- THE SECOND FORM's CARD OF 'brokerlaw45.MappingChecks'. -/
def mappingChecksUptoCard : Claim7 := { stood := { row := mappingChecksUptoRow, standIns := [], harness := (true, "2d846149791e7bab93cb0cf840bc61e6d229ea0cd83a8c996967a9b13230be9c"), looks := false }, kinds := [], alts := [], laidByText := true, laidKinds := [.data, .pinned], laidTests := true, laidLooks := .later }
def MappingChecksUptoCardSaid : Prop := Claim7.holds Tryd.pinned (.plain (OpenSpec.upto mappingChecksSpec)) mappingChecksUptoCard

/-- THE SECOND FORM's CARD OF 'brokerlaw45.MappingApplies'. -/
def mappingAppliesUptoCard : Claim7 := { stood := { row := mappingAppliesUptoRow, standIns := [], harness := (true, "2d846149791e7bab93cb0cf840bc61e6d229ea0cd83a8c996967a9b13230be9c"), looks := false }, kinds := [], alts := [], laidByText := true, laidKinds := [.data, .pinned], laidTests := true, laidLooks := .later }
def MappingAppliesUptoCardSaid : Prop := Claim7.holds Tryd.pinned (.plain (OpenSpec.upto mappingAppliesSpec)) mappingAppliesUptoCard

/-- THE SECOND FORM's CARD OF 'brokerlaw45.MappingAll'. -/
def mappingAllUptoCard : Claim7 := { stood := { row := mappingAllUptoRow, standIns := [], harness := (true, "2d846149791e7bab93cb0cf840bc61e6d229ea0cd83a8c996967a9b13230be9c"), looks := false }, kinds := [], alts := [], laidByText := true, laidKinds := [.data, .pinned], laidTests := true, laidLooks := .later }
def MappingAllUptoCardSaid : Prop := Claim7.holds Tryd.pinned (.plain (OpenSpec.upto mappingAllSpec)) mappingAllUptoCard

/-- THE SECOND FORM's CARD OF 'brokerlaw45.MappingKeys'. -/
def mappingKeysUptoCard : Claim7 := { stood := { row := mappingKeysUptoRow, standIns := [], harness := (true, "2d846149791e7bab93cb0cf840bc61e6d229ea0cd83a8c996967a9b13230be9c"), looks := false }, kinds := [], alts := [], laidByText := true, laidKinds := [.data, .pinned], laidTests := true, laidLooks := .later }
def MappingKeysUptoCardSaid : Prop := Claim7.holds Tryd.pinned (.plain (OpenSpec.upto mappingKeysSpec)) mappingKeysUptoCard

/-- THE SECOND FORM's CARD OF 'brokerlaw45.MappingTopics'. -/
def mappingTopicsUptoCard : Claim7 := { stood := { row := mappingTopicsUptoRow, standIns := [], harness := (true, "2d846149791e7bab93cb0cf840bc61e6d229ea0cd83a8c996967a9b13230be9c"), looks := false }, kinds := [], alts := [], laidByText := true, laidKinds := [.data, .pinned], laidTests := true, laidLooks := .later }
def MappingTopicsUptoCardSaid : Prop := Claim7.holds Tryd.pinned (.plain (OpenSpec.upto mappingTopicsSpec)) mappingTopicsUptoCard

/-- THE SECOND FORM's CARD OF 'brokerlaw45.MappingApart'. -/
def mappingApartUptoCard : Claim7 := { stood := { row := mappingApartUptoRow, standIns := [], harness := (true, "2d846149791e7bab93cb0cf840bc61e6d229ea0cd83a8c996967a9b13230be9c"), looks := false }, kinds := [], alts := [], laidByText := true, laidKinds := [.data, .pinned], laidTests := true, laidLooks := .later }
def MappingApartUptoCardSaid : Prop := Claim7.holds Tryd.pinned (.plain (OpenSpec.upto mappingApartSpec)) mappingApartUptoCard

/-- THE SECOND FORM's CARD OF 'brokerlaw45.MappingSame'. -/
def mappingSameUptoCard : Claim7 := { stood := { row := mappingSameUptoRow, standIns := [], harness := (true, "2d846149791e7bab93cb0cf840bc61e6d229ea0cd83a8c996967a9b13230be9c"), looks := false }, kinds := [], alts := [], laidByText := true, laidKinds := [.data, .pinned], laidTests := true, laidLooks := .later }
def MappingSameUptoCardSaid : Prop := Claim7.holds Tryd.pinned (.plain (OpenSpec.upto mappingSameSpec)) mappingSameUptoCard

/-- THE SECOND FORM's CARD OF 'brokerlaw45.MappingBack'. -/
def mappingBackUptoCard : Claim7 := { stood := { row := mappingBackUptoRow, standIns := [], harness := (true, "2d846149791e7bab93cb0cf840bc61e6d229ea0cd83a8c996967a9b13230be9c"), looks := false }, kinds := [], alts := [], laidByText := true, laidKinds := [.data, .pinned], laidTests := true, laidLooks := .later }
def MappingBackUptoCardSaid : Prop := Claim7.holds Tryd.pinned (.plain (OpenSpec.upto mappingBackSpec)) mappingBackUptoCard
end Rows
end Go.Proofs.YtegcobkhejpmkaaDoor
