/-
  DERIVED. GIVEN WITH THE SEED: THE CARDS: each row of YtdfofedlbljnhaaGreatDoorRows.lean that lists a variable, with what it lists TIED to the program's text (the seventh form; the later family's looks); each row that meets fmt, with fmt's text TOLD by the authors' own Lean function (tested against real Go, not proved from fmt's source: count such statements apart). THE CARD IS WHAT COUNTS. Prove the row's statement (the work); the ties are given (YtdfofedlbljnhaaGreatDoorTie.lean); close each card by the builder's one call (the guide's Derived/Test/ToyasCard.lean, 'card_holds'). Laid BY PROGRAM, IN A SANDBOX (cutbox-door.mjs). By AI agents, Wed Nov 11 2026. No macro, syntax, notation, axiom, sorry.
-/
import Derived.Test.YtdfofedlbljnhaaGreatDoorRows
import GoSem.ClaimSeven
namespace Go.Proofs.YtdfofedlbljnhaaGreatDoor
namespace Rows

/-- THE TIED CARD OF 'millwrightlaw13.BinaryWrites'. -/
def binaryWritesCard : Claim7 := { stood := { row := binaryWritesRow, standIns := [], harness := (true, "c99738dacd1deefedd5c9e83cae4880a7994e7bdd2298fdefde6abbb398c6fc9"), looks := false }, kinds := [], alts := [], laidByText := true, laidKinds := [.data, .listed, .data, .pinned], laidTests := true, laidLooks := .later }
def BinaryWritesCardSaid : Prop := Claim7.holds Tryz.pinned (.plain (OpenSpec.ofChange binaryWritesSpec)) binaryWritesCard

/-- THE TIED CARD OF 'millwrightlaw13.BinaryBack'. -/
def binaryBackCard : Claim7 := { stood := { row := binaryBackRow, standIns := [], harness := (true, "c99738dacd1deefedd5c9e83cae4880a7994e7bdd2298fdefde6abbb398c6fc9"), looks := false }, kinds := [], alts := [], laidByText := true, laidKinds := [.data, .listed, .data, .pinned], laidTests := true, laidLooks := .later }
def BinaryBackCardSaid : Prop := Claim7.holds Tryz.pinned (.plain (OpenSpec.ofChange binaryBackSpec)) binaryBackCard

/-- THE TIED CARD OF 'millwrightlaw13.BinaryAgain'. -/
def binaryAgainCard : Claim7 := { stood := { row := binaryAgainRow, standIns := [], harness := (true, "c99738dacd1deefedd5c9e83cae4880a7994e7bdd2298fdefde6abbb398c6fc9"), looks := false }, kinds := [], alts := [], laidByText := true, laidKinds := [.data, .listed, .data, .pinned], laidTests := true, laidLooks := .later }
def BinaryAgainCardSaid : Prop := Claim7.holds Tryz.pinned (.plain (OpenSpec.ofChange binaryAgainSpec)) binaryAgainCard

/-- THE TIED CARD OF 'millwrightlaw13.BinaryFits'. -/
def binaryFitsCard : Claim7 := { stood := { row := binaryFitsRow, standIns := [], harness := (true, "c99738dacd1deefedd5c9e83cae4880a7994e7bdd2298fdefde6abbb398c6fc9"), looks := false }, kinds := [], alts := [], laidByText := true, laidKinds := [.data, .listed, .data, .pinned], laidTests := true, laidLooks := .later }
def BinaryFitsCardSaid : Prop := Claim7.holds Tryz.pinned (.plain (OpenSpec.ofChange binaryFitsSpec)) binaryFitsCard

/-- THE TIED CARD OF 'millwrightlaw13.BinarySections'. -/
def binarySectionsCard : Claim7 := { stood := { row := binarySectionsRow, standIns := [], harness := (true, "c99738dacd1deefedd5c9e83cae4880a7994e7bdd2298fdefde6abbb398c6fc9"), looks := false }, kinds := [], alts := [], laidByText := true, laidKinds := [.data, .listed, .data, .pinned], laidTests := true, laidLooks := .later }
def BinarySectionsCardSaid : Prop := Claim7.holds Tryz.pinned (.plain (OpenSpec.ofChange binarySectionsSpec)) binarySectionsCard

/-- THE TIED CARD OF 'millwrightlaw13.BinaryCut'. -/
def binaryCutCard : Claim7 := { stood := { row := binaryCutRow, standIns := [], harness := (true, "c99738dacd1deefedd5c9e83cae4880a7994e7bdd2298fdefde6abbb398c6fc9"), looks := false }, kinds := [], alts := [], laidByText := true, laidKinds := [.data, .listed, .data, .pinned], laidTests := true, laidLooks := .later }
def BinaryCutCardSaid : Prop := Claim7.holds Tryz.pinned (.plain (OpenSpec.ofChange binaryCutSpec)) binaryCutCard

/-- THE TIED CARD OF 'millwrightlaw13.BinaryReads'. -/
def binaryReadsCard : Claim7 := { stood := { row := binaryReadsRow, standIns := [], harness := (true, "c99738dacd1deefedd5c9e83cae4880a7994e7bdd2298fdefde6abbb398c6fc9"), looks := false }, kinds := [], alts := [], laidByText := true, laidKinds := [.data, .listed, .data, .pinned], laidTests := true, laidLooks := .later }
def BinaryReadsCardSaid : Prop := Claim7.holds Tryz.pinned (.plain (OpenSpec.ofChange binaryReadsSpec)) binaryReadsCard

/-- THE SECOND FORM's CARD OF 'millwrightlaw13.BinaryWrites'. -/
def binaryWritesUptoCard : Claim7 := { stood := { row := binaryWritesUptoRow, standIns := [], harness := (true, "c99738dacd1deefedd5c9e83cae4880a7994e7bdd2298fdefde6abbb398c6fc9"), looks := false }, kinds := [], alts := [], laidByText := true, laidKinds := [.data, .listed, .data, .pinned], laidTests := true, laidLooks := .later }
def BinaryWritesUptoCardSaid : Prop := Claim7.holds Tryz.pinned (.plain (OpenSpec.upto binaryWritesSpec)) binaryWritesUptoCard

/-- THE SECOND FORM's CARD OF 'millwrightlaw13.BinaryBack'. -/
def binaryBackUptoCard : Claim7 := { stood := { row := binaryBackUptoRow, standIns := [], harness := (true, "c99738dacd1deefedd5c9e83cae4880a7994e7bdd2298fdefde6abbb398c6fc9"), looks := false }, kinds := [], alts := [], laidByText := true, laidKinds := [.data, .listed, .data, .pinned], laidTests := true, laidLooks := .later }
def BinaryBackUptoCardSaid : Prop := Claim7.holds Tryz.pinned (.plain (OpenSpec.upto binaryBackSpec)) binaryBackUptoCard

/-- THE SECOND FORM's CARD OF 'millwrightlaw13.BinaryAgain'. -/
def binaryAgainUptoCard : Claim7 := { stood := { row := binaryAgainUptoRow, standIns := [], harness := (true, "c99738dacd1deefedd5c9e83cae4880a7994e7bdd2298fdefde6abbb398c6fc9"), looks := false }, kinds := [], alts := [], laidByText := true, laidKinds := [.data, .listed, .data, .pinned], laidTests := true, laidLooks := .later }
def BinaryAgainUptoCardSaid : Prop := Claim7.holds Tryz.pinned (.plain (OpenSpec.upto binaryAgainSpec)) binaryAgainUptoCard

/-- THE SECOND FORM's CARD OF 'millwrightlaw13.BinaryFits'. -/
def binaryFitsUptoCard : Claim7 := { stood := { row := binaryFitsUptoRow, standIns := [], harness := (true, "c99738dacd1deefedd5c9e83cae4880a7994e7bdd2298fdefde6abbb398c6fc9"), looks := false }, kinds := [], alts := [], laidByText := true, laidKinds := [.data, .listed, .data, .pinned], laidTests := true, laidLooks := .later }
def BinaryFitsUptoCardSaid : Prop := Claim7.holds Tryz.pinned (.plain (OpenSpec.upto binaryFitsSpec)) binaryFitsUptoCard

/-- THE SECOND FORM's CARD OF 'millwrightlaw13.BinarySections'. -/
def binarySectionsUptoCard : Claim7 := { stood := { row := binarySectionsUptoRow, standIns := [], harness := (true, "c99738dacd1deefedd5c9e83cae4880a7994e7bdd2298fdefde6abbb398c6fc9"), looks := false }, kinds := [], alts := [], laidByText := true, laidKinds := [.data, .listed, .data, .pinned], laidTests := true, laidLooks := .later }
def BinarySectionsUptoCardSaid : Prop := Claim7.holds Tryz.pinned (.plain (OpenSpec.upto binarySectionsSpec)) binarySectionsUptoCard

/-- THE SECOND FORM's CARD OF 'millwrightlaw13.BinaryCut'. -/
def binaryCutUptoCard : Claim7 := { stood := { row := binaryCutUptoRow, standIns := [], harness := (true, "c99738dacd1deefedd5c9e83cae4880a7994e7bdd2298fdefde6abbb398c6fc9"), looks := false }, kinds := [], alts := [], laidByText := true, laidKinds := [.data, .listed, .data, .pinned], laidTests := true, laidLooks := .later }
def BinaryCutUptoCardSaid : Prop := Claim7.holds Tryz.pinned (.plain (OpenSpec.upto binaryCutSpec)) binaryCutUptoCard

/-- THE SECOND FORM's CARD OF 'millwrightlaw13.BinaryReads'. -/
def binaryReadsUptoCard : Claim7 := { stood := { row := binaryReadsUptoRow, standIns := [], harness := (true, "c99738dacd1deefedd5c9e83cae4880a7994e7bdd2298fdefde6abbb398c6fc9"), looks := false }, kinds := [], alts := [], laidByText := true, laidKinds := [.data, .listed, .data, .pinned], laidTests := true, laidLooks := .later }
def BinaryReadsUptoCardSaid : Prop := Claim7.holds Tryz.pinned (.plain (OpenSpec.upto binaryReadsSpec)) binaryReadsUptoCard
end Rows
end Go.Proofs.YtdfofedlbljnhaaGreatDoor
