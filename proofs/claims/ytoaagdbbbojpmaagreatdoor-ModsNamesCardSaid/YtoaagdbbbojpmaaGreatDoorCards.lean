/-
  DERIVED. GIVEN WITH THE SEED: THE CARDS: each row of YtoaagdbbbojpmaaGreatDoorRows.lean that lists a variable, with what it lists TIED to the program's text (the seventh form; the later family's looks); each row that meets fmt, with fmt's text TOLD by the authors' own Lean function (tested against real Go, not proved from fmt's source: count such statements apart). THE CARD IS WHAT COUNTS. Prove the row's statement (the work); the ties are given (YtoaagdbbbojpmaaGreatDoorTie.lean); close each card by the builder's one call (the guide's Derived/Test/ToyasCard.lean, 'card_holds'). Laid BY PROGRAM, IN A SANDBOX (cutbox-door.mjs). By AI agents, Wed Nov 11 2026. No macro, syntax, notation, axiom, sorry.
-/
import Derived.Test.YtoaagdbbbojpmaaGreatDoorRows
import GoSem.ClaimSeven
namespace Go.Proofs.YtoaagdbbbojpmaaGreatDoor
namespace Rows

/-- THE TIED CARD OF 'millwrightlaw07.ModsSame'. -/
def modsSameCard : Claim7 := { stood := { row := modsSameRow, standIns := [], harness := (true, "d02f04adce8663518d6583dffb7c845ef2f91228974045a535658505d8a8ec59"), looks := false }, kinds := [], alts := [], laidByText := true, laidKinds := [.data, .listed, .data, .pinned], laidTests := true, laidLooks := .later }
def ModsSameCardSaid : Prop := Claim7.holds Tryz.pinned (.plain (OpenSpec.ofChange modsSameSpec)) modsSameCard

/-- THE TIED CARD OF 'millwrightlaw07.ModsLimits'. -/
def modsLimitsCard : Claim7 := { stood := { row := modsLimitsRow, standIns := [], harness := (true, "d02f04adce8663518d6583dffb7c845ef2f91228974045a535658505d8a8ec59"), looks := false }, kinds := [], alts := [], laidByText := true, laidKinds := [.data, .listed, .data, .pinned], laidTests := true, laidLooks := .later }
def ModsLimitsCardSaid : Prop := Claim7.holds Tryz.pinned (.plain (OpenSpec.ofChange modsLimitsSpec)) modsLimitsCard

/-- THE TIED CARD OF 'millwrightlaw07.ModsCopies'. -/
def modsCopiesCard : Claim7 := { stood := { row := modsCopiesRow, standIns := [], harness := (true, "d02f04adce8663518d6583dffb7c845ef2f91228974045a535658505d8a8ec59"), looks := false }, kinds := [], alts := [], laidByText := true, laidKinds := [.data, .listed, .data, .pinned], laidTests := true, laidLooks := .later }
def ModsCopiesCardSaid : Prop := Claim7.holds Tryz.pinned (.plain (OpenSpec.ofChange modsCopiesSpec)) modsCopiesCard

/-- THE TIED CARD OF 'millwrightlaw07.ModsTurned'. -/
def modsTurnedCard : Claim7 := { stood := { row := modsTurnedRow, standIns := [], harness := (true, "d02f04adce8663518d6583dffb7c845ef2f91228974045a535658505d8a8ec59"), looks := false }, kinds := [], alts := [], laidByText := true, laidKinds := [.data, .listed, .data, .pinned], laidTests := true, laidLooks := .later }
def ModsTurnedCardSaid : Prop := Claim7.holds Tryz.pinned (.plain (OpenSpec.ofChange modsTurnedSpec)) modsTurnedCard

/-- THE TIED CARD OF 'millwrightlaw07.ModsStarts'. -/
def modsStartsCard : Claim7 := { stood := { row := modsStartsRow, standIns := [], harness := (true, "d02f04adce8663518d6583dffb7c845ef2f91228974045a535658505d8a8ec59"), looks := false }, kinds := [], alts := [], laidByText := true, laidKinds := [.data, .listed, .data, .pinned], laidTests := true, laidLooks := .later }
def ModsStartsCardSaid : Prop := Claim7.holds Tryz.pinned (.plain (OpenSpec.ofChange modsStartsSpec)) modsStartsCard

/-- THE TIED CARD OF 'millwrightlaw07.ModsFewer'. -/
def modsFewerCard : Claim7 := { stood := { row := modsFewerRow, standIns := [], harness := (true, "d02f04adce8663518d6583dffb7c845ef2f91228974045a535658505d8a8ec59"), looks := false }, kinds := [], alts := [], laidByText := true, laidKinds := [.data, .listed, .data, .pinned], laidTests := true, laidLooks := .later }
def ModsFewerCardSaid : Prop := Claim7.holds Tryz.pinned (.plain (OpenSpec.ofChange modsFewerSpec)) modsFewerCard

/-- THE TIED CARD OF 'millwrightlaw07.ModsNames'. -/
def modsNamesCard : Claim7 := { stood := { row := modsNamesRow, standIns := [], harness := (true, "d02f04adce8663518d6583dffb7c845ef2f91228974045a535658505d8a8ec59"), looks := false }, kinds := [], alts := [], laidByText := true, laidKinds := [.data, .listed, .data, .pinned], laidTests := true, laidLooks := .later }
def ModsNamesCardSaid : Prop := Claim7.holds Tryz.pinned (.plain (OpenSpec.ofChange modsNamesSpec)) modsNamesCard

/-- THE SECOND FORM's CARD OF 'millwrightlaw07.ModsSame'. -/
def modsSameUptoCard : Claim7 := { stood := { row := modsSameUptoRow, standIns := [], harness := (true, "d02f04adce8663518d6583dffb7c845ef2f91228974045a535658505d8a8ec59"), looks := false }, kinds := [], alts := [], laidByText := true, laidKinds := [.data, .listed, .data, .pinned], laidTests := true, laidLooks := .later }
def ModsSameUptoCardSaid : Prop := Claim7.holds Tryz.pinned (.plain (OpenSpec.upto modsSameSpec)) modsSameUptoCard

/-- THE SECOND FORM's CARD OF 'millwrightlaw07.ModsLimits'. -/
def modsLimitsUptoCard : Claim7 := { stood := { row := modsLimitsUptoRow, standIns := [], harness := (true, "d02f04adce8663518d6583dffb7c845ef2f91228974045a535658505d8a8ec59"), looks := false }, kinds := [], alts := [], laidByText := true, laidKinds := [.data, .listed, .data, .pinned], laidTests := true, laidLooks := .later }
def ModsLimitsUptoCardSaid : Prop := Claim7.holds Tryz.pinned (.plain (OpenSpec.upto modsLimitsSpec)) modsLimitsUptoCard

/-- THE SECOND FORM's CARD OF 'millwrightlaw07.ModsCopies'. -/
def modsCopiesUptoCard : Claim7 := { stood := { row := modsCopiesUptoRow, standIns := [], harness := (true, "d02f04adce8663518d6583dffb7c845ef2f91228974045a535658505d8a8ec59"), looks := false }, kinds := [], alts := [], laidByText := true, laidKinds := [.data, .listed, .data, .pinned], laidTests := true, laidLooks := .later }
def ModsCopiesUptoCardSaid : Prop := Claim7.holds Tryz.pinned (.plain (OpenSpec.upto modsCopiesSpec)) modsCopiesUptoCard

/-- THE SECOND FORM's CARD OF 'millwrightlaw07.ModsTurned'. -/
def modsTurnedUptoCard : Claim7 := { stood := { row := modsTurnedUptoRow, standIns := [], harness := (true, "d02f04adce8663518d6583dffb7c845ef2f91228974045a535658505d8a8ec59"), looks := false }, kinds := [], alts := [], laidByText := true, laidKinds := [.data, .listed, .data, .pinned], laidTests := true, laidLooks := .later }
def ModsTurnedUptoCardSaid : Prop := Claim7.holds Tryz.pinned (.plain (OpenSpec.upto modsTurnedSpec)) modsTurnedUptoCard

/-- THE SECOND FORM's CARD OF 'millwrightlaw07.ModsStarts'. -/
def modsStartsUptoCard : Claim7 := { stood := { row := modsStartsUptoRow, standIns := [], harness := (true, "d02f04adce8663518d6583dffb7c845ef2f91228974045a535658505d8a8ec59"), looks := false }, kinds := [], alts := [], laidByText := true, laidKinds := [.data, .listed, .data, .pinned], laidTests := true, laidLooks := .later }
def ModsStartsUptoCardSaid : Prop := Claim7.holds Tryz.pinned (.plain (OpenSpec.upto modsStartsSpec)) modsStartsUptoCard

/-- THE SECOND FORM's CARD OF 'millwrightlaw07.ModsFewer'. -/
def modsFewerUptoCard : Claim7 := { stood := { row := modsFewerUptoRow, standIns := [], harness := (true, "d02f04adce8663518d6583dffb7c845ef2f91228974045a535658505d8a8ec59"), looks := false }, kinds := [], alts := [], laidByText := true, laidKinds := [.data, .listed, .data, .pinned], laidTests := true, laidLooks := .later }
def ModsFewerUptoCardSaid : Prop := Claim7.holds Tryz.pinned (.plain (OpenSpec.upto modsFewerSpec)) modsFewerUptoCard

/-- THE SECOND FORM's CARD OF 'millwrightlaw07.ModsNames'. -/
def modsNamesUptoCard : Claim7 := { stood := { row := modsNamesUptoRow, standIns := [], harness := (true, "d02f04adce8663518d6583dffb7c845ef2f91228974045a535658505d8a8ec59"), looks := false }, kinds := [], alts := [], laidByText := true, laidKinds := [.data, .listed, .data, .pinned], laidTests := true, laidLooks := .later }
def ModsNamesUptoCardSaid : Prop := Claim7.holds Tryz.pinned (.plain (OpenSpec.upto modsNamesSpec)) modsNamesUptoCard
end Rows
end Go.Proofs.YtoaagdbbbojpmaaGreatDoor
