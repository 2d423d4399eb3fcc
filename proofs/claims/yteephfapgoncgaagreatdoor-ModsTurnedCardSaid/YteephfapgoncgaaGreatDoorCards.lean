/-
  DERIVED. GIVEN WITH THE SEED: THE CARDS: each row of YteephfapgoncgaaGreatDoorRows.lean that lists a variable, with what it lists TIED to the program's text (the seventh form; the later family's looks); each row that meets fmt, with fmt's text TOLD by the authors' own Lean function (tested against real Go, not proved from fmt's source: count such statements apart). THE CARD IS WHAT COUNTS. Prove the row's statement (the work); the ties are given (YteephfapgoncgaaGreatDoorTie.lean); close each card by the builder's one call (the guide's Derived/Test/ToyasCard.lean, 'card_holds'). Laid BY PROGRAM, IN A SANDBOX (cutbox-door.mjs). By AI agents, Wed Nov 11 2026. No macro, syntax, notation, axiom, sorry.
-/
import Derived.Test.YteephfapgoncgaaGreatDoorRows
import GoSem.ClaimSeven
namespace Go.Proofs.YteephfapgoncgaaGreatDoor
namespace Rows

/-- THE TIED CARD OF 'millwrightlaw07.ModsCopies'. -/
def modsCopiesCard : Claim7 := { stood := { row := modsCopiesRow, standIns := [], harness := (true, "9ac5c1f87639f215e70629dbaa652fe677544c7d2bd0810f14e323d6cb221f93"), looks := false }, kinds := [], alts := [], laidByText := true, laidKinds := [.data, .listed, .data, .pinned], laidTests := true, laidLooks := .later }
def ModsCopiesCardSaid : Prop := Claim7.holds Tryz.pinned (.plain (OpenSpec.ofChange modsCopiesSpec)) modsCopiesCard

/-- THE TIED CARD OF 'millwrightlaw07.ModsTurned'. -/
def modsTurnedCard : Claim7 := { stood := { row := modsTurnedRow, standIns := [], harness := (true, "9ac5c1f87639f215e70629dbaa652fe677544c7d2bd0810f14e323d6cb221f93"), looks := false }, kinds := [], alts := [], laidByText := true, laidKinds := [.data, .listed, .data, .pinned], laidTests := true, laidLooks := .later }
def ModsTurnedCardSaid : Prop := Claim7.holds Tryz.pinned (.plain (OpenSpec.ofChange modsTurnedSpec)) modsTurnedCard

/-- THE SECOND FORM's CARD OF 'millwrightlaw07.ModsCopies'. -/
def modsCopiesUptoCard : Claim7 := { stood := { row := modsCopiesUptoRow, standIns := [], harness := (true, "9ac5c1f87639f215e70629dbaa652fe677544c7d2bd0810f14e323d6cb221f93"), looks := false }, kinds := [], alts := [], laidByText := true, laidKinds := [.data, .listed, .data, .pinned], laidTests := true, laidLooks := .later }
def ModsCopiesUptoCardSaid : Prop := Claim7.holds Tryz.pinned (.plain (OpenSpec.upto modsCopiesSpec)) modsCopiesUptoCard

/-- THE SECOND FORM's CARD OF 'millwrightlaw07.ModsTurned'. -/
def modsTurnedUptoCard : Claim7 := { stood := { row := modsTurnedUptoRow, standIns := [], harness := (true, "9ac5c1f87639f215e70629dbaa652fe677544c7d2bd0810f14e323d6cb221f93"), looks := false }, kinds := [], alts := [], laidByText := true, laidKinds := [.data, .listed, .data, .pinned], laidTests := true, laidLooks := .later }
def ModsTurnedUptoCardSaid : Prop := Claim7.holds Tryz.pinned (.plain (OpenSpec.upto modsTurnedSpec)) modsTurnedUptoCard
end Rows
end Go.Proofs.YteephfapgoncgaaGreatDoor
