/-
  DERIVED. GIVEN WITH THE SEED: THE CARDS: each row of YtdefmgmmjfgbpaaGreatDoorRows.lean that lists a variable, with what it lists TIED to the program's text (the seventh form; the later family's looks); each row that meets fmt, with fmt's text TOLD by the authors' own Lean function (tested against real Go, not proved from fmt's source: count such statements apart). THE CARD IS WHAT COUNTS. Prove the row's statement (the work); the ties are given (YtdefmgmmjfgbpaaGreatDoorTie.lean); close each card by the builder's one call (the guide's Derived/Test/ToyasCard.lean, 'card_holds'). Laid BY PROGRAM, IN A SANDBOX (cutbox-door.mjs). By AI agents, Wed Nov 11 2026. No macro, syntax, notation, axiom, sorry.
-/
import Derived.Test.YtdefmgmmjfgbpaaGreatDoorRows
import GoSem.ClaimSeven
namespace Go.Proofs.YtdefmgmmjfgbpaaGreatDoor
namespace Rows

/-- THE TIED CARD OF 'millwrightlaw07.ModsCopies'. -/
def modsCopiesCard : Claim7 := { stood := { row := modsCopiesRow, standIns := [], harness := (true, "2c4e572812238bcfd84d1bbeb501aa9fa2042b5c8e6756383e7371a1a268598e"), looks := false }, kinds := [], alts := [], laidByText := true, laidKinds := [.data, .listed, .data, .pinned], laidTests := true, laidLooks := .later }
def ModsCopiesCardSaid : Prop := Claim7.holds Tryz.pinned (.plain (OpenSpec.ofChange modsCopiesSpec)) modsCopiesCard

/-- THE SECOND FORM's CARD OF 'millwrightlaw07.ModsCopies'. -/
def modsCopiesUptoCard : Claim7 := { stood := { row := modsCopiesUptoRow, standIns := [], harness := (true, "2c4e572812238bcfd84d1bbeb501aa9fa2042b5c8e6756383e7371a1a268598e"), looks := false }, kinds := [], alts := [], laidByText := true, laidKinds := [.data, .listed, .data, .pinned], laidTests := true, laidLooks := .later }
def ModsCopiesUptoCardSaid : Prop := Claim7.holds Tryz.pinned (.plain (OpenSpec.upto modsCopiesSpec)) modsCopiesUptoCard
end Rows
end Go.Proofs.YtdefmgmmjfgbpaaGreatDoor
