/-
  DERIVED. GIVEN WITH THE SEED: THE CARDS: each row of YtdhiiannngjjpaaGreatDoorRows.lean that lists a variable, with what it lists TIED to the program's text (the seventh form; the later family's looks); each row that meets fmt, with fmt's text TOLD by the authors' own Lean function (tested against real Go, not proved from fmt's source: count such statements apart). THE CARD IS WHAT COUNTS. Prove the row's statement (the work); the ties are given (YtdhiiannngjjpaaGreatDoorTie.lean); close each card by the builder's one call (the guide's Derived/Test/ToyasCard.lean, 'card_holds'). Laid BY PROGRAM, IN A SANDBOX (cutbox-door.mjs). By AI agents, Wed Nov 11 2026. No macro, syntax, notation, axiom, sorry.
-/
import Derived.Test.YtdhiiannngjjpaaGreatDoorRows
import GoSem.ClaimSeven
namespace Go.Proofs.YtdhiiannngjjpaaGreatDoor
namespace Rows

/-- THE TIED CARD OF 'millwrightlaw11.BincodePuts'. -/
def bincodePutsCard : Claim7 := { stood := { row := bincodePutsRow, standIns := [], harness := (true, "f7847074acf64dcefeba4294c59f33b5657268448bcc4203fe1f23bbaf27026f"), looks := false }, kinds := [], alts := [], laidByText := true, laidKinds := [.listed, .data], laidTests := true, laidLooks := .later }
def BincodePutsCardSaid : Prop := Claim7.holds Tryz.pinned (.plain (OpenSpec.ofChange bincodePutsSpec)) bincodePutsCard

/-- THE TIED CARD OF 'millwrightlaw11.BincodeGets'. -/
def bincodeGetsCard : Claim7 := { stood := { row := bincodeGetsRow, standIns := [], harness := (true, "f7847074acf64dcefeba4294c59f33b5657268448bcc4203fe1f23bbaf27026f"), looks := false }, kinds := [], alts := [], laidByText := true, laidKinds := [.listed, .data], laidTests := true, laidLooks := .later }
def BincodeGetsCardSaid : Prop := Claim7.holds Tryz.pinned (.plain (OpenSpec.ofChange bincodeGetsSpec)) bincodeGetsCard

/-- THE TIED CARD OF 'millwrightlaw11.BincodeExprs'. -/
def bincodeExprsCard : Claim7 := { stood := { row := bincodeExprsRow, standIns := [], harness := (true, "f7847074acf64dcefeba4294c59f33b5657268448bcc4203fe1f23bbaf27026f"), looks := false }, kinds := [], alts := [], laidByText := true, laidKinds := [.listed, .data], laidTests := true, laidLooks := .later }
def BincodeExprsCardSaid : Prop := Claim7.holds Tryz.pinned (.plain (OpenSpec.ofChange bincodeExprsSpec)) bincodeExprsCard

/-- THE SECOND FORM's CARD OF 'millwrightlaw11.BincodePuts'. -/
def bincodePutsUptoCard : Claim7 := { stood := { row := bincodePutsUptoRow, standIns := [], harness := (true, "f7847074acf64dcefeba4294c59f33b5657268448bcc4203fe1f23bbaf27026f"), looks := false }, kinds := [], alts := [], laidByText := true, laidKinds := [.listed, .data], laidTests := true, laidLooks := .later }
def BincodePutsUptoCardSaid : Prop := Claim7.holds Tryz.pinned (.plain (OpenSpec.upto bincodePutsSpec)) bincodePutsUptoCard

/-- THE SECOND FORM's CARD OF 'millwrightlaw11.BincodeGets'. -/
def bincodeGetsUptoCard : Claim7 := { stood := { row := bincodeGetsUptoRow, standIns := [], harness := (true, "f7847074acf64dcefeba4294c59f33b5657268448bcc4203fe1f23bbaf27026f"), looks := false }, kinds := [], alts := [], laidByText := true, laidKinds := [.listed, .data], laidTests := true, laidLooks := .later }
def BincodeGetsUptoCardSaid : Prop := Claim7.holds Tryz.pinned (.plain (OpenSpec.upto bincodeGetsSpec)) bincodeGetsUptoCard

/-- THE SECOND FORM's CARD OF 'millwrightlaw11.BincodeExprs'. -/
def bincodeExprsUptoCard : Claim7 := { stood := { row := bincodeExprsUptoRow, standIns := [], harness := (true, "f7847074acf64dcefeba4294c59f33b5657268448bcc4203fe1f23bbaf27026f"), looks := false }, kinds := [], alts := [], laidByText := true, laidKinds := [.listed, .data], laidTests := true, laidLooks := .later }
def BincodeExprsUptoCardSaid : Prop := Claim7.holds Tryz.pinned (.plain (OpenSpec.upto bincodeExprsSpec)) bincodeExprsUptoCard
end Rows
end Go.Proofs.YtdhiiannngjjpaaGreatDoor
