/-
  DERIVED. GIVEN WITH THE SEED: THE CARDS: each row of YtdhiiannngjjpaaDoorRows.lean that lists a variable, with what it lists TIED to the program's text (the seventh form; the later family's looks); each row that meets fmt, with fmt's text TOLD by the authors' own Lean function (tested against real Go, not proved from fmt's source: count such statements apart). THE CARD IS WHAT COUNTS. Prove the row's statement (the work); the ties are given (YtdhiiannngjjpaaDoorTie.lean); close each card by the builder's one call (the guide's Derived/Test/ToyasCard.lean, 'card_holds'). Laid BY PROGRAM, IN A SANDBOX (cutbox-door.mjs). By AI agents, Wed Nov 11 2026. No macro, syntax, notation, axiom, sorry.
-/
import Derived.Test.YtdhiiannngjjpaaDoorRows
import GoSem.ClaimSeven
namespace Go.Proofs.YtdhiiannngjjpaaDoor
namespace Rows

/-- THE TIED CARD OF 'millwrightlaw11.BincodeBack'. -/
def bincodeBackCard : Claim7 := { stood := { row := bincodeBackRow, standIns := [], harness := (true, "074d1b266ab1d306d96cf01b27cf821dd973a989545d317fa2f31682b13a0bf9"), looks := false }, kinds := [], alts := [], laidByText := true, laidKinds := [.listed, .data], laidTests := true, laidLooks := .later }
def BincodeBackCardSaid : Prop := Claim7.holds Tryd.pinned (.plain (OpenSpec.ofChange bincodeBackSpec)) bincodeBackCard

/-- THE TIED CARD OF 'millwrightlaw11.BincodePlain'. -/
def bincodePlainCard : Claim7 := { stood := { row := bincodePlainRow, standIns := [], harness := (true, "074d1b266ab1d306d96cf01b27cf821dd973a989545d317fa2f31682b13a0bf9"), looks := false }, kinds := [], alts := [], laidByText := true, laidKinds := [.listed, .data], laidTests := true, laidLooks := .later }
def BincodePlainCardSaid : Prop := Claim7.holds Tryd.pinned (.plain (OpenSpec.ofChange bincodePlainSpec)) bincodePlainCard

/-- THE TIED CARD OF 'millwrightlaw11.BincodeEnds'. -/
def bincodeEndsCard : Claim7 := { stood := { row := bincodeEndsRow, standIns := [], harness := (true, "074d1b266ab1d306d96cf01b27cf821dd973a989545d317fa2f31682b13a0bf9"), looks := false }, kinds := [], alts := [], laidByText := true, laidKinds := [.listed, .data], laidTests := true, laidLooks := .later }
def BincodeEndsCardSaid : Prop := Claim7.holds Tryd.pinned (.plain (OpenSpec.ofChange bincodeEndsSpec)) bincodeEndsCard

/-- THE SECOND FORM's CARD OF 'millwrightlaw11.BincodeBack'. -/
def bincodeBackUptoCard : Claim7 := { stood := { row := bincodeBackUptoRow, standIns := [], harness := (true, "074d1b266ab1d306d96cf01b27cf821dd973a989545d317fa2f31682b13a0bf9"), looks := false }, kinds := [], alts := [], laidByText := true, laidKinds := [.listed, .data], laidTests := true, laidLooks := .later }
def BincodeBackUptoCardSaid : Prop := Claim7.holds Tryd.pinned (.plain (OpenSpec.upto bincodeBackSpec)) bincodeBackUptoCard

/-- THE SECOND FORM's CARD OF 'millwrightlaw11.BincodePlain'. -/
def bincodePlainUptoCard : Claim7 := { stood := { row := bincodePlainUptoRow, standIns := [], harness := (true, "074d1b266ab1d306d96cf01b27cf821dd973a989545d317fa2f31682b13a0bf9"), looks := false }, kinds := [], alts := [], laidByText := true, laidKinds := [.listed, .data], laidTests := true, laidLooks := .later }
def BincodePlainUptoCardSaid : Prop := Claim7.holds Tryd.pinned (.plain (OpenSpec.upto bincodePlainSpec)) bincodePlainUptoCard

/-- THE SECOND FORM's CARD OF 'millwrightlaw11.BincodeEnds'. -/
def bincodeEndsUptoCard : Claim7 := { stood := { row := bincodeEndsUptoRow, standIns := [], harness := (true, "074d1b266ab1d306d96cf01b27cf821dd973a989545d317fa2f31682b13a0bf9"), looks := false }, kinds := [], alts := [], laidByText := true, laidKinds := [.listed, .data], laidTests := true, laidLooks := .later }
def BincodeEndsUptoCardSaid : Prop := Claim7.holds Tryd.pinned (.plain (OpenSpec.upto bincodeEndsSpec)) bincodeEndsUptoCard
end Rows
end Go.Proofs.YtdhiiannngjjpaaDoor
