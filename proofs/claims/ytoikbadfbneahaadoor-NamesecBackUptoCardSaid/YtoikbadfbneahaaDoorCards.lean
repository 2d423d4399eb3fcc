/-
  DERIVED. GIVEN WITH THE SEED: THE CARDS: each row of YtoikbadfbneahaaDoorRows.lean that lists a variable, with what it lists TIED to the program's text (the seventh form; the later family's looks); each row that meets fmt, with fmt's text TOLD by the authors' own Lean function (tested against real Go, not proved from fmt's source: count such statements apart). THE CARD IS WHAT COUNTS. Prove the row's statement (the work); the ties are given (YtoikbadfbneahaaDoorTie.lean); close each card by the builder's one call (the guide's Derived/Test/ToyasCard.lean, 'card_holds'). Laid BY PROGRAM, IN A SANDBOX (cutbox-door.mjs). By AI agents, Wed Nov 11 2026. No macro, syntax, notation, axiom, sorry.
-/
import Derived.Test.YtoikbadfbneahaaDoorRows
import GoSem.ClaimSeven
namespace Go.Proofs.YtoikbadfbneahaaDoor
namespace Rows

/-- THE TIED CARD OF 'millwrightlaw14.NamesecFinds'. -/
def namesecFindsCard : Claim7 := { stood := { row := namesecFindsRow, standIns := [], harness := (true, "a32d99c42212517eea36715398138ab56aacd0a47b4652225e5774ebccdeb275"), looks := false }, kinds := [], alts := [], laidByText := true, laidKinds := [.data, .pinned], laidTests := true, laidLooks := .later }
def NamesecFindsCardSaid : Prop := Claim7.holds Tryd.pinned (.plain (OpenSpec.ofChange namesecFindsSpec)) namesecFindsCard

/-- THE TIED CARD OF 'millwrightlaw14.NamesecBack'. -/
def namesecBackCard : Claim7 := { stood := { row := namesecBackRow, standIns := [], harness := (true, "a32d99c42212517eea36715398138ab56aacd0a47b4652225e5774ebccdeb275"), looks := false }, kinds := [], alts := [], laidByText := true, laidKinds := [.data, .pinned], laidTests := true, laidLooks := .later }
def NamesecBackCardSaid : Prop := Claim7.holds Tryd.pinned (.plain (OpenSpec.ofChange namesecBackSpec)) namesecBackCard

/-- THE TIED CARD OF 'millwrightlaw14.NamesecReads'. -/
def namesecReadsCard : Claim7 := { stood := { row := namesecReadsRow, standIns := [], harness := (true, "a32d99c42212517eea36715398138ab56aacd0a47b4652225e5774ebccdeb275"), looks := false }, kinds := [], alts := [], laidByText := true, laidKinds := [.data, .pinned], laidTests := true, laidLooks := .later }
def NamesecReadsCardSaid : Prop := Claim7.holds Tryd.pinned (.plain (OpenSpec.ofChange namesecReadsSpec)) namesecReadsCard

/-- THE SECOND FORM's CARD OF 'millwrightlaw14.NamesecFinds'. -/
def namesecFindsUptoCard : Claim7 := { stood := { row := namesecFindsUptoRow, standIns := [], harness := (true, "a32d99c42212517eea36715398138ab56aacd0a47b4652225e5774ebccdeb275"), looks := false }, kinds := [], alts := [], laidByText := true, laidKinds := [.data, .pinned], laidTests := true, laidLooks := .later }
def NamesecFindsUptoCardSaid : Prop := Claim7.holds Tryd.pinned (.plain (OpenSpec.upto namesecFindsSpec)) namesecFindsUptoCard

/-- THE SECOND FORM's CARD OF 'millwrightlaw14.NamesecBack'. -/
def namesecBackUptoCard : Claim7 := { stood := { row := namesecBackUptoRow, standIns := [], harness := (true, "a32d99c42212517eea36715398138ab56aacd0a47b4652225e5774ebccdeb275"), looks := false }, kinds := [], alts := [], laidByText := true, laidKinds := [.data, .pinned], laidTests := true, laidLooks := .later }
def NamesecBackUptoCardSaid : Prop := Claim7.holds Tryd.pinned (.plain (OpenSpec.upto namesecBackSpec)) namesecBackUptoCard

/-- THE SECOND FORM's CARD OF 'millwrightlaw14.NamesecReads'. -/
def namesecReadsUptoCard : Claim7 := { stood := { row := namesecReadsUptoRow, standIns := [], harness := (true, "a32d99c42212517eea36715398138ab56aacd0a47b4652225e5774ebccdeb275"), looks := false }, kinds := [], alts := [], laidByText := true, laidKinds := [.data, .pinned], laidTests := true, laidLooks := .later }
def NamesecReadsUptoCardSaid : Prop := Claim7.holds Tryd.pinned (.plain (OpenSpec.upto namesecReadsSpec)) namesecReadsUptoCard
end Rows
end Go.Proofs.YtoikbadfbneahaaDoor
