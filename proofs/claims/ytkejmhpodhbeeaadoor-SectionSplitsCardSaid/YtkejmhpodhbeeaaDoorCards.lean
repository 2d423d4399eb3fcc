/-
  DERIVED. GIVEN WITH THE SEED: THE CARDS: each row of YtkejmhpodhbeeaaDoorRows.lean that lists a variable, with what it lists TIED to the program's text (the seventh form; the later family's looks); each row that meets fmt, with fmt's text TOLD by the authors' own Lean function (tested against real Go, not proved from fmt's source: count such statements apart). THE CARD IS WHAT COUNTS. Prove the row's statement (the work); the ties are given (YtkejmhpodhbeeaaDoorTie.lean); close each card by the builder's one call (the guide's Derived/Test/ToyasCard.lean, 'card_holds'). Laid BY PROGRAM, IN A SANDBOX (cutbox-door.mjs). By AI agents, Wed Nov 11 2026. No macro, syntax, notation, axiom, sorry.
-/
import Derived.Test.YtkejmhpodhbeeaaDoorRows
import GoSem.ClaimSeven
namespace Go.Proofs.YtkejmhpodhbeeaaDoor
namespace Rows

/-- THE TIED CARD OF 'millwrightlaw02.OctetOwn'. -/
def octetOwnCard : Claim7 := { stood := { row := octetOwnRow, standIns := [], harness := (true, "6cbec85f5221fc8f62e688c1da172b22b6aa3c07e33b5c8f4fa3aebba8cab355"), looks := false }, kinds := [], alts := [], laidByText := true, laidKinds := [.data, .pinned], laidTests := true, laidLooks := .later }
def OctetOwnCardSaid : Prop := Claim7.holds Tryd.pinned (.plain (OpenSpec.ofChange octetOwnSpec)) octetOwnCard

/-- THE TIED CARD OF 'millwrightlaw02.OctetWrites'. -/
def octetWritesCard : Claim7 := { stood := { row := octetWritesRow, standIns := [], harness := (true, "6cbec85f5221fc8f62e688c1da172b22b6aa3c07e33b5c8f4fa3aebba8cab355"), looks := false }, kinds := [], alts := [], laidByText := true, laidKinds := [.data, .pinned], laidTests := true, laidLooks := .later }
def OctetWritesCardSaid : Prop := Claim7.holds Tryd.pinned (.plain (OpenSpec.ofChange octetWritesSpec)) octetWritesCard

/-- THE TIED CARD OF 'millwrightlaw02.OctetNobody'. -/
def octetNobodyCard : Claim7 := { stood := { row := octetNobodyRow, standIns := [], harness := (true, "6cbec85f5221fc8f62e688c1da172b22b6aa3c07e33b5c8f4fa3aebba8cab355"), looks := false }, kinds := [], alts := [], laidByText := true, laidKinds := [.data, .pinned], laidTests := true, laidLooks := .later }
def OctetNobodyCardSaid : Prop := Claim7.holds Tryd.pinned (.plain (OpenSpec.ofChange octetNobodySpec)) octetNobodyCard

/-- THE TIED CARD OF 'millwrightlaw02.OctetBack'. -/
def octetBackCard : Claim7 := { stood := { row := octetBackRow, standIns := [], harness := (true, "6cbec85f5221fc8f62e688c1da172b22b6aa3c07e33b5c8f4fa3aebba8cab355"), looks := false }, kinds := [], alts := [], laidByText := true, laidKinds := [.data, .pinned], laidTests := true, laidLooks := .later }
def OctetBackCardSaid : Prop := Claim7.holds Tryd.pinned (.plain (OpenSpec.ofChange octetBackSpec)) octetBackCard

/-- THE TIED CARD OF 'millwrightlaw02.OctetReads'. -/
def octetReadsCard : Claim7 := { stood := { row := octetReadsRow, standIns := [], harness := (true, "6cbec85f5221fc8f62e688c1da172b22b6aa3c07e33b5c8f4fa3aebba8cab355"), looks := false }, kinds := [], alts := [], laidByText := true, laidKinds := [.data, .pinned], laidTests := true, laidLooks := .later }
def OctetReadsCardSaid : Prop := Claim7.holds Tryd.pinned (.plain (OpenSpec.ofChange octetReadsSpec)) octetReadsCard

/-- THE TIED CARD OF 'millwrightlaw12.SectionJoins'. -/
def sectionJoinsCard : Claim7 := { stood := { row := sectionJoinsRow, standIns := [], harness := (true, "6cbec85f5221fc8f62e688c1da172b22b6aa3c07e33b5c8f4fa3aebba8cab355"), looks := false }, kinds := [], alts := [], laidByText := true, laidKinds := [.data, .pinned], laidTests := true, laidLooks := .later }
def SectionJoinsCardSaid : Prop := Claim7.holds Tryd.pinned (.plain (OpenSpec.ofChange sectionJoinsSpec)) sectionJoinsCard

/-- THE TIED CARD OF 'millwrightlaw12.SectionPlaces'. -/
def sectionPlacesCard : Claim7 := { stood := { row := sectionPlacesRow, standIns := [], harness := (true, "6cbec85f5221fc8f62e688c1da172b22b6aa3c07e33b5c8f4fa3aebba8cab355"), looks := false }, kinds := [], alts := [], laidByText := true, laidKinds := [.data, .pinned], laidTests := true, laidLooks := .later }
def SectionPlacesCardSaid : Prop := Claim7.holds Tryd.pinned (.plain (OpenSpec.ofChange sectionPlacesSpec)) sectionPlacesCard

/-- THE TIED CARD OF 'millwrightlaw12.SectionBack'. -/
def sectionBackCard : Claim7 := { stood := { row := sectionBackRow, standIns := [], harness := (true, "6cbec85f5221fc8f62e688c1da172b22b6aa3c07e33b5c8f4fa3aebba8cab355"), looks := false }, kinds := [], alts := [], laidByText := true, laidKinds := [.data, .pinned], laidTests := true, laidLooks := .later }
def SectionBackCardSaid : Prop := Claim7.holds Tryd.pinned (.plain (OpenSpec.ofChange sectionBackSpec)) sectionBackCard

/-- THE TIED CARD OF 'millwrightlaw12.SectionAgain'. -/
def sectionAgainCard : Claim7 := { stood := { row := sectionAgainRow, standIns := [], harness := (true, "6cbec85f5221fc8f62e688c1da172b22b6aa3c07e33b5c8f4fa3aebba8cab355"), looks := false }, kinds := [], alts := [], laidByText := true, laidKinds := [.data, .pinned], laidTests := true, laidLooks := .later }
def SectionAgainCardSaid : Prop := Claim7.holds Tryd.pinned (.plain (OpenSpec.ofChange sectionAgainSpec)) sectionAgainCard

/-- THE TIED CARD OF 'millwrightlaw02.OctetFaults'. -/
def octetFaultsCard : Claim7 := { stood := { row := octetFaultsRow, standIns := [], harness := (true, "6cbec85f5221fc8f62e688c1da172b22b6aa3c07e33b5c8f4fa3aebba8cab355"), looks := false }, kinds := [], alts := [], laidByText := true, laidKinds := [.data, .pinned], laidTests := true, laidLooks := .later }
def OctetFaultsCardSaid : Prop := Claim7.holds Tryd.pinned (.plain (OpenSpec.ofChange octetFaultsSpec)) octetFaultsCard

/-- THE TIED CARD OF 'millwrightlaw12.SectionSplits'. -/
def sectionSplitsCard : Claim7 := { stood := { row := sectionSplitsRow, standIns := [], harness := (true, "6cbec85f5221fc8f62e688c1da172b22b6aa3c07e33b5c8f4fa3aebba8cab355"), looks := false }, kinds := [], alts := [], laidByText := true, laidKinds := [.data, .pinned], laidTests := true, laidLooks := .later }
def SectionSplitsCardSaid : Prop := Claim7.holds Tryd.pinned (.plain (OpenSpec.ofChange sectionSplitsSpec)) sectionSplitsCard

/-- THE SECOND FORM's CARD OF 'millwrightlaw02.OctetOwn'. -/
def octetOwnUptoCard : Claim7 := { stood := { row := octetOwnUptoRow, standIns := [], harness := (true, "6cbec85f5221fc8f62e688c1da172b22b6aa3c07e33b5c8f4fa3aebba8cab355"), looks := false }, kinds := [], alts := [], laidByText := true, laidKinds := [.data, .pinned], laidTests := true, laidLooks := .later }
def OctetOwnUptoCardSaid : Prop := Claim7.holds Tryd.pinned (.plain (OpenSpec.upto octetOwnSpec)) octetOwnUptoCard

/-- THE SECOND FORM's CARD OF 'millwrightlaw02.OctetWrites'. -/
def octetWritesUptoCard : Claim7 := { stood := { row := octetWritesUptoRow, standIns := [], harness := (true, "6cbec85f5221fc8f62e688c1da172b22b6aa3c07e33b5c8f4fa3aebba8cab355"), looks := false }, kinds := [], alts := [], laidByText := true, laidKinds := [.data, .pinned], laidTests := true, laidLooks := .later }
def OctetWritesUptoCardSaid : Prop := Claim7.holds Tryd.pinned (.plain (OpenSpec.upto octetWritesSpec)) octetWritesUptoCard

/-- THE SECOND FORM's CARD OF 'millwrightlaw02.OctetNobody'. -/
def octetNobodyUptoCard : Claim7 := { stood := { row := octetNobodyUptoRow, standIns := [], harness := (true, "6cbec85f5221fc8f62e688c1da172b22b6aa3c07e33b5c8f4fa3aebba8cab355"), looks := false }, kinds := [], alts := [], laidByText := true, laidKinds := [.data, .pinned], laidTests := true, laidLooks := .later }
def OctetNobodyUptoCardSaid : Prop := Claim7.holds Tryd.pinned (.plain (OpenSpec.upto octetNobodySpec)) octetNobodyUptoCard

/-- THE SECOND FORM's CARD OF 'millwrightlaw02.OctetBack'. -/
def octetBackUptoCard : Claim7 := { stood := { row := octetBackUptoRow, standIns := [], harness := (true, "6cbec85f5221fc8f62e688c1da172b22b6aa3c07e33b5c8f4fa3aebba8cab355"), looks := false }, kinds := [], alts := [], laidByText := true, laidKinds := [.data, .pinned], laidTests := true, laidLooks := .later }
def OctetBackUptoCardSaid : Prop := Claim7.holds Tryd.pinned (.plain (OpenSpec.upto octetBackSpec)) octetBackUptoCard

/-- THE SECOND FORM's CARD OF 'millwrightlaw02.OctetReads'. -/
def octetReadsUptoCard : Claim7 := { stood := { row := octetReadsUptoRow, standIns := [], harness := (true, "6cbec85f5221fc8f62e688c1da172b22b6aa3c07e33b5c8f4fa3aebba8cab355"), looks := false }, kinds := [], alts := [], laidByText := true, laidKinds := [.data, .pinned], laidTests := true, laidLooks := .later }
def OctetReadsUptoCardSaid : Prop := Claim7.holds Tryd.pinned (.plain (OpenSpec.upto octetReadsSpec)) octetReadsUptoCard

/-- THE SECOND FORM's CARD OF 'millwrightlaw12.SectionJoins'. -/
def sectionJoinsUptoCard : Claim7 := { stood := { row := sectionJoinsUptoRow, standIns := [], harness := (true, "6cbec85f5221fc8f62e688c1da172b22b6aa3c07e33b5c8f4fa3aebba8cab355"), looks := false }, kinds := [], alts := [], laidByText := true, laidKinds := [.data, .pinned], laidTests := true, laidLooks := .later }
def SectionJoinsUptoCardSaid : Prop := Claim7.holds Tryd.pinned (.plain (OpenSpec.upto sectionJoinsSpec)) sectionJoinsUptoCard

/-- THE SECOND FORM's CARD OF 'millwrightlaw12.SectionPlaces'. -/
def sectionPlacesUptoCard : Claim7 := { stood := { row := sectionPlacesUptoRow, standIns := [], harness := (true, "6cbec85f5221fc8f62e688c1da172b22b6aa3c07e33b5c8f4fa3aebba8cab355"), looks := false }, kinds := [], alts := [], laidByText := true, laidKinds := [.data, .pinned], laidTests := true, laidLooks := .later }
def SectionPlacesUptoCardSaid : Prop := Claim7.holds Tryd.pinned (.plain (OpenSpec.upto sectionPlacesSpec)) sectionPlacesUptoCard

/-- THE SECOND FORM's CARD OF 'millwrightlaw12.SectionBack'. -/
def sectionBackUptoCard : Claim7 := { stood := { row := sectionBackUptoRow, standIns := [], harness := (true, "6cbec85f5221fc8f62e688c1da172b22b6aa3c07e33b5c8f4fa3aebba8cab355"), looks := false }, kinds := [], alts := [], laidByText := true, laidKinds := [.data, .pinned], laidTests := true, laidLooks := .later }
def SectionBackUptoCardSaid : Prop := Claim7.holds Tryd.pinned (.plain (OpenSpec.upto sectionBackSpec)) sectionBackUptoCard

/-- THE SECOND FORM's CARD OF 'millwrightlaw12.SectionAgain'. -/
def sectionAgainUptoCard : Claim7 := { stood := { row := sectionAgainUptoRow, standIns := [], harness := (true, "6cbec85f5221fc8f62e688c1da172b22b6aa3c07e33b5c8f4fa3aebba8cab355"), looks := false }, kinds := [], alts := [], laidByText := true, laidKinds := [.data, .pinned], laidTests := true, laidLooks := .later }
def SectionAgainUptoCardSaid : Prop := Claim7.holds Tryd.pinned (.plain (OpenSpec.upto sectionAgainSpec)) sectionAgainUptoCard

/-- THE SECOND FORM's CARD OF 'millwrightlaw02.OctetFaults'. -/
def octetFaultsUptoCard : Claim7 := { stood := { row := octetFaultsUptoRow, standIns := [], harness := (true, "6cbec85f5221fc8f62e688c1da172b22b6aa3c07e33b5c8f4fa3aebba8cab355"), looks := false }, kinds := [], alts := [], laidByText := true, laidKinds := [.data, .pinned], laidTests := true, laidLooks := .later }
def OctetFaultsUptoCardSaid : Prop := Claim7.holds Tryd.pinned (.plain (OpenSpec.upto octetFaultsSpec)) octetFaultsUptoCard

/-- THE SECOND FORM's CARD OF 'millwrightlaw12.SectionSplits'. -/
def sectionSplitsUptoCard : Claim7 := { stood := { row := sectionSplitsUptoRow, standIns := [], harness := (true, "6cbec85f5221fc8f62e688c1da172b22b6aa3c07e33b5c8f4fa3aebba8cab355"), looks := false }, kinds := [], alts := [], laidByText := true, laidKinds := [.data, .pinned], laidTests := true, laidLooks := .later }
def SectionSplitsUptoCardSaid : Prop := Claim7.holds Tryd.pinned (.plain (OpenSpec.upto sectionSplitsSpec)) sectionSplitsUptoCard
end Rows
end Go.Proofs.YtkejmhpodhbeeaaDoor
