/-
  DERIVED. GIVEN WITH THE SEED: THE CARDS: each row of YthhglklcaodfmaaGreatDoorRows.lean that lists a variable, with what it lists TIED to the program's text (the seventh form; the later family's looks); each row that meets fmt, with fmt's text TOLD by the authors' own Lean function (tested against real Go, not proved from fmt's source: count such statements apart). THE CARD IS WHAT COUNTS. Prove the row's statement (the work); the ties are given (YthhglklcaodfmaaGreatDoorTie.lean); close each card by the builder's one call (the guide's Derived/Test/ToyasCard.lean, 'card_holds'). Laid BY PROGRAM, IN A SANDBOX (cutbox-door.mjs). By AI agents, Wed Nov 11 2026. No macro, syntax, notation, axiom, sorry.
-/
import Derived.Test.YthhglklcaodfmaaGreatDoorRows
import GoSem.ClaimSeven
namespace Go.Proofs.YthhglklcaodfmaaGreatDoor
namespace Rows

/-- THE TIED CARD OF 'millwrightlaw26.ValidChecks'. -/
def validChecksCard : Claim7 := { stood := { row := validChecksRow, standIns := [], harness := (true, "976254f2468663d5652873df2fa60f0db62604773acefd75c375909490cd8461"), looks := false }, kinds := [], alts := [], laidByText := true, laidKinds := [.data, .listed, .data, .pinned], laidTests := true, laidLooks := .later }
def ValidChecksCardSaid : Prop := Claim7.holds Tryz.pinned (.plain (OpenSpec.ofChange validChecksSpec)) validChecksCard

/-- THE TIED CARD OF 'millwrightlaw26.ValidBytes'. -/
def validBytesCard : Claim7 := { stood := { row := validBytesRow, standIns := [], harness := (true, "976254f2468663d5652873df2fa60f0db62604773acefd75c375909490cd8461"), looks := false }, kinds := [], alts := [], laidByText := true, laidKinds := [.data, .listed, .data, .pinned], laidTests := true, laidLooks := .later }
def ValidBytesCardSaid : Prop := Claim7.holds Tryz.pinned (.plain (OpenSpec.ofChange validBytesSpec)) validBytesCard

/-- THE TIED CARD OF 'millwrightlaw26.ValidNames'. -/
def validNamesCard : Claim7 := { stood := { row := validNamesRow, standIns := [], harness := (true, "976254f2468663d5652873df2fa60f0db62604773acefd75c375909490cd8461"), looks := false }, kinds := [], alts := [], laidByText := true, laidKinds := [.data, .listed, .data, .pinned], laidTests := true, laidLooks := .later }
def ValidNamesCardSaid : Prop := Claim7.holds Tryz.pinned (.plain (OpenSpec.ofChange validNamesSpec)) validNamesCard

/-- THE TIED CARD OF 'millwrightlaw26.ValidLess'. -/
def validLessCard : Claim7 := { stood := { row := validLessRow, standIns := [], harness := (true, "976254f2468663d5652873df2fa60f0db62604773acefd75c375909490cd8461"), looks := false }, kinds := [], alts := [], laidByText := true, laidKinds := [.data, .listed, .data, .pinned], laidTests := true, laidLooks := .later }
def ValidLessCardSaid : Prop := Claim7.holds Tryz.pinned (.plain (OpenSpec.ofChange validLessSpec)) validLessCard

/-- THE TIED CARD OF 'millwrightlaw26.ValidMore'. -/
def validMoreCard : Claim7 := { stood := { row := validMoreRow, standIns := [], harness := (true, "976254f2468663d5652873df2fa60f0db62604773acefd75c375909490cd8461"), looks := false }, kinds := [], alts := [], laidByText := true, laidKinds := [.data, .listed, .data, .pinned], laidTests := true, laidLooks := .later }
def ValidMoreCardSaid : Prop := Claim7.holds Tryz.pinned (.plain (OpenSpec.ofChange validMoreSpec)) validMoreCard

/-- THE TIED CARD OF 'millwrightlaw26.ValidOne'. -/
def validOneCard : Claim7 := { stood := { row := validOneRow, standIns := [], harness := (true, "976254f2468663d5652873df2fa60f0db62604773acefd75c375909490cd8461"), looks := false }, kinds := [], alts := [], laidByText := true, laidKinds := [.data, .listed, .data, .pinned], laidTests := true, laidLooks := .later }
def ValidOneCardSaid : Prop := Claim7.holds Tryz.pinned (.plain (OpenSpec.ofChange validOneSpec)) validOneCard

/-- THE SECOND FORM's CARD OF 'millwrightlaw26.ValidChecks'. -/
def validChecksUptoCard : Claim7 := { stood := { row := validChecksUptoRow, standIns := [], harness := (true, "976254f2468663d5652873df2fa60f0db62604773acefd75c375909490cd8461"), looks := false }, kinds := [], alts := [], laidByText := true, laidKinds := [.data, .listed, .data, .pinned], laidTests := true, laidLooks := .later }
def ValidChecksUptoCardSaid : Prop := Claim7.holds Tryz.pinned (.plain (OpenSpec.upto validChecksSpec)) validChecksUptoCard

/-- THE SECOND FORM's CARD OF 'millwrightlaw26.ValidBytes'. -/
def validBytesUptoCard : Claim7 := { stood := { row := validBytesUptoRow, standIns := [], harness := (true, "976254f2468663d5652873df2fa60f0db62604773acefd75c375909490cd8461"), looks := false }, kinds := [], alts := [], laidByText := true, laidKinds := [.data, .listed, .data, .pinned], laidTests := true, laidLooks := .later }
def ValidBytesUptoCardSaid : Prop := Claim7.holds Tryz.pinned (.plain (OpenSpec.upto validBytesSpec)) validBytesUptoCard

/-- THE SECOND FORM's CARD OF 'millwrightlaw26.ValidNames'. -/
def validNamesUptoCard : Claim7 := { stood := { row := validNamesUptoRow, standIns := [], harness := (true, "976254f2468663d5652873df2fa60f0db62604773acefd75c375909490cd8461"), looks := false }, kinds := [], alts := [], laidByText := true, laidKinds := [.data, .listed, .data, .pinned], laidTests := true, laidLooks := .later }
def ValidNamesUptoCardSaid : Prop := Claim7.holds Tryz.pinned (.plain (OpenSpec.upto validNamesSpec)) validNamesUptoCard

/-- THE SECOND FORM's CARD OF 'millwrightlaw26.ValidLess'. -/
def validLessUptoCard : Claim7 := { stood := { row := validLessUptoRow, standIns := [], harness := (true, "976254f2468663d5652873df2fa60f0db62604773acefd75c375909490cd8461"), looks := false }, kinds := [], alts := [], laidByText := true, laidKinds := [.data, .listed, .data, .pinned], laidTests := true, laidLooks := .later }
def ValidLessUptoCardSaid : Prop := Claim7.holds Tryz.pinned (.plain (OpenSpec.upto validLessSpec)) validLessUptoCard

/-- THE SECOND FORM's CARD OF 'millwrightlaw26.ValidMore'. -/
def validMoreUptoCard : Claim7 := { stood := { row := validMoreUptoRow, standIns := [], harness := (true, "976254f2468663d5652873df2fa60f0db62604773acefd75c375909490cd8461"), looks := false }, kinds := [], alts := [], laidByText := true, laidKinds := [.data, .listed, .data, .pinned], laidTests := true, laidLooks := .later }
def ValidMoreUptoCardSaid : Prop := Claim7.holds Tryz.pinned (.plain (OpenSpec.upto validMoreSpec)) validMoreUptoCard

/-- THE SECOND FORM's CARD OF 'millwrightlaw26.ValidOne'. -/
def validOneUptoCard : Claim7 := { stood := { row := validOneUptoRow, standIns := [], harness := (true, "976254f2468663d5652873df2fa60f0db62604773acefd75c375909490cd8461"), looks := false }, kinds := [], alts := [], laidByText := true, laidKinds := [.data, .listed, .data, .pinned], laidTests := true, laidLooks := .later }
def ValidOneUptoCardSaid : Prop := Claim7.holds Tryz.pinned (.plain (OpenSpec.upto validOneSpec)) validOneUptoCard
end Rows
end Go.Proofs.YthhglklcaodfmaaGreatDoor
