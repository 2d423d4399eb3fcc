/-
  DERIVED. GIVEN WITH THE SEED: THE CARDS: each row of YtnhnghpnejobfaaDoorRows.lean that lists a variable, with what it lists TIED to the program's text (the seventh form; the later family's looks); each row that meets fmt, with fmt's text TOLD by the authors' own Lean function (tested against real Go, not proved from fmt's source: count such statements apart). THE CARD IS WHAT COUNTS. Prove the row's statement (the work); the ties are given (YtnhnghpnejobfaaDoorTie.lean); close each card by the builder's one call (the guide's Derived/Test/ToyasCard.lean, 'card_holds'). Laid BY PROGRAM, IN A SANDBOX (cutbox-door.mjs). By AI agents, Wed Nov 11 2026. No macro, syntax, notation, axiom, sorry.
-/
import Derived.Test.YtnhnghpnejobfaaDoorRows
import GoSem.ClaimSeven
namespace Go.Proofs.YtnhnghpnejobfaaDoor
namespace Rows

/-- THE TIED CARD OF 'millwrightlaw05.OpcodeSigs'. -/
def opcodeSigsCard : Claim7 := { stood := { row := opcodeSigsRow, standIns := [], harness := (true, "19ad943e2b725d05a84fc569214ea2bee0b1cdbd69022bf6fed40ee1625813af"), looks := false }, kinds := [], alts := [], laidByText := true, laidKinds := [.listed, .data], laidTests := true, laidLooks := .later }
def OpcodeSigsCardSaid : Prop := Claim7.holds Tryd.pinned (.plain (OpenSpec.ofChange opcodeSigsSpec)) opcodeSigsCard

/-- THE TIED CARD OF 'millwrightlaw05.OpcodePlain'. -/
def opcodePlainCard : Claim7 := { stood := { row := opcodePlainRow, standIns := [], harness := (true, "19ad943e2b725d05a84fc569214ea2bee0b1cdbd69022bf6fed40ee1625813af"), looks := false }, kinds := [], alts := [], laidByText := true, laidKinds := [.listed, .data], laidTests := true, laidLooks := .later }
def OpcodePlainCardSaid : Prop := Claim7.holds Tryd.pinned (.plain (OpenSpec.ofChange opcodePlainSpec)) opcodePlainCard

/-- THE TIED CARD OF 'millwrightlaw05.OpcodeTells'. -/
def opcodeTellsCard : Claim7 := { stood := { row := opcodeTellsRow, standIns := [], harness := (true, "19ad943e2b725d05a84fc569214ea2bee0b1cdbd69022bf6fed40ee1625813af"), looks := false }, kinds := [], alts := [], laidByText := true, laidKinds := [.listed, .data], laidTests := true, laidLooks := .later }
def OpcodeTellsCardSaid : Prop := Claim7.holds Tryd.pinned (.plain (OpenSpec.ofChange opcodeTellsSpec)) opcodeTellsCard

/-- THE TIED CARD OF 'millwrightlaw05.OpcodeAgree'. -/
def opcodeAgreeCard : Claim7 := { stood := { row := opcodeAgreeRow, standIns := [], harness := (true, "19ad943e2b725d05a84fc569214ea2bee0b1cdbd69022bf6fed40ee1625813af"), looks := false }, kinds := [], alts := [], laidByText := true, laidKinds := [.listed, .data], laidTests := true, laidLooks := .later }
def OpcodeAgreeCardSaid : Prop := Claim7.holds Tryd.pinned (.plain (OpenSpec.ofChange opcodeAgreeSpec)) opcodeAgreeCard

/-- THE TIED CARD OF 'millwrightlaw05.OpcodeNames'. -/
def opcodeNamesCard : Claim7 := { stood := { row := opcodeNamesRow, standIns := [], harness := (true, "19ad943e2b725d05a84fc569214ea2bee0b1cdbd69022bf6fed40ee1625813af"), looks := false }, kinds := [], alts := [], laidByText := true, laidKinds := [.listed, .data], laidTests := true, laidLooks := .later }
def OpcodeNamesCardSaid : Prop := Claim7.holds Tryd.pinned (.plain (OpenSpec.ofChange opcodeNamesSpec)) opcodeNamesCard

/-- THE TIED CARD OF 'millwrightlaw05.OpcodeFinds'. -/
def opcodeFindsCard : Claim7 := { stood := { row := opcodeFindsRow, standIns := [], harness := (true, "19ad943e2b725d05a84fc569214ea2bee0b1cdbd69022bf6fed40ee1625813af"), looks := false }, kinds := [], alts := [], laidByText := true, laidKinds := [.listed, .data], laidTests := true, laidLooks := .later }
def OpcodeFindsCardSaid : Prop := Claim7.holds Tryd.pinned (.plain (OpenSpec.ofChange opcodeFindsSpec)) opcodeFindsCard

/-- THE TIED CARD OF 'millwrightlaw05.OpcodeSames'. -/
def opcodeSamesCard : Claim7 := { stood := { row := opcodeSamesRow, standIns := [], harness := (true, "19ad943e2b725d05a84fc569214ea2bee0b1cdbd69022bf6fed40ee1625813af"), looks := false }, kinds := [], alts := [], laidByText := true, laidKinds := [.listed, .data], laidTests := true, laidLooks := .later }
def OpcodeSamesCardSaid : Prop := Claim7.holds Tryd.pinned (.plain (OpenSpec.ofChange opcodeSamesSpec)) opcodeSamesCard

/-- THE SECOND FORM's CARD OF 'millwrightlaw05.OpcodeSigs'. -/
def opcodeSigsUptoCard : Claim7 := { stood := { row := opcodeSigsUptoRow, standIns := [], harness := (true, "19ad943e2b725d05a84fc569214ea2bee0b1cdbd69022bf6fed40ee1625813af"), looks := false }, kinds := [], alts := [], laidByText := true, laidKinds := [.listed, .data], laidTests := true, laidLooks := .later }
def OpcodeSigsUptoCardSaid : Prop := Claim7.holds Tryd.pinned (.plain (OpenSpec.upto opcodeSigsSpec)) opcodeSigsUptoCard

/-- THE SECOND FORM's CARD OF 'millwrightlaw05.OpcodePlain'. -/
def opcodePlainUptoCard : Claim7 := { stood := { row := opcodePlainUptoRow, standIns := [], harness := (true, "19ad943e2b725d05a84fc569214ea2bee0b1cdbd69022bf6fed40ee1625813af"), looks := false }, kinds := [], alts := [], laidByText := true, laidKinds := [.listed, .data], laidTests := true, laidLooks := .later }
def OpcodePlainUptoCardSaid : Prop := Claim7.holds Tryd.pinned (.plain (OpenSpec.upto opcodePlainSpec)) opcodePlainUptoCard

/-- THE SECOND FORM's CARD OF 'millwrightlaw05.OpcodeTells'. -/
def opcodeTellsUptoCard : Claim7 := { stood := { row := opcodeTellsUptoRow, standIns := [], harness := (true, "19ad943e2b725d05a84fc569214ea2bee0b1cdbd69022bf6fed40ee1625813af"), looks := false }, kinds := [], alts := [], laidByText := true, laidKinds := [.listed, .data], laidTests := true, laidLooks := .later }
def OpcodeTellsUptoCardSaid : Prop := Claim7.holds Tryd.pinned (.plain (OpenSpec.upto opcodeTellsSpec)) opcodeTellsUptoCard

/-- THE SECOND FORM's CARD OF 'millwrightlaw05.OpcodeAgree'. -/
def opcodeAgreeUptoCard : Claim7 := { stood := { row := opcodeAgreeUptoRow, standIns := [], harness := (true, "19ad943e2b725d05a84fc569214ea2bee0b1cdbd69022bf6fed40ee1625813af"), looks := false }, kinds := [], alts := [], laidByText := true, laidKinds := [.listed, .data], laidTests := true, laidLooks := .later }
def OpcodeAgreeUptoCardSaid : Prop := Claim7.holds Tryd.pinned (.plain (OpenSpec.upto opcodeAgreeSpec)) opcodeAgreeUptoCard

/-- THE SECOND FORM's CARD OF 'millwrightlaw05.OpcodeNames'. -/
def opcodeNamesUptoCard : Claim7 := { stood := { row := opcodeNamesUptoRow, standIns := [], harness := (true, "19ad943e2b725d05a84fc569214ea2bee0b1cdbd69022bf6fed40ee1625813af"), looks := false }, kinds := [], alts := [], laidByText := true, laidKinds := [.listed, .data], laidTests := true, laidLooks := .later }
def OpcodeNamesUptoCardSaid : Prop := Claim7.holds Tryd.pinned (.plain (OpenSpec.upto opcodeNamesSpec)) opcodeNamesUptoCard

/-- THE SECOND FORM's CARD OF 'millwrightlaw05.OpcodeFinds'. -/
def opcodeFindsUptoCard : Claim7 := { stood := { row := opcodeFindsUptoRow, standIns := [], harness := (true, "19ad943e2b725d05a84fc569214ea2bee0b1cdbd69022bf6fed40ee1625813af"), looks := false }, kinds := [], alts := [], laidByText := true, laidKinds := [.listed, .data], laidTests := true, laidLooks := .later }
def OpcodeFindsUptoCardSaid : Prop := Claim7.holds Tryd.pinned (.plain (OpenSpec.upto opcodeFindsSpec)) opcodeFindsUptoCard

/-- THE SECOND FORM's CARD OF 'millwrightlaw05.OpcodeSames'. -/
def opcodeSamesUptoCard : Claim7 := { stood := { row := opcodeSamesUptoRow, standIns := [], harness := (true, "19ad943e2b725d05a84fc569214ea2bee0b1cdbd69022bf6fed40ee1625813af"), looks := false }, kinds := [], alts := [], laidByText := true, laidKinds := [.listed, .data], laidTests := true, laidLooks := .later }
def OpcodeSamesUptoCardSaid : Prop := Claim7.holds Tryd.pinned (.plain (OpenSpec.upto opcodeSamesSpec)) opcodeSamesUptoCard
end Rows
end Go.Proofs.YtnhnghpnejobfaaDoor
