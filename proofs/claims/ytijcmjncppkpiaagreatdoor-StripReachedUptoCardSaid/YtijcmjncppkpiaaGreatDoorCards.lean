/-
  DERIVED. GIVEN WITH THE SEED: THE CARDS: each row of YtijcmjncppkpiaaGreatDoorRows.lean that lists a variable, with what it lists TIED to the program's text (the seventh form; the later family's looks); each row that meets fmt, with fmt's text TOLD by the authors' own Lean function (tested against real Go, not proved from fmt's source: count such statements apart). THE CARD IS WHAT COUNTS. Prove the row's statement (the work); the ties are given (YtijcmjncppkpiaaGreatDoorTie.lean); close each card by the builder's one call (the guide's Derived/Test/ToyasCard.lean, 'card_holds'). Laid BY PROGRAM, IN A SANDBOX (cutbox-door.mjs). By AI agents, Wed Nov 11 2026. No macro, syntax, notation, axiom, sorry.
-/
import Derived.Test.YtijcmjncppkpiaaGreatDoorRows
import GoSem.ClaimSeven
namespace Go.Proofs.YtijcmjncppkpiaaGreatDoor
namespace Rows

/-- THE TIED CARD OF 'millwrightlaw58.StripReached'. -/
def stripReachedCard : Claim7 := { stood := { row := stripReachedRow, standIns := [], harness := (true, "c7d8d27ca8b236920e30b022971069b9e2fe476b43ba32400ee328f881e30a94"), looks := false }, kinds := [], alts := [], laidByText := true, laidKinds := [.data, .listed, .data, .pinned], laidTests := true, laidLooks := .later }
def StripReachedCardSaid : Prop := Claim7.holds Tryz.pinned (.plain (OpenSpec.ofChange stripReachedSpec)) stripReachedCard

/-- THE TIED CARD OF 'millwrightlaw58.StripTypes'. -/
def stripTypesCard : Claim7 := { stood := { row := stripTypesRow, standIns := [], harness := (true, "c7d8d27ca8b236920e30b022971069b9e2fe476b43ba32400ee328f881e30a94"), looks := false }, kinds := [], alts := [], laidByText := true, laidKinds := [.data, .listed, .data, .pinned], laidTests := true, laidLooks := .later }
def StripTypesCardSaid : Prop := Claim7.holds Tryz.pinned (.plain (OpenSpec.ofChange stripTypesSpec)) stripTypesCard

/-- THE TIED CARD OF 'millwrightlaw58.StripFuncs'. -/
def stripFuncsCard : Claim7 := { stood := { row := stripFuncsRow, standIns := [], harness := (true, "c7d8d27ca8b236920e30b022971069b9e2fe476b43ba32400ee328f881e30a94"), looks := false }, kinds := [], alts := [], laidByText := true, laidKinds := [.data, .listed, .data, .pinned], laidTests := true, laidLooks := .later }
def StripFuncsCardSaid : Prop := Claim7.holds Tryz.pinned (.plain (OpenSpec.ofChange stripFuncsSpec)) stripFuncsCard

/-- THE SECOND FORM's CARD OF 'millwrightlaw58.StripReached'. -/
def stripReachedUptoCard : Claim7 := { stood := { row := stripReachedUptoRow, standIns := [], harness := (true, "c7d8d27ca8b236920e30b022971069b9e2fe476b43ba32400ee328f881e30a94"), looks := false }, kinds := [], alts := [], laidByText := true, laidKinds := [.data, .listed, .data, .pinned], laidTests := true, laidLooks := .later }
def StripReachedUptoCardSaid : Prop := Claim7.holds Tryz.pinned (.plain (OpenSpec.upto stripReachedSpec)) stripReachedUptoCard

/-- THE SECOND FORM's CARD OF 'millwrightlaw58.StripTypes'. -/
def stripTypesUptoCard : Claim7 := { stood := { row := stripTypesUptoRow, standIns := [], harness := (true, "c7d8d27ca8b236920e30b022971069b9e2fe476b43ba32400ee328f881e30a94"), looks := false }, kinds := [], alts := [], laidByText := true, laidKinds := [.data, .listed, .data, .pinned], laidTests := true, laidLooks := .later }
def StripTypesUptoCardSaid : Prop := Claim7.holds Tryz.pinned (.plain (OpenSpec.upto stripTypesSpec)) stripTypesUptoCard

/-- THE SECOND FORM's CARD OF 'millwrightlaw58.StripFuncs'. -/
def stripFuncsUptoCard : Claim7 := { stood := { row := stripFuncsUptoRow, standIns := [], harness := (true, "c7d8d27ca8b236920e30b022971069b9e2fe476b43ba32400ee328f881e30a94"), looks := false }, kinds := [], alts := [], laidByText := true, laidKinds := [.data, .listed, .data, .pinned], laidTests := true, laidLooks := .later }
def StripFuncsUptoCardSaid : Prop := Claim7.holds Tryz.pinned (.plain (OpenSpec.upto stripFuncsSpec)) stripFuncsUptoCard
end Rows
end Go.Proofs.YtijcmjncppkpiaaGreatDoor
