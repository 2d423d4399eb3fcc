/-
  DERIVED. GIVEN WITH THE SEED: THE CARDS: each row of YtoikbadfbneahaaGreatDoorRows.lean that lists a variable, with what it lists TIED to the program's text (the seventh form; the later family's looks); each row that meets fmt, with fmt's text TOLD by the authors' own Lean function (tested against real Go, not proved from fmt's source: count such statements apart). THE CARD IS WHAT COUNTS. Prove the row's statement (the work); the ties are given (YtoikbadfbneahaaGreatDoorTie.lean); close each card by the builder's one call (the guide's Derived/Test/ToyasCard.lean, 'card_holds'). Laid BY PROGRAM, IN A SANDBOX (cutbox-door.mjs). By AI agents, Wed Nov 11 2026. No macro, syntax, notation, axiom, sorry.
-/
import Derived.Test.YtoikbadfbneahaaGreatDoorRows
import GoSem.ClaimSeven
namespace Go.Proofs.YtoikbadfbneahaaGreatDoor
namespace Rows

/-- THE TIED CARD OF 'millwrightlaw14.NamesecChecks'. -/
def namesecChecksCard : Claim7 := { stood := { row := namesecChecksRow, standIns := [], harness := (true, "a281d315bfb4ccc9548020a1ab29123a7bf8db6d9a4e4fa14152e62438e8549b"), looks := false }, kinds := [], alts := [], laidByText := true, laidKinds := [.data, .pinned], laidTests := true, laidLooks := .later }
def NamesecChecksCardSaid : Prop := Claim7.holds Tryz.pinned (.plain (OpenSpec.ofChange namesecChecksSpec)) namesecChecksCard

/-- THE TIED CARD OF 'millwrightlaw14.NamesecPlain'. -/
def namesecPlainCard : Claim7 := { stood := { row := namesecPlainRow, standIns := [], harness := (true, "a281d315bfb4ccc9548020a1ab29123a7bf8db6d9a4e4fa14152e62438e8549b"), looks := false }, kinds := [], alts := [], laidByText := true, laidKinds := [.data, .pinned], laidTests := true, laidLooks := .later }
def NamesecPlainCardSaid : Prop := Claim7.holds Tryz.pinned (.plain (OpenSpec.ofChange namesecPlainSpec)) namesecPlainCard

/-- THE TIED CARD OF 'millwrightlaw14.NamesecModules'. -/
def namesecModulesCard : Claim7 := { stood := { row := namesecModulesRow, standIns := [], harness := (true, "a281d315bfb4ccc9548020a1ab29123a7bf8db6d9a4e4fa14152e62438e8549b"), looks := false }, kinds := [], alts := [], laidByText := true, laidKinds := [.data, .pinned], laidTests := true, laidLooks := .later }
def NamesecModulesCardSaid : Prop := Claim7.holds Tryz.pinned (.plain (OpenSpec.ofChange namesecModulesSpec)) namesecModulesCard

/-- THE SECOND FORM's CARD OF 'millwrightlaw14.NamesecChecks'. -/
def namesecChecksUptoCard : Claim7 := { stood := { row := namesecChecksUptoRow, standIns := [], harness := (true, "a281d315bfb4ccc9548020a1ab29123a7bf8db6d9a4e4fa14152e62438e8549b"), looks := false }, kinds := [], alts := [], laidByText := true, laidKinds := [.data, .pinned], laidTests := true, laidLooks := .later }
def NamesecChecksUptoCardSaid : Prop := Claim7.holds Tryz.pinned (.plain (OpenSpec.upto namesecChecksSpec)) namesecChecksUptoCard

/-- THE SECOND FORM's CARD OF 'millwrightlaw14.NamesecPlain'. -/
def namesecPlainUptoCard : Claim7 := { stood := { row := namesecPlainUptoRow, standIns := [], harness := (true, "a281d315bfb4ccc9548020a1ab29123a7bf8db6d9a4e4fa14152e62438e8549b"), looks := false }, kinds := [], alts := [], laidByText := true, laidKinds := [.data, .pinned], laidTests := true, laidLooks := .later }
def NamesecPlainUptoCardSaid : Prop := Claim7.holds Tryz.pinned (.plain (OpenSpec.upto namesecPlainSpec)) namesecPlainUptoCard

/-- THE SECOND FORM's CARD OF 'millwrightlaw14.NamesecModules'. -/
def namesecModulesUptoCard : Claim7 := { stood := { row := namesecModulesUptoRow, standIns := [], harness := (true, "a281d315bfb4ccc9548020a1ab29123a7bf8db6d9a4e4fa14152e62438e8549b"), looks := false }, kinds := [], alts := [], laidByText := true, laidKinds := [.data, .pinned], laidTests := true, laidLooks := .later }
def NamesecModulesUptoCardSaid : Prop := Claim7.holds Tryz.pinned (.plain (OpenSpec.upto namesecModulesSpec)) namesecModulesUptoCard
end Rows
end Go.Proofs.YtoikbadfbneahaaGreatDoor
