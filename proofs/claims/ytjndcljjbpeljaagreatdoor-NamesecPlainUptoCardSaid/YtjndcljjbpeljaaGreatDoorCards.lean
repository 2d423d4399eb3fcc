/-
  DERIVED. GIVEN WITH THE SEED: THE CARDS: each row of YtjndcljjbpeljaaGreatDoorRows.lean that lists a variable, with what it lists TIED to the program's text (the seventh form; the later family's looks); each row that meets fmt, with fmt's text TOLD by the authors' own Lean function (tested against real Go, not proved from fmt's source: count such statements apart). THE CARD IS WHAT COUNTS. Prove the row's statement (the work); the ties are given (YtjndcljjbpeljaaGreatDoorTie.lean); close each card by the builder's one call (the guide's Derived/Test/ToyasCard.lean, 'card_holds'). Laid BY PROGRAM, IN A SANDBOX (cutbox-door.mjs). By AI agents, Wed Nov 11 2026. No macro, syntax, notation, axiom, sorry.
-/
import Derived.Test.YtjndcljjbpeljaaGreatDoorRows
import GoSem.ClaimSeven
namespace Go.Proofs.YtjndcljjbpeljaaGreatDoor
namespace Rows

/-- THE TIED CARD OF 'millwrightlaw14.NamesecPlain'. -/
def namesecPlainCard : Claim7 := { stood := { row := namesecPlainRow, standIns := [], harness := (true, "d5593e634b324ff744b0a5287c63572fcfd3d1a726ff7081022bc1f3bd40d854"), looks := false }, kinds := [], alts := [], laidByText := true, laidKinds := [.data, .pinned], laidTests := true, laidLooks := .later }
def NamesecPlainCardSaid : Prop := Claim7.holds Tryz.pinned (.plain (OpenSpec.ofChange namesecPlainSpec)) namesecPlainCard

/-- THE SECOND FORM's CARD OF 'millwrightlaw14.NamesecPlain'. -/
def namesecPlainUptoCard : Claim7 := { stood := { row := namesecPlainUptoRow, standIns := [], harness := (true, "d5593e634b324ff744b0a5287c63572fcfd3d1a726ff7081022bc1f3bd40d854"), looks := false }, kinds := [], alts := [], laidByText := true, laidKinds := [.data, .pinned], laidTests := true, laidLooks := .later }
def NamesecPlainUptoCardSaid : Prop := Claim7.holds Tryz.pinned (.plain (OpenSpec.upto namesecPlainSpec)) namesecPlainUptoCard
end Rows
end Go.Proofs.YtjndcljjbpeljaaGreatDoor
