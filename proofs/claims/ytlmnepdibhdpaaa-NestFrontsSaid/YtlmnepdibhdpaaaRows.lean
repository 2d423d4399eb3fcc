/-
  No cell of these rows narrows 'for every input' (looked for: loops, veiled, ifaces, maps, wideKeys, modest, calm, conditions, laid).
  DERIVED. THE GIVEN ROWS OF THIS SEAT. 5 by the template 'for every input the law returns true; each argument reads behind the call as it read before'; 0 by the template 'total and deterministic' (their statements: YtlmnepdibhdpaaaTotals.lean).
  GIVEN WITH THE SEED: the statements are not yours to turn. If you find one false, say at which input.
  Laid BY PROGRAM, IN A SANDBOX (cutbox-rows.mjs): the forced cells as the released guide's own fill.sh prints them over the translation 42160aa87f445a23… (all of the seat's roots in one cut). By AI agents, Wed Nov 11 2026. No macro, syntax, notation, axiom, sorry.
-/
import Derived.Test.YtlmnepdibhdpaaaChecked
import GoSem.Claim
import GoSem.ClaimJoined
import GoSem.ClaimMapViews
import Derived.JoinedTies
import Derived.KernelRfl
namespace Go.Proofs.Ytlmnepdibhdpaaa
/- THE CELL 'sum', in the pinned program and in every row, IS THE sha256 OF THE DUMP (.gsa) THAT YtlmnepdibhdpaaaProg.lean LOADS. Nothing in Lean hashes anything: it is a label: what it is worth is what the hold of that sum in a sandbox is worth. -/
noncomputable def Try.pinned : Pinned := { name := "ytlmnepdibhdpaaa", sum := "42160aa87f445a23bd733e4a7cd20e9ad3ae671e6bccabd9bad925712f76e320", checked := Try.checked }
namespace Rows
def none {H : Type} : Left H := { results := [], args := [] }

/-- 'millwrightlaw09.NestChecks': WHATEVER THE INPUT: true; the input reads as it did. -/
def nestChecksSpec : ChangeSpec := { name := "nestChecks", fn := fun _ => fun
  | [d] => { results := [.lit (.bool true)], args := [d] }
  | _ => none }
def nestChecksRow : OpenClaim := { program := "ytlmnepdibhdpaaa", sum := "42160aa87f445a23bd733e4a7cd20e9ad3ae671e6bccabd9bad925712f76e320", func := "millwright/millwrightlaw09.NestChecks", spec := "nestChecks", apart := false }
def NestChecksSaid : Prop := nestChecksRow.holds Try.pinned (OpenSpec.ofChange nestChecksSpec)

/-- ITS FALSE NEIGHBOUR: 'it returns false'. Refute it at one input. -/
def nestChecksWrong : ChangeSpec := { name := "nestChecks", fn := fun _ => fun
  | [d] => { results := [.lit (.bool false)], args := [d] }
  | _ => none }
def NestChecksWrongFalsely : Prop := nestChecksRow.holds Try.pinned (OpenSpec.ofChange nestChecksWrong)

/-- 'millwrightlaw09.NestBlocks': WHATEVER THE INPUT: true; the input reads as it did. -/
def nestBlocksSpec : ChangeSpec := { name := "nestBlocks", fn := fun _ => fun
  | [d] => { results := [.lit (.bool true)], args := [d] }
  | _ => none }
def nestBlocksRow : OpenClaim := { program := "ytlmnepdibhdpaaa", sum := "42160aa87f445a23bd733e4a7cd20e9ad3ae671e6bccabd9bad925712f76e320", func := "millwright/millwrightlaw09.NestBlocks", spec := "nestBlocks", apart := false }
def NestBlocksSaid : Prop := nestBlocksRow.holds Try.pinned (OpenSpec.ofChange nestBlocksSpec)

/-- ITS FALSE NEIGHBOUR: 'it returns false'. Refute it at one input. -/
def nestBlocksWrong : ChangeSpec := { name := "nestBlocks", fn := fun _ => fun
  | [d] => { results := [.lit (.bool false)], args := [d] }
  | _ => none }
def NestBlocksWrongFalsely : Prop := nestBlocksRow.holds Try.pinned (OpenSpec.ofChange nestBlocksWrong)

/-- 'millwrightlaw09.NestTargets': WHATEVER THE INPUT: true; the input reads as it did. -/
def nestTargetsSpec : ChangeSpec := { name := "nestTargets", fn := fun _ => fun
  | [d1, d2, d3] => { results := [.lit (.bool true)], args := [d1, d2, d3] }
  | _ => none }
def nestTargetsRow : OpenClaim := { program := "ytlmnepdibhdpaaa", sum := "42160aa87f445a23bd733e4a7cd20e9ad3ae671e6bccabd9bad925712f76e320", func := "millwright/millwrightlaw09.NestTargets", spec := "nestTargets", apart := false }
def NestTargetsSaid : Prop := nestTargetsRow.holds Try.pinned (OpenSpec.ofChange nestTargetsSpec)

/-- ITS FALSE NEIGHBOUR: 'it returns false'. Refute it at one input. -/
def nestTargetsWrong : ChangeSpec := { name := "nestTargets", fn := fun _ => fun
  | [d1, d2, d3] => { results := [.lit (.bool false)], args := [d1, d2, d3] }
  | _ => none }
def NestTargetsWrongFalsely : Prop := nestTargetsRow.holds Try.pinned (OpenSpec.ofChange nestTargetsWrong)

/-- 'millwrightlaw09.NestWithin': WHATEVER THE INPUT: true; the input reads as it did. -/
def nestWithinSpec : ChangeSpec := { name := "nestWithin", fn := fun _ => fun
  | [d] => { results := [.lit (.bool true)], args := [d] }
  | _ => none }
def nestWithinRow : OpenClaim := { program := "ytlmnepdibhdpaaa", sum := "42160aa87f445a23bd733e4a7cd20e9ad3ae671e6bccabd9bad925712f76e320", func := "millwright/millwrightlaw09.NestWithin", spec := "nestWithin", apart := false }
def NestWithinSaid : Prop := nestWithinRow.holds Try.pinned (OpenSpec.ofChange nestWithinSpec)

/-- ITS FALSE NEIGHBOUR: 'it returns false'. Refute it at one input. -/
def nestWithinWrong : ChangeSpec := { name := "nestWithin", fn := fun _ => fun
  | [d] => { results := [.lit (.bool false)], args := [d] }
  | _ => none }
def NestWithinWrongFalsely : Prop := nestWithinRow.holds Try.pinned (OpenSpec.ofChange nestWithinWrong)

/-- 'millwrightlaw09.NestFronts': WHATEVER THE INPUT: true; the input reads as it did. -/
def nestFrontsSpec : ChangeSpec := { name := "nestFronts", fn := fun _ => fun
  | [d1, d2, d3] => { results := [.lit (.bool true)], args := [d1, d2, d3] }
  | _ => none }
def nestFrontsRow : OpenClaim := { program := "ytlmnepdibhdpaaa", sum := "42160aa87f445a23bd733e4a7cd20e9ad3ae671e6bccabd9bad925712f76e320", func := "millwright/millwrightlaw09.NestFronts", spec := "nestFronts", apart := false }
def NestFrontsSaid : Prop := nestFrontsRow.holds Try.pinned (OpenSpec.ofChange nestFrontsSpec)

/-- ITS FALSE NEIGHBOUR: 'it returns false'. Refute it at one input. -/
def nestFrontsWrong : ChangeSpec := { name := "nestFronts", fn := fun _ => fun
  | [d1, d2, d3] => { results := [.lit (.bool false)], args := [d1, d2, d3] }
  | _ => none }
def NestFrontsWrongFalsely : Prop := nestFrontsRow.holds Try.pinned (OpenSpec.ofChange nestFrontsWrong)

/- THE SECOND FORM. 'bulk': how many values and letters a reading holds, each counted each time it is reached (what is shared counts as often as it is met; a slice's spare places count too). A statement '..UptoSaid' is the law's where the arguments, and the package variables that the reading takes, are together of bulk at most 1048576: NARROWER than '..Said'. Prove '..Said' where nothing that the law and all that it calls make is longer than what came in: it says more and counts as full. Else prove '..UptoSaid'. A law counts once. -/
mutual
def uptoBulk {H : Type} : DataW H → Nat
  | .lit (.string bytes) => bytes.length + 1
  | .lit _ => 1
  | .nil => 1
  | .ptr d => uptoBulk d + 1
  | .slice elems spare => uptoBulkAll elems + uptoBulkAll spare + 1
  | .agg parts => uptoBulkAll parts + 1
  | .iface _ d => uptoBulk d + 1
  | .map entries => uptoBulkEntries entries + 1
  | .held _ => 1
def uptoBulkAll {H : Type} : List (DataW H) → Nat
  | [] => 0
  | d :: r => uptoBulk d + uptoBulkAll r
def uptoBulkEntries {H : Type} : List (Lit × DataW H) → Nat
  | [] => 0
  | x :: r => uptoBulkEntry x + uptoBulkEntries r
def uptoBulkEntry {H : Type} : Lit × DataW H → Nat
  | (.string bytes, d) => bytes.length + uptoBulk d + 1
  | (_, d) => uptoBulk d + 1
 end
def uptoSmall : (H : Type) → List (DataW H) → Bool := fun _ ds => decide (uptoBulkAll ds ≤ 1048576)
def OpenSpec.upto (s : _root_.Go.ChangeSpec) : _root_.Go.OpenSpec := { _root_.Go.OpenSpec.ofChange s with cond := some uptoSmall }

/-- 'millwrightlaw09.NestChecks', WHERE WHAT IT READS IS OF BULK AT MOST 1048576: true; the input reads as it did. -/
def nestChecksUptoRow : OpenClaim := { program := "ytlmnepdibhdpaaa", sum := "42160aa87f445a23bd733e4a7cd20e9ad3ae671e6bccabd9bad925712f76e320", func := "millwright/millwrightlaw09.NestChecks", spec := "nestChecks", apart := false, narrowed := true }
def NestChecksUptoSaid : Prop := nestChecksUptoRow.holds Try.pinned (OpenSpec.upto nestChecksSpec)

/-- 'millwrightlaw09.NestBlocks', WHERE WHAT IT READS IS OF BULK AT MOST 1048576: true; the input reads as it did. -/
def nestBlocksUptoRow : OpenClaim := { program := "ytlmnepdibhdpaaa", sum := "42160aa87f445a23bd733e4a7cd20e9ad3ae671e6bccabd9bad925712f76e320", func := "millwright/millwrightlaw09.NestBlocks", spec := "nestBlocks", apart := false, narrowed := true }
def NestBlocksUptoSaid : Prop := nestBlocksUptoRow.holds Try.pinned (OpenSpec.upto nestBlocksSpec)

/-- 'millwrightlaw09.NestTargets', WHERE WHAT IT READS IS OF BULK AT MOST 1048576: true; the input reads as it did. -/
def nestTargetsUptoRow : OpenClaim := { program := "ytlmnepdibhdpaaa", sum := "42160aa87f445a23bd733e4a7cd20e9ad3ae671e6bccabd9bad925712f76e320", func := "millwright/millwrightlaw09.NestTargets", spec := "nestTargets", apart := false, narrowed := true }
def NestTargetsUptoSaid : Prop := nestTargetsUptoRow.holds Try.pinned (OpenSpec.upto nestTargetsSpec)

/-- 'millwrightlaw09.NestWithin', WHERE WHAT IT READS IS OF BULK AT MOST 1048576: true; the input reads as it did. -/
def nestWithinUptoRow : OpenClaim := { program := "ytlmnepdibhdpaaa", sum := "42160aa87f445a23bd733e4a7cd20e9ad3ae671e6bccabd9bad925712f76e320", func := "millwright/millwrightlaw09.NestWithin", spec := "nestWithin", apart := false, narrowed := true }
def NestWithinUptoSaid : Prop := nestWithinUptoRow.holds Try.pinned (OpenSpec.upto nestWithinSpec)

/-- 'millwrightlaw09.NestFronts', WHERE WHAT IT READS IS OF BULK AT MOST 1048576: true; the input reads as it did. -/
def nestFrontsUptoRow : OpenClaim := { program := "ytlmnepdibhdpaaa", sum := "42160aa87f445a23bd733e4a7cd20e9ad3ae671e6bccabd9bad925712f76e320", func := "millwright/millwrightlaw09.NestFronts", spec := "nestFronts", apart := false, narrowed := true }
def NestFrontsUptoSaid : Prop := nestFrontsUptoRow.holds Try.pinned (OpenSpec.upto nestFrontsSpec)

end Rows
end Go.Proofs.Ytlmnepdibhdpaaa
