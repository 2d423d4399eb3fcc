/-
  NARROWER THAN 'FOR EVERY INPUT', by the rows' own cells (each row's printed sentence says how): OctetOwn: laid · OctetWrites: laid · OctetNobody: laid · OctetBack: laid · OctetReads: laid · SectionJoins: laid · SectionPlaces: laid · SectionBack: laid · SectionAgain: laid · OctetFaults: laid · SectionSplits: laid.
  DERIVED. THE GIVEN ROWS OF THIS SEAT. 11 by the template 'for every input the law returns true; each argument reads behind the call as it read before'; 0 by the template 'total and deterministic' (their statements: YtkejmhpodhbeeaaDoorTotals.lean).
  GIVEN WITH THE SEED: the statements are not yours to turn. If you find one false, say at which input.
  Laid BY PROGRAM, IN A SANDBOX (cutbox-rows.mjs): the forced cells as the released guide's own fill.sh prints them over the translation afb7696d7efabf76… (all of the seat's roots in one cut). By AI agents, Wed Nov 11 2026. No macro, syntax, notation, axiom, sorry.
-/
import Derived.Test.YtkejmhpodhbeeaaDoorChecked
import GoSem.PinnedTables
import GoSem.Claim
import GoSem.ClaimJoined
import GoSem.ClaimMapViews
import Derived.JoinedTies
import Derived.KernelRfl
namespace Go.Proofs.YtkejmhpodhbeeaaDoor
/- THE CELL 'sum', in the pinned program and in every row, IS THE sha256 OF THE DUMP (.gsa) THAT YtkejmhpodhbeeaaDoorProg.lean LOADS. Nothing in Lean hashes anything: it is a label: what it is worth is what the hold of that sum in a sandbox is worth. -/
noncomputable def Tryd.pinned : Pinned := { name := "ytkejmhpodhbeeaadoor", sum := "afb7696d7efabf76d757b4a9cb424b3b72fa86866672bc96683c310fa2564966", checked := Tryd.checked }
namespace Rows
def none {H : Type} : Left H := { results := [], args := [] }

/- WHAT THE LISTED PACKAGE-LEVEL VARIABLES READ AS WHEN THE CALL BEGINS. Each datum BY PROGRAM (the guide's laid-datum.mjs) off the statement by which the dump's own 'gosem.cut.vars' lays the variable. In a bare row this is a premise. The card (YtkejmhpodhbeeaaDoorCards.lean) ties it to the program's text. -/
def laid_unicode_utf8_acceptRanges {H : Type} : DataW H := .agg [.agg [.lit (.int .u8 128), .lit (.int .u8 191)], .agg [.lit (.int .u8 160), .lit (.int .u8 191)], .agg [.lit (.int .u8 128), .lit (.int .u8 159)], .agg [.lit (.int .u8 144), .lit (.int .u8 191)], .agg [.lit (.int .u8 128), .lit (.int .u8 143)], .agg [.lit (.int .u8 0), .lit (.int .u8 0)], .agg [.lit (.int .u8 0), .lit (.int .u8 0)], .agg [.lit (.int .u8 0), .lit (.int .u8 0)], .agg [.lit (.int .u8 0), .lit (.int .u8 0)], .agg [.lit (.int .u8 0), .lit (.int .u8 0)], .agg [.lit (.int .u8 0), .lit (.int .u8 0)], .agg [.lit (.int .u8 0), .lit (.int .u8 0)], .agg [.lit (.int .u8 0), .lit (.int .u8 0)], .agg [.lit (.int .u8 0), .lit (.int .u8 0)], .agg [.lit (.int .u8 0), .lit (.int .u8 0)], .agg [.lit (.int .u8 0), .lit (.int .u8 0)]]
/-- One of Go's own tables, pinned by name: the form's constant. -/
def laid_unicode_utf8_first : DataW Unit := Go.Pinned.utf8First

/-- 'millwrightlaw02.OctetOwn': WHATEVER THE INPUT: true; the input reads as it did. -/
def octetOwnSpec : ChangeSpec := { name := "octetOwn", fn := fun _ => fun
  | [d1, d2] => { results := [.lit (.bool true)], args := [d1, d2] }
  | _ => none }
def octetOwnRow : OpenClaim := { program := "ytkejmhpodhbeeaadoor", sum := "afb7696d7efabf76d757b4a9cb424b3b72fa86866672bc96683c310fa2564966", func := "millwright/millwrightlaw02.OctetOwn", spec := "octetOwn", named := ["unicode/utf8.first", "unicode/utf8.acceptRanges"], apart := false, laid := [("unicode/utf8.acceptRanges", laid_unicode_utf8_acceptRanges), ("unicode/utf8.first", laid_unicode_utf8_first)] }
def OctetOwnSaid : Prop := octetOwnRow.holds Tryd.pinned (OpenSpec.ofChange octetOwnSpec)

/-- ITS FALSE NEIGHBOUR: 'it returns false'. Refute it at one input. -/
def octetOwnWrong : ChangeSpec := { name := "octetOwn", fn := fun _ => fun
  | [d1, d2] => { results := [.lit (.bool false)], args := [d1, d2] }
  | _ => none }
def OctetOwnWrongFalsely : Prop := octetOwnRow.holds Tryd.pinned (OpenSpec.ofChange octetOwnWrong)

/-- 'millwrightlaw02.OctetWrites': WHATEVER THE INPUT: true; the input reads as it did. -/
def octetWritesSpec : ChangeSpec := { name := "octetWrites", fn := fun _ => fun
  | [d] => { results := [.lit (.bool true)], args := [d] }
  | _ => none }
def octetWritesRow : OpenClaim := { program := "ytkejmhpodhbeeaadoor", sum := "afb7696d7efabf76d757b4a9cb424b3b72fa86866672bc96683c310fa2564966", func := "millwright/millwrightlaw02.OctetWrites", spec := "octetWrites", named := ["unicode/utf8.first", "unicode/utf8.acceptRanges"], apart := false, laid := [("unicode/utf8.acceptRanges", laid_unicode_utf8_acceptRanges), ("unicode/utf8.first", laid_unicode_utf8_first)] }
def OctetWritesSaid : Prop := octetWritesRow.holds Tryd.pinned (OpenSpec.ofChange octetWritesSpec)

/-- ITS FALSE NEIGHBOUR: 'it returns false'. Refute it at one input. -/
def octetWritesWrong : ChangeSpec := { name := "octetWrites", fn := fun _ => fun
  | [d] => { results := [.lit (.bool false)], args := [d] }
  | _ => none }
def OctetWritesWrongFalsely : Prop := octetWritesRow.holds Tryd.pinned (OpenSpec.ofChange octetWritesWrong)

/-- 'millwrightlaw02.OctetNobody': WHATEVER THE INPUT: true; the input reads as it did. -/
def octetNobodySpec : ChangeSpec := { name := "octetNobody", fn := fun _ => fun
  | [d1, d2] => { results := [.lit (.bool true)], args := [d1, d2] }
  | _ => none }
def octetNobodyRow : OpenClaim := { program := "ytkejmhpodhbeeaadoor", sum := "afb7696d7efabf76d757b4a9cb424b3b72fa86866672bc96683c310fa2564966", func := "millwright/millwrightlaw02.OctetNobody", spec := "octetNobody", named := ["unicode/utf8.first", "unicode/utf8.acceptRanges"], apart := false, laid := [("unicode/utf8.acceptRanges", laid_unicode_utf8_acceptRanges), ("unicode/utf8.first", laid_unicode_utf8_first)] }
def OctetNobodySaid : Prop := octetNobodyRow.holds Tryd.pinned (OpenSpec.ofChange octetNobodySpec)

/-- ITS FALSE NEIGHBOUR: 'it returns false'. Refute it at one input. -/
def octetNobodyWrong : ChangeSpec := { name := "octetNobody", fn := fun _ => fun
  | [d1, d2] => { results := [.lit (.bool false)], args := [d1, d2] }
  | _ => none }
def OctetNobodyWrongFalsely : Prop := octetNobodyRow.holds Tryd.pinned (OpenSpec.ofChange octetNobodyWrong)

/-- 'millwrightlaw02.OctetBack': WHATEVER THE INPUT: true; the input reads as it did. -/
def octetBackSpec : ChangeSpec := { name := "octetBack", fn := fun _ => fun
  | [d] => { results := [.lit (.bool true)], args := [d] }
  | _ => none }
def octetBackRow : OpenClaim := { program := "ytkejmhpodhbeeaadoor", sum := "afb7696d7efabf76d757b4a9cb424b3b72fa86866672bc96683c310fa2564966", func := "millwright/millwrightlaw02.OctetBack", spec := "octetBack", named := ["unicode/utf8.first", "unicode/utf8.acceptRanges"], apart := false, laid := [("unicode/utf8.acceptRanges", laid_unicode_utf8_acceptRanges), ("unicode/utf8.first", laid_unicode_utf8_first)] }
def OctetBackSaid : Prop := octetBackRow.holds Tryd.pinned (OpenSpec.ofChange octetBackSpec)

/-- ITS FALSE NEIGHBOUR: 'it returns false'. Refute it at one input. -/
def octetBackWrong : ChangeSpec := { name := "octetBack", fn := fun _ => fun
  | [d] => { results := [.lit (.bool false)], args := [d] }
  | _ => none }
def OctetBackWrongFalsely : Prop := octetBackRow.holds Tryd.pinned (OpenSpec.ofChange octetBackWrong)

/-- 'millwrightlaw02.OctetReads': WHATEVER THE INPUT: true; the input reads as it did. -/
def octetReadsSpec : ChangeSpec := { name := "octetReads", fn := fun _ => fun
  | [d1, d2] => { results := [.lit (.bool true)], args := [d1, d2] }
  | _ => none }
def octetReadsRow : OpenClaim := { program := "ytkejmhpodhbeeaadoor", sum := "afb7696d7efabf76d757b4a9cb424b3b72fa86866672bc96683c310fa2564966", func := "millwright/millwrightlaw02.OctetReads", spec := "octetReads", named := ["unicode/utf8.first", "unicode/utf8.acceptRanges"], apart := false, laid := [("unicode/utf8.acceptRanges", laid_unicode_utf8_acceptRanges), ("unicode/utf8.first", laid_unicode_utf8_first)] }
def OctetReadsSaid : Prop := octetReadsRow.holds Tryd.pinned (OpenSpec.ofChange octetReadsSpec)

/-- ITS FALSE NEIGHBOUR: 'it returns false'. Refute it at one input. -/
def octetReadsWrong : ChangeSpec := { name := "octetReads", fn := fun _ => fun
  | [d1, d2] => { results := [.lit (.bool false)], args := [d1, d2] }
  | _ => none }
def OctetReadsWrongFalsely : Prop := octetReadsRow.holds Tryd.pinned (OpenSpec.ofChange octetReadsWrong)

/-- 'millwrightlaw12.SectionJoins': WHATEVER THE INPUT: true; the input reads as it did. -/
def sectionJoinsSpec : ChangeSpec := { name := "sectionJoins", fn := fun _ => fun
  | [d] => { results := [.lit (.bool true)], args := [d] }
  | _ => none }
def sectionJoinsRow : OpenClaim := { program := "ytkejmhpodhbeeaadoor", sum := "afb7696d7efabf76d757b4a9cb424b3b72fa86866672bc96683c310fa2564966", func := "millwright/millwrightlaw12.SectionJoins", spec := "sectionJoins", inPlace := ["internal/bytealg.IndexByteString"], named := ["unicode/utf8.first", "unicode/utf8.acceptRanges"], apart := false, laid := [("unicode/utf8.acceptRanges", laid_unicode_utf8_acceptRanges), ("unicode/utf8.first", laid_unicode_utf8_first)] }
def SectionJoinsSaid : Prop := sectionJoinsRow.holds Tryd.pinned (OpenSpec.ofChange sectionJoinsSpec)

/-- ITS FALSE NEIGHBOUR: 'it returns false'. Refute it at one input. -/
def sectionJoinsWrong : ChangeSpec := { name := "sectionJoins", fn := fun _ => fun
  | [d] => { results := [.lit (.bool false)], args := [d] }
  | _ => none }
def SectionJoinsWrongFalsely : Prop := sectionJoinsRow.holds Tryd.pinned (OpenSpec.ofChange sectionJoinsWrong)

/-- 'millwrightlaw12.SectionPlaces': WHATEVER THE INPUT: true; the input reads as it did. -/
def sectionPlacesSpec : ChangeSpec := { name := "sectionPlaces", fn := fun _ => fun
  | [d1, d2] => { results := [.lit (.bool true)], args := [d1, d2] }
  | _ => none }
def sectionPlacesRow : OpenClaim := { program := "ytkejmhpodhbeeaadoor", sum := "afb7696d7efabf76d757b4a9cb424b3b72fa86866672bc96683c310fa2564966", func := "millwright/millwrightlaw12.SectionPlaces", spec := "sectionPlaces", inPlace := ["internal/bytealg.IndexByteString"], named := ["unicode/utf8.first", "unicode/utf8.acceptRanges"], apart := false, laid := [("unicode/utf8.acceptRanges", laid_unicode_utf8_acceptRanges), ("unicode/utf8.first", laid_unicode_utf8_first)] }
def SectionPlacesSaid : Prop := sectionPlacesRow.holds Tryd.pinned (OpenSpec.ofChange sectionPlacesSpec)

/-- ITS FALSE NEIGHBOUR: 'it returns false'. Refute it at one input. -/
def sectionPlacesWrong : ChangeSpec := { name := "sectionPlaces", fn := fun _ => fun
  | [d1, d2] => { results := [.lit (.bool false)], args := [d1, d2] }
  | _ => none }
def SectionPlacesWrongFalsely : Prop := sectionPlacesRow.holds Tryd.pinned (OpenSpec.ofChange sectionPlacesWrong)

/-- 'millwrightlaw12.SectionBack': WHATEVER THE INPUT: true; the input reads as it did. -/
def sectionBackSpec : ChangeSpec := { name := "sectionBack", fn := fun _ => fun
  | [d] => { results := [.lit (.bool true)], args := [d] }
  | _ => none }
def sectionBackRow : OpenClaim := { program := "ytkejmhpodhbeeaadoor", sum := "afb7696d7efabf76d757b4a9cb424b3b72fa86866672bc96683c310fa2564966", func := "millwright/millwrightlaw12.SectionBack", spec := "sectionBack", inPlace := ["internal/bytealg.IndexByteString"], named := ["unicode/utf8.first", "unicode/utf8.acceptRanges"], apart := false, laid := [("unicode/utf8.acceptRanges", laid_unicode_utf8_acceptRanges), ("unicode/utf8.first", laid_unicode_utf8_first)] }
def SectionBackSaid : Prop := sectionBackRow.holds Tryd.pinned (OpenSpec.ofChange sectionBackSpec)

/-- ITS FALSE NEIGHBOUR: 'it returns false'. Refute it at one input. -/
def sectionBackWrong : ChangeSpec := { name := "sectionBack", fn := fun _ => fun
  | [d] => { results := [.lit (.bool false)], args := [d] }
  | _ => none }
def SectionBackWrongFalsely : Prop := sectionBackRow.holds Tryd.pinned (OpenSpec.ofChange sectionBackWrong)

/-- 'millwrightlaw12.SectionAgain': WHATEVER THE INPUT: true; the input reads as it did. -/
def sectionAgainSpec : ChangeSpec := { name := "sectionAgain", fn := fun _ => fun
  | [d] => { results := [.lit (.bool true)], args := [d] }
  | _ => none }
def sectionAgainRow : OpenClaim := { program := "ytkejmhpodhbeeaadoor", sum := "afb7696d7efabf76d757b4a9cb424b3b72fa86866672bc96683c310fa2564966", func := "millwright/millwrightlaw12.SectionAgain", spec := "sectionAgain", inPlace := ["internal/bytealg.IndexByteString"], named := ["unicode/utf8.first", "unicode/utf8.acceptRanges"], apart := false, laid := [("unicode/utf8.acceptRanges", laid_unicode_utf8_acceptRanges), ("unicode/utf8.first", laid_unicode_utf8_first)] }
def SectionAgainSaid : Prop := sectionAgainRow.holds Tryd.pinned (OpenSpec.ofChange sectionAgainSpec)

/-- ITS FALSE NEIGHBOUR: 'it returns false'. Refute it at one input. -/
def sectionAgainWrong : ChangeSpec := { name := "sectionAgain", fn := fun _ => fun
  | [d] => { results := [.lit (.bool false)], args := [d] }
  | _ => none }
def SectionAgainWrongFalsely : Prop := sectionAgainRow.holds Tryd.pinned (OpenSpec.ofChange sectionAgainWrong)

/-- 'millwrightlaw02.OctetFaults': WHATEVER THE INPUT: true; the input reads as it did. -/
def octetFaultsSpec : ChangeSpec := { name := "octetFaults", fn := fun _ => fun
  | [d1, d2, d3, d4] => { results := [.lit (.bool true)], args := [d1, d2, d3, d4] }
  | _ => none }
def octetFaultsRow : OpenClaim := { program := "ytkejmhpodhbeeaadoor", sum := "afb7696d7efabf76d757b4a9cb424b3b72fa86866672bc96683c310fa2564966", func := "millwright/millwrightlaw02.OctetFaults", spec := "octetFaults", named := ["unicode/utf8.first", "unicode/utf8.acceptRanges"], apart := false, laid := [("unicode/utf8.acceptRanges", laid_unicode_utf8_acceptRanges), ("unicode/utf8.first", laid_unicode_utf8_first)] }
def OctetFaultsSaid : Prop := octetFaultsRow.holds Tryd.pinned (OpenSpec.ofChange octetFaultsSpec)

/-- ITS FALSE NEIGHBOUR: 'it returns false'. Refute it at one input. -/
def octetFaultsWrong : ChangeSpec := { name := "octetFaults", fn := fun _ => fun
  | [d1, d2, d3, d4] => { results := [.lit (.bool false)], args := [d1, d2, d3, d4] }
  | _ => none }
def OctetFaultsWrongFalsely : Prop := octetFaultsRow.holds Tryd.pinned (OpenSpec.ofChange octetFaultsWrong)

/-- 'millwrightlaw12.SectionSplits': WHATEVER THE INPUT: true; the input reads as it did. -/
def sectionSplitsSpec : ChangeSpec := { name := "sectionSplits", fn := fun _ => fun
  | [d] => { results := [.lit (.bool true)], args := [d] }
  | _ => none }
def sectionSplitsRow : OpenClaim := { program := "ytkejmhpodhbeeaadoor", sum := "afb7696d7efabf76d757b4a9cb424b3b72fa86866672bc96683c310fa2564966", func := "millwright/millwrightlaw12.SectionSplits", spec := "sectionSplits", inPlace := ["internal/bytealg.IndexByteString"], named := ["unicode/utf8.first", "unicode/utf8.acceptRanges"], apart := false, laid := [("unicode/utf8.acceptRanges", laid_unicode_utf8_acceptRanges), ("unicode/utf8.first", laid_unicode_utf8_first)] }
def SectionSplitsSaid : Prop := sectionSplitsRow.holds Tryd.pinned (OpenSpec.ofChange sectionSplitsSpec)

/-- ITS FALSE NEIGHBOUR: 'it returns false'. Refute it at one input. -/
def sectionSplitsWrong : ChangeSpec := { name := "sectionSplits", fn := fun _ => fun
  | [d] => { results := [.lit (.bool false)], args := [d] }
  | _ => none }
def SectionSplitsWrongFalsely : Prop := sectionSplitsRow.holds Tryd.pinned (OpenSpec.ofChange sectionSplitsWrong)

/- THE SECOND FORM. 'bulk': how many values and letters a reading holds, each counted each time it is reached (what is shared counts as often as it is met; a slice's spare places count too). A statement '..UptoSaid' is the law's where the arguments, and the package variables that the reading takes, are together of bulk at most 1048576: NARROWER than '..Said'. Prove '..Said' where nothing that the law and all that it calls make is longer than what came in: it says more and counts as full. Else prove '..UptoSaid'. A law counts once. -/
mutual
def uptoBulk {H : Type} : DataW H → Nat
  | .lit (.string bytes) => bytes.length + 1
  | .lit _ => 1
  | .nil => 1
  | .ptr d => uptoBulk d + 1
  | .slice elems spare => uptoBulkAll elems + uptoBulkAll spare + 1
  | .agg parts => uptoBulkAll parts + 1
  | .iface _ d => uptoBulk d + 1
  | .map entries => uptoBulkEntries entries + 1
  | .held _ => 1
def uptoBulkAll {H : Type} : List (DataW H) → Nat
  | [] => 0
  | d :: r => uptoBulk d + uptoBulkAll r
def uptoBulkEntries {H : Type} : List (Lit × DataW H) → Nat
  | [] => 0
  | x :: r => uptoBulkEntry x + uptoBulkEntries r
def uptoBulkEntry {H : Type} : Lit × DataW H → Nat
  | (.string bytes, d) => bytes.length + uptoBulk d + 1
  | (_, d) => uptoBulk d + 1
 end
def uptoSmall : (H : Type) → List (DataW H) → Bool := fun _ ds => decide (uptoBulkAll ds ≤ 1048576)
def OpenSpec.upto (s : _root_.Go.ChangeSpec) : _root_.Go.OpenSpec := { _root_.Go.OpenSpec.ofChange s with cond := some uptoSmall }

/-- 'millwrightlaw02.OctetOwn', WHERE WHAT IT READS IS OF BULK AT MOST 1048576: true; the input reads as it did. -/
def octetOwnUptoRow : OpenClaim := { program := "ytkejmhpodhbeeaadoor", sum := "afb7696d7efabf76d757b4a9cb424b3b72fa86866672bc96683c310fa2564966", func := "millwright/millwrightlaw02.OctetOwn", spec := "octetOwn", named := ["unicode/utf8.first", "unicode/utf8.acceptRanges"], apart := false, laid := [("unicode/utf8.acceptRanges", laid_unicode_utf8_acceptRanges), ("unicode/utf8.first", laid_unicode_utf8_first)], narrowed := true }
def OctetOwnUptoSaid : Prop := octetOwnUptoRow.holds Tryd.pinned (OpenSpec.upto octetOwnSpec)

/-- 'millwrightlaw02.OctetWrites', WHERE WHAT IT READS IS OF BULK AT MOST 1048576: true; the input reads as it did. -/
def octetWritesUptoRow : OpenClaim := { program := "ytkejmhpodhbeeaadoor", sum := "afb7696d7efabf76d757b4a9cb424b3b72fa86866672bc96683c310fa2564966", func := "millwright/millwrightlaw02.OctetWrites", spec := "octetWrites", named := ["unicode/utf8.first", "unicode/utf8.acceptRanges"], apart := false, laid := [("unicode/utf8.acceptRanges", laid_unicode_utf8_acceptRanges), ("unicode/utf8.first", laid_unicode_utf8_first)], narrowed := true }
def OctetWritesUptoSaid : Prop := octetWritesUptoRow.holds Tryd.pinned (OpenSpec.upto octetWritesSpec)

/-- 'millwrightlaw02.OctetNobody', WHERE WHAT IT READS IS OF BULK AT MOST 1048576: true; the input reads as it did. -/
def octetNobodyUptoRow : OpenClaim := { program := "ytkejmhpodhbeeaadoor", sum := "afb7696d7efabf76d757b4a9cb424b3b72fa86866672bc96683c310fa2564966", func := "millwright/millwrightlaw02.OctetNobody", spec := "octetNobody", named := ["unicode/utf8.first", "unicode/utf8.acceptRanges"], apart := false, laid := [("unicode/utf8.acceptRanges", laid_unicode_utf8_acceptRanges), ("unicode/utf8.first", laid_unicode_utf8_first)], narrowed := true }
def OctetNobodyUptoSaid : Prop := octetNobodyUptoRow.holds Tryd.pinned (OpenSpec.upto octetNobodySpec)

/-- 'millwrightlaw02.OctetBack', WHERE WHAT IT READS IS OF BULK AT MOST 1048576: true; the input reads as it did. -/
def octetBackUptoRow : OpenClaim := { program := "ytkejmhpodhbeeaadoor", sum := "afb7696d7efabf76d757b4a9cb424b3b72fa86866672bc96683c310fa2564966", func := "millwright/millwrightlaw02.OctetBack", spec := "octetBack", named := ["unicode/utf8.first", "unicode/utf8.acceptRanges"], apart := false, laid := [("unicode/utf8.acceptRanges", laid_unicode_utf8_acceptRanges), ("unicode/utf8.first", laid_unicode_utf8_first)], narrowed := true }
def OctetBackUptoSaid : Prop := octetBackUptoRow.holds Tryd.pinned (OpenSpec.upto octetBackSpec)

/-- 'millwrightlaw02.OctetReads', WHERE WHAT IT READS IS OF BULK AT MOST 1048576: true; the input reads as it did. -/
def octetReadsUptoRow : OpenClaim := { program := "ytkejmhpodhbeeaadoor", sum := "afb7696d7efabf76d757b4a9cb424b3b72fa86866672bc96683c310fa2564966", func := "millwright/millwrightlaw02.OctetReads", spec := "octetReads", named := ["unicode/utf8.first", "unicode/utf8.acceptRanges"], apart := false, laid := [("unicode/utf8.acceptRanges", laid_unicode_utf8_acceptRanges), ("unicode/utf8.first", laid_unicode_utf8_first)], narrowed := true }
def OctetReadsUptoSaid : Prop := octetReadsUptoRow.holds Tryd.pinned (OpenSpec.upto octetReadsSpec)

/-- 'millwrightlaw12.SectionJoins', WHERE WHAT IT READS IS OF BULK AT MOST 1048576: true; the input reads as it did. -/
def sectionJoinsUptoRow : OpenClaim := { program := "ytkejmhpodhbeeaadoor", sum := "afb7696d7efabf76d757b4a9cb424b3b72fa86866672bc96683c310fa2564966", func := "millwright/millwrightlaw12.SectionJoins", spec := "sectionJoins", inPlace := ["internal/bytealg.IndexByteString"], named := ["unicode/utf8.first", "unicode/utf8.acceptRanges"], apart := false, laid := [("unicode/utf8.acceptRanges", laid_unicode_utf8_acceptRanges), ("unicode/utf8.first", laid_unicode_utf8_first)], narrowed := true }
def SectionJoinsUptoSaid : Prop := sectionJoinsUptoRow.holds Tryd.pinned (OpenSpec.upto sectionJoinsSpec)

/-- 'millwrightlaw12.SectionPlaces', WHERE WHAT IT READS IS OF BULK AT MOST 1048576: true; the input reads as it did. -/
def sectionPlacesUptoRow : OpenClaim := { program := "ytkejmhpodhbeeaadoor", sum := "afb7696d7efabf76d757b4a9cb424b3b72fa86866672bc96683c310fa2564966", func := "millwright/millwrightlaw12.SectionPlaces", spec := "sectionPlaces", inPlace := ["internal/bytealg.IndexByteString"], named := ["unicode/utf8.first", "unicode/utf8.acceptRanges"], apart := false, laid := [("unicode/utf8.acceptRanges", laid_unicode_utf8_acceptRanges), ("unicode/utf8.first", laid_unicode_utf8_first)], narrowed := true }
def SectionPlacesUptoSaid : Prop := sectionPlacesUptoRow.holds Tryd.pinned (OpenSpec.upto sectionPlacesSpec)

/-- 'millwrightlaw12.SectionBack', WHERE WHAT IT READS IS OF BULK AT MOST 1048576: true; the input reads as it did. -/
def sectionBackUptoRow : OpenClaim := { program := "ytkejmhpodhbeeaadoor", sum := "afb7696d7efabf76d757b4a9cb424b3b72fa86866672bc96683c310fa2564966", func := "millwright/millwrightlaw12.SectionBack", spec := "sectionBack", inPlace := ["internal/bytealg.IndexByteString"], named := ["unicode/utf8.first", "unicode/utf8.acceptRanges"], apart := false, laid := [("unicode/utf8.acceptRanges", laid_unicode_utf8_acceptRanges), ("unicode/utf8.first", laid_unicode_utf8_first)], narrowed := true }
def SectionBackUptoSaid : Prop := sectionBackUptoRow.holds Tryd.pinned (OpenSpec.upto sectionBackSpec)

/-- 'millwrightlaw12.SectionAgain', WHERE WHAT IT READS IS OF BULK AT MOST 1048576: true; the input reads as it did. -/
def sectionAgainUptoRow : OpenClaim := { program := "ytkejmhpodhbeeaadoor", sum := "afb7696d7efabf76d757b4a9cb424b3b72fa86866672bc96683c310fa2564966", func := "millwright/millwrightlaw12.SectionAgain", spec := "sectionAgain", inPlace := ["internal/bytealg.IndexByteString"], named := ["unicode/utf8.first", "unicode/utf8.acceptRanges"], apart := false, laid := [("unicode/utf8.acceptRanges", laid_unicode_utf8_acceptRanges), ("unicode/utf8.first", laid_unicode_utf8_first)], narrowed := true }
def SectionAgainUptoSaid : Prop := sectionAgainUptoRow.holds Tryd.pinned (OpenSpec.upto sectionAgainSpec)

/-- 'millwrightlaw02.OctetFaults', WHERE WHAT IT READS IS OF BULK AT MOST 1048576: true; the input reads as it did. -/
def octetFaultsUptoRow : OpenClaim := { program := "ytkejmhpodhbeeaadoor", sum := "afb7696d7efabf76d757b4a9cb424b3b72fa86866672bc96683c310fa2564966", func := "millwright/millwrightlaw02.OctetFaults", spec := "octetFaults", named := ["unicode/utf8.first", "unicode/utf8.acceptRanges"], apart := false, laid := [("unicode/utf8.acceptRanges", laid_unicode_utf8_acceptRanges), ("unicode/utf8.first", laid_unicode_utf8_first)], narrowed := true }
def OctetFaultsUptoSaid : Prop := octetFaultsUptoRow.holds Tryd.pinned (OpenSpec.upto octetFaultsSpec)

/-- 'millwrightlaw12.SectionSplits', WHERE WHAT IT READS IS OF BULK AT MOST 1048576: true; the input reads as it did. -/
def sectionSplitsUptoRow : OpenClaim := { program := "ytkejmhpodhbeeaadoor", sum := "afb7696d7efabf76d757b4a9cb424b3b72fa86866672bc96683c310fa2564966", func := "millwright/millwrightlaw12.SectionSplits", spec := "sectionSplits", inPlace := ["internal/bytealg.IndexByteString"], named := ["unicode/utf8.first", "unicode/utf8.acceptRanges"], apart := false, laid := [("unicode/utf8.acceptRanges", laid_unicode_utf8_acceptRanges), ("unicode/utf8.first", laid_unicode_utf8_first)], narrowed := true }
def SectionSplitsUptoSaid : Prop := sectionSplitsUptoRow.holds Tryd.pinned (OpenSpec.upto sectionSplitsSpec)

end Rows
end Go.Proofs.YtkejmhpodhbeeaaDoor
