/-
  Chapter 5 in plain Lean: the table of opcodes.
-/
import Derived.Test.YtnhnghpnejobfaaDoorQi
import Derived.Test.YtnhnghpnejobfaaDoorQc
import Derived.Shelf.Strings.Search3
import Derived.Shelf.Strings.Fields
import Derived.Shelf.Abstract
import Derived.WalkKit
import Derived.OwnWalkIn
import Derived.TacticsInMore
import Derived.LoopNIn
import Derived.LoopIn
set_option linter.unusedVariables false
set_option linter.unusedSimpArgs false
set_option linter.unusedSectionVars false
set_option maxRecDepth 100000
set_option linter.unusedVariables false
namespace Go.Proofs.YtnhnghpnejobfaaDoor
open Go Go.Mw

/-- A row of the program's: the first opcode, the head of the names, their tails. -/
structure Hr where
  f : Int
  h : List UInt8
  t : List UInt8
/-- An opcode: its number, its name, the kind of its immediates. -/
structure Oc where
  op : Int
  nm : List UInt8
  im : Int
def hr_ (r : Hr) : List AV := [.int .i64 r.f, .str r.h, .str r.t]
def oc_ (r : Oc) : List AV := [.int .i64 r.op, .str r.nm, .int .i64 r.im]
theorem hr_e (r : Hr) : hr_ r = [.int .i64 r.f, .str r.h, .str r.t] := rfl
theorem oc_e (r : Oc) : oc_ r = [.int .i64 r.op, .str r.nm, .int .i64 r.im] := rfl
instance : Inhabited Hr := ⟨⟨0, [], []⟩⟩
instance : Inhabited Oc := ⟨⟨0, [], 0⟩⟩
def HR : List Hr := [⟨0, [], [117, 110, 114, 101, 97, 99, 104, 97, 98, 108, 101, 32, 110, 111, 112, 32, 98, 108, 111, 99, 107, 32, 108, 111, 111, 112, 32, 105, 102, 32, 101, 108, 115, 101]⟩,
  ⟨11, [], [101, 110, 100, 32, 98, 114, 32, 98, 114, 95, 105, 102, 32, 98, 114, 95, 116, 97, 98, 108, 101, 32, 114, 101, 116, 117, 114, 110, 32, 99, 97, 108, 108, 32, 99, 97, 108, 108, 95, 105, 110, 100, 105, 114, 101, 99, 116]⟩,
  ⟨26, [], [100, 114, 111, 112, 32, 115, 101, 108, 101, 99, 116, 32, 115, 101, 108, 101, 99, 116]⟩,
  ⟨32, [108, 111, 99, 97, 108, 46], [103, 101, 116, 32, 115, 101, 116, 32, 116, 101, 101]⟩,
  ⟨35, [103, 108, 111, 98, 97, 108, 46], [103, 101, 116, 32, 115, 101, 116]⟩,
  ⟨37, [116, 97, 98, 108, 101, 46], [103, 101, 116, 32, 115, 101, 116]⟩,
  ⟨40, [], [105, 51, 50, 46, 108, 111, 97, 100, 32, 105, 54, 52, 46, 108, 111, 97, 100]⟩,
  ⟨44, [105, 51, 50, 46], [108, 111, 97, 100, 56, 95, 115, 32, 108, 111, 97, 100, 56, 95, 117, 32, 108, 111, 97, 100, 49, 54, 95, 115, 32, 108, 111, 97, 100, 49, 54, 95, 117]⟩,
  ⟨48, [105, 54, 52, 46], [108, 111, 97, 100, 56, 95, 115, 32, 108, 111, 97, 100, 56, 95, 117, 32, 108, 111, 97, 100, 49, 54, 95, 115, 32, 108, 111, 97, 100, 49, 54, 95, 117, 32, 108, 111, 97, 100, 51, 50, 95, 115, 32, 108, 111, 97, 100, 51, 50, 95, 117]⟩,
  ⟨54, [], [105, 51, 50, 46, 115, 116, 111, 114, 101, 32, 105, 54, 52, 46, 115, 116, 111, 114, 101]⟩,
  ⟨58, [105, 51, 50, 46], [115, 116, 111, 114, 101, 56, 32, 115, 116, 111, 114, 101, 49, 54]⟩,
  ⟨60, [105, 54, 52, 46], [115, 116, 111, 114, 101, 56, 32, 115, 116, 111, 114, 101, 49, 54, 32, 115, 116, 111, 114, 101, 51, 50]⟩,
  ⟨63, [109, 101, 109, 111, 114, 121, 46], [115, 105, 122, 101, 32, 103, 114, 111, 119]⟩,
  ⟨65, [], [105, 51, 50, 46, 99, 111, 110, 115, 116, 32, 105, 54, 52, 46, 99, 111, 110, 115, 116]⟩,
  ⟨69, [105, 51, 50, 46], [101, 113, 122, 32, 101, 113, 32, 110, 101, 32, 108, 116, 95, 115, 32, 108, 116, 95, 117, 32, 103, 116, 95, 115, 32, 103, 116, 95, 117, 32, 108, 101, 95, 115, 32, 108, 101, 95, 117, 32, 103, 101, 95, 115, 32, 103, 101, 95, 117]⟩,
  ⟨80, [105, 54, 52, 46], [101, 113, 122, 32, 101, 113, 32, 110, 101, 32, 108, 116, 95, 115, 32, 108, 116, 95, 117, 32, 103, 116, 95, 115, 32, 103, 116, 95, 117, 32, 108, 101, 95, 115, 32, 108, 101, 95, 117, 32, 103, 101, 95, 115, 32, 103, 101, 95, 117]⟩,
  ⟨103, [105, 51, 50, 46], [99, 108, 122, 32, 99, 116, 122, 32, 112, 111, 112, 99, 110, 116, 32, 97, 100, 100, 32, 115, 117, 98, 32, 109, 117, 108, 32, 100, 105, 118, 95, 115, 32, 100, 105, 118, 95, 117, 32, 114, 101, 109, 95, 115, 32, 114, 101, 109, 95, 117, 32, 97, 110, 100, 32, 111, 114, 32, 120, 111, 114, 32, 115, 104, 108, 32, 115, 104, 114, 95, 115, 32, 115, 104, 114, 95, 117, 32, 114, 111, 116, 108, 32, 114, 111, 116, 114]⟩,
  ⟨121, [105, 54, 52, 46], [99, 108, 122, 32, 99, 116, 122, 32, 112, 111, 112, 99, 110, 116, 32, 97, 100, 100, 32, 115, 117, 98, 32, 109, 117, 108, 32, 100, 105, 118, 95, 115, 32, 100, 105, 118, 95, 117, 32, 114, 101, 109, 95, 115, 32, 114, 101, 109, 95, 117, 32, 97, 110, 100, 32, 111, 114, 32, 120, 111, 114, 32, 115, 104, 108, 32, 115, 104, 114, 95, 115, 32, 115, 104, 114, 95, 117, 32, 114, 111, 116, 108, 32, 114, 111, 116, 114]⟩,
  ⟨167, [], [105, 51, 50, 46, 119, 114, 97, 112, 95, 105, 54, 52]⟩,
  ⟨172, [105, 54, 52, 46], [101, 120, 116, 101, 110, 100, 95, 105, 51, 50, 95, 115, 32, 101, 120, 116, 101, 110, 100, 95, 105, 51, 50, 95, 117]⟩,
  ⟨192, [105, 51, 50, 46], [101, 120, 116, 101, 110, 100, 56, 95, 115, 32, 101, 120, 116, 101, 110, 100, 49, 54, 95, 115]⟩,
  ⟨194, [105, 54, 52, 46], [101, 120, 116, 101, 110, 100, 56, 95, 115, 32, 101, 120, 116, 101, 110, 100, 49, 54, 95, 115, 32, 101, 120, 116, 101, 110, 100, 51, 50, 95, 115]⟩,
  ⟨208, [114, 101, 102, 46], [110, 117, 108, 108, 32, 105, 115, 95, 110, 117, 108, 108, 32, 102, 117, 110, 99]⟩,
  ⟨64520, [], [109, 101, 109, 111, 114, 121, 46, 105, 110, 105, 116, 32, 100, 97, 116, 97, 46, 100, 114, 111, 112, 32, 109, 101, 109, 111, 114, 121, 46, 99, 111, 112, 121, 32, 109, 101, 109, 111, 114, 121, 46, 102, 105, 108, 108, 32, 116, 97, 98, 108, 101, 46, 105, 110, 105, 116, 32, 101, 108, 101, 109, 46, 100, 114, 111, 112, 32, 116, 97, 98, 108, 101, 46, 99, 111, 112, 121, 32, 116, 97, 98, 108, 101, 46, 103, 114, 111, 119, 32, 116, 97, 98, 108, 101, 46, 115, 105, 122, 101, 32, 116, 97, 98, 108, 101, 46, 102, 105, 108, 108]⟩]
def cmpS : List (List UInt8) := [[101, 113, 122],
  [101, 113],
  [110, 101],
  [108, 116, 95, 115],
  [108, 116, 95, 117],
  [103, 116, 95, 115],
  [103, 116, 95, 117],
  [108, 101, 95, 115],
  [108, 101, 95, 117],
  [103, 101, 95, 115],
  [103, 101, 95, 117]]
def twoS : List (List UInt8) := [[99, 108, 122],
  [99, 116, 122],
  [112, 111, 112, 99, 110, 116],
  [97, 100, 100],
  [115, 117, 98],
  [109, 117, 108],
  [100, 105, 118, 95, 115],
  [100, 105, 118, 95, 117],
  [114, 101, 109, 95, 115],
  [114, 101, 109, 95, 117],
  [97, 110, 100],
  [111, 114],
  [120, 111, 114],
  [115, 104, 108],
  [115, 104, 114, 95, 115],
  [115, 104, 114, 95, 117],
  [114, 111, 116, 108],
  [114, 111, 116, 114]]
def ctlR : List Oc := [⟨0, [117, 110, 114, 101, 97, 99, 104, 97, 98, 108, 101], 0⟩,
  ⟨1, [110, 111, 112], 0⟩,
  ⟨2, [98, 108, 111, 99, 107], 1⟩,
  ⟨3, [108, 111, 111, 112], 1⟩,
  ⟨4, [105, 102], 1⟩,
  ⟨5, [101, 108, 115, 101], 0⟩,
  ⟨11, [101, 110, 100], 0⟩,
  ⟨12, [98, 114], 2⟩,
  ⟨13, [98, 114, 95, 105, 102], 2⟩,
  ⟨14, [98, 114, 95, 116, 97, 98, 108, 101], 3⟩,
  ⟨15, [114, 101, 116, 117, 114, 110], 0⟩,
  ⟨16, [99, 97, 108, 108], 4⟩,
  ⟨17, [99, 97, 108, 108, 95, 105, 110, 100, 105, 114, 101, 99, 116], 5⟩,
  ⟨26, [100, 114, 111, 112], 0⟩,
  ⟨27, [115, 101, 108, 101, 99, 116], 0⟩,
  ⟨28, [115, 101, 108, 101, 99, 116], 6⟩,
  ⟨32, [108, 111, 99, 97, 108, 46, 103, 101, 116], 7⟩,
  ⟨33, [108, 111, 99, 97, 108, 46, 115, 101, 116], 7⟩,
  ⟨34, [108, 111, 99, 97, 108, 46, 116, 101, 101], 7⟩,
  ⟨35, [103, 108, 111, 98, 97, 108, 46, 103, 101, 116], 8⟩,
  ⟨36, [103, 108, 111, 98, 97, 108, 46, 115, 101, 116], 8⟩,
  ⟨37, [116, 97, 98, 108, 101, 46, 103, 101, 116], 9⟩,
  ⟨38, [116, 97, 98, 108, 101, 46, 115, 101, 116], 9⟩]
def accR : List Oc := [⟨40, [105, 51, 50, 46, 108, 111, 97, 100], 17⟩,
  ⟨41, [105, 54, 52, 46, 108, 111, 97, 100], 17⟩,
  ⟨44, [105, 51, 50, 46, 108, 111, 97, 100, 56, 95, 115], 17⟩,
  ⟨45, [105, 51, 50, 46, 108, 111, 97, 100, 56, 95, 117], 17⟩,
  ⟨46, [105, 51, 50, 46, 108, 111, 97, 100, 49, 54, 95, 115], 17⟩,
  ⟨47, [105, 51, 50, 46, 108, 111, 97, 100, 49, 54, 95, 117], 17⟩,
  ⟨48, [105, 54, 52, 46, 108, 111, 97, 100, 56, 95, 115], 17⟩,
  ⟨49, [105, 54, 52, 46, 108, 111, 97, 100, 56, 95, 117], 17⟩,
  ⟨50, [105, 54, 52, 46, 108, 111, 97, 100, 49, 54, 95, 115], 17⟩,
  ⟨51, [105, 54, 52, 46, 108, 111, 97, 100, 49, 54, 95, 117], 17⟩,
  ⟨52, [105, 54, 52, 46, 108, 111, 97, 100, 51, 50, 95, 115], 17⟩,
  ⟨53, [105, 54, 52, 46, 108, 111, 97, 100, 51, 50, 95, 117], 17⟩,
  ⟨54, [105, 51, 50, 46, 115, 116, 111, 114, 101], 17⟩,
  ⟨55, [105, 54, 52, 46, 115, 116, 111, 114, 101], 17⟩,
  ⟨58, [105, 51, 50, 46, 115, 116, 111, 114, 101, 56], 17⟩,
  ⟨59, [105, 51, 50, 46, 115, 116, 111, 114, 101, 49, 54], 17⟩,
  ⟨60, [105, 54, 52, 46, 115, 116, 111, 114, 101, 56], 17⟩,
  ⟨61, [105, 54, 52, 46, 115, 116, 111, 114, 101, 49, 54], 17⟩,
  ⟨62, [105, 54, 52, 46, 115, 116, 111, 114, 101, 51, 50], 17⟩,
  ⟨63, [109, 101, 109, 111, 114, 121, 46, 115, 105, 122, 101], 13⟩,
  ⟨64, [109, 101, 109, 111, 114, 121, 46, 103, 114, 111, 119], 13⟩,
  ⟨65, [105, 51, 50, 46, 99, 111, 110, 115, 116], 18⟩,
  ⟨66, [105, 54, 52, 46, 99, 111, 110, 115, 116], 19⟩]
def endR : List Oc := [⟨208, [114, 101, 102, 46, 110, 117, 108, 108], 20⟩,
  ⟨209, [114, 101, 102, 46, 105, 115, 95, 110, 117, 108, 108], 0⟩,
  ⟨210, [114, 101, 102, 46, 102, 117, 110, 99], 4⟩,
  ⟨64520, [109, 101, 109, 111, 114, 121, 46, 105, 110, 105, 116], 15⟩,
  ⟨64521, [100, 97, 116, 97, 46, 100, 114, 111, 112], 16⟩,
  ⟨64522, [109, 101, 109, 111, 114, 121, 46, 99, 111, 112, 121], 14⟩,
  ⟨64523, [109, 101, 109, 111, 114, 121, 46, 102, 105, 108, 108], 13⟩,
  ⟨64524, [116, 97, 98, 108, 101, 46, 105, 110, 105, 116], 11⟩,
  ⟨64525, [101, 108, 101, 109, 46, 100, 114, 111, 112], 12⟩,
  ⟨64526, [116, 97, 98, 108, 101, 46, 99, 111, 112, 121], 10⟩,
  ⟨64527, [116, 97, 98, 108, 101, 46, 103, 114, 111, 119], 9⟩,
  ⟨64528, [116, 97, 98, 108, 101, 46, 115, 105, 122, 101], 9⟩,
  ⟨64529, [116, 97, 98, 108, 101, 46, 102, 105, 108, 108], 9⟩]
def num (f : Int) (t : List UInt8) : Nat → List (List UInt8) → List Oc
  | _, [] => []
  | k, s :: r => ⟨f + (k : Int), t ++ [46] ++ s, 0⟩ :: num f t (k + 1) r
/-- All opcodes. -/
def OC : List Oc := [⟨0, [117, 110, 114, 101, 97, 99, 104, 97, 98, 108, 101], 0⟩,
  ⟨1, [110, 111, 112], 0⟩,
  ⟨2, [98, 108, 111, 99, 107], 1⟩,
  ⟨3, [108, 111, 111, 112], 1⟩,
  ⟨4, [105, 102], 1⟩,
  ⟨5, [101, 108, 115, 101], 0⟩,
  ⟨11, [101, 110, 100], 0⟩,
  ⟨12, [98, 114], 2⟩,
  ⟨13, [98, 114, 95, 105, 102], 2⟩,
  ⟨14, [98, 114, 95, 116, 97, 98, 108, 101], 3⟩,
  ⟨15, [114, 101, 116, 117, 114, 110], 0⟩,
  ⟨16, [99, 97, 108, 108], 4⟩,
  ⟨17, [99, 97, 108, 108, 95, 105, 110, 100, 105, 114, 101, 99, 116], 5⟩,
  ⟨26, [100, 114, 111, 112], 0⟩,
  ⟨27, [115, 101, 108, 101, 99, 116], 0⟩,
  ⟨28, [115, 101, 108, 101, 99, 116], 6⟩,
  ⟨32, [108, 111, 99, 97, 108, 46, 103, 101, 116], 7⟩,
  ⟨33, [108, 111, 99, 97, 108, 46, 115, 101, 116], 7⟩,
  ⟨34, [108, 111, 99, 97, 108, 46, 116, 101, 101], 7⟩,
  ⟨35, [103, 108, 111, 98, 97, 108, 46, 103, 101, 116], 8⟩,
  ⟨36, [103, 108, 111, 98, 97, 108, 46, 115, 101, 116], 8⟩,
  ⟨37, [116, 97, 98, 108, 101, 46, 103, 101, 116], 9⟩,
  ⟨38, [116, 97, 98, 108, 101, 46, 115, 101, 116], 9⟩,
  ⟨40, [105, 51, 50, 46, 108, 111, 97, 100], 17⟩,
  ⟨41, [105, 54, 52, 46, 108, 111, 97, 100], 17⟩,
  ⟨44, [105, 51, 50, 46, 108, 111, 97, 100, 56, 95, 115], 17⟩,
  ⟨45, [105, 51, 50, 46, 108, 111, 97, 100, 56, 95, 117], 17⟩,
  ⟨46, [105, 51, 50, 46, 108, 111, 97, 100, 49, 54, 95, 115], 17⟩,
  ⟨47, [105, 51, 50, 46, 108, 111, 97, 100, 49, 54, 95, 117], 17⟩,
  ⟨48, [105, 54, 52, 46, 108, 111, 97, 100, 56, 95, 115], 17⟩,
  ⟨49, [105, 54, 52, 46, 108, 111, 97, 100, 56, 95, 117], 17⟩,
  ⟨50, [105, 54, 52, 46, 108, 111, 97, 100, 49, 54, 95, 115], 17⟩,
  ⟨51, [105, 54, 52, 46, 108, 111, 97, 100, 49, 54, 95, 117], 17⟩,
  ⟨52, [105, 54, 52, 46, 108, 111, 97, 100, 51, 50, 95, 115], 17⟩,
  ⟨53, [105, 54, 52, 46, 108, 111, 97, 100, 51, 50, 95, 117], 17⟩,
  ⟨54, [105, 51, 50, 46, 115, 116, 111, 114, 101], 17⟩,
  ⟨55, [105, 54, 52, 46, 115, 116, 111, 114, 101], 17⟩,
  ⟨58, [105, 51, 50, 46, 115, 116, 111, 114, 101, 56], 17⟩,
  ⟨59, [105, 51, 50, 46, 115, 116, 111, 114, 101, 49, 54], 17⟩,
  ⟨60, [105, 54, 52, 46, 115, 116, 111, 114, 101, 56], 17⟩,
  ⟨61, [105, 54, 52, 46, 115, 116, 111, 114, 101, 49, 54], 17⟩,
  ⟨62, [105, 54, 52, 46, 115, 116, 111, 114, 101, 51, 50], 17⟩,
  ⟨63, [109, 101, 109, 111, 114, 121, 46, 115, 105, 122, 101], 13⟩,
  ⟨64, [109, 101, 109, 111, 114, 121, 46, 103, 114, 111, 119], 13⟩,
  ⟨65, [105, 51, 50, 46, 99, 111, 110, 115, 116], 18⟩,
  ⟨66, [105, 54, 52, 46, 99, 111, 110, 115, 116], 19⟩,
  ⟨69, [105, 51, 50, 46, 101, 113, 122], 0⟩,
  ⟨70, [105, 51, 50, 46, 101, 113], 0⟩,
  ⟨71, [105, 51, 50, 46, 110, 101], 0⟩,
  ⟨72, [105, 51, 50, 46, 108, 116, 95, 115], 0⟩,
  ⟨73, [105, 51, 50, 46, 108, 116, 95, 117], 0⟩,
  ⟨74, [105, 51, 50, 46, 103, 116, 95, 115], 0⟩,
  ⟨75, [105, 51, 50, 46, 103, 116, 95, 117], 0⟩,
  ⟨76, [105, 51, 50, 46, 108, 101, 95, 115], 0⟩,
  ⟨77, [105, 51, 50, 46, 108, 101, 95, 117], 0⟩,
  ⟨78, [105, 51, 50, 46, 103, 101, 95, 115], 0⟩,
  ⟨79, [105, 51, 50, 46, 103, 101, 95, 117], 0⟩,
  ⟨80, [105, 54, 52, 46, 101, 113, 122], 0⟩,
  ⟨81, [105, 54, 52, 46, 101, 113], 0⟩,
  ⟨82, [105, 54, 52, 46, 110, 101], 0⟩,
  ⟨83, [105, 54, 52, 46, 108, 116, 95, 115], 0⟩,
  ⟨84, [105, 54, 52, 46, 108, 116, 95, 117], 0⟩,
  ⟨85, [105, 54, 52, 46, 103, 116, 95, 115], 0⟩,
  ⟨86, [105, 54, 52, 46, 103, 116, 95, 117], 0⟩,
  ⟨87, [105, 54, 52, 46, 108, 101, 95, 115], 0⟩,
  ⟨88, [105, 54, 52, 46, 108, 101, 95, 117], 0⟩,
  ⟨89, [105, 54, 52, 46, 103, 101, 95, 115], 0⟩,
  ⟨90, [105, 54, 52, 46, 103, 101, 95, 117], 0⟩,
  ⟨103, [105, 51, 50, 46, 99, 108, 122], 0⟩,
  ⟨104, [105, 51, 50, 46, 99, 116, 122], 0⟩,
  ⟨105, [105, 51, 50, 46, 112, 111, 112, 99, 110, 116], 0⟩,
  ⟨106, [105, 51, 50, 46, 97, 100, 100], 0⟩,
  ⟨107, [105, 51, 50, 46, 115, 117, 98], 0⟩,
  ⟨108, [105, 51, 50, 46, 109, 117, 108], 0⟩,
  ⟨109, [105, 51, 50, 46, 100, 105, 118, 95, 115], 0⟩,
  ⟨110, [105, 51, 50, 46, 100, 105, 118, 95, 117], 0⟩,
  ⟨111, [105, 51, 50, 46, 114, 101, 109, 95, 115], 0⟩,
  ⟨112, [105, 51, 50, 46, 114, 101, 109, 95, 117], 0⟩,
  ⟨113, [105, 51, 50, 46, 97, 110, 100], 0⟩,
  ⟨114, [105, 51, 50, 46, 111, 114], 0⟩,
  ⟨115, [105, 51, 50, 46, 120, 111, 114], 0⟩,
  ⟨116, [105, 51, 50, 46, 115, 104, 108], 0⟩,
  ⟨117, [105, 51, 50, 46, 115, 104, 114, 95, 115], 0⟩,
  ⟨118, [105, 51, 50, 46, 115, 104, 114, 95, 117], 0⟩,
  ⟨119, [105, 51, 50, 46, 114, 111, 116, 108], 0⟩,
  ⟨120, [105, 51, 50, 46, 114, 111, 116, 114], 0⟩,
  ⟨121, [105, 54, 52, 46, 99, 108, 122], 0⟩,
  ⟨122, [105, 54, 52, 46, 99, 116, 122], 0⟩,
  ⟨123, [105, 54, 52, 46, 112, 111, 112, 99, 110, 116], 0⟩,
  ⟨124, [105, 54, 52, 46, 97, 100, 100], 0⟩,
  ⟨125, [105, 54, 52, 46, 115, 117, 98], 0⟩,
  ⟨126, [105, 54, 52, 46, 109, 117, 108], 0⟩,
  ⟨127, [105, 54, 52, 46, 100, 105, 118, 95, 115], 0⟩,
  ⟨128, [105, 54, 52, 46, 100, 105, 118, 95, 117], 0⟩,
  ⟨129, [105, 54, 52, 46, 114, 101, 109, 95, 115], 0⟩,
  ⟨130, [105, 54, 52, 46, 114, 101, 109, 95, 117], 0⟩,
  ⟨131, [105, 54, 52, 46, 97, 110, 100], 0⟩,
  ⟨132, [105, 54, 52, 46, 111, 114], 0⟩,
  ⟨133, [105, 54, 52, 46, 120, 111, 114], 0⟩,
  ⟨134, [105, 54, 52, 46, 115, 104, 108], 0⟩,
  ⟨135, [105, 54, 52, 46, 115, 104, 114, 95, 115], 0⟩,
  ⟨136, [105, 54, 52, 46, 115, 104, 114, 95, 117], 0⟩,
  ⟨137, [105, 54, 52, 46, 114, 111, 116, 108], 0⟩,
  ⟨138, [105, 54, 52, 46, 114, 111, 116, 114], 0⟩,
  ⟨167, [105, 51, 50, 46, 119, 114, 97, 112, 95, 105, 54, 52], 0⟩,
  ⟨172, [105, 54, 52, 46, 101, 120, 116, 101, 110, 100, 95, 105, 51, 50, 95, 115], 0⟩,
  ⟨173, [105, 54, 52, 46, 101, 120, 116, 101, 110, 100, 95, 105, 51, 50, 95, 117], 0⟩,
  ⟨192, [105, 51, 50, 46, 101, 120, 116, 101, 110, 100, 56, 95, 115], 0⟩,
  ⟨193, [105, 51, 50, 46, 101, 120, 116, 101, 110, 100, 49, 54, 95, 115], 0⟩,
  ⟨194, [105, 54, 52, 46, 101, 120, 116, 101, 110, 100, 56, 95, 115], 0⟩,
  ⟨195, [105, 54, 52, 46, 101, 120, 116, 101, 110, 100, 49, 54, 95, 115], 0⟩,
  ⟨196, [105, 54, 52, 46, 101, 120, 116, 101, 110, 100, 51, 50, 95, 115], 0⟩,
  ⟨208, [114, 101, 102, 46, 110, 117, 108, 108], 20⟩,
  ⟨209, [114, 101, 102, 46, 105, 115, 95, 110, 117, 108, 108], 0⟩,
  ⟨210, [114, 101, 102, 46, 102, 117, 110, 99], 4⟩,
  ⟨64520, [109, 101, 109, 111, 114, 121, 46, 105, 110, 105, 116], 15⟩,
  ⟨64521, [100, 97, 116, 97, 46, 100, 114, 111, 112], 16⟩,
  ⟨64522, [109, 101, 109, 111, 114, 121, 46, 99, 111, 112, 121], 14⟩,
  ⟨64523, [109, 101, 109, 111, 114, 121, 46, 102, 105, 108, 108], 13⟩,
  ⟨64524, [116, 97, 98, 108, 101, 46, 105, 110, 105, 116], 11⟩,
  ⟨64525, [101, 108, 101, 109, 46, 100, 114, 111, 112], 12⟩,
  ⟨64526, [116, 97, 98, 108, 101, 46, 99, 111, 112, 121], 10⟩,
  ⟨64527, [116, 97, 98, 108, 101, 46, 103, 114, 111, 119], 9⟩,
  ⟨64528, [116, 97, 98, 108, 101, 46, 115, 105, 122, 101], 9⟩,
  ⟨64529, [116, 97, 98, 108, 101, 46, 102, 105, 108, 108], 9⟩]
/-- The words of a text, between blanks. -/
def wdA : List UInt8 → List UInt8 → List (List UInt8)
  | [], w => if w = [] then [] else [w]
  | c :: r, w => if c = 32 then (if w = [] then wdA r [] else w :: wdA r []) else wdA r (w ++ [c])
def wds (s : List UInt8) : List (List UInt8) := wdA s []
def exR (f : Int) (h : List UInt8) : Nat → List (List UInt8) → List (Int × List UInt8)
  | _, [] => []
  | k, s :: r => (f + (k : Int), h ++ s) :: exR f h (k + 1) r
def EN : List (Int × List UInt8) := OC.map fun o => (o.op, o.nm)
theorem EN_HR : EN = HR.flatMap fun r => exR r.f r.h 0 (wds r.t) := by decide +kernel
end Go.Proofs.YtnhnghpnejobfaaDoor
set_option maxRecDepth 100000
set_option linter.unusedVariables false
set_option linter.unusedSimpArgs false
namespace Go.Proofs.YtnhnghpnejobfaaDoor
open Go Go.Mw Go.Shelf

def ren144 : Go.Shelf.Ren := ⟨fun | 144 => 55 | 143 => 64 | 219 => 73 | 217 => 75 | 225 => 76 | 224 => 77 | 267 => 78 | 266 => 81 | 314 => 82 | n => n, fun | 9 => 9 | 4 => 4 | 3 => 3 | 5 => 5 | 46 => 44 | 146 => 107 | 51 => 91 | n => n, fun | 1 => 2 | n => n⟩
theorem lays144 : Go.Proofs.Lays.n144 Tryd.prog ren144 := {
  mixed := by kernel_rfl
  f143 := Tryd.func64.trans (congrArg some (by kernel_rfl))
  f144 := Tryd.func55.trans (congrArg some (by kernel_rfl))
  f217 := Tryd.func75.trans (congrArg some (by kernel_rfl))
  f219 := Tryd.func73.trans (congrArg some (by kernel_rfl))
  f224 := Tryd.func77.trans (congrArg some (by kernel_rfl))
  f225 := Tryd.func76.trans (congrArg some (by kernel_rfl))
  f266 := Tryd.func81.trans (congrArg some (by kernel_rfl))
  f267 := Tryd.func78.trans (congrArg some (by kernel_rfl))
  f314 := Tryd.func82.trans (congrArg some (by kernel_rfl))
  t3 := Tryd.underlying3
  a3 := Tryd.isAgg3
  z3 := Tryd.sizeOf3
  v3 := Tryd.zeroValue3
  t4 := Tryd.underlying4
  a4 := Tryd.isAgg4
  z4 := Tryd.sizeOf4
  v4 := Tryd.zeroValue4
  t5 := Tryd.underlying5
  a5 := Tryd.isAgg5
  z5 := Tryd.sizeOf5
  v5 := Tryd.zeroValue5
  t9 := Tryd.underlying9
  a9 := Tryd.isAgg9
  z9 := Tryd.sizeOf9
  v9 := Tryd.zeroValue9
  t46 := Tryd.underlying44
  a46 := Tryd.isAgg44
  z46 := Tryd.sizeOf44
  v46 := Tryd.zeroValue44
  t51 := Tryd.underlying91
  a51 := Tryd.isAgg91
  z51 := Tryd.sizeOf91
  v51 := Tryd.zeroValue91
  t146 := Tryd.underlying107
  a146 := Tryd.isAgg107
  z146 := Tryd.sizeOf107
  v146 := Tryd.zeroValue107
  g1 := by kernel_rfl }
def ren157 : Go.Shelf.Ren := ⟨fun | 157 => 63 | 229 => 71 | 199 => 72 | 261 => 74 | 311 => 79 | 312 => 80 | n => n, fun | 9 => 9 | 31 => 72 | 3 => 3 | 5 => 5 | 4 => 4 | 119 => 85 | 0 => 0 | 40 => 87 | 152 => 88 | 21 => 21 | 154 => 90 | 51 => 91 | 141 => 93 | 196 => 99 | 193 => 96 | 198 => 102 | 49 => 100 | 194 => 97 | 201 => 105 | 226 => 109 | 46 => 44 | 227 => 110 | n => n, fun | 0 => 0 | 6 => 1 | n => n⟩
theorem lays157 : Go.Proofs.Lays.n157 Tryd.prog ren157 := {
  mixed := by kernel_rfl
  f157 := Tryd.func63.trans (congrArg some (by kernel_rfl))
  f199 := Tryd.func72.trans (congrArg some (by kernel_rfl))
  f229 := Tryd.func71.trans (congrArg some (by kernel_rfl))
  f261 := Tryd.func74.trans (congrArg some (by kernel_rfl))
  f311 := Tryd.func79.trans (congrArg some (by kernel_rfl))
  f312 := Tryd.func80.trans (congrArg some (by kernel_rfl))
  t0 := Tryd.underlying0
  a0 := Tryd.isAgg0
  z0 := Tryd.sizeOf0
  v0 := Tryd.zeroValue0
  t3 := Tryd.underlying3
  a3 := Tryd.isAgg3
  z3 := Tryd.sizeOf3
  v3 := Tryd.zeroValue3
  t4 := Tryd.underlying4
  a4 := Tryd.isAgg4
  z4 := Tryd.sizeOf4
  v4 := Tryd.zeroValue4
  t5 := Tryd.underlying5
  a5 := Tryd.isAgg5
  z5 := Tryd.sizeOf5
  v5 := Tryd.zeroValue5
  t9 := Tryd.underlying9
  a9 := Tryd.isAgg9
  z9 := Tryd.sizeOf9
  v9 := Tryd.zeroValue9
  t21 := Tryd.underlying21
  a21 := Tryd.isAgg21
  z21 := Tryd.sizeOf21
  v21 := Tryd.zeroValue21
  t31 := Tryd.underlying72
  a31 := Tryd.isAgg72
  z31 := Tryd.sizeOf72
  v31 := Tryd.zeroValue72
  t40 := Tryd.underlying87
  a40 := Tryd.isAgg87
  z40 := Tryd.sizeOf87
  v40 := Tryd.zeroValue87
  t46 := Tryd.underlying44
  a46 := Tryd.isAgg44
  z46 := Tryd.sizeOf44
  v46 := Tryd.zeroValue44
  t49 := Tryd.underlying100
  a49 := Tryd.isAgg100
  z49 := Tryd.sizeOf100
  v49 := Tryd.zeroValue100
  t51 := Tryd.underlying91
  a51 := Tryd.isAgg91
  z51 := Tryd.sizeOf91
  v51 := Tryd.zeroValue91
  t119 := Tryd.underlying85
  a119 := Tryd.isAgg85
  z119 := Tryd.sizeOf85
  t141 := Tryd.underlying93
  a141 := Tryd.isAgg93
  z141 := Tryd.sizeOf93
  v141 := Tryd.zeroValue93
  t152 := Tryd.underlying88
  a152 := Tryd.isAgg88
  z152 := Tryd.sizeOf88
  v152 := Tryd.zeroValue88
  t154 := Tryd.underlying90
  a154 := Tryd.isAgg90
  z154 := Tryd.sizeOf90
  v154 := Tryd.zeroValue90
  t193 := Tryd.underlying96
  a193 := Tryd.isAgg96
  z193 := Tryd.sizeOf96
  v193 := Tryd.zeroValue96
  t194 := Tryd.underlying97
  a194 := Tryd.isAgg97
  z194 := Tryd.sizeOf97
  v194 := Tryd.zeroValue97
  t196 := Tryd.underlying99
  a196 := Tryd.isAgg99
  z196 := Tryd.sizeOf99
  v196 := Tryd.zeroValue99
  t198 := Tryd.underlying102
  a198 := Tryd.isAgg102
  z198 := Tryd.sizeOf102
  v198 := Tryd.zeroValue102
  t201 := Tryd.underlying105
  a201 := Tryd.isAgg105
  z201 := Tryd.sizeOf105
  v201 := Tryd.zeroValue105
  t226 := Tryd.underlying109
  a226 := Tryd.isAgg109
  z226 := Tryd.sizeOf109
  v226 := Tryd.zeroValue109
  t227 := Tryd.underlying110
  a227 := Tryd.isAgg110
  z227 := Tryd.sizeOf110
  v227 := Tryd.zeroValue110
  g0 := by kernel_rfl
  g6 := by kernel_rfl }

/-- The tables: strings.asciiSpace (block 0); bytealg.MaxLen (block 2), some number. -/
def spT (c : Nat) : Value := .int .u8 (if Lib.isSp (UInt8.ofNat c) then 1 else 0)
theorem cell_block {w w' : World} {b off : Nat} {v : Value} (h : w'.heap[b]? = w.heap[b]?) (hc : w.cell? ⟨b, off, none⟩ = some v) : w'.cell? ⟨b, off, none⟩ = some v := by
  rw [World.cell?_of_block (w := w) h]; exact hc
theorem cell_lt {w : World} {b off : Nat} {v : Value} (h : w.cell? ⟨b, off, none⟩ = some v) : b < w.heap.size := by
  unfold World.cell? at h
  simp only at h
  split at h
  · rename_i c t fr hb; exact lt_of_heap hb
  · cases h
noncomputable def tabs : TabT where
  B b := b = 0 ∨ b = 2
  H w := (∀ c, c < 256 → w.cell? ⟨0, c, none⟩ = some (spT c)) ∧ ∃ m, w.cell? ⟨2, 0, none⟩ = some (.int .i64 m)
  env := []
  rel w M h hM p hp := by cases hp
  stay w w' h hk := ⟨fun c hc => cell_block (hk 0 (.inl rfl)) (h.1 c hc), by obtain ⟨m, hm⟩ := h.2; exact ⟨m, cell_block (hk 2 (.inr rfl)) hm⟩⟩
  low w h b hb := by
    rcases hb with rfl | rfl
    · exact cell_lt (h.1 0 (by decide))
    · obtain ⟨m, hm⟩ := h.2; exact cell_lt hm
noncomputable instance : Tabs Tryd.prog := ⟨tabs⟩
theorem s_contains (s sub : List UInt8) (hs : s.length < 4294967281) : PCalls Tryd.prog n_strings_Contains [.str s, .str sub] (.bool (Lib.contains s sub)) := by
  refine PCalls.of (fun w bl M cargs hH hM ha => ?_) rfl
  match cargs, ha with
  | [a, b], ⟨h1, h2, _⟩ =>
    obtain rfl := h1.str
    obtain rfl := h2.str
    obtain ⟨m, hm⟩ := hH.2
    refine (Any.strings_Contains lays144 ⟨s.toArray⟩ ⟨sub.toArray⟩ m w (by simpa [ByteArray.size] using hs) hm).mono ?_
    rintro e w' ⟨rfl, rfl⟩
    exact ⟨_, rfl, Stp.refl _ _, IRel.bool _⟩
/-- strings.Fields, of a text of ASCII letters. -/
theorem fields_run (s : List UInt8) (hs : s.length < 4294967281) (ha : ∀ b ∈ s, b.toNat < 128) (w : World) (hH : (Tabs.T Tryd.prog).H w) :
    Calls Tryd.prog n_strings_Fields #[.string ⟨s.toArray⟩] w fun e w' => e = .returned (.slice (some ⟨w.heap.size, 0, none⟩) (Lib.fields s).length (Lib.fields s).length) ∧ w' = w.alloc (.cells ((Lib.fields s).map fun l => Value.string ⟨l.toArray⟩).toArray 9) := by
  have h := Any.strings_Fields_core lays157 (by kernel_rfl) ⟨s.toArray⟩ w (by simpa [ByteArray.size] using hs) (fun j b hb => ha b (List.mem_of_getElem? (by simpa using hb))) (fun c hc => hH.1 c hc)
  exact h
/-! ### The program's rows -/
theorem s_rows5 : PCalls Tryd.prog n_opcode_rows [] (.sl 3 (HR.map hr_)) := by
  refine pfun_sound (ic := F_opcode_rows.body) mixed c_opcode_rows rfl rfl ?_
  simp only [go_sem, F_opcode_rows]
  exact pdone [25] (by rfl) rfl
theorem s_named5 : PCalls Tryd.prog n_opcode_named [] (.fn 61 []) := by
  refine pfun_sound (ic := F_opcode_named.body) mixed c_opcode_named rfl rfl ?_
  simp only [go_sem, F_opcode_named]
  exact pdone [] (by simp only [go_sem]) (by first | rfl | simp [go_sem, slv_ids])
end Go.Proofs.YtnhnghpnejobfaaDoor
set_option maxRecDepth 100000
set_option maxHeartbeats 4000000
set_option linter.unusedVariables false
set_option linter.unusedSimpArgs false
namespace Go.Proofs.YtnhnghpnejobfaaDoor
open Go Go.Mw Go.RowKit Go.Shelf
attribute [local go_sem] Oper.semAt_some

def encE (x : Int × List UInt8) : Array Value := #[.int .i64 x.1, .string ⟨x.2.toArray⟩]
theorem rows_cells {M : Nat → Prop} {w : World} {v : Value} (h : VRel (fun _ => none) M w v (.sl 3 (HR.map hr_))) : ∃ b off cap, v = .slice (some ⟨b, off, none⟩) 24 cap ∧ ¬ M b ∧ ∃ c t fr, w.heap[b]? = some (.cells c t fr) ∧
    ∀ i, i < 24 → c[off + i * 3]? = some (.int .i64 (nth HR i).f) ∧ c[off + i * 3 + 1]? = some (.string ⟨(nth HR i).h.toArray⟩) ∧ c[off + i * 3 + 2]? = some (.string ⟨(nth HR i).t.toArray⟩) := by
  have h1 : IRel M w v (.sl 3 (HR.map hr_)) := h
  have hlen : (HR.map hr_).length = 24 := by rfl
  generalize hr : HR.map hr_ = rows at h1 hlen
  cases h1 with
  | nls => simp at hlen
  | sl0 => simp at hlen
  | sl b off cap st c t fr rows vs hb hM hl hr1 hv hx =>
    refine ⟨b, off, cap, by rw [hlen], hM, c, t, fr, hb, fun i hi => ?_⟩
    have hrow : rows[i]? = some (hr_ (nth HR i)) := by
      rw [← hr, List.getElem?_map, nth_some (by rw [← hlen, ← hr] at hi; simpa using hi)]
      rfl
    have key : ∀ j x, (hr_ (nth HR i))[j]? = some x → j < 3 → ∃ u, c[off + i * 3 + j]? = some u ∧ IRel M w u x := fun j x hj hj3 => ⟨_, hv i j (by omega) hj3, hx i j _ _ hrow hj⟩
    obtain ⟨u0, a0, b0⟩ := key 0 (.int .i64 (nth HR i).f) rfl (by omega)
    obtain ⟨u1, a1, b1⟩ := key 1 (.str (nth HR i).h) rfl (by omega)
    obtain ⟨u2, a2, b2⟩ := key 2 (.str (nth HR i).t) rfl (by omega)
    cases b0; cases b1; cases b2
    exact ⟨a0, a1, a2⟩
def preK (k : Nat) : List (Int × List UInt8) := (HR.take k).flatMap fun r => exR r.f r.h 0 (Lib.fields r.t)
theorem HR_ok (k : Nat) (h : k < 24) : (nth HR k).t.length < 4294967281 ∧ ∀ b ∈ (nth HR k).t, b.toNat < 128 := by
  have : ∀ r ∈ HR, r.t.length < 4294967281 ∧ ∀ b ∈ r.t, b.toNat < 128 := by decide +kernel
  exact this _ (by rw [nth_eq (by exact h)]; exact List.getElem_mem _)
theorem HR_ok2 (k : Nat) (h : k < 24) : (nth HR k).h.length < 1000 ∧ 0 ≤ (nth HR k).f ∧ (nth HR k).f < 100000 ∧ (Lib.fields (nth HR k).t).length < 1000 ∧ ∀ s ∈ Lib.fields (nth HR k).t, s.length < 1000 := by
  have : ∀ r ∈ HR, r.h.length < 1000 ∧ 0 ≤ r.f ∧ r.f < 100000 ∧ (Lib.fields r.t).length < 1000 ∧ ∀ s ∈ Lib.fields r.t, s.length < 1000 := by decide +kernel
  exact this _ (by rw [nth_eq (by exact h)]; exact List.getElem_mem _)
theorem exR_len (f : Int) (h : List UInt8) : ∀ (l : List (List UInt8)) (k : Nat), (exR f h k l).length = l.length
  | [], _ => rfl
  | _ :: l, k => by simp [exR, exR_len f h l]
theorem exR_get (f : Int) (h : List UInt8) : ∀ (l : List (List UInt8)) (k j : Nat), j < l.length → (exR f h k l)[j]? = some (f + ((k + j : Nat) : Int), h ++ nth l j)
  | [], _, j, hj => by simp at hj
  | s :: l, k, 0, _ => rfl
  | s :: l, k, j + 1, hj => by
    have := exR_get f h l (k + 1) j (by simpa using hj)
    simp only [exR, List.getElem?_cons_succ]
    rw [this, show k + 1 + j = k + (j + 1) by omega]
    rfl
theorem exR_take {f : Int} {h : List UInt8} {l : List (List UInt8)} {j : Nat} (hj : j < l.length) : (exR f h 0 l).take (j + 1) = (exR f h 0 l).take j ++ [(f + (j : Int), h ++ nth l j)] := by
  rw [List.take_add_one, exR_get f h l 0 j hj, Option.toList_some, Nat.zero_add]
theorem preK_step {k : Nat} (h : k < 24) : preK (k + 1) = preK k ++ exR (nth HR k).f (nth HR k).h 0 (Lib.fields (nth HR k).t) := by
  unfold preK
  rw [List.take_add_one, nth_some (show k < HR.length from h), Option.toList_some, List.flatMap_append, List.flatMap_singleton]
theorem preK_pre {k : Nat} (h : k ≤ 24) : preK k <+: preK 24 := by
  have e : HR.take 24 = HR.take k ++ (HR.take 24).drop k := by
    rw [show HR.take k = (HR.take 24).take k by rw [List.take_take, Nat.min_eq_left h]]; exact (List.take_append_drop k _).symm
  unfold preK
  rw [e, List.flatMap_append]
  exact List.prefix_append _ _
theorem preK_all : preK 24 = HR.flatMap fun r => exR r.f r.h 0 (wds r.t) := by decide +kernel
theorem named1 (n : Nat) (w : World) : SeqM n Tryd.prog 61 #[] encE EN w := by
  intro l J Jx W hH hW hJ hJx hY h0
  refine callsIn_of_wp Tryd.func61 rfl trivial ?_ rfl
  have hE : preK 24 = EN := by rw [EN_HR]; exact preK_all
  have cr := PCalls.run s_rows5 W hH (cargs := []) trivial
  simp only [Tryd.ntmps61, List.size_toArray, List.length_cons, List.length_nil, Nat.reduceAdd, Nat.reduceSub, Array.replicate_succ, Array.replicate_zero, List.push_toArray, List.append_toArray, List.nil_append, List.cons_append]
  gi_wp2
  refine ⟨trivial, fun h => (by cases h), (callsIn_wide.2 cr).mono ?_⟩
  rintro e W1 ⟨v, rfl, hv, hst⟩
  obtain ⟨b, off, cap, rfl, hnb, c, t, fr, hb, hc⟩ := rows_cells hv
  gi_wp2
  gi_loopw [8] (fun i wr => ∃ k : Nat, k ≤ 24 ∧ i = .int .i64 k ∧ J (preK k) wr ∧ W.heap.size ≤ wr.heap.size ∧ wr.heap[b]? = some (.cells c t fr) ∧ (Tabs.T Tryd.prog).H wr) (fun i _ => 24 - (intOf i).toNat)
  case atStart => exact ⟨0, by omega, rfl, hJ _ _ _ h0 hst, hst.size, hb, (Tabs.T Tryd.prog).stay _ _ hH fun q hq => hst.keep q ((Tabs.T Tryd.prog).low _ hH q hq) (fun h => h)⟩
  case round =>
    obtain ⟨k, hk, rfl, hJk, hsz, hbk, hHk⟩ := hrel
    rename World => wo
    by_cases hlt : k < 24
    · have c0 : wo.cell? ⟨b, off + k * 3, none⟩ = some (.int .i64 (nth HR k).f) := (cell_of hbk _).trans (hc k hlt).1
      have c1 : wo.cell? ⟨b, off + k * 3 + 1, none⟩ = some (.string ⟨(nth HR k).h.toArray⟩) := (cell_of hbk _).trans (hc k hlt).2.1
      have c2 : wo.cell? ⟨b, off + k * 3 + 2, none⟩ = some (.string ⟨(nth HR k).t.toArray⟩) := (cell_of hbk _).trans (hc k hlt).2.2
      have hsA := Stp.ofAlloc wo (.cells #[.int .i64 (nth HR k).f, .string ⟨(nth HR k).h.toArray⟩, .string ⟨(nth HR k).t.toArray⟩] 80)
      have hHA := (Tabs.T Tryd.prog).stay _ _ hHk fun q hq => hsA.keep q ((Tabs.T Tryd.prog).low _ hHk q hq) (fun h => h)
      obtain ⟨hl, ha⟩ := HR_ok k hlt
      obtain ⟨hh, hf0, hf1, hfl, hfs⟩ := HR_ok2 k hlt
      have cf := fields_run (nth HR k).t hl ha _ hHA
      generalize hF : Lib.fields (nth HR k).t = fl at cf hfl hfs
      gi_wp2
      refine ⟨trivial, fun h => (by cases h), (callsIn_wide.2 cf).mono ?_⟩
      rintro e W2 ⟨rfl, rfl⟩
      gi_wp2
      gi_loopw [16] (fun i wr2 => ∃ j : Nat, j ≤ fl.length ∧ i = .int .i64 j ∧ J (preK k ++ (exR (nth HR k).f (nth HR k).h 0 fl).take j) wr2 ∧ W.heap.size ≤ wr2.heap.size ∧ wr2.heap[b]? = some (.cells c t fr) ∧
          wr2.heap[wo.heap.size]? = some (.cells #[.int .i64 (nth HR k).f, .string ⟨(nth HR k).h.toArray⟩, .string ⟨(nth HR k).t.toArray⟩] 80) ∧ wr2.heap[wo.heap.size + 1]? = some (.cells (fl.map fun l => Value.string ⟨l.toArray⟩).toArray 9) ∧ (Tabs.T Tryd.prog).H wr2) (fun i _ => fl.length - (intOf i).toNat)
      case atStart =>
        have hsF := hsA.one (Stp.ofAlloc _ (.cells (fl.map fun l => Value.string ⟨l.toArray⟩).toArray 9))
        refine ⟨0, Nat.zero_le _, rfl, ?_, by simp; omega, ?_, ?_, ?_, ?_⟩
        · rw [List.take_zero, List.append_nil]; exact hJ _ _ _ hJk hsF
        · rw [hsF.keep b (lt_of_heap hbk) (fun h => h)]; exact hbk
        · exact (Below.heap_alloc _ _ _ (by simp)).trans (World.alloc_heap_new _ _)
        · have := World.alloc_heap_new (wo.alloc (.cells #[.int .i64 (nth HR k).f, .string ⟨(nth HR k).h.toArray⟩, .string ⟨(nth HR k).t.toArray⟩] 80)) (.cells (fl.map fun l => Value.string ⟨l.toArray⟩).toArray 9)
          rwa [World.size_alloc] at this
        · exact (Tabs.T Tryd.prog).stay _ _ hHk fun q hq => hsF.keep q ((Tabs.T Tryd.prog).low _ hHk q hq) (fun h => h)
      case round =>
        obtain ⟨j, hj, rfl, hJj, hsz2, hb2, hx2, hs2, hH2⟩ := hrel
        by_cases hlt2 : j < fl.length
        · have d0 : wr.cell? ⟨wo.heap.size, 0, none⟩ = some (.int .i64 (nth HR k).f) := cell_of hx2 _
          have d1 : wr.cell? ⟨wo.heap.size, 1, none⟩ = some (.string ⟨(nth HR k).h.toArray⟩) := cell_of hx2 _
          have d3 : wr.cell? ⟨wo.heap.size + 1, j, none⟩ = some (.string ⟨(nth fl j).toArray⟩) := (cell_of hs2 _).trans (by rw [List.getElem?_toArray, List.getElem?_map, nth_some hlt2]; rfl)
          have hss := hfs (nth fl j) (by rw [nth_eq hlt2]; exact List.getElem_mem _)
          have hcat : ¬ 9223372036854775807 < (nth HR k).h.length + (nth fl j).length := by omega
          have hpre : (preK k ++ (exR (nth HR k).f (nth HR k).h 0 fl).take j) ++ [((nth HR k).f + (j : Int), (nth HR k).h ++ nth fl j)] <+: EN := by
            rw [List.append_assoc, ← exR_take hlt2, ← hE, ← hF]
            refine List.IsPrefix.trans ?_ (preK_pre (show k + 1 ≤ 24 by omega))
            rw [preK_step hlt]
            exact (List.prefix_append_right_inj _).2 (List.take_prefix _ _)
          obtain ⟨fn, tmps, assign, body, hy, hR⟩ := hY _ _ wr hJj hpre
          have hw : wrap64 ((nth HR k).f + (j : Int)) = (nth HR k).f + (j : Int) := IntWalk.wrap64_in _ (by omega)
          have hc2 : (ByteArray.mk (nth HR k).h.toArray ++ ByteArray.mk (nth fl j).toArray) = ByteArray.mk ((nth HR k).h ++ nth fl j).toArray := by apply ByteArray.ext; simp
          have hy2 : (Instr.yield l #[.int .i64 ((nth HR k).f + (j : Int)), .string (ByteArray.mk ((nth HR k).h ++ nth fl j).toArray)]).run Tryd.prog wr = .ok (.round l fn tmps assign body) wr := hy
          gi_wp2
          refine ⟨fun h => (by cases h), hR.mono ?_⟩
          rintro e W3 (⟨rfl, hJ3, hk3⟩ | ⟨rfl, hJx3⟩)
          · gi_wp2
            go_roundw
            case rel =>
              refine ⟨j + 1, by omega, by simp, ?_, Nat.le_trans hsz2 hk3.1, ?_, hk3.2.1 _ _ _ _ hsz hx2, hk3.2.1 _ _ _ _ (by omega) hs2, (Tabs.T Tryd.prog).stay _ _ hH2 fun q hq => hk3.2.2 q hq⟩
              · rw [exR_take hlt2, ← List.append_assoc]; exact hJ3
              · by_cases hbw : W.heap.size ≤ b
                · exact hk3.2.1 _ _ _ _ hbw hb2
                · rw [hk3.2.2 b (Classical.byContradiction fun hn => hnb ⟨by omega, hn⟩)]; exact hb2
            case measure => simp [intOf]; omega
          · gi_wp2
            refine bodyPost_ret (results_none rfl _ _ _) rfl ?_
            exact ⟨⟨_, rfl⟩, .inr ⟨_, hpre, hJx3⟩⟩
        · obtain rfl : j = fl.length := by omega
          gi_wp2
          refine ⟨⟨k + 1, by omega, by simp, ?_, hsz2, hb2, hH2⟩, by simp [intOf]; omega⟩
          rw [preK_step hlt, hF]
          rw [List.take_of_length_le (by rw [exR_len]; exact Nat.le_refl _)] at hJj
          exact hJj
    · obtain rfl : k = 24 := by omega
      gi_wp2
      go_end0
      exact ⟨⟨_, rfl⟩, .inl (hE ▸ hJk)⟩
end Go.Proofs.YtnhnghpnejobfaaDoor
set_option maxRecDepth 100000
set_option maxHeartbeats 4000000
set_option linter.unusedVariables false
set_option linter.unusedSimpArgs false
namespace Go.Proofs.YtnhnghpnejobfaaDoor
open Go Go.Mw Go.RowKit Go.Shelf
attribute [local go_sem] Oper.semAt_some

/-- The name of an opcode; empty where there is none. -/
def nameOf (op : Int) : List UInt8 := match EN.find? (fun p => p.1 == op) with
  | some p => p.2
  | none => []
def findOf (s : List UInt8) : Int × Bool := match EN.find? (fun p => p.2 == s) with
  | some p => (p.1, true)
  | none => (0, false)
theorem find_pre {α : Type} {f : α → Bool} {l pre : List α} {x : α} (h : pre ++ [x] <+: l) (hn : ∀ p ∈ pre, f p = false) (hx : f x = true) : l.find? f = some x := by
  obtain ⟨r, rfl⟩ := h
  rw [List.append_assoc, List.find?_append, List.find?_eq_none.2 (fun p hp => by rw [hn p hp]; decide)]
  simp [hx]
theorem stp_putObj {w W : World} {l : Nat} {o o' : Obj} (h : Stp No w W) (hl : w.heap.size ≤ l) (hc : W.heap[l]? = some o) (ho : o.isCells = false) : Stp No w (W.putObj l o') where
  size := Nat.le_trans h.size (grownBy_putObj' W l o').size
  keep b hb _ := by rw [World.putObj_heap_other (by omega)]; exact h.keep b hb (fun h => h)
  shape b c t fr hb := by
    obtain ⟨c', fr', h1, h2⟩ := h.shape b c t fr hb
    exact ⟨c', fr', by rw [World.putObj_heap_other (by have := lt_of_heap hb; omega)]; exact h1, h2⟩
  os := (grownBy_putObj' W l o').os.trans h.os
  out := (grownBy_putObj' W l o').output.trans h.out
theorem stp_setCell {w W : World} {a : Addr} {v : Value} (h : Stp No w W) (hl : w.heap.size ≤ a.block) : Stp No w (W.setCell a v) where
  size := by simpa [World.setCell] using h.size
  keep b hb _ := by
    have : b ≠ a.block := by omega
    simp only [World.setCell, Array.getElem?_modify, if_neg (Ne.symm this)]
    exact h.keep b hb (fun h => h)
  shape b c t fr hb := by
    obtain ⟨c', fr', h1, h2⟩ := h.shape b c t fr hb
    have : b ≠ a.block := by have := lt_of_heap hb; omega
    exact ⟨c', fr', by simp only [World.setCell, Array.getElem?_modify, if_neg (Ne.symm this)]; exact h1, h2⟩
  os := h.os
  out := h.out
theorem fn_val {bl : Nat → Option Nat} {M : Nat → Prop} {w : World} {v : Value} {f : FuncId} (h : VRel bl M w v (.fn f [])) : v = .func (.func f) #[] #[] := by
  obtain ⟨cs, rfl, h⟩ := h
  cases cs with
  | nil => rfl
  | cons => exact h.elim
theorem results_cell1 {fn : Func} {t : Tmp} {ty : TypeId} (h : fn.results = #[.cell t ty]) (tmps : Array Value) (P : Program) (w : World) {b : Nat} {v : Value} (ha : tmps.getD t undef = .pointer (some ⟨b, 0, none⟩)) (hagg : (isAgg ty).run P w = .ok false w)
    (hc : w.cell? ⟨b, 0, none⟩ = some v) : (results fn tmps).run P w = .ok v w := by
  simp only [Array.getD_eq_getD_getElem?] at ha
  have hc' : w.cell? { block := b, off := 0 } = some v := hc
  simp [results, h, ha, asAddr, loadVar, hagg, hc']
theorem s_name5 (op : Int) : PCalls Tryd.prog 19 [.int .i64 op] (.str (nameOf op)) := by
  refine PCalls.of (fun w bl M cargs hH hM ha => ?_) rfl
  match cargs, ha with
  | [a], ⟨h1, _⟩ =>
  obtain rfl := h1.int
  refine (callsIn_wide (n := 3)).1 ?_
  refine callsIn_of_wp_marks Tryd.func19 rfl trivial ?_ rfl
  have hs1 := (Stp.ofAlloc w (.cells #[.int .i64 op] 22)).one (Stp.ofAlloc _ (.cells #[.string ⟨#[]⟩] 9))
  have hH1 := (Tabs.T Tryd.prog).stay _ _ hH fun q hq => hs1.keep q ((Tabs.T Tryd.prog).low _ hH q hq) (fun h => h)
  have cn := PCalls.run s_named5 _ hH1 (cargs := []) trivial
  simp only [Tryd.ntmps19, List.size_toArray, List.length_cons, List.length_nil, Nat.reduceAdd, Nat.reduceSub, Array.replicate_succ, Array.replicate_zero, List.push_toArray, List.append_toArray, List.nil_append, List.cons_append]
  gi_wp2
  refine ⟨trivial, (callsIn_wide.2 cn).mono ?_⟩
  rintro e W1 ⟨v, rfl, hv, hst⟩
  obtain rfl := fn_val hv
  have hsW := hs1.one hst
  have hHW := (Tabs.T Tryd.prog).stay _ _ hH fun q hq => hsW.keep q ((Tabs.T Tryd.prog).low _ hH q hq) (fun h => h)
  have hb0 : W1.heap[w.heap.size]? = some (.cells #[.int .i64 op] 22) := by
    rw [hst.keep _ (by simp <;> omega) (fun h => h)]; exact (Below.heap_alloc _ _ _ (by simp)).trans (World.alloc_heap_new _ _)
  have hb1 : W1.heap[w.heap.size + 1]? = some (.cells #[.string ⟨#[]⟩] 9) := by
    rw [hst.keep _ (by simp) (fun h => h)]
    have := World.alloc_heap_new (w.alloc (.cells #[.int .i64 op] 22)) (.cells #[.string ⟨#[]⟩] 9)
    rwa [World.size_alloc] at this
  have hz : w.heap.size + 2 ≤ W1.heap.size := by have := hst.size; simpa using this
  clear cn hst hs1 hH1 hv
  gi_wp2
  refine wpIn_rngM (α := Int × List UInt8) (encs := encE) (E := EN) (by decide) hHW (gf := 61) (lb := #[]) rfl (enters_of Tryd.func61 (by kernel_rfl) rfl) (named1 _ W1) (Stp.refl _ _) (fun _ => rfl)
    (fun pre W => Stp No w W ∧ W.heap[w.heap.size]? = some (.cells #[.int .i64 op] 22) ∧ W.heap[w.heap.size + 1]? = some (.cells #[.string ⟨#[]⟩] 9) ∧ ∀ p ∈ pre, (p.1 == op) = false)
    (fun c pre W => c = .ret ∧ Stp No w W ∧ W.heap[w.heap.size + 1]? = some (.cells #[.string ⟨(nameOf op).toArray⟩] 9))
    (fun s A B h hs => ⟨h.1.one hs, (hs.keep _ (lt_of_heap h.2.1) (fun h => h)).trans h.2.1, (hs.keep _ (lt_of_heap h.2.2.1) (fun h => h)).trans h.2.2.1, h.2.2.2⟩)
    (fun c s A B h hs => ⟨h.1, h.2.1.one hs, (hs.keep _ (lt_of_heap h.2.2) (fun h => h)).trans h.2.2⟩)
    (fun s W l o o' h hl hc ho => ⟨stp_putObj h.1 (by omega) hc ho, by rw [World.putObj_heap_other (by omega)]; exact h.2.1, by rw [World.putObj_heap_other (by omega)]; exact h.2.2.1, h.2.2.2⟩)
    (fun c s W l o o' h hl hc ho => ⟨h.1, stp_putObj h.2.1 (by omega) hc ho, by rw [World.putObj_heap_other (by omega)]; exact h.2.2⟩)
    ⟨hsW, hb0, hb1, fun p hp => absurd hp List.not_mem_nil⟩
    (fun x => { tmps := #[.int .i64 op, .pointer (some ⟨w.heap.size, 0, none⟩), .pointer (some ⟨w.heap.size + 1, 0, none⟩), .int .i64 x.1, .string ⟨x.2.toArray⟩, .func (.func 61) #[] #[], .int .i64 x.1, .string ⟨x.2.toArray⟩, undef, undef, undef, undef], defers := [] }) ?assign ?body ?done ?stop
  case assign =>
    intro l x W K hK
    simp only [encE]
    gi_wp2
    exact hK
  case body =>
    rintro l pre x W ⟨hS, hB0, hB1, hP⟩ hpre
    have d0 : W.cell? ⟨w.heap.size, 0, none⟩ = some (.int .i64 op) := cell_of hB0 _
    have d1 : W.cell? ⟨w.heap.size + 1, 0, none⟩ = some (.string ⟨#[]⟩) := cell_of hB1 _
    have f1 : W.frozen? ⟨w.heap.size + 1, 0, none⟩ = false := by simp [World.frozen?, hB1]
    by_cases hx : x.1 = op
    · have hn : nameOf op = x.2 := by
        unfold nameOf
        rw [find_pre hpre hP (by simpa using hx)]
      gi_wp2
      refine ⟨KeepsOthers.setCell _ _ _, rfl, stp_setCell hS (by simp), ?_⟩
      rw [hn]
      simp [World.setCell, Array.getElem?_modify, hB1]
    · gi_wp2
      refine ⟨⟨Nat.le_refl _, fun _ _ h _ => h⟩, KpM.refl _ _, hS, hB0, hB1, fun p hp => ?_⟩
      rcases List.mem_append.1 hp with hp | hp
      · exact hP p hp
      · rw [List.mem_singleton.1 hp]; simpa using hx
  case done =>
    rintro D W hD ⟨hS, hB0, hB1, hP⟩ hK
    have d1 : W.cell? ⟨w.heap.size + 1, 0, none⟩ = some (.string ⟨#[]⟩) := cell_of hB1 _
    have f1 : W.frozen? ⟨w.heap.size + 1, 0, none⟩ = false := by simp [World.frozen?, hB1]
    have hn : nameOf op = [] := by
      unfold nameOf
      rw [List.find?_eq_none.2 (fun p hp => by rw [hP p hp]; decide)]
    gi_wp2
    have hD2 : (W.setCell ⟨w.heap.size + 1, 0, none⟩ (.string ⟨#[]⟩)).heap[D]? = some (.deferred (some [])) := by
      simp only [World.setCell, Array.getElem?_modify, if_neg (show ¬ w.heap.size + 1 = D by omega)]; exact hK
    have hB3 : (W.setCell ⟨w.heap.size + 1, 0, none⟩ (.string ⟨#[]⟩)).heap[w.heap.size + 1]? = some (.cells #[.string ⟨#[]⟩] 9) := by
      simp [World.setCell, Array.getElem?_modify, hB1]
    have hS2 := stp_putObj (stp_setCell hS (a := ⟨w.heap.size + 1, 0, none⟩) (v := .string ⟨#[]⟩) (by simp)) (by omega) hD2 rfl (o' := .deferred none)
    refine ⟨by simp, .inl ⟨_, _, rfl, run_takeDeferred hD2, ?_⟩⟩
    have hB4 : ((W.setCell ⟨w.heap.size + 1, 0, none⟩ (.string ⟨#[]⟩)).putObj D (.deferred none)).heap[w.heap.size + 1]? = some (.cells #[.string ⟨#[]⟩] 9) := by rw [World.putObj_heap_other (by omega)]; exact hB3
    refine ⟨_, results_cell1 rfl _ _ _ rfl (Tryd.isAgg9 _) (cell_of hB4 _), _, rfl, hS2, ?_⟩
    rw [hn]
    exact IRel.str _
  case stop =>
    rintro D c pre W hD hp ⟨rfl, hS, hB1⟩ hK
    gi_wp2
    have hS2 := stp_putObj hS (by omega) hK rfl (o' := .deferred none)
    refine ⟨by simp, .inl ⟨_, _, rfl, run_takeDeferred hK, ?_⟩⟩
    have hB4 : (W.putObj D (.deferred none)).heap[w.heap.size + 1]? = some (.cells #[.string ⟨(nameOf op).toArray⟩] 9) := by rw [World.putObj_heap_other (by omega)]; exact hB1
    exact ⟨_, results_cell1 rfl _ _ _ rfl (Tryd.isAgg9 _) (cell_of hB4 _), _, rfl, hS2, IRel.str _⟩
theorem heap_set {W : World} {b off : Nat} {c : Array Value} {t : TypeId} {fr : Nat × Nat} {v : Value} (h : W.heap[b]? = some (.cells c t fr)) : (W.setCell ⟨b, off, none⟩ v).heap[b]? = some (.cells (c.setIfInBounds off v) t fr) := by
  simp [World.setCell, Array.getElem?_modify, h]
theorem heap_set_ne {W : World} {b b' off : Nat} {v : Value} (h : b ≠ b') : (W.setCell ⟨b, off, none⟩ v).heap[b']? = W.heap[b']? := by
  simp [World.setCell, Array.getElem?_modify, h]
theorem results_cell2 {fn : Func} {t t2 : Tmp} {ty ty2 : TypeId} (h : fn.results = #[.cell t ty, .cell t2 ty2]) (tmps : Array Value) (P : Program) (w : World) {b b2 : Nat} {v v2 : Value} (ha : tmps.getD t undef = .pointer (some ⟨b, 0, none⟩)) (hagg : (isAgg ty).run P w = .ok false w)
    (hc : w.cell? ⟨b, 0, none⟩ = some v) (ha2 : tmps.getD t2 undef = .pointer (some ⟨b2, 0, none⟩)) (hagg2 : (isAgg ty2).run P w = .ok false w) (hc2 : w.cell? ⟨b2, 0, none⟩ = some v2) : (results fn tmps).run P w = .ok (.tuple #[v, v2]) w := by
  simp only [Array.getD_eq_getD_getElem?] at ha ha2
  have hc' : w.cell? { block := b, off := 0 } = some v := hc
  have hc2' : w.cell? { block := b2, off := 0 } = some v2 := hc2
  simp [results, h, ha, asAddr, loadVar, hagg, hc', ha2, hagg2, hc2']
theorem s_find5 (s : List UInt8) : PCalls Tryd.prog 30 [.str s] (.tup [.int .i64 (findOf s).1, .bool (findOf s).2]) := by
  refine PCalls.of (fun w bl M cargs hH hM ha => ?_) rfl
  match cargs, ha with
  | [a], ⟨h1, _⟩ =>
  obtain rfl := h1.str
  refine (callsIn_wide (n := 3)).1 ?_
  refine callsIn_of_wp_marks Tryd.func30 rfl trivial ?_ rfl
  have hs1 := ((Stp.ofAlloc w (.cells #[.string ⟨s.toArray⟩] 9)).one (Stp.ofAlloc _ (.cells #[.int .i64 0] 22))).one (Stp.ofAlloc _ (.cells #[.bool false] 4))
  have hH1 := (Tabs.T Tryd.prog).stay _ _ hH fun q hq => hs1.keep q ((Tabs.T Tryd.prog).low _ hH q hq) (fun h => h)
  have cn := PCalls.run s_named5 _ hH1 (cargs := []) trivial
  simp only [Tryd.ntmps30, List.size_toArray, List.length_cons, List.length_nil, Nat.reduceAdd, Nat.reduceSub, Array.replicate_succ, Array.replicate_zero, List.push_toArray, List.append_toArray, List.nil_append, List.cons_append]
  gi_wp2
  refine ⟨trivial, (callsIn_wide.2 cn).mono ?_⟩
  rintro e W1 ⟨v, rfl, hv, hst⟩
  obtain rfl := fn_val hv
  have hsW := hs1.one hst
  have hHW := (Tabs.T Tryd.prog).stay _ _ hH fun q hq => hsW.keep q ((Tabs.T Tryd.prog).low _ hH q hq) (fun h => h)
  have hb0 : W1.heap[w.heap.size]? = some (.cells #[.string ⟨s.toArray⟩] 9) := by
    rw [hst.keep _ (by simp <;> omega) (fun h => h)]; exact (Below.heap_alloc _ _ _ (by simp <;> omega)).trans ((Below.heap_alloc _ _ _ (by simp)).trans (World.alloc_heap_new _ _))
  have hb1 : W1.heap[w.heap.size + 1]? = some (.cells #[.int .i64 0] 22) := by
    rw [hst.keep _ (by simp <;> omega) (fun h => h)]
    have := World.alloc_heap_new (w.alloc (.cells #[.string ⟨s.toArray⟩] 9)) (.cells #[.int .i64 0] 22)
    rw [World.size_alloc] at this
    exact (Below.heap_alloc _ _ _ (by simp)).trans this
  have hb2 : W1.heap[w.heap.size + 1 + 1]? = some (.cells #[.bool false] 4) := by
    rw [hst.keep _ (by simp) (fun h => h)]
    have := World.alloc_heap_new ((w.alloc (.cells #[.string ⟨s.toArray⟩] 9)).alloc (.cells #[.int .i64 0] 22)) (.cells #[.bool false] 4)
    rwa [World.size_alloc, World.size_alloc] at this
  have hz : w.heap.size + 3 ≤ W1.heap.size := by have := hst.size; simpa using this
  clear cn hst hs1 hH1 hv
  gi_wp2
  refine wpIn_rngM (α := Int × List UInt8) (encs := encE) (E := EN) (by decide) hHW (gf := 61) (lb := #[]) rfl (enters_of Tryd.func61 (by kernel_rfl) rfl) (named1 _ W1) (Stp.refl _ _) (fun _ => rfl)
    (fun pre W => Stp No w W ∧ W.heap[w.heap.size]? = some (.cells #[.string ⟨s.toArray⟩] 9) ∧ W.heap[w.heap.size + 1]? = some (.cells #[.int .i64 0] 22) ∧ W.heap[w.heap.size + 1 + 1]? = some (.cells #[.bool false] 4) ∧ ∀ p ∈ pre, (p.2 == s) = false)
    (fun c pre W => c = .ret ∧ Stp No w W ∧ W.heap[w.heap.size + 1]? = some (.cells #[.int .i64 (findOf s).1] 22) ∧ W.heap[w.heap.size + 1 + 1]? = some (.cells #[.bool (findOf s).2] 4))
    (fun s A B h hs => ⟨h.1.one hs, (hs.keep _ (lt_of_heap h.2.1) (fun h => h)).trans h.2.1, (hs.keep _ (lt_of_heap h.2.2.1) (fun h => h)).trans h.2.2.1, (hs.keep _ (lt_of_heap h.2.2.2.1) (fun h => h)).trans h.2.2.2.1, h.2.2.2.2⟩)
    (fun c s A B h hs => ⟨h.1, h.2.1.one hs, (hs.keep _ (lt_of_heap h.2.2.1) (fun h => h)).trans h.2.2.1, (hs.keep _ (lt_of_heap h.2.2.2) (fun h => h)).trans h.2.2.2⟩)
    (fun s W l o o' h hl hc ho => ⟨stp_putObj h.1 (by omega) hc ho, by rw [World.putObj_heap_other (by omega)]; exact h.2.1, by rw [World.putObj_heap_other (by omega)]; exact h.2.2.1, by rw [World.putObj_heap_other (by omega)]; exact h.2.2.2.1, h.2.2.2.2⟩)
    (fun c s W l o o' h hl hc ho => ⟨h.1, stp_putObj h.2.1 (by omega) hc ho, by rw [World.putObj_heap_other (by omega)]; exact h.2.2.1, by rw [World.putObj_heap_other (by omega)]; exact h.2.2.2⟩)
    ⟨hsW, hb0, hb1, hb2, fun p hp => absurd hp List.not_mem_nil⟩
    (fun x => { tmps := #[.string ⟨s.toArray⟩, .pointer (some ⟨w.heap.size, 0, none⟩), .pointer (some ⟨w.heap.size + 1, 0, none⟩), .pointer (some ⟨w.heap.size + 1 + 1, 0, none⟩), .int .i64 x.1, .string ⟨x.2.toArray⟩, .func (.func 61) #[] #[], .int .i64 x.1, .string ⟨x.2.toArray⟩, undef, undef, undef, undef], defers := [] }) ?assign ?body ?done ?stop
  case assign =>
    intro l x W K hK
    simp only [encE]
    gi_wp2
    exact hK
  case body =>
    rintro l pre x W ⟨hS, hB0, hB1, hB2, hP⟩ hpre
    have d0 : W.cell? ⟨w.heap.size, 0, none⟩ = some (.string ⟨s.toArray⟩) := cell_of hB0 _
    have d1 : W.cell? ⟨w.heap.size + 1, 0, none⟩ = some (.int .i64 0) := cell_of hB1 _
    have f1 : W.frozen? ⟨w.heap.size + 1, 0, none⟩ = false := by simp [World.frozen?, hB1]
    have d2 : W.cell? ⟨w.heap.size + 1 + 1, 0, none⟩ = some (.bool false) := cell_of hB2 _
    have f2 : W.frozen? ⟨w.heap.size + 1 + 1, 0, none⟩ = false := by simp [World.frozen?, hB2]
    by_cases hx : x.2 = s
    · have hn : findOf s = (x.1, true) := by
        unfold findOf
        rw [find_pre hpre hP (by simpa using hx)]
      gi_wp2
      refine ⟨(KeepsOthers.setCell _ _ _).trans (KeepsOthers.setCell _ _ _), rfl, stp_setCell (stp_setCell hS (by simp)) (by simp; omega), ?_, ?_⟩
      · rw [hn, heap_set_ne (by omega), heap_set hB1]; rfl
      · rw [hn, heap_set (by rw [heap_set_ne (by omega)]; exact hB2)]; rfl
    · have hx2 : (x.2 == s) = false := by simpa using hx
      gi_wp2
      refine ⟨⟨Nat.le_refl _, fun _ _ h _ => h⟩, KpM.refl _ _, hS, hB0, hB1, hB2, fun p hp => ?_⟩
      rcases List.mem_append.1 hp with hp | hp
      · exact hP p hp
      · rw [List.mem_singleton.1 hp]; exact hx2
  case done =>
    rintro D W hD ⟨hS, hB0, hB1, hB2, hP⟩ hK
    have d1 : W.cell? ⟨w.heap.size + 1, 0, none⟩ = some (.int .i64 0) := cell_of hB1 _
    have f1 : W.frozen? ⟨w.heap.size + 1, 0, none⟩ = false := by simp [World.frozen?, hB1]
    have d2 : W.cell? ⟨w.heap.size + 1 + 1, 0, none⟩ = some (.bool false) := cell_of hB2 _
    have f2 : W.frozen? ⟨w.heap.size + 1 + 1, 0, none⟩ = false := by simp [World.frozen?, hB2]
    have hn : findOf s = (0, false) := by
      unfold findOf
      rw [List.find?_eq_none.2 (fun p hp => by rw [hP p hp]; decide)]
    gi_wp2
    have e1 : ((W.setCell ⟨w.heap.size + 1, 0, none⟩ (.int .i64 0)).setCell ⟨w.heap.size + 1 + 1, 0, none⟩ (.bool false)).heap[w.heap.size + 1]? = some (.cells #[.int .i64 0] 22) := by
      rw [heap_set_ne (by omega), heap_set hB1]; rfl
    have e2 : ((W.setCell ⟨w.heap.size + 1, 0, none⟩ (.int .i64 0)).setCell ⟨w.heap.size + 1 + 1, 0, none⟩ (.bool false)).heap[w.heap.size + 1 + 1]? = some (.cells #[.bool false] 4) := by
      rw [heap_set (by rw [heap_set_ne (by omega)]; exact hB2)]; rfl
    have hD2 : ((W.setCell ⟨w.heap.size + 1, 0, none⟩ (.int .i64 0)).setCell ⟨w.heap.size + 1 + 1, 0, none⟩ (.bool false)).heap[D]? = some (.deferred (some [])) := by
      rw [heap_set_ne (by omega), heap_set_ne (by omega)]; exact hK
    have hS2 := stp_putObj (stp_setCell (stp_setCell hS (a := ⟨w.heap.size + 1, 0, none⟩) (v := .int .i64 0) (by simp)) (a := ⟨w.heap.size + 1 + 1, 0, none⟩) (v := .bool false) (by simp; omega)) (by omega) hD2 rfl (o' := .deferred none)
    generalize ((W.setCell ⟨w.heap.size + 1, 0, none⟩ (.int .i64 0)).setCell ⟨w.heap.size + 1 + 1, 0, none⟩ (.bool false)) = W9 at e1 e2 hD2 hS2 ⊢
    refine ⟨by simp, .inl ⟨_, _, rfl, run_takeDeferred hD2, ?_⟩⟩
    have hB3 : (W9.putObj D (.deferred none)).heap[w.heap.size + 1]? = some (.cells #[.int .i64 0] 22) := by rw [World.putObj_heap_other (by omega)]; exact e1
    have hB4 : (W9.putObj D (.deferred none)).heap[w.heap.size + 1 + 1]? = some (.cells #[.bool false] 4) := by rw [World.putObj_heap_other (by omega)]; exact e2
    rw [hn]
    exact ⟨_, results_cell2 rfl _ _ _ rfl (Tryd.isAgg22 _) (cell_of hB3 _) rfl (Tryd.isAgg4 _) (cell_of hB4 _), _, rfl, hS2, _, rfl, IRel.int _ _, IRel.bool _, trivial⟩
  case stop =>
    rintro D c pre W hD hp ⟨rfl, hS, hB1, hB2⟩ hK
    gi_wp2
    have hS2 := stp_putObj hS (by omega) hK rfl (o' := .deferred none)
    refine ⟨by simp, .inl ⟨_, _, rfl, run_takeDeferred hK, ?_⟩⟩
    have hB3 : (W.putObj D (.deferred none)).heap[w.heap.size + 1]? = some (.cells #[.int .i64 (findOf s).1] 22) := by rw [World.putObj_heap_other (by omega)]; exact hB1
    have hB4 : (W.putObj D (.deferred none)).heap[w.heap.size + 1 + 1]? = some (.cells #[.bool (findOf s).2] 4) := by rw [World.putObj_heap_other (by omega)]; exact hB2
    exact ⟨_, results_cell2 rfl _ _ _ rfl (Tryd.isAgg22 _) (cell_of hB3 _) rfl (Tryd.isAgg4 _) (cell_of hB4 _), _, rfl, hS2, _, rfl, IRel.int _ _, IRel.bool _, trivial⟩
end Go.Proofs.YtnhnghpnejobfaaDoor
set_option maxRecDepth 100000
set_option maxHeartbeats 4000000
set_option linter.unusedVariables false
set_option linter.unusedSimpArgs false
namespace Go.Proofs.YtnhnghpnejobfaaDoor
open Go Go.Mw
-- @U: oc_e

def sb : Nat → Prop := fun id => 1000 ≤ id ∧ id < 2000
theorem r_control : ACalls Tryd.prog n_ref05_control [] [] sb (fun r' σ' => r' = .ms 24 3 0 23 ∧ σ' = [(24, ⟨66, 3, ctlR.map oc_, false⟩)]) := by
  refine fun_sound (ic := F_ref05_control.body) mixed c_ref05_control rfl rfl ?_
  simp only [go_sem, oc_e, F_ref05_control]
  exact done [] _ [(24, ⟨66, 3, ctlR.map oc_, false⟩)] (by rfl) (by simp only [go_sem, oc_e]; rfl) rfl ⟨rfl, rfl⟩
theorem r_access : PCalls Tryd.prog n_ref05_access [] (.sl 3 (accR.map oc_)) := by
  refine pfun_sound (ic := F_ref05_access.body) mixed c_ref05_access rfl rfl ?_
  simp only [go_sem, oc_e, F_ref05_access]
  exact pdone [24] (by rfl) rfl
theorem r_end : PCalls Tryd.prog n_ref05_end [] (.sl 3 (endR.map oc_)) := by
  refine pfun_sound (ic := F_ref05_end.body) mixed c_ref05_end rfl rfl ?_
  simp only [go_sem, oc_e, F_ref05_end]
  exact pdone [14] (by rfl) rfl
def st_ (s : List UInt8) : List AV := [.str s]
theorem st_e (s : List UInt8) : st_ s = [.str s] := rfl
attribute [go_sem] st_e
theorem r_compares : PCalls Tryd.prog n_ref05_compares [] (.sl 1 (cmpS.map st_)) := by
  refine pfun_sound (ic := F_ref05_compares.body) mixed c_ref05_compares rfl rfl ?_
  simp only [go_sem, oc_e, F_ref05_compares]
  exact pdone [1] (by rfl) rfl
theorem r_twos : PCalls Tryd.prog n_ref05_twos [] (.sl 1 (twoS.map st_)) := by
  refine pfun_sound (ic := F_ref05_twos.body) mixed c_ref05_twos rfl rfl ?_
  simp only [go_sem, oc_e, F_ref05_twos]
  exact pdone [1] (by rfl) rfl
theorem num_len (f : Int) (t : List UInt8) : ∀ (l : List (List UInt8)) (k : Nat), (num f t k l).length = l.length
  | [], _ => rfl
  | _ :: l, k => by simp [num, num_len f t l]
theorem num_get (f : Int) (t : List UInt8) : ∀ (l : List (List UInt8)) (k j : Nat), j < l.length → (num f t k l)[j]? = some ⟨f + ((k + j : Nat) : Int), t ++ [46] ++ nth l j, 0⟩
  | [], _, j, hj => by simp at hj
  | s :: l, k, 0, _ => rfl
  | s :: l, k, j + 1, hj => by
    have := num_get f t l (k + 1) j (by simpa using hj)
    simp only [num, List.getElem?_cons_succ]
    rw [this, show k + 1 + j = k + (j + 1) by omega]
    rfl
theorem num_take {f : Int} {t : List UInt8} {l : List (List UInt8)} {j : Nat} (hj : j < l.length) : (num f t 0 l).take (j + 1) = (num f t 0 l).take j ++ [⟨f + (j : Int), t ++ [46] ++ nth l j, 0⟩] := by
  rw [List.take_add_one, num_get f t l 0 j hj, Option.toList_some, Nat.zero_add]
theorem r_numbers (f : Int) (t : List UInt8) (l : List (List UInt8)) (hf : 0 ≤ f ∧ f < 1000000) (ht : t.length < 1000) (hl : l.length < 1000) (hs : ∀ s ∈ l, s.length < 1000) : PCalls Tryd.prog n_ref05_numbers [.int .i64 f, .str t, .sl 1 (l.map st_)] (.sl 3 ((num f t 0 l).map oc_)) := by
  refine pfun_sound (ic := F_ref05_numbers.body) mixed c_ref05_numbers rfl rfl ?_
  simp only [go_sem, oc_e, F_ref05_numbers]
  refine loop_rule (fun i : Nat => ⟨[(7, .ms 900 3 0 i), (8, .int .i64 i), (0, .int .i64 f), (1, .str t), (2, .sl 1 (l.map st_))], [(900, ⟨66, 3, ((num f t 0 l).take i).map oc_, false⟩)]⟩) (fun i => i ≤ l.length) (fun i => l.length - i) 0 (Nat.zero_le _) ((Wk.nil _ 7 900 3 66 (by simp only [go_sem, oc_e]) (.inl (by decide))).trans (Wk.of ?_ ?_)) ?_
  · simp only [go_sem, oc_e, St.mknil]; try simp [go_sem]
  · simp only [go_sem, oc_e, St.mknil]; try simp [go_sem]
  intro i hi
  have e8 := wi (n := (i : Int) + 1) (by omega) (by omega)
  by_cases h1 : (i : Int) < (l.length : Int)
  · have hi' : i < l.length := by omega
    have hsi := hs (nth l i) (by rw [nth_eq hi']; exact List.getElem_mem _)
    have e9 := wi (n := f + (i : Int)) (by omega) (by omega)
    have hlen : ((num f t 0 l).take i).length = i := by rw [List.length_take, num_len]; omega
    have happ := fun ys => appO_map 900 66 3 i oc_ ((num f t 0 l).take i) ys hlen
    simp only [go_sem, oc_e, decide_eq_true h1, happ, e9]
    refine ⟨by omega, by omega, h1, by simp; omega, by omega, klp_n (i + 1) (by omega) (show l.length - (i + 1) < l.length - i by omega) (Wk.of ?_ ?_)⟩
    · simp only [go_sem, oc_e, e8]
      try simp
    · simp only [go_sem, oc_e]
      rw [num_take hi', List.map_append]
      rfl
  · obtain rfl : i = l.length := by omega
    simp only [go_sem, oc_e, decide_eq_false h1]
    have hlen := num_len f t l 0
    rw [List.take_of_length_le (by omega)]
    refine pdone [900] ?_ rfl
    simp only [go_sem, oc_e, List.length_map, hlen, Nat.le_refl]
    rw [List.take_of_length_le (by rw [List.length_map]; omega)]
def cmp1 : List Oc := num 69 [105, 51, 50] 0 cmpS
def cmp2 : List Oc := num 80 [105, 54, 52] 0 cmpS
def two1 : List Oc := num 103 [105, 51, 50] 0 twoS
def two2 : List Oc := num 121 [105, 54, 52] 0 twoS
def wrp : List Oc := [⟨167, [105, 51, 50, 46, 119, 114, 97, 112, 95, 105, 54, 52], 0⟩, ⟨172, [105, 54, 52, 46, 101, 120, 116, 101, 110, 100, 95, 105, 51, 50, 95, 115], 0⟩, ⟨173, [105, 54, 52, 46, 101, 120, 116, 101, 110, 100, 95, 105, 51, 50, 95, 117], 0⟩]
def exS1 : List (List UInt8) := [[101, 120, 116, 101, 110, 100, 56, 95, 115], [101, 120, 116, 101, 110, 100, 49, 54, 95, 115]]
def exS2 : List (List UInt8) := [[101, 120, 116, 101, 110, 100, 56, 95, 115], [101, 120, 116, 101, 110, 100, 49, 54, 95, 115], [101, 120, 116, 101, 110, 100, 51, 50, 95, 115]]
def ext1 : List Oc := num 192 [105, 51, 50] 0 exS1
def ext2 : List Oc := num 194 [105, 54, 52] 0 exS2
theorem OC_parts : ((((((((ctlR ++ accR) ++ cmp1) ++ cmp2) ++ two1) ++ two2) ++ wrp) ++ ext1) ++ ext2) ++ endR = OC := by rfl
theorem r_rows5 : PCalls Tryd.prog n_ref05_rows [] (.sl 3 (OC.map oc_)) := by
  refine pfun_sound (ic := F_ref05_rows.body) mixed c_ref05_rows rfl rfl ?_
  have ap := fun (L : List Oc) (n : Nat) (h : L.length = n) ys => appO_map 901 66 3 n oc_ L ys h
  have n1 : PCalls Tryd.prog n_ref05_numbers [.int .i64 69, .str [105, 51, 50], .sl 1 (cmpS.map st_)] (.sl 3 (cmp1.map oc_)) := r_numbers 69 [105, 51, 50] cmpS (by decide) (by decide) (by decide) (by decide +kernel)
  have n2 : PCalls Tryd.prog n_ref05_numbers [.int .i64 80, .str [105, 54, 52], .sl 1 (cmpS.map st_)] (.sl 3 (cmp2.map oc_)) := r_numbers 80 [105, 54, 52] cmpS (by decide) (by decide) (by decide) (by decide +kernel)
  have n3 : PCalls Tryd.prog n_ref05_numbers [.int .i64 103, .str [105, 51, 50], .sl 1 (twoS.map st_)] (.sl 3 (two1.map oc_)) := r_numbers 103 [105, 51, 50] twoS (by decide) (by decide) (by decide) (by decide +kernel)
  have n4 : PCalls Tryd.prog n_ref05_numbers [.int .i64 121, .str [105, 54, 52], .sl 1 (twoS.map st_)] (.sl 3 (two2.map oc_)) := r_numbers 121 [105, 54, 52] twoS (by decide) (by decide) (by decide) (by decide +kernel)
  have n5 : PCalls Tryd.prog n_ref05_numbers [.int .i64 192, .str [105, 51, 50], .sl 1 (exS1.map st_)] (.sl 3 (ext1.map oc_)) := r_numbers 192 [105, 51, 50] exS1 (by decide) (by decide) (by decide) (by decide +kernel)
  have n6 : PCalls Tryd.prog n_ref05_numbers [.int .i64 194, .str [105, 54, 52], .sl 1 (exS2.map st_)] (.sl 3 (ext2.map oc_)) := r_numbers 194 [105, 54, 52] exS2 (by decide) (by decide) (by decide) (by decide +kernel)
  have e1 : (exS1.map st_) = [[.str [101, 120, 116, 101, 110, 100, 56, 95, 115]], [.str [101, 120, 116, 101, 110, 100, 49, 54, 95, 115]]] := rfl
  have e2 : (exS2.map st_) = [[.str [101, 120, 116, 101, 110, 100, 56, 95, 115]], [.str [101, 120, 116, 101, 110, 100, 49, 54, 95, 115]], [.str [101, 120, 116, 101, 110, 100, 51, 50, 95, 115]]] := rfl
  rw [e1] at n5
  rw [e2] at n6
  have ew : [[AV.int .i64 167, .str [105, 51, 50, 46, 119, 114, 97, 112, 95, 105, 54, 52], .int .i64 0], [.int .i64 172, .str [105, 54, 52, 46, 101, 120, 116, 101, 110, 100, 95, 105, 51, 50, 95, 115], .int .i64 0], [.int .i64 173, .str [105, 54, 52, 46, 101, 120, 116, 101, 110, 100, 95, 105, 51, 50, 95, 117], .int .i64 0]] = wrp.map oc_ := rfl
  simp only [go_sem, oc_e, F_ref05_rows]
  refine call_narr r_control rfl (by simp) 901 (by decide) (by simp only [go_sem, oc_e]) ?_
  simp only [go_sem, oc_e]
  refine call_same (r_access) (by simp [go_sem, oc_e]) ?_
  have la : accR.length = 23 := rfl
  have l1 : cmp1.length = 11 := rfl
  have l2 : cmp2.length = 11 := rfl
  have l3 : two1.length = 18 := rfl
  have l4 : two2.length = 18 := rfl
  have lw : wrp.length = 3 := rfl
  have l5 : ext1.length = 2 := rfl
  have l6 : ext2.length = 3 := rfl
  have le : endR.length = 13 := rfl
  simp only [go_sem, oc_e, ap ctlR 23 rfl, ← List.map_append, List.length_map, la, true_and]
  refine call_same (r_compares) (by simp [go_sem, oc_e]) ?_
  simp only [go_sem, oc_e]
  refine call_same (n1) (by simp [go_sem, oc_e]) ?_
  simp only [go_sem, oc_e, ap (ctlR ++ accR) 46 rfl, ← List.map_append, List.length_map, l1, true_and]
  refine call_same (r_compares) (by simp [go_sem, oc_e]) ?_
  simp only [go_sem, oc_e]
  refine call_same (n2) (by simp [go_sem, oc_e]) ?_
  simp only [go_sem, oc_e, ap ((ctlR ++ accR) ++ cmp1) 57 rfl, ← List.map_append, List.length_map, l2, true_and]
  refine call_same (r_twos) (by simp [go_sem, oc_e]) ?_
  simp only [go_sem, oc_e]
  refine call_same (n3) (by simp [go_sem, oc_e]) ?_
  simp only [go_sem, oc_e, ap (((ctlR ++ accR) ++ cmp1) ++ cmp2) 68 rfl, ← List.map_append, List.length_map, l3, true_and]
  refine call_same (r_twos) (by simp [go_sem, oc_e]) ?_
  simp only [go_sem, oc_e]
  refine call_same (n4) (by simp [go_sem, oc_e]) ?_
  have er : rowO 3 0 3 (some ⟨66, 3, wrp.map oc_, false⟩) = some (wrp.map oc_) := rfl
  have es1 : [[AV.str [101, 120, 116, 101, 110, 100, 56, 95, 115]], [.str [101, 120, 116, 101, 110, 100, 49, 54, 95, 115]]] = exS1.map st_ := rfl
  simp only [go_sem, oc_e, ap ((((ctlR ++ accR) ++ cmp1) ++ cmp2) ++ two1) 86 rfl, ap (((((ctlR ++ accR) ++ cmp1) ++ cmp2) ++ two1) ++ two2) 104 rfl, ew, er, ← List.map_append, List.length_map, l4, lw, true_and]
  refine call_frz [28] ?_ n5 (by simp [go_sem]) ?_
  · simp only [go_sem, oc_e, Nat.le_refl]
  simp only [go_sem, oc_e, ap ((((((ctlR ++ accR) ++ cmp1) ++ cmp2) ++ two1) ++ two2) ++ wrp) 107 rfl, ← List.map_append, List.length_map, l5, true_and]
  refine call_frz [32] ?_ n6 (by simp [go_sem]) ?_
  · simp only [go_sem, oc_e, Nat.le_refl]
  simp only [go_sem, oc_e, ap (((((((ctlR ++ accR) ++ cmp1) ++ cmp2) ++ two1) ++ two2) ++ wrp) ++ ext1) 109 rfl, ← List.map_append, List.length_map, l6, true_and]
  refine call_same (r_end) (by simp [go_sem, oc_e]) ?_
  simp only [go_sem, oc_e, ap ((((((((ctlR ++ accR) ++ cmp1) ++ cmp2) ++ two1) ++ two2) ++ wrp) ++ ext1) ++ ext2) 112 rfl, ← List.map_append, List.length_map, le, true_and, OC_parts]
  refine pdone [901] ?_ rfl
  have lo : OC.length = 125 := rfl
  simp only [go_sem, oc_e, List.length_map, lo, Nat.le_refl]
  rw [List.take_of_length_le (by rw [List.length_map]; exact Nat.le_refl _)]
end Go.Proofs.YtnhnghpnejobfaaDoor
set_option maxRecDepth 100000
set_option maxHeartbeats 4000000
set_option linter.unusedVariables false
set_option linter.unusedSimpArgs false
namespace Go.Proofs.YtnhnghpnejobfaaDoor
open Go Go.Mw
-- @U: oc_e

theorem find_at {α : Type} [Inhabited α] {f : α → Bool} : ∀ {l : List α} {i : Nat}, i < l.length → (∀ k, k < i → f (nth l k) = false) → f (nth l i) = true → l.find? f = some (nth l i)
  | [], i, h, _, _ => by simp at h
  | a :: l, 0, _, _, h => by
    have h' : f a = true := h
    rw [List.find?_cons_of_pos h']; rfl
  | a :: l, i + 1, hi, hk, h => by
    have h0 : f a = false := hk 0 (by omega)
    rw [List.find?_cons_of_neg (by rw [h0]; decide)]
    exact find_at (l := l) (by simpa using hi) (fun k hk2 => hk (k + 1) (by omega)) h
theorem find_no {α : Type} [Inhabited α] {f : α → Bool} {l : List α} (h : ∀ k, k < l.length → f (nth l k) = false) : l.find? f = none := by
  rw [List.find?_eq_none]
  intro x hx
  obtain ⟨k, hk, rfl⟩ := List.mem_iff_getElem.1 hx
  have := h k hk
  rw [nth_eq hk] at this
  rw [this]; decide
def rowOf (op : Int) : Option Oc := OC.find? (fun o => o.op == op)
def rNm (op : Int) : List UInt8 := ((rowOf op).getD default).nm
def rIm (op : Int) : Int := ((rowOf op).getD default).im
def rKn (op : Int) : Bool := (rowOf op).isSome
theorem OC_len : OC.length = 125 := rfl
theorem r_find5 (op : Int) : PCalls Tryd.prog n_ref05_find [.int .i64 op] (.tup [.agg (oc_ ((rowOf op).getD default)), .bool (rKn op)]) := by
  refine pfun_sound (ic := F_ref05_find.body) mixed c_ref05_find rfl rfl ?_
  have hOL := OC_len
  simp only [go_sem, oc_e, F_ref05_find]
  refine call_same (r_rows5) (by simp [go_sem, oc_e]) ?_
  simp only [go_sem, oc_e]
  refine loop_rule (fun i : Nat => ⟨[(4, .sl 3 (OC.map oc_)), (5, .int .i64 i), (0, .int .i64 op), (2, .mp 2 3 0 0), (3, .bool false)], [(2, ⟨66, 3, [[.int .i64 0, .str [], .int .i64 0]], true⟩)]⟩) (fun i => i ≤ OC.length ∧ ∀ k, k < i → ((nth OC k).op == op) = false) (fun i => OC.length - i) 0 ⟨Nat.zero_le _, fun k hk => absurd hk (Nat.not_lt_zero k)⟩ (Wk.of ?_ ?_) ?_
  · simp only [go_sem, oc_e]; try simp
  · simp only [go_sem, oc_e]
  rintro i ⟨hi, hk⟩
  have e8 := wi (n := (i : Int) + 1) (by omega) (by omega)
  by_cases h1 : (i : Int) < (OC.length : Int)
  · have hi' : i < OC.length := by omega
    by_cases h2 : (nth OC i).op = op
    · have r : rowOf op = some (nth OC i) := find_at hi' hk (by simpa using h2)
      simp only [go_sem, oc_e, decide_eq_true h1, beq_t h2]
      refine ⟨by omega, h1, by omega, h1, ?_⟩
      have rk : rKn op = true := by rw [rKn, r]; rfl
      rw [rk, r]
      exact pdone [] (by simp only [go_sem, oc_e]) (by first | rfl | simp [go_sem, slv_ids, oc_e])
    · simp only [go_sem, oc_e, decide_eq_true h1, beq_f h2]
      refine ⟨by omega, h1, klp_n (i + 1) ⟨by omega, fun k hk2 => ?_⟩ (show OC.length - (i + 1) < OC.length - i by omega) (Wk.of ?_ ?_)⟩
      · rcases Nat.lt_or_ge k i with h4 | h4
        · exact hk k h4
        · obtain rfl : k = i := by omega
          exact beq_f h2
      · simp only [go_sem, oc_e, e8]
        try simp
      · simp only [go_sem, oc_e]
  · have r : rowOf op = none := find_no fun k hk2 => hk k (by omega)
    have rk : rKn op = false := by rw [rKn, r]; rfl
    simp only [go_sem, oc_e, decide_eq_false h1]
    rw [rk, r]
    exact pdone [] (by rfl) rfl
theorem r_known (op : Int) : PCalls Tryd.prog n_ref05_Known [.int .i64 op] (.bool (rKn op)) := by
  refine pfun_sound (ic := F_ref05_Known.body) mixed c_ref05_Known rfl rfl ?_
  simp only [go_sem, oc_e, F_ref05_Known]
  refine call_same (r_find5 op) (by simp [go_sem, oc_e]) ?_
  simp only [go_sem, oc_e]
  exact pdone [] (by simp only [go_sem, oc_e]) (by first | rfl | simp [go_sem, slv_ids, oc_e])
theorem r_rname (op : Int) : PCalls Tryd.prog n_ref05_Name [.int .i64 op] (.str (rNm op)) := by
  refine pfun_sound (ic := F_ref05_Name.body) mixed c_ref05_Name rfl rfl ?_
  simp only [go_sem, oc_e, F_ref05_Name]
  refine call_same (r_find5 op) (by simp [go_sem, oc_e]) ?_
  simp only [go_sem, oc_e]
  exact pdone [] (by rfl) rfl
theorem r_rof (op : Int) : PCalls Tryd.prog n_ref05_Of [.int .i64 op] (.int .i64 (rIm op)) := by
  refine pfun_sound (ic := F_ref05_Of.body) mixed c_ref05_Of rfl rfl ?_
  simp only [go_sem, oc_e, F_ref05_Of]
  refine call_same (r_find5 op) (by simp [go_sem, oc_e]) ?_
  simp only [go_sem, oc_e]
  exact pdone [] (by rfl) rfl
def rFd (s : List UInt8) : Int × Bool := match OC.find? (fun o => o.nm == s) with
  | some o => (o.op, true)
  | none => (0, false)
theorem r_rfind (s : List UInt8) : PCalls Tryd.prog n_ref05_Find [.str s] (.tup [.int .i64 (rFd s).1, .bool (rFd s).2]) := by
  refine pfun_sound (ic := F_ref05_Find.body) mixed c_ref05_Find rfl rfl ?_
  have hOL := OC_len
  simp only [go_sem, oc_e, F_ref05_Find]
  refine call_same (r_rows5) (by simp [go_sem, oc_e]) ?_
  simp only [go_sem, oc_e]
  refine loop_rule (fun i : Nat => ⟨[(4, .sl 3 (OC.map oc_)), (5, .int .i64 i), (0, .str s), (2, .int .i64 0), (3, .bool false)], []⟩) (fun i => i ≤ OC.length ∧ ∀ k, k < i → ((nth OC k).nm == s) = false) (fun i => OC.length - i) 0 ⟨Nat.zero_le _, fun k hk => absurd hk (Nat.not_lt_zero k)⟩ (Wk.of ?_ ?_) ?_
  · simp only [go_sem, oc_e]; try simp
  · simp only [go_sem, oc_e]
  rintro i ⟨hi, hk⟩
  have e8 := wi (n := (i : Int) + 1) (by omega) (by omega)
  by_cases h1 : (i : Int) < (OC.length : Int)
  · have hi' : i < OC.length := by omega
    by_cases h2 : (nth OC i).nm = s
    · have r : rFd s = ((nth OC i).op, true) := by rw [rFd, find_at hi' hk (by simpa using h2)]
      have b2 : ((nth OC i).nm == s) = true := by simpa using h2
      simp only [go_sem, oc_e, decide_eq_true h1, b2]
      refine ⟨by omega, h1, by omega, h1, ?_⟩
      rw [r]
      exact pdone [] (by simp only [go_sem, oc_e]) (by first | rfl | simp [go_sem, slv_ids, oc_e])
    · have b2 : ((nth OC i).nm == s) = false := by simpa using h2
      simp only [go_sem, oc_e, decide_eq_true h1, b2]
      refine ⟨by omega, h1, klp_n (i + 1) ⟨by omega, fun k hk2 => ?_⟩ (show OC.length - (i + 1) < OC.length - i by omega) (Wk.of ?_ ?_)⟩
      · rcases Nat.lt_or_ge k i with h4 | h4
        · exact hk k h4
        · obtain rfl : k = i := by omega
          exact b2
      · simp only [go_sem, oc_e, e8]
        try simp
      · simp only [go_sem, oc_e]
  · have r : rFd s = (0, false) := by rw [rFd, find_no fun k hk2 => hk k (by omega)]
    simp only [go_sem, oc_e, decide_eq_false h1]
    rw [r]
    exact pdone [] (by simp only [go_sem, oc_e]) (by first | rfl | simp [go_sem, slv_ids, oc_e])
/-- Is 'p' a part of 's'? -/
def wthn (s p : List UInt8) : Bool := (List.range (s.length + 1)).any fun i => decide (i + p.length ≤ s.length) && ((s.drop i).take p.length == p)
theorem r_within (s p : List UInt8) (hs : s.length < 1000000) (hp : p.length < 1000000) : PCalls Tryd.prog n_ref05_within [.str s, .str p] (.bool (wthn s p)) := by
  refine pfun_sound (ic := F_ref05_within.body) mixed c_ref05_within rfl rfl ?_
  simp only [go_sem, oc_e, F_ref05_within]
  refine loop_rule (fun i : Nat => ⟨[(5, .int .i64 i), (0, .str s), (1, .str p), (4, .bool false)], []⟩) (fun i => i ≤ s.length + 1 ∧ ∀ k, k < i → k + p.length ≤ s.length → ((s.drop k).take p.length == p) = false) (fun i => s.length + 1 - i) 0 ⟨Nat.zero_le _, fun k hk => absurd hk (Nat.not_lt_zero k)⟩ (Wk.of ?_ ?_) ?_
  · simp only [go_sem, oc_e]; try simp
  · simp only [go_sem, oc_e]
  rintro i ⟨hi, hk⟩
  have e8 := wi (n := (i : Int) + 1) (by omega) (by omega)
  have e9 : IntKind.i64.wrap ((i : Int) + (p.length : Int)) = ((i + p.length : Nat) : Int) := by rw [wi (by omega) (by omega)]; omega
  by_cases h1 : ((i + p.length : Nat) : Int) ≤ (s.length : Int)
  · have e10 : (((i + p.length : Nat) : Int) - (i : Int)).toNat = p.length := by omega
    simp only [go_sem, oc_e, e9, decide_eq_true h1, e10]
    refine ⟨⟨by omega, by omega, h1⟩, fun h2 => ?_, fun h2 => ?_⟩
    · have r : wthn s p = true := by
        rw [wthn, List.any_eq_true]
        exact ⟨i, List.mem_range.2 (by omega), by rw [h2, decide_eq_true (by omega)]; rfl⟩
      rw [r]
      exact pdone [] (by simp only [go_sem, oc_e]) (by first | rfl | simp [go_sem, slv_ids, oc_e])
    · refine klp_n (i + 1) ⟨by omega, fun k hk2 hk3 => ?_⟩ (show s.length + 1 - (i + 1) < s.length + 1 - i by omega) (Wk.of ?_ ?_)
      · rcases Nat.lt_or_ge k i with h4 | h4
        · exact hk k h4 hk3
        · obtain rfl : k = i := by omega
          exact h2
      · simp only [go_sem, oc_e, e8]
        try simp
      · simp only [go_sem, oc_e]
  · have r : wthn s p = false := by
      rw [wthn, List.any_eq_false]
      intro k hk2
      by_cases h4 : k + p.length ≤ s.length
      · rw [hk k (by omega) h4]; simp
      · simp [h4]
    rw [r]
    simp only [go_sem, oc_e, e9, decide_eq_false h1]
    exact pdone [] (by simp only [go_sem, oc_e]) (by first | rfl | simp [go_sem, slv_ids, oc_e])
/-- What is held of every row. -/
theorem row_all {p : Oc → Bool} (h : OC.all p = true) {op : Int} (hd : p default = true) : p ((rowOf op).getD default) = true := by
  cases hr : rowOf op with
  | none => exact hd
  | some o => exact List.all_eq_true.1 h o (List.mem_of_find?_eq_some hr)
theorem rNm_len (op : Int) : (rNm op).length < 1000 := by
  have := row_all (p := fun o => decide (o.nm.length < 1000)) (by decide +kernel) (op := op) (by decide)
  simpa [rNm] using this
theorem rIm_17 (op : Int) (h : rIm op = 17) : 4 ≤ (rNm op).length := by
  have := row_all (p := fun o => decide (o.im = 17 → 4 ≤ o.nm.length)) (by decide +kernel) (op := op) (by decide)
  exact (of_decide_eq_true this) h
def wR (s : List UInt8) : Int := if wthn s [100, 56] = true then 1 else if wthn s [101, 56] = true then 1 else if wthn s [100, 49, 54] = true then 2 else if wthn s [101, 49, 54] = true then 2 else
  if wthn s [100, 51, 50] = true then 4 else if wthn s [101, 51, 50] = true then 4 else if (s.drop 1).take 2 = [51, 50] then 4 else 8
def widR (op : Int) : Int := if rIm op ≠ 17 then 0 else wR (rNm op)
theorem r_width (op : Int) : PCalls Tryd.prog n_ref05_Width [.int .i64 op] (.int .i64 (widR op)) := by
  refine pfun_sound (ic := F_ref05_Width.body) mixed c_ref05_Width rfl rfl ?_
  have hl := rNm_len op
  simp only [go_sem, oc_e, F_ref05_Width]
  refine call_same (r_rname op) (by simp [go_sem, oc_e]) ?_
  simp only [go_sem, oc_e]
  refine call_same (r_rof op) (by simp [go_sem, oc_e]) ?_
  by_cases h : rIm op = 17
  · have h3 := rIm_17 op h
    have r : widR op = wR (rNm op) := by rw [widR, if_neg (by simpa using h)]
    rw [r]
    simp only [go_sem, oc_e, bne_f h]
    generalize rNm op = s at hl h3
    unfold wR
    refine call_same (r_within s [100, 56] (by omega) (by decide)) (by simp [go_sem, oc_e]) ?_
    cases w1 : wthn s [100, 56]
    · simp only [go_sem, oc_e]
      refine call_same (r_within s [101, 56] (by omega) (by decide)) (by simp [go_sem, oc_e]) ?_
      cases w2 : wthn s [101, 56]
      · simp only [go_sem, oc_e]
        refine call_same (r_within s [100, 49, 54] (by omega) (by decide)) (by simp [go_sem, oc_e]) ?_
        cases w3 : wthn s [100, 49, 54]
        · simp only [go_sem, oc_e]
          refine call_same (r_within s [101, 49, 54] (by omega) (by decide)) (by simp [go_sem, oc_e]) ?_
          cases w4 : wthn s [101, 49, 54]
          · simp only [go_sem, oc_e]
            refine call_same (r_within s [100, 51, 50] (by omega) (by decide)) (by simp [go_sem, oc_e]) ?_
            cases w5 : wthn s [100, 51, 50]
            · simp only [go_sem, oc_e]
              refine call_same (r_within s [101, 51, 50] (by omega) (by decide)) (by simp [go_sem, oc_e]) ?_
              cases w6 : wthn s [101, 51, 50]
              · simp only [go_sem, oc_e]
                have e2 : ((3 : Int) - 1).toNat = 2 := rfl
                refine ⟨by omega, fun h => ?_, fun h => ?_⟩
                · rw [e2] at h
                  rw [if_pos (by simpa using h)]
                  exact pdone [] (by simp only [go_sem, oc_e]) (by first | rfl | simp [go_sem, slv_ids, oc_e])
                · rw [e2] at h
                  rw [if_neg (by simpa using h)]
                  exact pdone [] (by simp only [go_sem, oc_e]) (by first | rfl | simp [go_sem, slv_ids, oc_e])
              · simp only [go_sem, oc_e]
                exact pdone [] (by simp only [go_sem, oc_e]) (by first | rfl | simp [go_sem, slv_ids, oc_e])
            · simp only [go_sem, oc_e]
              exact pdone [] (by simp only [go_sem, oc_e]) (by first | rfl | simp [go_sem, slv_ids, oc_e])
          · simp only [go_sem, oc_e]
            exact pdone [] (by simp only [go_sem, oc_e]) (by first | rfl | simp [go_sem, slv_ids, oc_e])
        · simp only [go_sem, oc_e]
          exact pdone [] (by simp only [go_sem, oc_e]) (by first | rfl | simp [go_sem, slv_ids, oc_e])
      · simp only [go_sem, oc_e]
        exact pdone [] (by simp only [go_sem, oc_e]) (by first | rfl | simp [go_sem, slv_ids, oc_e])
    · simp only [go_sem, oc_e]
      exact pdone [] (by simp only [go_sem, oc_e]) (by first | rfl | simp [go_sem, slv_ids, oc_e])
  · have r : widR op = 0 := by rw [widR, if_pos h]
    rw [r]
    simp only [go_sem, oc_e, bne_t h]
    exact pdone [] (by simp only [go_sem, oc_e]) (by first | rfl | simp [go_sem, slv_ids, oc_e])
def aliR (w : Int) : Int := if w = 2 then 1 else if w = 4 then 2 else if w = 8 then 3 else 0
theorem r_align (op : Int) : PCalls Tryd.prog n_ref05_Align [.int .i64 op] (.int .i64 (aliR (widR op))) := by
  refine pfun_sound (ic := F_ref05_Align.body) mixed c_ref05_Align rfl rfl ?_
  simp only [go_sem, oc_e, F_ref05_Align]
  refine call_same (r_width op) (by simp [go_sem, oc_e]) ?_
  generalize widR op = w
  by_cases h0 : w = 2
  · subst h0
    simp only [go_sem, oc_e]
    exact pdone [] (by rfl) rfl
  by_cases h1 : w = 4
  · subst h1
    simp only [go_sem, oc_e]
    exact pdone [] (by rfl) rfl
  by_cases h2 : w = 8
  · subst h2
    simp only [go_sem, oc_e]
    exact pdone [] (by rfl) rfl
  have r : aliR w = 0 := by rw [aliR, if_neg h0, if_neg h1, if_neg h2]
  rw [r]
  simp only [go_sem, oc_e, beq_f h0, beq_f h1, beq_f h2]
  exact pdone [] (by rfl) rfl
def free (op : Int) : Bool := op == 1 || (op == 2 || (op == 3 || (op == 5 || op == 11)))
def costR (op : Int) : Int := if free op = true then 0 else if rKn op = true then 1 else 0
theorem r_cost (op : Int) : PCalls Tryd.prog n_ref05_Cost [.int .i64 op] (.int .i64 (costR op)) := by
  refine pfun_sound (ic := F_ref05_Cost.body) mixed c_ref05_Cost rfl rfl ?_
  by_cases h0 : op = 1
  · subst h0
    simp only [go_sem, oc_e, F_ref05_Cost]
    exact pdone [] (by rfl) rfl
  by_cases h1 : op = 2
  · subst h1
    simp only [go_sem, oc_e, F_ref05_Cost]
    exact pdone [] (by rfl) rfl
  by_cases h2 : op = 3
  · subst h2
    simp only [go_sem, oc_e, F_ref05_Cost]
    exact pdone [] (by rfl) rfl
  by_cases h3 : op = 5
  · subst h3
    simp only [go_sem, oc_e, F_ref05_Cost]
    exact pdone [] (by rfl) rfl
  by_cases h4 : op = 11
  · subst h4
    simp only [go_sem, oc_e, F_ref05_Cost]
    exact pdone [] (by rfl) rfl
  have fr : free op = false := by simp [free, h0, h1, h2, h3, h4]
  simp only [go_sem, oc_e, F_ref05_Cost, beq_f h0, beq_f h1, beq_f h2, beq_f h3, beq_f h4]
  refine call_same (r_known op) (by simp [go_sem, oc_e]) ?_
  unfold costR
  rw [fr]
  cases rKn op
  · simp only [go_sem, oc_e]
    exact pdone [] (by rfl) rfl
  · simp only [go_sem, oc_e]
    exact pdone [] (by rfl) rfl
end Go.Proofs.YtnhnghpnejobfaaDoor
set_option maxRecDepth 100000
set_option maxHeartbeats 4000000
set_option linter.unusedVariables false
set_option linter.unusedSimpArgs false
namespace Go.Proofs.YtnhnghpnejobfaaDoor
open Go Go.Mw

/-- What is held of every name. -/
theorem name_all {p : Int → List UInt8 → Bool} (h : EN.all (fun x => p x.1 x.2) = true) (op : Int) : nameOf op = [] ∨ p op (nameOf op) = true := by
  unfold nameOf
  cases hr : EN.find? (fun x => x.1 == op) with
  | none => exact .inl rfl
  | some o =>
    have h1 := List.all_eq_true.1 h o (List.mem_of_find?_eq_some hr)
    have h2 := List.find?_some hr
    simp only [beq_iff_eq] at h2
    rw [h2] at h1
    exact .inr h1
theorem nameOf_len (op : Int) : (nameOf op).length < 1000 := by
  rcases name_all (p := fun _ s => decide (s.length < 1000)) (by decide +kernel) op with h | h
  · rw [h]; decide
  · exact of_decide_eq_true h
def acB (op : Int) : Bool := decide (op ≥ 40) && (decide (op ≤ 62) && !(nameOf op == []))
theorem acB_len (op : Int) (h : acB op = true) : 5 ≤ (nameOf op).length := by
  simp only [acB, Bool.and_eq_true, decide_eq_true_eq, Bool.not_eq_true', beq_eq_false_iff_ne, ne_eq] at h
  rcases name_all (p := fun k s => decide (40 ≤ k → k ≤ 62 → 5 ≤ s.length)) (by decide +kernel) op with h1 | h1
  · exact absurd h1 h.2.2
  · exact (of_decide_eq_true h1) h.1 h.2.1
theorem s_known5 (op : Int) : PCalls Tryd.prog n_opcode_Known [.int .i64 op] (.bool (!(nameOf op == []))) := by
  refine pfun_sound (ic := F_opcode_Known.body) mixed c_opcode_Known rfl rfl ?_
  simp only [go_sem, F_opcode_Known]
  refine call_same (s_name5 op) (by simp [go_sem]) ?_
  simp only [go_sem]
  exact pdone [] (by simp only [go_sem]) (by first | rfl | simp [go_sem, slv_ids])
theorem s_hp1 (s p : List UInt8) (hs : s.length < 1000000 ∧ p.length < 1000000) : PCalls Tryd.prog n_stringslite_HasPrefix [.str s, .str p] (.bool (decide (p.length ≤ s.length) && (s.take p.length == p))) := by
  refine pfun_sound (ic := F_stringslite_HasPrefix.body) mixed c_stringslite_HasPrefix rfl rfl ?_
  by_cases h : (s.length : Int) ≥ (p.length : Int)
  · simp only [go_sem, F_stringslite_HasPrefix, decide_eq_true h, decide_eq_true (show p.length ≤ s.length by omega)]
    exact ⟨by omega, by exact pdone [] (by simp only [go_sem]) (by first | rfl | simp [go_sem, slv_ids])⟩
  · simp only [go_sem, F_stringslite_HasPrefix, decide_eq_false h, decide_eq_false (show ¬ p.length ≤ s.length by omega)]
    exact pdone [] (by simp only [go_sem]) (by first | rfl | simp [go_sem, slv_ids])
def hpf (s p : List UInt8) : Bool := decide (p.length ≤ s.length) && (s.take p.length == p)
theorem s_hp (s p : List UInt8) (hs : s.length < 1000000 ∧ p.length < 1000000) : PCalls Tryd.prog n_strings_HasPrefix [.str s, .str p] (.bool (hpf s p)) := by
  refine pfun_sound (ic := F_strings_HasPrefix.body) mixed c_strings_HasPrefix rfl rfl ?_
  simp only [go_sem, F_strings_HasPrefix]
  refine call_same (s_hp1 s p hs) (by simp [go_sem]) ?_
  simp only [go_sem]
  exact pdone [] (by rfl) rfl
theorem s_access (op : Int) : PCalls Tryd.prog n_opcode_access [.int .i64 op] (.bool (acB op)) := by
  refine pfun_sound (ic := F_opcode_access.body) mixed c_opcode_access rfl rfl ?_
  unfold acB
  by_cases h1 : op ≥ 40
  · by_cases h2 : op ≤ 62
    · simp only [go_sem, F_opcode_access, decide_eq_true h1, decide_eq_true h2, Bool.true_and]
      refine call_same (s_known5 op) (by simp [go_sem]) ?_
      simp only [go_sem]
      exact pdone [] (by simp only [go_sem]) (by first | rfl | simp [go_sem, slv_ids])
    · simp only [go_sem, F_opcode_access, decide_eq_true h1, decide_eq_false h2, Bool.true_and, Bool.false_and]
      exact pdone [] (by simp only [go_sem]) (by first | rfl | simp [go_sem, slv_ids])
  · simp only [go_sem, F_opcode_access, decide_eq_false h1, Bool.false_and]
    exact pdone [] (by simp only [go_sem]) (by first | rfl | simp [go_sem, slv_ids])
def wP (s : List UInt8) : Int := if Lib.contains (s.drop 4) [56] = true then 1 else if Lib.contains (s.drop 4) [49, 54] = true then 2 else if Lib.contains (s.drop 4) [51, 50] = true then 4 else if s.take 3 = [105, 51, 50] then 4 else 8
def widP (op : Int) : Int := if acB op = true then wP (nameOf op) else 0
theorem s_width5 (op : Int) : PCalls Tryd.prog n_opcode_Width [.int .i64 op] (.int .i64 (widP op)) := by
  refine pfun_sound (ic := F_opcode_Width.body) mixed c_opcode_Width rfl rfl ?_
  simp only [go_sem, F_opcode_Width]
  refine call_same (s_access op) (by simp [go_sem]) ?_
  cases hac : acB op
  · have r : widP op = 0 := by rw [widP, hac]; rfl
    rw [r]
    simp only [go_sem]
    exact pdone [] (by rfl) rfl
  · have r : widP op = wP (nameOf op) := by rw [widP, hac]; rfl
    have hl := nameOf_len op
    have hl2 := acB_len op hac
    rw [r]
    simp only [go_sem]
    refine call_same (s_name5 op) (by simp [go_sem]) ?_
    simp only [go_sem]
    generalize nameOf op = s at hl hl2
    obtain ⟨Inv, hInv⟩ : ∃ Inv : Nat → Prop, Inv = fun i => i ≤ 3 ∧ (0 < i → Lib.contains (s.drop 4) [56] = false) ∧ (1 < i → Lib.contains (s.drop 4) [49, 54] = false) ∧ (2 < i → Lib.contains (s.drop 4) [51, 50] = false) := ⟨_, rfl⟩
    refine loop_rule (fun i : Nat => ⟨[(11, .ms 11 1 0 3), (12, .int .i64 3), (13, .int .i64 i), (3, .str s), (2, .int .i64 0)], [(11, ⟨3, 1, [[.int .i64 8], [.int .i64 16], [.int .i64 32]], false⟩)]⟩) Inv (fun i => 3 - i) 0 (by rw [hInv]; exact ⟨by decide, fun h => absurd h (by decide), fun h => absurd h (by decide), fun h => absurd h (by decide)⟩) (Wk.of ?_ ?_) ?_
    · simp only [go_sem]; try simp
    · simp only [go_sem]; try simp
    intro i hInv1
    rw [hInv] at hInv1
    obtain ⟨hi, h1, h2, h3⟩ := hInv1
    have hd : (s.drop 4).length < 4294967281 := by simp; omega
    have e4 : (s.drop 4).take (s.length - 4) = s.drop 4 := List.take_of_length_le (by simp)
    have hl4 : 4 ≤ s.length := by omega
    have c0 : ((0 : Nat) : Int) = 0 := rfl
    have c1 : ((1 : Nat) : Int) = 1 := rfl
    have c2 : ((2 : Nat) : Int) = 2 := rfl
    have c3 : ((3 : Nat) : Int) = 3 := rfl
    have ld : ∀ k : Nat, ldO none 1 k 0 (some ⟨3, 1, [[.int .i64 8], [.int .i64 16], [.int .i64 32]], false⟩) = (match k with | 0 => some (.int .i64 8) | 1 => some (.int .i64 16) | 2 => some (.int .i64 32) | _ => none) := fun k => by
      rcases k with _ | _ | _ | k <;> rfl
    have ls : ∀ k : Nat, ldO none 1 k 0 (some ⟨9, 1, [[.str [56]], [.str [49, 54]], [.str [51, 50]]], false⟩) = (match k with | 0 => some (.str [56]) | 1 => some (.str [49, 54]) | 2 => some (.str [51, 50]) | _ => none) := fun k => by
      rcases k with _ | _ | _ | k <;> rfl
    have q0 : IntKind.i64.wrap ((8 : Int).tdiv 16) = 0 := by decide
    have q1 : IntKind.i64.wrap ((16 : Int).tdiv 16) = 1 := by decide
    have q2 : IntKind.i64.wrap ((32 : Int).tdiv 16) = 2 := by decide
    have p0 : IntKind.i64.wrap ((8 : Int).tdiv 8) = 1 := by decide
    have p1 : IntKind.i64.wrap ((16 : Int).tdiv 8) = 2 := by decide
    have p2 : IntKind.i64.wrap ((32 : Int).tdiv 8) = 4 := by decide
    have s0 : IntKind.i64.wrap ((0 : Int) + 1) = 1 := by decide
    have s1 : IntKind.i64.wrap ((1 : Int) + 1) = 2 := by decide
    have s2 : IntKind.i64.wrap ((2 : Int) + 1) = 3 := by decide
    have t0 : (0 : Int).toNat = 0 := rfl
    have t1 : (1 : Int).toNat = 1 := rfl
    have t2 : (2 : Int).toNat = 2 := rfl
    unfold wP
    rcases (show i = 0 ∨ i = 1 ∨ i = 2 ∨ i = 3 by omega) with rfl | rfl | rfl | rfl
    · simp only [go_sem, hl4, e4, c0, c1, c2, c3, decide_eq_true (show (0 : Int) < 3 by decide), ld, ls, q0, q1, q2, t0, t1, t2]
      refine ⟨⟨by decide, by decide⟩, ⟨by decide, by omega⟩, by decide, ⟨by decide, by decide⟩, ?_⟩
      refine call_same (s_contains (s.drop 4) [56] hd) (by simp [go_sem]) ?_
      cases hc : Lib.contains (s.drop 4) [56]
      · simp only [go_sem]
        refine klp_n 1 (by rw [hInv]; exact ⟨by decide, fun _ => hc, fun h => absurd h (by decide), fun h => absurd h (by decide)⟩) (show 3 - 1 < 3 - 0 by decide) (Wk.of ?_ ?_)
        · simp only [go_sem, s0, s1, s2, c0, c1, c2, c3]
          try simp
        · simp only [go_sem]
      · simp only [go_sem, p0, p1, p2]
        exact ⟨by decide, by exact pdone [] (by rfl) rfl⟩
    · rw [h1 (by decide)]
      simp only [go_sem, hl4, e4, c0, c1, c2, c3, decide_eq_true (show (1 : Int) < 3 by decide), ld, ls, q0, q1, q2, t0, t1, t2]
      refine ⟨⟨by decide, by decide⟩, ⟨by decide, by omega⟩, by decide, ⟨by decide, by decide⟩, ?_⟩
      refine call_same (s_contains (s.drop 4) [49, 54] hd) (by simp [go_sem]) ?_
      cases hc : Lib.contains (s.drop 4) [49, 54]
      · simp only [go_sem]
        refine klp_n 2 (by rw [hInv]; exact ⟨by decide, fun _ => h1 (by decide), fun _ => hc, fun h => absurd h (by decide)⟩) (show 3 - 2 < 3 - 1 by decide) (Wk.of ?_ ?_)
        · simp only [go_sem, s0, s1, s2, c0, c1, c2, c3]
          try simp
        · simp only [go_sem]
      · simp only [go_sem, p0, p1, p2]
        exact ⟨by decide, by exact pdone [] (by rfl) rfl⟩
    · rw [h1 (by decide)]
      rw [h2 (by decide)]
      simp only [go_sem, hl4, e4, c0, c1, c2, c3, decide_eq_true (show (2 : Int) < 3 by decide), ld, ls, q0, q1, q2, t0, t1, t2]
      refine ⟨⟨by decide, by decide⟩, ⟨by decide, by omega⟩, by decide, ⟨by decide, by decide⟩, ?_⟩
      refine call_same (s_contains (s.drop 4) [51, 50] hd) (by simp [go_sem]) ?_
      cases hc : Lib.contains (s.drop 4) [51, 50]
      · simp only [go_sem]
        refine klp_n 3 (by rw [hInv]; exact ⟨by decide, fun _ => h1 (by decide), fun _ => h2 (by decide), fun _ => hc⟩) (show 3 - 3 < 3 - 2 by decide) (Wk.of ?_ ?_)
        · simp only [go_sem, s0, s1, s2, c0, c1, c2, c3]
          try simp
        · simp only [go_sem]
      · simp only [go_sem, p0, p1, p2]
        exact ⟨by decide, by exact pdone [] (by rfl) rfl⟩
    · rw [h1 (by decide), h2 (by decide), h3 (by decide)]
      have e5 : ((3 : Int)).toNat = 3 := rfl
      simp only [go_sem, c3, decide_eq_false (show ¬ (3 : Int) < 3 by decide), List.drop_zero, e5]
      refine ⟨by omega, fun h => ?_, fun h => ?_⟩
      · rw [if_pos (by simpa using h)]
        exact pdone [] (by rfl) rfl
      · rw [if_neg (by simpa using h)]
        exact pdone [] (by rfl) rfl
/-- How often a number can be halved. -/
def hlv : Nat → Nat → Nat
  | 0, _ => 0
  | f + 1, w => if w ≤ 1 then 0 else hlv f (w / 2) + 1
def aliP (w : Int) : Int := if w = 1 then 0 else if w = 2 then 1 else if w = 4 then 2 else if w = 8 then 3 else 0
theorem widP_cases (op : Int) : widP op = 0 ∨ widP op = 1 ∨ widP op = 2 ∨ widP op = 4 ∨ widP op = 8 := by
  unfold widP wP
  repeat' split
  all_goals simp
theorem s_align5 (op : Int) : PCalls Tryd.prog n_opcode_Align [.int .i64 op] (.int .i64 (aliP (widP op))) := by
  refine pfun_sound (ic := F_opcode_Align.body) mixed c_opcode_Align rfl rfl ?_
  simp only [go_sem, F_opcode_Align]
  refine call_same (s_width5 op) (by simp [go_sem]) ?_
  have hw := widP_cases op
  generalize widP op = w at hw
  simp only [go_sem]
  refine loop_rule (fun q : Nat × Nat => ⟨[(3, .int .i64 (q.2 : Nat)), (4, .int .i64 (q.1 : Nat)), (2, .int .i64 0)], []⟩) (fun q => (q.1 ≤ 1 ∧ aliP w = (q.2 : Nat)) ∨ (q.1 = 2 ∧ aliP w = ((q.2 + 1 : Nat) : Int)) ∨ (q.1 = 4 ∧ aliP w = ((q.2 + 2 : Nat) : Int)) ∨ (q.1 = 8 ∧ aliP w = ((q.2 + 3 : Nat) : Int))) (fun q => q.1) (w.toNat, 0) ?_ (Wk.of ?_ ?_) ?_
  · rcases hw with rfl | rfl | rfl | rfl | rfl
    · exact .inl ⟨by decide, rfl⟩
    · exact .inl ⟨by decide, rfl⟩
    · exact .inr (.inl ⟨rfl, rfl⟩)
    · exact .inr (.inr (.inl ⟨rfl, rfl⟩))
    · exact .inr (.inr (.inr ⟨rfl, rfl⟩))
  · have e0 : ((w.toNat : Nat) : Int) = w := by omega
    simp only [go_sem, e0]; try simp
  · simp only [go_sem]
  rintro ⟨a, n⟩ hq
  replace hq : (a ≤ 1 ∧ aliP w = (n : Nat)) ∨ (a = 2 ∧ aliP w = ((n + 1 : Nat) : Int)) ∨ (a = 4 ∧ aliP w = ((n + 2 : Nat) : Int)) ∨ (a = 8 ∧ aliP w = ((n + 3 : Nat) : Int)) := hq
  have hb : aliP w ≤ 3 := by unfold aliP; repeat' split <;> omega
  by_cases h1 : (a : Int) > 1
  · have e8 : IntKind.i64.wrap ((n : Int) + 1) = ((n + 1 : Nat) : Int) := by rw [wi (by omega) (by omega)]; omega
    have e9 : IntKind.i64.wrap ((a : Int).tdiv 2) = ((a / 2 : Nat) : Int) := by
      rw [wi (by rcases hq with h | h | h | h <;> (obtain ⟨h, _⟩ := h; try subst h) <;> first | omega | decide) (by rcases hq with h | h | h | h <;> (obtain ⟨h, _⟩ := h; try subst h) <;> first | omega | decide)]
      exact Int.ofNat_tdiv a 2
    simp only [go_sem, decide_eq_true h1, e8, e9]
    refine ⟨by decide, klp_n (a / 2, n + 1) ?_ (show a / 2 < a by omega) (Wk.of ?_ ?_)⟩
    · show (a / 2 ≤ 1 ∧ aliP w = ((n + 1 : Nat) : Int)) ∨ (a / 2 = 2 ∧ aliP w = ((n + 1 + 1 : Nat) : Int)) ∨ (a / 2 = 4 ∧ aliP w = ((n + 1 + 2 : Nat) : Int)) ∨ (a / 2 = 8 ∧ aliP w = ((n + 1 + 3 : Nat) : Int))
      omega
    · simp only [go_sem]
      try simp
    · simp only [go_sem]
  · have r : aliP w = (n : Nat) := by omega
    simp only [go_sem, decide_eq_false h1]
    rw [r]
    exact pdone [] (by simp only [go_sem]) (by first | rfl | simp [go_sem, slv_ids])
def stoT : List (Int × Int) := [(37, 9), (38, 9), (64528, 9), (64527, 9), (64529, 9), (64526, 10), (64524, 11), (64525, 12), (63, 13), (64, 13), (64523, 13), (64522, 14), (64520, 15), (64521, 16)]
def stoP (op : Int) : Int := match stoT.find? (fun p => p.1 == op) with
  | some p => p.2
  | none => 0
theorem s_stored5 (op : Int) : PCalls Tryd.prog n_opcode_stored [.int .i64 op] (.int .i64 (stoP op)) := by
  refine pfun_sound (ic := F_opcode_stored.body) mixed c_opcode_stored rfl rfl ?_
  by_cases h0 : op = 37
  · subst h0
    simp only [go_sem, F_opcode_stored]
    exact pdone [] (by rfl) rfl
  by_cases h1 : op = 38
  · subst h1
    simp only [go_sem, F_opcode_stored]
    exact pdone [] (by rfl) rfl
  by_cases h2 : op = 64528
  · subst h2
    simp only [go_sem, F_opcode_stored]
    exact pdone [] (by rfl) rfl
  by_cases h3 : op = 64527
  · subst h3
    simp only [go_sem, F_opcode_stored]
    exact pdone [] (by rfl) rfl
  by_cases h4 : op = 64529
  · subst h4
    simp only [go_sem, F_opcode_stored]
    exact pdone [] (by rfl) rfl
  by_cases h5 : op = 64526
  · subst h5
    simp only [go_sem, F_opcode_stored]
    exact pdone [] (by rfl) rfl
  by_cases h6 : op = 64524
  · subst h6
    simp only [go_sem, F_opcode_stored]
    exact pdone [] (by rfl) rfl
  by_cases h7 : op = 64525
  · subst h7
    simp only [go_sem, F_opcode_stored]
    exact pdone [] (by rfl) rfl
  by_cases h8 : op = 63
  · subst h8
    simp only [go_sem, F_opcode_stored]
    exact pdone [] (by rfl) rfl
  by_cases h9 : op = 64
  · subst h9
    simp only [go_sem, F_opcode_stored]
    exact pdone [] (by rfl) rfl
  by_cases h10 : op = 64523
  · subst h10
    simp only [go_sem, F_opcode_stored]
    exact pdone [] (by rfl) rfl
  by_cases h11 : op = 64522
  · subst h11
    simp only [go_sem, F_opcode_stored]
    exact pdone [] (by rfl) rfl
  by_cases h12 : op = 64520
  · subst h12
    simp only [go_sem, F_opcode_stored]
    exact pdone [] (by rfl) rfl
  by_cases h13 : op = 64521
  · subst h13
    simp only [go_sem, F_opcode_stored]
    exact pdone [] (by rfl) rfl
  have r : stoP op = 0 := by
    simp only [stoP, stoT, List.find?_cons, List.find?_nil, beq_f (fun e : (37 : Int) = op => h0 e.symm), beq_f (fun e : (38 : Int) = op => h1 e.symm), beq_f (fun e : (64528 : Int) = op => h2 e.symm), beq_f (fun e : (64527 : Int) = op => h3 e.symm), beq_f (fun e : (64529 : Int) = op => h4 e.symm), beq_f (fun e : (64526 : Int) = op => h5 e.symm), beq_f (fun e : (64524 : Int) = op => h6 e.symm), beq_f (fun e : (64525 : Int) = op => h7 e.symm), beq_f (fun e : (63 : Int) = op => h8 e.symm), beq_f (fun e : (64 : Int) = op => h9 e.symm), beq_f (fun e : (64523 : Int) = op => h10 e.symm), beq_f (fun e : (64522 : Int) = op => h11 e.symm), beq_f (fun e : (64520 : Int) = op => h12 e.symm), beq_f (fun e : (64521 : Int) = op => h13 e.symm)]
  rw [r]
  simp only [go_sem, F_opcode_stored, beq_f h0, beq_f h1, beq_f h2, beq_f h3, beq_f h4, beq_f h5, beq_f h6, beq_f h7, beq_f h8, beq_f h9, beq_f h10, beq_f h11, beq_f h12, beq_f h13]
  exact pdone [] (by rfl) rfl
def immT : List (Int × Int) := [(2, 1), (3, 1), (4, 1), (12, 2), (13, 2), (14, 3), (16, 4), (210, 4), (17, 5), (28, 6), (32, 7), (33, 7), (34, 7), (35, 8), (36, 8), (65, 18), (66, 19), (208, 20)]
def immP (op : Int) : Int := match immT.find? (fun p => p.1 == op) with
  | some p => p.2
  | none => if widP op > 0 then 17 else stoP op
theorem s_of5 (op : Int) : PCalls Tryd.prog n_opcode_Of [.int .i64 op] (.int .i64 (immP op)) := by
  refine pfun_sound (ic := F_opcode_Of.body) mixed c_opcode_Of rfl rfl ?_
  by_cases h0 : op = 2
  · subst h0
    simp only [go_sem, F_opcode_Of]
    exact pdone [] (by rfl) rfl
  by_cases h1 : op = 3
  · subst h1
    simp only [go_sem, F_opcode_Of]
    exact pdone [] (by rfl) rfl
  by_cases h2 : op = 4
  · subst h2
    simp only [go_sem, F_opcode_Of]
    exact pdone [] (by rfl) rfl
  by_cases h3 : op = 12
  · subst h3
    simp only [go_sem, F_opcode_Of]
    exact pdone [] (by rfl) rfl
  by_cases h4 : op = 13
  · subst h4
    simp only [go_sem, F_opcode_Of]
    exact pdone [] (by rfl) rfl
  by_cases h5 : op = 14
  · subst h5
    simp only [go_sem, F_opcode_Of]
    exact pdone [] (by rfl) rfl
  by_cases h6 : op = 16
  · subst h6
    simp only [go_sem, F_opcode_Of]
    exact pdone [] (by rfl) rfl
  by_cases h7 : op = 210
  · subst h7
    simp only [go_sem, F_opcode_Of]
    exact pdone [] (by rfl) rfl
  by_cases h8 : op = 17
  · subst h8
    simp only [go_sem, F_opcode_Of]
    exact pdone [] (by rfl) rfl
  by_cases h9 : op = 28
  · subst h9
    simp only [go_sem, F_opcode_Of]
    exact pdone [] (by rfl) rfl
  by_cases h10 : op = 32
  · subst h10
    simp only [go_sem, F_opcode_Of]
    exact pdone [] (by rfl) rfl
  by_cases h11 : op = 33
  · subst h11
    simp only [go_sem, F_opcode_Of]
    exact pdone [] (by rfl) rfl
  by_cases h12 : op = 34
  · subst h12
    simp only [go_sem, F_opcode_Of]
    exact pdone [] (by rfl) rfl
  by_cases h13 : op = 35
  · subst h13
    simp only [go_sem, F_opcode_Of]
    exact pdone [] (by rfl) rfl
  by_cases h14 : op = 36
  · subst h14
    simp only [go_sem, F_opcode_Of]
    exact pdone [] (by rfl) rfl
  by_cases h15 : op = 65
  · subst h15
    simp only [go_sem, F_opcode_Of]
    exact pdone [] (by rfl) rfl
  by_cases h16 : op = 66
  · subst h16
    simp only [go_sem, F_opcode_Of]
    exact pdone [] (by rfl) rfl
  by_cases h17 : op = 208
  · subst h17
    simp only [go_sem, F_opcode_Of]
    exact pdone [] (by rfl) rfl
  have r : immP op = if widP op > 0 then 17 else stoP op := by
    simp only [immP, immT, List.find?_cons, List.find?_nil, beq_f (fun e : (2 : Int) = op => h0 e.symm), beq_f (fun e : (3 : Int) = op => h1 e.symm), beq_f (fun e : (4 : Int) = op => h2 e.symm), beq_f (fun e : (12 : Int) = op => h3 e.symm), beq_f (fun e : (13 : Int) = op => h4 e.symm), beq_f (fun e : (14 : Int) = op => h5 e.symm), beq_f (fun e : (16 : Int) = op => h6 e.symm), beq_f (fun e : (210 : Int) = op => h7 e.symm), beq_f (fun e : (17 : Int) = op => h8 e.symm), beq_f (fun e : (28 : Int) = op => h9 e.symm), beq_f (fun e : (32 : Int) = op => h10 e.symm), beq_f (fun e : (33 : Int) = op => h11 e.symm), beq_f (fun e : (34 : Int) = op => h12 e.symm), beq_f (fun e : (35 : Int) = op => h13 e.symm), beq_f (fun e : (36 : Int) = op => h14 e.symm), beq_f (fun e : (65 : Int) = op => h15 e.symm), beq_f (fun e : (66 : Int) = op => h16 e.symm), beq_f (fun e : (208 : Int) = op => h17 e.symm)]
  rw [r]
  simp only [go_sem, F_opcode_Of, beq_f h0, beq_f h1, beq_f h2, beq_f h3, beq_f h4, beq_f h5, beq_f h6, beq_f h7, beq_f h8, beq_f h9, beq_f h10, beq_f h11, beq_f h12, beq_f h13, beq_f h14, beq_f h15, beq_f h16, beq_f h17]
  refine call_same (s_width5 op) (by simp [go_sem]) ?_
  by_cases hw : widP op > 0
  · simp only [go_sem, decide_eq_true hw, if_pos hw]
    exact pdone [] (by rfl) rfl
  · simp only [go_sem, decide_eq_false hw, if_neg hw]
    refine call_same (s_stored5 op) (by simp [go_sem]) ?_
    simp only [go_sem]
    exact pdone [] (by rfl) rfl
def costP (op : Int) : Int := if free op = true then 0 else if nameOf op = [] then 0 else 1
theorem s_cost5 (op : Int) : PCalls Tryd.prog n_opcode_Cost [.int .i64 op] (.int .i64 (costP op)) := by
  refine pfun_sound (ic := F_opcode_Cost.body) mixed c_opcode_Cost rfl rfl ?_
  by_cases h0 : op = 1
  · subst h0
    simp only [go_sem, F_opcode_Cost]
    exact pdone [] (by rfl) rfl
  by_cases h1 : op = 2
  · subst h1
    simp only [go_sem, F_opcode_Cost]
    exact pdone [] (by rfl) rfl
  by_cases h2 : op = 3
  · subst h2
    simp only [go_sem, F_opcode_Cost]
    exact pdone [] (by rfl) rfl
  by_cases h3 : op = 5
  · subst h3
    simp only [go_sem, F_opcode_Cost]
    exact pdone [] (by rfl) rfl
  by_cases h4 : op = 11
  · subst h4
    simp only [go_sem, F_opcode_Cost]
    exact pdone [] (by rfl) rfl
  have fr : free op = false := by simp [free, h0, h1, h2, h3, h4]
  simp only [go_sem, F_opcode_Cost, beq_f h0, beq_f h1, beq_f h2, beq_f h3, beq_f h4]
  refine call_same (s_known5 op) (by simp [go_sem]) ?_
  unfold costP
  rw [fr]
  by_cases hn : nameOf op = []
  · have b1 : (nameOf op == []) = true := by rw [hn]; rfl
    simp only [go_sem, b1, Bool.not_true, Bool.not_false]
    rw [if_pos hn]
    exact pdone [] (by rfl) rfl
  · have b1 : (nameOf op == []) = false := by simpa using hn
    simp only [go_sem, b1, Bool.not_true, Bool.not_false]
    rw [if_neg hn]
    exact pdone [] (by rfl) rfl
end Go.Proofs.YtnhnghpnejobfaaDoor
set_option maxRecDepth 100000
set_option maxHeartbeats 4000000
set_option linter.unusedVariables false
set_option linter.unusedSimpArgs false
namespace Go.Proofs.YtnhnghpnejobfaaDoor
open Go Go.Mw

def vl_ (n : Int) : List AV := [.int .i64 n]
theorem vl_e (n : Int) : vl_ n = [.int .i64 n] := rfl
attribute [go_sem] vl_e
theorem s_of (a b : List Int) : PCalls Tryd.prog n_opcode_of [.sl 1 (a.map vl_), .sl 1 (b.map vl_)] (.agg [.sl 1 (a.map vl_), .sl 1 (b.map vl_)]) := by
  refine pfun_sound (ic := F_opcode_of.body) mixed c_opcode_of rfl rfl ?_
  simp only [go_sem, F_opcode_of]
  exact pdone [] (by simp only [go_sem]) (by first | rfl | simp [go_sem, slv_ids])
theorem s_begins (s : List UInt8) (hs : s.length < 1000000) : PCalls Tryd.prog n_opcode_begins [.str s] (.int .i64 (if hpf s [105, 54, 52] = true then 2 else 1)) := by
  refine pfun_sound (ic := F_opcode_begins.body) mixed c_opcode_begins rfl rfl ?_
  simp only [go_sem, F_opcode_begins]
  refine call_same (s_hp s [105, 54, 52] ⟨hs, by decide⟩) (by simp [go_sem]) ?_
  cases hpf s [105, 54, 52]
  · simp only [go_sem]
    exact pdone [] (by rfl) rfl
  · simp only [go_sem]
    exact pdone [] (by rfl) rfl
theorem s_number80 : PCalls Tryd.prog n_opcode_number [.int .i64 80, .int .i64 2, .str [101, 113, 122]] (.agg [.sl 1 [[.int .i64 2]], .sl 1 [[.int .i64 1]]]) := by
  refine pfun_sound (ic := F_opcode_number.body) mixed c_opcode_number rfl rfl ?_
  have a1 : PCalls Tryd.prog n_strings_HasPrefix [.str [101, 113, 122], .str [108, 111, 97, 100]] (.bool false) := s_hp _ _ (by decide)
  have a2 : PCalls Tryd.prog n_strings_HasPrefix [.str [101, 113, 122], .str [115, 116, 111, 114, 101]] (.bool false) := s_hp _ _ (by decide)
  have a3 : PCalls Tryd.prog n_opcode_of [.sl 1 [[.int .i64 2]], .sl 1 [[.int .i64 1]]] (.agg [.sl 1 [[.int .i64 2]], .sl 1 [[.int .i64 1]]]) := s_of [2] [1]
  simp only [go_sem, F_opcode_number]
  refine call_same (a1) (by simp [go_sem]) ?_
  simp only [go_sem]
  refine call_same (a2) (by simp [go_sem]) ?_
  simp only [go_sem]
  refine call_frz [24, 25] ?_ a3 (by simp [go_sem]) ?_
  · simp only [go_sem, Nat.le_refl]
    try rfl
  simp only [go_sem]
  exact pdone [] (by rfl) rfl
theorem s_sig80 : PCalls Tryd.prog n_opcode_Sig [.int .i64 80] (.tup [.agg [.sl 1 [[.int .i64 2]], .sl 1 [[.int .i64 1]]], .bool true]) := by
  refine pfun_sound (ic := F_opcode_Sig.body) mixed c_opcode_Sig rfl rfl ?_
  have nm : nameOf 80 = [105, 54, 52, 46, 101, 113, 122] := by decide +kernel
  have n0 := s_name5 80
  rw [nm] at n0
  have a1 : PCalls Tryd.prog n_strings_HasPrefix [.str [105, 54, 52, 46, 101, 113, 122], .str [105, 51, 50, 46]] (.bool false) := s_hp _ _ (by decide)
  have a2 : PCalls Tryd.prog n_strings_HasPrefix [.str [105, 54, 52, 46, 101, 113, 122], .str [105, 54, 52, 46]] (.bool true) := s_hp _ _ (by decide)
  have a3 : PCalls Tryd.prog n_opcode_begins [.str [105, 54, 52, 46, 101, 113, 122]] (.int .i64 2) := s_begins _ (by decide)
  simp only [go_sem, F_opcode_Sig]
  refine call_same (n0) (by simp [go_sem]) ?_
  simp only [go_sem]
  refine call_same (a1) (by simp [go_sem]) ?_
  simp only [go_sem]
  refine call_same (a2) (by simp [go_sem]) ?_
  simp only [go_sem]
  refine dcall_same a3 (by simp [go_sem]) rfl ?_
  simp only [go_sem]
  refine ⟨by decide, ?_⟩
  refine call_same (s_number80) (by simp [go_sem]) ?_
  simp only [go_sem]
  exact pdone [] (by rfl) rfl
def useT : List (Int × Bool × Bool × Bool) := [(2, true, false, false), (3, true, false, false), (4, true, false, false), (7, true, false, false), (8, true, false, false), (9, true, false, false), (12, true, false, false), (16, true, false, false), (20, true, false, false), (5, true, true, false), (10, true, true, false), (11, true, true, false), (14, true, true, false), (15, true, true, false), (13, false, true, false), (17, true, true, true), (18, false, false, true), (19, false, false, true)]
def usd (i : Int) : Bool × Bool × Bool := match useT.find? (fun p => p.1 == i) with
  | some p => p.2
  | none => (false, false, false)
theorem s_used (i : Int) : PCalls Tryd.prog n_opcode_used [.int .i64 i] (.tup [.bool (usd i).1, .bool (usd i).2.1, .bool (usd i).2.2]) := by
  refine pfun_sound (ic := F_opcode_used.body) mixed c_opcode_used rfl rfl ?_
  by_cases h0 : i = 2
  · subst h0
    simp only [go_sem, F_opcode_used]
    exact pdone [] (by rfl) rfl
  by_cases h1 : i = 3
  · subst h1
    simp only [go_sem, F_opcode_used]
    exact pdone [] (by rfl) rfl
  by_cases h2 : i = 4
  · subst h2
    simp only [go_sem, F_opcode_used]
    exact pdone [] (by rfl) rfl
  by_cases h3 : i = 7
  · subst h3
    simp only [go_sem, F_opcode_used]
    exact pdone [] (by rfl) rfl
  by_cases h4 : i = 8
  · subst h4
    simp only [go_sem, F_opcode_used]
    exact pdone [] (by rfl) rfl
  by_cases h5 : i = 9
  · subst h5
    simp only [go_sem, F_opcode_used]
    exact pdone [] (by rfl) rfl
  by_cases h6 : i = 12
  · subst h6
    simp only [go_sem, F_opcode_used]
    exact pdone [] (by rfl) rfl
  by_cases h7 : i = 16
  · subst h7
    simp only [go_sem, F_opcode_used]
    exact pdone [] (by rfl) rfl
  by_cases h8 : i = 20
  · subst h8
    simp only [go_sem, F_opcode_used]
    exact pdone [] (by rfl) rfl
  by_cases h9 : i = 5
  · subst h9
    simp only [go_sem, F_opcode_used]
    exact pdone [] (by rfl) rfl
  by_cases h10 : i = 10
  · subst h10
    simp only [go_sem, F_opcode_used]
    exact pdone [] (by rfl) rfl
  by_cases h11 : i = 11
  · subst h11
    simp only [go_sem, F_opcode_used]
    exact pdone [] (by rfl) rfl
  by_cases h12 : i = 14
  · subst h12
    simp only [go_sem, F_opcode_used]
    exact pdone [] (by rfl) rfl
  by_cases h13 : i = 15
  · subst h13
    simp only [go_sem, F_opcode_used]
    exact pdone [] (by rfl) rfl
  by_cases h14 : i = 13
  · subst h14
    simp only [go_sem, F_opcode_used]
    exact pdone [] (by rfl) rfl
  by_cases h15 : i = 17
  · subst h15
    simp only [go_sem, F_opcode_used]
    exact pdone [] (by rfl) rfl
  by_cases h16 : i = 18
  · subst h16
    simp only [go_sem, F_opcode_used]
    exact pdone [] (by rfl) rfl
  by_cases h17 : i = 19
  · subst h17
    simp only [go_sem, F_opcode_used]
    exact pdone [] (by rfl) rfl
  have r : usd i = (false, false, false) := by
    simp only [usd, useT, List.find?_cons, List.find?_nil, beq_f (fun e : (2 : Int) = i => h0 e.symm), beq_f (fun e : (3 : Int) = i => h1 e.symm), beq_f (fun e : (4 : Int) = i => h2 e.symm), beq_f (fun e : (7 : Int) = i => h3 e.symm), beq_f (fun e : (8 : Int) = i => h4 e.symm), beq_f (fun e : (9 : Int) = i => h5 e.symm), beq_f (fun e : (12 : Int) = i => h6 e.symm), beq_f (fun e : (16 : Int) = i => h7 e.symm), beq_f (fun e : (20 : Int) = i => h8 e.symm), beq_f (fun e : (5 : Int) = i => h9 e.symm), beq_f (fun e : (10 : Int) = i => h10 e.symm), beq_f (fun e : (11 : Int) = i => h11 e.symm), beq_f (fun e : (14 : Int) = i => h12 e.symm), beq_f (fun e : (15 : Int) = i => h13 e.symm), beq_f (fun e : (13 : Int) = i => h14 e.symm), beq_f (fun e : (17 : Int) = i => h15 e.symm), beq_f (fun e : (18 : Int) = i => h16 e.symm), beq_f (fun e : (19 : Int) = i => h17 e.symm)]
  rw [r]
  simp only [go_sem, F_opcode_used, beq_f h0, beq_f h1, beq_f h2, beq_f h3, beq_f h4, beq_f h5, beq_f h6, beq_f h7, beq_f h8, beq_f h9, beq_f h10, beq_f h11, beq_f h12, beq_f h13, beq_f h14, beq_f h15, beq_f h16, beq_f h17]
  exact pdone [] (by rfl) rfl
theorem s_index (n : Int) : PCalls Tryd.prog n_opcode_index [.int .i64 n] (.bool (decide (n ≥ 0) && decide (n < 4294967296))) := by
  refine pfun_sound (ic := F_opcode_index.body) mixed c_opcode_index rfl rfl ?_
  by_cases h : n ≥ 0
  · simp only [go_sem, F_opcode_index, decide_eq_true h, Bool.true_and]
    exact pdone [] (by simp only [go_sem]) (by first | rfl | simp [go_sem, slv_ids])
  · simp only [go_sem, F_opcode_index, decide_eq_false h, Bool.false_and]
    exact pdone [] (by simp only [go_sem]) (by first | rfl | simp [go_sem, slv_ids])
theorem s_plainNop : PCalls Tryd.prog n_opcode_Plain [.agg [.int .i64 1, .int .i64 0, .int .i64 0, .int .u64 0, .int .i64 0, .int .i64 0, .int .i64 0, .sl 1 [], .sl 1 []]] (.bool true) := by
  refine pfun_sound (ic := F_opcode_Plain.body) mixed c_opcode_Plain rfl rfl ?_
  have e1 : immP 1 = 0 := by decide +kernel
  have a1 := s_of5 1
  rw [e1] at a1
  have a2 : PCalls Tryd.prog n_opcode_used [.int .i64 0] (.tup [.bool false, .bool false, .bool false]) := s_used 0
  have e3 : (!(nameOf 1 == [])) = true := by decide +kernel
  have a3 := s_known5 1
  rw [e3] at a3
  have a4 : PCalls Tryd.prog n_opcode_index [.int .i64 0] (.bool true) := s_index 0
  simp only [go_sem, F_opcode_Plain]
  refine call_same (a1) (by simp [go_sem]) ?_
  simp only [go_sem]
  refine call_same (a2) (by simp [go_sem]) ?_
  simp only [go_sem]
  refine call_same (a3) (by simp [go_sem]) ?_
  simp only [go_sem]
  refine call_same (a4) (by simp [go_sem]) ?_
  simp only [go_sem]
  refine call_same (a4) (by simp [go_sem]) ?_
  have c0 : ((0 : Nat) : Int) = 0 := rfl
  simp only [go_sem, decide_eq_false (show ¬ (0 : Int) ≥ 4294967296 by decide), c0, decide_eq_false (show ¬ (0 : Int) > 0 by decide)]
  refine loop_rule (fun i : Nat => ⟨[(134, .int .i64 0), (135, .int .i64 0)], []⟩) (fun i => True) (fun i => 0) 0 trivial (Wk.of ?_ ?_) ?_
  · simp only [go_sem]
  · trivial
  intro i _
  simp only [go_sem, decide_eq_false (show ¬ (0 : Int) < 0 by decide)]
  exact pdone [] (by simp only [go_sem]) (by first | rfl | simp [go_sem, slv_ids])
theorem nl_instr (a b c d e f g : AV) : nla (.agg [a, b, c, d, e, f, g, .nl, .nl]) (.agg [a, b, c, d, e, f, g, .sl 1 [], .sl 1 []]) := .inr (.inr ⟨_, _, rfl, rfl, .inl rfl, .inl rfl, .inl rfl, .inl rfl, .inl rfl, .inl rfl, .inl rfl, .inr ⟨rfl, 1, rfl⟩, .inr ⟨rfl, 1, rfl⟩, trivial⟩)
theorem s_alive5 : PCalls Tryd.prog n_law05_alive [] (.bool true) := by
  refine pfun_sound (ic := F_law05_alive.body) mixed c_law05_alive rfl rfl ?_
  have e1 : findOf [115, 101, 108, 101, 99, 116] = (27, true) := by decide +kernel
  have a1 := s_find5 [115, 101, 108, 101, 99, 116]
  rw [e1] at a1
  have e2 : nameOf 44 = [105, 51, 50, 46, 108, 111, 97, 100, 56, 95, 115] := by decide +kernel
  have a2 := s_name5 44
  rw [e2] at a2
  have e3 : widP 44 = 1 := by decide +kernel
  have a3 := s_width5 44
  rw [e3] at a3
  have e4 : costP 26 = 1 := by decide +kernel
  have a4 := s_cost5 26
  rw [e4] at a4
  have c1 : ((1 : Nat) : Int) = 1 := rfl
  simp only [go_sem, F_law05_alive]
  refine call_same (a1) (by simp [go_sem]) ?_
  simp only [go_sem]
  refine call_same (s_sig80) (by simp [go_sem]) ?_
  simp only [go_sem]
  refine call_same (a2) (by simp [go_sem]) ?_
  simp only [go_sem]
  refine call_same (a3) (by simp [go_sem]) ?_
  have i1 : aIadr 1 (.sl 1 [[.int .i64 2]]) (.int .i64 0) = some (.ip [.int .i64 2]) := rfl
  have i2 : aIadr 1 (.sl 1 [[.int .i64 1]]) (.int .i64 0) = some (.ip [.int .i64 1]) := rfl
  simp only [go_sem, c1, i1, i2]
  refine call_nl [.agg [.int .i64 1, .int .i64 0, .int .i64 0, .int .u64 0, .int .i64 0, .int .i64 0, .int .i64 0, .sl 1 [], .sl 1 []]] ⟨nl_instr _ _ _ _ _ _ _, trivial⟩ ?_
  refine call_same (s_plainNop) (by simp [go_sem]) ?_
  simp only [go_sem]
  refine call_same (a4) (by simp [go_sem]) ?_
  simp only [go_sem]
  exact pdone [] (by rfl) rfl
end Go.Proofs.YtnhnghpnejobfaaDoor
set_option maxRecDepth 100000
set_option maxHeartbeats 4000000
set_option linter.unusedVariables false
set_option linter.unusedSimpArgs false
namespace Go.Proofs.YtnhnghpnejobfaaDoor
open Go Go.Mw

theorem row_name (op : Int) : nameOf op = rNm op := by
  have h : ∀ l : List Oc, (match (l.map fun o => (o.op, o.nm)).find? (fun x => x.1 == op) with | some o => o.2 | none => []) = ((l.find? (fun o => o.op == op)).getD default).nm := by
    intro l
    induction l with
    | nil => rfl
    | cons a l ih =>
      simp only [List.map_cons, List.find?_cons]
      cases ha : a.op == op
      · exact ih
      · rfl
  exact h OC
theorem row_none {op : Int} (h : rowOf op = none) : rNm op = [] ∧ rIm op = 0 ∧ rKn op = false := by
  simp only [rNm, rIm, rKn, h]
  exact ⟨rfl, rfl, rfl⟩
theorem row_in {p : Int → Bool} (h : OC.all (fun o => p o.op) = true) {op : Int} (hr : rowOf op ≠ none) : p op = true := by
  cases hf : rowOf op with
  | none => exact absurd hf hr
  | some o =>
    have h1 := List.all_eq_true.1 h o (List.mem_of_find?_eq_some hf)
    have h2 := List.find?_some hf
    simp only [beq_iff_eq] at h2
    rw [h2] at h1
    exact h1
theorem tells (op : Int) : (!(nameOf op == [])) = rKn op ∧ nameOf op = rNm op ∧ immP op = rIm op ∧ widP op = widR op ∧ aliP (widP op) = aliR (widR op) ∧ costP op = costR op := by
  by_cases h : rowOf op = none
  · obtain ⟨h1, h2, h3⟩ := row_none h
    have hn : nameOf op = [] := by rw [row_name, h1]
    have hw : widP op = 0 := by
      have : acB op = false := by simp [acB, hn]
      rw [widP, this]; rfl
    have hw2 : widR op = 0 := by rw [widR, h2]; rfl
    have hi : immP op = 0 := by
      have ht : ∀ (l : List (Int × Int)), l.all (fun p => (rowOf p.1).isSome) = true → l.find? (fun p => p.1 == op) = none := by
        intro l hl
        rw [List.find?_eq_none]
        intro p hp hq
        have := List.all_eq_true.1 hl p hp
        simp only [beq_iff_eq] at hq
        rw [hq, h] at this
        cases this
      have hs : stoP op = 0 := by rw [stoP, ht stoT (by decide +kernel)]
      rw [immP, ht immT (by decide +kernel), hw, hs]; rfl
    refine ⟨by rw [hn, h3]; rfl, row_name op, by rw [hi, h2], by rw [hw, hw2], by rw [hw, hw2]; rfl, ?_⟩
    rw [costP, costR, hn, h3]; rfl
  · have := row_in (p := fun op => (!(nameOf op == [])) == rKn op && immP op == rIm op && widP op == widR op && aliP (widP op) == aliR (widR op) && costP op == costR op) (by decide +kernel) h
    simp only [Bool.and_eq_true, beq_iff_eq] at this
    obtain ⟨⟨⟨⟨h1, h2⟩, h3⟩, h4⟩, h5⟩ := this
    exact ⟨h1, row_name op, h2, h3, h4, h5⟩
theorem w_tells (op : Int) : PCalls Tryd.prog n_law05_OpcodeTells [.int .i64 op] (.bool true) := by
  refine pfun_sound (ic := F_law05_OpcodeTells.body) mixed c_law05_OpcodeTells rfl rfl ?_
  obtain ⟨h1, h2, h3, h4, h5, h6⟩ := tells op
  have a1 := s_known5 op
  have a2 := s_name5 op
  have a3 := s_of5 op
  have a4 := s_width5 op
  have a5 := s_align5 op
  have a6 := s_cost5 op
  rw [h1] at a1
  rw [h2] at a2
  rw [h3] at a3
  rw [h4] at a4
  rw [h5] at a5
  rw [h6] at a6
  have t1 := beq_self_eq_true (rKn op)
  have t2 := beq_self_eq_true (rNm op)
  have t3 := beq_self_eq_true (rIm op)
  have t4 := beq_self_eq_true (widR op)
  have t5 := beq_self_eq_true (aliR (widR op))
  have t6 := beq_self_eq_true (costR op)
  simp only [go_sem, F_law05_OpcodeTells]
  refine call_same (a1) (by simp [go_sem]) ?_
  simp only [go_sem]
  refine call_same (r_known op) (by simp [go_sem]) ?_
  simp only [go_sem, t1]
  refine call_same (a2) (by simp [go_sem]) ?_
  simp only [go_sem]
  refine call_same (r_rname op) (by simp [go_sem]) ?_
  simp only [go_sem, t2]
  refine call_same (a3) (by simp [go_sem]) ?_
  simp only [go_sem]
  refine call_same (r_rof op) (by simp [go_sem]) ?_
  simp only [go_sem, t3]
  refine call_same (a4) (by simp [go_sem]) ?_
  simp only [go_sem]
  refine call_same (r_width op) (by simp [go_sem]) ?_
  simp only [go_sem, t4]
  refine call_same (a5) (by simp [go_sem]) ?_
  simp only [go_sem]
  refine call_same (r_align op) (by simp [go_sem]) ?_
  simp only [go_sem, t5]
  refine call_same (a6) (by simp [go_sem]) ?_
  simp only [go_sem]
  refine call_same (r_cost op) (by simp [go_sem]) ?_
  simp only [go_sem, t6]
  refine call_same (s_alive5) (by simp [go_sem]) ?_
  simp only [go_sem]
  exact pdone [] (by rfl) rfl
end Go.Proofs.YtnhnghpnejobfaaDoor
