/-
  Chapter 5 in plain Lean: the table of opcodes.
-/
import Derived.Test.YtdhiiannngjjpaaDoorQi
import Derived.Test.YtdhiiannngjjpaaDoorQc
import Derived.Shelf.Strings.Search3
import Derived.Shelf.Strings.Fields
import Derived.Shelf.Abstract
import Derived.WalkKit
import Derived.OwnWalkIn
import Derived.TacticsInMore
import Derived.LoopNIn
import Derived.LoopIn
set_option linter.unusedVariables false
set_option linter.unusedSimpArgs false
set_option linter.unusedSectionVars false
set_option maxRecDepth 100000
set_option linter.unusedVariables false
namespace Go.Proofs.YtdhiiannngjjpaaDoor
open Go Go.Mw

structure Hr where
  f : Int
  h : List UInt8
  t : List UInt8
structure Oc where
  op : Int
  nm : List UInt8
  im : Int
def hr_ (r : Hr) : List AV := [.int .i64 r.f, .str r.h, .str r.t]
instance : Inhabited Hr := ⟨⟨0, [], []⟩⟩
instance : Inhabited Oc := ⟨⟨0, [], 0⟩⟩
def HR : List Hr := [⟨0, [], [117, 110, 114, 101, 97, 99, 104, 97, 98, 108, 101, 32, 110, 111, 112, 32, 98, 108, 111, 99, 107, 32, 108, 111, 111, 112, 32, 105, 102, 32, 101, 108, 115, 101]⟩,
  ⟨11, [], [101, 110, 100, 32, 98, 114, 32, 98, 114, 95, 105, 102, 32, 98, 114, 95, 116, 97, 98, 108, 101, 32, 114, 101, 116, 117, 114, 110, 32, 99, 97, 108, 108, 32, 99, 97, 108, 108, 95, 105, 110, 100, 105, 114, 101, 99, 116]⟩,
  ⟨26, [], [100, 114, 111, 112, 32, 115, 101, 108, 101, 99, 116, 32, 115, 101, 108, 101, 99, 116]⟩,
  ⟨32, [108, 111, 99, 97, 108, 46], [103, 101, 116, 32, 115, 101, 116, 32, 116, 101, 101]⟩,
  ⟨35, [103, 108, 111, 98, 97, 108, 46], [103, 101, 116, 32, 115, 101, 116]⟩,
  ⟨37, [116, 97, 98, 108, 101, 46], [103, 101, 116, 32, 115, 101, 116]⟩,
  ⟨40, [], [105, 51, 50, 46, 108, 111, 97, 100, 32, 105, 54, 52, 46, 108, 111, 97, 100]⟩,
  ⟨44, [105, 51, 50, 46], [108, 111, 97, 100, 56, 95, 115, 32, 108, 111, 97, 100, 56, 95, 117, 32, 108, 111, 97, 100, 49, 54, 95, 115, 32, 108, 111, 97, 100, 49, 54, 95, 117]⟩,
  ⟨48, [105, 54, 52, 46], [108, 111, 97, 100, 56, 95, 115, 32, 108, 111, 97, 100, 56, 95, 117, 32, 108, 111, 97, 100, 49, 54, 95, 115, 32, 108, 111, 97, 100, 49, 54, 95, 117, 32, 108, 111, 97, 100, 51, 50, 95, 115, 32, 108, 111, 97, 100, 51, 50, 95, 117]⟩,
  ⟨54, [], [105, 51, 50, 46, 115, 116, 111, 114, 101, 32, 105, 54, 52, 46, 115, 116, 111, 114, 101]⟩,
  ⟨58, [105, 51, 50, 46], [115, 116, 111, 114, 101, 56, 32, 115, 116, 111, 114, 101, 49, 54]⟩,
  ⟨60, [105, 54, 52, 46], [115, 116, 111, 114, 101, 56, 32, 115, 116, 111, 114, 101, 49, 54, 32, 115, 116, 111, 114, 101, 51, 50]⟩,
  ⟨63, [109, 101, 109, 111, 114, 121, 46], [115, 105, 122, 101, 32, 103, 114, 111, 119]⟩,
  ⟨65, [], [105, 51, 50, 46, 99, 111, 110, 115, 116, 32, 105, 54, 52, 46, 99, 111, 110, 115, 116]⟩,
  ⟨69, [105, 51, 50, 46], [101, 113, 122, 32, 101, 113, 32, 110, 101, 32, 108, 116, 95, 115, 32, 108, 116, 95, 117, 32, 103, 116, 95, 115, 32, 103, 116, 95, 117, 32, 108, 101, 95, 115, 32, 108, 101, 95, 117, 32, 103, 101, 95, 115, 32, 103, 101, 95, 117]⟩,
  ⟨80, [105, 54, 52, 46], [101, 113, 122, 32, 101, 113, 32, 110, 101, 32, 108, 116, 95, 115, 32, 108, 116, 95, 117, 32, 103, 116, 95, 115, 32, 103, 116, 95, 117, 32, 108, 101, 95, 115, 32, 108, 101, 95, 117, 32, 103, 101, 95, 115, 32, 103, 101, 95, 117]⟩,
  ⟨103, [105, 51, 50, 46], [99, 108, 122, 32, 99, 116, 122, 32, 112, 111, 112, 99, 110, 116, 32, 97, 100, 100, 32, 115, 117, 98, 32, 109, 117, 108, 32, 100, 105, 118, 95, 115, 32, 100, 105, 118, 95, 117, 32, 114, 101, 109, 95, 115, 32, 114, 101, 109, 95, 117, 32, 97, 110, 100, 32, 111, 114, 32, 120, 111, 114, 32, 115, 104, 108, 32, 115, 104, 114, 95, 115, 32, 115, 104, 114, 95, 117, 32, 114, 111, 116, 108, 32, 114, 111, 116, 114]⟩,
  ⟨121, [105, 54, 52, 46], [99, 108, 122, 32, 99, 116, 122, 32, 112, 111, 112, 99, 110, 116, 32, 97, 100, 100, 32, 115, 117, 98, 32, 109, 117, 108, 32, 100, 105, 118, 95, 115, 32, 100, 105, 118, 95, 117, 32, 114, 101, 109, 95, 115, 32, 114, 101, 109, 95, 117, 32, 97, 110, 100, 32, 111, 114, 32, 120, 111, 114, 32, 115, 104, 108, 32, 115, 104, 114, 95, 115, 32, 115, 104, 114, 95, 117, 32, 114, 111, 116, 108, 32, 114, 111, 116, 114]⟩,
  ⟨167, [], [105, 51, 50, 46, 119, 114, 97, 112, 95, 105, 54, 52]⟩,
  ⟨172, [105, 54, 52, 46], [101, 120, 116, 101, 110, 100, 95, 105, 51, 50, 95, 115, 32, 101, 120, 116, 101, 110, 100, 95, 105, 51, 50, 95, 117]⟩,
  ⟨192, [105, 51, 50, 46], [101, 120, 116, 101, 110, 100, 56, 95, 115, 32, 101, 120, 116, 101, 110, 100, 49, 54, 95, 115]⟩,
  ⟨194, [105, 54, 52, 46], [101, 120, 116, 101, 110, 100, 56, 95, 115, 32, 101, 120, 116, 101, 110, 100, 49, 54, 95, 115, 32, 101, 120, 116, 101, 110, 100, 51, 50, 95, 115]⟩,
  ⟨208, [114, 101, 102, 46], [110, 117, 108, 108, 32, 105, 115, 95, 110, 117, 108, 108, 32, 102, 117, 110, 99]⟩,
  ⟨64520, [], [109, 101, 109, 111, 114, 121, 46, 105, 110, 105, 116, 32, 100, 97, 116, 97, 46, 100, 114, 111, 112, 32, 109, 101, 109, 111, 114, 121, 46, 99, 111, 112, 121, 32, 109, 101, 109, 111, 114, 121, 46, 102, 105, 108, 108, 32, 116, 97, 98, 108, 101, 46, 105, 110, 105, 116, 32, 101, 108, 101, 109, 46, 100, 114, 111, 112, 32, 116, 97, 98, 108, 101, 46, 99, 111, 112, 121, 32, 116, 97, 98, 108, 101, 46, 103, 114, 111, 119, 32, 116, 97, 98, 108, 101, 46, 115, 105, 122, 101, 32, 116, 97, 98, 108, 101, 46, 102, 105, 108, 108]⟩]
def OC : List Oc := [⟨0, [117, 110, 114, 101, 97, 99, 104, 97, 98, 108, 101], 0⟩,
  ⟨1, [110, 111, 112], 0⟩,
  ⟨2, [98, 108, 111, 99, 107], 1⟩,
  ⟨3, [108, 111, 111, 112], 1⟩,
  ⟨4, [105, 102], 1⟩,
  ⟨5, [101, 108, 115, 101], 0⟩,
  ⟨11, [101, 110, 100], 0⟩,
  ⟨12, [98, 114], 2⟩,
  ⟨13, [98, 114, 95, 105, 102], 2⟩,
  ⟨14, [98, 114, 95, 116, 97, 98, 108, 101], 3⟩,
  ⟨15, [114, 101, 116, 117, 114, 110], 0⟩,
  ⟨16, [99, 97, 108, 108], 4⟩,
  ⟨17, [99, 97, 108, 108, 95, 105, 110, 100, 105, 114, 101, 99, 116], 5⟩,
  ⟨26, [100, 114, 111, 112], 0⟩,
  ⟨27, [115, 101, 108, 101, 99, 116], 0⟩,
  ⟨28, [115, 101, 108, 101, 99, 116], 6⟩,
  ⟨32, [108, 111, 99, 97, 108, 46, 103, 101, 116], 7⟩,
  ⟨33, [108, 111, 99, 97, 108, 46, 115, 101, 116], 7⟩,
  ⟨34, [108, 111, 99, 97, 108, 46, 116, 101, 101], 7⟩,
  ⟨35, [103, 108, 111, 98, 97, 108, 46, 103, 101, 116], 8⟩,
  ⟨36, [103, 108, 111, 98, 97, 108, 46, 115, 101, 116], 8⟩,
  ⟨37, [116, 97, 98, 108, 101, 46, 103, 101, 116], 9⟩,
  ⟨38, [116, 97, 98, 108, 101, 46, 115, 101, 116], 9⟩,
  ⟨40, [105, 51, 50, 46, 108, 111, 97, 100], 17⟩,
  ⟨41, [105, 54, 52, 46, 108, 111, 97, 100], 17⟩,
  ⟨44, [105, 51, 50, 46, 108, 111, 97, 100, 56, 95, 115], 17⟩,
  ⟨45, [105, 51, 50, 46, 108, 111, 97, 100, 56, 95, 117], 17⟩,
  ⟨46, [105, 51, 50, 46, 108, 111, 97, 100, 49, 54, 95, 115], 17⟩,
  ⟨47, [105, 51, 50, 46, 108, 111, 97, 100, 49, 54, 95, 117], 17⟩,
  ⟨48, [105, 54, 52, 46, 108, 111, 97, 100, 56, 95, 115], 17⟩,
  ⟨49, [105, 54, 52, 46, 108, 111, 97, 100, 56, 95, 117], 17⟩,
  ⟨50, [105, 54, 52, 46, 108, 111, 97, 100, 49, 54, 95, 115], 17⟩,
  ⟨51, [105, 54, 52, 46, 108, 111, 97, 100, 49, 54, 95, 117], 17⟩,
  ⟨52, [105, 54, 52, 46, 108, 111, 97, 100, 51, 50, 95, 115], 17⟩,
  ⟨53, [105, 54, 52, 46, 108, 111, 97, 100, 51, 50, 95, 117], 17⟩,
  ⟨54, [105, 51, 50, 46, 115, 116, 111, 114, 101], 17⟩,
  ⟨55, [105, 54, 52, 46, 115, 116, 111, 114, 101], 17⟩,
  ⟨58, [105, 51, 50, 46, 115, 116, 111, 114, 101, 56], 17⟩,
  ⟨59, [105, 51, 50, 46, 115, 116, 111, 114, 101, 49, 54], 17⟩,
  ⟨60, [105, 54, 52, 46, 115, 116, 111, 114, 101, 56], 17⟩,
  ⟨61, [105, 54, 52, 46, 115, 116, 111, 114, 101, 49, 54], 17⟩,
  ⟨62, [105, 54, 52, 46, 115, 116, 111, 114, 101, 51, 50], 17⟩,
  ⟨63, [109, 101, 109, 111, 114, 121, 46, 115, 105, 122, 101], 13⟩,
  ⟨64, [109, 101, 109, 111, 114, 121, 46, 103, 114, 111, 119], 13⟩,
  ⟨65, [105, 51, 50, 46, 99, 111, 110, 115, 116], 18⟩,
  ⟨66, [105, 54, 52, 46, 99, 111, 110, 115, 116], 19⟩,
  ⟨69, [105, 51, 50, 46, 101, 113, 122], 0⟩,
  ⟨70, [105, 51, 50, 46, 101, 113], 0⟩,
  ⟨71, [105, 51, 50, 46, 110, 101], 0⟩,
  ⟨72, [105, 51, 50, 46, 108, 116, 95, 115], 0⟩,
  ⟨73, [105, 51, 50, 46, 108, 116, 95, 117], 0⟩,
  ⟨74, [105, 51, 50, 46, 103, 116, 95, 115], 0⟩,
  ⟨75, [105, 51, 50, 46, 103, 116, 95, 117], 0⟩,
  ⟨76, [105, 51, 50, 46, 108, 101, 95, 115], 0⟩,
  ⟨77, [105, 51, 50, 46, 108, 101, 95, 117], 0⟩,
  ⟨78, [105, 51, 50, 46, 103, 101, 95, 115], 0⟩,
  ⟨79, [105, 51, 50, 46, 103, 101, 95, 117], 0⟩,
  ⟨80, [105, 54, 52, 46, 101, 113, 122], 0⟩,
  ⟨81, [105, 54, 52, 46, 101, 113], 0⟩,
  ⟨82, [105, 54, 52, 46, 110, 101], 0⟩,
  ⟨83, [105, 54, 52, 46, 108, 116, 95, 115], 0⟩,
  ⟨84, [105, 54, 52, 46, 108, 116, 95, 117], 0⟩,
  ⟨85, [105, 54, 52, 46, 103, 116, 95, 115], 0⟩,
  ⟨86, [105, 54, 52, 46, 103, 116, 95, 117], 0⟩,
  ⟨87, [105, 54, 52, 46, 108, 101, 95, 115], 0⟩,
  ⟨88, [105, 54, 52, 46, 108, 101, 95, 117], 0⟩,
  ⟨89, [105, 54, 52, 46, 103, 101, 95, 115], 0⟩,
  ⟨90, [105, 54, 52, 46, 103, 101, 95, 117], 0⟩,
  ⟨103, [105, 51, 50, 46, 99, 108, 122], 0⟩,
  ⟨104, [105, 51, 50, 46, 99, 116, 122], 0⟩,
  ⟨105, [105, 51, 50, 46, 112, 111, 112, 99, 110, 116], 0⟩,
  ⟨106, [105, 51, 50, 46, 97, 100, 100], 0⟩,
  ⟨107, [105, 51, 50, 46, 115, 117, 98], 0⟩,
  ⟨108, [105, 51, 50, 46, 109, 117, 108], 0⟩,
  ⟨109, [105, 51, 50, 46, 100, 105, 118, 95, 115], 0⟩,
  ⟨110, [105, 51, 50, 46, 100, 105, 118, 95, 117], 0⟩,
  ⟨111, [105, 51, 50, 46, 114, 101, 109, 95, 115], 0⟩,
  ⟨112, [105, 51, 50, 46, 114, 101, 109, 95, 117], 0⟩,
  ⟨113, [105, 51, 50, 46, 97, 110, 100], 0⟩,
  ⟨114, [105, 51, 50, 46, 111, 114], 0⟩,
  ⟨115, [105, 51, 50, 46, 120, 111, 114], 0⟩,
  ⟨116, [105, 51, 50, 46, 115, 104, 108], 0⟩,
  ⟨117, [105, 51, 50, 46, 115, 104, 114, 95, 115], 0⟩,
  ⟨118, [105, 51, 50, 46, 115, 104, 114, 95, 117], 0⟩,
  ⟨119, [105, 51, 50, 46, 114, 111, 116, 108], 0⟩,
  ⟨120, [105, 51, 50, 46, 114, 111, 116, 114], 0⟩,
  ⟨121, [105, 54, 52, 46, 99, 108, 122], 0⟩,
  ⟨122, [105, 54, 52, 46, 99, 116, 122], 0⟩,
  ⟨123, [105, 54, 52, 46, 112, 111, 112, 99, 110, 116], 0⟩,
  ⟨124, [105, 54, 52, 46, 97, 100, 100], 0⟩,
  ⟨125, [105, 54, 52, 46, 115, 117, 98], 0⟩,
  ⟨126, [105, 54, 52, 46, 109, 117, 108], 0⟩,
  ⟨127, [105, 54, 52, 46, 100, 105, 118, 95, 115], 0⟩,
  ⟨128, [105, 54, 52, 46, 100, 105, 118, 95, 117], 0⟩,
  ⟨129, [105, 54, 52, 46, 114, 101, 109, 95, 115], 0⟩,
  ⟨130, [105, 54, 52, 46, 114, 101, 109, 95, 117], 0⟩,
  ⟨131, [105, 54, 52, 46, 97, 110, 100], 0⟩,
  ⟨132, [105, 54, 52, 46, 111, 114], 0⟩,
  ⟨133, [105, 54, 52, 46, 120, 111, 114], 0⟩,
  ⟨134, [105, 54, 52, 46, 115, 104, 108], 0⟩,
  ⟨135, [105, 54, 52, 46, 115, 104, 114, 95, 115], 0⟩,
  ⟨136, [105, 54, 52, 46, 115, 104, 114, 95, 117], 0⟩,
  ⟨137, [105, 54, 52, 46, 114, 111, 116, 108], 0⟩,
  ⟨138, [105, 54, 52, 46, 114, 111, 116, 114], 0⟩,
  ⟨167, [105, 51, 50, 46, 119, 114, 97, 112, 95, 105, 54, 52], 0⟩,
  ⟨172, [105, 54, 52, 46, 101, 120, 116, 101, 110, 100, 95, 105, 51, 50, 95, 115], 0⟩,
  ⟨173, [105, 54, 52, 46, 101, 120, 116, 101, 110, 100, 95, 105, 51, 50, 95, 117], 0⟩,
  ⟨192, [105, 51, 50, 46, 101, 120, 116, 101, 110, 100, 56, 95, 115], 0⟩,
  ⟨193, [105, 51, 50, 46, 101, 120, 116, 101, 110, 100, 49, 54, 95, 115], 0⟩,
  ⟨194, [105, 54, 52, 46, 101, 120, 116, 101, 110, 100, 56, 95, 115], 0⟩,
  ⟨195, [105, 54, 52, 46, 101, 120, 116, 101, 110, 100, 49, 54, 95, 115], 0⟩,
  ⟨196, [105, 54, 52, 46, 101, 120, 116, 101, 110, 100, 51, 50, 95, 115], 0⟩,
  ⟨208, [114, 101, 102, 46, 110, 117, 108, 108], 20⟩,
  ⟨209, [114, 101, 102, 46, 105, 115, 95, 110, 117, 108, 108], 0⟩,
  ⟨210, [114, 101, 102, 46, 102, 117, 110, 99], 4⟩,
  ⟨64520, [109, 101, 109, 111, 114, 121, 46, 105, 110, 105, 116], 15⟩,
  ⟨64521, [100, 97, 116, 97, 46, 100, 114, 111, 112], 16⟩,
  ⟨64522, [109, 101, 109, 111, 114, 121, 46, 99, 111, 112, 121], 14⟩,
  ⟨64523, [109, 101, 109, 111, 114, 121, 46, 102, 105, 108, 108], 13⟩,
  ⟨64524, [116, 97, 98, 108, 101, 46, 105, 110, 105, 116], 11⟩,
  ⟨64525, [101, 108, 101, 109, 46, 100, 114, 111, 112], 12⟩,
  ⟨64526, [116, 97, 98, 108, 101, 46, 99, 111, 112, 121], 10⟩,
  ⟨64527, [116, 97, 98, 108, 101, 46, 103, 114, 111, 119], 9⟩,
  ⟨64528, [116, 97, 98, 108, 101, 46, 115, 105, 122, 101], 9⟩,
  ⟨64529, [116, 97, 98, 108, 101, 46, 102, 105, 108, 108], 9⟩]
def wdA : List UInt8 → List UInt8 → List (List UInt8)
  | [], w => if w = [] then [] else [w]
  | c :: r, w => if c = 32 then (if w = [] then wdA r [] else w :: wdA r []) else wdA r (w ++ [c])
def wds (s : List UInt8) : List (List UInt8) := wdA s []
def exR (f : Int) (h : List UInt8) : Nat → List (List UInt8) → List (Int × List UInt8)
  | _, [] => []
  | k, s :: r => (f + (k : Int), h ++ s) :: exR f h (k + 1) r
def EN : List (Int × List UInt8) := OC.map fun o => (o.op, o.nm)
theorem EN_HR : EN = HR.flatMap fun r => exR r.f r.h 0 (wds r.t) := by decide +kernel
end Go.Proofs.YtdhiiannngjjpaaDoor
set_option maxRecDepth 100000
set_option linter.unusedVariables false
set_option linter.unusedSimpArgs false
namespace Go.Proofs.YtdhiiannngjjpaaDoor
open Go Go.Mw Go.Shelf

def ren144 : Go.Shelf.Ren := ⟨fun | 144 => 71 | 143 => 79 | 219 => 91 | 217 => 94 | 225 => 95 | 224 => 96 | 267 => 97 | 266 => 99 | 314 => 100 | n => n, fun | 9 => 9 | 4 => 4 | 3 => 3 | 5 => 5 | 46 => 108 | 146 => 133 | 51 => 85 | n => n, fun | 1 => 1 | n => n⟩
theorem lays144 : Go.Proofs.Lays.n144 Tryd.prog ren144 := {
  mixed := by kernel_rfl
  f143 := Tryd.func79.trans (congrArg some (by kernel_rfl))
  f144 := Tryd.func71.trans (congrArg some (by kernel_rfl))
  f217 := Tryd.func94.trans (congrArg some (by kernel_rfl))
  f219 := Tryd.func91.trans (congrArg some (by kernel_rfl))
  f224 := Tryd.func96.trans (congrArg some (by kernel_rfl))
  f225 := Tryd.func95.trans (congrArg some (by kernel_rfl))
  f266 := Tryd.func99.trans (congrArg some (by kernel_rfl))
  f267 := Tryd.func97.trans (congrArg some (by kernel_rfl))
  f314 := Tryd.func100.trans (congrArg some (by kernel_rfl))
  t3 := Tryd.underlying3
  a3 := Tryd.isAgg3
  z3 := Tryd.sizeOf3
  v3 := Tryd.zeroValue3
  t4 := Tryd.underlying4
  a4 := Tryd.isAgg4
  z4 := Tryd.sizeOf4
  v4 := Tryd.zeroValue4
  t5 := Tryd.underlying5
  a5 := Tryd.isAgg5
  z5 := Tryd.sizeOf5
  v5 := Tryd.zeroValue5
  t9 := Tryd.underlying9
  a9 := Tryd.isAgg9
  z9 := Tryd.sizeOf9
  v9 := Tryd.zeroValue9
  t46 := Tryd.underlying108
  a46 := Tryd.isAgg108
  z46 := Tryd.sizeOf108
  v46 := Tryd.zeroValue108
  t51 := Tryd.underlying85
  a51 := Tryd.isAgg85
  z51 := Tryd.sizeOf85
  v51 := Tryd.zeroValue85
  t146 := Tryd.underlying133
  a146 := Tryd.isAgg133
  z146 := Tryd.sizeOf133
  v146 := Tryd.zeroValue133
  g1 := by kernel_rfl }
def ren157 : Go.Shelf.Ren := ⟨fun | 157 => 90 | 229 => 92 | 199 => 93 | 261 => 98 | 311 => 101 | 312 => 102 | n => n, fun | 9 => 9 | 31 => 101 | 3 => 3 | 5 => 5 | 4 => 4 | 119 => 124 | 0 => 0 | 40 => 126 | 152 => 128 | 21 => 21 | 154 => 130 | 51 => 85 | 141 => 132 | 196 => 138 | 193 => 135 | 198 => 141 | 49 => 139 | 194 => 136 | 201 => 144 | 226 => 146 | 46 => 108 | 227 => 147 | n => n, fun | 0 => 0 | 6 => 2 | n => n⟩
theorem lays157 : Go.Proofs.Lays.n157 Tryd.prog ren157 := {
  mixed := by kernel_rfl
  f157 := Tryd.func90.trans (congrArg some (by kernel_rfl))
  f199 := Tryd.func93.trans (congrArg some (by kernel_rfl))
  f229 := Tryd.func92.trans (congrArg some (by kernel_rfl))
  f261 := Tryd.func98.trans (congrArg some (by kernel_rfl))
  f311 := Tryd.func101.trans (congrArg some (by kernel_rfl))
  f312 := Tryd.func102.trans (congrArg some (by kernel_rfl))
  t0 := Tryd.underlying0
  a0 := Tryd.isAgg0
  z0 := Tryd.sizeOf0
  v0 := Tryd.zeroValue0
  t3 := Tryd.underlying3
  a3 := Tryd.isAgg3
  z3 := Tryd.sizeOf3
  v3 := Tryd.zeroValue3
  t4 := Tryd.underlying4
  a4 := Tryd.isAgg4
  z4 := Tryd.sizeOf4
  v4 := Tryd.zeroValue4
  t5 := Tryd.underlying5
  a5 := Tryd.isAgg5
  z5 := Tryd.sizeOf5
  v5 := Tryd.zeroValue5
  t9 := Tryd.underlying9
  a9 := Tryd.isAgg9
  z9 := Tryd.sizeOf9
  v9 := Tryd.zeroValue9
  t21 := Tryd.underlying21
  a21 := Tryd.isAgg21
  z21 := Tryd.sizeOf21
  v21 := Tryd.zeroValue21
  t31 := Tryd.underlying101
  a31 := Tryd.isAgg101
  z31 := Tryd.sizeOf101
  v31 := Tryd.zeroValue101
  t40 := Tryd.underlying126
  a40 := Tryd.isAgg126
  z40 := Tryd.sizeOf126
  v40 := Tryd.zeroValue126
  t46 := Tryd.underlying108
  a46 := Tryd.isAgg108
  z46 := Tryd.sizeOf108
  v46 := Tryd.zeroValue108
  t49 := Tryd.underlying139
  a49 := Tryd.isAgg139
  z49 := Tryd.sizeOf139
  v49 := Tryd.zeroValue139
  t51 := Tryd.underlying85
  a51 := Tryd.isAgg85
  z51 := Tryd.sizeOf85
  v51 := Tryd.zeroValue85
  t119 := Tryd.underlying124
  a119 := Tryd.isAgg124
  z119 := Tryd.sizeOf124
  t141 := Tryd.underlying132
  a141 := Tryd.isAgg132
  z141 := Tryd.sizeOf132
  v141 := Tryd.zeroValue132
  t152 := Tryd.underlying128
  a152 := Tryd.isAgg128
  z152 := Tryd.sizeOf128
  v152 := Tryd.zeroValue128
  t154 := Tryd.underlying130
  a154 := Tryd.isAgg130
  z154 := Tryd.sizeOf130
  v154 := Tryd.zeroValue130
  t193 := Tryd.underlying135
  a193 := Tryd.isAgg135
  z193 := Tryd.sizeOf135
  v193 := Tryd.zeroValue135
  t194 := Tryd.underlying136
  a194 := Tryd.isAgg136
  z194 := Tryd.sizeOf136
  v194 := Tryd.zeroValue136
  t196 := Tryd.underlying138
  a196 := Tryd.isAgg138
  z196 := Tryd.sizeOf138
  v196 := Tryd.zeroValue138
  t198 := Tryd.underlying141
  a198 := Tryd.isAgg141
  z198 := Tryd.sizeOf141
  v198 := Tryd.zeroValue141
  t201 := Tryd.underlying144
  a201 := Tryd.isAgg144
  z201 := Tryd.sizeOf144
  v201 := Tryd.zeroValue144
  t226 := Tryd.underlying146
  a226 := Tryd.isAgg146
  z226 := Tryd.sizeOf146
  v226 := Tryd.zeroValue146
  t227 := Tryd.underlying147
  a227 := Tryd.isAgg147
  z227 := Tryd.sizeOf147
  v227 := Tryd.zeroValue147
  g0 := by kernel_rfl
  g6 := by kernel_rfl }

def spT (c : Nat) : Value := .int .u8 (if Lib.isSp (UInt8.ofNat c) then 1 else 0)
theorem cell_block {w w' : World} {b off : Nat} {v : Value} (h : w'.heap[b]? = w.heap[b]?) (hc : w.cell? ⟨b, off, none⟩ = some v) : w'.cell? ⟨b, off, none⟩ = some v := by
  rw [World.cell?_of_block (w := w) h]; exact hc
theorem cell_lt {w : World} {b off : Nat} {v : Value} (h : w.cell? ⟨b, off, none⟩ = some v) : b < w.heap.size := by
  unfold World.cell? at h
  simp only at h
  split at h
  · rename_i c t fr hb; exact lt_of_heap hb
  · cases h
noncomputable def tabs : TabT where
  B b := b = 0 ∨ b = 1
  H w := (∀ c, c < 256 → w.cell? ⟨0, c, none⟩ = some (spT c)) ∧ ∃ m, w.cell? ⟨1, 0, none⟩ = some (.int .i64 m)
  env := []
  rel w M h hM p hp := by cases hp
  stay w w' h hk := ⟨fun c hc => cell_block (hk 0 (.inl rfl)) (h.1 c hc), by obtain ⟨m, hm⟩ := h.2; exact ⟨m, cell_block (hk 1 (.inr rfl)) hm⟩⟩
  low w h b hb := by
    rcases hb with rfl | rfl
    · exact cell_lt (h.1 0 (by decide))
    · obtain ⟨m, hm⟩ := h.2; exact cell_lt hm
noncomputable instance : Tabs Tryd.prog := ⟨tabs⟩
theorem s_contains (s sub : List UInt8) (hs : s.length < 4294967281) : PCalls Tryd.prog n_strings_Contains [.str s, .str sub] (.bool (Lib.contains s sub)) := by
  refine PCalls.of (fun w bl M cargs hH hM ha => ?_) rfl
  match cargs, ha with
  | [a, b], ⟨h1, h2, _⟩ =>
    obtain rfl := h1.str
    obtain rfl := h2.str
    obtain ⟨m, hm⟩ := hH.2
    refine (Any.strings_Contains lays144 ⟨s.toArray⟩ ⟨sub.toArray⟩ m w (by simpa [ByteArray.size] using hs) hm).mono ?_
    rintro e w' ⟨rfl, rfl⟩
    exact ⟨_, rfl, Stp.refl _ _, IRel.bool _⟩
theorem fields_run (s : List UInt8) (hs : s.length < 4294967281) (ha : ∀ b ∈ s, b.toNat < 128) (w : World) (hH : (Tabs.T Tryd.prog).H w) :
    Calls Tryd.prog n_strings_Fields #[.string ⟨s.toArray⟩] w fun e w' => e = .returned (.slice (some ⟨w.heap.size, 0, none⟩) (Lib.fields s).length (Lib.fields s).length) ∧ w' = w.alloc (.cells ((Lib.fields s).map fun l => Value.string ⟨l.toArray⟩).toArray 9) := by
  have h := Any.strings_Fields_core lays157 (by kernel_rfl) ⟨s.toArray⟩ w (by simpa [ByteArray.size] using hs) (fun j b hb => ha b (List.mem_of_getElem? (by simpa using hb))) (fun c hc => hH.1 c hc)
  exact h
/-! ### The program's rows -/
theorem s_rows5 : PCalls Tryd.prog n_opcode_rows [] (.sl 3 (HR.map hr_)) := by
  refine pfun_sound (ic := F_opcode_rows.body) mixed c_opcode_rows rfl rfl ?_
  simp only [go_sem, F_opcode_rows]
  exact pdone [25] (by rfl) rfl
theorem s_named5 : PCalls Tryd.prog n_opcode_named [] (.fn 88 []) := by
  refine pfun_sound (ic := F_opcode_named.body) mixed c_opcode_named rfl rfl ?_
  simp only [go_sem, F_opcode_named]
  exact pdone [] (by simp only [go_sem]) (by first | rfl | simp [go_sem, slv_ids])
end Go.Proofs.YtdhiiannngjjpaaDoor
set_option maxRecDepth 100000
set_option maxHeartbeats 4000000
set_option linter.unusedVariables false
set_option linter.unusedSimpArgs false
namespace Go.Proofs.YtdhiiannngjjpaaDoor
open Go Go.Mw Go.RowKit Go.Shelf
attribute [local go_sem] Oper.semAt_some
def encE (x : Int × List UInt8) : Array Value := #[.int .i64 x.1, .string ⟨x.2.toArray⟩]
theorem rows_cells {M : Nat → Prop} {w : World} {v : Value} (h : VRel (fun _ => none) M w v (.sl 3 (HR.map hr_))) : ∃ b off cap, v = .slice (some ⟨b, off, none⟩) 24 cap ∧ ¬ M b ∧ ∃ c t fr, w.heap[b]? = some (.cells c t fr) ∧
    ∀ i, i < 24 → c[off + i * 3]? = some (.int .i64 (nth HR i).f) ∧ c[off + i * 3 + 1]? = some (.string ⟨(nth HR i).h.toArray⟩) ∧ c[off + i * 3 + 2]? = some (.string ⟨(nth HR i).t.toArray⟩) := by
  have h1 : IRel M w v (.sl 3 (HR.map hr_)) := h
  have hlen : (HR.map hr_).length = 24 := by rfl
  generalize hr : HR.map hr_ = rows at h1 hlen
  cases h1 with
  | nls => simp at hlen
  | sl0 => simp at hlen
  | sl b off cap st c t fr rows vs hb hM hl hr1 hv hx =>
    refine ⟨b, off, cap, by rw [hlen], hM, c, t, fr, hb, fun i hi => ?_⟩
    have hrow : rows[i]? = some (hr_ (nth HR i)) := by
      rw [← hr, List.getElem?_map, nth_some (by rw [← hlen, ← hr] at hi; simpa using hi)]
      rfl
    have key : ∀ j x, (hr_ (nth HR i))[j]? = some x → j < 3 → ∃ u, c[off + i * 3 + j]? = some u ∧ IRel M w u x := fun j x hj hj3 => ⟨_, hv i j (by omega) hj3, hx i j _ _ hrow hj⟩
    obtain ⟨u0, a0, b0⟩ := key 0 (.int .i64 (nth HR i).f) rfl (by omega)
    obtain ⟨u1, a1, b1⟩ := key 1 (.str (nth HR i).h) rfl (by omega)
    obtain ⟨u2, a2, b2⟩ := key 2 (.str (nth HR i).t) rfl (by omega)
    cases b0; cases b1; cases b2
    exact ⟨a0, a1, a2⟩
def preK (k : Nat) : List (Int × List UInt8) := (HR.take k).flatMap fun r => exR r.f r.h 0 (Lib.fields r.t)
theorem HR_ok (k : Nat) (h : k < 24) : (nth HR k).t.length < 4294967281 ∧ ∀ b ∈ (nth HR k).t, b.toNat < 128 := by
  have : ∀ r ∈ HR, r.t.length < 4294967281 ∧ ∀ b ∈ r.t, b.toNat < 128 := by decide +kernel
  exact this _ (by rw [nth_eq (by exact h)]; exact List.getElem_mem _)
theorem HR_ok2 (k : Nat) (h : k < 24) : (nth HR k).h.length < 1000 ∧ 0 ≤ (nth HR k).f ∧ (nth HR k).f < 100000 ∧ (Lib.fields (nth HR k).t).length < 1000 ∧ ∀ s ∈ Lib.fields (nth HR k).t, s.length < 1000 := by
  have : ∀ r ∈ HR, r.h.length < 1000 ∧ 0 ≤ r.f ∧ r.f < 100000 ∧ (Lib.fields r.t).length < 1000 ∧ ∀ s ∈ Lib.fields r.t, s.length < 1000 := by decide +kernel
  exact this _ (by rw [nth_eq (by exact h)]; exact List.getElem_mem _)
theorem exR_len (f : Int) (h : List UInt8) : ∀ (l : List (List UInt8)) (k : Nat), (exR f h k l).length = l.length
  | [], _ => rfl
  | _ :: l, k => by simp [exR, exR_len f h l]
theorem exR_get (f : Int) (h : List UInt8) : ∀ (l : List (List UInt8)) (k j : Nat), j < l.length → (exR f h k l)[j]? = some (f + ((k + j : Nat) : Int), h ++ nth l j)
  | [], _, j, hj => by simp at hj
  | s :: l, k, 0, _ => rfl
  | s :: l, k, j + 1, hj => by
    have := exR_get f h l (k + 1) j (by simpa using hj)
    simp only [exR, List.getElem?_cons_succ]
    rw [this, show k + 1 + j = k + (j + 1) by omega]
    rfl
theorem exR_take {f : Int} {h : List UInt8} {l : List (List UInt8)} {j : Nat} (hj : j < l.length) : (exR f h 0 l).take (j + 1) = (exR f h 0 l).take j ++ [(f + (j : Int), h ++ nth l j)] := by
  rw [List.take_add_one, exR_get f h l 0 j hj, Option.toList_some, Nat.zero_add]
theorem preK_step {k : Nat} (h : k < 24) : preK (k + 1) = preK k ++ exR (nth HR k).f (nth HR k).h 0 (Lib.fields (nth HR k).t) := by
  unfold preK
  rw [List.take_add_one, nth_some (show k < HR.length from h), Option.toList_some, List.flatMap_append, List.flatMap_singleton]
theorem preK_pre {k : Nat} (h : k ≤ 24) : preK k <+: preK 24 := by
  have e : HR.take 24 = HR.take k ++ (HR.take 24).drop k := by
    rw [show HR.take k = (HR.take 24).take k by rw [List.take_take, Nat.min_eq_left h]]; exact (List.take_append_drop k _).symm
  unfold preK
  rw [e, List.flatMap_append]
  exact List.prefix_append _ _
theorem preK_all : preK 24 = HR.flatMap fun r => exR r.f r.h 0 (wds r.t) := by decide +kernel
theorem named1 (n : Nat) (w : World) : SeqM n Tryd.prog 88 #[] encE EN w := by
  intro l J Jx W hH hW hJ hJx hY h0
  refine callsIn_of_wp Tryd.func88 rfl trivial ?_ rfl
  have hE : preK 24 = EN := by rw [EN_HR]; exact preK_all
  have cr := PCalls.run s_rows5 W hH (cargs := []) trivial
  simp only [Tryd.ntmps88, List.size_toArray, List.length_cons, List.length_nil, Nat.reduceAdd, Nat.reduceSub, Array.replicate_succ, Array.replicate_zero, List.push_toArray, List.append_toArray, List.nil_append, List.cons_append]
  gi_wp2
  refine ⟨trivial, fun h => (by cases h), (callsIn_wide.2 cr).mono ?_⟩
  rintro e W1 ⟨v, rfl, hv, hst⟩
  obtain ⟨b, off, cap, rfl, hnb, c, t, fr, hb, hc⟩ := rows_cells hv
  gi_wp2
  gi_loopw [8] (fun i wr => ∃ k : Nat, k ≤ 24 ∧ i = .int .i64 k ∧ J (preK k) wr ∧ W.heap.size ≤ wr.heap.size ∧ wr.heap[b]? = some (.cells c t fr) ∧ (Tabs.T Tryd.prog).H wr) (fun i _ => 24 - (intOf i).toNat)
  case atStart => exact ⟨0, by omega, rfl, hJ _ _ _ h0 hst, hst.size, hb, (Tabs.T Tryd.prog).stay _ _ hH fun q hq => hst.keep q ((Tabs.T Tryd.prog).low _ hH q hq) (fun h => h)⟩
  case round =>
    obtain ⟨k, hk, rfl, hJk, hsz, hbk, hHk⟩ := hrel
    rename World => wo
    by_cases hlt : k < 24
    · have c0 : wo.cell? ⟨b, off + k * 3, none⟩ = some (.int .i64 (nth HR k).f) := (cell_of hbk _).trans (hc k hlt).1
      have c1 : wo.cell? ⟨b, off + k * 3 + 1, none⟩ = some (.string ⟨(nth HR k).h.toArray⟩) := (cell_of hbk _).trans (hc k hlt).2.1
      have c2 : wo.cell? ⟨b, off + k * 3 + 2, none⟩ = some (.string ⟨(nth HR k).t.toArray⟩) := (cell_of hbk _).trans (hc k hlt).2.2
      have hsA := Stp.ofAlloc wo (.cells #[.int .i64 (nth HR k).f, .string ⟨(nth HR k).h.toArray⟩, .string ⟨(nth HR k).t.toArray⟩] 122)
      have hHA := (Tabs.T Tryd.prog).stay _ _ hHk fun q hq => hsA.keep q ((Tabs.T Tryd.prog).low _ hHk q hq) (fun h => h)
      obtain ⟨hl, ha⟩ := HR_ok k hlt
      obtain ⟨hh, hf0, hf1, hfl, hfs⟩ := HR_ok2 k hlt
      have cf := fields_run (nth HR k).t hl ha _ hHA
      generalize hF : Lib.fields (nth HR k).t = fl at cf hfl hfs
      gi_wp2
      refine ⟨trivial, fun h => (by cases h), (callsIn_wide.2 cf).mono ?_⟩
      rintro e W2 ⟨rfl, rfl⟩
      gi_wp2
      gi_loopw [16] (fun i wr2 => ∃ j : Nat, j ≤ fl.length ∧ i = .int .i64 j ∧ J (preK k ++ (exR (nth HR k).f (nth HR k).h 0 fl).take j) wr2 ∧ W.heap.size ≤ wr2.heap.size ∧ wr2.heap[b]? = some (.cells c t fr) ∧
          wr2.heap[wo.heap.size]? = some (.cells #[.int .i64 (nth HR k).f, .string ⟨(nth HR k).h.toArray⟩, .string ⟨(nth HR k).t.toArray⟩] 122) ∧ wr2.heap[wo.heap.size + 1]? = some (.cells (fl.map fun l => Value.string ⟨l.toArray⟩).toArray 9) ∧ (Tabs.T Tryd.prog).H wr2) (fun i _ => fl.length - (intOf i).toNat)
      case atStart =>
        have hsF := hsA.one (Stp.ofAlloc _ (.cells (fl.map fun l => Value.string ⟨l.toArray⟩).toArray 9))
        refine ⟨0, Nat.zero_le _, rfl, ?_, by simp; omega, ?_, ?_, ?_, ?_⟩
        · rw [List.take_zero, List.append_nil]; exact hJ _ _ _ hJk hsF
        · rw [hsF.keep b (lt_of_heap hbk) (fun h => h)]; exact hbk
        · exact (Below.heap_alloc _ _ _ (by simp)).trans (World.alloc_heap_new _ _)
        · have := World.alloc_heap_new (wo.alloc (.cells #[.int .i64 (nth HR k).f, .string ⟨(nth HR k).h.toArray⟩, .string ⟨(nth HR k).t.toArray⟩] 122)) (.cells (fl.map fun l => Value.string ⟨l.toArray⟩).toArray 9)
          rwa [World.size_alloc] at this
        · exact (Tabs.T Tryd.prog).stay _ _ hHk fun q hq => hsF.keep q ((Tabs.T Tryd.prog).low _ hHk q hq) (fun h => h)
      case round =>
        obtain ⟨j, hj, rfl, hJj, hsz2, hb2, hx2, hs2, hH2⟩ := hrel
        by_cases hlt2 : j < fl.length
        · have d0 : wr.cell? ⟨wo.heap.size, 0, none⟩ = some (.int .i64 (nth HR k).f) := cell_of hx2 _
          have d1 : wr.cell? ⟨wo.heap.size, 1, none⟩ = some (.string ⟨(nth HR k).h.toArray⟩) := cell_of hx2 _
          have d3 : wr.cell? ⟨wo.heap.size + 1, j, none⟩ = some (.string ⟨(nth fl j).toArray⟩) := (cell_of hs2 _).trans (by rw [List.getElem?_toArray, List.getElem?_map, nth_some hlt2]; rfl)
          have hss := hfs (nth fl j) (by rw [nth_eq hlt2]; exact List.getElem_mem _)
          have hcat : ¬ 9223372036854775807 < (nth HR k).h.length + (nth fl j).length := by omega
          have hpre : (preK k ++ (exR (nth HR k).f (nth HR k).h 0 fl).take j) ++ [((nth HR k).f + (j : Int), (nth HR k).h ++ nth fl j)] <+: EN := by
            rw [List.append_assoc, ← exR_take hlt2, ← hE, ← hF]
            refine List.IsPrefix.trans ?_ (preK_pre (show k + 1 ≤ 24 by omega))
            rw [preK_step hlt]
            exact (List.prefix_append_right_inj _).2 (List.take_prefix _ _)
          obtain ⟨fn, tmps, assign, body, hy, hR⟩ := hY _ _ wr hJj hpre
          have hw : wrap64 ((nth HR k).f + (j : Int)) = (nth HR k).f + (j : Int) := IntWalk.wrap64_in _ (by omega)
          have hc2 : (ByteArray.mk (nth HR k).h.toArray ++ ByteArray.mk (nth fl j).toArray) = ByteArray.mk ((nth HR k).h ++ nth fl j).toArray := by apply ByteArray.ext; simp
          have hy2 : (Instr.yield l #[.int .i64 ((nth HR k).f + (j : Int)), .string (ByteArray.mk ((nth HR k).h ++ nth fl j).toArray)]).run Tryd.prog wr = .ok (.round l fn tmps assign body) wr := hy
          gi_wp2
          refine ⟨fun h => (by cases h), hR.mono ?_⟩
          rintro e W3 (⟨rfl, hJ3, hk3⟩ | ⟨rfl, hJx3⟩)
          · gi_wp2
            go_roundw
            case rel =>
              refine ⟨j + 1, by omega, by simp, ?_, Nat.le_trans hsz2 hk3.1, ?_, hk3.2.1 _ _ _ _ hsz hx2, hk3.2.1 _ _ _ _ (by omega) hs2, (Tabs.T Tryd.prog).stay _ _ hH2 fun q hq => hk3.2.2 q hq⟩
              · rw [exR_take hlt2, ← List.append_assoc]; exact hJ3
              · by_cases hbw : W.heap.size ≤ b
                · exact hk3.2.1 _ _ _ _ hbw hb2
                · rw [hk3.2.2 b (Classical.byContradiction fun hn => hnb ⟨by omega, hn⟩)]; exact hb2
            case measure => simp [intOf]; omega
          · gi_wp2
            refine bodyPost_ret (results_none rfl _ _ _) rfl ?_
            exact ⟨⟨_, rfl⟩, .inr ⟨_, hpre, hJx3⟩⟩
        · obtain rfl : j = fl.length := by omega
          gi_wp2
          refine ⟨⟨k + 1, by omega, by simp, ?_, hsz2, hb2, hH2⟩, by simp [intOf]; omega⟩
          rw [preK_step hlt, hF]
          rw [List.take_of_length_le (by rw [exR_len]; exact Nat.le_refl _)] at hJj
          exact hJj
    · obtain rfl : k = 24 := by omega
      gi_wp2
      go_end0
      exact ⟨⟨_, rfl⟩, .inl (hE ▸ hJk)⟩
end Go.Proofs.YtdhiiannngjjpaaDoor
set_option maxRecDepth 100000
set_option maxHeartbeats 4000000
set_option linter.unusedVariables false
set_option linter.unusedSimpArgs false
namespace Go.Proofs.YtdhiiannngjjpaaDoor
open Go Go.Mw Go.RowKit Go.Shelf
attribute [local go_sem] Oper.semAt_some
def nameOf (op : Int) : List UInt8 := match EN.find? (fun p => p.1 == op) with
  | some p => p.2
  | none => []
theorem find_pre {α : Type} {f : α → Bool} {l pre : List α} {x : α} (h : pre ++ [x] <+: l) (hn : ∀ p ∈ pre, f p = false) (hx : f x = true) : l.find? f = some x := by
  obtain ⟨r, rfl⟩ := h
  rw [List.append_assoc, List.find?_append, List.find?_eq_none.2 (fun p hp => by rw [hn p hp]; decide)]
  simp [hx]
theorem stp_putObj {w W : World} {l : Nat} {o o' : Obj} (h : Stp No w W) (hl : w.heap.size ≤ l) (hc : W.heap[l]? = some o) (ho : o.isCells = false) : Stp No w (W.putObj l o') where
  size := Nat.le_trans h.size (grownBy_putObj' W l o').size
  keep b hb _ := by rw [World.putObj_heap_other (by omega)]; exact h.keep b hb (fun h => h)
  shape b c t fr hb := by
    obtain ⟨c', fr', h1, h2⟩ := h.shape b c t fr hb
    exact ⟨c', fr', by rw [World.putObj_heap_other (by have := lt_of_heap hb; omega)]; exact h1, h2⟩
  os := (grownBy_putObj' W l o').os.trans h.os
  out := (grownBy_putObj' W l o').output.trans h.out
theorem stp_setCell {w W : World} {a : Addr} {v : Value} (h : Stp No w W) (hl : w.heap.size ≤ a.block) : Stp No w (W.setCell a v) where
  size := by simpa [World.setCell] using h.size
  keep b hb _ := by
    have : b ≠ a.block := by omega
    simp only [World.setCell, Array.getElem?_modify, if_neg (Ne.symm this)]
    exact h.keep b hb (fun h => h)
  shape b c t fr hb := by
    obtain ⟨c', fr', h1, h2⟩ := h.shape b c t fr hb
    have : b ≠ a.block := by have := lt_of_heap hb; omega
    exact ⟨c', fr', by simp only [World.setCell, Array.getElem?_modify, if_neg (Ne.symm this)]; exact h1, h2⟩
  os := h.os
  out := h.out
theorem fn_val {bl : Nat → Option Nat} {M : Nat → Prop} {w : World} {v : Value} {f : FuncId} (h : VRel bl M w v (.fn f [])) : v = .func (.func f) #[] #[] := by
  obtain ⟨cs, rfl, h⟩ := h
  cases cs with
  | nil => rfl
  | cons => exact h.elim
theorem results_cell1 {fn : Func} {t : Tmp} {ty : TypeId} (h : fn.results = #[.cell t ty]) (tmps : Array Value) (P : Program) (w : World) {b : Nat} {v : Value} (ha : tmps.getD t undef = .pointer (some ⟨b, 0, none⟩)) (hagg : (isAgg ty).run P w = .ok false w)
    (hc : w.cell? ⟨b, 0, none⟩ = some v) : (results fn tmps).run P w = .ok v w := by
  simp only [Array.getD_eq_getD_getElem?] at ha
  have hc' : w.cell? { block := b, off := 0 } = some v := hc
  simp [results, h, ha, asAddr, loadVar, hagg, hc']
theorem s_name5 (op : Int) : PCalls Tryd.prog 69 [.int .i64 op] (.str (nameOf op)) := by
  refine PCalls.of (fun w bl M cargs hH hM ha => ?_) rfl
  match cargs, ha with
  | [a], ⟨h1, _⟩ =>
  obtain rfl := h1.int
  refine (callsIn_wide (n := 3)).1 ?_
  refine callsIn_of_wp_marks Tryd.func69 rfl trivial ?_ rfl
  have hs1 := (Stp.ofAlloc w (.cells #[.int .i64 op] 25)).one (Stp.ofAlloc _ (.cells #[.string ⟨#[]⟩] 9))
  have hH1 := (Tabs.T Tryd.prog).stay _ _ hH fun q hq => hs1.keep q ((Tabs.T Tryd.prog).low _ hH q hq) (fun h => h)
  have cn := PCalls.run s_named5 _ hH1 (cargs := []) trivial
  simp only [Tryd.ntmps69, List.size_toArray, List.length_cons, List.length_nil, Nat.reduceAdd, Nat.reduceSub, Array.replicate_succ, Array.replicate_zero, List.push_toArray, List.append_toArray, List.nil_append, List.cons_append]
  gi_wp2
  refine ⟨trivial, (callsIn_wide.2 cn).mono ?_⟩
  rintro e W1 ⟨v, rfl, hv, hst⟩
  obtain rfl := fn_val hv
  have hsW := hs1.one hst
  have hHW := (Tabs.T Tryd.prog).stay _ _ hH fun q hq => hsW.keep q ((Tabs.T Tryd.prog).low _ hH q hq) (fun h => h)
  have hb0 : W1.heap[w.heap.size]? = some (.cells #[.int .i64 op] 25) := by
    rw [hst.keep _ (by simp <;> omega) (fun h => h)]; exact (Below.heap_alloc _ _ _ (by simp)).trans (World.alloc_heap_new _ _)
  have hb1 : W1.heap[w.heap.size + 1]? = some (.cells #[.string ⟨#[]⟩] 9) := by
    rw [hst.keep _ (by simp) (fun h => h)]
    have := World.alloc_heap_new (w.alloc (.cells #[.int .i64 op] 25)) (.cells #[.string ⟨#[]⟩] 9)
    rwa [World.size_alloc] at this
  have hz : w.heap.size + 2 ≤ W1.heap.size := by have := hst.size; simpa using this
  clear cn hst hs1 hH1 hv
  gi_wp2
  refine wpIn_rngM (α := Int × List UInt8) (encs := encE) (E := EN) (by decide) hHW (gf := 88) (lb := #[]) rfl (enters_of Tryd.func88 (by kernel_rfl) rfl) (named1 _ W1) (Stp.refl _ _) (fun _ => rfl)
    (fun pre W => Stp No w W ∧ W.heap[w.heap.size]? = some (.cells #[.int .i64 op] 25) ∧ W.heap[w.heap.size + 1]? = some (.cells #[.string ⟨#[]⟩] 9) ∧ ∀ p ∈ pre, (p.1 == op) = false)
    (fun c pre W => c = .ret ∧ Stp No w W ∧ W.heap[w.heap.size + 1]? = some (.cells #[.string ⟨(nameOf op).toArray⟩] 9))
    (fun s A B h hs => ⟨h.1.one hs, (hs.keep _ (lt_of_heap h.2.1) (fun h => h)).trans h.2.1, (hs.keep _ (lt_of_heap h.2.2.1) (fun h => h)).trans h.2.2.1, h.2.2.2⟩)
    (fun c s A B h hs => ⟨h.1, h.2.1.one hs, (hs.keep _ (lt_of_heap h.2.2) (fun h => h)).trans h.2.2⟩)
    (fun s W l o o' h hl hc ho => ⟨stp_putObj h.1 (by omega) hc ho, by rw [World.putObj_heap_other (by omega)]; exact h.2.1, by rw [World.putObj_heap_other (by omega)]; exact h.2.2.1, h.2.2.2⟩)
    (fun c s W l o o' h hl hc ho => ⟨h.1, stp_putObj h.2.1 (by omega) hc ho, by rw [World.putObj_heap_other (by omega)]; exact h.2.2⟩)
    ⟨hsW, hb0, hb1, fun p hp => absurd hp List.not_mem_nil⟩
    (fun x => { tmps := #[.int .i64 op, .pointer (some ⟨w.heap.size, 0, none⟩), .pointer (some ⟨w.heap.size + 1, 0, none⟩), .int .i64 x.1, .string ⟨x.2.toArray⟩, .func (.func 88) #[] #[], .int .i64 x.1, .string ⟨x.2.toArray⟩, undef, undef, undef, undef], defers := [] }) ?assign ?body ?done ?stop
  case assign =>
    intro l x W K hK
    simp only [encE]
    gi_wp2
    exact hK
  case body =>
    rintro l pre x W ⟨hS, hB0, hB1, hP⟩ hpre
    have d0 : W.cell? ⟨w.heap.size, 0, none⟩ = some (.int .i64 op) := cell_of hB0 _
    have d1 : W.cell? ⟨w.heap.size + 1, 0, none⟩ = some (.string ⟨#[]⟩) := cell_of hB1 _
    have f1 : W.frozen? ⟨w.heap.size + 1, 0, none⟩ = false := by simp [World.frozen?, hB1]
    by_cases hx : x.1 = op
    · have hn : nameOf op = x.2 := by
        unfold nameOf
        rw [find_pre hpre hP (by simpa using hx)]
      gi_wp2
      refine ⟨KeepsOthers.setCell _ _ _, rfl, stp_setCell hS (by simp), ?_⟩
      rw [hn]
      simp [World.setCell, Array.getElem?_modify, hB1]
    · gi_wp2
      refine ⟨⟨Nat.le_refl _, fun _ _ h _ => h⟩, KpM.refl _ _, hS, hB0, hB1, fun p hp => ?_⟩
      rcases List.mem_append.1 hp with hp | hp
      · exact hP p hp
      · rw [List.mem_singleton.1 hp]; simpa using hx
  case done =>
    rintro D W hD ⟨hS, hB0, hB1, hP⟩ hK
    have d1 : W.cell? ⟨w.heap.size + 1, 0, none⟩ = some (.string ⟨#[]⟩) := cell_of hB1 _
    have f1 : W.frozen? ⟨w.heap.size + 1, 0, none⟩ = false := by simp [World.frozen?, hB1]
    have hn : nameOf op = [] := by
      unfold nameOf
      rw [List.find?_eq_none.2 (fun p hp => by rw [hP p hp]; decide)]
    gi_wp2
    have hD2 : (W.setCell ⟨w.heap.size + 1, 0, none⟩ (.string ⟨#[]⟩)).heap[D]? = some (.deferred (some [])) := by
      simp only [World.setCell, Array.getElem?_modify, if_neg (show ¬ w.heap.size + 1 = D by omega)]; exact hK
    have hB3 : (W.setCell ⟨w.heap.size + 1, 0, none⟩ (.string ⟨#[]⟩)).heap[w.heap.size + 1]? = some (.cells #[.string ⟨#[]⟩] 9) := by
      simp [World.setCell, Array.getElem?_modify, hB1]
    have hS2 := stp_putObj (stp_setCell hS (a := ⟨w.heap.size + 1, 0, none⟩) (v := .string ⟨#[]⟩) (by simp)) (by omega) hD2 rfl (o' := .deferred none)
    refine ⟨by simp, .inl ⟨_, _, rfl, run_takeDeferred hD2, ?_⟩⟩
    have hB4 : ((W.setCell ⟨w.heap.size + 1, 0, none⟩ (.string ⟨#[]⟩)).putObj D (.deferred none)).heap[w.heap.size + 1]? = some (.cells #[.string ⟨#[]⟩] 9) := by rw [World.putObj_heap_other (by omega)]; exact hB3
    refine ⟨_, results_cell1 rfl _ _ _ rfl (Tryd.isAgg9 _) (cell_of hB4 _), _, rfl, hS2, ?_⟩
    rw [hn]
    exact IRel.str _
  case stop =>
    rintro D c pre W hD hp ⟨rfl, hS, hB1⟩ hK
    gi_wp2
    have hS2 := stp_putObj hS (by omega) hK rfl (o' := .deferred none)
    refine ⟨by simp, .inl ⟨_, _, rfl, run_takeDeferred hK, ?_⟩⟩
    have hB4 : (W.putObj D (.deferred none)).heap[w.heap.size + 1]? = some (.cells #[.string ⟨(nameOf op).toArray⟩] 9) := by rw [World.putObj_heap_other (by omega)]; exact hB1
    exact ⟨_, results_cell1 rfl _ _ _ rfl (Tryd.isAgg9 _) (cell_of hB4 _), _, rfl, hS2, IRel.str _⟩
end Go.Proofs.YtdhiiannngjjpaaDoor
set_option maxRecDepth 100000
set_option maxHeartbeats 4000000
set_option linter.unusedVariables false
set_option linter.unusedSimpArgs false
namespace Go.Proofs.YtdhiiannngjjpaaDoor
open Go Go.Mw
-- @U: oc_e

def st_ (s : List UInt8) : List AV := [.str s]
theorem st_e (s : List UInt8) : st_ s = [.str s] := rfl
attribute [go_sem] st_e
end Go.Proofs.YtdhiiannngjjpaaDoor
set_option maxRecDepth 100000
set_option maxHeartbeats 4000000
set_option linter.unusedVariables false
set_option linter.unusedSimpArgs false
namespace Go.Proofs.YtdhiiannngjjpaaDoor
open Go Go.Mw
-- @U: oc_e

def rowOf (op : Int) : Option Oc := OC.find? (fun o => o.op == op)
def rNm (op : Int) : List UInt8 := ((rowOf op).getD default).nm
def rIm (op : Int) : Int := ((rowOf op).getD default).im
def rKn (op : Int) : Bool := (rowOf op).isSome
def wthn (s p : List UInt8) : Bool := (List.range (s.length + 1)).any fun i => decide (i + p.length ≤ s.length) && ((s.drop i).take p.length == p)
def wR (s : List UInt8) : Int := if wthn s [100, 56] = true then 1 else if wthn s [101, 56] = true then 1 else if wthn s [100, 49, 54] = true then 2 else if wthn s [101, 49, 54] = true then 2 else
  if wthn s [100, 51, 50] = true then 4 else if wthn s [101, 51, 50] = true then 4 else if (s.drop 1).take 2 = [51, 50] then 4 else 8
def widR (op : Int) : Int := if rIm op ≠ 17 then 0 else wR (rNm op)
def aliR (w : Int) : Int := if w = 2 then 1 else if w = 4 then 2 else if w = 8 then 3 else 0
def free (op : Int) : Bool := op == 1 || (op == 2 || (op == 3 || (op == 5 || op == 11)))
def costR (op : Int) : Int := if free op = true then 0 else if rKn op = true then 1 else 0
end Go.Proofs.YtdhiiannngjjpaaDoor
set_option maxRecDepth 100000
set_option maxHeartbeats 4000000
set_option linter.unusedVariables false
set_option linter.unusedSimpArgs false
namespace Go.Proofs.YtdhiiannngjjpaaDoor
open Go Go.Mw

theorem name_all {p : Int → List UInt8 → Bool} (h : EN.all (fun x => p x.1 x.2) = true) (op : Int) : nameOf op = [] ∨ p op (nameOf op) = true := by
  unfold nameOf
  cases hr : EN.find? (fun x => x.1 == op) with
  | none => exact .inl rfl
  | some o =>
    have h1 := List.all_eq_true.1 h o (List.mem_of_find?_eq_some hr)
    have h2 := List.find?_some hr
    simp only [beq_iff_eq] at h2
    rw [h2] at h1
    exact .inr h1
theorem nameOf_len (op : Int) : (nameOf op).length < 1000 := by
  rcases name_all (p := fun _ s => decide (s.length < 1000)) (by decide +kernel) op with h | h
  · rw [h]; decide
  · exact of_decide_eq_true h
def acB (op : Int) : Bool := decide (op ≥ 40) && (decide (op ≤ 62) && !(nameOf op == []))
theorem acB_len (op : Int) (h : acB op = true) : 5 ≤ (nameOf op).length := by
  simp only [acB, Bool.and_eq_true, decide_eq_true_eq, Bool.not_eq_true', beq_eq_false_iff_ne, ne_eq] at h
  rcases name_all (p := fun k s => decide (40 ≤ k → k ≤ 62 → 5 ≤ s.length)) (by decide +kernel) op with h1 | h1
  · exact absurd h1 h.2.2
  · exact (of_decide_eq_true h1) h.1 h.2.1
theorem s_known5 (op : Int) : PCalls Tryd.prog n_opcode_Known [.int .i64 op] (.bool (!(nameOf op == []))) := by
  refine pfun_sound (ic := F_opcode_Known.body) mixed c_opcode_Known rfl rfl ?_
  simp only [go_sem, F_opcode_Known]
  refine call_same (s_name5 op) (by simp [go_sem]) ?_
  simp only [go_sem]
  exact pdone [] (by simp only [go_sem]) (by first | rfl | simp [go_sem, slv_ids])
theorem s_access (op : Int) : PCalls Tryd.prog n_opcode_access [.int .i64 op] (.bool (acB op)) := by
  refine pfun_sound (ic := F_opcode_access.body) mixed c_opcode_access rfl rfl ?_
  unfold acB
  by_cases h1 : op ≥ 40
  · by_cases h2 : op ≤ 62
    · simp only [go_sem, F_opcode_access, decide_eq_true h1, decide_eq_true h2, Bool.true_and]
      refine call_same (s_known5 op) (by simp [go_sem]) ?_
      simp only [go_sem]
      exact pdone [] (by simp only [go_sem]) (by first | rfl | simp [go_sem, slv_ids])
    · simp only [go_sem, F_opcode_access, decide_eq_true h1, decide_eq_false h2, Bool.true_and, Bool.false_and]
      exact pdone [] (by simp only [go_sem]) (by first | rfl | simp [go_sem, slv_ids])
  · simp only [go_sem, F_opcode_access, decide_eq_false h1, Bool.false_and]
    exact pdone [] (by simp only [go_sem]) (by first | rfl | simp [go_sem, slv_ids])
def wNm (s : List UInt8) : Int := if Lib.contains (s.drop 4) [56] = true then 1 else if Lib.contains (s.drop 4) [49, 54] = true then 2 else if Lib.contains (s.drop 4) [51, 50] = true then 4 else if s.take 3 = [105, 51, 50] then 4 else 8
def widP (op : Int) : Int := if acB op = true then wNm (nameOf op) else 0
theorem s_width5 (op : Int) : PCalls Tryd.prog n_opcode_Width [.int .i64 op] (.int .i64 (widP op)) := by
  refine pfun_sound (ic := F_opcode_Width.body) mixed c_opcode_Width rfl rfl ?_
  simp only [go_sem, F_opcode_Width]
  refine call_same (s_access op) (by simp [go_sem]) ?_
  cases hac : acB op
  · have r : widP op = 0 := by rw [widP, hac]; rfl
    rw [r]
    simp only [go_sem]
    exact pdone [] (by rfl) rfl
  · have r : widP op = wNm (nameOf op) := by rw [widP, hac]; rfl
    have hl := nameOf_len op
    have hl2 := acB_len op hac
    rw [r]
    simp only [go_sem]
    refine call_same (s_name5 op) (by simp [go_sem]) ?_
    simp only [go_sem]
    generalize nameOf op = s at hl hl2
    obtain ⟨Inv, hInv⟩ : ∃ Inv : Nat → Prop, Inv = fun i => i ≤ 3 ∧ (0 < i → Lib.contains (s.drop 4) [56] = false) ∧ (1 < i → Lib.contains (s.drop 4) [49, 54] = false) ∧ (2 < i → Lib.contains (s.drop 4) [51, 50] = false) := ⟨_, rfl⟩
    refine loop_rule (fun i : Nat => ⟨[(11, .ms 11 1 0 3), (12, .int .i64 3), (13, .int .i64 i), (3, .str s), (2, .int .i64 0)], [(11, ⟨3, 1, [[.int .i64 8], [.int .i64 16], [.int .i64 32]], false⟩)]⟩) Inv (fun i => 3 - i) 0 (by rw [hInv]; exact ⟨by decide, fun h => absurd h (by decide), fun h => absurd h (by decide), fun h => absurd h (by decide)⟩) (Wk.of ?_ ?_) ?_
    · simp only [go_sem]; try simp
    · simp only [go_sem]; try simp
    intro i hInv1
    rw [hInv] at hInv1
    obtain ⟨hi, h1, h2, h3⟩ := hInv1
    have hd : (s.drop 4).length < 4294967281 := by simp; omega
    have e4 : (s.drop 4).take (s.length - 4) = s.drop 4 := List.take_of_length_le (by simp)
    have hl4 : 4 ≤ s.length := by omega
    have c0 : ((0 : Nat) : Int) = 0 := rfl
    have c1 : ((1 : Nat) : Int) = 1 := rfl
    have c2 : ((2 : Nat) : Int) = 2 := rfl
    have c3 : ((3 : Nat) : Int) = 3 := rfl
    have ld : ∀ k : Nat, ldO none 1 k 0 (some ⟨3, 1, [[.int .i64 8], [.int .i64 16], [.int .i64 32]], false⟩) = (match k with | 0 => some (.int .i64 8) | 1 => some (.int .i64 16) | 2 => some (.int .i64 32) | _ => none) := fun k => by
      rcases k with _ | _ | _ | k <;> rfl
    have ls : ∀ k : Nat, ldO none 1 k 0 (some ⟨9, 1, [[.str [56]], [.str [49, 54]], [.str [51, 50]]], false⟩) = (match k with | 0 => some (.str [56]) | 1 => some (.str [49, 54]) | 2 => some (.str [51, 50]) | _ => none) := fun k => by
      rcases k with _ | _ | _ | k <;> rfl
    have q0 : IntKind.i64.wrap ((8 : Int).tdiv 16) = 0 := by decide
    have q1 : IntKind.i64.wrap ((16 : Int).tdiv 16) = 1 := by decide
    have q2 : IntKind.i64.wrap ((32 : Int).tdiv 16) = 2 := by decide
    have p0 : IntKind.i64.wrap ((8 : Int).tdiv 8) = 1 := by decide
    have p1 : IntKind.i64.wrap ((16 : Int).tdiv 8) = 2 := by decide
    have p2 : IntKind.i64.wrap ((32 : Int).tdiv 8) = 4 := by decide
    have s0 : IntKind.i64.wrap ((0 : Int) + 1) = 1 := by decide
    have s1 : IntKind.i64.wrap ((1 : Int) + 1) = 2 := by decide
    have s2 : IntKind.i64.wrap ((2 : Int) + 1) = 3 := by decide
    have t0 : (0 : Int).toNat = 0 := rfl
    have t1 : (1 : Int).toNat = 1 := rfl
    have t2 : (2 : Int).toNat = 2 := rfl
    unfold wNm
    rcases (show i = 0 ∨ i = 1 ∨ i = 2 ∨ i = 3 by omega) with rfl | rfl | rfl | rfl
    · simp only [go_sem, hl4, e4, c0, c1, c2, c3, decide_eq_true (show (0 : Int) < 3 by decide), ld, ls, q0, q1, q2, t0, t1, t2]
      refine ⟨⟨by decide, by decide⟩, ⟨by decide, by omega⟩, by decide, ⟨by decide, by decide⟩, ?_⟩
      refine call_same (s_contains (s.drop 4) [56] hd) (by simp [go_sem]) ?_
      cases hc : Lib.contains (s.drop 4) [56]
      · simp only [go_sem]
        refine klp_n 1 (by rw [hInv]; exact ⟨by decide, fun _ => hc, fun h => absurd h (by decide), fun h => absurd h (by decide)⟩) (show 3 - 1 < 3 - 0 by decide) (Wk.of ?_ ?_)
        · simp only [go_sem, s0, s1, s2, c0, c1, c2, c3]
          try simp
        · simp only [go_sem]
      · simp only [go_sem, p0, p1, p2]
        exact ⟨by decide, by exact pdone [] (by rfl) rfl⟩
    · rw [h1 (by decide)]
      simp only [go_sem, hl4, e4, c0, c1, c2, c3, decide_eq_true (show (1 : Int) < 3 by decide), ld, ls, q0, q1, q2, t0, t1, t2]
      refine ⟨⟨by decide, by decide⟩, ⟨by decide, by omega⟩, by decide, ⟨by decide, by decide⟩, ?_⟩
      refine call_same (s_contains (s.drop 4) [49, 54] hd) (by simp [go_sem]) ?_
      cases hc : Lib.contains (s.drop 4) [49, 54]
      · simp only [go_sem]
        refine klp_n 2 (by rw [hInv]; exact ⟨by decide, fun _ => h1 (by decide), fun _ => hc, fun h => absurd h (by decide)⟩) (show 3 - 2 < 3 - 1 by decide) (Wk.of ?_ ?_)
        · simp only [go_sem, s0, s1, s2, c0, c1, c2, c3]
          try simp
        · simp only [go_sem]
      · simp only [go_sem, p0, p1, p2]
        exact ⟨by decide, by exact pdone [] (by rfl) rfl⟩
    · rw [h1 (by decide)]
      rw [h2 (by decide)]
      simp only [go_sem, hl4, e4, c0, c1, c2, c3, decide_eq_true (show (2 : Int) < 3 by decide), ld, ls, q0, q1, q2, t0, t1, t2]
      refine ⟨⟨by decide, by decide⟩, ⟨by decide, by omega⟩, by decide, ⟨by decide, by decide⟩, ?_⟩
      refine call_same (s_contains (s.drop 4) [51, 50] hd) (by simp [go_sem]) ?_
      cases hc : Lib.contains (s.drop 4) [51, 50]
      · simp only [go_sem]
        refine klp_n 3 (by rw [hInv]; exact ⟨by decide, fun _ => h1 (by decide), fun _ => h2 (by decide), fun _ => hc⟩) (show 3 - 3 < 3 - 2 by decide) (Wk.of ?_ ?_)
        · simp only [go_sem, s0, s1, s2, c0, c1, c2, c3]
          try simp
        · simp only [go_sem]
      · simp only [go_sem, p0, p1, p2]
        exact ⟨by decide, by exact pdone [] (by rfl) rfl⟩
    · rw [h1 (by decide), h2 (by decide), h3 (by decide)]
      have e5 : ((3 : Int)).toNat = 3 := rfl
      simp only [go_sem, c3, decide_eq_false (show ¬ (3 : Int) < 3 by decide), List.drop_zero, e5]
      refine ⟨by omega, fun h => ?_, fun h => ?_⟩
      · rw [if_pos (by simpa using h)]
        exact pdone [] (by rfl) rfl
      · rw [if_neg (by simpa using h)]
        exact pdone [] (by rfl) rfl
def aliP (w : Int) : Int := if w = 1 then 0 else if w = 2 then 1 else if w = 4 then 2 else if w = 8 then 3 else 0
def stoT : List (Int × Int) := [(37, 9), (38, 9), (64528, 9), (64527, 9), (64529, 9), (64526, 10), (64524, 11), (64525, 12), (63, 13), (64, 13), (64523, 13), (64522, 14), (64520, 15), (64521, 16)]
def stoP (op : Int) : Int := match stoT.find? (fun p => p.1 == op) with
  | some p => p.2
  | none => 0
theorem s_stored5 (op : Int) : PCalls Tryd.prog n_opcode_stored [.int .i64 op] (.int .i64 (stoP op)) := by
  refine pfun_sound (ic := F_opcode_stored.body) mixed c_opcode_stored rfl rfl ?_
  by_cases h0 : op = 37
  · subst h0
    simp only [go_sem, F_opcode_stored]
    exact pdone [] (by rfl) rfl
  by_cases h1 : op = 38
  · subst h1
    simp only [go_sem, F_opcode_stored]
    exact pdone [] (by rfl) rfl
  by_cases h2 : op = 64528
  · subst h2
    simp only [go_sem, F_opcode_stored]
    exact pdone [] (by rfl) rfl
  by_cases h3 : op = 64527
  · subst h3
    simp only [go_sem, F_opcode_stored]
    exact pdone [] (by rfl) rfl
  by_cases h4 : op = 64529
  · subst h4
    simp only [go_sem, F_opcode_stored]
    exact pdone [] (by rfl) rfl
  by_cases h5 : op = 64526
  · subst h5
    simp only [go_sem, F_opcode_stored]
    exact pdone [] (by rfl) rfl
  by_cases h6 : op = 64524
  · subst h6
    simp only [go_sem, F_opcode_stored]
    exact pdone [] (by rfl) rfl
  by_cases h7 : op = 64525
  · subst h7
    simp only [go_sem, F_opcode_stored]
    exact pdone [] (by rfl) rfl
  by_cases h8 : op = 63
  · subst h8
    simp only [go_sem, F_opcode_stored]
    exact pdone [] (by rfl) rfl
  by_cases h9 : op = 64
  · subst h9
    simp only [go_sem, F_opcode_stored]
    exact pdone [] (by rfl) rfl
  by_cases h10 : op = 64523
  · subst h10
    simp only [go_sem, F_opcode_stored]
    exact pdone [] (by rfl) rfl
  by_cases h11 : op = 64522
  · subst h11
    simp only [go_sem, F_opcode_stored]
    exact pdone [] (by rfl) rfl
  by_cases h12 : op = 64520
  · subst h12
    simp only [go_sem, F_opcode_stored]
    exact pdone [] (by rfl) rfl
  by_cases h13 : op = 64521
  · subst h13
    simp only [go_sem, F_opcode_stored]
    exact pdone [] (by rfl) rfl
  have r : stoP op = 0 := by
    simp only [stoP, stoT, List.find?_cons, List.find?_nil, beq_f (fun e : (37 : Int) = op => h0 e.symm), beq_f (fun e : (38 : Int) = op => h1 e.symm), beq_f (fun e : (64528 : Int) = op => h2 e.symm), beq_f (fun e : (64527 : Int) = op => h3 e.symm), beq_f (fun e : (64529 : Int) = op => h4 e.symm), beq_f (fun e : (64526 : Int) = op => h5 e.symm), beq_f (fun e : (64524 : Int) = op => h6 e.symm), beq_f (fun e : (64525 : Int) = op => h7 e.symm), beq_f (fun e : (63 : Int) = op => h8 e.symm), beq_f (fun e : (64 : Int) = op => h9 e.symm), beq_f (fun e : (64523 : Int) = op => h10 e.symm), beq_f (fun e : (64522 : Int) = op => h11 e.symm), beq_f (fun e : (64520 : Int) = op => h12 e.symm), beq_f (fun e : (64521 : Int) = op => h13 e.symm)]
  rw [r]
  simp only [go_sem, F_opcode_stored, beq_f h0, beq_f h1, beq_f h2, beq_f h3, beq_f h4, beq_f h5, beq_f h6, beq_f h7, beq_f h8, beq_f h9, beq_f h10, beq_f h11, beq_f h12, beq_f h13]
  exact pdone [] (by rfl) rfl
def immT : List (Int × Int) := [(2, 1), (3, 1), (4, 1), (12, 2), (13, 2), (14, 3), (16, 4), (210, 4), (17, 5), (28, 6), (32, 7), (33, 7), (34, 7), (35, 8), (36, 8), (65, 18), (66, 19), (208, 20)]
def immP (op : Int) : Int := match immT.find? (fun p => p.1 == op) with
  | some p => p.2
  | none => if widP op > 0 then 17 else stoP op
theorem s_of5 (op : Int) : PCalls Tryd.prog n_opcode_Of [.int .i64 op] (.int .i64 (immP op)) := by
  refine pfun_sound (ic := F_opcode_Of.body) mixed c_opcode_Of rfl rfl ?_
  by_cases h0 : op = 2
  · subst h0
    simp only [go_sem, F_opcode_Of]
    exact pdone [] (by rfl) rfl
  by_cases h1 : op = 3
  · subst h1
    simp only [go_sem, F_opcode_Of]
    exact pdone [] (by rfl) rfl
  by_cases h2 : op = 4
  · subst h2
    simp only [go_sem, F_opcode_Of]
    exact pdone [] (by rfl) rfl
  by_cases h3 : op = 12
  · subst h3
    simp only [go_sem, F_opcode_Of]
    exact pdone [] (by rfl) rfl
  by_cases h4 : op = 13
  · subst h4
    simp only [go_sem, F_opcode_Of]
    exact pdone [] (by rfl) rfl
  by_cases h5 : op = 14
  · subst h5
    simp only [go_sem, F_opcode_Of]
    exact pdone [] (by rfl) rfl
  by_cases h6 : op = 16
  · subst h6
    simp only [go_sem, F_opcode_Of]
    exact pdone [] (by rfl) rfl
  by_cases h7 : op = 210
  · subst h7
    simp only [go_sem, F_opcode_Of]
    exact pdone [] (by rfl) rfl
  by_cases h8 : op = 17
  · subst h8
    simp only [go_sem, F_opcode_Of]
    exact pdone [] (by rfl) rfl
  by_cases h9 : op = 28
  · subst h9
    simp only [go_sem, F_opcode_Of]
    exact pdone [] (by rfl) rfl
  by_cases h10 : op = 32
  · subst h10
    simp only [go_sem, F_opcode_Of]
    exact pdone [] (by rfl) rfl
  by_cases h11 : op = 33
  · subst h11
    simp only [go_sem, F_opcode_Of]
    exact pdone [] (by rfl) rfl
  by_cases h12 : op = 34
  · subst h12
    simp only [go_sem, F_opcode_Of]
    exact pdone [] (by rfl) rfl
  by_cases h13 : op = 35
  · subst h13
    simp only [go_sem, F_opcode_Of]
    exact pdone [] (by rfl) rfl
  by_cases h14 : op = 36
  · subst h14
    simp only [go_sem, F_opcode_Of]
    exact pdone [] (by rfl) rfl
  by_cases h15 : op = 65
  · subst h15
    simp only [go_sem, F_opcode_Of]
    exact pdone [] (by rfl) rfl
  by_cases h16 : op = 66
  · subst h16
    simp only [go_sem, F_opcode_Of]
    exact pdone [] (by rfl) rfl
  by_cases h17 : op = 208
  · subst h17
    simp only [go_sem, F_opcode_Of]
    exact pdone [] (by rfl) rfl
  have r : immP op = if widP op > 0 then 17 else stoP op := by
    simp only [immP, immT, List.find?_cons, List.find?_nil, beq_f (fun e : (2 : Int) = op => h0 e.symm), beq_f (fun e : (3 : Int) = op => h1 e.symm), beq_f (fun e : (4 : Int) = op => h2 e.symm), beq_f (fun e : (12 : Int) = op => h3 e.symm), beq_f (fun e : (13 : Int) = op => h4 e.symm), beq_f (fun e : (14 : Int) = op => h5 e.symm), beq_f (fun e : (16 : Int) = op => h6 e.symm), beq_f (fun e : (210 : Int) = op => h7 e.symm), beq_f (fun e : (17 : Int) = op => h8 e.symm), beq_f (fun e : (28 : Int) = op => h9 e.symm), beq_f (fun e : (32 : Int) = op => h10 e.symm), beq_f (fun e : (33 : Int) = op => h11 e.symm), beq_f (fun e : (34 : Int) = op => h12 e.symm), beq_f (fun e : (35 : Int) = op => h13 e.symm), beq_f (fun e : (36 : Int) = op => h14 e.symm), beq_f (fun e : (65 : Int) = op => h15 e.symm), beq_f (fun e : (66 : Int) = op => h16 e.symm), beq_f (fun e : (208 : Int) = op => h17 e.symm)]
  rw [r]
  simp only [go_sem, F_opcode_Of, beq_f h0, beq_f h1, beq_f h2, beq_f h3, beq_f h4, beq_f h5, beq_f h6, beq_f h7, beq_f h8, beq_f h9, beq_f h10, beq_f h11, beq_f h12, beq_f h13, beq_f h14, beq_f h15, beq_f h16, beq_f h17]
  refine call_same (s_width5 op) (by simp [go_sem]) ?_
  by_cases hw : widP op > 0
  · simp only [go_sem, decide_eq_true hw, if_pos hw]
    exact pdone [] (by rfl) rfl
  · simp only [go_sem, decide_eq_false hw, if_neg hw]
    refine call_same (s_stored5 op) (by simp [go_sem]) ?_
    simp only [go_sem]
    exact pdone [] (by rfl) rfl
def costP (op : Int) : Int := if free op = true then 0 else if nameOf op = [] then 0 else 1
end Go.Proofs.YtdhiiannngjjpaaDoor
set_option maxRecDepth 100000
set_option maxHeartbeats 4000000
set_option linter.unusedVariables false
set_option linter.unusedSimpArgs false
namespace Go.Proofs.YtdhiiannngjjpaaDoor
open Go Go.Mw

def vl_ (n : Int) : List AV := [.int .i64 n]
theorem vl_e (n : Int) : vl_ n = [.int .i64 n] := rfl
attribute [go_sem] vl_e
def useT : List (Int × Bool × Bool × Bool) := [(2, true, false, false), (3, true, false, false), (4, true, false, false), (7, true, false, false), (8, true, false, false), (9, true, false, false), (12, true, false, false), (16, true, false, false), (20, true, false, false), (5, true, true, false), (10, true, true, false), (11, true, true, false), (14, true, true, false), (15, true, true, false), (13, false, true, false), (17, true, true, true), (18, false, false, true), (19, false, false, true)]
def usd (i : Int) : Bool × Bool × Bool := match useT.find? (fun p => p.1 == i) with
  | some p => p.2
  | none => (false, false, false)
theorem s_used (i : Int) : PCalls Tryd.prog n_opcode_used [.int .i64 i] (.tup [.bool (usd i).1, .bool (usd i).2.1, .bool (usd i).2.2]) := by
  refine pfun_sound (ic := F_opcode_used.body) mixed c_opcode_used rfl rfl ?_
  by_cases h0 : i = 2
  · subst h0
    simp only [go_sem, F_opcode_used]
    exact pdone [] (by rfl) rfl
  by_cases h1 : i = 3
  · subst h1
    simp only [go_sem, F_opcode_used]
    exact pdone [] (by rfl) rfl
  by_cases h2 : i = 4
  · subst h2
    simp only [go_sem, F_opcode_used]
    exact pdone [] (by rfl) rfl
  by_cases h3 : i = 7
  · subst h3
    simp only [go_sem, F_opcode_used]
    exact pdone [] (by rfl) rfl
  by_cases h4 : i = 8
  · subst h4
    simp only [go_sem, F_opcode_used]
    exact pdone [] (by rfl) rfl
  by_cases h5 : i = 9
  · subst h5
    simp only [go_sem, F_opcode_used]
    exact pdone [] (by rfl) rfl
  by_cases h6 : i = 12
  · subst h6
    simp only [go_sem, F_opcode_used]
    exact pdone [] (by rfl) rfl
  by_cases h7 : i = 16
  · subst h7
    simp only [go_sem, F_opcode_used]
    exact pdone [] (by rfl) rfl
  by_cases h8 : i = 20
  · subst h8
    simp only [go_sem, F_opcode_used]
    exact pdone [] (by rfl) rfl
  by_cases h9 : i = 5
  · subst h9
    simp only [go_sem, F_opcode_used]
    exact pdone [] (by rfl) rfl
  by_cases h10 : i = 10
  · subst h10
    simp only [go_sem, F_opcode_used]
    exact pdone [] (by rfl) rfl
  by_cases h11 : i = 11
  · subst h11
    simp only [go_sem, F_opcode_used]
    exact pdone [] (by rfl) rfl
  by_cases h12 : i = 14
  · subst h12
    simp only [go_sem, F_opcode_used]
    exact pdone [] (by rfl) rfl
  by_cases h13 : i = 15
  · subst h13
    simp only [go_sem, F_opcode_used]
    exact pdone [] (by rfl) rfl
  by_cases h14 : i = 13
  · subst h14
    simp only [go_sem, F_opcode_used]
    exact pdone [] (by rfl) rfl
  by_cases h15 : i = 17
  · subst h15
    simp only [go_sem, F_opcode_used]
    exact pdone [] (by rfl) rfl
  by_cases h16 : i = 18
  · subst h16
    simp only [go_sem, F_opcode_used]
    exact pdone [] (by rfl) rfl
  by_cases h17 : i = 19
  · subst h17
    simp only [go_sem, F_opcode_used]
    exact pdone [] (by rfl) rfl
  have r : usd i = (false, false, false) := by
    simp only [usd, useT, List.find?_cons, List.find?_nil, beq_f (fun e : (2 : Int) = i => h0 e.symm), beq_f (fun e : (3 : Int) = i => h1 e.symm), beq_f (fun e : (4 : Int) = i => h2 e.symm), beq_f (fun e : (7 : Int) = i => h3 e.symm), beq_f (fun e : (8 : Int) = i => h4 e.symm), beq_f (fun e : (9 : Int) = i => h5 e.symm), beq_f (fun e : (12 : Int) = i => h6 e.symm), beq_f (fun e : (16 : Int) = i => h7 e.symm), beq_f (fun e : (20 : Int) = i => h8 e.symm), beq_f (fun e : (5 : Int) = i => h9 e.symm), beq_f (fun e : (10 : Int) = i => h10 e.symm), beq_f (fun e : (11 : Int) = i => h11 e.symm), beq_f (fun e : (14 : Int) = i => h12 e.symm), beq_f (fun e : (15 : Int) = i => h13 e.symm), beq_f (fun e : (13 : Int) = i => h14 e.symm), beq_f (fun e : (17 : Int) = i => h15 e.symm), beq_f (fun e : (18 : Int) = i => h16 e.symm), beq_f (fun e : (19 : Int) = i => h17 e.symm)]
  rw [r]
  simp only [go_sem, F_opcode_used, beq_f h0, beq_f h1, beq_f h2, beq_f h3, beq_f h4, beq_f h5, beq_f h6, beq_f h7, beq_f h8, beq_f h9, beq_f h10, beq_f h11, beq_f h12, beq_f h13, beq_f h14, beq_f h15, beq_f h16, beq_f h17]
  exact pdone [] (by rfl) rfl
theorem s_index (n : Int) : PCalls Tryd.prog n_opcode_index [.int .i64 n] (.bool (decide (n ≥ 0) && decide (n < 4294967296))) := by
  refine pfun_sound (ic := F_opcode_index.body) mixed c_opcode_index rfl rfl ?_
  by_cases h : n ≥ 0
  · simp only [go_sem, F_opcode_index, decide_eq_true h, Bool.true_and]
    exact pdone [] (by simp only [go_sem]) (by first | rfl | simp [go_sem, slv_ids])
  · simp only [go_sem, F_opcode_index, decide_eq_false h, Bool.false_and]
    exact pdone [] (by simp only [go_sem]) (by first | rfl | simp [go_sem, slv_ids])
end Go.Proofs.YtdhiiannngjjpaaDoor
set_option maxRecDepth 100000
set_option maxHeartbeats 4000000
set_option linter.unusedVariables false
set_option linter.unusedSimpArgs false
namespace Go.Proofs.YtdhiiannngjjpaaDoor
open Go Go.Mw

theorem row_name (op : Int) : nameOf op = rNm op := by
  have h : ∀ l : List Oc, (match (l.map fun o => (o.op, o.nm)).find? (fun x => x.1 == op) with | some o => o.2 | none => []) = ((l.find? (fun o => o.op == op)).getD default).nm := by
    intro l
    induction l with
    | nil => rfl
    | cons a l ih =>
      simp only [List.map_cons, List.find?_cons]
      cases ha : a.op == op
      · exact ih
      · rfl
  exact h OC
theorem row_none {op : Int} (h : rowOf op = none) : rNm op = [] ∧ rIm op = 0 ∧ rKn op = false := by
  simp only [rNm, rIm, rKn, h]
  exact ⟨rfl, rfl, rfl⟩
theorem row_in {p : Int → Bool} (h : OC.all (fun o => p o.op) = true) {op : Int} (hr : rowOf op ≠ none) : p op = true := by
  cases hf : rowOf op with
  | none => exact absurd hf hr
  | some o =>
    have h1 := List.all_eq_true.1 h o (List.mem_of_find?_eq_some hf)
    have h2 := List.find?_some hf
    simp only [beq_iff_eq] at h2
    rw [h2] at h1
    exact h1
theorem tells (op : Int) : (!(nameOf op == [])) = rKn op ∧ nameOf op = rNm op ∧ immP op = rIm op ∧ widP op = widR op ∧ aliP (widP op) = aliR (widR op) ∧ costP op = costR op := by
  by_cases h : rowOf op = none
  · obtain ⟨h1, h2, h3⟩ := row_none h
    have hn : nameOf op = [] := by rw [row_name, h1]
    have hw : widP op = 0 := by
      have : acB op = false := by simp [acB, hn]
      rw [widP, this]; rfl
    have hw2 : widR op = 0 := by rw [widR, h2]; rfl
    have hi : immP op = 0 := by
      have ht : ∀ (l : List (Int × Int)), l.all (fun p => (rowOf p.1).isSome) = true → l.find? (fun p => p.1 == op) = none := by
        intro l hl
        rw [List.find?_eq_none]
        intro p hp hq
        have := List.all_eq_true.1 hl p hp
        simp only [beq_iff_eq] at hq
        rw [hq, h] at this
        cases this
      have hs : stoP op = 0 := by rw [stoP, ht stoT (by decide +kernel)]
      rw [immP, ht immT (by decide +kernel), hw, hs]; rfl
    refine ⟨by rw [hn, h3]; rfl, row_name op, by rw [hi, h2], by rw [hw, hw2], by rw [hw, hw2]; rfl, ?_⟩
    rw [costP, costR, hn, h3]; rfl
  · have := row_in (p := fun op => (!(nameOf op == [])) == rKn op && immP op == rIm op && widP op == widR op && aliP (widP op) == aliR (widR op) && costP op == costR op) (by decide +kernel) h
    simp only [Bool.and_eq_true, beq_iff_eq] at this
    obtain ⟨⟨⟨⟨h1, h2⟩, h3⟩, h4⟩, h5⟩ := this
    exact ⟨h1, row_name op, h2, h3, h4, h5⟩
end Go.Proofs.YtdhiiannngjjpaaDoor
set_option maxRecDepth 100000
set_option maxHeartbeats 4000000
set_option linter.unusedVariables false
set_option linter.unusedSimpArgs false
namespace Go.Proofs.YtdhiiannngjjpaaDoor
open Go Go.Mw

structure Ins where
  op : Int
  a : Int
  b : Int
  n : Int
  k : Int
  v : Int
  x : Int
  ty : List Int
  lb : List Int
def ins_ (i : Ins) : AV := .agg [.int .i64 i.op, .int .i64 i.a, .int .i64 i.b, .int .u64 i.n, .int .i64 i.k, .int .i64 i.v, .int .i64 i.x, .sl 1 (i.ty.map vl_), .sl 1 (i.lb.map vl_)]
theorem ins_e (i : Ins) : ins_ i = .agg [.int .i64 i.op, .int .i64 i.a, .int .i64 i.b, .int .u64 i.n, .int .i64 i.k, .int .i64 i.v, .int .i64 i.x, .sl 1 (i.ty.map vl_), .sl 1 (i.lb.map vl_)] := rfl
-- @U: ins_e, vl_e, List.length_map
end Go.Proofs.YtdhiiannngjjpaaDoor
