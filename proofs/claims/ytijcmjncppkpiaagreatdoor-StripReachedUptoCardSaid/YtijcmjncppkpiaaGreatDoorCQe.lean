import Derived.Test.YtijcmjncppkpiaaGreatDoorCQd
set_option linter.all false
set_option maxRecDepth 100000
set_option maxHeartbeats 4000000
namespace Go.Proofs.YtijcmjncppkpiaaGreatDoor
open Go Go.Mw
def wo(q:Nat)(m:Bool)(l:List UInt8)(e:Int):aj:=⟨283,3,[[.bool m,.ms q 1 0 l.length,.int .i64 e]],true⟩
def wa(l:List UInt8):aj:=⟨5,1,l.map FZ,false⟩
