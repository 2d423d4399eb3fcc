import Derived.Test.YthhglklcaodfmaaGreatDoorCQe
set_option linter.all false
set_option maxRecDepth 100000
set_option maxHeartbeats 4000000
namespace Go.Proofs.YthhglklcaodfmaaGreatDoor
open Go Go.Mw
attribute[go_sem] bne_self_eq_false lD
section
variable(b:List UInt8)(a:Nat)(e:Int)(ha:a<=b.length)(hb:b.length<1000000000)
include ha hb
