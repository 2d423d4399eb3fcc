import Derived.Test.YtjndcljjbpeljaaGreatDoorPQu
set_option linter.all false
set_option maxRecDepth 100000
set_option maxHeartbeats 40000000
namespace Go.Proofs.YtjndcljjbpeljaaGreatDoor
section
open Go Go.Mw
def ZQ:List (List AV)→List (List AV)→Prop
 | [],[]=>True
 | x :: l,y :: m=>Jw x y∧ZQ l m
 | _,_=>False
variable {b:List UInt8} (hb:b.length<1000000000)
include hb
end
section
open Go Go.Mw
variable {b:List UInt8} (hb:b.length<1000000000)
include hb
end
open Go Go.Mw
section
variable {b:List UInt8} (hb:b.length<1000000000)
include hb
end
section
instance:Inhabited Ft:=⟨⟨[],[]⟩⟩
instance:Inhabited Im:=⟨⟨[],[],0,0,0,⟨0,0,false⟩,⟨0,0,false⟩,⟨0,false⟩⟩⟩
instance:Inhabited Tb:=⟨tb0⟩
instance:Inhabited Lm:=⟨⟨0,0,false⟩⟩
instance:Inhabited Gd:=⟨⟨⟨0,false⟩,[]⟩⟩
instance:Inhabited Ex:=⟨⟨[],0,0⟩⟩
instance:Inhabited El:=⟨⟨0,0,[],0,[]⟩⟩
instance:Inhabited Da:=⟨⟨0,0,[],[]⟩⟩
variable {b:List UInt8} (hb:b.length<1000000000)
include hb
end
section
instance:Inhabited Cd:=⟨⟨0,[],[]⟩⟩
variable {b:List UInt8} (hb:b.length<1000000000)
include hb
end
section
variable {b:List UInt8} (hb:b.length<1000000000)
include hb
attribute [local go_sem] cY ro wa
end
section
instance:Inhabited (List Int×List bz):=⟨([],[])⟩
variable {b:List UInt8} (hb:b.length<1000000000)
include hb
end
end Go.Proofs.YtjndcljjbpeljaaGreatDoor