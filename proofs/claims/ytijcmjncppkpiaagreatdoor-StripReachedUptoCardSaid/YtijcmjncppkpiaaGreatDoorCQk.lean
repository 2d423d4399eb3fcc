import Derived.Test.YtijcmjncppkpiaaGreatDoorCQh
import Derived.Lib.DecodeN
set_option linter.all false
set_option maxRecDepth 100000
set_option maxHeartbeats 40000000
namespace Go.Proofs.YtijcmjncppkpiaaGreatDoor
section
open Go Go.Mw
def HS(F:Fa):AV:=.agg [.int .i64 F.p,.int .i64 F.i,.int .i64 F.l,.int .i64 F.c]
attribute[local go_sem] bP bn cQ dt bH HS
end
section
open Go Go.Mw
attribute[local go_sem] bP bn cQ bT cC
end
section
open Go Go.Mw
def If(F:Fa):aj:=⟨142,4,[[.int .i64 F.p,.int .i64 F.i,.int .i64 F.l,.int .i64 F.c]],true⟩
attribute[local go_sem] bP bn aU cQ bT cC HS If
end
section
open Go Go.Mw
attribute[local go_sem] bP bn aU cQ bT cC HS If
end
section
open Go Go.Mw
attribute[local go_sem] bP bn aU cQ bT cC HS If
end
section
open Go Go.Mw
attribute[local go_sem] bP bn aU cQ bT cC HS If
end
section
open Go Go.Mw
attribute[local go_sem] bP bn aU cQ bT cC cj HS If
end
section
open Go Go.Mw
attribute[local go_sem] bP bn aU cQ bT cC gC HS If
end
open Go Go.Mw
def ctb(b:Nat):Prop:=¬(b<128\/b>=192)
instance(b:Nat):Decidable (ctb b):=by unfold ctb;exact inferInstance
section
def Ru(s p:List UInt8):Bool:=decide (p.length<=s.length)&&(s.take p.length==p)
attribute[local go_sem] bP
def r3(n:Int):List AV:=[.int .i32 n]
def aen(n:Int):r3 n=[.int .i32 n]:=rfl
attribute[go_sem] aen
def E3(v:AV):Prop:=aI v=[]
end
section
attribute[local go_sem] bP
end
section
def rw_(r:List Int):List AV:=[.sl 1 (r.map bg)]
def aex(r:List Int):rw_ r=[.sl 1 (r.map bg)]:=rfl
attribute[go_sem] aex
attribute[local go_sem] bP
end
section
attribute[local go_sem] bP
end
section
attribute[local go_sem] bP
