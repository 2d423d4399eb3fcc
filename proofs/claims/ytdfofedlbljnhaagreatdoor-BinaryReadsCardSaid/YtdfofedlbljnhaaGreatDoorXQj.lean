import Derived.Test.YtdfofedlbljnhaaGreatDoorXQh
import Derived.Lib.DecodeN
set_option linter.all false
set_option maxRecDepth 100000
set_option maxHeartbeats 40000000
namespace Go.Proofs.YtdfofedlbljnhaaGreatDoor
section
open Go Go.Mw
def gdF(P:be->Bool)(m:Md):Fa:=gr (λi x=>if qh x.g.v=false then zF 6 i 12 else Qg P 6 i x.i) 0 m.gs (Db 6 m.gs.length (32-(vw 3 m.ims:Nat)))
attribute[local go_sem] bZ b_ dC dg dA dc s8 Kx K1
def stF(m:Md):Fa:=if m.hs=true/\tC m.st=false then zF 8 0 11 else nY
end
open Go Go.Mw
def ctb(b:Nat):Prop:=¬(b<128\/b>=192)
instance(b:Nat):Decidable (ctb b):=by unfold ctb;exact inferInstance
def hpx(s p:Af):Bool:=decide (p.length<=s.length)&&(s.take p.length==p)
def r3(n:Int):List AV:=[.int .i32 n]
def aiw(n:Int):r3 n=[.int .i32 n]:=rfl
attribute[go_sem] aiw
def rw_(r:List Int):List AV:=[.sl 1 (r.map jM)]
def aiL(r:List Int):rw_ r=[.sl 1 (r.map jM)]:=rfl
attribute[go_sem] aiL
section
attribute[local go_sem] bZ
end
section
attribute[local go_sem] bZ
end
section
attribute[local go_sem] bZ b_ dC dg dA dc df fR eX fQ fv iG Kx K1
end
section
def exF(m:Md):Fa:=gr (λi x=>zF 7 i (MN x)) 0 m.exs (Db 7 m.exs.length 64)
attribute[local go_sem] bZ b_ dC dg dA dc df fR eX fQ fv iG Kx K1
end
section
def csF(m:Md):Fa:=gr (λi x=>zF 11 i (P_ x)) 0 m.cs (Db 11 m.cs.length 8)
attribute[local go_sem] bZ b_ dC dg dA dc df fR eX fQ fv iG Kx K1
end
section
attribute[local go_sem] bZ b_ dC dg dA dc df fR eX fQ fv iG Kx K1
end
section
def imF(m:Md):Fa:=gr (λi x=>zF 2 i (M1 x)) 0 m.ims (Db 2 m.ims.length 32)
attribute[local go_sem] bZ b_ dC dg dA dc df fR eX fQ fv iG Kx K1
end
section
def daR(P:be->Bool)(i:Nat)(x:Da):Fa:=if x.mo≠0/\(x.mo≠1\/x.me≠0\/x.o.length>0)then zF 10 i 1 else if tC x.me=false then zF 10 i 11 else if x.b.length>4096 then zF 10 i 6 else Qg P 10 i x.o
def dsF(P:be->Bool)(m:Md):Fa:=gr (daR P) 0 m.ds (Db 10 m.ds.length 16)
attribute[local go_sem] bZ b_ dC dg dA dc df fR eX fQ fv iG Kx K1
