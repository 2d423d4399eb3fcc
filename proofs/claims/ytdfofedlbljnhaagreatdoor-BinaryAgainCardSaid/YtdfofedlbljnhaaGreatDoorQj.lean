import Derived.Test.YtdfofedlbljnhaaGreatDoorQh
import Derived.Lib.DecodeN
set_option linter.all false
set_option maxRecDepth 100000
set_option maxHeartbeats 40000000
namespace Go.Proofs.YtdfofedlbljnhaaGreatDoor
section
open Go Go.Mw
def gdF (P:aZ→Bool) (m:Md):Fa:=gr (fun i x=>if m5 x.g.v=false then zB 6 i 12 else QA P 6 i x.i) 0 m.gs (Er 6 m.gs.length (32 - (vF 3 m.ims:Nat)))
attribute [local go_sem] di bC dw dd dt db sA Lo LM
def stF (m:Md):Fa:=if m.hs=true∧rP m.st=false then zB 8 0 11 else nT
end
open Go Go.Mw
def ctb (b:Nat):Prop:=¬(b<128∨b≥192)
instance (b:Nat):Decidable (ctb b):=by unfold ctb;exact inferInstance
def hpx (s p:List UInt8):Bool:=decide (p.length≤s.length)&&(s.take p.length==p)
def r3 (n:Int):List AV:=[.int .i32 n]
theorem ajd (n:Int):r3 n=[.int .i32 n]:=rfl
attribute [go_sem] ajd
def rw_ (r:List Int):List AV:=[.sl 1 (r.map mA)]
theorem ajs (r:List Int):rw_ r=[.sl 1 (r.map mA)]:=rfl
attribute [go_sem] ajs
section
attribute [local go_sem] di
end
section
attribute [local go_sem] di
end
section
attribute [local go_sem] di bC dw dd dt db dY fS eW fR fp iH Lo LM
end
section
def exF (m:Md):Fa:=gr (fun i x=>zB 7 i (LL x)) 0 m.exs (Er 7 m.exs.length 64)
attribute [local go_sem] di bC dw dd dt db dY fS eW fR fp iH Lo LM
end
section
def csF (m:Md):Fa:=gr (fun i x=>zB 11 i (O2 x)) 0 m.cs (Er 11 m.cs.length 8)
attribute [local go_sem] di bC dw dd dt db dY fS eW fR fp iH Lo LM
end
section
attribute [local go_sem] di bC dw dd dt db dY fS eW fR fp iH Lo LM
end
section
def imF (m:Md):Fa:=gr (fun i x=>zB 2 i (L6 x)) 0 m.ims (Er 2 m.ims.length 32)
attribute [local go_sem] di bC dw dd dt db dY fS eW fR fp iH Lo LM
end
end Go.Proofs.YtdfofedlbljnhaaGreatDoor