import Derived.Test.YthhglklcaodfmaaGreatDoorQk
set_option linter.all false
set_option maxRecDepth 100000
set_option maxHeartbeats 40000000
namespace Go.Proofs.YthhglklcaodfmaaGreatDoor
section
open Go Go.Mw
attribute [local go_sem] bT
end
section
open Go Go.Mw
attribute [local go_sem] bT
end
section
open Go Go.Mw
attribute [local go_sem] bT bM aY cw bO b_ df dy eS eB dx eV A8 Bu
end
section
open Go Go.Mw
attribute [local go_sem] bT bM aY cw bO b_ df dy eS eB dx eV A8 Bu
end
section
open Go Go.Mw
attribute [local go_sem] bT bM aY cw bO b_ df dy eS eB dx eV A8 Bu
end
section
open Go Go.Mw
attribute [local go_sem] bT bM aY cw bO b_ df dy eS eB dx eV A8 Bu
end
section
open Go Go.Mw
attribute [local go_sem] bT bM aY cw bO b_ df dy eS eB dx eV A8 Bu
end
section
open Go Go.Mw
attribute [local go_sem] bT bM aY cw bO b_ df dy eS eB dx eV A8 Bu
end
section
open Go Go.Mw
attribute [local go_sem] bT bM aY cw bO b_ df dy eS eB dx eV A8 Bu
end
section
open Go Go.Mw
def elB (x:El):Int:=if x.mo<0∨x.mo>2∨(x.mo≠0∧(x.tb≠0∨x.o.length>0)) then 1 else if vN x.tb=false then 11 else if P4 x.ty=false then 12 else if x.it.length>256 then 6 else 0
attribute [local go_sem] bT bM aY cw bO b_ df dy eS eB dx eV A8 Bu
end
section
open Go Go.Mw
def elO (x:El):ah:=⟨86,5,[wU x],true⟩
attribute [local go_sem] elO bT bM aY cw bO b_ df dy eS eB dx eV A8 Bu
end
open Go Go.Mw
def okR (P:bv→Bool) (l:List bv):Prop:=l.length≤2048∧∀x∈l,P x=true∧x.lb.length≤64
def afC (P:bv→Bool) (x:El):Prop:=elB x=0∧okR P x.o∧∀l∈x.it,okR P l
def afB (P:bv→Bool) (x:Da):Prop:=¬(x.mo≠0∧(x.mo≠1∨x.me≠0∨x.o.length>0))∧vN x.me=true∧x.b.length≤4096∧okR P x.o
structure okM (P:bv→Bool) (m:Md):Prop where
 ts:m.ts.length≤64∧∀x∈m.ts,MT x=0
 ims:m.ims.length≤32∧∀x∈m.ims,MV x=0
 fs:(m.fs.length:Int)≤64 - (li 0 m.ims:Nat)∧∀x∈m.fs,MP x=0
 tbs:(m.tbs.length:Int)≤4 - (li 1 m.ims:Nat)∧∀x∈m.tbs,Rr x=0
 ms:(m.ms.length:Int)≤2 - (li 2 m.ims:Nat)∧∀x∈m.ms,Q_ x=0
 gs:(m.gs.length:Int)≤32 - (li 3 m.ims:Nat)∧∀x∈m.gs,wj x.g.v=true∧okR P x.i
 exs:m.exs.length≤64∧∀x∈m.exs,TM x=0
 st:m.hs=true→vN m.st=true
 els:m.els.length≤16∧∀x∈m.els,afC P x
 ds:m.ds.length≤16∧∀x∈m.ds,afB P x
 cs:m.cs.length≤8∧∀x∈m.cs,Gm x=0
 bo:∀x∈m.fs,okR P x.b
end Go.Proofs.YthhglklcaodfmaaGreatDoor