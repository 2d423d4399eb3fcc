import Derived.Test.YtdefmgmmjfgbpaaGreatDoorUQg
import Derived.Shelf.Abstract
import Derived.OwnWalkIn
import Derived.TacticsInMore
import Derived.LoopNIn
import Derived.LoopIn
set_option linter.all false
set_option maxRecDepth 100000
set_option maxHeartbeats 40000000
namespace Go.Proofs.YtdefmgmmjfgbpaaGreatDoor
open Go Go.Mw
def RZ (x:Int×Int):List AV:=[.int .i64 x.1,.int .i64 x.2]
theorem Oe (x:Int×Int):RZ x=[.int .i64 x.1,.int .i64 x.2]:=rfl
attribute [go_sem] Oe
theorem i64_in (x:Int):Vr (IntKind.i64.wrap x):=by unfold Vr;rw [Rs];omega
section
variable (m:Bool) (l:List UInt8) (e:Int) (hl:l.length<50000000000)
include hl
end
section
variable (l:List UInt8) (e:Int) (hl:l.length<45000000000)
include hl
end
structure Nm where
 i:Int
 s:List UInt8
instance:Inhabited Nm:=⟨⟨0,[]⟩⟩
deriving instance DecidableEq for Nm
structure Lc where
 f:Int
 l:List Nm
instance:Inhabited Lc:=⟨⟨0,[]⟩⟩
deriving instance DecidableEq for Lc
structure Ns where
 m:List UInt8
 fs:List Nm
 ls:List Lc
instance:Inhabited Ns:=⟨⟨[],[],[]⟩⟩
deriving instance DecidableEq for Ns
def Q3 (n:Nm):List AV:=[.int .i64 n.i,.str n.s]
def TG (x:Lc):List AV:=[.int .i64 x.f,.sl 2 (x.l.map Q3)]
def V0 (x:Ns):List AV:=[.str x.m,.sl 2 (x.fs.map Q3),.sl 2 (x.ls.map TG)]
def V1 (x:Ns):AV:=.agg (V0 x)
theorem UI (n:Nm):Q3 n=[.int .i64 n.i,.str n.s]:=rfl
theorem TH (x:Lc):TG x=[.int .i64 x.f,.sl 2 (x.l.map Q3)]:=rfl
theorem UJ (x:Ns):V1 x = .agg [.str x.m,.sl 2 (x.fs.map Q3),.sl 2 (x.ls.map TG)]:=rfl
attribute [go_sem] UI TH UJ
def tV (i:Int):Bool:=decide (0≤i)&&decide (i<4294967296)
def oQ (l:List Nm):Int:=match l.getLast? with
 | some n=>n.i
 | none=>0
def Tw:List Nm→Int→List UInt8
 | [],_=>[]
 | n :: r,i=>if n.i=i then n.s else Tw r i
theorem q_ {α:Type} [Inhabited α] {l:List α} {i:Nat} (h:i<l.length):l.drop i=aj l i :: l.drop (i+1):=by
 rw [cw h,List.drop_eq_getElem_cons h]
theorem vm {α:Type} [Inhabited α] {l:List α} {i:Nat} (h:i<l.length):l.take (i+1)=l.take i++[aj l i]:=by rw [List.take_add_one,dj h,Option.toList_some]
theorem jb {α:Type} {l:List α} {i:Nat} (h:l.length≤i):l.drop i=[]:=List.drop_eq_nil_of_le h
section
deriving instance DecidableEq for cN,Ft,Lm,Gl,Im,Cd,Tb,Gd,Ex,El,Da,Cu,Md
theorem nM {a b:List Int} (hl:a.length=b.length) (h:∀k,k<a.length→aj a k=aj b k):a=b:=by
 apply List.ext_getElem hl
 intro i h1 h2
 have:=h i h1
 rwa [cw h1,cw h2] at this
def sI (x y:cN):Bool:=(x.op==y.op)&&((x.a==y.a)&&((x.b==y.b)&&((x.n==y.n)&&(((x.k==y.k)&&((x.v==y.v)&&(x.x==y.x)))&&((x.ty==y.ty)&&(x.lb==y.lb))))))
attribute [local go_sem] c_ I2 dn
theorem Io (x y:cN) (h1:x.ty.length≤9223372036854775807) (h2:x.lb.length≤9223372036854775807):ak Tryz.prog Jq [jk x,jk y] (.bool (sI x y)):=by
 refine ah (ic:=zq.body) ap OL rfl rfl ?_
 have ft:∀b:Bool,(true&&b)=b:=fun _=>rfl
 have ff:∀b:Bool,(false&&b)=false:=fun _=>rfl
 have nt:∀{a b:Int},(a != b)=true→(a==b)=false:=fun h=>by simpa using h
 have nf:∀{a b:Int},(a != b)=false→(a==b)=true:=fun h=>by simpa using h
 have lt:∀{a b:List Int},((a.length:Int) != (b.length:Int))=true→(a==b)=false:=fun {a b} h=>by
  rw [i1]
  intro e;rw [e] at h;simp at h
 have lf:∀{a b:List Int},((a.length:Int) != (b.length:Int))=false→a.length=b.length:=fun {a b} h=>by
  have h2:¬((a.length:Int)≠(b.length:Int)):=by simpa using h
  omega
 have nb:∀{b:Bool},(!b)=true→b=false:=fun {b} h=>by cases b<;>first | rfl | cases h
 have nc:∀{b:Bool},(!b)=false→b=true:=fun {b} h=>by cases b<;>first | rfl | cases h
 unfold sI
 simp only [go_sem,zq]
 refine ⟨fun c1=>?_,fun c1=>⟨fun c2=>?_,fun c2=>⟨fun c3=>?_,fun c3=>⟨fun c4=>?_,fun c4=>⟨fun c5=>?_,fun c5=>⟨fun c6=>?_,fun c6=>⟨fun c7=>?_,fun c7=>?_⟩⟩⟩⟩⟩⟩⟩
 ·rw [nt c1]
  exact ar
 ·rw [nf c1,nt c2]
  exact ar
 ·rw [nf c1,nf c2,nt c3]
  exact ar
 ·rw [nf c1,nf c2,nf c3,nt c4]
  exact ar
 ·rw [nf c1,nf c2,nf c3,nf c4,nb c5]
  exact ar
 ·rw [nf c1,nf c2,nf c3,nf c4,nc c5,lt c6]
  exact ar
 ·rw [nf c1,nf c2,nf c3,nf c4,nc c5,lt c7,Bool.and_false]
  exact ar
 rw [nf c1,nf c2,nf c3,nf c4,nc c5,ft,ft,ft,ft,ft]
 replace c6:=lf c6
 replace c7:=lf c7
 refine an (fun i:Nat=>⟨[(2,.mp 2 9 0 0),(3,.mp 3 9 0 0),(5,.int .i64 i)],[(3,⟨79,9,[[.int .i64 y.op,.int .i64 y.a,.int .i64 y.b,.int .u64 y.n,.int .i64 y.k,.int .i64 y.v,.int .i64 y.x,.sl 1 (y.ty.map dI),.sl 1 (y.lb.map dI)]],true⟩),(2,⟨79,9,[[.int .i64 x.op,.int .i64 x.a,.int .i64 x.b,.int .u64 x.n,.int .i64 x.k,.int .i64 x.v,.int .i64 x.x,.sl 1 (x.ty.map dI),.sl 1 (x.lb.map dI)]],true⟩)]⟩) (fun i=>i≤x.ty.length∧∀k,k<i→aj x.ty k=aj y.ty k) (fun i=>x.ty.length - i) 0 ⟨cq _,fun k hk=>absurd hk (Nat.not_lt_zero k)⟩ (Wk.of ?_ ?_) ?_
 ·simp only [go_sem];try simp
 ·simp only [go_sem]
 rintro i ⟨hi,hk⟩
 by_cases q1:(i:Int)<(x.ty.length:Int)
 ·have e8:=wi (n:=(i:Int)+1) (by omega) (by omega)
  simp only [go_sem,az q1]
  refine ⟨by omega,q1,by omega,by omega,fun g2=>?_,fun g2=>aA (i+1) ⟨by omega,fun k hk9=>?_⟩ (show x.ty.length - (i+1)<x.ty.length - i by omega) (Wk.of ?_ ?_)⟩
  ·have r:(x.ty==y.ty)=false:=by
    rw [i1]
    intro e
    rw [e] at g2
    simp at g2
   rw [r,ff]
   exact ar
  ·rcases bK k i with h4 | h4
   ·exact hk k h4
   ·obtain rfl:k=i:=by omega
    simpa using g2
  ·simp only [go_sem,e8]
   try simp
  ·simp only [go_sem]
 ·have r:(x.ty==y.ty)=true:=by rw [nM c6 (fun k hk2=>hk k (by omega))];exact beq_self_eq_true _
  rw [r,ft]
  simp only [go_sem,au q1]
  refine an (fun i:Nat=>⟨[(2,.mp 2 9 0 0),(3,.mp 3 9 0 0),(6,.int .i64 i)],[(3,⟨79,9,[[.int .i64 y.op,.int .i64 y.a,.int .i64 y.b,.int .u64 y.n,.int .i64 y.k,.int .i64 y.v,.int .i64 y.x,.sl 1 (y.ty.map dI),.sl 1 (y.lb.map dI)]],true⟩),(2,⟨79,9,[[.int .i64 x.op,.int .i64 x.a,.int .i64 x.b,.int .u64 x.n,.int .i64 x.k,.int .i64 x.v,.int .i64 x.x,.sl 1 (x.ty.map dI),.sl 1 (x.lb.map dI)]],true⟩)]⟩) (fun i=>i≤x.lb.length∧∀k,k<i→aj x.lb k=aj y.lb k) (fun i=>x.lb.length - i) 0 ⟨cq _,fun k hk=>absurd hk (Nat.not_lt_zero k)⟩ (Wk.of ?_ ?_) ?_
  ·simp only [go_sem];try simp
  ·simp only [go_sem]
  rintro j ⟨hj,hk2⟩
  by_cases q2:(j:Int)<(x.lb.length:Int)
  ·have e9:=wi (n:=(j:Int)+1) (by omega) (by omega)
   simp only [go_sem,az q2]
   refine ⟨by omega,q2,by omega,by omega,fun g2=>?_,fun g2=>aA (j+1) ⟨by omega,fun k hk9=>?_⟩ (show x.lb.length - (j+1)<x.lb.length - j by omega) (Wk.of ?_ ?_)⟩
   ·have r:(x.lb==y.lb)=false:=by
     rw [i1]
     intro e
     rw [e] at g2
     simp at g2
    rw [r]
    exact ar
   ·rcases bK k j with h4 | h4
    ·exact hk2 k h4
    ·obtain rfl:k=j:=by omega
     simpa using g2
   ·simp only [go_sem,e9]
    try simp
   ·simp only [go_sem]
  ·have r:(x.lb==y.lb)=true:=by rw [nM c7 (fun k hk3=>hk2 k (by omega))];exact beq_self_eq_true _
   rw [r]
   simp only [go_sem,au q2]
   exact ar
theorem JE (x y:cN):sI x y=decide (x=y):=by
 obtain ⟨a1,a2,a3,a4,a5,a6,a7,a8,a9⟩:=x
 obtain ⟨b1,b2,b3,b4,b5,b6,b7,b8,b9⟩:=y
 unfold sI
 by_cases h1:a1=b1<;>by_cases h2:a2=b2<;>by_cases h3:a3=b3<;>by_cases h4:a4=b4<;>by_cases h5:a5=b5<;>by_cases h6:a6=b6<;>by_cases h7:a7=b7<;>by_cases h8:a8=b8<;>by_cases h9:a9=b9<;>simp [h1,h2,h3,h4,h5,h6,h7,h8,h9]
theorem In (x y:cN) (h:EA x):ak Tryz.prog Jq [jk x,jk y] (.bool (decide (x=y))):=by
 rw [← JE]
 exact Io x y (by have:=h.1;omega) (by have:=h.2;omega)
theorem cD {j n:Nat} (h:j<n) (hn:n≤9223372036854775807):IntKind.i64.wrap ((j:Int)+1)=(j:Int)+1:=wi (by omega) (by omega)
theorem ci {α:Type} [Inhabited α] {a b:List α} (hl:a.length=b.length) (h:∀k,k<a.length→aj a k=aj b k):a=b:=by
 apply List.ext_getElem hl
 intro i h1 h2
 have:=h i h1
 rwa [cw h1,cw h2] at this
end
section
def rQ (n:Int) (l:List Nat):Int:=l.foldl (fun (n:Int) (k:Nat)=>IntKind.i64.wrap (n+(k:Int))) n
theorem rR {α:Type} [Inhabited α] (g:α→Nat) {l:List α} {i:Nat} (h:i<l.length) (n:Int):rQ n ((l.take (i+1)).map g)=IntKind.i64.wrap (rQ n ((l.take i).map g)+(g (aj l i):Int)):=by
 rw [vm h];simp [rQ]
def Gi (n:Int) (l:List El):Int:=l.foldl (fun n x=>rQ (IntKind.i64.wrap (n+(x.o.length:Int))) (x.it.map List.length)) n
theorem K3 {l:List El} {i:Nat} (h:i<l.length) (n:Int):Gi n (l.take (i+1))=rQ (IntKind.i64.wrap (Gi n (l.take i)+((aj l i).o.length:Int))) ((aj l i).it.map List.length):=by
 rw [vm h];simp [Gi]
def Cp (m:Md):Int:=rQ 0 (m.fs.map fun x=>x.b.length)
def uP (m:Md):Int:=rQ (Cp m) (m.gs.map fun x=>x.i.length)
def Cq (m:Md):Int:=Gi (uP m) m.els
def GC (m:Md):Int:=rQ (Cq m) (m.ds.map fun x=>x.o.length)
attribute [local go_sem] dn f_ bP cz bW ce bN
theorem sU (m:Md) (h:Nr m):ak Tryz.prog QW [cP m] (.int .i64 (GC m)):=by
 refine ah (ic:=Ki.body) ap Tf rfl rfl ?_
 simp only [go_sem,Ki,cP]
 refine an (fun i:Nat=>⟨[(17,.int .i64 (i:Nat)),(16,.int .i64 m.fs.length),(15,.sl 3 (m.fs.map dK)),(3,.int .i64 (rQ 0 ((m.fs.take i).map fun x=>x.b.length))),(1,.mp 1 12 0 0)],[(1,⟨33,12,[kU m],true⟩)]⟩) (fun i=>i≤m.fs.length) (fun i=>m.fs.length - i) 0 (cq _) (Wk.of ?_ ?_) ?_
 ·simp only [go_sem,dN,List.map_nil,rQ,List.foldl_nil];try simp
 ·simp only [go_sem]
 intro i hi
 by_cases h1:(i:Int)<(m.fs.length:Int)
 ·have hi':i<m.fs.length:=by omega
  have e8:=cD hi' (by have:=h.fs.1;omega)
  have ht:=rR (fun x:Cd=>x.b.length) hi' 0
  simp only [go_sem,az h1]
  refine ⟨by omega,h1,aA (i+1) (show i+1≤m.fs.length by omega) (show m.fs.length - (i+1)<m.fs.length - i by omega) (Wk.of ?_ ?_)⟩
  ·simp only [go_sem,e8,ht];try simp
  ·simp only [go_sem]
 obtain rfl:i=m.fs.length:=by omega
 rw [eM,show rQ 0 (m.fs.map fun x=>x.b.length)=Cp m from rfl]
 simp only [go_sem,au h1]
 clear hi h1
 refine an (fun i:Nat=>⟨[(30,.int .i64 (i:Nat)),(29,.int .i64 m.gs.length),(28,.sl 3 (m.gs.map ej)),(3,.int .i64 (rQ (Cp m) ((m.gs.take i).map fun x=>x.i.length))),(1,.mp 1 12 0 0)],[(1,⟨33,12,[kU m],true⟩)]⟩) (fun i=>i≤m.gs.length) (fun i=>m.gs.length - i) 0 (cq _) (Wk.of ?_ ?_) ?_
 ·simp only [go_sem,dN,List.map_nil,rQ,List.foldl_nil];try simp
 ·simp only [go_sem]
 intro i hi
 by_cases h1:(i:Int)<(m.gs.length:Int)
 ·have hi':i<m.gs.length:=by omega
  have e8:=cD hi' (by have:=h.gs.1;omega)
  have ht:=rR (fun x:Gd=>x.i.length) hi' (Cp m)
  simp only [go_sem,az h1]
  refine ⟨by omega,h1,aA (i+1) (show i+1≤m.gs.length by omega) (show m.gs.length - (i+1)<m.gs.length - i by omega) (Wk.of ?_ ?_)⟩
  ·simp only [go_sem,e8,ht];try simp
  ·simp only [go_sem]
 obtain rfl:i=m.gs.length:=by omega
 rw [eM,show rQ (Cp m) (m.gs.map fun x=>x.i.length)=uP m from rfl]
 simp only [go_sem,au h1]
 clear hi h1
 refine an (fun i:Nat=>⟨[(43,.int .i64 (i:Nat)),(42,.int .i64 m.els.length),(41,.sl 5 (m.els.map dL)),(3,.int .i64 (Gi (uP m) (m.els.take i))),(1,.mp 1 12 0 0)],[(1,⟨33,12,[kU m],true⟩)]⟩) (fun i=>i≤m.els.length) (fun i=>m.els.length - i) 0 (cq _) (Wk.of ?_ ?_) ?_
 ·simp only [go_sem,dN,Gi,List.foldl_nil];try simp
 ·simp only [go_sem]
 intro i hi
 by_cases h1:(i:Int)<(m.els.length:Int)
 ·have hi':i<m.els.length:=by omega
  have e8:=cD hi' (by have:=h.els.1;omega)
  have ht:=K3 hi' (uP m)
  have hit:=(h.els.2 (aj m.els i) (by rw [cw hi'];exact List.getElem_mem hi')).2.1
  simp only [go_sem,az h1]
  refine ⟨by omega,h1,?_⟩
  refine an (fun q:Nat=>⟨[(55,.int .i64 (q:Nat)),(54,.int .i64 (aj m.els i).it.length),(53,.sl 1 ((aj m.els i).it.map cU)),(3,.int .i64 (rQ (IntKind.i64.wrap (Gi (uP m) (m.els.take i)+((aj m.els i).o.length:Int))) (((aj m.els i).it.take q).map List.length))),(43,.int .i64 i),(42,.int .i64 m.els.length),(41,.sl 5 (m.els.map dL)),(1,.mp 1 12 0 0)],[(1,⟨33,12,[kU m],true⟩)]⟩) (fun q=>q≤(aj m.els i).it.length) (fun q=>(aj m.els i).it.length - q) 0 (cq _) (Wk.of ?_ ?_) ?_
  ·simp only [go_sem,dN,List.map_nil,rQ,List.foldl_nil];try simp
  ·simp only [go_sem]
  intro q hq
  by_cases q1:(q:Int)<((aj m.els i).it.length:Int)
  ·have hq':q<(aj m.els i).it.length:=by omega
   have e9:=cD hq' (by omega)
   have hu:=rR List.length hq' (IntKind.i64.wrap (Gi (uP m) (m.els.take i)+((aj m.els i).o.length:Int)))
   simp only [go_sem,az q1]
   refine ⟨by omega,q1,aA (q+1) (show q+1≤(aj m.els i).it.length by omega) (show (aj m.els i).it.length - (q+1)<(aj m.els i).it.length - q by omega) (Wk.of ?_ ?_)⟩
   ·simp only [go_sem,e9,hu];try simp
   ·simp only [go_sem]
  obtain rfl:q=(aj m.els i).it.length:=by omega
  rw [eM,← ht]
  simp only [go_sem,au q1]
  refine aA (i+1) (show i+1≤m.els.length by omega) (show m.els.length - (i+1)<m.els.length - i by omega) (Wk.of ?_ ?_)
  ·simp only [go_sem,e8];try simp
  ·simp only [go_sem]
 obtain rfl:i=m.els.length:=by omega
 rw [eM,show Gi (uP m) m.els=Cq m from rfl]
 simp only [go_sem,au h1]
 clear hi h1
 refine an (fun i:Nat=>⟨[(68,.int .i64 (i:Nat)),(67,.int .i64 m.ds.length),(66,.sl 4 (m.ds.map et)),(3,.int .i64 (rQ (Cq m) ((m.ds.take i).map fun x=>x.o.length))),(1,.mp 1 12 0 0)],[(1,⟨33,12,[kU m],true⟩)]⟩) (fun i=>i≤m.ds.length) (fun i=>m.ds.length - i) 0 (cq _) (Wk.of ?_ ?_) ?_
 ·simp only [go_sem,dN,List.map_nil,rQ,List.foldl_nil];try simp
 ·simp only [go_sem]
 intro i hi
 by_cases h1:(i:Int)<(m.ds.length:Int)
 ·have hi':i<m.ds.length:=by omega
  have e8:=cD hi' (by have:=h.ds.1;omega)
  have ht:=rR (fun x:Da=>x.o.length) hi' (Cq m)
  simp only [go_sem,az h1]
  refine ⟨by omega,h1,aA (i+1) (show i+1≤m.ds.length by omega) (show m.ds.length - (i+1)<m.ds.length - i by omega) (Wk.of ?_ ?_)⟩
  ·simp only [go_sem,e8,ht];try simp
  ·simp only [go_sem]
 obtain rfl:i=m.ds.length:=by omega
 rw [eM,show rQ (Cq m) (m.ds.map fun x=>x.o.length)=GC m from rfl]
 simp only [go_sem,au h1]
 clear hi h1
 exact ae
end
section
def Jw (x:cN):Bool:=!decide ((x.lb.length:Int)>100) && !decide ((x.ty.length:Int)>100)
def uV (l:List cN):Bool:=l.all Jw
theorem Jv {l:List cN} {k:Nat} (hk:k<l.length) (h:Jw (aj l k)=false):uV l=false:=by
 unfold uV
 rw [List.all_eq_false]
 exact ⟨aj l k,by rw [cw hk];exact List.getElem_mem hk,by simp [h]⟩
theorem Q4 {l:List cN} (h:∀k,k<l.length→Jw (aj l k)=true):uV l=true:=by
 unfold uV
 rw [cZ]
 intro x hx
 obtain ⟨i,hi,rfl⟩:=List.getElem_of_mem hx
 have:=h i hi
 rwa [cw hi] at this
def po:Int→List (List cN)→Bool
 | _,[]=>true
 | n,l :: r=>if IntKind.i64.wrap (n+(l.length:Int))>3000 then false else if uV l=false then false else po (IntKind.i64.wrap (n+(l.length:Int))) r
theorem Np {n:Int} {l:List (List cN)} {i:Nat} (h:i<l.length):po n (l.drop i)=if IntKind.i64.wrap (n+((aj l i).length:Int))>3000 then false else if uV (aj l i)=false then false else po (IntKind.i64.wrap (n+((aj l i).length:Int))) (l.drop (i+1)):=by
 rw [q_ h,po]
attribute [local go_sem] dn bN c_ aU
theorem II (L:List (List cN)) (hL:L.length≤1048576) (hb:∀l∈L,l.length≤9223372036854775807):ak Tryz.prog P_ [.sl 1 (L.map cU),.int .i64 3000] (.bool (po 0 L)):=by
 refine ah (ic:=zl.body) ap OE rfl rfl ?_
 obtain ⟨G,hG⟩:∃G,po 0 L=G:=⟨_,rfl⟩
 rw [hG]
 simp only [go_sem,zl]
 refine an (fun q:Nat×Int=>⟨[(6,.int .i64 q.1),(5,.int .i64 q.2),(0,.sl 1 (L.map cU)),(1,.int .i64 3000)],[]⟩) (fun q=>q.1≤L.length∧G=po q.2 (L.drop q.1)) (fun q=>L.length - q.1) (0,0) ⟨cq _,hG.symm⟩ (Wk.of ?_ ?_) ?_
 ·simp only [go_sem];try simp
 ·simp only [go_sem]
 rintro ⟨j,n⟩ ⟨hj,hx⟩
 simp only at hj hx
 by_cases h1:(j:Int)<(L.length:Int)
 rotate_left
 ·rw [jb (by omega)] at hx
  obtain rfl:G=true:=hx
  simp only [go_sem,au h1]
  exact ae
 have hj':j<L.length:=by omega
 have e8:=cD hj' (by omega)
 have hlb:=aX hb hj'
 rw [Np hj'] at hx
 by_cases q1:IntKind.i64.wrap (n+((aj L j).length:Int))>3000
 ·rw [bz q1] at hx
  subst hx
  simp only [go_sem,az h1,az q1]
  refine ⟨by omega,h1,?_⟩
  exact ae
 rw [aJ q1] at hx
 simp only [go_sem,az h1,au q1]
 refine ⟨by omega,h1,?_⟩
 generalize IntKind.i64.wrap (n+((aj L j).length:Int))=N at *
 refine an (fun k:Nat=>⟨[(7,.int .i64 k),(6,.int .i64 j),(5,.int .i64 N),(0,.sl 1 (L.map cU)),(1,.int .i64 3000)],[]⟩) (fun k=>k≤(aj L j).length∧∀i,i<k→Jw (aj (aj L j) i)=true) (fun k=>(aj L j).length - k) 0 ⟨cq _,fun k hk=>by omega⟩ (Wk.of ?_ ?_) ?_
 ·simp only [go_sem];try simp
 ·simp only [go_sem]
 rintro k ⟨hk,hy⟩
 by_cases g1:(k:Int)<((aj L j).length:Int)
 rotate_left
 ·rw [aJ (by rw [Q4 fun i hi=>hy i (by omega)];decide)] at hx
  simp only [go_sem,au g1]
  refine ⟨by omega,h1,?_⟩
  refine aA (j+1,N) ⟨show j+1≤L.length by omega,hx⟩ (show L.length - (j+1)<L.length - j by omega) (Wk.of ?_ ?_)
  ·simp only [go_sem,e8];try simp
  ·simp only [go_sem]
 have hk':k<(aj L j).length:=by omega
 have e9:=cD hk' (by omega)
 by_cases q2:((aj (aj L j) k).lb.length:Int)>100
 ·rw [bz (Jv hk' (by unfold Jw;rw [az q2];rfl))] at hx
  subst hx
  simp only [go_sem,az g1,az q2]
  refine ⟨by omega,h1,by omega,h1,by omega,g1,?_⟩
  exact ae
 by_cases q3:((aj (aj L j) k).ty.length:Int)>100
 ·rw [bz (Jv hk' (by unfold Jw;rw [az q3];simp))] at hx
  subst hx
  simp only [go_sem,az g1,au q2,az q3]
  refine ⟨by omega,h1,by omega,h1,by omega,g1,by omega,h1,by omega,g1,?_⟩
  exact ae
 simp only [go_sem,az g1,au q2,au q3]
 refine ⟨by omega,h1,by omega,h1,by omega,g1,by omega,h1,by omega,g1,?_⟩
 refine aA (k+1) ⟨show k+1≤(aj L j).length by omega,fun i hi=>?_⟩ (show (aj L j).length - (k+1)<(aj L j).length - k by omega) (Wk.of ?_ ?_)
 ·rcases bK i k with z | z
  ·exact hy i z
  ·rw [show i=k by omega]
   unfold Jw
   rw [au q2,au q3];rfl
 ·simp only [go_sem,e9];try simp
 ·simp only [go_sem]
end
section
structure VU (m:Md):Prop where
 ts:m.ts.length≤100
 ims:m.ims.length≤100
 fs:m.fs.length≤100
 tbs:m.tbs.length≤100
 ms:m.ms.length≤100
 gs:m.gs.length≤100
 exs:m.exs.length≤100
 els:m.els.length≤100
 ds:m.ds.length≤100
 cs:m.cs.length≤100
 it:∀x∈m.els,x.it.length≤300
attribute [local go_sem] dn f_ bM cm bP cz cF bW ce bR bN
end
section
theorem tC:∀(L:List (List cN)) (n:Int),0≤n→n≤3000→(∀l∈L,l.length≤140737488355328)→po n L=true→∀l∈L,l.length≤3000∧∀x∈l,x.lb.length≤100∧x.ty.length≤100
 | [],_,_,_,_,_=>by simp
 | l :: r,n,h0,h1,hb,h=>by
  have h2:=hb l (by simp)
  have e:IntKind.i64.wrap (n+(l.length:Int))=n+(l.length:Int):=by rw [wi (by omega) (by omega)]
  rw [po,e] at h
  split at h
  ·cases h
  split at h
  ·cases h
  rename_i h3 h4
  intro q hq
  rcases bE.1 hq with rfl | hq
  ·refine ⟨by omega,fun x hx=>?_⟩
   simp only [uV,Bool.not_eq_false,cZ] at h4
   have:=h4 x hx
   simp only [Jw,dZ,nE,decide_eq_false_iff_not] at this
   omega
  ·exact tC r _ (by omega) (by omega) (fun l hl=>hb l (by simp [hl])) h q hq
theorem iH {α:Type} [Inhabited α] {l:List α} {p:α→Prop} (h:∀k,k<l.length→p (aj l k)):∀x∈l,p x:=fun x hx=>by
 obtain ⟨i,hi,rfl⟩:=List.getElem_of_mem hx
 rw [← cw hi];exact h i hi
attribute [local go_sem] dn f_ bM cm bP cz cF bW ce bR bN
theorem En (m:Md) (hm:AW 140737488355328 m):aE Tryz.prog UE [cP m] [] sb (fun r' σ'=>∃b:Bool,(b=true→VU m∧KU m)∧r' = .bool b∧σ'=[]):=by
 refine aP (ic:=lz.body) ap Td rfl rfl ?_
 obtain ⟨b1,b2,b3,b4,b5,b6,b7,b8,b9,b10⟩:=hm
 by_cases l0:(m.ts.length:Int)>100
 ·simp only [go_sem,lz,cP,az l0]
  exact done [] (.bool false) [] (by simp only [go_sem]) trivial rfl ⟨false,(fun h=>by cases h),rfl,rfl⟩
 by_cases l1:(m.ims.length:Int)>100
 ·simp only [go_sem,lz,cP,au l0,az l1]
  exact done [] (.bool false) [] (by simp only [go_sem]) trivial rfl ⟨false,(fun h=>by cases h),rfl,rfl⟩
 by_cases l2:(m.fs.length:Int)>100
 ·simp only [go_sem,lz,cP,au l0,au l1,az l2]
  exact done [] (.bool false) [] (by simp only [go_sem]) trivial rfl ⟨false,(fun h=>by cases h),rfl,rfl⟩
 by_cases l3:(m.tbs.length:Int)>100
 ·simp only [go_sem,lz,cP,au l0,au l1,au l2,az l3]
  exact done [] (.bool false) [] (by simp only [go_sem]) trivial rfl ⟨false,(fun h=>by cases h),rfl,rfl⟩
 by_cases l4:(m.ms.length:Int)>100
 ·simp only [go_sem,lz,cP,au l0,au l1,au l2,au l3,az l4]
  exact done [] (.bool false) [] (by simp only [go_sem]) trivial rfl ⟨false,(fun h=>by cases h),rfl,rfl⟩
 by_cases l5:(m.gs.length:Int)>100
 ·simp only [go_sem,lz,cP,au l0,au l1,au l2,au l3,au l4,az l5]
  exact done [] (.bool false) [] (by simp only [go_sem]) trivial rfl ⟨false,(fun h=>by cases h),rfl,rfl⟩
 by_cases l6:(m.exs.length:Int)>100
 ·simp only [go_sem,lz,cP,au l0,au l1,au l2,au l3,au l4,au l5,az l6]
  exact done [] (.bool false) [] (by simp only [go_sem]) trivial rfl ⟨false,(fun h=>by cases h),rfl,rfl⟩
 by_cases l7:(m.els.length:Int)>100
 ·simp only [go_sem,lz,cP,au l0,au l1,au l2,au l3,au l4,au l5,au l6,az l7]
  exact done [] (.bool false) [] (by simp only [go_sem]) trivial rfl ⟨false,(fun h=>by cases h),rfl,rfl⟩
 by_cases l8:(m.ds.length:Int)>100
 ·simp only [go_sem,lz,cP,au l0,au l1,au l2,au l3,au l4,au l5,au l6,au l7,az l8]
  exact done [] (.bool false) [] (by simp only [go_sem]) trivial rfl ⟨false,(fun h=>by cases h),rfl,rfl⟩
 by_cases l9:(m.cs.length:Int)>100
 ·simp only [go_sem,lz,cP,au l0,au l1,au l2,au l3,au l4,au l5,au l6,au l7,au l8,az l9]
  exact done [] (.bool false) [] (by simp only [go_sem]) trivial rfl ⟨false,(fun h=>by cases h),rfl,rfl⟩
 simp only [go_sem,lz,cP,au l0,au l1,au l2,au l3,au l4,au l5,au l6,au l7,au l8,au l9]
 refine an (fun q:Nat×Int=>⟨[(5,.int .i64 q.1),(4,.int .i64 q.2),(3,.nl),(1,.mp 1 12 0 0)],[(1,⟨33,12,[kU m],true⟩)]⟩) (fun q=>q.1≤m.ts.length∧0≤q.2∧q.2≤0+q.1 * 562949953421312∧(∀k,k<q.1→((aj m.ts k).ps.length:Int)≤q.2)∧(∀k,k<q.1→((aj m.ts k).rs.length:Int)≤q.2)) (fun q=>m.ts.length - q.1) (0,0) ⟨cq _,Int.le_refl _,by simp only;omega,fun k hk=>absurd hk (Nat.not_lt_zero _),fun k hk=>absurd hk (Nat.not_lt_zero _)⟩ (Wk.of ?_ ?_) ?_
 ·simp only [go_sem];try simp [go_sem]
 ·simp only [go_sem];try simp [go_sem]
 rintro ⟨j,n0⟩ ⟨hj,hlo0,hhi0,ha0ps,ha0rs⟩
 simp only at hj hlo0 hhi0 ha0ps ha0rs
 by_cases h1:(j:Int)<(m.ts.length:Int)
 ·have hj':j<m.ts.length:=by omega
  have e8:=cD hj' (by omega)
  have hb:=aX b1.2 hj'
  have hq:=hb
  have hw0:((aj m.ts j).ps.length:Int)≤140737488355328:=by have:=hb.1.1;omega
  have hw1:((aj m.ts j).rs.length:Int)≤140737488355328:=by have:=hb.2.1;omega
  have ew:IntKind.i64.wrap (n0+IntKind.i64.wrap (((aj m.ts j).ps.length:Int)+((aj m.ts j).rs.length:Int)))=(n0+(((aj m.ts j).ps.length:Int)+((aj m.ts j).rs.length:Int))):=by rw [wi (n:=((aj m.ts j).ps.length:Int)+((aj m.ts j).rs.length:Int)) (by omega) (by omega),wi (by omega) (by omega)]
  simp only [go_sem,az h1]
  refine ⟨by omega,h1,by omega,h1,?_⟩
  refine aA (j+1,(n0+(((aj m.ts j).ps.length:Int)+((aj m.ts j).rs.length:Int)))) ⟨show j+1≤m.ts.length by omega,show 0≤(n0+(((aj m.ts j).ps.length:Int)+((aj m.ts j).rs.length:Int))) by omega,show (n0+(((aj m.ts j).ps.length:Int)+((aj m.ts j).rs.length:Int)))≤_ by simp only;omega,fun k hk=>by rcases bK k j with z | z;(have:=ha0ps k z;show _≤((n0+(((aj m.ts j).ps.length:Int)+((aj m.ts j).rs.length:Int))):Int);omega);(obtain rfl:j=k:=by (have:k<j+1:=hk);omega);show _≤((n0+(((aj m.ts j).ps.length:Int)+((aj m.ts j).rs.length:Int))):Int);omega,fun k hk=>by rcases bK k j with z | z;(have:=ha0rs k z;show _≤((n0+(((aj m.ts j).ps.length:Int)+((aj m.ts j).rs.length:Int))):Int);omega);(obtain rfl:j=k:=by (have:k<j+1:=hk);omega);show _≤((n0+(((aj m.ts j).ps.length:Int)+((aj m.ts j).rs.length:Int))):Int);omega⟩ (show m.ts.length - (j+1)<m.ts.length - j by omega) (Wk.of ?_ ?_)
  ·simp only [go_sem,e8,ew];(try simp);(try omega)
  ·simp only [go_sem];try simp [bN]
 obtain rfl:j=m.ts.length:=by omega
 replace hhi0:n0≤56294995342131200:=by omega
 simp only [go_sem,au h1]
 clear h1 hj
 refine an (fun q:Nat×Int=>⟨[(6,.int .i64 q.1),(4,.int .i64 q.2),(3,.nl),(1,.mp 1 12 0 0)],[(1,⟨33,12,[kU m],true⟩)]⟩) (fun q=>q.1≤m.ims.length∧n0≤q.2∧q.2≤56294995342131200+q.1 * 562949953421312∧(∀k,k<q.1→((aj m.ims k).m.length:Int)≤q.2)∧(∀k,k<q.1→((aj m.ims k).n.length:Int)≤q.2)) (fun q=>m.ims.length - q.1) (0,n0) ⟨cq _,Int.le_refl _,by simp only;omega,fun k hk=>absurd hk (Nat.not_lt_zero _),fun k hk=>absurd hk (Nat.not_lt_zero _)⟩ (Wk.of ?_ ?_) ?_
 ·simp only [go_sem];try simp [go_sem]
 ·simp only [go_sem];try simp [go_sem]
 rintro ⟨j,n1⟩ ⟨hj,hlo1,hhi1,ha1m,ha1n⟩
 simp only at hj hlo1 hhi1 ha1m ha1n
 by_cases h1:(j:Int)<(m.ims.length:Int)
 ·have hj':j<m.ims.length:=by omega
  have e8:=cD hj' (by omega)
  have hb:=aX b2.2 hj'
  have hq:=hb
  have hw0:((aj m.ims j).m.length:Int)≤140737488355328:=by have:=hb;simp only [FY] at this;omega
  have hw1:((aj m.ims j).n.length:Int)≤140737488355328:=by have:=hb;simp only [FY] at this;omega
  have ew:IntKind.i64.wrap (n1+IntKind.i64.wrap (((aj m.ims j).m.length:Int)+((aj m.ims j).n.length:Int)))=(n1+(((aj m.ims j).m.length:Int)+((aj m.ims j).n.length:Int))):=by rw [wi (n:=((aj m.ims j).m.length:Int)+((aj m.ims j).n.length:Int)) (by omega) (by omega),wi (by omega) (by omega)]
  simp only [go_sem,az h1]
  refine ⟨by omega,h1,by omega,h1,?_⟩
  refine aA (j+1,(n1+(((aj m.ims j).m.length:Int)+((aj m.ims j).n.length:Int)))) ⟨show j+1≤m.ims.length by omega,show n0≤(n1+(((aj m.ims j).m.length:Int)+((aj m.ims j).n.length:Int))) by omega,show (n1+(((aj m.ims j).m.length:Int)+((aj m.ims j).n.length:Int)))≤_ by simp only;omega,fun k hk=>by rcases bK k j with z | z;(have:=ha1m k z;show _≤((n1+(((aj m.ims j).m.length:Int)+((aj m.ims j).n.length:Int))):Int);omega);(obtain rfl:j=k:=by (have:k<j+1:=hk);omega);show _≤((n1+(((aj m.ims j).m.length:Int)+((aj m.ims j).n.length:Int))):Int);omega,fun k hk=>by rcases bK k j with z | z;(have:=ha1n k z;show _≤((n1+(((aj m.ims j).m.length:Int)+((aj m.ims j).n.length:Int))):Int);omega);(obtain rfl:j=k:=by (have:k<j+1:=hk);omega);show _≤((n1+(((aj m.ims j).m.length:Int)+((aj m.ims j).n.length:Int))):Int);omega⟩ (show m.ims.length - (j+1)<m.ims.length - j by omega) (Wk.of ?_ ?_)
  ·simp only [go_sem,e8,ew];(try simp);(try omega)
  ·simp only [go_sem];try simp [bN]
 obtain rfl:j=m.ims.length:=by omega
 replace hhi1:n1≤112589990684262400:=by omega
 simp only [go_sem,au h1]
 clear h1 hj
 refine an (fun q:Nat×Int×List (List cN)=>⟨[(7,.int .i64 q.1),(4,.int .i64 q.2.1),(3,.ms 900 1 0 q.2.2.length),(1,.mp 1 12 0 0)],[(1,⟨33,12,[kU m],true⟩),(900,⟨58,1,q.2.2.map cU,false⟩)]⟩) (fun q=>q.1≤m.fs.length∧n1≤q.2.1∧q.2.1≤112589990684262400+q.1 * 562949953421312∧(∀k,k<q.1→((aj m.fs k).lo.length:Int)≤q.2.1)∧(∀l∈q.2.2,l.length≤140737488355328)∧q.2.2.length≤0+q.1 * 1∧(∀l∈([]:List (List cN)),l∈q.2.2)∧(∀k,k<q.1→(aj m.fs k).b∈q.2.2)) (fun q=>m.fs.length - q.1) (0,n1,[]) ⟨cq _,Int.le_refl _,by simp only;omega,fun k hk=>absurd hk (Nat.not_lt_zero _),fun l hl=>absurd hl List.not_mem_nil,by simp,fun l hl=>hl,fun k hk=>absurd hk (Nat.not_lt_zero _)⟩ ((Wk.nil _ 3 900 1 58 (by simp only [go_sem]) (.inl (by decide))).trans (Wk.of ?_ ?_)) ?_
 ·simp only [go_sem,St.mknil];try simp [go_sem]
 ·simp only [go_sem,St.mknil];try simp [go_sem]
 rintro ⟨j,n2,L2⟩ ⟨hj,hlo2,hhi2,ha2lo,hLb2,hLn2,hLs2,hr2b⟩
 simp only at hj hlo2 hhi2 ha2lo hLb2 hLn2 hLs2 hr2b
 by_cases h1:(j:Int)<(m.fs.length:Int)
 ·have hj':j<m.fs.length:=by omega
  have e8:=cD hj' (by omega)
  have hb:=aX b3.2 hj'
  have hq:=hb
  have hw0:((aj m.fs j).lo.length:Int)≤140737488355328:=by have:=hb.1.1;omega
  have ew:IntKind.i64.wrap (n2+((aj m.fs j).lo.length:Int))=(n2+((aj m.fs j).lo.length:Int)):=by rw [wi (by omega) (by omega)]
  have happ:=fun ys=>br 900 58 1 L2.length cU L2 ys rfl
  simp only [go_sem,az h1,happ]
  refine ⟨by omega,h1,by omega,h1,by omega,?_⟩
  refine aA (j+1,(n2+((aj m.fs j).lo.length:Int)),L2++[(aj m.fs j).b]) ⟨show j+1≤m.fs.length by omega,show n1≤(n2+((aj m.fs j).lo.length:Int)) by omega,show (n2+((aj m.fs j).lo.length:Int))≤_ by simp only;omega,fun k hk=>by rcases bK k j with z | z;(have:=ha2lo k z;show _≤((n2+((aj m.fs j).lo.length:Int)):Int);omega);(obtain rfl:j=k:=by (have:k<j+1:=hk);omega);show _≤((n2+((aj m.fs j).lo.length:Int)):Int);omega,fun l hl=>?_,?_,fun l hl=>?_,fun k hk=>?_⟩ (show m.fs.length - (j+1)<m.fs.length - j by omega) (Wk.of ?_ ?_)
  ·have:l∈L2++[(aj m.fs j).b]:=hl
   simp only [dz,eL] at this
   rcases this with z | rfl
   ·exact hLb2 l z
   ·exact (hb.2).1
  ·show (L2++[(aj m.fs j).b]).length≤_;simp only [wF,pD,lp];omega
  ·show l∈L2++[(aj m.fs j).b];simp [hLs2 l hl]
  ·show _∈L2++[(aj m.fs j).b];rcases bK k j with z | z
   ·simp [hr2b k z]
   ·obtain rfl:j=k:=by (have:k<j+1:=hk);omega
    simp
  ·simp only [go_sem,e8,ew];(try simp);(try omega)
  ·simp only [go_sem];try simp [bN]
 obtain rfl:j=m.fs.length:=by omega
 replace hLn2:L2.length≤100:=by omega
 replace hhi2:n2≤168884986026393600:=by omega
 simp only [go_sem,au h1]
 clear h1 hj
 refine an (fun q:Nat×Int×List (List cN)=>⟨[(8,.int .i64 q.1),(4,.int .i64 q.2.1),(3,.ms 900 1 0 q.2.2.length),(1,.mp 1 12 0 0)],[(1,⟨33,12,[kU m],true⟩),(900,⟨58,1,q.2.2.map cU,false⟩)]⟩) (fun q=>q.1≤m.gs.length∧n2≤q.2.1∧q.2.1≤168884986026393600+q.1 * 562949953421312∧(∀l∈q.2.2,l.length≤140737488355328)∧q.2.2.length≤100+q.1 * 1∧(∀l∈L2,l∈q.2.2)∧(∀k,k<q.1→(aj m.gs k).i∈q.2.2)) (fun q=>m.gs.length - q.1) (0,n2,L2) ⟨cq _,Int.le_refl _,by simp only;omega,hLb2,by simp only;omega,fun l hl=>hl,fun k hk=>absurd hk (Nat.not_lt_zero _)⟩ (Wk.of ?_ ?_) ?_
 ·simp only [go_sem];try simp [go_sem]
 ·simp only [go_sem];try simp [go_sem]
 rintro ⟨j,n3,L3⟩ ⟨hj,hlo3,hhi3,hLb3,hLn3,hLs3,hr3i⟩
 simp only at hj hlo3 hhi3 hLb3 hLn3 hLs3 hr3i
 by_cases h1:(j:Int)<(m.gs.length:Int)
 ·have hj':j<m.gs.length:=by omega
  have e8:=cD hj' (by omega)
  have hb:=aX b6.2 hj'
  have ew:=e8
  have happ:=fun ys=>br 900 58 1 L3.length cU L3 ys rfl
  simp only [go_sem,az h1,happ]
  refine ⟨by omega,h1,by omega,?_⟩
  refine aA (j+1,n3,L3++[(aj m.gs j).i]) ⟨show j+1≤m.gs.length by omega,show n2≤n3 by omega,show n3≤_ by simp only;omega,fun l hl=>?_,?_,fun l hl=>?_,fun k hk=>?_⟩ (show m.gs.length - (j+1)<m.gs.length - j by omega) (Wk.of ?_ ?_)
  ·have:l∈L3++[(aj m.gs j).i]:=hl
   simp only [dz,eL] at this
   rcases this with z | rfl
   ·exact hLb3 l z
   ·exact (hb).1
  ·show (L3++[(aj m.gs j).i]).length≤_;simp only [wF,pD,lp];omega
  ·show l∈L3++[(aj m.gs j).i];simp [hLs3 l hl]
  ·show _∈L3++[(aj m.gs j).i];rcases bK k j with z | z
   ·simp [hr3i k z]
   ·obtain rfl:j=k:=by (have:k<j+1:=hk);omega
    simp
  ·simp only [go_sem,e8,ew];(try simp);(try omega)
  ·simp only [go_sem];try simp [bN]
 obtain rfl:j=m.gs.length:=by omega
 replace hLn3:L3.length≤200:=by omega
 replace hhi3:n3≤225179981368524800:=by omega
 simp only [go_sem,au h1]
 clear h1 hj
 refine an (fun q:Nat×Int×List (List cN)=>⟨[(9,.int .i64 q.1),(4,.int .i64 q.2.1),(3,.ms 900 1 0 q.2.2.length),(1,.mp 1 12 0 0)],[(1,⟨33,12,[kU m],true⟩),(900,⟨58,1,q.2.2.map cU,false⟩)]⟩) (fun q=>q.1≤m.exs.length∧n3≤q.2.1∧q.2.1≤225179981368524800+q.1 * 562949953421312∧(∀k,k<q.1→((aj m.exs k).n.length:Int)≤q.2.1)∧(∀l∈q.2.2,l.length≤140737488355328)∧q.2.2.length≤200+q.1 * 0∧(∀l∈L3,l∈q.2.2)) (fun q=>m.exs.length - q.1) (0,n3,L3) ⟨cq _,Int.le_refl _,by simp only;omega,fun k hk=>absurd hk (Nat.not_lt_zero _),hLb3,by simp only;omega,fun l hl=>hl⟩ (Wk.of ?_ ?_) ?_
 ·simp only [go_sem];try simp [go_sem]
 ·simp only [go_sem];try simp [go_sem]
 rintro ⟨j,n4,L4⟩ ⟨hj,hlo4,hhi4,ha4n,hLb4,hLn4,hLs4⟩
 simp only at hj hlo4 hhi4 ha4n hLb4 hLn4 hLs4
 by_cases h1:(j:Int)<(m.exs.length:Int)
 ·have hj':j<m.exs.length:=by omega
  have e8:=cD hj' (by omega)
  have hb:=aX b7.2 hj'
  have hq:=hb
  have hw0:((aj m.exs j).n.length:Int)≤140737488355328:=by have:=cE hb (bD _);omega
  have ew:IntKind.i64.wrap (n4+((aj m.exs j).n.length:Int))=(n4+((aj m.exs j).n.length:Int)):=by rw [wi (by omega) (by omega)]
  simp only [go_sem,az h1]
  refine ⟨by omega,h1,?_⟩
  refine aA (j+1,(n4+((aj m.exs j).n.length:Int)),L4) ⟨show j+1≤m.exs.length by omega,show n3≤(n4+((aj m.exs j).n.length:Int)) by omega,show (n4+((aj m.exs j).n.length:Int))≤_ by simp only;omega,fun k hk=>by rcases bK k j with z | z;(have:=ha4n k z;show _≤((n4+((aj m.exs j).n.length:Int)):Int);omega);(obtain rfl:j=k:=by (have:k<j+1:=hk);omega);show _≤((n4+((aj m.exs j).n.length:Int)):Int);omega,fun l hl=>?_,?_,fun l hl=>?_⟩ (show m.exs.length - (j+1)<m.exs.length - j by omega) (Wk.of ?_ ?_)
  ·exact hLb4 l hl
  ·show L4.length≤_;omega
  ·exact hLs4 l hl
  ·simp only [go_sem,e8,ew];(try simp);(try omega)
  ·simp only [go_sem];try simp [bN]
 obtain rfl:j=m.exs.length:=by omega
 replace hLn4:L4.length≤200:=by omega
 replace hhi4:n4≤281474976710656000:=by omega
 simp only [go_sem,au h1]
 clear h1 hj
 refine an (fun q:Nat×Int×List (List cN)=>⟨[(10,.int .i64 q.1),(4,.int .i64 q.2.1),(3,.ms 900 1 0 q.2.2.length),(1,.mp 1 12 0 0)],[(1,⟨33,12,[kU m],true⟩),(900,⟨58,1,q.2.2.map cU,false⟩)]⟩) (fun q=>q.1≤m.els.length∧n4≤q.2.1∧q.2.1≤281474976710656000+q.1 * 562949953421312∧(∀k,k<q.1→(aj m.els k).it.length≤300)∧(∀l∈q.2.2,l.length≤140737488355328)∧q.2.2.length≤200+q.1 * 301∧(∀l∈L4,l∈q.2.2)∧(∀k,k<q.1→(aj m.els k).o∈q.2.2)∧(∀k,k<q.1→∀l∈(aj m.els k).it,l∈q.2.2)) (fun q=>m.els.length - q.1) (0,n4,L4) ⟨cq _,Int.le_refl _,by simp only;omega,fun k hk=>absurd hk (Nat.not_lt_zero _),hLb4,by simp only;omega,fun l hl=>hl,fun k hk=>absurd hk (Nat.not_lt_zero _),fun k hk=>absurd hk (Nat.not_lt_zero _)⟩ (Wk.of ?_ ?_) ?_
 ·simp only [go_sem];try simp [go_sem]
 ·simp only [go_sem];try simp [go_sem]
 rintro ⟨j,n5,L5⟩ ⟨hj,hlo5,hhi5,hit,hLb5,hLn5,hLs5,hr5o,hr5it⟩
 simp only at hj hlo5 hhi5 hit hLb5 hLn5 hLs5 hr5o hr5it
 by_cases h1:(j:Int)<(m.els.length:Int)
 ·have hj':j<m.els.length:=by omega
  have e8:=cD hj' (by omega)
  have hb:=aX b8.2 hj'
  have ew:=e8
  have happ:=fun ys=>br 900 58 1 L5.length cU L5 ys rfl
  by_cases g:((aj m.els j).it.length:Int)>300
  ·simp only [go_sem,az h1,az g]
   refine ⟨by omega,h1,?_⟩
   exact done [] (.bool false) [] (by simp only [go_sem]) trivial rfl ⟨false,(fun h=>by cases h),rfl,rfl⟩
  have happ2:=fun ys=>br 900 58 1 (L5.length+1) cU (L5++[(aj m.els j).o]) ys (by simp)
  simp only [List.map_append,ee,List.map_nil,bN] at happ2
  simp only [go_sem,az h1,happ,au g,happ2]
  refine ⟨by omega,h1,by omega,h1,by omega,by omega,h1,by omega,?_⟩
  refine aA (j+1,n5,(L5++[(aj m.els j).o])++(aj m.els j).it) ⟨show j+1≤m.els.length by omega,show n4≤n5 by omega,show n5≤_ by simp only;omega,fun k hk=>by rcases bK k j with z | z;exact hit k z;(obtain rfl:j=k:=by (have:k<j+1:=hk);omega);omega,fun l hl=>?_,?_,fun l hl=>?_,fun k hk=>?_,fun k hk l hl=>?_⟩ (show m.els.length - (j+1)<m.els.length - j by omega) (Wk.of ?_ ?_)
  ·have:l∈(L5++[(aj m.els j).o])++(aj m.els j).it:=hl
   simp only [dz,eL] at this
   rcases this with (z | rfl) | z
   ·exact hLb5 l z
   ·exact (hb.1).1
   ·exact (hb.2.2 l z).1
  ·show ((L5++[(aj m.els j).o])++(aj m.els j).it).length≤_;simp only [wF,pD,lp];omega
  ·show l∈(L5++[(aj m.els j).o])++(aj m.els j).it;simp [hLs5 l hl]
  ·show _∈(L5++[(aj m.els j).o])++(aj m.els j).it;rcases bK k j with z | z
   ·simp [hr5o k z]
   ·obtain rfl:j=k:=by (have:k<j+1:=hk);omega
    simp
  ·show _∈(L5++[(aj m.els j).o])++(aj m.els j).it;rcases bK k j with z | z
   ·simp [hr5it k z l hl]
   ·obtain rfl:j=k:=by (have:k<j+1:=hk);omega
    simp [hl]
  ·simp only [go_sem,e8,ew];(try simp);(try omega)
  ·simp only [go_sem];try simp [bN]
 obtain rfl:j=m.els.length:=by omega
 replace hLn5:L5.length≤30300:=by omega
 replace hhi5:n5≤337769972052787200:=by omega
 simp only [go_sem,au h1]
 clear h1 hj
 refine an (fun q:Nat×Int×List (List cN)=>⟨[(11,.int .i64 q.1),(4,.int .i64 q.2.1),(3,.ms 900 1 0 q.2.2.length),(1,.mp 1 12 0 0)],[(1,⟨33,12,[kU m],true⟩),(900,⟨58,1,q.2.2.map cU,false⟩)]⟩) (fun q=>q.1≤m.ds.length∧n5≤q.2.1∧q.2.1≤337769972052787200+q.1 * 562949953421312∧(∀k,k<q.1→((aj m.ds k).b.length:Int)≤q.2.1)∧(∀l∈q.2.2,l.length≤140737488355328)∧q.2.2.length≤30300+q.1 * 1∧(∀l∈L5,l∈q.2.2)∧(∀k,k<q.1→(aj m.ds k).o∈q.2.2)) (fun q=>m.ds.length - q.1) (0,n5,L5) ⟨cq _,Int.le_refl _,by simp only;omega,fun k hk=>absurd hk (Nat.not_lt_zero _),hLb5,by simp only;omega,fun l hl=>hl,fun k hk=>absurd hk (Nat.not_lt_zero _)⟩ (Wk.of ?_ ?_) ?_
 ·simp only [go_sem];try simp [go_sem]
 ·simp only [go_sem];try simp [go_sem]
 rintro ⟨j,n6,L6⟩ ⟨hj,hlo6,hhi6,ha6b,hLb6,hLn6,hLs6,hr6o⟩
 simp only at hj hlo6 hhi6 ha6b hLb6 hLn6 hLs6 hr6o
 by_cases h1:(j:Int)<(m.ds.length:Int)
 ·have hj':j<m.ds.length:=by omega
  have e8:=cD hj' (by omega)
  have hb:=aX b9.2 hj'
  have hq:=hb
  have hw0:((aj m.ds j).b.length:Int)≤140737488355328:=by have:=hb.2.1;omega
  have ew:IntKind.i64.wrap (n6+((aj m.ds j).b.length:Int))=(n6+((aj m.ds j).b.length:Int)):=by rw [wi (by omega) (by omega)]
  have happ:=fun ys=>br 900 58 1 L6.length cU L6 ys rfl
  simp only [go_sem,az h1,happ]
  refine ⟨by omega,h1,by omega,h1,by omega,?_⟩
  refine aA (j+1,(n6+((aj m.ds j).b.length:Int)),L6++[(aj m.ds j).o]) ⟨show j+1≤m.ds.length by omega,show n5≤(n6+((aj m.ds j).b.length:Int)) by omega,show (n6+((aj m.ds j).b.length:Int))≤_ by simp only;omega,fun k hk=>by rcases bK k j with z | z;(have:=ha6b k z;show _≤((n6+((aj m.ds j).b.length:Int)):Int);omega);(obtain rfl:j=k:=by (have:k<j+1:=hk);omega);show _≤((n6+((aj m.ds j).b.length:Int)):Int);omega,fun l hl=>?_,?_,fun l hl=>?_,fun k hk=>?_⟩ (show m.ds.length - (j+1)<m.ds.length - j by omega) (Wk.of ?_ ?_)
  ·have:l∈L6++[(aj m.ds j).o]:=hl
   simp only [dz,eL] at this
   rcases this with z | rfl
   ·exact hLb6 l z
   ·exact (hb.1).1
  ·show (L6++[(aj m.ds j).o]).length≤_;simp only [wF,pD,lp];omega
  ·show l∈L6++[(aj m.ds j).o];simp [hLs6 l hl]
  ·show _∈L6++[(aj m.ds j).o];rcases bK k j with z | z
   ·simp [hr6o k z]
   ·obtain rfl:j=k:=by (have:k<j+1:=hk);omega
    simp
  ·simp only [go_sem,e8,ew];(try simp);(try omega)
  ·simp only [go_sem];try simp [bN]
 obtain rfl:j=m.ds.length:=by omega
 replace hLn6:L6.length≤30400:=by omega
 replace hhi6:n6≤394064967394918400:=by omega
 simp only [go_sem,au h1]
 clear h1 hj
 refine an (fun q:Nat×Int×List (List cN)=>⟨[(12,.int .i64 q.1),(4,.int .i64 q.2.1),(3,.ms 900 1 0 q.2.2.length),(1,.mp 1 12 0 0)],[(1,⟨33,12,[kU m],true⟩),(900,⟨58,1,q.2.2.map cU,false⟩)]⟩) (fun q=>q.1≤m.cs.length∧n6≤q.2.1∧q.2.1≤394064967394918400+q.1 * 562949953421312∧(∀k,k<q.1→((aj m.cs k).b.length:Int)≤q.2.1)∧(∀k,k<q.1→((aj m.cs k).n.length:Int)≤q.2.1)∧(∀l∈q.2.2,l.length≤140737488355328)∧q.2.2.length≤30400+q.1 * 0∧(∀l∈L6,l∈q.2.2)) (fun q=>m.cs.length - q.1) (0,n6,L6) ⟨cq _,Int.le_refl _,by simp only;omega,fun k hk=>absurd hk (Nat.not_lt_zero _),fun k hk=>absurd hk (Nat.not_lt_zero _),hLb6,by simp only;omega,fun l hl=>hl⟩ (Wk.of ?_ ?_) ?_
 ·simp only [go_sem];try simp [go_sem]
 ·simp only [go_sem];try simp [go_sem]
 rintro ⟨j,n7,L7⟩ ⟨hj,hlo7,hhi7,ha7b,ha7n,hLb7,hLn7,hLs7⟩
 simp only at hj hlo7 hhi7 ha7b ha7n hLb7 hLn7 hLs7
 by_cases h1:(j:Int)<(m.cs.length:Int)
 ·have hj':j<m.cs.length:=by omega
  have e8:=cD hj' (by omega)
  have hb:=aX b10.2 hj'
  have hq:=hb
  have hw0:((aj m.cs j).b.length:Int)≤140737488355328:=by have:=hb.2.1;omega
  have hw1:((aj m.cs j).n.length:Int)≤140737488355328:=by have:=hb.1;omega
  have ew:IntKind.i64.wrap (n7+IntKind.i64.wrap (((aj m.cs j).b.length:Int)+((aj m.cs j).n.length:Int)))=(n7+(((aj m.cs j).b.length:Int)+((aj m.cs j).n.length:Int))):=by rw [wi (n:=((aj m.cs j).b.length:Int)+((aj m.cs j).n.length:Int)) (by omega) (by omega),wi (by omega) (by omega)]
  simp only [go_sem,az h1]
  refine ⟨by omega,h1,by omega,h1,?_⟩
  refine aA (j+1,(n7+(((aj m.cs j).b.length:Int)+((aj m.cs j).n.length:Int))),L7) ⟨show j+1≤m.cs.length by omega,show n6≤(n7+(((aj m.cs j).b.length:Int)+((aj m.cs j).n.length:Int))) by omega,show (n7+(((aj m.cs j).b.length:Int)+((aj m.cs j).n.length:Int)))≤_ by simp only;omega,fun k hk=>by rcases bK k j with z | z;(have:=ha7b k z;show _≤((n7+(((aj m.cs j).b.length:Int)+((aj m.cs j).n.length:Int))):Int);omega);(obtain rfl:j=k:=by (have:k<j+1:=hk);omega);show _≤((n7+(((aj m.cs j).b.length:Int)+((aj m.cs j).n.length:Int))):Int);omega,fun k hk=>by rcases bK k j with z | z;(have:=ha7n k z;show _≤((n7+(((aj m.cs j).b.length:Int)+((aj m.cs j).n.length:Int))):Int);omega);(obtain rfl:j=k:=by (have:k<j+1:=hk);omega);show _≤((n7+(((aj m.cs j).b.length:Int)+((aj m.cs j).n.length:Int))):Int);omega,fun l hl=>?_,?_,fun l hl=>?_⟩ (show m.cs.length - (j+1)<m.cs.length - j by omega) (Wk.of ?_ ?_)
  ·exact hLb7 l hl
  ·show L7.length≤_;omega
  ·exact hLs7 l hl
  ·simp only [go_sem,e8,ew];(try simp);(try omega)
  ·simp only [go_sem];try simp [bN]
 obtain rfl:j=m.cs.length:=by omega
 replace hLn7:L7.length≤30400:=by omega
 replace hhi7:n7≤450359962737049600:=by omega
 by_cases q9:n7≤9000
 rotate_left
 ·simp only [go_sem,au h1,au q9]
  exact done [] (.bool false) [] (by simp only [go_sem]) trivial rfl ⟨false,(fun h=>by cases h),rfl,rfl⟩
 have cr:=II L7 (by omega) (fun l hl=>by have:=hLb7 l hl;omega)
 simp only [go_sem,au h1,az q9]
 refine kB [900] ?_ cr (by simp [go_sem]) ?_
 ·simp only [go_sem,bD]
  rw [kv (by simp)]
 simp only [go_sem]
 refine done [] (.bool (po 0 L7)) [] (by simp only [go_sem]) trivial rfl ⟨po 0 L7,fun h=>?_,rfl,rfl⟩
 have lx:∀{n:Nat},¬((n:Nat):Int)>100→n≤100:=fun h=>by omega
 have RB:=tC L7 0 (by omega) (by omega) hLb7 h
 have ux:∀{n:Nat},¬((n:Nat):Int)>100→n≤1048576:=fun h=>by omega
 have RI:∀l∈L7,(∀x∈l,0≤x.n)→lD l:=fun l hl h0=>by
  obtain ⟨r1,r2⟩:=RB l hl
  exact ⟨by omega,fun x hx=>by have:=r2 x hx;exact ⟨by omega,by omega,h0 x hx⟩⟩
 have up3:∀l∈L2,l∈L7:=fun l hl=>hLs7 l (hLs6 l (hLs5 l (hLs4 l (hLs3 l hl))))
 have up4:∀l∈L3,l∈L7:=fun l hl=>hLs7 l (hLs6 l (hLs5 l (hLs4 l hl)))
 have up6:∀l∈L5,l∈L7:=fun l hl=>hLs7 l (hLs6 l hl)
 have nn:∀{l:List cN},bL pI 140737488355328 l→∀x∈l,0≤x.n:=fun h x hx=>(h.2 x hx).1.1
 refine ⟨⟨lx l0,lx l1,lx l2,lx l3,lx l4,lx l5,lx l6,lx l7,lx l8,lx l9,iH hit⟩,⟨ux l0,iH fun k hk=>?_⟩,ux l1,⟨ux l2,iH fun k hk=>?_⟩,ux l3,ux l4,⟨ux l5,iH fun k hk=>?_⟩,ux l6,⟨ux l7,iH fun k hk=>?_⟩,⟨ux l8,iH fun k hk=>?_⟩,⟨ux l9,iH fun k hk=>?_⟩⟩
 ·have:=ha0ps k hk;have:=ha0rs k hk
  exact ⟨by omega,by omega⟩
 ·have:=ha2lo k hk
  exact ⟨by omega,RI _ (up3 _ (hr2b k hk)) (nn (aX b3.2 hk).2)⟩
 ·exact RI _ (up4 _ (hr3i k hk)) (nn (aX b6.2 hk))
 ·have:=hit k hk
  exact ⟨RI _ (up6 _ (hr5o k hk)) (nn (aX b8.2 hk).1),by omega,fun l hl=>RI _ (up6 _ (hr5it k hk l hl)) (nn ((aX b8.2 hk).2.2 l hl))⟩
 ·have:=ha6b k hk
  exact ⟨RI _ (hLs7 _ (hr6o k hk)) (nn (aX b9.2 hk).1),by omega⟩
 ·have:=ha7b k hk
  show (aj m.cs k).b.length≤_
  omega
end
structure Hr where
 f:Int
 h:List UInt8
 t:List UInt8
structure Oc where
 op:Int
 nm:List UInt8
 im:Int
def LI (r:Hr):List AV:=[.int .i64 r.f,.str r.h,.str r.t]
instance:Inhabited Hr:=⟨⟨0,[],[]⟩⟩
instance:Inhabited Oc:=⟨⟨0,[],0⟩⟩
def HR:List Hr:=[⟨0,[],[117,110,114,101,97,99,104,97,98,108,101,32,110,111,112,32,98,108,111,99,107,32,108,111,111,112,32,105,102,32,101,108,115,101]⟩,
 ⟨11,[],[101,110,100,32,98,114,32,98,114,95,105,102,32,98,114,95,116,97,98,108,101,32,114,101,116,117,114,110,32,99,97,108,108,32,99,97,108,108,95,105,110,100,105,114,101,99,116]⟩,
 ⟨26,[],[100,114,111,112,32,115,101,108,101,99,116,32,115,101,108,101,99,116]⟩,
 ⟨32,[108,111,99,97,108,46],[103,101,116,32,115,101,116,32,116,101,101]⟩,
 ⟨35,[103,108,111,98,97,108,46],[103,101,116,32,115,101,116]⟩,
 ⟨37,[116,97,98,108,101,46],[103,101,116,32,115,101,116]⟩,
 ⟨40,[],[105,51,50,46,108,111,97,100,32,105,54,52,46,108,111,97,100]⟩,
 ⟨44,[105,51,50,46],[108,111,97,100,56,95,115,32,108,111,97,100,56,95,117,32,108,111,97,100,49,54,95,115,32,108,111,97,100,49,54,95,117]⟩,
 ⟨48,[105,54,52,46],[108,111,97,100,56,95,115,32,108,111,97,100,56,95,117,32,108,111,97,100,49,54,95,115,32,108,111,97,100,49,54,95,117,32,108,111,97,100,51,50,95,115,32,108,111,97,100,51,50,95,117]⟩,
 ⟨54,[],[105,51,50,46,115,116,111,114,101,32,105,54,52,46,115,116,111,114,101]⟩,
 ⟨58,[105,51,50,46],[115,116,111,114,101,56,32,115,116,111,114,101,49,54]⟩,
 ⟨60,[105,54,52,46],[115,116,111,114,101,56,32,115,116,111,114,101,49,54,32,115,116,111,114,101,51,50]⟩,
 ⟨63,[109,101,109,111,114,121,46],[115,105,122,101,32,103,114,111,119]⟩,
 ⟨65,[],[105,51,50,46,99,111,110,115,116,32,105,54,52,46,99,111,110,115,116]⟩,
 ⟨69,[105,51,50,46],[101,113,122,32,101,113,32,110,101,32,108,116,95,115,32,108,116,95,117,32,103,116,95,115,32,103,116,95,117,32,108,101,95,115,32,108,101,95,117,32,103,101,95,115,32,103,101,95,117]⟩,
 ⟨80,[105,54,52,46],[101,113,122,32,101,113,32,110,101,32,108,116,95,115,32,108,116,95,117,32,103,116,95,115,32,103,116,95,117,32,108,101,95,115,32,108,101,95,117,32,103,101,95,115,32,103,101,95,117]⟩,
 ⟨103,[105,51,50,46],[99,108,122,32,99,116,122,32,112,111,112,99,110,116,32,97,100,100,32,115,117,98,32,109,117,108,32,100,105,118,95,115,32,100,105,118,95,117,32,114,101,109,95,115,32,114,101,109,95,117,32,97,110,100,32,111,114,32,120,111,114,32,115,104,108,32,115,104,114,95,115,32,115,104,114,95,117,32,114,111,116,108,32,114,111,116,114]⟩,
 ⟨121,[105,54,52,46],[99,108,122,32,99,116,122,32,112,111,112,99,110,116,32,97,100,100,32,115,117,98,32,109,117,108,32,100,105,118,95,115,32,100,105,118,95,117,32,114,101,109,95,115,32,114,101,109,95,117,32,97,110,100,32,111,114,32,120,111,114,32,115,104,108,32,115,104,114,95,115,32,115,104,114,95,117,32,114,111,116,108,32,114,111,116,114]⟩,
 ⟨167,[],[105,51,50,46,119,114,97,112,95,105,54,52]⟩,
 ⟨172,[105,54,52,46],[101,120,116,101,110,100,95,105,51,50,95,115,32,101,120,116,101,110,100,95,105,51,50,95,117]⟩,
 ⟨192,[105,51,50,46],[101,120,116,101,110,100,56,95,115,32,101,120,116,101,110,100,49,54,95,115]⟩,
 ⟨194,[105,54,52,46],[101,120,116,101,110,100,56,95,115,32,101,120,116,101,110,100,49,54,95,115,32,101,120,116,101,110,100,51,50,95,115]⟩,
 ⟨208,[114,101,102,46],[110,117,108,108,32,105,115,95,110,117,108,108,32,102,117,110,99]⟩,
 ⟨64520,[],[109,101,109,111,114,121,46,105,110,105,116,32,100,97,116,97,46,100,114,111,112,32,109,101,109,111,114,121,46,99,111,112,121,32,109,101,109,111,114,121,46,102,105,108,108,32,116,97,98,108,101,46,105,110,105,116,32,101,108,101,109,46,100,114,111,112,32,116,97,98,108,101,46,99,111,112,121,32,116,97,98,108,101,46,103,114,111,119,32,116,97,98,108,101,46,115,105,122,101,32,116,97,98,108,101,46,102,105,108,108]⟩]
def OC:List Oc:=[⟨0,[117,110,114,101,97,99,104,97,98,108,101],0⟩,
 ⟨1,[110,111,112],0⟩,
 ⟨2,[98,108,111,99,107],1⟩,
 ⟨3,[108,111,111,112],1⟩,
 ⟨4,[105,102],1⟩,
 ⟨5,[101,108,115,101],0⟩,
 ⟨11,[101,110,100],0⟩,
 ⟨12,[98,114],2⟩,
 ⟨13,[98,114,95,105,102],2⟩,
 ⟨14,[98,114,95,116,97,98,108,101],3⟩,
 ⟨15,[114,101,116,117,114,110],0⟩,
 ⟨16,[99,97,108,108],4⟩,
 ⟨17,[99,97,108,108,95,105,110,100,105,114,101,99,116],5⟩,
 ⟨26,[100,114,111,112],0⟩,
 ⟨27,[115,101,108,101,99,116],0⟩,
 ⟨28,[115,101,108,101,99,116],6⟩,
 ⟨32,[108,111,99,97,108,46,103,101,116],7⟩,
 ⟨33,[108,111,99,97,108,46,115,101,116],7⟩,
 ⟨34,[108,111,99,97,108,46,116,101,101],7⟩,
 ⟨35,[103,108,111,98,97,108,46,103,101,116],8⟩,
 ⟨36,[103,108,111,98,97,108,46,115,101,116],8⟩,
 ⟨37,[116,97,98,108,101,46,103,101,116],9⟩,
 ⟨38,[116,97,98,108,101,46,115,101,116],9⟩,
 ⟨40,[105,51,50,46,108,111,97,100],17⟩,
 ⟨41,[105,54,52,46,108,111,97,100],17⟩,
 ⟨44,[105,51,50,46,108,111,97,100,56,95,115],17⟩,
 ⟨45,[105,51,50,46,108,111,97,100,56,95,117],17⟩,
 ⟨46,[105,51,50,46,108,111,97,100,49,54,95,115],17⟩,
 ⟨47,[105,51,50,46,108,111,97,100,49,54,95,117],17⟩,
 ⟨48,[105,54,52,46,108,111,97,100,56,95,115],17⟩,
 ⟨49,[105,54,52,46,108,111,97,100,56,95,117],17⟩,
 ⟨50,[105,54,52,46,108,111,97,100,49,54,95,115],17⟩,
 ⟨51,[105,54,52,46,108,111,97,100,49,54,95,117],17⟩,
 ⟨52,[105,54,52,46,108,111,97,100,51,50,95,115],17⟩,
 ⟨53,[105,54,52,46,108,111,97,100,51,50,95,117],17⟩,
 ⟨54,[105,51,50,46,115,116,111,114,101],17⟩,
 ⟨55,[105,54,52,46,115,116,111,114,101],17⟩,
 ⟨58,[105,51,50,46,115,116,111,114,101,56],17⟩,
 ⟨59,[105,51,50,46,115,116,111,114,101,49,54],17⟩,
 ⟨60,[105,54,52,46,115,116,111,114,101,56],17⟩,
 ⟨61,[105,54,52,46,115,116,111,114,101,49,54],17⟩,
 ⟨62,[105,54,52,46,115,116,111,114,101,51,50],17⟩,
 ⟨63,[109,101,109,111,114,121,46,115,105,122,101],13⟩,
 ⟨64,[109,101,109,111,114,121,46,103,114,111,119],13⟩,
 ⟨65,[105,51,50,46,99,111,110,115,116],18⟩,
 ⟨66,[105,54,52,46,99,111,110,115,116],19⟩,
 ⟨69,[105,51,50,46,101,113,122],0⟩,
 ⟨70,[105,51,50,46,101,113],0⟩,
 ⟨71,[105,51,50,46,110,101],0⟩,
 ⟨72,[105,51,50,46,108,116,95,115],0⟩,
 ⟨73,[105,51,50,46,108,116,95,117],0⟩,
 ⟨74,[105,51,50,46,103,116,95,115],0⟩,
 ⟨75,[105,51,50,46,103,116,95,117],0⟩,
 ⟨76,[105,51,50,46,108,101,95,115],0⟩,
 ⟨77,[105,51,50,46,108,101,95,117],0⟩,
 ⟨78,[105,51,50,46,103,101,95,115],0⟩,
 ⟨79,[105,51,50,46,103,101,95,117],0⟩,
 ⟨80,[105,54,52,46,101,113,122],0⟩,
 ⟨81,[105,54,52,46,101,113],0⟩,
 ⟨82,[105,54,52,46,110,101],0⟩,
 ⟨83,[105,54,52,46,108,116,95,115],0⟩,
 ⟨84,[105,54,52,46,108,116,95,117],0⟩,
 ⟨85,[105,54,52,46,103,116,95,115],0⟩,
 ⟨86,[105,54,52,46,103,116,95,117],0⟩,
 ⟨87,[105,54,52,46,108,101,95,115],0⟩,
 ⟨88,[105,54,52,46,108,101,95,117],0⟩,
 ⟨89,[105,54,52,46,103,101,95,115],0⟩,
 ⟨90,[105,54,52,46,103,101,95,117],0⟩,
 ⟨103,[105,51,50,46,99,108,122],0⟩,
 ⟨104,[105,51,50,46,99,116,122],0⟩,
 ⟨105,[105,51,50,46,112,111,112,99,110,116],0⟩,
 ⟨106,[105,51,50,46,97,100,100],0⟩,
 ⟨107,[105,51,50,46,115,117,98],0⟩,
 ⟨108,[105,51,50,46,109,117,108],0⟩,
 ⟨109,[105,51,50,46,100,105,118,95,115],0⟩,
 ⟨110,[105,51,50,46,100,105,118,95,117],0⟩,
 ⟨111,[105,51,50,46,114,101,109,95,115],0⟩,
 ⟨112,[105,51,50,46,114,101,109,95,117],0⟩,
 ⟨113,[105,51,50,46,97,110,100],0⟩,
 ⟨114,[105,51,50,46,111,114],0⟩,
 ⟨115,[105,51,50,46,120,111,114],0⟩,
 ⟨116,[105,51,50,46,115,104,108],0⟩,
 ⟨117,[105,51,50,46,115,104,114,95,115],0⟩,
 ⟨118,[105,51,50,46,115,104,114,95,117],0⟩,
 ⟨119,[105,51,50,46,114,111,116,108],0⟩,
 ⟨120,[105,51,50,46,114,111,116,114],0⟩,
 ⟨121,[105,54,52,46,99,108,122],0⟩,
 ⟨122,[105,54,52,46,99,116,122],0⟩,
 ⟨123,[105,54,52,46,112,111,112,99,110,116],0⟩,
 ⟨124,[105,54,52,46,97,100,100],0⟩,
 ⟨125,[105,54,52,46,115,117,98],0⟩,
 ⟨126,[105,54,52,46,109,117,108],0⟩,
 ⟨127,[105,54,52,46,100,105,118,95,115],0⟩,
 ⟨128,[105,54,52,46,100,105,118,95,117],0⟩,
 ⟨129,[105,54,52,46,114,101,109,95,115],0⟩,
 ⟨130,[105,54,52,46,114,101,109,95,117],0⟩,
 ⟨131,[105,54,52,46,97,110,100],0⟩,
 ⟨132,[105,54,52,46,111,114],0⟩,
 ⟨133,[105,54,52,46,120,111,114],0⟩,
 ⟨134,[105,54,52,46,115,104,108],0⟩,
 ⟨135,[105,54,52,46,115,104,114,95,115],0⟩,
 ⟨136,[105,54,52,46,115,104,114,95,117],0⟩,
 ⟨137,[105,54,52,46,114,111,116,108],0⟩,
 ⟨138,[105,54,52,46,114,111,116,114],0⟩,
 ⟨167,[105,51,50,46,119,114,97,112,95,105,54,52],0⟩,
 ⟨172,[105,54,52,46,101,120,116,101,110,100,95,105,51,50,95,115],0⟩,
 ⟨173,[105,54,52,46,101,120,116,101,110,100,95,105,51,50,95,117],0⟩,
 ⟨192,[105,51,50,46,101,120,116,101,110,100,56,95,115],0⟩,
 ⟨193,[105,51,50,46,101,120,116,101,110,100,49,54,95,115],0⟩,
 ⟨194,[105,54,52,46,101,120,116,101,110,100,56,95,115],0⟩,
 ⟨195,[105,54,52,46,101,120,116,101,110,100,49,54,95,115],0⟩,
 ⟨196,[105,54,52,46,101,120,116,101,110,100,51,50,95,115],0⟩,
 ⟨208,[114,101,102,46,110,117,108,108],20⟩,
 ⟨209,[114,101,102,46,105,115,95,110,117,108,108],0⟩,
 ⟨210,[114,101,102,46,102,117,110,99],4⟩,
 ⟨64520,[109,101,109,111,114,121,46,105,110,105,116],15⟩,
 ⟨64521,[100,97,116,97,46,100,114,111,112],16⟩,
 ⟨64522,[109,101,109,111,114,121,46,99,111,112,121],14⟩,
 ⟨64523,[109,101,109,111,114,121,46,102,105,108,108],13⟩,
 ⟨64524,[116,97,98,108,101,46,105,110,105,116],11⟩,
 ⟨64525,[101,108,101,109,46,100,114,111,112],12⟩,
 ⟨64526,[116,97,98,108,101,46,99,111,112,121],10⟩,
 ⟨64527,[116,97,98,108,101,46,103,114,111,119],9⟩,
 ⟨64528,[116,97,98,108,101,46,115,105,122,101],9⟩,
 ⟨64529,[116,97,98,108,101,46,102,105,108,108],9⟩]
def RK:List UInt8→List UInt8→List (List UInt8)
 | [],w=>if w=[] then [] else [w]
 | c :: r,w=>if c=32 then (if w=[] then RK r [] else w :: RK r []) else RK r (w++[c])
def VB (s:List UInt8):List (List UInt8):=RK s []
def xJ (f:Int) (h:List UInt8):Nat→List (List UInt8)→List (Int×List UInt8)
 | _,[]=>[]
 | k,s :: r=>(f+(k:Int),h++s) :: xJ f h (k+1) r
def EN:List (Int×List UInt8):=OC.map fun o=>(o.op,o.nm)
theorem N1:EN=HR.flatMap fun r=>xJ r.f r.h 0 (VB r.t):=by decide +kernel
open Go.Shelf
def Nc:Go.Shelf.Ren:=⟨fun | 144=>138 | 143=>140 | 219=>144 | 217=>147 | 225=>148 | 224=>149 | 267=>150 | 266=>152 | 314=>153 | n=>n,fun | 9=>9 | 4=>4 | 3=>3 | 5=>5 | 46=>197 | 146=>222 | 51=>219 | n=>n,fun | 1=>3 | n=>n⟩
theorem HC:Go.Proofs.Lays.n144 Tryz.prog Nc:={
 mixed:=by kernel_rfl
 f143:=Tryz.func140.trans (congrArg some (by kernel_rfl))
 f144:=Tryz.func138.trans (congrArg some (by kernel_rfl))
 f217:=Tryz.func147.trans (congrArg some (by kernel_rfl))
 f219:=Tryz.func144.trans (congrArg some (by kernel_rfl))
 f224:=Tryz.func149.trans (congrArg some (by kernel_rfl))
 f225:=Tryz.func148.trans (congrArg some (by kernel_rfl))
 f266:=Tryz.func152.trans (congrArg some (by kernel_rfl))
 f267:=Tryz.func150.trans (congrArg some (by kernel_rfl))
 f314:=Tryz.func153.trans (congrArg some (by kernel_rfl))
 t3:=Tryz.underlying3
 a3:=Tryz.isAgg3
 z3:=Tryz.sizeOf3
 v3:=Tryz.zeroValue3
 t4:=Tryz.underlying4
 a4:=Tryz.isAgg4
 z4:=Tryz.sizeOf4
 v4:=Tryz.zeroValue4
 t5:=Tryz.underlying5
 a5:=Tryz.isAgg5
 z5:=Tryz.sizeOf5
 v5:=Tryz.zeroValue5
 t9:=Tryz.underlying9
 a9:=Tryz.isAgg9
 z9:=Tryz.sizeOf9
 v9:=Tryz.zeroValue9
 t46:=Tryz.underlying197
 a46:=Tryz.isAgg197
 z46:=Tryz.sizeOf197
 v46:=Tryz.zeroValue197
 t51:=Tryz.underlying219
 a51:=Tryz.isAgg219
 z51:=Tryz.sizeOf219
 v51:=Tryz.zeroValue219
 t146:=Tryz.underlying222
 a146:=Tryz.isAgg222
 z146:=Tryz.sizeOf222
 v146:=Tryz.zeroValue222
 g1:=by kernel_rfl }
def Nf:Go.Shelf.Ren:=⟨fun | 157=>143 | 229=>145 | 199=>146 | 261=>151 | 311=>154 | 312=>155 | n=>n,fun | 9=>9 | 31=>201 | 3=>3 | 5=>5 | 4=>4 | 119=>193 | 0=>0 | 40=>213 | 152=>216 | 21=>21 | 154=>218 | 51=>219 | 141=>221 | 196=>227 | 193=>224 | 198=>230 | 49=>228 | 194=>225 | 201=>233 | 226=>235 | 46=>197 | 227=>236 | n=>n,fun | 0=>2 | 6=>4 | n=>n⟩
theorem HD:Go.Proofs.Lays.n157 Tryz.prog Nf:={
 mixed:=by kernel_rfl
 f157:=Tryz.func143.trans (congrArg some (by kernel_rfl))
 f199:=Tryz.func146.trans (congrArg some (by kernel_rfl))
 f229:=Tryz.func145.trans (congrArg some (by kernel_rfl))
 f261:=Tryz.func151.trans (congrArg some (by kernel_rfl))
 f311:=Tryz.func154.trans (congrArg some (by kernel_rfl))
 f312:=Tryz.func155.trans (congrArg some (by kernel_rfl))
 t0:=Tryz.underlying0
 a0:=Tryz.isAgg0
 z0:=Tryz.sizeOf0
 v0:=Tryz.zeroValue0
 t3:=Tryz.underlying3
 a3:=Tryz.isAgg3
 z3:=Tryz.sizeOf3
 v3:=Tryz.zeroValue3
 t4:=Tryz.underlying4
 a4:=Tryz.isAgg4
 z4:=Tryz.sizeOf4
 v4:=Tryz.zeroValue4
 t5:=Tryz.underlying5
 a5:=Tryz.isAgg5
 z5:=Tryz.sizeOf5
 v5:=Tryz.zeroValue5
 t9:=Tryz.underlying9
 a9:=Tryz.isAgg9
 z9:=Tryz.sizeOf9
 v9:=Tryz.zeroValue9
 t21:=Tryz.underlying21
 a21:=Tryz.isAgg21
 z21:=Tryz.sizeOf21
 v21:=Tryz.zeroValue21
 t31:=Tryz.underlying201
 a31:=Tryz.isAgg201
 z31:=Tryz.sizeOf201
 v31:=Tryz.zeroValue201
 t40:=Tryz.underlying213
 a40:=Tryz.isAgg213
 z40:=Tryz.sizeOf213
 v40:=Tryz.zeroValue213
 t46:=Tryz.underlying197
 a46:=Tryz.isAgg197
 z46:=Tryz.sizeOf197
 v46:=Tryz.zeroValue197
 t49:=Tryz.underlying228
 a49:=Tryz.isAgg228
 z49:=Tryz.sizeOf228
 v49:=Tryz.zeroValue228
 t51:=Tryz.underlying219
 a51:=Tryz.isAgg219
 z51:=Tryz.sizeOf219
 v51:=Tryz.zeroValue219
 t119:=Tryz.underlying193
 a119:=Tryz.isAgg193
 z119:=Tryz.sizeOf193
 t141:=Tryz.underlying221
 a141:=Tryz.isAgg221
 z141:=Tryz.sizeOf221
 v141:=Tryz.zeroValue221
 t152:=Tryz.underlying216
 a152:=Tryz.isAgg216
 z152:=Tryz.sizeOf216
 v152:=Tryz.zeroValue216
 t154:=Tryz.underlying218
 a154:=Tryz.isAgg218
 z154:=Tryz.sizeOf218
 v154:=Tryz.zeroValue218
 t193:=Tryz.underlying224
 a193:=Tryz.isAgg224
 z193:=Tryz.sizeOf224
 v193:=Tryz.zeroValue224
 t194:=Tryz.underlying225
 a194:=Tryz.isAgg225
 z194:=Tryz.sizeOf225
 v194:=Tryz.zeroValue225
 t196:=Tryz.underlying227
 a196:=Tryz.isAgg227
 z196:=Tryz.sizeOf227
 v196:=Tryz.zeroValue227
 t198:=Tryz.underlying230
 a198:=Tryz.isAgg230
 z198:=Tryz.sizeOf230
 v198:=Tryz.zeroValue230
 t201:=Tryz.underlying233
 a201:=Tryz.isAgg233
 z201:=Tryz.sizeOf233
 v201:=Tryz.zeroValue233
 t226:=Tryz.underlying235
 a226:=Tryz.isAgg235
 z226:=Tryz.sizeOf235
 v226:=Tryz.zeroValue235
 t227:=Tryz.underlying236
 a227:=Tryz.isAgg236
 z227:=Tryz.sizeOf236
 v227:=Tryz.zeroValue236
 g0:=by kernel_rfl
 g6:=by kernel_rfl }
theorem kj (s sub:List UInt8) (hs:s.length<4294967281):ak Tryz.prog ki [.str s,.str sub] (.bool (Lib.contains s sub)):=by
 refine ak.of (fun w bl M cargs hH hM ha=>?_) rfl
 match cargs,ha with
 | [a,b],⟨h1,h2,_⟩ =>
  obtain rfl:=h1.str
  obtain rfl:=h2.str
  obtain ⟨m,hm⟩:=hH.2.2
  refine (Any.strings_Contains HC ⟨s.toArray⟩ ⟨sub.toArray⟩ m w (by simpa [ByteArray.size] using hs) hm).mono ?_
  rintro e w' ⟨rfl,rfl⟩
  exact ⟨_,rfl,gD.refl _ _,IRel.bool _⟩
theorem uz (s:List UInt8) (hs:s.length<4294967281) (ha:∀b∈s,b.toNat<128) (w:World) (hH:(aS.T Tryz.prog).H w) :
  Calls Tryz.prog lO #[.string ⟨s.toArray⟩] w fun e w'=>e = .returned (.slice (some ⟨w.heap.size,0,none⟩) (Lib.fields s).length (Lib.fields s).length)∧w'=w.alloc (.cells ((Lib.fields s).map fun l=>Value.string ⟨l.toArray⟩).toArray 9):=by
 have h:=Any.strings_Fields_core HD (by kernel_rfl) ⟨s.toArray⟩ w (by simpa [ByteArray.size] using hs) (fun j b hb=>ha b (f7 (by simpa using hb))) (fun c hc=>hH.2.1 c hc)
 exact h
theorem IG:ak Tryz.prog P8 [] (.sl 3 (HR.map LI)):=by
 refine ah (ic:=zk.body) ap OB rfl rfl ?_
 simp only [go_sem,zk]
 exact aL [25] (by rfl) rfl
theorem Eo:ak Tryz.prog UC [] (.fn 141 []):=by
 refine ah (ic:=Kg.body) ap Ta rfl rfl ?_
 simp only [go_sem,Kg]
 exact ae
section
open Go.RowKit
attribute [local go_sem] Oper.semAt_some
def Lg (x:Int×List UInt8):Array Value:=#[.int .i64 x.1,.string ⟨x.2.toArray⟩]
theorem va {M:Nat→Prop} {w:World} {v:Value} (h:aO (fun _=>none) M w v (.sl 3 (HR.map LI))):∃b off cap,v = .slice (some ⟨b,off,none⟩) 24 cap∧¬M b∧∃c t fr,w.heap[b]? = some (.cells c t fr) ∧
  ∀i,i<24→c[off+i * 3]? = some (.int .i64 (aj HR i).f)∧c[off+i * 3+1]? = some (.string ⟨(aj HR i).h.toArray⟩)∧c[off+i * 3+2]? = some (.string ⟨(aj HR i).t.toArray⟩):=by
 have h1:IRel M w v (.sl 3 (HR.map LI)):=h
 have hlen:(HR.map LI).length=24:=by rfl
 generalize hr:HR.map LI=rows at h1 hlen
 cases h1 with
 | nls=>simp at hlen
 | sl0=>simp at hlen
 | sl b off cap st c t fr rows vs hb hM hl hr1 hv hx =>
  refine ⟨b,off,cap,by rw [hlen],hM,c,t,fr,hb,fun i hi=>?_⟩
  have hrow:rows[i]? = some (LI (aj HR i)):=by
   rw [← hr,d_,dj (by rw [← hlen,← hr] at hi;simpa using hi)]
   rfl
  have key:∀j x,(LI (aj HR i))[j]? = some x→j<3→∃u,c[off+i * 3+j]? = some u∧IRel M w u x:=fun j x hj hj3=>⟨_,hv i j (by omega) hj3,hx i j _ _ hrow hj⟩
  obtain ⟨u0,a0,b0⟩:=key 0 (.int .i64 (aj HR i).f) rfl (by omega)
  obtain ⟨u1,a1,b1⟩:=key 1 (.str (aj HR i).h) rfl (by omega)
  obtain ⟨u2,a2,b2⟩:=key 2 (.str (aj HR i).t) rfl (by omega)
  cases b0;cases b1;cases b2
  exact ⟨a0,a1,a2⟩
def pa (k:Nat):List (Int×List UInt8):=(HR.take k).flatMap fun r=>xJ r.f r.h 0 (Lib.fields r.t)
theorem N8 (k:Nat) (h:k<24):(aj HR k).t.length<4294967281∧∀b∈(aj HR k).t,b.toNat<128:=by
 have:∀r∈HR,r.t.length<4294967281∧∀b∈r.t,b.toNat<128:=by decide +kernel
 exact this _ (by rw [cw (by exact h)];exact List.getElem_mem _)
theorem Kk (k:Nat) (h:k<24):(aj HR k).h.length<1000∧0≤(aj HR k).f∧(aj HR k).f<100000∧(Lib.fields (aj HR k).t).length<1000∧∀s∈Lib.fields (aj HR k).t,s.length<1000:=by
 have:∀r∈HR,r.h.length<1000∧0≤r.f∧r.f<100000∧(Lib.fields r.t).length<1000∧∀s∈Lib.fields r.t,s.length<1000:=by decide +kernel
 exact this _ (by rw [cw (by exact h)];exact List.getElem_mem _)
theorem vP (f:Int) (h:List UInt8):∀(l:List (List UInt8)) (k:Nat),(xJ f h k l).length=l.length
 | [],_=>rfl
 | _ :: l,k=>by simp [xJ,vP f h l]
theorem vO (f:Int) (h:List UInt8):∀(l:List (List UInt8)) (k j:Nat),j<l.length→(xJ f h k l)[j]? = some (f+((k+j:Nat):Int),h++aj l j)
 | [],_,j,hj=>by simp at hj
 | s :: l,k,0,_=>rfl
 | s :: l,k,j+1,hj=>by
  have:=vO f h l (k+1) j (by simpa using hj)
  simp only [xJ,List.getElem?_cons_succ]
  rw [this,show k+1+j=k+(j+1) by omega]
  rfl
theorem sJ {f:Int} {h:List UInt8} {l:List (List UInt8)} {j:Nat} (hj:j<l.length):(xJ f h 0 l).take (j+1)=(xJ f h 0 l).take j++[(f+(j:Int),h++aj l j)]:=by
 rw [List.take_add_one,vO f h l 0 j hj,Option.toList_some,Nat.zero_add]
theorem qD {k:Nat} (h:k<24):pa (k+1)=pa k++xJ (aj HR k).f (aj HR k).h 0 (Lib.fields (aj HR k).t):=by
 unfold pa
 rw [List.take_add_one,dj (show k<HR.length from h),Option.toList_some,List.flatMap_append,List.flatMap_singleton]
theorem DU {k:Nat} (h:k≤24):pa k <+: pa 24:=by
 have e:HR.take 24=HR.take k++(HR.take 24).drop k:=by
  rw [show HR.take k=(HR.take 24).take k by rw [List.take_take,Nat.min_eq_left h]];exact (List.take_append_drop k _).symm
 unfold pa
 rw [e,List.flatMap_append]
 exact List.prefix_append _ _
theorem DT:pa 24=HR.flatMap fun r=>xJ r.f r.h 0 (VB r.t):=by decide +kernel
theorem Mx (n:Nat) (w:World):N_ n Tryz.prog 141 #[] Lg EN w:=by
 intro l J Jx W hH hW hJ hJx hY h0
 refine callsIn_of_wp Tryz.func141 rfl trivial ?_ rfl
 have hE:pa 24=EN:=by rw [N1];exact DT
 have cr:=ak.run IG W hH (cargs:=[]) trivial
 simp only [Tryz.ntmps141,List.size_toArray,pD,lp,Nat.reduceAdd,Nat.reduceSub,Array.replicate_succ,Array.replicate_zero,List.push_toArray,List.append_toArray,mL,kx]
 gi_wp2
 refine ⟨trivial,fun h=>(by cases h),(callsIn_wide.2 cr).mono ?_⟩
 rintro e W1 ⟨v,rfl,hv,hst⟩
 obtain ⟨b,off,cap,rfl,hnb,c,t,fr,hb,hc⟩:=va hv
 gi_wp2
 gi_loopw [8] (fun i wr=>∃k:Nat,k≤24∧i = .int .i64 k∧J (pa k) wr∧W.heap.size≤wr.heap.size∧wr.heap[b]? = some (.cells c t fr)∧(aS.T Tryz.prog).H wr) (fun i _=>24 - (intOf i).toNat)
 case atStart=>exact ⟨0,by omega,rfl,hJ _ _ _ h0 hst,hst.size,hb,(aS.T Tryz.prog).stay _ _ hH fun q hq=>hst.keep q ((aS.T Tryz.prog).low _ hH q hq) (fun h=>h)⟩
 case round =>
  obtain ⟨k,hk,rfl,hJk,hsz,hbk,hHk⟩:=hrel
  rename World=>wo1
  by_cases hlt:k<24
  ·have c0:wo1.cell? ⟨b,off+k * 3,none⟩=some (.int .i64 (aj HR k).f):=(dx hbk _).trans (hc k hlt).1
   have c1:wo1.cell? ⟨b,off+k * 3+1,none⟩=some (.string ⟨(aj HR k).h.toArray⟩):=(dx hbk _).trans (hc k hlt).2.1
   have c2:wo1.cell? ⟨b,off+k * 3+2,none⟩=some (.string ⟨(aj HR k).t.toArray⟩):=(dx hbk _).trans (hc k hlt).2.2
   have hsA:=gD.ofAlloc wo1 (.cells #[.int .i64 (aj HR k).f,.string ⟨(aj HR k).h.toArray⟩,.string ⟨(aj HR k).t.toArray⟩] 210)
   have hHA:=(aS.T Tryz.prog).stay _ _ hHk fun q hq=>hsA.keep q ((aS.T Tryz.prog).low _ hHk q hq) (fun h=>h)
   obtain ⟨hl,ha⟩:=N8 k hlt
   obtain ⟨hh,hf0,hf1,hfl,hfs⟩:=Kk k hlt
   have cf:=uz (aj HR k).t hl ha _ hHA
   generalize hF:Lib.fields (aj HR k).t=fl at cf hfl hfs
   gi_wp2
   refine ⟨trivial,fun h=>(by cases h),(callsIn_wide.2 cf).mono ?_⟩
   rintro e W2 ⟨rfl,rfl⟩
   gi_wp2
   gi_loopw [16] (fun i wr2=>∃j:Nat,j≤fl.length∧i = .int .i64 j∧J (pa k++(xJ (aj HR k).f (aj HR k).h 0 fl).take j) wr2∧W.heap.size≤wr2.heap.size∧wr2.heap[b]? = some (.cells c t fr) ∧
     wr2.heap[wo1.heap.size]? = some (.cells #[.int .i64 (aj HR k).f,.string ⟨(aj HR k).h.toArray⟩,.string ⟨(aj HR k).t.toArray⟩] 210)∧wr2.heap[wo1.heap.size+1]? = some (.cells (fl.map fun l=>Value.string ⟨l.toArray⟩).toArray 9)∧(aS.T Tryz.prog).H wr2) (fun i _=>fl.length - (intOf i).toNat)
   case atStart =>
    have hsF:=hsA.one (gD.ofAlloc _ (.cells (fl.map fun l=>Value.string ⟨l.toArray⟩).toArray 9))
    refine ⟨0,cq _,rfl,?_,by simp;omega,?_,?_,?_,?_⟩
    ·rw [dN,mM];exact hJ _ _ _ hJk hsF
    ·rw [hsF.keep b (aZ hbk) (fun h=>h)];exact hbk
    ·exact (Below.heap_alloc _ _ _ (by simp)).trans (World.alloc_heap_new _ _)
    ·have:=World.alloc_heap_new (wo1.alloc (.cells #[.int .i64 (aj HR k).f,.string ⟨(aj HR k).h.toArray⟩,.string ⟨(aj HR k).t.toArray⟩] 210)) (.cells (fl.map fun l=>Value.string ⟨l.toArray⟩).toArray 9)
     rwa [World.size_alloc] at this
    ·exact (aS.T Tryz.prog).stay _ _ hHk fun q hq=>hsF.keep q ((aS.T Tryz.prog).low _ hHk q hq) (fun h=>h)
   case round =>
    obtain ⟨j,hj,rfl,hJj,hsz2,hb2,hx2,hs2,hH2⟩:=hrel
    by_cases hlt2:j<fl.length
    ·have d0:wr.cell? ⟨wo1.heap.size,0,none⟩=some (.int .i64 (aj HR k).f):=dx hx2 _
     have d1:wr.cell? ⟨wo1.heap.size,1,none⟩=some (.string ⟨(aj HR k).h.toArray⟩):=dx hx2 _
     have d3:wr.cell? ⟨wo1.heap.size+1,j,none⟩=some (.string ⟨(aj fl j).toArray⟩):=(dx hs2 _).trans (by rw [List.getElem?_toArray,d_,dj hlt2];rfl)
     have hss:=hfs (aj fl j) (by rw [cw hlt2];exact List.getElem_mem _)
     have hcat:¬9223372036854775807<(aj HR k).h.length+(aj fl j).length:=by omega
     have hpre:(pa k++(xJ (aj HR k).f (aj HR k).h 0 fl).take j)++[((aj HR k).f+(j:Int),(aj HR k).h++aj fl j)] <+: EN:=by
      rw [vw,← sJ hlt2,← hE,← hF]
      refine List.IsPrefix.trans ?_ (DU (show k+1≤24 by omega))
      rw [qD hlt]
      exact (List.prefix_append_right_inj _).2 (List.take_prefix _ _)
     obtain ⟨fn,tmps,assign,body,hy,hR⟩:=hY _ _ wr hJj hpre
     have hw:wrap64 ((aj HR k).f+(j:Int))=(aj HR k).f+(j:Int):=IntWalk.wrap64_in _ (by omega)
     have hc2:(ByteArray.mk (aj HR k).h.toArray++ByteArray.mk (aj fl j).toArray)=ByteArray.mk ((aj HR k).h++aj fl j).toArray:=by apply ByteArray.ext;simp
     have hy2:(Instr.yield l #[.int .i64 ((aj HR k).f+(j:Int)),.string (ByteArray.mk ((aj HR k).h++aj fl j).toArray)]).run Tryz.prog wr = .ok (.round l fn tmps assign body) wr:=hy
     gi_wp2
     refine ⟨fun h=>(by cases h),hR.mono ?_⟩
     rintro e W3 (⟨rfl,hJ3,hk3⟩ | ⟨rfl,hJx3⟩)
     ·gi_wp2
      go_roundw
      case rel =>
       refine ⟨j+1,by omega,by simp,?_,cE hsz2 hk3.1,?_,hk3.2.1 _ _ _ _ hsz hx2,hk3.2.1 _ _ _ _ (by omega) hs2,(aS.T Tryz.prog).stay _ _ hH2 fun q hq=>hk3.2.2 q hq⟩
       ·rw [sJ hlt2,← vw];exact hJ3
       ·by_cases hbw:W.heap.size≤b
        ·exact hk3.2.1 _ _ _ _ hbw hb2
        ·rw [hk3.2.2 b (Classical.byContradiction fun hn=>hnb ⟨by omega,hn⟩)];exact hb2
      case measure=>simp [intOf];omega
     ·gi_wp2
      refine bodyPost_ret (results_none rfl _ _ _) rfl ?_
      exact ⟨⟨_,rfl⟩,.inr ⟨_,hpre,hJx3⟩⟩
    ·obtain rfl:j=fl.length:=by omega
     gi_wp2
     refine ⟨⟨k+1,by omega,by simp,?_,hsz2,hb2,hH2⟩,by simp [intOf];omega⟩
     rw [qD hlt,hF]
     rw [kv (by rw [vP];exact bD _)] at hJj
     exact hJj
  ·obtain rfl:k=24:=by omega
   gi_wp2
   go_end0
   exact ⟨⟨_,rfl⟩,.inl (hE▸hJk)⟩
end
section
open Go.RowKit
attribute [local go_sem] Oper.semAt_some
def cu (op:Int):List UInt8:=match EN.find? (fun p=>p.1==op) with
 | some p=>p.2
 | none=>[]
theorem BC {α:Type} {f:α→Bool} {l iu:List α} {x:α} (h:iu++[x] <+: l) (hn:∀p∈iu,f p=false) (hx:f x=true):l.find? f=some x:=by
 obtain ⟨r,rfl⟩:=h
 rw [vw,List.find?_append,List.find?_eq_none.2 (fun p hp=>by rw [hn p hp];decide)]
 simp [hx]
theorem iK {w W:World} {l:Nat} {o o':Obj} (h:gD No w W) (hl:w.heap.size≤l) (hc:W.heap[l]? = some o) (ho:o.isCells=false):gD No w (W.putObj l o') where
 size:=cE h.size (grownBy_putObj' W l o').size
 keep b hb _:=by rw [World.putObj_heap_other (by omega)];exact h.keep b hb (fun h=>h)
 shape b c t fr hb:=by
  obtain ⟨c',fr',h1,h2⟩:=h.shape b c t fr hb
  exact ⟨c',fr',by rw [World.putObj_heap_other (by have:=aZ hb;omega)];exact h1,h2⟩
 os:=(grownBy_putObj' W l o').os.trans h.os
 out:=(grownBy_putObj' W l o').output.trans h.out
theorem na {w W:World} {a:Addr} {v:Value} (h:gD No w W) (hl:w.heap.size≤a.block):gD No w (W.setCell a v) where
 size:=by simpa [World.setCell] using h.size
 keep b hb _:=by
  have:b≠a.block:=by omega
  simp only [World.setCell,lu,aJ (Ne.symm this)]
  exact h.keep b hb (fun h=>h)
 shape b c t fr hb:=by
  obtain ⟨c',fr',h1,h2⟩:=h.shape b c t fr hb
  have:b≠a.block:=by have:=aZ hb;omega
  exact ⟨c',fr',by simp only [World.setCell,lu,aJ (Ne.symm this)];exact h1,h2⟩
 os:=h.os
 out:=h.out
theorem Lw {bl:Nat→Option Nat} {M:Nat→Prop} {w:World} {v:Value} {f:FuncId} (h:aO bl M w v (.fn f [])) (hf:decide (f<4000000)=true:=by rfl):v = .func (.func f) #[] #[]:=by
 obtain ⟨cs,rfl,h⟩:=h
 have h1:Jg f=f:=bz (of_decide_eq_true hf)
 cases cs with
 | nil=>rw [h1];simp
 | cons=>exact h.elim
theorem jV {fn:Func} {t:Tmp} {ty:TypeId} (h:fn.results = #[.cell t ty]) (tmps:Array Value) (P:Program) (w:World) {b:Nat} {v:Value} (ha:tmps.getD t undef = .pointer (some ⟨b,0,none⟩)) (hagg:(isAgg ty).run P w = .ok false w)
  (hc:w.cell? ⟨b,0,none⟩=some v):(results fn tmps).run P w = .ok v w:=by
 simp only [i2] at ha
 have hc':w.cell? { block:=b,off:=0 }=some v:=hc
 simp [results,h,ha,asAddr,loadVar,hagg,hc']
theorem wx (op:Int):ak Tryz.prog 136 [.int .i64 op] (.str (cu op)):=by
 refine ak.of (fun w bl M cargs hH hM ha=>?_) rfl
 match cargs,ha with
 | [a],⟨h1,_⟩ =>
 obtain rfl:=h1.int
 refine (callsIn_wide (n:=3)).1 ?_
 refine callsIn_of_wp_marks Tryz.func136 rfl trivial ?_ rfl
 have hs1:=(gD.ofAlloc w (.cells #[.int .i64 op] 73)).one (gD.ofAlloc _ (.cells #[.string ⟨#[]⟩] 9))
 have hH1:=(aS.T Tryz.prog).stay _ _ hH fun q hq=>hs1.keep q ((aS.T Tryz.prog).low _ hH q hq) (fun h=>h)
 have cn:=ak.run Eo _ hH1 (cargs:=[]) trivial
 simp only [Tryz.ntmps136,List.size_toArray,pD,lp,Nat.reduceAdd,Nat.reduceSub,Array.replicate_succ,Array.replicate_zero,List.push_toArray,List.append_toArray,mL,kx]
 gi_wp2
 refine ⟨trivial,(callsIn_wide.2 cn).mono ?_⟩
 rintro e W1 ⟨v,rfl,hv,hst⟩
 obtain rfl:=Lw hv
 have hsW:=hs1.one hst
 have hHW:=(aS.T Tryz.prog).stay _ _ hH fun q hq=>hsW.keep q ((aS.T Tryz.prog).low _ hH q hq) (fun h=>h)
 have hb0:W1.heap[w.heap.size]? = some (.cells #[.int .i64 op] 73):=by
  rw [hst.keep _ (by simp<;>omega) (fun h=>h)];exact (Below.heap_alloc _ _ _ (by simp)).trans (World.alloc_heap_new _ _)
 have hb1:W1.heap[w.heap.size+1]? = some (.cells #[.string ⟨#[]⟩] 9):=by
  rw [hst.keep _ (by simp) (fun h=>h)]
  have:=World.alloc_heap_new (w.alloc (.cells #[.int .i64 op] 73)) (.cells #[.string ⟨#[]⟩] 9)
  rwa [World.size_alloc] at this
 have hz:w.heap.size+2≤W1.heap.size:=by have:=hst.size;simpa using this
 clear cn hst hs1 hH1 hv
 gi_wp2
 refine y8 (α:=Int×List UInt8) (encs:=Lg) (E:=EN) (by decide) hHW (gf:=141) (lb:=#[]) rfl (enters_of Tryz.func141 (by kernel_rfl) rfl) (Mx _ W1) (gD.refl _ _) (fun _=>rfl)
  (fun iu W=>gD No w W∧W.heap[w.heap.size]? = some (.cells #[.int .i64 op] 73)∧W.heap[w.heap.size+1]? = some (.cells #[.string ⟨#[]⟩] 9)∧∀p∈iu,(p.1==op)=false)
  (fun c iu W=>c = .ret∧gD No w W∧W.heap[w.heap.size+1]? = some (.cells #[.string ⟨(cu op).toArray⟩] 9))
  (fun s A B h hs=>⟨h.1.one hs,(hs.keep _ (aZ h.2.1) (fun h=>h)).trans h.2.1,(hs.keep _ (aZ h.2.2.1) (fun h=>h)).trans h.2.2.1,h.2.2.2⟩)
  (fun c s A B h hs=>⟨h.1,h.2.1.one hs,(hs.keep _ (aZ h.2.2) (fun h=>h)).trans h.2.2⟩)
  (fun s W l o o' h hl hc ho=>⟨iK h.1 (by omega) hc ho,by rw [World.putObj_heap_other (by omega)];exact h.2.1,by rw [World.putObj_heap_other (by omega)];exact h.2.2.1,h.2.2.2⟩)
  (fun c s W l o o' h hl hc ho=>⟨h.1,iK h.2.1 (by omega) hc ho,by rw [World.putObj_heap_other (by omega)];exact h.2.2⟩)
  ⟨hsW,hb0,hb1,fun p hp=>absurd hp List.not_mem_nil⟩
  (fun x=>{ tmps:=#[.int .i64 op,.pointer (some ⟨w.heap.size,0,none⟩),.pointer (some ⟨w.heap.size+1,0,none⟩),.int .i64 x.1,.string ⟨x.2.toArray⟩,.func (.func 141) #[] #[],.int .i64 x.1,.string ⟨x.2.toArray⟩,undef,undef,undef,undef],defers:=[] }) ?assign ?body ?done ?stop
 case assign =>
  intro l x W K hK
  simp only [Lg]
  gi_wp2
  exact hK
 case body =>
  rintro l iu x W ⟨hS,hB0,hB1,hP⟩ hpre
  have d0:W.cell? ⟨w.heap.size,0,none⟩=some (.int .i64 op):=dx hB0 _
  have d1:W.cell? ⟨w.heap.size+1,0,none⟩=some (.string ⟨#[]⟩):=dx hB1 _
  have f1:W.frozen? ⟨w.heap.size+1,0,none⟩=false:=by simp [World.frozen?,hB1]
  by_cases hx:x.1=op
  ·have hn:cu op=x.2:=by
    unfold cu
    rw [BC hpre hP (by simpa using hx)]
   gi_wp2
   refine ⟨KeepsOthers.setCell _ _ _,rfl,na hS (by simp),?_⟩
   rw [hn]
   simp [World.setCell,lu,hB1]
  ·gi_wp2
   refine ⟨⟨bD _,fun _ _ h _=>h⟩,sg.refl _ _,hS,hB0,hB1,fun p hp=>?_⟩
   rcases dz.1 hp with hp | hp
   ·exact hP p hp
   ·rw [eL.1 hp];simpa using hx
 case done =>
  rintro D W hD ⟨hS,hB0,hB1,hP⟩ hK
  have d1:W.cell? ⟨w.heap.size+1,0,none⟩=some (.string ⟨#[]⟩):=dx hB1 _
  have f1:W.frozen? ⟨w.heap.size+1,0,none⟩=false:=by simp [World.frozen?,hB1]
  have hn:cu op=[]:=by
   unfold cu
   rw [List.find?_eq_none.2 (fun p hp=>by rw [hP p hp];decide)]
  gi_wp2
  have hD2:(W.setCell ⟨w.heap.size+1,0,none⟩ (.string ⟨#[]⟩)).heap[D]? = some (.deferred (some [])):=by
   simp only [World.setCell,lu,aJ (show ¬w.heap.size+1=D by omega)];exact hK
  have hB3:(W.setCell ⟨w.heap.size+1,0,none⟩ (.string ⟨#[]⟩)).heap[w.heap.size+1]? = some (.cells #[.string ⟨#[]⟩] 9):=by
   simp [World.setCell,lu,hB1]
  have hS2:=iK (na hS (a:=⟨w.heap.size+1,0,none⟩) (v:=.string ⟨#[]⟩) (by simp)) (by omega) hD2 rfl (o':=.deferred none)
  refine ⟨by simp,.inl ⟨_,_,rfl,run_takeDeferred hD2,?_⟩⟩
  have hB4:((W.setCell ⟨w.heap.size+1,0,none⟩ (.string ⟨#[]⟩)).putObj D (.deferred none)).heap[w.heap.size+1]? = some (.cells #[.string ⟨#[]⟩] 9):=by rw [World.putObj_heap_other (by omega)];exact hB3
  refine ⟨_,jV rfl _ _ _ rfl (Tryz.isAgg9 _) (dx hB4 _),_,rfl,hS2,?_⟩
  rw [hn]
  exact IRel.str _
 case stop =>
  rintro D c iu W hD hp ⟨rfl,hS,hB1⟩ hK
  gi_wp2
  have hS2:=iK hS (by omega) hK rfl (o':=.deferred none)
  refine ⟨by simp,.inl ⟨_,_,rfl,run_takeDeferred hK,?_⟩⟩
  have hB4:(W.putObj D (.deferred none)).heap[w.heap.size+1]? = some (.cells #[.string ⟨(cu op).toArray⟩] 9):=by rw [World.putObj_heap_other (by omega)];exact hB1
  exact ⟨_,jV rfl _ _ _ rfl (Tryz.isAgg9 _) (dx hB4 _),_,rfl,hS2,IRel.str _⟩
theorem oE {W:World} {b off:Nat} {c:Array Value} {t:TypeId} {fr:Nat×Nat} {v:Value} (h:W.heap[b]? = some (.cells c t fr)):(W.setCell ⟨b,off,none⟩ v).heap[b]? = some (.cells (c.setIfInBounds off v) t fr):=by
 simp [World.setCell,lu,h]
end
def V5 (s:List UInt8):List AV:=[.str s]
theorem Va (s:List UInt8):V5 s=[.str s]:=rfl
attribute [go_sem] Va
def kY (op:Int):Option Oc:=OC.find? (fun o=>o.op==op)
def Q9 (op:Int):List UInt8:=((kY op).getD default).nm
def zc (op:Int):Int:=((kY op).getD default).im
def M9 (op:Int):Bool:=(kY op).isSome
def y_ (s p:List UInt8):Bool:=(List.range (s.length+1)).any fun i=>decide (i+p.length≤s.length)&&((s.drop i).take p.length==p)
def wR (s:List UInt8):Int:=if y_ s [100,56]=true then 1 else if y_ s [101,56]=true then 1 else if y_ s [100,49,54]=true then 2 else if y_ s [101,49,54]=true then 2 else
 if y_ s [100,51,50]=true then 4 else if y_ s [101,51,50]=true then 4 else if (s.drop 1).take 2=[51,50] then 4 else 8
def yY (op:Int):Int:=if zc op≠17 then 0 else wR (Q9 op)
def Oh (w:Int):Int:=if w=2 then 1 else if w=4 then 2 else if w=8 then 3 else 0
def free (op:Int):Bool:=op==1||(op==2||(op==3||(op==5||op==11)))
def Bf (op:Int):Int:=if free op=true then 0 else if M9 op=true then 1 else 0
end Go.Proofs.YtdefmgmmjfgbpaaGreatDoor