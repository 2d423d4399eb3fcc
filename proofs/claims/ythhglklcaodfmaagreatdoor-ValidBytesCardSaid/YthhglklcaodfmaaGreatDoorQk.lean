import Derived.Test.YthhglklcaodfmaaGreatDoorQj
import Derived.Lib.DecodeN
set_option linter.all false
set_option maxRecDepth 100000
set_option maxHeartbeats 40000000
namespace Go.Proofs.YthhglklcaodfmaaGreatDoor
section
open Go Go.Mw
def aa_ (i:Int) (x:bv):Bool :=
 if i=0 then (x.a==0)&&((x.b==0)&&(x.n==0)) else
 if i=1 then (x.a==0)&&((x.b==0)&&((x.n==0)&&V_ x.k x.v x.x)) else
 if i=3 then nC x.a&&((x.b==0)&&((x.n==0)&&x.lb.all nC)) else
 if i=6 then (x.a==0)&&((x.b==0)&&((x.n==0)&&(((x.ty.length:Int)==1)&&RJ (au x.ty 0)))) else
 if i=13 then (x.a==0)&&(nC x.b&&(x.n==0)) else
 if i=17 then decide (x.a≥0)&&(decide (x.a≤63)&&(nC x.b&&decide (x.n<4294967296))) else
 if i=18 then (x.a==0)&&((x.b==0)&&decide (x.n<4294967296)) else
 if i=19 then (x.a==0)&&(x.b==0) else
 if i=20 then ((x.a==3)||(x.a==4))&&((x.b==0)&&(x.n==0)) else
 if i=5∨i=10∨i=11∨i=14∨i=15 then nC x.a&&(nC x.b&&(x.n==0)) else
 nC x.a&&((x.b==0)&&(x.n==0))
def plR (i:Int) (kn:Bool) (x:bv):Bool :=
 kn&&(((i==1)||((x.k==0)&&((x.v==0)&&(x.x==0))))&&(((i==3) || !decide ((x.lb.length:Int)>0))&&(((i==6) || !decide ((x.ty.length:Int)>0))&&aa_ i x)))
attribute [local go_sem] ez bT dB
end
open Go Go.Mw
theorem uE (op:Int):ba op=rNm op:=by
 have h:∀l:List Oc,(match (l.map fun o=>(o.op,o.nm)).find? (fun x=>x.1==op) with | some o=>o.2 | none=>[])=((l.find? (fun o=>o.op==op)).getD default).nm:=by
  intro l
  induction l with
  | nil=>rfl
  | cons a l ih =>
   simp only [cF,List.find?_cons]
   cases ha:a.op==op
   ·exact ih
   ·rfl
 exact h OC
theorem AI {op:Int} (h:nT op=none):rNm op=[]∧FL op=0∧Rj op=false:=by
 simp only [rNm,FL,Rj,h]
 exact ⟨rfl,rfl,rfl⟩
theorem LY {p:Int→Bool} (h:OC.all (fun o=>p o.op)=true) {op:Int} (hr:nT op≠none):p op=true:=by
 cases hf:nT op with
 | none=>exact absurd hf hr
 | some o =>
  have h1:=eA.1 h o (List.mem_of_find?_eq_some hf)
  have h2:=List.find?_some hf
  simp only [beq_iff_eq] at h2
  rw [h2] at h1
  exact h1
theorem Rs (op:Int):(!(ba op==[]))=Rj op∧ba op=rNm op∧cX op=FL op∧ik op=Gb op∧jr (ik op)=Wz (Gb op)∧IA op=IB op:=by
 by_cases h:nT op=none
 ·obtain ⟨h1,h2,h3⟩:=AI h
  have hn:ba op=[]:=by rw [uE,h1]
  have hw:ik op=0:=by
   have:QK op=false:=by simp [QK,hn]
   rw [ik,this];rfl
  have hw2:Gb op=0:=by rw [Gb,h2];rfl
  have hi:cX op=0:=by
   have ht:∀(l:List (Int×Int)),l.all (fun p=>(nT p.1).isSome)=true→l.find? (fun p=>p.1==op)=none:=by
    intro l hl
    rw [List.find?_eq_none]
    intro p hp hq
    have:=eA.1 hl p hp
    simp only [beq_iff_eq] at hq
    rw [hq,h] at this
    cases this
   have hs:Ci op=0:=by rw [Ci,ht VS (by decide +kernel)]
   rw [cX,ht T2 (by decide +kernel),hw,hs];rfl
  refine ⟨by rw [hn,h3];rfl,uE op,by rw [hi,h2],by rw [hw,hw2],by rw [hw,hw2];rfl,?_⟩
  rw [IA,IB,hn,h3];rfl
 ·have:=LY (p:=fun op=>(!(ba op==[]))==Rj op&&cX op==FL op&&ik op==Gb op&&jr (ik op)==Wz (Gb op)&&IA op==IB op) (by decide +kernel) h
  simp only [dV,beq_iff_eq] at this
  obtain ⟨⟨⟨⟨h1,h2⟩,h3⟩,h4⟩,h5⟩:=this
  exact ⟨h1,uE op,h2,h3,h4,h5⟩
theorem Ri (i:Int) (hi:0≤i∧i≤20) (kn:Bool) (x:bv) (hn:0≤x.n):plP i kn (AX i) x=plR i kn x:=by
 obtain ⟨op,a,b,n,k,v,z,ty,lb⟩:=x
 replace hn:0≤n:=hn
 have hal:¬((lb.length:Int)>0)→lb.all nC=true:=fun h=>by
  cases lb with
  | nil=>rfl
  | cons y l=>simp at h
 unfold plP plR nu aa_
 simp only
 generalize lb.all nC=al at hal
 generalize (lb.length:Int)=ll at hal
 generalize RJ (au ty 0)=vv
 generalize (ty.length:Int)=tl
 generalize V_ k v z=bb
 generalize ((k==0)&&((v==0)&&(z==0)))=kk
 have ea:a=0→nC a=true:=fun h=>by subst h;decide
 have eb:b=0→nC b=true:=fun h=>by subst h;decide
 have ec:a=3∨a=4→nC a=true:=fun h=>by rcases h with rfl | rfl<;>decide
 have ed:nC a=true∧a≤63↔a≥0∧a≤63:=by
  simp only [nC,dV,qc]
  omega
 generalize nC a=xa at ea ec ed
 generalize nC b=xb at eb
 rcases (show i=0∨i=1∨i=2∨i=3∨i=4∨i=5∨i=6∨i=7∨i=8∨i=9∨i=10∨i=11∨i=12∨i=13∨i=14∨i=15∨i=16∨i=17∨i=18∨i=19∨i=20 by omega) with rfl | rfl | rfl | rfl | rfl | rfl | rfl | rfl | rfl | rfl | rfl | rfl | rfl | rfl | rfl | rfl | rfl | rfl | rfl | rfl | rfl
 all_goals
  simp only [AX,V4,List.find?_cons,List.find?_nil,Int.reduceBEq,Int.reduceEq,dl,fA,vM,oh,fV,gp,false_or,or_false,or_true,true_or,or_self]
  rw [Bool.eq_iff_iff]
  simp only [dV,wx,beq_iff_eq,qc,vL,decide_eq_false_iff_not]
  grind
theorem yd (op:Int):0≤FL op∧FL op≤20:=by
 by_cases h:nT op=none
 ·rw [(AI h).2.1];decide
 ·have:=LY (p:=fun op=>decide (0≤FL op)&&decide (FL op≤20)) (by decide +kernel) h
  simpa using this
def jA (x:bv):Bool:=plR (FL x.op) (Rj x.op) x
theorem Ro (x:bv) (h:DQ x):aj Tryz.prog lP [iE x] (.bool (jA x)):=by
 obtain ⟨h1,h2,h3⟩:=h
 obtain ⟨t1,_,t3,_⟩:=Rs x.op
 have c:=Mi x (FL x.op) (yd x.op) t3 (by omega)
 rw [t1,Ri (FL x.op) (yd x.op) (Rj x.op) x h3] at c
 exact c
section
def A8 (F:Fa):AV:=.agg [.int .i64 F.p,.int .i64 F.i,.int .i64 F.l,.int .i64 F.c]
attribute [local go_sem] bT bM cw dB cD A8
end
section
attribute [local go_sem] bT bM cw bO b_
end
section
def Bu (F:Fa):ah:=⟨38,4,[[.int .i64 F.p,.int .i64 F.i,.int .i64 F.l,.int .i64 F.c]],true⟩
attribute [local go_sem] bT bM aY cw bO b_ A8 Bu
end
section
attribute [local go_sem] bT bM aY cw bO b_ A8 Bu
end
section
attribute [local go_sem] bT bM aY cw bO b_ A8 Bu
end
section
attribute [local go_sem] bT bM aY cw bO b_ A8 Bu
end
section
attribute [local go_sem] bT bM aY cw bO b_ df A8 Bu
end
section
attribute [local go_sem] bT bM aY cw bO b_ kK A8 Bu
end
def bn (l:List UInt8) (i:Nat):Nat:=(au l i).toNat
def ctb (b:Nat):Prop:=¬(b<128∨b≥192)
instance (b:Nat):Decidable (ctb b):=by unfold ctb;exact inferInstance
section
def MU (s p:List UInt8):Bool:=decide (p.length≤s.length)&&(s.take p.length==p)
attribute [local go_sem] bT
def r3 (n:Int):List AV:=[.int .i32 n]
theorem afK (n:Int):r3 n=[.int .i32 n]:=rfl
attribute [go_sem] afK
end
def rw_ (r:List Int):List AV:=[.sl 1 (r.map bp)]
theorem afS (r:List Int):rw_ r=[.sl 1 (r.map bp)]:=rfl
attribute [go_sem] afS
end Go.Proofs.YthhglklcaodfmaaGreatDoor