import Derived.Test.YtdfofedlbljnhaaGreatDoorXQu
set_option linter.all false
set_option maxRecDepth 100000
set_option maxHeartbeats 40000000
namespace Go.Proofs.YtdfofedlbljnhaaGreatDoor
section
open Go Go.Mw
def QR{α:Type}(r:Rd α)(Q:α->Nat->Prop):Prop:=∀x k,r = .ok (x,k)->Q x k
def QR.ok{α:Type}{x:α}{k:Nat}{Q:α->Nat->Prop}(h:Q x k):QR (.ok (x,k)) Q:=λ_ _ e=>by cases e;exact h
def QR.er{α:Type}{e:Int×Nat}{Q:α->Nat->Prop}:QR (.error e:Rd α) Q:=λ_ _ e=>by cases e
def QR.ite{α:Type}{c:Prop}[Decidable c]{r s:Rd α}{Q:α->Nat->Prop}(h1:c->QR r Q)(h2:¬c->QR s Q):QR (if c then r else s) Q:=by
 by_cases h:c
 .rw[au h];exact h1 h
 .rw[ak h];exact h2 h
def QR.bd{α β:Type}{r:Rd α}{f:α->Nat->Rd β}{Q:α->Nat->Prop}{R:β->Nat->Prop}(h:QR r Q)(hf:∀x k,Q x k->QR (f x k) R):QR (fq r f) R:=by
 intro y j e;cases hr:r with
 | error e'=>rw[hr]at e;cases e
 | ok q =>
  obtain⟨x,k⟩:=q;rw[hr]at e;exact hf x k (h x k hr) y j e
variable{b:Af}
def VB(a:Nat):QR (gU b a) (λn k=>a+1<=k/\n<4294967296):=λn k h=>by
 obtain⟨h1,h2⟩:=dj h;have:=DL n;exact⟨by omega,h2⟩
def q_C(a:Nat)(most:Int):QR (gC b a most) (λn k=>a+1<=k/\(n:Int)<=most):=λn k h=>by
 obtain⟨h1,h2⟩:=RV h;have:=DL n;exact⟨by omega,h2⟩
def q_V(a:Nat):QR (gV b a) (λ_ k=>a+1<=k):=λt k h=>(K8 h).1
def q_B(a:Nat):QR (gB b a) (λ_ k=>a+1<=k):=λt k h=>by
 unfold gB at h;split at h
 .cases h;exact a_ _
 .cases h
def Io(l:List be):Prop:=∀y∈l,(0<=y.n/\y.n<18446744073709551616)/\y.lb.length<=64/\y.ty.length<=1
theorem afS{x:be}(h:PL x=true):x.ty.length<=1:=by
 unfold PL vp at h;simp only[cW,sC,beq_iff_eq,tK,decide_eq_false_iff_not]at h;obtain⟨_,_,_,h,hf⟩:=h;rcases h with h|h
 .rw[h]at hf;unfold mj at hf;simp only[Int.reduceEq,aN,bB,cW,beq_iff_eq]at hf;omega
 .omega
def q_E:∀(f d a:Nat)(m:Int),QR (gE f d b a m) (λl k=>a+l.length<=k/\(l.length:Int)<=m/\Io l)
 | 0,d,a,m=>QR.er
 | f+1,d,a,m=>by
  rw[gE];refine QR.ite (λ_=>QR.er) λhm=>?_;cases hg:gI b a with
  | error e=>exact QR.er
  | ok q =>
   obtain⟨x,k⟩:=q;obtain⟨h1,h2,h3,h4⟩:=aa_ hg;have hp:=IK x;have hx:=afS h1;refine QR.ite (λ_=>QR.ok ⟨by rw[dK];omega,by rw[dK];omega,λy hy=>?_⟩) λ_=>?_
   .simp only[jJ]at hy;subst hy;exact⟨h3,h2,hx⟩
   .have hr:=q_E f (if x.op=2\/x.op=3\/x.op=4 then d+1 else if x.op=11 then d-1 else d) k (m-1);cases hg2:gE f (if x.op=2\/x.op=3\/x.op=4 then d+1 else if x.op=11 then d-1 else d) b k (m-1)with
    | error e=>exact QR.er
    | ok q =>
     obtain⟨l,k'⟩:=q;obtain⟨g1,g2,g3⟩:=hr l k' hg2;refine QR.ok ⟨by rw[i0];omega,by rw[i0];omega,λy hy=>?_⟩;rcases dQ.1 hy with rfl|hy
     .exact⟨h3,h2,hx⟩
     .exact g3 y hy
def q_X(a:Nat):QR (gX b a) (λl k=>a+l.length<=k/\l.length<=2048/\Io l):=λl k h=>by
 obtain⟨h1,h2,h3⟩:=q_E _ _ _ _ l k h;exact⟨h1,by omega,h3⟩
def q_N{α:Type}{one:Af->Nat->Rd α}{w:α->Nat}{P:α->Prop}(h:∀a,QR (one b a) (λx k=>2*a+w x<=2*k/\P x)):∀(n a:Nat),QR (gN one n b a) (λl k=>2*a+cU w l<=2*k/\l.length=n/\∀x∈l,P x)
 | 0,a=>QR.ok ⟨by simp[cU],rfl,λx hx=>by cases hx⟩
 | n+1,a=>(h a).bd λx k hx=>(q_N h n k).bd λl k' hl=>QR.ok ⟨by rw[pq];omega,by rw[i0,hl.2.1],λy hy=>by
   rcases dQ.1 hy with rfl|hy
   .exact hx.2
   .exact hl.2.2 y hy⟩
def E6{α:Type}{one:Af->Nat->Rd α}{w:α->Nat}{P:α->Prop}(h:∀a,QR (one b a) (λx k=>2*a+w x<=2*k/\P x))(most:Int)(a:Nat):QR (zG one most b a) (λl k=>2*a+cU w l<=2*k/\(l.length:Int)<=most/\∀x∈l,P x) :=
 (q_C a most).bd λn k hn l k' h'=>by
  obtain⟨h1,h2,h3⟩:=q_N h n k l k' h';exact⟨by omega,by omega,h3⟩
def z0w{α:Type}(x:α):Nat:=0
def af2(most:Int)(a:Nat):QR (zG gV most b a) (λl k=>a<=k/\(l.length:Int)<=most):=λl k h=>by
 obtain⟨h1,h2,_⟩:=E6 (w:=z0w) (P:=λ_=>True) (λa t k h=>⟨by have:=q_V a t k h;show 2*a+0<=_;omega,trivial⟩) most a l k h;exact⟨by omega,h2⟩
def ais(a:Nat):QR (gFt b a) (λx k=>2*a+z0w x<=2*k/\x.ps.length<=8/\x.rs.length<=8) :=
 (q_B a).bd λx k hk=>QR.ite (λ_=>(af2 8 k).bd λps k1 h1=>(af2 8 k1).bd λrs k2 h2=>QR.ok ⟨by show 2*a+0<=_;omega,by show ps.length<=8;omega,by show rs.length<=8;omega⟩) λ_=>QR.er
def afX(a:Nat):QR (yl b a) (λx k=>2*a+z0w x<=2*k/\True) :=
 (q_B a).bd λx k hk=>QR.ite (λ_=>QR.er) λ_=>(VB k).bd λmn k1 h1=>QR.ite (λ_=>(VB k1).bd λmx k2 h2=>QR.ite (λ_=>QR.er) λ_=>QR.ok ⟨by show 2*a+0<=_;omega,trivial⟩) λ_=>QR.ok ⟨by show 2*a+0<=_;omega,trivial⟩
def aiv(a:Nat):QR (Ce b a) (λx k=>2*a+z0w x<=2*k/\True) :=
 (q_V a).bd λt k hk=>QR.ite (λ_=>(afX k).bd λl k1 h1=>QR.ok ⟨by have:=h1.1;unfold z0w at this⊢;omega,trivial⟩) λ_=>QR.er
def aiu(a:Nat):QR (CV b a) (λ_ k=>a<=k) :=
 (q_V a).bd λt k hk=>(q_B k).bd λx k1 h1=>QR.ite (λ_=>QR.er) λ_=>QR.ok (by omega)
def ait(a:Nat):QR (gGd b a) (λx k=>2*a+x.i.length<=2*k/\x.i.length<=2048/\Io x.i) :=
 (aiu a).bd λg k hk=>(q_X k).bd λl k1 h1=>QR.ok ⟨by show 2*a+l.length<=_;omega,h1.2⟩
def air(a:Nat):QR (gEl b a) (λx k=>2*a+GI x<=2*k/\(x.o.length<=2048/\Io x.o)/\x.it.length<=256/\∀l∈x.it,l.length<=2048/\Io l) :=
 (VB a).bd λn k hk=>QR.ite (λ_=>QR.er) λ_ =>
  QR.bd (Q:=λ_ k1=>k<=k1) (QR.ite (λ_=>(VB k).bd λx k1 h1=>QR.ok (by omega)) λ_=>QR.ok (a_ _)) λtb k1 h1 =>
  QR.bd (Q:=λo k2=>k1+o.length<=k2/\o.length<=2048/\Io o) (QR.ite (λ_=>q_X k1) λ_=>QR.ok ⟨a_ _,by decide,λy hy=>by cases hy⟩) λo k2 h2 =>
  QR.bd (Q:=λ_ k3=>k2<=k3) (QR.ite (λ_=>QR.ok (a_ _)) λ_=>QR.ite (λ_=>(q_B k2).bd λx k3 h3=>QR.ite (λ_=>QR.ok (by omega)) λ_=>QR.er) λ_ t k3 h3=>by have:=q_V k2 t k3 h3;omega) λt k3 h3 =>
  QR.bd (E6 (one:=gIt n) (w:=List.length) (P:=λl=>l.length<=2048/\Io l) (λa=>by
   unfold gIt;refine QR.ite (λ_=>(VB a).bd λx k h=>QR.ok ⟨by show 2*a+2<=_;omega,by show 2<=2048;decide,λy hy=>?_⟩) λ_ l k h=>by
    have:=q_X a l k h;exact⟨by omega,this.2⟩
   unfold E7 at hy;simp only[dQ,tN,or_false]at hy;rcases hy with rfl|rfl<;>exact⟨⟨Int.le_refl 0,(by decide:(0:Int)<18446744073709551616)⟩,cm _,cm _⟩) 256 k3) λl k4 h4 =>
  QR.ok ⟨by show 2*a+(o.length+cU List.length l)<=_;omega,h2.2,by show l.length<=256;omega,h4.2.2⟩
def aiq(a:Nat):QR (gDa b a) (λx k=>2*a+x.o.length<=2*k/\(x.o.length<=2048/\Io x.o)/\x.b.length<=4096) :=
 (VB a).bd λn k hk=>QR.ite (λ_=>QR.er) λ_ =>
  QR.bd (Q:=λ_ k1=>k<=k1) (QR.ite (λ_=>(VB k).bd λx k1 h1=>QR.ok (by omega)) λ_=>QR.ok (a_ _)) λme k1 h1 =>
  QR.bd (Q:=λo k2=>k1+o.length<=k2/\o.length<=2048/\Io o) (QR.ite (λ_=>QR.ok ⟨a_ _,by decide,λy hy=>by cases hy⟩) λ_=>q_X k1) λo k2 h2 =>
  (q_C k2 4096).bd λn2 k3 h3=>QR.ite (λ_=>QR.er) λ_=>QR.ok ⟨by show 2*a+o.length<=_;omega,h2.2,by show(List.take n2 _).length<=4096;rw[qD];omega⟩
def afY:∀(n a:Nat)(l:List Int),l.length<=64->QR (gLo n b a l) (λr k=>a<=k/\r.length<=64)
 | 0,a,l,h=>QR.ok ⟨a_ _,h⟩
 | n+1,a,l,h=>(VB a).bd λmany k hk=>(q_V k).bd λt k1 h1=>QR.ite (λ_=>QR.er) λhm r k2 h2=>by
   have:=afY n k1 (l++List.replicate many t) (by rw[cP,List.length_replicate];omega) r k2 h2;exact⟨by omega,this.2⟩
def cdT(x:List Int×List be):Nat:=x.2.length
def aip(a:Nat):QR (gCd b a) (λx k=>2*a+cdT x<=2*k/\x.1.length<=64/\x.2.length<=2048/\Io x.2) :=
 (VB a).bd λn k hk=>QR.ite (λ_=>QR.er) λhn=>by
  have hq:QR (RW ((b.drop k).take n)) (λx k=>x.1.length<=64/\x.2.length<=k/\k<=n/\x.2.length<=2048/\Io x.2) :=
   (q_C 0 64).bd λn1 k1 h1=>(afY n1 k1 [] (by decide)).bd λl k2 h2=>(q_X k2).bd λx k3 h3=>QR.ite (λhe=>QR.ok ⟨h2.2,by show x.length<=_;omega,by rw[he,qD];omega,h3.2⟩) λ_=>QR.er
  cases hg:RW ((b.drop k).take n)with
  | error e=>exact QR.er
  | ok q =>
   obtain⟨x,k1⟩:=q;obtain⟨g1,g2,g3,g4⟩:=hq x k1 hg;exact QR.ok ⟨by unfold cdT;omega,g1,g4⟩
theorem wT{α:Type}{r:Rd α}{Q:α->Nat->Prop}(h:QR r Q){x:α}(e:ED r b = .ok x):Q x b.length:=by
 unfold ED at e;cases hr:r with
 | error e'=>rw[hr]at e;cases e
 | ok q =>
  obtain⟨y,k⟩:=q;rw[hr]at e;simp only at e;by_cases hk:k=b.length
  .rw[au hk]at e;cases e;rw[<-hk];exact h x k hr
  .rw[ak hk]at e;cases e
structure KE(n:Nat)(m:Md):Prop where
 tot:ml m<=n
 ts:m.ts.length<=64/\∀x∈m.ts,x.ps.length<=8/\x.rs.length<=8
 ims:m.ims.length<=32
 fs:m.fs.length<=64/\∀x∈m.fs,x.lo.length<=64/\x.b.length<=2048/\Io x.b
 tbs:m.tbs.length<=4
 ms:m.ms.length<=2
 gs:m.gs.length<=32/\∀x∈m.gs,x.i.length<=2048/\Io x.i
 exs:m.exs.length<=64
 els:m.els.length<=16/\∀x∈m.els,(x.o.length<=2048/\Io x.o)/\x.it.length<=256/\∀l∈x.it,l.length<=2048/\Io l
 ds:m.ds.length<=16/\∀x∈m.ds,(x.o.length<=2048/\Io x.o)/\x.b.length<=4096
 cs:m.cs.length<=8/\∀x∈m.cs,x.b.length<=4096
def KE.le{n k:Nat}{m:Md}(h:KE n m)(hk:n<=k):KE k m:=⟨m8 h.tot hk,h.ts,h.ims,h.fs,h.tbs,h.ms,h.gs,h.exs,h.els,h.ds,h.cs⟩
theorem Ve{α:Type}(g:α->Nat)(l m:List α):cU g (l++m)=cU g l+cU g m:=by simp[cU]
def MI:∀(fs:List Cd)(l:List (List Int×List be))(k:Nat),cU (λx:Cd=>x.b.length) ((fs.zipIdx k).map λx=>if x.2<l.length then(⟨x.1.t,(ac l x.2).1,(ac l x.2).2⟩:Cd)else x.1)<=cU (λx:Cd=>x.b.length) fs+cU cdT (l.drop k)
 | [],l,k=>by simp[cU]
 | x::fs,l,k=>by
  have ih:=MI fs l (k+1);rw[List.zipIdx_cons,eG,pq,pq];simp only;by_cases h:k<l.length
  .rw[au h];rw[Kt h,pq,<-bv h];unfold cdT at ih⊢;simp only;omega
  .rw[ak h];rw[If (by omega)]at ih⊢;omega
theorem jj{α:Type}{r:Except Int α}{f:α->Dc}{d:Dc}(h:r.map f = .ok d):∃x,r = .ok x/\d=f x:=by
 cases r with
 | error e=>cases h
 | ok x=>exact⟨x,rfl,by cases h;rfl⟩
theorem Y2{n:Nat}{d d':Dc}{p:Int}(h:KE n d.m)(e:UY d p b = .ok d'):KE (n+2*b.length) d'.m:=by
 have ht:=h.tot;unfold ml at ht;unfold UY at e;simp only at e;by_cases h1:p=1
 .rw[au h1]at e;obtain⟨x,e1,rfl⟩:=jj e;obtain⟨_,q2,q3⟩:=wT (E6 ais 64 0) e1;exact⟨by show ml d.m<=_;unfold ml;omega,⟨by show x.length<=64;omega,q3⟩,h.ims,h.fs,h.tbs,h.ms,h.gs,h.exs,h.els,h.ds,h.cs⟩
 rw[ak h1]at e;by_cases h1:p=2
 .rw[au h1]at e;obtain⟨x,e1,rfl⟩:=jj e;have q2:x.length<=32:=by
   unfold zG at e1
   have:=wT (b:=b) (Q:=λl k=>l.length<=32) ((q_C 0 32).bd λn k hn l k' h'=>by
    have:∀(n a:Nat),QR (gN gIm n b a) (λl k=>l.length=n):=λn=>by
     induction n with
     | zero=>exact λa=>QR.ok rfl
     | succ n ih=>exact λa=>QR.bd (Q:=λ_ _=>True) (λ_ _ _=>trivial) λx k _=>(ih k).bd λl k' hl=>QR.ok (by rw[i0,hl])
    have:=this n k l k' h';omega) e1
   exact this
  exact⟨by show ml d.m<=_;unfold ml;omega,h.ts,q2,h.fs,h.tbs,h.ms,h.gs,h.exs,h.els,h.ds,h.cs⟩
 rw[ak h1]at e;by_cases h1:p=3
 .rw[au h1]at e;obtain⟨x,e1,rfl⟩:=jj e;obtain⟨_,q2,_⟩:=wT (E6 (one:=Vu) (w:=z0w) (P:=λ_=>True) (λa=>(VB a).bd λn k hn=>QR.ok ⟨by show 2*a+0<=_;omega,trivial⟩) 64 0) e1;have z:∀l:List Int,cU (λx:Cd=>x.b.length) (l.map λt=>(⟨t,[],[]⟩:Cd))=0:=λl=>by
   induction l with
   | nil=>rfl
   | cons t l ih=>rw[eG,pq,ih];rfl
  refine⟨?_,h.ts,h.ims,⟨by show(x.map _).length<=64;rw[bZ];omega,λy hy=>?_⟩,h.tbs,h.ms,h.gs,h.exs,h.els,h.ds,h.cs⟩
  .show cU (λx:Cd=>x.b.length) (x.map λt=>(⟨t,[],[]⟩:Cd))+cU (λx:Gd=>x.i.length) d.m.gs+cU GI d.m.els+cU (λx:Da=>x.o.length) d.m.ds<=_;rw[z];omega
  .obtain⟨t,_,rfl⟩:=gG.1 hy;exact⟨cm _,cm _,λy hy=>by cases hy⟩
 rw[ak h1]at e;by_cases h1:p=4
 .rw[au h1]at e;obtain⟨x,e1,rfl⟩:=jj e;obtain⟨_,q2,q3⟩:=wT (E6 aiv 4 0) e1;exact⟨by show ml d.m<=_;unfold ml;omega,h.ts,h.ims,h.fs,by show x.length<=4;omega,h.ms,h.gs,h.exs,h.els,h.ds,h.cs⟩
 rw[ak h1]at e;by_cases h1:p=5
 .rw[au h1]at e;obtain⟨x,e1,rfl⟩:=jj e;obtain⟨_,q2,q3⟩:=wT (E6 afX 2 0) e1;exact⟨by show ml d.m<=_;unfold ml;omega,h.ts,h.ims,h.fs,h.tbs,by show x.length<=2;omega,h.gs,h.exs,h.els,h.ds,h.cs⟩
 rw[ak h1]at e;by_cases h1:p=6
 .rw[au h1]at e;obtain⟨x,e1,rfl⟩:=jj e;obtain⟨q1,q2,q3⟩:=wT (E6 (w:=λx:Gd=>x.i.length) ait 32 0) e1;refine⟨?_,h.ts,h.ims,h.fs,h.tbs,h.ms,⟨by show x.length<=32;omega,q3⟩,h.exs,h.els,h.ds,h.cs⟩;show cU (λx:Cd=>x.b.length) d.m.fs+cU (λx:Gd=>x.i.length) x+cU GI d.m.els+cU (λx:Da=>x.o.length) d.m.ds<=_;omega
 rw[ak h1]at e;by_cases h1:p=7
 .rw[au h1]at e;obtain⟨x,e1,rfl⟩:=jj e;have q2:x.length<=64:=by
   unfold zG at e1
   have:=wT (b:=b) (Q:=λl k=>l.length<=64) ((q_C 0 64).bd λn k hn l k' h'=>by
    have:∀(n a:Nat),QR (gN gEx n b a) (λl k=>l.length=n):=λn=>by
     induction n with
     | zero=>exact λa=>QR.ok rfl
     | succ n ih=>exact λa=>QR.bd (Q:=λ_ _=>True) (λ_ _ _=>trivial) λx k _=>(ih k).bd λl k' hl=>QR.ok (by rw[i0,hl])
    have:=this n k l k' h';omega) e1
   exact this
  exact⟨by show ml d.m<=_;unfold ml;omega,h.ts,h.ims,h.fs,h.tbs,h.ms,h.gs,q2,h.els,h.ds,h.cs⟩
 rw[ak h1]at e;by_cases h1:p=8
 .rw[au h1]at e;obtain⟨x,e1,rfl⟩:=jj e;exact⟨by show ml d.m<=_;unfold ml;omega,h.ts,h.ims,h.fs,h.tbs,h.ms,h.gs,h.exs,h.els,h.ds,h.cs⟩
 rw[ak h1]at e;by_cases h1:p=9
 .rw[au h1]at e;obtain⟨x,e1,rfl⟩:=jj e;obtain⟨q1,q2,q3⟩:=wT (E6 (w:=GI) air 16 0) e1;refine⟨?_,h.ts,h.ims,h.fs,h.tbs,h.ms,h.gs,h.exs,⟨by show x.length<=16;omega,q3⟩,h.ds,h.cs⟩;show cU (λx:Cd=>x.b.length) d.m.fs+cU (λx:Gd=>x.i.length) d.m.gs+cU GI x+cU (λx:Da=>x.o.length) d.m.ds<=_;omega
 rw[ak h1]at e;by_cases h1:p=10
 .rw[au h1]at e;obtain⟨x,e1,rfl⟩:=jj e;exact⟨by show ml d.m<=_;unfold ml;omega,h.ts,h.ims,h.fs,h.tbs,h.ms,h.gs,h.exs,h.els,h.ds,h.cs⟩
 rw[ak h1]at e;by_cases h1:p=11
 .rw[au h1]at e;obtain⟨x,e1,rfl⟩:=jj e;obtain⟨q1,q2,q3⟩:=wT (E6 (w:=cdT) aip 64 0) e1;have z:=MI d.m.fs x 0;rw[vX]at z;refine⟨?_,h.ts,h.ims,⟨by show(List.map _ _).length<=64;rw[bZ,List.length_zipIdx];exact h.fs.1,λy hy=>?_⟩,h.tbs,h.ms,h.gs,h.exs,h.els,h.ds,h.cs⟩
  .show cU (λx:Cd=>x.b.length) (d.m.fs.zipIdx.map λy=>if y.2<x.length then(⟨y.1.t,(ac x y.2).1,(ac x y.2).2⟩:Cd)else y.1)+cU (λx:Gd=>x.i.length) d.m.gs+cU GI d.m.els+cU (λx:Da=>x.o.length) d.m.ds<=_;omega
  .obtain⟨⟨c,j⟩,hz,rfl⟩:=gG.1 hy;simp only;by_cases hj:j<x.length
   .rw[au hj];have:=q3 (ac x j) (by rw[bv hj];exact tL hj);exact this
   .rw[ak hj]
    exact h.fs.2 c (by
     have:=List.mem_zipIdx hz;rw[this.2.2];exact tL _)
 rw[ak h1]at e;obtain⟨x,e1,rfl⟩:=jj e;obtain⟨q1,q2,q3⟩:=wT (E6 (w:=λx:Da=>x.o.length) aiq 16 0) e1;refine⟨?_,h.ts,h.ims,h.fs,h.tbs,h.ms,h.gs,h.exs,h.els,⟨by show x.length<=16;omega,q3⟩,h.cs⟩;show cU (λx:Cd=>x.b.length) d.m.fs+cU (λx:Gd=>x.i.length) d.m.gs+cU GI d.m.els+cU (λx:Da=>x.o.length) x<=_;omega
theorem Vb{n:Nat}{d d':Dc}{s:fW}(h:KE n d.m)(e:Gm d s = .ok d'):KE (n+2*(gb s.bs).length) d'.m:=by
 unfold Gm at e;by_cases h0:s.id=0
 .rw[au h0]at e;by_cases h1:d.m.cs.length>=8\/(gb s.bs).length>4096
  .rw[au h1]at e;cases e
  .rw[ak h1]at e;cases e;refine⟨by have:=h.tot;show ml d.m<=_;omega,h.ts,h.ims,h.fs,h.tbs,h.ms,h.gs,h.exs,h.els,h.ds,⟨by show(d.m.cs++[_]).length<=8;rw[cP,dK];omega,λx hx=>?_⟩⟩;rcases f7.1 hx with q|q
   .exact h.cs.2 x q
   .simp only[jJ]at q;subst q;show(gb s.bs).length<=4096;omega
 .rw[ak h0]at e;exact Y2 h e
def bsT(l:List fW):Nat:=cU (λs=>(gb s.bs).length) l
def IW:∀(l:List fW){n:Nat}{d d':Dc},KE n d.m->A8 l d = .ok d'->KE (n+2*bsT l) d'.m
 | [],n,d,d',h,e=>by cases e;exact h
 | s::r,n,d,d',h,e=>by
  rw[A8]at e;cases hs:Gm d s with
  | error e'=>rw[hs]at e;cases e
  | ok d1 =>
   rw[hs]at e;have:=IW r (Vb h hs) e;exact this.le (by unfold bsT;rw[pq];omega)
theorem X_{d:Af}{last:Int}(hd:0<d.length)(h:(bP d last).1=0):(gb (bP d last).2.1.bs).length+(bP d last).2.2.length<=d.length:=by
 obtain⟨g1,g2⟩:=Nv h;unfold bP at h⊢;by_cases h1:(ac d 0).toNat>12
 .rw[au h1]at h;cases h
 rw[ak h1]at h⊢;by_cases h2:(lm d).2.2≠0
 .rw[au h2]at h;exact absurd h h2
 rw[ak h2]at h⊢;by_cases h3:(ac d 0).toNat≠0/\gd (ac d 0).toNat<=last
 .rw[au h3]at h;cases h
 rw[ak h3]at h⊢;by_cases h4:(gc (ac d 0).toNat (gb (lm d).1)).1≠0
 .rw[au h4]at h;exact absurd h h4
 rw[ak h4];simp only;rw[ve]at h4 h2;obtain⟨x,x1,x2,x3⟩:=Zf hd h2;have hx:=x3 0 (cm _);rw[x1,db]at h4⊢;have hl:(gb (gc (ac d 0).toNat x).2.bs).length<=x.length:=by
  unfold gc at h4⊢;by_cases h5:((ac d 0).toNat:Int)=0
  .rw[au h5]at h4⊢;by_cases h6:(ci true x 0 0).2.2≠0
   .rw[au h6]at h4;exact absurd h4 h6
   .rw[ak h6];simp only;rw[db,jK];omega
  .rw[ak h5];simp only;rw[db];exact a_ _
 rw[jK];omega
def NT:∀(f:Nat)(d:Af)(last:Int)(acc:List fW),bsT (pp f d last acc).2<=bsT acc+d.length
 | 0,d,last,acc=>Nat.le_add_right _ _
 | f+1,d,last,acc=>by
  rw[pp];by_cases h0:d.length=0
  .rw[au h0];exact Nat.le_add_right _ _
  rw[ak h0];by_cases h1:(bP d last).1≠0
  .rw[au h1];show 0<=_;omega
  rw[ak h1];rw[ve]at h1;have:=X_ (by omega) h1;have ih:=NT f (bP d last).2.2 (max last (gd (bP d last).2.1.id)) (acc++[(bP d last).2.1]);unfold bsT at ih⊢;rw[Ve,pq]at ih;simp only[cU,qF,List.sum_nil]at ih this⊢;omega
theorem adp(b:Af):bsT (oy b).2<=b.length:=by
 unfold oy;split
 .show 0<=_;omega
 split
 .show 0<=_;omega
 .have:=NT (b.drop 8).length (b.drop 8) 0 [];rw[jK]at this;unfold Cn;have z:bsT []=0:=rfl;rw[jK];omega
theorem aaY{m:Md}(h:IJ b = .ok m):KE (2*b.length) m:=by
 unfold IJ at h;by_cases h1:b.length>262144
 .rw[au h1]at h;cases h
 rw[ak h1]at h;by_cases h2:(oy b).1≠0
 .rw[au h2]at h;cases h
 rw[ak h2]at h;cases hf:A8 (oy b).2 zO with
 | error e=>rw[hf]at h;cases h
 | ok d =>
  have h0:KE 0 zO.m:=⟨by decide,⟨by decide,λx hx=>by cases hx⟩,by decide,⟨by decide,λx hx=>by cases hx⟩,by decide,by decide,⟨by decide,λx hx=>by cases hx⟩,by decide,⟨by decide,λx hx=>by cases hx⟩,⟨by decide,λx hx=>by cases hx⟩,⟨by decide,λx hx=>by cases hx⟩⟩
  have h3:=IW (oy b).2 h0 hf;have h4:=adp b;rw[hf]at h;unfold Wy at h;simp only at h;split at h
  .cases h
  .cases h;exact h3.le (by omega)
def JO{l:List be}(h:Io l):JP l:=λy hy=>(h y hy).1
def DE{l:List be}(hl:l.length<=2048)(h:Io l):L_ l:=⟨by omega,λy hy=>by
 obtain⟨h1,h2,h3⟩:=h y hy;exact⟨by omega,by omega,h1.1⟩⟩
def KE.num{n:Nat}{m:Md}(h:KE n m):TJ m:=⟨λx hx=>JO (h.fs.2 x hx).2.2,λx hx=>JO (h.gs.2 x hx).2,λx hx=>⟨JO (h.els.2 x hx).1.2,λl hl=>JO ((h.els.2 x hx).2.2 l hl).2⟩,λx hx=>JO (h.ds.2 x hx).1.2⟩
def KE.sm{n:Nat}{m:Md}(h:KE n m):U4 m :=
 have up:∀{n k:Nat},n<=k->k<=140737488355328->n<=140737488355328:=λh g=>m8 h g
 ⟨⟨up h.ts.1 (by decide),λx hx=>⟨by have:=(h.ts.2 x hx).1;omega,by have:=(h.ts.2 x hx).2;omega⟩⟩,up h.ims (by decide),⟨up h.fs.1 (by decide),λx hx=>⟨by have:=(h.fs.2 x hx).1;omega,DE (h.fs.2 x hx).2.1 (h.fs.2 x hx).2.2⟩⟩,up h.tbs (by decide),up h.ms (by decide),⟨up h.gs.1 (by decide),λx hx=>DE (h.gs.2 x hx).1 (h.gs.2 x hx).2⟩,up h.exs (by decide),⟨up h.els.1 (by decide),λx hx=>⟨DE (h.els.2 x hx).1.1 (h.els.2 x hx).1.2,up (h.els.2 x hx).2.1 (by decide),λl hl=>DE ((h.els.2 x hx).2.2 l hl).1 ((h.els.2 x hx).2.2 l hl).2⟩⟩,⟨up h.ds.1 (by decide),λx hx=>⟨DE (h.ds.2 x hx).1.1 (h.ds.2 x hx).1.2,by have:=(h.ds.2 x hx).2;omega⟩⟩,⟨up h.cs.1 (by decide),λx hx=>by have:=h.cs.2 x hx;show x.b.length<=_;omega⟩⟩
end
section
open Go Go.Mw
def CR(l:List Cd):ao:=⟨61,3,l.map kM,false⟩
def A5(l:List Cu):ao:=⟨67,3,l.map yf,false⟩
def Ew(i j:Nat)(d:Dc):ao:=⟨89,15,[[.sl 2 (d.m.ts.map my),.sl 13 (d.m.ims.map pw),.ms i 3 0 d.m.fs.length,.sl 4 (d.m.tbs.map rM),.sl 3 (d.m.ms.map j7),.sl 3 (d.m.gs.map wF),.sl 3 (d.m.exs.map vx),.bool d.m.hs,.int .i64 d.m.st,.sl 5 (d.m.els.map eF),.sl 4 (d.m.ds.map iz),.ms j 3 0 d.m.cs.length,.int .i64 d.place,.int .i64 (d.codes:Nat),.int .i64 d.data]],true⟩
def r8{fs:List Cd}{l:List (List Int×List be)}{k:Nat}(hk:k<fs.length):ac (uA fs l) k=if k<l.length then(⟨(ac fs k).t,(ac l k).1,(ac l k).2⟩:Cd)else ac fs k:=by
 unfold uA;rw[bv (by rw[bZ,List.length_zipIdx];exact hk),bv hk,List.getElem_map,List.getElem_zipIdx];simp only[zE]
def DD{α:Type}[Inhabited α]{l:List α}{i k:Nat}(h:k<i)(hk:k<l.length):ac (l.take i) k=ac l k:=by
 rw[bv (by rw[qD];omega),bv hk,List.getElem_take]
def HD{α:Type}[Inhabited α]{l m:List α}(h:l.length=m.length)(hk:∀k,k<l.length->ac l k=ac m k):l=m :=
 List.ext_getElem h λk h1 h2=>by have:=hk k h1;rwa[bv h1,bv h2]at this
def XU{α:Type}[Inhabited α]{l:List α}{i k:Nat}{x:α}(hk:k<l.length):ac (l.set i x) k=if i=k then x else ac l k:=by
 rw[bv (by rw[List.length_set];exact hk),List.getElem_set,bv hk]
def Zy{fs:List Cd}{L:List (List Int×List be)}{i:Nat}(hi:i<fs.length)(hL:i<L.length):(uA fs (L.take i)).set i ⟨(ac fs i).t,(ac L i).1,(ac L i).2⟩=uA fs (L.take (i+1)):=by
 refine HD (by rw[List.length_set,dO,dO]) λk hk=>?_;rw[List.length_set,dO]at hk;rw[XU (by rw[dO];exact hk),r8 hk,r8 hk,qD,qD];by_cases h1:i=k
 .subst h1;rw[au rfl,au (by omega),DD (by omega) hL]
 rw[ak h1];by_cases h2:k<min i L.length
 .rw[au h2,au (by omega),DD (by omega) (by omega),DD (by omega) (by omega)]
 .rw[ak h2,ak (by omega)]
def Zx{fs:List Cd}{L:List (List Int×List be)}{i:Nat}(hi:fs.length<=i):uA fs (L.take i)=uA fs (L.take (i+1)):=by
 refine HD (by rw[dO,dO]) λk hk=>?_;rw[dO]at hk;rw[r8 hk,r8 hk,qD,qD];by_cases h2:k<min i L.length
 .rw[au h2,au (by omega),DD (by omega) (by omega),DD (by omega) (by omega)]
 .rw[ak h2,ak (by omega)]
def Zw(fs:List Cd):uA fs []=fs:=by
 refine HD (dO _ _) λk hk=>?_;rw[dO]at hk;rw[r8 hk,ak (by simp)]
def cdP(x:List Int×List be):List AV:=kM ⟨0,x.1,x.2⟩
def Zv(x:List Int×List be):cdP x=[.int .i64 0,.sl 1 (x.1.map jM),.sl 9 (x.2.map az)]:=rfl
variable{b:Af}(hb:b.length<1000000000)
include hb
def afF:RP 158 [.int .i64 (64:Nat),.fn 241 []] b (pL b (uS b) (64:Nat)) (λl=>.sl 3 (l.map cdP)) :=
 ss hb (cF gW) (λx=>⟨rfl,rfl,rfl,λi=>rfl⟩) (by kernel_rfl) (λ_=>rfl) (λ_ h=>by cases h) (aig hb) ⟨_,Nk b⟩ 64 (by decide)
attribute[local go_sem] bZ ro Ew CR A5
def abP(d:Dc)(a:Nat)(e:Int)(ha:a<=b.length)(hf:d.m.fs.length<=9223372036854775807):aQ pg 170 [.mp 1000 15 0 0,.mp 1001 4 0 0] [(1000,Ew 2000 2001 d),(1001,ro true b a e),(2000,CR d.m.fs),(2001,A5 d.m.cs)] sb
  (λr' σ'=>r' = .tup []/\σ'=[(1000,Ew 2000 2001 ⟨{d.m with fs:=uA d.m.fs (pL b (uS b) (64:Nat) a e).1},d.place,(pL b (uS b) (64:Nat) a e).1.length,d.data⟩),(1001,ro true b ((pL b (uS b) (64:Nat) a e).2.1:Nat) (pL b (uS b) (64:Nat) a e).2.2),(2000,CR (uA d.m.fs (pL b (uS b) (64:Nat) a e).1)),(2001,A5 d.m.cs)]):=by
 refine bA jN ?_;simp only[go_sem,jN];refine ae (afF hb a e ha) ?_;have hl:=LD b (uS b) (64:Nat) a e;generalize pL b (uS b) (64:Nat) a e=y at*;obtain⟨L,a1,e1⟩:=y;simp only at hl⊢;simp only[go_sem];refine aq (λi:Nat=>⟨[(16,.int .i64 i),(15,.int .i64 L.length),(14,.sl 3 (L.map cdP)),(0,.mp 1000 15 0 0),(1,.mp 1001 4 0 0)],[(1000,Ew 2000 2001 ⟨{d.m with fs:=uA d.m.fs (L.take i)},d.place,L.length,d.data⟩),(1001,ro true b a1 e1),(2000,CR (uA d.m.fs (L.take i))),(2001,A5 d.m.cs)]⟩) (λi=>i<=L.length) (λi=>L.length-i) 0 (cm _) (Wk.of ?_ ?_) ?_
 .simp only[go_sem];try simp
 .simp only[go_sem,rI,Zw];try simp[go_sem]
 intro i hi2;by_cases q1:(i:Int)<(L.length:Int);rotate_left
 .obtain rfl:i=L.length:=by omega
  rw[pJ];simp only[go_sem,aL q1];exact cR [] _ [(1000,Ew 2000 2001 ⟨{d.m with fs:=uA d.m.fs L},d.place,L.length,d.data⟩),(1001,ro true b a1 e1),(2000,CR (uA d.m.fs L)),(2001,A5 d.m.cs)] ⟨rfl,rfl⟩
 have hi':i<L.length:=by omega
 have e8:=ey hi' (by omega);have hlen:=dO d.m.fs (L.take i);by_cases q2:(i:Int)<(d.m.fs.length:Int)
 .have hi3:i<d.m.fs.length:=by omega
  have hs:=Zy hi3 hi';have hg:=r8 (l:=L.take i) hi3;rw[ak (by rw[qD];omega)]at hg;generalize uA d.m.fs (L.take i)=B at*;have hst:=H6 2000 3 3 i 61 kM B ⟨(ac d.m.fs i).t,(ac L i).1,(ac L i).2⟩ (λ_=>rfl) rfl;rw[hs,df]at hst;have hld:uI none (kM (ac B i))=some (.int .i64 (ac d.m.fs i).t):=by rw[hg];rfl
  simp only[go_sem,aK q1,hlen,aK q2,Zv,hld,hst];refine⟨by omega,q1,⟨by omega,q2⟩,hi3,⟨by omega,q2⟩,hi3,?_⟩;refine aF (i+1) (show i+1<=L.length by omega) (show L.length-(i+1)<L.length-i by omega) (Wk.of ?_ ?_)
  .simp only[go_sem,e8];try simp
  .simp only[go_sem,dO];try simp[go_sem]
 .have hs:=Zx (L:=L) (show d.m.fs.length<=i by omega);simp only[go_sem,aK q1,hlen,aL q2,Zv];refine⟨by omega,q1,?_⟩;refine aF (i+1) (show i+1<=L.length by omega) (show L.length-(i+1)<L.length-i by omega) (Wk.of ?_ ?_)
  .simp only[go_sem,e8];try simp
  .simp only[go_sem,hs,dO];try simp[go_sem]
end
section
open Go Go.Mw
def aaU{fs:List Cd}{l:List (List Int×List be)}(q:List Int×List be)(hi:l.length<fs.length):(uA fs l).set l.length ⟨(ac fs l.length).t,q.1,q.2⟩=uA fs (l++[q]):=by
 have h:=Zy (fs:=fs) (L:=l++[q]) (i:=l.length) hi (by simp);rw[List.take_left,cI (by simp)]at h;rw[show ac (l++[q]) l.length=q by rw[bv (by simp)];simp]at h;exact h
def aaT{fs:List Cd}{l:List (List Int×List be)}(q:List Int×List be)(hi:fs.length<=l.length):uA fs l=uA fs (l++[q]):=by
 have h:=Zx (fs:=fs) (L:=l++[q]) (i:=l.length) hi;rw[List.take_left,cI (by simp)]at h;exact h
variable{b:Af}(hb:b.length<1000000000)
include hb
attribute[local go_sem] ro wo wa rx ce zH vl qH
def UE(m:Md)(hf:m.fs.length<4294967296)(fu da co pl er:Int):aQ pg 255 [.agg (zH m fu da co pl er),rx b 0 0] [] sb (λr' σ'=>∃m',((pL b (uS b) (64:Nat) 0 0).2.2=0->m'={m with fs:=uA m.fs (pL b (uS b) (64:Nat) 0 0).1}) /\
  r' = .tup [.agg (zH m' fu da ((pC b 64 0 0).1:Nat) pl er),rx b ((pL b (uS b) (64:Nat) 0 0).2.1:Nat) (pL b (uS b) (64:Nat) 0 0).2.2]/\σ'=[]):=by
 refine bA wh ?_;have q1:=mK 25 61 3 (m.fs.map kM) (by rw[bZ];omega) (by decide);simp only[go_sem,wh];refine ab (vS hb 64 0 0 (cm _)) ?_;have hN:=pj (b:=b) (most:=64) (a:=0) (e:=0);have h0:pL b (uS b) (64:Nat) 0 0=([]++(pN (uS b) (pC b 64 0 0).1 (pC b 64 0 0).2.1 (pC b 64 0 0).2.2).1,(pN (uS b) (pC b 64 0 0).1 (pC b 64 0 0).2.1 (pC b 64 0 0).2.2).2):=rfl;have hk:(pC b 64 0 0).2.1<=b.length:=fg (cm _);generalize pL b (uS b) (64:Nat) 0 0=R at*;generalize pC b 64 0 0=c at*;obtain⟨N,a0,e0⟩:=c;simp only at hN h0 hk⊢;simp only[go_sem,q1];refine aq (λq:Nat×List (List Int×List be)×Nat×Int=>⟨[(9,.int .i64 q.2.1.length),(8,.ms 25 3 0 m.fs.length),(7,.mp 7 12 0 0),(6,.int .i64 N),(5,.mp 5 3 0 0),(4,.mp 4 17 0 0),(3,.mp 3 3 0 0),(2,.mp 2 17 0 0)],[(25,⟨61,3,(uA m.fs q.2.1).map kM,false⟩),(3,⟨240,3,[[.sl 1 (b.map de),.int .i64 q.2.2.1,.int .i64 q.2.2.2]],true⟩),(7,⟨33,12,[vl m],true⟩),(2,⟨104,17,[zH m fu da N pl er],true⟩),(4,⟨104,17,[qH],true⟩),(5,⟨240,3,[[.nl,.int .i64 0,.int .i64 0]],true⟩)]⟩)
  (λq=>q.2.2.1<=b.length/\q.2.1.length+q.1=N/\R=(q.2.1++(pN (uS b) q.1 q.2.2.1 q.2.2.2).1,(pN (uS b) q.1 q.2.2.1 q.2.2.2).2)) (λq=>q.1) (N,[],a0,e0) ⟨hk,by simp,h0⟩ (Wk.of ?_ ?_) ?_
 .simp only[go_sem,bZ];try simp[go_sem]
 .simp only[go_sem,Zw];try simp[go_sem]
 rintro⟨m9,l,a1,e1⟩ ⟨h1,h2,h3⟩;simp only at h1 h2 h3;by_cases hm1:(l.length:Int)<(N:Int);rotate_left
 .obtain rfl:m9=0:=by omega
  simp only[go_sem,aL hm1];subst h3;refine done [25] (.tup [.agg (zH {m with fs:=uA m.fs l} fu da N pl er),rx b a1 e1]) [] ?_ trivial rfl ⟨_,λ_=>(by simp[pN,pP]),rfl,rfl⟩;simp only[go_sem,bZ,dO,a_];rw[cI (by rw[bZ,dO];omega)]
 obtain⟨m9,rfl⟩:∃k,m9=k+1:=⟨m9-1,by omega⟩
 have hw1:IntKind.i64.wrap ((l.length:Int)+1)=((l.length+1:Nat):Int):=by rw[wi (by omega) (by omega)];omega
 by_cases he:e1=0;rotate_left
 .rw[HM he]at h3;simp only[go_sem,aK hm1,ei he];subst h3;refine done [25] (.tup [.agg (zH {m with fs:=uA m.fs l} fu da N pl er),rx b a1 e1]) [] ?_ trivial rfl ⟨_,λh=>absurd h he,rfl,rfl⟩;simp only[go_sem,bZ,dO,a_];rw[cI (by rw[bZ,dO];omega)]
 subst he;rw[JU]at h3;have hk2:=(Nk b a1 0 h1).1;have hI:uS b a1 0=uS b a1 0:=rfl
 conv at hI=>rhs;simp only[uS]
 generalize uS b a1 0=J at*;simp only[go_sem,aK hm1];refine ab (BX hb a1 0 h1) ?_;have k2:=(kW (b:=b) a1 0 h1).1;have hn:(kv b a1 0).1<4294967296:=wW _ b a1 0;generalize kv b a1 0=y at*;obtain⟨sz,a2,e2⟩:=y;simp only at hI k2 hn⊢;simp only[go_sem];refine ab (af0 b a2 e2 sz k2 hb ⟨by omega,by omega⟩) ?_;have k3:=(Nt b sz a2 e2 k2).1;have k4:=NA (b:=b) (n:=sz) (a:=a2) (e:=e2);have hT:wQ b sz a2 e2=((aO (e2==0) b a2 e2 (sz:Nat)).1.getD [],(aO (e2==0) b a2 e2 (sz:Nat)).2):=rfl;generalize (aO (e2==0) b a2 e2 (sz:Nat)).1.getD []=sub at*;generalize (aO (e2==0) b a2 e2 (sz:Nat)).2=y2 at*;generalize wQ b sz a2 e2=y at*;subst hT;obtain⟨a3,e3⟩:=y2;simp only at hI k3 k4⊢;by_cases he3:e3=0;rotate_left
 .rw[ak he3]at hI;subst hI;simp only at h3;rw[HM he3]at h3;simp only[go_sem,j0 he3];subst h3;exact done [] (.tup [.agg (zH m fu da N pl er),rx b a3 e3]) [] (by simp only[go_sem]) trivial rfl ⟨m,λh=>absurd h he3,rfl,rfl⟩
 subst he3;rw[au rfl]at hI;simp only[go_sem];refine ab (agb (b:=sub) (by omega) 0 0 (cm _)) ?_;generalize JT sub 0 0=q at*;obtain⟨⟨lo,bo⟩,a4,e4⟩:=q;simp only at hI⊢;generalize sa sub a4 e4=e5 at*;subst hI;obtain⟨x,hx⟩:∃x:List Int×List be,x=(lo,bo):=⟨_,rfl⟩
 simp only[<-hx]at h3 hk2;by_cases q2:(l.length:Int)<(m.fs.length:Int)
 .have hi3:l.length<m.fs.length:=by omega
  have hs:(uA m.fs l).set l.length ⟨(ac m.fs l.length).t,lo,bo⟩=uA m.fs (l++[x]):=by rw[hx];exact aaU (lo,bo) hi3
  have hg:=r8 (l:=l) hi3;rw[ak (Nat.lt_irrefl _)]at hg;have hlen:=dO m.fs l;have hB:uA m.fs l=uA m.fs l:=rfl;generalize uA m.fs l=B at*;have hst:=H6 25 3 3 l.length 61 kM B ⟨(ac m.fs l.length).t,lo,bo⟩ (λ_=>rfl) rfl;rw[hs,df]at hst;have hld:uI none (kM (ac B l.length))=some (.int .i64 (ac m.fs l.length).t):=by rw[hg];rfl
  by_cases he5:e5=0
  .subst he5;simp only[go_sem,df,aK q2,hld,hg,hst,hw1];refine⟨⟨by omega,q2⟩,by omega,⟨by omega,q2⟩,by omega,aF (m9,l++[x],a3,0) ⟨k3,by simp;omega,by rw[h3];simp⟩ (show m9<m9+1 by omega) (Wk.of ?_ ?_)⟩
   .simp only[go_sem];try simp
   .simp only[go_sem];try simp[go_sem]
  .simp only[go_sem,df,j0 he5];refine ab (cM b a3 e5) ?_;simp only[go_sem,df,aK q2,hld,hg,hst,hw1];refine⟨⟨by omega,q2⟩,by omega,⟨by omega,q2⟩,by omega,aF (m9,l++[x],a3,e5) ⟨k3,by simp;omega,by rw[h3];simp⟩ (show m9<m9+1 by omega) (Wk.of ?_ ?_)⟩
   .simp only[go_sem];try simp
   .simp only[go_sem];try simp[go_sem]
 .have hs:=aaT (fs:=m.fs) (l:=l) x (by omega);by_cases he5:e5=0
  .subst he5;simp only[go_sem,df,aL q2,hw1];refine aF (m9,l++[x],a3,0) ⟨k3,by simp;omega,by rw[h3];simp⟩ (show m9<m9+1 by omega) (Wk.of ?_ ?_)
   .simp only[go_sem];try simp
   .simp only[go_sem,hs];try simp[go_sem]
  .simp only[go_sem,df,j0 he5];refine ab (cM b a3 e5) ?_;simp only[go_sem,df,aL q2,hw1];refine aF (m9,l++[x],a3,e5) ⟨k3,by simp;omega,by rw[h3];simp⟩ (show m9<m9+1 by omega) (Wk.of ?_ ?_)
   .simp only[go_sem];try simp
   .simp only[go_sem,hs];try simp[go_sem]
end
section
open Go Go.Mw
def T1{α:Type}(one:PS α):∀(n a:Nat)(e:Int),(pN one n a e).2.2=0->(pN one n a e).1.length=n
 | 0,a,e,_=>rfl
 | n+1,a,e,h=>by
  by_cases he:e=0
  .subst he;rw[JU]at h⊢;rw[i0,T1 one n _ _ h]
  .rw[HM he]at h;exact absurd h he
def RA{b:Af}{a:Nat}{e:Int}(h:sa b a e=0):e=0:=by
 unfold sa at h;by_cases he:e=0
 .exact he
 .rw[au he]at h;exact absurd h he
def PQ(b:Af)(d:Dc)(p fu:Int)(q:(Md×Int×Int×Int)×Nat×Int):Prop:=q.2.1<=b.length/\sa b q.2.1 q.2.2=(m6 d p b).2 /\
 ((m6 d p b).2=0->q.1.1=(m6 d p b).1.m/\q.1.2.2.1=(m6 d p b).1.data/\q.1.2.2.2=((m6 d p b).1.codes:Nat)/\(fu=d.m.fs.length->q.1.2.1=q.1.1.fs.length))
def oV(b:Af)(d:Dc)(p:Int):Prop:=∀fu er:Int,aQ pg 179 [.agg (zH d.m fu d.data (d.codes:Nat) p er),rx b 0 0] [] sb
 (λr' σ'=>∃q:(Md×Int×Int×Int)×Nat×Int,PQ b d p fu q/\r' = .tup [.agg (zH q.1.1 q.1.2.1 q.1.2.2.1 q.1.2.2.2 p er),rx b q.2.1 q.2.2]/\σ'=[])
attribute[local go_sem] ro wo wa rx ce zH vl qH
def oh{b:Af}(d:Dc){α:Type}{f:FuncId}{p:Int}{t:PS α}{X:Md->α->Md}{g:Int->α->Int}(hp:(p,f)∈[((1:Int),247),(2,248),(3,249),(4,250),(5,251),(6,252),(7,253),(9,254),(12,256)])(c1:RS f b t X d.m g)(ok:(t 0 0).2.1<=b.length)
  (hs:m6 d p b=pE (ry b t) λl=>⟨X d.m l,p,d.codes,d.data⟩) (hf:∀fu:Int,sa b (t 0 0).2.1 (t 0 0).2.2=0->fu=d.m.fs.length->g fu (t 0 0).1=(X d.m (t 0 0).1).fs.length):oV b d p:=by
 intro fu er;have c1:=c1 fu d.data (d.codes:Nat) p er;have k:PQ b d p fu ((X d.m (t 0 0).1,g fu (t 0 0).1,d.data,(d.codes:Nat)),(t 0 0).2.1,(t 0 0).2.2):=by
  unfold PQ;rw[hs];exact⟨ok,rfl,λh=>⟨rfl,rfl,rfl,hf fu h⟩⟩
 generalize t 0 0=y at*;generalize X d.m y.1=m' at*;simp only[dQ,vf,tN,or_false]at hp;rcases hp with⟨rfl,rfl⟩|⟨rfl,rfl⟩|⟨rfl,rfl⟩|⟨rfl,rfl⟩|⟨rfl,rfl⟩|⟨rfl,rfl⟩|⟨rfl,rfl⟩|⟨rfl,rfl⟩|⟨rfl,rfl⟩
 all_goals
  refine bA eu ?_;simp only[go_sem,eu];refine aa (c1) ?_;exact done [] _ [] (by simp only[go_sem]) trivial rfl ⟨_,k,rfl,rfl⟩
variable{b:Af}(hb:b.length<1000000000)(d:Dc)
include hb
def acp(hm:d.m.ts=[]):oV b d 1:=oh d (by decide) (UI hb d.m hm) ((dn.l (g:=gFt) HJ (64:Nat)) 0 0 (cm _)).1 rfl (λ_ _ h=>h)
def acq(hm:d.m.ims=[]):oV b d 2:=oh d (by decide) (LZ hb d.m hm) ((dn.l (g:=gIm) (Nr b) (32:Nat)) 0 0 (cm _)).1 rfl (λ_ _ h=>h)
def acr(hm:d.m.fs=[]):oV b d 3:=oh d (by decide) (UH hb d.m hm) ((TP b) 0 0 (cm _)).1 rfl (λ_ h _=>(congrArg Int.ofNat (T1 (Eo b) (pC b 64 0 0).1 (pC b 64 0 0).2.1 (pC b 64 0 0).2.2 (RA h))).symm)
def acs(hm:d.m.tbs=[]):oV b d 4:=oh d (by decide) (PJ hb d.m hm) ((dn.l (g:=Ce) ((yn b).oks tI) (4:Nat)) 0 0 (cm _)).1 rfl (λ_ _ h=>h)
def act(hm:d.m.ms=[]):oV b d 5:=oh d (by decide) (YR hb d.m hm) ((dn.l (g:=yl) ((ym b).oks ⟨0,0,false⟩) (2:Nat)) 0 0 (cm _)).1 rfl (λ_ _ h=>h)
def acu(hm:d.m.gs=[]):oV b d 6:=oh d (by decide) (LY hb d.m hm) ((dn.l (g:=gGd) (Nq b) (32:Nat)) 0 0 (cm _)).1 rfl (λ_ _ h=>h)
def acv(hm:d.m.exs=[]):oV b d 7:=oh d (by decide) (LX hb d.m hm) ((dn.l (g:=gEx) (Np b) (64:Nat)) 0 0 (cm _)).1 rfl (λ_ _ h=>h)
def acx(hm:d.m.els=[]):oV b d 9:=oh d (by decide) (UG hb d.m hm) ((dn.l (g:=gEl) (Nn b) (16:Nat)) 0 0 (cm _)).1 rfl (λ_ _ h=>h)
def Yk(hm:d.m.ds=[]):oV b d 12:=oh d (by decide) (UF hb d.m hm) ((dn.l (g:=gDa) (Nl b) (16:Nat)) 0 0 (cm _)).1 rfl (λ_ _ h=>h)
theorem acw:oV b d 8:=by
 intro fu er;refine bA eu ?_;simp only[go_sem,eu];refine aa (BX hb 0 0 (cm _)) ?_;exact done [] _ [] (by simp only[go_sem]) trivial rfl ⟨(({d.m with hs:=true,st:=((kv b 0 0).1:Nat)},fu,d.data,(d.codes:Nat)),(kv b 0 0).2.1,(kv b 0 0).2.2),⟨(kW (b:=b) 0 0 (cm _)).1,rfl,λ_=>⟨rfl,rfl,rfl,λh=>h⟩⟩,rfl,rfl⟩
theorem Yi:oV b d 10:=by
 intro fu er;refine bA eu ?_;simp only[go_sem,eu];refine aa (BX hb 0 0 (cm _)) ?_;exact done [] _ [] (by simp only[go_sem]) trivial rfl ⟨((d.m,fu,((kv b 0 0).1:Nat),(d.codes:Nat)),(kv b 0 0).2.1,(kv b 0 0).2.2),⟨(kW (b:=b) 0 0 (cm _)).1,rfl,λ_=>⟨rfl,rfl,rfl,λh=>h⟩⟩,rfl,rfl⟩
theorem Yj(hf:d.m.fs.length<4294967296):oV b d 11:=by
 intro fu er;refine bA eu ?_;simp only[go_sem,eu];refine jZ (UE hb d.m hf fu d.data (d.codes:Nat) 11 er) ?_;rintro m' hm';simp only[go_sem];refine done [] _ [] (by simp only[go_sem]) trivial rfl ⟨((m',fu,d.data,((pC b 64 0 0).1:Nat)),(pL b (uS b) (64:Nat) 0 0).2.1,(pL b (uS b) (64:Nat) 0 0).2.2),⟨(dn.l (g:=gCd) (Nk b) (64:Nat) 0 0 (cm _)).1,rfl,λh=>?_⟩,rfl,rfl⟩;have h0:=RA h;have hl:=T1 (uS b) (pC b 64 0 0).1 (pC b 64 0 0).2.1 (pC b 64 0 0).2.2 h0;refine⟨hm' h0,rfl,congrArg Int.ofNat hl.symm,λhf=>?_⟩;show fu=((m'.fs.length:Nat):Int);rw[hm' h0,hf];exact congrArg Int.ofNat (dO _ _).symm
end
section
open Go Go.Mw
def Ue(d:Dc):(Md×Int×Int×Int)×Int:=((d.m,d.m.fs.length,d.data,(d.codes:Nat)),d.place)
def rd_(q:(Md×Int×Int×Int)×Int)(e:Int):AV:=.agg (zH q.1.1 q.1.2.1 q.1.2.2.1 q.1.2.2.2 q.2 e)
def NP(d:Dc)(p:Int)(b:Af):(m6 d p b).1.place=p:=by
 unfold m6;by_cases h1:p=1
 .rw[au h1];rfl
 rw[ak h1];by_cases h2:p=2
 .rw[au h2];rfl
 rw[ak h2];by_cases h3:p=3
 .rw[au h3];rfl
 rw[ak h3];by_cases h4:p=4
 .rw[au h4];rfl
 rw[ak h4];by_cases h5:p=5
 .rw[au h5];rfl
 rw[ak h5];by_cases h6:p=6
 .rw[au h6];rfl
 rw[ak h6];by_cases h7:p=7
 .rw[au h7];rfl
 rw[ak h7];by_cases h8:p=8
 .rw[au h8];rfl
 rw[ak h8];by_cases h9:p=9
 .rw[au h9];rfl
 rw[ak h9];by_cases h10:p=10
 .rw[au h10];rfl
 rw[ak h10];by_cases h11:p=11
 .rw[au h11];rfl
 rw[ak h11];rfl
attribute[local go_sem] ro wo wa rx ce zH vl qH
def L0(d:Dc)(s:fW)(x:Af)(hs:s.bs=some x)(hx:x.length<1000000000)(hp:s.id≠0->oV x d (gd s.id))(hcs:d.m.cs.length<4294967296) :
  aQ pg 52 [rd_ (Ue d) 0,.agg [.int .i64 s.id,.str s.name,.sl 1 (x.map de)]] [] sb (λr' σ'=>∃q,((dh d s).2=0->q=Ue (dh d s).1)/\r'=rd_ q (dh d s).2/\σ'=[]):=by
 refine bA fM ?_;by_cases h0:s.id=0
 .by_cases h1:(d.m.cs.length:Int)>=8
  .have hst:dh d s=(d,6):=by unfold dh;rw[au h0,au (.inl (by omega))]
   rw[hst];simp only[go_sem,fM,rd_,Ue,dt h0,aK h1];exact done [] _ [] (by simp only[go_sem,Ue]) trivial rfl ⟨Ue d,λh=>absurd h (show ¬(6:Int)=0 by decide),rfl,rfl⟩
  by_cases h2:(x.length:Int)>4096
  .have hst:dh d s=(d,6):=by unfold dh;rw[au h0,au (.inr (by rw[hs,db];omega))]
   rw[hst];simp only[go_sem,fM,rd_,Ue,dt h0,aL h1,aK h2];exact done [] _ [] (by simp only[go_sem,Ue]) trivial rfl ⟨Ue d,λh=>absurd h (show ¬(6:Int)=0 by decide),rfl,rfl⟩
  have hst:dh d s=(⟨{d.m with cs:=d.m.cs++[⟨d.place,s.name,x⟩]},d.place,d.codes,d.data⟩,0):=by
   unfold dh;rw[au h0,ak (by rw[hs,db];omega),hs,db]
  rw[hst];have q1:=mK 27 67 3 (d.m.cs.map yf) (by rw[bZ];omega) (by decide);have q2:=λys=>bq 27 67 3 d.m.cs.length yf d.m.cs ys rfl;have q3:=mK 35 5 1 (x.map de) (by rw[bZ];omega) (by decide);simp only[go_sem,fM,rd_,Ue,dt h0,aL h1,aL h2,q1,q3];refine⟨_,Wk.frzs [35] _,?_⟩;simp only[Al];simp only[go_sem,bZ,a_,q2];refine⟨by omega,done [27] _ [] ?_ trivial rfl ⟨_,rfl,rfl,rfl⟩⟩;simp only[go_sem,bZ,a_,cP];rw[cI (l:=x.map de) (by simp),cI (by simp),oz];rfl
 have c1:=hp h0;have cp:=HW s.id;have hst:dh d s=m6 d (gd s.id) x:=by unfold dh;rw[ak h0,hs,db]
 rw[hst];simp only[go_sem,fM,rd_,Ue,aA h0];refine aa (cp) ?_;refine aa (LN x) ?_;refine jZ (c1 _ _) ?_;rintro⟨⟨m',fu,da,co⟩,a',e'⟩ ⟨k0,k1,k2⟩;simp only at k0 k1 k2;simp only[go_sem];refine ab (Uf x a' e' k0 hx) ?_;rw[qw,k1];have hpl:=NP d (gd s.id) x;generalize m6 d (gd s.id) x=y at*;simp only[go_sem];refine done [] _ [] (by simp only[go_sem]) trivial rfl ⟨((m',fu,da,co),gd s.id),λh=>?_,rfl,rfl⟩;obtain⟨r1,r2,r3,r4⟩:=k2 h;have r5:=r4 trivial;rw[r1]at r5;rw[r1,r2,r3,r5,<-hpl]
 try rfl
end
section
open Go Go.Mw
def N5(d:Dc)(s:fW)(x:Af):Prop:=aQ pg 40 [.mp 1000 15 0 0,.agg [.int .i64 s.id,.str s.name,.sl 1 (x.map de)]] [(1000,Ew 2000 2001 d),(2000,CR d.m.fs),(2001,A5 d.m.cs)] sb
  (λr' σ'=>r' = .int .i64 (dh d s).2/\σ'=[(1000,Ew 2000 2001 (dh d s).1),(2000,CR (dh d s).1.m.fs),(2001,A5 (dh d s).1.m.cs)])
def aeJ{l:List nS}{s:St}(fs:List Nat){r:AV}{σ':List (Nat×ao)}(h1:sg l (frzs fs s)=some r)(h2:SV (frzs fs s).heap σ')(h3:KR r σ'=true):mz l (λa b=>a=r/\b=σ') .ret s:=done fs r σ' h1 h2 h3 ⟨rfl,rfl⟩
variable{d:Dc}{s:fW}{x:Af}(hs:s.bs=some x)(hx:x.length<1000000000)(h0:¬s.id=0)
include hs hx h0
attribute[local go_sem] bZ ro Ew CR A5
theorem agw{p:Int}(hm:p∈[(1:Int),2,4,5,6,7,8,9,10,12])(hp:gd s.id=p):N5 d s x:=by
 refine bA aU ?_;have hst:dh d s=m6 d p x:=by unfold dh;rw[ak h0,hs,db,hp]
 rw[hst];have cp:=Cm s.id;rw[hp]at cp;have cr:=D0 x hx;simp only[go_sem,aU,aA h0];refine aa (cp) ?_;refine qW cr rfl (by simp[go_sem]) 905 (by decide) (by simp only[go_sem]) ?_;unfold m6 pE ry;simp only[dQ,tN,or_false]at hm;rcases hm with rfl|rfl|rfl|rfl|rfl|rfl|rfl|rfl|rfl|rfl
 all_goals
  simp only[Int.reduceEq,aN,bB];simp only[go_sem]
 refine ae (afJ hx 0 0 (cm _)) ?_;generalize pL x (Ny x) (64:Nat) 0 0=y;rotate_left;refine ae (afM hx 0 0 (cm _)) ?_;generalize pL x (Ir x) (32:Nat) 0 0=y;rotate_left;refine ae (afP hx 0 0 (cm _)) ?_;generalize pL x (dF (Ce x) tI) (4:Nat) 0 0=y;rotate_left;refine ae (afN hx 0 0 (cm _)) ?_;generalize pL x (dF (yl x) ⟨0,0,false⟩) (2:Nat) 0 0=y;rotate_left;refine ae (afK hx 0 0 (cm _)) ?_;generalize pL x (Nz x) (32:Nat) 0 0=y;rotate_left;refine ae (afI hx 0 0 (cm _)) ?_;generalize pL x (Kz x) (64:Nat) 0 0=y;rotate_left;refine ae (NB hx 0 0 (cm _)) ?_;unfold pTn pb pP;generalize kv x 0 0=y;rotate_left;refine ae (afH hx 0 0 (cm _)) ?_;generalize pL x (Iq x) (16:Nat) 0 0=y;rotate_left;refine ae (NB hx 0 0 (cm _)) ?_;unfold pTn pb pP;generalize kv x 0 0=y;rotate_left;refine ae (afG hx 0 0 (cm _)) ?_;generalize pL x (Ip x) (16:Nat) 0 0=y;rotate_left
 all_goals
  obtain⟨l,a1,e1⟩:=y;simp only[go_sem];refine ae (J_ true x a1 e1) ?_;rw[qw];simp only[go_sem];exact aeJ [] (by simp only[go_sem]) (by simp only[go_sem]) rfl
end
section
open Go Go.Mw
def bw1{a b id:Nat}(h1:id≠a)(h2:id≠b):bw [(a,b)] id=id:=by
 show i5 a b id=id;unfold i5;rw[ak h1,ak h2]
def afQ{b:Af}(hb:b.length<1000000000)(a:Nat)(e:Int)(ha:a<=b.length):aQ pg 158 [.mp 1000 4 0 0,.int .i64 (64:Nat),.fn 159 []] [(1000,ro true b a e)] sb
  (λr' σ'=>r' = .ms 900 3 0 (pL b (Eo b) (64:Nat) a e).1.length/\σ'=[(1000,ro true b ((pL b (Eo b) (64:Nat) a e).2.1:Nat) (pL b (Eo b) (64:Nat) a e).2.2),(900,CR (pL b (Eo b) (64:Nat) a e).1)]) :=
 YE hb (cF gW) (λx=>⟨rfl,rfl,rfl,λi=>rfl⟩) (by kernel_rfl) (λ_=>rfl) (λ_ h=>by cases h) (aio hb) ⟨_,TO b⟩ 64 (by decide) a e ha
variable{d:Dc}{s:fW}{x:Af}(hs:s.bs=some x)(hx:x.length<1000000000)(h0:¬s.id=0)
include hs hx h0
attribute[local go_sem] bZ ro Ew CR A5
theorem agu(hp:gd s.id=3):N5 d s x:=by
 refine bA aU ?_;have hst:dh d s=m6 d 3 x:=by unfold dh;rw[ak h0,hs,db,hp]
 rw[hst];unfold m6 pE ry;simp only[Int.reduceEq,aN,bB];have cp:=Cm s.id;rw[hp]at cp;have cr:=D0 x hx;simp only[go_sem,aU,aA h0];refine aa (cp) ?_;refine qW cr rfl (by simp[go_sem]) 905 (by decide) (by simp only[go_sem]) ?_;simp only[go_sem];have cl:=afQ hx 0 0 (cm _);have hl:=LD x (Eo x) (64:Nat) 0 0;generalize pL x (Eo x) (64:Nat) 0 0=y at*;obtain⟨l,a1,e1⟩:=y;simp only at cl hl⊢;refine dX (σ2:=[(905,ro true x ((0:Nat):Int) 0)]) (r3:=.ms 900 3 0 l.length) (σ3:=[(905,ro true x a1 e1),(900,CR l)]) cl [(1000,905)] [900] rfl rfl rfl rfl ?_ ?_ ?_ ?_
 .simp only[go_sem];simp
 .simp only[go_sem];simp[sb,bw,i5,ah]
 .simp only[go_sem];simp[ah]
 simp only[go_sem];refine ae (J_ true x a1 e1) ?_;rw[qw];simp only[go_sem];exact aJ (Wk.ren _ [(900,2000)] (λid h1 h2=>bw1 (by omega) (by omega))) [] (.int .i64 (sa x a1 e1)) [(1000,Ew 2000 2001 ⟨{d.m with fs:=l},3,d.codes,d.data⟩),(2000,CR l),(2001,A5 d.m.cs)] (by rfl) (by exact⟨rfl,rfl,rfl,trivial⟩) rfl ⟨rfl,rfl⟩
theorem adi(hf:d.m.fs.length<=9223372036854775807)(hp:gd s.id=11):N5 d s x:=by
 refine bA aU ?_;have hst:dh d s=m6 d 11 x:=by unfold dh;rw[ak h0,hs,db,hp]
 rw[hst];unfold m6 pE ry;simp only[Int.reduceEq,aN,bB];have cp:=Cm s.id;rw[hp]at cp;have cr:=D0 x hx;simp only[go_sem,aU,aA h0];refine aa (cp) ?_;refine qW cr rfl (by simp[go_sem]) 905 (by decide) (by simp only[go_sem]) ?_;simp only[go_sem];have cl:=abP hx ⟨d.m,11,d.codes,d.data⟩ 0 0 (cm _) hf;generalize pL x (uS x) (64:Nat) 0 0=y at*;obtain⟨l,a1,e1⟩:=y;simp only at cl⊢;refine dX (σ2:=[(1000,Ew 2000 2001 ⟨d.m,11,d.codes,d.data⟩),(905,ro true x ((0:Nat):Int) 0),(2000,CR d.m.fs),(2001,A5 d.m.cs)]) (r3:=.tup []) (σ3:=[(1000,Ew 2000 2001 ⟨{d.m with fs:=uA d.m.fs l},11,l.length,d.data⟩),(905,ro true x a1 e1),(2000,CR (uA d.m.fs l)),(2001,A5 d.m.cs)]) cl [(1001,905)] [2000,2001] rfl rfl rfl rfl ?_ ?_ ?_ ?_
 .simp only[go_sem];simp
 .simp only[go_sem];simp[sb,bw,i5,ah]
 .simp only[go_sem];simp[ah]
 simp only[go_sem];refine ae (J_ true x a1 e1) ?_;rw[qw];simp only[go_sem];exact eW [] (.int .i64 (sa x a1 e1)) [(1000,Ew 2000 2001 ⟨{d.m with fs:=uA d.m.fs l},11,l.length,d.data⟩),(2000,CR (uA d.m.fs l)),(2001,A5 d.m.cs)] ⟨rfl,rfl⟩
end
section
open Go Go.Mw
attribute[local go_sem] bZ ro Ew CR A5
def agt{d:Dc}{s:fW}{x:Af}(hs:s.bs=some x)(hx:x.length<1000000000)(h0:s.id=0):N5 d s x:=by
 refine jB (ic:=ku 22 aU.body) s9 (cF aU) (by rfl) rfl ?_;have hst:dh d s=if d.m.cs.length>=8\/x.length>4096 then(d,6)else(⟨{d.m with cs:=d.m.cs++[⟨d.place,s.name,x⟩]},d.place,d.codes,d.data⟩,0):=by
  unfold dh;rw[au h0,hs,db]
 rw[hst];by_cases h1:(d.m.cs.length:Int)>=8
 .rw[au (.inl (by omega))];simp only[go_sem,aU,dt h0,aK h1];exact eW [] (.int .i64 6) [(1000,Ew 2000 2001 d),(2000,CR d.m.fs),(2001,A5 d.m.cs)] ⟨rfl,rfl⟩
 by_cases h2:(x.length:Int)>4096
 .rw[au (.inr (by omega))];simp only[go_sem,aU,dt h0,aL h1,aK h2];exact eW [] (.int .i64 6) [(1000,Ew 2000 2001 d),(2000,CR d.m.fs),(2001,A5 d.m.cs)] ⟨rfl,rfl⟩
 rw[ak (by omega)];simp only[go_sem,aU,dt h0,aL h1,aL h2];refine Lb (x.map de) ?_ (by simp only[go_sem]) (by simp only[go_sem]) ?_
 .show qj 36 5 1 .nl (some (x.map de)) (λ_=>none)=_;unfold qj;simp only[bZ];rw[au (by omega)]
 simp only[go_sem];refine O8 (.ms 2001 3 0 (d.m.cs.length+1)) (.reb 2001 (A5 (d.m.cs++[⟨d.place,s.name,x⟩]))) ?_ (by simp only[go_sem]) (by simp only[go_sem]) (by simp only[go_sem];rfl) (by simp only[go_sem]) ?_
 .refine Eq.trans (show _=qj 39 67 3 (.ms 2001 3 0 d.m.cs.length) (some [yf ⟨d.place,s.name,x⟩]) (ah [(2001,A5 d.m.cs)]) from rfl) ?_;unfold qj;simp only[i0,cj,ah,aN];have hr:(A5 d.m.cs).rows.length=d.m.cs.length:=by simp[A5]
  rw[au (by omega),au ⟨trivial,rfl,rfl,rfl,trivial,by omega,by omega,by omega,rfl⟩];simp[A5,cI]
 simp only[go_sem];rw[show d.m.cs.length+1=(d.m.cs++[(⟨d.place,s.name,x⟩:Cu)]).length by simp];exact eW [] (.int .i64 0) [(1000,Ew 2000 2001 ⟨{d.m with cs:=d.m.cs++[⟨d.place,s.name,x⟩]},d.place,d.codes,d.data⟩),(2000,CR d.m.fs),(2001,A5 (d.m.cs++[⟨d.place,s.name,x⟩]))] ⟨rfl,rfl⟩
def Pf(d:Dc){s:fW}{x:Af}(hs:s.bs=some x)(hx:x.length<1000000000)(hf:d.m.fs.length<=9223372036854775807)(hid:s.id=0\/(1<=s.id/\s.id<=12)):N5 d s x:=by
 by_cases h0:s.id=0
 .exact agt hs hx h0
 obtain⟨p1,p2⟩:=DH s.id;have p3:=(Wh (id:=s.id) (by omega)).2;rcases Ea (id:=gd s.id) ⟨p3,p2⟩with p|p|p|p|p|p|p|p|p|p|p|p
 all_goals first|exact agw hs hx h0 (by decide) p|exact agu hs hx h0 p|exact adi hs hx h0 hf p
end
section
open Go Go.Mw
def KB:List AV:=[.nl,.nl,.nl,.nl,.nl,.nl,.nl,.bool false,.int .i64 0,.nl,.nl,.nl]
def qt:nlm KB (vl z6):=⟨.inr ⟨rfl,.inl ⟨2,rfl⟩⟩,.inr ⟨rfl,.inl ⟨13,rfl⟩⟩,.inr ⟨rfl,.inl ⟨3,rfl⟩⟩,.inr ⟨rfl,.inl ⟨4,rfl⟩⟩,.inr ⟨rfl,.inl ⟨3,rfl⟩⟩,.inr ⟨rfl,.inl ⟨3,rfl⟩⟩,.inr ⟨rfl,.inl ⟨3,rfl⟩⟩,.inl rfl,.inl rfl,.inr ⟨rfl,.inl ⟨5,rfl⟩⟩,.inr ⟨rfl,.inl ⟨4,rfl⟩⟩,.inr ⟨rfl,.inl ⟨3,rfl⟩⟩,trivial⟩
def abX:nlm [.nl,.nl,.nl,.nl,.nl,.nl,.nl,.bool false,.int .i64 0,.nl,.nl,.nl,.int .i64 0,.int .i64 0,.int .i64 (-1)] [.sl 2 (zO.m.ts.map my),.sl 13 (zO.m.ims.map pw),.ms 900 3 0 0,.sl 4 (zO.m.tbs.map rM),.sl 3 (zO.m.ms.map j7),.sl 3 (zO.m.gs.map wF),.sl 3 (zO.m.exs.map vx),.bool zO.m.hs,.int .i64 zO.m.st,.sl 5 (zO.m.els.map eF),.sl 4 (zO.m.ds.map iz),.ms 901 3 0 0,.int .i64 zO.place,.int .i64 (zO.codes:Nat),.int .i64 zO.data] :=
 ⟨.inr ⟨rfl,.inl ⟨2,rfl⟩⟩,.inr ⟨rfl,.inl ⟨13,rfl⟩⟩,.inr ⟨rfl,.inr ⟨900,3,rfl⟩⟩,.inr ⟨rfl,.inl ⟨4,rfl⟩⟩,.inr ⟨rfl,.inl ⟨3,rfl⟩⟩,.inr ⟨rfl,.inl ⟨3,rfl⟩⟩,.inr ⟨rfl,.inl ⟨3,rfl⟩⟩,.inl rfl,.inl rfl,.inr ⟨rfl,.inl ⟨5,rfl⟩⟩,.inr ⟨rfl,.inl ⟨4,rfl⟩⟩,.inr ⟨rfl,.inr ⟨901,3,rfl⟩⟩,.inl rfl,.inl rfl,.inl rfl,trivial⟩
def Y4{d:Dc}{p:Int}{b:Af}(h:d.m.fs.length<4294967296):(m6 d p b).1.m.fs.length<4294967296:=by
 unfold m6;by_cases h3:p=3
 .subst h3;simp only[Int.reduceEq,bB,aN];exact LD _ _ _ _ _
 by_cases h11:p=11
 .subst h11;simp only[Int.reduceEq,bB,aN];show(uA d.m.fs _).length<_;rw[dO];exact h
 rw[ak h3,ak h11]
 repeat' split
 all_goals exact h
def Ki{d:Dc}{s:fW}(h:d.m.fs.length<4294967296):(dh d s).1.m.fs.length<4294967296:=by
 unfold dh;split
 .split<;>exact h
 .exact Y4 h
def Yh{id:Int}{x:Af}(h:(gc id x).1=0):∃y,(gc id x).2.bs=some y:=by
 unfold gc at h⊢;by_cases h5:id=0
 .rw[au h5]at h⊢;by_cases h6:(ci true x 0 0).2.2≠0
  .rw[au h6]at h;exact absurd h h6
  .rw[ak h6];exact⟨_,rfl⟩
 .rw[ak h5];exact⟨_,rfl⟩
def X9{d:Af}{last:Int}(h:(bP d last).1=0):∃y,(bP d last).2.1.bs=some y:=by
 unfold bP at h⊢;by_cases h1:(ac d 0).toNat>12
 .rw[au h1]at h;cases h
 rw[ak h1]at h⊢;by_cases h2:(lm d).2.2≠0
 .rw[au h2]at h;exact absurd h h2
 rw[ak h2]at h⊢;by_cases h3:(ac d 0).toNat≠0/\gd (ac d 0).toNat<=last
 .rw[au h3]at h;cases h
 rw[ak h3]at h⊢;by_cases h4:(gc (ac d 0).toNat (gb (lm d).1)).1≠0
 .rw[au h4]at h;exact absurd h h4
 rw[ak h4];exact Yh (ve.1 h4)
def NS:∀(f:Nat)(d:Af)(last:Int)(acc:List fW),(∀s∈acc,∃y,s.bs=some y)->∀s∈(pp f d last acc).2,∃y,s.bs=some y
 | 0,d,last,acc,h=>h
 | f+1,d,last,acc,h=>by
  rw[pp];by_cases h0:d.length=0
  .rw[au h0];exact h
  rw[ak h0];by_cases h1:(bP d last).1≠0
  .rw[au h1];intro s hs;cases hs
  rw[ak h1];refine NS f _ _ _ λs hs=>?_;rcases f7.1 hs with q|q
  .exact h s q
  .simp only[jJ]at q;subst q;exact X9 (ve.1 h1)
def U6(b:Af):∀s∈(oy b).2,∃y,s.bs=some y:=by
 unfold oy;split
 .intro s hs;cases hs
 split
 .intro s hs;cases hs
 .exact NS _ _ _ _ λs hs=>by cases hs
def NU:∀(f:Nat)(d:Af)(last:Int)(acc:List fW),(pp f d last acc).2.length<=acc.length+f
 | 0,d,last,acc=>a_ _
 | f+1,d,last,acc=>by
  rw[pp];split
  .exact Nat.le_add_right _ _
  split
  .exact cm _
  .have:=NU f (bP d last).2.2 (max last (gd (bP d last).2.1.id)) (acc++[(bP d last).2.1]);rw[cP,dK]at this;omega
def U7(b:Af):(oy b).2.length<=b.length:=by
 unfold oy;split
 .exact cm _
 split
 .exact cm _
 .have:=NU (b.drop 8).length (b.drop 8) 0 [];rw[jK]at this;simp only[cj]at this;unfold Cn;rw[jK];omega
attribute[local go_sem] bZ Ew CR A5
def Jc(b:Af)(hb:b.length<=9223372036854775807):aj pg 15 [.sl 1 (b.map de)] (.tup [gy (oY b).1,.int .i64 (oY b).2]):=by
 refine aC mA ?_;by_cases h1:(b.length:Int)>262144
 .have r:oY b=(z6,6):=by unfold oY;rw[au (by omega)]
  rw[r];simp only[go_sem,mA,aK h1];exact bN (Wk.nlm _ 2 (r:=KB) (r':=vl z6) (by rfl) qt) [] (by first|rfl|simp only[go_sem]) rfl
 have c1:=Y1 b (by omega);simp only[go_sem,mA,aL h1];refine ab (c1) ?_;by_cases h2:(oy b).1=0;rotate_left
 .have r:oY b=(z6,(oy b).1):=by unfold oY;rw[ak (by omega),au h2]
  rw[r];simp only[go_sem,bj h2];exact bN (Wk.nlm _ 2 (r:=KB) (r':=vl z6) (by rfl) qt) [] (by first|rfl|simp only[go_sem]) rfl
 have r:oY b=xk (oy b).2 zO:=by unfold oY;rw[ak (by omega),ak (by simp[h2])]
 have hsz:=U8 b;rw[r];simp only[go_sem,aI h2];have hbs:=U6 b;have hLn:=U7 b;generalize (oy b).2=L at*;obtain⟨R,hR⟩:∃R,xk L zO=R:=⟨_,rfl⟩
 rw[hR];refine aq (λq:Nat×Dc=>⟨[(27,.int .i64 q.1),(26,.int .i64 L.length),(25,.sl 3 (L.map pG)),(6,.mp 24 15 0 0),(2,.mp 2 12 0 0)],[(2,⟨33,12,[[.nl,.nl,.nl,.nl,.nl,.nl,.nl,.bool false,.int .i64 0,.nl,.nl,.nl]],true⟩),(24,Ew 900 901 q.2),(900,CR q.2.m.fs),(901,A5 q.2.m.cs)]⟩) (λq=>q.1<=L.length/\xk (L.drop q.1) q.2=R/\q.2.m.fs.length<4294967296) (λq=>L.length-q.1) (0,zO) ⟨cm _,hR,by decide⟩
  ((((Wk.new0 _ 900 3 61 (.inl (by decide))).trans (Wk.new0 _ 901 3 67 (.inl (by decide)))).trans (Wk.nlm _ 24 (r:=[.nl,.nl,.nl,.nl,.nl,.nl,.nl,.bool false,.int .i64 0,.nl,.nl,.nl,.int .i64 0,.int .i64 0,.int .i64 (-1)]) (by rfl) abX)).trans (Wk.of ?_ ?_)) ?_
 .simp only[go_sem];try simp
 .simp only[go_sem];try simp[go_sem,zO,z6]
 rintro⟨i,d⟩ ⟨hi,hD,hfs⟩;simp only at hi hD hfs;by_cases q1:(i:Int)<(L.length:Int);rotate_left
 .obtain rfl:i=L.length:=by omega
  rw[List.drop_length,xk]at hD;by_cases c1:(d.codes:Int)=(d.m.fs.length:Int);rotate_left
  .rw[au (.inl c1)]at hD;subst hD;simp only[go_sem,aL q1,bj c1];exact bN (Wk.nlm _ 2 (r:=KB) (r':=vl z6) (by rfl) qt) [] (by first|rfl|simp only[go_sem]) rfl
  by_cases c2:d.data>=0
  .by_cases c3:d.data=(d.m.ds.length:Int)
   .rw[ak (by rintro(q|q);exact q c1;exact q.2 c3)]at hD;subst hD;simp only[go_sem,aL q1,aI c1,aK c2,aI c3];refine aB [900,901] ?_ rfl;simp only[go_sem,a_,gy,b_];rw[cI (by simp),cI (by simp)]
   .rw[au (.inr ⟨c2,c3⟩)]at hD;subst hD;simp only[go_sem,aL q1,aI c1,aK c2,bj c3];exact bN (Wk.nlm _ 2 (r:=KB) (r':=vl z6) (by rfl) qt) [] (by first|rfl|simp only[go_sem]) rfl
  .rw[ak (by rintro(q|q);exact q c1;exact c2 q.1)]at hD;subst hD;simp only[go_sem,aL q1,aI c1,aL c2];refine aB [900,901] ?_ rfl;simp only[go_sem,a_,gy,b_];rw[cI (by simp),cI (by simp)]
 have hi':i<L.length:=by omega
 have e8:=ey hi' (by omega);have hin:ac L i∈L:=by rw[bv hi'];exact tL hi'
 obtain⟨x,hx⟩:=hbs _ hin;obtain⟨z1,z2⟩:=hsz _ hin;rw[hx,db]at z1;rw[r9 hi',xk]at hD;obtain⟨s,hsL⟩:∃s,ac L i=s:=⟨_,rfl⟩
 rw[hsL]at hx z2 hD;have cs:=Pf d hx (by omega) (by omega) z2;have hf2:=Ki (s:=s) hfs;have hsx:Kf s.bs = .sl 1 (x.map de):=by rw[hx];rfl
 unfold N5 at cs;generalize dh d s=y at*;obtain⟨d',e⟩:=y;simp only at cs hD hf2;simp only[go_sem,aK q1,hsL,hsx];refine⟨by omega,q1,?_⟩;refine dX (σ2:=[(24,Ew 900 901 d),(900,CR d.m.fs),(901,A5 d.m.cs)]) (r3:=.int .i64 e) (σ3:=[(24,Ew 900 901 d'),(900,CR d'.m.fs),(901,A5 d'.m.cs)]) cs [(1000,24),(2000,900),(2001,901)] [900,901] rfl rfl rfl rfl ?_ ?_ ?_ ?_
 .simp only[go_sem];simp
 .simp only[go_sem];simp[sb,bw,i5,ah]
 .simp only[go_sem];simp[ah]
 by_cases he:e=0;rotate_left
 .rw[au he]at hD;subst hD;simp only[go_sem,bj he];exact bN (Wk.nlm _ 2 (r:=KB) (r':=vl z6) (by rfl) qt) [] (by first|rfl|simp only[go_sem]) rfl
 rw[ak (by simp[he])]at hD;simp only[go_sem,aI he];refine aF (i+1,d') ⟨show i+1<=L.length by omega,hD,hf2⟩ (show L.length-(i+1)<L.length-i by omega) (Wk.of ?_ ?_)
 .simp only[go_sem,e8];try simp
 .simp only[go_sem];try simp[go_sem]
end
open Go Go.Mw
def Inc:Int->List fW->Prop
 | _,[]=>True
 | last,s::r=>(s.id=0\/last<gd s.id)/\Inc (max last (gd s.id)) r
def TX{d:Af}{last:Int}(h:(bP d last).1=0):(bP d last).2.1.id=0\/last<gd (bP d last).2.1.id:=by
 unfold bP at h⊢;by_cases h1:(ac d 0).toNat>12
 .rw[au h1]at h;cases h
 rw[ak h1]at h⊢;by_cases h2:(lm d).2.2≠0
 .rw[au h2]at h;exact absurd h h2
 rw[ak h2]at h⊢;by_cases h3:(ac d 0).toNat≠0/\gd (ac d 0).toNat<=last
 .rw[au h3]at h;cases h
 rw[ak h3]at h⊢;by_cases h4:(gc (ac d 0).toNat (gb (lm d).1)).1≠0
 .rw[au h4]at h;exact absurd h h4
 rw[ak h4];simp only;unfold gc at h4⊢;by_cases h5:((ac d 0).toNat:Int)=0
 .rw[au h5]at h4⊢;by_cases h6:(ci true (gb (lm d).1) 0 0).2.2≠0
  .rw[au h6]at h4;exact absurd h6 h4
  .rw[ak h6];exact .inl rfl
 .rw[ak h5];exact .inr (by simp only;omega)
def Kh:∀(f:Nat)(d:Af)(last:Int)(acc:List fW),(pp f d last acc).1=0->∃l,(pp f d last acc).2=acc++l/\Inc last l
 | 0,d,last,acc,_=>⟨[],(m_ _).symm,trivial⟩
 | f+1,d,last,acc,h=>by
  rw[pp]at h⊢;by_cases h0:d.length=0
  .rw[au h0];exact⟨[],(m_ _).symm,trivial⟩
  rw[ak h0]at h⊢;by_cases h1:(bP d last).1≠0
  .rw[au h1]at h;exact absurd h h1
  rw[ak h1]at h⊢;obtain⟨l,hl,hi⟩:=Kh f _ _ _ h;exact⟨(bP d last).2.1::l,by rw[hl,xP];rfl,TX (ve.1 h1),hi⟩
def Y8{b:Af}(h:(oy b).1=0):Inc 0 (oy b).2:=by
 unfold oy at h⊢;by_cases h1:b.length>262144
 .rw[au h1]at h;cases h
 rw[ak h1]at h⊢;by_cases h2:b.length<8\/b.take 8≠Il
 .rw[au h2]at h;cases h
 rw[ak h2]at h⊢;obtain⟨l,hl,hi⟩:=Kh _ _ _ _ h;unfold Cn;rw[hl];exact hi
def Y3(d:Dc)(p:Int)(b:Af):(m6 d p b).1.m.cs=d.m.cs:=by
 unfold m6;by_cases h1:p=1
 .rw[au h1];rfl
 rw[ak h1];by_cases h2:p=2
 .rw[au h2];rfl
 rw[ak h2];by_cases h3:p=3
 .rw[au h3];rfl
 rw[ak h3];by_cases h4:p=4
 .rw[au h4];rfl
 rw[ak h4];by_cases h5:p=5
 .rw[au h5];rfl
 rw[ak h5];by_cases h6:p=6
 .rw[au h6];rfl
 rw[ak h6];by_cases h7:p=7
 .rw[au h7];rfl
 rw[ak h7];by_cases h8:p=8
 .rw[au h8];rfl
 rw[ak h8];by_cases h9:p=9
 .rw[au h9];rfl
 rw[ak h9];by_cases h10:p=10
 .rw[au h10];rfl
 rw[ak h10];by_cases h11:p=11
 .rw[au h11];rfl
 rw[ak h11];rfl
structure Lat(d:Dc):Prop where
 pl:0<=d.place
 ts:d.place<1->d.m.ts=[]
 ims:d.place<2->d.m.ims=[]
 fs:d.place<3->d.m.fs=[]
 tbs:d.place<4->d.m.tbs=[]
 ms:d.place<5->d.m.ms=[]
 gs:d.place<6->d.m.gs=[]
 exs:d.place<7->d.m.exs=[]
 els:d.place<9->d.m.els=[]
 ds:d.place<12->d.m.ds=[]
def aec:Lat zO:=⟨Int.le_refl _,λ_=>rfl,λ_=>rfl,λ_=>rfl,λ_=>rfl,λ_=>rfl,λ_=>rfl,λ_=>rfl,λ_=>rfl,λ_=>rfl⟩
def UZ{d:Dc}{p:Int}{b:Af}(h:Lat d)(hp:d.place<p)(h12:p<=12):Lat (m6 d p b).1:=by
 have hpl:=h.pl;have big:∀{P:Prop},(p<1->P):=λq=>by omega
 rcases(show p=1\/p=2\/p=3\/p=4\/p=5\/p=6\/p=7\/p=8\/p=9\/p=10\/p=11\/p=12 by omega)with rfl|rfl|rfl|rfl|rfl|rfl|rfl|rfl|rfl|rfl|rfl|rfl
 all_goals
  unfold m6 pE;simp only[Int.reduceEq,aN,bB];refine⟨(by dsimp only;decide),?_,?_,?_,?_,?_,?_,?_,?_,?_⟩
  all_goals
   intro hq;simp only at hq⊢
   first
    | exact absurd hq (by decide)
    | exact h.ts (by omega)
    | exact h.ims (by omega)
    | exact h.fs (by omega)
    | exact h.tbs (by omega)
    | exact h.ms (by omega)
    | exact h.gs (by omega)
    | exact h.exs (by omega)
    | exact h.els (by omega)
    | exact h.ds (by omega)
def PW{d:Dc}{s:fW}(h:Lat d)(hs:s.id=0\/d.place<gd s.id):Lat (dh d s).1/\((dh d s).2=0->(dh d s).1.place=max d.place (gd s.id)):=by
 have hpl:=h.pl;unfold dh;by_cases h0:s.id=0
 .rw[au h0,h0,show gd 0=0 from rfl,Int.max_eq_left hpl];by_cases h1:d.m.cs.length>=8\/(gb s.bs).length>4096
  .rw[au h1];exact⟨h,λ_=>rfl⟩
  .rw[ak h1];exact⟨⟨h.pl,h.ts,h.ims,h.fs,h.tbs,h.ms,h.gs,h.exs,h.els,h.ds⟩,λ_=>rfl⟩
 .rw[ak h0];have h2:d.place<gd s.id:=by
   rcases hs with q|q
   .exact absurd q h0
   .exact q
  refine⟨UZ h h2 (DH s.id).2,λ_=>?_⟩;rw[NP,Int.max_eq_right (by omega)]
def T3{d:Dc}{s:fW}{x:Af}(hx:x.length<1000000000)(h:Lat d)(hs:1<=s.id/\s.id<=12)(hp:d.place<gd s.id)(hf:d.m.fs.length<4294967296):oV x d (gd s.id):=by
 rcases Ea hs with q|q|q|q|q|q|q|q|q|q|q|q
 all_goals rw[q]at hp⊢
 .exact acp hx d (h.ts hp)
 .exact acq hx d (h.ims hp)
 .exact acr hx d (h.fs hp)
 .exact acs hx d (h.tbs hp)
 .exact act hx d (h.ms hp)
 .exact acu hx d (h.gs hp)
 .exact acv hx d (h.exs hp)
 .exact acw hx d
 .exact acx hx d (h.els hp)
 .exact Yj hx d hf
 .exact Yk hx d (h.ds hp)
 .exact Yi hx d
section
def abY:nlm [.nl,.nl,.nl,.nl,.nl,.nl,.nl,.bool false,.int .i64 0,.nl,.nl,.nl,.int .i64 0,.int .i64 (-1),.int .i64 0,.int .i64 0,.int .i64 0] (zH zO.m 0 (-1) 0 0 0) :=
 ⟨.inr ⟨rfl,.inl ⟨2,rfl⟩⟩,.inr ⟨rfl,.inl ⟨13,rfl⟩⟩,.inr ⟨rfl,.inl ⟨3,rfl⟩⟩,.inr ⟨rfl,.inl ⟨4,rfl⟩⟩,.inr ⟨rfl,.inl ⟨3,rfl⟩⟩,.inr ⟨rfl,.inl ⟨3,rfl⟩⟩,.inr ⟨rfl,.inl ⟨3,rfl⟩⟩,.inl rfl,.inl rfl,.inr ⟨rfl,.inl ⟨5,rfl⟩⟩,.inr ⟨rfl,.inl ⟨4,rfl⟩⟩,.inr ⟨rfl,.inl ⟨3,rfl⟩⟩,.inl rfl,.inl rfl,.inl rfl,.inl rfl,.inl rfl,trivial⟩
attribute[local go_sem] bZ qH vl zH KB
def Uo(b:Af)(hb:b.length<100000000):aj pg 20 [.sl 1 (b.map de)] (.tup [gy (oY b).1,.int .i64 (oY b).2]):=by
 refine aC oT ?_;by_cases h1:(b.length:Int)>262144
 .have r:oY b=(z6,6):=by unfold oY;rw[au (by omega)]
  rw[r];simp only[go_sem,oT,aK h1];exact bN (Wk.nlm _ 2 (r:=KB) (r':=vl z6) (by rfl) qt) [] (by first|rfl|simp only[go_sem]) rfl
 have c1:=YK b hb;simp only[go_sem,oT,aL h1];refine ab (c1) ?_;by_cases h2:(oy b).1=0;rotate_left
 .have r:oY b=(z6,(oy b).1):=by unfold oY;rw[ak (by omega),au h2]
  rw[r];simp only[go_sem,bj h2];exact bN (Wk.nlm _ 2 (r:=KB) (r':=vl z6) (by rfl) qt) [] (by first|rfl|simp only[go_sem]) rfl
 have r:oY b=xk (oy b).2 zO:=by unfold oY;rw[ak (by omega),ak (by simp[h2])]
 have hsz:=U8 b;have hinc:=Y8 h2;rw[r];simp only[go_sem,aI h2];have hbs:=U6 b;have hLn:=U7 b;generalize (oy b).2=L at*;obtain⟨R,hR⟩:∃R,xk L zO=R:=⟨_,rfl⟩
 rw[hR];refine aq (λq:Nat×Dc=>⟨[(7,.int .i64 q.1),(6,.mp 6 17 0 0),(4,.sl 3 (L.map pG)),(3,.int .i64 0),(2,.mp 2 12 0 0)],[(2,⟨33,12,[KB],true⟩),(6,⟨104,17,[zH q.2.m q.2.m.fs.length q.2.data (q.2.codes:Nat) q.2.place 0],true⟩)]⟩) (λq=>q.1<=L.length/\xk (L.drop q.1) q.2=R/\q.2.m.fs.length<4294967296/\Lat q.2/\Inc q.2.place (L.drop q.1)/\q.2.m.cs.length<=q.1) (λq=>L.length-q.1) (0,zO) ⟨cm _,hR,by decide,aec,hinc,a_ _⟩
  ((Wk.nlm _ 6 (r:=[.nl,.nl,.nl,.nl,.nl,.nl,.nl,.bool false,.int .i64 0,.nl,.nl,.nl,.int .i64 0,.int .i64 (-1),.int .i64 0,.int .i64 0,.int .i64 0]) (by rfl) abY).trans (Wk.of ?_ ?_)) ?_
 .simp only[go_sem];try simp
 .simp only[go_sem];try simp[go_sem,zO,z6]
 rintro⟨i,d⟩ ⟨hi,hD,hfs,hlat,hin,hcs⟩;simp only at hi hD hfs hlat hin hcs;by_cases q1:(i:Int)<(L.length:Int);rotate_left
 .obtain rfl:i=L.length:=by omega
  rw[List.drop_length,xk]at hD;by_cases c1:(d.codes:Int)=(d.m.fs.length:Int);rotate_left
  .rw[au (.inl c1)]at hD;subst hD;simp only[go_sem,aL q1,bj c1];exact bN (Wk.nlm _ 2 (r:=KB) (r':=vl z6) (by rfl) qt) [] (by first|rfl|simp only[go_sem]) rfl
  by_cases c2:d.data>=0
  .by_cases c3:d.data=(d.m.ds.length:Int)
   .rw[ak (by rintro(q|q);exact q c1;exact q.2 c3)]at hD;subst hD;simp only[go_sem,aL q1,aI c1,aK c2,aI c3];exact aB [] (by simp only[go_sem,gy]) rfl
   .rw[au (.inr ⟨c2,c3⟩)]at hD;subst hD;simp only[go_sem,aL q1,aI c1,aK c2,bj c3];exact bN (Wk.nlm _ 2 (r:=KB) (r':=vl z6) (by rfl) qt) [] (by first|rfl|simp only[go_sem]) rfl
  .rw[ak (by rintro(q|q);exact q c1;exact c2 q.1)]at hD;subst hD;simp only[go_sem,aL q1,aI c1,aL c2];exact aB [] (by simp only[go_sem,gy]) rfl
 have hi':i<L.length:=by omega
 have e8:=ey hi' (by omega);have hmem:ac L i∈L:=by rw[bv hi'];exact tL hi'
 obtain⟨x,hx⟩:=hbs _ hmem;obtain⟨z1,z2⟩:=hsz _ hmem;rw[hx,db]at z1;rw[r9 hi',xk]at hD;rw[r9 hi']at hin;obtain⟨hin1,hin2⟩:=hin;obtain⟨s,hsL⟩:∃s,ac L i=s:=⟨_,rfl⟩
 rw[hsL]at hx z2 hD hin1 hin2;have cs:=L0 d s x hx (by omega) (λh0=>T3 (by omega) hlat (by rcases z2 with q|q;exact absurd q h0;exact q) (by rcases hin1 with q|q;exact absurd q h0;exact q) hfs) (by omega);have hf2:=Ki (s:=s) hfs;have hl2:=PW hlat hin1;have hc2:(dh d s).1.m.cs.length<=i+1:=by
  unfold dh;split
  .split
   .exact Nat.le_succ_of_le hcs
   .simp;omega
  .rw[Y3];exact Nat.le_succ_of_le hcs
 have hsx:Kf s.bs = .sl 1 (x.map de):=by rw[hx];rfl
 generalize dh d s=y at*;obtain⟨d',e⟩:=y;simp only at cs hD hf2 hl2 hc2;unfold rd_ Ue at cs;simp only[go_sem,aK q1,hsL,hsx];refine⟨by omega,q1,?_⟩;refine jZ cs ?_;rintro⟨⟨m',fu,da,co⟩,pl⟩ hq
 try simp only at hq
 by_cases he:e=0;rotate_left
 .rw[au he]at hD;subst hD;simp only[go_sem,bj he];exact bN (Wk.nlm _ 2 (r:=KB) (r':=vl z6) (by rfl) qt) [] (by first|rfl|simp only[go_sem]) rfl
 have hq:=hq he;simp only[vf]at hq;obtain⟨⟨rfl,rfl,rfl,rfl⟩,rfl⟩:=hq;rw[ak (by simp[he])]at hD;subst he;simp only[go_sem,e8];rw[<-hl2.2 rfl]at hin2;refine aF (i+1,d') ⟨show i+1<=L.length by omega,hD,hf2,hl2.1,hin2,hc2⟩ (show L.length-(i+1)<L.length-i by omega) (Wk.of ?_ ?_)
 .simp only[go_sem,e8];try simp
 .simp only[go_sem];try simp[go_sem]
end
section
attribute[local go_sem] bZ b_
def GK:Md:=⟨[⟨[],[]⟩],[],[⟨0,[],[⟨11,0,0,0,0,0,0,[],[]⟩]⟩],[],[],[],[],false,0,[],[],[]⟩
def RE:List AV:=[.sl 2 [[.nl,.nl]],.nl,.sl 3 [[.int .i64 0,.nl,.sl 9 [[.int .i64 11,.int .i64 0,.int .i64 0,.int .u64 0,.int .i64 0,.int .i64 0,.int .i64 0,.nl,.nl]]]],.nl,.nl,.nl,.nl,.bool false,.int .i64 0,.nl,.nl,.nl]
def byB:Af:=[0,97,115,109,1,0,0,0,1,4,1,96,0,0,3,2,1,0,10,4,1,2,0,11]
def ah7:nld (.agg RE) (gy GK) :=
 .inr ⟨_,_,rfl,rfl,Ht ⟨⟨.nl _,.nl _,trivial⟩,trivial⟩,.nl _,Ht ⟨⟨.rfl _,.nl _,Ht ⟨⟨.rfl _,.rfl _,.rfl _,.rfl _,.rfl _,.rfl _,.rfl _,.nl _,.nl _,trivial⟩,trivial⟩,trivial⟩,trivial⟩,.nl _,.nl _,.nl _,.nl _,.rfl _,.rfl _,.nl _,.nl _,.nl _,trivial⟩
def ah6:nld (.agg KB) (gy z6):=.inr ⟨_,_,rfl,rfl,.nl _,.nl _,.nl _,.nl _,.nl _,.nl _,.nl _,.rfl _,.rfl _,.nl _,.nl _,.nl _,trivial⟩
def agz:U4 GK:=⟨⟨by decide,λx hx=>by
  simp only[GK,jJ]at hx;subst hx;exact⟨by decide,by decide⟩⟩,by decide,⟨by decide,λx hx=>by
  simp only[GK,jJ]at hx;subst hx;refine⟨by decide,by decide,λy hy=>?_⟩;simp only[jJ]at hy;subst hy;exact⟨by decide,by decide,by decide⟩⟩,by decide,by decide,⟨by decide,λx h=>by cases h⟩,by decide,⟨by decide,λx h=>by cases h⟩,⟨by decide,λx h=>by cases h⟩,⟨by decide,λx h=>by cases h⟩⟩
def agy:U4 z6:=⟨⟨by decide,λx h=>by cases h⟩,by decide,⟨by decide,λx h=>by cases h⟩,by decide,by decide,⟨by decide,λx h=>by cases h⟩,by decide,⟨by decide,λx h=>by cases h⟩,⟨by decide,λx h=>by cases h⟩,⟨by decide,λx h=>by cases h⟩⟩
def aft:TJ GK:=⟨λx hx=>by
  simp only[GK,jJ]at hx;subst hx;intro y hy;simp only[jJ]at hy;subst hy;exact⟨by decide,by decide⟩,(λx h=>by cases h),(λx h=>by cases h),(λx h=>by cases h)⟩
def ah8:TJ z6:=⟨(λx h=>by cases h),(λx h=>by cases h),(λx h=>by cases h),(λx h=>by cases h)⟩
def aeN:qZ z6=(0,Il):=by decide +kernel
def ZA:qZ GK=(0,byB):=by decide +kernel
def aeF:oY byB=(GK,0):=by kernel_rfl
def PM:aj pg 11 [] (.bool true):=by
 refine aC vY ?_;have c1:aj pg 12 [.agg KB] (.tup [.sl 1 (Il.map de),.int .i64 0]):=by
  have c:=De agy ah8 (by decide +kernel);rw[aeN]at c;exact r7 c ⟨ah6,trivial⟩
 have c2:aj pg 12 [.agg RE] (.tup [.sl 1 (byB.map de),.int .i64 0]):=by
  have c:=De agz aft (by decide +kernel);rw[ZA]at c;exact r7 c ⟨ah7,trivial⟩
 have c3:=Jc byB (by decide);rw[aeF]at c3;have c4:=XG agz aft (by decide +kernel);rw[ZA]at c4;simp only[KB]at c1;simp only[RE]at c2;simp only[go_sem,vY];refine aa (c1) ?_;refine⟨_,Wk.frzs [14,16] _,?_⟩;simp only[Al];simp only[go_sem,a_,List.take_succ_cons,rI];refine yc [18] ?_ c2 (by simp[go_sem]) ?_
 .simp only[go_sem,a_]
  try rfl
 simp only[go_sem];refine ab (c3) ?_;simp only[go_sem,gy,show(Il==[0,97,115,109,1,0,0,0])=true from rfl,show(byB==Il++[1,4,1,96,0,0,3,2,1,0,10,4,1,2,0,11])=true from rfl,show(((GK.fs.length:Nat):Int)==1)=true from rfl];refine⟨by decide,?_⟩;simp only[gy,b_]at c4;refine aa (c4) ?_;exact an
end
def Rr{b:Af}(h:(oY b).2=0):IJ b = .ok (oY b).1:=by
 rcases Rs b with⟨_,h2⟩|⟨_,h2,_⟩
 .exact h2
 .exact absurd h h2
def Jh:maxLen<=9223372036854775807:=by decide
