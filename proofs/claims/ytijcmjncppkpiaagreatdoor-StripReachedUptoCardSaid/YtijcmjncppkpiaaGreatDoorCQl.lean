import Derived.Test.YtijcmjncppkpiaaGreatDoorCQk
import Derived.Test.YtijcmjncppkpiaaGreatDoorCQj
set_option linter.all false
set_option maxRecDepth 100000
set_option maxHeartbeats 40000000
namespace Go.Proofs.YtijcmjncppkpiaaGreatDoor
section
open Go Go.Mw
attribute[local go_sem] bP bn aU cQ bT cC cj df dn fa dA ez HS If
end
section
open Go Go.Mw
attribute[local go_sem] bP bn aU cQ bT cC cj df dn fa dA ez HS If
end
section
open Go Go.Mw
attribute[local go_sem] bP bn aU cQ bT cC cj df dn fa dA ez HS If
end
section
open Go Go.Mw
attribute[local go_sem] bP bn aU cQ bT cC cj df dn fa dA ez HS If
end
section
open Go Go.Mw
attribute[local go_sem] bP bn aU cQ bT cC cj df dn fa dA ez HS If
end
section
open Go Go.Mw
attribute[local go_sem] bP bn aU cQ bT cC cj df dn fa dA ez HS If
end
section
open Go Go.Mw
attribute[local go_sem] bP bn aU cQ bT cC cj df dn fa dA ez HS If
end
section
open Go Go.Mw
def elB(x:El):Int:=if x.mo<0\/x.mo>2\/(x.mo≠0/\(x.tb≠0\/x.o.length>0))then 1 else if En x.tb=false then 11 else if U4 x.ty=false then 12 else if x.it.length>256 then 6 else 0
attribute[local go_sem] bP bn aU cQ bT cC cj df dn fa dA ez HS If
end
section
open Go Go.Mw
def elO(x:El):aj:=⟨109,5,[rK x],true⟩
attribute[local go_sem] elO bP bn aU cQ bT cC cj df dn fa dA ez HS If
end
open Go Go.Mw
def okR(P:a_->Bool)(l:List a_):Prop:=l.length<=2048/\∀x∈l,P x=true/\x.lb.length<=64
def aeg(P:a_->Bool)(x:El):Prop:=elB x=0/\okR P x.o/\∀l∈x.it,okR P l
def aef(P:a_->Bool)(x:Da):Prop:=¬(x.mo≠0/\(x.mo≠1\/x.me≠0\/x.o.length>0))/\En x.me=true/\x.b.length<=4096/\okR P x.o
structure okM(P:a_->Bool)(m:Md):Prop where
 ts:m.ts.length<=64/\∀x∈m.ts,SH x=0
 ims:m.ims.length<=32/\∀x∈m.ims,imE x=0
 fs:(m.fs.length:Int)<=64-(gj 0 m.ims:Nat)/\∀x∈m.fs,Sr x=0
 tbs:(m.tbs.length:Int)<=4-(gj 1 m.ims:Nat)/\∀x∈m.tbs,Z0 x=0
 ms:(m.ms.length:Int)<=2-(gj 2 m.ims:Nat)/\∀x∈m.ms,YK x=0
 gs:(m.gs.length:Int)<=32-(gj 3 m.ims:Nat)/\∀x∈m.gs,CU x.g.v=true/\okR P x.i
 exs:m.exs.length<=64/\∀x∈m.exs,exE x=0
 st:m.hs=true->En m.st=true
 els:m.els.length<=16/\∀x∈m.els,aeg P x
 ds:m.ds.length<=16/\∀x∈m.ds,aef P x
 cs:m.cs.length<=8/\∀x∈m.cs,cuE x=0
 bo:∀x∈m.fs,okR P x.b
def vo(t:Int):UInt8×Bool:=if t=1 then(127,true)else if t=2 then(126,true)else if t=3 then(112,true)else if t=4 then(111,true)else(0,false)
def ov(b:UInt8):Int×Bool:=if b=127 then(1,true)else if b=126 then(2,true)else if b=112 then(3,true)else if b=111 then(4,true)else(0,false)
def z0:a_:=⟨0,0,0,0,0,0,0,[],[]⟩
def same(t:Int):List Int->Nat
 | []=>0
 | x::l=>if x=t then same t l+1 else 0
def IS(m:Md):List Int :=
 (if m.ts.length>0 then[1]else[])++(if m.ims.length>0 then[2]else[])++(if m.fs.length>0 then[3]else[])++(if m.tbs.length>0 then[4]else[]) ++
 (if m.ms.length>0 then[5]else[])++(if m.gs.length>0 then[6]else[])++(if m.exs.length>0 then[7]else[])++(if m.hs=true then[8]else[]) ++
 (if m.els.length>0 then[9]else[])++(if m.ds.length>0 then[10]else[])++(if m.fs.length>0 then[11]else[])++(if m.ds.length>0 then[12]else[])
def G6(op:Int):Bool:=op==2||op==3||op==4
def zS(l:List Int)(i:Nat)(op:Int):List Int:=if G6 op then l++[(i:Int)]else if op==11 then l.dropLast else l
def bE(B:List a_):Nat->List Int
 | 0=>[-1]
 | i+1=>zS (bE B i) i (ap B i).op
def yC(B:List a_)(i:Nat):Int:=ap (bE B i) ((bE B i).length-1)
def zR(B:List a_)(h:Int)(i:Nat):Bool:=(List.range i).any λj=>decide (h<j)&&(ap B j).op==5&&decide (0<(bE B j).length)&&yC B j==h
def dU(B:List a_)(i:Nat):Bool:=(ap B i).op==5&&(decide (yC B i<0)||(ap B (yC B i).toNat).op != 4||zR B (yC B i) i)
def jT(B:List a_)(i:Nat):Int:=if(bE B i).length=0 then 16 else if dU B i then 16 else if G6 (ap B i).op&&decide (32<=(bE B i).length)then 6 else 0
def zq(B:List a_):Nat->Nat->Int×Int
 | _,0=>if 0<(bE B B.length).length then(B.length,3)else(0,0)
 | i,k+1=>if jT B i≠0 then(i,jT B i)else zq B (i+1) k
def nchk(B:List a_):Int×Int:=zq B 0 B.length
def Ha(B:List a_):∀i,(bE B i).length<=i+1
 | 0=>by simp[bE]
 | i+1=>by
  have:=Ha B i;simp only[bE,zS];split
  .simp;omega
  .split
   .simp;omega
   .omega
def CJ{l:List Int}{k:Nat}(h:k<l.length-1):ap l.dropLast k=ap l k:=by
 rw[List.dropLast_eq_take,Hc h]
def vC(B:List a_):∀(i:Nat),(∀j,j<i->0<(bE B j).length)->∀k,k<(bE B i).length->(k=0/\ap (bE B i) k = -1)\/(0<k/\∃j:Nat,ap (bE B i) k=j/\j<i/\bE B j=(bE B i).take k/\G6 (ap B j).op=true)
 | 0,_,k,hk=>by
  simp only[bE,pq]at hk⊢;have:k=0:=by omega
  subst this;exact .inl ⟨rfl,rfl⟩
 | i+1,hne,k,hk=>by
  have ih:=vC B i (λj hj=>hne j (by omega)) k;have h0:=hne i (by omega);simp only[bE]at hk⊢;unfold zS at hk⊢;by_cases hb:G6 (ap B i).op
  .rw[aF hb]at hk⊢;simp only[ej,pq]at hk;by_cases h2:k<(bE B i).length
   .rw[DB h2,List.take_append_of_le_length (by omega)];rcases ih h2 with h|⟨h3,j,h4,h5,h6,h7⟩
    .exact .inl h
    .exact .inr ⟨h3,j,h4,by omega,h6,h7⟩
   .have hk2:k=(bE B i).length:=by omega
    subst hk2;exact .inr ⟨h0,i,Hb,by omega,by simp,hb⟩
  .rw[ax hb]at hk⊢;by_cases h11:((ap B i).op==11)=true
   .rw[aF h11]at hk⊢;simp only[List.length_dropLast]at hk;rw[CJ hk,List.dropLast_eq_take,List.take_take,HP (by omega)];rcases ih (by omega)with h|⟨h3,j,h4,h5,h6,h7⟩
    .exact .inl h
    .exact .inr ⟨h3,j,h4,by omega,h6,h7⟩
   .rw[ax h11]at hk⊢;rcases ih hk with h|⟨h3,j,h4,h5,h6,h7⟩
    .exact .inl h
    .exact .inr ⟨h3,j,h4,by omega,h6,h7⟩
def Dv{B:List a_}{i:Nat}(hne:∀j,j<i->0<(bE B j).length)(h0:0<(bE B i).length) :
  ((bE B i).length=1/\yC B i = -1)\/(1<(bE B i).length/\∃j:Nat,yC B i=j/\j<i/\bE B j=(bE B i).take ((bE B i).length-1)/\G6 (ap B j).op=true):=by
 rcases vC B i hne ((bE B i).length-1) (by omega)with⟨h1,h2⟩|⟨h1,h2⟩
 .exact .inl ⟨by omega,h2⟩
 .exact .inr ⟨by omega,h2⟩
def IP{B:List a_}{i:Nat}(hne:∀j,j<i->0<(bE B j).length)(h0:0<(bE B i).length):-1<=yC B i/\yC B i<i:=by
 rcases Dv hne h0 with⟨_,h⟩|⟨_,j,h,h2,_⟩<;>omega
def Ud{B:List a_}{i:Nat}(h:jT B i=0):0<(bE B i).length:=by
 unfold jT at h;split at h
 .cases h
 .omega
def PZ{B:List a_}{i:Nat}(h:jT B i=0):dU B i=false/\(G6 (ap B i).op&&decide (32<=(bE B i).length))=false:=by
 unfold jT at h;split at h
 .cases h
 split at h
 .cases h
 split at h
 .cases h
 .rename_i h1 h2 h3;exact⟨by simpa using h2,by simpa using h3⟩
def IL{B:List a_}{i k:Nat}(h:jT B i=0):zq B i (k+1)=zq B (i+1) k:=by simp[zq,h]
def IM{B:List a_}{i k:Nat}(h:jT B i≠0):zq B i (k+1)=((i:Int),jT B i):=by simp[zq,h]
def Du{B:List a_}{i:Nat}(hi:i<=B.length)(h:∀j,j<i->jT B j=0):nchk B=zq B i (B.length-i):=by
 induction i with
 | zero=>rfl
 | succ i ih =>
  rw[ih (by omega) (λj hj=>h j (by omega)),show B.length-i=(B.length-(i+1))+1 by omega,IL (h i (by omega))]
def Kb{B:List a_}{i:Nat}(hi:i<B.length)(h:∀j,j<i->jT B j=0)(he:jT B i≠0):nchk B=((i:Int),jT B i):=by
 rw[Du (by omega) h,show B.length-i=(B.length-(i+1))+1 by omega,IM he]
def PW{B:List a_}(h:∀j,j<B.length->jT B j=0):nchk B=if 0<(bE B B.length).length then((B.length:Int),3)else(0,0):=by
 rw[Du (aN _) h,zx];rfl
