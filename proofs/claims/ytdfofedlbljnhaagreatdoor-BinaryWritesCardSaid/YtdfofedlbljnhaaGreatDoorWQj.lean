import Derived.Test.YtdfofedlbljnhaaGreatDoorWQh
import Derived.Lib.DecodeN
set_option linter.all false
set_option maxRecDepth 100000
set_option maxHeartbeats 40000000
namespace Go.Proofs.YtdfofedlbljnhaaGreatDoor
section
open Go Go.Mw
def gdF(P:bj->Bool)(m:Md):Fa:=gr (λi x=>if jK x.g.v=false then ek 6 i 12 else BY P 6 i x.i) 0 m.gs (uZ 6 m.gs.length (32-(kM 3 m.ims:Nat)))
attribute[local go_sem] cU bC du cP df cC s8 gc ql
def agq(P:bj->Bool)(m:Md)(h:BZ m)(hP:∀y,Ow y->ac pg dq [di y] (.bool (P y))):ac pg BJ [cY m] (gc (gdF P m)):=by
 refine aD sT ?_;obtain⟨G,hG⟩:∃G,gdF P m=G:=⟨_,rfl⟩
 rw[hG];have hts:=h.gs;have ci:=sk m h.ims 3;have hle:=jq (xI 3 m.ims) h.ims;have w:IntKind.i64.wrap (32-(kM 3 m.ims:Int))=32-(kM 3 m.ims:Int):=wi (by omega) (by omega);have c0:=qw 6 m.gs.length (32-(kM 3 m.ims:Nat));simp only[gc]at c0;simp only[cY,bC]at ci;simp only[go_sem,sT,cY];refine aN ci (by simp[go_sem]) rfl ?_;simp only[go_sem,w];refine aN c0 (by simp[go_sem]) rfl ?_;simp only[go_sem];refine an (λq:Nat×Fa=>⟨[(4,.int .i64 q.1),(1,.mp 1 12 0 0),(3,.mp 3 4 0 0),(2,.mp 2 4 0 0)],[(3,ql q.2),(2,ql eB),(1,⟨33,12,[nZ m],true⟩)]⟩) (λq=>q.1<=m.gs.length/\G=gr (λi x=>if jK x.g.v=false then ek 6 i 12 else BY P 6 i x.i) q.1 (m.gs.drop q.1) q.2) (λq=>m.gs.length-q.1) (0,uZ 6 m.gs.length (32-(kM 3 m.ims:Nat))) ⟨cQ _,hG.symm⟩ (Wk.of ?_ ?_) ?_
 .simp only[go_sem];try simp
 .simp only[go_sem];try simp[eB]
 rintro⟨j,E⟩ ⟨hj,hx⟩;simp only at hj hx;by_cases h1:(j:Int)<(m.gs.length:Int);rotate_left
 .rw[dc (by omega)]at hx;obtain rfl:G=E:=hx;simp only[go_sem,aM h1];exact aq [] (by simp only[go_sem];try rfl) (by rfl)
 have hj':j<m.gs.length:=by omega
 have e8:=dv hj' (by omega);have cn:=eP E;simp only[gc]at cn;by_cases hE:E.c=0;rotate_left
 .rw[qZ E hE]at hx;obtain rfl:G=E:=hx;rw[aw hE]at cn;simp only[go_sem,aL h1];refine aa (cn) ?_;exact aq [] (by simp only[go_sem];try rfl) (by rfl)
 rw[be hE]at cn;rw[qY hj' E hE]at hx;have cm:=ZU (ah m.gs j).g;have ca:=rB 6 j 12;simp only[gc]at ca;have sx:=bN hts.2 hj';have cr:=AC P 6 j (ah m.gs j).i sx (λy hy=>hP y (sx.2 y hy));simp only[gc]at cr;simp only[go_sem,aL h1];refine aa (cn) ?_;refine⟨by omega,h1,?_⟩;refine aj (cm) ?_;cases v1:jK (ah m.gs j).g.v
 .rw[aF v1]at hx;simp only[go_sem];refine aa (ca) ?_;refine aE (j+1,ek 6 j 12) ⟨show j+1<=m.gs.length by omega,hx⟩ (show m.gs.length-(j+1)<m.gs.length-j by omega) (Wk.of ?_ ?_)
  .simp only[go_sem,e8];try simp
  .simp only[go_sem]
 .rw[au (by simp[v1])]at hx;simp only[go_sem];refine⟨by omega,h1,?_⟩;refine aa (cr) ?_;refine aE (j+1,BY P 6 j (ah m.gs j).i) ⟨show j+1<=m.gs.length by omega,hx⟩ (show m.gs.length-(j+1)<m.gs.length-j by omega) (Wk.of ?_ ?_)
  .simp only[go_sem,e8];try simp
  .simp only[go_sem]
def Y2(m:Md):Fa:=if m.hs=true/\nX m.st=false then ek 8 0 11 else eB
def YI(m:Md):ac pg Fc [cY m] (gc (Y2 m)):=by
 refine aD qg ?_;have c1:=rC m.st;have ca:=rB 8 0 11;simp only[gc]at ca;unfold Y2;cases hh:m.hs
 .rw[au (by simp)];simp only[go_sem,qg,cY,hh];exact aq [] (by simp only[go_sem];try rfl) (by rfl)
 .simp only[go_sem,qg,cY,hh];refine aj (c1) ?_;cases v:nX m.st
  .rw[aF (by simp)];simp only[go_sem];refine aa (ca) ?_;exact az
  .rw[au (by simp)];simp only[go_sem];exact aq [] (by simp only[go_sem];try rfl) (by rfl)
end
open Go Go.Mw
def bn(l:List UInt8)(i:Nat):Nat:=(ah l i).toNat
def AU(l:List UInt8)(i:Nat):bn l i<256:=(ah l i).toNat_lt
def G9(l:List UInt8):Nat×Nat:=Lib.decodeN l.length (bn l 0) (bn l 1) (bn l 2) (bn l 3)
def Nq{l:List UInt8}(h:bn l 0<128):G9 l=(bn l 0,1):=by
 unfold G9 Lib.decodeN;rw[aF h]
def ae5(l:List UInt8):1<=(G9 l).2/\(G9 l).2<=4:=by
 unfold G9 Lib.decodeN
 repeat' split
 all_goals simp only;omega
def brk(l:List UInt8):Prop:=3<=l.length/\bn l 0=239/\bn l 1=191/\bn l 2=189
def Ws{l:List UInt8}(h0:¬bn l 0<128):(G9 l).2=1↔((G9 l).1=65533/\¬brk l):=by
 have a1:=AU l 1;have a2:=AU l 2;have a3:=AU l 3;have a0:=AU l 0;unfold G9 brk Lib.decodeN;generalize bn l 0=b0 at*;generalize bn l 1=b1 at*;generalize bn l 2=b2 at*;generalize bn l 3=b3 at*;generalize l.length=n;rw[au h0];constructor
 .repeat' split
  all_goals
   intro hh
   first
   | (simp at hh;done)
   | (refine⟨rfl,?_⟩;omega)
 .repeat' split
  all_goals
   rintro⟨hh,hb⟩
   first
   | rfl
   | (exfalso;simp only at hh;omega)
def LW(x:Nat):Bool:=decide (x<55296)||(decide (x>57343)&&decide (x<=1114111))
def uQ(b:Nat):Prop:=¬(b<128\/b>=192)
instance(b:Nat):Decidable (uQ b):=by unfold uQ;exact inferInstance
def GD(l:List UInt8):Nat×Nat :=
 if bn l 0<128 then(bn l 0,1)else
 if 192<=bn l 0/\bn l 0<224 then(if 2<=l.length/\uQ (bn l 1)/\128<=(bn l 0-192)*64+bn l 1-128/\LW ((bn l 0-192)*64+bn l 1-128)=true then((bn l 0-192)*64+bn l 1-128,2)else(0,0))else
 if 224<=bn l 0/\bn l 0<240 then(if 3<=l.length/\uQ (bn l 1)/\uQ (bn l 2)/\2048<=((bn l 0-224)*64+bn l 1-128)*64+bn l 2-128/\LW (((bn l 0-224)*64+bn l 1-128)*64+bn l 2-128)=true then(((bn l 0-224)*64+bn l 1-128)*64+bn l 2-128,3)else(0,0))else
 if 240<=bn l 0/\bn l 0<248 then(if 4<=l.length/\uQ (bn l 1)/\uQ (bn l 2)/\uQ (bn l 3)/\65536<=(((bn l 0-240)*64+bn l 1-128)*64+bn l 2-128)*64+bn l 3-128/\LW ((((bn l 0-240)*64+bn l 1-128)*64+bn l 2-128)*64+bn l 3-128)=true then((((bn l 0-240)*64+bn l 1-128)*64+bn l 2-128)*64+bn l 3-128,4)else(0,0))else(0,0)
def Oi{l:List UInt8}(h0:¬bn l 0<128):GD l=if(G9 l).2=1 then(0,0)else G9 l:=by
 have a1:=AU l 1;have a2:=AU l 2;have a3:=AU l 3;have a0:=AU l 0;unfold G9 GD Lib.decodeN LW uQ;generalize bn l 0=b0 at*;generalize bn l 1=b1 at*;generalize bn l 2=b2 at*;generalize bn l 3=b3 at*;generalize l.length=n;simp only[pz,cE,eQ];rw[au h0,au h0]
 repeat' split
 all_goals first|rfl|(exfalso;omega)|(exfalso;simp_all;omega)|(apply Prod.ext<;>simp only<;>omega)
def abo(l:List UInt8)(i:Nat):((⟨l.toArray⟩:ByteArray).get! i).toNat=bn l i:=by
 unfold bn ah;show(l.toArray[i]!).toNat=_;simp
def aaW(l:List UInt8)(i:Nat):Utf8.decode ⟨l.toArray⟩ i=G9 (l.drop i):=by
 rw[Lib.decode_at];unfold G9;simp only[abo,jJ];have h:∀k,bn (l.drop i) k=bn l (i+k):=λk=>by unfold bn;rw[DI]
 rw[h,h,h,h,Nat.add_zero];rfl
def Zq(l:List UInt8):Lib.decodeL l=G9 l:=aaW l 0
def Vg{l:List UInt8}(h:0<l.length)(hg:bn l 0<128\/(G9 l).2≠1):uv l=uv (l.drop (G9 l).2)/\(G9 l).2<=l.length:=by
 have hl:=Ey.1 h;have h2:=Lib.validD_step l hl;have h3:=Lib.decodeL_le l hl;rw[Zq]at h2 h3;refine⟨h2.trans (au λq=>?_),h3⟩;rcases hg with h|h
 .rw[Nq h]at q;exact absurd q.1 (by simp only;omega)
 .exact h q.2
def adJ{l:List UInt8}(h:0<l.length)(h0:¬bn l 0<128)(h1:(G9 l).2=1):uv l=false:=by
 have h2:=Lib.validD_step l (Ey.1 h);rw[Zq,aF ⟨((Ws h0).1 h1).1,h1⟩]at h2;exact h2
def hpx(s p:List UInt8):Bool:=decide (p.length<=s.length)&&(s.take p.length==p)
def r3(n:Int):List AV:=[.int .i32 n]
def agh(n:Int):r3 n=[.int .i32 n]:=rfl
attribute[go_sem] agh
def ail(v:AV):Prop:=aO v=[]
def smS(s:List UInt8):Prop:=s.length<=1048576
def rw_(r:List Int):List AV:=[.sl 1 (r.map oE)]
def aiP(r:List Int):rw_ r=[.sl 1 (r.map oE)]:=rfl
attribute[go_sem] aiP
def xk(l:List UInt8)(x:Nat):Nat->Nat
 | 0=>x
 | 1=>x
 | k+2=>xk l x (k+1)*64+bn l (k+1)-128
def adV{l:List UInt8}{x k:Nat}(h:1<=k):xk l x (k+1)=xk l x k*64+bn l k-128:=by
 obtain⟨k,rfl⟩:∃j,k=j+1:=⟨k-1,by omega⟩
 rfl
def OJ{l:List UInt8}{x:Nat}(hx:x<32):∀k,(∀j,1<=j->j<k+1->uQ (bn l j))->xk l x (k+1)<32*64^k
 | 0,_=>by simpa[xk]using hx
 | k+1,h=>by
  have h1:=OJ hx k (λj hj hk=>h j hj (by omega));have h2:=h (k+1) (by omega) (by omega);unfold uQ at h2;show xk l x (k+1)*64+bn l (k+1)-128<_;rw[Nat.pow_succ];omega
noncomputable def Vw(l:List UInt8)(n rd x:Nat):Nat×Nat :=
 open Classical in if n<=l.length/\(∀j,1<=j->j<n->uQ (bn l j))/\rd<=xk l x n/\LW (xk l x n)=true then(xk l x n,n)else(0,0)
def UK{l:List UInt8}(h:bn l 0<128):GD l=(bn l 0,1):=by unfold GD;rw[aF h]
def agz{l:List UInt8}(h1:192<=bn l 0)(h2:bn l 0<224):GD l=Vw l 2 128 (bn l 0-192):=by
 unfold GD Vw;rw[au (by omega),aF ⟨h1,h2⟩];have e:xk l (bn l 0-192) 2=(bn l 0-192)*64+bn l 1-128:=rfl;rw[e];by_cases hc:uQ (bn l 1)
 .have hj:∀j,1<=j->j<2->uQ (bn l j):=λj a b=>by rw[show j=1 by omega];exact hc
  by_cases hh:2<=l.length/\128<=(bn l 0-192)*64+bn l 1-128/\LW ((bn l 0-192)*64+bn l 1-128)=true
  .rw[aF ⟨hh.1,hc,hh.2.1,hh.2.2⟩,aF ⟨hh.1,hj,hh.2.1,hh.2.2⟩]
  .rw[au (λq=>hh ⟨q.1,q.2.2.1,q.2.2.2⟩),au (λq=>hh ⟨q.1,q.2.2.1,q.2.2.2⟩)]
 .rw[au (λq=>hc q.2.1),au (λq=>hc (q.2.1 1 (by decide) (by decide)))]
def agA{l:List UInt8}(h1:224<=bn l 0)(h2:bn l 0<240):GD l=Vw l 3 2048 (bn l 0-224):=by
 unfold GD Vw;rw[au (by omega),au (by omega),aF ⟨h1,h2⟩];have e:xk l (bn l 0-224) 3=((bn l 0-224)*64+bn l 1-128)*64+bn l 2-128:=rfl;rw[e];by_cases hc:uQ (bn l 1)/\uQ (bn l 2)
 .have hj:∀j,1<=j->j<3->uQ (bn l j):=λj a b=>by
   rcases(show j=1\/j=2 by omega)with rfl|rfl
   .exact hc.1
   .exact hc.2
  by_cases hh:3<=l.length/\2048<=((bn l 0-224)*64+bn l 1-128)*64+bn l 2-128/\LW (((bn l 0-224)*64+bn l 1-128)*64+bn l 2-128)=true
  .rw[aF ⟨hh.1,hc.1,hc.2,hh.2.1,hh.2.2⟩,aF ⟨hh.1,hj,hh.2.1,hh.2.2⟩]
  .rw[au (λq=>hh ⟨q.1,q.2.2.2.1,q.2.2.2.2⟩),au (λq=>hh ⟨q.1,q.2.2.1,q.2.2.2⟩)]
 .rw[au (λq=>hc ⟨q.2.1,q.2.2.1⟩),au (λq=>hc ⟨q.2.1 1 (by decide) (by decide),q.2.1 2 (by decide) (by decide)⟩)]
def agB{l:List UInt8}(h1:240<=bn l 0)(h2:bn l 0<248):GD l=Vw l 4 65536 (bn l 0-240):=by
 unfold GD Vw;rw[au (by omega),au (by omega),au (by omega),aF ⟨h1,h2⟩];have e:xk l (bn l 0-240) 4=(((bn l 0-240)*64+bn l 1-128)*64+bn l 2-128)*64+bn l 3-128:=rfl;rw[e];by_cases hc:uQ (bn l 1)/\uQ (bn l 2)/\uQ (bn l 3)
 .have hj:∀j,1<=j->j<4->uQ (bn l j):=λj a b=>by
   rcases(show j=1\/j=2\/j=3 by omega)with rfl|rfl|rfl
   .exact hc.1
   .exact hc.2.1
   .exact hc.2.2
  by_cases hh:4<=l.length/\65536<=(((bn l 0-240)*64+bn l 1-128)*64+bn l 2-128)*64+bn l 3-128/\LW ((((bn l 0-240)*64+bn l 1-128)*64+bn l 2-128)*64+bn l 3-128)=true
  .rw[aF ⟨hh.1,hc.1,hc.2.1,hc.2.2,hh.2.1,hh.2.2⟩,aF ⟨hh.1,hj,hh.2.1,hh.2.2⟩]
  .rw[au (λq=>hh ⟨q.1,q.2.2.2.2.1,q.2.2.2.2.2⟩),au (λq=>hh ⟨q.1,q.2.2.1,q.2.2.2⟩)]
 .rw[au (λq=>hc ⟨q.2.1,q.2.2.1,q.2.2.2.1⟩),au (λq=>hc ⟨q.2.1 1 (by decide) (by decide),q.2.1 2 (by decide) (by decide),q.2.1 3 (by decide) (by decide)⟩)]
def ZW{l:List UInt8}(h1:128<=bn l 0)(h2:bn l 0<192\/248<=bn l 0):GD l=(0,0):=by
 unfold GD;rw[au (by omega),au (by omega),au (by omega),au (by omega)]
def m7{l:List UInt8}{n rd x:Nat}(h:¬(n<=l.length/\(∀j,1<=j->j<n->uQ (bn l j))/\rd<=xk l x n/\LW (xk l x n)=true)):Vw l n rd x=(0,0):=by
 unfold Vw;rw[au h]
def Ip{l:List UInt8}{n rd x:Nat}(h:n<=l.length/\(∀j,1<=j->j<n->uQ (bn l j))/\rd<=xk l x n/\LW (xk l x n)=true):Vw l n rd x=(xk l x n,n):=by
 unfold Vw;rw[aF h]
def adL{l:List UInt8}(h:0<l.length)(hz:(GD l).2≠0):uv l=uv (l.drop (GD l).2)/\(GD l).2<=l.length:=by
 by_cases h0:bn l 0<128
 .have e:GD l=G9 l:=(UK h0).trans (Nq h0).symm;rw[e];exact Vg h (.inl h0)
 .rw[Oi h0]at hz⊢;split at hz
  .exact absurd rfl hz
  .rename_i h1;rw[au h1];exact Vg h (.inr h1)
def adM{l:List UInt8}(h:0<l.length)(hz:(GD l).2=0):uv l=false:=by
 by_cases h0:bn l 0<128
 .rw[UK h0]at hz;cases hz
 .rw[Oi h0]at hz;have hw:=ae5 l;split at hz
  .exact adJ h h0 ‹_›
  .omega
section
attribute[local go_sem] cU
def adG(n:Nat):ac pg L2 [.int .i64 n] (.bool (LW n)):=by
 refine aD oP ?_;unfold LW;by_cases h1:n<55296
 .rw[aL h1,iT];simp only[go_sem,oP,aL (show(n:Int)>=0 by omega),aL (show(n:Int)<55296 by omega)];exact aq [] (by first|(simp only[go_sem];done)|(simp only[go_sem];rfl)) (by rfl)
 .rw[aM h1,kA];by_cases h2:n>57343
  .rw[aL h2,bW];by_cases h3:n<=1114111
   .rw[aL h3];simp only[go_sem,oP,aL (show(n:Int)>=0 by omega),aM (show ¬(n:Int)<55296 by omega),aL (show(n:Int)>57343 by omega),aL (show(n:Int)<=1114111 by omega)];exact aq [] (by first|(simp only[go_sem];done)|(simp only[go_sem];rfl)) (by rfl)
   .rw[aM h3];simp only[go_sem,oP,aL (show(n:Int)>=0 by omega),aM (show ¬(n:Int)<55296 by omega),aL (show(n:Int)>57343 by omega),aM (show ¬(n:Int)<=1114111 by omega)];exact aq [] (by first|(simp only[go_sem];done)|(simp only[go_sem];rfl)) (by rfl)
  .rw[aM h2,dR];simp only[go_sem,oP,aL (show(n:Int)>=0 by omega),aM (show ¬(n:Int)<55296 by omega),aM (show ¬(n:Int)>57343 by omega)];exact aq [] (by first|(simp only[go_sem];done)|(simp only[go_sem];rfl)) (by rfl)
def Wf(s:List UInt8)(i k:Nat):bn (s.drop i) k=(ah s (i+k)).toNat:=by unfold bn;rw[DI]
def Y_(s:List UInt8)(hs:s.length<=1048576)(i:Nat)(hi:i<s.length):ac pg E4 [.str s,.int .i64 i] (.tup [.int .i64 (GD (s.drop i)).1,.int .i64 (GD (s.drop i)).2]):=by
 refine aD dg ?_;have hlen:(s.drop i).length=s.length-i:=by simp
 have hb:=Wf s i;have h0:(ah s i).toNat=bn (s.drop i) 0:=by rw[hb];rfl
 have hlt:=(ah s i).toNat_lt;have wc:IntKind.i64.wrap ((ah s i).toNat:Int)=((ah s i).toNat:Int):=wi (by omega) (by omega);generalize hl:s.drop i=l at*;by_cases g0:bn l 0<128
 .rw[UK g0];simp only[go_sem,dg,wc,aL (show((ah s i).toNat:Int)<128 by omega)];refine⟨by omega,by omega,?_⟩;rw[<-h0];exact aq [] (by first|(simp only[go_sem];done)|(simp only[go_sem];rfl)) (by rfl)
 by_cases g1:bn l 0<192
 .rw[ZW (by omega) (.inl g1)];simp only[go_sem,dg,wc,aM (show ¬((ah s i).toNat:Int)<128 by omega),aM (show ¬((ah s i).toNat:Int)>=192 by omega),aM (show ¬((ah s i).toNat:Int)>=224 by omega),aM (show ¬((ah s i).toNat:Int)>=240 by omega)];refine⟨by omega,by omega,?_⟩;exact aq [] (by first|(simp only[go_sem];done)|(simp only[go_sem];rfl)) (by rfl)
 by_cases g2:bn l 0<224
 .have hx:bn l 0-192<32:=by omega
  have wx:IntKind.i64.wrap ((ah s i).toNat-192:Int)=((bn l 0-192:Nat):Int):=by rw[wi (by omega) (by omega)];omega
  rw[agz (by omega) g2];have wn:IntKind.i64.wrap ((i:Int)+2)=((i+2:Nat):Int):=by rw[wi (by omega) (by omega)];omega
  by_cases gl:((i+2:Nat):Int)>(s.length:Int)
  .rw[m7 (λq=>by have:=q.1;omega)];simp only[go_sem,dg,wc,aM (show ¬((ah s i).toNat:Int)<128 by omega),aL (show((ah s i).toNat:Int)>=192 by omega),aL (show((ah s i).toNat:Int)<224 by omega),wx,wn,aL gl];refine⟨by omega,by omega,?_⟩;exact aq [] (by first|(simp only[go_sem];done)|(simp only[go_sem];rfl)) (by rfl)
  simp only[go_sem,dg,wc,aM (show ¬((ah s i).toNat:Int)<128 by omega),aL (show((ah s i).toNat:Int)>=192 by omega),aL (show((ah s i).toNat:Int)<224 by omega),wx,wn,aM gl];refine⟨by omega,by omega,?_⟩;refine an (λk:Nat=>⟨[(10,.int .i64 k),(9,.int .i64 (xk l (bn l 0-192) k:Nat)),(8,.int .i64 128),(7,.int .i64 2),(0,.str s),(1,.int .i64 i)],[]⟩) (λk=>1<=k/\k<=2/\∀j,1<=j->j<k->uQ (bn l j)) (λk=>2-k) 1 ⟨bG _,by decide,λj a b=>by omega⟩ (Wk.of ?_ ?_) ?_
  .simp only[go_sem,wx,xk];try simp
  .simp only[go_sem]
  rintro k ⟨hk1,hk,hc⟩;by_cases hkn:(k:Int)<2
  .have w1:IntKind.i64.wrap ((i:Int)+(k:Int))=((i+k:Nat):Int):=by rw[wi (by omega) (by omega)];omega
   have e8:IntKind.i64.wrap ((k:Int)+1)=(k:Int)+1:=wi (by omega) (by omega);have hd:=hb k;have hdl:=(ah s (i+k)).toNat_lt;have wd:IntKind.i64.wrap ((ah s (i+k)).toNat:Int)=((ah s (i+k)).toNat:Int):=wi (by omega) (by omega);have hik:i+k<s.length:=by omega
   by_cases hct:uQ (bn l k)
   .have hct':=hct;unfold uQ at hct';have hxk:=OJ hx (k-1) (λj a b=>hc j a (by omega));rw[show k-1+1=k by omega]at hxk;have hp:(64:Nat)^(k-1)<=64^2:=K9 (by decide) (by omega);have hxs:=adV (l:=l) (x:=bn l 0-192) hk1;generalize (64:Nat)^(k-1)=p at*;have wm:IntKind.i64.wrap ((xk l (bn l 0-192) k:Nat)*64:Int)=((xk l (bn l 0-192) k*64:Nat):Int):=by rw[wi (by omega) (by omega)];omega
    have wa:IntKind.i64.wrap (((xk l (bn l 0-192) k*64:Nat):Int)+((ah s (i+k)).toNat:Int))=((xk l (bn l 0-192) k*64+bn l k:Nat):Int):=by rw[wi (by omega) (by omega)];omega
    have ws:IntKind.i64.wrap (((xk l (bn l 0-192) k*64+bn l k:Nat):Int)-128)=((xk l (bn l 0-192) (k+1):Nat):Int):=by rw[wi (by omega) (by omega)];omega
    simp only[go_sem,aL hkn,w1,wd,aM (show ¬((ah s (i+k)).toNat:Int)<128 by omega),aM (show ¬((ah s (i+k)).toNat:Int)>=192 by omega),wm,wa,ws];refine⟨by omega,by omega,aE (k+1) ⟨by omega,show k+1<=2 by omega,λj a b=>?_⟩ (show 2-(k+1)<2-k by omega) (Wk.of ?_ ?_)⟩
    .rcases kz j k with q|q
     .exact hc j a q
     .rw[show j=k by omega];exact hct
    .simp only[go_sem,e8];try simp
    .simp only[go_sem]
   .rw[m7 (λq=>hct (q.2.1 k hk1 (by omega)))];unfold uQ at hct;by_cases h1:(ah s (i+k)).toNat<128
    .simp only[go_sem,aL hkn,w1,wd,aL (show((ah s (i+k)).toNat:Int)<128 by omega)];refine⟨by omega,by omega,?_⟩;exact aq [] (by first|(simp only[go_sem];done)|(simp only[go_sem];rfl)) (by rfl)
    .simp only[go_sem,aL hkn,w1,wd,aM (show ¬((ah s (i+k)).toNat:Int)<128 by omega),aL (show((ah s (i+k)).toNat:Int)>=192 by omega)];refine⟨by omega,by omega,?_⟩;exact aq [] (by first|(simp only[go_sem];done)|(simp only[go_sem];rfl)) (by rfl)
  .obtain rfl:k=2:=by omega
   generalize hX:xk l (bn l 0-192) 2=X at*;by_cases h1:X<128
   .rw[m7 (λq=>by have:=q.2.2.1;rw[hX]at this;omega)];simp only[go_sem,aM hkn,aL (show(X:Int)<128 by omega)];exact aq [] (by first|(simp only[go_sem];done)|(simp only[go_sem];rfl)) (by rfl)
   .simp only[go_sem,aM hkn,aM (show ¬(X:Int)<128 by omega)];refine aj (adG X) ?_;cases h2:LW X
    .rw[m7 (λq=>by have:=q.2.2.2;rw[hX,h2]at this;cases this)];simp only[go_sem];exact aq [] (by first|(simp only[go_sem];done)|(simp only[go_sem];rfl)) (by rfl)
    .rw[Ip ⟨by omega,hc,by rw[hX];omega,by rw[hX];exact h2⟩,hX];simp only[go_sem];exact aq [] (by first|(simp only[go_sem];done)|(simp only[go_sem];rfl)) (by rfl)
 by_cases g3:bn l 0<240
 .have hx:bn l 0-224<32:=by omega
  have wx:IntKind.i64.wrap ((ah s i).toNat-224:Int)=((bn l 0-224:Nat):Int):=by rw[wi (by omega) (by omega)];omega
  rw[agA (by omega) g3];have wn:IntKind.i64.wrap ((i:Int)+3)=((i+3:Nat):Int):=by rw[wi (by omega) (by omega)];omega
  by_cases gl:((i+3:Nat):Int)>(s.length:Int)
  .rw[m7 (λq=>by have:=q.1;omega)];simp only[go_sem,dg,wc,aM (show ¬((ah s i).toNat:Int)<128 by omega),aL (show((ah s i).toNat:Int)>=192 by omega),aM (show ¬((ah s i).toNat:Int)<224 by omega),aL (show((ah s i).toNat:Int)>=224 by omega),aL (show((ah s i).toNat:Int)<240 by omega),wx,wn,aL gl];refine⟨by omega,by omega,?_⟩;exact aq [] (by first|(simp only[go_sem];done)|(simp only[go_sem];rfl)) (by rfl)
  simp only[go_sem,dg,wc,aM (show ¬((ah s i).toNat:Int)<128 by omega),aL (show((ah s i).toNat:Int)>=192 by omega),aM (show ¬((ah s i).toNat:Int)<224 by omega),aL (show((ah s i).toNat:Int)>=224 by omega),aL (show((ah s i).toNat:Int)<240 by omega),wx,wn,aM gl];refine⟨by omega,by omega,?_⟩;refine an (λk:Nat=>⟨[(10,.int .i64 k),(9,.int .i64 (xk l (bn l 0-224) k:Nat)),(8,.int .i64 2048),(7,.int .i64 3),(0,.str s),(1,.int .i64 i)],[]⟩) (λk=>1<=k/\k<=3/\∀j,1<=j->j<k->uQ (bn l j)) (λk=>3-k) 1 ⟨bG _,by decide,λj a b=>by omega⟩ (Wk.of ?_ ?_) ?_
  .simp only[go_sem,wx,xk];try simp
  .simp only[go_sem]
  rintro k ⟨hk1,hk,hc⟩;by_cases hkn:(k:Int)<3
  .have w1:IntKind.i64.wrap ((i:Int)+(k:Int))=((i+k:Nat):Int):=by rw[wi (by omega) (by omega)];omega
   have e8:IntKind.i64.wrap ((k:Int)+1)=(k:Int)+1:=wi (by omega) (by omega);have hd:=hb k;have hdl:=(ah s (i+k)).toNat_lt;have wd:IntKind.i64.wrap ((ah s (i+k)).toNat:Int)=((ah s (i+k)).toNat:Int):=wi (by omega) (by omega);have hik:i+k<s.length:=by omega
   by_cases hct:uQ (bn l k)
   .have hct':=hct;unfold uQ at hct';have hxk:=OJ hx (k-1) (λj a b=>hc j a (by omega));rw[show k-1+1=k by omega]at hxk;have hp:(64:Nat)^(k-1)<=64^2:=K9 (by decide) (by omega);have hxs:=adV (l:=l) (x:=bn l 0-224) hk1;generalize (64:Nat)^(k-1)=p at*;have wm:IntKind.i64.wrap ((xk l (bn l 0-224) k:Nat)*64:Int)=((xk l (bn l 0-224) k*64:Nat):Int):=by rw[wi (by omega) (by omega)];omega
    have wa:IntKind.i64.wrap (((xk l (bn l 0-224) k*64:Nat):Int)+((ah s (i+k)).toNat:Int))=((xk l (bn l 0-224) k*64+bn l k:Nat):Int):=by rw[wi (by omega) (by omega)];omega
    have ws:IntKind.i64.wrap (((xk l (bn l 0-224) k*64+bn l k:Nat):Int)-128)=((xk l (bn l 0-224) (k+1):Nat):Int):=by rw[wi (by omega) (by omega)];omega
    simp only[go_sem,aL hkn,w1,wd,aM (show ¬((ah s (i+k)).toNat:Int)<128 by omega),aM (show ¬((ah s (i+k)).toNat:Int)>=192 by omega),wm,wa,ws];refine⟨by omega,by omega,aE (k+1) ⟨by omega,show k+1<=3 by omega,λj a b=>?_⟩ (show 3-(k+1)<3-k by omega) (Wk.of ?_ ?_)⟩
    .rcases kz j k with q|q
     .exact hc j a q
     .rw[show j=k by omega];exact hct
    .simp only[go_sem,e8];try simp
    .simp only[go_sem]
   .rw[m7 (λq=>hct (q.2.1 k hk1 (by omega)))];unfold uQ at hct;by_cases h1:(ah s (i+k)).toNat<128
    .simp only[go_sem,aL hkn,w1,wd,aL (show((ah s (i+k)).toNat:Int)<128 by omega)];refine⟨by omega,by omega,?_⟩;exact aq [] (by first|(simp only[go_sem];done)|(simp only[go_sem];rfl)) (by rfl)
    .simp only[go_sem,aL hkn,w1,wd,aM (show ¬((ah s (i+k)).toNat:Int)<128 by omega),aL (show((ah s (i+k)).toNat:Int)>=192 by omega)];refine⟨by omega,by omega,?_⟩;exact aq [] (by first|(simp only[go_sem];done)|(simp only[go_sem];rfl)) (by rfl)
  .obtain rfl:k=3:=by omega
   generalize hX:xk l (bn l 0-224) 3=X at*;by_cases h1:X<2048
   .rw[m7 (λq=>by have:=q.2.2.1;rw[hX]at this;omega)];simp only[go_sem,aM hkn,aL (show(X:Int)<2048 by omega)];exact aq [] (by first|(simp only[go_sem];done)|(simp only[go_sem];rfl)) (by rfl)
   .simp only[go_sem,aM hkn,aM (show ¬(X:Int)<2048 by omega)];refine aj (adG X) ?_;cases h2:LW X
    .rw[m7 (λq=>by have:=q.2.2.2;rw[hX,h2]at this;cases this)];simp only[go_sem];exact aq [] (by first|(simp only[go_sem];done)|(simp only[go_sem];rfl)) (by rfl)
    .rw[Ip ⟨by omega,hc,by rw[hX];omega,by rw[hX];exact h2⟩,hX];simp only[go_sem];exact aq [] (by first|(simp only[go_sem];done)|(simp only[go_sem];rfl)) (by rfl)
 by_cases g4:bn l 0<248
 .have hx:bn l 0-240<32:=by omega
  have wx:IntKind.i64.wrap ((ah s i).toNat-240:Int)=((bn l 0-240:Nat):Int):=by rw[wi (by omega) (by omega)];omega
  rw[agB (by omega) g4];have wn:IntKind.i64.wrap ((i:Int)+4)=((i+4:Nat):Int):=by rw[wi (by omega) (by omega)];omega
  by_cases gl:((i+4:Nat):Int)>(s.length:Int)
  .rw[m7 (λq=>by have:=q.1;omega)];simp only[go_sem,dg,wc,aM (show ¬((ah s i).toNat:Int)<128 by omega),aL (show((ah s i).toNat:Int)>=192 by omega),aM (show ¬((ah s i).toNat:Int)<224 by omega),aL (show((ah s i).toNat:Int)>=224 by omega),aM (show ¬((ah s i).toNat:Int)<240 by omega),aL (show((ah s i).toNat:Int)>=240 by omega),aL (show((ah s i).toNat:Int)<248 by omega),wx,wn,aL gl];refine⟨by omega,by omega,?_⟩;exact aq [] (by first|(simp only[go_sem];done)|(simp only[go_sem];rfl)) (by rfl)
  simp only[go_sem,dg,wc,aM (show ¬((ah s i).toNat:Int)<128 by omega),aL (show((ah s i).toNat:Int)>=192 by omega),aM (show ¬((ah s i).toNat:Int)<224 by omega),aL (show((ah s i).toNat:Int)>=224 by omega),aM (show ¬((ah s i).toNat:Int)<240 by omega),aL (show((ah s i).toNat:Int)>=240 by omega),aL (show((ah s i).toNat:Int)<248 by omega),wx,wn,aM gl];refine⟨by omega,by omega,?_⟩;refine an (λk:Nat=>⟨[(10,.int .i64 k),(9,.int .i64 (xk l (bn l 0-240) k:Nat)),(8,.int .i64 65536),(7,.int .i64 4),(0,.str s),(1,.int .i64 i)],[]⟩) (λk=>1<=k/\k<=4/\∀j,1<=j->j<k->uQ (bn l j)) (λk=>4-k) 1 ⟨bG _,by decide,λj a b=>by omega⟩ (Wk.of ?_ ?_) ?_
  .simp only[go_sem,wx,xk];try simp
  .simp only[go_sem]
  rintro k ⟨hk1,hk,hc⟩;by_cases hkn:(k:Int)<4
  .have w1:IntKind.i64.wrap ((i:Int)+(k:Int))=((i+k:Nat):Int):=by rw[wi (by omega) (by omega)];omega
   have e8:IntKind.i64.wrap ((k:Int)+1)=(k:Int)+1:=wi (by omega) (by omega);have hd:=hb k;have hdl:=(ah s (i+k)).toNat_lt;have wd:IntKind.i64.wrap ((ah s (i+k)).toNat:Int)=((ah s (i+k)).toNat:Int):=wi (by omega) (by omega);have hik:i+k<s.length:=by omega
   by_cases hct:uQ (bn l k)
   .have hct':=hct;unfold uQ at hct';have hxk:=OJ hx (k-1) (λj a b=>hc j a (by omega));rw[show k-1+1=k by omega]at hxk;have hp:(64:Nat)^(k-1)<=64^2:=K9 (by decide) (by omega);have hxs:=adV (l:=l) (x:=bn l 0-240) hk1;generalize (64:Nat)^(k-1)=p at*;have wm:IntKind.i64.wrap ((xk l (bn l 0-240) k:Nat)*64:Int)=((xk l (bn l 0-240) k*64:Nat):Int):=by rw[wi (by omega) (by omega)];omega
    have wa:IntKind.i64.wrap (((xk l (bn l 0-240) k*64:Nat):Int)+((ah s (i+k)).toNat:Int))=((xk l (bn l 0-240) k*64+bn l k:Nat):Int):=by rw[wi (by omega) (by omega)];omega
    have ws:IntKind.i64.wrap (((xk l (bn l 0-240) k*64+bn l k:Nat):Int)-128)=((xk l (bn l 0-240) (k+1):Nat):Int):=by rw[wi (by omega) (by omega)];omega
    simp only[go_sem,aL hkn,w1,wd,aM (show ¬((ah s (i+k)).toNat:Int)<128 by omega),aM (show ¬((ah s (i+k)).toNat:Int)>=192 by omega),wm,wa,ws];refine⟨by omega,by omega,aE (k+1) ⟨by omega,show k+1<=4 by omega,λj a b=>?_⟩ (show 4-(k+1)<4-k by omega) (Wk.of ?_ ?_)⟩
    .rcases kz j k with q|q
     .exact hc j a q
     .rw[show j=k by omega];exact hct
    .simp only[go_sem,e8];try simp
    .simp only[go_sem]
   .rw[m7 (λq=>hct (q.2.1 k hk1 (by omega)))];unfold uQ at hct;by_cases h1:(ah s (i+k)).toNat<128
    .simp only[go_sem,aL hkn,w1,wd,aL (show((ah s (i+k)).toNat:Int)<128 by omega)];refine⟨by omega,by omega,?_⟩;exact aq [] (by first|(simp only[go_sem];done)|(simp only[go_sem];rfl)) (by rfl)
    .simp only[go_sem,aL hkn,w1,wd,aM (show ¬((ah s (i+k)).toNat:Int)<128 by omega),aL (show((ah s (i+k)).toNat:Int)>=192 by omega)];refine⟨by omega,by omega,?_⟩;exact aq [] (by first|(simp only[go_sem];done)|(simp only[go_sem];rfl)) (by rfl)
  .obtain rfl:k=4:=by omega
   generalize hX:xk l (bn l 0-240) 4=X at*;by_cases h1:X<65536
   .rw[m7 (λq=>by have:=q.2.2.1;rw[hX]at this;omega)];simp only[go_sem,aM hkn,aL (show(X:Int)<65536 by omega)];exact aq [] (by first|(simp only[go_sem];done)|(simp only[go_sem];rfl)) (by rfl)
   .simp only[go_sem,aM hkn,aM (show ¬(X:Int)<65536 by omega)];refine aj (adG X) ?_;cases h2:LW X
    .rw[m7 (λq=>by have:=q.2.2.2;rw[hX,h2]at this;cases this)];simp only[go_sem];exact aq [] (by first|(simp only[go_sem];done)|(simp only[go_sem];rfl)) (by rfl)
    .rw[Ip ⟨by omega,hc,by rw[hX];omega,by rw[hX];exact h2⟩,hX];simp only[go_sem];exact aq [] (by first|(simp only[go_sem];done)|(simp only[go_sem];rfl)) (by rfl)
 .rw[ZW (by omega) (.inr (by omega))];simp only[go_sem,dg,wc,aM (show ¬((ah s i).toNat:Int)<128 by omega),aL (show((ah s i).toNat:Int)>=192 by omega),aM (show ¬((ah s i).toNat:Int)<224 by omega),aL (show((ah s i).toNat:Int)>=224 by omega),aM (show ¬((ah s i).toNat:Int)<240 by omega),aL (show((ah s i).toNat:Int)>=240 by omega),aM (show ¬((ah s i).toNat:Int)<248 by omega)];refine⟨by omega,by omega,?_⟩;exact aq [] (by first|(simp only[go_sem];done)|(simp only[go_sem];rfl)) (by rfl)
end
section
attribute[local go_sem] cU
def Za(s:List UInt8)(hs:s.length<=1048576):aX pg E1 [.str s] [] sb (λr' σ'=>∃v:AV,ail v/\r' = .tup [v,.bool (uv s)]/\σ'=[]):=by
 refine bT wW ?_;simp only[go_sem,wW];refine an (λq:List Int×Nat=>⟨[(5,.int .i64 q.2),(4,.ms 900 1 0 q.1.length),(0,.str s)],[(900,⟨21,1,q.1.map r3,false⟩)]⟩) (λq=>q.2<=s.length/\q.1.length<=q.2/\uv s=uv (s.drop q.2)) (λq=>s.length-q.2) ([],0) ⟨cQ _,cQ _,rfl⟩ ((Wk.nil _ 4 900 1 21 (by simp only[go_sem]) (.inl (by decide))).trans (Wk.of ?_ ?_)) ?_
 .simp only[go_sem,St.mknil];try simp[go_sem]
 .simp only[go_sem,St.mknil];try simp[go_sem]
 rintro⟨l,p⟩ ⟨h1,h2,h3⟩;simp only at h1 h2 h3;have happ:=λys=>bX 900 21 1 l.length r3 l ys rfl;by_cases hp:(p:Int)<(s.length:Int)
 .have hp':p<s.length:=by omega
  have hd:0<(s.drop p).length:=by simp;omega
  have ct:=Y_ s hs p hp';have hl3:(s.drop p).length=s.length-p:=by simp
  have hgo:=λh=>adL (l:=s.drop p) hd h;have hno:=λh=>adM (l:=s.drop p) hd h;generalize GD (s.drop p)=R at*;obtain⟨x,k⟩:=R;simp only at ct hgo hno;by_cases hk:k=0
  .subst hk;rw[h3,hno rfl];simp only[go_sem,aL hp];refine aj (ct) ?_;simp only[go_sem,show(((0:Nat):Int)==0)=true from rfl];exact done [] _ [] (by simp only[go_sem]) trivial rfl ⟨.nl,rfl,rfl,rfl⟩
  .obtain⟨q1,q2⟩:=hgo hk;rw[Ev]at q1;have e8:IntKind.i64.wrap ((p:Int)+(k:Int))=((p+k:Nat):Int):=by rw[wi (by omega) (by omega)];omega
   simp only[go_sem,aL hp];refine aj (ct) ?_;simp only[go_sem,aw (show(k:Int)≠0 by omega),happ];refine⟨by omega,aE (l++[IntKind.i32.wrap (x:Int)],p+k) ⟨show p+k<=s.length by omega,show(l++[IntKind.i32.wrap (x:Int)]).length<=p+k by simp;omega,h3.trans q1⟩ (show s.length-(p+k)<s.length-p by omega) (Wk.of ?_ ?_)⟩
   .simp only[go_sem,e8];try simp
   .simp only[go_sem];try simp[agh]
 .obtain rfl:p=s.length:=by omega
  rw[h3,List.drop_length,adK];simp only[go_sem,aM hp];refine done [900] (.tup [.sl 1 (l.map r3),.bool true]) [] ?_ trivial rfl ⟨.sl 1 (l.map r3),rfl,rfl,rfl⟩;simp only[go_sem,bG];rw[dQ (by simp)]
def adH(s:List UInt8)(hs:smS s):ac pg E3 [.str s] (.bool (uv s)):=by
 refine aD wX ?_;simp only[go_sem,wX];refine Wj (Za s hs) ?_;intro v hv;simp only[go_sem];exact az
end
section
def Bu(p i e:Int):(ek p i e).c=e:=by
 unfold ek;split
 .rename_i h;rw[h];rfl
 .rfl
attribute[local go_sem] cU bC du cP df cC cK fU bh ef eS iz gc ql
def Cc(s:List UInt8):ac pg HS [.str s] (.int .i64 (jE s)):=by
 refine aD r5 ?_;unfold jE;by_cases q1:(s.length:Int)>64
 .rw[aF (by omega)];simp only[go_sem,r5,aL q1];exact az
 rw[au (by omega)];simp only[go_sem,r5,aM q1];have cc:=adH s (show s.length<=1048576 by omega);refine aj (cc) ?_;cases uv s
 .simp only[go_sem];exact aq [] (by simp only[go_sem];try rfl) (by rfl)
 .simp only[go_sem];exact aq [] (by simp only[go_sem];try rfl) (by rfl)
def imO(x:Im):Int:=if x.k<0\/x.k>3\/jV x≠x then 1 else if x.k=1 then Ei ⟨x.te,x.tl⟩else if x.k=2 then Gn x.me else if x.k=3 then QE x.g else if nX x.f=false then 11 else 0
end
section
def exF(m:Md):Fa:=gr (λi x=>ek 7 i (Hf x)) 0 m.exs (uZ 7 m.exs.length 64)
attribute[local go_sem] cU bC du cP df cC cK fU bh ef eS iz gc ql
def agp(m:Md)(h:BZ m):ac pg BI [cY m] (gc (exF m)):=by
 refine aD sS ?_;obtain⟨G,hG⟩:∃G,exF m=G:=⟨_,rfl⟩
 rw[hG];have hts:=h.exs;have c0:=qw 7 m.exs.length 64;simp only[gc]at c0;simp only[go_sem,sS,cY];refine aa (c0) ?_;refine an (λq:Nat×Fa=>⟨[(4,.int .i64 q.1),(1,.mp 1 12 0 0),(3,.mp 3 4 0 0),(2,.mp 2 4 0 0)],[(3,ql q.2),(2,ql eB),(1,⟨33,12,[nZ m],true⟩)]⟩) (λq=>q.1<=m.exs.length/\G=gr (λi x=>ek 7 i (Hf x)) q.1 (m.exs.drop q.1) q.2) (λq=>m.exs.length-q.1) (0,uZ 7 m.exs.length 64) ⟨cQ _,hG.symm⟩ (Wk.of ?_ ?_) ?_
 .simp only[go_sem];try simp[eB]
 .simp only[go_sem];try simp[eB]
 rintro⟨j,E⟩ ⟨hj,hx⟩;simp only at hj hx;by_cases h1:(j:Int)<(m.exs.length:Int);rotate_left
 .rw[dc (by omega)]at hx;obtain rfl:G=E:=hx;simp only[go_sem,aM h1];exact aq [] (by simp only[go_sem];try rfl) (by rfl)
 have hj':j<m.exs.length:=by omega
 have e8:=dv hj' (by omega);have cn:=eP E;simp only[gc]at cn;by_cases hE:E.c=0;rotate_left
 .rw[qZ E hE]at hx;obtain rfl:G=E:=hx;rw[aw hE]at cn;simp only[go_sem,aL h1];refine aa (cn) ?_;exact aq [] (by simp only[go_sem];try rfl) (by rfl)
 rw[be hE]at cn;rw[qY hj' E hE]at hx;have c1:=Cc (ah m.exs j).n;have c2:=rC (ah m.exs j).i;have a1:=rB 7 j (jE (ah m.exs j).n);have n1:=eP (ek 7 j (jE (ah m.exs j).n));have a2:=rB 7 j 1;have n2:=eP (ek 7 j 1);rw[aw (show(ek 7 j 1).c≠0 by rw[Bu];decide)]at n2;have a3:=rB 7 j 11;simp only[gc]at a1 n1 a2 n2 a3;simp only[go_sem,aL h1];refine aa (cn) ?_;refine⟨by omega,h1,?_⟩;refine aa (c1) ?_;refine aj (a1) ?_;by_cases e0:jE (ah m.exs j).n=0;rotate_left
 .have hf:Hf (ah m.exs j)=jE (ah m.exs j).n:=by unfold Hf;rw[aF e0]
  rw[hf]at hx;rw[aw (show(ek 7 j (jE (ah m.exs j).n)).c≠0 by rw[Bu];exact e0)]at n1;simp only[go_sem];refine aa (n1) ?_;refine aa (n1) ?_;refine aE (j+1,ek 7 j (jE (ah m.exs j).n)) ⟨show j+1<=m.exs.length by omega,hx⟩ (show m.exs.length-(j+1)<m.exs.length-j by omega) (Wk.of ?_ ?_)
  .simp only[go_sem,e8];try simp
  .simp only[go_sem]
 have hf0:Hf (ah m.exs j)=if(ah m.exs j).k<0\/(ah m.exs j).k>3 then 1 else if nX (ah m.exs j).i=false then 11 else 0:=by unfold Hf;rw[au (by simp[e0])]
 rw[be (show(ek 7 j (jE (ah m.exs j).n)).c=0 by rw[Bu];exact e0)]at n1;simp only[go_sem];refine aj (n1) ?_;by_cases q1:(ah m.exs j).k<0
 .rw[hf0,aF (.inl q1)]at hx;simp only[go_sem,aL q1];refine aa (a2) ?_;refine aa (n2) ?_;refine aE (j+1,ek 7 j 1) ⟨show j+1<=m.exs.length by omega,hx⟩ (show m.exs.length-(j+1)<m.exs.length-j by omega) (Wk.of ?_ ?_)
  .simp only[go_sem,e8];try simp
  .simp only[go_sem]
 by_cases q2:(ah m.exs j).k>3
 .rw[hf0,aF (.inr q2)]at hx;simp only[go_sem,aM q1,aL q2];refine aa (a2) ?_;refine aa (n2) ?_;refine aE (j+1,ek 7 j 1) ⟨show j+1<=m.exs.length by omega,hx⟩ (show m.exs.length-(j+1)<m.exs.length-j by omega) (Wk.of ?_ ?_)
  .simp only[go_sem,e8];try simp
  .simp only[go_sem]
 rw[hf0,au (by omega)]at hx;simp only[go_sem,aM q1,aM q2];refine aa (n1) ?_;refine aj (c2) ?_;cases v:nX (ah m.exs j).i
 .rw[aF v]at hx;simp only[go_sem];refine aa (a3) ?_;refine aE (j+1,ek 7 j 11) ⟨show j+1<=m.exs.length by omega,hx⟩ (show m.exs.length-(j+1)<m.exs.length-j by omega) (Wk.of ?_ ?_)
  .simp only[go_sem,e8];try simp
  .simp only[go_sem]
 .rw[au (by simp[v]),<-e0]at hx;simp only[go_sem];refine aE (j+1,ek 7 j (jE (ah m.exs j).n)) ⟨show j+1<=m.exs.length by omega,hx⟩ (show m.exs.length-(j+1)<m.exs.length-j by omega) (Wk.of ?_ ?_)
  .simp only[go_sem,e8];try simp
  .simp only[go_sem]
end
section
def csF(m:Md):Fa:=gr (λi x=>ek 11 i (Jl x)) 0 m.cs (uZ 11 m.cs.length 8)
attribute[local go_sem] cU bC du cP df cC cK fU bh ef eS iz gc ql
def agl(m:Md)(h:BZ m):ac pg BH [cY m] (gc (csF m)):=by
 refine aD sQ ?_;obtain⟨G,hG⟩:∃G,csF m=G:=⟨_,rfl⟩
 rw[hG];have hts:=h.cs;have c0:=qw 11 m.cs.length 8;simp only[gc]at c0;simp only[go_sem,sQ,cY];refine aa (c0) ?_;refine an (λq:Nat×Fa=>⟨[(4,.int .i64 q.1),(1,.mp 1 12 0 0),(3,.mp 3 4 0 0),(2,.mp 2 4 0 0)],[(3,ql q.2),(2,ql eB),(1,⟨33,12,[nZ m],true⟩)]⟩) (λq=>q.1<=m.cs.length/\G=gr (λi x=>ek 11 i (Jl x)) q.1 (m.cs.drop q.1) q.2) (λq=>m.cs.length-q.1) (0,uZ 11 m.cs.length 8) ⟨cQ _,hG.symm⟩ (Wk.of ?_ ?_) ?_
 .simp only[go_sem];try simp[eB]
 .simp only[go_sem];try simp[eB]
 rintro⟨j,E⟩ ⟨hj,hx⟩;simp only at hj hx;by_cases h1:(j:Int)<(m.cs.length:Int);rotate_left
 .rw[dc (by omega)]at hx;obtain rfl:G=E:=hx;simp only[go_sem,aM h1];exact aq [] (by simp only[go_sem];try rfl) (by rfl)
 have hj':j<m.cs.length:=by omega
 have e8:=dv hj' (by omega);have cn:=eP E;simp only[gc]at cn;by_cases hE:E.c=0;rotate_left
 .rw[qZ E hE]at hx;obtain rfl:G=E:=hx;rw[aw hE]at cn;simp only[go_sem,aL h1];refine aa (cn) ?_;exact aq [] (by simp only[go_sem];try rfl) (by rfl)
 rw[be hE]at cn;rw[qY hj' E hE]at hx;have c1:=Cc (ah m.cs j).n;have a1:=rB 11 j (jE (ah m.cs j).n);have n1:=eP (ek 11 j (jE (ah m.cs j).n));have a2:=rB 11 j 6;have n2:=eP (ek 11 j 6);rw[aw (show(ek 11 j 6).c≠0 by rw[Bu];decide)]at n2;have a3:=rB 11 j 1;simp only[gc]at a1 n1 a2 n2 a3;simp only[go_sem,aL h1];refine aa (cn) ?_;refine⟨by omega,h1,?_⟩;refine aa (c1) ?_;refine aj (a1) ?_;by_cases e0:jE (ah m.cs j).n=0;rotate_left
 .have hf:Jl (ah m.cs j)=jE (ah m.cs j).n:=by unfold Jl;rw[aF e0]
  rw[hf]at hx;rw[aw (show(ek 11 j (jE (ah m.cs j).n)).c≠0 by rw[Bu];exact e0)]at n1;simp only[go_sem];refine aa (n1) ?_;refine aa (n1) ?_;refine aE (j+1,ek 11 j (jE (ah m.cs j).n)) ⟨show j+1<=m.cs.length by omega,hx⟩ (show m.cs.length-(j+1)<m.cs.length-j by omega) (Wk.of ?_ ?_)
  .simp only[go_sem,e8];try simp
  .simp only[go_sem]
 have hf0:Jl (ah m.cs j)=if(ah m.cs j).b.length>4096 then 6 else if(ah m.cs j).af<0\/(ah m.cs j).af>12 then 1 else 0:=by unfold Jl;rw[au (by simp[e0])]
 rw[be (show(ek 11 j (jE (ah m.cs j).n)).c=0 by rw[Bu];exact e0)]at n1;simp only[go_sem];refine aj (n1) ?_;by_cases q0:((ah m.cs j).b.length:Int)>4096
 .rw[hf0,aF (by omega)]at hx;simp only[go_sem,aL q0];refine aa (a2) ?_;refine aa (n2) ?_;refine aE (j+1,ek 11 j 6) ⟨show j+1<=m.cs.length by omega,hx⟩ (show m.cs.length-(j+1)<m.cs.length-j by omega) (Wk.of ?_ ?_)
  .simp only[go_sem,e8];try simp
  .simp only[go_sem]
 rw[hf0,au (by omega)]at hx;simp only[go_sem,aM q0];refine aj (n1) ?_;by_cases q1:(ah m.cs j).af<0
 .rw[aF (.inl q1)]at hx;simp only[go_sem,aL q1];refine aa (a3) ?_;refine aE (j+1,ek 11 j 1) ⟨show j+1<=m.cs.length by omega,hx⟩ (show m.cs.length-(j+1)<m.cs.length-j by omega) (Wk.of ?_ ?_)
  .simp only[go_sem,e8];try simp
  .simp only[go_sem]
 by_cases q2:(ah m.cs j).af>12
 .rw[aF (.inr q2)]at hx;simp only[go_sem,aM q1,aL q2];refine aa (a3) ?_;refine aE (j+1,ek 11 j 1) ⟨show j+1<=m.cs.length by omega,hx⟩ (show m.cs.length-(j+1)<m.cs.length-j by omega) (Wk.of ?_ ?_)
  .simp only[go_sem,e8];try simp
  .simp only[go_sem]
 rw[au (by omega),<-e0]at hx;simp only[go_sem,aM q1,aM q2];refine aE (j+1,ek 11 j (jE (ah m.cs j).n)) ⟨show j+1<=m.cs.length by omega,hx⟩ (show m.cs.length-(j+1)<m.cs.length-j by omega) (Wk.of ?_ ?_)
 .simp only[go_sem,e8];try simp
 .simp only[go_sem]
end
section
def acv{x:Im}(h:x.k=0):((x.te==0)&&((x.tl.mn==0)&&((x.tl.mx==0)&&((x.tl.hs==false)&&((x.me.mn==0)&&((x.me.mx==0)&&((x.me.hs==false)&&((x.g.v==0)&&(x.g.mu==false)))))))))=decide (jV x=x):=by
 obtain⟨m,n,k,f,te,⟨t1,t2,t3⟩,⟨m1,m2,m3⟩,⟨v,u⟩⟩:=x;simp only at h;subst h;rw[zT,decide_eq_true_iff];simp only[jV,Int.reduceEq,br,cD,Im.mk.injEq,Lm.mk.injEq,Gl.mk.injEq,cE,beq_iff_eq,true_and,and_true]
 grind
def acw{x:Im}(h:x.k=1):((x.f==0)&&((x.me.mn==0)&&((x.me.mx==0)&&((x.me.hs==false)&&((x.g.v==0)&&(x.g.mu==false))))))=decide (jV x=x):=by
 obtain⟨m,n,k,f,te,⟨t1,t2,t3⟩,⟨m1,m2,m3⟩,⟨v,u⟩⟩:=x;simp only at h;subst h;rw[zT,decide_eq_true_iff];simp only[jV,Int.reduceEq,br,cD,Im.mk.injEq,Lm.mk.injEq,Gl.mk.injEq,cE,beq_iff_eq,true_and,and_true]
 grind
def acx{x:Im}(h:x.k=2):((x.f==0)&&((x.te==0)&&((x.tl.mn==0)&&((x.tl.mx==0)&&((x.tl.hs==false)&&((x.g.v==0)&&(x.g.mu==false)))))))=decide (jV x=x):=by
 obtain⟨m,n,k,f,te,⟨t1,t2,t3⟩,⟨m1,m2,m3⟩,⟨v,u⟩⟩:=x;simp only at h;subst h;rw[zT,decide_eq_true_iff];simp only[jV,Int.reduceEq,br,cD,Im.mk.injEq,Lm.mk.injEq,Gl.mk.injEq,cE,beq_iff_eq,true_and,and_true]
 grind
def acy{x:Im}(h:x.k=3):((x.f==0)&&((x.te==0)&&((x.tl.mn==0)&&((x.tl.mx==0)&&((x.tl.hs==false)&&((x.me.mn==0)&&((x.me.mx==0)&&(x.me.hs==false))))))))=decide (jV x=x):=by
 obtain⟨m,n,k,f,te,⟨t1,t2,t3⟩,⟨m1,m2,m3⟩,⟨v,u⟩⟩:=x;simp only at h;subst h;rw[zT,decide_eq_true_iff];simp only[jV,Int.reduceEq,br,cD,Im.mk.injEq,Lm.mk.injEq,Gl.mk.injEq,cE,beq_iff_eq,true_and,and_true]
 grind
attribute[local go_sem] cU bC du cP df cC cK fU bh ef eS iz gc ql
def acV(x:Im):ac pg J_ [.agg (vM x)] (.int .i64 (imO x)):=by
 refine aD dS ?_;have c4:=UC ⟨x.te,x.tl⟩;have c5:=Uz x.me;have c6:=ZU x.g;have c7:=rC x.f;obtain⟨G,hG⟩:∃G,imO x=G:=⟨_,rfl⟩
 rw[hG];unfold imO at hG;by_cases q:x.k=0
 .have key:=acv q;by_cases z:jV x=x;rotate_left
  .rw[aM z]at key;rw[aF (.inr (.inr z))]at hG;subst hG;simp only[go_sem,dS,be q,key,wE];exact aq [] (by simp only[go_sem];try rfl) (by rfl)
  rw[aL z]at key;rw[au (λw=>by rcases w with w|w|w;omega;omega;exact w z)]at hG;rw[au (show ¬x.k=1 by omega)]at hG;rw[au (show ¬x.k=2 by omega)]at hG;rw[au (show ¬x.k=3 by omega)]at hG;simp only[go_sem,dS,be q,key,pq];refine aj (c7) ?_;cases v:nX x.f
  .rw[aF v]at hG;subst hG;simp only[go_sem];exact aq [] (by simp only[go_sem];try rfl) (by rfl)
  .rw[au (by simp[v])]at hG;subst hG;simp only[go_sem];exact aq [] (by simp only[go_sem];try rfl) (by rfl)
 by_cases q:x.k=1
 .have key:=acw q;by_cases z:jV x=x;rotate_left
  .rw[aM z]at key;rw[aF (.inr (.inr z))]at hG;subst hG;simp only[go_sem,dS,aw (show x.k≠0 by omega),be q,key,wE];exact aq [] (by simp only[go_sem];try rfl) (by rfl)
  rw[aL z]at key;rw[au (λw=>by rcases w with w|w|w;omega;omega;exact w z)]at hG;rw[aF q]at hG;simp only[go_sem,dS,aw (show x.k≠0 by omega),be q,key,pq];refine aa (c4) ?_;subst hG;exact az
 by_cases q:x.k=2
 .have key:=acx q;by_cases z:jV x=x;rotate_left
  .rw[aM z]at key;rw[aF (.inr (.inr z))]at hG;subst hG;simp only[go_sem,dS,aw (show x.k≠0 by omega),aw (show x.k≠1 by omega),be q,key,wE];exact aq [] (by simp only[go_sem];try rfl) (by rfl)
  rw[aL z]at key;rw[au (λw=>by rcases w with w|w|w;omega;omega;exact w z)]at hG;rw[au (show ¬x.k=1 by omega)]at hG;rw[aF q]at hG;simp only[go_sem,dS,aw (show x.k≠0 by omega),aw (show x.k≠1 by omega),be q,key,pq];refine aa (c5) ?_;subst hG;exact az
 by_cases q:x.k=3
 .have key:=acy q;by_cases z:jV x=x;rotate_left
  .rw[aM z]at key;rw[aF (.inr (.inr z))]at hG;subst hG;simp only[go_sem,dS,aw (show x.k≠0 by omega),aw (show x.k≠1 by omega),aw (show x.k≠2 by omega),be q,key,wE];exact aq [] (by simp only[go_sem];try rfl) (by rfl)
  rw[aL z]at key;rw[au (λw=>by rcases w with w|w|w;omega;omega;exact w z)]at hG;rw[au (show ¬x.k=1 by omega)]at hG;rw[au (show ¬x.k=2 by omega)]at hG;rw[aF q]at hG;unfold QE at hG;simp only[go_sem,dS,aw (show x.k≠0 by omega),aw (show x.k≠1 by omega),aw (show x.k≠2 by omega),be q,key,pq];refine aj (c6) ?_;cases v:jK x.g.v
  .rw[aF v]at hG;subst hG;simp only[go_sem];exact aq [] (by simp only[go_sem];try rfl) (by rfl)
  .rw[au (by simp[v])]at hG;subst hG;simp only[go_sem];exact aq [] (by simp only[go_sem];try rfl) (by rfl)
 rw[aF (by omega)]at hG;subst hG;simp only[go_sem,dS,aw (show x.k≠0 by omega),aw (show x.k≠1 by omega),aw (show x.k≠2 by omega),aw (show x.k≠3 by omega)];exact aq [] (by simp only[go_sem];try rfl) (by rfl)
end
section
def imF(m:Md):Fa:=gr (λi x=>ek 2 i (ED x)) 0 m.ims (uZ 2 m.ims.length 32)
attribute[local go_sem] cU bC du cP df cC cK fU bh ef eS iz gc ql
def acU(m:Md)(h:BZ m):ac pg BK [cY m] (gc (imF m)):=by
 refine aD sU ?_;obtain⟨G,hG⟩:∃G,imF m=G:=⟨_,rfl⟩
 rw[hG];have hts:=h.ims;have c0:=qw 2 m.ims.length 32;simp only[gc]at c0;simp only[go_sem,sU,cY];refine aa (c0) ?_;refine an (λq:Nat×Fa=>⟨[(4,.int .i64 q.1),(1,.mp 1 12 0 0),(3,.mp 3 4 0 0),(2,.mp 2 4 0 0)],[(3,ql q.2),(2,ql eB),(1,⟨33,12,[nZ m],true⟩)]⟩) (λq=>q.1<=m.ims.length/\G=gr (λi x=>ek 2 i (ED x)) q.1 (m.ims.drop q.1) q.2) (λq=>m.ims.length-q.1) (0,uZ 2 m.ims.length 32) ⟨cQ _,hG.symm⟩ (Wk.of ?_ ?_) ?_
 .simp only[go_sem];try simp[eB]
 .simp only[go_sem];try simp[eB]
 rintro⟨j,E⟩ ⟨hj,hx⟩;simp only at hj hx;by_cases h1:(j:Int)<(m.ims.length:Int);rotate_left
 .rw[dc (by omega)]at hx;obtain rfl:G=E:=hx;simp only[go_sem,aM h1];exact aq [] (by simp only[go_sem];try rfl) (by rfl)
 have hj':j<m.ims.length:=by omega
 have e8:=dv hj' (by omega);have cn:=eP E;simp only[gc]at cn;by_cases hE:E.c=0;rotate_left
 .rw[qZ E hE]at hx;obtain rfl:G=E:=hx;rw[aw hE]at cn;simp only[go_sem,aL h1];refine aa (cn) ?_;exact aq [] (by simp only[go_sem];try rfl) (by rfl)
 rw[be hE]at cn;rw[qY hj' E hE]at hx;have c1:=Cc (ah m.ims j).m;have c2:=Cc (ah m.ims j).n;have c3:=acV (ah m.ims j);have a1:=rB 2 j (jE (ah m.ims j).m);have n1:=eP (ek 2 j (jE (ah m.ims j).m));have a2:=rB 2 j (jE (ah m.ims j).n);have n2:=eP (ek 2 j (jE (ah m.ims j).n));have a3:=rB 2 j (imO (ah m.ims j));simp only[gc]at a1 n1 a2 n2 a3;simp only[cP]at c3;simp only[go_sem,aL h1];refine aa (cn) ?_;refine⟨by omega,h1,?_⟩;refine aa (c1) ?_;refine aj (a1) ?_;by_cases e0:jE (ah m.ims j).m=0;rotate_left
 .have hf:ED (ah m.ims j)=jE (ah m.ims j).m:=by unfold ED;rw[aF e0]
  rw[hf]at hx;rw[aw (show(ek 2 j (jE (ah m.ims j).m)).c≠0 by rw[Bu];exact e0)]at n1;simp only[go_sem];refine aa (n1) ?_;refine aa (n1) ?_;refine aE (j+1,ek 2 j (jE (ah m.ims j).m)) ⟨show j+1<=m.ims.length by omega,hx⟩ (show m.ims.length-(j+1)<m.ims.length-j by omega) (Wk.of ?_ ?_)
  .simp only[go_sem,e8];try simp
  .simp only[go_sem]
 rw[be (show(ek 2 j (jE (ah m.ims j).m)).c=0 by rw[Bu];exact e0)]at n1;simp only[go_sem];refine aa (n1) ?_;refine⟨by omega,h1,?_⟩;refine aa (c2) ?_;refine aj (a2) ?_;by_cases e1:jE (ah m.ims j).n=0;rotate_left
 .have hf:ED (ah m.ims j)=jE (ah m.ims j).n:=by unfold ED;rw[au (by simp[e0]),aF e1]
  rw[hf]at hx;rw[aw (show(ek 2 j (jE (ah m.ims j).n)).c≠0 by rw[Bu];exact e1)]at n2;simp only[go_sem];refine aa (n2) ?_;refine aE (j+1,ek 2 j (jE (ah m.ims j).n)) ⟨show j+1<=m.ims.length by omega,hx⟩ (show m.ims.length-(j+1)<m.ims.length-j by omega) (Wk.of ?_ ?_)
  .simp only[go_sem,e8];try simp
  .simp only[go_sem]
 have hf:ED (ah m.ims j)=imO (ah m.ims j):=by unfold ED imO;rw[au (by simp[e0]),au (by simp[e1])]
 rw[hf]at hx;rw[be (show(ek 2 j (jE (ah m.ims j).n)).c=0 by rw[Bu];exact e1)]at n2;simp only[go_sem];refine aa (n2) ?_;refine⟨by omega,h1,?_⟩;refine aa (c3) ?_;refine aa (a3) ?_;refine aE (j+1,ek 2 j (imO (ah m.ims j))) ⟨show j+1<=m.ims.length by omega,hx⟩ (show m.ims.length-(j+1)<m.ims.length-j by omega) (Wk.of ?_ ?_)
 .simp only[go_sem,e8];try simp
 .simp only[go_sem]
end
section
def Wp(P:bj->Bool)(i:Nat)(x:Da):Fa:=if x.mo≠0/\(x.mo≠1\/x.me≠0\/x.o.length>0)then ek 10 i 1 else if nX x.me=false then ek 10 i 11 else if x.b.length>4096 then ek 10 i 6 else BY P 10 i x.o
def dsF(P:bj->Bool)(m:Md):Fa:=gr (Wp P) 0 m.ds (uZ 10 m.ds.length 16)
attribute[local go_sem] cU bC du cP df cC cK fU bh ef eS iz gc ql
def agm(P:bj->Bool)(m:Md)(h:BZ m)(hP:∀y,Ow y->ac pg dq [di y] (.bool (P y))):ac pg E9 [cY m] (gc (dsF P m)):=by
 refine aD w9 ?_;obtain⟨G,hG⟩:∃G,dsF P m=G:=⟨_,rfl⟩
 rw[hG];have hts:=h.ds;have c0:=qw 10 m.ds.length 16;simp only[gc]at c0;simp only[go_sem,w9,cY];refine aa (c0) ?_;refine an (λq:Nat×Fa=>⟨[(4,.int .i64 q.1),(1,.mp 1 12 0 0),(3,.mp 3 4 0 0),(2,.mp 2 4 0 0)],[(3,ql q.2),(2,ql eB),(1,⟨33,12,[nZ m],true⟩)]⟩) (λq=>q.1<=m.ds.length/\G=gr (Wp P) q.1 (m.ds.drop q.1) q.2) (λq=>m.ds.length-q.1) (0,uZ 10 m.ds.length 16) ⟨cQ _,hG.symm⟩ (Wk.of ?_ ?_) ?_
 .simp only[go_sem];try simp[eB]
 .simp only[go_sem];try simp[eB]
 rintro⟨j,E⟩ ⟨hj,hx⟩;simp only at hj hx;by_cases h1:(j:Int)<(m.ds.length:Int);rotate_left
 .rw[dc (by omega)]at hx;obtain rfl:G=E:=hx;simp only[go_sem,aM h1];exact aq [] (by simp only[go_sem];try rfl) (by rfl)
 have hj':j<m.ds.length:=by omega
 have e8:=dv hj' (by omega);have cn:=eP E;simp only[gc]at cn;by_cases hE:E.c=0;rotate_left
 .rw[qZ E hE]at hx;obtain rfl:G=E:=hx;rw[aw hE]at cn;simp only[go_sem,aL h1];refine aa (cn) ?_;exact aq [] (by simp only[go_sem];try rfl) (by rfl)
 rw[be hE]at cn;rw[qY hj' E hE]at hx;have sx:=bN hts.2 hj';have c1:=rC (ah m.ds j).me;have a1:=rB 10 j 1;have a2:=rB 10 j 11;have a3:=rB 10 j 6;have cr:=AC P 10 j (ah m.ds j).o sx.1 (λy hy=>hP y (sx.1.2 y hy));simp only[gc]at a1 a2 a3 cr;obtain⟨D,hD⟩:∃D,Wp P j (ah m.ds j)=D:=⟨_,rfl⟩
 rw[hD]at hx;unfold Wp at hD;simp only[go_sem,aL h1];refine aj (cn) ?_;by_cases q1:(ah m.ds j).mo=0
 .rw[au (λq=>q.1 q1)]at hD;simp only[go_sem,bB q1,aw (show(ah m.ds j).mo≠1 by omega)];refine⟨by omega,h1,?_⟩;refine aj (c1) ?_;cases v:nX (ah m.ds j).me
  .rw[aF v]at hD;simp only[go_sem];refine aa (a2) ?_;subst hD;refine aE (j+1,ek 10 j 11) ⟨show j+1<=m.ds.length by omega,hx⟩ (show m.ds.length-(j+1)<m.ds.length-j by omega) (Wk.of ?_ ?_)
   .simp only[go_sem,e8];try simp
   .simp only[go_sem]
  rw[au (by simp[v])]at hD;by_cases q5:((ah m.ds j).b.length:Int)>4096
  .rw[aF (by omega)]at hD;simp only[go_sem,aL q5];refine aa (a3) ?_;subst hD;refine aE (j+1,ek 10 j 6) ⟨show j+1<=m.ds.length by omega,hx⟩ (show m.ds.length-(j+1)<m.ds.length-j by omega) (Wk.of ?_ ?_)
   .simp only[go_sem,e8];try simp
   .simp only[go_sem]
  rw[au (by omega)]at hD;simp only[go_sem,aM q5];refine aa (cr) ?_;subst hD;refine aE (j+1,BY P 10 j (ah m.ds j).o) ⟨show j+1<=m.ds.length by omega,hx⟩ (show m.ds.length-(j+1)<m.ds.length-j by omega) (Wk.of ?_ ?_)
  .simp only[go_sem,e8];try simp
  .simp only[go_sem]
 by_cases q2:(ah m.ds j).mo=1;rotate_left
 .rw[aF ⟨q1,.inl q2⟩]at hD;simp only[go_sem,bv q1,bv q2];refine⟨by omega,h1,?_⟩;refine aa (a1) ?_;subst hD;refine aE (j+1,ek 10 j 1) ⟨show j+1<=m.ds.length by omega,hx⟩ (show m.ds.length-(j+1)<m.ds.length-j by omega) (Wk.of ?_ ?_)
  .simp only[go_sem,e8];try simp
  .simp only[go_sem]
 by_cases q3:(ah m.ds j).me=0;rotate_left
 .rw[aF ⟨q1,.inr (.inl q3)⟩]at hD;simp only[go_sem,bv q1,bB q2,be q2,bv q3];refine⟨by omega,h1,?_⟩;refine aa (a1) ?_;subst hD;refine aE (j+1,ek 10 j 1) ⟨show j+1<=m.ds.length by omega,hx⟩ (show m.ds.length-(j+1)<m.ds.length-j by omega) (Wk.of ?_ ?_)
  .simp only[go_sem,e8];try simp
  .simp only[go_sem]
 by_cases q4:((ah m.ds j).o.length:Int)>0
 .rw[aF ⟨q1,.inr (.inr (by omega))⟩]at hD;simp only[go_sem,bv q1,bB q2,be q2,bB q3,aL q4];refine⟨by omega,h1,?_⟩;refine aa (a1) ?_;subst hD;refine aE (j+1,ek 10 j 1) ⟨show j+1<=m.ds.length by omega,hx⟩ (show m.ds.length-(j+1)<m.ds.length-j by omega) (Wk.of ?_ ?_)
  .simp only[go_sem,e8];try simp
  .simp only[go_sem]
 rw[au (λq=>by rcases q.2 with z|z|z;exact z q2;exact z q3;omega)]at hD;simp only[go_sem,bv q1,bB q2,be q2,bB q3,aM q4];refine⟨by omega,h1,?_⟩;refine aj (c1) ?_;cases v:nX (ah m.ds j).me
 .rw[aF v]at hD;simp only[go_sem];refine aa (a2) ?_;subst hD;refine aE (j+1,ek 10 j 11) ⟨show j+1<=m.ds.length by omega,hx⟩ (show m.ds.length-(j+1)<m.ds.length-j by omega) (Wk.of ?_ ?_)
  .simp only[go_sem,e8];try simp
  .simp only[go_sem]
 rw[au (by simp[v])]at hD;by_cases q5:((ah m.ds j).b.length:Int)>4096
 .rw[aF (by omega)]at hD;simp only[go_sem,aL q5];refine aa (a3) ?_;subst hD;refine aE (j+1,ek 10 j 6) ⟨show j+1<=m.ds.length by omega,hx⟩ (show m.ds.length-(j+1)<m.ds.length-j by omega) (Wk.of ?_ ?_)
  .simp only[go_sem,e8];try simp
  .simp only[go_sem]
 rw[au (by omega)]at hD;simp only[go_sem,aM q5];refine aa (cr) ?_;subst hD;refine aE (j+1,BY P 10 j (ah m.ds j).o) ⟨show j+1<=m.ds.length by omega,hx⟩ (show m.ds.length-(j+1)<m.ds.length-j by omega) (Wk.of ?_ ?_)
 .simp only[go_sem,e8];try simp
 .simp only[go_sem]
