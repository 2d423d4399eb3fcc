import Derived.Test.YtdfofedlbljnhaaGreatDoorXQn
set_option linter.all false
set_option maxRecDepth 100000
set_option maxHeartbeats 40000000
namespace Go.Proofs.YtdfofedlbljnhaaGreatDoor
section
open Go Go.Mw
def w7{α:Type}{g:Nat->Rd α}{d:α}{a:Nat}{e:Int}(he:e≠0):dF g d a e=(d,a,e):=ak he
def Aw{α:Type}{L:Nat}{g:Nat->Rd α}(d:α){a:Nat}(h:aV L (g a)):(∃x k,g a = .ok (x,k)/\dF g d a 0=(x,k,0)/\k<=L)\/∃e k,g a = .error (e,k)/\e≠0/\dF g d a 0=(d,k,e)/\k<=L:=by
 unfold dF;rw[au rfl];rcases h.cs with⟨x,k,hr,hk⟩|⟨e,k,hr,he,hk⟩
 .rw[hr];exact .inl ⟨x,k,rfl,rfl,hk⟩
 .rw[hr];exact .inr ⟨e,k,rfl,he,rfl,hk⟩
def D9(x:Tb):AV:=.agg (rM x)
def zU(x:Gl):AV:=.agg (Ek x)
def tI:Tb:=⟨0,⟨0,0,false⟩⟩
def nA:Gl:=⟨0,false⟩
variable{b:Af}(hb:b.length<1000000000)
include hb
attribute[local go_sem] ro wo wa ce dw
theorem PR{a:Nat}{e:Int}(ha:a<=b.length)(he:e≠0):RM 161 [] true b a e (D9 tI) a e:=by
 refine bA fD ?_;simp only[go_sem,fD];refine ae (Yg hb a e ha) ?_;simp only[go_sem,w7 he];refine ae (aS true b a e) ?_;simp only[go_sem,ei he];refine ae (Pt hb a e ha) ?_;simp only[go_sem,w7 he,pB,j7];refine ae (aS true b a e) ?_;simp only[go_sem,j0 he];exact done [] _ [(1000,ro true b a e)] (by simp only[go_sem,D9,rM,tI]) (by simp only[go_sem]) rfl ⟨rfl,rfl⟩
theorem YW{a:Nat}(ha:a<=b.length):RX 161 [] b a (Ce b a) tI D9:=by
 refine bA fD ?_;simp only[go_sem,fD];refine ae (Yg hb a 0 ha) ?_;unfold Ce;rcases Aw 0 (Ib ha)with⟨t,k,g1,g2,g3⟩|⟨e,k,g1,he,g2,g3⟩
 rotate_left
 .rw[g1,fF];simp only[go_sem,g2];have ha:=g3;refine ae (aS true b k e) ?_;simp only[go_sem,ei he];refine ae (Pt hb _ _ ha) ?_;simp only[go_sem,w7 he,pB,j7];refine ae (aS true b _ _) ?_;simp only[go_sem,j0 he];exact done [] _ [(1000,ro true b k e)] (by simp only[go_sem,D9,rM,tI]) (by simp only[go_sem]) rfl ⟨(_,k,e),dS.er rfl he ha,rfl,rfl⟩
 rw[g1,dq];simp only[go_sem,g2];refine ae (aS true b k 0) ?_;have c1:=Je t;simp only[go_sem];refine ab (c1) ?_;clear ha;have ha:=g3;by_cases ht:t=3\/t=4
 .rw[au ht];simp only[go_sem,xI.2 ht];refine ae (Pt hb k 0 ha) ?_;rcases Aw ⟨0,0,false⟩ (N2 ha)with⟨l,k1,j1,j2,j3⟩|⟨e,k1,j1,he,j2,j3⟩
  .rw[j1,dq];simp only[go_sem,j2,pB,j7];refine aE (aS true b k1 0) ?_;exact done [] _ [(1000,ro true b k1 0)] (by simp only[go_sem,D9,rM,tI]) (by simp only[go_sem]) rfl ⟨(_,k1,0),dS.ok rfl j3,rfl,rfl⟩
  .rw[j1,fF];simp only[go_sem,j2,pB,j7];refine ae (aS true b k1 e) ?_;simp only[go_sem,j0 he];exact done [] _ [(1000,ro true b k1 e)] (by simp only[go_sem,D9,rM,tI]) (by simp only[go_sem]) rfl ⟨(_,k1,e),dS.er rfl he j3,rfl,rfl⟩
 .rw[ak ht];have hf:Ep t=false:=by
   cases h:Ep t
   .rfl
   .exact absurd (xI.1 h) ht
  simp only[go_sem,hf];refine ae (cA b k 12) ?_;have he:(12:Int)≠0:=by decide
  simp only[go_sem];refine ae (Pt hb _ _ ha) ?_;simp only[go_sem,w7 he,pB,j7];refine ae (aS true b _ _) ?_;simp only[go_sem,j0 he];exact done [] _ [(1000,ro true b k 12)] (by simp only[go_sem,D9,rM,tI]) (by simp only[go_sem]) rfl ⟨(_,k,12),dS.er rfl he ha,rfl,rfl⟩
def afO:RP 161 [] b (dF (Ce b) tI) D9:=RP.of (λa ha=>YW hb ha) λa e ha he=>PR hb ha he
theorem PO{a:Nat}{e:Int}(ha:a<=b.length)(he:e≠0):RM 236 [] true b a e (zU nA) a e:=by
 refine bA eN ?_;simp only[go_sem,eN];refine ae (Yg hb a e ha) ?_;simp only[go_sem,w7 he];refine ae (po true b a e ha hb) ?_;simp only[go_sem,ei he,bY,li];refine ae (aS true b a e) ?_;simp only[go_sem,ei he];refine ae (aS true b a e) ?_;simp only[go_sem,j0 he];exact done [] _ [(1000,ro true b a e)] (by simp only[go_sem,zU,Ek,nA]) (by simp only[go_sem]) rfl ⟨rfl,rfl⟩
theorem YU{a:Nat}(ha:a<=b.length):RX 236 [] b a (CV b a) nA zU:=by
 refine bA eN ?_;simp only[go_sem,eN];refine ae (Yg hb a 0 ha) ?_;unfold CV;rcases Aw 0 (Ib ha)with⟨t,k,g1,g2,g3⟩|⟨e,k,g1,he,g2,g3⟩
 rotate_left
 .rw[g1,fF];simp only[go_sem,g2];refine ae (po true b k e g3 hb) ?_;simp only[go_sem,ei he,bY,li];refine ae (aS true b k e) ?_;simp only[go_sem,ei he];refine ae (aS true b k e) ?_;simp only[go_sem,j0 he];exact done [] _ [(1000,ro true b k e)] (by simp only[go_sem,zU,Ek,nA]) (by simp only[go_sem]) rfl ⟨(_,k,e),dS.er rfl he g3,rfl,rfl⟩
 rw[g1,dq];simp only[go_sem,g2];refine ae (po true b k 0 g3 hb) ?_;rcases ow b k with⟨x,h1,h2,h3⟩|⟨h1,h2⟩
 rotate_left
 .rw[h1,fF];simp only[go_sem,nJ,h2];refine aE (aS true b k 3) ?_;refine aE (aS true b k 3) ?_;exact done [] _ [(1000,ro true b k 3)] (by simp only[go_sem,zU,Ek,nA]) (by simp only[go_sem]) rfl ⟨(_,k,3),dS.er rfl (by decide) g3,rfl,rfl⟩
 rw[h1,dq];simp only[go_sem,nJ,h2];clear h1 h2;generalize k+1=k1 at*;refine ae (aS true b (k1:Nat) 0) ?_;rcases N1 x with⟨hx,hd,hn⟩|rfl|rfl
 .rw[au hx];simp only[go_sem,hd];refine aE (cA b k1 4) ?_;refine aE (aS true b k1 4) ?_;exact done [] _ [(1000,ro true b k1 4)] (by simp only[go_sem,zU,Ek,nA]) (by simp only[go_sem]) rfl ⟨(_,k1,4),dS.er rfl (by decide) h3,rfl,rfl⟩
 .rw[ak (by decide)];simp only[go_sem,d0];refine ae (aS true b k1 0) ?_;simp only[go_sem,u0];exact done [] _ [(1000,ro true b k1 0)] (by simp only[go_sem,zU,Ek,nA,show((0:UInt8)==1)=false from rfl]) (by simp only[go_sem]) rfl ⟨(_,k1,0),dS.ok rfl h3,rfl,rfl⟩
 .rw[ak (by decide)];simp only[go_sem,d1];refine ae (aS true b k1 0) ?_;simp only[go_sem,u1];exact done [] _ [(1000,ro true b k1 0)] (by simp only[go_sem,zU,Ek,nA]) (by simp only[go_sem]) rfl ⟨(_,k1,0),dS.ok rfl h3,rfl,rfl⟩
def afL:RP 236 [] b (dF (CV b) nA) zU:=RP.of (λa ha=>YU hb ha) λa e ha he=>PO hb ha he
theorem Ka{a:Nat}{e:Int}(ha:a<=b.length)(he:e≠0):RM 238 [.int .i64 2048] true b a e (exs []) a e:=by
 refine bA gq ?_;simp only[go_sem,gq];refine aq (λq:Unit=>⟨[(6,.int .i64 1),(5,.ms 900 9 0 0),(4,.nl),(1,.int .i64 2048),(0,.mp 1000 4 0 0)],[(900,⟨58,9,[],false⟩),(1000,ro true b a e)]⟩)
  (λq=>True) (λq=>0) () trivial ((Wk.nil _ 5 900 9 58 (by simp only[go_sem]) (.inl (by decide))).trans (Wk.of ?_ ?_)) ?_
 .simp only[go_sem,St.mknil];try simp[go_sem]
 .simp only[go_sem,St.mknil];try simp[go_sem]
 rintro⟨⟩ _;simp only[go_sem,show decide ((1:Int)>0)=true from rfl,show decide (((0:Nat):Int)>=2048)=false from rfl,show decide ((0:Int)>=2048)=false from rfl];refine aE (NJ ha hb he) ?_;refine ae (aS true b a e) ?_;simp only[go_sem,j0 he];refine aJ (Wk.nil _ 4 901 9 58 (by simp only[go_sem]) (.inl (by decide))) [901] (exs []) [(1000,ro true b a e)] ?_ ?_ rfl ⟨rfl,rfl⟩
 .simp only[go_sem,St.mknil];rfl
 .simp only[go_sem,St.mknil]
def VA:RP 238 [.int .i64 2048] b (dF (gX b) []) exs:=RP.of (λa ha=>PN ha hb 2048 ⟨by decide,by decide⟩) λa e ha he=>Ka hb ha he
end
section
open Go Go.Mw
def rlB(u v t st:Nat)(z:List AV):bI :=
 (.seq (.reg [o0 6 (.mov (.c .nl))] [])
 (.seq (.reg [o0 7 (.mov (.c .nl))] [])
 (.seq (.seq (.reg [mv 9 0,
 mv 10 1,
 o0 11 (.call u [(.s 9),(.s 10)]),
 mv 8 11] [9,10,11])
 (.block 0 (.loop (.seq (.seq (.reg [mv 12 8,
 o0 13 (.bin .gtr (.s 12) (.c (.int .i64 0))),
 mv 14 13,
 mt 15 0 14,
 ot 16 14 (.call v [(.s 15)]),
 ot 17 14 (.bin .eql (.s 16) (.c (.int .i64 0))),
 o0 18 (.pick (.s 14) (.s 17) (.c (.bool false)))] [12,13,14,15,16,17])
 (.cond (.s 18)
 .skip
 (.exit 0)))
 (.seq (.block 1 (.reg [mv 21 7,
 mv 22 2,
 mv 23 0,
 o0 24 (.callv (.s 22) [(.s 23)]),
 o0 25 (.bsl t st [z] [(0,(.s 24))]),
 o0 26 (.app t st (.s 21) (.s 25)),
 mv 7 26] [21,22,23,24,25,26]))
 (.reg [mv 19 8,
 o0 20 (.bin .sub (.s 19) (.c (.int .i64 1))),
 mv 8 20] [19,20]))))))
 (.seq (.reg [mv 27 7,
 mv 6 27] [27])
 .ret))))
def aee(st:Nat)(c:List AV):Prop:=c.length=st/\c.all qm=true/\aM (.agg c)=[]/\∀i,c.any (mC i)=false
def pj{b:Af}{most:Int}{a:Nat}{e:Int}:(pC b most a e).1<4294967296:=by
 have:=wW true b a e;unfold pC ba
 repeat' split
 all_goals first|(show(0:Nat)<_;decide)|exact wW _ _ _ _
def HM{α:Type}{one:PS α}{m a:Nat}{e:Int}(he:e≠0):pN one m a e=([],a,e):=by
 cases m with
 | zero=>rfl
 | succ m=>exact ak he
def JU{α:Type}(one:PS α)(m a:Nat):pN one (m+1) a 0=((one a 0).1::(pN one m (one a 0).2.1 (one a 0).2.2).1,(pN one m (one a 0).2.1 (one a 0).2.2).2):=by
 show(if(0:Int)=0 then pb one (λx=>pb (pN one m) λl=>pP (x::l)) a 0 else([],a,0))=_;rw[au rfl];rfl
variable{b:Af}(hb:b.length<1000000000)
include hb
attribute[local go_sem] bZ ro wa
def ss{α:Type}[Inhabited α]{n t st:Nat}{z:List AV}{f:α->List AV}{g:FuncId}{caps:List AV}{one:PS α}(hc:lK pg n=some ⟨28,3,[.tmp 6],rlB 234 151 t st z⟩)
  (hv:∀x,aee st (f x)) (hg:bK pg g=true) (hcp:∀i,caps.any (mP i)=false) (hcv:∀x∈caps,aM x=[]) (ho:RP g caps b one λx=>.agg (f x)) (hw:∃r,dn b one r) (most:Nat) (hm:most<4294967296) :
  RP n [.int .i64 (most:Nat),.fn g caps] b (pL b one most) (λl=>.sl st (l.map f)):=by
 intro a e ha;refine jB (ic:=rlB 234 151 t st z) s9 hc rfl rfl ?_;have q4:∀i x,x∈caps->mP i x=false:=λi x hx=>by
  have:=hcp i;rw[zC]at this;simpa using this x hx
 simp only[go_sem,rlB];refine aE (Yf hb most a e ha) ?_;have hN:=pj (b:=b) (most:=most) (a:=a) (e:=e);have h0:pL b one most a e=([]++(pN one (pC b most a e).1 (pC b most a e).2.1 (pC b most a e).2.2).1,(pN one (pC b most a e).1 (pC b most a e).2.1 (pC b most a e).2.2).2):=rfl;have hk:(pC b most a e).2.1<=b.length:=fg ha;generalize pL b one most a e=R at*;generalize pC b most a e=c at*;obtain⟨N,a0,e0⟩:=c;simp only at hN h0 hk⊢;refine aq (λq:Nat×List α×Nat×Int=>⟨[(8,.int .i64 (q.1:Nat)),(7,.ms 900 st 0 q.2.1.length),(6,.nl),(0,.mp 1000 4 0 0),(1,.int .i64 (most:Nat)),(2,.fn g caps)],[(900,⟨t,st,q.2.1.map f,false⟩),(1000,ro true b q.2.2.1 q.2.2.2)]⟩)
  (λq=>q.2.2.1<=b.length/\q.2.1.length+q.1<=N/\R=(q.2.1++(pN one q.1 q.2.2.1 q.2.2.2).1,(pN one q.1 q.2.2.1 q.2.2.2).2)) (λq=>q.1) (N,[],a0,e0) ⟨hk,by simp,h0⟩ ((Wk.nil _ 7 900 st t (by simp only[go_sem]) (.inl (by decide))).trans (Wk.of ?_ ?_)) ?_
 .simp only[go_sem,St.mknil];try (simp;exact q4 _)
 .simp only[go_sem,St.mknil];try simp[go_sem]
 rintro⟨m,l,a1,e1⟩ ⟨h1,h2,h3⟩;simp only at h1 h2 h3;have v2:∀x,(f x).length=st:=λx=>(hv x).1;have v3:∀x,(f x).all qm=true:=λx=>(hv x).2.1;have v5:∀x i,(f x).any (mC i)=false:=λx i=>(hv x).2.2.2 i;have happ:=λys=>bq 900 t st l.length f l ys rfl;by_cases hm1:(m:Int)>0;rotate_left
 .obtain rfl:m=0:=by omega
  simp only[go_sem,aL hm1];subst h3;refine done [900] _ [(1000,ro true b a1 e1)] ?_ (by simp only[go_sem]) rfl ⟨rfl,rfl⟩;simp only[go_sem,bZ,a_];rw[cI (by rw[bZ];omega)];simp[pN,pP]
 obtain⟨m,rfl⟩:∃k,m=k+1:=⟨m-1,by omega⟩
 have hw1:IntKind.i64.wrap (((m+1:Nat):Int)-1)=(m:Int):=by rw[wi (by omega) (by omega)];omega
 simp only[go_sem,aK hm1];refine ae (aS true b a1 e1) ?_;by_cases he:e1=0;rotate_left
 .simp only[go_sem,ei he];rw[HM he]at h3;subst h3;refine done [900] _ [(1000,ro true b a1 e1)] ?_ (by simp only[go_sem]) rfl ⟨rfl,rfl⟩;simp only[go_sem,bZ,a_];rw[cI (by rw[bZ];omega)]
 subst he;simp only[go_sem];rw[au (I2 hg)];refine⟨hg,?_⟩;refine dW (ho a1 0 h1) ⟨by decide,by decide⟩ (hv _).2.2.1 hcv rfl rfl (by rfl) ?_;rw[JU]at h3;obtain⟨r,hr⟩:=hw;have hk2:=(hr a1 0 h1).1;generalize one a1 0=y at*;obtain⟨x,a2,e2⟩:=y;simp only at h3 hk2⊢;simp only[go_sem,v2,v3,v5,hcp,happ,hw1];refine⟨by omega,aF (m,l++[x],a2,e2) ⟨hk2,by simp;omega,by rw[h3];simp⟩ (show m<m+1 by omega) (Wk.of ?_ ?_)⟩
 .simp only[go_sem];try simp
 .simp only[go_sem];try simp[go_sem]
end
section
open Go Go.Mw
def pM{α:Type}(one:PS α):Nat->PS (List α)
 | 0=>pP []
 | n+1=>pb one λx=>pb (pM one n) λl=>pP (x::l)
def dn.m{α:Type}{b:Af}{one:PS α}{g:Af->Nat->Rd α}(h:dn b one (g b)):∀n,dn b (pM one n) (gN g n b)
 | 0=>dn.pure []
 | n+1=>h.bd (r:=λx k=>fq (gN g n b k) λl k'=>.ok (x::l,k')) λx=>(dn.m h n).bd λl=>dn.pure (x::l)
def afD{α:Type}(one:PS α)(m a:Nat)(e:Int):pM one (m+1) a e=((one a e).1::(pM one m (one a e).2.1 (one a e).2.2).1,(pM one m (one a e).2.1 (one a e).2.2).2):=rfl
def Ia(l:List Int):AV:=.sl 1 (l.map jM)
def E2(b:Af):PS (List Int):=pb (pC b 8) (pM (dF (gV b) 0))
def o7(b:Af):Zr b (gV b):=λa ha=>Ib ha
def qe(b:Af):dn b (E2 b) (zG gV 8 b):=(Ak 8).bd λn=>dn.m (g:=gV) ((o7 b).oks 0) n
def TZ{b:Af}{most:Int}(h0:0<=most){a:Nat}{e:Int}(ha:a<=b.length):((pC b most a e).1:Int)<=most:=by
 unfold pC;by_cases he:e=0
 .subst he;show((ba true b a 0 most).1:Int)<=most;rcases yQ most ha with⟨n,k,_,h2,h3,_⟩|⟨e,_,_,h2⟩
  .rw[h2];exact h3
  .rw[h2];exact h0
 .rw[ei he,DN];exact h0
variable{b:Af}(hb:b.length<1000000000)
include hb
attribute[local go_sem] bZ ro wa
theorem Ao:RP 235 [] b (E2 b) Ia:=by
 intro a e ha;refine bA tU ?_;simp only[go_sem,tU];refine⟨by kernel_rfl,?_⟩;refine aE (Yf hb 8 a e ha) ?_;have hN:=TZ (b:=b) (most:=8) (by decide) (e:=e) ha;have h0:E2 b a e=([]++(pM (dF (gV b) 0) (pC b 8 a e).1 (pC b 8 a e).2.1 (pC b 8 a e).2.2).1,(pM (dF (gV b) 0) (pC b 8 a e).1 (pC b 8 a e).2.1 (pC b 8 a e).2.2).2):=rfl;have hk:(pC b 8 a e).2.1<=b.length:=fg ha;generalize E2 b a e=R at*;generalize pC b 8 a e=c at*;obtain⟨N,a0,e0⟩:=c;simp only at hN h0 hk⊢;refine aq (λq:Nat×List Int×Nat×Int=>⟨[(9,.int .i64 q.2.1.length),(8,.int .i64 N),(4,.ms 900 1 0 q.2.1.length),(2,.nl),(0,.mp 1000 4 0 0)],[(900,⟨54,1,q.2.1.map jM,false⟩),(1000,ro true b q.2.2.1 q.2.2.2)]⟩)
  (λq=>q.2.2.1<=b.length/\q.2.1.length+q.1=N/\R=(q.2.1++(pM (dF (gV b) 0) q.1 q.2.2.1 q.2.2.2).1,(pM (dF (gV b) 0) q.1 q.2.2.1 q.2.2.2).2)) (λq=>q.1) (N,[],a0,e0) ⟨hk,by simp,h0⟩ ((Wk.nil _ 4 900 1 54 (by simp only[go_sem]) (.inl (by decide))).trans (Wk.of ?_ ?_)) ?_
 .simp only[go_sem,St.mknil];try simp[go_sem]
 .simp only[go_sem,St.mknil];try simp[go_sem]
 rintro⟨m,l,a1,e1⟩ ⟨h1,h2,h3⟩;simp only at h1 h2 h3;have happ:=λys=>bq 900 54 1 l.length jM l ys rfl;by_cases hm1:(l.length:Int)<(N:Int);rotate_left
 .obtain rfl:m=0:=by omega
  simp only[go_sem,aL hm1];subst h3;refine done [900] _ [(1000,ro true b a1 e1)] ?_ (by simp only[go_sem]) rfl ⟨rfl,rfl⟩;simp only[go_sem,bZ,a_];rw[cI (by rw[bZ];omega)];simp[pM,pP,Ia]
 obtain⟨m,rfl⟩:∃k,m=k+1:=⟨m-1,by omega⟩
 have hw1:IntKind.i64.wrap ((l.length:Int)+1)=((l.length+1:Nat):Int):=by rw[wi (by omega) (by omega)];omega
 simp only[go_sem,aK hm1];refine ae (Yg hb a1 e1 h1) ?_;rw[afD]at h3;have hk2:=((o7 b).oks 0 a1 e1 h1).1;generalize dF (gV b) 0 a1 e1=y at*;obtain⟨x,a2,e2⟩:=y;simp only at h3 hk2⊢;simp only[go_sem,happ,hw1];refine⟨by omega,aF (m,l++[x],a2,e2) ⟨hk2,by simp;omega,by rw[h3];simp⟩ (show m<m+1 by omega) (Wk.of ?_ ?_)⟩
 .simp only[go_sem];try simp
 .simp only[go_sem];try simp[go_sem,ce]
def Ik(x:Ft):AV:=.agg (my x)
omit hb in
def OP(ps rs:List Int)(e:Int):Ft:=if e=0 then⟨ps,rs⟩else⟨[],[]⟩
def Am(b:Af):PS Ft:=pb (E2 b) λps=>pb (E2 b) λrs=>λa e=>(OP ps rs e,a,e)
def Ny(b:Af):PS Ft:=pb (cT b) λx=>pb (Ch 4 (x≠96)) λ_=>Am b
omit hb in
def abZ:dn b (Am b) (λa=>fq (zG gV 8 b a) λps k1=>fq (zG gV 8 b k1) λrs k2=>.ok (⟨ps,rs⟩,k2)) :=
 (qe b).bd (r:=λps k1=>fq (zG gV 8 b k1) λrs k2=>.ok ((⟨ps,rs⟩:Ft),k2)) λps=>(qe b).bd λrs=>λa e ha=>⟨ha,λ_=>rfl,λhe=>.inl ⟨_,a,rfl,by subst he;rfl⟩⟩
omit hb in
theorem HJ:dn b (Ny b) (gFt b):=by
 have h:=xE.bd (b:=b) (u:=λx=>pb (Ch 4 (x≠96)) λ_=>Am b) (r:=λx k=>if x≠96 then .error (4,k)else fq (zG gV 8 b k) λps k1=>fq (zG gV 8 b k1) λrs k2=>.ok ((⟨ps,rs⟩:Ft),k2)) λx=>dn.fi (by decide) abZ;refine h.congr λa=>?_;unfold gFt;congr 1;funext x k;by_cases hx:x=96
 .rw[ak (λh=>h hx),au hx]
 .rw[au hx,ak hx]
theorem aik:RP 155 [] b (Ny b) Ik:=by
 intro a e ha;refine bA pU ?_;simp only[go_sem,pU];refine ae (An hb a e ha) ?_;have hR:Ny b a e=Am b (cT b a e).2.1 (if(cT b a e).1≠96/\(cT b a e).2.2=0 then 4 else(cT b a e).2.2):=by
  show Am b (Ch 4 ((cT b a e).1≠96) (cT b a e).2.1 (cT b a e).2.2).2.1 (Ch 4 ((cT b a e).1≠96) (cT b a e).2.1 (cT b a e).2.2).2.2=_;unfold Ch pI pF pP;by_cases h1:(cT b a e).1≠96
  .by_cases h2:(cT b a e).2.2=0
   .simp[h1,h2]
   .simp[h1,h2]
  .simp[h1]
 have h2:=(xE a e ha).1;generalize Ny b a e=R at*;generalize cT b a e=y at*;obtain⟨x,a2,e2⟩:=y;simp only at h2 hR⊢;simp only[go_sem];refine ae (aS true b a2 e2) ?_;by_cases he:e2=0;rotate_left
 .simp only[go_sem,ei he];rw[ak (λh=>he h.2)]at hR;refine ae (Ao hb a2 e2 h2) ?_;have k3:=(qe b a2 e2 h2).1;unfold Am at hR;simp only[pb,pP]at hR;generalize E2 b a2 e2=y at*;obtain⟨ps,a3,e3⟩:=y;simp only at k3 hR⊢;simp only[go_sem,Ia];refine ae (Ao hb a3 e3 k3) ?_;have k4:=(qe b a3 e3 k3).1;generalize E2 b a3 e3=y at*;obtain⟨rs,a4,e4⟩:=y;simp only at k4 hR⊢;simp only[go_sem,Ia];refine ae (aS true b a4 e4) ?_;subst hR;by_cases he4:e4=0
  .subst he4;simp only[go_sem];exact done [] _ [(1000,ro true b a4 0)] (by simp only[go_sem,Ik,my,OP]) (by simp only[go_sem]) rfl ⟨rfl,rfl⟩
  .have hz:OP ps rs e4 =⟨[],[]⟩:=ak he4;simp only[go_sem,j0 he4,hz];exact aJ (Wk.nlm _ 2 (r':=my ⟨[],[]⟩) rfl ⟨.inr ⟨rfl,.inl ⟨1,rfl⟩⟩,.inr ⟨rfl,.inl ⟨1,rfl⟩⟩,trivial⟩) [] (Ik ⟨[],[]⟩) [(1000,ro true b a4 e4)] (by simp only[go_sem,Ik,my]) (by simp only[go_sem]) rfl ⟨rfl,rfl⟩
 have ht:(e2==0)=true:=beq_iff_eq.2 he;by_cases hx:x=96
 .subst hx;have hd:((((96:UInt8).toNat:Nat):Int) != 96)=false:=rfl;rw[ak (λh=>h.1 rfl)]at hR;simp only[go_sem,ht,hd];refine ae (Ao hb a2 e2 h2) ?_;have k3:=(qe b a2 e2 h2).1;unfold Am at hR;simp only[pb,pP]at hR;generalize E2 b a2 e2=y at*;obtain⟨ps,a3,e3⟩:=y;simp only at k3 hR⊢;simp only[go_sem,Ia];refine ae (Ao hb a3 e3 k3) ?_;have k4:=(qe b a3 e3 k3).1;generalize E2 b a3 e3=y at*;obtain⟨rs,a4,e4⟩:=y;simp only at k4 hR⊢;simp only[go_sem,Ia];refine ae (aS true b a4 e4) ?_;subst hR;by_cases he4:e4=0
  .subst he4;simp only[go_sem];exact done [] _ [(1000,ro true b a4 0)] (by simp only[go_sem,Ik,my,OP]) (by simp only[go_sem]) rfl ⟨rfl,rfl⟩
  .have hz:OP ps rs e4 =⟨[],[]⟩:=ak he4;simp only[go_sem,j0 he4,hz];exact aJ (Wk.nlm _ 2 (r':=my ⟨[],[]⟩) rfl ⟨.inr ⟨rfl,.inl ⟨1,rfl⟩⟩,.inr ⟨rfl,.inl ⟨1,rfl⟩⟩,trivial⟩) [] (Ik ⟨[],[]⟩) [(1000,ro true b a4 e4)] (by simp only[go_sem,Ik,my]) (by simp only[go_sem]) rfl ⟨rfl,rfl⟩
 .have hd:((x.toNat:Int) != 96)=true:=by
   refine bne_iff_ne.2 λh=>hx (B3.1 ?_);have e:(96:UInt8).toNat=96:=rfl;omega
  have cf:=DY true b a2 e2 4;have h4:(if(true&&e2==0)=true then(4:Int)else e2)=if x≠96/\e2=0 then 4 else e2:=by
   rw[au (show(true&&e2==0)=true from ht),au ⟨hx,he⟩]
  rw[h4]at cf;simp only[go_sem,ht,hd];obtain⟨e2,h42⟩:∃k:Int,(if x≠96/\e2=0 then(4:Int)else e2)=k:=⟨_,rfl⟩
  rw[h42]at cf hR;refine aE (cf) ?_;refine ae (Ao hb a2 e2 h2) ?_;have k3:=(qe b a2 e2 h2).1;unfold Am at hR;simp only[pb,pP]at hR;generalize E2 b a2 e2=y at*;obtain⟨ps,a3,e3⟩:=y;simp only at k3 hR⊢;simp only[go_sem,Ia];refine ae (Ao hb a3 e3 k3) ?_;have k4:=(qe b a3 e3 k3).1;generalize E2 b a3 e3=y at*;obtain⟨rs,a4,e4⟩:=y;simp only at k4 hR⊢;simp only[go_sem,Ia];refine ae (aS true b a4 e4) ?_;subst hR;by_cases he4:e4=0
  .subst he4;simp only[go_sem];exact done [] _ [(1000,ro true b a4 0)] (by simp only[go_sem,Ik,my,OP]) (by simp only[go_sem]) rfl ⟨rfl,rfl⟩
  .have hz:OP ps rs e4 =⟨[],[]⟩:=ak he4;simp only[go_sem,j0 he4,hz];exact aJ (Wk.nlm _ 2 (r':=my ⟨[],[]⟩) rfl ⟨.inr ⟨rfl,.inl ⟨1,rfl⟩⟩,.inr ⟨rfl,.inl ⟨1,rfl⟩⟩,trivial⟩) [] (Ik ⟨[],[]⟩) [(1000,ro true b a4 e4)] (by simp only[go_sem,Ik,my]) (by simp only[go_sem]) rfl ⟨rfl,rfl⟩
end
section
open Go Go.Mw
def Nz(b:Af):PS Gd:=pb (dF (CV b) nA) λg=>pb (dF (gX b) []) λl=>pP ⟨g,l⟩
def Cc(b:Af):Zr b (CV b):=λa ha=>agP ha
def yn(b:Af):Zr b (Ce b):=λa ha=>agR ha
def ym(b:Af):Zr b (yl b):=λa ha=>N2 ha
def eY(b:Af):Zr b (gX b):=λa ha=>ai7 ha
def Nq(b:Af):dn b (Nz b) (gGd b):=((Cc b).oks nA).bd λg=>((eY b).oks []).bd λl=>dn.pure (b:=b) (⟨g,l⟩:Gd)
def Kz(b:Af):PS Ex:=pb (Ps b) λn=>pb (cT b) λx=>pb (Ch 4 (x>3)) λ_=>pb (kv b) λi=>pP ⟨n,(x.toNat:Int),i⟩
def Np(b:Af):dn b (Kz b) (gEx b):=yK.bd λn=>xE.bd λx=>dn.fi (by decide) (kW.bd λi=>dn.pure (b:=b) (⟨n,(x.toNat:Int),i⟩:Ex))
def En:Lm:=⟨0,0,false⟩
def Ir(b:Af):PS Im:=pb (Ps b) λm=>pb (Ps b) λn=>pb (cT b) λx =>
 pI (x=0) (pb (kv b) λf=>pP ⟨m,n,0,f,0,En,En,nA⟩) <|
 pI (x=1) (pb (dF (Ce b) tI) λt=>pP ⟨m,n,1,0,t.e,t.l,En,nA⟩) <|
 pI (x=2) (pb (dF (yl b) En) λl=>pP ⟨m,n,2,0,0,En,l,nA⟩) <|
 pI (x=3) (pb (dF (CV b) nA) λg=>pP ⟨m,n,3,0,0,En,En,g⟩) <| pF 4 ⟨m,n,(x.toNat:Int),0,0,En,En,nA⟩
def Nr(b:Af):dn b (Ir b) (gIm b):=yK.bd λm=>yK.bd λn=>xE.bd λx =>
 (kW.bd λf=>dn.pure _).ite <| (((yn b).oks tI).bd λt=>dn.pure _).ite <| (((ym b).oks En).bd λl=>dn.pure _).ite <| (((Cc b).oks nA).bd λg=>dn.pure _).ite (dn.fail (by decide) _)
variable{b:Af}(hb:b.length<1000000000)
include hb
attribute[local go_sem] bZ ro wa
theorem ail:RP 165 [] b (Nz b) (λx=>.agg (wF x)):=by
 intro a e ha;refine bA nx ?_;simp only[go_sem,nx];refine ae (afL hb a e ha) ?_;have k1:=((Cc b).oks nA a e ha).1;have hR:Nz b a e=(⟨(dF (CV b) nA a e).1,(dF (gX b) [] (dF (CV b) nA a e).2.1 (dF (CV b) nA a e).2.2).1⟩,(dF (gX b) [] (dF (CV b) nA a e).2.1 (dF (CV b) nA a e).2.2).2):=rfl;generalize Nz b a e=R at*;generalize dF (CV b) nA a e=y at*;obtain⟨g,a1,e1⟩:=y;simp only at k1 hR⊢;simp only[go_sem,zU,Ek];refine ae (VA hb a1 e1 k1) ?_;have k2:=((eY b).oks [] a1 e1 k1).1;generalize dF (gX b) [] a1 e1=y at*;obtain⟨l,a2,e2⟩:=y;simp only at k2 hR⊢;subst hR;simp only[go_sem,exs];exact done [] _ [(1000,ro true b a2 e2)] (by simp only[go_sem,wF]) (by simp only[go_sem]) rfl ⟨rfl,rfl⟩
omit hb in
theorem E3(a:Nat)(e c:Int):RM 228 [.int .i64 c] true b a e (.tup []) a (if e=0 then c else e):=by
 have h:=DY true b a e c;by_cases he:e=0
 .subst he;exact h
 .rw[ak he];rw[ei he]at h;exact h
omit hb in
theorem adA(x:UInt8):decide ((x.toNat:Int)>3)=decide (x>3):=by
 have:x>3↔(x.toNat:Int)>3:=by
  have e:(3:UInt8).toNat=3:=rfl;rw[gt_iff_lt,UInt8.lt_iff_toNat_lt];omega
 exact decide_eq_decide.2 this.symm
theorem aij:RP 167 [] b (Kz b) (λx=>.agg (vx x)):=by
 intro a e ha;refine bA nw ?_;simp only[go_sem,nw];refine ae (aco hb a e ha) ?_;have k1:=(yK (b:=b) a e ha).1;have hR:Kz b a e=Kz b a e:=rfl
 conv at hR=>rhs;simp only[Kz,pb,pP,Ch,pI,pF]
 generalize Kz b a e=R at*;generalize Ps b a e=y at*;obtain⟨nm,a1,e1⟩:=y;simp only at k1 hR⊢;simp only[go_sem];refine ae (An hb a1 e1 k1) ?_;have k3:=(xE (b:=b) a1 e1 k1).1;generalize cT b a1 e1=y at*;obtain⟨x,a3,e3⟩:=y;simp only at k3 hR⊢;have w:=wi (n:=(x.toNat:Int)) (by omega) (by have:=UInt8.toNat_lt x;omega);by_cases hx:x>3
 .simp only[au hx]at hR;have d:=(adA x).trans (aK hx);simp only[go_sem,w,d];have cf:=E3 (b:=b) a3 e3 4;obtain⟨e3,h42⟩:∃k:Int,(if e3=0 then(4:Int)else e3)=k:=⟨_,rfl⟩
  rw[h42]at cf hR;refine aE (cf) ?_;refine ae (NB hb a3 e3 k3) ?_;generalize kv b a3 e3=y at*;obtain⟨i,a4,e4⟩:=y;simp only at hR⊢;subst hR;simp only[go_sem];exact done [] _ [(1000,ro true b a4 e4)] (by simp only[go_sem,vx]) (by simp only[go_sem]) rfl ⟨rfl,rfl⟩
 .simp only[ak hx]at hR;have d:=(adA x).trans (aL hx);simp only[go_sem,w,d];refine ae (NB hb a3 e3 k3) ?_;generalize kv b a3 e3=y at*;obtain⟨i,a4,e4⟩:=y;simp only at hR⊢;subst hR;simp only[go_sem];exact done [] _ [(1000,ro true b a4 e4)] (by simp only[go_sem,vx]) (by simp only[go_sem]) rfl ⟨rfl,rfl⟩
end
open Go Go.Mw
def IL(op:Int)(h:vQ op=true):(pA op).length<=6:=by
 rcases zX h with h|h
 .unfold pA;rw[ak (by omega)];simp
 .unfold pA;rw[au (by omega),i0];have:=cH (n:=(op-64512).toNat) (by omega);omega
def Z2{x:be}(h:PL x=true):vQ x.op=true:=by
 unfold PL vp at h;simp only[cW]at h;exact h.1
def Ye{x:be}{l:Af}{e:Int}(h:PL x=true)(hs:¬(qx x.op=3/\4294967296<=x.lb.length)):xF x l e=(wB (e==0) (wB (e==0) l (pA x.op)) (jF (qx x.op) x),e):=by
 unfold xF;rw[au h,ak hs,Bu];rfl
def T2{x:be}{l:Af}{e:Int}(h:PL x=true)(hs:qx x.op=3/\4294967296<=x.lb.length):xF x l e=(wB (e==0) l (pA x.op),if(true&&e==0)=true then 1 else e):=by
 unfold xF;rw[au h,au hs,bY];by_cases he:e=0
 .subst he;rfl
 .rw[ak he,fK.2 he];rfl
def Yd{x:be}{l:Af}{e:Int}(h:PL x=false):xF x l e=(l,if(true&&e==0)=true then 10 else e):=by
 unfold xF;rw[ak (by rw[h];decide),bY];by_cases he:e=0
 .subst he;rfl
 .rw[ak he,fK.2 he];rfl
section
variable{l:Af}{e:Int}(hl:l.length<1000000000)
include hl
attribute[local go_sem] ro wo wa wx rx dw ce az
theorem agp(x:be)(hn:0<=x.n)(hlb:x.lb.length<=9223372036854775807):WM 193 [bn x] true l e (.tup []) (xF x l e).1 (xF x l e).2:=by
 refine bA k8 ?_;have a1:=Kb x (qx x.op) (nW _) (Gn x.op).2.2.1 (by omega);rw[(Gn x.op).1,Z1 _ (nW _) _ _ hn]at a1;replace a1:aj pg 187 [bn x] (.bool (PL x)):=a1;simp only[dw]at a1;cases hp:PL x
 .rw[hp]at a1;rw[Yd hp];simp only[go_sem,k8];refine aa (a1) ?_;refine aT [] (k:=1000) (j:=2000) (ox true l e 10) ?_;simp only[go_sem];exact eW [] _ [(1000,wo 2000 true l (if(true&&e==0)=true then 10 else e)),(2000,wa l)] ⟨rfl,rfl⟩
 rw[hp]at a1;have hk:=Z2 hp;have hol:=IL x.op hk;have hc:=US x.op;rw[(Gn x.op).2.2.1]at hc;have hi:=nW x.op;have hko:=zX hk;have hQ:(¬(qx x.op=3/\4294967296<=x.lb.length)/\xF x l e=(wB (e==0) (wB (e==0) l (pA x.op)) (jF (qx x.op) x),e))\/((qx x.op=3/\4294967296<=x.lb.length)/\xF x l e=(wB (e==0) l (pA x.op),if(true&&e==0)=true then 1 else e)):=by
  by_cases hs:qx x.op=3/\4294967296<=x.lb.length
  .exact .inr ⟨hs,T2 hp hs⟩
  .exact .inl ⟨hs,Ye hp hs⟩
 generalize hq:xF x l e=q at*;clear hq;obtain⟨op,a0,b0,n,k,v,z,ty,lb⟩:=x;simp only at a1 hn hlb hk hol hc hi hko hQ;unfold PL vp mj at hp;simp only[hk,bY]at hp;have hO:(op>=64512/\∃m:Nat,m<256/\IntKind.i64.wrap (op-64512)=(m:Int)/\wB (e==0) l (pA op)=wB (e==0) (wB (e==0) l [252]) (aD m))\/(¬op>=64512/\∃y:UInt8,IntKind.u8.wrap op=(y.toNat:Int)/\wB (e==0) l (pA op)=wB (e==0) l [y]):=by
  rcases hko with h|h
  .refine .inr ⟨by omega,UInt8.ofNat op.toNat,?_,?_⟩
   .rw[ofNat_toNat (by omega),rH];omega
   .unfold pA;rw[ak (by omega)]
  .refine .inl ⟨by omega,(op-64512).toNat,by omega,?_,?_⟩
   .rw[wi (by omega) (by omega)];omega
   .rw[Bu];unfold pA;rw[au (by omega)];rfl
 have hl1:=qA (ok:=e==0) (l:=l) (x:=pA op);replace hl1:(wB (e==0) l (pA op)).length<1100000000:=by omega
 generalize qx op=i at*;clear hko hk hol;generalize wB (e==0) l (pA op)=l1 at*;rcases hO with⟨ho,m,hm,hw,rfl⟩|⟨ho,y,hw,rfl⟩
 have b1:=qA (ok:=e==0) (l:=l) (x:=[252]);rw[dK]at b1;simp only[go_sem,k8];refine ab (a1) ?_;simp only[go_sem,aK ho];refine aT [] (k:=1000) (j:=2000) (vr true l 252 e (by omega)) ?_;simp only[go_sem,hw,bY];refine aT [] (k:=1000) (j:=2000) (tG (l:=wB (e==0) l [252]) (e:=e) (by omega) m (by omega)) ?_;simp only[go_sem];refine ab (hc) ?_;clear hw a1 hc;generalize wB (e==0) (wB (e==0) l [252]) (aD m)=l1 at*;rotate_left;simp only[go_sem,k8];refine ab (a1) ?_;simp only[go_sem,aL ho,hw];refine aT [] (k:=1000) (j:=2000) (vr true l y e (by omega)) ?_;simp only[go_sem,bY];refine ab (hc) ?_;clear hw a1 hc;generalize wB (e==0) l [y]=l1 at*
 all_goals
  rcases(show i=0\/i=1\/i=2\/i=3\/i=4\/i=5\/i=6\/i=7\/i=8\/i=9\/i=10\/i=11\/i=12\/i=13\/i=14\/i=15\/i=16\/i=17\/i=18\/i=19\/i=20 by omega)with rfl|rfl|rfl|rfl|rfl|rfl|rfl|rfl|rfl|rfl|rfl|rfl|rfl|rfl|rfl|rfl|rfl|rfl|rfl|rfl|rfl
  all_goals
   simp only[Int.reduceEq,Int.reduceBEq,false_or,or_false,or_true,true_or,or_self,aN,bB,eC,eH,bY,cW,beq_iff_eq,tK,decide_eq_false_iff_not,gj,sC]at hp
  all_goals try (rcases hQ with⟨_,rfl⟩|⟨⟨h,_⟩,_⟩;rotate_left;omega)
  .simp only[go_sem];have h0:wB (e==0) l1 (jF 0 ⟨op,a0,b0,n,k,v,z,ty,lb⟩)=l1:=agM _ _;rw[h0];exact cR [] _ [(1000,wo 2000 true l1 e),(2000,wa l1)] ⟨rfl,rfl⟩
  .obtain⟨hlb,hty,rfl,rfl,rfl,hb⟩:=hp;simp only[go_sem];refine aT [] (k:=1000) (j:=2000) (L4 (l:=l1) (e:=e) (by omega) k v z hb) ?_;simp only[go_sem];exact cR [] _ [(1000,wo 2000 true (wB (e==0) l1 (Ey k v z)) e),(2000,wa (wB (e==0) l1 (Ey k v z)))] ⟨rfl,rfl⟩
  .obtain⟨⟨rfl,rfl,rfl⟩,hlb,hty,ha,rfl,rfl⟩:=hp;obtain⟨m,rfl,hm⟩:=kS ha;simp only[go_sem];refine aT [] (k:=1000) (j:=2000) (tG (l:=l1) (e:=e) (by omega) m hm) ?_;simp only[go_sem];exact cR [] _ [(1000,wo 2000 true (wB (e==0) l1 (aD m)) e),(2000,wa (wB (e==0) l1 (aD m)))] ⟨rfl,rfl⟩
  .obtain⟨⟨rfl,rfl,rfl⟩,hty,ha,rfl,rfl,hal⟩:=hp;obtain⟨m,rfl,hm⟩:=kS ha;rcases hQ with⟨hs,rfl⟩|⟨⟨_,hs⟩,rfl⟩
   .have hs':lb.length<4294967296:=Nat.lt_of_not_le λh=>hs ⟨rfl,h⟩;have c1:=cH (n:=lb.length) hs';have c2:=yi hal;have b1:=qA (ok:=e==0) (l:=l1) (x:=aD lb.length);have b2:=qA (ok:=e==0) (l:=l1) (x:=aD lb.length++gH lb);rw[cP]at b2;simp only[go_sem];refine aT [] (k:=1000) (j:=2000) (tG (e:=e) (l:=l1) (by omega) lb.length (by omega)) ?_;simp only[go_sem];refine aT [] (k:=1000) (j:=2000) (u7 (l:=wB (e==0) l1 (aD lb.length)) (e:=e) (by omega) lb hal hlb (λ_=>by omega)) ?_;simp only[go_sem,Bu];refine aT [] (k:=1000) (j:=2000) (tG (l:=wB (e==0) l1 (aD lb.length++gH lb)) (e:=e) (by omega) m hm) ?_;simp only[go_sem,Bu];exact cR [] _ [(1000,wo 2000 true (wB (e==0) l1 (aD lb.length++gH lb++aD m)) e),(2000,wa (wB (e==0) l1 (aD lb.length++gH lb++aD m)))] ⟨rfl,rfl⟩
   .have hcu:=H2 true l1 e (lb.length:Int) (by omega);rw[show wU (true&&e==0) l1 e (lb.length:Int)=(l1,if(true&&e==0)=true then 1 else e)by unfold wU;cases (true&&e==0)<;>simp;omega]at hcu;have he1:(if(true&&e==0)=true then(1:Int)else e)≠0:=by
     by_cases he:e=0
     .subst he;decide
     .rw[aA he];exact he
    generalize (if(true&&e==0)=true then(1:Int)else e)=e1 at*;have hz:∀y,wB (e1==0) l1 y=l1:=λy=>by rw[aA he1];rfl
    have hp1:=u7 (l:=l1) (e:=e1) (by omega) lb hal hlb (λh=>absurd h he1);have hp2:=tG (l:=l1) (e:=e1) (by omega) m hm;rw[hz]at hp1 hp2;simp only[go_sem];refine aT [] (k:=1000) (j:=2000) (hcu) ?_;simp only[go_sem];refine aT [] (k:=1000) (j:=2000) (hp1) ?_;simp only[go_sem];refine aT [] (k:=1000) (j:=2000) (hp2) ?_;simp only[go_sem];exact cR [] _ [(1000,wo 2000 true l1 e1),(2000,wa l1)] ⟨rfl,rfl⟩
  .obtain⟨⟨rfl,rfl,rfl⟩,hlb,hty,ha,rfl,rfl⟩:=hp;obtain⟨m,rfl,hm⟩:=kS ha;simp only[go_sem];refine aT [] (k:=1000) (j:=2000) (tG (l:=l1) (e:=e) (by omega) m hm) ?_;simp only[go_sem];exact cR [] _ [(1000,wo 2000 true (wB (e==0) l1 (aD m)) e),(2000,wa (wB (e==0) l1 (aD m)))] ⟨rfl,rfl⟩
  .obtain⟨⟨rfl,rfl,rfl⟩,hlb,hty,ha,hb,rfl⟩:=hp;have hps:=u7 (l:=l1) (e:=e) (by omega) [a0,b0] (by simp only[xc,List.all_nil,ha,hb,Bool.and_self]) (by simp) (λ_=>by simp;omega);have hEn:gH [a0,b0]=aD a0.toNat++aD b0.toNat:=by simp[gH]
   rw[hEn]at hps;simp only[go_sem];refine dY [81] (k:=1000) (j:=2000) (hps) (by decide) (by decide) (by decide) (by decide) (by first|rfl|simp[go_sem,bU]) (by simp[go_sem]) ?_ (by rfl) (by rfl) ?_
   .simp only[go_sem];try simp[go_sem,ce]
   simp only[go_sem];exact cR [] _ [(1000,wo 2000 true (wB (e==0) l1 (aD a0.toNat++aD b0.toNat)) e),(2000,wa (wB (e==0) l1 (aD a0.toNat++aD b0.toNat)))] ⟨rfl,rfl⟩
  .obtain⟨⟨rfl,rfl,rfl⟩,hlb,rfl,rfl,rfl,hlen,hv⟩:=hp;have b1:=qA (ok:=e==0) (l:=l1) (x:=aD 1);have c1:=cH (n:=1) (by omega);simp only[go_sem];refine aT [] (k:=1000) (j:=2000) (tG (e:=e) (l:=l1) (by omega) 1 (by omega)) ?_;simp only[go_sem];refine⟨by decide,by omega,?_⟩;refine aT [] (k:=1000) (j:=2000) (yY (l:=wB (e==0) l1 (aD 1)) (e:=e) (by omega) (ac ty 0) hv) ?_;simp only[go_sem,Bu];exact cR [] _ [(1000,wo 2000 true (wB (e==0) l1 (aD 1++[(vo (ac ty 0)).1])) e),(2000,wa (wB (e==0) l1 (aD 1++[(vo (ac ty 0)).1])))] ⟨rfl,rfl⟩
  .obtain⟨⟨rfl,rfl,rfl⟩,hlb,hty,ha,rfl,rfl⟩:=hp;obtain⟨m,rfl,hm⟩:=kS ha;simp only[go_sem];refine aT [] (k:=1000) (j:=2000) (tG (l:=l1) (e:=e) (by omega) m hm) ?_;simp only[go_sem];exact cR [] _ [(1000,wo 2000 true (wB (e==0) l1 (aD m)) e),(2000,wa (wB (e==0) l1 (aD m)))] ⟨rfl,rfl⟩
  .obtain⟨⟨rfl,rfl,rfl⟩,hlb,hty,ha,rfl,rfl⟩:=hp;obtain⟨m,rfl,hm⟩:=kS ha;simp only[go_sem];refine aT [] (k:=1000) (j:=2000) (tG (l:=l1) (e:=e) (by omega) m hm) ?_;simp only[go_sem];exact cR [] _ [(1000,wo 2000 true (wB (e==0) l1 (aD m)) e),(2000,wa (wB (e==0) l1 (aD m)))] ⟨rfl,rfl⟩
  .obtain⟨⟨rfl,rfl,rfl⟩,hlb,hty,ha,rfl,rfl⟩:=hp;obtain⟨m,rfl,hm⟩:=kS ha;simp only[go_sem];refine aT [] (k:=1000) (j:=2000) (tG (l:=l1) (e:=e) (by omega) m hm) ?_;simp only[go_sem];exact cR [] _ [(1000,wo 2000 true (wB (e==0) l1 (aD m)) e),(2000,wa (wB (e==0) l1 (aD m)))] ⟨rfl,rfl⟩
  .obtain⟨⟨rfl,rfl,rfl⟩,hlb,hty,ha,hb,rfl⟩:=hp;have hps:=u7 (l:=l1) (e:=e) (by omega) [a0,b0] (by simp only[xc,List.all_nil,ha,hb,Bool.and_self]) (by simp) (λ_=>by simp;omega);have hEn:gH [a0,b0]=aD a0.toNat++aD b0.toNat:=by simp[gH]
   rw[hEn]at hps;simp only[go_sem];refine dY [81] (k:=1000) (j:=2000) (hps) (by decide) (by decide) (by decide) (by decide) (by first|rfl|simp[go_sem,bU]) (by simp[go_sem]) ?_ (by rfl) (by rfl) ?_
   .simp only[go_sem];try simp[go_sem,ce]
   simp only[go_sem];exact cR [] _ [(1000,wo 2000 true (wB (e==0) l1 (aD a0.toNat++aD b0.toNat)) e),(2000,wa (wB (e==0) l1 (aD a0.toNat++aD b0.toNat)))] ⟨rfl,rfl⟩
  .obtain⟨⟨rfl,rfl,rfl⟩,hlb,hty,ha,hb,rfl⟩:=hp;have hps:=u7 (l:=l1) (e:=e) (by omega) [a0,b0] (by simp only[xc,List.all_nil,ha,hb,Bool.and_self]) (by simp) (λ_=>by simp;omega);have hEn:gH [a0,b0]=aD a0.toNat++aD b0.toNat:=by simp[gH]
   rw[hEn]at hps;simp only[go_sem];refine dY [81] (k:=1000) (j:=2000) (hps) (by decide) (by decide) (by decide) (by decide) (by first|rfl|simp[go_sem,bU]) (by simp[go_sem]) ?_ (by rfl) (by rfl) ?_
   .simp only[go_sem];try simp[go_sem,ce]
   simp only[go_sem];exact cR [] _ [(1000,wo 2000 true (wB (e==0) l1 (aD a0.toNat++aD b0.toNat)) e),(2000,wa (wB (e==0) l1 (aD a0.toNat++aD b0.toNat)))] ⟨rfl,rfl⟩
  .obtain⟨⟨rfl,rfl,rfl⟩,hlb,hty,ha,rfl,rfl⟩:=hp;obtain⟨m,rfl,hm⟩:=kS ha;simp only[go_sem];refine aT [] (k:=1000) (j:=2000) (tG (l:=l1) (e:=e) (by omega) m hm) ?_;simp only[go_sem];exact cR [] _ [(1000,wo 2000 true (wB (e==0) l1 (aD m)) e),(2000,wa (wB (e==0) l1 (aD m)))] ⟨rfl,rfl⟩
  .obtain⟨⟨rfl,rfl,rfl⟩,hlb,hty,rfl,hb,rfl⟩:=hp;obtain⟨m,rfl,hm⟩:=kS hb;simp only[go_sem];refine aT [] (k:=1000) (j:=2000) (tG (l:=l1) (e:=e) (by omega) m hm) ?_;simp only[go_sem];exact cR [] _ [(1000,wo 2000 true (wB (e==0) l1 (aD m)) e),(2000,wa (wB (e==0) l1 (aD m)))] ⟨rfl,rfl⟩
  .obtain⟨⟨rfl,rfl,rfl⟩,hlb,hty,ha,hb,rfl⟩:=hp;have hps:=u7 (l:=l1) (e:=e) (by omega) [a0,b0] (by simp only[xc,List.all_nil,ha,hb,Bool.and_self]) (by simp) (λ_=>by simp;omega);have hEn:gH [a0,b0]=aD a0.toNat++aD b0.toNat:=by simp[gH]
   rw[hEn]at hps;simp only[go_sem];refine dY [81] (k:=1000) (j:=2000) (hps) (by decide) (by decide) (by decide) (by decide) (by first|rfl|simp[go_sem,bU]) (by simp[go_sem]) ?_ (by rfl) (by rfl) ?_
   .simp only[go_sem];try simp[go_sem,ce]
   simp only[go_sem];exact cR [] _ [(1000,wo 2000 true (wB (e==0) l1 (aD a0.toNat++aD b0.toNat)) e),(2000,wa (wB (e==0) l1 (aD a0.toNat++aD b0.toNat)))] ⟨rfl,rfl⟩
  .obtain⟨⟨rfl,rfl,rfl⟩,hlb,hty,ha,hb,rfl⟩:=hp;have hps:=u7 (l:=l1) (e:=e) (by omega) [a0,b0] (by simp only[xc,List.all_nil,ha,hb,Bool.and_self]) (by simp) (λ_=>by simp;omega);have hEn:gH [a0,b0]=aD a0.toNat++aD b0.toNat:=by simp[gH]
   rw[hEn]at hps;simp only[go_sem];refine dY [81] (k:=1000) (j:=2000) (hps) (by decide) (by decide) (by decide) (by decide) (by first|rfl|simp[go_sem,bU]) (by simp[go_sem]) ?_ (by rfl) (by rfl) ?_
   .simp only[go_sem];try simp[go_sem,ce]
   simp only[go_sem];exact cR [] _ [(1000,wo 2000 true (wB (e==0) l1 (aD a0.toNat++aD b0.toNat)) e),(2000,wa (wB (e==0) l1 (aD a0.toNat++aD b0.toNat)))] ⟨rfl,rfl⟩
  .obtain⟨⟨rfl,rfl,rfl⟩,hlb,hty,ha,rfl,rfl⟩:=hp;obtain⟨m,rfl,hm⟩:=kS ha;simp only[go_sem];refine aT [] (k:=1000) (j:=2000) (tG (l:=l1) (e:=e) (by omega) m hm) ?_;simp only[go_sem];exact cR [] _ [(1000,wo 2000 true (wB (e==0) l1 (aD m)) e),(2000,wa (wB (e==0) l1 (aD m)))] ⟨rfl,rfl⟩
  .obtain⟨⟨rfl,rfl,rfl⟩,hlb,hty,ha1,ha2,hb,hn2⟩:=hp;obtain⟨m3,rfl⟩:=Ks hn;have w3:IntKind.i64.wrap (m3:Int)=(m3:Int):=wi (by omega) (by omega);by_cases h0:b0=0
   .subst h0;obtain⟨m,rfl⟩:=Ks ha1;have b1:=qA (ok:=e==0) (l:=l1) (x:=aD m);have c1:=cH (n:=m) (by omega);simp only[go_sem];refine aT [] (k:=1000) (j:=2000) (tG (e:=e) (l:=l1) (by omega) m (by omega)) ?_;simp only[go_sem,w3];refine aT [] (k:=1000) (j:=2000) (tG (l:=wB (e==0) l1 (aD m)) (e:=e) (by omega) m3 (by omega)) ?_;simp only[go_sem,Bu];exact cR [] _ [(1000,wo 2000 true (wB (e==0) l1 (aD m++aD m3)) e),(2000,wa (wB (e==0) l1 (aD m++aD m3)))] ⟨rfl,rfl⟩
   .have hE:jF 17 ⟨op,a0,b0,m3,0,0,0,ty,lb⟩=aD (a0+64).toNat++aD b0.toNat++aD m3:=by
     simp only[jF,Int.reduceEq,false_or,or_false,or_true,true_or,or_self,aN,bB,h0,eB]
    have w1:IntKind.i64.wrap (a0+64)=a0+64:=wi (by omega) (by omega);have h64:qn (a0+64)=true:=by simp only[qn,cW,gj];omega
    have hps:=u7 (l:=l1) (e:=e) (by omega) [a0+64,b0] (by simp only[xc,List.all_nil,hb,h64,Bool.and_self]) (by simp) (λ_=>by simp;omega);have hEn:gH [a0+64,b0]=aD (a0+64).toNat++aD b0.toNat:=by simp[gH]
    have hb':b0>=0/\b0<4294967296:=by simpa only[qn,cW,gj]using hb
    have b1:=qA (ok:=e==0) (l:=l1) (x:=aD (a0+64).toNat++aD b0.toNat);have c1:=cH (n:=(a0+64).toNat) (by omega);have c2:=cH (n:=b0.toNat) (by omega);rw[cP]at b1;rw[hEn]at hps;rw[hE];simp only[go_sem,aA h0,w1];refine dY [108] (k:=1000) (j:=2000) (hps) (by decide) (by decide) (by decide) (by decide) (by first|rfl|simp[go_sem,bU]) (by simp[go_sem]) ?_ (by rfl) (by rfl) ?_
    .simp only[go_sem];try simp[go_sem,ce]
    simp only[go_sem,w3];refine aT [] (k:=1000) (j:=2000) (tG (l:=wB (e==0) l1 (aD (a0+64).toNat++aD b0.toNat)) (e:=e) (by omega) m3 (by omega)) ?_;simp only[go_sem,Bu];exact cR [] _ [(1000,wo 2000 true (wB (e==0) l1 (aD (a0+64).toNat++aD b0.toNat++aD m3)) e),(2000,wa (wB (e==0) l1 (aD (a0+64).toNat++aD b0.toNat++aD m3)))] ⟨rfl,rfl⟩
  .obtain⟨⟨rfl,rfl,rfl⟩,hlb,hty,rfl,rfl,hn2⟩:=hp;simp only[go_sem];refine aT [] (k:=1000) (j:=2000) (adb true l1 e (by omega) n) ?_;simp only[go_sem,bY,wS];exact cR [] _ [(1000,wo 2000 true (wB (e==0) l1 (gQ (PK n))) e),(2000,wa (wB (e==0) l1 (gQ (PK n))))] ⟨rfl,rfl⟩
  .obtain⟨⟨rfl,rfl,rfl⟩,hlb,hty,rfl,rfl⟩:=hp;simp only[go_sem];refine aT [] (k:=1000) (j:=2000) (ade true l1 e (by omega) n) ?_;simp only[go_sem,bY,wS];exact cR [] _ [(1000,wo 2000 true (wB (e==0) l1 (gQ (IntKind.i64.wrap n))) e),(2000,wa (wB (e==0) l1 (gQ (IntKind.i64.wrap n))))] ⟨rfl,rfl⟩
  .obtain⟨⟨rfl,rfl,rfl⟩,hlb,hty,ha,rfl,rfl⟩:=hp;have hv:BZ a0=true:=by rcases ha with rfl|rfl<;>rfl
   simp only[go_sem];refine aT [] (k:=1000) (j:=2000) (yY (l:=l1) (e:=e) (by omega) a0 hv) ?_;simp only[go_sem];exact cR [] _ [(1000,wo 2000 true (wB (e==0) l1 ([(vo a0).1])) e),(2000,wa (wB (e==0) l1 ([(vo a0).1])))] ⟨rfl,rfl⟩
end
section
attribute[local go_sem] ro wo wa wx rx dw ce az
section
variable{l:Af}(hl:l.length<2000000000)
include hl
end
end
section
variable{l:Af}{e:Int}(hl:l.length<1000000000)
include hl
attribute[local go_sem] ro wo wa wx rx dw ce az
end
def Ru{d:Af}(h:(dm d 32).2.2=0):(aD (dm d 32).1).length<=(dm d 32).2.1:=by
 unfold dm at h⊢;by_cases h1:gP d 32≠0
 .rw[au h1]at h;exact absurd h h1
 rw[ak h1]at h⊢;by_cases h2:(ac d (cx d 32)).toNat/2^uB 32 (cx d 32)≠0
 .rw[au h2]at h;exact absurd h (show ¬(4:Int)=0 by decide)
 rw[ak h2];refine mi (k:=cx d 32) ?_;have h3:=H_ (d.take (cx d 32+1));rcases fY d 32 with⟨g1,g2,g3,g4⟩|⟨g1,g2⟩
 .rw[qD,B4 (by omega)]at h3;have h4:=Nat.mod_le (cY (d.take (cx d 32+1))) 18446744073709551616;omega
 .rcases g1 with g1|g1<;>rw[g1]at h1<;>exact absurd (by decide) h1
def Rt{d:Af}{bits:Nat}(hb:1<=bits/\bits<=64)(h:(di d bits).2.2=0):(gQ (di d bits).1).length<=(di d bits).2.1/\-(2^(bits-1):Int)<=(di d bits).1/\(di d bits).1<2^(bits-1):=by
 unfold di at h⊢;by_cases h1:gP d bits≠0
 .rw[au h1]at h;exact absurd h h1
 rw[ak h1]at h⊢;by_cases h2:(ac d (cx d bits)).toNat/2^(uB bits (cx d bits)-1)≠0/\(ac d (cx d bits)).toNat/2^(uB bits (cx d bits)-1)≠127/2^(uB bits (cx d bits)-1)
 .rw[au h2]at h;exact absurd h (show ¬(4:Int)=0 by decide)
 rw[ak h2];rcases fY d bits with⟨g1,g2,g3,g4⟩|⟨g1,g2⟩
 rotate_left
 .rcases g1 with g1|g1<;>rw[g1]at h1<;>exact absurd (by decide) h1
 have hc:=KT hb g3;have hci:uB bits (cx d bits)-1+7*cx d bits<=bits-1:=by
  unfold uB mst at*;split<;>omega
 generalize uB bits (cx d bits)=c at*;generalize cx d bits=i at*;have v1:=Ax g2;have v2:=kr (Nat.le_of_lt g2);have hpow:2^(c-1)*2^(7*i)<=2^(bits-1):=by rw[<-Nat.pow_add];exact Ig (by decide) hci
 have hmax:2^(bits-1)<=2^63:=Ig (by decide) (by omega);have e128:(2:Int)^(7*(i+1))=128*((2^(7*i):Nat):Int):=by
  rw[show 7*(i+1)=7*i+7 by omega,Int.pow_add,Int.mul_comm,Int.natCast_pow];rfl
 have eI:(2:Int)^(bits-1)=((2^(bits-1):Nat):Int):=by rw[Int.natCast_pow];rfl
 have ep:(128:Int)^i=((2^(7*i):Nat):Int):=acz i;have key:-((2^(c-1)*2^(7*i):Nat):Int)<=(cY (d.take (i+1)):Int)-(if 64<=(ac d i).toNat%128 then 2^(7*(i+1))else 0)/\(cY (d.take (i+1)):Int)-(if 64<=(ac d i).toNat%128 then 2^(7*(i+1))else 0)<((2^(c-1)*2^(7*i):Nat):Int):=by
  rw[v1,e128,AI g4];generalize (ac d i).toNat=t at*;generalize 2^(7*i)=p at*;generalize cY (d.take i)=lo at*;have:c=1\/c=2\/c=3\/c=4\/c=5\/c=6\/c=7:=by omega
  by_cases ht:t<64
  .rw[ak (by omega)];have ht2:t<=2^(c-1)-1:=by rcases this with rfl|rfl|rfl|rfl|rfl|rfl|rfl<;>simp at h2⊢ <;> omega
   have hm:=m7 p ht2;have hq:1<=2^(c-1):=Nat.one_le_two_pow;generalize 2^(c-1)=q at*;obtain⟨q,rfl⟩:∃q',q=q'+1:=⟨q-1,by omega⟩
   rw[Nat.add_sub_cancel]at hm;rw[kz,Nat.one_mul];omega
  .rw[au (by omega)];have ht2:128-2^(c-1)<=t:=by rcases this with rfl|rfl|rfl|rfl|rfl|rfl|rfl<;>simp at h2⊢ <;> omega
   have ht3:t<=127:=by omega
   have hm:=m7 p ht2;have hm3:=m7 p ht3;have hq:2^(c-1)<=128:=by rcases this with rfl|rfl|rfl|rfl|rfl|rfl|rfl<;>decide
   rw[Nat.sub_mul]at hm;have hq2:=m7 p hq;generalize 2^(c-1)*p=qp at*;have hq1:0<=qp:=cm _;refine⟨by omega,by omega⟩
 have hq64:2^(c-1)*2^(7*i)<=64*2^(7*i):=m7 _ (show 2^(c-1)<=2^6 from Ig (by decide) (by omega));have es:Bq d i=(cY (d.take (i+1)):Int)-(if 64<=(ac d i).toNat%128 then 2^(7*(i+1))else 0):=by
  unfold Bq;exact wi (by omega) (by omega)
 simp only;rw[es,eI];refine⟨yN (k:=i) ?_ ?_,by omega,by omega⟩
 .rw[ep];omega
 .rw[ep];omega
def dj{b:Af}{a n k:Nat}(h:gU b a = .ok (n,k)):a+(aD n).length<=k/\n<4294967296:=by
 have h1:=B_ (b.drop a) 32 (by decide);unfold gU at h;split at h
 .rename_i h2;have:=Ru h2;cases h;exact⟨by omega,h1⟩
 .cases h
def K7{bits:Nat}{b:Af}{a k:Nat}{n:Int}(hb:1<=bits/\bits<=64)(h:gS bits b a = .ok (n,k)):a+(gQ n).length<=k/\-(2^(bits-1):Int)<=n/\n<2^(bits-1):=by
 unfold gS at h;split at h
 .rename_i h2;have:=Rt hb h2;cases h;exact⟨by omega,this.2⟩
 .cases h
def RV{b:Af}{a k n:Nat}{most:Int}(h:gC b a most = .ok (n,k)):a+(aD n).length<=k/\(n:Int)<=most:=by
 unfold gC at h;split at h
 .rename_i x k' h1;have:=dj h1;split at h
  .cases h
  .cases h;omega
 .cases h
def TY{x:UInt8}(h:(ov x).2=true):BZ (ov x).1=true:=by
 unfold ov at h⊢
 repeat' split
 all_goals first|rfl|(simp_all;done)
def K8{b:Af}{a k:Nat}{t:Int}(h:gV b a = .ok (t,k)):a+1<=k/\BZ t=true:=by
 unfold gV at h;split at h
 .rename_i x k' h1;have:=GQ h1;split at h
  .rename_i h2;cases h;exact⟨by omega,TY h2⟩
  .cases h
 .cases h
def abb{b:Af}{a k:Nat}{q:Int×Int×Int}(h:gK b a = .ok (q,k)):a+(Ey q.1 q.2.1 q.2.2).length<=k/\Ok q.1 q.2.1 q.2.2=true:=by
 unfold gK at h;split at h
 .rename_i n k' h1;obtain⟨u1,u2,u3⟩:=K7 (by decide) h1;have up:=Uc n;split at h
  .cases h;exact⟨by simp only[Ey,aN,dK];omega,rfl⟩
  split at h
  .rename_i h0;cases h;refine⟨u1,?_⟩;simp at u2 u3;simp only[Ok,qn,Int.reduceEq,bB,aN,beq_self_eq_true,bY,cW,gj];omega
  split at h
  .rename_i h3;cases h;refine⟨by simp only[Ey,Int.reduceEq,bB,aN,dK];omega,?_⟩;have:=TY h3.2;simp only[Ok,Int.reduceEq,bB,aN,this,beq_self_eq_true,bY]
  .cases h
 .cases h
def Em{n:Nat}(h:n<4294967296):qn (n:Int)=true:=by
 simp only[qn,cW,gj];omega
def RZ:∀(n:Nat){b:Af}{a k:Nat}{l:List Int},gL n b a = .ok (l,k)->a+(gH l).length<=k/\l.all qn=true/\l.length=n
 | 0,b,a,k,l,h=>by cases h;exact⟨a_ _,rfl,rfl⟩
 | n+1,b,a,k,l,h=>by
  unfold gL at h;split at h
  .rename_i x k1 h1;have u:=dj h1;split at h
   .rename_i l2 k2 h2;have v:=RZ n h2;cases h;refine⟨?_,?_,by simp;omega⟩
    .rw[show gH ((x:Int)::l2)=aD x++gH l2 from rfl,cP];omega
    .simp only[xc,Em u.2,v.2.1,bY]
   .cases h
  .cases h
def abf{b:Af}{a k:Nat}{op:Int}(h:gO b a = .ok (op,k)):a+(pA op).length<=k/\vQ op=true:=by
 refine⟨?_,(R0 h).2.2⟩;unfold gO at h;split at h
 .rename_i x k' h1;have q1:=GQ h1;split at h
  .split at h
   .rename_i n k2 h2;have q2:=dj h2;split at h
    .cases h;unfold pA;rw[au (by omega),i0,show(64512+(n:Int)-64512).toNat=n by omega];omega
    .cases h
   .cases h
  .split at h
   .cases h;have:=x.toNat_lt;unfold pA;rw[ak (by omega),dK];omega
   .cases h
 .cases h
def agF(n:Int):0<=IntKind.u64.wrap n/\IntKind.u64.wrap n<18446744073709551616:=by rw[mq];omega
def UK{m:Int}(h:-2147483648<=m/\m<2147483648):PK (IntKind.u64.wrap (IntKind.u32.wrap m))=m/\IntKind.u64.wrap (IntKind.u32.wrap m)<4294967296:=by
 have e:IntKind.u64.wrap (IntKind.u32.wrap m)=m%4294967296:=by
  rw[mq,aai];omega
 rw[e];unfold PK;rw[u_,aah,aai];omega
def UM{m:Int}(h:-9223372036854775808<=m/\m<9223372036854775808):IntKind.i64.wrap (IntKind.u64.wrap m)=m:=by
 rw[u_,mq];omega
def MC(i:Int)(x:be)(a k:Nat):Prop:=vp i true x=true/\x.lb.length<=64/\(0<=x.n/\x.n<18446744073709551616)/\a+(jF i x).length<=k
def EH:z0.lb.length<=64:=by decide
def In:0<=z0.n/\z0.n<18446744073709551616:=by decide
def abe{i:Int}(hi:0<=i/\i<=20){b:Af}{a k:Nat}{x:be}(h:gM i b a = .ok (x,k)):MC i x a k:=by
 unfold MC;rcases(show i=0\/i=1\/i=2\/i=3\/i=4\/i=5\/i=6\/i=7\/i=8\/i=9\/i=10\/i=11\/i=12\/i=13\/i=14\/i=15\/i=16\/i=17\/i=18\/i=19\/i=20 by omega)with rfl|rfl|rfl|rfl|rfl|rfl|rfl|rfl|rfl|rfl|rfl|rfl|rfl|rfl|rfl|rfl|rfl|rfl|rfl|rfl|rfl
 all_goals
  simp only[gM,Int.reduceEq,false_or,or_false,or_true,true_or,or_self,aN,bB]at h
 .cases h;exact⟨rfl,EH,In,a_ _⟩
 .split at h
  .rename_i q0 q1 q2 k1 h1;obtain⟨u1,u2⟩:=abb h1;cases h;refine⟨?_,EH,In,?_⟩
   .simp only[vp,mj,z0,Int.reduceEq,Int.reduceBEq,false_or,or_false,or_true,true_or,or_self,aN,bB,eC,eH,bY,qE,beq_self_eq_true,cj,rJ,gt_iff_lt,rK,decide_false,cG,u2]
   .exact u1
  .cases h
 .split at h
  .rename_i m k1 h1;cases h;obtain⟨u1,u2⟩:=dj h1;refine⟨?_,EH,In,?_⟩
   .simp only[vp,mj,z0,Int.reduceEq,Int.reduceBEq,false_or,or_false,or_true,true_or,or_self,aN,bB,eC,eH,bY,qE,beq_self_eq_true,cj,rJ,gt_iff_lt,rK,decide_false,cG,Em u2]
   .simp only[jF,Int.reduceEq,false_or,or_false,or_true,true_or,or_self,aN,bB,eB,cP,dK,cj];omega
  .cases h
 .split at h
  .rename_i n k1 h1;obtain⟨u1,u2⟩:=RV h1;split at h
   .rename_i l k2 h2;obtain⟨p1,p2,p3⟩:=RZ _ h2;split at h
    .rename_i m k3 h3;obtain⟨v1,v2⟩:=dj h3;cases h;refine⟨?_,?_,In,?_⟩
     .simp only[vp,mj,z0,Int.reduceEq,Int.reduceBEq,false_or,or_false,or_true,true_or,or_self,aN,bB,eC,eH,bY,qE,beq_self_eq_true,cj,rJ,gt_iff_lt,rK,decide_false,cG,Em v2,p2]
     .show l.length<=64;omega
     .simp only[jF,Int.reduceEq,false_or,or_false,or_true,true_or,or_self,aN,bB,eB,cP,dK,cj];rw[p3];omega
    .cases h
   .cases h
  .cases h
 .split at h
  .rename_i m k1 h1;cases h;obtain⟨u1,u2⟩:=dj h1;refine⟨?_,EH,In,?_⟩
   .simp only[vp,mj,z0,Int.reduceEq,Int.reduceBEq,false_or,or_false,or_true,true_or,or_self,aN,bB,eC,eH,bY,qE,beq_self_eq_true,cj,rJ,gt_iff_lt,rK,decide_false,cG,Em u2]
   .simp only[jF,Int.reduceEq,false_or,or_false,or_true,true_or,or_self,aN,bB,eB,cP,dK,cj];omega
  .cases h
 .split at h
  .rename_i m k1 h1;obtain⟨u1,u2⟩:=dj h1;split at h
   .rename_i m2 k2 h2;obtain⟨p1,p2⟩:=dj h2;cases h;refine⟨?_,EH,In,?_⟩
    .simp only[vp,mj,z0,Int.reduceEq,Int.reduceBEq,false_or,or_false,or_true,true_or,or_self,aN,bB,eC,eH,bY,qE,beq_self_eq_true,cj,rJ,gt_iff_lt,rK,decide_false,cG,Em u2,Em p2]
    .simp only[jF,Int.reduceEq,false_or,or_false,or_true,true_or,or_self,aN,bB,eB,cP,dK,cj];omega
   .cases h
  .cases h
 .split at h
  .rename_i m k1 h1;obtain⟨u1,u2⟩:=dj h1;split at h
   .rename_i h0;subst h0;split at h
    .rename_i t k2 h2;obtain⟨p1,p2⟩:=K8 h2;cases h;refine⟨?_,EH,In,?_⟩
     .simp only[vp,mj,z0,Int.reduceEq,Int.reduceBEq,false_or,or_false,or_true,true_or,or_self,aN,bB,eC,eH,bY,qE,beq_self_eq_true,cj,rJ,gt_iff_lt,rK,decide_false,cG,p2,dK];exact p2
     .simp only[jF,Int.reduceEq,false_or,or_false,or_true,true_or,or_self,aN,bB,eB,cP,dK,cj];omega
    .cases h
   .cases h
  .cases h
 .split at h
  .rename_i m k1 h1;cases h;obtain⟨u1,u2⟩:=dj h1;refine⟨?_,EH,In,?_⟩
   .simp only[vp,mj,z0,Int.reduceEq,Int.reduceBEq,false_or,or_false,or_true,true_or,or_self,aN,bB,eC,eH,bY,qE,beq_self_eq_true,cj,rJ,gt_iff_lt,rK,decide_false,cG,Em u2]
   .simp only[jF,Int.reduceEq,false_or,or_false,or_true,true_or,or_self,aN,bB,eB,cP,dK,cj];omega
  .cases h
 .split at h
  .rename_i m k1 h1;cases h;obtain⟨u1,u2⟩:=dj h1;refine⟨?_,EH,In,?_⟩
   .simp only[vp,mj,z0,Int.reduceEq,Int.reduceBEq,false_or,or_false,or_true,true_or,or_self,aN,bB,eC,eH,bY,qE,beq_self_eq_true,cj,rJ,gt_iff_lt,rK,decide_false,cG,Em u2]
   .simp only[jF,Int.reduceEq,false_or,or_false,or_true,true_or,or_self,aN,bB,eB,cP,dK,cj];omega
  .cases h
 .split at h
  .rename_i m k1 h1;cases h;obtain⟨u1,u2⟩:=dj h1;refine⟨?_,EH,In,?_⟩
   .simp only[vp,mj,z0,Int.reduceEq,Int.reduceBEq,false_or,or_false,or_true,true_or,or_self,aN,bB,eC,eH,bY,qE,beq_self_eq_true,cj,rJ,gt_iff_lt,rK,decide_false,cG,Em u2]
   .simp only[jF,Int.reduceEq,false_or,or_false,or_true,true_or,or_self,aN,bB,eB,cP,dK,cj];omega
  .cases h
 .split at h
  .rename_i m k1 h1;obtain⟨u1,u2⟩:=dj h1;split at h
   .rename_i m2 k2 h2;obtain⟨p1,p2⟩:=dj h2;cases h;refine⟨?_,EH,In,?_⟩
    .simp only[vp,mj,z0,Int.reduceEq,Int.reduceBEq,false_or,or_false,or_true,true_or,or_self,aN,bB,eC,eH,bY,qE,beq_self_eq_true,cj,rJ,gt_iff_lt,rK,decide_false,cG,Em u2,Em p2]
    .simp only[jF,Int.reduceEq,false_or,or_false,or_true,true_or,or_self,aN,bB,eB,cP,dK,cj];omega
   .cases h
  .cases h
 .split at h
  .rename_i m k1 h1;obtain⟨u1,u2⟩:=dj h1;split at h
   .rename_i m2 k2 h2;obtain⟨p1,p2⟩:=dj h2;cases h;refine⟨?_,EH,In,?_⟩
    .simp only[vp,mj,z0,Int.reduceEq,Int.reduceBEq,false_or,or_false,or_true,true_or,or_self,aN,bB,eC,eH,bY,qE,beq_self_eq_true,cj,rJ,gt_iff_lt,rK,decide_false,cG,Em u2,Em p2]
    .simp only[jF,Int.reduceEq,false_or,or_false,or_true,true_or,or_self,aN,bB,eB,cP,dK,cj];omega
   .cases h
  .cases h
 .split at h
  .rename_i m k1 h1;cases h;obtain⟨u1,u2⟩:=dj h1;refine⟨?_,EH,In,?_⟩
   .simp only[vp,mj,z0,Int.reduceEq,Int.reduceBEq,false_or,or_false,or_true,true_or,or_self,aN,bB,eC,eH,bY,qE,beq_self_eq_true,cj,rJ,gt_iff_lt,rK,decide_false,cG,Em u2]
   .simp only[jF,Int.reduceEq,false_or,or_false,or_true,true_or,or_self,aN,bB,eB,cP,dK,cj];omega
  .cases h
 .split at h
  .rename_i m k1 h1;cases h;obtain⟨u1,u2⟩:=dj h1;refine⟨?_,EH,In,?_⟩
   .simp only[vp,mj,z0,Int.reduceEq,Int.reduceBEq,false_or,or_false,or_true,true_or,or_self,aN,bB,eC,eH,bY,qE,beq_self_eq_true,cj,rJ,gt_iff_lt,rK,decide_false,cG,Em u2]
   .simp only[jF,Int.reduceEq,false_or,or_false,or_true,true_or,or_self,aN,bB,eB,cP,dK,cj];omega
  .cases h
 .split at h
  .rename_i m k1 h1;obtain⟨u1,u2⟩:=dj h1;split at h
   .rename_i m2 k2 h2;obtain⟨p1,p2⟩:=dj h2;cases h;refine⟨?_,EH,In,?_⟩
    .simp only[vp,mj,z0,Int.reduceEq,Int.reduceBEq,false_or,or_false,or_true,true_or,or_self,aN,bB,eC,eH,bY,qE,beq_self_eq_true,cj,rJ,gt_iff_lt,rK,decide_false,cG,Em u2,Em p2]
    .simp only[jF,Int.reduceEq,false_or,or_false,or_true,true_or,or_self,aN,bB,eB,cP,dK,cj];omega
   .cases h
  .cases h
 .split at h
  .rename_i m k1 h1;obtain⟨u1,u2⟩:=dj h1;split at h
   .rename_i m2 k2 h2;obtain⟨p1,p2⟩:=dj h2;cases h;refine⟨?_,EH,In,?_⟩
    .simp only[vp,mj,z0,Int.reduceEq,Int.reduceBEq,false_or,or_false,or_true,true_or,or_self,aN,bB,eC,eH,bY,qE,beq_self_eq_true,cj,rJ,gt_iff_lt,rK,decide_false,cG,Em u2,Em p2]
    .simp only[jF,Int.reduceEq,false_or,or_false,or_true,true_or,or_self,aN,bB,eB,cP,dK,cj];omega
   .cases h
  .cases h
 .split at h
  .rename_i m k1 h1;cases h;obtain⟨u1,u2⟩:=dj h1;refine⟨?_,EH,In,?_⟩
   .simp only[vp,mj,z0,Int.reduceEq,Int.reduceBEq,false_or,or_false,or_true,true_or,or_self,aN,bB,eC,eH,bY,qE,beq_self_eq_true,cj,rJ,gt_iff_lt,rK,decide_false,cG,Em u2]
   .simp only[jF,Int.reduceEq,false_or,or_false,or_true,true_or,or_self,aN,bB,eB,cP,dK,cj];omega
  .cases h
 .split at h
  .rename_i q0 q1 q2 k1 h1;cases h;unfold gA at h1;split at h1
   .rename_i n k1 g1;obtain⟨u1,u2⟩:=dj g1;split at h1
    .cases h1
    split at h1
    .split at h1
     .rename_i y k2 g2;obtain⟨p1,p2⟩:=dj g2;split at h1
      .rename_i z k3 g3;obtain⟨v1,v2⟩:=dj g3;cases h1;refine⟨?_,EH,⟨by simp only;omega,by simp only;omega⟩,?_⟩
       .simp only[vp,mj,z0,Int.reduceEq,Int.reduceBEq,false_or,or_false,or_true,true_or,or_self,aN,bB,eC,eH,bY,qE,beq_self_eq_true,cj,rJ,gt_iff_lt,rK,decide_false,cG,Em p2];simp only[cW,gj];omega
       .simp only[jF,Int.reduceEq,false_or,or_false,or_true,true_or,or_self,aN,bB];by_cases hy:(y:Int)=0
        .rw[au hy,cP,eB];have w1:(aD ((n:Int)-64).toNat).length<=1:=mi (k:=0) (by omega);have w2:=DL n;omega
        .rw[ak hy,show((n:Int)-64+64).toNat=n by omega];simp only[cP,eB];omega
      .cases h1
     .cases h1
    .split at h1
     .rename_i z k3 g3;obtain⟨v1,v2⟩:=dj g3;cases h1;refine⟨?_,EH,⟨by simp only;omega,by simp only;omega⟩,?_⟩
      .simp only[vp,mj,z0,Int.reduceEq,Int.reduceBEq,false_or,or_false,or_true,true_or,or_self,aN,bB,eC,eH,bY,qE,beq_self_eq_true,cj,rJ,gt_iff_lt,rK,decide_false,cG,Em u2,show qn 0=true from rfl];simp only[cW,gj];omega
      .simp only[jF,Int.reduceEq,false_or,or_false,or_true,true_or,or_self,aN,bB,eB,cP,dK,cj];omega
     .cases h1
   .cases h1
  .cases h
 .split at h
  .rename_i m k1 h1;cases h;obtain⟨u1,u2⟩:=K7 (by decide) h1;have hs:=UK (m:=m) (by simp at u2;omega);refine⟨?_,EH,agF _,?_⟩
   .simp only[vp,mj,z0,Int.reduceEq,Int.reduceBEq,false_or,or_false,or_true,true_or,or_self,aN,bB,eC,eH,bY,qE,beq_self_eq_true,cj,rJ,gt_iff_lt,rK,decide_false,cG,hs.2,decide_true]
   .simp only[jF,Int.reduceEq,false_or,or_false,or_true,true_or,or_self,aN,bB,hs.1];exact u1
  .cases h
 .split at h
  .rename_i m k1 h1;cases h;obtain⟨u1,u2⟩:=K7 (by decide) h1;have hs:=UM (m:=m) (by simp at u2;omega);refine⟨?_,EH,agF _,?_⟩
   .rfl
   .simp only[jF,Int.reduceEq,false_or,or_false,or_true,true_or,or_self,aN,bB,hs];exact u1
  .cases h
 .split at h
  .rename_i t k1 h1;obtain⟨u1,u2⟩:=K8 h1;split at h
   .rename_i h2;cases h;refine⟨?_,EH,In,?_⟩
    .rcases h2 with rfl|rfl<;>rfl
    .exact u1
   .cases h
  .cases h
def aa_{b:Af}{a k:Nat}{x:be}(h:gI b a = .ok (x,k)):PL x=true/\x.lb.length<=64/\(0<=x.n/\x.n<18446744073709551616)/\a+(BA x).length<=k:=by
 unfold gI at h;split at h
 .rename_i op k1 h1;obtain⟨u1,u2⟩:=abf h1;split at h
  .rename_i y k2 h2;obtain⟨p1,p2,p3,p4⟩:=abe (nW op) h2;cases h;refine⟨?_,p2,p3,?_⟩
   .show vp (qx op) (vQ op) _=true;rw[u2];exact p1
   .show a+(pA op++jF (qx op) y).length<=_;rw[cP];omega
  .cases h
 .cases h
