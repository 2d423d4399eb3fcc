import Derived.Test.YtdfofedlbljnhaaGreatDoorXQo
set_option linter.all false
set_option maxRecDepth 100000
set_option maxHeartbeats 40000000
namespace Go.Proofs.YtdfofedlbljnhaaGreatDoor
open Go Go.Mw
def Ub{n:Int}(h:-4294967296<=n/\n<=4294967295):(gQ n).length<=5:=yN (k:=4) (by omega) (by omega)
def FT{n:Int}(h:qn n=true):(aD n.toNat).length<=5:=by
 obtain⟨k,rfl,hk⟩:=kS h;rw[eB];exact cH hk
def Rx{k v x:Int}(h:Ok k v x=true):(Ey k v x).length<=5:=by
 unfold Ok at h;unfold Ey;split
 .simp
 rename_i h0;rw[ak h0]at h;split
 .simp
 rename_i h1;rw[ak h1]at h;split at h
 .simp only[cW,qn,gj]at h;exact Ub (by omega)
 .cases h
def Rz{i:Int}(hi:0<=i/\i<=20){x:be}(h:vp i true x=true)(hb:¬(i=3/\4294967296<=x.lb.length)):(jF i x).length<=5*x.lb.length+20:=by
 obtain⟨op,a0,b0,n,k,v,z,ty,lb⟩:=x;unfold vp mj at h;simp only[bY]at h hb⊢;rcases(show i=0\/i=1\/i=2\/i=3\/i=4\/i=5\/i=6\/i=7\/i=8\/i=9\/i=10\/i=11\/i=12\/i=13\/i=14\/i=15\/i=16\/i=17\/i=18\/i=19\/i=20 by omega)with rfl|rfl|rfl|rfl|rfl|rfl|rfl|rfl|rfl|rfl|rfl|rfl|rfl|rfl|rfl|rfl|rfl|rfl|rfl|rfl|rfl
 all_goals
  simp only[Int.reduceEq,Int.reduceBEq,false_or,or_false,or_true,true_or,or_self,aN,bB,eC,eH,bY,cW,beq_iff_eq,tK,decide_eq_false_iff_not,gj,sC]at h;simp only[jF,Int.reduceEq,false_or,or_false,or_true,true_or,or_self,aN,bB,cP,dK,cj]
 .omega
 .have:=Rx h.2.2.2.2.2;omega
 .have:=FT h.2.2.2.1;omega
 .have h1:=FT h.2.2.1;have h2:=yi h.2.2.2.2.2;have h3:=cH (n:=lb.length) (Nat.lt_of_not_le λq=>hb ⟨rfl,q⟩);omega
 .have:=FT h.2.2.2.1;omega
 .have h1:=FT h.2.2.2.1;have h2:=FT h.2.2.2.2.1;omega
 .have:=cH (n:=1) (by decide);omega
 .have:=FT h.2.2.2.1;omega
 .have:=FT h.2.2.2.1;omega
 .have:=FT h.2.2.2.1;omega
 .have h1:=FT h.2.2.2.1;have h2:=FT h.2.2.2.2.1;omega
 .have h1:=FT h.2.2.2.1;have h2:=FT h.2.2.2.2.1;omega
 .have:=FT h.2.2.2.1;omega
 .have:=FT h.2.2.2.2.1;omega
 .have h1:=FT h.2.2.2.1;have h2:=FT h.2.2.2.2.1;omega
 .have h1:=FT h.2.2.2.1;have h2:=FT h.2.2.2.2.1;omega
 .have:=FT h.2.2.2.1;omega
 .obtain⟨_,_,_,h1,h2,h3,h4⟩:=h;have g1:=FT h3;have g2:=cH (n:=n.toNat) (by omega);have g3:=cH (n:=a0.toNat) (by omega);have g4:=cH (n:=(a0+64).toNat) (by omega);split
  .omega
  .rw[cP];omega
 .have h1:=UL n;have:=Ub (n:=PK n) (by omega);omega
 .have:=Cj (i64_in n);omega
 .omega
def Ry{x:be}(h:PL x=true)(hb:¬(qx x.op=3/\4294967296<=x.lb.length)):(BA x).length<=5*x.lb.length+30:=by
 have hk:=Z2 h;have h1:=IL x.op hk;have hp:vp (qx x.op) true x=true:=by
  have h':vp (qx x.op) (vQ x.op) x=true:=h;rwa[hk]at h'
 have h2:=Rz (nW x.op) hp hb;show(pA x.op++jF (qx x.op) x).length<=_;rw[cP];omega
section
variable{l:Af}{e:Int}(hl:l.length<=1000)
include hl
attribute[local go_sem] ro wo wa wx rx dw ce az
end
def o1(x:be):Option (Af)×Int:=wD true (xF x [] 0).1 (xF x [] 0).2
section
def Mq:z0.op=0:=rfl
variable{b:Af}{a:Nat}(ha:a<=b.length)(hb:b.length<1000000000)
include ha hb
attribute[local go_sem] ro wo wa wx rx Eu ce Fm dw
theorem PE(most:Int)(hm:WK most):QX 303 [.int .i64 most] b a (gE (b.length+1) 1 b a most) [] exs:=by
 refine bA jg ?_;simp only[go_sem,jg];refine aq (λq:List be×Nat×Nat×Int=>⟨[(7,.int .i64 q.2.2.1),(6,.ms 900 9 0 q.1.length),(5,.nl),(4,.mp 4 3 0 0),(2,.mp 2 3 0 0),(1,.int .i64 most)],[(900,⟨58,9,q.1.map az,false⟩),(2,⟨240,3,[[.sl 1 (b.map de),.int .i64 q.2.1,.int .i64 q.2.2.2]],true⟩),(4,⟨240,3,[[.nl,.int .i64 0,.int .i64 0]],true⟩)]⟩)
  (λq=>q.2.1<=b.length/\q.1.length<=b.length+1/\((q.2.2.2=0/\EI b (b.length+1) a most q.1 q.2.1 q.2.2.1)\/(q.2.2.2≠0/\gE (b.length+1) 1 b a most = .error (q.2.2.2,q.2.1)))) (λq=>if q.2.2.2=0 then b.length-q.2.1+1 else 0) ([],a,1,0) ⟨ha,cm _,.inl ⟨rfl,ad9 ha (Nat.lt_succ_self _)⟩⟩ ((Wk.nil _ 6 900 9 58 (by simp only[go_sem]) (.inl (by decide))).trans (Wk.of ?_ ?_)) ?_
 .simp only[go_sem,St.mknil];try simp[go_sem]
 .simp only[go_sem,St.mknil];try simp[go_sem]
 rintro⟨l,a1,d,e1⟩ ⟨ha1,hll,hq⟩;simp only at ha1 hll hq;by_cases he1:e1=0;rotate_left
 .have hE:gE (b.length+1) 1 b a most = .error (e1,a1):=by
   rcases hq with⟨h,_⟩|⟨_,h⟩
   .exact absurd h he1
   .exact h
  cases hd:decide ((d:Int)>0)
  .simp only[go_sem,hd,j0 he1];refine aJ (Wk.nil _ 5 901 9 58 (by simp only[go_sem]) (.inl (by decide))) [901] (.tup [rx b a1 e1,exs []]) [] ?_ trivial rfl ⟨([],a1,e1),dS.er hE he1 ha1,rfl,rfl⟩;simp only[go_sem,St.mknil];rfl
  .simp only[go_sem,hd,j0 he1,ei he1];refine aJ (Wk.nil _ 5 901 9 58 (by simp only[go_sem]) (.inl (by decide))) [901] (.tup [rx b a1 e1,exs []]) [] ?_ trivial rfl ⟨([],a1,e1),dS.er hE he1 ha1,rfl,rfl⟩;simp only[go_sem,St.mknil];rfl
 subst he1;have hE:EI b (b.length+1) a most l a1 d:=by
  rcases hq with⟨_,h⟩|⟨h,_⟩
  .exact h
  .exact absurd rfl h
 clear hq;have hl1:l.length+a<=a1:=hE.2.1;have hd1:d<=l.length+1:=hE.2.2.1;by_cases hd:(d:Int)>0
 .have hd':1<=d:=by omega
  by_cases hmo:(l.length:Int)>=most
  .simp only[go_sem,aK hd,aK hmo];refine aa (cM b a1 6) ?_;refine aJ (Wk.nil _ 5 901 9 58 (by simp only[go_sem]) (.inl (by decide))) [901] (.tup [rx b a1 6,exs []]) [] ?_ trivial rfl ⟨([],a1,6),dS.er (Mx hE hd' hmo) (by decide) ha1,rfl,rfl⟩;simp only[go_sem,St.mknil];rfl
  .simp only[go_sem,aK hd,aL hmo];refine jZ (Yz ha1 hb) ?_;rintro⟨x,a2,e2⟩ ⟨p1,p2⟩;replace p1:a2<=b.length:=p1;have happ:=λys=>bq 900 58 9 l.length az l ys rfl;rcases p2 with⟨x',k2,q1,q2⟩|⟨e,q1,he,q2,q3⟩
   .cases q2;have hE2:=Zk hE hd' hmo q1;have hadv:=K5 q1;have hw1:IntKind.i64.wrap ((d:Int)+1)=((d+1:Nat):Int):=by rw[wi (by omega) (by omega)];omega
    have hw2:IntKind.i64.wrap ((d:Int)-1)=((d-1:Nat):Int):=by rw[wi (by omega) (by omega)];omega
    have hda:kD x.op d=if x.op=2\/x.op=3\/x.op=4 then d+1 else if x.op=11 then d-1 else d:=rfl
    have hms:(if(0:Int)=0 then b.length-a2+1 else 0)<(if(0:Int)=0 then b.length-a1+1 else 0):=by simp only[aN];omega
    have hlx:(l++[x]).length<=b.length+1:=by simp;omega
    rcases JS x.op with h2|⟨h2,h3|⟨h3,h4|⟨h4,h5|h5⟩⟩⟩
    .rw[show kD x.op d=d+1 by rw[hda,au (.inl (eq_of_beq h2))]]at hE2;simp only[go_sem,h2,happ,hw1];refine⟨by omega,aF (l++[x],a2,d+1,0) ⟨p1,hlx,.inl ⟨rfl,hE2⟩⟩ hms (Wk.of ?_ ?_)⟩
     .simp only[go_sem]
      try simp
     .simp only[go_sem]
      try simp[az,ce,Mq]
    .rw[show kD x.op d=d+1 by rw[hda,au (.inr (.inl (eq_of_beq h3)))]]at hE2;simp only[go_sem,h2,h3,happ,hw1];refine⟨by omega,aF (l++[x],a2,d+1,0) ⟨p1,hlx,.inl ⟨rfl,hE2⟩⟩ hms (Wk.of ?_ ?_)⟩
     .simp only[go_sem]
      try simp
     .simp only[go_sem]
      try simp[az,ce,Mq]
    .rw[show kD x.op d=d+1 by rw[hda,au (.inr (.inr (eq_of_beq h4)))]]at hE2;simp only[go_sem,h2,h3,h4,happ,hw1];refine⟨by omega,aF (l++[x],a2,d+1,0) ⟨p1,hlx,.inl ⟨rfl,hE2⟩⟩ hms (Wk.of ?_ ?_)⟩
     .simp only[go_sem]
      try simp
     .simp only[go_sem]
      try simp[az,ce,Mq]
    .rw[show kD x.op d=d-1 by rw[hda,ak (by have:=ne_of_beq_false h2;have:=ne_of_beq_false h3;have:=ne_of_beq_false h4;omega),au (eq_of_beq h5)]]at hE2;simp only[go_sem,h2,h3,h4,h5,happ,hw2];refine⟨by omega,aF (l++[x],a2,d-1,0) ⟨p1,hlx,.inl ⟨rfl,hE2⟩⟩ hms (Wk.of ?_ ?_)⟩
     .simp only[go_sem]
      try simp
     .simp only[go_sem]
      try simp[az,ce,Mq]
    .rw[show kD x.op d=d by rw[hda,ak (by have:=ne_of_beq_false h2;have:=ne_of_beq_false h3;have:=ne_of_beq_false h4;omega),ak (ne_of_beq_false h5)]]at hE2;simp only[go_sem,h2,h3,h4,h5,happ];refine⟨by omega,aF (l++[x],a2,d,0) ⟨p1,hlx,.inl ⟨rfl,hE2⟩⟩ hms (Wk.of ?_ ?_)⟩
     .simp only[go_sem]
      try simp
     .simp only[go_sem]
      try simp[az,ce,Mq]
   .obtain rfl:e2=e:=q3;obtain rfl:x=z0:=q2;simp only[go_sem,happ,Mq];refine⟨by omega,aF (l++[z0],a2,d,e2) ⟨p1,by simp;omega,.inr ⟨he,Qj hE hd' hmo q1⟩⟩ ?_ (Wk.of ?_ ?_)⟩
    .show(if e2=0 then b.length-a2+1 else 0)<(if(0:Int)=0 then b.length-a1+1 else 0);rw[ak he,au rfl];omega
    .simp only[go_sem]
     try simp
    .simp only[go_sem]
     try simp[az,ce,Mq]
 .obtain rfl:d=0:=by omega
  simp only[go_sem,aL hd];refine done [900] (.tup [rx b a1 0,exs l]) [] ?_ trivial rfl ⟨(l,a1,0),dS.ok (Qi hE) ha1,rfl,rfl⟩;simp only[go_sem,bZ,a_];rw[cI (by rw[bZ];omega)];rfl
end
def rq{α:Type}(res:Rd α)(d:α):α×Nat×Int:=match res with
 | .ok (x,k)=>(x,k,0)
 | .error (e,k)=>(d,k,e)
def dS.det{α:Type}{b:Af}{res:Rd α}{d:α}{q:α×Nat×Int}(h:dS b res d q):q=rq res d:=by
 obtain⟨h1,⟨x,k,rfl,rfl⟩|⟨e,rfl,h3,h4,h5⟩⟩:=h
 .rfl
 .obtain⟨q1,q2,q3⟩:=q;simp only at h4 h5;subst h4 h5;rfl
def QX.det{α:Type}{f:FuncId}{rest:List AV}{b:Af}{a:Nat}{res:Rd α}{d:α}{av:α->AV}(h:QX f rest b a res d av):aj pg f (rx b a 0::rest) (.tup [rx b (rq res d).2.1 (rq res d).2.2,av (rq res d).1]):=by
 refine aQ.mono h (λ_ h=>h.elim) ?_;rintro r' σ' ⟨q,ho,rfl,rfl⟩;obtain rfl:=ho.det;exact⟨rfl,rfl⟩
section
def RQ{α:Type}(f:FuncId)(rest:List AV)(b:Af)(t:PS α)(av:α->AV):Prop :=
 ∀(a:Nat)(e:Int),a<=b.length->aj pg f (rx b a e::rest) (.tup [rx b (t a e).2.1 (t a e).2.2,av (t a e).1])
def RQ.of{α:Type}{f:FuncId}{rest:List AV}{b:Af}{g:Nat->Rd α}{d:α}{av:α->AV}(h0:∀a,a<=b.length->QX f rest b a (g a) d av)(h1:∀(a:Nat)(e:Int),a<=b.length->e≠0->aj pg f (rx b a e::rest) (.tup [rx b a e,av d])):RQ f rest b (dF g d) av:=by
 intro a e ha;unfold dF;by_cases he:e=0
 .subst he;rw[au rfl];have h:=(h0 a ha).det;unfold rq at h;exact h
 .rw[ak he];exact h1 a e ha he
variable{b:Af}(hb:b.length<1000000000)
include hb
def Cl:RQ 243 [] b (cT b) (λx=>.int .u8 x.toNat):=λa e ha=>qu b a e ha hb
def LV:RQ 336 [] b (dF (gV b) 0) (.int .i64):=RQ.of (λa ha=>DP ha hb) λa e ha he=>DQ ha hb he
attribute[local go_sem] ro wo wa rx ce
theorem PG{a:Nat}{e:Int}(ha:a<=b.length)(he:e≠0):aj pg 301 [rx b a e] (.tup [rx b a e,pB ⟨0,0,false⟩]):=by
 refine aC gw ?_;simp only[go_sem,gw];refine ab (qu b a e ha hb) ?_;simp only[go_sem,ei he,li,u0];refine ab (bR b a e ha hb) ?_;simp only[go_sem,ei he,mZ,j0 he];exact aB [] (by simp only[go_sem,pB,j7]) rfl
theorem YB{a:Nat}(ha:a<=b.length):QX 301 [] b a (yl b a) ⟨0,0,false⟩ pB:=by
 refine bA gw ?_;simp only[go_sem,gw];refine ab (qu b a 0 ha hb) ?_;unfold yl;rcases ow b a with⟨x,h1,h2,h3⟩|⟨h1,h2⟩
 rotate_left
 .rw[h1,fF];have he:(3:Int)≠0:=by decide
  simp only[go_sem,eE,h2,u0];refine ab (bR b a 3 ha hb) ?_;simp only[go_sem,ei he,mZ,j0 he];exact done [] (.tup [rx b a 3,pB ⟨0,0,false⟩]) [] (by simp only[go_sem,pB,j7]) (by simp only[go_sem]) rfl ⟨(⟨0,0,false⟩,a,3),dS.er rfl he ha,rfl,rfl⟩
 rw[h1,dq];clear ha;have ha:=h3;clear h3 h1;generalize a+1=k at*;rcases N1 x with⟨hx,hd,hn⟩|rfl|rfl
 .rw[au hx];have he:(4:Int)≠0:=by decide
  have hq:((x.toNat:Int)==1)=false:=by
   refine fK.2 λh=>hn (B3.1 ?_);have e:(1:UInt8).toNat=1:=rfl;omega
  simp only[go_sem,eE,h2,hd];refine ab (cM b k 4) ?_;simp only[go_sem,hq];refine ab (bR b k 4 ha hb) ?_;simp only[go_sem,ei he,mZ,j0 he,hq];exact done [] (.tup [rx b k 4,pB ⟨0,0,false⟩]) [] (by simp only[go_sem,pB,j7]) (by simp only[go_sem]) rfl ⟨(⟨0,0,false⟩,k,4),dS.er rfl he ha,rfl,rfl⟩
 .rw[ak (by decide)];simp only[ak (show ¬(0:UInt8)=1 by decide)];simp only[go_sem,eE,h2,d0,u0];refine ab (bR b k 0 ha hb) ?_;rcases d_ ha with⟨n,k1,g1,g2,g3,g4⟩|⟨e,he,g1,g2⟩
  .rw[g1,dq];simp only[go_sem,eE,g2,u0];exact done [] (.tup [rx b k1 0,pB ⟨n,0,false⟩]) [] (by simp only[go_sem,pB,j7]) (by simp only[go_sem]) rfl ⟨(⟨n,0,false⟩,k1,0),dS.ok rfl g4,rfl,rfl⟩
  .rw[g1,fF];simp only[go_sem,eE,g2,u0,j0 he];exact done [] (.tup [rx b k e,pB ⟨0,0,false⟩]) [] (by simp only[go_sem,pB,j7]) (by simp only[go_sem]) rfl ⟨(⟨0,0,false⟩,k,e),dS.er rfl he ha,rfl,rfl⟩
 .rw[ak (by decide)];simp only[au rfl];simp only[go_sem,eE,h2,d1,u1];refine ab (bR b k 0 ha hb) ?_;rcases d_ ha with⟨n,k1,g1,g2,g3,g4⟩|⟨e,he,g1,g2⟩
  .rw[g1,dq];simp only[go_sem,eE,g2,u1];refine ab (bR b k1 0 g4 hb) ?_;rcases d_ g4 with⟨m,k2,j1,j2,j3,j4⟩|⟨e,he,j1,j2⟩
   .rw[j1,dq];by_cases hl:m<n
    .rw[au hl];have hl':(m:Int)<(n:Int):=by omega
     simp only[go_sem,eE,j2,aK hl'];refine aa (cM b k2 20) ?_;exact done [] (.tup [rx b k2 20,pB ⟨0,0,false⟩]) [] (by simp only[go_sem,pB,j7]) (by simp only[go_sem]) rfl ⟨(⟨0,0,false⟩,k2,20),dS.er rfl (by decide) j4,rfl,rfl⟩
    .rw[ak hl];have hl':¬(m:Int)<(n:Int):=by omega
     simp only[go_sem,eE,j2,aL hl'];exact done [] (.tup [rx b k2 0,pB ⟨n,m,true⟩]) [] (by simp only[go_sem,pB,j7]) (by simp only[go_sem]) rfl ⟨(⟨n,m,true⟩,k2,0),dS.ok rfl j4,rfl,rfl⟩
   .rw[j1,fF];simp only[go_sem,eE,j2,ei he,j0 he];exact done [] (.tup [rx b k1 e,pB ⟨0,0,false⟩]) [] (by simp only[go_sem,pB,j7]) (by simp only[go_sem]) rfl ⟨(⟨0,0,false⟩,k1,e),dS.er rfl he g4,rfl,rfl⟩
  .rw[g1,fF];simp only[go_sem,eE,g2,u1];refine ab (bR b k e ha hb) ?_;simp only[go_sem,ei he,mZ,j0 he];exact done [] (.tup [rx b k e,pB ⟨0,0,false⟩]) [] (by simp only[go_sem,pB,j7]) (by simp only[go_sem]) rfl ⟨(⟨0,0,false⟩,k,e),dS.er rfl he ha,rfl,rfl⟩
def Gg:RQ 301 [] b (dF (yl b) ⟨0,0,false⟩) pB:=RQ.of (λa ha=>YB hb ha) λa e ha he=>PG hb ha he
end
section
variable{b:Af}(hb:b.length<1000000000)
include hb
attribute[local go_sem] ro wo wa rx ce
theorem PH{a:Nat}{e:Int}(ha:a<=b.length)(he:e≠0):aj pg 300 [rx b a e] (.tup [rx b a e,D9 tI]):=by
 refine aC iB ?_;simp only[go_sem,iB];refine ab (LV hb a e ha) ?_;simp only[go_sem,w7 he,ei he];refine ab (Gg hb a e ha) ?_;simp only[go_sem,w7 he,pB,j7,j0 he];exact aB [] (by simp only[go_sem,D9,rM,tI]) rfl
theorem YC{a:Nat}(ha:a<=b.length):QX 300 [] b a (Ce b a) tI D9:=by
 refine bA iB ?_;simp only[go_sem,iB];refine ab (LV hb a 0 ha) ?_;unfold Ce;rcases Aw 0 (Ib ha)with⟨t,k,g1,g2,g3⟩|⟨e,k,g1,he,g2,g3⟩
 rotate_left
 .rw[g1,fF];simp only[go_sem,g2,ei he];refine ab (Gg hb k e g3) ?_;simp only[go_sem,w7 he,pB,j7,j0 he];exact done [] (.tup [rx b k e,D9 tI]) [] (by simp only[go_sem,D9,rM,tI]) (by simp only[go_sem]) rfl ⟨(tI,k,e),dS.er rfl he g3,rfl,rfl⟩
 rw[g1,dq];have c1:=af8 t;simp only[go_sem,g2,eE];refine ab (c1) ?_;clear ha;have ha:=g3;by_cases ht:t=3\/t=4
 .rw[au ht];simp only[go_sem,xI.2 ht];refine ab (Gg hb k 0 ha) ?_;rcases Aw ⟨0,0,false⟩ (N2 ha)with⟨l,k1,j1,j2,j3⟩|⟨e,k1,j1,he,j2,j3⟩
  .rw[j1,dq];simp only[go_sem,j2,pB,j7];exact done [] (.tup [rx b k1 0,D9 ⟨t,l⟩]) [] (by simp only[go_sem,D9,rM,tI]) (by simp only[go_sem]) rfl ⟨(_,k1,0),dS.ok rfl j3,rfl,rfl⟩
  .rw[j1,fF];simp only[go_sem,j2,pB,j7,j0 he];exact done [] (.tup [rx b k1 e,D9 tI]) [] (by simp only[go_sem,D9,rM,tI]) (by simp only[go_sem]) rfl ⟨(_,k1,e),dS.er rfl he j3,rfl,rfl⟩
 .rw[ak ht];have hf:Ep t=false:=by
   cases h:Ep t
   .rfl
   .exact absurd (xI.1 h) ht
  simp only[go_sem,hf];refine ab (cM b k 12) ?_;have he:(12:Int)≠0:=by decide
  simp only[go_sem];refine ab (Gg hb k 12 ha) ?_;simp only[go_sem,w7 he,pB,j7,j0 he];exact done [] (.tup [rx b k 12,D9 tI]) [] (by simp only[go_sem,D9,rM,tI]) (by simp only[go_sem]) rfl ⟨(tI,k,12),dS.er rfl he ha,rfl,rfl⟩
def Z_:RQ 300 [] b (dF (Ce b) tI) D9:=RQ.of (λa ha=>YC hb ha) λa e ha he=>PH hb ha he
theorem PF{a:Nat}{e:Int}(ha:a<=b.length)(he:e≠0):aj pg 302 [rx b a e] (.tup [rx b a e,zU nA]):=by
 refine aC gv ?_;simp only[go_sem,gv];refine ab (LV hb a e ha) ?_;simp only[go_sem,w7 he];refine ab (qu b a e ha hb) ?_;simp only[go_sem,ei he,li,j0 he];exact aB [] (by simp only[go_sem,zU,Ek,nA]) rfl
theorem YA{a:Nat}(ha:a<=b.length):QX 302 [] b a (CV b a) nA zU:=by
 refine bA gv ?_;simp only[go_sem,gv];refine ab (LV hb a 0 ha) ?_;unfold CV;rcases Aw 0 (Ib ha)with⟨t,k,g1,g2,g3⟩|⟨e,k,g1,he,g2,g3⟩
 rotate_left
 .rw[g1,fF];simp only[go_sem,g2];refine ab (qu b k e g3 hb) ?_;simp only[go_sem,ei he,li,j0 he];exact done [] (.tup [rx b k e,zU nA]) [] (by simp only[go_sem,zU,Ek,nA]) (by simp only[go_sem]) rfl ⟨(_,k,e),dS.er rfl he g3,rfl,rfl⟩
 rw[g1,dq];simp only[go_sem,g2];refine ab (qu b k 0 g3 hb) ?_;rcases ow b k with⟨x,h1,h2,h3⟩|⟨h1,h2⟩
 rotate_left
 .rw[h1,fF];simp only[go_sem,eE,h2];exact done [] (.tup [rx b k 3,zU nA]) [] (by simp only[go_sem,zU,Ek,nA]) (by simp only[go_sem]) rfl ⟨(_,k,3),dS.er rfl (by decide) g3,rfl,rfl⟩
 rw[h1,dq];clear h1;generalize k+1=k1 at*;rcases N1 x with⟨hx,hd,hn⟩|rfl|rfl
 .rw[au hx];simp only[go_sem,eE,h2,hd];refine aa (cM b k1 4) ?_;exact done [] (.tup [rx b k1 4,zU nA]) [] (by simp only[go_sem,zU,Ek,nA]) (by simp only[go_sem]) rfl ⟨(_,k1,4),dS.er rfl (by decide) h3,rfl,rfl⟩
 .rw[ak (by decide)];simp only[go_sem,eE,h2,d0,u0];exact done [] (.tup [rx b k1 0,zU ⟨t,false⟩]) [] (by simp only[go_sem,zU,Ek,nA]) (by simp only[go_sem]) rfl ⟨(_,k1,0),dS.ok rfl h3,rfl,rfl⟩
 .rw[ak (by decide)];simp only[go_sem,eE,h2,d1,u1];exact done [] (.tup [rx b k1 0,zU ⟨t,true⟩]) [] (by simp only[go_sem,zU,Ek,nA]) (by simp only[go_sem]) rfl ⟨(_,k1,0),dS.ok rfl h3,rfl,rfl⟩
def Z9:RQ 302 [] b (dF (CV b) nA) zU:=RQ.of (λa ha=>YA hb ha) λa e ha he=>PF hb ha he
omit hb in
theorem J2{a:Nat}{e:Int}(ha:a<=b.length)(he:e≠0):aj pg 303 [rx b a e,.int .i64 2048] (.tup [rx b a e,exs []]):=by
 refine aC jg ?_;simp only[go_sem,jg];refine aq (λq:Unit=>⟨[(7,.int .i64 1),(6,.ms 900 9 0 0),(5,.nl),(4,.mp 4 3 0 0),(2,.mp 2 3 0 0),(1,.int .i64 2048)],[(900,⟨58,9,[],false⟩),(2,⟨240,3,[[.sl 1 (b.map de),.int .i64 a,.int .i64 e]],true⟩),(4,⟨240,3,[[.nl,.int .i64 0,.int .i64 0]],true⟩)]⟩)
  (λq=>True) (λq=>0) () trivial ((Wk.nil _ 6 900 9 58 (by simp only[go_sem]) (.inl (by decide))).trans (Wk.of ?_ ?_)) ?_
 .simp only[go_sem,St.mknil];try simp[go_sem]
 .simp only[go_sem,St.mknil];try simp[go_sem]
 rintro⟨⟩ _;simp only[go_sem,show decide ((1:Int)>0)=true from rfl,ei he,j0 he];exact bN (Wk.nil _ 5 901 9 58 (by simp only[go_sem]) (.inl (by decide))) [901] (by simp only[go_sem,St.mknil];rfl) rfl
def LW:RQ 303 [.int .i64 2048] b (dF (gX b) []) exs:=RQ.of (λa ha=>PE ha hb 2048 ⟨by decide,by decide⟩) λa e ha he=>J2 ha he
end
section
variable{b:Af}(hb:b.length<1000000000)
include hb
def vS(most:Int):RQ 296 [.int .i64 most] b (pC b most) (λx=>.int .i64 (x:Nat)):=λa e ha=>HT b a e ha hb most
def BX:RQ 244 [] b (kv b) (λx=>.int .i64 (x:Nat)):=λa e ha=>bR b a e ha hb
def UD:RQ 246 [] b (Ps b) .str:=λa e ha=>Ug b a e ha hb
attribute[local go_sem] ro wo wa rx ce
theorem Gh:RQ 335 [] b (E2 b) Ia:=by
 intro a e ha;refine aC sT ?_;simp only[go_sem,sT];refine ab (vS hb 8 a e ha) ?_;have hN:=TZ (b:=b) (most:=8) (by decide) (e:=e) ha;have h0:E2 b a e=([]++(pM (dF (gV b) 0) (pC b 8 a e).1 (pC b 8 a e).2.1 (pC b 8 a e).2.2).1,(pM (dF (gV b) 0) (pC b 8 a e).1 (pC b 8 a e).2.1 (pC b 8 a e).2.2).2):=rfl;have hk:(pC b 8 a e).2.1<=b.length:=fg ha;generalize E2 b a e=R at*;generalize pC b 8 a e=c at*;obtain⟨N,a0,e0⟩:=c;simp only at hN h0 hk⊢;simp only[go_sem];refine aq (λq:Nat×List Int×Nat×Int=>⟨[(7,.int .i64 q.2.1.length),(6,.ms 900 1 0 q.2.1.length),(5,.int .i64 N),(4,.mp 4 3 0 0),(3,.nl),(2,.mp 2 3 0 0)],[(900,⟨54,1,q.2.1.map jM,false⟩),(4,⟨240,3,[[.sl 1 (b.map de),.int .i64 q.2.2.1,.int .i64 q.2.2.2]],true⟩),(2,⟨240,3,[[.nl,.int .i64 0,.int .i64 0]],true⟩)]⟩)
  (λq=>q.2.2.1<=b.length/\q.2.1.length+q.1=N/\R=(q.2.1++(pM (dF (gV b) 0) q.1 q.2.2.1 q.2.2.2).1,(pM (dF (gV b) 0) q.1 q.2.2.1 q.2.2.2).2)) (λq=>q.1) (N,[],a0,e0) ⟨hk,by simp,h0⟩ ((Wk.nil _ 6 900 1 54 (by simp only[go_sem]) (.inl (by decide))).trans (Wk.of ?_ ?_)) ?_
 .simp only[go_sem,St.mknil];try simp[go_sem]
 .simp only[go_sem,St.mknil];try simp[go_sem]
 rintro⟨m,l,a1,e1⟩ ⟨h1,h2,h3⟩;simp only at h1 h2 h3;have happ:=λys=>bq 900 54 1 l.length jM l ys rfl;by_cases hm1:(l.length:Int)<(N:Int);rotate_left
 .obtain rfl:m=0:=by omega
  simp only[go_sem,aL hm1];subst h3;refine aB [900] ?_ rfl;simp only[go_sem,bZ,a_];rw[cI (by rw[bZ];omega)];simp[pM,pP,Ia]
 obtain⟨m,rfl⟩:∃k,m=k+1:=⟨m-1,by omega⟩
 have hw1:IntKind.i64.wrap ((l.length:Int)+1)=((l.length+1:Nat):Int):=by rw[wi (by omega) (by omega)];omega
 simp only[go_sem,aK hm1];refine ab (LV hb a1 e1 h1) ?_;rw[afD]at h3;have hk2:=((o7 b).oks 0 a1 e1 h1).1;generalize dF (gV b) 0 a1 e1=y at*;obtain⟨x,a2,e2⟩:=y;simp only at h3 hk2⊢;simp only[go_sem,happ,hw1];refine⟨by omega,aF (m,l++[x],a2,e2) ⟨hk2,by simp;omega,by rw[h3];simp⟩ (show m<m+1 by omega) (Wk.of ?_ ?_)⟩
 .simp only[go_sem];try simp
 .simp only[go_sem];try simp[go_sem,ce]
theorem age:RQ 298 [] b (Ny b) Ik:=by
 intro a e ha;refine aC sS ?_;simp only[go_sem,sS];refine ab (Cl hb a e ha) ?_;have hR:Ny b a e=Am b (cT b a e).2.1 (if(cT b a e).1≠96/\(cT b a e).2.2=0 then 4 else(cT b a e).2.2):=by
  show Am b (Ch 4 ((cT b a e).1≠96) (cT b a e).2.1 (cT b a e).2.2).2.1 (Ch 4 ((cT b a e).1≠96) (cT b a e).2.1 (cT b a e).2.2).2.2=_;unfold Ch pI pF pP;by_cases h1:(cT b a e).1≠96
  .by_cases h2:(cT b a e).2.2=0
   .simp[h1,h2]
   .simp[h1,h2]
  .simp[h1]
 have h2:=(xE a e ha).1;generalize Ny b a e=R at*;generalize cT b a e=y at*;obtain⟨x,a2,e2⟩:=y;simp only at h2 hR⊢;by_cases he:e2=0;rotate_left
 .simp only[go_sem,ei he];rw[ak (λh=>he h.2)]at hR;refine ab (Gh hb a2 e2 h2) ?_;have k3:=(qe b a2 e2 h2).1;unfold Am at hR;simp only[pb,pP]at hR;generalize E2 b a2 e2=y at*;obtain⟨ps,a3,e3⟩:=y;simp only at k3 hR⊢;simp only[go_sem,Ia];refine ab (Gh hb a3 e3 k3) ?_;have k4:=(qe b a3 e3 k3).1;generalize E2 b a3 e3=y at*;obtain⟨rs,a4,e4⟩:=y;simp only at k4 hR⊢;subst hR;by_cases he4:e4=0
  .subst he4;simp only[go_sem,Ia];exact aB [] (by simp only[go_sem,Ik,my,OP]) rfl
  .have hz:OP ps rs e4 =⟨[],[]⟩:=ak he4;simp only[go_sem,j0 he4,hz,Ia];exact bN (Wk.nlm _ 3 (r':=my ⟨[],[]⟩) rfl ⟨.inr ⟨rfl,.inl ⟨1,rfl⟩⟩,.inr ⟨rfl,.inl ⟨1,rfl⟩⟩,trivial⟩) [] (by simp only[go_sem,Ik,my]) rfl
 have ht:(e2==0)=true:=beq_iff_eq.2 he;by_cases hx:x=96
 .subst hx;have hd:((((96:UInt8).toNat:Nat):Int) != 96)=false:=rfl;rw[ak (λh=>h.1 rfl)]at hR;simp only[go_sem,ht,hd];refine ab (Gh hb a2 e2 h2) ?_;have k3:=(qe b a2 e2 h2).1;unfold Am at hR;simp only[pb,pP]at hR;generalize E2 b a2 e2=y at*;obtain⟨ps,a3,e3⟩:=y;simp only at k3 hR⊢;simp only[go_sem,Ia];refine ab (Gh hb a3 e3 k3) ?_;have k4:=(qe b a3 e3 k3).1;generalize E2 b a3 e3=y at*;obtain⟨rs,a4,e4⟩:=y;simp only at k4 hR⊢;subst hR;by_cases he4:e4=0
  .subst he4;simp only[go_sem,Ia];exact aB [] (by simp only[go_sem,Ik,my,OP]) rfl
  .have hz:OP ps rs e4 =⟨[],[]⟩:=ak he4;simp only[go_sem,j0 he4,hz,Ia];exact bN (Wk.nlm _ 3 (r':=my ⟨[],[]⟩) rfl ⟨.inr ⟨rfl,.inl ⟨1,rfl⟩⟩,.inr ⟨rfl,.inl ⟨1,rfl⟩⟩,trivial⟩) [] (by simp only[go_sem,Ik,my]) rfl
 .have hd:((x.toNat:Int) != 96)=true:=by
   refine bne_iff_ne.2 λh=>hx (B3.1 ?_);have e:(96:UInt8).toNat=96:=rfl;omega
  subst he;rw[au ⟨hx,rfl⟩]at hR;simp only[go_sem,hd];refine aa (cM b a2 4) ?_;clear ht;generalize (4:Int)=e2 at*;refine ab (Gh hb a2 e2 h2) ?_;have k3:=(qe b a2 e2 h2).1;unfold Am at hR;simp only[pb,pP]at hR;generalize E2 b a2 e2=y at*;obtain⟨ps,a3,e3⟩:=y;simp only at k3 hR⊢;simp only[go_sem,Ia];refine ab (Gh hb a3 e3 k3) ?_;have k4:=(qe b a3 e3 k3).1;generalize E2 b a3 e3=y at*;obtain⟨rs,a4,e4⟩:=y;simp only at k4 hR⊢;subst hR;by_cases he4:e4=0
  .subst he4;simp only[go_sem,Ia];exact aB [] (by simp only[go_sem,Ik,my,OP]) rfl
  .have hz:OP ps rs e4 =⟨[],[]⟩:=ak he4;simp only[go_sem,j0 he4,hz,Ia];exact bN (Wk.nlm _ 3 (r':=my ⟨[],[]⟩) rfl ⟨.inr ⟨rfl,.inl ⟨1,rfl⟩⟩,.inr ⟨rfl,.inl ⟨1,rfl⟩⟩,trivial⟩) [] (by simp only[go_sem,Ik,my]) rfl
end
section
def aaf(x:UInt8):x=0\/x=1\/x=2\/x=3\/(x≠0/\x≠1/\x≠2/\x≠3/\((x.toNat:Int)==0)=false/\((x.toNat:Int)==1)=false/\((x.toNat:Int)==2)=false/\((x.toNat:Int)==3)=false):=by
 by_cases h0:x=0
 .exact .inl h0
 by_cases h1:x=1
 .exact .inr (.inl h1)
 by_cases h2:x=2
 .exact .inr (.inr (.inl h2))
 by_cases h3:x=3
 .exact .inr (.inr (.inr (.inl h3)))
 have q:∀y:UInt8,x≠y->((x.toNat:Int)==(y.toNat:Int))=false:=λy h=>fK.2 λe=>h (B3.1 (by omega));exact .inr (.inr (.inr (.inr ⟨h0,h1,h2,h3,q 0 h0,q 1 h1,q 2 h2,q 3 h3⟩)))
variable{b:Af}(hb:b.length<1000000000)
include hb
attribute[local go_sem] bZ ro wa
theorem aim:RP 157 [] b (Ir b) (λx=>.agg (pw x)):=by
 intro a e ha;refine bA ny ?_;simp only[go_sem,ny];refine ae (aco hb a e ha) ?_;have k1:=(yK (b:=b) a e ha).1;have hR:Ir b a e=Ir b a e:=rfl
 conv at hR=>rhs;simp only[Ir,pb,pP,pI,pF]
 generalize Ir b a e=R at*;generalize Ps b a e=y at*;obtain⟨nm,a1,e1⟩:=y;simp only at k1 hR⊢;simp only[go_sem];refine ae (aco hb a1 e1 k1) ?_;have k2:=(yK (b:=b) a1 e1 k1).1;generalize Ps b a1 e1=y at*;obtain⟨nn,a2,e2⟩:=y;simp only at k2 hR⊢;simp only[go_sem];refine ae (An hb a2 e2 k2) ?_;have k3:=(xE (b:=b) a2 e2 k2).1;generalize cT b a2 e2=y at*;obtain⟨x,a3,e3⟩:=y;simp only at k3 hR⊢;have w:=wi (n:=(x.toNat:Int)) (by omega) (by have:=UInt8.toNat_lt x;omega);rcases aaf x with rfl|rfl|rfl|rfl|⟨q0,q1,q2,q3,p0,p1,p2,p3⟩
 .simp only[au]at hR;simp only[go_sem,show(((0:UInt8).toNat:Nat):Int)=0 from rfl,show IntKind.i64.wrap 0=0 from rfl];refine ae (NB hb a3 e3 k3) ?_;generalize kv b a3 e3=y at*;obtain⟨i,a4,e4⟩:=y;simp only at hR⊢;subst hR;simp only[go_sem];exact done [] _ [(1000,ro true b a4 e4)] (by simp only[go_sem,pw,En,nA]) (by simp only[go_sem]) rfl ⟨rfl,rfl⟩
 .simp only[au,ak (show ¬(1:UInt8)=0 by decide)]at hR;simp only[go_sem,show(((1:UInt8).toNat:Nat):Int)=1 from rfl,show IntKind.i64.wrap 1=1 from rfl,show((1:Int)==0)=false from rfl];refine ae (afO hb a3 e3 k3) ?_;generalize dF (Ce b) tI a3 e3=y at*;obtain⟨i,a4,e4⟩:=y;simp only at hR⊢;subst hR;simp only[go_sem,D9,rM];exact done [] _ [(1000,ro true b a4 e4)] (by simp only[go_sem,pw,En,nA]) (by simp only[go_sem]) rfl ⟨rfl,rfl⟩
 .simp only[au,ak (show ¬(2:UInt8)=0 by decide),ak (show ¬(2:UInt8)=1 by decide)]at hR;simp only[go_sem,show(((2:UInt8).toNat:Nat):Int)=2 from rfl,show IntKind.i64.wrap 2=2 from rfl,show((2:Int)==0)=false from rfl,show((2:Int)==1)=false from rfl];refine ae (Pt hb a3 e3 k3) ?_;have hz:dF (yl b) En=dF (yl b) ⟨0,0,false⟩:=rfl;rw[hz]at hR;generalize dF (yl b) ⟨0,0,false⟩ a3 e3=y at*;obtain⟨i,a4,e4⟩:=y;simp only at hR⊢;subst hR;simp only[go_sem,pB,j7];exact done [] _ [(1000,ro true b a4 e4)] (by simp only[go_sem,pw,En,nA]) (by simp only[go_sem]) rfl ⟨rfl,rfl⟩
 .simp only[au,ak (show ¬(3:UInt8)=0 by decide),ak (show ¬(3:UInt8)=1 by decide),ak (show ¬(3:UInt8)=2 by decide)]at hR;simp only[go_sem,show(((3:UInt8).toNat:Nat):Int)=3 from rfl,show IntKind.i64.wrap 3=3 from rfl,show((3:Int)==0)=false from rfl,show((3:Int)==1)=false from rfl,show((3:Int)==2)=false from rfl];refine ae (afL hb a3 e3 k3) ?_;generalize dF (CV b) nA a3 e3=y at*;obtain⟨i,a4,e4⟩:=y;simp only at hR⊢;subst hR;simp only[go_sem,zU,Ek];exact done [] _ [(1000,ro true b a4 e4)] (by simp only[go_sem,pw,En,nA]) (by simp only[go_sem]) rfl ⟨rfl,rfl⟩
 .simp only[ak q0,ak q1,ak q2,ak q3]at hR;simp only[go_sem,w,p0,p1,p2,p3];refine ae (E3 a3 e3 4) ?_;generalize (if e3=0 then(4:Int)else e3)=e4 at*;subst hR;simp only[go_sem];exact done [] _ [(1000,ro true b a3 e4)] (by simp only[go_sem,pw,En,nA]) (by simp only[go_sem]) rfl ⟨rfl,rfl⟩
end
section
def B8{α β γ:Type}(r:Rd α)(f:α->Nat->Rd β)(g:β->Nat->Rd γ):fq (fq r f) g=fq r λx k=>fq (f x k) g:=by cases r<;>rfl
def wQ(b:Af)(n:Nat):PS (Af):=λa e=>((aO (e==0) b a e (n:Nat)).1.getD [],(aO (e==0) b a e (n:Nat)).2)
def Nt(b:Af)(n:Nat):dn b (wQ b n) (λa=>if n>b.length-a then .error (3,a)else .ok ((b.drop a).take n,a+n)):=by
 intro a e ha;refine⟨NE ha,λhe=>?_,λhe=>?_⟩
 .unfold wQ aO;rw[ei he,ak (by decide)]
 .subst he;unfold wQ aO;rw[au (show((0:Int)==0)=true from rfl),ak (by omega)];by_cases h:n>b.length-a
  .rw[au (by omega)];exact .inr ⟨3,a,au h,by decide,rfl⟩
  .rw[ak (by omega),eB];exact .inl ⟨_,_,ak h,rfl⟩
def pDq(b:Af)(n:Nat):PS (Int×Int×List be) :=
 pI (n=0) (pb (dF (gX b) []) λo=>pP (0,0,o)) <| pI (n=1) (pP (1,0,[])) <| pI (n=2) (pb (kv b) λm=>pb (dF (gX b) []) λo=>pP (0,(m:Int),o)) <| pF 4 (0,0,[])
def Ip(b:Af):PS Da:=pb (kv b) λn=>pb (pDq b n) λq=>pb (pC b 4096) λn2=>pb (wQ b n2) λl=>pP ⟨q.1,q.2.1,q.2.2,l⟩
def afy(b:Af)(n:Nat):dn b (pDq b n) (λk=>if n=0 then fq (gX b k) λo k=>.ok ((0,0,o),k)else if n=1 then .ok ((1,0,[]),k)else if n=2 then fq (gU b k) λm k=>fq (gX b k) λo k=>.ok ((0,(m:Int),o),k)else .error (4,k)) :=
 (((eY b).oks []).bd λo=>dn.pure _).ite <| (dn.pure _).ite <| (kW.bd λm=>((eY b).oks []).bd λo=>dn.pure _).ite (dn.fail (by decide) _)
def Nl(b:Af):dn b (Ip b) (gDa b):=by
 have h:=kW.bd (b:=b) λn=>(afy b n).bd λq=>(Ak 4096).bd λn2=>(Nt b n2).bd λl=>dn.pure (b:=b) (⟨q.1,q.2.1,q.2.2,l⟩:Da);refine h.congr λa=>?_;unfold gDa;congr 1;funext n k;by_cases h0:n=0
 .subst h0;simp only[au,B8,dq,ak (show ¬(0:Nat)>2 by decide),ak (show ¬(0:Nat)=2 by decide),ak (show ¬(0:Nat)=1 by decide),GC]
 by_cases h1:n=1
 .subst h1;simp only[au,B8,dq,ak (show ¬(1:Nat)>2 by decide),ak (show ¬(1:Nat)=2 by decide),ak (show ¬(1:Nat)=0 by decide),GC]
 by_cases h2:n=2
 .subst h2;simp only[au,B8,dq,ak (show ¬(2:Nat)>2 by decide),ak (show ¬(2:Nat)=1 by decide),ak (show ¬(2:Nat)=0 by decide),GC]
 .rw[ak h0,ak h1,ak h2,au (by omega)];rfl
variable{b:Af}(hb:b.length<1000000000)
include hb
attribute[local go_sem] bZ ro wa
theorem aih:RP 172 [] b (Ip b) (λx=>.agg (iz x)):=by
 intro a e ha;refine bA pS ?_;simp only[go_sem,pS];refine ae (NB hb a e ha) ?_;have k1:=(kW (b:=b) a e ha).1;have hR:Ip b a e=Ip b a e:=rfl
 conv at hR=>rhs;simp only[Ip,pDq,pb,pP,pI,pF]
 generalize Ip b a e=R at*;generalize kv b a e=y at*;obtain⟨n,a1,e1⟩:=y;simp only at k1 hR⊢;by_cases h0:n=0
 .subst h0;simp only[au]at hR;simp only[go_sem,show((((0:Nat):Int))==0)=true from rfl];refine ae (VA hb a1 e1 k1) ?_;have k3:=((eY b).oks [] a1 e1 k1).1;generalize dF (gX b) [] a1 e1=y at*;obtain⟨ol,a3,e3⟩:=y;simp only at k3 hR⊢;simp only[go_sem,exs]
  try simp only[go_sem]
  refine ae (Yf hb 4096 a3 e3 k3) ?_;have k4:=((Ak 4096) a3 e3 k3).1;have hN:=pj (b:=b) (most:=4096) (a:=a3) (e:=e3);generalize pC b 4096 a3 e3=y at*;obtain⟨n2,a4,e4⟩:=y;simp only at k4 hN hR⊢;simp only[go_sem];refine ae (u9 true b a4 e4 n2 k4 hb ⟨by omega,by omega⟩) ?_;rw[bY];unfold wQ at hR;generalize aO (e4==0) b a4 e4 (n2:Nat)=y at*;obtain⟨l,a5,e5⟩:=y;simp only at hR⊢;subst hR;cases l with
  | none =>
   simp only[go_sem];exact aJ (Wk.nlm _ 2 (r':=iz ⟨0,0,ol,[]⟩) rfl ⟨.inl rfl,.inl rfl,(by first|exact .inl rfl|exact .inr ⟨rfl,.inl ⟨_,rfl⟩⟩),.inr ⟨rfl,.inl ⟨_,rfl⟩⟩,trivial⟩) [] (.agg (iz ⟨0,0,ol,[]⟩)) [(1000,ro true b a5 e5)] (by simp only[go_sem,iz]) (by simp only[go_sem]) rfl ⟨rfl,rfl⟩
  | some l =>
   simp only[go_sem];exact aJ (Wk.nlm _ 2 (r':=iz ⟨0,0,ol,l⟩) rfl ⟨.inl rfl,.inl rfl,(by first|exact .inl rfl|exact .inr ⟨rfl,.inl ⟨_,rfl⟩⟩),.inl rfl,trivial⟩) [] (.agg (iz ⟨0,0,ol,l⟩)) [(1000,ro true b a5 e5)] (by simp only[go_sem,iz]) (by simp only[go_sem]) rfl ⟨rfl,rfl⟩
 by_cases h1:n=1
 .subst h1;simp only[au,ak (show ¬(1:Nat)=0 by decide)]at hR;simp only[go_sem,show((((1:Nat):Int))==0)=false from rfl,show((((1:Nat):Int))==1)=true from rfl];have k3:=k1;obtain⟨a3,ha3⟩:∃k,a1=k:=⟨a1,rfl⟩
  obtain⟨e3,he3⟩:∃k,e1=k:=⟨e1,rfl⟩
  rw[ha3]at k3;rw[ha3,he3]at hR⊢
  try simp only[go_sem]
  refine ae (Yf hb 4096 a3 e3 k3) ?_;have k4:=((Ak 4096) a3 e3 k3).1;have hN:=pj (b:=b) (most:=4096) (a:=a3) (e:=e3);generalize pC b 4096 a3 e3=y at*;obtain⟨n2,a4,e4⟩:=y;simp only at k4 hN hR⊢;simp only[go_sem];refine ae (u9 true b a4 e4 n2 k4 hb ⟨by omega,by omega⟩) ?_;rw[bY];unfold wQ at hR;generalize aO (e4==0) b a4 e4 (n2:Nat)=y at*;obtain⟨l,a5,e5⟩:=y;simp only at hR⊢;subst hR;cases l with
  | none =>
   simp only[go_sem];exact aJ (Wk.nlm _ 2 (r':=iz ⟨1,0,[],[]⟩) rfl ⟨.inl rfl,.inl rfl,(by first|exact .inl rfl|exact .inr ⟨rfl,.inl ⟨_,rfl⟩⟩),.inr ⟨rfl,.inl ⟨_,rfl⟩⟩,trivial⟩) [] (.agg (iz ⟨1,0,[],[]⟩)) [(1000,ro true b a5 e5)] (by simp only[go_sem,iz]) (by simp only[go_sem]) rfl ⟨rfl,rfl⟩
  | some l =>
   simp only[go_sem];exact aJ (Wk.nlm _ 2 (r':=iz ⟨1,0,[],l⟩) rfl ⟨.inl rfl,.inl rfl,(by first|exact .inl rfl|exact .inr ⟨rfl,.inl ⟨_,rfl⟩⟩),.inl rfl,trivial⟩) [] (.agg (iz ⟨1,0,[],l⟩)) [(1000,ro true b a5 e5)] (by simp only[go_sem,iz]) (by simp only[go_sem]) rfl ⟨rfl,rfl⟩
 by_cases h2:n=2
 .subst h2;simp only[au,ak (show ¬(2:Nat)=0 by decide),ak (show ¬(2:Nat)=1 by decide)]at hR;simp only[go_sem,show((((2:Nat):Int))==0)=false from rfl,show((((2:Nat):Int))==1)=false from rfl,show((((2:Nat):Int))==2)=true from rfl];refine ae (NB hb a1 e1 k1) ?_;have k2:=(kW (b:=b) a1 e1 k1).1;generalize kv b a1 e1=y at*;obtain⟨m,a2,e2⟩:=y;simp only at k2 hR⊢;simp only[go_sem];refine ae (VA hb a2 e2 k2) ?_;have k3:=((eY b).oks [] a2 e2 k2).1;generalize dF (gX b) [] a2 e2=y at*;obtain⟨ol,a3,e3⟩:=y;simp only at k3 hR⊢;simp only[go_sem,exs]
  try simp only[go_sem]
  refine ae (Yf hb 4096 a3 e3 k3) ?_;have k4:=((Ak 4096) a3 e3 k3).1;have hN:=pj (b:=b) (most:=4096) (a:=a3) (e:=e3);generalize pC b 4096 a3 e3=y at*;obtain⟨n2,a4,e4⟩:=y;simp only at k4 hN hR⊢;simp only[go_sem];refine ae (u9 true b a4 e4 n2 k4 hb ⟨by omega,by omega⟩) ?_;rw[bY];unfold wQ at hR;generalize aO (e4==0) b a4 e4 (n2:Nat)=y at*;obtain⟨l,a5,e5⟩:=y;simp only at hR⊢;subst hR;cases l with
  | none =>
   simp only[go_sem];exact aJ (Wk.nlm _ 2 (r':=iz ⟨0,(m:Int),ol,[]⟩) rfl ⟨.inl rfl,.inl rfl,(by first|exact .inl rfl|exact .inr ⟨rfl,.inl ⟨_,rfl⟩⟩),.inr ⟨rfl,.inl ⟨_,rfl⟩⟩,trivial⟩) [] (.agg (iz ⟨0,(m:Int),ol,[]⟩)) [(1000,ro true b a5 e5)] (by simp only[go_sem,iz]) (by simp only[go_sem]) rfl ⟨rfl,rfl⟩
  | some l =>
   simp only[go_sem];exact aJ (Wk.nlm _ 2 (r':=iz ⟨0,(m:Int),ol,l⟩) rfl ⟨.inl rfl,.inl rfl,(by first|exact .inl rfl|exact .inr ⟨rfl,.inl ⟨_,rfl⟩⟩),.inl rfl,trivial⟩) [] (.agg (iz ⟨0,(m:Int),ol,l⟩)) [(1000,ro true b a5 e5)] (by simp only[go_sem,iz]) (by simp only[go_sem]) rfl ⟨rfl,rfl⟩
 simp only[ak h0,ak h1,ak h2]at hR;have p0:(((n:Int))==0)=false:=fK.2 (by omega);have p1:(((n:Int))==1)=false:=fK.2 (by omega);have p2:(((n:Int))==2)=false:=fK.2 (by omega);simp only[go_sem,p0,p1,p2];have cf:=E3 (b:=b) a1 e1 4;generalize (if e1=0 then(4:Int)else e1)=e3 at*;refine ae (cf) ?_;have k3:=k1;obtain⟨a3,ha3⟩:∃k,a1=k:=⟨a1,rfl⟩
 rw[ha3]at k3;rw[ha3]at hR⊢
 try simp only[go_sem]
 refine ae (Yf hb 4096 a3 e3 k3) ?_;have k4:=((Ak 4096) a3 e3 k3).1;have hN:=pj (b:=b) (most:=4096) (a:=a3) (e:=e3);generalize pC b 4096 a3 e3=y at*;obtain⟨n2,a4,e4⟩:=y;simp only at k4 hN hR⊢;simp only[go_sem];refine ae (u9 true b a4 e4 n2 k4 hb ⟨by omega,by omega⟩) ?_;rw[bY];unfold wQ at hR;generalize aO (e4==0) b a4 e4 (n2:Nat)=y at*;obtain⟨l,a5,e5⟩:=y;simp only at hR⊢;subst hR;cases l with
 | none =>
  simp only[go_sem];exact aJ (Wk.nlm _ 2 (r':=iz ⟨0,0,[],[]⟩) rfl ⟨.inl rfl,.inl rfl,(by first|exact .inl rfl|exact .inr ⟨rfl,.inl ⟨_,rfl⟩⟩),.inr ⟨rfl,.inl ⟨_,rfl⟩⟩,trivial⟩) [] (.agg (iz ⟨0,0,[],[]⟩)) [(1000,ro true b a5 e5)] (by simp only[go_sem,iz]) (by simp only[go_sem]) rfl ⟨rfl,rfl⟩
 | some l =>
  simp only[go_sem];exact aJ (Wk.nlm _ 2 (r':=iz ⟨0,0,[],l⟩) rfl ⟨.inl rfl,.inl rfl,(by first|exact .inl rfl|exact .inr ⟨rfl,.inl ⟨_,rfl⟩⟩),.inl rfl,trivial⟩) [] (.agg (iz ⟨0,0,[],l⟩)) [(1000,ro true b a5 e5)] (by simp only[go_sem,iz]) (by simp only[go_sem]) rfl ⟨rfl,rfl⟩
end
section
variable{b:Af}(hb:b.length<1000000000)
include hb
attribute[local go_sem] ro wo wa rx ce
theorem agf:RQ 299 [] b (Ir b) (λx=>.agg (pw x)):=by
 intro a e ha;refine aC pW ?_;simp only[go_sem,pW];refine ab (UD hb a e ha) ?_;have k1:=(yK (b:=b) a e ha).1;have hR:Ir b a e=Ir b a e:=rfl
 conv at hR=>rhs;simp only[Ir,pb,pP,pI,pF]
 generalize Ir b a e=R at*;generalize Ps b a e=y at*;obtain⟨nm,a1,e1⟩:=y;simp only at k1 hR⊢;simp only[go_sem];refine ab (UD hb a1 e1 k1) ?_;have k2:=(yK (b:=b) a1 e1 k1).1;generalize Ps b a1 e1=y at*;obtain⟨nn,a2,e2⟩:=y;simp only at k2 hR⊢;simp only[go_sem];refine ab (Cl hb a2 e2 k2) ?_;have k3:=(xE (b:=b) a2 e2 k2).1;generalize cT b a2 e2=y at*;obtain⟨x,a3,e3⟩:=y;simp only at k3 hR⊢;have w:=wi (n:=(x.toNat:Int)) (by omega) (by have:=UInt8.toNat_lt x;omega);rcases aaf x with rfl|rfl|rfl|rfl|⟨q0,q1,q2,q3,p0,p1,p2,p3⟩
 .simp only[au]at hR;simp only[go_sem,show(((0:UInt8).toNat:Nat):Int)=0 from rfl,show IntKind.i64.wrap 0=0 from rfl];refine ab (BX hb a3 e3 k3) ?_;generalize kv b a3 e3=y at*;obtain⟨i,a4,e4⟩:=y;simp only at hR⊢;subst hR;simp only[go_sem];exact aB [] (by simp only[go_sem,pw,En,nA]) rfl
 .simp only[au,ak (show ¬(1:UInt8)=0 by decide)]at hR;simp only[go_sem,show(((1:UInt8).toNat:Nat):Int)=1 from rfl,show IntKind.i64.wrap 1=1 from rfl,show((1:Int)==0)=false from rfl];refine ab (Z_ hb a3 e3 k3) ?_;generalize dF (Ce b) tI a3 e3=y at*;obtain⟨i,a4,e4⟩:=y;simp only at hR⊢;subst hR;simp only[go_sem,D9,rM];exact aB [] (by simp only[go_sem,pw,En,nA]) rfl
 .simp only[au,ak (show ¬(2:UInt8)=0 by decide),ak (show ¬(2:UInt8)=1 by decide)]at hR;simp only[go_sem,show(((2:UInt8).toNat:Nat):Int)=2 from rfl,show IntKind.i64.wrap 2=2 from rfl,show((2:Int)==0)=false from rfl,show((2:Int)==1)=false from rfl];refine ab (Gg hb a3 e3 k3) ?_;have hz:dF (yl b) En=dF (yl b) ⟨0,0,false⟩:=rfl;rw[hz]at hR;generalize dF (yl b) ⟨0,0,false⟩ a3 e3=y at*;obtain⟨i,a4,e4⟩:=y;simp only at hR⊢;subst hR;simp only[go_sem,pB,j7];exact aB [] (by simp only[go_sem,pw,En,nA]) rfl
 .simp only[au,ak (show ¬(3:UInt8)=0 by decide),ak (show ¬(3:UInt8)=1 by decide),ak (show ¬(3:UInt8)=2 by decide)]at hR;simp only[go_sem,show(((3:UInt8).toNat:Nat):Int)=3 from rfl,show IntKind.i64.wrap 3=3 from rfl,show((3:Int)==0)=false from rfl,show((3:Int)==1)=false from rfl,show((3:Int)==2)=false from rfl];refine ab (Z9 hb a3 e3 k3) ?_;generalize dF (CV b) nA a3 e3=y at*;obtain⟨i,a4,e4⟩:=y;simp only at hR⊢;subst hR;simp only[go_sem,zU,Ek];exact aB [] (by simp only[go_sem,pw,En,nA]) rfl
 .simp only[ak q0,ak q1,ak q2,ak q3]at hR;simp only[go_sem,w,p0,p1,p2,p3];refine cJ (xH b a3 e3 4) (by simp[go_sem,rx]) (by rfl) ?_;generalize (if e3=0 then(4:Int)else e3)=e4 at*;subst hR;simp only[go_sem];exact aB [] (by simp only[go_sem,pw,En,nA]) rfl
end
section
variable{b:Af}(hb:b.length<1000000000)
include hb
attribute[local go_sem] ro wo wa rx ce
theorem agc:RQ 307 [] b (Ip b) (λx=>.agg (iz x)):=by
 intro a e ha;refine aC sW ?_;simp only[go_sem,sW];refine ab (BX hb a e ha) ?_;have k1:=(kW (b:=b) a e ha).1;have hR:Ip b a e=Ip b a e:=rfl
 conv at hR=>rhs;simp only[Ip,pDq,pb,pP,pI,pF]
 generalize Ip b a e=R at*;generalize kv b a e=y at*;obtain⟨n,a1,e1⟩:=y;simp only at k1 hR⊢;by_cases h0:n=0
 .subst h0;simp only[au]at hR;simp only[go_sem,show decide (((0:Nat):Int)>2)=false from rfl,show(((0:Nat):Int)==1)=false from rfl,show(((0:Nat):Int)==2)=false from rfl,show(((0:Nat):Int) != 1)=true from rfl];refine ab (LW hb a1 e1 k1) ?_;have k3:=((eY b).oks [] a1 e1 k1).1;generalize dF (gX b) [] a1 e1=y at*;obtain⟨ol,a3,e3⟩:=y;simp only at k3 hR⊢;simp only[go_sem,exs];refine ab (vS hb 4096 a3 e3 k3) ?_;have k4:=((Ak 4096) a3 e3 k3).1;have hN:=pj (b:=b) (most:=4096) (a:=a3) (e:=e3);generalize pC b 4096 a3 e3=y at*;obtain⟨n2,a4,e4⟩:=y;simp only at k4 hN hR⊢;simp only[go_sem];refine ab (uV b a4 e4 n2 k4 hb ⟨by omega,by omega⟩) ?_;unfold wQ at hR;generalize aO (e4==0) b a4 e4 (n2:Nat)=y at*;obtain⟨l,a5,e5⟩:=y;simp only at hR⊢;subst hR;cases l with
  | none =>
   simp only[go_sem];exact bN (Wk.nlm _ 3 (r':=iz ⟨0,0,ol,[]⟩) rfl ⟨.inl rfl,.inl rfl,.inl rfl,.inr ⟨rfl,.inl ⟨_,rfl⟩⟩,trivial⟩) [] (by simp only[go_sem,iz]) rfl
  | some l =>
   simp only[go_sem];exact aB [] (by simp only[go_sem,iz]) rfl
 by_cases h1:n=1
 .subst h1;simp only[au,ak (show ¬(1:Nat)=0 by decide)]at hR;obtain⟨a3,ha3⟩:∃k,a1=k:=⟨a1,rfl⟩
  obtain⟨e3,he3⟩:∃k,e1=k:=⟨e1,rfl⟩
  have k3:=k1;rw[ha3]at k3;rw[ha3,he3]at hR⊢;simp only[go_sem,show decide (((1:Nat):Int)>2)=false from rfl,show(((1:Nat):Int)==1)=true from rfl,show(((1:Nat):Int)==2)=false from rfl,show(((1:Nat):Int) != 1)=false from rfl];refine ab (vS hb 4096 a3 e3 k3) ?_;have k4:=((Ak 4096) a3 e3 k3).1;have hN:=pj (b:=b) (most:=4096) (a:=a3) (e:=e3);generalize pC b 4096 a3 e3=y at*;obtain⟨n2,a4,e4⟩:=y;simp only at k4 hN hR⊢;simp only[go_sem];refine ab (uV b a4 e4 n2 k4 hb ⟨by omega,by omega⟩) ?_;unfold wQ at hR;generalize aO (e4==0) b a4 e4 (n2:Nat)=y at*;obtain⟨l,a5,e5⟩:=y;simp only at hR⊢;subst hR;cases l with
  | none =>
   simp only[go_sem];exact bN (Wk.nlm _ 3 (r':=iz ⟨1,0,[],[]⟩) rfl ⟨.inl rfl,.inl rfl,.inr ⟨rfl,.inl ⟨_,rfl⟩⟩,.inr ⟨rfl,.inl ⟨_,rfl⟩⟩,trivial⟩) [] (by simp only[go_sem,iz]) rfl
  | some l =>
   simp only[go_sem];exact bN (Wk.nlm _ 3 (r':=iz ⟨1,0,[],l⟩) rfl ⟨.inl rfl,.inl rfl,.inr ⟨rfl,.inl ⟨_,rfl⟩⟩,.inl rfl,trivial⟩) [] (by simp only[go_sem,iz]) rfl
 by_cases h2:n=2
 .subst h2;simp only[au,ak (show ¬(2:Nat)=0 by decide),ak (show ¬(2:Nat)=1 by decide)]at hR;simp only[go_sem,show decide (((2:Nat):Int)>2)=false from rfl,show(((2:Nat):Int)==1)=false from rfl,show(((2:Nat):Int)==2)=true from rfl,show(((2:Nat):Int) != 1)=true from rfl];refine ab (BX hb a1 e1 k1) ?_;have k2:=(kW (b:=b) a1 e1 k1).1;generalize kv b a1 e1=y at*;obtain⟨me,a2,e2⟩:=y;simp only at k2 hR⊢;simp only[go_sem,show decide (((2:Nat):Int)>2)=false from rfl,show(((2:Nat):Int)==1)=false from rfl,show(((2:Nat):Int)==2)=true from rfl,show(((2:Nat):Int) != 1)=true from rfl];refine ab (LW hb a2 e2 k2) ?_;have k3:=((eY b).oks [] a2 e2 k2).1;generalize dF (gX b) [] a2 e2=y at*;obtain⟨ol,a3,e3⟩:=y;simp only at k3 hR⊢;simp only[go_sem,exs];refine ab (vS hb 4096 a3 e3 k3) ?_;have k4:=((Ak 4096) a3 e3 k3).1;have hN:=pj (b:=b) (most:=4096) (a:=a3) (e:=e3);generalize pC b 4096 a3 e3=y at*;obtain⟨n2,a4,e4⟩:=y;simp only at k4 hN hR⊢;simp only[go_sem];refine ab (uV b a4 e4 n2 k4 hb ⟨by omega,by omega⟩) ?_;unfold wQ at hR;generalize aO (e4==0) b a4 e4 (n2:Nat)=y at*;obtain⟨l,a5,e5⟩:=y;simp only at hR⊢;subst hR;cases l with
  | none =>
   simp only[go_sem];exact bN (Wk.nlm _ 3 (r':=iz ⟨0,me,ol,[]⟩) rfl ⟨.inl rfl,.inl rfl,.inl rfl,.inr ⟨rfl,.inl ⟨_,rfl⟩⟩,trivial⟩) [] (by simp only[go_sem,iz]) rfl
  | some l =>
   simp only[go_sem];exact aB [] (by simp only[go_sem,iz]) rfl
 .simp only[ak h0,ak h1,ak h2]at hR;have h3:decide ((n:Int)>2)=true:=aK (by omega);simp only[go_sem,h3];refine cJ (xH b a1 e1 4) (by simp[go_sem,rx]) (by rfl) ?_;have he:(if e1=0 then(4:Int)else e1)≠0:=by
   by_cases h:e1=0
   .rw[au h];decide
   .rw[ak h];exact h
  generalize (if e1=0 then(4:Int)else e1)=e4 at*;have hc:pC b 4096 a1 e4=(0,a1,e4):=by unfold pC;rw[ei he,DN]
  have hk:wQ b 0 a1 e4=([],a1,e4):=by unfold wQ aO;rw[ei he];rfl
  simp only[hc,hk]at hR;subst hR;simp only[go_sem];exact bN (Wk.nlm _ 3 (r':=iz ⟨0,0,[],[]⟩) rfl ⟨.inl rfl,.inl rfl,.inr ⟨rfl,.inl ⟨_,rfl⟩⟩,.inr ⟨rfl,.inl ⟨_,rfl⟩⟩,trivial⟩) [] (by simp only[go_sem,iz]) rfl
end
section
def Pk:List (List AV)->List (List AV)->Prop
 | [],[]=>True
 | x::l,y::m=>Vz x y/\Pk l m
 | _,_=>False
def yI:∀{l m:List (List AV)},Pk l m->m.length=l.length
 | [],[],_=>rfl
 | _::_,_::_,h=>by simp[yI h.2]
 | [],_::_,h=>h.elim
 | _::_,[],h=>h.elim
def DB:∀{l m:List (List AV)},Pk l m->∀{j:Nat}{y:List AV},m[j]?=some y->∃x,l[j]?=some x/\Vz x y
 | [],[],_,j,y,hy=>by simp at hy
 | x::l,z::m,h,0,y,hy=>by simp at hy;subst hy;exact⟨x,rfl,h.1⟩
 | x::l,z::m,h,j+1,y,hy=>by simpa using DB h.2 (j:=j) (by simpa using hy)
 | [],_::_,h,_,_,_=>h.elim
 | _::_,[],h,_,_,_=>h.elim
def Wk.nla(s:St)(i:Nat){t:TypeId}{st:Nat}{rs rs':List (List AV)}(hi:ah s.heap i=some ⟨t,st,rs,false⟩)(hr:Pk rs rs'):Wk s ⟨s.env,(i,⟨t,st,rs',false⟩)::s.heap⟩:=by
 rintro c a w ⟨bl,hs⟩;have hm:∀b,bG bl c.MF (ah ((i,⟨t,st,rs',false⟩)::s.heap)) b↔bG bl c.MF (ah s.heap) b:=bG.congr λj=>by
  simp only[ah];split
  .rename_i h;subst h;rw[hi];rfl
  .rfl
 have ht:=Tr.of_iff (w:=w) λb=>(hm b)
 refine⟨bl,hs.defers,hs.size,λj=>(hs.env j).tr ht (λ_ _=>rfl),⟨λj o hj=>?_,λj j' o o' b h1 h2=>?_⟩,hs.step,λj o b h1=>?_,hs.stab,hs.mf⟩
 .simp only[ah]at hj;split at hj
  .rename_i hij;subst hij;cases hj;rcases hs.heap.1 i _ hi with hn|⟨b,g1,⟨gk,c1,fr,g2,g3,g4,g5,g6,g7⟩|hsp⟩
   .have e:rs'=[]:=by
     have h1:=yI hr;have h2:rs=[]:=hn.1;rw[h2]at h1;exact B0 h1
    subst e;exact .inl ⟨rfl,hn.2⟩
   rotate_left
   .have e:rs'=[]:=by
     have h1:=yI hr;have h2:rs=[]:=hsp.rows;rw[h2]at h1;exact B0 h1
    subst e;exact .inr ⟨b,g1,.inr ⟨rfl,rfl,hsp.free,hsp.rel⟩⟩
   .refine .inr ⟨b,g1,.inl ⟨gk,c1,fr,g2,g3,g4,λk q hq=>?_,by rw[yI hr];exact g6,λk q u x hu hx=>?_⟩⟩
    .obtain⟨r0,h1,h2⟩:=DB hr hq;rw[HA h2];exact g5 k r0 h1
    .obtain⟨r0,h1,h2⟩:=DB hr hu;obtain⟨x0,h3,h4⟩:=Hz h2 hx;obtain⟨v,hv1,hv2⟩:=g7 k q r0 x0 h1 h3;refine⟨v,hv1,?_⟩;have hv3:IRel (bG bl c.MF (ah s.heap)) w v x0:=hv2;rcases h4 with h4|⟨h4,st',h5⟩
     .subst h4;exact hv3.tr ht.keep
     .subst h4 h5;exact(IRel.nl_sl hv3 st').tr ht.keep
  .rcases hs.heap.1 j o hj with hn|⟨b,g1,⟨gk,c1,fr,g2,g3,g4,g5,g6,g7⟩|hsp⟩
   .exact .inl hn
   rotate_left
   .exact .inr ⟨b,g1,.inr hsp⟩
   .refine .inr ⟨b,g1,.inl ⟨gk,c1,fr,g2,g3,g4,g5,g6,λk q u x hu hx=>?_⟩⟩;obtain⟨v,hv1,hv2⟩:=g7 k q u x hu hx;refine⟨v,hv1,?_⟩;cases hrec:o.isRec<;>simp only[hrec,Bx]at hv2⊢
    .exact hv2.tr ht.keep
    .exact hv2.tr ht (λ_ _=>rfl)
 .have key:∀{j:Nat}{o:ao},ah ((i,⟨t,st,rs',false⟩)::s.heap) j=some o->∃o',ah s.heap j=some o':=λ{j o} hj=>by
   simp only[ah]at hj;split at hj
   .rename_i hij;subst hij;exact⟨_,hi⟩
   .exact⟨_,hj⟩
  obtain⟨p1,q1⟩:=key h1;obtain⟨p2,q2⟩:=key h2;exact hs.heap.2 j j' p1 p2 b q1 q2
 .simp only[ah]at h1;split at h1
  .rename_i hij;subst hij;exact hs.own i _ b hi
  .exact hs.own j o b h1
def px(b:Af)(n:Nat):PS (List be):=pI (n<4) (pb (kv b) λk=>pP (E7 k)) (dF (gX b) [])
def TM(b:Af)(n:Nat):dn b (px b n) (gIt n b):=(kW.bd λk=>dn.pure (E7 (k:Nat))).ite ((eY b).oks [])
def ahi:∀n:Fin 8,(bO .i64 ((n.val:Nat):Int) 4 != 0)=decide (¬n.val<4):=by decide
def Tt(k:Int):Pk [[.int .i64 210,.int .i64 k,.int .i64 0,.int .u64 0,.int .i64 0,.int .i64 0,.int .i64 0,.nl,.nl],[.int .i64 11,.int .i64 0,.int .i64 0,.int .u64 0,.int .i64 0,.int .i64 0,.int .i64 0,.nl,.nl]] ((E7 k).map az) :=
 ⟨⟨.inl rfl,.inl rfl,.inl rfl,.inl rfl,.inl rfl,.inl rfl,.inl rfl,.inr ⟨rfl,1,rfl⟩,.inr ⟨rfl,1,rfl⟩,trivial⟩,⟨.inl rfl,.inl rfl,.inl rfl,.inl rfl,.inl rfl,.inl rfl,.inl rfl,.inr ⟨rfl,1,rfl⟩,.inr ⟨rfl,1,rfl⟩,trivial⟩,trivial⟩
def tO(n:Nat):ao:=⟨3,1,[[.int .i64 (n:Nat)]],true⟩
variable{b:Af}(hb:b.length<1000000000)
include hb
attribute[local go_sem] bZ ro wa
def ain{n:Nat}(hn:n<=7)(a:Nat)(e:Int)(ha:a<=b.length):aQ pg 240 [.mp 1000 4 0 0,.mp 1001 1 0 0] [(1000,ro true b a e),(1001,tO n)] sb
  (λr' σ'=>r'=exs (px b n a e).1/\σ'=[(1000,ro true b ((px b n a e).2.1:Nat) (px b n a e).2.2),(1001,tO n)]):=by
 refine bA iM ?_;have f:=ahi ⟨n,by omega⟩;simp only at f;have hR:px b n a e=px b n a e:=rfl
 conv at hR=>rhs;simp only[px,pI,pb,pP]
 generalize px b n a e=R at*;by_cases h4:n<4
 .rw[aL (λh=>h h4)]at f;simp only[au h4]at hR;simp only[go_sem,iM,tO,f];refine ae (NB hb a e ha) ?_;generalize kv b a e=y at*;obtain⟨k,a1,e1⟩:=y;simp only at hR⊢;subst hR;simp only[go_sem];refine aJ (Wk.nla _ 13 (rs':=(E7 (k:Nat)).map az) (by rfl) (Tt _)) [13] (exs (E7 (k:Nat))) [(1000,ro true b a1 e1),(1001,tO n)] ?_ (by simp only[go_sem,tO]) rfl ⟨rfl,rfl⟩;simp only[go_sem];rfl
 .rw[aK h4]at f;simp only[ak h4]at hR;simp only[go_sem,iM,tO,f];refine ae (VA hb a e ha) ?_;generalize dF (gX b) [] a e=y at*;obtain⟨k,a1,e1⟩:=y;subst hR;simp only;simp only[go_sem];exact done [] _ [(1000,ro true b a1 e1),(1001,tO n)] (by simp only[go_sem,exs]) (by simp only[go_sem,tO]) rfl ⟨rfl,rfl⟩
end
section
variable{b:Af}(hb:b.length<1000000000)
include hb
attribute[local go_sem] bZ ro wa lQ
def uT{n:Nat}(hn:n<=7)(a:Nat)(e:Int)(ha:a<=b.length):aQ pg 239 [.mp 1000 4 0 0,.int .i64 256,.fn 240 [.mp 1001 1 0 0]] [(1000,ro true b a e),(1001,tO n)] sb
  (λr' σ'=>r' = .sl 1 ((pL b (px b n) 256 a e).1.map lQ)/\σ'=[(1000,ro true b ((pL b (px b n) 256 a e).2.1:Nat) (pL b (px b n) 256 a e).2.2),(1001,tO n)]):=by
 refine bA fL ?_;simp only[go_sem,fL,tO];refine aE (Yf hb 256 a e ha) ?_;have hN:=pj (b:=b) (most:=256) (a:=a) (e:=e);have h0:pL b (px b n) 256 a e=([]++(pN (px b n) (pC b 256 a e).1 (pC b 256 a e).2.1 (pC b 256 a e).2.2).1,(pN (px b n) (pC b 256 a e).1 (pC b 256 a e).2.1 (pC b 256 a e).2.2).2):=rfl;have hk:(pC b 256 a e).2.1<=b.length:=fg ha;generalize pL b (px b n) 256 a e=R at*;generalize pC b 256 a e=c at*;obtain⟨N,a0,e0⟩:=c;simp only at hN h0 hk⊢;refine aq (λq:Nat×List (List be)×Nat×Int=>⟨[(8,.int .i64 (q.1:Nat)),(7,.ms 900 1 0 q.2.1.length),(6,.nl),(0,.mp 1000 4 0 0),(1,.int .i64 256),(2,.fn 240 [.mp 1001 1 0 0])],[(900,⟨59,1,q.2.1.map lQ,false⟩),(1000,ro true b q.2.2.1 q.2.2.2),(1001,tO n)]⟩)
  (λq=>q.2.2.1<=b.length/\q.2.1.length+q.1<=N/\R=(q.2.1++(pN (px b n) q.1 q.2.2.1 q.2.2.2).1,(pN (px b n) q.1 q.2.2.1 q.2.2.2).2)) (λq=>q.1) (N,[],a0,e0) ⟨hk,by simp,h0⟩ ((Wk.nil _ 7 900 1 59 (by simp only[go_sem]) (.inl (by decide))).trans (Wk.of ?_ ?_)) ?_
 .simp only[go_sem,St.mknil];try simp[go_sem]
 .simp only[go_sem,St.mknil,tO];try simp[go_sem]
 rintro⟨m,l,a1,e1⟩ ⟨h1,h2,h3⟩;simp only at h1 h2 h3;have happ:=λys=>bq 900 59 1 l.length lQ l ys rfl;by_cases hm1:(m:Int)>0;rotate_left
 .obtain rfl:m=0:=by omega
  simp only[go_sem,aL hm1];subst h3;refine done [900] _ [(1000,ro true b a1 e1),(1001,tO n)] ?_ (by simp only[go_sem,tO]) rfl ⟨rfl,rfl⟩;simp only[go_sem,bZ,a_];rw[cI (by rw[bZ];omega)];simp[pN,pP]
 obtain⟨m,rfl⟩:∃k,m=k+1:=⟨m-1,by omega⟩
 have hw1:IntKind.i64.wrap (((m+1:Nat):Int)-1)=(m:Int):=by rw[wi (by omega) (by omega)];omega
 simp only[go_sem,aK hm1];refine ae (aS true b a1 e1) ?_;by_cases he:e1=0;rotate_left
 .simp only[go_sem,ei he];rw[HM he]at h3;subst h3;refine done [900] _ [(1000,ro true b a1 e1),(1001,tO n)] ?_ (by simp only[go_sem,tO]) rfl ⟨rfl,rfl⟩;simp only[go_sem,bZ,a_];rw[cI (by rw[bZ];omega)]
  try simp
 subst he;simp only[go_sem];refine⟨by kernel_rfl,?_⟩;have c1:=ain hb hn a1 0 h1;rw[JU]at h3;have hk2:=(TM b n a1 0 h1).1;generalize px b n a1 0=y at*;obtain⟨x,a2,e2⟩:=y;simp only at h3 hk2 c1⊢;refine IG c1 [] (λp hp=>?_) (λp hp=>?_) (λp hp=>?_) ?_
 .simp only[dQ,tN,or_false]at hp;rcases hp with rfl|rfl<;>rfl
 .simp only[dQ,tN,or_false]at hp;rcases hp with rfl|rfl
  .exact .inl ⟨⟨(by decide:1000<=1000),(by decide:1000<2000)⟩,rfl⟩
  .exact .inl ⟨⟨(by decide:1000<=1001),(by decide:1001<2000)⟩,rfl⟩
 .simp only[dQ,tN,or_false]at hp;rcases hp with rfl|rfl<;>rfl
 simp only[go_sem,exs,dE,dy,mr,fo,tO,happ,hw1];refine⟨by omega,aF (m,l++[x],a2,e2) ⟨hk2,by simp;omega,by rw[h3];simp⟩ (show m<m+1 by omega) (Wk.of ?_ ?_)⟩
 .simp only[go_sem];try simp
 .simp only[go_sem,tO];try simp[go_sem,lQ]
end
def pEt(b:Af)(n:Nat):PS Int:=pI (n%4=0) (pP 3) (pI (n<4) (pb (cT b) λx=>pb (Ch 4 (x≠0)) λ_=>pP 3) (dF (gV b) 0))
def Iq(b:Af):PS El:=pb (kv b) λn=>pI (n>7) (pF 4 ⟨0,0,[],0,[]⟩) <|
 pb (pI (n%4=2) (pb (kv b) λx=>pP (x:Int)) (pP 0)) λtb=>pb (pI (n%2=0) (dF (gX b) []) (pP [])) λo=>pb (pEt b n) λt=>pb (pL b (px b n) 256) λl=>pP ⟨cg n,tb,o,t,l⟩
def afz(b:Af)(n:Nat):dn b (pEt b n) (λk2=>if n%4=0 then .ok (3,k2)else if n<4 then fq (gB b k2) λx k3=>if x=0 then .ok (3,k3)else .error (4,k3)else gV b k2):=by
 have h:=xE.bd (b:=b) (u:=λx=>pb (Ch 4 (x≠0)) λ_=>pP (3:Int)) (r:=λx k=>if x≠0 then .error (4,k)else .ok ((3:Int),k)) λx=>dn.fi (by decide) (dn.pure 3);refine(dn.pure 3).ite ((h.congr λa=>?_).ite ((o7 b).oks 0));congr 1;funext x k;by_cases hx:x=0
 .rw[ak (λh=>h hx),au hx]
 .rw[au hx,ak hx]
def Nn(b:Af):dn b (Iq b) (gEl b):=kW.bd λn=>(dn.fail (by decide) _).ite <|
 ((kW.bd λx=>dn.pure ((x:Nat):Int)).ite (dn.pure 0)).bd λtb=>(((eY b).oks []).ite (dn.pure [])).bd λo=>(afz b n).bd λt=>((TM b n).l (g:=gIt n) 256).bd λl=>dn.pure (b:=b) (⟨cg n,tb,o,t,l⟩:El)
