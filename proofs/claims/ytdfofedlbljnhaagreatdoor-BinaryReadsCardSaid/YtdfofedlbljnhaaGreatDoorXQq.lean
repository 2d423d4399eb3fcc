import Derived.Test.YtdfofedlbljnhaaGreatDoorXQp
set_option linter.all false
set_option maxRecDepth 100000
set_option maxHeartbeats 40000000
namespace Go.Proofs.YtdfofedlbljnhaaGreatDoor
section
open Go Go.Mw
variable{b:Af}(hb:b.length<1000000000)
include hb
attribute[local go_sem] ro wo wa rx ce
def acY{n:Nat}(hn:n<=7)(mo tb ty:Int)(o:List be)(a:Nat)(e:Int)(ha:a<=b.length):aj pg 338 [rx b a e,.agg (eF ⟨mo,tb,o,ty,[]⟩),.int .i64 n]
  (.tup [rx b ((pL b (px b n) 256 a e).2.1:Nat) (pL b (px b n) 256 a e).2.2,.agg (eF ⟨mo,tb,o,ty,(pL b (px b n) 256 a e).1⟩)]):=by
 refine aC wq ?_;simp only[go_sem,wq,eF];refine ab (vS hb 256 a e ha) ?_;have hN:=pj (b:=b) (most:=256) (a:=a) (e:=e);have h0:pL b (px b n) 256 a e=([]++(pN (px b n) (pC b 256 a e).1 (pC b 256 a e).2.1 (pC b 256 a e).2.2).1,(pN (px b n) (pC b 256 a e).1 (pC b 256 a e).2.1 (pC b 256 a e).2.2).2):=rfl;have hk:(pC b 256 a e).2.1<=b.length:=fg ha;generalize pL b (px b n) 256 a e=R at*;generalize pC b 256 a e=c at*;obtain⟨N,a0,e0⟩:=c;simp only at hN h0 hk⊢;simp only[go_sem];refine aq (λq:Nat×List (List be)×Nat×Int=>⟨[(10,.int .i64 q.2.1.length),(9,.ms 900 1 0 q.2.1.length),(8,.int .i64 N),(7,.mp 7 5 0 0),(6,.mp 6 3 0 0),(4,.mp 4 5 0 0),(3,.mp 3 3 0 0),(2,.int .i64 n)],[(900,⟨59,1,q.2.1.map lQ,false⟩),(3,⟨240,3,[[.sl 1 (b.map de),.int .i64 q.2.2.1,.int .i64 q.2.2.2]],true⟩),(4,⟨112,5,[[.int .i64 mo,.int .i64 tb,.sl 9 (o.map az),.int .i64 ty,.sl 1 []]],true⟩),(6,⟨240,3,[[.nl,.int .i64 0,.int .i64 0]],true⟩),(7,⟨112,5,[[.int .i64 0,.int .i64 0,.nl,.int .i64 0,.nl]],true⟩)]⟩)
  (λq=>q.2.2.1<=b.length/\q.2.1.length+q.1=N/\R=(q.2.1++(pN (px b n) q.1 q.2.2.1 q.2.2.2).1,(pN (px b n) q.1 q.2.2.1 q.2.2.2).2)) (λq=>q.1) (N,[],a0,e0) ⟨hk,by simp,h0⟩ ((Wk.nil _ 9 900 1 59 (by simp only[go_sem]) (.inl (by decide))).trans (Wk.of ?_ ?_)) ?_
 .simp only[go_sem,St.mknil];try simp[go_sem]
 .simp only[go_sem,St.mknil];try simp[go_sem]
 rintro⟨m,l,a1,e1⟩ ⟨h1,h2,h3⟩;simp only at h1 h2 h3;have happ:=λys=>bq 900 59 1 l.length lQ l ys rfl;by_cases hm1:(l.length:Int)<(N:Int);rotate_left
 .obtain rfl:m=0:=by omega
  simp only[go_sem,aL hm1];subst h3;refine aB [900] ?_ rfl;simp only[go_sem,bZ,a_];rw[cI (by rw[bZ];omega)]
  try simp[pN,pP,eF]
 obtain⟨m,rfl⟩:∃k,m=k+1:=⟨m-1,by omega⟩
 have hw1:IntKind.i64.wrap ((l.length:Int)+1)=((l.length+1:Nat):Int):=by rw[wi (by omega) (by omega)];omega
 by_cases he:e1=0;rotate_left
 .rw[HM he]at h3;simp only[go_sem,aK hm1,ei he];subst h3;refine aB [900] ?_ rfl;simp only[go_sem,bZ,a_];rw[cI (by rw[bZ];omega)]
  try simp[eF]
 subst he;rw[JU]at h3;have hk2:=(TM b n a1 0 h1).1;have hI:px b n a1 0=px b n a1 0:=rfl
 conv at hI=>rhs;simp only[px,pI,pb,pP]
 generalize px b n a1 0=J at*;by_cases h4:n<4
 .have h4':(n:Int)<4:=by omega
  simp only[au h4]at hI;simp only[go_sem,aK hm1,aK h4'];refine ab (BX hb a1 0 h1) ?_;generalize kv b a1 0=y at*;obtain⟨k,a2,e2⟩:=y;simp only at hI⊢;subst hI;simp only at h3 hk2;simp only[go_sem];refine⟨_,(Wk.nla _ 42 (rs':=[[.int .i64 210,.int .i64 (k:Nat),.int .i64 0,.int .u64 0,.int .i64 0,.int .i64 0,.int .i64 0,.sl 1 [],.sl 1 []],[.int .i64 11,.int .i64 0,.int .i64 0,.int .u64 0,.int .i64 0,.int .i64 0,.int .i64 0,.sl 1 [],.sl 1 []]]) (by rfl) (Tt _)).trans (Wk.frzs [42] _),?_⟩;simp only[Al];simp only[go_sem,a_,List.take_succ_cons,rI,i0,cj,happ,hw1];refine⟨by omega,aF (m,l++[E7 (k:Nat)],a2,e2) ⟨hk2,by simp;omega,by rw[h3];simp⟩ (show m<m+1 by omega) (Wk.of ?_ ?_)⟩
  .simp only[go_sem];try simp
  .simp only[go_sem];try simp[go_sem,lQ,E7]
   exact⟨rfl,rfl⟩
 .have h4':¬(n:Int)<4:=by omega
  simp only[ak h4]at hI;simp only[go_sem,aK hm1,aL h4'];refine ab (LW hb a1 0 h1) ?_;generalize dF (gX b) [] a1 0=y at*;obtain⟨k,a2,e2⟩:=y;subst hI;simp only at h3 hk2⊢;simp only[go_sem,exs,happ,hw1];refine⟨by omega,aF (m,l++[k],a2,e2) ⟨hk2,by simp;omega,by rw[h3];simp⟩ (show m<m+1 by omega) (Wk.of ?_ ?_)⟩
  .simp only[go_sem];try simp
  .simp only[go_sem];try simp[go_sem,lQ]
end
section
open Go Go.Mw
def ld4(t:TypeId)(x y z u:AV):O_ none 1 0 0 (some ⟨t,1,[[x],[y],[z],[u]],false⟩)=some x/\O_ none 1 1 0 (some ⟨t,1,[[x],[y],[z],[u]],false⟩)=some y/\O_ none 1 2 0 (some ⟨t,1,[[x],[y],[z],[u]],false⟩)=some z/\O_ none 1 3 0 (some ⟨t,1,[[x],[y],[z],[u]],false⟩)=some u:=⟨rfl,rfl,rfl,rfl⟩
def nf8:((0:Nat):Int).tmod 4=0/\((1:Nat):Int).tmod 4=1/\((2:Nat):Int).tmod 4=2/\((3:Nat):Int).tmod 4=3/\((4:Nat):Int).tmod 4=0/\((5:Nat):Int).tmod 4=1/\((6:Nat):Int).tmod 4=2/\((7:Nat):Int).tmod 4=3/\decide (((1:Nat):Int)<4)=true/\decide (((1:Nat):Int)>4)=false/\decide (((2:Nat):Int)<4)=true/\decide (((2:Nat):Int)>4)=false/\decide (((3:Nat):Int)<4)=true/\decide (((3:Nat):Int)>4)=false/\decide (((5:Nat):Int)<4)=false/\decide (((5:Nat):Int)>4)=true/\decide (((6:Nat):Int)<4)=false/\decide (((6:Nat):Int)>4)=true/\decide (((7:Nat):Int)<4)=false/\decide (((7:Nat):Int)>4)=true:=by decide
variable{b:Af}(hb:b.length<1000000000)
include hb
def NH{n:Nat}(hn:n<=7)(mo tb ty:Int)(o:List be)(c:AV)(hc:Nd c (.sl 9 (o.map az)))(a:Nat)(e:Int)(ha:a<=b.length):aj pg 338 [rx b a e,.agg [.int .i64 mo,.int .i64 tb,c,.int .i64 ty,.nl],.int .i64 n]
  (.tup [rx b ((pL b (px b n) 256 a e).2.1:Nat) (pL b (px b n) 256 a e).2.2,.agg (eF ⟨mo,tb,o,ty,(pL b (px b n) 256 a e).1⟩)]) :=
 r7 (acY hb hn mo tb ty o a e ha) ⟨.inl (.rfl _),.inr ⟨_,_,rfl,rfl,.rfl _,.rfl _,hc,.rfl _,.nl 1,trivial⟩,.inl (.rfl _),trivial⟩
attribute[local go_sem] ro wo wa rx ce
theorem agd:RQ 304 [] b (Iq b) (λx=>.agg (eF x)):=by
 intro a e ha;refine aC sX ?_;simp only[go_sem,sX];refine ab (BX hb a e ha) ?_;have k1:=(kW (b:=b) a e ha).1;have hR:Iq b a e=Iq b a e:=rfl
 conv at hR=>rhs;simp only[Iq,pEt,Ch,pb,pP,pI,pF]
 generalize Iq b a e=R at*;generalize kv b a e=y at*;obtain⟨n,a1,e1⟩:=y;simp only at k1 hR⊢;by_cases hn:n>7
 .simp only[au hn]at hR;simp only[go_sem,show decide ((n:Int)>7)=true from aK (by omega)];refine ab (xH b a1 e1 4) ?_;subst hR;simp only[go_sem];exact bN (Wk.nlm _ 3 (r':=eF ⟨0,0,[],0,[]⟩) rfl ⟨.inl rfl,.inl rfl,.inr ⟨rfl,.inl ⟨9,rfl⟩⟩,.inl rfl,.inr ⟨rfl,.inl ⟨1,rfl⟩⟩,trivial⟩) [] (by simp only[go_sem,eF]) rfl
 have hn7:n<=7:=by omega
 simp only[go_sem,show decide ((n:Int)>7)=false from aL (by omega)];have l0:=λt x y z u=>(ld4 t x y z u).1;have l1:=λt x y z u=>(ld4 t x y z u).2.1;have l2:=λt x y z u=>(ld4 t x y z u).2.2.1;have l3:=λt x y z u=>(ld4 t x y z u).2.2.2;rcases(show n=0\/n=1\/n=2\/n=3\/n=4\/n=5\/n=6\/n=7 by omega)with rfl|rfl|rfl|rfl|rfl|rfl|rfl|rfl
 all_goals
  simp (decide:=true) only[aN,bB,↓reduceIte,Nat.reduceMod,Nat.zero_mod,Nat.reduceEqDiff,Nat.reduceLT]at hR;refine⟨by decide,⟨by decide,by decide⟩,?_⟩;simp only[go_sem,nf8,Int.reduceToNat,B5,B7,l0,l1,l2,l3]
  repeat (refine⟨by decide,?_⟩)
  try
   refine ab (BX hb a1 e1 k1) ?_;have k1:=(kW (b:=b) a1 e1 k1).1;generalize kv b a1 e1=y at*;obtain⟨tb,a1,e1⟩:=y;simp only at k1 hR⊢;simp only[go_sem,nf8]
   repeat (refine⟨by decide,?_⟩)
  try
   refine ab (LW hb a1 e1 k1) ?_;have k1:=(((eY b).oks []) a1 e1 k1).1;generalize dF (gX b) [] a1 e1=y at*;obtain⟨ol,a1,e1⟩:=y;simp only at k1 hR⊢;simp only[go_sem,exs,nf8]
   repeat (refine⟨by decide,?_⟩)
  try
   refine ab (LV hb a1 e1 k1) ?_;have k1:=(((o7 b).oks 0) a1 e1 k1).1;generalize dF (gV b) 0 a1 e1=y at*;obtain⟨ty,a1,e1⟩:=y;simp only at k1 hR⊢;simp only[go_sem,nf8]
  try
   refine ab (Cl hb a1 e1 k1) ?_;have k1:=((xE (b:=b)) a1 e1 k1).1;generalize cT b a1 e1=y at*;obtain⟨x,a1,e1⟩:=y;simp only at k1 hR⊢;by_cases hx:x=0
   all_goals
    first
     | subst hx
       simp only[ak (show ¬((0:UInt8)≠0) from λh=>h rfl)]at hR;simp only[go_sem,nf8,show((((0:UInt8).toNat:Nat):Int) != 0)=false from rfl]
       repeat (refine⟨by decide,?_⟩)
     | have hd:((x.toNat:Int) != 0)=true:=by
        refine bne_iff_ne.2 λh=>hx (B3.1 ?_);have e:(0:UInt8).toNat=0:=rfl;omega
       simp only[au hx]at hR;simp only[go_sem,nf8,hd];refine ab (xH b a1 e1 4) ?_;generalize (if e1=0 then(4:Int)else e1)=e1 at*;simp only[go_sem,nf8]
       repeat (refine⟨by decide,?_⟩)
 all_goals
  first
   | refine dd (NH hb (by decide) _ _ _ ol _ (.rfl _) a1 e1 k1) (by simp[go_sem,rx]) ?_
   | refine dd (NH hb (by decide) _ _ _ [] _ (.nl 9) a1 e1 k1) (by simp[go_sem,rx]) ?_
  subst hR;simp only[go_sem,eF];exact ay
end
section
open Go Go.Mw
variable{b:Af}(hb:b.length<1000000000)
include hb
omit hb in
def jY{n:Nat}{d:Option Nat}{s:St}{K:St->Prop}{a a9:Nat}{e e9:Int}{r:AV}(c1:aQ pg 239 [.mp 1000 4 0 0,.int .i64 256,.fn 240 [.mp 1001 1 0 0]] [(1000,ro true b a e),(1001,tO n)] sb (λr' σ'=>r'=r/\σ'=[(1000,ro true b a9 e9),(1001,tO n)]))
  (h1:ah s.heap 1000=some (ro true b a e)) (h3:ah s.heap 3=some (tO n)) (hr:m0 (fw [(1001,3)]) r=r) (hK:K ((St.mk (dE [] s.env) ([(1000,ro true b a9 e9),(3,tO n)]++dy [] s.heap)).put d r)):cO pg 239 [.mp 1000 4 0 0,.int .i64 256,.fn 240 [.mp 3 1 0 0]] d s K:=by
 refine dX (σ2:=[(1000,ro true b a e),(3,tO n)]) (r3:=r) (σ3:=[(1000,ro true b a9 e9),(3,tO n)]) c1 [(1001,3)] [] rfl rfl hr rfl (λp hp=>?_) (λp hp=>?_) (λp hp=>?_) hK
 .simp only[dQ,tN,or_false]at hp;rcases hp with rfl|rfl
  .exact h1
  .exact h3
 .simp only[dQ,tN,or_false]at hp;rcases hp with rfl|rfl
  .exact .inl ⟨⟨(by decide:1000<=1000),(by decide:1000<2000)⟩,rfl⟩
  .exact .inl ⟨⟨(by decide:1000<=1001),(by decide:1001<2000)⟩,rfl⟩
 .simp only[dQ,tN,or_false]at hp;rcases hp with rfl|rfl<;>rfl
attribute[local go_sem] bZ ro wa
theorem aii:RP 169 [] b (Iq b) (λx=>.agg (eF x)):=by
 intro a e ha;refine bA pT ?_;simp only[go_sem,pT];refine ae (NB hb a e ha) ?_;have k1:=(kW (b:=b) a e ha).1;have hR:Iq b a e=Iq b a e:=rfl
 conv at hR=>rhs;simp only[Iq,pEt,Ch,pb,pP,pI,pF]
 generalize Iq b a e=R at*;generalize kv b a e=y at*;obtain⟨n,a1,e1⟩:=y;simp only at k1 hR⊢;by_cases hn:n>7
 .simp only[au hn]at hR;simp only[go_sem,show decide ((n:Int)>7)=true from aK (by omega)];have cf:=E3 (b:=b) a1 e1 4;generalize (if e1=0 then(4:Int)else e1)=e3 at*;refine ae (cf) ?_;subst hR;simp only[go_sem];exact aJ (Wk.nlm _ 2 (r':=eF ⟨0,0,[],0,[]⟩) rfl ⟨.inl rfl,.inl rfl,.inr ⟨rfl,.inl ⟨9,rfl⟩⟩,.inl rfl,.inr ⟨rfl,.inl ⟨1,rfl⟩⟩,trivial⟩) [] (.agg (eF ⟨0,0,[],0,[]⟩)) [(1000,ro true b a1 e3)] (by simp only[go_sem,eF]) (by simp only[go_sem]) rfl ⟨rfl,rfl⟩
 rcases(show n=0\/n=1\/n=2\/n=3\/n=4\/n=5\/n=6\/n=7 by omega)with rfl|rfl|rfl|rfl|rfl|rfl|rfl|rfl
 .simp (decide:=true) only[aN,bB,↓reduceIte,Nat.reduceMod,Nat.zero_mod,Nat.reduceEqDiff,Nat.reduceLT]at hR;simp only[go_sem,show decide (((0:Nat):Int)>7)=false from rfl,show(bO .i64 ((0:Nat):Int) 1 != 0)=false from by decide,show(bO .i64 ((0:Nat):Int) 2 != 0)=false from by decide,show(bO .i64 ((0:Nat):Int) 4==0)=true from by decide,show(((0:Nat):Int)==0)=true from rfl,show(((0:Nat):Int)==4)=false from rfl];refine ae (VA hb a1 e1 k1) ?_;have k2:=(((eY b).oks []) a1 e1 k1).1;generalize dF (gX b) [] a1 e1=y at*;obtain⟨ol,a2,e2⟩:=y;simp only at k2 hR⊢;simp only[go_sem,exs,show decide (((0:Nat):Int)>7)=false from rfl,show(bO .i64 ((0:Nat):Int) 1 != 0)=false from by decide,show(bO .i64 ((0:Nat):Int) 2 != 0)=false from by decide,show(bO .i64 ((0:Nat):Int) 4==0)=true from by decide,show(((0:Nat):Int)==0)=true from rfl,show(((0:Nat):Int)==4)=false from rfl];have c1:=uT hb (n:=0) (by decide) a2 e2 k2;generalize pL b (px b 0) 256 a2 e2=y at*;obtain⟨l,a9,e9⟩:=y;simp only at hR c1⊢;subst hR;refine jY c1 (by rfl) (by rfl) (by rfl) ?_
  try simp only[go_sem,dE,dy,mr,fo,tO]
  exact aJ (Wk.nlm _ 2 (r':=eF ⟨cg 0,0,ol,3,l⟩) rfl ⟨.inl rfl,.inl rfl,(by first|exact .inl rfl|exact .inr ⟨rfl,.inl ⟨_,rfl⟩⟩),.inl rfl,.inl rfl,trivial⟩) [] (.agg (eF ⟨cg 0,0,ol,3,l⟩)) [(1000,ro true b a9 e9)] (by simp only[go_sem,eF,show cg 0=0 from rfl]) (by simp only[go_sem]) rfl ⟨rfl,rfl⟩
 .simp (decide:=true) only[aN,bB,↓reduceIte,Nat.reduceMod,Nat.zero_mod,Nat.reduceEqDiff,Nat.reduceLT]at hR;simp only[go_sem,show decide (((1:Nat):Int)>7)=false from rfl,show(bO .i64 ((1:Nat):Int) 1 != 0)=true from by decide,show(bO .i64 ((1:Nat):Int) 2 != 0)=false from by decide,show(bO .i64 ((1:Nat):Int) 4==0)=true from by decide,show(((1:Nat):Int)==0)=false from rfl,show(((1:Nat):Int)==4)=false from rfl];refine ae (An hb a1 e1 k1) ?_;have k2:=((xE (b:=b)) a1 e1 k1).1;generalize cT b a1 e1=y at*;obtain⟨x,a2,e2⟩:=y;simp only at k2 hR⊢;by_cases hx:x=0
  .subst hx;simp only[ak (show ¬((0:UInt8)≠0) from λh=>h rfl)]at hR;simp only[go_sem,show((((0:UInt8).toNat:Nat):Int) != 0)=false from rfl];have c1:=uT hb (n:=1) (by decide) a2 e2 k2;generalize pL b (px b 1) 256 a2 e2=y at*;obtain⟨l,a9,e9⟩:=y;simp only at hR c1⊢;subst hR;refine jY c1 (by rfl) (by rfl) (by rfl) ?_
   try simp only[go_sem,dE,dy,mr,fo,tO]
   exact aJ (Wk.nlm _ 2 (r':=eF ⟨cg 1,0,[],3,l⟩) rfl ⟨.inl rfl,.inl rfl,(by first|exact .inl rfl|exact .inr ⟨rfl,.inl ⟨_,rfl⟩⟩),.inl rfl,.inl rfl,trivial⟩) [] (.agg (eF ⟨cg 1,0,[],3,l⟩)) [(1000,ro true b a9 e9)] (by simp only[go_sem,eF,show cg 1=1 from rfl]) (by simp only[go_sem]) rfl ⟨rfl,rfl⟩
  .simp only[au hx]at hR;have hd:((x.toNat:Int) != 0)=true:=bne_iff_ne.2 λh=>hx (B3.1 (by have e:(0:UInt8).toNat=0:=rfl;omega))
   try simp only[go_sem,hd]
   have cf:=E3 (b:=b) a2 e2 4;generalize (if e2=0 then(4:Int)else e2)=e8 at*;refine ae (cf) ?_
   try simp only[go_sem]
   have c1:=uT hb (n:=1) (by decide) a2 e8 k2;generalize pL b (px b 1) 256 a2 e8=y at*;obtain⟨l,a9,e9⟩:=y;simp only at hR c1⊢;subst hR;refine jY c1 (by rfl) (by rfl) (by rfl) ?_
   try simp only[go_sem,dE,dy,mr,fo,tO]
   exact aJ (Wk.nlm _ 2 (r':=eF ⟨cg 1,0,[],3,l⟩) rfl ⟨.inl rfl,.inl rfl,(by first|exact .inl rfl|exact .inr ⟨rfl,.inl ⟨_,rfl⟩⟩),.inl rfl,.inl rfl,trivial⟩) [] (.agg (eF ⟨cg 1,0,[],3,l⟩)) [(1000,ro true b a9 e9)] (by simp only[go_sem,eF,show cg 1=1 from rfl]) (by simp only[go_sem]) rfl ⟨rfl,rfl⟩
 .simp (decide:=true) only[aN,bB,↓reduceIte,Nat.reduceMod,Nat.zero_mod,Nat.reduceEqDiff,Nat.reduceLT]at hR;simp only[go_sem,show decide (((2:Nat):Int)>7)=false from rfl,show(bO .i64 ((2:Nat):Int) 1 != 0)=false from by decide,show(bO .i64 ((2:Nat):Int) 2 != 0)=true from by decide,show(bO .i64 ((2:Nat):Int) 4==0)=true from by decide,show(((2:Nat):Int)==0)=false from rfl,show(((2:Nat):Int)==4)=false from rfl];refine ae (NB hb a1 e1 k1) ?_;have k2:=((kW (b:=b)) a1 e1 k1).1;generalize kv b a1 e1=y at*;obtain⟨tb,a2,e2⟩:=y;simp only at k2 hR⊢;simp only[go_sem,show decide (((2:Nat):Int)>7)=false from rfl,show(bO .i64 ((2:Nat):Int) 1 != 0)=false from by decide,show(bO .i64 ((2:Nat):Int) 2 != 0)=true from by decide,show(bO .i64 ((2:Nat):Int) 4==0)=true from by decide,show(((2:Nat):Int)==0)=false from rfl,show(((2:Nat):Int)==4)=false from rfl];refine ae (VA hb a2 e2 k2) ?_;have k3:=(((eY b).oks []) a2 e2 k2).1;generalize dF (gX b) [] a2 e2=y at*;obtain⟨ol,a3,e3⟩:=y;simp only at k3 hR⊢;simp only[go_sem,exs,show decide (((2:Nat):Int)>7)=false from rfl,show(bO .i64 ((2:Nat):Int) 1 != 0)=false from by decide,show(bO .i64 ((2:Nat):Int) 2 != 0)=true from by decide,show(bO .i64 ((2:Nat):Int) 4==0)=true from by decide,show(((2:Nat):Int)==0)=false from rfl,show(((2:Nat):Int)==4)=false from rfl];refine ae (An hb a3 e3 k3) ?_;have k4:=((xE (b:=b)) a3 e3 k3).1;generalize cT b a3 e3=y at*;obtain⟨x,a4,e4⟩:=y;simp only at k4 hR⊢;by_cases hx:x=0
  .subst hx;simp only[ak (show ¬((0:UInt8)≠0) from λh=>h rfl)]at hR;simp only[go_sem,show((((0:UInt8).toNat:Nat):Int) != 0)=false from rfl];have c1:=uT hb (n:=2) (by decide) a4 e4 k4;generalize pL b (px b 2) 256 a4 e4=y at*;obtain⟨l,a9,e9⟩:=y;simp only at hR c1⊢;subst hR;refine jY c1 (by rfl) (by rfl) (by rfl) ?_
   try simp only[go_sem,dE,dy,mr,fo,tO]
   exact aJ (Wk.nlm _ 2 (r':=eF ⟨cg 2,(tb:Int),ol,3,l⟩) rfl ⟨.inl rfl,.inl rfl,(by first|exact .inl rfl|exact .inr ⟨rfl,.inl ⟨_,rfl⟩⟩),.inl rfl,.inl rfl,trivial⟩) [] (.agg (eF ⟨cg 2,(tb:Int),ol,3,l⟩)) [(1000,ro true b a9 e9)] (by simp only[go_sem,eF,show cg 2=0 from rfl]) (by simp only[go_sem]) rfl ⟨rfl,rfl⟩
  .simp only[au hx]at hR;have hd:((x.toNat:Int) != 0)=true:=bne_iff_ne.2 λh=>hx (B3.1 (by have e:(0:UInt8).toNat=0:=rfl;omega))
   try simp only[go_sem,hd]
   have cf:=E3 (b:=b) a4 e4 4;generalize (if e4=0 then(4:Int)else e4)=e8 at*;refine ae (cf) ?_
   try simp only[go_sem]
   have c1:=uT hb (n:=2) (by decide) a4 e8 k4;generalize pL b (px b 2) 256 a4 e8=y at*;obtain⟨l,a9,e9⟩:=y;simp only at hR c1⊢;subst hR;refine jY c1 (by rfl) (by rfl) (by rfl) ?_
   try simp only[go_sem,dE,dy,mr,fo,tO]
   exact aJ (Wk.nlm _ 2 (r':=eF ⟨cg 2,(tb:Int),ol,3,l⟩) rfl ⟨.inl rfl,.inl rfl,(by first|exact .inl rfl|exact .inr ⟨rfl,.inl ⟨_,rfl⟩⟩),.inl rfl,.inl rfl,trivial⟩) [] (.agg (eF ⟨cg 2,(tb:Int),ol,3,l⟩)) [(1000,ro true b a9 e9)] (by simp only[go_sem,eF,show cg 2=0 from rfl]) (by simp only[go_sem]) rfl ⟨rfl,rfl⟩
 .simp (decide:=true) only[aN,bB,↓reduceIte,Nat.reduceMod,Nat.zero_mod,Nat.reduceEqDiff,Nat.reduceLT]at hR;simp only[go_sem,show decide (((3:Nat):Int)>7)=false from rfl,show(bO .i64 ((3:Nat):Int) 1 != 0)=true from by decide,show(bO .i64 ((3:Nat):Int) 2 != 0)=true from by decide,show(bO .i64 ((3:Nat):Int) 4==0)=true from by decide,show(((3:Nat):Int)==0)=false from rfl,show(((3:Nat):Int)==4)=false from rfl];refine ae (An hb a1 e1 k1) ?_;have k2:=((xE (b:=b)) a1 e1 k1).1;generalize cT b a1 e1=y at*;obtain⟨x,a2,e2⟩:=y;simp only at k2 hR⊢;by_cases hx:x=0
  .subst hx;simp only[ak (show ¬((0:UInt8)≠0) from λh=>h rfl)]at hR;simp only[go_sem,show((((0:UInt8).toNat:Nat):Int) != 0)=false from rfl];have c1:=uT hb (n:=3) (by decide) a2 e2 k2;generalize pL b (px b 3) 256 a2 e2=y at*;obtain⟨l,a9,e9⟩:=y;simp only at hR c1⊢;subst hR;refine jY c1 (by rfl) (by rfl) (by rfl) ?_
   try simp only[go_sem,dE,dy,mr,fo,tO]
   exact aJ (Wk.nlm _ 2 (r':=eF ⟨cg 3,0,[],3,l⟩) rfl ⟨.inl rfl,.inl rfl,(by first|exact .inl rfl|exact .inr ⟨rfl,.inl ⟨_,rfl⟩⟩),.inl rfl,.inl rfl,trivial⟩) [] (.agg (eF ⟨cg 3,0,[],3,l⟩)) [(1000,ro true b a9 e9)] (by simp only[go_sem,eF,show cg 3=2 from rfl]) (by simp only[go_sem]) rfl ⟨rfl,rfl⟩
  .simp only[au hx]at hR;have hd:((x.toNat:Int) != 0)=true:=bne_iff_ne.2 λh=>hx (B3.1 (by have e:(0:UInt8).toNat=0:=rfl;omega))
   try simp only[go_sem,hd]
   have cf:=E3 (b:=b) a2 e2 4;generalize (if e2=0 then(4:Int)else e2)=e8 at*;refine ae (cf) ?_
   try simp only[go_sem]
   have c1:=uT hb (n:=3) (by decide) a2 e8 k2;generalize pL b (px b 3) 256 a2 e8=y at*;obtain⟨l,a9,e9⟩:=y;simp only at hR c1⊢;subst hR;refine jY c1 (by rfl) (by rfl) (by rfl) ?_
   try simp only[go_sem,dE,dy,mr,fo,tO]
   exact aJ (Wk.nlm _ 2 (r':=eF ⟨cg 3,0,[],3,l⟩) rfl ⟨.inl rfl,.inl rfl,(by first|exact .inl rfl|exact .inr ⟨rfl,.inl ⟨_,rfl⟩⟩),.inl rfl,.inl rfl,trivial⟩) [] (.agg (eF ⟨cg 3,0,[],3,l⟩)) [(1000,ro true b a9 e9)] (by simp only[go_sem,eF,show cg 3=2 from rfl]) (by simp only[go_sem]) rfl ⟨rfl,rfl⟩
 .simp (decide:=true) only[aN,bB,↓reduceIte,Nat.reduceMod,Nat.zero_mod,Nat.reduceEqDiff,Nat.reduceLT]at hR;simp only[go_sem,show decide (((4:Nat):Int)>7)=false from rfl,show(bO .i64 ((4:Nat):Int) 1 != 0)=false from by decide,show(bO .i64 ((4:Nat):Int) 2 != 0)=false from by decide,show(bO .i64 ((4:Nat):Int) 4==0)=false from by decide,show(((4:Nat):Int)==0)=false from rfl,show(((4:Nat):Int)==4)=true from rfl];refine ae (VA hb a1 e1 k1) ?_;have k2:=(((eY b).oks []) a1 e1 k1).1;generalize dF (gX b) [] a1 e1=y at*;obtain⟨ol,a2,e2⟩:=y;simp only at k2 hR⊢;simp only[go_sem,exs,show decide (((4:Nat):Int)>7)=false from rfl,show(bO .i64 ((4:Nat):Int) 1 != 0)=false from by decide,show(bO .i64 ((4:Nat):Int) 2 != 0)=false from by decide,show(bO .i64 ((4:Nat):Int) 4==0)=false from by decide,show(((4:Nat):Int)==0)=false from rfl,show(((4:Nat):Int)==4)=true from rfl];have c1:=uT hb (n:=4) (by decide) a2 e2 k2;generalize pL b (px b 4) 256 a2 e2=y at*;obtain⟨l,a9,e9⟩:=y;simp only at hR c1⊢;subst hR;refine jY c1 (by rfl) (by rfl) (by rfl) ?_
  try simp only[go_sem,dE,dy,mr,fo,tO]
  exact aJ (Wk.nlm _ 2 (r':=eF ⟨cg 4,0,ol,3,l⟩) rfl ⟨.inl rfl,.inl rfl,(by first|exact .inl rfl|exact .inr ⟨rfl,.inl ⟨_,rfl⟩⟩),.inl rfl,.inl rfl,trivial⟩) [] (.agg (eF ⟨cg 4,0,ol,3,l⟩)) [(1000,ro true b a9 e9)] (by simp only[go_sem,eF,show cg 4=0 from rfl]) (by simp only[go_sem]) rfl ⟨rfl,rfl⟩
 .simp (decide:=true) only[aN,bB,↓reduceIte,Nat.reduceMod,Nat.zero_mod,Nat.reduceEqDiff,Nat.reduceLT]at hR;simp only[go_sem,show decide (((5:Nat):Int)>7)=false from rfl,show(bO .i64 ((5:Nat):Int) 1 != 0)=true from by decide,show(bO .i64 ((5:Nat):Int) 2 != 0)=false from by decide,show(bO .i64 ((5:Nat):Int) 4==0)=false from by decide,show(((5:Nat):Int)==0)=false from rfl,show(((5:Nat):Int)==4)=false from rfl];refine ae (Yg hb a1 e1 k1) ?_;have k2:=(((o7 b).oks 0) a1 e1 k1).1;generalize dF (gV b) 0 a1 e1=y at*;obtain⟨t,a2,e2⟩:=y;simp only at k2 hR⊢;simp only[go_sem];have c1:=uT hb (n:=5) (by decide) a2 e2 k2;generalize pL b (px b 5) 256 a2 e2=y at*;obtain⟨l,a9,e9⟩:=y;simp only at hR c1⊢;subst hR;refine jY c1 (by rfl) (by rfl) (by rfl) ?_
  try simp only[go_sem,dE,dy,mr,fo,tO]
  exact aJ (Wk.nlm _ 2 (r':=eF ⟨cg 5,0,[],t,l⟩) rfl ⟨.inl rfl,.inl rfl,(by first|exact .inl rfl|exact .inr ⟨rfl,.inl ⟨_,rfl⟩⟩),.inl rfl,.inl rfl,trivial⟩) [] (.agg (eF ⟨cg 5,0,[],t,l⟩)) [(1000,ro true b a9 e9)] (by simp only[go_sem,eF,show cg 5=1 from rfl]) (by simp only[go_sem]) rfl ⟨rfl,rfl⟩
 .simp (decide:=true) only[aN,bB,↓reduceIte,Nat.reduceMod,Nat.zero_mod,Nat.reduceEqDiff,Nat.reduceLT]at hR;simp only[go_sem,show decide (((6:Nat):Int)>7)=false from rfl,show(bO .i64 ((6:Nat):Int) 1 != 0)=false from by decide,show(bO .i64 ((6:Nat):Int) 2 != 0)=true from by decide,show(bO .i64 ((6:Nat):Int) 4==0)=false from by decide,show(((6:Nat):Int)==0)=false from rfl,show(((6:Nat):Int)==4)=false from rfl];refine ae (NB hb a1 e1 k1) ?_;have k2:=((kW (b:=b)) a1 e1 k1).1;generalize kv b a1 e1=y at*;obtain⟨tb,a2,e2⟩:=y;simp only at k2 hR⊢;simp only[go_sem,show decide (((6:Nat):Int)>7)=false from rfl,show(bO .i64 ((6:Nat):Int) 1 != 0)=false from by decide,show(bO .i64 ((6:Nat):Int) 2 != 0)=true from by decide,show(bO .i64 ((6:Nat):Int) 4==0)=false from by decide,show(((6:Nat):Int)==0)=false from rfl,show(((6:Nat):Int)==4)=false from rfl];refine ae (VA hb a2 e2 k2) ?_;have k3:=(((eY b).oks []) a2 e2 k2).1;generalize dF (gX b) [] a2 e2=y at*;obtain⟨ol,a3,e3⟩:=y;simp only at k3 hR⊢;simp only[go_sem,exs,show decide (((6:Nat):Int)>7)=false from rfl,show(bO .i64 ((6:Nat):Int) 1 != 0)=false from by decide,show(bO .i64 ((6:Nat):Int) 2 != 0)=true from by decide,show(bO .i64 ((6:Nat):Int) 4==0)=false from by decide,show(((6:Nat):Int)==0)=false from rfl,show(((6:Nat):Int)==4)=false from rfl];refine ae (Yg hb a3 e3 k3) ?_;have k4:=(((o7 b).oks 0) a3 e3 k3).1;generalize dF (gV b) 0 a3 e3=y at*;obtain⟨t,a4,e4⟩:=y;simp only at k4 hR⊢;simp only[go_sem];have c1:=uT hb (n:=6) (by decide) a4 e4 k4;generalize pL b (px b 6) 256 a4 e4=y at*;obtain⟨l,a9,e9⟩:=y;simp only at hR c1⊢;subst hR;refine jY c1 (by rfl) (by rfl) (by rfl) ?_
  try simp only[go_sem,dE,dy,mr,fo,tO]
  exact aJ (Wk.nlm _ 2 (r':=eF ⟨cg 6,(tb:Int),ol,t,l⟩) rfl ⟨.inl rfl,.inl rfl,(by first|exact .inl rfl|exact .inr ⟨rfl,.inl ⟨_,rfl⟩⟩),.inl rfl,.inl rfl,trivial⟩) [] (.agg (eF ⟨cg 6,(tb:Int),ol,t,l⟩)) [(1000,ro true b a9 e9)] (by simp only[go_sem,eF,show cg 6=0 from rfl]) (by simp only[go_sem]) rfl ⟨rfl,rfl⟩
 .simp (decide:=true) only[aN,bB,↓reduceIte,Nat.reduceMod,Nat.zero_mod,Nat.reduceEqDiff,Nat.reduceLT]at hR;simp only[go_sem,show decide (((7:Nat):Int)>7)=false from rfl,show(bO .i64 ((7:Nat):Int) 1 != 0)=true from by decide,show(bO .i64 ((7:Nat):Int) 2 != 0)=true from by decide,show(bO .i64 ((7:Nat):Int) 4==0)=false from by decide,show(((7:Nat):Int)==0)=false from rfl,show(((7:Nat):Int)==4)=false from rfl];refine ae (Yg hb a1 e1 k1) ?_;have k2:=(((o7 b).oks 0) a1 e1 k1).1;generalize dF (gV b) 0 a1 e1=y at*;obtain⟨t,a2,e2⟩:=y;simp only at k2 hR⊢;simp only[go_sem];have c1:=uT hb (n:=7) (by decide) a2 e2 k2;generalize pL b (px b 7) 256 a2 e2=y at*;obtain⟨l,a9,e9⟩:=y;simp only at hR c1⊢;subst hR;refine jY c1 (by rfl) (by rfl) (by rfl) ?_
  try simp only[go_sem,dE,dy,mr,fo,tO]
  exact aJ (Wk.nlm _ 2 (r':=eF ⟨cg 7,0,[],t,l⟩) rfl ⟨.inl rfl,.inl rfl,(by first|exact .inl rfl|exact .inr ⟨rfl,.inl ⟨_,rfl⟩⟩),.inl rfl,.inl rfl,trivial⟩) [] (.agg (eF ⟨cg 7,0,[],t,l⟩)) [(1000,ro true b a9 e9)] (by simp only[go_sem,eF,show cg 7=2 from rfl]) (by simp only[go_sem]) rfl ⟨rfl,rfl⟩
end
section
open Go Go.Mw
instance:Inhabited Ft:=⟨⟨[],[]⟩⟩
instance:Inhabited Im:=⟨⟨[],[],0,0,0,⟨0,0,false⟩,⟨0,0,false⟩,⟨0,false⟩⟩⟩
instance:Inhabited Tb:=⟨tI⟩
instance:Inhabited Lm:=⟨⟨0,0,false⟩⟩
instance:Inhabited Gd:=⟨⟨⟨0,false⟩,[]⟩⟩
instance:Inhabited Ex:=⟨⟨[],0,0⟩⟩
instance:Inhabited El:=⟨⟨0,0,[],0,[]⟩⟩
instance:Inhabited Da:=⟨⟨0,0,[],[]⟩⟩
variable{b:Af}(hb:b.length<1000000000)
include hb
def afJ:RP 154 [.int .i64 (64:Nat),.fn 155 []] b (pL b (Ny b) (64:Nat)) (λl=>.sl 2 (l.map my)) :=
 ss hb (cF oM) (λx=>⟨rfl,rfl,rfl,λi=>rfl⟩) (by kernel_rfl) (λ_=>rfl) (λ_ h=>by cases h) (aik hb) ⟨_,HJ⟩ 64 (by decide)
def afM:RP 156 [.int .i64 (32:Nat),.fn 157 []] b (pL b (Ir b) (32:Nat)) (λl=>.sl 13 (l.map pw)) :=
 ss hb (cF mD) (λx=>⟨rfl,rfl,rfl,λi=>rfl⟩) (by kernel_rfl) (λ_=>rfl) (λ_ h=>by cases h) (aim hb) ⟨_,Nr b⟩ 32 (by decide)
def afP:RP 160 [.int .i64 (4:Nat),.fn 161 []] b (pL b (dF (Ce b) tI) (4:Nat)) (λl=>.sl 4 (l.map rM)) :=
 ss hb (cF nK) (λx=>⟨rfl,rfl,rfl,λi=>rfl⟩) (by kernel_rfl) (λ_=>rfl) (λ_ h=>by cases h) (afO hb) ⟨_,(yn b).oks tI⟩ 4 (by decide)
def afN:RP 162 [.int .i64 (2:Nat),.fn 163 []] b (pL b (dF (yl b) ⟨0,0,false⟩) (2:Nat)) (λl=>.sl 3 (l.map j7)) :=
 ss hb (cF mE) (λx=>⟨rfl,rfl,rfl,λi=>rfl⟩) (by kernel_rfl) (λ_=>rfl) (λ_ h=>by cases h) (Pt hb) ⟨_,(ym b).oks _⟩ 2 (by decide)
def afK:RP 164 [.int .i64 (32:Nat),.fn 165 []] b (pL b (Nz b) (32:Nat)) (λl=>.sl 3 (l.map wF)) :=
 ss hb (cF kw) (λx=>⟨rfl,rfl,rfl,λi=>rfl⟩) (by kernel_rfl) (λ_=>rfl) (λ_ h=>by cases h) (ail hb) ⟨_,Nq b⟩ 32 (by decide)
def afI:RP 166 [.int .i64 (64:Nat),.fn 167 []] b (pL b (Kz b) (64:Nat)) (λl=>.sl 3 (l.map vx)) :=
 ss hb (cF mB) (λx=>⟨rfl,rfl,rfl,λi=>rfl⟩) (by kernel_rfl) (λ_=>rfl) (λ_ h=>by cases h) (aij hb) ⟨_,Np b⟩ 64 (by decide)
def afH:RP 168 [.int .i64 (16:Nat),.fn 169 []] b (pL b (Iq b) (16:Nat)) (λl=>.sl 5 (l.map eF)) :=
 ss hb (cF oL) (λx=>⟨rfl,rfl,rfl,λi=>rfl⟩) (by kernel_rfl) (λ_=>rfl) (λ_ h=>by cases h) (aii hb) ⟨_,Nn b⟩ 16 (by decide)
def afG:RP 171 [.int .i64 (16:Nat),.fn 172 []] b (pL b (Ip b) (16:Nat)) (λl=>.sl 4 (l.map iz)) :=
 ss hb (cF oK) (λx=>⟨rfl,rfl,rfl,λi=>rfl⟩) (by kernel_rfl) (λ_=>rfl) (λ_ h=>by cases h) (aih hb) ⟨_,Nl b⟩ 16 (by decide)
end
open Go Go.Mw
def E1(b:Af):Nat->List Int->PS (List Int)
 | 0,l=>pP l
 | n+1,l=>λa e=>if e=0 then pb (kv b) (λ(many:Nat)=>pb (dF (gV b) 0) λt=>pb (Ch 6 ((many:Int)>64-l.length)) λ_=>λa e=>E1 b n (if e=0 then l++List.replicate many t else l) a e) a e else(l,a,e)
def TN(b:Af):∀(n:Nat)(l:List Int),dn b (E1 b n l) (λa=>gLo n b a l)
 | 0,l=>dn.pure l
 | n+1,l=>by
  have h1:=kW.bd (b:=b) (u:=λ(many:Nat)=>pb (dF (gV b) 0) λt=>pb (Ch 6 ((many:Int)>64-l.length)) λ_=>λa e=>E1 b n (if e=0 then l++List.replicate many t else l) a e)
   (r:=λ(many:Nat) k=>fq (gV b k) λt k1=>if(many:Int)>64-l.length then .error (6,k1)else gLo n b k1 (l++List.replicate many t)) λ(many:Nat)=>((o7 b).oks 0).bd λt=>dn.fi (by decide) (by
    intro a e ha;by_cases he:e=0
    .have:=TN b n (l++List.replicate many t) a e ha;simp only[au he];exact this
    .have:=TN b n l a e ha;simp only[ak he];exact⟨this.1,this.2.1,λh=>absurd h he⟩)
  intro a e ha;obtain⟨q1,q2,q3⟩:=h1 a e ha;unfold E1;by_cases he:e=0
  .rw[au he];exact⟨q1,q2,q3⟩
  .rw[ak he];exact⟨ha,λ_=>rfl,λh=>absurd h he⟩
def JT(b:Af):PS (List Int×List be):=pb (pC b 64) λn=>pb (E1 b n []) λl=>pb (dF (gX b) []) λx=>pP (l,x)
def afx(b:Af):dn b (JT b) (λa=>fq (gC b a 64) λn k=>fq (gLo n b k []) λl k1=>fq (gX b k1) λx k2=>.ok ((l,x),k2)) :=
 (Ak 64).bd λn=>(TN b n []).bd λl=>((eY b).oks []).bd λx=>dn.pure (l,x)
def sa(b:Af)(a:Nat)(e:Int):Int:=if e≠0 then e else if a=b.length then 0 else 5
def uS(b:Af):PS (List Int×List be):=λa e =>
 let n:=kv b a e
 let t:=wQ b n.1 n.2.1 n.2.2
 let q:=JT t.1 0 t.2.2
 (q.1,t.2.1,if t.2.2=0 then sa t.1 q.2.1 q.2.2 else t.2.2)
def aa9(b:Af):RW b=fq (fq (gC b 0 64) λn k=>fq (gLo n b k []) λl k1=>fq (gX b k1) λx k2=>.ok ((l,x),k2)) λq k=>if k=b.length then .ok (q,k)else .error (5,k):=by
 unfold RW;simp only[B8,dq]
def Nk(b:Af):dn b (uS b) (gCd b):=by
 intro a e ha;obtain⟨u1,u2,u3⟩:=kW (b:=b) a e ha;obtain⟨t1,t2,t3⟩:=Nt b (kv b a e).1 _ (kv b a e).2.2 u1;refine⟨t1,λhe=>?_,λhe=>?_⟩
 .have h1:=u2 he;have h2:(kv b a e).2.2=e:=by rw[h1]
  have h3:(kv b a e).2.1=a:=by rw[h1]
  have h4:=t2 (by rw[h2];exact he);show(_,_)=(a,e);rw[h2,h3]at h4⊢;rw[h4,ak he]
 .subst he;unfold gCd;rcases u3 rfl with⟨n,k,g1,g2⟩|⟨e',k,g1,g2,g3⟩
  rotate_left
  .refine .inr ⟨e',k,by rw[g1,fF],g2,?_⟩;have h2:(kv b a 0).2.2=e':=by rw[g3]
   have h3:(kv b a 0).2.1=k:=by rw[g3]
   have h4:=t2 (by rw[h2];exact g2);show(_,_)=(k,e');rw[h2,h3]at h4⊢;rw[h4,ak g2]
  rw[g1,dq];have hp:uS b a 0=((JT (wQ b n k 0).1 0 (wQ b n k 0).2.2).1,(wQ b n k 0).2.1,if(wQ b n k 0).2.2=0 then sa (wQ b n k 0).1 (JT (wQ b n k 0).1 0 (wQ b n k 0).2.2).2.1 (JT (wQ b n k 0).1 0 (wQ b n k 0).2.2).2.2 else(wQ b n k 0).2.2):=by
   unfold uS;rw[g2]
  rw[g2]at t3;simp only at t3;rw[hp];clear hp;rcases t3 trivial with⟨x,k',j1,j2⟩|⟨e',k',j1,j2,j3⟩
  rotate_left
  .have hn:n>b.length-k:=by
    by_cases h:n>b.length-k
    .exact h
    .rw[ak h]at j1;cases j1
   rw[au hn]at j1⊢;have h2:(wQ b n k 0).2.2=e':=by rw[j3]
   have h3:(wQ b n k 0).2.1=k':=by rw[j3]
   exact .inr ⟨e',k',congrArg _ (Except.error.inj j1),j2,by rw[h2,h3,ak j2]⟩
  have hn:¬n>b.length-k:=by
   intro h;rw[au h]at j1;cases j1
  rw[ak hn]at j1⊢;cases j1;rw[j2];simp only[aN];rw[aa9];obtain⟨b1,_,b3⟩:=afx ((b.drop k).take n) 0 0 (cm _);rcases b3 rfl with⟨y,k2,l1,l2⟩|⟨e2,k2,l1,l2,l3⟩
  .rw[l2];simp only at l1;rw[l1,dq];by_cases hk:k2=((b.drop k).take n).length
   .rw[au hk];refine .inl ⟨y,k+n,rfl,?_⟩;unfold sa;rw[ak (by simp),au hk]
   .rw[ak hk];refine .inr ⟨5,k+n,rfl,by decide,?_⟩;unfold sa;rw[ak (by simp),ak hk]
  .simp only at l1;rw[l1,fF];have h2:(JT ((b.drop k).take n) 0 0).2.2=e2:=by rw[l3]
   have h3:(JT ((b.drop k).take n) 0 0).2.1=k2:=by rw[l3]
   refine .inr ⟨e2,k+n,rfl,l2,?_⟩;rw[h2,h3];unfold sa;rw[au l2]
section
instance:Inhabited Cd:=⟨⟨0,[],[]⟩⟩
def Eo(b:Af):PS Cd:=pb (kv b) λt=>pP ⟨(t:Int),[],[]⟩
def TO(b:Af):dn b (Eo b) (λa=>fq (gU b a) λt k=>.ok ((⟨(t:Int),[],[]⟩:Cd),k)):=kW.bd λt=>dn.pure (b:=b) (⟨(t:Int),[],[]⟩:Cd)
variable{b:Af}(hb:b.length<1000000000)
include hb
attribute[local go_sem] bZ ro wa
theorem aio:RP 159 [] b (Eo b) (λx=>.agg (kM x)):=by
 intro a e ha;refine bA gn ?_;simp only[go_sem,gn];refine ae (NB hb a e ha) ?_;have hR:Eo b a e=Eo b a e:=rfl
 conv at hR=>rhs;simp only[Eo,pb,pP]
 generalize Eo b a e=R at*;generalize kv b a e=y at*;obtain⟨n,a1,e1⟩:=y;simp only at hR⊢;subst hR;simp only[go_sem];exact aJ (Wk.nlm _ 2 (r':=kM ⟨(n:Int),[],[]⟩) rfl ⟨.inl rfl,.inr ⟨rfl,.inl ⟨1,rfl⟩⟩,.inr ⟨rfl,.inl ⟨9,rfl⟩⟩,trivial⟩) [] (.agg (kM ⟨(n:Int),[],[]⟩)) [(1000,ro true b a1 e1)] (by simp only[go_sem,kM]) (by simp only[go_sem]) rfl ⟨rfl,rfl⟩
end
section
variable{b:Af}(hb:b.length<1000000000)
include hb
attribute[local go_sem] bZ ro wa
def YE{α:Type}[Inhabited α]{n t st:Nat}{z:List AV}{f:α->List AV}{g:FuncId}{caps:List AV}{one:PS α}(hc:lK pg n=some ⟨28,3,[.tmp 6],rlB 234 151 t st z⟩)
  (hv:∀x,aee st (f x)) (hg:bK pg g=true) (hcp:∀i,caps.any (mP i)=false) (hcv:∀x∈caps,aM x=[]) (ho:RP g caps b one λx=>.agg (f x)) (hw:∃r,dn b one r) (most:Nat) (hm:most<4294967296)
  (a:Nat) (e:Int) (ha:a<=b.length):aQ pg n [.mp 1000 4 0 0,.int .i64 (most:Nat),.fn g caps] [(1000,ro true b a e)] sb
   (λr' σ'=>r' = .ms 900 st 0 (pL b one most a e).1.length/\σ'=[(1000,ro true b ((pL b one most a e).2.1:Nat) (pL b one most a e).2.2),(900,⟨t,st,(pL b one most a e).1.map f,false⟩)]):=by
 refine jB (ic:=rlB 234 151 t st z) s9 hc rfl rfl ?_;have q4:∀i x,x∈caps->mP i x=false:=λi x hx=>by
  have:=hcp i;rw[zC]at this;simpa using this x hx
 simp only[go_sem,rlB];refine aE (Yf hb most a e ha) ?_;have hN:=pj (b:=b) (most:=most) (a:=a) (e:=e);have h0:pL b one most a e=([]++(pN one (pC b most a e).1 (pC b most a e).2.1 (pC b most a e).2.2).1,(pN one (pC b most a e).1 (pC b most a e).2.1 (pC b most a e).2.2).2):=rfl;have hk:(pC b most a e).2.1<=b.length:=fg ha;generalize pL b one most a e=R at*;generalize pC b most a e=c at*;obtain⟨N,a0,e0⟩:=c;simp only at hN h0 hk⊢;refine aq (λq:Nat×List α×Nat×Int=>⟨[(8,.int .i64 (q.1:Nat)),(7,.ms 900 st 0 q.2.1.length),(6,.nl),(0,.mp 1000 4 0 0),(1,.int .i64 (most:Nat)),(2,.fn g caps)],[(900,⟨t,st,q.2.1.map f,false⟩),(1000,ro true b q.2.2.1 q.2.2.2)]⟩)
  (λq=>q.2.2.1<=b.length/\q.2.1.length+q.1<=N/\R=(q.2.1++(pN one q.1 q.2.2.1 q.2.2.2).1,(pN one q.1 q.2.2.1 q.2.2.2).2)) (λq=>q.1) (N,[],a0,e0) ⟨hk,by simp,h0⟩ ((Wk.nil _ 7 900 st t (by simp only[go_sem]) (.inl (by decide))).trans (Wk.of ?_ ?_)) ?_
 .simp only[go_sem,St.mknil];try (simp;exact q4 _)
 .simp only[go_sem,St.mknil];try simp[go_sem]
 rintro⟨m,l,a1,e1⟩ ⟨h1,h2,h3⟩;simp only at h1 h2 h3;have v2:∀x,(f x).length=st:=λx=>(hv x).1;have v3:∀x,(f x).all qm=true:=λx=>(hv x).2.1;have v5:∀x i,(f x).any (mC i)=false:=λx i=>(hv x).2.2.2 i;have happ:=λys=>bq 900 t st l.length f l ys rfl;by_cases hm1:(m:Int)>0;rotate_left
 .obtain rfl:m=0:=by omega
  simp only[go_sem,aL hm1];subst h3;refine eW [] (.ms 900 st 0 l.length) [(1000,ro true b a1 e1),(900,⟨t,st,l.map f,false⟩)] ⟨?_,?_⟩
  .simp[pN,pP]
  .simp[pN,pP,ro]
 obtain⟨m,rfl⟩:∃k,m=k+1:=⟨m-1,by omega⟩
 have hw1:IntKind.i64.wrap (((m+1:Nat):Int)-1)=(m:Int):=by rw[wi (by omega) (by omega)];omega
 simp only[go_sem,aK hm1];refine ae (aS true b a1 e1) ?_;by_cases he:e1=0;rotate_left
 .simp only[go_sem,ei he];rw[HM he]at h3;subst h3;refine eW [] (.ms 900 st 0 l.length) [(1000,ro true b a1 e1),(900,⟨t,st,l.map f,false⟩)] ⟨?_,?_⟩
  .simp[pN,pP]
  .simp[pN,pP,ro]
 subst he;simp only[go_sem];rw[au (I2 hg)];refine⟨hg,?_⟩;refine dW (ho a1 0 h1) ⟨by decide,by decide⟩ (hv _).2.2.1 hcv rfl rfl (by rfl) ?_;rw[JU]at h3;obtain⟨r,hr⟩:=hw;have hk2:=(hr a1 0 h1).1;generalize one a1 0=y at*;obtain⟨x,a2,e2⟩:=y;simp only at h3 hk2⊢;simp only[go_sem,v2,v3,v5,hcp,happ,hw1];refine⟨by omega,aF (m,l++[x],a2,e2) ⟨hk2,by simp;omega,by rw[h3];simp⟩ (show m<m+1 by omega) (Wk.of ?_ ?_)⟩
 .simp only[go_sem];try simp
 .simp only[go_sem];try simp[go_sem]
end
section
instance:Inhabited (List Int×List be):=⟨([],[])⟩
def Ii(l:List Int):ao:=⟨54,1,l.map jM,false⟩
def Ij(l:List Int):ao:=⟨61,3,[[.int .i64 0,.ms 903 1 0 l.length,.nl]],true⟩
def NA{b:Af}{n a:Nat}{e:Int}:(wQ b n a e).1.length<=b.length:=by
 unfold wQ aO;split
 .split
  .exact cm _
  split
  .exact cm _
  .show(List.take _ _).length<=_;rw[qD,jK];omega
 .exact cm _
def ZZ(b:Af)(n:Nat)(l:List Int)(a:Nat):E1 b (n+1) l a 0=(pb (kv b) (λ(many:Nat)=>pb (dF (gV b) 0) λt=>pb (Ch 6 ((many:Int)>64-l.length)) λ_=>λa e=>E1 b n (if e=0 then l++List.replicate many t else l) a e)) a 0:=rfl
def Z0{b:Af}{n:Nat}{l:List Int}{a:Nat}{e:Int}(he:e≠0):E1 b n l a e=(l,a,e):=by
 cases n with
 | zero=>rfl
 | succ n=>exact ak he
def qw(x:Af)(a:Nat)(e:Int):sq true x a e=sa x a e:=by unfold sq sa;rw[au rfl]
variable{b:Af}(hb:b.length<1000000000)
include hb
attribute[local go_sem] bZ ro wa
theorem aig:RP 241 [] b (uS b) (λx=>.agg (kM ⟨0,x.1,x.2⟩)):=by
 intro a e ha;refine bA pR ?_;simp only[go_sem,pR];refine ae (NB hb a e ha) ?_;have k1:=(kW (b:=b) a e ha).1;have hR:uS b a e=uS b a e:=rfl
 conv at hR=>rhs;simp only[uS]
 generalize uS b a e=R at*;have hN1:=wW (e==0) b a e;change (kv b a e).1<_ at hN1;generalize kv b a e=y at*;obtain⟨n,a1,e1⟩:=y;simp only at k1 hR hN1⊢;have cS:=ac6 b a1 e1 n k1 hb (by omega);have k2:=(Nt b n a1 e1 k1).1;have xl:=NA (b:=b) (n:=n) (a:=a1) (e:=e1);have hT:((aO (e1==0) b a1 e1 (n:Nat)).1.getD [],(aO (e1==0) b a1 e1 (n:Nat)).2)=wQ b n a1 e1:=rfl;generalize wQ b n a1 e1=y at*;obtain⟨x,a2,e2⟩:=y;obtain⟨h1,h2⟩:=Prod.mk.inj hT;rw[h1,h2]at cS;simp only at k2 xl hR cS⊢;have hx:x.length<1000000000:=by omega
 simp only[go_sem];refine dX (σ2:=[(1000,ro true b a1 e1)]) (r3:=.mp 902 4 0 0) (σ3:=[(1000,ro true b a2 e2),(902,ro true x ((0:Nat):Int) e2)]) cS [(24,902)] [902] rfl rfl rfl rfl ?_ ?_ ?_ ?_
 .simp only[go_sem];simp
 .simp only[go_sem];simp[sb,bw,i5,ah]
 .simp only[go_sem];simp[ah]
 simp only[go_sem];refine ae (Yf hx 64 0 e2 (cm _)) ?_;have k3:=((Ak (b:=x) 64) 0 e2 (cm _)).1;unfold JT at hR;simp only[pb,pP]at hR;have hN2:=pj (b:=x) (most:=64) (a:=0) (e:=e2);generalize pC x 64 0 e2=y at*;obtain⟨m,a3,e3⟩:=y;simp only at k3 hR hN2⊢;obtain⟨P,hP⟩:∃P,P=E1 x m [] a3 e3:=⟨_,rfl⟩
 rw[<-hP]at hR;simp only[go_sem];refine aq (λq:Nat×List Int×Nat×Int=>⟨[(5,.int .i64 (q.1:Nat)),(3,.mp 902 4 0 0),(4,.mp 4 3 0 0),(2,.mp 2 3 0 0),(0,.mp 1000 4 0 0)],[(2,⟨61,3,[[.int .i64 0,.nl,.nl]],true⟩),(4,Ij q.2.1),(903,Ii q.2.1),(902,ro true x q.2.2.1 q.2.2.2),(1000,ro true b a2 e2)]⟩)
  (λq=>q.2.2.1<=x.length/\q.2.1.length<=64/\q.1<4294967296/\P=E1 x q.1 q.2.1 q.2.2.1 q.2.2.2) (λq=>q.1) (m,[],a3,e3) ⟨k3,cm _,hN2,hP⟩
  (((Wk.new0 _ 903 1 54 (.inl (by decide))).trans (Wk.nlm _ 4 (r:=[.int .i64 0,.nl,.nl]) (r':=[.int .i64 0,.ms 903 1 0 0,.nl]) (by rfl) ⟨.inl rfl,.inr ⟨rfl,.inr ⟨903,1,rfl⟩⟩,.inl rfl,trivial⟩)).trans (Wk.of ?_ ?_)) ?_
 .simp only[go_sem,Ij,Ii];try simp[go_sem]
 .simp only[go_sem,Ij,Ii];try simp[go_sem]
 rintro⟨j,l,a4,e4⟩ ⟨g1,g2,g3,g4⟩;simp only at g1 g2 g3 g4;clear hP hN2 k3;by_cases hj:(j:Int)>0;rotate_left
 .obtain rfl:j=0:=by omega
  simp only[go_sem,aL hj];have hP:P=(l,a4,e4):=g4;subst hP;simp only at hR
  try simp only[go_sem,Ij,Ii]
  refine ae (VA hx a4 e4 g1) ?_;have k5:=((eY x).oks [] a4 e4 g1).1;generalize dF (gX x) [] a4 e4=y at*;obtain⟨ol,a5,e5⟩:=y;simp only at k5 hR⊢;simp only[go_sem,exs];refine ae (J_ true x a5 e5) ?_;have cf:=E3 (b:=b) a2 e2 (sq true x a5 e5);rw[qw]at cf;rw[qw];subst hR;simp only[go_sem];refine aE (cf) ?_;refine done [903] (.agg (kM ⟨0,l,ol⟩)) [(1000,ro true b a2 (if e2=0 then sa x a5 e5 else e2))] ?_ (by simp only[go_sem]) rfl ⟨rfl,rfl⟩;simp only[go_sem,a_,kM];rw[cI (by rw[bZ];omega)]
 obtain⟨j,rfl⟩:∃k,j=k+1:=⟨j-1,by omega⟩
 have hw1:IntKind.i64.wrap (((j+1:Nat):Int)-1)=(j:Int):=by rw[wi (by omega) (by omega)];omega
 simp only[go_sem,aK hj,Ij,Ii];refine ae (aS true x a4 e4) ?_;by_cases he:e4=0;rotate_left
 .simp only[go_sem,ei he];have hP:P=(l,a4,e4):=by rw[g4,Z0 he]
  subst hP;simp only at hR
  try simp only[go_sem,Ij,Ii]
  refine ae (VA hx a4 e4 g1) ?_;have k5:=((eY x).oks [] a4 e4 g1).1;generalize dF (gX x) [] a4 e4=y at*;obtain⟨ol,a5,e5⟩:=y;simp only at k5 hR⊢;simp only[go_sem,exs];refine ae (J_ true x a5 e5) ?_;have cf:=E3 (b:=b) a2 e2 (sq true x a5 e5);rw[qw]at cf;rw[qw];subst hR;simp only[go_sem];refine aE (cf) ?_;refine done [903] (.agg (kM ⟨0,l,ol⟩)) [(1000,ro true b a2 (if e2=0 then sa x a5 e5 else e2))] ?_ (by simp only[go_sem]) rfl ⟨rfl,rfl⟩;simp only[go_sem,a_,kM];rw[cI (by rw[bZ];omega)]
 subst he;rw[ZZ]at g4;simp only[pb]at g4;simp only[go_sem];refine ae (NB hx a4 0 g1) ?_;have u1:=(kW (b:=x) a4 0 g1).1;have u2:=wW ((0:Int)==0) x a4 0;change (kv x a4 0).1<_ at u2;generalize kv x a4 0=y at*;obtain⟨many,a5,e5⟩:=y;simp only at u1 u2 g4⊢;simp only[go_sem];refine ae (Yg hx a5 e5 u1) ?_;have v1:=((o7 x).oks 0 a5 e5 u1).1;generalize dF (gV x) 0 a5 e5=y at*;obtain⟨t,a6,e6⟩:=y;simp only at v1 g4⊢;have hw2:IntKind.i64.wrap (64-(l.length:Int))=64-(l.length:Int):=wi (by omega) (by omega);have key:∀e7:Int,(e7=0->(many:Int)<=64-l.length)->P=E1 x j (if e7=0 then l++List.replicate many t else l) a6 e7->True:=λ_ _ _=>trivial;by_cases hm:(many:Int)>64-(l.length:Int)
 .rw[show Ch 6 ((many:Int)>64-(l.length:Int)) a6 e6=((),a6,if e6=0 then 6 else e6)by unfold Ch pI pF;rw[au hm]]at g4;simp only[go_sem,hw2,aK hm];have cf:=E3 (b:=x) a6 e6 6;have h7:(if e6=0 then(6:Int)else e6)=0->(many:Int)<=64-l.length:=λq=>by split at q<;>omega
  generalize (if e6=0 then(6:Int)else e6)=e7 at*;refine ae (cf) ?_;simp only at g4;refine aq (λq:Nat×List Int=>⟨[(6,.int .i64 (q.1:Nat)),(7,.int .i64 t),(5,.int .i64 ((j+1:Nat):Int)),(3,.mp 902 4 0 0),(4,.mp 4 3 0 0),(2,.mp 2 3 0 0),(0,.mp 1000 4 0 0)],[(2,⟨61,3,[[.int .i64 0,.nl,.nl]],true⟩),(4,Ij q.2),(903,Ii q.2),(902,ro true x a6 e7),(1000,ro true b a2 e2)]⟩)
   (λq=>(e7=0->q.2++List.replicate q.1 t=l++List.replicate many t/\q.2.length+q.1<=64)/\(e7≠0->q.2=l)/\q.1<4294967296) (λq=>q.1) (many,l) ⟨λ_=>⟨rfl,by have:=h7 ‹_›;simp only;omega⟩,λ_=>rfl,u2⟩ (Wk.of ?_ ?_) ?_
  .simp only[go_sem];try simp
  .simp only[go_sem,Ij,Ii];try simp[go_sem]
  rintro⟨i,L⟩ ⟨z1,z2,z3⟩;simp only at z1 z2 z3;have happ:=λys=>bq 903 54 1 L.length jM L ys rfl;have out:(e7=0->i=0)->P=E1 x j L a6 e7/\L.length<=64:=λq=>by
   by_cases h0:e7=0
   .obtain⟨y1,y2⟩:=z1 h0;rw[q h0,List.replicate_zero,m_]at y1;rw[au h0]at g4;rw[y1];exact⟨g4,by rw[<-y1];omega⟩
   .rw[z2 h0];rw[ak h0]at g4;exact⟨g4,g2⟩
  by_cases hi:(i:Int)>0;rotate_left
  .obtain⟨o1,o2⟩:=out λ_=>by omega
   simp only[go_sem,aL hi,hw1];refine aF (j,L,a6,e7) ⟨v1,o2,by simp only;omega,o1⟩ (show j<j+1 by omega) (Wk.of ?_ ?_)
   .simp only[go_sem];try simp
   .simp only[go_sem,Ij,Ii];try simp[go_sem]
  simp only[go_sem,aK hi,Ij,Ii];refine ae (aS true x a6 e7) ?_;by_cases h0:e7=0;rotate_left
  .obtain⟨o1,o2⟩:=out λq=>absurd q h0;simp only[go_sem,ei h0,hw1];refine aF (j,L,a6,e7) ⟨v1,o2,by simp only;omega,o1⟩ (show j<j+1 by omega) (Wk.of ?_ ?_)
   .simp only[go_sem];try simp
   .simp only[go_sem,Ij,Ii];try simp[go_sem]
  obtain⟨i,rfl⟩:∃k,i=k+1:=⟨i-1,by omega⟩
  have hw3:IntKind.i64.wrap (((i+1:Nat):Int)-1)=(i:Int):=by rw[wi (by omega) (by omega)];omega
  obtain⟨y1,y2⟩:=z1 h0;simp only[go_sem,dt h0,happ,hw3,ce];refine⟨by omega,aF (i,L++[t]) ⟨λ_=>⟨by rw[<-y1];simp[Ec],by simp;omega⟩,λq=>absurd h0 q,by simp only;omega⟩ (show i<i+1 by omega) (Wk.of ?_ ?_)⟩
  .simp only[go_sem];try simp
  .simp only[go_sem,Ij,Ii];try simp[go_sem,ce]
 .rw[show Ch 6 ((many:Int)>64-(l.length:Int)) a6 e6=((),a6,e6)by unfold Ch pI pP;rw[ak hm]]at g4;simp only[go_sem,hw2,aL hm];have h7:e6=0->(many:Int)<=64-l.length:=λ_=>by omega
  simp only at g4;generalize e6=e7 at*;refine aq (λq:Nat×List Int=>⟨[(6,.int .i64 (q.1:Nat)),(7,.int .i64 t),(5,.int .i64 ((j+1:Nat):Int)),(3,.mp 902 4 0 0),(4,.mp 4 3 0 0),(2,.mp 2 3 0 0),(0,.mp 1000 4 0 0)],[(2,⟨61,3,[[.int .i64 0,.nl,.nl]],true⟩),(4,Ij q.2),(903,Ii q.2),(902,ro true x a6 e7),(1000,ro true b a2 e2)]⟩)
   (λq=>(e7=0->q.2++List.replicate q.1 t=l++List.replicate many t/\q.2.length+q.1<=64)/\(e7≠0->q.2=l)/\q.1<4294967296) (λq=>q.1) (many,l) ⟨λ_=>⟨rfl,by have:=h7 ‹_›;simp only;omega⟩,λ_=>rfl,u2⟩ (Wk.of ?_ ?_) ?_
  .simp only[go_sem];try simp
  .simp only[go_sem,Ij,Ii];try simp[go_sem]
  rintro⟨i,L⟩ ⟨z1,z2,z3⟩;simp only at z1 z2 z3;have happ:=λys=>bq 903 54 1 L.length jM L ys rfl;have out:(e7=0->i=0)->P=E1 x j L a6 e7/\L.length<=64:=λq=>by
   by_cases h0:e7=0
   .obtain⟨y1,y2⟩:=z1 h0;rw[q h0,List.replicate_zero,m_]at y1;rw[au h0]at g4;rw[y1];exact⟨g4,by rw[<-y1];omega⟩
   .rw[z2 h0];rw[ak h0]at g4;exact⟨g4,g2⟩
  by_cases hi:(i:Int)>0;rotate_left
  .obtain⟨o1,o2⟩:=out λ_=>by omega
   simp only[go_sem,aL hi,hw1];refine aF (j,L,a6,e7) ⟨v1,o2,by simp only;omega,o1⟩ (show j<j+1 by omega) (Wk.of ?_ ?_)
   .simp only[go_sem];try simp
   .simp only[go_sem,Ij,Ii];try simp[go_sem]
  simp only[go_sem,aK hi,Ij,Ii];refine ae (aS true x a6 e7) ?_;by_cases h0:e7=0;rotate_left
  .obtain⟨o1,o2⟩:=out λq=>absurd q h0;simp only[go_sem,ei h0,hw1];refine aF (j,L,a6,e7) ⟨v1,o2,by simp only;omega,o1⟩ (show j<j+1 by omega) (Wk.of ?_ ?_)
   .simp only[go_sem];try simp
   .simp only[go_sem,Ij,Ii];try simp[go_sem]
  obtain⟨i,rfl⟩:∃k,i=k+1:=⟨i-1,by omega⟩
  have hw3:IntKind.i64.wrap (((i+1:Nat):Int)-1)=(i:Int):=by rw[wi (by omega) (by omega)];omega
  obtain⟨y1,y2⟩:=z1 h0;simp only[go_sem,dt h0,happ,hw3,ce];refine⟨by omega,aF (i,L++[t]) ⟨λ_=>⟨by rw[<-y1];simp[Ec],by simp;omega⟩,λq=>absurd h0 q,by simp only;omega⟩ (show i<i+1 by omega) (Wk.of ?_ ?_)⟩
  .simp only[go_sem];try simp
  .simp only[go_sem,Ij,Ii];try simp[go_sem,ce]
end
section
variable{b:Af}(hb:b.length<1000000000)
include hb
attribute[local go_sem] ro wo wa rx ce
theorem agb(a:Nat)(e:Int)(ha:a<=b.length):aj pg 306 [rx b a e] (.tup [.agg (kM ⟨0,(JT b a e).1.1,(JT b a e).1.2⟩),.int .i64 (sa b (JT b a e).2.1 (JT b a e).2.2)]):=by
 refine aC sV ?_;simp only[go_sem,sV];refine ab (vS hb 64 a e ha) ?_;have hN:=TZ (b:=b) (most:=64) (by decide) (e:=e) ha;have hk:(pC b 64 a e).2.1<=b.length:=fg ha;have hR:JT b a e=JT b a e:=rfl
 conv at hR=>rhs;simp only[JT,pb,pP]
 generalize JT b a e=R at*;generalize pC b 64 a e=c at*;obtain⟨N,a0,e0⟩:=c;simp only at hN hk hR⊢;obtain⟨L,hL⟩:∃L,E1 b N [] a0 e0=L:=⟨_,rfl⟩
 rw[hL]at hR;simp only[go_sem];refine aq (λq:(Nat×List Int)×Nat×Nat×Int=>⟨[(7,.int .i64 q.2.1),(6,.ms 900 1 0 q.1.2.length),(5,.int .i64 N),(4,.mp 4 3 0 0),(3,.int .i64 0),(2,.mp 2 3 0 0),(1,.mp 1 3 0 0)],[(900,⟨54,1,q.1.2.map jM,false⟩),(1,⟨240,3,[[.sl 1 (b.map de),.int .i64 q.2.2.1,.int .i64 q.2.2.2]],true⟩),(2,⟨61,3,[[.int .i64 0,.nl,.nl]],true⟩),(4,⟨61,3,[[.int .i64 0,.nl,.nl]],true⟩)]⟩)
  (λq=>q.2.2.1<=b.length/\q.2.1+q.1.1=N/\q.1.2.length<=64/\E1 b q.1.1 q.1.2 q.2.2.1 q.2.2.2=L) (λq=>q.1.1) ((N,[]),0,a0,e0) ⟨hk,by simp,by simp,hL⟩ ((Wk.nil _ 6 900 1 54 (by simp only[go_sem]) (.inl (by decide))).trans (Wk.of ?_ ?_)) ?_
 .simp only[go_sem,St.mknil];try simp[go_sem]
 .simp only[go_sem,St.mknil];try simp[go_sem]
 rintro⟨⟨m,l⟩,i,a1,e1⟩ ⟨h1,h2,h4,h3⟩;simp only at h1 h2 h3 h4;have happ:=λ(l:List Int) ys=>bq 900 54 1 l.length jM l ys rfl;have fin:∀(P:Prop),(L=(l,a1,e1)->P)->L=(l,a1,e1)->P:=λ_ f h=>f h;have tail:L=(l,a1,e1)->R=((l,(dF (gX b) [] a1 e1).1),(dF (gX b) [] a1 e1).2.1,(dF (gX b) [] a1 e1).2.2):=λh=>by rw[hR,h]
 by_cases hm1:(i:Int)<(N:Int);rotate_left
 .obtain rfl:m=0:=by omega
  have hR2:=tail h3.symm;simp only[go_sem,aL hm1];refine ab (LW hb a1 e1 h1) ?_;have k2:=((eY b).oks [] a1 e1 h1).1;generalize dF (gX b) [] a1 e1=y at*;obtain⟨x,a2,e2⟩:=y;simp only at hR2 k2⊢;rw[hR2];simp only[go_sem,exs];refine cJ (Uf b a2 e2 k2 hb) (by simp[go_sem,rx]) (by rfl) ?_;rw[qw];simp only[go_sem];refine aB [900] ?_ rfl;simp only[go_sem,bZ,a_,kM];rw[cI (by rw[bZ];omega)]
 obtain⟨m,rfl⟩:∃k,m=k+1:=⟨m-1,by omega⟩
 by_cases he:e1=0;rotate_left
 .rw[Z0 he]at h3;have hR2:=tail h3.symm;simp only[go_sem,aK hm1,ei he];refine ab (LW hb a1 e1 h1) ?_;have k2:=((eY b).oks [] a1 e1 h1).1;generalize dF (gX b) [] a1 e1=y at*;obtain⟨x,a2,e2⟩:=y;simp only at hR2 k2⊢;rw[hR2];simp only[go_sem,exs];refine cJ (Uf b a2 e2 k2 hb) (by simp[go_sem,rx]) (by rfl) ?_;rw[qw];simp only[go_sem];refine aB [900] ?_ rfl;simp only[go_sem,bZ,a_,kM];rw[cI (by rw[bZ];omega)]
 clear tail;subst he;rw[ZZ]at h3;simp only[pb,Ch,pI,pF,pP]at h3;have hw1:IntKind.i64.wrap ((i:Int)+1)=((i+1:Nat):Int):=by rw[wi (by omega) (by omega)];omega
 have hw2:IntKind.i64.wrap (64-(l.length:Int))=64-(l.length:Int):=wi (by omega) (by omega);simp only[go_sem,aK hm1];refine ab (BX hb a1 0 h1) ?_;have k2:=(kW (b:=b) a1 0 h1).1;generalize kv b a1 0=y at*;obtain⟨many,a2,e2⟩:=y;simp only at h3 k2⊢;simp only[go_sem];refine ab (LV hb a2 e2 k2) ?_;have k3:=((o7 b).oks 0 a2 e2 k2).1;generalize dF (gV b) 0 a2 e2=y at*;obtain⟨t,a3,e3⟩:=y;simp only at h3 k3⊢;by_cases he3:e3=0
 .subst he3;by_cases hq:(many:Int)>64-(l.length:Int)
  .simp only[au hq,aN,ak (show ¬(6:Int)=0 by decide)]at h3;simp only[go_sem,hw2,aK hq];refine aa (cM b a3 6) ?_;obtain⟨e4,h9⟩:∃x:Int,x=6:=⟨_,rfl⟩
   have hm4:e4=0->(many:Int)<=64-l.length:=λh=>by omega
   have h8:E1 b m (if e4=0 then l++List.replicate many t else l) a3 e4=L:=by rw[h9,ak (by decide)];exact h3
   refine aq (λj:Nat=>⟨[(12,.int .i64 j),(11,.int .i64 t),(9,.int .i64 many),(7,.int .i64 i),(6,.ms 900 1 0 (l++List.replicate j t).length),(5,.int .i64 N),(4,.mp 4 3 0 0),(3,.int .i64 0),(2,.mp 2 3 0 0),(1,.mp 1 3 0 0)],[(900,⟨54,1,(l++List.replicate j t).map jM,false⟩),(1,⟨240,3,[[.sl 1 (b.map de),.int .i64 a3,.int .i64 e4]],true⟩),(2,⟨61,3,[[.int .i64 0,.nl,.nl]],true⟩),(4,⟨61,3,[[.int .i64 0,.nl,.nl]],true⟩)]⟩)
    (λj=>j<=many/\(e4≠0->j=0)) (λj=>many-j) 0 ⟨cm _,λ_=>rfl⟩ (Wk.of ?_ ?_) ?_
   .simp only[go_sem];try simp
   .subst h9;simp only[go_sem];try simp[go_sem,ce]
   rintro j ⟨hj,hj0⟩;have happ2:=happ (l++List.replicate j t);by_cases hjm:(j:Int)<(many:Int)
   .by_cases he5:e4=0
    .have hm5:=hm4 he5;have hw5:IntKind.i64.wrap ((j:Int)+1)=((j+1:Nat):Int):=by rw[wi (by omega) (by omega)];omega
     simp only[go_sem,aK hjm,show(e4==0)=true from beq_iff_eq.2 he5,happ2,hw5];refine⟨by simp;omega,aF (j+1) ⟨by omega,λh=>absurd he5 h⟩ (show many-(j+1)<many-j by omega) (Wk.of ?_ ?_)⟩
     .simp only[go_sem];try (simp[Mv];omega)
     .simp only[go_sem];try simp[go_sem,ce,Mv]
    .obtain rfl:=hj0 he5;rw[ak he5]at h8;simp only[go_sem,aK hjm,ei he5,hw1];refine aF ((m,l),i+1,a3,e4) ⟨k3,by simp only at h2⊢;omega,h4,h8⟩ (show m<m+1 by omega) (Wk.of ?_ ?_)
     .simp only[go_sem];try simp
     .simp only[go_sem];try simp
   .have hjl:(l++List.replicate j t).length<=64/\E1 b m (l++List.replicate j t) a3 e4=L:=by
     by_cases he5:e4=0
     .have hm5:=hm4 he5;rw[au he5]at h8;obtain rfl:j=many:=by omega
      exact⟨by simp;omega,h8⟩
     .obtain rfl:=hj0 he5;rw[ak he5]at h8;exact⟨by simp;omega,by simpa using h8⟩
    simp only[go_sem,aL hjm,hw1];refine aF ((m,l++List.replicate j t),i+1,a3,e4) ⟨k3,by simp only at h2⊢;omega,hjl.1,hjl.2⟩ (show m<m+1 by omega) (Wk.of ?_ ?_)
    .simp only[go_sem];try simp
    .simp only[go_sem];try simp
  .simp only[ak hq,aN]at h3;simp only[go_sem,hw2,aL hq];obtain⟨e4,h9⟩:∃x:Int,x=0:=⟨_,rfl⟩
   have hm4:e4=0->(many:Int)<=64-l.length:=λh=>by omega
   have h8:E1 b m (if e4=0 then l++List.replicate many t else l) a3 e4=L:=by rw[h9,au rfl];exact h3
   refine aq (λj:Nat=>⟨[(12,.int .i64 j),(11,.int .i64 t),(9,.int .i64 many),(7,.int .i64 i),(6,.ms 900 1 0 (l++List.replicate j t).length),(5,.int .i64 N),(4,.mp 4 3 0 0),(3,.int .i64 0),(2,.mp 2 3 0 0),(1,.mp 1 3 0 0)],[(900,⟨54,1,(l++List.replicate j t).map jM,false⟩),(1,⟨240,3,[[.sl 1 (b.map de),.int .i64 a3,.int .i64 e4]],true⟩),(2,⟨61,3,[[.int .i64 0,.nl,.nl]],true⟩),(4,⟨61,3,[[.int .i64 0,.nl,.nl]],true⟩)]⟩)
    (λj=>j<=many/\(e4≠0->j=0)) (λj=>many-j) 0 ⟨cm _,λ_=>rfl⟩ (Wk.of ?_ ?_) ?_
   .simp only[go_sem];try simp
   .subst h9;simp only[go_sem];try simp[go_sem,ce]
   rintro j ⟨hj,hj0⟩;have happ2:=happ (l++List.replicate j t);by_cases hjm:(j:Int)<(many:Int)
   .by_cases he5:e4=0
    .have hm5:=hm4 he5;have hw5:IntKind.i64.wrap ((j:Int)+1)=((j+1:Nat):Int):=by rw[wi (by omega) (by omega)];omega
     simp only[go_sem,aK hjm,show(e4==0)=true from beq_iff_eq.2 he5,happ2,hw5];refine⟨by simp;omega,aF (j+1) ⟨by omega,λh=>absurd he5 h⟩ (show many-(j+1)<many-j by omega) (Wk.of ?_ ?_)⟩
     .simp only[go_sem];try (simp[Mv];omega)
     .simp only[go_sem];try simp[go_sem,ce,Mv]
    .obtain rfl:=hj0 he5;rw[ak he5]at h8;simp only[go_sem,aK hjm,ei he5,hw1];refine aF ((m,l),i+1,a3,e4) ⟨k3,by simp only at h2⊢;omega,h4,h8⟩ (show m<m+1 by omega) (Wk.of ?_ ?_)
     .simp only[go_sem];try simp
     .simp only[go_sem];try simp
   .have hjl:(l++List.replicate j t).length<=64/\E1 b m (l++List.replicate j t) a3 e4=L:=by
     by_cases he5:e4=0
     .have hm5:=hm4 he5;rw[au he5]at h8;obtain rfl:j=many:=by omega
      exact⟨by simp;omega,h8⟩
     .obtain rfl:=hj0 he5;rw[ak he5]at h8;exact⟨by simp;omega,by simpa using h8⟩
    simp only[go_sem,aL hjm,hw1];refine aF ((m,l++List.replicate j t),i+1,a3,e4) ⟨k3,by simp only at h2⊢;omega,hjl.1,hjl.2⟩ (show m<m+1 by omega) (Wk.of ?_ ?_)
    .simp only[go_sem];try simp
    .simp only[go_sem];try simp
 .simp only[ak he3,ite_self]at h3;simp only[go_sem,ei he3];obtain⟨e4,h9⟩:∃x:Int,x=e3:=⟨_,rfl⟩
  have hm4:e4=0->(many:Int)<=64-l.length:=λh=>absurd (h9▸h) he3;have h8:E1 b m (if e4=0 then l++List.replicate many t else l) a3 e4=L:=by rw[h9,ak he3];exact h3
  refine aq (λj:Nat=>⟨[(12,.int .i64 j),(11,.int .i64 t),(9,.int .i64 many),(7,.int .i64 i),(6,.ms 900 1 0 (l++List.replicate j t).length),(5,.int .i64 N),(4,.mp 4 3 0 0),(3,.int .i64 0),(2,.mp 2 3 0 0),(1,.mp 1 3 0 0)],[(900,⟨54,1,(l++List.replicate j t).map jM,false⟩),(1,⟨240,3,[[.sl 1 (b.map de),.int .i64 a3,.int .i64 e4]],true⟩),(2,⟨61,3,[[.int .i64 0,.nl,.nl]],true⟩),(4,⟨61,3,[[.int .i64 0,.nl,.nl]],true⟩)]⟩)
   (λj=>j<=many/\(e4≠0->j=0)) (λj=>many-j) 0 ⟨cm _,λ_=>rfl⟩ (Wk.of ?_ ?_) ?_
  .simp only[go_sem];try simp
  .subst h9;simp only[go_sem];try simp[go_sem,ce]
  rintro j ⟨hj,hj0⟩;have happ2:=happ (l++List.replicate j t);by_cases hjm:(j:Int)<(many:Int)
  .by_cases he5:e4=0
   .have hm5:=hm4 he5;have hw5:IntKind.i64.wrap ((j:Int)+1)=((j+1:Nat):Int):=by rw[wi (by omega) (by omega)];omega
    simp only[go_sem,aK hjm,show(e4==0)=true from beq_iff_eq.2 he5,happ2,hw5];refine⟨by simp;omega,aF (j+1) ⟨by omega,λh=>absurd he5 h⟩ (show many-(j+1)<many-j by omega) (Wk.of ?_ ?_)⟩
    .simp only[go_sem];try (simp[Mv];omega)
    .simp only[go_sem];try simp[go_sem,ce,Mv]
   .obtain rfl:=hj0 he5;rw[ak he5]at h8;simp only[go_sem,aK hjm,ei he5,hw1];refine aF ((m,l),i+1,a3,e4) ⟨k3,by simp only at h2⊢;omega,h4,h8⟩ (show m<m+1 by omega) (Wk.of ?_ ?_)
    .simp only[go_sem];try simp
    .simp only[go_sem];try simp
  .have hjl:(l++List.replicate j t).length<=64/\E1 b m (l++List.replicate j t) a3 e4=L:=by
    by_cases he5:e4=0
    .have hm5:=hm4 he5;rw[au he5]at h8;obtain rfl:j=many:=by omega
     exact⟨by simp;omega,h8⟩
    .obtain rfl:=hj0 he5;rw[ak he5]at h8;exact⟨by simp;omega,by simpa using h8⟩
   simp only[go_sem,aL hjm,hw1];refine aF ((m,l++List.replicate j t),i+1,a3,e4) ⟨k3,by simp only at h2⊢;omega,hjl.1,hjl.2⟩ (show m<m+1 by omega) (Wk.of ?_ ?_)
   .simp only[go_sem];try simp
   .simp only[go_sem];try simp
end
section
def zH(m:Md)(fu da co pl er:Int):List AV:=[.sl 2 (m.ts.map my),.sl 13 (m.ims.map pw),.sl 3 (m.fs.map kM),.sl 4 (m.tbs.map rM),.sl 3 (m.ms.map j7),.sl 3 (m.gs.map wF),.sl 3 (m.exs.map vx),.bool m.hs,.int .i64 m.st,.sl 5 (m.els.map eF),.sl 4 (m.ds.map iz),.sl 3 (m.cs.map yf),.int .i64 fu,.int .i64 da,.int .i64 co,.int .i64 pl,.int .i64 er]
def qH:List AV:=[.nl,.nl,.nl,.nl,.nl,.nl,.nl,.bool false,.int .i64 0,.nl,.nl,.nl,.int .i64 0,.int .i64 0,.int .i64 0,.int .i64 0,.int .i64 0]
def mK(id:Nat)(t:TypeId)(st:Nat)(ys:List (List AV))(hy:ys.length<137438953472)(hid:id<1000):xf id t st 0 0 ys (some ⟨t,st,[],false⟩)=some (.ms id st 0 ys.length,.reb id ⟨t,st,ys,false⟩):=by
 rw[Fo id t st 0 [] ys rfl,au ⟨hy,by decide,.inl hid⟩];simp
def RS{α:Type}(f:FuncId)(b:Af)(t:PS α)(x:Md->α->Md)(m:Md)(g:Int->α->Int):Prop:=∀fu da co pl er:Int,aj pg f [.agg (zH m fu da co pl er),rx b 0 0] (.tup [.agg (zH (x m (t 0 0).1) (g fu (t 0 0).1) da co pl er),rx b ((t 0 0).2.1:Nat) (t 0 0).2.2])
def mO{α:Type}(b:Af)(r:List AV)(X:List α->List AV)(N:Nat)(q:Nat×List α×Nat×Int):St:=⟨[(8,.int .i64 q.2.1.length),(7,.mp 7 12 0 0),(6,.int .i64 N),(5,.mp 5 3 0 0),(4,.mp 4 17 0 0),(3,.mp 3 3 0 0),(2,.mp 2 17 0 0)],[(3,⟨240,3,[[.sl 1 (b.map de),.int .i64 q.2.2.1,.int .i64 q.2.2.2]],true⟩),(7,⟨33,12,[X q.2.1],true⟩),(2,⟨104,17,[r],true⟩),(4,⟨104,17,[qH],true⟩),(5,⟨240,3,[[.nl,.int .i64 0,.int .i64 0]],true⟩)]⟩
def lsP{α:Type}(b:Af)(p:PS α)(N:Nat)(R:List α×Nat×Int)(q:Nat×List α×Nat×Int):Prop:=q.2.2.1<=b.length/\q.2.1.length+q.1=N/\R=(q.2.1++(pN p q.1 q.2.2.1 q.2.2.2).1,(pN p q.1 q.2.2.1 q.2.2.2).2)
def xR{α:Type}(b:Af)(p:PS α)(X:List α->List AV)(r:List AV)(N:Nat)(R:List α×Nat×Int)(x:bI)(K:IX->St->Prop)(q:Nat×List α×Nat×Int):Prop:=jL pg x (mO b r X N q) (ZN (mO b r X N) (lsP b p N R) (λq=>q.1) q K)
def nZ{α:Type}{b:Af}(p:PS α)(X:List α->List AV)(r:List AV){most:Int}{R:List α×Nat×Int}{N a0:Nat}{e0:Int}{x:bI}{s:St}{K:IX->St->Prop}(h0:pL b p most 0 0=R)(hc:pC b most 0 0=(N,a0,e0))(ok:∀a,a<=b.length->(p a 0).2.1<=b.length)(h2:Wk s (mO b r X N (N,[],a0,e0)))
  (hx:∀l a1 e1,R=(l,a1,e1)->¬(l.length:Int)<N->xR b p X r N R x K (0,l,a1,e1)) (hs:∀m9 l a1 e1,R=(l,a1,e1)->(l.length:Int)<N->e1≠0->xR b p X r N R x K (m9,l,a1,e1))
  (hg:∀m9 l a1,(l.length:Int)<N->a1<=b.length->IntKind.i64.wrap ((l.length:Int)+1)=((l.length+1:Nat):Int)->l.length<4294967296->(∀s',Wk s' (mO b r X N (m9,l++[(p a1 0).1],(p a1 0).2.1,(p a1 0).2.2))->ZN (mO b r X N) (lsP b p N R) (λq=>q.1) (m9+1,l,a1,0) K .nrm s')->xR b p X r N R x K (m9+1,l,a1,0)):jL pg (.loop x) s K:=by
 have hN:=pj (b:=b) (most:=most) (a:=0) (e:=0);have hk:(pC b most 0 0).2.1<=b.length:=fg (cm _);have h0:([]++(pN p (pC b most 0 0).1 (pC b most 0 0).2.1 (pC b most 0 0).2.2).1,(pN p (pC b most 0 0).1 (pC b most 0 0).2.1 (pC b most 0 0).2.2).2)=R:=h0;rw[hc]at hN hk h0;refine aq (mO b r X N) (lsP b p N R) (λq=>q.1) (N,[],a0,e0) ⟨hk,by simp,h0.symm⟩ h2 ?_;rintro⟨m9,l,a1,e1⟩ ⟨h1,h2,h3⟩;simp only at h1 h2 h3 hN;by_cases hm1:(l.length:Int)<(N:Int);rotate_left
 .obtain rfl:m9=0:=by omega
  exact hx l a1 e1 (h3.trans (by simp only[pN,pP,m_])) hm1
 obtain⟨m9,rfl⟩:∃k,m9=k+1:=⟨m9-1,by omega⟩
 by_cases he:e1=0;rotate_left
 .exact hs (m9+1) l a1 e1 (h3.trans (by rw[HM he];simp only[m_])) hm1 he
 subst he;rw[JU]at h3;exact hg m9 l a1 hm1 h1 (by rw[wi (by omega) (by omega)];omega) (by omega) λs' h=>aF _ ⟨ok a1 h1,by simp;omega,by rw[h3];simp⟩ (show m9<m9+1 by omega) h
variable{b:Af}(hb:b.length<1000000000)
include hb
attribute[local go_sem] ro wo wa rx ce zH vl
theorem UI(m:Md)(hm:m.ts=[]):RS 247 b (pL b (Ny b) (64:Nat)) (λm l=>{m with ts:=l}) m (λfu _=>fu):=by
 intro fu da co pl er;refine aC ws ?_;simp only[go_sem,ws,hm];refine ab (vS hb 64 0 0 (cm _)) ?_;generalize h0:pL b (Ny b) (64:Nat) 0 0=R;generalize hc:pC b 64 0 0=c;obtain⟨N,a0,e0⟩:=c;simp only[go_sem];refine nZ (Ny b) (λl=>vl {m with ts:=l}) (zH m fu da co pl er) h0 hc (λa h=>(HJ (b:=b) a 0 h).1) (Wk.of ?_ ?_) ?_ ?_ ?_
 .simp only[go_sem,mO];try simp[go_sem]
 .simp only[go_sem,mO,hm,qH];try simp[go_sem]
 .intro l a1 e1 h hm1;simp only[go_sem,xR,mO,aL hm1,qH];subst h;exact ay
 .intro m9 l a1 e1 h hm1 he;simp only[go_sem,xR,mO,aK hm1,ei he,qH];subst h;exact ay
 intro m9 l a1 hm1 h1 hw1 hl k;have q1:=mK 34 51 2 (l.map my) (by rw[bZ];omega) (by decide);have q2:=λys=>bq 34 51 2 l.length my l ys rfl;simp only[go_sem,xR,mO,aK hm1];refine ab (age hb a1 0 h1) ?_;generalize Ny b a1 0=y at*;obtain⟨x,a2,e2⟩:=y;simp only at k⊢;simp only[go_sem,Ik,my,q1,q2,hw1];refine⟨(by first|omega|decide|(simp;omega)|exact(0:Nat)),by omega,k _ ((Wk.frzs [34] _).trans (Wk.of ?_ ?_))⟩
 .simp only[go_sem,mO];try simp
 .simp only[go_sem,mO,qH];try simp[go_sem,my]
  exact cI (by simp)
theorem LZ(m:Md)(hm:m.ims=[]):RS 248 b (pL b (Ir b) (32:Nat)) (λm l=>{m with ims:=l}) m (λfu _=>fu):=by
 intro fu da co pl er;refine aC sZ ?_;simp only[go_sem,sZ,hm];refine ab (vS hb 32 0 0 (cm _)) ?_;generalize h0:pL b (Ir b) (32:Nat) 0 0=R;generalize hc:pC b 32 0 0=c;obtain⟨N,a0,e0⟩:=c;simp only[go_sem];refine nZ (Ir b) (λl=>vl {m with ims:=l}) (zH m fu da co pl er) h0 hc (λa h=>(Nr b a 0 h).1) (Wk.of ?_ ?_) ?_ ?_ ?_
 .simp only[go_sem,mO];try simp[go_sem]
 .simp only[go_sem,mO,hm,qH];try simp[go_sem]
 .intro l a1 e1 h hm1;simp only[go_sem,xR,mO,aL hm1,qH];subst h;exact ay
 .intro m9 l a1 e1 h hm1 he;simp only[go_sem,xR,mO,aK hm1,ei he,qH];subst h;exact ay
 intro m9 l a1 hm1 h1 hw1 hl k;have q1:=mK 34 125 13 (l.map pw) (by rw[bZ];omega) (by decide);have q2:=λys=>bq 34 125 13 l.length pw l ys rfl;simp only[go_sem,xR,mO,aK hm1];refine ab (agf hb a1 0 h1) ?_;generalize Ir b a1 0=y at*;obtain⟨x,a2,e2⟩:=y;simp only at k⊢;simp only[go_sem,pw,q1,q2,hw1];refine⟨(by first|omega|decide|(simp;omega)|exact(0:Nat)),by omega,k _ ((Wk.frzs [34] _).trans (Wk.of ?_ ?_))⟩
 .simp only[go_sem,mO];try simp
 .simp only[go_sem,mO,qH];try simp[go_sem,pw]
  exact cI (by simp)
theorem PJ(m:Md)(hm:m.tbs=[]):RS 250 b (pL b (dF (Ce b) tI) (4:Nat)) (λm l=>{m with tbs:=l}) m (λfu _=>fu):=by
 intro fu da co pl er;refine aC um ?_;simp only[go_sem,um,hm];refine ab (vS hb 4 0 0 (cm _)) ?_;generalize h0:pL b (dF (Ce b) tI) (4:Nat) 0 0=R;generalize hc:pC b 4 0 0=c;obtain⟨N,a0,e0⟩:=c;simp only[go_sem];refine nZ (dF (Ce b) tI) (λl=>vl {m with tbs:=l}) (zH m fu da co pl er) h0 hc (λa h=>((yn b).oks tI a 0 h).1) (Wk.of ?_ ?_) ?_ ?_ ?_
 .simp only[go_sem,mO];try simp[go_sem]
 .simp only[go_sem,mO,hm,qH];try simp[go_sem]
 .intro l a1 e1 h hm1;simp only[go_sem,xR,mO,aL hm1,qH];subst h;exact ay
 .intro m9 l a1 e1 h hm1 he;simp only[go_sem,xR,mO,aK hm1,ei he,qH];subst h;exact ay
 intro m9 l a1 hm1 h1 hw1 hl k;have q1:=mK 34 123 4 (l.map rM) (by rw[bZ];omega) (by decide);have q2:=λys=>bq 34 123 4 l.length rM l ys rfl;simp only[go_sem,xR,mO,aK hm1];refine ab (Z_ hb a1 0 h1) ?_;generalize dF (Ce b) tI a1 0=y at*;obtain⟨x,a2,e2⟩:=y;simp only at k⊢;simp only[go_sem,D9,rM,q1,q2,hw1];refine⟨(by first|omega|decide|(simp;omega)|exact(0:Nat)),by omega,k _ ((Wk.frzs [34] _).trans (Wk.of ?_ ?_))⟩
 .simp only[go_sem,mO];try simp
 .simp only[go_sem,mO,qH];try simp[go_sem,rM]
  exact cI (by simp)
theorem YR(m:Md)(hm:m.ms=[]):RS 251 b (pL b (dF (yl b) ⟨0,0,false⟩) (2:Nat)) (λm l=>{m with ms:=l}) m (λfu _=>fu):=by
 intro fu da co pl er;refine aC x_ ?_;simp only[go_sem,x_,hm];refine ab (vS hb 2 0 0 (cm _)) ?_;generalize h0:pL b (dF (yl b) ⟨0,0,false⟩) (2:Nat) 0 0=R;generalize hc:pC b 2 0 0=c;obtain⟨N,a0,e0⟩:=c;simp only[go_sem];refine nZ (dF (yl b) ⟨0,0,false⟩) (λl=>vl {m with ms:=l}) (zH m fu da co pl er) h0 hc (λa h=>((ym b).oks ⟨0,0,false⟩ a 0 h).1) (Wk.of ?_ ?_) ?_ ?_ ?_
 .simp only[go_sem,mO];try simp[go_sem]
 .simp only[go_sem,mO,hm,qH];try simp[go_sem]
 .intro l a1 e1 h hm1;simp only[go_sem,xR,mO,aL hm1,qH];subst h;exact ay
 .intro m9 l a1 e1 h hm1 he;simp only[go_sem,xR,mO,aK hm1,ei he,qH];subst h;exact ay
 intro m9 l a1 hm1 h1 hw1 hl k;have q1:=mK 34 121 3 (l.map j7) (by rw[bZ];omega) (by decide);have q2:=λys=>bq 34 121 3 l.length j7 l ys rfl;simp only[go_sem,xR,mO,aK hm1];refine ab (Gg hb a1 0 h1) ?_;generalize dF (yl b) ⟨0,0,false⟩ a1 0=y at*;obtain⟨x,a2,e2⟩:=y;simp only at k⊢;simp only[go_sem,pB,j7,q1,q2,hw1];refine⟨(by first|omega|decide|(simp;omega)|exact(0:Nat)),by omega,k _ ((Wk.frzs [34] _).trans (Wk.of ?_ ?_))⟩
 .simp only[go_sem,mO];try simp
 .simp only[go_sem,mO,qH];try simp[go_sem,j7]
  exact cI (by simp)
theorem UG(m:Md)(hm:m.els=[]):RS 254 b (pL b (Iq b) (16:Nat)) (λm l=>{m with els:=l}) m (λfu _=>fu):=by
 intro fu da co pl er;refine aC wk ?_;simp only[go_sem,wk,hm];refine ab (vS hb 16 0 0 (cm _)) ?_;generalize h0:pL b (Iq b) (16:Nat) 0 0=R;generalize hc:pC b 16 0 0=c;obtain⟨N,a0,e0⟩:=c;simp only[go_sem];refine nZ (Iq b) (λl=>vl {m with els:=l}) (zH m fu da co pl er) h0 hc (λa h=>(Nn b a 0 h).1) (Wk.of ?_ ?_) ?_ ?_ ?_
 .simp only[go_sem,mO];try simp[go_sem]
 .simp only[go_sem,mO,hm,qH];try simp[go_sem]
 .intro l a1 e1 h hm1;simp only[go_sem,xR,mO,aL hm1,qH];subst h;exact ay
 .intro m9 l a1 e1 h hm1 he;simp only[go_sem,xR,mO,aK hm1,ei he,qH];subst h;exact ay
 intro m9 l a1 hm1 h1 hw1 hl k;have q1:=mK 34 112 5 (l.map eF) (by rw[bZ];omega) (by decide);have q2:=λys=>bq 34 112 5 l.length eF l ys rfl;simp only[go_sem,xR,mO,aK hm1];refine ab (agd hb a1 0 h1) ?_;generalize Iq b a1 0=y at*;obtain⟨x,a2,e2⟩:=y;simp only at k⊢;simp only[go_sem,eF,q1,q2,hw1];refine⟨(by first|omega|decide|(simp;omega)|exact(0:Nat)),by omega,k _ ((Wk.frzs [34] _).trans (Wk.of ?_ ?_))⟩
 .simp only[go_sem,mO];try simp
 .simp only[go_sem,mO,qH];try simp[go_sem,eF]
  exact cI (by simp)
theorem UF(m:Md)(hm:m.ds=[]):RS 256 b (pL b (Ip b) (16:Nat)) (λm l=>{m with ds:=l}) m (λfu _=>fu):=by
 intro fu da co pl er;refine aC wj ?_;simp only[go_sem,wj,hm];refine ab (vS hb 16 0 0 (cm _)) ?_;generalize h0:pL b (Ip b) (16:Nat) 0 0=R;generalize hc:pC b 16 0 0=c;obtain⟨N,a0,e0⟩:=c;simp only[go_sem];refine nZ (Ip b) (λl=>vl {m with ds:=l}) (zH m fu da co pl er) h0 hc (λa h=>(Nl b a 0 h).1) (Wk.of ?_ ?_) ?_ ?_ ?_
 .simp only[go_sem,mO];try simp[go_sem]
 .simp only[go_sem,mO,hm,qH];try simp[go_sem]
 .intro l a1 e1 h hm1;simp only[go_sem,xR,mO,aL hm1,qH];subst h;exact ay
 .intro m9 l a1 e1 h hm1 he;simp only[go_sem,xR,mO,aK hm1,ei he,qH];subst h;exact ay
 intro m9 l a1 hm1 h1 hw1 hl k;have q1:=mK 34 114 4 (l.map iz) (by rw[bZ];omega) (by decide);have q2:=λys=>bq 34 114 4 l.length iz l ys rfl;simp only[go_sem,xR,mO,aK hm1];refine ab (agc hb a1 0 h1) ?_;generalize Ip b a1 0=y at*;obtain⟨x,a2,e2⟩:=y;simp only at k⊢;simp only[go_sem,iz,q1,q2,hw1];refine⟨(by first|omega|decide|(simp;omega)|exact(0:Nat)),by omega,k _ ((Wk.frzs [34] _).trans (Wk.of ?_ ?_))⟩
 .simp only[go_sem,mO];try simp
 .simp only[go_sem,mO,qH];try simp[go_sem,iz]
  exact cI (by simp)
end
section
def JJ:∀l:List AV,Vz l l
 | []=>trivial
 | _::l=>⟨.inl rfl,JJ l⟩
def FY{x y:List AV}(h:Vz x y):∀l:List (List AV),Pk (l++[x]) (l++[y])
 | []=>⟨h,trivial⟩
 | z::l=>⟨JJ z,FY h l⟩
variable{b:Af}(hb:b.length<1000000000)
include hb
attribute[local go_sem] ro wo wa rx ce zH vl
theorem LY(m:Md)(hm:m.gs=[]):RS 252 b (pL b (Nz b) (32:Nat)) (λm l=>{m with gs:=l}) m (λfu _=>fu):=by
 intro fu da co pl er;refine aC sY ?_;simp only[go_sem,sY,hm];refine ab (vS hb 32 0 0 (cm _)) ?_;generalize h0:pL b (Nz b) (32:Nat) 0 0=R;generalize hc:pC b 32 0 0=c;obtain⟨N,a0,e0⟩:=c;simp only[go_sem];refine nZ (Nz b) (λl=>vl {m with gs:=l}) (zH m fu da co pl er) h0 hc (λa h=>(Nq b a 0 h).1) (Wk.of ?_ ?_) ?_ ?_ ?_
 .simp only[go_sem,mO];try simp[go_sem]
 .simp only[go_sem,mO,hm,qH];try simp[go_sem]
 .intro l a1 e1 h hm1;simp only[go_sem,xR,mO,aL hm1,qH];subst h;exact ay
 .intro m9 l a1 e1 h hm1 he;simp only[go_sem,xR,mO,aK hm1,ei he,qH];subst h;exact ay
 intro m9 l a1 hm1 h1 hw1 hl k;have q1:=mK 41 109 3 (l.map wF) (by rw[bZ];omega) (by decide);have q2:=λys=>bq 41 109 3 l.length wF l ys rfl;have hI:Nz b a1 0=Nz b a1 0:=rfl
 conv at hI=>rhs;simp only[Nz,pb,pP]
 generalize Nz b a1 0=J at*;simp only[go_sem,xR,mO,aK hm1];refine ab (Z9 hb a1 0 h1) ?_;have h5:=((Cc b).oks nA a1 0 h1).1;generalize dF (CV b) nA a1 0=y at*;obtain⟨x1,a3,e3⟩:=y;simp only at h5 hI⊢;simp only[go_sem,zU,Ek];refine ab (LW hb a3 e3 h5) ?_;generalize dF (gX b) [] a3 e3=y at*;obtain⟨x2,a2,e2⟩:=y;subst hI;obtain⟨x,hx⟩:∃x:Gd,x =⟨x1,x2⟩:=⟨_,rfl⟩
 simp only[<-hx]at k⊢;simp only[go_sem,exs,q1,q2,hw1];refine⟨(by first|omega|decide|(simp;omega)|exact(0:Nat)),by omega,k _ ((Wk.frzs [41] _).trans (Wk.of ?_ ?_))⟩
 .simp only[go_sem,mO];try simp
 .subst hx;simp only[go_sem,mO,qH];try simp[go_sem,wF]
  exact cI (by simp)
theorem LX(m:Md)(hm:m.exs=[]):RS 253 b (pL b (Kz b) (64:Nat)) (λm l=>{m with exs:=l}) m (λfu _=>fu):=by
 intro fu da co pl er;refine aC sU ?_;simp only[go_sem,sU,hm];refine ab (vS hb 64 0 0 (cm _)) ?_;generalize h0:pL b (Kz b) (64:Nat) 0 0=R;generalize hc:pC b 64 0 0=c;obtain⟨N,a0,e0⟩:=c;simp only[go_sem];refine nZ (Kz b) (λl=>vl {m with exs:=l}) (zH m fu da co pl er) h0 hc (λa h=>(Np b a 0 h).1) (Wk.of ?_ ?_) ?_ ?_ ?_
 .simp only[go_sem,mO];try simp[go_sem]
 .simp only[go_sem,mO,hm,qH];try simp[go_sem]
 .intro l a1 e1 h hm1;simp only[go_sem,xR,mO,aL hm1,qH];subst h;exact ay
 .intro m9 l a1 e1 h hm1 he;simp only[go_sem,xR,mO,aK hm1,ei he,qH];subst h;exact ay
 intro m9 l a1 hm1 h1 hw1 hl k;have q1:=mK 52 148 3 (l.map vx) (by rw[bZ];omega) (by decide);have q2:=λys=>bq 52 148 3 l.length vx l ys rfl;have hI:Kz b a1 0=Kz b a1 0:=rfl
 conv at hI=>rhs;simp only[Kz,Ch,pb,pP,pI,pF]
 generalize Kz b a1 0=J at*;simp only[go_sem,xR,mO,aK hm1];refine ab (UD hb a1 0 h1) ?_;have h5:=(yK (b:=b) a1 0 h1).1;generalize Ps b a1 0=y at*;obtain⟨x1,a3,e3⟩:=y;simp only at h5 hI⊢;simp only[go_sem];refine ab (Cl hb a3 e3 h5) ?_;have h6:=(xE (b:=b) a3 e3 h5).1;generalize cT b a3 e3=y at*;obtain⟨x2,a4,e4⟩:=y;simp only at h6 hI⊢;have w:=wi (n:=(x2.toNat:Int)) (by omega) (by have:=UInt8.toNat_lt x2;omega);have h8:∃e5,(if x2>3 then(if e4=0 then(4:Int)else e4)else e4)=e5:=⟨_,rfl⟩
 obtain⟨e5,h8⟩:=h8;have hI2:J=((⟨x1,(x2.toNat:Int),(kv b a4 e5).1⟩:Ex),(kv b a4 e5).2.1,(kv b a4 e5).2.2):=by
  rw[hI,<-h8];by_cases hx3:x2>3
  .simp only[au hx3]
  .simp only[ak hx3]
 cases hx3:decide (x2>3)
 all_goals
  have hd:=adA x2;rw[hx3]at hd;simp only[go_sem,hd]
  try
   refine ab (xH b a4 e4 4) ?_;simp only[go_sem]
  simp only[gj,decide_eq_false_iff_not]at hx3
  first|rw[au hx3]at h8|rw[ak hx3]at h8
  try rw[h8]
  try subst h8
  refine ab (BX hb a4 _ h6) ?_;generalize kv b a4 _=y at*;obtain⟨x4,a2,e2⟩:=y;simp only at hI2;subst hI2;obtain⟨x,hx⟩:∃x:Ex,x =⟨x1,(x2.toNat:Int),x4⟩:=⟨_,rfl⟩
  simp only[<-hx]at k⊢;simp only[go_sem,w,q1,q2,hw1];refine⟨by omega,k _ ((Wk.frzs [52] _).trans (Wk.of ?_ ?_))⟩
  .simp only[go_sem,mO];try simp
  .subst hx;simp only[go_sem,mO,qH];try simp[go_sem,vx]
   exact cI (by simp)
theorem UH(m:Md)(hm:m.fs=[]):RS 249 b (pL b (Eo b) (64:Nat)) (λm l=>{m with fs:=l}) m (λ_ _=>((pC b 64 0 0).1:Nat)):=by
 intro fu da co pl er;refine aC wl ?_;simp only[go_sem,wl,hm];refine ab (vS hb 64 0 0 (cm _)) ?_;generalize h0:pL b (Eo b) (64:Nat) 0 0=R;generalize hc:pC b 64 0 0=c;obtain⟨N,a0,e0⟩:=c;simp only[go_sem];refine nZ (Eo b) (λl=>vl {m with fs:=l}) (zH m fu da co pl er) h0 hc (λa h=>(TO b a 0 h).1) (Wk.of ?_ ?_) ?_ ?_ ?_
 .simp only[go_sem,mO];try simp[go_sem]
 .simp only[go_sem,mO,hm,qH];try simp[go_sem]
 .intro l a1 e1 h hm1;simp only[go_sem,xR,mO,aL hm1,qH];subst h;exact ay
 .intro m9 l a1 e1 h hm1 he;simp only[go_sem,xR,mO,aK hm1,ei he,qH];subst h;exact ay
 intro m9 l a1 hm1 h1 hw1 hl k;have q1:=mK 34 61 3 (l.map kM) (by rw[bZ];omega) (by decide);have q2:=λys=>bq 34 61 3 l.length kM l ys rfl;have hI:Eo b a1 0=Eo b a1 0:=rfl
 conv at hI=>rhs;simp only[Eo,pb,pP]
 generalize Eo b a1 0=J at*;simp only[go_sem,xR,mO,aK hm1];refine ab (BX hb a1 0 h1) ?_;generalize kv b a1 0=y at*;obtain⟨x1,a2,e2⟩:=y;subst hI;simp only at k⊢;obtain⟨x,hx⟩:∃x:Cd,x =⟨(x1:Int),[],[]⟩:=⟨_,rfl⟩
 simp only[<-hx]at k⊢;simp only[go_sem,q1,q2,hw1];refine⟨by omega,k _ (((Wk.nla _ 34 (rs':=(l++[x]).map kM) (by rfl) (by rw[hx,oz];exact FY (x:=[.int .i64 (x1:Nat),.nl,.nl]) (y:=kM ⟨(x1:Nat),[],[]⟩) ⟨.inl rfl,.inr ⟨rfl,1,rfl⟩,.inr ⟨rfl,9,rfl⟩,trivial⟩ _)).trans (Wk.frzs [34] _)).trans (Wk.of ?_ ?_))⟩
 .simp only[go_sem,mO];try simp
 .subst hx;simp only[go_sem,mO,qH];try simp[go_sem,kM]
  try exact cI (by simp)
end
def JF(op:Int):Bool:=op==2||op==3||op==4
def BV(l:List Int)(i:Nat)(op:Int):List Int:=if JF op then l++[(i:Int)]else if op==11 then l.dropLast else l
def bE(B:List be):Nat->List Int
 | 0=>[-1]
 | i+1=>BV (bE B i) i (ac B i).op
def Ah(B:List be)(i:Nat):Int:=ac (bE B i) ((bE B i).length-1)
def BU(B:List be)(h:Int)(i:Nat):Bool:=(List.range i).any λj=>decide (h<j)&&(ac B j).op==5&&decide (0<(bE B j).length)&&Ah B j==h
def dZ(B:List be)(i:Nat):Bool:=(ac B i).op==5&&(decide (Ah B i<0)||(ac B (Ah B i).toNat).op != 4||BU B (Ah B i) i)
def ga(B:List be)(i:Nat):Int:=if(bE B i).length=0 then 16 else if dZ B i then 16 else if JF (ac B i).op&&decide (32<=(bE B i).length)then 6 else 0
def Bi(B:List be):Nat->Nat->Int×Int
 | _,0=>if 0<(bE B B.length).length then(B.length,3)else(0,0)
 | i,k+1=>if ga B i≠0 then(i,ga B i)else Bi B (i+1) k
def nchk(B:List be):Int×Int:=Bi B 0 B.length
def JK(B:List be):∀i,(bE B i).length<=i+1
 | 0=>by simp[bE]
 | i+1=>by
  have:=JK B i;simp only[bE,BV];split
  .simp;omega
  .split
   .simp;omega
   .omega
def EY{l:List Int}{k:Nat}(h:k<l.length-1):ac l.dropLast k=ac l k:=by
 rw[List.dropLast_eq_take,JM h]
def xD(B:List be):∀(i:Nat),(∀j,j<i->0<(bE B j).length)->∀k,k<(bE B i).length->(k=0/\ac (bE B i) k = -1)\/(0<k/\∃j:Nat,ac (bE B i) k=j/\j<i/\bE B j=(bE B i).take k/\JF (ac B j).op=true)
 | 0,_,k,hk=>by
  simp only[bE,dK]at hk⊢;have:k=0:=by omega
  subst this;exact .inl ⟨rfl,rfl⟩
 | i+1,hne,k,hk=>by
  have ih:=xD B i (λj hj=>hne j (by omega)) k;have h0:=hne i (by omega);simp only[bE]at hk⊢;unfold BV at hk⊢;by_cases hb:JF (ac B i).op
  .rw[au hb]at hk⊢;simp only[cP,dK]at hk;by_cases h2:k<(bE B i).length
   .rw[F1 h2,List.take_append_of_le_length (by omega)];rcases ih h2 with h|⟨h3,j,h4,h5,h6,h7⟩
    .exact .inl h
    .exact .inr ⟨h3,j,h4,by omega,h6,h7⟩
   .have hk2:k=(bE B i).length:=by omega
    subst hk2;exact .inr ⟨h0,i,Bn,by omega,by simp,hb⟩
  .rw[ak hb]at hk⊢;by_cases h11:((ac B i).op==11)=true
   .rw[au h11]at hk⊢;simp only[List.length_dropLast]at hk;rw[EY hk,List.dropLast_eq_take,List.take_take,B4 (by omega)];rcases ih (by omega)with h|⟨h3,j,h4,h5,h6,h7⟩
    .exact .inl h
    .exact .inr ⟨h3,j,h4,by omega,h6,h7⟩
   .rw[ak h11]at hk⊢;rcases ih hk with h|⟨h3,j,h4,h5,h6,h7⟩
    .exact .inl h
    .exact .inr ⟨h3,j,h4,by omega,h6,h7⟩
def FW{B:List be}{i:Nat}(hne:∀j,j<i->0<(bE B j).length)(h0:0<(bE B i).length) :
  ((bE B i).length=1/\Ah B i = -1)\/(1<(bE B i).length/\∃j:Nat,Ah B i=j/\j<i/\bE B j=(bE B i).take ((bE B i).length-1)/\JF (ac B j).op=true):=by
 rcases xD B i hne ((bE B i).length-1) (by omega)with⟨h1,h2⟩|⟨h1,h2⟩
 .exact .inl ⟨by omega,h2⟩
 .exact .inr ⟨by omega,h2⟩
def Lu{B:List be}{i:Nat}(hne:∀j,j<i->0<(bE B j).length)(h0:0<(bE B i).length):-1<=Ah B i/\Ah B i<i:=by
 rcases FW hne h0 with⟨_,h⟩|⟨_,j,h,h2,_⟩<;>omega
def XN{B:List be}{i:Nat}(h:ga B i=0):0<(bE B i).length:=by
 unfold ga at h;split at h
 .cases h
 .omega
def Ts{B:List be}{i:Nat}(h:ga B i=0):dZ B i=false/\(JF (ac B i).op&&decide (32<=(bE B i).length))=false:=by
 unfold ga at h;split at h
 .cases h
 split at h
 .cases h
 split at h
 .cases h
 .rename_i h1 h2 h3;exact⟨by simpa using h2,by simpa using h3⟩
def Lp{B:List be}{i k:Nat}(h:ga B i=0):Bi B i (k+1)=Bi B (i+1) k:=by simp[Bi,h]
def Lq{B:List be}{i k:Nat}(h:ga B i≠0):Bi B i (k+1)=((i:Int),ga B i):=by simp[Bi,h]
def FV{B:List be}{i:Nat}(hi:i<=B.length)(h:∀j,j<i->ga B j=0):nchk B=Bi B i (B.length-i):=by
 induction i with
 | zero=>rfl
 | succ i ih =>
  rw[ih (by omega) (λj hj=>h j (by omega)),show B.length-i=(B.length-(i+1))+1 by omega,Lp (h i (by omega))]
def Hs{B:List be}{i:Nat}(hi:i<B.length)(h:∀j,j<i->ga B j=0)(he:ga B i≠0):nchk B=((i:Int),ga B i):=by
 rw[FV (by omega) h,show B.length-i=(B.length-(i+1))+1 by omega,Lq he]
def JG{B:List be}(h:∀j,j<B.length->ga B j=0):nchk B=if 0<(bE B B.length).length then((B.length:Int),3)else(0,0):=by
 rw[FV (a_ _) h,tz];rfl
def Lr(B:List be):(∃i,i<B.length/\(∀j,j<i->ga B j=0)/\ga B i≠0)\/∀j,j<B.length->ga B j=0:=by
 have:∀n,n<=B.length->(∃i,i<n/\(∀j,j<i->ga B j=0)/\ga B i≠0)\/∀j,j<n->ga B j=0:=λn=>by
  induction n with
  | zero=>exact λ_=>.inr λj hj=>absurd hj (Nat.not_lt_zero _)
  | succ n ih =>
   intro hn;rcases ih (by omega)with⟨i,h1,h2⟩|h
   .exact .inl ⟨i,by omega,h2⟩
   .by_cases he:ga B n=0
    .refine .inr λj hj=>?_;rcases Nat.lt_or_eq_of_le (Nat.le_of_lt_succ hj)with h1|h1
     .exact h j h1
     .rw[h1];exact he
    .exact .inl ⟨n,by omega,h,he⟩
 rcases this _ (a_ _)with⟨i,h1,h2⟩|h
 .exact .inl ⟨i,h1,h2⟩
 .exact .inr h
def Bl(B:List be):Prop:=(∀j,j<B.length->ga B j=0)/\bE B B.length=[]
def Pj(B:List be):(nchk B).2=0↔Bl B:=by
 rcases Lr B with⟨i,h1,h2,h3⟩|h
 .rw[Hs h1 h2 h3];exact⟨λhh=>absurd hh h3,λhg=>absurd (hg.1 i h1) h3⟩
 .rw[JG h];by_cases hl:0<(bE B B.length).length
  .rw[au hl];refine⟨λhh=>(by cases hh),λhg=>?_⟩;rw[hg.2]at hl;cases hl
  .rw[ak hl];exact⟨λ_=>⟨h,B0 (by omega)⟩,λ_=>rfl⟩
def F4(x:be):Bool:=vp (qx x.op) (vQ x.op) x
def ago(x:be)(h:VC x):aj pg 187 [bn x] (.bool (F4 x)):=by
 obtain⟨h1,h2,h3⟩:=h;obtain⟨t1,_,t3,_⟩:=Gn x.op;have c:=Kb x (qx x.op) (nW x.op) t3 (by omega);rw[t1,Z1 (qx x.op) (nW x.op) (vQ x.op) x h3]at c;exact c
