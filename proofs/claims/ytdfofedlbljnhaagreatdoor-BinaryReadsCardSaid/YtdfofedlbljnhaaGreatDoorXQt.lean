import Derived.Test.YtdfofedlbljnhaaGreatDoorXQs
set_option linter.all false
set_option maxRecDepth 100000
set_option maxHeartbeats 40000000
namespace Go.Proofs.YtdfofedlbljnhaaGreatDoor
section
open Go Go.Mw
def acn{x:be}(h:PL x=true)(hb:x.lb.length<=64)(l:Af):xF x l 0=(l++BA x,0):=by
 unfold xF;rw[au h,ak (by omega)];rfl
def agY{x:be}(h:PL x=true)(hb:x.lb.length<=64)(hn:0<=x.n):WX 193 [bn x] (BA x):=λl hl=>by
 have c:=agp (l:=l) (e:=0) (by have:=IK x;omega) x hn (by omega);rw[acn h hb]at c;exact c
attribute[local go_sem] bZ wo wa dw ce az
def Kq{L:List be}(ho:Qc L)(hl:L.length<=9223372036854775807):WX 103 [.sl 9 (L.map az)] (j5 L):=by
 intro w hw;unfold j5 at hw⊢;refine bA qJ ?_;simp only[go_sem,qJ];refine aq (λi:Nat=>⟨[(8,.int .i64 i),(7,.int .i64 L.length),(6,.sl 9 (L.map az)),(0,.mp 1000 3 0 0)],[(1000,wo 2000 true (w++(L.take i).flatMap BA) 0),(2000,wa (w++(L.take i).flatMap BA))]⟩) (λi=>i<=L.length) (λi=>L.length-i) 0 (cm _) (Wk.of ?_ ?_) ?_
 .simp only[go_sem];try simp
 .simp only[go_sem,rI,List.flatMap_nil,m_];try simp[go_sem]
 intro i hi2;by_cases h1:(i:Int)<(L.length:Int);rotate_left
 .obtain rfl:i=L.length:=by omega
  simp only[go_sem,aL h1];rw[pJ];exact cX (λ_ h=>by cases h) rfl (by rfl) (by rfl) (by simp[])
 have hi':i<L.length:=by omega
 have e8:=ey hi' (by omega);have ht:=yj (f:=BA) hi';obtain⟨b1,b2,b3,b4⟩:=eV ho hi';have c:=agY b1 b2 b3;simp only[dw]at c;simp only[go_sem,aK h1];refine⟨by omega,h1,?_⟩;refine aH (c) rfl ?_;simp only[go_sem];refine aF (i+1) (show i+1<=L.length by omega) (show L.length-(i+1)<L.length-i by omega) (Wk.of ?_ ?_)
 .simp only[go_sem,e8];try simp
 .simp only[go_sem,vi hi'];try simp[go_sem,wo,wa]
def aag{k:Int}(h:0<=k/\k<=3):IntKind.u8.wrap k=(((UInt8.ofNat k.toNat).toNat:Nat):Int):=by
 rw[rH,UInt8.toNat_ofNat'];omega
def agV{x:Im}(h:M1 x=0):WX 92 [.agg (pw x)] (wC x):=by
 intro l hl;obtain⟨h1,h2,h3,_,h5,h6,h7,h8⟩:=ZL h;refine bA du ?_;have cb:=VE (UInt8.ofNat x.k.toNat);rw[<-aag h3]at cb;unfold wC at hl⊢;rcases(show x.k=0\/x.k=1\/x.k=2\/x.k=3 by omega)with q|q|q|q
 .rw[q]at hl cb⊢;simp only[cP,i0,cj,aN]at hl⊢;simp only[go_sem,du,dg,q];refine aH (sA h1) rfl ?_;simp only[go_sem];refine aH (sA h2) rfl ?_;simp only[go_sem];refine aH (cb) rfl ?_;simp only[go_sem];refine aH (VF (ji.1 (h5 q))) rfl ?_;simp only[go_sem];exact cX (λ_ h=>by cases h) rfl (by rfl) (by rfl) (by simp[])
 .rw[q]at hl cb⊢;simp only[cP,i0,cj,Int.reduceEq,aN,bB]at hl⊢;have c:=aal (h6 q);rw[dA]at c;simp only[go_sem,du,dg,q];refine aH (sA h1) rfl ?_;simp only[go_sem];refine aH (sA h2) rfl ?_;simp only[go_sem];refine aH (cb) rfl ?_;simp only[go_sem];refine aH (c) rfl ?_;simp only[go_sem];exact cX (λ_ h=>by cases h) rfl (by rfl) (by rfl) (by simp[])
 .rw[q]at hl cb⊢;simp only[cP,i0,cj,Int.reduceEq,aN,bB]at hl⊢;have c:=Vr (Nf (h7 q));rw[dc]at c;simp only[go_sem,du,dg,q];refine aH (sA h1) rfl ?_;simp only[go_sem];refine aH (sA h2) rfl ?_;simp only[go_sem];refine aH (cb) rfl ?_;simp only[go_sem];refine aH (c) rfl ?_;simp only[go_sem];exact cX (λ_ h=>by cases h) rfl (by rfl) (by rfl) (by simp[])
 .rw[q]at hl cb⊢;simp only[cP,i0,cj,Int.reduceEq,aN,bB]at hl⊢;have c:=aak (aeZ (h8 q));simp only[Ek]at c;simp only[go_sem,du,dg,q];refine aH (sA h1) rfl ?_;simp only[go_sem];refine aH (sA h2) rfl ?_;simp only[go_sem];refine aH (cb) rfl ?_;simp only[go_sem];refine aH (c) rfl ?_;simp only[go_sem];exact cX (λ_ h=>by cases h) rfl (by rfl) (by rfl) (by simp[])
def ag1{x:Cd}(h:tC x.t=true):WX 94 [.agg (kM x)] (aD x.t.toNat):=by
 intro l hl;refine bA ju ?_;simp only[go_sem,ju,df];refine aH (VF (ji.1 h)) rfl ?_;simp only[go_sem];exact cX (λ_ h=>by cases h) rfl (by rfl) (by rfl) (by simp[])
def adO{x:Gd}(h1:qh x.g.v=true)(h2:Qc x.i)(h3:x.i.length<=2048):WX 101 [.agg (wF x)] (wA x):=by
 intro l hl;refine bA jv ?_;have c:=aak h1;simp only[Ek]at c;unfold wA at hl⊢;rw[cP]at hl;simp only[go_sem,jv,s8];refine aH (c) rfl ?_;simp only[go_sem];refine aH (Kq h2 (by omega)) rfl ?_;simp only[go_sem];exact cX (λ_ h=>by cases h) rfl (by rfl) (by rfl) (by simp[])
def agT{x:Ex}(h:MN x=0):WX 105 [.agg (vx x)] (wy x):=by
 intro l hl;obtain⟨h1,h2,h3⟩:=ZC h;refine bA jw ?_;have cb:=VE (UInt8.ofNat x.k.toNat);rw[<-aag h2]at cb;unfold wy at hl⊢;simp only[cP,i0,cj]at hl;simp only[go_sem,jw,fR];refine aH (sA h1) rfl ?_;simp only[go_sem];refine aH (cb) rfl ?_;simp only[go_sem];refine aH (VF (ji.1 h3)) rfl ?_;simp only[go_sem];exact cX (λ_ h=>by cases h) rfl (by rfl) (by rfl) (by simp[])
def adM{x:Da}(h:Lv F4 x)(hn:JP x.o):WX 112 [.agg (iz x)] (wv x):=by
 intro l hl;obtain⟨h4,h5,h6,h7⟩:=Zz h;obtain⟨j1,j2⟩:=yJ h7 hn;have hr:=ji.1 h5;refine bA fC ?_;have cu:=Vq x.b.length (by omega);have cb:=ai9 x.b;have ca:=Kq j1 (by omega);have x0:WX 95 [.int .i64 0] (aD 0):=Vq 0 (by decide);have x1:WX 95 [.int .i64 1] (aD 1):=Vq 1 (by decide);have x2:WX 95 [.int .i64 2] (aD 2):=Vq 2 (by decide);unfold wv at hl⊢;rcases h4 with q|⟨q,q2,q3⟩
 .by_cases q2:x.me=0
  .rw[ak (by omega),au q2]at hl⊢;simp only[cP]at hl;simp only[go_sem,fC,fQ,q,q2];refine aH (x0) rfl ?_;simp only[go_sem];refine aH (ca) rfl ?_;simp only[go_sem];refine aH (cu) rfl ?_;simp only[go_sem];refine aH (cb) rfl ?_;simp only[go_sem];exact cX (λ_ h=>by cases h) rfl (by rfl) (by rfl) (by simp[])
  .rw[ak (by omega),ak q2]at hl⊢;simp only[cP]at hl;simp only[go_sem,fC,fQ,q,aA q2];refine aH (x2) rfl ?_;simp only[go_sem];refine aH (VF hr) rfl ?_;simp only[go_sem];refine aH (ca) rfl ?_;simp only[go_sem];refine aH (cu) rfl ?_;simp only[go_sem];refine aH (cb) rfl ?_;simp only[go_sem];exact cX (λ_ h=>by cases h) rfl (by rfl) (by rfl) (by simp[])
 .rw[au q]at hl⊢;simp only[cP]at hl;simp only[go_sem,fC,fQ,q];refine aH (x1) rfl ?_;simp only[go_sem];refine aH (cu) rfl ?_;simp only[go_sem];refine aH (cb) rfl ?_;simp only[go_sem];exact cX (λ_ h=>by cases h) rfl (by rfl) (by rfl) (by simp[])
end
section
open Go Go.Mw
attribute[local go_sem] bZ wo wa dw ce az iG
def yr(l:List be):aj pg 274 [.sl 9 (l.map az)] (.bool (C7 l)):=by
 refine aC jP ?_;unfold C7;by_cases q1:l.length=2;rotate_left
 .rw[fK.2 q1];simp only[go_sem,jP,aA (show(l.length:Int)≠2 by omega),qC];exact an
 rw[q1];by_cases q2:(ac l 0).op=210;rotate_left
 .rw[aA q2];simp only[go_sem,jP,dt (show(l.length:Int)=2 by omega),aA q2,qC,Bool.and_false];refine⟨by omega,by omega,?_⟩;exact an
 rw[dt q2];simp only[go_sem,jP,dt (show(l.length:Int)=2 by omega),dt q2];refine⟨by omega,by omega,by omega,by omega,?_⟩;cases (ac l 1).op==11
 .exact an
 .exact an
def or4{n:Int}(h:0<=n/\n<=3):qT .i64 n 4=n+4:=by
 rcases(show n=0\/n=1\/n=2\/n=3 by omega)with rfl|rfl|rfl|rfl<;>rfl
def s7(x:El)(i:Nat):Bool:=(x.ty != 3)||(x.it.take i).any (λl=>!C7 l)
def IR{x:El}{i:Nat}(h:i<x.it.length):s7 x (i+1)=(s7 x i || !C7 (ac x.it i)):=by
 unfold s7;rw[D_ h,List.any_append,Bool.or_assoc];simp
def XE{x:El}(hm:0<=x.mo/\x.mo<=2)(hl:x.it.length<=256):aj pg 195 [.agg (eF x)] (.int .i64 (gJ x:Nat)):=by
 refine aC dp ?_;by_cases m1:x.mo=1
 .obtain⟨bs,hbs,hf⟩:∃bs:Nat,bs=1/\gJ x=(if jz x=true then 4 else 0)+bs:=⟨1,rfl,by unfold gJ;rw[au m1]⟩
  have hb:0<=(bs:Int)/\(bs:Int)<=3:=by omega
  simp only[go_sem,dp,eX,dt m1];refine aq (λi:Nat=>⟨[(30,.int .i64 i),(29,.int .i64 x.it.length),(28,.sl 1 (x.it.map lQ)),(4,.bool (s7 x i)),(3,.int .i64 bs)],[]⟩) (λi=>i<=x.it.length) (λi=>x.it.length-i) 0 (cm _) (Wk.of ?_ ?_) ?_
  .subst hbs;simp only[go_sem];first|done|(simp[s7];done)|(simp[s7];assumption)
  .simp only[go_sem]
  intro i hi2;by_cases q1:(i:Int)<(x.it.length:Int);rotate_left
  .obtain rfl:i=x.it.length:=by omega
   have he:s7 x x.it.length=jz x:=by unfold s7 jz;rw[pJ]
   rw[hf,<-he];cases s7 x x.it.length
   .simp only[go_sem,aL q1];exact aB [] (by simp only[go_sem];try simp) rfl
   .simp only[go_sem,aL q1,or4 hb];exact aB [] (by simp only[go_sem];try simp[Int.add_comm]) rfl
  have hi':i<x.it.length:=by omega
  have e8:=ey hi' (by omega);have hn:=IR hi';have c:=yr (ac x.it i);cases hx:s7 x i
  .rw[hx,eH]at hn;simp only[go_sem,aK q1,hx];refine⟨by omega,q1,?_⟩;refine aa (c) ?_;refine aF (i+1) (show i+1<=x.it.length by omega) (show x.it.length-(i+1)<x.it.length-i by omega) (Wk.of ?_ ?_)
   .simp only[go_sem,e8,hn];try simp
   .simp only[go_sem]
  .rw[hx,eC]at hn;simp only[go_sem,aK q1,hx];refine⟨by omega,q1,?_⟩;refine aF (i+1) (show i+1<=x.it.length by omega) (show x.it.length-(i+1)<x.it.length-i by omega) (Wk.of ?_ ?_)
   .simp only[go_sem,e8,hn];try simp
   .simp only[go_sem]
 by_cases m2:x.mo=2
 .obtain⟨bs,hbs,hf⟩:∃bs:Nat,bs=3/\gJ x=(if jz x=true then 4 else 0)+bs:=⟨3,rfl,by unfold gJ;rw[ak m1,au m2]⟩
  have hb:0<=(bs:Int)/\(bs:Int)<=3:=by omega
  simp only[go_sem,dp,eX,aA m1,dt m2];refine aq (λi:Nat=>⟨[(30,.int .i64 i),(29,.int .i64 x.it.length),(28,.sl 1 (x.it.map lQ)),(4,.bool (s7 x i)),(3,.int .i64 bs)],[]⟩) (λi=>i<=x.it.length) (λi=>x.it.length-i) 0 (cm _) (Wk.of ?_ ?_) ?_
  .subst hbs;simp only[go_sem];first|done|(simp[s7];done)|(simp[s7];assumption)
  .simp only[go_sem]
  intro i hi2;by_cases q1:(i:Int)<(x.it.length:Int);rotate_left
  .obtain rfl:i=x.it.length:=by omega
   have he:s7 x x.it.length=jz x:=by unfold s7 jz;rw[pJ]
   rw[hf,<-he];cases s7 x x.it.length
   .simp only[go_sem,aL q1];exact aB [] (by simp only[go_sem];try simp) rfl
   .simp only[go_sem,aL q1,or4 hb];exact aB [] (by simp only[go_sem];try simp[Int.add_comm]) rfl
  have hi':i<x.it.length:=by omega
  have e8:=ey hi' (by omega);have hn:=IR hi';have c:=yr (ac x.it i);cases hx:s7 x i
  .rw[hx,eH]at hn;simp only[go_sem,aK q1,hx];refine⟨by omega,q1,?_⟩;refine aa (c) ?_;refine aF (i+1) (show i+1<=x.it.length by omega) (show x.it.length-(i+1)<x.it.length-i by omega) (Wk.of ?_ ?_)
   .simp only[go_sem,e8,hn];try simp
   .simp only[go_sem]
  .rw[hx,eC]at hn;simp only[go_sem,aK q1,hx];refine⟨by omega,q1,?_⟩;refine aF (i+1) (show i+1<=x.it.length by omega) (show x.it.length-(i+1)<x.it.length-i by omega) (Wk.of ?_ ?_)
   .simp only[go_sem,e8,hn];try simp
   .simp only[go_sem]
 by_cases m3:x.tb=0;rotate_left
 .obtain⟨bs,hbs,hf⟩:∃bs:Nat,bs=2/\gJ x=(if jz x=true then 4 else 0)+bs:=⟨2,rfl,by unfold gJ;rw[ak m1,ak m2,au (show x.tb≠0\/x.ty≠3 from .inl m3)]⟩
  have hb:0<=(bs:Int)/\(bs:Int)<=3:=by omega
  simp only[go_sem,dp,eX,aA m1,aA m2,bj m3];refine aq (λi:Nat=>⟨[(30,.int .i64 i),(29,.int .i64 x.it.length),(28,.sl 1 (x.it.map lQ)),(4,.bool (s7 x i)),(3,.int .i64 bs)],[]⟩) (λi=>i<=x.it.length) (λi=>x.it.length-i) 0 (cm _) (Wk.of ?_ ?_) ?_
  .subst hbs;simp only[go_sem];first|done|(simp[s7];done)|(simp[s7];assumption)
  .simp only[go_sem]
  intro i hi2;by_cases q1:(i:Int)<(x.it.length:Int);rotate_left
  .obtain rfl:i=x.it.length:=by omega
   have he:s7 x x.it.length=jz x:=by unfold s7 jz;rw[pJ]
   rw[hf,<-he];cases s7 x x.it.length
   .simp only[go_sem,aL q1];exact aB [] (by simp only[go_sem];try simp) rfl
   .simp only[go_sem,aL q1,or4 hb];exact aB [] (by simp only[go_sem];try simp[Int.add_comm]) rfl
  have hi':i<x.it.length:=by omega
  have e8:=ey hi' (by omega);have hn:=IR hi';have c:=yr (ac x.it i);cases hx:s7 x i
  .rw[hx,eH]at hn;simp only[go_sem,aK q1,hx];refine⟨by omega,q1,?_⟩;refine aa (c) ?_;refine aF (i+1) (show i+1<=x.it.length by omega) (show x.it.length-(i+1)<x.it.length-i by omega) (Wk.of ?_ ?_)
   .simp only[go_sem,e8,hn];try simp
   .simp only[go_sem]
  .rw[hx,eC]at hn;simp only[go_sem,aK q1,hx];refine⟨by omega,q1,?_⟩;refine aF (i+1) (show i+1<=x.it.length by omega) (show x.it.length-(i+1)<x.it.length-i by omega) (Wk.of ?_ ?_)
   .simp only[go_sem,e8,hn];try simp
   .simp only[go_sem]
 by_cases m4:x.ty=3;rotate_left
 .obtain⟨bs,hbs,hf⟩:∃bs:Nat,bs=2/\gJ x=(if jz x=true then 4 else 0)+bs:=⟨2,rfl,by unfold gJ;rw[ak m1,ak m2,au (show x.tb≠0\/x.ty≠3 from .inr m4)]⟩
  have hb:0<=(bs:Int)/\(bs:Int)<=3:=by omega
  simp only[go_sem,dp,eX,aA m1,aA m2,aI m3,bj m4];refine aq (λi:Nat=>⟨[(30,.int .i64 i),(29,.int .i64 x.it.length),(28,.sl 1 (x.it.map lQ)),(4,.bool (s7 x i)),(3,.int .i64 bs)],[]⟩) (λi=>i<=x.it.length) (λi=>x.it.length-i) 0 (cm _) (Wk.of ?_ ?_) ?_
  .subst hbs;simp only[go_sem];first|done|(simp[s7];done)|(simp[s7];assumption)
  .simp only[go_sem]
  intro i hi2;by_cases q1:(i:Int)<(x.it.length:Int);rotate_left
  .obtain rfl:i=x.it.length:=by omega
   have he:s7 x x.it.length=jz x:=by unfold s7 jz;rw[pJ]
   rw[hf,<-he];cases s7 x x.it.length
   .simp only[go_sem,aL q1];exact aB [] (by simp only[go_sem];try simp) rfl
   .simp only[go_sem,aL q1,or4 hb];exact aB [] (by simp only[go_sem];try simp[Int.add_comm]) rfl
  have hi':i<x.it.length:=by omega
  have e8:=ey hi' (by omega);have hn:=IR hi';have c:=yr (ac x.it i);cases hx:s7 x i
  .rw[hx,eH]at hn;simp only[go_sem,aK q1,hx];refine⟨by omega,q1,?_⟩;refine aa (c) ?_;refine aF (i+1) (show i+1<=x.it.length by omega) (show x.it.length-(i+1)<x.it.length-i by omega) (Wk.of ?_ ?_)
   .simp only[go_sem,e8,hn];try simp
   .simp only[go_sem]
  .rw[hx,eC]at hn;simp only[go_sem,aK q1,hx];refine⟨by omega,q1,?_⟩;refine aF (i+1) (show i+1<=x.it.length by omega) (show x.it.length-(i+1)<x.it.length-i by omega) (Wk.of ?_ ?_)
   .simp only[go_sem,e8,hn];try simp
   .simp only[go_sem]
 .obtain⟨bs,hbs,hf⟩:∃bs:Nat,bs=0/\gJ x=(if jz x=true then 4 else 0)+bs:=⟨0,rfl,by unfold gJ;rw[ak m1,ak m2,ak (show ¬(x.tb≠0\/x.ty≠3)by simp[m3,m4])]⟩
  have hb:0<=(bs:Int)/\(bs:Int)<=3:=by omega
  simp only[go_sem,dp,eX,aA m1,aA m2,aI m3,aI m4];refine aq (λi:Nat=>⟨[(30,.int .i64 i),(29,.int .i64 x.it.length),(28,.sl 1 (x.it.map lQ)),(4,.bool (s7 x i)),(3,.int .i64 bs)],[]⟩) (λi=>i<=x.it.length) (λi=>x.it.length-i) 0 (cm _) (Wk.of ?_ ?_) ?_
  .subst hbs;simp only[go_sem];first|done|(simp[s7];done)|(simp[s7];assumption)
  .simp only[go_sem]
  intro i hi2;by_cases q1:(i:Int)<(x.it.length:Int);rotate_left
  .obtain rfl:i=x.it.length:=by omega
   have he:s7 x x.it.length=jz x:=by unfold s7 jz;rw[pJ]
   rw[hf,<-he];cases s7 x x.it.length
   .simp only[go_sem,aL q1];exact aB [] (by simp only[go_sem];try simp) rfl
   .simp only[go_sem,aL q1,or4 hb];exact aB [] (by simp only[go_sem];try simp[Int.add_comm]) rfl
  have hi':i<x.it.length:=by omega
  have e8:=ey hi' (by omega);have hn:=IR hi';have c:=yr (ac x.it i);cases hx:s7 x i
  .rw[hx,eH]at hn;simp only[go_sem,aK q1,hx];refine⟨by omega,q1,?_⟩;refine aa (c) ?_;refine aF (i+1) (show i+1<=x.it.length by omega) (show x.it.length-(i+1)<x.it.length-i by omega) (Wk.of ?_ ?_)
   .simp only[go_sem,e8,hn];try simp
   .simp only[go_sem]
  .rw[hx,eC]at hn;simp only[go_sem,aK q1,hx];refine⟨by omega,q1,?_⟩;refine aF (i+1) (show i+1<=x.it.length by omega) (show x.it.length-(i+1)<x.it.length-i by omega) (Wk.of ?_ ?_)
   .simp only[go_sem,e8,hn];try simp
   .simp only[go_sem]
def Zt{n:Nat}(h:n<=7):bO .i64 (n:Int) 1=((n%2:Nat):Int)/\bO .i64 (n:Int) 2=((n%4/2*2:Nat):Int)/\bO .i64 (n:Int) 4=((n/4*4:Nat):Int):=by
 rcases(show n=0\/n=1\/n=2\/n=3\/n=4\/n=5\/n=6\/n=7 by omega)with rfl|rfl|rfl|rfl|rfl|rfl|rfl|rfl<;>exact⟨rfl,rfl,rfl⟩
def adP{n:Nat}{l:List be}(hn:n<=7)(h1:n<4->C7 l=true)(h3:Qc l)(h4:l.length<=2048):WX 197 [.sl 9 (l.map az),.ip [.int .i64 (n:Int)]] (CG n l):=by
 intro w hw;refine bA gY ?_;obtain⟨f1,f2,f3⟩:=Zt hn;unfold CG at hw⊢;by_cases q:n<4
 .rw[au q]at hw⊢;obtain⟨e1,e2,e3⟩:=M3 (h1 q) h3;have hl2:l.length=2:=by rw[e1];rfl
  have z:(n/4*4:Nat)=0:=by omega
  replace f3:bO .i64 (n:Int) 4=0:=by rw[f3,z];rfl
  simp only[go_sem,gY,f3];refine⟨by omega,by omega,?_⟩;refine aH (VF ⟨e2,e3⟩) rfl ?_;simp only[go_sem];exact cX (λ_ h=>by cases h) rfl (by rfl) (by rfl) (by simp[])
 .rw[ak q]at hw⊢;have z:(n/4*4:Nat)=4:=by omega
  replace f3:bO .i64 (n:Int) 4=4:=by rw[f3,z];rfl
  simp only[go_sem,gY,f3];refine aH (Kq h3 (by omega)) rfl ?_;simp only[go_sem];exact cX (λ_ h=>by cases h) rfl (by rfl) (by rfl) (by simp[])
end
section
open Go Go.Mw
def yp(B:List (Nat×Int)):List (Nat×Int):=B.set (B.length-1) ((ac B (B.length-1)).1+1,(ac B (B.length-1)).2)
def jI(acc:List (Nat×Int))(t:Int):List (Nat×Int):=if acc=[]\/(ac acc (acc.length-1)).2≠t then acc++[(0,t)]else acc
def Qf(acc:List (Nat×Int))(t:Int):List (Nat×Int):=yp (jI acc t)
def vj{α:Type}[Inhabited α](acc:List α)(p:α):ac (acc++[p]) ((acc++[p]).length-1)=p:=by
 rw[cP,dK,Nat.add_sub_cancel,Bn]
def GV(acc:List (Nat×Int))(k:Nat)(x:Int):yp (acc++[(k,x)])=acc++[(k+1,x)]:=by
 unfold yp;rw[vj];simp
def acZ(acc:List (Nat×Int))(k:Nat)(x:Int):Qf (acc++[(k,x)]) x=acc++[(k+1,x)]:=by
 unfold Qf jI;rw[vj,ak (by simp),GV]
def ac0(acc:List (Nat×Int))(k:Nat){x t:Int}(h:¬t=x):Qf (acc++[(k,x)]) t=acc++[(k,x)]++[(1,t)]:=by
 unfold Qf jI;rw[vj,au (.inr λq=>h q.symm),GV]
def YS(t:Int):Qf [] t=[(1,t)]:=by
 unfold Qf jI;rw[au (.inl rfl)];rfl
def CO:∀(l:List Int)(f:Nat)(acc:List (Nat×Int))(k:Nat)(x:Int),l.length<=f->l.foldl Qf (acc++[(k,x)])=acc++(k+same x l,x)::BY f (l.drop (same x l))
 | [],f,acc,k,x,_=>by
  cases f<;>simp[same,BY]
 | t::l,f,acc,k,x,h=>by
  rw[i0]at h;rw[List.foldl_cons,same];by_cases q:t=x
  .subst q;rw[au rfl,acZ,CO l f acc (k+1) t (by omega),List.drop_succ_cons,show k+1+same t l=k+(same t l+1)by omega]
  .rw[ak q,ac0 acc k q];obtain⟨g,rfl⟩:∃g,f=g+1:=⟨f-1,by omega⟩
   rw[CO l g (acc++[(k,x)]) 1 t (by omega),vX,BY,xP,Nat.add_comm 1];rfl
def OM(l:List Int):l.foldl Qf []=pn l:=by
 cases l with
 | nil=>rfl
 | cons x l =>
  rw[List.foldl_cons,YS];have:=CO l l.length [] 1 x (a_ _);rw[fo,fo]at this;rw[this];unfold pn;rw[i0,BY,Nat.add_comm 1]
def rC(l:List Int)(i:Nat):List (Nat×Int):=(l.take i).foldl Qf []
def Z7{l:List Int}{i:Nat}(h:i<l.length):rC l (i+1)=Qf (rC l i) (ac l i):=by
 unfold rC;rw[D_ h,List.foldl_append];rfl
def OY(B:List (Nat×Int))(h:B≠[]):yp B≠[]/\(yp B).length=B.length/\(ac (yp B) ((yp B).length-1)).2=(ac B (B.length-1)).2:=by
 obtain⟨A,p,rfl⟩:∃A p,B=A++[p]:=⟨B.dropLast,B.getLast h,(List.dropLast_concat_getLast h).symm⟩
 obtain⟨k,x⟩:=p;rw[GV,vj,vj];simp
def F3(acc:List (Nat×Int))(t:Int):jI acc t≠[]/\(ac (jI acc t) ((jI acc t).length-1)).2=t:=by
 unfold jI;by_cases h:acc=[]\/(ac acc (acc.length-1)).2≠t
 .rw[au h,vj];simp
 .rw[ak h];exact⟨λq=>h (.inl q),by by_cases z:(ac acc (acc.length-1)).2=t;exact z;exact absurd (.inr z) h⟩
def Z6(l:List Int):∀i,i<=l.length->(rC l i).length<=i/\(0<i->rC l i≠[]/\(ac (rC l i) ((rC l i).length-1)).2=ac l (i-1))/\∀p∈rC l i,p.1<=i
 | 0,_=>⟨by simp[rC],λh=>absurd h (by decide),λp hp=>by simp[rC]at hp⟩
 | i+1,h=>by
  obtain⟨h1,h2,h3⟩:=Z6 l i (by omega);obtain⟨g1,g2⟩:=F3 (rC l i) (ac l i);obtain⟨k1,k2,k3⟩:=OY _ g1;have e:(jI (rC l i) (ac l i)).length<=i+1:=by
   unfold jI;split
   .rw[cP,dK];omega
   .omega
  have e2:∀p∈jI (rC l i) (ac l i),p.1<=i:=λp hp=>by
   unfold jI at hp;split at hp
   .rcases f7.1 hp with q|q
    .exact h3 p q
    .simp only[jJ]at q;subst q;exact cm _
   .exact h3 p hp
  rw[Z7 (by omega)];unfold Qf;refine⟨by omega,λ_=>⟨k1,by rw[k3,g2];rfl⟩,λp hp=>?_⟩;unfold yp at hp;rcases List.mem_or_eq_of_mem_set hp with q|q
  .have:=e2 p q;omega
  .rw[q]
   have:(ac (jI (rC l i) (ac l i)) ((jI (rC l i) (ac l i)).length-1)).1<=i:=e2 _ (by
    have hp:=List.length_pos_iff.2 g1;generalize jI (rC l i) (ac l i)=B at*;rw[bv (by omega)];exact tL _)
   simp only;omega
def Gc(p:Nat×Int):List AV:=[.int .i64 p.1,.int .i64 p.2]
def aiC(p:Nat×Int):Gc p=[.int .i64 p.1,.int .i64 p.2]:=rfl
attribute[local go_sem] bZ wo wa dw ce az
def agZ{p:Nat×Int}(h1:p.1<4294967296)(h2:qh p.2=true):WX 199 [.agg (Gc p)] (EA p):=by
 intro l hl;refine bA lB ?_;unfold EA at hl⊢;rw[cP]at hl;simp only[go_sem,lB,aiC];refine aH (Vq p.1 h1) rfl ?_;simp only[go_sem];refine aH (Gq h2) rfl ?_;simp only[go_sem];exact cX (λ_ h=>by cases h) rfl (by rfl) (by rfl) (by simp[])
def Ya{acc:List (Nat×Int)}{n:Nat}(h:∀p∈acc,p.1<=n)(t:Int)(hb:jI acc t≠[]):(ac (jI acc t) ((jI acc t).length-1)).1<=n:=by
 have:∀p∈jI acc t,p.1<=n:=λp hp=>by
  unfold jI at hp;split at hp
  .rcases f7.1 hp with q|q
   .exact h p q
   .simp only[jJ]at q;subst q;exact cm _
  .exact h p hp
 have hp:=List.length_pos_iff.2 hb;generalize jI acc t=B at*;exact this _ (by rw[bv (by omega)];exact tL _)
def agS{x:Cd}(h1:x.lo.length<=64)(h2:∀t∈x.lo,qh t=true)(h4:Qc x.b)(h5:x.b.length<=2048):WX 110 [.agg (kM x)] (qY x):=by
 intro w hw;refine bA oN ?_;simp only[go_sem,oN,df];refine aq (λi:Nat=>⟨[(11,.int .i64 i),(10,.int .i64 x.lo.length),(9,.sl 1 (x.lo.map jM)),(4,.ms 900 2 0 (rC x.lo i).length),(3,.mp 3 3 0 0),(0,.mp 1000 3 0 0)],[(900,⟨266,2,(rC x.lo i).map Gc,false⟩),(3,⟨61,3,[[.int .i64 x.t,.sl 1 (x.lo.map jM),.sl 9 (x.b.map az)]],true⟩),(1000,wo 2000 true w 0),(2000,wa w)]⟩) (λi=>i<=x.lo.length) (λi=>x.lo.length-i) 0 (cm _) ((Wk.nil _ 4 900 2 266 (by simp only[go_sem]) (.inl (by decide))).trans (Wk.of ?_ ?_)) ?_
 .simp only[go_sem,St.mknil];try simp[go_sem,rC]
 .simp only[go_sem,St.mknil,df];try simp[go_sem,rC]
 intro i hi2;obtain⟨a1,a2,a3⟩:=Z6 x.lo i hi2;by_cases q1:(i:Int)<(x.lo.length:Int);rotate_left
 .obtain rfl:i=x.lo.length:=by omega
  have hr:rC x.lo x.lo.length=pn x.lo:=by unfold rC;rw[pJ,OM]
  rw[hr];have hrl:(pn x.lo).length<=64:=by have:=yT x.lo.length x.lo;unfold pn;omega
  have hB:=FA h1 h4 h5;have hB2:(oZ x).length=(br EA (pn x.lo)).length+(j5 x.b).length:=by unfold oZ MM;rw[cP]
  have cw:=pt (n:=198) (t:=266) (z:=[.int .i64 0,.int .i64 0]) (f:=Gc) (g:=199) (caps:=[]) (enc:=EA) (cF lG) rfl (λp=>⟨rfl,λ_=>rfl,rfl⟩) (pn x.lo) (by omega) (by kernel_rfl) (λ_=>rfl) (λ_ h=>by cases h) (λp hp=>agZ (by
   have:=HY _ _ p hp;have h6:=a3;rw[hr]at h6;have:=h6 p hp;omega) (h2 _ (HY _ _ p hp).2))
  simp only[go_sem,aL q1];refine qX 904 905 (by decide) (by decide) (by decide) (by simp only[go_sem]) (by simp only[go_sem]) ?_;simp only[go_sem];refine k_ [900] (k:=904) (j:=905) (l:=[]) cw (by simp[go_sem,wo,wa,cI]) (by simp[go_sem]) (by simp[go_sem,wo,wa]) (by simp[go_sem,wo,wa]) (by simp only[cj];omega) (by decide) ?_;simp only[go_sem,fo];refine KQ (k:=904) (j:=905) (Kq h4 (by omega)) rfl (by simp[go_sem]) (by rfl) (by rfl) (by omega) (by decide) ?_;have cp:=H3 true w 0 (by omega) true (oZ x) 0 (by omega);rw[show wP (true&&(0:Int)==0) w 0 true (oZ x) 0=(w++qY x,0)by unfold wP qY;simp[wB]]at cp;rw[show br EA (pn x.lo)++j5 x.b=oZ x from rfl];simp only[go_sem];refine dX (σ2:=[(1000,wo 2000 true w 0),(2000,wa w),(904,wo 905 true (oZ x) 0),(905,wa (oZ x))]) (r3:=.tup []) (σ3:=[(1000,wo 2000 true (w++qY x) 0),(2000,wa (w++qY x)),(904,wo 905 true (oZ x) 0),(905,wa (oZ x))]) cp [(1001,904),(2001,905)] [905,2000] rfl rfl rfl rfl ?_ ?_ ?_ ?_
  .simp only[go_sem];simp
  .simp only[go_sem];simp[sb,bw,i5,ah]
  .simp only[go_sem];simp[ah]
  simp only[go_sem];exact cX (λ_ h=>by cases h) rfl (by rfl) (by rfl) rfl
 have hi':i<x.lo.length:=by omega
 have e8:=ey hi' (by omega);have hn:=Z7 hi';obtain⟨b1,b2⟩:=F3 (rC x.lo i) (ac x.lo i);have b3:(jI (rC x.lo i) (ac x.lo i)).length<=i+1:=by
  unfold jI;split
  .rw[cP,dK];omega
  .omega
 have b4:(ac (jI (rC x.lo i) (ac x.lo i)) ((jI (rC x.lo i) (ac x.lo i)).length-1)).1<=i:=Ya a3 _ b1;unfold Qf at hn;by_cases q2:rC x.lo i=[]\/(ac (rC x.lo i) ((rC x.lo i).length-1)).2≠ac x.lo i
 .have ho:jI (rC x.lo i) (ac x.lo i)=rC x.lo i++[(0,ac x.lo i)]:=au q2;have hap:xf 900 266 2 0 (rC x.lo i).length [[.int .i64 0,.int .i64 (ac x.lo i)]] (some ⟨266,2,(rC x.lo i).map Gc,false⟩)=some (.ms 900 2 0 (jI (rC x.lo i) (ac x.lo i)).length,.reb 900 ⟨266,2,(jI (rC x.lo i) (ac x.lo i)).map Gc,false⟩):=by
   rw[bq 900 266 2 _ Gc _ _ rfl,au ⟨by simp,by omega,.inl (by decide)⟩,ho];simp[Gc]
  generalize jI (rC x.lo i) (ac x.lo i)=B at*;by_cases q3:(i:Int)=0
  .simp only[go_sem,aK q1,dt q3,hap];refine⟨by omega,q1,?_⟩;have hpl:=List.length_pos_iff.2 b1;have e1:=wi (n:=(B.length:Int)-1) (by omega) (by omega);have e2:((B.length:Int)-1).toNat=B.length-1:=by omega
   have e3:IntKind.i64.wrap (((ac B (B.length-1)).1:Int)+1)=(((ac B (B.length-1)).1+1:Nat):Int):=by rw[wi (by omega) (by omega)];omega
   have hst:∀(row v:Nat),Is 900 1 2 row 0 (some ⟨266,2,B.map Gc,false⟩) (some [.int .i64 (v:Int)])=if row<B.length then some (.put 900 ⟨266,2,(B.set row (v,(ac B row).2)).map Gc,false⟩)else none:=λrow v=>y9 900 1 2 row 0 266 Gc B [.int .i64 (v:Int)] (λp=>(v,p.2)) rfl rfl (λ_=>by show 0+1<=2;decide) (λ_=>rfl)
   have hld:∀p:Nat×Int,uI none (Gc p)=some (.int .i64 p.1):=λ_=>rfl;simp only[go_sem,e1,e2,e3,hst,hld];refine⟨by omega,by omega,by omega,by omega,?_⟩;refine aF (i+1) (show i+1<=x.lo.length by omega) (show x.lo.length-(i+1)<x.lo.length-i by omega) (Wk.of ?_ ?_)
   .simp only[go_sem,e8,hn,yp,List.length_set];try simp
   .simp only[go_sem,hn,yp];try simp[go_sem]
  .have hp:=a2 (by omega);have hne:((ac x.lo i) != (ac x.lo (i-1)))=true:=by
    rcases q2 with q|q
    .exact absurd q hp.1
    .rw[hp.2]at q;exact bj λz=>q z.symm
   simp only[go_sem,aK q1,aA q3,wi (n:=(i:Int)-1) (by omega) (by omega),show((i:Int)-1).toNat=i-1 by omega,hne,hap];refine⟨by omega,q1,by omega,by omega,?_⟩;have hpl:=List.length_pos_iff.2 b1;have e1:=wi (n:=(B.length:Int)-1) (by omega) (by omega);have e2:((B.length:Int)-1).toNat=B.length-1:=by omega
   have e3:IntKind.i64.wrap (((ac B (B.length-1)).1:Int)+1)=(((ac B (B.length-1)).1+1:Nat):Int):=by rw[wi (by omega) (by omega)];omega
   have hst:∀(row v:Nat),Is 900 1 2 row 0 (some ⟨266,2,B.map Gc,false⟩) (some [.int .i64 (v:Int)])=if row<B.length then some (.put 900 ⟨266,2,(B.set row (v,(ac B row).2)).map Gc,false⟩)else none:=λrow v=>y9 900 1 2 row 0 266 Gc B [.int .i64 (v:Int)] (λp=>(v,p.2)) rfl rfl (λ_=>by show 0+1<=2;decide) (λ_=>rfl)
   have hld:∀p:Nat×Int,uI none (Gc p)=some (.int .i64 p.1):=λ_=>rfl;simp only[go_sem,e1,e2,e3,hst,hld];refine⟨by omega,by omega,by omega,by omega,?_⟩;refine aF (i+1) (show i+1<=x.lo.length by omega) (show x.lo.length-(i+1)<x.lo.length-i by omega) (Wk.of ?_ ?_)
   .simp only[go_sem,e8,hn,yp,List.length_set];try simp
   .simp only[go_sem,hn,yp];try simp[go_sem]
 .have ho:jI (rC x.lo i) (ac x.lo i)=rC x.lo i:=ak q2
  have q3:¬(i:Int)=0:=λz=>q2 (.inl (by have:i=0:=by omega
                                       subst this;rfl))
  have hp:=a2 (by omega);have hne:((ac x.lo i) != (ac x.lo (i-1)))=false:=by
   rw[<-hp.2];exact aI (by by_cases z:(ac (rC x.lo i) ((rC x.lo i).length-1)).2=ac x.lo i;exact z.symm;exact absurd (.inr z) q2)
  rw[ho]at hn b1 b2 b3 b4;generalize rC x.lo i=B at*;simp only[go_sem,aK q1,aA q3,wi (n:=(i:Int)-1) (by omega) (by omega),show((i:Int)-1).toNat=i-1 by omega,hne];refine⟨by omega,q1,by omega,by omega,?_⟩;have hpl:=List.length_pos_iff.2 b1;have e1:=wi (n:=(B.length:Int)-1) (by omega) (by omega);have e2:((B.length:Int)-1).toNat=B.length-1:=by omega
  have e3:IntKind.i64.wrap (((ac B (B.length-1)).1:Int)+1)=(((ac B (B.length-1)).1+1:Nat):Int):=by rw[wi (by omega) (by omega)];omega
  have hst:∀(row v:Nat),Is 900 1 2 row 0 (some ⟨266,2,B.map Gc,false⟩) (some [.int .i64 (v:Int)])=if row<B.length then some (.put 900 ⟨266,2,(B.set row (v,(ac B row).2)).map Gc,false⟩)else none:=λrow v=>y9 900 1 2 row 0 266 Gc B [.int .i64 (v:Int)] (λp=>(v,p.2)) rfl rfl (λ_=>by show 0+1<=2;decide) (λ_=>rfl)
  have hld:∀p:Nat×Int,uI none (Gc p)=some (.int .i64 p.1):=λ_=>rfl;simp only[go_sem,e1,e2,e3,hst,hld];refine⟨by omega,by omega,by omega,by omega,?_⟩;refine aF (i+1) (show i+1<=x.lo.length by omega) (show x.lo.length-(i+1)<x.lo.length-i by omega) (Wk.of ?_ ?_)
  .simp only[go_sem,e8,hn,yp,List.length_set];try simp
  .simp only[go_sem,hn,yp];try simp[go_sem]
end
section
open Go Go.Mw
def yo{bl:Nat->Option Nat}{M:Nat->Prop}{w:World}{v:Value}{x:AV}(h:cz bl M w v x)(h1:qm x=true)(h2:Bb x=false):IRel M w v x:=by
 cases x<;>first|(simp[qm]at h1;done)|exact h|(simp[Bb]at h2;done)
def L6{c:vg}{bl:Nat->Option Nat}{s:St}{a:Act}{w:World}(hs:aP c bl (get s.env) (ah s.heap) a w){i:Nat}{t:TypeId}{st:Nat}{r:List AV}(hi:ah s.heap i=some ⟨t,st,[r],true⟩)(hr:∀x∈r,qm x=true/\Bb x=false) :
  aP c bl (get s.env) (ah ((i,⟨t,st,[r],false⟩)::s.heap)) a w/\bG bl c.MF (ah ((i,⟨t,st,[r],false⟩)::s.heap))=bG bl c.MF (ah s.heap):=by
 have hm:bG bl c.MF (ah ((i,⟨t,st,[r],false⟩)::s.heap))=bG bl c.MF (ah s.heap):=by
  funext b;apply propext;constructor
  .rintro(h|⟨j,o,h1,h2⟩)
   .exact .inl h
   .simp only[ah]at h1;split at h1
    .rename_i hij;subst hij;exact .inr ⟨_,_,hi,h2⟩
    .exact .inr ⟨j,o,h1,h2⟩
  .rintro(h|⟨j,o,h1,h2⟩)
   .exact .inl h
   .by_cases hij:i=j
    .subst hij;exact .inr ⟨i,⟨t,st,[r],false⟩,by simp[ah],h2⟩
    .exact .inr ⟨j,o,by simp only[ah,ak hij];exact h1,h2⟩
 refine⟨⟨hs.defers,hs.size,by rw[hm];exact hs.env,⟨λj o hj=>?_,λj j' o o' b h1 h2=>?_⟩,hs.step,λj o b h1=>?_,hs.stab,hs.mf⟩,hm⟩
 .rw[hm];simp only[ah]at hj;split at hj
  .rename_i hij;subst hij;cases hj;rcases hs.heap.1 _ _ hi with⟨h1,_⟩|⟨b,g1,⟨gk,c1,fr,g2,g3,g4,g5,g6,g7⟩|hsp⟩
   .cases h1
   .refine .inr ⟨b,g1,.inl ⟨rfl,c1,fr,g2,g3,g4,g5,g6,λk q u x hu hx=>?_⟩⟩;obtain⟨v,hv1,hv2⟩:=g7 k q u x hu hx;have hu2:u=r:=by
     cases k with
     | zero=>simpa using hu.symm
     | succ k=>simp at hu
    subst hu2;obtain⟨z1,z2⟩:=hr x (vc hx);exact⟨v,hv1,yo hv2 z1 z2⟩
   .have:=hsp.rows;cases this
  .exact hs.heap.1 j o hj
 .have key:∀{j:Nat}{o:ao},ah ((i,⟨t,st,[r],false⟩)::s.heap) j=some o->∃o',ah s.heap j=some o':=λ{j o} hj=>by
   simp only[ah]at hj;split at hj
   .rename_i hij;subst hij;exact⟨_,hi⟩
   .exact⟨_,hj⟩
  obtain⟨p1,q1⟩:=key h1;obtain⟨p2,q2⟩:=key h2;exact hs.heap.2 j j' p1 p2 b q1 q2
 .simp only[ah]at h1;split at h1
  .rename_i hij;subst hij;exact hs.own i _ b hi
  .exact hs.own j o b h1
def jE(s:St)(l:List AV)(i:Nat){t:TypeId}{st:Nat}{r:List AV}(hi:ah s.heap i=some ⟨t,st,[r],true⟩)(hr:∀x∈r,qm x=true/\Bb x=false):Es s l ⟨s.env,(i,⟨t,st,[r],false⟩)::s.heap⟩ l:=λc a w bl vs h1 h2=>by
 obtain⟨h3,hm⟩:=L6 h1 hi hr;exact⟨bl,h3,by rw[hm];exact h2⟩
def nk0:((0:Nat):Int)=0:=rfl
def nk1:((1:Nat):Int)=1:=rfl
def nk2:((2:Nat):Int)=2:=rfl
def nk3:((3:Nat):Int)=3:=rfl
def nk4:((4:Nat):Int)=4:=rfl
def nk5:((5:Nat):Int)=5:=rfl
def nk6:((6:Nat):Int)=6:=rfl
def nk7:((7:Nat):Int)=7:=rfl
attribute[local go_sem] bZ wo wa dw ce az iG
def adN{x:El}(h:Po F4 x)(hn:JP x.o)(hn2:∀l∈x.it,JP l):WX 109 [.agg (eF x)] (ww x):=by
 intro w hw;obtain⟨hB,ho,hi⟩:=h;obtain⟨b1,b2,b3,b4,b5⟩:=GH hB;obtain⟨f1,f2,f3,f4,f5,f6⟩:=RT b1;obtain⟨j1,j2⟩:=yJ ho hn;have hrf:gJ x<4->∀l∈x.it,C7 l=true:=λq=>by
  have:=f5.1 q;unfold jz at this;rw[Bool.or_eq_false_iff,zC]at this;intro l hl;have:=this.2 l hl;simpa using this
 have cv:=Gq (Vo.2 (by have:=xI.1 b4;omega):qh x.ty=true);have ct:=VF (ji.1 b3);have co:=Kq j1 (by omega);have cf:=XE b1 b5;have cl:=Zi (n:=196) (f:=lQ) (v:=λl:List be=>.sl 9 (l.map az)) (g:=197) (caps:=[.ip [.int .i64 (gJ x:Nat)]]) (enc:=CG (gJ x)) (cF lC) (λ_=>rfl) (λ_ _=>rfl) (λ_=>rfl) x.it (by omega) (by kernel_rfl) (λ_=>rfl) (λy hy=>by simp only[jJ]at hy;subst hy;rfl) (λl hl=>adP f1 (λq=>hrf q l hl) (yJ (hi l hl) (hn2 l hl)).1 (hi l hl).1);have cu:=Vq (gJ x) (by omega);refine bA oO ?_;obtain⟨g1,g2,g3⟩:=Zt f1;unfold ww at hw⊢;simp only[eX]at cf;generalize gJ x=n at*;rcases(show n=0\/n=1\/n=2\/n=3\/n=4\/n=5\/n=6\/n=7 by omega)with rfl|rfl|rfl|rfl|rfl|rfl|rfl|rfl
 all_goals
  simp only[Nat.reduceMod,Nat.reduceDiv,Nat.reduceMul,Nat.reduceLT,Nat.reduceEqDiff,reduceCtorEq,Nat.reduceEqDiff,aN,bB,m_,fo,cP,nk0,nk1,nk2,nk3,nk4,nk5,nk6,nk7,reduceIte,i0,cj]at hw g1 g2 g3 cf cl cu⊢;simp only[go_sem,oO,eX];refine aa (cf) ?_;refine aH (cu) rfl ?_;simp only[go_sem,g1,g2,g3]
 .refine aH (co) rfl ?_;simp only[go_sem,g1,g2,g3];generalize hv:w++aD 0++j5 x.o=v at*;have hvl:=congrArg List.length hv;simp only[cP,i0,cj]at hvl;refine iC (jE _ _ 4 (by rfl) (λy hy=>by simp only[jJ]at hy;subst hy;exact⟨rfl,rfl⟩)) ?_;refine k_ [4] (k:=1000) (j:=2000) (l:=v) cl (by simp[go_sem,wo,wa]) (by simp[go_sem]) (by simp[go_sem,wo,wa]) (by simp[go_sem,wo,wa]) (by omega) (by decide) ?_;simp only[go_sem];exact cX (λ_ h=>by cases h) rfl (by rfl) (by rfl) (by rw[<-hv];simp)
 .refine aH (VE 0) rfl ?_;simp only[go_sem];generalize hv:w++aD 1++[0]=v at*;have hvl:=congrArg List.length hv;simp only[cP,i0,cj]at hvl;refine iC (jE _ _ 4 (by rfl) (λy hy=>by simp only[jJ]at hy;subst hy;exact⟨rfl,rfl⟩)) ?_;refine k_ [4] (k:=1000) (j:=2000) (l:=v) cl (by simp[go_sem,wo,wa]) (by simp[go_sem]) (by simp[go_sem,wo,wa]) (by simp[go_sem,wo,wa]) (by omega) (by decide) ?_;simp only[go_sem];exact cX (λ_ h=>by cases h) rfl (by rfl) (by rfl) (by rw[<-hv];simp)
 .refine aH (ct) rfl ?_;simp only[go_sem,g1,g2,g3];refine aH (co) rfl ?_;simp only[go_sem,g1,g2,g3];refine aH (VE 0) rfl ?_;simp only[go_sem];generalize hv:w++aD 2++aD x.tb.toNat++j5 x.o++[0]=v at*;have hvl:=congrArg List.length hv;simp only[cP,i0,cj]at hvl;refine iC (jE _ _ 4 (by rfl) (λy hy=>by simp only[jJ]at hy;subst hy;exact⟨rfl,rfl⟩)) ?_;refine k_ [4] (k:=1000) (j:=2000) (l:=v) cl (by simp[go_sem,wo,wa]) (by simp[go_sem]) (by simp[go_sem,wo,wa]) (by simp[go_sem,wo,wa]) (by omega) (by decide) ?_;simp only[go_sem];exact cX (λ_ h=>by cases h) rfl (by rfl) (by rfl) (by rw[<-hv];simp)
 .refine aH (VE 0) rfl ?_;simp only[go_sem];generalize hv:w++aD 3++[0]=v at*;have hvl:=congrArg List.length hv;simp only[cP,i0,cj]at hvl;refine iC (jE _ _ 4 (by rfl) (λy hy=>by simp only[jJ]at hy;subst hy;exact⟨rfl,rfl⟩)) ?_;refine k_ [4] (k:=1000) (j:=2000) (l:=v) cl (by simp[go_sem,wo,wa]) (by simp[go_sem]) (by simp[go_sem,wo,wa]) (by simp[go_sem,wo,wa]) (by omega) (by decide) ?_;simp only[go_sem];exact cX (λ_ h=>by cases h) rfl (by rfl) (by rfl) (by rw[<-hv];simp)
 .refine aH (co) rfl ?_;simp only[go_sem,g1,g2,g3];generalize hv:w++aD 4++j5 x.o=v at*;have hvl:=congrArg List.length hv;simp only[cP,i0,cj]at hvl;refine iC (jE _ _ 4 (by rfl) (λy hy=>by simp only[jJ]at hy;subst hy;exact⟨rfl,rfl⟩)) ?_;refine k_ [4] (k:=1000) (j:=2000) (l:=v) cl (by simp[go_sem,wo,wa]) (by simp[go_sem]) (by simp[go_sem,wo,wa]) (by simp[go_sem,wo,wa]) (by omega) (by decide) ?_;simp only[go_sem];exact cX (λ_ h=>by cases h) rfl (by rfl) (by rfl) (by rw[<-hv];simp)
 .refine aH (cv) rfl ?_;simp only[go_sem];generalize hv:w++aD 5++i8 x.ty=v at*;have hvl:=congrArg List.length hv;simp only[cP,i0,cj]at hvl;refine iC (jE _ _ 4 (by rfl) (λy hy=>by simp only[jJ]at hy;subst hy;exact⟨rfl,rfl⟩)) ?_;refine k_ [4] (k:=1000) (j:=2000) (l:=v) cl (by simp[go_sem,wo,wa]) (by simp[go_sem]) (by simp[go_sem,wo,wa]) (by simp[go_sem,wo,wa]) (by omega) (by decide) ?_;simp only[go_sem];exact cX (λ_ h=>by cases h) rfl (by rfl) (by rfl) (by rw[<-hv];simp)
 .refine aH (ct) rfl ?_;simp only[go_sem,g1,g2,g3];refine aH (co) rfl ?_;simp only[go_sem,g1,g2,g3];refine aH (cv) rfl ?_;simp only[go_sem];generalize hv:w++aD 6++aD x.tb.toNat++j5 x.o++i8 x.ty=v at*;have hvl:=congrArg List.length hv;simp only[cP,i0,cj]at hvl;refine iC (jE _ _ 4 (by rfl) (λy hy=>by simp only[jJ]at hy;subst hy;exact⟨rfl,rfl⟩)) ?_;refine k_ [4] (k:=1000) (j:=2000) (l:=v) cl (by simp[go_sem,wo,wa]) (by simp[go_sem]) (by simp[go_sem,wo,wa]) (by simp[go_sem,wo,wa]) (by omega) (by decide) ?_;simp only[go_sem];exact cX (λ_ h=>by cases h) rfl (by rfl) (by rfl) (by rw[<-hv];simp)
 .refine aH (cv) rfl ?_;simp only[go_sem];generalize hv:w++aD 7++i8 x.ty=v at*;have hvl:=congrArg List.length hv;simp only[cP,i0,cj]at hvl;refine iC (jE _ _ 4 (by rfl) (λy hy=>by simp only[jJ]at hy;subst hy;exact⟨rfl,rfl⟩)) ?_;refine k_ [4] (k:=1000) (j:=2000) (l:=v) cl (by simp[go_sem,wo,wa]) (by simp[go_sem]) (by simp[go_sem,wo,wa]) (by simp[go_sem,wo,wa]) (by omega) (by decide) ?_;simp only[go_sem];exact cX (λ_ h=>by cases h) rfl (by rfl) (by rfl) (by rw[<-hv];simp)
end
section
open Go Go.Mw
def ai_{m:Md}(h:Lw m):WX 89 [.sl 2 (m.ts.map my),.fn 90 []] (br wz m.ts):=pt (f:=my) (g:=90) (caps:=[]) (cF nN) rfl (λ_=>⟨rfl,λ_=>rfl,rfl⟩) m.ts (by have:=h.lim.ts.1;omega) (by kernel_rfl) (λ_=>rfl) (λ_ h=>by cases h) (λx hx=>agU (h.lim.ts.2 x hx))
def aja{m:Md}(h:Lw m):WX 91 [.sl 13 (m.ims.map pw),.fn 92 []] (br wC m.ims):=pt (f:=pw) (g:=92) (caps:=[]) (cF lE) rfl (λ_=>⟨rfl,λ_=>rfl,rfl⟩) m.ims (by have:=h.lim.ims.1;omega) (by kernel_rfl) (λ_=>rfl) (λ_ h=>by cases h) (λx hx=>agV (h.lim.ims.2 x hx))
def ajb{m:Md}(h:Lw m):WX 93 [.sl 3 (m.fs.map kM),.fn 94 []] (br (λx:Cd=>aD x.t.toNat) m.fs):=pt (f:=kM) (g:=94) (caps:=[]) (cF gp) rfl (λ_=>⟨rfl,λ_=>rfl,rfl⟩) m.fs (by have:=h.lim.fs.1;omega) (by kernel_rfl) (λ_=>rfl) (λ_ h=>by cases h) (λx hx=>ag1 (HH h x hx).2.2.2.2.2)
def ajc{m:Md}(h:Lw m):WX 96 [.sl 4 (m.tbs.map rM),.fn 97 []] (br uE m.tbs):=pt (f:=rM) (g:=97) (caps:=[]) (cF mF) rfl (λ_=>⟨rfl,λ_=>rfl,rfl⟩) m.tbs (by have:=h.lim.tbs.1;omega) (by kernel_rfl) (λ_=>rfl) (λ_ h=>by cases h) (λx hx=>aal (h.lim.tbs.2 x hx))
def ajd{m:Md}(h:Lw m):WX 98 [.sl 3 (m.ms.map j7),.fn 99 []] (br o6 m.ms):=pt (f:=j7) (g:=99) (caps:=[]) (cF lF) rfl (λ_=>⟨rfl,λ_=>rfl,rfl⟩) m.ms (by have:=h.lim.ms.1;omega) (by kernel_rfl) (λ_=>rfl) (λ_ h=>by cases h) (λx hx=>Vr (Nf (h.lim.ms.2 x hx)))
def aje{m:Md}(h:Lw m):WX 100 [.sl 3 (m.gs.map wF),.fn 101 []] (br wA m.gs):=pt (f:=wF) (g:=101) (caps:=[]) (cF jQ) rfl (λ_=>⟨rfl,λ_=>rfl,rfl⟩) m.gs (by have:=h.lim.gs.1;omega) (by kernel_rfl) (λ_=>rfl) (λ_ h=>by cases h) (λx hx=>adO (h.lim.gs.2 x hx).1 (yJ (h.lim.gs.2 x hx).2 (h.num.2.1 x hx)).1 (h.lim.gs.2 x hx).2.1)
def ajf{m:Md}(h:Lw m):WX 104 [.sl 3 (m.exs.map vx),.fn 105 []] (br wy m.exs):=pt (f:=vx) (g:=105) (caps:=[]) (cF lD) rfl (λ_=>⟨rfl,λ_=>rfl,rfl⟩) m.exs (by have:=h.lim.exs.1;omega) (by kernel_rfl) (λ_=>rfl) (λ_ h=>by cases h) (λx hx=>agT (h.lim.exs.2 x hx))
def ajg{m:Md}(h:Lw m):WX 108 [.sl 5 (m.els.map eF),.fn 109 []] (br ww m.els):=pt (f:=eF) (g:=109) (caps:=[]) (cF nM) rfl (λ_=>⟨rfl,λ_=>rfl,rfl⟩) m.els (by have:=h.lim.els.1;omega) (by kernel_rfl) (λ_=>rfl) (λ_ h=>by cases h) (λx hx=>adN (h.lim.els.2 x hx) (h.num.2.2.1 x hx).1 (h.num.2.2.1 x hx).2)
def agW{m:Md}(h:Lw m):WX 93 [.sl 3 (m.fs.map kM),.fn 110 []] (br qY m.fs):=pt (f:=kM) (g:=110) (caps:=[]) (cF gp) rfl (λ_=>⟨rfl,λ_=>rfl,rfl⟩) m.fs (by have:=h.lim.fs.1;omega) (by kernel_rfl) (λ_=>rfl) (λ_ h=>by cases h) (λx hx=>agS (HH h x hx).1 (HH h x hx).2.1 (HH h x hx).2.2.2.1 (HH h x hx).2.2.2.2.1)
def agX{m:Md}(h:Lw m):WX 111 [.sl 4 (m.ds.map iz),.fn 112 []] (br wv m.ds):=pt (f:=iz) (g:=112) (caps:=[]) (cF nL) rfl (λ_=>⟨rfl,λ_=>rfl,rfl⟩) m.ds (by have:=h.lim.ds.1;omega) (by kernel_rfl) (λ_=>rfl) (λ_ h=>by cases h) (λx hx=>adM (h.lim.ds.2 x hx) (h.num.2.2.2 x hx))
attribute[local go_sem] bZ wo wa dw ce az
def ag0{m:Md}(h:Lw m){p:Int}(hp:1<=p/\p<=12)(hs:p=8->m.hs=true):WX 27 [gy m,.int .i64 p] (CH m p):=by
 intro w hw;refine bA aY ?_;rcases(show p=1\/p=2\/p=3\/p=4\/p=5\/p=6\/p=7\/p=8\/p=9\/p=10\/p=11\/p=12 by omega)with rfl|rfl|rfl|rfl|rfl|rfl|rfl|rfl|rfl|rfl|rfl|rfl
 .replace hw:w.length+(br wz m.ts).length<=1000000000:=hw;show jL _ _ _ (mz _ λr' σ'=>r' = .tup []/\σ'=[(1000,wo 2000 true (w++(br wz m.ts)) 0),(2000,wa (w++(br wz m.ts)))]);simp only[go_sem,aY,gy,b_];refine aH (ai_ h) rfl ?_;simp only[go_sem];exact cX (λ_ h=>by cases h) rfl (by rfl) (by rfl) rfl
 .replace hw:w.length+(br wC m.ims).length<=1000000000:=hw;show jL _ _ _ (mz _ λr' σ'=>r' = .tup []/\σ'=[(1000,wo 2000 true (w++(br wC m.ims)) 0),(2000,wa (w++(br wC m.ims)))]);simp only[go_sem,aY,gy,b_];refine aH (aja h) rfl ?_;simp only[go_sem];exact cX (λ_ h=>by cases h) rfl (by rfl) (by rfl) rfl
 .replace hw:w.length+(br (λx:Cd=>aD x.t.toNat) m.fs).length<=1000000000:=hw;show jL _ _ _ (mz _ λr' σ'=>r' = .tup []/\σ'=[(1000,wo 2000 true (w++(br (λx:Cd=>aD x.t.toNat) m.fs)) 0),(2000,wa (w++(br (λx:Cd=>aD x.t.toNat) m.fs)))]);simp only[go_sem,aY,gy,b_];refine aH (ajb h) rfl ?_;simp only[go_sem];exact cX (λ_ h=>by cases h) rfl (by rfl) (by rfl) rfl
 .replace hw:w.length+(br uE m.tbs).length<=1000000000:=hw;show jL _ _ _ (mz _ λr' σ'=>r' = .tup []/\σ'=[(1000,wo 2000 true (w++(br uE m.tbs)) 0),(2000,wa (w++(br uE m.tbs)))]);simp only[go_sem,aY,gy,b_];refine aH (ajc h) rfl ?_;simp only[go_sem];exact cX (λ_ h=>by cases h) rfl (by rfl) (by rfl) rfl
 .replace hw:w.length+(br o6 m.ms).length<=1000000000:=hw;show jL _ _ _ (mz _ λr' σ'=>r' = .tup []/\σ'=[(1000,wo 2000 true (w++(br o6 m.ms)) 0),(2000,wa (w++(br o6 m.ms)))]);simp only[go_sem,aY,gy,b_];refine aH (ajd h) rfl ?_;simp only[go_sem];exact cX (λ_ h=>by cases h) rfl (by rfl) (by rfl) rfl
 .replace hw:w.length+(br wA m.gs).length<=1000000000:=hw;show jL _ _ _ (mz _ λr' σ'=>r' = .tup []/\σ'=[(1000,wo 2000 true (w++(br wA m.gs)) 0),(2000,wa (w++(br wA m.gs)))]);simp only[go_sem,aY,gy,b_];refine aH (aje h) rfl ?_;simp only[go_sem];exact cX (λ_ h=>by cases h) rfl (by rfl) (by rfl) rfl
 .replace hw:w.length+(br wy m.exs).length<=1000000000:=hw;show jL _ _ _ (mz _ λr' σ'=>r' = .tup []/\σ'=[(1000,wo 2000 true (w++(br wy m.exs)) 0),(2000,wa (w++(br wy m.exs)))]);simp only[go_sem,aY,gy,b_];refine aH (ajf h) rfl ?_;simp only[go_sem];exact cX (λ_ h=>by cases h) rfl (by rfl) (by rfl) rfl
 .replace hw:w.length+(aD m.st.toNat).length<=1000000000:=hw;show jL _ _ _ (mz _ λr' σ'=>r' = .tup []/\σ'=[(1000,wo 2000 true (w++(aD m.st.toNat)) 0),(2000,wa (w++(aD m.st.toNat)))]);simp only[go_sem,aY,gy,b_];refine aH (VF (ji.1 (h.lim.st (hs rfl)))) rfl ?_;simp only[go_sem];exact cX (λ_ h=>by cases h) rfl (by rfl) (by rfl) rfl
 .replace hw:w.length+(br ww m.els).length<=1000000000:=hw;show jL _ _ _ (mz _ λr' σ'=>r' = .tup []/\σ'=[(1000,wo 2000 true (w++(br ww m.els)) 0),(2000,wa (w++(br ww m.els)))]);simp only[go_sem,aY,gy,b_];refine aH (ajg h) rfl ?_;simp only[go_sem];exact cX (λ_ h=>by cases h) rfl (by rfl) (by rfl) rfl
 .replace hw:w.length+(aD m.ds.length).length<=1000000000:=hw;show jL _ _ _ (mz _ λr' σ'=>r' = .tup []/\σ'=[(1000,wo 2000 true (w++(aD m.ds.length)) 0),(2000,wa (w++(aD m.ds.length)))]);simp only[go_sem,aY,gy,b_];refine aH (Vq m.ds.length (by have:=h.lim.ds.1;omega)) rfl ?_;simp only[go_sem];exact cX (λ_ h=>by cases h) rfl (by rfl) (by rfl) rfl
 .replace hw:w.length+(br qY m.fs).length<=1000000000:=hw;show jL _ _ _ (mz _ λr' σ'=>r' = .tup []/\σ'=[(1000,wo 2000 true (w++(br qY m.fs)) 0),(2000,wa (w++(br qY m.fs)))]);simp only[go_sem,aY,gy,b_];refine aH (agW h) rfl ?_;simp only[go_sem];exact cX (λ_ h=>by cases h) rfl (by rfl) (by rfl) rfl
 .replace hw:w.length+(br wv m.ds).length<=1000000000:=hw;show jL _ _ _ (mz _ λr' σ'=>r' = .tup []/\σ'=[(1000,wo 2000 true (w++(br wv m.ds)) 0),(2000,wa (w++(br wv m.ds)))]);simp only[go_sem,aY,gy,b_];refine aH (agX h) rfl ?_;simp only[go_sem];exact cX (λ_ h=>by cases h) rfl (by rfl) (by rfl) rfl
end
section
open Go Go.Mw
def bx(q:Nat)(l:List Int):ao:=⟨44,1,[[.ms q 1 0 l.length]],true⟩
def ia(l:List Int):ao:=⟨3,1,l.map ri,false⟩
def oB(b:Bool)(p:Int):List Int:=if b=true then[p]else[]
attribute[local go_sem] bZ ce az bx ia
def afj(p:Int)(b:Bool)(l:List Int)(hl:l.length<=1000):aQ pg 50 [.int .i64 p,.bool b,.mp 1000 1 0 0] [(1000,bx 2000 l),(2000,ia l)] sb (λr' σ'=>r' = .tup []/\σ'=[(1000,bx 2000 (l++oB b p)),(2000,ia (l++oB b p))]):=by
 refine bA iL ?_;cases b
 .rw[show l++oB false p=l from m_ l];simp only[go_sem,iL];exact cR [] _ [(1000,bx 2000 l),(2000,ia l)] ⟨rfl,rfl⟩
 .have hap:xf 2000 3 1 0 l.length [[.int .i64 p]] (some ⟨3,1,l.map ri,false⟩)=some (.ms 2000 1 0 (l++oB true p).length,.reb 2000 ⟨3,1,(l++oB true p).map ri,false⟩):=by
   rw[bq 2000 3 1 _ ri _ _ rfl,au ⟨by simp,by omega,.inr (by decide)⟩];simp[oB,ri]
  simp only[go_sem,iL,hap];exact cR [] _ [(1000,bx 2000 (l++oB true p)),(2000,ia (l++oB true p))] ⟨rfl,rfl⟩
def fP{p:Int}{b:Bool}{l:List Int}{d:Option Nat}{s:St}{K:St->Prop}(hl:l.length<=1000)(h1:ah s.heap 3=some (bx 900 l))(h2:ah s.heap 900=some (ia l))
  (hK:K (((St.mk (dE [900] s.env) ([(3,bx 900 (l++oB b p)),(900,ia (l++oB b p))]++dy [900] s.heap)).put d (.tup [])))):cO pg 50 [.int .i64 p,.bool b,.mp 3 1 0 0] d s K:=by
 refine dX (σ2:=[(3,bx 900 l),(900,ia l)]) (r3:=.tup []) (σ3:=[(3,bx 900 (l++oB b p)),(900,ia (l++oB b p))]) (afj p b l hl) [(1000,3),(2000,900)] [900] rfl rfl rfl rfl ?_ ?_ ?_ hK
 .simp[h1,h2]
 .simp[sb,bw,i5,ah]
 .simp[ah]
def ph(n:Nat)(p:Int):oB (decide ((n:Int)>0)) p=tP (n>0) p:=by
 unfold oB tP;by_cases h:n>0
 .rw[au h,aK (by omega)];rfl
 .rw[ak h,aL (by omega)];rfl
def afv(b:Bool)(p:Int):oB b p=tP (b=true) p:=rfl
def dP(c:Prop)[Decidable c](p:Int):(tP c p).length<=1:=by unfold tP;split<;>simp
def Tl(m:Md):aj pg 17 [gy m] (.sl 1 ((xG m).map ri)):=by
 refine aC pO ?_;rw[DI];simp only[go_sem,pO,gy,b_];refine⟨by kernel_rfl,?_⟩;refine iC (Es.new0 _ _ 900 1 3 (by decide) (by simp[go_sem])) ?_;refine iC (Es.nlm _ _ 3 (t:=44) (st:=1) (r:=[.nl]) (r':=[.ms 900 1 0 0]) (by simp only[go_sem]) ⟨.inr ⟨rfl,.inr ⟨900,1,rfl⟩⟩,trivial⟩) ?_;refine fP (l:=[]) (by simp) (by simp only[go_sem]) (by simp only[go_sem]) ?_;simp only[go_sem,ph,fo];generalize h1:tP (m.ts.length>0) 1=l1;have g1:l1.length<=1:=by rw[<-h1];exact dP _ _
 refine⟨by kernel_rfl,?_⟩;refine fP (l:=l1) (by omega) (by simp only[go_sem]) (by simp only[go_sem]) ?_;simp only[go_sem,ph,fo];generalize h2:l1++tP (m.ims.length>0) 2=l2;have g2:l2.length<=2:=by rw[<-h2,cP];have:=dP (m.ims.length>0) 2;omega
 refine⟨by kernel_rfl,?_⟩;refine fP (l:=l2) (by omega) (by simp only[go_sem]) (by simp only[go_sem]) ?_;simp only[go_sem,ph,fo];generalize h3:l2++tP (m.fs.length>0) 3=l3;have g3:l3.length<=3:=by rw[<-h3,cP];have:=dP (m.fs.length>0) 3;omega
 refine⟨by kernel_rfl,?_⟩;refine fP (l:=l3) (by omega) (by simp only[go_sem]) (by simp only[go_sem]) ?_;simp only[go_sem,ph,fo];generalize h4:l3++tP (m.tbs.length>0) 4=l4;have g4:l4.length<=4:=by rw[<-h4,cP];have:=dP (m.tbs.length>0) 4;omega
 refine⟨by kernel_rfl,?_⟩;refine fP (l:=l4) (by omega) (by simp only[go_sem]) (by simp only[go_sem]) ?_;simp only[go_sem,ph,fo];generalize h5:l4++tP (m.ms.length>0) 5=l5;have g5:l5.length<=5:=by rw[<-h5,cP];have:=dP (m.ms.length>0) 5;omega
 refine⟨by kernel_rfl,?_⟩;refine fP (l:=l5) (by omega) (by simp only[go_sem]) (by simp only[go_sem]) ?_;simp only[go_sem,ph,fo];generalize h6:l5++tP (m.gs.length>0) 6=l6;have g6:l6.length<=6:=by rw[<-h6,cP];have:=dP (m.gs.length>0) 6;omega
 refine⟨by kernel_rfl,?_⟩;refine fP (l:=l6) (by omega) (by simp only[go_sem]) (by simp only[go_sem]) ?_;simp only[go_sem,ph,fo];generalize h7:l6++tP (m.exs.length>0) 7=l7;have g7:l7.length<=7:=by rw[<-h7,cP];have:=dP (m.exs.length>0) 7;omega
 refine⟨by kernel_rfl,?_⟩;refine fP (l:=l7) (by omega) (by simp only[go_sem]) (by simp only[go_sem]) ?_;simp only[go_sem,afv,fo];generalize h8:l7++tP (m.hs=true) 8=l8;have g8:l8.length<=8:=by rw[<-h8,cP];have:=dP (m.hs=true) 8;omega
 refine⟨by kernel_rfl,?_⟩;refine fP (l:=l8) (by omega) (by simp only[go_sem]) (by simp only[go_sem]) ?_;simp only[go_sem,ph,fo];generalize h9:l8++tP (m.els.length>0) 9=l9;have g9:l9.length<=9:=by rw[<-h9,cP];have:=dP (m.els.length>0) 9;omega
 refine⟨by kernel_rfl,?_⟩;refine fP (l:=l9) (by omega) (by simp only[go_sem]) (by simp only[go_sem]) ?_;simp only[go_sem,ph,fo];generalize h10:l9++tP (m.ds.length>0) 10=l10;have g10:l10.length<=10:=by rw[<-h10,cP];have:=dP (m.ds.length>0) 10;omega
 refine⟨by kernel_rfl,?_⟩;refine fP (l:=l10) (by omega) (by simp only[go_sem]) (by simp only[go_sem]) ?_;simp only[go_sem,ph,fo];generalize h11:l10++tP (m.fs.length>0) 11=l11;have g11:l11.length<=11:=by rw[<-h11,cP];have:=dP (m.fs.length>0) 11;omega
 refine⟨by kernel_rfl,?_⟩;refine fP (l:=l11) (by omega) (by simp only[go_sem]) (by simp only[go_sem]) ?_;simp only[go_sem,ph,fo];generalize h12:l11++tP (m.ds.length>0) 12=l12;have g12:l12.length<=12:=by rw[<-h12,cP];have:=dP (m.ds.length>0) 12;omega
 exact aB [900] (by simp only[go_sem,a_];rw[cI (by simp)]) rfl
end
section
open Go Go.Mw
def IP(ks:List Int):List (AV×AV):=ks.map λp=>(AV.int .i64 p,AV.bool true)
def CK(n:Int):∀ks:List Int,(n∉ks/\jA .i (.int .i64 n) (IP ks)=some none)\/(n∈ks/\∃i p,jA .i (.int .i64 n) (IP ks)=some (some i)/\(IP ks)[i]?=some (p,.bool true))
 | []=>.inl ⟨by simp,rfl⟩
 | k::ks=>by
  by_cases h:n=k
  .subst h;refine .inr ⟨by simp,0,_,?_,rfl⟩;simp[IP,jA,Gi]
  .have e:jA .i (.int .i64 n) (IP (k::ks))=(jA .i (.int .i64 n) (IP ks)).map λq=>q.map (· + 1):=by
    have hb:(n==k)=false:=by simpa using h
    simp[IP,jA,Gi,hb]
   rcases CK n ks with⟨h1,h2⟩|⟨h1,i,p,h2,h3⟩
   .exact .inl ⟨by simp[h,h1],by rw[e,h2];rfl⟩
   .exact .inr ⟨by simp[h1],i+1,p,by rw[e,h2];rfl,by simpa[IP]using h3⟩
def Yt{n:Int}{ks:List Int}(h:n∉ks):JZ .i (.int .i64 n) (.bool true) (IP ks)=some (IP (ks++[n])):=by
 unfold JZ;rcases CK n ks with⟨_,h2⟩|⟨h1,_⟩
 .rw[h2];simp[IP]
 .exact absurd h1 h
def S1(K:AV->bz->Prop)(n:Int)(ks:List Int):lkS K false (.bool false) (IP ks) (jA .i (.int .i64 n) (IP ks))=K (.bool (decide (n∈ks))) .no:=by
 rcases CK n ks with⟨h1,h2⟩|⟨h1,i,p,h2,h3⟩
 .rw[h2,aL h1];rfl
 .rw[h2,aK h1];simp[lkS,h3]
def DJ(m:Md):(xG m).length<=12:=by
 rw[DI];simp only[cP];have:=dP (m.ts.length>0) 1;have:=dP (m.ims.length>0) 2;have:=dP (m.fs.length>0) 3;have:=dP (m.tbs.length>0) 4;have:=dP (m.ms.length>0) 5;have:=dP (m.gs.length>0) 6;have:=dP (m.exs.length>0) 7;have:=dP (m.hs=true) 8;have:=dP (m.els.length>0) 9;have:=dP (m.ds.length>0) 10;have:=dP (m.fs.length>0) 11;have:=dP (m.ds.length>0) 12;omega
attribute[local go_sem] bZ ce az b_ fv
def Pe{m:Md}(hc:m.cs.length<=9223372036854775807):aj pg 24 [gy m] (.bool (Pr m)):=by
 refine aC qI ?_;have c:=Tl m;have hpw:=NC m;unfold Pr;simp only[gy,b_]at c;have hpl:=DJ m;generalize xG m=ps at*;have h0:IP [0]=[(AV.int .i64 0,AV.bool true)]:=rfl;have hf0:JZ .i (.int .i64 0) (.bool true) []=some (IP [0]):=rfl;simp only[go_sem,qI,gy];refine⟨rfl,rfl,_,hf0,?_⟩;refine aa (c) ?_;refine aq (λi:Nat=>⟨[(14,.int .i64 i),(13,.int .i64 ps.length),(12,.sl 1 (ps.map ri)),(3,.mm 9 true),(1,.mp 1 12 0 0)],[(9,@ao.mk 0 0 [] false (.mp (IP (0::ps.take i)))),(1,⟨33,12,[[.sl 2 (m.ts.map my),.sl 13 (m.ims.map pw),.sl 3 (m.fs.map kM),.sl 4 (m.tbs.map rM),.sl 3 (m.ms.map j7),.sl 3 (m.gs.map wF),.sl 3 (m.exs.map vx),.bool m.hs,.int .i64 m.st,.sl 5 (m.els.map eF),.sl 4 (m.ds.map iz),.sl 3 (m.cs.map yf)]],true⟩)]⟩) (λi=>i<=ps.length) (λi=>ps.length-i) 0 (cm _) (Wk.of ?_ ?_) ?_
 .simp only[go_sem];try simp
 .simp only[go_sem,rI];try simp[go_sem]
 intro i hi2;by_cases q1:(i:Int)<(ps.length:Int)
 .have hi':i<ps.length:=by omega
  have e8:=ey hi' (by omega);have hn:ac ps i∉0::ps.take i:=by
   rw[List.pairwise_cons]at hpw;have e:ps=ps.take i++ps.drop i:=(Ku _ _).symm;have hd:ac ps i∈ps.drop i:=by rw[r9 hi'];simp
   have hp2:=hpw.2;rw[e,List.pairwise_append]at hp2;intro hm;rcases dQ.1 hm with q|q
   .have:=hpw.1 _ (List.mem_of_mem_drop hd);omega
   .have:=hp2.2.2 _ q _ hd;omega
  have hput:=Yt hn;have hnx:0::ps.take i++[ac ps i]=0::ps.take (i+1):=by rw[D_ hi'];rfl
  rw[hnx]at hput;simp only[go_sem,aK q1];refine⟨by omega,q1,rfl,rfl,_,hput,?_⟩;refine aF (i+1) (show i+1<=ps.length by omega) (show ps.length-(i+1)<ps.length-i by omega) (Wk.of ?_ ?_)
  .simp only[go_sem,e8];try simp
  .simp only[go_sem];try simp[go_sem]
 obtain rfl:i=ps.length:=by omega
 rw[pJ];simp only[go_sem,aL q1];clear q1 hi2;have hin:∀a:Int,decide (a∈0::ps)=decide (a=0\/a∈ps):=λa=>by simp
 refine aq (λq:Nat×Int=>⟨[(24,.int .i64 q.1),(23,.int .i64 m.cs.length),(22,.sl 3 (m.cs.map yf)),(6,.int .i64 q.2),(3,.mm 9 true)],[(9,@ao.mk 0 0 [] false (.mp (IP (0::ps))))]⟩) (λq=>q.1<=m.cs.length/\E0 ps q.2 (m.cs.drop q.1)=E0 ps 0 m.cs) (λq=>m.cs.length-q.1) (0,0) ⟨cm _,rfl⟩ (Wk.of ?_ ?_) ?_
 .simp only[go_sem];try simp
 .simp only[go_sem];try simp[go_sem]
 rintro⟨i,l⟩ ⟨hi2,ho⟩;simp only at hi2 ho;by_cases q1:(i:Int)<(m.cs.length:Int);rotate_left
 .rw[If (by omega),E0]at ho;rw[<-ho];simp only[go_sem,aL q1];exact an
 have hi':i<m.cs.length:=by omega
 have e8:=ey hi' (by omega);rw[r9 hi',E0]at ho;by_cases q2:(ac m.cs i).af<l
 .rw[aK q2,eC,dk,qC]at ho;rw[<-ho];simp only[go_sem,aK q1,aK q2];refine⟨by omega,q1,?_⟩;exact an
 by_cases q3:(ac m.cs i).af=0\/(ac m.cs i).af∈ps
 .rw[aL q2,aK q3]at ho;simp only[dk,Bool.or_self,cG,bY]at ho;simp only[go_sem,aK q1,aL q2,S1,hin,aK q3];refine⟨by omega,q1,?_⟩;refine aF (i+1,(ac m.cs i).af) ⟨show i+1<=m.cs.length by omega,ho⟩ (show m.cs.length-(i+1)<m.cs.length-i by omega) (Wk.of ?_ ?_)
  .simp only[go_sem,e8];try simp
  .simp only[go_sem];try simp[go_sem]
 .rw[aL q2,aL q3]at ho;simp only[cG,Bool.or_true,dk,qC]at ho;rw[<-ho];simp only[go_sem,aK q1,aL q2,S1,hin,aL q3];refine⟨by omega,q1,?_⟩;exact an
end
section
open Go Go.Mw
def fp(a b:Md):Prop:=a.hs=b.hs/\(a.hs=true->a.st=b.st)/\a.ts=b.ts/\a.ims=b.ims/\a.fs=b.fs/\(a.tbs=b.tbs/\a.ms=b.ms)/\a.gs=b.gs/\a.exs=b.exs/\a.els=b.els/\a.ds=b.ds/\a.cs=b.cs
instance(a b:Md):Decidable (fp a b):=by unfold fp;exact inferInstance
def KF(a:Md):fp a a:=⟨rfl,λ_=>rfl,rfl,rfl,rfl,⟨rfl,rfl⟩,rfl,rfl,rfl,rfl,rfl⟩
attribute[local go_sem] bZ b_ dA dc
def YJ(a b:Md)(ha:a.tbs.length<=140737488355328)(hb:a.ms.length<=140737488355328):aj pg 44 [gy a,gy b] (.bool (decide (a.tbs=b.tbs/\a.ms=b.ms))):=by
 refine aC gu ?_;by_cases l1:(a.tbs.length:Int)=(b.tbs.length:Int);rotate_left
 .rw[aL (λh=>l1 (by rw[h.1]))];simp only[go_sem,gu,gy,bj l1];exact an
 by_cases l2:(a.ms.length:Int)=(b.ms.length:Int);rotate_left
 .rw[aL (λh=>l2 (by rw[h.2]))];simp only[go_sem,gu,gy,aI l1,bj l2];exact an
 simp only[go_sem,gu,gy,aI l1,aI l2];refine aq (λj:Nat=>⟨[(5,.int .i64 j),(2,.mp 2 12 0 0),(3,.mp 3 12 0 0)],[(2,⟨33,12,[vl a],true⟩),(3,⟨33,12,[vl b],true⟩)]⟩) (λj=>j<=a.tbs.length/\∀k,k<j->ac a.tbs k=ac b.tbs k) (λj=>a.tbs.length-j) 0 ⟨cm _,λk hk=>by omega⟩ (Wk.of ?_ ?_) ?_
 .simp only[go_sem];try simp
 .simp only[go_sem]
 rintro j ⟨hj,hx⟩;by_cases h1:(j:Int)<(a.tbs.length:Int)
 .have hj':j<a.tbs.length:=by omega
  have hjb:(j:Int)<(b.tbs.length:Int):=by omega
  have e8:=ey hj' (by omega);by_cases h2:ac a.tbs j=ac b.tbs j
  .simp only[go_sem,aK h1,aaa,aK h2,dk];refine⟨by omega,h1,by omega,hjb,aF (j+1) ⟨show j+1<=a.tbs.length by omega,λk hk=>?_⟩ (show a.tbs.length-(j+1)<a.tbs.length-j by omega) (Wk.of ?_ ?_)⟩
   .rcases fV k j with h|h
    .exact hx k h
    .rw[show k=j by omega];exact h2
   .simp only[go_sem,e8];try simp
   .simp only[go_sem]
  .rw[aL (λe=>h2 (by rw[e.1]))];simp only[go_sem,aK h1,aaa,aL h2,cG];refine⟨by omega,h1,by omega,hjb,?_⟩;exact an
 have g1:a.tbs=b.tbs:=kO (by omega) λk hk=>hx k (by omega);simp only[go_sem,aL h1];clear hx h1 hj;refine aq (λj:Nat=>⟨[(6,.int .i64 j),(2,.mp 2 12 0 0),(3,.mp 3 12 0 0)],[(2,⟨33,12,[vl a],true⟩),(3,⟨33,12,[vl b],true⟩)]⟩) (λj=>j<=a.ms.length/\∀k,k<j->ac a.ms k=ac b.ms k) (λj=>a.ms.length-j) 0 ⟨cm _,λk hk=>by omega⟩ (Wk.of ?_ ?_) ?_
 .simp only[go_sem];try simp
 .simp only[go_sem]
 rintro j ⟨hj,hx⟩;by_cases h1:(j:Int)<(a.ms.length:Int)
 .have hj':j<a.ms.length:=by omega
  have hjb:(j:Int)<(b.ms.length:Int):=by omega
  have e8:=ey hj' (by omega);by_cases h2:ac a.ms j=ac b.ms j
  .simp only[go_sem,aK h1,ZP,aK h2,dk];refine⟨by omega,h1,by omega,hjb,aF (j+1) ⟨show j+1<=a.ms.length by omega,λk hk=>?_⟩ (show a.ms.length-(j+1)<a.ms.length-j by omega) (Wk.of ?_ ?_)⟩
   .rcases fV k j with h|h
    .exact hx k h
    .rw[show k=j by omega];exact h2
   .simp only[go_sem,e8];try simp
   .simp only[go_sem]
  .rw[aL (λe=>h2 (by rw[e.2]))];simp only[go_sem,aK h1,ZP,aL h2,cG];refine⟨by omega,h1,by omega,hjb,?_⟩;exact an
 have g2:a.ms=b.ms:=kO (by omega) λk hk=>hx k (by omega);rw[aK ⟨g1,g2⟩];simp only[go_sem,aL h1];exact an
def YG(a b:Md)(h:U4 a):aj pg 16 [gy a,gy b] (.bool (decide (fp a b))):=by
 refine aC bc ?_;have d0:=YN a.ts b.ts ⟨m8 h.ts.1 (by decide),h.ts.2⟩;have d1:=acP a.ims b.ims (m8 h.ims (by decide));have d2:=Yw a.fs b.fs ⟨m8 h.fs.1 (by decide),h.fs.2⟩;have d3:=YJ a b h.tbs h.ms;have d4:=YD a.gs b.gs ⟨m8 h.gs.1 (by decide),h.gs.2⟩;have d5:=acO a.exs b.exs (m8 h.exs (by decide));have d6:=Yy a.els b.els ⟨m8 h.els.1 (by decide),h.els.2⟩;have d7:=acN a.ds b.ds ⟨m8 h.ds.1 (by decide),h.ds.2⟩;have d8:=Yx a.cs b.cs (m8 h.cs.1 (by decide));simp only[gy,b_]at d3;by_cases e1:a.hs=b.hs;rotate_left
 .rw[aL (λe:fp a b=>e1 e.1)];cases ha:a.hs<;>cases hb:b.hs
  .exact absurd (ha.trans hb.symm) e1
  .simp only[go_sem,bc,gy,ha,hb,show(false==true)=false from rfl,cG,dk];exact an
  .simp only[go_sem,bc,gy,ha,hb,show(true==false)=false from rfl,cG,dk];exact an
  .exact absurd (ha.trans hb.symm) e1
 cases ha:a.hs
 .have hb:b.hs=false:=by rw[<-e1];exact ha
  rw[ha,hb]at d3;by_cases c0:a.ts=b.ts;rotate_left
  .rw[aL c0]at d0;rw[aL (λe:fp a b=>c0 e.2.2.1)];simp only[go_sem,bc,gy,ha,hb,show(false==false)=true from rfl,cG,dk];refine aa (d0) ?_;exact an
  rw[aK c0]at d0;by_cases c1:a.ims=b.ims;rotate_left
  .rw[aL c1]at d1;rw[aL (λe:fp a b=>c1 e.2.2.2.1)];simp only[go_sem,bc,gy,ha,hb,show(false==false)=true from rfl,cG,dk];refine aa (d0) ?_;refine aa (d1) ?_;exact an
  rw[aK c1]at d1;by_cases c2:a.fs=b.fs;rotate_left
  .rw[aL c2]at d2;rw[aL (λe:fp a b=>c2 e.2.2.2.2.1)];simp only[go_sem,bc,gy,ha,hb,show(false==false)=true from rfl,cG,dk];refine aa (d0) ?_;refine aa (d1) ?_;refine aa (d2) ?_;exact an
  rw[aK c2]at d2;by_cases c3:a.tbs=b.tbs/\a.ms=b.ms;rotate_left
  .rw[aL c3]at d3;rw[aL (λe:fp a b=>c3 e.2.2.2.2.2.1)];simp only[go_sem,bc,gy,ha,hb,show(false==false)=true from rfl,cG,dk];refine aa (d0) ?_;refine aa (d1) ?_;refine aa (d2) ?_;refine aa (d3) ?_;exact an
  rw[aK c3]at d3;by_cases c4:a.gs=b.gs;rotate_left
  .rw[aL c4]at d4;rw[aL (λe:fp a b=>c4 e.2.2.2.2.2.2.1)];simp only[go_sem,bc,gy,ha,hb,show(false==false)=true from rfl,cG,dk];refine aa (d0) ?_;refine aa (d1) ?_;refine aa (d2) ?_;refine aa (d3) ?_;refine aa (d4) ?_;exact an
  rw[aK c4]at d4;by_cases c5:a.exs=b.exs;rotate_left
  .rw[aL c5]at d5;rw[aL (λe:fp a b=>c5 e.2.2.2.2.2.2.2.1)];simp only[go_sem,bc,gy,ha,hb,show(false==false)=true from rfl,cG,dk];refine aa (d0) ?_;refine aa (d1) ?_;refine aa (d2) ?_;refine aa (d3) ?_;refine aa (d4) ?_;refine aa (d5) ?_;exact an
  rw[aK c5]at d5;by_cases c6:a.els=b.els;rotate_left
  .rw[aL c6]at d6;rw[aL (λe:fp a b=>c6 e.2.2.2.2.2.2.2.2.1)];simp only[go_sem,bc,gy,ha,hb,show(false==false)=true from rfl,cG,dk];refine aa (d0) ?_;refine aa (d1) ?_;refine aa (d2) ?_;refine aa (d3) ?_;refine aa (d4) ?_;refine aa (d5) ?_;refine aa (d6) ?_;exact an
  rw[aK c6]at d6;by_cases c7:a.ds=b.ds;rotate_left
  .rw[aL c7]at d7;rw[aL (λe:fp a b=>c7 e.2.2.2.2.2.2.2.2.2.1)];simp only[go_sem,bc,gy,ha,hb,show(false==false)=true from rfl,cG,dk];refine aa (d0) ?_;refine aa (d1) ?_;refine aa (d2) ?_;refine aa (d3) ?_;refine aa (d4) ?_;refine aa (d5) ?_;refine aa (d6) ?_;refine aa (d7) ?_;exact an
  rw[aK c7]at d7;by_cases c8:a.cs=b.cs;rotate_left
  .rw[aL c8]at d8;rw[aL (λe:fp a b=>c8 e.2.2.2.2.2.2.2.2.2.2)];simp only[go_sem,bc,gy,ha,hb,show(false==false)=true from rfl,cG,dk];refine aa (d0) ?_;refine aa (d1) ?_;refine aa (d2) ?_;refine aa (d3) ?_;refine aa (d4) ?_;refine aa (d5) ?_;refine aa (d6) ?_;refine aa (d7) ?_;refine aa (d8) ?_;exact an
  rw[aK c8]at d8;rw[aK (show fp a b from⟨e1,λq=>absurd (ha.symm.trans q) (by decide),c0,c1,c2,c3,c4,c5,c6,c7,c8⟩)];simp only[go_sem,bc,gy,ha,hb,show(false==false)=true from rfl,cG,dk];refine aa (d0) ?_;refine aa (d1) ?_;refine aa (d2) ?_;refine aa (d3) ?_;refine aa (d4) ?_;refine aa (d5) ?_;refine aa (d6) ?_;refine aa (d7) ?_;refine aa (d8) ?_;exact an
 .have hb:b.hs=true:=by rw[<-e1];exact ha
  rw[ha,hb]at d3;by_cases e2:a.st=b.st;rotate_left
  .rw[aL (λe:fp a b=>e2 (e.2.1 ha))];simp only[go_sem,bc,gy,ha,hb,show(true==true)=true from rfl,cG,dk,bj e2];exact an
  by_cases c0:a.ts=b.ts;rotate_left
  .rw[aL c0]at d0;rw[aL (λe:fp a b=>c0 e.2.2.1)];simp only[go_sem,bc,gy,ha,hb,show(true==true)=true from rfl,cG,dk,aI e2];refine aa (d0) ?_;exact an
  rw[aK c0]at d0;by_cases c1:a.ims=b.ims;rotate_left
  .rw[aL c1]at d1;rw[aL (λe:fp a b=>c1 e.2.2.2.1)];simp only[go_sem,bc,gy,ha,hb,show(true==true)=true from rfl,cG,dk,aI e2];refine aa (d0) ?_;refine aa (d1) ?_;exact an
  rw[aK c1]at d1;by_cases c2:a.fs=b.fs;rotate_left
  .rw[aL c2]at d2;rw[aL (λe:fp a b=>c2 e.2.2.2.2.1)];simp only[go_sem,bc,gy,ha,hb,show(true==true)=true from rfl,cG,dk,aI e2];refine aa (d0) ?_;refine aa (d1) ?_;refine aa (d2) ?_;exact an
  rw[aK c2]at d2;by_cases c3:a.tbs=b.tbs/\a.ms=b.ms;rotate_left
  .rw[aL c3]at d3;rw[aL (λe:fp a b=>c3 e.2.2.2.2.2.1)];simp only[go_sem,bc,gy,ha,hb,show(true==true)=true from rfl,cG,dk,aI e2];refine aa (d0) ?_;refine aa (d1) ?_;refine aa (d2) ?_;refine aa (d3) ?_;exact an
  rw[aK c3]at d3;by_cases c4:a.gs=b.gs;rotate_left
  .rw[aL c4]at d4;rw[aL (λe:fp a b=>c4 e.2.2.2.2.2.2.1)];simp only[go_sem,bc,gy,ha,hb,show(true==true)=true from rfl,cG,dk,aI e2];refine aa (d0) ?_;refine aa (d1) ?_;refine aa (d2) ?_;refine aa (d3) ?_;refine aa (d4) ?_;exact an
  rw[aK c4]at d4;by_cases c5:a.exs=b.exs;rotate_left
  .rw[aL c5]at d5;rw[aL (λe:fp a b=>c5 e.2.2.2.2.2.2.2.1)];simp only[go_sem,bc,gy,ha,hb,show(true==true)=true from rfl,cG,dk,aI e2];refine aa (d0) ?_;refine aa (d1) ?_;refine aa (d2) ?_;refine aa (d3) ?_;refine aa (d4) ?_;refine aa (d5) ?_;exact an
  rw[aK c5]at d5;by_cases c6:a.els=b.els;rotate_left
  .rw[aL c6]at d6;rw[aL (λe:fp a b=>c6 e.2.2.2.2.2.2.2.2.1)];simp only[go_sem,bc,gy,ha,hb,show(true==true)=true from rfl,cG,dk,aI e2];refine aa (d0) ?_;refine aa (d1) ?_;refine aa (d2) ?_;refine aa (d3) ?_;refine aa (d4) ?_;refine aa (d5) ?_;refine aa (d6) ?_;exact an
  rw[aK c6]at d6;by_cases c7:a.ds=b.ds;rotate_left
  .rw[aL c7]at d7;rw[aL (λe:fp a b=>c7 e.2.2.2.2.2.2.2.2.2.1)];simp only[go_sem,bc,gy,ha,hb,show(true==true)=true from rfl,cG,dk,aI e2];refine aa (d0) ?_;refine aa (d1) ?_;refine aa (d2) ?_;refine aa (d3) ?_;refine aa (d4) ?_;refine aa (d5) ?_;refine aa (d6) ?_;refine aa (d7) ?_;exact an
  rw[aK c7]at d7;by_cases c8:a.cs=b.cs;rotate_left
  .rw[aL c8]at d8;rw[aL (λe:fp a b=>c8 e.2.2.2.2.2.2.2.2.2.2)];simp only[go_sem,bc,gy,ha,hb,show(true==true)=true from rfl,cG,dk,aI e2];refine aa (d0) ?_;refine aa (d1) ?_;refine aa (d2) ?_;refine aa (d3) ?_;refine aa (d4) ?_;refine aa (d5) ?_;refine aa (d6) ?_;refine aa (d7) ?_;refine aa (d8) ?_;exact an
  rw[aK c8]at d8;rw[aK (show fp a b from⟨e1,λ_=>e2,c0,c1,c2,c3,c4,c5,c6,c7,c8⟩)];simp only[go_sem,bc,gy,ha,hb,show(true==true)=true from rfl,cG,dk,aI e2];refine aa (d0) ?_;refine aa (d1) ?_;refine aa (d2) ?_;refine aa (d3) ?_;refine aa (d4) ?_;refine aa (d5) ?_;refine aa (d6) ?_;refine aa (d7) ?_;refine aa (d8) ?_;exact an
end
open Go Go.Mw
