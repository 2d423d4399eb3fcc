import Derived.Test.YtdfofedlbljnhaaGreatDoorWQp
set_option linter.all false
set_option maxRecDepth 100000
set_option maxHeartbeats 40000000
namespace Go.Proofs.YtdfofedlbljnhaaGreatDoor
section
open Go Go.Mw
attribute[local go_sem] cU wo wa cL dm aS iz
def zd(l:List bj):ac pg C7 [.sl 9 (l.map aS)] (.bool (tF l)):=by
 refine aD jN ?_;unfold tF;by_cases q1:l.length=2;rotate_left
 .rw[iS.2 q1];simp only[go_sem,jN,aw (show(l.length:Int)≠2 by omega),dR];exact az
 rw[q1];by_cases q2:(ah l 0).op=210;rotate_left
 .rw[aw q2];simp only[go_sem,jN,be (show(l.length:Int)=2 by omega),aw q2,dR,Bool.and_false];refine⟨by omega,by omega,?_⟩;exact az
 rw[be q2];simp only[go_sem,jN,be (show(l.length:Int)=2 by omega),be q2];refine⟨by omega,by omega,by omega,by omega,?_⟩;cases (ah l 1).op==11
 .exact az
 .exact az
def or4{n:Int}(h:0<=n/\n<=3):We .i64 n 4=n+4:=by
 rcases(show n=0\/n=1\/n=2\/n=3 by omega)with rfl|rfl|rfl|rfl<;>rfl
def s7(x:El)(i:Nat):Bool:=(x.ty != 3)||(x.it.take i).any (λl=>!tF l)
def Jt{x:El}{i:Nat}(h:i<x.it.length):s7 x (i+1)=(s7 x i || !tF (ah x.it i)):=by
 unfold s7;rw[su h,List.any_append,Bool.or_assoc];simp
def XF{x:El}(hm:0<=x.mo/\x.mo<=2)(hl:x.it.length<=256):ac pg xQ [.agg (fR x)] (.int .i64 (dp x:Nat)):=by
 refine aD dn ?_;by_cases m1:x.mo=1
 .obtain⟨bs,hbs,hf⟩:∃bs:Nat,bs=1/\dp x=(if dL x=true then 4 else 0)+bs:=⟨1,rfl,by unfold dp;rw[aF m1]⟩
  have hb:0<=(bs:Int)/\(bs:Int)<=3:=by omega
  simp only[go_sem,dn,bh,be m1];refine an (λi:Nat=>⟨[(30,.int .i64 i),(29,.int .i64 x.it.length),(28,.sl 1 (x.it.map jY)),(4,.bool (s7 x i)),(3,.int .i64 bs)],[]⟩) (λi=>i<=x.it.length) (λi=>x.it.length-i) 0 (cQ _) (Wk.of ?_ ?_) ?_
  .subst hbs;simp only[go_sem];first|done|(simp[s7];done)|(simp[s7];assumption)
  .simp only[go_sem]
  intro i hi2;by_cases q1:(i:Int)<(x.it.length:Int);rotate_left
  .obtain rfl:i=x.it.length:=by omega
   have he:s7 x x.it.length=dL x:=by unfold s7 dL;rw[eV]
   rw[hf,<-he];cases s7 x x.it.length
   .simp only[go_sem,aM q1];exact aq [] (by simp only[go_sem];try simp) rfl
   .simp only[go_sem,aM q1,or4 hb];exact aq [] (by simp only[go_sem];try simp[Int.add_comm]) rfl
  have hi':i<x.it.length:=by omega
  have e8:=dv hi' (by omega);have hn:=Jt hi';have c:=zd (ah x.it i);cases hx:s7 x i
  .rw[hx,kA]at hn;simp only[go_sem,aL q1,hx];refine⟨by omega,q1,?_⟩;refine aa (c) ?_;refine aE (i+1) (show i+1<=x.it.length by omega) (show x.it.length-(i+1)<x.it.length-i by omega) (Wk.of ?_ ?_)
   .simp only[go_sem,e8,hn];try simp
   .simp only[go_sem]
  .rw[hx,iT]at hn;simp only[go_sem,aL q1,hx];refine⟨by omega,q1,?_⟩;refine aE (i+1) (show i+1<=x.it.length by omega) (show x.it.length-(i+1)<x.it.length-i by omega) (Wk.of ?_ ?_)
   .simp only[go_sem,e8,hn];try simp
   .simp only[go_sem]
 by_cases m2:x.mo=2
 .obtain⟨bs,hbs,hf⟩:∃bs:Nat,bs=3/\dp x=(if dL x=true then 4 else 0)+bs:=⟨3,rfl,by unfold dp;rw[au m1,aF m2]⟩
  have hb:0<=(bs:Int)/\(bs:Int)<=3:=by omega
  simp only[go_sem,dn,bh,aw m1,be m2];refine an (λi:Nat=>⟨[(30,.int .i64 i),(29,.int .i64 x.it.length),(28,.sl 1 (x.it.map jY)),(4,.bool (s7 x i)),(3,.int .i64 bs)],[]⟩) (λi=>i<=x.it.length) (λi=>x.it.length-i) 0 (cQ _) (Wk.of ?_ ?_) ?_
  .subst hbs;simp only[go_sem];first|done|(simp[s7];done)|(simp[s7];assumption)
  .simp only[go_sem]
  intro i hi2;by_cases q1:(i:Int)<(x.it.length:Int);rotate_left
  .obtain rfl:i=x.it.length:=by omega
   have he:s7 x x.it.length=dL x:=by unfold s7 dL;rw[eV]
   rw[hf,<-he];cases s7 x x.it.length
   .simp only[go_sem,aM q1];exact aq [] (by simp only[go_sem];try simp) rfl
   .simp only[go_sem,aM q1,or4 hb];exact aq [] (by simp only[go_sem];try simp[Int.add_comm]) rfl
  have hi':i<x.it.length:=by omega
  have e8:=dv hi' (by omega);have hn:=Jt hi';have c:=zd (ah x.it i);cases hx:s7 x i
  .rw[hx,kA]at hn;simp only[go_sem,aL q1,hx];refine⟨by omega,q1,?_⟩;refine aa (c) ?_;refine aE (i+1) (show i+1<=x.it.length by omega) (show x.it.length-(i+1)<x.it.length-i by omega) (Wk.of ?_ ?_)
   .simp only[go_sem,e8,hn];try simp
   .simp only[go_sem]
  .rw[hx,iT]at hn;simp only[go_sem,aL q1,hx];refine⟨by omega,q1,?_⟩;refine aE (i+1) (show i+1<=x.it.length by omega) (show x.it.length-(i+1)<x.it.length-i by omega) (Wk.of ?_ ?_)
   .simp only[go_sem,e8,hn];try simp
   .simp only[go_sem]
 by_cases m3:x.tb=0;rotate_left
 .obtain⟨bs,hbs,hf⟩:∃bs:Nat,bs=2/\dp x=(if dL x=true then 4 else 0)+bs:=⟨2,rfl,by unfold dp;rw[au m1,au m2,aF (show x.tb≠0\/x.ty≠3 from .inl m3)]⟩
  have hb:0<=(bs:Int)/\(bs:Int)<=3:=by omega
  simp only[go_sem,dn,bh,aw m1,aw m2,bv m3];refine an (λi:Nat=>⟨[(30,.int .i64 i),(29,.int .i64 x.it.length),(28,.sl 1 (x.it.map jY)),(4,.bool (s7 x i)),(3,.int .i64 bs)],[]⟩) (λi=>i<=x.it.length) (λi=>x.it.length-i) 0 (cQ _) (Wk.of ?_ ?_) ?_
  .subst hbs;simp only[go_sem];first|done|(simp[s7];done)|(simp[s7];assumption)
  .simp only[go_sem]
  intro i hi2;by_cases q1:(i:Int)<(x.it.length:Int);rotate_left
  .obtain rfl:i=x.it.length:=by omega
   have he:s7 x x.it.length=dL x:=by unfold s7 dL;rw[eV]
   rw[hf,<-he];cases s7 x x.it.length
   .simp only[go_sem,aM q1];exact aq [] (by simp only[go_sem];try simp) rfl
   .simp only[go_sem,aM q1,or4 hb];exact aq [] (by simp only[go_sem];try simp[Int.add_comm]) rfl
  have hi':i<x.it.length:=by omega
  have e8:=dv hi' (by omega);have hn:=Jt hi';have c:=zd (ah x.it i);cases hx:s7 x i
  .rw[hx,kA]at hn;simp only[go_sem,aL q1,hx];refine⟨by omega,q1,?_⟩;refine aa (c) ?_;refine aE (i+1) (show i+1<=x.it.length by omega) (show x.it.length-(i+1)<x.it.length-i by omega) (Wk.of ?_ ?_)
   .simp only[go_sem,e8,hn];try simp
   .simp only[go_sem]
  .rw[hx,iT]at hn;simp only[go_sem,aL q1,hx];refine⟨by omega,q1,?_⟩;refine aE (i+1) (show i+1<=x.it.length by omega) (show x.it.length-(i+1)<x.it.length-i by omega) (Wk.of ?_ ?_)
   .simp only[go_sem,e8,hn];try simp
   .simp only[go_sem]
 by_cases m4:x.ty=3;rotate_left
 .obtain⟨bs,hbs,hf⟩:∃bs:Nat,bs=2/\dp x=(if dL x=true then 4 else 0)+bs:=⟨2,rfl,by unfold dp;rw[au m1,au m2,aF (show x.tb≠0\/x.ty≠3 from .inr m4)]⟩
  have hb:0<=(bs:Int)/\(bs:Int)<=3:=by omega
  simp only[go_sem,dn,bh,aw m1,aw m2,bB m3,bv m4];refine an (λi:Nat=>⟨[(30,.int .i64 i),(29,.int .i64 x.it.length),(28,.sl 1 (x.it.map jY)),(4,.bool (s7 x i)),(3,.int .i64 bs)],[]⟩) (λi=>i<=x.it.length) (λi=>x.it.length-i) 0 (cQ _) (Wk.of ?_ ?_) ?_
  .subst hbs;simp only[go_sem];first|done|(simp[s7];done)|(simp[s7];assumption)
  .simp only[go_sem]
  intro i hi2;by_cases q1:(i:Int)<(x.it.length:Int);rotate_left
  .obtain rfl:i=x.it.length:=by omega
   have he:s7 x x.it.length=dL x:=by unfold s7 dL;rw[eV]
   rw[hf,<-he];cases s7 x x.it.length
   .simp only[go_sem,aM q1];exact aq [] (by simp only[go_sem];try simp) rfl
   .simp only[go_sem,aM q1,or4 hb];exact aq [] (by simp only[go_sem];try simp[Int.add_comm]) rfl
  have hi':i<x.it.length:=by omega
  have e8:=dv hi' (by omega);have hn:=Jt hi';have c:=zd (ah x.it i);cases hx:s7 x i
  .rw[hx,kA]at hn;simp only[go_sem,aL q1,hx];refine⟨by omega,q1,?_⟩;refine aa (c) ?_;refine aE (i+1) (show i+1<=x.it.length by omega) (show x.it.length-(i+1)<x.it.length-i by omega) (Wk.of ?_ ?_)
   .simp only[go_sem,e8,hn];try simp
   .simp only[go_sem]
  .rw[hx,iT]at hn;simp only[go_sem,aL q1,hx];refine⟨by omega,q1,?_⟩;refine aE (i+1) (show i+1<=x.it.length by omega) (show x.it.length-(i+1)<x.it.length-i by omega) (Wk.of ?_ ?_)
   .simp only[go_sem,e8,hn];try simp
   .simp only[go_sem]
 .obtain⟨bs,hbs,hf⟩:∃bs:Nat,bs=0/\dp x=(if dL x=true then 4 else 0)+bs:=⟨0,rfl,by unfold dp;rw[au m1,au m2,au (show ¬(x.tb≠0\/x.ty≠3)by simp[m3,m4])]⟩
  have hb:0<=(bs:Int)/\(bs:Int)<=3:=by omega
  simp only[go_sem,dn,bh,aw m1,aw m2,bB m3,bB m4];refine an (λi:Nat=>⟨[(30,.int .i64 i),(29,.int .i64 x.it.length),(28,.sl 1 (x.it.map jY)),(4,.bool (s7 x i)),(3,.int .i64 bs)],[]⟩) (λi=>i<=x.it.length) (λi=>x.it.length-i) 0 (cQ _) (Wk.of ?_ ?_) ?_
  .subst hbs;simp only[go_sem];first|done|(simp[s7];done)|(simp[s7];assumption)
  .simp only[go_sem]
  intro i hi2;by_cases q1:(i:Int)<(x.it.length:Int);rotate_left
  .obtain rfl:i=x.it.length:=by omega
   have he:s7 x x.it.length=dL x:=by unfold s7 dL;rw[eV]
   rw[hf,<-he];cases s7 x x.it.length
   .simp only[go_sem,aM q1];exact aq [] (by simp only[go_sem];try simp) rfl
   .simp only[go_sem,aM q1,or4 hb];exact aq [] (by simp only[go_sem];try simp[Int.add_comm]) rfl
  have hi':i<x.it.length:=by omega
  have e8:=dv hi' (by omega);have hn:=Jt hi';have c:=zd (ah x.it i);cases hx:s7 x i
  .rw[hx,kA]at hn;simp only[go_sem,aL q1,hx];refine⟨by omega,q1,?_⟩;refine aa (c) ?_;refine aE (i+1) (show i+1<=x.it.length by omega) (show x.it.length-(i+1)<x.it.length-i by omega) (Wk.of ?_ ?_)
   .simp only[go_sem,e8,hn];try simp
   .simp only[go_sem]
  .rw[hx,iT]at hn;simp only[go_sem,aL q1,hx];refine⟨by omega,q1,?_⟩;refine aE (i+1) (show i+1<=x.it.length by omega) (show x.it.length-(i+1)<x.it.length-i by omega) (Wk.of ?_ ?_)
   .simp only[go_sem,e8,hn];try simp
   .simp only[go_sem]
def Zo{n:Nat}(h:n<=7):bU .i64 (n:Int) 1=((n%2:Nat):Int)/\bU .i64 (n:Int) 2=((n%4/2*2:Nat):Int)/\bU .i64 (n:Int) 4=((n/4*4:Nat):Int):=by
 rcases(show n=0\/n=1\/n=2\/n=3\/n=4\/n=5\/n=6\/n=7 by omega)with rfl|rfl|rfl|rfl|rfl|rfl|rfl|rfl<;>exact⟨rfl,rfl,rfl⟩
def adU{n:Nat}{l:List bj}(hn:n<=7)(h1:n<4->tF l=true)(h3:Mb l)(h4:l.length<=2048):WX mg [.sl 9 (l.map aS),.ip [.int .i64 (n:Int)]] (fS n l):=by
 intro w hw;refine bT gG ?_;obtain⟨f1,f2,f3⟩:=Zo hn;unfold fS at hw⊢;by_cases q:n<4
 .rw[aF q]at hw⊢;obtain⟨e1,e2,e3⟩:=vO (h1 q) h3;have hl2:l.length=2:=by rw[e1];rfl
  have z:(n/4*4:Nat)=0:=by omega
  replace f3:bU .i64 (n:Int) 4=0:=by rw[f3,z];rfl
  simp only[go_sem,gG,f3];refine⟨by omega,by omega,?_⟩;refine aK (Vz ⟨e2,e3⟩) rfl ?_;simp only[go_sem];exact db (λ_ h=>by cases h) rfl (by rfl) (by rfl) (by simp[])
 .rw[au q]at hw⊢;have z:(n/4*4:Nat)=4:=by omega
  replace f3:bU .i64 (n:Int) 4=4:=by rw[f3,z];rfl
  simp only[go_sem,gG,f3];refine aK (K6 h3 (by omega)) rfl ?_;simp only[go_sem];exact db (λ_ h=>by cases h) rfl (by rfl) (by rfl) (by simp[])
end
section
open Go Go.Mw
def y9(B:List (Nat×Int)):List (Nat×Int):=B.set (B.length-1) ((ah B (B.length-1)).1+1,(ah B (B.length-1)).2)
def jG(acc:List (Nat×Int))(t:Int):List (Nat×Int):=if acc=[]\/(ah acc (acc.length-1)).2≠t then acc++[(0,t)]else acc
def QK(acc:List (Nat×Int))(t:Int):List (Nat×Int):=y9 (jG acc t)
def vQ{α:Type}[Inhabited α](acc:List α)(p:α):ah (acc++[p]) ((acc++[p]).length-1)=p:=by
 rw[aJ,jI,Nat.add_sub_cancel,Bh]
def Hq(acc:List (Nat×Int))(k:Nat)(x:Int):y9 (acc++[(k,x)])=acc++[(k+1,x)]:=by
 unfold y9;rw[vQ];simp
def ac1(acc:List (Nat×Int))(k:Nat)(x:Int):QK (acc++[(k,x)]) x=acc++[(k+1,x)]:=by
 unfold QK jG;rw[vQ,au (by simp),Hq]
def ac2(acc:List (Nat×Int))(k:Nat){x t:Int}(h:¬t=x):QK (acc++[(k,x)]) t=acc++[(k,x)]++[(1,t)]:=by
 unfold QK jG;rw[vQ,aF (.inr λq=>h q.symm),Hq]
def YN(t:Int):QK [] t=[(1,t)]:=by
 unfold QK jG;rw[aF (.inl rfl)];rfl
def CJ:∀(l:List Int)(f:Nat)(acc:List (Nat×Int))(k:Nat)(x:Int),l.length<=f->l.foldl QK (acc++[(k,x)])=acc++(k+same x l,x)::vr f (l.drop (same x l))
 | [],f,acc,k,x,_=>by
  cases f<;>simp[same,vr]
 | t::l,f,acc,k,x,h=>by
  rw[aT]at h;rw[List.foldl_cons,same];by_cases q:t=x
  .subst q;rw[aF rfl,ac1,CJ l f acc (k+1) t (by omega),List.drop_succ_cons,show k+1+same t l=k+(same t l+1)by omega]
  .rw[au q,ac2 acc k q];obtain⟨g,rfl⟩:∃g,f=g+1:=⟨f-1,by omega⟩
   rw[CJ l g (acc++[(k,x)]) 1 t (by omega),M8,vr,eU,Nat.add_comm 1];rfl
def Pl(l:List Int):l.foldl QK []=gD l:=by
 cases l with
 | nil=>rfl
 | cons x l =>
  rw[List.foldl_cons,YN];have:=CJ l l.length [] 1 x (bG _);rw[fA,fA]at this;rw[this];unfold gD;rw[aT,vr,Nat.add_comm 1]
def rH(l:List Int)(i:Nat):List (Nat×Int):=(l.take i).foldl QK []
def ZY{l:List Int}{i:Nat}(h:i<l.length):rH l (i+1)=QK (rH l i) (ah l i):=by
 unfold rH;rw[su h,List.foldl_append];rfl
def Pw(B:List (Nat×Int))(h:B≠[]):y9 B≠[]/\(y9 B).length=B.length/\(ah (y9 B) ((y9 B).length-1)).2=(ah B (B.length-1)).2:=by
 obtain⟨A,p,rfl⟩:∃A p,B=A++[p]:=⟨B.dropLast,B.getLast h,(List.dropLast_concat_getLast h).symm⟩
 obtain⟨k,x⟩:=p;rw[Hq,vQ,vQ];simp
def Gw(acc:List (Nat×Int))(t:Int):jG acc t≠[]/\(ah (jG acc t) ((jG acc t).length-1)).2=t:=by
 unfold jG;by_cases h:acc=[]\/(ah acc (acc.length-1)).2≠t
 .rw[aF h,vQ];simp
 .rw[au h];exact⟨λq=>h (.inl q),by by_cases z:(ah acc (acc.length-1)).2=t;exact z;exact absurd (.inr z) h⟩
def ZX(l:List Int):∀i,i<=l.length->(rH l i).length<=i/\(0<i->rH l i≠[]/\(ah (rH l i) ((rH l i).length-1)).2=ah l (i-1))/\∀p∈rH l i,p.1<=i
 | 0,_=>⟨by simp[rH],λh=>absurd h (by decide),λp hp=>by simp[rH]at hp⟩
 | i+1,h=>by
  obtain⟨h1,h2,h3⟩:=ZX l i (by omega);obtain⟨g1,g2⟩:=Gw (rH l i) (ah l i);obtain⟨k1,k2,k3⟩:=Pw _ g1;have e:(jG (rH l i) (ah l i)).length<=i+1:=by
   unfold jG;split
   .rw[aJ,jI];omega
   .omega
  have e2:∀p∈jG (rH l i) (ah l i),p.1<=i:=λp hp=>by
   unfold jG at hp;split at hp
   .rcases f9.1 hp with q|q
    .exact h3 p q
    .simp only[kq]at q;subst q;exact cQ _
   .exact h3 p hp
  rw[ZY (by omega)];unfold QK;refine⟨by omega,λ_=>⟨k1,by rw[k3,g2];rfl⟩,λp hp=>?_⟩;unfold y9 at hp;rcases List.mem_or_eq_of_mem_set hp with q|q
  .have:=e2 p q;omega
  .rw[q]
   have:(ah (jG (rH l i) (ah l i)) ((jG (rH l i) (ah l i)).length-1)).1<=i:=e2 _ (by
    have hp:=Ey.2 g1;generalize jG (rH l i) (ah l i)=B at*;rw[bD (by omega)];exact na _)
   simp only;omega
def GE(p:Nat×Int):List AV:=[.int .i64 p.1,.int .i64 p.2]
def aiK(p:Nat×Int):GE p=[.int .i64 p.1,.int .i64 p.2]:=rfl
attribute[local go_sem] cU wo wa cL dm aS
def ahj{p:Nat×Int}(h1:p.1<4294967296)(h2:jK p.2=true):WX md [.agg (GE p)] (kP p):=by
 intro l hl;refine bT lH ?_;unfold kP at hl⊢;rw[aJ]at hl;simp only[go_sem,lH,aiK];refine aK (Vk p.1 h1) rfl ?_;simp only[go_sem];refine aK (GN h2) rfl ?_;simp only[go_sem];exact db (λ_ h=>by cases h) rfl (by rfl) (by rfl) (by simp[])
def X_{acc:List (Nat×Int)}{n:Nat}(h:∀p∈acc,p.1<=n)(t:Int)(hb:jG acc t≠[]):(ah (jG acc t) ((jG acc t).length-1)).1<=n:=by
 have:∀p∈jG acc t,p.1<=n:=λp hp=>by
  unfold jG at hp;split at hp
  .rcases f9.1 hp with q|q
   .exact h p q
   .simp only[kq]at q;subst q;exact cQ _
  .exact h p hp
 have hp:=Ey.2 hb;generalize jG acc t=B at*;exact this _ (by rw[bD (by omega)];exact na _)
def ahc{x:Cd}(h1:x.lo.length<=64)(h2:∀t∈x.lo,jK t=true)(h4:Mb x.b)(h5:x.b.length<=2048):WX jl [.agg (qB x)] (nA x):=by
 intro w hw;refine bT oK ?_;simp only[go_sem,oK,cK];refine an (λi:Nat=>⟨[(11,.int .i64 i),(10,.int .i64 x.lo.length),(9,.sl 1 (x.lo.map oE)),(4,.ms 900 2 0 (rH x.lo i).length),(3,.mp 3 3 0 0),(0,.mp 1000 3 0 0)],[(900,⟨266,2,(rH x.lo i).map GE,false⟩),(3,⟨61,3,[[.int .i64 x.t,.sl 1 (x.lo.map oE),.sl 9 (x.b.map aS)]],true⟩),(1000,wo 2000 true w 0),(2000,wa w)]⟩) (λi=>i<=x.lo.length) (λi=>x.lo.length-i) 0 (cQ _) ((Wk.nil _ 4 900 2 266 (by simp only[go_sem]) (.inl (by decide))).trans (Wk.of ?_ ?_)) ?_
 .simp only[go_sem,St.mknil];try simp[go_sem,rH]
 .simp only[go_sem,St.mknil,cK];try simp[go_sem,rH]
 intro i hi2;obtain⟨a1,a2,a3⟩:=ZX x.lo i hi2;by_cases q1:(i:Int)<(x.lo.length:Int);rotate_left
 .obtain rfl:i=x.lo.length:=by omega
  have hr:rH x.lo x.lo.length=gD x.lo:=by unfold rH;rw[eV,Pl]
  rw[hr];have hrl:(gD x.lo).length<=64:=by have:=zu x.lo.length x.lo;unfold gD;omega
  have hB:=Aa h1 h4 h5;have hB2:(jX x).length=(aQ kP (gD x.lo)).length+(et x.b).length:=by unfold jX Jq;rw[aJ]
  have cw:=po (n:=mq) (t:=266) (z:=[.int .i64 0,.int .i64 0]) (f:=GE) (g:=md) (caps:=[]) (enc:=kP) (cF lM) rfl (λp=>⟨rfl,λ_=>rfl,rfl⟩) (gD x.lo) (by omega) (by kernel_rfl) (λ_=>rfl) (λ_ h=>by cases h) (λp hp=>ahj (by
   have:=Is _ _ p hp;have h6:=a3;rw[hr]at h6;have:=h6 p hp;omega) (h2 _ (Is _ _ p hp).2))
  simp only[go_sem,aM q1];refine qS 904 905 (by decide) (by decide) (by decide) (by simp only[go_sem]) (by simp only[go_sem]) ?_;simp only[go_sem];refine lj [900] (k:=904) (j:=905) (l:=[]) cw (by simp[go_sem,wo,wa,dQ]) (by simp[go_sem]) (by simp[go_sem,wo,wa]) (by simp[go_sem,wo,wa]) (by simp only[aC];omega) (by decide) ?_;simp only[go_sem,fA];refine Lu (k:=904) (j:=905) (K6 h4 (by omega)) rfl (by simp[go_sem]) (by rfl) (by rfl) (by omega) (by decide) ?_;have cp:=Iy true w 0 (by omega) true (jX x) 0 (by omega);rw[show wP (true&&(0:Int)==0) w 0 true (jX x) 0=(w++nA x,0)by unfold wP nA;simp[wB]]at cp;rw[show aQ kP (gD x.lo)++et x.b=jX x from rfl];simp only[go_sem];refine d_ (σ2:=[(1000,wo 2000 true w 0),(2000,wa w),(904,wo 905 true (jX x) 0),(905,wa (jX x))]) (r3:=.tup []) (σ3:=[(1000,wo 2000 true (w++nA x) 0),(2000,wa (w++nA x)),(904,wo 905 true (jX x) 0),(905,wa (jX x))]) cp [(1001,904),(2001,905)] [905,2000] rfl rfl rfl rfl ?_ ?_ ?_ ?_
  .simp only[go_sem];simp
  .simp only[go_sem];simp[sb,bw,iU,ak]
  .simp only[go_sem];simp[ak]
  simp only[go_sem];exact db (λ_ h=>by cases h) rfl (by rfl) (by rfl) rfl
 have hi':i<x.lo.length:=by omega
 have e8:=dv hi' (by omega);have hn:=ZY hi';obtain⟨b1,b2⟩:=Gw (rH x.lo i) (ah x.lo i);have b3:(jG (rH x.lo i) (ah x.lo i)).length<=i+1:=by
  unfold jG;split
  .rw[aJ,jI];omega
  .omega
 have b4:(ah (jG (rH x.lo i) (ah x.lo i)) ((jG (rH x.lo i) (ah x.lo i)).length-1)).1<=i:=X_ a3 _ b1;unfold QK at hn;by_cases q2:rH x.lo i=[]\/(ah (rH x.lo i) ((rH x.lo i).length-1)).2≠ah x.lo i
 .have ho:jG (rH x.lo i) (ah x.lo i)=rH x.lo i++[(0,ah x.lo i)]:=aF q2;have hap:tC 900 266 2 0 (rH x.lo i).length [[.int .i64 0,.int .i64 (ah x.lo i)]] (some ⟨266,2,(rH x.lo i).map GE,false⟩)=some (.ms 900 2 0 (jG (rH x.lo i) (ah x.lo i)).length,.reb 900 ⟨266,2,(jG (rH x.lo i) (ah x.lo i)).map GE,false⟩):=by
   rw[bX 900 266 2 _ GE _ _ rfl,aF ⟨by simp,by omega,.inl (by decide)⟩,ho];simp[GE]
  generalize jG (rH x.lo i) (ah x.lo i)=B at*;by_cases q3:(i:Int)=0
  .simp only[go_sem,aL q1,be q3,hap];refine⟨by omega,q1,?_⟩;have hpl:=Ey.2 b1;have e1:=wi (n:=(B.length:Int)-1) (by omega) (by omega);have e2:((B.length:Int)-1).toNat=B.length-1:=by omega
   have e3:IntKind.i64.wrap (((ah B (B.length-1)).1:Int)+1)=(((ah B (B.length-1)).1+1:Nat):Int):=by rw[wi (by omega) (by omega)];omega
   have hst:∀(row v:Nat),I6 900 1 2 row 0 (some ⟨266,2,B.map GE,false⟩) (some [.int .i64 (v:Int)])=if row<B.length then some (.put 900 ⟨266,2,(B.set row (v,(ah B row).2)).map GE,false⟩)else none:=λrow v=>zH 900 1 2 row 0 266 GE B [.int .i64 (v:Int)] (λp=>(v,p.2)) rfl rfl (λ_=>by show 0+1<=2;decide) (λ_=>rfl)
   have hld:∀p:Nat×Int,yD none (GE p)=some (.int .i64 p.1):=λ_=>rfl;simp only[go_sem,e1,e2,e3,hst,hld];refine⟨by omega,by omega,by omega,by omega,?_⟩;refine aE (i+1) (show i+1<=x.lo.length by omega) (show x.lo.length-(i+1)<x.lo.length-i by omega) (Wk.of ?_ ?_)
   .simp only[go_sem,e8,hn,y9,List.length_set];try simp
   .simp only[go_sem,hn,y9];try simp[go_sem]
  .have hp:=a2 (by omega);have hne:((ah x.lo i) != (ah x.lo (i-1)))=true:=by
    rcases q2 with q|q
    .exact absurd q hp.1
    .rw[hp.2]at q;exact bv λz=>q z.symm
   simp only[go_sem,aL q1,aw q3,wi (n:=(i:Int)-1) (by omega) (by omega),show((i:Int)-1).toNat=i-1 by omega,hne,hap];refine⟨by omega,q1,by omega,by omega,?_⟩;have hpl:=Ey.2 b1;have e1:=wi (n:=(B.length:Int)-1) (by omega) (by omega);have e2:((B.length:Int)-1).toNat=B.length-1:=by omega
   have e3:IntKind.i64.wrap (((ah B (B.length-1)).1:Int)+1)=(((ah B (B.length-1)).1+1:Nat):Int):=by rw[wi (by omega) (by omega)];omega
   have hst:∀(row v:Nat),I6 900 1 2 row 0 (some ⟨266,2,B.map GE,false⟩) (some [.int .i64 (v:Int)])=if row<B.length then some (.put 900 ⟨266,2,(B.set row (v,(ah B row).2)).map GE,false⟩)else none:=λrow v=>zH 900 1 2 row 0 266 GE B [.int .i64 (v:Int)] (λp=>(v,p.2)) rfl rfl (λ_=>by show 0+1<=2;decide) (λ_=>rfl)
   have hld:∀p:Nat×Int,yD none (GE p)=some (.int .i64 p.1):=λ_=>rfl;simp only[go_sem,e1,e2,e3,hst,hld];refine⟨by omega,by omega,by omega,by omega,?_⟩;refine aE (i+1) (show i+1<=x.lo.length by omega) (show x.lo.length-(i+1)<x.lo.length-i by omega) (Wk.of ?_ ?_)
   .simp only[go_sem,e8,hn,y9,List.length_set];try simp
   .simp only[go_sem,hn,y9];try simp[go_sem]
 .have ho:jG (rH x.lo i) (ah x.lo i)=rH x.lo i:=au q2
  have q3:¬(i:Int)=0:=λz=>q2 (.inl (by have:i=0:=by omega
                                       subst this;rfl))
  have hp:=a2 (by omega);have hne:((ah x.lo i) != (ah x.lo (i-1)))=false:=by
   rw[<-hp.2];exact bB (by by_cases z:(ah (rH x.lo i) ((rH x.lo i).length-1)).2=ah x.lo i;exact z.symm;exact absurd (.inr z) q2)
  rw[ho]at hn b1 b2 b3 b4;generalize rH x.lo i=B at*;simp only[go_sem,aL q1,aw q3,wi (n:=(i:Int)-1) (by omega) (by omega),show((i:Int)-1).toNat=i-1 by omega,hne];refine⟨by omega,q1,by omega,by omega,?_⟩;have hpl:=Ey.2 b1;have e1:=wi (n:=(B.length:Int)-1) (by omega) (by omega);have e2:((B.length:Int)-1).toNat=B.length-1:=by omega
  have e3:IntKind.i64.wrap (((ah B (B.length-1)).1:Int)+1)=(((ah B (B.length-1)).1+1:Nat):Int):=by rw[wi (by omega) (by omega)];omega
  have hst:∀(row v:Nat),I6 900 1 2 row 0 (some ⟨266,2,B.map GE,false⟩) (some [.int .i64 (v:Int)])=if row<B.length then some (.put 900 ⟨266,2,(B.set row (v,(ah B row).2)).map GE,false⟩)else none:=λrow v=>zH 900 1 2 row 0 266 GE B [.int .i64 (v:Int)] (λp=>(v,p.2)) rfl rfl (λ_=>by show 0+1<=2;decide) (λ_=>rfl)
  have hld:∀p:Nat×Int,yD none (GE p)=some (.int .i64 p.1):=λ_=>rfl;simp only[go_sem,e1,e2,e3,hst,hld];refine⟨by omega,by omega,by omega,by omega,?_⟩;refine aE (i+1) (show i+1<=x.lo.length by omega) (show x.lo.length-(i+1)<x.lo.length-i by omega) (Wk.of ?_ ?_)
  .simp only[go_sem,e8,hn,y9,List.length_set];try simp
  .simp only[go_sem,hn,y9];try simp[go_sem]
end
section
open Go Go.Mw
def y8{bl:Nat->Option Nat}{M:Nat->Prop}{w:World}{v:Value}{x:AV}(h:cG bl M w v x)(h1:qn x=true)(h2:A7 x=false):IRel M w v x:=by
 cases x<;>first|(simp[qn]at h1;done)|exact h|(simp[A7]at h2;done)
def MI{c:vE}{bl:Nat->Option Nat}{s:St}{a:Act}{w:World}(hs:aP c bl (get s.env) (ak s.heap) a w){i:Nat}{t:TypeId}{st:Nat}{r:List AV}(hi:ak s.heap i=some ⟨t,st,[r],true⟩)(hr:∀x∈r,qn x=true/\A7 x=false) :
  aP c bl (get s.env) (ak ((i,⟨t,st,[r],false⟩)::s.heap)) a w/\bK bl c.MF (ak ((i,⟨t,st,[r],false⟩)::s.heap))=bK bl c.MF (ak s.heap):=by
 have hm:bK bl c.MF (ak ((i,⟨t,st,[r],false⟩)::s.heap))=bK bl c.MF (ak s.heap):=by
  funext b;apply propext;constructor
  .rintro(h|⟨j,o,h1,h2⟩)
   .exact .inl h
   .simp only[ak]at h1;split at h1
    .rename_i hij;subst hij;exact .inr ⟨_,_,hi,h2⟩
    .exact .inr ⟨j,o,h1,h2⟩
  .rintro(h|⟨j,o,h1,h2⟩)
   .exact .inl h
   .by_cases hij:i=j
    .subst hij;exact .inr ⟨i,⟨t,st,[r],false⟩,by simp[ak],h2⟩
    .exact .inr ⟨j,o,by simp only[ak,au hij];exact h1,h2⟩
 refine⟨⟨hs.defers,hs.size,by rw[hm];exact hs.env,⟨λj o hj=>?_,λj j' o o' b h1 h2=>?_⟩,hs.step,λj o b h1=>?_,hs.stab,hs.mf⟩,hm⟩
 .rw[hm];simp only[ak]at hj;split at hj
  .rename_i hij;subst hij;cases hj;rcases hs.heap.1 _ _ hi with⟨h1,_⟩|⟨b,g1,⟨gk,c1,fr,g2,g3,g4,g5,g6,g7⟩|hsp⟩
   .cases h1
   .refine .inr ⟨b,g1,.inl ⟨rfl,c1,fr,g2,g3,g4,g5,g6,λk q u x hu hx=>?_⟩⟩;obtain⟨v,hv1,hv2⟩:=g7 k q u x hu hx;have hu2:u=r:=by
     cases k with
     | zero=>simpa using hu.symm
     | succ k=>simp at hu
    subst hu2;obtain⟨z1,z2⟩:=hr x (vD hx);exact⟨v,hv1,y8 hv2 z1 z2⟩
   .have:=hsp.rows;cases this
  .exact hs.heap.1 j o hj
 .have key:∀{j:Nat}{o:ao},ak ((i,⟨t,st,[r],false⟩)::s.heap) j=some o->∃o',ak s.heap j=some o':=λ{j o} hj=>by
   simp only[ak]at hj;split at hj
   .rename_i hij;subst hij;exact⟨_,hi⟩
   .exact⟨_,hj⟩
  obtain⟨p1,q1⟩:=key h1;obtain⟨p2,q2⟩:=key h2;exact hs.heap.2 j j' p1 p2 b q1 q2
 .simp only[ak]at h1;split at h1
  .rename_i hij;subst hij;exact hs.own i _ b hi
  .exact hs.own j o b h1
def jB(s:St)(l:List AV)(i:Nat){t:TypeId}{st:Nat}{r:List AV}(hi:ak s.heap i=some ⟨t,st,[r],true⟩)(hr:∀x∈r,qn x=true/\A7 x=false):EG s l ⟨s.env,(i,⟨t,st,[r],false⟩)::s.heap⟩ l:=λc a w bl vs h1 h2=>by
 obtain⟨h3,hm⟩:=MI h1 hi hr;exact⟨bl,h3,by rw[hm];exact h2⟩
def nk0:((0:Nat):Int)=0:=rfl
def nk1:((1:Nat):Int)=1:=rfl
def nk2:((2:Nat):Int)=2:=rfl
def nk3:((3:Nat):Int)=3:=rfl
def nk4:((4:Nat):Int)=4:=rfl
def nk5:((5:Nat):Int)=5:=rfl
def nk6:((6:Nat):Int)=6:=rfl
def nk7:((7:Nat):Int)=7:=rfl
attribute[local go_sem] cU wo wa cL dm aS iz
def adS{x:El}(h:Ma AA x)(hn:Fp x.o)(hn2:∀l∈x.it,Fp l):WX jn [.agg (fR x)] (pW x):=by
 intro w hw;obtain⟨hB,ho,hi⟩:=h;obtain⟨b1,b2,b3,b4,b5⟩:=z_ hB;obtain⟨f1,f2,f3,f4,f5,f6⟩:=LJ b1;obtain⟨j1,j2⟩:=rz ho hn;have hrf:dp x<4->∀l∈x.it,tF l=true:=λq=>by
  have:=f5.1 q;unfold dL at this;rw[Bool.or_eq_false_iff,vB]at this;intro l hl;have:=this.2 l hl;simpa using this
 have cv:=GN (IJ.2 (by have:=x9.1 b4;omega):jK x.ty=true);have ct:=Vz (dO.1 b3);have co:=K6 j1 (by omega);have cf:=XF b1 b5;have cl:=Zd (n:=mh) (f:=jY) (v:=λl:List bj=>.sl 9 (l.map aS)) (g:=mg) (caps:=[.ip [.int .i64 (dp x:Nat)]]) (enc:=fS (dp x)) (cF lI) (λ_=>rfl) (λ_ _=>rfl) (λ_=>rfl) x.it (by omega) (by kernel_rfl) (λ_=>rfl) (λy hy=>by simp only[kq]at hy;subst hy;rfl) (λl hl=>adU f1 (λq=>hrf q l hl) (rz (hi l hl) (hn2 l hl)).1 (hi l hl).1);have cu:=Vk (dp x) (by omega);refine bT oL ?_;obtain⟨g1,g2,g3⟩:=Zo f1;unfold pW at hw⊢;simp only[bh]at cf;generalize dp x=n at*;rcases(show n=0\/n=1\/n=2\/n=3\/n=4\/n=5\/n=6\/n=7 by omega)with rfl|rfl|rfl|rfl|rfl|rfl|rfl|rfl
 all_goals
  simp only[Nat.reduceMod,Nat.reduceDiv,Nat.reduceMul,Nat.reduceLT,Nat.reduceEqDiff,reduceCtorEq,Nat.reduceEqDiff,br,cD,gh,fA,aJ,nk0,nk1,nk2,nk3,nk4,nk5,nk6,nk7,reduceIte,aT,aC]at hw g1 g2 g3 cf cl cu⊢;simp only[go_sem,oL,bh];refine aa (cf) ?_;refine aK (cu) rfl ?_;simp only[go_sem,g1,g2,g3]
 .refine aK (co) rfl ?_;simp only[go_sem,g1,g2,g3];generalize hv:w++ay 0++et x.o=v at*;have hvl:=congrArg List.length hv;simp only[aJ,aT,aC]at hvl;refine ii (jB _ _ 4 (by rfl) (λy hy=>by simp only[kq]at hy;subst hy;exact⟨rfl,rfl⟩)) ?_;refine lj [4] (k:=1000) (j:=2000) (l:=v) cl (by simp[go_sem,wo,wa]) (by simp[go_sem]) (by simp[go_sem,wo,wa]) (by simp[go_sem,wo,wa]) (by omega) (by decide) ?_;simp only[go_sem];exact db (λ_ h=>by cases h) rfl (by rfl) (by rfl) (by rw[<-hv];simp)
 .refine aK (Vy 0) rfl ?_;simp only[go_sem];generalize hv:w++ay 1++[0]=v at*;have hvl:=congrArg List.length hv;simp only[aJ,aT,aC]at hvl;refine ii (jB _ _ 4 (by rfl) (λy hy=>by simp only[kq]at hy;subst hy;exact⟨rfl,rfl⟩)) ?_;refine lj [4] (k:=1000) (j:=2000) (l:=v) cl (by simp[go_sem,wo,wa]) (by simp[go_sem]) (by simp[go_sem,wo,wa]) (by simp[go_sem,wo,wa]) (by omega) (by decide) ?_;simp only[go_sem];exact db (λ_ h=>by cases h) rfl (by rfl) (by rfl) (by rw[<-hv];simp)
 .refine aK (ct) rfl ?_;simp only[go_sem,g1,g2,g3];refine aK (co) rfl ?_;simp only[go_sem,g1,g2,g3];refine aK (Vy 0) rfl ?_;simp only[go_sem];generalize hv:w++ay 2++ay x.tb.toNat++et x.o++[0]=v at*;have hvl:=congrArg List.length hv;simp only[aJ,aT,aC]at hvl;refine ii (jB _ _ 4 (by rfl) (λy hy=>by simp only[kq]at hy;subst hy;exact⟨rfl,rfl⟩)) ?_;refine lj [4] (k:=1000) (j:=2000) (l:=v) cl (by simp[go_sem,wo,wa]) (by simp[go_sem]) (by simp[go_sem,wo,wa]) (by simp[go_sem,wo,wa]) (by omega) (by decide) ?_;simp only[go_sem];exact db (λ_ h=>by cases h) rfl (by rfl) (by rfl) (by rw[<-hv];simp)
 .refine aK (Vy 0) rfl ?_;simp only[go_sem];generalize hv:w++ay 3++[0]=v at*;have hvl:=congrArg List.length hv;simp only[aJ,aT,aC]at hvl;refine ii (jB _ _ 4 (by rfl) (λy hy=>by simp only[kq]at hy;subst hy;exact⟨rfl,rfl⟩)) ?_;refine lj [4] (k:=1000) (j:=2000) (l:=v) cl (by simp[go_sem,wo,wa]) (by simp[go_sem]) (by simp[go_sem,wo,wa]) (by simp[go_sem,wo,wa]) (by omega) (by decide) ?_;simp only[go_sem];exact db (λ_ h=>by cases h) rfl (by rfl) (by rfl) (by rw[<-hv];simp)
 .refine aK (co) rfl ?_;simp only[go_sem,g1,g2,g3];generalize hv:w++ay 4++et x.o=v at*;have hvl:=congrArg List.length hv;simp only[aJ,aT,aC]at hvl;refine ii (jB _ _ 4 (by rfl) (λy hy=>by simp only[kq]at hy;subst hy;exact⟨rfl,rfl⟩)) ?_;refine lj [4] (k:=1000) (j:=2000) (l:=v) cl (by simp[go_sem,wo,wa]) (by simp[go_sem]) (by simp[go_sem,wo,wa]) (by simp[go_sem,wo,wa]) (by omega) (by decide) ?_;simp only[go_sem];exact db (λ_ h=>by cases h) rfl (by rfl) (by rfl) (by rw[<-hv];simp)
 .refine aK (cv) rfl ?_;simp only[go_sem];generalize hv:w++ay 5++fh x.ty=v at*;have hvl:=congrArg List.length hv;simp only[aJ,aT,aC]at hvl;refine ii (jB _ _ 4 (by rfl) (λy hy=>by simp only[kq]at hy;subst hy;exact⟨rfl,rfl⟩)) ?_;refine lj [4] (k:=1000) (j:=2000) (l:=v) cl (by simp[go_sem,wo,wa]) (by simp[go_sem]) (by simp[go_sem,wo,wa]) (by simp[go_sem,wo,wa]) (by omega) (by decide) ?_;simp only[go_sem];exact db (λ_ h=>by cases h) rfl (by rfl) (by rfl) (by rw[<-hv];simp)
 .refine aK (ct) rfl ?_;simp only[go_sem,g1,g2,g3];refine aK (co) rfl ?_;simp only[go_sem,g1,g2,g3];refine aK (cv) rfl ?_;simp only[go_sem];generalize hv:w++ay 6++ay x.tb.toNat++et x.o++fh x.ty=v at*;have hvl:=congrArg List.length hv;simp only[aJ,aT,aC]at hvl;refine ii (jB _ _ 4 (by rfl) (λy hy=>by simp only[kq]at hy;subst hy;exact⟨rfl,rfl⟩)) ?_;refine lj [4] (k:=1000) (j:=2000) (l:=v) cl (by simp[go_sem,wo,wa]) (by simp[go_sem]) (by simp[go_sem,wo,wa]) (by simp[go_sem,wo,wa]) (by omega) (by decide) ?_;simp only[go_sem];exact db (λ_ h=>by cases h) rfl (by rfl) (by rfl) (by rw[<-hv];simp)
 .refine aK (cv) rfl ?_;simp only[go_sem];generalize hv:w++ay 7++fh x.ty=v at*;have hvl:=congrArg List.length hv;simp only[aJ,aT,aC]at hvl;refine ii (jB _ _ 4 (by rfl) (λy hy=>by simp only[kq]at hy;subst hy;exact⟨rfl,rfl⟩)) ?_;refine lj [4] (k:=1000) (j:=2000) (l:=v) cl (by simp[go_sem,wo,wa]) (by simp[go_sem]) (by simp[go_sem,wo,wa]) (by simp[go_sem,wo,wa]) (by omega) (by decide) ?_;simp only[go_sem];exact db (λ_ h=>by cases h) rfl (by rfl) (by rfl) (by rw[<-hv];simp)
end
section
open Go Go.Mw
def ajb{m:Md}(h:Kq m):WX n9 [.sl 2 (m.ts.map vK),.fn j7 []] (aQ pX m.ts):=po (f:=vK) (g:=j7) (caps:=[]) (cF nO) rfl (λ_=>⟨rfl,λ_=>rfl,rfl⟩) m.ts (by have:=h.lim.ts.1;omega) (by kernel_rfl) (λ_=>rfl) (λ_ h=>by cases h) (λx hx=>ahe (h.lim.ts.2 x hx))
def ajc{m:Md}(h:Kq m):WX mj [.sl 13 (m.ims.map vM),.fn gT []] (aQ pY m.ims):=po (f:=vM) (g:=gT) (caps:=[]) (cF lK) rfl (λ_=>⟨rfl,λ_=>rfl,rfl⟩) m.ims (by have:=h.lim.ims.1;omega) (by kernel_rfl) (λ_=>rfl) (λ_ h=>by cases h) (λx hx=>ahf (h.lim.ims.2 x hx))
def ajd{m:Md}(h:Kq m):WX gx [.sl 3 (m.fs.map qB),.fn fo []] (aQ (λx:Cd=>ay x.t.toNat) m.fs):=po (f:=qB) (g:=fo) (caps:=[]) (cF gn) rfl (λ_=>⟨rfl,λ_=>rfl,rfl⟩) m.fs (by have:=h.lim.fs.1;omega) (by kernel_rfl) (λ_=>rfl) (λ_ h=>by cases h) (λx hx=>ahl (DK h x hx).2.2.2.2.2)
def aje{m:Md}(h:Kq m):WX mZ [.sl 4 (m.tbs.map xx),.fn jo []] (aQ oY m.tbs):=po (f:=xx) (g:=jo) (caps:=[]) (cF mK) rfl (λ_=>⟨rfl,λ_=>rfl,rfl⟩) m.tbs (by have:=h.lim.tbs.1;omega) (by kernel_rfl) (λ_=>rfl) (λ_ h=>by cases h) (λx hx=>aaj (h.lim.tbs.2 x hx))
def ajf{m:Md}(h:Kq m):WX ml [.sl 3 (m.ms.map p7),.fn iN []] (aQ iw m.ms):=po (f:=p7) (g:=iN) (caps:=[]) (cF lL) rfl (λ_=>⟨rfl,λ_=>rfl,rfl⟩) m.ms (by have:=h.lim.ms.1;omega) (by kernel_rfl) (λ_=>rfl) (λ_ h=>by cases h) (λx hx=>Vl (Gp (h.lim.ms.2 x hx)))
def ajg{m:Md}(h:Kq m):WX j5 [.sl 3 (m.gs.map zX),.fn fp []] (aQ qU m.gs):=po (f:=zX) (g:=fp) (caps:=[]) (cF jO) rfl (λ_=>⟨rfl,λ_=>rfl,rfl⟩) m.gs (by have:=h.lim.gs.1;omega) (by kernel_rfl) (λ_=>rfl) (λ_ h=>by cases h) (λx hx=>adT (h.lim.gs.2 x hx).1 (rz (h.lim.gs.2 x hx).2 (h.num.2.1 x hx)).1 (h.lim.gs.2 x hx).2.1)
def ajh{m:Md}(h:Kq m):WX mi [.sl 3 (m.exs.map y6),.fn fq []] (aQ qT m.exs):=po (f:=y6) (g:=fq) (caps:=[]) (cF lJ) rfl (λ_=>⟨rfl,λ_=>rfl,rfl⟩) m.exs (by have:=h.lim.exs.1;omega) (by kernel_rfl) (λ_=>rfl) (λ_ h=>by cases h) (λx hx=>ahd (h.lim.exs.2 x hx))
def aji{m:Md}(h:Kq m):WX n8 [.sl 5 (m.els.map fR),.fn jn []] (aQ pW m.els):=po (f:=fR) (g:=jn) (caps:=[]) (cF nN) rfl (λ_=>⟨rfl,λ_=>rfl,rfl⟩) m.els (by have:=h.lim.els.1;omega) (by kernel_rfl) (λ_=>rfl) (λ_ h=>by cases h) (λx hx=>adS (h.lim.els.2 x hx) (h.num.2.2.1 x hx).1 (h.num.2.2.1 x hx).2)
def ahg{m:Md}(h:Kq m):WX gx [.sl 3 (m.fs.map qB),.fn jl []] (aQ nA m.fs):=po (f:=qB) (g:=jl) (caps:=[]) (cF gn) rfl (λ_=>⟨rfl,λ_=>rfl,rfl⟩) m.fs (by have:=h.lim.fs.1;omega) (by kernel_rfl) (λ_=>rfl) (λ_ h=>by cases h) (λx hx=>ahc (DK h x hx).1 (DK h x hx).2.1 (DK h x hx).2.2.2.1 (DK h x hx).2.2.2.2.1)
def ahh{m:Md}(h:Kq m):WX n7 [.sl 4 (m.ds.map nz),.fn jm []] (aQ pV m.ds):=po (f:=nz) (g:=jm) (caps:=[]) (cF nM) rfl (λ_=>⟨rfl,λ_=>rfl,rfl⟩) m.ds (by have:=h.lim.ds.1;omega) (by kernel_rfl) (λ_=>rfl) (λ_ h=>by cases h) (λx hx=>adR (h.lim.ds.2 x hx) (h.num.2.2.2 x hx))
attribute[local go_sem] cU wo wa cL dm aS
def ahk{m:Md}(h:Kq m){p:Int}(hp:1<=p/\p<=12)(hs:p=8->m.hs=true):WX tJ [cY m,.int .i64 p] (dF m p):=by
 intro w hw;refine bT bc ?_;rcases(show p=1\/p=2\/p=3\/p=4\/p=5\/p=6\/p=7\/p=8\/p=9\/p=10\/p=11\/p=12 by omega)with rfl|rfl|rfl|rfl|rfl|rfl|rfl|rfl|rfl|rfl|rfl|rfl
 .replace hw:w.length+(aQ pX m.ts).length<=1000000000:=hw;show jD _ _ _ (mD _ λr' σ'=>r' = .tup []/\σ'=[(1000,wo 2000 true (w++(aQ pX m.ts)) 0),(2000,wa (w++(aQ pX m.ts)))]);simp only[go_sem,bc,cY,bC];refine aK (ajb h) rfl ?_;simp only[go_sem];exact db (λ_ h=>by cases h) rfl (by rfl) (by rfl) rfl
 .replace hw:w.length+(aQ pY m.ims).length<=1000000000:=hw;show jD _ _ _ (mD _ λr' σ'=>r' = .tup []/\σ'=[(1000,wo 2000 true (w++(aQ pY m.ims)) 0),(2000,wa (w++(aQ pY m.ims)))]);simp only[go_sem,bc,cY,bC];refine aK (ajc h) rfl ?_;simp only[go_sem];exact db (λ_ h=>by cases h) rfl (by rfl) (by rfl) rfl
 .replace hw:w.length+(aQ (λx:Cd=>ay x.t.toNat) m.fs).length<=1000000000:=hw;show jD _ _ _ (mD _ λr' σ'=>r' = .tup []/\σ'=[(1000,wo 2000 true (w++(aQ (λx:Cd=>ay x.t.toNat) m.fs)) 0),(2000,wa (w++(aQ (λx:Cd=>ay x.t.toNat) m.fs)))]);simp only[go_sem,bc,cY,bC];refine aK (ajd h) rfl ?_;simp only[go_sem];exact db (λ_ h=>by cases h) rfl (by rfl) (by rfl) rfl
 .replace hw:w.length+(aQ oY m.tbs).length<=1000000000:=hw;show jD _ _ _ (mD _ λr' σ'=>r' = .tup []/\σ'=[(1000,wo 2000 true (w++(aQ oY m.tbs)) 0),(2000,wa (w++(aQ oY m.tbs)))]);simp only[go_sem,bc,cY,bC];refine aK (aje h) rfl ?_;simp only[go_sem];exact db (λ_ h=>by cases h) rfl (by rfl) (by rfl) rfl
 .replace hw:w.length+(aQ iw m.ms).length<=1000000000:=hw;show jD _ _ _ (mD _ λr' σ'=>r' = .tup []/\σ'=[(1000,wo 2000 true (w++(aQ iw m.ms)) 0),(2000,wa (w++(aQ iw m.ms)))]);simp only[go_sem,bc,cY,bC];refine aK (ajf h) rfl ?_;simp only[go_sem];exact db (λ_ h=>by cases h) rfl (by rfl) (by rfl) rfl
 .replace hw:w.length+(aQ qU m.gs).length<=1000000000:=hw;show jD _ _ _ (mD _ λr' σ'=>r' = .tup []/\σ'=[(1000,wo 2000 true (w++(aQ qU m.gs)) 0),(2000,wa (w++(aQ qU m.gs)))]);simp only[go_sem,bc,cY,bC];refine aK (ajg h) rfl ?_;simp only[go_sem];exact db (λ_ h=>by cases h) rfl (by rfl) (by rfl) rfl
 .replace hw:w.length+(aQ qT m.exs).length<=1000000000:=hw;show jD _ _ _ (mD _ λr' σ'=>r' = .tup []/\σ'=[(1000,wo 2000 true (w++(aQ qT m.exs)) 0),(2000,wa (w++(aQ qT m.exs)))]);simp only[go_sem,bc,cY,bC];refine aK (ajh h) rfl ?_;simp only[go_sem];exact db (λ_ h=>by cases h) rfl (by rfl) (by rfl) rfl
 .replace hw:w.length+(ay m.st.toNat).length<=1000000000:=hw;show jD _ _ _ (mD _ λr' σ'=>r' = .tup []/\σ'=[(1000,wo 2000 true (w++(ay m.st.toNat)) 0),(2000,wa (w++(ay m.st.toNat)))]);simp only[go_sem,bc,cY,bC];refine aK (Vz (dO.1 (h.lim.st (hs rfl)))) rfl ?_;simp only[go_sem];exact db (λ_ h=>by cases h) rfl (by rfl) (by rfl) rfl
 .replace hw:w.length+(aQ pW m.els).length<=1000000000:=hw;show jD _ _ _ (mD _ λr' σ'=>r' = .tup []/\σ'=[(1000,wo 2000 true (w++(aQ pW m.els)) 0),(2000,wa (w++(aQ pW m.els)))]);simp only[go_sem,bc,cY,bC];refine aK (aji h) rfl ?_;simp only[go_sem];exact db (λ_ h=>by cases h) rfl (by rfl) (by rfl) rfl
 .replace hw:w.length+(ay m.ds.length).length<=1000000000:=hw;show jD _ _ _ (mD _ λr' σ'=>r' = .tup []/\σ'=[(1000,wo 2000 true (w++(ay m.ds.length)) 0),(2000,wa (w++(ay m.ds.length)))]);simp only[go_sem,bc,cY,bC];refine aK (Vk m.ds.length (by have:=h.lim.ds.1;omega)) rfl ?_;simp only[go_sem];exact db (λ_ h=>by cases h) rfl (by rfl) (by rfl) rfl
 .replace hw:w.length+(aQ nA m.fs).length<=1000000000:=hw;show jD _ _ _ (mD _ λr' σ'=>r' = .tup []/\σ'=[(1000,wo 2000 true (w++(aQ nA m.fs)) 0),(2000,wa (w++(aQ nA m.fs)))]);simp only[go_sem,bc,cY,bC];refine aK (ahg h) rfl ?_;simp only[go_sem];exact db (λ_ h=>by cases h) rfl (by rfl) (by rfl) rfl
 .replace hw:w.length+(aQ pV m.ds).length<=1000000000:=hw;show jD _ _ _ (mD _ λr' σ'=>r' = .tup []/\σ'=[(1000,wo 2000 true (w++(aQ pV m.ds)) 0),(2000,wa (w++(aQ pV m.ds)))]);simp only[go_sem,bc,cY,bC];refine aK (ahh h) rfl ?_;simp only[go_sem];exact db (λ_ h=>by cases h) rfl (by rfl) (by rfl) rfl
end
section
open Go Go.Mw
def N2(x:bj):yD none (aS x)=some (.int .i64 x.op):=rfl
def Ki(x:bj):yD (some 9) (aS x)=some (.agg (aS x)):=rfl
def Kj(x:bj):(aS x).length=9:=rfl
def Kg(d:Nat)(x:bj):(aS x).any (mC d)=false:=rfl
def Kk(d:Nat)(x:bj):((aS x).all λy=>!(mC d y))=true:=rfl
def Kf(x:bj):(aS x).all qn=true:=rfl
def Kl(d:Nat)(x:bj):(aS x).map (BU d)=aS x:=rfl
def Kh(x:bj):(aS x).flatMap kv=[]:=rfl
attribute[local go_sem high] N2 Ki Kj Kg Kk Kf Kl Kh
def kf(B:List bj):Nat->List Int
 | 0=>List.replicate B.length (-1)
 | i+1=>if(ah B i).op==11&&decide (0<=xW B i)then(kf B i).set (xW B i).toNat i else kf B i
def gy(B:List bj):Nat->List Int
 | 0=>List.replicate B.length (-1)
 | i+1=>if(ah B i).op==5 then(gy B i).set (xW B i).toNat i else gy B i
def kc(B:List bj)(i:Nat):List Int:=(List.range i).map λj=>((ba B j).length:Int)
def oa(B:List bj)(i:Nat):List Int:=(List.range i).map λj=>xW B j
def si(B:List bj):∀i,(kf B i).length=B.length
 | 0=>by simp[kf]
 | i+1=>by simp only[kf];split<;>simp[si B i]
def qc(B:List bj):∀i,(gy B i).length=B.length
 | 0=>by simp[gy]
 | i+1=>by simp only[gy];split<;>simp[qc B i]
def TR(a b:Int)(i m:Nat)(h:0<m):(List.replicate i a++List.replicate m b).set i a=List.replicate (i+1) a++List.replicate (m-1) b:=by
 obtain⟨m,rfl⟩:∃k,m=k+1:=⟨m-1,by omega⟩
 rw[List.set_append_right _ _ (by simp)];simp only[List.length_replicate,GQ,Eo,List.set_cons_zero,Nat.add_sub_cancel];rw[<-Eo,List.replicate_succ'];simp
def B9(n:Nat)(hn:n<1073741824):aX pg J4 [.int .i64 n] [] (λid=>1000<=id/\id<2000) (λr σ'=>r = .ms 6 1 0 n/\σ'=[(6,⟨3,1,(List.replicate n (-1)).map ri,false⟩)]):=by
 refine bT AO ?_;simp only[AO,go_sem];refine⟨by omega,?_⟩;refine an (λi:Nat=>⟨[(9,.int .i64 i),(8,.int .i64 n),(3,.ms 6 1 0 n)],[(6,⟨3,1,(List.replicate i (-1)++List.replicate (n-i) 0).map ri,false⟩)]⟩) (λi=>i<=n) (λi=>n-i) 0 (cQ _) (Wk.of ?_ ?_) ?_
 .simp[go_sem]
 .simp[go_sem]
 intro i hi;simp only[go_sem];refine⟨λh=>⟨by omega,by simp;omega,aE (i+1) (by omega) (by omega) (Wk.of ?_ ?_)⟩,λh=>done [] (.ms 6 1 0 n) [(6,⟨3,1,(List.replicate n (-1)).map ri,false⟩)] ?_ ?_ rfl ⟨rfl,rfl⟩⟩
 .simp[go_sem,wi (n:=i+1) (by omega) (by omega)]
 .simp only[go_sem,↓reduceIte,AJ,TR (-1) 0 i (n-i) (by omega),show n-i-1=n-(i+1)by omega]
 .simp[go_sem]
 .have:i=n:=by omega
  subst this;simp[go_sem]
def vT(B:List bj)(h:Int)(i:Nat):sg B h (i+1)=(sg B h i||(decide (h<i)&&(ah B i).op==5&&decide (0<(ba B i).length)&&xW B i==h)):=by
 simp only[sg,List.range_succ,List.any_append,List.any_cons,List.any_nil,Bool.or_false]
def xX(B:List bj)(l:List Int):AV:=if(nchk B).2=0 then .sl 1 (l.map ri)else .nl
def Fm(B:List bj)(i:Nat):kc B (i+1)=kc B i++[((ba B i).length:Int)]:=by simp[kc,List.range_succ]
def H4(B:List bj)(i:Nat):oa B (i+1)=oa B i++[xW B i]:=by simp[oa,List.range_succ]
def n_(B:List bj)(i:Nat):(kc B i).length=i:=by simp[kc]
def qd(B:List bj)(i:Nat):(oa B i).length=i:=by simp[oa]
def nrk(p:Int×Bool):List AV:=[.int .i64 p.1,.bool p.2]
def afG(p:Int×Bool):nrk p=[.int .i64 p.1,.bool p.2]:=rfl
attribute[local go_sem] afG
def ke(B:List bj)(i:Nat):List Int:=kc B i++List.replicate (B.length-i) (-1)
def oc(B:List bj)(i:Nat):List Int:=oa B i++List.replicate (B.length-i) (-1)
def jF(B:List bj)(i:Nat):List (Int×Bool):=(ba B i).map λh=>(h,sg B h i)
def Aw(B:List bj):AV:=.tup [.agg [xX B (kf B B.length),xX B (gy B B.length),xX B (kc B B.length),xX B (oa B B.length)],.int .i64 (nchk B).1,.int .i64 (nchk B).2]
def dJ{B:List bj}{a e:Int}(h:nchk B=(a,e))(he:e≠0):Aw B = .tup [.agg [.nl,.nl,.nl,.nl],.int .i64 a,.int .i64 e]:=by simp[Aw,xX,h,he]
def Gs{B:List bj}(h:nchk B=(0,0)):Aw B = .tup [.agg [.sl 1 ((kf B B.length).map ri),.sl 1 ((gy B B.length).map ri),.sl 1 ((kc B B.length).map ri),.sl 1 ((oa B B.length).map ri)],.int .i64 0,.int .i64 0]:=by simp[Aw,xX,h]
def ZL{l:List Int}{i n:Nat}{x:Int}(hl:l.length=i)(hi:i<n):(l++List.replicate (n-i) (-1)).set i x=(l++[x])++List.replicate (n-(i+1)) (-1):=by
 subst hl;rw[List.set_append_right _ _ (bG _),GQ,show n-l.length=(n-(l.length+1))+1 by omega,Eo,List.set_cons_zero];simp
def lr{B:List bj}{i:Nat}(hi:i<B.length):(ke B i).set i ((ba B i).length:Int)=ke B (i+1):=by
 rw[ke,ZL (n_ B i) hi,<-Fm,ke]
def od{B:List bj}{i:Nat}(hi:i<B.length):(oc B i).set i (xW B i)=oc B (i+1):=by
 rw[oc,ZL (qd B i) hi,<-H4,oc]
def DH(B:List bj)(i:Nat):(jF B i).length=(ba B i).length:=by simp[jF]
def TU{B:List bj}{i:Nat}{J:List (Int×Bool)}(h:0<(ba B i).length):ah (jF B i++J) ((ba B i).length-1)=(xW B i,sg B (xW B i) i):=by
 rw[Gu (by rw[DH];omega),jF,Ic (by omega)];rfl
def vS{B:List bj}{h:Int}{i:Nat}(h5:((ah B i).op==5)=false):sg B h (i+1)=sg B h i:=by rw[vT,h5];simp
def TK{B:List bj}{i:Nat}:sg B i (i+1)=false:=by
 simp only[sg,vB];intro j hj;simp at hj⊢;omega
def PV{B:List bj}{i:Nat}(h5:((ah B i).op==5)=false)(hb:EE (ah B i).op=true):jF B (i+1)=jF B i++[((i:Int),false)]:=by
 have hi0:sg B i i=false:=by rw[<-vS h5];exact TK
 simp only[jF,ba,ry,hb,br,kr,eR,k9,vS h5,hi0]
def TT{B:List bj}{i:Nat}(h5:((ah B i).op==5)=false)(hb:EE (ah B i).op=false)(h11:((ah B i).op==11)=true):jF B (i+1)=(jF B i).dropLast:=by
 simp only[jF,ba,ry,hb,h11,br,gd,cD,vS h5,List.map_dropLast]
def PW{B:List bj}{i:Nat}(h5:((ah B i).op==5)=false)(hb:EE (ah B i).op=false)(h11:((ah B i).op==11)=false):jF B (i+1)=jF B i:=by
 simp only[jF,ba,ry,hb,h11,gd,cD,vS h5]
def PU{B:List bj}{i:Nat}(hne:∀j,j<i->0<(ba B j).length)(h0:0<(ba B i).length)(hh:xW B i<i)(h5:((ah B i).op==5)=true):jF B (i+1)=(jF B i).set ((ba B i).length-1) (xW B i,true):=by
 have h5':(ah B i).op=5:=by simpa using h5
 have hr:ba B (i+1)=ba B i:=by simp[ba,ry,EE,h5']
 refine List.ext_getElem (by simp[jF,hr]) λk h1 h2=>?_;have hk:k<(ba B i).length:=by rw[DH,hr]at h1;exact h1
 simp only[jF,List.getElem_map,hr,List.getElem_set];by_cases hkl:(ba B i).length-1=k
 .subst hkl;rw[aF rfl];have:(ba B i)[(ba B i).length-1]=xW B i:=(bD hk).symm;rw[this,vT,h5];simp[hh,h0]
 .rw[au hkl,vT,h5];have:(xW B i==(ba B i)[k])=false:=by
   rw[iS];intro he;rcases Gr hne h0 with⟨g1,_⟩|⟨_,j,g2,g3,g4,_⟩
   .omega
   .have hkj:k<(ba B j).length:=by rw[g4,pA];omega
    have e1:ah (ba B j) k=(ba B i)[k]:=by rw[g4,Km (by omega),bD hk]
    rcases xY B j (λm hm=>hne m (by omega)) k hkj with⟨_,g5⟩|⟨_,m,g5,g6,_⟩<;>omega
  rw[this];simp
def Gt(B:List bj):∀i,(∀j,j<i->dX B j=0)->(ba B i).length<=32
 | 0,_=>by simp[ba]
 | i+1,he=>by
  have ih:=Gt B i (λj hj=>he j (by omega));have:=(TL (he i (by omega))).2;simp only[ba,ry];split
  .rename_i hb;rw[hb]at this;simp at this⊢;omega
  .split
   .simp;omega
   .exact ih
def TS(id row:Nat)(t:TypeId)(l:List (Int×Bool)):I6 id 1 2 row 1 (some ⟨t,2,l.map nrk,false⟩) (some [.bool true])=if row<l.length then some (.put id ⟨t,2,(l.set row ((ah l row).1,true)).map nrk,false⟩)else none :=
 zH id 1 2 row 1 t nrk l [.bool true] (λp=>(p.1,true)) rfl rfl (λ_=>bG 2) (λ_=>rfl)
def XQ(B:List bj)(hn:B.length<1000000):ac pg J3 [.sl 9 (B.map aS)] (Aw B):=by
 refine aD AN ?_;simp only[AN,go_sem];refine y4 (B9 B.length (by omega)) rfl (by simp[go_sem]) 901 (by omega) (by simp[go_sem]) ?_;simp only[go_sem];refine y4 (B9 B.length (by omega)) rfl (by simp[go_sem]) 902 (by omega) (by simp[go_sem]) ?_;simp only[go_sem];refine y4 (B9 B.length (by omega)) rfl (by simp[go_sem]) 903 (by omega) (by simp[go_sem]) ?_;simp only[go_sem];refine y4 (B9 B.length (by omega)) rfl (by simp[go_sem]) 904 (by omega) (by simp[go_sem]) ?_;simp only[go_sem]
 refine an (λq:Nat×List (Int×Bool)=>⟨[(26,.int .i64 q.1),(25,.int .i64 B.length),(24,.sl 9 (B.map aS)),(7,.ms 23 2 0 (ba B q.1).length),(6,.mp 6 4 0 0),(5,.int .i64 B.length),(2,.mp 2 4 0 0),(0,.sl 9 (B.map aS))],
   [(23,⟨315,2,(jF B q.1++q.2).map nrk,false⟩),(6,⟨252,4,[[.ms 901 1 0 B.length,.ms 902 1 0 B.length,.ms 903 1 0 B.length,.ms 904 1 0 B.length]],true⟩),
      (904,⟨3,1,(oc B q.1).map ri,false⟩),(903,⟨3,1,(ke B q.1).map ri,false⟩),(902,⟨3,1,(gy B q.1).map ri,false⟩),(901,⟨3,1,(kf B q.1).map ri,false⟩),(2,⟨252,4,[[.nl,.nl,.nl,.nl]],true⟩)]⟩)
  (λq=>q.1<=B.length/\∀j,j<q.1->dX B j=0) (λq=>B.length-q.1) (0,[]) ⟨cQ _,λj hj=>absurd hj (Nat.not_lt_zero _)⟩ (Wk.of ?_ ?_) ?_
 .simp[go_sem,ba]
 .simp[go_sem,jF,ba,oc,ke,oa,kc,kf,gy,sg]
 rintro⟨i,J⟩ ⟨hi,he⟩;replace hi:i<=B.length:=hi;replace he:∀j,j<i->dX B j=0:=he;have hl:=vg B i;have hsl:=DH B i;have hdl:(ke B i).length=B.length:=by simp[ke,n_];omega
 have hhl:(oc B i).length=B.length:=by simp[oc,qd];omega
 have hw:(IntKind.i64.wrap (↑(ba B i).length-1))=((ba B i).length:Int)-1:=wi (by omega) (by omega);have hnt:((ba B i).length-1:Int).toNat=(ba B i).length-1:=by omega
 have hne:∀j,j<i->0<(ba B j).length:=λj hj=>N0 (he j hj);rcases kz i B.length with hlt|hge
 .have hd1:decide ((i:Int)<(B.length:Int))=true:=by simp;omega
  by_cases h0:(ba B i).length=0
  .have h0':(((ba B i).length:Int)==0)=true:=by simp[h0]
   have h16:dX B i=16:=by simp only[dX,h0,br]
   have hc:nchk B=((i:Int),16):=by rw[sf hlt he (by rw[h16];decide),h16]
   simp only[go_sem,hd1,h0'];refine⟨by omega,by omega,aq [] ?_ ?_⟩
   .rw[dJ hc (by decide)];simp[go_sem]
   .rw[dJ hc (by decide)];rfl
  have h0':(((ba B i).length:Int)==0)=false:=by simp;exact λh=>h0 (by simp[h])
  have hp:0<(ba B i).length:=by omega
  obtain⟨hb1,hb2⟩:=DD hne hp;have htop:=TU (J:=J) hp;have herr:∀e:Int,e≠0->dX B i=e->nchk B=((i:Int),e):=λe h1 h2=>by rw[sf hlt he (by rw[h2];exact h1),h2]
  have hsucc:dX B i=0->∀j,j<i+1->dX B j=0:=λh0 j hj=>by
   rcases Nat.lt_or_eq_of_le (Nat.le_of_lt_succ hj)with h1|h1
   .exact he j h1
   .rw[h1];exact h0
  have happ:=λys=>FC 23 315 2 (ba B i).length nrk (jF B i++J) ys (by simp[hsl]);have htk:List.take (ba B i).length (jF B i++J)=jF B i:=by rw[<-hsl];simp
  have hwi:=wi (n:=(i:Int)+1) (by omega) (by omega);by_cases hb:EE (ah B i).op=true
  .have h5:((ah B i).op==5)=false:=by simp[EE]at hb⊢;omega
   have hbe:cx B i=false:=by simp[cx,h5]
   have key:∀b2 b3 b4:Bool,((ah B i).op==2)=b2->((ah B i).op==3)=b3->((ah B i).op==4)=b4->(b2||b3||b4)=true->True:=λ_ _ _ _ _ _ _=>trivial;have hop:(ah B i).op=2\/(ah B i).op=3\/(ah B i).op=4:=by simp[EE]at hb;omega
   by_cases h32:(ba B i).length=32
   .have h32':(((ba B i).length:Int)==32)=true:=by simp[h32]
    have hc:=herr 6 (by decide) (by simp only[dX,au h0,hbe,hb];simp[h32]);rcases hop with hop|hop|hop
    all_goals
     simp only[go_sem,hd1,h0',hw,hnt,htop,hop,Int.reduceBEq,h32'];refine⟨by omega,by omega,by omega,by omega,by omega,by simp;omega,by omega,by omega,aq [] ?_ ?_⟩
     .rw[dJ hc (by decide)];simp[go_sem]
     .rw[dJ hc (by decide)];rfl
   .have h32':(((ba B i).length:Int)==32)=false:=by simp;omega
    have hlt32:(ba B i).length<32:=by have:=Gt B i he;omega
    have he0:dX B i=0:=by simp only[dX,au h0,hbe,hb];simp;omega
    rcases hop with hop|hop|hop
    all_goals
     have hpu:=PV h5 hb;simp only[go_sem,hd1,h0',hw,hnt,htop,hop,Int.reduceBEq,h32',happ,htk,lr hlt,od hlt];refine⟨by omega,by omega,by omega,by omega,by omega,by simp;omega,by omega,by omega,by omega,aE (i+1,[]) ⟨show i+1<=B.length by omega,hsucc he0⟩ (show B.length-(i+1)<B.length-i by omega) (Wk.of ?_ ?_)⟩
     .simp[go_sem,hwi,ba,ry,hb]
     .simp[go_sem,hpu,kf,gy,hop]
  .have hb':EE (ah B i).op=false:=by simpa using hb
   have h2:((ah B i).op==2)=false:=by simp[EE]at hb';simp[hb']
   have h3:((ah B i).op==3)=false:=by simp[EE]at hb';simp[hb']
   have h4:((ah B i).op==4)=false:=by simp[EE]at hb';simp[hb']
   by_cases h5:((ah B i).op==5)=true
   .have h11:((ah B i).op==11)=false:=by simp at h5⊢;omega
    have hr:ba B (i+1)=ba B i:=by simp[ba,ry,hb',h11]
    have hel:=PU hne hp hb2 h5;have hns:ah ((jF B i++J).set ((ba B i).length-1) (xW B i,true)) ((ba B i).length-1)=(xW B i,true):=Go.Mw.Id (by simp;omega);simp only[go_sem,hd1,h0',hw,hnt,htop,h2,h3,h4,h5,TS,hns,lr hlt,od hlt];have hbad:cx B i=true->nchk B=((i:Int),16):=λhbe=>herr 16 (by decide) (by simp only[dX,au h0,hbe,br]);refine⟨by omega,by omega,by omega,by omega,by omega,by simp;omega,by omega,by omega,by simp;omega,λhneg=>aq [] ?_ ?_,λhneg=>⟨by simp;omega,by omega,by omega,λh4'=>aq [] ?_ ?_,λh4'=>⟨by simp;omega,λhels=>aq [] ?_ ?_,λhels=>⟨by simp;omega,by simp;omega,by omega,?_,aE (i+1,J) ⟨show i+1<=B.length by omega,hsucc ?_⟩ (show B.length-(i+1)<B.length-i by omega) (Wk.of ?_ ?_)⟩⟩⟩⟩
    .rw[dJ (hbad (by simp[cx,h5,hneg])) (by decide)];simp[go_sem]
    .rw[dJ (hbad (by simp[cx,h5,hneg])) (by decide)];rfl
    .rw[dJ (hbad (by simp[cx,h5,h4'])) (by decide)];simp[go_sem]
    .rw[dJ (hbad (by simp[cx,h5,h4'])) (by decide)];rfl
    .rw[dJ (hbad (by simp[cx,h5,hels])) (by decide)];simp[go_sem]
    .rw[dJ (hbad (by simp[cx,h5,hels])) (by decide)];rfl
    .rw[qc];omega
    .have hbe:cx B i=false:=by simp[cx,h4',hels];intro _;omega
     simp only[dX,au h0,hbe,hb'];rfl
    .simp[go_sem,hwi,hr]
    .have e1:(jF B i++J).set ((ba B i).length-1) (xW B i,true)=(jF B i).set ((ba B i).length-1) (xW B i,true)++J:=List.set_append_left _ _ (by omega);simp only[go_sem,hel,e1,kf,gy,h11,h5,dR,gd]
   .have h5':((ah B i).op==5)=false:=by simpa using h5
    have hbe:cx B i=false:=by simp[cx,h5']
    have he0:dX B i=0:=by simp only[dX,au h0,hbe,hb'];rfl
    by_cases h11:((ah B i).op==11)=true
    .have hpo:=TT h5' hb' h11;have hr:ba B (i+1)=(ba B i).dropLast:=by simp[ba,ry,hb',h11]
     have e1:jF B i++J=(jF B i).dropLast++((jF B i).drop ((ba B i).length-1)++J):=by
      rw[List.dropLast_eq_take,hsl,<-eU,IS]
     simp only[go_sem,hd1,h0',hw,hnt,htop,h2,h3,h4,h5',h11,lr hlt,od hlt];refine⟨by omega,by omega,by omega,by omega,by omega,by simp;omega,by omega,by omega,by simp;omega,λhge=>⟨by simp;omega,by omega,?_,by omega,aE (i+1,(jF B i).drop ((ba B i).length-1)++J) ⟨show i+1<=B.length by omega,hsucc he0⟩ (show B.length-(i+1)<B.length-i by omega) (Wk.of ?_ ?_)⟩,λhge=>⟨by omega,aE (i+1,(jF B i).drop ((ba B i).length-1)++J) ⟨show i+1<=B.length by omega,hsucc he0⟩ (show B.length-(i+1)<B.length-i by omega) (Wk.of ?_ ?_)⟩⟩
     .rw[si];omega
     .simp[go_sem,hwi,hr]
     .have hge':decide (0<=xW B i)=true:=by simp;omega
      simp only[go_sem,hpo,<-e1,kf,gy,h11,h5',hge',gd,Bool.and_self]
     .simp[go_sem,hwi,hr]
     .have hge':decide (0<=xW B i)=false:=by simp;omega
      simp only[go_sem,hpo,<-e1,kf,gy,h11,h5',hge',gd,Bool.and_false]
    .have h11':((ah B i).op==11)=false:=by simpa using h11
     have hsm:=PW h5' hb' h11';have hr:ba B (i+1)=ba B i:=by simp[ba,ry,hb',h11']
     simp only[go_sem,hd1,h0',hw,hnt,htop,h2,h3,h4,h5',h11',lr hlt,od hlt];refine⟨by omega,by omega,by omega,by omega,by omega,by simp;omega,by omega,by omega,aE (i+1,J) ⟨show i+1<=B.length by omega,hsucc he0⟩ (show B.length-(i+1)<B.length-i by omega) (Wk.of ?_ ?_)⟩
     .simp[go_sem,hwi,hr]
     .simp only[go_sem,hsm,kf,gy,h11',h5',gd,dR]
 .have hd1:decide ((i:Int)<(B.length:Int))=false:=by simp;omega
  have hiB:i=B.length:=by omega
  subst hiB;simp only[go_sem,hd1];have hc:=DC he;refine⟨λhp=>aq [] ?_ ?_,λhp=>aq [901,902,903,904] ?_ ?_⟩
  .rw[aF (by omega)]at hc;rw[dJ hc (by decide)];simp[go_sem]
  .rw[aF (by omega)]at hc;rw[dJ hc (by decide)];rfl
  .rw[au (by omega)]at hc;rw[Gs hc];simp[go_sem,si,qc,n_,qd,ke,oc];exact⟨dQ (by simp[si]),dQ (by simp[qc]),dQ (by simp[n_]),dQ (by simp[qd])⟩
  .rw[au (by omega)]at hc;rw[Gs hc];rfl
def TP(B:List bj)(hn:B.length<1000000):ac pg HD [.sl 9 (B.map aS)] (.tup [.int .i64 (nchk B).1,.int .i64 (nchk B).2]):=by
 refine aD yH ?_;simp only[yH,go_sem];refine aj (XQ B hn) ?_;by_cases h:(nchk B).2=0
 all_goals
  simp only[Aw,xX,h,go_sem];refine aq [] ?_ rfl;simp[go_sem,h]
end
section
open Go Go.Mw
def kb(b:Bool):ao:=⟨4,1,[[.bool b]],true⟩
def tS(l:List bj):Bool:=(nchk l).2==0
attribute[local go_sem] cU dm aS kb iz cK s8 bh ef bC
def abV(l:List bj)(b:Bool)(hl:l.length<1000000):aX pg cT [.sl 9 (l.map aS),.mp 1000 1 0 0] [(1000,kb b)] sb (λr' σ'=>r' = .tup []/\σ'=[(1000,kb (b&&tS l))]):=by
 refine bT pE ?_;have c:=TP l hl;unfold tS;simp only[go_sem,pE];refine aj (c) ?_;cases b
 .simp only[go_sem];exact da [] _ [(1000,kb false)] ⟨rfl,rfl⟩
 .simp only[go_sem];exact da [] _ [(1000,kb ((nchk l).2==0))] ⟨rfl,rfl⟩
def qQ{l:List bj}{b:Bool}{d:Option Nat}{s:St}{K:St->Prop}(hl:l.length<1000000)(h1:ak s.heap 3=some (kb b))
  (hK:K (((St.mk (dD [] s.env) ([(3,kb (b&&tS l))]++dx [] s.heap)).put d (.tup [])))):cR pg cT [.sl 9 (l.map aS),.mp 3 1 0 0] d s K:=by
 refine d_ (σ2:=[(3,kb b)]) (r3:=.tup []) (σ3:=[(3,kb (b&&tS l))]) (abV l b hl) [(1000,3)] [] rfl rfl rfl rfl ?_ ?_ ?_ hK
 .simp[h1]
 .simp[sb,bw,iU,ak]
 .simp[ak]
def pT{α:Type}[Inhabited α]{f:α->Bool}{l:List α}{i:Nat}(h:i<l.length):(l.take (i+1)).all f=((l.take i).all f&&f (ah l i)):=by
 rw[su h,List.all_append];simp
def Nt(x:El):Bool:=(x.mo != 0||tS x.o)&&x.it.all tS
def QB(x:Da):Bool:=x.mo != 0||tS x.o
def TM(m:Md):H3 m=(m.fs.all (λx=>tS x.b)&&m.gs.all (λx=>tS x.i)&&m.els.all Nt&&m.ds.all QB):=rfl
def Tt{m:Md}(h:okM AA m):ac pg BB [cY m] (.bool (H3 m)):=by
 refine aD sC ?_;have hfs:=h.fs.1;have hgs:=h.gs.1;have hel:=h.els.1;have hds:=h.ds.1;rw[TM];simp only[go_sem,sC,cY,bC];obtain⟨B,hB⟩:∃B:Nat->Bool,∀i,B i=((m.fs.take i).all (λx=>tS x.b)):=⟨_,λ_=>rfl⟩
 have JB:B 0=true:=by rw[hB];simp
 refine an (λi:Nat=>⟨[(19,.int .i64 i),(18,.int .i64 m.fs.length),(17,.sl 3 (m.fs.map qB)),(4,.fn cT [.mp 3 1 0 0]),(3,.mp 3 1 0 0),(1,.mp 1 12 0 0)],[(3,kb (B i)),(1,⟨33,12,[[.sl 2 (m.ts.map vK),.sl 13 (m.ims.map vM),.sl 3 (m.fs.map qB),.sl 4 (m.tbs.map xx),.sl 3 (m.ms.map p7),.sl 3 (m.gs.map zX),.sl 3 (m.exs.map y6),.bool m.hs,.int .i64 m.st,.sl 5 (m.els.map fR),.sl 4 (m.ds.map nz),.sl 3 (m.cs.map CB)]],true⟩)]⟩) (λi=>i<=m.fs.length) (λi=>m.fs.length-i) 0 (cQ _) (Wk.of ?_ ?_) ?_
 .simp only[go_sem];try simp
 .simp only[go_sem,JB];try simp[go_sem]
 intro i hi2;by_cases q1:(i:Int)<(m.fs.length:Int)
 .have hi':i<m.fs.length:=by omega
  have e8:=dv hi' (by omega);have hn:B (i+1)=(B i&&tS (ah m.fs i).b):=by rw[hB,hB,pT hi']
  have hl:=(bN h.bo hi').1;simp only[go_sem,aL q1];refine⟨by omega,q1,?_⟩;refine⟨by kernel_rfl,?_⟩;refine qQ (b:=B i) (by omega) (by simp only[go_sem]) ?_;simp only[go_sem];refine aE (i+1) (show i+1<=m.fs.length by omega) (show m.fs.length-(i+1)<m.fs.length-i by omega) (Wk.of ?_ ?_)
  .simp only[go_sem,e8];try simp
  .simp only[go_sem,hn];try simp[go_sem]
 obtain rfl:i=m.fs.length:=by omega
 have hB1:B m.fs.length=(m.fs.all (λx=>tS x.b)):=by rw[hB,eV]
 rw[<-hB1];simp only[go_sem,aM q1];clear q1 hi2;generalize B m.fs.length=b1;clear hB JB hB1 B;obtain⟨B,hB⟩:∃B:Nat->Bool,∀i,B i=(b1&&(m.gs.take i).all (λx=>tS x.i)):=⟨_,λ_=>rfl⟩
 have JB:B 0=b1:=by rw[hB];simp
 refine an (λi:Nat=>⟨[(31,.int .i64 i),(30,.int .i64 m.gs.length),(29,.sl 3 (m.gs.map zX)),(4,.fn cT [.mp 3 1 0 0]),(3,.mp 3 1 0 0),(1,.mp 1 12 0 0)],[(3,kb (B i)),(1,⟨33,12,[[.sl 2 (m.ts.map vK),.sl 13 (m.ims.map vM),.sl 3 (m.fs.map qB),.sl 4 (m.tbs.map xx),.sl 3 (m.ms.map p7),.sl 3 (m.gs.map zX),.sl 3 (m.exs.map y6),.bool m.hs,.int .i64 m.st,.sl 5 (m.els.map fR),.sl 4 (m.ds.map nz),.sl 3 (m.cs.map CB)]],true⟩)]⟩) (λi=>i<=m.gs.length) (λi=>m.gs.length-i) 0 (cQ _) (Wk.of ?_ ?_) ?_
 .simp only[go_sem];try simp
 .simp only[go_sem,JB];try simp[go_sem]
 intro i hi2;by_cases q1:(i:Int)<(m.gs.length:Int)
 .have hi':i<m.gs.length:=by omega
  have e8:=dv hi' (by omega);have hn:B (i+1)=(B i&&tS (ah m.gs i).i):=by rw[hB,hB,pT hi',Bool.and_assoc]
  have hl:=(bN h.gs.2 hi').2.1;simp only[go_sem,aL q1];refine⟨by omega,q1,?_⟩;refine⟨by kernel_rfl,?_⟩;refine qQ (b:=B i) (by omega) (by simp only[go_sem]) ?_;simp only[go_sem];refine aE (i+1) (show i+1<=m.gs.length by omega) (show m.gs.length-(i+1)<m.gs.length-i by omega) (Wk.of ?_ ?_)
  .simp only[go_sem,e8];try simp
  .simp only[go_sem,hn];try simp[go_sem]
 obtain rfl:i=m.gs.length:=by omega
 have hB1:B m.gs.length=(b1&&m.gs.all (λx=>tS x.i)):=by rw[hB,eV]
 rw[<-hB1];simp only[go_sem,aM q1];clear q1 hi2;generalize B m.gs.length=b2;clear hB JB hB1 B;obtain⟨B,hB⟩:∃B:Nat->Bool,∀i,B i=(b2&&(m.els.take i).all Nt):=⟨_,λ_=>rfl⟩
 have JB:B 0=b2:=by rw[hB];simp
 refine an (λi:Nat=>⟨[(43,.int .i64 i),(42,.int .i64 m.els.length),(41,.sl 5 (m.els.map fR)),(4,.fn cT [.mp 3 1 0 0]),(3,.mp 3 1 0 0),(1,.mp 1 12 0 0)],[(3,kb (B i)),(1,⟨33,12,[[.sl 2 (m.ts.map vK),.sl 13 (m.ims.map vM),.sl 3 (m.fs.map qB),.sl 4 (m.tbs.map xx),.sl 3 (m.ms.map p7),.sl 3 (m.gs.map zX),.sl 3 (m.exs.map y6),.bool m.hs,.int .i64 m.st,.sl 5 (m.els.map fR),.sl 4 (m.ds.map nz),.sl 3 (m.cs.map CB)]],true⟩)]⟩) (λi=>i<=m.els.length) (λi=>m.els.length-i) 0 (cQ _) (Wk.of ?_ ?_) ?_
 .simp only[go_sem];try simp
 .simp only[go_sem,JB];try simp[go_sem]
 intro i hi2;by_cases q1:(i:Int)<(m.els.length:Int)
 .have hi':i<m.els.length:=by omega
  have e8:=dv hi' (by omega);have hn:B (i+1)=(B i&&Nt (ah m.els i)):=by rw[hB,hB,pT hi',Bool.and_assoc]
  obtain⟨ho,hit⟩:=(bN h.els.2 hi').2;have hil:=(z_ (bN h.els.2 hi').1).2.2.2.2;generalize hx:ah m.els i=x at*;obtain⟨b0,hb0⟩:∃b0:Bool,b0=(B i&&(x.mo != 0||tS x.o)):=⟨_,rfl⟩
  have hn2:B (i+1)=(b0&&x.it.all tS):=by rw[hn,hb0,Nt,Bool.and_assoc]
  simp only[go_sem,aL q1,hx];refine⟨by omega,q1,?_⟩;by_cases hm:x.mo=0
  .rw[hm]at hb0;simp only[go_sem,be hm];refine⟨by kernel_rfl,?_⟩;refine qQ (b:=B i) (by have:=ho.1;omega) (by simp only[go_sem]) ?_;simp only[go_sem];rw[show(B i&&tS x.o)=b0 by rw[hb0];simp];obtain⟨D,hD⟩:∃D:Nat->Bool,∀j,D j=(b0&&(x.it.take j).all tS):=⟨_,λ_=>rfl⟩
   have hD0:D 0=b0:=by rw[hD];simp
   refine an (λj:Nat=>⟨[(57,.int .i64 j),(56,.int .i64 x.it.length),(55,.sl 1 (x.it.map jY)),(43,.int .i64 i),(42,.int .i64 m.els.length),(41,.sl 5 (m.els.map fR)),(4,.fn cT [.mp 3 1 0 0]),(3,.mp 3 1 0 0),(1,.mp 1 12 0 0)],[(3,kb (D j)),(1,⟨33,12,[[.sl 2 (m.ts.map vK),.sl 13 (m.ims.map vM),.sl 3 (m.fs.map qB),.sl 4 (m.tbs.map xx),.sl 3 (m.ms.map p7),.sl 3 (m.gs.map zX),.sl 3 (m.exs.map y6),.bool m.hs,.int .i64 m.st,.sl 5 (m.els.map fR),.sl 4 (m.ds.map nz),.sl 3 (m.cs.map CB)]],true⟩)]⟩) (λj=>j<=x.it.length) (λj=>x.it.length-j) 0 (cQ _) (Wk.of ?_ ?_) ?_
   .simp only[go_sem];try simp
   .simp only[go_sem,hD0];try simp[go_sem]
   intro j hj2;by_cases q2:(j:Int)<(x.it.length:Int);rotate_left
   .obtain rfl:j=x.it.length:=by omega
    have hD1:D x.it.length=B (i+1):=by rw[hD,eV,hn2]
    simp only[go_sem,aM q2];refine aE (i+1) (show i+1<=m.els.length by omega) (show m.els.length-(i+1)<m.els.length-i by omega) (Wk.of ?_ ?_)
    .simp only[go_sem,e8];try simp
    .simp only[go_sem,hD1];try simp[go_sem]
   have hj':j<x.it.length:=by omega
   have e9:=dv hj' (by omega);have hn3:D (j+1)=(D j&&tS (ah x.it j)):=by rw[hD,hD,pT hj',Bool.and_assoc]
   have hl3:=(bN hit hj').1;simp only[go_sem,aL q2];refine⟨by omega,q2,?_⟩;refine⟨by kernel_rfl,?_⟩;refine qQ (b:=D j) (by omega) (by simp only[go_sem]) ?_;simp only[go_sem];refine aE (j+1) (show j+1<=x.it.length by omega) (show x.it.length-(j+1)<x.it.length-j by omega) (Wk.of ?_ ?_)
   .simp only[go_sem,e9];try simp
   .simp only[go_sem,hn3];try simp[go_sem]
  .have hb1:B i=b0:=by rw[hb0,bv hm];simp
   simp only[go_sem,aw hm,hb1];obtain⟨D,hD⟩:∃D:Nat->Bool,∀j,D j=(b0&&(x.it.take j).all tS):=⟨_,λ_=>rfl⟩
   have hD0:D 0=b0:=by rw[hD];simp
   refine an (λj:Nat=>⟨[(57,.int .i64 j),(56,.int .i64 x.it.length),(55,.sl 1 (x.it.map jY)),(43,.int .i64 i),(42,.int .i64 m.els.length),(41,.sl 5 (m.els.map fR)),(4,.fn cT [.mp 3 1 0 0]),(3,.mp 3 1 0 0),(1,.mp 1 12 0 0)],[(3,kb (D j)),(1,⟨33,12,[[.sl 2 (m.ts.map vK),.sl 13 (m.ims.map vM),.sl 3 (m.fs.map qB),.sl 4 (m.tbs.map xx),.sl 3 (m.ms.map p7),.sl 3 (m.gs.map zX),.sl 3 (m.exs.map y6),.bool m.hs,.int .i64 m.st,.sl 5 (m.els.map fR),.sl 4 (m.ds.map nz),.sl 3 (m.cs.map CB)]],true⟩)]⟩) (λj=>j<=x.it.length) (λj=>x.it.length-j) 0 (cQ _) (Wk.of ?_ ?_) ?_
   .simp only[go_sem];try simp
   .simp only[go_sem,hD0];try simp[go_sem]
   intro j hj2;by_cases q2:(j:Int)<(x.it.length:Int);rotate_left
   .obtain rfl:j=x.it.length:=by omega
    have hD1:D x.it.length=B (i+1):=by rw[hD,eV,hn2]
    simp only[go_sem,aM q2];refine aE (i+1) (show i+1<=m.els.length by omega) (show m.els.length-(i+1)<m.els.length-i by omega) (Wk.of ?_ ?_)
    .simp only[go_sem,e8];try simp
    .simp only[go_sem,hD1];try simp[go_sem]
   have hj':j<x.it.length:=by omega
   have e9:=dv hj' (by omega);have hn3:D (j+1)=(D j&&tS (ah x.it j)):=by rw[hD,hD,pT hj',Bool.and_assoc]
   have hl3:=(bN hit hj').1;simp only[go_sem,aL q2];refine⟨by omega,q2,?_⟩;refine⟨by kernel_rfl,?_⟩;refine qQ (b:=D j) (by omega) (by simp only[go_sem]) ?_;simp only[go_sem];refine aE (j+1) (show j+1<=x.it.length by omega) (show x.it.length-(j+1)<x.it.length-j by omega) (Wk.of ?_ ?_)
   .simp only[go_sem,e9];try simp
   .simp only[go_sem,hn3];try simp[go_sem]
 obtain rfl:i=m.els.length:=by omega
 have hB1:B m.els.length=(b2&&m.els.all Nt):=by rw[hB,eV]
 rw[<-hB1];simp only[go_sem,aM q1];clear q1 hi2;generalize B m.els.length=b3;clear hB JB hB1 B;obtain⟨B,hB⟩:∃B:Nat->Bool,∀i,B i=(b3&&(m.ds.take i).all QB):=⟨_,λ_=>rfl⟩
 have JB:B 0=b3:=by rw[hB];simp
 refine an (λi:Nat=>⟨[(69,.int .i64 i),(68,.int .i64 m.ds.length),(67,.sl 4 (m.ds.map nz)),(4,.fn cT [.mp 3 1 0 0]),(3,.mp 3 1 0 0),(1,.mp 1 12 0 0)],[(3,kb (B i)),(1,⟨33,12,[[.sl 2 (m.ts.map vK),.sl 13 (m.ims.map vM),.sl 3 (m.fs.map qB),.sl 4 (m.tbs.map xx),.sl 3 (m.ms.map p7),.sl 3 (m.gs.map zX),.sl 3 (m.exs.map y6),.bool m.hs,.int .i64 m.st,.sl 5 (m.els.map fR),.sl 4 (m.ds.map nz),.sl 3 (m.cs.map CB)]],true⟩)]⟩) (λi=>i<=m.ds.length) (λi=>m.ds.length-i) 0 (cQ _) (Wk.of ?_ ?_) ?_
 .simp only[go_sem];try simp
 .simp only[go_sem,JB];try simp[go_sem]
 intro i hi2;by_cases q1:(i:Int)<(m.ds.length:Int)
 .have hi':i<m.ds.length:=by omega
  have e8:=dv hi' (by omega);have hn:B (i+1)=(B i&&QB (ah m.ds i)):=by rw[hB,hB,pT hi',Bool.and_assoc]
  have hl:=(bN h.ds.2 hi').2.2.2.1;generalize hx:ah m.ds i=x at*;unfold QB at hn;by_cases hm:x.mo=0
  .rw[hm]at hn;simp only[go_sem,aL q1,hx,be hm];refine⟨by omega,q1,?_⟩;refine⟨by kernel_rfl,?_⟩;refine qQ (b:=B i) (by omega) (by simp only[go_sem]) ?_;simp only[go_sem];refine aE (i+1) (show i+1<=m.ds.length by omega) (show m.ds.length-(i+1)<m.ds.length-i by omega) (Wk.of ?_ ?_)
   .simp only[go_sem,e8];try simp
   .simp only[go_sem,hn];try simp[go_sem]
  .rw[bv hm,iT,Bool.and_true]at hn;simp only[go_sem,aL q1,hx,aw hm];refine⟨by omega,q1,?_⟩;refine aE (i+1) (show i+1<=m.ds.length by omega) (show m.ds.length-(i+1)<m.ds.length-i by omega) (Wk.of ?_ ?_)
   .simp only[go_sem,e8];try simp
   .simp only[go_sem,hn];try simp[go_sem]
 obtain rfl:i=m.ds.length:=by omega
 have hB1:B m.ds.length=(b3&&m.ds.all QB):=by rw[hB,eV]
 rw[<-hB1];simp only[go_sem,aM q1];clear q1 hi2;generalize B m.ds.length=b4;clear hB JB hB1 B;exact az
end
open Go Go.Mw
def Ly(c:Cu)(cs:List Cu)(p:Int):nU (c::cs) p=if c.af=p then c::nU cs p else nU cs p:=by
 unfold nU;rw[List.filter_cons];by_cases h:c.af=p
 .rw[aF h,aF (by simpa using h)]
 .rw[au h,au (by simpa using h)]
def Wn{cs:List Cu}{p:Int}(h:∀c∈cs,p<c.af):nU cs p=[]:=by
 unfold nU;rw[List.filter_eq_nil_iff];intro c hc;have:=h c hc;simp;omega
def N5{ps:List Int}:∀(cs:List Cu)(l:Int),xZ ps l cs=true->∀c∈cs,c.af=0\/c.af∈ps
 | [],l,_,c,h=>by cases h
 | x::cs,l,ho,c,h=>by
  rw[xZ]at ho;simp only[cE,sz,Bool.or_eq_false_iff,Bool.not_eq_false',eQ,decide_eq_false_iff_not]at ho;rcases eA.1 h with rfl|h
  .simpa using ho.1.2
  .exact N5 cs _ ho.2 c h
def tq(c:Prop)[Decidable c](p:Int):List Int:=if c then[p]else[]
def AB(m:Md):qt m=tq (m.ts.length>0) 1++tq (m.ims.length>0) 2++tq (m.fs.length>0) 3++tq (m.tbs.length>0) 4++tq (m.ms.length>0) 5++tq (m.gs.length>0) 6++tq (m.exs.length>0) 7++tq (m.hs=true) 8++tq (m.els.length>0) 9++tq (m.ds.length>0) 10++tq (m.fs.length>0) 11++tq (m.ds.length>0) 12:=rfl
def Mg{c:Prop}[Decidable c]{p x:Int}(h:x∈tq c p):x=p:=by
 unfold tq at h;split at h
 .simpa using h
 .cases h
def m6{c:Prop}[Decidable c]{p:Int}{l:List Int}(hl:l.Pairwise (· < ·))(h:∀x∈l,x<p):(l++tq c p).Pairwise (· < ·)/\∀x∈l++tq c p,x<p+1:=by
 refine⟨List.pairwise_append.2 ⟨hl,?_,λa ha b hb=>by rw[Mg hb];exact h a ha⟩,λx hx=>?_⟩
 .unfold tq;split<;>simp
 .rcases f9.1 hx with q|q
  .have:=h x q;omega
  .rw[Mg q];omega
def Oa(m:Md):((0:Int)::qt m).Pairwise (· < ·):=by
 have h0:([0]:List Int).Pairwise (· < ·)/\∀x∈([0]:List Int),x<0+1:=by simp
 have h1:=m6 (c:=m.ts.length>0) (p:=1) h0.1 h0.2;have h2:=m6 (c:=m.ims.length>0) (p:=2) h1.1 h1.2;have h3:=m6 (c:=m.fs.length>0) (p:=3) h2.1 h2.2;have h4:=m6 (c:=m.tbs.length>0) (p:=4) h3.1 h3.2;have h5:=m6 (c:=m.ms.length>0) (p:=5) h4.1 h4.2;have h6:=m6 (c:=m.gs.length>0) (p:=6) h5.1 h5.2;have h7:=m6 (c:=m.exs.length>0) (p:=7) h6.1 h6.2;have h8:=m6 (c:=m.hs=true) (p:=8) h7.1 h7.2;have h9:=m6 (c:=m.els.length>0) (p:=9) h8.1 h8.2;have h10:=m6 (c:=m.ds.length>0) (p:=10) h9.1 h9.2;have h11:=m6 (c:=m.fs.length>0) (p:=11) h10.1 h10.2;have h12:=m6 (c:=m.ds.length>0) (p:=12) h11.1 h11.2;rw[AB];simpa only[eU,List.singleton_append,fA,k7]using h12.1
