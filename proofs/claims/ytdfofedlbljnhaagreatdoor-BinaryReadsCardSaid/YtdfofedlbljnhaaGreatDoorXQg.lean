import Derived.Test.YtdfofedlbljnhaaGreatDoorXQf
set_option linter.all false
set_option maxRecDepth 100000
set_option maxHeartbeats 40000000
namespace Go.Proofs.YtdfofedlbljnhaaGreatDoor
open Go Go.Mw
def Yu{ok:Bool}{b:Af}{a:Nat}{e:Int}(h:a<=b.length):(eD ok b a e).2.1<=b.length:=by
 unfold eD
 repeat' split
 all_goals first|exact h|(simp only;omega)
def XL{b:Af}{a:Nat}{t:Option (Af)×Nat×Int}(h:a<=b.length)(h2:t.2.1<=b.length):(mh b a t).2.1<=b.length:=by
 unfold mh
 repeat' split
 all_goals first|exact h|exact h2
def HU{ok:Bool}{b:Af}{a:Nat}{e:Int}(h:a<=b.length):(ci ok b a e).2.1<=b.length:=by
 unfold ci;split
 .exact XL h (NE (fg h))
 .exact h
section
variable(n:Int)(b:Af)(a:Nat)(e:Int)(b2:Af)(a2:Nat)(e2:Int)(hn:-9223372036854775808<=n/\n<9223372036854775808)(ha:a<=b.length)(hb:b.length<1000000000)(ha2:a2<=b2.length)(hb2:b2.length<1000000000)
include hn ha hb ha2 hb2
end
section
def ahh(x:Int×Int):List AV:=[.int .i64 x.1,.int .i64 x.2]
def aej(x:Int×Int):ahh x=[.int .i64 x.1,.int .i64 x.2]:=rfl
attribute[go_sem] aej
attribute[local go_sem] rx ro
def LN(b:Af):aj pg 178 [.sl 1 (b.map de)] (rx b 0 0):=by
 refine aC xW ?_;simp only[go_sem,xW];exact an
end
def Fz{l:List nS}{s:St}{r:AV}{m:Bool}{x:Af}{y:Int}{e:IX}(he:∀j,e≠.ext j)(h1:sg l s=some r)(h2:ah s.heap 1000=some (wo 2000 m x y))(h3:ah s.heap 2000=some (wa x))(h4:aM r=[]) :
  mz l (λr' σ'=>r'=r/\σ'=[(1000,wo 2000 m x y),(2000,wa x)]) e s:=by
 refine⟨he,s,λ_ _ _ h=>h,[],r,[(1000,wo 2000 m x y),(2000,wa x)],h1,λi o hi=>?_,oX ?_,rfl,rfl⟩
 .simp only[ah]at hi;split at hi
  .rename_i hki;subst hki;cases hi;exact h2
  .split at hi
   .rename_i hki;subst hki;cases hi;exact h3
   .cases hi
 .rw[KR,h4];rfl
def wS(ok:Bool)(l:Af)(n:Int):Af:=wB ok l (gQ n)
def Fc(ok:Bool)(l:Af)(e n:Int):Af×Int:=if n < -4294967296\/n>4294967295 then(l,if ok=true then 1 else e)else(wS ok l n,e)
def PK(x:Int):Int:=IntKind.i64.wrap (IntKind.i32.wrap (IntKind.u32.wrap x))
def UL(x:Int):-2147483648<=PK x/\PK x<2147483648:=by
 unfold PK;rw[u_,aah];omega
def i64_in(x:Int):WK (IntKind.i64.wrap x):=by unfold WK;rw[u_];omega
def Cj{n:Int}(h:WK n):(gQ n).length<=10:=yN (k:=9) (by unfold WK at h;omega) (by unfold WK at h;omega)
section
variable(m:Bool)(l:Af)(e:Int)(hl:l.length<50000000000)
include hl
attribute[local go_sem] wo wa
def adb(x:Int):WM 271 [.int .u64 x] m l e (.tup []) (wS (m&&e==0) l (PK x)) e:=by
 refine bA nu ?_;have h1:=UL x;have h2:=Cj (n:=PK x) ⟨by omega,by omega⟩;simp only[go_sem,nu];refine aa (L1 (PK x) (by omega)) ?_;refine aT [] (k:=1000) (j:=2000) (fU m l (gQ (PK x)) e ⟨by omega,by omega⟩) ?_;simp only[go_sem];exact Fz (λ_ h=>by cases h) (by simp only[go_sem]) (by simp only[go_sem];rfl) (by simp only[go_sem];rfl) rfl
def ade(x:Int):WM 272 [.int .u64 x] m l e (.tup []) (wS (m&&e==0) l (IntKind.i64.wrap x)) e:=by
 refine bA nv ?_;have h2:=Cj (i64_in x);simp only[go_sem,nv];refine aa (L1 (IntKind.i64.wrap x) (i64_in x)) ?_;refine aT [] (k:=1000) (j:=2000) (fU m l (gQ (IntKind.i64.wrap x)) e ⟨by omega,by omega⟩) ?_;simp only[go_sem];exact Fz (λ_ h=>by cases h) (by simp only[go_sem]) (by simp only[go_sem];rfl) (by simp only[go_sem];rfl) rfl
def adc(x:Int)(hx:WK x):WM 312 [.int .i64 x] m l e (.tup []) (Fc (m&&e==0) l e x).1 (Fc (m&&e==0) l e x).2:=by
 refine bA eL ?_;by_cases h1:x < -4294967296
 .have r:Fc (m&&e==0) l e x=(l,if(m&&e==0)=true then 1 else e):=by simp[Fc,h1]
  rw[r];simp only[go_sem,eL,aK h1];refine aT [] (k:=1000) (j:=2000) (ox m l e 1) ?_;simp only[go_sem];exact Fz (λ_ h=>by cases h) (by simp only[go_sem]) (by simp only[go_sem]) (by simp only[go_sem]) rfl
 .by_cases h2:x>4294967295
  .have r:Fc (m&&e==0) l e x=(l,if(m&&e==0)=true then 1 else e):=by simp[Fc,h2]
   rw[r];simp only[go_sem,eL,aL h1,aK h2];refine aT [] (k:=1000) (j:=2000) (ox m l e 1) ?_;simp only[go_sem];exact Fz (λ_ h=>by cases h) (by simp only[go_sem]) (by simp only[go_sem]) (by simp only[go_sem]) rfl
  .have r:Fc (m&&e==0) l e x=(wS (m&&e==0) l x,e):=by simp[Fc,h1,h2]
   have h3:=Cj hx;rw[r];simp only[go_sem,eL,aL h1,aL h2];refine aa (L1 x hx) ?_;refine aT [] (k:=1000) (j:=2000) (fU m l (gQ x) e ⟨by omega,by omega⟩) ?_;simp only[go_sem];exact Fz (λ_ h=>by cases h) (by simp only[go_sem]) (by simp only[go_sem];rfl) (by simp only[go_sem];rfl) rfl
def wP(ok:Bool)(l:Af)(e:Int)(mp:Bool)(lp:Af)(ep:Int):Af×Int :=
 if mp=true then(if ep≠0 then(l,if ok=true then ep else e)else(wB ok (wB ok l (aD lp.length)) lp,e))else(l,if ok=true then 2 else e)
def H3(mp:Bool)(lp:Af)(ep:Int)(hp:lp.length<4000000000) :
  aQ pg 115 [.mp 1000 3 0 0,.mp 1001 3 0 0] [(1000,wo 2000 m l e),(2000,wa l),(1001,wo 2001 mp lp ep),(2001,wa lp)] sb
   (λr' σ'=>r' = .tup []/\σ'=[(1000,wo 2000 m (wP (m&&e==0) l e mp lp ep).1 (wP (m&&e==0) l e mp lp ep).2),(2000,wa (wP (m&&e==0) l e mp lp ep).1),(1001,wo 2001 mp lp ep),(2001,wa lp)]):=by
 refine bA et ?_;cases mp
 .have r:wP (m&&e==0) l e false lp ep=(l,if(m&&e==0)=true then 2 else e):=by simp[wP]
  rw[r];simp only[go_sem,et];refine aT [] (k:=1000) (j:=2000) (ox m l e 2) ?_;simp only[go_sem];exact eW [] _ [(1000,wo 2000 m l (if(m&&e==0)=true then 2 else e)),(2000,wa l),(1001,wo 2001 false lp ep),(2001,wa lp)] ⟨rfl,rfl⟩
 .by_cases h:ep=0
  .subst h;have r:wP (m&&e==0) l e true lp 0=(wB (m&&e==0) (wB (m&&e==0) l (aD lp.length)) lp,e):=by simp[wP]
   have r1:wU (m&&e==0) l e lp.length=(wB (m&&e==0) l (aD lp.length),e):=by
    unfold wU wB;have h1:¬((lp.length:Int)<0\/(lp.length:Int)>4294967295):=by omega
    cases (m&&e==0)<;>simp only[aN,ak h1,gR,bB,eB]
   have c1:=H2 m l e lp.length (by omega);have hp2:=yP (n:=lp.length) (by omega);have hl2:=qA (ok:=(m&&e==0)) (l:=l) (x:=aD lp.length);have hr:=J6 1 lp.length 5 de lp rfl;rw[r1]at c1;rw[r];simp only[go_sem,et,hr];refine⟨by omega,?_⟩;refine aT [] (k:=1000) (j:=2000) (c1) ?_;simp only[go_sem];refine dY [31] (k:=1000) (j:=2000) (fU m (wB (m&&e==0) l (aD lp.length)) lp e ⟨by omega,by omega⟩) (by decide) (by decide) (by decide) (by decide) (by first|rfl|simp[go_sem,bU]) (by simp[go_sem]) ?_ (by rfl) (by rfl) ?_
   .simp only[go_sem,a_,bZ];rw[cI (by simp)]
   .simp only[go_sem];exact cR [] _ [(1000,wo 2000 m (wB (m&&e==0) (wB (m&&e==0) l (aD lp.length)) lp) e),(2000,wa (wB (m&&e==0) (wB (m&&e==0) l (aD lp.length)) lp)),(1001,wo 2001 true lp 0),(2001,wa lp)] ⟨rfl,rfl⟩
  .have r:wP (m&&e==0) l e true lp ep=(l,if(m&&e==0)=true then ep else e):=by simp[wP,h]
   rw[r];simp only[go_sem,et,bj h];refine aT [] (k:=1000) (j:=2000) (ox m l e ep) ?_;simp only[go_sem];exact eW [] _ [(1000,wo 2000 m l (if(m&&e==0)=true then ep else e)),(2000,wa l),(1001,wo 2001 true lp ep),(2001,wa lp)] ⟨rfl,rfl⟩
end
section
def wx(l:Af)(e:Int):AV:=.agg [.sl 1 (l.map de),.int .i64 e]
attribute[local go_sem] wx
section
variable(l:Af)(e:Int)(hl:l.length<45000000000)
include hl
end
end
structure Nm where
 i:Int
 s:Af
instance:Inhabited Nm:=⟨⟨0,[]⟩⟩
deriving instance DecidableEq for Nm
structure Lc where
 f:Int
 l:List Nm
instance:Inhabited Lc:=⟨⟨0,[]⟩⟩
deriving instance DecidableEq for Lc
structure Ns where
 m:Af
 fs:List Nm
 ls:List Lc
instance:Inhabited Ns:=⟨⟨[],[],[]⟩⟩
deriving instance DecidableEq for Ns
def nm_(n:Nm):List AV:=[.int .i64 n.i,.str n.s]
def lc_(x:Lc):List AV:=[.int .i64 x.f,.sl 2 (x.l.map nm_)]
def nsC(x:Ns):List AV:=[.str x.m,.sl 2 (x.fs.map nm_),.sl 2 (x.ls.map lc_)]
def ns_(x:Ns):AV:=.agg (nsC x)
def ah9(n:Nm):nm_ n=[.int .i64 n.i,.str n.s]:=rfl
def ahV(x:Lc):lc_ x=[.int .i64 x.f,.sl 2 (x.l.map nm_)]:=rfl
def ah_(x:Ns):ns_ x = .agg [.str x.m,.sl 2 (x.fs.map nm_),.sl 2 (x.ls.map lc_)]:=rfl
attribute[go_sem] ah9 ahV ah_
def tC(i:Int):Bool:=decide (0<=i)&&decide (i<4294967296)
def C9(l:List Nm):Int:=match l.getLast? with
 | some n=>n.i
 | none=>0
def fnd:List Nm->Int->Af
 | [],_=>[]
 | n::r,i=>if n.i=i then n.s else fnd r i
def r9{α:Type}[Inhabited α]{l:List α}{i:Nat}(h:i<l.length):l.drop i=ac l i::l.drop (i+1):=by
 rw[bv h,Kt h]
def ads{α:Type}[Inhabited α]{l:List α}{i:Nat}(h:i<l.length):l.take (i+1)=l.take i++[ac l i]:=by rw[Ei,pf h,Eh]
def yg{α:Type}{l:List α}{i:Nat}(h:l.length<=i):l.drop i=[]:=If h
section
deriving instance DecidableEq for be,Ft,Lm,Gl,Im,Cd,Tb,Gd,Ex,El,Da,Cu,Md
def Ni{a b:List Int}(hl:a.length=b.length)(h:∀k,k<a.length->ac a k=ac b k):a=b:=by
 apply List.ext_getElem hl;intro i h1 h2;have:=h i h1;rwa[bv h1,bv h2]at this
def sI(x y:be):Bool:=(x.op==y.op)&&((x.a==y.a)&&((x.b==y.b)&&((x.n==y.n)&&(((x.k==y.k)&&((x.v==y.v)&&(x.x==y.x)))&&((x.ty==y.ty)&&(x.lb==y.lb))))))
attribute[local go_sem] dw ce bZ
def YI(x y:be)(h1:x.ty.length<=9223372036854775807)(h2:x.lb.length<=9223372036854775807):aj pg 242 [bn x,bn y] (.bool (sI x y)):=by
 refine aC xX ?_;have ft:∀b:Bool,(true&&b)=b:=λ_=>rfl;have ff:∀b:Bool,(false&&b)=false:=λ_=>rfl;have nt:∀{a b:Int},(a != b)=true->(a==b)=false:=λh=>by simpa using h
 have nf:∀{a b:Int},(a != b)=false->(a==b)=true:=λh=>by simpa using h
 have lt:∀{a b:List Int},((a.length:Int) != (b.length:Int))=true->(a==b)=false:=λ{a b} h=>by
  rw[fK];intro e;rw[e]at h;simp at h
 have lf:∀{a b:List Int},((a.length:Int) != (b.length:Int))=false->a.length=b.length:=λ{a b} h=>by
  have h2:¬((a.length:Int)≠(b.length:Int)):=by simpa using h
  omega
 have nb:∀{b:Bool},(!b)=true->b=false:=λ{b} h=>by cases b<;>first|rfl|cases h
 have nc:∀{b:Bool},(!b)=false->b=true:=λ{b} h=>by cases b<;>first|rfl|cases h
 unfold sI;simp only[go_sem,xX];refine⟨λc1=>?_,λc1=>⟨λc2=>?_,λc2=>⟨λc3=>?_,λc3=>⟨λc4=>?_,λc4=>⟨λc5=>?_,λc5=>⟨λc6=>?_,λc6=>⟨λc7=>?_,λc7=>?_⟩⟩⟩⟩⟩⟩⟩
 .rw[nt c1];exact ay
 .rw[nf c1,nt c2];exact ay
 .rw[nf c1,nf c2,nt c3];exact ay
 .rw[nf c1,nf c2,nf c3,nt c4];exact ay
 .rw[nf c1,nf c2,nf c3,nf c4,nb c5];exact ay
 .rw[nf c1,nf c2,nf c3,nf c4,nc c5,lt c6];exact ay
 .rw[nf c1,nf c2,nf c3,nf c4,nc c5,lt c7,Bool.and_false];exact ay
 rw[nf c1,nf c2,nf c3,nf c4,nc c5,ft,ft,ft,ft,ft];replace c6:=lf c6;replace c7:=lf c7;refine aq (λi:Nat=>⟨[(2,.mp 2 9 0 0),(3,.mp 3 9 0 0),(5,.int .i64 i)],[(3,⟨58,9,[[.int .i64 y.op,.int .i64 y.a,.int .i64 y.b,.int .u64 y.n,.int .i64 y.k,.int .i64 y.v,.int .i64 y.x,.sl 1 (y.ty.map jM),.sl 1 (y.lb.map jM)]],true⟩),(2,⟨58,9,[[.int .i64 x.op,.int .i64 x.a,.int .i64 x.b,.int .u64 x.n,.int .i64 x.k,.int .i64 x.v,.int .i64 x.x,.sl 1 (x.ty.map jM),.sl 1 (x.lb.map jM)]],true⟩)]⟩) (λi=>i<=x.ty.length/\∀k,k<i->ac x.ty k=ac y.ty k) (λi=>x.ty.length-i) 0 ⟨cm _,λk hk=>absurd hk (Nat.not_lt_zero k)⟩ (Wk.of ?_ ?_) ?_
 .simp only[go_sem];try simp
 .simp only[go_sem]
 rintro i ⟨hi,hk⟩;by_cases q1:(i:Int)<(x.ty.length:Int)
 .have e8:=wi (n:=(i:Int)+1) (by omega) (by omega);simp only[go_sem,aK q1];refine⟨by omega,q1,by omega,by omega,λg2=>?_,λg2=>aF (i+1) ⟨by omega,λk hk9=>?_⟩ (show x.ty.length-(i+1)<x.ty.length-i by omega) (Wk.of ?_ ?_)⟩
  .have r:(x.ty==y.ty)=false:=by
    rw[fK];intro e;rw[e]at g2;simp at g2
   rw[r,ff];exact ay
  .rcases fV k i with h4|h4
   .exact hk k h4
   .obtain rfl:k=i:=by omega
    simpa using g2
  .simp only[go_sem,e8]
   try simp
  .simp only[go_sem]
 .have r:(x.ty==y.ty)=true:=by rw[Ni c6 (λk hk2=>hk k (by omega))];exact beq_self_eq_true _
  rw[r,ft];simp only[go_sem,aL q1];refine aq (λi:Nat=>⟨[(2,.mp 2 9 0 0),(3,.mp 3 9 0 0),(6,.int .i64 i)],[(3,⟨58,9,[[.int .i64 y.op,.int .i64 y.a,.int .i64 y.b,.int .u64 y.n,.int .i64 y.k,.int .i64 y.v,.int .i64 y.x,.sl 1 (y.ty.map jM),.sl 1 (y.lb.map jM)]],true⟩),(2,⟨58,9,[[.int .i64 x.op,.int .i64 x.a,.int .i64 x.b,.int .u64 x.n,.int .i64 x.k,.int .i64 x.v,.int .i64 x.x,.sl 1 (x.ty.map jM),.sl 1 (x.lb.map jM)]],true⟩)]⟩) (λi=>i<=x.lb.length/\∀k,k<i->ac x.lb k=ac y.lb k) (λi=>x.lb.length-i) 0 ⟨cm _,λk hk=>absurd hk (Nat.not_lt_zero k)⟩ (Wk.of ?_ ?_) ?_
  .simp only[go_sem];try simp
  .simp only[go_sem]
  rintro j ⟨hj,hk2⟩;by_cases q2:(j:Int)<(x.lb.length:Int)
  .have e9:=wi (n:=(j:Int)+1) (by omega) (by omega);simp only[go_sem,aK q2];refine⟨by omega,q2,by omega,by omega,λg2=>?_,λg2=>aF (j+1) ⟨by omega,λk hk9=>?_⟩ (show x.lb.length-(j+1)<x.lb.length-j by omega) (Wk.of ?_ ?_)⟩
   .have r:(x.lb==y.lb)=false:=by
     rw[fK];intro e;rw[e]at g2;simp at g2
    rw[r];exact ay
   .rcases fV k j with h4|h4
    .exact hk2 k h4
    .obtain rfl:k=j:=by omega
     simpa using g2
   .simp only[go_sem,e9]
    try simp
   .simp only[go_sem]
  .have r:(x.lb==y.lb)=true:=by rw[Ni c7 (λk hk3=>hk2 k (by omega))];exact beq_self_eq_true _
   rw[r];simp only[go_sem,aL q2];exact ay
def agi(x y:be):sI x y=decide (x=y):=by
 obtain⟨a1,a2,a3,a4,a5,a6,a7,a8,a9⟩:=x;obtain⟨b1,b2,b3,b4,b5,b6,b7,b8,b9⟩:=y;unfold sI;by_cases h1:a1=b1<;>by_cases h2:a2=b2<;>by_cases h3:a3=b3<;>by_cases h4:a4=b4<;>by_cases h5:a5=b5<;>by_cases h6:a6=b6<;>by_cases h7:a7=b7<;>by_cases h8:a8=b8<;>by_cases h9:a9=b9<;>simp[h1,h2,h3,h4,h5,h6,h7,h8,h9]
def YH(x y:be)(h:VC x):aj pg 242 [bn x,bn y] (.bool (decide (x=y))):=by
 rw[<-agi];exact YI x y (by have:=h.1;omega) (by have:=h.2;omega)
def ey{j n:Nat}(h:j<n)(hn:n<=9223372036854775807):IntKind.i64.wrap ((j:Int)+1)=(j:Int)+1:=wi (by omega) (by omega)
def kO{α:Type}[Inhabited α]{a b:List α}(hl:a.length=b.length)(h:∀k,k<a.length->ac a k=ac b k):a=b:=by
 apply List.ext_getElem hl;intro i h1 h2;have:=h i h1;rwa[bv h1,bv h2]at this
end
section
def C2{x y:Im}:((x.m==y.m)&&((x.n==y.n)&&((x.k==y.k)&&((x.f==y.f)&&((x.te==y.te)&&((x.tl.mn==y.tl.mn)&&((x.tl.mx==y.tl.mx)&&((x.tl.hs==y.tl.hs)&&((x.me.mn==y.me.mn)&&((x.me.mx==y.me.mx)&&((x.me.hs==y.me.hs)&&((x.g.v==y.g.v)&&(x.g.mu==y.g.mu)))))))))))))=decide (x=y):=by
 obtain⟨a1,a2,a3,a4,a5,⟨a6,a7,a8⟩,⟨a9,a10,a11⟩,⟨a12,a13⟩⟩:=x;obtain⟨b1,b2,b3,b4,b5,⟨b6,b7,b8⟩,⟨b9,b10,b11⟩,⟨b12,b13⟩⟩:=y;rw[Bv];simp only[cW,beq_iff_eq,gj,Im.mk.injEq,Lm.mk.injEq,Gl.mk.injEq,and_assoc]
def ZP{x y:Lm}:((x.mn==y.mn)&&((x.mx==y.mx)&&(x.hs==y.hs)))=decide (x=y):=by
 obtain⟨a1,a2,a3⟩:=x;obtain⟨b1,b2,b3⟩:=y;rw[Bv];simp only[cW,beq_iff_eq,gj,Lm.mk.injEq,and_assoc]
def aaa{x y:Tb}:((x.e==y.e)&&((x.l.mn==y.l.mn)&&((x.l.mx==y.l.mx)&&(x.l.hs==y.l.hs))))=decide (x=y):=by
 obtain⟨a1,⟨a2,a3,a4⟩⟩:=x;obtain⟨b1,⟨b2,b3,b4⟩⟩:=y;rw[Bv];simp only[cW,beq_iff_eq,gj,Tb.mk.injEq,Lm.mk.injEq,and_assoc]
def ZB{x y:Ex}:((x.n==y.n)&&((x.k==y.k)&&(x.i==y.i)))=decide (x=y):=by
 obtain⟨a1,a2,a3⟩:=x;obtain⟨b1,b2,b3⟩:=y;rw[Bv];simp only[cW,beq_iff_eq,gj,Ex.mk.injEq,and_assoc]
def I0{x y:Gl}:((x.v==y.v)&&(x.mu==y.mu))=decide (x=y):=by
 obtain⟨a1,a2⟩:=x;obtain⟨b1,b2⟩:=y;rw[Bv];simp only[cW,beq_iff_eq,gj,Gl.mk.injEq]
attribute[local go_sem] bZ dC dg df dA dc s8 fR fQ fv dw az
def fh(a b:List be)(ha:a.length<=9223372036854775807/\∀x∈a,VC x):aj pg 176 [.sl 9 (a.map az),.sl 9 (b.map az)] (.bool (decide (a=b))):=by
 refine aC mH ?_;by_cases hl:(a.length:Int)=(b.length:Int);rotate_left
 .rw[aL (λh=>hl (by rw[h]))];simp only[go_sem,mH,bj hl];exact an
 simp only[go_sem,mH,aI hl];refine aq (λj:Nat=>⟨[(5,.int .i64 j),(0,.sl 9 (a.map az)),(1,.sl 9 (b.map az))],[]⟩) (λj=>j<=a.length/\∀k,k<j->ac a k=ac b k) (λj=>a.length-j) 0 ⟨cm _,λk hk=>by omega⟩ (Wk.of ?_ ?_) ?_
 .simp only[go_sem];try simp
 .simp only[go_sem]
 rintro j ⟨hj,hx⟩;by_cases h1:(j:Int)<(a.length:Int);rotate_left
 .rw[aK (kO (by omega) λk hk=>hx k (by omega))];simp only[go_sem,aL h1];exact an
 have hj':j<a.length:=by omega
 have hjb:(j:Int)<(b.length:Int):=by omega
 have e8:=ey hj' (by omega);obtain⟨ha,hs⟩:=ha;have hX:=eV hs hj';clear hs;have neq:ac a j≠ac b j->decide (a=b)=false:=λh=>aL (λe=>h (by rw[e]));have cc:=YH (ac a j) (ac b j) hX
 try simp only[dw,dC]at cc
 by_cases h2:ac a j=ac b j
 .rw[aK h2]at cc;simp only[go_sem,aK h1];refine⟨by omega,h1,by omega,hjb,?_⟩;refine aa (cc) ?_;refine aF (j+1) ⟨show j+1<=a.length by omega,λk hk=>?_⟩ (show a.length-(j+1)<a.length-j by omega) (Wk.of ?_ ?_)
  .rcases fV k j with h|h
   .exact hx k h
   .rw[show k=j by omega];exact h2
  .simp only[go_sem,e8];try simp
  .simp only[go_sem]
 .rw[aL h2]at cc;rw[neq h2];simp only[go_sem,aK h1];refine⟨by omega,h1,by omega,hjb,?_⟩;refine aa (cc) ?_;exact an
def DR(a b:List Int)(ha:a.length<=9223372036854775807):aj pg 175 [.sl 1 (a.map jM),.sl 1 (b.map jM)] (.bool (decide (a=b))):=by
 refine aC kI ?_;by_cases hl:(a.length:Int)=(b.length:Int);rotate_left
 .rw[aL (λh=>hl (by rw[h]))];simp only[go_sem,kI,bj hl];exact an
 simp only[go_sem,kI,aI hl];refine aq (λj:Nat=>⟨[(5,.int .i64 j),(0,.sl 1 (a.map jM)),(1,.sl 1 (b.map jM))],[]⟩) (λj=>j<=a.length/\∀k,k<j->ac a k=ac b k) (λj=>a.length-j) 0 ⟨cm _,λk hk=>by omega⟩ (Wk.of ?_ ?_) ?_
 .simp only[go_sem];try simp
 .simp only[go_sem]
 rintro j ⟨hj,hx⟩;by_cases h1:(j:Int)<(a.length:Int);rotate_left
 .rw[aK (kO (by omega) λk hk=>hx k (by omega))];simp only[go_sem,aL h1];exact an
 have hj':j<a.length:=by omega
 have hjb:(j:Int)<(b.length:Int):=by omega
 have e8:=ey hj' (by omega);have neq:ac a j≠ac b j->decide (a=b)=false:=λh=>aL (λe=>h (by rw[e]));by_cases h2:ac a j=ac b j
 .simp only[go_sem,aK h1,aI h2];refine⟨by omega,h1,by omega,hjb,aF (j+1) ⟨show j+1<=a.length by omega,λk hk=>?_⟩ (show a.length-(j+1)<a.length-j by omega) (Wk.of ?_ ?_)⟩
  .rcases fV k j with h|h
   .exact hx k h
   .rw[show k=j by omega];exact h2
  .simp only[go_sem,e8];try simp
  .simp only[go_sem]
 .rw[neq h2];simp only[go_sem,aK h1,bj h2];refine⟨by omega,h1,by omega,hjb,?_⟩;exact an
def aix(x y:Ft)(h:smF x):aj pg 174 [.agg (my x),.agg (my y)] (.bool (decide (x=y))):=by
 refine aC nQ ?_;have d1:=DR x.ps y.ps h.1;have d2:=DR x.rs y.rs h.2;by_cases c1:x.ps=y.ps;rotate_left
 .rw[aL c1]at d1;rw[aL (λe=>c1 (by rw[e]))];simp only[go_sem,nQ];refine aa (d1) ?_;exact an
 rw[aK c1]at d1;by_cases c2:x.rs=y.rs;rotate_left
 .rw[aL c2]at d2;rw[aL (λe=>c2 (by rw[e]))];simp only[go_sem,nQ];refine aa (d1) ?_;refine aa (d2) ?_;exact an
 rw[aK c2]at d2;rw[aK (show x=y by obtain⟨a1,a2⟩:=x;obtain⟨b1,b2⟩:=y;simp only at c1 c2;rw[c1,c2])];simp only[go_sem,nQ];refine aa (d1) ?_;refine aa (d2) ?_;exact an
def YN(a b:List Ft)(ha:a.length<=9223372036854775807/\∀x∈a,smF x):aj pg 41 [.sl 2 (a.map my),.sl 2 (b.map my)] (.bool (decide (a=b))):=by
 refine aC jV ?_;by_cases hl:(a.length:Int)=(b.length:Int);rotate_left
 .rw[aL (λh=>hl (by rw[h]))];simp only[go_sem,jV,bj hl];exact an
 simp only[go_sem,jV,aI hl];refine aq (λj:Nat=>⟨[(5,.int .i64 j),(0,.sl 2 (a.map my)),(1,.sl 2 (b.map my))],[]⟩) (λj=>j<=a.length/\∀k,k<j->ac a k=ac b k) (λj=>a.length-j) 0 ⟨cm _,λk hk=>by omega⟩ (Wk.of ?_ ?_) ?_
 .simp only[go_sem];try simp
 .simp only[go_sem]
 rintro j ⟨hj,hx⟩;by_cases h1:(j:Int)<(a.length:Int);rotate_left
 .rw[aK (kO (by omega) λk hk=>hx k (by omega))];simp only[go_sem,aL h1];exact an
 have hj':j<a.length:=by omega
 have hjb:(j:Int)<(b.length:Int):=by omega
 have e8:=ey hj' (by omega);obtain⟨ha,hs⟩:=ha;have hX:=eV hs hj';clear hs;have neq:ac a j≠ac b j->decide (a=b)=false:=λh=>aL (λe=>h (by rw[e]));have cc:=aix (ac a j) (ac b j) hX
 try simp only[dw,dC]at cc
 by_cases h2:ac a j=ac b j
 .rw[aK h2]at cc;simp only[go_sem,aK h1];refine⟨by omega,h1,by omega,hjb,?_⟩;refine aa (cc) ?_;refine aF (j+1) ⟨show j+1<=a.length by omega,λk hk=>?_⟩ (show a.length-(j+1)<a.length-j by omega) (Wk.of ?_ ?_)
  .rcases fV k j with h|h
   .exact hx k h
   .rw[show k=j by omega];exact h2
  .simp only[go_sem,e8];try simp
  .simp only[go_sem]
 .rw[aL h2]at cc;rw[neq h2];simp only[go_sem,aK h1];refine⟨by omega,h1,by omega,hjb,?_⟩;refine aa (cc) ?_;exact an
def acP(a b:List Im)(ha:a.length<=9223372036854775807):aj pg 42 [.sl 13 (a.map pw),.sl 13 (b.map pw)] (.bool (decide (a=b))):=by
 refine aC iT ?_;by_cases hl:(a.length:Int)=(b.length:Int);rotate_left
 .rw[aL (λh=>hl (by rw[h]))];simp only[go_sem,iT,bj hl];exact an
 simp only[go_sem,iT,aI hl];refine aq (λj:Nat=>⟨[(5,.int .i64 j),(0,.sl 13 (a.map pw)),(1,.sl 13 (b.map pw))],[]⟩) (λj=>j<=a.length/\∀k,k<j->ac a k=ac b k) (λj=>a.length-j) 0 ⟨cm _,λk hk=>by omega⟩ (Wk.of ?_ ?_) ?_
 .simp only[go_sem];try simp
 .simp only[go_sem]
 rintro j ⟨hj,hx⟩;by_cases h1:(j:Int)<(a.length:Int);rotate_left
 .rw[aK (kO (by omega) λk hk=>hx k (by omega))];simp only[go_sem,aL h1];exact an
 have hj':j<a.length:=by omega
 have hjb:(j:Int)<(b.length:Int):=by omega
 have e8:=ey hj' (by omega);have neq:ac a j≠ac b j->decide (a=b)=false:=λh=>aL (λe=>h (by rw[e]));by_cases h2:ac a j=ac b j
 .simp only[go_sem,aK h1,C2,aK h2,dk];refine⟨by omega,h1,by omega,hjb,aF (j+1) ⟨show j+1<=a.length by omega,λk hk=>?_⟩ (show a.length-(j+1)<a.length-j by omega) (Wk.of ?_ ?_)⟩
  .rcases fV k j with h|h
   .exact hx k h
   .rw[show k=j by omega];exact h2
  .simp only[go_sem,e8];try simp
  .simp only[go_sem]
 .rw[neq h2];simp only[go_sem,aK h1,C2,aL h2,cG];refine⟨by omega,h1,by omega,hjb,?_⟩;exact an
def acO(a b:List Ex)(ha:a.length<=9223372036854775807):aj pg 46 [.sl 3 (a.map vx),.sl 3 (b.map vx)] (.bool (decide (a=b))):=by
 refine aC iR ?_;by_cases hl:(a.length:Int)=(b.length:Int);rotate_left
 .rw[aL (λh=>hl (by rw[h]))];simp only[go_sem,iR,bj hl];exact an
 simp only[go_sem,iR,aI hl];refine aq (λj:Nat=>⟨[(5,.int .i64 j),(0,.sl 3 (a.map vx)),(1,.sl 3 (b.map vx))],[]⟩) (λj=>j<=a.length/\∀k,k<j->ac a k=ac b k) (λj=>a.length-j) 0 ⟨cm _,λk hk=>by omega⟩ (Wk.of ?_ ?_) ?_
 .simp only[go_sem];try simp
 .simp only[go_sem]
 rintro j ⟨hj,hx⟩;by_cases h1:(j:Int)<(a.length:Int);rotate_left
 .rw[aK (kO (by omega) λk hk=>hx k (by omega))];simp only[go_sem,aL h1];exact an
 have hj':j<a.length:=by omega
 have hjb:(j:Int)<(b.length:Int):=by omega
 have e8:=ey hj' (by omega);have neq:ac a j≠ac b j->decide (a=b)=false:=λh=>aL (λe=>h (by rw[e]));by_cases h2:ac a j=ac b j
 .simp only[go_sem,aK h1,ZB,aK h2,dk];refine⟨by omega,h1,by omega,hjb,aF (j+1) ⟨show j+1<=a.length by omega,λk hk=>?_⟩ (show a.length-(j+1)<a.length-j by omega) (Wk.of ?_ ?_)⟩
  .rcases fV k j with h|h
   .exact hx k h
   .rw[show k=j by omega];exact h2
  .simp only[go_sem,e8];try simp
  .simp only[go_sem]
 .rw[neq h2];simp only[go_sem,aK h1,ZB,aL h2,cG];refine⟨by omega,h1,by omega,hjb,?_⟩;exact an
end
section
def bsf{x y:Af}(h:x=y):(x==y)=true:=by simpa using h
def bst{x y:Af}(h:¬x=y):(x==y)=false:=by simpa using h
attribute[local go_sem] bZ dC dg df dA dc s8 fR fQ fv az
def Yw(a b:List Cd)(ha:a.length<=9223372036854775807/\∀x∈a,U3 x):aj pg 43 [.sl 3 (a.map kM),.sl 3 (b.map kM)] (.bool (decide (a=b))):=by
 refine aC jU ?_;by_cases hl:(a.length:Int)=(b.length:Int);rotate_left
 .rw[aL (λh=>hl (by rw[h]))];simp only[go_sem,jU,bj hl];exact an
 simp only[go_sem,jU,aI hl];refine aq (λj:Nat=>⟨[(5,.int .i64 j),(0,.sl 3 (a.map kM)),(1,.sl 3 (b.map kM))],[]⟩) (λj=>j<=a.length/\∀k,k<j->ac a k=ac b k) (λj=>a.length-j) 0 ⟨cm _,λk hk=>by omega⟩ (Wk.of ?_ ?_) ?_
 .simp only[go_sem];try simp
 .simp only[go_sem]
 rintro j ⟨hj,hx⟩;by_cases h1:(j:Int)<(a.length:Int);rotate_left
 .rw[aK (kO (by omega) λk hk=>hx k (by omega))];simp only[go_sem,aL h1];exact an
 have hj':j<a.length:=by omega
 have hjb:(j:Int)<(b.length:Int):=by omega
 have e8:=ey hj' (by omega);obtain⟨ha,hs⟩:=ha;have hX:=eV hs hj';clear hs;have neq:ac a j≠ac b j->decide (a=b)=false:=λh=>aL (λe=>h (by rw[e]));by_cases c1:(ac a j).t=(ac b j).t;rotate_left
 .rw[neq (λe=>c1 (by rw[e]))];simp only[go_sem,aK h1,bj c1];refine⟨by omega,h1,by omega,hjb,?_⟩;exact an
 by_cases c2:(ac a j).lo=(ac b j).lo;rotate_left
 .rw[neq (λe=>c2 (by rw[e]))];simp only[go_sem,aK h1,aI c1];refine⟨by omega,h1,by omega,hjb,?_⟩;refine⟨by omega,h1,by omega,hjb,?_⟩;have cc1:=DR (ac a j).lo (ac b j).lo hX.1;rw[aL c2]at cc1;refine ab (cc1) ?_;simp only[go_sem,aK h1,aI c1];exact an
 by_cases c3:(ac a j).b=(ac b j).b;rotate_left
 .rw[neq (λe=>c3 (by rw[e]))];simp only[go_sem,aK h1,aI c1];refine⟨by omega,h1,by omega,hjb,?_⟩;refine⟨by omega,h1,by omega,hjb,?_⟩;have cc1:=DR (ac a j).lo (ac b j).lo hX.1;rw[aK c2]at cc1;refine ab (cc1) ?_;simp only[go_sem,aK h1,aI c1];refine⟨by omega,h1,by omega,hjb,?_⟩;have cc2:=fh (ac a j).b (ac b j).b hX.2;rw[aL c3]at cc2;refine ab (cc2) ?_;simp only[go_sem,aK h1,aI c1];exact an
 have h2:ac a j=ac b j:=by
  generalize ac a j=X at*;generalize ac b j=Y at*;obtain⟨x0,x1,x2⟩:=X;obtain⟨y0,y1,y2⟩:=Y;simp only at c1 c2 c3;simp only[c1,c2,c3]
 simp only[go_sem,aK h1,aI c1];refine⟨by omega,h1,by omega,hjb,?_⟩;refine⟨by omega,h1,by omega,hjb,?_⟩;have cc1:=DR (ac a j).lo (ac b j).lo hX.1;rw[aK c2]at cc1;refine ab (cc1) ?_;simp only[go_sem,aK h1,aI c1];refine⟨by omega,h1,by omega,hjb,?_⟩;have cc2:=fh (ac a j).b (ac b j).b hX.2;rw[aK c3]at cc2;refine ab (cc2) ?_;simp only[go_sem,aK h1,aI c1];refine aF (j+1) ⟨show j+1<=a.length by omega,λk hk=>?_⟩ (show a.length-(j+1)<a.length-j by omega) (Wk.of ?_ ?_)
 .rcases fV k j with h|h
  .exact hx k h
  .rw[show k=j by omega];exact h2
 .simp only[go_sem,e8];try simp
 .simp only[go_sem]
def YD(a b:List Gd)(ha:a.length<=9223372036854775807/\∀x∈a,adk x):aj pg 45 [.sl 3 (a.map wF),.sl 3 (b.map wF)] (.bool (decide (a=b))):=by
 refine aC iS ?_;by_cases hl:(a.length:Int)=(b.length:Int);rotate_left
 .rw[aL (λh=>hl (by rw[h]))];simp only[go_sem,iS,bj hl];exact an
 simp only[go_sem,iS,aI hl];refine aq (λj:Nat=>⟨[(5,.int .i64 j),(0,.sl 3 (a.map wF)),(1,.sl 3 (b.map wF))],[]⟩) (λj=>j<=a.length/\∀k,k<j->ac a k=ac b k) (λj=>a.length-j) 0 ⟨cm _,λk hk=>by omega⟩ (Wk.of ?_ ?_) ?_
 .simp only[go_sem];try simp
 .simp only[go_sem]
 rintro j ⟨hj,hx⟩;by_cases h1:(j:Int)<(a.length:Int);rotate_left
 .rw[aK (kO (by omega) λk hk=>hx k (by omega))];simp only[go_sem,aL h1];exact an
 have hj':j<a.length:=by omega
 have hjb:(j:Int)<(b.length:Int):=by omega
 have e8:=ey hj' (by omega);obtain⟨ha,hs⟩:=ha;have hX:=eV hs hj';clear hs;have neq:ac a j≠ac b j->decide (a=b)=false:=λh=>aL (λe=>h (by rw[e]));by_cases c1:(ac a j).g=(ac b j).g;rotate_left
 .rw[neq (λe=>c1 (by rw[e]))];simp only[go_sem,aK h1,I0,aL c1,dk,cG];refine⟨by omega,h1,by omega,hjb,?_⟩;exact an
 by_cases c2:(ac a j).i=(ac b j).i;rotate_left
 .rw[neq (λe=>c2 (by rw[e]))];simp only[go_sem,aK h1,I0,aK c1,dk,cG];refine⟨by omega,h1,by omega,hjb,?_⟩;refine⟨by omega,h1,by omega,hjb,?_⟩;have cc1:=fh (ac a j).i (ac b j).i hX;rw[aL c2]at cc1;refine ab (cc1) ?_;simp only[go_sem,aK h1,I0,aK c1,dk,cG];exact an
 have h2:ac a j=ac b j:=by
  generalize ac a j=X at*;generalize ac b j=Y at*;obtain⟨x0,x1⟩:=X;obtain⟨y0,y1⟩:=Y;simp only at c1 c2;simp only[c1,c2]
 simp only[go_sem,aK h1,I0,aK c1,dk,cG];refine⟨by omega,h1,by omega,hjb,?_⟩;refine⟨by omega,h1,by omega,hjb,?_⟩;have cc1:=fh (ac a j).i (ac b j).i hX;rw[aK c2]at cc1;refine ab (cc1) ?_;simp only[go_sem,aK h1,I0,aK c1,dk,cG];refine aF (j+1) ⟨show j+1<=a.length by omega,λk hk=>?_⟩ (show a.length-(j+1)<a.length-j by omega) (Wk.of ?_ ?_)
 .rcases fV k j with h|h
  .exact hx k h
  .rw[show k=j by omega];exact h2
 .simp only[go_sem,e8];try simp
 .simp only[go_sem]
def Yx(a b:List Cu)(ha:a.length<=9223372036854775807):aj pg 49 [.sl 3 (a.map yf),.sl 3 (b.map yf)] (.bool (decide (a=b))):=by
 refine aC iQ ?_;by_cases hl:(a.length:Int)=(b.length:Int);rotate_left
 .rw[aL (λh=>hl (by rw[h]))];simp only[go_sem,iQ,bj hl];exact an
 simp only[go_sem,iQ,aI hl];refine aq (λj:Nat=>⟨[(5,.int .i64 j),(0,.sl 3 (a.map yf)),(1,.sl 3 (b.map yf))],[]⟩) (λj=>j<=a.length/\∀k,k<j->ac a k=ac b k) (λj=>a.length-j) 0 ⟨cm _,λk hk=>by omega⟩ (Wk.of ?_ ?_) ?_
 .simp only[go_sem];try simp
 .simp only[go_sem]
 rintro j ⟨hj,hx⟩;by_cases h1:(j:Int)<(a.length:Int);rotate_left
 .rw[aK (kO (by omega) λk hk=>hx k (by omega))];simp only[go_sem,aL h1];exact an
 have hj':j<a.length:=by omega
 have hjb:(j:Int)<(b.length:Int):=by omega
 have e8:=ey hj' (by omega);have neq:ac a j≠ac b j->decide (a=b)=false:=λh=>aL (λe=>h (by rw[e]));by_cases c1:(ac a j).af=(ac b j).af;rotate_left
 .rw[neq (λe=>c1 (by rw[e]))];simp only[go_sem,aK h1,bj c1];refine⟨by omega,h1,by omega,hjb,?_⟩;exact an
 by_cases c2:(ac a j).n=(ac b j).n;rotate_left
 .rw[neq (λe=>c2 (by rw[e]))];simp only[go_sem,aK h1,aI c1,bst c2,dk,cG];refine⟨by omega,h1,by omega,hjb,?_⟩;refine⟨by omega,h1,by omega,hjb,?_⟩;exact an
 by_cases c3:(ac a j).b=(ac b j).b;rotate_left
 .rw[neq (λe=>c3 (by rw[e]))];simp only[go_sem,aK h1,aI c1,bsf c2,dk,cG,dL,gT,bst c3,dk,cG];refine⟨by omega,h1,by omega,hjb,?_⟩;refine⟨by omega,h1,by omega,hjb,?_⟩;refine⟨by omega,h1,by omega,hjb,?_⟩;exact an
 have h2:ac a j=ac b j:=by
  generalize ac a j=X at*;generalize ac b j=Y at*;obtain⟨x0,x1,x2⟩:=X;obtain⟨y0,y1,y2⟩:=Y;simp only at c1 c2 c3;simp only[c1,c2,c3]
 simp only[go_sem,aK h1,aI c1,bsf c2,dk,cG,dL,gT,bsf c3,dk,cG];refine⟨by omega,h1,by omega,hjb,?_⟩;refine⟨by omega,h1,by omega,hjb,?_⟩;refine⟨by omega,h1,by omega,hjb,?_⟩;refine aF (j+1) ⟨show j+1<=a.length by omega,λk hk=>?_⟩ (show a.length-(j+1)<a.length-j by omega) (Wk.of ?_ ?_)
 .rcases fV k j with h|h
  .exact hx k h
  .rw[show k=j by omega];exact h2
 .simp only[go_sem,e8];try simp
 .simp only[go_sem]
end
section
attribute[local go_sem] bZ dC dg df dA dc s8 fR fQ fv eX iG az
def acN(a b:List Da)(ha:a.length<=9223372036854775807/\∀x∈a,Y5 x):aj pg 48 [.sl 4 (a.map iz),.sl 4 (b.map iz)] (.bool (decide (a=b))):=by
 refine aC jS ?_;by_cases hl:(a.length:Int)=(b.length:Int);rotate_left
 .rw[aL (λh=>hl (by rw[h]))];simp only[go_sem,jS,bj hl];exact an
 simp only[go_sem,jS,aI hl];refine aq (λj:Nat=>⟨[(5,.int .i64 j),(0,.sl 4 (a.map iz)),(1,.sl 4 (b.map iz))],[]⟩) (λj=>j<=a.length/\∀k,k<j->ac a k=ac b k) (λj=>a.length-j) 0 ⟨cm _,λk hk=>by omega⟩ (Wk.of ?_ ?_) ?_
 .simp only[go_sem];try simp
 .simp only[go_sem]
 rintro j ⟨hj,hx⟩;by_cases h1:(j:Int)<(a.length:Int);rotate_left
 .rw[aK (kO (by omega) λk hk=>hx k (by omega))];simp only[go_sem,aL h1];exact an
 have hj':j<a.length:=by omega
 have hjb:(j:Int)<(b.length:Int):=by omega
 have e8:=ey hj' (by omega);obtain⟨ha,hs⟩:=ha;have hX:=eV hs hj';clear hs;have neq:ac a j≠ac b j->decide (a=b)=false:=λh=>aL (λe=>h (by rw[e]));by_cases c1:(ac a j).mo=(ac b j).mo;rotate_left
 .rw[neq (λe=>c1 (by rw[e]))];simp only[go_sem,aK h1,bj c1];refine⟨by omega,h1,by omega,hjb,?_⟩;exact an
 by_cases c2:(ac a j).me=(ac b j).me;rotate_left
 .rw[neq (λe=>c2 (by rw[e]))];simp only[go_sem,aK h1,aI c1,bj c2];refine⟨by omega,h1,by omega,hjb,?_⟩;exact an
 by_cases c3:(ac a j).o=(ac b j).o;rotate_left
 .rw[neq (λe=>c3 (by rw[e]))];simp only[go_sem,aK h1,aI c1,aI c2];refine⟨by omega,h1,by omega,hjb,?_⟩;have cc2:=fh (ac a j).o (ac b j).o hX.1;rw[aL c3]at cc2;refine ab (cc2) ?_;simp only[go_sem,aK h1,aI c1,aI c2];exact an
 by_cases c4:(ac a j).b=(ac b j).b;rotate_left
 .rw[neq (λe=>c4 (by rw[e]))];simp only[go_sem,aK h1,aI c1,aI c2,dL,gT,bst c4,dk,cG];refine⟨by omega,h1,by omega,hjb,?_⟩;have cc2:=fh (ac a j).o (ac b j).o hX.1;rw[aK c3]at cc2;refine ab (cc2) ?_;simp only[go_sem,aK h1,aI c1,aI c2,dL,gT,bst c4,dk,cG];exact an
 have h2:ac a j=ac b j:=by
  generalize ac a j=X at*;generalize ac b j=Y at*;obtain⟨x0,x1,x2,x3⟩:=X;obtain⟨y0,y1,y2,y3⟩:=Y;simp only at c1 c2 c3 c4;simp only[c1,c2,c3,c4]
 simp only[go_sem,aK h1,aI c1,aI c2,dL,gT,bsf c4,dk,cG];refine⟨by omega,h1,by omega,hjb,?_⟩;have cc2:=fh (ac a j).o (ac b j).o hX.1;rw[aK c3]at cc2;refine ab (cc2) ?_;simp only[go_sem,aK h1,aI c1,aI c2,dL,gT,bsf c4,dk,cG];refine aF (j+1) ⟨show j+1<=a.length by omega,λk hk=>?_⟩ (show a.length-(j+1)<a.length-j by omega) (Wk.of ?_ ?_)
 .rcases fV k j with h|h
  .exact hx k h
  .rw[show k=j by omega];exact h2
 .simp only[go_sem,e8];try simp
 .simp only[go_sem]
def Yy(a b:List El)(ha:a.length<=9223372036854775807/\∀x∈a,Y6 x):aj pg 47 [.sl 5 (a.map eF),.sl 5 (b.map eF)] (.bool (decide (a=b))):=by
 refine aC jT ?_;by_cases hl:(a.length:Int)=(b.length:Int);rotate_left
 .rw[aL (λh=>hl (by rw[h]))];simp only[go_sem,jT,bj hl];exact an
 simp only[go_sem,jT,aI hl];refine aq (λj:Nat=>⟨[(5,.int .i64 j),(0,.sl 5 (a.map eF)),(1,.sl 5 (b.map eF))],[]⟩) (λj=>j<=a.length/\∀k,k<j->ac a k=ac b k) (λj=>a.length-j) 0 ⟨cm _,λk hk=>by omega⟩ (Wk.of ?_ ?_) ?_
 .simp only[go_sem];try simp
 .simp only[go_sem]
 rintro j ⟨hj,hx⟩;by_cases h1:(j:Int)<(a.length:Int);rotate_left
 .rw[aK (kO (by omega) λk hk=>hx k (by omega))];simp only[go_sem,aL h1];exact an
 have hj':j<a.length:=by omega
 have hjb:(j:Int)<(b.length:Int):=by omega
 have e8:=ey hj' (by omega);obtain⟨ha,hs⟩:=ha;have hX:=eV hs hj';clear hs;have neq:ac a j≠ac b j->decide (a=b)=false:=λh=>aL (λe=>h (by rw[e]));by_cases c1:(ac a j).mo=(ac b j).mo;rotate_left
 .rw[neq (λe=>c1 (by rw[e]))];simp only[go_sem,aK h1,bj c1];refine⟨by omega,h1,by omega,hjb,?_⟩;exact an
 by_cases c2:(ac a j).tb=(ac b j).tb;rotate_left
 .rw[neq (λe=>c2 (by rw[e]))];simp only[go_sem,aK h1,aI c1,bj c2];refine⟨by omega,h1,by omega,hjb,?_⟩;exact an
 by_cases c3:(ac a j).ty=(ac b j).ty;rotate_left
 .rw[neq (λe=>c3 (by rw[e]))];simp only[go_sem,aK h1,aI c1,aI c2,bj c3];refine⟨by omega,h1,by omega,hjb,?_⟩;exact an
 by_cases c4:(ac a j).o=(ac b j).o;rotate_left
 .rw[neq (λe=>c4 (by rw[e]))];simp only[go_sem,aK h1,aI c1,aI c2,aI c3];refine⟨by omega,h1,by omega,hjb,?_⟩;have cc3:=fh (ac a j).o (ac b j).o hX.1;rw[aL c4]at cc3;refine ab (cc3) ?_;simp only[go_sem,aK h1,aI c1,aI c2,aI c3];exact an
 by_cases c5:((ac a j).it.length:Int)=((ac b j).it.length:Int);rotate_left
 .rw[neq (λe=>c5 (by rw[e]))];simp only[go_sem,aK h1,aI c1,aI c2,aI c3,bj c5];refine⟨by omega,h1,by omega,hjb,?_⟩;have cc3:=fh (ac a j).o (ac b j).o hX.1;rw[aK c4]at cc3;refine ab (cc3) ?_;simp only[go_sem,aK h1,aI c1,aI c2,aI c3,bj c5];exact an
 simp only[go_sem,aK h1,aI c1,aI c2,aI c3,aI c5];refine⟨by omega,h1,by omega,hjb,?_⟩;have cc3:=fh (ac a j).o (ac b j).o hX.1;rw[aK c4]at cc3;refine ab (cc3) ?_;simp only[go_sem,aK h1,aI c1,aI c2,aI c3,aI c5];have hi3:=hX.2.2;have hi2:=hX.2.1;refine aq (λq:Nat=>⟨[(8,.int .i64 q),(6,.mp 6 5 0 0),(7,.mp 7 5 0 0),(5,.int .i64 j),(0,.sl 5 (a.map eF)),(1,.sl 5 (b.map eF))],[(6,⟨112,5,[[.int .i64 (ac a j).mo,.int .i64 (ac a j).tb,.sl 9 ((ac a j).o.map az),.int .i64 (ac a j).ty,.sl 1 ((ac a j).it.map lQ)]],true⟩),(7,⟨112,5,[[.int .i64 (ac b j).mo,.int .i64 (ac b j).tb,.sl 9 ((ac b j).o.map az),.int .i64 (ac b j).ty,.sl 1 ((ac b j).it.map lQ)]],true⟩)]⟩) (λq=>q<=(ac a j).it.length/\∀k,k<q->ac (ac a j).it k=ac (ac b j).it k) (λq=>(ac a j).it.length-q) 0 ⟨cm _,λk hk=>by omega⟩ (Wk.of ?_ ?_) ?_
 .simp only[go_sem];try simp
 .simp only[go_sem]
 rintro q ⟨hq,hy⟩;by_cases q1:(q:Int)<((ac a j).it.length:Int)
 .have hq':q<(ac a j).it.length:=by omega
  have hqb:(q:Int)<((ac b j).it.length:Int):=by omega
  have e9:=ey hq' (by omega);have hL:=eV hi3 hq';have cd:=fh (ac (ac a j).it q) (ac (ac b j).it q) hL;by_cases q2:ac (ac a j).it q=ac (ac b j).it q
  .rw[aK q2]at cd;simp only[go_sem,aK q1];refine⟨by omega,q1,by omega,hqb,?_⟩;refine aa (cd) ?_;refine aF (q+1) ⟨show q+1<=(ac a j).it.length by omega,λk hk=>?_⟩ (show(ac a j).it.length-(q+1)<(ac a j).it.length-q by omega) (Wk.of ?_ ?_)
   .rcases fV k q with h|h
    .exact hy k h
    .rw[show k=q by omega];exact q2
   .simp only[go_sem,e9];try simp
   .simp only[go_sem]
  .rw[aL q2]at cd;rw[neq (λe=>q2 (by rw[e]))];simp only[go_sem,aK q1];refine⟨by omega,q1,by omega,hqb,?_⟩;refine aa (cd) ?_;exact an
 have c6:(ac a j).it=(ac b j).it:=kO (by omega) λk hk=>hy k (by omega);have h2:ac a j=ac b j:=by
  generalize ac a j=X at*;generalize ac b j=Y at*;obtain⟨x1,x2,x3,x4,x5⟩:=X;obtain⟨y1,y2,y3,y4,y5⟩:=Y;simp only at c1 c2 c3 c4 c6;simp only[c1,c2,c3,c4,c6]
 simp only[go_sem,aL q1];refine aF (j+1) ⟨show j+1<=a.length by omega,λk hk=>?_⟩ (show a.length-(j+1)<a.length-j by omega) (Wk.of ?_ ?_)
 .rcases fV k j with h|h
  .exact hx k h
  .rw[show k=j by omega];exact h2
 .simp only[go_sem,e8];try simp
 .simp only[go_sem]
