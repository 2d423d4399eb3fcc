import Derived.Test.YtdfofedlbljnhaaGreatDoorWQf
set_option linter.all false
set_option maxRecDepth 100000
set_option maxHeartbeats 40000000
namespace Go.Proofs.YtdfofedlbljnhaaGreatDoor
open Go Go.Mw
def Yx{ok:Bool}{b:List UInt8}{a:Nat}{e:Int}(h:a<=b.length):(kG ok b a e).2.1<=b.length:=by
 unfold kG
 repeat' split
 all_goals first|exact h|(simp only;omega)
def XL{b:List UInt8}{a:Nat}{t:Option (List UInt8)×Nat×Int}(h:a<=b.length)(h2:t.2.1<=b.length):(xr b a t).2.1<=b.length:=by
 unfold xr
 repeat' split
 all_goals first|exact h|exact h2
def Od{ok:Bool}{b:List UInt8}{a:Nat}{e:Int}(h:a<=b.length):(dl ok b a e).2.1<=b.length:=by
 unfold dl;split
 .exact XL h (Oe (pj h))
 .exact h
section
variable(n:Int)(b:List UInt8)(a:Nat)(e:Int)(b2:List UInt8)(a2:Nat)(e2:Int)(hn:-9223372036854775808<=n/\n<9223372036854775808)(ha:a<=b.length)(hb:b.length<1000000000)(ha2:a2<=b2.length)(hb2:b2.length<1000000000)
include hn ha hb ha2 hb2
end
section
def ahC(x:Int×Int):List AV:=[.int .i64 x.1,.int .i64 x.2]
def aeB(x:Int×Int):ahC x=[.int .i64 x.1,.int .i64 x.2]:=rfl
attribute[go_sem] aeB
attribute[local go_sem] rx ro
end
def FP{l:List lS}{s:St}{r:AV}{m:Bool}{x:List UInt8}{y:Int}{e:IX}(he:∀j,e≠.ext j)(h1:q_ l s=some r)(h2:ak s.heap 1000=some (wo 2000 m x y))(h3:ak s.heap 2000=some (wa x))(h4:aO r=[]) :
  mD l (λr' σ'=>r'=r/\σ'=[(1000,wo 2000 m x y),(2000,wa x)]) e s:=by
 refine⟨he,s,λ_ _ _ h=>h,[],r,[(1000,wo 2000 m x y),(2000,wa x)],h1,λi o hi=>?_,oW ?_,rfl,rfl⟩
 .simp only[ak]at hi;split at hi
  .rename_i hki;subst hki;cases hi;exact h2
  .split at hi
   .rename_i hki;subst hki;cases hi;exact h3
   .cases hi
 .rw[Lv,h4];rfl
def wS(ok:Bool)(l:List UInt8)(n:Int):List UInt8:=wB ok l (ej n)
def tP(ok:Bool)(l:List UInt8)(e n:Int):List UInt8×Int:=if n < -4294967296\/n>4294967295 then(l,if ok=true then 1 else e)else(wS ok l n,e)
def I5(x:Int):Int:=IntKind.i64.wrap (IntKind.i32.wrap (IntKind.u32.wrap x))
def MA(x:Int):-2147483648<=I5 x/\I5 x<2147483648:=by
 unfold I5;rw[Em,ag8];omega
def i64_in(x:Int):Vt (IntKind.i64.wrap x):=by unfold Vt;rw[Em];omega
def sj{n:Int}(h:Vt n):(ej n).length<=10:=zo (k:=9) (by unfold Vt at h;omega) (by unfold Vt at h;omega)
section
variable(m:Bool)(l:List UInt8)(e:Int)(hl:l.length<50000000000)
include hl
attribute[local go_sem] wo wa
theorem ade(x:Int):WM wt [.int .u64 x] m l e (.tup []) (wS (m&&e==0) l (I5 x)) e:=by
 refine bT nr ?_;have h1:=MA x;have h2:=sj (n:=I5 x) ⟨by omega,by omega⟩;simp only[go_sem,nr];refine aa (MB (I5 x) (by omega)) ?_;refine aV [] (k:=1000) (j:=2000) (fZ m l (ej (I5 x)) e ⟨by omega,by omega⟩) ?_;simp only[go_sem];exact FP (λ_ h=>by cases h) (by simp only[go_sem]) (by simp only[go_sem];rfl) (by simp only[go_sem];rfl) rfl
theorem adg(x:Int):WM wv [.int .u64 x] m l e (.tup []) (wS (m&&e==0) l (IntKind.i64.wrap x)) e:=by
 refine bT nt ?_;have h2:=sj (i64_in x);simp only[go_sem,nt];refine aa (MB (IntKind.i64.wrap x) (i64_in x)) ?_;refine aV [] (k:=1000) (j:=2000) (fZ m l (ej (IntKind.i64.wrap x)) e ⟨by omega,by omega⟩) ?_;simp only[go_sem];exact FP (λ_ h=>by cases h) (by simp only[go_sem]) (by simp only[go_sem];rfl) (by simp only[go_sem];rfl) rfl
theorem adf(x:Int)(hx:Vt x):WM wu [.int .i64 x] m l e (.tup []) (tP (m&&e==0) l e x).1 (tP (m&&e==0) l e x).2:=by
 refine bT eX ?_;by_cases h1:x < -4294967296
 .have r:tP (m&&e==0) l e x=(l,if(m&&e==0)=true then 1 else e):=by simp[tP,h1]
  rw[r];simp only[go_sem,eX,aL h1];refine aV [] (k:=1000) (j:=2000) (oq m l e 1) ?_;simp only[go_sem];exact FP (λ_ h=>by cases h) (by simp only[go_sem]) (by simp only[go_sem]) (by simp only[go_sem]) rfl
 .by_cases h2:x>4294967295
  .have r:tP (m&&e==0) l e x=(l,if(m&&e==0)=true then 1 else e):=by simp[tP,h2]
   rw[r];simp only[go_sem,eX,aM h1,aL h2];refine aV [] (k:=1000) (j:=2000) (oq m l e 1) ?_;simp only[go_sem];exact FP (λ_ h=>by cases h) (by simp only[go_sem]) (by simp only[go_sem]) (by simp only[go_sem]) rfl
  .have r:tP (m&&e==0) l e x=(wS (m&&e==0) l x,e):=by simp[tP,h1,h2]
   have h3:=sj hx;rw[r];simp only[go_sem,eX,aM h1,aM h2];refine aa (MB x hx) ?_;refine aV [] (k:=1000) (j:=2000) (fZ m l (ej x) e ⟨by omega,by omega⟩) ?_;simp only[go_sem];exact FP (λ_ h=>by cases h) (by simp only[go_sem]) (by simp only[go_sem];rfl) (by simp only[go_sem];rfl) rfl
def wP(ok:Bool)(l:List UInt8)(e:Int)(mp:Bool)(lp:List UInt8)(ep:Int):List UInt8×Int :=
 if mp=true then(if ep≠0 then(l,if ok=true then ep else e)else(wB ok (wB ok l (ay lp.length)) lp,e))else(l,if ok=true then 2 else e)
def Iy(mp:Bool)(lp:List UInt8)(ep:Int)(hp:lp.length<4000000000) :
  aX pg vb [.mp 1000 3 0 0,.mp 1001 3 0 0] [(1000,wo 2000 m l e),(2000,wa l),(1001,wo 2001 mp lp ep),(2001,wa lp)] sb
   (λr' σ'=>r' = .tup []/\σ'=[(1000,wo 2000 m (wP (m&&e==0) l e mp lp ep).1 (wP (m&&e==0) l e mp lp ep).2),(2000,wa (wP (m&&e==0) l e mp lp ep).1),(1001,wo 2001 mp lp ep),(2001,wa lp)]):=by
 refine bT eE ?_;cases mp
 .have r:wP (m&&e==0) l e false lp ep=(l,if(m&&e==0)=true then 2 else e):=by simp[wP]
  rw[r];simp only[go_sem,eE];refine aV [] (k:=1000) (j:=2000) (oq m l e 2) ?_;simp only[go_sem];exact eT [] _ [(1000,wo 2000 m l (if(m&&e==0)=true then 2 else e)),(2000,wa l),(1001,wo 2001 false lp ep),(2001,wa lp)] ⟨rfl,rfl⟩
 .by_cases h:ep=0
  .subst h;have r:wP (m&&e==0) l e true lp 0=(wB (m&&e==0) (wB (m&&e==0) l (ay lp.length)) lp,e):=by simp[wP]
   have r1:wU (m&&e==0) l e lp.length=(wB (m&&e==0) l (ay lp.length),e):=by
    unfold wU wB;have h1:¬((lp.length:Int)<0\/(lp.length:Int)>4294967295):=by omega
    cases (m&&e==0)<;>simp only[br,au h1,gd,cD,mz]
   have c1:=Iw m l e lp.length (by omega);have hp2:=lu (n:=lp.length) (by omega);have hl2:=kY (ok:=(m&&e==0)) (l:=l) (x:=ay lp.length);have hr:=KM 1 lp.length 5 dY lp rfl;rw[r1]at c1;rw[r];simp only[go_sem,eE,hr];refine⟨by omega,?_⟩;refine aV [] (k:=1000) (j:=2000) (c1) ?_;simp only[go_sem];refine ee [31] (k:=1000) (j:=2000) (fZ m (wB (m&&e==0) l (ay lp.length)) lp e ⟨by omega,by omega⟩) (by decide) (by decide) (by decide) (by decide) (by first|rfl|simp[go_sem,ab]) (by simp[go_sem]) ?_ (by rfl) (by rfl) ?_
   .simp only[go_sem,bG,cU];rw[dQ (by simp)]
   .simp only[go_sem];exact da [] _ [(1000,wo 2000 m (wB (m&&e==0) (wB (m&&e==0) l (ay lp.length)) lp) e),(2000,wa (wB (m&&e==0) (wB (m&&e==0) l (ay lp.length)) lp)),(1001,wo 2001 true lp 0),(2001,wa lp)] ⟨rfl,rfl⟩
  .have r:wP (m&&e==0) l e true lp ep=(l,if(m&&e==0)=true then ep else e):=by simp[wP,h]
   rw[r];simp only[go_sem,eE,bv h];refine aV [] (k:=1000) (j:=2000) (oq m l e ep) ?_;simp only[go_sem];exact eT [] _ [(1000,wo 2000 m l (if(m&&e==0)=true then ep else e)),(2000,wa l),(1001,wo 2001 true lp ep),(2001,wa lp)] ⟨rfl,rfl⟩
end
section
def wx(l:List UInt8)(e:Int):AV:=.agg [.sl 1 (l.map dY),.int .i64 e]
def RB(id:Nat)(ys:List (List AV))(hy:ys.length<100000000000)(hid:id<1000):tC id 5 1 0 0 ys (some ⟨5,1,[],false⟩)=some (.ms id 1 0 ys.length,.reb id ⟨5,1,ys,false⟩):=by
 have h:=bX id 5 1 0 dY [] ys rfl;rw[aF ⟨by omega,by decide,.inl hid⟩]at h;simpa using h
def Wb(id:Nat)(l x:List UInt8)(hl:l.length<100000000000)(hx:x.length<100000000000)(hid:id<1000):tC id 5 1 0 l.length (x.map dY) (some ⟨5,1,l.map dY,false⟩)=some (.ms id 1 0 (l.length+x.length),.reb id ⟨5,1,(l++x).map dY,false⟩):=by
 have h:=bX id 5 1 l.length dY l (x.map dY) rfl;rw[aF ⟨by simp;omega,by omega,.inl hid⟩]at h;rw[h,kr,cU]
attribute[local go_sem] wx
def vh(l:List UInt8)(e x:Int):ac pg BF [wx l e,.int .i64 x] (wx l (if e=0 then x else e)):=by
 refine aD mL ?_;by_cases h:e=0
 .subst h;simp only[go_sem,mL];exact az
 .simp only[go_sem,mL,aw h,au h];exact az
def kg(l:List UInt8)(e:Int)(hl:l.length<50000000000)(x:List UInt8)(hx:x.length<50000000000):ac pg rj [wx l e,.sl 1 (x.map dY)] (wx (wB (e==0) l x) e):=by
 refine aD kJ ?_;by_cases h:e=0
 .subst h;have r:wB ((0:Int)==0) l x=l++x:=rfl;have a1:=RB 9 (l.map dY) (by simp;omega) (by decide);have a2:=Wb 9 l x (by omega) (by omega) (by decide);rw[cU]at a1;rw[r];simp only[go_sem,kJ,a1,a2,cU];refine aq [9] ?_ ?_
  .simp only[go_sem,bG,cU,aJ];rw[dQ (by simp)]
  .rfl
 .have r:wB (e==0) l x=l:=by simp[wB,h]
  rw[r];simp only[go_sem,kJ,bv h];exact az
section
variable(l:List UInt8)(e:Int)(hl:l.length<45000000000)
include hl
theorem DO(x:UInt8):ac pg m5 [wx l e,.int .u8 x.toNat] (wx (wB (e==0) l [x]) e):=by
 refine aD sM ?_;simp only[go_sem,sM];refine oU [7] ?_ (kg l e (by omega) [x] (by simp)) (by simp[go_sem]) ?_
 .simp only[go_sem,bG,aT,aC]
 simp only[go_sem];exact az
theorem N_(n:Int):ac pg dj [wx l e,.int .i64 n] (wx (wU (e==0) l e n).1 (wU (e==0) l e n).2):=by
 refine aD jQ ?_;have bad:n<0\/n>4294967295->wU (e==0) l e n=(l,if e=0 then 1 else e):=λh=>by
  unfold wU;by_cases h2:e=0<;>simp[h,h2]
 by_cases h1:n<0
 .rw[bad (.inl h1)];simp only[go_sem,jQ,aL h1];refine aa (vh l e 1) ?_;exact az
 .by_cases h2:n>=4294967296
  .rw[bad (.inr (by omega))];simp only[go_sem,jQ,aM h1,aL h2];refine aa (vh l e 1) ?_;exact az
  .obtain⟨k,rfl⟩:=Fw (show 0<=n by omega);have h3:¬((k:Int)<0\/(k:Int)>4294967295):=by omega
   have r:wU (e==0) l e k=(wB (e==0) l (ay k),e):=by
    unfold wU wB;cases (e==0)<;>simp only[br,au h3,gd,cD,mz]
   have w1:IntKind.u64.wrap (k:Int)=(k:Int):=by rw[En];omega
   have hp:=lu (n:=k) (by omega);rw[r];simp only[go_sem,jQ,aM h1,aM h2,w1]
   first|refine aj (On k (by omega)) ?_|refine aN (On k (by omega)) (by simp[go_sem]) rfl ?_
   simp only[go_sem];refine aa (kg l e (by omega) (ay k) (by omega)) ?_;exact az
theorem ZQ(x:Int):ac pg o_ [wx l e,.int .u64 x] (wx (wS (e==0) l (I5 x)) e):=by
 refine aD ul ?_;have h1:=MA x;have h2:=sj (n:=I5 x) ⟨by omega,by omega⟩;simp only[go_sem,ul]
 first|refine aj (vX (I5 x) (by omega)) ?_|refine aN (vX (I5 x) (by omega)) (by simp[go_sem]) rfl ?_
 simp only[go_sem];refine aa (kg l e (by omega) (ej (I5 x)) (by omega)) ?_;exact aq [] (by simp only[go_sem];rfl) rfl
theorem ZR(x:Int):ac pg pc [wx l e,.int .u64 x] (wx (wS (e==0) l (IntKind.i64.wrap x)) e):=by
 refine aD um ?_;have h2:=sj (i64_in x);simp only[go_sem,um]
 first|refine aj (vX (IntKind.i64.wrap x) (i64_in x)) ?_|refine aN (vX (IntKind.i64.wrap x) (i64_in x)) (by simp[go_sem]) rfl ?_
 simp only[go_sem];refine aa (kg l e (by omega) (ej (IntKind.i64.wrap x)) (by omega)) ?_;exact aq [] (by simp only[go_sem];rfl) rfl
theorem af9(x:Int)(hx:Vt x):ac pg Di [wx l e,.int .i64 x] (wx (tP (e==0) l e x).1 (tP (e==0) l e x).2):=by
 refine aD jP ?_;have bad:x < -4294967296\/x>4294967295->tP (e==0) l e x=(l,if e=0 then 1 else e):=λh=>by
  unfold tP;by_cases h2:e=0<;>simp[h,h2]
 by_cases h1:x < -4294967296
 .rw[bad (.inl h1)];simp only[go_sem,jP,aL h1];refine aa (vh l e 1) ?_;exact az
 .by_cases h2:x>=4294967296
  .rw[bad (.inr (by omega))];simp only[go_sem,jP,aM h1,aL h2];refine aa (vh l e 1) ?_;exact az
  .have h3:¬(x < -4294967296\/x>4294967295):=by omega
   have r:tP (e==0) l e x=(wS (e==0) l x,e):=by rw[tP,au h3]
   have h4:=sj hx;rw[r];simp only[go_sem,jP,aM h1,aM h2]
   first|refine aj (vX x hx) ?_|refine aN (vX x hx) (by simp[go_sem]) rfl ?_
   simp only[go_sem];refine aa (kg l e (by omega) (ej x) (by omega)) ?_;exact aq [] (by simp only[go_sem];rfl) rfl
theorem Ua(x:List UInt8)(hx:x.length<1000000000):ac pg tk [wx l e,.str x] (wx (wN (e==0) l e x).1 (wN (e==0) l e x).2):=by
 refine aD sN ?_;simp only[go_sem,sN];refine aj (Oq x (by omega)) ?_;cases hv:uv x
 .have r:wN (e==0) l e x=(l,if e=0 then 9 else e):=by
   unfold wN;by_cases h2:e=0<;>simp[hv,h2]
  rw[r];simp only[go_sem];refine aa (vh l e 9) ?_;exact az
 .by_cases h64:x.length>64
  .have d1:decide ((x.length:Int)>64)=true:=aL (by omega);have r:wN (e==0) l e x=(l,if e=0 then 6 else e):=by
    unfold wN;by_cases h2:e=0<;>simp[hv,h64,h2]
   rw[r];simp only[go_sem,d1];refine aa (vh l e 6) ?_;exact az
  .have d1:decide ((x.length:Int)>64)=false:=aM (by omega);have r1:wU (e==0) l e x.length=(wB (e==0) l (ay x.length),e):=by
    unfold wU wB;have h1:¬((x.length:Int)<0\/(x.length:Int)>4294967295):=by omega
    cases (e==0)<;>simp only[br,au h1,gd,cD,mz]
   have r:wN (e==0) l e x=(wB (e==0) (wB (e==0) l (ay x.length)) x,e):=by
    unfold wN wB;cases (e==0)<;>simp[hv,h64]
   have hp:=lu (n:=x.length) (by omega);have hl2:=kY (ok:=(e==0)) (l:=l) (x:=ay x.length);have c1:=N_ l e hl x.length;rw[r1]at c1;rw[r];simp only[go_sem,d1];refine aa (c1) ?_;refine⟨by omega,?_⟩;refine oU [20] ?_ (kg (wB (e==0) l (ay x.length)) e (by omega) x (by omega)) (by simp[go_sem]) ?_
   .simp only[go_sem,bG,cU];rw[dQ (by simp)];rfl
   simp only[go_sem];exact az
theorem Ub(x:List UInt8)(ex:Int)(hx:x.length<1000000000):ac pg tn [wx l e,wx x ex] (wx (wP (e==0) l e true x ex).1 (wP (e==0) l e true x ex).2):=by
 refine aD mM ?_;by_cases h:ex=0
 .subst h;have r1:wU (e==0) l e x.length=(wB (e==0) l (ay x.length),e):=by
   unfold wU wB;have h1:¬((x.length:Int)<0\/(x.length:Int)>4294967295):=by omega
   cases (e==0)<;>simp only[br,au h1,gd,cD,mz]
  have r:wP (e==0) l e true x 0=(wB (e==0) (wB (e==0) l (ay x.length)) x,e):=by simp[wP]
  have hp:=lu (n:=x.length) (by omega);have hl2:=kY (ok:=(e==0)) (l:=l) (x:=ay x.length);have c1:=N_ l e hl x.length;rw[r1]at c1;rw[r];simp only[go_sem,mM,cU]
  first|refine bY c1 (by simp[go_sem]) ?_|refine aN c1 (by simp[go_sem]) rfl ?_
  simp only[go_sem];refine aa (kg (wB (e==0) l (ay x.length)) e (by omega) x (by omega)) ?_;exact az
 .have r:wP (e==0) l e true x ex=(l,if e=0 then ex else e):=by simp[wP,h]
  rw[r];simp only[go_sem,mM,bv h];refine aa (vh l e ex) ?_;exact az
end
def T_(l:List UInt8)(e:Int):ac pg HJ [wx l e] (.tup [Lg (wD true l e).1,.int .i64 (wD true l e).2]):=by
 refine aD rZ ?_;by_cases h:e=0
 .subst h;have r:wD true l 0=(some l,0):=rfl;rw[r];simp only[go_sem,rZ];exact az
 .have r:wD true l e=(none,e):=by simp[wD,h]
  rw[r];simp only[go_sem,rZ,bv h];exact az
end
structure Nm where
 i:Int
 s:List UInt8
instance:Inhabited Nm:=⟨⟨0,[]⟩⟩
deriving instance DecidableEq for Nm
structure Lc where
 f:Int
 l:List Nm
instance:Inhabited Lc:=⟨⟨0,[]⟩⟩
deriving instance DecidableEq for Lc
structure Ns where
 m:List UInt8
 fs:List Nm
 ls:List Lc
instance:Inhabited Ns:=⟨⟨[],[],[]⟩⟩
deriving instance DecidableEq for Ns
def nm_(n:Nm):List AV:=[.int .i64 n.i,.str n.s]
def lc_(x:Lc):List AV:=[.int .i64 x.f,.sl 2 (x.l.map nm_)]
def nsC(x:Ns):List AV:=[.str x.m,.sl 2 (x.fs.map nm_),.sl 2 (x.ls.map lc_)]
def ns_(x:Ns):AV:=.agg (nsC x)
def aik(n:Nm):nm_ n=[.int .i64 n.i,.str n.s]:=rfl
def ah_(x:Lc):lc_ x=[.int .i64 x.f,.sl 2 (x.l.map nm_)]:=rfl
def aim(x:Ns):ns_ x = .agg [.str x.m,.sl 2 (x.fs.map nm_),.sl 2 (x.ls.map lc_)]:=rfl
attribute[go_sem] aik ah_ aim
def nX(i:Int):Bool:=decide (0<=i)&&decide (i<4294967296)
def C1(l:List Nm):Int:=match l.getLast? with
 | some n=>n.i
 | none=>0
def fnd:List Nm->Int->List UInt8
 | [],_=>[]
 | n::r,i=>if n.i=i then n.s else fnd r i
def qk{α:Type}[Inhabited α]{l:List α}{i:Nat}(h:i<l.length):l.drop i=ah l i::l.drop (i+1):=by
 rw[bD h,ad1 h]
def MV{α:Type}[Inhabited α]{l:List α}{i:Nat}(h:i<l.length):l.take (i+1)=l.take i++[ah l i]:=by rw[Eu,pd h,Et]
def dc{α:Type}{l:List α}{i:Nat}(h:l.length<=i):l.drop i=[]:=M9 h
section
deriving instance DecidableEq for bj,Ft,Lm,Gl,Im,Cd,Tb,Gd,Ex,El,Da,Cu,Md
attribute[local go_sem] cL dm cU
def dv{j n:Nat}(h:j<n)(hn:n<=9223372036854775807):IntKind.i64.wrap ((j:Int)+1)=(j:Int)+1:=wi (by omega) (by omega)
end
section
def JG{x y:Im}:((x.m==y.m)&&((x.n==y.n)&&((x.k==y.k)&&((x.f==y.f)&&((x.te==y.te)&&((x.tl.mn==y.tl.mn)&&((x.tl.mx==y.tl.mx)&&((x.tl.hs==y.tl.hs)&&((x.me.mn==y.me.mn)&&((x.me.mx==y.me.mx)&&((x.me.hs==y.me.hs)&&((x.g.v==y.g.v)&&(x.g.mu==y.g.mu)))))))))))))=decide (x=y):=by
 obtain⟨a1,a2,a3,a4,a5,⟨a6,a7,a8⟩,⟨a9,a10,a11⟩,⟨a12,a13⟩⟩:=x;obtain⟨b1,b2,b3,b4,b5,⟨b6,b7,b8⟩,⟨b9,b10,b11⟩,⟨b12,b13⟩⟩:=y;rw[zT];simp only[cE,beq_iff_eq,eQ,Im.mk.injEq,Lm.mk.injEq,Gl.mk.injEq,and_assoc]
attribute[local go_sem] cU du cP cK df cC s8 fU ef eS cL aS
end
section
attribute[local go_sem] cU du cP cK df cC s8 fU ef eS aS
end
section
attribute[local go_sem] cU du cP cK df cC s8 fU ef eS bh iz aS
