import Derived.Test.YtdfofedlbljnhaaGreatDoorQf
set_option linter.all false
set_option maxRecDepth 100000
set_option maxHeartbeats 40000000
namespace Go.Proofs.YtdfofedlbljnhaaGreatDoor
open Go Go.Mw
theorem YX {ok:Bool} {b:List UInt8} {a:Nat} {e:Int} (h:a≤b.length):(kP ok b a e).2.1≤b.length:=by
 unfold kP
 repeat' split
 all_goals first | exact h | (simp only;omega)
theorem X8 {b:List UInt8} {a:Nat} {t:Option (List UInt8)×Nat×Int} (h:a≤b.length) (h2:t.2.1≤b.length):(sL b a t).2.1≤b.length:=by
 unfold sL
 repeat' split
 all_goals first | exact h | exact h2
theorem Og {ok:Bool} {b:List UInt8} {a:Nat} {e:Int} (h:a≤b.length):(cO ok b a e).2.1≤b.length:=by
 unfold cO
 split
 ·exact X8 h (I0 (o9 h))
 ·exact h
section
variable (n:Int) (b:List UInt8) (a:Nat) (e:Int) (b2:List UInt8) (a2:Nat) (e2:Int) (hn:-9223372036854775808≤n∧n<9223372036854775808) (ha:a≤b.length) (hb:b.length<1000000000) (ha2:a2≤b2.length) (hb2:b2.length<1000000000)
include hn ha hb ha2 hb2
end
section
def ahW (x:Int×Int):List AV:=[.int .i64 x.1,.int .i64 x.2]
theorem aeZ (x:Int×Int):ahW x=[.int .i64 x.1,.int .i64 x.2]:=rfl
attribute [go_sem] aeZ
attribute [local go_sem] rx ro
end
theorem GD {l:List oG} {s:St} {r:AV} {m:Bool} {x:List UInt8} {y:Int} {e:IX} (he:∀j,e≠.ext j) (h1:sS l s=some r) (h2:ae s.heap 1000=some (wo 2000 m x y)) (h3:ae s.heap 2000=some (wa x)) (h4:aH r=[]) :
  nG l (fun r' σ'=>r'=r∧σ'=[(1000,wo 2000 m x y),(2000,wa x)]) e s:=by
 refine ⟨he,s,fun _ _ _ h=>h,[],r,[(1000,wo 2000 m x y),(2000,wa x)],h1,fun i o hi=>?_,oJ ?_,rfl,rfl⟩
 ·simp only [ae] at hi
  split at hi
  ·rename_i hki;subst hki;cases hi;exact h2
  ·split at hi
   ·rename_i hki;subst hki;cases hi;exact h3
   ·cases hi
 ·rw [Ng,h4];rfl
def wS (ok:Bool) (l:List UInt8) (n:Int):List UInt8:=wB ok l (br n)
def Gk (ok:Bool) (l:List UInt8) (e n:Int):List UInt8×Int:=if n < -4294967296∨n>4294967295 then (l,if ok=true then 1 else e) else (wS ok l n,e)
def K5 (x:Int):Int:=IntKind.i64.wrap (IntKind.i32.wrap (IntKind.u32.wrap x))
theorem ME (x:Int):-2147483648≤K5 x∧K5 x<2147483648:=by
 unfold K5
 rw [wV,VA]
 omega
theorem i64_in (x:Int):NF (IntKind.i64.wrap x):=by unfold NF;rw [wV];omega
theorem DB {n:Int} (h:NF n):(br n).length≤10:=ut (k:=9) (by unfold NF at h;omega) (by unfold NF at h;omega)
section
variable (m:Bool) (l:List UInt8) (e:Int) (hl:l.length<50000000000)
include hl
attribute [local go_sem] wo wa
theorem adM (x:Int):WM vR [.int .u64 x] m l e (.tup []) (wS (m&&e==0) l (K5 x)) e:=by
 refine bF nj ?_
 have h1:=ME x
 have h2:=DB (n:=K5 x) ⟨by omega,by omega⟩
 simp only [go_sem,nj]
 refine aa (MG (K5 x) (by omega)) ?_
 refine aR [] (k:=1000) (j:=2000) (fW m l (br (K5 x)) e ⟨by omega,by omega⟩) ?_
 simp only [go_sem]
 exact GD (fun _ h=>by cases h) (by simp only [go_sem]) (by simp only [go_sem];rfl) (by simp only [go_sem];rfl) rfl
theorem adO (x:Int):WM vT [.int .u64 x] m l e (.tup []) (wS (m&&e==0) l (IntKind.i64.wrap x)) e:=by
 refine bF nk ?_
 have h2:=DB (i64_in x)
 simp only [go_sem,nk]
 refine aa (MG (IntKind.i64.wrap x) (i64_in x)) ?_
 refine aR [] (k:=1000) (j:=2000) (fW m l (br (IntKind.i64.wrap x)) e ⟨by omega,by omega⟩) ?_
 simp only [go_sem]
 exact GD (fun _ h=>by cases h) (by simp only [go_sem]) (by simp only [go_sem];rfl) (by simp only [go_sem];rfl) rfl
theorem adN (x:Int) (hx:NF x):WM vS [.int .i64 x] m l e (.tup []) (Gk (m&&e==0) l e x).1 (Gk (m&&e==0) l e x).2:=by
 refine bF eG ?_
 by_cases h1:x < -4294967296
 ·have r:Gk (m&&e==0) l e x=(l,if (m&&e==0)=true then 1 else e):=by simp [Gk,h1]
  rw [r]
  simp only [go_sem,eG,aO h1]
  refine aR [] (k:=1000) (j:=2000) (n_ m l e 1) ?_
  simp only [go_sem]
  exact GD (fun _ h=>by cases h) (by simp only [go_sem]) (by simp only [go_sem]) (by simp only [go_sem]) rfl
 ·by_cases h2:x>4294967295
  ·have r:Gk (m&&e==0) l e x=(l,if (m&&e==0)=true then 1 else e):=by simp [Gk,h2]
   rw [r]
   simp only [go_sem,eG,aQ h1,aO h2]
   refine aR [] (k:=1000) (j:=2000) (n_ m l e 1) ?_
   simp only [go_sem]
   exact GD (fun _ h=>by cases h) (by simp only [go_sem]) (by simp only [go_sem]) (by simp only [go_sem]) rfl
  ·have r:Gk (m&&e==0) l e x=(wS (m&&e==0) l x,e):=by simp [Gk,h1,h2]
   have h3:=DB hx
   rw [r]
   simp only [go_sem,eG,aQ h1,aQ h2]
   refine aa (MG x hx) ?_
   refine aR [] (k:=1000) (j:=2000) (fW m l (br x) e ⟨by omega,by omega⟩) ?_
   simp only [go_sem]
   exact GD (fun _ h=>by cases h) (by simp only [go_sem]) (by simp only [go_sem];rfl) (by simp only [go_sem];rfl) rfl
def wP (ok:Bool) (l:List UInt8) (e:Int) (mp:Bool) (lp:List UInt8) (ep:Int):List UInt8×Int :=
 if mp=true then (if ep≠0 then (l,if ok=true then ep else e) else (wB ok (wB ok l (aq lp.length)) lp,e)) else (l,if ok=true then 2 else e)
theorem I8 (mp:Bool) (lp:List UInt8) (ep:Int) (hp:lp.length<4000000000) :
  aX pg uk [.mp 1000 3 0 0,.mp 1001 3 0 0] [(1000,wo 2000 m l e),(2000,wa l),(1001,wo 2001 mp lp ep),(2001,wa lp)] sb
   (fun r' σ'=>r' = .tup []∧σ'=[(1000,wo 2000 m (wP (m&&e==0) l e mp lp ep).1 (wP (m&&e==0) l e mp lp ep).2),(2000,wa (wP (m&&e==0) l e mp lp ep).1),(1001,wo 2001 mp lp ep),(2001,wa lp)]):=by
 refine bF eu ?_
 cases mp
 ·have r:wP (m&&e==0) l e false lp ep=(l,if (m&&e==0)=true then 2 else e):=by simp [wP]
  rw [r]
  simp only [go_sem,eu]
  refine aR [] (k:=1000) (j:=2000) (n_ m l e 2) ?_
  simp only [go_sem]
  exact jG [] _ [(1000,wo 2000 m l (if (m&&e==0)=true then 2 else e)),(2000,wa l),(1001,wo 2001 false lp ep),(2001,wa lp)] ⟨rfl,rfl⟩
 ·by_cases h:ep=0
  ·subst h
   have r:wP (m&&e==0) l e true lp 0=(wB (m&&e==0) (wB (m&&e==0) l (aq lp.length)) lp,e):=by simp [wP]
   have r1:wU (m&&e==0) l e lp.length=(wB (m&&e==0) l (aq lp.length),e):=by
    unfold wU wB
    have h1:¬((lp.length:Int)<0∨(lp.length:Int)>4294967295):=by omega
    cases (m&&e==0)<;>simp only [aF,ah h1,iD,bc,ce]
   have c1:=I7 m l e lp.length (by omega)
   have hp2:=yJ (n:=lp.length) (by omega)
   have hl2:=qn (ok:=(m&&e==0)) (l:=l) (x:=aq lp.length)
   have hr:=K1 1 lp.length 5 i5 lp rfl
   rw [r1] at c1
   rw [r]
   simp only [go_sem,eu,hr]
   refine ⟨by omega,?_⟩
   refine aR [] (k:=1000) (j:=2000) (c1) ?_
   simp only [go_sem]
   refine dX [31] (k:=1000) (j:=2000) (fW m (wB (m&&e==0) l (aq lp.length)) lp e ⟨by omega,by omega⟩) (by decide) (by decide) (by decide) (by decide) (by first | rfl | simp [go_sem,bX]) (by simp [go_sem]) ?_ (by rfl) (by rfl) ?_
   ·simp only [go_sem,bt,di]
    rw [fL (by simp)]
   ·simp only [go_sem]
    exact cN [] _ [(1000,wo 2000 m (wB (m&&e==0) (wB (m&&e==0) l (aq lp.length)) lp) e),(2000,wa (wB (m&&e==0) (wB (m&&e==0) l (aq lp.length)) lp)),(1001,wo 2001 true lp 0),(2001,wa lp)] ⟨rfl,rfl⟩
  ·have r:wP (m&&e==0) l e true lp ep=(l,if (m&&e==0)=true then ep else e):=by simp [wP,h]
   rw [r]
   simp only [go_sem,eu,bv h]
   refine aR [] (k:=1000) (j:=2000) (n_ m l e ep) ?_
   simp only [go_sem]
   exact jG [] _ [(1000,wo 2000 m l (if (m&&e==0)=true then ep else e)),(2000,wa l),(1001,wo 2001 true lp ep),(2001,wa lp)] ⟨rfl,rfl⟩
end
section
def wx (l:List UInt8) (e:Int):AV:=.agg [.sl 1 (l.map i5),.int .i64 e]
attribute [local go_sem] wx
section
variable (l:List UInt8) (e:Int) (hl:l.length<45000000000)
include hl
end
end
structure Nm where
 i:Int
 s:List UInt8
instance:Inhabited Nm:=⟨⟨0,[]⟩⟩
deriving instance DecidableEq for Nm
structure Lc where
 f:Int
 l:List Nm
instance:Inhabited Lc:=⟨⟨0,[]⟩⟩
deriving instance DecidableEq for Lc
structure Ns where
 m:List UInt8
 fs:List Nm
 ls:List Lc
instance:Inhabited Ns:=⟨⟨[],[],[]⟩⟩
deriving instance DecidableEq for Ns
def nm_ (n:Nm):List AV:=[.int .i64 n.i,.str n.s]
def lc_ (x:Lc):List AV:=[.int .i64 x.f,.sl 2 (x.l.map nm_)]
def nsC (x:Ns):List AV:=[.str x.m,.sl 2 (x.fs.map nm_),.sl 2 (x.ls.map lc_)]
def ns_ (x:Ns):AV:=.agg (nsC x)
theorem aiO (n:Nm):nm_ n=[.int .i64 n.i,.str n.s]:=rfl
theorem aiz (x:Lc):lc_ x=[.int .i64 x.f,.sl 2 (x.l.map nm_)]:=rfl
theorem aiP (x:Ns):ns_ x = .agg [.str x.m,.sl 2 (x.fs.map nm_),.sl 2 (x.ls.map lc_)]:=rfl
attribute [go_sem] aiO aiz aiP
def rP (i:Int):Bool:=decide (0≤i)&&decide (i<4294967296)
def Eo (l:List Nm):Int:=match l.getLast? with
 | some n=>n.i
 | none=>0
def fnd:List Nm→Int→List UInt8
 | [],_=>[]
 | n :: r,i=>if n.i=i then n.s else fnd r i
theorem xg {α:Type} [Inhabited α] {l:List α} {i:Nat} (h:i<l.length):l.drop i=ac l i :: l.drop (i+1):=by
 rw [bp h,List.drop_eq_getElem_cons h]
theorem MX {α:Type} [Inhabited α] {l:List α} {i:Nat} (h:i<l.length):l.take (i+1)=l.take i++[ac l i]:=by rw [List.take_add_one,oY h,Option.toList_some]
theorem x8 {α:Type} {l:List α} {i:Nat} (h:l.length≤i):l.drop i=[]:=List.drop_eq_nil_of_le h
section
deriving instance DecidableEq for aZ,Ft,Lm,Gl,Im,Cd,Tb,Gd,Ex,El,Da,Cu,Md
theorem N5 {a b:List Int} (hl:a.length=b.length) (h:∀k,k<a.length→ac a k=ac b k):a=b:=by
 apply List.ext_getElem hl
 intro i h1 h2
 have:=h i h1
 rwa [bp h1,bp h2] at this
def sI (x y:aZ):Bool:=(x.op==y.op)&&((x.a==y.a)&&((x.b==y.b)&&((x.n==y.n)&&(((x.k==y.k)&&((x.v==y.v)&&(x.x==y.x)))&&((x.ty==y.ty)&&(x.lb==y.lb))))))
attribute [local go_sem] dE d_ di
theorem Y5 (x y:aZ) (h1:x.ty.length≤9223372036854775807) (h2:x.lb.length≤9223372036854775807):ao pg yq [dJ x,dJ y] (.bool (sI x y)):=by
 refine aL xV ?_
 have ft:∀b:Bool,(true&&b)=b:=fun _=>rfl
 have ff:∀b:Bool,(false&&b)=false:=fun _=>rfl
 have nt:∀{a b:Int},(a != b)=true→(a==b)=false:=fun h=>by simpa using h
 have nf:∀{a b:Int},(a != b)=false→(a==b)=true:=fun h=>by simpa using h
 have lt:∀{a b:List Int},((a.length:Int) != (b.length:Int))=true→(a==b)=false:=fun {a b} h=>by
  rw [gy]
  intro e;rw [e] at h;simp at h
 have lf:∀{a b:List Int},((a.length:Int) != (b.length:Int))=false→a.length=b.length:=fun {a b} h=>by
  have h2:¬((a.length:Int)≠(b.length:Int)):=by simpa using h
  omega
 have nb:∀{b:Bool},(!b)=true→b=false:=fun {b} h=>by cases b<;>first | rfl | cases h
 have nc:∀{b:Bool},(!b)=false→b=true:=fun {b} h=>by cases b<;>first | rfl | cases h
 unfold sI
 simp only [go_sem,xV]
 refine ⟨fun c1=>?_,fun c1=>⟨fun c2=>?_,fun c2=>⟨fun c3=>?_,fun c3=>⟨fun c4=>?_,fun c4=>⟨fun c5=>?_,fun c5=>⟨fun c6=>?_,fun c6=>⟨fun c7=>?_,fun c7=>?_⟩⟩⟩⟩⟩⟩⟩
 ·rw [nt c1]
  exact aB
 ·rw [nf c1,nt c2]
  exact aB
 ·rw [nf c1,nf c2,nt c3]
  exact aB
 ·rw [nf c1,nf c2,nf c3,nt c4]
  exact aB
 ·rw [nf c1,nf c2,nf c3,nf c4,nb c5]
  exact aB
 ·rw [nf c1,nf c2,nf c3,nf c4,nc c5,lt c6]
  exact aB
 ·rw [nf c1,nf c2,nf c3,nf c4,nc c5,lt c7,Bool.and_false]
  exact aB
 rw [nf c1,nf c2,nf c3,nf c4,nc c5,ft,ft,ft,ft,ft]
 replace c6:=lf c6
 replace c7:=lf c7
 refine aw (fun i:Nat=>⟨[(2,.mp 2 9 0 0),(3,.mp 3 9 0 0),(5,.int .i64 i)],[(3,⟨58,9,[[.int .i64 y.op,.int .i64 y.a,.int .i64 y.b,.int .u64 y.n,.int .i64 y.k,.int .i64 y.v,.int .i64 y.x,.sl 1 (y.ty.map mA),.sl 1 (y.lb.map mA)]],true⟩),(2,⟨58,9,[[.int .i64 x.op,.int .i64 x.a,.int .i64 x.b,.int .u64 x.n,.int .i64 x.k,.int .i64 x.v,.int .i64 x.x,.sl 1 (x.ty.map mA),.sl 1 (x.lb.map mA)]],true⟩)]⟩) (fun i=>i≤x.ty.length∧∀k,k<i→ac x.ty k=ac y.ty k) (fun i=>x.ty.length - i) 0 ⟨cX _,fun k hk=>absurd hk (Nat.not_lt_zero k)⟩ (Wk.of ?_ ?_) ?_
 ·simp only [go_sem];try simp
 ·simp only [go_sem]
 rintro i ⟨hi,hk⟩
 by_cases q1:(i:Int)<(x.ty.length:Int)
 ·have e8:=wi (n:=(i:Int)+1) (by omega) (by omega)
  simp only [go_sem,aO q1]
  refine ⟨by omega,q1,by omega,by omega,fun g2=>?_,fun g2=>aG (i+1) ⟨by omega,fun k hk9=>?_⟩ (show x.ty.length - (i+1)<x.ty.length - i by omega) (Wk.of ?_ ?_)⟩
  ·have r:(x.ty==y.ty)=false:=by
    rw [gy]
    intro e
    rw [e] at g2
    simp at g2
   rw [r,ff]
   exact aB
  ·rcases fX k i with h4 | h4
   ·exact hk k h4
   ·obtain rfl:k=i:=by omega
    simpa using g2
  ·simp only [go_sem,e8]
   try simp
  ·simp only [go_sem]
 ·have r:(x.ty==y.ty)=true:=by rw [N5 c6 (fun k hk2=>hk k (by omega))];exact beq_self_eq_true _
  rw [r,ft]
  simp only [go_sem,aQ q1]
  refine aw (fun i:Nat=>⟨[(2,.mp 2 9 0 0),(3,.mp 3 9 0 0),(6,.int .i64 i)],[(3,⟨58,9,[[.int .i64 y.op,.int .i64 y.a,.int .i64 y.b,.int .u64 y.n,.int .i64 y.k,.int .i64 y.v,.int .i64 y.x,.sl 1 (y.ty.map mA),.sl 1 (y.lb.map mA)]],true⟩),(2,⟨58,9,[[.int .i64 x.op,.int .i64 x.a,.int .i64 x.b,.int .u64 x.n,.int .i64 x.k,.int .i64 x.v,.int .i64 x.x,.sl 1 (x.ty.map mA),.sl 1 (x.lb.map mA)]],true⟩)]⟩) (fun i=>i≤x.lb.length∧∀k,k<i→ac x.lb k=ac y.lb k) (fun i=>x.lb.length - i) 0 ⟨cX _,fun k hk=>absurd hk (Nat.not_lt_zero k)⟩ (Wk.of ?_ ?_) ?_
  ·simp only [go_sem];try simp
  ·simp only [go_sem]
  rintro j ⟨hj,hk2⟩
  by_cases q2:(j:Int)<(x.lb.length:Int)
  ·have e9:=wi (n:=(j:Int)+1) (by omega) (by omega)
   simp only [go_sem,aO q2]
   refine ⟨by omega,q2,by omega,by omega,fun g2=>?_,fun g2=>aG (j+1) ⟨by omega,fun k hk9=>?_⟩ (show x.lb.length - (j+1)<x.lb.length - j by omega) (Wk.of ?_ ?_)⟩
   ·have r:(x.lb==y.lb)=false:=by
     rw [gy]
     intro e
     rw [e] at g2
     simp at g2
    rw [r]
    exact aB
   ·rcases fX k j with h4 | h4
    ·exact hk2 k h4
    ·obtain rfl:k=j:=by omega
     simpa using g2
   ·simp only [go_sem,e9]
    try simp
   ·simp only [go_sem]
  ·have r:(x.lb==y.lb)=true:=by rw [N5 c7 (fun k hk3=>hk2 k (by omega))];exact beq_self_eq_true _
   rw [r]
   simp only [go_sem,aQ q2]
   exact aB
theorem agT (x y:aZ):sI x y=decide (x=y):=by
 obtain ⟨a1,a2,a3,a4,a5,a6,a7,a8,a9⟩:=x
 obtain ⟨b1,b2,b3,b4,b5,b6,b7,b8,b9⟩:=y
 unfold sI
 by_cases h1:a1=b1<;>by_cases h2:a2=b2<;>by_cases h3:a3=b3<;>by_cases h4:a4=b4<;>by_cases h5:a5=b5<;>by_cases h6:a6=b6<;>by_cases h7:a7=b7<;>by_cases h8:a8=b8<;>by_cases h9:a9=b9<;>simp [h1,h2,h3,h4,h5,h6,h7,h8,h9]
theorem Y4 (x y:aZ) (h:VR x):ao pg yq [dJ x,dJ y] (.bool (decide (x=y))):=by
 rw [← agT]
 exact Y5 x y (by have:=h.1;omega) (by have:=h.2;omega)
theorem dz {j n:Nat} (h:j<n) (hn:n≤9223372036854775807):IntKind.i64.wrap ((j:Int)+1)=(j:Int)+1:=wi (by omega) (by omega)
theorem kX {α:Type} [Inhabited α] {a b:List α} (hl:a.length=b.length) (h:∀k,k<a.length→ac a k=ac b k):a=b:=by
 apply List.ext_getElem hl
 intro i h1 h2
 have:=h i h1
 rwa [bp h1,bp h2] at this
end
section
theorem Eg {x y:Im}:((x.m==y.m)&&((x.n==y.n)&&((x.k==y.k)&&((x.f==y.f)&&((x.te==y.te)&&((x.tl.mn==y.tl.mn)&&((x.tl.mx==y.tl.mx)&&((x.tl.hs==y.tl.hs)&&((x.me.mn==y.me.mn)&&((x.me.mx==y.me.mx)&&((x.me.hs==y.me.hs)&&((x.g.v==y.g.v)&&(x.g.mu==y.g.mu)))))))))))))=decide (x=y):=by
 obtain ⟨a1,a2,a3,a4,a5,⟨a6,a7,a8⟩,⟨a9,a10,a11⟩,⟨a12,a13⟩⟩:=x
 obtain ⟨b1,b2,b3,b4,b5,⟨b6,b7,b8⟩,⟨b9,b10,b11⟩,⟨b12,b13⟩⟩:=y
 rw [Bool.eq_iff_iff]
 simp only [cC,beq_iff_eq,fo,Im.mk.injEq,Lm.mk.injEq,Gl.mk.injEq,and_assoc]
theorem Z_ {x y:Lm}:((x.mn==y.mn)&&((x.mx==y.mx)&&(x.hs==y.hs)))=decide (x=y):=by
 obtain ⟨a1,a2,a3⟩:=x
 obtain ⟨b1,b2,b3⟩:=y
 rw [Bool.eq_iff_iff]
 simp only [cC,beq_iff_eq,fo,Lm.mk.injEq,and_assoc]
theorem aax {x y:Tb}:((x.e==y.e)&&((x.l.mn==y.l.mn)&&((x.l.mx==y.l.mx)&&(x.l.hs==y.l.hs))))=decide (x=y):=by
 obtain ⟨a1,⟨a2,a3,a4⟩⟩:=x
 obtain ⟨b1,⟨b2,b3,b4⟩⟩:=y
 rw [Bool.eq_iff_iff]
 simp only [cC,beq_iff_eq,fo,Tb.mk.injEq,Lm.mk.injEq,and_assoc]
theorem ZQ {x y:Ex}:((x.n==y.n)&&((x.k==y.k)&&(x.i==y.i)))=decide (x=y):=by
 obtain ⟨a1,a2,a3⟩:=x
 obtain ⟨b1,b2,b3⟩:=y
 rw [Bool.eq_iff_iff]
 simp only [cC,beq_iff_eq,fo,Ex.mk.injEq,and_assoc]
theorem J3 {x y:Gl}:((x.v==y.v)&&(x.mu==y.mu))=decide (x=y):=by
 obtain ⟨a1,a2⟩:=x
 obtain ⟨b1,b2⟩:=y
 rw [Bool.eq_iff_iff]
 simp only [cC,beq_iff_eq,fo,Gl.mk.injEq]
attribute [local go_sem] di dw dd dY dt db sA fS fR fp dE aW
theorem fc (a b:List aZ) (ha:a.length≤9223372036854775807∧∀x∈a,VR x):ao pg Ce [.sl 9 (a.map aW),.sl 9 (b.map aW)] (.bool (decide (a=b))):=by
 refine aL mI ?_
 by_cases hl:(a.length:Int)=(b.length:Int)
 rotate_left
 ·rw [aQ (fun h=>hl (by rw [h]))]
  simp only [go_sem,mI,bv hl]
  exact aj
 simp only [go_sem,mI,aD hl]
 refine aw (fun j:Nat=>⟨[(5,.int .i64 j),(0,.sl 9 (a.map aW)),(1,.sl 9 (b.map aW))],[]⟩) (fun j=>j≤a.length∧∀k,k<j→ac a k=ac b k) (fun j=>a.length - j) 0 ⟨cX _,fun k hk=>by omega⟩ (Wk.of ?_ ?_) ?_
 ·simp only [go_sem];try simp
 ·simp only [go_sem]
 rintro j ⟨hj,hx⟩
 by_cases h1:(j:Int)<(a.length:Int)
 rotate_left
 ·rw [aO (kX (by omega) fun k hk=>hx k (by omega))]
  simp only [go_sem,aQ h1]
  exact aj
 have hj':j<a.length:=by omega
 have hjb:(j:Int)<(b.length:Int):=by omega
 have e8:=dz hj' (by omega)
 obtain ⟨ha,hs⟩:=ha
 have hX:=eT hs hj'
 clear hs
 have neq:ac a j≠ac b j→decide (a=b)=false:=fun h=>aQ (fun e=>h (by rw [e]))
 have cc:=Y4 (ac a j) (ac b j) hX
 try simp only [dE,dw] at cc
 by_cases h2:ac a j=ac b j
 ·rw [aO h2] at cc
  simp only [go_sem,aO h1]
  refine ⟨by omega,h1,by omega,hjb,?_⟩
  refine aa (cc) ?_
  refine aG (j+1) ⟨show j+1≤a.length by omega,fun k hk=>?_⟩ (show a.length - (j+1)<a.length - j by omega) (Wk.of ?_ ?_)
  ·rcases fX k j with h | h
   ·exact hx k h
   ·rw [show k=j by omega];exact h2
  ·simp only [go_sem,e8];try simp
  ·simp only [go_sem]
 ·rw [aQ h2] at cc
  rw [neq h2]
  simp only [go_sem,aO h1]
  refine ⟨by omega,h1,by omega,hjb,?_⟩
  refine aa (cc) ?_
  exact aj
theorem E5 (a b:List Int) (ha:a.length≤9223372036854775807):ao pg Aa [.sl 1 (a.map mA),.sl 1 (b.map mA)] (.bool (decide (a=b))):=by
 refine aL kR ?_
 by_cases hl:(a.length:Int)=(b.length:Int)
 rotate_left
 ·rw [aQ (fun h=>hl (by rw [h]))]
  simp only [go_sem,kR,bv hl]
  exact aj
 simp only [go_sem,kR,aD hl]
 refine aw (fun j:Nat=>⟨[(5,.int .i64 j),(0,.sl 1 (a.map mA)),(1,.sl 1 (b.map mA))],[]⟩) (fun j=>j≤a.length∧∀k,k<j→ac a k=ac b k) (fun j=>a.length - j) 0 ⟨cX _,fun k hk=>by omega⟩ (Wk.of ?_ ?_) ?_
 ·simp only [go_sem];try simp
 ·simp only [go_sem]
 rintro j ⟨hj,hx⟩
 by_cases h1:(j:Int)<(a.length:Int)
 rotate_left
 ·rw [aO (kX (by omega) fun k hk=>hx k (by omega))]
  simp only [go_sem,aQ h1]
  exact aj
 have hj':j<a.length:=by omega
 have hjb:(j:Int)<(b.length:Int):=by omega
 have e8:=dz hj' (by omega)
 have neq:ac a j≠ac b j→decide (a=b)=false:=fun h=>aQ (fun e=>h (by rw [e]))
 by_cases h2:ac a j=ac b j
 ·simp only [go_sem,aO h1,aD h2]
  refine ⟨by omega,h1,by omega,hjb,aG (j+1) ⟨show j+1≤a.length by omega,fun k hk=>?_⟩ (show a.length - (j+1)<a.length - j by omega) (Wk.of ?_ ?_)⟩
  ·rcases fX k j with h | h
   ·exact hx k h
   ·rw [show k=j by omega];exact h2
  ·simp only [go_sem,e8];try simp
  ·simp only [go_sem]
 ·rw [neq h2]
  simp only [go_sem,aO h1,bv h2]
  refine ⟨by omega,h1,by omega,hjb,?_⟩
  exact aj
theorem aje (x y:Ft) (h:smF x):ao pg Iw [.agg (rK x),.agg (rK y)] (.bool (decide (x=y))):=by
 refine aL nM ?_
 have d1:=E5 x.ps y.ps h.1
 have d2:=E5 x.rs y.rs h.2
 by_cases c1:x.ps=y.ps
 rotate_left
 ·rw [aQ c1] at d1
  rw [aQ (fun e=>c1 (by rw [e]))]
  simp only [go_sem,nM]
  refine aa (d1) ?_
  exact aj
 rw [aO c1] at d1
 by_cases c2:x.rs=y.rs
 rotate_left
 ·rw [aQ c2] at d2
  rw [aQ (fun e=>c2 (by rw [e]))]
  simp only [go_sem,nM]
  refine aa (d1) ?_
  refine aa (d2) ?_
  exact aj
 rw [aO c2] at d2
 rw [aO (show x=y by obtain ⟨a1,a2⟩:=x;obtain ⟨b1,b2⟩:=y;simp only at c1 c2;rw [c1,c2])]
 simp only [go_sem,nM]
 refine aa (d1) ?_
 refine aa (d2) ?_
 exact aj
theorem Y7 (a b:List Ft) (ha:a.length≤9223372036854775807∧∀x∈a,smF x):ao pg yx [.sl 2 (a.map rK),.sl 2 (b.map rK)] (.bool (decide (a=b))):=by
 refine aL j0 ?_
 by_cases hl:(a.length:Int)=(b.length:Int)
 rotate_left
 ·rw [aQ (fun h=>hl (by rw [h]))]
  simp only [go_sem,j0,bv hl]
  exact aj
 simp only [go_sem,j0,aD hl]
 refine aw (fun j:Nat=>⟨[(5,.int .i64 j),(0,.sl 2 (a.map rK)),(1,.sl 2 (b.map rK))],[]⟩) (fun j=>j≤a.length∧∀k,k<j→ac a k=ac b k) (fun j=>a.length - j) 0 ⟨cX _,fun k hk=>by omega⟩ (Wk.of ?_ ?_) ?_
 ·simp only [go_sem];try simp
 ·simp only [go_sem]
 rintro j ⟨hj,hx⟩
 by_cases h1:(j:Int)<(a.length:Int)
 rotate_left
 ·rw [aO (kX (by omega) fun k hk=>hx k (by omega))]
  simp only [go_sem,aQ h1]
  exact aj
 have hj':j<a.length:=by omega
 have hjb:(j:Int)<(b.length:Int):=by omega
 have e8:=dz hj' (by omega)
 obtain ⟨ha,hs⟩:=ha
 have hX:=eT hs hj'
 clear hs
 have neq:ac a j≠ac b j→decide (a=b)=false:=fun h=>aQ (fun e=>h (by rw [e]))
 have cc:=aje (ac a j) (ac b j) hX
 try simp only [dE,dw] at cc
 by_cases h2:ac a j=ac b j
 ·rw [aO h2] at cc
  simp only [go_sem,aO h1]
  refine ⟨by omega,h1,by omega,hjb,?_⟩
  refine aa (cc) ?_
  refine aG (j+1) ⟨show j+1≤a.length by omega,fun k hk=>?_⟩ (show a.length - (j+1)<a.length - j by omega) (Wk.of ?_ ?_)
  ·rcases fX k j with h | h
   ·exact hx k h
   ·rw [show k=j by omega];exact h2
  ·simp only [go_sem,e8];try simp
  ·simp only [go_sem]
 ·rw [aQ h2] at cc
  rw [neq h2]
  simp only [go_sem,aO h1]
  refine ⟨by omega,h1,by omega,hjb,?_⟩
  refine aa (cc) ?_
  exact aj
theorem adu (a b:List Im) (ha:a.length≤9223372036854775807):ao pg vZ [.sl 13 (a.map tg),.sl 13 (b.map tg)] (.bool (decide (a=b))):=by
 refine aL iT ?_
 by_cases hl:(a.length:Int)=(b.length:Int)
 rotate_left
 ·rw [aQ (fun h=>hl (by rw [h]))]
  simp only [go_sem,iT,bv hl]
  exact aj
 simp only [go_sem,iT,aD hl]
 refine aw (fun j:Nat=>⟨[(5,.int .i64 j),(0,.sl 13 (a.map tg)),(1,.sl 13 (b.map tg))],[]⟩) (fun j=>j≤a.length∧∀k,k<j→ac a k=ac b k) (fun j=>a.length - j) 0 ⟨cX _,fun k hk=>by omega⟩ (Wk.of ?_ ?_) ?_
 ·simp only [go_sem];try simp
 ·simp only [go_sem]
 rintro j ⟨hj,hx⟩
 by_cases h1:(j:Int)<(a.length:Int)
 rotate_left
 ·rw [aO (kX (by omega) fun k hk=>hx k (by omega))]
  simp only [go_sem,aQ h1]
  exact aj
 have hj':j<a.length:=by omega
 have hjb:(j:Int)<(b.length:Int):=by omega
 have e8:=dz hj' (by omega)
 have neq:ac a j≠ac b j→decide (a=b)=false:=fun h=>aQ (fun e=>h (by rw [e]))
 by_cases h2:ac a j=ac b j
 ·simp only [go_sem,aO h1,Eg,aO h2,dh]
  refine ⟨by omega,h1,by omega,hjb,aG (j+1) ⟨show j+1≤a.length by omega,fun k hk=>?_⟩ (show a.length - (j+1)<a.length - j by omega) (Wk.of ?_ ?_)⟩
  ·rcases fX k j with h | h
   ·exact hx k h
   ·rw [show k=j by omega];exact h2
  ·simp only [go_sem,e8];try simp
  ·simp only [go_sem]
 ·rw [neq h2]
  simp only [go_sem,aO h1,Eg,aQ h2,cD]
  refine ⟨by omega,h1,by omega,hjb,?_⟩
  exact aj
theorem adt (a b:List Ex) (ha:a.length≤9223372036854775807):ao pg vX [.sl 3 (a.map xN),.sl 3 (b.map xN)] (.bool (decide (a=b))):=by
 refine aL iR ?_
 by_cases hl:(a.length:Int)=(b.length:Int)
 rotate_left
 ·rw [aQ (fun h=>hl (by rw [h]))]
  simp only [go_sem,iR,bv hl]
  exact aj
 simp only [go_sem,iR,aD hl]
 refine aw (fun j:Nat=>⟨[(5,.int .i64 j),(0,.sl 3 (a.map xN)),(1,.sl 3 (b.map xN))],[]⟩) (fun j=>j≤a.length∧∀k,k<j→ac a k=ac b k) (fun j=>a.length - j) 0 ⟨cX _,fun k hk=>by omega⟩ (Wk.of ?_ ?_) ?_
 ·simp only [go_sem];try simp
 ·simp only [go_sem]
 rintro j ⟨hj,hx⟩
 by_cases h1:(j:Int)<(a.length:Int)
 rotate_left
 ·rw [aO (kX (by omega) fun k hk=>hx k (by omega))]
  simp only [go_sem,aQ h1]
  exact aj
 have hj':j<a.length:=by omega
 have hjb:(j:Int)<(b.length:Int):=by omega
 have e8:=dz hj' (by omega)
 have neq:ac a j≠ac b j→decide (a=b)=false:=fun h=>aQ (fun e=>h (by rw [e]))
 by_cases h2:ac a j=ac b j
 ·simp only [go_sem,aO h1,ZQ,aO h2,dh]
  refine ⟨by omega,h1,by omega,hjb,aG (j+1) ⟨show j+1≤a.length by omega,fun k hk=>?_⟩ (show a.length - (j+1)<a.length - j by omega) (Wk.of ?_ ?_)⟩
  ·rcases fX k j with h | h
   ·exact hx k h
   ·rw [show k=j by omega];exact h2
  ·simp only [go_sem,e8];try simp
  ·simp only [go_sem]
 ·rw [neq h2]
  simp only [go_sem,aO h1,ZQ,aQ h2,cD]
  refine ⟨by omega,h1,by omega,hjb,?_⟩
  exact aj
end
section
theorem bsf {x y:List UInt8} (h:x=y):(x==y)=true:=by simpa using h
theorem bst {x y:List UInt8} (h:¬x=y):(x==y)=false:=by simpa using h
attribute [local go_sem] di dw dd dY dt db sA fS fR fp aW
theorem YZ (a b:List Cd) (ha:a.length≤9223372036854775807∧∀x∈a,Vd x):ao pg yu [.sl 3 (a.map qf),.sl 3 (b.map qf)] (.bool (decide (a=b))):=by
 refine aL jZ ?_
 by_cases hl:(a.length:Int)=(b.length:Int)
 rotate_left
 ·rw [aQ (fun h=>hl (by rw [h]))]
  simp only [go_sem,jZ,bv hl]
  exact aj
 simp only [go_sem,jZ,aD hl]
 refine aw (fun j:Nat=>⟨[(5,.int .i64 j),(0,.sl 3 (a.map qf)),(1,.sl 3 (b.map qf))],[]⟩) (fun j=>j≤a.length∧∀k,k<j→ac a k=ac b k) (fun j=>a.length - j) 0 ⟨cX _,fun k hk=>by omega⟩ (Wk.of ?_ ?_) ?_
 ·simp only [go_sem];try simp
 ·simp only [go_sem]
 rintro j ⟨hj,hx⟩
 by_cases h1:(j:Int)<(a.length:Int)
 rotate_left
 ·rw [aO (kX (by omega) fun k hk=>hx k (by omega))]
  simp only [go_sem,aQ h1]
  exact aj
 have hj':j<a.length:=by omega
 have hjb:(j:Int)<(b.length:Int):=by omega
 have e8:=dz hj' (by omega)
 obtain ⟨ha,hs⟩:=ha
 have hX:=eT hs hj'
 clear hs
 have neq:ac a j≠ac b j→decide (a=b)=false:=fun h=>aQ (fun e=>h (by rw [e]))
 by_cases c1:(ac a j).t=(ac b j).t
 rotate_left
 ·rw [neq (fun e=>c1 (by rw [e]))]
  simp only [go_sem,aO h1,bv c1]
  refine ⟨by omega,h1,by omega,hjb,?_⟩
  exact aj
 by_cases c2:(ac a j).lo=(ac b j).lo
 rotate_left
 ·rw [neq (fun e=>c2 (by rw [e]))]
  simp only [go_sem,aO h1,aD c1]
  refine ⟨by omega,h1,by omega,hjb,?_⟩
  refine ⟨by omega,h1,by omega,hjb,?_⟩
  have cc1:=E5 (ac a j).lo (ac b j).lo hX.1
  rw [aQ c2] at cc1
  refine ax (cc1) ?_
  simp only [go_sem,aO h1,aD c1]
  exact aj
 by_cases c3:(ac a j).b=(ac b j).b
 rotate_left
 ·rw [neq (fun e=>c3 (by rw [e]))]
  simp only [go_sem,aO h1,aD c1]
  refine ⟨by omega,h1,by omega,hjb,?_⟩
  refine ⟨by omega,h1,by omega,hjb,?_⟩
  have cc1:=E5 (ac a j).lo (ac b j).lo hX.1
  rw [aO c2] at cc1
  refine ax (cc1) ?_
  simp only [go_sem,aO h1,aD c1]
  refine ⟨by omega,h1,by omega,hjb,?_⟩
  have cc2:=fc (ac a j).b (ac b j).b hX.2
  rw [aQ c3] at cc2
  refine ax (cc2) ?_
  simp only [go_sem,aO h1,aD c1]
  exact aj
 have h2:ac a j=ac b j:=by
  generalize ac a j=X at *
  generalize ac b j=Y at *
  obtain ⟨x0,x1,x2⟩:=X
  obtain ⟨y0,y1,y2⟩:=Y
  simp only at c1 c2 c3
  simp only [c1,c2,c3]
 simp only [go_sem,aO h1,aD c1]
 refine ⟨by omega,h1,by omega,hjb,?_⟩
 refine ⟨by omega,h1,by omega,hjb,?_⟩
 have cc1:=E5 (ac a j).lo (ac b j).lo hX.1
 rw [aO c2] at cc1
 refine ax (cc1) ?_
 simp only [go_sem,aO h1,aD c1]
 refine ⟨by omega,h1,by omega,hjb,?_⟩
 have cc2:=fc (ac a j).b (ac b j).b hX.2
 rw [aO c3] at cc2
 refine ax (cc2) ?_
 simp only [go_sem,aO h1,aD c1]
 refine aG (j+1) ⟨show j+1≤a.length by omega,fun k hk=>?_⟩ (show a.length - (j+1)<a.length - j by omega) (Wk.of ?_ ?_)
 ·rcases fX k j with h | h
  ·exact hx k h
  ·rw [show k=j by omega];exact h2
 ·simp only [go_sem,e8];try simp
 ·simp only [go_sem]
theorem Y2 (a b:List Gd) (ha:a.length≤9223372036854775807∧∀x∈a,adW x):ao pg vY [.sl 3 (a.map yd),.sl 3 (b.map yd)] (.bool (decide (a=b))):=by
 refine aL iS ?_
 by_cases hl:(a.length:Int)=(b.length:Int)
 rotate_left
 ·rw [aQ (fun h=>hl (by rw [h]))]
  simp only [go_sem,iS,bv hl]
  exact aj
 simp only [go_sem,iS,aD hl]
 refine aw (fun j:Nat=>⟨[(5,.int .i64 j),(0,.sl 3 (a.map yd)),(1,.sl 3 (b.map yd))],[]⟩) (fun j=>j≤a.length∧∀k,k<j→ac a k=ac b k) (fun j=>a.length - j) 0 ⟨cX _,fun k hk=>by omega⟩ (Wk.of ?_ ?_) ?_
 ·simp only [go_sem];try simp
 ·simp only [go_sem]
 rintro j ⟨hj,hx⟩
 by_cases h1:(j:Int)<(a.length:Int)
 rotate_left
 ·rw [aO (kX (by omega) fun k hk=>hx k (by omega))]
  simp only [go_sem,aQ h1]
  exact aj
 have hj':j<a.length:=by omega
 have hjb:(j:Int)<(b.length:Int):=by omega
 have e8:=dz hj' (by omega)
 obtain ⟨ha,hs⟩:=ha
 have hX:=eT hs hj'
 clear hs
 have neq:ac a j≠ac b j→decide (a=b)=false:=fun h=>aQ (fun e=>h (by rw [e]))
 by_cases c1:(ac a j).g=(ac b j).g
 rotate_left
 ·rw [neq (fun e=>c1 (by rw [e]))]
  simp only [go_sem,aO h1,J3,aQ c1,dh,cD]
  refine ⟨by omega,h1,by omega,hjb,?_⟩
  exact aj
 by_cases c2:(ac a j).i=(ac b j).i
 rotate_left
 ·rw [neq (fun e=>c2 (by rw [e]))]
  simp only [go_sem,aO h1,J3,aO c1,dh,cD]
  refine ⟨by omega,h1,by omega,hjb,?_⟩
  refine ⟨by omega,h1,by omega,hjb,?_⟩
  have cc1:=fc (ac a j).i (ac b j).i hX
  rw [aQ c2] at cc1
  refine ax (cc1) ?_
  simp only [go_sem,aO h1,J3,aO c1,dh,cD]
  exact aj
 have h2:ac a j=ac b j:=by
  generalize ac a j=X at *
  generalize ac b j=Y at *
  obtain ⟨x0,x1⟩:=X
  obtain ⟨y0,y1⟩:=Y
  simp only at c1 c2
  simp only [c1,c2]
 simp only [go_sem,aO h1,J3,aO c1,dh,cD]
 refine ⟨by omega,h1,by omega,hjb,?_⟩
 refine ⟨by omega,h1,by omega,hjb,?_⟩
 have cc1:=fc (ac a j).i (ac b j).i hX
 rw [aO c2] at cc1
 refine ax (cc1) ?_
 simp only [go_sem,aO h1,J3,aO c1,dh,cD]
 refine aG (j+1) ⟨show j+1≤a.length by omega,fun k hk=>?_⟩ (show a.length - (j+1)<a.length - j by omega) (Wk.of ?_ ?_)
 ·rcases fX k j with h | h
  ·exact hx k h
  ·rw [show k=j by omega];exact h2
 ·simp only [go_sem,e8];try simp
 ·simp only [go_sem]
theorem Y0 (a b:List Cu) (ha:a.length≤9223372036854775807):ao pg vW [.sl 3 (a.map zK),.sl 3 (b.map zK)] (.bool (decide (a=b))):=by
 refine aL iQ ?_
 by_cases hl:(a.length:Int)=(b.length:Int)
 rotate_left
 ·rw [aQ (fun h=>hl (by rw [h]))]
  simp only [go_sem,iQ,bv hl]
  exact aj
 simp only [go_sem,iQ,aD hl]
 refine aw (fun j:Nat=>⟨[(5,.int .i64 j),(0,.sl 3 (a.map zK)),(1,.sl 3 (b.map zK))],[]⟩) (fun j=>j≤a.length∧∀k,k<j→ac a k=ac b k) (fun j=>a.length - j) 0 ⟨cX _,fun k hk=>by omega⟩ (Wk.of ?_ ?_) ?_
 ·simp only [go_sem];try simp
 ·simp only [go_sem]
 rintro j ⟨hj,hx⟩
 by_cases h1:(j:Int)<(a.length:Int)
 rotate_left
 ·rw [aO (kX (by omega) fun k hk=>hx k (by omega))]
  simp only [go_sem,aQ h1]
  exact aj
 have hj':j<a.length:=by omega
 have hjb:(j:Int)<(b.length:Int):=by omega
 have e8:=dz hj' (by omega)
 have neq:ac a j≠ac b j→decide (a=b)=false:=fun h=>aQ (fun e=>h (by rw [e]))
 by_cases c1:(ac a j).af=(ac b j).af
 rotate_left
 ·rw [neq (fun e=>c1 (by rw [e]))]
  simp only [go_sem,aO h1,bv c1]
  refine ⟨by omega,h1,by omega,hjb,?_⟩
  exact aj
 by_cases c2:(ac a j).n=(ac b j).n
 rotate_left
 ·rw [neq (fun e=>c2 (by rw [e]))]
  simp only [go_sem,aO h1,aD c1,bst c2,dh,cD]
  refine ⟨by omega,h1,by omega,hjb,?_⟩
  refine ⟨by omega,h1,by omega,hjb,?_⟩
  exact aj
 by_cases c3:(ac a j).b=(ac b j).b
 rotate_left
 ·rw [neq (fun e=>c3 (by rw [e]))]
  simp only [go_sem,aO h1,aD c1,bsf c2,dh,cD,fP,ii,bst c3,dh,cD]
  refine ⟨by omega,h1,by omega,hjb,?_⟩
  refine ⟨by omega,h1,by omega,hjb,?_⟩
  refine ⟨by omega,h1,by omega,hjb,?_⟩
  exact aj
 have h2:ac a j=ac b j:=by
  generalize ac a j=X at *
  generalize ac b j=Y at *
  obtain ⟨x0,x1,x2⟩:=X
  obtain ⟨y0,y1,y2⟩:=Y
  simp only at c1 c2 c3
  simp only [c1,c2,c3]
 simp only [go_sem,aO h1,aD c1,bsf c2,dh,cD,fP,ii,bsf c3,dh,cD]
 refine ⟨by omega,h1,by omega,hjb,?_⟩
 refine ⟨by omega,h1,by omega,hjb,?_⟩
 refine ⟨by omega,h1,by omega,hjb,?_⟩
 refine aG (j+1) ⟨show j+1≤a.length by omega,fun k hk=>?_⟩ (show a.length - (j+1)<a.length - j by omega) (Wk.of ?_ ?_)
 ·rcases fX k j with h | h
  ·exact hx k h
  ·rw [show k=j by omega];exact h2
 ·simp only [go_sem,e8];try simp
 ·simp only [go_sem]
end
section
attribute [local go_sem] di dw dd dY dt db sA fS fR fp eW iH aW
theorem ads (a b:List Da) (ha:a.length≤9223372036854775807∧∀x∈a,Zm x):ao pg yr [.sl 4 (a.map lO),.sl 4 (b.map lO)] (.bool (decide (a=b))):=by
 refine aL jX ?_
 by_cases hl:(a.length:Int)=(b.length:Int)
 rotate_left
 ·rw [aQ (fun h=>hl (by rw [h]))]
  simp only [go_sem,jX,bv hl]
  exact aj
 simp only [go_sem,jX,aD hl]
 refine aw (fun j:Nat=>⟨[(5,.int .i64 j),(0,.sl 4 (a.map lO)),(1,.sl 4 (b.map lO))],[]⟩) (fun j=>j≤a.length∧∀k,k<j→ac a k=ac b k) (fun j=>a.length - j) 0 ⟨cX _,fun k hk=>by omega⟩ (Wk.of ?_ ?_) ?_
 ·simp only [go_sem];try simp
 ·simp only [go_sem]
 rintro j ⟨hj,hx⟩
 by_cases h1:(j:Int)<(a.length:Int)
 rotate_left
 ·rw [aO (kX (by omega) fun k hk=>hx k (by omega))]
  simp only [go_sem,aQ h1]
  exact aj
 have hj':j<a.length:=by omega
 have hjb:(j:Int)<(b.length:Int):=by omega
 have e8:=dz hj' (by omega)
 obtain ⟨ha,hs⟩:=ha
 have hX:=eT hs hj'
 clear hs
 have neq:ac a j≠ac b j→decide (a=b)=false:=fun h=>aQ (fun e=>h (by rw [e]))
 by_cases c1:(ac a j).mo=(ac b j).mo
 rotate_left
 ·rw [neq (fun e=>c1 (by rw [e]))]
  simp only [go_sem,aO h1,bv c1]
  refine ⟨by omega,h1,by omega,hjb,?_⟩
  exact aj
 by_cases c2:(ac a j).me=(ac b j).me
 rotate_left
 ·rw [neq (fun e=>c2 (by rw [e]))]
  simp only [go_sem,aO h1,aD c1,bv c2]
  refine ⟨by omega,h1,by omega,hjb,?_⟩
  exact aj
 by_cases c3:(ac a j).o=(ac b j).o
 rotate_left
 ·rw [neq (fun e=>c3 (by rw [e]))]
  simp only [go_sem,aO h1,aD c1,aD c2]
  refine ⟨by omega,h1,by omega,hjb,?_⟩
  have cc2:=fc (ac a j).o (ac b j).o hX.1
  rw [aQ c3] at cc2
  refine ax (cc2) ?_
  simp only [go_sem,aO h1,aD c1,aD c2]
  exact aj
 by_cases c4:(ac a j).b=(ac b j).b
 rotate_left
 ·rw [neq (fun e=>c4 (by rw [e]))]
  simp only [go_sem,aO h1,aD c1,aD c2,fP,ii,bst c4,dh,cD]
  refine ⟨by omega,h1,by omega,hjb,?_⟩
  have cc2:=fc (ac a j).o (ac b j).o hX.1
  rw [aO c3] at cc2
  refine ax (cc2) ?_
  simp only [go_sem,aO h1,aD c1,aD c2,fP,ii,bst c4,dh,cD]
  exact aj
 have h2:ac a j=ac b j:=by
  generalize ac a j=X at *
  generalize ac b j=Y at *
  obtain ⟨x0,x1,x2,x3⟩:=X
  obtain ⟨y0,y1,y2,y3⟩:=Y
  simp only at c1 c2 c3 c4
  simp only [c1,c2,c3,c4]
 simp only [go_sem,aO h1,aD c1,aD c2,fP,ii,bsf c4,dh,cD]
 refine ⟨by omega,h1,by omega,hjb,?_⟩
 have cc2:=fc (ac a j).o (ac b j).o hX.1
 rw [aO c3] at cc2
 refine ax (cc2) ?_
 simp only [go_sem,aO h1,aD c1,aD c2,fP,ii,bsf c4,dh,cD]
 refine aG (j+1) ⟨show j+1≤a.length by omega,fun k hk=>?_⟩ (show a.length - (j+1)<a.length - j by omega) (Wk.of ?_ ?_)
 ·rcases fX k j with h | h
  ·exact hx k h
  ·rw [show k=j by omega];exact h2
 ·simp only [go_sem,e8];try simp
 ·simp only [go_sem]
theorem Y1 (a b:List El) (ha:a.length≤9223372036854775807∧∀x∈a,Zn x):ao pg yt [.sl 5 (a.map gP),.sl 5 (b.map gP)] (.bool (decide (a=b))):=by
 refine aL jY ?_
 by_cases hl:(a.length:Int)=(b.length:Int)
 rotate_left
 ·rw [aQ (fun h=>hl (by rw [h]))]
  simp only [go_sem,jY,bv hl]
  exact aj
 simp only [go_sem,jY,aD hl]
 refine aw (fun j:Nat=>⟨[(5,.int .i64 j),(0,.sl 5 (a.map gP)),(1,.sl 5 (b.map gP))],[]⟩) (fun j=>j≤a.length∧∀k,k<j→ac a k=ac b k) (fun j=>a.length - j) 0 ⟨cX _,fun k hk=>by omega⟩ (Wk.of ?_ ?_) ?_
 ·simp only [go_sem];try simp
 ·simp only [go_sem]
 rintro j ⟨hj,hx⟩
 by_cases h1:(j:Int)<(a.length:Int)
 rotate_left
 ·rw [aO (kX (by omega) fun k hk=>hx k (by omega))]
  simp only [go_sem,aQ h1]
  exact aj
 have hj':j<a.length:=by omega
 have hjb:(j:Int)<(b.length:Int):=by omega
 have e8:=dz hj' (by omega)
 obtain ⟨ha,hs⟩:=ha
 have hX:=eT hs hj'
 clear hs
 have neq:ac a j≠ac b j→decide (a=b)=false:=fun h=>aQ (fun e=>h (by rw [e]))
 by_cases c1:(ac a j).mo=(ac b j).mo
 rotate_left
 ·rw [neq (fun e=>c1 (by rw [e]))]
  simp only [go_sem,aO h1,bv c1]
  refine ⟨by omega,h1,by omega,hjb,?_⟩
  exact aj
 by_cases c2:(ac a j).tb=(ac b j).tb
 rotate_left
 ·rw [neq (fun e=>c2 (by rw [e]))]
  simp only [go_sem,aO h1,aD c1,bv c2]
  refine ⟨by omega,h1,by omega,hjb,?_⟩
  exact aj
 by_cases c3:(ac a j).ty=(ac b j).ty
 rotate_left
 ·rw [neq (fun e=>c3 (by rw [e]))]
  simp only [go_sem,aO h1,aD c1,aD c2,bv c3]
  refine ⟨by omega,h1,by omega,hjb,?_⟩
  exact aj
 by_cases c4:(ac a j).o=(ac b j).o
 rotate_left
 ·rw [neq (fun e=>c4 (by rw [e]))]
  simp only [go_sem,aO h1,aD c1,aD c2,aD c3]
  refine ⟨by omega,h1,by omega,hjb,?_⟩
  have cc3:=fc (ac a j).o (ac b j).o hX.1
  rw [aQ c4] at cc3
  refine ax (cc3) ?_
  simp only [go_sem,aO h1,aD c1,aD c2,aD c3]
  exact aj
 by_cases c5:((ac a j).it.length:Int)=((ac b j).it.length:Int)
 rotate_left
 ·rw [neq (fun e=>c5 (by rw [e]))]
  simp only [go_sem,aO h1,aD c1,aD c2,aD c3,bv c5]
  refine ⟨by omega,h1,by omega,hjb,?_⟩
  have cc3:=fc (ac a j).o (ac b j).o hX.1
  rw [aO c4] at cc3
  refine ax (cc3) ?_
  simp only [go_sem,aO h1,aD c1,aD c2,aD c3,bv c5]
  exact aj
 simp only [go_sem,aO h1,aD c1,aD c2,aD c3,aD c5]
 refine ⟨by omega,h1,by omega,hjb,?_⟩
 have cc3:=fc (ac a j).o (ac b j).o hX.1
 rw [aO c4] at cc3
 refine ax (cc3) ?_
 simp only [go_sem,aO h1,aD c1,aD c2,aD c3,aD c5]
 have hi3:=hX.2.2
 have hi2:=hX.2.1
 refine aw (fun q:Nat=>⟨[(8,.int .i64 q),(6,.mp 6 5 0 0),(7,.mp 7 5 0 0),(5,.int .i64 j),(0,.sl 5 (a.map gP)),(1,.sl 5 (b.map gP))],[(6,⟨112,5,[[.int .i64 (ac a j).mo,.int .i64 (ac a j).tb,.sl 9 ((ac a j).o.map aW),.int .i64 (ac a j).ty,.sl 1 ((ac a j).it.map oU)]],true⟩),(7,⟨112,5,[[.int .i64 (ac b j).mo,.int .i64 (ac b j).tb,.sl 9 ((ac b j).o.map aW),.int .i64 (ac b j).ty,.sl 1 ((ac b j).it.map oU)]],true⟩)]⟩) (fun q=>q≤(ac a j).it.length∧∀k,k<q→ac (ac a j).it k=ac (ac b j).it k) (fun q=>(ac a j).it.length - q) 0 ⟨cX _,fun k hk=>by omega⟩ (Wk.of ?_ ?_) ?_
 ·simp only [go_sem];try simp
 ·simp only [go_sem]
 rintro q ⟨hq,hy⟩
 by_cases q1:(q:Int)<((ac a j).it.length:Int)
 ·have hq':q<(ac a j).it.length:=by omega
  have hqb:(q:Int)<((ac b j).it.length:Int):=by omega
  have e9:=dz hq' (by omega)
  have hL:=eT hi3 hq'
  have cd:=fc (ac (ac a j).it q) (ac (ac b j).it q) hL
  by_cases q2:ac (ac a j).it q=ac (ac b j).it q
  ·rw [aO q2] at cd
   simp only [go_sem,aO q1]
   refine ⟨by omega,q1,by omega,hqb,?_⟩
   refine aa (cd) ?_
   refine aG (q+1) ⟨show q+1≤(ac a j).it.length by omega,fun k hk=>?_⟩ (show (ac a j).it.length - (q+1)<(ac a j).it.length - q by omega) (Wk.of ?_ ?_)
   ·rcases fX k q with h | h
    ·exact hy k h
    ·rw [show k=q by omega];exact q2
   ·simp only [go_sem,e9];try simp
   ·simp only [go_sem]
  ·rw [aQ q2] at cd
   rw [neq (fun e=>q2 (by rw [e]))]
   simp only [go_sem,aO q1]
   refine ⟨by omega,q1,by omega,hqb,?_⟩
   refine aa (cd) ?_
   exact aj
 have c6:(ac a j).it=(ac b j).it:=kX (by omega) fun k hk=>hy k (by omega)
 have h2:ac a j=ac b j:=by
  generalize ac a j=X at *
  generalize ac b j=Y at *
  obtain ⟨x1,x2,x3,x4,x5⟩:=X
  obtain ⟨y1,y2,y3,y4,y5⟩:=Y
  simp only at c1 c2 c3 c4 c6
  simp only [c1,c2,c3,c4,c6]
 simp only [go_sem,aQ q1]
 refine aG (j+1) ⟨show j+1≤a.length by omega,fun k hk=>?_⟩ (show a.length - (j+1)<a.length - j by omega) (Wk.of ?_ ?_)
 ·rcases fX k j with h | h
  ·exact hx k h
  ·rw [show k=j by omega];exact h2
 ·simp only [go_sem,e8];try simp
 ·simp only [go_sem]
end
end Go.Proofs.YtdfofedlbljnhaaGreatDoor