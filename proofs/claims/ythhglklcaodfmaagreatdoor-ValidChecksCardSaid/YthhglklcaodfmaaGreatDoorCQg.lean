import Derived.Test.YthhglklcaodfmaaGreatDoorCQf
set_option linter.all false
set_option maxRecDepth 100000
set_option maxHeartbeats 40000000
namespace Go.Proofs.YthhglklcaodfmaaGreatDoor
open Go Go.Mw
section
variable(n:Int)(b:List UInt8)(a:Nat)(e:Int)(b2:List UInt8)(a2:Nat)(e2:Int)(hn:-9223372036854775808<=n/\n<9223372036854775808)(ha:a<=b.length)(hb:b.length<1000000000)(ha2:a2<=b2.length)(hb2:b2.length<1000000000)
include hn ha hb ha2 hb2
end
def akx(x:Int×Int):List AV:=[.int .i64 x.1,.int .i64 x.2]
def ahm(x:Int×Int):akx x=[.int .i64 x.1,.int .i64 x.2]:=rfl
attribute[go_sem] ahm
def i64_in(x:Int):inI (IntKind.i64.wrap x):=by unfold inI;rw[aj9];omega
section
variable(m:Bool)(l:List UInt8)(e:Int)(hl:l.length<50000000000)
include hl
end
def wx(l:List UInt8)(e:Int):AV:=.agg [.sl 1 (l.map TC),.int .i64 e]
section
variable(l:List UInt8)(e:Int)(hl:l.length<45000000000)
include hl
end
structure Nm where
 i:Int
 s:List UInt8
instance:Inhabited Nm:=⟨⟨0,[]⟩⟩
deriving instance DecidableEq for Nm
structure Lc where
 f:Int
 l:List Nm
instance:Inhabited Lc:=⟨⟨0,[]⟩⟩
deriving instance DecidableEq for Lc
structure Ns where
 m:List UInt8
 fs:List Nm
 ls:List Lc
instance:Inhabited Ns:=⟨⟨[],[],[]⟩⟩
deriving instance DecidableEq for Ns
def nm_(n:Nm):List AV:=[.int .i64 n.i,.str n.s]
def lc_(x:Lc):List AV:=[.int .i64 x.f,.sl 2 (x.l.map nm_)]
def nsC(x:Ns):List AV:=[.str x.m,.sl 2 (x.fs.map nm_),.sl 2 (x.ls.map lc_)]
def ns_(x:Ns):AV:=.agg (nsC x)
def alg(n:Nm):nm_ n=[.int .i64 n.i,.str n.s]:=rfl
def ak9(x:Lc):lc_ x=[.int .i64 x.f,.sl 2 (x.l.map nm_)]:=rfl
def ali(x:Ns):ns_ x = .agg [.str x.m,.sl 2 (x.fs.map nm_),.sl 2 (x.ls.map lc_)]:=rfl
attribute[go_sem] alg ak9 ali
def re(i:Int):Bool:=decide (0<=i)&&decide (i<4294967296)
def D1(l:List Nm):Int:=match l.getLast? with
 | some n=>n.i
 | none=>0
def fnd:List Nm->Int->List UInt8
 | [],_=>[]
 | n::r,i=>if n.i=i then n.s else fnd r i
def dV{α:Type}[Inhabited α]{l:List α}{i:Nat}(h:i<l.length):l.drop i=av l i::l.drop (i+1):=by
 rw[aY h,aka h]
def Fm{α:Type}[Inhabited α]{l:List α}{i:Nat}(h:i<l.length):l.take (i+1)=l.take i++[av l i]:=by rw[H1,md h,H0]
def a_{α:Type}{l:List α}{i:Nat}(h:l.length<=i):l.drop i=[]:=XV h
deriving instance DecidableEq for bj,Ft,Lm,Gl,Im,Cd,Tb,Gd,Ex,El,Da,Cu,Md
def cK{j n:Nat}(h:j<n)(hn:n<=9223372036854775807):IntKind.i64.wrap ((j:Int)+1)=(j:Int)+1:=wi (by omega) (by omega)
def T9{α:Type}[Inhabited α]{a b:List α}(hl:a.length=b.length)(h:∀k,k<a.length->av a k=av b k):a=b:=by
 apply List.ext_getElem hl;intro i h1 h2;have:=h i h1;rwa[aY h1,aY h2]at this
section
def KJ{x y:Im}:((x.m==y.m)&&((x.n==y.n)&&((x.k==y.k)&&((x.f==y.f)&&((x.te==y.te)&&((x.tl.mn==y.tl.mn)&&((x.tl.mx==y.tl.mx)&&((x.tl.hs==y.tl.hs)&&((x.me.mn==y.me.mn)&&((x.me.mx==y.me.mx)&&((x.me.hs==y.me.hs)&&((x.g.v==y.g.v)&&(x.g.mu==y.g.mu)))))))))))))=decide (x=y):=by
 obtain⟨a1,a2,a3,a4,a5,⟨a6,a7,a8⟩,⟨a9,a10,a11⟩,⟨a12,a13⟩⟩:=x;obtain⟨b1,b2,b3,b4,b5,⟨b6,b7,b8⟩,⟨b9,b10,b11⟩,⟨b12,b13⟩⟩:=y;rw[xJ];simp only[dX,beq_iff_eq,ol,Im.mk.injEq,Lm.mk.injEq,Gl.mk.injEq,and_assoc]
attribute[local go_sem] bY aW du eY bT cX nP fM iQ fY bV cQ
def agd(a b:List Int)(ha:a.length<=9223372036854775807):aj pg AW [.sl 1 (a.map aS),.sl 1 (b.map aS)] (.bool (decide (a=b))):=by
 refine ao lj ?_;by_cases hl:(a.length:Int)=(b.length:Int);rotate_left
 .rw[aI (λh=>hl (by rw[h]))];simp only[go_sem,lj,aE hl];exact ah
 simp only[go_sem,lj,ay hl];refine aA (λj:Nat=>⟨[(5,.int .i64 j),(0,.sl 1 (a.map aS)),(1,.sl 1 (b.map aS))],[]⟩) (λj=>j<=a.length/\∀k,k<j->av a k=av b k) (λj=>a.length-j) 0 ⟨dx _,λk hk=>by omega⟩ (Wk.of ?_ ?_) ?_
 .simp only[go_sem];try simp
 .simp only[go_sem]
 rintro j ⟨hj,hx⟩;by_cases h1:(j:Int)<(a.length:Int);rotate_left
 .rw[aF (T9 (by omega) λk hk=>hx k (by omega))];simp only[go_sem,aI h1];exact ah
 have hj':j<a.length:=by omega
 have hjb:(j:Int)<(b.length:Int):=by omega
 have e8:=cK hj' (by omega);have neq:av a j≠av b j->decide (a=b)=false:=λh=>aI (λe=>h (by rw[e]));by_cases h2:av a j=av b j
 .simp only[go_sem,aF h1,ay h2];refine⟨by omega,h1,by omega,hjb,aH (j+1) ⟨show j+1<=a.length by omega,λk hk=>?_⟩ (show a.length-(j+1)<a.length-j by omega) (Wk.of ?_ ?_)⟩
  .rcases kU k j with h|h
   .exact hx k h
   .rw[show k=j by omega];exact h2
  .simp only[go_sem,e8];try simp
  .simp only[go_sem]
 .rw[neq h2];simp only[go_sem,aF h1,aE h2];refine⟨by omega,h1,by omega,hjb,?_⟩;exact ah
