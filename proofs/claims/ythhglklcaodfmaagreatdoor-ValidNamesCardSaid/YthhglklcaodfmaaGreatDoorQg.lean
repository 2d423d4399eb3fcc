import Derived.Test.YthhglklcaodfmaaGreatDoorQf
set_option linter.all false
set_option maxRecDepth 100000
set_option maxHeartbeats 40000000
namespace Go.Proofs.YthhglklcaodfmaaGreatDoor
open Go Go.Mw
section
variable (n:Int) (b:List UInt8) (a:Nat) (e:Int) (b2:List UInt8) (a2:Nat) (e2:Int) (hn:-9223372036854775808≤n∧n<9223372036854775808) (ha:a≤b.length) (hb:b.length<1000000000) (ha2:a2≤b2.length) (hb2:b2.length<1000000000)
include hn ha hb ha2 hb2
end
def ace (x:Int×Int):List AV:=[.int .i64 x.1,.int .i64 x.2]
theorem Wx (x:Int×Int):ace x=[.int .i64 x.1,.int .i64 x.2]:=rfl
attribute [go_sem] Wx
theorem i64_in (x:Int):YO (IntKind.i64.wrap x):=by unfold YO;rw [abC];omega
section
variable (m:Bool) (l:List UInt8) (e:Int) (hl:l.length<50000000000)
include hl
end
section
variable (l:List UInt8) (e:Int) (hl:l.length<45000000000)
include hl
end
structure Nm where
 i:Int
 s:List UInt8
instance:Inhabited Nm:=⟨⟨0,[]⟩⟩
deriving instance DecidableEq for Nm
structure Lc where
 f:Int
 l:List Nm
instance:Inhabited Lc:=⟨⟨0,[]⟩⟩
deriving instance DecidableEq for Lc
structure Ns where
 m:List UInt8
 fs:List Nm
 ls:List Lc
instance:Inhabited Ns:=⟨⟨[],[],[]⟩⟩
deriving instance DecidableEq for Ns
def nm_ (n:Nm):List AV:=[.int .i64 n.i,.str n.s]
def lc_ (x:Lc):List AV:=[.int .i64 x.f,.sl 2 (x.l.map nm_)]
def nsC (x:Ns):List AV:=[.str x.m,.sl 2 (x.fs.map nm_),.sl 2 (x.ls.map lc_)]
def ns_ (x:Ns):AV:=.agg (nsC x)
theorem afx (n:Nm):nm_ n=[.int .i64 n.i,.str n.s]:=rfl
theorem aeo (x:Lc):lc_ x=[.int .i64 x.f,.sl 2 (x.l.map nm_)]:=rfl
theorem afy (x:Ns):ns_ x = .agg [.str x.m,.sl 2 (x.fs.map nm_),.sl 2 (x.ls.map lc_)]:=rfl
attribute [go_sem] afx aeo afy
def vN (i:Int):Bool:=decide (0≤i)&&decide (i<4294967296)
def t8 (l:List Nm):Int:=match l.getLast? with
 | some n=>n.i
 | none=>0
def fnd:List Nm→Int→List UInt8
 | [],_=>[]
 | n :: r,i=>if n.i=i then n.s else fnd r i
theorem fc {α:Type} [Inhabited α] {l:List α} {i:Nat} (h:i<l.length):l.drop i=au l i :: l.drop (i+1):=by
 rw [aX h,List.drop_eq_getElem_cons h]
theorem Cj {α:Type} [Inhabited α] {l:List α} {i:Nat} (h:i<l.length):l.take (i+1)=l.take i++[au l i]:=by rw [List.take_add_one,di h,Option.toList_some]
theorem bY {α:Type} {l:List α} {i:Nat} (h:l.length≤i):l.drop i=[]:=List.drop_eq_nil_of_le h
deriving instance DecidableEq for bv,Ft,Lm,Gl,Im,Cd,Tb,Gd,Ex,El,Da,Cu,Md
theorem ep {j n:Nat} (h:j<n) (hn:n≤9223372036854775807):IntKind.i64.wrap ((j:Int)+1)=(j:Int)+1:=wi (by omega) (by omega)
theorem TN {α:Type} [Inhabited α] {a b:List α} (hl:a.length=b.length) (h:∀k,k<a.length→au a k=au b k):a=b:=by
 apply List.ext_getElem hl
 intro i h1 h2
 have:=h i h1
 rwa [aX h1,aX h2] at this
section
theorem z8 {x y:Im}:((x.m==y.m)&&((x.n==y.n)&&((x.k==y.k)&&((x.f==y.f)&&((x.te==y.te)&&((x.tl.mn==y.tl.mn)&&((x.tl.mx==y.tl.mx)&&((x.tl.hs==y.tl.hs)&&((x.me.mn==y.me.mn)&&((x.me.mx==y.me.mx)&&((x.me.hs==y.me.hs)&&((x.g.v==y.g.v)&&(x.g.mu==y.g.mu)))))))))))))=decide (x=y):=by
 obtain ⟨a1,a2,a3,a4,a5,⟨a6,a7,a8⟩,⟨a9,a10,a11⟩,⟨a12,a13⟩⟩:=x
 obtain ⟨b1,b2,b3,b4,b5,⟨b6,b7,b8⟩,⟨b9,b10,b11⟩,⟨b12,b13⟩⟩:=y
 rw [Bool.eq_iff_iff]
 simp only [dV,beq_iff_eq,qc,Im.mk.injEq,Lm.mk.injEq,Gl.mk.injEq,and_assoc]
attribute [local go_sem] bT aY cw df bO b_ kK dy eB dx dB cD
end
end Go.Proofs.YthhglklcaodfmaaGreatDoor