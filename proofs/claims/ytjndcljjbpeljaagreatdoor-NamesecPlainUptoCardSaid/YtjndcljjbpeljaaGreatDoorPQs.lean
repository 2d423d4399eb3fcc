import Derived.Test.YtjndcljjbpeljaaGreatDoorPQr
set_option linter.all false
set_option maxRecDepth 100000
set_option maxHeartbeats 40000000
namespace Go.Proofs.YtjndcljjbpeljaaGreatDoor
open Go Go.Mw
def kI {α:Type} (g:α→Nat) (l:List α):Nat:=(l.map g).sum
theorem qm {α:Type} (g:α→Nat) (x:α) (l:List α):kI g (x :: l)=g x+kI g l:=by simp [kI]
theorem na {α:Type} {f:α→List UInt8} {g:α→Nat} {c:Nat}:∀(l:List α),(∀x∈l,(f x).length≤c+400 * g x)→(l.flatMap f).length≤c * l.length+400 * kI g l
 | [],_=>by simp [kI]
 | x :: l,h=>by
  have h1:=na (g:=g) (c:=c) l fun y hy=>h y (by simp [hy])
  have:=h x (by simp)
  rw [lY,aJ,aQ,qm,Nat.mul_add,Nat.mul_add]
  omega
def QJ (x:El):Nat:=x.o.length+kI List.length x.it
def nI (m:Md):Nat:=kI (fun x:Cd=>x.b.length) m.fs+kI (fun x:Gd=>x.i.length) m.gs+kI QJ m.els+kI (fun x:Da=>x.o.length) m.ds
theorem fE {α:Type} {f:α→List UInt8} {l:List α} {n k:Nat} (h:(l.flatMap f).length≤k) (hl:l.length<4294967296):(bT f l).length≤k+5:=by
 have:=be hl
 unfold bT
 rw [aJ]
 omega
theorem zQ {x:Ft} (h:qF x=0):(nR x).length≤40:=by
 obtain ⟨h1,h2,_,_⟩:=K_ h
 have a:=fE (n:=0) (kq (f:=gS) (n:=1) x.ps fun _ _=>bj _) (by omega)
 have b:=fE (n:=0) (kq (f:=gS) (n:=1) x.rs fun _ _=>bj _) (by omega)
 unfold nR
 simp only [aQ,aJ]
 omega
theorem m8 {y:Lm} (h:Ar y):(i6 y).length≤11:=by
 obtain ⟨h1,h2,_⟩:=h
 have a:=be (n:=y.mn.toNat) (by omega)
 unfold i6
 cases hh:y.hs
 ·simp;omega
 ·have:=h2 hh
  have b:=be (n:=y.mx.toNat) (by omega)
  simp;omega
theorem rJ {x:Tb} (h:uc x=0):(mb x).length≤12:=by
 have:=m8 (LI h).2
 unfold mb gS
 simp;omega
theorem rG (g:Gl):(rF g).length≤2:=by simp [rF,gS]
theorem tu {s:List UInt8} (h:fk s=0):s.length≤64:=by
 unfold fk at h
 by_cases h1:s.length>64
 ·rw [aK h1] at h;cases h
 ·omega
theorem m9 {s:List UInt8} (h:fk s=0):(nT s).length≤69:=by
 have h1:=tu h
 have:=be (n:=s.length) (by omega)
 unfold nT
 rw [aJ];omega
theorem zS {x:Im} (h:uU x=0):(nS x).length≤200:=by
 obtain ⟨h1,h2,h3,_,h5,h6,h7,h8⟩:=Li h
 have a:=m9 h1
 have b:=m9 h2
 unfold nS
 simp only [aJ,jP]
 rcases (show x.k=0∨x.k=1∨x.k=2∨x.k=3 by omega) with q | q | q | q
 ·have:=be (n:=x.f.toNat) (by have:=eu.1 (h5 q);omega)
  rw [aK q];omega
 ·have:=rJ (h6 q)
  rw [aD (by omega),aK q];omega
 ·have:=m8 (yw (h7 q))
  rw [aD (by omega),aD (by omega),aK q];omega
 ·have:=rG x.g
  rw [aD (by omega),aD (by omega),aD (by omega)];omega
theorem zP {x:Ex} (h:x7 x=0):(ph x).length≤80:=by
 obtain ⟨h1,h2,h3⟩:=K6 h
 have a:=m9 h1
 have:=be (n:=x.i.toNat) (by have:=eu.1 h3;omega)
 unfold ph
 simp only [aJ,jP]
 omega
theorem zR {x:Gd} (h:E6 x.i):(pi x).length≤2+400 * x.i.length:=by
 have a:=rG x.g
 have b:=gR x.i h
 unfold pi
 rw [aJ];omega
theorem zM {x:Cd} (h1:x.lo.length≤64) (h4:E6 x.b) (h5:x.b.length≤2048):(pg x).length≤800+400 * x.b.length:=by
 have h0:=rD h1 h4 h5
 have h2:=gR x.b h4
 have h3:=qj x.lo.length x.lo
 have h6:=kq (f:=iw) (n:=11) (fz x.lo) (fun p hp=>by
  have hp2:=gV (k:=9) (n:=p.1) (by
   have:p.1≤(zW (fz x.lo)).length:=by
    unfold zW
    obtain ⟨l1,l2,e⟩:=List.append_of_mem hp
    rw [e]
    simp only [List.flatMap_append,lY,aJ,List.length_replicate]
    omega
   unfold fz at this
   rw [m_ _ _ (bj _)] at this
   omega)
  unfold iw gS
  rw [aJ,jP]
  omega)
 have h7:=be (n:=(fz x.lo).length) (by unfold fz;omega)
 have h8:(fz x.lo).length≤64:=by unfold fz;omega
 have h9:=be (n:=(ll x).length) (by omega)
 unfold pg
 rw [aJ]
 unfold ll x6 bT at h9 ⊢
 simp only [aJ] at h9 ⊢
 omega
theorem zT {n:Nat} {l:List bz} (h1:n<4→oi l=true) (h3:E6 l):(eB n l).length≤5+400 * l.length:=by
 unfold eB
 by_cases q:n<4
 ·rw [aK q]
  obtain ⟨_,e2,e3⟩:=mi (h1 q) h3
  have:=be (n:=(ah l 0).a.toNat) (by omega)
  omega
 ·rw [aD q]
  have:=gR l h3
  omega
theorem zO {x:El} (h:AD mD x) (hn:vj x.o) (hn2:∀l∈x.it,vj l):(nQ x).length≤1400+400 * QJ x:=by
 obtain ⟨hB,ho,hi⟩:=h
 obtain ⟨b1,b2,b3,b4,b5⟩:=sV hB
 obtain ⟨f1,f2,f3,f4,f5,f6⟩:=DQ b1
 have hrf:dK x<4→∀l∈x.it,oi l=true:=fun q=>by
  have:=f5.1 q
  unfold fS at this
  rw [Bool.or_eq_false_iff,List.any_eq_false] at this
  intro l hl
  have:=this.2 l hl
  simpa using this
 have a1:=be (n:=dK x) (by omega)
 have a2:=be (n:=x.tb.toNat) (by have:=eu.1 b3;omega)
 have a3:=gR x.o (mA ho hn).1
 have a4:=fE (n:=0) (na (f:=eB (dK x)) (g:=List.length) (c:=5) x.it fun l hl=>zT (fun q=>hrf q l hl) (mA (hi l hl) (hn2 l hl)).1) (by omega)
 have a5:(if dK x % 4=2 then aA x.tb.toNat else []).length≤5:=by
  split
  ·exact a2
  ·exact cE _
 have a6:(if dK x % 2=0 then eA x.o else []).length≤400 * x.o.length:=by
  split
  ·exact a3
  ·exact cE _
 have a7:(if dK x % 4=0 then [] else if dK x<4 then [0] else gS x.ty).length≤1:=by split<;>(try split)<;>simp [gS]
 unfold nQ QJ
 simp only [aJ]
 omega
theorem zN {x:Da} (h:wZ mD x) (hn:vj x.o):(nP x).length≤4200+400 * x.o.length:=by
 obtain ⟨h4,h5,h6,h7⟩:=K0 h
 have a3:=gR x.o (mA h7 hn).1
 have a1:=be (n:=x.b.length) (by omega)
 have a2:=be (n:=x.me.toNat) (by have:=eu.1 h5;omega)
 have b0:=be (n:=0) (by decide)
 have b1:=be (n:=1) (by decide)
 have b2:=be (n:=2) (by decide)
 unfold nP
 split
 ·simp only [aJ];omega
 ·split
  ·simp only [aJ];omega
  ·simp only [aJ];omega
section
theorem yb {α:Type} [Inhabited α] {f:α→List UInt8} {l:List α} {i:Nat} (h:i<l.length):(l.take (i+1)).flatMap f=(l.take i).flatMap f++f (ah l i):=by
 rw [fv h,List.flatMap_append,List.flatMap_singleton]
theorem Is {α:Type} [Inhabited α] {f:α→List UInt8} {l:List α} {i:Nat} (h:i<l.length):((l.take i).flatMap f).length+(f (ah l i)).length≤(l.flatMap f).length:=by
 have e:l=l.take (i+1)++l.drop (i+1):=(List.take_append_drop _ _).symm
 have:=congrArg (fun l=>(l.flatMap f).length) e
 simp only [List.flatMap_append,aJ,yb h] at this
 omega
attribute [local go_sem] cY wo wa dE jr bG
end
theorem VR (t:Int):tS t=j8 t:=by
 unfold tS j8 Wd vC
 rw [Bool.eq_iff_iff]
 simp only [bY,jR,cP,beq_iff_eq]
 omega
theorem Px {x:bz} (h:PL x=true) (hb:x.lb.length≤64) (l:List UInt8):ky x l 0=(l++sW x,0):=by
 unfold ky
 rw [aK h,aD (by omega)]
 rfl
theorem LX {k:Int} (h:0≤k∧k≤3):IntKind.u8.wrap k=(((UInt8.ofNat k.toNat).toNat:Nat):Int):=by
 rw [qt,UInt8.toNat_ofNat']
 omega
theorem pz {bl:Nat→Option Nat} {M:Nat→Prop} {w:World} {v:Value} {x:AV} (h:bK bl M w v x) (h1:py x=true) (h2:uW x=false):IRel M w v x:=by
 cases x<;>first | (simp [py] at h1;done) | exact h | (simp [uW] at h2;done)
theorem nk0:((0:Nat):Int)=0:=rfl
theorem nk1:((1:Nat):Int)=1:=rfl
theorem nk2:((2:Nat):Int)=2:=rfl
theorem nk3:((3:Nat):Int)=3:=rfl
theorem nk4:((4:Nat):Int)=4:=rfl
theorem nk5:((5:Nat):Int)=5:=rfl
theorem nk6:((6:Nat):Int)=6:=rfl
theorem nk7:((7:Nat):Int)=7:=rfl
def ia (l:List Int):ao:=⟨3,1,l.map ri,false⟩
theorem gh (c:Prop) [Decidable c] (p:Int):(oH c p).length≤1:=by unfold oH;split<;>simp
theorem p6 (m:Md):(jI m).length≤12:=by
 rw [lR]
 simp only [aJ]
 have:=gh (m.ts.length>0) 1
 have:=gh (m.ims.length>0) 2
 have:=gh (m.fs.length>0) 3
 have:=gh (m.tbs.length>0) 4
 have:=gh (m.ms.length>0) 5
 have:=gh (m.gs.length>0) 6
 have:=gh (m.exs.length>0) 7
 have:=gh (m.hs=true) 8
 have:=gh (m.els.length>0) 9
 have:=gh (m.ds.length>0) 10
 have:=gh (m.fs.length>0) 11
 have:=gh (m.ds.length>0) 12
 omega
end Go.Proofs.YtjndcljjbpeljaaGreatDoor