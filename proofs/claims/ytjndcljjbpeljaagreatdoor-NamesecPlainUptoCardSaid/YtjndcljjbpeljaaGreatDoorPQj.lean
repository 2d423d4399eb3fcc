import Derived.Test.YtjndcljjbpeljaaGreatDoorPQh
set_option linter.all false
set_option maxRecDepth 100000
set_option maxHeartbeats 40000000
namespace Go.Proofs.YtjndcljjbpeljaaGreatDoor
section
open Go Go.Mw
theorem r7:nlm [.str [],.nl,.nl] (iU default):=⟨.inl rfl,.inr ⟨rfl,.inl ⟨2,rfl⟩⟩,.inr ⟨rfl,.inl ⟨2,rfl⟩⟩,trivial⟩
theorem xe {b:List UInt8} {a:Nat} {e:Int} (h:e≠0):iB true b a e=e:=by simp [iB,h]
theorem xa {n:Ns} {id:Nat} {x:List UInt8} {e:Int} (h:e≠0):(oq n id x e).2=e:=by
 have hb:(e==0)=false:=aN h
 unfold oq
 split
 ·simp only [hb,show fu false x 0 e=([],0,e) from rfl,xe h]
 ·split
  ·simp only [wE,hb,show bH false x 0 e 64=(0,0,e) from rfl,s9 (.inl h),xe h]
  ·simp only [Iy,hb,show bH false x 0 e 64=(0,0,e) from rfl,s8 (.inl h),xe h]
theorem H3 {f:Nat} {b:List UInt8} {a:Nat} {l:Int} {n:Ns} (h:b.length≤a):Bb f b a l n=(n,0):=by
 cases f with
 | zero=>rfl
 | succ f=>rw [Bb,aK h]
theorem S1 {f:Nat} {b:List UInt8} {a:Nat} {l:Int} {n:Ns} (h:a<b.length) (h2:(ah b a).toNat>2):Bb (f+1) b a l n=(default,4):=by
 rw [Bb,aD (by omega),aK h2]
theorem S2 {f:Nat} {b:List UInt8} {a:Nat} {l:Int} {n:Ns} (h:a<b.length) (h2:¬(ah b a).toNat>2) (h3:((ah b a).toNat:Int)≤l):Bb (f+1) b a l n=(default,7):=by
 rw [Bb,aD (by omega),aD h2,aK h3]
theorem S3 {f:Nat} {b:List UInt8} {a:Nat} {l:Int} {n:Ns} (h:a<b.length) (h2:¬(ah b a).toNat>2) (h3:¬((ah b a).toNat:Int)≤l) {o:Option (List UInt8)} {a3:Nat} {e3:Int} (hS:GT b a=(o,a3,e3)) {n':Ns} {e4:Int} (hP:oq n (ah b a).toNat (o.getD []) e3=(n',e4)) :
  Bb (f+1) b a l n=if e4≠0 then (default,e4) else Bb f b a3 ((ah b a).toNat:Int) n':=by
 rw [Bb,aD (by omega),aD h2,aD h3]
 simp only [hS,hP]
theorem Qb {b:List UInt8} {a:Nat} {e n:Int} (ha:a≤b.length):((b_ (e==0) b a e n).1.getD []).length≤b.length:=by
 rcases n_ b a e n ha with ⟨x,_,h⟩ | ⟨_,l,h1,h2,_⟩
 ·rw [h];simp
 ·rw [h2];simpa using h1
attribute [local go_sem] cY ro iU
theorem Gm (b:List UInt8) (hb:b.length<1000000000):ae Tryz.prog ZB [.sl 1 (b.map dJ)] (.tup [qN (H4 b).1,.int .i64 (H4 b).2]):=by
 refine ab (ic:=MT.body) aq XR rfl rfl ?_
 obtain ⟨G,hG⟩:∃G,H4 b=G:=⟨_,rfl⟩
 rw [hG]
 simp only [go_sem,MT]
 refine zI (P7 b hb) rfl (by simp [go_sem]) 901 (by decide) (by simp only [go_sem]) ?_
 simp only [go_sem]
 refine an (fun q:Nat×Int×Ns×Nat=>⟨[(4,.mp 901 4 0 0),(6,.int .i64 q.2.1),(5,.mp 5 3 0 0),(2,.mp 2 3 0 0)],[(901,ro true b q.1 0),(5,⟨37,3,[iU q.2.2.1],true⟩),(2,⟨37,3,[[.str [],.nl,.nl]],true⟩)]⟩)
  (fun q=>q.1≤b.length∧(-1≤q.2.1∧q.2.1≤2)∧(q.2.2.2:Int)≥3 - q.2.1∧G=Bb q.2.2.2 b q.1 q.2.1 q.2.2.1) (fun q=>q.2.2.2) (0,-1,default,4) ⟨cE _,by decide,by decide,hG.symm⟩ ((Wk.nlm _ 5 (r':=iU default) (by rfl) r7).trans (Wk.of ?_ ?_)) ?_
 ·simp only [go_sem];try simp [go_sem]
 ·simp only [go_sem];try simp [go_sem]
 rintro ⟨a,la,n,f⟩ ⟨h1,h2,h3,h4⟩
 simp only at h1 h2 h3 h4
 have cL:=P6 true b a 0 h1 hb
 rw [show yO (true&&(0:Int)==0) b a=(b.length:Int) - a from rfl] at cL
 by_cases hlt:(b.length:Int) - a>0
 rotate_left
 ·rw [H3 (by omega)] at h4
  subst h4
  simp only [go_sem]
  refine aY (cL) ?_
  simp only [go_sem,aG hlt]
  exact aj
 have ha:a<b.length:=by omega
 obtain ⟨f,rfl⟩:∃f',f=f'+1:=⟨f - 1,by omega⟩
 have cB:=P2 true b a 0 h1 hb
 rw [show lq (true&&(0:Int)==0) b a 0=(ah b a,a+1,0) by unfold lq;rw [aK KG,aD (by omega)]] at cB
 simp only at cB
 have wB:IntKind.i64.wrap ((ah b a).toNat:Int)=((ah b a).toNat:Int):=wi (by omega) (by have:=(ah b a).toNat_lt;omega)
 by_cases g2:(ah b a).toNat>2
 ·rw [S1 ha g2] at h4
  subst h4
  simp only [go_sem]
  refine aY (cL) ?_
  simp only [go_sem,aF hlt]
  refine aY (cB) ?_
  simp only [go_sem,wB,aF (show ((ah b a).toNat:Int)>2 by omega)]
  exact cO (Wk.nlm _ 2 (r':=iU default) (by rfl) r7) [] (by first | rfl | simp only [go_sem]) rfl
 by_cases g3:((ah b a).toNat:Int)≤la
 ·rw [S2 ha g2 g3] at h4
  subst h4
  simp only [go_sem]
  refine aY (cL) ?_
  simp only [go_sem,aF hlt]
  refine aY (cB) ?_
  simp only [go_sem,wB,aG (show ¬((ah b a).toNat:Int)>2 by omega),aF g3]
  exact cO (Wk.nlm _ 2 (r':=iU default) (by rfl) r7) [] (by first | rfl | simp only [go_sem]) rfl
 have cU:=yX true b (a+1) 0 ha hb
 rw [KG] at cU
 have uA:=Fn (ok:=true) (bits:=32) (e:=0) (show a+1≤b.length from ha)
 have uL:=vt true b (a+1) 0
 have hS0:GT b a=b_ ((rU true 32 b (a+1) 0).2.2==0) b (rU true 32 b (a+1) 0).2.1 (rU true 32 b (a+1) 0).2.2 (rU true 32 b (a+1) 0).1:=rfl
 rcases hU:rU true 32 b (a+1) 0 with ⟨v,a2,e2⟩
 rw [hU] at cU uA uL hS0
 simp only at cU uA uL hS0
 have cS:=P8 b a2 e2 v uA hb (by omega)
 have sA:=yP (ok:=e2==0) (e:=e2) (n:=v) uA
 have sL:=Qb (e:=e2) (n:=v) uA
 rw [← hS0] at cS sA sL
 rcases hS:GT b a with ⟨o,a3,e3⟩
 rw [hS] at cS sA sL
 simp only at cS sA sL
 generalize hx:o.getD []=x at *
 have hP:=fun n' e4 h=>S3 (f:=f) (n:=n) (n':=n') (e4:=e4) ha g2 g3 hS (by rw [hx];exact h)
 simp only [go_sem]
 refine aY (cL) ?_
 simp only [go_sem,aF hlt]
 refine aY (cB) ?_
 simp only [go_sem,wB,aG (show ¬((ah b a).toNat:Int)>2 by omega),aG g3]
 refine aY (cU) ?_
 simp only [go_sem]
 refine cC (σ2:=[(901,ro true b a2 e2)]) (r3:=.mp 902 4 0 0) (σ3:=[(901,ro true b a3 e3),(902,ro true x ((0:Nat):Int) e3)]) cS [(1000,901),(24,902)] [902] rfl rfl rfl rfl ?_ ?_ ?_ ?_
 ·simp only [go_sem];simp
 ·simp only [go_sem];simp [sb,bw,jo,ak]
 ·simp only [go_sem];simp [ak]
 rcases (show (ah b a).toNat=0∨(ah b a).toNat=1∨(ah b a).toNat=2 by omega) with hid | hid | hid
 ·have hi:(ah b a).toNat=0:=hid
  have cN:=FR true x 0 e3 (cE _) (by omega)
  rw [bR] at cN
  have nA:=tI (b:=x) (a:=0) (ok:=e3==0) (e:=e3) (cE _)
  rcases hN:fu (e3==0) x 0 e3 with ⟨s,a4,e4⟩
  rw [hN] at cN nA
  simp only at cN nA
  have hp:oq n (ah b a).toNat x e3=(⟨s,n.fs,n.ls⟩,iB true x a4 e4):=by
   rw [hi]
   unfold oq
   simp only [hN,Nat.reduceEqDiff,bF,dc]
  rw [hP _ _ hp] at h4
  have he3:iB true x a4 e4=0→e3=0:=fun hz=>Classical.byContradiction fun hne=>hne (by
   have:=xa (n:=n) (id:=(ah b a).toNat) (x:=x) hne
   rw [hp] at this
   exact this.symm.trans hz)
  simp only [go_sem,hi,show (((0:Nat):Int)==0)=true from rfl]
  refine aY (cN) ?_
  simp only [go_sem]
  refine aY (FN true x a4 e4) ?_
  by_cases hz:iB true x a4 e4=0
  ·have h0:=he3 hz
   subst h0
   rw [aD (by simpa using hz),hi] at h4
   simp only [go_sem,aL hz]
   refine aC (a3,0,⟨s,n.fs,n.ls⟩,f) ⟨sA,show (-1:Int)≤0∧(0:Int)≤2 by decide,show (f:Int)≥3 - 0 by omega,h4⟩ (show f<f+1 by omega) (Wk.of ?_ ?_)
   ·simp only [go_sem];try simp
   ·simp only [go_sem];try simp
  ·rw [aK hz] at h4
   subst h4
   simp only [go_sem,aZ hz]
   exact cO (Wk.nlm _ 2 (r':=iU default) (by rfl) r7) [] (by first | rfl | simp only [go_sem]) rfl
 ·have hi:(ah b a).toNat=1:=hid
  have cN:=LY x 0 e3 64 (cE _) (by omega) (by decide)
  have nA:=Lg (b:=x) (a:=0) (e:=e3) (most:=64) (cE _)
  rcases hN:wE x 0 e3 64 with ⟨s,a4,e4⟩
  rw [hN] at cN nA
  simp only at cN nA
  have hp:oq n (ah b a).toNat x e3=(⟨n.m,s,n.ls⟩,iB true x a4 e4):=by
   rw [hi]
   unfold oq
   simp only [hN,Nat.reduceEqDiff,bF,dc]
  rw [hP _ _ hp] at h4
  have he3:iB true x a4 e4=0→e3=0:=fun hz=>Classical.byContradiction fun hne=>hne (by
   have:=xa (n:=n) (id:=(ah b a).toNat) (x:=x) hne
   rw [hp] at this
   exact this.symm.trans hz)
  simp only [go_sem,hi,show (((1:Nat):Int)==0)=false from rfl,show (((1:Nat):Int)==1)=true from rfl]
  refine aY (cN) ?_
  simp only [go_sem]
  refine aY (FN true x a4 e4) ?_
  by_cases hz:iB true x a4 e4=0
  ·have h0:=he3 hz
   subst h0
   rw [aD (by simpa using hz),hi] at h4
   simp only [go_sem,aL hz]
   refine aC (a3,1,⟨n.m,s,n.ls⟩,f) ⟨sA,show (-1:Int)≤1∧(1:Int)≤2 by decide,show (f:Int)≥3 - 1 by omega,h4⟩ (show f<f+1 by omega) (Wk.of ?_ ?_)
   ·simp only [go_sem];try simp
   ·simp only [go_sem];try simp
  ·rw [aK hz] at h4
   subst h4
   simp only [go_sem,aZ hz]
   exact cO (Wk.nlm _ 2 (r':=iU default) (by rfl) r7) [] (by first | rfl | simp only [go_sem]) rfl
 ·have hi:(ah b a).toNat=2:=hid
  have cN:=Gn x 0 e3 (cE _) (by omega)
  rcases hN:Iy x 0 e3 with ⟨s,a4,e4⟩
  rw [hN] at cN
  simp only at cN
  have hp:oq n (ah b a).toNat x e3=(⟨n.m,n.fs,s⟩,iB true x a4 e4):=by
   rw [hi]
   unfold oq
   simp only [hN,Nat.reduceEqDiff,bF,dc]
  rw [hP _ _ hp] at h4
  have he3:iB true x a4 e4=0→e3=0:=fun hz=>Classical.byContradiction fun hne=>hne (by
   have:=xa (n:=n) (id:=(ah b a).toNat) (x:=x) hne
   rw [hp] at this
   exact this.symm.trans hz)
  simp only [go_sem,hi,show (((2:Nat):Int)==0)=false from rfl,show (((2:Nat):Int)==1)=false from rfl]
  refine aY (cN) ?_
  simp only [go_sem]
  refine aY (FN true x a4 e4) ?_
  by_cases hz:iB true x a4 e4=0
  ·have h0:=he3 hz
   subst h0
   rw [aD (by simpa using hz),hi] at h4
   simp only [go_sem,aL hz]
   refine aC (a3,2,⟨n.m,n.fs,s⟩,f) ⟨sA,show (-1:Int)≤2∧(2:Int)≤2 by decide,show (f:Int)≥3 - 2 by omega,h4⟩ (show f<f+1 by omega) (Wk.of ?_ ?_)
   ·simp only [go_sem];try simp
   ·simp only [go_sem];try simp
  ·rw [aK hz] at h4
   subst h4
   simp only [go_sem,aZ hz]
   exact cO (Wk.nlm _ 2 (r':=iU default) (by rfl) r7) [] (by first | rfl | simp only [go_sem]) rfl
end
open Go Go.Mw
section
theorem lE (id:Nat) (t:TypeId) (st:Nat) (ys:List (List AV)):l8 id t st 0 0 ys (some ⟨t,st,[],false⟩) =
  if ys.length<137438953472∧(0:Nat)<137438953472∧(id<1000∨2000≤id) then some (.ms id st 0 (0+ys.length),.reb id ⟨t,st,ys,false⟩) else none:=by
 have h:=bu id t st 0 (fun _:Unit=>([]:List AV)) [] ys rfl
 simpa using h
def Yg (x:bz):Prop:=x.ty.length≤1048576∧x.lb.length≤1048576∧0≤x.n
def sR (l:List bz):Prop:=l.length≤1048576∧∀x∈l,Yg x
def Yf (x:Ft):Prop:=x.ps.length≤1048576∧x.rs.length≤1048576
def NH (x:Cd):Prop:=x.lo.length≤1048576∧sR x.b
def NK (x:Gd):Prop:=sR x.i
def NJ (x:El):Prop:=sR x.o∧x.it.length≤1048576∧∀l∈x.it,sR l
def NI (x:Da):Prop:=sR x.o∧x.b.length≤1048576
def Ds (x:Cu):Prop:=x.b.length≤1048576
structure NL (m:Md):Prop where
 ts:m.ts.length≤1048576∧∀x∈m.ts,Yf x
 ims:m.ims.length≤1048576
 fs:m.fs.length≤1048576∧∀x∈m.fs,NH x
 tbs:m.tbs.length≤1048576
 ms:m.ms.length≤1048576
 gs:m.gs.length≤1048576∧∀x∈m.gs,NK x
 exs:m.exs.length≤1048576
 els:m.els.length≤1048576∧∀x∈m.els,NJ x
 ds:m.ds.length≤1048576∧∀x∈m.ds,NI x
 cs:m.cs.length≤1048576∧∀x∈m.cs,Ds x
def Kx (x:bz):Prop:=x.ty.length≤9223372036854775807∧x.lb.length≤9223372036854775807∧0≤x.n
def xr (l:List bz):Prop:=l.length≤9223372036854775807∧∀x∈l,Kx x
def smF (x:Ft):Prop:=x.ps.length≤9223372036854775807∧x.rs.length≤9223372036854775807
def VE (x:Cd):Prop:=x.lo.length≤9223372036854775807∧xr x.b
def VH (x:Gd):Prop:=xr x.i
def VG (x:El):Prop:=xr x.o∧x.it.length≤140737488355328∧∀l∈x.it,xr l
def VF (x:Da):Prop:=xr x.o∧x.b.length≤9223372036854775807
def Z_ (x:Cu):Prop:=x.b.length≤9223372036854775807
structure oN (m:Md):Prop where
 ts:m.ts.length≤140737488355328∧∀x∈m.ts,smF x
 ims:m.ims.length≤140737488355328
 fs:m.fs.length≤140737488355328∧∀x∈m.fs,VE x
 tbs:m.tbs.length≤140737488355328
 ms:m.ms.length≤140737488355328
 gs:m.gs.length≤140737488355328∧∀x∈m.gs,VH x
 exs:m.exs.length≤140737488355328
 els:m.els.length≤140737488355328∧∀x∈m.els,VG x
 ds:m.ds.length≤140737488355328∧∀x∈m.ds,VF x
 cs:m.cs.length≤140737488355328∧∀x∈m.cs,Z_ x
theorem bp {α:Type} [Inhabited α] {p:α→Prop} {l:List α} (h:∀x∈l,p x) {i:Nat} (hi:i<l.length):p (ah l i):=by
 rw [bD hi];exact h _ (List.getElem_mem hi)
theorem fv {α:Type} [Inhabited α] {l:List α} {i:Nat} (h:i<l.length):l.take (i+1)=l.take i++[ah l i]:=by rw [List.take_add_one,jg h,Option.toList_some]
attribute [local go_sem] cY
theorem sP (rows:List (List AV)) (h:rows.length≤1048576):ae Tryz.prog nX4 [.sl 1 rows] (.sl 1 rows):=by
 refine ab (ic:=Wm.body) aq cX4 rfl rfl ?_
 have ha:=lE 5 52 1 rows
 simp only [go_sem,Wm]
 refine jN _ _ _ _ ⟨?_,fun h0=>?_⟩
 ·simp only [go_sem,ha]
  refine ⟨by omega,au [5] ?_ rfl⟩
  simp only [go_sem,bj]
  rw [dj]
 ·subst h0
  simp only [go_sem]
  exact cO (Wk.nls _ 2 1 (by simp only [go_sem])) [] (by first | rfl | simp only [go_sem]) rfl
theorem NB (rows:List (List AV)) (h:rows.length≤1048576):ae Tryz.prog nX1 [.sl 13 rows] (.sl 13 rows):=by
 refine ab (ic:=Wi.body) aq cX1 rfl rfl ?_
 have ha:=lE 5 122 13 rows
 simp only [go_sem,Wi]
 refine jN _ _ _ _ ⟨?_,fun h0=>?_⟩
 ·simp only [go_sem,ha]
  refine ⟨by omega,au [5] ?_ rfl⟩
  simp only [go_sem,bj]
  rw [dj]
 ·subst h0
  simp only [go_sem]
  exact cO (Wk.nls _ 2 13 (by simp only [go_sem])) [] (by first | rfl | simp only [go_sem]) rfl
theorem NE (rows:List (List AV)) (h:rows.length≤1048576):ae Tryz.prog nX3 [.sl 4 rows] (.sl 4 rows):=by
 refine ab (ic:=Wl.body) aq cX3 rfl rfl ?_
 have ha:=lE 5 118 4 rows
 simp only [go_sem,Wl]
 refine jN _ _ _ _ ⟨?_,fun h0=>?_⟩
 ·simp only [go_sem,ha]
  refine ⟨by omega,au [5] ?_ rfl⟩
  simp only [go_sem,bj]
  rw [dj]
 ·subst h0
  simp only [go_sem]
  exact cO (Wk.nls _ 2 4 (by simp only [go_sem])) [] (by first | rfl | simp only [go_sem]) rfl
theorem ND (rows:List (List AV)) (h:rows.length≤1048576):ae Tryz.prog nX2 [.sl 3 rows] (.sl 3 rows):=by
 refine ab (ic:=Wj.body) aq cX2 rfl rfl ?_
 have ha:=lE 5 116 3 rows
 simp only [go_sem,Wj]
 refine jN _ _ _ _ ⟨?_,fun h0=>?_⟩
 ·simp only [go_sem,ha]
  refine ⟨by omega,au [5] ?_ rfl⟩
  simp only [go_sem,bj]
  rw [dj]
 ·subst h0
  simp only [go_sem]
  exact cO (Wk.nls _ 2 3 (by simp only [go_sem])) [] (by first | rfl | simp only [go_sem]) rfl
theorem NA (rows:List (List AV)) (h:rows.length≤1048576):ae Tryz.prog nX0 [.sl 3 rows] (.sl 3 rows):=by
 refine ab (ic:=Wh.body) aq cX0 rfl rfl ?_
 have ha:=lE 5 127 3 rows
 simp only [go_sem,Wh]
 refine jN _ _ _ _ ⟨?_,fun h0=>?_⟩
 ·simp only [go_sem,ha]
  refine ⟨by omega,au [5] ?_ rfl⟩
  simp only [go_sem,bj]
  rw [dj]
 ·subst h0
  simp only [go_sem]
  exact cO (Wk.nls _ 2 3 (by simp only [go_sem])) [] (by first | rfl | simp only [go_sem]) rfl
theorem Dr (rows:List (List AV)) (h:rows.length≤1048576):ae Tryz.prog nX7 [.sl 1 rows] (.sl 1 rows):=by
 refine ab (ic:=Wp.body) aq cX7 rfl rfl ?_
 have ha:=lE 5 5 1 rows
 simp only [go_sem,Wp]
 refine jN _ _ _ _ ⟨?_,fun h0=>?_⟩
 ·simp only [go_sem,ha]
  refine ⟨by omega,au [5] ?_ rfl⟩
  simp only [go_sem,bj]
  rw [dj]
 ·subst h0
  simp only [go_sem]
  exact cO (Wk.nls _ 2 1 (by simp only [go_sem])) [] (by first | rfl | simp only [go_sem]) rfl
theorem NC (rows:List (List AV)) (h:rows.length≤1048576):ae Tryz.prog YD [.sl 1 rows] (.sl 1 rows):=by
 refine ab (ic:=L6.body) aq WK rfl rfl ?_
 have ha:=lE 5 3 1 rows
 simp only [go_sem,L6]
 refine jN _ _ _ _ ⟨?_,fun h0=>?_⟩
 ·simp only [go_sem,ha]
  refine ⟨by omega,au [5] ?_ rfl⟩
  simp only [go_sem,bj]
  rw [dj]
 ·subst h0
  simp only [go_sem]
  exact cO (Wk.nls _ 2 1 (by simp only [go_sem])) [] (by first | rfl | simp only [go_sem]) rfl
theorem X9 (x:Ft) (h:Yf x):ae Tryz.prog EP [.agg (t_ x)] (.agg (t_ x)):=by
 refine ab (ic:=Bn.body) aq Ru rfl rfl ?_
 simp only [go_sem,Bn,dp]
 refine aB (sP (x.ps.map gD) (by rw [cY];exact h.1)) (by simp [go_sem]) rfl ?_
 simp only [go_sem]
 refine aa (sP (x.rs.map gD) (by rw [cY];exact h.2)) ?_
 simp only [go_sem]
 exact au [] (by simp only [go_sem,dp]) (by first | rfl | simp [go_sem,ac])
theorem Ye (x:bz) (h:Yg x):ae Tryz.prog EV [.agg (bG x)] (.agg (bG x)):=by
 refine ab (ic:=Bt.body) aq RA rfl rfl ?_
 simp only [go_sem,Bt,bG]
 refine aB (sP (x.ty.map gD) (by rw [cY];exact h.1)) (by simp [go_sem]) rfl ?_
 simp only [go_sem]
 refine aB (NC (x.lb.map gD) (by rw [cY];exact h.2.1)) (by simp [go_sem]) rfl ?_
 simp only [go_sem]
 exact au [] (by simp only [go_sem,bG]) (by first | rfl | simp [go_sem,ac])
theorem NP (l:List (bz)) (hl:l.length≤1048576) (hx:∀x∈l,Yg x):ae Tryz.prog YI [.sl 9 (l.map bG),.fn EV []] (.sl 9 (l.map bG)):=by
 refine ab (ic:=L9.body) aq WQ rfl rfl ?_
 simp only [go_sem,L9]
 refine an (fun i:Nat=>⟨[(10,.int .i64 i),(9,.int .i64 l.length),(8,.sl 9 (l.map bG)),(5,.ms 900 9 0 i),(1,.fn EV [])],[(900,⟨192,9,(l.take i).map bG,false⟩)]⟩) (fun i=>i≤l.length) (fun i=>l.length - i) 0 (cE _) ((Wk.nil _ 5 900 9 192 (by simp only [go_sem]) (.inl (by decide))).trans (Wk.of ?_ ?_)) ?_
 ·simp only [go_sem,St.mknil];try simp [go_sem]
 ·simp only [go_sem,St.mknil,f8];try simp [go_sem]
 intro i hi
 have hil:(l.take i).length=i:=by simp;omega
 have happ:=fun ys=>bu 900 192 9 i bG (l.take i) ys hil
 by_cases h1:(i:Int)<(l.length:Int)
 ·have hi':i<l.length:=by omega
  have e8:=wi (n:=(i:Int)+1) (by omega) (by omega)
  have cc:=Ye (ah l i) (bp hx hi')
  try simp only [bG] at cc
  simp only [go_sem,aF h1,bG]
  refine ⟨by omega,h1,by kernel_rfl,?_⟩
  refine aa (cc) ?_
  simp only [go_sem,happ]
  refine ⟨by omega,aC (i+1) (show i+1≤l.length by omega) (show l.length - (i+1)<l.length - i by omega) (Wk.of ?_ ?_)⟩
  ·simp only [go_sem,e8];try simp
  ·simp only [go_sem,fv hi',List.map_append];try simp [bG]
 ·obtain rfl:i=l.length:=by omega
  simp only [go_sem,aG h1]
  refine au [900] ?_ rfl
  simp only [go_sem,dj,bj]
  rw [dS (by simp)]
theorem mL (l:List bz) (h:sR l):ae Tryz.prog EW [.sl 9 (l.map bG)] (.sl 9 (l.map bG)):=by
 refine ab (ic:=B6.body) aq Sz rfl rfl ?_
 simp only [go_sem,B6]
 refine aa (NP l h.1 h.2) ?_
 simp only [go_sem]
 exact aj
theorem Ib (l:List (List bz)) (hl:l.length≤1048576) (hx:∀x∈l,sR x):ae Tryz.prog nX9 [.sl 1 (l.map jE),.fn EW []] (.sl 1 (l.map jE)):=by
 refine ab (ic:=Wq.body) aq cX9 rfl rfl ?_
 simp only [go_sem,Wq]
 refine an (fun i:Nat=>⟨[(10,.int .i64 i),(9,.int .i64 l.length),(8,.sl 1 (l.map jE)),(5,.ms 900 1 0 i),(1,.fn EW [])],[(900,⟨51,1,(l.take i).map jE,false⟩)]⟩) (fun i=>i≤l.length) (fun i=>l.length - i) 0 (cE _) ((Wk.nil _ 5 900 1 51 (by simp only [go_sem]) (.inl (by decide))).trans (Wk.of ?_ ?_)) ?_
 ·simp only [go_sem,St.mknil];try simp [go_sem]
 ·simp only [go_sem,St.mknil,f8];try simp [go_sem]
 intro i hi
 have hil:(l.take i).length=i:=by simp;omega
 have happ:=fun ys=>bu 900 51 1 i jE (l.take i) ys hil
 by_cases h1:(i:Int)<(l.length:Int)
 ·have hi':i<l.length:=by omega
  have e8:=wi (n:=(i:Int)+1) (by omega) (by omega)
  have cc:=mL (ah l i) (bp hx hi')
  try simp only [jc] at cc
  simp only [go_sem,aF h1,jc]
  refine ⟨by omega,h1,by kernel_rfl,?_⟩
  refine aa (cc) ?_
  simp only [go_sem,happ]
  refine ⟨by omega,aC (i+1) (show i+1≤l.length by omega) (show l.length - (i+1)<l.length - i by omega) (Wk.of ?_ ?_)⟩
  ·simp only [go_sem,e8];try simp
  ·simp only [go_sem,fv hi',List.map_append];try simp [jc]
 ·obtain rfl:i=l.length:=by omega
  simp only [go_sem,aG h1]
  refine au [900] ?_ rfl
  simp only [go_sem,dj,bj]
  rw [dS (by simp)]
theorem H_ (l:List (Ft)) (hl:l.length≤1048576) (hx:∀x∈l,Yf x):ae Tryz.prog YV [.sl 2 (l.map t_),.fn EP []] (.sl 2 (l.map t_)):=by
 refine ab (ic:=Mm.body) aq W5 rfl rfl ?_
 simp only [go_sem,Mm]
 refine an (fun i:Nat=>⟨[(10,.int .i64 i),(9,.int .i64 l.length),(8,.sl 2 (l.map t_)),(5,.ms 900 2 0 i),(1,.fn EP [])],[(900,⟨110,2,(l.take i).map t_,false⟩)]⟩) (fun i=>i≤l.length) (fun i=>l.length - i) 0 (cE _) ((Wk.nil _ 5 900 2 110 (by simp only [go_sem]) (.inl (by decide))).trans (Wk.of ?_ ?_)) ?_
 ·simp only [go_sem,St.mknil];try simp [go_sem]
 ·simp only [go_sem,St.mknil,f8];try simp [go_sem]
 intro i hi
 have hil:(l.take i).length=i:=by simp;omega
 have happ:=fun ys=>bu 900 110 2 i t_ (l.take i) ys hil
 by_cases h1:(i:Int)<(l.length:Int)
 ·have hi':i<l.length:=by omega
  have e8:=wi (n:=(i:Int)+1) (by omega) (by omega)
  have cc:=X9 (ah l i) (bp hx hi')
  try simp only [dp] at cc
  simp only [go_sem,aF h1,dp]
  refine ⟨by omega,h1,by kernel_rfl,?_⟩
  refine aa (cc) ?_
  simp only [go_sem,happ]
  refine ⟨by omega,aC (i+1) (show i+1≤l.length by omega) (show l.length - (i+1)<l.length - i by omega) (Wk.of ?_ ?_)⟩
  ·simp only [go_sem,e8];try simp
  ·simp only [go_sem,fv hi',List.map_append];try simp [dp]
 ·obtain rfl:i=l.length:=by omega
  simp only [go_sem,aG h1]
  refine au [900] ?_ rfl
  simp only [go_sem,dj,bj]
  rw [dS (by simp)]
theorem X_ (x:Cd) (h:NH x):ae Tryz.prog EQ [.agg (tX x)] (.agg (tX x)):=by
 refine ab (ic:=Bo.body) aq Rv rfl rfl ?_
 simp only [go_sem,Bo,cH]
 refine aB (sP (x.lo.map gD) (by rw [cY];exact h.1)) (by simp [go_sem]) rfl ?_
 simp only [go_sem]
 refine aB (mL x.b h.2) (by simp [go_sem]) rfl ?_
 simp only [go_sem]
 exact au [] (by simp only [go_sem,cH]) (by first | rfl | simp [go_sem,ac])
theorem H6 (l:List (Cd)) (hl:l.length≤1048576) (hx:∀x∈l,NH x):ae Tryz.prog YS [.sl 3 (l.map tX),.fn EQ []] (.sl 3 (l.map tX)):=by
 refine ab (ic:=Mj.body) aq W2 rfl rfl ?_
 simp only [go_sem,Mj]
 refine an (fun i:Nat=>⟨[(10,.int .i64 i),(9,.int .i64 l.length),(8,.sl 3 (l.map tX)),(5,.ms 900 3 0 i),(1,.fn EQ [])],[(900,⟨130,3,(l.take i).map tX,false⟩)]⟩) (fun i=>i≤l.length) (fun i=>l.length - i) 0 (cE _) ((Wk.nil _ 5 900 3 130 (by simp only [go_sem]) (.inl (by decide))).trans (Wk.of ?_ ?_)) ?_
 ·simp only [go_sem,St.mknil];try simp [go_sem]
 ·simp only [go_sem,St.mknil,f8];try simp [go_sem]
 intro i hi
 have hil:(l.take i).length=i:=by simp;omega
 have happ:=fun ys=>bu 900 130 3 i tX (l.take i) ys hil
 by_cases h1:(i:Int)<(l.length:Int)
 ·have hi':i<l.length:=by omega
  have e8:=wi (n:=(i:Int)+1) (by omega) (by omega)
  have cc:=X_ (ah l i) (bp hx hi')
  try simp only [cH] at cc
  simp only [go_sem,aF h1,cH]
  refine ⟨by omega,h1,by kernel_rfl,?_⟩
  refine aa (cc) ?_
  simp only [go_sem,happ]
  refine ⟨by omega,aC (i+1) (show i+1≤l.length by omega) (show l.length - (i+1)<l.length - i by omega) (Wk.of ?_ ?_)⟩
  ·simp only [go_sem,e8];try simp
  ·simp only [go_sem,fv hi',List.map_append];try simp [cH]
 ·obtain rfl:i=l.length:=by omega
  simp only [go_sem,aG h1]
  refine au [900] ?_ rfl
  simp only [go_sem,dj,bj]
  rw [dS (by simp)]
theorem Ya (x:Gd) (h:NK x):ae Tryz.prog ER [.agg (ua x)] (.agg (ua x)):=by
 refine ab (ic:=Bp.body) aq Rw rfl rfl ?_
 simp only [go_sem,Bp,mh]
 refine aB (mL x.i h) (by simp [go_sem]) rfl ?_
 simp only [go_sem]
 exact au [] (by simp only [go_sem,mh]) (by first | rfl | simp [go_sem,ac])
theorem Ia (l:List (Gd)) (hl:l.length≤1048576) (hx:∀x∈l,NK x):ae Tryz.prog nX5 [.sl 3 (l.map ua),.fn ER []] (.sl 3 (l.map ua)):=by
 refine ab (ic:=Wn.body) aq cX5 rfl rfl ?_
 simp only [go_sem,Wn]
 refine an (fun i:Nat=>⟨[(10,.int .i64 i),(9,.int .i64 l.length),(8,.sl 3 (l.map ua)),(5,.ms 900 3 0 i),(1,.fn ER [])],[(900,⟨135,3,(l.take i).map ua,false⟩)]⟩) (fun i=>i≤l.length) (fun i=>l.length - i) 0 (cE _) ((Wk.nil _ 5 900 3 135 (by simp only [go_sem]) (.inl (by decide))).trans (Wk.of ?_ ?_)) ?_
 ·simp only [go_sem,St.mknil];try simp [go_sem]
 ·simp only [go_sem,St.mknil,f8];try simp [go_sem]
 intro i hi
 have hil:(l.take i).length=i:=by simp;omega
 have happ:=fun ys=>bu 900 135 3 i ua (l.take i) ys hil
 by_cases h1:(i:Int)<(l.length:Int)
 ·have hi':i<l.length:=by omega
  have e8:=wi (n:=(i:Int)+1) (by omega) (by omega)
  have cc:=Ya (ah l i) (bp hx hi')
  try simp only [mh] at cc
  simp only [go_sem,aF h1,mh]
  refine ⟨by omega,h1,by kernel_rfl,?_⟩
  refine aa (cc) ?_
  simp only [go_sem,happ]
  refine ⟨by omega,aC (i+1) (show i+1≤l.length by omega) (show l.length - (i+1)<l.length - i by omega) (Wk.of ?_ ?_)⟩
  ·simp only [go_sem,e8];try simp
  ·simp only [go_sem,fv hi',List.map_append];try simp [mh]
 ·obtain rfl:i=l.length:=by omega
  simp only [go_sem,aG h1]
  refine au [900] ?_ rfl
  simp only [go_sem,dj,bj]
  rw [dS (by simp)]
theorem Yb (x:El) (h:NJ x):ae Tryz.prog ES [.agg (l0 x)] (.agg (l0 x)):=by
 refine ab (ic:=Bq.body) aq Rx rfl rfl ?_
 simp only [go_sem,Bq,a_]
 refine aB (mL x.o h.1) (by simp [go_sem]) rfl ?_
 simp only [go_sem]
 refine aB (Ib x.it h.2.1 h.2.2) (by simp [go_sem]) rfl ?_
 simp only [go_sem]
 exact au [] (by simp only [go_sem,a_]) (by first | rfl | simp [go_sem,ac])
theorem H9 (l:List (El)) (hl:l.length≤1048576) (hx:∀x∈l,NJ x):ae Tryz.prog YU [.sl 5 (l.map l0),.fn ES []] (.sl 5 (l.map l0)):=by
 refine ab (ic:=Ml.body) aq W4 rfl rfl ?_
 simp only [go_sem,Ml]
 refine an (fun i:Nat=>⟨[(10,.int .i64 i),(9,.int .i64 l.length),(8,.sl 5 (l.map l0)),(5,.ms 900 5 0 i),(1,.fn ES [])],[(900,⟨55,5,(l.take i).map l0,false⟩)]⟩) (fun i=>i≤l.length) (fun i=>l.length - i) 0 (cE _) ((Wk.nil _ 5 900 5 55 (by simp only [go_sem]) (.inl (by decide))).trans (Wk.of ?_ ?_)) ?_
 ·simp only [go_sem,St.mknil];try simp [go_sem]
 ·simp only [go_sem,St.mknil,f8];try simp [go_sem]
 intro i hi
 have hil:(l.take i).length=i:=by simp;omega
 have happ:=fun ys=>bu 900 55 5 i l0 (l.take i) ys hil
 by_cases h1:(i:Int)<(l.length:Int)
 ·have hi':i<l.length:=by omega
  have e8:=wi (n:=(i:Int)+1) (by omega) (by omega)
  have cc:=Yb (ah l i) (bp hx hi')
  try simp only [a_] at cc
  simp only [go_sem,aF h1,a_]
  refine ⟨by omega,h1,by kernel_rfl,?_⟩
  refine aa (cc) ?_
  simp only [go_sem,happ]
  refine ⟨by omega,aC (i+1) (show i+1≤l.length by omega) (show l.length - (i+1)<l.length - i by omega) (Wk.of ?_ ?_)⟩
  ·simp only [go_sem,e8];try simp
  ·simp only [go_sem,fv hi',List.map_append];try simp [a_]
 ·obtain rfl:i=l.length:=by omega
  simp only [go_sem,aG h1]
  refine au [900] ?_ rfl
  simp only [go_sem,dj,bj]
  rw [dS (by simp)]
theorem Yc (x:Da) (h:NI x):ae Tryz.prog ET [.agg (vR x)] (.agg (vR x)):=by
 refine ab (ic:=Br.body) aq Ry rfl rfl ?_
 simp only [go_sem,Br,d_]
 refine aB (mL x.o h.1) (by simp [go_sem]) rfl ?_
 simp only [go_sem]
 refine aB (Dr (x.b.map dJ) (by rw [cY];exact h.2)) (by simp [go_sem]) rfl ?_
 simp only [go_sem]
 exact au [] (by simp only [go_sem,d_]) (by first | rfl | simp [go_sem,ac])
theorem H8 (l:List (Da)) (hl:l.length≤1048576) (hx:∀x∈l,NI x):ae Tryz.prog YT [.sl 4 (l.map vR),.fn ET []] (.sl 4 (l.map vR)):=by
 refine ab (ic:=Mk.body) aq W3 rfl rfl ?_
 simp only [go_sem,Mk]
 refine an (fun i:Nat=>⟨[(10,.int .i64 i),(9,.int .i64 l.length),(8,.sl 4 (l.map vR)),(5,.ms 900 4 0 i),(1,.fn ET [])],[(900,⟨142,4,(l.take i).map vR,false⟩)]⟩) (fun i=>i≤l.length) (fun i=>l.length - i) 0 (cE _) ((Wk.nil _ 5 900 4 142 (by simp only [go_sem]) (.inl (by decide))).trans (Wk.of ?_ ?_)) ?_
 ·simp only [go_sem,St.mknil];try simp [go_sem]
 ·simp only [go_sem,St.mknil,f8];try simp [go_sem]
 intro i hi
 have hil:(l.take i).length=i:=by simp;omega
 have happ:=fun ys=>bu 900 142 4 i vR (l.take i) ys hil
 by_cases h1:(i:Int)<(l.length:Int)
 ·have hi':i<l.length:=by omega
  have e8:=wi (n:=(i:Int)+1) (by omega) (by omega)
  have cc:=Yc (ah l i) (bp hx hi')
  try simp only [d_] at cc
  simp only [go_sem,aF h1,d_]
  refine ⟨by omega,h1,by kernel_rfl,?_⟩
  refine aa (cc) ?_
  simp only [go_sem,happ]
  refine ⟨by omega,aC (i+1) (show i+1≤l.length by omega) (show l.length - (i+1)<l.length - i by omega) (Wk.of ?_ ?_)⟩
  ·simp only [go_sem,e8];try simp
  ·simp only [go_sem,fv hi',List.map_append];try simp [d_]
 ·obtain rfl:i=l.length:=by omega
  simp only [go_sem,aG h1]
  refine au [900] ?_ rfl
  simp only [go_sem,dj,bj]
  rw [dS (by simp)]
theorem Yd (x:Cu) (h:Ds x):ae Tryz.prog EU [.agg (t8 x)] (.agg (t8 x)):=by
 refine ab (ic:=Bs.body) aq Rz rfl rfl ?_
 simp only [go_sem,Bs,dU]
 refine aa (Dr (x.b.map dJ) (by rw [cY];exact h)) ?_
 simp only [go_sem]
 exact au [] (by simp only [go_sem,dU]) (by first | rfl | simp [go_sem,ac])
theorem H7 (l:List (Cu)) (hl:l.length≤1048576) (hx:∀x∈l,Ds x):ae Tryz.prog YC [.sl 3 (l.map t8),.fn EU []] (.sl 3 (l.map t8)):=by
 refine ab (ic:=L5.body) aq WJ rfl rfl ?_
 simp only [go_sem,L5]
 refine an (fun i:Nat=>⟨[(10,.int .i64 i),(9,.int .i64 l.length),(8,.sl 3 (l.map t8)),(5,.ms 900 3 0 i),(1,.fn EU [])],[(900,⟨61,3,(l.take i).map t8,false⟩)]⟩) (fun i=>i≤l.length) (fun i=>l.length - i) 0 (cE _) ((Wk.nil _ 5 900 3 61 (by simp only [go_sem]) (.inl (by decide))).trans (Wk.of ?_ ?_)) ?_
 ·simp only [go_sem,St.mknil];try simp [go_sem]
 ·simp only [go_sem,St.mknil,f8];try simp [go_sem]
 intro i hi
 have hil:(l.take i).length=i:=by simp;omega
 have happ:=fun ys=>bu 900 61 3 i t8 (l.take i) ys hil
 by_cases h1:(i:Int)<(l.length:Int)
 ·have hi':i<l.length:=by omega
  have e8:=wi (n:=(i:Int)+1) (by omega) (by omega)
  have cc:=Yd (ah l i) (bp hx hi')
  try simp only [dU] at cc
  simp only [go_sem,aF h1,dU]
  refine ⟨by omega,h1,by kernel_rfl,?_⟩
  refine aa (cc) ?_
  simp only [go_sem,happ]
  refine ⟨by omega,aC (i+1) (show i+1≤l.length by omega) (show l.length - (i+1)<l.length - i by omega) (Wk.of ?_ ?_)⟩
  ·simp only [go_sem,e8];try simp
  ·simp only [go_sem,fv hi',List.map_append];try simp [dU]
 ·obtain rfl:i=l.length:=by omega
  simp only [go_sem,aG h1]
  refine au [900] ?_ rfl
  simp only [go_sem,dj,bj]
  rw [dS (by simp)]
theorem Kq (m:Md) (h:NL m):ae Tryz.prog UA [bJ m] (bJ m):=by
 refine ab (ic:=B5.body) aq Sy rfl rfl ?_
 have c1:=H_ m.ts h.ts.1 h.ts.2
 have c2:=H6 m.fs h.fs.1 h.fs.2
 have c3:=Ia m.gs h.gs.1 h.gs.2
 have c4:=H9 m.els h.els.1 h.els.2
 have c5:=H8 m.ds h.ds.1 h.ds.2
 have c6:=H7 m.cs h.cs.1 h.cs.2
 simp only [go_sem,B5,bJ,aV]
 refine aa (c1) ?_
 simp only [go_sem]
 refine aB (NB (m.ims.map Ed) (by rw [cY];exact h.ims)) (by simp [go_sem]) rfl ?_
 simp only [go_sem]
 refine aB (NE (m.tbs.map Qg) (by rw [cY];exact h.tbs)) (by simp [go_sem]) rfl ?_
 simp only [go_sem]
 refine aB (ND (m.ms.map Jm) (by rw [cY];exact h.ms)) (by simp [go_sem]) rfl ?_
 simp only [go_sem]
 refine aB (NA (m.exs.map Bc) (by rw [cY];exact h.exs)) (by simp [go_sem]) rfl ?_
 simp only [go_sem]
 refine aa (c2) ?_
 simp only [go_sem]
 refine aa (c3) ?_
 simp only [go_sem]
 refine aa (c4) ?_
 simp only [go_sem]
 refine aa (c5) ?_
 simp only [go_sem]
 refine aa (c6) ?_
 simp only [go_sem]
 exact au [] (by simp only [go_sem,bJ,aV]) (by first | rfl | simp [go_sem,ac])
end
section
def wA:List Lc→Nat→Int→Int
 | [],_,a=>a
 | _ :: _,0,a=>a
 | x :: r,k+1,a=>if a≤400 then wA r k (IntKind.i64.wrap (a+(x.l.length:Int))) else a
def DL (n:Ns):Bool:=decide ((n.ls.length:Int)≤90)&&decide (wA n.ls 100 (IntKind.i64.wrap ((n.fs.length:Int)+(n.m.length:Int)))≤400)
attribute [local go_sem] cY
theorem Kr (n:Ns):ae Tryz.prog Uz [qN n] (.bool (DL n)):=by
 refine ab (ic:=B4.body) aq Sx rfl rfl ?_
 simp only [go_sem,B4]
 unfold DL
 generalize hA:IntKind.i64.wrap ((n.fs.length:Int)+(n.m.length:Int))=A
 refine an (fun q:Nat×Int=>⟨[(4,.int .i64 q.1),(3,.int .i64 q.2),(1,.mp 1 3 0 0)],[(1,⟨37,3,[iU n],true⟩)]⟩) (fun q=>q.1≤n.ls.length∧q.1≤100∧wA (n.ls.drop q.1) (100 - q.1) q.2=wA n.ls 100 A) (fun q=>n.ls.length - q.1) (0,A) ⟨cE _,cE _,rfl⟩ (Wk.of ?_ ?_) ?_
 ·simp only [go_sem,hA];try simp
 ·simp only [go_sem,iU]
 rintro ⟨i,a⟩ ⟨hi,h100,hf⟩
 simp only at hi h100 hf
 by_cases h1:(i:Int)<(n.ls.length:Int)
 ·by_cases h2:(i:Int)<100
  ·have hi':i<n.ls.length:=by omega
   by_cases h3:a≤400
   ·have e8:=wi (n:=(i:Int)+1) (by omega) (by omega)
    rw [eb hi',show 100 - i=(100 - (i+1))+1 by omega,wA,aK h3] at hf
    simp only [go_sem,aF h1,aF h2,aF h3,iU]
    refine ⟨by omega,h1,?_⟩
    refine aC (i+1,IntKind.i64.wrap (a+((ah n.ls i).l.length:Int))) ⟨show i+1≤n.ls.length by omega,show i+1≤100 by omega,hf⟩ (show n.ls.length - (i+1)<n.ls.length - i by omega) (Wk.of ?_ ?_)
    ·simp only [go_sem,e8];try simp
    ·simp only [go_sem,iU]
   ·rw [eb hi',show 100 - i=(100 - (i+1))+1 by omega,wA,aD h3] at hf
    rw [← hf,aG h3,Bool.and_false]
    cases h4:decide ((n.ls.length:Int)≤90)
    ·simp only [go_sem,aF h1,aF h2,aG h3,h4,iU]
     exact aj
    ·simp only [go_sem,aF h1,aF h2,aG h3,h4,iU]
     exact aj
  ·rw [aG (show ¬((n.ls.length:Int)≤90) by omega),cF]
   simp only [go_sem,aF h1,aG h2,aG (show ¬((n.ls.length:Int)≤90) by omega),iU]
   exact aj
 ·rw [bB (by omega),wA] at hf
  rw [← hf]
  cases h4:decide ((n.ls.length:Int)≤90)
  ·simp only [go_sem,aG h1,h4,iU]
   exact au [] (by simp only [go_sem,cF]) (by first | rfl | simp [go_sem,ac])
  ·cases h5:decide (a≤400)
   ·simp only [go_sem,aG h1,h4,h5,iU]
    exact au [] (by simp only [go_sem,Bool.and_false]) (by first | rfl | simp [go_sem,ac])
   ·simp only [go_sem,aG h1,h4,h5,iU]
    exact au [] (by simp only [go_sem,bR]) (by first | rfl | simp [go_sem,ac])
def Bd:List UInt8:=[110,97,109,101]
end
section
def fB (p:Bool×Int):List AV:=[.bool p.1,.int .i64 p.2]
theorem N5 (p:Bool×Int):fB p=[.bool p.1,.int .i64 p.2]:=rfl
def nn (m:Md):List (Bool×Int):=[(decide ((m.ds.length:Int)>0),12),(decide ((m.fs.length:Int)>0),11),(decide ((m.els.length:Int)>0),9),(m.hs,8),(decide ((m.exs.length:Int)>0),7),(decide ((m.gs.length:Int)>0),6),(decide ((m.ms.length:Int)>0),5),(decide ((m.tbs.length:Int)>0),4),(decide ((m.ims.length:Int)>0),2),(decide ((m.ts.length:Int)>0),1)]
def qL:List (Bool×Int)→Int
 | []=>0
 | p :: r=>if p.1=true then p.2 else qL r
def jW (m:Md):Int:=qL (nn m)
theorem Jn {l:List (Bool×Int)} {i:Nat} (h:i<l.length):qL (l.drop i)=if (ah l i).1=true then (ah l i).2 else qL (l.drop (i+1)):=by
 rw [eb h];rfl
attribute [local go_sem] cY aV dU
theorem FQ (m:Md):ae Tryz.prog Ua [bJ m] (.int .i64 (jW m)):=by
 refine ab (ic:=BL.body) aq R7 rfl rfl ?_
 simp only [go_sem,BL,bJ,aV]
 have hL:(nn m).length=10:=rfl
 refine an (fun j:Nat=>⟨[(55,.int .i64 j),(54,.int .i64 10),(53,.ms 53 2 0 10)],[(53,⟨147,2,(nn m).map fB,false⟩)]⟩) (fun j=>j≤10∧jW m=qL ((nn m).drop j)) (fun j=>10 - j) 0 ⟨cE _,rfl⟩ (Wk.of ?_ ?_) ?_
 ·simp only [go_sem];try simp
 ·simp only [go_sem,nn];try simp [N5]
 rintro j ⟨hj,hx⟩
 generalize nn m=L at *
 by_cases h1:(j:Int)<10
 ·have hj':j<L.length:=by omega
  have hj2:j<10:=by omega
  rw [Jn hj'] at hx
  have e8:=wi (n:=(j:Int)+1) (by omega) (by omega)
  cases hb:(ah L j).1
  ·rw [hb,aD (by decide)] at hx
   simp only [go_sem,aF h1,N5,hb,hj2,hL]
   refine ⟨by omega,aC (j+1) ⟨show j+1≤10 by omega,hx⟩ (show 10 - (j+1)<10 - j by omega) (Wk.of ?_ ?_)⟩
   ·simp only [go_sem,e8];try simp
   ·simp only [go_sem]
  ·rw [hb,aK rfl] at hx
   rw [hx]
   simp only [go_sem,aF h1,N5,hb,hj2,hL]
   refine ⟨by omega,?_⟩
   exact aj
 ·rw [bB (by omega)] at hx
  rw [hx]
  simp only [go_sem,aG h1]
  exact au [] (by simp only [go_sem,qL]) (by first | rfl | simp [go_sem,ac])
def kZ (l:List Cu):List Cu:=l.filter fun c=>!(c.n==Bd)
theorem N7 {l:List Cu} {i:Nat} (h:i<l.length):kZ (l.take (i+1))=kZ (l.take i)++(if (ah l i).n=Bd then [] else [ah l i]):=by
 unfold kZ
 rw [lU h,List.filter_append]
 congr 1
 by_cases h:(ah l i).n=Bd
 ·rw [aK h];simp [h]
 ·rw [aD h];simp [h]
theorem sZ (l:List Cu):(kZ l).length≤l.length:=List.length_filter_le _ _
def cX (m:Md) (n:Ns):Md×Int :=
 if (eL n).2≠0 then (default,(eL n).2) else
 if (eL n).1.length=0 then ({ m with cs:=kZ m.cs },0) else
 if (eL n).1.length>4096∨(kZ m.cs).length≥8 then (default,6) else ({ m with cs:=kZ m.cs++[⟨jW m,Bd,(eL n).1⟩] },0)
theorem EM:nlm [.nl,.nl,.nl,.nl,.nl,.nl,.nl,.bool false,.int .i64 0,.nl,.nl,.nl] (gH default) :=
 ⟨.inr ⟨rfl,.inl ⟨2,rfl⟩⟩,.inr ⟨rfl,.inl ⟨13,rfl⟩⟩,.inr ⟨rfl,.inl ⟨3,rfl⟩⟩,.inr ⟨rfl,.inl ⟨4,rfl⟩⟩,.inr ⟨rfl,.inl ⟨3,rfl⟩⟩,.inr ⟨rfl,.inl ⟨3,rfl⟩⟩,.inr ⟨rfl,.inl ⟨3,rfl⟩⟩,.inl rfl,.inl rfl,.inr ⟨rfl,.inl ⟨5,rfl⟩⟩,.inr ⟨rfl,.inl ⟨4,rfl⟩⟩,.inr ⟨rfl,.inl ⟨3,rfl⟩⟩,trivial⟩
theorem mO (m:Md) (n:Ns) (hm:NL m) (hn:QZ n):ae Tryz.prog T9 [bJ m,qN n] (.tup [bJ (cX m n).1,.int .i64 (cX m n).2]):=by
 refine ab (ic:=xM.body) aq R5 rfl rfl ?_
 have ce:=vG n hn
 have cp:=Kq m hm
 have cl:=FQ m
 simp only [Az] at ce
 simp only [bJ,aV] at cp cl
 unfold cX
 generalize eL n=E at *
 obtain ⟨b,e⟩:=E
 simp only at ce ⊢
 by_cases he:e=0
 rotate_left
 ·rw [aK he]
  simp only [go_sem,xM,bJ,aV]
  refine aa (ce) ?_
  simp only [go_sem,aZ he]
  exact cO (Wk.nlm _ 4 (r':=gH default) (by rfl) EM) [] (by first | rfl | simp only [go_sem,aV]) rfl
 subst he
 rw [aD (by decide)]
 simp only [go_sem,xM,bJ,aV]
 refine aa (ce) ?_
 simp only [go_sem]
 refine aa (cp) ?_
 simp only [go_sem]
 refine an (fun i:Nat=>⟨[(26,.int .i64 i),(25,.int .i64 m.cs.length),(24,.sl 3 (m.cs.map t8)),(9,.ms 900 3 0 (kZ (m.cs.take i)).length),(6,.sl 1 (b.map dJ)),(8,.mp 8 12 0 0),(2,.mp 2 12 0 0),(4,.mp 4 12 0 0)],[(900,⟨61,3,(kZ (m.cs.take i)).map t8,false⟩),(8,⟨33,12,[gH m],true⟩),(2,⟨33,12,[gH m],true⟩),(4,⟨33,12,[[.nl,.nl,.nl,.nl,.nl,.nl,.nl,.bool false,.int .i64 0,.nl,.nl,.nl]],true⟩)]⟩) (fun i=>i≤m.cs.length) (fun i=>m.cs.length - i) 0 (cE _) ((Wk.nil _ 9 900 3 61 (by simp only [go_sem]) (.inl (by decide))).trans (Wk.of ?_ ?_)) ?_
 ·simp only [go_sem,St.mknil,f8,kZ,List.filter_nil];try simp [go_sem]
 ·simp only [go_sem,St.mknil,f8,kZ,List.filter_nil,aV];try simp [go_sem]
 intro i hi
 have hcl:=hm.cs.1
 have hfl:=sZ (m.cs.take i)
 rw [lh] at hfl
 have happ:=fun ys=>bu 900 61 3 (kZ (m.cs.take i)).length t8 (kZ (m.cs.take i)) ys rfl
 by_cases h1:(i:Int)<(m.cs.length:Int)
 ·have hi':i<m.cs.length:=by omega
  have e8:=wi (n:=(i:Int)+1) (by omega) (by omega)
  have ht:=N7 hi'
  by_cases h2:(ah m.cs i).n=Bd
  ·rw [aK h2,gx] at ht
   simp only [go_sem,aF h1,dU,h2,Bd]
   refine ⟨by omega,h1,aC (i+1) (show i+1≤m.cs.length by omega) (show m.cs.length - (i+1)<m.cs.length - i by omega) (Wk.of ?_ ?_)⟩
   ·simp only [go_sem,e8,ht];try simp
   ·simp only [go_sem,ht];try simp
  ·rw [aD h2] at ht
   simp only [go_sem,aF h1,show ((ah m.cs i).n==[110,97,109,101])=false by simpa [Bd] using h2,happ]
   refine ⟨by omega,h1,by omega,aC (i+1) (show i+1≤m.cs.length by omega) (show m.cs.length - (i+1)<m.cs.length - i by omega) (Wk.of ?_ ?_)⟩
   ·simp only [go_sem,e8,ht,aJ,jP];try simp
   ·simp only [go_sem,ht,List.map_append];try simp [dU]
 ·obtain rfl:i=m.cs.length:=by omega
  rw [dj] at *
  by_cases hb0:b.length=0
  ·rw [aK hb0]
   simp only [go_sem,aG h1,dj,aG (show ¬(b.length:Int)>0 by omega)]
   refine au [900] ?_ rfl
   simp only [go_sem,bj,bJ]
   rw [dS (by simp)]
  rw [aD hb0]
  have hbp:(b.length:Int)>0:=by omega
  by_cases hb1:(b.length:Int)>4096
  ·rw [aK (.inl (by omega))]
   simp only [go_sem,aG h1,dj,aF hbp,aF hb1]
   exact cO (Wk.nlm _ 4 (r':=gH default) (by rfl) EM) [] (by first | rfl | simp only [go_sem,bJ]) rfl
  by_cases hb2:((kZ m.cs).length:Int)≥8
  ·rw [aK (.inr (by omega))]
   simp only [go_sem,aG h1,dj,aF hbp,aG hb1,aF hb2]
   exact cO (Wk.nlm _ 4 (r':=gH default) (by rfl) EM) [] (by first | rfl | simp only [go_sem,bJ]) rfl
  rw [aD (by omega)]
  simp only [go_sem,aG h1,dj,aF hbp,aG hb1,aG hb2]
  refine aa (cl) ?_
  simp only [go_sem,happ]
  refine ⟨by omega,au [900] ?_ rfl⟩
  simp only [go_sem,bJ,aJ,jP,List.map_append,Bd]
  rw [aK (by simp),dS (by simp)]
  try rfl
end
section
deriving instance DecidableEq for bz,Ft,Lm,Gl,Im,Cd,Tb,Gd,Ex,El,Da,Cu,Md
theorem yG {a b:List Int} (hl:a.length=b.length) (h:∀k,k<a.length→ah a k=ah b k):a=b:=by
 apply List.ext_getElem hl
 intro i h1 h2
 have:=h i h1
 rwa [bD h1,bD h2] at this
def sI (x y:bz):Bool:=(x.op==y.op)&&((x.a==y.a)&&((x.b==y.b)&&((x.n==y.n)&&(((x.k==y.k)&&((x.v==y.v)&&(x.x==y.x)))&&((x.ty==y.ty)&&(x.lb==y.lb))))))
attribute [local go_sem] dE jr cY
theorem Ke (x y:bz) (h1:x.ty.length≤9223372036854775807) (h2:x.lb.length≤9223372036854775807):ae Tryz.prog Lr [jF x,jF y] (.bool (sI x y)):=by
 refine ab (ic:=BQ.body) aq Sd rfl rfl ?_
 have ft:∀b:Bool,(true&&b)=b:=fun _=>rfl
 have ff:∀b:Bool,(false&&b)=false:=fun _=>rfl
 have nt:∀{a b:Int},(a != b)=true→(a==b)=false:=fun h=>by simpa using h
 have nf:∀{a b:Int},(a != b)=false→(a==b)=true:=fun h=>by simpa using h
 have lt:∀{a b:List Int},((a.length:Int) != (b.length:Int))=true→(a==b)=false:=fun {a b} h=>by
  rw [mT]
  intro e;rw [e] at h;simp at h
 have lf:∀{a b:List Int},((a.length:Int) != (b.length:Int))=false→a.length=b.length:=fun {a b} h=>by
  have h2:¬((a.length:Int)≠(b.length:Int)):=by simpa using h
  omega
 have nb:∀{b:Bool},(!b)=true→b=false:=fun {b} h=>by cases b<;>first | rfl | cases h
 have nc:∀{b:Bool},(!b)=false→b=true:=fun {b} h=>by cases b<;>first | rfl | cases h
 unfold sI
 simp only [go_sem,BQ]
 refine ⟨fun c1=>?_,fun c1=>⟨fun c2=>?_,fun c2=>⟨fun c3=>?_,fun c3=>⟨fun c4=>?_,fun c4=>⟨fun c5=>?_,fun c5=>⟨fun c6=>?_,fun c6=>⟨fun c7=>?_,fun c7=>?_⟩⟩⟩⟩⟩⟩⟩
 ·rw [nt c1]
  exact aI
 ·rw [nf c1,nt c2]
  exact aI
 ·rw [nf c1,nf c2,nt c3]
  exact aI
 ·rw [nf c1,nf c2,nf c3,nt c4]
  exact aI
 ·rw [nf c1,nf c2,nf c3,nf c4,nb c5]
  exact aI
 ·rw [nf c1,nf c2,nf c3,nf c4,nc c5,lt c6]
  exact aI
 ·rw [nf c1,nf c2,nf c3,nf c4,nc c5,lt c7,Bool.and_false]
  exact aI
 rw [nf c1,nf c2,nf c3,nf c4,nc c5,ft,ft,ft,ft,ft]
 replace c6:=lf c6
 replace c7:=lf c7
 refine an (fun i:Nat=>⟨[(2,.mp 2 9 0 0),(3,.mp 3 9 0 0),(5,.int .i64 i)],[(3,⟨192,9,[[.int .i64 y.op,.int .i64 y.a,.int .i64 y.b,.int .u64 y.n,.int .i64 y.k,.int .i64 y.v,.int .i64 y.x,.sl 1 (y.ty.map gD),.sl 1 (y.lb.map gD)]],true⟩),(2,⟨192,9,[[.int .i64 x.op,.int .i64 x.a,.int .i64 x.b,.int .u64 x.n,.int .i64 x.k,.int .i64 x.v,.int .i64 x.x,.sl 1 (x.ty.map gD),.sl 1 (x.lb.map gD)]],true⟩)]⟩) (fun i=>i≤x.ty.length∧∀k,k<i→ah x.ty k=ah y.ty k) (fun i=>x.ty.length - i) 0 ⟨cE _,fun k hk=>absurd hk (Nat.not_lt_zero k)⟩ (Wk.of ?_ ?_) ?_
 ·simp only [go_sem];try simp
 ·simp only [go_sem]
 rintro i ⟨hi,hk⟩
 by_cases q1:(i:Int)<(x.ty.length:Int)
 ·have e8:=wi (n:=(i:Int)+1) (by omega) (by omega)
  simp only [go_sem,aF q1]
  refine ⟨by omega,q1,by omega,by omega,fun g2=>?_,fun g2=>aC (i+1) ⟨by omega,fun k hk9=>?_⟩ (show x.ty.length - (i+1)<x.ty.length - i by omega) (Wk.of ?_ ?_)⟩
  ·have r:(x.ty==y.ty)=false:=by
    rw [mT]
    intro e
    rw [e] at g2
    simp at g2
   rw [r,ff]
   exact aI
  ·rcases dT k i with h4 | h4
   ·exact hk k h4
   ·obtain rfl:k=i:=by omega
    simpa using g2
  ·simp only [go_sem,e8]
   try simp
  ·simp only [go_sem]
 ·have r:(x.ty==y.ty)=true:=by rw [yG c6 (fun k hk2=>hk k (by omega))];exact beq_self_eq_true _
  rw [r,ft]
  simp only [go_sem,aG q1]
  refine an (fun i:Nat=>⟨[(2,.mp 2 9 0 0),(3,.mp 3 9 0 0),(6,.int .i64 i)],[(3,⟨192,9,[[.int .i64 y.op,.int .i64 y.a,.int .i64 y.b,.int .u64 y.n,.int .i64 y.k,.int .i64 y.v,.int .i64 y.x,.sl 1 (y.ty.map gD),.sl 1 (y.lb.map gD)]],true⟩),(2,⟨192,9,[[.int .i64 x.op,.int .i64 x.a,.int .i64 x.b,.int .u64 x.n,.int .i64 x.k,.int .i64 x.v,.int .i64 x.x,.sl 1 (x.ty.map gD),.sl 1 (x.lb.map gD)]],true⟩)]⟩) (fun i=>i≤x.lb.length∧∀k,k<i→ah x.lb k=ah y.lb k) (fun i=>x.lb.length - i) 0 ⟨cE _,fun k hk=>absurd hk (Nat.not_lt_zero k)⟩ (Wk.of ?_ ?_) ?_
  ·simp only [go_sem];try simp
  ·simp only [go_sem]
  rintro j ⟨hj,hk2⟩
  by_cases q2:(j:Int)<(x.lb.length:Int)
  ·have e9:=wi (n:=(j:Int)+1) (by omega) (by omega)
   simp only [go_sem,aF q2]
   refine ⟨by omega,q2,by omega,by omega,fun g2=>?_,fun g2=>aC (j+1) ⟨by omega,fun k hk9=>?_⟩ (show x.lb.length - (j+1)<x.lb.length - j by omega) (Wk.of ?_ ?_)⟩
   ·have r:(x.lb==y.lb)=false:=by
     rw [mT]
     intro e
     rw [e] at g2
     simp at g2
    rw [r]
    exact aI
   ·rcases dT k j with h4 | h4
    ·exact hk2 k h4
    ·obtain rfl:k=j:=by omega
     simpa using g2
   ·simp only [go_sem,e9]
    try simp
   ·simp only [go_sem]
  ·have r:(x.lb==y.lb)=true:=by rw [yG c7 (fun k hk3=>hk2 k (by omega))];exact beq_self_eq_true _
   rw [r]
   simp only [go_sem,aG q2]
   exact aI
theorem Vx (x y:bz):sI x y=decide (x=y):=by
 obtain ⟨a1,a2,a3,a4,a5,a6,a7,a8,a9⟩:=x
 obtain ⟨b1,b2,b3,b4,b5,b6,b7,b8,b9⟩:=y
 unfold sI
 by_cases h1:a1=b1<;>by_cases h2:a2=b2<;>by_cases h3:a3=b3<;>by_cases h4:a4=b4<;>by_cases h5:a5=b5<;>by_cases h6:a6=b6<;>by_cases h7:a7=b7<;>by_cases h8:a8=b8<;>by_cases h9:a9=b9<;>simp [h1,h2,h3,h4,h5,h6,h7,h8,h9]
theorem Kc (x y:bz) (h:Kx x):ae Tryz.prog Lr [jF x,jF y] (.bool (decide (x=y))):=by
 rw [← Vx]
 exact Ke x y (by have:=h.1;omega) (by have:=h.2;omega)
theorem eS {j n:Nat} (h:j<n) (hn:n≤9223372036854775807):IntKind.i64.wrap ((j:Int)+1)=(j:Int)+1:=wi (by omega) (by omega)
theorem fF {α:Type} [Inhabited α] {a b:List α} (hl:a.length=b.length) (h:∀k,k<a.length→ah a k=ah b k):a=b:=by
 apply List.ext_getElem hl
 intro i h1 h2
 have:=h i h1
 rwa [bD h1,bD h2] at this
end
section
theorem Lh {x y:Im}:((x.m==y.m)&&((x.n==y.n)&&((x.k==y.k)&&((x.f==y.f)&&((x.te==y.te)&&((x.tl.mn==y.tl.mn)&&((x.tl.mx==y.tl.mx)&&((x.tl.hs==y.tl.hs)&&((x.me.mn==y.me.mn)&&((x.me.mx==y.me.mx)&&((x.me.hs==y.me.hs)&&((x.g.v==y.g.v)&&(x.g.mu==y.g.mu)))))))))))))=decide (x=y):=by
 obtain ⟨a1,a2,a3,a4,a5,⟨a6,a7,a8⟩,⟨a9,a10,a11⟩,⟨a12,a13⟩⟩:=x
 obtain ⟨b1,b2,b3,b4,b5,⟨b6,b7,b8⟩,⟨b9,b10,b11⟩,⟨b12,b13⟩⟩:=y
 rw [Bool.eq_iff_iff]
 simp only [bY,beq_iff_eq,cP,Im.mk.injEq,Lm.mk.injEq,Gl.mk.injEq,and_assoc]
theorem Lo {x y:Lm}:((x.mn==y.mn)&&((x.mx==y.mx)&&(x.hs==y.hs)))=decide (x=y):=by
 obtain ⟨a1,a2,a3⟩:=x
 obtain ⟨b1,b2,b3⟩:=y
 rw [Bool.eq_iff_iff]
 simp only [bY,beq_iff_eq,cP,Lm.mk.injEq,and_assoc]
theorem LH {x y:Tb}:((x.e==y.e)&&((x.l.mn==y.l.mn)&&((x.l.mx==y.l.mx)&&(x.l.hs==y.l.hs))))=decide (x=y):=by
 obtain ⟨a1,⟨a2,a3,a4⟩⟩:=x
 obtain ⟨b1,⟨b2,b3,b4⟩⟩:=y
 rw [Bool.eq_iff_iff]
 simp only [bY,beq_iff_eq,cP,Tb.mk.injEq,Lm.mk.injEq,and_assoc]
theorem K5 {x y:Ex}:((x.n==y.n)&&((x.k==y.k)&&(x.i==y.i)))=decide (x=y):=by
 obtain ⟨a1,a2,a3⟩:=x
 obtain ⟨b1,b2,b3⟩:=y
 rw [Bool.eq_iff_iff]
 simp only [bY,beq_iff_eq,cP,Ex.mk.injEq,and_assoc]
theorem uQ {x y:Gl}:((x.v==y.v)&&(x.mu==y.mu))=decide (x=y):=by
 obtain ⟨a1,a2⟩:=x
 obtain ⟨b1,b2⟩:=y
 rw [Bool.eq_iff_iff]
 simp only [bY,beq_iff_eq,cP,Gl.mk.injEq]
attribute [local go_sem] cY dp dz cH dO c_ mh jV d_ dU dE bG
theorem dA (a b:List bz) (ha:a.length≤9223372036854775807∧∀x∈a,Kx x):ae Tryz.prog Zq [.sl 9 (a.map bG),.sl 9 (b.map bG)] (.bool (decide (a=b))):=by
 refine ab (ic:=Hb.body) aq XF rfl rfl ?_
 by_cases hl:(a.length:Int)=(b.length:Int)
 rotate_left
 ·rw [aG (fun h=>hl (by rw [h]))]
  simp only [go_sem,Hb,aZ hl]
  exact aj
 simp only [go_sem,Hb,aL hl]
 refine an (fun j:Nat=>⟨[(5,.int .i64 j),(0,.sl 9 (a.map bG)),(1,.sl 9 (b.map bG))],[]⟩) (fun j=>j≤a.length∧∀k,k<j→ah a k=ah b k) (fun j=>a.length - j) 0 ⟨cE _,fun k hk=>by omega⟩ (Wk.of ?_ ?_) ?_
 ·simp only [go_sem];try simp
 ·simp only [go_sem]
 rintro j ⟨hj,hx⟩
 by_cases h1:(j:Int)<(a.length:Int)
 rotate_left
 ·rw [aF (fF (by omega) fun k hk=>hx k (by omega))]
  simp only [go_sem,aG h1]
  exact aj
 have hj':j<a.length:=by omega
 have hjb:(j:Int)<(b.length:Int):=by omega
 have e8:=eS hj' (by omega)
 obtain ⟨ha,hs⟩:=ha
 have hX:=bp hs hj'
 clear hs
 have neq:ah a j≠ah b j→decide (a=b)=false:=fun h=>aG (fun e=>h (by rw [e]))
 have cc:=Kc (ah a j) (ah b j) hX
 try simp only [dE,dp] at cc
 by_cases h2:ah a j=ah b j
 ·rw [aF h2] at cc
  simp only [go_sem,aF h1]
  refine ⟨by omega,h1,by omega,hjb,?_⟩
  refine aa (cc) ?_
  simp only [go_sem]
  refine aC (j+1) ⟨show j+1≤a.length by omega,fun k hk=>?_⟩ (show a.length - (j+1)<a.length - j by omega) (Wk.of ?_ ?_)
  ·rcases dT k j with h | h
   ·exact hx k h
   ·rw [show k=j by omega];exact h2
  ·simp only [go_sem,e8];try simp
  ·simp only [go_sem]
 ·rw [aG h2] at cc
  rw [neq h2]
  simp only [go_sem,aF h1]
  refine ⟨by omega,h1,by omega,hjb,?_⟩
  refine aa (cc) ?_
  simp only [go_sem]
  exact aj
theorem qd (a b:List Int) (ha:a.length≤9223372036854775807):ae Tryz.prog Zj [.sl 1 (a.map gD),.sl 1 (b.map gD)] (.bool (decide (a=b))):=by
 refine ab (ic:=G9.body) aq Xu rfl rfl ?_
 by_cases hl:(a.length:Int)=(b.length:Int)
 rotate_left
 ·rw [aG (fun h=>hl (by rw [h]))]
  simp only [go_sem,G9,aZ hl]
  exact aj
 simp only [go_sem,G9,aL hl]
 refine an (fun j:Nat=>⟨[(5,.int .i64 j),(0,.sl 1 (a.map gD)),(1,.sl 1 (b.map gD))],[]⟩) (fun j=>j≤a.length∧∀k,k<j→ah a k=ah b k) (fun j=>a.length - j) 0 ⟨cE _,fun k hk=>by omega⟩ (Wk.of ?_ ?_) ?_
 ·simp only [go_sem];try simp
 ·simp only [go_sem]
 rintro j ⟨hj,hx⟩
 by_cases h1:(j:Int)<(a.length:Int)
 rotate_left
 ·rw [aF (fF (by omega) fun k hk=>hx k (by omega))]
  simp only [go_sem,aG h1]
  exact aj
 have hj':j<a.length:=by omega
 have hjb:(j:Int)<(b.length:Int):=by omega
 have e8:=eS hj' (by omega)
 have neq:ah a j≠ah b j→decide (a=b)=false:=fun h=>aG (fun e=>h (by rw [e]))
 by_cases h2:ah a j=ah b j
 ·simp only [go_sem,aF h1,aL h2]
  refine ⟨by omega,h1,by omega,hjb,aC (j+1) ⟨show j+1≤a.length by omega,fun k hk=>?_⟩ (show a.length - (j+1)<a.length - j by omega) (Wk.of ?_ ?_)⟩
  ·rcases dT k j with h | h
   ·exact hx k h
   ·rw [show k=j by omega];exact h2
  ·simp only [go_sem,e8];try simp
  ·simp only [go_sem]
 ·rw [neq h2]
  simp only [go_sem,aF h1,aZ h2]
  refine ⟨by omega,h1,by omega,hjb,?_⟩
  exact aj
theorem ZZ (x y:Ft) (h:smF x):ae Tryz.prog Uk [.agg (t_ x),.agg (t_ y)] (.bool (decide (x=y))):=by
 refine ab (ic:=uk.body) aq Si rfl rfl ?_
 have d1:=qd x.ps y.ps h.1
 have d2:=qd x.rs y.rs h.2
 by_cases c1:x.ps=y.ps
 rotate_left
 ·rw [aG c1] at d1
  rw [aG (fun e=>c1 (by rw [e]))]
  simp only [go_sem,uk]
  refine aa (d1) ?_
  simp only [go_sem]
  exact aj
 rw [aF c1] at d1
 by_cases c2:x.rs=y.rs
 rotate_left
 ·rw [aG c2] at d2
  rw [aG (fun e=>c2 (by rw [e]))]
  simp only [go_sem,uk]
  refine aa (d1) ?_
  simp only [go_sem]
  refine aa (d2) ?_
  simp only [go_sem]
  exact aj
 rw [aF c2] at d2
 rw [aF (show x=y by obtain ⟨a1,a2⟩:=x;obtain ⟨b1,b2⟩:=y;simp only at c1 c2;rw [c1,c2])]
 simp only [go_sem,uk]
 refine aa (d1) ?_
 simp only [go_sem]
 refine aa (d2) ?_
 simp only [go_sem]
 exact aj
theorem Ki (a b:List Ft) (ha:a.length≤9223372036854775807∧∀x∈a,smF x):ae Tryz.prog Za [.sl 2 (a.map t_),.sl 2 (b.map t_)] (.bool (decide (a=b))):=by
 refine ab (ic:=G5.body) aq Xk rfl rfl ?_
 by_cases hl:(a.length:Int)=(b.length:Int)
 rotate_left
 ·rw [aG (fun h=>hl (by rw [h]))]
  simp only [go_sem,G5,aZ hl]
  exact aj
 simp only [go_sem,G5,aL hl]
 refine an (fun j:Nat=>⟨[(5,.int .i64 j),(0,.sl 2 (a.map t_)),(1,.sl 2 (b.map t_))],[]⟩) (fun j=>j≤a.length∧∀k,k<j→ah a k=ah b k) (fun j=>a.length - j) 0 ⟨cE _,fun k hk=>by omega⟩ (Wk.of ?_ ?_) ?_
 ·simp only [go_sem];try simp
 ·simp only [go_sem]
 rintro j ⟨hj,hx⟩
 by_cases h1:(j:Int)<(a.length:Int)
 rotate_left
 ·rw [aF (fF (by omega) fun k hk=>hx k (by omega))]
  simp only [go_sem,aG h1]
  exact aj
 have hj':j<a.length:=by omega
 have hjb:(j:Int)<(b.length:Int):=by omega
 have e8:=eS hj' (by omega)
 obtain ⟨ha,hs⟩:=ha
 have hX:=bp hs hj'
 clear hs
 have neq:ah a j≠ah b j→decide (a=b)=false:=fun h=>aG (fun e=>h (by rw [e]))
 have cc:=ZZ (ah a j) (ah b j) hX
 try simp only [dE,dp] at cc
 by_cases h2:ah a j=ah b j
 ·rw [aF h2] at cc
  simp only [go_sem,aF h1]
  refine ⟨by omega,h1,by omega,hjb,?_⟩
  refine aa (cc) ?_
  simp only [go_sem]
  refine aC (j+1) ⟨show j+1≤a.length by omega,fun k hk=>?_⟩ (show a.length - (j+1)<a.length - j by omega) (Wk.of ?_ ?_)
  ·rcases dT k j with h | h
   ·exact hx k h
   ·rw [show k=j by omega];exact h2
  ·simp only [go_sem,e8];try simp
  ·simp only [go_sem]
 ·rw [aG h2] at cc
  rw [neq h2]
  simp only [go_sem,aF h1]
  refine ⟨by omega,h1,by omega,hjb,?_⟩
  refine aa (cc) ?_
  simp only [go_sem]
  exact aj
theorem PR (a b:List Im) (ha:a.length≤9223372036854775807):ae Tryz.prog Y5 [.sl 13 (a.map Ed),.sl 13 (b.map Ed)] (.bool (decide (a=b))):=by
 refine ab (ic:=G1.body) aq Xe rfl rfl ?_
 by_cases hl:(a.length:Int)=(b.length:Int)
 rotate_left
 ·rw [aG (fun h=>hl (by rw [h]))]
  simp only [go_sem,G1,aZ hl]
  exact aj
 simp only [go_sem,G1,aL hl]
 refine an (fun j:Nat=>⟨[(5,.int .i64 j),(0,.sl 13 (a.map Ed)),(1,.sl 13 (b.map Ed))],[]⟩) (fun j=>j≤a.length∧∀k,k<j→ah a k=ah b k) (fun j=>a.length - j) 0 ⟨cE _,fun k hk=>by omega⟩ (Wk.of ?_ ?_) ?_
 ·simp only [go_sem];try simp
 ·simp only [go_sem]
 rintro j ⟨hj,hx⟩
 by_cases h1:(j:Int)<(a.length:Int)
 rotate_left
 ·rw [aF (fF (by omega) fun k hk=>hx k (by omega))]
  simp only [go_sem,aG h1]
  exact aj
 have hj':j<a.length:=by omega
 have hjb:(j:Int)<(b.length:Int):=by omega
 have e8:=eS hj' (by omega)
 have neq:ah a j≠ah b j→decide (a=b)=false:=fun h=>aG (fun e=>h (by rw [e]))
 by_cases h2:ah a j=ah b j
 ·simp only [go_sem,aF h1,Lh,aF h2,cQ]
  refine ⟨by omega,h1,by omega,hjb,aC (j+1) ⟨show j+1≤a.length by omega,fun k hk=>?_⟩ (show a.length - (j+1)<a.length - j by omega) (Wk.of ?_ ?_)⟩
  ·rcases dT k j with h | h
   ·exact hx k h
   ·rw [show k=j by omega];exact h2
  ·simp only [go_sem,e8];try simp
  ·simp only [go_sem]
 ·rw [neq h2]
  simp only [go_sem,aF h1,Lh,aG h2,cZ]
  refine ⟨by omega,h1,by omega,hjb,?_⟩
  exact aj
theorem PO (a b:List Ex) (ha:a.length≤9223372036854775807):ae Tryz.prog Y3 [.sl 3 (a.map Bc),.sl 3 (b.map Bc)] (.bool (decide (a=b))):=by
 refine ab (ic:=GZ.body) aq Xc rfl rfl ?_
 by_cases hl:(a.length:Int)=(b.length:Int)
 rotate_left
 ·rw [aG (fun h=>hl (by rw [h]))]
  simp only [go_sem,GZ,aZ hl]
  exact aj
 simp only [go_sem,GZ,aL hl]
 refine an (fun j:Nat=>⟨[(5,.int .i64 j),(0,.sl 3 (a.map Bc)),(1,.sl 3 (b.map Bc))],[]⟩) (fun j=>j≤a.length∧∀k,k<j→ah a k=ah b k) (fun j=>a.length - j) 0 ⟨cE _,fun k hk=>by omega⟩ (Wk.of ?_ ?_) ?_
 ·simp only [go_sem];try simp
 ·simp only [go_sem]
 rintro j ⟨hj,hx⟩
 by_cases h1:(j:Int)<(a.length:Int)
 rotate_left
 ·rw [aF (fF (by omega) fun k hk=>hx k (by omega))]
  simp only [go_sem,aG h1]
  exact aj
 have hj':j<a.length:=by omega
 have hjb:(j:Int)<(b.length:Int):=by omega
 have e8:=eS hj' (by omega)
 have neq:ah a j≠ah b j→decide (a=b)=false:=fun h=>aG (fun e=>h (by rw [e]))
 by_cases h2:ah a j=ah b j
 ·simp only [go_sem,aF h1,K5,aF h2,cQ]
  refine ⟨by omega,h1,by omega,hjb,aC (j+1) ⟨show j+1≤a.length by omega,fun k hk=>?_⟩ (show a.length - (j+1)<a.length - j by omega) (Wk.of ?_ ?_)⟩
  ·rcases dT k j with h | h
   ·exact hx k h
   ·rw [show k=j by omega];exact h2
  ·simp only [go_sem,e8];try simp
  ·simp only [go_sem]
 ·rw [neq h2]
  simp only [go_sem,aF h1,K5,aG h2,cZ]
  refine ⟨by omega,h1,by omega,hjb,?_⟩
  exact aj
end
section
theorem Ro {x y:List UInt8} (h:x=y):(x==y)=true:=by simpa using h
theorem Wa {x y:List UInt8} (h:¬x=y):(x==y)=false:=by simpa using h
attribute [local go_sem] cY dp dz cH dO c_ mh jV d_ dU bG
theorem J3 (a b:List Cd) (ha:a.length≤9223372036854775807∧∀x∈a,VE x):ae Tryz.prog Y9 [.sl 3 (a.map tX),.sl 3 (b.map tX)] (.bool (decide (a=b))):=by
 refine ab (ic:=G4.body) aq Xi rfl rfl ?_
 by_cases hl:(a.length:Int)=(b.length:Int)
 rotate_left
 ·rw [aG (fun h=>hl (by rw [h]))]
  simp only [go_sem,G4,aZ hl]
  exact aj
 simp only [go_sem,G4,aL hl]
 refine an (fun j:Nat=>⟨[(5,.int .i64 j),(0,.sl 3 (a.map tX)),(1,.sl 3 (b.map tX))],[]⟩) (fun j=>j≤a.length∧∀k,k<j→ah a k=ah b k) (fun j=>a.length - j) 0 ⟨cE _,fun k hk=>by omega⟩ (Wk.of ?_ ?_) ?_
 ·simp only [go_sem];try simp
 ·simp only [go_sem]
 rintro j ⟨hj,hx⟩
 by_cases h1:(j:Int)<(a.length:Int)
 rotate_left
 ·rw [aF (fF (by omega) fun k hk=>hx k (by omega))]
  simp only [go_sem,aG h1]
  exact aj
 have hj':j<a.length:=by omega
 have hjb:(j:Int)<(b.length:Int):=by omega
 have e8:=eS hj' (by omega)
 obtain ⟨ha,hs⟩:=ha
 have hX:=bp hs hj'
 clear hs
 have neq:ah a j≠ah b j→decide (a=b)=false:=fun h=>aG (fun e=>h (by rw [e]))
 by_cases c1:(ah a j).t=(ah b j).t
 rotate_left
 ·rw [neq (fun e=>c1 (by rw [e]))]
  simp only [go_sem,aF h1,aZ c1]
  refine ⟨by omega,h1,by omega,hjb,?_⟩
  exact aj
 by_cases c2:(ah a j).lo=(ah b j).lo
 rotate_left
 ·rw [neq (fun e=>c2 (by rw [e]))]
  simp only [go_sem,aF h1,aL c1]
  refine ⟨by omega,h1,by omega,hjb,?_⟩
  refine ⟨by omega,h1,by omega,hjb,?_⟩
  have cc1:=qd (ah a j).lo (ah b j).lo hX.1
  rw [aG c2] at cc1
  refine aa (cc1) ?_
  simp only [go_sem,aF h1,aL c1]
  exact aj
 by_cases c3:(ah a j).b=(ah b j).b
 rotate_left
 ·rw [neq (fun e=>c3 (by rw [e]))]
  simp only [go_sem,aF h1,aL c1]
  refine ⟨by omega,h1,by omega,hjb,?_⟩
  refine ⟨by omega,h1,by omega,hjb,?_⟩
  have cc1:=qd (ah a j).lo (ah b j).lo hX.1
  rw [aF c2] at cc1
  refine aa (cc1) ?_
  simp only [go_sem,aF h1,aL c1]
  refine ⟨by omega,h1,by omega,hjb,?_⟩
  have cc2:=dA (ah a j).b (ah b j).b hX.2
  rw [aG c3] at cc2
  refine aa (cc2) ?_
  simp only [go_sem,aF h1,aL c1]
  exact aj
 have h2:ah a j=ah b j:=by
  generalize ah a j=X at *
  generalize ah b j=Y at *
  obtain ⟨x0,x1,x2⟩:=X
  obtain ⟨y0,y1,y2⟩:=Y
  simp only at c1 c2 c3
  simp only [c1,c2,c3]
 simp only [go_sem,aF h1,aL c1]
 refine ⟨by omega,h1,by omega,hjb,?_⟩
 refine ⟨by omega,h1,by omega,hjb,?_⟩
 have cc1:=qd (ah a j).lo (ah b j).lo hX.1
 rw [aF c2] at cc1
 refine aa (cc1) ?_
 simp only [go_sem,aF h1,aL c1]
 refine ⟨by omega,h1,by omega,hjb,?_⟩
 have cc2:=dA (ah a j).b (ah b j).b hX.2
 rw [aF c3] at cc2
 refine aa (cc2) ?_
 simp only [go_sem,aF h1,aL c1]
 refine aC (j+1) ⟨show j+1≤a.length by omega,fun k hk=>?_⟩ (show a.length - (j+1)<a.length - j by omega) (Wk.of ?_ ?_)
 ·rcases dT k j with h | h
  ·exact hx k h
  ·rw [show k=j by omega];exact h2
 ·simp only [go_sem,e8];try simp
 ·simp only [go_sem]
theorem J7 (a b:List Gd) (ha:a.length≤9223372036854775807∧∀x∈a,VH x):ae Tryz.prog Y4 [.sl 3 (a.map ua),.sl 3 (b.map ua)] (.bool (decide (a=b))):=by
 refine ab (ic:=G0.body) aq Xd rfl rfl ?_
 by_cases hl:(a.length:Int)=(b.length:Int)
 rotate_left
 ·rw [aG (fun h=>hl (by rw [h]))]
  simp only [go_sem,G0,aZ hl]
  exact aj
 simp only [go_sem,G0,aL hl]
 refine an (fun j:Nat=>⟨[(5,.int .i64 j),(0,.sl 3 (a.map ua)),(1,.sl 3 (b.map ua))],[]⟩) (fun j=>j≤a.length∧∀k,k<j→ah a k=ah b k) (fun j=>a.length - j) 0 ⟨cE _,fun k hk=>by omega⟩ (Wk.of ?_ ?_) ?_
 ·simp only [go_sem];try simp
 ·simp only [go_sem]
 rintro j ⟨hj,hx⟩
 by_cases h1:(j:Int)<(a.length:Int)
 rotate_left
 ·rw [aF (fF (by omega) fun k hk=>hx k (by omega))]
  simp only [go_sem,aG h1]
  exact aj
 have hj':j<a.length:=by omega
 have hjb:(j:Int)<(b.length:Int):=by omega
 have e8:=eS hj' (by omega)
 obtain ⟨ha,hs⟩:=ha
 have hX:=bp hs hj'
 clear hs
 have neq:ah a j≠ah b j→decide (a=b)=false:=fun h=>aG (fun e=>h (by rw [e]))
 by_cases c1:(ah a j).g=(ah b j).g
 rotate_left
 ·rw [neq (fun e=>c1 (by rw [e]))]
  simp only [go_sem,aF h1,uQ,aG c1,cQ,cZ]
  refine ⟨by omega,h1,by omega,hjb,?_⟩
  exact aj
 by_cases c2:(ah a j).i=(ah b j).i
 rotate_left
 ·rw [neq (fun e=>c2 (by rw [e]))]
  simp only [go_sem,aF h1,uQ,aF c1,cQ,cZ]
  refine ⟨by omega,h1,by omega,hjb,?_⟩
  refine ⟨by omega,h1,by omega,hjb,?_⟩
  have cc1:=dA (ah a j).i (ah b j).i hX
  rw [aG c2] at cc1
  refine aa (cc1) ?_
  simp only [go_sem,aF h1,uQ,aF c1,cQ,cZ]
  exact aj
 have h2:ah a j=ah b j:=by
  generalize ah a j=X at *
  generalize ah b j=Y at *
  obtain ⟨x0,x1⟩:=X
  obtain ⟨y0,y1⟩:=Y
  simp only at c1 c2
  simp only [c1,c2]
 simp only [go_sem,aF h1,uQ,aF c1,cQ,cZ]
 refine ⟨by omega,h1,by omega,hjb,?_⟩
 refine ⟨by omega,h1,by omega,hjb,?_⟩
 have cc1:=dA (ah a j).i (ah b j).i hX
 rw [aF c2] at cc1
 refine aa (cc1) ?_
 simp only [go_sem,aF h1,uQ,aF c1,cQ,cZ]
 refine aC (j+1) ⟨show j+1≤a.length by omega,fun k hk=>?_⟩ (show a.length - (j+1)<a.length - j by omega) (Wk.of ?_ ?_)
 ·rcases dT k j with h | h
  ·exact hx k h
  ·rw [show k=j by omega];exact h2
 ·simp only [go_sem,e8];try simp
 ·simp only [go_sem]
theorem J4 (a b:List Cu) (ha:a.length≤9223372036854775807):ae Tryz.prog Y2 [.sl 3 (a.map t8),.sl 3 (b.map t8)] (.bool (decide (a=b))):=by
 refine ab (ic:=GY.body) aq Xb rfl rfl ?_
 by_cases hl:(a.length:Int)=(b.length:Int)
 rotate_left
 ·rw [aG (fun h=>hl (by rw [h]))]
  simp only [go_sem,GY,aZ hl]
  exact aj
 simp only [go_sem,GY,aL hl]
 refine an (fun j:Nat=>⟨[(5,.int .i64 j),(0,.sl 3 (a.map t8)),(1,.sl 3 (b.map t8))],[]⟩) (fun j=>j≤a.length∧∀k,k<j→ah a k=ah b k) (fun j=>a.length - j) 0 ⟨cE _,fun k hk=>by omega⟩ (Wk.of ?_ ?_) ?_
 ·simp only [go_sem];try simp
 ·simp only [go_sem]
 rintro j ⟨hj,hx⟩
 by_cases h1:(j:Int)<(a.length:Int)
 rotate_left
 ·rw [aF (fF (by omega) fun k hk=>hx k (by omega))]
  simp only [go_sem,aG h1]
  exact aj
 have hj':j<a.length:=by omega
 have hjb:(j:Int)<(b.length:Int):=by omega
 have e8:=eS hj' (by omega)
 have neq:ah a j≠ah b j→decide (a=b)=false:=fun h=>aG (fun e=>h (by rw [e]))
 by_cases c1:(ah a j).af=(ah b j).af
 rotate_left
 ·rw [neq (fun e=>c1 (by rw [e]))]
  simp only [go_sem,aF h1,aZ c1]
  refine ⟨by omega,h1,by omega,hjb,?_⟩
  exact aj
 by_cases c2:(ah a j).n=(ah b j).n
 rotate_left
 ·rw [neq (fun e=>c2 (by rw [e]))]
  simp only [go_sem,aF h1,aL c1,Wa c2,cQ,cZ]
  refine ⟨by omega,h1,by omega,hjb,?_⟩
  refine ⟨by omega,h1,by omega,hjb,?_⟩
  exact aj
 by_cases c3:(ah a j).b=(ah b j).b
 rotate_left
 ·rw [neq (fun e=>c3 (by rw [e]))]
  simp only [go_sem,aF h1,aL c1,Ro c2,cQ,cZ,fg,fe,Wa c3,cQ,cZ]
  refine ⟨by omega,h1,by omega,hjb,?_⟩
  refine ⟨by omega,h1,by omega,hjb,?_⟩
  refine ⟨by omega,h1,by omega,hjb,?_⟩
  exact aj
 have h2:ah a j=ah b j:=by
  generalize ah a j=X at *
  generalize ah b j=Y at *
  obtain ⟨x0,x1,x2⟩:=X
  obtain ⟨y0,y1,y2⟩:=Y
  simp only at c1 c2 c3
  simp only [c1,c2,c3]
 simp only [go_sem,aF h1,aL c1,Ro c2,cQ,cZ,fg,fe,Ro c3,cQ,cZ]
 refine ⟨by omega,h1,by omega,hjb,?_⟩
 refine ⟨by omega,h1,by omega,hjb,?_⟩
 refine ⟨by omega,h1,by omega,hjb,?_⟩
 refine aC (j+1) ⟨show j+1≤a.length by omega,fun k hk=>?_⟩ (show a.length - (j+1)<a.length - j by omega) (Wk.of ?_ ?_)
 ·rcases dT k j with h | h
  ·exact hx k h
  ·rw [show k=j by omega];exact h2
 ·simp only [go_sem,e8];try simp
 ·simp only [go_sem]
end
end Go.Proofs.YtjndcljjbpeljaaGreatDoor