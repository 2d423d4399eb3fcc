import Derived.Test.YtjndcljjbpeljaaGreatDoorPQl
import Derived.Shelf.Strings.Search3
import Derived.Shelf.Strings.Fields
import Derived.Shelf.Abstract
import Derived.OwnWalkIn
import Derived.TacticsInMore
import Derived.LoopNIn
import Derived.LoopIn
set_option linter.all false
set_option maxRecDepth 100000
set_option maxHeartbeats 4000000
namespace Go.Proofs.YtjndcljjbpeljaaGreatDoor
open Go Go.Mw
theorem fT (n i l e:Int):fh dq n i l e=if e=0 then dq else ⟨n,i,l,e⟩:=by
 unfold fh
 by_cases h:e=0
 ·rw [aK h,aD (fun q=>q.2 h)]
 ·rw [aD h,aK ⟨rfl,h⟩]
theorem sY (n i l e:Int):(fh dq n i l e).c=0→fh dq n i l e=dq:=by
 rw [fT]
 split
 ·exact fun _=>rfl
 ·rename_i h;exact fun q=>absurd q h
theorem Le {α:Type} {n:Int} {f:α→Int×Int} {g:Nat→α→Fa} (hg:∀(i:Nat) (x:α),fh dq n i (f x).1 (f x).2=g i x):∀(l:List α) (i:Nat) (F:Fa),(F.c=0→F=dq)→QM n i (l.map f) F=gr g i l F∧((gr g i l F).c=0→gr g i l F=dq)
 | [],i,F,h=>⟨rfl,h⟩
 | x :: l,i,F,h=>by
  rw [eW,QM,gr]
  by_cases hF:F.c=0
  ·rw [aD (by simp [hF]),aD (by simp [hF]),h hF,hg]
   exact Le hg l (i+1) _ (by rw [← hg];exact sY _ _ _ _)
  ·rw [aK hF,aK hF];exact ⟨rfl,h⟩
def jv (E X:Fa):Fa:=if E.c≠0 then E else X
theorem z6 (a b c:Fa):jv (jv a b) c=jv a (jv b c):=by
 unfold jv
 by_cases h:a.c=0<;>simp [h]
theorem iR {a b:Fa} (ha:a.c=0→a=dq) (hb:b.c=0→b=dq):(jv a b).c=0→jv a b=dq:=by
 unfold jv
 by_cases h:a.c=0
 ·rw [aD (by simp [h])];exact hb
 ·rw [aK h];exact ha
theorem fo {α:Type} {n most imp:Int} {f:α→Int×Int} {g:Nat→α→Fa} (hg:∀(i:Nat) (x:α),fh dq n i (f x).1 (f x).2=g i x) (l:List α) (h1:0≤imp∧imp≤140737488355328) (h3:l.length≤140737488355328) (h4:0≤most∧most≤140737488355328) (E:Fa) (hE:E.c=0→E=dq) :
  jh n most imp (l.map f) E=jv E (gr g 0 l (kx n l.length (most - imp)))∧((gr g 0 l (kx n l.length (most - imp))).c=0→gr g 0 l (kx n l.length (most - imp))=dq):=by
 have z:=Le hg l 0 (kx n l.length (most - imp)) OS
 refine ⟨?_,z.2⟩
 unfold jh
 rw [cY,wi (by omega) (by omega),wi (by omega) (by omega)]
 unfold jv
 by_cases h:E.c=0
 ·rw [aD (show ¬E.c≠0 by simp [h]),hE h,← z.1]
  congr 1
  unfold kx
  by_cases q:(l.length:Int)+imp>most
  ·rw [aK q,aK (show (l.length:Int)>most - imp by omega),fT,aD (by decide)]
   congr 1
   by_cases w:0<most - imp
   ·rw [aK w,aD (by omega)]
   ·rw [aD w]
    by_cases w2:most - imp<0
    ·rw [aK w2]
    ·rw [aD w2];omega
  ·rw [aD q,aD (show ¬(l.length:Int)>most - imp by omega)]
 ·rw [aK h,show (if (l.length:Int)+imp>most then fh E n (if 0<most - imp then most - imp else 0) 0 6 else E)=E by
   split
   ·unfold fh;rw [aD (fun q=>h q.1)]
   ·rfl]
  exact Og E h
theorem dv (n:Int) (i:Nat) (e:Int):fh dq n i 0 e=db n i e:=by rw [fT];rfl
theorem jM (P:bz→Bool) (n:Int) (i:Nat) (l:List bz):fh dq n i (gp P l).1 (gp P l).2=ov P n i l:=by rw [fT];rfl
theorem IA (P:bz→Bool) (i:Nat) (x:Gd):fh dq 6 i (Tg P x).1 (Tg P x).2=if j8 x.g.v=false then db 6 i 12 else ov P 6 i x.i:=by
 unfold Tg IB
 cases v:j8 x.g.v
 ·rw [aK rfl,aK (by decide),aK rfl];exact dv 6 i 12
 ·rw [aD (by decide),aD (by decide)];exact jM P 6 i x.i
theorem H2 (P:bz→Bool) (i:Nat) (x:Da):fh dq 10 i (SZ P x).1 (SZ P x).2=H1 P i x:=by
 unfold SZ H1
 split
 ·exact dv 10 i 1
 split
 ·exact dv 10 i 11
 split
 ·exact dv 10 i 6
 ·exact jM P 10 i x.o
theorem kU (P:bz→Bool) (i:Nat):∀(l:List (List bz)) (j:Nat) (F:Fa),(F.c=0→F=dq)→gr (fun _ r=>ov P 9 i r) j l F=jv F (fh dq 9 i (sg P l).1 (sg P l).2)
 | [],j,F,h=>by
  rw [gr]
  unfold jv
  by_cases q:F.c=0
  ·rw [aD (by simp [q]),h q];rfl
  ·rw [aK q]
 | x :: l,j,F,h=>by
  rw [gr]
  unfold jv
  by_cases q:F.c=0
  ·rw [aD (by simp [q]),aD (by simp [q]),kU P i l (j+1) _ (by rw [← jM];exact sY _ _ _ _)]
   rw [sg]
   unfold jv
   rw [← jM,fT]
   by_cases w:(gp P x).2=0
   ·rw [aK w,aD (show ¬dq.c≠0 by decide),aD (by simp [w])]
   ·rw [aD w,aK (show (⟨9,(i:Int),(gp P x).1,(gp P x).2⟩:Fa).c≠0 from w),aK w,fT,aD w]
  ·rw [aK q,aK q]
theorem Ih (P:bz→Bool) (i:Nat) (x:El):fh dq 9 i (S8 P x).1 (S8 P x).2=If P i x:=by
 unfold S8 If wl
 split
 ·rw [aD (by decide),kU P i _ _ _ od,dv];rfl
 split
 ·rw [aD (by decide),kU P i _ _ _ od,dv];rfl
 split
 ·rw [aD (by decide),kU P i _ _ _ od,dv];rfl
 split
 ·rw [aD (by decide),kU P i _ _ _ od,dv];rfl
 ·rw [aK rfl,kU P i _ _ _ (by rw [← jM];exact sY _ _ _ _),sg]
  unfold jv
  rw [← jM]
  by_cases w:(gp P x.o).2=0
  ·rw [aD (show ¬(gp P x.o).2≠0 by simp [w]),fT 9 i (gp P x.o).1 (gp P x.o).2,aK w,aD (show ¬dq.c≠0 by decide)]
  ·rw [aK w,aK (show (fh dq 9 i (gp P x.o).1 (gp P x.o).2).c≠0 by rw [fT,aD w];exact w)]
def k6:List Fa→Fa
 | []=>dq
 | F :: r=>if F.c≠0 then F else k6 r
theorem Ix (F:Fa) (r:List Fa):k6 (F :: r)=jv F (k6 r):=rfl
def Kj (P:bz→Bool) (m:Md):Fa:=k6 [Q2 m,QO m,QF m,Q0 m,QW m,QL P m,QK m,KA m,QI P m,QH P m,QG m,HV P m]
theorem wQ (P:bz→Bool) (m:Md) (h:oN m):pG P m=Kj P m:=by
 have hc:∀k,(0:Int)≤(ju k m.ims:Nat)∧((ju k m.ims:Nat):Int)≤140737488355328:=fun k=>⟨by omega,by have:=dn (m7 k m.ims) h.ims;omega⟩
 have z0:(0:Int)≤0∧(0:Int)≤140737488355328:=by decide
 have ft0:dq.c=0→dq=dq:=fun _=>rfl
 obtain ⟨e1,t1⟩:=fo (n:=1) (most:=64) (imp:=0) (g:=fun i x=>db 1 i (qF x)) (f:=fun x=>(0,qF x)) (fun i x=>dv 1 i _) m.ts z0 h.ts.1 (by decide) dq ft0
 have e1':OU m=Q2 m:=e1
 have t1':(OU m).c=0→OU m=dq:=by rw [e1'];exact t1
 obtain ⟨e2,t2⟩:=fo (n:=2) (most:=32) (imp:=0) (g:=fun i x=>db 2 i (uU x)) (f:=fun x=>(0,uU x)) (fun i x=>dv 2 i _) m.ims z0 h.ims (by decide) (OU m) t1'
 have e2':QP m=jv (OU m) (QO m):=e2
 have t2':=iR t1' t2
 rw [show jv (OU m) _=QP m from e2.symm] at t2'
 obtain ⟨e3,t3⟩:=fo (n:=3) (most:=64) (g:=fun i x=>db 3 i (tY x)) (f:=fun x=>(0,tY x)) (fun i x=>dv 3 i _) m.fs (hc 0) h.fs.1 (by decide) (QP m) t2'
 have e3':QQ m=jv (QP m) (QF m):=e3
 have t3':=iR t2' t3
 rw [show jv (QP m) _=QQ m from e3.symm] at t3'
 obtain ⟨e4,t4⟩:=fo (n:=4) (most:=4) (g:=fun i x=>db 4 i (uc x)) (f:=fun x=>(0,uc x)) (fun i x=>dv 4 i _) m.tbs (hc 1) h.tbs (by decide) (QQ m) t3'
 have e4':QS m=jv (QQ m) (Q0 m):=e4
 have t4':=iR t3' t4
 rw [show jv (QQ m) _=QS m from e4.symm] at t4'
 obtain ⟨e5,t5⟩:=fo (n:=5) (most:=2) (g:=fun i x=>db 5 i (vT x)) (f:=fun x=>(0,vT x)) (fun i x=>dv 5 i _) m.ms (hc 2) h.ms (by decide) (QS m) t4'
 have e5':QT m=jv (QS m) (QW m):=e5
 have t5':=iR t4' t5
 rw [show jv (QS m) _=QT m from e5.symm] at t5'
 obtain ⟨e6,t6⟩:=fo (n:=6) (most:=32) (g:=fun i x=>if j8 x.g.v=false then db 6 i 12 else ov P 6 i x.i) (f:=Tg P) (IA P) m.gs (hc 3) h.gs.1 (by decide) (QT m) t5'
 have e6':QU P m=jv (QT m) (QL P m):=e6
 have t6':=iR t5' t6
 rw [show jv (QT m) _=QU P m from e6.symm] at t6'
 obtain ⟨e7,t7⟩:=fo (n:=7) (most:=64) (imp:=0) (g:=fun i x=>db 7 i (x7 x)) (f:=fun x=>(0,x7 x)) (fun i x=>dv 7 i _) m.exs z0 h.exs (by decide) (QU P m) t6'
 have e7':OV P m=jv (QU P m) (QK m):=e7
 have t7':=iR t6' t7
 rw [show jv (QU P m) _=OV P m from e7.symm] at t7'
 have e8':Ln P m=jv (OV P m) (KA m):=by
  unfold Ln KA jv
  by_cases q:(OV P m).c=0
  ·rw [aD (show ¬(OV P m).c≠0 by simp [q])]
   split
   ·rw [t7' q];exact dv 8 0 11
   ·exact t7' q
  ·rw [aK q]
   split
   ·unfold fh;rw [aD (fun w=>q w.1)]
   ·rfl
 have t8':(Ln P m).c=0→Ln P m=dq:=by
  rw [e8']
  refine iR t7' ?_
  unfold KA
  split
  ·exact od
  ·exact ft0
 obtain ⟨e9,t9⟩:=fo (n:=9) (most:=16) (imp:=0) (g:=If P) (f:=S8 P) (Ih P) m.els z0 h.els.1 (by decide) (Ln P m) t8'
 have e9':QV P m=jv (Ln P m) (QI P m):=e9
 have t9':=iR t8' t9
 rw [show jv (Ln P m) _=QV P m from e9.symm] at t9'
 obtain ⟨e10,t10⟩:=fo (n:=10) (most:=16) (imp:=0) (g:=H1 P) (f:=SZ P) (H2 P) m.ds z0 h.ds.1 (by decide) (QV P m) t9'
 have e10':As P m=jv (QV P m) (QH P m):=e10
 have t10':=iR t9' t10
 rw [show jv (QV P m) _=As P m from e10.symm] at t10'
 obtain ⟨e11,t11⟩:=fo (n:=11) (most:=8) (imp:=0) (g:=fun i x=>db 11 i (uD x)) (f:=fun x=>(0,uD x)) (fun i x=>dv 11 i _) m.cs z0 h.cs.1 (by decide) (As P m) t10'
 have e11':uZ P m=jv (As P m) (QG m):=e11
 have t11':=iR t10' t11
 rw [show jv (As P m) _=uZ P m from e11.symm] at t11'
 have hfl:=h.fs.1
 obtain ⟨e12,t12⟩:=fo (n:=12) (most:=(m.fs.length:Int)) (imp:=0) (g:=fun i x=>ov P 12 i x.b) (f:=fun x=>gp P x.b) (fun i x=>jM P 12 i x.b) m.fs z0 h.fs.1 (by omega) (uZ P m) t11'
 rw [show kx 12 m.fs.length ((m.fs.length:Int) - 0)=dq by unfold kx;rw [aD (by omega)]] at e12 t12
 have e12':pG P m=jv (uZ P m) (HV P m):=by
  unfold pG
  by_cases q:(uZ P m).c=0
  ·rw [aK q];exact e12
  ·rw [aD q];unfold jv;rw [aK q]
 have t12':jv (HV P m) dq=HV P m:=by
  unfold jv
  by_cases q:(HV P m).c=0
  ·rw [aD (by simp [q])];exact (t12 q).symm
  ·rw [aK q]
 rw [e12',e11',e10',e9',e8',e7',e6',e5',e4',e3',e2',e1']
 unfold Kj
 simp only [Ix,z6]
 rw [show k6 []=dq from rfl,t12']
theorem Ld:∀l:List Fa,k6 l=dq↔∀F∈l,F.c=0
 | []=>by simp [k6]
 | F :: r=>by
  rw [k6,List.forall_mem_cons,← Ld r]
  by_cases h:F.c=0
  ·rw [aD (by simp [h])]
   exact ⟨fun q=>⟨h,q⟩,fun q=>q.2⟩
  ·rw [aK h]
   exact ⟨fun q=>absurd (by rw [q];rfl) h,fun q=>absurd q.1 h⟩
theorem Tn {α:Type} [Inhabited α] {g:Nat→α→Fa}:∀(l:List α) (i:Nat) (F:Fa),(gr g i l F).c=0↔F.c=0∧∀k,k<l.length→(g (i+k) (ah l k)).c=0
 | [],i,F=>by simp [gr]
 | x :: l,i,F=>by
  rw [gr]
  by_cases h:F.c=0
  ·rw [aD (by simp [h]),Tn l (i+1) (g i x)]
   constructor
   ·rintro ⟨h1,h2⟩
    refine ⟨h,fun k hk=>?_⟩
    cases k with
    | zero=>exact h1
    | succ k=>have:=h2 k (by simpa using hk);rw [show i+(k+1)=i+1+k by omega];exact this
   ·rintro ⟨_,h2⟩
    exact ⟨h2 0 (by simp),fun k hk=>by have:=h2 (k+1) (by simpa using hk);rw [show i+(k+1)=i+1+k by omega] at this;exact this⟩
  ·rw [aK h]
   exact ⟨fun q=>absurd q h,fun q=>absurd q.1 h⟩
theorem Jz {α:Type} [Inhabited α] {Q:α→Prop} {l:List α}:(∀k,k<l.length→Q (ah l k))↔∀x∈l,Q x:=by
 constructor
 ·intro h x hx
  obtain ⟨k,hk,rfl⟩:=List.getElem_of_mem hx
  rw [← bD hk];exact h k hk
 ·intro h k hk
  rw [bD hk];exact h _ (List.getElem_mem hk)
theorem Yr {p n most:Int}:(kx p n most).c=0↔n≤most:=by
 unfold kx
 by_cases h:n>most
 ·rw [aK h];exact ⟨(fun q=>by cases q),fun q=>by omega⟩
 ·rw [aD h];exact ⟨fun _=>by omega,fun _=>rfl⟩
theorem mZ {p i e:Int}:(db p i e).c=0↔e=0:=by
 unfold db
 by_cases h:e=0
 ·rw [aK h];exact ⟨fun _=>h,fun _=>rfl⟩
 ·rw [aD h]
theorem vF {P:bz→Bool} {p i:Int} {l:List bz}:(ov P p i l).c=0↔(gp P l).2=0:=by
 unfold ov
 by_cases h:(gp P l).2=0
 ·rw [aK h];exact ⟨fun _=>h,fun _=>rfl⟩
 ·rw [aD h]
theorem vD {P:bz→Bool}:∀(l:List bz) (i:Nat),(qQ P i l).2=0↔∀x∈l,P x=true∧x.lb.length≤64
 | [],i=>by simp [qQ]
 | y :: l,i=>by
  rw [qQ,List.forall_mem_cons]
  by_cases q:P y=false
  ·rw [aK q];simp [q]
  rw [aD q]
  by_cases q2:y.lb.length>64
  ·rw [aK q2]
   exact ⟨(fun h=>by cases h),fun h=>absurd h.1.2 (by omega)⟩
  rw [aD q2,vD l (i+1)]
  exact ⟨fun h=>⟨⟨by simpa using q,by omega⟩,h⟩,fun h=>h.2⟩
def Be (P:bz→Bool) (l:List bz):Prop:=l.length≤2048∧∀x∈l,P x=true∧x.lb.length≤64
theorem mF {P:bz→Bool} {l:List bz}:(gp P l).2=0↔Be P l:=by
 unfold gp Be
 by_cases h:l.length>2048
 ·rw [aK h];exact ⟨(fun q=>by cases q),fun q=>by omega⟩
 ·rw [aD h,vD];exact ⟨fun q=>⟨by omega,q⟩,fun q=>q.2⟩
def AD (P:bz→Bool) (x:El):Prop:=wl x=0∧Be P x.o∧∀l∈x.it,Be P l
def wZ (P:bz→Bool) (x:Da):Prop:=¬(x.mo≠0∧(x.mo≠1∨x.me≠0∨x.o.length>0))∧iz x.me=true∧x.b.length≤4096∧Be P x.o
structure yI (P:bz→Bool) (m:Md):Prop where
 ts:m.ts.length≤64∧∀x∈m.ts,qF x=0
 ims:m.ims.length≤32∧∀x∈m.ims,uU x=0
 fs:(m.fs.length:Int)≤64 - (ju 0 m.ims:Nat)∧∀x∈m.fs,tY x=0
 tbs:(m.tbs.length:Int)≤4 - (ju 1 m.ims:Nat)∧∀x∈m.tbs,uc x=0
 ms:(m.ms.length:Int)≤2 - (ju 2 m.ims:Nat)∧∀x∈m.ms,vT x=0
 gs:(m.gs.length:Int)≤32 - (ju 3 m.ims:Nat)∧∀x∈m.gs,j8 x.g.v=true∧Be P x.i
 exs:m.exs.length≤64∧∀x∈m.exs,x7 x=0
 st:m.hs=true→iz m.st=true
 els:m.els.length≤16∧∀x∈m.els,AD P x
 ds:m.ds.length≤16∧∀x∈m.ds,wZ P x
 cs:m.cs.length≤8∧∀x∈m.cs,uD x=0
 bo:∀x∈m.fs,Be P x.b
theorem Oh {α:Type} [Inhabited α] {g:Nat→α→Fa} {Q:α→Prop} (hq:∀i x,(g i x).c=0↔Q x) {l:List α} {i:Nat} {F:Fa}:(gr g i l F).c=0↔F.c=0∧∀x∈l,Q x:=by
 rw [Tn,← Jz (Q:=Q)]
 simp only [hq]
theorem GM {α:Type} [Inhabited α] {g:Nat→α→Fa} {Q:α→Prop} (hq:∀i x,(g i x).c=0↔Q x) {l:List α} {p n most:Int}:(gr g 0 l (kx p n most)).c=0↔n≤most∧∀x∈l,Q x:=by
 rw [Oh hq,Yr]
theorem S9 {P:bz→Bool} (i:Nat) (x:El):(If P i x).c=0↔AD P x:=by
 unfold If AD
 rw [Oh (Q:=Be P) (fun _ l=>by rw [vF,mF])]
 by_cases h:wl x=0
 ·rw [aK h,vF,mF];exact ⟨fun q=>⟨h,q⟩,fun q=>q.2⟩
 ·rw [aD h,mZ];exact ⟨fun q=>absurd q.1 h,fun q=>absurd q.1 h⟩
theorem S0 {P:bz→Bool} (i:Nat) (x:Da):(H1 P i x).c=0↔wZ P x:=by
 unfold H1 wZ
 by_cases h1:x.mo≠0∧(x.mo≠1∨x.me≠0∨x.o.length>0)
 ·rw [aK h1,mZ];exact ⟨(fun q=>by cases q),fun q=>absurd h1 q.1⟩
 rw [aD h1]
 by_cases h2:iz x.me=false
 ·rw [aK h2,mZ];exact ⟨(fun q=>by cases q),(fun q=>by rw [q.2.1] at h2;cases h2)⟩
 rw [aD h2]
 by_cases h3:x.b.length>4096
 ·rw [aK h3,mZ];exact ⟨(fun q=>by cases q),fun q=>by omega⟩
 rw [aD h3,vF,mF]
 exact ⟨fun q=>⟨h1,by simpa using h2,by omega,q⟩,fun q=>q.2.2.2⟩
theorem OT {P:bz→Bool} {m:Md} (hm:oN m):pG P m=dq↔yI P m:=by
 rw [wQ P m hm]
 unfold Kj
 rw [Ld]
 simp only [List.forall_mem_cons]
 have e1:(Q2 m).c=0↔_:=GM (Q:=fun x=>qF x=0) (fun _ _=>mZ)
 have e2:(QO m).c=0↔_:=GM (Q:=fun x=>uU x=0) (fun _ _=>mZ)
 have e3:(QF m).c=0↔_:=GM (Q:=fun x=>tY x=0) (fun _ _=>mZ)
 have e4:(Q0 m).c=0↔_:=GM (Q:=fun x=>uc x=0) (fun _ _=>mZ)
 have e5:(QW m).c=0↔_:=GM (Q:=fun x=>vT x=0) (fun _ _=>mZ)
 have e6:(QL P m).c=0↔_:=GM (Q:=fun x:Gd=>j8 x.g.v=true∧Be P x.i) (fun i x=>by
  by_cases h:j8 x.g.v=false
  ·rw [aK h,mZ];exact ⟨(fun q=>by cases q),fun q=>by rw [h] at q;cases q.1⟩
  ·rw [aD h,vF,mF];exact ⟨fun q=>⟨by simpa using h,q⟩,fun q=>q.2⟩)
 have e7:(QK m).c=0↔_:=GM (Q:=fun x=>x7 x=0) (fun _ _=>mZ)
 have e8:(KA m).c=0↔(m.hs=true→iz m.st=true):=by
  unfold KA
  by_cases h:m.hs=true∧iz m.st=false
  ·rw [aK h,mZ];exact ⟨(fun q=>by cases q),fun q=>by rw [q h.1] at h;cases h.2⟩
  ·rw [aD h];exact ⟨fun _ g=>by simpa [g] using h,fun _=>rfl⟩
 have e9:(QI P m).c=0↔_:=GM (Q:=AD P) S9
 have e10:(QH P m).c=0↔_:=GM (Q:=wZ P) S0
 have e11:(QG m).c=0↔_:=GM (Q:=fun x=>uD x=0) (fun _ _=>mZ)
 have e12:(HV P m).c=0↔_:=Oh (Q:=fun x:Cd=>Be P x.b) (fun _ x=>by rw [vF,mF])
 rw [e1,e2,e3,e4,e5,e6,e7,e8,e9,e10,e11,e12]
 constructor
 ·rintro ⟨h1,h2,h3,h4,h5,h6,h7,h8,h9,h10,h11,h12,_⟩
  exact ⟨⟨by omega,h1.2⟩,⟨by omega,h2.2⟩,h3,h4,h5,h6,⟨by omega,h7.2⟩,h8,⟨by omega,h9.2⟩,⟨by omega,h10.2⟩,⟨by omega,h11.2⟩,h12.2⟩
 ·intro h
  exact ⟨⟨by have:=h.ts.1;omega,h.ts.2⟩,⟨by have:=h.ims.1;omega,h.ims.2⟩,h.fs,h.tbs,h.ms,h.gs,⟨by have:=h.exs.1;omega,h.exs.2⟩,h.st,⟨by have:=h.els.1;omega,h.els.2⟩,⟨by have:=h.ds.1;omega,h.ds.2⟩,⟨by have:=h.cs.1;omega,h.cs.2⟩,⟨rfl,h.bo⟩,fun _ h=>by cases h⟩
structure Hr where
 f:Int
 h:List UInt8
 t:List UInt8
structure Oc where
 op:Int
 nm:List UInt8
 im:Int
def qO (r:Oc):List AV:=[.int .i64 r.op,.str r.nm,.int .i64 r.im]
theorem U2 (r:Oc):qO r=[.int .i64 r.op,.str r.nm,.int .i64 r.im]:=rfl
instance:Inhabited Hr:=⟨⟨0,[],[]⟩⟩
instance:Inhabited Oc:=⟨⟨0,[],0⟩⟩
def wg:List (List UInt8):=[[101,113,122],
 [101,113],
 [110,101],
 [108,116,95,115],
 [108,116,95,117],
 [103,116,95,115],
 [103,116,95,117],
 [108,101,95,115],
 [108,101,95,117],
 [103,101,95,115],
 [103,101,95,117]]
def xB:List (List UInt8):=[[99,108,122],
 [99,116,122],
 [112,111,112,99,110,116],
 [97,100,100],
 [115,117,98],
 [109,117,108],
 [100,105,118,95,115],
 [100,105,118,95,117],
 [114,101,109,95,115],
 [114,101,109,95,117],
 [97,110,100],
 [111,114],
 [120,111,114],
 [115,104,108],
 [115,104,114,95,115],
 [115,104,114,95,117],
 [114,111,116,108],
 [114,111,116,114]]
def og:List Oc:=[⟨0,[117,110,114,101,97,99,104,97,98,108,101],0⟩,
 ⟨1,[110,111,112],0⟩,
 ⟨2,[98,108,111,99,107],1⟩,
 ⟨3,[108,111,111,112],1⟩,
 ⟨4,[105,102],1⟩,
 ⟨5,[101,108,115,101],0⟩,
 ⟨11,[101,110,100],0⟩,
 ⟨12,[98,114],2⟩,
 ⟨13,[98,114,95,105,102],2⟩,
 ⟨14,[98,114,95,116,97,98,108,101],3⟩,
 ⟨15,[114,101,116,117,114,110],0⟩,
 ⟨16,[99,97,108,108],4⟩,
 ⟨17,[99,97,108,108,95,105,110,100,105,114,101,99,116],5⟩,
 ⟨26,[100,114,111,112],0⟩,
 ⟨27,[115,101,108,101,99,116],0⟩,
 ⟨28,[115,101,108,101,99,116],6⟩,
 ⟨32,[108,111,99,97,108,46,103,101,116],7⟩,
 ⟨33,[108,111,99,97,108,46,115,101,116],7⟩,
 ⟨34,[108,111,99,97,108,46,116,101,101],7⟩,
 ⟨35,[103,108,111,98,97,108,46,103,101,116],8⟩,
 ⟨36,[103,108,111,98,97,108,46,115,101,116],8⟩,
 ⟨37,[116,97,98,108,101,46,103,101,116],9⟩,
 ⟨38,[116,97,98,108,101,46,115,101,116],9⟩]
def oY:List Oc:=[⟨40,[105,51,50,46,108,111,97,100],17⟩,
 ⟨41,[105,54,52,46,108,111,97,100],17⟩,
 ⟨44,[105,51,50,46,108,111,97,100,56,95,115],17⟩,
 ⟨45,[105,51,50,46,108,111,97,100,56,95,117],17⟩,
 ⟨46,[105,51,50,46,108,111,97,100,49,54,95,115],17⟩,
 ⟨47,[105,51,50,46,108,111,97,100,49,54,95,117],17⟩,
 ⟨48,[105,54,52,46,108,111,97,100,56,95,115],17⟩,
 ⟨49,[105,54,52,46,108,111,97,100,56,95,117],17⟩,
 ⟨50,[105,54,52,46,108,111,97,100,49,54,95,115],17⟩,
 ⟨51,[105,54,52,46,108,111,97,100,49,54,95,117],17⟩,
 ⟨52,[105,54,52,46,108,111,97,100,51,50,95,115],17⟩,
 ⟨53,[105,54,52,46,108,111,97,100,51,50,95,117],17⟩,
 ⟨54,[105,51,50,46,115,116,111,114,101],17⟩,
 ⟨55,[105,54,52,46,115,116,111,114,101],17⟩,
 ⟨58,[105,51,50,46,115,116,111,114,101,56],17⟩,
 ⟨59,[105,51,50,46,115,116,111,114,101,49,54],17⟩,
 ⟨60,[105,54,52,46,115,116,111,114,101,56],17⟩,
 ⟨61,[105,54,52,46,115,116,111,114,101,49,54],17⟩,
 ⟨62,[105,54,52,46,115,116,111,114,101,51,50],17⟩,
 ⟨63,[109,101,109,111,114,121,46,115,105,122,101],13⟩,
 ⟨64,[109,101,109,111,114,121,46,103,114,111,119],13⟩,
 ⟨65,[105,51,50,46,99,111,110,115,116],18⟩,
 ⟨66,[105,54,52,46,99,111,110,115,116],19⟩]
def N3:List Oc:=[⟨208,[114,101,102,46,110,117,108,108],20⟩,
 ⟨209,[114,101,102,46,105,115,95,110,117,108,108],0⟩,
 ⟨210,[114,101,102,46,102,117,110,99],4⟩,
 ⟨64520,[109,101,109,111,114,121,46,105,110,105,116],15⟩,
 ⟨64521,[100,97,116,97,46,100,114,111,112],16⟩,
 ⟨64522,[109,101,109,111,114,121,46,99,111,112,121],14⟩,
 ⟨64523,[109,101,109,111,114,121,46,102,105,108,108],13⟩,
 ⟨64524,[116,97,98,108,101,46,105,110,105,116],11⟩,
 ⟨64525,[101,108,101,109,46,100,114,111,112],12⟩,
 ⟨64526,[116,97,98,108,101,46,99,111,112,121],10⟩,
 ⟨64527,[116,97,98,108,101,46,103,114,111,119],9⟩,
 ⟨64528,[116,97,98,108,101,46,115,105,122,101],9⟩,
 ⟨64529,[116,97,98,108,101,46,102,105,108,108],9⟩]
def num (f:Int) (t:List UInt8):Nat→List (List UInt8)→List Oc
 | _,[]=>[]
 | k,s :: r=>⟨f+(k:Int),t++[46]++s,0⟩ :: num f t (k+1) r
def OC:List Oc:=[⟨0,[117,110,114,101,97,99,104,97,98,108,101],0⟩,
 ⟨1,[110,111,112],0⟩,
 ⟨2,[98,108,111,99,107],1⟩,
 ⟨3,[108,111,111,112],1⟩,
 ⟨4,[105,102],1⟩,
 ⟨5,[101,108,115,101],0⟩,
 ⟨11,[101,110,100],0⟩,
 ⟨12,[98,114],2⟩,
 ⟨13,[98,114,95,105,102],2⟩,
 ⟨14,[98,114,95,116,97,98,108,101],3⟩,
 ⟨15,[114,101,116,117,114,110],0⟩,
 ⟨16,[99,97,108,108],4⟩,
 ⟨17,[99,97,108,108,95,105,110,100,105,114,101,99,116],5⟩,
 ⟨26,[100,114,111,112],0⟩,
 ⟨27,[115,101,108,101,99,116],0⟩,
 ⟨28,[115,101,108,101,99,116],6⟩,
 ⟨32,[108,111,99,97,108,46,103,101,116],7⟩,
 ⟨33,[108,111,99,97,108,46,115,101,116],7⟩,
 ⟨34,[108,111,99,97,108,46,116,101,101],7⟩,
 ⟨35,[103,108,111,98,97,108,46,103,101,116],8⟩,
 ⟨36,[103,108,111,98,97,108,46,115,101,116],8⟩,
 ⟨37,[116,97,98,108,101,46,103,101,116],9⟩,
 ⟨38,[116,97,98,108,101,46,115,101,116],9⟩,
 ⟨40,[105,51,50,46,108,111,97,100],17⟩,
 ⟨41,[105,54,52,46,108,111,97,100],17⟩,
 ⟨44,[105,51,50,46,108,111,97,100,56,95,115],17⟩,
 ⟨45,[105,51,50,46,108,111,97,100,56,95,117],17⟩,
 ⟨46,[105,51,50,46,108,111,97,100,49,54,95,115],17⟩,
 ⟨47,[105,51,50,46,108,111,97,100,49,54,95,117],17⟩,
 ⟨48,[105,54,52,46,108,111,97,100,56,95,115],17⟩,
 ⟨49,[105,54,52,46,108,111,97,100,56,95,117],17⟩,
 ⟨50,[105,54,52,46,108,111,97,100,49,54,95,115],17⟩,
 ⟨51,[105,54,52,46,108,111,97,100,49,54,95,117],17⟩,
 ⟨52,[105,54,52,46,108,111,97,100,51,50,95,115],17⟩,
 ⟨53,[105,54,52,46,108,111,97,100,51,50,95,117],17⟩,
 ⟨54,[105,51,50,46,115,116,111,114,101],17⟩,
 ⟨55,[105,54,52,46,115,116,111,114,101],17⟩,
 ⟨58,[105,51,50,46,115,116,111,114,101,56],17⟩,
 ⟨59,[105,51,50,46,115,116,111,114,101,49,54],17⟩,
 ⟨60,[105,54,52,46,115,116,111,114,101,56],17⟩,
 ⟨61,[105,54,52,46,115,116,111,114,101,49,54],17⟩,
 ⟨62,[105,54,52,46,115,116,111,114,101,51,50],17⟩,
 ⟨63,[109,101,109,111,114,121,46,115,105,122,101],13⟩,
 ⟨64,[109,101,109,111,114,121,46,103,114,111,119],13⟩,
 ⟨65,[105,51,50,46,99,111,110,115,116],18⟩,
 ⟨66,[105,54,52,46,99,111,110,115,116],19⟩,
 ⟨69,[105,51,50,46,101,113,122],0⟩,
 ⟨70,[105,51,50,46,101,113],0⟩,
 ⟨71,[105,51,50,46,110,101],0⟩,
 ⟨72,[105,51,50,46,108,116,95,115],0⟩,
 ⟨73,[105,51,50,46,108,116,95,117],0⟩,
 ⟨74,[105,51,50,46,103,116,95,115],0⟩,
 ⟨75,[105,51,50,46,103,116,95,117],0⟩,
 ⟨76,[105,51,50,46,108,101,95,115],0⟩,
 ⟨77,[105,51,50,46,108,101,95,117],0⟩,
 ⟨78,[105,51,50,46,103,101,95,115],0⟩,
 ⟨79,[105,51,50,46,103,101,95,117],0⟩,
 ⟨80,[105,54,52,46,101,113,122],0⟩,
 ⟨81,[105,54,52,46,101,113],0⟩,
 ⟨82,[105,54,52,46,110,101],0⟩,
 ⟨83,[105,54,52,46,108,116,95,115],0⟩,
 ⟨84,[105,54,52,46,108,116,95,117],0⟩,
 ⟨85,[105,54,52,46,103,116,95,115],0⟩,
 ⟨86,[105,54,52,46,103,116,95,117],0⟩,
 ⟨87,[105,54,52,46,108,101,95,115],0⟩,
 ⟨88,[105,54,52,46,108,101,95,117],0⟩,
 ⟨89,[105,54,52,46,103,101,95,115],0⟩,
 ⟨90,[105,54,52,46,103,101,95,117],0⟩,
 ⟨103,[105,51,50,46,99,108,122],0⟩,
 ⟨104,[105,51,50,46,99,116,122],0⟩,
 ⟨105,[105,51,50,46,112,111,112,99,110,116],0⟩,
 ⟨106,[105,51,50,46,97,100,100],0⟩,
 ⟨107,[105,51,50,46,115,117,98],0⟩,
 ⟨108,[105,51,50,46,109,117,108],0⟩,
 ⟨109,[105,51,50,46,100,105,118,95,115],0⟩,
 ⟨110,[105,51,50,46,100,105,118,95,117],0⟩,
 ⟨111,[105,51,50,46,114,101,109,95,115],0⟩,
 ⟨112,[105,51,50,46,114,101,109,95,117],0⟩,
 ⟨113,[105,51,50,46,97,110,100],0⟩,
 ⟨114,[105,51,50,46,111,114],0⟩,
 ⟨115,[105,51,50,46,120,111,114],0⟩,
 ⟨116,[105,51,50,46,115,104,108],0⟩,
 ⟨117,[105,51,50,46,115,104,114,95,115],0⟩,
 ⟨118,[105,51,50,46,115,104,114,95,117],0⟩,
 ⟨119,[105,51,50,46,114,111,116,108],0⟩,
 ⟨120,[105,51,50,46,114,111,116,114],0⟩,
 ⟨121,[105,54,52,46,99,108,122],0⟩,
 ⟨122,[105,54,52,46,99,116,122],0⟩,
 ⟨123,[105,54,52,46,112,111,112,99,110,116],0⟩,
 ⟨124,[105,54,52,46,97,100,100],0⟩,
 ⟨125,[105,54,52,46,115,117,98],0⟩,
 ⟨126,[105,54,52,46,109,117,108],0⟩,
 ⟨127,[105,54,52,46,100,105,118,95,115],0⟩,
 ⟨128,[105,54,52,46,100,105,118,95,117],0⟩,
 ⟨129,[105,54,52,46,114,101,109,95,115],0⟩,
 ⟨130,[105,54,52,46,114,101,109,95,117],0⟩,
 ⟨131,[105,54,52,46,97,110,100],0⟩,
 ⟨132,[105,54,52,46,111,114],0⟩,
 ⟨133,[105,54,52,46,120,111,114],0⟩,
 ⟨134,[105,54,52,46,115,104,108],0⟩,
 ⟨135,[105,54,52,46,115,104,114,95,115],0⟩,
 ⟨136,[105,54,52,46,115,104,114,95,117],0⟩,
 ⟨137,[105,54,52,46,114,111,116,108],0⟩,
 ⟨138,[105,54,52,46,114,111,116,114],0⟩,
 ⟨167,[105,51,50,46,119,114,97,112,95,105,54,52],0⟩,
 ⟨172,[105,54,52,46,101,120,116,101,110,100,95,105,51,50,95,115],0⟩,
 ⟨173,[105,54,52,46,101,120,116,101,110,100,95,105,51,50,95,117],0⟩,
 ⟨192,[105,51,50,46,101,120,116,101,110,100,56,95,115],0⟩,
 ⟨193,[105,51,50,46,101,120,116,101,110,100,49,54,95,115],0⟩,
 ⟨194,[105,54,52,46,101,120,116,101,110,100,56,95,115],0⟩,
 ⟨195,[105,54,52,46,101,120,116,101,110,100,49,54,95,115],0⟩,
 ⟨196,[105,54,52,46,101,120,116,101,110,100,51,50,95,115],0⟩,
 ⟨208,[114,101,102,46,110,117,108,108],20⟩,
 ⟨209,[114,101,102,46,105,115,95,110,117,108,108],0⟩,
 ⟨210,[114,101,102,46,102,117,110,99],4⟩,
 ⟨64520,[109,101,109,111,114,121,46,105,110,105,116],15⟩,
 ⟨64521,[100,97,116,97,46,100,114,111,112],16⟩,
 ⟨64522,[109,101,109,111,114,121,46,99,111,112,121],14⟩,
 ⟨64523,[109,101,109,111,114,121,46,102,105,108,108],13⟩,
 ⟨64524,[116,97,98,108,101,46,105,110,105,116],11⟩,
 ⟨64525,[101,108,101,109,46,100,114,111,112],12⟩,
 ⟨64526,[116,97,98,108,101,46,99,111,112,121],10⟩,
 ⟨64527,[116,97,98,108,101,46,103,114,111,119],9⟩,
 ⟨64528,[116,97,98,108,101,46,115,105,122,101],9⟩,
 ⟨64529,[116,97,98,108,101,46,102,105,108,108],9⟩]
open Go.Shelf
section
open Go.RowKit
attribute [local go_sem] Oper.semAt_some
end
section
open Go.RowKit
attribute [local go_sem] Oper.semAt_some
theorem pr {W:World} {b off:Nat} {c:Array Value} {t:TypeId} {fr:Nat×Nat} {v:Value} (h:W.heap[b]? = some (.cells c t fr)):(W.setCell ⟨b,off,none⟩ v).heap[b]? = some (.cells (c.setIfInBounds off v) t fr):=by
 simp [World.setCell,xH,h]
end
section
attribute [local go_sem] U2
theorem AT:br Tryz.prog Zr [] [] sb (fun r' σ'=>r' = .ms 24 3 0 23∧σ'=[(24,⟨246,3,og.map qO,false⟩)]):=by
 refine aT (ic:=MI.body) aq XG rfl rfl ?_
 simp only [go_sem,MI]
 exact done [] _ [(24,⟨246,3,og.map qO,false⟩)] (by rfl) (by simp only [go_sem];rfl) rfl ⟨rfl,rfl⟩
theorem Fo:ae Tryz.prog ZE [] (.sl 3 (oY.map qO)):=by
 refine ab (ic:=MX.body) aq XX rfl rfl ?_
 simp only [go_sem,MX]
 exact au [24] (by rfl) rfl
theorem Vf:ae Tryz.prog UE [] (.sl 3 (N3.map qO)):=by
 refine ab (ic:=Ca.body) aq SE rfl rfl ?_
 simp only [go_sem,Ca]
 exact au [14] (by rfl) rfl
def za (s:List UInt8):List AV:=[.str s]
theorem aac (s:List UInt8):za s=[.str s]:=rfl
attribute [go_sem] aac
theorem p9:ae Tryz.prog Zi [] (.sl 1 (wg.map za)):=by
 refine ab (ic:=My.body) aq Xt rfl rfl ?_
 simp only [go_sem,My]
 exact au [1] (by rfl) rfl
theorem Fy:ae Tryz.prog Ui [] (.sl 1 (xB.map za)):=by
 refine ab (ic:=BT.body) aq Sg rfl rfl ?_
 simp only [go_sem,BT]
 exact au [1] (by rfl) rfl
theorem tx (f:Int) (t:List UInt8):∀(l:List (List UInt8)) (k:Nat),(num f t k l).length=l.length
 | [],_=>rfl
 | _ :: l,k=>by simp [num,tx f t l]
theorem yH (f:Int) (t:List UInt8):∀(l:List (List UInt8)) (k j:Nat),j<l.length→(num f t k l)[j]? = some ⟨f+((k+j:Nat):Int),t++[46]++ah l j,0⟩
 | [],_,j,hj=>by simp at hj
 | s :: l,k,0,_=>rfl
 | s :: l,k,j+1,hj=>by
  have:=yH f t l (k+1) j (by simpa using hj)
  simp only [num,List.getElem?_cons_succ]
  rw [this,show k+1+j=k+(j+1) by omega]
  rfl
theorem E4 {f:Int} {t:List UInt8} {l:List (List UInt8)} {j:Nat} (hj:j<l.length):(num f t 0 l).take (j+1)=(num f t 0 l).take j++[⟨f+(j:Int),t++[46]++ah l j,0⟩]:=by
 rw [List.take_add_one,yH f t l 0 j hj,Option.toList_some,Nat.zero_add]
theorem gO (f:Int) (t:List UInt8) (l:List (List UInt8)) (hf:0≤f∧f<1000000) (ht:t.length<1000) (hl:l.length<1000) (hs:∀s∈l,s.length<1000):ae Tryz.prog wR [.int .i64 f,.str t,.sl 1 (l.map za)] (.sl 3 ((num f t 0 l).map qO)):=by
 refine ab (ic:=MJ.body) aq XH rfl rfl ?_
 simp only [go_sem,MJ]
 refine an (fun i:Nat=>⟨[(7,.ms 900 3 0 i),(8,.int .i64 i),(0,.int .i64 f),(1,.str t),(2,.sl 1 (l.map za))],[(900,⟨246,3,((num f t 0 l).take i).map qO,false⟩)]⟩) (fun i=>i≤l.length) (fun i=>l.length - i) 0 (cE _) ((Wk.nil _ 7 900 3 246 (by simp only [go_sem]) (.inl (by decide))).trans (Wk.of ?_ ?_)) ?_
 ·simp only [go_sem,St.mknil];try simp [go_sem]
 ·simp only [go_sem,St.mknil];try simp [go_sem]
 intro i hi
 have e8:=wi (n:=(i:Int)+1) (by omega) (by omega)
 by_cases h1:(i:Int)<(l.length:Int)
 ·have hi':i<l.length:=by omega
  have hsi:=hs (ah l i) (by rw [bD hi'];exact List.getElem_mem _)
  have e9:=wi (n:=f+(i:Int)) (by omega) (by omega)
  have hlen:((num f t 0 l).take i).length=i:=by rw [lh,tx];omega
  have happ:=fun ys=>bu 900 246 3 i qO ((num f t 0 l).take i) ys hlen
  simp only [go_sem,aF h1,happ,e9]
  refine ⟨by omega,by omega,h1,by simp;omega,by omega,aC (i+1) (by omega) (show l.length - (i+1)<l.length - i by omega) (Wk.of ?_ ?_)⟩
  ·simp only [go_sem,e8]
   try simp
  ·simp only [go_sem]
   rw [E4 hi',List.map_append]
   rfl
 ·obtain rfl:i=l.length:=by omega
  simp only [go_sem,aG h1]
  have hlen:=tx f t l 0
  rw [dS (by omega)]
  refine au [900] ?_ rfl
  simp only [go_sem,cY,hlen,bj]
  rw [dS (by rw [cY];omega)]
def qC:List Oc:=num 69 [105,51,50] 0 wg
def sQ:List Oc:=num 80 [105,54,52] 0 wg
def vM:List Oc:=num 103 [105,51,50] 0 xB
def xA:List Oc:=num 121 [105,54,52] 0 xB
def L1:List Oc:=[⟨167,[105,51,50,46,119,114,97,112,95,105,54,52],0⟩,⟨172,[105,54,52,46,101,120,116,101,110,100,95,105,51,50,95,115],0⟩,⟨173,[105,54,52,46,101,120,116,101,110,100,95,105,51,50,95,117],0⟩]
def DG:List (List UInt8):=[[101,120,116,101,110,100,56,95,115],[101,120,116,101,110,100,49,54,95,115]]
def Io:List (List UInt8):=[[101,120,116,101,110,100,56,95,115],[101,120,116,101,110,100,49,54,95,115],[101,120,116,101,110,100,51,50,95,115]]
def DI:List Oc:=num 192 [105,51,50] 0 DG
def Iq:List Oc:=num 194 [105,54,52] 0 Io
theorem Ct:((((((((og++oY)++qC)++sQ)++vM)++xA)++L1)++DI)++Iq)++N3=OC:=by rfl
theorem Kb:ae Tryz.prog Uh [] (.sl 3 (OC.map qO)):=by
 refine ab (ic:=BS.body) aq Sf rfl rfl ?_
 have ap:=fun (L:List Oc) (n:Nat) (h:L.length=n) ys=>bu 901 246 3 n qO L ys h
 have n1:ae Tryz.prog wR [.int .i64 69,.str [105,51,50],.sl 1 (wg.map za)] (.sl 3 (qC.map qO)):=gO 69 [105,51,50] wg (by decide) (by decide) (by decide) (by decide +kernel)
 have n2:ae Tryz.prog wR [.int .i64 80,.str [105,54,52],.sl 1 (wg.map za)] (.sl 3 (sQ.map qO)):=gO 80 [105,54,52] wg (by decide) (by decide) (by decide) (by decide +kernel)
 have n3:ae Tryz.prog wR [.int .i64 103,.str [105,51,50],.sl 1 (xB.map za)] (.sl 3 (vM.map qO)):=gO 103 [105,51,50] xB (by decide) (by decide) (by decide) (by decide +kernel)
 have n4:ae Tryz.prog wR [.int .i64 121,.str [105,54,52],.sl 1 (xB.map za)] (.sl 3 (xA.map qO)):=gO 121 [105,54,52] xB (by decide) (by decide) (by decide) (by decide +kernel)
 have n5:ae Tryz.prog wR [.int .i64 192,.str [105,51,50],.sl 1 (DG.map za)] (.sl 3 (DI.map qO)):=gO 192 [105,51,50] DG (by decide) (by decide) (by decide) (by decide +kernel)
 have n6:ae Tryz.prog wR [.int .i64 194,.str [105,54,52],.sl 1 (Io.map za)] (.sl 3 (Iq.map qO)):=gO 194 [105,54,52] Io (by decide) (by decide) (by decide) (by decide +kernel)
 have e1:(DG.map za)=[[.str [101,120,116,101,110,100,56,95,115]],[.str [101,120,116,101,110,100,49,54,95,115]]]:=rfl
 have e2:(Io.map za)=[[.str [101,120,116,101,110,100,56,95,115]],[.str [101,120,116,101,110,100,49,54,95,115]],[.str [101,120,116,101,110,100,51,50,95,115]]]:=rfl
 rw [e1] at n5
 rw [e2] at n6
 have ew:[[AV.int .i64 167,.str [105,51,50,46,119,114,97,112,95,105,54,52],.int .i64 0],[.int .i64 172,.str [105,54,52,46,101,120,116,101,110,100,95,105,51,50,95,115],.int .i64 0],[.int .i64 173,.str [105,54,52,46,101,120,116,101,110,100,95,105,51,50,95,117],.int .i64 0]]=L1.map qO:=rfl
 simp only [go_sem,BS]
 refine rq AT rfl (by simp) 901 (by decide) (by simp only [go_sem]) ?_
 simp only [go_sem]
 refine aa (Fo) ?_
 have la:oY.length=23:=rfl
 have l1:qC.length=11:=rfl
 have l2:sQ.length=11:=rfl
 have l3:vM.length=18:=rfl
 have l4:xA.length=18:=rfl
 have lw:L1.length=3:=rfl
 have l5:DI.length=2:=rfl
 have l6:Iq.length=3:=rfl
 have le:N3.length=13:=rfl
 simp only [go_sem,ap og 23 rfl,← List.map_append,cY,la,true_and]
 refine aa (p9) ?_
 simp only [go_sem]
 refine aa (n1) ?_
 simp only [go_sem,ap (og++oY) 46 rfl,← List.map_append,cY,l1,true_and]
 refine aa (p9) ?_
 simp only [go_sem]
 refine aa (n2) ?_
 simp only [go_sem,ap ((og++oY)++qC) 57 rfl,← List.map_append,cY,l2,true_and]
 refine aa (Fy) ?_
 simp only [go_sem]
 refine aa (n3) ?_
 simp only [go_sem,ap (((og++oY)++qC)++sQ) 68 rfl,← List.map_append,cY,l3,true_and]
 refine aa (Fy) ?_
 simp only [go_sem]
 refine aa (n4) ?_
 have er:xi 3 0 3 (some ⟨246,3,L1.map qO,false⟩)=some (L1.map qO):=rfl
 have es1:[[AV.str [101,120,116,101,110,100,56,95,115]],[.str [101,120,116,101,110,100,49,54,95,115]]]=DG.map za:=rfl
 simp only [go_sem,ap ((((og++oY)++qC)++sQ)++vM) 86 rfl,ap (((((og++oY)++qC)++sQ)++vM)++xA) 104 rfl,ew,er,← List.map_append,cY,l4,lw,true_and]
 refine i5 [28] ?_ n5 (by simp [go_sem]) ?_
 ·simp only [go_sem,bj]
 simp only [go_sem,ap ((((((og++oY)++qC)++sQ)++vM)++xA)++L1) 107 rfl,← List.map_append,cY,l5,true_and]
 refine i5 [32] ?_ n6 (by simp [go_sem]) ?_
 ·simp only [go_sem,bj]
 simp only [go_sem,ap (((((((og++oY)++qC)++sQ)++vM)++xA)++L1)++DI) 109 rfl,← List.map_append,cY,l6,true_and]
 refine aa (Vf) ?_
 simp only [go_sem,ap ((((((((og++oY)++qC)++sQ)++vM)++xA)++L1)++DI)++Iq) 112 rfl,← List.map_append,cY,le,true_and,Ct]
 refine au [901] ?_ rfl
 have lo:OC.length=125:=rfl
 simp only [go_sem,cY,lo,bj]
 rw [dS (by rw [cY];exact bj _)]
end
end Go.Proofs.YtjndcljjbpeljaaGreatDoor