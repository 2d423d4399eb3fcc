import Derived.Test.YtdfofedlbljnhaaGreatDoorQj
import Derived.Shelf.Abstract
import Derived.OwnWalkIn
import Derived.TacticsInMore
import Derived.LoopNIn
import Derived.LoopIn
set_option linter.all false
set_option maxRecDepth 100000
set_option maxHeartbeats 40000000
namespace Go.Proofs.YtdfofedlbljnhaaGreatDoor
section
open Go Go.Mw
def daR (P:aZ→Bool) (i:Nat) (x:Da):Fa:=if x.mo≠0∧(x.mo≠1∨x.me≠0∨x.o.length>0) then zB 10 i 1 else if rP x.me=false then zB 10 i 11 else if x.b.length>4096 then zB 10 i 6 else QA P 10 i x.o
def dsF (P:aZ→Bool) (m:Md):Fa:=gr (daR P) 0 m.ds (Er 10 m.ds.length 16)
attribute [local go_sem] di bC dw dd dt db dY fS eW fR fp iH Lo LM
end
section
open Go Go.Mw
def boF (P:aZ→Bool) (m:Md):Fa:=gr (fun i x=>QA P 12 i x.b) 0 m.fs (nT)
attribute [local go_sem] di bC dw dd dt db dY fS eW fR fp iH Lo LM
end
section
open Go Go.Mw
def elB (x:El):Int:=if x.mo<0∨x.mo>2∨(x.mo≠0∧(x.tb≠0∨x.o.length>0)) then 1 else if rP x.tb=false then 11 else if Jt x.ty=false then 12 else if x.it.length>256 then 6 else 0
attribute [local go_sem] di bC dw dd dt db dY fS eW fR fp iH Lo LM
def elR (P:aZ→Bool) (i:Nat) (x:El):Fa:=gr (fun _ l=>QA P 9 i l) 0 x.it (if elB x=0 then QA P 9 i x.o else zB 9 i (elB x))
end
section
open Go Go.Mw
def elO (x:El):ak:=⟨112,5,[gP x],true⟩
def elF (P:aZ→Bool) (m:Md):Fa:=gr (elR P) 0 m.els (Er 9 m.els.length 16)
attribute [local go_sem] elO di bC dw dd dt db dY fS eW fR fp iH Lo LM
end
open Go Go.Mw
theorem lQ (n i l e:Int):fT nT n i l e=if e=0 then nT else ⟨n,i,l,e⟩:=by
 unfold fT
 by_cases h:e=0
 ·rw [ap h,ah (fun q=>q.2 h)]
 ·rw [ah h,ap ⟨rfl,h⟩]
theorem HW (n i l e:Int):(fT nT n i l e).c=0→fT nT n i l e=nT:=by
 rw [lQ]
 split
 ·exact fun _=>rfl
 ·rename_i h;exact fun q=>absurd q h
theorem Z6 {α:Type} {n:Int} {f:α→Int×Int} {g:Nat→α→Fa} (hg:∀(i:Nat) (x:α),fT nT n i (f x).1 (f x).2=g i x):∀(l:List α) (i:Nat) (F:Fa),(F.c=0→F=nT)→VL n i (l.map f) F=gr g i l F∧((gr g i l F).c=0→gr g i l F=nT)
 | [],i,F,h=>⟨rfl,h⟩
 | x :: l,i,F,h=>by
  rw [ej,VL,gr]
  by_cases hF:F.c=0
  ·rw [ah (by simp [hF]),ah (by simp [hF]),h hF,hg]
   exact Z6 hg l (i+1) _ (by rw [← hg];exact HW _ _ _ _)
  ·rw [ap hF,ap hF];exact ⟨rfl,h⟩
def rj (E X:Fa):Fa:=if E.c≠0 then E else X
theorem Pk (a b c:Fa):rj (rj a b) c=rj a (rj b c):=by
 unfold rj
 by_cases h:a.c=0<;>simp [h]
theorem qg {a b:Fa} (ha:a.c=0→a=nT) (hb:b.c=0→b=nT):(rj a b).c=0→rj a b=nT:=by
 unfold rj
 by_cases h:a.c=0
 ·rw [ah (by simp [h])];exact hb
 ·rw [ap h];exact ha
theorem km {α:Type} {n most imp:Int} {f:α→Int×Int} {g:Nat→α→Fa} (hg:∀(i:Nat) (x:α),fT nT n i (f x).1 (f x).2=g i x) (l:List α) (h1:0≤imp∧imp≤140737488355328) (h3:l.length≤140737488355328) (h4:0≤most∧most≤140737488355328) (E:Fa) (hE:E.c=0→E=nT) :
  fb n most imp (l.map f) E=rj E (gr g 0 l (Er n l.length (most - imp)))∧((gr g 0 l (Er n l.length (most - imp))).c=0→gr g 0 l (Er n l.length (most - imp))=nT):=by
 have z:=Z6 hg l 0 (Er n l.length (most - imp)) aiA
 refine ⟨?_,z.2⟩
 unfold fb
 rw [di,wi (by omega) (by omega),wi (by omega) (by omega)]
 unfold rj
 by_cases h:E.c=0
 ·rw [ah (show ¬E.c≠0 by simp [h]),hE h,← z.1]
  congr 1
  unfold Er
  by_cases q:(l.length:Int)+imp>most
  ·rw [ap q,ap (show (l.length:Int)>most - imp by omega),lQ,ah (by decide)]
   congr 1
   by_cases w:0<most - imp
   ·rw [ap w,ah (by omega)]
   ·rw [ah w]
    by_cases w2:most - imp<0
    ·rw [ap w2]
    ·rw [ah w2];omega
  ·rw [ah q,ah (show ¬(l.length:Int)>most - imp by omega)]
 ·rw [ap h,show (if (l.length:Int)+imp>most then fT E n (if 0<most - imp then most - imp else 0) 0 6 else E)=E by
   split
   ·unfold fT;rw [ah (fun q=>h q.1)]
   ·rfl]
  exact Sp E h
theorem eM (n:Int) (i:Nat) (e:Int):fT nT n i 0 e=zB n i e:=by rw [lQ];rfl
theorem r6 (P:aZ→Bool) (n:Int) (i:Nat) (l:List aZ):fT nT n i (gd P l).1 (gd P l).2=QA P n i l:=by rw [lQ];rfl
theorem Xc (P:aZ→Bool) (i:Nat) (x:Gd):fT nT 6 i (Xb P x).1 (Xb P x).2=if m5 x.g.v=false then zB 6 i 12 else QA P 6 i x.i:=by
 unfold Xb VK
 cases v:m5 x.g.v
 ·rw [ap rfl,ap (by decide),ap rfl];exact eM 6 i 12
 ·rw [ah (by decide),ah (by decide)];exact r6 P 6 i x.i
theorem WF (P:aZ→Bool) (i:Nat) (x:Da):fT nT 10 i (RH P x).1 (RH P x).2=daR P i x:=by
 unfold RH daR
 split
 ·exact eM 10 i 1
 split
 ·exact eM 10 i 11
 split
 ·exact eM 10 i 6
 ·exact r6 P 10 i x.o
theorem vz (P:aZ→Bool) (i:Nat):∀(l:List (List aZ)) (j:Nat) (F:Fa),(F.c=0→F=nT)→gr (fun _ r=>QA P 9 i r) j l F=rj F (fT nT 9 i (sN P l).1 (sN P l).2)
 | [],j,F,h=>by
  rw [gr]
  unfold rj
  by_cases q:F.c=0
  ·rw [ah (by simp [q]),h q];rfl
  ·rw [ap q]
 | x :: l,j,F,h=>by
  rw [gr]
  unfold rj
  by_cases q:F.c=0
  ·rw [ah (by simp [q]),ah (by simp [q]),vz P i l (j+1) _ (by rw [← r6];exact HW _ _ _ _)]
   rw [sN]
   unfold rj
   rw [← r6,lQ]
   by_cases w:(gd P x).2=0
   ·rw [ap w,ah (show ¬nT.c≠0 by decide),ah (by simp [w])]
   ·rw [ah w,ap (show (⟨9,(i:Int),(gd P x).1,(gd P x).2⟩:Fa).c≠0 from w),ap w,lQ,ah w]
  ·rw [ap q,ap q]
theorem WP (P:aZ→Bool) (i:Nat) (x:El):fT nT 9 i (RR P x).1 (RR P x).2=elR P i x:=by
 unfold RR elR elB
 split
 ·rw [ah (by decide),vz P i _ _ _ Rp,eM];rfl
 split
 ·rw [ah (by decide),vz P i _ _ _ Rp,eM];rfl
 split
 ·rw [ah (by decide),vz P i _ _ _ Rp,eM];rfl
 split
 ·rw [ah (by decide),vz P i _ _ _ Rp,eM];rfl
 ·rw [ap rfl,vz P i _ _ _ (by rw [← r6];exact HW _ _ _ _),sN]
  unfold rj
  rw [← r6]
  by_cases w:(gd P x.o).2=0
  ·rw [ah (show ¬(gd P x.o).2≠0 by simp [w]),lQ 9 i (gd P x.o).1 (gd P x.o).2,ap w,ah (show ¬nT.c≠0 by decide)]
  ·rw [ap w,ap (show (fT nT 9 i (gd P x.o).1 (gd P x.o).2).c≠0 by rw [lQ,ah w];exact w)]
def D7:List Fa→Fa
 | []=>nT
 | F :: r=>if F.c≠0 then F else D7 r
theorem WV (F:Fa) (r:List Fa):D7 (F :: r)=rj F (D7 r):=rfl
def adv (P:aZ→Bool) (m:Md):Fa:=D7 [tyF m,imF m,cdF m,tbF m,mmF m,gdF P m,exF m,stF m,elF P m,dsF P m,csF m,boF P m]
theorem Tk (P:aZ→Bool) (m:Md) (h:Gi m):sU P m=adv P m:=by
 have hc:∀k,(0:Int)≤(vF k m.ims:Nat)∧((vF k m.ims:Nat):Int)≤140737488355328:=fun k=>⟨by omega,by have:=gz (Rw k m.ims) h.ims;omega⟩
 have z0:(0:Int)≤0∧(0:Int)≤140737488355328:=by decide
 have ft0:nT.c=0→nT=nT:=fun _=>rfl
 obtain ⟨e1,t1⟩:=km (n:=1) (most:=64) (imp:=0) (g:=fun i x=>zB 1 i (LT x)) (f:=fun x=>(0,LT x)) (fun i x=>eM 1 i _) m.ts z0 h.ts.1 (by decide) nT ft0
 have e1':VO m=tyF m:=e1
 have t1':(VO m).c=0→VO m=nT:=by rw [e1'];exact t1
 obtain ⟨e2,t2⟩:=km (n:=2) (most:=32) (imp:=0) (g:=fun i x=>zB 2 i (L6 x)) (f:=fun x=>(0,L6 x)) (fun i x=>eM 2 i _) m.ims z0 h.ims (by decide) (VO m) t1'
 have e2':XS m=rj (VO m) (imF m):=e2
 have t2':=qg t1' t2
 rw [show rj (VO m) _=XS m from e2.symm] at t2'
 obtain ⟨e3,t3⟩:=km (n:=3) (most:=64) (g:=fun i x=>zB 3 i (Qs x)) (f:=fun x=>(0,Qs x)) (fun i x=>eM 3 i _) m.fs (hc 0) h.fs.1 (by decide) (XS m) t2'
 have e3':XT m=rj (XS m) (cdF m):=e3
 have t3':=qg t2' t3
 rw [show rj (XS m) _=XT m from e3.symm] at t3'
 obtain ⟨e4,t4⟩:=km (n:=4) (most:=4) (g:=fun i x=>zB 4 i (Le x)) (f:=fun x=>(0,Le x)) (fun i x=>eM 4 i _) m.tbs (hc 1) h.tbs (by decide) (XT m) t3'
 have e4':XU m=rj (XT m) (tbF m):=e4
 have t4':=qg t3' t4
 rw [show rj (XT m) _=XU m from e4.symm] at t4'
 obtain ⟨e5,t5⟩:=km (n:=5) (most:=2) (g:=fun i x=>zB 5 i (NY x)) (f:=fun x=>(0,NY x)) (fun i x=>eM 5 i _) m.ms (hc 2) h.ms (by decide) (XU m) t4'
 have e5':XV m=rj (XU m) (mmF m):=e5
 have t5':=qg t4' t5
 rw [show rj (XU m) _=XV m from e5.symm] at t5'
 obtain ⟨e6,t6⟩:=km (n:=6) (most:=32) (g:=fun i x=>if m5 x.g.v=false then zB 6 i 12 else QA P 6 i x.i) (f:=Xb P) (Xc P) m.gs (hc 3) h.gs.1 (by decide) (XV m) t5'
 have e6':XW P m=rj (XV m) (gdF P m):=e6
 have t6':=qg t5' t6
 rw [show rj (XV m) _=XW P m from e6.symm] at t6'
 obtain ⟨e7,t7⟩:=km (n:=7) (most:=64) (imp:=0) (g:=fun i x=>zB 7 i (LL x)) (f:=fun x=>(0,LL x)) (fun i x=>eM 7 i _) m.exs z0 h.exs (by decide) (XW P m) t6'
 have e7':Qu P m=rj (XW P m) (exF m):=e7
 have t7':=qg t6' t7
 rw [show rj (XW P m) _=Qu P m from e7.symm] at t7'
 have e8':Lp P m=rj (Qu P m) (stF m):=by
  unfold Lp stF rj
  by_cases q:(Qu P m).c=0
  ·rw [ah (show ¬(Qu P m).c≠0 by simp [q])]
   split
   ·rw [t7' q];exact eM 8 0 11
   ·exact t7' q
  ·rw [ap q]
   split
   ·unfold fT;rw [ah (fun w=>q w.1)]
   ·rfl
 have t8':(Lp P m).c=0→Lp P m=nT:=by
  rw [e8']
  refine qg t7' ?_
  unfold stF
  split
  ·exact Rp
  ·exact ft0
 obtain ⟨e9,t9⟩:=km (n:=9) (most:=16) (imp:=0) (g:=elR P) (f:=RR P) (WP P) m.els z0 h.els.1 (by decide) (Lp P m) t8'
 have e9':XX P m=rj (Lp P m) (elF P m):=e9
 have t9':=qg t8' t9
 rw [show rj (Lp P m) _=XX P m from e9.symm] at t9'
 obtain ⟨e10,t10⟩:=km (n:=10) (most:=16) (imp:=0) (g:=daR P) (f:=RH P) (WF P) m.ds z0 h.ds.1 (by decide) (XX P m) t9'
 have e10':Ih P m=rj (XX P m) (dsF P m):=e10
 have t10':=qg t9' t10
 rw [show rj (XX P m) _=Ih P m from e10.symm] at t10'
 obtain ⟨e11,t11⟩:=km (n:=11) (most:=8) (imp:=0) (g:=fun i x=>zB 11 i (O2 x)) (f:=fun x=>(0,O2 x)) (fun i x=>eM 11 i _) m.cs z0 h.cs.1 (by decide) (Ih P m) t10'
 have e11':xp P m=rj (Ih P m) (csF m):=e11
 have t11':=qg t10' t11
 rw [show rj (Ih P m) _=xp P m from e11.symm] at t11'
 have hfl:=h.fs.1
 obtain ⟨e12,t12⟩:=km (n:=12) (most:=(m.fs.length:Int)) (imp:=0) (g:=fun i x=>QA P 12 i x.b) (f:=fun x=>gd P x.b) (fun i x=>r6 P 12 i x.b) m.fs z0 h.fs.1 (by omega) (xp P m) t11'
 rw [show Er 12 m.fs.length ((m.fs.length:Int) - 0)=nT by unfold Er;rw [ah (by omega)]] at e12 t12
 have e12':sU P m=rj (xp P m) (boF P m):=by
  unfold sU
  by_cases q:(xp P m).c=0
  ·rw [ap q];exact e12
  ·rw [ah q];unfold rj;rw [ap q]
 have t12':rj (boF P m) nT=boF P m:=by
  unfold rj
  by_cases q:(boF P m).c=0
  ·rw [ah (by simp [q])];exact (t12 q).symm
  ·rw [ap q]
 rw [e12',e11',e10',e9',e8',e7',e6',e5',e4',e3',e2',e1']
 unfold adv
 simp only [WV,Pk]
 rw [show D7 []=nT from rfl,t12']
theorem ZW:∀l:List Fa,D7 l=nT↔∀F∈l,F.c=0
 | []=>by simp [D7]
 | F :: r=>by
  rw [D7,List.forall_mem_cons,← ZW r]
  by_cases h:F.c=0
  ·rw [ah (by simp [h])]
   exact ⟨fun q=>⟨h,q⟩,fun q=>q.2⟩
  ·rw [ap h]
   exact ⟨fun q=>absurd (by rw [q];rfl) h,fun q=>absurd q.1 h⟩
theorem afJ {α:Type} [Inhabited α] {g:Nat→α→Fa}:∀(l:List α) (i:Nat) (F:Fa),(gr g i l F).c=0↔F.c=0∧∀k,k<l.length→(g (i+k) (ac l k)).c=0
 | [],i,F=>by simp [gr]
 | x :: l,i,F=>by
  rw [gr]
  by_cases h:F.c=0
  ·rw [ah (by simp [h]),afJ l (i+1) (g i x)]
   constructor
   ·rintro ⟨h1,h2⟩
    refine ⟨h,fun k hk=>?_⟩
    cases k with
    | zero=>exact h1
    | succ k=>have:=h2 k (by simpa using hk);rw [show i+(k+1)=i+1+k by omega];exact this
   ·rintro ⟨_,h2⟩
    exact ⟨h2 0 (by simp),fun k hk=>by have:=h2 (k+1) (by simpa using hk);rw [show i+(k+1)=i+1+k by omega] at this;exact this⟩
  ·rw [ap h]
   exact ⟨fun q=>absurd q h,fun q=>absurd q.1 h⟩
theorem Yd {α:Type} [Inhabited α] {Q:α→Prop} {l:List α}:(∀k,k<l.length→Q (ac l k))↔∀x∈l,Q x:=by
 constructor
 ·intro h x hx
  obtain ⟨k,hk,rfl⟩:=List.getElem_of_mem hx
  rw [← bp hk];exact h k hk
 ·intro h k hk
  rw [bp hk];exact h _ (List.getElem_mem hk)
theorem aiB {p n most:Int}:(Er p n most).c=0↔n≤most:=by
 unfold Er
 by_cases h:n>most
 ·rw [ap h];exact ⟨(fun q=>by cases q),fun q=>by omega⟩
 ·rw [ah h];exact ⟨fun _=>by omega,fun _=>rfl⟩
theorem zF {p i e:Int}:(zB p i e).c=0↔e=0:=by
 unfold zB
 by_cases h:e=0
 ·rw [ap h];exact ⟨fun _=>h,fun _=>rfl⟩
 ·rw [ah h]
theorem K4 {P:aZ→Bool} {p i:Int} {l:List aZ}:(QA P p i l).c=0↔(gd P l).2=0:=by
 unfold QA
 by_cases h:(gd P l).2=0
 ·rw [ap h];exact ⟨fun _=>h,fun _=>rfl⟩
 ·rw [ah h]
theorem K0 {P:aZ→Bool}:∀(l:List aZ) (i:Nat),(Gf P i l).2=0↔∀x∈l,P x=true∧x.lb.length≤64
 | [],i=>by simp [Gf]
 | y :: l,i=>by
  rw [Gf,List.forall_mem_cons]
  by_cases q:P y=false
  ·rw [ap q];simp [q]
  rw [ah q]
  by_cases q2:y.lb.length>64
  ·rw [ap q2]
   exact ⟨(fun h=>by cases h),fun h=>absurd h.1.2 (by omega)⟩
  rw [ah q2,K0 l (i+1)]
  exact ⟨fun h=>⟨⟨by simpa using q,by omega⟩,h⟩,fun h=>h.2⟩
def Qw (P:aZ→Bool) (l:List aZ):Prop:=l.length≤2048∧∀x∈l,P x=true∧x.lb.length≤64
theorem yP {P:aZ→Bool} {l:List aZ}:(gd P l).2=0↔Qw P l:=by
 unfold gd Qw
 by_cases h:l.length>2048
 ·rw [ap h];exact ⟨(fun q=>by cases q),fun q=>by omega⟩
 ·rw [ah h,K0];exact ⟨fun q=>⟨by omega,q⟩,fun q=>q.2⟩
def Mk (P:aZ→Bool) (x:El):Prop:=elB x=0∧Qw P x.o∧∀l∈x.it,Qw P l
def KH (P:aZ→Bool) (x:Da):Prop:=¬(x.mo≠0∧(x.mo≠1∨x.me≠0∨x.o.length>0))∧rP x.me=true∧x.b.length≤4096∧Qw P x.o
structure okM (P:aZ→Bool) (m:Md):Prop where
 ts:m.ts.length≤64∧∀x∈m.ts,LT x=0
 ims:m.ims.length≤32∧∀x∈m.ims,L6 x=0
 fs:(m.fs.length:Int)≤64 - (vF 0 m.ims:Nat)∧∀x∈m.fs,Qs x=0
 tbs:(m.tbs.length:Int)≤4 - (vF 1 m.ims:Nat)∧∀x∈m.tbs,Le x=0
 ms:(m.ms.length:Int)≤2 - (vF 2 m.ims:Nat)∧∀x∈m.ms,NY x=0
 gs:(m.gs.length:Int)≤32 - (vF 3 m.ims:Nat)∧∀x∈m.gs,m5 x.g.v=true∧Qw P x.i
 exs:m.exs.length≤64∧∀x∈m.exs,LL x=0
 st:m.hs=true→rP m.st=true
 els:m.els.length≤16∧∀x∈m.els,Mk P x
 ds:m.ds.length≤16∧∀x∈m.ds,KH P x
 cs:m.cs.length≤8∧∀x∈m.cs,O2 x=0
 bo:∀x∈m.fs,Qw P x.b
theorem abX {α:Type} [Inhabited α] {g:Nat→α→Fa} {Q:α→Prop} (hq:∀i x,(g i x).c=0↔Q x) {l:List α} {i:Nat} {F:Fa}:(gr g i l F).c=0↔F.c=0∧∀x∈l,Q x:=by
 rw [afJ,← Yd (Q:=Q)]
 simp only [hq]
theorem VM {α:Type} [Inhabited α] {g:Nat→α→Fa} {Q:α→Prop} (hq:∀i x,(g i x).c=0↔Q x) {l:List α} {p n most:Int}:(gr g 0 l (Er p n most)).c=0↔n≤most∧∀x∈l,Q x:=by
 rw [abX hq,aiB]
theorem afA {P:aZ→Bool} (i:Nat) (x:El):(elR P i x).c=0↔Mk P x:=by
 unfold elR Mk
 rw [abX (Q:=Qw P) (fun _ l=>by rw [K4,yP])]
 by_cases h:elB x=0
 ·rw [ap h,K4,yP];exact ⟨fun q=>⟨h,q⟩,fun q=>q.2⟩
 ·rw [ah h,zF];exact ⟨fun q=>absurd q.1 h,fun q=>absurd q.1 h⟩
theorem afu {P:aZ→Bool} (i:Nat) (x:Da):(daR P i x).c=0↔KH P x:=by
 unfold daR KH
 by_cases h1:x.mo≠0∧(x.mo≠1∨x.me≠0∨x.o.length>0)
 ·rw [ap h1,zF];exact ⟨(fun q=>by cases q),fun q=>absurd h1 q.1⟩
 rw [ah h1]
 by_cases h2:rP x.me=false
 ·rw [ap h2,zF];exact ⟨(fun q=>by cases q),(fun q=>by rw [q.2.1] at h2;cases h2)⟩
 rw [ah h2]
 by_cases h3:x.b.length>4096
 ·rw [ap h3,zF];exact ⟨(fun q=>by cases q),fun q=>by omega⟩
 rw [ah h3,K4,yP]
 exact ⟨fun q=>⟨h1,by simpa using h2,by omega,q⟩,fun q=>q.2.2.2⟩
theorem acq {P:aZ→Bool} {m:Md} (hm:Gi m):sU P m=nT↔okM P m:=by
 rw [Tk P m hm]
 unfold adv
 rw [ZW]
 simp only [List.forall_mem_cons]
 have e1:(tyF m).c=0↔_:=VM (Q:=fun x=>LT x=0) (fun _ _=>zF)
 have e2:(imF m).c=0↔_:=VM (Q:=fun x=>L6 x=0) (fun _ _=>zF)
 have e3:(cdF m).c=0↔_:=VM (Q:=fun x=>Qs x=0) (fun _ _=>zF)
 have e4:(tbF m).c=0↔_:=VM (Q:=fun x=>Le x=0) (fun _ _=>zF)
 have e5:(mmF m).c=0↔_:=VM (Q:=fun x=>NY x=0) (fun _ _=>zF)
 have e6:(gdF P m).c=0↔_:=VM (Q:=fun x:Gd=>m5 x.g.v=true∧Qw P x.i) (fun i x=>by
  by_cases h:m5 x.g.v=false
  ·rw [ap h,zF];exact ⟨(fun q=>by cases q),fun q=>by rw [h] at q;cases q.1⟩
  ·rw [ah h,K4,yP];exact ⟨fun q=>⟨by simpa using h,q⟩,fun q=>q.2⟩)
 have e7:(exF m).c=0↔_:=VM (Q:=fun x=>LL x=0) (fun _ _=>zF)
 have e8:(stF m).c=0↔(m.hs=true→rP m.st=true):=by
  unfold stF
  by_cases h:m.hs=true∧rP m.st=false
  ·rw [ap h,zF];exact ⟨(fun q=>by cases q),fun q=>by rw [q h.1] at h;cases h.2⟩
  ·rw [ah h];exact ⟨fun _ g=>by simpa [g] using h,fun _=>rfl⟩
 have e9:(elF P m).c=0↔_:=VM (Q:=Mk P) afA
 have e10:(dsF P m).c=0↔_:=VM (Q:=KH P) afu
 have e11:(csF m).c=0↔_:=VM (Q:=fun x=>O2 x=0) (fun _ _=>zF)
 have e12:(boF P m).c=0↔_:=abX (Q:=fun x:Cd=>Qw P x.b) (fun _ x=>by rw [K4,yP])
 rw [e1,e2,e3,e4,e5,e6,e7,e8,e9,e10,e11,e12]
 constructor
 ·rintro ⟨h1,h2,h3,h4,h5,h6,h7,h8,h9,h10,h11,h12,_⟩
  exact ⟨⟨by omega,h1.2⟩,⟨by omega,h2.2⟩,h3,h4,h5,h6,⟨by omega,h7.2⟩,h8,⟨by omega,h9.2⟩,⟨by omega,h10.2⟩,⟨by omega,h11.2⟩,h12.2⟩
 ·intro h
  exact ⟨⟨by have:=h.ts.1;omega,h.ts.2⟩,⟨by have:=h.ims.1;omega,h.ims.2⟩,h.fs,h.tbs,h.ms,h.gs,⟨by have:=h.exs.1;omega,h.exs.2⟩,h.st,⟨by have:=h.els.1;omega,h.els.2⟩,⟨by have:=h.ds.1;omega,h.ds.2⟩,⟨by have:=h.cs.1;omega,h.cs.2⟩,⟨rfl,h.bo⟩,fun _ h=>by cases h⟩
structure Hr where
 f:Int
 h:List UInt8
 t:List UInt8
structure Oc where
 op:Int
 nm:List UInt8
 im:Int
def hr_ (r:Hr):List AV:=[.int .i64 r.f,.str r.h,.str r.t]
def oc_ (r:Oc):List AV:=[.int .i64 r.op,.str r.nm,.int .i64 r.im]
theorem af_ (r:Oc):oc_ r=[.int .i64 r.op,.str r.nm,.int .i64 r.im]:=rfl
instance:Inhabited Hr:=⟨⟨0,[],[]⟩⟩
instance:Inhabited Oc:=⟨⟨0,[],0⟩⟩
def HR:List Hr:=[⟨0,[],[117,110,114,101,97,99,104,97,98,108,101,32,110,111,112,32,98,108,111,99,107,32,108,111,111,112,32,105,102,32,101,108,115,101]⟩,
 ⟨11,[],[101,110,100,32,98,114,32,98,114,95,105,102,32,98,114,95,116,97,98,108,101,32,114,101,116,117,114,110,32,99,97,108,108,32,99,97,108,108,95,105,110,100,105,114,101,99,116]⟩,
 ⟨26,[],[100,114,111,112,32,115,101,108,101,99,116,32,115,101,108,101,99,116]⟩,
 ⟨32,[108,111,99,97,108,46],[103,101,116,32,115,101,116,32,116,101,101]⟩,
 ⟨35,[103,108,111,98,97,108,46],[103,101,116,32,115,101,116]⟩,
 ⟨37,[116,97,98,108,101,46],[103,101,116,32,115,101,116]⟩,
 ⟨40,[],[105,51,50,46,108,111,97,100,32,105,54,52,46,108,111,97,100]⟩,
 ⟨44,[105,51,50,46],[108,111,97,100,56,95,115,32,108,111,97,100,56,95,117,32,108,111,97,100,49,54,95,115,32,108,111,97,100,49,54,95,117]⟩,
 ⟨48,[105,54,52,46],[108,111,97,100,56,95,115,32,108,111,97,100,56,95,117,32,108,111,97,100,49,54,95,115,32,108,111,97,100,49,54,95,117,32,108,111,97,100,51,50,95,115,32,108,111,97,100,51,50,95,117]⟩,
 ⟨54,[],[105,51,50,46,115,116,111,114,101,32,105,54,52,46,115,116,111,114,101]⟩,
 ⟨58,[105,51,50,46],[115,116,111,114,101,56,32,115,116,111,114,101,49,54]⟩,
 ⟨60,[105,54,52,46],[115,116,111,114,101,56,32,115,116,111,114,101,49,54,32,115,116,111,114,101,51,50]⟩,
 ⟨63,[109,101,109,111,114,121,46],[115,105,122,101,32,103,114,111,119]⟩,
 ⟨65,[],[105,51,50,46,99,111,110,115,116,32,105,54,52,46,99,111,110,115,116]⟩,
 ⟨69,[105,51,50,46],[101,113,122,32,101,113,32,110,101,32,108,116,95,115,32,108,116,95,117,32,103,116,95,115,32,103,116,95,117,32,108,101,95,115,32,108,101,95,117,32,103,101,95,115,32,103,101,95,117]⟩,
 ⟨80,[105,54,52,46],[101,113,122,32,101,113,32,110,101,32,108,116,95,115,32,108,116,95,117,32,103,116,95,115,32,103,116,95,117,32,108,101,95,115,32,108,101,95,117,32,103,101,95,115,32,103,101,95,117]⟩,
 ⟨103,[105,51,50,46],[99,108,122,32,99,116,122,32,112,111,112,99,110,116,32,97,100,100,32,115,117,98,32,109,117,108,32,100,105,118,95,115,32,100,105,118,95,117,32,114,101,109,95,115,32,114,101,109,95,117,32,97,110,100,32,111,114,32,120,111,114,32,115,104,108,32,115,104,114,95,115,32,115,104,114,95,117,32,114,111,116,108,32,114,111,116,114]⟩,
 ⟨121,[105,54,52,46],[99,108,122,32,99,116,122,32,112,111,112,99,110,116,32,97,100,100,32,115,117,98,32,109,117,108,32,100,105,118,95,115,32,100,105,118,95,117,32,114,101,109,95,115,32,114,101,109,95,117,32,97,110,100,32,111,114,32,120,111,114,32,115,104,108,32,115,104,114,95,115,32,115,104,114,95,117,32,114,111,116,108,32,114,111,116,114]⟩,
 ⟨167,[],[105,51,50,46,119,114,97,112,95,105,54,52]⟩,
 ⟨172,[105,54,52,46],[101,120,116,101,110,100,95,105,51,50,95,115,32,101,120,116,101,110,100,95,105,51,50,95,117]⟩,
 ⟨192,[105,51,50,46],[101,120,116,101,110,100,56,95,115,32,101,120,116,101,110,100,49,54,95,115]⟩,
 ⟨194,[105,54,52,46],[101,120,116,101,110,100,56,95,115,32,101,120,116,101,110,100,49,54,95,115,32,101,120,116,101,110,100,51,50,95,115]⟩,
 ⟨208,[114,101,102,46],[110,117,108,108,32,105,115,95,110,117,108,108,32,102,117,110,99]⟩,
 ⟨64520,[],[109,101,109,111,114,121,46,105,110,105,116,32,100,97,116,97,46,100,114,111,112,32,109,101,109,111,114,121,46,99,111,112,121,32,109,101,109,111,114,121,46,102,105,108,108,32,116,97,98,108,101,46,105,110,105,116,32,101,108,101,109,46,100,114,111,112,32,116,97,98,108,101,46,99,111,112,121,32,116,97,98,108,101,46,103,114,111,119,32,116,97,98,108,101,46,115,105,122,101,32,116,97,98,108,101,46,102,105,108,108]⟩]
def num (f:Int) (t:List UInt8):Nat→List (List UInt8)→List Oc
 | _,[]=>[]
 | k,s :: r=>⟨f+(k:Int),t++[46]++s,0⟩ :: num f t (k+1) r
def OC:List Oc:=[⟨0,[117,110,114,101,97,99,104,97,98,108,101],0⟩,
 ⟨1,[110,111,112],0⟩,
 ⟨2,[98,108,111,99,107],1⟩,
 ⟨3,[108,111,111,112],1⟩,
 ⟨4,[105,102],1⟩,
 ⟨5,[101,108,115,101],0⟩,
 ⟨11,[101,110,100],0⟩,
 ⟨12,[98,114],2⟩,
 ⟨13,[98,114,95,105,102],2⟩,
 ⟨14,[98,114,95,116,97,98,108,101],3⟩,
 ⟨15,[114,101,116,117,114,110],0⟩,
 ⟨16,[99,97,108,108],4⟩,
 ⟨17,[99,97,108,108,95,105,110,100,105,114,101,99,116],5⟩,
 ⟨26,[100,114,111,112],0⟩,
 ⟨27,[115,101,108,101,99,116],0⟩,
 ⟨28,[115,101,108,101,99,116],6⟩,
 ⟨32,[108,111,99,97,108,46,103,101,116],7⟩,
 ⟨33,[108,111,99,97,108,46,115,101,116],7⟩,
 ⟨34,[108,111,99,97,108,46,116,101,101],7⟩,
 ⟨35,[103,108,111,98,97,108,46,103,101,116],8⟩,
 ⟨36,[103,108,111,98,97,108,46,115,101,116],8⟩,
 ⟨37,[116,97,98,108,101,46,103,101,116],9⟩,
 ⟨38,[116,97,98,108,101,46,115,101,116],9⟩,
 ⟨40,[105,51,50,46,108,111,97,100],17⟩,
 ⟨41,[105,54,52,46,108,111,97,100],17⟩,
 ⟨44,[105,51,50,46,108,111,97,100,56,95,115],17⟩,
 ⟨45,[105,51,50,46,108,111,97,100,56,95,117],17⟩,
 ⟨46,[105,51,50,46,108,111,97,100,49,54,95,115],17⟩,
 ⟨47,[105,51,50,46,108,111,97,100,49,54,95,117],17⟩,
 ⟨48,[105,54,52,46,108,111,97,100,56,95,115],17⟩,
 ⟨49,[105,54,52,46,108,111,97,100,56,95,117],17⟩,
 ⟨50,[105,54,52,46,108,111,97,100,49,54,95,115],17⟩,
 ⟨51,[105,54,52,46,108,111,97,100,49,54,95,117],17⟩,
 ⟨52,[105,54,52,46,108,111,97,100,51,50,95,115],17⟩,
 ⟨53,[105,54,52,46,108,111,97,100,51,50,95,117],17⟩,
 ⟨54,[105,51,50,46,115,116,111,114,101],17⟩,
 ⟨55,[105,54,52,46,115,116,111,114,101],17⟩,
 ⟨58,[105,51,50,46,115,116,111,114,101,56],17⟩,
 ⟨59,[105,51,50,46,115,116,111,114,101,49,54],17⟩,
 ⟨60,[105,54,52,46,115,116,111,114,101,56],17⟩,
 ⟨61,[105,54,52,46,115,116,111,114,101,49,54],17⟩,
 ⟨62,[105,54,52,46,115,116,111,114,101,51,50],17⟩,
 ⟨63,[109,101,109,111,114,121,46,115,105,122,101],13⟩,
 ⟨64,[109,101,109,111,114,121,46,103,114,111,119],13⟩,
 ⟨65,[105,51,50,46,99,111,110,115,116],18⟩,
 ⟨66,[105,54,52,46,99,111,110,115,116],19⟩,
 ⟨69,[105,51,50,46,101,113,122],0⟩,
 ⟨70,[105,51,50,46,101,113],0⟩,
 ⟨71,[105,51,50,46,110,101],0⟩,
 ⟨72,[105,51,50,46,108,116,95,115],0⟩,
 ⟨73,[105,51,50,46,108,116,95,117],0⟩,
 ⟨74,[105,51,50,46,103,116,95,115],0⟩,
 ⟨75,[105,51,50,46,103,116,95,117],0⟩,
 ⟨76,[105,51,50,46,108,101,95,115],0⟩,
 ⟨77,[105,51,50,46,108,101,95,117],0⟩,
 ⟨78,[105,51,50,46,103,101,95,115],0⟩,
 ⟨79,[105,51,50,46,103,101,95,117],0⟩,
 ⟨80,[105,54,52,46,101,113,122],0⟩,
 ⟨81,[105,54,52,46,101,113],0⟩,
 ⟨82,[105,54,52,46,110,101],0⟩,
 ⟨83,[105,54,52,46,108,116,95,115],0⟩,
 ⟨84,[105,54,52,46,108,116,95,117],0⟩,
 ⟨85,[105,54,52,46,103,116,95,115],0⟩,
 ⟨86,[105,54,52,46,103,116,95,117],0⟩,
 ⟨87,[105,54,52,46,108,101,95,115],0⟩,
 ⟨88,[105,54,52,46,108,101,95,117],0⟩,
 ⟨89,[105,54,52,46,103,101,95,115],0⟩,
 ⟨90,[105,54,52,46,103,101,95,117],0⟩,
 ⟨103,[105,51,50,46,99,108,122],0⟩,
 ⟨104,[105,51,50,46,99,116,122],0⟩,
 ⟨105,[105,51,50,46,112,111,112,99,110,116],0⟩,
 ⟨106,[105,51,50,46,97,100,100],0⟩,
 ⟨107,[105,51,50,46,115,117,98],0⟩,
 ⟨108,[105,51,50,46,109,117,108],0⟩,
 ⟨109,[105,51,50,46,100,105,118,95,115],0⟩,
 ⟨110,[105,51,50,46,100,105,118,95,117],0⟩,
 ⟨111,[105,51,50,46,114,101,109,95,115],0⟩,
 ⟨112,[105,51,50,46,114,101,109,95,117],0⟩,
 ⟨113,[105,51,50,46,97,110,100],0⟩,
 ⟨114,[105,51,50,46,111,114],0⟩,
 ⟨115,[105,51,50,46,120,111,114],0⟩,
 ⟨116,[105,51,50,46,115,104,108],0⟩,
 ⟨117,[105,51,50,46,115,104,114,95,115],0⟩,
 ⟨118,[105,51,50,46,115,104,114,95,117],0⟩,
 ⟨119,[105,51,50,46,114,111,116,108],0⟩,
 ⟨120,[105,51,50,46,114,111,116,114],0⟩,
 ⟨121,[105,54,52,46,99,108,122],0⟩,
 ⟨122,[105,54,52,46,99,116,122],0⟩,
 ⟨123,[105,54,52,46,112,111,112,99,110,116],0⟩,
 ⟨124,[105,54,52,46,97,100,100],0⟩,
 ⟨125,[105,54,52,46,115,117,98],0⟩,
 ⟨126,[105,54,52,46,109,117,108],0⟩,
 ⟨127,[105,54,52,46,100,105,118,95,115],0⟩,
 ⟨128,[105,54,52,46,100,105,118,95,117],0⟩,
 ⟨129,[105,54,52,46,114,101,109,95,115],0⟩,
 ⟨130,[105,54,52,46,114,101,109,95,117],0⟩,
 ⟨131,[105,54,52,46,97,110,100],0⟩,
 ⟨132,[105,54,52,46,111,114],0⟩,
 ⟨133,[105,54,52,46,120,111,114],0⟩,
 ⟨134,[105,54,52,46,115,104,108],0⟩,
 ⟨135,[105,54,52,46,115,104,114,95,115],0⟩,
 ⟨136,[105,54,52,46,115,104,114,95,117],0⟩,
 ⟨137,[105,54,52,46,114,111,116,108],0⟩,
 ⟨138,[105,54,52,46,114,111,116,114],0⟩,
 ⟨167,[105,51,50,46,119,114,97,112,95,105,54,52],0⟩,
 ⟨172,[105,54,52,46,101,120,116,101,110,100,95,105,51,50,95,115],0⟩,
 ⟨173,[105,54,52,46,101,120,116,101,110,100,95,105,51,50,95,117],0⟩,
 ⟨192,[105,51,50,46,101,120,116,101,110,100,56,95,115],0⟩,
 ⟨193,[105,51,50,46,101,120,116,101,110,100,49,54,95,115],0⟩,
 ⟨194,[105,54,52,46,101,120,116,101,110,100,56,95,115],0⟩,
 ⟨195,[105,54,52,46,101,120,116,101,110,100,49,54,95,115],0⟩,
 ⟨196,[105,54,52,46,101,120,116,101,110,100,51,50,95,115],0⟩,
 ⟨208,[114,101,102,46,110,117,108,108],20⟩,
 ⟨209,[114,101,102,46,105,115,95,110,117,108,108],0⟩,
 ⟨210,[114,101,102,46,102,117,110,99],4⟩,
 ⟨64520,[109,101,109,111,114,121,46,105,110,105,116],15⟩,
 ⟨64521,[100,97,116,97,46,100,114,111,112],16⟩,
 ⟨64522,[109,101,109,111,114,121,46,99,111,112,121],14⟩,
 ⟨64523,[109,101,109,111,114,121,46,102,105,108,108],13⟩,
 ⟨64524,[116,97,98,108,101,46,105,110,105,116],11⟩,
 ⟨64525,[101,108,101,109,46,100,114,111,112],12⟩,
 ⟨64526,[116,97,98,108,101,46,99,111,112,121],10⟩,
 ⟨64527,[116,97,98,108,101,46,103,114,111,119],9⟩,
 ⟨64528,[116,97,98,108,101,46,115,105,122,101],9⟩,
 ⟨64529,[116,97,98,108,101,46,102,105,108,108],9⟩]
def wdA:List UInt8→List UInt8→List (List UInt8)
 | [],w=>if w=[] then [] else [w]
 | c :: r,w=>if c=32 then (if w=[] then wdA r [] else w :: wdA r []) else wdA r (w++[c])
def wds (s:List UInt8):List (List UInt8):=wdA s []
def Pf (f:Int) (h:List UInt8):Nat→List (List UInt8)→List (Int×List UInt8)
 | _,[]=>[]
 | k,s :: r=>(f+(k:Int),h++s) :: Pf f h (k+1) r
def EN:List (Int×List UInt8):=OC.map fun o=>(o.op,o.nm)
theorem aeN:EN=HR.flatMap fun r=>Pf r.f r.h 0 (wds r.t):=by decide +kernel
open Go.Shelf
def adw:Go.Shelf.Ren:=⟨fun | 144=>340 | 143=>350 | 219=>367 | 217=>290 | 225=>372 | 224=>373 | 267=>374 | 266=>327 | 314=>377 | n=>n,fun | 9=>9 | 4=>4 | 3=>3 | 5=>5 | 46=>320 | 146=>432 | 51=>367 | n=>n,fun | 1=>2 | n=>n⟩
theorem XO:Go.Proofs.Lays.n144 pg adw:={
 mixed:=by kernel_rfl
 f143:=Tryz.func350.trans (congrArg some (by kernel_rfl))
 f144:=Tryz.func340.trans (congrArg some (by kernel_rfl))
 f217:=Tryz.func290.trans (congrArg some (by kernel_rfl))
 f219:=Tryz.func367.trans (congrArg some (by kernel_rfl))
 f224:=Tryz.func373.trans (congrArg some (by kernel_rfl))
 f225:=Tryz.func372.trans (congrArg some (by kernel_rfl))
 f266:=Tryz.func327.trans (congrArg some (by kernel_rfl))
 f267:=Tryz.func374.trans (congrArg some (by kernel_rfl))
 f314:=Tryz.func377.trans (congrArg some (by kernel_rfl))
 t3:=Tryz.underlying3
 a3:=Tryz.isAgg3
 z3:=Tryz.sizeOf3
 v3:=Tryz.zeroValue3
 t4:=Tryz.underlying4
 a4:=Tryz.isAgg4
 z4:=Tryz.sizeOf4
 v4:=Tryz.zeroValue4
 t5:=Tryz.underlying5
 a5:=Tryz.isAgg5
 z5:=Tryz.sizeOf5
 v5:=Tryz.zeroValue5
 t9:=Tryz.underlying9
 a9:=Tryz.isAgg9
 z9:=Tryz.sizeOf9
 v9:=Tryz.zeroValue9
 t46:=Tryz.underlying320
 a46:=Tryz.isAgg320
 z46:=Tryz.sizeOf320
 v46:=Tryz.zeroValue320
 t51:=Tryz.underlying367
 a51:=Tryz.isAgg367
 z51:=Tryz.sizeOf367
 v51:=Tryz.zeroValue367
 t146:=Tryz.underlying432
 a146:=Tryz.isAgg432
 z146:=Tryz.sizeOf432
 v146:=Tryz.zeroValue432
 g1:=by kernel_rfl }
def adx:Go.Shelf.Ren:=⟨fun | 157=>353 | 229=>368 | 199=>369 | 261=>375 | 311=>378 | 312=>379 | n=>n,fun | 9=>9 | 31=>394 | 3=>3 | 5=>5 | 4=>4 | 119=>325 | 0=>0 | 40=>423 | 152=>427 | 21=>21 | 154=>429 | 51=>367 | 141=>431 | 196=>437 | 193=>434 | 198=>440 | 49=>438 | 194=>435 | 201=>443 | 226=>445 | 46=>320 | 227=>446 | n=>n,fun | 0=>3 | 6=>4 | n=>n⟩
theorem XP:Go.Proofs.Lays.n157 pg adx:={
 mixed:=by kernel_rfl
 f157:=Tryz.func353.trans (congrArg some (by kernel_rfl))
 f199:=Tryz.func369.trans (congrArg some (by kernel_rfl))
 f229:=Tryz.func368.trans (congrArg some (by kernel_rfl))
 f261:=Tryz.func375.trans (congrArg some (by kernel_rfl))
 f311:=Tryz.func378.trans (congrArg some (by kernel_rfl))
 f312:=Tryz.func379.trans (congrArg some (by kernel_rfl))
 t0:=Tryz.underlying0
 a0:=Tryz.isAgg0
 z0:=Tryz.sizeOf0
 v0:=Tryz.zeroValue0
 t3:=Tryz.underlying3
 a3:=Tryz.isAgg3
 z3:=Tryz.sizeOf3
 v3:=Tryz.zeroValue3
 t4:=Tryz.underlying4
 a4:=Tryz.isAgg4
 z4:=Tryz.sizeOf4
 v4:=Tryz.zeroValue4
 t5:=Tryz.underlying5
 a5:=Tryz.isAgg5
 z5:=Tryz.sizeOf5
 v5:=Tryz.zeroValue5
 t9:=Tryz.underlying9
 a9:=Tryz.isAgg9
 z9:=Tryz.sizeOf9
 v9:=Tryz.zeroValue9
 t21:=Tryz.underlying21
 a21:=Tryz.isAgg21
 z21:=Tryz.sizeOf21
 v21:=Tryz.zeroValue21
 t31:=Tryz.underlying394
 a31:=Tryz.isAgg394
 z31:=Tryz.sizeOf394
 v31:=Tryz.zeroValue394
 t40:=Tryz.underlying423
 a40:=Tryz.isAgg423
 z40:=Tryz.sizeOf423
 v40:=Tryz.zeroValue423
 t46:=Tryz.underlying320
 a46:=Tryz.isAgg320
 z46:=Tryz.sizeOf320
 v46:=Tryz.zeroValue320
 t49:=Tryz.underlying438
 a49:=Tryz.isAgg438
 z49:=Tryz.sizeOf438
 v49:=Tryz.zeroValue438
 t51:=Tryz.underlying367
 a51:=Tryz.isAgg367
 z51:=Tryz.sizeOf367
 v51:=Tryz.zeroValue367
 t119:=Tryz.underlying325
 a119:=Tryz.isAgg325
 z119:=Tryz.sizeOf325
 t141:=Tryz.underlying431
 a141:=Tryz.isAgg431
 z141:=Tryz.sizeOf431
 v141:=Tryz.zeroValue431
 t152:=Tryz.underlying427
 a152:=Tryz.isAgg427
 z152:=Tryz.sizeOf427
 v152:=Tryz.zeroValue427
 t154:=Tryz.underlying429
 a154:=Tryz.isAgg429
 z154:=Tryz.sizeOf429
 v154:=Tryz.zeroValue429
 t193:=Tryz.underlying434
 a193:=Tryz.isAgg434
 z193:=Tryz.sizeOf434
 v193:=Tryz.zeroValue434
 t194:=Tryz.underlying435
 a194:=Tryz.isAgg435
 z194:=Tryz.sizeOf435
 v194:=Tryz.zeroValue435
 t196:=Tryz.underlying437
 a196:=Tryz.isAgg437
 z196:=Tryz.sizeOf437
 v196:=Tryz.zeroValue437
 t198:=Tryz.underlying440
 a198:=Tryz.isAgg440
 z198:=Tryz.sizeOf440
 v198:=Tryz.zeroValue440
 t201:=Tryz.underlying443
 a201:=Tryz.isAgg443
 z201:=Tryz.sizeOf443
 v201:=Tryz.zeroValue443
 t226:=Tryz.underlying445
 a226:=Tryz.isAgg445
 z226:=Tryz.sizeOf445
 v226:=Tryz.zeroValue445
 t227:=Tryz.underlying446
 a227:=Tryz.isAgg446
 z227:=Tryz.sizeOf446
 v227:=Tryz.zeroValue446
 g0:=by kernel_rfl
 g6:=by kernel_rfl }
theorem xG (s sub:List UInt8) (hs:s.length<4294967281):ao pg xA [.str s,.str sub] (.bool (Lib.contains s sub)):=by
 refine ao.of (fun w bl M cargs hH hM ha=>?_) rfl
 match cargs,ha with
 | [a,b],⟨h1,h2,_⟩ =>
  obtain rfl:=h1.str
  obtain rfl:=h2.str
  obtain ⟨m,hm⟩:=hH.2.2
  refine (Any.strings_Contains XO ⟨s.toArray⟩ ⟨sub.toArray⟩ m w (by simpa [ByteArray.size] using hs) hm).mono ?_
  rintro e w' ⟨rfl,rfl⟩
  exact ⟨_,rfl,qt.refl _ _,IRel.bool _⟩
theorem LN (s:List UInt8) (hs:s.length<4294967281) (ha:∀b∈s,b.toNat<128) (w:World) (hH:(bJ.T pg).H w) :
  Calls pg Ac #[.string ⟨s.toArray⟩] w fun e w'=>e = .returned (.slice (some ⟨w.heap.size,0,none⟩) (Lib.fields s).length (Lib.fields s).length)∧w'=w.alloc (.cells ((Lib.fields s).map fun l=>Value.string ⟨l.toArray⟩).toArray 9):=by
 have h:=Any.strings_Fields_core XP (by kernel_rfl) ⟨s.toArray⟩ w (by simpa [ByteArray.size] using hs) (fun j b hb=>ha b (ve (by simpa using hb))) (fun c hc=>hH.2.1 c hc)
 exact h
theorem Zh:ao pg F7 [] (.sl 3 (HR.map hr_)):=by
 refine aL wA ?_
 simp only [go_sem,wA]
 exact aJ [25] (by rfl) rfl
theorem U1:ao pg EJ [] (.fn 351 []):=by
 refine aL tF ?_
 simp only [go_sem,tF]
 exact aj
section
open Go.RowKit
attribute [local go_sem] Oper.semAt_some
def abH (x:Int×List UInt8):Array Value:=#[.int .i64 x.1,.string ⟨x.2.toArray⟩]
theorem MD {M:Nat→Prop} {w:World} {v:Value} (h:bg (fun _=>none) M w v (.sl 3 (HR.map hr_))):∃b off cap,v = .slice (some ⟨b,off,none⟩) 24 cap∧¬M b∧∃c t fr,w.heap[b]? = some (.cells c t fr) ∧
  ∀i,i<24→c[off+i * 3]? = some (.int .i64 (ac HR i).f)∧c[off+i * 3+1]? = some (.string ⟨(ac HR i).h.toArray⟩)∧c[off+i * 3+2]? = some (.string ⟨(ac HR i).t.toArray⟩):=by
 have h1:IRel M w v (.sl 3 (HR.map hr_)):=h
 have hlen:(HR.map hr_).length=24:=by rfl
 generalize hr:HR.map hr_=rows at h1 hlen
 cases h1 with
 | nls=>simp at hlen
 | sl0=>simp at hlen
 | sl b off cap st c t fr rows vs hb hM hl hr1 hv hx =>
  refine ⟨b,off,cap,by rw [hlen],hM,c,t,fr,hb,fun i hi=>?_⟩
  have hrow:rows[i]? = some (hr_ (ac HR i)):=by
   rw [← hr,jy,oY (by rw [← hlen,← hr] at hi;simpa using hi)]
   rfl
  have key:∀j x,(hr_ (ac HR i))[j]? = some x→j<3→∃u,c[off+i * 3+j]? = some u∧IRel M w u x:=fun j x hj hj3=>⟨_,hv i j (by omega) hj3,hx i j _ _ hrow hj⟩
  obtain ⟨u0,a0,b0⟩:=key 0 (.int .i64 (ac HR i).f) rfl (by omega)
  obtain ⟨u1,a1,b1⟩:=key 1 (.str (ac HR i).h) rfl (by omega)
  obtain ⟨u2,a2,b2⟩:=key 2 (.str (ac HR i).t) rfl (by omega)
  cases b0;cases b1;cases b2
  exact ⟨a0,a1,a2⟩
def E2 (k:Nat):List (Int×List UInt8):=(HR.take k).flatMap fun r=>Pf r.f r.h 0 (Lib.fields r.t)
theorem aeP (k:Nat) (h:k<24):(ac HR k).t.length<4294967281∧∀b∈(ac HR k).t,b.toNat<128:=by
 have:∀r∈HR,r.t.length<4294967281∧∀b∈r.t,b.toNat<128:=by decide +kernel
 exact this _ (by rw [bp (by exact h)];exact List.getElem_mem _)
theorem aaS (k:Nat) (h:k<24):(ac HR k).h.length<1000∧0≤(ac HR k).f∧(ac HR k).f<100000∧(Lib.fields (ac HR k).t).length<1000∧∀s∈Lib.fields (ac HR k).t,s.length<1000:=by
 have:∀r∈HR,r.h.length<1000∧0≤r.f∧r.f<100000∧(Lib.fields r.t).length<1000∧∀s∈Lib.fields r.t,s.length<1000:=by decide +kernel
 exact this _ (by rw [bp (by exact h)];exact List.getElem_mem _)
theorem Nq (f:Int) (h:List UInt8):∀(l:List (List UInt8)) (k:Nat),(Pf f h k l).length=l.length
 | [],_=>rfl
 | _ :: l,k=>by simp [Pf,Nq f h l]
theorem Np (f:Int) (h:List UInt8):∀(l:List (List UInt8)) (k j:Nat),j<l.length→(Pf f h k l)[j]? = some (f+((k+j:Nat):Int),h++ac l j)
 | [],_,j,hj=>by simp at hj
 | s :: l,k,0,_=>rfl
 | s :: l,k,j+1,hj=>by
  have:=Np f h l (k+1) j (by simpa using hj)
  simp only [Pf,List.getElem?_cons_succ]
  rw [this,show k+1+j=k+(j+1) by omega]
  rfl
theorem JV {f:Int} {h:List UInt8} {l:List (List UInt8)} {j:Nat} (hj:j<l.length):(Pf f h 0 l).take (j+1)=(Pf f h 0 l).take j++[(f+(j:Int),h++ac l j)]:=by
 rw [List.take_add_one,Np f h l 0 j hj,Option.toList_some,Nat.zero_add]
theorem Hc {k:Nat} (h:k<24):E2 (k+1)=E2 k++Pf (ac HR k).f (ac HR k).h 0 (Lib.fields (ac HR k).t):=by
 unfold E2
 rw [List.take_add_one,oY (show k<HR.length from h),Option.toList_some,List.flatMap_append,List.flatMap_singleton]
theorem Ur {k:Nat} (h:k≤24):E2 k <+: E2 24:=by
 have e:HR.take 24=HR.take k++(HR.take 24).drop k:=by
  rw [show HR.take k=(HR.take 24).take k by rw [List.take_take,Nat.min_eq_left h]];exact (List.take_append_drop k _).symm
 unfold E2
 rw [e,List.flatMap_append]
 exact List.prefix_append _ _
theorem Uq:E2 24=HR.flatMap fun r=>Pf r.f r.h 0 (wds r.t):=by decide +kernel
theorem acC (n:Nat) (w:World):aeV n pg 351 #[] abH EN w:=by
 intro l J Jx W hH hW hJ hJx hY h0
 refine callsIn_of_wp Tryz.func351 rfl trivial ?_ rfl
 have hE:E2 24=EN:=by rw [aeN];exact Uq
 have cr:=ao.run Zh W hH (cargs:=[]) trivial
 simp only [Tryz.ntmps351,List.size_toArray,eA,b_,Nat.reduceAdd,Nat.reduceSub,Array.replicate_succ,Array.replicate_zero,List.push_toArray,List.append_toArray,fh,jR]
 gi_wp2
 refine ⟨trivial,fun h=>(by cases h),(callsIn_wide.2 cr).mono ?_⟩
 rintro e W1 ⟨v,rfl,hv,hst⟩
 obtain ⟨b,off,cap,rfl,hnb,c,t,fr,hb,hc⟩:=MD hv
 gi_wp2
 gi_loopw [8] (fun i wr=>∃k:Nat,k≤24∧i = .int .i64 k∧J (E2 k) wr∧W.heap.size≤wr.heap.size∧wr.heap[b]? = some (.cells c t fr)∧(bJ.T pg).H wr) (fun i _=>24 - (intOf i).toNat)
 case atStart=>exact ⟨0,by omega,rfl,hJ _ _ _ h0 hst,hst.size,hb,(bJ.T pg).stay _ _ hH fun q hq=>hst.keep q ((bJ.T pg).low _ hH q hq) (fun h=>h)⟩
 case round =>
  obtain ⟨k,hk,rfl,hJk,hsz,hbk,hHk⟩:=hrel
  rename World=>wo1
  by_cases hlt:k<24
  ·have c0:wo1.cell? ⟨b,off+k * 3,none⟩=some (.int .i64 (ac HR k).f):=(fF hbk _).trans (hc k hlt).1
   have c1:wo1.cell? ⟨b,off+k * 3+1,none⟩=some (.string ⟨(ac HR k).h.toArray⟩):=(fF hbk _).trans (hc k hlt).2.1
   have c2:wo1.cell? ⟨b,off+k * 3+2,none⟩=some (.string ⟨(ac HR k).t.toArray⟩):=(fF hbk _).trans (hc k hlt).2.2
   have hsA:=qt.ofAlloc wo1 (.cells #[.int .i64 (ac HR k).f,.string ⟨(ac HR k).h.toArray⟩,.string ⟨(ac HR k).t.toArray⟩] 413)
   have hHA:=(bJ.T pg).stay _ _ hHk fun q hq=>hsA.keep q ((bJ.T pg).low _ hHk q hq) (fun h=>h)
   obtain ⟨hl,ha⟩:=aeP k hlt
   obtain ⟨hh,hf0,hf1,hfl,hfs⟩:=aaS k hlt
   have cf:=LN (ac HR k).t hl ha _ hHA
   generalize hF:Lib.fields (ac HR k).t=fl at cf hfl hfs
   gi_wp2
   refine ⟨trivial,fun h=>(by cases h),(callsIn_wide.2 cf).mono ?_⟩
   rintro e W2 ⟨rfl,rfl⟩
   gi_wp2
   gi_loopw [16] (fun i wr2=>∃j:Nat,j≤fl.length∧i = .int .i64 j∧J (E2 k++(Pf (ac HR k).f (ac HR k).h 0 fl).take j) wr2∧W.heap.size≤wr2.heap.size∧wr2.heap[b]? = some (.cells c t fr) ∧
     wr2.heap[wo1.heap.size]? = some (.cells #[.int .i64 (ac HR k).f,.string ⟨(ac HR k).h.toArray⟩,.string ⟨(ac HR k).t.toArray⟩] 413)∧wr2.heap[wo1.heap.size+1]? = some (.cells (fl.map fun l=>Value.string ⟨l.toArray⟩).toArray 9)∧(bJ.T pg).H wr2) (fun i _=>fl.length - (intOf i).toNat)
   case atStart =>
    have hsF:=hsA.one (qt.ofAlloc _ (.cells (fl.map fun l=>Value.string ⟨l.toArray⟩).toArray 9))
    refine ⟨0,cX _,rfl,?_,by simp;omega,?_,?_,?_,?_⟩
    ·rw [oa,mz];exact hJ _ _ _ hJk hsF
    ·rw [hsF.keep b (bQ hbk) (fun h=>h)];exact hbk
    ·exact (Below.heap_alloc _ _ _ (by simp)).trans (World.alloc_heap_new _ _)
    ·have:=World.alloc_heap_new (wo1.alloc (.cells #[.int .i64 (ac HR k).f,.string ⟨(ac HR k).h.toArray⟩,.string ⟨(ac HR k).t.toArray⟩] 413)) (.cells (fl.map fun l=>Value.string ⟨l.toArray⟩).toArray 9)
     rwa [World.size_alloc] at this
    ·exact (bJ.T pg).stay _ _ hHk fun q hq=>hsF.keep q ((bJ.T pg).low _ hHk q hq) (fun h=>h)
   case round =>
    obtain ⟨j,hj,rfl,hJj,hsz2,hb2,hx2,hs2,hH2⟩:=hrel
    by_cases hlt2:j<fl.length
    ·have d0:wr.cell? ⟨wo1.heap.size,0,none⟩=some (.int .i64 (ac HR k).f):=fF hx2 _
     have d1:wr.cell? ⟨wo1.heap.size,1,none⟩=some (.string ⟨(ac HR k).h.toArray⟩):=fF hx2 _
     have d3:wr.cell? ⟨wo1.heap.size+1,j,none⟩=some (.string ⟨(ac fl j).toArray⟩):=(fF hs2 _).trans (by rw [List.getElem?_toArray,jy,oY hlt2];rfl)
     have hss:=hfs (ac fl j) (by rw [bp hlt2];exact List.getElem_mem _)
     have hcat:¬9223372036854775807<(ac HR k).h.length+(ac fl j).length:=by omega
     have hpre:(E2 k++(Pf (ac HR k).f (ac HR k).h 0 fl).take j)++[((ac HR k).f+(j:Int),(ac HR k).h++ac fl j)] <+: EN:=by
      rw [du,← JV hlt2,← hE,← hF]
      refine List.IsPrefix.trans ?_ (Ur (show k+1≤24 by omega))
      rw [Hc hlt]
      exact (List.prefix_append_right_inj _).2 (List.take_prefix _ _)
     obtain ⟨fn,tmps,assign,body,hy,hR⟩:=hY _ _ wr hJj hpre
     have hw:wrap64 ((ac HR k).f+(j:Int))=(ac HR k).f+(j:Int):=IntWalk.wrap64_in _ (by omega)
     have hc2:(ByteArray.mk (ac HR k).h.toArray++ByteArray.mk (ac fl j).toArray)=ByteArray.mk ((ac HR k).h++ac fl j).toArray:=by apply ByteArray.ext;simp
     have hy2:(Instr.yield l #[.int .i64 ((ac HR k).f+(j:Int)),.string (ByteArray.mk ((ac HR k).h++ac fl j).toArray)]).run pg wr = .ok (.round l fn tmps assign body) wr:=hy
     gi_wp2
     refine ⟨fun h=>(by cases h),hR.mono ?_⟩
     rintro e W3 (⟨rfl,hJ3,hk3⟩ | ⟨rfl,hJx3⟩)
     ·gi_wp2
      go_roundw
      case rel =>
       refine ⟨j+1,by omega,by simp,?_,gz hsz2 hk3.1,?_,hk3.2.1 _ _ _ _ hsz hx2,hk3.2.1 _ _ _ _ (by omega) hs2,(bJ.T pg).stay _ _ hH2 fun q hq=>hk3.2.2 q hq⟩
       ·rw [JV hlt2,← du];exact hJ3
       ·by_cases hbw:W.heap.size≤b
        ·exact hk3.2.1 _ _ _ _ hbw hb2
        ·rw [hk3.2.2 b (Classical.byContradiction fun hn=>hnb ⟨by omega,hn⟩)];exact hb2
      case measure=>simp [intOf];omega
     ·gi_wp2
      refine bodyPost_ret (results_none rfl _ _ _) rfl ?_
      exact ⟨⟨_,rfl⟩,.inr ⟨_,hpre,hJx3⟩⟩
    ·obtain rfl:j=fl.length:=by omega
     gi_wp2
     refine ⟨⟨k+1,by omega,by simp,?_,hsz2,hb2,hH2⟩,by simp [intOf];omega⟩
     rw [Hc hlt,hF]
     rw [fL (by rw [Nq];exact bt _)] at hJj
     exact hJj
  ·obtain rfl:k=24:=by omega
   gi_wp2
   go_end0
   exact ⟨⟨_,rfl⟩,.inl (hE▸hJk)⟩
end
section
open Go.RowKit
attribute [local go_sem] Oper.semAt_some
def dq (op:Int):List UInt8:=match EN.find? (fun p=>p.1==op) with
 | some p=>p.2
 | none=>[]
theorem R5 {α:Type} {f:α→Bool} {l od:List α} {x:α} (h:od++[x] <+: l) (hn:∀p∈od,f p=false) (hx:f x=true):l.find? f=some x:=by
 obtain ⟨r,rfl⟩:=h
 rw [du,List.find?_append,List.find?_eq_none.2 (fun p hp=>by rw [hn p hp];decide)]
 simp [hx]
theorem r8 {w W:World} {l:Nat} {o o':Obj} (h:qt No w W) (hl:w.heap.size≤l) (hc:W.heap[l]? = some o) (ho:o.isCells=false):qt No w (W.putObj l o') where
 size:=gz h.size (grownBy_putObj' W l o').size
 keep b hb _:=by rw [World.putObj_heap_other (by omega)];exact h.keep b hb (fun h=>h)
 shape b c t fr hb:=by
  obtain ⟨c',fr',h1,h2⟩:=h.shape b c t fr hb
  exact ⟨c',fr',by rw [World.putObj_heap_other (by have:=bQ hb;omega)];exact h1,h2⟩
 os:=(grownBy_putObj' W l o').os.trans h.os
 out:=(grownBy_putObj' W l o').output.trans h.out
theorem BX {w W:World} {a:Addr} {v:Value} (h:qt No w W) (hl:w.heap.size≤a.block):qt No w (W.setCell a v) where
 size:=by simpa [World.setCell] using h.size
 keep b hb _:=by
  have:b≠a.block:=by omega
  simp only [World.setCell,Dm,ah (Ne.symm this)]
  exact h.keep b hb (fun h=>h)
 shape b c t fr hb:=by
  obtain ⟨c',fr',h1,h2⟩:=h.shape b c t fr hb
  have:b≠a.block:=by have:=bQ hb;omega
  exact ⟨c',fr',by simp only [World.setCell,Dm,ah (Ne.symm this)];exact h1,h2⟩
 os:=h.os
 out:=h.out
theorem abI {bl:Nat→Option Nat} {M:Nat→Prop} {w:World} {v:Value} {f:FuncId} (h:bg bl M w v (.fn f [])) (hf:decide (f<4000000)=true:=by rfl):v = .func (.func f) #[] #[]:=by
 obtain ⟨cs,rfl,h⟩:=h
 have h1:ZT f=f:=ap (of_decide_eq_true hf)
 cases cs with
 | nil=>rw [h1];simp
 | cons=>exact h.elim
theorem wM {fn:Func} {t:Tmp} {ty:TypeId} (h:fn.results = #[.cell t ty]) (tmps:Array Value) (P:Program) (w:World) {b:Nat} {v:Value} (ha:tmps.getD t undef = .pointer (some ⟨b,0,none⟩)) (hagg:(isAgg ty).run P w = .ok false w)
  (hc:w.cell? ⟨b,0,none⟩=some v):(results fn tmps).run P w = .ok v w:=by
 simp only [tc] at ha
 have hc':w.cell? { block:=b,off:=0 }=some v:=hc
 simp [results,h,ha,asAddr,loadVar,hagg,hc']
theorem Ok (op:Int):ao pg 311 [.int .i64 op] (.str (dq op)):=by
 refine ao.of (fun w bl M cargs hH hM ha=>?_) rfl
 match cargs,ha with
 | [a],⟨h1,_⟩ =>
 obtain rfl:=h1.int
 refine (callsIn_wide (n:=3)).1 ?_
 refine callsIn_of_wp_marks Tryz.func311 rfl trivial ?_ rfl
 have hs1:=(qt.ofAlloc w (.cells #[.int .i64 op] 52)).one (qt.ofAlloc _ (.cells #[.string ⟨#[]⟩] 9))
 have hH1:=(bJ.T pg).stay _ _ hH fun q hq=>hs1.keep q ((bJ.T pg).low _ hH q hq) (fun h=>h)
 have cn:=ao.run U1 _ hH1 (cargs:=[]) trivial
 simp only [Tryz.ntmps311,List.size_toArray,eA,b_,Nat.reduceAdd,Nat.reduceSub,Array.replicate_succ,Array.replicate_zero,List.push_toArray,List.append_toArray,fh,jR]
 gi_wp2
 refine ⟨trivial,(callsIn_wide.2 cn).mono ?_⟩
 rintro e W1 ⟨v,rfl,hv,hst⟩
 obtain rfl:=abI hv
 have hsW:=hs1.one hst
 have hHW:=(bJ.T pg).stay _ _ hH fun q hq=>hsW.keep q ((bJ.T pg).low _ hH q hq) (fun h=>h)
 have hb0:W1.heap[w.heap.size]? = some (.cells #[.int .i64 op] 52):=by
  rw [hst.keep _ (by simp<;>omega) (fun h=>h)];exact (Below.heap_alloc _ _ _ (by simp)).trans (World.alloc_heap_new _ _)
 have hb1:W1.heap[w.heap.size+1]? = some (.cells #[.string ⟨#[]⟩] 9):=by
  rw [hst.keep _ (by simp) (fun h=>h)]
  have:=World.alloc_heap_new (w.alloc (.cells #[.int .i64 op] 52)) (.cells #[.string ⟨#[]⟩] 9)
  rwa [World.size_alloc] at this
 have hz:w.heap.size+2≤W1.heap.size:=by have:=hst.size;simpa using this
 clear cn hst hs1 hH1 hv
 gi_wp2
 refine Qo (α:=Int×List UInt8) (encs:=abH) (E:=EN) (by decide) hHW (gf:=351) (lb:=#[]) rfl (enters_of Tryz.func351 (by kernel_rfl) rfl) (acC _ W1) (qt.refl _ _) (fun _=>rfl)
  (fun od W=>qt No w W∧W.heap[w.heap.size]? = some (.cells #[.int .i64 op] 52)∧W.heap[w.heap.size+1]? = some (.cells #[.string ⟨#[]⟩] 9)∧∀p∈od,(p.1==op)=false)
  (fun c od W=>c = .ret∧qt No w W∧W.heap[w.heap.size+1]? = some (.cells #[.string ⟨(dq op).toArray⟩] 9))
  (fun s A B h hs=>⟨h.1.one hs,(hs.keep _ (bQ h.2.1) (fun h=>h)).trans h.2.1,(hs.keep _ (bQ h.2.2.1) (fun h=>h)).trans h.2.2.1,h.2.2.2⟩)
  (fun c s A B h hs=>⟨h.1,h.2.1.one hs,(hs.keep _ (bQ h.2.2) (fun h=>h)).trans h.2.2⟩)
  (fun s W l o o' h hl hc ho=>⟨r8 h.1 (by omega) hc ho,by rw [World.putObj_heap_other (by omega)];exact h.2.1,by rw [World.putObj_heap_other (by omega)];exact h.2.2.1,h.2.2.2⟩)
  (fun c s W l o o' h hl hc ho=>⟨h.1,r8 h.2.1 (by omega) hc ho,by rw [World.putObj_heap_other (by omega)];exact h.2.2⟩)
  ⟨hsW,hb0,hb1,fun p hp=>absurd hp List.not_mem_nil⟩
  (fun x=>{ tmps:=#[.int .i64 op,.pointer (some ⟨w.heap.size,0,none⟩),.pointer (some ⟨w.heap.size+1,0,none⟩),.int .i64 x.1,.string ⟨x.2.toArray⟩,.func (.func 351) #[] #[],.int .i64 x.1,.string ⟨x.2.toArray⟩,undef,undef,undef,undef],defers:=[] }) ?assign ?body ?done ?stop
 case assign =>
  intro l x W K hK
  simp only [abH]
  gi_wp2
  exact hK
 case body =>
  rintro l od x W ⟨hS,J4,hB1,hP⟩ hpre
  have d0:W.cell? ⟨w.heap.size,0,none⟩=some (.int .i64 op):=fF J4 _
  have d1:W.cell? ⟨w.heap.size+1,0,none⟩=some (.string ⟨#[]⟩):=fF hB1 _
  have f1:W.frozen? ⟨w.heap.size+1,0,none⟩=false:=by simp [World.frozen?,hB1]
  by_cases hx:x.1=op
  ·have hn:dq op=x.2:=by
    unfold dq
    rw [R5 hpre hP (by simpa using hx)]
   gi_wp2
   refine ⟨KeepsOthers.setCell _ _ _,rfl,BX hS (by simp),?_⟩
   rw [hn]
   simp [World.setCell,Dm,hB1]
  ·gi_wp2
   refine ⟨⟨bt _,fun _ _ h _=>h⟩,Jy.refl _ _,hS,J4,hB1,fun p hp=>?_⟩
   rcases fA.1 hp with hp | hp
   ·exact hP p hp
   ·rw [kB.1 hp];simpa using hx
 case done =>
  rintro D W hD ⟨hS,J4,hB1,hP⟩ hK
  have d1:W.cell? ⟨w.heap.size+1,0,none⟩=some (.string ⟨#[]⟩):=fF hB1 _
  have f1:W.frozen? ⟨w.heap.size+1,0,none⟩=false:=by simp [World.frozen?,hB1]
  have hn:dq op=[]:=by
   unfold dq
   rw [List.find?_eq_none.2 (fun p hp=>by rw [hP p hp];decide)]
  gi_wp2
  have hD2:(W.setCell ⟨w.heap.size+1,0,none⟩ (.string ⟨#[]⟩)).heap[D]? = some (.deferred (some [])):=by
   simp only [World.setCell,Dm,ah (show ¬w.heap.size+1=D by omega)];exact hK
  have hB3:(W.setCell ⟨w.heap.size+1,0,none⟩ (.string ⟨#[]⟩)).heap[w.heap.size+1]? = some (.cells #[.string ⟨#[]⟩] 9):=by
   simp [World.setCell,Dm,hB1]
  have hS2:=r8 (BX hS (a:=⟨w.heap.size+1,0,none⟩) (v:=.string ⟨#[]⟩) (by simp)) (by omega) hD2 rfl (o':=.deferred none)
  refine ⟨by simp,.inl ⟨_,_,rfl,run_takeDeferred hD2,?_⟩⟩
  have hB4:((W.setCell ⟨w.heap.size+1,0,none⟩ (.string ⟨#[]⟩)).putObj D (.deferred none)).heap[w.heap.size+1]? = some (.cells #[.string ⟨#[]⟩] 9):=by rw [World.putObj_heap_other (by omega)];exact hB3
  refine ⟨_,wM rfl _ _ _ rfl (Tryz.isAgg9 _) (fF hB4 _),_,rfl,hS2,?_⟩
  rw [hn]
  exact IRel.str _
 case stop =>
  rintro D c od W hD hp ⟨rfl,hS,hB1⟩ hK
  gi_wp2
  have hS2:=r8 hS (by omega) hK rfl (o':=.deferred none)
  refine ⟨by simp,.inl ⟨_,_,rfl,run_takeDeferred hK,?_⟩⟩
  have hB4:(W.putObj D (.deferred none)).heap[w.heap.size+1]? = some (.cells #[.string ⟨(dq op).toArray⟩] 9):=by rw [World.putObj_heap_other (by omega)];exact hB1
  exact ⟨_,wM rfl _ _ _ rfl (Tryz.isAgg9 _) (fF hB4 _),_,rfl,hS2,IRel.str _⟩
theorem Eb {W:World} {b off:Nat} {c:Array Value} {t:TypeId} {fr:Nat×Nat} {v:Value} (h:W.heap[b]? = some (.cells c t fr)):(W.setCell ⟨b,off,none⟩ v).heap[b]? = some (.cells (c.setIfInBounds off v) t fr):=by
 simp [World.setCell,Dm,h]
end
end Go.Proofs.YtdfofedlbljnhaaGreatDoor