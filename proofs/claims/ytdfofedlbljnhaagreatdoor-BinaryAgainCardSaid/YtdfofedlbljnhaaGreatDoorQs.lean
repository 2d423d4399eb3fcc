import Derived.Test.YtdfofedlbljnhaaGreatDoorQr
set_option linter.all false
set_option maxRecDepth 100000
set_option maxHeartbeats 40000000
namespace Go.Proofs.YtdfofedlbljnhaaGreatDoor
section
open Go Go.Mw
def BU (n:Int) (l:List Nat):Int:=l.foldl (fun (n:Int) (k:Nat)=>IntKind.i64.wrap (n+(k:Int))) n
def Nl (n:Int) (l:List El):Int:=l.foldl (fun n x=>BU (IntKind.i64.wrap (n+(x.o.length:Int))) (x.it.map List.length)) n
def Pv (m:Md):Int:=BU 0 (m.fs.map fun x=>x.b.length)
def J_ (m:Md):Int:=BU (Pv m) (m.gs.map fun x=>x.i.length)
def Pw (m:Md):Int:=Nl (J_ m) m.els
def Ei (m:Md):Int:=BU (Pw m) (m.ds.map fun x=>x.o.length)
attribute [local go_sem] di bC dY sA eW fR iH
end
open Go Go.Mw
def cQ {α:Type} (g:α→Nat) (l:List α):Nat:=(l.map g).sum
theorem pf {α:Type} (g:α→Nat) (x:α) (l:List α):cQ g (x :: l)=g x+cQ g l:=by simp [cQ]
theorem zQ {α:Type} {f:α→List UInt8} {g:α→Nat} {c:Nat}:∀(l:List α),(∀x∈l,(f x).length≤c+400 * g x)→(l.flatMap f).length≤c * l.length+400 * cQ g l
 | [],_=>by simp [cQ]
 | x :: l,h=>by
  have h1:=zQ (g:=g) (c:=c) l fun y hy=>h y (by simp [hy])
  have:=h x (by simp)
  rw [pk,bE,eA,pf,Nat.mul_add,Nat.mul_add]
  omega
def HS (x:El):Nat:=x.o.length+cQ List.length x.it
def mw (m:Md):Nat:=cQ (fun x:Cd=>x.b.length) m.fs+cQ (fun x:Gd=>x.i.length) m.gs+cQ HS m.els+cQ (fun x:Da=>x.o.length) m.ds
theorem kV {α:Type} {f:α→List UInt8} {l:List α} {n k:Nat} (h:(l.flatMap f).length≤k) (hl:l.length<4294967296):(aE f l).length≤k+5:=by
 have:=cG hl
 unfold aE
 rw [bE]
 omega
theorem Pa {x:Ft} (h:LT x=0):(oN x).length≤40:=by
 obtain ⟨h1,h2,_,_⟩:=R8 h
 have a:=kV (n:=0) (qL (f:=eD) (n:=1) x.ps fun _ _=>bt _) (by omega)
 have b:=kV (n:=0) (qL (f:=eD) (n:=1) x.rs fun _ _=>bt _) (by omega)
 unfold oN
 simp only [eA,bE]
 omega
theorem zO {y:Lm} (h:L7 y):(jH y).length≤11:=by
 obtain ⟨h1,h2,_⟩:=h
 have a:=cG (n:=y.mn.toNat) (by omega)
 unfold jH
 cases hh:y.hs
 ·simp;omega
 ·have:=h2 hh
  have b:=cG (n:=y.mx.toNat) (by omega)
  simp;omega
theorem GH {x:Tb} (h:Le x=0):(nw x).length≤12:=by
 have:=zO (Vp h).2
 unfold nw eD
 simp;omega
theorem GE (g:Gl):(BE g).length≤2:=by simp [BE,eD]
theorem IM {s:List UInt8} (h:xP s=0):s.length≤64:=by
 unfold xP at h
 by_cases h1:s.length>64
 ·rw [ap h1] at h;cases h
 ·omega
theorem zP {s:List UInt8} (h:xP s=0):(wG s).length≤69:=by
 have h1:=IM h
 have:=cG (n:=s.length) (by omega)
 unfold wG
 rw [bE];omega
theorem Pc {x:Im} (h:L6 x=0):(oP x).length≤200:=by
 obtain ⟨h1,h2,h3,_,h5,h6,h7,h8⟩:=SM h
 have a:=zP h1
 have b:=zP h2
 unfold oP
 simp only [bE,cM]
 rcases (show x.k=0∨x.k=1∨x.k=2∨x.k=3 by omega) with q | q | q | q
 ·have:=cG (n:=x.f.toNat) (by have:=dI.1 (h5 q);omega)
  rw [ap q];omega
 ·have:=GH (h6 q)
  rw [ah (by omega),ap q];omega
 ·have:=zO (G4 (h7 q))
  rw [ah (by omega),ah (by omega),ap q];omega
 ·have:=GE x.g
  rw [ah (by omega),ah (by omega),ah (by omega)];omega
theorem O_ {x:Ex} (h:LL x=0):(oM x).length≤80:=by
 obtain ⟨h1,h2,h3⟩:=R0 h
 have a:=zP h1
 have:=cG (n:=x.i.toNat) (by have:=dI.1 h3;omega)
 unfold oM
 simp only [bE,cM]
 omega
theorem Pb {x:Gd} (h:Jq x.i):(oO x).length≤2+400 * x.i.length:=by
 have a:=GE x.g
 have b:=oQ x.i h
 unfold oO
 rw [bE];omega
theorem O7 {x:Cd} (h1:x.lo.length≤64) (h4:Jq x.b) (h5:x.b.length≤2048):(fq x).length≤800+400 * x.b.length:=by
 have h0:=zN h1 h4 h5
 have h2:=oQ x.b h4
 have h3:=uB x.lo.length x.lo
 have h6:=qL (f:=tU) (n:=11) (iZ x.lo) (fun p hp=>by
  have hp2:=kv (k:=9) (n:=p.1) (by
   have:p.1≤(B4 (iZ x.lo)).length:=by
    unfold B4
    obtain ⟨l1,l2,e⟩:=List.append_of_mem hp
    rw [e]
    simp only [List.flatMap_append,pk,bE,List.length_replicate]
    omega
   unfold iZ at this
   rw [vk _ _ (bt _)] at this
   omega)
  unfold tU eD
  rw [bE,cM]
  omega)
 have h7:=cG (n:=(iZ x.lo).length) (by unfold iZ;omega)
 have h8:(iZ x.lo).length≤64:=by unfold iZ;omega
 have h9:=cG (n:=(iF x).length) (by omega)
 unfold fq
 rw [bE]
 unfold iF GG aE at h9 ⊢
 simp only [bE] at h9 ⊢
 omega
theorem Pd {n:Nat} {l:List aZ} (h1:n<4→zW l=true) (h3:Jq l):(tT n l).length≤5+400 * l.length:=by
 unfold tT
 by_cases q:n<4
 ·rw [ap q]
  obtain ⟨_,e2,e3⟩:=Ig (h1 q) h3
  have:=cG (n:=(ac l 0).a.toNat) (by omega)
  omega
 ·rw [ah q]
  have:=oQ l h3
  omega
theorem O9 {x:El} (h:Mk Dy x) (hn:G9 x.o) (hn2:∀l∈x.it,G9 l):(oL x).length≤1400+400 * HS x:=by
 obtain ⟨hB,ho,hi⟩:=h
 obtain ⟨b1,b2,b3,b4,b5⟩:=DT hB
 obtain ⟨f1,f2,f3,f4,f5,f6⟩:=LU b1
 have hrf:cL x<4→∀l∈x.it,zW l=true:=fun q=>by
  have:=f5.1 q
  unfold iG at this
  rw [Bool.or_eq_false_iff,List.any_eq_false] at this
  intro l hl
  have:=this.2 l hl
  simpa using this
 have a1:=cG (n:=cL x) (by omega)
 have a2:=cG (n:=x.tb.toNat) (by have:=dI.1 b3;omega)
 have a3:=oQ x.o (qR ho hn).1
 have a4:=kV (n:=0) (zQ (f:=tT (cL x)) (g:=List.length) (c:=5) x.it fun l hl=>Pd (fun q=>hrf q l hl) (qR (hi l hl) (hn2 l hl)).1) (by omega)
 have a5:(if cL x % 4=2 then aq x.tb.toNat else []).length≤5:=by
  split
  ·exact a2
  ·exact cX _
 have a6:(if cL x % 2=0 then fu x.o else []).length≤400 * x.o.length:=by
  split
  ·exact a3
  ·exact cX _
 have a7:(if cL x % 4=0 then [] else if cL x<4 then [0] else eD x.ty).length≤1:=by split<;>(try split)<;>simp [eD]
 unfold oL HS
 simp only [bE]
 omega
theorem O8 {x:Da} (h:KH Dy x) (hn:G9 x.o):(oK x).length≤4200+400 * x.o.length:=by
 obtain ⟨h4,h5,h6,h7⟩:=RJ h
 have a3:=oQ x.o (qR h7 hn).1
 have a1:=cG (n:=x.b.length) (by omega)
 have a2:=cG (n:=x.me.toNat) (by have:=dI.1 h5;omega)
 have b0:=cG (n:=0) (by decide)
 have b1:=cG (n:=1) (by decide)
 have b2:=cG (n:=2) (by decide)
 unfold oK
 split
 ·simp only [bE];omega
 ·split
  ·simp only [bE];omega
  ·simp only [bE];omega
theorem JQ {m:Md} (h:vt m) (ht:mw m≤6000) (p:Int) (h8:p=8→m.hs=true):(jn m p).length≤10000000:=by
 unfold mw at ht
 have hfs:=h.lim.fs.1
 have htb:=h.lim.tbs.1
 have hms:=h.lim.ms.1
 have hgs:=h.lim.gs.1
 have hts:=h.lim.ts.1
 have him:=h.lim.ims.1
 have hex:=h.lim.exs.1
 have hel:=h.lim.els.1
 have hds:=h.lim.ds.1
 unfold jn
 by_cases q:p=1
 ·rw [ap q]
  have:=kV (n:=0) (qL (f:=oN) (n:=40) m.ts fun x hx=>Pa (h.lim.ts.2 x hx)) (by omega)
  omega
 rw [ah q]
 by_cases q:p=2
 ·rw [ap q]
  have:=kV (n:=0) (qL (f:=oP) (n:=200) m.ims fun x hx=>Pc (h.lim.ims.2 x hx)) (by omega)
  omega
 rw [ah q]
 by_cases q:p=3
 ·rw [ap q]
  have:=kV (n:=0) (qL (f:=fun x:Cd=>aq x.t.toNat) (n:=5) m.fs fun x hx=>cG (by have:=dI.1 (EV h x hx).2.2.2.2.2;omega)) (by omega)
  omega
 rw [ah q]
 by_cases q:p=4
 ·rw [ap q]
  have:=kV (n:=0) (qL (f:=nw) (n:=12) m.tbs fun x hx=>GH (h.lim.tbs.2 x hx)) (by omega)
  omega
 rw [ah q]
 by_cases q:p=5
 ·rw [ap q]
  have:=kV (n:=0) (qL (f:=jH) (n:=11) m.ms fun x hx=>zO (G4 (h.lim.ms.2 x hx))) (by omega)
  omega
 rw [ah q]
 by_cases q:p=6
 ·rw [ap q]
  have:=kV (n:=0) (zQ (f:=oO) (g:=fun x:Gd=>x.i.length) (c:=2) m.gs fun x hx=>Pb (qR (h.lim.gs.2 x hx).2 (h.num.2.1 x hx)).1) (by omega)
  omega
 rw [ah q]
 by_cases q:p=7
 ·rw [ap q]
  have:=kV (n:=0) (qL (f:=oM) (n:=80) m.exs fun x hx=>O_ (h.lim.exs.2 x hx)) (by omega)
  omega
 rw [ah q]
 by_cases q:p=8
 ·rw [ap q]
  have:=cG (n:=m.st.toNat) (by have:=dI.1 (h.lim.st (h8 q));omega)
  omega
 rw [ah q]
 by_cases q:p=9
 ·rw [ap q]
  have:=kV (n:=0) (zQ (f:=oL) (g:=HS) (c:=1400) m.els fun x hx=>O9 (h.lim.els.2 x hx) (h.num.2.2.1 x hx).1 (h.num.2.2.1 x hx).2) (by omega)
  omega
 rw [ah q]
 by_cases q:p=10
 ·rw [ap q]
  have:=cG (n:=m.ds.length) (by omega)
  omega
 rw [ah q]
 by_cases q:p=11
 ·rw [ap q]
  have:=kV (n:=0) (zQ (f:=fq) (g:=fun x:Cd=>x.b.length) (c:=800) m.fs fun x hx=>O7 (EV h x hx).1 (EV h x hx).2.2.2.1 (EV h x hx).2.2.2.2.1) (by omega)
  omega
 rw [ah q]
 by_cases q:p=12
 ·rw [ap q]
  have:=kV (n:=0) (zQ (f:=oK) (g:=fun x:Da=>x.o.length) (c:=4200) m.ds fun x hx=>O8 (h.lim.ds.2 x hx) (h.num.2.2.2 x hx)) (by omega)
  omega
 rw [ah q]
 exact cX _
section
def gg (l:List Int):List AV:=[.sl 1 (l.map mA)]
theorem aij (l:List Int):gg l=[.sl 1 (l.map mA)]:=rfl
attribute [local go_sem] di aij wo wa dE d_ aW
theorem Ii (l:List Int) (h1:l.length≤8) (h2:∀t∈l,m5 t=true):ao pg EB [.sl 1 (l.map mA)] (.int .i64 0):=by
 refine aL tp ?_
 simp only [go_sem,tp,aQ (show ¬(l.length:Int)>8 by omega)]
 refine aw (fun i:Nat=>⟨[(10,.int .i64 i),(9,.int .i64 l.length),(8,.sl 1 (l.map mA))],[]⟩) (fun i=>i≤l.length) (fun i=>l.length - i) 0 (cX _) (Wk.of ?_ ?_) ?_
 ·simp only [go_sem];try simp
 ·simp only [go_sem]
 intro i hi2
 by_cases h3:(i:Int)<(l.length:Int)
 rotate_left
 ·simp only [go_sem,aQ h3]
  exact aj
 have hi':i<l.length:=by omega
 have e8:=dz hi' (by omega)
 have c:=NW (ac l i)
 rw [eT h2 hi'] at c
 simp only [go_sem,aO h3]
 refine ⟨by omega,h3,?_⟩
 refine aa (c) ?_
 refine aG (i+1) (show i+1≤l.length by omega) (show l.length - (i+1)<l.length - i by omega) (Wk.of ?_ ?_)
 ·simp only [go_sem,e8];try simp
 ·simp only [go_sem]
theorem ahD {x:Ft} (h:LT x=0):WX ka [.agg (rK x)] (oN x):=by
 intro w hw
 obtain ⟨h1,h2,h3,h4⟩:=R8 h
 refine bF pE ?_
 have c1:=Ii x.ps h1 h3
 have c2:=Ii x.rs h2 h4
 obtain ⟨L,hL⟩:∃L,[x.ps,x.rs]=L:=⟨_,rfl⟩
 have g1:∀l∈L,l.length≤8∧∀t∈l,m5 t=true:=fun l hl=>by
  subst hL
  simp only [dc,List.not_mem_nil,or_false] at hl
  rcases hl with rfl | rfl
  ·exact ⟨h1,h3⟩
  ·exact ⟨h2,h4⟩
 have gl:L.length=2:=by rw [← hL];rfl
 have ge:(96 :: (aE eD x.ps++aE eD x.rs):List UInt8)=[96]++L.flatMap (aE eD):=by rw [← hL];simp
 have gs:(L.flatMap (aE eD)).length≤200:=by
  refine gz (qL (n:=100) L fun l hl=>?_) (by omega)
  have:=(g1 l hl).1
  have h5:=cG (n:=l.length) (by omega)
  have h6:=qL (f:=eD) (n:=1) l fun _ _=>bt _
  unfold aE
  rw [bE]
  omega
 rw [show oN x=[96]++L.flatMap (aE eD) from ge] at hw ⊢
 simp only [bE,eA,b_] at hw
 simp only [go_sem,pE,dw]
 refine aw (fun i:Nat=>⟨[(19,.int .i64 i),(18,.int .i64 L.length),(17,.sl 1 (L.map gg)),(4,.sl 1 (L.map gg)),(0,.mp 1000 3 0 0)],[(1000,wo 2000 true w 0),(2000,wa w)]⟩) (fun i=>i≤L.length) (fun i=>L.length - i) 0 (cX _) ((Wk.frzs [16] _).trans (Wk.of ?_ ?_)) ?_
 ·subst hL;simp only [go_sem];try simp
 ·simp only [go_sem]
 intro i hi2
 by_cases q1:(i:Int)<(L.length:Int)
 ·have hi':i<L.length:=by omega
  have e8:=dz hi' (by omega)
  have c:=Ii (ac L i) (eT g1 hi').1 (eT g1 hi').2
  simp only [go_sem,aO q1]
  refine ⟨by omega,q1,?_⟩
  refine aa (c) ?_
  refine aG (i+1) (show i+1≤L.length by omega) (show L.length - (i+1)<L.length - i by omega) (Wk.of ?_ ?_)
  ·simp only [go_sem,e8];try simp
  ·simp only [go_sem]
 simp only [go_sem,aQ q1]
 refine aC (VT 96) rfl ?_
 simp only [go_sem]
 obtain ⟨V,hV⟩:∃V:Nat→List UInt8,∀i,V i=w++([96]++(L.take i).flatMap (aE eD)):=⟨_,fun _=>rfl⟩
 have hV0:w++[96]=V 0:=by rw [hV];simp
 refine aw (fun i:Nat=>⟨[(35,.int .i64 i),(34,.int .i64 L.length),(33,.sl 1 (L.map gg)),(0,.mp 1000 3 0 0)],[(1000,wo 2000 true (V i) 0),(2000,wa (V i))]⟩) (fun i=>i≤L.length) (fun i=>L.length - i) 0 (cX _) (Wk.of ?_ ?_) ?_
 ·simp only [go_sem];try simp
 ·simp only [go_sem,hV0];try simp [go_sem]
 intro i hi2
 by_cases q2:(i:Int)<(L.length:Int)
 rotate_left
 ·obtain rfl:i=L.length:=by omega
  simp only [go_sem,aQ q2]
  exact cR (fun _ h=>by cases h) rfl (by rfl) (by rfl) (by rw [hV,kC];rfl)
 have hi':i<L.length:=by omega
 have e8:=dz hi' (by omega)
 have ht:=yb (f:=aE eD) hi'
 obtain ⟨b1,b2⟩:=eT g1 hi'
 have he:V (i+1)=V i++(aq (ac L i).length++(ac L i).flatMap eD):=by rw [hV,hV,vl hi'];simp [aE]
 have hvl:=congrArg List.length (hV i)
 simp only [bE,eA,b_] at hvl
 generalize hv:V i=v at *
 generalize hl:ac L i=l at *
 have hcl:(aE eD l).length=(aq l.length).length+(l.flatMap eD).length:=by unfold aE;rw [bE]
 simp only [go_sem,aO q2,hl]
 refine ⟨by omega,q2,?_⟩
 refine aC (VD l.length (by omega)) rfl ?_
 simp only [go_sem]
 refine aw (fun j:Nat=>⟨[(45,.int .i64 j),(44,.int .i64 l.length),(43,.sl 1 (l.map mA)),(35,.int .i64 i),(34,.int .i64 L.length),(33,.sl 1 (L.map gg)),(0,.mp 1000 3 0 0)],[(1000,wo 2000 true (v++(aq l.length++(l.take j).flatMap eD)) 0),(2000,wa (v++(aq l.length++(l.take j).flatMap eD)))]⟩) (fun j=>j≤l.length) (fun j=>l.length - j) 0 (cX _) (Wk.of ?_ ?_) ?_
 ·simp only [go_sem];try simp
 ·simp only [go_sem,oa,List.flatMap_nil,mz];try simp [go_sem]
 intro j hj2
 by_cases q3:(j:Int)<(l.length:Int)
 rotate_left
 ·obtain rfl:j=l.length:=by omega
  simp only [go_sem,aQ q3]
  refine aG (i+1) (show i+1≤L.length by omega) (show L.length - (i+1)<L.length - i by omega) (Wk.of ?_ ?_)
  ·simp only [go_sem,e8];try simp
  ·simp only [go_sem,he,kC];try simp [go_sem,wo,wa]
 have hj':j<l.length:=by omega
 have e9:=dz hj' (by omega)
 have ht2:=yb (f:=eD) hj'
 simp only [go_sem,aO q3]
 refine ⟨by omega,q3,?_⟩
 refine aC (Hs (eT b2 hj')) rfl ?_
 simp only [go_sem]
 refine aG (j+1) (show j+1≤l.length by omega) (show l.length - (j+1)<l.length - j by omega) (Wk.of ?_ ?_)
 ·simp only [go_sem,e9];try simp
 ·simp only [go_sem,vl hj'];try simp [go_sem,wo,wa]
end
section
theorem ada {x:aZ} (h:PL x=true) (hb:x.lb.length≤64) (l:List UInt8):Ah x l 0=(l++xh x,0):=by
 unfold Ah
 rw [ap h,ah (by omega)]
 rfl
theorem ahH {x:aZ} (h:PL x=true) (hb:x.lb.length≤64) (hn:0≤x.n):WX wK [dJ x] (xh x):=fun l hl=>by
 have c:=ag0 (l:=l) (e:=0) (by have:=DW x;omega) x hn (by omega)
 rw [ada h hb] at c
 exact c
attribute [local go_sem] di wo wa dE d_ aW
theorem Ln {L:List aZ} (ho:Jq L) (hl:L.length≤9223372036854775807):WX z8 [.sl 9 (L.map aW)] (fu L):=by
 intro w hw
 unfold fu at hw ⊢
 refine bF qx ?_
 simp only [go_sem,qx]
 refine aw (fun i:Nat=>⟨[(8,.int .i64 i),(7,.int .i64 L.length),(6,.sl 9 (L.map aW)),(0,.mp 1000 3 0 0)],[(1000,wo 2000 true (w++(L.take i).flatMap xh) 0),(2000,wa (w++(L.take i).flatMap xh))]⟩) (fun i=>i≤L.length) (fun i=>L.length - i) 0 (cX _) (Wk.of ?_ ?_) ?_
 ·simp only [go_sem];try simp
 ·simp only [go_sem,oa,List.flatMap_nil,mz];try simp [go_sem]
 intro i hi2
 by_cases h1:(i:Int)<(L.length:Int)
 rotate_left
 ·obtain rfl:i=L.length:=by omega
  simp only [go_sem,aQ h1]
  rw [kC]
  exact cR (fun _ h=>by cases h) rfl (by rfl) (by rfl) (by simp [])
 have hi':i<L.length:=by omega
 have e8:=dz hi' (by omega)
 have ht:=yb (f:=xh) hi'
 obtain ⟨b1,b2,b3,b4⟩:=eT ho hi'
 have c:=ahH b1 b2 b3
 simp only [dE] at c
 simp only [go_sem,aO h1]
 refine ⟨by omega,h1,?_⟩
 refine aC (c) rfl ?_
 simp only [go_sem]
 refine aG (i+1) (show i+1≤L.length by omega) (show L.length - (i+1)<L.length - i by omega) (Wk.of ?_ ?_)
 ·simp only [go_sem,e8];try simp
 ·simp only [go_sem,vl hi'];try simp [go_sem,wo,wa]
theorem aaL {k:Int} (h:0≤k∧k≤3):IntKind.u8.wrap k=(((UInt8.ofNat k.toNat).toNat:Nat):Int):=by
 rw [Fv,UInt8.toNat_ofNat']
 omega
theorem ahE {x:Im} (h:L6 x=0):WX gW [.agg (tg x)] (oP x):=by
 intro l hl
 obtain ⟨h1,h2,h3,_,h5,h6,h7,h8⟩:=SM h
 refine bF dl ?_
 have cb:=VT (UInt8.ofNat x.k.toNat)
 rw [← aaL h3] at cb
 unfold oP at hl ⊢
 rcases (show x.k=0∨x.k=1∨x.k=2∨x.k=3 by omega) with q | q | q | q
 ·rw [q] at hl cb ⊢
  simp only [bE,eA,b_,aF] at hl ⊢
  simp only [go_sem,dl,dd,q]
  refine aC (sa h1) rfl ?_
  simp only [go_sem]
  refine aC (sa h2) rfl ?_
  simp only [go_sem]
  refine aC (cb) rfl ?_
  simp only [go_sem]
  refine aC (VU (dI.1 (h5 q))) rfl ?_
  simp only [go_sem]
  exact cR (fun _ h=>by cases h) rfl (by rfl) (by rfl) (by simp [])
 ·rw [q] at hl cb ⊢
  simp only [bE,eA,b_,Int.reduceEq,aF,bc] at hl ⊢
  have c:=aaP (h6 q)
  rw [dt] at c
  simp only [go_sem,dl,dd,q]
  refine aC (sa h1) rfl ?_
  simp only [go_sem]
  refine aC (sa h2) rfl ?_
  simp only [go_sem]
  refine aC (cb) rfl ?_
  simp only [go_sem]
  refine aC (c) rfl ?_
  simp only [go_sem]
  exact cR (fun _ h=>by cases h) rfl (by rfl) (by rfl) (by simp [])
 ·rw [q] at hl cb ⊢
  simp only [bE,eA,b_,Int.reduceEq,aF,bc] at hl ⊢
  have c:=VE (G4 (h7 q))
  rw [db] at c
  simp only [go_sem,dl,dd,q]
  refine aC (sa h1) rfl ?_
  simp only [go_sem]
  refine aC (sa h2) rfl ?_
  simp only [go_sem]
  refine aC (cb) rfl ?_
  simp only [go_sem]
  refine aC (c) rfl ?_
  simp only [go_sem]
  exact cR (fun _ h=>by cases h) rfl (by rfl) (by rfl) (by simp [])
 ·rw [q] at hl cb ⊢
  simp only [bE,eA,b_,Int.reduceEq,aF,bc] at hl ⊢
  have c:=aaO (Z5 (h8 q))
  simp only [NB] at c
  simp only [go_sem,dl,dd,q]
  refine aC (sa h1) rfl ?_
  simp only [go_sem]
  refine aC (sa h2) rfl ?_
  simp only [go_sem]
  refine aC (cb) rfl ?_
  simp only [go_sem]
  refine aC (c) rfl ?_
  simp only [go_sem]
  exact cR (fun _ h=>by cases h) rfl (by rfl) (by rfl) (by simp [])
theorem ahK {x:Cd} (h:rP x.t=true):WX eZ [.agg (qf x)] (aq x.t.toNat):=by
 intro l hl
 refine bF jz ?_
 simp only [go_sem,jz,dY]
 refine aC (VU (dI.1 h)) rfl ?_
 simp only [go_sem]
 exact cR (fun _ h=>by cases h) rfl (by rfl) (by rfl) (by simp [])
theorem aet {x:Gd} (h1:m5 x.g.v=true) (h2:Jq x.i) (h3:x.i.length≤2048):WX e_ [.agg (yd x)] (oO x):=by
 intro l hl
 refine bF jA ?_
 have c:=aaO h1
 simp only [NB] at c
 unfold oO at hl ⊢
 rw [bE] at hl
 simp only [go_sem,jA,sA]
 refine aC (c) rfl ?_
 simp only [go_sem]
 refine aC (Ln h2 (by omega)) rfl ?_
 simp only [go_sem]
 exact cR (fun _ h=>by cases h) rfl (by rfl) (by rfl) (by simp [])
theorem ahC {x:Ex} (h:LL x=0):WX fa [.agg (xN x)] (oM x):=by
 intro l hl
 obtain ⟨h1,h2,h3⟩:=R0 h
 refine bF jB ?_
 have cb:=VT (UInt8.ofNat x.k.toNat)
 rw [← aaL h2] at cb
 unfold oM at hl ⊢
 simp only [bE,eA,b_] at hl
 simp only [go_sem,jB,fS]
 refine aC (sa h1) rfl ?_
 simp only [go_sem]
 refine aC (cb) rfl ?_
 simp only [go_sem]
 refine aC (VU (dI.1 h3)) rfl ?_
 simp only [go_sem]
 exact cR (fun _ h=>by cases h) rfl (by rfl) (by rfl) (by simp [])
theorem aer {x:Da} (h:KH Dy x) (hn:G9 x.o):WX ju [.agg (lO x)] (oK x):=by
 intro l hl
 obtain ⟨h4,h5,h6,h7⟩:=RJ h
 obtain ⟨j1,j2⟩:=qR h7 hn
 have hr:=dI.1 h5
 refine bF fC ?_
 have cu:=VD x.b.length (by omega)
 have cb:=ajY x.b
 have ca:=Ln j1 (by omega)
 have x0:WX bB [.int .i64 0] (aq 0):=VD 0 (by decide)
 have x1:WX bB [.int .i64 1] (aq 1):=VD 1 (by decide)
 have x2:WX bB [.int .i64 2] (aq 2):=VD 2 (by decide)
 unfold oK at hl ⊢
 rcases h4 with q | ⟨q,q2,q3⟩
 ·by_cases q2:x.me=0
  ·rw [ah (by omega),ap q2] at hl ⊢
   simp only [bE] at hl
   simp only [go_sem,fC,fR,q,q2]
   refine aC (x0) rfl ?_
   simp only [go_sem]
   refine aC (ca) rfl ?_
   simp only [go_sem]
   refine aC (cu) rfl ?_
   simp only [go_sem]
   refine aC (cb) rfl ?_
   simp only [go_sem]
   exact cR (fun _ h=>by cases h) rfl (by rfl) (by rfl) (by simp [])
  ·rw [ah (by omega),ah q2] at hl ⊢
   simp only [bE] at hl
   simp only [go_sem,fC,fR,q,ay q2]
   refine aC (x2) rfl ?_
   simp only [go_sem]
   refine aC (VU hr) rfl ?_
   simp only [go_sem]
   refine aC (ca) rfl ?_
   simp only [go_sem]
   refine aC (cu) rfl ?_
   simp only [go_sem]
   refine aC (cb) rfl ?_
   simp only [go_sem]
   exact cR (fun _ h=>by cases h) rfl (by rfl) (by rfl) (by simp [])
 ·rw [ap q] at hl ⊢
  simp only [bE] at hl
  simp only [go_sem,fC,fR,q]
  refine aC (x1) rfl ?_
  simp only [go_sem]
  refine aC (cu) rfl ?_
  simp only [go_sem]
  refine aC (cb) rfl ?_
  simp only [go_sem]
  exact cR (fun _ h=>by cases h) rfl (by rfl) (by rfl) (by simp [])
end
section
attribute [local go_sem] di wo wa dE d_ aW iH
theorem yl (l:List aZ):ao pg Ez [.sl 9 (l.map aW)] (.bool (zW l)):=by
 refine aL jU ?_
 unfold zW
 by_cases q1:l.length=2
 rotate_left
 ·rw [gy.2 q1]
  simp only [go_sem,jU,ay (show (l.length:Int)≠2 by omega),rh]
  exact aj
 rw [q1]
 by_cases q2:(ac l 0).op=210
 rotate_left
 ·rw [ay q2]
  simp only [go_sem,jU,dV (show (l.length:Int)=2 by omega),ay q2,rh,Bool.and_false]
  refine ⟨by omega,by omega,?_⟩
  exact aj
 rw [dV q2]
 simp only [go_sem,jU,dV (show (l.length:Int)=2 by omega),dV q2]
 refine ⟨by omega,by omega,by omega,by omega,?_⟩
 cases (ac l 1).op==11
 ·exact aj
 ·exact aj
theorem or4 {n:Int} (h:0≤n∧n≤3):qE .i64 n 4=n+4:=by
 rcases (show n=0∨n=1∨n=2∨n=3 by omega) with rfl | rfl | rfl | rfl<;>rfl
def sz (x:El) (i:Nat):Bool:=(x.ty != 3)||(x.it.take i).any (fun l=>!zW l)
theorem JU {x:El} {i:Nat} (h:i<x.it.length):sz x (i+1)=(sz x i || !zW (ac x.it i)):=by
 unfold sz
 rw [xJ h,List.any_append,Bool.or_assoc]
 simp
theorem X2 {x:El} (hm:0≤x.mo∧x.mo≤2) (hl:x.it.length≤256):ao pg xu [.agg (gP x)] (.int .i64 (cL x:Nat)):=by
 refine aL dj ?_
 by_cases m1:x.mo=1
 ·obtain ⟨bs,hbs,hf⟩:∃bs:Nat,bs=1∧cL x=(if iG x=true then 4 else 0)+bs:=⟨1,rfl,by unfold cL;rw [ap m1]⟩
  have hb:0≤(bs:Int)∧(bs:Int)≤3:=by omega
  simp only [go_sem,dj,eW,dV m1]
  refine aw (fun i:Nat=>⟨[(30,.int .i64 i),(29,.int .i64 x.it.length),(28,.sl 1 (x.it.map oU)),(4,.bool (sz x i)),(3,.int .i64 bs)],[]⟩) (fun i=>i≤x.it.length) (fun i=>x.it.length - i) 0 (cX _) (Wk.of ?_ ?_) ?_
  ·subst hbs;simp only [go_sem];first | done | (simp [sz];done) | (simp [sz];assumption)
  ·simp only [go_sem]
  intro i hi2
  by_cases q1:(i:Int)<(x.it.length:Int)
  rotate_left
  ·obtain rfl:i=x.it.length:=by omega
   have he:sz x x.it.length=iG x:=by unfold sz iG;rw [kC]
   rw [hf,← he]
   cases sz x x.it.length
   ·simp only [go_sem,aQ q1]
    exact aJ [] (by simp only [go_sem];try simp) rfl
   ·simp only [go_sem,aQ q1,or4 hb]
    exact aJ [] (by simp only [go_sem];try simp [Int.add_comm]) rfl
  have hi':i<x.it.length:=by omega
  have e8:=dz hi' (by omega)
  have hn:=JU hi'
  have c:=yl (ac x.it i)
  cases hx:sz x i
  ·rw [hx,eE] at hn
   simp only [go_sem,aO q1,hx]
   refine ⟨by omega,q1,?_⟩
   refine aa (c) ?_
   refine aG (i+1) (show i+1≤x.it.length by omega) (show x.it.length - (i+1)<x.it.length - i by omega) (Wk.of ?_ ?_)
   ·simp only [go_sem,e8,hn];try simp
   ·simp only [go_sem]
  ·rw [hx,eC] at hn
   simp only [go_sem,aO q1,hx]
   refine ⟨by omega,q1,?_⟩
   refine aG (i+1) (show i+1≤x.it.length by omega) (show x.it.length - (i+1)<x.it.length - i by omega) (Wk.of ?_ ?_)
   ·simp only [go_sem,e8,hn];try simp
   ·simp only [go_sem]
 by_cases m2:x.mo=2
 ·obtain ⟨bs,hbs,hf⟩:∃bs:Nat,bs=3∧cL x=(if iG x=true then 4 else 0)+bs:=⟨3,rfl,by unfold cL;rw [ah m1,ap m2]⟩
  have hb:0≤(bs:Int)∧(bs:Int)≤3:=by omega
  simp only [go_sem,dj,eW,ay m1,dV m2]
  refine aw (fun i:Nat=>⟨[(30,.int .i64 i),(29,.int .i64 x.it.length),(28,.sl 1 (x.it.map oU)),(4,.bool (sz x i)),(3,.int .i64 bs)],[]⟩) (fun i=>i≤x.it.length) (fun i=>x.it.length - i) 0 (cX _) (Wk.of ?_ ?_) ?_
  ·subst hbs;simp only [go_sem];first | done | (simp [sz];done) | (simp [sz];assumption)
  ·simp only [go_sem]
  intro i hi2
  by_cases q1:(i:Int)<(x.it.length:Int)
  rotate_left
  ·obtain rfl:i=x.it.length:=by omega
   have he:sz x x.it.length=iG x:=by unfold sz iG;rw [kC]
   rw [hf,← he]
   cases sz x x.it.length
   ·simp only [go_sem,aQ q1]
    exact aJ [] (by simp only [go_sem];try simp) rfl
   ·simp only [go_sem,aQ q1,or4 hb]
    exact aJ [] (by simp only [go_sem];try simp [Int.add_comm]) rfl
  have hi':i<x.it.length:=by omega
  have e8:=dz hi' (by omega)
  have hn:=JU hi'
  have c:=yl (ac x.it i)
  cases hx:sz x i
  ·rw [hx,eE] at hn
   simp only [go_sem,aO q1,hx]
   refine ⟨by omega,q1,?_⟩
   refine aa (c) ?_
   refine aG (i+1) (show i+1≤x.it.length by omega) (show x.it.length - (i+1)<x.it.length - i by omega) (Wk.of ?_ ?_)
   ·simp only [go_sem,e8,hn];try simp
   ·simp only [go_sem]
  ·rw [hx,eC] at hn
   simp only [go_sem,aO q1,hx]
   refine ⟨by omega,q1,?_⟩
   refine aG (i+1) (show i+1≤x.it.length by omega) (show x.it.length - (i+1)<x.it.length - i by omega) (Wk.of ?_ ?_)
   ·simp only [go_sem,e8,hn];try simp
   ·simp only [go_sem]
 by_cases m3:x.tb=0
 rotate_left
 ·obtain ⟨bs,hbs,hf⟩:∃bs:Nat,bs=2∧cL x=(if iG x=true then 4 else 0)+bs:=⟨2,rfl,by unfold cL;rw [ah m1,ah m2,ap (show x.tb≠0∨x.ty≠3 from .inl m3)]⟩
  have hb:0≤(bs:Int)∧(bs:Int)≤3:=by omega
  simp only [go_sem,dj,eW,ay m1,ay m2,bv m3]
  refine aw (fun i:Nat=>⟨[(30,.int .i64 i),(29,.int .i64 x.it.length),(28,.sl 1 (x.it.map oU)),(4,.bool (sz x i)),(3,.int .i64 bs)],[]⟩) (fun i=>i≤x.it.length) (fun i=>x.it.length - i) 0 (cX _) (Wk.of ?_ ?_) ?_
  ·subst hbs;simp only [go_sem];first | done | (simp [sz];done) | (simp [sz];assumption)
  ·simp only [go_sem]
  intro i hi2
  by_cases q1:(i:Int)<(x.it.length:Int)
  rotate_left
  ·obtain rfl:i=x.it.length:=by omega
   have he:sz x x.it.length=iG x:=by unfold sz iG;rw [kC]
   rw [hf,← he]
   cases sz x x.it.length
   ·simp only [go_sem,aQ q1]
    exact aJ [] (by simp only [go_sem];try simp) rfl
   ·simp only [go_sem,aQ q1,or4 hb]
    exact aJ [] (by simp only [go_sem];try simp [Int.add_comm]) rfl
  have hi':i<x.it.length:=by omega
  have e8:=dz hi' (by omega)
  have hn:=JU hi'
  have c:=yl (ac x.it i)
  cases hx:sz x i
  ·rw [hx,eE] at hn
   simp only [go_sem,aO q1,hx]
   refine ⟨by omega,q1,?_⟩
   refine aa (c) ?_
   refine aG (i+1) (show i+1≤x.it.length by omega) (show x.it.length - (i+1)<x.it.length - i by omega) (Wk.of ?_ ?_)
   ·simp only [go_sem,e8,hn];try simp
   ·simp only [go_sem]
  ·rw [hx,eC] at hn
   simp only [go_sem,aO q1,hx]
   refine ⟨by omega,q1,?_⟩
   refine aG (i+1) (show i+1≤x.it.length by omega) (show x.it.length - (i+1)<x.it.length - i by omega) (Wk.of ?_ ?_)
   ·simp only [go_sem,e8,hn];try simp
   ·simp only [go_sem]
 by_cases m4:x.ty=3
 rotate_left
 ·obtain ⟨bs,hbs,hf⟩:∃bs:Nat,bs=2∧cL x=(if iG x=true then 4 else 0)+bs:=⟨2,rfl,by unfold cL;rw [ah m1,ah m2,ap (show x.tb≠0∨x.ty≠3 from .inr m4)]⟩
  have hb:0≤(bs:Int)∧(bs:Int)≤3:=by omega
  simp only [go_sem,dj,eW,ay m1,ay m2,aD m3,bv m4]
  refine aw (fun i:Nat=>⟨[(30,.int .i64 i),(29,.int .i64 x.it.length),(28,.sl 1 (x.it.map oU)),(4,.bool (sz x i)),(3,.int .i64 bs)],[]⟩) (fun i=>i≤x.it.length) (fun i=>x.it.length - i) 0 (cX _) (Wk.of ?_ ?_) ?_
  ·subst hbs;simp only [go_sem];first | done | (simp [sz];done) | (simp [sz];assumption)
  ·simp only [go_sem]
  intro i hi2
  by_cases q1:(i:Int)<(x.it.length:Int)
  rotate_left
  ·obtain rfl:i=x.it.length:=by omega
   have he:sz x x.it.length=iG x:=by unfold sz iG;rw [kC]
   rw [hf,← he]
   cases sz x x.it.length
   ·simp only [go_sem,aQ q1]
    exact aJ [] (by simp only [go_sem];try simp) rfl
   ·simp only [go_sem,aQ q1,or4 hb]
    exact aJ [] (by simp only [go_sem];try simp [Int.add_comm]) rfl
  have hi':i<x.it.length:=by omega
  have e8:=dz hi' (by omega)
  have hn:=JU hi'
  have c:=yl (ac x.it i)
  cases hx:sz x i
  ·rw [hx,eE] at hn
   simp only [go_sem,aO q1,hx]
   refine ⟨by omega,q1,?_⟩
   refine aa (c) ?_
   refine aG (i+1) (show i+1≤x.it.length by omega) (show x.it.length - (i+1)<x.it.length - i by omega) (Wk.of ?_ ?_)
   ·simp only [go_sem,e8,hn];try simp
   ·simp only [go_sem]
  ·rw [hx,eC] at hn
   simp only [go_sem,aO q1,hx]
   refine ⟨by omega,q1,?_⟩
   refine aG (i+1) (show i+1≤x.it.length by omega) (show x.it.length - (i+1)<x.it.length - i by omega) (Wk.of ?_ ?_)
   ·simp only [go_sem,e8,hn];try simp
   ·simp only [go_sem]
 ·obtain ⟨bs,hbs,hf⟩:∃bs:Nat,bs=0∧cL x=(if iG x=true then 4 else 0)+bs:=⟨0,rfl,by unfold cL;rw [ah m1,ah m2,ah (show ¬(x.tb≠0∨x.ty≠3) by simp [m3,m4])]⟩
  have hb:0≤(bs:Int)∧(bs:Int)≤3:=by omega
  simp only [go_sem,dj,eW,ay m1,ay m2,aD m3,aD m4]
  refine aw (fun i:Nat=>⟨[(30,.int .i64 i),(29,.int .i64 x.it.length),(28,.sl 1 (x.it.map oU)),(4,.bool (sz x i)),(3,.int .i64 bs)],[]⟩) (fun i=>i≤x.it.length) (fun i=>x.it.length - i) 0 (cX _) (Wk.of ?_ ?_) ?_
  ·subst hbs;simp only [go_sem];first | done | (simp [sz];done) | (simp [sz];assumption)
  ·simp only [go_sem]
  intro i hi2
  by_cases q1:(i:Int)<(x.it.length:Int)
  rotate_left
  ·obtain rfl:i=x.it.length:=by omega
   have he:sz x x.it.length=iG x:=by unfold sz iG;rw [kC]
   rw [hf,← he]
   cases sz x x.it.length
   ·simp only [go_sem,aQ q1]
    exact aJ [] (by simp only [go_sem];try simp) rfl
   ·simp only [go_sem,aQ q1,or4 hb]
    exact aJ [] (by simp only [go_sem];try simp [Int.add_comm]) rfl
  have hi':i<x.it.length:=by omega
  have e8:=dz hi' (by omega)
  have hn:=JU hi'
  have c:=yl (ac x.it i)
  cases hx:sz x i
  ·rw [hx,eE] at hn
   simp only [go_sem,aO q1,hx]
   refine ⟨by omega,q1,?_⟩
   refine aa (c) ?_
   refine aG (i+1) (show i+1≤x.it.length by omega) (show x.it.length - (i+1)<x.it.length - i by omega) (Wk.of ?_ ?_)
   ·simp only [go_sem,e8,hn];try simp
   ·simp only [go_sem]
  ·rw [hx,eC] at hn
   simp only [go_sem,aO q1,hx]
   refine ⟨by omega,q1,?_⟩
   refine aG (i+1) (show i+1≤x.it.length by omega) (show x.it.length - (i+1)<x.it.length - i by omega) (Wk.of ?_ ?_)
   ·simp only [go_sem,e8,hn];try simp
   ·simp only [go_sem]
theorem ZM {n:Nat} (h:n≤7):bO .i64 (n:Int) 1=((n % 2:Nat):Int)∧bO .i64 (n:Int) 2=((n % 4 / 2 * 2:Nat):Int)∧bO .i64 (n:Int) 4=((n / 4 * 4:Nat):Int):=by
 rcases (show n=0∨n=1∨n=2∨n=3∨n=4∨n=5∨n=6∨n=7 by omega) with rfl | rfl | rfl | rfl | rfl | rfl | rfl | rfl<;>exact ⟨rfl,rfl,rfl⟩
theorem aeu {n:Nat} {l:List aZ} (hn:n≤7) (h1:n<4→zW l=true) (h3:Jq l) (h4:l.length≤2048):WX ma [.sl 9 (l.map aW),.ip [.int .i64 (n:Int)]] (tT n l):=by
 intro w hw
 refine bF gF ?_
 obtain ⟨f1,f2,f3⟩:=ZM hn
 unfold tT at hw ⊢
 by_cases q:n<4
 ·rw [ap q] at hw ⊢
  obtain ⟨e1,e2,e3⟩:=Ig (h1 q) h3
  have hl2:l.length=2:=by rw [e1];rfl
  have z:(n / 4 * 4:Nat)=0:=by omega
  replace f3:bO .i64 (n:Int) 4=0:=by rw [f3,z];rfl
  simp only [go_sem,gF,f3]
  refine ⟨by omega,by omega,?_⟩
  refine aC (VU ⟨e2,e3⟩) rfl ?_
  simp only [go_sem]
  exact cR (fun _ h=>by cases h) rfl (by rfl) (by rfl) (by simp [])
 ·rw [ah q] at hw ⊢
  have z:(n / 4 * 4:Nat)=4:=by omega
  replace f3:bO .i64 (n:Int) 4=4:=by rw [f3,z];rfl
  simp only [go_sem,gF,f3]
  refine aC (Ln h3 (by omega)) rfl ?_
  simp only [go_sem]
  exact cR (fun _ h=>by cases h) rfl (by rfl) (by rfl) (by simp [])
end
section
def yg (B:List (Nat×Int)):List (Nat×Int):=B.set (B.length - 1) ((ac B (B.length - 1)).1+1,(ac B (B.length - 1)).2)
def jQ (acc:List (Nat×Int)) (t:Int):List (Nat×Int):=if acc=[]∨(ac acc (acc.length - 1)).2≠t then acc++[(0,t)] else acc
def Qz (acc:List (Nat×Int)) (t:Int):List (Nat×Int):=yg (jQ acc t)
theorem vn {α:Type} [Inhabited α] (acc:List α) (p:α):ac (acc++[p]) ((acc++[p]).length - 1)=p:=by
 rw [bE,cM,Nat.add_sub_cancel,BR]
theorem Ic (acc:List (Nat×Int)) (k:Nat) (x:Int):yg (acc++[(k,x)])=acc++[(k+1,x)]:=by
 unfold yg
 rw [vn]
 simp
theorem adA (acc:List (Nat×Int)) (k:Nat) (x:Int):Qz (acc++[(k,x)]) x=acc++[(k+1,x)]:=by
 unfold Qz jQ
 rw [vn,ah (by simp),Ic]
theorem adB (acc:List (Nat×Int)) (k:Nat) {x t:Int} (h:¬t=x):Qz (acc++[(k,x)]) t=acc++[(k,x)]++[(1,t)]:=by
 unfold Qz jQ
 rw [vn,ap (.inr fun q=>h q.symm),Ic]
theorem Y_ (t:Int):Qz [] t=[(1,t)]:=by
 unfold Qz jQ
 rw [ap (.inl rfl)]
 rfl
theorem D4:∀(l:List Int) (f:Nat) (acc:List (Nat×Int)) (k:Nat) (x:Int),l.length≤f→l.foldl Qz (acc++[(k,x)])=acc++(k+same x l,x) :: Cq f (l.drop (same x l))
 | [],f,acc,k,x,_=>by
  cases f<;>simp [same,Cq]
 | t :: l,f,acc,k,x,h=>by
  rw [eA] at h
  rw [List.foldl_cons,same]
  by_cases q:t=x
  ·subst q
   rw [ap rfl,adA,D4 l f acc (k+1) t (by omega),List.drop_succ_cons,show k+1+same t l=k+(same t l+1) by omega]
  ·rw [ah q,adB acc k q]
   obtain ⟨g,rfl⟩:∃g,f=g+1:=⟨f - 1,by omega⟩
   rw [D4 l g (acc++[(k,x)]) 1 t (by omega),List.drop_zero,Cq,du,Nat.add_comm 1]
   rfl
theorem Pi (l:List Int):l.foldl Qz []=iZ l:=by
 cases l with
 | nil=>rfl
 | cons x l =>
  rw [List.foldl_cons,Y_]
  have:=D4 l l.length [] 1 x (bt _)
  rw [fh,fh] at this
  rw [this]
  unfold iZ
  rw [eA,Cq,Nat.add_comm 1]
def qV (l:List Int) (i:Nat):List (Nat×Int):=(l.take i).foldl Qz []
theorem aav {l:List Int} {i:Nat} (h:i<l.length):qV l (i+1)=Qz (qV l i) (ac l i):=by
 unfold qV
 rw [xJ h,List.foldl_append]
 rfl
theorem Pt (B:List (Nat×Int)) (h:B≠[]):yg B≠[]∧(yg B).length=B.length∧(ac (yg B) ((yg B).length - 1)).2=(ac B (B.length - 1)).2:=by
 obtain ⟨A,p,rfl⟩:∃A p,B=A++[p]:=⟨B.dropLast,B.getLast h,(List.dropLast_concat_getLast h).symm⟩
 obtain ⟨k,x⟩:=p
 rw [Ic,vn,vn]
 simp
theorem Hb (acc:List (Nat×Int)) (t:Int):jQ acc t≠[]∧(ac (jQ acc t) ((jQ acc t).length - 1)).2=t:=by
 unfold jQ
 by_cases h:acc=[]∨(ac acc (acc.length - 1)).2≠t
 ·rw [ap h,vn];simp
 ·rw [ah h]
  exact ⟨fun q=>h (.inl q),by by_cases z:(ac acc (acc.length - 1)).2=t;exact z;exact absurd (.inr z) h⟩
theorem aau (l:List Int):∀i,i≤l.length→(qV l i).length≤i∧(0<i→qV l i≠[]∧(ac (qV l i) ((qV l i).length - 1)).2=ac l (i - 1))∧∀p∈qV l i,p.1≤i
 | 0,_=>⟨by simp [qV],fun h=>absurd h (by decide),fun p hp=>by simp [qV] at hp⟩
 | i+1,h=>by
  obtain ⟨h1,h2,h3⟩:=aau l i (by omega)
  obtain ⟨g1,g2⟩:=Hb (qV l i) (ac l i)
  obtain ⟨k1,k2,k3⟩:=Pt _ g1
  have e:(jQ (qV l i) (ac l i)).length≤i+1:=by
   unfold jQ
   split
   ·rw [bE,cM];omega
   ·omega
  have e2:∀p∈jQ (qV l i) (ac l i),p.1≤i:=fun p hp=>by
   unfold jQ at hp
   split at hp
   ·rcases fA.1 hp with q | q
    ·exact h3 p q
    ·simp only [kB] at q;subst q;exact cX _
   ·exact h3 p hp
  rw [aav (by omega)]
  unfold Qz
  refine ⟨by omega,fun _=>⟨k1,by rw [k3,g2];rfl⟩,fun p hp=>?_⟩
  unfold yg at hp
  rcases List.mem_or_eq_of_mem_set hp with q | q
  ·have:=e2 p q;omega
  ·rw [q]
   have:(ac (jQ (qV l i) (ac l i)) ((jQ (qV l i) (ac l i)).length - 1)).1≤i:=e2 _ (by
    have hp:=List.length_pos_iff.2 g1
    generalize jQ (qV l i) (ac l i)=B at *
    rw [bp (by omega)]
    exact List.getElem_mem _)
   simp only;omega
def Hk (p:Nat×Int):List AV:=[.int .i64 p.1,.int .i64 p.2]
theorem ajj (p:Nat×Int):Hk p=[.int .i64 p.1,.int .i64 p.2]:=rfl
attribute [local go_sem] di wo wa dE d_ aW
theorem ahI {p:Nat×Int} (h1:p.1<4294967296) (h2:m5 p.2=true):WX l_ [.agg (Hk p)] (tU p):=by
 intro l hl
 refine bF lE ?_
 unfold tU at hl ⊢
 rw [bE] at hl
 simp only [go_sem,lE,ajj]
 refine aC (VD p.1 h1) rfl ?_
 simp only [go_sem]
 refine aC (Hs h2) rfl ?_
 simp only [go_sem]
 exact cR (fun _ h=>by cases h) rfl (by rfl) (by rfl) (by simp [])
theorem Yy {acc:List (Nat×Int)} {n:Nat} (h:∀p∈acc,p.1≤n) (t:Int) (hb:jQ acc t≠[]):(ac (jQ acc t) ((jQ acc t).length - 1)).1≤n:=by
 have:∀p∈jQ acc t,p.1≤n:=fun p hp=>by
  unfold jQ at hp
  split at hp
  ·rcases fA.1 hp with q | q
   ·exact h p q
   ·simp only [kB] at q;subst q;exact cX _
  ·exact h p hp
 have hp:=List.length_pos_iff.2 hb
 generalize jQ acc t=B at *
 exact this _ (by rw [bp (by omega)];exact List.getElem_mem _)
theorem ahB {x:Cd} (h1:x.lo.length≤64) (h2:∀t∈x.lo,m5 t=true) (h4:Jq x.b) (h5:x.b.length≤2048):WX jt [.agg (qf x)] (fq x):=by
 intro w hw
 refine bF ou ?_
 simp only [go_sem,ou,dY]
 refine aw (fun i:Nat=>⟨[(11,.int .i64 i),(10,.int .i64 x.lo.length),(9,.sl 1 (x.lo.map mA)),(4,.ms 900 2 0 (qV x.lo i).length),(3,.mp 3 3 0 0),(0,.mp 1000 3 0 0)],[(900,⟨266,2,(qV x.lo i).map Hk,false⟩),(3,⟨61,3,[[.int .i64 x.t,.sl 1 (x.lo.map mA),.sl 9 (x.b.map aW)]],true⟩),(1000,wo 2000 true w 0),(2000,wa w)]⟩) (fun i=>i≤x.lo.length) (fun i=>x.lo.length - i) 0 (cX _) ((Wk.nil _ 4 900 2 266 (by simp only [go_sem]) (.inl (by decide))).trans (Wk.of ?_ ?_)) ?_
 ·simp only [go_sem,St.mknil];try simp [go_sem,qV]
 ·simp only [go_sem,St.mknil,dY];try simp [go_sem,qV]
 intro i hi2
 obtain ⟨a1,a2,a3⟩:=aau x.lo i hi2
 by_cases q1:(i:Int)<(x.lo.length:Int)
 rotate_left
 ·obtain rfl:i=x.lo.length:=by omega
  have hr:qV x.lo x.lo.length=iZ x.lo:=by unfold qV;rw [kC,Pi]
  rw [hr]
  have hrl:(iZ x.lo).length≤64:=by have:=uB x.lo.length x.lo;unfold iZ;omega
  have hB:=zN h1 h4 h5
  have hB2:(iF x).length=(aE tU (iZ x.lo)).length+(fu x.b).length:=by unfold iF GG;rw [bE]
  have cw:=pi (n:=mh) (t:=266) (z:=[.int .i64 0,.int .i64 0]) (f:=Hk) (g:=l_) (caps:=[]) (enc:=tU) (cF lJ) rfl (fun p=>⟨rfl,fun _=>rfl,rfl⟩) (iZ x.lo) (by omega) (by kernel_rfl) (fun _=>rfl) (fun _ h=>by cases h) (fun p hp=>ahI (by
   have:=DD _ _ p hp
   have h6:=a3
   rw [hr] at h6
   have:=h6 p hp
   omega) (h2 _ (DD _ _ p hp).2))
  simp only [go_sem,aQ q1]
  refine qH 904 905 (by decide) (by decide) (by decide) (by simp only [go_sem]) (by simp only [go_sem]) ?_
  simp only [go_sem]
  refine lj [900] (k:=904) (j:=905) (l:=[]) cw (by simp [go_sem,wo,wa,fL]) (by simp [go_sem]) (by simp [go_sem,wo,wa]) (by simp [go_sem,wo,wa]) (by simp only [b_];omega) (by decide) ?_
  simp only [go_sem,fh]
  refine LD (k:=904) (j:=905) (Ln h4 (by omega)) rfl (by simp [go_sem]) (by rfl) (by rfl) (by omega) (by decide) ?_
  have cp:=I8 true w 0 (by omega) true (iF x) 0 (by omega)
  rw [show wP (true&&(0:Int)==0) w 0 true (iF x) 0=(w++fq x,0) by unfold wP fq;simp [wB]] at cp
  rw [show aE tU (iZ x.lo)++fu x.b=iF x from rfl]
  simp only [go_sem]
  refine ew (σ2:=[(1000,wo 2000 true w 0),(2000,wa w),(904,wo 905 true (iF x) 0),(905,wa (iF x))]) (r3:=.tup []) (σ3:=[(1000,wo 2000 true (w++fq x) 0),(2000,wa (w++fq x)),(904,wo 905 true (iF x) 0),(905,wa (iF x))]) cp [(1001,904),(2001,905)] [905,2000] rfl rfl rfl rfl ?_ ?_ ?_ ?_
  ·simp only [go_sem];simp
  ·simp only [go_sem];simp [sb,bw,jk,ae]
  ·simp only [go_sem];simp [ae]
  simp only [go_sem]
  exact cR (fun _ h=>by cases h) rfl (by rfl) (by rfl) rfl
 have hi':i<x.lo.length:=by omega
 have e8:=dz hi' (by omega)
 have hn:=aav hi'
 obtain ⟨b1,b2⟩:=Hb (qV x.lo i) (ac x.lo i)
 have b3:(jQ (qV x.lo i) (ac x.lo i)).length≤i+1:=by
  unfold jQ
  split
  ·rw [bE,cM];omega
  ·omega
 have b4:(ac (jQ (qV x.lo i) (ac x.lo i)) ((jQ (qV x.lo i) (ac x.lo i)).length - 1)).1≤i:=Yy a3 _ b1
 unfold Qz at hn
 by_cases q2:qV x.lo i=[]∨(ac (qV x.lo i) ((qV x.lo i).length - 1)).2≠ac x.lo i
 ·have ho:jQ (qV x.lo i) (ac x.lo i)=qV x.lo i++[(0,ac x.lo i)]:=ap q2
  have hap:zE 900 266 2 0 (qV x.lo i).length [[.int .i64 0,.int .i64 (ac x.lo i)]] (some ⟨266,2,(qV x.lo i).map Hk,false⟩)=some (.ms 900 2 0 (jQ (qV x.lo i) (ac x.lo i)).length,.reb 900 ⟨266,2,(jQ (qV x.lo i) (ac x.lo i)).map Hk,false⟩):=by
   rw [cZ 900 266 2 _ Hk _ _ rfl,ap ⟨by simp,by omega,.inl (by decide)⟩,ho]
   simp [Hk]
  generalize jQ (qV x.lo i) (ac x.lo i)=B at *
  by_cases q3:(i:Int)=0
  ·simp only [go_sem,aO q1,dV q3,hap]
   refine ⟨by omega,q1,?_⟩
   have hpl:=List.length_pos_iff.2 b1
   have e1:=wi (n:=(B.length:Int) - 1) (by omega) (by omega)
   have e2:((B.length:Int) - 1).toNat=B.length - 1:=by omega
   have e3:IntKind.i64.wrap (((ac B (B.length - 1)).1:Int)+1)=(((ac B (B.length - 1)).1+1:Nat):Int):=by rw [wi (by omega) (by omega)];omega
   have hst:∀(row v:Nat),Ju 900 1 2 row 0 (some ⟨266,2,B.map Hk,false⟩) (some [.int .i64 (v:Int)])=if row<B.length then some (.put 900 ⟨266,2,(B.set row (v,(ac B row).2)).map Hk,false⟩) else none:=fun row v=>y6 900 1 2 row 0 266 Hk B [.int .i64 (v:Int)] (fun p=>(v,p.2)) rfl rfl (fun _=>by show 0+1≤2;decide) (fun _=>rfl)
   have hld:∀p:Nat×Int,vp none (Hk p)=some (.int .i64 p.1):=fun _=>rfl
   simp only [go_sem,e1,e2,e3,hst,hld]
   refine ⟨by omega,by omega,by omega,by omega,?_⟩
   refine aG (i+1) (show i+1≤x.lo.length by omega) (show x.lo.length - (i+1)<x.lo.length - i by omega) (Wk.of ?_ ?_)
   ·simp only [go_sem,e8,hn,yg,List.length_set];try simp
   ·simp only [go_sem,hn,yg];try simp [go_sem]
  ·have hp:=a2 (by omega)
   have hne:((ac x.lo i) != (ac x.lo (i - 1)))=true:=by
    rcases q2 with q | q
    ·exact absurd q hp.1
    ·rw [hp.2] at q;exact bv fun z=>q z.symm
   simp only [go_sem,aO q1,ay q3,wi (n:=(i:Int) - 1) (by omega) (by omega),show ((i:Int) - 1).toNat=i - 1 by omega,hne,hap]
   refine ⟨by omega,q1,by omega,by omega,?_⟩
   have hpl:=List.length_pos_iff.2 b1
   have e1:=wi (n:=(B.length:Int) - 1) (by omega) (by omega)
   have e2:((B.length:Int) - 1).toNat=B.length - 1:=by omega
   have e3:IntKind.i64.wrap (((ac B (B.length - 1)).1:Int)+1)=(((ac B (B.length - 1)).1+1:Nat):Int):=by rw [wi (by omega) (by omega)];omega
   have hst:∀(row v:Nat),Ju 900 1 2 row 0 (some ⟨266,2,B.map Hk,false⟩) (some [.int .i64 (v:Int)])=if row<B.length then some (.put 900 ⟨266,2,(B.set row (v,(ac B row).2)).map Hk,false⟩) else none:=fun row v=>y6 900 1 2 row 0 266 Hk B [.int .i64 (v:Int)] (fun p=>(v,p.2)) rfl rfl (fun _=>by show 0+1≤2;decide) (fun _=>rfl)
   have hld:∀p:Nat×Int,vp none (Hk p)=some (.int .i64 p.1):=fun _=>rfl
   simp only [go_sem,e1,e2,e3,hst,hld]
   refine ⟨by omega,by omega,by omega,by omega,?_⟩
   refine aG (i+1) (show i+1≤x.lo.length by omega) (show x.lo.length - (i+1)<x.lo.length - i by omega) (Wk.of ?_ ?_)
   ·simp only [go_sem,e8,hn,yg,List.length_set];try simp
   ·simp only [go_sem,hn,yg];try simp [go_sem]
 ·have ho:jQ (qV x.lo i) (ac x.lo i)=qV x.lo i:=ah q2
  have q3:¬(i:Int)=0:=fun z=>q2 (.inl (by have:i=0:=by omega
                                          subst this;rfl))
  have hp:=a2 (by omega)
  have hne:((ac x.lo i) != (ac x.lo (i - 1)))=false:=by
   rw [← hp.2]
   exact aD (by by_cases z:(ac (qV x.lo i) ((qV x.lo i).length - 1)).2=ac x.lo i;exact z.symm;exact absurd (.inr z) q2)
  rw [ho] at hn b1 b2 b3 b4
  generalize qV x.lo i=B at *
  simp only [go_sem,aO q1,ay q3,wi (n:=(i:Int) - 1) (by omega) (by omega),show ((i:Int) - 1).toNat=i - 1 by omega,hne]
  refine ⟨by omega,q1,by omega,by omega,?_⟩
  have hpl:=List.length_pos_iff.2 b1
  have e1:=wi (n:=(B.length:Int) - 1) (by omega) (by omega)
  have e2:((B.length:Int) - 1).toNat=B.length - 1:=by omega
  have e3:IntKind.i64.wrap (((ac B (B.length - 1)).1:Int)+1)=(((ac B (B.length - 1)).1+1:Nat):Int):=by rw [wi (by omega) (by omega)];omega
  have hst:∀(row v:Nat),Ju 900 1 2 row 0 (some ⟨266,2,B.map Hk,false⟩) (some [.int .i64 (v:Int)])=if row<B.length then some (.put 900 ⟨266,2,(B.set row (v,(ac B row).2)).map Hk,false⟩) else none:=fun row v=>y6 900 1 2 row 0 266 Hk B [.int .i64 (v:Int)] (fun p=>(v,p.2)) rfl rfl (fun _=>by show 0+1≤2;decide) (fun _=>rfl)
  have hld:∀p:Nat×Int,vp none (Hk p)=some (.int .i64 p.1):=fun _=>rfl
  simp only [go_sem,e1,e2,e3,hst,hld]
  refine ⟨by omega,by omega,by omega,by omega,?_⟩
  refine aG (i+1) (show i+1≤x.lo.length by omega) (show x.lo.length - (i+1)<x.lo.length - i by omega) (Wk.of ?_ ?_)
  ·simp only [go_sem,e8,hn,yg,List.length_set];try simp
  ·simp only [go_sem,hn,yg];try simp [go_sem]
end
section
theorem yf {bl:Nat→Option Nat} {M:Nat→Prop} {w:World} {v:Value} {x:AV} (h:cg bl M w v x) (h1:qh x=true) (h2:BJ x=false):IRel M w v x:=by
 cases x<;>first | (simp [qh] at h1;done) | exact h | (simp [BJ] at h2;done)
theorem MM {c:vf} {bl:Nat→Option Nat} {s:St} {a:Act} {w:World} (hs:aK c bl (get s.env) (ae s.heap) a w) {i:Nat} {t:TypeId} {st:Nat} {r:List AV} (hi:ae s.heap i=some ⟨t,st,[r],true⟩) (hr:∀x∈r,qh x=true∧BJ x=false) :
  aK c bl (get s.env) (ae ((i,⟨t,st,[r],false⟩) :: s.heap)) a w∧bH bl c.MF (ae ((i,⟨t,st,[r],false⟩) :: s.heap))=bH bl c.MF (ae s.heap):=by
 have hm:bH bl c.MF (ae ((i,⟨t,st,[r],false⟩) :: s.heap))=bH bl c.MF (ae s.heap):=by
  funext b
  apply propext
  constructor
  ·rintro (h | ⟨j,o,h1,h2⟩)
   ·exact .inl h
   ·simp only [ae] at h1
    split at h1
    ·rename_i hij;subst hij;exact .inr ⟨_,_,hi,h2⟩
    ·exact .inr ⟨j,o,h1,h2⟩
  ·rintro (h | ⟨j,o,h1,h2⟩)
   ·exact .inl h
   ·by_cases hij:i=j
    ·subst hij;exact .inr ⟨i,⟨t,st,[r],false⟩,by simp [ae],h2⟩
    ·exact .inr ⟨j,o,by simp only [ae,ah hij];exact h1,h2⟩
 refine ⟨⟨hs.defers,hs.size,by rw [hm];exact hs.env,⟨fun j o hj=>?_,fun j j' o o' b h1 h2=>?_⟩,hs.step,fun j o b h1=>?_,hs.stab,hs.mf⟩,hm⟩
 ·rw [hm]
  simp only [ae] at hj
  split at hj
  ·rename_i hij
   subst hij
   cases hj
   rcases hs.heap.1 _ _ hi with ⟨h1,_⟩ | ⟨b,g1,⟨gk,c1,fr,g2,g3,g4,g5,g6,g7⟩ | hsp⟩
   ·cases h1
   ·refine .inr ⟨b,g1,.inl ⟨rfl,c1,fr,g2,g3,g4,g5,g6,fun k q u x hu hx=>?_⟩⟩
    obtain ⟨v,hv1,hv2⟩:=g7 k q u x hu hx
    have hu2:u=r:=by
     cases k with
     | zero=>simpa using hu.symm
     | succ k=>simp at hu
    subst hu2
    obtain ⟨z1,z2⟩:=hr x (ve hx)
    exact ⟨v,hv1,yf hv2 z1 z2⟩
   ·have:=hsp.rows
    cases this
  ·exact hs.heap.1 j o hj
 ·have key:∀{j:Nat} {o:ak},ae ((i,⟨t,st,[r],false⟩) :: s.heap) j=some o→∃o',ae s.heap j=some o':=fun {j o} hj=>by
   simp only [ae] at hj
   split at hj
   ·rename_i hij;subst hij;exact ⟨_,hi⟩
   ·exact ⟨_,hj⟩
  obtain ⟨p1,q1⟩:=key h1
  obtain ⟨p2,q2⟩:=key h2
  exact hs.heap.2 j j' p1 p2 b q1 q2
 ·simp only [ae] at h1
  split at h1
  ·rename_i hij;subst hij;exact hs.own i _ b hi
  ·exact hs.own j o b h1
theorem jM (s:St) (l:List AV) (i:Nat) {t:TypeId} {st:Nat} {r:List AV} (hi:ae s.heap i=some ⟨t,st,[r],true⟩) (hr:∀x∈r,qh x=true∧BJ x=false):FN s l ⟨s.env,(i,⟨t,st,[r],false⟩) :: s.heap⟩ l:=fun c a w bl vs h1 h2=>by
 obtain ⟨h3,hm⟩:=MM h1 hi hr
 exact ⟨bl,h3,by rw [hm];exact h2⟩
theorem nk0:((0:Nat):Int)=0:=rfl
theorem nk1:((1:Nat):Int)=1:=rfl
theorem nk2:((2:Nat):Int)=2:=rfl
theorem nk3:((3:Nat):Int)=3:=rfl
theorem nk4:((4:Nat):Int)=4:=rfl
theorem nk5:((5:Nat):Int)=5:=rfl
theorem nk6:((6:Nat):Int)=6:=rfl
theorem nk7:((7:Nat):Int)=7:=rfl
attribute [local go_sem] di wo wa dE d_ aW iH
theorem aes {x:El} (h:Mk Dy x) (hn:G9 x.o) (hn2:∀l∈x.it,G9 l):WX jv [.agg (gP x)] (oL x):=by
 intro w hw
 obtain ⟨hB,ho,hi⟩:=h
 obtain ⟨b1,b2,b3,b4,b5⟩:=DT hB
 obtain ⟨f1,f2,f3,f4,f5,f6⟩:=LU b1
 obtain ⟨j1,j2⟩:=qR ho hn
 have hrf:cL x<4→∀l∈x.it,zW l=true:=fun q=>by
  have:=f5.1 q
  unfold iG at this
  rw [Bool.or_eq_false_iff,List.any_eq_false] at this
  intro l hl
  have:=this.2 l hl
  simpa using this
 have cv:=Hs (Fu.2 (by have:=Aq.1 b4;omega):m5 x.ty=true)
 have ct:=VU (dI.1 b3)
 have co:=Ln j1 (by omega)
 have cf:=X2 b1 b5
 have cl:=ZD (n:=mb) (f:=oU) (v:=fun l:List aZ=>.sl 9 (l.map aW)) (g:=ma) (caps:=[.ip [.int .i64 (cL x:Nat)]]) (enc:=tT (cL x)) (cF lF) (fun _=>rfl) (fun _ _=>rfl) (fun _=>rfl) x.it (by omega) (by kernel_rfl) (fun _=>rfl) (fun y hy=>by simp only [kB] at hy;subst hy;rfl) (fun l hl=>aeu f1 (fun q=>hrf q l hl) (qR (hi l hl) (hn2 l hl)).1 (hi l hl).1)
 have cu:=VD (cL x) (by omega)
 refine bF ow ?_
 obtain ⟨g1,g2,g3⟩:=ZM f1
 unfold oL at hw ⊢
 simp only [eW] at cf
 generalize cL x=n at *
 rcases (show n=0∨n=1∨n=2∨n=3∨n=4∨n=5∨n=6∨n=7 by omega) with rfl | rfl | rfl | rfl | rfl | rfl | rfl | rfl
 all_goals
  simp only [Nat.reduceMod,Nat.reduceDiv,Nat.reduceMul,Nat.reduceLT,Nat.reduceEqDiff,reduceCtorEq,Nat.reduceEqDiff,aF,bc,mz,fh,bE,nk0,nk1,nk2,nk3,nk4,nk5,nk6,nk7,reduceIte,eA,b_] at hw g1 g2 g3 cf cl cu ⊢
  simp only [go_sem,ow,eW]
  refine aa (cf) ?_
  refine aC (cu) rfl ?_
  simp only [go_sem,g1,g2,g3]
 ·refine aC (co) rfl ?_
  simp only [go_sem,g1,g2,g3]
  generalize hv:w++aq 0++fu x.o=v at *
  have hvl:=congrArg List.length hv
  simp only [bE,eA,b_] at hvl
  refine ik (jM _ _ 4 (by rfl) (fun y hy=>by simp only [kB] at hy;subst hy;exact ⟨rfl,rfl⟩)) ?_
  refine lj [4] (k:=1000) (j:=2000) (l:=v) cl (by simp [go_sem,wo,wa]) (by simp [go_sem]) (by simp [go_sem,wo,wa]) (by simp [go_sem,wo,wa]) (by omega) (by decide) ?_
  simp only [go_sem]
  exact cR (fun _ h=>by cases h) rfl (by rfl) (by rfl) (by rw [← hv];simp)
 ·refine aC (VT 0) rfl ?_
  simp only [go_sem]
  generalize hv:w++aq 1++[0]=v at *
  have hvl:=congrArg List.length hv
  simp only [bE,eA,b_] at hvl
  refine ik (jM _ _ 4 (by rfl) (fun y hy=>by simp only [kB] at hy;subst hy;exact ⟨rfl,rfl⟩)) ?_
  refine lj [4] (k:=1000) (j:=2000) (l:=v) cl (by simp [go_sem,wo,wa]) (by simp [go_sem]) (by simp [go_sem,wo,wa]) (by simp [go_sem,wo,wa]) (by omega) (by decide) ?_
  simp only [go_sem]
  exact cR (fun _ h=>by cases h) rfl (by rfl) (by rfl) (by rw [← hv];simp)
 ·refine aC (ct) rfl ?_
  simp only [go_sem,g1,g2,g3]
  refine aC (co) rfl ?_
  simp only [go_sem,g1,g2,g3]
  refine aC (VT 0) rfl ?_
  simp only [go_sem]
  generalize hv:w++aq 2++aq x.tb.toNat++fu x.o++[0]=v at *
  have hvl:=congrArg List.length hv
  simp only [bE,eA,b_] at hvl
  refine ik (jM _ _ 4 (by rfl) (fun y hy=>by simp only [kB] at hy;subst hy;exact ⟨rfl,rfl⟩)) ?_
  refine lj [4] (k:=1000) (j:=2000) (l:=v) cl (by simp [go_sem,wo,wa]) (by simp [go_sem]) (by simp [go_sem,wo,wa]) (by simp [go_sem,wo,wa]) (by omega) (by decide) ?_
  simp only [go_sem]
  exact cR (fun _ h=>by cases h) rfl (by rfl) (by rfl) (by rw [← hv];simp)
 ·refine aC (VT 0) rfl ?_
  simp only [go_sem]
  generalize hv:w++aq 3++[0]=v at *
  have hvl:=congrArg List.length hv
  simp only [bE,eA,b_] at hvl
  refine ik (jM _ _ 4 (by rfl) (fun y hy=>by simp only [kB] at hy;subst hy;exact ⟨rfl,rfl⟩)) ?_
  refine lj [4] (k:=1000) (j:=2000) (l:=v) cl (by simp [go_sem,wo,wa]) (by simp [go_sem]) (by simp [go_sem,wo,wa]) (by simp [go_sem,wo,wa]) (by omega) (by decide) ?_
  simp only [go_sem]
  exact cR (fun _ h=>by cases h) rfl (by rfl) (by rfl) (by rw [← hv];simp)
 ·refine aC (co) rfl ?_
  simp only [go_sem,g1,g2,g3]
  generalize hv:w++aq 4++fu x.o=v at *
  have hvl:=congrArg List.length hv
  simp only [bE,eA,b_] at hvl
  refine ik (jM _ _ 4 (by rfl) (fun y hy=>by simp only [kB] at hy;subst hy;exact ⟨rfl,rfl⟩)) ?_
  refine lj [4] (k:=1000) (j:=2000) (l:=v) cl (by simp [go_sem,wo,wa]) (by simp [go_sem]) (by simp [go_sem,wo,wa]) (by simp [go_sem,wo,wa]) (by omega) (by decide) ?_
  simp only [go_sem]
  exact cR (fun _ h=>by cases h) rfl (by rfl) (by rfl) (by rw [← hv];simp)
 ·refine aC (cv) rfl ?_
  simp only [go_sem]
  generalize hv:w++aq 5++eD x.ty=v at *
  have hvl:=congrArg List.length hv
  simp only [bE,eA,b_] at hvl
  refine ik (jM _ _ 4 (by rfl) (fun y hy=>by simp only [kB] at hy;subst hy;exact ⟨rfl,rfl⟩)) ?_
  refine lj [4] (k:=1000) (j:=2000) (l:=v) cl (by simp [go_sem,wo,wa]) (by simp [go_sem]) (by simp [go_sem,wo,wa]) (by simp [go_sem,wo,wa]) (by omega) (by decide) ?_
  simp only [go_sem]
  exact cR (fun _ h=>by cases h) rfl (by rfl) (by rfl) (by rw [← hv];simp)
 ·refine aC (ct) rfl ?_
  simp only [go_sem,g1,g2,g3]
  refine aC (co) rfl ?_
  simp only [go_sem,g1,g2,g3]
  refine aC (cv) rfl ?_
  simp only [go_sem]
  generalize hv:w++aq 6++aq x.tb.toNat++fu x.o++eD x.ty=v at *
  have hvl:=congrArg List.length hv
  simp only [bE,eA,b_] at hvl
  refine ik (jM _ _ 4 (by rfl) (fun y hy=>by simp only [kB] at hy;subst hy;exact ⟨rfl,rfl⟩)) ?_
  refine lj [4] (k:=1000) (j:=2000) (l:=v) cl (by simp [go_sem,wo,wa]) (by simp [go_sem]) (by simp [go_sem,wo,wa]) (by simp [go_sem,wo,wa]) (by omega) (by decide) ?_
  simp only [go_sem]
  exact cR (fun _ h=>by cases h) rfl (by rfl) (by rfl) (by rw [← hv];simp)
 ·refine aC (cv) rfl ?_
  simp only [go_sem]
  generalize hv:w++aq 7++eD x.ty=v at *
  have hvl:=congrArg List.length hv
  simp only [bE,eA,b_] at hvl
  refine ik (jM _ _ 4 (by rfl) (fun y hy=>by simp only [kB] at hy;subst hy;exact ⟨rfl,rfl⟩)) ?_
  refine lj [4] (k:=1000) (j:=2000) (l:=v) cl (by simp [go_sem,wo,wa]) (by simp [go_sem]) (by simp [go_sem,wo,wa]) (by simp [go_sem,wo,wa]) (by omega) (by decide) ?_
  simp only [go_sem]
  exact cR (fun _ h=>by cases h) rfl (by rfl) (by rfl) (by rw [← hv];simp)
end
section
theorem ajZ {m:Md} (h:vt m):WX nX [.sl 2 (m.ts.map rK),.fn ka []] (aE oN m.ts):=pi (f:=rK) (g:=ka) (caps:=[]) (cF nK) rfl (fun _=>⟨rfl,fun _=>rfl,rfl⟩) m.ts (by have:=h.lim.ts.1;omega) (by kernel_rfl) (fun _=>rfl) (fun _ h=>by cases h) (fun x hx=>ahD (h.lim.ts.2 x hx))
theorem aj0 {m:Md} (h:vt m):WX md [.sl 13 (m.ims.map tg),.fn gW []] (aE oP m.ims):=pi (f:=tg) (g:=gW) (caps:=[]) (cF lH) rfl (fun _=>⟨rfl,fun _=>rfl,rfl⟩) m.ims (by have:=h.lim.ims.1;omega) (by kernel_rfl) (fun _=>rfl) (fun _ h=>by cases h) (fun x hx=>ahE (h.lim.ims.2 x hx))
theorem aj1 {m:Md} (h:vt m):WX gw [.sl 3 (m.fs.map qf),.fn eZ []] (aE (fun x:Cd=>aq x.t.toNat) m.fs):=pi (f:=qf) (g:=eZ) (caps:=[]) (cF gj) rfl (fun _=>⟨rfl,fun _=>rfl,rfl⟩) m.fs (by have:=h.lim.fs.1;omega) (by kernel_rfl) (fun _=>rfl) (fun _ h=>by cases h) (fun x hx=>ahK (EV h x hx).2.2.2.2.2)
theorem aj2 {m:Md} (h:vt m):WX mW [.sl 4 (m.tbs.map xR),.fn jw []] (aE nw m.tbs):=pi (f:=xR) (g:=jw) (caps:=[]) (cF mH) rfl (fun _=>⟨rfl,fun _=>rfl,rfl⟩) m.tbs (by have:=h.lim.tbs.1;omega) (by kernel_rfl) (fun _=>rfl) (fun _ h=>by cases h) (fun x hx=>aaP (h.lim.tbs.2 x hx))
theorem aj3 {m:Md} (h:vt m):WX mg [.sl 3 (m.ms.map ry),.fn iW []] (aE jH m.ms):=pi (f:=ry) (g:=iW) (caps:=[]) (cF lI) rfl (fun _=>⟨rfl,fun _=>rfl,rfl⟩) m.ms (by have:=h.lim.ms.1;omega) (by kernel_rfl) (fun _=>rfl) (fun _ h=>by cases h) (fun x hx=>VE (G4 (h.lim.ms.2 x hx)))
theorem aj4 {m:Md} (h:vt m):WX j9 [.sl 3 (m.gs.map yd),.fn e_ []] (aE oO m.gs):=pi (f:=yd) (g:=e_) (caps:=[]) (cF jV) rfl (fun _=>⟨rfl,fun _=>rfl,rfl⟩) m.gs (by have:=h.lim.gs.1;omega) (by kernel_rfl) (fun _=>rfl) (fun _ h=>by cases h) (fun x hx=>aet (h.lim.gs.2 x hx).1 (qR (h.lim.gs.2 x hx).2 (h.num.2.1 x hx)).1 (h.lim.gs.2 x hx).2.1)
theorem aj5 {m:Md} (h:vt m):WX mc [.sl 3 (m.exs.map xN),.fn fa []] (aE oM m.exs):=pi (f:=xN) (g:=fa) (caps:=[]) (cF lG) rfl (fun _=>⟨rfl,fun _=>rfl,rfl⟩) m.exs (by have:=h.lim.exs.1;omega) (by kernel_rfl) (fun _=>rfl) (fun _ h=>by cases h) (fun x hx=>ahC (h.lim.exs.2 x hx))
theorem aj6 {m:Md} (h:vt m):WX nW [.sl 5 (m.els.map gP),.fn jv []] (aE oL m.els):=pi (f:=gP) (g:=jv) (caps:=[]) (cF nJ) rfl (fun _=>⟨rfl,fun _=>rfl,rfl⟩) m.els (by have:=h.lim.els.1;omega) (by kernel_rfl) (fun _=>rfl) (fun _ h=>by cases h) (fun x hx=>aes (h.lim.els.2 x hx) (h.num.2.2.1 x hx).1 (h.num.2.2.1 x hx).2)
theorem ahF {m:Md} (h:vt m):WX gw [.sl 3 (m.fs.map qf),.fn jt []] (aE fq m.fs):=pi (f:=qf) (g:=jt) (caps:=[]) (cF gj) rfl (fun _=>⟨rfl,fun _=>rfl,rfl⟩) m.fs (by have:=h.lim.fs.1;omega) (by kernel_rfl) (fun _=>rfl) (fun _ h=>by cases h) (fun x hx=>ahB (EV h x hx).1 (EV h x hx).2.1 (EV h x hx).2.2.2.1 (EV h x hx).2.2.2.2.1)
theorem ahG {m:Md} (h:vt m):WX nV [.sl 4 (m.ds.map lO),.fn ju []] (aE oK m.ds):=pi (f:=lO) (g:=ju) (caps:=[]) (cF nI) rfl (fun _=>⟨rfl,fun _=>rfl,rfl⟩) m.ds (by have:=h.lim.ds.1;omega) (by kernel_rfl) (fun _=>rfl) (fun _ h=>by cases h) (fun x hx=>aer (h.lim.ds.2 x hx) (h.num.2.2.2 x hx))
attribute [local go_sem] di wo wa dE d_ aW
theorem ahJ {m:Md} (h:vt m) {p:Int} (hp:1≤p∧p≤12) (hs:p=8→m.hs=true):WX sX [dH m,.int .i64 p] (jn m p):=by
 intro w hw
 refine bF aV ?_
 rcases (show p=1∨p=2∨p=3∨p=4∨p=5∨p=6∨p=7∨p=8∨p=9∨p=10∨p=11∨p=12 by omega) with rfl | rfl | rfl | rfl | rfl | rfl | rfl | rfl | rfl | rfl | rfl | rfl
 ·replace hw:w.length+(aE oN m.ts).length≤1000000000:=hw
  show kD _ _ _ (nG _ fun r' σ'=>r' = .tup []∧σ'=[(1000,wo 2000 true (w++(aE oN m.ts)) 0),(2000,wa (w++(aE oN m.ts)))])
  simp only [go_sem,aV,dH,bC]
  refine aC (ajZ h) rfl ?_
  simp only [go_sem]
  exact cR (fun _ h=>by cases h) rfl (by rfl) (by rfl) rfl
 ·replace hw:w.length+(aE oP m.ims).length≤1000000000:=hw
  show kD _ _ _ (nG _ fun r' σ'=>r' = .tup []∧σ'=[(1000,wo 2000 true (w++(aE oP m.ims)) 0),(2000,wa (w++(aE oP m.ims)))])
  simp only [go_sem,aV,dH,bC]
  refine aC (aj0 h) rfl ?_
  simp only [go_sem]
  exact cR (fun _ h=>by cases h) rfl (by rfl) (by rfl) rfl
 ·replace hw:w.length+(aE (fun x:Cd=>aq x.t.toNat) m.fs).length≤1000000000:=hw
  show kD _ _ _ (nG _ fun r' σ'=>r' = .tup []∧σ'=[(1000,wo 2000 true (w++(aE (fun x:Cd=>aq x.t.toNat) m.fs)) 0),(2000,wa (w++(aE (fun x:Cd=>aq x.t.toNat) m.fs)))])
  simp only [go_sem,aV,dH,bC]
  refine aC (aj1 h) rfl ?_
  simp only [go_sem]
  exact cR (fun _ h=>by cases h) rfl (by rfl) (by rfl) rfl
 ·replace hw:w.length+(aE nw m.tbs).length≤1000000000:=hw
  show kD _ _ _ (nG _ fun r' σ'=>r' = .tup []∧σ'=[(1000,wo 2000 true (w++(aE nw m.tbs)) 0),(2000,wa (w++(aE nw m.tbs)))])
  simp only [go_sem,aV,dH,bC]
  refine aC (aj2 h) rfl ?_
  simp only [go_sem]
  exact cR (fun _ h=>by cases h) rfl (by rfl) (by rfl) rfl
 ·replace hw:w.length+(aE jH m.ms).length≤1000000000:=hw
  show kD _ _ _ (nG _ fun r' σ'=>r' = .tup []∧σ'=[(1000,wo 2000 true (w++(aE jH m.ms)) 0),(2000,wa (w++(aE jH m.ms)))])
  simp only [go_sem,aV,dH,bC]
  refine aC (aj3 h) rfl ?_
  simp only [go_sem]
  exact cR (fun _ h=>by cases h) rfl (by rfl) (by rfl) rfl
 ·replace hw:w.length+(aE oO m.gs).length≤1000000000:=hw
  show kD _ _ _ (nG _ fun r' σ'=>r' = .tup []∧σ'=[(1000,wo 2000 true (w++(aE oO m.gs)) 0),(2000,wa (w++(aE oO m.gs)))])
  simp only [go_sem,aV,dH,bC]
  refine aC (aj4 h) rfl ?_
  simp only [go_sem]
  exact cR (fun _ h=>by cases h) rfl (by rfl) (by rfl) rfl
 ·replace hw:w.length+(aE oM m.exs).length≤1000000000:=hw
  show kD _ _ _ (nG _ fun r' σ'=>r' = .tup []∧σ'=[(1000,wo 2000 true (w++(aE oM m.exs)) 0),(2000,wa (w++(aE oM m.exs)))])
  simp only [go_sem,aV,dH,bC]
  refine aC (aj5 h) rfl ?_
  simp only [go_sem]
  exact cR (fun _ h=>by cases h) rfl (by rfl) (by rfl) rfl
 ·replace hw:w.length+(aq m.st.toNat).length≤1000000000:=hw
  show kD _ _ _ (nG _ fun r' σ'=>r' = .tup []∧σ'=[(1000,wo 2000 true (w++(aq m.st.toNat)) 0),(2000,wa (w++(aq m.st.toNat)))])
  simp only [go_sem,aV,dH,bC]
  refine aC (VU (dI.1 (h.lim.st (hs rfl)))) rfl ?_
  simp only [go_sem]
  exact cR (fun _ h=>by cases h) rfl (by rfl) (by rfl) rfl
 ·replace hw:w.length+(aE oL m.els).length≤1000000000:=hw
  show kD _ _ _ (nG _ fun r' σ'=>r' = .tup []∧σ'=[(1000,wo 2000 true (w++(aE oL m.els)) 0),(2000,wa (w++(aE oL m.els)))])
  simp only [go_sem,aV,dH,bC]
  refine aC (aj6 h) rfl ?_
  simp only [go_sem]
  exact cR (fun _ h=>by cases h) rfl (by rfl) (by rfl) rfl
 ·replace hw:w.length+(aq m.ds.length).length≤1000000000:=hw
  show kD _ _ _ (nG _ fun r' σ'=>r' = .tup []∧σ'=[(1000,wo 2000 true (w++(aq m.ds.length)) 0),(2000,wa (w++(aq m.ds.length)))])
  simp only [go_sem,aV,dH,bC]
  refine aC (VD m.ds.length (by have:=h.lim.ds.1;omega)) rfl ?_
  simp only [go_sem]
  exact cR (fun _ h=>by cases h) rfl (by rfl) (by rfl) rfl
 ·replace hw:w.length+(aE fq m.fs).length≤1000000000:=hw
  show kD _ _ _ (nG _ fun r' σ'=>r' = .tup []∧σ'=[(1000,wo 2000 true (w++(aE fq m.fs)) 0),(2000,wa (w++(aE fq m.fs)))])
  simp only [go_sem,aV,dH,bC]
  refine aC (ahF h) rfl ?_
  simp only [go_sem]
  exact cR (fun _ h=>by cases h) rfl (by rfl) (by rfl) rfl
 ·replace hw:w.length+(aE oK m.ds).length≤1000000000:=hw
  show kD _ _ _ (nG _ fun r' σ'=>r' = .tup []∧σ'=[(1000,wo 2000 true (w++(aE oK m.ds)) 0),(2000,wa (w++(aE oK m.ds)))])
  simp only [go_sem,aV,dH,bC]
  refine aC (ahG h) rfl ?_
  simp only [go_sem]
  exact cR (fun _ h=>by cases h) rfl (by rfl) (by rfl) rfl
end
section
def bx (q:Nat) (l:List Int):ak:=⟨44,1,[[.ms q 1 0 l.length]],true⟩
def ia (l:List Int):ak:=⟨3,1,l.map ri,false⟩
def oB (b:Bool) (p:Int):List Int:=if b=true then [p] else []
attribute [local go_sem] di d_ aW bx ia
theorem afY (p:Int) (b:Bool) (l:List Int) (hl:l.length≤1000):aX pg nz [.int .i64 p,.bool b,.mp 1000 1 0 0] [(1000,bx 2000 l),(2000,ia l)] sb (fun r' σ'=>r' = .tup []∧σ'=[(1000,bx 2000 (l++oB b p)),(2000,ia (l++oB b p))]):=by
 refine bF iL ?_
 cases b
 ·rw [show l++oB false p=l from mz l]
  simp only [go_sem,iL]
  exact cN [] _ [(1000,bx 2000 l),(2000,ia l)] ⟨rfl,rfl⟩
 ·have hap:zE 2000 3 1 0 l.length [[.int .i64 p]] (some ⟨3,1,l.map ri,false⟩)=some (.ms 2000 1 0 (l++oB true p).length,.reb 2000 ⟨3,1,(l++oB true p).map ri,false⟩):=by
   rw [cZ 2000 3 1 _ ri _ _ rfl,ap ⟨by simp,by omega,.inr (by decide)⟩]
   simp [oB,ri]
  simp only [go_sem,iL,hap]
  exact cN [] _ [(1000,bx 2000 (l++oB true p)),(2000,ia (l++oB true p))] ⟨rfl,rfl⟩
theorem fQ {p:Int} {b:Bool} {l:List Int} {d:Option Nat} {s:St} {K:St→Prop} (hl:l.length≤1000) (h1:ae s.heap 3=some (bx 900 l)) (h2:ae s.heap 900=some (ia l))
  (hK:K (((St.mk (dO [900] s.env) ([(3,bx 900 (l++oB b p)),(900,ia (l++oB b p))]++dP [900] s.heap)).put d (.tup [])))):cT pg nz [.int .i64 p,.bool b,.mp 3 1 0 0] d s K:=by
 refine ew (σ2:=[(3,bx 900 l),(900,ia l)]) (r3:=.tup []) (σ3:=[(3,bx 900 (l++oB b p)),(900,ia (l++oB b p))]) (afY p b l hl) [(1000,3),(2000,900)] [900] rfl rfl rfl rfl ?_ ?_ ?_ hK
 ·simp [h1,h2]
 ·simp [sb,bw,jk,ae]
 ·simp [ae]
theorem oZ (n:Nat) (p:Int):oB (decide ((n:Int)>0)) p=lq (n>0) p:=by
 unfold oB lq
 by_cases h:n>0
 ·rw [ap h,aO (by omega)];rfl
 ·rw [ah h,aQ (by omega)];rfl
theorem af9 (b:Bool) (p:Int):oB b p=lq (b=true) p:=rfl
theorem dK (c:Prop) [Decidable c] (p:Int):(lq c p).length≤1:=by unfold lq;split<;>simp
theorem L9 (m:Md):ao pg yn [dH m] (.sl 1 ((kq m).map ri)):=by
 refine aL px ?_
 rw [rX]
 simp only [go_sem,px,dH,bC]
 refine ⟨by kernel_rfl,?_⟩
 refine ik (FN.new0 _ _ 900 1 3 (by decide) (by simp [go_sem])) ?_
 refine ik (FN.nlm _ _ 3 (t:=44) (st:=1) (r:=[.nl]) (r':=[.ms 900 1 0 0]) (by simp only [go_sem]) ⟨.inr ⟨rfl,.inr ⟨900,1,rfl⟩⟩,trivial⟩) ?_
 refine fQ (l:=[]) (by simp) (by simp only [go_sem]) (by simp only [go_sem]) ?_
 simp only [go_sem,oZ,fh]
 generalize h1:lq (m.ts.length>0) 1=l1
 have g1:l1.length≤1:=by rw [← h1];exact dK _ _
 refine ⟨by kernel_rfl,?_⟩
 refine fQ (l:=l1) (by omega) (by simp only [go_sem]) (by simp only [go_sem]) ?_
 simp only [go_sem,oZ,fh]
 generalize h2:l1++lq (m.ims.length>0) 2=l2
 have g2:l2.length≤2:=by rw [← h2,bE];have:=dK (m.ims.length>0) 2;omega
 refine ⟨by kernel_rfl,?_⟩
 refine fQ (l:=l2) (by omega) (by simp only [go_sem]) (by simp only [go_sem]) ?_
 simp only [go_sem,oZ,fh]
 generalize h3:l2++lq (m.fs.length>0) 3=l3
 have g3:l3.length≤3:=by rw [← h3,bE];have:=dK (m.fs.length>0) 3;omega
 refine ⟨by kernel_rfl,?_⟩
 refine fQ (l:=l3) (by omega) (by simp only [go_sem]) (by simp only [go_sem]) ?_
 simp only [go_sem,oZ,fh]
 generalize h4:l3++lq (m.tbs.length>0) 4=l4
 have g4:l4.length≤4:=by rw [← h4,bE];have:=dK (m.tbs.length>0) 4;omega
 refine ⟨by kernel_rfl,?_⟩
 refine fQ (l:=l4) (by omega) (by simp only [go_sem]) (by simp only [go_sem]) ?_
 simp only [go_sem,oZ,fh]
 generalize h5:l4++lq (m.ms.length>0) 5=l5
 have g5:l5.length≤5:=by rw [← h5,bE];have:=dK (m.ms.length>0) 5;omega
 refine ⟨by kernel_rfl,?_⟩
 refine fQ (l:=l5) (by omega) (by simp only [go_sem]) (by simp only [go_sem]) ?_
 simp only [go_sem,oZ,fh]
 generalize h6:l5++lq (m.gs.length>0) 6=l6
 have g6:l6.length≤6:=by rw [← h6,bE];have:=dK (m.gs.length>0) 6;omega
 refine ⟨by kernel_rfl,?_⟩
 refine fQ (l:=l6) (by omega) (by simp only [go_sem]) (by simp only [go_sem]) ?_
 simp only [go_sem,oZ,fh]
 generalize h7:l6++lq (m.exs.length>0) 7=l7
 have g7:l7.length≤7:=by rw [← h7,bE];have:=dK (m.exs.length>0) 7;omega
 refine ⟨by kernel_rfl,?_⟩
 refine fQ (l:=l7) (by omega) (by simp only [go_sem]) (by simp only [go_sem]) ?_
 simp only [go_sem,af9,fh]
 generalize h8:l7++lq (m.hs=true) 8=l8
 have g8:l8.length≤8:=by rw [← h8,bE];have:=dK (m.hs=true) 8;omega
 refine ⟨by kernel_rfl,?_⟩
 refine fQ (l:=l8) (by omega) (by simp only [go_sem]) (by simp only [go_sem]) ?_
 simp only [go_sem,oZ,fh]
 generalize h9:l8++lq (m.els.length>0) 9=l9
 have g9:l9.length≤9:=by rw [← h9,bE];have:=dK (m.els.length>0) 9;omega
 refine ⟨by kernel_rfl,?_⟩
 refine fQ (l:=l9) (by omega) (by simp only [go_sem]) (by simp only [go_sem]) ?_
 simp only [go_sem,oZ,fh]
 generalize h10:l9++lq (m.ds.length>0) 10=l10
 have g10:l10.length≤10:=by rw [← h10,bE];have:=dK (m.ds.length>0) 10;omega
 refine ⟨by kernel_rfl,?_⟩
 refine fQ (l:=l10) (by omega) (by simp only [go_sem]) (by simp only [go_sem]) ?_
 simp only [go_sem,oZ,fh]
 generalize h11:l10++lq (m.fs.length>0) 11=l11
 have g11:l11.length≤11:=by rw [← h11,bE];have:=dK (m.fs.length>0) 11;omega
 refine ⟨by kernel_rfl,?_⟩
 refine fQ (l:=l11) (by omega) (by simp only [go_sem]) (by simp only [go_sem]) ?_
 simp only [go_sem,oZ,fh]
 generalize h12:l11++lq (m.ds.length>0) 12=l12
 have g12:l12.length≤12:=by rw [← h12,bE];have:=dK (m.ds.length>0) 12;omega
 exact aJ [900] (by simp only [go_sem,bt];rw [fL (by simp)]) rfl
end
section
def JS (ks:List Int):List (AV×AV):=ks.map fun p=>(AV.int .i64 p,AV.bool true)
theorem D1 (n:Int):∀ks:List Int,(n∉ks∧jI .i (.int .i64 n) (JS ks)=some none)∨(n∈ks∧∃i p,jI .i (.int .i64 n) (JS ks)=some (some i)∧(JS ks)[i]? = some (p,.bool true))
 | []=>.inl ⟨by simp,rfl⟩
 | k :: ks=>by
  by_cases h:n=k
  ·subst h
   refine .inr ⟨by simp,0,_,?_,rfl⟩
   simp [JS,jI,Hn]
  ·have e:jI .i (.int .i64 n) (JS (k :: ks))=(jI .i (.int .i64 n) (JS ks)).map fun q=>q.map (· + 1):=by
    have hb:(n==k)=false:=by simpa using h
    simp [JS,jI,Hn,hb]
   rcases D1 n ks with ⟨h1,h2⟩ | ⟨h1,i,p,h2,h3⟩
   ·exact .inl ⟨by simp [h,h1],by rw [e,h2];rfl⟩
   ·exact .inr ⟨by simp [h1],i+1,p,by rw [e,h2];rfl,by simpa [JS] using h3⟩
theorem YW {n:Int} {ks:List Int} (h:n∉ks):KT .i (.int .i64 n) (.bool true) (JS ks)=some (JS (ks++[n])):=by
 unfold KT
 rcases D1 n ks with ⟨_,h2⟩ | ⟨h1,_⟩
 ·rw [h2];simp [JS]
 ·exact absurd h1 h
theorem Tm (K:AV→bq→Prop) (n:Int) (ks:List Int):lkS K false (.bool false) (JS ks) (jI .i (.int .i64 n) (JS ks))=K (.bool (decide (n∈ks))) .no:=by
 rcases D1 n ks with ⟨h1,h2⟩ | ⟨h1,i,p,h2,h3⟩
 ·rw [h2,aQ h1];rfl
 ·rw [h2,aO h1]
  simp [lkS,h3]
theorem yG (m:Md):(kq m).length≤12:=by
 rw [rX]
 simp only [bE]
 have:=dK (m.ts.length>0) 1
 have:=dK (m.ims.length>0) 2
 have:=dK (m.fs.length>0) 3
 have:=dK (m.tbs.length>0) 4
 have:=dK (m.ms.length>0) 5
 have:=dK (m.gs.length>0) 6
 have:=dK (m.exs.length>0) 7
 have:=dK (m.hs=true) 8
 have:=dK (m.els.length>0) 9
 have:=dK (m.ds.length>0) 10
 have:=dK (m.fs.length>0) 11
 have:=dK (m.ds.length>0) 12
 omega
attribute [local go_sem] di d_ aW bC fp
theorem PM {m:Md} (hc:m.cs.length≤9223372036854775807):ao pg z7 [dH m] (.bool (E0 m)):=by
 refine aL qw ?_
 have c:=L9 m
 have hpw:=yH m
 unfold E0
 simp only [dH,bC] at c
 have hpl:=yG m
 generalize kq m=ps at *
 have h0:JS [0]=[(AV.int .i64 0,AV.bool true)]:=rfl
 have hf0:KT .i (.int .i64 0) (.bool true) []=some (JS [0]):=rfl
 simp only [go_sem,qw,dH]
 refine ⟨rfl,rfl,_,hf0,?_⟩
 refine aa (c) ?_
 refine aw (fun i:Nat=>⟨[(14,.int .i64 i),(13,.int .i64 ps.length),(12,.sl 1 (ps.map ri)),(3,.mm 9 true),(1,.mp 1 12 0 0)],[(9,@ak.mk 0 0 [] false (.mp (JS (0 :: ps.take i)))),(1,⟨33,12,[[.sl 2 (m.ts.map rK),.sl 13 (m.ims.map tg),.sl 3 (m.fs.map qf),.sl 4 (m.tbs.map xR),.sl 3 (m.ms.map ry),.sl 3 (m.gs.map yd),.sl 3 (m.exs.map xN),.bool m.hs,.int .i64 m.st,.sl 5 (m.els.map gP),.sl 4 (m.ds.map lO),.sl 3 (m.cs.map zK)]],true⟩)]⟩) (fun i=>i≤ps.length) (fun i=>ps.length - i) 0 (cX _) (Wk.of ?_ ?_) ?_
 ·simp only [go_sem];try simp
 ·simp only [go_sem,oa];try simp [go_sem]
 intro i hi2
 by_cases q1:(i:Int)<(ps.length:Int)
 ·have hi':i<ps.length:=by omega
  have e8:=dz hi' (by omega)
  have hn:ac ps i∉0 :: ps.take i:=by
   rw [List.pairwise_cons] at hpw
   have e:ps=ps.take i++ps.drop i:=(List.take_append_drop _ _).symm
   have hd:ac ps i∈ps.drop i:=by rw [xg hi'];simp
   have hp2:=hpw.2
   rw [e,List.pairwise_append] at hp2
   intro hm
   rcases dc.1 hm with q | q
   ·have:=hpw.1 _ (List.mem_of_mem_drop hd);omega
   ·have:=hp2.2.2 _ q _ hd;omega
  have hput:=YW hn
  have hnx:0 :: ps.take i++[ac ps i]=0 :: ps.take (i+1):=by rw [xJ hi'];rfl
  rw [hnx] at hput
  simp only [go_sem,aO q1]
  refine ⟨by omega,q1,rfl,rfl,_,hput,?_⟩
  refine aG (i+1) (show i+1≤ps.length by omega) (show ps.length - (i+1)<ps.length - i by omega) (Wk.of ?_ ?_)
  ·simp only [go_sem,e8];try simp
  ·simp only [go_sem];try simp [go_sem]
 obtain rfl:i=ps.length:=by omega
 rw [kC]
 simp only [go_sem,aQ q1]
 clear q1 hi2
 have hin:∀a:Int,decide (a∈0 :: ps)=decide (a=0∨a∈ps):=fun a=>by simp
 refine aw (fun q:Nat×Int=>⟨[(24,.int .i64 q.1),(23,.int .i64 m.cs.length),(22,.sl 3 (m.cs.map zK)),(6,.int .i64 q.2),(3,.mm 9 true)],[(9,@ak.mk 0 0 [] false (.mp (JS (0 :: ps))))]⟩) (fun q=>q.1≤m.cs.length∧Cj ps q.2 (m.cs.drop q.1)=Cj ps 0 m.cs) (fun q=>m.cs.length - q.1) (0,0) ⟨cX _,rfl⟩ (Wk.of ?_ ?_) ?_
 ·simp only [go_sem];try simp
 ·simp only [go_sem];try simp [go_sem]
 rintro ⟨i,l⟩ ⟨hi2,ho⟩
 simp only at hi2 ho
 by_cases q1:(i:Int)<(m.cs.length:Int)
 rotate_left
 ·rw [List.drop_eq_nil_of_le (by omega),Cj] at ho
  rw [← ho]
  simp only [go_sem,aQ q1]
  exact aj
 have hi':i<m.cs.length:=by omega
 have e8:=dz hi' (by omega)
 rw [xg hi',Cj] at ho
 by_cases q2:(ac m.cs i).af<l
 ·rw [aO q2,eC,dh,rh] at ho
  rw [← ho]
  simp only [go_sem,aO q1,aO q2]
  refine ⟨by omega,q1,?_⟩
  exact aj
 by_cases q3:(ac m.cs i).af=0∨(ac m.cs i).af∈ps
 ·rw [aQ q2,aO q3] at ho
  simp only [dh,Bool.or_self,cD,bU] at ho
  simp only [go_sem,aO q1,aQ q2,Tm,hin,aO q3]
  refine ⟨by omega,q1,?_⟩
  refine aG (i+1,(ac m.cs i).af) ⟨show i+1≤m.cs.length by omega,ho⟩ (show m.cs.length - (i+1)<m.cs.length - i by omega) (Wk.of ?_ ?_)
  ·simp only [go_sem,e8];try simp
  ·simp only [go_sem];try simp [go_sem]
 ·rw [aQ q2,aQ q3] at ho
  simp only [cD,Bool.or_true,dh,rh] at ho
  rw [← ho]
  simp only [go_sem,aO q1,aQ q2,Tm,hin,aQ q3]
  refine ⟨by omega,q1,?_⟩
  exact aj
end
end Go.Proofs.YtdfofedlbljnhaaGreatDoor