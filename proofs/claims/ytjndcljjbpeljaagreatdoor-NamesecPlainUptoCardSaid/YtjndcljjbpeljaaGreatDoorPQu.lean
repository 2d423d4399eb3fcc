import Derived.Test.YtjndcljjbpeljaaGreatDoorPQt
set_option linter.all false
set_option maxRecDepth 100000
set_option maxHeartbeats 40000000
namespace Go.Proofs.YtjndcljjbpeljaaGreatDoor
open Go Go.Mw
theorem Tv {s:jS} {r:List jS} {last:Int} {w:List UInt8} (h0:s.id=0) (hu:uv s.name=true) (hn:s.name.length≤64) (hl:0≤last):vS (s :: r) last w=vS r last (w++pk s):=by
 have e:tg s last=0:=by
  unfold tg
  rw [aD (by rw [h0];omega),aD (by rw [h0];omega),aK h0,aD (by rw [hu];decide),aD (by omega)]
 have p:max last (mW s.id)=last:=by rw [h0,show mW 0=0 from rfl];omega
 rw [vS,aD (by rw [e];decide),p]
theorem wO:∀(C R:List jS) (last:Int) (w:List UInt8),(∀s∈C,s.id=0∧uv s.name=true∧s.name.length≤64)→0≤last→∃w',vS (C++R) last w=vS R last w'
 | [],R,last,w,_,_=>⟨w,rfl⟩
 | s :: C,R,last,w,h,hl=>by
  obtain ⟨h1,h2,h3⟩:=h s (by simp)
  rw [kM,Tv h1 h2 h3 hl]
  exact wO C R last _ (fun x hx=>h x (by simp [hx])) hl
theorem yo {m:Md} (hc:∀p,∀s∈qx m p,s.id=0∧uv s.name=true∧s.name.length≤64):∀(l:List Int) (last:Int) (w:List UInt8),0≤last→(last :: l).Pairwise (· < ·)→(∀p∈l,p≤12)→(vS (k8 m l) last w).1=0
 | [],last,w,_,_,_=>rfl
 | p :: l,last,w,h0,hp,hm=>by
  rw [List.pairwise_cons] at hp
  have h1:=hp.1 p (by simp)
  obtain ⟨a1,a2⟩:=yM (p:=p) ⟨by omega,hm p (by simp)⟩
  have a3:oZ p≤12:=by unfold oZ;repeat' split<;>omega
  have e:tg ⟨oZ p,[],some (dg m p)⟩ last=0:=by
   unfold tg
   rw [aD (by simp;omega),aD (by simp only [a1];omega),aD (by simp only;omega)]
  rw [k8,vS,aD (by rw [e];decide)]
  simp only [a1]
  obtain ⟨w',hw⟩:=wO (qx m p) (k8 m l) (max last p) (w++pk ⟨oZ p,[],some (dg m p)⟩) (hc p) (by omega)
  rw [hw,show max last p=p by omega]
  exact yo hc l p w' (by omega) hp.2 (fun q hq=>hm q (by simp [hq]))
theorem O6 {s:List UInt8} (h:fk s=0):uv s=true∧s.length≤64:=by
 unfold fk at h
 by_cases h1:s.length>64
 ·rw [aK h1] at h;cases h
 rw [aD h1] at h
 by_cases h2:uv s=false
 ·rw [aK h2] at h;cases h
 ·exact ⟨by simpa using h2,by omega⟩
theorem NM {x:Cu} (h:uD x=0):fk x.n=0∧x.b.length≤4096∧0≤x.af∧x.af≤12:=by
 unfold uD at h
 by_cases h1:fk x.n≠0
 ·rw [aK h1] at h;exact absurd h h1
 rw [aD h1] at h
 by_cases h2:x.b.length>4096
 ·rw [aK h2] at h;cases h
 rw [aD h2] at h
 by_cases h3:x.af<0∨x.af>12
 ·rw [aK h3] at h;cases h
 exact ⟨Classical.not_not.1 h1,by omega,by omega,by omega⟩
theorem OB {m:Md} (h:yI mD m):(I_ (AJ m)).1=0:=by
 have hc:∀p,∀s∈qx m p,s.id=0∧uv s.name=true∧s.name.length≤64:=fun p s hs=>by
  obtain ⟨c,hc,rfl⟩:=List.mem_map.1 hs
  have:=O6 (NM (h.cs.2 c (List.mem_filter.1 hc).1)).1
  exact ⟨rfl,this.1,this.2⟩
 unfold I_ AJ
 obtain ⟨w,hw⟩:=wO (qx m 0) (k8 m (jI m)) 0 ID (hc 0) (Int.le_refl _)
 rw [hw]
 exact yo hc _ _ _ (Int.le_refl _) (JU m) fun p hp=>(tA m p hp).2
theorem Ik {m:Md} (hs:oN m):(fA m).1=0→yI mD m∧ol m=true∧qP m=true:=by
 intro h
 unfold fA at h
 by_cases h1:(pG mD m).c≠0
 ·rw [aK h1] at h;exact absurd h h1
 rw [aD h1] at h
 by_cases h2:ol m=false
 ·rw [aK h2] at h;cases h
 rw [aD h2] at h
 by_cases h3:qP m=false
 ·rw [aK h3] at h;cases h
 exact ⟨(EH hs).1 (Classical.not_not.1 h1),by simpa using h2,by simpa using h3⟩
theorem N2 {m:Md} (hs:oN m) (h1:yI mD m) (h2:ol m=true) (h3:qP m=true):(fA m).1=0∨fA m=(6,[]):=by
 have h:fA m=th (AJ m):=by
  unfold fA
  rw [aD (by rw [(EH hs).2 h1];decide),aD (by rw [h2];decide),aD (by rw [h3];decide)]
 rw [h]
 unfold th
 split
 ·exact .inr rfl
 ·exact .inl (OB h1)
theorem pY {ps:List Int} (f:Cu→Bool):∀(cs:List Cu) (l l':Int),l'≤l→jH ps l cs=true→jH ps l' (cs.filter f)=true
 | [],_,_,_,_=>rfl
 | c :: cs,l,l',hl,h=>by
  rw [jH,bY,lg,Bool.or_eq_false_iff,decide_eq_false_iff_not] at h
  obtain ⟨⟨h1,h2⟩,h3⟩:=h
  rw [List.filter_cons]
  split
  ·rw [jH,pY f cs c.af c.af (Int.le_refl _) h3,h2,aG (by omega)];rfl
  ·exact pY f cs c.af l' (by omega) h3
theorem r8 {ps:List Int} {c:Cu} (hc:c.af=0∨c.af∈ps):∀(cs:List Cu) (l:Int),l≤c.af→(∀x∈cs,x.af≤c.af)→jH ps l cs=true→jH ps l (cs++[c])=true
 | [],l,hl,_,_=>by
  rw [kK,jH,aG (by omega),aF hc];rfl
 | x :: cs,l,hl,hm,h=>by
  rw [jH,bY] at h
  rw [kM,jH,h.1,r8 hc cs x.af (hm x (by simp)) (fun y hy=>hm y (by simp [hy])) h.2];rfl
theorem yK {ps:List Int}:∀(cs:List Cu) (l:Int),jH ps l cs=true→∀c∈cs,c.af=0∨c.af∈ps
 | [],_,_,_,hc=>by cases hc
 | x :: cs,l,h,c,hc=>by
  rw [jH,bY,lg,Bool.or_eq_false_iff,Bool.not_eq_false',cP] at h
  rcases eH.1 hc with rfl | hc
  ·exact h.1.2
  ·exact yK cs x.af h.2 c hc
theorem EI:∀(l:List (Bool×Int)),(∀p∈l,0≤p.2)→l.Pairwise (fun a b=>b.2≤a.2)→(qL l=0∨∃p∈l,p.1=true∧qL l=p.2)∧∀p∈l,p.1=true→p.2≤qL l
 | [],_,_=>⟨.inl rfl,fun p hp=>by cases hp⟩
 | x :: l,h0,hp=>by
  rw [List.pairwise_cons] at hp
  obtain ⟨i1,i2⟩:=EI l (fun p q=>h0 p (by simp [q])) hp.2
  rw [qL]
  cases hx:x.1
  ·simp only [gK,dc]
   refine ⟨?_,fun p q r=>?_⟩
   ·rcases i1 with i | ⟨p,q,r⟩
    ·exact .inl i
    ·exact .inr ⟨p,by simp [q],r⟩
   ·rcases eH.1 q with rfl | q
    ·rw [hx] at r;cases r
    ·exact i2 p q r
  ·simp only [bF]
   refine ⟨.inr ⟨x,by simp,hx,rfl⟩,fun p q r=>?_⟩
   rcases eH.1 q with rfl | q
   ·exact Int.le_refl _
   ·exact hp.1 p q
theorem OP (m:Md):(jW m=0∨jW m∈jI m)∧0≤jW m∧jW m≤12∧∀p∈jI m,p≤jW m:=by
 have h0:∀p∈nn m,0≤p.2∧p.2≤12:=fun p hp=>by
  simp only [nn,eH,List.not_mem_nil,or_false] at hp
  rcases hp with rfl | rfl | rfl | rfl | rfl | rfl | rfl | rfl | rfl | rfl<;>simp only<;>omega
 have hpw:(nn m).Pairwise (fun a b=>b.2≤a.2):=by
  unfold nn
  simp [List.pairwise_cons]
 have hin:∀p∈nn m,p.1=true→p.2∈jI m:=fun p hp q=>by
  rw [lR]
  simp only [nn,eH,List.not_mem_nil,or_false] at hp
  rcases hp with rfl | rfl | rfl | rfl | rfl | rfl | rfl | rfl | rfl | rfl<;>simp only [cP] at q<;>simp only [ef,oH]<;>simp<;>omega
 obtain ⟨l1,l2⟩:=EI (nn m) (fun p q=>(h0 p q).1) hpw
 have l1:jW m=0∨∃p∈nn m,p.1=true∧jW m=p.2:=l1
 have l2:∀p∈nn m,p.1=true→p.2≤jW m:=l2
 refine ⟨?_,?_,?_,fun p hp=>?_⟩
 ·rcases l1 with h | ⟨p,q,r,s⟩
  ·exact .inl h
  ·rw [s];exact .inr (hin p q r)
 ·rcases l1 with h | ⟨p,q,r,s⟩
  ·omega
  ·rw [s];exact (h0 p q).1
 ·rcases l1 with h | ⟨p,q,r,s⟩
  ·omega
  ·rw [s];exact (h0 p q).2
 ·rw [lR] at hp
  simp only [ef,yJ] at hp
  rcases hp with (((((((((((h | h) | h) | h) | h) | h) | h) | h) | h) | h) | h) | h)
  ·have q:=l2 ((decide ((m.ts.length:Int)>0)),1) (by unfold nn;simp) (by have:=h.1;simp only [cP];omega)
   have:=h.2
   simp only at q
   omega
  ·have q:=l2 ((decide ((m.ims.length:Int)>0)),2) (by unfold nn;simp) (by have:=h.1;simp only [cP];omega)
   have:=h.2
   simp only at q
   omega
  ·have q:=l2 ((decide ((m.fs.length:Int)>0)),11) (by unfold nn;simp) (by have:=h.1;simp only [cP];omega)
   have:=h.2
   simp only at q
   omega
  ·have q:=l2 ((decide ((m.tbs.length:Int)>0)),4) (by unfold nn;simp) (by have:=h.1;simp only [cP];omega)
   have:=h.2
   simp only at q
   omega
  ·have q:=l2 ((decide ((m.ms.length:Int)>0)),5) (by unfold nn;simp) (by have:=h.1;simp only [cP];omega)
   have:=h.2
   simp only at q
   omega
  ·have q:=l2 ((decide ((m.gs.length:Int)>0)),6) (by unfold nn;simp) (by have:=h.1;simp only [cP];omega)
   have:=h.2
   simp only at q
   omega
  ·have q:=l2 ((decide ((m.exs.length:Int)>0)),7) (by unfold nn;simp) (by have:=h.1;simp only [cP];omega)
   have:=h.2
   simp only at q
   omega
  ·have q:=l2 (m.hs,8) (by unfold nn;simp) (by have:=h.1;simp only [cP];exact this)
   have:=h.2
   simp only at q
   omega
  ·have q:=l2 ((decide ((m.els.length:Int)>0)),9) (by unfold nn;simp) (by have:=h.1;simp only [cP];omega)
   have:=h.2
   simp only at q
   omega
  ·have q:=l2 ((decide ((m.ds.length:Int)>0)),12) (by unfold nn;simp) (by have:=h.1;simp only [cP];omega)
   have:=h.2
   simp only at q
   omega
  ·have q:=l2 ((decide ((m.fs.length:Int)>0)),11) (by unfold nn;simp) (by have:=h.1;simp only [cP];omega)
   have:=h.2
   simp only at q
   omega
  ·have q:=l2 ((decide ((m.ds.length:Int)>0)),12) (by unfold nn;simp) (by have:=h.1;simp only [cP];omega)
   have:=h.2
   simp only at q
   omega
theorem KQ {m:Md} (h1:yI mD m) (h2:ol m=true) (h3:qP m=true) (n:Ns) (h:(cX m n).2=0):yI mD (cX m n).1∧ol (cX m n).1=true∧qP (cX m n).1=true:=by
 have hfl:=sZ m.cs
 have hfm:∀c∈kZ m.cs,c∈m.cs:=fun c hc=>(List.mem_filter.1 hc).1
 have ho:jH (jI m) 0 (kZ m.cs)=true:=pY _ m.cs 0 0 (Int.le_refl _) h3
 unfold cX at h ⊢
 by_cases e1:(eL n).2≠0
 ·rw [aK e1] at h;exact absurd h e1
 rw [aD e1] at h ⊢
 by_cases e2:(eL n).1.length=0
 ·rw [aK e2]
  exact ⟨⟨h1.ts,h1.ims,h1.fs,h1.tbs,h1.ms,h1.gs,h1.exs,h1.st,h1.els,h1.ds,⟨by have:=h1.cs.1;simp only;omega,fun c hc=>h1.cs.2 c (hfm c hc)⟩,h1.bo⟩,h2,ho⟩
 rw [aD e2] at h ⊢
 by_cases e3:(eL n).1.length>4096∨(kZ m.cs).length≥8
 ·rw [aK e3] at h;cases h
 rw [aD e3]
 obtain ⟨s1,s2,s3,s4⟩:=OP m
 have hle:∀x∈kZ m.cs,x.af≤jW m:=fun x hx=>by
  rcases yK m.cs 0 h3 x (hfm x hx) with q | q
  ·omega
  ·exact s4 _ q
 refine ⟨⟨h1.ts,h1.ims,h1.fs,h1.tbs,h1.ms,h1.gs,h1.exs,h1.st,h1.els,h1.ds,⟨by simp only [aJ,jP];omega,fun c hc=>?_⟩,h1.bo⟩,h2,r8 s1 (kZ m.cs) 0 s2 hle ho⟩
 rcases ef.1 hc with q | q
 ·exact h1.cs.2 c (hfm c q)
 ·simp only [ow] at q
  subst q
  unfold uD
  simp only
  rw [aD (by simp [show fk Bd=0 by decide +kernel]),aD (by omega),aD (by omega)]
theorem ya (l:List Cu):kZ (kZ l)=kZ l:=by
 unfold kZ
 rw [List.filter_filter]
 simp
theorem N6 (l:List Cu) (a:Int) (b:List UInt8):kZ (kZ l++[⟨a,Bd,b⟩])=kZ l:=by
 have:=ya l
 unfold kZ at this ⊢
 rw [List.filter_append,this]
 simp
theorem Il:eL default=([],0):=by decide +kernel
theorem tT (m:Md):cX m default=({ m with cs:=kZ m.cs },0):=by
 simp [cX,Il]
theorem A9 (m:Md) (n:Ns) (h:(cX m n).2=0):cX (cX m n).1 default=cX m default:=by
 rw [tT,tT]
 unfold cX at h ⊢
 by_cases e1:(eL n).2≠0
 ·rw [aK e1] at h;exact absurd h e1
 rw [aD e1] at h ⊢
 by_cases e2:(eL n).1.length=0
 ·rw [aK e2]
  simp only [ya]
 rw [aD e2] at h ⊢
 by_cases e3:(eL n).1.length>4096∨(kZ m.cs).length≥8
 ·rw [aK e3] at h;cases h
 rw [aD e3]
 simp only [N6]
theorem ye:∀(l:List El) (k:Nat) (a:Int),l.length≤k→(∀x∈l,x.it.length≤256)→0≤a→GL l k a≤500→a+(kI (fun x:El=>x.it.length) l:Nat)≤500
 | [],k,a,_,_,_,h=>by
  have h:a≤500:=by cases k<;>exact h
  simp [kI]
  omega
 | x :: r,0,a,hk,_,_,_=>by simp at hk
 | x :: r,k+1,a,hk,hl,h0,h=>by
  rw [aQ] at hk
  have hx:=hl x (by simp)
  rw [GL] at h
  by_cases q:a≤500
  ·rw [aK q,wi (by omega) (by omega)] at h
   have:=ye r k (a+(x.it.length:Int)) (by omega) (fun y hy=>hl y (by simp [hy])) (by omega) h
   rw [qm]
   omega
  ·rw [aD q] at h
   exact absurd h q
theorem zb {α:Type} (g:α→Nat) (c d:Nat) (k:α→Nat):∀l:List α,(∀x∈l,k x≤c+d * g x)→kI k l≤c * l.length+d * kI g l
 | [],_=>by simp [kI]
 | x :: l,h=>by
  have h1:=zb g c d k l fun y hy=>h y (by simp [hy])
  have h2:=h x (by simp)
  rw [qm,qm,aQ,Nat.mul_add,Nat.mul_add]
  omega
theorem x8 {m:Md} (h:yI mD m) (hf:DM m=true):nI m≤1290000:=by
 have hfs:=h.fs.1
 have hgs:=h.gs.1
 have hel:=h.els.1
 have hds:=h.ds.1
 have a1:=qn (g:=fun x:Cd=>x.b.length) (c:=2048) m.fs fun x hx=>(h.bo x hx).1
 have a2:=qn (g:=fun x:Gd=>x.i.length) (c:=2048) m.gs fun x hx=>(h.gs.2 x hx).2.1
 have a4:=qn (g:=fun x:Da=>x.o.length) (c:=2048) m.ds fun x hx=>(h.ds.2 x hx).2.2.2.1
 have a3:=zb (fun x:El=>x.it.length) 2048 2048 QJ m.els fun x hx=>by
  have h1:=(h.els.2 x hx).2.1.1
  have h2:=qn (g:=List.length) (c:=2048) x.it fun l hl=>((h.els.2 x hx).2.2 l hl).1
  unfold QJ
  omega
 unfold DM at hf
 simp only [bY,cP] at hf
 have a5:=ye m.els 100 0 (by omega) (fun x hx=>(sV (h.els.2 x hx).1).2.2.2.2) (Int.le_refl _) (by omega)
 unfold nI
 omega
theorem GD {m:Md} (h:AB m) (n:Ns):AB (cX m n).1:=by
 have h0:AB default:=⟨fun x h=>absurd h List.not_mem_nil,fun x h=>absurd h List.not_mem_nil,fun x h=>absurd h List.not_mem_nil,fun x h=>absurd h List.not_mem_nil⟩
 unfold cX
 split
 ·exact h0
 split
 ·exact h
 split
 ·exact h0
 ·exact h
section
variable {b:List UInt8} {a:Nat} (ha:a≤b.length) (hb:b.length<1000000000)
include ha hb
def exs (l:List bz):AV:=.sl 9 (l.map bG)
end
section
abbrev PS (α:Type):=Nat→Int→α×Nat×Int
def Oks {α:Type} (b:List UInt8) (t:PS α) (g:Nat→Rd α):Prop:=∀a e,a≤b.length→(t a e).2.1≤b.length∧(e≠0→(t a e).2=(a,e)) ∧
 (e=0→(∃x k,g a = .ok (x,k)∧t a e=(x,k,0))∨∃e' k,g a = .error (e',k)∧e'≠0∧(t a e).2=(k,e'))
def pb {α β:Type} (t:PS α) (u:α→PS β):PS β:=fun a e=>u (t a e).1 (t a e).2.1 (t a e).2.2
def pP {α:Type} (x:α):PS α:=fun a e=>(x,a,e)
def pF {α:Type} (c:Int) (x:α):PS α:=fun a e=>(x,a,if e=0 then c else e)
def pI {α:Type} (c:Prop) [Decidable c] (t u:PS α):PS α:=fun a e=>if c then t a e else u a e
def pFi (c:Int) (p:Prop) [Decidable p]:PS Unit:=pI p (pF c ()) (pP ())
def pC (b:List UInt8) (most:Int):PS Nat:=fun a e=>bH (e==0) b a e most
def toP {α:Type} (g:Nat→Rd α) (d:α):PS α:=fun a e=>if e=0 then (match g a with
 | .ok (x,k)=>(x,k,0)
 | .error (e',k)=>(d,k,e')) else (d,a,e)
def Wel {α:Type} (b:List UInt8) (g:Nat→Rd α):Prop:=∀a,a≤b.length→(∀x k,g a = .ok (x,k)→k≤b.length)∧∀e k,g a = .error (e,k)→e≠0∧k≤b.length
variable {b:List UInt8}
def pN {α:Type} (one:PS α):Nat→PS (List α)
 | 0=>pP []
 | n+1=>fun a e=>if e=0 then pb one (fun x=>pb (pN one n) fun l=>pP (x :: l)) a e else ([],a,e)
def pL {α:Type} (b:List UInt8) (one:PS α) (most:Int):PS (List α):=pb (pC b most) (pN one)
end
section
def aaw {α:Type} (L:Nat) (r:Rd α):Prop:=(∀x k,r = .ok (x,k)→k≤L)∧∀e k,r = .error (e,k)→e≠0∧k≤L
variable {b:List UInt8} {a:Nat}
end
section
def RP {α:Type} (f:FuncId) (rest:List AV) (b:List UInt8) (t:PS α) (av:α→AV):Prop :=
 ∀(a:Nat) (e:Int),a≤b.length→RM f rest true b a e (av (t a e).1) (t a e).2.1 (t a e).2.2
variable {b:List UInt8} (hb:b.length<1000000000)
include hb
omit hb in
omit hb in
omit hb in
theorem u1:((((1:UInt8).toNat:Nat):Int)==1)=true:=rfl
omit hb in
theorem d0:decide ((((0:UInt8).toNat:Nat):Int)>1)=false:=rfl
omit hb in
theorem d1:decide ((((1:UInt8).toNat:Nat):Int)>1)=false:=rfl
omit hb in
end
section
def tb0:Tb:=⟨0,⟨0,0,false⟩⟩
variable {b:List UInt8} (hb:b.length<1000000000)
include hb
end
section
variable {b:List UInt8} (hb:b.length<1000000000)
include hb
attribute [local go_sem] cY ro wa
end
section
def pM {α:Type} (one:PS α):Nat→PS (List α)
 | 0=>pP []
 | n+1=>pb one fun x=>pb (pM one n) fun l=>pP (x :: l)
variable {b:List UInt8} (hb:b.length<1000000000)
include hb
omit hb in
omit hb in
omit hb in
end
section
variable {b:List UInt8} (hb:b.length<1000000000)
include hb
omit hb in
omit hb in
end
section
variable {b:List UInt8} (hb:b.length<1000000000)
include hb
end
section
variable {b:List UInt8} (hb:b.length<1000000000)
include hb
end
end Go.Proofs.YtjndcljjbpeljaaGreatDoor