import Derived.Test.YtjndcljjbpeljaaGreatDoorPQq
set_option linter.all false
set_option maxRecDepth 100000
set_option maxHeartbeats 40000000
namespace Go.Proofs.YtjndcljjbpeljaaGreatDoor
open Go Go.Mw
section
theorem yz (o:Option (List UInt8)):nla (FW o) (.sl 1 ((gb o).map dJ)):=by
 cases o
 ·exact .inr (.inl ⟨rfl,1,rfl⟩)
 ·exact .inl rfl
theorem gA (e:Int):nla (.agg [.nl,.int .i64 e]) (wx [] e):=.inr (.inr ⟨_,_,rfl,rfl,.inr ⟨rfl,1,rfl⟩,.inl rfl,trivial⟩)
theorem Ez {s:jS} {last:Int} (h:s.id<0∨s.id>12∨(s.id≠0∧s.name≠[])):tg s last=4:=by rw [tg,aK h]
theorem Tx {s:jS} {last:Int} (h:1≤s.id∧s.id≤12) (hn:s.name=[]) (hp:mW s.id≤last):tg s last=7:=by
 rw [tg,aD (by rw [hn];simp;omega),aK ⟨by omega,hp⟩]
theorem OA {s:jS} {last:Int} (h:1≤s.id∧s.id≤12) (hn:s.name=[]) (hp:¬mW s.id≤last):tg s last=0:=by
 rw [tg,aD (by rw [hn];simp;omega),aD (fun h=>hp h.2),aD (by omega)]
theorem Tw {s:jS} {last:Int} (h:s.id=0):tg s last=(wN true [] 0 s.name).2∧((wN true [] 0 s.name).2=0→(wN true [] 0 s.name).1=aA s.name.length++s.name):=by
 rw [tg,aD (by rw [h];simp),aD (fun h2=>h2.1 h),aK h]
 unfold wN
 simp only [bF]
 split
 ·exact ⟨rfl,fun h=>absurd h (by decide)⟩
 split
 ·exact ⟨rfl,fun h=>absurd h (by decide)⟩
 ·exact ⟨rfl,fun _=>by simp⟩
theorem I9 {l:List jS} {i:Nat} {last:Int} {w:List UInt8} (hi:i<l.length) (h:tg (ah l i) last≠0):vS (l.drop i) last w=(tg (ah l i) last,[]):=by
 rw [kP hi,vS,aK h]
theorem uY {l:List jS} {i:Nat} {last:Int} {w:List UInt8} (hi:i<l.length) (h:tg (ah l i) last=0):vS (l.drop i) last w=vS (l.drop (i+1)) (max last (mW (ah l i).id)) (w++pk (ah l i)):=by
 rw [kP hi,vS,aD (by rw [h];simp)]
theorem IJ (s:jS):(wL s).length≤(gb s.bs).length+s.name.length+(aA s.name.length).length:=by
 unfold wL
 split
 ·simp only [aJ];omega
 ·omega
attribute [local go_sem] wx
end
def nrm (s:jS):jS:=⟨s.id,s.name,some (gb s.bs)⟩
def oh (cs:List Cu) (p:Int):List Cu:=cs.filter fun c=>c.af==p
def qx (m:Md) (p:Int):List jS:=(oh m.cs p).map fun c=>⟨0,c.n,some c.b⟩
def k8 (m:Md):List Int→List jS
 | []=>[]
 | p :: l=>⟨oZ p,[],some (dg m p)⟩ :: (qx m p++k8 m l)
def AJ (m:Md):List jS:=qx m 0++k8 m (jI m)
def th (l:List jS):Int×List UInt8:=if (I_ l).1=0∧(I_ l).2.length>262144 then (6,[]) else I_ l
def ol (m:Md):Bool:=m.fs.all (fun x=>(nchk x.b).2==0)&&m.gs.all (fun x=>(nchk x.i).2==0)&&m.els.all (fun x=>(x.mo != 0||(nchk x.o).2==0)&&x.it.all fun l=>(nchk l).2==0)&&m.ds.all (fun x=>x.mo != 0||(nchk x.o).2==0)
def jH (ps:List Int):Int→List Cu→Bool
 | _,[]=>true
 | l,c :: r=>!(decide (c.af<l) || !(decide (c.af=0∨c.af∈ps)))&&jH ps c.af r
def qP (m:Md):Bool:=jH (jI m) 0 m.cs
def fA (m:Md):Int×List UInt8 :=
 if (pG mD m).c≠0 then ((pG mD m).c,[]) else if ol m=false then (16,[]) else if qP m=false then (7,[]) else th (AJ m)
structure QY (m:Md):Prop where
 lim:yI mD m
 nes:ol m=true
 ord:qP m=true
 num:(∀x∈m.fs,vj x.b)∧(∀x∈m.gs,vj x.i)∧(∀x∈m.els,vj x.o∧∀l∈x.it,vj l)∧∀x∈m.ds,vj x.o
theorem jf {l:List bz} (h:((nchk l).2==0)=true):n7 l:=(Aw l).1 (by simpa using h)
theorem Jt {m:Md} (h:ol m=true):(∀x∈m.fs,n7 x.b)∧(∀x∈m.gs,n7 x.i)∧(∀x∈m.els,(x.mo=0→n7 x.o)∧∀l∈x.it,n7 l)∧∀x∈m.ds,x.mo=0→n7 x.o:=by
 unfold ol at h
 simp only [bY,ee] at h
 obtain ⟨⟨⟨h1,h2⟩,h3⟩,h4⟩:=h
 refine ⟨fun x hx=>jf (h1 x hx),fun x hx=>jf (h2 x hx),fun x hx=>⟨fun q=>?_,fun l hl=>jf ((h3 x hx).2 l hl)⟩,fun x hx q=>?_⟩
 ·have:=(h3 x hx).1
  rw [q] at this
  exact jf (by simpa using this)
 ·have:=h4 x hx
  rw [q] at this
  exact jf (by simpa using this)
theorem gR:∀(l:List bz),E6 l→(eA l).length≤400 * l.length
 | [],_=>bj _
 | x :: l,h=>by
  have h1:=gR l fun y hy=>h y (by simp [hy])
  obtain ⟨g1,g2,_⟩:=h x (by simp)
  have:=DC g1 (by omega)
  rw [wt,aJ,aQ]
  omega
theorem kq {α:Type} {f:α→List UInt8} {n:Nat}:∀(l:List α),(∀x∈l,(f x).length≤n)→(l.flatMap f).length≤n * l.length
 | [],_=>bj _
 | x :: l,h=>by
  have h1:=kq l fun y hy=>h y (by simp [hy])
  have:=h x (by simp)
  rw [lY,aJ,aQ,Nat.mul_add]
  omega
theorem rD {x:Cd} (h1:x.lo.length≤64) (h4:E6 x.b) (h5:x.b.length≤2048):(ll x).length≤1000000:=by
 have h2:=gR x.b h4
 have h3:=qj x.lo.length x.lo
 have h6:=kq (f:=iw) (n:=11) (fz x.lo) (fun p hp=>by
  have hp2:=gV (k:=9) (n:=p.1) (by
   have:p.1≤(zW (fz x.lo)).length:=by
    unfold zW
    obtain ⟨l1,l2,e⟩:=List.append_of_mem hp
    rw [e]
    simp only [List.flatMap_append,lY,aJ,List.length_replicate]
    omega
   unfold fz at this
   rw [m_ _ _ (bj _)] at this
   omega)
  unfold iw gS
  rw [aJ,jP]
  omega)
 have h7:=be (n:=(fz x.lo).length) (by unfold fz;omega)
 have h8:(fz x.lo).length≤64:=by unfold fz;omega
 unfold ll x6 bT
 simp only [aJ]
 omega
theorem AC {m:Md} (h:QY m):∀x∈m.fs,x.lo.length≤64∧(∀t∈x.lo,j8 t=true)∧n7 x.b∧E6 x.b∧x.b.length≤2048∧iz x.t=true:=fun x hx=>by
 obtain ⟨a1,a2,a3⟩:=SV (h.lim.fs.2 x hx)
 obtain ⟨j1,j2⟩:=mA (h.lim.bo x hx) (h.num.1 x hx)
 exact ⟨a2,a3,(Jt h.nes).1 x hx,j1,j2,a1⟩
def oH (c:Prop) [Decidable c] (p:Int):List Int:=if c then [p] else []
theorem lR (m:Md):jI m=oH (m.ts.length>0) 1++oH (m.ims.length>0) 2++oH (m.fs.length>0) 3++oH (m.tbs.length>0) 4++oH (m.ms.length>0) 5++oH (m.gs.length>0) 6++oH (m.exs.length>0) 7++oH (m.hs=true) 8++oH (m.els.length>0) 9++oH (m.ds.length>0) 10++oH (m.fs.length>0) 11++oH (m.ds.length>0) 12:=rfl
theorem w7 {c:Prop} [Decidable c] {p x:Int} (h:x∈oH c p):x=p:=by
 unfold oH at h
 split at h
 ·simpa using h
 ·cases h
theorem gj {c:Prop} [Decidable c] {p:Int} {l:List Int} (hl:l.Pairwise (· < ·)) (h:∀x∈l,x<p):(l++oH c p).Pairwise (· < ·)∧∀x∈l++oH c p,x<p+1:=by
 refine ⟨List.pairwise_append.2 ⟨hl,?_,fun a ha b hb=>by rw [w7 hb];exact h a ha⟩,fun x hx=>?_⟩
 ·unfold oH
  split<;>simp
 ·rcases ef.1 hx with q | q
  ·have:=h x q;omega
  ·rw [w7 q];omega
theorem JU (m:Md):((0:Int) :: jI m).Pairwise (· < ·):=by
 have h0:([0]:List Int).Pairwise (· < ·)∧∀x∈([0]:List Int),x<0+1:=by simp
 have h1:=gj (c:=m.ts.length>0) (p:=1) h0.1 h0.2
 have h2:=gj (c:=m.ims.length>0) (p:=2) h1.1 h1.2
 have h3:=gj (c:=m.fs.length>0) (p:=3) h2.1 h2.2
 have h4:=gj (c:=m.tbs.length>0) (p:=4) h3.1 h3.2
 have h5:=gj (c:=m.ms.length>0) (p:=5) h4.1 h4.2
 have h6:=gj (c:=m.gs.length>0) (p:=6) h5.1 h5.2
 have h7:=gj (c:=m.exs.length>0) (p:=7) h6.1 h6.2
 have h8:=gj (c:=m.hs=true) (p:=8) h7.1 h7.2
 have h9:=gj (c:=m.els.length>0) (p:=9) h8.1 h8.2
 have h10:=gj (c:=m.ds.length>0) (p:=10) h9.1 h9.2
 have h11:=gj (c:=m.fs.length>0) (p:=11) h10.1 h10.2
 have h12:=gj (c:=m.ds.length>0) (p:=12) h11.1 h11.2
 rw [lR]
 simpa only [dB,List.singleton_append,kK,kM] using h12.1
end Go.Proofs.YtjndcljjbpeljaaGreatDoor