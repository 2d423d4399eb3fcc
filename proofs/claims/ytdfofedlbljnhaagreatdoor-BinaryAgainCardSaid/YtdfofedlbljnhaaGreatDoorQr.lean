import Derived.Test.YtdfofedlbljnhaaGreatDoorQq
set_option linter.all false
set_option maxRecDepth 100000
set_option maxHeartbeats 4000000
namespace Go.Proofs.YtdfofedlbljnhaaGreatDoor
section
open Go Go.Mw
theorem IG (o:Option (List UInt8)):nla (MQ o) (.sl 1 ((gb o).map i5)):=by
 cases o
 ·exact .inr (.inl ⟨rfl,1,rfl⟩)
 ·exact .inl rfl
theorem Ta {s:dU} {last:Int} (h:s.id<0∨s.id>12∨(s.id≠0∧s.name≠[])):FW s last=4:=by rw [FW,ap h]
theorem afO {s:dU} {last:Int} (h:1≤s.id∧s.id≤12) (hn:s.name=[]) (hp:fk s.id≤last):FW s last=7:=by
 rw [FW,ah (by rw [hn];simp;omega),ap ⟨by omega,hp⟩]
theorem aca {s:dU} {last:Int} (h:1≤s.id∧s.id≤12) (hn:s.name=[]) (hp:¬fk s.id≤last):FW s last=0:=by
 rw [FW,ah (by rw [hn];simp;omega),ah (fun h=>hp h.2),ah (by omega)]
theorem afN {s:dU} {last:Int} (h:s.id=0):FW s last=(wN true [] 0 s.name).2∧((wN true [] 0 s.name).2=0→(wN true [] 0 s.name).1=aq s.name.length++s.name):=by
 rw [FW,ah (by rw [h];simp),ah (fun h2=>h2.1 h),ap h]
 unfold wN
 simp only [aF]
 split
 ·exact ⟨rfl,fun h=>absurd h (by decide)⟩
 split
 ·exact ⟨rfl,fun h=>absurd h (by decide)⟩
 ·exact ⟨rfl,fun _=>by simp⟩
theorem XG {l:List dU} {i:Nat} {last:Int} {w:List UInt8} (hi:i<l.length) (h:FW (ac l i) last≠0):G1 (l.drop i) last w=(FW (ac l i) last,[]):=by
 rw [Nk hi,G1,ap h]
theorem Kb {l:List dU} {i:Nat} {last:Int} {w:List UInt8} (hi:i<l.length) (h:FW (ac l i) last=0):G1 (l.drop i) last w=G1 (l.drop (i+1)) (max last (fk (ac l i).id)) (w++ir (ac l i)):=by
 rw [Nk hi,G1,ah (by rw [h];simp)]
theorem Xh (s:dU):(rn s).length≤(gb s.bs).length+s.name.length+(aq s.name.length).length:=by
 unfold rn
 split
 ·simp only [bE];omega
 ·omega
attribute [local go_sem] wx
end
section
open Go Go.Mw
attribute [local go_sem] wo wa
end
open Go Go.Mw
theorem WJ {b x r:List UInt8} {a:Nat} (h:b.drop a=x++r):(b.drop a).take x.length=x∧b.drop (a+x.length)=r∧(a≤b.length→b.length=a+x.length+r.length):=by
 refine ⟨by rw [h,List.take_left],by rw [← List.drop_drop,h,List.drop_left],fun ha=>?_⟩
 have:=congrArg List.length h
 simp at this
 omega
theorem Oh {b x r:List UInt8} {a:Nat} (ha:a≤b.length) (h:b.drop a=x++r):bh true b a 0 x.length=(some x,a+x.length,0):=by
 obtain ⟨h1,h2,h3⟩:=WJ h
 have h3:=h3 ha
 have n1:¬((x.length:Int)<0):=by omega
 have n2:¬((x.length:Int)>(b.length:Int) - a):=by omega
 simp only [bh,aF,ah n1,ah n2,ce,h1]
theorem agO {b r:List UInt8} {a n:Nat} (hn:n<4294967296) (h:b.drop a=aq n++r):rU true 32 b a 0=(n,a+(aq n).length,0):=by
 have:=GC (n:=n) (bits:=32) r (by decide) hn
 simp [rU,h,this]
theorem UD {b r:List UInt8} {a n:Nat} {most:Int} (hn:n<4294967296) (hm:(n:Int)≤most) (h:b.drop a=aq n++r):bS true b a 0 most=(n,a+(aq n).length,0):=by
 have h1:=agO hn h
 simp only [bS,aF,h1]
 rw [ah (by omega)]
def nrm (s:dU):dU:=⟨s.id,s.name,some (gb s.bs)⟩
def fI:List dU→List UInt8
 | []=>[]
 | s :: r=>ir s++fI r
theorem PD {s:dU} {last:Int} (h:FW s last=0):0≤s.id∧s.id≤12∧(s.id≠0→s.name=[]∧last<fk s.id)∧(s.id=0→uv s.name=true∧s.name.length≤64):=by
 unfold FW at h
 split at h
 ·exact absurd h (by decide)
 rename_i h1
 split at h
 ·exact absurd h (by decide)
 rename_i h2
 have h3:0≤s.id∧s.id≤12:=by omega
 refine ⟨h3.1,h3.2,fun h4=>⟨?_,?_⟩,fun h4=>?_⟩
 ·by_cases h5:s.name=[]
  ·exact h5
  ·exact absurd (.inr (.inr ⟨h4,h5⟩)) h1
 ·have:¬fk s.id≤last:=fun h5=>h2 ⟨h4,h5⟩
  omega
 ·rw [ap h4] at h
  split at h
  ·exact absurd h (by decide)
  rename_i h5
  split at h
  ·exact absurd h (by decide)
  ·exact ⟨by simpa using h5,by omega⟩
theorem TL {n r:List UInt8} (hu:uv n=true) (hl:n.length≤64):cO true (aq n.length++n++r) 0 0=(n,(aq n.length).length+n.length,0):=by
 have h1:(aq n.length++n++r).drop 0=aq n.length++(n++r):=by simp
 have hc:=UD (most:=64) (by omega) (by omega) h1
 rw [Nat.zero_add] at hc
 have h2:(aq n.length++n++r).drop (aq n.length).length=n++r:=by rw [du,List.drop_left]
 have ht:=Oh (by simp<;>omega) h2
 unfold cO
 rw [ap rfl,hc]
 simp only [show ((0:Int)==0)=true from rfl]
 rw [ht,sL,ah (by simp)]
 simp [hu]
theorem Yx {s:dU} {last:Int} {r:List UInt8} (h:FW s last=0) (hb:(rn s).length<1000000):cP (ir s++r) last=(0,nrm s,r):=by
 obtain ⟨h0,h12,hn,hz⟩:=PD h
 have e0:ac (ir s++r) 0=UInt8.ofNat s.id.toNat:=rfl
 have eN:(ac (ir s++r) 0).toNat=s.id.toNat:=by rw [e0,ofNat_toNat (by omega)]
 have eI:((ac (ir s++r) 0).toNat:Int)=s.id:=by rw [eN];omega
 have d1:(ir s++r).drop 1=aq (rn s).length++(rn s++r):=by simp [ir]
 have hu:=agO (by omega) d1
 have d2:(ir s++r).drop (1+(aq (rn s).length).length)=rn s++r:=by rw [← List.drop_drop,d1,List.drop_left]
 have ht:=Oh (by simp [ir]<;>omega) d2
 have hk:lc (ir s++r)=(some (rn s),1+(aq (rn s).length).length+(rn s).length,0):=by
  unfold lc
  rw [hu]
  exact ht
 have d3:(ir s++r).drop (1+(aq (rn s).length).length+(rn s).length)=r:=by rw [← List.drop_drop,d2,List.drop_left]
 have hp:g_ s.id (rn s)=(0,nrm s):=by
  unfold g_
  by_cases c:s.id=0
  ·obtain ⟨u1,u2⟩:=hz c
   have hi:rn s=aq s.name.length++s.name++gb s.bs:=by rw [rn,ap c]
   rw [ap c,hi,TL u1 u2,ah (by simp)]
   simp only [nrm,c]
   rw [show (aq s.name.length).length+s.name.length=(aq s.name.length++s.name).length by simp,List.drop_left]
  ·have hi:rn s=gb s.bs:=by rw [rn,ah c]
   rw [ah c,hi]
   simp only [nrm,(hn c).1]
 unfold cP
 rw [ah (by omega),hk,ah (by simp),ah (fun hh=>by have:=(hn (by omega)).2;rw [eI] at hh;omega),eI,cm,hp,ah (by simp)]
 rw [d3]
theorem Fl:∀(l:List dU) (last:Int) (w:List UInt8) (acc:List dU),0≤last→(∀s∈l,(rn s).length<1000000)→(G1 l last w).1=0 →
  BV (fI l) last acc=(0,acc++l.map nrm)∧(G1 l last w).2=w++fI l
 | [],last,w,acc,_,_,_=>by simp [fI,Jb,G1]
 | s :: r,last,w,acc,hl,hb,h=>by
  rw [G1] at h ⊢
  by_cases h1:FW s last≠0
  ·rw [ap h1] at h;exact absurd h h1
  rw [ah h1] at h ⊢
  have h2:=Yx (r:=fI r) (Classical.not_not.1 h1) (hb s (by simp))
  have h3:=uH (d:=ir s++fI r) (last:=last) (acc:=acc) (by simp [ir]) (by rw [h2])
  rw [h2] at h3
  have hpl:=(IU s.id).1
  obtain ⟨g1,g2⟩:=Fl r (max last (fk s.id)) (w++ir s) (acc++[nrm s]) (by omega) (fun x hx=>hb x (by simp [hx])) h
  refine ⟨?_,?_⟩
  ·rw [fI,h3]
   show BV (fI r) (max last (fk s.id)) (acc++[nrm s])=_
   rw [g1,ej,du]
   rfl
  ·rw [g2,fI,du]
theorem NL:∀(l:List dU) (last:Int) (w:List UInt8),(G1 l last w).1≠0→(G1 l last w).2=[]
 | [],_,_,h=>absurd rfl h
 | s :: r,last,w,h=>by
  rw [G1] at h ⊢
  by_cases h1:FW s last≠0
  ·rw [ap h1]
  rw [ah h1] at h ⊢
  exact NL r _ _ h
def ef (cs:List Cu) (p:Int):List Cu:=cs.filter fun c=>c.af==p
def FH (m:Md) (p:Int):List dU:=(ef m.cs p).map fun c=>⟨0,c.n,some c.b⟩
def iw (m:Md):List Int→List dU
 | []=>[]
 | p :: l=>⟨HE p,[],some (jn m p)⟩ :: (FH m p++iw m l)
def yI (m:Md):List dU:=FH m 0++iw m (kq m)
def xn (l:List dU):Int×List UInt8:=if (NM l).1=0∧(NM l).2.length>262144 then (6,[]) else NM l
def IE (m:Md):Bool:=m.fs.all (fun x=>(nchk x.b).2==0)&&m.gs.all (fun x=>(nchk x.i).2==0)&&m.els.all (fun x=>(x.mo != 0||(nchk x.o).2==0)&&x.it.all fun l=>(nchk l).2==0)&&m.ds.all (fun x=>x.mo != 0||(nchk x.o).2==0)
def Cj (ps:List Int):Int→List Cu→Bool
 | _,[]=>true
 | l,c :: r=>!(decide (c.af<l) || !(decide (c.af=0∨c.af∈ps)))&&Cj ps c.af r
def E0 (m:Md):Bool:=Cj (kq m) 0 m.cs
def cW (m:Md):Int×List UInt8 :=
 if (sU Dy m).c≠0 then ((sU Dy m).c,[]) else if IE m=false then (16,[]) else if E0 m=false then (7,[]) else xn (yI m)
def mr (d:Dc) (s:dU):Except Int Dc :=
 if s.id=0 then (if d.m.cs.length≥8∨(gb s.bs).length>4096 then .error 6 else .ok { d with m:={ d.m with cs:=d.m.cs++[⟨d.place,s.name,gb s.bs⟩] } }) else qY d (fk s.id) (gb s.bs)
def fz:List dU→Dc→Except Int Dc
 | [],d=>.ok d
 | s :: r,d=>match mr d s with
  | .ok d'=>fz r d'
  | .error e=>.error e
def Io:Md:=⟨[],[],[],[],[],[],[],false,0,[],[],[]⟩
def zC:Dc:=⟨Io,0,0,-1⟩
def LP (r:Except Int Dc):Except Int Md:=match r with
 | .ok d=>if (d.codes:Int)≠d.m.fs.length∨(d.data≥0∧d.data≠d.m.ds.length) then .error 8 else .ok d.m
 | .error e=>.error e
def wF (b:List UInt8):Except Int Md:=if b.length>262144 then .error 6 else if (qu b).1≠0 then .error (qu b).1 else LP (fz (qu b).2 zC)
theorem dS:∀(l r:List dU) (d:Dc),fz (l++r) d=match fz l d with
  | .ok d'=>fz r d'
  | .error e=>.error e
 | [],r,d=>rfl
 | s :: l,r,d=>by
  rw [jR,fz,fz]
  cases mr d s with
  | ok d'=>exact dS l r d'
  | error e=>rfl
theorem D3:∀(cs:List Cu) (d:Dc),(∀c∈cs,c.af=d.place∧c.b.length≤4096)→d.m.cs.length+cs.length≤8→fz (cs.map fun c=>(⟨0,c.n,some c.b⟩:dU)) d = .ok { d with m:={ d.m with cs:=d.m.cs++cs } }
 | [],d,_,_=>by simp [fz]
 | c :: cs,d,h,hl=>by
  obtain ⟨h1,h2⟩:=h c (by simp)
  rw [eA] at hl
  rw [ej,fz]
  have e:mr d ⟨0,c.n,some c.b⟩ = .ok { d with m:={ d.m with cs:=d.m.cs++[⟨d.place,c.n,c.b⟩] } }:=by
   unfold mr
   rw [ap rfl,ah (by rw [cm];omega),cm]
  rw [e]
  simp only
  rw [D3 cs { d with m:={ d.m with cs:=d.m.cs++[⟨d.place,c.n,c.b⟩] } } (fun x hx=>h x (by simp [hx])) (by simp;omega),← h1]
  simp
theorem gQ {α:Type} {one:List UInt8→Nat→Rd α} {enc:α→List UInt8} {l:α} (h:Bk one enc l):lR (one (enc l) 0) (enc l) = .ok l:=by
 have:=h (enc l) 0 [] (by simp)
 rw [this]
 unfold lR
 simp
structure vt (m:Md):Prop where
 lim:okM Dy m
 nes:IE m=true
 ord:E0 m=true
 num:(∀x∈m.fs,G9 x.b)∧(∀x∈m.gs,G9 x.i)∧(∀x∈m.els,G9 x.o∧∀l∈x.it,G9 l)∧∀x∈m.ds,G9 x.o
theorem qQ {l:List aZ} (h:((nchk l).2==0)=true):mq l:=(PP l).1 (by simpa using h)
theorem Du {m:Md} (h:IE m=true):(∀x∈m.fs,mq x.b)∧(∀x∈m.gs,mq x.i)∧(∀x∈m.els,(x.mo=0→mq x.o)∧∀l∈x.it,mq l)∧∀x∈m.ds,x.mo=0→mq x.o:=by
 unfold IE at h
 simp only [cC,fg] at h
 obtain ⟨⟨⟨h1,h2⟩,h3⟩,h4⟩:=h
 refine ⟨fun x hx=>qQ (h1 x hx),fun x hx=>qQ (h2 x hx),fun x hx=>⟨fun q=>?_,fun l hl=>qQ ((h3 x hx).2 l hl)⟩,fun x hx q=>?_⟩
 ·have:=(h3 x hx).1
  rw [q] at this
  exact qQ (by simpa using this)
 ·have:=h4 x hx
  rw [q] at this
  exact qQ (by simpa using this)
theorem oQ:∀(l:List aZ),Jq l→(fu l).length≤400 * l.length
 | [],_=>bt _
 | x :: l,h=>by
  have h1:=oQ l fun y hy=>h y (by simp [hy])
  obtain ⟨g1,g2,_⟩:=h x (by simp)
  have:=RV g1 (by omega)
  rw [rJ,bE,eA]
  omega
theorem qL {α:Type} {f:α→List UInt8} {n:Nat}:∀(l:List α),(∀x∈l,(f x).length≤n)→(l.flatMap f).length≤n * l.length
 | [],_=>bt _
 | x :: l,h=>by
  have h1:=qL l fun y hy=>h y (by simp [hy])
  have:=h x (by simp)
  rw [pk,bE,eA,Nat.mul_add]
  omega
theorem zN {x:Cd} (h1:x.lo.length≤64) (h4:Jq x.b) (h5:x.b.length≤2048):(iF x).length≤1000000:=by
 have h2:=oQ x.b h4
 have h3:=uB x.lo.length x.lo
 have h6:=qL (f:=tU) (n:=11) (iZ x.lo) (fun p hp=>by
  have hp2:=kv (k:=9) (n:=p.1) (by
   have:p.1≤(B4 (iZ x.lo)).length:=by
    unfold B4
    obtain ⟨l1,l2,e⟩:=List.append_of_mem hp
    rw [e]
    simp only [List.flatMap_append,pk,bE,List.length_replicate]
    omega
   unfold iZ at this
   rw [vk _ _ (bt _)] at this
   omega)
  unfold tU eD
  rw [bE,cM]
  omega)
 have h7:=cG (n:=(iZ x.lo).length) (by unfold iZ;omega)
 have h8:(iZ x.lo).length≤64:=by unfold iZ;omega
 unfold iF GG aE
 simp only [bE]
 omega
theorem EV {m:Md} (h:vt m):∀x∈m.fs,x.lo.length≤64∧(∀t∈x.lo,m5 t=true)∧mq x.b∧Jq x.b∧x.b.length≤2048∧rP x.t=true:=fun x hx=>by
 obtain ⟨a1,a2,a3⟩:=afp (h.lim.fs.2 x hx)
 obtain ⟨j1,j2⟩:=qR (h.lim.bo x hx) (h.num.1 x hx)
 exact ⟨a2,a3,(Du h.nes).1 x hx,j1,j2,a1⟩
theorem Z3:∀(l:List Cd),(∀x∈l,∀(b:List UInt8) (a:Nat) (r:List UInt8),b.drop a=fq x++r→Sc b a = .ok ((x.lo,x.b),a+(fq x).length))→∀(b:List UInt8) (a:Nat) (r:List UInt8),b.drop a=l.flatMap fq++r→gN Sc l.length b a = .ok (l.map fun x=>(x.lo,x.b),a+(l.flatMap fq).length)
 | [],_,b,a,r,_=>rfl
 | x :: l,h,b,a,r,hd=>by
  rw [pk,du] at hd
  rw [eA,gN,h x (by simp) b a _ hd,aM,Z3 l (fun y hy=>h y (by simp [hy])) b _ r (bD hd),aM,pk,bE,kI]
  rfl
theorem WW {m:Md} (h:vt m):lR (mM Sc 64 (aE fq m.fs) 0) (aE fq m.fs) = .ok (m.fs.map fun x=>(x.lo,x.b)):=by
 have hl:m.fs.length≤64:=by have:=h.lim.fs.1;omega
 have hd:(aE fq m.fs).drop 0=aq m.fs.length++(m.fs.flatMap fq++[]):=by simp [aE]
 have ho:=EV h
 unfold mM
 rw [GV (by omega) (by omega) hd,aM,Z3 m.fs (fun x hx b a r hb=>by
  obtain ⟨h1,h2,h3,h4,h5,_⟩:=ho x hx
  exact WZ h1 h2 h3 h4 h5 (by have:=zN h1 h4 h5;omega) hb) _ _ _ (bD hd)]
 unfold lR
 simp only
 rw [ap (by simp [aE])]
theorem LF {d:List UInt8} {m:Nat} (h:(dZ d 32).2.2=0) (hm:m≤(dZ d 32).1):(aq m).length≤(dZ d 32).2.1:=by
 unfold dZ at h hm ⊢
 by_cases h1:jO d 32≠0
 ·rw [ap h1] at h;exact absurd h h1
 rw [ah h1] at h hm ⊢
 by_cases h2:(ac d (bZ d 32)).toNat / 2 ^ vi 32 (bZ d 32)≠0
 ·rw [ap h2] at h;exact absurd h (show ¬(4:Int)=0 by decide)
 rw [ah h2] at hm ⊢
 refine kv (k:=bZ d 32) ?_
 have h3:=Ji (d.take (bZ d 32+1))
 rcases iu d 32 with ⟨g1,g2,g3,g4⟩ | ⟨g1,g2⟩
 ·rw [pm,Nat.min_eq_left (by omega)] at h3
  have h4:=Nat.mod_le (dL (d.take (bZ d 32+1))) 18446744073709551616
  simp only at hm
  omega
 ·rcases g1 with g1 | g1<;>rw [g1] at h1<;>exact absurd (by decide) h1
theorem adr {d:List UInt8} {a m:Nat} (h:(rU true 32 d a 0).2.2=0) (hm:m≤(rU true 32 d a 0).1):a+(aq m).length≤(rU true 32 d a 0).2.1:=by
 unfold rU at h hm ⊢
 simp only [aF] at h hm ⊢
 by_cases h1:(dZ (d.drop a) 32).2.2≠0
 ·rw [ap h1] at h;exact absurd h h1
 rw [ah h1] at hm ⊢
 have:=LF (Classical.not_not.1 h1) hm
 simp only
 omega
theorem UF {b:List UInt8} {a:Nat} {n:Nat} {e:Int} (h:(bh (e==0) b a e n).2.2=0) (ha:a≤b.length):e=0∧a+n≤b.length∧bh (e==0) b a e n=(some ((b.drop a).take n),a+n,0):=by
 obtain ⟨g1,g2,g3,g4⟩:=Hj (fun h=>by simpa using h) h (fun h=>by simpa using h) ha
 rw [ce] at g3 g4
 refine ⟨?_,g3,g4⟩
 by_cases he:e=0
 ·exact he
 ·rw [ay he] at h
  exact absurd h (by simpa [bh] using he)
theorem Zy {d:List UInt8} (hd:0<d.length) (h:(lc d).2.2=0):∃x,(lc d).1=some x∧(lc d).2.1≤d.length∧∀m:Nat,m≤x.length→1+(aq m).length+x.length≤(lc d).2.1:=by
 have h2:=P8 (ok:=true) (bits:=32) (b:=d) (a:=1) (e:=0) (by omega)
 obtain ⟨g1,g2,g3⟩:=UF h h2
 unfold lc
 rw [g3]
 refine ⟨_,rfl,g2,fun m hm=>?_⟩
 have hx:((d.drop (rU true 32 d 1 0).2.1).take (rU true 32 d 1 0).1).length=(rU true 32 d 1 0).1:=by simp;omega
 rw [hx] at hm ⊢
 have:=adr g1 hm
 simp only
 omega
def kH {α:Type} (b:List UInt8) (t:PS α):α×Int:=((t 0 0).1,oR b (t 0 0).2.1 (t 0 0).2.2)
theorem ac7 {α:Type} {b:List UInt8} {t:PS α} {g:Nat→Rd α} (h:dy b t g):(∃x,lR (g 0) b = .ok x∧kH b t=(x,0))∨∃e,lR (g 0) b = .error e∧e≠0∧(kH b t).2=e:=by
 obtain ⟨h1,_,h3⟩:=h 0 0 (cX _)
 unfold lR kH oR
 rcases h3 rfl with ⟨x,k,g1,g2⟩ | ⟨e',k,g1,g2,g3⟩
 ·rw [g1,g2]
  simp only
  by_cases hk:k=b.length
  ·exact .inl ⟨x,ap hk,by rw [ah (by simp),ap hk]⟩
  ·exact .inr ⟨5,ah hk,by decide,by rw [ah (by simp),ah hk]⟩
 ·rw [g1]
  have h2:(t 0 0).2.2=e':=by rw [g3]
  exact .inr ⟨e',rfl,g2,by simp only;rw [h2,ap g2]⟩
def kr {α:Type} (q:α×Int) (f:α→Dc):Dc×Int:=(f q.1,q.2)
def Sm (q:Dc×Int) (r:Except Int Dc):Prop:=(q.2=0∧r = .ok q.1)∨(q.2≠0∧r = .error q.2)
theorem mX {α:Type} {b:List UInt8} {t:PS α} {g:Nat→Rd α} (h:dy b t g) (f:α→Dc):Sm (kr (kH b t) f) ((lR (g 0) b).map f):=by
 rcases ac7 h with ⟨x,h1,h2⟩ | ⟨e,h1,h2,h3⟩
 ·exact .inl ⟨by unfold kr;rw [h2],by rw [h1];unfold kr;rw [h2];rfl⟩
 ·exact .inr ⟨by unfold kr;rw [h3];exact h2,by rw [h1];unfold kr;rw [h3];rfl⟩
def pTn (b:List UInt8):PS Int:=pb (sY b) fun n=>pP (n:Int)
theorem aan (b:List UInt8):dy b (pTn b) (Jm b):=rW.bd fun n=>dy.pure (b:=b) (n:Int)
def Sk (b:List UInt8) (a:Nat):Rd Cd:=eU (gU b a) fun t k=>.ok ((⟨(t:Int),[],[]⟩:Cd),k)
theorem Z4 (b:List UInt8):∀(n a:Nat),gN Sk n b a=eU (gN Jm n b a) fun l k=>.ok (l.map fun t=>(⟨t,[],[]⟩:Cd),k)
 | 0,a=>rfl
 | n+1,a=>by
  rw [gN,gN,Sk,Jm]
  cases h:gU b a with
  | ok q =>
   obtain ⟨x,k⟩:=q
   simp only [aM]
   rw [Z4 b n k]
   cases gN Jm n b k with
   | ok q=>rfl
   | error e=>rfl
  | error e=>rfl
theorem WY (b:List UInt8) (f:List Cd→Dc):(lR (mM Sk 64 b 0) b).map f=(lR (mM Jm 64 b 0) b).map fun l=>f (l.map fun t=>(⟨t,[],[]⟩:Cd)):=by
 unfold mM
 cases gC b 0 64 with
 | error e=>rfl
 | ok q =>
  obtain ⟨n,k⟩:=q
  rw [aM,aM,Z4]
  cases gN Jm n b k with
  | error e=>rfl
  | ok q =>
   obtain ⟨l,k2⟩:=q
   rw [aM]
   unfold lR
   simp only
   by_cases h:k2=b.length
   ·rw [ap h,ap h];rfl
   ·rw [ah h,ah h];rfl
def FF (fs:List Cd) (l:List (List Int×List aZ)):List Cd:=fs.zipIdx.map fun x=>if x.2<l.length then (⟨x.1.t,(ac l x.2).1,(ac l x.2).2⟩:Cd) else x.1
def ky (d:Dc) (p:Int) (b:List UInt8):Dc×Int :=
 if p=1 then kr (kH b (pL b (pFt b) (64:Nat))) fun l=>⟨{ d.m with ts:=l },p,d.codes,d.data⟩ else
 if p=2 then kr (kH b (pL b (YD b) (32:Nat))) fun l=>⟨{ d.m with ims:=l },p,d.codes,d.data⟩ else
 if p=3 then kr (kH b (pL b (N9 b) (64:Nat))) fun l=>⟨{ d.m with fs:=l },p,d.codes,d.data⟩ else
 if p=4 then kr (kH b (pL b (i6 (H6 b) Ld) (4:Nat))) fun l=>⟨{ d.m with tbs:=l },p,d.codes,d.data⟩ else
 if p=5 then kr (kH b (pL b (i6 (FI b) ⟨0,0,false⟩) (2:Nat))) fun l=>⟨{ d.m with ms:=l },p,d.codes,d.data⟩ else
 if p=6 then kr (kH b (pL b (pGd b) (32:Nat))) fun l=>⟨{ d.m with gs:=l },p,d.codes,d.data⟩ else
 if p=7 then kr (kH b (pL b (YC b) (64:Nat))) fun l=>⟨{ d.m with exs:=l },p,d.codes,d.data⟩ else
 if p=8 then kr (kH b (pTn b)) fun n=>⟨{ d.m with hs:=true,st:=n },p,d.codes,d.data⟩ else
 if p=9 then kr (kH b (pL b (YB b) (16:Nat))) fun l=>⟨{ d.m with els:=l },p,d.codes,d.data⟩ else
 if p=10 then kr (kH b (pTn b)) fun n=>⟨d.m,p,d.codes,n⟩ else
 if p=11 then kr (kH b (pL b (Jr b) (64:Nat))) fun l=>⟨{ d.m with fs:=FF d.m.fs l },p,l.length,d.data⟩ else
 kr (kH b (pL b (YA b) (16:Nat))) fun l=>⟨{ d.m with ds:=l },p,d.codes,d.data⟩
theorem acJ (b:List UInt8):dy b (pL b (N9 b) (64:Nat)) (mM Sk 64 b):=dy.l (g:=Sk) (aam b) 64
theorem adR (d:Dc) (p:Int) (b:List UInt8):Sm (ky d p b) (qY d p b):=by
 unfold ky qY
 simp only
 by_cases h1:p=1
 ·rw [ap h1,ap h1];exact mX (dy.l (g:=W7) T7 _) _
 rw [ah h1,ah h1]
 by_cases h2:p=2
 ·rw [ap h2,ap h2];exact mX (dy.l (g:=Z0) (aak b) _) _
 rw [ah h2,ah h2]
 by_cases h3:p=3
 ·rw [ap h3,ap h3]
  have:=mX (acJ b) fun l=>(⟨{ d.m with fs:=l },p,d.codes,d.data⟩:Dc)
  rw [WY] at this
  exact this
 rw [ah h3,ah h3]
 by_cases h4:p=4
 ·rw [ap h4,ap h4];exact mX (dy.l (g:=H6) ((H7 b).oks Ld) _) _
 rw [ah h4,ah h4]
 by_cases h5:p=5
 ·rw [ap h5,ap h5];exact mX (dy.l (g:=FI) ((H4 b).oks _) _) _
 rw [ah h5,ah h5]
 by_cases h6:p=6
 ·rw [ap h6,ap h6];exact mX (dy.l (g:=ZZ) (aaj b) _) _
 rw [ah h6,ah h6]
 by_cases h7:p=7
 ·rw [ap h7,ap h7];exact mX (dy.l (g:=ZY) (aai b) _) _
 rw [ah h7,ah h7]
 by_cases h8:p=8
 ·rw [ap h8,ap h8];exact mX (aan b) _
 rw [ah h8,ah h8]
 by_cases h9:p=9
 ·rw [ap h9,ap h9];exact mX (dy.l (g:=ZX) (aah b) _) _
 rw [ah h9,ah h9]
 by_cases h10:p=10
 ·rw [ap h10,ap h10];exact mX (aan b) _
 rw [ah h10,ah h10]
 by_cases h11:p=11
 ·rw [ap h11,ap h11];exact mX (dy.l (g:=Sc) (aaf b) _) _
 rw [ah h11,ah h11]
 exact mX (dy.l (g:=W0) (aag b) _) _
def de (d:Dc) (s:dU):Dc×Int :=
 if s.id=0 then (if d.m.cs.length≥8∨(gb s.bs).length>4096 then (d,6) else (⟨{ d.m with cs:=d.m.cs++[⟨d.place,s.name,gb s.bs⟩] },d.place,d.codes,d.data⟩,0)) else ky d (fk s.id) (gb s.bs)
theorem Zt (d:Dc) (s:dU):Sm (de d s) (mr d s):=by
 unfold de mr
 by_cases h:s.id=0
 ·rw [ap h,ap h]
  by_cases h2:d.m.cs.length≥8∨(gb s.bs).length>4096
  ·rw [ap h2,ap h2];exact .inr ⟨(show (6:Int)≠0 by decide),rfl⟩
  ·rw [ah h2,ah h2];exact .inl ⟨rfl,rfl⟩
 ·rw [ah h,ah h];exact adR d _ _
def FP:List dU→Dc→Md×Int
 | [],d=>if (d.codes:Int)≠d.m.fs.length∨(d.data≥0∧d.data≠d.m.ds.length) then (Io,8) else (d.m,0)
 | s :: r,d=>if (de d s).2≠0 then (Io,(de d s).2) else FP r (de d s).1
def rI (b:List UInt8):Md×Int:=if b.length>262144 then (Io,6) else if (qu b).1≠0 then (Io,(qu b).1) else FP (qu b).2 zC
def SmM (q:Md×Int) (r:Except Int Md):Prop:=(q.2=0∧r = .ok q.1)∨(q.1=Io∧q.2≠0∧r = .error q.2)
theorem RK:∀(l:List dU) (d:Dc),SmM (FP l d) (LP (fz l d))
 | [],d=>by
  unfold FP fz LP
  simp only
  by_cases h:(d.codes:Int)≠d.m.fs.length∨(d.data≥0∧d.data≠d.m.ds.length)
  ·rw [ap h,ap h];exact .inr ⟨rfl,by decide,rfl⟩
  ·rw [ah h,ah h];exact .inl ⟨rfl,rfl⟩
 | s :: r,d=>by
  rw [FP,fz]
  rcases Zt d s with ⟨h1,h2⟩ | ⟨h1,h2⟩
  ·rw [ah (by rw [h1];decide),h2]
   exact RK r _
  ·rw [ap h1,h2]
   exact .inr ⟨rfl,h1,rfl⟩
theorem RL (b:List UInt8):SmM (rI b) (wF b):=by
 unfold rI wF
 by_cases h1:b.length>262144
 ·rw [ap h1,ap h1];exact .inr ⟨rfl,by decide,rfl⟩
 rw [ah h1,ah h1]
 by_cases h2:(qu b).1≠0
 ·rw [ap h2,ap h2];exact .inr ⟨rfl,h2,rfl⟩
 rw [ah h2,ah h2]
 exact RK _ _
theorem UG {b:List UInt8} {a:Nat} {e:Int} {n:Int} {x:List UInt8} (h:(bh (e==0) b a e n).1=some x):x.length≤b.length:=by
 unfold bh at h
 repeat' split at h
 all_goals first | (cases h;done) | (injection h with h;subst h;simp only [pm,iE];omega)
theorem ad8 (d:List UInt8):(gb (lc d).1).length≤d.length:=by
 cases h:(lc d).1 with
 | none=>exact cX _
 | some x=>rw [cm];exact UG h
theorem N6 {d:List UInt8} {last:Int} (h:(cP d last).1=0):(gb (cP d last).2.1.bs).length≤d.length∧((cP d last).2.1.id=0∨(1≤(cP d last).2.1.id∧(cP d last).2.1.id≤12)):=by
 have hl:=ad8 d
 unfold cP at h ⊢
 by_cases h1:(ac d 0).toNat>12
 ·rw [ap h1] at h;cases h
 rw [ah h1] at h ⊢
 by_cases h2:(lc d).2.2≠0
 ·rw [ap h2] at h;exact absurd h h2
 rw [ah h2] at h ⊢
 by_cases h3:(ac d 0).toNat≠0∧fk (ac d 0).toNat≤last
 ·rw [ap h3] at h;cases h
 rw [ah h3] at h ⊢
 by_cases h4:(g_ (ac d 0).toNat (gb (lc d).1)).1≠0
 ·rw [ap h4] at h;exact absurd h h4
 rw [ah h4]
 simp only
 rw [Classical.not_not] at h4
 generalize gb (lc d).1=x at *
 unfold g_ at h4 ⊢
 by_cases h5:((ac d 0).toNat:Int)=0
 ·rw [ap h5] at h4 ⊢
  by_cases h6:(cO true x 0 0).2.2≠0
  ·rw [ap h6] at h4;exact absurd h4 h6
  ·rw [ah h6]
   simp only
   rw [cm,iE]
   exact ⟨by omega,.inl trivial⟩
 ·rw [ah h5]
  simp only
  rw [cm]
  exact ⟨hl,.inr (by omega)⟩
theorem Ox:∀(f:Nat) (d:List UInt8) (last:Int) (acc:List dU) (n:Nat),d.length≤n→(∀s∈acc,(gb s.bs).length≤n∧(s.id=0∨(1≤s.id∧s.id≤12)))→∀s∈(qZ f d last acc).2,(gb s.bs).length≤n∧(s.id=0∨(1≤s.id∧s.id≤12))
 | 0,d,last,acc,n,_,h=>h
 | f+1,d,last,acc,n,hd,h=>by
  rw [qZ]
  by_cases h0:d.length=0
  ·rw [ap h0];exact h
  rw [ah h0]
  by_cases h1:(cP d last).1≠0
  ·rw [ap h1];intro s hs;cases hs
  rw [ah h1]
  rw [Classical.not_not] at h1
  obtain ⟨g1,g2⟩:=N6 h1
  refine Ox f _ _ _ n ?_ fun s hs=>?_
  ·have:(cP d last).2.2.length≤d.length:=by
    unfold cP
    repeat' split
    all_goals first | exact cX _ | (simp only [iE];omega)
   omega
  ·rcases fA.1 hs with q | q
   ·exact h s q
   ·simp only [kB] at q
    subst q
    exact ⟨by omega,g2⟩
theorem ad4 (b:List UInt8):∀s∈(qu b).2,(gb s.bs).length≤b.length∧(s.id=0∨(1≤s.id∧s.id≤12)):=by
 unfold qu
 split
 ·intro s hs;cases hs
 split
 ·intro s hs;cases hs
 ·exact Ox _ _ _ _ _ (by rw [iE];omega) fun s hs=>by cases hs
theorem Ui {α:Type} (one:PS α):∀(n a:Nat) (e:Int),(pN one n a e).1.length≤n
 | 0,a,e=>bt _
 | n+1,a,e=>by
  by_cases he:e=0
  ·subst he
   rw [YE]
   have:=Ui one n (one a 0).2.1 (one a 0).2.2
   simp only [eA]
   omega
  ·rw [YF he];exact cX _
theorem Mr {α:Type} (b:List UInt8) (one:PS α) (most:Int) (a:Nat) (e:Int):(pL b one most a e).1.length<4294967296:=by
 have h1:=Ui one (pC b most a e).1 (pC b most a e).2.1 (pC b most a e).2.2
 have h2:=yD (b:=b) (most:=most) (a:=a) (e:=e)
 exact Nat.lt_of_le_of_lt h1 h2
theorem iq (fs:List Cd) (l:List (List Int×List aZ)):(FF fs l).length=fs.length:=by unfold FF;simp
theorem ajv {m:Md} (h:vt m) (d:Dc):qY d 1 (jn m 1) = .ok ⟨{ d.m with ts:=m.ts },1,d.codes,d.data⟩:=by
 have:=gQ (one:=mM W7 64) (enc:=aE oN) (l:=m.ts) (ji (by have:=h.lim.ts.1;omega) (by decide) fun x hx=>W8 (h.lim.ts.2 x hx))
 show (lR (mM W7 64 (aE oN m.ts) 0) (aE oN m.ts)).map _=_
 rw [this];rfl
theorem ajw {m:Md} (h:vt m) (d:Dc):qY d 2 (jn m 2) = .ok ⟨{ d.m with ims:=m.ims },2,d.codes,d.data⟩:=by
 have:=gQ (one:=mM Z0 32) (enc:=aE oP) (l:=m.ims) (ji (by have:=h.lim.ims.1;omega) (by decide) fun x hx=>W_ (h.lim.ims.2 x hx))
 show (lR (mM Z0 32 (aE oP m.ims) 0) (aE oP m.ims)).map _=_
 rw [this];rfl
theorem abo {α β:Type} (f:β→List UInt8) (g:α→β) (l:List α):aE (fun x=>f (g x)) l=aE f (l.map g):=by
 unfold aE
 rw [di,List.flatMap_map]
theorem ajx {m:Md} (h:vt m) (d:Dc):qY d 3 (jn m 3) = .ok ⟨{ d.m with fs:=m.fs.map fun x=>⟨x.t,[],[]⟩ },3,d.codes,d.data⟩:=by
 have:=gQ (one:=mM Jm 64) (enc:=aE fun n:Int=>aq n.toNat) (l:=m.fs.map fun x=>x.t) (ji (by have:=h.lim.fs.1;rw [di];omega) (by decide) fun t ht=>by
  obtain ⟨x,hx,rfl⟩:=List.mem_map.1 ht
  exact H8 (EV h x hx).2.2.2.2.2)
 have e:jn m 3=aE (fun n:Int=>aq n.toNat) (m.fs.map fun x=>x.t):=abo (fun n:Int=>aq n.toNat) (fun x:Cd=>x.t) m.fs
 rw [e]
 show (lR (mM Jm 64 _ 0) _).map _=_
 rw [this]
 show Except.ok _=Except.ok _
 simp only [List.map_map]
 rfl
theorem ajy {m:Md} (h:vt m) (d:Dc):qY d 4 (jn m 4) = .ok ⟨{ d.m with tbs:=m.tbs },4,d.codes,d.data⟩:=by
 have:=gQ (one:=mM H6 4) (enc:=aE nw) (l:=m.tbs) (ji (by have:=h.lim.tbs.1;omega) (by decide) fun x hx=>Ny (h.lim.tbs.2 x hx))
 show (lR (mM H6 4 (aE nw m.tbs) 0) (aE nw m.tbs)).map _=_
 rw [this];rfl
theorem ajz {m:Md} (h:vt m) (d:Dc):qY d 5 (jn m 5) = .ok ⟨{ d.m with ms:=m.ms },5,d.codes,d.data⟩:=by
 have:=gQ (one:=mM FI 2) (enc:=aE jH) (l:=m.ms) (ji (by have:=h.lim.ms.1;omega) (by decide) fun x hx=>H3 (G4 (h.lim.ms.2 x hx)))
 show (lR (mM FI 2 (aE jH m.ms) 0) (aE jH m.ms)).map _=_
 rw [this];rfl
theorem ajA {m:Md} (h:vt m) (d:Dc):qY d 6 (jn m 6) = .ok ⟨{ d.m with gs:=m.gs },6,d.codes,d.data⟩:=by
 have:=gQ (one:=mM ZZ 32) (enc:=aE oO) (l:=m.gs) (ji (by have:=h.lim.gs.1;omega) (by decide) fun x hx=>by
  obtain ⟨g1,g2⟩:=h.lim.gs.2 x hx
  obtain ⟨j1,j2⟩:=qR g2 (h.num.2.1 x hx)
  exact W9 g1 ((Du h.nes).2.1 x hx) j1 j2)
 show (lR (mM ZZ 32 (aE oO m.gs) 0) (aE oO m.gs)).map _=_
 rw [this];rfl
theorem ajB {m:Md} (h:vt m) (d:Dc):qY d 7 (jn m 7) = .ok ⟨{ d.m with exs:=m.exs },7,d.codes,d.data⟩:=by
 have:=gQ (one:=mM ZY 64) (enc:=aE oM) (l:=m.exs) (ji (by have:=h.lim.exs.1;omega) (by decide) fun x hx=>W6 (h.lim.exs.2 x hx))
 show (lR (mM ZY 64 (aE oM m.exs) 0) (aE oM m.exs)).map _=_
 rw [this];rfl
theorem ajC {m:Md} (h:vt m) (hs:m.hs=true) (d:Dc):qY d 8 (jn m 8) = .ok ⟨{ d.m with hs:=true,st:=m.st },8,d.codes,d.data⟩:=by
 have:=gQ (one:=Jm) (enc:=fun n:Int=>aq n.toNat) (l:=m.st) (H8 (h.lim.st hs))
 show (lR (Jm (aq m.st.toNat) 0) (aq m.st.toNat)).map _=_
 rw [this];rfl
theorem ajD {m:Md} (h:vt m) (d:Dc):qY d 9 (jn m 9) = .ok ⟨{ d.m with els:=m.els },9,d.codes,d.data⟩:=by
 have:=gQ (one:=mM ZX 16) (enc:=aE oL) (l:=m.els) (ji (by have:=h.lim.els.1;omega) (by decide) fun x hx=>by
  obtain ⟨n1,n2⟩:=(Du h.nes).2.2.1 x hx
  obtain ⟨k1,k2⟩:=h.num.2.2.1 x hx
  exact W5 (h.lim.els.2 x hx) n1 n2 k1 k2)
 show (lR (mM ZX 16 (aE oL m.els) 0) (aE oL m.els)).map _=_
 rw [this];rfl
theorem ag3 {m:Md} (h:vt m) (d:Dc):qY d 10 (jn m 10) = .ok ⟨d.m,10,d.codes,m.ds.length⟩:=by
 have hl:=h.lim.ds.1
 have:=gQ (one:=Jm) (enc:=fun n:Int=>aq n.toNat) (l:=(m.ds.length:Int)) (H8 (dI.2 (by omega)))
 simp only [ce] at this
 show (lR (Jm (aq m.ds.length) 0) (aq m.ds.length)).map _=_
 rw [this];rfl
theorem VF:∀(l:List Cd) (k:Nat) (L:List (List Int×List aZ)),(∀j,j<l.length→ac L (k+j)=((ac l j).lo,(ac l j).b))→k+l.length≤L.length →
  (((l.map fun x=>(⟨x.t,[],[]⟩:Cd)).zipIdx k).map fun x=>if x.2<L.length then (⟨x.1.t,(ac L x.2).1,(ac L x.2).2⟩:Cd) else x.1)=l
 | [],k,L,_,_=>rfl
 | x :: l,k,L,h,hl=>by
  rw [eA] at hl
  have h0:=h 0 (by simp)
  rw [Nat.add_zero] at h0
  have ih:=VF l (k+1) L (fun j hj=>by
   have:=h (j+1) (by simpa using hj)
   rw [show k+(j+1)=k+1+j by omega] at this
   exact this) (by omega)
  simp only [ej,List.zipIdx_cons]
  rw [ih,ap (show k<L.length by omega),h0]
  rfl
theorem ag4 {m:Md} (h:vt m) (d:Dc) (hf:d.m.fs=m.fs.map fun x=>⟨x.t,[],[]⟩):qY d 11 (jn m 11) = .ok ⟨{ d.m with fs:=m.fs },11,m.fs.length,d.data⟩:=by
 have:=WW h
 show (lR (mM Sc 64 (aE fq m.fs) 0) (aE fq m.fs)).map _=_
 rw [this]
 show Except.ok _=Except.ok _
 simp only [hf,di]
 have z:=VF m.fs 0 (m.fs.map fun x=>(x.lo,x.b)) (fun j hj=>by rw [Nat.zero_add,bp (by simpa using hj),List.getElem_map,bp hj]) (by simp)
 simp only [di] at z
 rw [z]
theorem ag5 {m:Md} (h:vt m) (d:Dc):qY d 12 (jn m 12) = .ok ⟨{ d.m with ds:=m.ds },12,d.codes,d.data⟩:=by
 have:=gQ (one:=mM W0 16) (enc:=aE oK) (l:=m.ds) (ji (by have:=h.lim.ds.1;omega) (by decide) fun x hx=>W4 (h.lim.ds.2 x hx) ((Du h.nes).2.2.2 x hx) (h.num.2.2.2 x hx))
 show (lR (mM W0 16 (aE oK m.ds) 0) (aE oK m.ds)).map _=_
 rw [this];rfl
theorem zL (c:Cu) (cs:List Cu) (p:Int):ef (c :: cs) p=if c.af=p then c :: ef cs p else ef cs p:=by
 unfold ef
 rw [List.filter_cons]
 by_cases h:c.af=p
 ·rw [ap h,ap (by simpa using h)]
 ·rw [ah h,ah (by simpa using h)]
theorem HN {cs:List Cu} {p:Int} (h:∀c∈cs,p<c.af):ef cs p=[]:=by
 unfold ef
 rw [List.filter_eq_nil_iff]
 intro c hc
 have:=h c hc
 simp
 omega
theorem LS {α β:Type} {f:α→List β} {l:List α} (h:∀x∈l,f x=[]):l.flatMap f=[]:=by
 rw [List.flatMap_eq_nil_iff];exact h
theorem ZS {α β:Type} {f g:α→List β}:∀{l:List α},(∀x∈l,f x=g x)→l.flatMap f=l.flatMap g
 | [],_=>rfl
 | x :: l,h=>by rw [pk,pk,h x (by simp),ZS fun y hy=>h y (by simp [hy])]
theorem Ni {ps qs:List Int} (hs:ps.Pairwise (· < ·)):∀(cs:List Cu) (l:Int),Cj qs l cs=true→(∀c∈cs,c.af∈ps)→ps.flatMap (ef cs)=cs∧∀c∈cs,l≤c.af
 | [],l,_,_=>⟨LS fun _ _=>rfl,fun c h=>by cases h⟩
 | c :: cs,l,ho,hin=>by
  rw [Cj] at ho
  simp only [cC,rg,Bool.or_eq_false_iff,decide_eq_false_iff_not] at ho
  obtain ⟨⟨h1,h2⟩,h3⟩:=ho
  obtain ⟨g1,g2⟩:=Ni hs cs c.af h3 fun x hx=>hin x (by simp [hx])
  refine ⟨?_,fun x hx=>?_⟩
  rotate_left
  ·rcases dc.1 hx with rfl | hx
   ·omega
   ·have:=g2 x hx;omega
  obtain ⟨p1,p2,rfl⟩:=List.append_of_mem (hin c (by simp))
  rw [List.pairwise_append,List.pairwise_cons] at hs
  obtain ⟨_,⟨s2,_⟩,s3⟩:=hs
  have lo:∀x∈p1,x<c.af:=fun x hx=>s3 x hx c.af (by simp)
  rw [List.flatMap_append,pk] at g1 ⊢
  rw [LS (f:=ef cs) (l:=p1) fun x hx=>HN fun y hy=>by have:=lo x hx;have:=g2 y hy;omega,fh] at g1
  rw [LS (f:=ef (c :: cs)) (l:=p1) fun x hx=>by
   rw [zL,ah (by have:=lo x hx;omega)]
   exact HN fun y hy=>by have:=lo x hx;have:=g2 y hy;omega,fh,zL,ap rfl,jR,
   ZS (f:=ef (c :: cs)) (g:=ef cs) (l:=p2) fun x hx=>by rw [zL,ah (by have:=s2 x hx;omega)],g1]
theorem IS {ps:List Int}:∀(cs:List Cu) (l:Int),Cj ps l cs=true→∀c∈cs,c.af=0∨c.af∈ps
 | [],l,_,c,h=>by cases h
 | x :: cs,l,ho,c,h=>by
  rw [Cj] at ho
  simp only [cC,rg,Bool.or_eq_false_iff,Bool.not_eq_false',fo,decide_eq_false_iff_not] at ho
  rcases dc.1 h with rfl | h
  ·simpa using ho.1.2
  ·exact IS cs _ ho.2 c h
def lq (c:Prop) [Decidable c] (p:Int):List Int:=if c then [p] else []
theorem rX (m:Md):kq m=lq (m.ts.length>0) 1++lq (m.ims.length>0) 2++lq (m.fs.length>0) 3++lq (m.tbs.length>0) 4++lq (m.ms.length>0) 5++lq (m.gs.length>0) 6++lq (m.exs.length>0) 7++lq (m.hs=true) 8++lq (m.els.length>0) 9++lq (m.ds.length>0) 10++lq (m.fs.length>0) 11++lq (m.ds.length>0) 12:=rfl
theorem Mo {c:Prop} [Decidable c] {p x:Int} (h:x∈lq c p):x=p:=by
 unfold lq at h
 split at h
 ·simpa using h
 ·cases h
theorem mY {c:Prop} [Decidable c] {p:Int} {l:List Int} (hl:l.Pairwise (· < ·)) (h:∀x∈l,x<p):(l++lq c p).Pairwise (· < ·)∧∀x∈l++lq c p,x<p+1:=by
 refine ⟨List.pairwise_append.2 ⟨hl,?_,fun a ha b hb=>by rw [Mo hb];exact h a ha⟩,fun x hx=>?_⟩
 ·unfold lq
  split<;>simp
 ·rcases fA.1 hx with q | q
  ·have:=h x q;omega
  ·rw [Mo q];omega
theorem yH (m:Md):((0:Int) :: kq m).Pairwise (· < ·):=by
 have h0:([0]:List Int).Pairwise (· < ·)∧∀x∈([0]:List Int),x<0+1:=by simp
 have h1:=mY (c:=m.ts.length>0) (p:=1) h0.1 h0.2
 have h2:=mY (c:=m.ims.length>0) (p:=2) h1.1 h1.2
 have h3:=mY (c:=m.fs.length>0) (p:=3) h2.1 h2.2
 have h4:=mY (c:=m.tbs.length>0) (p:=4) h3.1 h3.2
 have h5:=mY (c:=m.ms.length>0) (p:=5) h4.1 h4.2
 have h6:=mY (c:=m.gs.length>0) (p:=6) h5.1 h5.2
 have h7:=mY (c:=m.exs.length>0) (p:=7) h6.1 h6.2
 have h8:=mY (c:=m.hs=true) (p:=8) h7.1 h7.2
 have h9:=mY (c:=m.els.length>0) (p:=9) h8.1 h8.2
 have h10:=mY (c:=m.ds.length>0) (p:=10) h9.1 h9.2
 have h11:=mY (c:=m.fs.length>0) (p:=11) h10.1 h10.2
 have h12:=mY (c:=m.ds.length>0) (p:=12) h11.1 h11.2
 rw [rX]
 simpa only [du,List.singleton_append,fh,jR] using h12.1
theorem RA {m:Md} (h:E0 m=true):ef m.cs 0++(kq m).flatMap (ef m.cs)=m.cs:=by
 have:=(Ni (yH m) m.cs 0 h fun c hc=>by
  rcases IS m.cs 0 h c hc with q | q
  ·simp [q]
  ·simp [q]).1
 rwa [pk] at this
theorem KR (m:Md):∀a b:List Int,iw m (a++b)=iw m a++iw m b
 | [],b=>rfl
 | p :: a,b=>by rw [jR,iw,iw,KR m a b,jR,du]
theorem m0 {m:Md} {p:Int} {c:Prop} [Decidable c] {d d1:Dc} (hp:1≤p∧p≤12) (h1:c→qY d p (jn m p) = .ok d1) (hpl:d1.place=p) (h0:¬c→d.m=d1.m∧d.codes=d1.codes∧d.data=d1.data) (hb:∀x∈m.cs,x.b.length≤4096) (hl:d1.m.cs.length+((lq c p).flatMap (ef m.cs)).length≤8) :
  ∃pl,fz (iw m (lq c p)) d = .ok ⟨{ d1.m with cs:=d1.m.cs++(lq c p).flatMap (ef m.cs) },pl,d1.codes,d1.data⟩:=by
 unfold lq at hl ⊢
 by_cases hc:c
 ·rw [ap hc] at hl ⊢
  rw [List.flatMap_singleton] at hl ⊢
  obtain ⟨e1,e2⟩:=IT hp
  refine ⟨d1.place,?_⟩
  rw [iw,iw,mz,fz]
  have e:mr d ⟨HE p,[],some (jn m p)⟩ = .ok d1:=by
   unfold mr
   rw [ah (show ¬HE p=0 by omega),e1,cm,h1 hc]
  rw [e]
  simp only
  unfold FH
  rw [D3 (ef m.cs p) d1 (fun x hx=>by
   have:=List.mem_filter.1 hx
   refine ⟨by rw [hpl];simpa using this.2,hb x this.1⟩) hl]
 ·rw [ah hc] at hl ⊢
  obtain ⟨g1,g2,g3⟩:=h0 hc
  refine ⟨d.place,?_⟩
  rw [List.flatMap_nil,mz,← g1,← g2,← g3]
  rfl
def pt (m:Md):Md:={ m with st:=if m.hs=true then m.st else 0 }
theorem kl {α:Type} {l:List α} (h:¬l.length>0):l=[]:=sc (by omega)
theorem R9 {m:Md} (h:vt m):∃pl,fz (yI m) zC = .ok ⟨pt m,pl,m.fs.length,if m.ds.length>0 then (m.ds.length:Int) else -1⟩:=by
 have hb:∀x∈m.cs,x.b.length≤4096:=fun x hx=>by
  have q:=h.lim.cs.2 x hx
  unfold O2 at q
  by_cases q1:xP x.n≠0
  ·rw [ap q1] at q;exact absurd q q1
  rw [ah q1] at q
  by_cases q2:x.b.length>4096
  ·rw [ap q2] at q;cases q
  ·omega
 have h8:=h.lim.cs.1
 have ha:=RA h.ord
 rw [rX] at ha
 simp only [List.flatMap_append] at ha
 have hl:=congrArg List.length ha
 simp only [bE] at hl
 unfold yI
 rw [rX]
 simp only [KR]
 simp only [← du]
 have e0:fz (FH m 0) zC = .ok ⟨⟨[],[],[],[],[],[],[],false,0,[],[],ef m.cs 0⟩,0,0,-1⟩:=by
  unfold FH
  rw [D3 (ef m.cs 0) zC (fun x hx=>by
   have:=List.mem_filter.1 hx
   exact ⟨by show x.af=0;simpa using this.2,hb x this.1⟩) (by show 0+_≤8;omega)]
  rfl
 obtain ⟨p1,e1⟩:=m0 (m:=m) (p:=1) (c:=m.ts.length>0) (d:=⟨⟨[],[],[],[],[],[],[],false,0,[],[],ef m.cs 0⟩,0,0,-1⟩) (by decide) (fun _=>ajv h _) rfl (fun q=>⟨by rw [kl q],rfl,rfl⟩) hb (by simp only;omega)
 generalize hC1:ef m.cs 0++(lq (m.ts.length>0) 1).flatMap (ef m.cs)=C1 at *
 have l1:=congrArg List.length hC1
 rw [bE] at l1
 obtain ⟨p2,e2⟩:=m0 (m:=m) (p:=2) (c:=m.ims.length>0) (d:=⟨⟨m.ts,[],[],[],[],[],[],false,0,[],[],C1⟩,p1,0,-1⟩) (by decide) (fun _=>ajw h _) rfl (fun q=>⟨by rw [kl q],rfl,rfl⟩) hb (by simp only;omega)
 generalize hC2:C1++(lq (m.ims.length>0) 2).flatMap (ef m.cs)=C2 at *
 have l2:=congrArg List.length hC2
 rw [bE] at l2
 obtain ⟨p3,e3⟩:=m0 (m:=m) (p:=3) (c:=m.fs.length>0) (d:=⟨⟨m.ts,m.ims,[],[],[],[],[],false,0,[],[],C2⟩,p2,0,-1⟩) (by decide) (fun _=>ajx h _) rfl (fun q=>⟨by rw [kl q];rfl,rfl,rfl⟩) hb (by simp only;omega)
 generalize hC3:C2++(lq (m.fs.length>0) 3).flatMap (ef m.cs)=C3 at *
 have l3:=congrArg List.length hC3
 rw [bE] at l3
 obtain ⟨p4,e4⟩:=m0 (m:=m) (p:=4) (c:=m.tbs.length>0) (d:=⟨⟨m.ts,m.ims,m.fs.map fun x=>⟨x.t,[],[]⟩,[],[],[],[],false,0,[],[],C3⟩,p3,0,-1⟩) (by decide) (fun _=>ajy h _) rfl (fun q=>⟨by rw [kl q],rfl,rfl⟩) hb (by simp only;omega)
 generalize hC4:C3++(lq (m.tbs.length>0) 4).flatMap (ef m.cs)=C4 at *
 have l4:=congrArg List.length hC4
 rw [bE] at l4
 obtain ⟨p5,e5⟩:=m0 (m:=m) (p:=5) (c:=m.ms.length>0) (d:=⟨⟨m.ts,m.ims,m.fs.map fun x=>⟨x.t,[],[]⟩,m.tbs,[],[],[],false,0,[],[],C4⟩,p4,0,-1⟩) (by decide) (fun _=>ajz h _) rfl (fun q=>⟨by rw [kl q],rfl,rfl⟩) hb (by simp only;omega)
 generalize hC5:C4++(lq (m.ms.length>0) 5).flatMap (ef m.cs)=C5 at *
 have l5:=congrArg List.length hC5
 rw [bE] at l5
 obtain ⟨p6,e6⟩:=m0 (m:=m) (p:=6) (c:=m.gs.length>0) (d:=⟨⟨m.ts,m.ims,m.fs.map fun x=>⟨x.t,[],[]⟩,m.tbs,m.ms,[],[],false,0,[],[],C5⟩,p5,0,-1⟩) (by decide) (fun _=>ajA h _) rfl (fun q=>⟨by rw [kl q],rfl,rfl⟩) hb (by simp only;omega)
 generalize hC6:C5++(lq (m.gs.length>0) 6).flatMap (ef m.cs)=C6 at *
 have l6:=congrArg List.length hC6
 rw [bE] at l6
 obtain ⟨p7,e7⟩:=m0 (m:=m) (p:=7) (c:=m.exs.length>0) (d:=⟨⟨m.ts,m.ims,m.fs.map fun x=>⟨x.t,[],[]⟩,m.tbs,m.ms,m.gs,[],false,0,[],[],C6⟩,p6,0,-1⟩) (by decide) (fun _=>ajB h _) rfl (fun q=>⟨by rw [kl q],rfl,rfl⟩) hb (by simp only;omega)
 generalize hC7:C6++(lq (m.exs.length>0) 7).flatMap (ef m.cs)=C7 at *
 have l7:=congrArg List.length hC7
 rw [bE] at l7
 obtain ⟨p8,e8⟩:=m0 (m:=m) (p:=8) (c:=m.hs=true) (d:=⟨⟨m.ts,m.ims,m.fs.map fun x=>⟨x.t,[],[]⟩,m.tbs,m.ms,m.gs,m.exs,false,0,[],[],C7⟩,p7,0,-1⟩) (d1:=⟨⟨m.ts,m.ims,m.fs.map fun x=>⟨x.t,[],[]⟩,m.tbs,m.ms,m.gs,m.exs,m.hs,if m.hs=true then m.st else 0,[],[],C7⟩,8,0,-1⟩) (by decide) (fun q=>by rw [ajC h q,q];rfl) rfl (fun q=>⟨by simp only [Bool.not_eq_true] at q;rw [q];rfl,rfl,rfl⟩) hb (by simp only;omega)
 generalize hC8:C7++(lq (m.hs=true) 8).flatMap (ef m.cs)=C8 at *
 have l8:=congrArg List.length hC8
 rw [bE] at l8
 generalize hst:(if m.hs=true then m.st else 0)=st at *
 obtain ⟨p9,e9⟩:=m0 (m:=m) (p:=9) (c:=m.els.length>0) (d:=⟨⟨m.ts,m.ims,m.fs.map fun x=>⟨x.t,[],[]⟩,m.tbs,m.ms,m.gs,m.exs,m.hs,st,[],[],C8⟩,p8,0,-1⟩) (by decide) (fun _=>ajD h _) rfl (fun q=>⟨by rw [kl q],rfl,rfl⟩) hb (by simp only;omega)
 generalize hC9:C8++(lq (m.els.length>0) 9).flatMap (ef m.cs)=C9 at *
 have l9:=congrArg List.length hC9
 rw [bE] at l9
 obtain ⟨p10,e10⟩:=m0 (m:=m) (p:=10) (c:=m.ds.length>0) (d:=⟨⟨m.ts,m.ims,m.fs.map fun x=>⟨x.t,[],[]⟩,m.tbs,m.ms,m.gs,m.exs,m.hs,st,m.els,[],C9⟩,p9,0,-1⟩) (d1:=⟨⟨m.ts,m.ims,m.fs.map fun x=>⟨x.t,[],[]⟩,m.tbs,m.ms,m.gs,m.exs,m.hs,st,m.els,[],C9⟩,10,0,if m.ds.length>0 then (m.ds.length:Int) else -1⟩) (by decide) (fun q=>by rw [ag3 h,ap q]) rfl (fun q=>⟨rfl,rfl,by rw [ah q]⟩) hb (by simp only;omega)
 generalize hC10:C9++(lq (m.ds.length>0) 10).flatMap (ef m.cs)=C10 at *
 have l10:=congrArg List.length hC10
 rw [bE] at l10
 obtain ⟨p11,e11⟩:=m0 (m:=m) (p:=11) (c:=m.fs.length>0) (d:=⟨⟨m.ts,m.ims,m.fs.map fun x=>⟨x.t,[],[]⟩,m.tbs,m.ms,m.gs,m.exs,m.hs,st,m.els,[],C10⟩,p10,0,if m.ds.length>0 then (m.ds.length:Int) else -1⟩) (by decide) (fun _=>ag4 h _ rfl) rfl (fun q=>⟨by rw [kl q];rfl,by rw [kl q];rfl,rfl⟩) hb (by simp only;omega)
 generalize hC11:C10++(lq (m.fs.length>0) 11).flatMap (ef m.cs)=C11 at *
 have l11:=congrArg List.length hC11
 rw [bE] at l11
 obtain ⟨p12,e12⟩:=m0 (m:=m) (p:=12) (c:=m.ds.length>0) (d:=⟨⟨m.ts,m.ims,m.fs,m.tbs,m.ms,m.gs,m.exs,m.hs,st,m.els,[],C11⟩,p11,m.fs.length,if m.ds.length>0 then (m.ds.length:Int) else -1⟩) (by decide) (fun _=>ag5 h _) rfl (fun q=>⟨by rw [kl q],rfl,rfl⟩) hb (by simp only;omega)
 refine ⟨p12,?_⟩
 rw [dS,dS,dS,dS,dS,dS,dS,dS,dS,dS,dS,dS,e0]
 simp only
 rw [e1];simp only
 rw [e2];simp only
 rw [e3];simp only
 rw [e4];simp only
 rw [e5];simp only
 rw [e6];simp only
 rw [e7];simp only
 rw [e8];simp only
 rw [e9];simp only
 rw [e10];simp only
 rw [e11];simp only
 rw [e12]
 unfold pt
 rw [hst]
 simp only
 have hf:C11++(lq (m.ds.length>0) 12).flatMap (ef m.cs)=m.cs:=by
  rw [← hC11,← hC10,← hC9,← hC8,← hC7,← hC6,← hC5,← hC4,← hC3,← hC2,← hC1]
  simpa only [du] using ha
 rw [hf]
theorem NK:∀(l:List dU) (last:Int) (w:List UInt8),(G1 l last w).1=0→(G1 l last w).2=w++fI l
 | [],last,w,_=>by simp [fI,G1]
 | s :: r,last,w,h=>by
  rw [G1] at h ⊢
  by_cases h1:FW s last≠0
  ·rw [ap h1] at h;exact absurd h h1
  rw [ah h1] at h ⊢
  rw [NK r _ _ h,fI,du]
theorem SO:∀{l:List dU} {s:dU},s∈l→(rn s).length≤(fI l).length
 | x :: l,s,h=>by
  rw [fI,bE]
  rcases dc.1 h with rfl | h
  ·unfold ir
   rw [eA,bE]
   omega
  ·have:=SO h;omega
theorem Jc {l:List dU} {b:List UInt8} (h:xn l=(0,b)):qu b=(0,l.map nrm)∧b=FJ++fI l∧b.length≤262144∧(NM l).1=0:=by
 unfold xn at h
 by_cases q:(NM l).1=0∧(NM l).2.length>262144
 ·rw [ap q] at h;cases h
 rw [ah q] at h
 have h1:(NM l).1=0:=by rw [h]
 have h2:(NM l).2=b:=by rw [h]
 have h3:b=FJ++fI l:=by rw [← h2];exact NK l 0 FJ h1
 have h4:b.length≤262144:=by rw [← h2];exact Nat.le_of_not_lt fun z=>q ⟨h1,z⟩
 have h8:FJ.length=8:=rfl
 have hlen:=congrArg List.length h3
 rw [bE,h8] at hlen
 obtain ⟨g1,g2⟩:=Fl l 0 FJ [] (Int.le_refl _) (fun s hs=>by have:=SO hs;omega) h1
 have t8:(FJ++fI l).take 8=FJ:=by rw [← h8,List.take_left]
 have d8:(FJ++fI l).drop 8=fI l:=by rw [← h8,List.drop_left]
 refine ⟨?_,h3,h4,h1⟩
 rw [h3,qu,ah (by rw [bE,h8];omega),ah (by rw [t8];simp [h8]),d8,g1]
 rfl
theorem N3 (m:Md) (p:Int):(FH m p).map nrm=FH m p:=by
 unfold FH
 rw [List.map_map]
 rfl
theorem KC (m:Md):∀l:List Int,(iw m l).map nrm=iw m l
 | []=>rfl
 | p :: l=>by
  rw [iw,ej,List.map_append,N3,KC m l]
  rfl
theorem N4 (m:Md):(yI m).map nrm=yI m:=by
 unfold yI
 rw [List.map_append,N3,KC]
theorem HQ {m:Md} (h:vt m) {b:List UInt8} (hb:xn (yI m)=(0,b)):wF b = .ok (pt m):=by
 obtain ⟨h1,h2,h3,h4⟩:=Jc hb
 obtain ⟨pl,h5⟩:=R9 h
 unfold wF
 rw [ah (by omega),h1]
 simp only
 rw [ah (by simp),N4,h5]
 unfold LP
 simp only
 rw [ah]
 rintro (q | ⟨q1,q2⟩)
 ·exact q rfl
 ·by_cases z:m.ds.length>0
  ·rw [ap z] at q2;exact q2 rfl
  ·rw [ah z] at q1;omega
end Go.Proofs.YtdfofedlbljnhaaGreatDoor