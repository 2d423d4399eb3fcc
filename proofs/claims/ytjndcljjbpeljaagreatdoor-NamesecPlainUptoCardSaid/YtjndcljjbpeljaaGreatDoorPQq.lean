import Derived.Test.YtjndcljjbpeljaaGreatDoorPQp
set_option linter.all false
set_option maxRecDepth 100000
set_option maxHeartbeats 40000000
namespace Go.Proofs.YtjndcljjbpeljaaGreatDoor
section
open Go Go.Mw
attribute [local go_sem] ro wo wa wx rx dE jr bG
section
variable {l:List UInt8} {e:Int} (hl:l.length<1000000000)
include hl
theorem Vk (x:bz) (hn:0≤x.n) (hlb:x.lb.length≤9223372036854775807):ae Tryz.prog Lu [wx l e,jF x] (wx (ky x l e).1 (ky x l e).2):=by
 refine ab (ic:=qY.body) aq SK rfl rfl ?_
 by_cases he:e=0
 rotate_left
 ·have r:ky x l e=(l,e):=by
   unfold ky
   rw [aN he,aD he,aD he]
   repeat' split
   all_goals rfl
  rw [r]
  simp only [go_sem,qY,aZ he]
  exact aj
 subst he
 have a1:=vu x (mX x.op) (oB _) rfl (by omega)
 replace a1:ae Tryz.prog mw [jF x] (.bool (PL x)):=a1
 simp only [dE] at a1
 cases hp:PL x
 ·rw [hp] at a1
  rw [JO hp]
  simp only [go_sem,qY]
  refine aa (a1) ?_
  simp only [go_sem]
  refine aa (kz l 0 10) ?_
  simp only [go_sem]
  exact aj
 rw [hp] at a1
 have hk:=Ly hp
 have hol:=uJ x.op hk
 have hc:=LB x.op
 have hi:=oB x.op
 have hko:=r4 hk
 have hQ:(¬(mX x.op=3∧4294967296≤x.lb.length)∧ky x l 0=(wB ((0:Int)==0) (wB ((0:Int)==0) l (j4 x.op)) (i7 (mX x.op) x),0))∨((mX x.op=3∧4294967296≤x.lb.length)∧ky x l 0=(wB ((0:Int)==0) l (j4 x.op),1)):=by
  by_cases hs:mX x.op=3∧4294967296≤x.lb.length
  ·exact .inr ⟨hs,Ff hp hs⟩
  ·exact .inl ⟨hs,JP hp hs⟩
 generalize hq:ky x l 0=q at *
 clear hq
 obtain ⟨op,a0,b0,n,k,v,z,ty,lb⟩:=x
 simp only at a1 hn hlb hk hol hc hi hko hQ
 unfold PL Bf AZ at hp
 simp only [hk,bR] at hp
 have hO:(op≥64512∧∃m:Nat,m<256∧IntKind.i64.wrap (op - 64512)=(m:Int)∧wB ((0:Int)==0) l (j4 op)=l++[252]++aA m)∨(¬op≥64512∧∃y:UInt8,IntKind.u8.wrap op=(y.toNat:Int)∧wB ((0:Int)==0) l (j4 op)=l++[y]):=by
  rcases hko with h | h
  ·refine .inr ⟨by omega,UInt8.ofNat op.toNat,?_,?_⟩
   ·rw [ofNat_toNat (by omega),qt];omega
   ·unfold j4;rw [aD (by omega)];rfl
  ·refine .inl ⟨by omega,(op - 64512).toNat,by omega,?_,?_⟩
   ·rw [wi (by omega) (by omega)];omega
   ·unfold j4;rw [aK (by omega),dB];rfl
 have hl1:=qs (ok:=(0:Int)==0) (l:=l) (x:=j4 op)
 replace hl1:(wB ((0:Int)==0) l (j4 op)).length<1100000000:=by omega
 generalize mX op=i at *
 clear hko hk hol
 generalize wB ((0:Int)==0) l (j4 op)=l1 at *
 have hz:∀y:List UInt8,wB ((0:Int)==0) l1 y=l1++y:=fun _=>rfl
 simp only [hz] at hQ
 rcases hO with ⟨ho,m,hm,hw,rfl⟩ | ⟨ho,y,hw,rfl⟩
 ·simp only [go_sem,qY]
  refine aa (a1) ?_
  simp only [go_sem]
  refine aa (qb op) ?_
  simp only [go_sem,aF ho,hw]
  refine aB (U7 (l:=l) (by omega) 252) (by simp [go_sem,wx]) rfl ?_
  simp only [go_sem,hw]
  refine aa (w_ (l:=l++[252]) (by simp only [aJ,jP];omega) m (by omega)) ?_
  simp only [go_sem]
  refine aa (hc) ?_
  clear hw a1 hc hz
  generalize l++[252]++aA m=l1 at *
  rcases (show i=0∨i=1∨i=2∨i=3∨i=4∨i=5∨i=6∨i=7∨i=8∨i=9∨i=10∨i=11∨i=12∨i=13∨i=14∨i=15∨i=16∨i=17∨i=18∨i=19∨i=20 by omega) with rfl | rfl | rfl | rfl | rfl | rfl | rfl | rfl | rfl | rfl | rfl | rfl | rfl | rfl | rfl | rfl | rfl | rfl | rfl | rfl | rfl
  all_goals
   simp only [Int.reduceEq,Int.reduceBEq,false_or,or_false,or_true,true_or,or_self,bF,dc,lZ,qw,bR,bY,beq_iff_eq,lg,decide_eq_false_iff_not,cP,jR] at hp
  ·obtain rfl:q=_:=by
    rcases hQ with ⟨_,h⟩ | ⟨⟨h,_⟩,_⟩
    ·exact h
    ·exact absurd h (by decide)
   clear hQ
   rw [show l1++i7 0 ⟨op,a0,b0,n,k,v,z,ty,lb⟩=l1 from gx _]
   simp only [go_sem]
   exact aI
  ·obtain rfl:q=_:=by
    rcases hQ with ⟨_,h⟩ | ⟨⟨h,_⟩,_⟩
    ·exact h
    ·exact absurd h (by decide)
   clear hQ
   obtain ⟨hlb,hty,rfl,rfl,rfl,hb⟩:=hp
   have cc:ae Tryz.prog OZ [wx l1 0,.agg [.int .i64 k,.int .i64 v,.int .i64 z]] (wx (l1++wq k v z) 0):=qc (l:=l1) (e:=0) (by omega) k v z hb
   simp only [go_sem]
   refine aa (cc) ?_
   simp only [go_sem]
   exact aI
  ·obtain rfl:q=_:=by
    rcases hQ with ⟨_,h⟩ | ⟨⟨h,_⟩,_⟩
    ·exact h
    ·exact absurd h (by decide)
   clear hQ
   obtain ⟨⟨rfl,rfl,rfl⟩,hlb,hty,ha,rfl,rfl⟩:=hp
   simp only [go_sem]
   refine aa (dX (l:=l1) (by omega) a0 ha) ?_
   simp only [go_sem]
   exact aI
  ·obtain ⟨⟨rfl,rfl,rfl⟩,hty,ha,rfl,rfl,hal⟩:=hp
   rcases hQ with ⟨hs,rfl⟩ | ⟨⟨_,hs⟩,rfl⟩
   ·have cc:=p_ (l:=l1) (by omega) ⟨op,a0,0,0,0,0,0,ty,lb⟩ hal ha (Nat.lt_of_not_le fun h=>hs ⟨rfl,h⟩)
    simp only [dE] at cc
    simp only [go_sem]
    refine aa (cc) ?_
    simp only [go_sem]
    exact aI
   ·have cc:=mE (l:=l1) (by omega) ⟨op,a0,0,0,0,0,0,ty,lb⟩ hal ha hs hlb
    simp only [dE] at cc
    simp only [go_sem]
    refine aa (cc) ?_
    simp only [go_sem]
    exact aI
  ·obtain rfl:q=_:=by
    rcases hQ with ⟨_,h⟩ | ⟨⟨h,_⟩,_⟩
    ·exact h
    ·exact absurd h (by decide)
   clear hQ
   obtain ⟨⟨rfl,rfl,rfl⟩,hlb,hty,ha,rfl,rfl⟩:=hp
   simp only [go_sem]
   refine aa (dX (l:=l1) (by omega) a0 ha) ?_
   simp only [go_sem]
   exact aI
  ·obtain rfl:q=_:=by
    rcases hQ with ⟨_,h⟩ | ⟨⟨h,_⟩,_⟩
    ·exact h
    ·exact absurd h (by decide)
   clear hQ
   obtain ⟨⟨rfl,rfl,rfl⟩,hlb,hty,ha,hb,rfl⟩:=hp
   have hE:∀i,i=5∨i=10∨i=11∨i=14∨i=15→l1++i7 i ⟨op,a0,b0,0,0,0,0,ty,lb⟩=l1++aA a0.toNat++aA b0.toNat:=fun i hi=>by
    rw [dB]
    rcases hi with rfl | rfl | rfl | rfl | rfl<;>rfl
   have c1:=be (n:=a0.toNat) (by simp only [ij,bY,cP] at ha;omega)
   rw [hE _ (by decide)]
   simp only [go_sem]
   refine aB (dX (l:=l1) (by omega) a0 ha) (by simp [go_sem,wx]) rfl ?_
   simp only [go_sem]
   refine aa (dX (l:=l1++aA a0.toNat) (by simp only [aJ];omega) b0 hb) ?_
   simp only [go_sem]
   exact aI
  ·obtain rfl:q=_:=by
    rcases hQ with ⟨_,h⟩ | ⟨⟨h,_⟩,_⟩
    ·exact h
    ·exact absurd h (by decide)
   clear hQ
   obtain ⟨⟨rfl,rfl,rfl⟩,hlb,rfl,rfl,rfl,hlen,hv⟩:=hp
   have c1:=be (n:=1) (by omega)
   have cc:ae Tryz.prog At [wx (l1++aA 1) 0,.int .i64 (ah ty 0)] (wx (l1++aA 1++[(vo (ah ty 0)).1]) 0):=jk (l:=l1++aA 1) (e:=0) (by simp only [aJ];omega) (ah ty 0) hv
   rw [show l1++i7 6 ⟨op,0,0,0,0,0,0,ty,lb⟩=l1++aA 1++[(vo (ah ty 0)).1] from (dB ..).symm]
   simp only [go_sem]
   refine aB (w_ (l:=l1) (by omega) 1 (by omega)) (by simp [go_sem,wx]) rfl ?_
   simp only [go_sem]
   refine ⟨by decide,by omega,?_⟩
   refine aa (cc) ?_
   simp only [go_sem]
   exact aI
  ·obtain rfl:q=_:=by
    rcases hQ with ⟨_,h⟩ | ⟨⟨h,_⟩,_⟩
    ·exact h
    ·exact absurd h (by decide)
   clear hQ
   obtain ⟨⟨rfl,rfl,rfl⟩,hlb,hty,ha,rfl,rfl⟩:=hp
   simp only [go_sem]
   refine aa (dX (l:=l1) (by omega) a0 ha) ?_
   simp only [go_sem]
   exact aI
  ·obtain rfl:q=_:=by
    rcases hQ with ⟨_,h⟩ | ⟨⟨h,_⟩,_⟩
    ·exact h
    ·exact absurd h (by decide)
   clear hQ
   obtain ⟨⟨rfl,rfl,rfl⟩,hlb,hty,ha,rfl,rfl⟩:=hp
   simp only [go_sem]
   refine aa (dX (l:=l1) (by omega) a0 ha) ?_
   simp only [go_sem]
   exact aI
  ·obtain rfl:q=_:=by
    rcases hQ with ⟨_,h⟩ | ⟨⟨h,_⟩,_⟩
    ·exact h
    ·exact absurd h (by decide)
   clear hQ
   obtain ⟨⟨rfl,rfl,rfl⟩,hlb,hty,ha,rfl,rfl⟩:=hp
   simp only [go_sem]
   refine aa (dX (l:=l1) (by omega) a0 ha) ?_
   simp only [go_sem]
   exact aI
  ·obtain rfl:q=_:=by
    rcases hQ with ⟨_,h⟩ | ⟨⟨h,_⟩,_⟩
    ·exact h
    ·exact absurd h (by decide)
   clear hQ
   obtain ⟨⟨rfl,rfl,rfl⟩,hlb,hty,ha,hb,rfl⟩:=hp
   have hE:∀i,i=5∨i=10∨i=11∨i=14∨i=15→l1++i7 i ⟨op,a0,b0,0,0,0,0,ty,lb⟩=l1++aA a0.toNat++aA b0.toNat:=fun i hi=>by
    rw [dB]
    rcases hi with rfl | rfl | rfl | rfl | rfl<;>rfl
   have c1:=be (n:=a0.toNat) (by simp only [ij,bY,cP] at ha;omega)
   rw [hE _ (by decide)]
   simp only [go_sem]
   refine aB (dX (l:=l1) (by omega) a0 ha) (by simp [go_sem,wx]) rfl ?_
   simp only [go_sem]
   refine aa (dX (l:=l1++aA a0.toNat) (by simp only [aJ];omega) b0 hb) ?_
   simp only [go_sem]
   exact aI
  ·obtain rfl:q=_:=by
    rcases hQ with ⟨_,h⟩ | ⟨⟨h,_⟩,_⟩
    ·exact h
    ·exact absurd h (by decide)
   clear hQ
   obtain ⟨⟨rfl,rfl,rfl⟩,hlb,hty,ha,hb,rfl⟩:=hp
   have hE:∀i,i=5∨i=10∨i=11∨i=14∨i=15→l1++i7 i ⟨op,a0,b0,0,0,0,0,ty,lb⟩=l1++aA a0.toNat++aA b0.toNat:=fun i hi=>by
    rw [dB]
    rcases hi with rfl | rfl | rfl | rfl | rfl<;>rfl
   have c1:=be (n:=a0.toNat) (by simp only [ij,bY,cP] at ha;omega)
   rw [hE _ (by decide)]
   simp only [go_sem]
   refine aB (dX (l:=l1) (by omega) a0 ha) (by simp [go_sem,wx]) rfl ?_
   simp only [go_sem]
   refine aa (dX (l:=l1++aA a0.toNat) (by simp only [aJ];omega) b0 hb) ?_
   simp only [go_sem]
   exact aI
  ·obtain rfl:q=_:=by
    rcases hQ with ⟨_,h⟩ | ⟨⟨h,_⟩,_⟩
    ·exact h
    ·exact absurd h (by decide)
   clear hQ
   obtain ⟨⟨rfl,rfl,rfl⟩,hlb,hty,ha,rfl,rfl⟩:=hp
   simp only [go_sem]
   refine aa (dX (l:=l1) (by omega) a0 ha) ?_
   simp only [go_sem]
   exact aI
  ·obtain rfl:q=_:=by
    rcases hQ with ⟨_,h⟩ | ⟨⟨h,_⟩,_⟩
    ·exact h
    ·exact absurd h (by decide)
   clear hQ
   obtain ⟨⟨rfl,rfl,rfl⟩,hlb,hty,rfl,hb,rfl⟩:=hp
   simp only [go_sem]
   refine aa (dX (l:=l1) (by omega) b0 hb) ?_
   simp only [go_sem]
   exact aI
  ·obtain rfl:q=_:=by
    rcases hQ with ⟨_,h⟩ | ⟨⟨h,_⟩,_⟩
    ·exact h
    ·exact absurd h (by decide)
   clear hQ
   obtain ⟨⟨rfl,rfl,rfl⟩,hlb,hty,ha,hb,rfl⟩:=hp
   have hE:∀i,i=5∨i=10∨i=11∨i=14∨i=15→l1++i7 i ⟨op,a0,b0,0,0,0,0,ty,lb⟩=l1++aA a0.toNat++aA b0.toNat:=fun i hi=>by
    rw [dB]
    rcases hi with rfl | rfl | rfl | rfl | rfl<;>rfl
   have c1:=be (n:=a0.toNat) (by simp only [ij,bY,cP] at ha;omega)
   rw [hE _ (by decide)]
   simp only [go_sem]
   refine aB (dX (l:=l1) (by omega) a0 ha) (by simp [go_sem,wx]) rfl ?_
   simp only [go_sem]
   refine aa (dX (l:=l1++aA a0.toNat) (by simp only [aJ];omega) b0 hb) ?_
   simp only [go_sem]
   exact aI
  ·obtain rfl:q=_:=by
    rcases hQ with ⟨_,h⟩ | ⟨⟨h,_⟩,_⟩
    ·exact h
    ·exact absurd h (by decide)
   clear hQ
   obtain ⟨⟨rfl,rfl,rfl⟩,hlb,hty,ha,hb,rfl⟩:=hp
   have hE:∀i,i=5∨i=10∨i=11∨i=14∨i=15→l1++i7 i ⟨op,a0,b0,0,0,0,0,ty,lb⟩=l1++aA a0.toNat++aA b0.toNat:=fun i hi=>by
    rw [dB]
    rcases hi with rfl | rfl | rfl | rfl | rfl<;>rfl
   have c1:=be (n:=a0.toNat) (by simp only [ij,bY,cP] at ha;omega)
   rw [hE _ (by decide)]
   simp only [go_sem]
   refine aB (dX (l:=l1) (by omega) a0 ha) (by simp [go_sem,wx]) rfl ?_
   simp only [go_sem]
   refine aa (dX (l:=l1++aA a0.toNat) (by simp only [aJ];omega) b0 hb) ?_
   simp only [go_sem]
   exact aI
  ·obtain rfl:q=_:=by
    rcases hQ with ⟨_,h⟩ | ⟨⟨h,_⟩,_⟩
    ·exact h
    ·exact absurd h (by decide)
   clear hQ
   obtain ⟨⟨rfl,rfl,rfl⟩,hlb,hty,ha,rfl,rfl⟩:=hp
   simp only [go_sem]
   refine aa (dX (l:=l1) (by omega) a0 ha) ?_
   simp only [go_sem]
   exact aI
  ·obtain rfl:q=_:=by
    rcases hQ with ⟨_,h⟩ | ⟨⟨h,_⟩,_⟩
    ·exact h
    ·exact absurd h (by decide)
   clear hQ
   obtain ⟨⟨rfl,rfl,rfl⟩,hlb,hty,ha1,ha2,hb,hn2⟩:=hp
   have cc:=p8 (l:=l1) (by omega) ⟨op,a0,b0,n,0,0,0,ty,lb⟩ ha1 ha2 hb hn hn2
   simp only [dE] at cc
   simp only [go_sem]
   refine aa (cc) ?_
   simp only [go_sem]
   exact aI
  ·obtain rfl:q=_:=by
    rcases hQ with ⟨_,h⟩ | ⟨⟨h,_⟩,_⟩
    ·exact h
    ·exact absurd h (by decide)
   clear hQ
   obtain ⟨⟨rfl,rfl,rfl⟩,hlb,hty,rfl,rfl,hn2⟩:=hp
   have cc:ae Tryz.prog O1 [wx l1 0,.int .u64 n] (wx (l1++fq (Bh n)) 0):=Lw l1 0 (by omega) n
   simp only [go_sem]
   refine aa (cc) ?_
   simp only [go_sem]
   exact aI
  ·obtain rfl:q=_:=by
    rcases hQ with ⟨_,h⟩ | ⟨⟨h,_⟩,_⟩
    ·exact h
    ·exact absurd h (by decide)
   clear hQ
   obtain ⟨⟨rfl,rfl,rfl⟩,hlb,hty,rfl,rfl⟩:=hp
   have cc:ae Tryz.prog O2 [wx l1 0,.int .u64 n] (wx (l1++fq (IntKind.i64.wrap n)) 0):=Lx l1 0 (by omega) n
   simp only [go_sem]
   refine aa (cc) ?_
   simp only [go_sem]
   exact aI
  ·obtain rfl:q=_:=by
    rcases hQ with ⟨_,h⟩ | ⟨⟨h,_⟩,_⟩
    ·exact h
    ·exact absurd h (by decide)
   clear hQ
   obtain ⟨⟨rfl,rfl,rfl⟩,hlb,hty,ha,rfl,rfl⟩:=hp
   have hv:tS a0=true:=by rcases ha with rfl | rfl<;>rfl
   have cc:ae Tryz.prog At [wx l1 0,.int .i64 a0] (wx (l1++[(vo a0).1]) 0):=jk (l:=l1) (e:=0) (by omega) a0 hv
   simp only [go_sem]
   refine aa (cc) ?_
   simp only [go_sem]
   exact aI
 ·simp only [go_sem,qY]
  refine aa (a1) ?_
  simp only [go_sem]
  refine aa (qb op) ?_
  simp only [go_sem,aG ho,hw]
  refine aa (U7 (l:=l) (by omega) y) ?_
  simp only [go_sem]
  refine aa (hc) ?_
  clear hw a1 hc hz
  generalize l++[y]=l1 at *
  rcases (show i=0∨i=1∨i=2∨i=3∨i=4∨i=5∨i=6∨i=7∨i=8∨i=9∨i=10∨i=11∨i=12∨i=13∨i=14∨i=15∨i=16∨i=17∨i=18∨i=19∨i=20 by omega) with rfl | rfl | rfl | rfl | rfl | rfl | rfl | rfl | rfl | rfl | rfl | rfl | rfl | rfl | rfl | rfl | rfl | rfl | rfl | rfl | rfl
  all_goals
   simp only [Int.reduceEq,Int.reduceBEq,false_or,or_false,or_true,true_or,or_self,bF,dc,lZ,qw,bR,bY,beq_iff_eq,lg,decide_eq_false_iff_not,cP,jR] at hp
  ·obtain rfl:q=_:=by
    rcases hQ with ⟨_,h⟩ | ⟨⟨h,_⟩,_⟩
    ·exact h
    ·exact absurd h (by decide)
   clear hQ
   rw [show l1++i7 0 ⟨op,a0,b0,n,k,v,z,ty,lb⟩=l1 from gx _]
   simp only [go_sem]
   exact aI
  ·obtain rfl:q=_:=by
    rcases hQ with ⟨_,h⟩ | ⟨⟨h,_⟩,_⟩
    ·exact h
    ·exact absurd h (by decide)
   clear hQ
   obtain ⟨hlb,hty,rfl,rfl,rfl,hb⟩:=hp
   have cc:ae Tryz.prog OZ [wx l1 0,.agg [.int .i64 k,.int .i64 v,.int .i64 z]] (wx (l1++wq k v z) 0):=qc (l:=l1) (e:=0) (by omega) k v z hb
   simp only [go_sem]
   refine aa (cc) ?_
   simp only [go_sem]
   exact aI
  ·obtain rfl:q=_:=by
    rcases hQ with ⟨_,h⟩ | ⟨⟨h,_⟩,_⟩
    ·exact h
    ·exact absurd h (by decide)
   clear hQ
   obtain ⟨⟨rfl,rfl,rfl⟩,hlb,hty,ha,rfl,rfl⟩:=hp
   simp only [go_sem]
   refine aa (dX (l:=l1) (by omega) a0 ha) ?_
   simp only [go_sem]
   exact aI
  ·obtain ⟨⟨rfl,rfl,rfl⟩,hty,ha,rfl,rfl,hal⟩:=hp
   rcases hQ with ⟨hs,rfl⟩ | ⟨⟨_,hs⟩,rfl⟩
   ·have cc:=p_ (l:=l1) (by omega) ⟨op,a0,0,0,0,0,0,ty,lb⟩ hal ha (Nat.lt_of_not_le fun h=>hs ⟨rfl,h⟩)
    simp only [dE] at cc
    simp only [go_sem]
    refine aa (cc) ?_
    simp only [go_sem]
    exact aI
   ·have cc:=mE (l:=l1) (by omega) ⟨op,a0,0,0,0,0,0,ty,lb⟩ hal ha hs hlb
    simp only [dE] at cc
    simp only [go_sem]
    refine aa (cc) ?_
    simp only [go_sem]
    exact aI
  ·obtain rfl:q=_:=by
    rcases hQ with ⟨_,h⟩ | ⟨⟨h,_⟩,_⟩
    ·exact h
    ·exact absurd h (by decide)
   clear hQ
   obtain ⟨⟨rfl,rfl,rfl⟩,hlb,hty,ha,rfl,rfl⟩:=hp
   simp only [go_sem]
   refine aa (dX (l:=l1) (by omega) a0 ha) ?_
   simp only [go_sem]
   exact aI
  ·obtain rfl:q=_:=by
    rcases hQ with ⟨_,h⟩ | ⟨⟨h,_⟩,_⟩
    ·exact h
    ·exact absurd h (by decide)
   clear hQ
   obtain ⟨⟨rfl,rfl,rfl⟩,hlb,hty,ha,hb,rfl⟩:=hp
   have hE:∀i,i=5∨i=10∨i=11∨i=14∨i=15→l1++i7 i ⟨op,a0,b0,0,0,0,0,ty,lb⟩=l1++aA a0.toNat++aA b0.toNat:=fun i hi=>by
    rw [dB]
    rcases hi with rfl | rfl | rfl | rfl | rfl<;>rfl
   have c1:=be (n:=a0.toNat) (by simp only [ij,bY,cP] at ha;omega)
   rw [hE _ (by decide)]
   simp only [go_sem]
   refine aB (dX (l:=l1) (by omega) a0 ha) (by simp [go_sem,wx]) rfl ?_
   simp only [go_sem]
   refine aa (dX (l:=l1++aA a0.toNat) (by simp only [aJ];omega) b0 hb) ?_
   simp only [go_sem]
   exact aI
  ·obtain rfl:q=_:=by
    rcases hQ with ⟨_,h⟩ | ⟨⟨h,_⟩,_⟩
    ·exact h
    ·exact absurd h (by decide)
   clear hQ
   obtain ⟨⟨rfl,rfl,rfl⟩,hlb,rfl,rfl,rfl,hlen,hv⟩:=hp
   have c1:=be (n:=1) (by omega)
   have cc:ae Tryz.prog At [wx (l1++aA 1) 0,.int .i64 (ah ty 0)] (wx (l1++aA 1++[(vo (ah ty 0)).1]) 0):=jk (l:=l1++aA 1) (e:=0) (by simp only [aJ];omega) (ah ty 0) hv
   rw [show l1++i7 6 ⟨op,0,0,0,0,0,0,ty,lb⟩=l1++aA 1++[(vo (ah ty 0)).1] from (dB ..).symm]
   simp only [go_sem]
   refine aB (w_ (l:=l1) (by omega) 1 (by omega)) (by simp [go_sem,wx]) rfl ?_
   simp only [go_sem]
   refine ⟨by decide,by omega,?_⟩
   refine aa (cc) ?_
   simp only [go_sem]
   exact aI
  ·obtain rfl:q=_:=by
    rcases hQ with ⟨_,h⟩ | ⟨⟨h,_⟩,_⟩
    ·exact h
    ·exact absurd h (by decide)
   clear hQ
   obtain ⟨⟨rfl,rfl,rfl⟩,hlb,hty,ha,rfl,rfl⟩:=hp
   simp only [go_sem]
   refine aa (dX (l:=l1) (by omega) a0 ha) ?_
   simp only [go_sem]
   exact aI
  ·obtain rfl:q=_:=by
    rcases hQ with ⟨_,h⟩ | ⟨⟨h,_⟩,_⟩
    ·exact h
    ·exact absurd h (by decide)
   clear hQ
   obtain ⟨⟨rfl,rfl,rfl⟩,hlb,hty,ha,rfl,rfl⟩:=hp
   simp only [go_sem]
   refine aa (dX (l:=l1) (by omega) a0 ha) ?_
   simp only [go_sem]
   exact aI
  ·obtain rfl:q=_:=by
    rcases hQ with ⟨_,h⟩ | ⟨⟨h,_⟩,_⟩
    ·exact h
    ·exact absurd h (by decide)
   clear hQ
   obtain ⟨⟨rfl,rfl,rfl⟩,hlb,hty,ha,rfl,rfl⟩:=hp
   simp only [go_sem]
   refine aa (dX (l:=l1) (by omega) a0 ha) ?_
   simp only [go_sem]
   exact aI
  ·obtain rfl:q=_:=by
    rcases hQ with ⟨_,h⟩ | ⟨⟨h,_⟩,_⟩
    ·exact h
    ·exact absurd h (by decide)
   clear hQ
   obtain ⟨⟨rfl,rfl,rfl⟩,hlb,hty,ha,hb,rfl⟩:=hp
   have hE:∀i,i=5∨i=10∨i=11∨i=14∨i=15→l1++i7 i ⟨op,a0,b0,0,0,0,0,ty,lb⟩=l1++aA a0.toNat++aA b0.toNat:=fun i hi=>by
    rw [dB]
    rcases hi with rfl | rfl | rfl | rfl | rfl<;>rfl
   have c1:=be (n:=a0.toNat) (by simp only [ij,bY,cP] at ha;omega)
   rw [hE _ (by decide)]
   simp only [go_sem]
   refine aB (dX (l:=l1) (by omega) a0 ha) (by simp [go_sem,wx]) rfl ?_
   simp only [go_sem]
   refine aa (dX (l:=l1++aA a0.toNat) (by simp only [aJ];omega) b0 hb) ?_
   simp only [go_sem]
   exact aI
  ·obtain rfl:q=_:=by
    rcases hQ with ⟨_,h⟩ | ⟨⟨h,_⟩,_⟩
    ·exact h
    ·exact absurd h (by decide)
   clear hQ
   obtain ⟨⟨rfl,rfl,rfl⟩,hlb,hty,ha,hb,rfl⟩:=hp
   have hE:∀i,i=5∨i=10∨i=11∨i=14∨i=15→l1++i7 i ⟨op,a0,b0,0,0,0,0,ty,lb⟩=l1++aA a0.toNat++aA b0.toNat:=fun i hi=>by
    rw [dB]
    rcases hi with rfl | rfl | rfl | rfl | rfl<;>rfl
   have c1:=be (n:=a0.toNat) (by simp only [ij,bY,cP] at ha;omega)
   rw [hE _ (by decide)]
   simp only [go_sem]
   refine aB (dX (l:=l1) (by omega) a0 ha) (by simp [go_sem,wx]) rfl ?_
   simp only [go_sem]
   refine aa (dX (l:=l1++aA a0.toNat) (by simp only [aJ];omega) b0 hb) ?_
   simp only [go_sem]
   exact aI
  ·obtain rfl:q=_:=by
    rcases hQ with ⟨_,h⟩ | ⟨⟨h,_⟩,_⟩
    ·exact h
    ·exact absurd h (by decide)
   clear hQ
   obtain ⟨⟨rfl,rfl,rfl⟩,hlb,hty,ha,rfl,rfl⟩:=hp
   simp only [go_sem]
   refine aa (dX (l:=l1) (by omega) a0 ha) ?_
   simp only [go_sem]
   exact aI
  ·obtain rfl:q=_:=by
    rcases hQ with ⟨_,h⟩ | ⟨⟨h,_⟩,_⟩
    ·exact h
    ·exact absurd h (by decide)
   clear hQ
   obtain ⟨⟨rfl,rfl,rfl⟩,hlb,hty,rfl,hb,rfl⟩:=hp
   simp only [go_sem]
   refine aa (dX (l:=l1) (by omega) b0 hb) ?_
   simp only [go_sem]
   exact aI
  ·obtain rfl:q=_:=by
    rcases hQ with ⟨_,h⟩ | ⟨⟨h,_⟩,_⟩
    ·exact h
    ·exact absurd h (by decide)
   clear hQ
   obtain ⟨⟨rfl,rfl,rfl⟩,hlb,hty,ha,hb,rfl⟩:=hp
   have hE:∀i,i=5∨i=10∨i=11∨i=14∨i=15→l1++i7 i ⟨op,a0,b0,0,0,0,0,ty,lb⟩=l1++aA a0.toNat++aA b0.toNat:=fun i hi=>by
    rw [dB]
    rcases hi with rfl | rfl | rfl | rfl | rfl<;>rfl
   have c1:=be (n:=a0.toNat) (by simp only [ij,bY,cP] at ha;omega)
   rw [hE _ (by decide)]
   simp only [go_sem]
   refine aB (dX (l:=l1) (by omega) a0 ha) (by simp [go_sem,wx]) rfl ?_
   simp only [go_sem]
   refine aa (dX (l:=l1++aA a0.toNat) (by simp only [aJ];omega) b0 hb) ?_
   simp only [go_sem]
   exact aI
  ·obtain rfl:q=_:=by
    rcases hQ with ⟨_,h⟩ | ⟨⟨h,_⟩,_⟩
    ·exact h
    ·exact absurd h (by decide)
   clear hQ
   obtain ⟨⟨rfl,rfl,rfl⟩,hlb,hty,ha,hb,rfl⟩:=hp
   have hE:∀i,i=5∨i=10∨i=11∨i=14∨i=15→l1++i7 i ⟨op,a0,b0,0,0,0,0,ty,lb⟩=l1++aA a0.toNat++aA b0.toNat:=fun i hi=>by
    rw [dB]
    rcases hi with rfl | rfl | rfl | rfl | rfl<;>rfl
   have c1:=be (n:=a0.toNat) (by simp only [ij,bY,cP] at ha;omega)
   rw [hE _ (by decide)]
   simp only [go_sem]
   refine aB (dX (l:=l1) (by omega) a0 ha) (by simp [go_sem,wx]) rfl ?_
   simp only [go_sem]
   refine aa (dX (l:=l1++aA a0.toNat) (by simp only [aJ];omega) b0 hb) ?_
   simp only [go_sem]
   exact aI
  ·obtain rfl:q=_:=by
    rcases hQ with ⟨_,h⟩ | ⟨⟨h,_⟩,_⟩
    ·exact h
    ·exact absurd h (by decide)
   clear hQ
   obtain ⟨⟨rfl,rfl,rfl⟩,hlb,hty,ha,rfl,rfl⟩:=hp
   simp only [go_sem]
   refine aa (dX (l:=l1) (by omega) a0 ha) ?_
   simp only [go_sem]
   exact aI
  ·obtain rfl:q=_:=by
    rcases hQ with ⟨_,h⟩ | ⟨⟨h,_⟩,_⟩
    ·exact h
    ·exact absurd h (by decide)
   clear hQ
   obtain ⟨⟨rfl,rfl,rfl⟩,hlb,hty,ha1,ha2,hb,hn2⟩:=hp
   have cc:=p8 (l:=l1) (by omega) ⟨op,a0,b0,n,0,0,0,ty,lb⟩ ha1 ha2 hb hn hn2
   simp only [dE] at cc
   simp only [go_sem]
   refine aa (cc) ?_
   simp only [go_sem]
   exact aI
  ·obtain rfl:q=_:=by
    rcases hQ with ⟨_,h⟩ | ⟨⟨h,_⟩,_⟩
    ·exact h
    ·exact absurd h (by decide)
   clear hQ
   obtain ⟨⟨rfl,rfl,rfl⟩,hlb,hty,rfl,rfl,hn2⟩:=hp
   have cc:ae Tryz.prog O1 [wx l1 0,.int .u64 n] (wx (l1++fq (Bh n)) 0):=Lw l1 0 (by omega) n
   simp only [go_sem]
   refine aa (cc) ?_
   simp only [go_sem]
   exact aI
  ·obtain rfl:q=_:=by
    rcases hQ with ⟨_,h⟩ | ⟨⟨h,_⟩,_⟩
    ·exact h
    ·exact absurd h (by decide)
   clear hQ
   obtain ⟨⟨rfl,rfl,rfl⟩,hlb,hty,rfl,rfl⟩:=hp
   have cc:ae Tryz.prog O2 [wx l1 0,.int .u64 n] (wx (l1++fq (IntKind.i64.wrap n)) 0):=Lx l1 0 (by omega) n
   simp only [go_sem]
   refine aa (cc) ?_
   simp only [go_sem]
   exact aI
  ·obtain rfl:q=_:=by
    rcases hQ with ⟨_,h⟩ | ⟨⟨h,_⟩,_⟩
    ·exact h
    ·exact absurd h (by decide)
   clear hQ
   obtain ⟨⟨rfl,rfl,rfl⟩,hlb,hty,ha,rfl,rfl⟩:=hp
   have hv:tS a0=true:=by rcases ha with rfl | rfl<;>rfl
   have cc:ae Tryz.prog At [wx l1 0,.int .i64 a0] (wx (l1++[(vo a0).1]) 0):=jk (l:=l1) (e:=0) (by omega) a0 hv
   simp only [go_sem]
   refine aa (cc) ?_
   simp only [go_sem]
   exact aI
end
end
open Go Go.Mw
theorem Fk {n:Int} (h:-4294967296≤n∧n≤4294967295):(fq n).length≤5:=p7 (k:=4) (by omega) (by omega)
theorem rZ {n:Int} (h:ij n=true):(aA n.toNat).length≤5:=by
 obtain ⟨k,rfl,hk⟩:=jG h
 rw [ib];exact be hk
theorem DB {k v x:Int} (h:HR k v x=true):(wq k v x).length≤5:=by
 unfold HR at h
 unfold wq
 split
 ·simp
 rename_i h0
 rw [aD h0] at h
 split
 ·simp
 rename_i h1
 rw [aD h1] at h
 split at h
 ·simp only [bY,ij,cP] at h
  exact Fk (by omega)
 ·cases h
theorem DE {i:Int} (hi:0≤i∧i≤20) {x:bz} (h:Bf i true x=true) (hb:¬(i=3∧4294967296≤x.lb.length)):(i7 i x).length≤5 * x.lb.length+20:=by
 obtain ⟨op,a0,b0,n,k,v,z,ty,lb⟩:=x
 unfold Bf AZ at h
 simp only [bR] at h hb ⊢
 rcases (show i=0∨i=1∨i=2∨i=3∨i=4∨i=5∨i=6∨i=7∨i=8∨i=9∨i=10∨i=11∨i=12∨i=13∨i=14∨i=15∨i=16∨i=17∨i=18∨i=19∨i=20 by omega) with rfl | rfl | rfl | rfl | rfl | rfl | rfl | rfl | rfl | rfl | rfl | rfl | rfl | rfl | rfl | rfl | rfl | rfl | rfl | rfl | rfl
 all_goals
  simp only [Int.reduceEq,Int.reduceBEq,false_or,or_false,or_true,true_or,or_self,bF,dc,lZ,qw,bR,bY,beq_iff_eq,lg,decide_eq_false_iff_not,cP,jR] at h
  simp only [i7,Int.reduceEq,false_or,or_false,or_true,true_or,or_self,bF,dc,aJ,jP,ay]
 ·omega
 ·have:=DB h.2.2.2.2.2;omega
 ·have:=rZ h.2.2.2.1;omega
 ·have h1:=rZ h.2.2.1
  have h2:=ma h.2.2.2.2.2
  have h3:=be (n:=lb.length) (Nat.lt_of_not_le fun q=>hb ⟨rfl,q⟩)
  omega
 ·have:=rZ h.2.2.2.1;omega
 ·have h1:=rZ h.2.2.2.1
  have h2:=rZ h.2.2.2.2.1
  omega
 ·have:=be (n:=1) (by decide);omega
 ·have:=rZ h.2.2.2.1;omega
 ·have:=rZ h.2.2.2.1;omega
 ·have:=rZ h.2.2.2.1;omega
 ·have h1:=rZ h.2.2.2.1
  have h2:=rZ h.2.2.2.2.1
  omega
 ·have h1:=rZ h.2.2.2.1
  have h2:=rZ h.2.2.2.2.1
  omega
 ·have:=rZ h.2.2.2.1;omega
 ·have:=rZ h.2.2.2.2.1;omega
 ·have h1:=rZ h.2.2.2.1
  have h2:=rZ h.2.2.2.2.1
  omega
 ·have h1:=rZ h.2.2.2.1
  have h2:=rZ h.2.2.2.2.1
  omega
 ·have:=rZ h.2.2.2.1;omega
 ·obtain ⟨_,_,_,h1,h2,h3,h4⟩:=h
  have g1:=rZ h3
  have g2:=be (n:=n.toNat) (by omega)
  have g3:=be (n:=a0.toNat) (by omega)
  have g4:=be (n:=(a0+64).toNat) (by omega)
  split
  ·omega
  ·rw [aJ];omega
 ·have h1:=FM n
  have:=Fk (n:=Bh n) (by omega);omega
 ·have:=oJ (i64_in n);omega
 ·omega
theorem DC {x:bz} (h:PL x=true) (hb:¬(mX x.op=3∧4294967296≤x.lb.length)):(sW x).length≤5 * x.lb.length+30:=by
 have hk:=Ly h
 have h1:=uJ x.op hk
 have hp:Bf (mX x.op) true x=true:=by
  have h':Bf (mX x.op) (tG x.op) x=true:=h
  rwa [hk] at h'
 have h2:=DE (oB x.op) hp hb
 show (j4 x.op++i7 (mX x.op) x).length≤_
 rw [aJ]
 omega
structure jS where
 id:Int
 name:List UInt8
 bs:Option (List UInt8)
instance:Inhabited jS:=⟨⟨0,[],none⟩⟩
deriving instance DecidableEq for jS
def gb (o:Option (List UInt8)):List UInt8:=o.getD []
theorem oA (l:List UInt8):gb (some l)=l:=rfl
def nF (s:jS):List AV:=[.int .i64 s.id,.str s.name,FW s.bs]
theorem VC (s:jS):nF s=[.int .i64 s.id,.str s.name,FW s.bs]:=rfl
theorem D5 (o:Option (List UInt8)):gg (FW o)=[]:=by cases o<;>rfl
theorem OW (i:Nat) (o:Option (List UInt8)):mC i (FW o)=false:=by cases o<;>rfl
section
variable {β:Type} (o:Option (List UInt8))
end
attribute [go_sem ↓] ac D5 OW
attribute [go_sem] VC fg
def mW (id:Int):Int:=if id<1∨id>12 then 0 else if id=10 then 11 else if id=11 then 12 else if id=12 then 10 else id
def oZ (p:Int):Int:=if p<1∨p>12 then 0 else if p=10 then 12 else if p=11 then 10 else if p=12 then 11 else p
theorem Lz {id:Int} (h:id<1∨id>12):mW id=0:=by unfold mW;rw [aK h]
theorem Q9 {p:Int} (h:p<1∨p>12):oZ p=0:=by unfold oZ;rw [aK h]
theorem Pz (id:Int):0≤mW id∧mW id≤12:=by unfold mW;repeat' split<;>omega
theorem Nt (p:Int):0≤oZ p∧oZ p≤12:=by unfold oZ;repeat' split<;>omega
theorem HQ {id:Int} (h:1≤id∧id≤12):oZ (mW id)=id∧1≤mW id:=by
 have h1:¬(id<1∨id>12):=by omega
 unfold mW
 rw [aD h1]
 unfold oZ
 repeat' split
 all_goals omega
theorem yM {p:Int} (h:1≤p∧p≤12):mW (oZ p)=p∧1≤oZ p:=by
 have h1:¬(p<1∨p>12):=by omega
 unfold oZ
 rw [aD h1]
 unfold mW
 repeat' split
 all_goals omega
theorem Qk {id:Int} (h:1≤id∧id≤12):id=1∨id=2∨id=3∨id=4∨id=5∨id=6∨id=7∨id=8∨id=9∨id=10∨id=11∨id=12:=by omega
def ID:List UInt8:=[0,97,115,109,1,0,0,0]
def wL (s:jS):List UInt8:=if s.id=0 then aA s.name.length++s.name++gb s.bs else gb s.bs
def pk (s:jS):List UInt8:=UInt8.ofNat s.id.toNat :: (aA (wL s).length++wL s)
def tg (s:jS) (last:Int):Int :=
 if s.id<0∨s.id>12∨(s.id≠0∧s.name≠[]) then 4 else if s.id≠0∧mW s.id≤last then 7 else
 if s.id=0 then (if uv s.name=false then 9 else if s.name.length>64 then 6 else 0) else 0
def vS:List jS→Int→List UInt8→Int×List UInt8
 | [],_,w=>(0,w)
 | s :: r,last,w=>if tg s last≠0 then (tg s last,[]) else vS r (max last (mW s.id)) (w++pk s)
def I_ (l:List jS):Int×List UInt8:=vS l 0 ID
theorem KD {α:Type} [Inhabited α] {l:List α} {i:Nat} (h:i<l.length):l.take (i+1)=l.take i++[ah l i]:=by rw [List.take_add_one,jg h,Option.toList_some]
theorem kP {α:Type} [Inhabited α] {l:List α} {i:Nat} (h:i<l.length):l.drop i=ah l i :: l.drop (i+1):=by
 rw [List.drop_eq_getElem_cons h,← bD h]
def tot:List jS→Nat
 | []=>0
 | s :: r=>(gb s.bs).length+s.name.length+tot r
theorem oM (id:Int):ae Tryz.prog T4 [.int .i64 id] (.int .i64 (mW id)):=by
 refine ab (ic:=ui.body) aq R0 rfl rfl ?_
 by_cases h1:id<1
 ·rw [Lz (.inl h1)]
  simp only [go_sem,ui,aF h1]
  exact aj
 by_cases h2:id>12
 ·rw [Lz (.inr h2)]
  simp only [go_sem,ui,aG h1,aF h2]
  exact aj
 have h3:1≤id∧id≤12:=by omega
 have e1:OR none 1 id.toNat 0 (some ⟨3,1,[[.int .i64 0],[.int .i64 1],[.int .i64 2],[.int .i64 3],[.int .i64 4],[.int .i64 5],[.int .i64 6],[.int .i64 7],[.int .i64 8],[.int .i64 9],[.int .i64 11],[.int .i64 12],[.int .i64 10]],false⟩)=some (.int .i64 (mW id)):=by
  clear h1 h2
  rcases Qk h3 with rfl | rfl | rfl | rfl | rfl | rfl | rfl | rfl | rfl | rfl | rfl | rfl<;>rfl
 simp only [go_sem,ui,aG h1,aG h2,e1]
 exact ⟨⟨by omega,by simp;omega⟩,by exact aj⟩
theorem PM (p:Int):ae Tryz.prog US [.int .i64 p] (.int .i64 (oZ p)):=by
 refine ab (ic:=Ci.body) aq SS rfl rfl ?_
 simp only [go_sem,Ci]
 refine an (fun i:Nat=>⟨[(3,.int .i64 ((i+1:Nat):Int)),(0,.int .i64 p)],[]⟩) (fun i=>i≤12∧∀k:Nat,k<i→mW ((k+1:Nat):Int)≠p) (fun i=>12 - i) 0 ⟨by omega,fun k hk=>absurd hk (Nat.not_lt_zero k)⟩ (Wk.of ?_ ?_) ?_
 ·simp only [go_sem];simp
 ·simp only [go_sem]
 rintro i ⟨hi,hk⟩
 by_cases h1:((i+1:Nat):Int)≤12
 ·simp only [go_sem,aF h1]
  refine aa (oM ((i+1:Nat):Int)) ?_
  by_cases h2:mW ((i+1:Nat):Int)=p
  ·have r:oZ p=((i+1:Nat):Int):=by rw [← h2];exact (HQ ⟨by omega,by omega⟩).1
   rw [r]
   simp only [go_sem,bq h2]
   exact aj
  ·have w1:IntKind.i64.wrap (((i+1:Nat):Int)+1)=((i+1+1:Nat):Int):=by rw [wi (by omega) (by omega)];omega
   simp only [go_sem,aN h2]
   refine aC (i+1) ⟨by omega,fun k hk2=>?_⟩ (show 12 - (i+1)<12 - i by omega) (Wk.of ?_ ?_)
   ·rcases dT k i with h4 | h4
    ·exact hk k h4
    ·obtain rfl:k=i:=by omega
     exact h2
   ·simp only [go_sem,w1]
    try simp
   ·simp only [go_sem]
 ·simp only [go_sem,aG h1]
  have r:oZ p=0:=by
   by_cases hp:1≤p∧p≤12
   ·exfalso
    obtain ⟨g1,g2⟩:=yM hp
    have g3:=(Nt p).2
    refine hk (oZ p - 1).toNat (by omega) ?_
    rw [show (((oZ p - 1).toNat+1:Nat):Int)=oZ p by omega]
    exact g1
   ·exact Q9 (by omega)
  rw [r]
  exact aj
theorem PQ:ae Tryz.prog Uv [] (.sl 1 (ID.map dJ)):=by
 refine ab (ic:=B0.body) aq Ss rfl rfl ?_
 simp only [go_sem,B0]
 exact au [1] (by rfl) rfl
theorem oP (l m:List jS):tot (l++m)=tot l+tot m:=by
 induction l with
 | nil=>simp [tot]
 | cons s l ih=>simp only [kM,tot,ih];omega
theorem Gc {l:List jS} {i:Nat} (h:i<l.length):tot (l.take (i+1))=tot (l.take i)+(gb (ah l i).bs).length+(ah l i).name.length:=by
 rw [KD h,oP]
 simp [tot]
 omega
theorem Gb (l:List jS) (i:Nat):tot (l.take i)≤tot l:=by
 have:=oP (l.take i) (l.drop i)
 rw [List.take_append_drop] at this
 omega
end Go.Proofs.YtjndcljjbpeljaaGreatDoor