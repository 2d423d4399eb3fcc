import Derived.Test.YtjndcljjbpeljaaGreatDoorPQv
set_option linter.all false
set_option maxRecDepth 100000
set_option maxHeartbeats 40000000
namespace Go.Proofs.YtjndcljjbpeljaaGreatDoor
section
open Go Go.Mw
def QR {α:Type} (r:Rd α) (Q:α→Nat→Prop):Prop:=∀x k,r = .ok (x,k)→Q x k
variable {b:List UInt8}
def U3 (l:List bz):Prop:=∀y∈l,(0≤y.n∧y.n<18446744073709551616)∧y.lb.length≤64∧y.ty.length≤1
structure RdM (n:Nat) (m:Md):Prop where
 tot:nI m≤n
 ts:m.ts.length≤64∧∀x∈m.ts,x.ps.length≤8∧x.rs.length≤8
 ims:m.ims.length≤32
 fs:m.fs.length≤64∧∀x∈m.fs,x.lo.length≤64∧x.b.length≤2048∧U3 x.b
 tbs:m.tbs.length≤4
 ms:m.ms.length≤2
 gs:m.gs.length≤32∧∀x∈m.gs,x.i.length≤2048∧U3 x.i
 exs:m.exs.length≤64
 els:m.els.length≤16∧∀x∈m.els,(x.o.length≤2048∧U3 x.o)∧x.it.length≤256∧∀l∈x.it,l.length≤2048∧U3 l
 ds:m.ds.length≤16∧∀x∈m.ds,(x.o.length≤2048∧U3 x.o)∧x.b.length≤4096
 cs:m.cs.length≤8∧∀x∈m.cs,x.b.length≤4096
end
section
open Go Go.Mw
variable {b:List UInt8} (hb:b.length<1000000000)
include hb
end
section
open Go Go.Mw
variable {d:Dc} {s:jS} {x:List UInt8} (hs:s.bs=some x) (hx:x.length<1000000000) (h0:¬s.id=0)
include hs hx h0
end
section
open Go Go.Mw
variable {d:Dc} {s:jS} {x:List UInt8} (hs:s.bs=some x) (hx:x.length<1000000000) (h0:¬s.id=0)
include hs hx h0
end
open Go Go.Mw
section
def IC (m:Md):List Bool:=[decide ((m.ts.length:Int)>0),decide ((m.ims.length:Int)>0),decide ((m.fs.length:Int)>0),decide ((m.tbs.length:Int)>0),decide ((m.ms.length:Int)>0),decide ((m.gs.length:Int)>0),decide ((m.exs.length:Int)>0),m.hs,decide ((m.els.length:Int)>0),decide ((m.ds.length:Int)>0),decide ((m.fs.length:Int)>0),decide ((m.ds.length:Int)>0)]
def qI:Nat→List Bool→List Int
 | _,[]=>[]
 | k,b :: l=>(if b=true then [(k:Int)] else [])++qI (k+1) l
theorem ym:∀(a b:List Bool) (k:Nat),qI k (a++b)=qI k a++qI (k+a.length) b
 | [],b,k=>by simp [qI]
 | x :: a,b,k=>by
  rw [kM,qI,qI,ym a b,aQ,dB]
  congr 3
  omega
theorem yn:∀(a:List Bool) (k:Nat),(qI k a).length≤a.length
 | [],k=>bj _
 | x :: a,k=>by
  have:=yn a (k+1)
  rw [qI,aJ,aQ]
  split<;>simp<;>omega
theorem Ol (n:Nat) (p:Int):(if decide ((n:Int)>0)=true then [p] else [])=oH (n>0) p:=by
 unfold oH
 by_cases h:n>0
 ·rw [aK h,aK (aF (by omega))]
 ·rw [aD h,aG (by omega),aD (by decide)]
theorem JT (m:Md):jI m=qI 1 (IC m):=by
 rw [lR]
 unfold IC
 simp only [qI,Ol,dB,gx]
 rfl
theorem Tu {l:List Bool} {i:Nat} (h:i<l.length):qI 1 (l.take (i+1))=qI 1 (l.take i)++if ah l i=true then [((i:Int)+1)] else []:=by
 rw [fv h,ym,lh]
 congr 1
 rw [qI,qI,gx]
 have e:((1+min i l.length:Nat):Int)=(i:Int)+1:=by omega
 rw [e]
attribute [local go_sem] cY aV
theorem vv (m:Md):ae Tryz.prog Zn [bJ m] (.sl 1 ((jI m).map ri)):=by
 refine ab (ic:=MD.body) aq Xz rfl rfl ?_
 rw [JT]
 simp only [go_sem,MD,bJ]
 obtain ⟨H,hH⟩:∃H,IC m=H:=⟨_,rfl⟩
 have hl:H.length=12:=by rw [← hH];rfl
 rw [hH]
 refine an (fun i:Nat=>⟨[(5,.int .i64 i),(4,.ms 900 1 0 (qI 1 (H.take i)).length),(3,.sl 1 (H.map rt))],[(900,⟨3,1,(qI 1 (H.take i)).map ri,false⟩)]⟩) (fun i=>i≤H.length) (fun i=>H.length - i) 0 (cE _) (((Wk.frzs [52] _).trans (Wk.nil _ 4 900 1 3 (by simp only [go_sem]) (.inl (by decide)))).trans (Wk.of ?_ ?_)) ?_
 ·simp only [go_sem,St.mknil,← hH];try simp [IC,qI,rt]
 ·simp only [go_sem,St.mknil];try simp [go_sem,qI]
 intro i hi
 have hln:=yn (H.take i) 1
 rw [lh] at hln
 by_cases q:(i:Int)<(H.length:Int)
 rotate_left
 ·obtain rfl:i=H.length:=by omega
  rw [dj]
  simp only [go_sem,aG q]
  refine au [900] ?_ rfl
  simp only [go_sem,bj]
  rw [dS (by simp)]
 have hi':i<H.length:=by omega
 have e8:=eS hi' (by omega)
 have hs:=Tu hi'
 have happ:=fun ys=>bu 900 3 1 (qI 1 (H.take i)).length ri (qI 1 (H.take i)) ys rfl
 cases hb:ah H i
 ·rw [hb,aD (by decide),gx] at hs
  simp only [go_sem,aF q,hb]
  refine ⟨by omega,q,?_⟩
  refine aC (i+1) (show i+1≤H.length by omega) (show H.length - (i+1)<H.length - i by omega) (Wk.of ?_ ?_)
  ·simp only [go_sem,e8,hs];try simp
  ·simp only [go_sem,hs];try simp [go_sem]
 ·rw [hb,aK rfl] at hs
  simp only [go_sem,aF q,hb,e8,happ]
  refine ⟨by omega,q,by omega,?_⟩
  refine aC (i+1) (show i+1≤H.length by omega) (show H.length - (i+1)<H.length - i by omega) (Wk.of ?_ ?_)
  ·simp only [go_sem,e8,hs];try simp
  ·simp only [go_sem,hs];try simp [go_sem]
end
section
attribute [local go_sem high] yF vb vc u_ ve u9 vf va
theorem nx (op:Int):ae Tryz.prog ZL [.int .i64 op] (.bool (GQ op)):=by
 refine ab (ic:=M3.body) aq X4 rfl rfl ?_
 simp only [M3,go_sem]
 refine ⟨fun h=>au [] ?_ rfl,fun h=>⟨fun h2=>au [] ?_ rfl,fun h2=>au [] ?_ rfl⟩⟩ <;>
  simp [go_sem,GQ, *]
theorem pV (B:List bz) (m:Nat) (hm:m≤B.length) (hn:B.length<1000000):ae Tryz.prog T2 [.sl 9 (B.map bG),.int .i64 m] (.sl 1 ((bM B m).map ri)):=by
 refine ab (ic:=BG.body) aq RY rfl rfl ?_
 simp only [BG,go_sem]
 refine an (fun q:Nat×List Int=>⟨[(6,.int .i64 q.1),(5,.ms 7 1 0 (bM B q.1).length),(0,.sl 9 (B.map bG)),(1,.int .i64 m)],[(7,⟨3,1,(bM B q.1++q.2).map ri,false⟩)]⟩) (fun q=>q.1≤m) (fun q=>m - q.1) (0,[]) (cE _) (Wk.of ?_ ?_) ?_
 ·simp [go_sem,bM]
 ·simp [go_sem,bM]
 rintro ⟨i,J⟩ hi
 have hl:=mz B i
 simp only [go_sem] at hi ⊢
 refine ⟨fun h=>⟨by omega,by omega,ck (nx _) (by simp [go_sem]) ?_⟩,fun h=>au [7] ?_ rfl⟩
 ·simp only [go_sem,zB 7 3 1 (bM B i).length ri (bM B i++J) _ (by simp)]
  refine ⟨fun hb=>⟨by omega,by omega,by omega,fun h11=>?_,fun h11=>aC (i+1,[]) (show i+1≤m by omega) (show m - (i+1)<m - i by omega) (Wk.of ?_ ?_)⟩,fun hb=>⟨by omega,by omega,fun h11=>⟨fun hp=>⟨?_,aC (i+1,(bM B i).drop ((bM B i).length - 1)++J) (show i+1≤m by omega) (show m - (i+1)<m - i by omega) (Wk.of ?_ ?_)⟩,fun hp=>aC (i+1,J) (show i+1≤m by omega) (show m - (i+1)<m - i by omega) (Wk.of ?_ ?_)⟩,fun h11=>aC (i+1,J) (show i+1≤m by omega) (show m - (i+1)<m - i by omega) (Wk.of ?_ ?_)⟩⟩
  ·simp [GQ] at hb h11
   omega
  ·simp [go_sem,wi (n:=i+1) (by omega) (by omega),bM,pW,hb]
  ·simp [go_sem,bM,pW,hb]
  ·rw [wi (by omega) (by omega)];omega
  ·simp [go_sem,wi (n:=i+1) (by omega) (by omega),wi (n:=(bM B i).length - 1) (by omega) (by omega),bM,pW,hb,h11]
  ·simp [go_sem,bM,pW,hb,h11,List.dropLast_eq_take]
   rw [← dB,← List.map_append,List.take_append_drop,List.map_append]
  ·have h0:bM B i=[]:=nJ (by omega)
   simp [go_sem,wi (n:=i+1) (by omega) (by omega),bM,pW,hb,h11,h0]
  ·have h0:bM B i=[]:=nJ (by omega)
   simp [go_sem,bM,pW,hb,h11,h0]
  ·simp [go_sem,wi (n:=i+1) (by omega) (by omega),bM,pW,hb,h11]
  ·simp [go_sem,bM,pW,hb,h11]
 ·have:i=m:=by omega
  subst this
  simp [go_sem]
theorem Au {B:List bz} {h:Int} {i m:Nat} (hi:i≤m) (he:pQ B h i=true):pQ B h m=true:=by
 simp only [pQ,List.any_eq_true,List.mem_range] at he ⊢
 obtain ⟨j,h1,h2⟩:=he
 exact ⟨j,by omega,h2⟩
theorem E1 (B:List bz) (h':Int) (m:Nat) (h1:-1≤h') (h2:h'<m) (hm:m≤B.length) (hn:B.length<1000000):ae Tryz.prog T1 [.sl 9 (B.map bG),.int .i64 h',.int .i64 m] (.bool (pQ B h' m)):=by
 refine ab (ic:=BF.body) aq RW rfl rfl ?_
 simp only [BF,go_sem,wi (n:=h'+1) (by omega) (by omega)]
 refine an (fun i:Nat=>⟨[(7,.int .i64 i),(0,.sl 9 (B.map bG)),(1,.int .i64 h'),(2,.int .i64 m),(6,.bool false)],[]⟩) (fun i=>h'<i∧i≤m∧pQ B h' i=false) (fun i=>m - i) (h'+1).toNat ⟨by omega,by omega,?_⟩ (Wk.of ?_ ?_) ?_
 ·simp only [pQ,List.any_eq_false]
  intro j hj
  simp at hj ⊢
  omega
 ·simp [go_sem]
  omega
 ·simp [go_sem]
 rintro i ⟨hi,him,he⟩
 have hl:=mz B i
 simp only [go_sem]
 refine ⟨fun h=>ck (pV B i (by omega) hn) (by simp [go_sem]) ?_,fun h=>au [] ?_ rfl⟩
 ·have hw:(IntKind.i64.wrap (↑(bM B i).length - 1))=((bM B i).length:Int) - 1:=wi (by omega) (by omega)
  have hnt:((bM B i).length - 1:Int).toNat=(bM B i).length - 1:=by omega
  simp only [go_sem,hw,hnt]
  have hstep:=Av B h' i
  refine ⟨by omega,by omega,fun h5=>⟨fun hp=>⟨by omega,by omega,fun hh=>au [] ?_ rfl,fun hh=>?_⟩,fun hp=>?_⟩,fun h5=>?_⟩
  ·have:pQ B h' m=true:=by
    refine Au (i:=i+1) (by omega) ?_
    rw [hstep,he,h5]
    simp only [Ax]
    simp [hh,hi]
    omega
   simp [go_sem,this]
  all_goals refine aC (i+1) ⟨by omega,by omega,?_⟩ (by omega) (Wk.of (by simp [go_sem,wi (n:=i+1) (by omega) (by omega)]) (by simp [go_sem]))
  ·rw [hstep,he];simp only [Ax];simp [hh]
  ·rw [hstep,he];simp;omega
  ·rw [hstep,he,h5];simp
 ·have:i=m:=by omega
  subst this
  simp [go_sem,he]
theorem gM (B:List bz) (hn:B.length<1000000):ae Tryz.prog T0 [.sl 9 (B.map bG)] (.tup [.int .i64 (nchk B).1,.int .i64 (nchk B).2]):=by
 refine ab (ic:=BE.body) aq RV rfl rfl ?_
 simp only [BE,go_sem]
 refine an (fun i:Nat=>⟨[(4,.int .i64 i),(0,.sl 9 (B.map bG))],[]⟩) (fun i=>i≤B.length∧∀j,j<i→eT B j=0) (fun i=>B.length - i) 0 ⟨cE _,fun j hj=>absurd hj (Nat.not_lt_zero _)⟩ (Wk.of ?_ ?_) ?_
 ·simp [go_sem]
 ·simp [go_sem]
 rintro i ⟨hi,he⟩
 replace hi:i≤B.length:=hi
 have hl:=mz B i
 have hne:∀j,j<i→0<(bM B j).length:=fun j hj=>Js (he j hj)
 have hw:(IntKind.i64.wrap (↑(bM B i).length - 1))=((bM B i).length:Int) - 1:=wi (by omega) (by omega)
 have hnt:((bM B i).length - 1:Int).toNat=(bM B i).length - 1:=by omega
 have hhd:ah (bM B i) ((bM B i).length - 1)=Ax B i:=rfl
 simp only [go_sem]
 refine ⟨fun h=>ck (pV B i (by omega) hn) (by simp [go_sem]) ?_,fun h=>ck (pV B B.length (by omega) hn) (by simp [go_sem]) ?_⟩
 ·simp only [go_sem,hw,hnt,hhd]
  have h':i<B.length:=by omega
  refine ⟨fun h0=>au [] ?_ rfl,fun h0=>?_⟩
  ·have h0':(bM B i).length=0:=by simp at h0;simp [h0]
   have h16:eT B i=16:=by simp only [eT,h0',bF]
   rw [my h' he (by rw [h16];decide),h16]
   simp [go_sem]
  ·have h0':0<(bM B i).length:=by simp at h0;cases hr:bM B i with | nil=>exact absurd hr h0 | cons=>simp
   obtain ⟨hb1,hb2⟩:=wY hne h0'
   refine ⟨by omega,by omega,by omega,by omega,?_⟩
   have h16:dM B i=true→eT B i=16:=fun hb=>by simp only [eT,hb,aD (Nat.ne_of_gt h0'),bF]
   have h00:dM B i=false→(GQ (ah B i).op&&decide (32≤(bM B i).length))=false→eT B i=0:=fun hb hc=>by simp only [eT,hb,hc,aD (Nat.ne_of_gt h0')];rfl
   have h6:dM B i=false→(GQ (ah B i).op&&decide (32≤(bM B i).length))=true→eT B i=6:=fun hb hc=>by simp only [eT,hb,hc,aD (Nat.ne_of_gt h0')];rfl
   have hsucc:eT B i=0→∀j,j<i+1→eT B j=0:=fun h0 j hj=>by
    rcases Nat.lt_or_eq_of_le (Nat.le_of_lt_succ hj) with h1 | h1
    ·exact he j h1
    ·rw [h1];exact h0
   have hp16:dM B i=true→nchk B=((i:Int),16):=fun hb=>by rw [my h' he (by rw [h16 hb];decide),h16 hb]
   refine ⟨fun h5=>⟨fun hneg=>au [] ?_ rfl,fun hneg=>⟨by omega,by omega,fun h4=>au [] ?_ rfl,fun h4=>ck (E1 B (Ax B i) i (by omega) (by omega) (by omega) hn) (by simp [go_sem]) ?_⟩⟩,fun h5=>?_⟩
   ·rw [hp16 (by simp [dM,h5,hneg])]
    simp [go_sem]
   ·rw [hp16 (by simp [dM,h5,h4])]
    simp [go_sem]
   ·simp only [go_sem]
    refine ⟨fun hel=>au [] ?_ rfl,fun hel=>⟨by omega,by omega,ck (nx _) (by simp [go_sem]) ?_⟩⟩
    ·rw [hp16 (by simp [dM,h5,hel])]
     simp [go_sem]
    ·have hbe:dM B i=false:=by simp [dM,h4,hel];intro _;omega
     simp only [go_sem]
     refine ⟨fun hb=>⟨fun h32=>au [] ?_ rfl,fun h32=>aC (i+1) ⟨by omega,hsucc (h00 hbe ?_)⟩ (by omega) (Wk.of ?_ ?_)⟩,fun hb=>aC (i+1) ⟨by omega,hsucc (h00 hbe ?_)⟩ (by omega) (Wk.of ?_ ?_)⟩
     ·have:=h6 hbe (by simp [hb];omega)
      rw [my h' he (by rw [this];decide),this]
      simp [go_sem]
     ·simp;omega
     ·simp [go_sem,wi (n:=i+1) (by omega) (by omega)]
     ·simp [go_sem]
     ·simp [hb]
     ·simp [go_sem,wi (n:=i+1) (by omega) (by omega)]
     ·simp [go_sem]
   ·refine ⟨by omega,by omega,ck (nx _) (by simp [go_sem]) ?_⟩
    have hbe:dM B i=false:=by simp [dM,h5]
    simp only [go_sem]
    refine ⟨fun hb=>⟨fun h32=>au [] ?_ rfl,fun h32=>aC (i+1) ⟨by omega,hsucc (h00 hbe ?_)⟩ (by omega) (Wk.of ?_ ?_)⟩,fun hb=>aC (i+1) ⟨by omega,hsucc (h00 hbe ?_)⟩ (by omega) (Wk.of ?_ ?_)⟩
    ·have:=h6 hbe (by simp [hb];omega)
     rw [my h' he (by rw [this];decide),this]
     simp [go_sem]
    ·simp;omega
    ·simp [go_sem,wi (n:=i+1) (by omega) (by omega)]
    ·simp [go_sem]
    ·simp [hb]
    ·simp [go_sem,wi (n:=i+1) (by omega) (by omega)]
    ·simp [go_sem]
 ·have:i=B.length:=by omega
  subst this
  simp only [go_sem]
  rw [u5 he]
  refine ⟨fun h0=>au [] ?_ rfl,fun h0=>au [] ?_ rfl⟩
  ·rw [aK (by omega)]
   simp [go_sem]
  ·rw [aD (by omega)]
   simp [go_sem]
end
end Go.Proofs.YtjndcljjbpeljaaGreatDoor