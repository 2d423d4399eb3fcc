import Derived.Test.YtjndcljjbpeljaaGreatDoorPQk
set_option linter.all false
set_option maxRecDepth 100000
set_option maxHeartbeats 40000000
namespace Go.Proofs.YtjndcljjbpeljaaGreatDoor
open Go Go.Mw
def uU (x:Im):Int:=if fk x.m≠0 then fk x.m else if fk x.n≠0 then fk x.n else if x.k<0∨x.k>3∨gy x≠x then 1 else if x.k=1 then uc ⟨x.te,x.tl⟩ else if x.k=2 then vT x.me else if x.k=3 then IB x.g else if iz x.f=false then 11 else 0
def sg (P:bz→Bool):List (List bz)→Int×Int
 | []=>(0,0)
 | l :: r=>if (gp P l).2≠0 then gp P l else sg P r
def S8 (P:bz→Bool) (x:El):Int×Int :=
 if x.mo<0∨x.mo>2∨(x.mo≠0∧(x.tb≠0∨x.o.length>0)) then (0,1) else if iz x.tb=false then (0,11) else if vC x.ty=false then (0,12) else if x.it.length>256 then (0,6) else sg P (x.o :: x.it)
def Tg (P:bz→Bool) (x:Gd):Int×Int:=if IB x.g≠0 then (0,IB x.g) else gp P x.i
def ju (k:Int) (l:List Im):Nat:=(l.filter fun x=>x.k==k).length
theorem NF {k:Int} {l:List Im} {i:Nat} (h:i<l.length):ju k (l.take (i+1))=ju k (l.take i)+(if (ah l i).k=k then 1 else 0):=by
 unfold ju
 rw [lU h,List.filter_append,aJ]
 by_cases q:(ah l i).k=k<;>simp [q]
theorem m7 (k:Int) (l:List Im):ju k l≤l.length:=List.length_filter_le _ _
def dq:Fa:=⟨0,0,0,0⟩
def OU (m:Md):Fa:=jh 1 64 0 (m.ts.map (fun x=>(0,qF x))) dq
def QP (m:Md):Fa:=jh 2 32 0 (m.ims.map (fun x=>(0,uU x))) (OU m)
def QQ (m:Md):Fa:=jh 3 64 (ju 0 m.ims:Nat) (m.fs.map (fun x=>(0,tY x))) (QP m)
def QS (m:Md):Fa:=jh 4 4 (ju 1 m.ims:Nat) (m.tbs.map (fun x=>(0,uc x))) (QQ m)
def QT (m:Md):Fa:=jh 5 2 (ju 2 m.ims:Nat) (m.ms.map (fun x=>(0,vT x))) (QS m)
def QU (P:bz→Bool) (m:Md):Fa:=jh 6 32 (ju 3 m.ims:Nat) (m.gs.map (Tg P)) (QT m)
def OV (P:bz→Bool) (m:Md):Fa:=jh 7 64 0 (m.exs.map (fun x=>(0,x7 x))) (QU P m)
def Ln (P:bz→Bool) (m:Md):Fa:=if m.hs=true∧iz m.st=false then fh (OV P m) 8 0 0 11 else OV P m
def QV (P:bz→Bool) (m:Md):Fa:=jh 9 16 0 (m.els.map (S8 P)) (Ln P m)
def As (P:bz→Bool) (m:Md):Fa:=jh 10 16 0 (m.ds.map (SZ P)) (QV P m)
def uZ (P:bz→Bool) (m:Md):Fa:=jh 11 8 0 (m.cs.map (fun x=>(0,uD x))) (As P m)
def pG (P:bz→Bool) (m:Md):Fa:=if (uZ P m).c=0 then jh 12 (m.fs.length:Int) 0 (m.fs.map (fun x=>gp P x.b)) (uZ P m) else uZ P m
section
def dQ (F:Fa):AV:=.agg [.int .i64 F.p,.int .i64 F.i,.int .i64 F.l,.int .i64 F.c]
def db (p i e:Int):Fa:=if e=0 then dq else ⟨p,i,0,e⟩
def kx (p n most:Int):Fa:=if n>most then ⟨p,if most<0 then 0 else most,0,6⟩ else dq
attribute [local go_sem] cY aV dz dE bG dQ
theorem ji (p i e:Int):ae Tryz.prog UR [.int .i64 p,.int .i64 i,.int .i64 e] (dQ (db p i e)):=by
 refine ab (ic:=xT.body) aq SR rfl rfl ?_
 unfold db
 by_cases h:e=0
 ·rw [aK h]
  simp only [go_sem,xT,bq h]
  exact au [] (by simp only [go_sem];try rfl) (by rfl)
 ·rw [aD h]
  simp only [go_sem,xT,aN h]
  exact au [] (by simp only [go_sem];try rfl) (by rfl)
theorem iV (p n most:Int):ae Tryz.prog Uo [.int .i64 p,.int .i64 n,.int .i64 most] (dQ (kx p n most)):=by
 refine ab (ic:=xO.body) aq Sl rfl rfl ?_
 have c:=ji p (if most<0 then 0 else most) 6
 rw [show db p (if most<0 then 0 else most) 6 =⟨p,if most<0 then 0 else most,0,6⟩ from rfl] at c
 unfold kx
 by_cases h:n>most
 ·rw [aK h]
  simp only [go_sem,xO,aF h]
  refine aa (c) ?_
  simp only [go_sem]
  exact au [] (by simp only [go_sem];try rfl) (by rfl)
 ·rw [aD h]
  simp only [go_sem,xO,aG h]
  exact au [] (by simp only [go_sem];try rfl) (by rfl)
theorem dm (F:Fa):ae Tryz.prog Ur [dQ F] (.bool (F.c==0)):=by
 refine ab (ic:=BW.body) aq So rfl rfl ?_
 simp only [go_sem,BW]
 exact aj
theorem jj (i:Int):ae Tryz.prog TT [.int .i64 i] (.bool (iz i)):=by
 refine ab (ic:=uh.body) aq RN rfl rfl ?_
 unfold iz
 by_cases h:(0:Int)≤i
 ·by_cases h2:i≤4294967295
  ·simp only [go_sem,uh,aF (show i≥0 from h),aF h2]
   exact au [] (by simp only [go_sem,aF h,aF (show i<4294967296 by omega),bR]) (by first | rfl | simp [go_sem,ac])
  ·simp only [go_sem,uh,aF (show i≥0 from h),aG h2]
   exact au [] (by simp only [go_sem,aF h,aG (show ¬i<4294967296 by omega),Bool.and_false]) (by first | rfl | simp [go_sem,ac])
 ·simp only [go_sem,uh,aG (show ¬i≥0 from h)]
  exact au [] (by simp only [go_sem,aG h,cF]) (by first | rfl | simp [go_sem,ac])
def ov (P:bz→Bool) (p i:Int) (l:List bz):Fa:=if (gp P l).2=0 then dq else ⟨p,i,(gp P l).1,(gp P l).2⟩
theorem nz (P:bz→Bool) (p it:Int) (l:List bz) (hl:xr l) (hP:∀x∈l,ae Tryz.prog mw [jF x] (.bool (P x))):ae Tryz.prog UJ [.int .i64 p,.int .i64 it,.sl 9 (l.map bG)] (dQ (ov P p it l)):=by
 refine ab (ic:=xS.body) aq SJ rfl rfl ?_
 unfold ov gp
 by_cases q1:(l.length:Int)>2048
 ·rw [aK (show l.length>2048 by omega),aD (by decide)]
  simp only [go_sem,xS,aF q1]
  exact au [] (by simp only [go_sem];try rfl) (by rfl)
 rw [aD (show ¬l.length>2048 by omega)]
 obtain ⟨G,hG⟩:∃G,qQ P 0 l=G:=⟨_,rfl⟩
 rw [hG]
 simp only [go_sem,xS,aG q1]
 refine an (fun j:Nat=>⟨[(7,.int .i64 j),(2,.sl 9 (l.map bG)),(0,.int .i64 p),(1,.int .i64 it),(6,.mp 6 4 0 0)],[(6,⟨73,4,[[.int .i64 0,.int .i64 0,.int .i64 0,.int .i64 0]],true⟩)]⟩) (fun j=>j≤l.length∧G=qQ P j (l.drop j)) (fun j=>l.length - j) 0 ⟨cE _,hG.symm⟩ (Wk.of ?_ ?_) ?_
 ·simp only [go_sem];try simp
 ·simp only [go_sem]
 rintro j ⟨hj,hx⟩
 by_cases h1:(j:Int)<(l.length:Int)
 rotate_left
 ·rw [bB (by omega)] at hx
  obtain rfl:G=(0,0):=hx
  simp only [go_sem,aG h1]
  exact au [] (by simp only [go_sem];try rfl) (by rfl)
 have hj':j<l.length:=by omega
 have e8:=eS hj' (by have:=hl.1;omega)
 have cc:=bp hP hj'
 simp only [dE] at cc
 rw [Ko hj'] at hx
 cases hp:P (ah l j)
 ·rw [hp] at cc hx
  obtain rfl:G=((j:Int),10):=hx
  simp only [go_sem,aF h1]
  refine ⟨by omega,h1,?_⟩
  refine aa (cc) ?_
  simp only [go_sem]
  exact au [] (by simp only [go_sem];try rfl) (by rfl)
 rw [hp] at cc hx
 rw [aD (by decide)] at hx
 by_cases q2:((ah l j).lb.length:Int)>64
 ·rw [aK (by omega)] at hx
  subst hx
  simp only [go_sem,aF h1]
  refine ⟨by omega,h1,?_⟩
  refine aa (cc) ?_
  simp only [go_sem,aF q2]
  refine ⟨by omega,h1,?_⟩
  exact au [] (by simp only [go_sem];try rfl) (by rfl)
 rw [aD (by omega)] at hx
 simp only [go_sem,aF h1]
 refine ⟨by omega,h1,?_⟩
 refine aa (cc) ?_
 simp only [go_sem,aG q2]
 refine ⟨by omega,h1,aC (j+1) ⟨show j+1≤l.length by omega,hx⟩ (show l.length - (j+1)<l.length - j by omega) (Wk.of ?_ ?_)⟩
 ·simp only [go_sem,e8];try simp
 ·simp only [go_sem]
end
section
attribute [local go_sem] cY aV dz dO c_
theorem Fz (t:Int):ae Tryz.prog Lt [.int .i64 t] (.bool (j8 t)):=by
 refine ab (ic:=qX.body) aq KX rfl rfl ?_
 have hv:j8 t=(decide (t≥1)&&decide (t≤4)):=by
  rw [Bool.eq_iff_iff]
  simp only [j8,Wd,vC,jR,beq_iff_eq,bY,cP]
  omega
 rw [hv]
 cases h:decide (t≥1)
 ·simp only [go_sem,qX,h]
  exact au [] (by simp only [go_sem,cF]) (by first | rfl | simp [go_sem,ac])
 ·simp only [go_sem,qX,h]
  exact au [] (by simp only [go_sem,bR]) (by first | rfl | simp [go_sem,ac])
theorem Fw (t:Int):ae Tryz.prog UG [.int .i64 t] (.bool (vC t)):=by
 refine ab (ic:=xR.body) aq SG rfl rfl ?_
 unfold vC
 cases h:(t==3)
 ·simp only [go_sem,xR,h]
  exact au [] (by simp only [go_sem,qw]) (by first | rfl | simp [go_sem,ac])
 ·simp only [go_sem,xR,h]
  exact au [] (by simp only [go_sem,lZ]) (by first | rfl | simp [go_sem,ac])
theorem Fs (l:Lm) (most:Int):ae Tryz.prog ZH [.agg (Jm l),.int .i64 most] (.bool (GP l most)):=by
 refine ab (ic:=vU.body) aq X0 rfl rfl ?_
 unfold GP
 by_cases q1:l.mn<0
 ·rw [aK (.inl q1)]
  simp only [go_sem,vU,aF q1]
  exact aj
 by_cases q2:l.mn>most
 ·rw [aK (.inr q2)]
  simp only [go_sem,vU,aG q1,aF q2]
  exact aj
 rw [aD (by omega)]
 cases hh:l.hs
 ·rw [aK rfl]
  simp only [go_sem,vU,aG q1,aG q2,hh]
  exact aj
 ·rw [aD (by decide)]
  by_cases q3:l.mn≤l.mx
  ·simp only [go_sem,vU,aG q1,aG q2,hh,aF (show l.mx≥l.mn from q3)]
   exact au [] (by simp only [go_sem,aF q3,bR]) (by first | rfl | simp [go_sem,ac])
  ·simp only [go_sem,vU,aG q1,aG q2,hh,aG (show ¬l.mx≥l.mn from q3)]
   exact au [] (by simp only [go_sem,aG q3,cF]) (by first | rfl | simp [go_sem,ac])
theorem LA (g:Gl):ae Tryz.prog ZG [.agg [.int .i64 g.v,.bool g.mu]] (.bool (j8 g.v)):=by
 refine ab (ic:=MZ.body) aq XZ rfl rfl ?_
 simp only [go_sem,MZ]
 refine aa (Fz g.v) ?_
 simp only [go_sem]
 exact aj
theorem tJ (l:List Int) (hl:l.length≤9223372036854775807):ae Tryz.prog Us [.sl 1 (l.map gD)] (.bool (iD l)):=by
 refine ab (ic:=BX.body) aq Sp rfl rfl ?_
 obtain ⟨G,hG⟩:∃G,iD l=G:=⟨_,rfl⟩
 rw [hG]
 simp only [go_sem,BX]
 refine an (fun k:Nat=>⟨[(3,.int .i64 k),(0,.sl 1 (l.map gD))],[]⟩) (fun k=>k≤l.length∧G=iD (l.drop k)) (fun k=>l.length - k) 0 ⟨cE _,hG.symm⟩ (Wk.of ?_ ?_) ?_
 ·simp only [go_sem];try simp
 ·simp only [go_sem]
 rintro k ⟨hk,hy⟩
 by_cases h5:(k:Int)<(l.length:Int)
 ·have hk':k<l.length:=by omega
  rw [Qs hk'] at hy
  have e9:=eS hk' (by omega)
  have cc:=Fz (ah l k)
  cases hb:j8 (ah l k)
  ·rw [hb] at cc hy
   obtain rfl:G=false:=hy
   simp only [go_sem,aF h5]
   refine ⟨by omega,h5,?_⟩
   refine aa (cc) ?_
   simp only [go_sem]
   exact aj
  ·rw [hb,bR] at hy
   rw [hb] at cc
   simp only [go_sem,aF h5]
   refine ⟨by omega,h5,?_⟩
   refine aa (cc) ?_
   simp only [go_sem]
   refine aC (k+1) ⟨show k+1≤l.length by omega,hy⟩ (show l.length - (k+1)<l.length - k by omega) (Wk.of ?_ ?_)
   ·simp only [go_sem,e9];try simp
   ·simp only [go_sem]
 ·rw [bB (by omega)] at hy
  obtain rfl:G=true:=hy
  simp only [go_sem,aG h5]
  exact aj
theorem Fx (x:Tb):ae Tryz.prog TY [.agg (Qg x)] (.int .i64 (uc x)):=by
 refine ab (ic:=BC.body) aq RT rfl rfl ?_
 have c1:=Fw x.e
 have c2:=Fs x.l 1024
 unfold uc
 simp only [go_sem,BC]
 refine aa (c1) ?_
 cases vC x.e
 ·simp only [go_sem]
  exact au [] (by simp only [go_sem];try rfl) (by rfl)
 ·simp only [go_sem]
  refine aa (c2) ?_
  cases GP x.l 1024
  ·simp only [go_sem]
   exact au [] (by simp only [go_sem];try rfl) (by rfl)
  ·simp only [go_sem]
   exact au [] (by simp only [go_sem];try rfl) (by rfl)
theorem Fu (l:Lm):ae Tryz.prog UH [.agg (Jm l)] (.int .i64 (vT l)):=by
 refine ab (ic:=Cb.body) aq SH rfl rfl ?_
 have c2:=Fs l 256
 unfold vT
 simp only [go_sem,Cb]
 refine aa (c2) ?_
 cases GP l 256
 ·simp only [go_sem]
  exact au [] (by simp only [go_sem];try rfl) (by rfl)
 ·simp only [go_sem]
  exact au [] (by simp only [go_sem];try rfl) (by rfl)
end
section
def iQ (F:Fa):ao:=⟨73,4,[[.int .i64 F.p,.int .i64 F.i,.int .i64 F.l,.int .i64 F.c]],true⟩
def gr {α:Type} (g:Nat→α→Fa):Nat→List α→Fa→Fa
 | _,[],F=>F
 | i,x :: l,F=>if F.c≠0 then F else gr g (i+1) l (g i x)
theorem i9 {α:Type} [Inhabited α] {g:Nat→α→Fa} {l:List α} {i:Nat} (h:i<l.length) (F:Fa) (hF:F.c=0):gr g i (l.drop i) F=gr g (i+1) (l.drop (i+1)) (g i (ah l i)):=by
 rw [eb h,gr,aD (by simp [hF])]
theorem i_ {α:Type} {g:Nat→α→Fa} {l:List α} {i:Nat} (F:Fa) (hF:F.c≠0):gr g i l F=F:=by
 cases l with
 | nil=>rfl
 | cons r l=>rw [gr,aK hF]
theorem OS {p n most:Int} (h:(kx p n most).c=0):kx p n most=dq:=by
 unfold kx at h ⊢
 split at h
 ·cases h
 ·rename_i q;rw [aD q]
theorem od {p i e:Int} (h:(db p i e).c=0):db p i e=dq:=by
 unfold db at h ⊢
 split at h
 ·rename_i q;rw [aK q]
 ·rename_i q;exact absurd h q
def Q2 (m:Md):Fa:=gr (fun i x=>db 1 i (qF x)) 0 m.ts (kx 1 m.ts.length 64)
attribute [local go_sem] cY aV dp dz dO c_ dQ iQ
theorem Vm (m:Md) (h:oN m):ae Tryz.prog TZ [bJ m] (dQ (Q2 m)):=by
 refine ab (ic:=BD.body) aq RU rfl rfl ?_
 obtain ⟨G,hG⟩:∃G,Q2 m=G:=⟨_,rfl⟩
 rw [hG]
 have hts:=h.ts
 have c0:=iV 1 m.ts.length 64
 simp only [dQ] at c0
 simp only [go_sem,BD,bJ]
 refine aa (c0) ?_
 simp only [go_sem]
 refine an (fun q:Nat×Fa=>⟨[(4,.int .i64 q.1),(1,.mp 1 12 0 0),(3,.mp 3 4 0 0),(2,.mp 2 4 0 0)],[(3,iQ q.2),(2,iQ dq),(1,⟨33,12,[gH m],true⟩)]⟩) (fun q=>q.1≤m.ts.length∧(q.2.c=0→q.2=dq)∧G=gr (fun i x=>db 1 i (qF x)) q.1 (m.ts.drop q.1) q.2) (fun q=>m.ts.length - q.1) (0,kx 1 m.ts.length 64) ⟨cE _,OS,hG.symm⟩ (Wk.of ?_ ?_) ?_
 ·simp only [go_sem];try simp
 ·simp only [go_sem];try simp [dq]
 rintro ⟨j,E⟩ ⟨hj,hE0,hx⟩
 simp only at hj hE0 hx
 by_cases h1:(j:Int)<(m.ts.length:Int)
 rotate_left
 ·rw [bB (by omega)] at hx
  obtain rfl:G=E:=hx
  simp only [go_sem,aG h1]
  exact au [] (by simp only [go_sem];try rfl) (by rfl)
 have hj':j<m.ts.length:=by omega
 have e8:=eS hj' (by omega)
 have cn:=dm E
 simp only [dQ] at cn
 by_cases hE:E.c=0
 rotate_left
 ·rw [i_ E hE] at hx
  obtain rfl:G=E:=hx
  rw [aN hE] at cn
  simp only [go_sem,aF h1]
  refine aa (cn) ?_
  simp only [go_sem]
  exact au [] (by simp only [go_sem];try rfl) (by rfl)
 rw [bq hE] at cn
 rw [i9 hj' E hE] at hx
 have hEl:=hE0 hE
 have ca:=ji 1 j (qF (ah m.ts j))
 simp only [dQ] at ca
 have sx:=bp hts.2 hj'
 have d1:=tJ (ah m.ts j).ps (by have:=sx.1;omega)
 have d2:=tJ (ah m.ts j).rs (by have:=sx.2;omega)
 simp only [go_sem,aF h1]
 refine aa (cn) ?_
 by_cases q1:((ah m.ts j).ps.length:Int)>8
 ·have hf:qF (ah m.ts j)=6:=by unfold qF;rw [aK (.inl (by omega))]
  rw [hf] at ca hx
  simp only [go_sem,aF q1]
  refine ⟨by omega,h1,?_⟩
  refine aa (ca) ?_
  simp only [go_sem]
  refine aC (j+1,db 1 j 6) ⟨show j+1≤m.ts.length by omega,od,hx⟩ (show m.ts.length - (j+1)<m.ts.length - j by omega) (Wk.of ?_ ?_)
  ·simp only [go_sem,e8];try simp
  ·simp only [go_sem]
 by_cases q2:((ah m.ts j).rs.length:Int)>8
 ·have hf:qF (ah m.ts j)=6:=by unfold qF;rw [aK (.inr (by omega))]
  rw [hf] at ca hx
  simp only [go_sem,aG q1,aF q2]
  refine ⟨by omega,h1,?_⟩
  refine aa (ca) ?_
  simp only [go_sem]
  refine aC (j+1,db 1 j 6) ⟨show j+1≤m.ts.length by omega,od,hx⟩ (show m.ts.length - (j+1)<m.ts.length - j by omega) (Wk.of ?_ ?_)
  ·simp only [go_sem,e8];try simp
  ·simp only [go_sem]
 have hf0:qF (ah m.ts j)=if iD (ah m.ts j).ps=false∨iD (ah m.ts j).rs=false then 12 else 0:=by unfold qF;rw [aD (by omega)]
 simp only [go_sem,aG q1,aG q2]
 refine ⟨by omega,h1,?_⟩
 refine aa (d1) ?_
 cases v1:iD (ah m.ts j).ps
 ·have hf:qF (ah m.ts j)=12:=by rw [hf0,aK (.inl v1)]
  rw [hf] at ca hx
  simp only [go_sem]
  refine aa (ca) ?_
  simp only [go_sem]
  refine aC (j+1,db 1 j 12) ⟨show j+1≤m.ts.length by omega,od,hx⟩ (show m.ts.length - (j+1)<m.ts.length - j by omega) (Wk.of ?_ ?_)
  ·simp only [go_sem,e8];try simp
  ·simp only [go_sem]
 simp only [go_sem]
 refine aa (d2) ?_
 cases v2:iD (ah m.ts j).rs
 ·have hf:qF (ah m.ts j)=12:=by rw [hf0,aK (.inr v2)]
  rw [hf] at ca hx
  simp only [go_sem]
  refine aa (ca) ?_
  simp only [go_sem]
  refine aC (j+1,db 1 j 12) ⟨show j+1≤m.ts.length by omega,od,hx⟩ (show m.ts.length - (j+1)<m.ts.length - j by omega) (Wk.of ?_ ?_)
  ·simp only [go_sem,e8];try simp
  ·simp only [go_sem]
 ·have hf:qF (ah m.ts j)=0:=by rw [hf0,aD (by rw [v1,v2];simp)]
  rw [hf,show db 1 j 0=E by rw [hEl];rfl] at hx
  simp only [go_sem]
  refine aC (j+1,E) ⟨show j+1≤m.ts.length by omega,hE0,hx⟩ (show m.ts.length - (j+1)<m.ts.length - j by omega) (Wk.of ?_ ?_)
  ·simp only [go_sem,e8];try simp
  ·simp only [go_sem]
end
section
attribute [local go_sem] cY aV dp dz dO c_ dQ iQ
theorem jL (m:Md) (h:m.ims.length≤140737488355328) (k:Int):ae Tryz.prog Zk [bJ m,.int .i64 k] (.int .i64 (ju k m.ims:Nat)):=by
 refine ab (ic:=Mz.body) aq Xv rfl rfl ?_
 simp only [go_sem,Mz,bJ]
 refine an (fun j:Nat=>⟨[(6,.int .i64 j),(5,.int .i64 (ju k (m.ims.take j):Nat)),(2,.mp 2 12 0 0),(1,.int .i64 k)],[(2,⟨33,12,[gH m],true⟩)]⟩) (fun j=>j≤m.ims.length) (fun j=>m.ims.length - j) 0 (cE _) (Wk.of ?_ ?_) ?_
 ·simp only [go_sem,f8,ju];try simp
 ·simp only [go_sem]
 intro j hj
 by_cases h1:(j:Int)<(m.ims.length:Int)
 ·have hj':j<m.ims.length:=by omega
  have e8:=eS hj' (by omega)
  have t:=NF (k:=k) hj'
  have hle:ju k (m.ims.take j)≤m.ims.length:=dn (m7 k (m.ims.take j)) (by rw [lh];omega)
  by_cases q:(ah m.ims j).k=k
  ·rw [aK q] at t
   have w:IntKind.i64.wrap ((ju k (m.ims.take j):Int)+1)=((ju k (m.ims.take j)+1:Nat):Int):=by rw [wi (by omega) (by omega)];omega
   simp only [go_sem,aF h1,bq q]
   refine ⟨by omega,h1,aC (j+1) (show j+1≤m.ims.length by omega) (show m.ims.length - (j+1)<m.ims.length - j by omega) (Wk.of ?_ ?_)⟩
   ·simp only [go_sem,e8,t,w];try simp
   ·simp only [go_sem]
  ·rw [aD q,Nat.add_zero] at t
   simp only [go_sem,aF h1,aN q]
   refine ⟨by omega,h1,aC (j+1) (show j+1≤m.ims.length by omega) (show m.ims.length - (j+1)<m.ims.length - j by omega) (Wk.of ?_ ?_)⟩
   ·simp only [go_sem,e8,t];try simp
   ·simp only [go_sem]
 ·obtain rfl:j=m.ims.length:=by omega
  rw [dj]
  simp only [go_sem,aG h1]
  exact aj
end
section
def QW (m:Md):Fa:=gr (fun i x=>db 5 i (vT x)) 0 m.ms (kx 5 m.ms.length (2 - (ju 2 m.ims:Nat)))
attribute [local go_sem] cY aV dp dz dO c_ dQ iQ
theorem Vi (m:Md) (h:oN m):ae Tryz.prog Up [bJ m] (dQ (QW m)):=by
 refine ab (ic:=BV.body) aq Sm rfl rfl ?_
 obtain ⟨G,hG⟩:∃G,QW m=G:=⟨_,rfl⟩
 rw [hG]
 have hts:=h.ms
 have ci:=jL m h.ims 2
 have hle:=dn (m7 2 m.ims) h.ims
 have w:IntKind.i64.wrap (2 - (ju 2 m.ims:Int))=2 - (ju 2 m.ims:Int):=wi (by omega) (by omega)
 have c0:=iV 5 m.ms.length (2 - (ju 2 m.ims:Nat))
 simp only [dQ] at c0
 simp only [bJ,aV] at ci
 simp only [go_sem,BV,bJ]
 refine aB ci (by simp [go_sem]) rfl ?_
 simp only [go_sem,w]
 refine aB c0 (by simp [go_sem]) rfl ?_
 simp only [go_sem]
 refine an (fun q:Nat×Fa=>⟨[(4,.int .i64 q.1),(1,.mp 1 12 0 0),(3,.mp 3 4 0 0),(2,.mp 2 4 0 0)],[(3,iQ q.2),(2,iQ dq),(1,⟨33,12,[gH m],true⟩)]⟩) (fun q=>q.1≤m.ms.length∧G=gr (fun i x=>db 5 i (vT x)) q.1 (m.ms.drop q.1) q.2) (fun q=>m.ms.length - q.1) (0,kx 5 m.ms.length (2 - (ju 2 m.ims:Nat))) ⟨cE _,hG.symm⟩ (Wk.of ?_ ?_) ?_
 ·simp only [go_sem];try simp
 ·simp only [go_sem];try simp [dq]
 rintro ⟨j,E⟩ ⟨hj,hx⟩
 simp only at hj hx
 by_cases h1:(j:Int)<(m.ms.length:Int)
 rotate_left
 ·rw [bB (by omega)] at hx
  obtain rfl:G=E:=hx
  simp only [go_sem,aG h1]
  exact au [] (by simp only [go_sem];try rfl) (by rfl)
 have hj':j<m.ms.length:=by omega
 have e8:=eS hj' (by omega)
 have cn:=dm E
 simp only [dQ] at cn
 by_cases hE:E.c=0
 rotate_left
 ·rw [i_ E hE] at hx
  obtain rfl:G=E:=hx
  rw [aN hE] at cn
  simp only [go_sem,aF h1]
  refine aa (cn) ?_
  simp only [go_sem]
  exact au [] (by simp only [go_sem];try rfl) (by rfl)
 rw [bq hE] at cn
 rw [i9 hj' E hE] at hx
 have cm:=Fu (ah m.ms j)
 have ca:=ji 5 j (vT (ah m.ms j))
 simp only [dQ] at ca
 simp only [c_] at cm
 simp only [go_sem,aF h1]
 refine aa (cn) ?_
 simp only [go_sem]
 refine ⟨by omega,h1,?_⟩
 refine aa (cm) ?_
 simp only [go_sem]
 refine aa (ca) ?_
 simp only [go_sem]
 refine aC (j+1,db 5 j (vT (ah m.ms j))) ⟨show j+1≤m.ms.length by omega,hx⟩ (show m.ms.length - (j+1)<m.ms.length - j by omega) (Wk.of ?_ ?_)
 ·simp only [go_sem,e8];try simp
 ·simp only [go_sem]
end
section
def Q0 (m:Md):Fa:=gr (fun i x=>db 4 i (uc x)) 0 m.tbs (kx 4 m.tbs.length (4 - (ju 1 m.ims:Nat)))
attribute [local go_sem] cY aV dp dz dO c_ dQ iQ
theorem Vl (m:Md) (h:oN m):ae Tryz.prog ZK [bJ m] (dQ (Q0 m)):=by
 refine ab (ic:=M2.body) aq X3 rfl rfl ?_
 obtain ⟨G,hG⟩:∃G,Q0 m=G:=⟨_,rfl⟩
 rw [hG]
 have hts:=h.tbs
 have ci:=jL m h.ims 1
 have hle:=dn (m7 1 m.ims) h.ims
 have w:IntKind.i64.wrap (4 - (ju 1 m.ims:Int))=4 - (ju 1 m.ims:Int):=wi (by omega) (by omega)
 have c0:=iV 4 m.tbs.length (4 - (ju 1 m.ims:Nat))
 simp only [dQ] at c0
 simp only [bJ,aV] at ci
 simp only [go_sem,M2,bJ]
 refine aB ci (by simp [go_sem]) rfl ?_
 simp only [go_sem,w]
 refine aB c0 (by simp [go_sem]) rfl ?_
 simp only [go_sem]
 refine an (fun q:Nat×Fa=>⟨[(4,.int .i64 q.1),(1,.mp 1 12 0 0),(3,.mp 3 4 0 0),(2,.mp 2 4 0 0)],[(3,iQ q.2),(2,iQ dq),(1,⟨33,12,[gH m],true⟩)]⟩) (fun q=>q.1≤m.tbs.length∧G=gr (fun i x=>db 4 i (uc x)) q.1 (m.tbs.drop q.1) q.2) (fun q=>m.tbs.length - q.1) (0,kx 4 m.tbs.length (4 - (ju 1 m.ims:Nat))) ⟨cE _,hG.symm⟩ (Wk.of ?_ ?_) ?_
 ·simp only [go_sem];try simp
 ·simp only [go_sem];try simp [dq]
 rintro ⟨j,E⟩ ⟨hj,hx⟩
 simp only at hj hx
 by_cases h1:(j:Int)<(m.tbs.length:Int)
 rotate_left
 ·rw [bB (by omega)] at hx
  obtain rfl:G=E:=hx
  simp only [go_sem,aG h1]
  exact au [] (by simp only [go_sem];try rfl) (by rfl)
 have hj':j<m.tbs.length:=by omega
 have e8:=eS hj' (by omega)
 have cn:=dm E
 simp only [dQ] at cn
 by_cases hE:E.c=0
 rotate_left
 ·rw [i_ E hE] at hx
  obtain rfl:G=E:=hx
  rw [aN hE] at cn
  simp only [go_sem,aF h1]
  refine aa (cn) ?_
  simp only [go_sem]
  exact au [] (by simp only [go_sem];try rfl) (by rfl)
 rw [bq hE] at cn
 rw [i9 hj' E hE] at hx
 have cm:=Fx (ah m.tbs j)
 have ca:=ji 4 j (uc (ah m.tbs j))
 simp only [dQ] at ca
 simp only [dO] at cm
 simp only [go_sem,aF h1]
 refine aa (cn) ?_
 simp only [go_sem]
 refine ⟨by omega,h1,?_⟩
 refine aa (cm) ?_
 simp only [go_sem]
 refine aa (ca) ?_
 simp only [go_sem]
 refine aC (j+1,db 4 j (uc (ah m.tbs j))) ⟨show j+1≤m.tbs.length by omega,hx⟩ (show m.tbs.length - (j+1)<m.tbs.length - j by omega) (Wk.of ?_ ?_)
 ·simp only [go_sem,e8];try simp
 ·simp only [go_sem]
end
section
def QF (m:Md):Fa:=gr (fun i x=>db 3 i (tY x)) 0 m.fs (kx 3 m.fs.length (64 - (ju 0 m.ims:Nat)))
attribute [local go_sem] cY aV dp dz dO c_ cH dQ iQ
theorem Vb (m:Md) (h:oN m):ae Tryz.prog TW [bJ m] (dQ (QF m)):=by
 refine ab (ic:=BB.body) aq RR rfl rfl ?_
 obtain ⟨G,hG⟩:∃G,QF m=G:=⟨_,rfl⟩
 rw [hG]
 have hts:=h.fs
 have ci:=jL m h.ims 0
 have hle:=dn (m7 0 m.ims) h.ims
 have w:IntKind.i64.wrap (64 - (ju 0 m.ims:Int))=64 - (ju 0 m.ims:Int):=wi (by omega) (by omega)
 have c0:=iV 3 m.fs.length (64 - (ju 0 m.ims:Nat))
 simp only [dQ] at c0
 simp only [bJ,aV] at ci
 simp only [go_sem,BB,bJ]
 refine aB ci (by simp [go_sem]) rfl ?_
 simp only [go_sem,w]
 refine aB c0 (by simp [go_sem]) rfl ?_
 simp only [go_sem]
 refine an (fun q:Nat×Fa=>⟨[(4,.int .i64 q.1),(1,.mp 1 12 0 0),(3,.mp 3 4 0 0),(2,.mp 2 4 0 0)],[(3,iQ q.2),(2,iQ dq),(1,⟨33,12,[gH m],true⟩)]⟩) (fun q=>q.1≤m.fs.length∧(q.2.c=0→q.2=dq)∧G=gr (fun i x=>db 3 i (tY x)) q.1 (m.fs.drop q.1) q.2) (fun q=>m.fs.length - q.1) (0,kx 3 m.fs.length (64 - (ju 0 m.ims:Nat))) ⟨cE _,OS,hG.symm⟩ (Wk.of ?_ ?_) ?_
 ·simp only [go_sem];try simp
 ·simp only [go_sem];try simp [dq]
 rintro ⟨j,E⟩ ⟨hj,hE0,hx⟩
 simp only at hj hE0 hx
 by_cases h1:(j:Int)<(m.fs.length:Int)
 rotate_left
 ·rw [bB (by omega)] at hx
  obtain rfl:G=E:=hx
  simp only [go_sem,aG h1]
  exact au [] (by simp only [go_sem];try rfl) (by rfl)
 have hj':j<m.fs.length:=by omega
 have e8:=eS hj' (by omega)
 have cn:=dm E
 simp only [dQ] at cn
 by_cases hE:E.c=0
 rotate_left
 ·rw [i_ E hE] at hx
  obtain rfl:G=E:=hx
  rw [aN hE] at cn
  simp only [go_sem,aF h1]
  refine aa (cn) ?_
  simp only [go_sem]
  exact au [] (by simp only [go_sem];try rfl) (by rfl)
 rw [bq hE] at cn
 rw [i9 hj' E hE] at hx
 have hEl:=hE0 hE
 have ca:=ji 3 j (tY (ah m.fs j))
 simp only [dQ] at ca
 have sx:=bp hts.2 hj'
 have d1:=jj (ah m.fs j).t
 have d2:=tJ (ah m.fs j).lo (by have:=sx.1;omega)
 simp only [go_sem,aF h1]
 refine aa (cn) ?_
 simp only [go_sem]
 refine ⟨by omega,h1,?_⟩
 refine aa (d1) ?_
 cases v1:iz (ah m.fs j).t
 ·have hf:tY (ah m.fs j)=11:=by unfold tY;rw [aK v1]
  rw [hf] at ca hx
  simp only [go_sem]
  refine aa (ca) ?_
  simp only [go_sem]
  refine aC (j+1,db 3 j 11) ⟨show j+1≤m.fs.length by omega,od,hx⟩ (show m.fs.length - (j+1)<m.fs.length - j by omega) (Wk.of ?_ ?_)
  ·simp only [go_sem,e8];try simp
  ·simp only [go_sem]
 by_cases q1:((ah m.fs j).lo.length:Int)>64
 ·have hf:tY (ah m.fs j)=6:=by unfold tY;rw [aD (by simp [v1]),aK (by omega)]
  rw [hf] at ca hx
  simp only [go_sem,aF q1]
  refine aa (ca) ?_
  simp only [go_sem]
  refine aC (j+1,db 3 j 6) ⟨show j+1≤m.fs.length by omega,od,hx⟩ (show m.fs.length - (j+1)<m.fs.length - j by omega) (Wk.of ?_ ?_)
  ·simp only [go_sem,e8];try simp
  ·simp only [go_sem]
 simp only [go_sem,aG q1]
 refine aa (d2) ?_
 cases v2:iD (ah m.fs j).lo
 ·have hf:tY (ah m.fs j)=12:=by unfold tY;rw [aD (by simp [v1]),aD (by omega),aK v2]
  rw [hf] at ca hx
  simp only [go_sem]
  refine aa (ca) ?_
  simp only [go_sem]
  refine aC (j+1,db 3 j 12) ⟨show j+1≤m.fs.length by omega,od,hx⟩ (show m.fs.length - (j+1)<m.fs.length - j by omega) (Wk.of ?_ ?_)
  ·simp only [go_sem,e8];try simp
  ·simp only [go_sem]
 ·have hf:tY (ah m.fs j)=0:=by unfold tY;rw [aD (by simp [v1]),aD (by omega),aD (by simp [v2])]
  rw [hf,show db 3 j 0=E by rw [hEl];rfl] at hx
  simp only [go_sem]
  refine aC (j+1,E) ⟨show j+1≤m.fs.length by omega,hE0,hx⟩ (show m.fs.length - (j+1)<m.fs.length - j by omega) (Wk.of ?_ ?_)
  ·simp only [go_sem,e8];try simp
  ·simp only [go_sem]
end
section
def QL (P:bz→Bool) (m:Md):Fa:=gr (fun i x=>if j8 x.g.v=false then db 6 i 12 else ov P 6 i x.i) 0 m.gs (kx 6 m.gs.length (32 - (ju 3 m.ims:Nat)))
attribute [local go_sem] cY aV dp dz dO c_ mh dQ iQ
theorem Vh (P:bz→Bool) (m:Md) (h:oN m) (hP:∀y,Kx y→ae Tryz.prog mw [jF y] (.bool (P y))):ae Tryz.prog Zu [bJ m] (dQ (QL P m)):=by
 refine ab (ic:=MN.body) aq XK rfl rfl ?_
 obtain ⟨G,hG⟩:∃G,QL P m=G:=⟨_,rfl⟩
 rw [hG]
 have hts:=h.gs
 have ci:=jL m h.ims 3
 have hle:=dn (m7 3 m.ims) h.ims
 have w:IntKind.i64.wrap (32 - (ju 3 m.ims:Int))=32 - (ju 3 m.ims:Int):=wi (by omega) (by omega)
 have c0:=iV 6 m.gs.length (32 - (ju 3 m.ims:Nat))
 simp only [dQ] at c0
 simp only [bJ,aV] at ci
 simp only [go_sem,MN,bJ]
 refine aB ci (by simp [go_sem]) rfl ?_
 simp only [go_sem,w]
 refine aB c0 (by simp [go_sem]) rfl ?_
 simp only [go_sem]
 refine an (fun q:Nat×Fa=>⟨[(4,.int .i64 q.1),(1,.mp 1 12 0 0),(3,.mp 3 4 0 0),(2,.mp 2 4 0 0)],[(3,iQ q.2),(2,iQ dq),(1,⟨33,12,[gH m],true⟩)]⟩) (fun q=>q.1≤m.gs.length∧G=gr (fun i x=>if j8 x.g.v=false then db 6 i 12 else ov P 6 i x.i) q.1 (m.gs.drop q.1) q.2) (fun q=>m.gs.length - q.1) (0,kx 6 m.gs.length (32 - (ju 3 m.ims:Nat))) ⟨cE _,hG.symm⟩ (Wk.of ?_ ?_) ?_
 ·simp only [go_sem];try simp
 ·simp only [go_sem];try simp [dq]
 rintro ⟨j,E⟩ ⟨hj,hx⟩
 simp only at hj hx
 by_cases h1:(j:Int)<(m.gs.length:Int)
 rotate_left
 ·rw [bB (by omega)] at hx
  obtain rfl:G=E:=hx
  simp only [go_sem,aG h1]
  exact au [] (by simp only [go_sem];try rfl) (by rfl)
 have hj':j<m.gs.length:=by omega
 have e8:=eS hj' (by omega)
 have cn:=dm E
 simp only [dQ] at cn
 by_cases hE:E.c=0
 rotate_left
 ·rw [i_ E hE] at hx
  obtain rfl:G=E:=hx
  rw [aN hE] at cn
  simp only [go_sem,aF h1]
  refine aa (cn) ?_
  simp only [go_sem]
  exact au [] (by simp only [go_sem];try rfl) (by rfl)
 rw [bq hE] at cn
 rw [i9 hj' E hE] at hx
 have cm:=LA (ah m.gs j).g
 have ca:=ji 6 j 12
 simp only [dQ] at ca
 have sx:=bp hts.2 hj'
 have cr:=nz P 6 j (ah m.gs j).i sx (fun y hy=>hP y (sx.2 y hy))
 simp only [dQ] at cr
 simp only [go_sem,aF h1]
 refine aa (cn) ?_
 simp only [go_sem]
 refine ⟨by omega,h1,?_⟩
 refine aa (cm) ?_
 cases v1:j8 (ah m.gs j).g.v
 ·rw [aK v1] at hx
  simp only [go_sem]
  refine aa (ca) ?_
  simp only [go_sem]
  refine aC (j+1,db 6 j 12) ⟨show j+1≤m.gs.length by omega,hx⟩ (show m.gs.length - (j+1)<m.gs.length - j by omega) (Wk.of ?_ ?_)
  ·simp only [go_sem,e8];try simp
  ·simp only [go_sem]
 ·rw [aD (by simp [v1])] at hx
  simp only [go_sem]
  refine ⟨by omega,h1,?_⟩
  refine aa (cr) ?_
  simp only [go_sem]
  refine aC (j+1,ov P 6 j (ah m.gs j).i) ⟨show j+1≤m.gs.length by omega,hx⟩ (show m.gs.length - (j+1)<m.gs.length - j by omega) (Wk.of ?_ ?_)
  ·simp only [go_sem,e8];try simp
  ·simp only [go_sem]
def KA (m:Md):Fa:=if m.hs=true∧iz m.st=false then db 8 0 11 else dq
theorem Kg (m:Md):ae Tryz.prog TX [bJ m] (dQ (KA m)):=by
 refine ab (ic:=xL.body) aq RS rfl rfl ?_
 have c1:=jj m.st
 have ca:=ji 8 0 11
 simp only [dQ] at ca
 unfold KA
 cases hh:m.hs
 ·rw [aD (by simp)]
  simp only [go_sem,xL,bJ,hh]
  exact au [] (by simp only [go_sem];try rfl) (by rfl)
 ·simp only [go_sem,xL,bJ,hh]
  refine aa (c1) ?_
  cases v:iz m.st
  ·rw [aK (by simp)]
   simp only [go_sem]
   refine aa (ca) ?_
   simp only [go_sem]
   exact aj
  ·rw [aD (by simp)]
   simp only [go_sem]
   exact au [] (by simp only [go_sem];try rfl) (by rfl)
end
section
theorem oe (p i e:Int):(db p i e).c=e:=by
 unfold db
 split
 ·rename_i h;rw [h];rfl
 ·rfl
attribute [local go_sem] cY aV dp dz dO c_ cH jV a_ d_ dU jc dQ iQ
theorem oL (s:List UInt8):ae Tryz.prog Uq [.str s] (.int .i64 (fk s)):=by
 refine ab (ic:=xP.body) aq Sn rfl rfl ?_
 unfold fk
 by_cases q1:(s.length:Int)>64
 ·rw [aK (by omega)]
  simp only [go_sem,xP,aF q1]
  exact aj
 rw [aD (by omega)]
 simp only [go_sem,xP,aG q1]
 have cc:=Qp s (show s.length≤1048576 by omega)
 refine aa (cc) ?_
 cases uv s
 ·simp only [go_sem]
  exact au [] (by simp only [go_sem];try rfl) (by rfl)
 ·simp only [go_sem]
  exact au [] (by simp only [go_sem];try rfl) (by rfl)
def Ou (x:Im):Int:=if x.k<0∨x.k>3∨gy x≠x then 1 else if x.k=1 then uc ⟨x.te,x.tl⟩ else if x.k=2 then vT x.me else if x.k=3 then IB x.g else if iz x.f=false then 11 else 0
end
section
def QK (m:Md):Fa:=gr (fun i x=>db 7 i (x7 x)) 0 m.exs (kx 7 m.exs.length 64)
attribute [local go_sem] cY aV dp dz dO c_ cH jV a_ d_ dU jc dQ iQ
theorem Vg (m:Md) (h:oN m):ae Tryz.prog Zt [bJ m] (dQ (QK m)):=by
 refine ab (ic:=MM.body) aq XJ rfl rfl ?_
 obtain ⟨G,hG⟩:∃G,QK m=G:=⟨_,rfl⟩
 rw [hG]
 have hts:=h.exs
 have c0:=iV 7 m.exs.length 64
 simp only [dQ] at c0
 simp only [go_sem,MM,bJ]
 refine aa (c0) ?_
 simp only [go_sem]
 refine an (fun q:Nat×Fa=>⟨[(4,.int .i64 q.1),(1,.mp 1 12 0 0),(3,.mp 3 4 0 0),(2,.mp 2 4 0 0)],[(3,iQ q.2),(2,iQ dq),(1,⟨33,12,[gH m],true⟩)]⟩) (fun q=>q.1≤m.exs.length∧G=gr (fun i x=>db 7 i (x7 x)) q.1 (m.exs.drop q.1) q.2) (fun q=>m.exs.length - q.1) (0,kx 7 m.exs.length 64) ⟨cE _,hG.symm⟩ (Wk.of ?_ ?_) ?_
 ·simp only [go_sem];try simp [dq]
 ·simp only [go_sem];try simp [dq]
 rintro ⟨j,E⟩ ⟨hj,hx⟩
 simp only at hj hx
 by_cases h1:(j:Int)<(m.exs.length:Int)
 rotate_left
 ·rw [bB (by omega)] at hx
  obtain rfl:G=E:=hx
  simp only [go_sem,aG h1]
  exact au [] (by simp only [go_sem];try rfl) (by rfl)
 have hj':j<m.exs.length:=by omega
 have e8:=eS hj' (by omega)
 have cn:=dm E
 simp only [dQ] at cn
 by_cases hE:E.c=0
 rotate_left
 ·rw [i_ E hE] at hx
  obtain rfl:G=E:=hx
  rw [aN hE] at cn
  simp only [go_sem,aF h1]
  refine aa (cn) ?_
  simp only [go_sem]
  exact au [] (by simp only [go_sem];try rfl) (by rfl)
 rw [bq hE] at cn
 rw [i9 hj' E hE] at hx
 have c1:=oL (ah m.exs j).n
 have c2:=jj (ah m.exs j).i
 have a1:=ji 7 j (fk (ah m.exs j).n)
 have n1:=dm (db 7 j (fk (ah m.exs j).n))
 have a2:=ji 7 j 1
 have n2:=dm (db 7 j 1)
 rw [aN (show (db 7 j 1).c≠0 by rw [oe];decide)] at n2
 have a3:=ji 7 j 11
 simp only [dQ] at a1 n1 a2 n2 a3
 simp only [go_sem,aF h1]
 refine aa (cn) ?_
 simp only [go_sem]
 refine ⟨by omega,h1,?_⟩
 refine aa (c1) ?_
 simp only [go_sem]
 refine aa (a1) ?_
 by_cases e0:fk (ah m.exs j).n=0
 rotate_left
 ·have hf:x7 (ah m.exs j)=fk (ah m.exs j).n:=by unfold x7;rw [aK e0]
  rw [hf] at hx
  rw [aN (show (db 7 j (fk (ah m.exs j).n)).c≠0 by rw [oe];exact e0)] at n1
  simp only [go_sem]
  refine aa (n1) ?_
  simp only [go_sem]
  refine aa (n1) ?_
  simp only [go_sem]
  refine aC (j+1,db 7 j (fk (ah m.exs j).n)) ⟨show j+1≤m.exs.length by omega,hx⟩ (show m.exs.length - (j+1)<m.exs.length - j by omega) (Wk.of ?_ ?_)
  ·simp only [go_sem,e8];try simp
  ·simp only [go_sem]
 have hf0:x7 (ah m.exs j)=if (ah m.exs j).k<0∨(ah m.exs j).k>3 then 1 else if iz (ah m.exs j).i=false then 11 else 0:=by unfold x7;rw [aD (by simp [e0])]
 rw [bq (show (db 7 j (fk (ah m.exs j).n)).c=0 by rw [oe];exact e0)] at n1
 simp only [go_sem]
 refine aa (n1) ?_
 by_cases q1:(ah m.exs j).k<0
 ·rw [hf0,aK (.inl q1)] at hx
  simp only [go_sem,aF q1]
  refine aa (a2) ?_
  simp only [go_sem]
  refine aa (n2) ?_
  simp only [go_sem]
  refine aC (j+1,db 7 j 1) ⟨show j+1≤m.exs.length by omega,hx⟩ (show m.exs.length - (j+1)<m.exs.length - j by omega) (Wk.of ?_ ?_)
  ·simp only [go_sem,e8];try simp
  ·simp only [go_sem]
 by_cases q2:(ah m.exs j).k>3
 ·rw [hf0,aK (.inr q2)] at hx
  simp only [go_sem,aG q1,aF q2]
  refine aa (a2) ?_
  simp only [go_sem]
  refine aa (n2) ?_
  simp only [go_sem]
  refine aC (j+1,db 7 j 1) ⟨show j+1≤m.exs.length by omega,hx⟩ (show m.exs.length - (j+1)<m.exs.length - j by omega) (Wk.of ?_ ?_)
  ·simp only [go_sem,e8];try simp
  ·simp only [go_sem]
 rw [hf0,aD (by omega)] at hx
 simp only [go_sem,aG q1,aG q2]
 refine aa (n1) ?_
 simp only [go_sem]
 refine aa (c2) ?_
 cases v:iz (ah m.exs j).i
 ·rw [aK v] at hx
  simp only [go_sem]
  refine aa (a3) ?_
  simp only [go_sem]
  refine aC (j+1,db 7 j 11) ⟨show j+1≤m.exs.length by omega,hx⟩ (show m.exs.length - (j+1)<m.exs.length - j by omega) (Wk.of ?_ ?_)
  ·simp only [go_sem,e8];try simp
  ·simp only [go_sem]
 ·rw [aD (by simp [v]),← e0] at hx
  simp only [go_sem]
  refine aC (j+1,db 7 j (fk (ah m.exs j).n)) ⟨show j+1≤m.exs.length by omega,hx⟩ (show m.exs.length - (j+1)<m.exs.length - j by omega) (Wk.of ?_ ?_)
  ·simp only [go_sem,e8];try simp
  ·simp only [go_sem]
end
section
def QG (m:Md):Fa:=gr (fun i x=>db 11 i (uD x)) 0 m.cs (kx 11 m.cs.length 8)
attribute [local go_sem] cY aV dp dz dO c_ cH jV a_ d_ dU jc dQ iQ
theorem Vc (m:Md) (h:oN m):ae Tryz.prog Zs [bJ m] (dQ (QG m)):=by
 refine ab (ic:=ML.body) aq XI rfl rfl ?_
 obtain ⟨G,hG⟩:∃G,QG m=G:=⟨_,rfl⟩
 rw [hG]
 have hts:=h.cs
 have c0:=iV 11 m.cs.length 8
 simp only [dQ] at c0
 simp only [go_sem,ML,bJ]
 refine aa (c0) ?_
 simp only [go_sem]
 refine an (fun q:Nat×Fa=>⟨[(4,.int .i64 q.1),(1,.mp 1 12 0 0),(3,.mp 3 4 0 0),(2,.mp 2 4 0 0)],[(3,iQ q.2),(2,iQ dq),(1,⟨33,12,[gH m],true⟩)]⟩) (fun q=>q.1≤m.cs.length∧G=gr (fun i x=>db 11 i (uD x)) q.1 (m.cs.drop q.1) q.2) (fun q=>m.cs.length - q.1) (0,kx 11 m.cs.length 8) ⟨cE _,hG.symm⟩ (Wk.of ?_ ?_) ?_
 ·simp only [go_sem];try simp [dq]
 ·simp only [go_sem];try simp [dq]
 rintro ⟨j,E⟩ ⟨hj,hx⟩
 simp only at hj hx
 by_cases h1:(j:Int)<(m.cs.length:Int)
 rotate_left
 ·rw [bB (by omega)] at hx
  obtain rfl:G=E:=hx
  simp only [go_sem,aG h1]
  exact au [] (by simp only [go_sem];try rfl) (by rfl)
 have hj':j<m.cs.length:=by omega
 have e8:=eS hj' (by omega)
 have cn:=dm E
 simp only [dQ] at cn
 by_cases hE:E.c=0
 rotate_left
 ·rw [i_ E hE] at hx
  obtain rfl:G=E:=hx
  rw [aN hE] at cn
  simp only [go_sem,aF h1]
  refine aa (cn) ?_
  simp only [go_sem]
  exact au [] (by simp only [go_sem];try rfl) (by rfl)
 rw [bq hE] at cn
 rw [i9 hj' E hE] at hx
 have c1:=oL (ah m.cs j).n
 have a1:=ji 11 j (fk (ah m.cs j).n)
 have n1:=dm (db 11 j (fk (ah m.cs j).n))
 have a2:=ji 11 j 6
 have n2:=dm (db 11 j 6)
 rw [aN (show (db 11 j 6).c≠0 by rw [oe];decide)] at n2
 have a3:=ji 11 j 1
 simp only [dQ] at a1 n1 a2 n2 a3
 simp only [go_sem,aF h1]
 refine aa (cn) ?_
 simp only [go_sem]
 refine ⟨by omega,h1,?_⟩
 refine aa (c1) ?_
 simp only [go_sem]
 refine aa (a1) ?_
 by_cases e0:fk (ah m.cs j).n=0
 rotate_left
 ·have hf:uD (ah m.cs j)=fk (ah m.cs j).n:=by unfold uD;rw [aK e0]
  rw [hf] at hx
  rw [aN (show (db 11 j (fk (ah m.cs j).n)).c≠0 by rw [oe];exact e0)] at n1
  simp only [go_sem]
  refine aa (n1) ?_
  simp only [go_sem]
  refine aa (n1) ?_
  simp only [go_sem]
  refine aC (j+1,db 11 j (fk (ah m.cs j).n)) ⟨show j+1≤m.cs.length by omega,hx⟩ (show m.cs.length - (j+1)<m.cs.length - j by omega) (Wk.of ?_ ?_)
  ·simp only [go_sem,e8];try simp
  ·simp only [go_sem]
 have hf0:uD (ah m.cs j)=if (ah m.cs j).b.length>4096 then 6 else if (ah m.cs j).af<0∨(ah m.cs j).af>12 then 1 else 0:=by unfold uD;rw [aD (by simp [e0])]
 rw [bq (show (db 11 j (fk (ah m.cs j).n)).c=0 by rw [oe];exact e0)] at n1
 simp only [go_sem]
 refine aa (n1) ?_
 by_cases q0:((ah m.cs j).b.length:Int)>4096
 ·rw [hf0,aK (by omega)] at hx
  simp only [go_sem,aF q0]
  refine aa (a2) ?_
  simp only [go_sem]
  refine aa (n2) ?_
  simp only [go_sem]
  refine aC (j+1,db 11 j 6) ⟨show j+1≤m.cs.length by omega,hx⟩ (show m.cs.length - (j+1)<m.cs.length - j by omega) (Wk.of ?_ ?_)
  ·simp only [go_sem,e8];try simp
  ·simp only [go_sem]
 rw [hf0,aD (by omega)] at hx
 simp only [go_sem,aG q0]
 refine aa (n1) ?_
 by_cases q1:(ah m.cs j).af<0
 ·rw [aK (.inl q1)] at hx
  simp only [go_sem,aF q1]
  refine aa (a3) ?_
  simp only [go_sem]
  refine aC (j+1,db 11 j 1) ⟨show j+1≤m.cs.length by omega,hx⟩ (show m.cs.length - (j+1)<m.cs.length - j by omega) (Wk.of ?_ ?_)
  ·simp only [go_sem,e8];try simp
  ·simp only [go_sem]
 by_cases q2:(ah m.cs j).af>12
 ·rw [aK (.inr q2)] at hx
  simp only [go_sem,aG q1,aF q2]
  refine aa (a3) ?_
  simp only [go_sem]
  refine aC (j+1,db 11 j 1) ⟨show j+1≤m.cs.length by omega,hx⟩ (show m.cs.length - (j+1)<m.cs.length - j by omega) (Wk.of ?_ ?_)
  ·simp only [go_sem,e8];try simp
  ·simp only [go_sem]
 rw [aD (by omega),← e0] at hx
 simp only [go_sem,aG q1,aG q2]
 refine aC (j+1,db 11 j (fk (ah m.cs j).n)) ⟨show j+1≤m.cs.length by omega,hx⟩ (show m.cs.length - (j+1)<m.cs.length - j by omega) (Wk.of ?_ ?_)
 ·simp only [go_sem,e8];try simp
 ·simp only [go_sem]
end
section
theorem Ps {x:Im} (h:x.k=0):((x.te==0)&&((x.tl.mn==0)&&((x.tl.mx==0)&&((x.tl.hs==false)&&((x.me.mn==0)&&((x.me.mx==0)&&((x.me.hs==false)&&((x.g.v==0)&&(x.g.mu==false)))))))))=decide (gy x=x):=by
 obtain ⟨m,n,k,f,te,⟨t1,t2,t3⟩,⟨m1,m2,m3⟩,⟨v,u⟩⟩:=x
 simp only at h
 subst h
 rw [Bool.eq_iff_iff,decide_eq_true_iff]
 simp only [gy,Int.reduceEq,bF,dc,Im.mk.injEq,Lm.mk.injEq,Gl.mk.injEq,bY,beq_iff_eq,true_and,and_true]
 grind
theorem Pt {x:Im} (h:x.k=1):((x.f==0)&&((x.me.mn==0)&&((x.me.mx==0)&&((x.me.hs==false)&&((x.g.v==0)&&(x.g.mu==false))))))=decide (gy x=x):=by
 obtain ⟨m,n,k,f,te,⟨t1,t2,t3⟩,⟨m1,m2,m3⟩,⟨v,u⟩⟩:=x
 simp only at h
 subst h
 rw [Bool.eq_iff_iff,decide_eq_true_iff]
 simp only [gy,Int.reduceEq,bF,dc,Im.mk.injEq,Lm.mk.injEq,Gl.mk.injEq,bY,beq_iff_eq,true_and,and_true]
 grind
theorem Pu {x:Im} (h:x.k=2):((x.f==0)&&((x.te==0)&&((x.tl.mn==0)&&((x.tl.mx==0)&&((x.tl.hs==false)&&((x.g.v==0)&&(x.g.mu==false)))))))=decide (gy x=x):=by
 obtain ⟨m,n,k,f,te,⟨t1,t2,t3⟩,⟨m1,m2,m3⟩,⟨v,u⟩⟩:=x
 simp only at h
 subst h
 rw [Bool.eq_iff_iff,decide_eq_true_iff]
 simp only [gy,Int.reduceEq,bF,dc,Im.mk.injEq,Lm.mk.injEq,Gl.mk.injEq,bY,beq_iff_eq,true_and,and_true]
 grind
theorem Pv {x:Im} (h:x.k=3):((x.f==0)&&((x.te==0)&&((x.tl.mn==0)&&((x.tl.mx==0)&&((x.tl.hs==false)&&((x.me.mn==0)&&((x.me.mx==0)&&(x.me.hs==false))))))))=decide (gy x=x):=by
 obtain ⟨m,n,k,f,te,⟨t1,t2,t3⟩,⟨m1,m2,m3⟩,⟨v,u⟩⟩:=x
 simp only at h
 subst h
 rw [Bool.eq_iff_iff,decide_eq_true_iff]
 simp only [gy,Int.reduceEq,bF,dc,Im.mk.injEq,Lm.mk.injEq,Gl.mk.injEq,bY,beq_iff_eq,true_and,and_true]
 grind
attribute [local go_sem] cY aV dp dz dO c_ cH jV a_ d_ dU jc dQ iQ
theorem PU (x:Im):ae Tryz.prog UI [.agg (Ed x)] (.int .i64 (Ou x)):=by
 refine ab (ic:=ka.body) aq SI rfl rfl ?_
 have c4:=Fx ⟨x.te,x.tl⟩
 have c5:=Fu x.me
 have c6:=LA x.g
 have c7:=jj x.f
 obtain ⟨G,hG⟩:∃G,Ou x=G:=⟨_,rfl⟩
 rw [hG]
 unfold Ou at hG
 by_cases q:x.k=0
 ·have key:=Ps q
  by_cases z:gy x=x
  rotate_left
  ·rw [aG z] at key
   rw [aK (.inr (.inr z))] at hG
   subst hG
   simp only [go_sem,ka,bq q,key,cZ]
   exact au [] (by simp only [go_sem];try rfl) (by rfl)
  rw [aF z] at key
  rw [aD (fun w=>by rcases w with w | w | w;omega;omega;exact w z)] at hG
  rw [aD (show ¬x.k=1 by omega)] at hG
  rw [aD (show ¬x.k=2 by omega)] at hG
  rw [aD (show ¬x.k=3 by omega)] at hG
  simp only [go_sem,ka,bq q,key,cQ]
  refine aa (c7) ?_
  cases v:iz x.f
  ·rw [aK v] at hG
   subst hG
   simp only [go_sem]
   exact au [] (by simp only [go_sem];try rfl) (by rfl)
  ·rw [aD (by simp [v])] at hG
   subst hG
   simp only [go_sem]
   exact au [] (by simp only [go_sem];try rfl) (by rfl)
 by_cases q:x.k=1
 ·have key:=Pt q
  by_cases z:gy x=x
  rotate_left
  ·rw [aG z] at key
   rw [aK (.inr (.inr z))] at hG
   subst hG
   simp only [go_sem,ka,aN (show x.k≠0 by omega),bq q,key,cZ]
   exact au [] (by simp only [go_sem];try rfl) (by rfl)
  rw [aF z] at key
  rw [aD (fun w=>by rcases w with w | w | w;omega;omega;exact w z)] at hG
  rw [aK q] at hG
  simp only [go_sem,ka,aN (show x.k≠0 by omega),bq q,key,cQ]
  refine aa (c4) ?_
  simp only [go_sem]
  subst hG
  exact aj
 by_cases q:x.k=2
 ·have key:=Pu q
  by_cases z:gy x=x
  rotate_left
  ·rw [aG z] at key
   rw [aK (.inr (.inr z))] at hG
   subst hG
   simp only [go_sem,ka,aN (show x.k≠0 by omega),aN (show x.k≠1 by omega),bq q,key,cZ]
   exact au [] (by simp only [go_sem];try rfl) (by rfl)
  rw [aF z] at key
  rw [aD (fun w=>by rcases w with w | w | w;omega;omega;exact w z)] at hG
  rw [aD (show ¬x.k=1 by omega)] at hG
  rw [aK q] at hG
  simp only [go_sem,ka,aN (show x.k≠0 by omega),aN (show x.k≠1 by omega),bq q,key,cQ]
  refine aa (c5) ?_
  simp only [go_sem]
  subst hG
  exact aj
 by_cases q:x.k=3
 ·have key:=Pv q
  by_cases z:gy x=x
  rotate_left
  ·rw [aG z] at key
   rw [aK (.inr (.inr z))] at hG
   subst hG
   simp only [go_sem,ka,aN (show x.k≠0 by omega),aN (show x.k≠1 by omega),aN (show x.k≠2 by omega),bq q,key,cZ]
   exact au [] (by simp only [go_sem];try rfl) (by rfl)
  rw [aF z] at key
  rw [aD (fun w=>by rcases w with w | w | w;omega;omega;exact w z)] at hG
  rw [aD (show ¬x.k=1 by omega)] at hG
  rw [aD (show ¬x.k=2 by omega)] at hG
  rw [aK q] at hG
  unfold IB at hG
  simp only [go_sem,ka,aN (show x.k≠0 by omega),aN (show x.k≠1 by omega),aN (show x.k≠2 by omega),bq q,key,cQ]
  refine aa (c6) ?_
  cases v:j8 x.g.v
  ·rw [aK v] at hG
   subst hG
   simp only [go_sem]
   exact au [] (by simp only [go_sem];try rfl) (by rfl)
  ·rw [aD (by simp [v])] at hG
   subst hG
   simp only [go_sem]
   exact au [] (by simp only [go_sem];try rfl) (by rfl)
 rw [aK (by omega)] at hG
 subst hG
 simp only [go_sem,ka,aN (show x.k≠0 by omega),aN (show x.k≠1 by omega),aN (show x.k≠2 by omega),aN (show x.k≠3 by omega)]
 exact au [] (by simp only [go_sem];try rfl) (by rfl)
end
section
def QO (m:Md):Fa:=gr (fun i x=>db 2 i (uU x)) 0 m.ims (kx 2 m.ims.length 32)
attribute [local go_sem] cY aV dp dz dO c_ cH jV a_ d_ dU jc dQ iQ
theorem PT (m:Md) (h:oN m):ae Tryz.prog Zv [bJ m] (dQ (QO m)):=by
 refine ab (ic:=MO.body) aq XL rfl rfl ?_
 obtain ⟨G,hG⟩:∃G,QO m=G:=⟨_,rfl⟩
 rw [hG]
 have hts:=h.ims
 have c0:=iV 2 m.ims.length 32
 simp only [dQ] at c0
 simp only [go_sem,MO,bJ]
 refine aa (c0) ?_
 simp only [go_sem]
 refine an (fun q:Nat×Fa=>⟨[(4,.int .i64 q.1),(1,.mp 1 12 0 0),(3,.mp 3 4 0 0),(2,.mp 2 4 0 0)],[(3,iQ q.2),(2,iQ dq),(1,⟨33,12,[gH m],true⟩)]⟩) (fun q=>q.1≤m.ims.length∧G=gr (fun i x=>db 2 i (uU x)) q.1 (m.ims.drop q.1) q.2) (fun q=>m.ims.length - q.1) (0,kx 2 m.ims.length 32) ⟨cE _,hG.symm⟩ (Wk.of ?_ ?_) ?_
 ·simp only [go_sem];try simp [dq]
 ·simp only [go_sem];try simp [dq]
 rintro ⟨j,E⟩ ⟨hj,hx⟩
 simp only at hj hx
 by_cases h1:(j:Int)<(m.ims.length:Int)
 rotate_left
 ·rw [bB (by omega)] at hx
  obtain rfl:G=E:=hx
  simp only [go_sem,aG h1]
  exact au [] (by simp only [go_sem];try rfl) (by rfl)
 have hj':j<m.ims.length:=by omega
 have e8:=eS hj' (by omega)
 have cn:=dm E
 simp only [dQ] at cn
 by_cases hE:E.c=0
 rotate_left
 ·rw [i_ E hE] at hx
  obtain rfl:G=E:=hx
  rw [aN hE] at cn
  simp only [go_sem,aF h1]
  refine aa (cn) ?_
  simp only [go_sem]
  exact au [] (by simp only [go_sem];try rfl) (by rfl)
 rw [bq hE] at cn
 rw [i9 hj' E hE] at hx
 have c1:=oL (ah m.ims j).m
 have c2:=oL (ah m.ims j).n
 have c3:=PU (ah m.ims j)
 have a1:=ji 2 j (fk (ah m.ims j).m)
 have n1:=dm (db 2 j (fk (ah m.ims j).m))
 have a2:=ji 2 j (fk (ah m.ims j).n)
 have n2:=dm (db 2 j (fk (ah m.ims j).n))
 have a3:=ji 2 j (Ou (ah m.ims j))
 simp only [dQ] at a1 n1 a2 n2 a3
 simp only [dz] at c3
 simp only [go_sem,aF h1]
 refine aa (cn) ?_
 simp only [go_sem]
 refine ⟨by omega,h1,?_⟩
 refine aa (c1) ?_
 simp only [go_sem]
 refine aa (a1) ?_
 by_cases e0:fk (ah m.ims j).m=0
 rotate_left
 ·have hf:uU (ah m.ims j)=fk (ah m.ims j).m:=by unfold uU;rw [aK e0]
  rw [hf] at hx
  rw [aN (show (db 2 j (fk (ah m.ims j).m)).c≠0 by rw [oe];exact e0)] at n1
  simp only [go_sem]
  refine aa (n1) ?_
  simp only [go_sem]
  refine aa (n1) ?_
  simp only [go_sem]
  refine aC (j+1,db 2 j (fk (ah m.ims j).m)) ⟨show j+1≤m.ims.length by omega,hx⟩ (show m.ims.length - (j+1)<m.ims.length - j by omega) (Wk.of ?_ ?_)
  ·simp only [go_sem,e8];try simp
  ·simp only [go_sem]
 rw [bq (show (db 2 j (fk (ah m.ims j).m)).c=0 by rw [oe];exact e0)] at n1
 simp only [go_sem]
 refine aa (n1) ?_
 simp only [go_sem]
 refine ⟨by omega,h1,?_⟩
 refine aa (c2) ?_
 simp only [go_sem]
 refine aa (a2) ?_
 by_cases e1:fk (ah m.ims j).n=0
 rotate_left
 ·have hf:uU (ah m.ims j)=fk (ah m.ims j).n:=by unfold uU;rw [aD (by simp [e0]),aK e1]
  rw [hf] at hx
  rw [aN (show (db 2 j (fk (ah m.ims j).n)).c≠0 by rw [oe];exact e1)] at n2
  simp only [go_sem]
  refine aa (n2) ?_
  simp only [go_sem]
  refine aC (j+1,db 2 j (fk (ah m.ims j).n)) ⟨show j+1≤m.ims.length by omega,hx⟩ (show m.ims.length - (j+1)<m.ims.length - j by omega) (Wk.of ?_ ?_)
  ·simp only [go_sem,e8];try simp
  ·simp only [go_sem]
 have hf:uU (ah m.ims j)=Ou (ah m.ims j):=by unfold uU Ou;rw [aD (by simp [e0]),aD (by simp [e1])]
 rw [hf] at hx
 rw [bq (show (db 2 j (fk (ah m.ims j).n)).c=0 by rw [oe];exact e1)] at n2
 simp only [go_sem]
 refine aa (n2) ?_
 simp only [go_sem]
 refine ⟨by omega,h1,?_⟩
 refine aa (c3) ?_
 simp only [go_sem]
 refine aa (a3) ?_
 simp only [go_sem]
 refine aC (j+1,db 2 j (Ou (ah m.ims j))) ⟨show j+1≤m.ims.length by omega,hx⟩ (show m.ims.length - (j+1)<m.ims.length - j by omega) (Wk.of ?_ ?_)
 ·simp only [go_sem,e8];try simp
 ·simp only [go_sem]
end
section
def H1 (P:bz→Bool) (i:Nat) (x:Da):Fa:=if x.mo≠0∧(x.mo≠1∨x.me≠0∨x.o.length>0) then db 10 i 1 else if iz x.me=false then db 10 i 11 else if x.b.length>4096 then db 10 i 6 else ov P 10 i x.o
def QH (P:bz→Bool) (m:Md):Fa:=gr (H1 P) 0 m.ds (kx 10 m.ds.length 16)
attribute [local go_sem] cY aV dp dz dO c_ cH jV a_ d_ dU jc dQ iQ
theorem Vd (P:bz→Bool) (m:Md) (h:oN m) (hP:∀y,Kx y→ae Tryz.prog mw [jF y] (.bool (P y))):ae Tryz.prog TU [bJ m] (dQ (QH P m)):=by
 refine ab (ic:=Bz.body) aq RO rfl rfl ?_
 obtain ⟨G,hG⟩:∃G,QH P m=G:=⟨_,rfl⟩
 rw [hG]
 have hts:=h.ds
 have c0:=iV 10 m.ds.length 16
 simp only [dQ] at c0
 simp only [go_sem,Bz,bJ]
 refine aa (c0) ?_
 simp only [go_sem]
 refine an (fun q:Nat×Fa=>⟨[(4,.int .i64 q.1),(1,.mp 1 12 0 0),(3,.mp 3 4 0 0),(2,.mp 2 4 0 0)],[(3,iQ q.2),(2,iQ dq),(1,⟨33,12,[gH m],true⟩)]⟩) (fun q=>q.1≤m.ds.length∧G=gr (H1 P) q.1 (m.ds.drop q.1) q.2) (fun q=>m.ds.length - q.1) (0,kx 10 m.ds.length 16) ⟨cE _,hG.symm⟩ (Wk.of ?_ ?_) ?_
 ·simp only [go_sem];try simp [dq]
 ·simp only [go_sem];try simp [dq]
 rintro ⟨j,E⟩ ⟨hj,hx⟩
 simp only at hj hx
 by_cases h1:(j:Int)<(m.ds.length:Int)
 rotate_left
 ·rw [bB (by omega)] at hx
  obtain rfl:G=E:=hx
  simp only [go_sem,aG h1]
  exact au [] (by simp only [go_sem];try rfl) (by rfl)
 have hj':j<m.ds.length:=by omega
 have e8:=eS hj' (by omega)
 have cn:=dm E
 simp only [dQ] at cn
 by_cases hE:E.c=0
 rotate_left
 ·rw [i_ E hE] at hx
  obtain rfl:G=E:=hx
  rw [aN hE] at cn
  simp only [go_sem,aF h1]
  refine aa (cn) ?_
  simp only [go_sem]
  exact au [] (by simp only [go_sem];try rfl) (by rfl)
 rw [bq hE] at cn
 rw [i9 hj' E hE] at hx
 have sx:=bp hts.2 hj'
 have c1:=jj (ah m.ds j).me
 have a1:=ji 10 j 1
 have a2:=ji 10 j 11
 have a3:=ji 10 j 6
 have cr:=nz P 10 j (ah m.ds j).o sx.1 (fun y hy=>hP y (sx.1.2 y hy))
 simp only [dQ] at a1 a2 a3 cr
 obtain ⟨D,hD⟩:∃D,H1 P j (ah m.ds j)=D:=⟨_,rfl⟩
 rw [hD] at hx
 unfold H1 at hD
 simp only [go_sem,aF h1]
 refine aa (cn) ?_
 by_cases q1:(ah m.ds j).mo=0
 ·rw [aD (fun q=>q.1 q1)] at hD
  simp only [go_sem,aL q1,aN (show (ah m.ds j).mo≠1 by omega)]
  refine ⟨by omega,h1,?_⟩
  refine aa (c1) ?_
  cases v:iz (ah m.ds j).me
  ·rw [aK v] at hD
   simp only [go_sem]
   refine aa (a2) ?_
   simp only [go_sem]
   subst hD
   refine aC (j+1,db 10 j 11) ⟨show j+1≤m.ds.length by omega,hx⟩ (show m.ds.length - (j+1)<m.ds.length - j by omega) (Wk.of ?_ ?_)
   ·simp only [go_sem,e8];try simp
   ·simp only [go_sem]
  rw [aD (by simp [v])] at hD
  by_cases q5:((ah m.ds j).b.length:Int)>4096
  ·rw [aK (by omega)] at hD
   simp only [go_sem,aF q5]
   refine aa (a3) ?_
   simp only [go_sem]
   subst hD
   refine aC (j+1,db 10 j 6) ⟨show j+1≤m.ds.length by omega,hx⟩ (show m.ds.length - (j+1)<m.ds.length - j by omega) (Wk.of ?_ ?_)
   ·simp only [go_sem,e8];try simp
   ·simp only [go_sem]
  rw [aD (by omega)] at hD
  simp only [go_sem,aG q5]
  refine aa (cr) ?_
  simp only [go_sem]
  subst hD
  refine aC (j+1,ov P 10 j (ah m.ds j).o) ⟨show j+1≤m.ds.length by omega,hx⟩ (show m.ds.length - (j+1)<m.ds.length - j by omega) (Wk.of ?_ ?_)
  ·simp only [go_sem,e8];try simp
  ·simp only [go_sem]
 by_cases q2:(ah m.ds j).mo=1
 rotate_left
 ·rw [aK ⟨q1,.inl q2⟩] at hD
  simp only [go_sem,aZ q1,aZ q2]
  refine ⟨by omega,h1,?_⟩
  refine aa (a1) ?_
  simp only [go_sem]
  subst hD
  refine aC (j+1,db 10 j 1) ⟨show j+1≤m.ds.length by omega,hx⟩ (show m.ds.length - (j+1)<m.ds.length - j by omega) (Wk.of ?_ ?_)
  ·simp only [go_sem,e8];try simp
  ·simp only [go_sem]
 by_cases q3:(ah m.ds j).me=0
 rotate_left
 ·rw [aK ⟨q1,.inr (.inl q3)⟩] at hD
  simp only [go_sem,aZ q1,aL q2,bq q2,aZ q3]
  refine ⟨by omega,h1,?_⟩
  refine aa (a1) ?_
  simp only [go_sem]
  subst hD
  refine aC (j+1,db 10 j 1) ⟨show j+1≤m.ds.length by omega,hx⟩ (show m.ds.length - (j+1)<m.ds.length - j by omega) (Wk.of ?_ ?_)
  ·simp only [go_sem,e8];try simp
  ·simp only [go_sem]
 by_cases q4:((ah m.ds j).o.length:Int)>0
 ·rw [aK ⟨q1,.inr (.inr (by omega))⟩] at hD
  simp only [go_sem,aZ q1,aL q2,bq q2,aL q3,aF q4]
  refine ⟨by omega,h1,?_⟩
  refine aa (a1) ?_
  simp only [go_sem]
  subst hD
  refine aC (j+1,db 10 j 1) ⟨show j+1≤m.ds.length by omega,hx⟩ (show m.ds.length - (j+1)<m.ds.length - j by omega) (Wk.of ?_ ?_)
  ·simp only [go_sem,e8];try simp
  ·simp only [go_sem]
 rw [aD (fun q=>by rcases q.2 with z | z | z;exact z q2;exact z q3;omega)] at hD
 simp only [go_sem,aZ q1,aL q2,bq q2,aL q3,aG q4]
 refine ⟨by omega,h1,?_⟩
 refine aa (c1) ?_
 cases v:iz (ah m.ds j).me
 ·rw [aK v] at hD
  simp only [go_sem]
  refine aa (a2) ?_
  simp only [go_sem]
  subst hD
  refine aC (j+1,db 10 j 11) ⟨show j+1≤m.ds.length by omega,hx⟩ (show m.ds.length - (j+1)<m.ds.length - j by omega) (Wk.of ?_ ?_)
  ·simp only [go_sem,e8];try simp
  ·simp only [go_sem]
 rw [aD (by simp [v])] at hD
 by_cases q5:((ah m.ds j).b.length:Int)>4096
 ·rw [aK (by omega)] at hD
  simp only [go_sem,aF q5]
  refine aa (a3) ?_
  simp only [go_sem]
  subst hD
  refine aC (j+1,db 10 j 6) ⟨show j+1≤m.ds.length by omega,hx⟩ (show m.ds.length - (j+1)<m.ds.length - j by omega) (Wk.of ?_ ?_)
  ·simp only [go_sem,e8];try simp
  ·simp only [go_sem]
 rw [aD (by omega)] at hD
 simp only [go_sem,aG q5]
 refine aa (cr) ?_
 simp only [go_sem]
 subst hD
 refine aC (j+1,ov P 10 j (ah m.ds j).o) ⟨show j+1≤m.ds.length by omega,hx⟩ (show m.ds.length - (j+1)<m.ds.length - j by omega) (Wk.of ?_ ?_)
 ·simp only [go_sem,e8];try simp
 ·simp only [go_sem]
end
section
def HV (P:bz→Bool) (m:Md):Fa:=gr (fun i x=>ov P 12 i x.b) 0 m.fs (dq)
attribute [local go_sem] cY aV dp dz dO c_ cH jV a_ d_ dU jc dQ iQ
theorem Fq (P:bz→Bool) (m:Md) (h:oN m) (hP:∀y,Kx y→ae Tryz.prog mw [jF y] (.bool (P y))):ae Tryz.prog ZJ [bJ m] (dQ (HV P m)):=by
 refine ab (ic:=M1.body) aq X2 rfl rfl ?_
 obtain ⟨G,hG⟩:∃G,HV P m=G:=⟨_,rfl⟩
 rw [hG]
 have hts:=h.fs
 simp only [go_sem,M1,bJ]
 refine an (fun q:Nat×Fa=>⟨[(4,.int .i64 q.1),(1,.mp 1 12 0 0),(3,.mp 3 4 0 0),(2,.mp 2 4 0 0)],[(3,iQ q.2),(2,iQ dq),(1,⟨33,12,[gH m],true⟩)]⟩) (fun q=>q.1≤m.fs.length∧G=gr (fun i x=>ov P 12 i x.b) q.1 (m.fs.drop q.1) q.2) (fun q=>m.fs.length - q.1) (0,dq) ⟨cE _,hG.symm⟩ (Wk.of ?_ ?_) ?_
 ·simp only [go_sem];try simp [dq]
 ·simp only [go_sem];try simp [dq]
 rintro ⟨j,E⟩ ⟨hj,hx⟩
 simp only at hj hx
 by_cases h1:(j:Int)<(m.fs.length:Int)
 rotate_left
 ·rw [bB (by omega)] at hx
  obtain rfl:G=E:=hx
  simp only [go_sem,aG h1]
  exact au [] (by simp only [go_sem];try rfl) (by rfl)
 have hj':j<m.fs.length:=by omega
 have e8:=eS hj' (by omega)
 have cn:=dm E
 simp only [dQ] at cn
 by_cases hE:E.c=0
 rotate_left
 ·rw [i_ E hE] at hx
  obtain rfl:G=E:=hx
  rw [aN hE] at cn
  simp only [go_sem,aF h1]
  refine aa (cn) ?_
  simp only [go_sem]
  exact au [] (by simp only [go_sem];try rfl) (by rfl)
 rw [bq hE] at cn
 rw [i9 hj' E hE] at hx
 have sx:=bp hts.2 hj'
 have cr:=nz P 12 j (ah m.fs j).b sx.2 (fun y hy=>hP y (sx.2.2 y hy))
 simp only [dQ] at cr
 simp only [go_sem,aF h1]
 refine aa (cn) ?_
 simp only [go_sem]
 refine ⟨by omega,h1,?_⟩
 refine aa (cr) ?_
 simp only [go_sem]
 refine aC (j+1,ov P 12 j (ah m.fs j).b) ⟨show j+1≤m.fs.length by omega,hx⟩ (show m.fs.length - (j+1)<m.fs.length - j by omega) (Wk.of ?_ ?_)
 ·simp only [go_sem,e8];try simp
 ·simp only [go_sem]
end
section
def wl (x:El):Int:=if x.mo<0∨x.mo>2∨(x.mo≠0∧(x.tb≠0∨x.o.length>0)) then 1 else if iz x.tb=false then 11 else if vC x.ty=false then 12 else if x.it.length>256 then 6 else 0
attribute [local go_sem] cY aV dp dz dO c_ cH jV a_ d_ dU jc dQ iQ
theorem J5 (x:El):ae Tryz.prog Um [.agg (l0 x)] (.int .i64 (wl x)):=by
 refine ab (ic:=nK.body) aq Sk rfl rfl ?_
 have c1:=jj x.tb
 have c2:=Fw x.ty
 unfold wl
 by_cases q1:x.mo<0
 ·rw [aK (.inl q1)]
  simp only [go_sem,nK,aF q1]
  exact au [] (by simp only [go_sem];try rfl) (by rfl)
 by_cases q2:x.mo>2
 ·rw [aK (.inr (.inl q2))]
  simp only [go_sem,nK,aG q1,aF q2]
  exact au [] (by simp only [go_sem];try rfl) (by rfl)
 by_cases q3:x.mo=0
 ·rw [aD (fun q=>by rcases q with z | z | z;exact q1 z;exact q2 z;exact z.1 q3)]
  simp only [go_sem,nK,aG q1,aG q2,aL q3]
  refine aa (c1) ?_
  cases v:iz x.tb
  ·simp only [go_sem]
   exact au [] (by simp only [go_sem];try rfl) (by rfl)
  rw [aD (by decide)]
  simp only [go_sem]
  refine aa (c2) ?_
  cases vC x.ty
  ·simp only [go_sem]
   exact au [] (by simp only [go_sem];try rfl) (by rfl)
  rw [aD (by decide)]
  by_cases q5:(x.it.length:Int)>256
  ·rw [aK (by omega)]
   simp only [go_sem,aF q5]
   exact au [] (by simp only [go_sem];try rfl) (by rfl)
  rw [aD (by omega)]
  simp only [go_sem,aG q5]
  exact au [] (by simp only [go_sem];try rfl) (by rfl)
 by_cases q4:x.tb=0
 rotate_left
 ·rw [aK (.inr (.inr ⟨q3,.inl q4⟩))]
  simp only [go_sem,nK,aG q1,aG q2,aZ q3,aZ q4]
  exact au [] (by simp only [go_sem];try rfl) (by rfl)
 by_cases q6:(x.o.length:Int)>0
 ·rw [aK (.inr (.inr ⟨q3,.inr (by omega)⟩))]
  simp only [go_sem,nK,aG q1,aG q2,aZ q3,aL q4,aF q6]
  exact au [] (by simp only [go_sem];try rfl) (by rfl)
 rw [aD (fun q=>by rcases q with z | z | z;exact q1 z;exact q2 z;rcases z.2 with y | y;exact y q4;omega)]
 simp only [go_sem,nK,aG q1,aG q2,aZ q3,aL q4,aG q6]
 refine aa (c1) ?_
 cases v:iz x.tb
 ·simp only [go_sem]
  exact au [] (by simp only [go_sem];try rfl) (by rfl)
 rw [aD (by decide)]
 simp only [go_sem]
 refine aa (c2) ?_
 cases vC x.ty
 ·simp only [go_sem]
  exact au [] (by simp only [go_sem];try rfl) (by rfl)
 rw [aD (by decide)]
 by_cases q5:(x.it.length:Int)>256
 ·rw [aK (by omega)]
  simp only [go_sem,aF q5]
  exact au [] (by simp only [go_sem];try rfl) (by rfl)
 rw [aD (by omega)]
 simp only [go_sem,aG q5]
 exact au [] (by simp only [go_sem];try rfl) (by rfl)
def If (P:bz→Bool) (i:Nat) (x:El):Fa:=gr (fun _ l=>ov P 9 i l) 0 x.it (if wl x=0 then ov P 9 i x.o else db 9 i (wl x))
end
section
def Yi (x:El):ao:=⟨55,5,[l0 x],true⟩
def QI (P:bz→Bool) (m:Md):Fa:=gr (If P) 0 m.els (kx 9 m.els.length 16)
attribute [local go_sem] Yi cY aV dp dz dO c_ cH jV a_ d_ dU jc dQ iQ
theorem Ve (P:bz→Bool) (m:Md) (h:oN m) (hP:∀y,Kx y→ae Tryz.prog mw [jF y] (.bool (P y))):ae Tryz.prog TV [bJ m] (dQ (QI P m)):=by
 refine ab (ic:=BA.body) aq RQ rfl rfl ?_
 obtain ⟨G,hG⟩:∃G,QI P m=G:=⟨_,rfl⟩
 rw [hG]
 have hts:=h.els
 have c0:=iV 9 m.els.length 16
 simp only [dQ] at c0
 simp only [go_sem,BA,bJ]
 refine aa (c0) ?_
 simp only [go_sem]
 refine an (fun q:Nat×Fa=>⟨[(4,.int .i64 q.1),(1,.mp 1 12 0 0),(3,.mp 3 4 0 0),(2,.mp 2 4 0 0)],[(3,iQ q.2),(2,iQ dq),(1,⟨33,12,[gH m],true⟩)]⟩) (fun q=>q.1≤m.els.length∧G=gr (If P) q.1 (m.els.drop q.1) q.2) (fun q=>m.els.length - q.1) (0,kx 9 m.els.length 16) ⟨cE _,hG.symm⟩ (Wk.of ?_ ?_) ?_
 ·simp only [go_sem];try simp [dq]
 ·simp only [go_sem];try simp [dq]
 rintro ⟨j,E⟩ ⟨hj,hx⟩
 simp only at hj hx
 by_cases h1:(j:Int)<(m.els.length:Int)
 rotate_left
 ·rw [bB (by omega)] at hx
  obtain rfl:G=E:=hx
  simp only [go_sem,aG h1]
  exact au [] (by simp only [go_sem];try rfl) (by rfl)
 have hj':j<m.els.length:=by omega
 have e8:=eS hj' (by omega)
 have cn:=dm E
 simp only [dQ] at cn
 by_cases hE:E.c=0
 rotate_left
 ·rw [i_ E hE] at hx
  obtain rfl:G=E:=hx
  rw [aN hE] at cn
  simp only [go_sem,aF h1]
  refine aa (cn) ?_
  simp only [go_sem]
  exact au [] (by simp only [go_sem];try rfl) (by rfl)
 rw [bq hE] at cn
 rw [i9 hj' E hE] at hx
 have sx:=bp hts.2 hj'
 have c1:=J5 (ah m.els j)
 have a1:=ji 9 j (wl (ah m.els j))
 have n1:=dm (db 9 j (wl (ah m.els j)))
 have cr:=nz P 9 j (ah m.els j).o sx.1 (fun y hy=>hP y (sx.1.2 y hy))
 simp only [dQ] at a1 n1 cr
 simp only [a_] at c1
 obtain ⟨D,hD⟩:∃D,If P j (ah m.els j)=D:=⟨_,rfl⟩
 rw [hD] at hx
 unfold If at hD
 simp only [go_sem,aF h1]
 refine aa (cn) ?_
 simp only [go_sem]
 refine ⟨by omega,h1,?_⟩
 refine aa (c1) ?_
 simp only [go_sem]
 refine aa (a1) ?_
 by_cases e0:wl (ah m.els j)=0
 ·rw [aK e0] at hD
  rw [bq (show (db 9 j (wl (ah m.els j))).c=0 by rw [oe];exact e0)] at n1
  simp only [go_sem]
  refine aa (n1) ?_
  simp only [go_sem]
  refine aa (cr) ?_
  simp only [go_sem]
  refine an (fun q:Nat×Fa=>⟨[(6,.int .i64 q.1),(4,.int .i64 j),(5,.mp 5 5 0 0),(1,.mp 1 12 0 0),(3,.mp 3 4 0 0),(2,.mp 2 4 0 0)],[(5,Yi (ah m.els j)),(3,iQ q.2),(2,iQ dq),(1,⟨33,12,[gH m],true⟩)]⟩) (fun q=>q.1≤(ah m.els j).it.length∧D=gr (fun _ l=>ov P 9 j l) q.1 ((ah m.els j).it.drop q.1) q.2) (fun q=>(ah m.els j).it.length - q.1) (0,ov P 9 j (ah m.els j).o) ⟨cE _,hD.symm⟩ (Wk.of ?_ ?_) ?_
  ·simp only [go_sem];try simp [dq]
  ·simp only [go_sem];try simp [dq]
  rintro ⟨k,E2⟩ ⟨hk,hy⟩
  simp only at hk hy
  by_cases g1:(k:Int)<((ah m.els j).it.length:Int)
  rotate_left
  ·rw [bB (by omega)] at hy
   obtain rfl:D=E2:=hy
   simp only [go_sem,aG g1]
   refine aC (j+1,D) ⟨show j+1≤m.els.length by omega,hx⟩ (show m.els.length - (j+1)<m.els.length - j by omega) (Wk.of ?_ ?_)
   ·simp only [go_sem,e8];try simp
   ·simp only [go_sem]
  have hk':k<(ah m.els j).it.length:=by omega
  have e9:=eS hk' (by have:=sx.2.1;omega)
  have cn2:=dm E2
  simp only [dQ] at cn2
  by_cases hE2:E2.c=0
  rotate_left
  ·rw [i_ E2 hE2] at hy
   obtain rfl:D=E2:=hy
   rw [aN hE2] at cn2
   simp only [go_sem,aF g1]
   refine aa (cn2) ?_
   simp only [go_sem]
   refine aC (j+1,D) ⟨show j+1≤m.els.length by omega,hx⟩ (show m.els.length - (j+1)<m.els.length - j by omega) (Wk.of ?_ ?_)
   ·simp only [go_sem,e8];try simp
   ·simp only [go_sem]
  rw [bq hE2] at cn2
  rw [i9 hk' E2 hE2] at hy
  have sy:=bp sx.2.2 hk'
  have cr2:=nz P 9 j (ah (ah m.els j).it k) sy (fun y hy=>hP y (sy.2 y hy))
  simp only [dQ] at cr2
  simp only [go_sem,aF g1]
  refine aa (cn2) ?_
  simp only [go_sem]
  refine ⟨by omega,g1,?_⟩
  refine aa (cr2) ?_
  simp only [go_sem]
  refine aC (k+1,ov P 9 j (ah (ah m.els j).it k)) ⟨show k+1≤(ah m.els j).it.length by omega,hy⟩ (show (ah m.els j).it.length - (k+1)<(ah m.els j).it.length - k by omega) (Wk.of ?_ ?_)
  ·simp only [go_sem,e9];try simp
  ·simp only [go_sem]
 ·rw [aD e0] at hD
  rw [aN (show (db 9 j (wl (ah m.els j))).c≠0 by rw [oe];exact e0)] at n1
  simp only [go_sem]
  refine aa (n1) ?_
  simp only [go_sem]
  refine an (fun q:Nat×Fa=>⟨[(6,.int .i64 q.1),(4,.int .i64 j),(5,.mp 5 5 0 0),(1,.mp 1 12 0 0),(3,.mp 3 4 0 0),(2,.mp 2 4 0 0)],[(5,Yi (ah m.els j)),(3,iQ q.2),(2,iQ dq),(1,⟨33,12,[gH m],true⟩)]⟩) (fun q=>q.1≤(ah m.els j).it.length∧D=gr (fun _ l=>ov P 9 j l) q.1 ((ah m.els j).it.drop q.1) q.2) (fun q=>(ah m.els j).it.length - q.1) (0,db 9 j (wl (ah m.els j))) ⟨cE _,hD.symm⟩ (Wk.of ?_ ?_) ?_
  ·simp only [go_sem];try simp [dq]
  ·simp only [go_sem];try simp [dq]
  rintro ⟨k,E2⟩ ⟨hk,hy⟩
  simp only at hk hy
  by_cases g1:(k:Int)<((ah m.els j).it.length:Int)
  rotate_left
  ·rw [bB (by omega)] at hy
   obtain rfl:D=E2:=hy
   simp only [go_sem,aG g1]
   refine aC (j+1,D) ⟨show j+1≤m.els.length by omega,hx⟩ (show m.els.length - (j+1)<m.els.length - j by omega) (Wk.of ?_ ?_)
   ·simp only [go_sem,e8];try simp
   ·simp only [go_sem]
  have hk':k<(ah m.els j).it.length:=by omega
  have e9:=eS hk' (by have:=sx.2.1;omega)
  have cn2:=dm E2
  simp only [dQ] at cn2
  by_cases hE2:E2.c=0
  rotate_left
  ·rw [i_ E2 hE2] at hy
   obtain rfl:D=E2:=hy
   rw [aN hE2] at cn2
   simp only [go_sem,aF g1]
   refine aa (cn2) ?_
   simp only [go_sem]
   refine aC (j+1,D) ⟨show j+1≤m.els.length by omega,hx⟩ (show m.els.length - (j+1)<m.els.length - j by omega) (Wk.of ?_ ?_)
   ·simp only [go_sem,e8];try simp
   ·simp only [go_sem]
  rw [bq hE2] at cn2
  rw [i9 hk' E2 hE2] at hy
  have sy:=bp sx.2.2 hk'
  have cr2:=nz P 9 j (ah (ah m.els j).it k) sy (fun y hy=>hP y (sy.2 y hy))
  simp only [dQ] at cr2
  simp only [go_sem,aF g1]
  refine aa (cn2) ?_
  simp only [go_sem]
  refine ⟨by omega,g1,?_⟩
  refine aa (cr2) ?_
  simp only [go_sem]
  refine aC (k+1,ov P 9 j (ah (ah m.els j).it k)) ⟨show k+1≤(ah m.els j).it.length by omega,hy⟩ (show (ah m.els j).it.length - (k+1)<(ah m.els j).it.length - k by omega) (Wk.of ?_ ?_)
  ·simp only [go_sem,e9];try simp
  ·simp only [go_sem]
end
end Go.Proofs.YtjndcljjbpeljaaGreatDoor