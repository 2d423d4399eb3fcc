import Derived.Test.YteephfapgoncgaaGreatDoorUQh
set_option linter.all false
set_option maxRecDepth 100000
set_option maxHeartbeats 40000000
namespace Go.Proofs.YteephfapgoncgaaGreatDoor
section
open Go Go.Mw
attribute [local go_sem] fz bq ce bj cA cz bK cy bB bv aQ dc aW
theorem AG (l:Lm) (most:Int):aj Tryz.prog QU [.agg (dA l),.int .i64 most] (.bool (Ky l most)):=by
 refine ab (ic:=r_.body) aq Pk rfl rfl ?_
 unfold Ky
 by_cases q1:l.mn<0
 ·rw [bz (.inl q1)]
  simp only [go_sem,r_,aI q1]
  exact ak
 by_cases q2:l.mn>most
 ·rw [bz (.inr q2)]
  simp only [go_sem,r_,az q1,aI q2]
  exact ak
 rw [aV (by omega)]
 cases hh:l.hs
 ·rw [bz rfl]
  simp only [go_sem,r_,az q1,az q2,hh]
  exact ak
 ·rw [aV (by decide)]
  by_cases q3:l.mn≤l.mx
  ·simp only [go_sem,r_,az q1,az q2,hh,aI q3]
   exact aE [] (by simp only [go_sem,jc]) (by first | rfl | simp [go_sem,ca])
  ·simp only [go_sem,r_,az q1,az q2,hh,az q3]
   exact aE [] (by simp only [go_sem,kE]) (by first | rfl | simp [go_sem,ca])
theorem uy (x:Tb):aj Tryz.prog Me [.agg (dG x)] (.int .i64 (KA x)):=by
 refine ab (ic:=xj.body) aq K0 rfl rfl ?_
 have c1:=AQ x.e
 have c2:=AG x.l 1024
 unfold KA
 simp only [go_sem,xj]
 refine aa (c1) ?_
 cases Gh x.e
 ·simp only [go_sem]
  exact aE [] (by simp only [go_sem];try rfl) (by rfl)
 ·simp only [go_sem]
  refine aa (c2) ?_
  cases Ky x.l 1024
  ·simp only [go_sem]
   exact aE [] (by simp only [go_sem];try rfl) (by rfl)
  ·simp only [go_sem]
   exact aE [] (by simp only [go_sem];try rfl) (by rfl)
theorem F6 (l:Lm):aj Tryz.prog Q0 [.agg (dA l)] (.int .i64 (Kz l)):=by
 refine ab (ic:=Hj.body) aq PE rfl rfl ?_
 have c2:=AG l 256
 unfold Kz
 simp only [go_sem,Hj]
 refine aa (c2) ?_
 cases Ky l 256
 ·simp only [go_sem]
  exact aE [] (by simp only [go_sem];try rfl) (by rfl)
 ·simp only [go_sem]
  exact aE [] (by simp only [go_sem];try rfl) (by rfl)
theorem AE (g:Gl):aj Tryz.prog QZ [.agg [.int .i64 g.v,.bool g.mu]] (.int .i64 (Kv g)):=by
 refine ab (ic:=Hi.body) aq PD rfl rfl ?_
 have c2:=F7 g.v
 unfold Kv
 simp only [go_sem,Hi]
 refine aa (c2) ?_
 cases qt g.v
 ·simp only [go_sem]
  exact aE [] (by simp only [go_sem];try rfl) (by rfl)
 ·simp only [go_sem]
  exact aE [] (by simp only [go_sem];try rfl) (by rfl)
theorem pZ (s:List UInt8):aj Tryz.prog Mk [.str s] (.int .i64 (uF s)):=by
 refine ab (ic:=tL.body) aq K_ rfl rfl ?_
 unfold uF
 by_cases q1:(s.length:Int)>64
 ·rw [bz (by omega)]
  simp only [go_sem,tL,aI q1]
  exact ak
 rw [aV (by omega)]
 simp only [go_sem,tL,az q1]
 refine aa (Nf s (by omega)) ?_
 cases uv s
 ·simp only [go_sem]
  exact aE [] (by simp only [go_sem];try rfl) (by rfl)
 ·simp only [go_sem]
  exact aE [] (by simp only [go_sem];try rfl) (by rfl)
def Lj (x:Cd):Int:=if r9 x.t=false then 11 else if x.lo.length>64 then 6 else if kA x.lo=false then 12 else 0
theorem I5 (x:Cd) (h:B0 x):aj Tryz.prog Mh [.agg (bF x)] (.int .i64 (Lj x)):=by
 refine ab (ic:=xm.body) aq K7 rfl rfl ?_
 have c1:=ji x.t
 have c2:=p5 x.lo (by have:=h.1;omega)
 unfold Lj
 simp only [go_sem,xm]
 refine aa (c1) ?_
 cases r9 x.t
 ·simp only [go_sem]
  exact aE [] (by simp only [go_sem];try rfl) (by rfl)
 rw [aV (by decide)]
 by_cases q1:(x.lo.length:Int)>64
 ·rw [bz (by omega)]
  simp only [go_sem,aI q1]
  exact ak
 rw [aV (by omega)]
 simp only [go_sem,az q1]
 refine aa (c2) ?_
 cases kA x.lo
 ·simp only [go_sem]
  exact aE [] (by simp only [go_sem];try rfl) (by rfl)
 ·simp only [go_sem]
  exact aE [] (by simp only [go_sem];try rfl) (by rfl)
def Lt (x:Ex):Int:=if uF x.n≠0 then uF x.n else if x.k<0∨x.k>3 then 1 else if r9 x.i=false then 11 else 0
theorem AD (x:Ex):aj Tryz.prog QY [.agg (dU x)] (.int .i64 (Lt x)):=by
 refine ab (ic:=Hh.body) aq PC rfl rfl ?_
 have c1:=pZ x.n
 have c2:=ji x.i
 unfold Lt
 simp only [go_sem,Hh]
 refine aa (c1) ?_
 by_cases q0:uF x.n=0
 rotate_left
 ·rw [bz q0]
  simp only [go_sem,cm q0]
  exact ak
 rw [aV (by simp [q0])]
 by_cases q1:x.k<0
 ·rw [bz (.inl q1)]
  simp only [go_sem,bu q0,aI q1]
  exact ak
 by_cases q2:x.k>3
 ·rw [bz (.inr q2)]
  simp only [go_sem,bu q0,az q1,aI q2]
  exact ak
 rw [aV (by omega)]
 simp only [go_sem,bu q0,az q1,az q2]
 refine aa (c2) ?_
 cases r9 x.i
 ·simp only [go_sem]
  exact aE [] (by simp only [go_sem];try rfl) (by rfl)
 ·simp only [go_sem]
  exact aE [] (by simp only [go_sem];try rfl) (by rfl)
theorem Fp {P:cS→Bool} {l:List cS} {i:Nat} (h:i<l.length):ta P i (l.drop i)=if P (ac l i)=false then ((i:Int),10) else if (ac l i).lb.length>64 then ((i:Int),6) else ta P (i+1) (l.drop (i+1)):=by
 rw [pK h,ta]
theorem rn (P:cS→Bool) (l:List cS) (hl:qg l) (hP:∀x∈l,aj Tryz.prog oB [kR x] (.bool (P x))):aj Tryz.prog Gb [.sl 9 (l.map aW)] (.tup [.int .i64 (iN P l).1,.int .i64 (iN P l).2]):=by
 refine ab (ic:=tP.body) aq Li rfl rfl ?_
 unfold iN
 by_cases q1:(l.length:Int)>2048
 ·rw [bz (by omega)]
  simp only [go_sem,tP,aI q1]
  exact ak
 rw [aV (by omega)]
 obtain ⟨G,hG⟩:∃G,ta P 0 l=G:=⟨_,rfl⟩
 rw [hG]
 simp only [go_sem,tP,az q1]
 refine an (fun j:Nat=>⟨[(11,.int .i64 j),(10,.int .i64 l.length),(9,.sl 9 (l.map aW))],[]⟩) (fun j=>j≤l.length∧G=ta P j (l.drop j)) (fun j=>l.length - j) 0 ⟨cC _,hG.symm⟩ (Wk.of ?_ ?_) ?_
 ·simp only [go_sem];try simp
 ·simp only [go_sem]
 rintro j ⟨hj,hx⟩
 by_cases h1:(j:Int)<(l.length:Int)
 rotate_left
 ·rw [iX (by omega)] at hx
  obtain rfl:G=(0,0):=hx
  simp only [go_sem,az h1]
  exact ak
 have hj':j<l.length:=by omega
 have e8:=dz hj' (by have:=hl.1;omega)
 have cc:=aO hP hj'
 simp only [dc] at cc
 rw [Fp hj'] at hx
 cases hp:P (ac l j)
 ·rw [hp] at cc hx
  obtain rfl:G=((j:Int),10):=hx
  simp only [go_sem,aI h1]
  refine ⟨by omega,h1,?_⟩
  refine aa (cc) ?_
  simp only [go_sem]
  exact ak
 rw [hp] at cc hx
 rw [aV (by decide)] at hx
 by_cases q2:((ac l j).lb.length:Int)>64
 ·rw [bz (by omega)] at hx
  subst hx
  simp only [go_sem,aI h1]
  refine ⟨by omega,h1,?_⟩
  refine aa (cc) ?_
  simp only [go_sem,aI q2]
  exact ak
 rw [aV (by omega)] at hx
 simp only [go_sem,aI h1]
 refine ⟨by omega,h1,?_⟩
 refine aa (cc) ?_
 simp only [go_sem,az q2]
 refine aC (j+1) ⟨show j+1≤l.length by omega,hx⟩ (show l.length - (j+1)<l.length - j by omega) (Wk.of ?_ ?_)
 ·simp only [go_sem,e8];try simp
 ·simp only [go_sem]
end
section
open Go Go.Mw
def Ll (x:Cu):Int:=if uF x.n≠0 then uF x.n else if x.b.length>4096 then 6 else if x.af<0∨x.af>12 then 1 else 0
attribute [local go_sem] fz bq ce bj cA cz bK cy bB bv aQ dc aW
theorem AC (x:Cu):aj Tryz.prog QX [.agg (eW x)] (.int .i64 (Ll x)):=by
 refine ab (ic:=Hg.body) aq PB rfl rfl ?_
 have c1:=pZ x.n
 unfold Ll
 simp only [go_sem,Hg]
 refine aa (c1) ?_
 by_cases q0:uF x.n=0
 rotate_left
 ·rw [bz q0]
  simp only [go_sem,cm q0]
  exact ak
 rw [aV (by simp [q0])]
 by_cases q1:(x.b.length:Int)>4096
 ·rw [bz (by omega)]
  simp only [go_sem,bu q0,aI q1]
  exact ak
 rw [aV (by omega)]
 by_cases q2:x.af<0
 ·rw [bz (.inl q2)]
  simp only [go_sem,bu q0,az q1,aI q2]
  exact ak
 by_cases q3:x.af>12
 ·rw [bz (.inr q3)]
  simp only [go_sem,bu q0,az q1,az q2,aI q3]
  exact ak
 rw [aV (by omega)]
 simp only [go_sem,bu q0,az q1,az q2,az q3]
 exact ak
def H4 (P:cS→Bool) (x:Da):Int×Int:=if x.mo≠0∧(x.mo≠1∨x.me≠0∨x.o.length>0) then (0,1) else if r9 x.me=false then (0,11) else if x.b.length>4096 then (0,6) else iN P x.o
theorem I7 (P:cS→Bool) (x:Da) (h:Fz x) (hP:∀y∈x.o,aj Tryz.prog oB [kR y] (.bool (P y))):aj Tryz.prog Mi [.agg (cM x)] (.tup [.int .i64 (H4 P x).1,.int .i64 (H4 P x).2]):=by
 refine ab (ic:=mT.body) aq K8 rfl rfl ?_
 have c1:=ji x.me
 have c2:=rn P x.o h.1 hP
 unfold H4
 by_cases q1:x.mo=0
 ·rw [aV (fun q=>q.1 q1)]
  simp only [go_sem,mT,bu q1]
  refine aa (c1) ?_
  cases r9 x.me
  ·simp only [go_sem]
   exact aE [] (by simp only [go_sem];try rfl) (by rfl)
  rw [aV (by decide)]
  by_cases q5:(x.b.length:Int)>4096
  ·rw [bz (by omega)]
   simp only [go_sem,aI q5]
   exact aE [] (by simp only [go_sem];try rfl) (by rfl)
  rw [aV (by omega)]
  simp only [go_sem,az q5]
  refine aa (c2) ?_
  simp only [go_sem]
  exact ak
 by_cases q2:x.mo=1
 rotate_left
 ·rw [bz ⟨q1,.inl q2⟩]
  simp only [go_sem,mT,cm q1,cm q2]
  exact aE [] (by simp only [go_sem];try rfl) (by rfl)
 by_cases q3:x.me=0
 rotate_left
 ·rw [bz ⟨q1,.inr (.inl q3)⟩]
  simp only [go_sem,mT,cm q1,bu q2,cm q3]
  exact aE [] (by simp only [go_sem];try rfl) (by rfl)
 by_cases q4:(x.o.length:Int)>0
 ·rw [bz ⟨q1,.inr (.inr (by omega))⟩]
  simp only [go_sem,mT,cm q1,bu q2,bu q3,aI q4]
  exact aE [] (by simp only [go_sem];try rfl) (by rfl)
 rw [aV (fun q=>by rcases q.2 with z | z | z;exact z q2;exact z q3;omega)]
 simp only [go_sem,mT,cm q1,bu q2,bu q3,az q4]
 refine aa (c1) ?_
 cases r9 x.me
 ·simp only [go_sem]
  exact aE [] (by simp only [go_sem];try rfl) (by rfl)
 rw [aV (by decide)]
 by_cases q5:(x.b.length:Int)>4096
 ·rw [bz (by omega)]
  simp only [go_sem,aI q5]
  exact aE [] (by simp only [go_sem];try rfl) (by rfl)
 rw [aV (by omega)]
 simp only [go_sem,az q5]
 refine aa (c2) ?_
 simp only [go_sem]
 exact ak
def tX (x:Im):Im:=if x.k=0 then ⟨x.m,x.n,x.k,x.f,0,⟨0,0,false⟩,⟨0,0,false⟩,⟨0,false⟩⟩ else if x.k=1 then ⟨x.m,x.n,x.k,0,x.te,x.tl,⟨0,0,false⟩,⟨0,false⟩⟩ else if x.k=2 then ⟨x.m,x.n,x.k,0,0,⟨0,0,false⟩,x.me,⟨0,false⟩⟩ else if x.k=3 then ⟨x.m,x.n,x.k,0,0,⟨0,0,false⟩,⟨0,0,false⟩,x.g⟩ else ⟨x.m,x.n,x.k,0,0,⟨0,0,false⟩,⟨0,0,false⟩,⟨0,false⟩⟩
theorem I4 (x:Im):aj Tryz.prog Mg [.agg (cW x)] (.agg (cW (tX x))):=by
 refine ab (ic:=mS.body) aq K5 rfl rfl ?_
 unfold tX
 by_cases q0:x.k=0
 ·rw [bz q0]
  simp only [go_sem,mS,aZ q0]
  exact aE [] (by simp only [go_sem];try rfl) (by rfl)
 rw [aV q0]
 by_cases q1:x.k=1
 ·rw [bz q1]
  simp only [go_sem,mS,aw q0,aZ q1]
  exact aE [] (by simp only [go_sem];try rfl) (by rfl)
 rw [aV q1]
 by_cases q2:x.k=2
 ·rw [bz q2]
  simp only [go_sem,mS,aw q0,aw q1,aZ q2]
  exact aE [] (by simp only [go_sem];try rfl) (by rfl)
 rw [aV q2]
 by_cases q3:x.k=3
 ·rw [bz q3]
  simp only [go_sem,mS,aw q0,aw q1,aw q2,aZ q3]
  exact aE [] (by simp only [go_sem];try rfl) (by rfl)
 rw [aV q3]
 simp only [go_sem,mS,aw q0,aw q1,aw q2,aw q3]
 exact aE [] (by simp only [go_sem];try rfl) (by rfl)
end
section
open Go Go.Mw
def LF (x:Im):Int:=if uF x.m≠0 then uF x.m else if uF x.n≠0 then uF x.n else if x.k<0∨x.k>3∨tX x≠x then 1 else if x.k=1 then KA ⟨x.te,x.tl⟩ else if x.k=2 then Kz x.me else if x.k=3 then Kv x.g else if r9 x.f=false then 11 else 0
attribute [local go_sem] fz bq ce bj cA cz bK cy bB bv aQ bn dc aW
theorem LZ (x:Im):aj Tryz.prog QP [.agg (cW x)] (.int .i64 (LF x)):=by
 refine ab (ic:=G2.body) aq Pd rfl rfl ?_
 have c1:=pZ x.m
 have c2:=pZ x.n
 have c3:=I4 x
 have c4:=uy ⟨x.te,x.tl⟩
 have c5:=F6 x.me
 have c6:=AE x.g
 have c7:=ji x.f
 simp only [ce] at c3
 unfold LF
 simp only [go_sem,G2]
 refine aa (c1) ?_
 by_cases q0:uF x.m=0
 rotate_left
 ·rw [bz q0]
  simp only [go_sem,cm q0]
  exact ak
 rw [aV (by simp [q0])]
 simp only [go_sem,bu q0]
 refine aa (c2) ?_
 by_cases q1:uF x.n=0
 rotate_left
 ·rw [bz q1]
  simp only [go_sem,cm q1]
  exact ak
 rw [aV (by simp [q1])]
 by_cases q2:x.k<0
 ·rw [bz (.inl q2)]
  simp only [go_sem,bu q1,aI q2]
  exact ak
 by_cases q3:x.k>3
 ·rw [bz (.inr (.inl q3))]
  simp only [go_sem,bu q1,az q2,aI q3]
  exact ak
 simp only [go_sem,bu q1,az q2,az q3]
 refine ar c3 (by simp [go_sem]) rfl ?_
 by_cases q4:tX x=x
 rotate_left
 ·rw [bz (.inr (.inr q4))]
  simp only [go_sem,pd,az q4,eu]
  exact ak
 rw [aV (fun q=>by rcases q with z | z | z;exact q2 z;exact q3 z;exact z q4)]
 by_cases k1:x.k=1
 ·rw [bz k1]
  simp only [go_sem,pd,aI q4,dO,aZ k1]
  refine aa (c4) ?_
  simp only [go_sem]
  exact ak
 rw [aV k1]
 by_cases k2:x.k=2
 ·rw [bz k2]
  simp only [go_sem,pd,aI q4,dO,aw k1,aZ k2]
  refine aa (c5) ?_
  simp only [go_sem]
  exact ak
 rw [aV k2]
 by_cases k3:x.k=3
 ·rw [bz k3]
  simp only [go_sem,pd,aI q4,dO,aw k1,aw k2,aZ k3]
  refine aa (c6) ?_
  simp only [go_sem]
  exact ak
 rw [aV k3]
 simp only [go_sem,pd,aI q4,dO,aw k1,aw k2,aw k3]
 refine aa (c7) ?_
 cases r9 x.f
 ·simp only [go_sem]
  exact aE [] (by simp only [go_sem];try rfl) (by rfl)
 ·simp only [go_sem]
  exact aE [] (by simp only [go_sem];try rfl) (by rfl)
def lW (P:cS→Bool):List (List cS)→Int×Int
 | []=>(0,0)
 | l :: r=>if (iN P l).2≠0 then iN P l else lW P r
theorem rL {P:cS→Bool} {l:List (List cS)} {i:Nat} (h:i<l.length):lW P (l.drop i)=if (iN P (ac l i)).2≠0 then iN P (ac l i) else lW P (l.drop (i+1)):=by
 rw [pK h];rfl
def H_ (P:cS→Bool) (x:El):Int×Int :=
 if x.mo<0∨x.mo>2∨(x.mo≠0∧(x.tb≠0∨x.o.length>0)) then (0,1) else if r9 x.tb=false then (0,11) else if Gh x.ty=false then (0,12) else if x.it.length>256 then (0,6) else lW P (x.o :: x.it)
theorem I8 (P:cS→Bool) (x:El) (h:FA x) (hP:∀y,FB y→aj Tryz.prog oB [kR y] (.bool (P y))):aj Tryz.prog Mj [.agg (cb x)] (.tup [.int .i64 (H_ P x).1,.int .i64 (H_ P x).2]):=by
 refine ab (ic:=lL.body) aq K9 rfl rfl ?_
 have c1:=ji x.tb
 have c2:=AQ x.ty
 have hR:∀l∈x.o :: x.it,aj Tryz.prog Gb [.sl 9 (l.map aW)] (.tup [.int .i64 (iN P l).1,.int .i64 (iN P l).2]):=fun l hl=>by
  rcases cj.1 hl with rfl | hl
  ·exact rn P _ h.1 fun y hy=>hP y (h.1.2 y hy)
  ·exact rn P l (h.2.2 l hl) fun y hy=>hP y ((h.2.2 l hl).2 y hy)
 have hil:=h.2.1
 unfold H_
 by_cases q1:x.mo<0
 ·rw [bz (.inl q1)]
  simp only [go_sem,lL,aI q1]
  exact aE [] (by simp only [go_sem];try rfl) (by rfl)
 by_cases q2:x.mo>2
 ·rw [bz (.inr (.inl q2))]
  simp only [go_sem,lL,az q1,aI q2]
  exact aE [] (by simp only [go_sem];try rfl) (by rfl)
 by_cases q3:x.mo=0
 ·rw [aV (fun q=>by rcases q with z | z | z;exact q1 z;exact q2 z;exact z.1 q3)]
  simp only [go_sem,lL,az q1,az q2,bu q3]
  refine aa (c1) ?_
  cases r9 x.tb
  ·simp only [go_sem]
   exact aE [] (by simp only [go_sem];try rfl) (by rfl)
  rw [aV (by decide)]
  simp only [go_sem]
  refine aa (c2) ?_
  cases Gh x.ty
  ·simp only [go_sem]
   exact aE [] (by simp only [go_sem];try rfl) (by rfl)
  rw [aV (by decide)]
  by_cases q5:(x.it.length:Int)>256
  ·rw [bz (by omega)]
   simp only [go_sem,aI q5]
   exact aE [] (by simp only [go_sem];try rfl) (by rfl)
  rw [aV (by omega)]
  obtain ⟨G,hG⟩:∃G,lW P (x.o :: x.it)=G:=⟨_,rfl⟩
  rw [hG]
  have happ:=fun ys=>aA 50 62 1 1 bY [x.o] ys rfl
  have hlen:(x.o :: x.it).length=1+x.it.length:=by rw [oh];omega
  simp only [dP,List.map_nil,bn] at happ
  simp only [go_sem,az q5,happ]
  refine ⟨by omega,?_⟩
  generalize hL:x.o :: x.it=L at *
  refine an (fun j:Nat=>⟨[(55,.int .i64 j),(54,.int .i64 ((1+x.it.length:Nat):Int)),(53,.ms 50 1 0 (1+x.it.length))],[(50,⟨62,1,L.map bY,false⟩)]⟩) (fun j=>j≤L.length∧G=lW P (L.drop j)) (fun j=>L.length - j) 0 ⟨cC _,hG.symm⟩ (Wk.of ?_ ?_) ?_
  ·simp only [go_sem];try simp
  ·rw [← hL]
   simp only [go_sem];try simp [bn]
  rintro j ⟨hj,hx⟩
  by_cases h1:(j:Int)<((1+x.it.length:Nat):Int)
  rotate_left
  ·rw [iX (by omega)] at hx
   obtain rfl:G=(0,0):=hx
   simp only [go_sem,az h1]
   exact ak
  have hj':j<L.length:=by omega
  have hj2:j<1+x.it.length:=by omega
  have e8:=dz hj' (by omega)
  rw [rL hj'] at hx
  have cc:=aO hR hj'
  by_cases hz:(iN P (ac L j)).2=0
  rotate_left
  ·rw [bz hz] at hx
   subst hx
   simp only [go_sem,aI h1,hj2,hlen]
   refine ⟨by omega,?_⟩
   refine aa (cc) ?_
   simp only [go_sem,cm hz]
   exact ak
  rw [aV (by simp [hz])] at hx
  simp only [go_sem,aI h1,hj2,hlen]
  refine ⟨by omega,?_⟩
  refine aa (cc) ?_
  simp only [go_sem,bu hz]
  refine aC (j+1) ⟨show j+1≤1+x.it.length by omega,hx⟩ (show 1+x.it.length - (j+1)<1+x.it.length - j by omega) (Wk.of ?_ ?_)
  ·simp only [go_sem,e8];try simp
  ·simp only [go_sem];try simp [bn]
 by_cases q4:x.tb=0
 rotate_left
 ·rw [bz (.inr (.inr ⟨q3,.inl q4⟩))]
  simp only [go_sem,lL,az q1,az q2,cm q3,cm q4]
  exact aE [] (by simp only [go_sem];try rfl) (by rfl)
 by_cases q6:(x.o.length:Int)>0
 ·rw [bz (.inr (.inr ⟨q3,.inr (by omega)⟩))]
  simp only [go_sem,lL,az q1,az q2,cm q3,bu q4,aI q6]
  exact aE [] (by simp only [go_sem];try rfl) (by rfl)
 rw [aV (fun q=>by rcases q with z | z | z;exact q1 z;exact q2 z;rcases z.2 with y | y;exact y q4;omega)]
 simp only [go_sem,lL,az q1,az q2,cm q3,bu q4,az q6]
 refine aa (c1) ?_
 cases r9 x.tb
 ·simp only [go_sem]
  exact aE [] (by simp only [go_sem];try rfl) (by rfl)
 rw [aV (by decide)]
 simp only [go_sem]
 refine aa (c2) ?_
 cases Gh x.ty
 ·simp only [go_sem]
  exact aE [] (by simp only [go_sem];try rfl) (by rfl)
 rw [aV (by decide)]
 by_cases q5:(x.it.length:Int)>256
 ·rw [bz (by omega)]
  simp only [go_sem,aI q5]
  exact aE [] (by simp only [go_sem];try rfl) (by rfl)
 rw [aV (by omega)]
 obtain ⟨G,hG⟩:∃G,lW P (x.o :: x.it)=G:=⟨_,rfl⟩
 rw [hG]
 have happ:=fun ys=>aA 50 62 1 1 bY [x.o] ys rfl
 have hlen:(x.o :: x.it).length=1+x.it.length:=by rw [oh];omega
 simp only [dP,List.map_nil,bn] at happ
 simp only [go_sem,az q5,happ]
 refine ⟨by omega,?_⟩
 generalize hL:x.o :: x.it=L at *
 refine an (fun j:Nat=>⟨[(55,.int .i64 j),(54,.int .i64 ((1+x.it.length:Nat):Int)),(53,.ms 50 1 0 (1+x.it.length))],[(50,⟨62,1,L.map bY,false⟩)]⟩) (fun j=>j≤L.length∧G=lW P (L.drop j)) (fun j=>L.length - j) 0 ⟨cC _,hG.symm⟩ (Wk.of ?_ ?_) ?_
 ·simp only [go_sem];try simp
 ·rw [← hL]
  simp only [go_sem];try simp [bn]
 rintro j ⟨hj,hx⟩
 by_cases h1:(j:Int)<((1+x.it.length:Nat):Int)
 rotate_left
 ·rw [iX (by omega)] at hx
  obtain rfl:G=(0,0):=hx
  simp only [go_sem,az h1]
  exact ak
 have hj':j<L.length:=by omega
 have hj2:j<1+x.it.length:=by omega
 have e8:=dz hj' (by omega)
 rw [rL hj'] at hx
 have cc:=aO hR hj'
 by_cases hz:(iN P (ac L j)).2=0
 rotate_left
 ·rw [bz hz] at hx
  subst hx
  simp only [go_sem,aI h1,hj2,hlen]
  refine ⟨by omega,?_⟩
  refine aa (cc) ?_
  simp only [go_sem,cm hz]
  exact ak
 rw [aV (by simp [hz])] at hx
 simp only [go_sem,aI h1,hj2,hlen]
 refine ⟨by omega,?_⟩
 refine aa (cc) ?_
 simp only [go_sem,bu hz]
 refine aC (j+1) ⟨show j+1≤1+x.it.length by omega,hx⟩ (show 1+x.it.length - (j+1)<1+x.it.length - j by omega) (Wk.of ?_ ?_)
 ·simp only [go_sem,e8];try simp
 ·simp only [go_sem];try simp [bn]
end
section
open Go Go.Mw
attribute [local go_sem] fz bq ce bj cA cz bK cy bB bv aQ aW
theorem R8 (i:Int) (x:Ft) (h:NN x):aj Tryz.prog MH [.int .i64 i,.agg (bQ x)] (.tup [.int .i64 0,.int .i64 (Lw x)]):=by
 refine ab (ic:=GT.body) aq O2 rfl rfl ?_
 have c:=LY x h
 try simp only [bq,ce,bj,cA,cz,cy,bv] at c
 simp only [go_sem,GT]
 refine aa (c) ?_
 simp only [go_sem]
 exact ak
theorem R9 (i:Int) (x:Im):aj Tryz.prog MI [.int .i64 i,.agg (cW x)] (.tup [.int .i64 0,.int .i64 (LF x)]):=by
 refine ab (ic:=GU.body) aq O3 rfl rfl ?_
 have c:=LZ x
 try simp only [bq,ce,bj,cA,cz,cy,bv] at c
 simp only [go_sem,GU]
 refine aa (c) ?_
 simp only [go_sem]
 exact ak
theorem R_ (i:Int) (x:Cd) (h:B0 x):aj Tryz.prog MJ [.int .i64 i,.agg (bF x)] (.tup [.int .i64 0,.int .i64 (Lj x)]):=by
 refine ab (ic:=GV.body) aq O4 rfl rfl ?_
 have c:=I5 x h
 try simp only [bq,ce,bj,cA,cz,cy,bv] at c
 simp only [go_sem,GV]
 refine aa (c) ?_
 simp only [go_sem]
 exact ak
theorem Sa (i:Int) (x:Tb):aj Tryz.prog ML [.int .i64 i,.agg (dG x)] (.tup [.int .i64 0,.int .i64 (KA x)]):=by
 refine ab (ic:=GW.body) aq O5 rfl rfl ?_
 have c:=uy x
 try simp only [bq,ce,bj,cA,cz,cy,bv] at c
 simp only [go_sem,GW]
 refine aa (c) ?_
 simp only [go_sem]
 exact ak
theorem Sc (i:Int) (x:Lm):aj Tryz.prog MM [.int .i64 i,.agg (dA x)] (.tup [.int .i64 0,.int .i64 (Kz x)]):=by
 refine ab (ic:=GX.body) aq O6 rfl rfl ?_
 have c:=F6 x
 try simp only [bq,ce,bj,cA,cz,cy,bv] at c
 simp only [go_sem,GX]
 refine aa (c) ?_
 simp only [go_sem]
 exact ak
theorem Se (i:Int) (x:Ex):aj Tryz.prog MO [.int .i64 i,.agg (dU x)] (.tup [.int .i64 0,.int .i64 (Lt x)]):=by
 refine ab (ic:=GZ.body) aq O8 rfl rfl ?_
 have c:=AD x
 try simp only [bq,ce,bj,cA,cz,cy,bv] at c
 simp only [go_sem,GZ]
 refine aa (c) ?_
 simp only [go_sem]
 exact ak
theorem P1 (i:Int) (x:Cu):aj Tryz.prog ME [.int .i64 i,.agg (eW x)] (.tup [.int .i64 0,.int .i64 (Ll x)]):=by
 refine ab (ic:=GQ.body) aq OZ rfl rfl ?_
 have c:=AC x
 try simp only [bq,ce,bj,cA,cz,cy,bv] at c
 simp only [go_sem,GQ]
 refine aa (c) ?_
 simp only [go_sem]
 exact ak
theorem Sf (P:cS→Bool) (i:Int) (x:El) (h:FA x) (hP:∀y,FB y→aj Tryz.prog oB [kR y] (.bool (P y))):aj Tryz.prog MP [.int .i64 i,.agg (cb x)] (.tup [.int .i64 (H_ P x).1,.int .i64 (H_ P x).2]):=by
 refine ab (ic:=G0.body) aq O9 rfl rfl ?_
 have c:=I8 P x h hP
 try simp only [aQ,bB] at c
 simp only [go_sem,G0]
 refine aa (c) ?_
 simp only [go_sem]
 exact ak
theorem Sg (P:cS→Bool) (i:Int) (x:Da) (h:Fz x) (hP:∀y,FB y→aj Tryz.prog oB [kR y] (.bool (P y))):aj Tryz.prog MQ [.int .i64 i,.agg (cM x)] (.tup [.int .i64 (H4 P x).1,.int .i64 (H4 P x).2]):=by
 refine ab (ic:=G1.body) aq O_ rfl rfl ?_
 have c:=I7 P x h fun y hy=>hP y (h.1.2 y hy)
 try simp only [aQ,bB] at c
 simp only [go_sem,G1]
 refine aa (c) ?_
 simp only [go_sem]
 exact ak
theorem P2 (P:cS→Bool) (i:Int) (x:Cd) (h:B0 x) (hP:∀y,FB y→aj Tryz.prog oB [kR y] (.bool (P y))):aj Tryz.prog MG [.int .i64 i,.agg (bF x)] (.tup [.int .i64 (iN P x.b).1,.int .i64 (iN P x.b).2]):=by
 refine ab (ic:=GR.body) aq O0 rfl rfl ?_
 have c:=rn P x.b h.2 fun y hy=>hP y (h.2.2 y hy)
 try simp only [aQ,bB] at c
 simp only [go_sem,GR]
 refine aa (c) ?_
 simp only [go_sem]
 exact ak
def Lx (P:cS→Bool) (x:Gd):Int×Int:=if Kv x.g≠0 then (0,Kv x.g) else iN P x.i
theorem Sd (P:cS→Bool) (i:Int) (x:Gd) (h:J8 x) (hP:∀y,FB y→aj Tryz.prog oB [kR y] (.bool (P y))):aj Tryz.prog MN [.int .i64 i,.agg (df x)] (.tup [.int .i64 (Lx P x).1,.int .i64 (Lx P x).2]):=by
 refine ab (ic:=GY.body) aq O7 rfl rfl ?_
 have c:=AE x.g
 have d:=rn P x.i h fun y hy=>hP y (h.2 y hy)
 unfold Lx
 simp only [go_sem,GY]
 refine aa (c) ?_
 by_cases q:Kv x.g=0
 ·rw [aV (by simp [q])]
  simp only [go_sem,bu q]
  refine aa (d) ?_
  simp only [go_sem]
  exact ak
 ·rw [bz q]
  simp only [go_sem,cm q]
  exact ak
def m8 (k:Int) (l:List Im):Nat:=(l.filter fun x=>x.k==k).length
theorem HY {k:Int} {l:List Im} {i:Nat} (h:i<l.length):m8 k (l.take (i+1))=m8 k (l.take i)+(if (ac l i).k=k then 1 else 0):=by
 unfold m8
 rw [tx h,List.filter_append,ol]
 by_cases q:(ac l i).k=k<;>simp [q]
theorem HX (k:Int) (l:List Im):m8 k l≤l.length:=List.length_filter_le _ _
def RK (m:Md) (i:Nat):ah:=⟨138,4,[[.int .i64 (m8 0 (m.ims.take i):Nat),.int .i64 (m8 1 (m.ims.take i):Nat),.int .i64 (m8 2 (m.ims.take i):Nat),.int .i64 (m8 3 (m.ims.take i):Nat)]],true⟩
end
section
open Go Go.Mw
def LU:Fa:=⟨0,0,0,0⟩
def ND (m:Md):Fa:=dn 1 64 0 (m.ts.map (fun x=>(0,Lw x))) LU
def NE (m:Md):Fa:=dn 2 32 0 (m.ims.map (fun x=>(0,LF x))) (ND m)
def NF (m:Md):Fa:=dn 3 64 (m8 0 m.ims:Nat) (m.fs.map (fun x=>(0,Lj x))) (NE m)
def NG (m:Md):Fa:=dn 4 4 (m8 1 m.ims:Nat) (m.tbs.map (fun x=>(0,KA x))) (NF m)
def NH (m:Md):Fa:=dn 5 2 (m8 2 m.ims:Nat) (m.ms.map (fun x=>(0,Kz x))) (NG m)
def NI (P:cS→Bool) (m:Md):Fa:=dn 6 32 (m8 3 m.ims:Nat) (m.gs.map (Lx P)) (NH m)
def I3 (P:cS→Bool) (m:Md):Fa:=dn 7 64 0 (m.exs.map (fun x=>(0,Lt x))) (NI P m)
def EE (P:cS→Bool) (m:Md):Fa:=if m.hs=true∧r9 m.st=false then kf (I3 P m) 8 0 0 11 else I3 P m
def NJ (P:cS→Bool) (m:Md):Fa:=dn 9 16 0 (m.els.map (H_ P)) (EE P m)
def ED (P:cS→Bool) (m:Md):Fa:=dn 10 16 0 (m.ds.map (H4 P)) (NJ P m)
def oA (P:cS→Bool) (m:Md):Fa:=dn 11 8 0 (m.cs.map (fun x=>(0,Ll x))) (ED P m)
def pY (P:cS→Bool) (m:Md):Fa:=if (oA P m).c=0 then dn 12 (m.fs.length:Int) 0 (m.fs.map (fun x=>iN P x.b)) (oA P m) else oA P m
attribute [local go_sem] fz fZ ce ck RK
theorem rk (P:cS→Bool) (m:Md) (h:Gk m) (hP:∀y,FB y→aj Tryz.prog oB [kR y] (.bool (P y))):aj Tryz.prog Jm [cE m] (.agg [.int .i64 (pY P m).p,.int .i64 (pY P m).i,.int .i64 (pY P m).l,.int .i64 (pY P m).c]):=by
 refine ab (ic:=He.body) aq Pu rfl rfl ?_
 have c1:CM MD [.int .i64 1,.sl 2 (m.ts.map bQ),.int .i64 64,.int .i64 0,.fn MH []] LU (ND m):=AL (by kernel_rfl) (fun x=>(0,Lw x)) m.ts (by have:=h.ts.1;omega) (fun x hx i=>R8 i x (h.ts.2 x hx)) 1 64 0 LU
 have c2:CM My [.int .i64 2,.sl 13 (m.ims.map cW),.int .i64 32,.int .i64 0,.fn MI []] (ND m) (NE m):=AN (by kernel_rfl) (fun x=>(0,LF x)) m.ims (by have:=h.ims;omega) (fun x hx i=>R9 i x) 2 32 0 (ND m)
 have c3:CM Jd [.int .i64 3,.sl 3 (m.fs.map bF),.int .i64 64,.int .i64 (m8 0 m.ims:Nat),.fn MJ []] (NE m) (NF m):=rl (by kernel_rfl) (fun x=>(0,Lj x)) m.fs (by have:=h.fs.1;omega) (fun x hx i=>R_ i x (h.fs.2 x hx)) 3 64 (m8 0 m.ims:Nat) (NE m)
 have c4:CM MA [.int .i64 4,.sl 4 (m.tbs.map dG),.int .i64 4,.int .i64 (m8 1 m.ims:Nat),.fn ML []] (NF m) (NG m):=AP (by kernel_rfl) (fun x=>(0,KA x)) m.tbs (by have:=h.tbs;omega) (fun x hx i=>Sa i x) 4 4 (m8 1 m.ims:Nat) (NF m)
 have c5:CM Mz [.int .i64 5,.sl 3 (m.ms.map dA),.int .i64 2,.int .i64 (m8 2 m.ims:Nat),.fn MM []] (NG m) (NH m):=AO (by kernel_rfl) (fun x=>(0,Kz x)) m.ms (by have:=h.ms;omega) (fun x hx i=>Sc i x) 5 2 (m8 2 m.ims:Nat) (NG m)
 have c6:CM RQ [.int .i64 6,.sl 3 (m.gs.map df),.int .i64 32,.int .i64 (m8 3 m.ims:Nat),.fn MN []] (NH m) (NI P m):=AM (by kernel_rfl) (Lx P) m.gs (by have:=h.gs.1;omega) (fun x hx i=>Sd P i x (h.gs.2 x hx) hP) 6 32 (m8 3 m.ims:Nat) (NH m)
 have c7:CM Mx [.int .i64 7,.sl 3 (m.exs.map dU),.int .i64 64,.int .i64 0,.fn MO []] (NI P m) (I3 P m):=AK (by kernel_rfl) (fun x=>(0,Lt x)) m.exs (by have:=h.exs;omega) (fun x hx i=>Se i x) 7 64 0 (NI P m)
 have c9:CM MC [.int .i64 9,.sl 5 (m.els.map cb),.int .i64 16,.int .i64 0,.fn MP []] (EE P m) (NJ P m):=AJ (by kernel_rfl) (H_ P) m.els (by have:=h.els.1;omega) (fun x hx i=>Sf P i x (h.els.2 x hx) hP) 9 16 0 (EE P m)
 have c10:CM MB [.int .i64 10,.sl 4 (m.ds.map cM),.int .i64 16,.int .i64 0,.fn MQ []] (NJ P m) (ED P m):=AI (by kernel_rfl) (H4 P) m.ds (by have:=h.ds.1;omega) (fun x hx i=>Sg P i x (h.ds.2 x hx) hP) 10 16 0 (NJ P m)
 have c11:CM Mv [.int .i64 11,.sl 3 (m.cs.map eW),.int .i64 8,.int .i64 0,.fn ME []] (ED P m) (oA P m):=AH (by kernel_rfl) (fun x=>(0,Ll x)) m.cs (by have:=h.cs.1;omega) (fun x hx i=>P1 i x) 11 8 0 (ED P m)
 have c8:=ji m.st
 have c12:CM Jd [.int .i64 12,.sl 3 (m.fs.map bF),.int .i64 (m.fs.length:Int),.int .i64 0,.fn MG []] (oA P m) (dn 12 (m.fs.length:Int) 0 (m.fs.map (fun x=>iN P x.b)) (oA P m)):=rl (by kernel_rfl) (fun x=>iN P x.b) m.fs (by have:=h.fs.1;omega) (fun x hx i=>P2 P i x (h.fs.2 x hx) hP) 12 (m.fs.length:Int) 0 (oA P m)
 simp only [go_sem,He,cE]
 refine an (fun j:Nat=>⟨[(13,.int .i64 j),(12,.int .i64 m.ims.length),(11,.sl 13 (m.ims.map cW)),(3,.mp 8 4 0 0),(4,.mp 4 4 0 0),(2,.mp 2 4 0 0),(1,.mp 1 12 0 0)],[(8,ck LU),(4,RK m j),(2,⟨40,4,[[.int .i64 0,.int .i64 0,.int .i64 0,.int .i64 0]],true⟩),(1,⟨33,12,[dQ m],true⟩)]⟩) (fun j=>j≤m.ims.length) (fun j=>m.ims.length - j) 0 (cC _) (Wk.of ?_ ?_) ?_
 ·simp only [go_sem];try simp
 ·simp only [go_sem,bE,m8,LU];try simp
 intro j hj
 by_cases h1:(j:Int)<(m.ims.length:Int)
 ·have hj':j<m.ims.length:=by omega
  have hil:=h.ims
  have e8:=dz hj' (by omega)
  have t:=fun k=>HY (k:=k) hj'
  have hle:=fun k=>gc (HX k (m.ims.take j)) (by rw [r8];omega:(m.ims.take j).length≤j)
  have w:=fun k:Int=>(by have:=hle k;rw [wi (by omega) (by omega)];omega:IntKind.i64.wrap ((m8 k (m.ims.take j):Int)+1)=((m8 k (m.ims.take j)+1:Nat):Int))
  by_cases q0:(ac m.ims j).k=0
  ·simp only [go_sem,aI h1,q0,show decide ((0:Int)≥0)=true from rfl,show decide ((0:Int)≤3)=true from rfl,Nat.mul_one,Int.toNat_zero,Int.toNat_one,Int.reduceToNat,Nat.reduceMul,Nat.reduceAdd]
   refine ⟨by omega,h1,⟨by omega,by omega⟩,⟨by omega,by omega⟩,aC (j+1) (show j+1≤m.ims.length by omega) (show m.ims.length - (j+1)<m.ims.length - j by omega) (Wk.of ?_ ?_)⟩
   ·simp only [go_sem,e8];try simp
   ·simp only [go_sem];try simp [t,q0,w]
  by_cases q1:(ac m.ims j).k=1
  ·simp only [go_sem,aI h1,q1,show decide ((1:Int)≥0)=true from rfl,show decide ((1:Int)≤3)=true from rfl,Nat.mul_one,Int.toNat_zero,Int.toNat_one,Int.reduceToNat,Nat.reduceMul,Nat.reduceAdd]
   refine ⟨by omega,h1,⟨by omega,by omega⟩,⟨by omega,by omega⟩,aC (j+1) (show j+1≤m.ims.length by omega) (show m.ims.length - (j+1)<m.ims.length - j by omega) (Wk.of ?_ ?_)⟩
   ·simp only [go_sem,e8];try simp
   ·simp only [go_sem];try simp [t,q1,w]
  by_cases q2:(ac m.ims j).k=2
  ·simp only [go_sem,aI h1,q2,show decide ((2:Int)≥0)=true from rfl,show decide ((2:Int)≤3)=true from rfl,Nat.mul_one,Int.toNat_zero,Int.toNat_one,Int.reduceToNat,Nat.reduceMul,Nat.reduceAdd]
   refine ⟨by omega,h1,⟨by omega,by omega⟩,⟨by omega,by omega⟩,aC (j+1) (show j+1≤m.ims.length by omega) (show m.ims.length - (j+1)<m.ims.length - j by omega) (Wk.of ?_ ?_)⟩
   ·simp only [go_sem,e8];try simp
   ·simp only [go_sem];try simp [t,q2,w]
  by_cases q3:(ac m.ims j).k=3
  ·simp only [go_sem,aI h1,q3,show decide ((3:Int)≥0)=true from rfl,show decide ((3:Int)≤3)=true from rfl,Nat.mul_one,Int.toNat_zero,Int.toNat_one,Int.reduceToNat,Nat.reduceMul,Nat.reduceAdd]
   refine ⟨by omega,h1,⟨by omega,by omega⟩,⟨by omega,by omega⟩,aC (j+1) (show j+1≤m.ims.length by omega) (show m.ims.length - (j+1)<m.ims.length - j by omega) (Wk.of ?_ ?_)⟩
   ·simp only [go_sem,e8];try simp
   ·simp only [go_sem];try simp [t,q3,w]
  by_cases q5:(ac m.ims j).k≥0
  ·simp only [go_sem,aI h1,aI q5,az (show ¬(ac m.ims j).k≤3 by omega)]
   refine ⟨by omega,h1,aC (j+1) (show j+1≤m.ims.length by omega) (show m.ims.length - (j+1)<m.ims.length - j by omega) (Wk.of ?_ ?_)⟩
   ·simp only [go_sem,e8];try simp
   ·simp only [go_sem];try simp [t,q0,q1,q2,q3]
  ·simp only [go_sem,aI h1,az q5]
   refine ⟨by omega,h1,aC (j+1) (show j+1≤m.ims.length by omega) (show m.ims.length - (j+1)<m.ims.length - j by omega) (Wk.of ?_ ?_)⟩
   ·simp only [go_sem,e8];try simp
   ·simp only [go_sem];try simp [t,q0,q1,q2,q3]
 obtain rfl:j=m.ims.length:=by omega
 simp only [go_sem,az h1,bJ]
 refine b_ (c1) ?_
 simp only [go_sem,Nat.mul_one,Int.toNat_zero,Int.toNat_one,Int.reduceToNat,Nat.reduceMul,Nat.reduceAdd]
 refine b_ (c2) ?_
 simp only [go_sem,Nat.mul_one,Int.toNat_zero,Int.toNat_one,Int.reduceToNat,Nat.reduceMul,Nat.reduceAdd]
 refine ⟨⟨by omega,by omega⟩,?_⟩
 refine b_ (c3) ?_
 simp only [go_sem,Nat.mul_one,Int.toNat_zero,Int.toNat_one,Int.reduceToNat,Nat.reduceMul,Nat.reduceAdd]
 refine ⟨⟨by omega,by omega⟩,?_⟩
 refine b_ (c4) ?_
 simp only [go_sem,Nat.mul_one,Int.toNat_zero,Int.toNat_one,Int.reduceToNat,Nat.reduceMul,Nat.reduceAdd]
 refine ⟨⟨by omega,by omega⟩,?_⟩
 refine b_ (c5) ?_
 simp only [go_sem,Nat.mul_one,Int.toNat_zero,Int.toNat_one,Int.reduceToNat,Nat.reduceMul,Nat.reduceAdd]
 refine ⟨⟨by omega,by omega⟩,?_⟩
 refine b_ (c6) ?_
 simp only [go_sem,Nat.mul_one,Int.toNat_zero,Int.toNat_one,Int.reduceToNat,Nat.reduceMul,Nat.reduceAdd]
 refine b_ (c7) ?_
 simp only [go_sem,Nat.mul_one,Int.toNat_zero,Int.toNat_one,Int.reduceToNat,Nat.reduceMul,Nat.reduceAdd]
 cases hh:m.hs
 ·rw [show EE P m=I3 P m by unfold EE;rw [hh,aV (by simp)]] at c9
  simp only [go_sem,hh]
  refine b_ (c9) ?_
  simp only [go_sem]
  refine b_ (c10) ?_
  simp only [go_sem]
  refine b_ (c11) ?_
  simp only [go_sem]
  unfold pY
  by_cases z:(oA P m).c=0
  ·rw [bz z]
   simp only [go_sem,aZ z]
   refine b_ (c12) ?_
   simp only [go_sem]
   exact ak
  ·rw [aV z]
   simp only [go_sem,aw z]
   exact ak
 simp only [go_sem,hh]
 refine aa (c8) ?_
 cases hi:r9 m.st
 ·have cf:=sU (I3 P m) 8 0 0 11
  rw [show kf (I3 P m) 8 0 0 11=EE P m by unfold EE;rw [hh,hi,bz ⟨rfl,rfl⟩]] at cf
  simp only [go_sem]
  refine b_ (cf) ?_
  simp only [go_sem]
  refine b_ (c9) ?_
  simp only [go_sem]
  refine b_ (c10) ?_
  simp only [go_sem]
  refine b_ (c11) ?_
  simp only [go_sem]
  unfold pY
  by_cases z:(oA P m).c=0
  ·rw [bz z]
   simp only [go_sem,aZ z]
   refine b_ (c12) ?_
   simp only [go_sem]
   exact ak
  ·rw [aV z]
   simp only [go_sem,aw z]
   exact ak
 ·rw [show EE P m=I3 P m by unfold EE;rw [hi,aV (by simp)]] at c9
  simp only [go_sem]
  refine b_ (c9) ?_
  simp only [go_sem]
  refine b_ (c10) ?_
  simp only [go_sem]
  refine b_ (c11) ?_
  simp only [go_sem]
  unfold pY
  by_cases z:(oA P m).c=0
  ·rw [bz z]
   simp only [go_sem,aZ z]
   refine b_ (c12) ?_
   simp only [go_sem]
   exact ak
  ·rw [aV z]
   simp only [go_sem,aw z]
   exact ak
end
section
open Go Go.Mw
attribute [local go_sem] fz bq ce bj cA cz bK cy bB bv aQ bn aW
theorem AX {f:FuncId} (hb:bc Tryz.prog f=true) (a b:List Ft) (ha:a.length≤9223372036854775807) (hf:∀x∈a,∀y,aj Tryz.prog f [.agg (bQ x),.agg (bQ y)] (.bool (decide (x=y)))):aj Tryz.prog QG [.sl 2 (a.map bQ),.sl 2 (b.map bQ),.fn f []] (.bool (decide (a=b))):=by
 refine ab (ic:=Cq.body) aq OT rfl rfl ?_
 by_cases hl:(a.length:Int)=(b.length:Int)
 rotate_left
 ·rw [az (fun h=>hl (by rw [h]))]
  simp only [go_sem,Cq,cm hl]
  exact ak
 simp only [go_sem,Cq,bu hl]
 refine an (fun j:Nat=>⟨[(15,.int .i64 j),(14,.int .i64 a.length),(0,.sl 2 (a.map bQ)),(1,.sl 2 (b.map bQ)),(2,.fn f [])],[]⟩) (fun j=>j≤a.length∧∀k,k<j→ac a k=ac b k) (fun j=>a.length - j) 0 ⟨cC _,fun k hk=>by omega⟩ (Wk.of ?_ ?_) ?_
 ·simp only [go_sem,hl];try simp
 ·simp only [go_sem]
 rintro j ⟨hj,hx⟩
 by_cases h1:(j:Int)<(a.length:Int)
 rotate_left
 ·rw [aI (eP (by omega) fun k hk=>hx k (by omega))]
  simp only [go_sem,az h1]
  exact ak
 have hj':j<a.length:=by omega
 have hjb:(j:Int)<(b.length:Int):=by omega
 have e8:=dz hj' (by omega)
 have hF:=cd (P:=Tryz.prog) (by kernel_rfl) hb
 have cc:=aO hf hj' (ac b j)
 try simp only [bq,ce,bj,cA,cz,bK,cy,bB,bv,aQ,bn,aW,dc] at cc
 by_cases h2:ac a j=ac b j
 ·rw [aI h2] at cc
  simp only [go_sem,aI h1,hF]
  refine ⟨by omega,h1,by omega,hjb,?_⟩
  refine ⟨hb,?_⟩
  refine aa (cc) ?_
  simp only [go_sem]
  refine aC (j+1) ⟨show j+1≤a.length by omega,fun k hk=>?_⟩ (show a.length - (j+1)<a.length - j by omega) (Wk.of ?_ ?_)
  ·rcases cB k j with h | h
   ·exact hx k h
   ·rw [show k=j by omega];exact h2
  ·simp only [go_sem,e8];try simp
  ·simp only [go_sem]
 ·rw [az h2] at cc
  rw [az (fun e=>h2 (by rw [e]))]
  simp only [go_sem,aI h1,hF]
  refine ⟨by omega,h1,by omega,hjb,?_⟩
  refine ⟨hb,?_⟩
  refine aa (cc) ?_
  simp only [go_sem]
  exact ak
theorem AZ {f:FuncId} (hb:bc Tryz.prog f=true) (a b:List Im) (ha:a.length≤9223372036854775807) (hf:∀x∈a,∀y,aj Tryz.prog f [.agg (cW x),.agg (cW y)] (.bool (decide (x=y)))):aj Tryz.prog Qs [.sl 13 (a.map cW),.sl 13 (b.map cW),.fn f []] (.bool (decide (a=b))):=by
 refine ab (ic:=Ch.body) aq Oz rfl rfl ?_
 by_cases hl:(a.length:Int)=(b.length:Int)
 rotate_left
 ·rw [az (fun h=>hl (by rw [h]))]
  simp only [go_sem,Ch,cm hl]
  exact ak
 simp only [go_sem,Ch,bu hl]
 refine an (fun j:Nat=>⟨[(15,.int .i64 j),(14,.int .i64 a.length),(0,.sl 13 (a.map cW)),(1,.sl 13 (b.map cW)),(2,.fn f [])],[]⟩) (fun j=>j≤a.length∧∀k,k<j→ac a k=ac b k) (fun j=>a.length - j) 0 ⟨cC _,fun k hk=>by omega⟩ (Wk.of ?_ ?_) ?_
 ·simp only [go_sem,hl];try simp
 ·simp only [go_sem]
 rintro j ⟨hj,hx⟩
 by_cases h1:(j:Int)<(a.length:Int)
 rotate_left
 ·rw [aI (eP (by omega) fun k hk=>hx k (by omega))]
  simp only [go_sem,az h1]
  exact ak
 have hj':j<a.length:=by omega
 have hjb:(j:Int)<(b.length:Int):=by omega
 have e8:=dz hj' (by omega)
 have hF:=cd (P:=Tryz.prog) (by kernel_rfl) hb
 have cc:=aO hf hj' (ac b j)
 try simp only [bq,ce,bj,cA,cz,bK,cy,bB,bv,aQ,bn,aW,dc] at cc
 by_cases h2:ac a j=ac b j
 ·rw [aI h2] at cc
  simp only [go_sem,aI h1,hF]
  refine ⟨by omega,h1,by omega,hjb,?_⟩
  refine ⟨hb,?_⟩
  refine aa (cc) ?_
  simp only [go_sem]
  refine aC (j+1) ⟨show j+1≤a.length by omega,fun k hk=>?_⟩ (show a.length - (j+1)<a.length - j by omega) (Wk.of ?_ ?_)
  ·rcases cB k j with h | h
   ·exact hx k h
   ·rw [show k=j by omega];exact h2
  ·simp only [go_sem,e8];try simp
  ·simp only [go_sem]
 ·rw [az h2] at cc
  rw [az (fun e=>h2 (by rw [e]))]
  simp only [go_sem,aI h1,hF]
  refine ⟨by omega,h1,by omega,hjb,?_⟩
  refine ⟨hb,?_⟩
  refine aa (cc) ?_
  simp only [go_sem]
  exact ak
theorem AR {f:FuncId} (hb:bc Tryz.prog f=true) (a b:List Cd) (ha:a.length≤9223372036854775807) (hf:∀x∈a,∀y,aj Tryz.prog f [.agg (bF x),.agg (bF y)] (.bool (decide (x=y)))):aj Tryz.prog QD [.sl 3 (a.map bF),.sl 3 (b.map bF),.fn f []] (.bool (decide (a=b))):=by
 refine ab (ic:=Cn.body) aq OQ rfl rfl ?_
 by_cases hl:(a.length:Int)=(b.length:Int)
 rotate_left
 ·rw [az (fun h=>hl (by rw [h]))]
  simp only [go_sem,Cn,cm hl]
  exact ak
 simp only [go_sem,Cn,bu hl]
 refine an (fun j:Nat=>⟨[(15,.int .i64 j),(14,.int .i64 a.length),(0,.sl 3 (a.map bF)),(1,.sl 3 (b.map bF)),(2,.fn f [])],[]⟩) (fun j=>j≤a.length∧∀k,k<j→ac a k=ac b k) (fun j=>a.length - j) 0 ⟨cC _,fun k hk=>by omega⟩ (Wk.of ?_ ?_) ?_
 ·simp only [go_sem,hl];try simp
 ·simp only [go_sem]
 rintro j ⟨hj,hx⟩
 by_cases h1:(j:Int)<(a.length:Int)
 rotate_left
 ·rw [aI (eP (by omega) fun k hk=>hx k (by omega))]
  simp only [go_sem,az h1]
  exact ak
 have hj':j<a.length:=by omega
 have hjb:(j:Int)<(b.length:Int):=by omega
 have e8:=dz hj' (by omega)
 have hF:=cd (P:=Tryz.prog) (by kernel_rfl) hb
 have cc:=aO hf hj' (ac b j)
 try simp only [bq,ce,bj,cA,cz,bK,cy,bB,bv,aQ,bn,aW,dc] at cc
 by_cases h2:ac a j=ac b j
 ·rw [aI h2] at cc
  simp only [go_sem,aI h1,hF]
  refine ⟨by omega,h1,by omega,hjb,?_⟩
  refine ⟨hb,?_⟩
  refine aa (cc) ?_
  simp only [go_sem]
  refine aC (j+1) ⟨show j+1≤a.length by omega,fun k hk=>?_⟩ (show a.length - (j+1)<a.length - j by omega) (Wk.of ?_ ?_)
  ·rcases cB k j with h | h
   ·exact hx k h
   ·rw [show k=j by omega];exact h2
  ·simp only [go_sem,e8];try simp
  ·simp only [go_sem]
 ·rw [az h2] at cc
  rw [az (fun e=>h2 (by rw [e]))]
  simp only [go_sem,aI h1,hF]
  refine ⟨by omega,h1,by omega,hjb,?_⟩
  refine ⟨hb,?_⟩
  refine aa (cc) ?_
  simp only [go_sem]
  exact ak
theorem A4 {f:FuncId} (hb:bc Tryz.prog f=true) (a b:List Tb) (ha:a.length≤9223372036854775807) (hf:∀x∈a,∀y,aj Tryz.prog f [.agg (dG x),.agg (dG y)] (.bool (decide (x=y)))):aj Tryz.prog Qy [.sl 4 (a.map dG),.sl 4 (b.map dG),.fn f []] (.bool (decide (a=b))):=by
 refine ab (ic:=Cm.body) aq OH rfl rfl ?_
 by_cases hl:(a.length:Int)=(b.length:Int)
 rotate_left
 ·rw [az (fun h=>hl (by rw [h]))]
  simp only [go_sem,Cm,cm hl]
  exact ak
 simp only [go_sem,Cm,bu hl]
 refine an (fun j:Nat=>⟨[(15,.int .i64 j),(14,.int .i64 a.length),(0,.sl 4 (a.map dG)),(1,.sl 4 (b.map dG)),(2,.fn f [])],[]⟩) (fun j=>j≤a.length∧∀k,k<j→ac a k=ac b k) (fun j=>a.length - j) 0 ⟨cC _,fun k hk=>by omega⟩ (Wk.of ?_ ?_) ?_
 ·simp only [go_sem,hl];try simp
 ·simp only [go_sem]
 rintro j ⟨hj,hx⟩
 by_cases h1:(j:Int)<(a.length:Int)
 rotate_left
 ·rw [aI (eP (by omega) fun k hk=>hx k (by omega))]
  simp only [go_sem,az h1]
  exact ak
 have hj':j<a.length:=by omega
 have hjb:(j:Int)<(b.length:Int):=by omega
 have e8:=dz hj' (by omega)
 have hF:=cd (P:=Tryz.prog) (by kernel_rfl) hb
 have cc:=aO hf hj' (ac b j)
 try simp only [bq,ce,bj,cA,cz,bK,cy,bB,bv,aQ,bn,aW,dc] at cc
 by_cases h2:ac a j=ac b j
 ·rw [aI h2] at cc
  simp only [go_sem,aI h1,hF]
  refine ⟨by omega,h1,by omega,hjb,?_⟩
  refine ⟨hb,?_⟩
  refine aa (cc) ?_
  simp only [go_sem]
  refine aC (j+1) ⟨show j+1≤a.length by omega,fun k hk=>?_⟩ (show a.length - (j+1)<a.length - j by omega) (Wk.of ?_ ?_)
  ·rcases cB k j with h | h
   ·exact hx k h
   ·rw [show k=j by omega];exact h2
  ·simp only [go_sem,e8];try simp
  ·simp only [go_sem]
 ·rw [az h2] at cc
  rw [az (fun e=>h2 (by rw [e]))]
  simp only [go_sem,aI h1,hF]
  refine ⟨by omega,h1,by omega,hjb,?_⟩
  refine ⟨hb,?_⟩
  refine aa (cc) ?_
  simp only [go_sem]
  exact ak
theorem A0 {f:FuncId} (hb:bc Tryz.prog f=true) (a b:List Lm) (ha:a.length≤9223372036854775807) (hf:∀x∈a,∀y,aj Tryz.prog f [.agg (dA x),.agg (dA y)] (.bool (decide (x=y)))):aj Tryz.prog Qt [.sl 3 (a.map dA),.sl 3 (b.map dA),.fn f []] (.bool (decide (a=b))):=by
 refine ab (ic:=Ci.body) aq OA rfl rfl ?_
 by_cases hl:(a.length:Int)=(b.length:Int)
 rotate_left
 ·rw [az (fun h=>hl (by rw [h]))]
  simp only [go_sem,Ci,cm hl]
  exact ak
 simp only [go_sem,Ci,bu hl]
 refine an (fun j:Nat=>⟨[(15,.int .i64 j),(14,.int .i64 a.length),(0,.sl 3 (a.map dA)),(1,.sl 3 (b.map dA)),(2,.fn f [])],[]⟩) (fun j=>j≤a.length∧∀k,k<j→ac a k=ac b k) (fun j=>a.length - j) 0 ⟨cC _,fun k hk=>by omega⟩ (Wk.of ?_ ?_) ?_
 ·simp only [go_sem,hl];try simp
 ·simp only [go_sem]
 rintro j ⟨hj,hx⟩
 by_cases h1:(j:Int)<(a.length:Int)
 rotate_left
 ·rw [aI (eP (by omega) fun k hk=>hx k (by omega))]
  simp only [go_sem,az h1]
  exact ak
 have hj':j<a.length:=by omega
 have hjb:(j:Int)<(b.length:Int):=by omega
 have e8:=dz hj' (by omega)
 have hF:=cd (P:=Tryz.prog) (by kernel_rfl) hb
 have cc:=aO hf hj' (ac b j)
 try simp only [bq,ce,bj,cA,cz,bK,cy,bB,bv,aQ,bn,aW,dc] at cc
 by_cases h2:ac a j=ac b j
 ·rw [aI h2] at cc
  simp only [go_sem,aI h1,hF]
  refine ⟨by omega,h1,by omega,hjb,?_⟩
  refine ⟨hb,?_⟩
  refine aa (cc) ?_
  simp only [go_sem]
  refine aC (j+1) ⟨show j+1≤a.length by omega,fun k hk=>?_⟩ (show a.length - (j+1)<a.length - j by omega) (Wk.of ?_ ?_)
  ·rcases cB k j with h | h
   ·exact hx k h
   ·rw [show k=j by omega];exact h2
  ·simp only [go_sem,e8];try simp
  ·simp only [go_sem]
 ·rw [az h2] at cc
  rw [az (fun e=>h2 (by rw [e]))]
  simp only [go_sem,aI h1,hF]
  refine ⟨by omega,h1,by omega,hjb,?_⟩
  refine ⟨hb,?_⟩
  refine aa (cc) ?_
  simp only [go_sem]
  exact ak
theorem AY {f:FuncId} (hb:bc Tryz.prog f=true) (a b:List Gd) (ha:a.length≤9223372036854775807) (hf:∀x∈a,∀y,aj Tryz.prog f [.agg (df x),.agg (df y)] (.bool (decide (x=y)))):aj Tryz.prog Ql [.sl 3 (a.map df),.sl 3 (b.map df),.fn f []] (.bool (decide (a=b))):=by
 refine ab (ic:=Cc.body) aq Oi rfl rfl ?_
 by_cases hl:(a.length:Int)=(b.length:Int)
 rotate_left
 ·rw [az (fun h=>hl (by rw [h]))]
  simp only [go_sem,Cc,cm hl]
  exact ak
 simp only [go_sem,Cc,bu hl]
 refine an (fun j:Nat=>⟨[(15,.int .i64 j),(14,.int .i64 a.length),(0,.sl 3 (a.map df)),(1,.sl 3 (b.map df)),(2,.fn f [])],[]⟩) (fun j=>j≤a.length∧∀k,k<j→ac a k=ac b k) (fun j=>a.length - j) 0 ⟨cC _,fun k hk=>by omega⟩ (Wk.of ?_ ?_) ?_
 ·simp only [go_sem,hl];try simp
 ·simp only [go_sem]
 rintro j ⟨hj,hx⟩
 by_cases h1:(j:Int)<(a.length:Int)
 rotate_left
 ·rw [aI (eP (by omega) fun k hk=>hx k (by omega))]
  simp only [go_sem,az h1]
  exact ak
 have hj':j<a.length:=by omega
 have hjb:(j:Int)<(b.length:Int):=by omega
 have e8:=dz hj' (by omega)
 have hF:=cd (P:=Tryz.prog) (by kernel_rfl) hb
 have cc:=aO hf hj' (ac b j)
 try simp only [bq,ce,bj,cA,cz,bK,cy,bB,bv,aQ,bn,aW,dc] at cc
 by_cases h2:ac a j=ac b j
 ·rw [aI h2] at cc
  simp only [go_sem,aI h1,hF]
  refine ⟨by omega,h1,by omega,hjb,?_⟩
  refine ⟨hb,?_⟩
  refine aa (cc) ?_
  simp only [go_sem]
  refine aC (j+1) ⟨show j+1≤a.length by omega,fun k hk=>?_⟩ (show a.length - (j+1)<a.length - j by omega) (Wk.of ?_ ?_)
  ·rcases cB k j with h | h
   ·exact hx k h
   ·rw [show k=j by omega];exact h2
  ·simp only [go_sem,e8];try simp
  ·simp only [go_sem]
 ·rw [az h2] at cc
  rw [az (fun e=>h2 (by rw [e]))]
  simp only [go_sem,aI h1,hF]
  refine ⟨by omega,h1,by omega,hjb,?_⟩
  refine ⟨hb,?_⟩
  refine aa (cc) ?_
  simp only [go_sem]
  exact ak
theorem AW {f:FuncId} (hb:bc Tryz.prog f=true) (a b:List Ex) (ha:a.length≤9223372036854775807) (hf:∀x∈a,∀y,aj Tryz.prog f [.agg (dU x),.agg (dU y)] (.bool (decide (x=y)))):aj Tryz.prog Qr [.sl 3 (a.map dU),.sl 3 (b.map dU),.fn f []] (.bool (decide (a=b))):=by
 refine ab (ic:=Cg.body) aq Oy rfl rfl ?_
 by_cases hl:(a.length:Int)=(b.length:Int)
 rotate_left
 ·rw [az (fun h=>hl (by rw [h]))]
  simp only [go_sem,Cg,cm hl]
  exact ak
 simp only [go_sem,Cg,bu hl]
 refine an (fun j:Nat=>⟨[(15,.int .i64 j),(14,.int .i64 a.length),(0,.sl 3 (a.map dU)),(1,.sl 3 (b.map dU)),(2,.fn f [])],[]⟩) (fun j=>j≤a.length∧∀k,k<j→ac a k=ac b k) (fun j=>a.length - j) 0 ⟨cC _,fun k hk=>by omega⟩ (Wk.of ?_ ?_) ?_
 ·simp only [go_sem,hl];try simp
 ·simp only [go_sem]
 rintro j ⟨hj,hx⟩
 by_cases h1:(j:Int)<(a.length:Int)
 rotate_left
 ·rw [aI (eP (by omega) fun k hk=>hx k (by omega))]
  simp only [go_sem,az h1]
  exact ak
 have hj':j<a.length:=by omega
 have hjb:(j:Int)<(b.length:Int):=by omega
 have e8:=dz hj' (by omega)
 have hF:=cd (P:=Tryz.prog) (by kernel_rfl) hb
 have cc:=aO hf hj' (ac b j)
 try simp only [bq,ce,bj,cA,cz,bK,cy,bB,bv,aQ,bn,aW,dc] at cc
 by_cases h2:ac a j=ac b j
 ·rw [aI h2] at cc
  simp only [go_sem,aI h1,hF]
  refine ⟨by omega,h1,by omega,hjb,?_⟩
  refine ⟨hb,?_⟩
  refine aa (cc) ?_
  simp only [go_sem]
  refine aC (j+1) ⟨show j+1≤a.length by omega,fun k hk=>?_⟩ (show a.length - (j+1)<a.length - j by omega) (Wk.of ?_ ?_)
  ·rcases cB k j with h | h
   ·exact hx k h
   ·rw [show k=j by omega];exact h2
  ·simp only [go_sem,e8];try simp
  ·simp only [go_sem]
 ·rw [az h2] at cc
  rw [az (fun e=>h2 (by rw [e]))]
  simp only [go_sem,aI h1,hF]
  refine ⟨by omega,h1,by omega,hjb,?_⟩
  refine ⟨hb,?_⟩
  refine aa (cc) ?_
  simp only [go_sem]
  exact ak
theorem AU {f:FuncId} (hb:bc Tryz.prog f=true) (a b:List El) (ha:a.length≤9223372036854775807) (hf:∀x∈a,∀y,aj Tryz.prog f [.agg (cb x),.agg (cb y)] (.bool (decide (x=y)))):aj Tryz.prog QF [.sl 5 (a.map cb),.sl 5 (b.map cb),.fn f []] (.bool (decide (a=b))):=by
 refine ab (ic:=Cp.body) aq OS rfl rfl ?_
 by_cases hl:(a.length:Int)=(b.length:Int)
 rotate_left
 ·rw [az (fun h=>hl (by rw [h]))]
  simp only [go_sem,Cp,cm hl]
  exact ak
 simp only [go_sem,Cp,bu hl]
 refine an (fun j:Nat=>⟨[(15,.int .i64 j),(14,.int .i64 a.length),(0,.sl 5 (a.map cb)),(1,.sl 5 (b.map cb)),(2,.fn f [])],[]⟩) (fun j=>j≤a.length∧∀k,k<j→ac a k=ac b k) (fun j=>a.length - j) 0 ⟨cC _,fun k hk=>by omega⟩ (Wk.of ?_ ?_) ?_
 ·simp only [go_sem,hl];try simp
 ·simp only [go_sem]
 rintro j ⟨hj,hx⟩
 by_cases h1:(j:Int)<(a.length:Int)
 rotate_left
 ·rw [aI (eP (by omega) fun k hk=>hx k (by omega))]
  simp only [go_sem,az h1]
  exact ak
 have hj':j<a.length:=by omega
 have hjb:(j:Int)<(b.length:Int):=by omega
 have e8:=dz hj' (by omega)
 have hF:=cd (P:=Tryz.prog) (by kernel_rfl) hb
 have cc:=aO hf hj' (ac b j)
 try simp only [bq,ce,bj,cA,cz,bK,cy,bB,bv,aQ,bn,aW,dc] at cc
 by_cases h2:ac a j=ac b j
 ·rw [aI h2] at cc
  simp only [go_sem,aI h1,hF]
  refine ⟨by omega,h1,by omega,hjb,?_⟩
  refine ⟨hb,?_⟩
  refine aa (cc) ?_
  simp only [go_sem]
  refine aC (j+1) ⟨show j+1≤a.length by omega,fun k hk=>?_⟩ (show a.length - (j+1)<a.length - j by omega) (Wk.of ?_ ?_)
  ·rcases cB k j with h | h
   ·exact hx k h
   ·rw [show k=j by omega];exact h2
  ·simp only [go_sem,e8];try simp
  ·simp only [go_sem]
 ·rw [az h2] at cc
  rw [az (fun e=>h2 (by rw [e]))]
  simp only [go_sem,aI h1,hF]
  refine ⟨by omega,h1,by omega,hjb,?_⟩
  refine ⟨hb,?_⟩
  refine aa (cc) ?_
  simp only [go_sem]
  exact ak
theorem AT {f:FuncId} (hb:bc Tryz.prog f=true) (a b:List Da) (ha:a.length≤9223372036854775807) (hf:∀x∈a,∀y,aj Tryz.prog f [.agg (cM x),.agg (cM y)] (.bool (decide (x=y)))):aj Tryz.prog QE [.sl 4 (a.map cM),.sl 4 (b.map cM),.fn f []] (.bool (decide (a=b))):=by
 refine ab (ic:=Co.body) aq OR rfl rfl ?_
 by_cases hl:(a.length:Int)=(b.length:Int)
 rotate_left
 ·rw [az (fun h=>hl (by rw [h]))]
  simp only [go_sem,Co,cm hl]
  exact ak
 simp only [go_sem,Co,bu hl]
 refine an (fun j:Nat=>⟨[(15,.int .i64 j),(14,.int .i64 a.length),(0,.sl 4 (a.map cM)),(1,.sl 4 (b.map cM)),(2,.fn f [])],[]⟩) (fun j=>j≤a.length∧∀k,k<j→ac a k=ac b k) (fun j=>a.length - j) 0 ⟨cC _,fun k hk=>by omega⟩ (Wk.of ?_ ?_) ?_
 ·simp only [go_sem,hl];try simp
 ·simp only [go_sem]
 rintro j ⟨hj,hx⟩
 by_cases h1:(j:Int)<(a.length:Int)
 rotate_left
 ·rw [aI (eP (by omega) fun k hk=>hx k (by omega))]
  simp only [go_sem,az h1]
  exact ak
 have hj':j<a.length:=by omega
 have hjb:(j:Int)<(b.length:Int):=by omega
 have e8:=dz hj' (by omega)
 have hF:=cd (P:=Tryz.prog) (by kernel_rfl) hb
 have cc:=aO hf hj' (ac b j)
 try simp only [bq,ce,bj,cA,cz,bK,cy,bB,bv,aQ,bn,aW,dc] at cc
 by_cases h2:ac a j=ac b j
 ·rw [aI h2] at cc
  simp only [go_sem,aI h1,hF]
  refine ⟨by omega,h1,by omega,hjb,?_⟩
  refine ⟨hb,?_⟩
  refine aa (cc) ?_
  simp only [go_sem]
  refine aC (j+1) ⟨show j+1≤a.length by omega,fun k hk=>?_⟩ (show a.length - (j+1)<a.length - j by omega) (Wk.of ?_ ?_)
  ·rcases cB k j with h | h
   ·exact hx k h
   ·rw [show k=j by omega];exact h2
  ·simp only [go_sem,e8];try simp
  ·simp only [go_sem]
 ·rw [az h2] at cc
  rw [az (fun e=>h2 (by rw [e]))]
  simp only [go_sem,aI h1,hF]
  refine ⟨by omega,h1,by omega,hjb,?_⟩
  refine ⟨hb,?_⟩
  refine aa (cc) ?_
  simp only [go_sem]
  exact ak
theorem AS {f:FuncId} (hb:bc Tryz.prog f=true) (a b:List Cu) (ha:a.length≤9223372036854775807) (hf:∀x∈a,∀y,aj Tryz.prog f [.agg (eW x),.agg (eW y)] (.bool (decide (x=y)))):aj Tryz.prog Qq [.sl 3 (a.map eW),.sl 3 (b.map eW),.fn f []] (.bool (decide (a=b))):=by
 refine ab (ic:=Cf.body) aq Ox rfl rfl ?_
 by_cases hl:(a.length:Int)=(b.length:Int)
 rotate_left
 ·rw [az (fun h=>hl (by rw [h]))]
  simp only [go_sem,Cf,cm hl]
  exact ak
 simp only [go_sem,Cf,bu hl]
 refine an (fun j:Nat=>⟨[(15,.int .i64 j),(14,.int .i64 a.length),(0,.sl 3 (a.map eW)),(1,.sl 3 (b.map eW)),(2,.fn f [])],[]⟩) (fun j=>j≤a.length∧∀k,k<j→ac a k=ac b k) (fun j=>a.length - j) 0 ⟨cC _,fun k hk=>by omega⟩ (Wk.of ?_ ?_) ?_
 ·simp only [go_sem,hl];try simp
 ·simp only [go_sem]
 rintro j ⟨hj,hx⟩
 by_cases h1:(j:Int)<(a.length:Int)
 rotate_left
 ·rw [aI (eP (by omega) fun k hk=>hx k (by omega))]
  simp only [go_sem,az h1]
  exact ak
 have hj':j<a.length:=by omega
 have hjb:(j:Int)<(b.length:Int):=by omega
 have e8:=dz hj' (by omega)
 have hF:=cd (P:=Tryz.prog) (by kernel_rfl) hb
 have cc:=aO hf hj' (ac b j)
 try simp only [bq,ce,bj,cA,cz,bK,cy,bB,bv,aQ,bn,aW,dc] at cc
 by_cases h2:ac a j=ac b j
 ·rw [aI h2] at cc
  simp only [go_sem,aI h1,hF]
  refine ⟨by omega,h1,by omega,hjb,?_⟩
  refine ⟨hb,?_⟩
  refine aa (cc) ?_
  simp only [go_sem]
  refine aC (j+1) ⟨show j+1≤a.length by omega,fun k hk=>?_⟩ (show a.length - (j+1)<a.length - j by omega) (Wk.of ?_ ?_)
  ·rcases cB k j with h | h
   ·exact hx k h
   ·rw [show k=j by omega];exact h2
  ·simp only [go_sem,e8];try simp
  ·simp only [go_sem]
 ·rw [az h2] at cc
  rw [az (fun e=>h2 (by rw [e]))]
  simp only [go_sem,aI h1,hF]
  refine ⟨by omega,h1,by omega,hjb,?_⟩
  refine ⟨hb,?_⟩
  refine aa (cc) ?_
  simp only [go_sem]
  exact ak
theorem wG {f:FuncId} (hb:bc Tryz.prog f=true) (a b:List cS) (ha:a.length≤9223372036854775807) (hf:∀x∈a,∀y,aj Tryz.prog f [.agg (aW x),.agg (aW y)] (.bool (decide (x=y)))):aj Tryz.prog Qx [.sl 9 (a.map aW),.sl 9 (b.map aW),.fn f []] (.bool (decide (a=b))):=by
 refine ab (ic:=Ck.body) aq OG rfl rfl ?_
 by_cases hl:(a.length:Int)=(b.length:Int)
 rotate_left
 ·rw [az (fun h=>hl (by rw [h]))]
  simp only [go_sem,Ck,cm hl]
  exact ak
 simp only [go_sem,Ck,bu hl]
 refine an (fun j:Nat=>⟨[(15,.int .i64 j),(14,.int .i64 a.length),(0,.sl 9 (a.map aW)),(1,.sl 9 (b.map aW)),(2,.fn f [])],[]⟩) (fun j=>j≤a.length∧∀k,k<j→ac a k=ac b k) (fun j=>a.length - j) 0 ⟨cC _,fun k hk=>by omega⟩ (Wk.of ?_ ?_) ?_
 ·simp only [go_sem,hl];try simp
 ·simp only [go_sem]
 rintro j ⟨hj,hx⟩
 by_cases h1:(j:Int)<(a.length:Int)
 rotate_left
 ·rw [aI (eP (by omega) fun k hk=>hx k (by omega))]
  simp only [go_sem,az h1]
  exact ak
 have hj':j<a.length:=by omega
 have hjb:(j:Int)<(b.length:Int):=by omega
 have e8:=dz hj' (by omega)
 have hF:=cd (P:=Tryz.prog) (by kernel_rfl) hb
 have cc:=aO hf hj' (ac b j)
 try simp only [bq,ce,bj,cA,cz,bK,cy,bB,bv,aQ,bn,aW,dc] at cc
 by_cases h2:ac a j=ac b j
 ·rw [aI h2] at cc
  simp only [go_sem,aI h1,hF]
  refine ⟨by omega,h1,by omega,hjb,?_⟩
  refine ⟨hb,?_⟩
  refine aa (cc) ?_
  simp only [go_sem]
  refine aC (j+1) ⟨show j+1≤a.length by omega,fun k hk=>?_⟩ (show a.length - (j+1)<a.length - j by omega) (Wk.of ?_ ?_)
  ·rcases cB k j with h | h
   ·exact hx k h
   ·rw [show k=j by omega];exact h2
  ·simp only [go_sem,e8];try simp
  ·simp only [go_sem]
 ·rw [az h2] at cc
  rw [az (fun e=>h2 (by rw [e]))]
  simp only [go_sem,aI h1,hF]
  refine ⟨by omega,h1,by omega,hjb,?_⟩
  refine ⟨hb,?_⟩
  refine aa (cc) ?_
  simp only [go_sem]
  exact ak
theorem A3 {f:FuncId} (hb:bc Tryz.prog f=true) (a b:List (List cS)) (ha:a.length≤9223372036854775807) (hf:∀x∈a,∀y,aj Tryz.prog f [.sl 9 (x.map aW),.sl 9 (y.map aW)] (.bool (decide (x=y)))):aj Tryz.prog Qp [.sl 1 (a.map bY),.sl 1 (b.map bY),.fn f []] (.bool (decide (a=b))):=by
 refine ab (ic:=Ce.body) aq Ow rfl rfl ?_
 by_cases hl:(a.length:Int)=(b.length:Int)
 rotate_left
 ·rw [az (fun h=>hl (by rw [h]))]
  simp only [go_sem,Ce,cm hl]
  exact ak
 simp only [go_sem,Ce,bu hl]
 refine an (fun j:Nat=>⟨[(15,.int .i64 j),(14,.int .i64 a.length),(0,.sl 1 (a.map bY)),(1,.sl 1 (b.map bY)),(2,.fn f [])],[]⟩) (fun j=>j≤a.length∧∀k,k<j→ac a k=ac b k) (fun j=>a.length - j) 0 ⟨cC _,fun k hk=>by omega⟩ (Wk.of ?_ ?_) ?_
 ·simp only [go_sem,hl];try simp
 ·simp only [go_sem]
 rintro j ⟨hj,hx⟩
 by_cases h1:(j:Int)<(a.length:Int)
 rotate_left
 ·rw [aI (eP (by omega) fun k hk=>hx k (by omega))]
  simp only [go_sem,az h1]
  exact ak
 have hj':j<a.length:=by omega
 have hjb:(j:Int)<(b.length:Int):=by omega
 have e8:=dz hj' (by omega)
 have hF:=cd (P:=Tryz.prog) (by kernel_rfl) hb
 have cc:=aO hf hj' (ac b j)
 try simp only [bq,ce,bj,cA,cz,bK,cy,bB,bv,aQ,bn,aW,dc] at cc
 by_cases h2:ac a j=ac b j
 ·rw [aI h2] at cc
  simp only [go_sem,aI h1,hF]
  refine ⟨by omega,h1,by omega,hjb,?_⟩
  refine ⟨hb,?_⟩
  refine aa (cc) ?_
  simp only [go_sem]
  refine aC (j+1) ⟨show j+1≤a.length by omega,fun k hk=>?_⟩ (show a.length - (j+1)<a.length - j by omega) (Wk.of ?_ ?_)
  ·rcases cB k j with h | h
   ·exact hx k h
   ·rw [show k=j by omega];exact h2
  ·simp only [go_sem,e8];try simp
  ·simp only [go_sem]
 ·rw [az h2] at cc
  rw [az (fun e=>h2 (by rw [e]))]
  simp only [go_sem,aI h1,hF]
  refine ⟨by omega,h1,by omega,hjb,?_⟩
  refine ⟨hb,?_⟩
  refine aa (cc) ?_
  simp only [go_sem]
  exact ak
theorem I_ (x y:Im):aj Tryz.prog Mr [.agg (cW x),.agg (cW y)] (.bool (decide (x=y))):=by
 refine ab (ic:=GC.body) aq Ol rfl rfl ?_
 simp only [go_sem,GC,pd]
 exact ak
theorem Jb (x y:Tb):aj Tryz.prog Mu [.agg (dG x),.agg (dG y)] (.bool (decide (x=y))):=by
 refine ab (ic:=GG.body) aq Oq rfl rfl ?_
 simp only [go_sem,GG,Nn]
 exact ak
theorem Ja (x y:Lm):aj Tryz.prog Ms [.agg (dA x),.agg (dA y)] (.bool (decide (x=y))):=by
 refine ab (ic:=GD.body) aq Om rfl rfl ?_
 simp only [go_sem,GD,LV]
 exact ak
theorem I9 (x y:Ex):aj Tryz.prog Mq [.agg (dU x),.agg (dU y)] (.bool (decide (x=y))):=by
 refine ab (ic:=GB.body) aq Ok rfl rfl ?_
 simp only [go_sem,GB,Lu]
 exact ak
end
section
open Go Go.Mw
attribute [local go_sem] fz bq ce bj cA cz bK cy bB bv aQ bn aW dc fZ
theorem LW (a b:List Int) (ha:a.length≤9223372036854775807):aj Tryz.prog Qv [.sl 1 (a.map dF),.sl 1 (b.map dF)] (.bool (a==b)):=by
 refine ab (ic:=Cj.body) aq OD rfl rfl ?_
 by_cases hl:(a.length:Int)=b.length
 ·simp only [go_sem,Cj,hl,bne_self_eq_false]
  refine an (fun i:Nat=>⟨[(0,.sl 1 (a.map dF)),(1,.sl 1 (b.map dF)),(12,.int .i64 a.length),(13,.int .i64 i)],[]⟩) (fun i=>i≤a.length∧∀k,k<i→ac a k=ac b k) (fun i=>a.length - i) 0 ⟨cC _,fun k hk=>absurd hk (Nat.not_lt_zero k)⟩ (Wk.of ?_ ?_) ?_
  ·simp only [go_sem,hl];try simp
  ·simp only [go_sem]
  rintro i ⟨hi,hk⟩
  by_cases h1:(i:Int)<(a.length:Int)
  ·have e8:=wi (n:=(i:Int)+1) (by omega) (by omega)
   simp only [go_sem,aI h1]
   refine ⟨by omega,h1,by omega,by omega,fun h2=>?_,fun h2=>aC (i+1) ⟨by omega,fun k hk2=>?_⟩ (show a.length - (i+1)<a.length - i by omega) (Wk.of ?_ ?_)⟩
   ·have r:(a==b)=false:=by
     rw [mz]
     intro e
     rw [e] at h2
     simp at h2
    rw [r]
    exact ay
   ·rcases cB k i with h4 | h4
    ·exact hk k h4
    ·obtain rfl:k=i:=by omega
     simpa using h2
   ·simp only [go_sem,e8]
    try simp
   ·simp only [go_sem]
  ·have r:a=b:=uG (by omega) (fun k hk2=>hk k (by omega))
   have r2:(a==b)=true:=by rw [r];exact beq_self_eq_true b
   simp only [go_sem,az h1]
   rw [r2]
   exact ay
 ·have r:(a==b)=false:=by
   rw [mz]
   intro e;rw [e] at hl;exact hl rfl
  have b1:((a.length:Int) != (b.length:Int))=true:=by simpa using hl
  simp only [go_sem,Cj,b1]
  rw [r]
  exact ay
theorem LX (a b:List Int) (ha:a.length≤9223372036854775807):aj Tryz.prog So [.sl 1 (a.map dF),.sl 1 (b.map dF)] (.bool (a==b)):=by
 refine ab (ic:=Nz.body) aq R4 rfl rfl ?_
 by_cases hl:(a.length:Int)=b.length
 ·simp only [go_sem,Nz,hl,bne_self_eq_false]
  refine an (fun i:Nat=>⟨[(0,.sl 1 (a.map dF)),(1,.sl 1 (b.map dF)),(12,.int .i64 a.length),(13,.int .i64 i)],[]⟩) (fun i=>i≤a.length∧∀k,k<i→ac a k=ac b k) (fun i=>a.length - i) 0 ⟨cC _,fun k hk=>absurd hk (Nat.not_lt_zero k)⟩ (Wk.of ?_ ?_) ?_
  ·simp only [go_sem,hl];try simp
  ·simp only [go_sem]
  rintro i ⟨hi,hk⟩
  by_cases h1:(i:Int)<(a.length:Int)
  ·have e8:=wi (n:=(i:Int)+1) (by omega) (by omega)
   simp only [go_sem,aI h1]
   refine ⟨by omega,h1,by omega,by omega,fun h2=>?_,fun h2=>aC (i+1) ⟨by omega,fun k hk2=>?_⟩ (show a.length - (i+1)<a.length - i by omega) (Wk.of ?_ ?_)⟩
   ·have r:(a==b)=false:=by
     rw [mz]
     intro e
     rw [e] at h2
     simp at h2
    rw [r]
    exact ay
   ·rcases cB k i with h4 | h4
    ·exact hk k h4
    ·obtain rfl:k=i:=by omega
     simpa using h2
   ·simp only [go_sem,e8]
    try simp
   ·simp only [go_sem]
  ·have r:a=b:=uG (by omega) (fun k hk2=>hk k (by omega))
   have r2:(a==b)=true:=by rw [r];exact beq_self_eq_true b
   simp only [go_sem,az h1]
   rw [r2]
   exact ay
 ·have r:(a==b)=false:=by
   rw [mz]
   intro e;rw [e] at hl;exact hl rfl
  have b1:((a.length:Int) != (b.length:Int))=true:=by simpa using hl
  simp only [go_sem,Nz,b1]
  rw [r]
  exact ay
theorem EH (x y:cS) (h1:x.ty.length≤9223372036854775807) (h2:x.lb.length≤9223372036854775807):aj Tryz.prog Jo [kR x,kR y] (.bool (sI x y)):=by
 refine ab (ic:=Hl.body) aq PG rfl rfl ?_
 have a1:=LX x.ty y.ty (by omega)
 have a2:=LW x.lb y.lb (by omega)
 have ft:∀b:Bool,(true&&b)=b:=fun _=>rfl
 have ff:∀b:Bool,(false&&b)=false:=fun _=>rfl
 unfold sI
 simp only [go_sem,Hl]
 refine ⟨fun c1=>⟨fun c2=>⟨fun c3=>⟨fun c4=>⟨fun c5=>?_,fun c5=>?_⟩,fun c4=>?_⟩,fun c3=>?_⟩,fun c2=>?_⟩,fun c1=>?_⟩
 ·rw [c1,c2,c3,c4,c5,ft,ft,ft,ft,ft]
  refine aa (a1) ?_
  cases c6:x.ty==y.ty
  ·simp only [go_sem]
   exact ay
  ·simp only [go_sem,ft]
   refine aa (a2) ?_
   simp only [go_sem]
   exact ay
 ·rw [c1,c2,c3,c4,c5]
  exact ay
 ·rw [c1,c2,c3,c4]
  exact ay
 ·rw [c1,c2,c3]
  exact ay
 ·rw [c1,c2]
  exact ay
 ·rw [c1]
  exact ay
theorem Qg (x y:cS) (h:FB x):aj Tryz.prog Jo [.agg (aW x),.agg (aW y)] (.bool (decide (x=y))):=by
 rw [← Nb]
 exact EH x y (by have:=h.1;omega) (by have:=h.2;omega)
theorem nD (a b:List cS) (h:qg a):aj Tryz.prog F_ [.sl 9 (a.map aW),.sl 9 (b.map aW)] (.bool (decide (a=b))):=by
 refine ab (ic:=xn.body) aq La rfl rfl ?_
 have c:=wG (f:=Jo) (by kernel_rfl) a b (by have:=h.1;omega) (fun x hx y=>Qg x y (h.2 x hx))
 simp only [go_sem,xn]
 refine aa (c) ?_
 simp only [go_sem]
 exact ak
theorem sV (a b:List Int) (ha:a.length≤9223372036854775807):aj Tryz.prog QH [.sl 1 (a.map dF),.sl 1 (b.map dF)] (.bool (decide (a=b))):=by
 refine ab (ic:=Cr.body) aq OU rfl rfl ?_
 by_cases hl:(a.length:Int)=(b.length:Int)
 rotate_left
 ·rw [az (fun h=>hl (by rw [h]))]
  simp only [go_sem,Cr,cm hl]
  exact ak
 simp only [go_sem,Cr,bu hl]
 refine an (fun j:Nat=>⟨[(14,.int .i64 j),(13,.int .i64 a.length),(12,.sl 1 (a.map dF)),(1,.sl 1 (b.map dF))],[]⟩) (fun j=>j≤a.length∧∀k,k<j→ac a k=ac b k) (fun j=>a.length - j) 0 ⟨cC _,fun k hk=>by omega⟩ (Wk.of ?_ ?_) ?_
 ·simp only [go_sem,hl];try simp
 ·simp only [go_sem]
 rintro j ⟨hj,hx⟩
 by_cases h1:(j:Int)<(a.length:Int)
 rotate_left
 ·rw [aI (eP (by omega) fun k hk=>hx k (by omega))]
  simp only [go_sem,az h1]
  exact ak
 have hj':j<a.length:=by omega
 have hjb:(j:Int)<(b.length:Int):=by omega
 have e8:=dz hj' (by omega)
 by_cases h2:ac a j=ac b j
 ·simp only [go_sem,aI h1,bu h2]
  refine ⟨by omega,h1,by omega,hjb,aC (j+1) ⟨show j+1≤a.length by omega,fun k hk=>?_⟩ (show a.length - (j+1)<a.length - j by omega) (Wk.of ?_ ?_)⟩
  ·rcases cB k j with h | h
   ·exact hx k h
   ·rw [show k=j by omega];exact h2
  ·simp only [go_sem,e8];try simp
  ·simp only [go_sem]
 ·rw [az (fun e=>h2 (by rw [e]))]
  simp only [go_sem,aI h1,cm h2]
  refine ⟨by omega,h1,by omega,hjb,?_⟩
  exact ak
theorem EI (a b:List Int) (ha:a.length≤9223372036854775807):aj Tryz.prog QL [.sl 1 (a.map dF),.sl 1 (b.map dF)] (.bool (decide (a=b))):=by
 refine ab (ic:=GS.body) aq O1 rfl rfl ?_
 simp only [go_sem,GS]
 refine aa (sV a b ha) ?_
 simp only [go_sem]
 exact ak
theorem Qe (x y:Ft) (h:NN x):aj Tryz.prog F8 [.agg (bQ x),.agg (bQ y)] (.bool (decide (x=y))):=by
 refine ab (ic:=qw.body) aq K2 rfl rfl ?_
 have d0:=sV x.ps y.ps h.1
 have d1:=sV x.rs y.rs h.2
 by_cases c0:x.ps=y.ps
 rotate_left
 ·rw [az (fun e=>c0 (by rw [e]))]
  rw [az c0] at d0
  simp only [go_sem,qw]
  refine aa (d0) ?_
  simp only [go_sem,dc]
  exact ak
 rw [aI c0] at d0
 by_cases c1:x.rs=y.rs
 rotate_left
 ·rw [az (fun e=>c1 (by rw [e]))]
  rw [az c1] at d1
  simp only [go_sem,qw]
  refine aa (d0) ?_
  simp only [go_sem,dc]
  refine aa (d1) ?_
  simp only [go_sem,dc]
  exact ak
 rw [aI c1] at d1
 rw [aI (show x=y by obtain ⟨x0,x1⟩:=x;obtain ⟨y0,y1⟩:=y;simp only at c0 c1;simp only [c0,c1])]
 simp only [go_sem,qw]
 refine aa (d0) ?_
 simp only [go_sem,dc]
 refine aa (d1) ?_
 simp only [go_sem,dc]
 exact ak
theorem Qa (x y:Cd) (h:B0 x):aj Tryz.prog MT [.agg (bF x),.agg (bF y)] (.bool (decide (x=y))):=by
 refine ab (ic:=uW.body) aq Pv rfl rfl ?_
 have d1:=EI x.lo y.lo h.1
 have d2:=nD x.b y.b h.2
 by_cases c0:x.t=y.t
 rotate_left
 ·rw [az (fun e=>c0 (by rw [e]))]
  simp only [go_sem,uW,aw c0]
  exact ak
 by_cases c1:x.lo=y.lo
 rotate_left
 ·rw [az (fun e=>c1 (by rw [e]))]
  rw [az c1] at d1
  simp only [go_sem,uW,aZ c0]
  refine aa (d1) ?_
  simp only [go_sem,aZ c0]
  exact ak
 rw [aI c1] at d1
 by_cases c2:x.b=y.b
 rotate_left
 ·rw [az (fun e=>c2 (by rw [e]))]
  rw [az c2] at d2
  simp only [go_sem,uW,aZ c0]
  refine aa (d1) ?_
  simp only [go_sem,aZ c0]
  refine aa (d2) ?_
  simp only [go_sem,aZ c0]
  exact ak
 rw [aI c2] at d2
 rw [aI (show x=y by obtain ⟨x0,x1,x2⟩:=x;obtain ⟨y0,y1,y2⟩:=y;simp only at c0 c1 c2;simp only [c0,c1,c2])]
 simp only [go_sem,uW,aZ c0]
 refine aa (d1) ?_
 simp only [go_sem,aZ c0]
 refine aa (d2) ?_
 simp only [go_sem,aZ c0]
 exact ak
theorem Qf (x y:Gd) (h:J8 x):aj Tryz.prog MU [.agg (df x),.agg (df y)] (.bool (decide (x=y))):=by
 refine ab (ic:=xx.body) aq Pw rfl rfl ?_
 have d1:=nD x.i y.i h
 by_cases c0:x.g=y.g
 rotate_left
 ·rw [az (fun e=>c0 (by rw [e]))]
  simp only [go_sem,xx,rc,az c0]
  exact ak
 by_cases c1:x.i=y.i
 rotate_left
 ·rw [az (fun e=>c1 (by rw [e]))]
  rw [az c1] at d1
  simp only [go_sem,xx,rc,aI c0]
  refine aa (d1) ?_
  simp only [go_sem,rc,aI c0]
  exact ak
 rw [aI c1] at d1
 rw [aI (show x=y by obtain ⟨x0,x1⟩:=x;obtain ⟨y0,y1⟩:=y;simp only at c0 c1;simp only [c0,c1])]
 simp only [go_sem,xx,rc,aI c0]
 refine aa (d1) ?_
 simp only [go_sem,rc,aI c0]
 exact ak
theorem Qd (x y:El) (h:FA x):aj Tryz.prog MV [.agg (cb x),.agg (cb y)] (.bool (decide (x=y))):=by
 refine ab (ic:=qx.body) aq Px rfl rfl ?_
 have d3:=nD x.o y.o h.1
 have d4:=A3 (f:=F_) (by kernel_rfl) x.it y.it (by have:=h.2.1;omega) (fun l hl k=>nD l k (h.2.2 l hl))
 by_cases c0:x.mo=y.mo
 rotate_left
 ·rw [az (fun e=>c0 (by rw [e]))]
  simp only [go_sem,qx,aw c0]
  exact ak
 by_cases c1:x.tb=y.tb
 rotate_left
 ·rw [az (fun e=>c1 (by rw [e]))]
  simp only [go_sem,qx,aZ c0,aw c1]
  exact ak
 by_cases c2:x.ty=y.ty
 rotate_left
 ·rw [az (fun e=>c2 (by rw [e]))]
  simp only [go_sem,qx,aZ c0,aZ c1,aw c2]
  exact ak
 by_cases c3:x.o=y.o
 rotate_left
 ·rw [az (fun e=>c3 (by rw [e]))]
  rw [az c3] at d3
  simp only [go_sem,qx,aZ c0,aZ c1,aZ c2]
  refine aa (d3) ?_
  simp only [go_sem,aZ c0,aZ c1,aZ c2]
  exact ak
 rw [aI c3] at d3
 by_cases c4:x.it=y.it
 rotate_left
 ·rw [az (fun e=>c4 (by rw [e]))]
  rw [az c4] at d4
  simp only [go_sem,qx,aZ c0,aZ c1,aZ c2]
  refine aa (d3) ?_
  simp only [go_sem,aZ c0,aZ c1,aZ c2]
  refine aa (d4) ?_
  simp only [go_sem,aZ c0,aZ c1,aZ c2]
  exact ak
 rw [aI c4] at d4
 rw [aI (show x=y by obtain ⟨x0,x1,x2,x3,x4⟩:=x;obtain ⟨y0,y1,y2,y3,y4⟩:=y;simp only at c0 c1 c2 c3 c4;simp only [c0,c1,c2,c3,c4])]
 simp only [go_sem,qx,aZ c0,aZ c1,aZ c2]
 refine aa (d3) ?_
 simp only [go_sem,aZ c0,aZ c1,aZ c2]
 refine aa (d4) ?_
 simp only [go_sem,aZ c0,aZ c1,aZ c2]
 exact ak
theorem Qc (x y:Da) (h:Fz x):aj Tryz.prog MW [.agg (cM x),.agg (cM y)] (.bool (decide (x=y))):=by
 refine ab (ic:=sa.body) aq Py rfl rfl ?_
 have d2:=nD x.o y.o h.1
 by_cases c0:x.mo=y.mo
 rotate_left
 ·rw [az (fun e=>c0 (by rw [e]))]
  simp only [go_sem,sa,aw c0]
  exact ak
 by_cases c1:x.me=y.me
 rotate_left
 ·rw [az (fun e=>c1 (by rw [e]))]
  simp only [go_sem,sa,aZ c0,aw c1]
  exact ak
 by_cases c2:x.o=y.o
 rotate_left
 ·rw [az (fun e=>c2 (by rw [e]))]
  rw [az c2] at d2
  simp only [go_sem,sa,aZ c0,aZ c1]
  refine aa (d2) ?_
  simp only [go_sem,aZ c0,aZ c1]
  exact ak
 rw [aI c2] at d2
 by_cases c3:x.b=y.b
 rotate_left
 ·rw [az (fun e=>c3 (by rw [e]))]
  simp only [go_sem,sa,aZ c0,aZ c1,fV,dM,NA c3]
  refine aa (d2) ?_
  simp only [go_sem,aZ c0,aZ c1,fV,dM,NA c3]
  exact ak
 rw [aI (show x=y by obtain ⟨x0,x1,x2,x3⟩:=x;obtain ⟨y0,y1,y2,y3⟩:=y;simp only at c0 c1 c2 c3;simp only [c0,c1,c2,c3])]
 simp only [go_sem,sa,aZ c0,aZ c1,fV,dM,KX c3]
 refine aa (d2) ?_
 simp only [go_sem,aZ c0,aZ c1,fV,dM,KX c3]
 exact ak
theorem Qb (x y:Cu):aj Tryz.prog MX [.agg (eW x),.agg (eW y)] (.bool (decide (x=y))):=by
 refine ab (ic:=uX.body) aq Pz rfl rfl ?_
 by_cases c0:x.af=y.af
 rotate_left
 ·rw [az (fun e=>c0 (by rw [e]))]
  simp only [go_sem,uX,aw c0]
  exact ak
 by_cases c1:x.n=y.n
 rotate_left
 ·rw [az (fun e=>c1 (by rw [e]))]
  simp only [go_sem,uX,aZ c0,NA c1]
  exact ak
 by_cases c2:x.b=y.b
 rotate_left
 ·rw [az (fun e=>c2 (by rw [e]))]
  simp only [go_sem,uX,aZ c0,KX c1,fV,dM,NA c2]
  exact ak
 rw [aI (show x=y by obtain ⟨x0,x1,x2⟩:=x;obtain ⟨y0,y1,y2⟩:=y;simp only at c0 c1 c2;simp only [c0,c1,c2])]
 simp only [go_sem,uX,aZ c0,KX c1,fV,dM,KX c2]
 exact ak
end
section
open Go Go.Mw
attribute [local go_sem] fz fZ
theorem mK (a b:Md) (h:Gk a):aj Tryz.prog A6 [cE a,cE b] (.bool (decide (cw a b))):=by
 refine ab (ic:=cY.body) aq K4 rfl rfl ?_
 have d0:=AX (f:=F8) (by kernel_rfl) a.ts b.ts (by have:=h.ts.1;omega) (fun x hx y=>Qe x y (h.ts.2 x hx))
 have d1:=AZ (f:=Mr) (by kernel_rfl) a.ims b.ims (by have:=h.ims;omega) (fun x hx y=>I_ x y)
 have d2:=AR (f:=MT) (by kernel_rfl) a.fs b.fs (by have:=h.fs.1;omega) (fun x hx y=>Qa x y (h.fs.2 x hx))
 have d3:=A4 (f:=Mu) (by kernel_rfl) a.tbs b.tbs (by have:=h.tbs;omega) (fun x hx y=>Jb x y)
 have d4:=A0 (f:=Ms) (by kernel_rfl) a.ms b.ms (by have:=h.ms;omega) (fun x hx y=>Ja x y)
 have d5:=AY (f:=MU) (by kernel_rfl) a.gs b.gs (by have:=h.gs.1;omega) (fun x hx y=>Qf x y (h.gs.2 x hx))
 have d6:=AW (f:=Mq) (by kernel_rfl) a.exs b.exs (by have:=h.exs;omega) (fun x hx y=>I9 x y)
 have d7:=AU (f:=MV) (by kernel_rfl) a.els b.els (by have:=h.els.1;omega) (fun x hx y=>Qd x y (h.els.2 x hx))
 have d8:=AT (f:=MW) (by kernel_rfl) a.ds b.ds (by have:=h.ds.1;omega) (fun x hx y=>Qc x y (h.ds.2 x hx))
 have d9:=AS (f:=MX) (by kernel_rfl) a.cs b.cs (by have:=h.cs.1;omega) (fun x hx y=>Qb x y)
 by_cases e1:a.hs=b.hs
 rotate_left
 ·rw [az (fun e:cw a b=>e1 e.1)]
  cases ha:a.hs<;>cases hb:b.hs
  ·exact absurd (ha.trans hb.symm) e1
  ·simp only [go_sem,cY,cE,ha,hb,show (false==true)=false from rfl,eu,dO]
   exact ak
  ·simp only [go_sem,cY,cE,ha,hb,show (true==false)=false from rfl,eu,dO]
   exact ak
  ·exact absurd (ha.trans hb.symm) e1
 cases ha:a.hs
 ·have hb:b.hs=false:=by rw [← e1];exact ha
  by_cases c0:a.ts=b.ts
  rotate_left
  ·rw [az c0] at d0
   rw [az (fun e:cw a b=>c0 e.2.2.1)]
   simp only [go_sem,cY,cE,ha,hb,show (false==false)=true from rfl,eu,dO]
   refine aa (d0) ?_
   simp only [go_sem]
   exact ak
  rw [aI c0] at d0
  by_cases c1:a.ims=b.ims
  rotate_left
  ·rw [az c1] at d1
   rw [az (fun e:cw a b=>c1 e.2.2.2.1)]
   simp only [go_sem,cY,cE,ha,hb,show (false==false)=true from rfl,eu,dO]
   refine aa (d0) ?_
   simp only [go_sem]
   refine aa (d1) ?_
   simp only [go_sem]
   exact ak
  rw [aI c1] at d1
  by_cases c2:a.fs=b.fs
  rotate_left
  ·rw [az c2] at d2
   rw [az (fun e:cw a b=>c2 e.2.2.2.2.1)]
   simp only [go_sem,cY,cE,ha,hb,show (false==false)=true from rfl,eu,dO]
   refine aa (d0) ?_
   simp only [go_sem]
   refine aa (d1) ?_
   simp only [go_sem]
   refine aa (d2) ?_
   simp only [go_sem]
   exact ak
  rw [aI c2] at d2
  by_cases c3:a.tbs=b.tbs
  rotate_left
  ·rw [az c3] at d3
   rw [az (fun e:cw a b=>c3 e.2.2.2.2.2.1.1)]
   simp only [go_sem,cY,cE,ha,hb,show (false==false)=true from rfl,eu,dO]
   refine aa (d0) ?_
   simp only [go_sem]
   refine aa (d1) ?_
   simp only [go_sem]
   refine aa (d2) ?_
   simp only [go_sem]
   refine aa (d3) ?_
   simp only [go_sem]
   exact ak
  rw [aI c3] at d3
  by_cases c4:a.ms=b.ms
  rotate_left
  ·rw [az c4] at d4
   rw [az (fun e:cw a b=>c4 e.2.2.2.2.2.1.2)]
   simp only [go_sem,cY,cE,ha,hb,show (false==false)=true from rfl,eu,dO]
   refine aa (d0) ?_
   simp only [go_sem]
   refine aa (d1) ?_
   simp only [go_sem]
   refine aa (d2) ?_
   simp only [go_sem]
   refine aa (d3) ?_
   simp only [go_sem]
   refine aa (d4) ?_
   simp only [go_sem]
   exact ak
  rw [aI c4] at d4
  by_cases c5:a.gs=b.gs
  rotate_left
  ·rw [az c5] at d5
   rw [az (fun e:cw a b=>c5 e.2.2.2.2.2.2.1)]
   simp only [go_sem,cY,cE,ha,hb,show (false==false)=true from rfl,eu,dO]
   refine aa (d0) ?_
   simp only [go_sem]
   refine aa (d1) ?_
   simp only [go_sem]
   refine aa (d2) ?_
   simp only [go_sem]
   refine aa (d3) ?_
   simp only [go_sem]
   refine aa (d4) ?_
   simp only [go_sem]
   refine aa (d5) ?_
   simp only [go_sem]
   exact ak
  rw [aI c5] at d5
  by_cases c6:a.exs=b.exs
  rotate_left
  ·rw [az c6] at d6
   rw [az (fun e:cw a b=>c6 e.2.2.2.2.2.2.2.1)]
   simp only [go_sem,cY,cE,ha,hb,show (false==false)=true from rfl,eu,dO]
   refine aa (d0) ?_
   simp only [go_sem]
   refine aa (d1) ?_
   simp only [go_sem]
   refine aa (d2) ?_
   simp only [go_sem]
   refine aa (d3) ?_
   simp only [go_sem]
   refine aa (d4) ?_
   simp only [go_sem]
   refine aa (d5) ?_
   simp only [go_sem]
   refine aa (d6) ?_
   simp only [go_sem]
   exact ak
  rw [aI c6] at d6
  by_cases c7:a.els=b.els
  rotate_left
  ·rw [az c7] at d7
   rw [az (fun e:cw a b=>c7 e.2.2.2.2.2.2.2.2.1)]
   simp only [go_sem,cY,cE,ha,hb,show (false==false)=true from rfl,eu,dO]
   refine aa (d0) ?_
   simp only [go_sem]
   refine aa (d1) ?_
   simp only [go_sem]
   refine aa (d2) ?_
   simp only [go_sem]
   refine aa (d3) ?_
   simp only [go_sem]
   refine aa (d4) ?_
   simp only [go_sem]
   refine aa (d5) ?_
   simp only [go_sem]
   refine aa (d6) ?_
   simp only [go_sem]
   refine aa (d7) ?_
   simp only [go_sem]
   exact ak
  rw [aI c7] at d7
  by_cases c8:a.ds=b.ds
  rotate_left
  ·rw [az c8] at d8
   rw [az (fun e:cw a b=>c8 e.2.2.2.2.2.2.2.2.2.1)]
   simp only [go_sem,cY,cE,ha,hb,show (false==false)=true from rfl,eu,dO]
   refine aa (d0) ?_
   simp only [go_sem]
   refine aa (d1) ?_
   simp only [go_sem]
   refine aa (d2) ?_
   simp only [go_sem]
   refine aa (d3) ?_
   simp only [go_sem]
   refine aa (d4) ?_
   simp only [go_sem]
   refine aa (d5) ?_
   simp only [go_sem]
   refine aa (d6) ?_
   simp only [go_sem]
   refine aa (d7) ?_
   simp only [go_sem]
   refine aa (d8) ?_
   simp only [go_sem]
   exact ak
  rw [aI c8] at d8
  by_cases c9:a.cs=b.cs
  rotate_left
  ·rw [az c9] at d9
   rw [az (fun e:cw a b=>c9 e.2.2.2.2.2.2.2.2.2.2)]
   simp only [go_sem,cY,cE,ha,hb,show (false==false)=true from rfl,eu,dO]
   refine aa (d0) ?_
   simp only [go_sem]
   refine aa (d1) ?_
   simp only [go_sem]
   refine aa (d2) ?_
   simp only [go_sem]
   refine aa (d3) ?_
   simp only [go_sem]
   refine aa (d4) ?_
   simp only [go_sem]
   refine aa (d5) ?_
   simp only [go_sem]
   refine aa (d6) ?_
   simp only [go_sem]
   refine aa (d7) ?_
   simp only [go_sem]
   refine aa (d8) ?_
   simp only [go_sem]
   refine aa (d9) ?_
   simp only [go_sem]
   exact ak
  rw [aI c9] at d9
  rw [aI (show cw a b from ⟨e1,fun q=>absurd (ha.symm.trans q) (by decide),c0,c1,c2,⟨c3,c4⟩,c5,c6,c7,c8,c9⟩)]
  simp only [go_sem,cY,cE,ha,hb,show (false==false)=true from rfl,eu,dO]
  refine aa (d0) ?_
  simp only [go_sem]
  refine aa (d1) ?_
  simp only [go_sem]
  refine aa (d2) ?_
  simp only [go_sem]
  refine aa (d3) ?_
  simp only [go_sem]
  refine aa (d4) ?_
  simp only [go_sem]
  refine aa (d5) ?_
  simp only [go_sem]
  refine aa (d6) ?_
  simp only [go_sem]
  refine aa (d7) ?_
  simp only [go_sem]
  refine aa (d8) ?_
  simp only [go_sem]
  refine aa (d9) ?_
  simp only [go_sem]
  exact ak
 ·have hb:b.hs=true:=by rw [← e1];exact ha
  by_cases e2:a.st=b.st
  rotate_left
  ·rw [az (fun e:cw a b=>e2 (e.2.1 ha))]
   simp only [go_sem,cY,cE,ha,hb,show (true==true)=true from rfl,eu,dO,cm e2]
   exact ak
  by_cases c0:a.ts=b.ts
  rotate_left
  ·rw [az c0] at d0
   rw [az (fun e:cw a b=>c0 e.2.2.1)]
   simp only [go_sem,cY,cE,ha,hb,show (true==true)=true from rfl,eu,dO,bu e2]
   refine aa (d0) ?_
   simp only [go_sem]
   exact ak
  rw [aI c0] at d0
  by_cases c1:a.ims=b.ims
  rotate_left
  ·rw [az c1] at d1
   rw [az (fun e:cw a b=>c1 e.2.2.2.1)]
   simp only [go_sem,cY,cE,ha,hb,show (true==true)=true from rfl,eu,dO,bu e2]
   refine aa (d0) ?_
   simp only [go_sem]
   refine aa (d1) ?_
   simp only [go_sem]
   exact ak
  rw [aI c1] at d1
  by_cases c2:a.fs=b.fs
  rotate_left
  ·rw [az c2] at d2
   rw [az (fun e:cw a b=>c2 e.2.2.2.2.1)]
   simp only [go_sem,cY,cE,ha,hb,show (true==true)=true from rfl,eu,dO,bu e2]
   refine aa (d0) ?_
   simp only [go_sem]
   refine aa (d1) ?_
   simp only [go_sem]
   refine aa (d2) ?_
   simp only [go_sem]
   exact ak
  rw [aI c2] at d2
  by_cases c3:a.tbs=b.tbs
  rotate_left
  ·rw [az c3] at d3
   rw [az (fun e:cw a b=>c3 e.2.2.2.2.2.1.1)]
   simp only [go_sem,cY,cE,ha,hb,show (true==true)=true from rfl,eu,dO,bu e2]
   refine aa (d0) ?_
   simp only [go_sem]
   refine aa (d1) ?_
   simp only [go_sem]
   refine aa (d2) ?_
   simp only [go_sem]
   refine aa (d3) ?_
   simp only [go_sem]
   exact ak
  rw [aI c3] at d3
  by_cases c4:a.ms=b.ms
  rotate_left
  ·rw [az c4] at d4
   rw [az (fun e:cw a b=>c4 e.2.2.2.2.2.1.2)]
   simp only [go_sem,cY,cE,ha,hb,show (true==true)=true from rfl,eu,dO,bu e2]
   refine aa (d0) ?_
   simp only [go_sem]
   refine aa (d1) ?_
   simp only [go_sem]
   refine aa (d2) ?_
   simp only [go_sem]
   refine aa (d3) ?_
   simp only [go_sem]
   refine aa (d4) ?_
   simp only [go_sem]
   exact ak
  rw [aI c4] at d4
  by_cases c5:a.gs=b.gs
  rotate_left
  ·rw [az c5] at d5
   rw [az (fun e:cw a b=>c5 e.2.2.2.2.2.2.1)]
   simp only [go_sem,cY,cE,ha,hb,show (true==true)=true from rfl,eu,dO,bu e2]
   refine aa (d0) ?_
   simp only [go_sem]
   refine aa (d1) ?_
   simp only [go_sem]
   refine aa (d2) ?_
   simp only [go_sem]
   refine aa (d3) ?_
   simp only [go_sem]
   refine aa (d4) ?_
   simp only [go_sem]
   refine aa (d5) ?_
   simp only [go_sem]
   exact ak
  rw [aI c5] at d5
  by_cases c6:a.exs=b.exs
  rotate_left
  ·rw [az c6] at d6
   rw [az (fun e:cw a b=>c6 e.2.2.2.2.2.2.2.1)]
   simp only [go_sem,cY,cE,ha,hb,show (true==true)=true from rfl,eu,dO,bu e2]
   refine aa (d0) ?_
   simp only [go_sem]
   refine aa (d1) ?_
   simp only [go_sem]
   refine aa (d2) ?_
   simp only [go_sem]
   refine aa (d3) ?_
   simp only [go_sem]
   refine aa (d4) ?_
   simp only [go_sem]
   refine aa (d5) ?_
   simp only [go_sem]
   refine aa (d6) ?_
   simp only [go_sem]
   exact ak
  rw [aI c6] at d6
  by_cases c7:a.els=b.els
  rotate_left
  ·rw [az c7] at d7
   rw [az (fun e:cw a b=>c7 e.2.2.2.2.2.2.2.2.1)]
   simp only [go_sem,cY,cE,ha,hb,show (true==true)=true from rfl,eu,dO,bu e2]
   refine aa (d0) ?_
   simp only [go_sem]
   refine aa (d1) ?_
   simp only [go_sem]
   refine aa (d2) ?_
   simp only [go_sem]
   refine aa (d3) ?_
   simp only [go_sem]
   refine aa (d4) ?_
   simp only [go_sem]
   refine aa (d5) ?_
   simp only [go_sem]
   refine aa (d6) ?_
   simp only [go_sem]
   refine aa (d7) ?_
   simp only [go_sem]
   exact ak
  rw [aI c7] at d7
  by_cases c8:a.ds=b.ds
  rotate_left
  ·rw [az c8] at d8
   rw [az (fun e:cw a b=>c8 e.2.2.2.2.2.2.2.2.2.1)]
   simp only [go_sem,cY,cE,ha,hb,show (true==true)=true from rfl,eu,dO,bu e2]
   refine aa (d0) ?_
   simp only [go_sem]
   refine aa (d1) ?_
   simp only [go_sem]
   refine aa (d2) ?_
   simp only [go_sem]
   refine aa (d3) ?_
   simp only [go_sem]
   refine aa (d4) ?_
   simp only [go_sem]
   refine aa (d5) ?_
   simp only [go_sem]
   refine aa (d6) ?_
   simp only [go_sem]
   refine aa (d7) ?_
   simp only [go_sem]
   refine aa (d8) ?_
   simp only [go_sem]
   exact ak
  rw [aI c8] at d8
  by_cases c9:a.cs=b.cs
  rotate_left
  ·rw [az c9] at d9
   rw [az (fun e:cw a b=>c9 e.2.2.2.2.2.2.2.2.2.2)]
   simp only [go_sem,cY,cE,ha,hb,show (true==true)=true from rfl,eu,dO,bu e2]
   refine aa (d0) ?_
   simp only [go_sem]
   refine aa (d1) ?_
   simp only [go_sem]
   refine aa (d2) ?_
   simp only [go_sem]
   refine aa (d3) ?_
   simp only [go_sem]
   refine aa (d4) ?_
   simp only [go_sem]
   refine aa (d5) ?_
   simp only [go_sem]
   refine aa (d6) ?_
   simp only [go_sem]
   refine aa (d7) ?_
   simp only [go_sem]
   refine aa (d8) ?_
   simp only [go_sem]
   refine aa (d9) ?_
   simp only [go_sem]
   exact ak
  rw [aI c9] at d9
  rw [aI (show cw a b from ⟨e1,fun _=>e2,c0,c1,c2,⟨c3,c4⟩,c5,c6,c7,c8,c9⟩)]
  simp only [go_sem,cY,cE,ha,hb,show (true==true)=true from rfl,eu,dO,bu e2]
  refine aa (d0) ?_
  simp only [go_sem]
  refine aa (d1) ?_
  simp only [go_sem]
  refine aa (d2) ?_
  simp only [go_sem]
  refine aa (d3) ?_
  simp only [go_sem]
  refine aa (d4) ?_
  simp only [go_sem]
  refine aa (d5) ?_
  simp only [go_sem]
  refine aa (d6) ?_
  simp only [go_sem]
  refine aa (d7) ?_
  simp only [go_sem]
  refine aa (d8) ?_
  simp only [go_sem]
  refine aa (d9) ?_
  simp only [go_sem]
  exact ak
end
section
open Go Go.Mw
def Kx:Im:=⟨[],[],1,0,3,⟨0,0,false⟩,⟨0,0,false⟩,⟨0,false⟩⟩
def vQ:Md:=⟨[⟨[],[]⟩],[],[⟨0,[],[⟨6,0,0,0,0,0,0,[],[]⟩,⟨11,0,0,0,0,0,0,[],[]⟩]⟩],[],[],[],[],false,0,[],[],[]⟩
def NB:Md:=⟨List.replicate 65 ⟨[],[]⟩,[],[],[],[],[],[],false,0,[],[],[]⟩
def Iq:Md:=⟨[],List.replicate 5 Kx,[],[],[],[],[],false,0,[],[],[]⟩
def pM:List AV:=[.sl 2 [[.nl,.nl]],.nl,.sl 3 [[.int .i64 0,.nl,.sl 9 [[.int .i64 6,.int .i64 0,.int .i64 0,.int .u64 0,.int .i64 0,.int .i64 0,.int .i64 0,.nl,.nl],[.int .i64 11,.int .i64 0,.int .i64 0,.int .u64 0,.int .i64 0,.int .i64 0,.int .i64 0,.nl,.nl]]]],.nl,.nl,.nl,.nl,.bool false,.int .i64 0,.nl,.nl,.nl]
def Io:List AV:=[.sl 2 (List.replicate 65 [.nl,.nl]),.nl,.nl,.nl,.nl,.nl,.nl,.bool false,.int .i64 0,.nl,.nl,.nl]
def DB:List AV:=[.nl,.sl 13 ((List.replicate 5 Kx).map cW),.nl,.nl,.nl,.nl,.nl,.bool false,.int .i64 0,.nl,.nl,.nl]
theorem y5:pM=[.sl 2 [[.nl,.nl]],.nl,.sl 3 [[.int .i64 0,.nl,.sl 9 [[.int .i64 6,.int .i64 0,.int .i64 0,.int .u64 0,.int .i64 0,.int .i64 0,.int .i64 0,.nl,.nl],[.int .i64 11,.int .i64 0,.int .i64 0,.int .u64 0,.int .i64 0,.int .i64 0,.int .i64 0,.nl,.nl]]]],.nl,.nl,.nl,.nl,.bool false,.int .i64 0,.nl,.nl,.nl]:=rfl
theorem Ip:Io=[.sl 2 (List.replicate 65 [.nl,.nl]),.nl,.nl,.nl,.nl,.nl,.nl,.bool false,.int .i64 0,.nl,.nl,.nl]:=rfl
theorem Ir:DB=[.nl,.sl 13 ((List.replicate 5 Kx).map cW),.nl,.nl,.nl,.nl,.nl,.bool false,.int .i64 0,.nl,.nl,.nl]:=rfl
theorem Bb:Jq (.agg pM) (cE vQ) :=
 .inr ⟨_,_,rfl,rfl,nH ⟨⟨.nl _,.nl _,trivial⟩,trivial⟩,.nl _,nH ⟨⟨.rfl _,.nl _,nH ⟨⟨.rfl _,.rfl _,.rfl _,.rfl _,.rfl _,.rfl _,.rfl _,.nl _,.nl _,trivial⟩,⟨.rfl _,.rfl _,.rfl _,.rfl _,.rfl _,.rfl _,.rfl _,.nl _,.nl _,trivial⟩,trivial⟩,trivial⟩,trivial⟩,.nl _,.nl _,.nl _,.nl _,.rfl _,.rfl _,.nl _,.nl _,.nl _,trivial⟩
theorem Bc:∀n:Nat,aK (aK Nd) (List.replicate n [.nl,.nl]) ((List.replicate n (⟨[],[]⟩:Ft)).map bQ)
 | 0=>trivial
 | n+1=>⟨⟨.nl _,.nl _,trivial⟩,Bc n⟩
theorem Q5:Jq (.agg Io) (cE NB):=.inr ⟨_,_,rfl,rfl,nH (Bc 65),.nl _,.nl _,.nl _,.nl _,.nl _,.nl _,.rfl _,.rfl _,.nl _,.nl _,.nl _,trivial⟩
theorem MY:Jq (.agg DB) (cE Iq):=.inr ⟨_,_,rfl,rfl,.nl _,.rfl _,.nl _,.nl _,.nl _,.nl _,.nl _,.rfl _,.rfl _,.nl _,.nl _,.nl _,trivial⟩
theorem FC:Gk vQ:=⟨⟨by decide,fun x hx=>by
  simp only [vQ,j7] at hx;subst hx;exact ⟨by decide,by decide⟩⟩,by decide,⟨by decide,fun x hx=>by
  simp only [vQ,j7] at hx;subst hx
  refine ⟨by decide,by decide,fun y hy=>?_⟩
  simp only [cj,List.not_mem_nil,or_false] at hy
  rcases hy with rfl | rfl<;>exact ⟨by decide,by decide,by decide⟩⟩,by decide,by decide,⟨by decide,fun x h=>by cases h⟩,by decide,⟨by decide,fun x h=>by cases h⟩,⟨by decide,fun x h=>by cases h⟩,⟨by decide,fun x h=>by cases h⟩⟩
theorem Rs:Gk NB:=⟨⟨by decide,fun x hx=>by
  obtain rfl:=List.eq_of_mem_replicate hx;exact ⟨by decide,by decide⟩⟩,by decide,⟨by decide,fun x h=>by cases h⟩,by decide,by decide,⟨by decide,fun x h=>by cases h⟩,by decide,⟨by decide,fun x h=>by cases h⟩,⟨by decide,fun x h=>by cases h⟩,⟨by decide,fun x h=>by cases h⟩⟩
theorem Rt:mH Iq:=⟨⟨by decide,fun x h=>by cases h⟩,by decide,⟨by decide,fun x h=>by cases h⟩,by decide,by decide,⟨by decide,fun x h=>by cases h⟩,by decide,⟨by decide,fun x h=>by cases h⟩,⟨by decide,fun x h=>by cases h⟩,⟨by decide,fun x h=>by cases h⟩⟩
deriving instance DecidableEq for Fa
theorem LS:pY M2 vQ =⟨12,0,0,10⟩:=by decide +kernel
theorem LT:pY M2 NB =⟨1,64,0,6⟩:=by decide +kernel
theorem LG:IJ vQ=2:=by decide +kernel
theorem Fw:decide (cw vQ Iq)=false:=by
 apply az
 intro h
 have:=h.2.2.1
 cases this
attribute [local go_sem] fz fZ y5
theorem BQ:aj Tryz.prog QW [] (.bool true):=by
 refine ab (ic:=G7.body) aq Pm rfl rfl ?_
 have c1:aj Tryz.prog Jm [.agg pM] (.agg [.int .i64 12,.int .i64 0,.int .i64 0,.int .i64 10]):=by
  have c:=rk M2 vQ FC Gj
  rw [LS] at c
  exact dX c ⟨Bb,trivial⟩
 have c2:aj Tryz.prog Jm [.agg Io] (.agg [.int .i64 1,.int .i64 64,.int .i64 0,.int .i64 6]):=by
  have c:=rk M2 NB Rs Gj
  rw [LT] at c
  exact dX c ⟨Q5,trivial⟩
 have c3:aj Tryz.prog A6 [.agg pM,.agg pM] (.bool true):=by
  have c:=mK vQ vQ FC
  rw [aI (jI vQ)] at c
  exact dX c ⟨Bb,Bb,trivial⟩
 have c4:aj Tryz.prog A6 [.agg pM,.agg DB] (.bool false):=by
  have c:=mK vQ Iq FC
  rw [Fw] at c
  exact dX c ⟨Bb,MY,trivial⟩
 have c5:aj Tryz.prog MS [.agg pM] (.int .i64 2):=by
  have c:=AF vQ FC
  rw [LG] at c
  exact dX c ⟨Bb,trivial⟩
 have c6:aj Tryz.prog F9 [.agg DB] (cE Iq):=dX (Fq Iq Rt) ⟨MY,trivial⟩
 rw [y5] at c1 c3 c4 c5
 rw [Ir] at c4 c6
 rw [Ip] at c2
 simp only [go_sem,G7]
 refine ⟨_,Wk.frzs [7,10] _,?_⟩
 simp only [pl]
 simp only [go_sem,aB,List.take_succ_cons,bE]
 refine an (fun j:Nat=>⟨[(4,.int .i64 j),(3,.mp 3 12 0 0),(2,.mp 2 12 0 0),(0,.bool false)],[(3,⟨33,12,[[.nl,.ms 900 13 0 j,.nl,.nl,.nl,.nl,.nl,.bool false,.int .i64 0,.nl,.nl,.nl]],true⟩),(900,⟨61,13,(List.replicate j Kx).map cW,false⟩),(2,⟨33,12,[pM],true⟩)]⟩) (fun j=>j≤5) (fun j=>5 - j) 0 (cC _) ((Wk.frzs [12] _).trans ((Wk.new0 _ 900 13 61 (.inl (by decide))).trans ((Wk.nlm _ 3 (r:=[.nl,.nl,.nl,.nl,.nl,.nl,.nl,.bool false,.int .i64 0,.nl,.nl,.nl]) rfl (r':=[.nl,.ms 900 13 0 0,.nl,.nl,.nl,.nl,.nl,.bool false,.int .i64 0,.nl,.nl,.nl]) ⟨.inl rfl,.inr ⟨rfl,.inr ⟨_,_,rfl⟩⟩,.inl rfl,.inl rfl,.inl rfl,.inl rfl,.inl rfl,.inl rfl,.inl rfl,.inl rfl,.inl rfl,.inl rfl,trivial⟩).trans (Wk.of ?_ ?_)))) ?_
 ·simp only [go_sem];try simp
 ·simp only [go_sem,aB,List.take_succ_cons,bE];try simp [pM]
 intro j hj
 have happ:=fun ys=>aA 900 61 13 j cW (List.replicate j Kx) ys (by simp)
 by_cases h1:(j:Int)<5
 ·have e8:=dz (show j<5 by omega) (by omega)
  simp only [go_sem,aI h1,happ]
  refine ⟨by omega,aC (j+1) (show j+1≤5 by omega) (show 5 - (j+1)<5 - j by omega) (Wk.of ?_ ?_)⟩
  ·simp only [go_sem,e8];try simp
  ·simp only [go_sem];try simp [List.replicate_succ',Kx,ce]
 obtain rfl:j=5:=by omega
 simp only [go_sem,az h1]
 refine aa (c1) ?_
 simp only [go_sem]
 refine ⟨by decide,?_⟩
 refine kb [31] ?_ c2 (by simp [go_sem]) ?_
 ·simp only [go_sem,aB]
  try rfl
 simp only [go_sem]
 refine aa (c3) ?_
 simp only [go_sem]
 refine kb [900] ?_ c4 (by simp [go_sem]) ?_
 ·simp only [go_sem,aB]
  try rfl
 simp only [go_sem]
 refine aa (c5) ?_
 simp only [go_sem]
 refine kb [] ?_ c6 (by simp [go_sem]) ?_
 ·first | rfl | (simp only [go_sem,aB];try rfl)
 simp only [go_sem,cE,show ((Iq.ims.length:Nat):Int)=5 from rfl]
 exact ak
end
section
open Go Go.Mw
theorem FK (m:Md) (h:mH m) (hb:iL 140737488355328 m) (w a:Int) (hw:0≤w∧w<12) (ha:0≤a):j1 m w a:=by
 obtain ⟨n,rfl⟩:=Int.eq_ofNat_of_zero_le ha
 rcases (show w=0∨w=1∨w=2∨w=3∨w=4∨w=5∨w=6∨w=7∨w=8∨w=9∨w=10∨w=11 by omega) with rfl | rfl | rfl | rfl | rfl | rfl | rfl | rfl | rfl | rfl | rfl | rfl
 ·exact SA m h hb n
 ·exact SB m h hb n
 ·exact SC m h hb n
 ·exact SD m h hb n
 ·exact SE m h hb n
 ·exact SF m h hb n
 ·exact SG m h hb n
 ·exact SH m h hb n
 ·exact SI m h hb n
 ·exact SJ m h hb n
 ·exact Ry m h hb n
 ·exact Rz m h hb n
attribute [local go_sem] fz
theorem w8 (m:Md) (hm:iL 140737488355328 m) (w a:Int) (hw:0≤w∧w≤255) (ha:0≤a∧a≤65535):aj Tryz.prog QI [cE m,.int .u8 w,.int .u16 a] (.bool true):=by
 refine ab (ic:=GN.body) aq OW rfl rfl ?_
 have la:=BS m hm
 have al:=BQ
 simp only [cE,fZ] at la
 simp only [go_sem,GN,cE,fZ]
 refine Dj la ?_
 intro x hx
 cases x
 ·simp only [go_sem]
  refine aa (al) ?_
  simp only [go_sem]
  exact ak
 obtain ⟨lg,cp⟩:=hx rfl
 have hr:0≤Int.tmod w 12∧Int.tmod w 12<12:=by
  rw [Int.tmod_eq_emod_of_nonneg hw.1]
  omega
 have e1:IntKind.i64.wrap (Int.tmod w 12)=Int.tmod w 12:=wi (by omega) (by omega)
 have e2:IntKind.i64.wrap a=a:=wi (by omega) (by omega)
 obtain ⟨m',b,ht,hs,s1,s2⟩:=FK m cp hm (Int.tmod w 12) a hr ha.1
 have c1:=mK m m' (bT cp)
 have c2:=mK m' m hs
 rw [s1] at c1
 rw [s2] at c2
 simp only [cE,fZ] at ht c1 c2
 simp only [go_sem,e1,e2]
 refine ⟨by decide,?_⟩
 refine aa (ht) ?_
 simp only [go_sem]
 cases b
 ·refine aa (c1) ?_
  simp only [go_sem]
  refine aa (c2) ?_
  simp only [go_sem]
  refine aa (al) ?_
  simp only [go_sem]
  exact ak
 ·refine aa (c1) ?_
  simp only [go_sem]
  refine aa (c2) ?_
  simp only [go_sem]
  refine aa (al) ?_
  simp only [go_sem]
  exact ak
theorem De {B C:Nat} (h:B≤C) {m:Md} (hm:iL B m):iL C m:=by
 have k:∀{α:Type} {p:Nat→α→Prop} (_:∀x,p B x→p C x) {l:List α},bL p B l→bL p C l:=fun hp l hl=>⟨gc hl.1 h,fun x hx=>hp x (hl.2 x hx)⟩
 have n:∀{α:Type} {l:List α},bL Be B l→bL Be C l:=fun hl=>⟨gc hl.1 h,fun _ _=>trivial⟩
 have i:∀{l:List cS},bL ou B l→bL ou C l:=fun hl=>k (fun _ q=>⟨q.1,n q.2.1,n q.2.2⟩) hl
 have e:∀{n:Nat},n≤B→n≤C:=fun q=>gc q h
 obtain ⟨h0,h1,h2,h3,h4,h5,h6,h7,h8,h9⟩:=hm
 exact ⟨k (fun _ q=>⟨n q.1,n q.2⟩) h0,k (fun _ q=>⟨e q.1,e q.2⟩) h1,k (fun _ q=>⟨n q.1,i q.2⟩) h2,⟨e h3.1,fun _ _=>trivial⟩,⟨e h4.1,fun _ _=>trivial⟩,⟨e h5.1,fun x hx=>i (h5.2 x hx)⟩,⟨e h6.1,fun x hx=>e (h6.2 x hx)⟩,k (fun _ q=>⟨i q.1,k (fun _ r=>i r) q.2⟩) h7,k (fun _ q=>⟨i q.1,n q.2⟩) h8,k (fun _ q=>⟨e q.1,n q.2⟩) h9⟩
end
end Go.Proofs.YteephfapgoncgaaGreatDoor