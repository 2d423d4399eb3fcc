import Derived.Test.YtjndcljjbpeljaaGreatDoorPQm
set_option linter.all false
set_option maxRecDepth 100000
set_option maxHeartbeats 40000000
namespace Go.Proofs.YtjndcljjbpeljaaGreatDoor
section
open Go Go.Mw
theorem x9 {α:Type} [Inhabited α] {f:α→Bool}:∀{l:List α} {i:Nat},i<l.length→(∀k,k<i→f (ah l k)=false)→f (ah l i)=true→l.find? f=some (ah l i)
 | [],i,h,_,_=>by simp at h
 | a :: l,0,_,_,h=>by
  have h':f a=true:=h
  rw [List.find?_cons_of_pos h'];rfl
 | a :: l,i+1,hi,hk,h=>by
  have h0:f a=false:=hk 0 (by omega)
  rw [List.find?_cons_of_neg (by rw [h0];decide)]
  exact x9 (l:=l) (by simpa using hi) (fun k hk2=>hk (k+1) (by omega)) h
theorem Ir {α:Type} [Inhabited α] {f:α→Bool} {l:List α} (h:∀k,k<l.length→f (ah l k)=false):l.find? f=none:=by
 rw [List.find?_eq_none]
 intro x hx
 obtain ⟨k,hk,rfl⟩:=List.mem_iff_getElem.1 hx
 have:=h k hk
 rw [bD hk] at this
 rw [this];decide
def lr (op:Int):Option Oc:=OC.find? (fun o=>o.op==op)
def rNm (op:Int):List UInt8:=((lr op).getD default).nm
def mX (op:Int):Int:=((lr op).getD default).im
def tG (op:Int):Bool:=(lr op).isSome
theorem M7:OC.length=125:=rfl
attribute [local go_sem] U2
theorem yQ (op:Int):ae Tryz.prog Ug [.int .i64 op] (.tup [.agg (qO ((lr op).getD default)),.bool (tG op)]):=by
 refine ab (ic:=BR.body) aq Se rfl rfl ?_
 have hOL:=M7
 simp only [go_sem,BR]
 refine aa (Kb) ?_
 simp only [go_sem]
 refine an (fun i:Nat=>⟨[(4,.sl 3 (OC.map qO)),(5,.int .i64 i),(0,.int .i64 op),(2,.mp 2 3 0 0),(3,.bool false)],[(2,⟨246,3,[[.int .i64 0,.str [],.int .i64 0]],true⟩)]⟩) (fun i=>i≤OC.length∧∀k,k<i→((ah OC k).op==op)=false) (fun i=>OC.length - i) 0 ⟨cE _,fun k hk=>absurd hk (Nat.not_lt_zero k)⟩ (Wk.of ?_ ?_) ?_
 ·simp only [go_sem];try simp
 ·simp only [go_sem]
 rintro i ⟨hi,hk⟩
 have e8:=wi (n:=(i:Int)+1) (by omega) (by omega)
 by_cases h1:(i:Int)<(OC.length:Int)
 ·have hi':i<OC.length:=by omega
  by_cases h2:(ah OC i).op=op
  ·have r:lr op=some (ah OC i):=x9 hi' hk (by simpa using h2)
   simp only [go_sem,aF h1,bq h2]
   refine ⟨by omega,h1,by omega,h1,?_⟩
   have rk:tG op=true:=by rw [tG,r];rfl
   rw [rk,r]
   exact aj
  ·simp only [go_sem,aF h1,aN h2]
   refine ⟨by omega,h1,aC (i+1) ⟨by omega,fun k hk2=>?_⟩ (show OC.length - (i+1)<OC.length - i by omega) (Wk.of ?_ ?_)⟩
   ·rcases dT k i with h4 | h4
    ·exact hk k h4
    ·obtain rfl:k=i:=by omega
     exact aN h2
   ·simp only [go_sem,e8]
    try simp
   ·simp only [go_sem]
 ·have r:lr op=none:=Ir fun k hk2=>hk k (by omega)
  have rk:tG op=false:=by rw [tG,r];rfl
  simp only [go_sem,aG h1]
  rw [rk,r]
  exact aI
theorem Ka (op:Int):ae Tryz.prog TQ [.int .i64 op] (.bool (tG op)):=by
 refine ab (ic:=Bx.body) aq RH rfl rfl ?_
 simp only [go_sem,Bx]
 refine aa (yQ op) ?_
 simp only [go_sem]
 exact aj
theorem LB (op:Int):ae Tryz.prog UQ [.int .i64 op] (.int .i64 (mX op)):=by
 refine ab (ic:=Ch.body) aq SQ rfl rfl ?_
 simp only [go_sem,Ch]
 refine aa (yQ op) ?_
 simp only [go_sem]
 exact aI
def free (op:Int):Bool:=op==1||(op==2||(op==3||(op==5||op==11)))
end
open Go Go.Mw
section
def ij (n:Int):Bool:=decide (n≥0)&&decide (n<4294967296)
def tS (n:Int):Bool:=decide (n≥1)&&decide (n≤4)
def HR (k v z:Int):Bool:=if k=0 then (v==0)&&(z==0) else if k=1 then tS v&&(z==0) else if k=2 then (v==0)&&ij z else false
attribute [local go_sem] jr cY
theorem J9 (n:Int):ae Tryz.prog TS [.int .i64 n] (.bool (ij n)):=by
 refine ab (ic:=xK.body) aq RL rfl rfl ?_
 unfold ij
 by_cases h:n≥0
 ·simp only [go_sem,xK,aF h,bR]
  exact aj
 ·simp only [go_sem,xK,aG h,cF]
  exact aj
theorem Vn (n:Int):ae Tryz.prog UF [.int .i64 n] (.bool (tS n)):=by
 refine ab (ic:=xQ.body) aq SF rfl rfl ?_
 unfold tS
 by_cases h:n≥1
 ·simp only [go_sem,xQ,aF h,bR]
  exact aj
 ·simp only [go_sem,xQ,aG h,cF]
  exact aj
theorem nb_ {b:Bool} (h:(!b)=true):b=false:=by cases b<;>first | rfl | cases h
theorem nc_ {b:Bool} (h:(!b)=false):b=true:=by cases b<;>first | rfl | cases h
theorem Fp (k v z:Int):ae Tryz.prog TR [.agg [.int .i64 k,.int .i64 v,.int .i64 z]] (.bool (HR k v z)):=by
 refine ab (ic:=qV.body) aq RK rfl rfl ?_
 unfold HR
 by_cases h0:k=0
 ·subst h0
  rw [aK rfl]
  simp only [go_sem,qV]
  refine ⟨fun h=>?_,fun h=>?_⟩
  ·rw [h]
   exact aI
  ·rw [h]
   exact aI
 by_cases h1:k=1
 ·subst h1
  rw [aD h0,aK rfl]
  simp only [go_sem,qV]
  refine aa (Vn v) ?_
  cases tS v
  ·simp only [go_sem]
   exact aI
  ·simp only [go_sem]
   exact aI
 by_cases h2:k=2
 ·subst h2
  rw [aD h0,aD h1,aK rfl]
  simp only [go_sem,qV]
  refine ⟨fun h=>?_,fun h=>?_⟩
  ·refine aa (J9 z) ?_
   rw [h]
   simp only [go_sem]
   exact aI
  ·rw [h]
   exact aI
 rw [aD h0,aD h1,aD h2]
 simp only [go_sem,qV,aN h0,aN h1,aN h2]
 exact aI
theorem HJ {f:Int→Bool} {l:List Int} (h:∀k,k<l.length→f (ah l k)=true):l.all f=true:=by
 rw [ee]
 intro x hx
 obtain ⟨k,hk,rfl⟩:=List.mem_iff_getElem.1 hx
 have:=h k hk
 rwa [bD hk] at this
theorem HH {f:Int→Bool} {l:List Int} {k:Nat} (hk:k<l.length) (h:f (ah l k)=false):l.all f=false:=by
 rw [List.all_eq_false]
 exact ⟨ah l k,by rw [bD hk];exact List.getElem_mem hk,by rw [h];decide⟩
theorem AW (l:List Int) (hl:l.length≤9223372036854775807):ae Tryz.prog ZF [.sl 1 (l.map gD)] (.bool (l.all ij)):=by
 refine ab (ic:=MY.body) aq XY rfl rfl ?_
 simp only [go_sem,MY]
 refine an (fun i:Nat=>⟨[(0,.sl 1 (l.map gD)),(3,.int .i64 i)],[]⟩) (fun i=>i≤l.length∧∀k,k<i→ij (ah l k)=true) (fun i=>l.length - i) 0 ⟨cE _,fun k hk=>absurd hk (Nat.not_lt_zero k)⟩ (Wk.of ?_ ?_) ?_
 ·simp only [go_sem];try simp
 ·simp only [go_sem]
 rintro i ⟨hi,hk⟩
 by_cases h1:(i:Int)<(l.length:Int)
 ·have e8:=wi (n:=(i:Int)+1) (by omega) (by omega)
  simp only [go_sem,aF h1]
  refine ⟨by omega,h1,?_⟩
  refine aa (J9 (ah l i)) ?_
  cases h2:ij (ah l i)
  ·rw [HH (by omega) h2]
   simp only [go_sem]
   exact aI
  ·simp only [go_sem]
   refine aC (i+1) ⟨by omega,fun k hk2=>?_⟩ (show l.length - (i+1)<l.length - i by omega) (Wk.of ?_ ?_)
   ·rcases dT k i with h4 | h4
    ·exact hk k h4
    ·obtain rfl:k=i:=by omega
     exact h2
   ·simp only [go_sem,e8]
    try simp
   ·simp only [go_sem]
 ·rw [HJ (fun k hk2=>hk k (by omega))]
  simp only [go_sem,aG h1]
  exact aI
end
section
def AZ (i:Int) (x:bz):Bool :=
 if i=0 then (x.a==0)&&((x.b==0)&&(x.n==0)) else
 if i=1 then (x.a==0)&&((x.b==0)&&((x.n==0)&&HR x.k x.v x.x)) else
 if i=3 then ij x.a&&((x.b==0)&&((x.n==0)&&x.lb.all ij)) else
 if i=6 then (x.a==0)&&((x.b==0)&&((x.n==0)&&(((x.ty.length:Int)==1)&&tS (ah x.ty 0)))) else
 if i=13 then (x.a==0)&&(ij x.b&&(x.n==0)) else
 if i=17 then decide (x.a≥0)&&(decide (x.a≤63)&&(ij x.b&&decide (x.n<4294967296))) else
 if i=18 then (x.a==0)&&((x.b==0)&&decide (x.n<4294967296)) else
 if i=19 then (x.a==0)&&(x.b==0) else
 if i=20 then ((x.a==3)||(x.a==4))&&((x.b==0)&&(x.n==0)) else
 if i=5∨i=10∨i=11∨i=14∨i=15 then ij x.a&&(ij x.b&&(x.n==0)) else
 ij x.a&&((x.b==0)&&(x.n==0))
def Bf (i:Int) (kn:Bool) (x:bz):Bool :=
 kn&&(((i==1)||((x.k==0)&&((x.v==0)&&(x.x==0))))&&(((i==3) || !decide ((x.lb.length:Int)>0))&&(((i==6) || !decide ((x.ty.length:Int)>0))&&AZ i x)))
attribute [local go_sem] jr cY dE
theorem vu (x:bz) (i:Int) (hi:0≤i∧i≤20) (him:mX x.op=i) (hl:x.lb.length≤9223372036854775807):ae Tryz.prog mw [jF x] (.bool (Bf i (tG x.op) x)):=by
 refine ab (ic:=By.body) aq RJ rfl rfl ?_
 have a1:=LB x.op
 rw [him] at a1
 have a2:=Ka x.op
 unfold Bf
 clear him
 rcases (show i=0∨i=1∨i=2∨i=3∨i=4∨i=5∨i=6∨i=7∨i=8∨i=9∨i=10∨i=11∨i=12∨i=13∨i=14∨i=15∨i=16∨i=17∨i=18∨i=19∨i=20 by omega) with rfl | rfl | rfl | rfl | rfl | rfl | rfl | rfl | rfl | rfl | rfl | rfl | rfl | rfl | rfl | rfl | rfl | rfl | rfl | rfl | rfl
 all_goals
  simp only [go_sem,By]
  refine aa (a1) ?_
  simp only [go_sem]
  refine aa (a2) ?_
  cases hk:tG x.op
  ·rw [cF]
   simp only [go_sem]
   exact aI
  simp only [Int.reduceBEq,lZ,qw,bR]
  simp only [AZ,Int.reduceEq,false_or,or_false,or_true,true_or,or_self,bF,dc]
  simp only [go_sem]
  iterate 3 (first | (refine ⟨fun h=>?_,fun h=>?_⟩
                      ·(first | rw [aF h,cQ,cF] | rw [nb_ h,cF])
                       exact aI
                      (first | rw [aG h,cZ,bR] | rw [nc_ h,bR])) | skip)
  iterate 8 (first
   | (refine ⟨fun h=>?_,fun h=>?_⟩
      rotate_left
      ·(first | rw [h,cF] | rw [aG h,cF])
       exact aI
      (first | rw [h,bR] | rw [aF h,bR]))
   | (refine aa (J9 x.a) ?_
      cases hA:ij x.a
      ·rw [cF]
       simp only [go_sem]
       exact aI
      rw [bR]
      simp only [go_sem])
   | (refine aa (J9 x.b) ?_
      cases hB:ij x.b
      ·rw [cF]
       simp only [go_sem]
       exact aI
      rw [bR]
      simp only [go_sem])
   | (refine aa (Fp x.k x.v x.x) ?_
      simp only [go_sem]
      exact aI)
   | (refine aa (AW x.lb hl) ?_
      simp only [go_sem]
      exact aI)
   | skip)
  try exact aI
 ·have h9:=‹((x.ty.length:Int)==1)=true›
  refine ⟨by decide,?_,?_⟩
  ·have:=eq_of_beq h9
   omega
  ·refine aa (Vn (ah x.ty 0)) ?_
   simp only [go_sem]
   exact aI
 ·refine ⟨fun h=>?_,fun h=>?_⟩
  rw [h,lZ,bR]
  rotate_left
  rw [h,qw]
  all_goals
   iterate 3 (first
    | (refine ⟨fun h=>?_,fun h=>?_⟩
       rotate_left
       ·rw [h,cF]
        exact aI
       rw [h,bR])
    | skip)
   exact aI
end
theorem FH {op:Int} (h:lr op=none):rNm op=[]∧mX op=0∧tG op=false:=by
 simp only [rNm,mX,tG,h]
 exact ⟨rfl,rfl,rfl⟩
theorem FG {p:Int→Bool} (h:OC.all (fun o=>p o.op)=true) {op:Int} (hr:lr op≠none):p op=true:=by
 cases hf:lr op with
 | none=>exact absurd hf hr
 | some o =>
  have h1:=ee.1 h o (List.mem_of_find?_eq_some hf)
  have h2:=List.find?_some hf
  simp only [beq_iff_eq] at h2
  rw [h2] at h1
  exact h1
theorem oB (op:Int):0≤mX op∧mX op≤20:=by
 by_cases h:lr op=none
 ·rw [(FH h).2.1];decide
 ·have:=FG (p:=fun op=>decide (0≤mX op)&&decide (mX op≤20)) (by decide +kernel) h
  simpa using this
def PL (x:bz):Bool:=Bf (mX x.op) (tG x.op) x
def vo (t:Int):UInt8×Bool:=if t=1 then (127,true) else if t=2 then (126,true) else if t=3 then (112,true) else if t=4 then (111,true) else (0,false)
def wq (k v x:Int):List UInt8:=if k=0 then [64] else if k=1 then [(vo v).1] else fq x
def j4 (op:Int):List UInt8:=if op≥64512 then 252 :: aA (op - 64512).toNat else [UInt8.ofNat op.toNat]
def j0 (l:List Int):List UInt8:=l.flatMap fun n=>aA n.toNat
def i7 (i:Int) (x:bz):List UInt8 :=
 if i=1 then wq x.k x.v x.x else
 if i=3 then aA x.lb.length++j0 x.lb++aA x.a.toNat else
 if i=5∨i=10∨i=11∨i=14∨i=15 then aA x.a.toNat++aA x.b.toNat else
 if i=6 then aA 1++[(vo (ah x.ty 0)).1] else
 if i=13 then aA x.b.toNat else
 if i=17 then (if x.b=0 then aA x.a.toNat else aA (x.a+64).toNat++aA x.b.toNat)++aA x.n.toNat else
 if i=18 then fq (Bh x.n) else
 if i=19 then fq (IntKind.i64.wrap x.n) else
 if i=20 then [(vo x.a).1] else
 if i=0 then [] else aA x.a.toNat
def sW (x:bz):List UInt8:=j4 x.op++i7 (mX x.op) x
def ky (x:bz) (l:List UInt8) (e:Int):List UInt8×Int :=
 if PL x=true then (if mX x.op=3∧4294967296≤x.lb.length then (wB (e==0) l (j4 x.op),if e=0 then 1 else e) else (wB (e==0) l (sW x),e)) else (l,if e=0 then 10 else e)
abbrev Rd (α:Type):=Except (Int×Nat) (α×Nat)
def gU (b:List UInt8) (a:Nat):Rd Nat:=if (e_ (b.drop a) 32).2.2=0 then .ok ((e_ (b.drop a) 32).1,a+(e_ (b.drop a) 32).2.1) else .error ((e_ (b.drop a) 32).2.2,a)
def gC (b:List UInt8) (a:Nat) (most:Int):Rd Nat:=match gU b a with
 | .ok (n,k)=>if (n:Int)>most then .error (6,a) else .ok (n,k)
 | .error e=>.error e
def z0:bz:=⟨0,0,0,0,0,0,0,[],[]⟩
theorem Va (b:List UInt8) (a:Nat) (e most:Int):bH false b a e most=(0,a,e):=rfl
def gS (t:Int):List UInt8:=[(vo t).1]
def bT {α:Type} (f:α→List UInt8) (l:List α):List UInt8:=aA l.length++l.flatMap f
def nR (x:Ft):List UInt8:=96 :: (bT gS x.ps++bT gS x.rs)
def i6 (l:Lm):List UInt8:=if l.hs=true then 1 :: (aA l.mn.toNat++aA l.mx.toNat) else 0 :: aA l.mn.toNat
def mb (x:Tb):List UInt8:=gS x.e++i6 x.l
def rF (g:Gl):List UInt8:=gS g.v++[if g.mu=true then 1 else 0]
def nT (s:List UInt8):List UInt8:=aA s.length++s
def nS (x:Im):List UInt8:=nT x.m++nT x.n++[UInt8.ofNat x.k.toNat] ++
 (if x.k=0 then aA x.f.toNat else if x.k=1 then mb ⟨x.te,x.tl⟩ else if x.k=2 then i6 x.me else rF x.g)
def eA (l:List bz):List UInt8:=l.flatMap sW
def pi (x:Gd):List UInt8:=rF x.g++eA x.i
def ph (x:Ex):List UInt8:=nT x.n++[UInt8.ofNat x.k.toNat]++aA x.i.toNat
def same (t:Int):List Int→Nat
 | []=>0
 | x :: l=>if x=t then same t l+1 else 0
def qi:Nat→List Int→List (Nat×Int)
 | 0,_=>[]
 | _,[]=>[]
 | f+1,x :: l=>(same x l+1,x) :: qi f (l.drop (same x l))
def fz (l:List Int):List (Nat×Int):=qi l.length l
def iw (r:Nat×Int):List UInt8:=aA r.1++gS r.2
def x6 (l:List Int):List UInt8:=bT iw (fz l)
def ll (x:Cd):List UInt8:=x6 x.lo++eA x.b
def pg (x:Cd):List UInt8:=aA (ll x).length++ll x
def oi (l:List bz):Bool:=(l.length==2)&&((ah l 0).op==210)&&((ah l 1).op==11)
def fS (x:El):Bool:=(x.ty != 3)||x.it.any (fun l=>!oi l)
def dK (x:El):Nat:=(if fS x=true then 4 else 0)+(if x.mo=1 then 1 else if x.mo=2 then 3 else if x.tb≠0∨x.ty≠3 then 2 else 0)
def eB (n:Nat) (l:List bz):List UInt8:=if n<4 then aA (ah l 0).a.toNat else eA l
def nQ (x:El):List UInt8:=aA (dK x)++(if dK x % 4=2 then aA x.tb.toNat else [])++(if dK x % 2=0 then eA x.o else []) ++
 (if dK x % 4=0 then [] else if dK x<4 then [0] else gS x.ty)++bT (eB (dK x)) x.it
def nP (x:Da):List UInt8:=(if x.mo=1 then aA 1 else if x.me=0 then aA 0++eA x.o else aA 2++aA x.me.toNat++eA x.o)++aA x.b.length++x.b
def dg (m:Md) (p:Int):List UInt8 :=
 if p=1 then bT nR m.ts else if p=2 then bT nS m.ims else if p=3 then bT (fun x:Cd=>aA x.t.toNat) m.fs else
 if p=4 then bT mb m.tbs else if p=5 then bT i6 m.ms else if p=6 then bT pi m.gs else if p=7 then bT ph m.exs else
 if p=8 then aA m.st.toNat else if p=9 then bT nQ m.els else if p=10 then aA m.ds.length else
 if p=11 then bT pg m.fs else if p=12 then bT nP m.ds else []
def jI (m:Md):List Int :=
 (if m.ts.length>0 then [1] else [])++(if m.ims.length>0 then [2] else [])++(if m.fs.length>0 then [3] else [])++(if m.tbs.length>0 then [4] else []) ++
 (if m.ms.length>0 then [5] else [])++(if m.gs.length>0 then [6] else [])++(if m.exs.length>0 then [7] else [])++(if m.hs=true then [8] else []) ++
 (if m.els.length>0 then [9] else [])++(if m.ds.length>0 then [10] else [])++(if m.fs.length>0 then [11] else [])++(if m.ds.length>0 then [12] else [])
def Rm {α β:Type} (r:Rd α) (f:α→Nat→Rd β):Rd β:=match r with
 | .ok (x,k)=>f x k
 | .error e=>.error e
theorem WD {α β:Type} (x:α) (k:Nat) (f:α→Nat→Rd β):Rm (.ok (x,k)) f=f x k:=rfl
theorem WB {α β:Type} (e:Int×Nat) (f:α→Nat→Rd β):Rm (.error e) f = .error e:=rfl
def gN {α:Type} (one:List UInt8→Nat→Rd α):Nat→List UInt8→Nat→Rd (List α)
 | 0,_,a=>.ok ([],a)
 | n+1,b,a=>Rm (one b a) fun x k=>Rm (gN one n b k) fun l k'=>.ok (x :: l,k')
def gCN {α:Type} (one:List UInt8→Nat→Rd α) (most:Int) (b:List UInt8) (a:Nat):Rd (List α):=Rm (gC b a most) fun n k=>gN one n b k
def Z3 (k:Int):List bz:=[⟨210,k,0,0,0,0,0,[],[]⟩,⟨11,0,0,0,0,0,0,[],[]⟩]
def EO (n:Nat):Int:=if n % 4=1 then 1 else if n % 4=3 then 2 else 0
structure Dc where
 m:Md
 place:Int
 codes:Nat
 data:Int
end Go.Proofs.YtjndcljjbpeljaaGreatDoor