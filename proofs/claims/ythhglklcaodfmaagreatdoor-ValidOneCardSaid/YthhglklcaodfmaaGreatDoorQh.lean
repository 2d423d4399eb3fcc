import Derived.Test.YthhglklcaodfmaaGreatDoorQg
set_option linter.all false
set_option maxRecDepth 100000
set_option maxHeartbeats 40000000
namespace Go.Proofs.YthhglklcaodfmaaGreatDoor
open Go Go.Mw
section
def nuB (t:Int):Bool:=(t==1)||(t==2)
def P4 (t:Int):Bool:=(t==3)||(t==4)
def wj (t:Int):Bool:=nuB t||P4 t
def Wg (l:Lm) (most:Int):Bool:=if l.mn<0∨l.mn>most then false else if l.hs=false then l.mx==0 else decide (l.mn≤l.mx)&&decide (l.mx≤most)
def oc (l:List Int):Bool:=l.all wj
def vO (s:List UInt8):Int:=if s.length>64 then 6 else if uv s=false then 9 else 0
def MT (x:Ft):Int:=if x.ps.length>8∨x.rs.length>8 then 6 else if oc x.ps=false∨oc x.rs=false then 12 else 0
def Rr (x:Tb):Int:=if P4 x.e=false then 12 else if Wg x.l 1024=false then 20 else 0
def Q_ (l:Lm):Int:=if Wg l 256=false then 20 else 0
def We (g:Gl):Int:=if wj g.v=false then 12 else 0
def yK (P:bv→Bool):Nat→List bv→Int×Int
 | _,[]=>(0,0)
 | i,x :: r=>if P x=false then ((i:Int),10) else if x.lb.length>64 then ((i:Int),6) else yK P (i+1) r
def fz (P:bv→Bool) (l:List bv):Int×Int:=if l.length>2048 then (2048,6) else yK P 0 l
attribute [local go_sem] bT aY b_ bO
theorem Zd (t:Int):aj Tryz.prog aag [.int .i64 t] (.bool (nuB t)):=by
 refine ac (ic:=CG.body) ap X0 rfl rfl ?_
 unfold nuB
 cases h:(t==1)
 ·simp only [go_sem,CG,h]
  exact aN [] (by simp only [go_sem,oh]) (by first | rfl | simp [go_sem,bE])
 ·simp only [go_sem,CG,h]
  exact aN [] (by simp only [go_sem,vM]) (by first | rfl | simp [go_sem,bE])
theorem KS (t:Int):aj Tryz.prog aah [.int .i64 t] (.bool (P4 t)):=by
 refine ac (ic:=CH.body) ap X1 rfl rfl ?_
 unfold P4
 cases h:(t==3)
 ·simp only [go_sem,CH,h]
  exact aN [] (by simp only [go_sem,oh]) (by first | rfl | simp [go_sem,bE])
 ·simp only [go_sem,CH,h]
  exact aN [] (by simp only [go_sem,vM]) (by first | rfl | simp [go_sem,bE])
theorem KT (t:Int):aj Tryz.prog aai [.int .i64 t] (.bool (wj t)):=by
 refine ac (ic:=G6.body) ap X2 rfl rfl ?_
 have c1:=Zd t
 have c2:=KS t
 unfold wj
 simp only [go_sem,G6]
 refine aa (c1) ?_
 cases nuB t
 ·simp only [go_sem]
  refine aa (c2) ?_
  simp only [go_sem]
  exact aN [] (by simp only [go_sem,oh]) (by first | rfl | simp [go_sem,bE])
 ·simp only [go_sem]
  exact aN [] (by simp only [go_sem,vM]) (by first | rfl | simp [go_sem,bE])
theorem Pw (t:Int):aj Tryz.prog Ao [.int .i64 t] (.bool (!wj t)):=by
 refine ac (ic:=GM.body) ap Xp rfl rfl ?_
 simp only [go_sem,GM]
 refine aa (KT t) ?_
 simp only [go_sem]
 exact ak
theorem Zc (l:List Int) (hl:l.length≤9223372036854775807):∃r:Int,aj Tryz.prog nX1 [.sl 1 (l.map bp),.fn Ao []] (.int .i64 r)∧(oc l=true→r = -1)∧(oc l=false→0≤r):=by
 have key:∀r:Int,(∀i:Nat,i≤l.length→(∀k,k<i→wj (au l k)=true)→(i<l.length→wj (au l i)=false→r=i)∧(i=l.length→r = -1))→aj Tryz.prog nX1 [.sl 1 (l.map bp),.fn Ao []] (.int .i64 r):=fun r hr=>by
  refine ac (ic:=FX1.body) ap cX1 rfl rfl ?_
  simp only [go_sem,FX1]
  refine aJ (fun j:Nat=>⟨[(8,.int .i64 j),(7,.int .i64 l.length),(0,.sl 1 (l.map bp)),(1,.fn Ao [])],[]⟩) (fun j=>j≤l.length∧∀k,k<j→wj (au l k)=true) (fun j=>l.length - j) 0 ⟨ef _,fun k hk=>by omega⟩ (Wk.of ?_ ?_) ?_
  ·simp only [go_sem];try simp
  ·simp only [go_sem]
  rintro j ⟨hj,hx⟩
  obtain ⟨r1,r2⟩:=hr j hj hx
  by_cases h1:(j:Int)<(l.length:Int)
  ·have hj':j<l.length:=by omega
   have e8:=ep hj' (by omega)
   have cc:=Pw (au l j)
   cases hb:wj (au l j)
   ·rw [hb] at cc
    rw [r1 hj' hb]
    simp only [go_sem,bH h1]
    refine ⟨by omega,h1,?_⟩
    refine ⟨by kernel_rfl,?_⟩
    refine aa (cc) ?_
    simp only [go_sem]
    exact ak
   ·rw [hb] at cc
    simp only [go_sem,bH h1]
    refine ⟨by omega,h1,?_⟩
    refine ⟨by kernel_rfl,?_⟩
    refine aa (cc) ?_
    simp only [go_sem]
    refine bA (j+1) ⟨show j+1≤l.length by omega,fun k hk=>?_⟩ (show l.length - (j+1)<l.length - j by omega) (Wk.of ?_ ?_)
    ·rcases jn k j with h | h
     ·exact hx k h
     ·rw [show k=j by omega];exact hb
    ·simp only [go_sem,e8];try simp
    ·simp only [go_sem]
  ·rw [r2 (by omega)]
   simp only [go_sem,bF h1]
   exact ak
 have fnd:(∀k,k<l.length→wj (au l k)=true)∨∃j,j<l.length∧wj (au l j)=false∧∀k,k<j→wj (au l k)=true:=by
  have aux:∀n,n≤l.length→(∀k,k<n→wj (au l k)=true)∨∃j,j<l.length∧wj (au l j)=false∧∀k,k<j→wj (au l k)=true:=fun n=>by
   induction n with
   | zero=>exact fun _=>.inl fun k hk=>by omega
   | succ n ih =>
    intro hn
    rcases ih (by omega) with h | h
    ·cases hb:wj (au l n)
     ·exact .inr ⟨n,by omega,hb,h⟩
     ·refine .inl fun k hk=>?_
      rcases jn k n with q | q
      ·exact h k q
      ·rw [show k=n by omega];exact hb
    ·exact .inr h
  exact aux l.length (aO _)
 have all_t:(∀k,k<l.length→wj (au l k)=true)→oc l=true:=fun h=>by
  unfold oc
  rw [eA]
  intro x hx
  obtain ⟨i,hi,rfl⟩:=List.getElem_of_mem hx
  have:=h i hi
  rwa [aX hi] at this
 rcases fnd with h | ⟨j,hj,hb,h⟩
 ·refine ⟨-1,key (-1) fun i hi hk=>⟨fun q qb=>?_,fun _=>rfl⟩,fun _=>rfl,fun q=>?_⟩
  ·rw [h i q] at qb;cases qb
  ·rw [all_t h] at q;cases q
 ·refine ⟨(j:Int),key (j:Int) fun i hi hk=>⟨fun q qb=>?_,fun q=>?_⟩,fun q=>?_,fun _=>by omega⟩
  ·rcases jn i j with z | z
   ·rw [h i z] at qb;cases qb
   ·rcases jn j i with z2 | z2
    ·rw [hk j z2] at hb;cases hb
    ·rw [show i=j by omega]
  ·rw [hk j (by omega)] at hb;cases hb
  ·unfold oc at q
   rw [eA] at q
   have:=q _ (List.getElem_mem hj)
   rw [aX hj] at hb
   rw [hb] at this;cases this
theorem Uu (l:List Int) (hl:l.length≤9223372036854775807):aj Tryz.prog nX0 [.sl 1 (l.map bp),.fn Ao []] (.bool (!oc l)):=by
 obtain ⟨r,hr,h1,h2⟩:=Zc l hl
 refine ac (ic:=FX0.body) ap cX0 rfl rfl ?_
 cases hb:oc l
 ·simp only [go_sem,FX0]
  refine aa (hr) ?_
  simp only [go_sem,bH (show r≥0 from h2 hb)]
  exact aN [] (by simp only [go_sem,MM]) (by first | rfl | simp [go_sem,bE])
 ·simp only [go_sem,FX0]
  refine aa (hr) ?_
  simp only [go_sem,bF (show ¬r≥0 by rw [h1 hb];decide)]
  exact aN [] (by simp only [go_sem,A6]) (by first | rfl | simp [go_sem,bE])
theorem yk (l:List Int) (hl:l.length≤9223372036854775807):aj Tryz.prog Z8 [.sl 1 (l.map bp)] (.bool (oc l)):=by
 refine ac (ic:=GY.body) ap XR rfl rfl ?_
 simp only [go_sem,GY]
 refine aa (Uu l hl) ?_
 simp only [go_sem,Bool.not_not]
 exact ak
theorem lk (i:Int):aj Tryz.prog ZR [.int .i64 i] (.bool (vN i)):=by
 refine ac (ic:=CA.body) ap Xz rfl rfl ?_
 unfold vN
 by_cases h:(0:Int)≤i
 ·simp only [go_sem,CA,bH (show i≥0 from h)]
  exact aN [] (by simp only [go_sem,bH h,fV]) (by first | rfl | simp [go_sem,bE])
 ·simp only [go_sem,CA,bF (show ¬i≥0 from h)]
  exact aN [] (by simp only [go_sem,bF h,gp]) (by first | rfl | simp [go_sem,bE])
theorem Za (x:Ft) (h:smF x):aj Tryz.prog afs [.agg (jp x)] (.int .i64 (MT x)):=by
 refine ac (ic:=Hk.body) ap adM rfl rfl ?_
 have c1:=yk x.ps (by have:=h.1;omega)
 have c2:=yk x.rs (by have:=h.2;omega)
 unfold MT
 by_cases q1:(x.ps.length:Int)>8
 ·rw [av (.inl (by omega))]
  simp only [go_sem,Hk,bH q1]
  exact ak
 by_cases q2:(x.rs.length:Int)>8
 ·rw [av (.inr (by omega))]
  simp only [go_sem,Hk,bF q1,bH q2]
  exact ak
 rw [ar (by omega)]
 simp only [go_sem,Hk,bF q1,bF q2]
 refine aa (c1) ?_
 cases oc x.ps
 ·simp only [go_sem]
  exact aN [] (by simp only [go_sem];try rfl) (by rfl)
 simp only [go_sem]
 refine aa (c2) ?_
 cases oc x.rs
 ·simp only [go_sem]
  exact aN [] (by simp only [go_sem];try rfl) (by rfl)
 ·simp only [go_sem]
  exact aN [] (by simp only [go_sem];try rfl) (by rfl)
end
section
structure Fa where
 p:Int
 i:Int
 l:Int
 c:Int
def ck (F:Fa):ah:=⟨89,4,[[.int .i64 F.p,.int .i64 F.i,.int .i64 F.l,.int .i64 F.c]],true⟩
def dh (F:Fa) (p i l e:Int):Fa:=if F.c=0∧e≠0 then ⟨p,i,l,e⟩ else F
def CM (f:FuncId) (rest:List AV) (F F':Fa):Prop:=bu Tryz.prog f (.mp 1000 4 0 0 :: rest) [(1000,ck F)] (fun id=>1000≤id∧id<2000) (fun r' σ'=>r' = .tup []∧σ'=[(1000,ck F')])
attribute [local go_sem] bT ck aY cw df bO b_ kK dy eB dx eS eV cD
theorem BR (F:Fa) (p i l e:Int):CM UD [.int .i64 p,.int .i64 i,.int .i64 l,.int .i64 e] F (dh F p i l e):=by
 refine aB (ic:=Hh.body) ap adm rfl rfl ?_
 unfold dh
 by_cases h1:F.c=0
 ·by_cases h2:e=0
  ·rw [ar (by simp [h2])]
   simp only [go_sem,Hh,aF h1,ay h2]
   exact nn [] _ [(1000,ck F)] ⟨rfl,rfl⟩
  ·rw [av ⟨h1,h2⟩]
   simp only [go_sem,Hh,aF h1,aK h2]
   exact nn [] _ [(1000,ck ⟨p,i,l,e⟩)] ⟨rfl,rfl⟩
 ·rw [ar (fun q=>h1 q.1)]
  simp only [go_sem,Hh,ab h1]
  exact nn [] _ [(1000,ck F)] ⟨rfl,rfl⟩
theorem nth_map {α β:Type} [Inhabited α] [Inhabited β] {f:α→β} {l:List α} {i:Nat} (h:i<l.length):au (l.map f) i=f (au l i):=by
 rw [aX (by simpa using h),aX h,List.getElem_map]
def eL (n:Int):Nat→List (Int×Int)→Fa→Fa
 | _,[],F=>F
 | i,r :: l,F=>if F.c≠0 then F else eL n (i+1) l (dh F n i r.1 r.2)
def cE (n most imp:Int) (res:List (Int×Int)) (F:Fa):Fa :=
 eL n 0 res (if IntKind.i64.wrap ((res.length:Int)+imp)>most then dh F n (if 0<IntKind.i64.wrap (most - imp) then IntKind.i64.wrap (most - imp) else 0) 0 6 else F)
theorem I7 {n:Int} {l:List (Int×Int)} {i:Nat} (h:i<l.length) (F:Fa) (hF:F.c=0):eL n i (l.drop i) F=eL n (i+1) (l.drop (i+1)) (dh F n i (au l i).1 (au l i).2):=by
 rw [fc h,eL,ar (by simp [hF])]
theorem oM {n:Int} {l:List (Int×Int)} {i:Nat} (F:Fa) (hF:F.c≠0):eL n i l F=F:=by
 cases l with
 | nil=>rfl
 | cons r l=>rw [eL,av hF]
theorem YL {f:FuncId} (h:bU Tryz.prog f=true):f<4000000:=BF (by kernel_rfl) h
def ptB (t st:Nat) (z:List AV):be :=
 (.seq (.seq (.reg [mv 16 2,
 o0 17 (.len (.s 16)),
 mv 18 4,
 o0 19 (.bin .add (.s 17) (.s 18)),
 mv 20 3,
 o0 21 (.bin .gtr (.s 19) (.s 20))] [16,17,18,19,20])
 (.cond (.s 21)
 (.reg [mv 22 0,
 mv 23 1,
 mv 24 3,
 mv 25 4,
 o0 26 (.bin .sub (.s 24) (.s 25)),
 o0 27 (.mnx true (.c (.int .i64 0)) (.s 26)),
 o0 28 (.call UD [(.s 22),(.s 23),(.s 27),(.c (.int .i64 0)),(.c (.int .i64 6))])] [22,23,24,25,26,27,28])
 .skip))
 (.seq (.reg [mv 29 2,
 o0 30 (.len (.s 29)),
 o0 31 (.mov (.c (.int .i64 0)))] [])
 (.block 0 (.loop (.seq (.reg [o0 32 (.bin .lss (.s 31) (.s 30))] [])
 (.seq (.cond (.s 32)
 .skip
 (.exit 0))
 (.seq (.block 1 (.seq (.reg [mv 33 31,
 o0 34 (.iadr st (.s 29) (.s 31)),
 o0 35 (.load (some st) (.s 34)),
 o0 13 (.new t z),
 mv 12 33,
 ⟨none,.store st (.s 13) (.s 35),none⟩] [33,34,35])
 (.seq (.seq (.reg [mv 36 0,
 o0 37 (.nchk (.s 36)),
 o0 38 (.fadr 0 (.s 37)),
 o0 39 (.fadr 3 (.s 38)),
 o0 40 (.load none (.s 39)),
 o0 41 (.bin .neq (.s 40) (.c (.int .i64 0)))] [36,37,38,39,40])
 (.cond (.s 41)
 .ret
 .skip))
 (.seq (.reg [mv 43 5,
 mv 44 12,
 o0 45 (.load (some st) (.s 13)),
 o0 46 (.callv (.s 43) [(.s 44),(.s 45)]),
 mv 42 46,
 o0 47 (.ext (.s 42) 0),
 o0 48 (.ext (.s 42) 1),
 mv 14 47,
 mv 15 48] [43,44,45,46,42,47,48])
 (.reg [mv 49 0,
 mv 50 1,
 mv 51 12,
 mv 52 14,
 mv 53 15,
 o0 54 (.call UD [(.s 49),(.s 50),(.s 51),(.s 52),(.s 53)])] [49,50,51,52,53,54])))))
 (.reg [o0 55 (.bin .add (.s 31) (.c (.int .i64 1))),
 mv 31 55] [55]))))))))
theorem jj {α:Type} [Inhabited α] {m t st:Nat} {z:List AV} {c:α→List AV} (hc:aq Tryz.prog m=some ⟨56,6,[],ptB t st z⟩) (hz:z.length=st) (hr:∀x,acb st (c x)) {f:FuncId} (hb:bU Tryz.prog f=true) (g:α→Int×Int) (a:List α) (ha:a.length≤9223372036854775807)
  (hf:∀x∈a,∀i:Int,aj Tryz.prog f [.int .i64 i,.agg (c x)] (.tup [.int .i64 (g x).1,.int .i64 (g x).2])) (n most imp:Int) (F:Fa) :
  CM m [.int .i64 n,.sl st (a.map c),.int .i64 most,.int .i64 imp,.fn f []] F (cE n most imp (a.map g) F):=by
 refine aB (ic:=ptB t st z) ap hc rfl rfl ?_
 obtain ⟨G,hG⟩:∃G,cE n most imp (a.map g) F=G:=⟨_,rfl⟩
 rw [hG]
 unfold cE at hG
 rw [bT] at hG
 subst hz
 have q1:∀x,m_ (some z.length) (c x)=some (.agg (c x)):=fun x=>Pn (hr x).1
 have q2:∀x,sO 13 z.length z.length 0 0 (some ⟨t,z.length,[z],true⟩) (some (c x))=some (.put 13 ⟨t,z.length,[c x],true⟩):=fun x=>Qo rfl (hr x).1
 have q3:∀x i,(c x).any (mC i)=false:=fun x i=>(hr x).2.1 i
 by_cases hw:IntKind.i64.wrap ((a.length:Int)+imp)>most
 rw [av hw] at hG
 simp only [go_sem,ptB,bH hw]
 refine cz (BR F n (if 0<IntKind.i64.wrap (most - imp) then IntKind.i64.wrap (most - imp) else 0) 0 6) ?_
 simp only [go_sem]
 generalize dh F n (if 0<IntKind.i64.wrap (most - imp) then IntKind.i64.wrap (most - imp) else 0) 0 6=F0 at hG ⊢
 rotate_left
 rw [ar hw] at hG
 simp only [go_sem,ptB,bF hw]
 generalize F=F0 at hG ⊢
 all_goals
  refine aJ (fun q:Nat×Fa=>⟨[(31,.int .i64 q.1),(30,.int .i64 a.length),(29,.sl z.length (a.map c)),(0,.mp 1000 4 0 0),(1,.int .i64 n),(5,.fn f [])],[(1000,ck q.2)]⟩) (fun q=>q.1≤a.length∧G=eL n q.1 ((a.map g).drop q.1) q.2) (fun q=>a.length - q.1) (0,F0) ⟨ef _,hG.symm⟩ (Wk.of ?_ ?_) ?_
  ·simp only [go_sem];try simp
  ·simp only [go_sem]
  rintro ⟨j,E⟩ ⟨hj,hx⟩
  simp only at hj hx
  by_cases h1:(j:Int)<(a.length:Int)
  rotate_left
  ·rw [bY (by rw [bT];omega)] at hx
   obtain rfl:G=E:=hx
   simp only [go_sem,bF h1]
   exact nn [] _ [(1000,ck G)] ⟨rfl,rfl⟩
  have hj':j<a.length:=by omega
  have e8:=ep hj' (by omega)
  have cc:=CO hf hj' (j:Int)
  by_cases hE:E.c=0
  rotate_left
  ·rw [oM E hE] at hx
   obtain rfl:G=E:=hx
   simp only [go_sem,bH h1,aK hE,q1,q2,q3]
   refine ⟨by omega,h1,?_⟩
   exact aG [] (.tup []) [(1000,ck G)] ⟨rfl,rfl⟩
  rw [I7 (by rw [bT];exact hj') E hE,nth_map hj'] at hx
  simp only [go_sem,bH h1,ay hE,q1,q2,q3]
  refine ⟨by omega,h1,?_⟩
  rw [av (YL hb)]
  refine ⟨hb,?_⟩
  refine wM cc (fun x hx=>?_) ?_
  ·rcases bc.1 hx with rfl | hx
   ·rfl
   ·rcases bc.1 hx with rfl | hx
    ·exact (hr _).2.2
    ·cases hx
  simp only [go_sem]
  refine cz (BR E n j (g (au a j)).1 (g (au a j)).2) ?_
  simp only [go_sem]
  refine bA (j+1,dh E n j (g (au a j)).1 (g (au a j)).2) ⟨show j+1≤a.length by omega,hx⟩ (show a.length - (j+1)<a.length - j by omega) (Wk.of ?_ ?_)
  ·simp only [go_sem,e8];try simp
  ·simp only [go_sem]
theorem KN {f:FuncId} (hb:bU Tryz.prog f=true) (g:Ft→Int×Int) (a:List Ft) (ha:a.length≤9223372036854775807) (hf:∀x∈a,∀i:Int,aj Tryz.prog f [.int .i64 i,.agg (jp x)] (.tup [.int .i64 (g x).1,.int .i64 (g x).2])) (n most imp:Int) (F:Fa) :
  CM aav [.int .i64 n,.sl 2 (a.map jp),.int .i64 most,.int .i64 imp,.fn f []] F (cE n most imp (a.map g) F):=jj acU rfl (fun _=>⟨rfl,fun _=>rfl,rfl⟩) hb g a ha hf n most imp F
theorem KP {f:FuncId} (hb:bU Tryz.prog f=true) (g:Im→Int×Int) (a:List Im) (ha:a.length≤9223372036854775807) (hf:∀x∈a,∀i:Int,aj Tryz.prog f [.int .i64 i,.agg (tR x)] (.tup [.int .i64 (g x).1,.int .i64 (g x).2])) (n most imp:Int) (F:Fa) :
  CM aaq [.int .i64 n,.sl 13 (a.map tR),.int .i64 most,.int .i64 imp,.fn f []] F (cE n most imp (a.map g) F):=jj acy rfl (fun _=>⟨rfl,fun _=>rfl,rfl⟩) hb g a ha hf n most imp F
theorem Aj {f:FuncId} (hb:bU Tryz.prog f=true) (g:Cd→Int×Int) (a:List Cd) (ha:a.length≤9223372036854775807) (hf:∀x∈a,∀i:Int,aj Tryz.prog f [.int .i64 i,.agg (lB x)] (.tup [.int .i64 (g x).1,.int .i64 (g x).2])) (n most imp:Int) (F:Fa) :
  CM UC [.int .i64 n,.sl 3 (a.map lB),.int .i64 most,.int .i64 imp,.fn f []] F (cE n most imp (a.map g) F):=jj acR rfl (fun _=>⟨rfl,fun _=>rfl,rfl⟩) hb g a ha hf n most imp F
theorem KR {f:FuncId} (hb:bU Tryz.prog f=true) (g:Tb→Int×Int) (a:List Tb) (ha:a.length≤9223372036854775807) (hf:∀x∈a,∀i:Int,aj Tryz.prog f [.int .i64 i,.agg (ow x)] (.tup [.int .i64 (g x).1,.int .i64 (g x).2])) (n most imp:Int) (F:Fa) :
  CM aas [.int .i64 n,.sl 4 (a.map ow),.int .i64 most,.int .i64 imp,.fn f []] F (cE n most imp (a.map g) F):=jj acH rfl (fun _=>⟨rfl,fun _=>rfl,rfl⟩) hb g a ha hf n most imp F
theorem KQ {f:FuncId} (hb:bU Tryz.prog f=true) (g:Lm→Int×Int) (a:List Lm) (ha:a.length≤9223372036854775807) (hf:∀x∈a,∀i:Int,aj Tryz.prog f [.int .i64 i,.agg (nJ x)] (.tup [.int .i64 (g x).1,.int .i64 (g x).2])) (n most imp:Int) (F:Fa) :
  CM aar [.int .i64 n,.sl 3 (a.map nJ),.int .i64 most,.int .i64 imp,.fn f []] F (cE n most imp (a.map g) F):=jj acz rfl (fun _=>⟨rfl,fun _=>rfl,rfl⟩) hb g a ha hf n most imp F
theorem KO {f:FuncId} (hb:bU Tryz.prog f=true) (g:Gd→Int×Int) (a:List Gd) (ha:a.length≤9223372036854775807) (hf:∀x∈a,∀i:Int,aj Tryz.prog f [.int .i64 i,.agg (BD x)] (.tup [.int .i64 (g x).1,.int .i64 (g x).2])) (n most imp:Int) (F:Fa) :
  CM nX4 [.int .i64 n,.sl 3 (a.map BD),.int .i64 most,.int .i64 imp,.fn f []] F (cE n most imp (a.map g) F):=jj cX4 rfl (fun _=>⟨rfl,fun _=>rfl,rfl⟩) hb g a ha hf n most imp F
theorem KM {f:FuncId} (hb:bU Tryz.prog f=true) (g:Ex→Int×Int) (a:List Ex) (ha:a.length≤9223372036854775807) (hf:∀x∈a,∀i:Int,aj Tryz.prog f [.int .i64 i,.agg (A7 x)] (.tup [.int .i64 (g x).1,.int .i64 (g x).2])) (n most imp:Int) (F:Fa) :
  CM aap [.int .i64 n,.sl 3 (a.map A7),.int .i64 most,.int .i64 imp,.fn f []] F (cE n most imp (a.map g) F):=jj acx rfl (fun _=>⟨rfl,fun _=>rfl,rfl⟩) hb g a ha hf n most imp F
theorem KL {f:FuncId} (hb:bU Tryz.prog f=true) (g:El→Int×Int) (a:List El) (ha:a.length≤9223372036854775807) (hf:∀x∈a,∀i:Int,aj Tryz.prog f [.int .i64 i,.agg (wU x)] (.tup [.int .i64 (g x).1,.int .i64 (g x).2])) (n most imp:Int) (F:Fa) :
  CM aau [.int .i64 n,.sl 5 (a.map wU),.int .i64 most,.int .i64 imp,.fn f []] F (cE n most imp (a.map g) F):=jj acT rfl (fun _=>⟨rfl,fun _=>rfl,rfl⟩) hb g a ha hf n most imp F
theorem KJ {f:FuncId} (hb:bU Tryz.prog f=true) (g:Da→Int×Int) (a:List Da) (ha:a.length≤9223372036854775807) (hf:∀x∈a,∀i:Int,aj Tryz.prog f [.int .i64 i,.agg (x5 x)] (.tup [.int .i64 (g x).1,.int .i64 (g x).2])) (n most imp:Int) (F:Fa) :
  CM aat [.int .i64 n,.sl 4 (a.map x5),.int .i64 most,.int .i64 imp,.fn f []] F (cE n most imp (a.map g) F):=jj acS rfl (fun _=>⟨rfl,fun _=>rfl,rfl⟩) hb g a ha hf n most imp F
theorem KI {f:FuncId} (hb:bU Tryz.prog f=true) (g:Cu→Int×Int) (a:List Cu) (ha:a.length≤9223372036854775807) (hf:∀x∈a,∀i:Int,aj Tryz.prog f [.int .i64 i,.agg (zK x)] (.tup [.int .i64 (g x).1,.int .i64 (g x).2])) (n most imp:Int) (F:Fa) :
  CM aal [.int .i64 n,.sl 3 (a.map zK),.int .i64 most,.int .i64 imp,.fn f []] F (cE n most imp (a.map g) F):=jj acw rfl (fun _=>⟨rfl,fun _=>rfl,rfl⟩) hb g a ha hf n most imp F
end
section
attribute [local go_sem] bT aY cw df bO b_ kK dy eB dx eS dB cD
theorem KH (l:Lm) (most:Int):aj Tryz.prog Zz [.agg (nJ l),.int .i64 most] (.bool (Wg l most)):=by
 refine ac (ic:=sU.body) ap Xf rfl rfl ?_
 unfold Wg
 by_cases q1:l.mn<0
 ·rw [av (.inl q1)]
  simp only [go_sem,sU,bH q1]
  exact ak
 by_cases q2:l.mn>most
 ·rw [av (.inr q2)]
  simp only [go_sem,sU,bF q1,bH q2]
  exact ak
 rw [ar (by omega)]
 cases hh:l.hs
 ·rw [av rfl]
  simp only [go_sem,sU,bF q1,bF q2,hh]
  exact ak
 ·rw [ar (by decide)]
  by_cases q3:l.mn≤l.mx
  ·simp only [go_sem,sU,bF q1,bF q2,hh,bH q3]
   exact aN [] (by simp only [go_sem,fV]) (by first | rfl | simp [go_sem,bE])
  ·simp only [go_sem,sU,bF q1,bF q2,hh,bF q3]
   exact aN [] (by simp only [go_sem,gp]) (by first | rfl | simp [go_sem,bE])
theorem Dt (x:Tb):aj Tryz.prog ZS [.agg (ow x)] (.int .i64 (Rr x)):=by
 refine ac (ic:=GQ.body) ap XA rfl rfl ?_
 have c1:=KS x.e
 have c2:=KH x.l 1024
 unfold Rr
 simp only [go_sem,GQ]
 refine aa (c1) ?_
 cases P4 x.e
 ·simp only [go_sem]
  exact aN [] (by simp only [go_sem];try rfl) (by rfl)
 ·simp only [go_sem]
  refine aa (c2) ?_
  cases Wg x.l 1024
  ·simp only [go_sem]
   exact aN [] (by simp only [go_sem];try rfl) (by rfl)
  ·simp only [go_sem]
   exact aN [] (by simp only [go_sem];try rfl) (by rfl)
theorem Q8 (l:Lm):aj Tryz.prog ZI [.agg (nJ l)] (.int .i64 (Q_ l)):=by
 refine ac (ic:=GL.body) ap Xo rfl rfl ?_
 have c2:=KH l 256
 unfold Q_
 simp only [go_sem,GL]
 refine aa (c2) ?_
 cases Wg l 256
 ·simp only [go_sem]
  exact aN [] (by simp only [go_sem];try rfl) (by rfl)
 ·simp only [go_sem]
  exact aN [] (by simp only [go_sem];try rfl) (by rfl)
theorem KF (g:Gl):aj Tryz.prog ZH [.agg [.int .i64 g.v,.bool g.mu]] (.int .i64 (We g)):=by
 refine ac (ic:=GK.body) ap Xn rfl rfl ?_
 have c2:=KT g.v
 unfold We
 simp only [go_sem,GK]
 refine aa (c2) ?_
 cases wj g.v
 ·simp only [go_sem]
  exact aN [] (by simp only [go_sem];try rfl) (by rfl)
 ·simp only [go_sem]
  exact aN [] (by simp only [go_sem];try rfl) (by rfl)
theorem yj (s:List UInt8):aj Tryz.prog Z7 [.str s] (.int .i64 (vO s)):=by
 refine ac (ic:=CD.body) ap XQ rfl rfl ?_
 unfold vO
 by_cases q1:(s.length:Int)>64
 ·rw [av (by omega)]
  simp only [go_sem,CD,bH q1]
  exact ak
 rw [ar (by omega)]
 simp only [go_sem,CD,bF q1]
 refine aa (abk s (by omega)) ?_
 cases uv s
 ·simp only [go_sem]
  exact aN [] (by simp only [go_sem];try rfl) (by rfl)
 ·simp only [go_sem]
  exact aN [] (by simp only [go_sem];try rfl) (by rfl)
def MP (x:Cd):Int:=if vN x.t=false then 11 else if x.lo.length>64 then 6 else if oc x.lo=false then 12 else 0
theorem Ut (x:Cd) (h:Qj x):aj Tryz.prog Z4 [.agg (lB x)] (.int .i64 (MP x)):=by
 refine ac (ic:=GX.body) ap XN rfl rfl ?_
 have c1:=lk x.t
 have c2:=yk x.lo (by have:=h.1;omega)
 unfold MP
 simp only [go_sem,GX]
 refine aa (c1) ?_
 cases vN x.t
 ·simp only [go_sem]
  exact aN [] (by simp only [go_sem];try rfl) (by rfl)
 rw [ar (by decide)]
 by_cases q1:(x.lo.length:Int)>64
 ·rw [av (by omega)]
  simp only [go_sem,bH q1]
  exact ak
 rw [ar (by omega)]
 simp only [go_sem,bF q1]
 refine aa (c2) ?_
 cases oc x.lo
 ·simp only [go_sem]
  exact aN [] (by simp only [go_sem];try rfl) (by rfl)
 ·simp only [go_sem]
  exact aN [] (by simp only [go_sem];try rfl) (by rfl)
def TM (x:Ex):Int:=if vO x.n≠0 then vO x.n else if x.k<0∨x.k>3 then 1 else if vN x.i=false then 11 else 0
theorem KE (x:Ex):aj Tryz.prog ZG [.agg (A7 x)] (.int .i64 (TM x)):=by
 refine ac (ic:=GJ.body) ap Xm rfl rfl ?_
 have c1:=yj x.n
 have c2:=lk x.i
 unfold TM
 simp only [go_sem,GJ]
 refine aa (c1) ?_
 by_cases q0:vO x.n=0
 rotate_left
 ·rw [av q0]
  simp only [go_sem,aK q0]
  exact ak
 rw [ar (by simp [q0])]
 by_cases q1:x.k<0
 ·rw [av (.inl q1)]
  simp only [go_sem,ay q0,bH q1]
  exact ak
 by_cases q2:x.k>3
 ·rw [av (.inr q2)]
  simp only [go_sem,ay q0,bF q1,bH q2]
  exact ak
 rw [ar (by omega)]
 simp only [go_sem,ay q0,bF q1,bF q2]
 refine aa (c2) ?_
 cases vN x.i
 ·simp only [go_sem]
  exact aN [] (by simp only [go_sem];try rfl) (by rfl)
 ·simp only [go_sem]
  exact aN [] (by simp only [go_sem];try rfl) (by rfl)
theorem P6 {P:bv→Bool} {l:List bv} {i:Nat} (h:i<l.length):yK P i (l.drop i)=if P (au l i)=false then ((i:Int),10) else if (au l i).lb.length>64 then ((i:Int),6) else yK P (i+1) (l.drop (i+1)):=by
 rw [fc h,yK]
theorem Ak (P:bv→Bool) (l:List bv) (hl:Ca l) (hP:∀x∈l,aj Tryz.prog lP [iE x] (.bool (P x))):aj Tryz.prog Rd [.sl 9 (l.map cD)] (.tup [.int .i64 (fz P l).1,.int .i64 (fz P l).2]):=by
 refine ac (ic:=CI.body) ap X7 rfl rfl ?_
 unfold fz
 by_cases q1:(l.length:Int)>2048
 ·rw [av (by omega)]
  simp only [go_sem,CI,bH q1]
  exact ak
 rw [ar (by omega)]
 obtain ⟨G,hG⟩:∃G,yK P 0 l=G:=⟨_,rfl⟩
 rw [hG]
 simp only [go_sem,CI,bF q1]
 refine aJ (fun j:Nat=>⟨[(11,.int .i64 j),(10,.int .i64 l.length),(9,.sl 9 (l.map cD))],[]⟩) (fun j=>j≤l.length∧G=yK P j (l.drop j)) (fun j=>l.length - j) 0 ⟨ef _,hG.symm⟩ (Wk.of ?_ ?_) ?_
 ·simp only [go_sem];try simp
 ·simp only [go_sem]
 rintro j ⟨hj,hx⟩
 by_cases h1:(j:Int)<(l.length:Int)
 rotate_left
 ·rw [bY (by omega)] at hx
  obtain rfl:G=(0,0):=hx
  simp only [go_sem,bF h1]
  exact ak
 have hj':j<l.length:=by omega
 have e8:=ep hj' (by have:=hl.1;omega)
 have cc:=CO hP hj'
 simp only [dB] at cc
 rw [P6 hj'] at hx
 cases hp:P (au l j)
 ·rw [hp] at cc hx
  obtain rfl:G=((j:Int),10):=hx
  simp only [go_sem,bH h1]
  refine ⟨by omega,h1,?_⟩
  refine aa (cc) ?_
  simp only [go_sem]
  exact ak
 rw [hp] at cc hx
 rw [ar (by decide)] at hx
 by_cases q2:((au l j).lb.length:Int)>64
 ·rw [av (by omega)] at hx
  subst hx
  simp only [go_sem,bH h1]
  refine ⟨by omega,h1,?_⟩
  refine aa (cc) ?_
  simp only [go_sem,bH q2]
  exact ak
 rw [ar (by omega)] at hx
 simp only [go_sem,bH h1]
 refine ⟨by omega,h1,?_⟩
 refine aa (cc) ?_
 simp only [go_sem,bF q2]
 refine bA (j+1) ⟨show j+1≤l.length by omega,hx⟩ (show l.length - (j+1)<l.length - j by omega) (Wk.of ?_ ?_)
 ·simp only [go_sem,e8];try simp
 ·simp only [go_sem]
end
section
def Gm (x:Cu):Int:=if vO x.n≠0 then vO x.n else if x.b.length>4096 then 6 else if x.af<0∨x.af>12 then 1 else 0
attribute [local go_sem] bT aY cw df bO b_ kK dy eB dx eS dB cD
theorem KD (x:Cu):aj Tryz.prog ZF [.agg (zK x)] (.int .i64 (Gm x)):=by
 refine ac (ic:=GI.body) ap Xl rfl rfl ?_
 have c1:=yj x.n
 unfold Gm
 simp only [go_sem,GI]
 refine aa (c1) ?_
 by_cases q0:vO x.n=0
 rotate_left
 ·rw [av q0]
  simp only [go_sem,aK q0]
  exact ak
 rw [ar (by simp [q0])]
 by_cases q1:(x.b.length:Int)>4096
 ·rw [av (by omega)]
  simp only [go_sem,ay q0,bH q1]
  exact ak
 rw [ar (by omega)]
 by_cases q2:x.af<0
 ·rw [av (.inl q2)]
  simp only [go_sem,ay q0,bF q1,bH q2]
  exact ak
 by_cases q3:x.af>12
 ·rw [av (.inr q3)]
  simp only [go_sem,ay q0,bF q1,bF q2,bH q3]
  exact ak
 rw [ar (by omega)]
 simp only [go_sem,ay q0,bF q1,bF q2,bF q3]
 exact ak
def CX (P:bv→Bool) (x:Da):Int×Int:=if x.mo≠0∧(x.mo≠1∨x.me≠0∨x.o.length>0) then (0,1) else if vN x.me=false then (0,11) else if x.b.length>4096 then (0,6) else fz P x.o
theorem Uv (P:bv→Bool) (x:Da) (h:VF x) (hP:∀y∈x.o,aj Tryz.prog lP [iE y] (.bool (P y))):aj Tryz.prog Z5 [.agg (x5 x)] (.tup [.int .i64 (CX P x).1,.int .i64 (CX P x).2]):=by
 refine ac (ic:=sY.body) ap XO rfl rfl ?_
 have c1:=lk x.me
 have c2:=Ak P x.o h.1 hP
 unfold CX
 by_cases q1:x.mo=0
 ·rw [ar (fun q=>q.1 q1)]
  simp only [go_sem,sY,ay q1]
  refine aa (c1) ?_
  cases vN x.me
  ·simp only [go_sem]
   exact aN [] (by simp only [go_sem];try rfl) (by rfl)
  rw [ar (by decide)]
  by_cases q5:(x.b.length:Int)>4096
  ·rw [av (by omega)]
   simp only [go_sem,bH q5]
   exact aN [] (by simp only [go_sem];try rfl) (by rfl)
  rw [ar (by omega)]
  simp only [go_sem,bF q5]
  refine aa (c2) ?_
  simp only [go_sem]
  exact ak
 by_cases q2:x.mo=1
 rotate_left
 ·rw [av ⟨q1,.inl q2⟩]
  simp only [go_sem,sY,aK q1,aK q2]
  exact aN [] (by simp only [go_sem];try rfl) (by rfl)
 by_cases q3:x.me=0
 rotate_left
 ·rw [av ⟨q1,.inr (.inl q3)⟩]
  simp only [go_sem,sY,aK q1,ay q2,aK q3]
  exact aN [] (by simp only [go_sem];try rfl) (by rfl)
 by_cases q4:(x.o.length:Int)>0
 ·rw [av ⟨q1,.inr (.inr (by omega))⟩]
  simp only [go_sem,sY,aK q1,ay q2,ay q3,bH q4]
  exact aN [] (by simp only [go_sem];try rfl) (by rfl)
 rw [ar (fun q=>by rcases q.2 with z | z | z;exact z q2;exact z q3;omega)]
 simp only [go_sem,sY,aK q1,ay q2,ay q3,bF q4]
 refine aa (c1) ?_
 cases vN x.me
 ·simp only [go_sem]
  exact aN [] (by simp only [go_sem];try rfl) (by rfl)
 rw [ar (by decide)]
 by_cases q5:(x.b.length:Int)>4096
 ·rw [av (by omega)]
  simp only [go_sem,bH q5]
  exact aN [] (by simp only [go_sem];try rfl) (by rfl)
 rw [ar (by omega)]
 simp only [go_sem,bF q5]
 refine aa (c2) ?_
 simp only [go_sem]
 exact ak
def kC (x:Im):Im:=if x.k=0 then ⟨x.m,x.n,x.k,x.f,0,⟨0,0,false⟩,⟨0,0,false⟩,⟨0,false⟩⟩ else if x.k=1 then ⟨x.m,x.n,x.k,0,x.te,x.tl,⟨0,0,false⟩,⟨0,false⟩⟩ else if x.k=2 then ⟨x.m,x.n,x.k,0,0,⟨0,0,false⟩,x.me,⟨0,false⟩⟩ else if x.k=3 then ⟨x.m,x.n,x.k,0,0,⟨0,0,false⟩,⟨0,0,false⟩,x.g⟩ else ⟨x.m,x.n,x.k,0,0,⟨0,0,false⟩,⟨0,0,false⟩,⟨0,false⟩⟩
theorem Us (x:Im):aj Tryz.prog Z3 [.agg (tR x)] (.agg (tR (kC x))):=by
 refine ac (ic:=sX.body) ap XM rfl rfl ?_
 unfold kC
 by_cases q0:x.k=0
 ·rw [av q0]
  simp only [go_sem,sX,aF q0]
  exact aN [] (by simp only [go_sem];try rfl) (by rfl)
 rw [ar q0]
 by_cases q1:x.k=1
 ·rw [av q1]
  simp only [go_sem,sX,ab q0,aF q1]
  exact aN [] (by simp only [go_sem];try rfl) (by rfl)
 rw [ar q1]
 by_cases q2:x.k=2
 ·rw [av q2]
  simp only [go_sem,sX,ab q0,ab q1,aF q2]
  exact aN [] (by simp only [go_sem];try rfl) (by rfl)
 rw [ar q2]
 by_cases q3:x.k=3
 ·rw [av q3]
  simp only [go_sem,sX,ab q0,ab q1,ab q2,aF q3]
  exact aN [] (by simp only [go_sem];try rfl) (by rfl)
 rw [ar q3]
 simp only [go_sem,sX,ab q0,ab q1,ab q2,ab q3]
 exact aN [] (by simp only [go_sem];try rfl) (by rfl)
end
section
def MV (x:Im):Int:=if vO x.m≠0 then vO x.m else if vO x.n≠0 then vO x.n else if x.k<0∨x.k>3∨kC x≠x then 1 else if x.k=1 then Rr ⟨x.te,x.tl⟩ else if x.k=2 then Q_ x.me else if x.k=3 then We x.g else if vN x.f=false then 11 else 0
attribute [local go_sem] bT aY cw df bO b_ kK dy eB dx eS eV dB cD
theorem Zb (x:Im):aj Tryz.prog Zr [.agg (tR x)] (.int .i64 (MV x)):=by
 refine ac (ic:=Gw.body) ap W6 rfl rfl ?_
 have c1:=yj x.m
 have c2:=yj x.n
 have c3:=Us x
 have c4:=Dt ⟨x.te,x.tl⟩
 have c5:=Q8 x.me
 have c6:=KF x.g
 have c7:=lk x.f
 simp only [cw] at c3
 unfold MV
 simp only [go_sem,Gw]
 refine aa (c1) ?_
 by_cases q0:vO x.m=0
 rotate_left
 ·rw [av q0]
  simp only [go_sem,aK q0]
  exact ak
 rw [ar (by simp [q0])]
 simp only [go_sem,ay q0]
 refine aa (c2) ?_
 by_cases q1:vO x.n=0
 rotate_left
 ·rw [av q1]
  simp only [go_sem,aK q1]
  exact ak
 rw [ar (by simp [q1])]
 by_cases q2:x.k<0
 ·rw [av (.inl q2)]
  simp only [go_sem,ay q1,bH q2]
  exact ak
 by_cases q3:x.k>3
 ·rw [av (.inr (.inl q3))]
  simp only [go_sem,ay q1,bF q2,bH q3]
  exact ak
 simp only [go_sem,ay q1,bF q2,bF q3]
 refine bP c3 (by simp [go_sem]) rfl ?_
 by_cases q4:kC x=x
 rotate_left
 ·rw [av (.inr (.inr q4))]
  simp only [go_sem,z8,bF q4,MM]
  exact ak
 rw [ar (fun q=>by rcases q with z | z | z;exact q2 z;exact q3 z;exact z q4)]
 by_cases k1:x.k=1
 ·rw [av k1]
  simp only [go_sem,z8,bH q4,A6,aF k1]
  refine aa (c4) ?_
  simp only [go_sem]
  exact ak
 rw [ar k1]
 by_cases k2:x.k=2
 ·rw [av k2]
  simp only [go_sem,z8,bH q4,A6,ab k1,aF k2]
  refine aa (c5) ?_
  simp only [go_sem]
  exact ak
 rw [ar k2]
 by_cases k3:x.k=3
 ·rw [av k3]
  simp only [go_sem,z8,bH q4,A6,ab k1,ab k2,aF k3]
  refine aa (c6) ?_
  simp only [go_sem]
  exact ak
 rw [ar k3]
 simp only [go_sem,z8,bH q4,A6,ab k1,ab k2,ab k3]
 refine aa (c7) ?_
 cases vN x.f
 ·simp only [go_sem]
  exact aN [] (by simp only [go_sem];try rfl) (by rfl)
 ·simp only [go_sem]
  exact aN [] (by simp only [go_sem];try rfl) (by rfl)
def lT (P:bv→Bool):List (List bv)→Int×Int
 | []=>(0,0)
 | l :: r=>if (fz P l).2≠0 then fz P l else lT P r
theorem AJ {P:bv→Bool} {l:List (List bv)} {i:Nat} (h:i<l.length):lT P (l.drop i)=if (fz P (au l i)).2≠0 then fz P (au l i) else lT P (l.drop (i+1)):=by
 rw [fc h];rfl
def IR (P:bv→Bool) (x:El):Int×Int :=
 if x.mo<0∨x.mo>2∨(x.mo≠0∧(x.tb≠0∨x.o.length>0)) then (0,1) else if vN x.tb=false then (0,11) else if P4 x.ty=false then (0,12) else if x.it.length>256 then (0,6) else lT P (x.o :: x.it)
theorem Uw (P:bv→Bool) (x:El) (h:VG x) (hP:∀y,DQ y→aj Tryz.prog lP [iE y] (.bool (P y))):aj Tryz.prog Z6 [.agg (wU x)] (.tup [.int .i64 (IR P x).1,.int .i64 (IR P x).2]):=by
 refine ac (ic:=qd.body) ap XP rfl rfl ?_
 have c1:=lk x.tb
 have c2:=KS x.ty
 have hR:∀l∈x.o :: x.it,aj Tryz.prog Rd [.sl 9 (l.map cD)] (.tup [.int .i64 (fz P l).1,.int .i64 (fz P l).2]):=fun l hl=>by
  rcases bc.1 hl with rfl | hl
  ·exact Ak P _ h.1 fun y hy=>hP y (h.1.2 y hy)
  ·exact Ak P l (h.2.2 l hl) fun y hy=>hP y ((h.2.2 l hl).2 y hy)
 have hil:=h.2.1
 unfold IR
 by_cases q1:x.mo<0
 ·rw [av (.inl q1)]
  simp only [go_sem,qd,bH q1]
  exact aN [] (by simp only [go_sem];try rfl) (by rfl)
 by_cases q2:x.mo>2
 ·rw [av (.inr (.inl q2))]
  simp only [go_sem,qd,bF q1,bH q2]
  exact aN [] (by simp only [go_sem];try rfl) (by rfl)
 by_cases q3:x.mo=0
 ·rw [ar (fun q=>by rcases q with z | z | z;exact q1 z;exact q2 z;exact z.1 q3)]
  simp only [go_sem,qd,bF q1,bF q2,ay q3]
  refine aa (c1) ?_
  cases vN x.tb
  ·simp only [go_sem]
   exact aN [] (by simp only [go_sem];try rfl) (by rfl)
  rw [ar (by decide)]
  simp only [go_sem]
  refine aa (c2) ?_
  cases P4 x.ty
  ·simp only [go_sem]
   exact aN [] (by simp only [go_sem];try rfl) (by rfl)
  rw [ar (by decide)]
  by_cases q5:(x.it.length:Int)>256
  ·rw [av (by omega)]
   simp only [go_sem,bH q5]
   exact aN [] (by simp only [go_sem];try rfl) (by rfl)
  rw [ar (by omega)]
  obtain ⟨G,hG⟩:∃G,lT P (x.o :: x.it)=G:=⟨_,rfl⟩
  rw [hG]
  have happ:=fun ys=>eQ 50 41 1 1 tS [x.o] ys rfl
  have hlen:(x.o :: x.it).length=1+x.it.length:=by rw [iw];omega
  simp only [cF,List.map_nil,eV] at happ
  simp only [go_sem,bF q5,happ]
  refine ⟨by omega,?_⟩
  generalize hL:x.o :: x.it=L at *
  refine aJ (fun j:Nat=>⟨[(55,.int .i64 j),(54,.int .i64 ((1+x.it.length:Nat):Int)),(53,.ms 50 1 0 (1+x.it.length))],[(50,⟨41,1,L.map tS,false⟩)]⟩) (fun j=>j≤L.length∧G=lT P (L.drop j)) (fun j=>L.length - j) 0 ⟨ef _,hG.symm⟩ (Wk.of ?_ ?_) ?_
  ·simp only [go_sem];try simp
  ·rw [← hL]
   simp only [go_sem];try simp [eV]
  rintro j ⟨hj,hx⟩
  by_cases h1:(j:Int)<((1+x.it.length:Nat):Int)
  rotate_left
  ·rw [bY (by omega)] at hx
   obtain rfl:G=(0,0):=hx
   simp only [go_sem,bF h1]
   exact ak
  have hj':j<L.length:=by omega
  have hj2:j<1+x.it.length:=by omega
  have e8:=ep hj' (by omega)
  rw [AJ hj'] at hx
  have cc:=CO hR hj'
  by_cases hz:(fz P (au L j)).2=0
  rotate_left
  ·rw [av hz] at hx
   subst hx
   simp only [go_sem,bH h1,hj2,hlen]
   refine ⟨by omega,?_⟩
   refine aa (cc) ?_
   simp only [go_sem,aK hz]
   exact ak
  rw [ar (by simp [hz])] at hx
  simp only [go_sem,bH h1,hj2,hlen]
  refine ⟨by omega,?_⟩
  refine aa (cc) ?_
  simp only [go_sem,ay hz]
  refine bA (j+1) ⟨show j+1≤1+x.it.length by omega,hx⟩ (show 1+x.it.length - (j+1)<1+x.it.length - j by omega) (Wk.of ?_ ?_)
  ·simp only [go_sem,e8];try simp
  ·simp only [go_sem];try simp [eV]
 by_cases q4:x.tb=0
 rotate_left
 ·rw [av (.inr (.inr ⟨q3,.inl q4⟩))]
  simp only [go_sem,qd,bF q1,bF q2,aK q3,aK q4]
  exact aN [] (by simp only [go_sem];try rfl) (by rfl)
 by_cases q6:(x.o.length:Int)>0
 ·rw [av (.inr (.inr ⟨q3,.inr (by omega)⟩))]
  simp only [go_sem,qd,bF q1,bF q2,aK q3,ay q4,bH q6]
  exact aN [] (by simp only [go_sem];try rfl) (by rfl)
 rw [ar (fun q=>by rcases q with z | z | z;exact q1 z;exact q2 z;rcases z.2 with y | y;exact y q4;omega)]
 simp only [go_sem,qd,bF q1,bF q2,aK q3,ay q4,bF q6]
 refine aa (c1) ?_
 cases vN x.tb
 ·simp only [go_sem]
  exact aN [] (by simp only [go_sem];try rfl) (by rfl)
 rw [ar (by decide)]
 simp only [go_sem]
 refine aa (c2) ?_
 cases P4 x.ty
 ·simp only [go_sem]
  exact aN [] (by simp only [go_sem];try rfl) (by rfl)
 rw [ar (by decide)]
 by_cases q5:(x.it.length:Int)>256
 ·rw [av (by omega)]
  simp only [go_sem,bH q5]
  exact aN [] (by simp only [go_sem];try rfl) (by rfl)
 rw [ar (by omega)]
 obtain ⟨G,hG⟩:∃G,lT P (x.o :: x.it)=G:=⟨_,rfl⟩
 rw [hG]
 have happ:=fun ys=>eQ 50 41 1 1 tS [x.o] ys rfl
 have hlen:(x.o :: x.it).length=1+x.it.length:=by rw [iw];omega
 simp only [cF,List.map_nil,eV] at happ
 simp only [go_sem,bF q5,happ]
 refine ⟨by omega,?_⟩
 generalize hL:x.o :: x.it=L at *
 refine aJ (fun j:Nat=>⟨[(55,.int .i64 j),(54,.int .i64 ((1+x.it.length:Nat):Int)),(53,.ms 50 1 0 (1+x.it.length))],[(50,⟨41,1,L.map tS,false⟩)]⟩) (fun j=>j≤L.length∧G=lT P (L.drop j)) (fun j=>L.length - j) 0 ⟨ef _,hG.symm⟩ (Wk.of ?_ ?_) ?_
 ·simp only [go_sem];try simp
 ·rw [← hL]
  simp only [go_sem];try simp [eV]
 rintro j ⟨hj,hx⟩
 by_cases h1:(j:Int)<((1+x.it.length:Nat):Int)
 rotate_left
 ·rw [bY (by omega)] at hx
  obtain rfl:G=(0,0):=hx
  simp only [go_sem,bF h1]
  exact ak
 have hj':j<L.length:=by omega
 have hj2:j<1+x.it.length:=by omega
 have e8:=ep hj' (by omega)
 rw [AJ hj'] at hx
 have cc:=CO hR hj'
 by_cases hz:(fz P (au L j)).2=0
 rotate_left
 ·rw [av hz] at hx
  subst hx
  simp only [go_sem,bH h1,hj2,hlen]
  refine ⟨by omega,?_⟩
  refine aa (cc) ?_
  simp only [go_sem,aK hz]
  exact ak
 rw [ar (by simp [hz])] at hx
 simp only [go_sem,bH h1,hj2,hlen]
 refine ⟨by omega,?_⟩
 refine aa (cc) ?_
 simp only [go_sem,ay hz]
 refine bA (j+1) ⟨show j+1≤1+x.it.length by omega,hx⟩ (show 1+x.it.length - (j+1)<1+x.it.length - j by omega) (Wk.of ?_ ?_)
 ·simp only [go_sem,e8];try simp
 ·simp only [go_sem];try simp [eV]
end
section
attribute [local go_sem] bT aY cw df bO b_ kK dy eB dx eS cD
theorem k_1 (i:Int) (x:Ft) (h:smF x):aj Tryz.prog aaF [.int .i64 i,.agg (jp x)] (.tup [.int .i64 0,.int .i64 (MT x)]):=by
 refine ac (ic:=Sw.body) ap adD rfl rfl ?_
 have c:=Za x h
 try simp only [aY,cw,df,bO,b_,dy,dx] at c
 simp only [go_sem,Sw]
 refine aa (c) ?_
 simp only [go_sem]
 exact ak
theorem k_2 (i:Int) (x:Im):aj Tryz.prog aaG [.int .i64 i,.agg (tR x)] (.tup [.int .i64 0,.int .i64 (MV x)]):=by
 refine ac (ic:=Sx.body) ap adE rfl rfl ?_
 have c:=Zb x
 try simp only [aY,cw,df,bO,b_,dy,dx] at c
 simp only [go_sem,Sx]
 refine aa (c) ?_
 simp only [go_sem]
 exact ak
theorem k_3 (i:Int) (x:Cd) (h:Qj x):aj Tryz.prog aaH [.int .i64 i,.agg (lB x)] (.tup [.int .i64 0,.int .i64 (MP x)]):=by
 refine ac (ic:=Sy.body) ap adF rfl rfl ?_
 have c:=Ut x h
 try simp only [aY,cw,df,bO,b_,dy,dx] at c
 simp only [go_sem,Sy]
 refine aa (c) ?_
 simp only [go_sem]
 exact ak
theorem k_4 (i:Int) (x:Tb):aj Tryz.prog aaI [.int .i64 i,.agg (ow x)] (.tup [.int .i64 0,.int .i64 (Rr x)]):=by
 refine ac (ic:=Sz.body) ap adG rfl rfl ?_
 have c:=Dt x
 try simp only [aY,cw,df,bO,b_,dy,dx] at c
 simp only [go_sem,Sz]
 refine aa (c) ?_
 simp only [go_sem]
 exact ak
theorem k_5 (i:Int) (x:Lm):aj Tryz.prog aaJ [.int .i64 i,.agg (nJ x)] (.tup [.int .i64 0,.int .i64 (Q_ x)]):=by
 refine ac (ic:=SA.body) ap adH rfl rfl ?_
 have c:=Q8 x
 try simp only [aY,cw,df,bO,b_,dy,dx] at c
 simp only [go_sem,SA]
 refine aa (c) ?_
 simp only [go_sem]
 exact ak
theorem k_7 (i:Int) (x:Ex):aj Tryz.prog aaL [.int .i64 i,.agg (A7 x)] (.tup [.int .i64 0,.int .i64 (TM x)]):=by
 refine ac (ic:=SC.body) ap adJ rfl rfl ?_
 have c:=KE x
 try simp only [aY,cw,df,bO,b_,dy,dx] at c
 simp only [go_sem,SC]
 refine aa (c) ?_
 simp only [go_sem]
 exact ak
theorem aek (i:Int) (x:Cu):aj Tryz.prog aaD [.int .i64 i,.agg (zK x)] (.tup [.int .i64 0,.int .i64 (Gm x)]):=by
 refine ac (ic:=Ss.body) ap adz rfl rfl ?_
 have c:=KD x
 try simp only [aY,cw,df,bO,b_,dy,dx] at c
 simp only [go_sem,Ss]
 refine aa (c) ?_
 simp only [go_sem]
 exact ak
theorem k_8 (P:bv→Bool) (i:Int) (x:El) (h:VG x) (hP:∀y,DQ y→aj Tryz.prog lP [iE y] (.bool (P y))):aj Tryz.prog aaM [.int .i64 i,.agg (wU x)] (.tup [.int .i64 (IR P x).1,.int .i64 (IR P x).2]):=by
 refine ac (ic:=SD.body) ap adK rfl rfl ?_
 have c:=Uw P x h hP
 try simp only [eS,eB] at c
 simp only [go_sem,SD]
 refine aa (c) ?_
 simp only [go_sem]
 exact ak
theorem k_9 (P:bv→Bool) (i:Int) (x:Da) (h:VF x) (hP:∀y,DQ y→aj Tryz.prog lP [iE y] (.bool (P y))):aj Tryz.prog aaN [.int .i64 i,.agg (x5 x)] (.tup [.int .i64 (CX P x).1,.int .i64 (CX P x).2]):=by
 refine ac (ic:=SE.body) ap adL rfl rfl ?_
 have c:=Uv P x h fun y hy=>hP y (h.1.2 y hy)
 try simp only [eS,eB] at c
 simp only [go_sem,SE]
 refine aa (c) ?_
 simp only [go_sem]
 exact ak
theorem ael (P:bv→Bool) (i:Int) (x:Cd) (h:Qj x) (hP:∀y,DQ y→aj Tryz.prog lP [iE y] (.bool (P y))):aj Tryz.prog aaE [.int .i64 i,.agg (lB x)] (.tup [.int .i64 (fz P x.b).1,.int .i64 (fz P x.b).2]):=by
 refine ac (ic:=Su.body) ap adA rfl rfl ?_
 have c:=Ak P x.b h.2 fun y hy=>hP y (h.2.2 y hy)
 try simp only [eS,eB] at c
 simp only [go_sem,Su]
 refine aa (c) ?_
 simp only [go_sem]
 exact ak
def Oj (P:bv→Bool) (x:Gd):Int×Int:=if We x.g≠0 then (0,We x.g) else fz P x.i
theorem k_6 (P:bv→Bool) (i:Int) (x:Gd) (h:abp x) (hP:∀y,DQ y→aj Tryz.prog lP [iE y] (.bool (P y))):aj Tryz.prog aaK [.int .i64 i,.agg (BD x)] (.tup [.int .i64 (Oj P x).1,.int .i64 (Oj P x).2]):=by
 refine ac (ic:=SB.body) ap adI rfl rfl ?_
 have c:=KF x.g
 have d:=Ak P x.i h fun y hy=>hP y (h.2 y hy)
 unfold Oj
 simp only [go_sem,SB]
 refine aa (c) ?_
 by_cases q:We x.g=0
 ·rw [ar (by simp [q])]
  simp only [go_sem,ay q]
  refine aa (d) ?_
  simp only [go_sem]
  exact ak
 ·rw [av q]
  simp only [go_sem,aK q]
  exact ak
def li (k:Int) (l:List Im):Nat:=(l.filter fun x=>x.k==k).length
theorem Tk {k:Int} {l:List Im} {i:Nat} (h:i<l.length):li k (l.take (i+1))=li k (l.take i)+(if (au l i).k=k then 1 else 0):=by
 unfold li
 rw [Cj h,List.filter_append,ee]
 by_cases q:(au l i).k=k<;>simp [q]
theorem tf (k:Int) (l:List Im):li k l≤l.length:=List.length_filter_le _ _
def ctO (m:Md) (i:Nat):ah:=⟨90,4,[[.int .i64 (li 0 (m.ims.take i):Nat),.int .i64 (li 1 (m.ims.take i):Nat),.int .i64 (li 2 (m.ims.take i):Nat),.int .i64 (li 3 (m.ims.take i):Nat)]],true⟩
end
section
def Q6:Fa:=⟨0,0,0,0⟩
def Y2 (m:Md):Fa:=cE 1 64 0 (m.ts.map (fun x=>(0,MT x))) Q6
def Y3 (m:Md):Fa:=cE 2 32 0 (m.ims.map (fun x=>(0,MV x))) (Y2 m)
def Y4 (m:Md):Fa:=cE 3 64 (li 0 m.ims:Nat) (m.fs.map (fun x=>(0,MP x))) (Y3 m)
def Y6 (m:Md):Fa:=cE 4 4 (li 1 m.ims:Nat) (m.tbs.map (fun x=>(0,Rr x))) (Y4 m)
def Y7 (m:Md):Fa:=cE 5 2 (li 2 m.ims:Nat) (m.ms.map (fun x=>(0,Q_ x))) (Y6 m)
def Y8 (P:bv→Bool) (m:Md):Fa:=cE 6 32 (li 3 m.ims:Nat) (m.gs.map (Oj P)) (Y7 m)
def Gp (P:bv→Bool) (m:Md):Fa:=cE 7 64 0 (m.exs.map (fun x=>(0,TM x))) (Y8 P m)
def BQ (P:bv→Bool) (m:Md):Fa:=if m.hs=true∧vN m.st=false then dh (Gp P m) 8 0 0 11 else Gp P m
def Uq (P:bv→Bool) (m:Md):Fa:=cE 9 16 0 (m.els.map (IR P)) (BQ P m)
def Ai (P:bv→Bool) (m:Md):Fa:=cE 10 16 0 (m.ds.map (CX P)) (Uq P m)
def jx (P:bv→Bool) (m:Md):Fa:=cE 11 8 0 (m.cs.map (fun x=>(0,Gm x))) (Ai P m)
def iF (P:bv→Bool) (m:Md):Fa:=if (jx P m).c=0 then cE 12 (m.fs.length:Int) 0 (m.fs.map (fun x=>fz P x.b)) (jx P m) else jx P m
attribute [local go_sem] bT bM cw ck ctO
theorem KG (P:bv→Bool) (m:Md) (h:ol m) (hP:∀y,DQ y→aj Tryz.prog lP [iE y] (.bool (P y))):aj Tryz.prog ZE [gY m] (.agg [.int .i64 (iF P m).p,.int .i64 (iF P m).i,.int .i64 (iF P m).l,.int .i64 (iF P m).c]):=by
 refine ac (ic:=GH.body) ap Xk rfl rfl ?_
 have c1:CM aav [.int .i64 1,.sl 2 (m.ts.map jp),.int .i64 64,.int .i64 0,.fn aaF []] Q6 (Y2 m):=KN (by kernel_rfl) (fun x=>(0,MT x)) m.ts (by have:=h.ts.1;omega) (fun x hx i=>k_1 i x (h.ts.2 x hx)) 1 64 0 Q6
 have c2:CM aaq [.int .i64 2,.sl 13 (m.ims.map tR),.int .i64 32,.int .i64 0,.fn aaG []] (Y2 m) (Y3 m):=KP (by kernel_rfl) (fun x=>(0,MV x)) m.ims (by have:=h.ims;omega) (fun x hx i=>k_2 i x) 2 32 0 (Y2 m)
 have c3:CM UC [.int .i64 3,.sl 3 (m.fs.map lB),.int .i64 64,.int .i64 (li 0 m.ims:Nat),.fn aaH []] (Y3 m) (Y4 m):=Aj (by kernel_rfl) (fun x=>(0,MP x)) m.fs (by have:=h.fs.1;omega) (fun x hx i=>k_3 i x (h.fs.2 x hx)) 3 64 (li 0 m.ims:Nat) (Y3 m)
 have c4:CM aas [.int .i64 4,.sl 4 (m.tbs.map ow),.int .i64 4,.int .i64 (li 1 m.ims:Nat),.fn aaI []] (Y4 m) (Y6 m):=KR (by kernel_rfl) (fun x=>(0,Rr x)) m.tbs (by have:=h.tbs;omega) (fun x hx i=>k_4 i x) 4 4 (li 1 m.ims:Nat) (Y4 m)
 have c5:CM aar [.int .i64 5,.sl 3 (m.ms.map nJ),.int .i64 2,.int .i64 (li 2 m.ims:Nat),.fn aaJ []] (Y6 m) (Y7 m):=KQ (by kernel_rfl) (fun x=>(0,Q_ x)) m.ms (by have:=h.ms;omega) (fun x hx i=>k_5 i x) 5 2 (li 2 m.ims:Nat) (Y6 m)
 have c6:CM nX4 [.int .i64 6,.sl 3 (m.gs.map BD),.int .i64 32,.int .i64 (li 3 m.ims:Nat),.fn aaK []] (Y7 m) (Y8 P m):=KO (by kernel_rfl) (Oj P) m.gs (by have:=h.gs.1;omega) (fun x hx i=>k_6 P i x (h.gs.2 x hx) hP) 6 32 (li 3 m.ims:Nat) (Y7 m)
 have c7:CM aap [.int .i64 7,.sl 3 (m.exs.map A7),.int .i64 64,.int .i64 0,.fn aaL []] (Y8 P m) (Gp P m):=KM (by kernel_rfl) (fun x=>(0,TM x)) m.exs (by have:=h.exs;omega) (fun x hx i=>k_7 i x) 7 64 0 (Y8 P m)
 have c9:CM aau [.int .i64 9,.sl 5 (m.els.map wU),.int .i64 16,.int .i64 0,.fn aaM []] (BQ P m) (Uq P m):=KL (by kernel_rfl) (IR P) m.els (by have:=h.els.1;omega) (fun x hx i=>k_8 P i x (h.els.2 x hx) hP) 9 16 0 (BQ P m)
 have c10:CM aat [.int .i64 10,.sl 4 (m.ds.map x5),.int .i64 16,.int .i64 0,.fn aaN []] (Uq P m) (Ai P m):=KJ (by kernel_rfl) (CX P) m.ds (by have:=h.ds.1;omega) (fun x hx i=>k_9 P i x (h.ds.2 x hx) hP) 10 16 0 (Uq P m)
 have c11:CM aal [.int .i64 11,.sl 3 (m.cs.map zK),.int .i64 8,.int .i64 0,.fn aaD []] (Ai P m) (jx P m):=KI (by kernel_rfl) (fun x=>(0,Gm x)) m.cs (by have:=h.cs.1;omega) (fun x hx i=>aek i x) 11 8 0 (Ai P m)
 have c8:=lk m.st
 have c12:CM UC [.int .i64 12,.sl 3 (m.fs.map lB),.int .i64 (m.fs.length:Int),.int .i64 0,.fn aaE []] (jx P m) (cE 12 (m.fs.length:Int) 0 (m.fs.map (fun x=>fz P x.b)) (jx P m)):=Aj (by kernel_rfl) (fun x=>fz P x.b) m.fs (by have:=h.fs.1;omega) (fun x hx i=>ael P i x (h.fs.2 x hx) hP) 12 (m.fs.length:Int) 0 (jx P m)
 simp only [go_sem,GH,gY]
 refine aJ (fun j:Nat=>⟨[(13,.int .i64 j),(12,.int .i64 m.ims.length),(11,.sl 13 (m.ims.map tR)),(3,.mp 8 4 0 0),(4,.mp 4 4 0 0),(2,.mp 2 4 0 0),(1,.mp 1 12 0 0)],[(8,ck Q6),(4,ctO m j),(2,⟨38,4,[[.int .i64 0,.int .i64 0,.int .i64 0,.int .i64 0]],true⟩),(1,⟨33,12,[qF m],true⟩)]⟩) (fun j=>j≤m.ims.length) (fun j=>m.ims.length - j) 0 (ef _) (Wk.of ?_ ?_) ?_
 ·simp only [go_sem];try simp
 ·simp only [go_sem,gN,li,Q6];try simp
 intro j hj
 by_cases h1:(j:Int)<(m.ims.length:Int)
 ·have hj':j<m.ims.length:=by omega
  have hil:=h.ims
  have e8:=ep hj' (by omega)
  have t:=fun k=>Tk (k:=k) hj'
  have hle:=fun k=>eJ (tf k (m.ims.take j)) (by rw [sw];omega:(m.ims.take j).length≤j)
  have w:=fun k:Int=>(by have:=hle k;rw [wi (by omega) (by omega)];omega:IntKind.i64.wrap ((li k (m.ims.take j):Int)+1)=((li k (m.ims.take j)+1:Nat):Int))
  by_cases q0:(au m.ims j).k=0
  ·simp only [go_sem,bH h1,q0,show decide ((0:Int)≥0)=true from rfl,show decide ((0:Int)≤3)=true from rfl,Nat.mul_one,Int.toNat_zero,Int.toNat_one,Int.reduceToNat,Nat.reduceMul,Nat.reduceAdd]
   refine ⟨by omega,h1,⟨by omega,by omega⟩,⟨by omega,by omega⟩,bA (j+1) (show j+1≤m.ims.length by omega) (show m.ims.length - (j+1)<m.ims.length - j by omega) (Wk.of ?_ ?_)⟩
   ·simp only [go_sem,e8];try simp
   ·simp only [go_sem];try simp [t,q0,w]
  by_cases q1:(au m.ims j).k=1
  ·simp only [go_sem,bH h1,q1,show decide ((1:Int)≥0)=true from rfl,show decide ((1:Int)≤3)=true from rfl,Nat.mul_one,Int.toNat_zero,Int.toNat_one,Int.reduceToNat,Nat.reduceMul,Nat.reduceAdd]
   refine ⟨by omega,h1,⟨by omega,by omega⟩,⟨by omega,by omega⟩,bA (j+1) (show j+1≤m.ims.length by omega) (show m.ims.length - (j+1)<m.ims.length - j by omega) (Wk.of ?_ ?_)⟩
   ·simp only [go_sem,e8];try simp
   ·simp only [go_sem];try simp [t,q1,w]
  by_cases q2:(au m.ims j).k=2
  ·simp only [go_sem,bH h1,q2,show decide ((2:Int)≥0)=true from rfl,show decide ((2:Int)≤3)=true from rfl,Nat.mul_one,Int.toNat_zero,Int.toNat_one,Int.reduceToNat,Nat.reduceMul,Nat.reduceAdd]
   refine ⟨by omega,h1,⟨by omega,by omega⟩,⟨by omega,by omega⟩,bA (j+1) (show j+1≤m.ims.length by omega) (show m.ims.length - (j+1)<m.ims.length - j by omega) (Wk.of ?_ ?_)⟩
   ·simp only [go_sem,e8];try simp
   ·simp only [go_sem];try simp [t,q2,w]
  by_cases q3:(au m.ims j).k=3
  ·simp only [go_sem,bH h1,q3,show decide ((3:Int)≥0)=true from rfl,show decide ((3:Int)≤3)=true from rfl,Nat.mul_one,Int.toNat_zero,Int.toNat_one,Int.reduceToNat,Nat.reduceMul,Nat.reduceAdd]
   refine ⟨by omega,h1,⟨by omega,by omega⟩,⟨by omega,by omega⟩,bA (j+1) (show j+1≤m.ims.length by omega) (show m.ims.length - (j+1)<m.ims.length - j by omega) (Wk.of ?_ ?_)⟩
   ·simp only [go_sem,e8];try simp
   ·simp only [go_sem];try simp [t,q3,w]
  by_cases q5:(au m.ims j).k≥0
  ·simp only [go_sem,bH h1,bH q5,bF (show ¬(au m.ims j).k≤3 by omega)]
   refine ⟨by omega,h1,bA (j+1) (show j+1≤m.ims.length by omega) (show m.ims.length - (j+1)<m.ims.length - j by omega) (Wk.of ?_ ?_)⟩
   ·simp only [go_sem,e8];try simp
   ·simp only [go_sem];try simp [t,q0,q1,q2,q3]
  ·simp only [go_sem,bH h1,bF q5]
   refine ⟨by omega,h1,bA (j+1) (show j+1≤m.ims.length by omega) (show m.ims.length - (j+1)<m.ims.length - j by omega) (Wk.of ?_ ?_)⟩
   ·simp only [go_sem,e8];try simp
   ·simp only [go_sem];try simp [t,q0,q1,q2,q3]
 obtain rfl:j=m.ims.length:=by omega
 simp only [go_sem,bF h1,og]
 refine cz (c1) ?_
 simp only [go_sem,Nat.mul_one,Int.toNat_zero,Int.toNat_one,Int.reduceToNat,Nat.reduceMul,Nat.reduceAdd]
 refine cz (c2) ?_
 simp only [go_sem,Nat.mul_one,Int.toNat_zero,Int.toNat_one,Int.reduceToNat,Nat.reduceMul,Nat.reduceAdd]
 refine ⟨⟨by omega,by omega⟩,?_⟩
 refine cz (c3) ?_
 simp only [go_sem,Nat.mul_one,Int.toNat_zero,Int.toNat_one,Int.reduceToNat,Nat.reduceMul,Nat.reduceAdd]
 refine ⟨⟨by omega,by omega⟩,?_⟩
 refine cz (c4) ?_
 simp only [go_sem,Nat.mul_one,Int.toNat_zero,Int.toNat_one,Int.reduceToNat,Nat.reduceMul,Nat.reduceAdd]
 refine ⟨⟨by omega,by omega⟩,?_⟩
 refine cz (c5) ?_
 simp only [go_sem,Nat.mul_one,Int.toNat_zero,Int.toNat_one,Int.reduceToNat,Nat.reduceMul,Nat.reduceAdd]
 refine ⟨⟨by omega,by omega⟩,?_⟩
 refine cz (c6) ?_
 simp only [go_sem,Nat.mul_one,Int.toNat_zero,Int.toNat_one,Int.reduceToNat,Nat.reduceMul,Nat.reduceAdd]
 refine cz (c7) ?_
 simp only [go_sem,Nat.mul_one,Int.toNat_zero,Int.toNat_one,Int.reduceToNat,Nat.reduceMul,Nat.reduceAdd]
 cases hh:m.hs
 ·rw [show BQ P m=Gp P m by unfold BQ;rw [hh,ar (by simp)]] at c9
  simp only [go_sem,hh]
  refine cz (c9) ?_
  simp only [go_sem]
  refine cz (c10) ?_
  simp only [go_sem]
  refine cz (c11) ?_
  simp only [go_sem]
  unfold iF
  by_cases z:(jx P m).c=0
  ·rw [av z]
   simp only [go_sem,aF z]
   refine cz (c12) ?_
   simp only [go_sem]
   exact ak
  ·rw [ar z]
   simp only [go_sem,ab z]
   exact ak
 simp only [go_sem,hh]
 refine aa (c8) ?_
 cases hi:vN m.st
 ·have cf:=BR (Gp P m) 8 0 0 11
  rw [show dh (Gp P m) 8 0 0 11=BQ P m by unfold BQ;rw [hh,hi,av ⟨rfl,rfl⟩]] at cf
  simp only [go_sem]
  refine cz (cf) ?_
  simp only [go_sem]
  refine cz (c9) ?_
  simp only [go_sem]
  refine cz (c10) ?_
  simp only [go_sem]
  refine cz (c11) ?_
  simp only [go_sem]
  unfold iF
  by_cases z:(jx P m).c=0
  ·rw [av z]
   simp only [go_sem,aF z]
   refine cz (c12) ?_
   simp only [go_sem]
   exact ak
  ·rw [ar z]
   simp only [go_sem,ab z]
   exact ak
 ·rw [show BQ P m=Gp P m by unfold BQ;rw [hi,ar (by simp)]] at c9
  simp only [go_sem]
  refine cz (c9) ?_
  simp only [go_sem]
  refine cz (c10) ?_
  simp only [go_sem]
  refine cz (c11) ?_
  simp only [go_sem]
  unfold iF
  by_cases z:(jx P m).c=0
  ·rw [av z]
   simp only [go_sem,aF z]
   refine cz (c12) ?_
   simp only [go_sem]
   exact ak
  ·rw [ar z]
   simp only [go_sem,ab z]
   exact ak
end
structure Hr where
 f:Int
 h:List UInt8
 t:List UInt8
structure Oc where
 op:Int
 nm:List UInt8
 im:Int
def T1 (r:Hr):List AV:=[.int .i64 r.f,.str r.h,.str r.t]
def oc_ (r:Oc):List AV:=[.int .i64 r.op,.str r.nm,.int .i64 r.im]
theorem aaY (r:Oc):oc_ r=[.int .i64 r.op,.str r.nm,.int .i64 r.im]:=rfl
instance:Inhabited Hr:=⟨⟨0,[],[]⟩⟩
instance:Inhabited Oc:=⟨⟨0,[],0⟩⟩
def HR:List Hr:=[⟨0,[],[117,110,114,101,97,99,104,97,98,108,101,32,110,111,112,32,98,108,111,99,107,32,108,111,111,112,32,105,102,32,101,108,115,101]⟩,
 ⟨11,[],[101,110,100,32,98,114,32,98,114,95,105,102,32,98,114,95,116,97,98,108,101,32,114,101,116,117,114,110,32,99,97,108,108,32,99,97,108,108,95,105,110,100,105,114,101,99,116]⟩,
 ⟨26,[],[100,114,111,112,32,115,101,108,101,99,116,32,115,101,108,101,99,116]⟩,
 ⟨32,[108,111,99,97,108,46],[103,101,116,32,115,101,116,32,116,101,101]⟩,
 ⟨35,[103,108,111,98,97,108,46],[103,101,116,32,115,101,116]⟩,
 ⟨37,[116,97,98,108,101,46],[103,101,116,32,115,101,116]⟩,
 ⟨40,[],[105,51,50,46,108,111,97,100,32,105,54,52,46,108,111,97,100]⟩,
 ⟨44,[105,51,50,46],[108,111,97,100,56,95,115,32,108,111,97,100,56,95,117,32,108,111,97,100,49,54,95,115,32,108,111,97,100,49,54,95,117]⟩,
 ⟨48,[105,54,52,46],[108,111,97,100,56,95,115,32,108,111,97,100,56,95,117,32,108,111,97,100,49,54,95,115,32,108,111,97,100,49,54,95,117,32,108,111,97,100,51,50,95,115,32,108,111,97,100,51,50,95,117]⟩,
 ⟨54,[],[105,51,50,46,115,116,111,114,101,32,105,54,52,46,115,116,111,114,101]⟩,
 ⟨58,[105,51,50,46],[115,116,111,114,101,56,32,115,116,111,114,101,49,54]⟩,
 ⟨60,[105,54,52,46],[115,116,111,114,101,56,32,115,116,111,114,101,49,54,32,115,116,111,114,101,51,50]⟩,
 ⟨63,[109,101,109,111,114,121,46],[115,105,122,101,32,103,114,111,119]⟩,
 ⟨65,[],[105,51,50,46,99,111,110,115,116,32,105,54,52,46,99,111,110,115,116]⟩,
 ⟨69,[105,51,50,46],[101,113,122,32,101,113,32,110,101,32,108,116,95,115,32,108,116,95,117,32,103,116,95,115,32,103,116,95,117,32,108,101,95,115,32,108,101,95,117,32,103,101,95,115,32,103,101,95,117]⟩,
 ⟨80,[105,54,52,46],[101,113,122,32,101,113,32,110,101,32,108,116,95,115,32,108,116,95,117,32,103,116,95,115,32,103,116,95,117,32,108,101,95,115,32,108,101,95,117,32,103,101,95,115,32,103,101,95,117]⟩,
 ⟨103,[105,51,50,46],[99,108,122,32,99,116,122,32,112,111,112,99,110,116,32,97,100,100,32,115,117,98,32,109,117,108,32,100,105,118,95,115,32,100,105,118,95,117,32,114,101,109,95,115,32,114,101,109,95,117,32,97,110,100,32,111,114,32,120,111,114,32,115,104,108,32,115,104,114,95,115,32,115,104,114,95,117,32,114,111,116,108,32,114,111,116,114]⟩,
 ⟨121,[105,54,52,46],[99,108,122,32,99,116,122,32,112,111,112,99,110,116,32,97,100,100,32,115,117,98,32,109,117,108,32,100,105,118,95,115,32,100,105,118,95,117,32,114,101,109,95,115,32,114,101,109,95,117,32,97,110,100,32,111,114,32,120,111,114,32,115,104,108,32,115,104,114,95,115,32,115,104,114,95,117,32,114,111,116,108,32,114,111,116,114]⟩,
 ⟨167,[],[105,51,50,46,119,114,97,112,95,105,54,52]⟩,
 ⟨172,[105,54,52,46],[101,120,116,101,110,100,95,105,51,50,95,115,32,101,120,116,101,110,100,95,105,51,50,95,117]⟩,
 ⟨192,[105,51,50,46],[101,120,116,101,110,100,56,95,115,32,101,120,116,101,110,100,49,54,95,115]⟩,
 ⟨194,[105,54,52,46],[101,120,116,101,110,100,56,95,115,32,101,120,116,101,110,100,49,54,95,115,32,101,120,116,101,110,100,51,50,95,115]⟩,
 ⟨208,[114,101,102,46],[110,117,108,108,32,105,115,95,110,117,108,108,32,102,117,110,99]⟩,
 ⟨64520,[],[109,101,109,111,114,121,46,105,110,105,116,32,100,97,116,97,46,100,114,111,112,32,109,101,109,111,114,121,46,99,111,112,121,32,109,101,109,111,114,121,46,102,105,108,108,32,116,97,98,108,101,46,105,110,105,116,32,101,108,101,109,46,100,114,111,112,32,116,97,98,108,101,46,99,111,112,121,32,116,97,98,108,101,46,103,114,111,119,32,116,97,98,108,101,46,115,105,122,101,32,116,97,98,108,101,46,102,105,108,108]⟩]
def OC:List Oc:=[⟨0,[117,110,114,101,97,99,104,97,98,108,101],0⟩,
 ⟨1,[110,111,112],0⟩,
 ⟨2,[98,108,111,99,107],1⟩,
 ⟨3,[108,111,111,112],1⟩,
 ⟨4,[105,102],1⟩,
 ⟨5,[101,108,115,101],0⟩,
 ⟨11,[101,110,100],0⟩,
 ⟨12,[98,114],2⟩,
 ⟨13,[98,114,95,105,102],2⟩,
 ⟨14,[98,114,95,116,97,98,108,101],3⟩,
 ⟨15,[114,101,116,117,114,110],0⟩,
 ⟨16,[99,97,108,108],4⟩,
 ⟨17,[99,97,108,108,95,105,110,100,105,114,101,99,116],5⟩,
 ⟨26,[100,114,111,112],0⟩,
 ⟨27,[115,101,108,101,99,116],0⟩,
 ⟨28,[115,101,108,101,99,116],6⟩,
 ⟨32,[108,111,99,97,108,46,103,101,116],7⟩,
 ⟨33,[108,111,99,97,108,46,115,101,116],7⟩,
 ⟨34,[108,111,99,97,108,46,116,101,101],7⟩,
 ⟨35,[103,108,111,98,97,108,46,103,101,116],8⟩,
 ⟨36,[103,108,111,98,97,108,46,115,101,116],8⟩,
 ⟨37,[116,97,98,108,101,46,103,101,116],9⟩,
 ⟨38,[116,97,98,108,101,46,115,101,116],9⟩,
 ⟨40,[105,51,50,46,108,111,97,100],17⟩,
 ⟨41,[105,54,52,46,108,111,97,100],17⟩,
 ⟨44,[105,51,50,46,108,111,97,100,56,95,115],17⟩,
 ⟨45,[105,51,50,46,108,111,97,100,56,95,117],17⟩,
 ⟨46,[105,51,50,46,108,111,97,100,49,54,95,115],17⟩,
 ⟨47,[105,51,50,46,108,111,97,100,49,54,95,117],17⟩,
 ⟨48,[105,54,52,46,108,111,97,100,56,95,115],17⟩,
 ⟨49,[105,54,52,46,108,111,97,100,56,95,117],17⟩,
 ⟨50,[105,54,52,46,108,111,97,100,49,54,95,115],17⟩,
 ⟨51,[105,54,52,46,108,111,97,100,49,54,95,117],17⟩,
 ⟨52,[105,54,52,46,108,111,97,100,51,50,95,115],17⟩,
 ⟨53,[105,54,52,46,108,111,97,100,51,50,95,117],17⟩,
 ⟨54,[105,51,50,46,115,116,111,114,101],17⟩,
 ⟨55,[105,54,52,46,115,116,111,114,101],17⟩,
 ⟨58,[105,51,50,46,115,116,111,114,101,56],17⟩,
 ⟨59,[105,51,50,46,115,116,111,114,101,49,54],17⟩,
 ⟨60,[105,54,52,46,115,116,111,114,101,56],17⟩,
 ⟨61,[105,54,52,46,115,116,111,114,101,49,54],17⟩,
 ⟨62,[105,54,52,46,115,116,111,114,101,51,50],17⟩,
 ⟨63,[109,101,109,111,114,121,46,115,105,122,101],13⟩,
 ⟨64,[109,101,109,111,114,121,46,103,114,111,119],13⟩,
 ⟨65,[105,51,50,46,99,111,110,115,116],18⟩,
 ⟨66,[105,54,52,46,99,111,110,115,116],19⟩,
 ⟨69,[105,51,50,46,101,113,122],0⟩,
 ⟨70,[105,51,50,46,101,113],0⟩,
 ⟨71,[105,51,50,46,110,101],0⟩,
 ⟨72,[105,51,50,46,108,116,95,115],0⟩,
 ⟨73,[105,51,50,46,108,116,95,117],0⟩,
 ⟨74,[105,51,50,46,103,116,95,115],0⟩,
 ⟨75,[105,51,50,46,103,116,95,117],0⟩,
 ⟨76,[105,51,50,46,108,101,95,115],0⟩,
 ⟨77,[105,51,50,46,108,101,95,117],0⟩,
 ⟨78,[105,51,50,46,103,101,95,115],0⟩,
 ⟨79,[105,51,50,46,103,101,95,117],0⟩,
 ⟨80,[105,54,52,46,101,113,122],0⟩,
 ⟨81,[105,54,52,46,101,113],0⟩,
 ⟨82,[105,54,52,46,110,101],0⟩,
 ⟨83,[105,54,52,46,108,116,95,115],0⟩,
 ⟨84,[105,54,52,46,108,116,95,117],0⟩,
 ⟨85,[105,54,52,46,103,116,95,115],0⟩,
 ⟨86,[105,54,52,46,103,116,95,117],0⟩,
 ⟨87,[105,54,52,46,108,101,95,115],0⟩,
 ⟨88,[105,54,52,46,108,101,95,117],0⟩,
 ⟨89,[105,54,52,46,103,101,95,115],0⟩,
 ⟨90,[105,54,52,46,103,101,95,117],0⟩,
 ⟨103,[105,51,50,46,99,108,122],0⟩,
 ⟨104,[105,51,50,46,99,116,122],0⟩,
 ⟨105,[105,51,50,46,112,111,112,99,110,116],0⟩,
 ⟨106,[105,51,50,46,97,100,100],0⟩,
 ⟨107,[105,51,50,46,115,117,98],0⟩,
 ⟨108,[105,51,50,46,109,117,108],0⟩,
 ⟨109,[105,51,50,46,100,105,118,95,115],0⟩,
 ⟨110,[105,51,50,46,100,105,118,95,117],0⟩,
 ⟨111,[105,51,50,46,114,101,109,95,115],0⟩,
 ⟨112,[105,51,50,46,114,101,109,95,117],0⟩,
 ⟨113,[105,51,50,46,97,110,100],0⟩,
 ⟨114,[105,51,50,46,111,114],0⟩,
 ⟨115,[105,51,50,46,120,111,114],0⟩,
 ⟨116,[105,51,50,46,115,104,108],0⟩,
 ⟨117,[105,51,50,46,115,104,114,95,115],0⟩,
 ⟨118,[105,51,50,46,115,104,114,95,117],0⟩,
 ⟨119,[105,51,50,46,114,111,116,108],0⟩,
 ⟨120,[105,51,50,46,114,111,116,114],0⟩,
 ⟨121,[105,54,52,46,99,108,122],0⟩,
 ⟨122,[105,54,52,46,99,116,122],0⟩,
 ⟨123,[105,54,52,46,112,111,112,99,110,116],0⟩,
 ⟨124,[105,54,52,46,97,100,100],0⟩,
 ⟨125,[105,54,52,46,115,117,98],0⟩,
 ⟨126,[105,54,52,46,109,117,108],0⟩,
 ⟨127,[105,54,52,46,100,105,118,95,115],0⟩,
 ⟨128,[105,54,52,46,100,105,118,95,117],0⟩,
 ⟨129,[105,54,52,46,114,101,109,95,115],0⟩,
 ⟨130,[105,54,52,46,114,101,109,95,117],0⟩,
 ⟨131,[105,54,52,46,97,110,100],0⟩,
 ⟨132,[105,54,52,46,111,114],0⟩,
 ⟨133,[105,54,52,46,120,111,114],0⟩,
 ⟨134,[105,54,52,46,115,104,108],0⟩,
 ⟨135,[105,54,52,46,115,104,114,95,115],0⟩,
 ⟨136,[105,54,52,46,115,104,114,95,117],0⟩,
 ⟨137,[105,54,52,46,114,111,116,108],0⟩,
 ⟨138,[105,54,52,46,114,111,116,114],0⟩,
 ⟨167,[105,51,50,46,119,114,97,112,95,105,54,52],0⟩,
 ⟨172,[105,54,52,46,101,120,116,101,110,100,95,105,51,50,95,115],0⟩,
 ⟨173,[105,54,52,46,101,120,116,101,110,100,95,105,51,50,95,117],0⟩,
 ⟨192,[105,51,50,46,101,120,116,101,110,100,56,95,115],0⟩,
 ⟨193,[105,51,50,46,101,120,116,101,110,100,49,54,95,115],0⟩,
 ⟨194,[105,54,52,46,101,120,116,101,110,100,56,95,115],0⟩,
 ⟨195,[105,54,52,46,101,120,116,101,110,100,49,54,95,115],0⟩,
 ⟨196,[105,54,52,46,101,120,116,101,110,100,51,50,95,115],0⟩,
 ⟨208,[114,101,102,46,110,117,108,108],20⟩,
 ⟨209,[114,101,102,46,105,115,95,110,117,108,108],0⟩,
 ⟨210,[114,101,102,46,102,117,110,99],4⟩,
 ⟨64520,[109,101,109,111,114,121,46,105,110,105,116],15⟩,
 ⟨64521,[100,97,116,97,46,100,114,111,112],16⟩,
 ⟨64522,[109,101,109,111,114,121,46,99,111,112,121],14⟩,
 ⟨64523,[109,101,109,111,114,121,46,102,105,108,108],13⟩,
 ⟨64524,[116,97,98,108,101,46,105,110,105,116],11⟩,
 ⟨64525,[101,108,101,109,46,100,114,111,112],12⟩,
 ⟨64526,[116,97,98,108,101,46,99,111,112,121],10⟩,
 ⟨64527,[116,97,98,108,101,46,103,114,111,119],9⟩,
 ⟨64528,[116,97,98,108,101,46,115,105,122,101],9⟩,
 ⟨64529,[116,97,98,108,101,46,102,105,108,108],9⟩]
def wdA:List UInt8→List UInt8→List (List UInt8)
 | [],w=>if w=[] then [] else [w]
 | c :: r,w=>if c=32 then (if w=[] then wdA r [] else w :: wdA r []) else wdA r (w++[c])
def wds (s:List UInt8):List (List UInt8):=wdA s []
def EL (f:Int) (h:List UInt8):Nat→List (List UInt8)→List (Int×List UInt8)
 | _,[]=>[]
 | k,s :: r=>(f+(k:Int),h++s) :: EL f h (k+1) r
def EN:List (Int×List UInt8):=OC.map fun o=>(o.op,o.nm)
theorem Wo:EN=HR.flatMap fun r=>EL r.f r.h 0 (wds r.t):=by decide +kernel
open Go.Shelf
def Vr:Go.Shelf.Ren:=⟨fun | 144=>259 | 143=>288 | 219=>312 | 217=>325 | 225=>326 | 224=>327 | 267=>328 | 266=>337 | 314=>338 | n=>n,fun | 9=>9 | 4=>4 | 3=>3 | 5=>5 | 46=>250 | 146=>371 | 51=>367 | n=>n,fun | 1=>3 | n=>n⟩
theorem Pi:Go.Proofs.Lays.n144 Tryz.prog Vr:={
 mixed:=by kernel_rfl
 f143:=Tryz.func288.trans (congrArg some (by kernel_rfl))
 f144:=Tryz.func259.trans (congrArg some (by kernel_rfl))
 f217:=Tryz.func325.trans (congrArg some (by kernel_rfl))
 f219:=Tryz.func312.trans (congrArg some (by kernel_rfl))
 f224:=Tryz.func327.trans (congrArg some (by kernel_rfl))
 f225:=Tryz.func326.trans (congrArg some (by kernel_rfl))
 f266:=Tryz.func337.trans (congrArg some (by kernel_rfl))
 f267:=Tryz.func328.trans (congrArg some (by kernel_rfl))
 f314:=Tryz.func338.trans (congrArg some (by kernel_rfl))
 t3:=Tryz.underlying3
 a3:=Tryz.isAgg3
 z3:=Tryz.sizeOf3
 v3:=Tryz.zeroValue3
 t4:=Tryz.underlying4
 a4:=Tryz.isAgg4
 z4:=Tryz.sizeOf4
 v4:=Tryz.zeroValue4
 t5:=Tryz.underlying5
 a5:=Tryz.isAgg5
 z5:=Tryz.sizeOf5
 v5:=Tryz.zeroValue5
 t9:=Tryz.underlying9
 a9:=Tryz.isAgg9
 z9:=Tryz.sizeOf9
 v9:=Tryz.zeroValue9
 t46:=Tryz.underlying250
 a46:=Tryz.isAgg250
 z46:=Tryz.sizeOf250
 v46:=Tryz.zeroValue250
 t51:=Tryz.underlying367
 a51:=Tryz.isAgg367
 z51:=Tryz.sizeOf367
 v51:=Tryz.zeroValue367
 t146:=Tryz.underlying371
 a146:=Tryz.isAgg371
 z146:=Tryz.sizeOf371
 v146:=Tryz.zeroValue371
 g1:=by kernel_rfl }
def Vs:Go.Shelf.Ren:=⟨fun | 157=>291 | 229=>313 | 199=>314 | 261=>329 | 311=>339 | 312=>340 | n=>n,fun | 9=>9 | 31=>300 | 3=>3 | 5=>5 | 4=>4 | 119=>246 | 0=>0 | 40=>358 | 152=>364 | 21=>21 | 154=>366 | 51=>367 | 141=>369 | 196=>376 | 193=>373 | 198=>379 | 49=>377 | 194=>374 | 201=>382 | 226=>384 | 46=>250 | 227=>385 | n=>n,fun | 0=>2 | 6=>4 | n=>n⟩
theorem Pj:Go.Proofs.Lays.n157 Tryz.prog Vs:={
 mixed:=by kernel_rfl
 f157:=Tryz.func291.trans (congrArg some (by kernel_rfl))
 f199:=Tryz.func314.trans (congrArg some (by kernel_rfl))
 f229:=Tryz.func313.trans (congrArg some (by kernel_rfl))
 f261:=Tryz.func329.trans (congrArg some (by kernel_rfl))
 f311:=Tryz.func339.trans (congrArg some (by kernel_rfl))
 f312:=Tryz.func340.trans (congrArg some (by kernel_rfl))
 t0:=Tryz.underlying0
 a0:=Tryz.isAgg0
 z0:=Tryz.sizeOf0
 v0:=Tryz.zeroValue0
 t3:=Tryz.underlying3
 a3:=Tryz.isAgg3
 z3:=Tryz.sizeOf3
 v3:=Tryz.zeroValue3
 t4:=Tryz.underlying4
 a4:=Tryz.isAgg4
 z4:=Tryz.sizeOf4
 v4:=Tryz.zeroValue4
 t5:=Tryz.underlying5
 a5:=Tryz.isAgg5
 z5:=Tryz.sizeOf5
 v5:=Tryz.zeroValue5
 t9:=Tryz.underlying9
 a9:=Tryz.isAgg9
 z9:=Tryz.sizeOf9
 v9:=Tryz.zeroValue9
 t21:=Tryz.underlying21
 a21:=Tryz.isAgg21
 z21:=Tryz.sizeOf21
 v21:=Tryz.zeroValue21
 t31:=Tryz.underlying300
 a31:=Tryz.isAgg300
 z31:=Tryz.sizeOf300
 v31:=Tryz.zeroValue300
 t40:=Tryz.underlying358
 a40:=Tryz.isAgg358
 z40:=Tryz.sizeOf358
 v40:=Tryz.zeroValue358
 t46:=Tryz.underlying250
 a46:=Tryz.isAgg250
 z46:=Tryz.sizeOf250
 v46:=Tryz.zeroValue250
 t49:=Tryz.underlying377
 a49:=Tryz.isAgg377
 z49:=Tryz.sizeOf377
 v49:=Tryz.zeroValue377
 t51:=Tryz.underlying367
 a51:=Tryz.isAgg367
 z51:=Tryz.sizeOf367
 v51:=Tryz.zeroValue367
 t119:=Tryz.underlying246
 a119:=Tryz.isAgg246
 z119:=Tryz.sizeOf246
 t141:=Tryz.underlying369
 a141:=Tryz.isAgg369
 z141:=Tryz.sizeOf369
 v141:=Tryz.zeroValue369
 t152:=Tryz.underlying364
 a152:=Tryz.isAgg364
 z152:=Tryz.sizeOf364
 v152:=Tryz.zeroValue364
 t154:=Tryz.underlying366
 a154:=Tryz.isAgg366
 z154:=Tryz.sizeOf366
 v154:=Tryz.zeroValue366
 t193:=Tryz.underlying373
 a193:=Tryz.isAgg373
 z193:=Tryz.sizeOf373
 v193:=Tryz.zeroValue373
 t194:=Tryz.underlying374
 a194:=Tryz.isAgg374
 z194:=Tryz.sizeOf374
 v194:=Tryz.zeroValue374
 t196:=Tryz.underlying376
 a196:=Tryz.isAgg376
 z196:=Tryz.sizeOf376
 v196:=Tryz.zeroValue376
 t198:=Tryz.underlying379
 a198:=Tryz.isAgg379
 z198:=Tryz.sizeOf379
 v198:=Tryz.zeroValue379
 t201:=Tryz.underlying382
 a201:=Tryz.isAgg382
 z201:=Tryz.sizeOf382
 v201:=Tryz.zeroValue382
 t226:=Tryz.underlying384
 a226:=Tryz.isAgg384
 z226:=Tryz.sizeOf384
 v226:=Tryz.zeroValue384
 t227:=Tryz.underlying385
 a227:=Tryz.isAgg385
 z227:=Tryz.sizeOf385
 v227:=Tryz.zeroValue385
 g0:=by kernel_rfl
 g6:=by kernel_rfl }
theorem mX (s sub:List UInt8) (hs:s.length<4294967281):aj Tryz.prog mL [.str s,.str sub] (.bool (Lib.contains s sub)):=by
 refine aj.of (fun w bl M cargs hH hM ha=>?_) rfl
 match cargs,ha with
 | [a,b],⟨h1,h2,_⟩ =>
  obtain rfl:=h1.str
  obtain rfl:=h2.str
  obtain ⟨m,hm⟩:=hH.2.2
  refine (Any.strings_Contains Pi ⟨s.toArray⟩ ⟨sub.toArray⟩ m w (by simpa [ByteArray.size] using hs) hm).mono ?_
  rintro e w' ⟨rfl,rfl⟩
  exact ⟨_,rfl,ek.refl _ _,IRel.bool _⟩
theorem Bv (s:List UInt8) (hs:s.length<4294967281) (ha:∀b∈s,b.toNat<128) (w:World) (hH:(aV.T Tryz.prog).H w) :
  Calls Tryz.prog oU #[.string ⟨s.toArray⟩] w fun e w'=>e = .returned (.slice (some ⟨w.heap.size,0,none⟩) (Lib.fields s).length (Lib.fields s).length)∧w'=w.alloc (.cells ((Lib.fields s).map fun l=>Value.string ⟨l.toArray⟩).toArray 9):=by
 have h:=Any.strings_Fields_core Pj (by kernel_rfl) ⟨s.toArray⟩ w (by simpa [ByteArray.size] using hs) (fun j b hb=>ha b (gM (by simpa using hb))) (fun c hc=>hH.2.1 c hc)
 exact h
theorem Qf:aj Tryz.prog ZJ [] (.sl 3 (HR.map T1)):=by
 refine ac (ic:=GN.body) ap Xq rfl rfl ?_
 simp only [go_sem,GN]
 exact aN [25] (by rfl) rfl
theorem Mf:aj Tryz.prog Zw [] (.fn 289 []):=by
 refine ac (ic:=GC.body) ap Xc rfl rfl ?_
 simp only [go_sem,GC]
 exact ak
end Go.Proofs.YthhglklcaodfmaaGreatDoor