import Derived.Test.YtdfofedlbljnhaaGreatDoorQg
set_option linter.all false
set_option maxRecDepth 100000
set_option maxHeartbeats 40000000
namespace Go.Proofs.YtdfofedlbljnhaaGreatDoor
open Go Go.Mw
section
def nuB (t:Int):Bool:=(t==1)||(t==2)
def Jt (t:Int):Bool:=(t==3)||(t==4)
def m5 (t:Int):Bool:=nuB t||Jt t
def Qv (l:Lm) (most:Int):Bool:=if l.mn<0∨l.mn>most then false else if l.hs=false then l.mx==0 else decide (l.mn≤l.mx)&&decide (l.mx≤most)
def pu (l:List Int):Bool:=l.all m5
def xP (s:List UInt8):Int:=if s.length>64 then 6 else if uv s=false then 9 else 0
def LT (x:Ft):Int:=if x.ps.length>8∨x.rs.length>8 then 6 else if pu x.ps=false∨pu x.rs=false then 12 else 0
def Le (x:Tb):Int:=if Jt x.e=false then 12 else if Qv x.l 1024=false then 20 else 0
def NY (l:Lm):Int:=if Qv l 256=false then 20 else 0
def VK (g:Gl):Int:=if m5 g.v=false then 12 else 0
def Gf (P:aZ→Bool):Nat→List aZ→Int×Int
 | _,[]=>(0,0)
 | i,x :: r=>if P x=false then ((i:Int),10) else if x.lb.length>64 then ((i:Int),6) else Gf P (i+1) r
def gd (P:aZ→Bool) (l:List aZ):Int×Int:=if l.length>2048 then (2048,6) else Gf P 0 l
attribute [local go_sem] di dw db dt
theorem af2 (t:Int):ao pg BL [.int .i64 t] (.bool (nuB t)):=by
 refine aL lK ?_
 unfold nuB
 cases h:(t==1)
 ·simp only [go_sem,lK,h]
  exact aJ [] (by simp only [go_sem,eE]) (by first | rfl | simp [go_sem,bX])
 ·simp only [go_sem,lK,h]
  exact aJ [] (by simp only [go_sem,eC]) (by first | rfl | simp [go_sem,bX])
theorem Kj (t:Int):ao pg BM [.int .i64 t] (.bool (Jt t)):=by
 refine aL lL ?_
 unfold Jt
 cases h:(t==3)
 ·simp only [go_sem,lL,h]
  exact aJ [] (by simp only [go_sem,eE]) (by first | rfl | simp [go_sem,bX])
 ·simp only [go_sem,lL,h]
  exact aJ [] (by simp only [go_sem,eC]) (by first | rfl | simp [go_sem,bX])
theorem NW (t:Int):ao pg BN [.int .i64 t] (.bool (m5 t)):=by
 refine aL pH ?_
 have c1:=af2 t
 have c2:=Kj t
 unfold m5
 simp only [go_sem,pH]
 refine ax (c1) ?_
 cases nuB t
 ·simp only [go_sem]
  refine aa (c2) ?_
  exact aJ [] (by simp only [go_sem,eE]) (by first | rfl | simp [go_sem,bX])
 ·simp only [go_sem]
  exact aJ [] (by simp only [go_sem,eC]) (by first | rfl | simp [go_sem,bX])
theorem X4 (t:Int):ao pg i_ [.int .i64 t] (.bool (!m5 t)):=by
 refine aL wz ?_
 simp only [go_sem,wz]
 refine aa (NW t) ?_
 exact aj
theorem af1 (l:List Int) (hl:l.length≤9223372036854775807):∃r:Int,ao pg dN [.sl 1 (l.map mA),.fn i_ []] (.int .i64 r)∧(pu l=true→r = -1)∧(pu l=false→0≤r):=by
 have key:∀r:Int,(∀i:Nat,i≤l.length→(∀k,k<i→m5 (ac l k)=true)→(i<l.length→m5 (ac l i)=false→r=i)∧(i=l.length→r = -1))→ao pg dN [.sl 1 (l.map mA),.fn i_ []] (.int .i64 r):=fun r hr=>by
  refine aL dM ?_
  simp only [go_sem,dM]
  refine aw (fun j:Nat=>⟨[(8,.int .i64 j),(7,.int .i64 l.length),(0,.sl 1 (l.map mA)),(1,.fn i_ [])],[]⟩) (fun j=>j≤l.length∧∀k,k<j→m5 (ac l k)=true) (fun j=>l.length - j) 0 ⟨cX _,fun k hk=>by omega⟩ (Wk.of ?_ ?_) ?_
  ·simp only [go_sem];try simp
  ·simp only [go_sem]
  rintro j ⟨hj,hx⟩
  obtain ⟨r1,r2⟩:=hr j hj hx
  by_cases h1:(j:Int)<(l.length:Int)
  ·have hj':j<l.length:=by omega
   have e8:=dz hj' (by omega)
   have cc:=X4 (ac l j)
   cases hb:m5 (ac l j)
   ·rw [hb] at cc
    rw [r1 hj' hb]
    simp only [go_sem,aO h1]
    refine ⟨by omega,h1,?_⟩
    refine ⟨by kernel_rfl,?_⟩
    refine aa (cc) ?_
    exact aj
   ·rw [hb] at cc
    simp only [go_sem,aO h1]
    refine ⟨by omega,h1,?_⟩
    refine ⟨by kernel_rfl,?_⟩
    refine aa (cc) ?_
    refine aG (j+1) ⟨show j+1≤l.length by omega,fun k hk=>?_⟩ (show l.length - (j+1)<l.length - j by omega) (Wk.of ?_ ?_)
    ·rcases fX k j with h | h
     ·exact hx k h
     ·rw [show k=j by omega];exact hb
    ·simp only [go_sem,e8];try simp
    ·simp only [go_sem]
  ·rw [r2 (by omega)]
   simp only [go_sem,aQ h1]
   exact aj
 have fnd:(∀k,k<l.length→m5 (ac l k)=true)∨∃j,j<l.length∧m5 (ac l j)=false∧∀k,k<j→m5 (ac l k)=true:=by
  have aux:∀n,n≤l.length→(∀k,k<n→m5 (ac l k)=true)∨∃j,j<l.length∧m5 (ac l j)=false∧∀k,k<j→m5 (ac l k)=true:=fun n=>by
   induction n with
   | zero=>exact fun _=>.inl fun k hk=>by omega
   | succ n ih =>
    intro hn
    rcases ih (by omega) with h | h
    ·cases hb:m5 (ac l n)
     ·exact .inr ⟨n,by omega,hb,h⟩
     ·refine .inl fun k hk=>?_
      rcases fX k n with q | q
      ·exact h k q
      ·rw [show k=n by omega];exact hb
    ·exact .inr h
  exact aux l.length (bt _)
 have all_t:(∀k,k<l.length→m5 (ac l k)=true)→pu l=true:=fun h=>by
  unfold pu
  rw [fg]
  intro x hx
  obtain ⟨i,hi,rfl⟩:=List.getElem_of_mem hx
  have:=h i hi
  rwa [bp hi] at this
 rcases fnd with h | ⟨j,hj,hb,h⟩
 ·refine ⟨-1,key (-1) fun i hi hk=>⟨fun q qb=>?_,fun _=>rfl⟩,fun _=>rfl,fun q=>?_⟩
  ·rw [h i q] at qb;cases qb
  ·rw [all_t h] at q;cases q
 ·refine ⟨(j:Int),key (j:Int) fun i hi hk=>⟨fun q qb=>?_,fun q=>?_⟩,fun q=>?_,fun _=>by omega⟩
  ·rcases fX i j with z | z
   ·rw [h i z] at qb;cases qb
   ·rcases fX j i with z2 | z2
    ·rw [hk j z2] at hb;cases hb
    ·rw [show i=j by omega]
  ·rw [hk j (by omega)] at hb;cases hb
  ·unfold pu at q
   rw [fg] at q
   have:=q _ (List.getElem_mem hj)
   rw [bp hj] at hb
   rw [hb] at this;cases this
theorem acx (l:List Int) (hl:l.length≤9223372036854775807):ao pg gZ [.sl 1 (l.map mA),.fn i_ []] (.bool (!pu l)):=by
 obtain ⟨r,hr,h1,h2⟩:=af1 l hl
 refine aL cx ?_
 cases hb:pu l
 ·simp only [go_sem,cx]
  refine ax (hr) ?_
  simp only [go_sem,aO (show r≥0 from h2 hb)]
  exact aJ [] (by simp only [go_sem,cD]) (by first | rfl | simp [go_sem,bX])
 ·simp only [go_sem,cx]
  refine ax (hr) ?_
  simp only [go_sem,aQ (show ¬r≥0 by rw [h1 hb];decide)]
  exact aJ [] (by simp only [go_sem,dh]) (by first | rfl | simp [go_sem,bX])
theorem Il (l:List Int) (hl:l.length≤9223372036854775807):ao pg Ku [.sl 1 (l.map mA)] (.bool (pu l)):=by
 refine aL Bv ?_
 simp only [go_sem,Bv]
 refine ax (acx l hl) ?_
 simp only [go_sem,Bool.not_not]
 exact aj
theorem vq (i:Int):ao pg Ir [.int .i64 i] (.bool (rP i)):=by
 refine aL rB ?_
 unfold rP
 by_cases h:(0:Int)≤i
 ·simp only [go_sem,rB,aO (show i≥0 from h)]
  exact aJ [] (by simp only [go_sem,aO h,bU]) (by first | rfl | simp [go_sem,bX])
 ·simp only [go_sem,rB,aQ (show ¬i≥0 from h)]
  exact aJ [] (by simp only [go_sem,aQ h,rh]) (by first | rfl | simp [go_sem,bX])
theorem afZ (x:Ft) (h:smF x):ao pg Ca [.agg (rK x)] (.int .i64 (LT x)):=by
 refine aL jf ?_
 have c1:=Il x.ps (by have:=h.1;omega)
 have c2:=Il x.rs (by have:=h.2;omega)
 unfold LT
 by_cases q1:(x.ps.length:Int)>8
 ·rw [ap (.inl (by omega))]
  simp only [go_sem,jf,aO q1]
  exact aj
 by_cases q2:(x.rs.length:Int)>8
 ·rw [ap (.inr (by omega))]
  simp only [go_sem,jf,aQ q1,aO q2]
  exact aj
 rw [ah (by omega)]
 simp only [go_sem,jf,aQ q1,aQ q2]
 refine ax (c1) ?_
 cases pu x.ps
 ·simp only [go_sem]
  exact aJ [] (by simp only [go_sem];try rfl) (by rfl)
 simp only [go_sem]
 refine ax (c2) ?_
 cases pu x.rs
 ·simp only [go_sem]
  exact aJ [] (by simp only [go_sem];try rfl) (by rfl)
 ·simp only [go_sem]
  exact aJ [] (by simp only [go_sem];try rfl) (by rfl)
end
section
structure Fa where
 p:Int
 i:Int
 l:Int
 c:Int
def ck (F:Fa):ak:=⟨117,4,[[.int .i64 F.p,.int .i64 F.i,.int .i64 F.l,.int .i64 F.c]],true⟩
def fT (F:Fa) (p i l e:Int):Fa:=if F.c=0∧e≠0 then ⟨p,i,l,e⟩ else F
def CM (f:FuncId) (rest:List AV) (F F':Fa):Prop:=aX pg f (.mp 1000 4 0 0 :: rest) [(1000,ck F)] (fun id=>1000≤id∧id<2000) (fun r' σ'=>r' = .tup []∧σ'=[(1000,ck F')])
attribute [local go_sem] di ck dw dd dY dt db sA fS fR fp eW iH aW
theorem L8 (F:Fa) (p i l e:Int):CM js [.int .i64 p,.int .i64 i,.int .i64 l,.int .i64 e] F (fT F p i l e):=by
 refine bF fB ?_
 unfold fT
 by_cases h1:F.c=0
 ·by_cases h2:e=0
  ·rw [ah (by simp [h2])]
   simp only [go_sem,fB,dV h1,aD h2]
   exact cN [] _ [(1000,ck F)] ⟨rfl,rfl⟩
  ·rw [ap ⟨h1,h2⟩]
   simp only [go_sem,fB,dV h1,bv h2]
   exact cN [] _ [(1000,ck ⟨p,i,l,e⟩)] ⟨rfl,rfl⟩
 ·rw [ah (fun q=>h1 q.1)]
  simp only [go_sem,fB,ay h1]
  exact cN [] _ [(1000,ck F)] ⟨rfl,rfl⟩
theorem IP {α β:Type} [Inhabited α] [Inhabited β] {f:α→β} {l:List α} {i:Nat} (h:i<l.length):ac (l.map f) i=f (ac l i):=by
 rw [bp (by simpa using h),bp h,List.getElem_map]
def VL (n:Int):Nat→List (Int×Int)→Fa→Fa
 | _,[],F=>F
 | i,r :: l,F=>if F.c≠0 then F else VL n (i+1) l (fT F n i r.1 r.2)
def fb (n most imp:Int) (res:List (Int×Int)) (F:Fa):Fa :=
 VL n 0 res (if IntKind.i64.wrap ((res.length:Int)+imp)>most then fT F n (if 0<IntKind.i64.wrap (most - imp) then IntKind.i64.wrap (most - imp) else 0) 0 6 else F)
theorem abW {n:Int} {l:List (Int×Int)} {i:Nat} (h:i<l.length) (F:Fa) (hF:F.c=0):VL n i (l.drop i) F=VL n (i+1) (l.drop (i+1)) (fT F n i (ac l i).1 (ac l i).2):=by
 rw [xg h,VL,ah (by simp [hF])]
theorem Sp {n:Int} {l:List (Int×Int)} {i:Nat} (F:Fa) (hF:F.c≠0):VL n i l F=F:=by
 cases l with
 | nil=>rfl
 | cons r l=>rw [VL,ap hF]
theorem J5 {f:FuncId} (h:bM pg f=true):f<4000000:=L0 (by kernel_rfl) h
def ptB (t st:Nat) (z:List AV):bN :=
 (.seq (.seq (.reg [mv 16 2,
 o0 17 (.len (.s 16)),
 mv 18 4,
 o0 19 (.bin .add (.s 17) (.s 18)),
 mv 20 3,
 o0 21 (.bin .gtr (.s 19) (.s 20))] [16,17,18,19,20])
 (.cond (.s 21)
 (.reg [mv 22 0,
 mv 23 1,
 mv 24 3,
 mv 25 4,
 o0 26 (.bin .sub (.s 24) (.s 25)),
 o0 27 (.mnx true (.c (.int .i64 0)) (.s 26)),
 o0 28 (.call js [(.s 22),(.s 23),(.s 27),(.c (.int .i64 0)),(.c (.int .i64 6))])] [22,23,24,25,26,27,28])
 .skip))
 (.seq (.reg [mv 29 2,
 o0 30 (.len (.s 29)),
 o0 31 (.mov (.c (.int .i64 0)))] [])
 (.block 0 (.loop (.seq (.reg [o0 32 (.bin .lss (.s 31) (.s 30))] [])
 (.seq (.cond (.s 32)
 .skip
 (.exit 0))
 (.seq (.block 1 (.seq (.reg [mv 33 31,
 o0 34 (.iadr st (.s 29) (.s 31)),
 o0 35 (.load (some st) (.s 34)),
 o0 13 (.new t z),
 mv 12 33,
 ⟨none,.store st (.s 13) (.s 35),none⟩] [33,34,35])
 (.seq (.seq (.reg [mv 36 0,
 o0 37 (.nchk (.s 36)),
 o0 38 (.fadr 0 (.s 37)),
 o0 39 (.fadr 3 (.s 38)),
 o0 40 (.load none (.s 39)),
 o0 41 (.bin .neq (.s 40) (.c (.int .i64 0)))] [36,37,38,39,40])
 (.cond (.s 41)
 .ret
 .skip))
 (.seq (.reg [mv 43 5,
 mv 44 12,
 o0 45 (.load (some st) (.s 13)),
 o0 46 (.callv (.s 43) [(.s 44),(.s 45)]),
 mv 42 46,
 o0 47 (.ext (.s 42) 0),
 o0 48 (.ext (.s 42) 1),
 mv 14 47,
 mv 15 48] [43,44,45,46,42,47,48])
 (.reg [mv 49 0,
 mv 50 1,
 mv 51 12,
 mv 52 14,
 mv 53 15,
 o0 54 (.call js [(.s 49),(.s 50),(.s 51),(.s 52),(.s 53)])] [49,50,51,52,53,54])))))
 (.reg [o0 55 (.bin .add (.s 31) (.c (.int .i64 1))),
 mv 31 55] [55]))))))))
theorem qk {α:Type} [Inhabited α] {m t st:Nat} {z:List AV} {c:α→List AV} (hc:lN pg m=some ⟨56,6,[],ptB t st z⟩) (hz:z.length=st) (hr:∀x,aeT st (c x)) {f:FuncId} (hb:bM pg f=true) (g:α→Int×Int) (a:List α) (ha:a.length≤9223372036854775807)
  (hf:∀x∈a,∀i:Int,ao pg f [.int .i64 i,.agg (c x)] (.tup [.int .i64 (g x).1,.int .i64 (g x).2])) (n most imp:Int) (F:Fa) :
  CM m [.int .i64 n,.sl st (a.map c),.int .i64 most,.int .i64 imp,.fn f []] F (fb n most imp (a.map g) F):=by
 refine jJ (ic:=ptB t st z) ue hc rfl rfl ?_
 obtain ⟨G,hG⟩:∃G,fb n most imp (a.map g) F=G:=⟨_,rfl⟩
 rw [hG]
 unfold fb at hG
 rw [di] at hG
 subst hz
 have q1:∀x,vp (some z.length) (c x)=some (.agg (c x)):=fun x=>NQ (hr x).1
 have q2:∀x,Ju 13 z.length z.length 0 0 (some ⟨t,z.length,[z],true⟩) (some (c x))=some (.put 13 ⟨t,z.length,[c x],true⟩):=fun x=>Oy rfl (hr x).1
 have q3:∀x i,(c x).any (mC i)=false:=fun x i=>(hr x).2.1 i
 by_cases hw:IntKind.i64.wrap ((a.length:Int)+imp)>most
 rw [ap hw] at hG
 simp only [go_sem,ptB,aO hw]
 refine aA (L8 F n (if 0<IntKind.i64.wrap (most - imp) then IntKind.i64.wrap (most - imp) else 0) 0 6) ?_
 generalize fT F n (if 0<IntKind.i64.wrap (most - imp) then IntKind.i64.wrap (most - imp) else 0) 0 6=F0 at hG ⊢
 rotate_left
 rw [ah hw] at hG
 simp only [go_sem,ptB,aQ hw]
 generalize F=F0 at hG ⊢
 all_goals
  refine aw (fun q:Nat×Fa=>⟨[(31,.int .i64 q.1),(30,.int .i64 a.length),(29,.sl z.length (a.map c)),(0,.mp 1000 4 0 0),(1,.int .i64 n),(5,.fn f [])],[(1000,ck q.2)]⟩) (fun q=>q.1≤a.length∧G=VL n q.1 ((a.map g).drop q.1) q.2) (fun q=>a.length - q.1) (0,F0) ⟨cX _,hG.symm⟩ (Wk.of ?_ ?_) ?_
  ·simp only [go_sem];try simp
  ·simp only [go_sem]
  rintro ⟨j,E⟩ ⟨hj,hx⟩
  simp only at hj hx
  by_cases h1:(j:Int)<(a.length:Int)
  rotate_left
  ·rw [x8 (by rw [di];omega)] at hx
   obtain rfl:G=E:=hx
   simp only [go_sem,aQ h1]
   exact cN [] _ [(1000,ck G)] ⟨rfl,rfl⟩
  have hj':j<a.length:=by omega
  have e8:=dz hj' (by omega)
  have cc:=eT hf hj' (j:Int)
  by_cases hE:E.c=0
  rotate_left
  ·rw [Sp E hE] at hx
   obtain rfl:G=E:=hx
   simp only [go_sem,aO h1,bv hE,q1,q2,q3]
   refine ⟨by omega,h1,?_⟩
   exact jG [] (.tup []) [(1000,ck G)] ⟨rfl,rfl⟩
  rw [abW (by rw [di];exact hj') E hE,IP hj'] at hx
  simp only [go_sem,aO h1,aD hE,q1,q2,q3]
  refine ⟨by omega,h1,?_⟩
  rw [ap (J5 hb)]
  refine ⟨hb,?_⟩
  refine fY cc (fun x hx=>?_) ?_
  ·rcases dc.1 hx with rfl | hx
   ·rfl
   ·rcases dc.1 hx with rfl | hx
    ·exact (hr _).2.2
    ·cases hx
  simp only [go_sem]
  refine aA (L8 E n j (g (ac a j)).1 (g (ac a j)).2) ?_
  refine aG (j+1,fT E n j (g (ac a j)).1 (g (ac a j)).2) ⟨show j+1≤a.length by omega,hx⟩ (show a.length - (j+1)<a.length - j by omega) (Wk.of ?_ ?_)
  ·simp only [go_sem,e8];try simp
  ·simp only [go_sem]
theorem TE {f:FuncId} (hb:bM pg f=true) (g:Ft→Int×Int) (a:List Ft) (ha:a.length≤9223372036854775807) (hf:∀x∈a,∀i:Int,ao pg f [.int .i64 i,.agg (rK x)] (.tup [.int .i64 (g x).1,.int .i64 (g x).2])) (n most imp:Int) (F:Fa) :
  CM ml [.int .i64 n,.sl 2 (a.map rK),.int .i64 most,.int .i64 imp,.fn f []] F (fb n most imp (a.map g) F):=qk (cF tB) rfl (fun _=>⟨rfl,fun _=>rfl,rfl⟩) hb g a ha hf n most imp F
theorem TG {f:FuncId} (hb:bM pg f=true) (g:Im→Int×Int) (a:List Im) (ha:a.length≤9223372036854775807) (hf:∀x∈a,∀i:Int,ao pg f [.int .i64 i,.agg (tg x)] (.tup [.int .i64 (g x).1,.int .i64 (g x).2])) (n most imp:Int) (F:Fa) :
  CM kf [.int .i64 n,.sl 13 (a.map tg),.int .i64 most,.int .i64 imp,.fn f []] F (fb n most imp (a.map g) F):=qk (cF rE) rfl (fun _=>⟨rfl,fun _=>rfl,rfl⟩) hb g a ha hf n most imp F
theorem Ki {f:FuncId} (hb:bM pg f=true) (g:Cd→Int×Int) (a:List Cd) (ha:a.length≤9223372036854775807) (hf:∀x∈a,∀i:Int,ao pg f [.int .i64 i,.agg (qf x)] (.tup [.int .i64 (g x).1,.int .i64 (g x).2])) (n most imp:Int) (F:Fa) :
  CM gY [.int .i64 n,.sl 3 (a.map qf),.int .i64 most,.int .i64 imp,.fn f []] F (fb n most imp (a.map g) F):=qk (cF tx) rfl (fun _=>⟨rfl,fun _=>rfl,rfl⟩) hb g a ha hf n most imp F
theorem TI {f:FuncId} (hb:bM pg f=true) (g:Tb→Int×Int) (a:List Tb) (ha:a.length≤9223372036854775807) (hf:∀x∈a,∀i:Int,ao pg f [.int .i64 i,.agg (xR x)] (.tup [.int .i64 (g x).1,.int .i64 (g x).2])) (n most imp:Int) (F:Fa) :
  CM kO [.int .i64 n,.sl 4 (a.map xR),.int .i64 most,.int .i64 imp,.fn f []] F (fb n most imp (a.map g) F):=qk (cF sO) rfl (fun _=>⟨rfl,fun _=>rfl,rfl⟩) hb g a ha hf n most imp F
theorem TH {f:FuncId} (hb:bM pg f=true) (g:Lm→Int×Int) (a:List Lm) (ha:a.length≤9223372036854775807) (hf:∀x∈a,∀i:Int,ao pg f [.int .i64 i,.agg (ry x)] (.tup [.int .i64 (g x).1,.int .i64 (g x).2])) (n most imp:Int) (F:Fa) :
  CM kg [.int .i64 n,.sl 3 (a.map ry),.int .i64 most,.int .i64 imp,.fn f []] F (fb n most imp (a.map g) F):=qk (cF rF) rfl (fun _=>⟨rfl,fun _=>rfl,rfl⟩) hb g a ha hf n most imp F
theorem TF {f:FuncId} (hb:bM pg f=true) (g:Gd→Int×Int) (a:List Gd) (ha:a.length≤9223372036854775807) (hf:∀x∈a,∀i:Int,ao pg f [.int .i64 i,.agg (yd x)] (.tup [.int .i64 (g x).1,.int .i64 (g x).2])) (n most imp:Int) (F:Fa) :
  CM iI [.int .i64 n,.sl 3 (a.map yd),.int .i64 most,.int .i64 imp,.fn f []] F (fb n most imp (a.map g) F):=qk (cF po) rfl (fun _=>⟨rfl,fun _=>rfl,rfl⟩) hb g a ha hf n most imp F
theorem TD {f:FuncId} (hb:bM pg f=true) (g:Ex→Int×Int) (a:List Ex) (ha:a.length≤9223372036854775807) (hf:∀x∈a,∀i:Int,ao pg f [.int .i64 i,.agg (xN x)] (.tup [.int .i64 (g x).1,.int .i64 (g x).2])) (n most imp:Int) (F:Fa) :
  CM ke [.int .i64 n,.sl 3 (a.map xN),.int .i64 most,.int .i64 imp,.fn f []] F (fb n most imp (a.map g) F):=qk (cF rD) rfl (fun _=>⟨rfl,fun _=>rfl,rfl⟩) hb g a ha hf n most imp F
theorem TC {f:FuncId} (hb:bM pg f=true) (g:El→Int×Int) (a:List El) (ha:a.length≤9223372036854775807) (hf:∀x∈a,∀i:Int,ao pg f [.int .i64 i,.agg (gP x)] (.tup [.int .i64 (g x).1,.int .i64 (g x).2])) (n most imp:Int) (F:Fa) :
  CM mj [.int .i64 n,.sl 5 (a.map gP),.int .i64 most,.int .i64 imp,.fn f []] F (fb n most imp (a.map g) F):=qk (cF tA) rfl (fun _=>⟨rfl,fun _=>rfl,rfl⟩) hb g a ha hf n most imp F
theorem TB {f:FuncId} (hb:bM pg f=true) (g:Da→Int×Int) (a:List Da) (ha:a.length≤9223372036854775807) (hf:∀x∈a,∀i:Int,ao pg f [.int .i64 i,.agg (lO x)] (.tup [.int .i64 (g x).1,.int .i64 (g x).2])) (n most imp:Int) (F:Fa) :
  CM mi [.int .i64 n,.sl 4 (a.map lO),.int .i64 most,.int .i64 imp,.fn f []] F (fb n most imp (a.map g) F):=qk (cF tz) rfl (fun _=>⟨rfl,fun _=>rfl,rfl⟩) hb g a ha hf n most imp F
theorem TA {f:FuncId} (hb:bM pg f=true) (g:Cu→Int×Int) (a:List Cu) (ha:a.length≤9223372036854775807) (hf:∀x∈a,∀i:Int,ao pg f [.int .i64 i,.agg (zK x)] (.tup [.int .i64 (g x).1,.int .i64 (g x).2])) (n most imp:Int) (F:Fa) :
  CM kc [.int .i64 n,.sl 3 (a.map zK),.int .i64 most,.int .i64 imp,.fn f []] F (fb n most imp (a.map g) F):=qk (cF rC) rfl (fun _=>⟨rfl,fun _=>rfl,rfl⟩) hb g a ha hf n most imp F
end
section
attribute [local go_sem] di dw dd dY dt db sA fS fR fp eW dE aW
theorem Ij (l:Lm) (most:Int):ao pg EO [.agg (ry l),.int .i64 most] (.bool (Qv l most)):=by
 refine aL eQ ?_
 unfold Qv
 by_cases q1:l.mn<0
 ·rw [ap (.inl q1)]
  simp only [go_sem,eQ,aO q1]
  exact aj
 by_cases q2:l.mn>most
 ·rw [ap (.inr q2)]
  simp only [go_sem,eQ,aQ q1,aO q2]
  exact aj
 rw [ah (by omega)]
 cases hh:l.hs
 ·rw [ap rfl]
  simp only [go_sem,eQ,aQ q1,aQ q2,hh]
  exact aj
 ·rw [ah (by decide)]
  by_cases q3:l.mn≤l.mx
  ·simp only [go_sem,eQ,aQ q1,aQ q2,hh,aO q3]
   exact aJ [] (by simp only [go_sem,bU]) (by first | rfl | simp [go_sem,bX])
  ·simp only [go_sem,eQ,aQ q1,aQ q2,hh,aQ q3]
   exact aJ [] (by simp only [go_sem,rh]) (by first | rfl | simp [go_sem,bX])
theorem NV (x:Tb):ao pg Is [.agg (xR x)] (.int .i64 (Le x)):=by
 refine aL xS ?_
 have c1:=Kj x.e
 have c2:=Ij x.l 1024
 unfold Le
 simp only [go_sem,xS]
 refine ax (c1) ?_
 cases Jt x.e
 ·simp only [go_sem]
  exact aJ [] (by simp only [go_sem];try rfl) (by rfl)
 ·simp only [go_sem]
  refine ax (c2) ?_
  cases Qv x.l 1024
  ·simp only [go_sem]
   exact aJ [] (by simp only [go_sem];try rfl) (by rfl)
  ·simp only [go_sem]
   exact aJ [] (by simp only [go_sem];try rfl) (by rfl)
theorem aab (l:Lm):ao pg F6 [.agg (ry l)] (.int .i64 (NY l)):=by
 refine aL wy ?_
 have c2:=Ij l 256
 unfold NY
 simp only [go_sem,wy]
 refine ax (c2) ?_
 cases Qv l 256
 ·simp only [go_sem]
  exact aJ [] (by simp only [go_sem];try rfl) (by rfl)
 ·simp only [go_sem]
  exact aJ [] (by simp only [go_sem];try rfl) (by rfl)
theorem Tw (g:Gl):ao pg F5 [.agg [.int .i64 g.v,.bool g.mu]] (.int .i64 (VK g)):=by
 refine aL ww ?_
 have c2:=NW g.v
 unfold VK
 simp only [go_sem,ww]
 refine ax (c2) ?_
 cases m5 g.v
 ·simp only [go_sem]
  exact aJ [] (by simp only [go_sem];try rfl) (by rfl)
 ·simp only [go_sem]
  exact aJ [] (by simp only [go_sem];try rfl) (by rfl)
theorem Ik (s:List UInt8):ao pg Kt [.str s] (.int .i64 (xP s)):=by
 refine aL tw ?_
 unfold xP
 by_cases q1:(s.length:Int)>64
 ·rw [ap (by omega)]
  simp only [go_sem,tw,aO q1]
  exact aj
 rw [ah (by omega)]
 simp only [go_sem,tw,aQ q1]
 refine ax (U5 s (by omega)) ?_
 cases uv s
 ·simp only [go_sem]
  exact aJ [] (by simp only [go_sem];try rfl) (by rfl)
 ·simp only [go_sem]
  exact aJ [] (by simp only [go_sem];try rfl) (by rfl)
def Qs (x:Cd):Int:=if rP x.t=false then 11 else if x.lo.length>64 then 6 else if pu x.lo=false then 12 else 0
theorem acv (x:Cd) (h:Vd x):ao pg Kq [.agg (qf x)] (.int .i64 (Qs x)):=by
 refine aL Bu ?_
 have c1:=vq x.t
 have c2:=Il x.lo (by have:=h.1;omega)
 unfold Qs
 simp only [go_sem,Bu]
 refine ax (c1) ?_
 cases rP x.t
 ·simp only [go_sem]
  exact aJ [] (by simp only [go_sem];try rfl) (by rfl)
 rw [ah (by decide)]
 by_cases q1:(x.lo.length:Int)>64
 ·rw [ap (by omega)]
  simp only [go_sem,aO q1]
  exact aj
 rw [ah (by omega)]
 simp only [go_sem,aQ q1]
 refine ax (c2) ?_
 cases pu x.lo
 ·simp only [go_sem]
  exact aJ [] (by simp only [go_sem];try rfl) (by rfl)
 ·simp only [go_sem]
  exact aJ [] (by simp only [go_sem];try rfl) (by rfl)
def LL (x:Ex):Int:=if xP x.n≠0 then xP x.n else if x.k<0∨x.k>3 then 1 else if rP x.i=false then 11 else 0
theorem Tv (x:Ex):ao pg F4 [.agg (xN x)] (.int .i64 (LL x)):=by
 refine aL wv ?_
 have c1:=Ik x.n
 have c2:=vq x.i
 unfold LL
 simp only [go_sem,wv]
 refine ax (c1) ?_
 by_cases q0:xP x.n=0
 rotate_left
 ·rw [ap q0]
  simp only [go_sem,bv q0]
  exact aj
 rw [ah (by simp [q0])]
 by_cases q1:x.k<0
 ·rw [ap (.inl q1)]
  simp only [go_sem,aD q0,aO q1]
  exact aj
 by_cases q2:x.k>3
 ·rw [ap (.inr q2)]
  simp only [go_sem,aD q0,aQ q1,aO q2]
  exact aj
 rw [ah (by omega)]
 simp only [go_sem,aD q0,aQ q1,aQ q2]
 refine ax (c2) ?_
 cases rP x.i
 ·simp only [go_sem]
  exact aJ [] (by simp only [go_sem];try rfl) (by rfl)
 ·simp only [go_sem]
  exact aJ [] (by simp only [go_sem];try rfl) (by rfl)
theorem Y9 {P:aZ→Bool} {l:List aZ} {i:Nat} (h:i<l.length):Gf P i (l.drop i)=if P (ac l i)=false then ((i:Int),10) else if (ac l i).lb.length>64 then ((i:Int),6) else Gf P (i+1) (l.drop (i+1)):=by
 rw [xg h,Gf]
theorem Kk (P:aZ→Bool) (l:List aZ) (hl:K_ l) (hP:∀x∈l,ao pg cz [dJ x] (.bool (P x))):ao pg EE [.sl 9 (l.map aW)] (.tup [.int .i64 (gd P l).1,.int .i64 (gd P l).2]):=by
 refine aL wX ?_
 unfold gd
 by_cases q1:(l.length:Int)>2048
 ·rw [ap (by omega)]
  simp only [go_sem,wX,aO q1]
  exact aj
 rw [ah (by omega)]
 obtain ⟨G,hG⟩:∃G,Gf P 0 l=G:=⟨_,rfl⟩
 rw [hG]
 simp only [go_sem,wX,aQ q1]
 refine aw (fun j:Nat=>⟨[(11,.int .i64 j),(10,.int .i64 l.length),(9,.sl 9 (l.map aW))],[]⟩) (fun j=>j≤l.length∧G=Gf P j (l.drop j)) (fun j=>l.length - j) 0 ⟨cX _,hG.symm⟩ (Wk.of ?_ ?_) ?_
 ·simp only [go_sem];try simp
 ·simp only [go_sem]
 rintro j ⟨hj,hx⟩
 by_cases h1:(j:Int)<(l.length:Int)
 rotate_left
 ·rw [x8 (by omega)] at hx
  obtain rfl:G=(0,0):=hx
  simp only [go_sem,aQ h1]
  exact aj
 have hj':j<l.length:=by omega
 have e8:=dz hj' (by have:=hl.1;omega)
 have cc:=eT hP hj'
 simp only [dE] at cc
 rw [Y9 hj'] at hx
 cases hp:P (ac l j)
 ·rw [hp] at cc hx
  obtain rfl:G=((j:Int),10):=hx
  simp only [go_sem,aO h1]
  refine ⟨by omega,h1,?_⟩
  refine aa (cc) ?_
  exact aj
 rw [hp] at cc hx
 rw [ah (by decide)] at hx
 by_cases q2:((ac l j).lb.length:Int)>64
 ·rw [ap (by omega)] at hx
  subst hx
  simp only [go_sem,aO h1]
  refine ⟨by omega,h1,?_⟩
  refine ax (cc) ?_
  simp only [go_sem,aO q2]
  exact aj
 rw [ah (by omega)] at hx
 simp only [go_sem,aO h1]
 refine ⟨by omega,h1,?_⟩
 refine ax (cc) ?_
 simp only [go_sem,aQ q2]
 refine aG (j+1) ⟨show j+1≤l.length by omega,hx⟩ (show l.length - (j+1)<l.length - j by omega) (Wk.of ?_ ?_)
 ·simp only [go_sem,e8];try simp
 ·simp only [go_sem]
end
section
def O2 (x:Cu):Int:=if xP x.n≠0 then xP x.n else if x.b.length>4096 then 6 else if x.af<0∨x.af>12 then 1 else 0
attribute [local go_sem] di dw dd dY dt db sA fS fR fp eW dE aW
theorem Tu (x:Cu):ao pg F3 [.agg (zK x)] (.int .i64 (O2 x)):=by
 refine aL wu ?_
 have c1:=Ik x.n
 unfold O2
 simp only [go_sem,wu]
 refine ax (c1) ?_
 by_cases q0:xP x.n=0
 rotate_left
 ·rw [ap q0]
  simp only [go_sem,bv q0]
  exact aj
 rw [ah (by simp [q0])]
 by_cases q1:(x.b.length:Int)>4096
 ·rw [ap (by omega)]
  simp only [go_sem,aD q0,aO q1]
  exact aj
 rw [ah (by omega)]
 by_cases q2:x.af<0
 ·rw [ap (.inl q2)]
  simp only [go_sem,aD q0,aQ q1,aO q2]
  exact aj
 by_cases q3:x.af>12
 ·rw [ap (.inr q3)]
  simp only [go_sem,aD q0,aQ q1,aQ q2,aO q3]
  exact aj
 rw [ah (by omega)]
 simp only [go_sem,aD q0,aQ q1,aQ q2,aQ q3]
 exact aj
def RH (P:aZ→Bool) (x:Da):Int×Int:=if x.mo≠0∧(x.mo≠1∨x.me≠0∨x.o.length>0) then (0,1) else if rP x.me=false then (0,11) else if x.b.length>4096 then (0,6) else gd P x.o
theorem acy (P:aZ→Bool) (x:Da) (h:Zm x) (hP:∀y∈x.o,ao pg cz [dJ y] (.bool (P y))):ao pg Kr [.agg (lO x)] (.tup [.int .i64 (RH P x).1,.int .i64 (RH P x).2]):=by
 refine aL jD ?_
 have c1:=vq x.me
 have c2:=Kk P x.o h.1 hP
 unfold RH
 by_cases q1:x.mo=0
 ·rw [ah (fun q=>q.1 q1)]
  simp only [go_sem,jD,aD q1]
  refine ax (c1) ?_
  cases rP x.me
  ·simp only [go_sem]
   exact aJ [] (by simp only [go_sem];try rfl) (by rfl)
  rw [ah (by decide)]
  by_cases q5:(x.b.length:Int)>4096
  ·rw [ap (by omega)]
   simp only [go_sem,aO q5]
   exact aJ [] (by simp only [go_sem];try rfl) (by rfl)
  rw [ah (by omega)]
  simp only [go_sem,aQ q5]
  refine aa (c2) ?_
  exact aj
 by_cases q2:x.mo=1
 rotate_left
 ·rw [ap ⟨q1,.inl q2⟩]
  simp only [go_sem,jD,bv q1,bv q2]
  exact aJ [] (by simp only [go_sem];try rfl) (by rfl)
 by_cases q3:x.me=0
 rotate_left
 ·rw [ap ⟨q1,.inr (.inl q3)⟩]
  simp only [go_sem,jD,bv q1,aD q2,bv q3]
  exact aJ [] (by simp only [go_sem];try rfl) (by rfl)
 by_cases q4:(x.o.length:Int)>0
 ·rw [ap ⟨q1,.inr (.inr (by omega))⟩]
  simp only [go_sem,jD,bv q1,aD q2,aD q3,aO q4]
  exact aJ [] (by simp only [go_sem];try rfl) (by rfl)
 rw [ah (fun q=>by rcases q.2 with z | z | z;exact z q2;exact z q3;omega)]
 simp only [go_sem,jD,bv q1,aD q2,aD q3,aQ q4]
 refine ax (c1) ?_
 cases rP x.me
 ·simp only [go_sem]
  exact aJ [] (by simp only [go_sem];try rfl) (by rfl)
 rw [ah (by decide)]
 by_cases q5:(x.b.length:Int)>4096
 ·rw [ap (by omega)]
  simp only [go_sem,aO q5]
  exact aJ [] (by simp only [go_sem];try rfl) (by rfl)
 rw [ah (by omega)]
 simp only [go_sem,aQ q5]
 refine aa (c2) ?_
 exact aj
def DP (x:Im):Im:=if x.k=0 then ⟨x.m,x.n,x.k,x.f,0,⟨0,0,false⟩,⟨0,0,false⟩,⟨0,false⟩⟩ else if x.k=1 then ⟨x.m,x.n,x.k,0,x.te,x.tl,⟨0,0,false⟩,⟨0,false⟩⟩ else if x.k=2 then ⟨x.m,x.n,x.k,0,0,⟨0,0,false⟩,x.me,⟨0,false⟩⟩ else if x.k=3 then ⟨x.m,x.n,x.k,0,0,⟨0,0,false⟩,⟨0,0,false⟩,x.g⟩ else ⟨x.m,x.n,x.k,0,0,⟨0,0,false⟩,⟨0,0,false⟩,⟨0,false⟩⟩
theorem act (x:Im):ao pg Kp [.agg (tg x)] (.agg (tg (DP x))):=by
 refine aL jC ?_
 unfold DP
 by_cases q0:x.k=0
 ·rw [ap q0]
  simp only [go_sem,jC,dV q0]
  exact aJ [] (by simp only [go_sem];try rfl) (by rfl)
 rw [ah q0]
 by_cases q1:x.k=1
 ·rw [ap q1]
  simp only [go_sem,jC,ay q0,dV q1]
  exact aJ [] (by simp only [go_sem];try rfl) (by rfl)
 rw [ah q1]
 by_cases q2:x.k=2
 ·rw [ap q2]
  simp only [go_sem,jC,ay q0,ay q1,dV q2]
  exact aJ [] (by simp only [go_sem];try rfl) (by rfl)
 rw [ah q2]
 by_cases q3:x.k=3
 ·rw [ap q3]
  simp only [go_sem,jC,ay q0,ay q1,ay q2,dV q3]
  exact aJ [] (by simp only [go_sem];try rfl) (by rfl)
 rw [ah q3]
 simp only [go_sem,jC,ay q0,ay q1,ay q2,ay q3]
 exact aJ [] (by simp only [go_sem];try rfl) (by rfl)
end
section
def L6 (x:Im):Int:=if xP x.m≠0 then xP x.m else if xP x.n≠0 then xP x.n else if x.k<0∨x.k>3∨DP x≠x then 1 else if x.k=1 then Le ⟨x.te,x.tl⟩ else if x.k=2 then NY x.me else if x.k=3 then VK x.g else if rP x.f=false then 11 else 0
attribute [local go_sem] di dw dd dY dt db sA fS fR fp eW iH dE aW
theorem af0 (x:Im):ao pg ED [.agg (tg x)] (.int .i64 (L6 x)):=by
 refine aL tu ?_
 have c1:=Ik x.m
 have c2:=Ik x.n
 have c3:=act x
 have c4:=NV ⟨x.te,x.tl⟩
 have c5:=aab x.me
 have c6:=Tw x.g
 have c7:=vq x.f
 simp only [dd] at c3
 unfold L6
 simp only [go_sem,tu]
 refine ax (c1) ?_
 by_cases q0:xP x.m=0
 rotate_left
 ·rw [ap q0]
  simp only [go_sem,bv q0]
  exact aj
 rw [ah (by simp [q0])]
 simp only [go_sem,aD q0]
 refine ax (c2) ?_
 by_cases q1:xP x.n=0
 rotate_left
 ·rw [ap q1]
  simp only [go_sem,bv q1]
  exact aj
 rw [ah (by simp [q1])]
 by_cases q2:x.k<0
 ·rw [ap (.inl q2)]
  simp only [go_sem,aD q1,aO q2]
  exact aj
 by_cases q3:x.k>3
 ·rw [ap (.inr (.inl q3))]
  simp only [go_sem,aD q1,aQ q2,aO q3]
  exact aj
 simp only [go_sem,aD q1,aQ q2,aQ q3]
 refine fG c3 (by simp [go_sem]) rfl ?_
 by_cases q4:DP x=x
 rotate_left
 ·rw [ap (.inr (.inr q4))]
  simp only [go_sem,Eg,aQ q4,cD]
  exact aj
 rw [ah (fun q=>by rcases q with z | z | z;exact q2 z;exact q3 z;exact z q4)]
 by_cases k1:x.k=1
 ·rw [ap k1]
  simp only [go_sem,Eg,aO q4,dh,dV k1]
  refine aa (c4) ?_
  exact aj
 rw [ah k1]
 by_cases k2:x.k=2
 ·rw [ap k2]
  simp only [go_sem,Eg,aO q4,dh,ay k1,dV k2]
  refine aa (c5) ?_
  exact aj
 rw [ah k2]
 by_cases k3:x.k=3
 ·rw [ap k3]
  simp only [go_sem,Eg,aO q4,dh,ay k1,ay k2,dV k3]
  refine aa (c6) ?_
  exact aj
 rw [ah k3]
 simp only [go_sem,Eg,aO q4,dh,ay k1,ay k2,ay k3]
 refine ax (c7) ?_
 cases rP x.f
 ·simp only [go_sem]
  exact aJ [] (by simp only [go_sem];try rfl) (by rfl)
 ·simp only [go_sem]
  exact aJ [] (by simp only [go_sem];try rfl) (by rfl)
def sN (P:aZ→Bool):List (List aZ)→Int×Int
 | []=>(0,0)
 | l :: r=>if (gd P l).2≠0 then gd P l else sN P r
theorem K3 {P:aZ→Bool} {l:List (List aZ)} {i:Nat} (h:i<l.length):sN P (l.drop i)=if (gd P (ac l i)).2≠0 then gd P (ac l i) else sN P (l.drop (i+1)):=by
 rw [xg h];rfl
def RR (P:aZ→Bool) (x:El):Int×Int :=
 if x.mo<0∨x.mo>2∨(x.mo≠0∧(x.tb≠0∨x.o.length>0)) then (0,1) else if rP x.tb=false then (0,11) else if Jt x.ty=false then (0,12) else if x.it.length>256 then (0,6) else sN P (x.o :: x.it)
theorem acz (P:aZ→Bool) (x:El) (h:Zn x) (hP:∀y,VR y→ao pg cz [dJ y] (.bool (P y))):ao pg Ks [.agg (gP x)] (.tup [.int .i64 (RR P x).1,.int .i64 (RR P x).2]):=by
 refine aL gG ?_
 have c1:=vq x.tb
 have c2:=Kj x.ty
 have hR:∀l∈x.o :: x.it,ao pg EE [.sl 9 (l.map aW)] (.tup [.int .i64 (gd P l).1,.int .i64 (gd P l).2]):=fun l hl=>by
  rcases dc.1 hl with rfl | hl
  ·exact Kk P _ h.1 fun y hy=>hP y (h.1.2 y hy)
  ·exact Kk P l (h.2.2 l hl) fun y hy=>hP y ((h.2.2 l hl).2 y hy)
 have hil:=h.2.1
 unfold RR
 by_cases q1:x.mo<0
 ·rw [ap (.inl q1)]
  simp only [go_sem,gG,aO q1]
  exact aJ [] (by simp only [go_sem];try rfl) (by rfl)
 by_cases q2:x.mo>2
 ·rw [ap (.inr (.inl q2))]
  simp only [go_sem,gG,aQ q1,aO q2]
  exact aJ [] (by simp only [go_sem];try rfl) (by rfl)
 by_cases q3:x.mo=0
 ·rw [ah (fun q=>by rcases q with z | z | z;exact q1 z;exact q2 z;exact z.1 q3)]
  simp only [go_sem,gG,aQ q1,aQ q2,aD q3]
  refine ax (c1) ?_
  cases rP x.tb
  ·simp only [go_sem]
   exact aJ [] (by simp only [go_sem];try rfl) (by rfl)
  rw [ah (by decide)]
  simp only [go_sem]
  refine ax (c2) ?_
  cases Jt x.ty
  ·simp only [go_sem]
   exact aJ [] (by simp only [go_sem];try rfl) (by rfl)
  rw [ah (by decide)]
  by_cases q5:(x.it.length:Int)>256
  ·rw [ap (by omega)]
   simp only [go_sem,aO q5]
   exact aJ [] (by simp only [go_sem];try rfl) (by rfl)
  rw [ah (by omega)]
  obtain ⟨G,hG⟩:∃G,sN P (x.o :: x.it)=G:=⟨_,rfl⟩
  rw [hG]
  have happ:=fun ys=>cZ 50 59 1 1 oU [x.o] ys rfl
  have hlen:(x.o :: x.it).length=1+x.it.length:=by rw [eA];omega
  simp only [ej,List.map_nil,iH] at happ
  simp only [go_sem,aQ q5,happ]
  refine ⟨by omega,?_⟩
  generalize hL:x.o :: x.it=L at *
  refine aw (fun j:Nat=>⟨[(55,.int .i64 j),(54,.int .i64 ((1+x.it.length:Nat):Int)),(53,.ms 50 1 0 (1+x.it.length))],[(50,⟨59,1,L.map oU,false⟩)]⟩) (fun j=>j≤L.length∧G=sN P (L.drop j)) (fun j=>L.length - j) 0 ⟨cX _,hG.symm⟩ (Wk.of ?_ ?_) ?_
  ·simp only [go_sem];try simp
  ·rw [← hL]
   simp only [go_sem];try simp [iH]
  rintro j ⟨hj,hx⟩
  by_cases h1:(j:Int)<((1+x.it.length:Nat):Int)
  rotate_left
  ·rw [x8 (by omega)] at hx
   obtain rfl:G=(0,0):=hx
   simp only [go_sem,aQ h1]
   exact aj
  have hj':j<L.length:=by omega
  have hj2:j<1+x.it.length:=by omega
  have e8:=dz hj' (by omega)
  rw [K3 hj'] at hx
  have cc:=eT hR hj'
  by_cases hz:(gd P (ac L j)).2=0
  rotate_left
  ·rw [ap hz] at hx
   subst hx
   simp only [go_sem,aO h1,hj2,hlen]
   refine ⟨by omega,?_⟩
   refine ax (cc) ?_
   simp only [go_sem,bv hz]
   exact aj
  rw [ah (by simp [hz])] at hx
  simp only [go_sem,aO h1,hj2,hlen]
  refine ⟨by omega,?_⟩
  refine ax (cc) ?_
  simp only [go_sem,aD hz]
  refine aG (j+1) ⟨show j+1≤1+x.it.length by omega,hx⟩ (show 1+x.it.length - (j+1)<1+x.it.length - j by omega) (Wk.of ?_ ?_)
  ·simp only [go_sem,e8];try simp
  ·simp only [go_sem];try simp [iH]
 by_cases q4:x.tb=0
 rotate_left
 ·rw [ap (.inr (.inr ⟨q3,.inl q4⟩))]
  simp only [go_sem,gG,aQ q1,aQ q2,bv q3,bv q4]
  exact aJ [] (by simp only [go_sem];try rfl) (by rfl)
 by_cases q6:(x.o.length:Int)>0
 ·rw [ap (.inr (.inr ⟨q3,.inr (by omega)⟩))]
  simp only [go_sem,gG,aQ q1,aQ q2,bv q3,aD q4,aO q6]
  exact aJ [] (by simp only [go_sem];try rfl) (by rfl)
 rw [ah (fun q=>by rcases q with z | z | z;exact q1 z;exact q2 z;rcases z.2 with y | y;exact y q4;omega)]
 simp only [go_sem,gG,aQ q1,aQ q2,bv q3,aD q4,aQ q6]
 refine ax (c1) ?_
 cases rP x.tb
 ·simp only [go_sem]
  exact aJ [] (by simp only [go_sem];try rfl) (by rfl)
 rw [ah (by decide)]
 simp only [go_sem]
 refine ax (c2) ?_
 cases Jt x.ty
 ·simp only [go_sem]
  exact aJ [] (by simp only [go_sem];try rfl) (by rfl)
 rw [ah (by decide)]
 by_cases q5:(x.it.length:Int)>256
 ·rw [ap (by omega)]
  simp only [go_sem,aO q5]
  exact aJ [] (by simp only [go_sem];try rfl) (by rfl)
 rw [ah (by omega)]
 obtain ⟨G,hG⟩:∃G,sN P (x.o :: x.it)=G:=⟨_,rfl⟩
 rw [hG]
 have happ:=fun ys=>cZ 50 59 1 1 oU [x.o] ys rfl
 have hlen:(x.o :: x.it).length=1+x.it.length:=by rw [eA];omega
 simp only [ej,List.map_nil,iH] at happ
 simp only [go_sem,aQ q5,happ]
 refine ⟨by omega,?_⟩
 generalize hL:x.o :: x.it=L at *
 refine aw (fun j:Nat=>⟨[(55,.int .i64 j),(54,.int .i64 ((1+x.it.length:Nat):Int)),(53,.ms 50 1 0 (1+x.it.length))],[(50,⟨59,1,L.map oU,false⟩)]⟩) (fun j=>j≤L.length∧G=sN P (L.drop j)) (fun j=>L.length - j) 0 ⟨cX _,hG.symm⟩ (Wk.of ?_ ?_) ?_
 ·simp only [go_sem];try simp
 ·rw [← hL]
  simp only [go_sem];try simp [iH]
 rintro j ⟨hj,hx⟩
 by_cases h1:(j:Int)<((1+x.it.length:Nat):Int)
 rotate_left
 ·rw [x8 (by omega)] at hx
  obtain rfl:G=(0,0):=hx
  simp only [go_sem,aQ h1]
  exact aj
 have hj':j<L.length:=by omega
 have hj2:j<1+x.it.length:=by omega
 have e8:=dz hj' (by omega)
 rw [K3 hj'] at hx
 have cc:=eT hR hj'
 by_cases hz:(gd P (ac L j)).2=0
 rotate_left
 ·rw [ap hz] at hx
  subst hx
  simp only [go_sem,aO h1,hj2,hlen]
  refine ⟨by omega,?_⟩
  refine ax (cc) ?_
  simp only [go_sem,bv hz]
  exact aj
 rw [ah (by simp [hz])] at hx
 simp only [go_sem,aO h1,hj2,hlen]
 refine ⟨by omega,?_⟩
 refine ax (cc) ?_
 simp only [go_sem,aD hz]
 refine aG (j+1) ⟨show j+1≤1+x.it.length by omega,hx⟩ (show 1+x.it.length - (j+1)<1+x.it.length - j by omega) (Wk.of ?_ ?_)
 ·simp only [go_sem,e8];try simp
 ·simp only [go_sem];try simp [iH]
end
section
attribute [local go_sem] di dw dd dY dt db sA fS fR fp eW aW
theorem k_1 (i:Int) (x:Ft) (h:smF x):ao pg sB [.int .i64 i,.agg (rK x)] (.tup [.int .i64 0,.int .i64 (LT x)]):=by
 refine aL sg ?_
 have c:=afZ x h
 try simp only [dw,dd,dY,dt,db,fS,fp] at c
 simp only [go_sem,sg]
 refine aa (c) ?_
 exact aj
theorem k_2 (i:Int) (x:Im):ao pg sC [.int .i64 i,.agg (tg x)] (.tup [.int .i64 0,.int .i64 (L6 x)]):=by
 refine aL si ?_
 have c:=af0 x
 try simp only [dw,dd,dY,dt,db,fS,fp] at c
 simp only [go_sem,si]
 refine aa (c) ?_
 exact aj
theorem k_3 (i:Int) (x:Cd) (h:Vd x):ao pg sD [.int .i64 i,.agg (qf x)] (.tup [.int .i64 0,.int .i64 (Qs x)]):=by
 refine aL sj ?_
 have c:=acv x h
 try simp only [dw,dd,dY,dt,db,fS,fp] at c
 simp only [go_sem,sj]
 refine aa (c) ?_
 exact aj
theorem k_4 (i:Int) (x:Tb):ao pg sE [.int .i64 i,.agg (xR x)] (.tup [.int .i64 0,.int .i64 (Le x)]):=by
 refine aL sk ?_
 have c:=NV x
 try simp only [dw,dd,dY,dt,db,fS,fp] at c
 simp only [go_sem,sk]
 refine aa (c) ?_
 exact aj
theorem k_5 (i:Int) (x:Lm):ao pg sF [.int .i64 i,.agg (ry x)] (.tup [.int .i64 0,.int .i64 (NY x)]):=by
 refine aL sn ?_
 have c:=aab x
 try simp only [dw,dd,dY,dt,db,fS,fp] at c
 simp only [go_sem,sn]
 refine aa (c) ?_
 exact aj
theorem k_7 (i:Int) (x:Ex):ao pg sH [.int .i64 i,.agg (xN x)] (.tup [.int .i64 0,.int .i64 (LL x)]):=by
 refine aL ss ?_
 have c:=Tv x
 try simp only [dw,dd,dY,dt,db,fS,fp] at c
 simp only [go_sem,ss]
 refine aa (c) ?_
 exact aj
theorem aiw (i:Int) (x:Cu):ao pg qO [.int .i64 i,.agg (zK x)] (.tup [.int .i64 0,.int .i64 (O2 x)]):=by
 refine aL qA ?_
 have c:=Tu x
 try simp only [dw,dd,dY,dt,db,fS,fp] at c
 simp only [go_sem,qA]
 refine aa (c) ?_
 exact aj
theorem k_8 (P:aZ→Bool) (i:Int) (x:El) (h:Zn x) (hP:∀y,VR y→ao pg cz [dJ y] (.bool (P y))):ao pg sJ [.int .i64 i,.agg (gP x)] (.tup [.int .i64 (RR P x).1,.int .i64 (RR P x).2]):=by
 refine aL su ?_
 have c:=acz P x h hP
 try simp only [eW,fR] at c
 simp only [go_sem,su]
 refine aa (c) ?_
 exact aj
theorem k_9 (P:aZ→Bool) (i:Int) (x:Da) (h:Zm x) (hP:∀y,VR y→ao pg cz [dJ y] (.bool (P y))):ao pg sK [.int .i64 i,.agg (lO x)] (.tup [.int .i64 (RH P x).1,.int .i64 (RH P x).2]):=by
 refine aL sv ?_
 have c:=acy P x h fun y hy=>hP y (h.1.2 y hy)
 try simp only [eW,fR] at c
 simp only [go_sem,sv]
 refine aa (c) ?_
 exact aj
theorem aix (P:aZ→Bool) (i:Int) (x:Cd) (h:Vd x) (hP:∀y,VR y→ao pg cz [dJ y] (.bool (P y))):ao pg qP [.int .i64 i,.agg (qf x)] (.tup [.int .i64 (gd P x.b).1,.int .i64 (gd P x.b).2]):=by
 refine aL qB ?_
 have c:=Kk P x.b h.2 fun y hy=>hP y (h.2.2 y hy)
 try simp only [eW,fR] at c
 simp only [go_sem,qB]
 refine aa (c) ?_
 exact aj
def Xb (P:aZ→Bool) (x:Gd):Int×Int:=if VK x.g≠0 then (0,VK x.g) else gd P x.i
theorem k_6 (P:aZ→Bool) (i:Int) (x:Gd) (h:adW x) (hP:∀y,VR y→ao pg cz [dJ y] (.bool (P y))):ao pg sG [.int .i64 i,.agg (yd x)] (.tup [.int .i64 (Xb P x).1,.int .i64 (Xb P x).2]):=by
 refine aL sq ?_
 have c:=Tw x.g
 have d:=Kk P x.i h fun y hy=>hP y (h.2 y hy)
 unfold Xb
 simp only [go_sem,sq]
 refine ax (c) ?_
 by_cases q:VK x.g=0
 ·rw [ah (by simp [q])]
  simp only [go_sem,aD q]
  refine aa (d) ?_
  exact aj
 ·rw [ap q]
  simp only [go_sem,bv q]
  exact aj
def vF (k:Int) (l:List Im):Nat:=(l.filter fun x=>x.k==k).length
theorem abn {k:Int} {l:List Im} {i:Nat} (h:i<l.length):vF k (l.take (i+1))=vF k (l.take i)+(if (ac l i).k=k then 1 else 0):=by
 unfold vF
 rw [MX h,List.filter_append,bE]
 by_cases q:(ac l i).k=k<;>simp [q]
theorem Rw (k:Int) (l:List Im):vF k l≤l.length:=List.length_filter_le _ _
def ctO (m:Md) (i:Nat):ak:=⟨118,4,[[.int .i64 (vF 0 (m.ims.take i):Nat),.int .i64 (vF 1 (m.ims.take i):Nat),.int .i64 (vF 2 (m.ims.take i):Nat),.int .i64 (vF 3 (m.ims.take i):Nat)]],true⟩
end
section
def nT:Fa:=⟨0,0,0,0⟩
def VO (m:Md):Fa:=fb 1 64 0 (m.ts.map (fun x=>(0,LT x))) nT
def XS (m:Md):Fa:=fb 2 32 0 (m.ims.map (fun x=>(0,L6 x))) (VO m)
def XT (m:Md):Fa:=fb 3 64 (vF 0 m.ims:Nat) (m.fs.map (fun x=>(0,Qs x))) (XS m)
def XU (m:Md):Fa:=fb 4 4 (vF 1 m.ims:Nat) (m.tbs.map (fun x=>(0,Le x))) (XT m)
def XV (m:Md):Fa:=fb 5 2 (vF 2 m.ims:Nat) (m.ms.map (fun x=>(0,NY x))) (XU m)
def XW (P:aZ→Bool) (m:Md):Fa:=fb 6 32 (vF 3 m.ims:Nat) (m.gs.map (Xb P)) (XV m)
def Qu (P:aZ→Bool) (m:Md):Fa:=fb 7 64 0 (m.exs.map (fun x=>(0,LL x))) (XW P m)
def Lp (P:aZ→Bool) (m:Md):Fa:=if m.hs=true∧rP m.st=false then fT (Qu P m) 8 0 0 11 else Qu P m
def XX (P:aZ→Bool) (m:Md):Fa:=fb 9 16 0 (m.els.map (RR P)) (Lp P m)
def Ih (P:aZ→Bool) (m:Md):Fa:=fb 10 16 0 (m.ds.map (RH P)) (XX P m)
def xp (P:aZ→Bool) (m:Md):Fa:=fb 11 8 0 (m.cs.map (fun x=>(0,O2 x))) (Ih P m)
def sU (P:aZ→Bool) (m:Md):Fa:=if (xp P m).c=0 then fb 12 (m.fs.length:Int) 0 (m.fs.map (fun x=>gd P x.b)) (xp P m) else xp P m
attribute [local go_sem] di bC dd ck ctO
theorem Tx (P:aZ→Bool) (m:Md) (h:Gi m) (hP:∀y,VR y→ao pg cz [dJ y] (.bool (P y))):ao pg F2 [dH m] (.agg [.int .i64 (sU P m).p,.int .i64 (sU P m).i,.int .i64 (sU P m).l,.int .i64 (sU P m).c]):=by
 refine aL wt ?_
 have c1:CM ml [.int .i64 1,.sl 2 (m.ts.map rK),.int .i64 64,.int .i64 0,.fn sB []] nT (VO m):=TE (by kernel_rfl) (fun x=>(0,LT x)) m.ts (by have:=h.ts.1;omega) (fun x hx i=>k_1 i x (h.ts.2 x hx)) 1 64 0 nT
 have c2:CM kf [.int .i64 2,.sl 13 (m.ims.map tg),.int .i64 32,.int .i64 0,.fn sC []] (VO m) (XS m):=TG (by kernel_rfl) (fun x=>(0,L6 x)) m.ims (by have:=h.ims;omega) (fun x hx i=>k_2 i x) 2 32 0 (VO m)
 have c3:CM gY [.int .i64 3,.sl 3 (m.fs.map qf),.int .i64 64,.int .i64 (vF 0 m.ims:Nat),.fn sD []] (XS m) (XT m):=Ki (by kernel_rfl) (fun x=>(0,Qs x)) m.fs (by have:=h.fs.1;omega) (fun x hx i=>k_3 i x (h.fs.2 x hx)) 3 64 (vF 0 m.ims:Nat) (XS m)
 have c4:CM kO [.int .i64 4,.sl 4 (m.tbs.map xR),.int .i64 4,.int .i64 (vF 1 m.ims:Nat),.fn sE []] (XT m) (XU m):=TI (by kernel_rfl) (fun x=>(0,Le x)) m.tbs (by have:=h.tbs;omega) (fun x hx i=>k_4 i x) 4 4 (vF 1 m.ims:Nat) (XT m)
 have c5:CM kg [.int .i64 5,.sl 3 (m.ms.map ry),.int .i64 2,.int .i64 (vF 2 m.ims:Nat),.fn sF []] (XU m) (XV m):=TH (by kernel_rfl) (fun x=>(0,NY x)) m.ms (by have:=h.ms;omega) (fun x hx i=>k_5 i x) 5 2 (vF 2 m.ims:Nat) (XU m)
 have c6:CM iI [.int .i64 6,.sl 3 (m.gs.map yd),.int .i64 32,.int .i64 (vF 3 m.ims:Nat),.fn sG []] (XV m) (XW P m):=TF (by kernel_rfl) (Xb P) m.gs (by have:=h.gs.1;omega) (fun x hx i=>k_6 P i x (h.gs.2 x hx) hP) 6 32 (vF 3 m.ims:Nat) (XV m)
 have c7:CM ke [.int .i64 7,.sl 3 (m.exs.map xN),.int .i64 64,.int .i64 0,.fn sH []] (XW P m) (Qu P m):=TD (by kernel_rfl) (fun x=>(0,LL x)) m.exs (by have:=h.exs;omega) (fun x hx i=>k_7 i x) 7 64 0 (XW P m)
 have c9:CM mj [.int .i64 9,.sl 5 (m.els.map gP),.int .i64 16,.int .i64 0,.fn sJ []] (Lp P m) (XX P m):=TC (by kernel_rfl) (RR P) m.els (by have:=h.els.1;omega) (fun x hx i=>k_8 P i x (h.els.2 x hx) hP) 9 16 0 (Lp P m)
 have c10:CM mi [.int .i64 10,.sl 4 (m.ds.map lO),.int .i64 16,.int .i64 0,.fn sK []] (XX P m) (Ih P m):=TB (by kernel_rfl) (RH P) m.ds (by have:=h.ds.1;omega) (fun x hx i=>k_9 P i x (h.ds.2 x hx) hP) 10 16 0 (XX P m)
 have c11:CM kc [.int .i64 11,.sl 3 (m.cs.map zK),.int .i64 8,.int .i64 0,.fn qO []] (Ih P m) (xp P m):=TA (by kernel_rfl) (fun x=>(0,O2 x)) m.cs (by have:=h.cs.1;omega) (fun x hx i=>aiw i x) 11 8 0 (Ih P m)
 have c8:=vq m.st
 have c12:CM gY [.int .i64 12,.sl 3 (m.fs.map qf),.int .i64 (m.fs.length:Int),.int .i64 0,.fn qP []] (xp P m) (fb 12 (m.fs.length:Int) 0 (m.fs.map (fun x=>gd P x.b)) (xp P m)):=Ki (by kernel_rfl) (fun x=>gd P x.b) m.fs (by have:=h.fs.1;omega) (fun x hx i=>aix P i x (h.fs.2 x hx) hP) 12 (m.fs.length:Int) 0 (xp P m)
 simp only [go_sem,wt,dH]
 refine aw (fun j:Nat=>⟨[(13,.int .i64 j),(12,.int .i64 m.ims.length),(11,.sl 13 (m.ims.map tg)),(3,.mp 8 4 0 0),(4,.mp 4 4 0 0),(2,.mp 2 4 0 0),(1,.mp 1 12 0 0)],[(8,ck nT),(4,ctO m j),(2,⟨63,4,[[.int .i64 0,.int .i64 0,.int .i64 0,.int .i64 0]],true⟩),(1,⟨33,12,[G3 m],true⟩)]⟩) (fun j=>j≤m.ims.length) (fun j=>m.ims.length - j) 0 (cX _) (Wk.of ?_ ?_) ?_
 ·simp only [go_sem];try simp
 ·simp only [go_sem,oa,vF,nT];try simp
 intro j hj
 by_cases h1:(j:Int)<(m.ims.length:Int)
 ·have hj':j<m.ims.length:=by omega
  have hil:=h.ims
  have e8:=dz hj' (by omega)
  have t:=fun k=>abn (k:=k) hj'
  have hle:=fun k=>gz (Rw k (m.ims.take j)) (by rw [pm];omega:(m.ims.take j).length≤j)
  have w:=fun k:Int=>(by have:=hle k;rw [wi (by omega) (by omega)];omega:IntKind.i64.wrap ((vF k (m.ims.take j):Int)+1)=((vF k (m.ims.take j)+1:Nat):Int))
  by_cases q0:(ac m.ims j).k=0
  ·simp only [go_sem,aO h1,q0,show decide ((0:Int)≥0)=true from rfl,show decide ((0:Int)≤3)=true from rfl,Nat.mul_one,Int.toNat_zero,Int.toNat_one,Int.reduceToNat,Nat.reduceMul,Nat.reduceAdd]
   refine ⟨by omega,h1,⟨by omega,by omega⟩,⟨by omega,by omega⟩,aG (j+1) (show j+1≤m.ims.length by omega) (show m.ims.length - (j+1)<m.ims.length - j by omega) (Wk.of ?_ ?_)⟩
   ·simp only [go_sem,e8];try simp
   ·simp only [go_sem];try simp [t,q0,w]
  by_cases q1:(ac m.ims j).k=1
  ·simp only [go_sem,aO h1,q1,show decide ((1:Int)≥0)=true from rfl,show decide ((1:Int)≤3)=true from rfl,Nat.mul_one,Int.toNat_zero,Int.toNat_one,Int.reduceToNat,Nat.reduceMul,Nat.reduceAdd]
   refine ⟨by omega,h1,⟨by omega,by omega⟩,⟨by omega,by omega⟩,aG (j+1) (show j+1≤m.ims.length by omega) (show m.ims.length - (j+1)<m.ims.length - j by omega) (Wk.of ?_ ?_)⟩
   ·simp only [go_sem,e8];try simp
   ·simp only [go_sem];try simp [t,q1,w]
  by_cases q2:(ac m.ims j).k=2
  ·simp only [go_sem,aO h1,q2,show decide ((2:Int)≥0)=true from rfl,show decide ((2:Int)≤3)=true from rfl,Nat.mul_one,Int.toNat_zero,Int.toNat_one,Int.reduceToNat,Nat.reduceMul,Nat.reduceAdd]
   refine ⟨by omega,h1,⟨by omega,by omega⟩,⟨by omega,by omega⟩,aG (j+1) (show j+1≤m.ims.length by omega) (show m.ims.length - (j+1)<m.ims.length - j by omega) (Wk.of ?_ ?_)⟩
   ·simp only [go_sem,e8];try simp
   ·simp only [go_sem];try simp [t,q2,w]
  by_cases q3:(ac m.ims j).k=3
  ·simp only [go_sem,aO h1,q3,show decide ((3:Int)≥0)=true from rfl,show decide ((3:Int)≤3)=true from rfl,Nat.mul_one,Int.toNat_zero,Int.toNat_one,Int.reduceToNat,Nat.reduceMul,Nat.reduceAdd]
   refine ⟨by omega,h1,⟨by omega,by omega⟩,⟨by omega,by omega⟩,aG (j+1) (show j+1≤m.ims.length by omega) (show m.ims.length - (j+1)<m.ims.length - j by omega) (Wk.of ?_ ?_)⟩
   ·simp only [go_sem,e8];try simp
   ·simp only [go_sem];try simp [t,q3,w]
  by_cases q5:(ac m.ims j).k≥0
  ·simp only [go_sem,aO h1,aO q5,aQ (show ¬(ac m.ims j).k≤3 by omega)]
   refine ⟨by omega,h1,aG (j+1) (show j+1≤m.ims.length by omega) (show m.ims.length - (j+1)<m.ims.length - j by omega) (Wk.of ?_ ?_)⟩
   ·simp only [go_sem,e8];try simp
   ·simp only [go_sem];try simp [t,q0,q1,q2,q3]
  ·simp only [go_sem,aO h1,aQ q5]
   refine ⟨by omega,h1,aG (j+1) (show j+1≤m.ims.length by omega) (show m.ims.length - (j+1)<m.ims.length - j by omega) (Wk.of ?_ ?_)⟩
   ·simp only [go_sem,e8];try simp
   ·simp only [go_sem];try simp [t,q0,q1,q2,q3]
 obtain rfl:j=m.ims.length:=by omega
 simp only [go_sem,aQ h1,kC]
 refine ab (c1) ?_
 simp only [go_sem,Nat.mul_one,Int.toNat_zero,Int.toNat_one,Int.reduceToNat,Nat.reduceMul,Nat.reduceAdd]
 refine ab (c2) ?_
 simp only [go_sem,Nat.mul_one,Int.toNat_zero,Int.toNat_one,Int.reduceToNat,Nat.reduceMul,Nat.reduceAdd]
 refine ⟨⟨by omega,by omega⟩,?_⟩
 refine ab (c3) ?_
 simp only [go_sem,Nat.mul_one,Int.toNat_zero,Int.toNat_one,Int.reduceToNat,Nat.reduceMul,Nat.reduceAdd]
 refine ⟨⟨by omega,by omega⟩,?_⟩
 refine ab (c4) ?_
 simp only [go_sem,Nat.mul_one,Int.toNat_zero,Int.toNat_one,Int.reduceToNat,Nat.reduceMul,Nat.reduceAdd]
 refine ⟨⟨by omega,by omega⟩,?_⟩
 refine ab (c5) ?_
 simp only [go_sem,Nat.mul_one,Int.toNat_zero,Int.toNat_one,Int.reduceToNat,Nat.reduceMul,Nat.reduceAdd]
 refine ⟨⟨by omega,by omega⟩,?_⟩
 refine ab (c6) ?_
 simp only [go_sem,Nat.mul_one,Int.toNat_zero,Int.toNat_one,Int.reduceToNat,Nat.reduceMul,Nat.reduceAdd]
 refine ab (c7) ?_
 simp only [go_sem,Nat.mul_one,Int.toNat_zero,Int.toNat_one,Int.reduceToNat,Nat.reduceMul,Nat.reduceAdd]
 cases hh:m.hs
 ·rw [show Lp P m=Qu P m by unfold Lp;rw [hh,ah (by simp)]] at c9
  simp only [go_sem,hh]
  refine aA (c9) ?_
  refine aA (c10) ?_
  refine aA (c11) ?_
  unfold sU
  by_cases z:(xp P m).c=0
  ·rw [ap z]
   simp only [go_sem,dV z]
   refine aA (c12) ?_
   exact aj
  ·rw [ah z]
   simp only [go_sem,ay z]
   exact aj
 simp only [go_sem,hh]
 refine ax (c8) ?_
 cases hi:rP m.st
 ·have cf:=L8 (Qu P m) 8 0 0 11
  rw [show fT (Qu P m) 8 0 0 11=Lp P m by unfold Lp;rw [hh,hi,ap ⟨rfl,rfl⟩]] at cf
  simp only [go_sem]
  refine aA (cf) ?_
  refine aA (c9) ?_
  refine aA (c10) ?_
  refine aA (c11) ?_
  unfold sU
  by_cases z:(xp P m).c=0
  ·rw [ap z]
   simp only [go_sem,dV z]
   refine aA (c12) ?_
   exact aj
  ·rw [ah z]
   simp only [go_sem,ay z]
   exact aj
 ·rw [show Lp P m=Qu P m by unfold Lp;rw [hi,ah (by simp)]] at c9
  simp only [go_sem]
  refine aA (c9) ?_
  refine aA (c10) ?_
  refine aA (c11) ?_
  unfold sU
  by_cases z:(xp P m).c=0
  ·rw [ap z]
   simp only [go_sem,dV z]
   refine aA (c12) ?_
   exact aj
  ·rw [ah z]
   simp only [go_sem,ay z]
   exact aj
end
section
def Lo (F:Fa):AV:=.agg [.int .i64 F.p,.int .i64 F.i,.int .i64 F.l,.int .i64 F.c]
def zB (p i e:Int):Fa:=if e=0 then nT else ⟨p,i,0,e⟩
def Er (p n most:Int):Fa:=if n>most then ⟨p,if most<0 then 0 else most,0,6⟩ else nT
attribute [local go_sem] di bC dd dE aW Lo
def QA (P:aZ→Bool) (p i:Int) (l:List aZ):Fa:=if (gd P l).2=0 then nT else ⟨p,i,(gd P l).1,(gd P l).2⟩
end
section
attribute [local go_sem] di bC dd dt db
end
section
def LM (F:Fa):ak:=⟨63,4,[[.int .i64 F.p,.int .i64 F.i,.int .i64 F.l,.int .i64 F.c]],true⟩
def gr {α:Type} (g:Nat→α→Fa):Nat→List α→Fa→Fa
 | _,[],F=>F
 | i,x :: l,F=>if F.c≠0 then F else gr g (i+1) l (g i x)
theorem aiA {p n most:Int} (h:(Er p n most).c=0):Er p n most=nT:=by
 unfold Er at h ⊢
 split at h
 ·cases h
 ·rename_i q;rw [ah q]
theorem Rp {p i e:Int} (h:(zB p i e).c=0):zB p i e=nT:=by
 unfold zB at h ⊢
 split at h
 ·rename_i q;rw [ap q]
 ·rename_i q;exact absurd h q
def tyF (m:Md):Fa:=gr (fun i x=>zB 1 i (LT x)) 0 m.ts (Er 1 m.ts.length 64)
attribute [local go_sem] di bC dw dd dt db Lo LM
end
section
attribute [local go_sem] di bC dw dd dt db Lo LM
end
section
def mmF (m:Md):Fa:=gr (fun i x=>zB 5 i (NY x)) 0 m.ms (Er 5 m.ms.length (2 - (vF 2 m.ims:Nat)))
attribute [local go_sem] di bC dw dd dt db Lo LM
end
section
def tbF (m:Md):Fa:=gr (fun i x=>zB 4 i (Le x)) 0 m.tbs (Er 4 m.tbs.length (4 - (vF 1 m.ims:Nat)))
attribute [local go_sem] di bC dw dd dt db Lo LM
end
section
def cdF (m:Md):Fa:=gr (fun i x=>zB 3 i (Qs x)) 0 m.fs (Er 3 m.fs.length (64 - (vF 0 m.ims:Nat)))
attribute [local go_sem] di bC dw dd dt db dY Lo LM
end
end Go.Proofs.YtdfofedlbljnhaaGreatDoor