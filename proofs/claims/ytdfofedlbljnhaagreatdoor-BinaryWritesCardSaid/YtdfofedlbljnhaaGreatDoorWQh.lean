import Derived.Test.YtdfofedlbljnhaaGreatDoorWQg
set_option linter.all false
set_option maxRecDepth 100000
set_option maxHeartbeats 40000000
namespace Go.Proofs.YtdfofedlbljnhaaGreatDoor
open Go Go.Mw
section
def nuB(t:Int):Bool:=(t==1)||(t==2)
def Cf(t:Int):Bool:=(t==3)||(t==4)
def jK(t:Int):Bool:=nuB t||Cf t
def Le(l:Lm)(most:Int):Bool:=if l.mn<0\/l.mn>most then false else if l.hs=false then l.mx==0 else decide (l.mn<=l.mx)&&decide (l.mx<=most)
def iR(l:List Int):Bool:=l.all jK
def jE(s:List UInt8):Int:=if s.length>64 then 6 else if uv s=false then 9 else 0
def A3(x:Ft):Int:=if x.ps.length>8\/x.rs.length>8 then 6 else if iR x.ps=false\/iR x.rs=false then 12 else 0
def Ei(x:Tb):Int:=if Cf x.e=false then 12 else if Le x.l 1024=false then 20 else 0
def Gn(l:Lm):Int:=if Le l 256=false then 20 else 0
def QE(g:Gl):Int:=if jK g.v=false then 12 else 0
def BX(P:bj->Bool):Nat->List bj->Int×Int
 | _,[]=>(0,0)
 | i,x::r=>if P x=false then((i:Int),10)else if x.lb.length>64 then((i:Int),6)else BX P (i+1) r
def fY(P:bj->Bool)(l:List bj):Int×Int:=if l.length>2048 then(2048,6)else BX P 0 l
attribute[local go_sem] cU du cC df
def afA(t:Int):ac pg Ba [.int .i64 t] (.bool (nuB t)):=by
 refine aD lQ ?_;unfold nuB;cases h:(t==1)
 .simp only[go_sem,lQ,h];exact aq [] (by simp only[go_sem,kA]) (by first|rfl|simp[go_sem,ab])
 .simp only[go_sem,lQ,h];exact aq [] (by simp only[go_sem,iT]) (by first|rfl|simp[go_sem,ab])
def JS(t:Int):ac pg Bb [.int .i64 t] (.bool (Cf t)):=by
 refine aD lR ?_;unfold Cf;cases h:(t==3)
 .simp only[go_sem,lR,h];exact aq [] (by simp only[go_sem,kA]) (by first|rfl|simp[go_sem,ab])
 .simp only[go_sem,lR,h];exact aq [] (by simp only[go_sem,iT]) (by first|rfl|simp[go_sem,ab])
def NX(t:Int):ac pg Bc [.int .i64 t] (.bool (jK t)):=by
 refine aD pQ ?_;have c1:=afA t;have c2:=JS t;unfold jK;simp only[go_sem,pQ];refine aj (c1) ?_;cases nuB t
 .simp only[go_sem];refine aa (c2) ?_;exact aq [] (by simp only[go_sem,kA]) (by first|rfl|simp[go_sem,ab])
 .simp only[go_sem];exact aq [] (by simp only[go_sem,iT]) (by first|rfl|simp[go_sem,ab])
def XH(t:Int):ac pg i6 [.int .i64 t] (.bool (!jK t)):=by
 refine aD wT ?_;simp only[go_sem,wT];refine aa (NX t) ?_;exact az
def adO{l:List Int}{i:Nat}(h:i<l.length):iR (l.drop i)=(jK (ah l i)&&iR (l.drop (i+1))):=by
 unfold iR;rw[qk h,xA]
def afz(l:List Int)(hl:l.length<=9223372036854775807):∃r:Int,ac pg dU [.sl 1 (l.map oE),.fn i6 []] (.int .i64 r)/\(iR l=true->r = -1)/\(iR l=false->0<=r):=by
 have key:∀r:Int,(∀i:Nat,i<=l.length->(∀k,k<i->jK (ah l k)=true)->(i<l.length->jK (ah l i)=false->r=i)/\(i=l.length->r = -1))->ac pg dU [.sl 1 (l.map oE),.fn i6 []] (.int .i64 r):=λr hr=>by
  refine aD dT ?_;simp only[go_sem,dT];refine an (λj:Nat=>⟨[(8,.int .i64 j),(7,.int .i64 l.length),(0,.sl 1 (l.map oE)),(1,.fn i6 [])],[]⟩) (λj=>j<=l.length/\∀k,k<j->jK (ah l k)=true) (λj=>l.length-j) 0 ⟨cQ _,λk hk=>by omega⟩ (Wk.of ?_ ?_) ?_
  .simp only[go_sem];try simp
  .simp only[go_sem]
  rintro j ⟨hj,hx⟩;obtain⟨r1,r2⟩:=hr j hj hx;by_cases h1:(j:Int)<(l.length:Int)
  .have hj':j<l.length:=by omega
   have e8:=dv hj' (by omega);have cc:=XH (ah l j);cases hb:jK (ah l j)
   .rw[hb]at cc;rw[r1 hj' hb];simp only[go_sem,aL h1];refine⟨by omega,h1,?_⟩;refine⟨by kernel_rfl,?_⟩;refine aa (cc) ?_;exact az
   .rw[hb]at cc;simp only[go_sem,aL h1];refine⟨by omega,h1,?_⟩;refine⟨by kernel_rfl,?_⟩;refine aa (cc) ?_;refine aE (j+1) ⟨show j+1<=l.length by omega,λk hk=>?_⟩ (show l.length-(j+1)<l.length-j by omega) (Wk.of ?_ ?_)
    .rcases kz k j with h|h
     .exact hx k h
     .rw[show k=j by omega];exact hb
    .simp only[go_sem,e8];try simp
    .simp only[go_sem]
  .rw[r2 (by omega)];simp only[go_sem,aM h1];exact az
 have fnd:(∀k,k<l.length->jK (ah l k)=true)\/∃j,j<l.length/\jK (ah l j)=false/\∀k,k<j->jK (ah l k)=true:=by
  have aux:∀n,n<=l.length->(∀k,k<n->jK (ah l k)=true)\/∃j,j<l.length/\jK (ah l j)=false/\∀k,k<j->jK (ah l k)=true:=λn=>by
   induction n with
   | zero=>exact λ_=>.inl λk hk=>by omega
   | succ n ih =>
    intro hn;rcases ih (by omega)with h|h
    .cases hb:jK (ah l n)
     .exact .inr ⟨n,by omega,hb,h⟩
     .refine .inl λk hk=>?_;rcases kz k n with q|q
      .exact h k q
      .rw[show k=n by omega];exact hb
    .exact .inr h
  exact aux l.length (bG _)
 have all_t:(∀k,k<l.length->jK (ah l k)=true)->iR l=true:=λh=>by
  unfold iR;rw[fz];intro x hx;obtain⟨i,hi,rfl⟩:=List.getElem_of_mem hx;have:=h i hi;rwa[bD hi]at this
 rcases fnd with h|⟨j,hj,hb,h⟩
 .refine⟨-1,key (-1) λi hi hk=>⟨λq qb=>?_,λ_=>rfl⟩,λ_=>rfl,λq=>?_⟩
  .rw[h i q]at qb;cases qb
  .rw[all_t h]at q;cases q
 .refine⟨(j:Int),key (j:Int) λi hi hk=>⟨λq qb=>?_,λq=>?_⟩,λq=>?_,λ_=>by omega⟩
  .rcases kz i j with z|z
   .rw[h i z]at qb;cases qb
   .rcases kz j i with z2|z2
    .rw[hk j z2]at hb;cases hb
    .rw[show i=j by omega]
  .rw[hk j (by omega)]at hb;cases hb
  .unfold iR at q;rw[fz]at q;have:=q _ (na hj);rw[bD hj]at hb;rw[hb]at this;cases this
def abY(l:List Int)(hl:l.length<=9223372036854775807):ac pg gY [.sl 1 (l.map oE),.fn i6 []] (.bool (!iR l)):=by
 obtain⟨r,hr,h1,h2⟩:=afz l hl;refine aD cJ ?_;cases hb:iR l
 .simp only[go_sem,cJ];refine aj (hr) ?_;simp only[go_sem,aL (show r>=0 from h2 hb)];exact aq [] (by simp only[go_sem,wE]) (by first|rfl|simp[go_sem,ab])
 .simp only[go_sem,cJ];refine aj (hr) ?_;simp only[go_sem,aM (show ¬r>=0 by rw[h1 hb];decide)];exact aq [] (by simp only[go_sem,pq]) (by first|rfl|simp[go_sem,ab])
def Hy(l:List Int)(hl:l.length<=9223372036854775807):ac pg J2 [.sl 1 (l.map oE)] (.bool (iR l)):=by
 refine aD AM ?_;simp only[go_sem,AM];refine aj (abY l hl) ?_;simp only[go_sem,Bool.not_not];exact az
def vR(i:Int):ac pg HB [.int .i64 i] (.bool (nX i)):=by
 refine aD rR ?_;unfold nX;by_cases h:(0:Int)<=i
 .simp only[go_sem,rR,aL (show i>=0 from h)];exact aq [] (by simp only[go_sem,aL h,bW]) (by first|rfl|simp[go_sem,ab])
 .simp only[go_sem,rR,aM (show ¬i>=0 from h)];exact aq [] (by simp only[go_sem,aM h,dR]) (by first|rfl|simp[go_sem,ab])
def afx(x:Ft)(h:smF x):ac pg BC [.agg (vK x)] (.int .i64 (A3 x)):=by
 refine aD i_ ?_;have c1:=Hy x.ps (by have:=h.1;omega);have c2:=Hy x.rs (by have:=h.2;omega);unfold A3;by_cases q1:(x.ps.length:Int)>8
 .rw[aF (.inl (by omega))];simp only[go_sem,i_,aL q1];exact az
 by_cases q2:(x.rs.length:Int)>8
 .rw[aF (.inr (by omega))];simp only[go_sem,i_,aM q1,aL q2];exact az
 rw[au (by omega)];simp only[go_sem,i_,aM q1,aM q2];refine aj (c1) ?_;cases iR x.ps
 .simp only[go_sem];exact aq [] (by simp only[go_sem];try rfl) (by rfl)
 simp only[go_sem];refine aj (c2) ?_;cases iR x.rs
 .simp only[go_sem];exact aq [] (by simp only[go_sem];try rfl) (by rfl)
 .simp only[go_sem];exact aq [] (by simp only[go_sem];try rfl) (by rfl)
end
section
structure Fa where
 p:Int
 i:Int
 l:Int
 c:Int
def ck(F:Fa):ao:=⟨117,4,[[.int .i64 F.p,.int .i64 F.i,.int .i64 F.l,.int .i64 F.c]],true⟩
def fV(F:Fa)(p i l e:Int):Fa:=if F.c=0/\e≠0 then⟨p,i,l,e⟩else F
def CM(f:FuncId)(rest:List AV)(F F':Fa):Prop:=aX pg f (.mp 1000 4 0 0::rest) [(1000,ck F)] (λid=>1000<=id/\id<2000) (λr' σ'=>r' = .tup []/\σ'=[(1000,ck F')])
attribute[local go_sem] cU ck du cP cK df cC s8 fU ef eS bh iz aS
def LY(F:Fa)(p i l e:Int):CM jk [.int .i64 p,.int .i64 i,.int .i64 l,.int .i64 e] F (fV F p i l e):=by
 refine bT fC ?_;unfold fV;by_cases h1:F.c=0
 .by_cases h2:e=0
  .rw[au (by simp[h2])];simp only[go_sem,fC,be h1,bB h2];exact da [] _ [(1000,ck F)] ⟨rfl,rfl⟩
  .rw[aF ⟨h1,h2⟩];simp only[go_sem,fC,be h1,bv h2];exact da [] _ [(1000,ck ⟨p,i,l,e⟩)] ⟨rfl,rfl⟩
 .rw[au (λq=>h1 q.1)];simp only[go_sem,fC,aw h1];exact da [] _ [(1000,ck F)] ⟨rfl,rfl⟩
def Ic{α β:Type}[Inhabited α][Inhabited β]{f:α->β}{l:List α}{i:Nat}(h:i<l.length):ah (l.map f) i=f (ah l i):=by
 rw[bD (by simpa using h),bD h,List.getElem_map]
def Vr(n:Int):Nat->List (Int×Int)->Fa->Fa
 | _,[],F=>F
 | i,r::l,F=>if F.c≠0 then F else Vr n (i+1) l (fV F n i r.1 r.2)
def fu(n most imp:Int)(res:List (Int×Int))(F:Fa):Fa :=
 Vr n 0 res (if IntKind.i64.wrap ((res.length:Int)+imp)>most then fV F n (if 0<IntKind.i64.wrap (most-imp)then IntKind.i64.wrap (most-imp)else 0) 0 6 else F)
def abp{n:Int}{l:List (Int×Int)}{i:Nat}(h:i<l.length)(F:Fa)(hF:F.c=0):Vr n i (l.drop i) F=Vr n (i+1) (l.drop (i+1)) (fV F n i (ah l i).1 (ah l i).2):=by
 rw[qk h,Vr,au (by simp[hF])]
def Sm{n:Int}{l:List (Int×Int)}{i:Nat}(F:Fa)(hF:F.c≠0):Vr n i l F=F:=by
 cases l with
 | nil=>rfl
 | cons r l=>rw[Vr,aF hF]
def JC{f:FuncId}(h:bP pg f=true):f<4000000:=LP (by kernel_rfl) h
def ptB(t st:Nat)(z:List AV):bR :=
 (.seq (.seq (.reg [mv 16 2,
 o0 17 (.len (.s 16)),
 mv 18 4,
 o0 19 (.bin .add (.s 17) (.s 18)),
 mv 20 3,
 o0 21 (.bin .gtr (.s 19) (.s 20))] [16,17,18,19,20])
 (.cond (.s 21)
 (.reg [mv 22 0,
 mv 23 1,
 mv 24 3,
 mv 25 4,
 o0 26 (.bin .sub (.s 24) (.s 25)),
 o0 27 (.mnx true (.c (.int .i64 0)) (.s 26)),
 o0 28 (.call jk [(.s 22),(.s 23),(.s 27),(.c (.int .i64 0)),(.c (.int .i64 6))])] [22,23,24,25,26,27,28])
 .skip))
 (.seq (.reg [mv 29 2,
 o0 30 (.len (.s 29)),
 o0 31 (.mov (.c (.int .i64 0)))] [])
 (.block 0 (.loop (.seq (.reg [o0 32 (.bin .lss (.s 31) (.s 30))] [])
 (.seq (.cond (.s 32)
 .skip
 (.exit 0))
 (.seq (.block 1 (.seq (.reg [mv 33 31,
 o0 34 (.iadr st (.s 29) (.s 31)),
 o0 35 (.load (some st) (.s 34)),
 o0 13 (.new t z),
 mv 12 33,
 ⟨none,.store st (.s 13) (.s 35),none⟩] [33,34,35])
 (.seq (.seq (.reg [mv 36 0,
 o0 37 (.nchk (.s 36)),
 o0 38 (.fadr 0 (.s 37)),
 o0 39 (.fadr 3 (.s 38)),
 o0 40 (.load none (.s 39)),
 o0 41 (.bin .neq (.s 40) (.c (.int .i64 0)))] [36,37,38,39,40])
 (.cond (.s 41)
 .ret
 .skip))
 (.seq (.reg [mv 43 5,
 mv 44 12,
 o0 45 (.load (some st) (.s 13)),
 o0 46 (.callv (.s 43) [(.s 44),(.s 45)]),
 mv 42 46,
 o0 47 (.ext (.s 42) 0),
 o0 48 (.ext (.s 42) 1),
 mv 14 47,
 mv 15 48] [43,44,45,46,42,47,48])
 (.reg [mv 49 0,
 mv 50 1,
 mv 51 12,
 mv 52 14,
 mv 53 15,
 o0 54 (.call jk [(.s 49),(.s 50),(.s 51),(.s 52),(.s 53)])] [49,50,51,52,53,54])))))
 (.reg [o0 55 (.bin .add (.s 31) (.c (.int .i64 1))),
 mv 31 55] [55]))))))))
def qr{α:Type}[Inhabited α]{m t st:Nat}{z:List AV}{c:α->List AV}(hc:ny pg m=some ⟨56,6,[],ptB t st z⟩)(hz:z.length=st)(hr:∀x,aeu st (c x)){f:FuncId}(hb:bP pg f=true)(g:α->Int×Int)(a:List α)(ha:a.length<=9223372036854775807)
  (hf:∀x∈a,∀i:Int,ac pg f [.int .i64 i,.agg (c x)] (.tup [.int .i64 (g x).1,.int .i64 (g x).2])) (n most imp:Int) (F:Fa) :
  CM m [.int .i64 n,.sl st (a.map c),.int .i64 most,.int .i64 imp,.fn f []] F (fu n most imp (a.map g) F):=by
 refine jy (ic:=ptB t st z) u6 hc rfl rfl ?_;obtain⟨G,hG⟩:∃G,fu n most imp (a.map g) F=G:=⟨_,rfl⟩
 rw[hG];unfold fu at hG;rw[cU]at hG;subst hz;have q1:∀x,yD (some z.length) (c x)=some (.agg (c x)):=λx=>NS (hr x).1;have q2:∀x,I6 13 z.length z.length 0 0 (some ⟨t,z.length,[z],true⟩) (some (c x))=some (.put 13 ⟨t,z.length,[c x],true⟩):=λx=>OA rfl (hr x).1;have q3:∀x i,(c x).any (mC i)=false:=λx i=>(hr x).2.1 i;by_cases hw:IntKind.i64.wrap ((a.length:Int)+imp)>most;rw[aF hw]at hG;simp only[go_sem,ptB,aL hw];refine aH (LY F n (if 0<IntKind.i64.wrap (most-imp)then IntKind.i64.wrap (most-imp)else 0) 0 6) ?_;generalize fV F n (if 0<IntKind.i64.wrap (most-imp)then IntKind.i64.wrap (most-imp)else 0) 0 6=F0 at hG⊢;rotate_left;rw[au hw]at hG;simp only[go_sem,ptB,aM hw];generalize F=F0 at hG⊢
 all_goals
  refine an (λq:Nat×Fa=>⟨[(31,.int .i64 q.1),(30,.int .i64 a.length),(29,.sl z.length (a.map c)),(0,.mp 1000 4 0 0),(1,.int .i64 n),(5,.fn f [])],[(1000,ck q.2)]⟩) (λq=>q.1<=a.length/\G=Vr n q.1 ((a.map g).drop q.1) q.2) (λq=>a.length-q.1) (0,F0) ⟨cQ _,hG.symm⟩ (Wk.of ?_ ?_) ?_
  .simp only[go_sem];try simp
  .simp only[go_sem]
  rintro⟨j,E⟩ ⟨hj,hx⟩;simp only at hj hx;by_cases h1:(j:Int)<(a.length:Int);rotate_left
  .rw[dc (by rw[cU];omega)]at hx;obtain rfl:G=E:=hx;simp only[go_sem,aM h1];exact da [] _ [(1000,ck G)] ⟨rfl,rfl⟩
  have hj':j<a.length:=by omega
  have e8:=dv hj' (by omega);have cc:=bN hf hj' (j:Int);by_cases hE:E.c=0;rotate_left
  .rw[Sm E hE]at hx;obtain rfl:G=E:=hx;simp only[go_sem,aL h1,bv hE,q1,q2,q3];refine⟨by omega,h1,?_⟩;exact eT [] (.tup []) [(1000,ck G)] ⟨rfl,rfl⟩
  rw[abp (by rw[cU];exact hj') E hE,Ic hj']at hx;simp only[go_sem,aL h1,bB hE,q1,q2,q3];refine⟨by omega,h1,?_⟩;rw[aF (JC hb)];refine⟨hb,?_⟩;refine bY cc (λx hx=>?_) ?_
  .rcases eA.1 hx with rfl|hx
   .rfl
   .rcases eA.1 hx with rfl|hx
    .exact(hr _).2.2
    .cases hx
  simp only[go_sem];refine aH (LY E n j (g (ah a j)).1 (g (ah a j)).2) ?_;refine aE (j+1,fV E n j (g (ah a j)).1 (g (ah a j)).2) ⟨show j+1<=a.length by omega,hx⟩ (show a.length-(j+1)<a.length-j by omega) (Wk.of ?_ ?_)
  .simp only[go_sem,e8];try simp
  .simp only[go_sem]
def Tz{f:FuncId}(hb:bP pg f=true)(g:Ft->Int×Int)(a:List Ft)(ha:a.length<=9223372036854775807)(hf:∀x∈a,∀i:Int,ac pg f [.int .i64 i,.agg (vK x)] (.tup [.int .i64 (g x).1,.int .i64 (g x).2]))(n most imp:Int)(F:Fa) :
  CM my [.int .i64 n,.sl 2 (a.map vK),.int .i64 most,.int .i64 imp,.fn f []] F (fu n most imp (a.map g) F):=qr (cF ug) rfl (λ_=>⟨rfl,λ_=>rfl,rfl⟩) hb g a ha hf n most imp F
def TB{f:FuncId}(hb:bP pg f=true)(g:Im->Int×Int)(a:List Im)(ha:a.length<=9223372036854775807)(hf:∀x∈a,∀i:Int,ac pg f [.int .i64 i,.agg (vM x)] (.tup [.int .i64 (g x).1,.int .i64 (g x).2]))(n most imp:Int)(F:Fa) :
  CM j_ [.int .i64 n,.sl 13 (a.map vM),.int .i64 most,.int .i64 imp,.fn f []] F (fu n most imp (a.map g) F):=qr (cF rW) rfl (λ_=>⟨rfl,λ_=>rfl,rfl⟩) hb g a ha hf n most imp F
def JR{f:FuncId}(hb:bP pg f=true)(g:Cd->Int×Int)(a:List Cd)(ha:a.length<=9223372036854775807)(hf:∀x∈a,∀i:Int,ac pg f [.int .i64 i,.agg (qB x)] (.tup [.int .i64 (g x).1,.int .i64 (g x).2]))(n most imp:Int)(F:Fa) :
  CM gW [.int .i64 n,.sl 3 (a.map qB),.int .i64 most,.int .i64 imp,.fn f []] F (fu n most imp (a.map g) F):=qr (cF uc) rfl (λ_=>⟨rfl,λ_=>rfl,rfl⟩) hb g a ha hf n most imp F
def TD{f:FuncId}(hb:bP pg f=true)(g:Tb->Int×Int)(a:List Tb)(ha:a.length<=9223372036854775807)(hf:∀x∈a,∀i:Int,ac pg f [.int .i64 i,.agg (xx x)] (.tup [.int .i64 (g x).1,.int .i64 (g x).2]))(n most imp:Int)(F:Fa) :
  CM kF [.int .i64 n,.sl 4 (a.map xx),.int .i64 most,.int .i64 imp,.fn f []] F (fu n most imp (a.map g) F):=qr (cF tB) rfl (λ_=>⟨rfl,λ_=>rfl,rfl⟩) hb g a ha hf n most imp F
def TC{f:FuncId}(hb:bP pg f=true)(g:Lm->Int×Int)(a:List Lm)(ha:a.length<=9223372036854775807)(hf:∀x∈a,∀i:Int,ac pg f [.int .i64 i,.agg (p7 x)] (.tup [.int .i64 (g x).1,.int .i64 (g x).2]))(n most imp:Int)(F:Fa) :
  CM ka [.int .i64 n,.sl 3 (a.map p7),.int .i64 most,.int .i64 imp,.fn f []] F (fu n most imp (a.map g) F):=qr (cF rX) rfl (λ_=>⟨rfl,λ_=>rfl,rfl⟩) hb g a ha hf n most imp F
def TA{f:FuncId}(hb:bP pg f=true)(g:Gd->Int×Int)(a:List Gd)(ha:a.length<=9223372036854775807)(hf:∀x∈a,∀i:Int,ac pg f [.int .i64 i,.agg (zX x)] (.tup [.int .i64 (g x).1,.int .i64 (g x).2]))(n most imp:Int)(F:Fa) :
  CM iA [.int .i64 n,.sl 3 (a.map zX),.int .i64 most,.int .i64 imp,.fn f []] F (fu n most imp (a.map g) F):=qr (cF pr) rfl (λ_=>⟨rfl,λ_=>rfl,rfl⟩) hb g a ha hf n most imp F
def Tx{f:FuncId}(hb:bP pg f=true)(g:Ex->Int×Int)(a:List Ex)(ha:a.length<=9223372036854775807)(hf:∀x∈a,∀i:Int,ac pg f [.int .i64 i,.agg (y6 x)] (.tup [.int .i64 (g x).1,.int .i64 (g x).2]))(n most imp:Int)(F:Fa) :
  CM j9 [.int .i64 n,.sl 3 (a.map y6),.int .i64 most,.int .i64 imp,.fn f []] F (fu n most imp (a.map g) F):=qr (cF rV) rfl (λ_=>⟨rfl,λ_=>rfl,rfl⟩) hb g a ha hf n most imp F
def Tw{f:FuncId}(hb:bP pg f=true)(g:El->Int×Int)(a:List El)(ha:a.length<=9223372036854775807)(hf:∀x∈a,∀i:Int,ac pg f [.int .i64 i,.agg (fR x)] (.tup [.int .i64 (g x).1,.int .i64 (g x).2]))(n most imp:Int)(F:Fa) :
  CM mw [.int .i64 n,.sl 5 (a.map fR),.int .i64 most,.int .i64 imp,.fn f []] F (fu n most imp (a.map g) F):=qr (cF ue) rfl (λ_=>⟨rfl,λ_=>rfl,rfl⟩) hb g a ha hf n most imp F
def Tv{f:FuncId}(hb:bP pg f=true)(g:Da->Int×Int)(a:List Da)(ha:a.length<=9223372036854775807)(hf:∀x∈a,∀i:Int,ac pg f [.int .i64 i,.agg (nz x)] (.tup [.int .i64 (g x).1,.int .i64 (g x).2]))(n most imp:Int)(F:Fa) :
  CM mr [.int .i64 n,.sl 4 (a.map nz),.int .i64 most,.int .i64 imp,.fn f []] F (fu n most imp (a.map g) F):=qr (cF ud) rfl (λ_=>⟨rfl,λ_=>rfl,rfl⟩) hb g a ha hf n most imp F
def Tu{f:FuncId}(hb:bP pg f=true)(g:Cu->Int×Int)(a:List Cu)(ha:a.length<=9223372036854775807)(hf:∀x∈a,∀i:Int,ac pg f [.int .i64 i,.agg (CB x)] (.tup [.int .i64 (g x).1,.int .i64 (g x).2]))(n most imp:Int)(F:Fa) :
  CM j8 [.int .i64 n,.sl 3 (a.map CB),.int .i64 most,.int .i64 imp,.fn f []] F (fu n most imp (a.map g) F):=qr (cF rT) rfl (λ_=>⟨rfl,λ_=>rfl,rfl⟩) hb g a ha hf n most imp F
end
section
attribute[local go_sem] cU du cP cK df cC s8 fU ef eS bh cL aS
def Hw(l:Lm)(most:Int):ac pg DA [.agg (p7 l),.int .i64 most] (.bool (Le l most)):=by
 refine aD fe ?_;unfold Le;by_cases q1:l.mn<0
 .rw[aF (.inl q1)];simp only[go_sem,fe,aL q1];exact az
 by_cases q2:l.mn>most
 .rw[aF (.inr q2)];simp only[go_sem,fe,aM q1,aL q2];exact az
 rw[au (by omega)];cases hh:l.hs
 .rw[aF rfl];simp only[go_sem,fe,aM q1,aM q2,hh];exact az
 .rw[au (by decide)];by_cases q3:l.mn<=l.mx
  .simp only[go_sem,fe,aM q1,aM q2,hh,aL q3];exact aq [] (by simp only[go_sem,bW]) (by first|rfl|simp[go_sem,ab])
  .simp only[go_sem,fe,aM q1,aM q2,hh,aM q3];exact aq [] (by simp only[go_sem,dR]) (by first|rfl|simp[go_sem,ab])
def NW(x:Tb):ac pg HC [.agg (xx x)] (.int .i64 (Ei x)):=by
 refine aD yG ?_;have c1:=JS x.e;have c2:=Hw x.l 1024;unfold Ei;simp only[go_sem,yG];refine aj (c1) ?_;cases Cf x.e
 .simp only[go_sem];exact aq [] (by simp only[go_sem];try rfl) (by rfl)
 .simp only[go_sem];refine aj (c2) ?_;cases Le x.l 1024
  .simp only[go_sem];exact aq [] (by simp only[go_sem];try rfl) (by rfl)
  .simp only[go_sem];exact aq [] (by simp only[go_sem];try rfl) (by rfl)
def ZI(l:Lm):ac pg EY [.agg (p7 l)] (.int .i64 (Gn l)):=by
 refine aD wQ ?_;have c2:=Hw l 256;unfold Gn;simp only[go_sem,wQ];refine aj (c2) ?_;cases Le l 256
 .simp only[go_sem];exact aq [] (by simp only[go_sem];try rfl) (by rfl)
 .simp only[go_sem];exact aq [] (by simp only[go_sem];try rfl) (by rfl)
def Tq(g:Gl):ac pg EX [.agg [.int .i64 g.v,.bool g.mu]] (.int .i64 (QE g)):=by
 refine aD wO ?_;have c2:=NX g.v;unfold QE;simp only[go_sem,wO];refine aj (c2) ?_;cases jK g.v
 .simp only[go_sem];exact aq [] (by simp only[go_sem];try rfl) (by rfl)
 .simp only[go_sem];exact aq [] (by simp only[go_sem];try rfl) (by rfl)
def Hx(s:List UInt8):ac pg J1 [.str s] (.int .i64 (jE s)):=by
 refine aD t_ ?_;unfold jE;by_cases q1:(s.length:Int)>64
 .rw[aF (by omega)];simp only[go_sem,t_,aL q1];exact az
 rw[au (by omega)];simp only[go_sem,t_,aM q1];refine aj (Oq s (by omega)) ?_;cases uv s
 .simp only[go_sem];exact aq [] (by simp only[go_sem];try rfl) (by rfl)
 .simp only[go_sem];exact aq [] (by simp only[go_sem];try rfl) (by rfl)
def EB(x:Cd):Int:=if nX x.t=false then 11 else if x.lo.length>64 then 6 else if iR x.lo=false then 12 else 0
def abW(x:Cd)(h:YZ x):ac pg JY [.agg (qB x)] (.int .i64 (EB x)):=by
 refine aD AL ?_;have c1:=vR x.t;have c2:=Hy x.lo (by have:=h.1;omega);unfold EB;simp only[go_sem,AL];refine aj (c1) ?_;cases nX x.t
 .simp only[go_sem];exact aq [] (by simp only[go_sem];try rfl) (by rfl)
 rw[au (by decide)];by_cases q1:(x.lo.length:Int)>64
 .rw[aF (by omega)];simp only[go_sem,aL q1];exact az
 rw[au (by omega)];simp only[go_sem,aM q1];refine aj (c2) ?_;cases iR x.lo
 .simp only[go_sem];exact aq [] (by simp only[go_sem];try rfl) (by rfl)
 .simp only[go_sem];exact aq [] (by simp only[go_sem];try rfl) (by rfl)
def Hf(x:Ex):Int:=if jE x.n≠0 then jE x.n else if x.k<0\/x.k>3 then 1 else if nX x.i=false then 11 else 0
def Tp(x:Ex):ac pg EW [.agg (y6 x)] (.int .i64 (Hf x)):=by
 refine aD wM ?_;have c1:=Hx x.n;have c2:=vR x.i;unfold Hf;simp only[go_sem,wM];refine aj (c1) ?_;by_cases q0:jE x.n=0;rotate_left
 .rw[aF q0];simp only[go_sem,bv q0];exact az
 rw[au (by simp[q0])];by_cases q1:x.k<0
 .rw[aF (.inl q1)];simp only[go_sem,bB q0,aL q1];exact az
 by_cases q2:x.k>3
 .rw[aF (.inr q2)];simp only[go_sem,bB q0,aM q1,aL q2];exact az
 rw[au (by omega)];simp only[go_sem,bB q0,aM q1,aM q2];refine aj (c2) ?_;cases nX x.i
 .simp only[go_sem];exact aq [] (by simp only[go_sem];try rfl) (by rfl)
 .simp only[go_sem];exact aq [] (by simp only[go_sem];try rfl) (by rfl)
def Oj{P:bj->Bool}{l:List bj}{i:Nat}(h:i<l.length):BX P i (l.drop i)=if P (ah l i)=false then((i:Int),10)else if(ah l i).lb.length>64 then((i:Int),6)else BX P (i+1) (l.drop (i+1)):=by
 rw[qk h,BX]
def JT(P:bj->Bool)(l:List bj)(hl:KV l)(hP:∀x∈l,ac pg cM [di x] (.bool (P x))):ac pg Dd [.sl 9 (l.map aS)] (.tup [.int .i64 (fY P l).1,.int .i64 (fY P l).2]):=by
 refine aD xB ?_;unfold fY;by_cases q1:(l.length:Int)>2048
 .rw[aF (by omega)];simp only[go_sem,xB,aL q1];exact az
 rw[au (by omega)];obtain⟨G,hG⟩:∃G,BX P 0 l=G:=⟨_,rfl⟩
 rw[hG];simp only[go_sem,xB,aM q1];refine an (λj:Nat=>⟨[(11,.int .i64 j),(10,.int .i64 l.length),(9,.sl 9 (l.map aS))],[]⟩) (λj=>j<=l.length/\G=BX P j (l.drop j)) (λj=>l.length-j) 0 ⟨cQ _,hG.symm⟩ (Wk.of ?_ ?_) ?_
 .simp only[go_sem];try simp
 .simp only[go_sem]
 rintro j ⟨hj,hx⟩;by_cases h1:(j:Int)<(l.length:Int);rotate_left
 .rw[dc (by omega)]at hx;obtain rfl:G=(0,0):=hx;simp only[go_sem,aM h1];exact az
 have hj':j<l.length:=by omega
 have e8:=dv hj' (by have:=hl.1;omega);have cc:=bN hP hj';simp only[cL]at cc;rw[Oj hj']at hx;cases hp:P (ah l j)
 .rw[hp]at cc hx;obtain rfl:G=((j:Int),10):=hx;simp only[go_sem,aL h1];refine⟨by omega,h1,?_⟩;refine aa (cc) ?_;exact az
 rw[hp]at cc hx;rw[au (by decide)]at hx;by_cases q2:((ah l j).lb.length:Int)>64
 .rw[aF (by omega)]at hx;subst hx;simp only[go_sem,aL h1];refine⟨by omega,h1,?_⟩;refine aj (cc) ?_;simp only[go_sem,aL q2];exact az
 rw[au (by omega)]at hx;simp only[go_sem,aL h1];refine⟨by omega,h1,?_⟩;refine aj (cc) ?_;simp only[go_sem,aM q2];refine aE (j+1) ⟨show j+1<=l.length by omega,hx⟩ (show l.length-(j+1)<l.length-j by omega) (Wk.of ?_ ?_)
 .simp only[go_sem,e8];try simp
 .simp only[go_sem]
end
section
def Jl(x:Cu):Int:=if jE x.n≠0 then jE x.n else if x.b.length>4096 then 6 else if x.af<0\/x.af>12 then 1 else 0
attribute[local go_sem] cU du cP cK df cC s8 fU ef eS bh cL aS
def Tn(x:Cu):ac pg EV [.agg (CB x)] (.int .i64 (Jl x)):=by
 refine aD wL ?_;have c1:=Hx x.n;unfold Jl;simp only[go_sem,wL];refine aj (c1) ?_;by_cases q0:jE x.n=0;rotate_left
 .rw[aF q0];simp only[go_sem,bv q0];exact az
 rw[au (by simp[q0])];by_cases q1:(x.b.length:Int)>4096
 .rw[aF (by omega)];simp only[go_sem,bB q0,aL q1];exact az
 rw[au (by omega)];by_cases q2:x.af<0
 .rw[aF (.inl q2)];simp only[go_sem,bB q0,aM q1,aL q2];exact az
 by_cases q3:x.af>12
 .rw[aF (.inr q3)];simp only[go_sem,bB q0,aM q1,aM q2,aL q3];exact az
 rw[au (by omega)];simp only[go_sem,bB q0,aM q1,aM q2,aM q3];exact az
def RW(P:bj->Bool)(x:Da):Int×Int:=if x.mo≠0/\(x.mo≠1\/x.me≠0\/x.o.length>0)then(0,1)else if nX x.me=false then(0,11)else if x.b.length>4096 then(0,6)else fY P x.o
def abZ(P:bj->Bool)(x:Da)(h:adm x)(hP:∀y∈x.o,ac pg cM [di y] (.bool (P y))):ac pg JZ [.agg (nz x)] (.tup [.int .i64 (RW P x).1,.int .i64 (RW P x).2]):=by
 refine aD jv ?_;have c1:=vR x.me;have c2:=JT P x.o h.1 hP;unfold RW;by_cases q1:x.mo=0
 .rw[au (λq=>q.1 q1)];simp only[go_sem,jv,bB q1];refine aj (c1) ?_;cases nX x.me
  .simp only[go_sem];exact aq [] (by simp only[go_sem];try rfl) (by rfl)
  rw[au (by decide)];by_cases q5:(x.b.length:Int)>4096
  .rw[aF (by omega)];simp only[go_sem,aL q5];exact aq [] (by simp only[go_sem];try rfl) (by rfl)
  rw[au (by omega)];simp only[go_sem,aM q5];refine aa (c2) ?_;exact az
 by_cases q2:x.mo=1;rotate_left
 .rw[aF ⟨q1,.inl q2⟩];simp only[go_sem,jv,bv q1,bv q2];exact aq [] (by simp only[go_sem];try rfl) (by rfl)
 by_cases q3:x.me=0;rotate_left
 .rw[aF ⟨q1,.inr (.inl q3)⟩];simp only[go_sem,jv,bv q1,bB q2,bv q3];exact aq [] (by simp only[go_sem];try rfl) (by rfl)
 by_cases q4:(x.o.length:Int)>0
 .rw[aF ⟨q1,.inr (.inr (by omega))⟩];simp only[go_sem,jv,bv q1,bB q2,bB q3,aL q4];exact aq [] (by simp only[go_sem];try rfl) (by rfl)
 rw[au (λq=>by rcases q.2 with z|z|z;exact z q2;exact z q3;omega)];simp only[go_sem,jv,bv q1,bB q2,bB q3,aM q4];refine aj (c1) ?_;cases nX x.me
 .simp only[go_sem];exact aq [] (by simp only[go_sem];try rfl) (by rfl)
 rw[au (by decide)];by_cases q5:(x.b.length:Int)>4096
 .rw[aF (by omega)];simp only[go_sem,aL q5];exact aq [] (by simp only[go_sem];try rfl) (by rfl)
 rw[au (by omega)];simp only[go_sem,aM q5];refine aa (c2) ?_;exact az
def jV(x:Im):Im:=if x.k=0 then⟨x.m,x.n,x.k,x.f,0,⟨0,0,false⟩,⟨0,0,false⟩,⟨0,false⟩⟩else if x.k=1 then⟨x.m,x.n,x.k,0,x.te,x.tl,⟨0,0,false⟩,⟨0,false⟩⟩else if x.k=2 then⟨x.m,x.n,x.k,0,0,⟨0,0,false⟩,x.me,⟨0,false⟩⟩else if x.k=3 then⟨x.m,x.n,x.k,0,0,⟨0,0,false⟩,⟨0,0,false⟩,x.g⟩else⟨x.m,x.n,x.k,0,0,⟨0,0,false⟩,⟨0,0,false⟩,⟨0,false⟩⟩
def abU(x:Im):ac pg JX [.agg (vM x)] (.agg (vM (jV x))):=by
 refine aD ju ?_;unfold jV;by_cases q0:x.k=0
 .rw[aF q0];simp only[go_sem,ju,be q0];exact aq [] (by simp only[go_sem];try rfl) (by rfl)
 rw[au q0];by_cases q1:x.k=1
 .rw[aF q1];simp only[go_sem,ju,aw q0,be q1];exact aq [] (by simp only[go_sem];try rfl) (by rfl)
 rw[au q1];by_cases q2:x.k=2
 .rw[aF q2];simp only[go_sem,ju,aw q0,aw q1,be q2];exact aq [] (by simp only[go_sem];try rfl) (by rfl)
 rw[au q2];by_cases q3:x.k=3
 .rw[aF q3];simp only[go_sem,ju,aw q0,aw q1,aw q2,be q3];exact aq [] (by simp only[go_sem];try rfl) (by rfl)
 rw[au q3];simp only[go_sem,ju,aw q0,aw q1,aw q2,aw q3];exact aq [] (by simp only[go_sem];try rfl) (by rfl)
end
section
def ED(x:Im):Int:=if jE x.m≠0 then jE x.m else if jE x.n≠0 then jE x.n else if x.k<0\/x.k>3\/jV x≠x then 1 else if x.k=1 then Ei ⟨x.te,x.tl⟩else if x.k=2 then Gn x.me else if x.k=3 then QE x.g else if nX x.f=false then 11 else 0
attribute[local go_sem] cU du cP cK df cC s8 fU ef eS bh iz cL aS
def afy(x:Im):ac pg Db [.agg (vM x)] (.int .i64 (ED x)):=by
 refine aD t8 ?_;have c1:=Hx x.m;have c2:=Hx x.n;have c3:=abU x;have c4:=NW ⟨x.te,x.tl⟩;have c5:=ZI x.me;have c6:=Tq x.g;have c7:=vR x.f;simp only[cP]at c3;unfold ED;simp only[go_sem,t8];refine aj (c1) ?_;by_cases q0:jE x.m=0;rotate_left
 .rw[aF q0];simp only[go_sem,bv q0];exact az
 rw[au (by simp[q0])];simp only[go_sem,bB q0];refine aj (c2) ?_;by_cases q1:jE x.n=0;rotate_left
 .rw[aF q1];simp only[go_sem,bv q1];exact az
 rw[au (by simp[q1])];by_cases q2:x.k<0
 .rw[aF (.inl q2)];simp only[go_sem,bB q1,aL q2];exact az
 by_cases q3:x.k>3
 .rw[aF (.inr (.inl q3))];simp only[go_sem,bB q1,aM q2,aL q3];exact az
 simp only[go_sem,bB q1,aM q2,aM q3];refine aN c3 (by simp[go_sem]) rfl ?_;by_cases q4:jV x=x;rotate_left
 .rw[aF (.inr (.inr q4))];simp only[go_sem,JG,aM q4,wE];exact az
 rw[au (λq=>by rcases q with z|z|z;exact q2 z;exact q3 z;exact z q4)];by_cases k1:x.k=1
 .rw[aF k1];simp only[go_sem,JG,aL q4,pq,be k1];refine aa (c4) ?_;exact az
 rw[au k1];by_cases k2:x.k=2
 .rw[aF k2];simp only[go_sem,JG,aL q4,pq,aw k1,be k2];refine aa (c5) ?_;exact az
 rw[au k2];by_cases k3:x.k=3
 .rw[aF k3];simp only[go_sem,JG,aL q4,pq,aw k1,aw k2,be k3];refine aa (c6) ?_;exact az
 rw[au k3];simp only[go_sem,JG,aL q4,pq,aw k1,aw k2,aw k3];refine aj (c7) ?_;cases nX x.f
 .simp only[go_sem];exact aq [] (by simp only[go_sem];try rfl) (by rfl)
 .simp only[go_sem];exact aq [] (by simp only[go_sem];try rfl) (by rfl)
def tx(P:bj->Bool):List (List bj)->Int×Int
 | []=>(0,0)
 | l::r=>if(fY P l).2≠0 then fY P l else tx P r
def KO{P:bj->Bool}{l:List (List bj)}{i:Nat}(h:i<l.length):tx P (l.drop i)=if(fY P (ah l i)).2≠0 then fY P (ah l i)else tx P (l.drop (i+1)):=by
 rw[qk h];rfl
def RZ(P:bj->Bool)(x:El):Int×Int :=
 if x.mo<0\/x.mo>2\/(x.mo≠0/\(x.tb≠0\/x.o.length>0))then(0,1)else if nX x.tb=false then(0,11)else if Cf x.ty=false then(0,12)else if x.it.length>256 then(0,6)else tx P (x.o::x.it)
def ab0(P:bj->Bool)(x:El)(h:adn x)(hP:∀y,Ow y->ac pg cM [di y] (.bool (P y))):ac pg J0 [.agg (fR x)] (.tup [.int .i64 (RZ P x).1,.int .i64 (RZ P x).2]):=by
 refine aD gH ?_;have c1:=vR x.tb;have c2:=JS x.ty;have hR:∀l∈x.o::x.it,ac pg Dd [.sl 9 (l.map aS)] (.tup [.int .i64 (fY P l).1,.int .i64 (fY P l).2]):=λl hl=>by
  rcases eA.1 hl with rfl|hl
  .exact JT P _ h.1 λy hy=>hP y (h.1.2 y hy)
  .exact JT P l (h.2.2 l hl) λy hy=>hP y ((h.2.2 l hl).2 y hy)
 have hil:=h.2.1;unfold RZ;by_cases q1:x.mo<0
 .rw[aF (.inl q1)];simp only[go_sem,gH,aL q1];exact aq [] (by simp only[go_sem];try rfl) (by rfl)
 by_cases q2:x.mo>2
 .rw[aF (.inr (.inl q2))];simp only[go_sem,gH,aM q1,aL q2];exact aq [] (by simp only[go_sem];try rfl) (by rfl)
 by_cases q3:x.mo=0
 .rw[au (λq=>by rcases q with z|z|z;exact q1 z;exact q2 z;exact z.1 q3)];simp only[go_sem,gH,aM q1,aM q2,bB q3];refine aj (c1) ?_;cases nX x.tb
  .simp only[go_sem];exact aq [] (by simp only[go_sem];try rfl) (by rfl)
  rw[au (by decide)];simp only[go_sem];refine aj (c2) ?_;cases Cf x.ty
  .simp only[go_sem];exact aq [] (by simp only[go_sem];try rfl) (by rfl)
  rw[au (by decide)];by_cases q5:(x.it.length:Int)>256
  .rw[aF (by omega)];simp only[go_sem,aL q5];exact aq [] (by simp only[go_sem];try rfl) (by rfl)
  rw[au (by omega)];obtain⟨G,hG⟩:∃G,tx P (x.o::x.it)=G:=⟨_,rfl⟩
  rw[hG];have happ:=λys=>bX 50 59 1 1 jY [x.o] ys rfl;have hlen:(x.o::x.it).length=1+x.it.length:=by rw[aT];omega
  simp only[eR,k9,iz]at happ;simp only[go_sem,aM q5,happ];refine⟨by omega,?_⟩;generalize hL:x.o::x.it=L at*;refine an (λj:Nat=>⟨[(55,.int .i64 j),(54,.int .i64 ((1+x.it.length:Nat):Int)),(53,.ms 50 1 0 (1+x.it.length))],[(50,⟨59,1,L.map jY,false⟩)]⟩) (λj=>j<=L.length/\G=tx P (L.drop j)) (λj=>L.length-j) 0 ⟨cQ _,hG.symm⟩ (Wk.of ?_ ?_) ?_
  .simp only[go_sem];try simp
  .rw[<-hL];simp only[go_sem];try simp[iz]
  rintro j ⟨hj,hx⟩;by_cases h1:(j:Int)<((1+x.it.length:Nat):Int);rotate_left
  .rw[dc (by omega)]at hx;obtain rfl:G=(0,0):=hx;simp only[go_sem,aM h1];exact az
  have hj':j<L.length:=by omega
  have hj2:j<1+x.it.length:=by omega
  have e8:=dv hj' (by omega);rw[KO hj']at hx;have cc:=bN hR hj';by_cases hz:(fY P (ah L j)).2=0;rotate_left
  .rw[aF hz]at hx;subst hx;simp only[go_sem,aL h1,hj2,hlen];refine⟨by omega,?_⟩;refine aj (cc) ?_;simp only[go_sem,bv hz];exact az
  rw[au (by simp[hz])]at hx;simp only[go_sem,aL h1,hj2,hlen];refine⟨by omega,?_⟩;refine aj (cc) ?_;simp only[go_sem,bB hz];refine aE (j+1) ⟨show j+1<=1+x.it.length by omega,hx⟩ (show 1+x.it.length-(j+1)<1+x.it.length-j by omega) (Wk.of ?_ ?_)
  .simp only[go_sem,e8];try simp
  .simp only[go_sem];try simp[iz]
 by_cases q4:x.tb=0;rotate_left
 .rw[aF (.inr (.inr ⟨q3,.inl q4⟩))];simp only[go_sem,gH,aM q1,aM q2,bv q3,bv q4];exact aq [] (by simp only[go_sem];try rfl) (by rfl)
 by_cases q6:(x.o.length:Int)>0
 .rw[aF (.inr (.inr ⟨q3,.inr (by omega)⟩))];simp only[go_sem,gH,aM q1,aM q2,bv q3,bB q4,aL q6];exact aq [] (by simp only[go_sem];try rfl) (by rfl)
 rw[au (λq=>by rcases q with z|z|z;exact q1 z;exact q2 z;rcases z.2 with y|y;exact y q4;omega)];simp only[go_sem,gH,aM q1,aM q2,bv q3,bB q4,aM q6];refine aj (c1) ?_;cases nX x.tb
 .simp only[go_sem];exact aq [] (by simp only[go_sem];try rfl) (by rfl)
 rw[au (by decide)];simp only[go_sem];refine aj (c2) ?_;cases Cf x.ty
 .simp only[go_sem];exact aq [] (by simp only[go_sem];try rfl) (by rfl)
 rw[au (by decide)];by_cases q5:(x.it.length:Int)>256
 .rw[aF (by omega)];simp only[go_sem,aL q5];exact aq [] (by simp only[go_sem];try rfl) (by rfl)
 rw[au (by omega)];obtain⟨G,hG⟩:∃G,tx P (x.o::x.it)=G:=⟨_,rfl⟩
 rw[hG];have happ:=λys=>bX 50 59 1 1 jY [x.o] ys rfl;have hlen:(x.o::x.it).length=1+x.it.length:=by rw[aT];omega
 simp only[eR,k9,iz]at happ;simp only[go_sem,aM q5,happ];refine⟨by omega,?_⟩;generalize hL:x.o::x.it=L at*;refine an (λj:Nat=>⟨[(55,.int .i64 j),(54,.int .i64 ((1+x.it.length:Nat):Int)),(53,.ms 50 1 0 (1+x.it.length))],[(50,⟨59,1,L.map jY,false⟩)]⟩) (λj=>j<=L.length/\G=tx P (L.drop j)) (λj=>L.length-j) 0 ⟨cQ _,hG.symm⟩ (Wk.of ?_ ?_) ?_
 .simp only[go_sem];try simp
 .rw[<-hL];simp only[go_sem];try simp[iz]
 rintro j ⟨hj,hx⟩;by_cases h1:(j:Int)<((1+x.it.length:Nat):Int);rotate_left
 .rw[dc (by omega)]at hx;obtain rfl:G=(0,0):=hx;simp only[go_sem,aM h1];exact az
 have hj':j<L.length:=by omega
 have hj2:j<1+x.it.length:=by omega
 have e8:=dv hj' (by omega);rw[KO hj']at hx;have cc:=bN hR hj';by_cases hz:(fY P (ah L j)).2=0;rotate_left
 .rw[aF hz]at hx;subst hx;simp only[go_sem,aL h1,hj2,hlen];refine⟨by omega,?_⟩;refine aj (cc) ?_;simp only[go_sem,bv hz];exact az
 rw[au (by simp[hz])]at hx;simp only[go_sem,aL h1,hj2,hlen];refine⟨by omega,?_⟩;refine aj (cc) ?_;simp only[go_sem,bB hz];refine aE (j+1) ⟨show j+1<=1+x.it.length by omega,hx⟩ (show 1+x.it.length-(j+1)<1+x.it.length-j by omega) (Wk.of ?_ ?_)
 .simp only[go_sem,e8];try simp
 .simp only[go_sem];try simp[iz]
end
section
attribute[local go_sem] cU du cP cK df cC s8 fU ef eS bh aS
def k_1(i:Int)(x:Ft)(h:smF x):ac pg s9 [.int .i64 i,.agg (vK x)] (.tup [.int .i64 0,.int .i64 (A3 x)]):=by
 refine aD sD ?_;have c:=afx x h
 try simp only[du,cP,cK,df,cC,fU,eS]at c
 simp only[go_sem,sD];refine aa (c) ?_;exact az
def k_2(i:Int)(x:Im):ac pg s_ [.int .i64 i,.agg (vM x)] (.tup [.int .i64 0,.int .i64 (ED x)]):=by
 refine aD sE ?_;have c:=afy x
 try simp only[du,cP,cK,df,cC,fU,eS]at c
 simp only[go_sem,sE];refine aa (c) ?_;exact az
def k_3(i:Int)(x:Cd)(h:YZ x):ac pg ta [.int .i64 i,.agg (qB x)] (.tup [.int .i64 0,.int .i64 (EB x)]):=by
 refine aD sF ?_;have c:=abW x h
 try simp only[du,cP,cK,df,cC,fU,eS]at c
 simp only[go_sem,sF];refine aa (c) ?_;exact az
def k_4(i:Int)(x:Tb):ac pg tc [.int .i64 i,.agg (xx x)] (.tup [.int .i64 0,.int .i64 (Ei x)]):=by
 refine aD sG ?_;have c:=NW x
 try simp only[du,cP,cK,df,cC,fU,eS]at c
 simp only[go_sem,sG];refine aa (c) ?_;exact az
def k_5(i:Int)(x:Lm):ac pg td [.int .i64 i,.agg (p7 x)] (.tup [.int .i64 0,.int .i64 (Gn x)]):=by
 refine aD sH ?_;have c:=ZI x
 try simp only[du,cP,cK,df,cC,fU,eS]at c
 simp only[go_sem,sH];refine aa (c) ?_;exact az
def k_7(i:Int)(x:Ex):ac pg tg [.int .i64 i,.agg (y6 x)] (.tup [.int .i64 0,.int .i64 (Hf x)]):=by
 refine aD sJ ?_;have c:=Tp x
 try simp only[du,cP,cK,df,cC,fU,eS]at c
 simp only[go_sem,sJ];refine aa (c) ?_;exact az
def ah7(i:Int)(x:Cu):ac pg rg [.int .i64 i,.agg (CB x)] (.tup [.int .i64 0,.int .i64 (Jl x)]):=by
 refine aD qG ?_;have c:=Tn x
 try simp only[du,cP,cK,df,cC,fU,eS]at c
 simp only[go_sem,qG];refine aa (c) ?_;exact az
def k_8(P:bj->Bool)(i:Int)(x:El)(h:adn x)(hP:∀y,Ow y->ac pg cM [di y] (.bool (P y))):ac pg th [.int .i64 i,.agg (fR x)] (.tup [.int .i64 (RZ P x).1,.int .i64 (RZ P x).2]):=by
 refine aD sK ?_;have c:=ab0 P x h hP
 try simp only[bh,ef]at c
 simp only[go_sem,sK];refine aa (c) ?_;exact az
def k_9(P:bj->Bool)(i:Int)(x:Da)(h:adm x)(hP:∀y,Ow y->ac pg cM [di y] (.bool (P y))):ac pg tj [.int .i64 i,.agg (nz x)] (.tup [.int .i64 (RW P x).1,.int .i64 (RW P x).2]):=by
 refine aD sL ?_;have c:=abZ P x h λy hy=>hP y (h.1.2 y hy)
 try simp only[bh,ef]at c
 simp only[go_sem,sL];refine aa (c) ?_;exact az
def ah8(P:bj->Bool)(i:Int)(x:Cd)(h:YZ x)(hP:∀y,Ow y->ac pg cM [di y] (.bool (P y))):ac pg rh [.int .i64 i,.agg (qB x)] (.tup [.int .i64 (fY P x.b).1,.int .i64 (fY P x.b).2]):=by
 refine aD qH ?_;have c:=JT P x.b h.2 λy hy=>hP y (h.2.2 y hy)
 try simp only[bh,ef]at c
 simp only[go_sem,qH];refine aa (c) ?_;exact az
def WH(P:bj->Bool)(x:Gd):Int×Int:=if QE x.g≠0 then(0,QE x.g)else fY P x.i
def k_6(P:bj->Bool)(i:Int)(x:Gd)(h:agS x)(hP:∀y,Ow y->ac pg cM [di y] (.bool (P y))):ac pg tf [.int .i64 i,.agg (zX x)] (.tup [.int .i64 (WH P x).1,.int .i64 (WH P x).2]):=by
 refine aD sI ?_;have c:=Tq x.g;have d:=JT P x.i h λy hy=>hP y (h.2 y hy);unfold WH;simp only[go_sem,sI];refine aj (c) ?_;by_cases q:QE x.g=0
 .rw[au (by simp[q])];simp only[go_sem,bB q];refine aa (d) ?_;exact az
 .rw[aF q];simp only[go_sem,bv q];exact az
def kM(k:Int)(l:List Im):Nat:=(l.filter λx=>x.k==k).length
def RK{k:Int}{l:List Im}{i:Nat}(h:i<l.length):kM k (l.take (i+1))=kM k (l.take i)+(if(ah l i).k=k then 1 else 0):=by
 unfold kM;rw[MV h,List.filter_append,aJ];by_cases q:(ah l i).k=k<;>simp[q]
def xI(k:Int)(l:List Im):kM k l<=l.length:=List.length_filter_le _ _
def ctO(m:Md)(i:Nat):ao:=⟨118,4,[[.int .i64 (kM 0 (m.ims.take i):Nat),.int .i64 (kM 1 (m.ims.take i):Nat),.int .i64 (kM 2 (m.ims.take i):Nat),.int .i64 (kM 3 (m.ims.take i):Nat)]],true⟩
end
section
def eB:Fa:=⟨0,0,0,0⟩
def Vu(m:Md):Fa:=fu 1 64 0 (m.ts.map (λx=>(0,A3 x))) eB
def Xv(m:Md):Fa:=fu 2 32 0 (m.ims.map (λx=>(0,ED x))) (Vu m)
def Xw(m:Md):Fa:=fu 3 64 (kM 0 m.ims:Nat) (m.fs.map (λx=>(0,EB x))) (Xv m)
def Xx(m:Md):Fa:=fu 4 4 (kM 1 m.ims:Nat) (m.tbs.map (λx=>(0,Ei x))) (Xw m)
def Xy(m:Md):Fa:=fu 5 2 (kM 2 m.ims:Nat) (m.ms.map (λx=>(0,Gn x))) (Xx m)
def Xz(P:bj->Bool)(m:Md):Fa:=fu 6 32 (kM 3 m.ims:Nat) (m.gs.map (WH P)) (Xy m)
def QG(P:bj->Bool)(m:Md):Fa:=fu 7 64 0 (m.exs.map (λx=>(0,Hf x))) (Xz P m)
def Ld(P:bj->Bool)(m:Md):Fa:=if m.hs=true/\nX m.st=false then fV (QG P m) 8 0 0 11 else QG P m
def XA(P:bj->Bool)(m:Md):Fa:=fu 9 16 0 (m.els.map (RZ P)) (Ld P m)
def Hu(P:bj->Bool)(m:Md):Fa:=fu 10 16 0 (m.ds.map (RW P)) (XA P m)
def xN(P:bj->Bool)(m:Md):Fa:=fu 11 8 0 (m.cs.map (λx=>(0,Jl x))) (Hu P m)
def sc(P:bj->Bool)(m:Md):Fa:=if(xN P m).c=0 then fu 12 (m.fs.length:Int) 0 (m.fs.map (λx=>fY P x.b)) (xN P m)else xN P m
attribute[local go_sem] cU bC cP ck ctO
def Ts(P:bj->Bool)(m:Md)(h:BZ m)(hP:∀y,Ow y->ac pg cM [di y] (.bool (P y))):ac pg EU [cY m] (.agg [.int .i64 (sc P m).p,.int .i64 (sc P m).i,.int .i64 (sc P m).l,.int .i64 (sc P m).c]):=by
 refine aD wK ?_;have c1:CM my [.int .i64 1,.sl 2 (m.ts.map vK),.int .i64 64,.int .i64 0,.fn s9 []] eB (Vu m):=Tz (by kernel_rfl) (λx=>(0,A3 x)) m.ts (by have:=h.ts.1;omega) (λx hx i=>k_1 i x (h.ts.2 x hx)) 1 64 0 eB;have c2:CM j_ [.int .i64 2,.sl 13 (m.ims.map vM),.int .i64 32,.int .i64 0,.fn s_ []] (Vu m) (Xv m):=TB (by kernel_rfl) (λx=>(0,ED x)) m.ims (by have:=h.ims;omega) (λx hx i=>k_2 i x) 2 32 0 (Vu m);have c3:CM gW [.int .i64 3,.sl 3 (m.fs.map qB),.int .i64 64,.int .i64 (kM 0 m.ims:Nat),.fn ta []] (Xv m) (Xw m):=JR (by kernel_rfl) (λx=>(0,EB x)) m.fs (by have:=h.fs.1;omega) (λx hx i=>k_3 i x (h.fs.2 x hx)) 3 64 (kM 0 m.ims:Nat) (Xv m);have c4:CM kF [.int .i64 4,.sl 4 (m.tbs.map xx),.int .i64 4,.int .i64 (kM 1 m.ims:Nat),.fn tc []] (Xw m) (Xx m):=TD (by kernel_rfl) (λx=>(0,Ei x)) m.tbs (by have:=h.tbs;omega) (λx hx i=>k_4 i x) 4 4 (kM 1 m.ims:Nat) (Xw m);have c5:CM ka [.int .i64 5,.sl 3 (m.ms.map p7),.int .i64 2,.int .i64 (kM 2 m.ims:Nat),.fn td []] (Xx m) (Xy m):=TC (by kernel_rfl) (λx=>(0,Gn x)) m.ms (by have:=h.ms;omega) (λx hx i=>k_5 i x) 5 2 (kM 2 m.ims:Nat) (Xx m);have c6:CM iA [.int .i64 6,.sl 3 (m.gs.map zX),.int .i64 32,.int .i64 (kM 3 m.ims:Nat),.fn tf []] (Xy m) (Xz P m):=TA (by kernel_rfl) (WH P) m.gs (by have:=h.gs.1;omega) (λx hx i=>k_6 P i x (h.gs.2 x hx) hP) 6 32 (kM 3 m.ims:Nat) (Xy m);have c7:CM j9 [.int .i64 7,.sl 3 (m.exs.map y6),.int .i64 64,.int .i64 0,.fn tg []] (Xz P m) (QG P m):=Tx (by kernel_rfl) (λx=>(0,Hf x)) m.exs (by have:=h.exs;omega) (λx hx i=>k_7 i x) 7 64 0 (Xz P m);have c9:CM mw [.int .i64 9,.sl 5 (m.els.map fR),.int .i64 16,.int .i64 0,.fn th []] (Ld P m) (XA P m):=Tw (by kernel_rfl) (RZ P) m.els (by have:=h.els.1;omega) (λx hx i=>k_8 P i x (h.els.2 x hx) hP) 9 16 0 (Ld P m);have c10:CM mr [.int .i64 10,.sl 4 (m.ds.map nz),.int .i64 16,.int .i64 0,.fn tj []] (XA P m) (Hu P m):=Tv (by kernel_rfl) (RW P) m.ds (by have:=h.ds.1;omega) (λx hx i=>k_9 P i x (h.ds.2 x hx) hP) 10 16 0 (XA P m);have c11:CM j8 [.int .i64 11,.sl 3 (m.cs.map CB),.int .i64 8,.int .i64 0,.fn rg []] (Hu P m) (xN P m):=Tu (by kernel_rfl) (λx=>(0,Jl x)) m.cs (by have:=h.cs.1;omega) (λx hx i=>ah7 i x) 11 8 0 (Hu P m);have c8:=vR m.st;have c12:CM gW [.int .i64 12,.sl 3 (m.fs.map qB),.int .i64 (m.fs.length:Int),.int .i64 0,.fn rh []] (xN P m) (fu 12 (m.fs.length:Int) 0 (m.fs.map (λx=>fY P x.b)) (xN P m)):=JR (by kernel_rfl) (λx=>fY P x.b) m.fs (by have:=h.fs.1;omega) (λx hx i=>ah8 P i x (h.fs.2 x hx) hP) 12 (m.fs.length:Int) 0 (xN P m);simp only[go_sem,wK,cY];refine an (λj:Nat=>⟨[(13,.int .i64 j),(12,.int .i64 m.ims.length),(11,.sl 13 (m.ims.map vM)),(3,.mp 8 4 0 0),(4,.mp 4 4 0 0),(2,.mp 2 4 0 0),(1,.mp 1 12 0 0)],[(8,ck eB),(4,ctO m j),(2,⟨63,4,[[.int .i64 0,.int .i64 0,.int .i64 0,.int .i64 0]],true⟩),(1,⟨33,12,[nZ m],true⟩)]⟩) (λj=>j<=m.ims.length) (λj=>m.ims.length-j) 0 (cQ _) (Wk.of ?_ ?_) ?_
 .simp only[go_sem];try simp
 .simp only[go_sem,mA,kM,eB];try simp
 intro j hj;by_cases h1:(j:Int)<(m.ims.length:Int)
 .have hj':j<m.ims.length:=by omega
  have hil:=h.ims;have e8:=dv hj' (by omega);have t:=λk=>RK (k:=k) hj';have hle:=λk=>jq (xI k (m.ims.take j)) (by rw[pA];omega:(m.ims.take j).length<=j);have w:=λk:Int=>(by have:=hle k;rw[wi (by omega) (by omega)];omega:IntKind.i64.wrap ((kM k (m.ims.take j):Int)+1)=((kM k (m.ims.take j)+1:Nat):Int))
  by_cases q0:(ah m.ims j).k=0
  .simp only[go_sem,aL h1,q0,show decide ((0:Int)>=0)=true from rfl,show decide ((0:Int)<=3)=true from rfl,zW,Ez,EA,Int.reduceToNat,Nat.reduceMul,Nat.reduceAdd];refine⟨by omega,h1,⟨by omega,by omega⟩,⟨by omega,by omega⟩,aE (j+1) (show j+1<=m.ims.length by omega) (show m.ims.length-(j+1)<m.ims.length-j by omega) (Wk.of ?_ ?_)⟩
   .simp only[go_sem,e8];try simp
   .simp only[go_sem];try simp[t,q0,w]
  by_cases q1:(ah m.ims j).k=1
  .simp only[go_sem,aL h1,q1,show decide ((1:Int)>=0)=true from rfl,show decide ((1:Int)<=3)=true from rfl,zW,Ez,EA,Int.reduceToNat,Nat.reduceMul,Nat.reduceAdd];refine⟨by omega,h1,⟨by omega,by omega⟩,⟨by omega,by omega⟩,aE (j+1) (show j+1<=m.ims.length by omega) (show m.ims.length-(j+1)<m.ims.length-j by omega) (Wk.of ?_ ?_)⟩
   .simp only[go_sem,e8];try simp
   .simp only[go_sem];try simp[t,q1,w]
  by_cases q2:(ah m.ims j).k=2
  .simp only[go_sem,aL h1,q2,show decide ((2:Int)>=0)=true from rfl,show decide ((2:Int)<=3)=true from rfl,zW,Ez,EA,Int.reduceToNat,Nat.reduceMul,Nat.reduceAdd];refine⟨by omega,h1,⟨by omega,by omega⟩,⟨by omega,by omega⟩,aE (j+1) (show j+1<=m.ims.length by omega) (show m.ims.length-(j+1)<m.ims.length-j by omega) (Wk.of ?_ ?_)⟩
   .simp only[go_sem,e8];try simp
   .simp only[go_sem];try simp[t,q2,w]
  by_cases q3:(ah m.ims j).k=3
  .simp only[go_sem,aL h1,q3,show decide ((3:Int)>=0)=true from rfl,show decide ((3:Int)<=3)=true from rfl,zW,Ez,EA,Int.reduceToNat,Nat.reduceMul,Nat.reduceAdd];refine⟨by omega,h1,⟨by omega,by omega⟩,⟨by omega,by omega⟩,aE (j+1) (show j+1<=m.ims.length by omega) (show m.ims.length-(j+1)<m.ims.length-j by omega) (Wk.of ?_ ?_)⟩
   .simp only[go_sem,e8];try simp
   .simp only[go_sem];try simp[t,q3,w]
  by_cases q5:(ah m.ims j).k>=0
  .simp only[go_sem,aL h1,aL q5,aM (show ¬(ah m.ims j).k<=3 by omega)];refine⟨by omega,h1,aE (j+1) (show j+1<=m.ims.length by omega) (show m.ims.length-(j+1)<m.ims.length-j by omega) (Wk.of ?_ ?_)⟩
   .simp only[go_sem,e8];try simp
   .simp only[go_sem];try simp[t,q0,q1,q2,q3]
  .simp only[go_sem,aL h1,aM q5];refine⟨by omega,h1,aE (j+1) (show j+1<=m.ims.length by omega) (show m.ims.length-(j+1)<m.ims.length-j by omega) (Wk.of ?_ ?_)⟩
   .simp only[go_sem,e8];try simp
   .simp only[go_sem];try simp[t,q0,q1,q2,q3]
 obtain rfl:j=m.ims.length:=by omega
 simp only[go_sem,aM h1,eV];refine ae (c1) ?_;simp only[go_sem,zW,Ez,EA,Int.reduceToNat,Nat.reduceMul,Nat.reduceAdd];refine ae (c2) ?_;simp only[go_sem,zW,Ez,EA,Int.reduceToNat,Nat.reduceMul,Nat.reduceAdd];refine⟨⟨by omega,by omega⟩,?_⟩;refine ae (c3) ?_;simp only[go_sem,zW,Ez,EA,Int.reduceToNat,Nat.reduceMul,Nat.reduceAdd];refine⟨⟨by omega,by omega⟩,?_⟩;refine ae (c4) ?_;simp only[go_sem,zW,Ez,EA,Int.reduceToNat,Nat.reduceMul,Nat.reduceAdd];refine⟨⟨by omega,by omega⟩,?_⟩;refine ae (c5) ?_;simp only[go_sem,zW,Ez,EA,Int.reduceToNat,Nat.reduceMul,Nat.reduceAdd];refine⟨⟨by omega,by omega⟩,?_⟩;refine ae (c6) ?_;simp only[go_sem,zW,Ez,EA,Int.reduceToNat,Nat.reduceMul,Nat.reduceAdd];refine ae (c7) ?_;simp only[go_sem,zW,Ez,EA,Int.reduceToNat,Nat.reduceMul,Nat.reduceAdd];cases hh:m.hs
 .rw[show Ld P m=QG P m by unfold Ld;rw[hh,au (by simp)]]at c9;simp only[go_sem,hh];refine aH (c9) ?_;refine aH (c10) ?_;refine aH (c11) ?_;unfold sc;by_cases z:(xN P m).c=0
  .rw[aF z];simp only[go_sem,be z];refine aH (c12) ?_;exact az
  .rw[au z];simp only[go_sem,aw z];exact az
 simp only[go_sem,hh];refine aj (c8) ?_;cases hi:nX m.st
 .have cf:=LY (QG P m) 8 0 0 11;rw[show fV (QG P m) 8 0 0 11=Ld P m by unfold Ld;rw[hh,hi,aF ⟨rfl,rfl⟩]]at cf;simp only[go_sem];refine aH (cf) ?_;refine aH (c9) ?_;refine aH (c10) ?_;refine aH (c11) ?_;unfold sc;by_cases z:(xN P m).c=0
  .rw[aF z];simp only[go_sem,be z];refine aH (c12) ?_;exact az
  .rw[au z];simp only[go_sem,aw z];exact az
 .rw[show Ld P m=QG P m by unfold Ld;rw[hi,au (by simp)]]at c9;simp only[go_sem];refine aH (c9) ?_;refine aH (c10) ?_;refine aH (c11) ?_;unfold sc;by_cases z:(xN P m).c=0
  .rw[aF z];simp only[go_sem,be z];refine aH (c12) ?_;exact az
  .rw[au z];simp only[go_sem,aw z];exact az
end
section
def gc(F:Fa):AV:=.agg [.int .i64 F.p,.int .i64 F.i,.int .i64 F.l,.int .i64 F.c]
def ek(p i e:Int):Fa:=if e=0 then eB else⟨p,i,0,e⟩
def uZ(p n most:Int):Fa:=if n>most then⟨p,if most<0 then 0 else most,0,6⟩else eB
attribute[local go_sem] cU bC cP cL aS gc
def rB(p i e:Int):ac pg L4 [.int .i64 p,.int .i64 i,.int .i64 e] (gc (ek p i e)):=by
 refine aD xC ?_;unfold ek;by_cases h:e=0
 .rw[aF h];simp only[go_sem,xC,be h];exact aq [] (by simp only[go_sem];try rfl) (by rfl)
 .rw[au h];simp only[go_sem,xC,aw h];exact aq [] (by simp only[go_sem];try rfl) (by rfl)
def qw(p n most:Int):ac pg HP [.int .i64 p,.int .i64 n,.int .i64 most] (gc (uZ p n most)):=by
 refine aD r4 ?_;have c:=rB p (if most<0 then 0 else most) 6;rw[show ek p (if most<0 then 0 else most) 6 =⟨p,if most<0 then 0 else most,0,6⟩ from rfl]at c;unfold uZ;by_cases h:n>most
 .rw[aF h];simp only[go_sem,r4,aL h];refine aa (c) ?_;exact aq [] (by simp only[go_sem];try rfl) (by rfl)
 .rw[au h];simp only[go_sem,r4,aM h];exact aq [] (by simp only[go_sem];try rfl) (by rfl)
def eP(F:Fa):ac pg HT [gc F] (.bool (F.c==0)):=by
 refine aD yQ ?_;simp only[go_sem,yQ];exact az
def rC(i:Int):ac pg E8 [.int .i64 i] (.bool (nX i)):=by
 refine aD lg ?_;unfold nX;by_cases h:(0:Int)<=i
 .by_cases h2:i<=4294967295
  .simp only[go_sem,lg,aL (show i>=0 from h),aL h2];exact aq [] (by simp only[go_sem,aL h,aL (show i<4294967296 by omega),bW]) (by first|rfl|simp[go_sem,ab])
  .simp only[go_sem,lg,aL (show i>=0 from h),aM h2];exact aq [] (by simp only[go_sem,aL h,aM (show ¬i<4294967296 by omega),Bool.and_false]) (by first|rfl|simp[go_sem,ab])
 .simp only[go_sem,lg,aM (show ¬i>=0 from h)];exact aq [] (by simp only[go_sem,aM h,dR]) (by first|rfl|simp[go_sem,ab])
def BY(P:bj->Bool)(p i:Int)(l:List bj):Fa:=if(fY P l).2=0 then eB else⟨p,i,(fY P l).1,(fY P l).2⟩
def AC(P:bj->Bool)(p it:Int)(l:List bj)(hl:KV l)(hP:∀x∈l,ac pg dq [di x] (.bool (P x))):ac pg Ka [.int .i64 p,.int .i64 it,.sl 9 (l.map aS)] (gc (BY P p it l)):=by
 refine aD uy ?_;unfold BY fY;by_cases q1:(l.length:Int)>2048
 .rw[aF (show l.length>2048 by omega),au (by decide)];simp only[go_sem,uy,aL q1];exact aq [] (by simp only[go_sem];try rfl) (by rfl)
 rw[au (show ¬l.length>2048 by omega)];obtain⟨G,hG⟩:∃G,BX P 0 l=G:=⟨_,rfl⟩
 rw[hG];simp only[go_sem,uy,aM q1];refine an (λj:Nat=>⟨[(7,.int .i64 j),(2,.sl 9 (l.map aS)),(0,.int .i64 p),(1,.int .i64 it),(6,.mp 6 4 0 0)],[(6,⟨63,4,[[.int .i64 0,.int .i64 0,.int .i64 0,.int .i64 0]],true⟩)]⟩) (λj=>j<=l.length/\G=BX P j (l.drop j)) (λj=>l.length-j) 0 ⟨cQ _,hG.symm⟩ (Wk.of ?_ ?_) ?_
 .simp only[go_sem];try simp
 .simp only[go_sem]
 rintro j ⟨hj,hx⟩;by_cases h1:(j:Int)<(l.length:Int);rotate_left
 .rw[dc (by omega)]at hx;obtain rfl:G=(0,0):=hx;simp only[go_sem,aM h1];exact aq [] (by simp only[go_sem];try rfl) (by rfl)
 have hj':j<l.length:=by omega
 have e8:=dv hj' (by have:=hl.1;omega);have cc:=bN hP hj';simp only[cL]at cc;rw[Oj hj']at hx;cases hp:P (ah l j)
 .rw[hp]at cc hx;obtain rfl:G=((j:Int),10):=hx;simp only[go_sem,aL h1];refine⟨by omega,h1,?_⟩;refine aa (cc) ?_;exact aq [] (by simp only[go_sem];try rfl) (by rfl)
 rw[hp]at cc hx;rw[au (by decide)]at hx;by_cases q2:((ah l j).lb.length:Int)>64
 .rw[aF (by omega)]at hx;subst hx;simp only[go_sem,aL h1];refine⟨by omega,h1,?_⟩;refine aj (cc) ?_;simp only[go_sem,aL q2];refine⟨by omega,h1,?_⟩;exact aq [] (by simp only[go_sem];try rfl) (by rfl)
 rw[au (by omega)]at hx;simp only[go_sem,aL h1];refine⟨by omega,h1,?_⟩;refine aj (cc) ?_;simp only[go_sem,aM q2];refine⟨by omega,h1,aE (j+1) ⟨show j+1<=l.length by omega,hx⟩ (show l.length-(j+1)<l.length-j by omega) (Wk.of ?_ ?_)⟩
 .simp only[go_sem,e8];try simp
 .simp only[go_sem]
end
section
attribute[local go_sem] cU bC cP df cC
def UE(t:Int):ac pg A9 [.int .i64 t] (.bool (jK t)):=by
 refine aD lO ?_;have hv:jK t=(decide (t>=1)&&decide (t<=4)):=by
  rw[zT];simp only[jK,nuB,Cf,pz,beq_iff_eq,cE,eQ];omega
 rw[hv];cases h:decide (t>=1)
 .simp only[go_sem,lO,h];exact aq [] (by simp only[go_sem,dR]) (by first|rfl|simp[go_sem,ab])
 .simp only[go_sem,lO,h];exact aq [] (by simp only[go_sem,bW]) (by first|rfl|simp[go_sem,ab])
def UB(t:Int):ac pg J8 [.int .i64 t] (.bool (Cf t)):=by
 refine aD ut ?_;unfold Cf;cases h:(t==3)
 .simp only[go_sem,ut,h];exact aq [] (by simp only[go_sem,kA]) (by first|rfl|simp[go_sem,ab])
 .simp only[go_sem,ut,h];exact aq [] (by simp only[go_sem,iT]) (by first|rfl|simp[go_sem,ab])
def Uy(l:Lm)(most:Int):ac pg Dm [.agg (p7 l),.int .i64 most] (.bool (Le l most)):=by
 refine aD fc ?_;unfold Le;by_cases q1:l.mn<0
 .rw[aF (.inl q1)];simp only[go_sem,fc,aL q1];exact az
 by_cases q2:l.mn>most
 .rw[aF (.inr q2)];simp only[go_sem,fc,aM q1,aL q2];exact az
 rw[au (by omega)];cases hh:l.hs
 .rw[aF rfl];simp only[go_sem,fc,aM q1,aM q2,hh];exact az
 .rw[au (by decide)];by_cases q3:l.mn<=l.mx
  .simp only[go_sem,fc,aM q1,aM q2,hh,aL (show l.mx>=l.mn from q3)];exact aq [] (by simp only[go_sem,aL q3,bW]) (by first|rfl|simp[go_sem,ab])
  .simp only[go_sem,fc,aM q1,aM q2,hh,aM (show ¬l.mx>=l.mn from q3)];exact aq [] (by simp only[go_sem,aM q3,dR]) (by first|rfl|simp[go_sem,ab])
def ZU(g:Gl):ac pg Dl [.agg [.int .i64 g.v,.bool g.mu]] (.bool (jK g.v)):=by
 refine aD ur ?_;simp only[go_sem,ur];refine aa (UE g.v) ?_;exact az
def Iq(l:List Int)(hl:l.length<=9223372036854775807):ac pg HU [.sl 1 (l.map oE)] (.bool (iR l)):=by
 refine aD yR ?_;obtain⟨G,hG⟩:∃G,iR l=G:=⟨_,rfl⟩
 rw[hG];simp only[go_sem,yR];refine an (λk:Nat=>⟨[(3,.int .i64 k),(0,.sl 1 (l.map oE))],[]⟩) (λk=>k<=l.length/\G=iR (l.drop k)) (λk=>l.length-k) 0 ⟨cQ _,hG.symm⟩ (Wk.of ?_ ?_) ?_
 .simp only[go_sem];try simp
 .simp only[go_sem]
 rintro k ⟨hk,hy⟩;by_cases h5:(k:Int)<(l.length:Int)
 .have hk':k<l.length:=by omega
  rw[adO hk']at hy;have e9:=dv hk' (by omega);have cc:=UE (ah l k);cases hb:jK (ah l k)
  .rw[hb]at cc hy;obtain rfl:G=false:=hy;simp only[go_sem,aL h5];refine⟨by omega,h5,?_⟩;refine aa (cc) ?_;exact az
  .rw[hb,bW]at hy;rw[hb]at cc;simp only[go_sem,aL h5];refine⟨by omega,h5,?_⟩;refine aa (cc) ?_;refine aE (k+1) ⟨show k+1<=l.length by omega,hy⟩ (show l.length-(k+1)<l.length-k by omega) (Wk.of ?_ ?_)
   .simp only[go_sem,e9];try simp
   .simp only[go_sem]
 .rw[dc (by omega)]at hy;obtain rfl:G=true:=hy;simp only[go_sem,aM h5];exact az
def UC(x:Tb):ac pg Fd [.agg (xx x)] (.int .i64 (Ei x)):=by
 refine aD xd ?_;have c1:=UB x.e;have c2:=Uy x.l 1024;unfold Ei;simp only[go_sem,xd];refine aj (c1) ?_;cases Cf x.e
 .simp only[go_sem];exact aq [] (by simp only[go_sem];try rfl) (by rfl)
 .simp only[go_sem];refine aj (c2) ?_;cases Le x.l 1024
  .simp only[go_sem];exact aq [] (by simp only[go_sem];try rfl) (by rfl)
  .simp only[go_sem];exact aq [] (by simp only[go_sem];try rfl) (by rfl)
def Uz(l:Lm):ac pg J9 [.agg (p7 l)] (.int .i64 (Gn l)):=by
 refine aD AR ?_;have c2:=Uy l 256;unfold Gn;simp only[go_sem,AR];refine aj (c2) ?_;cases Le l 256
 .simp only[go_sem];exact aq [] (by simp only[go_sem];try rfl) (by rfl)
 .simp only[go_sem];exact aq [] (by simp only[go_sem];try rfl) (by rfl)
end
section
def ql(F:Fa):ao:=⟨63,4,[[.int .i64 F.p,.int .i64 F.i,.int .i64 F.l,.int .i64 F.c]],true⟩
def gr{α:Type}(g:Nat->α->Fa):Nat->List α->Fa->Fa
 | _,[],F=>F
 | i,x::l,F=>if F.c≠0 then F else gr g (i+1) l (g i x)
def qY{α:Type}[Inhabited α]{g:Nat->α->Fa}{l:List α}{i:Nat}(h:i<l.length)(F:Fa)(hF:F.c=0):gr g i (l.drop i) F=gr g (i+1) (l.drop (i+1)) (g i (ah l i)):=by
 rw[qk h,gr,au (by simp[hF])]
def qZ{α:Type}{g:Nat->α->Fa}{l:List α}{i:Nat}(F:Fa)(hF:F.c≠0):gr g i l F=F:=by
 cases l with
 | nil=>rfl
 | cons r l=>rw[gr,aF hF]
def abQ{p n most:Int}(h:(uZ p n most).c=0):uZ p n most=eB:=by
 unfold uZ at h⊢;split at h
 .cases h
 .rename_i q;rw[au q]
def Bt{p i e:Int}(h:(ek p i e).c=0):ek p i e=eB:=by
 unfold ek at h⊢;split at h
 .rename_i q;rw[aF q]
 .rename_i q;exact absurd h q
def tyF(m:Md):Fa:=gr (λi x=>ek 1 i (A3 x)) 0 m.ts (uZ 1 m.ts.length 64)
attribute[local go_sem] cU bC du cP df cC gc ql
def agv(m:Md)(h:BZ m):ac pg Fe [cY m] (gc (tyF m)):=by
 refine aD xe ?_;obtain⟨G,hG⟩:∃G,tyF m=G:=⟨_,rfl⟩
 rw[hG];have hts:=h.ts;have c0:=qw 1 m.ts.length 64;simp only[gc]at c0;simp only[go_sem,xe,cY];refine aa (c0) ?_;refine an (λq:Nat×Fa=>⟨[(4,.int .i64 q.1),(1,.mp 1 12 0 0),(3,.mp 3 4 0 0),(2,.mp 2 4 0 0)],[(3,ql q.2),(2,ql eB),(1,⟨33,12,[nZ m],true⟩)]⟩) (λq=>q.1<=m.ts.length/\(q.2.c=0->q.2=eB)/\G=gr (λi x=>ek 1 i (A3 x)) q.1 (m.ts.drop q.1) q.2) (λq=>m.ts.length-q.1) (0,uZ 1 m.ts.length 64) ⟨cQ _,abQ,hG.symm⟩ (Wk.of ?_ ?_) ?_
 .simp only[go_sem];try simp
 .simp only[go_sem];try simp[eB]
 rintro⟨j,E⟩ ⟨hj,WK,hx⟩;simp only at hj WK hx;by_cases h1:(j:Int)<(m.ts.length:Int);rotate_left
 .rw[dc (by omega)]at hx;obtain rfl:G=E:=hx;simp only[go_sem,aM h1];exact aq [] (by simp only[go_sem];try rfl) (by rfl)
 have hj':j<m.ts.length:=by omega
 have e8:=dv hj' (by omega);have cn:=eP E;simp only[gc]at cn;by_cases hE:E.c=0;rotate_left
 .rw[qZ E hE]at hx;obtain rfl:G=E:=hx;rw[aw hE]at cn;simp only[go_sem,aL h1];refine aa (cn) ?_;exact aq [] (by simp only[go_sem];try rfl) (by rfl)
 rw[be hE]at cn;rw[qY hj' E hE]at hx;have hEl:=WK hE;have ca:=rB 1 j (A3 (ah m.ts j));simp only[gc]at ca;have sx:=bN hts.2 hj';have d1:=Iq (ah m.ts j).ps (by have:=sx.1;omega);have d2:=Iq (ah m.ts j).rs (by have:=sx.2;omega);simp only[go_sem,aL h1];refine aj (cn) ?_;by_cases q1:((ah m.ts j).ps.length:Int)>8
 .have hf:A3 (ah m.ts j)=6:=by unfold A3;rw[aF (.inl (by omega))]
  rw[hf]at ca hx;simp only[go_sem,aL q1];refine⟨by omega,h1,?_⟩;refine aa (ca) ?_;refine aE (j+1,ek 1 j 6) ⟨show j+1<=m.ts.length by omega,Bt,hx⟩ (show m.ts.length-(j+1)<m.ts.length-j by omega) (Wk.of ?_ ?_)
  .simp only[go_sem,e8];try simp
  .simp only[go_sem]
 by_cases q2:((ah m.ts j).rs.length:Int)>8
 .have hf:A3 (ah m.ts j)=6:=by unfold A3;rw[aF (.inr (by omega))]
  rw[hf]at ca hx;simp only[go_sem,aM q1,aL q2];refine⟨by omega,h1,?_⟩;refine aa (ca) ?_;refine aE (j+1,ek 1 j 6) ⟨show j+1<=m.ts.length by omega,Bt,hx⟩ (show m.ts.length-(j+1)<m.ts.length-j by omega) (Wk.of ?_ ?_)
  .simp only[go_sem,e8];try simp
  .simp only[go_sem]
 have hf0:A3 (ah m.ts j)=if iR (ah m.ts j).ps=false\/iR (ah m.ts j).rs=false then 12 else 0:=by unfold A3;rw[au (by omega)]
 simp only[go_sem,aM q1,aM q2];refine⟨by omega,h1,?_⟩;refine aj (d1) ?_;cases v1:iR (ah m.ts j).ps
 .have hf:A3 (ah m.ts j)=12:=by rw[hf0,aF (.inl v1)]
  rw[hf]at ca hx;simp only[go_sem];refine aa (ca) ?_;refine aE (j+1,ek 1 j 12) ⟨show j+1<=m.ts.length by omega,Bt,hx⟩ (show m.ts.length-(j+1)<m.ts.length-j by omega) (Wk.of ?_ ?_)
  .simp only[go_sem,e8];try simp
  .simp only[go_sem]
 simp only[go_sem];refine aj (d2) ?_;cases v2:iR (ah m.ts j).rs
 .have hf:A3 (ah m.ts j)=12:=by rw[hf0,aF (.inr v2)]
  rw[hf]at ca hx;simp only[go_sem];refine aa (ca) ?_;refine aE (j+1,ek 1 j 12) ⟨show j+1<=m.ts.length by omega,Bt,hx⟩ (show m.ts.length-(j+1)<m.ts.length-j by omega) (Wk.of ?_ ?_)
  .simp only[go_sem,e8];try simp
  .simp only[go_sem]
 .have hf:A3 (ah m.ts j)=0:=by rw[hf0,au (by rw[v1,v2];simp)]
  rw[hf,show ek 1 j 0=E by rw[hEl];rfl]at hx;simp only[go_sem];refine aE (j+1,E) ⟨show j+1<=m.ts.length by omega,WK,hx⟩ (show m.ts.length-(j+1)<m.ts.length-j by omega) (Wk.of ?_ ?_)
  .simp only[go_sem,e8];try simp
  .simp only[go_sem]
end
section
attribute[local go_sem] cU bC du cP df cC gc ql
def sk(m:Md)(h:m.ims.length<=140737488355328)(k:Int):ac pg Aq [cY m,.int .i64 k] (.int .i64 (kM k m.ims:Nat)):=by
 refine aD qJ ?_;simp only[go_sem,qJ,cY];refine an (λj:Nat=>⟨[(6,.int .i64 j),(5,.int .i64 (kM k (m.ims.take j):Nat)),(2,.mp 2 12 0 0),(1,.int .i64 k)],[(2,⟨33,12,[nZ m],true⟩)]⟩) (λj=>j<=m.ims.length) (λj=>m.ims.length-j) 0 (cQ _) (Wk.of ?_ ?_) ?_
 .simp only[go_sem,mA,kM];try simp
 .simp only[go_sem]
 intro j hj;by_cases h1:(j:Int)<(m.ims.length:Int)
 .have hj':j<m.ims.length:=by omega
  have e8:=dv hj' (by omega);have t:=RK (k:=k) hj';have hle:kM k (m.ims.take j)<=m.ims.length:=jq (xI k (m.ims.take j)) (by rw[pA];omega);by_cases q:(ah m.ims j).k=k
  .rw[aF q]at t;have w:IntKind.i64.wrap ((kM k (m.ims.take j):Int)+1)=((kM k (m.ims.take j)+1:Nat):Int):=by rw[wi (by omega) (by omega)];omega
   simp only[go_sem,aL h1,be q];refine⟨by omega,h1,aE (j+1) (show j+1<=m.ims.length by omega) (show m.ims.length-(j+1)<m.ims.length-j by omega) (Wk.of ?_ ?_)⟩
   .simp only[go_sem,e8,t,w];try simp
   .simp only[go_sem]
  .rw[au q,Nat.add_zero]at t;simp only[go_sem,aL h1,aw q];refine⟨by omega,h1,aE (j+1) (show j+1<=m.ims.length by omega) (show m.ims.length-(j+1)<m.ims.length-j by omega) (Wk.of ?_ ?_)⟩
   .simp only[go_sem,e8,t];try simp
   .simp only[go_sem]
 .obtain rfl:j=m.ims.length:=by omega
  rw[eV];simp only[go_sem,aM h1];exact az
end
section
def mmF(m:Md):Fa:=gr (λi x=>ek 5 i (Gn x)) 0 m.ms (uZ 5 m.ms.length (2-(kM 2 m.ims:Nat)))
attribute[local go_sem] cU bC du cP df cC gc ql
def agr(m:Md)(h:BZ m):ac pg HQ [cY m] (gc (mmF m)):=by
 refine aD yP ?_;obtain⟨G,hG⟩:∃G,mmF m=G:=⟨_,rfl⟩
 rw[hG];have hts:=h.ms;have ci:=sk m h.ims 2;have hle:=jq (xI 2 m.ims) h.ims;have w:IntKind.i64.wrap (2-(kM 2 m.ims:Int))=2-(kM 2 m.ims:Int):=wi (by omega) (by omega);have c0:=qw 5 m.ms.length (2-(kM 2 m.ims:Nat));simp only[gc]at c0;simp only[cY,bC]at ci;simp only[go_sem,yP,cY];refine aN ci (by simp[go_sem]) rfl ?_;simp only[go_sem,w];refine aN c0 (by simp[go_sem]) rfl ?_;simp only[go_sem];refine an (λq:Nat×Fa=>⟨[(4,.int .i64 q.1),(1,.mp 1 12 0 0),(3,.mp 3 4 0 0),(2,.mp 2 4 0 0)],[(3,ql q.2),(2,ql eB),(1,⟨33,12,[nZ m],true⟩)]⟩) (λq=>q.1<=m.ms.length/\G=gr (λi x=>ek 5 i (Gn x)) q.1 (m.ms.drop q.1) q.2) (λq=>m.ms.length-q.1) (0,uZ 5 m.ms.length (2-(kM 2 m.ims:Nat))) ⟨cQ _,hG.symm⟩ (Wk.of ?_ ?_) ?_
 .simp only[go_sem];try simp
 .simp only[go_sem];try simp[eB]
 rintro⟨j,E⟩ ⟨hj,hx⟩;simp only at hj hx;by_cases h1:(j:Int)<(m.ms.length:Int);rotate_left
 .rw[dc (by omega)]at hx;obtain rfl:G=E:=hx;simp only[go_sem,aM h1];exact aq [] (by simp only[go_sem];try rfl) (by rfl)
 have hj':j<m.ms.length:=by omega
 have e8:=dv hj' (by omega);have cn:=eP E;simp only[gc]at cn;by_cases hE:E.c=0;rotate_left
 .rw[qZ E hE]at hx;obtain rfl:G=E:=hx;rw[aw hE]at cn;simp only[go_sem,aL h1];refine aa (cn) ?_;exact aq [] (by simp only[go_sem];try rfl) (by rfl)
 rw[be hE]at cn;rw[qY hj' E hE]at hx;have cm:=Uz (ah m.ms j);have ca:=rB 5 j (Gn (ah m.ms j));simp only[gc]at ca;simp only[cC]at cm;simp only[go_sem,aL h1];refine aa (cn) ?_;refine⟨by omega,h1,?_⟩;refine aa (cm) ?_;refine aa (ca) ?_;refine aE (j+1,ek 5 j (Gn (ah m.ms j))) ⟨show j+1<=m.ms.length by omega,hx⟩ (show m.ms.length-(j+1)<m.ms.length-j by omega) (Wk.of ?_ ?_)
 .simp only[go_sem,e8];try simp
 .simp only[go_sem]
end
section
def tbF(m:Md):Fa:=gr (λi x=>ek 4 i (Ei x)) 0 m.tbs (uZ 4 m.tbs.length (4-(kM 1 m.ims:Nat)))
attribute[local go_sem] cU bC du cP df cC gc ql
def agu(m:Md)(h:BZ m):ac pg Dq [cY m] (gc (tbF m)):=by
 refine aD uz ?_;obtain⟨G,hG⟩:∃G,tbF m=G:=⟨_,rfl⟩
 rw[hG];have hts:=h.tbs;have ci:=sk m h.ims 1;have hle:=jq (xI 1 m.ims) h.ims;have w:IntKind.i64.wrap (4-(kM 1 m.ims:Int))=4-(kM 1 m.ims:Int):=wi (by omega) (by omega);have c0:=qw 4 m.tbs.length (4-(kM 1 m.ims:Nat));simp only[gc]at c0;simp only[cY,bC]at ci;simp only[go_sem,uz,cY];refine aN ci (by simp[go_sem]) rfl ?_;simp only[go_sem,w];refine aN c0 (by simp[go_sem]) rfl ?_;simp only[go_sem];refine an (λq:Nat×Fa=>⟨[(4,.int .i64 q.1),(1,.mp 1 12 0 0),(3,.mp 3 4 0 0),(2,.mp 2 4 0 0)],[(3,ql q.2),(2,ql eB),(1,⟨33,12,[nZ m],true⟩)]⟩) (λq=>q.1<=m.tbs.length/\G=gr (λi x=>ek 4 i (Ei x)) q.1 (m.tbs.drop q.1) q.2) (λq=>m.tbs.length-q.1) (0,uZ 4 m.tbs.length (4-(kM 1 m.ims:Nat))) ⟨cQ _,hG.symm⟩ (Wk.of ?_ ?_) ?_
 .simp only[go_sem];try simp
 .simp only[go_sem];try simp[eB]
 rintro⟨j,E⟩ ⟨hj,hx⟩;simp only at hj hx;by_cases h1:(j:Int)<(m.tbs.length:Int);rotate_left
 .rw[dc (by omega)]at hx;obtain rfl:G=E:=hx;simp only[go_sem,aM h1];exact aq [] (by simp only[go_sem];try rfl) (by rfl)
 have hj':j<m.tbs.length:=by omega
 have e8:=dv hj' (by omega);have cn:=eP E;simp only[gc]at cn;by_cases hE:E.c=0;rotate_left
 .rw[qZ E hE]at hx;obtain rfl:G=E:=hx;rw[aw hE]at cn;simp only[go_sem,aL h1];refine aa (cn) ?_;exact aq [] (by simp only[go_sem];try rfl) (by rfl)
 rw[be hE]at cn;rw[qY hj' E hE]at hx;have cm:=UC (ah m.tbs j);have ca:=rB 4 j (Ei (ah m.tbs j));simp only[gc]at ca;simp only[df]at cm;simp only[go_sem,aL h1];refine aa (cn) ?_;refine⟨by omega,h1,?_⟩;refine aa (cm) ?_;refine aa (ca) ?_;refine aE (j+1,ek 4 j (Ei (ah m.tbs j))) ⟨show j+1<=m.tbs.length by omega,hx⟩ (show m.tbs.length-(j+1)<m.tbs.length-j by omega) (Wk.of ?_ ?_)
 .simp only[go_sem,e8];try simp
 .simp only[go_sem]
end
section
def cdF(m:Md):Fa:=gr (λi x=>ek 3 i (EB x)) 0 m.fs (uZ 3 m.fs.length (64-(kM 0 m.ims:Nat)))
attribute[local go_sem] cU bC du cP df cC cK gc ql
def agk(m:Md)(h:BZ m):ac pg Fb [cY m] (gc (cdF m)):=by
 refine aD xc ?_;obtain⟨G,hG⟩:∃G,cdF m=G:=⟨_,rfl⟩
 rw[hG];have hts:=h.fs;have ci:=sk m h.ims 0;have hle:=jq (xI 0 m.ims) h.ims;have w:IntKind.i64.wrap (64-(kM 0 m.ims:Int))=64-(kM 0 m.ims:Int):=wi (by omega) (by omega);have c0:=qw 3 m.fs.length (64-(kM 0 m.ims:Nat));simp only[gc]at c0;simp only[cY,bC]at ci;simp only[go_sem,xc,cY];refine aN ci (by simp[go_sem]) rfl ?_;simp only[go_sem,w];refine aN c0 (by simp[go_sem]) rfl ?_;simp only[go_sem];refine an (λq:Nat×Fa=>⟨[(4,.int .i64 q.1),(1,.mp 1 12 0 0),(3,.mp 3 4 0 0),(2,.mp 2 4 0 0)],[(3,ql q.2),(2,ql eB),(1,⟨33,12,[nZ m],true⟩)]⟩) (λq=>q.1<=m.fs.length/\(q.2.c=0->q.2=eB)/\G=gr (λi x=>ek 3 i (EB x)) q.1 (m.fs.drop q.1) q.2) (λq=>m.fs.length-q.1) (0,uZ 3 m.fs.length (64-(kM 0 m.ims:Nat))) ⟨cQ _,abQ,hG.symm⟩ (Wk.of ?_ ?_) ?_
 .simp only[go_sem];try simp
 .simp only[go_sem];try simp[eB]
 rintro⟨j,E⟩ ⟨hj,WK,hx⟩;simp only at hj WK hx;by_cases h1:(j:Int)<(m.fs.length:Int);rotate_left
 .rw[dc (by omega)]at hx;obtain rfl:G=E:=hx;simp only[go_sem,aM h1];exact aq [] (by simp only[go_sem];try rfl) (by rfl)
 have hj':j<m.fs.length:=by omega
 have e8:=dv hj' (by omega);have cn:=eP E;simp only[gc]at cn;by_cases hE:E.c=0;rotate_left
 .rw[qZ E hE]at hx;obtain rfl:G=E:=hx;rw[aw hE]at cn;simp only[go_sem,aL h1];refine aa (cn) ?_;exact aq [] (by simp only[go_sem];try rfl) (by rfl)
 rw[be hE]at cn;rw[qY hj' E hE]at hx;have hEl:=WK hE;have ca:=rB 3 j (EB (ah m.fs j));simp only[gc]at ca;have sx:=bN hts.2 hj';have d1:=rC (ah m.fs j).t;have d2:=Iq (ah m.fs j).lo (by have:=sx.1;omega);simp only[go_sem,aL h1];refine aa (cn) ?_;refine⟨by omega,h1,?_⟩;refine aj (d1) ?_;cases v1:nX (ah m.fs j).t
 .have hf:EB (ah m.fs j)=11:=by unfold EB;rw[aF v1]
  rw[hf]at ca hx;simp only[go_sem];refine aa (ca) ?_;refine aE (j+1,ek 3 j 11) ⟨show j+1<=m.fs.length by omega,Bt,hx⟩ (show m.fs.length-(j+1)<m.fs.length-j by omega) (Wk.of ?_ ?_)
  .simp only[go_sem,e8];try simp
  .simp only[go_sem]
 by_cases q1:((ah m.fs j).lo.length:Int)>64
 .have hf:EB (ah m.fs j)=6:=by unfold EB;rw[au (by simp[v1]),aF (by omega)]
  rw[hf]at ca hx;simp only[go_sem,aL q1];refine aa (ca) ?_;refine aE (j+1,ek 3 j 6) ⟨show j+1<=m.fs.length by omega,Bt,hx⟩ (show m.fs.length-(j+1)<m.fs.length-j by omega) (Wk.of ?_ ?_)
  .simp only[go_sem,e8];try simp
  .simp only[go_sem]
 simp only[go_sem,aM q1];refine aj (d2) ?_;cases v2:iR (ah m.fs j).lo
 .have hf:EB (ah m.fs j)=12:=by unfold EB;rw[au (by simp[v1]),au (by omega),aF v2]
  rw[hf]at ca hx;simp only[go_sem];refine aa (ca) ?_;refine aE (j+1,ek 3 j 12) ⟨show j+1<=m.fs.length by omega,Bt,hx⟩ (show m.fs.length-(j+1)<m.fs.length-j by omega) (Wk.of ?_ ?_)
  .simp only[go_sem,e8];try simp
  .simp only[go_sem]
 .have hf:EB (ah m.fs j)=0:=by unfold EB;rw[au (by simp[v1]),au (by omega),au (by simp[v2])]
  rw[hf,show ek 3 j 0=E by rw[hEl];rfl]at hx;simp only[go_sem];refine aE (j+1,E) ⟨show j+1<=m.fs.length by omega,WK,hx⟩ (show m.fs.length-(j+1)<m.fs.length-j by omega) (Wk.of ?_ ?_)
  .simp only[go_sem,e8];try simp
  .simp only[go_sem]
