import Derived.Test.YthhglklcaodfmaaGreatDoorCQg
set_option linter.all false
set_option maxRecDepth 100000
set_option maxHeartbeats 40000000
namespace Go.Proofs.YthhglklcaodfmaaGreatDoor
open Go Go.Mw
section
def nuB(t:Int):Bool:=(t==1)||(t==2)
def Mg(t:Int):Bool:=(t==3)||(t==4)
def rM(t:Int):Bool:=nuB t||Mg t
def Yb(l:Lm)(most:Int):Bool:=if l.mn<0\/l.mn>most then false else if l.hs=false then l.mx==0 else decide (l.mn<=l.mx)&&decide (l.mx<=most)
def mF(l:List Int):Bool:=l.all rM
def ow(s:List UInt8):Int:=if s.length>64 then 6 else if uv s=false then 9 else 0
def CS(x:Ft):Int:=if x.ps.length>8\/x.rs.length>8 then 6 else if mF x.ps=false\/mF x.rs=false then 12 else 0
def Mv(x:Tb):Int:=if Mg x.e=false then 12 else if Yb x.l 1024=false then 20 else 0
def KY(l:Lm):Int:=if Yb l 256=false then 20 else 0
def Zz(g:Gl):Int:=if rM g.v=false then 12 else 0
def E7(P:bj->Bool):Nat->List bj->Int×Int
 | _,[]=>(0,0)
 | i,x::r=>if P x=false then((i:Int),10)else if x.lb.length>64 then((i:Int),6)else E7 P (i+1) r
def fO(P:bj->Bool)(l:List bj):Int×Int:=if l.length>2048 then(2048,6)else E7 P 0 l
attribute[local go_sem] bY aW cX bT
def aiK(t:Int):aj pg LA [.int .i64 t] (.bool (nuB t)):=by
 refine ao um ?_;unfold nuB;cases h:(t==1)
 .simp only[go_sem,um,h];exact aq [] (by simp only[go_sem,jW]) (by first|rfl|simp[go_sem,bJ])
 .simp only[go_sem,um,h];exact aq [] (by simp only[go_sem,nx]) (by first|rfl|simp[go_sem,bJ])
def VQ(t:Int):aj pg LB [.int .i64 t] (.bool (Mg t)):=by
 refine ao uo ?_;unfold Mg;cases h:(t==3)
 .simp only[go_sem,uo,h];exact aq [] (by simp only[go_sem,jW]) (by first|rfl|simp[go_sem,bJ])
 .simp only[go_sem,uo,h];exact aq [] (by simp only[go_sem,nx]) (by first|rfl|simp[go_sem,bJ])
def VR(t:Int):aj pg LC [.int .i64 t] (.bool (rM t)):=by
 refine ao BP ?_;have c1:=aiK t;have c2:=VQ t;unfold rM;simp only[go_sem,BP];refine ae (c1) ?_;cases nuB t
 .simp only[go_sem];refine aa (c2) ?_;exact aq [] (by simp only[go_sem,jW]) (by first|rfl|simp[go_sem,bJ])
 .simp only[go_sem];exact aq [] (by simp only[go_sem,nx]) (by first|rfl|simp[go_sem,bJ])
def aaF(t:Int):aj pg jF [.int .i64 t] (.bool (!rM t)):=by
 refine ao wH ?_;simp only[go_sem,wH];refine aa (VR t) ?_;exact ah
def agT{l:List Int}{i:Nat}(h:i<l.length):mF (l.drop i)=(rM (av l i)&&mF (l.drop (i+1))):=by
 unfold mF;rw[dV h,Cf]
def aiJ(l:List Int)(hl:l.length<=9223372036854775807):∃r:Int,aj pg fa [.sl 1 (l.map aS),.fn jF []] (.int .i64 r)/\(mF l=true->r = -1)/\(mF l=false->0<=r):=by
 have key:∀r:Int,(∀i:Nat,i<=l.length->(∀k,k<i->rM (av l k)=true)->(i<l.length->rM (av l i)=false->r=i)/\(i=l.length->r = -1))->aj pg fa [.sl 1 (l.map aS),.fn jF []] (.int .i64 r):=λr hr=>by
  refine ao eW ?_;simp only[go_sem,eW];refine aA (λj:Nat=>⟨[(8,.int .i64 j),(7,.int .i64 l.length),(0,.sl 1 (l.map aS)),(1,.fn jF [])],[]⟩) (λj=>j<=l.length/\∀k,k<j->rM (av l k)=true) (λj=>l.length-j) 0 ⟨dx _,λk hk=>by omega⟩ (Wk.of ?_ ?_) ?_
  .simp only[go_sem];try simp
  .simp only[go_sem]
  rintro j ⟨hj,hx⟩;obtain⟨r1,r2⟩:=hr j hj hx;by_cases h1:(j:Int)<(l.length:Int)
  .have hj':j<l.length:=by omega
   have e8:=cK hj' (by omega);have cc:=aaF (av l j);cases hb:rM (av l j)
   .rw[hb]at cc;rw[r1 hj' hb];simp only[go_sem,aF h1];refine⟨by omega,h1,?_⟩;refine⟨by kernel_rfl,?_⟩;refine aa (cc) ?_;exact ah
   .rw[hb]at cc;simp only[go_sem,aF h1];refine⟨by omega,h1,?_⟩;refine⟨by kernel_rfl,?_⟩;refine aa (cc) ?_;refine aH (j+1) ⟨show j+1<=l.length by omega,λk hk=>?_⟩ (show l.length-(j+1)<l.length-j by omega) (Wk.of ?_ ?_)
    .rcases kU k j with h|h
     .exact hx k h
     .rw[show k=j by omega];exact hb
    .simp only[go_sem,e8];try simp
    .simp only[go_sem]
  .rw[r2 (by omega)];simp only[go_sem,aI h1];exact ah
 have fnd:(∀k,k<l.length->rM (av l k)=true)\/∃j,j<l.length/\rM (av l j)=false/\∀k,k<j->rM (av l k)=true:=by
  have aux:∀n,n<=l.length->(∀k,k<n->rM (av l k)=true)\/∃j,j<l.length/\rM (av l j)=false/\∀k,k<j->rM (av l k)=true:=λn=>by
   induction n with
   | zero=>exact λ_=>.inl λk hk=>by omega
   | succ n ih =>
    intro hn;rcases ih (by omega)with h|h
    .cases hb:rM (av l n)
     .exact .inr ⟨n,by omega,hb,h⟩
     .refine .inl λk hk=>?_;rcases kU k n with q|q
      .exact h k q
      .rw[show k=n by omega];exact hb
    .exact .inr h
  exact aux l.length (aQ _)
 have all_t:(∀k,k<l.length->rM (av l k)=true)->mF l=true:=λh=>by
  unfold mF;rw[ii];intro x hx;obtain⟨i,hi,rfl⟩:=List.getElem_of_mem hx;have:=h i hi;rwa[aY hi]at this
 rcases fnd with h|⟨j,hj,hb,h⟩
 .refine⟨-1,key (-1) λi hi hk=>⟨λq qb=>?_,λ_=>rfl⟩,λ_=>rfl,λq=>?_⟩
  .rw[h i q]at qb;cases qb
  .rw[all_t h]at q;cases q
 .refine⟨(j:Int),key (j:Int) λi hi hk=>⟨λq qb=>?_,λq=>?_⟩,λq=>?_,λ_=>by omega⟩
  .rcases kU i j with z|z
   .rw[h i z]at qb;cases qb
   .rcases kU j i with z2|z2
    .rw[hk j z2]at hb;cases hb
    .rw[show i=j by omega]
  .rw[hk j (by omega)]at hb;cases hb
  .unfold mF at q;rw[ii]at q;have:=q _ (eH hj);rw[aY hj]at hb;rw[hb]at this;cases this
def afa(l:List Int)(hl:l.length<=9223372036854775807):aj pg iW [.sl 1 (l.map aS),.fn jF []] (.bool (!mF l)):=by
 obtain⟨r,hr,h1,h2⟩:=aiJ l hl;refine ao cU ?_;cases hb:mF l
 .simp only[go_sem,cU];refine ae (hr) ?_;simp only[go_sem,aF (show r>=0 from h2 hb)];exact aq [] (by simp only[go_sem,GT]) (by first|rfl|simp[go_sem,bJ])
 .simp only[go_sem,cU];refine ae (hr) ?_;simp only[go_sem,aI (show ¬r>=0 by rw[h1 hb];decide)];exact aq [] (by simp only[go_sem,Bt]) (by first|rfl|simp[go_sem,bJ])
def Iw(l:List Int)(hl:l.length<=9223372036854775807):aj pg K5 [.sl 1 (l.map aS)] (.bool (mF l)):=by
 refine ao By ?_;simp only[go_sem,By];refine ae (afa l hl) ?_;simp only[go_sem,Bool.not_not];exact ah
def vx(i:Int):aj pg IE [.int .i64 i] (.bool (re i)):=by
 refine ao qF ?_;unfold re;by_cases h:(0:Int)<=i
 .simp only[go_sem,qF,aF (show i>=0 from h)];exact aq [] (by simp only[go_sem,aF h,dM]) (by first|rfl|simp[go_sem,bJ])
 .simp only[go_sem,qF,aI (show ¬i>=0 from h)];exact aq [] (by simp only[go_sem,aI h,dF]) (by first|rfl|simp[go_sem,bJ])
def aiH(x:Ft)(h:smF x):aj pg Cq [.agg (pt x)] (.int .i64 (CS x)):=by
 refine ao jL ?_;have c1:=Iw x.ps (by have:=h.1;omega);have c2:=Iw x.rs (by have:=h.2;omega);unfold CS;by_cases q1:(x.ps.length:Int)>8
 .rw[az (.inl (by omega))];simp only[go_sem,jL,aF q1];exact ah
 by_cases q2:(x.rs.length:Int)>8
 .rw[az (.inr (by omega))];simp only[go_sem,jL,aI q1,aF q2];exact ah
 rw[an (by omega)];simp only[go_sem,jL,aI q1,aI q2];refine ae (c1) ?_;cases mF x.ps
 .simp only[go_sem];exact aq [] (by simp only[go_sem];try rfl) (by rfl)
 simp only[go_sem];refine ae (c2) ?_;cases mF x.rs
 .simp only[go_sem];exact aq [] (by simp only[go_sem];try rfl) (by rfl)
 .simp only[go_sem];exact aq [] (by simp only[go_sem];try rfl) (by rfl)
end
section
structure Fa where
 p:Int
 i:Int
 l:Int
 c:Int
def ck(F:Fa):au:=⟨89,4,[[.int .i64 F.p,.int .i64 F.i,.int .i64 F.l,.int .i64 F.c]],true⟩
def dE(F:Fa)(p i l e:Int):Fa:=if F.c=0/\e≠0 then⟨p,i,l,e⟩else F
def CM(f:FuncId)(rest:List AV)(F F':Fa):Prop:=bA pg f (.mp 1000 4 0 0::rest) [(1000,ck F)] (λid=>1000<=id/\id<2000) (λr' σ'=>r' = .tup []/\σ'=[(1000,ck F')])
attribute[local go_sem] bY ck aW du eY bT cX nP fM iQ fY fZ iB cQ
def NJ(F:Fa)(p i l e:Int):CM jS [.int .i64 p,.int .i64 i,.int .i64 l,.int .i64 e] F (dE F p i l e):=by
 refine b_ gL ?_;unfold dE;by_cases h1:F.c=0
 .by_cases h2:e=0
  .rw[an (by simp[h2])];simp only[go_sem,gL,aD h1,ay h2];exact zi [] _ [(1000,ck F)] ⟨rfl,rfl⟩
  .rw[az ⟨h1,h2⟩];simp only[go_sem,gL,aD h1,aE h2];exact zi [] _ [(1000,ck ⟨p,i,l,e⟩)] ⟨rfl,rfl⟩
 .rw[an (λq=>h1 q.1)];simp only[go_sem,gL,ac h1];exact zi [] _ [(1000,ck F)] ⟨rfl,rfl⟩
def Js{α β:Type}[Inhabited α][Inhabited β]{f:α->β}{l:List α}{i:Nat}(h:i<l.length):av (l.map f) i=f (av l i):=by
 rw[aY (by simpa using h),aY h,List.getElem_map]
def ee(n:Int):Nat->List (Int×Int)->Fa->Fa
 | _,[],F=>F
 | i,r::l,F=>if F.c≠0 then F else ee n (i+1) l (dE F n i r.1 r.2)
def eF(n most imp:Int)(res:List (Int×Int))(F:Fa):Fa :=
 ee n 0 res (if IntKind.i64.wrap ((res.length:Int)+imp)>most then dE F n (if 0<IntKind.i64.wrap (most-imp)then IntKind.i64.wrap (most-imp)else 0) 0 6 else F)
def Uk{n:Int}{l:List (Int×Int)}{i:Nat}(h:i<l.length)(F:Fa)(hF:F.c=0):ee n i (l.drop i) F=ee n (i+1) (l.drop (i+1)) (dE F n i (av l i).1 (av l i).2):=by
 rw[dV h,ee,an (by simp[hF])]
def Nr{n:Int}{l:List (Int×Int)}{i:Nat}(F:Fa)(hF:F.c≠0):ee n i l F=F:=by
 cases l with
 | nil=>rfl
 | cons r l=>rw[ee,az hF]
def ain{f:FuncId}(h:cy pg f=true):f<4000000:=Nv (by kernel_rfl) h
def ptB(t st:Nat)(z:List AV):bC :=
 (.seq (.seq (.reg [mv 16 2,
 o0 17 (.len (.s 16)),
 mv 18 4,
 o0 19 (.bin .add (.s 17) (.s 18)),
 mv 20 3,
 o0 21 (.bin .gtr (.s 19) (.s 20))] [16,17,18,19,20])
 (.cond (.s 21)
 (.reg [mv 22 0,
 mv 23 1,
 mv 24 3,
 mv 25 4,
 o0 26 (.bin .sub (.s 24) (.s 25)),
 o0 27 (.mnx true (.c (.int .i64 0)) (.s 26)),
 o0 28 (.call jS [(.s 22),(.s 23),(.s 27),(.c (.int .i64 0)),(.c (.int .i64 6))])] [22,23,24,25,26,27,28])
 .skip))
 (.seq (.reg [mv 29 2,
 o0 30 (.len (.s 29)),
 o0 31 (.mov (.c (.int .i64 0)))] [])
 (.block 0 (.loop (.seq (.reg [o0 32 (.bin .lss (.s 31) (.s 30))] [])
 (.seq (.cond (.s 32)
 .skip
 (.exit 0))
 (.seq (.block 1 (.seq (.reg [mv 33 31,
 o0 34 (.iadr st (.s 29) (.s 31)),
 o0 35 (.load (some st) (.s 34)),
 o0 13 (.new t z),
 mv 12 33,
 ⟨none,.store st (.s 13) (.s 35),none⟩] [33,34,35])
 (.seq (.seq (.reg [mv 36 0,
 o0 37 (.nchk (.s 36)),
 o0 38 (.fadr 0 (.s 37)),
 o0 39 (.fadr 3 (.s 38)),
 o0 40 (.load none (.s 39)),
 o0 41 (.bin .neq (.s 40) (.c (.int .i64 0)))] [36,37,38,39,40])
 (.cond (.s 41)
 .ret
 .skip))
 (.seq (.reg [mv 43 5,
 mv 44 12,
 o0 45 (.load (some st) (.s 13)),
 o0 46 (.callv (.s 43) [(.s 44),(.s 45)]),
 mv 42 46,
 o0 47 (.ext (.s 42) 0),
 o0 48 (.ext (.s 42) 1),
 mv 14 47,
 mv 15 48] [43,44,45,46,42,47,48])
 (.reg [mv 49 0,
 mv 50 1,
 mv 51 12,
 mv 52 14,
 mv 53 15,
 o0 54 (.call jS [(.s 49),(.s 50),(.s 51),(.s 52),(.s 53)])] [49,50,51,52,53,54])))))
 (.reg [o0 55 (.bin .add (.s 31) (.c (.int .i64 1))),
 mv 31 55] [55]))))))))
def pz{α:Type}[Inhabited α]{m t st:Nat}{z:List AV}{c:α->List AV}(hc:sz pg m=some ⟨56,6,[],ptB t st z⟩)(hz:z.length=st)(hr:∀x,aku st (c x)){f:FuncId}(hb:cy pg f=true)(g:α->Int×Int)(a:List α)(ha:a.length<=9223372036854775807)
  (hf:∀x∈a,∀i:Int,aj pg f [.int .i64 i,.agg (c x)] (.tup [.int .i64 (g x).1,.int .i64 (g x).2])) (n most imp:Int) (F:Fa) :
  CM m [.int .i64 n,.sl st (a.map c),.int .i64 most,.int .i64 imp,.fn f []] F (eF n most imp (a.map g) F):=by
 refine lx (ic:=ptB t st z) fD hc rfl rfl ?_;obtain⟨G,hG⟩:∃G,eF n most imp (a.map g) F=G:=⟨_,rfl⟩
 rw[hG];unfold eF at hG;rw[bY]at hG;subst hz;have q1:∀x,yB (some z.length) (c x)=some (.agg (c x)):=λx=>aau (hr x).1;have q2:∀x,Ms 13 z.length z.length 0 0 (some ⟨t,z.length,[z],true⟩) (some (c x))=some (.put 13 ⟨t,z.length,[c x],true⟩):=λx=>abL rfl (hr x).1;have q3:∀x i,(c x).any (mC i)=false:=λx i=>(hr x).2.1 i;by_cases hw:IntKind.i64.wrap ((a.length:Int)+imp)>most;rw[az hw]at hG;simp only[go_sem,ptB,aF hw];refine fk (NJ F n (if 0<IntKind.i64.wrap (most-imp)then IntKind.i64.wrap (most-imp)else 0) 0 6) ?_;generalize dE F n (if 0<IntKind.i64.wrap (most-imp)then IntKind.i64.wrap (most-imp)else 0) 0 6=F0 at hG⊢;rotate_left;rw[an hw]at hG;simp only[go_sem,ptB,aI hw];generalize F=F0 at hG⊢
 all_goals
  refine aA (λq:Nat×Fa=>⟨[(31,.int .i64 q.1),(30,.int .i64 a.length),(29,.sl z.length (a.map c)),(0,.mp 1000 4 0 0),(1,.int .i64 n),(5,.fn f [])],[(1000,ck q.2)]⟩) (λq=>q.1<=a.length/\G=ee n q.1 ((a.map g).drop q.1) q.2) (λq=>a.length-q.1) (0,F0) ⟨dx _,hG.symm⟩ (Wk.of ?_ ?_) ?_
  .simp only[go_sem];try simp
  .simp only[go_sem]
  rintro⟨j,E⟩ ⟨hj,hx⟩;simp only at hj hx;by_cases h1:(j:Int)<(a.length:Int);rotate_left
  .rw[a_ (by rw[bY];omega)]at hx;obtain rfl:G=E:=hx;simp only[go_sem,aI h1];exact zi [] _ [(1000,ck G)] ⟨rfl,rfl⟩
  have hj':j<a.length:=by omega
  have e8:=cK hj' (by omega);have cc:=pU hf hj' (j:Int);by_cases hE:E.c=0;rotate_left
  .rw[Nr E hE]at hx;obtain rfl:G=E:=hx;simp only[go_sem,aF h1,aE hE,q1,q2,q3];refine⟨by omega,h1,?_⟩;exact aZ [] (.tup []) [(1000,ck G)] ⟨rfl,rfl⟩
  rw[Uk (by rw[bY];exact hj') E hE,Js hj']at hx;simp only[go_sem,aF h1,ay hE,q1,q2,q3];refine⟨by omega,h1,?_⟩;rw[az (ain hb)];refine⟨hb,?_⟩;refine cI cc (λx hx=>?_) ?_
  .rcases bM.1 hx with rfl|hx
   .rfl
   .rcases bM.1 hx with rfl|hx
    .exact(hr _).2.2
    .cases hx
  simp only[go_sem];refine fk (NJ E n j (g (av a j)).1 (g (av a j)).2) ?_;refine aH (j+1,dE E n j (g (av a j)).1 (g (av a j)).2) ⟨show j+1<=a.length by omega,hx⟩ (show a.length-(j+1)<a.length-j by omega) (Wk.of ?_ ?_)
  .simp only[go_sem,e8];try simp
  .simp only[go_sem]
def VL{f:FuncId}(hb:cy pg f=true)(g:Ft->Int×Int)(a:List Ft)(ha:a.length<=9223372036854775807)(hf:∀x∈a,∀i:Int,aj pg f [.int .i64 i,.agg (pt x)] (.tup [.int .i64 (g x).1,.int .i64 (g x).2]))(n most imp:Int)(F:Fa) :
  CM mc [.int .i64 n,.sl 2 (a.map pt),.int .i64 most,.int .i64 imp,.fn f []] F (eF n most imp (a.map g) F):=pz (cF tD) rfl (λ_=>⟨rfl,λ_=>rfl,rfl⟩) hb g a ha hf n most imp F
def VN{f:FuncId}(hb:cy pg f=true)(g:Im->Int×Int)(a:List Im)(ha:a.length<=9223372036854775807)(hf:∀x∈a,∀i:Int,aj pg f [.int .i64 i,.agg (KH x)] (.tup [.int .i64 (g x).1,.int .i64 (g x).2]))(n most imp:Int)(F:Fa) :
  CM kE [.int .i64 n,.sl 13 (a.map KH),.int .i64 most,.int .i64 imp,.fn f []] F (eF n most imp (a.map g) F):=pz (cF qJ) rfl (λ_=>⟨rfl,λ_=>rfl,rfl⟩) hb g a ha hf n most imp F
def KU{f:FuncId}(hb:cy pg f=true)(g:Cd->Int×Int)(a:List Cd)(ha:a.length<=9223372036854775807)(hf:∀x∈a,∀i:Int,aj pg f [.int .i64 i,.agg (Sx x)] (.tup [.int .i64 (g x).1,.int .i64 (g x).2]))(n most imp:Int)(F:Fa) :
  CM iV [.int .i64 n,.sl 3 (a.map Sx),.int .i64 most,.int .i64 imp,.fn f []] F (eF n most imp (a.map g) F):=pz (cF tA) rfl (λ_=>⟨rfl,λ_=>rfl,rfl⟩) hb g a ha hf n most imp F
def VP{f:FuncId}(hb:cy pg f=true)(g:Tb->Int×Int)(a:List Tb)(ha:a.length<=9223372036854775807)(hf:∀x∈a,∀i:Int,aj pg f [.int .i64 i,.agg (Dd x)] (.tup [.int .i64 (g x).1,.int .i64 (g x).2]))(n most imp:Int)(F:Fa) :
  CM lg [.int .i64 n,.sl 4 (a.map Dd),.int .i64 most,.int .i64 imp,.fn f []] F (eF n most imp (a.map g) F):=pz (cF sW) rfl (λ_=>⟨rfl,λ_=>rfl,rfl⟩) hb g a ha hf n most imp F
def VO{f:FuncId}(hb:cy pg f=true)(g:Lm->Int×Int)(a:List Lm)(ha:a.length<=9223372036854775807)(hf:∀x∈a,∀i:Int,aj pg f [.int .i64 i,.agg (B5 x)] (.tup [.int .i64 (g x).1,.int .i64 (g x).2]))(n most imp:Int)(F:Fa) :
  CM kF [.int .i64 n,.sl 3 (a.map B5),.int .i64 most,.int .i64 imp,.fn f []] F (eF n most imp (a.map g) F):=pz (cF qK) rfl (λ_=>⟨rfl,λ_=>rfl,rfl⟩) hb g a ha hf n most imp F
def VM{f:FuncId}(hb:cy pg f=true)(g:Gd->Int×Int)(a:List Gd)(ha:a.length<=9223372036854775807)(hf:∀x∈a,∀i:Int,aj pg f [.int .i64 i,.agg (Zx x)] (.tup [.int .i64 (g x).1,.int .i64 (g x).2]))(n most imp:Int)(F:Fa) :
  CM jl [.int .i64 n,.sl 3 (a.map Zx),.int .i64 most,.int .i64 imp,.fn f []] F (eF n most imp (a.map g) F):=pz (cF ox) rfl (λ_=>⟨rfl,λ_=>rfl,rfl⟩) hb g a ha hf n most imp F
def VK{f:FuncId}(hb:cy pg f=true)(g:Ex->Int×Int)(a:List Ex)(ha:a.length<=9223372036854775807)(hf:∀x∈a,∀i:Int,aj pg f [.int .i64 i,.agg (T5 x)] (.tup [.int .i64 (g x).1,.int .i64 (g x).2]))(n most imp:Int)(F:Fa) :
  CM kD [.int .i64 n,.sl 3 (a.map T5),.int .i64 most,.int .i64 imp,.fn f []] F (eF n most imp (a.map g) F):=pz (cF qI) rfl (λ_=>⟨rfl,λ_=>rfl,rfl⟩) hb g a ha hf n most imp F
def VJ{f:FuncId}(hb:cy pg f=true)(g:El->Int×Int)(a:List El)(ha:a.length<=9223372036854775807)(hf:∀x∈a,∀i:Int,aj pg f [.int .i64 i,.agg (Kq x)] (.tup [.int .i64 (g x).1,.int .i64 (g x).2]))(n most imp:Int)(F:Fa) :
  CM l_ [.int .i64 n,.sl 5 (a.map Kq),.int .i64 most,.int .i64 imp,.fn f []] F (eF n most imp (a.map g) F):=pz (cF tC) rfl (λ_=>⟨rfl,λ_=>rfl,rfl⟩) hb g a ha hf n most imp F
def VI{f:FuncId}(hb:cy pg f=true)(g:Da->Int×Int)(a:List Da)(ha:a.length<=9223372036854775807)(hf:∀x∈a,∀i:Int,aj pg f [.int .i64 i,.agg (Za x)] (.tup [.int .i64 (g x).1,.int .i64 (g x).2]))(n most imp:Int)(F:Fa) :
  CM l0 [.int .i64 n,.sl 4 (a.map Za),.int .i64 most,.int .i64 imp,.fn f []] F (eF n most imp (a.map g) F):=pz (cF tB) rfl (λ_=>⟨rfl,λ_=>rfl,rfl⟩) hb g a ha hf n most imp F
def VH{f:FuncId}(hb:cy pg f=true)(g:Cu->Int×Int)(a:List Cu)(ha:a.length<=9223372036854775807)(hf:∀x∈a,∀i:Int,aj pg f [.int .i64 i,.agg (Y_ x)] (.tup [.int .i64 (g x).1,.int .i64 (g x).2]))(n most imp:Int)(F:Fa) :
  CM kC [.int .i64 n,.sl 3 (a.map Y_),.int .i64 most,.int .i64 imp,.fn f []] F (eF n most imp (a.map g) F):=pz (cF qG) rfl (λ_=>⟨rfl,λ_=>rfl,rfl⟩) hb g a ha hf n most imp F
end
section
attribute[local go_sem] bY aW du eY bT cX nP fM iQ fY fZ bV cQ
def VG(l:Lm)(most:Int):aj pg EG [.agg (B5 l),.int .i64 most] (.bool (Yb l most)):=by
 refine ao gp ?_;unfold Yb;by_cases q1:l.mn<0
 .rw[az (.inl q1)];simp only[go_sem,gp,aF q1];exact ah
 by_cases q2:l.mn>most
 .rw[az (.inr q2)];simp only[go_sem,gp,aI q1,aF q2];exact ah
 rw[an (by omega)];cases hh:l.hs
 .rw[az rfl];simp only[go_sem,gp,aI q1,aI q2,hh];exact ah
 .rw[an (by decide)];by_cases q3:l.mn<=l.mx
  .simp only[go_sem,gp,aI q1,aI q2,hh,aF q3];exact aq [] (by simp only[go_sem,dM]) (by first|rfl|simp[go_sem,bJ])
  .simp only[go_sem,gp,aI q1,aI q2,hh,aI q3];exact aq [] (by simp only[go_sem,dF]) (by first|rfl|simp[go_sem,bJ])
def Pu(x:Tb):aj pg IF [.agg (Dd x)] (.int .i64 (Mv x)):=by
 refine ao yF ?_;have c1:=VQ x.e;have c2:=VG x.l 1024;unfold Mv;simp only[go_sem,yF];refine ae (c1) ?_;cases Mg x.e
 .simp only[go_sem];exact aq [] (by simp only[go_sem];try rfl) (by rfl)
 .simp only[go_sem];refine ae (c2) ?_;cases Yb x.l 1024
  .simp only[go_sem];exact aq [] (by simp only[go_sem];try rfl) (by rfl)
  .simp only[go_sem];exact aq [] (by simp only[go_sem];try rfl) (by rfl)
def acG(l:Lm):aj pg FS [.agg (B5 l)] (.int .i64 (KY l)):=by
 refine ao wG ?_;have c2:=VG l 256;unfold KY;simp only[go_sem,wG];refine ae (c2) ?_;cases Yb l 256
 .simp only[go_sem];exact aq [] (by simp only[go_sem];try rfl) (by rfl)
 .simp only[go_sem];exact aq [] (by simp only[go_sem];try rfl) (by rfl)
def VE(g:Gl):aj pg FR [.agg [.int .i64 g.v,.bool g.mu]] (.int .i64 (Zz g)):=by
 refine ao wF ?_;have c2:=VR g.v;unfold Zz;simp only[go_sem,wF];refine ae (c2) ?_;cases rM g.v
 .simp only[go_sem];exact aq [] (by simp only[go_sem];try rfl) (by rfl)
 .simp only[go_sem];exact aq [] (by simp only[go_sem];try rfl) (by rfl)
def Iv(s:List UInt8):aj pg K4 [.str s] (.int .i64 (ow s)):=by
 refine ao tz ?_;unfold ow;by_cases q1:(s.length:Int)>64
 .rw[az (by omega)];simp only[go_sem,tz,aF q1];exact ah
 rw[an (by omega)];simp only[go_sem,tz,aI q1];refine ae (ajN s (by omega)) ?_;cases uv s
 .simp only[go_sem];exact aq [] (by simp only[go_sem];try rfl) (by rfl)
 .simp only[go_sem];exact aq [] (by simp only[go_sem];try rfl) (by rfl)
def Dw(x:Cd):Int:=if re x.t=false then 11 else if x.lo.length>64 then 6 else if mF x.lo=false then 12 else 0
def ae_(x:Cd)(h:abG x):aj pg K1 [.agg (Sx x)] (.int .i64 (Dw x)):=by
 refine ao Bx ?_;have c1:=vx x.t;have c2:=Iw x.lo (by have:=h.1;omega);unfold Dw;simp only[go_sem,Bx];refine ae (c1) ?_;cases re x.t
 .simp only[go_sem];exact aq [] (by simp only[go_sem];try rfl) (by rfl)
 rw[an (by decide)];by_cases q1:(x.lo.length:Int)>64
 .rw[az (by omega)];simp only[go_sem,aF q1];exact ah
 rw[an (by omega)];simp only[go_sem,aI q1];refine ae (c2) ?_;cases mF x.lo
 .simp only[go_sem];exact aq [] (by simp only[go_sem];try rfl) (by rfl)
 .simp only[go_sem];exact aq [] (by simp only[go_sem];try rfl) (by rfl)
def MM(x:Ex):Int:=if ow x.n≠0 then ow x.n else if x.k<0\/x.k>3 then 1 else if re x.i=false then 11 else 0
def VD(x:Ex):aj pg FQ [.agg (T5 x)] (.int .i64 (MM x)):=by
 refine ao wE ?_;have c1:=Iv x.n;have c2:=vx x.i;unfold MM;simp only[go_sem,wE];refine ae (c1) ?_;by_cases q0:ow x.n=0;rotate_left
 .rw[az q0];simp only[go_sem,aE q0];exact ah
 rw[an (by simp[q0])];by_cases q1:x.k<0
 .rw[az (.inl q1)];simp only[go_sem,ay q0,aF q1];exact ah
 by_cases q2:x.k>3
 .rw[az (.inr q2)];simp only[go_sem,ay q0,aI q1,aF q2];exact ah
 rw[an (by omega)];simp only[go_sem,ay q0,aI q1,aI q2];refine ae (c2) ?_;cases re x.i
 .simp only[go_sem];exact aq [] (by simp only[go_sem];try rfl) (by rfl)
 .simp only[go_sem];exact aq [] (by simp only[go_sem];try rfl) (by rfl)
def PS{P:bj->Bool}{l:List bj}{i:Nat}(h:i<l.length):E7 P i (l.drop i)=if P (av l i)=false then((i:Int),10)else if(av l i).lb.length>64 then((i:Int),6)else E7 P (i+1) (l.drop (i+1)):=by
 rw[dV h,E7]
def KV(P:bj->Bool)(l:List bj)(hl:Mr l)(hP:∀x∈l,aj pg dg [fN x] (.bool (P x))):aj pg Ed [.sl 9 (l.map cQ)] (.tup [.int .i64 (fO P l).1,.int .i64 (fO P l).2]):=by
 refine ao xL ?_;unfold fO;by_cases q1:(l.length:Int)>2048
 .rw[az (by omega)];simp only[go_sem,xL,aF q1];exact ah
 rw[an (by omega)];obtain⟨G,hG⟩:∃G,E7 P 0 l=G:=⟨_,rfl⟩
 rw[hG];simp only[go_sem,xL,aI q1];refine aA (λj:Nat=>⟨[(11,.int .i64 j),(10,.int .i64 l.length),(9,.sl 9 (l.map cQ))],[]⟩) (λj=>j<=l.length/\G=E7 P j (l.drop j)) (λj=>l.length-j) 0 ⟨dx _,hG.symm⟩ (Wk.of ?_ ?_) ?_
 .simp only[go_sem];try simp
 .simp only[go_sem]
 rintro j ⟨hj,hx⟩;by_cases h1:(j:Int)<(l.length:Int);rotate_left
 .rw[a_ (by omega)]at hx;obtain rfl:G=(0,0):=hx;simp only[go_sem,aI h1];exact ah
 have hj':j<l.length:=by omega
 have e8:=cK hj' (by have:=hl.1;omega);have cc:=pU hP hj';simp only[bV]at cc;rw[PS hj']at hx;cases hp:P (av l j)
 .rw[hp]at cc hx;obtain rfl:G=((j:Int),10):=hx;simp only[go_sem,aF h1];refine⟨by omega,h1,?_⟩;refine aa (cc) ?_;exact ah
 rw[hp]at cc hx;rw[an (by decide)]at hx;by_cases q2:((av l j).lb.length:Int)>64
 .rw[az (by omega)]at hx;subst hx;simp only[go_sem,aF h1];refine⟨by omega,h1,?_⟩;refine ae (cc) ?_;simp only[go_sem,aF q2];exact ah
 rw[an (by omega)]at hx;simp only[go_sem,aF h1];refine⟨by omega,h1,?_⟩;refine ae (cc) ?_;simp only[go_sem,aI q2];refine aH (j+1) ⟨show j+1<=l.length by omega,hx⟩ (show l.length-(j+1)<l.length-j by omega) (Wk.of ?_ ?_)
 .simp only[go_sem,e8];try simp
 .simp only[go_sem]
end
section
def MJ(x:Cu):Int:=if ow x.n≠0 then ow x.n else if x.b.length>4096 then 6 else if x.af<0\/x.af>12 then 1 else 0
attribute[local go_sem] bY aW du eY bT cX nP fM iQ fY fZ bV cQ
def VC(x:Cu):aj pg FP [.agg (Y_ x)] (.int .i64 (MJ x)):=by
 refine ao wD ?_;have c1:=Iv x.n;unfold MJ;simp only[go_sem,wD];refine ae (c1) ?_;by_cases q0:ow x.n=0;rotate_left
 .rw[az q0];simp only[go_sem,aE q0];exact ah
 rw[an (by simp[q0])];by_cases q1:(x.b.length:Int)>4096
 .rw[az (by omega)];simp only[go_sem,ay q0,aF q1];exact ah
 rw[an (by omega)];by_cases q2:x.af<0
 .rw[az (.inl q2)];simp only[go_sem,ay q0,aI q1,aF q2];exact ah
 by_cases q3:x.af>12
 .rw[az (.inr q3)];simp only[go_sem,ay q0,aI q1,aI q2,aF q3];exact ah
 rw[an (by omega)];simp only[go_sem,ay q0,aI q1,aI q2,aI q3];exact ah
def M7(P:bj->Bool)(x:Da):Int×Int:=if x.mo≠0/\(x.mo≠1\/x.me≠0\/x.o.length>0)then(0,1)else if re x.me=false then(0,11)else if x.b.length>4096 then(0,6)else fO P x.o
def afb(P:bj->Bool)(x:Da)(h:agv x)(hP:∀y∈x.o,aj pg dg [fN y] (.bool (P y))):aj pg K2 [.agg (Za x)] (.tup [.int .i64 (M7 P x).1,.int .i64 (M7 P x).2]):=by
 refine ao j1 ?_;have c1:=vx x.me;have c2:=KV P x.o h.1 hP;unfold M7;by_cases q1:x.mo=0
 .rw[an (λq=>q.1 q1)];simp only[go_sem,j1,ay q1];refine ae (c1) ?_;cases re x.me
  .simp only[go_sem];exact aq [] (by simp only[go_sem];try rfl) (by rfl)
  rw[an (by decide)];by_cases q5:(x.b.length:Int)>4096
  .rw[az (by omega)];simp only[go_sem,aF q5];exact aq [] (by simp only[go_sem];try rfl) (by rfl)
  rw[an (by omega)];simp only[go_sem,aI q5];refine aa (c2) ?_;exact ah
 by_cases q2:x.mo=1;rotate_left
 .rw[az ⟨q1,.inl q2⟩];simp only[go_sem,j1,aE q1,aE q2];exact aq [] (by simp only[go_sem];try rfl) (by rfl)
 by_cases q3:x.me=0;rotate_left
 .rw[az ⟨q1,.inr (.inl q3)⟩];simp only[go_sem,j1,aE q1,ay q2,aE q3];exact aq [] (by simp only[go_sem];try rfl) (by rfl)
 by_cases q4:(x.o.length:Int)>0
 .rw[az ⟨q1,.inr (.inr (by omega))⟩];simp only[go_sem,j1,aE q1,ay q2,ay q3,aF q4];exact aq [] (by simp only[go_sem];try rfl) (by rfl)
 rw[an (λq=>by rcases q.2 with z|z|z;exact z q2;exact z q3;omega)];simp only[go_sem,j1,aE q1,ay q2,ay q3,aI q4];refine ae (c1) ?_;cases re x.me
 .simp only[go_sem];exact aq [] (by simp only[go_sem];try rfl) (by rfl)
 rw[an (by decide)];by_cases q5:(x.b.length:Int)>4096
 .rw[az (by omega)];simp only[go_sem,aF q5];exact aq [] (by simp only[go_sem];try rfl) (by rfl)
 rw[an (by omega)];simp only[go_sem,aI q5];refine aa (c2) ?_;exact ah
def lR(x:Im):Im:=if x.k=0 then⟨x.m,x.n,x.k,x.f,0,⟨0,0,false⟩,⟨0,0,false⟩,⟨0,false⟩⟩else if x.k=1 then⟨x.m,x.n,x.k,0,x.te,x.tl,⟨0,0,false⟩,⟨0,false⟩⟩else if x.k=2 then⟨x.m,x.n,x.k,0,0,⟨0,0,false⟩,x.me,⟨0,false⟩⟩else if x.k=3 then⟨x.m,x.n,x.k,0,0,⟨0,0,false⟩,⟨0,0,false⟩,x.g⟩else⟨x.m,x.n,x.k,0,0,⟨0,0,false⟩,⟨0,0,false⟩,⟨0,false⟩⟩
def ae9(x:Im):aj pg K0 [.agg (KH x)] (.agg (KH (lR x))):=by
 refine ao j0 ?_;unfold lR;by_cases q0:x.k=0
 .rw[az q0];simp only[go_sem,j0,aD q0];exact aq [] (by simp only[go_sem];try rfl) (by rfl)
 rw[an q0];by_cases q1:x.k=1
 .rw[az q1];simp only[go_sem,j0,ac q0,aD q1];exact aq [] (by simp only[go_sem];try rfl) (by rfl)
 rw[an q1];by_cases q2:x.k=2
 .rw[az q2];simp only[go_sem,j0,ac q0,ac q1,aD q2];exact aq [] (by simp only[go_sem];try rfl) (by rfl)
 rw[an q2];by_cases q3:x.k=3
 .rw[az q3];simp only[go_sem,j0,ac q0,ac q1,ac q2,aD q3];exact aq [] (by simp only[go_sem];try rfl) (by rfl)
 rw[an q3];simp only[go_sem,j0,ac q0,ac q1,ac q2,ac q3];exact aq [] (by simp only[go_sem];try rfl) (by rfl)
end
section
def KI(x:Im):Int:=if ow x.m≠0 then ow x.m else if ow x.n≠0 then ow x.n else if x.k<0\/x.k>3\/lR x≠x then 1 else if x.k=1 then Mv ⟨x.te,x.tl⟩else if x.k=2 then KY x.me else if x.k=3 then Zz x.g else if re x.f=false then 11 else 0
attribute[local go_sem] bY aW du eY bT cX nP fM iQ fY fZ iB bV cQ
def aiI(x:Im):aj pg Ec [.agg (KH x)] (.int .i64 (KI x)):=by
 refine ao tx ?_;have c1:=Iv x.m;have c2:=Iv x.n;have c3:=ae9 x;have c4:=Pu ⟨x.te,x.tl⟩;have c5:=acG x.me;have c6:=VE x.g;have c7:=vx x.f;simp only[du]at c3;unfold KI;simp only[go_sem,tx];refine ae (c1) ?_;by_cases q0:ow x.m=0;rotate_left
 .rw[az q0];simp only[go_sem,aE q0];exact ah
 rw[an (by simp[q0])];simp only[go_sem,ay q0];refine ae (c2) ?_;by_cases q1:ow x.n=0;rotate_left
 .rw[az q1];simp only[go_sem,aE q1];exact ah
 rw[an (by simp[q1])];by_cases q2:x.k<0
 .rw[az (.inl q2)];simp only[go_sem,ay q1,aF q2];exact ah
 by_cases q3:x.k>3
 .rw[az (.inr (.inl q3))];simp only[go_sem,ay q1,aI q2,aF q3];exact ah
 simp only[go_sem,ay q1,aI q2,aI q3];refine ax c3 (by simp[go_sem]) rfl ?_;by_cases q4:lR x=x;rotate_left
 .rw[az (.inr (.inr q4))];simp only[go_sem,KJ,aI q4,GT];exact ah
 rw[an (λq=>by rcases q with z|z|z;exact q2 z;exact q3 z;exact z q4)];by_cases k1:x.k=1
 .rw[az k1];simp only[go_sem,KJ,aF q4,Bt,aD k1];refine aa (c4) ?_;exact ah
 rw[an k1];by_cases k2:x.k=2
 .rw[az k2];simp only[go_sem,KJ,aF q4,Bt,ac k1,aD k2];refine aa (c5) ?_;exact ah
 rw[an k2];by_cases k3:x.k=3
 .rw[az k3];simp only[go_sem,KJ,aF q4,Bt,ac k1,ac k2,aD k3];refine aa (c6) ?_;exact ah
 rw[an k3];simp only[go_sem,KJ,aF q4,Bt,ac k1,ac k2,ac k3];refine ae (c7) ?_;cases re x.f
 .simp only[go_sem];exact aq [] (by simp only[go_sem];try rfl) (by rfl)
 .simp only[go_sem];exact aq [] (by simp only[go_sem];try rfl) (by rfl)
def oV(P:bj->Bool):List (List bj)->Int×Int
 | []=>(0,0)
 | l::r=>if(fO P l).2≠0 then fO P l else oV P r
def Mi{P:bj->Bool}{l:List (List bj)}{i:Nat}(h:i<l.length):oV P (l.drop i)=if(fO P (av l i)).2≠0 then fO P (av l i)else oV P (l.drop (i+1)):=by
 rw[dV h];rfl
def ML(P:bj->Bool)(x:El):Int×Int :=
 if x.mo<0\/x.mo>2\/(x.mo≠0/\(x.tb≠0\/x.o.length>0))then(0,1)else if re x.tb=false then(0,11)else if Mg x.ty=false then(0,12)else if x.it.length>256 then(0,6)else oV P (x.o::x.it)
def afc(P:bj->Bool)(x:El)(h:agw x)(hP:∀y,C_ y->aj pg dg [fN y] (.bool (P y))):aj pg K3 [.agg (Kq x)] (.tup [.int .i64 (ML P x).1,.int .i64 (ML P x).2]):=by
 refine ao iI ?_;have c1:=vx x.tb;have c2:=VQ x.ty;have hR:∀l∈x.o::x.it,aj pg Ed [.sl 9 (l.map cQ)] (.tup [.int .i64 (fO P l).1,.int .i64 (fO P l).2]):=λl hl=>by
  rcases bM.1 hl with rfl|hl
  .exact KV P _ h.1 λy hy=>hP y (h.1.2 y hy)
  .exact KV P l (h.2.2 l hl) λy hy=>hP y ((h.2.2 l hl).2 y hy)
 have hil:=h.2.1;unfold ML;by_cases q1:x.mo<0
 .rw[az (.inl q1)];simp only[go_sem,iI,aF q1];exact aq [] (by simp only[go_sem];try rfl) (by rfl)
 by_cases q2:x.mo>2
 .rw[az (.inr (.inl q2))];simp only[go_sem,iI,aI q1,aF q2];exact aq [] (by simp only[go_sem];try rfl) (by rfl)
 by_cases q3:x.mo=0
 .rw[an (λq=>by rcases q with z|z|z;exact q1 z;exact q2 z;exact z.1 q3)];simp only[go_sem,iI,aI q1,aI q2,ay q3];refine ae (c1) ?_;cases re x.tb
  .simp only[go_sem];exact aq [] (by simp only[go_sem];try rfl) (by rfl)
  rw[an (by decide)];simp only[go_sem];refine ae (c2) ?_;cases Mg x.ty
  .simp only[go_sem];exact aq [] (by simp only[go_sem];try rfl) (by rfl)
  rw[an (by decide)];by_cases q5:(x.it.length:Int)>256
  .rw[az (by omega)];simp only[go_sem,aF q5];exact aq [] (by simp only[go_sem];try rfl) (by rfl)
  rw[an (by omega)];obtain⟨G,hG⟩:∃G,oV P (x.o::x.it)=G:=⟨_,rfl⟩
  rw[hG];have happ:=λys=>cC 50 41 1 1 DW [x.o] ys rfl;have hlen:(x.o::x.it).length=1+x.it.length:=by rw[i9];omega
  simp only[cM,eA,iB]at happ;simp only[go_sem,aI q5,happ];refine⟨by omega,?_⟩;generalize hL:x.o::x.it=L at*;refine aA (λj:Nat=>⟨[(55,.int .i64 j),(54,.int .i64 ((1+x.it.length:Nat):Int)),(53,.ms 50 1 0 (1+x.it.length))],[(50,⟨41,1,L.map DW,false⟩)]⟩) (λj=>j<=L.length/\G=oV P (L.drop j)) (λj=>L.length-j) 0 ⟨dx _,hG.symm⟩ (Wk.of ?_ ?_) ?_
  .simp only[go_sem];try simp
  .rw[<-hL];simp only[go_sem];try simp[iB]
  rintro j ⟨hj,hx⟩;by_cases h1:(j:Int)<((1+x.it.length:Nat):Int);rotate_left
  .rw[a_ (by omega)]at hx;obtain rfl:G=(0,0):=hx;simp only[go_sem,aI h1];exact ah
  have hj':j<L.length:=by omega
  have hj2:j<1+x.it.length:=by omega
  have e8:=cK hj' (by omega);rw[Mi hj']at hx;have cc:=pU hR hj';by_cases hz:(fO P (av L j)).2=0;rotate_left
  .rw[az hz]at hx;subst hx;simp only[go_sem,aF h1,hj2,hlen];refine⟨by omega,?_⟩;refine ae (cc) ?_;simp only[go_sem,aE hz];exact ah
  rw[an (by simp[hz])]at hx;simp only[go_sem,aF h1,hj2,hlen];refine⟨by omega,?_⟩;refine ae (cc) ?_;simp only[go_sem,ay hz];refine aH (j+1) ⟨show j+1<=1+x.it.length by omega,hx⟩ (show 1+x.it.length-(j+1)<1+x.it.length-j by omega) (Wk.of ?_ ?_)
  .simp only[go_sem,e8];try simp
  .simp only[go_sem];try simp[iB]
 by_cases q4:x.tb=0;rotate_left
 .rw[az (.inr (.inr ⟨q3,.inl q4⟩))];simp only[go_sem,iI,aI q1,aI q2,aE q3,aE q4];exact aq [] (by simp only[go_sem];try rfl) (by rfl)
 by_cases q6:(x.o.length:Int)>0
 .rw[az (.inr (.inr ⟨q3,.inr (by omega)⟩))];simp only[go_sem,iI,aI q1,aI q2,aE q3,ay q4,aF q6];exact aq [] (by simp only[go_sem];try rfl) (by rfl)
 rw[an (λq=>by rcases q with z|z|z;exact q1 z;exact q2 z;rcases z.2 with y|y;exact y q4;omega)];simp only[go_sem,iI,aI q1,aI q2,aE q3,ay q4,aI q6];refine ae (c1) ?_;cases re x.tb
 .simp only[go_sem];exact aq [] (by simp only[go_sem];try rfl) (by rfl)
 rw[an (by decide)];simp only[go_sem];refine ae (c2) ?_;cases Mg x.ty
 .simp only[go_sem];exact aq [] (by simp only[go_sem];try rfl) (by rfl)
 rw[an (by decide)];by_cases q5:(x.it.length:Int)>256
 .rw[az (by omega)];simp only[go_sem,aF q5];exact aq [] (by simp only[go_sem];try rfl) (by rfl)
 rw[an (by omega)];obtain⟨G,hG⟩:∃G,oV P (x.o::x.it)=G:=⟨_,rfl⟩
 rw[hG];have happ:=λys=>cC 50 41 1 1 DW [x.o] ys rfl;have hlen:(x.o::x.it).length=1+x.it.length:=by rw[i9];omega
 simp only[cM,eA,iB]at happ;simp only[go_sem,aI q5,happ];refine⟨by omega,?_⟩;generalize hL:x.o::x.it=L at*;refine aA (λj:Nat=>⟨[(55,.int .i64 j),(54,.int .i64 ((1+x.it.length:Nat):Int)),(53,.ms 50 1 0 (1+x.it.length))],[(50,⟨41,1,L.map DW,false⟩)]⟩) (λj=>j<=L.length/\G=oV P (L.drop j)) (λj=>L.length-j) 0 ⟨dx _,hG.symm⟩ (Wk.of ?_ ?_) ?_
 .simp only[go_sem];try simp
 .rw[<-hL];simp only[go_sem];try simp[iB]
 rintro j ⟨hj,hx⟩;by_cases h1:(j:Int)<((1+x.it.length:Nat):Int);rotate_left
 .rw[a_ (by omega)]at hx;obtain rfl:G=(0,0):=hx;simp only[go_sem,aI h1];exact ah
 have hj':j<L.length:=by omega
 have hj2:j<1+x.it.length:=by omega
 have e8:=cK hj' (by omega);rw[Mi hj']at hx;have cc:=pU hR hj';by_cases hz:(fO P (av L j)).2=0;rotate_left
 .rw[az hz]at hx;subst hx;simp only[go_sem,aF h1,hj2,hlen];refine⟨by omega,?_⟩;refine ae (cc) ?_;simp only[go_sem,aE hz];exact ah
 rw[an (by simp[hz])]at hx;simp only[go_sem,aF h1,hj2,hlen];refine⟨by omega,?_⟩;refine ae (cc) ?_;simp only[go_sem,ay hz];refine aH (j+1) ⟨show j+1<=1+x.it.length by omega,hx⟩ (show 1+x.it.length-(j+1)<1+x.it.length-j by omega) (Wk.of ?_ ?_)
 .simp only[go_sem,e8];try simp
 .simp only[go_sem];try simp[iB]
end
section
attribute[local go_sem] bY aW du eY bT cX nP fM iQ fY fZ cQ
def k_1(i:Int)(x:Ft)(h:smF x):aj pg sE [.int .i64 i,.agg (pt x)] (.tup [.int .i64 0,.int .i64 (CS x)]):=by
 refine ao rP ?_;have c:=aiH x h
 try simp only[aW,du,eY,bT,cX,fM,fY]at c
 simp only[go_sem,rP];refine aa (c) ?_;exact ah
def k_2(i:Int)(x:Im):aj pg sF [.int .i64 i,.agg (KH x)] (.tup [.int .i64 0,.int .i64 (KI x)]):=by
 refine ao rQ ?_;have c:=aiI x
 try simp only[aW,du,eY,bT,cX,fM,fY]at c
 simp only[go_sem,rQ];refine aa (c) ?_;exact ah
def k_3(i:Int)(x:Cd)(h:abG x):aj pg sG [.int .i64 i,.agg (Sx x)] (.tup [.int .i64 0,.int .i64 (Dw x)]):=by
 refine ao rR ?_;have c:=ae_ x h
 try simp only[aW,du,eY,bT,cX,fM,fY]at c
 simp only[go_sem,rR];refine aa (c) ?_;exact ah
def k_4(i:Int)(x:Tb):aj pg sH [.int .i64 i,.agg (Dd x)] (.tup [.int .i64 0,.int .i64 (Mv x)]):=by
 refine ao rS ?_;have c:=Pu x
 try simp only[aW,du,eY,bT,cX,fM,fY]at c
 simp only[go_sem,rS];refine aa (c) ?_;exact ah
def k_5(i:Int)(x:Lm):aj pg sI [.int .i64 i,.agg (B5 x)] (.tup [.int .i64 0,.int .i64 (KY x)]):=by
 refine ao rT ?_;have c:=acG x
 try simp only[aW,du,eY,bT,cX,fM,fY]at c
 simp only[go_sem,rT];refine aa (c) ?_;exact ah
def k_7(i:Int)(x:Ex):aj pg sK [.int .i64 i,.agg (T5 x)] (.tup [.int .i64 0,.int .i64 (MM x)]):=by
 refine ao rV ?_;have c:=VD x
 try simp only[aW,du,eY,bT,cX,fM,fY]at c
 simp only[go_sem,rV];refine aa (c) ?_;exact ah
def ak6(i:Int)(x:Cu):aj pg qh [.int .i64 i,.agg (Y_ x)] (.tup [.int .i64 0,.int .i64 (MJ x)]):=by
 refine ao pM ?_;have c:=VC x
 try simp only[aW,du,eY,bT,cX,fM,fY]at c
 simp only[go_sem,pM];refine aa (c) ?_;exact ah
def k_8(P:bj->Bool)(i:Int)(x:El)(h:agw x)(hP:∀y,C_ y->aj pg dg [fN y] (.bool (P y))):aj pg sM [.int .i64 i,.agg (Kq x)] (.tup [.int .i64 (ML P x).1,.int .i64 (ML P x).2]):=by
 refine ao rW ?_;have c:=afc P x h hP
 try simp only[fZ,iQ]at c
 simp only[go_sem,rW];refine aa (c) ?_;exact ah
def k_9(P:bj->Bool)(i:Int)(x:Da)(h:agv x)(hP:∀y,C_ y->aj pg dg [fN y] (.bool (P y))):aj pg sO [.int .i64 i,.agg (Za x)] (.tup [.int .i64 (M7 P x).1,.int .i64 (M7 P x).2]):=by
 refine ao rX ?_;have c:=afb P x h λy hy=>hP y (h.1.2 y hy)
 try simp only[fZ,iQ]at c
 simp only[go_sem,rX];refine aa (c) ?_;exact ah
def ak7(P:bj->Bool)(i:Int)(x:Cd)(h:abG x)(hP:∀y,C_ y->aj pg dg [fN y] (.bool (P y))):aj pg qi [.int .i64 i,.agg (Sx x)] (.tup [.int .i64 (fO P x.b).1,.int .i64 (fO P x.b).2]):=by
 refine ao pN ?_;have c:=KV P x.b h.2 λy hy=>hP y (h.2.2 y hy)
 try simp only[fZ,iQ]at c
 simp only[go_sem,pN];refine aa (c) ?_;exact ah
def Q7(P:bj->Bool)(x:Gd):Int×Int:=if Zz x.g≠0 then(0,Zz x.g)else fO P x.i
def k_6(P:bj->Bool)(i:Int)(x:Gd)(h:ajT x)(hP:∀y,C_ y->aj pg dg [fN y] (.bool (P y))):aj pg sJ [.int .i64 i,.agg (Zx x)] (.tup [.int .i64 (Q7 P x).1,.int .i64 (Q7 P x).2]):=by
 refine ao rU ?_;have c:=VE x.g;have d:=KV P x.i h λy hy=>hP y (h.2 y hy);unfold Q7;simp only[go_sem,rU];refine ae (c) ?_;by_cases q:Zz x.g=0
 .rw[an (by simp[q])];simp only[go_sem,ay q];refine aa (d) ?_;exact ah
 .rw[az q];simp only[go_sem,aE q];exact ah
def dH(k:Int)(l:List Im):Nat:=(l.filter λx=>x.k==k).length
def M5{k:Int}{l:List Im}{i:Nat}(h:i<l.length):dH k (l.take (i+1))=dH k (l.take i)+(if(av l i).k=k then 1 else 0):=by
 unfold dH;rw[Fm h,List.filter_append,dN];by_cases q:(av l i).k=k<;>simp[q]
def iO(k:Int)(l:List Im):dH k l<=l.length:=List.length_filter_le _ _
def ctO(m:Md)(i:Nat):au:=⟨90,4,[[.int .i64 (dH 0 (m.ims.take i):Nat),.int .i64 (dH 1 (m.ims.take i):Nat),.int .i64 (dH 2 (m.ims.take i):Nat),.int .i64 (dH 3 (m.ims.take i):Nat)]],true⟩
end
section
def cB:Fa:=⟨0,0,0,0⟩
def Vv(m:Md):Fa:=eF 1 64 0 (m.ts.map (λx=>(0,CS x))) cB
def X6(m:Md):Fa:=eF 2 32 0 (m.ims.map (λx=>(0,KI x))) (Vv m)
def X7(m:Md):Fa:=eF 3 64 (dH 0 m.ims:Nat) (m.fs.map (λx=>(0,Dw x))) (X6 m)
def X8(m:Md):Fa:=eF 4 4 (dH 1 m.ims:Nat) (m.tbs.map (λx=>(0,Mv x))) (X7 m)
def X9(m:Md):Fa:=eF 5 2 (dH 2 m.ims:Nat) (m.ms.map (λx=>(0,KY x))) (X8 m)
def X_(P:bj->Bool)(m:Md):Fa:=eF 6 32 (dH 3 m.ims:Nat) (m.gs.map (Q7 P)) (X9 m)
def NI(P:bj->Bool)(m:Md):Fa:=eF 7 64 0 (m.exs.map (λx=>(0,MM x))) (X_ P m)
def Iu(P:bj->Bool)(m:Md):Fa:=if m.hs=true/\re m.st=false then dE (NI P m) 8 0 0 11 else NI P m
def Ya(P:bj->Bool)(m:Md):Fa:=eF 9 16 0 (m.els.map (ML P)) (Iu P m)
def FJ(P:bj->Bool)(m:Md):Fa:=eF 10 16 0 (m.ds.map (M7 P)) (Ya P m)
def rh(P:bj->Bool)(m:Md):Fa:=eF 11 8 0 (m.cs.map (λx=>(0,MJ x))) (FJ P m)
def kB(P:bj->Bool)(m:Md):Fa:=if(rh P m).c=0 then eF 12 (m.fs.length:Int) 0 (m.fs.map (λx=>fO P x.b)) (rh P m)else rh P m
attribute[local go_sem] bY aM du ck ctO
def VF(P:bj->Bool)(m:Md)(h:yD m)(hP:∀y,C_ y->aj pg dg [fN y] (.bool (P y))):aj pg FO [ba m] (.agg [.int .i64 (kB P m).p,.int .i64 (kB P m).i,.int .i64 (kB P m).l,.int .i64 (kB P m).c]):=by
 refine ao wC ?_;have c1:CM mc [.int .i64 1,.sl 2 (m.ts.map pt),.int .i64 64,.int .i64 0,.fn sE []] cB (Vv m):=VL (by kernel_rfl) (λx=>(0,CS x)) m.ts (by have:=h.ts.1;omega) (λx hx i=>k_1 i x (h.ts.2 x hx)) 1 64 0 cB;have c2:CM kE [.int .i64 2,.sl 13 (m.ims.map KH),.int .i64 32,.int .i64 0,.fn sF []] (Vv m) (X6 m):=VN (by kernel_rfl) (λx=>(0,KI x)) m.ims (by have:=h.ims;omega) (λx hx i=>k_2 i x) 2 32 0 (Vv m);have c3:CM iV [.int .i64 3,.sl 3 (m.fs.map Sx),.int .i64 64,.int .i64 (dH 0 m.ims:Nat),.fn sG []] (X6 m) (X7 m):=KU (by kernel_rfl) (λx=>(0,Dw x)) m.fs (by have:=h.fs.1;omega) (λx hx i=>k_3 i x (h.fs.2 x hx)) 3 64 (dH 0 m.ims:Nat) (X6 m);have c4:CM lg [.int .i64 4,.sl 4 (m.tbs.map Dd),.int .i64 4,.int .i64 (dH 1 m.ims:Nat),.fn sH []] (X7 m) (X8 m):=VP (by kernel_rfl) (λx=>(0,Mv x)) m.tbs (by have:=h.tbs;omega) (λx hx i=>k_4 i x) 4 4 (dH 1 m.ims:Nat) (X7 m);have c5:CM kF [.int .i64 5,.sl 3 (m.ms.map B5),.int .i64 2,.int .i64 (dH 2 m.ims:Nat),.fn sI []] (X8 m) (X9 m):=VO (by kernel_rfl) (λx=>(0,KY x)) m.ms (by have:=h.ms;omega) (λx hx i=>k_5 i x) 5 2 (dH 2 m.ims:Nat) (X8 m);have c6:CM jl [.int .i64 6,.sl 3 (m.gs.map Zx),.int .i64 32,.int .i64 (dH 3 m.ims:Nat),.fn sJ []] (X9 m) (X_ P m):=VM (by kernel_rfl) (Q7 P) m.gs (by have:=h.gs.1;omega) (λx hx i=>k_6 P i x (h.gs.2 x hx) hP) 6 32 (dH 3 m.ims:Nat) (X9 m);have c7:CM kD [.int .i64 7,.sl 3 (m.exs.map T5),.int .i64 64,.int .i64 0,.fn sK []] (X_ P m) (NI P m):=VK (by kernel_rfl) (λx=>(0,MM x)) m.exs (by have:=h.exs;omega) (λx hx i=>k_7 i x) 7 64 0 (X_ P m);have c9:CM l_ [.int .i64 9,.sl 5 (m.els.map Kq),.int .i64 16,.int .i64 0,.fn sM []] (Iu P m) (Ya P m):=VJ (by kernel_rfl) (ML P) m.els (by have:=h.els.1;omega) (λx hx i=>k_8 P i x (h.els.2 x hx) hP) 9 16 0 (Iu P m);have c10:CM l0 [.int .i64 10,.sl 4 (m.ds.map Za),.int .i64 16,.int .i64 0,.fn sO []] (Ya P m) (FJ P m):=VI (by kernel_rfl) (M7 P) m.ds (by have:=h.ds.1;omega) (λx hx i=>k_9 P i x (h.ds.2 x hx) hP) 10 16 0 (Ya P m);have c11:CM kC [.int .i64 11,.sl 3 (m.cs.map Y_),.int .i64 8,.int .i64 0,.fn qh []] (FJ P m) (rh P m):=VH (by kernel_rfl) (λx=>(0,MJ x)) m.cs (by have:=h.cs.1;omega) (λx hx i=>ak6 i x) 11 8 0 (FJ P m);have c8:=vx m.st;have c12:CM iV [.int .i64 12,.sl 3 (m.fs.map Sx),.int .i64 (m.fs.length:Int),.int .i64 0,.fn qi []] (rh P m) (eF 12 (m.fs.length:Int) 0 (m.fs.map (λx=>fO P x.b)) (rh P m)):=KU (by kernel_rfl) (λx=>fO P x.b) m.fs (by have:=h.fs.1;omega) (λx hx i=>ak7 P i x (h.fs.2 x hx) hP) 12 (m.fs.length:Int) 0 (rh P m);simp only[go_sem,wC,ba];refine aA (λj:Nat=>⟨[(13,.int .i64 j),(12,.int .i64 m.ims.length),(11,.sl 13 (m.ims.map KH)),(3,.mp 8 4 0 0),(4,.mp 4 4 0 0),(2,.mp 2 4 0 0),(1,.mp 1 12 0 0)],[(8,ck cB),(4,ctO m j),(2,⟨38,4,[[.int .i64 0,.int .i64 0,.int .i64 0,.int .i64 0]],true⟩),(1,⟨33,12,[nX m],true⟩)]⟩) (λj=>j<=m.ims.length) (λj=>m.ims.length-j) 0 (dx _) (Wk.of ?_ ?_) ?_
 .simp only[go_sem];try simp
 .simp only[go_sem,jK,dH,cB];try simp
 intro j hj;by_cases h1:(j:Int)<(m.ims.length:Int)
 .have hj':j<m.ims.length:=by omega
  have hil:=h.ims;have e8:=cK hj' (by omega);have t:=λk=>M5 (k:=k) hj';have hle:=λk=>gD (iO k (m.ims.take j)) (by rw[vm];omega:(m.ims.take j).length<=j);have w:=λk:Int=>(by have:=hle k;rw[wi (by omega) (by omega)];omega:IntKind.i64.wrap ((dH k (m.ims.take j):Int)+1)=((dH k (m.ims.take j)+1:Nat):Int))
  by_cases q0:(av m.ims j).k=0
  .simp only[go_sem,aF h1,q0,show decide ((0:Int)>=0)=true from rfl,show decide ((0:Int)<=3)=true from rfl,AA,Fu,Fv,Int.reduceToNat,Nat.reduceMul,Nat.reduceAdd];refine⟨by omega,h1,⟨by omega,by omega⟩,⟨by omega,by omega⟩,aH (j+1) (show j+1<=m.ims.length by omega) (show m.ims.length-(j+1)<m.ims.length-j by omega) (Wk.of ?_ ?_)⟩
   .simp only[go_sem,e8];try simp
   .simp only[go_sem];try simp[t,q0,w]
  by_cases q1:(av m.ims j).k=1
  .simp only[go_sem,aF h1,q1,show decide ((1:Int)>=0)=true from rfl,show decide ((1:Int)<=3)=true from rfl,AA,Fu,Fv,Int.reduceToNat,Nat.reduceMul,Nat.reduceAdd];refine⟨by omega,h1,⟨by omega,by omega⟩,⟨by omega,by omega⟩,aH (j+1) (show j+1<=m.ims.length by omega) (show m.ims.length-(j+1)<m.ims.length-j by omega) (Wk.of ?_ ?_)⟩
   .simp only[go_sem,e8];try simp
   .simp only[go_sem];try simp[t,q1,w]
  by_cases q2:(av m.ims j).k=2
  .simp only[go_sem,aF h1,q2,show decide ((2:Int)>=0)=true from rfl,show decide ((2:Int)<=3)=true from rfl,AA,Fu,Fv,Int.reduceToNat,Nat.reduceMul,Nat.reduceAdd];refine⟨by omega,h1,⟨by omega,by omega⟩,⟨by omega,by omega⟩,aH (j+1) (show j+1<=m.ims.length by omega) (show m.ims.length-(j+1)<m.ims.length-j by omega) (Wk.of ?_ ?_)⟩
   .simp only[go_sem,e8];try simp
   .simp only[go_sem];try simp[t,q2,w]
  by_cases q3:(av m.ims j).k=3
  .simp only[go_sem,aF h1,q3,show decide ((3:Int)>=0)=true from rfl,show decide ((3:Int)<=3)=true from rfl,AA,Fu,Fv,Int.reduceToNat,Nat.reduceMul,Nat.reduceAdd];refine⟨by omega,h1,⟨by omega,by omega⟩,⟨by omega,by omega⟩,aH (j+1) (show j+1<=m.ims.length by omega) (show m.ims.length-(j+1)<m.ims.length-j by omega) (Wk.of ?_ ?_)⟩
   .simp only[go_sem,e8];try simp
   .simp only[go_sem];try simp[t,q3,w]
  by_cases q5:(av m.ims j).k>=0
  .simp only[go_sem,aF h1,aF q5,aI (show ¬(av m.ims j).k<=3 by omega)];refine⟨by omega,h1,aH (j+1) (show j+1<=m.ims.length by omega) (show m.ims.length-(j+1)<m.ims.length-j by omega) (Wk.of ?_ ?_)⟩
   .simp only[go_sem,e8];try simp
   .simp only[go_sem];try simp[t,q0,q1,q2,q3]
  .simp only[go_sem,aF h1,aI q5];refine⟨by omega,h1,aH (j+1) (show j+1<=m.ims.length by omega) (show m.ims.length-(j+1)<m.ims.length-j by omega) (Wk.of ?_ ?_)⟩
   .simp only[go_sem,e8];try simp
   .simp only[go_sem];try simp[t,q0,q1,q2,q3]
 obtain rfl:j=m.ims.length:=by omega
 simp only[go_sem,aI h1,rN];refine qY (c1) ?_;simp only[go_sem,AA,Fu,Fv,Int.reduceToNat,Nat.reduceMul,Nat.reduceAdd];refine qY (c2) ?_;simp only[go_sem,AA,Fu,Fv,Int.reduceToNat,Nat.reduceMul,Nat.reduceAdd];refine⟨⟨by omega,by omega⟩,?_⟩;refine qY (c3) ?_;simp only[go_sem,AA,Fu,Fv,Int.reduceToNat,Nat.reduceMul,Nat.reduceAdd];refine⟨⟨by omega,by omega⟩,?_⟩;refine qY (c4) ?_;simp only[go_sem,AA,Fu,Fv,Int.reduceToNat,Nat.reduceMul,Nat.reduceAdd];refine⟨⟨by omega,by omega⟩,?_⟩;refine qY (c5) ?_;simp only[go_sem,AA,Fu,Fv,Int.reduceToNat,Nat.reduceMul,Nat.reduceAdd];refine⟨⟨by omega,by omega⟩,?_⟩;refine qY (c6) ?_;simp only[go_sem,AA,Fu,Fv,Int.reduceToNat,Nat.reduceMul,Nat.reduceAdd];refine qY (c7) ?_;simp only[go_sem,AA,Fu,Fv,Int.reduceToNat,Nat.reduceMul,Nat.reduceAdd];cases hh:m.hs
 .rw[show Iu P m=NI P m by unfold Iu;rw[hh,an (by simp)]]at c9;simp only[go_sem,hh];refine fk (c9) ?_;refine fk (c10) ?_;refine fk (c11) ?_;unfold kB;by_cases z:(rh P m).c=0
  .rw[az z];simp only[go_sem,aD z];refine fk (c12) ?_;exact ah
  .rw[an z];simp only[go_sem,ac z];exact ah
 simp only[go_sem,hh];refine ae (c8) ?_;cases hi:re m.st
 .have cf:=NJ (NI P m) 8 0 0 11;rw[show dE (NI P m) 8 0 0 11=Iu P m by unfold Iu;rw[hh,hi,az ⟨rfl,rfl⟩]]at cf;simp only[go_sem];refine fk (cf) ?_;refine fk (c9) ?_;refine fk (c10) ?_;refine fk (c11) ?_;unfold kB;by_cases z:(rh P m).c=0
  .rw[az z];simp only[go_sem,aD z];refine fk (c12) ?_;exact ah
  .rw[an z];simp only[go_sem,ac z];exact ah
 .rw[show Iu P m=NI P m by unfold Iu;rw[hi,an (by simp)]]at c9;simp only[go_sem];refine fk (c9) ?_;refine fk (c10) ?_;refine fk (c11) ?_;unfold kB;by_cases z:(rh P m).c=0
  .rw[az z];simp only[go_sem,aD z];refine fk (c12) ?_;exact ah
  .rw[an z];simp only[go_sem,ac z];exact ah
end
structure Hr where
 f:Int
 h:List UInt8
 t:List UInt8
structure Oc where
 op:Int
 nm:List UInt8
 im:Int
def hr_(r:Hr):List AV:=[.int .i64 r.f,.str r.h,.str r.t]
def GN(r:Oc):List AV:=[.int .i64 r.op,.str r.nm,.int .i64 r.im]
def ai6(r:Oc):GN r=[.int .i64 r.op,.str r.nm,.int .i64 r.im]:=rfl
instance:Inhabited Hr:=⟨⟨0,[],[]⟩⟩
instance:Inhabited Oc:=⟨⟨0,[],0⟩⟩
def HR:List Hr:=[⟨0,[],[117,110,114,101,97,99,104,97,98,108,101,32,110,111,112,32,98,108,111,99,107,32,108,111,111,112,32,105,102,32,101,108,115,101]⟩,
 ⟨11,[],[101,110,100,32,98,114,32,98,114,95,105,102,32,98,114,95,116,97,98,108,101,32,114,101,116,117,114,110,32,99,97,108,108,32,99,97,108,108,95,105,110,100,105,114,101,99,116]⟩,
 ⟨26,[],[100,114,111,112,32,115,101,108,101,99,116,32,115,101,108,101,99,116]⟩,
 ⟨32,[108,111,99,97,108,46],[103,101,116,32,115,101,116,32,116,101,101]⟩,
 ⟨35,[103,108,111,98,97,108,46],[103,101,116,32,115,101,116]⟩,
 ⟨37,[116,97,98,108,101,46],[103,101,116,32,115,101,116]⟩,
 ⟨40,[],[105,51,50,46,108,111,97,100,32,105,54,52,46,108,111,97,100]⟩,
 ⟨44,[105,51,50,46],[108,111,97,100,56,95,115,32,108,111,97,100,56,95,117,32,108,111,97,100,49,54,95,115,32,108,111,97,100,49,54,95,117]⟩,
 ⟨48,[105,54,52,46],[108,111,97,100,56,95,115,32,108,111,97,100,56,95,117,32,108,111,97,100,49,54,95,115,32,108,111,97,100,49,54,95,117,32,108,111,97,100,51,50,95,115,32,108,111,97,100,51,50,95,117]⟩,
 ⟨54,[],[105,51,50,46,115,116,111,114,101,32,105,54,52,46,115,116,111,114,101]⟩,
 ⟨58,[105,51,50,46],[115,116,111,114,101,56,32,115,116,111,114,101,49,54]⟩,
 ⟨60,[105,54,52,46],[115,116,111,114,101,56,32,115,116,111,114,101,49,54,32,115,116,111,114,101,51,50]⟩,
 ⟨63,[109,101,109,111,114,121,46],[115,105,122,101,32,103,114,111,119]⟩,
 ⟨65,[],[105,51,50,46,99,111,110,115,116,32,105,54,52,46,99,111,110,115,116]⟩,
 ⟨69,[105,51,50,46],[101,113,122,32,101,113,32,110,101,32,108,116,95,115,32,108,116,95,117,32,103,116,95,115,32,103,116,95,117,32,108,101,95,115,32,108,101,95,117,32,103,101,95,115,32,103,101,95,117]⟩,
 ⟨80,[105,54,52,46],[101,113,122,32,101,113,32,110,101,32,108,116,95,115,32,108,116,95,117,32,103,116,95,115,32,103,116,95,117,32,108,101,95,115,32,108,101,95,117,32,103,101,95,115,32,103,101,95,117]⟩,
 ⟨103,[105,51,50,46],[99,108,122,32,99,116,122,32,112,111,112,99,110,116,32,97,100,100,32,115,117,98,32,109,117,108,32,100,105,118,95,115,32,100,105,118,95,117,32,114,101,109,95,115,32,114,101,109,95,117,32,97,110,100,32,111,114,32,120,111,114,32,115,104,108,32,115,104,114,95,115,32,115,104,114,95,117,32,114,111,116,108,32,114,111,116,114]⟩,
 ⟨121,[105,54,52,46],[99,108,122,32,99,116,122,32,112,111,112,99,110,116,32,97,100,100,32,115,117,98,32,109,117,108,32,100,105,118,95,115,32,100,105,118,95,117,32,114,101,109,95,115,32,114,101,109,95,117,32,97,110,100,32,111,114,32,120,111,114,32,115,104,108,32,115,104,114,95,115,32,115,104,114,95,117,32,114,111,116,108,32,114,111,116,114]⟩,
 ⟨167,[],[105,51,50,46,119,114,97,112,95,105,54,52]⟩,
 ⟨172,[105,54,52,46],[101,120,116,101,110,100,95,105,51,50,95,115,32,101,120,116,101,110,100,95,105,51,50,95,117]⟩,
 ⟨192,[105,51,50,46],[101,120,116,101,110,100,56,95,115,32,101,120,116,101,110,100,49,54,95,115]⟩,
 ⟨194,[105,54,52,46],[101,120,116,101,110,100,56,95,115,32,101,120,116,101,110,100,49,54,95,115,32,101,120,116,101,110,100,51,50,95,115]⟩,
 ⟨208,[114,101,102,46],[110,117,108,108,32,105,115,95,110,117,108,108,32,102,117,110,99]⟩,
 ⟨64520,[],[109,101,109,111,114,121,46,105,110,105,116,32,100,97,116,97,46,100,114,111,112,32,109,101,109,111,114,121,46,99,111,112,121,32,109,101,109,111,114,121,46,102,105,108,108,32,116,97,98,108,101,46,105,110,105,116,32,101,108,101,109,46,100,114,111,112,32,116,97,98,108,101,46,99,111,112,121,32,116,97,98,108,101,46,103,114,111,119,32,116,97,98,108,101,46,115,105,122,101,32,116,97,98,108,101,46,102,105,108,108]⟩]
def M4:List (List UInt8):=[[101,113,122],
 [101,113],
 [110,101],
 [108,116,95,115],
 [108,116,95,117],
 [103,116,95,115],
 [103,116,95,117],
 [108,101,95,115],
 [108,101,95,117],
 [103,101,95,115],
 [103,101,95,117]]
def Oy:List (List UInt8):=[[99,108,122],
 [99,116,122],
 [112,111,112,99,110,116],
 [97,100,100],
 [115,117,98],
 [109,117,108],
 [100,105,118,95,115],
 [100,105,118,95,117],
 [114,101,109,95,115],
 [114,101,109,95,117],
 [97,110,100],
 [111,114],
 [120,111,114],
 [115,104,108],
 [115,104,114,95,115],
 [115,104,114,95,117],
 [114,111,116,108],
 [114,111,116,114]]
def Cn:List Oc:=[⟨0,[117,110,114,101,97,99,104,97,98,108,101],0⟩,
 ⟨1,[110,111,112],0⟩,
 ⟨2,[98,108,111,99,107],1⟩,
 ⟨3,[108,111,111,112],1⟩,
 ⟨4,[105,102],1⟩,
 ⟨5,[101,108,115,101],0⟩,
 ⟨11,[101,110,100],0⟩,
 ⟨12,[98,114],2⟩,
 ⟨13,[98,114,95,105,102],2⟩,
 ⟨14,[98,114,95,116,97,98,108,101],3⟩,
 ⟨15,[114,101,116,117,114,110],0⟩,
 ⟨16,[99,97,108,108],4⟩,
 ⟨17,[99,97,108,108,95,105,110,100,105,114,101,99,116],5⟩,
 ⟨26,[100,114,111,112],0⟩,
 ⟨27,[115,101,108,101,99,116],0⟩,
 ⟨28,[115,101,108,101,99,116],6⟩,
 ⟨32,[108,111,99,97,108,46,103,101,116],7⟩,
 ⟨33,[108,111,99,97,108,46,115,101,116],7⟩,
 ⟨34,[108,111,99,97,108,46,116,101,101],7⟩,
 ⟨35,[103,108,111,98,97,108,46,103,101,116],8⟩,
 ⟨36,[103,108,111,98,97,108,46,115,101,116],8⟩,
 ⟨37,[116,97,98,108,101,46,103,101,116],9⟩,
 ⟨38,[116,97,98,108,101,46,115,101,116],9⟩]
def Dr:List Oc:=[⟨40,[105,51,50,46,108,111,97,100],17⟩,
 ⟨41,[105,54,52,46,108,111,97,100],17⟩,
 ⟨44,[105,51,50,46,108,111,97,100,56,95,115],17⟩,
 ⟨45,[105,51,50,46,108,111,97,100,56,95,117],17⟩,
 ⟨46,[105,51,50,46,108,111,97,100,49,54,95,115],17⟩,
 ⟨47,[105,51,50,46,108,111,97,100,49,54,95,117],17⟩,
 ⟨48,[105,54,52,46,108,111,97,100,56,95,115],17⟩,
 ⟨49,[105,54,52,46,108,111,97,100,56,95,117],17⟩,
 ⟨50,[105,54,52,46,108,111,97,100,49,54,95,115],17⟩,
 ⟨51,[105,54,52,46,108,111,97,100,49,54,95,117],17⟩,
 ⟨52,[105,54,52,46,108,111,97,100,51,50,95,115],17⟩,
 ⟨53,[105,54,52,46,108,111,97,100,51,50,95,117],17⟩,
 ⟨54,[105,51,50,46,115,116,111,114,101],17⟩,
 ⟨55,[105,54,52,46,115,116,111,114,101],17⟩,
 ⟨58,[105,51,50,46,115,116,111,114,101,56],17⟩,
 ⟨59,[105,51,50,46,115,116,111,114,101,49,54],17⟩,
 ⟨60,[105,54,52,46,115,116,111,114,101,56],17⟩,
 ⟨61,[105,54,52,46,115,116,111,114,101,49,54],17⟩,
 ⟨62,[105,54,52,46,115,116,111,114,101,51,50],17⟩,
 ⟨63,[109,101,109,111,114,121,46,115,105,122,101],13⟩,
 ⟨64,[109,101,109,111,114,121,46,103,114,111,119],13⟩,
 ⟨65,[105,51,50,46,99,111,110,115,116],18⟩,
 ⟨66,[105,54,52,46,99,111,110,115,116],19⟩]
def aei:List Oc:=[⟨208,[114,101,102,46,110,117,108,108],20⟩,
 ⟨209,[114,101,102,46,105,115,95,110,117,108,108],0⟩,
 ⟨210,[114,101,102,46,102,117,110,99],4⟩,
 ⟨64520,[109,101,109,111,114,121,46,105,110,105,116],15⟩,
 ⟨64521,[100,97,116,97,46,100,114,111,112],16⟩,
 ⟨64522,[109,101,109,111,114,121,46,99,111,112,121],14⟩,
 ⟨64523,[109,101,109,111,114,121,46,102,105,108,108],13⟩,
 ⟨64524,[116,97,98,108,101,46,105,110,105,116],11⟩,
 ⟨64525,[101,108,101,109,46,100,114,111,112],12⟩,
 ⟨64526,[116,97,98,108,101,46,99,111,112,121],10⟩,
 ⟨64527,[116,97,98,108,101,46,103,114,111,119],9⟩,
 ⟨64528,[116,97,98,108,101,46,115,105,122,101],9⟩,
 ⟨64529,[116,97,98,108,101,46,102,105,108,108],9⟩]
def LU(f:Int)(t:List UInt8):Nat->List (List UInt8)->List Oc
 | _,[]=>[]
 | k,s::r=>⟨f+(k:Int),t++[46]++s,0⟩::LU f t (k+1) r
def OC:List Oc:=[⟨0,[117,110,114,101,97,99,104,97,98,108,101],0⟩,
 ⟨1,[110,111,112],0⟩,
 ⟨2,[98,108,111,99,107],1⟩,
 ⟨3,[108,111,111,112],1⟩,
 ⟨4,[105,102],1⟩,
 ⟨5,[101,108,115,101],0⟩,
 ⟨11,[101,110,100],0⟩,
 ⟨12,[98,114],2⟩,
 ⟨13,[98,114,95,105,102],2⟩,
 ⟨14,[98,114,95,116,97,98,108,101],3⟩,
 ⟨15,[114,101,116,117,114,110],0⟩,
 ⟨16,[99,97,108,108],4⟩,
 ⟨17,[99,97,108,108,95,105,110,100,105,114,101,99,116],5⟩,
 ⟨26,[100,114,111,112],0⟩,
 ⟨27,[115,101,108,101,99,116],0⟩,
 ⟨28,[115,101,108,101,99,116],6⟩,
 ⟨32,[108,111,99,97,108,46,103,101,116],7⟩,
 ⟨33,[108,111,99,97,108,46,115,101,116],7⟩,
 ⟨34,[108,111,99,97,108,46,116,101,101],7⟩,
 ⟨35,[103,108,111,98,97,108,46,103,101,116],8⟩,
 ⟨36,[103,108,111,98,97,108,46,115,101,116],8⟩,
 ⟨37,[116,97,98,108,101,46,103,101,116],9⟩,
 ⟨38,[116,97,98,108,101,46,115,101,116],9⟩,
 ⟨40,[105,51,50,46,108,111,97,100],17⟩,
 ⟨41,[105,54,52,46,108,111,97,100],17⟩,
 ⟨44,[105,51,50,46,108,111,97,100,56,95,115],17⟩,
 ⟨45,[105,51,50,46,108,111,97,100,56,95,117],17⟩,
 ⟨46,[105,51,50,46,108,111,97,100,49,54,95,115],17⟩,
 ⟨47,[105,51,50,46,108,111,97,100,49,54,95,117],17⟩,
 ⟨48,[105,54,52,46,108,111,97,100,56,95,115],17⟩,
 ⟨49,[105,54,52,46,108,111,97,100,56,95,117],17⟩,
 ⟨50,[105,54,52,46,108,111,97,100,49,54,95,115],17⟩,
 ⟨51,[105,54,52,46,108,111,97,100,49,54,95,117],17⟩,
 ⟨52,[105,54,52,46,108,111,97,100,51,50,95,115],17⟩,
 ⟨53,[105,54,52,46,108,111,97,100,51,50,95,117],17⟩,
 ⟨54,[105,51,50,46,115,116,111,114,101],17⟩,
 ⟨55,[105,54,52,46,115,116,111,114,101],17⟩,
 ⟨58,[105,51,50,46,115,116,111,114,101,56],17⟩,
 ⟨59,[105,51,50,46,115,116,111,114,101,49,54],17⟩,
 ⟨60,[105,54,52,46,115,116,111,114,101,56],17⟩,
 ⟨61,[105,54,52,46,115,116,111,114,101,49,54],17⟩,
 ⟨62,[105,54,52,46,115,116,111,114,101,51,50],17⟩,
 ⟨63,[109,101,109,111,114,121,46,115,105,122,101],13⟩,
 ⟨64,[109,101,109,111,114,121,46,103,114,111,119],13⟩,
 ⟨65,[105,51,50,46,99,111,110,115,116],18⟩,
 ⟨66,[105,54,52,46,99,111,110,115,116],19⟩,
 ⟨69,[105,51,50,46,101,113,122],0⟩,
 ⟨70,[105,51,50,46,101,113],0⟩,
 ⟨71,[105,51,50,46,110,101],0⟩,
 ⟨72,[105,51,50,46,108,116,95,115],0⟩,
 ⟨73,[105,51,50,46,108,116,95,117],0⟩,
 ⟨74,[105,51,50,46,103,116,95,115],0⟩,
 ⟨75,[105,51,50,46,103,116,95,117],0⟩,
 ⟨76,[105,51,50,46,108,101,95,115],0⟩,
 ⟨77,[105,51,50,46,108,101,95,117],0⟩,
 ⟨78,[105,51,50,46,103,101,95,115],0⟩,
 ⟨79,[105,51,50,46,103,101,95,117],0⟩,
 ⟨80,[105,54,52,46,101,113,122],0⟩,
 ⟨81,[105,54,52,46,101,113],0⟩,
 ⟨82,[105,54,52,46,110,101],0⟩,
 ⟨83,[105,54,52,46,108,116,95,115],0⟩,
 ⟨84,[105,54,52,46,108,116,95,117],0⟩,
 ⟨85,[105,54,52,46,103,116,95,115],0⟩,
 ⟨86,[105,54,52,46,103,116,95,117],0⟩,
 ⟨87,[105,54,52,46,108,101,95,115],0⟩,
 ⟨88,[105,54,52,46,108,101,95,117],0⟩,
 ⟨89,[105,54,52,46,103,101,95,115],0⟩,
 ⟨90,[105,54,52,46,103,101,95,117],0⟩,
 ⟨103,[105,51,50,46,99,108,122],0⟩,
 ⟨104,[105,51,50,46,99,116,122],0⟩,
 ⟨105,[105,51,50,46,112,111,112,99,110,116],0⟩,
 ⟨106,[105,51,50,46,97,100,100],0⟩,
 ⟨107,[105,51,50,46,115,117,98],0⟩,
 ⟨108,[105,51,50,46,109,117,108],0⟩,
 ⟨109,[105,51,50,46,100,105,118,95,115],0⟩,
 ⟨110,[105,51,50,46,100,105,118,95,117],0⟩,
 ⟨111,[105,51,50,46,114,101,109,95,115],0⟩,
 ⟨112,[105,51,50,46,114,101,109,95,117],0⟩,
 ⟨113,[105,51,50,46,97,110,100],0⟩,
 ⟨114,[105,51,50,46,111,114],0⟩,
 ⟨115,[105,51,50,46,120,111,114],0⟩,
 ⟨116,[105,51,50,46,115,104,108],0⟩,
 ⟨117,[105,51,50,46,115,104,114,95,115],0⟩,
 ⟨118,[105,51,50,46,115,104,114,95,117],0⟩,
 ⟨119,[105,51,50,46,114,111,116,108],0⟩,
 ⟨120,[105,51,50,46,114,111,116,114],0⟩,
 ⟨121,[105,54,52,46,99,108,122],0⟩,
 ⟨122,[105,54,52,46,99,116,122],0⟩,
 ⟨123,[105,54,52,46,112,111,112,99,110,116],0⟩,
 ⟨124,[105,54,52,46,97,100,100],0⟩,
 ⟨125,[105,54,52,46,115,117,98],0⟩,
 ⟨126,[105,54,52,46,109,117,108],0⟩,
 ⟨127,[105,54,52,46,100,105,118,95,115],0⟩,
 ⟨128,[105,54,52,46,100,105,118,95,117],0⟩,
 ⟨129,[105,54,52,46,114,101,109,95,115],0⟩,
 ⟨130,[105,54,52,46,114,101,109,95,117],0⟩,
 ⟨131,[105,54,52,46,97,110,100],0⟩,
 ⟨132,[105,54,52,46,111,114],0⟩,
 ⟨133,[105,54,52,46,120,111,114],0⟩,
 ⟨134,[105,54,52,46,115,104,108],0⟩,
 ⟨135,[105,54,52,46,115,104,114,95,115],0⟩,
 ⟨136,[105,54,52,46,115,104,114,95,117],0⟩,
 ⟨137,[105,54,52,46,114,111,116,108],0⟩,
 ⟨138,[105,54,52,46,114,111,116,114],0⟩,
 ⟨167,[105,51,50,46,119,114,97,112,95,105,54,52],0⟩,
 ⟨172,[105,54,52,46,101,120,116,101,110,100,95,105,51,50,95,115],0⟩,
 ⟨173,[105,54,52,46,101,120,116,101,110,100,95,105,51,50,95,117],0⟩,
 ⟨192,[105,51,50,46,101,120,116,101,110,100,56,95,115],0⟩,
 ⟨193,[105,51,50,46,101,120,116,101,110,100,49,54,95,115],0⟩,
 ⟨194,[105,54,52,46,101,120,116,101,110,100,56,95,115],0⟩,
 ⟨195,[105,54,52,46,101,120,116,101,110,100,49,54,95,115],0⟩,
 ⟨196,[105,54,52,46,101,120,116,101,110,100,51,50,95,115],0⟩,
 ⟨208,[114,101,102,46,110,117,108,108],20⟩,
 ⟨209,[114,101,102,46,105,115,95,110,117,108,108],0⟩,
 ⟨210,[114,101,102,46,102,117,110,99],4⟩,
 ⟨64520,[109,101,109,111,114,121,46,105,110,105,116],15⟩,
 ⟨64521,[100,97,116,97,46,100,114,111,112],16⟩,
 ⟨64522,[109,101,109,111,114,121,46,99,111,112,121],14⟩,
 ⟨64523,[109,101,109,111,114,121,46,102,105,108,108],13⟩,
 ⟨64524,[116,97,98,108,101,46,105,110,105,116],11⟩,
 ⟨64525,[101,108,101,109,46,100,114,111,112],12⟩,
 ⟨64526,[116,97,98,108,101,46,99,111,112,121],10⟩,
 ⟨64527,[116,97,98,108,101,46,103,114,111,119],9⟩,
 ⟨64528,[116,97,98,108,101,46,115,105,122,101],9⟩,
 ⟨64529,[116,97,98,108,101,46,102,105,108,108],9⟩]
def wdA:List UInt8->List UInt8->List (List UInt8)
 | [],w=>if w=[]then[]else[w]
 | c::r,w=>if c=32 then(if w=[]then wdA r []else w::wdA r [])else wdA r (w++[c])
def wds(s:List UInt8):List (List UInt8):=wdA s []
def QX(f:Int)(h:List UInt8):Nat->List (List UInt8)->List (Int×List UInt8)
 | _,[]=>[]
 | k,s::r=>(f+(k:Int),h++s)::QX f h (k+1) r
def EN:List (Int×List UInt8):=OC.map λo=>(o.op,o.nm)
def ahb:EN=HR.flatMap λr=>QX r.f r.h 0 (wds r.t):=by decide +kernel
open Go.Shelf
def agh:Go.Shelf.Ren:=⟨λ|144=>259|143=>288|219=>312|217=>325|225=>326|224=>327|267=>328|266=>337|314=>338|n=>n,λ|9=>9|4=>4|3=>3|5=>5|46=>250|146=>371|51=>367|n=>n,λ|1=>3|n=>n⟩
def aap:Go.Proofs.Lays.n144 pg agh:={
 mixed:=by kernel_rfl
 f143:=Tryz.func288.trans (congrArg some (by kernel_rfl))
 f144:=Tryz.func259.trans (congrArg some (by kernel_rfl))
 f217:=Tryz.func325.trans (congrArg some (by kernel_rfl))
 f219:=Tryz.func312.trans (congrArg some (by kernel_rfl))
 f224:=Tryz.func327.trans (congrArg some (by kernel_rfl))
 f225:=Tryz.func326.trans (congrArg some (by kernel_rfl))
 f266:=Tryz.func337.trans (congrArg some (by kernel_rfl))
 f267:=Tryz.func328.trans (congrArg some (by kernel_rfl))
 f314:=Tryz.func338.trans (congrArg some (by kernel_rfl))
 t3:=Tryz.underlying3
 a3:=Tryz.isAgg3
 z3:=Tryz.sizeOf3
 v3:=Tryz.zeroValue3
 t4:=Tryz.underlying4
 a4:=Tryz.isAgg4
 z4:=Tryz.sizeOf4
 v4:=Tryz.zeroValue4
 t5:=Tryz.underlying5
 a5:=Tryz.isAgg5
 z5:=Tryz.sizeOf5
 v5:=Tryz.zeroValue5
 t9:=Tryz.underlying9
 a9:=Tryz.isAgg9
 z9:=Tryz.sizeOf9
 v9:=Tryz.zeroValue9
 t46:=Tryz.underlying250
 a46:=Tryz.isAgg250
 z46:=Tryz.sizeOf250
 v46:=Tryz.zeroValue250
 t51:=Tryz.underlying367
 a51:=Tryz.isAgg367
 z51:=Tryz.sizeOf367
 v51:=Tryz.zeroValue367
 t146:=Tryz.underlying371
 a146:=Tryz.isAgg371
 z146:=Tryz.sizeOf371
 v146:=Tryz.zeroValue371
 g1:=by kernel_rfl}
def agi:Go.Shelf.Ren:=⟨λ|157=>291|229=>313|199=>314|261=>329|311=>339|312=>340|n=>n,λ|9=>9|31=>300|3=>3|5=>5|4=>4|119=>246|0=>0|40=>358|152=>364|21=>21|154=>366|51=>367|141=>369|196=>376|193=>373|198=>379|49=>377|194=>374|201=>382|226=>384|46=>250|227=>385|n=>n,λ|0=>2|6=>4|n=>n⟩
def aaq:Go.Proofs.Lays.n157 pg agi:={
 mixed:=by kernel_rfl
 f157:=Tryz.func291.trans (congrArg some (by kernel_rfl))
 f199:=Tryz.func314.trans (congrArg some (by kernel_rfl))
 f229:=Tryz.func313.trans (congrArg some (by kernel_rfl))
 f261:=Tryz.func329.trans (congrArg some (by kernel_rfl))
 f311:=Tryz.func339.trans (congrArg some (by kernel_rfl))
 f312:=Tryz.func340.trans (congrArg some (by kernel_rfl))
 t0:=Tryz.underlying0
 a0:=Tryz.isAgg0
 z0:=Tryz.sizeOf0
 v0:=Tryz.zeroValue0
 t3:=Tryz.underlying3
 a3:=Tryz.isAgg3
 z3:=Tryz.sizeOf3
 v3:=Tryz.zeroValue3
 t4:=Tryz.underlying4
 a4:=Tryz.isAgg4
 z4:=Tryz.sizeOf4
 v4:=Tryz.zeroValue4
 t5:=Tryz.underlying5
 a5:=Tryz.isAgg5
 z5:=Tryz.sizeOf5
 v5:=Tryz.zeroValue5
 t9:=Tryz.underlying9
 a9:=Tryz.isAgg9
 z9:=Tryz.sizeOf9
 v9:=Tryz.zeroValue9
 t21:=Tryz.underlying21
 a21:=Tryz.isAgg21
 z21:=Tryz.sizeOf21
 v21:=Tryz.zeroValue21
 t31:=Tryz.underlying300
 a31:=Tryz.isAgg300
 z31:=Tryz.sizeOf300
 v31:=Tryz.zeroValue300
 t40:=Tryz.underlying358
 a40:=Tryz.isAgg358
 z40:=Tryz.sizeOf358
 v40:=Tryz.zeroValue358
 t46:=Tryz.underlying250
 a46:=Tryz.isAgg250
 z46:=Tryz.sizeOf250
 v46:=Tryz.zeroValue250
 t49:=Tryz.underlying377
 a49:=Tryz.isAgg377
 z49:=Tryz.sizeOf377
 v49:=Tryz.zeroValue377
 t51:=Tryz.underlying367
 a51:=Tryz.isAgg367
 z51:=Tryz.sizeOf367
 v51:=Tryz.zeroValue367
 t119:=Tryz.underlying246
 a119:=Tryz.isAgg246
 z119:=Tryz.sizeOf246
 t141:=Tryz.underlying369
 a141:=Tryz.isAgg369
 z141:=Tryz.sizeOf369
 v141:=Tryz.zeroValue369
 t152:=Tryz.underlying364
 a152:=Tryz.isAgg364
 z152:=Tryz.sizeOf364
 v152:=Tryz.zeroValue364
 t154:=Tryz.underlying366
 a154:=Tryz.isAgg366
 z154:=Tryz.sizeOf366
 v154:=Tryz.zeroValue366
 t193:=Tryz.underlying373
 a193:=Tryz.isAgg373
 z193:=Tryz.sizeOf373
 v193:=Tryz.zeroValue373
 t194:=Tryz.underlying374
 a194:=Tryz.isAgg374
 z194:=Tryz.sizeOf374
 v194:=Tryz.zeroValue374
 t196:=Tryz.underlying376
 a196:=Tryz.isAgg376
 z196:=Tryz.sizeOf376
 v196:=Tryz.zeroValue376
 t198:=Tryz.underlying379
 a198:=Tryz.isAgg379
 z198:=Tryz.sizeOf379
 v198:=Tryz.zeroValue379
 t201:=Tryz.underlying382
 a201:=Tryz.isAgg382
 z201:=Tryz.sizeOf382
 v201:=Tryz.zeroValue382
 t226:=Tryz.underlying384
 a226:=Tryz.isAgg384
 z226:=Tryz.sizeOf384
 v226:=Tryz.zeroValue384
 t227:=Tryz.underlying385
 a227:=Tryz.isAgg385
 z227:=Tryz.sizeOf385
 v227:=Tryz.zeroValue385
 g0:=by kernel_rfl
 g6:=by kernel_rfl}
def yt(s sub:List UInt8)(hs:s.length<4294967281):aj pg yi [.str s,.str sub] (.bool (Lib.contains s sub)):=by
 refine aj.of (λw bl M cargs hH hM ha=>?_) rfl
 match cargs,ha with
 | [a,b],⟨h1,h2,_⟩ =>
  obtain rfl:=h1.str;obtain rfl:=h2.str;obtain⟨m,hm⟩:=hH.2.2;refine(Any.strings_Contains aap ⟨s.toArray⟩ ⟨sub.toArray⟩ m w (by simpa[ByteArray.size]using hs) hm).mono ?_;rintro e w' ⟨rfl,rfl⟩;exact⟨_,rfl,jb.refl _ _,IRel.bool _⟩
def Ni(s:List UInt8)(hs:s.length<4294967281)(ha:∀b∈s,b.toNat<128)(w:World)(hH:(bE.T pg).H w) :
  Calls pg A4 #[.string ⟨s.toArray⟩] w λe w'=>e = .returned (.slice (some ⟨w.heap.size,0,none⟩) (Lib.fields s).length (Lib.fields s).length)/\w'=w.alloc (.cells ((Lib.fields s).map λl=>Value.string ⟨l.toArray⟩).toArray 9):=by
 have h:=Any.strings_Fields_core aaq (by kernel_rfl) ⟨s.toArray⟩ w (by simpa[ByteArray.size]using hs) (λj b hb=>ha b (rO (by simpa using hb))) (λc hc=>hH.2.1 c hc);exact h
def abB:aj pg FT [] (.sl 3 (HR.map hr_)):=by
 refine ao wI ?_;simp only[go_sem,wI];exact aq [25] (by rfl) rfl
def Xn:aj pg Ei [] (.fn 289 []):=by
 refine ao tJ ?_;simp only[go_sem,tJ];exact ah
