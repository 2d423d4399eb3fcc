import Derived.Test.YtdfofedlbljnhaaGreatDoorXQg
set_option linter.all false
set_option maxRecDepth 100000
set_option maxHeartbeats 40000000
namespace Go.Proofs.YtdfofedlbljnhaaGreatDoor
open Go Go.Mw
section
def nuB(t:Int):Bool:=(t==1)||(t==2)
def Ep(t:Int):Bool:=(t==3)||(t==4)
def qh(t:Int):Bool:=nuB t||Ep t
def Qb(l:Lm)(most:Int):Bool:=if l.mn<0\/l.mn>most then false else if l.hs=false then l.mx==0 else decide (l.mn<=l.mx)&&decide (l.mx<=most)
def pH(l:List Int):Bool:=l.all qh
def Aj(s:Af):Int:=if s.length>64 then 6 else if uv s=false then 9 else 0
def MS(x:Ft):Int:=if x.ps.length>8\/x.rs.length>8 then 6 else if pH x.ps=false\/pH x.rs=false then 12 else 0
def KA(x:Tb):Int:=if Ep x.e=false then 12 else if Qb x.l 1024=false then 20 else 0
def Nc(l:Lm):Int:=if Qb l 256=false then 20 else 0
def Vv(g:Gl):Int:=if qh g.v=false then 12 else 0
def E8(P:be->Bool):Nat->List be->Int×Int
 | _,[]=>(0,0)
 | i,x::r=>if P x=false then((i:Int),10)else if x.lb.length>64 then((i:Int),6)else E8 P (i+1) r
def gh(P:be->Bool)(l:List be):Int×Int:=if l.length>2048 then(2048,6)else E8 P 0 l
attribute[local go_sem] bZ dC dc dA
def afn(t:Int):aj pg 260 [.int .i64 t] (.bool (nuB t)):=by
 refine aC lH ?_;unfold nuB;cases h:(t==1)
 .simp only[go_sem,lH,h];exact aB [] (by simp only[go_sem,eH]) (by first|rfl|simp[go_sem,bU])
 .simp only[go_sem,lH,h];exact aB [] (by simp only[go_sem,eC]) (by first|rfl|simp[go_sem,bU])
def Je(t:Int):aj pg 184 [.int .i64 t] (.bool (Ep t)):=by
 refine aC lI ?_;unfold Ep;cases h:(t==3)
 .simp only[go_sem,lI,h];exact aB [] (by simp only[go_sem,eH]) (by first|rfl|simp[go_sem,bU])
 .simp only[go_sem,lI,h];exact aB [] (by simp only[go_sem,eC]) (by first|rfl|simp[go_sem,bU])
def Na(t:Int):aj pg 186 [.int .i64 t] (.bool (qh t)):=by
 refine aC pX ?_;have c1:=afn t;have c2:=Je t;unfold qh;simp only[go_sem,pX];refine ab (c1) ?_;cases nuB t
 .simp only[go_sem];refine aa (c2) ?_;exact aB [] (by simp only[go_sem,eH]) (by first|rfl|simp[go_sem,bU])
 .simp only[go_sem];exact aB [] (by simp only[go_sem,eC]) (by first|rfl|simp[go_sem,bU])
def XH(t:Int):aj pg 259 [.int .i64 t] (.bool (!qh t)):=by
 refine aC wb ?_;simp only[go_sem,wb];refine aa (Na t) ?_;exact an
def afm(l:List Int)(hl:l.length<=9223372036854775807):∃r:Int,aj pg 308 [.sl 1 (l.map jM),.fn 259 []] (.int .i64 r)/\(pH l=true->r = -1)/\(pH l=false->0<=r):=by
 have key:∀r:Int,(∀i:Nat,i<=l.length->(∀k,k<i->qh (ac l k)=true)->(i<l.length->qh (ac l i)=false->r=i)/\(i=l.length->r = -1))->aj pg 308 [.sl 1 (l.map jM),.fn 259 []] (.int .i64 r):=λr hr=>by
  refine aC dR ?_;simp only[go_sem,dR];refine aq (λj:Nat=>⟨[(8,.int .i64 j),(7,.int .i64 l.length),(0,.sl 1 (l.map jM)),(1,.fn 259 [])],[]⟩) (λj=>j<=l.length/\∀k,k<j->qh (ac l k)=true) (λj=>l.length-j) 0 ⟨cm _,λk hk=>by omega⟩ (Wk.of ?_ ?_) ?_
  .simp only[go_sem];try simp
  .simp only[go_sem]
  rintro j ⟨hj,hx⟩;obtain⟨r1,r2⟩:=hr j hj hx;by_cases h1:(j:Int)<(l.length:Int)
  .have hj':j<l.length:=by omega
   have e8:=ey hj' (by omega);have cc:=XH (ac l j);cases hb:qh (ac l j)
   .rw[hb]at cc;rw[r1 hj' hb];simp only[go_sem,aK h1];refine⟨by omega,h1,?_⟩;refine⟨by kernel_rfl,?_⟩;refine aa (cc) ?_;exact an
   .rw[hb]at cc;simp only[go_sem,aK h1];refine⟨by omega,h1,?_⟩;refine⟨by kernel_rfl,?_⟩;refine aa (cc) ?_;refine aF (j+1) ⟨show j+1<=l.length by omega,λk hk=>?_⟩ (show l.length-(j+1)<l.length-j by omega) (Wk.of ?_ ?_)
    .rcases fV k j with h|h
     .exact hx k h
     .rw[show k=j by omega];exact hb
    .simp only[go_sem,e8];try simp
    .simp only[go_sem]
  .rw[r2 (by omega)];simp only[go_sem,aL h1];exact an
 have fnd:(∀k,k<l.length->qh (ac l k)=true)\/∃j,j<l.length/\qh (ac l j)=false/\∀k,k<j->qh (ac l k)=true:=by
  have aux:∀n,n<=l.length->(∀k,k<n->qh (ac l k)=true)\/∃j,j<l.length/\qh (ac l j)=false/\∀k,k<j->qh (ac l k)=true:=λn=>by
   induction n with
   | zero=>exact λ_=>.inl λk hk=>by omega
   | succ n ih =>
    intro hn;rcases ih (by omega)with h|h
    .cases hb:qh (ac l n)
     .exact .inr ⟨n,by omega,hb,h⟩
     .refine .inl λk hk=>?_;rcases fV k n with q|q
      .exact h k q
      .rw[show k=n by omega];exact hb
    .exact .inr h
  exact aux l.length (a_ _)
 have all_t:(∀k,k<l.length->qh (ac l k)=true)->pH l=true:=λh=>by
  unfold pH;rw[fk];intro x hx;obtain⟨i,hi,rfl⟩:=List.getElem_of_mem hx;have:=h i hi;rwa[bv hi]at this
 rcases fnd with h|⟨j,hj,hb,h⟩
 .refine⟨-1,key (-1) λi hi hk=>⟨λq qb=>?_,λ_=>rfl⟩,λ_=>rfl,λq=>?_⟩
  .rw[h i q]at qb;cases qb
  .rw[all_t h]at q;cases q
 .refine⟨(j:Int),key (j:Int) λi hi hk=>⟨λq qb=>?_,λq=>?_⟩,λq=>?_,λ_=>by omega⟩
  .rcases fV i j with z|z
   .rw[h i z]at qb;cases qb
   .rcases fV j i with z2|z2
    .rw[hk j z2]at hb;cases hb
    .rw[show i=j by omega]
  .rw[hk j (by omega)]at hb;cases hb
  .unfold pH at q;rw[fk]at q;have:=q _ (tL hj);rw[bv hj]at hb;rw[hb]at this;cases this
def abQ(l:List Int)(hl:l.length<=9223372036854775807):aj pg 258 [.sl 1 (l.map jM),.fn 259 []] (.bool (!pH l)):=by
 obtain⟨r,hr,h1,h2⟩:=afm l hl;refine aC cC ?_;cases hb:pH l
 .simp only[go_sem,cC];refine ab (hr) ?_;simp only[go_sem,aK (show r>=0 from h2 hb)];exact aB [] (by simp only[go_sem,cG]) (by first|rfl|simp[go_sem,bU])
 .simp only[go_sem,cC];refine ab (hr) ?_;simp only[go_sem,aL (show ¬r>=0 by rw[h1 hb];decide)];exact aB [] (by simp only[go_sem,dk]) (by first|rfl|simp[go_sem,bU])
def G3(l:List Int)(hl:l.length<=9223372036854775807):aj pg 181 [.sl 1 (l.map jM)] (.bool (pH l)):=by
 refine aC AK ?_;simp only[go_sem,AK];refine ab (abQ l hl) ?_;simp only[go_sem,Bool.not_not];exact an
def vk(i:Int):aj pg 75 [.int .i64 i] (.bool (tC i)):=by
 refine aC rO ?_;unfold tC;by_cases h:(0:Int)<=i
 .simp only[go_sem,rO,aK (show i>=0 from h)];exact aB [] (by simp only[go_sem,aK h,bY]) (by first|rfl|simp[go_sem,bU])
 .simp only[go_sem,rO,aL (show ¬i>=0 from h)];exact aB [] (by simp only[go_sem,aL h,qC]) (by first|rfl|simp[go_sem,bU])
def afk(x:Ft)(h:smF x):aj pg 55 [.agg (my x)] (.int .i64 (MS x)):=by
 refine aC je ?_;have c1:=G3 x.ps (by have:=h.1;omega);have c2:=G3 x.rs (by have:=h.2;omega);unfold MS;by_cases q1:(x.ps.length:Int)>8
 .rw[au (.inl (by omega))];simp only[go_sem,je,aK q1];exact an
 by_cases q2:(x.rs.length:Int)>8
 .rw[au (.inr (by omega))];simp only[go_sem,je,aL q1,aK q2];exact an
 rw[ak (by omega)];simp only[go_sem,je,aL q1,aL q2];refine ab (c1) ?_;cases pH x.ps
 .simp only[go_sem];exact aB [] (by simp only[go_sem];try rfl) (by rfl)
 simp only[go_sem];refine ab (c2) ?_;cases pH x.rs
 .simp only[go_sem];exact aB [] (by simp only[go_sem];try rfl) (by rfl)
 .simp only[go_sem];exact aB [] (by simp only[go_sem];try rfl) (by rfl)
end
section
structure Fa where
 p:Int
 i:Int
 l:Int
 c:Int
def ck(F:Fa):ao:=⟨117,4,[[.int .i64 F.p,.int .i64 F.i,.int .i64 F.l,.int .i64 F.c]],true⟩
def fS(F:Fa)(p i l e:Int):Fa:=if F.c=0/\e≠0 then⟨p,i,l,e⟩else F
def CM(f:FuncId)(rest:List AV)(F F':Fa):Prop:=aQ pg f (.mp 1000 4 0 0::rest) [(1000,ck F)] (λid=>1000<=id/\id<2000) (λr' σ'=>r' = .tup []/\σ'=[(1000,ck F')])
attribute[local go_sem] bZ ck dC dg df dA dc s8 fR fQ fv eX iG az
def Li(F:Fa)(p i l e:Int):CM 76 [.int .i64 p,.int .i64 i,.int .i64 l,.int .i64 e] F (fS F p i l e):=by
 refine bA fB ?_;unfold fS;by_cases h1:F.c=0
 .by_cases h2:e=0
  .rw[ak (by simp[h2])];simp only[go_sem,fB,dt h1,aI h2];exact cR [] _ [(1000,ck F)] ⟨rfl,rfl⟩
  .rw[au ⟨h1,h2⟩];simp only[go_sem,fB,dt h1,bj h2];exact cR [] _ [(1000,ck ⟨p,i,l,e⟩)] ⟨rfl,rfl⟩
 .rw[ak (λq=>h1 q.1)];simp only[go_sem,fB,aA h1];exact cR [] _ [(1000,ck F)] ⟨rfl,rfl⟩
def HE{α β:Type}[Inhabited α][Inhabited β]{f:α->β}{l:List α}{i:Nat}(h:i<l.length):ac (l.map f) i=f (ac l i):=by
 rw[bv (by simpa using h),bv h,List.getElem_map]
def Vw(n:Int):Nat->List (Int×Int)->Fa->Fa
 | _,[],F=>F
 | i,r::l,F=>if F.c≠0 then F else Vw n (i+1) l (fS F n i r.1 r.2)
def fe(n most imp:Int)(res:List (Int×Int))(F:Fa):Fa :=
 Vw n 0 res (if IntKind.i64.wrap ((res.length:Int)+imp)>most then fS F n (if 0<IntKind.i64.wrap (most-imp)then IntKind.i64.wrap (most-imp)else 0) 0 6 else F)
def abg{n:Int}{l:List (Int×Int)}{i:Nat}(h:i<l.length)(F:Fa)(hF:F.c=0):Vw n i (l.drop i) F=Vw n (i+1) (l.drop (i+1)) (fS F n i (ac l i).1 (ac l i).2):=by
 rw[r9 h,Vw,ak (by simp[hF])]
def R3{n:Int}{l:List (Int×Int)}{i:Nat}(F:Fa)(hF:F.c≠0):Vw n i l F=F:=by
 cases l with
 | nil=>rfl
 | cons r l=>rw[Vw,au hF]
def I2{f:FuncId}(h:bK pg f=true):f<4000000:=K_ (by kernel_rfl) h
def ptB(t st:Nat)(z:List AV):bI :=
 (.seq (.seq (.reg [mv 16 2,
 o0 17 (.len (.s 16)),
 mv 18 4,
 o0 19 (.bin .add (.s 17) (.s 18)),
 mv 20 3,
 o0 21 (.bin .gtr (.s 19) (.s 20))] [16,17,18,19,20])
 (.cond (.s 21)
 (.reg [mv 22 0,
 mv 23 1,
 mv 24 3,
 mv 25 4,
 o0 26 (.bin .sub (.s 24) (.s 25)),
 o0 27 (.mnx true (.c (.int .i64 0)) (.s 26)),
 o0 28 (.call 76 [(.s 22),(.s 23),(.s 27),(.c (.int .i64 0)),(.c (.int .i64 6))])] [22,23,24,25,26,27,28])
 .skip))
 (.seq (.reg [mv 29 2,
 o0 30 (.len (.s 29)),
 o0 31 (.mov (.c (.int .i64 0)))] [])
 (.block 0 (.loop (.seq (.reg [o0 32 (.bin .lss (.s 31) (.s 30))] [])
 (.seq (.cond (.s 32)
 .skip
 (.exit 0))
 (.seq (.block 1 (.seq (.reg [mv 33 31,
 o0 34 (.iadr st (.s 29) (.s 31)),
 o0 35 (.load (some st) (.s 34)),
 o0 13 (.new t z),
 mv 12 33,
 ⟨none,.store st (.s 13) (.s 35),none⟩] [33,34,35])
 (.seq (.seq (.reg [mv 36 0,
 o0 37 (.nchk (.s 36)),
 o0 38 (.fadr 0 (.s 37)),
 o0 39 (.fadr 3 (.s 38)),
 o0 40 (.load none (.s 39)),
 o0 41 (.bin .neq (.s 40) (.c (.int .i64 0)))] [36,37,38,39,40])
 (.cond (.s 41)
 .ret
 .skip))
 (.seq (.reg [mv 43 5,
 mv 44 12,
 o0 45 (.load (some st) (.s 13)),
 o0 46 (.callv (.s 43) [(.s 44),(.s 45)]),
 mv 42 46,
 o0 47 (.ext (.s 42) 0),
 o0 48 (.ext (.s 42) 1),
 mv 14 47,
 mv 15 48] [43,44,45,46,42,47,48])
 (.reg [mv 49 0,
 mv 50 1,
 mv 51 12,
 mv 52 14,
 mv 53 15,
 o0 54 (.call 76 [(.s 49),(.s 50),(.s 51),(.s 52),(.s 53)])] [49,50,51,52,53,54])))))
 (.reg [o0 55 (.bin .add (.s 31) (.c (.int .i64 1))),
 mv 31 55] [55]))))))))
def qr{α:Type}[Inhabited α]{m t st:Nat}{z:List AV}{c:α->List AV}(hc:lK pg m=some ⟨56,6,[],ptB t st z⟩)(hz:z.length=st)(hr:∀x,aed st (c x)){f:FuncId}(hb:bK pg f=true)(g:α->Int×Int)(a:List α)(ha:a.length<=9223372036854775807)
  (hf:∀x∈a,∀i:Int,aj pg f [.int .i64 i,.agg (c x)] (.tup [.int .i64 (g x).1,.int .i64 (g x).2])) (n most imp:Int) (F:Fa) :
  CM m [.int .i64 n,.sl st (a.map c),.int .i64 most,.int .i64 imp,.fn f []] F (fe n most imp (a.map g) F):=by
 refine jB (ic:=ptB t st z) s9 hc rfl rfl ?_;obtain⟨G,hG⟩:∃G,fe n most imp (a.map g) F=G:=⟨_,rfl⟩
 rw[hG];unfold fe at hG;rw[bZ]at hG;subst hz;have q1:∀x,uI (some z.length) (c x)=some (.agg (c x)):=λx=>M7 (hr x).1;have q2:∀x,Is 13 z.length z.length 0 0 (some ⟨t,z.length,[z],true⟩) (some (c x))=some (.put 13 ⟨t,z.length,[c x],true⟩):=λx=>NW rfl (hr x).1;have q3:∀x i,(c x).any (mC i)=false:=λx i=>(hr x).2.1 i;by_cases hw:IntKind.i64.wrap ((a.length:Int)+imp)>most;rw[au hw]at hG;simp only[go_sem,ptB,aK hw];refine aE (Li F n (if 0<IntKind.i64.wrap (most-imp)then IntKind.i64.wrap (most-imp)else 0) 0 6) ?_;generalize fS F n (if 0<IntKind.i64.wrap (most-imp)then IntKind.i64.wrap (most-imp)else 0) 0 6=F0 at hG⊢;rotate_left;rw[ak hw]at hG;simp only[go_sem,ptB,aL hw];generalize F=F0 at hG⊢
 all_goals
  refine aq (λq:Nat×Fa=>⟨[(31,.int .i64 q.1),(30,.int .i64 a.length),(29,.sl z.length (a.map c)),(0,.mp 1000 4 0 0),(1,.int .i64 n),(5,.fn f [])],[(1000,ck q.2)]⟩) (λq=>q.1<=a.length/\G=Vw n q.1 ((a.map g).drop q.1) q.2) (λq=>a.length-q.1) (0,F0) ⟨cm _,hG.symm⟩ (Wk.of ?_ ?_) ?_
  .simp only[go_sem];try simp
  .simp only[go_sem]
  rintro⟨j,E⟩ ⟨hj,hx⟩;simp only at hj hx;by_cases h1:(j:Int)<(a.length:Int);rotate_left
  .rw[yg (by rw[bZ];omega)]at hx;obtain rfl:G=E:=hx;simp only[go_sem,aL h1];exact cR [] _ [(1000,ck G)] ⟨rfl,rfl⟩
  have hj':j<a.length:=by omega
  have e8:=ey hj' (by omega);have cc:=eV hf hj' (j:Int);by_cases hE:E.c=0;rotate_left
  .rw[R3 E hE]at hx;obtain rfl:G=E:=hx;simp only[go_sem,aK h1,bj hE,q1,q2,q3];refine⟨by omega,h1,?_⟩;exact eW [] (.tup []) [(1000,ck G)] ⟨rfl,rfl⟩
  rw[abg (by rw[bZ];exact hj') E hE,HE hj']at hx;simp only[go_sem,aK h1,aI hE,q1,q2,q3];refine⟨by omega,h1,?_⟩;rw[au (I2 hb)];refine⟨hb,?_⟩;refine dd cc (λx hx=>?_) ?_
  .rcases dQ.1 hx with rfl|hx
   .rfl
   .rcases dQ.1 hx with rfl|hx
    .exact(hr _).2.2
    .cases hx
  simp only[go_sem];refine aE (Li E n j (g (ac a j)).1 (g (ac a j)).2) ?_;refine aF (j+1,fS E n j (g (ac a j)).1 (g (ac a j)).2) ⟨show j+1<=a.length by omega,hx⟩ (show a.length-(j+1)<a.length-j by omega) (Wk.of ?_ ?_)
  .simp only[go_sem,e8];try simp
  .simp only[go_sem]
def Tg{f:FuncId}(hb:bK pg f=true)(g:Ft->Int×Int)(a:List Ft)(ha:a.length<=9223372036854775807)(hf:∀x∈a,∀i:Int,aj pg f [.int .i64 i,.agg (my x)] (.tup [.int .i64 (g x).1,.int .i64 (g x).2]))(n most imp:Int)(F:Fa) :
  CM 53 [.int .i64 n,.sl 2 (a.map my),.int .i64 most,.int .i64 imp,.fn f []] F (fe n most imp (a.map g) F):=qr (cF t_) rfl (λ_=>⟨rfl,λ_=>rfl,rfl⟩) hb g a ha hf n most imp F
def Ti{f:FuncId}(hb:bK pg f=true)(g:Im->Int×Int)(a:List Im)(ha:a.length<=9223372036854775807)(hf:∀x∈a,∀i:Int,aj pg f [.int .i64 i,.agg (pw x)] (.tup [.int .i64 (g x).1,.int .i64 (g x).2]))(n most imp:Int)(F:Fa) :
  CM 56 [.int .i64 n,.sl 13 (a.map pw),.int .i64 most,.int .i64 imp,.fn f []] F (fe n most imp (a.map g) F):=qr (cF rR) rfl (λ_=>⟨rfl,λ_=>rfl,rfl⟩) hb g a ha hf n most imp F
def Jd{f:FuncId}(hb:bK pg f=true)(g:Cd->Int×Int)(a:List Cd)(ha:a.length<=9223372036854775807)(hf:∀x∈a,∀i:Int,aj pg f [.int .i64 i,.agg (kM x)] (.tup [.int .i64 (g x).1,.int .i64 (g x).2]))(n most imp:Int)(F:Fa) :
  CM 59 [.int .i64 n,.sl 3 (a.map kM),.int .i64 most,.int .i64 imp,.fn f []] F (fe n most imp (a.map g) F):=qr (cF tY) rfl (λ_=>⟨rfl,λ_=>rfl,rfl⟩) hb g a ha hf n most imp F
def Tk{f:FuncId}(hb:bK pg f=true)(g:Tb->Int×Int)(a:List Tb)(ha:a.length<=9223372036854775807)(hf:∀x∈a,∀i:Int,aj pg f [.int .i64 i,.agg (rM x)] (.tup [.int .i64 (g x).1,.int .i64 (g x).2]))(n most imp:Int)(F:Fa) :
  CM 62 [.int .i64 n,.sl 4 (a.map rM),.int .i64 most,.int .i64 imp,.fn f []] F (fe n most imp (a.map g) F):=qr (cF tA) rfl (λ_=>⟨rfl,λ_=>rfl,rfl⟩) hb g a ha hf n most imp F
def Tj{f:FuncId}(hb:bK pg f=true)(g:Lm->Int×Int)(a:List Lm)(ha:a.length<=9223372036854775807)(hf:∀x∈a,∀i:Int,aj pg f [.int .i64 i,.agg (j7 x)] (.tup [.int .i64 (g x).1,.int .i64 (g x).2]))(n most imp:Int)(F:Fa) :
  CM 65 [.int .i64 n,.sl 3 (a.map j7),.int .i64 most,.int .i64 imp,.fn f []] F (fe n most imp (a.map g) F):=qr (cF rT) rfl (λ_=>⟨rfl,λ_=>rfl,rfl⟩) hb g a ha hf n most imp F
def Th{f:FuncId}(hb:bK pg f=true)(g:Gd->Int×Int)(a:List Gd)(ha:a.length<=9223372036854775807)(hf:∀x∈a,∀i:Int,aj pg f [.int .i64 i,.agg (wF x)] (.tup [.int .i64 (g x).1,.int .i64 (g x).2]))(n most imp:Int)(F:Fa) :
  CM 68 [.int .i64 n,.sl 3 (a.map wF),.int .i64 most,.int .i64 imp,.fn f []] F (fe n most imp (a.map g) F):=qr (cF py) rfl (λ_=>⟨rfl,λ_=>rfl,rfl⟩) hb g a ha hf n most imp F
def Tf{f:FuncId}(hb:bK pg f=true)(g:Ex->Int×Int)(a:List Ex)(ha:a.length<=9223372036854775807)(hf:∀x∈a,∀i:Int,aj pg f [.int .i64 i,.agg (vx x)] (.tup [.int .i64 (g x).1,.int .i64 (g x).2]))(n most imp:Int)(F:Fa) :
  CM 72 [.int .i64 n,.sl 3 (a.map vx),.int .i64 most,.int .i64 imp,.fn f []] F (fe n most imp (a.map g) F):=qr (cF rQ) rfl (λ_=>⟨rfl,λ_=>rfl,rfl⟩) hb g a ha hf n most imp F
def Te{f:FuncId}(hb:bK pg f=true)(g:El->Int×Int)(a:List El)(ha:a.length<=9223372036854775807)(hf:∀x∈a,∀i:Int,aj pg f [.int .i64 i,.agg (eF x)] (.tup [.int .i64 (g x).1,.int .i64 (g x).2]))(n most imp:Int)(F:Fa) :
  CM 77 [.int .i64 n,.sl 5 (a.map eF),.int .i64 most,.int .i64 imp,.fn f []] F (fe n most imp (a.map g) F):=qr (cF t8) rfl (λ_=>⟨rfl,λ_=>rfl,rfl⟩) hb g a ha hf n most imp F
def Td{f:FuncId}(hb:bK pg f=true)(g:Da->Int×Int)(a:List Da)(ha:a.length<=9223372036854775807)(hf:∀x∈a,∀i:Int,aj pg f [.int .i64 i,.agg (iz x)] (.tup [.int .i64 (g x).1,.int .i64 (g x).2]))(n most imp:Int)(F:Fa) :
  CM 80 [.int .i64 n,.sl 4 (a.map iz),.int .i64 most,.int .i64 imp,.fn f []] F (fe n most imp (a.map g) F):=qr (cF tZ) rfl (λ_=>⟨rfl,λ_=>rfl,rfl⟩) hb g a ha hf n most imp F
def Tc{f:FuncId}(hb:bK pg f=true)(g:Cu->Int×Int)(a:List Cu)(ha:a.length<=9223372036854775807)(hf:∀x∈a,∀i:Int,aj pg f [.int .i64 i,.agg (yf x)] (.tup [.int .i64 (g x).1,.int .i64 (g x).2]))(n most imp:Int)(F:Fa) :
  CM 83 [.int .i64 n,.sl 3 (a.map yf),.int .i64 most,.int .i64 imp,.fn f []] F (fe n most imp (a.map g) F):=qr (cF rP) rfl (λ_=>⟨rfl,λ_=>rfl,rfl⟩) hb g a ha hf n most imp F
end
section
attribute[local go_sem] bZ dC dg df dA dc s8 fR fQ fv eX dw az
def G1(l:Lm)(most:Int):aj pg 185 [.agg (j7 l),.int .i64 most] (.bool (Qb l most)):=by
 refine aC eS ?_;unfold Qb;by_cases q1:l.mn<0
 .rw[au (.inl q1)];simp only[go_sem,eS,aK q1];exact an
 by_cases q2:l.mn>most
 .rw[au (.inr q2)];simp only[go_sem,eS,aL q1,aK q2];exact an
 rw[ak (by omega)];cases hh:l.hs
 .rw[au rfl];simp only[go_sem,eS,aL q1,aL q2,hh];exact an
 .rw[ak (by decide)];by_cases q3:l.mn<=l.mx
  .simp only[go_sem,eS,aL q1,aL q2,hh,aK q3];exact aB [] (by simp only[go_sem,bY]) (by first|rfl|simp[go_sem,bU])
  .simp only[go_sem,eS,aL q1,aL q2,hh,aL q3];exact aB [] (by simp only[go_sem,qC]) (by first|rfl|simp[go_sem,bU])
def M_(x:Tb):aj pg 64 [.agg (rM x)] (.int .i64 (KA x)):=by
 refine aC xS ?_;have c1:=Je x.e;have c2:=G1 x.l 1024;unfold KA;simp only[go_sem,xS];refine ab (c1) ?_;cases Ep x.e
 .simp only[go_sem];exact aB [] (by simp only[go_sem];try rfl) (by rfl)
 .simp only[go_sem];refine ab (c2) ?_;cases Qb x.l 1024
  .simp only[go_sem];exact aB [] (by simp only[go_sem];try rfl) (by rfl)
  .simp only[go_sem];exact aB [] (by simp only[go_sem];try rfl) (by rfl)
def ZR(l:Lm):aj pg 67 [.agg (j7 l)] (.int .i64 (Nc l)):=by
 refine aC v_ ?_;have c2:=G1 l 256;unfold Nc;simp only[go_sem,v_];refine ab (c2) ?_;cases Qb l 256
 .simp only[go_sem];exact aB [] (by simp only[go_sem];try rfl) (by rfl)
 .simp only[go_sem];exact aB [] (by simp only[go_sem];try rfl) (by rfl)
def S9(g:Gl):aj pg 70 [.agg [.int .i64 g.v,.bool g.mu]] (.int .i64 (Vv g)):=by
 refine aC v8 ?_;have c2:=Na g.v;unfold Vv;simp only[go_sem,v8];refine ab (c2) ?_;cases qh g.v
 .simp only[go_sem];exact aB [] (by simp only[go_sem];try rfl) (by rfl)
 .simp only[go_sem];exact aB [] (by simp only[go_sem];try rfl) (by rfl)
def G2(s:Af):aj pg 182 [.str s] (.int .i64 (Aj s)):=by
 refine aC tX ?_;unfold Aj;by_cases q1:(s.length:Int)>64
 .rw[au (by omega)];simp only[go_sem,tX,aK q1];exact an
 rw[ak (by omega)];simp only[go_sem,tX,aL q1];refine ab (UV s (by omega)) ?_;cases uv s
 .simp only[go_sem];exact aB [] (by simp only[go_sem];try rfl) (by rfl)
 .simp only[go_sem];exact aB [] (by simp only[go_sem];try rfl) (by rfl)
def P9(x:Cd):Int:=if tC x.t=false then 11 else if x.lo.length>64 then 6 else if pH x.lo=false then 12 else 0
def abO(x:Cd)(h:U3 x):aj pg 61 [.agg (kM x)] (.int .i64 (P9 x)):=by
 refine aC AJ ?_;have c1:=vk x.t;have c2:=G3 x.lo (by have:=h.1;omega);unfold P9;simp only[go_sem,AJ];refine ab (c1) ?_;cases tC x.t
 .simp only[go_sem];exact aB [] (by simp only[go_sem];try rfl) (by rfl)
 rw[ak (by decide)];by_cases q1:(x.lo.length:Int)>64
 .rw[au (by omega)];simp only[go_sem,aK q1];exact an
 rw[ak (by omega)];simp only[go_sem,aL q1];refine ab (c2) ?_;cases pH x.lo
 .simp only[go_sem];exact aB [] (by simp only[go_sem];try rfl) (by rfl)
 .simp only[go_sem];exact aB [] (by simp only[go_sem];try rfl) (by rfl)
def MN(x:Ex):Int:=if Aj x.n≠0 then Aj x.n else if x.k<0\/x.k>3 then 1 else if tC x.i=false then 11 else 0
def S8(x:Ex):aj pg 74 [.agg (vx x)] (.int .i64 (MN x)):=by
 refine aC v7 ?_;have c1:=G2 x.n;have c2:=vk x.i;unfold MN;simp only[go_sem,v7];refine ab (c1) ?_;by_cases q0:Aj x.n=0;rotate_left
 .rw[au q0];simp only[go_sem,bj q0];exact an
 rw[ak (by simp[q0])];by_cases q1:x.k<0
 .rw[au (.inl q1)];simp only[go_sem,aI q0,aK q1];exact an
 by_cases q2:x.k>3
 .rw[au (.inr q2)];simp only[go_sem,aI q0,aL q1,aK q2];exact an
 rw[ak (by omega)];simp only[go_sem,aI q0,aL q1,aL q2];refine ab (c2) ?_;cases tC x.i
 .simp only[go_sem];exact aB [] (by simp only[go_sem];try rfl) (by rfl)
 .simp only[go_sem];exact aB [] (by simp only[go_sem];try rfl) (by rfl)
def YQ{P:be->Bool}{l:List be}{i:Nat}(h:i<l.length):E8 P i (l.drop i)=if P (ac l i)=false then((i:Int),10)else if(ac l i).lb.length>64 then((i:Int),6)else E8 P (i+1) (l.drop (i+1)):=by
 rw[r9 h,E8]
def Jf(P:be->Bool)(l:List be)(hl:L_ l)(hP:∀x∈l,aj pg 187 [bn x] (.bool (P x))):aj pg 71 [.sl 9 (l.map az)] (.tup [.int .i64 (gh P l).1,.int .i64 (gh P l).2]):=by
 refine aC xd ?_;unfold gh;by_cases q1:(l.length:Int)>2048
 .rw[au (by omega)];simp only[go_sem,xd,aK q1];exact an
 rw[ak (by omega)];obtain⟨G,hG⟩:∃G,E8 P 0 l=G:=⟨_,rfl⟩
 rw[hG];simp only[go_sem,xd,aL q1];refine aq (λj:Nat=>⟨[(11,.int .i64 j),(10,.int .i64 l.length),(9,.sl 9 (l.map az))],[]⟩) (λj=>j<=l.length/\G=E8 P j (l.drop j)) (λj=>l.length-j) 0 ⟨cm _,hG.symm⟩ (Wk.of ?_ ?_) ?_
 .simp only[go_sem];try simp
 .simp only[go_sem]
 rintro j ⟨hj,hx⟩;by_cases h1:(j:Int)<(l.length:Int);rotate_left
 .rw[yg (by omega)]at hx;obtain rfl:G=(0,0):=hx;simp only[go_sem,aL h1];exact an
 have hj':j<l.length:=by omega
 have e8:=ey hj' (by have:=hl.1;omega);have cc:=eV hP hj';simp only[dw]at cc;rw[YQ hj']at hx;cases hp:P (ac l j)
 .rw[hp]at cc hx;obtain rfl:G=((j:Int),10):=hx;simp only[go_sem,aK h1];refine⟨by omega,h1,?_⟩;refine aa (cc) ?_;exact an
 rw[hp]at cc hx;rw[ak (by decide)]at hx;by_cases q2:((ac l j).lb.length:Int)>64
 .rw[au (by omega)]at hx;subst hx;simp only[go_sem,aK h1];refine⟨by omega,h1,?_⟩;refine ab (cc) ?_;simp only[go_sem,aK q2];exact an
 rw[ak (by omega)]at hx;simp only[go_sem,aK h1];refine⟨by omega,h1,?_⟩;refine ab (cc) ?_;simp only[go_sem,aL q2];refine aF (j+1) ⟨show j+1<=l.length by omega,hx⟩ (show l.length-(j+1)<l.length-j by omega) (Wk.of ?_ ?_)
 .simp only[go_sem,e8];try simp
 .simp only[go_sem]
end
section
def P_(x:Cu):Int:=if Aj x.n≠0 then Aj x.n else if x.b.length>4096 then 6 else if x.af<0\/x.af>12 then 1 else 0
attribute[local go_sem] bZ dC dg df dA dc s8 fR fQ fv eX dw az
def S7(x:Cu):aj pg 85 [.agg (yf x)] (.int .i64 (P_ x)):=by
 refine aC v6 ?_;have c1:=G2 x.n;unfold P_;simp only[go_sem,v6];refine ab (c1) ?_;by_cases q0:Aj x.n=0;rotate_left
 .rw[au q0];simp only[go_sem,bj q0];exact an
 rw[ak (by simp[q0])];by_cases q1:(x.b.length:Int)>4096
 .rw[au (by omega)];simp only[go_sem,aI q0,aK q1];exact an
 rw[ak (by omega)];by_cases q2:x.af<0
 .rw[au (.inl q2)];simp only[go_sem,aI q0,aL q1,aK q2];exact an
 by_cases q3:x.af>12
 .rw[au (.inr q3)];simp only[go_sem,aI q0,aL q1,aL q2,aK q3];exact an
 rw[ak (by omega)];simp only[go_sem,aI q0,aL q1,aL q2,aL q3];exact an
def Rp(P:be->Bool)(x:Da):Int×Int:=if x.mo≠0/\(x.mo≠1\/x.me≠0\/x.o.length>0)then(0,1)else if tC x.me=false then(0,11)else if x.b.length>4096 then(0,6)else gh P x.o
def abR(P:be->Bool)(x:Da)(h:Y5 x)(hP:∀y∈x.o,aj pg 187 [bn y] (.bool (P y))):aj pg 82 [.agg (iz x)] (.tup [.int .i64 (Rp P x).1,.int .i64 (Rp P x).2]):=by
 refine aC jy ?_;have c1:=vk x.me;have c2:=Jf P x.o h.1 hP;unfold Rp;by_cases q1:x.mo=0
 .rw[ak (λq=>q.1 q1)];simp only[go_sem,jy,aI q1];refine ab (c1) ?_;cases tC x.me
  .simp only[go_sem];exact aB [] (by simp only[go_sem];try rfl) (by rfl)
  rw[ak (by decide)];by_cases q5:(x.b.length:Int)>4096
  .rw[au (by omega)];simp only[go_sem,aK q5];exact aB [] (by simp only[go_sem];try rfl) (by rfl)
  rw[ak (by omega)];simp only[go_sem,aL q5];refine aa (c2) ?_;exact an
 by_cases q2:x.mo=1;rotate_left
 .rw[au ⟨q1,.inl q2⟩];simp only[go_sem,jy,bj q1,bj q2];exact aB [] (by simp only[go_sem];try rfl) (by rfl)
 by_cases q3:x.me=0;rotate_left
 .rw[au ⟨q1,.inr (.inl q3)⟩];simp only[go_sem,jy,bj q1,aI q2,bj q3];exact aB [] (by simp only[go_sem];try rfl) (by rfl)
 by_cases q4:(x.o.length:Int)>0
 .rw[au ⟨q1,.inr (.inr (by omega))⟩];simp only[go_sem,jy,bj q1,aI q2,aI q3,aK q4];exact aB [] (by simp only[go_sem];try rfl) (by rfl)
 rw[ak (λq=>by rcases q.2 with z|z|z;exact z q2;exact z q3;omega)];simp only[go_sem,jy,bj q1,aI q2,aI q3,aL q4];refine ab (c1) ?_;cases tC x.me
 .simp only[go_sem];exact aB [] (by simp only[go_sem];try rfl) (by rfl)
 rw[ak (by decide)];by_cases q5:(x.b.length:Int)>4096
 .rw[au (by omega)];simp only[go_sem,aK q5];exact aB [] (by simp only[go_sem];try rfl) (by rfl)
 rw[ak (by omega)];simp only[go_sem,aL q5];refine aa (c2) ?_;exact an
def Fp(x:Im):Im:=if x.k=0 then⟨x.m,x.n,x.k,x.f,0,⟨0,0,false⟩,⟨0,0,false⟩,⟨0,false⟩⟩else if x.k=1 then⟨x.m,x.n,x.k,0,x.te,x.tl,⟨0,0,false⟩,⟨0,false⟩⟩else if x.k=2 then⟨x.m,x.n,x.k,0,0,⟨0,0,false⟩,x.me,⟨0,false⟩⟩else if x.k=3 then⟨x.m,x.n,x.k,0,0,⟨0,0,false⟩,⟨0,0,false⟩,x.g⟩else⟨x.m,x.n,x.k,0,0,⟨0,0,false⟩,⟨0,0,false⟩,⟨0,false⟩⟩
def abM(x:Im):aj pg 183 [.agg (pw x)] (.agg (pw (Fp x))):=by
 refine aC jx ?_;unfold Fp;by_cases q0:x.k=0
 .rw[au q0];simp only[go_sem,jx,dt q0];exact aB [] (by simp only[go_sem];try rfl) (by rfl)
 rw[ak q0];by_cases q1:x.k=1
 .rw[au q1];simp only[go_sem,jx,aA q0,dt q1];exact aB [] (by simp only[go_sem];try rfl) (by rfl)
 rw[ak q1];by_cases q2:x.k=2
 .rw[au q2];simp only[go_sem,jx,aA q0,aA q1,dt q2];exact aB [] (by simp only[go_sem];try rfl) (by rfl)
 rw[ak q2];by_cases q3:x.k=3
 .rw[au q3];simp only[go_sem,jx,aA q0,aA q1,aA q2,dt q3];exact aB [] (by simp only[go_sem];try rfl) (by rfl)
 rw[ak q3];simp only[go_sem,jx,aA q0,aA q1,aA q2,aA q3];exact aB [] (by simp only[go_sem];try rfl) (by rfl)
end
section
def M1(x:Im):Int:=if Aj x.m≠0 then Aj x.m else if Aj x.n≠0 then Aj x.n else if x.k<0\/x.k>3\/Fp x≠x then 1 else if x.k=1 then KA ⟨x.te,x.tl⟩else if x.k=2 then Nc x.me else if x.k=3 then Vv x.g else if tC x.f=false then 11 else 0
attribute[local go_sem] bZ dC dg df dA dc s8 fR fQ fv eX iG dw az
def afl(x:Im):aj pg 58 [.agg (pw x)] (.int .i64 (M1 x)):=by
 refine aC tV ?_;have c1:=G2 x.m;have c2:=G2 x.n;have c3:=abM x;have c4:=M_ ⟨x.te,x.tl⟩;have c5:=ZR x.me;have c6:=S9 x.g;have c7:=vk x.f;simp only[dg]at c3;unfold M1;simp only[go_sem,tV];refine ab (c1) ?_;by_cases q0:Aj x.m=0;rotate_left
 .rw[au q0];simp only[go_sem,bj q0];exact an
 rw[ak (by simp[q0])];simp only[go_sem,aI q0];refine ab (c2) ?_;by_cases q1:Aj x.n=0;rotate_left
 .rw[au q1];simp only[go_sem,bj q1];exact an
 rw[ak (by simp[q1])];by_cases q2:x.k<0
 .rw[au (.inl q2)];simp only[go_sem,aI q1,aK q2];exact an
 by_cases q3:x.k>3
 .rw[au (.inr (.inl q3))];simp only[go_sem,aI q1,aL q2,aK q3];exact an
 simp only[go_sem,aI q1,aL q2,aL q3];refine cJ c3 (by simp[go_sem]) rfl ?_;by_cases q4:Fp x=x;rotate_left
 .rw[au (.inr (.inr q4))];simp only[go_sem,C2,aL q4,cG];exact an
 rw[ak (λq=>by rcases q with z|z|z;exact q2 z;exact q3 z;exact z q4)];by_cases k1:x.k=1
 .rw[au k1];simp only[go_sem,C2,aK q4,dk,dt k1];refine aa (c4) ?_;exact an
 rw[ak k1];by_cases k2:x.k=2
 .rw[au k2];simp only[go_sem,C2,aK q4,dk,aA k1,dt k2];refine aa (c5) ?_;exact an
 rw[ak k2];by_cases k3:x.k=3
 .rw[au k3];simp only[go_sem,C2,aK q4,dk,aA k1,aA k2,dt k3];refine aa (c6) ?_;exact an
 rw[ak k3];simp only[go_sem,C2,aK q4,dk,aA k1,aA k2,aA k3];refine ab (c7) ?_;cases tC x.f
 .simp only[go_sem];exact aB [] (by simp only[go_sem];try rfl) (by rfl)
 .simp only[go_sem];exact aB [] (by simp only[go_sem];try rfl) (by rfl)
def tx(P:be->Bool):List (List be)->Int×Int
 | []=>(0,0)
 | l::r=>if(gh P l).2≠0 then gh P l else tx P r
def J8{P:be->Bool}{l:List (List be)}{i:Nat}(h:i<l.length):tx P (l.drop i)=if(gh P (ac l i)).2≠0 then gh P (ac l i)else tx P (l.drop (i+1)):=by
 rw[r9 h];rfl
def Rv(P:be->Bool)(x:El):Int×Int :=
 if x.mo<0\/x.mo>2\/(x.mo≠0/\(x.tb≠0\/x.o.length>0))then(0,1)else if tC x.tb=false then(0,11)else if Ep x.ty=false then(0,12)else if x.it.length>256 then(0,6)else tx P (x.o::x.it)
def abS(P:be->Bool)(x:El)(h:Y6 x)(hP:∀y,VC y->aj pg 187 [bn y] (.bool (P y))):aj pg 79 [.agg (eF x)] (.tup [.int .i64 (Rv P x).1,.int .i64 (Rv P x).2]):=by
 refine aC gZ ?_;have c1:=vk x.tb;have c2:=Je x.ty;have hR:∀l∈x.o::x.it,aj pg 71 [.sl 9 (l.map az)] (.tup [.int .i64 (gh P l).1,.int .i64 (gh P l).2]):=λl hl=>by
  rcases dQ.1 hl with rfl|hl
  .exact Jf P _ h.1 λy hy=>hP y (h.1.2 y hy)
  .exact Jf P l (h.2.2 l hl) λy hy=>hP y ((h.2.2 l hl).2 y hy)
 have hil:=h.2.1;unfold Rv;by_cases q1:x.mo<0
 .rw[au (.inl q1)];simp only[go_sem,gZ,aK q1];exact aB [] (by simp only[go_sem];try rfl) (by rfl)
 by_cases q2:x.mo>2
 .rw[au (.inr (.inl q2))];simp only[go_sem,gZ,aL q1,aK q2];exact aB [] (by simp only[go_sem];try rfl) (by rfl)
 by_cases q3:x.mo=0
 .rw[ak (λq=>by rcases q with z|z|z;exact q1 z;exact q2 z;exact z.1 q3)];simp only[go_sem,gZ,aL q1,aL q2,aI q3];refine ab (c1) ?_;cases tC x.tb
  .simp only[go_sem];exact aB [] (by simp only[go_sem];try rfl) (by rfl)
  rw[ak (by decide)];simp only[go_sem];refine ab (c2) ?_;cases Ep x.ty
  .simp only[go_sem];exact aB [] (by simp only[go_sem];try rfl) (by rfl)
  rw[ak (by decide)];by_cases q5:(x.it.length:Int)>256
  .rw[au (by omega)];simp only[go_sem,aK q5];exact aB [] (by simp only[go_sem];try rfl) (by rfl)
  rw[ak (by omega)];obtain⟨G,hG⟩:∃G,tx P (x.o::x.it)=G:=⟨_,rfl⟩
  rw[hG];have happ:=λys=>bq 50 59 1 1 lQ [x.o] ys rfl;have hlen:(x.o::x.it).length=1+x.it.length:=by rw[i0];omega
  simp only[eG,qF,iG]at happ;simp only[go_sem,aL q5,happ];refine⟨by omega,?_⟩;generalize hL:x.o::x.it=L at*;refine aq (λj:Nat=>⟨[(55,.int .i64 j),(54,.int .i64 ((1+x.it.length:Nat):Int)),(53,.ms 50 1 0 (1+x.it.length))],[(50,⟨59,1,L.map lQ,false⟩)]⟩) (λj=>j<=L.length/\G=tx P (L.drop j)) (λj=>L.length-j) 0 ⟨cm _,hG.symm⟩ (Wk.of ?_ ?_) ?_
  .simp only[go_sem];try simp
  .rw[<-hL];simp only[go_sem];try simp[iG]
  rintro j ⟨hj,hx⟩;by_cases h1:(j:Int)<((1+x.it.length:Nat):Int);rotate_left
  .rw[yg (by omega)]at hx;obtain rfl:G=(0,0):=hx;simp only[go_sem,aL h1];exact an
  have hj':j<L.length:=by omega
  have hj2:j<1+x.it.length:=by omega
  have e8:=ey hj' (by omega);rw[J8 hj']at hx;have cc:=eV hR hj';by_cases hz:(gh P (ac L j)).2=0;rotate_left
  .rw[au hz]at hx;subst hx;simp only[go_sem,aK h1,hj2,hlen];refine⟨by omega,?_⟩;refine ab (cc) ?_;simp only[go_sem,bj hz];exact an
  rw[ak (by simp[hz])]at hx;simp only[go_sem,aK h1,hj2,hlen];refine⟨by omega,?_⟩;refine ab (cc) ?_;simp only[go_sem,aI hz];refine aF (j+1) ⟨show j+1<=1+x.it.length by omega,hx⟩ (show 1+x.it.length-(j+1)<1+x.it.length-j by omega) (Wk.of ?_ ?_)
  .simp only[go_sem,e8];try simp
  .simp only[go_sem];try simp[iG]
 by_cases q4:x.tb=0;rotate_left
 .rw[au (.inr (.inr ⟨q3,.inl q4⟩))];simp only[go_sem,gZ,aL q1,aL q2,bj q3,bj q4];exact aB [] (by simp only[go_sem];try rfl) (by rfl)
 by_cases q6:(x.o.length:Int)>0
 .rw[au (.inr (.inr ⟨q3,.inr (by omega)⟩))];simp only[go_sem,gZ,aL q1,aL q2,bj q3,aI q4,aK q6];exact aB [] (by simp only[go_sem];try rfl) (by rfl)
 rw[ak (λq=>by rcases q with z|z|z;exact q1 z;exact q2 z;rcases z.2 with y|y;exact y q4;omega)];simp only[go_sem,gZ,aL q1,aL q2,bj q3,aI q4,aL q6];refine ab (c1) ?_;cases tC x.tb
 .simp only[go_sem];exact aB [] (by simp only[go_sem];try rfl) (by rfl)
 rw[ak (by decide)];simp only[go_sem];refine ab (c2) ?_;cases Ep x.ty
 .simp only[go_sem];exact aB [] (by simp only[go_sem];try rfl) (by rfl)
 rw[ak (by decide)];by_cases q5:(x.it.length:Int)>256
 .rw[au (by omega)];simp only[go_sem,aK q5];exact aB [] (by simp only[go_sem];try rfl) (by rfl)
 rw[ak (by omega)];obtain⟨G,hG⟩:∃G,tx P (x.o::x.it)=G:=⟨_,rfl⟩
 rw[hG];have happ:=λys=>bq 50 59 1 1 lQ [x.o] ys rfl;have hlen:(x.o::x.it).length=1+x.it.length:=by rw[i0];omega
 simp only[eG,qF,iG]at happ;simp only[go_sem,aL q5,happ];refine⟨by omega,?_⟩;generalize hL:x.o::x.it=L at*;refine aq (λj:Nat=>⟨[(55,.int .i64 j),(54,.int .i64 ((1+x.it.length:Nat):Int)),(53,.ms 50 1 0 (1+x.it.length))],[(50,⟨59,1,L.map lQ,false⟩)]⟩) (λj=>j<=L.length/\G=tx P (L.drop j)) (λj=>L.length-j) 0 ⟨cm _,hG.symm⟩ (Wk.of ?_ ?_) ?_
 .simp only[go_sem];try simp
 .rw[<-hL];simp only[go_sem];try simp[iG]
 rintro j ⟨hj,hx⟩;by_cases h1:(j:Int)<((1+x.it.length:Nat):Int);rotate_left
 .rw[yg (by omega)]at hx;obtain rfl:G=(0,0):=hx;simp only[go_sem,aL h1];exact an
 have hj':j<L.length:=by omega
 have hj2:j<1+x.it.length:=by omega
 have e8:=ey hj' (by omega);rw[J8 hj']at hx;have cc:=eV hR hj';by_cases hz:(gh P (ac L j)).2=0;rotate_left
 .rw[au hz]at hx;subst hx;simp only[go_sem,aK h1,hj2,hlen];refine⟨by omega,?_⟩;refine ab (cc) ?_;simp only[go_sem,bj hz];exact an
 rw[ak (by simp[hz])]at hx;simp only[go_sem,aK h1,hj2,hlen];refine⟨by omega,?_⟩;refine ab (cc) ?_;simp only[go_sem,aI hz];refine aF (j+1) ⟨show j+1<=1+x.it.length by omega,hx⟩ (show 1+x.it.length-(j+1)<1+x.it.length-j by omega) (Wk.of ?_ ?_)
 .simp only[go_sem,e8];try simp
 .simp only[go_sem];try simp[iG]
end
section
attribute[local go_sem] bZ dC dg df dA dc s8 fR fQ fv eX az
def k_1(i:Int)(x:Ft)(h:smF x):aj pg 54 [.int .i64 i,.agg (my x)] (.tup [.int .i64 0,.int .i64 (MS x)]):=by
 refine aC sF ?_;have c:=afk x h
 try simp only[dC,dg,df,dA,dc,fR,fv]at c
 simp only[go_sem,sF];refine aa (c) ?_;exact an
def k_2(i:Int)(x:Im):aj pg 57 [.int .i64 i,.agg (pw x)] (.tup [.int .i64 0,.int .i64 (M1 x)]):=by
 refine aC sG ?_;have c:=afl x
 try simp only[dC,dg,df,dA,dc,fR,fv]at c
 simp only[go_sem,sG];refine aa (c) ?_;exact an
def k_3(i:Int)(x:Cd)(h:U3 x):aj pg 60 [.int .i64 i,.agg (kM x)] (.tup [.int .i64 0,.int .i64 (P9 x)]):=by
 refine aC sH ?_;have c:=abO x h
 try simp only[dC,dg,df,dA,dc,fR,fv]at c
 simp only[go_sem,sH];refine aa (c) ?_;exact an
def k_4(i:Int)(x:Tb):aj pg 63 [.int .i64 i,.agg (rM x)] (.tup [.int .i64 0,.int .i64 (KA x)]):=by
 refine aC sJ ?_;have c:=M_ x
 try simp only[dC,dg,df,dA,dc,fR,fv]at c
 simp only[go_sem,sJ];refine aa (c) ?_;exact an
def k_5(i:Int)(x:Lm):aj pg 66 [.int .i64 i,.agg (j7 x)] (.tup [.int .i64 0,.int .i64 (Nc x)]):=by
 refine aC sK ?_;have c:=ZR x
 try simp only[dC,dg,df,dA,dc,fR,fv]at c
 simp only[go_sem,sK];refine aa (c) ?_;exact an
def k_7(i:Int)(x:Ex):aj pg 73 [.int .i64 i,.agg (vx x)] (.tup [.int .i64 0,.int .i64 (MN x)]):=by
 refine aC sM ?_;have c:=S8 x
 try simp only[dC,dg,df,dA,dc,fR,fv]at c
 simp only[go_sem,sM];refine aa (c) ?_;exact an
def ahS(i:Int)(x:Cu):aj pg 84 [.int .i64 i,.agg (yf x)] (.tup [.int .i64 0,.int .i64 (P_ x)]):=by
 refine aC qM ?_;have c:=S7 x
 try simp only[dC,dg,df,dA,dc,fR,fv]at c
 simp only[go_sem,qM];refine aa (c) ?_;exact an
def k_8(P:be->Bool)(i:Int)(x:El)(h:Y6 x)(hP:∀y,VC y->aj pg 187 [bn y] (.bool (P y))):aj pg 78 [.int .i64 i,.agg (eF x)] (.tup [.int .i64 (Rv P x).1,.int .i64 (Rv P x).2]):=by
 refine aC sN ?_;have c:=abS P x h hP
 try simp only[eX,fQ]at c
 simp only[go_sem,sN];refine aa (c) ?_;exact an
def k_9(P:be->Bool)(i:Int)(x:Da)(h:Y5 x)(hP:∀y,VC y->aj pg 187 [bn y] (.bool (P y))):aj pg 81 [.int .i64 i,.agg (iz x)] (.tup [.int .i64 (Rp P x).1,.int .i64 (Rp P x).2]):=by
 refine aC sO ?_;have c:=abR P x h λy hy=>hP y (h.1.2 y hy)
 try simp only[eX,fQ]at c
 simp only[go_sem,sO];refine aa (c) ?_;exact an
def ahT(P:be->Bool)(i:Int)(x:Cd)(h:U3 x)(hP:∀y,VC y->aj pg 187 [bn y] (.bool (P y))):aj pg 86 [.int .i64 i,.agg (kM x)] (.tup [.int .i64 (gh P x.b).1,.int .i64 (gh P x.b).2]):=by
 refine aC qN ?_;have c:=Jf P x.b h.2 λy hy=>hP y (h.2.2 y hy)
 try simp only[eX,fQ]at c
 simp only[go_sem,qN];refine aa (c) ?_;exact an
def WF(P:be->Bool)(x:Gd):Int×Int:=if Vv x.g≠0 then(0,Vv x.g)else gh P x.i
def k_6(P:be->Bool)(i:Int)(x:Gd)(h:adk x)(hP:∀y,VC y->aj pg 187 [bn y] (.bool (P y))):aj pg 69 [.int .i64 i,.agg (wF x)] (.tup [.int .i64 (WF P x).1,.int .i64 (WF P x).2]):=by
 refine aC sL ?_;have c:=S9 x.g;have d:=Jf P x.i h λy hy=>hP y (h.2 y hy);unfold WF;simp only[go_sem,sL];refine ab (c) ?_;by_cases q:Vv x.g=0
 .rw[ak (by simp[q])];simp only[go_sem,aI q];refine aa (d) ?_;exact an
 .rw[au q];simp only[go_sem,bj q];exact an
def vw(k:Int)(l:List Im):Nat:=(l.filter λx=>x.k==k).length
def aaV{k:Int}{l:List Im}{i:Nat}(h:i<l.length):vw k (l.take (i+1))=vw k (l.take i)+(if(ac l i).k=k then 1 else 0):=by
 unfold vw;rw[ads h,List.filter_append,cP];by_cases q:(ac l i).k=k<;>simp[q]
def Rh(k:Int)(l:List Im):vw k l<=l.length:=List.length_filter_le _ _
def ctO(m:Md)(i:Nat):ao:=⟨118,4,[[.int .i64 (vw 0 (m.ims.take i):Nat),.int .i64 (vw 1 (m.ims.take i):Nat),.int .i64 (vw 2 (m.ims.take i):Nat),.int .i64 (vw 3 (m.ims.take i):Nat)]],true⟩
end
section
def nY:Fa:=⟨0,0,0,0⟩
def Vy(m:Md):Fa:=fe 1 64 0 (m.ts.map (λx=>(0,MS x))) nY
def Xu(m:Md):Fa:=fe 2 32 0 (m.ims.map (λx=>(0,M1 x))) (Vy m)
def Xv(m:Md):Fa:=fe 3 64 (vw 0 m.ims:Nat) (m.fs.map (λx=>(0,P9 x))) (Xu m)
def Xw(m:Md):Fa:=fe 4 4 (vw 1 m.ims:Nat) (m.tbs.map (λx=>(0,KA x))) (Xv m)
def Xx(m:Md):Fa:=fe 5 2 (vw 2 m.ims:Nat) (m.ms.map (λx=>(0,Nc x))) (Xw m)
def Xy(P:be->Bool)(m:Md):Fa:=fe 6 32 (vw 3 m.ims:Nat) (m.gs.map (WF P)) (Xx m)
def Qa(P:be->Bool)(m:Md):Fa:=fe 7 64 0 (m.exs.map (λx=>(0,MN x))) (Xy P m)
def Ky(P:be->Bool)(m:Md):Fa:=if m.hs=true/\tC m.st=false then fS (Qa P m) 8 0 0 11 else Qa P m
def Xz(P:be->Bool)(m:Md):Fa:=fe 9 16 0 (m.els.map (Rv P)) (Ky P m)
def GZ(P:be->Bool)(m:Md):Fa:=fe 10 16 0 (m.ds.map (Rp P)) (Xz P m)
def xr(P:be->Bool)(m:Md):Fa:=fe 11 8 0 (m.cs.map (λx=>(0,P_ x))) (GZ P m)
def vy(P:be->Bool)(m:Md):Fa:=if(xr P m).c=0 then fe 12 (m.fs.length:Int) 0 (m.fs.map (λx=>gh P x.b)) (xr P m)else xr P m
attribute[local go_sem] bZ b_ dg ck ctO
def S_(P:be->Bool)(m:Md)(h:U4 m)(hP:∀y,VC y->aj pg 187 [bn y] (.bool (P y))):aj pg 22 [gy m] (.agg [.int .i64 (vy P m).p,.int .i64 (vy P m).i,.int .i64 (vy P m).l,.int .i64 (vy P m).c]):=by
 refine aC vZ ?_;have c1:CM 53 [.int .i64 1,.sl 2 (m.ts.map my),.int .i64 64,.int .i64 0,.fn 54 []] nY (Vy m):=Tg (by kernel_rfl) (λx=>(0,MS x)) m.ts (by have:=h.ts.1;omega) (λx hx i=>k_1 i x (h.ts.2 x hx)) 1 64 0 nY;have c2:CM 56 [.int .i64 2,.sl 13 (m.ims.map pw),.int .i64 32,.int .i64 0,.fn 57 []] (Vy m) (Xu m):=Ti (by kernel_rfl) (λx=>(0,M1 x)) m.ims (by have:=h.ims;omega) (λx hx i=>k_2 i x) 2 32 0 (Vy m);have c3:CM 59 [.int .i64 3,.sl 3 (m.fs.map kM),.int .i64 64,.int .i64 (vw 0 m.ims:Nat),.fn 60 []] (Xu m) (Xv m):=Jd (by kernel_rfl) (λx=>(0,P9 x)) m.fs (by have:=h.fs.1;omega) (λx hx i=>k_3 i x (h.fs.2 x hx)) 3 64 (vw 0 m.ims:Nat) (Xu m);have c4:CM 62 [.int .i64 4,.sl 4 (m.tbs.map rM),.int .i64 4,.int .i64 (vw 1 m.ims:Nat),.fn 63 []] (Xv m) (Xw m):=Tk (by kernel_rfl) (λx=>(0,KA x)) m.tbs (by have:=h.tbs;omega) (λx hx i=>k_4 i x) 4 4 (vw 1 m.ims:Nat) (Xv m);have c5:CM 65 [.int .i64 5,.sl 3 (m.ms.map j7),.int .i64 2,.int .i64 (vw 2 m.ims:Nat),.fn 66 []] (Xw m) (Xx m):=Tj (by kernel_rfl) (λx=>(0,Nc x)) m.ms (by have:=h.ms;omega) (λx hx i=>k_5 i x) 5 2 (vw 2 m.ims:Nat) (Xw m);have c6:CM 68 [.int .i64 6,.sl 3 (m.gs.map wF),.int .i64 32,.int .i64 (vw 3 m.ims:Nat),.fn 69 []] (Xx m) (Xy P m):=Th (by kernel_rfl) (WF P) m.gs (by have:=h.gs.1;omega) (λx hx i=>k_6 P i x (h.gs.2 x hx) hP) 6 32 (vw 3 m.ims:Nat) (Xx m);have c7:CM 72 [.int .i64 7,.sl 3 (m.exs.map vx),.int .i64 64,.int .i64 0,.fn 73 []] (Xy P m) (Qa P m):=Tf (by kernel_rfl) (λx=>(0,MN x)) m.exs (by have:=h.exs;omega) (λx hx i=>k_7 i x) 7 64 0 (Xy P m);have c9:CM 77 [.int .i64 9,.sl 5 (m.els.map eF),.int .i64 16,.int .i64 0,.fn 78 []] (Ky P m) (Xz P m):=Te (by kernel_rfl) (Rv P) m.els (by have:=h.els.1;omega) (λx hx i=>k_8 P i x (h.els.2 x hx) hP) 9 16 0 (Ky P m);have c10:CM 80 [.int .i64 10,.sl 4 (m.ds.map iz),.int .i64 16,.int .i64 0,.fn 81 []] (Xz P m) (GZ P m):=Td (by kernel_rfl) (Rp P) m.ds (by have:=h.ds.1;omega) (λx hx i=>k_9 P i x (h.ds.2 x hx) hP) 10 16 0 (Xz P m);have c11:CM 83 [.int .i64 11,.sl 3 (m.cs.map yf),.int .i64 8,.int .i64 0,.fn 84 []] (GZ P m) (xr P m):=Tc (by kernel_rfl) (λx=>(0,P_ x)) m.cs (by have:=h.cs.1;omega) (λx hx i=>ahS i x) 11 8 0 (GZ P m);have c8:=vk m.st;have c12:CM 59 [.int .i64 12,.sl 3 (m.fs.map kM),.int .i64 (m.fs.length:Int),.int .i64 0,.fn 86 []] (xr P m) (fe 12 (m.fs.length:Int) 0 (m.fs.map (λx=>gh P x.b)) (xr P m)):=Jd (by kernel_rfl) (λx=>gh P x.b) m.fs (by have:=h.fs.1;omega) (λx hx i=>ahT P i x (h.fs.2 x hx) hP) 12 (m.fs.length:Int) 0 (xr P m);simp only[go_sem,vZ,gy];refine aq (λj:Nat=>⟨[(13,.int .i64 j),(12,.int .i64 m.ims.length),(11,.sl 13 (m.ims.map pw)),(3,.mp 8 4 0 0),(4,.mp 4 4 0 0),(2,.mp 2 4 0 0),(1,.mp 1 12 0 0)],[(8,ck nY),(4,ctO m j),(2,⟨63,4,[[.int .i64 0,.int .i64 0,.int .i64 0,.int .i64 0]],true⟩),(1,⟨33,12,[vl m],true⟩)]⟩) (λj=>j<=m.ims.length) (λj=>m.ims.length-j) 0 (cm _) (Wk.of ?_ ?_) ?_
 .simp only[go_sem];try simp
 .simp only[go_sem,rI,vw,nY];try simp
 intro j hj;by_cases h1:(j:Int)<(m.ims.length:Int)
 .have hj':j<m.ims.length:=by omega
  have hil:=h.ims;have e8:=ey hj' (by omega);have t:=λk=>aaV (k:=k) hj';have hle:=λk=>m8 (Rh k (m.ims.take j)) (by rw[qD];omega:(m.ims.take j).length<=j);have w:=λk:Int=>(by have:=hle k;rw[wi (by omega) (by omega)];omega:IntKind.i64.wrap ((vw k (m.ims.take j):Int)+1)=((vw k (m.ims.take j)+1:Nat):Int))
  by_cases q0:(ac m.ims j).k=0
  .simp only[go_sem,aK h1,q0,show decide ((0:Int)>=0)=true from rfl,show decide ((0:Int)<=3)=true from rfl,xQ,B5,B7,Int.reduceToNat,Nat.reduceMul,Nat.reduceAdd];refine⟨by omega,h1,⟨by omega,by omega⟩,⟨by omega,by omega⟩,aF (j+1) (show j+1<=m.ims.length by omega) (show m.ims.length-(j+1)<m.ims.length-j by omega) (Wk.of ?_ ?_)⟩
   .simp only[go_sem,e8];try simp
   .simp only[go_sem];try simp[t,q0,w]
  by_cases q1:(ac m.ims j).k=1
  .simp only[go_sem,aK h1,q1,show decide ((1:Int)>=0)=true from rfl,show decide ((1:Int)<=3)=true from rfl,xQ,B5,B7,Int.reduceToNat,Nat.reduceMul,Nat.reduceAdd];refine⟨by omega,h1,⟨by omega,by omega⟩,⟨by omega,by omega⟩,aF (j+1) (show j+1<=m.ims.length by omega) (show m.ims.length-(j+1)<m.ims.length-j by omega) (Wk.of ?_ ?_)⟩
   .simp only[go_sem,e8];try simp
   .simp only[go_sem];try simp[t,q1,w]
  by_cases q2:(ac m.ims j).k=2
  .simp only[go_sem,aK h1,q2,show decide ((2:Int)>=0)=true from rfl,show decide ((2:Int)<=3)=true from rfl,xQ,B5,B7,Int.reduceToNat,Nat.reduceMul,Nat.reduceAdd];refine⟨by omega,h1,⟨by omega,by omega⟩,⟨by omega,by omega⟩,aF (j+1) (show j+1<=m.ims.length by omega) (show m.ims.length-(j+1)<m.ims.length-j by omega) (Wk.of ?_ ?_)⟩
   .simp only[go_sem,e8];try simp
   .simp only[go_sem];try simp[t,q2,w]
  by_cases q3:(ac m.ims j).k=3
  .simp only[go_sem,aK h1,q3,show decide ((3:Int)>=0)=true from rfl,show decide ((3:Int)<=3)=true from rfl,xQ,B5,B7,Int.reduceToNat,Nat.reduceMul,Nat.reduceAdd];refine⟨by omega,h1,⟨by omega,by omega⟩,⟨by omega,by omega⟩,aF (j+1) (show j+1<=m.ims.length by omega) (show m.ims.length-(j+1)<m.ims.length-j by omega) (Wk.of ?_ ?_)⟩
   .simp only[go_sem,e8];try simp
   .simp only[go_sem];try simp[t,q3,w]
  by_cases q5:(ac m.ims j).k>=0
  .simp only[go_sem,aK h1,aK q5,aL (show ¬(ac m.ims j).k<=3 by omega)];refine⟨by omega,h1,aF (j+1) (show j+1<=m.ims.length by omega) (show m.ims.length-(j+1)<m.ims.length-j by omega) (Wk.of ?_ ?_)⟩
   .simp only[go_sem,e8];try simp
   .simp only[go_sem];try simp[t,q0,q1,q2,q3]
  .simp only[go_sem,aK h1,aL q5];refine⟨by omega,h1,aF (j+1) (show j+1<=m.ims.length by omega) (show m.ims.length-(j+1)<m.ims.length-j by omega) (Wk.of ?_ ?_)⟩
   .simp only[go_sem,e8];try simp
   .simp only[go_sem];try simp[t,q0,q1,q2,q3]
 obtain rfl:j=m.ims.length:=by omega
 simp only[go_sem,aL h1,pJ];refine ae (c1) ?_;simp only[go_sem,xQ,B5,B7,Int.reduceToNat,Nat.reduceMul,Nat.reduceAdd];refine ae (c2) ?_;simp only[go_sem,xQ,B5,B7,Int.reduceToNat,Nat.reduceMul,Nat.reduceAdd];refine⟨⟨by omega,by omega⟩,?_⟩;refine ae (c3) ?_;simp only[go_sem,xQ,B5,B7,Int.reduceToNat,Nat.reduceMul,Nat.reduceAdd];refine⟨⟨by omega,by omega⟩,?_⟩;refine ae (c4) ?_;simp only[go_sem,xQ,B5,B7,Int.reduceToNat,Nat.reduceMul,Nat.reduceAdd];refine⟨⟨by omega,by omega⟩,?_⟩;refine ae (c5) ?_;simp only[go_sem,xQ,B5,B7,Int.reduceToNat,Nat.reduceMul,Nat.reduceAdd];refine⟨⟨by omega,by omega⟩,?_⟩;refine ae (c6) ?_;simp only[go_sem,xQ,B5,B7,Int.reduceToNat,Nat.reduceMul,Nat.reduceAdd];refine ae (c7) ?_;simp only[go_sem,xQ,B5,B7,Int.reduceToNat,Nat.reduceMul,Nat.reduceAdd];cases hh:m.hs
 .rw[show Ky P m=Qa P m by unfold Ky;rw[hh,ak (by simp)]]at c9;simp only[go_sem,hh];refine aE (c9) ?_;refine aE (c10) ?_;refine aE (c11) ?_;unfold vy;by_cases z:(xr P m).c=0
  .rw[au z];simp only[go_sem,dt z];refine aE (c12) ?_;exact an
  .rw[ak z];simp only[go_sem,aA z];exact an
 simp only[go_sem,hh];refine ab (c8) ?_;cases hi:tC m.st
 .have cf:=Li (Qa P m) 8 0 0 11;rw[show fS (Qa P m) 8 0 0 11=Ky P m by unfold Ky;rw[hh,hi,au ⟨rfl,rfl⟩]]at cf;simp only[go_sem];refine aE (cf) ?_;refine aE (c9) ?_;refine aE (c10) ?_;refine aE (c11) ?_;unfold vy;by_cases z:(xr P m).c=0
  .rw[au z];simp only[go_sem,dt z];refine aE (c12) ?_;exact an
  .rw[ak z];simp only[go_sem,aA z];exact an
 .rw[show Ky P m=Qa P m by unfold Ky;rw[hi,ak (by simp)]]at c9;simp only[go_sem];refine aE (c9) ?_;refine aE (c10) ?_;refine aE (c11) ?_;unfold vy;by_cases z:(xr P m).c=0
  .rw[au z];simp only[go_sem,dt z];refine aE (c12) ?_;exact an
  .rw[ak z];simp only[go_sem,aA z];exact an
end
section
def Kx(F:Fa):AV:=.agg [.int .i64 F.p,.int .i64 F.i,.int .i64 F.l,.int .i64 F.c]
def zF(p i e:Int):Fa:=if e=0 then nY else⟨p,i,0,e⟩
def Db(p n most:Int):Fa:=if n>most then⟨p,if most<0 then 0 else most,0,6⟩else nY
attribute[local go_sem] bZ b_ dg dw az Kx
def Qg(P:be->Bool)(p i:Int)(l:List be):Fa:=if(gh P l).2=0 then nY else⟨p,i,(gh P l).1,(gh P l).2⟩
end
section
attribute[local go_sem] bZ b_ dg dA dc
def af8(t:Int):aj pg 220 [.int .i64 t] (.bool (Ep t)):=by
 refine aC uk ?_;unfold Ep;cases h:(t==3)
 .simp only[go_sem,uk,h];exact aB [] (by simp only[go_sem,eH]) (by first|rfl|simp[go_sem,bU])
 .simp only[go_sem,uk,h];exact aB [] (by simp only[go_sem,eC]) (by first|rfl|simp[go_sem,bU])
end
section
def K1(F:Fa):ao:=⟨63,4,[[.int .i64 F.p,.int .i64 F.i,.int .i64 F.l,.int .i64 F.c]],true⟩
def gr{α:Type}(g:Nat->α->Fa):Nat->List α->Fa->Fa
 | _,[],F=>F
 | i,x::l,F=>if F.c≠0 then F else gr g (i+1) l (g i x)
def ahW{p n most:Int}(h:(Db p n most).c=0):Db p n most=nY:=by
 unfold Db at h⊢;split at h
 .cases h
 .rename_i q;rw[ak q]
def Q_{p i e:Int}(h:(zF p i e).c=0):zF p i e=nY:=by
 unfold zF at h⊢;split at h
 .rename_i q;rw[au q]
 .rename_i q;exact absurd h q
def tyF(m:Md):Fa:=gr (λi x=>zF 1 i (MS x)) 0 m.ts (Db 1 m.ts.length 64)
attribute[local go_sem] bZ b_ dC dg dA dc Kx K1
end
section
attribute[local go_sem] bZ b_ dC dg dA dc Kx K1
end
section
def mmF(m:Md):Fa:=gr (λi x=>zF 5 i (Nc x)) 0 m.ms (Db 5 m.ms.length (2-(vw 2 m.ims:Nat)))
attribute[local go_sem] bZ b_ dC dg dA dc Kx K1
end
section
def tbF(m:Md):Fa:=gr (λi x=>zF 4 i (KA x)) 0 m.tbs (Db 4 m.tbs.length (4-(vw 1 m.ims:Nat)))
attribute[local go_sem] bZ b_ dC dg dA dc Kx K1
end
section
def cdF(m:Md):Fa:=gr (λi x=>zF 3 i (P9 x)) 0 m.fs (Db 3 m.fs.length (64-(vw 0 m.ims:Nat)))
attribute[local go_sem] bZ b_ dC dg dA dc df Kx K1
