import Derived.Test.YtijcmjncppkpiaaGreatDoorCQg
import Derived.Shelf.Abstract
import Derived.OwnWalkIn
import Derived.TacticsInMore
import Derived.LoopNIn
import Derived.LoopIn
set_option linter.all false
set_option maxRecDepth 100000
set_option maxHeartbeats 40000000
namespace Go.Proofs.YtijcmjncppkpiaaGreatDoor
section
open Go Go.Mw
def nuB(t:Int):Bool:=(t==1)||(t==2)
def U4(t:Int):Bool:=(t==3)||(t==4)
def CU(t:Int):Bool:=nuB t||U4 t
def lmB(l:Lm)(most:Int):Bool:=if l.mn<0\/l.mn>most then false else if l.hs=false then l.mx==0 else decide (l.mn<=l.mx)&&decide (l.mx<=most)
def xP(l:List Int):Bool:=l.all CU
def Ke(s:List UInt8):Int:=if s.length>64 then 6 else if uv s=false then 9 else 0
def SH(x:Ft):Int:=if x.ps.length>8\/x.rs.length>8 then 6 else if xP x.ps=false\/xP x.rs=false then 12 else 0
def Z0(x:Tb):Int:=if U4 x.e=false then 12 else if lmB x.l 1024=false then 20 else 0
def YK(l:Lm):Int:=if lmB l 256=false then 20 else 0
def glE(g:Gl):Int:=if CU g.v=false then 12 else 0
def Fk(P:a_->Bool):Nat->List a_->Int×Int
 | _,[]=>(0,0)
 | i,x::r=>if P x=false then((i:Int),10)else if x.lb.length>64 then((i:Int),6)else Fk P (i+1) r
def li(P:a_->Bool)(l:List a_):Int×Int:=if l.length>2048 then(2048,6)else Fk P 0 l
attribute[local go_sem] bP aU cC bT
def abU(t:Int):ah pg G0 [.int .i64 t] (.bool (nuB t)):=by
 refine au rC ?_;unfold nuB;cases h:(t==1)
 .simp only[go_sem,rC,h];exact aE [] (by simp only[go_sem,x7]) (by first|rfl|simp[go_sem,bv])
 .simp only[go_sem,rC,h];exact aE [] (by simp only[go_sem,B5]) (by first|rfl|simp[go_sem,bv])
def PK(t:Int):ah pg G1 [.int .i64 t] (.bool (U4 t)):=by
 refine au rD ?_;unfold U4;cases h:(t==3)
 .simp only[go_sem,rD,h];exact aE [] (by simp only[go_sem,x7]) (by first|rfl|simp[go_sem,bv])
 .simp only[go_sem,rD,h];exact aE [] (by simp only[go_sem,B5]) (by first|rfl|simp[go_sem,bv])
def PM(t:Int):ah pg G2 [.int .i64 t] (.bool (CU t)):=by
 refine au zc ?_;have c1:=abU t;have c2:=PK t;unfold CU;simp only[go_sem,zc];refine ak (c1) ?_;cases nuB t
 .simp only[go_sem];refine aa (c2) ?_;exact aE [] (by simp only[go_sem,x7]) (by first|rfl|simp[go_sem,bv])
 .simp only[go_sem];exact aE [] (by simp only[go_sem,B5]) (by first|rfl|simp[go_sem,bv])
def Ua(t:Int):ah pg iK [.int .i64 t] (.bool (!CU t)):=by
 refine au um ?_;simp only[go_sem,um];refine aa (PM t) ?_;exact ac
def abT(l:List Int)(hl:l.length<=9223372036854775807):∃r:Int,ah pg dM [.sl 1 (l.map bg),.fn iK []] (.int .i64 r)/\(xP l=true->r = -1)/\(xP l=false->0<=r):=by
 have key:∀r:Int,(∀i:Nat,i<=l.length->(∀k,k<i->CU (ap l k)=true)->(i<l.length->CU (ap l i)=false->r=i)/\(i=l.length->r = -1))->ah pg dM [.sl 1 (l.map bg),.fn iK []] (.int .i64 r):=λr hr=>by
  refine au dJ ?_;simp only[go_sem,dJ];refine ao (λj:Nat=>⟨[(8,.int .i64 j),(7,.int .i64 l.length),(0,.sl 1 (l.map bg)),(1,.fn iK [])],[]⟩) (λj=>j<=l.length/\∀k,k<j->CU (ap l k)=true) (λj=>l.length-j) 0 ⟨cR _,λk hk=>by omega⟩ (Wk.of ?_ ?_) ?_
  .simp only[go_sem];try simp
  .simp only[go_sem]
  rintro j ⟨hj,hx⟩;obtain⟨r1,r2⟩:=hr j hj hx;by_cases h1:(j:Int)<(l.length:Int)
  .have hj':j<l.length:=by omega
   have e8:=cA hj' (by omega);have cc:=Ua (ap l j);cases hb:CU (ap l j)
   .rw[hb]at cc;rw[r1 hj' hb];simp only[go_sem,aw h1];refine⟨by omega,h1,?_⟩;refine⟨by kernel_rfl,?_⟩;refine aa (cc) ?_;exact ac
   .rw[hb]at cc;simp only[go_sem,aw h1];refine⟨by omega,h1,?_⟩;refine⟨by kernel_rfl,?_⟩;refine aa (cc) ?_;refine ay (j+1) ⟨show j+1<=l.length by omega,λk hk=>?_⟩ (show l.length-(j+1)<l.length-j by omega) (Wk.of ?_ ?_)
    .rcases eJ k j with h|h
     .exact hx k h
     .rw[show k=j by omega];exact hb
    .simp only[go_sem,e8];try simp
    .simp only[go_sem]
  .rw[r2 (by omega)];simp only[go_sem,aC h1];exact ac
 have fnd:(∀k,k<l.length->CU (ap l k)=true)\/∃j,j<l.length/\CU (ap l j)=false/\∀k,k<j->CU (ap l k)=true:=by
  have aux:∀n,n<=l.length->(∀k,k<n->CU (ap l k)=true)\/∃j,j<l.length/\CU (ap l j)=false/\∀k,k<j->CU (ap l k)=true:=λn=>by
   induction n with
   | zero=>exact λ_=>.inl λk hk=>by omega
   | succ n ih =>
    intro hn;rcases ih (by omega)with h|h
    .cases hb:CU (ap l n)
     .exact .inr ⟨n,by omega,hb,h⟩
     .refine .inl λk hk=>?_;rcases eJ k n with q|q
      .exact h k q
      .rw[show k=n by omega];exact hb
    .exact .inr h
  exact aux l.length (aN _)
 have all_t:(∀k,k<l.length->CU (ap l k)=true)->xP l=true:=λh=>by
  unfold xP;rw[f_];intro x hx;obtain⟨i,hi,rfl⟩:=List.getElem_of_mem hx;have:=h i hi;rwa[aV hi]at this
 rcases fnd with h|⟨j,hj,hb,h⟩
 .refine⟨-1,key (-1) λi hi hk=>⟨λq qb=>?_,λ_=>rfl⟩,λ_=>rfl,λq=>?_⟩
  .rw[h i q]at qb;cases qb
  .rw[all_t h]at q;cases q
 .refine⟨(j:Int),key (j:Int) λi hi hk=>⟨λq qb=>?_,λq=>?_⟩,λq=>?_,λ_=>by omega⟩
  .rcases eJ i j with z|z
   .rw[h i z]at qb;cases qb
   .rcases eJ j i with z2|z2
    .rw[hk j z2]at hb;cases hb
    .rw[show i=j by omega]
  .rw[hk j (by omega)]at hb;cases hb
  .unfold xP at q;rw[f_]at q;have:=q _ (gO hj);rw[aV hj]at hb;rw[hb]at this;cases this
def YD(l:List Int)(hl:l.length<=9223372036854775807):ah pg gH [.sl 1 (l.map bg),.fn iK []] (.bool (!xP l)):=by
 obtain⟨r,hr,h1,h2⟩:=abT l hl;refine au b_ ?_;cases hb:xP l
 .simp only[go_sem,b_];refine ak (hr) ?_;simp only[go_sem,aw (show r>=0 from h2 hb)];exact aE [] (by simp only[go_sem,dH]) (by first|rfl|simp[go_sem,bv])
 .simp only[go_sem,b_];refine ak (hr) ?_;simp only[go_sem,aC (show ¬r>=0 by rw[h1 hb];decide)];exact aE [] (by simp only[go_sem,di]) (by first|rfl|simp[go_sem,bv])
def Ew(l:List Int)(hl:l.length<=9223372036854775807):ah pg GR [.sl 1 (l.map bg)] (.bool (xP l)):=by
 refine au yY ?_;simp only[go_sem,yY];refine ak (YD l hl) ?_;simp only[go_sem,Bool.not_not];exact ac
def sR(i:Int):ah pg ED [.int .i64 i] (.bool (En i)):=by
 refine au pu ?_;unfold En;by_cases h:(0:Int)<=i
 .simp only[go_sem,pu,aw (show i>=0 from h)];exact aE [] (by simp only[go_sem,aw h,gp]) (by first|rfl|simp[go_sem,bv])
 .simp only[go_sem,pu,aC (show ¬i>=0 from h)];exact aE [] (by simp only[go_sem,aC h,gX]) (by first|rfl|simp[go_sem,bv])
def abR(x:Ft)(h:smF x):ah pg zI [.agg (kz x)] (.int .i64 (SH x)):=by
 refine au iQ ?_;have c1:=Ew x.ps (by have:=h.1;omega);have c2:=Ew x.rs (by have:=h.2;omega);unfold SH;by_cases q1:(x.ps.length:Int)>8
 .rw[aF (.inl (by omega))];simp only[go_sem,iQ,aw q1];exact ac
 by_cases q2:(x.rs.length:Int)>8
 .rw[aF (.inr (by omega))];simp only[go_sem,iQ,aC q1,aw q2];exact ac
 rw[ax (by omega)];simp only[go_sem,iQ,aC q1,aC q2];refine ak (c1) ?_;cases xP x.ps
 .simp only[go_sem];exact aE [] (by simp only[go_sem];try rfl) (by rfl)
 simp only[go_sem];refine ak (c2) ?_;cases xP x.rs
 .simp only[go_sem];exact aE [] (by simp only[go_sem];try rfl) (by rfl)
 .simp only[go_sem];exact aE [] (by simp only[go_sem];try rfl) (by rfl)
end
section
open Go Go.Mw
structure Fa where
 p:Int
 i:Int
 l:Int
 c:Int
def ck(F:Fa):aj:=⟨217,4,[[.int .i64 F.p,.int .i64 F.i,.int .i64 F.l,.int .i64 F.c]],true⟩
def lU(F:Fa)(p i l e:Int):Fa:=if F.c=0/\e≠0 then⟨p,i,l,e⟩else F
def CM(f:FuncId)(rest:List AV)(F F':Fa):Prop:=aZ pg f (.mp 1000 4 0 0::rest) [(1000,ck F)] (λid=>1000<=id/\id<2000) (λr' σ'=>r' = .tup []/\σ'=[(1000,ck F')])
attribute[local go_sem] bP ck aU cQ cj bT cC gC df fa dA dn ez bH
def IC(F:Fa)(p i l e:Int):CM i8 [.int .i64 p,.int .i64 i,.int .i64 l,.int .i64 e] F (lU F p i l e):=by
 refine dj fE ?_;unfold lU;by_cases h1:F.c=0
 .by_cases h2:e=0
  .rw[ax (by simp[h2])];simp only[go_sem,fE,aK h1,ar h2];exact wP [] _ [(1000,ck F)] ⟨rfl,rfl⟩
  .rw[aF ⟨h1,h2⟩];simp only[go_sem,fE,aK h1,aG h2];exact wP [] _ [(1000,ck ⟨p,i,l,e⟩)] ⟨rfl,rfl⟩
 .rw[ax (λq=>h1 q.1)];simp only[go_sem,fE,ab h1];exact wP [] _ [(1000,ck F)] ⟨rfl,rfl⟩
def E5{α β:Type}[Inhabited α][Inhabited β]{f:α->β}{l:List α}{i:Nat}(h:i<l.length):ap (l.map f) i=f (ap l i):=by
 rw[aV (by simpa using h),aV h,List.getElem_map]
def kH(n:Int):Nat->List (Int×Int)->Fa->Fa
 | _,[],F=>F
 | i,r::l,F=>if F.c≠0 then F else kH n (i+1) l (lU F n i r.1 r.2)
def fg(n most imp:Int)(res:List (Int×Int))(F:Fa):Fa :=
 kH n 0 res (if IntKind.i64.wrap ((res.length:Int)+imp)>most then lU F n (if 0<IntKind.i64.wrap (most-imp)then IntKind.i64.wrap (most-imp)else 0) 0 6 else F)
def Ok{n:Int}{l:List (Int×Int)}{i:Nat}(h:i<l.length)(F:Fa)(hF:F.c=0):kH n i (l.drop i) F=kH n (i+1) (l.drop (i+1)) (lU F n i (ap l i).1 (ap l i).2):=by
 rw[cH h,kH,ax (by simp[hF])]
def XZ{n:Int}{l:List (Int×Int)}{i:Nat}(F:Fa)(hF:F.c≠0):kH n i l F=F:=by
 cases l with
 | nil=>rfl
 | cons r l=>rw[kH,aF hF]
def abA{f:FuncId}(h:bM pg f=true):f<4000000:=Iq (by kernel_rfl) h
def ptB(t st:Nat)(z:List AV):bF :=
 (.seq (.seq (.reg [mv 16 2,
 o0 17 (.len (.s 16)),
 mv 18 4,
 o0 19 (.bin .add (.s 17) (.s 18)),
 mv 20 3,
 o0 21 (.bin .gtr (.s 19) (.s 20))] [16,17,18,19,20])
 (.cond (.s 21)
 (.reg [mv 22 0,
 mv 23 1,
 mv 24 3,
 mv 25 4,
 o0 26 (.bin .sub (.s 24) (.s 25)),
 o0 27 (.mnx true (.c (.int .i64 0)) (.s 26)),
 o0 28 (.call i8 [(.s 22),(.s 23),(.s 27),(.c (.int .i64 0)),(.c (.int .i64 6))])] [22,23,24,25,26,27,28])
 .skip))
 (.seq (.reg [mv 29 2,
 o0 30 (.len (.s 29)),
 o0 31 (.mov (.c (.int .i64 0)))] [])
 (.block 0 (.loop (.seq (.reg [o0 32 (.bin .lss (.s 31) (.s 30))] [])
 (.seq (.cond (.s 32)
 .skip
 (.exit 0))
 (.seq (.block 1 (.seq (.reg [mv 33 31,
 o0 34 (.iadr st (.s 29) (.s 31)),
 o0 35 (.load (some st) (.s 34)),
 o0 13 (.new t z),
 mv 12 33,
 ⟨none,.store st (.s 13) (.s 35),none⟩] [33,34,35])
 (.seq (.seq (.reg [mv 36 0,
 o0 37 (.nchk (.s 36)),
 o0 38 (.fadr 0 (.s 37)),
 o0 39 (.fadr 3 (.s 38)),
 o0 40 (.load none (.s 39)),
 o0 41 (.bin .neq (.s 40) (.c (.int .i64 0)))] [36,37,38,39,40])
 (.cond (.s 41)
 .ret
 .skip))
 (.seq (.reg [mv 43 5,
 mv 44 12,
 o0 45 (.load (some st) (.s 13)),
 o0 46 (.callv (.s 43) [(.s 44),(.s 45)]),
 mv 42 46,
 o0 47 (.ext (.s 42) 0),
 o0 48 (.ext (.s 42) 1),
 mv 14 47,
 mv 15 48] [43,44,45,46,42,47,48])
 (.reg [mv 49 0,
 mv 50 1,
 mv 51 12,
 mv 52 14,
 mv 53 15,
 o0 54 (.call i8 [(.s 49),(.s 50),(.s 51),(.s 52),(.s 53)])] [49,50,51,52,53,54])))))
 (.reg [o0 55 (.bin .add (.s 31) (.c (.int .i64 1))),
 mv 31 55] [55]))))))))
def og{α:Type}[Inhabited α]{m t st:Nat}{z:List AV}{c:α->List AV}(hc:qm pg m=some ⟨56,6,[],ptB t st z⟩)(hz:z.length=st)(hr:∀x,adm st (c x)){f:FuncId}(hb:bM pg f=true)(g:α->Int×Int)(a:List α)(ha:a.length<=9223372036854775807)
  (hf:∀x∈a,∀i:Int,ah pg f [.int .i64 i,.agg (c x)] (.tup [.int .i64 (g x).1,.int .i64 (g x).2])) (n most imp:Int) (F:Fa) :
  CM m [.int .i64 n,.sl st (a.map c),.int .i64 most,.int .i64 imp,.fn f []] F (fg n most imp (a.map g) F):=by
 refine kB (ic:=ptB t st z) nR hc rfl rfl ?_;obtain⟨G,hG⟩:∃G,fg n most imp (a.map g) F=G:=⟨_,rfl⟩
 rw[hG];unfold fg at hG;rw[bP]at hG;subst hz;have q1:∀x,ww (some z.length) (c x)=some (.agg (c x)):=λx=>TU (hr x).1;have q2:∀x,DN 13 z.length z.length 0 0 (some ⟨t,z.length,[z],true⟩) (some (c x))=some (.put 13 ⟨t,z.length,[c x],true⟩):=λx=>Vq rfl (hr x).1;have q3:∀x i,(c x).any (mC i)=false:=λx i=>(hr x).2.1 i;by_cases hw:IntKind.i64.wrap ((a.length:Int)+imp)>most;rw[aF hw]at hG;simp only[go_sem,ptB,aw hw];refine dT (IC F n (if 0<IntKind.i64.wrap (most-imp)then IntKind.i64.wrap (most-imp)else 0) 0 6) ?_;generalize lU F n (if 0<IntKind.i64.wrap (most-imp)then IntKind.i64.wrap (most-imp)else 0) 0 6=F0 at hG⊢;rotate_left;rw[ax hw]at hG;simp only[go_sem,ptB,aC hw];generalize F=F0 at hG⊢
 all_goals
  refine ao (λq:Nat×Fa=>⟨[(31,.int .i64 q.1),(30,.int .i64 a.length),(29,.sl z.length (a.map c)),(0,.mp 1000 4 0 0),(1,.int .i64 n),(5,.fn f [])],[(1000,ck q.2)]⟩) (λq=>q.1<=a.length/\G=kH n q.1 ((a.map g).drop q.1) q.2) (λq=>a.length-q.1) (0,F0) ⟨cR _,hG.symm⟩ (Wk.of ?_ ?_) ?_
  .simp only[go_sem];try simp
  .simp only[go_sem]
  rintro⟨j,E⟩ ⟨hj,hx⟩;simp only at hj hx;by_cases h1:(j:Int)<(a.length:Int);rotate_left
  .rw[cu (by rw[bP];omega)]at hx;obtain rfl:G=E:=hx;simp only[go_sem,aC h1];exact wP [] _ [(1000,ck G)] ⟨rfl,rfl⟩
  have hj':j<a.length:=by omega
  have e8:=cA hj' (by omega);have cc:=jj hf hj' (j:Int);by_cases hE:E.c=0;rotate_left
  .rw[XZ E hE]at hx;obtain rfl:G=E:=hx;simp only[go_sem,aw h1,aG hE,q1,q2,q3];refine⟨by omega,h1,?_⟩;exact aM [] (.tup []) [(1000,ck G)] ⟨rfl,rfl⟩
  rw[Ok (by rw[bP];exact hj') E hE,E5 hj']at hx;simp only[go_sem,aw h1,ar hE,q1,q2,q3];refine⟨by omega,h1,?_⟩;rw[aF (abA hb)];refine⟨hb,?_⟩;refine yg cc (λx hx=>?_) ?_
  .rcases bp.1 hx with rfl|hx
   .rfl
   .rcases bp.1 hx with rfl|hx
    .exact(hr _).2.2
    .cases hx
  simp only[go_sem];refine dT (IC E n j (g (ap a j)).1 (g (ap a j)).2) ?_;refine ay (j+1,lU E n j (g (ap a j)).1 (g (ap a j)).2) ⟨show j+1<=a.length by omega,hx⟩ (show a.length-(j+1)<a.length-j by omega) (Wk.of ?_ ?_)
  .simp only[go_sem,e8];try simp
  .simp only[go_sem]
def PF{f:FuncId}(hb:bM pg f=true)(g:Ft->Int×Int)(a:List Ft)(ha:a.length<=9223372036854775807)(hf:∀x∈a,∀i:Int,ah pg f [.int .i64 i,.agg (kz x)] (.tup [.int .i64 (g x).1,.int .i64 (g x).2]))(n most imp:Int)(F:Fa) :
  CM lg [.int .i64 n,.sl 2 (a.map kz),.int .i64 most,.int .i64 imp,.fn f []] F (fg n most imp (a.map g) F):=og (cF rk) rfl (λ_=>⟨rfl,λ_=>rfl,rfl⟩) hb g a ha hf n most imp F
def PH{f:FuncId}(hb:bM pg f=true)(g:Im->Int×Int)(a:List Im)(ha:a.length<=9223372036854775807)(hf:∀x∈a,∀i:Int,ah pg f [.int .i64 i,.agg (Ae x)] (.tup [.int .i64 (g x).1,.int .i64 (g x).2]))(n most imp:Int)(F:Fa) :
  CM jO [.int .i64 n,.sl 13 (a.map Ae),.int .i64 most,.int .i64 imp,.fn f []] F (fg n most imp (a.map g) F):=og (cF py) rfl (λ_=>⟨rfl,λ_=>rfl,rfl⟩) hb g a ha hf n most imp F
def GE{f:FuncId}(hb:bM pg f=true)(g:Cd->Int×Int)(a:List Cd)(ha:a.length<=9223372036854775807)(hf:∀x∈a,∀i:Int,ah pg f [.int .i64 i,.agg (pt x)] (.tup [.int .i64 (g x).1,.int .i64 (g x).2]))(n most imp:Int)(F:Fa) :
  CM gG [.int .i64 n,.sl 3 (a.map pt),.int .i64 most,.int .i64 imp,.fn f []] F (fg n most imp (a.map g) F):=og (cF rg) rfl (λ_=>⟨rfl,λ_=>rfl,rfl⟩) hb g a ha hf n most imp F
def PJ{f:FuncId}(hb:bM pg f=true)(g:Tb->Int×Int)(a:List Tb)(ha:a.length<=9223372036854775807)(hf:∀x∈a,∀i:Int,ah pg f [.int .i64 i,.agg (ya x)] (.tup [.int .i64 (g x).1,.int .i64 (g x).2]))(n most imp:Int)(F:Fa) :
  CM kf [.int .i64 n,.sl 4 (a.map ya),.int .i64 most,.int .i64 imp,.fn f []] F (fg n most imp (a.map g) F):=og (cF qM) rfl (λ_=>⟨rfl,λ_=>rfl,rfl⟩) hb g a ha hf n most imp F
def PI{f:FuncId}(hb:bM pg f=true)(g:Lm->Int×Int)(a:List Lm)(ha:a.length<=9223372036854775807)(hf:∀x∈a,∀i:Int,ah pg f [.int .i64 i,.agg (w_ x)] (.tup [.int .i64 (g x).1,.int .i64 (g x).2]))(n most imp:Int)(F:Fa) :
  CM jP [.int .i64 n,.sl 3 (a.map w_),.int .i64 most,.int .i64 imp,.fn f []] F (fg n most imp (a.map g) F):=og (cF pz) rfl (λ_=>⟨rfl,λ_=>rfl,rfl⟩) hb g a ha hf n most imp F
def PG{f:FuncId}(hb:bM pg f=true)(g:Gd->Int×Int)(a:List Gd)(ha:a.length<=9223372036854775807)(hf:∀x∈a,∀i:Int,ah pg f [.int .i64 i,.agg (zk x)] (.tup [.int .i64 (g x).1,.int .i64 (g x).2]))(n most imp:Int)(F:Fa) :
  CM ib [.int .i64 n,.sl 3 (a.map zk),.int .i64 most,.int .i64 imp,.fn f []] F (fg n most imp (a.map g) F):=og (cF nw) rfl (λ_=>⟨rfl,λ_=>rfl,rfl⟩) hb g a ha hf n most imp F
def PE{f:FuncId}(hb:bM pg f=true)(g:Ex->Int×Int)(a:List Ex)(ha:a.length<=9223372036854775807)(hf:∀x∈a,∀i:Int,ah pg f [.int .i64 i,.agg (x_ x)] (.tup [.int .i64 (g x).1,.int .i64 (g x).2]))(n most imp:Int)(F:Fa) :
  CM jN [.int .i64 n,.sl 3 (a.map x_),.int .i64 most,.int .i64 imp,.fn f []] F (fg n most imp (a.map g) F):=og (cF px) rfl (λ_=>⟨rfl,λ_=>rfl,rfl⟩) hb g a ha hf n most imp F
def PD{f:FuncId}(hb:bM pg f=true)(g:El->Int×Int)(a:List El)(ha:a.length<=9223372036854775807)(hf:∀x∈a,∀i:Int,ah pg f [.int .i64 i,.agg (rK x)] (.tup [.int .i64 (g x).1,.int .i64 (g x).2]))(n most imp:Int)(F:Fa) :
  CM lc [.int .i64 n,.sl 5 (a.map rK),.int .i64 most,.int .i64 imp,.fn f []] F (fg n most imp (a.map g) F):=og (cF rj) rfl (λ_=>⟨rfl,λ_=>rfl,rfl⟩) hb g a ha hf n most imp F
def PC{f:FuncId}(hb:bM pg f=true)(g:Da->Int×Int)(a:List Da)(ha:a.length<=9223372036854775807)(hf:∀x∈a,∀i:Int,ah pg f [.int .i64 i,.agg (z_ x)] (.tup [.int .i64 (g x).1,.int .i64 (g x).2]))(n most imp:Int)(F:Fa) :
  CM k_ [.int .i64 n,.sl 4 (a.map z_),.int .i64 most,.int .i64 imp,.fn f []] F (fg n most imp (a.map g) F):=og (cF rh) rfl (λ_=>⟨rfl,λ_=>rfl,rfl⟩) hb g a ha hf n most imp F
def PB{f:FuncId}(hb:bM pg f=true)(g:Cu->Int×Int)(a:List Cu)(ha:a.length<=9223372036854775807)(hf:∀x∈a,∀i:Int,ah pg f [.int .i64 i,.agg (wO x)] (.tup [.int .i64 (g x).1,.int .i64 (g x).2]))(n most imp:Int)(F:Fa) :
  CM jM [.int .i64 n,.sl 3 (a.map wO),.int .i64 most,.int .i64 imp,.fn f []] F (fg n most imp (a.map g) F):=og (cF pw) rfl (λ_=>⟨rfl,λ_=>rfl,rfl⟩) hb g a ha hf n most imp F
end
section
open Go Go.Mw
attribute[local go_sem] bP aU cQ cj bT cC gC df fa dA dn dt bH
def PA(l:Lm)(most:Int):ah pg Bt [.agg (w_ l),.int .i64 most] (.bool (lmB l most)):=by
 refine au eW ?_;unfold lmB;by_cases q1:l.mn<0
 .rw[aF (.inl q1)];simp only[go_sem,eW,aw q1];exact ac
 by_cases q2:l.mn>most
 .rw[aF (.inr q2)];simp only[go_sem,eW,aC q1,aw q2];exact ac
 rw[ax (by omega)];cases hh:l.hs
 .rw[aF rfl];simp only[go_sem,eW,aC q1,aC q2,hh];exact ac
 .rw[ax (by decide)];by_cases q3:l.mn<=l.mx
  .simp only[go_sem,eW,aC q1,aC q2,hh,aw q3];exact aE [] (by simp only[go_sem,gp]) (by first|rfl|simp[go_sem,bv])
  .simp only[go_sem,eW,aC q1,aC q2,hh,aC q3];exact aE [] (by simp only[go_sem,gX]) (by first|rfl|simp[go_sem,bv])
def J7(x:Tb):ah pg EE [.agg (ya x)] (.int .i64 (Z0 x)):=by
 refine au wA ?_;have c1:=PK x.e;have c2:=PA x.l 1024;unfold Z0;simp only[go_sem,wA];refine ak (c1) ?_;cases U4 x.e
 .simp only[go_sem];exact aE [] (by simp only[go_sem];try rfl) (by rfl)
 .simp only[go_sem];refine ak (c2) ?_;cases lmB x.l 1024
  .simp only[go_sem];exact aE [] (by simp only[go_sem];try rfl) (by rfl)
  .simp only[go_sem];exact aE [] (by simp only[go_sem];try rfl) (by rfl)
def Wd(l:Lm):ah pg Cq [.agg (w_ l)] (.int .i64 (YK l)):=by
 refine au ul ?_;have c2:=PA l 256;unfold YK;simp only[go_sem,ul];refine ak (c2) ?_;cases lmB l 256
 .simp only[go_sem];exact aE [] (by simp only[go_sem];try rfl) (by rfl)
 .simp only[go_sem];exact aE [] (by simp only[go_sem];try rfl) (by rfl)
def Py(g:Gl):ah pg Cp [.agg [.int .i64 g.v,.bool g.mu]] (.int .i64 (glE g)):=by
 refine au uk ?_;have c2:=PM g.v;unfold glE;simp only[go_sem,uk];refine ak (c2) ?_;cases CU g.v
 .simp only[go_sem];exact aE [] (by simp only[go_sem];try rfl) (by rfl)
 .simp only[go_sem];exact aE [] (by simp only[go_sem];try rfl) (by rfl)
def Ev(s:List UInt8):ah pg GQ [.str s] (.int .i64 (Ke s)):=by
 refine au rf ?_;unfold Ke;by_cases q1:(s.length:Int)>64
 .rw[aF (by omega)];simp only[go_sem,rf,aw q1];exact ac
 rw[ax (by omega)];simp only[go_sem,rf,aC q1];refine ak (acA s (by omega)) ?_;cases uv s
 .simp only[go_sem];exact aE [] (by simp only[go_sem];try rfl) (by rfl)
 .simp only[go_sem];exact aE [] (by simp only[go_sem];try rfl) (by rfl)
def Sr(x:Cd):Int:=if En x.t=false then 11 else if x.lo.length>64 then 6 else if xP x.lo=false then 12 else 0
def YC(x:Cd)(h:Rb x):ah pg GN [.agg (pt x)] (.int .i64 (Sr x)):=by
 refine au yX ?_;have c1:=sR x.t;have c2:=Ew x.lo (by have:=h.1;omega);unfold Sr;simp only[go_sem,yX];refine ak (c1) ?_;cases En x.t
 .simp only[go_sem];exact aE [] (by simp only[go_sem];try rfl) (by rfl)
 rw[ax (by decide)];by_cases q1:(x.lo.length:Int)>64
 .rw[aF (by omega)];simp only[go_sem,aw q1];exact ac
 rw[ax (by omega)];simp only[go_sem,aC q1];refine ak (c2) ?_;cases xP x.lo
 .simp only[go_sem];exact aE [] (by simp only[go_sem];try rfl) (by rfl)
 .simp only[go_sem];exact aE [] (by simp only[go_sem];try rfl) (by rfl)
def exE(x:Ex):Int:=if Ke x.n≠0 then Ke x.n else if x.k<0\/x.k>3 then 1 else if En x.i=false then 11 else 0
def Px(x:Ex):ah pg Co [.agg (x_ x)] (.int .i64 (exE x)):=by
 refine au uj ?_;have c1:=Ev x.n;have c2:=sR x.i;unfold exE;simp only[go_sem,uj];refine ak (c1) ?_;by_cases q0:Ke x.n=0;rotate_left
 .rw[aF q0];simp only[go_sem,aG q0];exact ac
 rw[ax (by simp[q0])];by_cases q1:x.k<0
 .rw[aF (.inl q1)];simp only[go_sem,ar q0,aw q1];exact ac
 by_cases q2:x.k>3
 .rw[aF (.inr q2)];simp only[go_sem,ar q0,aC q1,aw q2];exact ac
 rw[ax (by omega)];simp only[go_sem,ar q0,aC q1,aC q2];refine ak (c2) ?_;cases En x.i
 .simp only[go_sem];exact aE [] (by simp only[go_sem];try rfl) (by rfl)
 .simp only[go_sem];exact aE [] (by simp only[go_sem];try rfl) (by rfl)
def U6{P:a_->Bool}{l:List a_}{i:Nat}(h:i<l.length):Fk P i (l.drop i)=if P (ap l i)=false then((i:Int),10)else if(ap l i).lb.length>64 then((i:Int),6)else Fk P (i+1) (l.drop (i+1)):=by
 rw[cH h,Fk]
def GF(P:a_->Bool)(l:List a_)(hl:I5 l)(hP:∀x∈l,ah pg cL [kD x] (.bool (P x))):ah pg Bl [.sl 9 (l.map bH)] (.tup [.int .i64 (li P l).1,.int .i64 (li P l).2]):=by
 refine au uT ?_;unfold li;by_cases q1:(l.length:Int)>2048
 .rw[aF (by omega)];simp only[go_sem,uT,aw q1];exact ac
 rw[ax (by omega)];obtain⟨G,hG⟩:∃G,Fk P 0 l=G:=⟨_,rfl⟩
 rw[hG];simp only[go_sem,uT,aC q1];refine ao (λj:Nat=>⟨[(11,.int .i64 j),(10,.int .i64 l.length),(9,.sl 9 (l.map bH))],[]⟩) (λj=>j<=l.length/\G=Fk P j (l.drop j)) (λj=>l.length-j) 0 ⟨cR _,hG.symm⟩ (Wk.of ?_ ?_) ?_
 .simp only[go_sem];try simp
 .simp only[go_sem]
 rintro j ⟨hj,hx⟩;by_cases h1:(j:Int)<(l.length:Int);rotate_left
 .rw[cu (by omega)]at hx;obtain rfl:G=(0,0):=hx;simp only[go_sem,aC h1];exact ac
 have hj':j<l.length:=by omega
 have e8:=cA hj' (by have:=hl.1;omega);have cc:=jj hP hj';simp only[dt]at cc;rw[U6 hj']at hx;cases hp:P (ap l j)
 .rw[hp]at cc hx;obtain rfl:G=((j:Int),10):=hx;simp only[go_sem,aw h1];refine⟨by omega,h1,?_⟩;refine aa (cc) ?_;exact ac
 rw[hp]at cc hx;rw[ax (by decide)]at hx;by_cases q2:((ap l j).lb.length:Int)>64
 .rw[aF (by omega)]at hx;subst hx;simp only[go_sem,aw h1];refine⟨by omega,h1,?_⟩;refine ak (cc) ?_;simp only[go_sem,aw q2];exact ac
 rw[ax (by omega)]at hx;simp only[go_sem,aw h1];refine⟨by omega,h1,?_⟩;refine ak (cc) ?_;simp only[go_sem,aC q2];refine ay (j+1) ⟨show j+1<=l.length by omega,hx⟩ (show l.length-(j+1)<l.length-j by omega) (Wk.of ?_ ?_)
 .simp only[go_sem,e8];try simp
 .simp only[go_sem]
end
section
open Go Go.Mw
def cuE(x:Cu):Int:=if Ke x.n≠0 then Ke x.n else if x.b.length>4096 then 6 else if x.af<0\/x.af>12 then 1 else 0
attribute[local go_sem] bP aU cQ cj bT cC gC df fa dA dn dt bH
def Pw(x:Cu):ah pg Cn [.agg (wO x)] (.int .i64 (cuE x)):=by
 refine au ui ?_;have c1:=Ev x.n;unfold cuE;simp only[go_sem,ui];refine ak (c1) ?_;by_cases q0:Ke x.n=0;rotate_left
 .rw[aF q0];simp only[go_sem,aG q0];exact ac
 rw[ax (by simp[q0])];by_cases q1:(x.b.length:Int)>4096
 .rw[aF (by omega)];simp only[go_sem,ar q0,aw q1];exact ac
 rw[ax (by omega)];by_cases q2:x.af<0
 .rw[aF (.inl q2)];simp only[go_sem,ar q0,aC q1,aw q2];exact ac
 by_cases q3:x.af>12
 .rw[aF (.inr q3)];simp only[go_sem,ar q0,aC q1,aC q2,aw q3];exact ac
 rw[ax (by omega)];simp only[go_sem,ar q0,aC q1,aC q2,aC q3];exact ac
def Rs(P:a_->Bool)(x:Da):Int×Int:=if x.mo≠0/\(x.mo≠1\/x.me≠0\/x.o.length>0)then(0,1)else if En x.me=false then(0,11)else if x.b.length>4096 then(0,6)else li P x.o
def YE(P:a_->Bool)(x:Da)(h:Vl x)(hP:∀y∈x.o,ah pg cL [kD y] (.bool (P y))):ah pg GO [.agg (z_ x)] (.tup [.int .i64 (Rs P x).1,.int .i64 (Rs P x).2]):=by
 refine au ji ?_;have c1:=sR x.me;have c2:=GF P x.o h.1 hP;unfold Rs;by_cases q1:x.mo=0
 .rw[ax (λq=>q.1 q1)];simp only[go_sem,ji,ar q1];refine ak (c1) ?_;cases En x.me
  .simp only[go_sem];exact aE [] (by simp only[go_sem];try rfl) (by rfl)
  rw[ax (by decide)];by_cases q5:(x.b.length:Int)>4096
  .rw[aF (by omega)];simp only[go_sem,aw q5];exact aE [] (by simp only[go_sem];try rfl) (by rfl)
  rw[ax (by omega)];simp only[go_sem,aC q5];refine aa (c2) ?_;exact ac
 by_cases q2:x.mo=1;rotate_left
 .rw[aF ⟨q1,.inl q2⟩];simp only[go_sem,ji,aG q1,aG q2];exact aE [] (by simp only[go_sem];try rfl) (by rfl)
 by_cases q3:x.me=0;rotate_left
 .rw[aF ⟨q1,.inr (.inl q3)⟩];simp only[go_sem,ji,aG q1,ar q2,aG q3];exact aE [] (by simp only[go_sem];try rfl) (by rfl)
 by_cases q4:(x.o.length:Int)>0
 .rw[aF ⟨q1,.inr (.inr (by omega))⟩];simp only[go_sem,ji,aG q1,ar q2,ar q3,aw q4];exact aE [] (by simp only[go_sem];try rfl) (by rfl)
 rw[ax (λq=>by rcases q.2 with z|z|z;exact z q2;exact z q3;omega)];simp only[go_sem,ji,aG q1,ar q2,ar q3,aC q4];refine ak (c1) ?_;cases En x.me
 .simp only[go_sem];exact aE [] (by simp only[go_sem];try rfl) (by rfl)
 rw[ax (by decide)];by_cases q5:(x.b.length:Int)>4096
 .rw[aF (by omega)];simp only[go_sem,aw q5];exact aE [] (by simp only[go_sem];try rfl) (by rfl)
 rw[ax (by omega)];simp only[go_sem,aC q5];refine aa (c2) ?_;exact ac
def Jm(x:Im):Im:=if x.k=0 then⟨x.m,x.n,x.k,x.f,0,⟨0,0,false⟩,⟨0,0,false⟩,⟨0,false⟩⟩else if x.k=1 then⟨x.m,x.n,x.k,0,x.te,x.tl,⟨0,0,false⟩,⟨0,false⟩⟩else if x.k=2 then⟨x.m,x.n,x.k,0,0,⟨0,0,false⟩,x.me,⟨0,false⟩⟩else if x.k=3 then⟨x.m,x.n,x.k,0,0,⟨0,0,false⟩,⟨0,0,false⟩,x.g⟩else⟨x.m,x.n,x.k,0,0,⟨0,0,false⟩,⟨0,0,false⟩,⟨0,false⟩⟩
def YB(x:Im):ah pg GM [.agg (Ae x)] (.agg (Ae (Jm x))):=by
 refine au jh ?_;unfold Jm;by_cases q0:x.k=0
 .rw[aF q0];simp only[go_sem,jh,aK q0];exact aE [] (by simp only[go_sem];try rfl) (by rfl)
 rw[ax q0];by_cases q1:x.k=1
 .rw[aF q1];simp only[go_sem,jh,ab q0,aK q1];exact aE [] (by simp only[go_sem];try rfl) (by rfl)
 rw[ax q1];by_cases q2:x.k=2
 .rw[aF q2];simp only[go_sem,jh,ab q0,ab q1,aK q2];exact aE [] (by simp only[go_sem];try rfl) (by rfl)
 rw[ax q2];by_cases q3:x.k=3
 .rw[aF q3];simp only[go_sem,jh,ab q0,ab q1,ab q2,aK q3];exact aE [] (by simp only[go_sem];try rfl) (by rfl)
 rw[ax q3];simp only[go_sem,jh,ab q0,ab q1,ab q2,ab q3];exact aE [] (by simp only[go_sem];try rfl) (by rfl)
end
section
open Go Go.Mw
def imE(x:Im):Int:=if Ke x.m≠0 then Ke x.m else if Ke x.n≠0 then Ke x.n else if x.k<0\/x.k>3\/Jm x≠x then 1 else if x.k=1 then Z0 ⟨x.te,x.tl⟩else if x.k=2 then YK x.me else if x.k=3 then glE x.g else if En x.f=false then 11 else 0
attribute[local go_sem] bP aU cQ cj bT cC gC df fa dA dn ez dt bH
def abS(x:Im):ah pg Bj [.agg (Ae x)] (.int .i64 (imE x)):=by
 refine au re ?_;have c1:=Ev x.m;have c2:=Ev x.n;have c3:=YB x;have c4:=J7 ⟨x.te,x.tl⟩;have c5:=Wd x.me;have c6:=Py x.g;have c7:=sR x.f;simp only[cQ]at c3;unfold imE;simp only[go_sem,re];refine ak (c1) ?_;by_cases q0:Ke x.m=0;rotate_left
 .rw[aF q0];simp only[go_sem,aG q0];exact ac
 rw[ax (by simp[q0])];simp only[go_sem,ar q0];refine ak (c2) ?_;by_cases q1:Ke x.n=0;rotate_left
 .rw[aF q1];simp only[go_sem,aG q1];exact ac
 rw[ax (by simp[q1])];by_cases q2:x.k<0
 .rw[aF (.inl q2)];simp only[go_sem,ar q1,aw q2];exact ac
 by_cases q3:x.k>3
 .rw[aF (.inr (.inl q3))];simp only[go_sem,ar q1,aC q2,aw q3];exact ac
 simp only[go_sem,ar q1,aC q2,aC q3];refine aL c3 (by simp[go_sem]) rfl ?_;by_cases q4:Jm x=x;rotate_left
 .rw[aF (.inr (.inr q4))];simp only[go_sem,A7,aC q4,dH];exact ac
 rw[ax (λq=>by rcases q with z|z|z;exact q2 z;exact q3 z;exact z q4)];by_cases k1:x.k=1
 .rw[aF k1];simp only[go_sem,A7,aw q4,di,aK k1];refine aa (c4) ?_;exact ac
 rw[ax k1];by_cases k2:x.k=2
 .rw[aF k2];simp only[go_sem,A7,aw q4,di,ab k1,aK k2];refine aa (c5) ?_;exact ac
 rw[ax k2];by_cases k3:x.k=3
 .rw[aF k3];simp only[go_sem,A7,aw q4,di,ab k1,ab k2,aK k3];refine aa (c6) ?_;exact ac
 rw[ax k3];simp only[go_sem,A7,aw q4,di,ab k1,ab k2,ab k3];refine ak (c7) ?_;cases En x.f
 .simp only[go_sem];exact aE [] (by simp only[go_sem];try rfl) (by rfl)
 .simp only[go_sem];exact aE [] (by simp only[go_sem];try rfl) (by rfl)
def uM(P:a_->Bool):List (List a_)->Int×Int
 | []=>(0,0)
 | l::r=>if(li P l).2≠0 then li P l else uM P r
def Hv{P:a_->Bool}{l:List (List a_)}{i:Nat}(h:i<l.length):uM P (l.drop i)=if(li P (ap l i)).2≠0 then li P (ap l i)else uM P (l.drop (i+1)):=by
 rw[cH h];rfl
def Rt(P:a_->Bool)(x:El):Int×Int :=
 if x.mo<0\/x.mo>2\/(x.mo≠0/\(x.tb≠0\/x.o.length>0))then(0,1)else if En x.tb=false then(0,11)else if U4 x.ty=false then(0,12)else if x.it.length>256 then(0,6)else uM P (x.o::x.it)
def YF(P:a_->Bool)(x:El)(h:Vm x)(hP:∀y,I4 y->ah pg cL [kD y] (.bool (P y))):ah pg GP [.agg (rK x)] (.tup [.int .i64 (Rt P x).1,.int .i64 (Rt P x).2]):=by
 refine au gu ?_;have c1:=sR x.tb;have c2:=PK x.ty;have hR:∀l∈x.o::x.it,ah pg Bl [.sl 9 (l.map bH)] (.tup [.int .i64 (li P l).1,.int .i64 (li P l).2]):=λl hl=>by
  rcases bp.1 hl with rfl|hl
  .exact GF P _ h.1 λy hy=>hP y (h.1.2 y hy)
  .exact GF P l (h.2.2 l hl) λy hy=>hP y ((h.2.2 l hl).2 y hy)
 have hil:=h.2.1;unfold Rt;by_cases q1:x.mo<0
 .rw[aF (.inl q1)];simp only[go_sem,gu,aw q1];exact aE [] (by simp only[go_sem];try rfl) (by rfl)
 by_cases q2:x.mo>2
 .rw[aF (.inr (.inl q2))];simp only[go_sem,gu,aC q1,aw q2];exact aE [] (by simp only[go_sem];try rfl) (by rfl)
 by_cases q3:x.mo=0
 .rw[ax (λq=>by rcases q with z|z|z;exact q1 z;exact q2 z;exact z.1 q3)];simp only[go_sem,gu,aC q1,aC q2,ar q3];refine ak (c1) ?_;cases En x.tb
  .simp only[go_sem];exact aE [] (by simp only[go_sem];try rfl) (by rfl)
  rw[ax (by decide)];simp only[go_sem];refine ak (c2) ?_;cases U4 x.ty
  .simp only[go_sem];exact aE [] (by simp only[go_sem];try rfl) (by rfl)
  rw[ax (by decide)];by_cases q5:(x.it.length:Int)>256
  .rw[aF (by omega)];simp only[go_sem,aw q5];exact aE [] (by simp only[go_sem];try rfl) (by rfl)
  rw[ax (by omega)];obtain⟨G,hG⟩:∃G,uM P (x.o::x.it)=G:=⟨_,rfl⟩
  rw[hG];have happ:=λys=>bR 50 42 1 1 oX [x.o] ys rfl;have hlen:(x.o::x.it).length=1+x.it.length:=by rw[j1];omega
  simp only[bY,eL,ez]at happ;simp only[go_sem,aC q5,happ];refine⟨by omega,?_⟩;generalize hL:x.o::x.it=L at*;refine ao (λj:Nat=>⟨[(55,.int .i64 j),(54,.int .i64 ((1+x.it.length:Nat):Int)),(53,.ms 50 1 0 (1+x.it.length))],[(50,⟨42,1,L.map oX,false⟩)]⟩) (λj=>j<=L.length/\G=uM P (L.drop j)) (λj=>L.length-j) 0 ⟨cR _,hG.symm⟩ (Wk.of ?_ ?_) ?_
  .simp only[go_sem];try simp
  .rw[<-hL];simp only[go_sem];try simp[ez]
  rintro j ⟨hj,hx⟩;by_cases h1:(j:Int)<((1+x.it.length:Nat):Int);rotate_left
  .rw[cu (by omega)]at hx;obtain rfl:G=(0,0):=hx;simp only[go_sem,aC h1];exact ac
  have hj':j<L.length:=by omega
  have hj2:j<1+x.it.length:=by omega
  have e8:=cA hj' (by omega);rw[Hv hj']at hx;have cc:=jj hR hj';by_cases hz:(li P (ap L j)).2=0;rotate_left
  .rw[aF hz]at hx;subst hx;simp only[go_sem,aw h1,hj2,hlen];refine⟨by omega,?_⟩;refine ak (cc) ?_;simp only[go_sem,aG hz];exact ac
  rw[ax (by simp[hz])]at hx;simp only[go_sem,aw h1,hj2,hlen];refine⟨by omega,?_⟩;refine ak (cc) ?_;simp only[go_sem,ar hz];refine ay (j+1) ⟨show j+1<=1+x.it.length by omega,hx⟩ (show 1+x.it.length-(j+1)<1+x.it.length-j by omega) (Wk.of ?_ ?_)
  .simp only[go_sem,e8];try simp
  .simp only[go_sem];try simp[ez]
 by_cases q4:x.tb=0;rotate_left
 .rw[aF (.inr (.inr ⟨q3,.inl q4⟩))];simp only[go_sem,gu,aC q1,aC q2,aG q3,aG q4];exact aE [] (by simp only[go_sem];try rfl) (by rfl)
 by_cases q6:(x.o.length:Int)>0
 .rw[aF (.inr (.inr ⟨q3,.inr (by omega)⟩))];simp only[go_sem,gu,aC q1,aC q2,aG q3,ar q4,aw q6];exact aE [] (by simp only[go_sem];try rfl) (by rfl)
 rw[ax (λq=>by rcases q with z|z|z;exact q1 z;exact q2 z;rcases z.2 with y|y;exact y q4;omega)];simp only[go_sem,gu,aC q1,aC q2,aG q3,ar q4,aC q6];refine ak (c1) ?_;cases En x.tb
 .simp only[go_sem];exact aE [] (by simp only[go_sem];try rfl) (by rfl)
 rw[ax (by decide)];simp only[go_sem];refine ak (c2) ?_;cases U4 x.ty
 .simp only[go_sem];exact aE [] (by simp only[go_sem];try rfl) (by rfl)
 rw[ax (by decide)];by_cases q5:(x.it.length:Int)>256
 .rw[aF (by omega)];simp only[go_sem,aw q5];exact aE [] (by simp only[go_sem];try rfl) (by rfl)
 rw[ax (by omega)];obtain⟨G,hG⟩:∃G,uM P (x.o::x.it)=G:=⟨_,rfl⟩
 rw[hG];have happ:=λys=>bR 50 42 1 1 oX [x.o] ys rfl;have hlen:(x.o::x.it).length=1+x.it.length:=by rw[j1];omega
 simp only[bY,eL,ez]at happ;simp only[go_sem,aC q5,happ];refine⟨by omega,?_⟩;generalize hL:x.o::x.it=L at*;refine ao (λj:Nat=>⟨[(55,.int .i64 j),(54,.int .i64 ((1+x.it.length:Nat):Int)),(53,.ms 50 1 0 (1+x.it.length))],[(50,⟨42,1,L.map oX,false⟩)]⟩) (λj=>j<=L.length/\G=uM P (L.drop j)) (λj=>L.length-j) 0 ⟨cR _,hG.symm⟩ (Wk.of ?_ ?_) ?_
 .simp only[go_sem];try simp
 .rw[<-hL];simp only[go_sem];try simp[ez]
 rintro j ⟨hj,hx⟩;by_cases h1:(j:Int)<((1+x.it.length:Nat):Int);rotate_left
 .rw[cu (by omega)]at hx;obtain rfl:G=(0,0):=hx;simp only[go_sem,aC h1];exact ac
 have hj':j<L.length:=by omega
 have hj2:j<1+x.it.length:=by omega
 have e8:=cA hj' (by omega);rw[Hv hj']at hx;have cc:=jj hR hj';by_cases hz:(li P (ap L j)).2=0;rotate_left
 .rw[aF hz]at hx;subst hx;simp only[go_sem,aw h1,hj2,hlen];refine⟨by omega,?_⟩;refine ak (cc) ?_;simp only[go_sem,aG hz];exact ac
 rw[ax (by simp[hz])]at hx;simp only[go_sem,aw h1,hj2,hlen];refine⟨by omega,?_⟩;refine ak (cc) ?_;simp only[go_sem,ar hz];refine ay (j+1) ⟨show j+1<=1+x.it.length by omega,hx⟩ (show 1+x.it.length-(j+1)<1+x.it.length-j by omega) (Wk.of ?_ ?_)
 .simp only[go_sem,e8];try simp
 .simp only[go_sem];try simp[ez]
end
section
open Go Go.Mw
attribute[local go_sem] bP aU cQ cj bT cC gC df fa dA dn bH
def k_1(i:Int)(x:Ft)(h:smF x):ah pg qr [.int .i64 i,.agg (kz x)] (.tup [.int .i64 0,.int .i64 (SH x)]):=by
 refine au p5 ?_;have c:=abR x h
 try simp only[aU,cQ,cj,bT,cC,df,dA]at c
 simp only[go_sem,p5];refine aa (c) ?_;exact ac
def k_2(i:Int)(x:Im):ah pg qs [.int .i64 i,.agg (Ae x)] (.tup [.int .i64 0,.int .i64 (imE x)]):=by
 refine au p6 ?_;have c:=abS x
 try simp only[aU,cQ,cj,bT,cC,df,dA]at c
 simp only[go_sem,p6];refine aa (c) ?_;exact ac
def k_3(i:Int)(x:Cd)(h:Rb x):ah pg qt [.int .i64 i,.agg (pt x)] (.tup [.int .i64 0,.int .i64 (Sr x)]):=by
 refine au p7 ?_;have c:=YC x h
 try simp only[aU,cQ,cj,bT,cC,df,dA]at c
 simp only[go_sem,p7];refine aa (c) ?_;exact ac
def k_4(i:Int)(x:Tb):ah pg qu [.int .i64 i,.agg (ya x)] (.tup [.int .i64 0,.int .i64 (Z0 x)]):=by
 refine au p8 ?_;have c:=J7 x
 try simp only[aU,cQ,cj,bT,cC,df,dA]at c
 simp only[go_sem,p8];refine aa (c) ?_;exact ac
def k_5(i:Int)(x:Lm):ah pg qw [.int .i64 i,.agg (w_ x)] (.tup [.int .i64 0,.int .i64 (YK x)]):=by
 refine au p9 ?_;have c:=Wd x
 try simp only[aU,cQ,cj,bT,cC,df,dA]at c
 simp only[go_sem,p9];refine aa (c) ?_;exact ac
def k_7(i:Int)(x:Ex):ah pg qy [.int .i64 i,.agg (x_ x)] (.tup [.int .i64 0,.int .i64 (exE x)]):=by
 refine au qa ?_;have c:=Px x
 try simp only[aU,cQ,cj,bT,cC,df,dA]at c
 simp only[go_sem,qa];refine aa (c) ?_;exact ac
def ad1(i:Int)(x:Cu):ah pg o_ [.int .i64 i,.agg (wO x)] (.tup [.int .i64 0,.int .i64 (cuE x)]):=by
 refine au oL ?_;have c:=Pw x
 try simp only[aU,cQ,cj,bT,cC,df,dA]at c
 simp only[go_sem,oL];refine aa (c) ?_;exact ac
def k_8(P:a_->Bool)(i:Int)(x:El)(h:Vm x)(hP:∀y,I4 y->ah pg cL [kD y] (.bool (P y))):ah pg qz [.int .i64 i,.agg (rK x)] (.tup [.int .i64 (Rt P x).1,.int .i64 (Rt P x).2]):=by
 refine au qc ?_;have c:=YF P x h hP
 try simp only[dn,fa]at c
 simp only[go_sem,qc];refine aa (c) ?_;exact ac
def k_9(P:a_->Bool)(i:Int)(x:Da)(h:Vl x)(hP:∀y,I4 y->ah pg cL [kD y] (.bool (P y))):ah pg qA [.int .i64 i,.agg (z_ x)] (.tup [.int .i64 (Rs P x).1,.int .i64 (Rs P x).2]):=by
 refine au qd ?_;have c:=YE P x h λy hy=>hP y (h.1.2 y hy)
 try simp only[dn,fa]at c
 simp only[go_sem,qd];refine aa (c) ?_;exact ac
def ad2(P:a_->Bool)(i:Int)(x:Cd)(h:Rb x)(hP:∀y,I4 y->ah pg cL [kD y] (.bool (P y))):ah pg pc [.int .i64 i,.agg (pt x)] (.tup [.int .i64 (li P x.b).1,.int .i64 (li P x.b).2]):=by
 refine au oM ?_;have c:=GF P x.b h.2 λy hy=>hP y (h.2.2 y hy)
 try simp only[dn,fa]at c
 simp only[go_sem,oM];refine aa (c) ?_;exact ac
def V3(P:a_->Bool)(x:Gd):Int×Int:=if glE x.g≠0 then(0,glE x.g)else li P x.i
def k_6(P:a_->Bool)(i:Int)(x:Gd)(h:ZO x)(hP:∀y,I4 y->ah pg cL [kD y] (.bool (P y))):ah pg qx [.int .i64 i,.agg (zk x)] (.tup [.int .i64 (V3 P x).1,.int .i64 (V3 P x).2]):=by
 refine au p_ ?_;have c:=Py x.g;have d:=GF P x.i h λy hy=>hP y (h.2 y hy);unfold V3;simp only[go_sem,p_];refine ak (c) ?_;by_cases q:glE x.g=0
 .rw[ax (by simp[q])];simp only[go_sem,ar q];refine aa (d) ?_;exact ac
 .rw[aF q];simp only[go_sem,aG q];exact ac
def gj(k:Int)(l:List Im):Nat:=(l.filter λx=>x.k==k).length
def NX{k:Int}{l:List Im}{i:Nat}(h:i<l.length):gj k (l.take (i+1))=gj k (l.take i)+(if(ap l i).k=k then 1 else 0):=by
 unfold gj;rw[ZZ h,List.filter_append,ej];by_cases q:(ap l i).k=k<;>simp[q]
def ly(k:Int)(l:List Im):gj k l<=l.length:=List.length_filter_le _ _
def ctO(m:Md)(i:Nat):aj:=⟨218,4,[[.int .i64 (gj 0 (m.ims.take i):Nat),.int .i64 (gj 1 (m.ims.take i):Nat),.int .i64 (gj 2 (m.ims.take i):Nat),.int .i64 (gj 3 (m.ims.take i):Nat)]],true⟩
end
section
open Go Go.Mw
def Wa:Fa:=⟨0,0,0,0⟩
def lm1(m:Md):Fa:=fg 1 64 0 (m.ts.map (λx=>(0,SH x))) Wa
def lm2(m:Md):Fa:=fg 2 32 0 (m.ims.map (λx=>(0,imE x))) (lm1 m)
def lm3(m:Md):Fa:=fg 3 64 (gj 0 m.ims:Nat) (m.fs.map (λx=>(0,Sr x))) (lm2 m)
def lm4(m:Md):Fa:=fg 4 4 (gj 1 m.ims:Nat) (m.tbs.map (λx=>(0,Z0 x))) (lm3 m)
def lm5(m:Md):Fa:=fg 5 2 (gj 2 m.ims:Nat) (m.ms.map (λx=>(0,YK x))) (lm4 m)
def lm6(P:a_->Bool)(m:Md):Fa:=fg 6 32 (gj 3 m.ims:Nat) (m.gs.map (V3 P)) (lm5 m)
def Wb(P:a_->Bool)(m:Md):Fa:=fg 7 64 0 (m.exs.map (λx=>(0,exE x))) (lm6 P m)
def Rv(P:a_->Bool)(m:Md):Fa:=if m.hs=true/\En m.st=false then lU (Wb P m) 8 0 0 11 else Wb P m
def lm9(P:a_->Bool)(m:Md):Fa:=fg 9 16 0 (m.els.map (Rt P)) (Rv P m)
def TW(P:a_->Bool)(m:Md):Fa:=fg 10 16 0 (m.ds.map (Rs P)) (lm9 P m)
def Be(P:a_->Bool)(m:Md):Fa:=fg 11 8 0 (m.cs.map (λx=>(0,cuE x))) (TW P m)
def w9(P:a_->Bool)(m:Md):Fa:=if(Be P m).c=0 then fg 12 (m.fs.length:Int) 0 (m.fs.map (λx=>li P x.b)) (Be P m)else Be P m
attribute[local go_sem] bP bn cQ ck ctO
def Pz(P:a_->Bool)(m:Md)(h:Rx m)(hP:∀y,I4 y->ah pg cL [kD y] (.bool (P y))):ah pg Cm [da m] (.agg [.int .i64 (w9 P m).p,.int .i64 (w9 P m).i,.int .i64 (w9 P m).l,.int .i64 (w9 P m).c]):=by
 refine au ug ?_;have c1:CM lg [.int .i64 1,.sl 2 (m.ts.map kz),.int .i64 64,.int .i64 0,.fn qr []] Wa (lm1 m):=PF (by kernel_rfl) (λx=>(0,SH x)) m.ts (by have:=h.ts.1;omega) (λx hx i=>k_1 i x (h.ts.2 x hx)) 1 64 0 Wa;have c2:CM jO [.int .i64 2,.sl 13 (m.ims.map Ae),.int .i64 32,.int .i64 0,.fn qs []] (lm1 m) (lm2 m):=PH (by kernel_rfl) (λx=>(0,imE x)) m.ims (by have:=h.ims;omega) (λx hx i=>k_2 i x) 2 32 0 (lm1 m);have c3:CM gG [.int .i64 3,.sl 3 (m.fs.map pt),.int .i64 64,.int .i64 (gj 0 m.ims:Nat),.fn qt []] (lm2 m) (lm3 m):=GE (by kernel_rfl) (λx=>(0,Sr x)) m.fs (by have:=h.fs.1;omega) (λx hx i=>k_3 i x (h.fs.2 x hx)) 3 64 (gj 0 m.ims:Nat) (lm2 m);have c4:CM kf [.int .i64 4,.sl 4 (m.tbs.map ya),.int .i64 4,.int .i64 (gj 1 m.ims:Nat),.fn qu []] (lm3 m) (lm4 m):=PJ (by kernel_rfl) (λx=>(0,Z0 x)) m.tbs (by have:=h.tbs;omega) (λx hx i=>k_4 i x) 4 4 (gj 1 m.ims:Nat) (lm3 m);have c5:CM jP [.int .i64 5,.sl 3 (m.ms.map w_),.int .i64 2,.int .i64 (gj 2 m.ims:Nat),.fn qw []] (lm4 m) (lm5 m):=PI (by kernel_rfl) (λx=>(0,YK x)) m.ms (by have:=h.ms;omega) (λx hx i=>k_5 i x) 5 2 (gj 2 m.ims:Nat) (lm4 m);have c6:CM ib [.int .i64 6,.sl 3 (m.gs.map zk),.int .i64 32,.int .i64 (gj 3 m.ims:Nat),.fn qx []] (lm5 m) (lm6 P m):=PG (by kernel_rfl) (V3 P) m.gs (by have:=h.gs.1;omega) (λx hx i=>k_6 P i x (h.gs.2 x hx) hP) 6 32 (gj 3 m.ims:Nat) (lm5 m);have c7:CM jN [.int .i64 7,.sl 3 (m.exs.map x_),.int .i64 64,.int .i64 0,.fn qy []] (lm6 P m) (Wb P m):=PE (by kernel_rfl) (λx=>(0,exE x)) m.exs (by have:=h.exs;omega) (λx hx i=>k_7 i x) 7 64 0 (lm6 P m);have c9:CM lc [.int .i64 9,.sl 5 (m.els.map rK),.int .i64 16,.int .i64 0,.fn qz []] (Rv P m) (lm9 P m):=PD (by kernel_rfl) (Rt P) m.els (by have:=h.els.1;omega) (λx hx i=>k_8 P i x (h.els.2 x hx) hP) 9 16 0 (Rv P m);have c10:CM k_ [.int .i64 10,.sl 4 (m.ds.map z_),.int .i64 16,.int .i64 0,.fn qA []] (lm9 P m) (TW P m):=PC (by kernel_rfl) (Rs P) m.ds (by have:=h.ds.1;omega) (λx hx i=>k_9 P i x (h.ds.2 x hx) hP) 10 16 0 (lm9 P m);have c11:CM jM [.int .i64 11,.sl 3 (m.cs.map wO),.int .i64 8,.int .i64 0,.fn o_ []] (TW P m) (Be P m):=PB (by kernel_rfl) (λx=>(0,cuE x)) m.cs (by have:=h.cs.1;omega) (λx hx i=>ad1 i x) 11 8 0 (TW P m);have c8:=sR m.st;have c12:CM gG [.int .i64 12,.sl 3 (m.fs.map pt),.int .i64 (m.fs.length:Int),.int .i64 0,.fn pc []] (Be P m) (fg 12 (m.fs.length:Int) 0 (m.fs.map (λx=>li P x.b)) (Be P m)):=GE (by kernel_rfl) (λx=>li P x.b) m.fs (by have:=h.fs.1;omega) (λx hx i=>ad2 P i x (h.fs.2 x hx) hP) 12 (m.fs.length:Int) 0 (Be P m);simp only[go_sem,ug,da];refine ao (λj:Nat=>⟨[(13,.int .i64 j),(12,.int .i64 m.ims.length),(11,.sl 13 (m.ims.map Ae)),(3,.mp 8 4 0 0),(4,.mp 4 4 0 0),(2,.mp 2 4 0 0),(1,.mp 1 12 0 0)],[(8,ck Wa),(4,ctO m j),(2,⟨142,4,[[.int .i64 0,.int .i64 0,.int .i64 0,.int .i64 0]],true⟩),(1,⟨33,12,[mI m],true⟩)]⟩) (λj=>j<=m.ims.length) (λj=>m.ims.length-j) 0 (cR _) (Wk.of ?_ ?_) ?_
 .simp only[go_sem];try simp
 .simp only[go_sem,iO,gj,Wa];try simp
 intro j hj;by_cases h1:(j:Int)<(m.ims.length:Int)
 .have hj':j<m.ims.length:=by omega
  have hil:=h.ims;have e8:=cA hj' (by omega);have t:=λk=>NX (k:=k) hj';have hle:=λk=>cZ (ly k (m.ims.take j)) (by rw[q_];omega:(m.ims.take j).length<=j);have w:=λk:Int=>(by have:=hle k;rw[wi (by omega) (by omega)];omega:IntKind.i64.wrap ((gj k (m.ims.take j):Int)+1)=((gj k (m.ims.take j)+1:Nat):Int))
  by_cases q0:(ap m.ims j).k=0
  .simp only[go_sem,aw h1,q0,show decide ((0:Int)>=0)=true from rfl,show decide ((0:Int)<=3)=true from rfl,x8,B6,B7,Int.reduceToNat,Nat.reduceMul,Nat.reduceAdd];refine⟨by omega,h1,⟨by omega,by omega⟩,⟨by omega,by omega⟩,ay (j+1) (show j+1<=m.ims.length by omega) (show m.ims.length-(j+1)<m.ims.length-j by omega) (Wk.of ?_ ?_)⟩
   .simp only[go_sem,e8];try simp
   .simp only[go_sem];try simp[t,q0,w]
  by_cases q1:(ap m.ims j).k=1
  .simp only[go_sem,aw h1,q1,show decide ((1:Int)>=0)=true from rfl,show decide ((1:Int)<=3)=true from rfl,x8,B6,B7,Int.reduceToNat,Nat.reduceMul,Nat.reduceAdd];refine⟨by omega,h1,⟨by omega,by omega⟩,⟨by omega,by omega⟩,ay (j+1) (show j+1<=m.ims.length by omega) (show m.ims.length-(j+1)<m.ims.length-j by omega) (Wk.of ?_ ?_)⟩
   .simp only[go_sem,e8];try simp
   .simp only[go_sem];try simp[t,q1,w]
  by_cases q2:(ap m.ims j).k=2
  .simp only[go_sem,aw h1,q2,show decide ((2:Int)>=0)=true from rfl,show decide ((2:Int)<=3)=true from rfl,x8,B6,B7,Int.reduceToNat,Nat.reduceMul,Nat.reduceAdd];refine⟨by omega,h1,⟨by omega,by omega⟩,⟨by omega,by omega⟩,ay (j+1) (show j+1<=m.ims.length by omega) (show m.ims.length-(j+1)<m.ims.length-j by omega) (Wk.of ?_ ?_)⟩
   .simp only[go_sem,e8];try simp
   .simp only[go_sem];try simp[t,q2,w]
  by_cases q3:(ap m.ims j).k=3
  .simp only[go_sem,aw h1,q3,show decide ((3:Int)>=0)=true from rfl,show decide ((3:Int)<=3)=true from rfl,x8,B6,B7,Int.reduceToNat,Nat.reduceMul,Nat.reduceAdd];refine⟨by omega,h1,⟨by omega,by omega⟩,⟨by omega,by omega⟩,ay (j+1) (show j+1<=m.ims.length by omega) (show m.ims.length-(j+1)<m.ims.length-j by omega) (Wk.of ?_ ?_)⟩
   .simp only[go_sem,e8];try simp
   .simp only[go_sem];try simp[t,q3,w]
  by_cases q5:(ap m.ims j).k>=0
  .simp only[go_sem,aw h1,aw q5,aC (show ¬(ap m.ims j).k<=3 by omega)];refine⟨by omega,h1,ay (j+1) (show j+1<=m.ims.length by omega) (show m.ims.length-(j+1)<m.ims.length-j by omega) (Wk.of ?_ ?_)⟩
   .simp only[go_sem,e8];try simp
   .simp only[go_sem];try simp[t,q0,q1,q2,q3]
  .simp only[go_sem,aw h1,aC q5];refine⟨by omega,h1,ay (j+1) (show j+1<=m.ims.length by omega) (show m.ims.length-(j+1)<m.ims.length-j by omega) (Wk.of ?_ ?_)⟩
   .simp only[go_sem,e8];try simp
   .simp only[go_sem];try simp[t,q0,q1,q2,q3]
 obtain rfl:j=m.ims.length:=by omega
 simp only[go_sem,aC h1,jc];refine pF (c1) ?_;simp only[go_sem,x8,B6,B7,Int.reduceToNat,Nat.reduceMul,Nat.reduceAdd];refine pF (c2) ?_;simp only[go_sem,x8,B6,B7,Int.reduceToNat,Nat.reduceMul,Nat.reduceAdd];refine⟨⟨by omega,by omega⟩,?_⟩;refine pF (c3) ?_;simp only[go_sem,x8,B6,B7,Int.reduceToNat,Nat.reduceMul,Nat.reduceAdd];refine⟨⟨by omega,by omega⟩,?_⟩;refine pF (c4) ?_;simp only[go_sem,x8,B6,B7,Int.reduceToNat,Nat.reduceMul,Nat.reduceAdd];refine⟨⟨by omega,by omega⟩,?_⟩;refine pF (c5) ?_;simp only[go_sem,x8,B6,B7,Int.reduceToNat,Nat.reduceMul,Nat.reduceAdd];refine⟨⟨by omega,by omega⟩,?_⟩;refine pF (c6) ?_;simp only[go_sem,x8,B6,B7,Int.reduceToNat,Nat.reduceMul,Nat.reduceAdd];refine pF (c7) ?_;simp only[go_sem,x8,B6,B7,Int.reduceToNat,Nat.reduceMul,Nat.reduceAdd];cases hh:m.hs
 .rw[show Rv P m=Wb P m by unfold Rv;rw[hh,ax (by simp)]]at c9;simp only[go_sem,hh];refine dT (c9) ?_;refine dT (c10) ?_;refine dT (c11) ?_;unfold w9;by_cases z:(Be P m).c=0
  .rw[aF z];simp only[go_sem,aK z];refine dT (c12) ?_;exact ac
  .rw[ax z];simp only[go_sem,ab z];exact ac
 simp only[go_sem,hh];refine ak (c8) ?_;cases hi:En m.st
 .have cf:=IC (Wb P m) 8 0 0 11;rw[show lU (Wb P m) 8 0 0 11=Rv P m by unfold Rv;rw[hh,hi,aF ⟨rfl,rfl⟩]]at cf;simp only[go_sem];refine dT (cf) ?_;refine dT (c9) ?_;refine dT (c10) ?_;refine dT (c11) ?_;unfold w9;by_cases z:(Be P m).c=0
  .rw[aF z];simp only[go_sem,aK z];refine dT (c12) ?_;exact ac
  .rw[ax z];simp only[go_sem,ab z];exact ac
 .rw[show Rv P m=Wb P m by unfold Rv;rw[hi,ax (by simp)]]at c9;simp only[go_sem];refine dT (c9) ?_;refine dT (c10) ?_;refine dT (c11) ?_;unfold w9;by_cases z:(Be P m).c=0
  .rw[aF z];simp only[go_sem,aK z];refine dT (c12) ?_;exact ac
  .rw[ax z];simp only[go_sem,ab z];exact ac
end
open Go Go.Mw
structure Hr where
 f:Int
 h:List UInt8
 t:List UInt8
structure Oc where
 op:Int
 nm:List UInt8
 im:Int
def Yb(r:Hr):List AV:=[.int .i64 r.f,.str r.h,.str r.t]
def oc_(r:Oc):List AV:=[.int .i64 r.op,.str r.nm,.int .i64 r.im]
def ab_(r:Oc):oc_ r=[.int .i64 r.op,.str r.nm,.int .i64 r.im]:=rfl
instance:Inhabited Hr:=⟨⟨0,[],[]⟩⟩
instance:Inhabited Oc:=⟨⟨0,[],0⟩⟩
def HR:List Hr:=[⟨0,[],[117,110,114,101,97,99,104,97,98,108,101,32,110,111,112,32,98,108,111,99,107,32,108,111,111,112,32,105,102,32,101,108,115,101]⟩,
 ⟨11,[],[101,110,100,32,98,114,32,98,114,95,105,102,32,98,114,95,116,97,98,108,101,32,114,101,116,117,114,110,32,99,97,108,108,32,99,97,108,108,95,105,110,100,105,114,101,99,116]⟩,
 ⟨26,[],[100,114,111,112,32,115,101,108,101,99,116,32,115,101,108,101,99,116]⟩,
 ⟨32,[108,111,99,97,108,46],[103,101,116,32,115,101,116,32,116,101,101]⟩,
 ⟨35,[103,108,111,98,97,108,46],[103,101,116,32,115,101,116]⟩,
 ⟨37,[116,97,98,108,101,46],[103,101,116,32,115,101,116]⟩,
 ⟨40,[],[105,51,50,46,108,111,97,100,32,105,54,52,46,108,111,97,100]⟩,
 ⟨44,[105,51,50,46],[108,111,97,100,56,95,115,32,108,111,97,100,56,95,117,32,108,111,97,100,49,54,95,115,32,108,111,97,100,49,54,95,117]⟩,
 ⟨48,[105,54,52,46],[108,111,97,100,56,95,115,32,108,111,97,100,56,95,117,32,108,111,97,100,49,54,95,115,32,108,111,97,100,49,54,95,117,32,108,111,97,100,51,50,95,115,32,108,111,97,100,51,50,95,117]⟩,
 ⟨54,[],[105,51,50,46,115,116,111,114,101,32,105,54,52,46,115,116,111,114,101]⟩,
 ⟨58,[105,51,50,46],[115,116,111,114,101,56,32,115,116,111,114,101,49,54]⟩,
 ⟨60,[105,54,52,46],[115,116,111,114,101,56,32,115,116,111,114,101,49,54,32,115,116,111,114,101,51,50]⟩,
 ⟨63,[109,101,109,111,114,121,46],[115,105,122,101,32,103,114,111,119]⟩,
 ⟨65,[],[105,51,50,46,99,111,110,115,116,32,105,54,52,46,99,111,110,115,116]⟩,
 ⟨69,[105,51,50,46],[101,113,122,32,101,113,32,110,101,32,108,116,95,115,32,108,116,95,117,32,103,116,95,115,32,103,116,95,117,32,108,101,95,115,32,108,101,95,117,32,103,101,95,115,32,103,101,95,117]⟩,
 ⟨80,[105,54,52,46],[101,113,122,32,101,113,32,110,101,32,108,116,95,115,32,108,116,95,117,32,103,116,95,115,32,103,116,95,117,32,108,101,95,115,32,108,101,95,117,32,103,101,95,115,32,103,101,95,117]⟩,
 ⟨103,[105,51,50,46],[99,108,122,32,99,116,122,32,112,111,112,99,110,116,32,97,100,100,32,115,117,98,32,109,117,108,32,100,105,118,95,115,32,100,105,118,95,117,32,114,101,109,95,115,32,114,101,109,95,117,32,97,110,100,32,111,114,32,120,111,114,32,115,104,108,32,115,104,114,95,115,32,115,104,114,95,117,32,114,111,116,108,32,114,111,116,114]⟩,
 ⟨121,[105,54,52,46],[99,108,122,32,99,116,122,32,112,111,112,99,110,116,32,97,100,100,32,115,117,98,32,109,117,108,32,100,105,118,95,115,32,100,105,118,95,117,32,114,101,109,95,115,32,114,101,109,95,117,32,97,110,100,32,111,114,32,120,111,114,32,115,104,108,32,115,104,114,95,115,32,115,104,114,95,117,32,114,111,116,108,32,114,111,116,114]⟩,
 ⟨167,[],[105,51,50,46,119,114,97,112,95,105,54,52]⟩,
 ⟨172,[105,54,52,46],[101,120,116,101,110,100,95,105,51,50,95,115,32,101,120,116,101,110,100,95,105,51,50,95,117]⟩,
 ⟨192,[105,51,50,46],[101,120,116,101,110,100,56,95,115,32,101,120,116,101,110,100,49,54,95,115]⟩,
 ⟨194,[105,54,52,46],[101,120,116,101,110,100,56,95,115,32,101,120,116,101,110,100,49,54,95,115,32,101,120,116,101,110,100,51,50,95,115]⟩,
 ⟨208,[114,101,102,46],[110,117,108,108,32,105,115,95,110,117,108,108,32,102,117,110,99]⟩,
 ⟨64520,[],[109,101,109,111,114,121,46,105,110,105,116,32,100,97,116,97,46,100,114,111,112,32,109,101,109,111,114,121,46,99,111,112,121,32,109,101,109,111,114,121,46,102,105,108,108,32,116,97,98,108,101,46,105,110,105,116,32,101,108,101,109,46,100,114,111,112,32,116,97,98,108,101,46,99,111,112,121,32,116,97,98,108,101,46,103,114,111,119,32,116,97,98,108,101,46,115,105,122,101,32,116,97,98,108,101,46,102,105,108,108]⟩]
def OC:List Oc:=[⟨0,[117,110,114,101,97,99,104,97,98,108,101],0⟩,
 ⟨1,[110,111,112],0⟩,
 ⟨2,[98,108,111,99,107],1⟩,
 ⟨3,[108,111,111,112],1⟩,
 ⟨4,[105,102],1⟩,
 ⟨5,[101,108,115,101],0⟩,
 ⟨11,[101,110,100],0⟩,
 ⟨12,[98,114],2⟩,
 ⟨13,[98,114,95,105,102],2⟩,
 ⟨14,[98,114,95,116,97,98,108,101],3⟩,
 ⟨15,[114,101,116,117,114,110],0⟩,
 ⟨16,[99,97,108,108],4⟩,
 ⟨17,[99,97,108,108,95,105,110,100,105,114,101,99,116],5⟩,
 ⟨26,[100,114,111,112],0⟩,
 ⟨27,[115,101,108,101,99,116],0⟩,
 ⟨28,[115,101,108,101,99,116],6⟩,
 ⟨32,[108,111,99,97,108,46,103,101,116],7⟩,
 ⟨33,[108,111,99,97,108,46,115,101,116],7⟩,
 ⟨34,[108,111,99,97,108,46,116,101,101],7⟩,
 ⟨35,[103,108,111,98,97,108,46,103,101,116],8⟩,
 ⟨36,[103,108,111,98,97,108,46,115,101,116],8⟩,
 ⟨37,[116,97,98,108,101,46,103,101,116],9⟩,
 ⟨38,[116,97,98,108,101,46,115,101,116],9⟩,
 ⟨40,[105,51,50,46,108,111,97,100],17⟩,
 ⟨41,[105,54,52,46,108,111,97,100],17⟩,
 ⟨44,[105,51,50,46,108,111,97,100,56,95,115],17⟩,
 ⟨45,[105,51,50,46,108,111,97,100,56,95,117],17⟩,
 ⟨46,[105,51,50,46,108,111,97,100,49,54,95,115],17⟩,
 ⟨47,[105,51,50,46,108,111,97,100,49,54,95,117],17⟩,
 ⟨48,[105,54,52,46,108,111,97,100,56,95,115],17⟩,
 ⟨49,[105,54,52,46,108,111,97,100,56,95,117],17⟩,
 ⟨50,[105,54,52,46,108,111,97,100,49,54,95,115],17⟩,
 ⟨51,[105,54,52,46,108,111,97,100,49,54,95,117],17⟩,
 ⟨52,[105,54,52,46,108,111,97,100,51,50,95,115],17⟩,
 ⟨53,[105,54,52,46,108,111,97,100,51,50,95,117],17⟩,
 ⟨54,[105,51,50,46,115,116,111,114,101],17⟩,
 ⟨55,[105,54,52,46,115,116,111,114,101],17⟩,
 ⟨58,[105,51,50,46,115,116,111,114,101,56],17⟩,
 ⟨59,[105,51,50,46,115,116,111,114,101,49,54],17⟩,
 ⟨60,[105,54,52,46,115,116,111,114,101,56],17⟩,
 ⟨61,[105,54,52,46,115,116,111,114,101,49,54],17⟩,
 ⟨62,[105,54,52,46,115,116,111,114,101,51,50],17⟩,
 ⟨63,[109,101,109,111,114,121,46,115,105,122,101],13⟩,
 ⟨64,[109,101,109,111,114,121,46,103,114,111,119],13⟩,
 ⟨65,[105,51,50,46,99,111,110,115,116],18⟩,
 ⟨66,[105,54,52,46,99,111,110,115,116],19⟩,
 ⟨69,[105,51,50,46,101,113,122],0⟩,
 ⟨70,[105,51,50,46,101,113],0⟩,
 ⟨71,[105,51,50,46,110,101],0⟩,
 ⟨72,[105,51,50,46,108,116,95,115],0⟩,
 ⟨73,[105,51,50,46,108,116,95,117],0⟩,
 ⟨74,[105,51,50,46,103,116,95,115],0⟩,
 ⟨75,[105,51,50,46,103,116,95,117],0⟩,
 ⟨76,[105,51,50,46,108,101,95,115],0⟩,
 ⟨77,[105,51,50,46,108,101,95,117],0⟩,
 ⟨78,[105,51,50,46,103,101,95,115],0⟩,
 ⟨79,[105,51,50,46,103,101,95,117],0⟩,
 ⟨80,[105,54,52,46,101,113,122],0⟩,
 ⟨81,[105,54,52,46,101,113],0⟩,
 ⟨82,[105,54,52,46,110,101],0⟩,
 ⟨83,[105,54,52,46,108,116,95,115],0⟩,
 ⟨84,[105,54,52,46,108,116,95,117],0⟩,
 ⟨85,[105,54,52,46,103,116,95,115],0⟩,
 ⟨86,[105,54,52,46,103,116,95,117],0⟩,
 ⟨87,[105,54,52,46,108,101,95,115],0⟩,
 ⟨88,[105,54,52,46,108,101,95,117],0⟩,
 ⟨89,[105,54,52,46,103,101,95,115],0⟩,
 ⟨90,[105,54,52,46,103,101,95,117],0⟩,
 ⟨103,[105,51,50,46,99,108,122],0⟩,
 ⟨104,[105,51,50,46,99,116,122],0⟩,
 ⟨105,[105,51,50,46,112,111,112,99,110,116],0⟩,
 ⟨106,[105,51,50,46,97,100,100],0⟩,
 ⟨107,[105,51,50,46,115,117,98],0⟩,
 ⟨108,[105,51,50,46,109,117,108],0⟩,
 ⟨109,[105,51,50,46,100,105,118,95,115],0⟩,
 ⟨110,[105,51,50,46,100,105,118,95,117],0⟩,
 ⟨111,[105,51,50,46,114,101,109,95,115],0⟩,
 ⟨112,[105,51,50,46,114,101,109,95,117],0⟩,
 ⟨113,[105,51,50,46,97,110,100],0⟩,
 ⟨114,[105,51,50,46,111,114],0⟩,
 ⟨115,[105,51,50,46,120,111,114],0⟩,
 ⟨116,[105,51,50,46,115,104,108],0⟩,
 ⟨117,[105,51,50,46,115,104,114,95,115],0⟩,
 ⟨118,[105,51,50,46,115,104,114,95,117],0⟩,
 ⟨119,[105,51,50,46,114,111,116,108],0⟩,
 ⟨120,[105,51,50,46,114,111,116,114],0⟩,
 ⟨121,[105,54,52,46,99,108,122],0⟩,
 ⟨122,[105,54,52,46,99,116,122],0⟩,
 ⟨123,[105,54,52,46,112,111,112,99,110,116],0⟩,
 ⟨124,[105,54,52,46,97,100,100],0⟩,
 ⟨125,[105,54,52,46,115,117,98],0⟩,
 ⟨126,[105,54,52,46,109,117,108],0⟩,
 ⟨127,[105,54,52,46,100,105,118,95,115],0⟩,
 ⟨128,[105,54,52,46,100,105,118,95,117],0⟩,
 ⟨129,[105,54,52,46,114,101,109,95,115],0⟩,
 ⟨130,[105,54,52,46,114,101,109,95,117],0⟩,
 ⟨131,[105,54,52,46,97,110,100],0⟩,
 ⟨132,[105,54,52,46,111,114],0⟩,
 ⟨133,[105,54,52,46,120,111,114],0⟩,
 ⟨134,[105,54,52,46,115,104,108],0⟩,
 ⟨135,[105,54,52,46,115,104,114,95,115],0⟩,
 ⟨136,[105,54,52,46,115,104,114,95,117],0⟩,
 ⟨137,[105,54,52,46,114,111,116,108],0⟩,
 ⟨138,[105,54,52,46,114,111,116,114],0⟩,
 ⟨167,[105,51,50,46,119,114,97,112,95,105,54,52],0⟩,
 ⟨172,[105,54,52,46,101,120,116,101,110,100,95,105,51,50,95,115],0⟩,
 ⟨173,[105,54,52,46,101,120,116,101,110,100,95,105,51,50,95,117],0⟩,
 ⟨192,[105,51,50,46,101,120,116,101,110,100,56,95,115],0⟩,
 ⟨193,[105,51,50,46,101,120,116,101,110,100,49,54,95,115],0⟩,
 ⟨194,[105,54,52,46,101,120,116,101,110,100,56,95,115],0⟩,
 ⟨195,[105,54,52,46,101,120,116,101,110,100,49,54,95,115],0⟩,
 ⟨196,[105,54,52,46,101,120,116,101,110,100,51,50,95,115],0⟩,
 ⟨208,[114,101,102,46,110,117,108,108],20⟩,
 ⟨209,[114,101,102,46,105,115,95,110,117,108,108],0⟩,
 ⟨210,[114,101,102,46,102,117,110,99],4⟩,
 ⟨64520,[109,101,109,111,114,121,46,105,110,105,116],15⟩,
 ⟨64521,[100,97,116,97,46,100,114,111,112],16⟩,
 ⟨64522,[109,101,109,111,114,121,46,99,111,112,121],14⟩,
 ⟨64523,[109,101,109,111,114,121,46,102,105,108,108],13⟩,
 ⟨64524,[116,97,98,108,101,46,105,110,105,116],11⟩,
 ⟨64525,[101,108,101,109,46,100,114,111,112],12⟩,
 ⟨64526,[116,97,98,108,101,46,99,111,112,121],10⟩,
 ⟨64527,[116,97,98,108,101,46,103,114,111,119],9⟩,
 ⟨64528,[116,97,98,108,101,46,115,105,122,101],9⟩,
 ⟨64529,[116,97,98,108,101,46,102,105,108,108],9⟩]
def wdA:List UInt8->List UInt8->List (List UInt8)
 | [],w=>if w=[]then[]else[w]
 | c::r,w=>if c=32 then(if w=[]then wdA r []else w::wdA r [])else wdA r (w++[c])
def wds(s:List UInt8):List (List UInt8):=wdA s []
def Lg(f:Int)(h:List UInt8):Nat->List (List UInt8)->List (Int×List UInt8)
 | _,[]=>[]
 | k,s::r=>(f+(k:Int),h++s)::Lg f h (k+1) r
def EN:List (Int×List UInt8):=OC.map λo=>(o.op,o.nm)
def aat:EN=HR.flatMap λr=>Lg r.f r.h 0 (wds r.t):=by decide +kernel
open Go.Shelf
def ZA:Go.Shelf.Ren:=⟨λ|144=>415|143=>442|219=>465|217=>478|225=>479|224=>480|267=>481|266=>490|314=>491|n=>n,λ|9=>9|4=>4|3=>3|5=>5|46=>339|146=>515|51=>511|n=>n,λ|1=>3|n=>n⟩
def TP:Go.Proofs.Lays.n144 pg ZA:={
 mixed:=by kernel_rfl
 f143:=Tryz.func442.trans (congrArg some (by kernel_rfl))
 f144:=Tryz.func415.trans (congrArg some (by kernel_rfl))
 f217:=Tryz.func478.trans (congrArg some (by kernel_rfl))
 f219:=Tryz.func465.trans (congrArg some (by kernel_rfl))
 f224:=Tryz.func480.trans (congrArg some (by kernel_rfl))
 f225:=Tryz.func479.trans (congrArg some (by kernel_rfl))
 f266:=Tryz.func490.trans (congrArg some (by kernel_rfl))
 f267:=Tryz.func481.trans (congrArg some (by kernel_rfl))
 f314:=Tryz.func491.trans (congrArg some (by kernel_rfl))
 t3:=Tryz.underlying3
 a3:=Tryz.isAgg3
 z3:=Tryz.sizeOf3
 v3:=Tryz.zeroValue3
 t4:=Tryz.underlying4
 a4:=Tryz.isAgg4
 z4:=Tryz.sizeOf4
 v4:=Tryz.zeroValue4
 t5:=Tryz.underlying5
 a5:=Tryz.isAgg5
 z5:=Tryz.sizeOf5
 v5:=Tryz.zeroValue5
 t9:=Tryz.underlying9
 a9:=Tryz.isAgg9
 z9:=Tryz.sizeOf9
 v9:=Tryz.zeroValue9
 t46:=Tryz.underlying339
 a46:=Tryz.isAgg339
 z46:=Tryz.sizeOf339
 v46:=Tryz.zeroValue339
 t51:=Tryz.underlying511
 a51:=Tryz.isAgg511
 z51:=Tryz.sizeOf511
 v51:=Tryz.zeroValue511
 t146:=Tryz.underlying515
 a146:=Tryz.isAgg515
 z146:=Tryz.sizeOf515
 v146:=Tryz.zeroValue515
 g1:=by kernel_rfl}
def ZB:Go.Shelf.Ren:=⟨λ|157=>445|229=>466|199=>467|261=>482|311=>492|312=>493|n=>n,λ|9=>9|31=>445|3=>3|5=>5|4=>4|119=>335|0=>0|40=>503|152=>508|21=>21|154=>510|51=>511|141=>513|196=>520|193=>517|198=>523|49=>521|194=>518|201=>526|226=>528|46=>339|227=>529|n=>n,λ|0=>2|6=>4|n=>n⟩
def TQ:Go.Proofs.Lays.n157 pg ZB:={
 mixed:=by kernel_rfl
 f157:=Tryz.func445.trans (congrArg some (by kernel_rfl))
 f199:=Tryz.func467.trans (congrArg some (by kernel_rfl))
 f229:=Tryz.func466.trans (congrArg some (by kernel_rfl))
 f261:=Tryz.func482.trans (congrArg some (by kernel_rfl))
 f311:=Tryz.func492.trans (congrArg some (by kernel_rfl))
 f312:=Tryz.func493.trans (congrArg some (by kernel_rfl))
 t0:=Tryz.underlying0
 a0:=Tryz.isAgg0
 z0:=Tryz.sizeOf0
 v0:=Tryz.zeroValue0
 t3:=Tryz.underlying3
 a3:=Tryz.isAgg3
 z3:=Tryz.sizeOf3
 v3:=Tryz.zeroValue3
 t4:=Tryz.underlying4
 a4:=Tryz.isAgg4
 z4:=Tryz.sizeOf4
 v4:=Tryz.zeroValue4
 t5:=Tryz.underlying5
 a5:=Tryz.isAgg5
 z5:=Tryz.sizeOf5
 v5:=Tryz.zeroValue5
 t9:=Tryz.underlying9
 a9:=Tryz.isAgg9
 z9:=Tryz.sizeOf9
 v9:=Tryz.zeroValue9
 t21:=Tryz.underlying21
 a21:=Tryz.isAgg21
 z21:=Tryz.sizeOf21
 v21:=Tryz.zeroValue21
 t31:=Tryz.underlying445
 a31:=Tryz.isAgg445
 z31:=Tryz.sizeOf445
 v31:=Tryz.zeroValue445
 t40:=Tryz.underlying503
 a40:=Tryz.isAgg503
 z40:=Tryz.sizeOf503
 v40:=Tryz.zeroValue503
 t46:=Tryz.underlying339
 a46:=Tryz.isAgg339
 z46:=Tryz.sizeOf339
 v46:=Tryz.zeroValue339
 t49:=Tryz.underlying521
 a49:=Tryz.isAgg521
 z49:=Tryz.sizeOf521
 v49:=Tryz.zeroValue521
 t51:=Tryz.underlying511
 a51:=Tryz.isAgg511
 z51:=Tryz.sizeOf511
 v51:=Tryz.zeroValue511
 t119:=Tryz.underlying335
 a119:=Tryz.isAgg335
 z119:=Tryz.sizeOf335
 t141:=Tryz.underlying513
 a141:=Tryz.isAgg513
 z141:=Tryz.sizeOf513
 v141:=Tryz.zeroValue513
 t152:=Tryz.underlying508
 a152:=Tryz.isAgg508
 z152:=Tryz.sizeOf508
 v152:=Tryz.zeroValue508
 t154:=Tryz.underlying510
 a154:=Tryz.isAgg510
 z154:=Tryz.sizeOf510
 v154:=Tryz.zeroValue510
 t193:=Tryz.underlying517
 a193:=Tryz.isAgg517
 z193:=Tryz.sizeOf517
 v193:=Tryz.zeroValue517
 t194:=Tryz.underlying518
 a194:=Tryz.isAgg518
 z194:=Tryz.sizeOf518
 v194:=Tryz.zeroValue518
 t196:=Tryz.underlying520
 a196:=Tryz.isAgg520
 z196:=Tryz.sizeOf520
 v196:=Tryz.zeroValue520
 t198:=Tryz.underlying523
 a198:=Tryz.isAgg523
 z198:=Tryz.sizeOf523
 v198:=Tryz.zeroValue523
 t201:=Tryz.underlying526
 a201:=Tryz.isAgg526
 z201:=Tryz.sizeOf526
 v201:=Tryz.zeroValue526
 t226:=Tryz.underlying528
 a226:=Tryz.isAgg528
 z226:=Tryz.sizeOf528
 v226:=Tryz.zeroValue528
 t227:=Tryz.underlying529
 a227:=Tryz.isAgg529
 z227:=Tryz.sizeOf529
 v227:=Tryz.zeroValue529
 g0:=by kernel_rfl
 g6:=by kernel_rfl}
def vJ(s sub:List UInt8)(hs:s.length<4294967281):ah pg vx [.str s,.str sub] (.bool (Lib.contains s sub)):=by
 refine ah.of (λw bl M cargs hH hM ha=>?_) rfl
 match cargs,ha with
 | [a,b],⟨h1,h2,_⟩ =>
  obtain rfl:=h1.str;obtain rfl:=h2.str;obtain⟨m,hm⟩:=hH.2.2;refine(Any.strings_Contains TP ⟨s.toArray⟩ ⟨sub.toArray⟩ m w (by simpa[ByteArray.size]using hs) hm).mono ?_;rintro e w' ⟨rfl,rfl⟩;exact⟨_,rfl,gR.refl _ _,IRel.bool _⟩
def Ih(s:List UInt8)(hs:s.length<4294967281)(ha:∀b∈s,b.toNat<128)(w:World)(hH:(ba.T pg).H w) :
  Calls pg yy #[.string ⟨s.toArray⟩] w λe w'=>e = .returned (.slice (some ⟨w.heap.size,0,none⟩) (Lib.fields s).length (Lib.fields s).length)/\w'=w.alloc (.cells ((Lib.fields s).map λl=>Value.string ⟨l.toArray⟩).toArray 9):=by
 have h:=Any.strings_Fields_core TQ (by kernel_rfl) ⟨s.toArray⟩ w (by simpa[ByteArray.size]using hs) (λj b hb=>ha b (nF (by simpa using hb))) (λc hc=>hH.2.1 c hc);exact h
def Vh:ah pg Cr [] (.sl 3 (HR.map Yb)):=by
 refine au uo ?_;simp only[go_sem,uo];exact aE [25] (by rfl) rfl
def QW:ah pg Bq [] (.fn 443 []):=by
 refine au ry ?_;simp only[go_sem,ry];exact ac
section
open Go.RowKit
attribute[local go_sem] Oper.semAt_some
def XT(x:Int×List UInt8):Array Value:=#[.int .i64 x.1,.string ⟨x.2.toArray⟩]
def IZ{M:Nat->Prop}{w:World}{v:Value}(h:aY (λ_=>none) M w v (.sl 3 (HR.map Yb))):∃b off cap,v = .slice (some ⟨b,off,none⟩) 24 cap/\¬M b/\∃c t fr,w.heap[b]?=some (.cells c t fr) /\
  ∀i,i<24->c[off+i*3]?=some (.int .i64 (ap HR i).f)/\c[off+i*3+1]?=some (.string ⟨(ap HR i).h.toArray⟩)/\c[off+i*3+2]?=some (.string ⟨(ap HR i).t.toArray⟩):=by
 have h1:IRel M w v (.sl 3 (HR.map Yb)):=h;have hlen:(HR.map Yb).length=24:=by rfl
 generalize hr:HR.map Yb=rows at h1 hlen;cases h1 with
 | nls=>simp at hlen
 | sl0=>simp at hlen
 | sl b off cap st c t fr rows vs hb hM hl hr1 hv hx =>
  refine⟨b,off,cap,by rw[hlen],hM,c,t,fr,hb,λi hi=>?_⟩;have hrow:rows[i]?=some (Yb (ap HR i)):=by
   rw[<-hr,fR,dV (by rw[<-hlen,<-hr]at hi;simpa using hi)];rfl
  have key:∀j x,(Yb (ap HR i))[j]?=some x->j<3->∃u,c[off+i*3+j]?=some u/\IRel M w u x:=λj x hj hj3=>⟨_,hv i j (by omega) hj3,hx i j _ _ hrow hj⟩
  obtain⟨u0,a0,b0⟩:=key 0 (.int .i64 (ap HR i).f) rfl (by omega);obtain⟨u1,a1,b1⟩:=key 1 (.str (ap HR i).h) rfl (by omega);obtain⟨u2,a2,b2⟩:=key 2 (.str (ap HR i).t) rfl (by omega);cases b0;cases b1;cases b2;exact⟨a0,a1,a2⟩
def BC(k:Nat):List (Int×List UInt8):=(HR.take k).flatMap λr=>Lg r.f r.h 0 (Lib.fields r.t)
def aav(k:Nat)(h:k<24):(ap HR k).t.length<4294967281/\∀b∈(ap HR k).t,b.toNat<128:=by
 have:∀r∈HR,r.t.length<4294967281/\∀b∈r.t,b.toNat<128:=by decide +kernel
 exact this _ (by rw[aV (by exact h)];exact gO _)
def WR(k:Nat)(h:k<24):(ap HR k).h.length<1000/\0<=(ap HR k).f/\(ap HR k).f<100000/\(Lib.fields (ap HR k).t).length<1000/\∀s∈Lib.fields (ap HR k).t,s.length<1000:=by
 have:∀r∈HR,r.h.length<1000/\0<=r.f/\r.f<100000/\(Lib.fields r.t).length<1000/\∀s∈Lib.fields r.t,s.length<1000:=by decide +kernel
 exact this _ (by rw[aV (by exact h)];exact gO _)
def JE(f:Int)(h:List UInt8):∀(l:List (List UInt8))(k:Nat),(Lg f h k l).length=l.length
 | [],_=>rfl
 | _::l,k=>by simp[Lg,JE f h l]
def JD(f:Int)(h:List UInt8):∀(l:List (List UInt8))(k j:Nat),j<l.length->(Lg f h k l)[j]?=some (f+((k+j:Nat):Int),h++ap l j)
 | [],_,j,hj=>by simp at hj
 | s::l,k,0,_=>rfl
 | s::l,k,j+1,hj=>by
  have:=JD f h l (k+1) j (by simpa using hj);simp only[Lg,zW];rw[this,show k+1+j=k+(j+1)by omega];rfl
def F_{f:Int}{h:List UInt8}{l:List (List UInt8)}{j:Nat}(hj:j<l.length):(Lg f h 0 l).take (j+1)=(Lg f h 0 l).take j++[(f+(j:Int),h++ap l j)]:=by
 rw[uS,JD f h l 0 j hj,uR,ga]
def DD{k:Nat}(h:k<24):BC (k+1)=BC k++Lg (ap HR k).f (ap HR k).h 0 (Lib.fields (ap HR k).t):=by
 unfold BC;rw[uS,dV (show k<HR.length from h),uR,List.flatMap_append,List.flatMap_singleton]
def Qn{k:Nat}(h:k<=24):BC k <+: BC 24:=by
 have e:HR.take 24=HR.take k++(HR.take 24).drop k:=by
  rw[show HR.take k=(HR.take 24).take k by rw[List.take_take,HP h]];exact(VK k _).symm
 unfold BC;rw[e,List.flatMap_append];exact List.prefix_append _ _
def Qm:BC 24=HR.flatMap λr=>Lg r.f r.h 0 (wds r.t):=by decide +kernel
def YM(n:Nat)(w:World):aaz n pg 443 #[] XT EN w:=by
 intro l J Jx W hH hW hJ hJx hY h0;refine callsIn_of_wp Tryz.func443 rfl trivial ?_ rfl;have hE:BC 24=EN:=by rw[aat];exact Qm
 have cr:=ah.run Vh W hH (cargs:=[]) trivial;simp only[Tryz.ntmps443,List.size_toArray,j1,iN,Nat.reduceAdd,Nat.reduceSub,Array.replicate_succ,Array.replicate_zero,List.push_toArray,List.append_toArray,iD,tU]
 gi_wp2
 refine⟨trivial,λh=>(by cases h),(callsIn_wide.2 cr).mono ?_⟩;rintro e W1 ⟨v,rfl,hv,hst⟩;obtain⟨b,off,cap,rfl,hnb,c,t,fr,hb,hc⟩:=IZ hv
 gi_wp2
 gi_loopw [8] (λi wr=>∃k:Nat,k<=24/\i = .int .i64 k/\J (BC k) wr/\W.heap.size<=wr.heap.size/\wr.heap[b]?=some (.cells c t fr)/\(ba.T pg).H wr) (λi _=>24-(intOf i).toNat)
 case atStart=>exact⟨0,by omega,rfl,hJ _ _ _ h0 hst,hst.size,hb,(ba.T pg).stay _ _ hH λq hq=>hst.keep q ((ba.T pg).low _ hH q hq) (λh=>h)⟩
 case round =>
  obtain⟨k,hk,rfl,hJk,hsz,hbk,hHk⟩:=hrel
  rename World=>wo1
  by_cases hlt:k<24
  .have c0:wo1.cell? ⟨b,off+k*3,none⟩=some (.int .i64 (ap HR k).f):=(bD hbk _).trans (hc k hlt).1;have c1:wo1.cell? ⟨b,off+k*3+1,none⟩=some (.string ⟨(ap HR k).h.toArray⟩):=(bD hbk _).trans (hc k hlt).2.1;have c2:wo1.cell? ⟨b,off+k*3+2,none⟩=some (.string ⟨(ap HR k).t.toArray⟩):=(bD hbk _).trans (hc k hlt).2.2;have hsA:=gR.ofAlloc wo1 (.cells #[.int .i64 (ap HR k).f,.string ⟨(ap HR k).h.toArray⟩,.string ⟨(ap HR k).t.toArray⟩] 486);have hHA:=(ba.T pg).stay _ _ hHk λq hq=>hsA.keep q ((ba.T pg).low _ hHk q hq) (λh=>h);obtain⟨hl,ha⟩:=aav k hlt;obtain⟨hh,hf0,hf1,hfl,hfs⟩:=WR k hlt;have cf:=Ih (ap HR k).t hl ha _ hHA;generalize hF:Lib.fields (ap HR k).t=fl at cf hfl hfs
   gi_wp2
   refine⟨trivial,λh=>(by cases h),(callsIn_wide.2 cf).mono ?_⟩;rintro e W2 ⟨rfl,rfl⟩
   gi_wp2
   gi_loopw [16] (λi wr2=>∃j:Nat,j<=fl.length/\i = .int .i64 j/\J (BC k++(Lg (ap HR k).f (ap HR k).h 0 fl).take j) wr2/\W.heap.size<=wr2.heap.size/\wr2.heap[b]?=some (.cells c t fr) /\
     wr2.heap[wo1.heap.size]?=some (.cells #[.int .i64 (ap HR k).f,.string ⟨(ap HR k).h.toArray⟩,.string ⟨(ap HR k).t.toArray⟩] 486)/\wr2.heap[wo1.heap.size+1]?=some (.cells (fl.map λl=>Value.string ⟨l.toArray⟩).toArray 9)/\(ba.T pg).H wr2) (λi _=>fl.length-(intOf i).toNat)
   case atStart =>
    have hsF:=hsA.one (gR.ofAlloc _ (.cells (fl.map λl=>Value.string ⟨l.toArray⟩).toArray 9));refine⟨0,cR _,rfl,?_,by simp;omega,?_,?_,?_,?_⟩
    .rw[iO,lm];exact hJ _ _ _ hJk hsF
    .rw[hsF.keep b (aQ hbk) (λh=>h)];exact hbk
    .exact(Below.heap_alloc _ _ _ (by simp)).trans (World.alloc_heap_new _ _)
    .have:=World.alloc_heap_new (wo1.alloc (.cells #[.int .i64 (ap HR k).f,.string ⟨(ap HR k).h.toArray⟩,.string ⟨(ap HR k).t.toArray⟩] 486)) (.cells (fl.map λl=>Value.string ⟨l.toArray⟩).toArray 9);rwa[World.size_alloc]at this
    .exact(ba.T pg).stay _ _ hHk λq hq=>hsF.keep q ((ba.T pg).low _ hHk q hq) (λh=>h)
   case round =>
    obtain⟨j,hj,rfl,hJj,hsz2,hb2,hx2,hs2,hH2⟩:=hrel;by_cases hlt2:j<fl.length
    .have d0:wr.cell? ⟨wo1.heap.size,0,none⟩=some (.int .i64 (ap HR k).f):=bD hx2 _;have d1:wr.cell? ⟨wo1.heap.size,1,none⟩=some (.string ⟨(ap HR k).h.toArray⟩):=bD hx2 _;have d3:wr.cell? ⟨wo1.heap.size+1,j,none⟩=some (.string ⟨(ap fl j).toArray⟩):=(bD hs2 _).trans (by rw[List.getElem?_toArray,fR,dV hlt2];rfl);have hss:=hfs (ap fl j) (by rw[aV hlt2];exact gO _);have hcat:¬9223372036854775807<(ap HR k).h.length+(ap fl j).length:=by omega
     have hpre:(BC k++(Lg (ap HR k).f (ap HR k).h 0 fl).take j)++[((ap HR k).f+(j:Int),(ap HR k).h++ap fl j)] <+: EN:=by
      rw[mE,<-F_ hlt2,<-hE,<-hF];refine List.IsPrefix.trans ?_ (Qn (show k+1<=24 by omega));rw[DD hlt];exact(List.prefix_append_right_inj _).2 (List.take_prefix _ _)
     obtain⟨fn,tmps,assign,body,hy,hR⟩:=hY _ _ wr hJj hpre;have hw:wrap64 ((ap HR k).f+(j:Int))=(ap HR k).f+(j:Int):=IntWalk.wrap64_in _ (by omega);have hc2:(ByteArray.mk (ap HR k).h.toArray++ByteArray.mk (ap fl j).toArray)=ByteArray.mk ((ap HR k).h++ap fl j).toArray:=by apply ByteArray.ext;simp
     have hy2:(Instr.yield l #[.int .i64 ((ap HR k).f+(j:Int)),.string (ByteArray.mk ((ap HR k).h++ap fl j).toArray)]).run pg wr = .ok (.round l fn tmps assign body) wr:=hy
     gi_wp2
     refine⟨λh=>(by cases h),hR.mono ?_⟩;rintro e W3 (⟨rfl,hJ3,hk3⟩|⟨rfl,hJx3⟩)
     .gi_wp2
      go_roundw
      case rel =>
       refine⟨j+1,by omega,by simp,?_,cZ hsz2 hk3.1,?_,hk3.2.1 _ _ _ _ hsz hx2,hk3.2.1 _ _ _ _ (by omega) hs2,(ba.T pg).stay _ _ hH2 λq hq=>hk3.2.2 q hq⟩
       .rw[F_ hlt2,<-mE];exact hJ3
       .by_cases hbw:W.heap.size<=b
        .exact hk3.2.1 _ _ _ _ hbw hb2
        .rw[hk3.2.2 b (Classical.byContradiction λhn=>hnb ⟨by omega,hn⟩)];exact hb2
      case measure=>simp[intOf];omega
     .gi_wp2
      refine bodyPost_ret (results_none rfl _ _ _) rfl ?_;exact⟨⟨_,rfl⟩,.inr ⟨_,hpre,hJx3⟩⟩
    .obtain rfl:j=fl.length:=by omega
     gi_wp2
     refine⟨⟨k+1,by omega,by simp,?_,hsz2,hb2,hH2⟩,by simp[intOf];omega⟩;rw[DD hlt,hF];rw[gN (by rw[JE];exact aN _)]at hJj;exact hJj
  .obtain rfl:k=24:=by omega
   gi_wp2
   go_end0
   exact⟨⟨_,rfl⟩,.inl (hE▸hJk)⟩
