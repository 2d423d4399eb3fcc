import Derived.Test.YthhglklcaodfmaaGreatDoorCQj
import Derived.Lib.DecodeN
set_option linter.all false
set_option maxRecDepth 100000
set_option maxHeartbeats 40000000
namespace Go.Proofs.YthhglklcaodfmaaGreatDoor
section
open Go Go.Mw
def abq(i:Int)(x:bj):Bool :=
 if i=0 then(x.a==0)&&((x.b==0)&&(x.n==0))else
 if i=1 then(x.a==0)&&((x.b==0)&&((x.n==0)&&blB x.k x.v x.x))else
 if i=3 then qE x.a&&((x.b==0)&&((x.n==0)&&x.lb.all qE))else
 if i=6 then(x.a==0)&&((x.b==0)&&((x.n==0)&&(((x.ty.length:Int)==1)&&XP (av x.ty 0))))else
 if i=13 then(x.a==0)&&(qE x.b&&(x.n==0))else
 if i=17 then decide (x.a>=0)&&(decide (x.a<=63)&&(qE x.b&&decide (x.n<4294967296)))else
 if i=18 then(x.a==0)&&((x.b==0)&&decide (x.n<4294967296))else
 if i=19 then(x.a==0)&&(x.b==0)else
 if i=20 then((x.a==3)||(x.a==4))&&((x.b==0)&&(x.n==0))else
 if i=5\/i=10\/i=11\/i=14\/i=15 then qE x.a&&(qE x.b&&(x.n==0))else
 qE x.a&&((x.b==0)&&(x.n==0))
def plR(i:Int)(kn:Bool)(x:bj):Bool :=
 kn&&(((i==1)||((x.k==0)&&((x.v==0)&&(x.x==0))))&&(((i==3) || !decide ((x.lb.length:Int)>0))&&(((i==6) || !decide ((x.ty.length:Int)>0))&&abq i x)))
attribute[local go_sem] fg bY bV
def WK(x:bj)(i:Int)(hi:0<=i/\i<=20)(him:GO x.op=i)(hl:x.lb.length<=9223372036854775807):aj pg e_ [fN x] (.bool (plR i (J5 x.op) x)):=by
 refine ao wN ?_;have a1:=Mb x.op;rw[him]at a1;have a2:=abh x.op;unfold plR;clear him;rcases(show i=0\/i=1\/i=2\/i=3\/i=4\/i=5\/i=6\/i=7\/i=8\/i=9\/i=10\/i=11\/i=12\/i=13\/i=14\/i=15\/i=16\/i=17\/i=18\/i=19\/i=20 by omega)with rfl|rfl|rfl|rfl|rfl|rfl|rfl|rfl|rfl|rfl|rfl|rfl|rfl|rfl|rfl|rfl|rfl|rfl|rfl|rfl|rfl
 all_goals
  simp only[go_sem,wN];refine aa (a1) ?_;refine ae (a2) ?_;cases hk:J5 x.op
  .rw[dF];simp only[go_sem];exact aw
  simp only[Int.reduceBEq,nx,jW,dM];simp only[abq,Int.reduceEq,false_or,or_false,or_true,true_or,or_self,dR,ij];simp only[go_sem]
  iterate 3 (first|(refine⟨λh=>?_,λh=>?_⟩
                    ·(first|rw[aF h,Bt,dF]|rw[nb_ h,dF])
                     exact aw
                    (first|rw[aI h,GT,dM]|rw[nc_ h,dM]))|skip)
  iterate 8 (first
   | (refine⟨λh=>?_,λh=>?_⟩
      rotate_left
      ·(first|rw[h,dF]|rw[aI h,dF])
       exact aw
      (first|rw[h,dM]|rw[aF h,dM]))
   | (refine ae (abg x.a) ?_
      cases hA:qE x.a
      .rw[dF];simp only[go_sem];exact aw
      rw[dM];simp only[go_sem])
   | (refine ae (abg x.b) ?_
      cases hB:qE x.b
      .rw[dF];simp only[go_sem];exact aw
      rw[dM];simp only[go_sem])
   | (refine ae (Wx x.k x.v x.x) ?_
      simp only[go_sem];exact aw)
   | (refine ae (RT x.lb hl) ?_
      simp only[go_sem];exact aw)
   | skip)
  try exact aw
 .have h9:=‹((x.ty.length:Int)==1)=true›;refine⟨by decide,?_,?_⟩
  .have:=eq_of_beq h9;omega
  .refine aa (ajr (av x.ty 0)) ?_;exact aw
 .refine⟨λh=>?_,λh=>?_⟩;rw[h,nx,dM];rotate_left;rw[h,jW]
  all_goals
   iterate 3 (first
    | (refine⟨λh=>?_,λh=>?_⟩
       rotate_left
       .rw[h,dF];exact aw
       rw[h,dM])
    | skip)
   exact aw
end
open Go Go.Mw
def E8(op:Int):bP op=AC op:=by
 have h:∀l:List Oc,(match (l.map λo=>(o.op,o.nm)).find? (λx=>x.1==op)with|some o=>o.2|none=>[])=((l.find? (λo=>o.op==op)).getD default).nm:=by
  intro l
  induction l with
  | nil=>rfl
  | cons a l ih =>
   simp only[cM,List.find?_cons];cases ha:a.op==op
   .exact ih
   .rfl
 exact h OC
def Mh{op:Int}(h:oe op=none):AC op=[]/\GO op=0/\J5 op=false:=by
 simp only[AC,GO,J5,h];exact⟨rfl,rfl,rfl⟩
def Oh{p:Int->Bool}(h:OC.all (λo=>p o.op)=true){op:Int}(hr:oe op≠none):p op=true:=by
 cases hf:oe op with
 | none=>exact absurd hf hr
 | some o =>
  have h1:=ii.1 h o (List.mem_of_find?_eq_some hf);have h2:=List.find?_some hf;simp only[beq_iff_eq]at h2;rw[h2]at h1;exact h1
def Qd(op:Int):(!(bP op==[]))=J5 op/\bP op=AC op/\bN op=GO op/\mj op=Bi op/\oy (mj op)=Tu (Bi op)/\TN op=TO op:=by
 by_cases h:oe op=none
 .obtain⟨h1,h2,h3⟩:=Mh h;have hn:bP op=[]:=by rw[E8,h1]
  have hw:mj op=0:=by
   have:acB op=false:=by simp[acB,hn]
   rw[mj,this];rfl
  have hw2:Bi op=0:=by rw[Bi,h2];rfl
  have hi:bN op=0:=by
   have ht:∀(l:List (Int×Int)),l.all (λp=>(oe p.1).isSome)=true->l.find? (λp=>p.1==op)=none:=by
    intro l hl;rw[List.find?_eq_none];intro p hp hq;have:=ii.1 hl p hp;simp only[beq_iff_eq]at hq;rw[hq,h]at this;cases this
   have hs:Ov op=0:=by rw[Ov,ht agE (by decide +kernel)]
   rw[bN,ht aeG (by decide +kernel),hw,hs];rfl
  refine⟨by rw[hn,h3];rfl,E8 op,by rw[hi,h2],by rw[hw,hw2],by rw[hw,hw2];rfl,?_⟩;rw[TN,TO,hn,h3];rfl
 .have:=Oh (p:=λop=>(!(bP op==[]))==J5 op&&bN op==GO op&&mj op==Bi op&&oy (mj op)==Tu (Bi op)&&TN op==TO op) (by decide +kernel) h;simp only[dX,beq_iff_eq]at this;obtain⟨⟨⟨⟨h1,h2⟩,h3⟩,h4⟩,h5⟩:=this;exact⟨h1,E8 op,h2,h3,h4,h5⟩
def acM(i:Int)(hi:0<=i/\i<=20)(kn:Bool)(x:bj)(hn:0<=x.n):plP i kn (Mz i) x=plR i kn x:=by
 obtain⟨op,a,b,n,k,v,z,ty,lb⟩:=x;replace hn:0<=n:=hn;have hal:¬((lb.length:Int)>0)->lb.all qE=true:=λh=>by
  cases lb with
  | nil=>rfl
  | cons y l=>simp at h
 unfold plP plR xZ abq;simp only;generalize lb.all qE=al at hal;generalize (lb.length:Int)=ll at hal;generalize XP (av ty 0)=vv;generalize (ty.length:Int)=tl;generalize blB k v z=bb;generalize ((k==0)&&((v==0)&&(z==0)))=kk;have ea:a=0->qE a=true:=λh=>by subst h;decide
 have eb:b=0->qE b=true:=λh=>by subst h;decide
 have ec:a=3\/a=4->qE a=true:=λh=>by rcases h with rfl|rfl<;>decide
 have ed:qE a=true/\a<=63↔a>=0/\a<=63:=by
  simp only[qE,dX,ol];omega
 generalize qE a=xa at ea ec ed;generalize qE b=xb at eb;rcases(show i=0\/i=1\/i=2\/i=3\/i=4\/i=5\/i=6\/i=7\/i=8\/i=9\/i=10\/i=11\/i=12\/i=13\/i=14\/i=15\/i=16\/i=17\/i=18\/i=19\/i=20 by omega)with rfl|rfl|rfl|rfl|rfl|rfl|rfl|rfl|rfl|rfl|rfl|rfl|rfl|rfl|rfl|rfl|rfl|rfl|rfl|rfl|rfl
 all_goals
  simp only[Mz,agO,List.find?_cons,List.find?_nil,Int.reduceBEq,Int.reduceEq,dR,ij,nx,jW,dM,dF,false_or,or_false,or_true,true_or,or_self];rw[xJ];simp only[dX,Az,beq_iff_eq,ol,Fr,decide_eq_false_iff_not]
  grind
def CW(op:Int):0<=GO op/\GO op<=20:=by
 by_cases h:oe op=none
 .rw[(Mh h).2.1];decide
 .have:=Oh (p:=λop=>decide (0<=GO op)&&decide (GO op<=20)) (by decide +kernel) h;simpa using this
def rA(x:bj):Bool:=plR (GO x.op) (J5 x.op) x
def acX(x:bj)(h:C_ x):aj pg dg [fN x] (.bool (rA x)):=by
 obtain⟨h1,h2,h3⟩:=h;obtain⟨t1,_,t3,_⟩:=Qd x.op;have c:=Xq x (GO x.op) (CW x.op) t3 (by omega);rw[t1,acM (GO x.op) (CW x.op) (J5 x.op) x h3]at c;exact c
def WJ(x:bj)(h:C_ x):aj pg e_ [fN x] (.bool (rA x)):=by
 obtain⟨h1,h2,h3⟩:=h;exact WK x (GO x.op) (CW x.op) rfl (by omega)
section
def iz(F:Fa):AV:=.agg [.int .i64 F.p,.int .i64 F.i,.int .i64 F.l,.int .i64 F.c]
def fF(p i e:Int):Fa:=if e=0 then cB else⟨p,i,0,e⟩
def xq(p n most:Int):Fa:=if n>most then⟨p,if most<0 then 0 else most,0,6⟩else cB
attribute[local go_sem] bY aM du bV cQ iz
def qq(p i e:Int):aj pg NQ [.int .i64 p,.int .i64 i,.int .i64 e] (iz (fF p i e)):=by
 refine ao xM ?_;unfold fF;by_cases h:e=0
 .rw[az h];simp only[go_sem,xM,aD h];exact aq [] (by simp only[go_sem];try rfl) (by rfl)
 .rw[an h];simp only[go_sem,xM,ac h];exact aq [] (by simp only[go_sem];try rfl) (by rfl)
def pF(p n most:Int):aj pg IQ [.int .i64 p,.int .i64 n,.int .i64 most] (iz (xq p n most)):=by
 refine ao qM ?_;have c:=qq p (if most<0 then 0 else most) 6;rw[show fF p (if most<0 then 0 else most) 6 =⟨p,if most<0 then 0 else most,0,6⟩ from rfl]at c;unfold xq;by_cases h:n>most
 .rw[az h];simp only[go_sem,qM,aF h];refine aa (c) ?_;exact aq [] (by simp only[go_sem];try rfl) (by rfl)
 .rw[an h];simp only[go_sem,qM,aI h];exact aq [] (by simp only[go_sem];try rfl) (by rfl)
def fW(F:Fa):aj pg IT [iz F] (.bool (F.c==0)):=by
 refine ao yM ?_;simp only[go_sem,yM];exact ah
def qs(i:Int):aj pg Gc [.int .i64 i] (.bool (re i)):=by
 refine ao lF ?_;unfold re;by_cases h:(0:Int)<=i
 .by_cases h2:i<=4294967295
  .simp only[go_sem,lF,aF (show i>=0 from h),aF h2];exact aq [] (by simp only[go_sem,aF h,aF (show i<4294967296 by omega),dM]) (by first|rfl|simp[go_sem,bJ])
  .simp only[go_sem,lF,aF (show i>=0 from h),aI h2];exact aq [] (by simp only[go_sem,aF h,aI (show ¬i<4294967296 by omega),Bool.and_false]) (by first|rfl|simp[go_sem,bJ])
 .simp only[go_sem,lF,aI (show ¬i>=0 from h)];exact aq [] (by simp only[go_sem,aI h,dF]) (by first|rfl|simp[go_sem,bJ])
def Fb(P:bj->Bool)(p i:Int)(l:List bj):Fa:=if(fO P l).2=0 then cB else⟨p,i,(fO P l).1,(fO P l).2⟩
def Bc(P:bj->Bool)(p it:Int)(l:List bj)(hl:Mr l)(hP:∀x∈l,aj pg e_ [fN x] (.bool (P x))):aj pg Li [.int .i64 p,.int .i64 it,.sl 9 (l.map cQ)] (iz (Fb P p it l)):=by
 refine ao tX ?_;unfold Fb fO;by_cases q1:(l.length:Int)>2048
 .rw[az (show l.length>2048 by omega),an (by decide)];simp only[go_sem,tX,aF q1];exact aq [] (by simp only[go_sem];try rfl) (by rfl)
 rw[an (show ¬l.length>2048 by omega)];obtain⟨G,hG⟩:∃G,E7 P 0 l=G:=⟨_,rfl⟩
 rw[hG];simp only[go_sem,tX,aI q1];refine aA (λj:Nat=>⟨[(7,.int .i64 j),(2,.sl 9 (l.map cQ)),(0,.int .i64 p),(1,.int .i64 it),(6,.mp 6 4 0 0)],[(6,⟨38,4,[[.int .i64 0,.int .i64 0,.int .i64 0,.int .i64 0]],true⟩)]⟩) (λj=>j<=l.length/\G=E7 P j (l.drop j)) (λj=>l.length-j) 0 ⟨dx _,hG.symm⟩ (Wk.of ?_ ?_) ?_
 .simp only[go_sem];try simp
 .simp only[go_sem]
 rintro j ⟨hj,hx⟩;by_cases h1:(j:Int)<(l.length:Int);rotate_left
 .rw[a_ (by omega)]at hx;obtain rfl:G=(0,0):=hx;simp only[go_sem,aI h1];exact aq [] (by simp only[go_sem];try rfl) (by rfl)
 have hj':j<l.length:=by omega
 have e8:=cK hj' (by have:=hl.1;omega);have cc:=pU hP hj';simp only[bV]at cc;rw[PS hj']at hx;cases hp:P (av l j)
 .rw[hp]at cc hx;obtain rfl:G=((j:Int),10):=hx;simp only[go_sem,aF h1];refine⟨by omega,h1,?_⟩;refine aa (cc) ?_;exact aq [] (by simp only[go_sem];try rfl) (by rfl)
 rw[hp]at cc hx;rw[an (by decide)]at hx;by_cases q2:((av l j).lb.length:Int)>64
 .rw[az (by omega)]at hx;subst hx;simp only[go_sem,aF h1];refine⟨by omega,h1,?_⟩;refine ae (cc) ?_;simp only[go_sem,aF q2];refine⟨by omega,h1,?_⟩;exact aq [] (by simp only[go_sem];try rfl) (by rfl)
 rw[an (by omega)]at hx;simp only[go_sem,aF h1];refine⟨by omega,h1,?_⟩;refine ae (cc) ?_;simp only[go_sem,aI q2];refine⟨by omega,h1,aH (j+1) ⟨show j+1<=l.length by omega,hx⟩ (show l.length-(j+1)<l.length-j by omega) (Wk.of ?_ ?_)⟩
 .simp only[go_sem,e8];try simp
 .simp only[go_sem]
end
section
attribute[local go_sem] bY aM du bT cX
def acR(t:Int):aj pg Lf [.int .i64 t] (.bool (rM t)):=by
 refine ao tS ?_;have hv:rM t=(decide (t>=1)&&decide (t<=4)):=by
  rw[xJ];simp only[rM,nuB,Mg,Az,beq_iff_eq,dX,ol];omega
 rw[hv];cases h:decide (t>=1)
 .simp only[go_sem,tS,h];exact aq [] (by simp only[go_sem,dF]) (by first|rfl|simp[go_sem,bJ])
 .simp only[go_sem,tS,h];exact aq [] (by simp only[go_sem,dM]) (by first|rfl|simp[go_sem,bJ])
def acP(t:Int):aj pg Le [.int .i64 t] (.bool (Mg t)):=by
 refine ao tR ?_;unfold Mg;cases h:(t==3)
 .simp only[go_sem,tR,h];exact aq [] (by simp only[go_sem,jW]) (by first|rfl|simp[go_sem,bJ])
 .simp only[go_sem,tR,h];exact aq [] (by simp only[go_sem,nx]) (by first|rfl|simp[go_sem,bJ])
def WE(l:Lm)(most:Int):aj pg Eo [.agg (B5 l),.int .i64 most] (.bool (Yb l most)):=by
 refine ao gh ?_;unfold Yb;by_cases q1:l.mn<0
 .rw[az (.inl q1)];simp only[go_sem,gh,aF q1];exact ah
 by_cases q2:l.mn>most
 .rw[az (.inr q2)];simp only[go_sem,gh,aI q1,aF q2];exact ah
 rw[an (by omega)];cases hh:l.hs
 .rw[az rfl];simp only[go_sem,gh,aI q1,aI q2,hh];exact ah
 .rw[an (by decide)];by_cases q3:l.mn<=l.mx
  .simp only[go_sem,gh,aI q1,aI q2,hh,aF (show l.mx>=l.mn from q3)];exact aq [] (by simp only[go_sem,aF q3,dM]) (by first|rfl|simp[go_sem,bJ])
  .simp only[go_sem,gh,aI q1,aI q2,hh,aI (show ¬l.mx>=l.mn from q3)];exact aq [] (by simp only[go_sem,aI q3,dF]) (by first|rfl|simp[go_sem,bJ])
def acN(g:Gl):aj pg En [.agg [.int .i64 g.v,.bool g.mu]] (.bool (rM g.v)):=by
 refine ao tQ ?_;simp only[go_sem,tQ];refine aa (acR g.v) ?_;exact ah
def JH(l:List Int)(hl:l.length<=9223372036854775807):aj pg IU [.sl 1 (l.map aS)] (.bool (mF l)):=by
 refine ao yN ?_;obtain⟨G,hG⟩:∃G,mF l=G:=⟨_,rfl⟩
 rw[hG];simp only[go_sem,yN];refine aA (λk:Nat=>⟨[(3,.int .i64 k),(0,.sl 1 (l.map aS))],[]⟩) (λk=>k<=l.length/\G=mF (l.drop k)) (λk=>l.length-k) 0 ⟨dx _,hG.symm⟩ (Wk.of ?_ ?_) ?_
 .simp only[go_sem];try simp
 .simp only[go_sem]
 rintro k ⟨hk,hy⟩;by_cases h5:(k:Int)<(l.length:Int)
 .have hk':k<l.length:=by omega
  rw[agT hk']at hy;have e9:=cK hk' (by omega);have cc:=acR (av l k);cases hb:rM (av l k)
  .rw[hb]at cc hy;obtain rfl:G=false:=hy;simp only[go_sem,aF h5];refine⟨by omega,h5,?_⟩;refine aa (cc) ?_;exact ah
  .rw[hb,dM]at hy;rw[hb]at cc;simp only[go_sem,aF h5];refine⟨by omega,h5,?_⟩;refine aa (cc) ?_;refine aH (k+1) ⟨show k+1<=l.length by omega,hy⟩ (show l.length-(k+1)<l.length-k by omega) (Wk.of ?_ ?_)
   .simp only[go_sem,e9];try simp
   .simp only[go_sem]
 .rw[a_ (by omega)]at hy;obtain rfl:G=true:=hy;simp only[go_sem,aI h5];exact ah
def WP(x:Tb):aj pg Gi [.agg (Dd x)] (.int .i64 (Mv x)):=by
 refine ao wU ?_;have c1:=acP x.e;have c2:=WE x.l 1024;unfold Mv;simp only[go_sem,wU];refine ae (c1) ?_;cases Mg x.e
 .simp only[go_sem];exact aq [] (by simp only[go_sem];try rfl) (by rfl)
 .simp only[go_sem];refine ae (c2) ?_;cases Yb x.l 1024
  .simp only[go_sem];exact aq [] (by simp only[go_sem];try rfl) (by rfl)
  .simp only[go_sem];exact aq [] (by simp only[go_sem];try rfl) (by rfl)
def WH(l:Lm):aj pg Lg [.agg (B5 l)] (.int .i64 (KY l)):=by
 refine ao BD ?_;have c2:=WE l 256;unfold KY;simp only[go_sem,BD];refine ae (c2) ?_;cases Yb l 256
 .simp only[go_sem];exact aq [] (by simp only[go_sem];try rfl) (by rfl)
 .simp only[go_sem];exact aq [] (by simp only[go_sem];try rfl) (by rfl)
end
section
def pq(F:Fa):au:=⟨38,4,[[.int .i64 F.p,.int .i64 F.i,.int .i64 F.l,.int .i64 F.c]],true⟩
def gr{α:Type}(g:Nat->α->Fa):Nat->List α->Fa->Fa
 | _,[],F=>F
 | i,x::l,F=>if F.c≠0 then F else gr g (i+1) l (g i x)
def pZ{α:Type}[Inhabited α]{g:Nat->α->Fa}{l:List α}{i:Nat}(h:i<l.length)(F:Fa)(hF:F.c=0):gr g i (l.drop i) F=gr g (i+1) (l.drop (i+1)) (g i (av l i)):=by
 rw[dV h,gr,an (by simp[hF])]
def p7{α:Type}{g:Nat->α->Fa}{l:List α}{i:Nat}(F:Fa)(hF:F.c≠0):gr g i l F=F:=by
 cases l with
 | nil=>rfl
 | cons r l=>rw[gr,az hF]
def ae6{p n most:Int}(h:(xq p n most).c=0):xq p n most=cB:=by
 unfold xq at h⊢;split at h
 .cases h
 .rename_i q;rw[an q]
def Cj{p i e:Int}(h:(fF p i e).c=0):fF p i e=cB:=by
 unfold fF at h⊢;split at h
 .rename_i q;rw[az q]
 .rename_i q;exact absurd h q
def tyF(m:Md):Fa:=gr (λi x=>fF 1 i (CS x)) 0 m.ts (xq 1 m.ts.length 64)
attribute[local go_sem] bY aM aW du bT cX iz pq
def ajq(m:Md)(h:yD m):aj pg Gj [ba m] (iz (tyF m)):=by
 refine ao wV ?_;obtain⟨G,hG⟩:∃G,tyF m=G:=⟨_,rfl⟩
 rw[hG];have hts:=h.ts;have c0:=pF 1 m.ts.length 64;simp only[iz]at c0;simp only[go_sem,wV,ba];refine aa (c0) ?_;refine aA (λq:Nat×Fa=>⟨[(4,.int .i64 q.1),(1,.mp 1 12 0 0),(3,.mp 3 4 0 0),(2,.mp 2 4 0 0)],[(3,pq q.2),(2,pq cB),(1,⟨33,12,[nX m],true⟩)]⟩) (λq=>q.1<=m.ts.length/\(q.2.c=0->q.2=cB)/\G=gr (λi x=>fF 1 i (CS x)) q.1 (m.ts.drop q.1) q.2) (λq=>m.ts.length-q.1) (0,xq 1 m.ts.length 64) ⟨dx _,ae6,hG.symm⟩ (Wk.of ?_ ?_) ?_
 .simp only[go_sem];try simp
 .simp only[go_sem];try simp[cB]
 rintro⟨j,E⟩ ⟨hj,ZB,hx⟩;simp only at hj ZB hx;by_cases h1:(j:Int)<(m.ts.length:Int);rotate_left
 .rw[a_ (by omega)]at hx;obtain rfl:G=E:=hx;simp only[go_sem,aI h1];exact aq [] (by simp only[go_sem];try rfl) (by rfl)
 have hj':j<m.ts.length:=by omega
 have e8:=cK hj' (by omega);have cn:=fW E;simp only[iz]at cn;by_cases hE:E.c=0;rotate_left
 .rw[p7 E hE]at hx;obtain rfl:G=E:=hx;rw[ac hE]at cn;simp only[go_sem,aF h1];refine aa (cn) ?_;exact aq [] (by simp only[go_sem];try rfl) (by rfl)
 rw[aD hE]at cn;rw[pZ hj' E hE]at hx;have hEl:=ZB hE;have ca:=qq 1 j (CS (av m.ts j));simp only[iz]at ca;have sx:=pU hts.2 hj';have d1:=JH (av m.ts j).ps (by have:=sx.1;omega);have d2:=JH (av m.ts j).rs (by have:=sx.2;omega);simp only[go_sem,aF h1];refine ae (cn) ?_;by_cases q1:((av m.ts j).ps.length:Int)>8
 .have hf:CS (av m.ts j)=6:=by unfold CS;rw[az (.inl (by omega))]
  rw[hf]at ca hx;simp only[go_sem,aF q1];refine⟨by omega,h1,?_⟩;refine aa (ca) ?_;refine aH (j+1,fF 1 j 6) ⟨show j+1<=m.ts.length by omega,Cj,hx⟩ (show m.ts.length-(j+1)<m.ts.length-j by omega) (Wk.of ?_ ?_)
  .simp only[go_sem,e8];try simp
  .simp only[go_sem]
 by_cases q2:((av m.ts j).rs.length:Int)>8
 .have hf:CS (av m.ts j)=6:=by unfold CS;rw[az (.inr (by omega))]
  rw[hf]at ca hx;simp only[go_sem,aI q1,aF q2];refine⟨by omega,h1,?_⟩;refine aa (ca) ?_;refine aH (j+1,fF 1 j 6) ⟨show j+1<=m.ts.length by omega,Cj,hx⟩ (show m.ts.length-(j+1)<m.ts.length-j by omega) (Wk.of ?_ ?_)
  .simp only[go_sem,e8];try simp
  .simp only[go_sem]
 have hf0:CS (av m.ts j)=if mF (av m.ts j).ps=false\/mF (av m.ts j).rs=false then 12 else 0:=by unfold CS;rw[an (by omega)]
 simp only[go_sem,aI q1,aI q2];refine⟨by omega,h1,?_⟩;refine ae (d1) ?_;cases v1:mF (av m.ts j).ps
 .have hf:CS (av m.ts j)=12:=by rw[hf0,az (.inl v1)]
  rw[hf]at ca hx;simp only[go_sem];refine aa (ca) ?_;refine aH (j+1,fF 1 j 12) ⟨show j+1<=m.ts.length by omega,Cj,hx⟩ (show m.ts.length-(j+1)<m.ts.length-j by omega) (Wk.of ?_ ?_)
  .simp only[go_sem,e8];try simp
  .simp only[go_sem]
 simp only[go_sem];refine ae (d2) ?_;cases v2:mF (av m.ts j).rs
 .have hf:CS (av m.ts j)=12:=by rw[hf0,az (.inr v2)]
  rw[hf]at ca hx;simp only[go_sem];refine aa (ca) ?_;refine aH (j+1,fF 1 j 12) ⟨show j+1<=m.ts.length by omega,Cj,hx⟩ (show m.ts.length-(j+1)<m.ts.length-j by omega) (Wk.of ?_ ?_)
  .simp only[go_sem,e8];try simp
  .simp only[go_sem]
 .have hf:CS (av m.ts j)=0:=by rw[hf0,an (by rw[v1,v2];simp)]
  rw[hf,show fF 1 j 0=E by rw[hEl];rfl]at hx;simp only[go_sem];refine aH (j+1,E) ⟨show j+1<=m.ts.length by omega,ZB,hx⟩ (show m.ts.length-(j+1)<m.ts.length-j by omega) (Wk.of ?_ ?_)
  .simp only[go_sem,e8];try simp
  .simp only[go_sem]
end
section
attribute[local go_sem] bY aM aW du bT cX iz pq
def rF(m:Md)(h:m.ims.length<=140737488355328)(k:Int):aj pg AX [ba m,.int .i64 k] (.int .i64 (dH k m.ims:Nat)):=by
 refine ao pP ?_;simp only[go_sem,pP,ba];refine aA (λj:Nat=>⟨[(6,.int .i64 j),(5,.int .i64 (dH k (m.ims.take j):Nat)),(2,.mp 2 12 0 0),(1,.int .i64 k)],[(2,⟨33,12,[nX m],true⟩)]⟩) (λj=>j<=m.ims.length) (λj=>m.ims.length-j) 0 (dx _) (Wk.of ?_ ?_) ?_
 .simp only[go_sem,jK,dH];try simp
 .simp only[go_sem]
 intro j hj;by_cases h1:(j:Int)<(m.ims.length:Int)
 .have hj':j<m.ims.length:=by omega
  have e8:=cK hj' (by omega);have t:=M5 (k:=k) hj';have hle:dH k (m.ims.take j)<=m.ims.length:=gD (iO k (m.ims.take j)) (by rw[vm];omega);by_cases q:(av m.ims j).k=k
  .rw[az q]at t;have w:IntKind.i64.wrap ((dH k (m.ims.take j):Int)+1)=((dH k (m.ims.take j)+1:Nat):Int):=by rw[wi (by omega) (by omega)];omega
   simp only[go_sem,aF h1,aD q];refine⟨by omega,h1,aH (j+1) (show j+1<=m.ims.length by omega) (show m.ims.length-(j+1)<m.ims.length-j by omega) (Wk.of ?_ ?_)⟩
   .simp only[go_sem,e8,t,w];try simp
   .simp only[go_sem]
  .rw[an q,Nat.add_zero]at t;simp only[go_sem,aF h1,ac q];refine⟨by omega,h1,aH (j+1) (show j+1<=m.ims.length by omega) (show m.ims.length-(j+1)<m.ims.length-j by omega) (Wk.of ?_ ?_)⟩
   .simp only[go_sem,e8,t];try simp
   .simp only[go_sem]
 .obtain rfl:j=m.ims.length:=by omega
  rw[rN];simp only[go_sem,aI h1];exact ah
end
section
def mmF(m:Md):Fa:=gr (λi x=>fF 5 i (KY x)) 0 m.ms (xq 5 m.ms.length (2-(dH 2 m.ims:Nat)))
attribute[local go_sem] bY aM aW du bT cX iz pq
def ajm(m:Md)(h:yD m):aj pg IR [ba m] (iz (mmF m)):=by
 refine ao yL ?_;obtain⟨G,hG⟩:∃G,mmF m=G:=⟨_,rfl⟩
 rw[hG];have hts:=h.ms;have ci:=rF m h.ims 2;have hle:=gD (iO 2 m.ims) h.ims;have w:IntKind.i64.wrap (2-(dH 2 m.ims:Int))=2-(dH 2 m.ims:Int):=wi (by omega) (by omega);have c0:=pF 5 m.ms.length (2-(dH 2 m.ims:Nat));simp only[iz]at c0;simp only[ba,aM]at ci;simp only[go_sem,yL,ba];refine ax ci (by simp[go_sem]) rfl ?_;simp only[go_sem,w];refine ax c0 (by simp[go_sem]) rfl ?_;simp only[go_sem];refine aA (λq:Nat×Fa=>⟨[(4,.int .i64 q.1),(1,.mp 1 12 0 0),(3,.mp 3 4 0 0),(2,.mp 2 4 0 0)],[(3,pq q.2),(2,pq cB),(1,⟨33,12,[nX m],true⟩)]⟩) (λq=>q.1<=m.ms.length/\G=gr (λi x=>fF 5 i (KY x)) q.1 (m.ms.drop q.1) q.2) (λq=>m.ms.length-q.1) (0,xq 5 m.ms.length (2-(dH 2 m.ims:Nat))) ⟨dx _,hG.symm⟩ (Wk.of ?_ ?_) ?_
 .simp only[go_sem];try simp
 .simp only[go_sem];try simp[cB]
 rintro⟨j,E⟩ ⟨hj,hx⟩;simp only at hj hx;by_cases h1:(j:Int)<(m.ms.length:Int);rotate_left
 .rw[a_ (by omega)]at hx;obtain rfl:G=E:=hx;simp only[go_sem,aI h1];exact aq [] (by simp only[go_sem];try rfl) (by rfl)
 have hj':j<m.ms.length:=by omega
 have e8:=cK hj' (by omega);have cn:=fW E;simp only[iz]at cn;by_cases hE:E.c=0;rotate_left
 .rw[p7 E hE]at hx;obtain rfl:G=E:=hx;rw[ac hE]at cn;simp only[go_sem,aF h1];refine aa (cn) ?_;exact aq [] (by simp only[go_sem];try rfl) (by rfl)
 rw[aD hE]at cn;rw[pZ hj' E hE]at hx;have cm:=WH (av m.ms j);have ca:=qq 5 j (KY (av m.ms j));simp only[iz]at ca;simp only[cX]at cm;simp only[go_sem,aF h1];refine aa (cn) ?_;refine⟨by omega,h1,?_⟩;refine aa (cm) ?_;refine aa (ca) ?_;refine aH (j+1,fF 5 j (KY (av m.ms j))) ⟨show j+1<=m.ms.length by omega,hx⟩ (show m.ms.length-(j+1)<m.ms.length-j by omega) (Wk.of ?_ ?_)
 .simp only[go_sem,e8];try simp
 .simp only[go_sem]
end
section
def tbF(m:Md):Fa:=gr (λi x=>fF 4 i (Mv x)) 0 m.tbs (xq 4 m.tbs.length (4-(dH 1 m.ims:Nat)))
attribute[local go_sem] bY aM aW du bT cX iz pq
def ajp(m:Md)(h:yD m):aj pg Er [ba m] (iz (tbF m)):=by
 refine ao tY ?_;obtain⟨G,hG⟩:∃G,tbF m=G:=⟨_,rfl⟩
 rw[hG];have hts:=h.tbs;have ci:=rF m h.ims 1;have hle:=gD (iO 1 m.ims) h.ims;have w:IntKind.i64.wrap (4-(dH 1 m.ims:Int))=4-(dH 1 m.ims:Int):=wi (by omega) (by omega);have c0:=pF 4 m.tbs.length (4-(dH 1 m.ims:Nat));simp only[iz]at c0;simp only[ba,aM]at ci;simp only[go_sem,tY,ba];refine ax ci (by simp[go_sem]) rfl ?_;simp only[go_sem,w];refine ax c0 (by simp[go_sem]) rfl ?_;simp only[go_sem];refine aA (λq:Nat×Fa=>⟨[(4,.int .i64 q.1),(1,.mp 1 12 0 0),(3,.mp 3 4 0 0),(2,.mp 2 4 0 0)],[(3,pq q.2),(2,pq cB),(1,⟨33,12,[nX m],true⟩)]⟩) (λq=>q.1<=m.tbs.length/\G=gr (λi x=>fF 4 i (Mv x)) q.1 (m.tbs.drop q.1) q.2) (λq=>m.tbs.length-q.1) (0,xq 4 m.tbs.length (4-(dH 1 m.ims:Nat))) ⟨dx _,hG.symm⟩ (Wk.of ?_ ?_) ?_
 .simp only[go_sem];try simp
 .simp only[go_sem];try simp[cB]
 rintro⟨j,E⟩ ⟨hj,hx⟩;simp only at hj hx;by_cases h1:(j:Int)<(m.tbs.length:Int);rotate_left
 .rw[a_ (by omega)]at hx;obtain rfl:G=E:=hx;simp only[go_sem,aI h1];exact aq [] (by simp only[go_sem];try rfl) (by rfl)
 have hj':j<m.tbs.length:=by omega
 have e8:=cK hj' (by omega);have cn:=fW E;simp only[iz]at cn;by_cases hE:E.c=0;rotate_left
 .rw[p7 E hE]at hx;obtain rfl:G=E:=hx;rw[ac hE]at cn;simp only[go_sem,aF h1];refine aa (cn) ?_;exact aq [] (by simp only[go_sem];try rfl) (by rfl)
 rw[aD hE]at cn;rw[pZ hj' E hE]at hx;have cm:=WP (av m.tbs j);have ca:=qq 4 j (Mv (av m.tbs j));simp only[iz]at ca;simp only[bT]at cm;simp only[go_sem,aF h1];refine aa (cn) ?_;refine⟨by omega,h1,?_⟩;refine aa (cm) ?_;refine aa (ca) ?_;refine aH (j+1,fF 4 j (Mv (av m.tbs j))) ⟨show j+1<=m.tbs.length by omega,hx⟩ (show m.tbs.length-(j+1)<m.tbs.length-j by omega) (Wk.of ?_ ?_)
 .simp only[go_sem,e8];try simp
 .simp only[go_sem]
end
section
def cdF(m:Md):Fa:=gr (λi x=>fF 3 i (Dw x)) 0 m.fs (xq 3 m.fs.length (64-(dH 0 m.ims:Nat)))
attribute[local go_sem] bY aM aW du bT cX eY iz pq
def aje(m:Md)(h:yD m):aj pg Gg [ba m] (iz (cdF m)):=by
 refine ao wS ?_;obtain⟨G,hG⟩:∃G,cdF m=G:=⟨_,rfl⟩
 rw[hG];have hts:=h.fs;have ci:=rF m h.ims 0;have hle:=gD (iO 0 m.ims) h.ims;have w:IntKind.i64.wrap (64-(dH 0 m.ims:Int))=64-(dH 0 m.ims:Int):=wi (by omega) (by omega);have c0:=pF 3 m.fs.length (64-(dH 0 m.ims:Nat));simp only[iz]at c0;simp only[ba,aM]at ci;simp only[go_sem,wS,ba];refine ax ci (by simp[go_sem]) rfl ?_;simp only[go_sem,w];refine ax c0 (by simp[go_sem]) rfl ?_;simp only[go_sem];refine aA (λq:Nat×Fa=>⟨[(4,.int .i64 q.1),(1,.mp 1 12 0 0),(3,.mp 3 4 0 0),(2,.mp 2 4 0 0)],[(3,pq q.2),(2,pq cB),(1,⟨33,12,[nX m],true⟩)]⟩) (λq=>q.1<=m.fs.length/\(q.2.c=0->q.2=cB)/\G=gr (λi x=>fF 3 i (Dw x)) q.1 (m.fs.drop q.1) q.2) (λq=>m.fs.length-q.1) (0,xq 3 m.fs.length (64-(dH 0 m.ims:Nat))) ⟨dx _,ae6,hG.symm⟩ (Wk.of ?_ ?_) ?_
 .simp only[go_sem];try simp
 .simp only[go_sem];try simp[cB]
 rintro⟨j,E⟩ ⟨hj,ZB,hx⟩;simp only at hj ZB hx;by_cases h1:(j:Int)<(m.fs.length:Int);rotate_left
 .rw[a_ (by omega)]at hx;obtain rfl:G=E:=hx;simp only[go_sem,aI h1];exact aq [] (by simp only[go_sem];try rfl) (by rfl)
 have hj':j<m.fs.length:=by omega
 have e8:=cK hj' (by omega);have cn:=fW E;simp only[iz]at cn;by_cases hE:E.c=0;rotate_left
 .rw[p7 E hE]at hx;obtain rfl:G=E:=hx;rw[ac hE]at cn;simp only[go_sem,aF h1];refine aa (cn) ?_;exact aq [] (by simp only[go_sem];try rfl) (by rfl)
 rw[aD hE]at cn;rw[pZ hj' E hE]at hx;have hEl:=ZB hE;have ca:=qq 3 j (Dw (av m.fs j));simp only[iz]at ca;have sx:=pU hts.2 hj';have d1:=qs (av m.fs j).t;have d2:=JH (av m.fs j).lo (by have:=sx.1;omega);simp only[go_sem,aF h1];refine aa (cn) ?_;refine⟨by omega,h1,?_⟩;refine ae (d1) ?_;cases v1:re (av m.fs j).t
 .have hf:Dw (av m.fs j)=11:=by unfold Dw;rw[az v1]
  rw[hf]at ca hx;simp only[go_sem];refine aa (ca) ?_;refine aH (j+1,fF 3 j 11) ⟨show j+1<=m.fs.length by omega,Cj,hx⟩ (show m.fs.length-(j+1)<m.fs.length-j by omega) (Wk.of ?_ ?_)
  .simp only[go_sem,e8];try simp
  .simp only[go_sem]
 by_cases q1:((av m.fs j).lo.length:Int)>64
 .have hf:Dw (av m.fs j)=6:=by unfold Dw;rw[an (by simp[v1]),az (by omega)]
  rw[hf]at ca hx;simp only[go_sem,aF q1];refine aa (ca) ?_;refine aH (j+1,fF 3 j 6) ⟨show j+1<=m.fs.length by omega,Cj,hx⟩ (show m.fs.length-(j+1)<m.fs.length-j by omega) (Wk.of ?_ ?_)
  .simp only[go_sem,e8];try simp
  .simp only[go_sem]
 simp only[go_sem,aI q1];refine ae (d2) ?_;cases v2:mF (av m.fs j).lo
 .have hf:Dw (av m.fs j)=12:=by unfold Dw;rw[an (by simp[v1]),an (by omega),az v2]
  rw[hf]at ca hx;simp only[go_sem];refine aa (ca) ?_;refine aH (j+1,fF 3 j 12) ⟨show j+1<=m.fs.length by omega,Cj,hx⟩ (show m.fs.length-(j+1)<m.fs.length-j by omega) (Wk.of ?_ ?_)
  .simp only[go_sem,e8];try simp
  .simp only[go_sem]
 .have hf:Dw (av m.fs j)=0:=by unfold Dw;rw[an (by simp[v1]),an (by omega),an (by simp[v2])]
  rw[hf,show fF 3 j 0=E by rw[hEl];rfl]at hx;simp only[go_sem];refine aH (j+1,E) ⟨show j+1<=m.fs.length by omega,ZB,hx⟩ (show m.fs.length-(j+1)<m.fs.length-j by omega) (Wk.of ?_ ?_)
  .simp only[go_sem,e8];try simp
  .simp only[go_sem]
end
section
def gdF(P:bj->Bool)(m:Md):Fa:=gr (λi x=>if rM x.g.v=false then fF 6 i 12 else Fb P 6 i x.i) 0 m.gs (xq 6 m.gs.length (32-(dH 3 m.ims:Nat)))
attribute[local go_sem] bY aM aW du bT cX nP iz pq
def ajk(P:bj->Bool)(m:Md)(h:yD m)(hP:∀y,C_ y->aj pg e_ [fN y] (.bool (P y))):aj pg CA [ba m] (iz (gdF P m)):=by
 refine ao se ?_;obtain⟨G,hG⟩:∃G,gdF P m=G:=⟨_,rfl⟩
 rw[hG];have hts:=h.gs;have ci:=rF m h.ims 3;have hle:=gD (iO 3 m.ims) h.ims;have w:IntKind.i64.wrap (32-(dH 3 m.ims:Int))=32-(dH 3 m.ims:Int):=wi (by omega) (by omega);have c0:=pF 6 m.gs.length (32-(dH 3 m.ims:Nat));simp only[iz]at c0;simp only[ba,aM]at ci;simp only[go_sem,se,ba];refine ax ci (by simp[go_sem]) rfl ?_;simp only[go_sem,w];refine ax c0 (by simp[go_sem]) rfl ?_;simp only[go_sem];refine aA (λq:Nat×Fa=>⟨[(4,.int .i64 q.1),(1,.mp 1 12 0 0),(3,.mp 3 4 0 0),(2,.mp 2 4 0 0)],[(3,pq q.2),(2,pq cB),(1,⟨33,12,[nX m],true⟩)]⟩) (λq=>q.1<=m.gs.length/\G=gr (λi x=>if rM x.g.v=false then fF 6 i 12 else Fb P 6 i x.i) q.1 (m.gs.drop q.1) q.2) (λq=>m.gs.length-q.1) (0,xq 6 m.gs.length (32-(dH 3 m.ims:Nat))) ⟨dx _,hG.symm⟩ (Wk.of ?_ ?_) ?_
 .simp only[go_sem];try simp
 .simp only[go_sem];try simp[cB]
 rintro⟨j,E⟩ ⟨hj,hx⟩;simp only at hj hx;by_cases h1:(j:Int)<(m.gs.length:Int);rotate_left
 .rw[a_ (by omega)]at hx;obtain rfl:G=E:=hx;simp only[go_sem,aI h1];exact aq [] (by simp only[go_sem];try rfl) (by rfl)
 have hj':j<m.gs.length:=by omega
 have e8:=cK hj' (by omega);have cn:=fW E;simp only[iz]at cn;by_cases hE:E.c=0;rotate_left
 .rw[p7 E hE]at hx;obtain rfl:G=E:=hx;rw[ac hE]at cn;simp only[go_sem,aF h1];refine aa (cn) ?_;exact aq [] (by simp only[go_sem];try rfl) (by rfl)
 rw[aD hE]at cn;rw[pZ hj' E hE]at hx;have cm:=acN (av m.gs j).g;have ca:=qq 6 j 12;simp only[iz]at ca;have sx:=pU hts.2 hj';have cr:=Bc P 6 j (av m.gs j).i sx (λy hy=>hP y (sx.2 y hy));simp only[iz]at cr;simp only[go_sem,aF h1];refine aa (cn) ?_;refine⟨by omega,h1,?_⟩;refine ae (cm) ?_;cases v1:rM (av m.gs j).g.v
 .rw[az v1]at hx;simp only[go_sem];refine aa (ca) ?_;refine aH (j+1,fF 6 j 12) ⟨show j+1<=m.gs.length by omega,hx⟩ (show m.gs.length-(j+1)<m.gs.length-j by omega) (Wk.of ?_ ?_)
  .simp only[go_sem,e8];try simp
  .simp only[go_sem]
 .rw[an (by simp[v1])]at hx;simp only[go_sem];refine⟨by omega,h1,?_⟩;refine aa (cr) ?_;refine aH (j+1,Fb P 6 j (av m.gs j).i) ⟨show j+1<=m.gs.length by omega,hx⟩ (show m.gs.length-(j+1)<m.gs.length-j by omega) (Wk.of ?_ ?_)
  .simp only[go_sem,e8];try simp
  .simp only[go_sem]
def stF(m:Md):Fa:=if m.hs=true/\re m.st=false then fF 8 0 11 else cB
def abk(m:Md):aj pg Gh [ba m] (iz (stF m)):=by
 refine ao o3 ?_;have c1:=qs m.st;have ca:=qq 8 0 11;simp only[iz]at ca;unfold stF;cases hh:m.hs
 .rw[an (by simp)];simp only[go_sem,o3,ba,hh];exact aq [] (by simp only[go_sem];try rfl) (by rfl)
 .simp only[go_sem,o3,ba,hh];refine ae (c1) ?_;cases v:re m.st
  .rw[az (by simp)];simp only[go_sem];refine aa (ca) ?_;exact ah
  .rw[an (by simp)];simp only[go_sem];exact aq [] (by simp only[go_sem];try rfl) (by rfl)
end
def bn(l:List UInt8)(i:Nat):Nat:=(av l i).toNat
def BS(l:List UInt8)(i:Nat):bn l i<256:=(av l i).toNat_lt
def Id(l:List UInt8):Nat×Nat:=Lib.decodeN l.length (bn l 0) (bn l 1) (bn l 2) (bn l 3)
def OR{l:List UInt8}(h:bn l 0<128):Id l=(bn l 0,1):=by
 unfold Id Lib.decodeN;rw[az h]
def ah5(l:List UInt8):1<=(Id l).2/\(Id l).2<=4:=by
 unfold Id Lib.decodeN
 repeat' split
 all_goals simp only;omega
def brk(l:List UInt8):Prop:=3<=l.length/\bn l 0=239/\bn l 1=191/\bn l 2=189
def Zc{l:List UInt8}(h0:¬bn l 0<128):(Id l).2=1↔((Id l).1=65533/\¬brk l):=by
 have a1:=BS l 1;have a2:=BS l 2;have a3:=BS l 3;have a0:=BS l 0;unfold Id brk Lib.decodeN;generalize bn l 0=b0 at*;generalize bn l 1=b1 at*;generalize bn l 2=b2 at*;generalize bn l 3=b3 at*;generalize l.length=n;rw[an h0];constructor
 .repeat' split
  all_goals
   intro hh
   first
   | (simp at hh;done)
   | (refine⟨rfl,?_⟩;omega)
 .repeat' split
  all_goals
   rintro⟨hh,hb⟩
   first
   | rfl
   | (exfalso;simp only at hh;omega)
def ND(x:Nat):Bool:=decide (x<55296)||(decide (x>57343)&&decide (x<=1114111))
def uy(b:Nat):Prop:=¬(b<128\/b>=192)
instance(b:Nat):Decidable (uy b):=by unfold uy;exact inferInstance
def HQ(l:List UInt8):Nat×Nat :=
 if bn l 0<128 then(bn l 0,1)else
 if 192<=bn l 0/\bn l 0<224 then(if 2<=l.length/\uy (bn l 1)/\128<=(bn l 0-192)*64+bn l 1-128/\ND ((bn l 0-192)*64+bn l 1-128)=true then((bn l 0-192)*64+bn l 1-128,2)else(0,0))else
 if 224<=bn l 0/\bn l 0<240 then(if 3<=l.length/\uy (bn l 1)/\uy (bn l 2)/\2048<=((bn l 0-224)*64+bn l 1-128)*64+bn l 2-128/\ND (((bn l 0-224)*64+bn l 1-128)*64+bn l 2-128)=true then(((bn l 0-224)*64+bn l 1-128)*64+bn l 2-128,3)else(0,0))else
 if 240<=bn l 0/\bn l 0<248 then(if 4<=l.length/\uy (bn l 1)/\uy (bn l 2)/\uy (bn l 3)/\65536<=(((bn l 0-240)*64+bn l 1-128)*64+bn l 2-128)*64+bn l 3-128/\ND ((((bn l 0-240)*64+bn l 1-128)*64+bn l 2-128)*64+bn l 3-128)=true then((((bn l 0-240)*64+bn l 1-128)*64+bn l 2-128)*64+bn l 3-128,4)else(0,0))else(0,0)
def PR{l:List UInt8}(h0:¬bn l 0<128):HQ l=if(Id l).2=1 then(0,0)else Id l:=by
 have a1:=BS l 1;have a2:=BS l 2;have a3:=BS l 3;have a0:=BS l 0;unfold Id HQ Lib.decodeN ND uy;generalize bn l 0=b0 at*;generalize bn l 1=b1 at*;generalize bn l 2=b2 at*;generalize bn l 3=b3 at*;generalize l.length=n;simp only[Az,dX,ol];rw[an h0,an h0]
 repeat' split
 all_goals first|rfl|(exfalso;omega)|(exfalso;simp_all;omega)|(apply Prod.ext<;>simp only<;>omega)
def aer(l:List UInt8)(i:Nat):((⟨l.toArray⟩:ByteArray).get! i).toNat=bn l i:=by
 unfold bn av;show(l.toArray[i]!).toNat=_;simp
def adS(l:List UInt8)(i:Nat):Utf8.decode ⟨l.toArray⟩ i=Id (l.drop i):=by
 rw[Lib.decode_at];unfold Id;simp only[aer,Su];have h:∀k,bn (l.drop i) k=bn l (i+k):=λk=>by unfold bn;rw[LS]
 rw[h,h,h,h,Nat.add_zero];rfl
def acd(l:List UInt8):Lib.decodeL l=Id l:=adS l 0
def XN{l:List UInt8}(h:0<l.length)(hg:bn l 0<128\/(Id l).2≠1):uv l=uv (l.drop (Id l).2)/\(Id l).2<=l.length:=by
 have hl:=ME.1 h;have h2:=Lib.validD_step l hl;have h3:=Lib.decodeL_le l hl;rw[acd]at h2 h3;refine⟨h2.trans (an λq=>?_),h3⟩;rcases hg with h|h
 .rw[OR h]at q;exact absurd q.1 (by simp only;omega)
 .exact h q.2
def agP{l:List UInt8}(h:0<l.length)(h0:¬bn l 0<128)(h1:(Id l).2=1):uv l=false:=by
 have h2:=Lib.validD_step l (ME.1 h);rw[acd,az ⟨((Zc h0).1 h1).1,h1⟩]at h2;exact h2
section
def X3(s p:List UInt8):Bool:=decide (p.length<=s.length)&&(s.take p.length==p)
attribute[local go_sem] bY
def r3(n:Int):List AV:=[.int .i32 n]
def ajd(n:Int):r3 n=[.int .i32 n]:=rfl
attribute[go_sem] ajd
def alh(v:AV):Prop:=aV v=[]
end
def smS(s:List UInt8):Prop:=s.length<=1048576
def rw_(r:List Int):List AV:=[.sl 1 (r.map aS)]
def alB(r:List Int):rw_ r=[.sl 1 (r.map aS)]:=rfl
attribute[go_sem] alB
def xk(l:List UInt8)(x:Nat):Nat->Nat
 | 0=>x
 | 1=>x
 | k+2=>xk l x (k+1)*64+bn l (k+1)-128
def agX{l:List UInt8}{x k:Nat}(h:1<=k):xk l x (k+1)=xk l x k*64+bn l k-128:=by
 obtain⟨k,rfl⟩:∃j,k=j+1:=⟨k-1,by omega⟩
 rfl
def Qi{l:List UInt8}{x:Nat}(hx:x<32):∀k,(∀j,1<=j->j<k+1->uy (bn l j))->xk l x (k+1)<32*64^k
 | 0,_=>by simpa[xk]using hx
 | k+1,h=>by
  have h1:=Qi hx k (λj hj hk=>h j hj (by omega));have h2:=h (k+1) (by omega) (by omega);unfold uy at h2;show xk l x (k+1)*64+bn l (k+1)-128<_;rw[Nat.pow_succ];omega
noncomputable def Yc(l:List UInt8)(n qc x:Nat):Nat×Nat :=
 open Classical in if n<=l.length/\(∀j,1<=j->j<n->uy (bn l j))/\qc<=xk l x n/\ND (xk l x n)=true then(xk l x n,n)else(0,0)
def W5{l:List UInt8}(h:bn l 0<128):HQ l=(bn l 0,1):=by unfold HQ;rw[az h]
def ajz{l:List UInt8}(h1:192<=bn l 0)(h2:bn l 0<224):HQ l=Yc l 2 128 (bn l 0-192):=by
 unfold HQ Yc;rw[an (by omega),az ⟨h1,h2⟩];have e:xk l (bn l 0-192) 2=(bn l 0-192)*64+bn l 1-128:=rfl;rw[e];by_cases hc:uy (bn l 1)
 .have hj:∀j,1<=j->j<2->uy (bn l j):=λj a b=>by rw[show j=1 by omega];exact hc
  by_cases hh:2<=l.length/\128<=(bn l 0-192)*64+bn l 1-128/\ND ((bn l 0-192)*64+bn l 1-128)=true
  .rw[az ⟨hh.1,hc,hh.2.1,hh.2.2⟩,az ⟨hh.1,hj,hh.2.1,hh.2.2⟩]
  .rw[an (λq=>hh ⟨q.1,q.2.2.1,q.2.2.2⟩),an (λq=>hh ⟨q.1,q.2.2.1,q.2.2.2⟩)]
 .rw[an (λq=>hc q.2.1),an (λq=>hc (q.2.1 1 (by decide) (by decide)))]
def ajA{l:List UInt8}(h1:224<=bn l 0)(h2:bn l 0<240):HQ l=Yc l 3 2048 (bn l 0-224):=by
 unfold HQ Yc;rw[an (by omega),an (by omega),az ⟨h1,h2⟩];have e:xk l (bn l 0-224) 3=((bn l 0-224)*64+bn l 1-128)*64+bn l 2-128:=rfl;rw[e];by_cases hc:uy (bn l 1)/\uy (bn l 2)
 .have hj:∀j,1<=j->j<3->uy (bn l j):=λj a b=>by
   rcases(show j=1\/j=2 by omega)with rfl|rfl
   .exact hc.1
   .exact hc.2
  by_cases hh:3<=l.length/\2048<=((bn l 0-224)*64+bn l 1-128)*64+bn l 2-128/\ND (((bn l 0-224)*64+bn l 1-128)*64+bn l 2-128)=true
  .rw[az ⟨hh.1,hc.1,hc.2,hh.2.1,hh.2.2⟩,az ⟨hh.1,hj,hh.2.1,hh.2.2⟩]
  .rw[an (λq=>hh ⟨q.1,q.2.2.2.1,q.2.2.2.2⟩),an (λq=>hh ⟨q.1,q.2.2.1,q.2.2.2⟩)]
 .rw[an (λq=>hc ⟨q.2.1,q.2.2.1⟩),an (λq=>hc ⟨q.2.1 1 (by decide) (by decide),q.2.1 2 (by decide) (by decide)⟩)]
def ajB{l:List UInt8}(h1:240<=bn l 0)(h2:bn l 0<248):HQ l=Yc l 4 65536 (bn l 0-240):=by
 unfold HQ Yc;rw[an (by omega),an (by omega),an (by omega),az ⟨h1,h2⟩];have e:xk l (bn l 0-240) 4=(((bn l 0-240)*64+bn l 1-128)*64+bn l 2-128)*64+bn l 3-128:=rfl;rw[e];by_cases hc:uy (bn l 1)/\uy (bn l 2)/\uy (bn l 3)
 .have hj:∀j,1<=j->j<4->uy (bn l j):=λj a b=>by
   rcases(show j=1\/j=2\/j=3 by omega)with rfl|rfl|rfl
   .exact hc.1
   .exact hc.2.1
   .exact hc.2.2
  by_cases hh:4<=l.length/\65536<=(((bn l 0-240)*64+bn l 1-128)*64+bn l 2-128)*64+bn l 3-128/\ND ((((bn l 0-240)*64+bn l 1-128)*64+bn l 2-128)*64+bn l 3-128)=true
  .rw[az ⟨hh.1,hc.1,hc.2.1,hc.2.2,hh.2.1,hh.2.2⟩,az ⟨hh.1,hj,hh.2.1,hh.2.2⟩]
  .rw[an (λq=>hh ⟨q.1,q.2.2.2.2.1,q.2.2.2.2.2⟩),an (λq=>hh ⟨q.1,q.2.2.1,q.2.2.2⟩)]
 .rw[an (λq=>hc ⟨q.2.1,q.2.2.1,q.2.2.2.1⟩),an (λq=>hc ⟨q.2.1 1 (by decide) (by decide),q.2.1 2 (by decide) (by decide),q.2.1 3 (by decide) (by decide)⟩)]
def acT{l:List UInt8}(h1:128<=bn l 0)(h2:bn l 0<192\/248<=bn l 0):HQ l=(0,0):=by
 unfold HQ;rw[an (by omega),an (by omega),an (by omega),an (by omega)]
def mA{l:List UInt8}{n qc x:Nat}(h:¬(n<=l.length/\(∀j,1<=j->j<n->uy (bn l j))/\qc<=xk l x n/\ND (xk l x n)=true)):Yc l n qc x=(0,0):=by
 unfold Yc;rw[an h]
def JB{l:List UInt8}{n qc x:Nat}(h:n<=l.length/\(∀j,1<=j->j<n->uy (bn l j))/\qc<=xk l x n/\ND (xk l x n)=true):Yc l n qc x=(xk l x n,n):=by
 unfold Yc;rw[az h]
def agR{l:List UInt8}(h:0<l.length)(hz:(HQ l).2≠0):uv l=uv (l.drop (HQ l).2)/\(HQ l).2<=l.length:=by
 by_cases h0:bn l 0<128
 .have e:HQ l=Id l:=(W5 h0).trans (OR h0).symm;rw[e];exact XN h (.inl h0)
 .rw[PR h0]at hz⊢;split at hz
  .exact absurd rfl hz
  .rename_i h1;rw[an h1];exact XN h (.inr h1)
def agS{l:List UInt8}(h:0<l.length)(hz:(HQ l).2=0):uv l=false:=by
 by_cases h0:bn l 0<128
 .rw[W5 h0]at hz;cases hz
 .rw[PR h0]at hz;have hw:=ah5 l;split at hz
  .exact agP h h0 ‹_›
  .omega
