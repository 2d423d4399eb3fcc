import Derived.Test.YthhglklcaodfmaaGreatDoorCQn
set_option linter.all false
set_option maxRecDepth 100000
set_option maxHeartbeats 40000000
namespace Go.Proofs.YthhglklcaodfmaaGreatDoor
section
open Go Go.Mw
def EM{α:Type}[Inhabited α]{l:List α}{i:Nat}(h:i<l.length):av l i∈l:=by rw[aY h];exact eH h
def EJ(i:Int)(l:List bj):Bool:=l.any λx=>x.op==210&&x.a==i
def Ds{α:Type}[Inhabited α]{p:α->Bool}{l:List α}{j:Nat}(h:j<l.length):(l.drop j).any p=(p (av l j)||(l.drop (j+1)).any p):=by rw[dV h,List.any_cons]
def ze{α:Type}{p:α->Bool}{l:List α}{j:Nat}(h:l.length<=j):(l.drop j).any p=false:=by rw[a_ h];rfl
attribute[local go_sem] bY aM fM fZ nP iB cQ
def L5(l:List bj)(i:Int)(h:l.length<=1000000):aj pg Gq [.sl 9 (l.map cQ),.int .i64 i] (.bool (EJ i l)):=by
 refine ao wZ ?_;obtain⟨R,hR⟩:∃R,EJ i l=R:=⟨_,rfl⟩
 rw[hR];simp only[go_sem,wZ];refine aA (λj:Nat=>⟨[(5,.int .i64 j),(0,.sl 9 (l.map cQ)),(1,.int .i64 i),(4,.bool false)],[]⟩) (λj=>j<=l.length/\R=(l.drop j).any λx=>x.op==210&&x.a==i) (λj=>l.length-j) 0 ⟨dx _,hR.symm⟩ (Wk.of ?_ ?_) ?_
 .simp only[go_sem];try simp
 .simp only[go_sem]
 rintro j ⟨hj,hR⟩;by_cases h1:(j:Int)<(l.length:Int);rotate_left
 .rw[ze (by omega)]at hR;subst hR;simp only[go_sem,aI h1];exact aq [] (by rfl) (by rfl)
 have hj':j<l.length:=by omega
 have e8:=cK hj' (by omega);rw[Ds hj']at hR;by_cases q:(av l j).op=210;rotate_left
 .rw[show((av l j).op==210)=false from ac q,dF,jW]at hR;simp only[go_sem,aF h1,ac q];refine⟨by omega,h1,aH (j+1) ⟨show j+1<=l.length by omega,hR⟩ (show l.length-(j+1)<l.length-j by omega) (Wk.of ?_ ?_)⟩
  .simp only[go_sem,e8];try simp
  .simp only[go_sem]
 by_cases q2:(av l j).a=i
 .rw[show((av l j).op==210)=true from aD q,show((av l j).a==i)=true from aD q2,dM,nx]at hR;subst hR;simp only[go_sem,aF h1,aD q,aD q2];refine⟨by omega,h1,by omega,h1,?_⟩;exact aq [] (by rfl) (by rfl)
 .rw[show((av l j).a==i)=false from ac q2,Bool.and_false,jW]at hR;simp only[go_sem,aF h1,aD q,ac q2];refine⟨by omega,h1,by omega,h1,aH (j+1) ⟨show j+1<=l.length by omega,hR⟩ (show l.length-(j+1)<l.length-j by omega) (Wk.of ?_ ?_)⟩
  .simp only[go_sem,e8];try simp
  .simp only[go_sem]
def Ig(i:Int)(e:Ex):Bool:=e.k==0&&e.i==i
def Nb(i:Int)(e:El):Bool:=e.it.any (EJ i)
def OT(m:Md)(i:Int):Bool:=m.exs.any (Ig i)||(m.gs.any (λg=>EJ i g.i)||m.els.any (Nb i))
def Kv:∀(l acc:List Int)(i:Int),i∈l.foldl xQ acc↔i∈acc\/i∈l
 | [],acc,i=>by simp
 | x::l,acc,i=>by
  rw[List.foldl_cons,Kv l];unfold xQ;split
  .rename_i h;simp only[bM];constructor
   .rintro(h1|h1)
    .exact .inl h1
    .exact .inr (.inr h1)
   .rintro(h1|h1|h1)
    .exact .inl h1
    .subst h1;exact .inl h
    .exact .inr h1
  .simp only[gW,fS,bM,or_assoc,cH,or_false]
def abo(l:List bj)(i:Int):i∈zQ l↔EJ i l=true:=by
 unfold zQ EJ;simp only[fb,List.mem_filter,vp,dX,beq_iff_eq];constructor
 .rintro⟨x,⟨h1,h2⟩,h3⟩;exact⟨x,h1,h2,h3⟩
 .rintro⟨x,h1,h2,h3⟩;exact⟨x,⟨h1,h2⟩,h3⟩
def adT(m:Md)(i:Int):decide (i∈(bO m).de)=OT m i:=by
 rw[xJ,decide_eq_true_iff];show i∈(OS m).foldl xQ []↔_;rw[Kv];unfold OS OT;simp only[cH,false_or,gW,pK,abo,fb,List.mem_filter,Az,vp,Ig,Nb,dX,beq_iff_eq];constructor
 .rintro((⟨g,h1,h2⟩|⟨e,h1,l,h2,h3⟩)|⟨x,⟨h1,h2⟩,h3⟩)
  .exact .inr (.inl ⟨g,h1,h2⟩)
  .exact .inr (.inr ⟨e,h1,l,h2,h3⟩)
  .exact .inl ⟨x,h1,h2,h3⟩
 .rintro(⟨x,h1,h2,h3⟩|⟨g,h1,h2⟩|⟨e,h1,l,h2,h3⟩)
  .exact .inr ⟨x,⟨h1,h2⟩,h3⟩
  .exact .inl (.inl ⟨g,h1,h2⟩)
  .exact .inl (.inr ⟨e,h1,l,h2,h3⟩)
def PK(m:Md)(hb:B_ m)(i:Int):aj pg AY [ba m,.int .i64 i] (.bool ((bO m).dec i)):=by
 refine ao lk ?_;have cf:=EU m hb.ims hb.fs;unfold Sp.dec;rw[adT];simp only[ba,aM]at cf;generalize (bO m).fs.length=n at cf⊢;have b1:=hb.exs;have b2:=hb.gs;have b3:=hb.els;by_cases h0:i<0
 .rw[aI (by omega),dF];simp only[go_sem,lk,ba,aF h0];exact aq [] (by rfl) (by rfl)
 simp only[go_sem,lk,ba,aI h0];refine ae (cf) ?_;by_cases h2:i>=(n:Int)
 .rw[aI (by omega),dF];simp only[go_sem,aF h2];exact aq [] (by rfl) (by rfl)
 rw[aF (by omega),dM];obtain⟨D,hD⟩:∃D,OT m i=D:=⟨_,rfl⟩
 rw[hD];unfold OT at hD;simp only[go_sem,aI h2];refine aA (λj:Nat=>⟨[(5,.int .i64 j),(1,.int .i64 i),(4,.bool false),(2,.mp 2 12 0 0)],[(2,⟨33,12,[nX m],true⟩)]⟩) (λj=>j<=m.exs.length/\D=((m.exs.drop j).any (Ig i)||(m.gs.any (λg=>EJ i g.i)||m.els.any (Nb i)))) (λj=>m.exs.length-j) 0 ⟨dx _,hD.symm⟩ (Wk.of ?_ ?_) ?_
 .simp only[go_sem];try simp
 .simp only[go_sem]
 rintro j ⟨hj,hR⟩;by_cases h1:(j:Int)<(m.exs.length:Int)
 .have hj':j<m.exs.length:=by omega
  have e8:=cK hj' (by omega);rw[Ds hj']at hR;by_cases q:(av m.exs j).k=0;rotate_left
  .have e:Ig i (av m.exs j)=false:=by unfold Ig;rw[ac q];rfl
   rw[e,jW]at hR;simp only[go_sem,aF h1,ac q];refine⟨by omega,h1,aH (j+1) ⟨show j+1<=m.exs.length by omega,hR⟩ (show m.exs.length-(j+1)<m.exs.length-j by omega) (Wk.of ?_ ?_)⟩
   .simp only[go_sem,e8];try simp
   .simp only[go_sem]
  by_cases q2:(av m.exs j).i=i
  .have e:Ig i (av m.exs j)=true:=by unfold Ig;rw[aD q,aD q2];rfl
   rw[e,nx,nx]at hR;subst hR;simp only[go_sem,aF h1,aD q,aD q2];refine⟨by omega,h1,by omega,h1,?_⟩;exact aq [] (by rfl) (by rfl)
  .have e:Ig i (av m.exs j)=false:=by unfold Ig;rw[aD q,ac q2];rfl
   rw[e,jW]at hR;simp only[go_sem,aF h1,aD q,ac q2];refine⟨by omega,h1,by omega,h1,aH (j+1) ⟨show j+1<=m.exs.length by omega,hR⟩ (show m.exs.length-(j+1)<m.exs.length-j by omega) (Wk.of ?_ ?_)⟩
   .simp only[go_sem,e8];try simp
   .simp only[go_sem]
 rw[ze (by omega),jW]at hR;simp only[go_sem,aI h1];clear hj;refine aA (λj:Nat=>⟨[(6,.int .i64 j),(1,.int .i64 i),(4,.bool false),(2,.mp 2 12 0 0)],[(2,⟨33,12,[nX m],true⟩)]⟩) (λj=>j<=m.gs.length/\D=((m.gs.drop j).any (λg=>EJ i g.i)||m.els.any (Nb i))) (λj=>m.gs.length-j) 0 ⟨dx _,hR⟩ (Wk.of ?_ ?_) ?_
 .simp only[go_sem];try simp
 .simp only[go_sem]
 rintro k ⟨hk,hR⟩;by_cases h3:(k:Int)<(m.gs.length:Int)
 .have hk':k<m.gs.length:=by omega
  have e8:=cK hk' (by omega);rw[Ds hk']at hR;have cn:=L5 (av m.gs k).i i (hb.gi _ (EM hk'));generalize hN:EJ i (av m.gs k).i=N at cn hR;simp only[go_sem,aF h3];refine⟨by omega,h3,?_⟩;refine ae (cn) ?_;cases N
  .rw[jW]at hR;simp only[go_sem];refine aH (k+1) ⟨show k+1<=m.gs.length by omega,hR⟩ (show m.gs.length-(k+1)<m.gs.length-k by omega) (Wk.of ?_ ?_)
   .simp only[go_sem,e8];try simp
   .simp only[go_sem]
  .rw[nx,nx]at hR;subst hR;simp only[go_sem];exact aq [] (by rfl) (by rfl)
 rw[ze (by omega),jW]at hR;simp only[go_sem,aI h3];clear hk;refine aA (λj:Nat=>⟨[(7,.int .i64 j),(1,.int .i64 i),(4,.bool false),(2,.mp 2 12 0 0)],[(2,⟨33,12,[nX m],true⟩)]⟩) (λj=>j<=m.els.length/\D=(m.els.drop j).any (Nb i)) (λj=>m.els.length-j) 0 ⟨dx _,hR⟩ (Wk.of ?_ ?_) ?_
 .simp only[go_sem];try simp
 .simp only[go_sem]
 rintro k ⟨hk,hR⟩;by_cases h4:(k:Int)<(m.els.length:Int);rotate_left
 .rw[ze (by omega)]at hR;subst hR;simp only[go_sem,aI h4];exact aq [] (by rfl) (by rfl)
 have hk':k<m.els.length:=by omega
 have e8:=cK hk' (by omega);rw[Ds hk']at hR;unfold Nb at hR;obtain⟨hi1,hi2⟩:=hb.ei _ (EM hk');simp only[go_sem,aF h4];refine aA (λj:Nat=>⟨[(8,.int .i64 j),(7,.int .i64 k),(1,.int .i64 i),(4,.bool false),(2,.mp 2 12 0 0)],[(2,⟨33,12,[nX m],true⟩)]⟩) (λj=>j<=(av m.els k).it.length/\D=(((av m.els k).it.drop j).any (EJ i)||(m.els.drop (k+1)).any (Nb i))) (λj=>(av m.els k).it.length-j) 0 ⟨dx _,hR⟩ (Wk.of ?_ ?_) ?_
 .simp only[go_sem];try simp
 .simp only[go_sem]
 rintro t ⟨ht,hR⟩;by_cases h5:(t:Int)<((av m.els k).it.length:Int);rotate_left
 .rw[ze (by omega),jW]at hR;simp only[go_sem,aI h5];refine⟨by omega,h4,aH (k+1) ⟨show k+1<=m.els.length by omega,hR⟩ (show m.els.length-(k+1)<m.els.length-k by omega) (Wk.of ?_ ?_)⟩
  .simp only[go_sem,e8];try simp
  .simp only[go_sem]
 have ht':t<(av m.els k).it.length:=by omega
 have e9:=cK ht' (by omega);rw[Ds ht']at hR;have cn:=L5 (av (av m.els k).it t) i (hi2 _ (EM ht'));generalize hN:EJ i (av (av m.els k).it t)=N at cn hR;simp only[go_sem,aF h5];refine⟨by omega,h4,by omega,h4,by omega,h5,?_⟩;refine ae (cn) ?_;cases N
 .rw[jW]at hR;simp only[go_sem];refine aH (t+1) ⟨show t+1<=(av m.els k).it.length by omega,hR⟩ (show(av m.els k).it.length-(t+1)<(av m.els k).it.length-t by omega) (Wk.of ?_ ?_)
  .simp only[go_sem,e9];try simp
  .simp only[go_sem]
 .rw[nx,nx]at hR;subst hR;simp only[go_sem];exact aq [] (by rfl) (by rfl)
end
open Go Go.Mw
def ab9:∀(l:List Im)(s:Sp),l.foldl Cm s =⟨s.ts,s.fs++(l.filter λx=>x.k==0).map (·.f),s.tb++(l.filter λx=>x.k==1).map (λx=>⟨x.te,x.tl⟩),s.ms++(l.filter λx=>x.k==2).map (·.me),s.gs++(l.filter λx=>x.k==3).map (·.g),s.el,s.ds,l.foldl (λl x=>k9 x.k l) s.im,s.de⟩
 | [],s=>by simp
 | x::l,s=>by
  rw[List.foldl_cons,ab9 l];unfold Cm;dsimp only;by_cases h0:x.k=0
  .simp[h0,List.filter_cons]
  by_cases h1:x.k=1
  .simp[h1,List.filter_cons]
  by_cases h2:x.k=2
  .simp[h2,List.filter_cons]
  by_cases h3:x.k=3
  .simp[h3,List.filter_cons]
  .simp[h0,h1,h2,h3,List.filter_cons]
def acu:∀(l:List Gd)(s:Sp),l.foldl DR s={s with gs:=s.gs++l.map (·.g),de:=(l.flatMap λg=>zQ g.i).foldl xQ s.de}
 | [],s=>by simp
 | g::l,s=>by
  rw[List.foldl_cons,acu l];simp[DR,yl,yA,List.foldl_append]
def acA:∀(l:List (List bj))(de:List Int),Iq l de=(l.flatMap zQ).foldl xQ de
 | [],de=>rfl
 | x::l,de=>by
  show Iq l (yl x de)=_;rw[acA l];simp[yl,yA,List.foldl_append]
def acg:∀(l:List El)(s:Sp),l.foldl Na s={s with el:=s.el++l.map (·.ty),de:=(l.flatMap λe=>e.it.flatMap zQ).foldl xQ s.de}
 | [],s=>by simp
 | e::l,s=>by
  rw[List.foldl_cons,acg l];simp[Na,acA,yA,List.foldl_append]
def ach:∀(l:List Ex)(s:Sp),l.foldl If s={s with de:=((l.filter λe=>e.k==0).map (·.i)).foldl xQ s.de}
 | [],s=>by simp
 | e::l,s=>by
  rw[List.foldl_cons,ach l];by_cases h:e.k=0
  .simp[If,h,List.filter_cons]
  .simp[If,h,List.filter_cons]
def aiN(m:Md):mk8 m=bO m:=by
 unfold mk8 mk7 mk6;rw[ach,acg,acu];unfold mk5 mk4 mk3 mk2;rw[ab9];simp[mk1,sp0,bO,OS,List.foldl_append]
section
def gS(m:Md)(s:Sp)(F:Fa):au:=⟨77,17,[nX m++[tg s,.int .i64 F.p,.int .i64 F.i,.int .i64 F.l,.int .i64 F.c]],true⟩
def B4(m:Md)(s:Sp)(F:Fa):gS m s F =⟨77,17,[nX m++[tg s,.int .i64 F.p,.int .i64 F.i,.int .i64 F.l,.int .i64 F.c]],true⟩:=rfl
def GS:List (Int×Int)->Nat
 | []=>0
 | r::l=>if r.2≠0 then 1 else GS l+1
def Dj(g:FuncId)(ag:Nat->List AV)(m:Md)(s:Sp)(E:Nat->List (Nat×au))(res:List (Int×Int)):Prop :=
 ∀i,i<res.length->(∀j,j<i->(av res j).2=0)->∀F:Fa,F.c=0->bA pg g (ag i) ((1000,gS m s F)::E i) P3 (λr' σ'=>r' = .tup [.int .i64 (av res i).1,.int .i64 (av res i).2]/\σ'=(1000,gS m s F)::E (i+1))
structure okE(E:Nat->List (Nat×au)):Prop where
 g:∀i,∀p∈E i,ak (E i) p.1=some p.2
 n:∀i,∀p∈E i,p.1≠1000/\(P3 p.1\/p.1=2000)
 k:∀i j,∀p∈E i,(ak (E j) p.1).isSome=true
def nQ{k:Nat}{o:au}:∀{l X:List (Nat×au)},ak l k=some o->ak (l++X) k=some o
 | [],X,h=>by cases h
 | (j,p)::l,X,h=>by
  simp only[ak,oG]at h⊢;split
  .rename_i hj;rw[az hj]at h;exact h
  .rename_i hj;rw[an hj]at h;exact nQ h
def AN{k j:Nat}(hk:¬k=j):∀l:List (Nat×au),ak (oD l k) j=ak l j
 | []=>rfl
 | (a,o)::l=>by
  simp only[oD,ak];by_cases h:a=k
  .rw[az h,an (λq=>hk (by rw[<-h,q])),AN hk l]
  .rw[an h];simp only[ak,AN hk l]
def acv{n:Int}{l:List (Int×Int)}{i:Nat}(h:i<l.length)(F:Fa)(hF:F.c=0):ee n i (l.drop i) F=ee n (i+1) (l.drop (i+1)) (dE F n i (av l i).1 (av l i).2):=Uk h F hF
def DS{n:Int}{l:List (Int×Int)}{i:Nat}(F:Fa)(hF:F.c≠0):ee n i l F=F:=by
 cases l with
 | nil=>rfl
 | cons r l=>rw[ee,az hF]
attribute[-go_sem] zl in
attribute[local go_sem] bY B4 aM bF aR
def D0{f g:FuncId}{caps:List AV}{ag:Nat->List AV}{m:Md}{s:Sp}{E:Nat->List (Nat×au)}{res:List (Int×Int)}(hf:Dj g ag m s E res)(hE:okE E)(hfc:∀(i:Nat)(d:Option Nat)(w:St)(K:St->Prop),cO pg g (ag i) d w K->OX pg (.fn f caps) [.int .i64 i] d w K)(hcl:∀i F,X0 (.tup []) ((1000,gS m s F)::E i)=true)(hcp:caps.any (mP 2000)=false)(hr:res.length<=1000000)(part:Int)(F:Fa) :
  bA pg dJ [.mp 1000 17 0 0,.int .i64 part,.int .i64 res.length,.fn f caps] ((1000,gS m s F)::E 0) P3 (λr' σ'=>r' = .tup []/\σ'=(1000,gS m s (ee part 0 res F))::E (if F.c≠0 then 0 else GS res)):=by
 refine b_ nH ?_;obtain⟨T,hT⟩:∃T,ee part 0 res F=T:=⟨_,rfl⟩
 obtain⟨J,hJ⟩:∃J,(if F.c≠0 then 0 else GS res)=J:=⟨_,rfl⟩
 rw[hT,hJ];simp only[go_sem,nH];refine aA (λq:Nat×Fa=>⟨[(8,.int .i64 q.1),(3,.fn f caps),(2,.int .i64 res.length),(1,.int .i64 part),(0,.mp 1000 17 0 0)],(1000,gS m s q.2)::E q.1⟩)
  (λq=>q.1<=res.length/\ee part q.1 (res.drop q.1) q.2=T/\(if q.2.c≠0 then q.1 else q.1+GS (res.drop q.1))=J/\(q.2.c=0->∀j,j<q.1->(av res j).2=0)) (λq=>res.length-q.1+(if q.2.c≠0 then 0 else 1)) (0,F) ⟨dx _,hT,by rw[<-hJ];simp,λ_ j hj=>absurd hj (Nat.not_lt_zero j)⟩ (Wk.le ?_ ?_) ?_
 .intro p hp;simp only[bM,cH,or_false]at hp;rcases hp with rfl|rfl|rfl|rfl|rfl<;>rfl
 .intro p hp;rcases bM.1 hp with rfl|hp
  .rfl
  .show(if 1000=p.1 then _ else ak (E 0) p.1)=_;rw[an (λq=>(hE.n 0 p hp).1 q.symm)];exact hE.g 0 p hp
 rintro⟨i,G⟩ ⟨hi,hx,hy,hz⟩;dsimp only at hi hx hy hz;by_cases h1:(i:Int)<(res.length:Int);rotate_left
 .simp only[go_sem,aI h1];have hie:i=res.length:=by omega
  have e1:G=T:=by rw[hie,a_ (aQ _)]at hx;exact hx
  have e2:i=J:=by
   rw[hie,a_ (aQ _)]at hy;rw[<-hy,hie];split<;>rfl
  subst e1 e2;exact⟨(λ_ h=>by cases h),_,Wk.refl _,[],.tup [],_,rfl,(λi o hi=>by simp only[go_sem,B4]at hi⊢;exact hi),lr (by have:=hcl i G;simp only[go_sem]at this⊢;exact this),⟨rfl,rfl⟩⟩
 have hi':i<res.length:=by omega
 by_cases h2:G.c=0;rotate_left
 .simp only[go_sem,aF h1,ac h2];have e1:G=T:=by rw[DS G h2]at hx;exact hx
  have e2:i=J:=by rw[az h2]at hy;exact hy
  subst e1 e2;exact⟨(λ_ h=>by cases h),_,Wk.refl _,[],.tup [],_,rfl,(λi o hi=>by simp only[go_sem,B4]at hi⊢;exact hi),lr (by have:=hcl i G;simp only[go_sem]at this⊢;exact this),⟨rfl,rfl⟩⟩
 have e8:=cK hi' (by omega);rw[acv hi' G h2]at hx;have hfi:=hf i hi' (hz h2) G h2;have hE1:=hE;simp only[go_sem,aF h1,aD h2];refine hfc i _ _ _ ?_;have hn1000:∀k,∀p∈E k,¬(1000=p.1):=λk p hp q=>(hE.n k p hp).1 q.symm;have hgE:∀k,∀p∈E k,∀o:au,ak ((1000,o)::E k) p.1=some p.2:=λk p hp o=>by
  show(if 1000=p.1 then _ else ak (E k) p.1)=_;rw[an (hn1000 k p hp)];exact hE.g k p hp
 have hkE:∀k j,∀p∈E k,∀o:au,(ak ((1000,o)::E j) p.1).isSome=true:=λk j p hp o=>by
  show(if 1000=p.1 then _ else ak (E j) p.1).isSome=true;rw[an (hn1000 k p hp)];exact hE.k k j p hp
 refine gZ hfi [2000] (λp hp=>?_) (λp hp=>?_) (λp hp=>?_) ?_
 .rcases bM.1 hp with rfl|hp
  .rfl
  .exact hgE i p hp _
 .rcases bM.1 hp with rfl|hp
  .exact .inl ⟨⟨show 1000<=1000 by decide,show 1000<2000 by decide⟩,rfl⟩
  .rcases(hE.n (i+1) p hp).2 with q|q
   .exact .inl ⟨q,hkE (i+1) i p hp _⟩
   .exact .inr ⟨by rw[q];simp,by rw[q];exact .inr (by decide),.inl (hkE (i+1) i p hp _)⟩
 .rcases bM.1 hp with rfl|hp
  .rfl
  .exact hkE i (i+1) p hp _
 have hcp':mP 2000 (.fn f caps)=false:=rfl;generalize jm [2000] _=X;generalize hR:av res i=R at hx hy;have hst:GS (res.drop i)=if R.2≠0 then 1 else GS (res.drop (i+1))+1:=by rw[dV hi',GS,hR]
 rw[an (λq=>q h2),hst]at hy;by_cases h3:R.2=0
 .rw[an (λq=>q h3)]at hy;have hfa:dE G part i R.1 R.2=G:=by unfold dE;rw[an (λq=>q.2 h3)]
  rw[hfa]at hx;simp only[go_sem,hcp,ay h3,hR]
  refine aH (i+1,G) ⟨show i+1<=res.length by omega,hx,by rw[an (λq=>q h2)];rw[<-hy];show i+1+GS (res.drop (i+1))=_;omega,λ_ j hj=>by
   by_cases hji:j=i
   .rw[hji,hR];exact h3
   .exact hz h2 j (by have hj:j<i+1:=hj;omega)⟩ (by show res.length-(i+1)+_<res.length-i+_;rw[an (λq=>q h2)];omega) (Wk.le ?_ ?_)
  .intro p hp;simp only[bM,cH,or_false]at hp;rcases hp with rfl|rfl|rfl|rfl|rfl
   all_goals
    simp only[go_sem,e8]
    try simp
  .intro p hp;rcases bM.1 hp with rfl|hp
   .simp only[go_sem]
   .show(if 1000=p.1 then _ else ak (E (i+1)++X) p.1)=_;rw[an (hn1000 (i+1) p hp)];exact nQ (hE.g (i+1) p hp)
 rw[az h3]at hy;have hfa:dE G part i R.1 R.2 =⟨part,i,R.1,R.2⟩:=by unfold dE;rw[az ⟨h2,h3⟩]
 rw[hfa]at hx;simp only[go_sem,hcp,aE h3,hR];refine aH (i+1,⟨part,i,R.1,R.2⟩) ⟨show i+1<=res.length by omega,hx,by rw[az h3];rw[<-hy],λq=>absurd q h3⟩ (by show res.length-(i+1)+_<res.length-i+_;rw[az h3,an (λq=>q h2)];omega) (Wk.le ?_ ?_)
 .intro p hp;simp only[bM,cH,or_false]at hp;rcases hp with rfl|rfl|rfl|rfl|rfl
  all_goals
   simp only[go_sem,e8]
   try simp
 .intro p hp;rcases bM.1 hp with rfl|hp
  .simp only[go_sem]
  .show(if 1000=p.1 then _ else ak (oD (E (i+1)++X) 1000) p.1)=_;rw[an (hn1000 (i+1) p hp),AN (hn1000 (i+1) p hp)];exact nQ (hE.g (i+1) p hp)
end
section
attribute[local go_sem] bY aW cX bT lc bV cQ
def Xo(op:Int):aj pg Cp [.int .i64 op] (.int .i64 (f8 op)):=by
 refine ao dC ?_;unfold f8;by_cases h1:op=106
 .subst h1;simp only[go_sem,dC];exact aw
 by_cases h2:op=107
 .subst h2;simp only[go_sem,dC];exact aw
 by_cases h3:op=108
 .subst h3;simp only[go_sem,dC];exact aw
 rw[an (by omega)];by_cases h4:op=124
 .subst h4;simp only[go_sem,dC];exact aw
 by_cases h5:op=125
 .subst h5;simp only[go_sem,dC];exact aw
 by_cases h6:op=126
 .subst h6;simp only[go_sem,dC];exact aw
 rw[an (by omega)];simp only[go_sem,dC,ac h1,ac h2,ac h3,ac h4,ac h5,ac h6];exact aw
def agp(s:Sp)(x:bj)(gl:Int):aj pg FL [tg s,fN x,.int .i64 gl] (.tup [.int .i64 (dO s x gl).1,.int .i64 (dO s x gl).2]):=by
 refine ao dc ?_;have cf:=Fd s;have cd:=Fc s x.a;have cg:=HU s x.a;simp only[bF,aR,lc]at cf cd cg;obtain⟨T,hT⟩:∃T,dO s x gl=T:=⟨_,rfl⟩
 rw[hT];unfold dO at hT;by_cases h1:x.op=65
 .rw[az h1]at hT;subst hT;simp only[go_sem,dc,bF,aR,aD h1];exact aw
 rw[an h1]at hT;by_cases h2:x.op=66
 .rw[az h2]at hT;subst hT;simp only[go_sem,dc,bF,aR,ac h1,aD h2];exact aw
 rw[an h2]at hT;by_cases h3:x.op=208
 .rw[az h3]at hT;subst hT;simp only[go_sem,dc,bF,aR,ac h1,ac h2,aD h3];exact aw
 rw[an h3]at hT;by_cases h4:x.op=210
 .rw[az h4]at hT;by_cases g1:x.a<0
  .rw[az (.inl g1)]at hT;subst hT;simp only[go_sem,dc,bF,aR,ac h1,ac h2,ac h3,aD h4,aF g1];exact aw
  simp only[go_sem,dc,bF,aR,ac h1,ac h2,ac h3,aD h4,aI g1];refine ax cf (by simp[go_sem]) rfl ?_;by_cases g2:x.a>=s.fs.length
  .rw[az (.inr g2)]at hT;subst hT;simp only[go_sem,aF g2];exact aw
  rw[an (by rintro(q|q);exact g1 q;exact g2 q)]at hT;simp only[go_sem,aI g2];refine ae (cd) ?_;cases hd:s.dec x.a
  .rw[az hd]at hT;subst hT;simp only[go_sem];exact aw
  .rw[an (by rw[hd];decide)]at hT;subst hT;simp only[go_sem];exact aw
 rw[an h4]at hT;by_cases h5:x.op=35
 .rw[az h5]at hT;generalize cx s.gs x.a=q at cg hT;cases q with
  | none =>
   dsimp only at hT;subst hT;simp only[go_sem,dc,bF,aR,ac h1,ac h2,ac h3,ac h4,aD h5];refine ae (cg) ?_;simp only[go_sem,Option.isSome_none];exact aw
  | some g =>
   dsimp only at hT;by_cases g2:x.a>=gl
   .rw[az (.inl g2)]at hT;subst hT;simp only[go_sem,dc,bF,aR,ac h1,ac h2,ac h3,ac h4,aD h5];refine ae (cg) ?_;simp only[go_sem,Option.isSome_some,cG,aF g2];exact aw
   cases g3:g.mu
   .rw[an (by rintro(q|q);exact g2 q;rw[g3]at q;cases q)]at hT;subst hT;simp only[go_sem,dc,bF,aR,ac h1,ac h2,ac h3,ac h4,aD h5];refine ae (cg) ?_;simp only[go_sem,Option.isSome_some,cG,aI g2,g3];exact aw
   .rw[az (.inr g3)]at hT;subst hT;simp only[go_sem,dc,bF,aR,ac h1,ac h2,ac h3,ac h4,aD h5];refine ae (cg) ?_;simp only[go_sem,Option.isSome_some,cG,aI g2,g3];exact aw
 rw[an h5]at hT;subst hT;simp only[go_sem,dc,bF,aR,ac h1,ac h2,ac h3,ac h4,ac h5];exact aw
def Nc(l:List bj)(i:Nat)(k:List Int)(want:Int):Int×Int:=if i+1<l.length then(((i+1:Nat):Int),16)else match k with
   | []=>((i:Int),13)
   | a::k'=>if a≠want then((i:Int),12)else if k'≠[]then((i:Int),14)else(0,0)
def PC{k:List Int}{p:Nat}(h:p<k.length):av k.reverse (k.length-1-p)=av k p:=by
 rw[aY (by simp;omega),aY h,List.getElem_reverse];congr 1;omega
def PJ{n:Nat}(h0:0<n)(h:n<1000000000):IntKind.i64.wrap ((n:Int)-1)=((n-1:Nat):Int):=by rw[wi (by omega) (by omega)];omega
def ago(l:List bj)(i:Nat)(k:List Int)(want:Int)(hl:l.length<=1000000)(hi:i<l.length)(hk:k.length<=1000000):aj pg ID [.sl 9 (l.map cQ),.int .i64 i,.sl 1 (k.reverse.map aS),.int .i64 want] (.tup [.int .i64 (Nc l i k want).1,.int .i64 (Nc l i k want).2]):=by
 refine ao i_ ?_;have w1:IntKind.i64.wrap ((i:Int)+1)=((i+1:Nat):Int):=by rw[wi (by omega) (by omega)];omega
 obtain⟨T,hT⟩:∃T,Nc l i k want=T:=⟨_,rfl⟩
 rw[hT];unfold Nc at hT;by_cases h1:((i+1:Nat):Int)<(l.length:Int)
 .rw[az (by omega)]at hT;subst hT;simp only[go_sem,i_,w1,aF h1];exact aw
 rw[an (by omega)]at hT;cases k with
 | nil =>
  dsimp only at hT;subst hT;simp only[go_sem,i_,w1,aI h1,List.reverse_nil,show(((0:Nat):Int)==0)=true from rfl];exact aw
 | cons a k' =>
  dsimp only at hT;have hr0:=PC (k:=a::k') (p:=0) (by simp);have hl2:(a::k').reverse.length=k'.length+1:=by simp
  have hr:av (a::k').reverse (k'.length+1-1)=a:=hr0;generalize (a::k').reverse=kr at hr hl2;obtain⟨n,hn⟩:∃n,k'.length+1=n:=⟨_,rfl⟩
  rw[hn]at hl2 hr;have hz:((n:Int)==0)=false:=ac (by omega);have hw:=PJ (n:=n) (by omega) (by simp only[i9]at hk;omega);by_cases h2:a=want;rotate_left
  .rw[az h2]at hT;subst hT;simp only[go_sem,i_,w1,aI h1,hl2,hz,hw,cL,hr];refine⟨by omega,by omega,?_⟩;simp only[go_sem,aE h2];exact aw
  rw[an (λq=>q h2)]at hT;by_cases h3:(n:Int)>1
  .rw[az (by intro q;rw[q]at hn;simp at hn;omega)]at hT;subst hT;simp only[go_sem,i_,w1,aI h1,hl2,hz,hw,cL,hr,ay h2,aF h3];refine⟨by omega,by omega,?_⟩;exact aw
  .rw[an (by intro q;apply q;exact Sv (by omega))]at hT;subst hT;simp only[go_sem,i_,w1,aI h1,hl2,hz,hw,cL,hr,ay h2,aI h3];refine⟨by omega,by omega,?_⟩;exact aw
def TH(s:Sp)(want gl:Int){l:List bj}{j:Nat}(h:j<l.length)(k:List Int):pn s want gl j (l.drop j) k =
  if f8 (av l j).op≠0 then(match k with
   | a::b::k'=>if a≠f8 (av l j).op\/b≠f8 (av l j).op then((j:Int),12)else pn s want gl (j+1) (l.drop (j+1)) (b::k')
   | [a]=>if a≠f8 (av l j).op then((j:Int),12)else((j:Int),13)
   | []=>((j:Int),13))else
  if(av l j).op=11 then Nc l j k want else
  if(dO s (av l j) gl).2≠0 then((j:Int),(dO s (av l j) gl).2)else pn s want gl (j+1) (l.drop (j+1)) ((dO s (av l j) gl).1::k):=by
 have he:(l.drop (j+1)≠[])↔j+1<l.length:=by
  rw[Ne,List.drop_eq_nil_iff];omega
 rw[dV h,pn.eq_def];dsimp only;unfold Nc;by_cases h1:j+1<l.length
 .simp only[he.2 h1,h1,dR,ne_eq,not_false_eq_true];rcases k with _|⟨a,_|⟨b,k'⟩⟩<;>rfl
 .have:l.drop (j+1)=[]:=XV (by omega);rw[this];simp only[h1,ne_eq,not_true_eq_false,ij];rcases k with _|⟨a,_|⟨b,k'⟩⟩<;>rfl
def Xj(s:Sp)(l:List bj)(want gl:Int)(hl:l.length<=1000000):aj pg Eb [tg s,.sl 9 (l.map cQ),.int .i64 want,.int .i64 gl] (.tup [.int .i64 (pn s want gl 0 l []).1,.int .i64 (pn s want gl 0 l []).2]):=by
 refine ao tw ?_;obtain⟨T,hT⟩:∃T,pn s want gl 0 l []=T:=⟨_,rfl⟩
 rw[hT];simp only[go_sem,tw,bF,aR];refine aA (λq:Nat×List Int=>⟨[(22,.int .i64 q.1),(21,.int .i64 l.length),(20,.sl 9 (l.map cQ)),(10,.ms 900 1 0 q.2.length),(3,.int .i64 gl),(2,.int .i64 want),(1,.sl 9 (l.map cQ)),(0,tg s)],[(900,⟨48,1,q.2.reverse.map aS,false⟩)]⟩)
  (λq=>q.1<=l.length/\q.2.length<=q.1/\pn s want gl q.1 (l.drop q.1) q.2=T) (λq=>l.length-q.1) (0,[]) ⟨dx _,aQ _,hT⟩ ((Wk.nil _ 10 900 1 48 (by simp only[go_sem]) (by decide)).trans (Wk.of ?_ ?_)) ?_
 .simp only[go_sem,St.mknil,bF,aR];try simp
 .simp only[go_sem,St.mknil];try rfl
 rintro⟨j,k⟩ ⟨hj,hk,hx⟩;dsimp only at hj hk hx;by_cases h1:(j:Int)<(l.length:Int);rotate_left
 .have hje:j=l.length:=by omega
  rw[hje,a_ (aQ _)]at hx;simp only[pn]at hx;subst hx;simp only[go_sem,aI h1,bF,aR];exact aw
 have hj':j<l.length:=by omega
 have e8:=cK hj' (by omega);have cn:=Xo (av l j).op;have cl:=agp s (av l j) gl;have ce:=ago l j k want hl hj' (by omega);rw[TH s want gl hj']at hx;simp only[bF,aR,bV]at cl;generalize hX:av l j=X at cn cl hx;generalize f8 X.op=t at cn hx;by_cases h2:t=0;rotate_left
 .rw[az h2]at hx;simp only[go_sem,aF h1,bF,aR,hX];refine⟨by omega,h1,?_⟩;refine ae (cn) ?_;simp only[go_sem,aE h2];refine aA (λp:Nat=>⟨[(32,.int .i64 p),(13,.int .i64 t),(11,.int .i64 j),(22,.int .i64 j),(21,.int .i64 l.length),(20,.sl 9 (l.map cQ)),(10,.ms 900 1 0 k.length),(3,.int .i64 gl),(2,.int .i64 want),(1,.sl 9 (l.map cQ)),(0,tg s)],[(900,⟨48,1,k.reverse.map aS,false⟩)]⟩)
   (λp=>p<=2/\(1<=p->∃r,k=t::r)/\(2<=p->∃r,k=t::t::r)) (λp=>2-p) 0 ⟨by omega,(λh=>by omega),(λh=>by omega)⟩ (Wk.of ?_ ?_) ?_
  .simp only[go_sem,bF,aR];try simp
  .simp only[go_sem];try rfl
  intro p hh;obtain⟨hp,hp1,hp2⟩:p<=2/\(1<=p->∃r,k=t::r)/\(2<=p->∃r,k=t::t::r):=hh;by_cases h3:(p:Int)<2
  .have w1:IntKind.i64.wrap ((k.length:Int)-1)=(k.length:Int)-1:=wi (by omega) (by omega);have w2:IntKind.i64.wrap ((k.length:Int)-1-p)=(k.length:Int)-1-p:=wi (by omega) (by omega);have e9:IntKind.i64.wrap ((p:Int)+1)=((p+1:Nat):Int):=by rw[wi (by omega) (by omega)];omega
   by_cases h4:(k.length:Int)-1-p<0
   .have hT2:T=((j:Int),13):=by
     rw[<-hx];cases k with
     | nil=>rfl
     | cons a r =>
      cases r with
      | nil =>
       have hp':1<=p:=by simp at h4;omega
       obtain⟨r',hr'⟩:=hp1 hp';cases hr';simp
      | cons b r=>simp at h4;omega
    subst hT2;simp only[go_sem,aF h3,w1,w2,aF h4];exact aw
   have hpk:p<k.length:=by omega
   have w3:(k.length:Int)-1-p=((k.length-1-p:Nat):Int):=by omega
   have hn:=PC hpk;have hkr:k.reverse.length=k.length:=List.length_reverse;simp only[go_sem,aF h3,w1,w2,aI h4];rw[w3];simp only[go_sem,cL,dk,hn];by_cases h5:av k p=t;rotate_left
   .have hT2:T=((j:Int),12):=by
     rw[<-hx];cases k with
     | nil=>simp at hpk
     | cons a r =>
      cases r with
      | nil =>
       have:p=0:=by simp at hpk;omega
       subst this;have h5:¬a=t:=h5;simp[h5]
      | cons b r =>
       rcases(show p=0\/p=1 by omega)with rfl|rfl
       .have h5:¬a=t:=h5;simp[h5]
       .have h5:¬b=t:=h5;simp[h5]
    subst hT2;simp only[go_sem,aE h5];refine⟨by omega,by omega,?_⟩;exact aw
   simp only[go_sem,ay h5,e9];refine⟨by omega,by omega,?_⟩;refine aH (p+1) ⟨show p+1<=2 by omega,λ_=>?_,λh6=>?_⟩ (show 2-(p+1)<2-p by omega) (Wk.of ?_ ?_)
   .by_cases hp0:p=0
    .subst hp0;cases k with
     | nil=>simp at hpk
     | cons a r=>exact⟨r,by rw[show a=t from h5]⟩
    .exact hp1 (by omega)
   .have hp0:p=1:=by omega
    subst hp0;obtain⟨r,hr⟩:=hp1 (by omega);subst hr;cases r with
    | nil=>simp at hpk
    | cons b r=>exact⟨r,by rw[show b=t from h5]⟩
   .simp only[go_sem,bF,aR];try simp
   .simp only[go_sem];try rfl
  have hpe:p=2:=by omega
  obtain⟨r,hr⟩:=hp2 (by omega);subst hr;have hx:pn s want gl (j+1) (l.drop (j+1)) (t::r)=T:=by
   rw[<-hx];simp
  have htk:List.take (r.length+1) ((t::t::r).reverse.map aS)=(t::r).reverse.map aS:=by
   rw[List.reverse_cons,dY,List.take_append_of_le_length (by simp),iF (by simp)]
  have hw:=PJ (n:=r.length+1+1) (by omega) (by simp only[i9]at hk;omega);simp only[go_sem,aI h3,hw,cL,dk];refine⟨⟨by omega,by omega⟩,?_⟩;refine aH (j+1,t::r) ⟨show j+1<=l.length by omega,show r.length+1<=j+1 by simp only[i9]at hk;omega,hx⟩ (show l.length-(j+1)<l.length-j by omega) ((Wk.trunc _ 900 (r.length+1) (by rfl)).trans (Wk.of ?_ ?_))
  .simp only[go_sem,e8,bF,aR];try simp
  .simp only[go_sem,htk];try rfl
 rw[an (λq=>q h2)]at hx;simp only[go_sem,aF h1,bF,aR,hX];refine⟨by omega,h1,?_⟩;refine ae (cn) ?_;by_cases h3:X.op=11
 .rw[az h3]at hx;subst hx;simp only[go_sem,ay h2,aD h3];refine be (eJ.frzs [900] _ _) ?_;simp only[go_sem,show k.length=(k.reverse).length from List.length_reverse.symm,aQ,i0,fo,dk];refine aa (ce) ?_;exact ah
 rw[an h3]at hx;generalize dO s X gl=R at cl hx;obtain⟨v,e⟩:=R;dsimp only at cl hx;by_cases h4:e=0;rotate_left
 .rw[az h4]at hx;subst hx;simp only[go_sem,ay h2,ac h3];refine ae (cl) ?_;simp only[go_sem,aE h4];exact aw
 rw[an (λq=>q h4)]at hx;have ha:=cC 900 48 1 k.length aS k.reverse [[.int .i64 v]] List.length_reverse;simp only[go_sem,ay h2,ac h3];refine ae (cl) ?_;simp only[go_sem,ay h4,ha,mh];refine⟨by omega,?_⟩;refine aH (j+1,v::k) ⟨show j+1<=l.length by omega,show k.length+1<=j+1 by omega,hx⟩ (show l.length-(j+1)<l.length-j by omega) (Wk.of ?_ ?_)
 .simp only[go_sem,e8,bF,aR];try simp
 .simp only[go_sem];try simp[aS]
end
section
def zn:(default:Ft).ps=[]:=rfl
def zo:(default:Ft).rs=[]:=rfl
def Kf:∀l:List AV,bg nla l l
 | []=>trivial
 | _::l=>⟨.inl rfl,Kf l⟩
def eJ.nil1(s:St)(l:List AV):eJ s (.nl::l) s (.sl 1 []::l):=eJ.nla ⟨.inr (.inl ⟨rfl,1,rfl⟩),Kf l⟩
def eJ.nil2(s:St)(x:AV):eJ s [x,.nl] s [x,.sl 1 []]:=eJ.nla ⟨.inl rfl,.inr (.inl ⟨rfl,1,rfl⟩),trivial⟩
attribute[local go_sem] bY aW cX bT lc bV zn zo
def PY(b:Bool)(x y:Int):aj pg Jg [.bool b,.int .i64 x,.int .i64 y] (.int .i64 (iN b x y)):=by
 refine ao nh ?_;unfold iN;cases b
 .simp only[go_sem,nh];exact aw
 by_cases h:x=y
 .rw[an (by decide),an (λq=>q h)];simp only[go_sem,nh,ay h];exact aw
 .rw[an (by decide),az h];simp only[go_sem,nh,aE h];exact aw
def JN(t:Int):aj pg NR [.int .i64 t] (.bool (CG t)):=by
 refine ao xN ?_;unfold CG;by_cases h:t=3
 .subst h;simp only[go_sem,xN];exact aw
 .rw[ac h,jW];simp only[go_sem,xN,ac h];exact ah
def ai1(e:Int)(bl:Nat->Option Nat)(M:Nat->Prop)(w:World)(v:Value)(h:bv bl M w v (.tup [.agg [.nl,.nl],.int .i64 e])):bv bl M w v (.tup [.agg [.sl 1 [],.sl 1 []],.int .i64 e]):=by
 obtain⟨cs,rfl,h⟩:=h;refine⟨cs,rfl,?_⟩
 match cs,h with
 | [c,d],⟨h1,h2,_⟩=>exact⟨C0 (bl:=bl) (M:=M) (w:=w) (v:=c) (x:=.agg [.nl,.nl]) (y:=.agg [.sl 1 [],.sl 1 []]) (.inr (.inr ⟨_,_,rfl,rfl,.inr ⟨rfl,1,rfl⟩,.inr ⟨rfl,1,rfl⟩,trivial⟩)) h1,h2,trivial⟩
def kM(e:Int):aj pg Jk [.int .i64 e] (.tup [.agg [.sl 1 [],.sl 1 []],.int .i64 e]):=by
 refine gP (r:=.tup [.agg [.nl,.nl],.int .i64 e]) ?_ (ai1 e) rfl;refine ao za ?_;simp only[go_sem,za];exact ah
def oX(p r:List (List AV)):aj pg Ry [.sl 1 p,.sl 1 r] (.tup [.agg [.sl 1 p,.sl 1 r],.int .i64 0]):=by
 refine ao GV ?_;simp only[go_sem,GV];exact ah
def Fp(s:Sp):Prop:=∀x∈s.ts,x.ps.length<=1000000/\x.rs.length<=1000000
def E_(r:Ft×Int):AV:=.tup [.agg (pt r.1),.int .i64 r.2]
def fnA(s:Sp)(x:bj):Ft×Int:=match s.fn x.a with
  | none=>(default,11)
  | some f=>if x.op=16 then(f,0)else if s.dec x.a=false then(default,22)else(⟨[],[3]⟩,0)
def Ml(s:Sp)(x:bj)(h:Fp s):aj pg CD [tg s,fN x] (E_ (fnA s x)):=by
 refine ao gX ?_;have c1:=Xc s x.a h;have c2:=Fc s x.a;have w1:=kM 11;have w2:=kM 22;have w3:=oX [] [aS 3];unfold fnA E_;generalize s.fn x.a=q at c1⊢;cases q with
 | none =>
  simp only[bF,aR,aW]at c1;simp only[go_sem,gX,bF,aR];refine ae (c1) ?_;simp only[go_sem,Option.isSome_none];refine aa (w1) ?_;exact ah
 | some f =>
  simp only[bF,aR,aW,cG]at c1;by_cases h1:x.op=16
  .simp only[go_sem,gX,bF,aR];refine ae (c1) ?_;simp only[go_sem,Option.isSome_some,aD h1,az h1];exact ah
  cases h2:s.dec x.a
  .rw[h2]at c2;simp only[bF,aR,aW]at c2;simp only[go_sem,gX,bF,aR];refine ae (c1) ?_;simp only[go_sem,Option.isSome_some,ac h1,an h1];refine aa (c2) ?_;refine aa (w2) ?_;exact ah
  .rw[h2]at c2;simp only[bF,aR,aW]at c2;simp only[go_sem,gX,bF,aR];refine ae (c1) ?_;simp only[go_sem,Option.isSome_some,ac h1,an h1];refine aa (c2) ?_;refine be ((eJ.nil1 _ _).trans (eJ.frzs [35] _ _)) ?_;simp only[go_sem];refine aa (w3) ?_;exact ah
def lcA(lo:List Int)(x:bj):Ft×Int:=if x.a>=lo.length then(default,11)else
  if x.op=32 then(⟨[],[av lo x.a.toNat]⟩,0)else if x.op=33 then(⟨[av lo x.a.toNat],[]⟩,0)else(⟨[av lo x.a.toNat],[av lo x.a.toNat]⟩,0)
def Xr(lo:List Int)(x:bj)(h0:0<=x.a)(h:lo.length<=9000000):aj pg Jh [.sl 1 (lo.map aS),fN x] (E_ (lcA lo x)):=by
 refine ao qT ?_;have w1:=kM 11;unfold lcA E_;by_cases h1:x.a>=lo.length
 .rw[az h1];simp only[go_sem,qT,aF h1];refine aa (w1) ?_;exact ah
 obtain⟨n,hn⟩:∃n:Nat,x.a=(n:Int):=⟨x.a.toNat,by omega⟩
 have hn':n<lo.length:=by omega
 rw[an h1,hn,cL];have h1':¬((n:Int)>=lo.length):=by omega
 have w2:=oX [] [aS (av lo n)];have w3:=oX [aS (av lo n)] [];have w4:=oX [aS (av lo n)] [aS (av lo n)];simp only[go_sem,qT,hn,aI h1',cL,dk];refine⟨by omega,?_⟩;by_cases h2:x.op=32
 .rw[az h2];simp only[go_sem,aD h2];refine⟨by omega,?_⟩;refine be ((eJ.nil1 _ _).trans (eJ.frzs [25] _ _)) ?_;simp only[go_sem];refine aa (w2) ?_;exact ah
 by_cases h3:x.op=33
 .rw[an h2,az h3];simp only[go_sem,ac h2,aD h3];refine⟨by omega,?_⟩;refine be ((eJ.nil2 _ _).trans (eJ.frzs [32] _ _)) ?_;simp only[go_sem];refine aa (w3) ?_;exact ah
 .rw[an h2,an h3];simp only[go_sem,ac h2,ac h3];refine⟨by omega,?_⟩;refine be (eJ.frzs [37,39] _ _) ?_;simp only[go_sem];refine aa (w4) ?_;exact ah
def glA(s:Sp)(x:bj):Ft×Int:=match cx s.gs x.a with
  | none=>(default,11)
  | some g=>if x.op=35 then(⟨[],[g.v]⟩,0)else if g.mu=false then(default,18)else(⟨[g.v],[]⟩,0)
def R8(s:Sp)(x:bj):aj pg GH [tg s,fN x] (E_ (glA s x)):=by
 refine ao jB ?_;have c1:=HU s x.a;have w1:=kM 11;have w2:=kM 18;unfold glA E_;generalize cx s.gs x.a=q at c1⊢;cases q with
 | none =>
  simp only[bF,aR,lc]at c1;simp only[go_sem,jB,bF,aR];refine ae (c1) ?_;simp only[go_sem,Option.isSome_none];refine aa (w1) ?_;exact ah
 | some g =>
  simp only[bF,aR,lc,cG]at c1;have w3:=oX [] [aS g.v];have w4:=oX [aS g.v] [];by_cases h1:x.op=35
  .simp only[go_sem,jB,bF,aR];refine ae (c1) ?_;simp only[go_sem,Option.isSome_some,aD h1,az h1];refine be ((eJ.nil1 _ _).trans (eJ.frzs [27] _ _)) ?_;simp only[go_sem];refine aa (w3) ?_;exact ah
  cases h2:g.mu
  .simp only[go_sem,jB,bF,aR];refine ae (c1) ?_;simp only[go_sem,Option.isSome_some,ac h1,an h1,h2];refine aa (w2) ?_;exact ah
  .simp only[go_sem,jB,bF,aR];refine ae (c1) ?_;simp only[go_sem,Option.isSome_some,ac h1,an h1,h2];refine be ((eJ.nil2 _ _).trans (eJ.frzs [40] _ _)) ?_;simp only[go_sem];refine aa (w4) ?_;exact ah
def tbA(s:Sp)(x:bj):Ft×Int:=match cx s.tb x.a with
  | none=>(default,11)
  | some t=>if x.op=37 then(⟨[1],[t.e]⟩,0)else if x.op=38 then(⟨[1,t.e],[]⟩,0)else if x.op=64527 then(⟨[t.e,1],[1]⟩,0)else if x.op=64529 then(⟨[1,t.e,1],[]⟩,0)else(⟨[],[1]⟩,0)
def R9(s:Sp)(x:bj):aj pg GI [tg s,fN x] (E_ (tbA s x)):=by
 refine ao pi ?_;have c1:=vg s x.a;have w1:=kM 11;unfold tbA E_;generalize cx s.tb x.a=q at c1⊢;cases q with
 | none =>
  simp only[bF,aR,bT]at c1;simp only[go_sem,pi,bF,aR];refine ae (c1) ?_;simp only[go_sem,Option.isSome_none];refine aa (w1) ?_;exact ah
 | some t =>
  simp only[bF,aR,bT,cG]at c1;simp only[go_sem,pi,bF,aR];refine ae (c1) ?_;simp only[go_sem,Option.isSome_some];by_cases h0:x.op=37
  .have w3:=oX [aS 1] [aS t.e];rw[az h0];simp only[go_sem,aD h0];refine be (eJ.frzs [24,27] _ _) ?_;simp only[go_sem];refine aa (w3) ?_;exact ah
  by_cases h1:x.op=38
  .have w3:=oX [aS 1,aS t.e] [];rw[an h0,az h1];simp only[go_sem,ac h0,aD h1];refine be ((eJ.nil2 _ _).trans (eJ.frzs [35] _ _)) ?_;simp only[go_sem];refine aa (w3) ?_;exact ah
  by_cases h2:x.op=64527
  .have w3:=oX [aS t.e,aS 1] [aS 1];rw[an h0,an h1,az h2];simp only[go_sem,ac h0,ac h1,aD h2];refine be (eJ.frzs [43,44] _ _) ?_;simp only[go_sem];refine aa (w3) ?_;exact ah
  by_cases h3:x.op=64529
  .have w3:=oX [aS 1,aS t.e,aS 1] [];rw[an h0,an h1,an h2,az h3];simp only[go_sem,ac h0,ac h1,ac h2,aD h3];refine be ((eJ.nil2 _ _).trans (eJ.frzs [52] _ _)) ?_;simp only[go_sem];refine aa (w3) ?_;exact ah
  have w3:=oX [] [aS 1];rw[an h0,an h1,an h2,an h3];simp only[go_sem,ac h0,ac h1,ac h2,ac h3];refine be ((eJ.nil1 _ _).trans (eJ.frzs [56] _ _)) ?_;simp only[go_sem];refine aa (w3) ?_;exact ah
def R_(s:Sp)(x:bj):aj pg GJ [tg s,fN x] (.int .i64 (cS s x)):=by
 refine ao dz ?_;have co:=Xp x.op;have ca:=Xe x.op;have ta:=vg s x.a;have tb:=vg s x.b;have ea:=abC s x.a;have ma:=Xt s x.a;have mb:=Xt s x.b;have cd:=Xm s;have c1:=PY ((cx s.tb x.a).isSome&&(cx s.tb x.b).isSome) ((cx s.tb x.a).getD default).e ((cx s.tb x.b).getD default).e;have c2:=PY ((cx s.el x.a).isSome&&(cx s.tb x.b).isSome) ((cx s.el x.a).getD 0) ((cx s.tb x.b).getD default).e;unfold cS;generalize oy (mj x.op)=wi at ca⊢;generalize bN x.op=im at co⊢;generalize iN ((cx s.tb x.a).isSome&&(cx s.tb x.b).isSome) ((cx s.tb x.a).getD default).e ((cx s.tb x.b).getD default).e=k1 at c1⊢;generalize iN ((cx s.el x.a).isSome&&(cx s.tb x.b).isSome) ((cx s.el x.a).getD 0) ((cx s.tb x.b).getD default).e=k2 at c2⊢;generalize hbta:(cx s.tb x.a).isSome=bta at*;generalize hbtb:(cx s.tb x.b).isSome=btb at*;generalize hbea:(cx s.el x.a).isSome=bea at*;generalize hbma:(cx s.ms x.a).isSome=bma at*;generalize hbmb:(cx s.ms x.b).isSome=bmb at*;generalize ((cx s.tb x.a).getD default)=vta at*;generalize ((cx s.tb x.b).getD default)=vtb at*;generalize ((cx s.el x.a).getD 0)=vea at*;generalize ((cx s.ms x.a).getD default)=vma at*;generalize ((cx s.ms x.b).getD default)=vmb at*;simp only[bF,aR,bT,cX]at ta tb ea ma mb cd;by_cases q0:im=10
 .rw[az q0];simp only[go_sem,dz,bF,aR];refine ae (co) ?_;simp only[go_sem,aD q0];refine aa (ta) ?_;refine ae (tb) ?_;cases bta
  .simp only[go_sem];refine aa (c1) ?_;exact ah
  .simp only[go_sem];refine aa (c1) ?_;exact ah
 by_cases q1:im=11
 .rw[an q0,az q1];simp only[go_sem,dz,bF,aR];refine ae (co) ?_;simp only[go_sem,ac q0,aD q1];refine aa (ea) ?_;refine ae (tb) ?_;cases bea
  .simp only[go_sem];refine aa (c2) ?_;exact ah
  .simp only[go_sem];refine aa (c2) ?_;exact ah
 by_cases q2:im=12
 .rw[an q0,an q1,az q2];simp only[go_sem,dz,bF,aR];refine ae (co) ?_;simp only[go_sem,ac q0,ac q1,aD q2];refine ae (ea) ?_;cases bea
  .simp only[go_sem];exact aq [] (by simp only[go_sem,gV]) (by first|rfl|simp[go_sem,bJ])
  .simp only[go_sem];exact aq [] (by simp only[go_sem,gV]) (by first|rfl|simp[go_sem,bJ])
 by_cases q3:im=16
 .rw[an q0,an q1,an q2,az q3];simp only[go_sem,dz,bF,aR];refine ae (co) ?_;simp only[go_sem,ac q0,ac q1,ac q2,aD q3];refine ax cd (by simp[go_sem]) rfl ?_;cases hq:decide (x.a<s.ds)
  .simp only[go_sem,hq];exact aq [] (by simp only[go_sem,gV]) (by first|rfl|simp[go_sem,bJ])
  .simp only[go_sem,hq];exact aq [] (by simp only[go_sem,gV]) (by first|rfl|simp[go_sem,bJ])
 by_cases q4:im=15
 .rw[an q0,an q1,an q2,an q3,az q4];simp only[go_sem,dz,bF,aR];refine ae (co) ?_;simp only[go_sem,ac q0,ac q1,ac q2,ac q3,aD q4];refine ae (mb) ?_;cases bmb
  .simp only[go_sem];exact aq [] (by simp only[go_sem,gV,dF]) (by first|rfl|simp[go_sem,bJ])
  .simp only[go_sem];refine ax cd (by simp[go_sem]) rfl ?_;cases hq:decide (x.a<s.ds)
   .simp only[go_sem,hq];exact aq [] (by simp only[go_sem,gV,dM,lD,ij]) (by first|rfl|simp[go_sem,bJ])
   .simp only[go_sem,hq];exact aq [] (by simp only[go_sem,gV,dM,dR]) (by first|rfl|simp[go_sem,bJ])
 by_cases q5:im=14
 .rw[an q0,an q1,an q2,an q3,an q4,az q5];simp only[go_sem,dz,bF,aR];refine ae (co) ?_;simp only[go_sem,ac q0,ac q1,ac q2,ac q3,ac q4,aD q5];refine ae (ma) ?_;cases bma
  .simp only[go_sem];exact ah
  .simp only[go_sem];refine ae (mb) ?_;cases bmb
   .simp only[go_sem];exact aq [] (by simp only[go_sem,gV]) (by first|rfl|simp[go_sem,bJ])
   .simp only[go_sem];exact aq [] (by simp only[go_sem,gV]) (by first|rfl|simp[go_sem,bJ])
 by_cases q6:im=13
 .rw[an q0,an q1,an q2,an q3,an q4,an q5,az q6];simp only[go_sem,dz,bF,aR];refine ae (co) ?_;simp only[go_sem,ac q0,ac q1,ac q2,ac q3,ac q4,ac q5,aD q6];refine ae (mb) ?_;cases bmb
  .simp only[go_sem];exact aq [] (by simp only[go_sem,gV]) (by first|rfl|simp[go_sem,bJ])
  .simp only[go_sem];exact aq [] (by simp only[go_sem,gV]) (by first|rfl|simp[go_sem,bJ])
 by_cases q7:im=17
 .rw[an q0,an q1,an q2,an q3,an q4,an q5,an q6,az q7];simp only[go_sem,dz,bF,aR];refine ae (co) ?_;simp only[go_sem,ac q0,ac q1,ac q2,ac q3,ac q4,ac q5,ac q6,aD q7];refine ae (mb) ?_;cases bmb
  .simp only[go_sem];refine aa (mb) ?_;exact aq [] (by simp only[go_sem,gV,false_and,ij]) (by first|rfl|simp[go_sem,bJ])
  .simp only[go_sem];refine ax ca (by simp[go_sem]) rfl ?_;cases hq:decide (x.a>wi)
   .have hq':¬x.a>wi:=of_decide_eq_false hq;simp only[go_sem,hq];refine aa (mb) ?_;exact aq [] (by simp only[go_sem,gV,true_and,an hq']) (by first|rfl|simp[go_sem,bJ])
   .have hq':x.a>wi:=of_decide_eq_true hq;simp only[go_sem,hq];exact aq [] (by simp only[go_sem,gV,true_and,az hq']) (by first|rfl|simp[go_sem,bJ])
 rw[an q0,an q1,an q2,an q3,an q4,an q5,an q6,an q7];simp only[go_sem,dz,bF,aR];refine ae (co) ?_;simp only[go_sem,ac q0,ac q1,ac q2,ac q3,ac q4,ac q5,ac q6,ac q7];exact ah
end
section
def inA(s:Sp)(x:bj):Ft×Int:=match s.ty x.a,cx s.tb x.b with
  | some f,some t=>if t.e≠3 then(default,12)else(⟨f.ps++[1],f.rs⟩,0)
  | _,_=>(default,11)
attribute[local go_sem] bY aW cX bT lc bV zn zo
def Mm(s:Sp)(x:bj)(h:Fp s):aj pg CE [tg s,fN x] (E_ (inA s x)):=by
 refine cE (ic:=jC 41 mr.body) fD (cF mr) rfl rfl ?_;have c1:=abt s x.a h;have c2:=vg s x.b;have w1:=kM 11;have w2:=kM 12;have hb:=Sj h x.a;unfold inA E_;generalize s.ty x.a=q at c1 hb⊢;generalize cx s.tb x.b=r at c2⊢;simp only[bF,aR,bT]at c1 c2;simp only[go_sem,mr,bF,aR];refine gZ c1 [905] (λp hp=>by cases hp) ?_ (λp hp=>by cases hp) ?_
 .intro p hp;simp only[fS]at hp;subst hp;exact .inr ⟨by simp,.inl (show 905<1000 by decide),.inr (by rfl)⟩
 simp only[go_sem];refine ae (c2) ?_;cases q with
 | none =>
  simp only[go_sem,Option.isSome_none];refine aa (w1) ?_;exact ah
 | some f =>
  simp only[cG]at hb;cases r with
  | none =>
   simp only[go_sem,Option.isSome_none,Option.isSome_some];refine aa (w1) ?_;exact ah
  | some t =>
   simp only[cG];by_cases q1:t.e=3
   .rw[an (λz=>z q1)];have w3:=oX ((f.ps++[1]).map aS) (f.rs.map aS);simp only[go_sem,Option.isSome_some,cG,ay q1];have ha:=cC 905 48 1 f.ps.length aS f.ps [[.int .i64 1]] rfl;simp only[go_sem,ha,mh]
    repeat' (first|refine⟨by omega,?_⟩|refine And.intro ?_ ?_)
    all_goals
     refine be (eJ.frzs [905] _ _) ?_;have et:(f.ps.map aS++[[AV.int .i64 1]]).take (f.ps.length+1)=(f.ps++[1]).map aS:=by
      rw[iF (by simp)];simp[aS]
     simp only[go_sem,aQ,fo,dk,dN,i9,eG,et];refine aa (w3) ?_;exact ah
   .rw[az q1];simp only[go_sem,Option.isSome_some,cG,aE q1];refine aa (w2) ?_;exact ah
end
section
def i8(s:Sp)(lo:List Int)(x:bj):i3 s lo x=if bN x.op=4 then fnA s x else if bN x.op=5 then inA s x else
 if bN x.op=6 then(⟨[av x.ty 0,av x.ty 0,1],[av x.ty 0]⟩,0)else if bN x.op=7 then lcA lo x else if bN x.op=8 then glA s x else if bN x.op=9 then tbA s x else
 if bN x.op=20 then(⟨[],[x.a]⟩,0)else if cS s x≠0 then(default,cS s x)else(⟨(rJ x.op).1,(rJ x.op).2.1⟩,0):=rfl
def alD(p q:List Int):HV p q = .agg [.sl 1 (p.map aS),.sl 1 (q.map aS)]:=rfl
attribute[local go_sem] bY aW cX bT lc bV zn zo
def Xs(s:Sp)(lo:List Int)(x:bj)(h:Fp s)(hx:C_ x)(ha:0<=x.a)(hl:lo.length<=9000000)(ht:bN x.op=6->0<x.ty.length):aj pg Jj [tg s,.sl 1 (lo.map aS),fN x] (E_ (i3 s lo x)):=by
 refine ao eL ?_;have co:=Xp x.op;have c4:=Ml s x h;have c5:=Mm s x h;have c7:=Xr lo x ha hl;have c8:=R8 s x;have c9:=R9 s x;have cT:=R_ s x;have w6:=oX [aS (av x.ty 0),aS (av x.ty 0),aS 1] [aS (av x.ty 0)];have w20:=oX [] [aS x.a];have cs:=ags x.op;rw[i8];generalize bN x.op=im at co ht⊢;generalize fnA s x=y4 at c4⊢;generalize inA s x=y5 at c5⊢;generalize lcA lo x=y7 at c7⊢;generalize glA s x=y8 at c8⊢;generalize tbA s x=y9 at c9⊢;generalize cS s x=yT at cT⊢;have wT:=kM yT;simp only[E_,bF,aR,bV,aW,alD]at c4 c5 c7 c8 c9 cT cs;by_cases q4:im=4
 .rw[az q4];simp only[go_sem,eL,E_,bF,aR];refine ae (co) ?_;simp only[go_sem,aD q4];refine aa (c4) ?_;exact ah
 by_cases q5:im=5
 .rw[an q4,az q5];simp only[go_sem,eL,E_,bF,aR];refine ae (co) ?_;simp only[go_sem,ac q4,aD q5];refine aa (c5) ?_;exact ah
 by_cases q6:im=6
 .rw[an q4,an q5,az q6];have ht':=ht q6;simp only[go_sem,eL,E_,bF,aR];refine ae (co) ?_;simp only[go_sem,ac q4,ac q5,aD q6];refine⟨by omega,by omega,by omega,by omega,by omega,by omega,?_⟩;refine be (eJ.frzs [38,43] _ _) ?_;simp only[go_sem];refine aa (w6) ?_;exact ah
 by_cases q7:im=7
 .rw[an q4,an q5,an q6,az q7];simp only[go_sem,eL,E_,bF,aR];refine ae (co) ?_;simp only[go_sem,ac q4,ac q5,ac q6,aD q7];refine aa (c7) ?_;exact ah
 by_cases q8:im=8
 .rw[an q4,an q5,an q6,an q7,az q8];simp only[go_sem,eL,E_,bF,aR];refine ae (co) ?_;simp only[go_sem,ac q4,ac q5,ac q6,ac q7,aD q8];refine aa (c8) ?_;exact ah
 by_cases q9:im=9
 .rw[an q4,an q5,an q6,an q7,an q8,az q9];simp only[go_sem,eL,E_,bF,aR];refine ae (co) ?_;simp only[go_sem,ac q4,ac q5,ac q6,ac q7,ac q8,aD q9];refine aa (c9) ?_;exact ah
 by_cases q20:im=20
 .rw[an q4,an q5,an q6,an q7,an q8,an q9,az q20];simp only[go_sem,eL,E_,bF,aR];refine ae (co) ?_;simp only[go_sem,ac q4,ac q5,ac q6,ac q7,ac q8,ac q9,aD q20];refine be ((eJ.nil1 _ _).trans (eJ.frzs [72] _ _)) ?_;simp only[go_sem];refine aa (w20) ?_;exact ah
 rw[an q4,an q5,an q6,an q7,an q8,an q9,an q20];simp only[go_sem,eL,E_,bF,aR];refine ae (co) ?_;simp only[go_sem,ac q4,ac q5,ac q6,ac q7,ac q8,ac q9,ac q20];refine ae (cT) ?_;by_cases e:yT=0
 .rw[an (λz=>z e)];simp only[go_sem,ay e];refine aa (cs) ?_;exact ah
 .rw[az e];simp only[go_sem,aE e];refine aa (wT) ?_;exact ah
end
section
def LkC(f:FuncId)(rest:List AV)(m:Md)(s:Sp)(F:Fa)(r:AV):Prop:=bA pg f (.mp 1000 17 0 0::rest) [(1000,gS m s F)] P3 (λr' σ'=>r'=r/\σ'=[(1000,gS m s F)])
def vw:au:=⟨73,1,[[.mp 1000 17 0 0]],true⟩
def KP:vw =⟨73,1,[[.mp 1000 17 0 0]],true⟩:=rfl
def lH{f:FuncId}{rest:List AV}{m:Md}{s:Sp}{F:Fa}{r:AV}(h:LkC f rest m s F r){args:List AV}{d:Option Nat}{w:St}{K:St->Prop}(ha:args = .mp 1000 17 0 0::rest)(h1:ak w.heap 1000=some (gS m s F))
  (hk:K ((St.mk w.env ((1000,gS m s F)::w.heap)).put d r)):cO pg f args d w K:=by
 subst ha;refine gZ h [] (λp hp=>?_) (λp hp=>?_) (λp hp=>?_) hk
 .rw[fS.1 hp];exact h1
 .rw[fS.1 hp];exact .inl ⟨⟨show 1000<=1000 by decide,show 1000<2000 by decide⟩,rfl⟩
 .rw[fS.1 hp];rfl
attribute[local go_sem] bY B4 aM bF aR aW bT KP oG gC
def Pj(m:Md)(s:Sp)(F:Fa)(k i:Int):LkC we [.int .i64 k,.int .i64 i] m s F (.bool (mD s k i)):=by
 refine b_ da ?_;have c0:=Fd s;have c1:=R6 s;have c2:=abz s;have c3:=Ok s;simp only[bF,aR]at c0 c1 c2 c3;have hd:∀n:Int,(decide (0<=i)&&decide (i<n))=(decide (i>=0)&&decide (i<n)):=λ_=>rfl;unfold mD;by_cases h0:k=0
 .rw[az h0,hd];simp only[go_sem,da,aD h0];refine ae (c0) ?_;cases h:decide (i>=0)
  .simp only[go_sem,h];exact done [] _ [(1000,gS m s F)] (by simp only[go_sem,h,dF]) (by simp only[go_sem]) rfl ⟨rfl,rfl⟩
  .simp only[go_sem,h];exact done [] _ [(1000,gS m s F)] (by simp only[go_sem,h,dM]) (by simp only[go_sem]) rfl ⟨rfl,rfl⟩
 by_cases h1:k=1
 .rw[an h0,az h1,hd];simp only[go_sem,da,ac h0,aD h1];refine ae (c1) ?_;cases h:decide (i>=0)
  .simp only[go_sem,h];exact done [] _ [(1000,gS m s F)] (by simp only[go_sem,h,dF]) (by simp only[go_sem]) rfl ⟨rfl,rfl⟩
  .simp only[go_sem,h];exact done [] _ [(1000,gS m s F)] (by simp only[go_sem,h,dM]) (by simp only[go_sem]) rfl ⟨rfl,rfl⟩
 by_cases h2:k=2
 .rw[an h0,an h1,az h2,hd];simp only[go_sem,da,ac h0,ac h1,aD h2];refine ae (c2) ?_;cases h:decide (i>=0)
  .simp only[go_sem,h];exact done [] _ [(1000,gS m s F)] (by simp only[go_sem,h,dF]) (by simp only[go_sem]) rfl ⟨rfl,rfl⟩
  .simp only[go_sem,h];exact done [] _ [(1000,gS m s F)] (by simp only[go_sem,h,dM]) (by simp only[go_sem]) rfl ⟨rfl,rfl⟩
 by_cases h3:k=3
 .rw[an h0,an h1,an h2,az h3,hd];simp only[go_sem,da,ac h0,ac h1,ac h2,aD h3];refine ae (c3) ?_;cases h:decide (i>=0)
  .simp only[go_sem,h];exact done [] _ [(1000,gS m s F)] (by simp only[go_sem,h,dF]) (by simp only[go_sem]) rfl ⟨rfl,rfl⟩
  .simp only[go_sem,h];exact done [] _ [(1000,gS m s F)] (by simp only[go_sem,h,dM]) (by simp only[go_sem]) rfl ⟨rfl,rfl⟩
 rw[an h0,an h1,an h2,an h3,hd];by_cases g:i>=0
 .simp only[go_sem,da,ac h0,ac h1,ac h2,ac h3,aF g];exact done [] _ [(1000,gS m s F)] (by simp only[go_sem,aF g,dM]) (by simp only[go_sem]) rfl ⟨rfl,rfl⟩
 .simp only[go_sem,da,ac h0,ac h1,ac h2,ac h3,aI g];exact done [] _ [(1000,gS m s F)] (by simp only[go_sem,aI g,dF]) (by simp only[go_sem]) rfl ⟨rfl,rfl⟩
def Pk(m:Md)(s:Sp)(F:Fa)(i:Int)(h:Fp s):LkC wh [.int .i64 i] m s F (.tup [.int .i64 (th s i).1,.int .i64 (th s i).2]):=by
 refine b_ jt ?_;have c0:=JL s i h;simp only[bF,aR,aW]at c0;unfold th;cases hq:(s.ty i).isSome
 .rw[hq]at c0;rw[an (by decide)];simp only[go_sem,jt];refine aa (c0) ?_;exact aZ [] _ [(1000,gS m s F)] ⟨rfl,rfl⟩
 .rw[hq]at c0;rw[az rfl];simp only[go_sem,jt];refine aa (c0) ?_;exact aZ [] _ [(1000,gS m s F)] ⟨rfl,rfl⟩
def zt(m:Md)(s:Sp)(F:Fa)(l:List bj)(want:Int)(hl:l.length<=1000000):LkC rl [.sl 9 (l.map cQ),.int .i64 want] m s F (.tup [.int .i64 (dD s l want).1,.int .i64 (dD s l want).2]):=by
 refine b_ j_ ?_;have c0:=Oj s 3;have c1:=Xj s l want (x_ 3 s.im) hl;simp only[bF,aR]at c0 c1;unfold dD;generalize pn s want (x_ 3 s.im) 0 l []=R at c1⊢;simp only[go_sem,j_];refine ax c0 (by simp[go_sem]) rfl ?_;simp only[go_sem];refine aa (c1) ?_;exact aZ [] _ [(1000,gS m s F)] ⟨rfl,rfl⟩
def eC(i:Nat):List (Nat×au):=[(1001,vw)]
def Sz(i:Nat):List AV:=[.int .i64 i,.mp 1001 1 0 0]
def ah9:okE eC:=⟨(λi p hp=>by rw[fS.1 hp];rfl),(λi p hp=>by rw[fS.1 hp];exact⟨by decide,.inl ⟨show 1000<=1001 by decide,show 1001<2000 by decide⟩⟩),(λi j p hp=>by rw[fS.1 hp];rfl)⟩
def qn{α β:Type}[Inhabited α][Inhabited β](f:α->β){l:List α}{i:Nat}(h:i<l.length):av (l.map f) i=f (av l i):=by
 rw[aY (by simpa using h),aY h,List.getElem_map]
def T1(m:Md)(s:Sp)(h:Fp s)(hb:m.ims.length<=1000000):Dj s6 Sz m s eC (m.ims.map (z8 s)):=by
 intro i hi _ F hF;rw[bY]at hi;rw[qn _ hi];refine b_ iq ?_;generalize hX:av m.ims i=X;have kt:=Pk m s F X.f h;have hi2:(i:Int)<(m.ims.length:Int):=by omega
 unfold z8;by_cases h0:X.k=0
 .rw[an (λq=>q h0)];generalize th s X.f=R at kt⊢;simp only[go_sem,iq,Sz,eC,cL,hX,du,ay h0];refine⟨by omega,hi2,by omega,hi2,?_⟩;refine lH kt (by simp only[go_sem]) (by simp only[go_sem]) ?_;simp only[go_sem];exact aZ [] _ [(1000,gS m s F),(1001,vw)] ⟨rfl,rfl⟩
 .rw[az h0];simp only[go_sem,iq,Sz,eC,cL,hX,du,aE h0];refine⟨by omega,hi2,?_⟩;exact aZ [] _ [(1000,gS m s F),(1001,vw)] ⟨rfl,rfl⟩
def T2(m:Md)(s:Sp)(h:Fp s)(hb:m.fs.length<=1000000):Dj s7 Sz m s eC (m.fs.map λf=>th s f.t):=by
 intro i hi _ F hF;rw[bY]at hi;rw[qn _ hi];refine b_ kY ?_;generalize hX:av m.fs i=X;have kt:=Pk m s F X.t h;have hi2:(i:Int)<(m.fs.length:Int):=by omega
 generalize th s X.t=R at kt⊢;simp only[go_sem,kY,Sz,eC,cL,hX,eY];refine⟨by omega,hi2,?_⟩;refine lH kt (by simp only[go_sem]) (by simp only[go_sem]) ?_;simp only[go_sem];exact aZ [] _ [(1000,gS m s F),(1001,vw)] ⟨rfl,rfl⟩
end
section
def fK:Prop:=∀S l,S.u.length<1000000->S.all.length<1000000->l.length<1000000->J9 S l
def OK(b:Bk):List AV:=[.int .i64 b.k,.sl 1 (b.t.ps.map aS),.sl 1 (b.t.rs.map aS),.bool b.ot,.bool b.lv]
def pW(b:Bk):OK b=[.int .i64 b.k,.sl 1 (b.t.ps.map aS),.sl 1 (b.t.rs.map aS),.bool b.ot,.bool b.lv]:=rfl
def ctR(n:Nat)(rs:List Int)(lv:Bool)(br:Int):au:=⟨214,5,[[.mp 1001 3 0 0,.ms 2000 5 0 n,.sl 1 (rs.map aS),.bool lv,.int .i64 br]],true⟩
def DC(n:Nat)(rs:List Int)(lv:Bool)(br:Int):ctR n rs lv br =⟨214,5,[[.mp 1001 3 0 0,.ms 2000 5 0 n,.sl 1 (rs.map aS),.bool lv,.int .i64 br]],true⟩:=rfl
def ctB(l:List Bk):au:=⟨216,5,l.map OK,false⟩
def BW(l:List Bk):ctB l =⟨216,5,l.map OK,false⟩:=rfl
def gA(C:Ct):List (Nat×au):=[(1000,ctR C.bs.length C.rs C.lv C.br),(2000,ctB C.bs),(1001,MN C.s.all.length (cu (C.s.t::C.s.u)).length C.s.ov),(2001,P7 C.s.all),(2002,P6 (cu (C.s.t::C.s.u)))]
def DB(C:Ct):gA C=[(1000,ctR C.bs.length C.rs C.lv C.br),(2000,ctB C.bs),(1001,MN C.s.all.length (cu (C.s.t::C.s.u)).length C.s.ov),(2001,P7 C.s.all),(2002,P6 (cu (C.s.t::C.s.u)))]:=rfl
def ctF(C:Ct):AV:=.ip [J6 C.s,.sl 5 (C.bs.map OK),.sl 1 (C.rs.map aS),.bool C.lv,.int .i64 C.br]
def BX(C:Ct):ctF C = .ip [J6 C.s,.sl 5 (C.bs.map OK),.sl 1 (C.rs.map aS),.bool C.lv,.int .i64 C.br]:=rfl
def H2(f:FuncId)(rest:List AV)(C:Ct)(r:AV)(C':Ct):Prop:=bA pg f (.mp 1000 5 0 0::rest) (gA C) P3 (λr' σ'=>r'=r/\σ'=gA C')
attribute[local go_sem] bY zW zY zZ zX qx DB DC BW BX pW
def OQ{f:FuncId}{rest:List AV}{C:Ct}{r:AV}(h:aj pg f (ctF C::rest) r)(hf:oM r=true)(hr:∀x∈rest,aV x=[]):H2 f rest C r C:=by
 have w1:=eJ.frzs [2000,2001,2002] ⟨[],gA C⟩ (.mp 1000 5 0 0::rest);rw[cM,vG _ _ rest hr,show sB [2000,2001,2002] ⟨[],gA C⟩ (.mp 1000 5 0 0) = .mp 1000 5 0 0 from rfl]at w1
 have w2:=eJ.unrec (frzs [2000,2001,2002] ⟨[],gA C⟩) (.mp 1000 5 0 0::rest) 1001 (t:=228) (st:=3) (r:=[.sl 1 (C.s.all.map aS),.sl 2 ((cu (C.s.t::C.s.u)).map HH),.bool C.s.ov]) (by simp only[go_sem,i0,aQ,fo,dk]) (by
  intro x hx;simp only[bM,cH,or_false]at hx;rcases hx with rfl|rfl|rfl<;>exact⟨rfl,rfl⟩)
 have w3:=eJ.frzs [1001] ⟨(frzs [2000,2001,2002] ⟨[],gA C⟩).env,(1001,⟨228,3,[[.sl 1 (C.s.all.map aS),.sl 2 ((cu (C.s.t::C.s.u)).map HH),.bool C.s.ov]],false⟩)::(frzs [2000,2001,2002] ⟨[],gA C⟩).heap⟩ (.mp 1000 5 0 0::rest);rw[cM,vG _ _ rest hr]at w3
 have w4:=eJ.unrec (frzs [1001] ⟨(frzs [2000,2001,2002] ⟨[],gA C⟩).env,(1001,⟨228,3,[[.sl 1 (C.s.all.map aS),.sl 2 ((cu (C.s.t::C.s.u)).map HH),.bool C.s.ov]],false⟩)::(frzs [2000,2001,2002] ⟨[],gA C⟩).heap⟩) (.mp 1000 5 0 0::rest) 1000 (t:=214) (st:=5) (r:=[J6 C.s,.sl 5 (C.bs.map OK),.sl 1 (C.rs.map aS),.bool C.lv,.int .i64 C.br]) (by simp only[go_sem,i0,aQ,fo,dk]) (by
  intro x hx;simp only[bM,cH,or_false]at hx;rcases hx with rfl|rfl|rfl|rfl|rfl<;>exact⟨rfl,rfl⟩)
 have w5:=(((w1.trans w2).trans w3).trans w4).trans (eJ.frzs [1000] _ _);rw[cM,vG _ _ rest hr]at w5;refine bA.lend (args':=ctF C::rest) h hf w5 ?_ ?_ _
 .intro x hx;rcases bM.1 hx with rfl|hx
  .rfl
  .exact hr x hx
 .intro p hp i hi;simp only[gA,bM,cH,or_false]at hp;rcases hp with rfl|rfl|rfl|rfl|rfl
  .simp only[ctR,fG,dR,yA,List.flatMap_nil,iu,jc,ml,gW,fS,gC,bM,cH,or_false]at hi;rcases hi with rfl|rfl<;>rfl
  .cases hi
  .simp only[MN,fG,dR,yA,List.flatMap_nil,iu,jc,ml,gW,fS,gC,bM,cH,or_false]at hi;rcases hi with rfl|rfl<;>rfl
  .cases hi
  .cases hi
def aO{f:FuncId}{rest:List AV}{C C':Ct}{r:AV}(h:H2 f rest C r C'){args:List AV}{d:Option Nat}{s:St}{K:St->Prop}(ha:args = .mp 1000 5 0 0::rest)(h1:ak s.heap 1000=some (ctR C.bs.length C.rs C.lv C.br))(h2:ak s.heap 2000=some (ctB C.bs))(h3:ak s.heap 1001=some (MN C.s.all.length (cu (C.s.t::C.s.u)).length C.s.ov))(h4:ak s.heap 2001=some (P7 C.s.all))(h5:ak s.heap 2002=some (P6 (cu (C.s.t::C.s.u))))
  (hk:K ((St.mk (jG [2000,2001,2002] s.env) (gA C'++jm [2000,2001,2002] s.heap)).put d r)):cO pg f args d s K:=by
 subst ha;refine gZ h [2000,2001,2002] (λp hp=>?_) (λp hp=>?_) (λp hp=>?_) hk
 .simp only[gA,bM,cH,or_false]at hp;rcases hp with rfl|rfl|rfl|rfl|rfl
  .exact h1
  .exact h2
  .exact h3
  .exact h4
  .exact h5
 .simp only[gA,bM,cH,or_false]at hp;rcases hp with rfl|rfl|rfl|rfl|rfl
  .exact .inl ⟨⟨show 1000<=1000 by decide,show 1000<2000 by decide⟩,rfl⟩
  .exact .inr ⟨by simp,.inr (show 2000<=2000 by decide),.inl rfl⟩
  .exact .inl ⟨⟨show 1000<=1001 by decide,show 1001<2000 by decide⟩,rfl⟩
  .exact .inr ⟨by simp,.inr (show 2000<=2001 by decide),.inl rfl⟩
  .exact .inr ⟨by simp,.inr (show 2000<=2002 by decide),.inl rfl⟩
 .simp only[gA,bM,cH,or_false]at hp;rcases hp with rfl|rfl|rfl|rfl|rfl<;>rfl
def PZ(C:Ct):aj pg nY [ctF C] (.bool true):=by
 refine ao nF ?_;simp only[go_sem,nF];exact ah
def abD(C:Ct):aj pg mY [ctF C] (.int .i64 C.br):=by
 refine ao mK ?_;have c:=PZ C;simp only[BX,qx]at c;simp only[go_sem,mK];refine aa (c) ?_;exact ah
def Z9(C:Ct):H2 nY [] C (.bool true) C:=OQ (PZ C) rfl (λx hx=>by cases hx)
def dn(C:Ct):H2 mY [] C (.int .i64 C.br) C:=OQ (abD C) rfl (λx hx=>by cases hx)
def eQ(C:Ct):H2 vT [] C (.mp 1001 3 0 0) C:=by
 refine b_ mI ?_;simp only[go_sem,mI];refine aO (Z9 C) (by simp only[go_sem]) (by simp only[go_sem]) (by simp only[go_sem]) (by simp only[go_sem]) (by simp only[go_sem]) (by simp only[go_sem]) ?_;simp only[go_sem];exact aZ [] _ (gA C) ⟨rfl,rfl⟩
def rf(C:Ct)(e:Int):H2 vV [.int .i64 e] C (.int .i64 e) (C.broke e).2:=by
 refine b_ mJ ?_;simp only[go_sem,mJ];exact done [] _ (gA (C.broke e).2) (by simp only[go_sem]) (by simp only[go_sem,Ct.broke]) rfl ⟨rfl,rfl⟩
def aky{a b id:Nat}(h1:id≠a)(h2:id≠b):bw [(a,b)] id=id:=by simp[bw,sU,h1,h2]
def YV(C:Ct)(b:Bk):C.begin b =⟨C.s.opn.push b.t.ps,C.bs++[b],C.rs,b.lv,C.br⟩:=rfl
def CX(C:Ct)(b:Bk)(hu:C.s.u.length<900000)(hl:C.s.all.length<900000)(hb:C.bs.length<900000)(hp:b.t.ps.length<900000):H2 vU [.agg (OK b)] C (.tup []) (C.begin b):=by
 refine lx (ic:=jp 17 jq.body) fD (cF jq) (by rfl) rfl ?_;have k1:=Vc C.s (by omega) (by omega);have k2:=x8 C.s.opn b.t.ps (show C.s.opn.u.length<1000000 by show C.s.u.length+1<1000000;omega) (by rw[oS];omega) (by omega);simp only[go_sem,jq,jp];refine aU (k1) (by simp only[go_sem]) (by simp only[go_sem]) (by simp only[go_sem]) (by simp only[go_sem]) ?_;simp only[go_sem];refine aU (k2) (by simp only[go_sem]) (by simp only[go_sem]) (by simp only[go_sem]) (by simp only[go_sem]) ?_;simp only[go_sem];refine fH _ _ (jN (id:=2000) (len:=C.bs.length) (rows:=C.bs.map OK) (ys:=[OK b]) (by rfl) (by rfl) (by rfl) (by rw[bY]) (by simp) (by omega) (by decide)) (by simp only[go_sem]) (by rfl) (by simp only[go_sem];rfl) (by simp only[go_sem]) ?_;simp only[go_sem];exact lu [] _ (gA (C.begin b)) (by simp only[go_sem]) (by simp only[go_sem,YV,dY,dN,i9,eG,cM,eA]) rfl ⟨rfl,rfl⟩
def Va(C:Ct)(h0:C.bs≠[])(hb:C.bs.length<900000):H2 zB [] C (.agg (OK C.top)) {C with bs:=C.bs.dropLast}:=by
 refine b_ oI ?_;have hpos:0<C.bs.length:=ME.2 h0;have hw:IntKind.i64.wrap ((C.bs.length:Int)-1)=((C.bs.length-1:Nat):Int):=by rw[wi (by omega) (by omega)];omega
 have hc:=TQ 20 5 (C.bs.length-1) 216 (List.replicate (C.bs.length-1) [.int .i64 0,.nl,.nl,.bool false,.bool false]) (C.bs.map OK) (List.length_replicate) (by rw[bY];omega);have hl:C.bs.dropLast.length=C.bs.length-1:=List.length_dropLast;have ht:(C.bs.map OK).take (C.bs.length-1)=C.bs.dropLast.map OK:=by rw[<-List.map_take,List.dropLast_eq_take]
 rw[ht]at hc;have en:av C.bs (C.bs.length-1)=C.top:=rfl;have hr:=W8 5 C.bs.length 216 OK C.bs rfl;simp only[go_sem,oI,hw,cL,dk,hl,en,hr,hc];refine⟨⟨by omega,by omega⟩,by omega,⟨by omega,by omega,by omega⟩,?_⟩;exact vh (Wk.ren _ [(20,2000)] (λid h1 h2=>aky (by omega) (by omega))) [] _ [(1000,ctR (C.bs.length-1) C.rs C.lv C.br),(2000,ctB C.bs.dropLast),(1001,MN C.s.all.length (cu (C.s.t::C.s.u)).length C.s.ov),(2001,P7 C.s.all),(2002,P6 (cu (C.s.t::C.s.u)))] (by rfl) (by exact⟨rfl,rfl,rfl,rfl,rfl,trivial⟩) rfl ⟨rfl,rfl⟩
