import Derived.Test.YtijcmjncppkpiaaGreatDoorCQn
set_option linter.all false
set_option maxRecDepth 100000
set_option maxHeartbeats 40000000
namespace Go.Proofs.YtijcmjncppkpiaaGreatDoor
section
open Go Go.Mw
def U2{l:List a_}{j:Nat}(h:j<l.length):aP (l.take (j+1))=aP (l.take j)++(if(ap l j).op=210 then[(ap l j).a]else[]):=by
 unfold aP;rw[uS,dV h,uR,List.filter_append,dW];congr 1;by_cases q:(ap l j).op=210
 .rw[aF q,List.filter_cons_of_pos (by simpa using q)];rfl
 .rw[ax q,List.filter_cons_of_neg (by simpa using q)];rfl
attribute[local go_sem] bP bH eE bn bc aD
def BQ(l:List a_)(hl:l.length<=2000000):ah pg ER [.sl 9 (l.map bH)] (.sl 1 ((aP l).map bg)):=by
 refine au wI ?_;simp only[go_sem,wI];refine ao (λj:Nat=>⟨[(8,.int .i64 j),(7,.int .i64 l.length),(6,.sl 9 (l.map bH)),(3,.ms 900 1 0 (aP (l.take j)).length)],[(900,⟨3,1,(aP (l.take j)).map bg,false⟩)]⟩) (λj=>j<=l.length) (λj=>l.length-j) 0 (cR _) ((Wk.nil _ 3 900 1 3 (by simp only[go_sem]) (.inl (by decide))).trans (Wk.of ?_ ?_)) ?_
 .simp only[go_sem,St.mknil,iO,aP];try simp[go_sem]
 .simp only[go_sem,St.mknil,iO,aP];try simp[go_sem]
 intro j hj;replace hj:j<=l.length:=hj;by_cases h1:(j:Int)<(l.length:Int)
 .have hj':j<l.length:=by omega
  have e8:=cA hj' (by omega);have t:=U2 hj';have hle:(aP (l.take j)).length<=l.length:=by
   unfold aP;rw[bP];exact cZ (List.length_filter_le _ _) (by rw[q_];omega)
  have happ:=λys=>bR 900 3 1 (aP (l.take j)).length bg (aP (l.take j)) ys rfl;by_cases q:(ap l j).op=210
  .rw[aF q]at t;simp only[go_sem,aw h1,aK q,happ];refine⟨by omega,h1,by omega,ay (j+1) (show j+1<=l.length by omega) (show l.length-(j+1)<l.length-j by omega) (Wk.of ?_ ?_)⟩
   .simp only[go_sem,e8,t,ej,pq];try simp
   .simp only[go_sem,t,dW,bY,eL];try simp
  .rw[ax q,lm]at t;simp only[go_sem,aw h1,ab q];refine⟨by omega,h1,ay (j+1) (show j+1<=l.length by omega) (show l.length-(j+1)<l.length-j by omega) (Wk.of ?_ ?_)⟩
   .simp only[go_sem,e8,t];try simp
   .simp only[go_sem,t]
 .obtain rfl:j=l.length:=by omega
  simp only[go_sem,aC h1,jc];refine aE [900] ?_ rfl;simp only[go_sem,aN];rw[gN (by simp)]
def vH(i n:Int):ah pg Br [.int .i64 i,.int .i64 n] (.bool (decide (0<=i/\i<n))):=by
 refine au mR ?_;by_cases h:0<=i
 .simp only[go_sem,mR,aw (show i>=0 from h),h,true_and];exact an
 .simp only[go_sem,mR,aC (show ¬i>=0 from h),h,false_and,decide_false];exact an
def vK(m:Md)(h:Ry m):ah pg yz [da m] (.int .i64 (oY 0 (I6 m).im)):=by
 refine au oO ?_;have c:=Q4 m h;rw[Wf]at c;have c2:=BN (I6 m) 0;simp only[go_sem,oO,da];refine aa (c) ?_;refine ak (c2) ?_;exact an
def HU(c:Bool)(l:List a_):List Int:=(l.filter λx=>x.op==210||c&&x.op==16).map (·.a)
def ab5(l:List a_):HU true l=G9 l:=by unfold HU G9;simp only[gp]
def Dx(l:List a_):HU false l=aP l:=by unfold HU aP;simp only[gX,Bool.or_false]
def YN{c:Bool}{l:List a_}{j:Nat}(h:j<l.length):HU c (l.take (j+1))=HU c (l.take j)++(if((ap l j).op==210||c&&(ap l j).op==16)=true then[(ap l j).a]else[]):=by
 unfold HU;rw[uS,dV h,uR,List.filter_append,dW];congr 1;by_cases q:((ap l j).op==210||c&&(ap l j).op==16)=true
 .simp only[List.filter_cons,List.filter_nil,q,dP];rfl
 .simp only[List.filter_cons,List.filter_nil,q,fS];rfl
def m8(L K:List Int)(o:List Bool):cS (L++K) o=cS K (cS L o):=List.foldl_append ..
def YI(i:Int)(o:List Bool):cS [i] o=FJ o i:=rfl
def B8(o:List Bool):aj:=⟨4,1,o.map rt,false⟩
def e_(o:List Bool):B8 o =⟨4,1,o.map rt,false⟩:=rfl
def Zz(o:List Bool)(l:List a_)(c:Bool)(hl:l.length<=2000000):aZ pg xn [.ms 1000 1 0 o.length,.sl 9 (l.map bH),.bool c] [(1000,B8 o)] sb (λr σ'=>r = .ms 1000 1 0 o.length/\σ'=[(1000,B8 (cS (HU c l) o))]):=by
 refine dj wE ?_;simp only[go_sem,wE,e_];refine ao (λj:Nat=>⟨[(7,.int .i64 j),(0,.ms 1000 1 0 o.length),(1,.sl 9 (l.map bH)),(2,.bool c)],[(1000,⟨4,1,(cS (HU c (l.take j)) o).map rt,false⟩)]⟩) (λj=>j<=l.length) (λj=>l.length-j) 0 (cR _) (Wk.of ?_ ?_) ?_
 .simp only[go_sem];try simp
 .simp only[go_sem];try rfl
 intro j hj;replace hj:j<=l.length:=hj;by_cases h1:(j:Int)<(l.length:Int)
 .have hj':j<l.length:=by omega
  have e8:=cA hj' (by omega);have t:=YN (c:=c) hj';have hM:=fO (HU c (l.take j)) o;have w:=vH (ap l j).a o.length;by_cases q:((ap l j).op==210||c&&(ap l j).op==16)=true
  .rw[aF q]at t;have t2:cS (HU c (l.take (j+1))) o=FJ (cS (HU c (l.take j)) o) (ap l j).a:=by rw[t,m8,YI]
   generalize cS (HU c (l.take j)) o=M at hM t2;by_cases q3:0<=(ap l j).a/\(ap l j).a<o.length
   .have t3:FJ M (ap l j).a=M.set (ap l j).a.toNat true:=by unfold FJ;rw[aF (by omega)]
    rw[t3]at t2;rw[aw q3]at w;by_cases q1:(ap l j).op=210
    .simp only[go_sem,aw h1,aK q1];refine⟨by omega,h1,by omega,h1,?_⟩;refine ak (w) ?_;simp only[go_sem,vN];refine⟨by omega,h1,⟨q3.1,q3.2⟩,by omega,ay (j+1) (show j+1<=l.length by omega) (show l.length-(j+1)<l.length-j by omega) (Wk.of ?_ ?_)⟩
     .simp only[go_sem,e8];try simp
     .simp only[go_sem,t2];try rfl
    .have q':c=true/\(ap l j).op=16:=by simpa[q1]using q
     obtain⟨rfl,q2⟩:=q';simp only[go_sem,aw h1,ab q1,aK q2];refine⟨by omega,h1,by omega,h1,by omega,h1,?_⟩;refine ak (w) ?_;simp only[go_sem,vN];refine⟨by omega,h1,⟨q3.1,q3.2⟩,by omega,ay (j+1) (show j+1<=l.length by omega) (show l.length-(j+1)<l.length-j by omega) (Wk.of ?_ ?_)⟩
     .simp only[go_sem,e8];try simp
     .simp only[go_sem,t2];try rfl
   .have t3:FJ M (ap l j).a=M:=by unfold FJ;rw[ax (by omega)]
    rw[t3]at t2;rw[aC q3]at w;by_cases q1:(ap l j).op=210
    .simp only[go_sem,aw h1,aK q1];refine⟨by omega,h1,by omega,h1,?_⟩;refine aa (w) ?_;refine ay (j+1) (show j+1<=l.length by omega) (show l.length-(j+1)<l.length-j by omega) (Wk.of ?_ ?_)
     .simp only[go_sem,e8];try simp
     .simp only[go_sem,t2];try rfl
    .have q':c=true/\(ap l j).op=16:=by simpa[q1]using q
     obtain⟨rfl,q2⟩:=q';simp only[go_sem,aw h1,ab q1,aK q2];refine⟨by omega,h1,by omega,h1,by omega,h1,?_⟩;refine aa (w) ?_;refine ay (j+1) (show j+1<=l.length by omega) (show l.length-(j+1)<l.length-j by omega) (Wk.of ?_ ?_)
     .simp only[go_sem,e8];try simp
     .simp only[go_sem,t2];try rfl
  .rw[ax q,lm]at t;have q1:¬(ap l j).op=210:=λh=>q (by simp[h]);cases c
   .simp only[go_sem,aw h1,ab q1];refine⟨by omega,h1,ay (j+1) (show j+1<=l.length by omega) (show l.length-(j+1)<l.length-j by omega) (Wk.of ?_ ?_)⟩
    .simp only[go_sem,e8];try simp
    .simp only[go_sem,t];try rfl
   .have q2:¬(ap l j).op=16:=λh=>q (by simp[h]);simp only[go_sem,aw h1,ab q1,ab q2];refine⟨by omega,h1,by omega,h1,ay (j+1) (show j+1<=l.length by omega) (show l.length-(j+1)<l.length-j by omega) (Wk.of ?_ ?_)⟩
    .simp only[go_sem,e8];try simp
    .simp only[go_sem,t];try rfl
 .obtain rfl:j=l.length:=by omega
  simp only[go_sem,aC h1,jc];exact done [] _ [(1000,B8 (cS (HU c l) o))] (by simp only[go_sem]) (by simp only[go_sem,e_];try rfl) rfl ⟨rfl,rfl⟩
def Xr{o:List Bool}{j:Nat}(h:j<o.length):iX (o.take (j+1))=iX (o.take j)+(if ap o j=true then 1 else 0):=by
 unfold iX;rw[uS,dV h,uR,List.filter_append,ej];cases ap o j<;>rfl
def Zy(o:List Bool)(hl:o.length<=1000000):ah pg xm [.sl 1 (o.map rt)] (.int .i64 (iX o:Nat)):=by
 refine au wD ?_;simp only[go_sem,wD];refine ao (λj:Nat=>⟨[(4,.int .i64 j),(3,.int .i64 (iX (o.take j):Nat)),(0,.sl 1 (o.map rt))],[]⟩) (λj=>j<=o.length) (λj=>o.length-j) 0 (cR _) (Wk.of ?_ ?_) ?_
 .simp only[go_sem,iO,iX];try simp
 .simp only[go_sem]
 intro j hj;replace hj:j<=o.length:=hj;by_cases h1:(j:Int)<(o.length:Int)
 .have hj':j<o.length:=by omega
  have e8:=cA hj' (by omega);have t:=Xr hj';have hle:iX (o.take j)<=o.length:=cZ (AG _) (by rw[q_];omega);cases q:ap o j
  .rw[q,ax (by decide),Nat.add_zero]at t;simp only[go_sem,aw h1,rt,q];refine⟨by omega,h1,ay (j+1) (show j+1<=o.length by omega) (show o.length-(j+1)<o.length-j by omega) (Wk.of ?_ ?_)⟩
   .simp only[go_sem,e8,t];try simp
   .simp only[go_sem]
  .rw[q,aF rfl]at t;have w:IntKind.i64.wrap ((iX (o.take j):Int)+1)=((iX (o.take j)+1:Nat):Int):=by rw[wi (by omega) (by omega)];omega
   simp only[go_sem,aw h1,rt,q];refine⟨by omega,h1,ay (j+1) (show j+1<=o.length by omega) (show o.length-(j+1)<o.length-j by omega) (Wk.of ?_ ?_)⟩
   .simp only[go_sem,e8,t,w];try simp
   .simp only[go_sem]
 .obtain rfl:j=o.length:=by omega
  simp only[go_sem,aC h1,jc];exact ac
end
section
open Go Go.Mw
def fe{α:Type}[Inhabited α]{l:List α}{i:Nat}(h:i<l.length):ap l i∈l:=by rw[aV h];exact gO h
def Ga(x:Ex)(l:List Ex):(((x::l).filter λe=>e.k==0).map (·.i))=if x.k=0 then x.i::((l.filter λe=>e.k==0).map (·.i))else((l.filter λe=>e.k==0).map (·.i)):=by
 by_cases h:x.k=0
 .rw[aF h,List.filter_cons_of_pos (by simpa using h)];rfl
 .rw[ax h,List.filter_cons_of_neg (by simpa using h)]
structure ZG(m:Md):Prop where
 ex:m.exs.length<=1000000
 gs:m.gs.length<=1000000
 el:m.els.length<=1000000
 g:∀x∈m.gs,x.i.length<=2000000
 e:∀x∈m.els,x.it.length<=2000000/\∀l∈x.it,l.length<=2000000
 r:(fZ m).length<=1000000000
attribute[local go_sem] bP bH eE bn df gC dn ez
def Vg(m:Md)(h:ZG m):aZ pg CG [da m] [] sb (λr σ'=>r = .ms 900 1 0 (fZ m).length/\σ'=[(900,⟨3,1,(fZ m).map bg,false⟩)]):=by
 refine dj uz ?_;obtain⟨R,hR⟩:∃R,fZ m=R:=⟨_,rfl⟩
 have hb:=h.r;rw[hR]at hb⊢;have b1:=h.ex;have b2:=h.gs;have b3:=h.el;obtain⟨T1,hT1⟩:∃T,(if m.hs then[m.st]else[])++((m.gs.flatMap λg=>aP g.i)++(m.els.flatMap λe=>e.it.flatMap aP))=T:=⟨_,rfl⟩
 have hR1:((m.exs.filter λe=>e.k==0).map (·.i))++T1=R:=by rw[<-hR,<-hT1];simp[fZ]
 simp only[go_sem,uz,da];refine ao (λq:Nat×List Int=>⟨[(15,.int .i64 q.1),(14,.int .i64 m.exs.length),(13,.sl 3 (m.exs.map x_)),(1,.mp 1 12 0 0),(3,.ms 900 1 0 q.2.length)],[(1,⟨33,12,[mI m],true⟩),(900,⟨3,1,q.2.map bg,false⟩)]⟩) (λq=>q.1<=m.exs.length/\q.2++(((m.exs.drop q.1).filter λe=>e.k==0).map (·.i)++T1)=R) (λq=>m.exs.length-q.1) (0,[]) ⟨cR _,hR1⟩ ((Wk.nil _ 3 900 1 3 (by simp only[go_sem]) (.inl (by decide))).trans (Wk.of ?_ ?_)) ?_
 .simp only[go_sem,St.mknil];try simp[go_sem]
 .simp only[go_sem,St.mknil];try simp[go_sem]
 rintro⟨j,acc⟩ ⟨hj,hx⟩;dsimp only at hj hx;have hla:acc.length<=1000000000:=by have:=congrArg List.length hx;rw[ej]at this;omega
 have happ:=λys=>bR 900 3 1 acc.length bg acc ys rfl;by_cases h1:(j:Int)<(m.exs.length:Int)
 .have hj':j<m.exs.length:=by omega
  have e8:=cA hj' (by omega);rw[cH hj',Ga]at hx;generalize hX:ap m.exs j=X at hx;by_cases q:X.k=0
  .rw[aF q]at hx;simp only[go_sem,aw h1,hX,aK q,happ];refine⟨by omega,h1,by omega,ay (j+1,acc++[X.i]) ⟨show j+1<=m.exs.length by omega,by rw[<-hx];simp⟩ (show m.exs.length-(j+1)<m.exs.length-j by omega) (Wk.of ?_ ?_)⟩
   .simp only[go_sem,e8,ej,pq];try simp
   .simp only[go_sem,dW,bY,eL];try simp
  .rw[ax q]at hx;simp only[go_sem,aw h1,hX,ab q];refine⟨by omega,h1,ay (j+1,acc) ⟨show j+1<=m.exs.length by omega,hx⟩ (show m.exs.length-(j+1)<m.exs.length-j by omega) (Wk.of ?_ ?_)⟩
   .simp only[go_sem,e8];try simp
   .simp only[go_sem]
 obtain rfl:j=m.exs.length:=by omega
 rw[List.drop_length]at hx;replace hx:acc++T1=R:=hx;obtain⟨T2,hT2⟩:∃T,(m.gs.flatMap λg=>aP g.i)++(m.els.flatMap λe=>e.it.flatMap aP)=T:=⟨_,rfl⟩
 rw[hT2]at hT1;obtain⟨T3,hT3⟩:∃T,(m.els.flatMap λe=>e.it.flatMap aP)=T:=⟨_,rfl⟩
 rw[hT3]at hT2;cases hh:m.hs
 .rw[hh]at hT1;simp only[go_sem,aC h1,hh];obtain⟨A,hA⟩:∃A,A=acc:=⟨_,rfl⟩
  have hA2:A++((m.gs.flatMap λg=>aP g.i)++T3)=R:=by rw[hA,hT2,<-hx,<-hT1];rfl
  refine ao (λq:Nat×List Int=>⟨[(38,.int .i64 q.1),(37,.int .i64 m.gs.length),(36,.sl 3 (m.gs.map zk)),(1,.mp 1 12 0 0),(3,.ms 900 1 0 q.2.length)],[(1,⟨33,12,[mI m],true⟩),(900,⟨3,1,q.2.map bg,false⟩)]⟩) (λq=>q.1<=m.gs.length/\q.2++(((m.gs.drop q.1).flatMap λg=>aP g.i)++T3)=R) (λq=>m.gs.length-q.1) (0,A) ⟨cR _,hA2⟩ (Wk.of ?_ ?_) ?_
  .simp only[go_sem,hA,ej,pq];try simp
  .simp only[go_sem,hA,hh,dW,bY,eL];try simp
  clear hA hA2 happ hla hx acc A;rintro⟨j,acc⟩ ⟨hj,hx⟩;dsimp only at hj hx;have hla:acc.length<=1000000000:=by have:=congrArg List.length hx;rw[ej]at this;omega
  by_cases h2:(j:Int)<(m.gs.length:Int)
  .have hj':j<m.gs.length:=by omega
   have e8:=cA hj' (by omega);rw[cH hj',jd]at hx;have hg:=h.g _ (fe hj');generalize hX:ap m.gs j=X at hx hg;have hlr:(aP X.i).length<=X.i.length:=by unfold aP;rw[bP];exact List.length_filter_le _ _
   have happ:=λys=>bR 900 3 1 acc.length bg acc ys rfl;simp only[go_sem,aw h2,hX];refine⟨by omega,h2,?_⟩;refine ak (BQ X.i hg) ?_;simp only[go_sem,happ];refine⟨⟨by omega,by omega⟩,ay (j+1,acc++aP X.i) ⟨show j+1<=m.gs.length by omega,by rw[<-hx];simp⟩ (show m.gs.length-(j+1)<m.gs.length-j by omega) (Wk.of ?_ ?_)⟩
   .simp only[go_sem,e8,ej,pq];try simp
   .simp only[go_sem,dW];try simp
  obtain rfl:j=m.gs.length:=by omega
  rw[List.drop_length]at hx;replace hx:acc++T3=R:=hx;simp only[go_sem,aC h2];refine ao (λq:Nat×List Int=>⟨[(51,.int .i64 q.1),(50,.int .i64 m.els.length),(49,.sl 5 (m.els.map rK)),(3,.ms 900 1 0 q.2.length)],[(900,⟨3,1,q.2.map bg,false⟩)]⟩) (λq=>q.1<=m.els.length/\q.2++((m.els.drop q.1).flatMap λe=>e.it.flatMap aP)=R) (λq=>m.els.length-q.1) (0,acc) ⟨cR _,by rw[oK,hT3];exact hx⟩ (Wk.of ?_ ?_) ?_
  .simp only[go_sem];try simp
  .simp only[go_sem];try simp
  clear hla hx acc;rintro⟨j,acc⟩ ⟨hj,hx⟩;dsimp only at hj hx;by_cases h3:(j:Int)<(m.els.length:Int)
  .have hj':j<m.els.length:=by omega
   have e8:=cA hj' (by omega);rw[cH hj',jd]at hx;have hg:=h.e _ (fe hj');generalize hX:ap m.els j=X at hx hg;obtain⟨T4,hT4⟩:∃T,((m.els.drop (j+1)).flatMap λe=>e.it.flatMap aP)=T:=⟨_,rfl⟩
   rw[hT4]at hx;simp only[go_sem,aw h3,hX];refine⟨by omega,h3,?_⟩;refine ao (λq:Nat×List Int=>⟨[(58,.int .i64 q.1),(57,.int .i64 X.it.length),(56,.sl 1 (X.it.map oX)),(51,.int .i64 j),(50,.int .i64 m.els.length),(49,.sl 5 (m.els.map rK)),(3,.ms 900 1 0 q.2.length)],[(900,⟨3,1,q.2.map bg,false⟩)]⟩) (λq=>q.1<=X.it.length/\q.2++((X.it.drop q.1).flatMap aP++T4)=R) (λq=>X.it.length-q.1) (0,acc) ⟨cR _,hx⟩ (Wk.of ?_ ?_) ?_
   .simp only[go_sem];try simp
   .simp only[go_sem];try simp
   clear hx;rintro⟨k,acc⟩ ⟨hk,hx⟩;dsimp only at hk hx;have hla:acc.length<=1000000000:=by have:=congrArg List.length hx;rw[ej]at this;omega
   by_cases h4:(k:Int)<(X.it.length:Int)
   .have hk':k<X.it.length:=by omega
    have e9:=cA hk' (by omega);rw[cH hk',jd]at hx;have hg:=hg.2 _ (fe hk');generalize hY:ap X.it k=Y at hx hg;have hlr:(aP Y).length<=Y.length:=by unfold aP;rw[bP];exact List.length_filter_le _ _
    have happ:=λys=>bR 900 3 1 acc.length bg acc ys rfl;simp only[go_sem,aw h4,hY];refine⟨by omega,h4,?_⟩;refine ak (BQ Y hg) ?_;simp only[go_sem,happ];refine⟨⟨by omega,by omega⟩,ay (k+1,acc++aP Y) ⟨show k+1<=X.it.length by omega,by rw[<-hx];simp⟩ (show X.it.length-(k+1)<X.it.length-k by omega) (Wk.of ?_ ?_)⟩
    .simp only[go_sem,e9,ej,pq];try simp
    .simp only[go_sem,dW];try simp
   obtain rfl:k=X.it.length:=by omega
   rw[List.drop_length]at hx;simp only[go_sem,aC h4];refine ay (j+1,acc) ⟨show j+1<=m.els.length by omega,by rw[hT4];exact hx⟩ (show m.els.length-(j+1)<m.els.length-j by omega) (Wk.of ?_ ?_)
   .simp only[go_sem,e8];try simp
   .simp only[go_sem]
  obtain rfl:j=m.els.length:=by omega
  rw[List.drop_length]at hx;replace hx:acc=R:=by rw[<-hx];simp
  subst hx;simp only[go_sem,aC h3];exact done [] _ [(900,⟨3,1,acc.map bg,false⟩)] (by simp only[go_sem]) (by simp only[go_sem];try rfl) rfl ⟨rfl,rfl⟩
 .rw[hh]at hT1;simp only[go_sem,aC h1,hh,happ];refine⟨by omega,?_⟩;obtain⟨A,hA⟩:∃A,A=acc++[m.st]:=⟨_,rfl⟩
  have hA2:A++((m.gs.flatMap λg=>aP g.i)++T3)=R:=by rw[hA,hT2,<-hx,<-hT1];simp
  refine ao (λq:Nat×List Int=>⟨[(38,.int .i64 q.1),(37,.int .i64 m.gs.length),(36,.sl 3 (m.gs.map zk)),(1,.mp 1 12 0 0),(3,.ms 900 1 0 q.2.length)],[(1,⟨33,12,[mI m],true⟩),(900,⟨3,1,q.2.map bg,false⟩)]⟩) (λq=>q.1<=m.gs.length/\q.2++(((m.gs.drop q.1).flatMap λg=>aP g.i)++T3)=R) (λq=>m.gs.length-q.1) (0,A) ⟨cR _,hA2⟩ (Wk.of ?_ ?_) ?_
  .simp only[go_sem,hA,ej,pq];try simp
  .simp only[go_sem,hA,hh,dW,bY,eL];try simp
  clear hA hA2 happ hla hx acc A;rintro⟨j,acc⟩ ⟨hj,hx⟩;dsimp only at hj hx;have hla:acc.length<=1000000000:=by have:=congrArg List.length hx;rw[ej]at this;omega
  by_cases h2:(j:Int)<(m.gs.length:Int)
  .have hj':j<m.gs.length:=by omega
   have e8:=cA hj' (by omega);rw[cH hj',jd]at hx;have hg:=h.g _ (fe hj');generalize hX:ap m.gs j=X at hx hg;have hlr:(aP X.i).length<=X.i.length:=by unfold aP;rw[bP];exact List.length_filter_le _ _
   have happ:=λys=>bR 900 3 1 acc.length bg acc ys rfl;simp only[go_sem,aw h2,hX];refine⟨by omega,h2,?_⟩;refine ak (BQ X.i hg) ?_;simp only[go_sem,happ];refine⟨⟨by omega,by omega⟩,ay (j+1,acc++aP X.i) ⟨show j+1<=m.gs.length by omega,by rw[<-hx];simp⟩ (show m.gs.length-(j+1)<m.gs.length-j by omega) (Wk.of ?_ ?_)⟩
   .simp only[go_sem,e8,ej,pq];try simp
   .simp only[go_sem,dW];try simp
  obtain rfl:j=m.gs.length:=by omega
  rw[List.drop_length]at hx;replace hx:acc++T3=R:=hx;simp only[go_sem,aC h2];refine ao (λq:Nat×List Int=>⟨[(51,.int .i64 q.1),(50,.int .i64 m.els.length),(49,.sl 5 (m.els.map rK)),(3,.ms 900 1 0 q.2.length)],[(900,⟨3,1,q.2.map bg,false⟩)]⟩) (λq=>q.1<=m.els.length/\q.2++((m.els.drop q.1).flatMap λe=>e.it.flatMap aP)=R) (λq=>m.els.length-q.1) (0,acc) ⟨cR _,by rw[oK,hT3];exact hx⟩ (Wk.of ?_ ?_) ?_
  .simp only[go_sem];try simp
  .simp only[go_sem];try simp
  clear hla hx acc;rintro⟨j,acc⟩ ⟨hj,hx⟩;dsimp only at hj hx;by_cases h3:(j:Int)<(m.els.length:Int)
  .have hj':j<m.els.length:=by omega
   have e8:=cA hj' (by omega);rw[cH hj',jd]at hx;have hg:=h.e _ (fe hj');generalize hX:ap m.els j=X at hx hg;obtain⟨T4,hT4⟩:∃T,((m.els.drop (j+1)).flatMap λe=>e.it.flatMap aP)=T:=⟨_,rfl⟩
   rw[hT4]at hx;simp only[go_sem,aw h3,hX];refine⟨by omega,h3,?_⟩;refine ao (λq:Nat×List Int=>⟨[(58,.int .i64 q.1),(57,.int .i64 X.it.length),(56,.sl 1 (X.it.map oX)),(51,.int .i64 j),(50,.int .i64 m.els.length),(49,.sl 5 (m.els.map rK)),(3,.ms 900 1 0 q.2.length)],[(900,⟨3,1,q.2.map bg,false⟩)]⟩) (λq=>q.1<=X.it.length/\q.2++((X.it.drop q.1).flatMap aP++T4)=R) (λq=>X.it.length-q.1) (0,acc) ⟨cR _,hx⟩ (Wk.of ?_ ?_) ?_
   .simp only[go_sem];try simp
   .simp only[go_sem];try simp
   clear hx;rintro⟨k,acc⟩ ⟨hk,hx⟩;dsimp only at hk hx;have hla:acc.length<=1000000000:=by have:=congrArg List.length hx;rw[ej]at this;omega
   by_cases h4:(k:Int)<(X.it.length:Int)
   .have hk':k<X.it.length:=by omega
    have e9:=cA hk' (by omega);rw[cH hk',jd]at hx;have hg:=hg.2 _ (fe hk');generalize hY:ap X.it k=Y at hx hg;have hlr:(aP Y).length<=Y.length:=by unfold aP;rw[bP];exact List.length_filter_le _ _
    have happ:=λys=>bR 900 3 1 acc.length bg acc ys rfl;simp only[go_sem,aw h4,hY];refine⟨by omega,h4,?_⟩;refine ak (BQ Y hg) ?_;simp only[go_sem,happ];refine⟨⟨by omega,by omega⟩,ay (k+1,acc++aP Y) ⟨show k+1<=X.it.length by omega,by rw[<-hx];simp⟩ (show X.it.length-(k+1)<X.it.length-k by omega) (Wk.of ?_ ?_)⟩
    .simp only[go_sem,e9,ej,pq];try simp
    .simp only[go_sem,dW];try simp
   obtain rfl:k=X.it.length:=by omega
   rw[List.drop_length]at hx;simp only[go_sem,aC h4];refine ay (j+1,acc) ⟨show j+1<=m.els.length by omega,by rw[hT4];exact hx⟩ (show m.els.length-(j+1)<m.els.length-j by omega) (Wk.of ?_ ?_)
   .simp only[go_sem,e8];try simp
   .simp only[go_sem]
  obtain rfl:j=m.els.length:=by omega
  rw[List.drop_length]at hx;replace hx:acc=R:=by rw[<-hx];simp
  subst hx;simp only[go_sem,aC h3];exact done [] _ [(900,⟨3,1,acc.map bg,false⟩)] (by simp only[go_sem]) (by simp only[go_sem];try rfl) rfl ⟨rfl,rfl⟩
end
open Go Go.Mw
def Ma(m:Md)(h:m.ims.length<=10000)(hf:m.fs.length<=10000):ah pg Cv [da m] (.int .i64 ((gj 0 m.ims+m.fs.length:Nat))):=by
 refine au uq ?_;have c:=sx m h 0;have hl:=ly 0 m.ims;generalize gj 0 m.ims=f at c hl⊢;simp only[da,bn]at c;have w:IntKind.i64.wrap ((f:Int)+(m.fs.length:Int))=((f+m.fs.length:Nat):Int):=by rw[wi (by omega) (by omega)];omega
 simp only[go_sem,bP,bH,eE,bn,df,gC,dn,ez,uq,da];refine aL c (by simp[go_sem]) rfl ?_;simp only[go_sem,bP,bH,eE,bn,df,gC,dn,ez,w];exact an
def Jo(o:List Bool):dZ (B8 o)=[]:=by
 unfold B8 dZ;simp only[List.flatMap_map,rt];simp[go_sem]
def gA(i:Nat){o:List Bool}{l:List a_}{c:Bool}{d:Option Nat}{s:St}{K:St->Prop}{n:Nat}(hn:o.length=n)(hl:l.length<=2000000)(hi:i<1000)(h1:ae s.heap i=some (B8 o))
  (hk:K ((St.mk s.env ((i,B8 (cS (HU c l) o))::s.heap)).put d (.ms i 1 0 n))):cB pg xn [.ms i 1 0 n,.sl 9 (l.map bH),.bool c] d s K:=by
 subst hn;have n1:i≠1000:=by omega
 have b1:bw [(1000,i)] i=1000:=by simp[bw,wy,n1]
 have f1:fw [(1000,i)] 1000=i:=by simp[fw,wy,n1]
 have hid:aI (.sl 9 (l.map bH))=[]:=by simp[go_sem]
 refine ey (σ2:=[(i,B8 o)]) (r3:=.ms i 1 0 o.length) (σ3:=[(i,B8 (cS (HU c l) o))]) (Zz o l c hl) [(1000,i)] [] ?_ ?_ ?_ ?_ ?_ ?_ ?_ hk
 .simp only[bY,eL,lB,zT,xB,yI,b1]
 .simp only[lh,b1,sX _ _ (Jo _)]
 .simp only[lB,zT,xB,yI,f1]
 .simp only[lh,f1,sX _ _ (Jo _)]
 .intro p hp;simp only[bp,bZ,or_false]at hp;subst hp;exact h1
 .intro p hp;simp only[bp,bZ,or_false]at hp;subst hp;exact .inl ⟨by rw[b1];exact⟨by decide,by decide⟩,by simp[ae]⟩
 .intro p hp;simp only[bp,bZ,or_false]at hp;subst hp;simp[ae]
def vM(N j:Nat):List Bool:=List.replicate j true++List.replicate (N-j) false
def ZS(N:Nat):List.replicate N [AV.bool false]=(vM N 0).map rt:=by simp[vM,rt]
def Rh{N j:Nat}(h:j<=N):(vM N j).length=N:=by simp[vM];omega
def Ri{N j:Nat}(h:j<N):(vM N j).set j true=vM N (j+1):=by
 unfold vM;rw[List.set_append_right _ _ (by simp),List.length_replicate,zx];obtain⟨k,hk⟩:∃k,N-j=k+1:=⟨N-j-1,by omega⟩
 rw[hk,KG,List.set_cons_zero,show N-(j+1)=k by omega,Z9,mE];rfl
def YJ(i:Int)(L:List Int)(o:List Bool):cS (i::L) o=cS L (FJ o i):=rfl
section
def Wh{o:List Bool}{i:Int}(h:0<=i/\i<o.length):FJ o i=o.set i.toNat true:=by unfold FJ;rw[aF h]
def Wg{o:List Bool}{i:Int}(h:¬(0<=i/\i<o.length)):FJ o i=o:=by unfold FJ;rw[ax h]
attribute[local go_sem] bP bH eE bn df gC dn ez
def UQ(m:Md)(h:Ry m)(h':ZG m):aZ pg Cx [da m] [] sb (λr σ'=>r = .ms 11 1 0 (gj 0 m.ims+m.fs.length)/\σ'=[(11,B8 (cS (fZ m) (vM (gj 0 m.ims+m.fs.length) (gj 0 m.ims))))]):=by
 refine dj us ?_;have c:=sx m h.ims 0;have cF:=Ma m h.ims h.fs;have hf:=ly 0 m.ims;have i1:=h.ims;have i2:=h.fs;have b1:=h'.ex;have b2:=h'.gs;have b3:=h'.el;generalize gj 0 m.ims=f at c cF hf⊢;obtain⟨N,hN⟩:∃N,f+m.fs.length=N:=⟨_,rfl⟩
 rw[hN]at cF⊢;obtain⟨R,hR⟩:∃R,cS (fZ m) (vM N f)=R:=⟨_,rfl⟩
 rw[hR];obtain⟨T1,hT1⟩:∃T,(if m.hs then[m.st]else[])++((m.gs.flatMap λg=>aP g.i)++(m.els.flatMap λe=>e.it.flatMap aP))=T:=⟨_,rfl⟩
 have hR1:cS (((m.exs.filter λe=>e.k==0).map (·.i))++T1) (vM N f)=R:=by rw[<-hR,<-hT1];simp[fZ]
 simp only[da,bn]at c cF;simp only[go_sem,us,da];refine aa (cF) ?_;refine⟨by omega,?_⟩;refine ao (λj:Nat=>⟨[(4,.int .i64 j),(3,.ms 11 1 0 N),(1,.mp 1 12 0 0)],[(1,⟨33,12,[mI m],true⟩),(11,⟨4,1,(vM N j).map rt,false⟩)]⟩) (λj=>j<=f) (λj=>f-j) 0 (cR _) (Wk.of ?_ ?_) ?_
 .simp only[go_sem];try simp
 .simp only[go_sem,<-ZS];try simp
 intro j hj;replace hj:j<=f:=hj;have hlj:=Rh (show j<=N by omega);simp only[go_sem];refine ak (c) ?_;by_cases h1:(j:Int)<(f:Int)
 .have e8:=cA (show j<f by omega) (by omega);simp only[go_sem,aw h1,vN,cY];refine⟨⟨by omega,by omega⟩,by omega,ay (j+1) (show j+1<=f by omega) (show f-(j+1)<f-j by omega) (Wk.of ?_ ?_)⟩
  .simp only[go_sem,e8];try simp
  .simp only[go_sem,<-Ri (show j<N by omega)];try simp
 obtain rfl:j=f:=by omega
 simp only[go_sem,aC h1];refine ao (λq:Nat×List Bool=>⟨[(5,.int .i64 q.1),(3,.ms 11 1 0 N),(1,.mp 1 12 0 0)],[(1,⟨33,12,[mI m],true⟩),(11,⟨4,1,q.2.map rt,false⟩)]⟩) (λq=>q.1<=m.exs.length/\q.2.length=N/\cS (((m.exs.drop q.1).filter λe=>e.k==0).map (·.i)++T1) q.2=R) (λq=>m.exs.length-q.1) (0,vM N j) ⟨cR _,hlj,hR1⟩ (Wk.of ?_ ?_) ?_
 .simp only[go_sem];try simp
 .simp only[go_sem];try simp
 clear hR1 hR;rintro⟨i,o⟩ ⟨hi,hlo,hx⟩;dsimp only at hi hlo hx;by_cases h2:(i:Int)<(m.exs.length:Int)
 .have hi':i<m.exs.length:=by omega
  have e8:=cA hi' (by omega);rw[cH hi',Ga]at hx;generalize hX:ap m.exs i=X at hx;by_cases q:X.k=0
  .rw[aF q,tU,YJ]at hx;have w:=vH X.i N;by_cases q3:0<=X.i/\X.i<N
   .rw[aw q3]at w;rw[Wh (by omega)]at hx;simp only[go_sem,aw h2,hX,aK q];refine⟨by omega,h2,by omega,h2,?_⟩;refine ak (w) ?_;simp only[go_sem,vN,hX];refine⟨by omega,h2,⟨q3.1,q3.2⟩,by omega,ay (i+1,o.set X.i.toNat true) ⟨show i+1<=m.exs.length by omega,show(o.set X.i.toNat true).length=N by simpa using hlo,hx⟩ (show m.exs.length-(i+1)<m.exs.length-i by omega) (Wk.of ?_ ?_)⟩
    .simp only[go_sem,e8];try simp
    .simp only[go_sem];try simp
   .rw[aC q3]at w;rw[Wg (by omega)]at hx;simp only[go_sem,aw h2,hX,aK q];refine⟨by omega,h2,by omega,h2,?_⟩;refine aa (w) ?_;refine ay (i+1,o) ⟨show i+1<=m.exs.length by omega,hlo,hx⟩ (show m.exs.length-(i+1)<m.exs.length-i by omega) (Wk.of ?_ ?_)
    .simp only[go_sem,e8];try simp
    .simp only[go_sem];try simp
  .rw[ax q]at hx;simp only[go_sem,aw h2,hX,ab q];refine⟨by omega,h2,ay (i+1,o) ⟨show i+1<=m.exs.length by omega,hlo,hx⟩ (show m.exs.length-(i+1)<m.exs.length-i by omega) (Wk.of ?_ ?_)⟩
   .simp only[go_sem,e8];try simp
   .simp only[go_sem];try simp
 obtain rfl:i=m.exs.length:=by omega
 rw[List.drop_length]at hx;replace hx:cS T1 o=R:=hx;obtain⟨T2,hT2⟩:∃T,(m.gs.flatMap λg=>aP g.i)++(m.els.flatMap λe=>e.it.flatMap aP)=T:=⟨_,rfl⟩
 rw[hT2]at hT1;obtain⟨T3,hT3⟩:∃T,(m.els.flatMap λe=>e.it.flatMap aP)=T:=⟨_,rfl⟩
 rw[hT3]at hT2;cases hh:m.hs
 .rw[hh]at hT1;simp only[go_sem,aC h2,hh];obtain⟨A,hA⟩:∃A,A=o:=⟨_,rfl⟩
  have hAl:A.length=N:=by rw[hA];exact hlo
  have hA2:cS ((m.gs.flatMap λg=>aP g.i)++T3) A=R:=by rw[hA,hT2,<-hx,<-hT1];rfl
  refine ao (λq:Nat×List Bool=>⟨[(6,.int .i64 q.1),(3,.ms 11 1 0 N),(1,.mp 1 12 0 0)],[(1,⟨33,12,[mI m],true⟩),(11,⟨4,1,q.2.map rt,false⟩)]⟩) (λq=>q.1<=m.gs.length/\q.2.length=N/\cS (((m.gs.drop q.1).flatMap λg=>aP g.i)++T3) q.2=R) (λq=>m.gs.length-q.1) (0,A) ⟨cR _,hAl,hA2⟩ (Wk.of ?_ ?_) ?_
  .simp only[go_sem];try simp
  .simp only[go_sem,hA,hh];try simp[hh]
  clear hA hA2 hAl A hx hlo o;rintro⟨j,o⟩ ⟨hj,hlo,hx⟩;dsimp only at hj hlo hx;by_cases h3:(j:Int)<(m.gs.length:Int)
  .have hj':j<m.gs.length:=by omega
   have e8:=cA hj' (by omega);rw[cH hj',jd,mE,m8]at hx;have hg:=h'.g _ (fe hj');generalize hX:ap m.gs j=X at hx hg;simp only[go_sem,aw h3,hX];refine⟨by omega,h3,?_⟩;refine gA 11 (o:=o) hlo hg (by decide) (by simp only[go_sem,e_]) ?_;simp only[go_sem,Dx,e_];refine ay (j+1,cS (aP X.i) o) ⟨show j+1<=m.gs.length by omega,show(cS (aP X.i) o).length=N by rw[fO];exact hlo,hx⟩ (show m.gs.length-(j+1)<m.gs.length-j by omega) (Wk.of ?_ ?_)
   .simp only[go_sem,e8];try simp
   .simp only[go_sem];try simp
  obtain rfl:j=m.gs.length:=by omega
  rw[List.drop_length]at hx;replace hx:cS T3 o=R:=hx;simp only[go_sem,aC h3];refine ao (λq:Nat×List Bool=>⟨[(7,.int .i64 q.1),(3,.ms 11 1 0 N),(1,.mp 1 12 0 0)],[(1,⟨33,12,[mI m],true⟩),(11,⟨4,1,q.2.map rt,false⟩)]⟩) (λq=>q.1<=m.els.length/\q.2.length=N/\cS ((m.els.drop q.1).flatMap λe=>e.it.flatMap aP) q.2=R) (λq=>m.els.length-q.1) (0,o) ⟨cR _,hlo,by rw[oK,hT3];exact hx⟩ (Wk.of ?_ ?_) ?_
  .simp only[go_sem];try simp
  .simp only[go_sem];try simp
  clear hx hlo o;rintro⟨j,o⟩ ⟨hj,hlo,hx⟩;dsimp only at hj hlo hx;by_cases h4:(j:Int)<(m.els.length:Int)
  .have hj':j<m.els.length:=by omega
   have e8:=cA hj' (by omega);rw[cH hj',jd]at hx;have hg:=h'.e _ (fe hj');generalize hX:ap m.els j=X at hx hg;obtain⟨T4,hT4⟩:∃T,((m.els.drop (j+1)).flatMap λe=>e.it.flatMap aP)=T:=⟨_,rfl⟩
   rw[hT4]at hx;simp only[go_sem,aw h4];refine ao (λq:Nat×List Bool=>⟨[(8,.int .i64 q.1),(7,.int .i64 j),(3,.ms 11 1 0 N),(1,.mp 1 12 0 0)],[(1,⟨33,12,[mI m],true⟩),(11,⟨4,1,q.2.map rt,false⟩)]⟩) (λq=>q.1<=X.it.length/\q.2.length=N/\cS ((X.it.drop q.1).flatMap aP++T4) q.2=R) (λq=>X.it.length-q.1) (0,o) ⟨cR _,hlo,hx⟩ (Wk.of ?_ ?_) ?_
   .simp only[go_sem];try simp
   .simp only[go_sem];try simp
   clear hx;rintro⟨k,o⟩ ⟨hk,hlo,hx⟩;dsimp only at hk hlo hx;by_cases h5:(k:Int)<(X.it.length:Int)
   .have hk':k<X.it.length:=by omega
    have e9:=cA hk' (by omega);rw[cH hk',jd,mE,m8]at hx;have hg:=hg.2 _ (fe hk');generalize hY:ap X.it k=Y at hx hg;simp only[go_sem,hX,aw h5,hY];refine⟨by omega,h4,by omega,h4,by omega,h5,?_⟩;refine gA 11 (o:=o) hlo hg (by decide) (by simp only[go_sem,e_]) ?_;simp only[go_sem,Dx,e_];refine ay (k+1,cS (aP Y) o) ⟨show k+1<=X.it.length by omega,show(cS (aP Y) o).length=N by rw[fO];exact hlo,hx⟩ (show X.it.length-(k+1)<X.it.length-k by omega) (Wk.of ?_ ?_)
    .simp only[go_sem,e9];try simp
    .simp only[go_sem];try simp
   obtain rfl:k=X.it.length:=by omega
   rw[List.drop_length]at hx;simp only[go_sem,hX,aC h5];refine⟨by omega,h4,ay (j+1,o) ⟨show j+1<=m.els.length by omega,hlo,by rw[hT4];exact hx⟩ (show m.els.length-(j+1)<m.els.length-j by omega) (Wk.of ?_ ?_)⟩
   .simp only[go_sem,e8];try simp
   .simp only[go_sem];try simp
  obtain rfl:j=m.els.length:=by omega
  rw[List.drop_length]at hx;replace hx:o=R:=hx;subst hx;simp only[go_sem,aC h4];exact done [] _ [(11,B8 o)] (by simp only[go_sem]) (by simp only[go_sem,e_];try rfl) rfl ⟨rfl,rfl⟩
 .rw[hh]at hT1;have w:=vH m.st N;by_cases q3:0<=m.st/\m.st<N
  .rw[aw q3]at w;simp only[go_sem,aC h2,hh];refine ak (w) ?_;simp only[go_sem,vN,hh];refine⟨⟨q3.1,q3.2⟩,by omega,?_⟩;obtain⟨A,hA⟩:∃A,A=o.set m.st.toNat true:=⟨_,rfl⟩
   have hAl:A.length=N:=by rw[hA];simpa using hlo
   have hA2:cS ((m.gs.flatMap λg=>aP g.i)++T3) A=R:=by rw[hA,hT2,<-hx,<-hT1,<-Wh (by omega)];rfl
   refine ao (λq:Nat×List Bool=>⟨[(6,.int .i64 q.1),(3,.ms 11 1 0 N),(1,.mp 1 12 0 0)],[(1,⟨33,12,[mI m],true⟩),(11,⟨4,1,q.2.map rt,false⟩)]⟩) (λq=>q.1<=m.gs.length/\q.2.length=N/\cS (((m.gs.drop q.1).flatMap λg=>aP g.i)++T3) q.2=R) (λq=>m.gs.length-q.1) (0,A) ⟨cR _,hAl,hA2⟩ (Wk.of ?_ ?_) ?_
   .simp only[go_sem];try simp
   .simp only[go_sem,hA,hh];try simp[hh]
   clear hA hA2 hAl A hx hlo o;rintro⟨j,o⟩ ⟨hj,hlo,hx⟩;dsimp only at hj hlo hx;by_cases h3:(j:Int)<(m.gs.length:Int)
   .have hj':j<m.gs.length:=by omega
    have e8:=cA hj' (by omega);rw[cH hj',jd,mE,m8]at hx;have hg:=h'.g _ (fe hj');generalize hX:ap m.gs j=X at hx hg;simp only[go_sem,aw h3,hX];refine⟨by omega,h3,?_⟩;refine gA 11 (o:=o) hlo hg (by decide) (by simp only[go_sem,e_]) ?_;simp only[go_sem,Dx,e_];refine ay (j+1,cS (aP X.i) o) ⟨show j+1<=m.gs.length by omega,show(cS (aP X.i) o).length=N by rw[fO];exact hlo,hx⟩ (show m.gs.length-(j+1)<m.gs.length-j by omega) (Wk.of ?_ ?_)
    .simp only[go_sem,e8];try simp
    .simp only[go_sem];try simp
   obtain rfl:j=m.gs.length:=by omega
   rw[List.drop_length]at hx;replace hx:cS T3 o=R:=hx;simp only[go_sem,aC h3];refine ao (λq:Nat×List Bool=>⟨[(7,.int .i64 q.1),(3,.ms 11 1 0 N),(1,.mp 1 12 0 0)],[(1,⟨33,12,[mI m],true⟩),(11,⟨4,1,q.2.map rt,false⟩)]⟩) (λq=>q.1<=m.els.length/\q.2.length=N/\cS ((m.els.drop q.1).flatMap λe=>e.it.flatMap aP) q.2=R) (λq=>m.els.length-q.1) (0,o) ⟨cR _,hlo,by rw[oK,hT3];exact hx⟩ (Wk.of ?_ ?_) ?_
   .simp only[go_sem];try simp
   .simp only[go_sem];try simp
   clear hx hlo o;rintro⟨j,o⟩ ⟨hj,hlo,hx⟩;dsimp only at hj hlo hx;by_cases h4:(j:Int)<(m.els.length:Int)
   .have hj':j<m.els.length:=by omega
    have e8:=cA hj' (by omega);rw[cH hj',jd]at hx;have hg:=h'.e _ (fe hj');generalize hX:ap m.els j=X at hx hg;obtain⟨T4,hT4⟩:∃T,((m.els.drop (j+1)).flatMap λe=>e.it.flatMap aP)=T:=⟨_,rfl⟩
    rw[hT4]at hx;simp only[go_sem,aw h4];refine ao (λq:Nat×List Bool=>⟨[(8,.int .i64 q.1),(7,.int .i64 j),(3,.ms 11 1 0 N),(1,.mp 1 12 0 0)],[(1,⟨33,12,[mI m],true⟩),(11,⟨4,1,q.2.map rt,false⟩)]⟩) (λq=>q.1<=X.it.length/\q.2.length=N/\cS ((X.it.drop q.1).flatMap aP++T4) q.2=R) (λq=>X.it.length-q.1) (0,o) ⟨cR _,hlo,hx⟩ (Wk.of ?_ ?_) ?_
    .simp only[go_sem];try simp
    .simp only[go_sem];try simp
    clear hx;rintro⟨k,o⟩ ⟨hk,hlo,hx⟩;dsimp only at hk hlo hx;by_cases h5:(k:Int)<(X.it.length:Int)
    .have hk':k<X.it.length:=by omega
     have e9:=cA hk' (by omega);rw[cH hk',jd,mE,m8]at hx;have hg:=hg.2 _ (fe hk');generalize hY:ap X.it k=Y at hx hg;simp only[go_sem,hX,aw h5,hY];refine⟨by omega,h4,by omega,h4,by omega,h5,?_⟩;refine gA 11 (o:=o) hlo hg (by decide) (by simp only[go_sem,e_]) ?_;simp only[go_sem,Dx,e_];refine ay (k+1,cS (aP Y) o) ⟨show k+1<=X.it.length by omega,show(cS (aP Y) o).length=N by rw[fO];exact hlo,hx⟩ (show X.it.length-(k+1)<X.it.length-k by omega) (Wk.of ?_ ?_)
     .simp only[go_sem,e9];try simp
     .simp only[go_sem];try simp
    obtain rfl:k=X.it.length:=by omega
    rw[List.drop_length]at hx;simp only[go_sem,hX,aC h5];refine⟨by omega,h4,ay (j+1,o) ⟨show j+1<=m.els.length by omega,hlo,by rw[hT4];exact hx⟩ (show m.els.length-(j+1)<m.els.length-j by omega) (Wk.of ?_ ?_)⟩
    .simp only[go_sem,e8];try simp
    .simp only[go_sem];try simp
   obtain rfl:j=m.els.length:=by omega
   rw[List.drop_length]at hx;replace hx:o=R:=hx;subst hx;simp only[go_sem,aC h4];exact done [] _ [(11,B8 o)] (by simp only[go_sem]) (by simp only[go_sem,e_];try rfl) rfl ⟨rfl,rfl⟩
  .rw[aC q3]at w;simp only[go_sem,aC h2,hh];refine ak (w) ?_;simp only[go_sem,hh];obtain⟨A,hA⟩:∃A,A=o:=⟨_,rfl⟩
   have hAl:A.length=N:=by rw[hA];exact hlo
   have hA2:cS ((m.gs.flatMap λg=>aP g.i)++T3) A=R:=by
    have e:=Wg (o:=o) (i:=m.st) (by omega);rw[hA,hT2,<-hx,<-hT1];show cS T2 o=cS T2 (FJ o m.st);rw[e]
   refine ao (λq:Nat×List Bool=>⟨[(6,.int .i64 q.1),(3,.ms 11 1 0 N),(1,.mp 1 12 0 0)],[(1,⟨33,12,[mI m],true⟩),(11,⟨4,1,q.2.map rt,false⟩)]⟩) (λq=>q.1<=m.gs.length/\q.2.length=N/\cS (((m.gs.drop q.1).flatMap λg=>aP g.i)++T3) q.2=R) (λq=>m.gs.length-q.1) (0,A) ⟨cR _,hAl,hA2⟩ (Wk.of ?_ ?_) ?_
   .simp only[go_sem];try simp
   .simp only[go_sem,hA,hh];try simp[hh]
   clear hA hA2 hAl A hx hlo o;rintro⟨j,o⟩ ⟨hj,hlo,hx⟩;dsimp only at hj hlo hx;by_cases h3:(j:Int)<(m.gs.length:Int)
   .have hj':j<m.gs.length:=by omega
    have e8:=cA hj' (by omega);rw[cH hj',jd,mE,m8]at hx;have hg:=h'.g _ (fe hj');generalize hX:ap m.gs j=X at hx hg;simp only[go_sem,aw h3,hX];refine⟨by omega,h3,?_⟩;refine gA 11 (o:=o) hlo hg (by decide) (by simp only[go_sem,e_]) ?_;simp only[go_sem,Dx,e_];refine ay (j+1,cS (aP X.i) o) ⟨show j+1<=m.gs.length by omega,show(cS (aP X.i) o).length=N by rw[fO];exact hlo,hx⟩ (show m.gs.length-(j+1)<m.gs.length-j by omega) (Wk.of ?_ ?_)
    .simp only[go_sem,e8];try simp
    .simp only[go_sem];try simp
   obtain rfl:j=m.gs.length:=by omega
   rw[List.drop_length]at hx;replace hx:cS T3 o=R:=hx;simp only[go_sem,aC h3];refine ao (λq:Nat×List Bool=>⟨[(7,.int .i64 q.1),(3,.ms 11 1 0 N),(1,.mp 1 12 0 0)],[(1,⟨33,12,[mI m],true⟩),(11,⟨4,1,q.2.map rt,false⟩)]⟩) (λq=>q.1<=m.els.length/\q.2.length=N/\cS ((m.els.drop q.1).flatMap λe=>e.it.flatMap aP) q.2=R) (λq=>m.els.length-q.1) (0,o) ⟨cR _,hlo,by rw[oK,hT3];exact hx⟩ (Wk.of ?_ ?_) ?_
   .simp only[go_sem];try simp
   .simp only[go_sem];try simp
   clear hx hlo o;rintro⟨j,o⟩ ⟨hj,hlo,hx⟩;dsimp only at hj hlo hx;by_cases h4:(j:Int)<(m.els.length:Int)
   .have hj':j<m.els.length:=by omega
    have e8:=cA hj' (by omega);rw[cH hj',jd]at hx;have hg:=h'.e _ (fe hj');generalize hX:ap m.els j=X at hx hg;obtain⟨T4,hT4⟩:∃T,((m.els.drop (j+1)).flatMap λe=>e.it.flatMap aP)=T:=⟨_,rfl⟩
    rw[hT4]at hx;simp only[go_sem,aw h4];refine ao (λq:Nat×List Bool=>⟨[(8,.int .i64 q.1),(7,.int .i64 j),(3,.ms 11 1 0 N),(1,.mp 1 12 0 0)],[(1,⟨33,12,[mI m],true⟩),(11,⟨4,1,q.2.map rt,false⟩)]⟩) (λq=>q.1<=X.it.length/\q.2.length=N/\cS ((X.it.drop q.1).flatMap aP++T4) q.2=R) (λq=>X.it.length-q.1) (0,o) ⟨cR _,hlo,hx⟩ (Wk.of ?_ ?_) ?_
    .simp only[go_sem];try simp
    .simp only[go_sem];try simp
    clear hx;rintro⟨k,o⟩ ⟨hk,hlo,hx⟩;dsimp only at hk hlo hx;by_cases h5:(k:Int)<(X.it.length:Int)
    .have hk':k<X.it.length:=by omega
     have e9:=cA hk' (by omega);rw[cH hk',jd,mE,m8]at hx;have hg:=hg.2 _ (fe hk');generalize hY:ap X.it k=Y at hx hg;simp only[go_sem,hX,aw h5,hY];refine⟨by omega,h4,by omega,h4,by omega,h5,?_⟩;refine gA 11 (o:=o) hlo hg (by decide) (by simp only[go_sem,e_]) ?_;simp only[go_sem,Dx,e_];refine ay (k+1,cS (aP Y) o) ⟨show k+1<=X.it.length by omega,show(cS (aP Y) o).length=N by rw[fO];exact hlo,hx⟩ (show X.it.length-(k+1)<X.it.length-k by omega) (Wk.of ?_ ?_)
     .simp only[go_sem,e9];try simp
     .simp only[go_sem];try simp
    obtain rfl:k=X.it.length:=by omega
    rw[List.drop_length]at hx;simp only[go_sem,hX,aC h5];refine⟨by omega,h4,ay (j+1,o) ⟨show j+1<=m.els.length by omega,hlo,by rw[hT4];exact hx⟩ (show m.els.length-(j+1)<m.els.length-j by omega) (Wk.of ?_ ?_)⟩
    .simp only[go_sem,e8];try simp
    .simp only[go_sem];try simp
   obtain rfl:j=m.els.length:=by omega
   rw[List.drop_length]at hx;replace hx:o=R:=hx;subst hx;simp only[go_sem,aC h4];exact done [] _ [(11,B8 o)] (by simp only[go_sem]) (by simp only[go_sem,e_];try rfl) rfl ⟨rfl,rfl⟩
end
section
def lT(m:Md):List (List a_):=m.fs.map (·.b)
def nL(m:Md):(lT m).length=m.fs.length:=bP ..
def D3{m:Md}{k:Nat}(h:k<m.fs.length):ap (lT m) k=(ap m.fs k).b:=by
 rw[aV (by rw[nL];exact h),aV h];simp[lT]
def zg(i:Nat){N:Nat}{o:List Bool}{d:Option Nat}{s:St}{K:St->Prop}(hn:o.length=N)(hl:o.length<=1000000)(h1:ae s.heap i=some (B8 o))(hk:K (s.put d (.int .i64 (iX o:Nat)))):cB pg xm [.ms i 1 0 N] d s K :=
 K7 (Zy o hl) (λx hx=>by rw[eF.1 hx];simp[go_sem,rt]) ⟨.inr (.inr ⟨rfl,i,1,0,N,B8 o,rfl,h1,rfl,rfl,by simp[B8];omega,by simp[B8];rw[gN (by simp;omega)]⟩),trivial⟩ rfl hk
def aco{n k:Nat}(h:k<n):(List.range n).drop k=k::(List.range n).drop (k+1):=by
 rw[Z8 (by simpa using h),List.getElem_range]
def ace{f:Nat}{bs:List (List a_)}{o:List Bool}{k:Nat}(h:f+k<o.length)(q:ap o (f+k)=true):He f bs o k=cS (G9 (ap bs k)) o:=by unfold He;rw[dV h,q,aF rfl]
def acd{f:Nat}{bs:List (List a_)}{o:List Bool}{k:Nat}(h:f+k<o.length)(q:ap o (f+k)=false):He f bs o k=o:=by unfold He;rw[dV h,q,ax (by simp)]
attribute[local go_sem] bP bH eE bn df gC dn ez cj
def Hn(m:Md)(h:Ry m)(h':ZG m)(hb:∀x∈m.fs,x.b.length<=2000000):ah pg zO [da m] (.sl 1 ((yG (gj 0 m.ims) (lT m) (fZ m)).map rt)):=by
 refine au qg ?_;have c:=sx m h.ims 0;have c1:=UQ m h h';have hf:=ly 0 m.ims;have i1:=h.ims;have i2:=h.fs;generalize gj 0 m.ims=f at c c1 hf⊢;have hM:HQ f (lT m) (fZ m) (cS (fZ m) (vM (f+m.fs.length) f)):=by
  have:=HQ.start (f:=f) (bs:=lT m) (rt:=fZ m);rw[nL]at this;unfold vM;rw[Nat.add_sub_cancel_left];exact this
 have hlb:=nL m;obtain⟨N,hN⟩:∃N,f+m.fs.length=N:=⟨_,rfl⟩
 rw[hN]at c1 hM;simp only[da,bn]at c c1;simp only[go_sem,qg,da];refine mY c1 rfl (by simp[go_sem]) 900 (.inl (by decide)) (by simp only[go_sem]) ?_;simp only[go_sem];refine aa (c) ?_;refine ao (λq:Int×List Bool=>⟨[(5,.int .i64 q.1),(3,.ms 900 1 0 N),(4,.int .i64 f),(1,.mp 1 12 0 0)],[(1,⟨33,12,[mI m],true⟩),(900,B8 q.2)]⟩) (λq=>HQ f (lT m) (fZ m) q.2/\(q.1 = -1\/∃p,HQ f (lT m) (fZ m) p/\q.2=Vv f (lT m) p/\q.1=(iX p:Nat))) (λq=>2*(N-iX q.2)+if q.1=(iX q.2:Nat)then 0 else 1) (-1,cS (fZ m) (vM N f)) ⟨hM,.inl rfl⟩ (Wk.of ?_ ?_) ?_
 .simp only[go_sem];try simp
 .simp only[go_sem];try simp
 rintro⟨n,o⟩ ⟨hI,hn⟩;dsimp only at hI hn;have hlo:o.length=N:=by rw[hI.ln,hlb,hN]
 have hco:=AG o;simp only[go_sem];refine zg 900 (o:=o) hlo (by omega) (by simp only[go_sem]) ?_;by_cases q0:n=(iX o:Nat)
 .obtain⟨p,hp,e1,e2⟩:=hn.resolve_left (by omega);have hs:iX (Vv f (lT m) p)=iX p:=by rw[<-e1];omega
  have hr:=hp.stop hs;have ho:o=yG f (lT m) (fZ m):=by
   rw[e1,<-(Eb (Kz f (lT m) p)).2 (Nat.le_of_eq hs)];exact hr
  simp only[go_sem,ar q0];refine aE [900] ?_ rfl;rw[<-ho];have hNo:N<=o.length:=by omega
  simp only[go_sem,aN,e_,hNo];rw[gN (by simp;omega)]
 simp only[go_sem,aG q0];refine zg 900 (o:=o) hlo (by omega) (by simp only[go_sem]) ?_;simp only[go_sem];refine ao (λq:Nat×List Bool=>⟨[(6,.int .i64 ((f+q.1:Nat):Int)),(5,.int .i64 (iX o:Nat)),(3,.ms 900 1 0 N),(4,.int .i64 f),(1,.mp 1 12 0 0)],[(1,⟨33,12,[mI m],true⟩),(900,B8 q.2)]⟩) (λq=>q.1<=m.fs.length/\q.2.length=N/\((List.range (lT m).length).drop q.1).foldl (He f (lT m)) q.2=Vv f (lT m) o) (λq=>m.fs.length-q.1) (0,o) ⟨cR _,hlo,rfl⟩ (Wk.of ?_ ?_) ?_
 .simp only[go_sem];try simp
 .simp only[go_sem];try simp
 rintro⟨k,u⟩ ⟨hk,hlu,hx⟩;dsimp only at hk hlu hx;by_cases h1:((f+k:Nat):Int)<(N:Int)
 .have hk':k<m.fs.length:=by omega
  have e8:IntKind.i64.wrap (((f+k:Nat):Int)+1)=((f+(k+1):Nat):Int):=by rw[wi (by omega) (by omega)];omega
  have e9:IntKind.i64.wrap (((f+k:Nat):Int)-(f:Int))=(k:Int):=by rw[wi (by omega) (by omega)];omega
  rw[aco (by omega),List.foldl_cons]at hx;have hfk:f+k<u.length:=by omega
  cases q:ap u (f+k)
  .rw[acd hfk q]at hx;simp only[go_sem,aw h1,e_,cY,rt,q];refine⟨⟨by omega,h1⟩,by omega,?_⟩;refine ay (k+1,u) ⟨show k+1<=m.fs.length by omega,hlu,hx⟩ (show m.fs.length-(k+1)<m.fs.length-k by omega) (Wk.of ?_ ?_)
   .simp only[go_sem,e8];try simp
   .simp only[go_sem,e_,rt];try simp
  .rw[ace hfk q,D3 hk']at hx;have hg:=hb _ (fe hk');generalize hX:ap m.fs k=X at hx hg;simp only[go_sem,aw h1,e_,cY,rt,q,e9,hX];refine⟨⟨by omega,h1⟩,by omega,by omega,by omega,?_⟩;refine gA 900 (o:=u) hlu hg (by decide) (by simp only[go_sem,e_,rt]) ?_;simp only[go_sem,ab5];refine ay (k+1,cS (G9 X.b) u) ⟨show k+1<=m.fs.length by omega,show(cS (G9 X.b) u).length=N by rw[fO];exact hlu,hx⟩ (show m.fs.length-(k+1)<m.fs.length-k by omega) (Wk.of ?_ ?_)
   .simp only[go_sem,e8];try simp
   .simp only[go_sem,e_,rt];try simp
 obtain rfl:k=m.fs.length:=by omega
 rw[hlb,MN (by simp)]at hx;replace hx:u=Vv f (lT m) o:=hx;simp only[go_sem,aC h1];have hle:=Eb (Kz f (lT m) o);have hcu:=AG u;refine ay ((iX o:Nat),u) ⟨hx▸hI.sw,.inr ⟨o,hI,hx,rfl⟩⟩ ?_ (Wk.of ?_ ?_)
 .show 2*(N-iX u)+(if((iX o:Nat):Int)=(iX u:Nat)then 0 else 1)<2*(N-iX o)+(if n=(iX o:Nat)then 0 else 1);rw[ax q0];rw[hx]at hcu⊢;rw[ZY]at hcu;split<;>omega
 .simp only[go_sem];try simp
 .simp only[go_sem];try simp
end
def Wq(f n:Nat)(met:List Nat)(i:Int):Prop:=i<(f:Int)\/i>=(f:Int)+n\/i.toNat∈met
instance(f n:Nat)(met:List Nat)(i:Int):Decidable (Wq f n met i):=by unfold Wq;infer_instance
def Qs(f:Nat)(bs:List (List a_)):Nat->List Nat->List Int->List Nat
 | 0,met,_=>met
 | _,met,[]=>met
 | k+1,met,i::todo=>if Wq f bs.length met i then Qs f bs k met todo else Qs f bs k (met++[i.toNat]) (todo++yM bs (i.toNat-f))
def DH(f:Nat)(bs:List (List a_))(met:List Nat)(todo:List Int):Nat:=wtA f bs met+todo.length
def UX(f:Nat)(bs:List (List a_))(k:Nat)(met:List Nat):Qs f bs k met []=met:=by cases k<;>rfl
def Ho{f:Nat}{bs:List (List a_)}{rt:List Int}{met:List Nat}{i:Int}{todo:List Int}(c:CY f bs rt met (i::todo))(h:Wq f bs.length met i):CY f bs rt met todo:=by
 refine c.skip ?_;by_cases h0:i<(f:Int)
 .exact .inl h0
 .rcases h with h|h|h
  .exact .inl h
  .exact .inr (.inl h)
  .exact .inr (.inr ⟨by omega,h⟩)
def Hp{f:Nat}{bs:List (List a_)}{rt:List Int}{met:List Nat}{i:Int}{todo:List Int}(c:CY f bs rt met (i::todo))(h:¬Wq f bs.length met i) :
  CY f bs rt (met++[i.toNat]) (todo++yM bs (i.toNat-f))/\DH f bs (met++[i.toNat]) (todo++yM bs (i.toNat-f))<DH f bs met (i::todo):=by
 unfold Wq at h;simp only[not_or]at h;obtain⟨h1,h2,h3⟩:=h;obtain⟨k,hk⟩:∃k:Nat,i=((f+k:Nat):Int):=⟨i.toNat-f,by omega⟩
 subst hk;have e:((f+k:Nat):Int).toNat=f+k:=cY _;rw[e,Nat.add_sub_cancel_left];rw[e]at h3;have hk:k<bs.length:=by omega
 have hw:=VH hk h3;refine⟨c.take hk h3,?_⟩;unfold DH;rw[ej,j1];omega
def xy{f:Nat}{bs:List (List a_)}{rt:List Int}:∀(k:Nat)(met:List Nat)(todo:List Int),CY f bs rt met todo->DH f bs met todo<=k->∀i,i∈Qs f bs k met todo↔DT f bs rt i
 | 0,met,todo,c,h=>by
  obtain rfl:todo=[]:=by
   cases todo with
   | nil=>rfl
   | cons a l=>unfold DH at h;rw[j1]at h;omega
  exact c.stop
 | k+1,met,[],c,h=>c.stop
 | k+1,met,i::todo,c,h=>by
  unfold Qs;split
  .rename_i hs;refine xy k met todo (Ho c hs) ?_;unfold DH at h⊢;rw[j1]at h;omega
  .rename_i hs;obtain⟨c2,h2⟩:=Hp c hs;exact xy k _ _ c2 (by omega)
section
def kY(R:List Nat):List (AV×AV):=R.map λ(p:Nat)=>(AV.int .i64 (p:Int),AV.bool true)
def SD{L:List Nat}{i:Nat}{e:AV×AV}(h:(kY L)[i]?=some e):∃p,L[i]?=some p/\e=(.int .i64 (p:Int),.bool true):=by
 unfold kY at h;rw[fR,dc]at h;obtain⟨p,h1,h2⟩:=h;exact⟨p,h1,h2.symm⟩
def JC(L:List Nat)(i:Nat):(kY L).eraseIdx i=kY (L.eraseIdx i):=by
 unfold kY
 induction L generalizing i with
 | nil=>rfl
 | cons a L ih=>cases i with
  | zero=>rfl
  | succ i=>simp only[bY,List.eraseIdx_cons_succ,ih]
def XU{L:List Nat}{i p:Nat}(h:L[i]?=some p):(L.eraseIdx i).length<L.length:=by
 have:i<L.length:=by
  rcases eJ i L.length with h1|h1
  .exact h1
  .rw[tV h1]at h;cases h
 rw[List.length_eraseIdx,aF this];omega
def XV{L:List Nat}{i p q:Nat}(h:L[i]?=some p)(hq:q∈L):q=p\/q∈L.eraseIdx i:=by
 induction L generalizing i with
 | nil=>cases hq
 | cons a L ih=>cases i with
  | zero =>
   simp only[List.getElem?_cons_zero,cI]at h;subst h;rcases bp.1 hq with e|e
   .exact .inl e
   .exact .inr e
  | succ i =>
   rw[zW]at h;rw[List.eraseIdx_cons_succ];rcases bp.1 hq with e|e
   .exact .inr (by rw[e];exact List.mem_cons_self ..)
   .rcases ih h e with e|e
    .exact .inl e
    .exact .inr (List.mem_cons_of_mem _ e)
attribute[local go_sem] bP bn
def Hz(m:Md)(h:Ry m)(R:List Nat)(hR:∀i,i∈R↔DT (gj 0 m.ims) (lT m) (fZ m) i)(hi:oY 0 (I6 m).im=(gj 0 m.ims:Nat))(cr:ah pg uI [da m] (.fm (kY R))) :
  ah pg qD [da m] (.sl 1 ((yG (gj 0 m.ims) (lT m) (fZ m)).map rt)):=by
 refine au qi ?_;have c:=vK m h;rw[hi]at c;have hf:=ly 0 m.ims;have i1:=h.ims;have i2:=h.fs;have hlb:=nL m;generalize gj 0 m.ims=f at c hf hR⊢;obtain⟨N,hN⟩:∃N,f+m.fs.length=N:=⟨_,rfl⟩
 have w:IntKind.i64.wrap ((f:Int)+(m.fs.length:Int))=(N:Int):=by rw[wi (by omega) (by omega)];omega
 simp only[da,bn]at c cr;simp only[go_sem,qi,da];refine aL c (by simp[go_sem]) rfl ?_;simp only[go_sem,w];refine⟨by omega,?_⟩;refine aa (cr) ?_;refine ao (λq:List Nat×Option (AV×AV)×List Bool=>⟨[(14,.mm 14 false),(3,.ms 11 1 0 N)],[(14,@aj.mk 0 0 [] false (.mi (kY q.1) q.2.1)),(11,B8 q.2.2)]⟩) (λq=>q.2.2.length=N/\(∀p∈q.1,p∈R)/\(∀p:Nat,q.2.2[p]?=some true->p∈R)/\∀p∈R,p∈q.1\/q.2.2[p]?=some true) (λq=>q.1.length) (R,none,List.replicate N false) ⟨by simp,λp hp=>hp,λp hp=>by simp[List.getElem?_replicate]at hp,λp hp=>.inl hp⟩ (Wk.of ?_ ?_) ?_
 .simp only[go_sem];try simp
 .simp only[go_sem,e_];try simp[rt,B8]
 rintro⟨L,la,o⟩ ⟨hlo,hL,ho,hp⟩;dsimp only at hlo hL ho hp;simp only[go_sem];refine⟨λhl=>?_,λi e he=>?_⟩
 .have hL0:L=[]:=by cases L with
   | nil=>rfl
   | cons a L=>cases hl
  subst hL0;have e:o=yG f (lT m) (fZ m):=by
   refine FI.anti ⟨by rw[hlo,nn,hlb,hN],λj hj=>?_⟩ ⟨by rw[hlo,nn,hlb,hN],λj hj=>?_⟩
   .have:=(hR j).1 (ho j hj);exact(Ak f _ _ j this.1).2 this
   .have hl:j<f+(lT m).length:=by
     rcases eJ j (f+(lT m).length)with h1|h1
     .exact h1
     .rw[tV (by rw[nn];exact h1)]at hj;cases hj
    exact(hp j ((hR j).2 ((Ak f _ _ j hl).1 hj))).resolve_left (by simp)
  refine aE [11] ?_ rfl;rw[<-e];have hNo:N<=o.length:=by omega
  simp only[go_sem,aN,e_,hNo];rw[gN (by simp;omega)]
 .obtain⟨p,h1,rfl⟩:=SD he;have hpR:=hL p (nF h1);have hpN:p<N:=by have:=((hR p).1 hpR).1;omega
  simp only[go_sem,JC,e_,vN,cY];refine⟨⟨by omega,by omega⟩,by omega,ay (L.eraseIdx i,some (.int .i64 (p:Int),.bool true),o.set p true) ⟨show(o.set p true).length=N by simpa using hlo,λq hq=>hL q (List.mem_of_mem_eraseIdx hq),λq hq=>?_,λq hq=>?_⟩ (show(L.eraseIdx i).length<L.length from XU h1) (Wk.of ?_ ?_)⟩
  .dsimp only at hq;rw[List.getElem?_set]at hq;split at hq
   .rename_i e;rw[<-e];exact hpR
   .exact ho q hq
  .dsimp only;rw[List.getElem?_set];split
   .rename_i e;rw[aF (by omega)];exact .inr rfl
   .rename_i e;rcases hp q hq with h|h
    .rcases XV h1 h with h|h
     .exact absurd h.symm e
     .exact .inl h
    .exact .inr h
  .simp only[go_sem];try simp
  .simp only[go_sem,e_];try simp[rt,JC]
end
def yj(n:Int):∀ks:List Nat,(n∉ks.map (λ(p:Nat)=>(p:Int))/\dq .i (.int .i64 n) (kY ks)=some none)\/(n∈ks.map (λ(p:Nat)=>(p:Int))/\∃i p,dq .i (.int .i64 n) (kY ks)=some (some i)/\(kY ks)[i]?=some (p,.bool true))
 | []=>.inl ⟨by simp,rfl⟩
 | k::ks=>by
  by_cases h:n=(k:Int)
  .subst h;refine .inr ⟨by simp,0,_,?_,rfl⟩;simp[kY,dq,xI]
  .have e:dq .i (.int .i64 n) (kY (k::ks))=(dq .i (.int .i64 n) (kY ks)).map λq=>q.map (· + 1):=by
    have hb:(n==(k:Int))=false:=by simpa using h
    simp[kY,dq,xI,hb]
   rcases yj n ks with⟨h1,h2⟩|⟨h1,i,p,h2,h3⟩
   .exact .inl ⟨by rw[bY,bp,not_or];exact⟨h,h1⟩,by rw[e,h2];rfl⟩
   .exact .inr ⟨by rw[bY,bp];exact .inr h1,i+1,p,by rw[e,h2];rfl,by simpa[kY]using h3⟩
def Bg{n:Int}(h0:0<=n)(ks:List Nat):n∈ks.map (λ(p:Nat)=>(p:Int))↔n.toNat∈ks:=by
 rw[dN];refine⟨λ⟨p,h1,h2⟩=>by rw[<-h2,cY];exact h1,λh=>⟨n.toNat,h,by omega⟩⟩
def Hm{n:Nat}{ks:List Nat}(h:n∉ks):yF .i (.int .i64 (n:Int)) (.bool true) (kY ks)=some (kY (ks++[n])):=by
 unfold yF;rcases yj (n:Int) ks with⟨_,h2⟩|⟨h1,_⟩
 .rw[h2];simp[kY]
 .exact absurd ((Bg (by omega) ks).1 h1) (by rw[cY];exact h)
def J5(K:AV->aW->Prop)(n:Int)(h0:0<=n)(ks:List Nat):GB K false (.bool false) (kY ks) (dq .i (.int .i64 n) (kY ks))=K (.bool (decide (n.toNat∈ks))) .no:=by
 rcases yj n ks with⟨h1,h2⟩|⟨h1,i,p,h2,h3⟩
 .rw[h2,aC (λq=>h1 ((Bg h0 ks).2 q))];rfl
 .rw[h2,aw ((Bg h0 ks).1 h1)];simp[GB,h3]
section
def Uj{α:Type}[Inhabited α](p:List α)(x:α)(r:List α):ap (p++x::r) p.length=x:=by
 rw[aV (by simp)];simp
def Xq{l:List a_}{j:Nat}(h:j<l.length):vb (l.take (j+1))=vb (l.take j)++(if(ap l j).op=16 then[(ap l j).a]else[]):=by
 unfold vb;rw[uS,dV h,uR,List.filter_append,dW];congr 1;by_cases q:(ap l j).op=16
 .rw[aF q,List.filter_cons_of_pos (by simpa using q)];rfl
 .rw[ax q,List.filter_cons_of_neg (by simpa using q)];rfl
def Qc{id st off len:Nat}(h:off≠0):LX (.ms id st off len)=true:=by
 cases off
 .exact absurd rfl h
 .rfl
def FW{st:Nat}{x:AV}{src:Option (List (List AV))}{s:St}{d:Option Nat}{K:St->Prop}(id:Nat)(dB todo ys:List Int)(h1:x = .ms id st dB.length todo.length)(h2:src=some (ys.map bg))(h3:ae s.heap id=some ⟨3,st,(dB++todo).map bg,false⟩)
  (h4:todo.length<137438953472) (h5:ys.length<137438953472) (h6:id<1000\/2000<=id)
  (k:∀pre':List Int,pre'.length<=dB.length->K ((s.eff (.reb id ⟨3,st,(pre'++(todo++ys)).map bg,false⟩)).put d (.ms id st pre'.length (todo++ys).length))):H6 3 st x src s d K:=by
 have k1:=k dB (aN _);have k2:=k [] (cR _);refine⟨id,dB.length,todo.length,_,ys.map bg,h1,h2,h3,rfl,rfl,rfl,by simp,h4,by simpa using h5,h6,rfl,?_,?_⟩
 .rw[gN (by simp),<-dW,mE,bP,<-ej];exact k1
 .have e:(((dB++todo).map bg).drop dB.length).take todo.length=todo.map bg:=by
   rw[dW,List.drop_append_of_le_length (by simp),List.drop_of_length_le (by simp),iD,gN (by simp)]
  rw[bP,e,<-dW,<-ej];exact k2
structure waB(f:Nat)(m:Md):Prop where
 fs:m.fs.length<=1000000
 bd:∀x∈m.fs,x.b.length<=2000000
 wt:DH f (lT m) (List.range f) (fZ m)<=2000000000
attribute[local go_sem] bP bH eE bn cj
def Mr(m:Md)(h:Ry m)(h':ZG m)(hw:waB (gj 0 m.ims) m)(hi:oY 0 (I6 m).im=(gj 0 m.ims:Nat)) :
  ah pg uI [da m] (.fm (kY (Qs (gj 0 m.ims) (lT m) (DH (gj 0 m.ims) (lT m) (List.range (gj 0 m.ims)) (fZ m)) (List.range (gj 0 m.ims)) (fZ m)))):=by
 refine au uy ?_;have c:=vK m h;have cr:=Vg m h';have hf:=ly 0 m.ims;have i1:=h.ims;have b1:=hw.fs;have b2:=hw.bd;have b3:=hw.wt;rw[hi]at c;generalize gj 0 m.ims=f at c hf b3⊢;have hlb:=nL m;obtain⟨B,hB⟩:∃B,DH f (lT m) (List.range f) (fZ m)=B:=⟨_,rfl⟩
 obtain⟨R,hR⟩:∃R,Qs f (lT m) B (List.range f) (fZ m)=R:=⟨_,rfl⟩
 rw[hB]at b3⊢;rw[hR];simp only[da,bn]at c cr;simp only[go_sem,uy,da];refine aa (c) ?_;refine ao (λj:Nat=>⟨[(15,.int .i64 j),(14,.int .i64 f),(3,.int .i64 f),(1,.mp 1 12 0 0),(4,.mm 13 true)],[(1,⟨33,12,[mI m],true⟩),(13,@aj.mk 0 0 [] false (.mp (kY (List.range j))))]⟩) (λj=>j<=f) (λj=>f-j) 0 (cR _) (Wk.of ?_ ?_) ?_
 .simp only[go_sem];try simp
 .simp only[go_sem];try simp[kY]
 intro j hj;replace hj:j<=f:=hj;by_cases h1:(j:Int)<(f:Int)
 .have e8:=cA (show j<f by omega) (by omega);have hp:=Hm (n:=j) (ks:=List.range j) (by simp);simp only[go_sem,aw h1];refine⟨rfl,rfl,_,hp,?_⟩;refine ay (j+1) (show j+1<=f by omega) (show f-(j+1)<f-j by omega) (Wk.of ?_ ?_)
  .simp only[go_sem,e8];try simp
  .simp only[go_sem];try simp
   rw[List.range_succ]
 obtain rfl:j=f:=by omega
 simp only[go_sem,aC h1];refine mY cr rfl (by simp[go_sem]) 900 (.inl (by decide)) (by simp only[go_sem]) ?_;simp only[go_sem];refine ao (λq:Nat×List Nat×List Int×List Int=>⟨[(6,.ms 900 1 q.2.2.2.length q.2.2.1.length),(3,.int .i64 j),(1,.mp 1 12 0 0),(4,.mm 13 true)],[(1,⟨33,12,[mI m],true⟩),(13,@aj.mk 0 0 [] false (.mp (kY q.2.1))),(900,⟨3,1,(q.2.2.2++q.2.2.1).map bg,false⟩)]⟩) (λq=>CY j (lT m) (fZ m) q.2.1 q.2.2.1/\DH j (lT m) q.2.1 q.2.2.1<=q.1/\Qs j (lT m) q.1 q.2.1 q.2.2.1=R/\q.2.2.2.length+DH j (lT m) q.2.1 q.2.2.1<=B) (λq=>q.1) (B,List.range j,fZ m,[]) ⟨CY.start,by dsimp only;omega,hR,by simp;omega⟩ (Wk.of ?_ ?_) ?_
 .simp only[go_sem];try simp
 .simp only[go_sem];try simp
 clear hR;rintro⟨k,met,todo,dB⟩ ⟨hI,hk,hr,hl⟩;dsimp only at hI hk hr hl;cases todo with
 | nil =>
  rw[UX]at hr;subst hr;simp only[go_sem,aC (show ¬(((0:Nat):Int)>0)by omega)];refine aE [13] (r:=.fm (kY met)) ?_ rfl;simp only[go_sem]
 | cons i todo =>
 obtain⟨k,rfl⟩:∃k',k=k'+1:=⟨k-1,by unfold DH at hk;rw[j1]at hk;omega⟩
 unfold Qs at hr;have hlt:todo.length<2000000000:=by unfold DH at hl;rw[j1]at hl;omega
 have hlc:(i::todo).length=todo.length+1:=rfl;have hn:=Uj dB i todo;have ep:dB++i::todo=(dB++[i])++todo:=by simp
 have hpos:(((todo.length+1:Nat):Int)>0):=by omega
 have skp:Wq j (lT m).length met i->∃q:Nat×List Nat×List Int×List Int,q=(k,met,todo,dB++[i])/\(CY j (lT m) (fZ m) q.2.1 q.2.2.1/\DH j (lT m) q.2.1 q.2.2.1<=q.1/\Qs j (lT m) q.1 q.2.1 q.2.2.1=R/\q.2.2.2.length+DH j (lT m) q.2.1 q.2.2.1<=B):=λhs=>by
  rw[aF hs]at hr;refine⟨_,rfl,Ho hI hs,?_,hr,?_⟩
  .unfold DH at hk⊢;rw[List.length_cons]at hk;dsimp only;omega
  .unfold DH at hl⊢;rw[j1]at hl;simp only[ej,pq];omega
 have hn2:ap (dB++[i]++todo) (dB.length+0)=i:=by rw[<-ep];exact hn
 have hlr:(dB++[i]++todo).length=dB.length+1+todo.length:=by simp;omega
 have wl:(todo.length+1:Nat)-1=todo.length:=rfl;have pl:(dB++[i]).length=dB.length+1:=by simp
 by_cases h1:i<(j:Int)
 .obtain⟨q,rfl,hq⟩:=skp (.inl h1);simp only[go_sem,hlc,aw hpos,hn2,ep,aw h1];refine⟨⟨by omega,by omega⟩,by omega,⟨by omega,by omega⟩,ay _ hq (show k<k+1 by omega) (Wk.of ?_ ?_)⟩
  .simp only[go_sem,pl];try simp
  .simp only[go_sem];try simp
 have w1:IntKind.i64.wrap ((j:Int)+(m.fs.length:Int))=(j:Int)+m.fs.length:=wi (by omega) (by omega);by_cases h2:i>=(j:Int)+m.fs.length
 .obtain⟨q,rfl,hq⟩:=skp (.inr (.inl (by rw[hlb];exact h2)));simp only[go_sem,hlc,aw hpos,hn2,ep,aC h1,w1,aw h2];refine⟨⟨by omega,by omega⟩,by omega,⟨by omega,by omega⟩,ay _ hq (show k<k+1 by omega) (Wk.of ?_ ?_)⟩
  .simp only[go_sem,pl];try simp
  .simp only[go_sem];try simp
 by_cases h3:i.toNat∈met
 .obtain⟨q,rfl,hq⟩:=skp (.inr (.inr h3));have lk:=λK:AV->aW->Prop=>J5 K i (by omega) met;simp only[go_sem,hlc,aw hpos,hn2,ep,aC h1,w1,aC h2,lk,aw h3];refine⟨⟨by omega,by omega⟩,by omega,⟨by omega,by omega⟩,ay _ hq (show k<k+1 by omega) (Wk.of ?_ ?_)⟩
  .simp only[go_sem,pl];try simp
  .simp only[go_sem];try simp
 have lk:=λK:AV->aW->Prop=>J5 K i (by omega) met;clear skp;have hns:¬Wq j (lT m).length met i:=by
  rintro(h|h|h)
  .exact h1 h
  .rw[hlb]at h;exact h2 h
  .exact h3 h
 rw[ax hns]at hr;obtain⟨n,rfl⟩:∃n:Nat,i=(n:Int):=⟨i.toNat,by omega⟩
 rw[cY]at hr h3;have hnk:n-j<m.fs.length:=by omega
 have hp:=Hm h3;have w2:IntKind.i64.wrap ((n:Int)-(j:Int))=((n-j:Nat):Int):=by rw[wi (by omega) (by omega)];omega
 simp only[go_sem,hlc,aw hpos,hn2,ep,aC h1,w1,aC h2,lk,aC h3,w2];refine⟨⟨by omega,by omega⟩,by omega,⟨by omega,by omega⟩,rfl,rfl,_,hp,by omega,by omega,?_⟩;have hbn:=D3 hnk;have hb:=b2 _ (fe hnk);generalize ap m.fs (n-j)=X at hbn hb;obtain⟨Y,hY⟩:∃Y,X.b=Y:=⟨_,rfl⟩
 rw[hY]at hb hbn⊢;have cb:=BQ Y hb;have hl1:(aP Y).length<=Y.length:=by unfold aP;rw[bP];exact List.length_filter_le _ _
 have hl2:(vb Y).length<=Y.length:=by unfold vb;rw[bP];exact List.length_filter_le _ _
 refine ak (cb) ?_;simp only[go_sem,wl,Qc (show dB.length+1≠0 by omega)];rw[<-pl];refine FW 900 (dB++[(n:Int)]) todo (aP Y) rfl rfl (by simp only[go_sem]) (by omega) (by omega) (.inl (by decide)) (λpre1 hp1=>?_);rw[pl]at hp1;simp only[go_sem];refine ao (λq:Nat×List Int×List Int=>⟨[(64,.int .i64 q.1),(63,.int .i64 Y.length),(62,.sl 9 (Y.map bH)),(6,.ms 900 1 q.2.1.length q.2.2.length),(3,.int .i64 j),(1,.mp 1 12 0 0),(4,.mm 13 true)],[(1,⟨33,12,[mI m],true⟩),(13,@aj.mk 0 0 [] false (.mp (kY (met++[n])))),(900,⟨3,1,(q.2.1++q.2.2).map bg,false⟩)]⟩) (λq=>q.1<=Y.length/\q.2.1.length<=dB.length+1/\q.2.2=todo++aP Y++vb (Y.take q.1)) (λq=>Y.length-q.1) (0,pre1,todo++aP Y) ⟨cR _,hp1,by simp[vb]⟩ (Wk.of ?_ ?_) ?_
 .simp only[go_sem];try simp
 .simp only[go_sem];try simp
 rintro⟨a,pr,td⟩ ⟨ha,hpr,htd⟩;dsimp only at ha hpr htd;have hl3:(vb (Y.take a)).length<=Y.length:=by
  unfold vb;rw[bP];exact cZ (List.length_filter_le _ _) (by rw[q_];omega)
 have hltd:td.length<2100000000:=by rw[htd,ej,ej];omega
 by_cases h5:(a:Int)<(Y.length:Int)
 .have ha':a<Y.length:=by omega
  have e8:=cA ha' (by omega);have t:=Xq ha';by_cases q:(ap Y a).op=16
  .rw[aF q]at t;have fin:∀pr':List Int,pr'.length<=pr.length->(a+1<=Y.length/\pr'.length<=dB.length+1/\td++[(ap Y a).a]=todo++aP Y++vb (Y.take (a+1))):=λpr' h=>⟨by omega,by omega,by rw[t,htd,mE]⟩
   by_cases q0:pr=[]
   .subst q0;have happ:=λys=>bR 900 3 1 td.length bg td ys rfl;simp only[go_sem,aw h5,aK q,happ,iD];refine⟨by omega,h5,by omega,ay (a+1,[],td++[(ap Y a).a]) (fin [] (aN _)) (show Y.length-(a+1)<Y.length-a by omega) (Wk.of ?_ ?_)⟩
    .simp only[go_sem,e8,ej,pq];try simp
    .simp only[go_sem,dW,bY,eL];try simp
   .have q1:pr.length≠0:=λh=>q0 (FE.1 h);simp only[go_sem,aw h5,aK q,Qc q1];refine⟨by omega,h5,FW 900 pr td [(ap Y a).a] rfl rfl (by simp only[go_sem]) (by omega) (by simp) (.inl (by decide)) (λpr' hp'=>?_)⟩;simp only[go_sem];refine ay (a+1,pr',td++[(ap Y a).a]) (fin pr' hp') (show Y.length-(a+1)<Y.length-a by omega) (Wk.of ?_ ?_)
    .simp only[go_sem,e8,ej,pq];try simp
    .simp only[go_sem];try simp
  .rw[ax q,lm]at t;simp only[go_sem,aw h5,ab q];refine⟨by omega,h5,ay (a+1,pr,td) ⟨show a+1<=Y.length by omega,hpr,by dsimp only;rw[t];exact htd⟩ (show Y.length-(a+1)<Y.length-a by omega) (Wk.of ?_ ?_)⟩
   .simp only[go_sem,e8];try simp
   .simp only[go_sem]
 obtain rfl:a=Y.length:=by omega
 simp only[go_sem,aC h5];rw[jc]at htd;obtain⟨g1,g2⟩:=Hp hI hns;rw[cY]at g1 g2;have es:todo++yM (lT m) (n-j)=td:=by rw[htd];unfold yM;rw[hbn,mE]
 rw[es]at g1 g2 hr;refine ay (k,met++[n],td,pr) ⟨g1,show DH j (lT m) (met++[n]) td<=k by omega,hr,show pr.length+DH j (lT m) (met++[n]) td<=B by omega⟩ (show k<k+1 by omega) (Wk.of ?_ ?_)
 .simp only[go_sem];try simp
 .simp only[go_sem];try simp
end
def Gz(k j:Int):∀l:List (Int×Int),oY k (g_ j l)=oY k l+if j=k then 1 else 0
 | []=>by
  by_cases h:j=k
  .simp[g_,oY,h]
  .simp[g_,oY,h]
 | e::r=>by
  have ih:=Gz k j r;by_cases h:e.1=j
  .simp only[g_,h,dP,oY];by_cases q:j=k
   .simp[q]
   .simp[q]
  .simp only[g_,h,fS,oY];by_cases q:e.1=k
   .rw[aF q,aF q,ax (λe2=>h (q.trans e2.symm)),Int.add_zero]
   .rw[ax q,ax q,ih]
def GA(k:Int):∀(l:List Im)(acc:List (Int×Int)),oY k (l.foldl (λa x=>g_ x.k a) acc)=oY k acc+(gj k l:Nat)
 | [],acc=>by simp[gj]
 | x::l,acc=>by
  rw[List.foldl_cons,GA k l,Gz];by_cases h:x.k=k
  .rw[aF h];simp[gj,h];omega
  .rw[ax h];simp[gj,h]
def OL(m:Md):oY 0 (I6 m).im=(gj 0 m.ims:Nat):=by
 have:=GA 0 m.ims [];simp only[oY,Int.zero_add]at this;exact this
section
def BP(m:Md)(h:Ry m)(h':ZG m)(hw:waB (gj 0 m.ims) m):ah pg qD [da m] (.sl 1 ((yG (gj 0 m.ims) (lT m) (fZ m)).map rt)) :=
 Hz m h _ (xy _ _ _ CY.start (aN _)) (OL m) (Mr m h h' hw (OL m))
attribute[local go_sem] bP
def Yx(r:List AV)(rows:List (List AV))(h:rows.length<1048576):aZ pg cy [.sl 3 (r::rows)] [] sb (λx σ'=>x = .ms 5 3 0 (rows.length+1)/\σ'=[(5,⟨48,3,r::rows,false⟩)]):=by
 refine dj bO ?_;have ha:=n8 5 48 3 (r::rows);simp only[go_sem,bO,ha];refine⟨by omega,?_⟩;exact done [] (.ms 5 3 0 (rows.length+1)) [(5,⟨48,3,r::rows,false⟩)] (by simp only[go_sem];try simp) (by simp only[go_sem];try simp) (by rfl) ⟨rfl,rfl⟩
def TJ(l:List (Cd))(hl:l.length<=1048576)(hx:∀x∈l,Sv x):aZ pg k9 [.sl 3 (l.map pt),.fn iJ []] [] sb (λr σ'=>r = .ms 900 3 0 l.length/\σ'=[(900,⟨44,3,l.map pt,false⟩)]):=by
 refine dj eu ?_;simp only[go_sem,eu];refine ao (λi:Nat=>⟨[(10,.int .i64 i),(9,.int .i64 l.length),(8,.sl 3 (l.map pt)),(5,.ms 900 3 0 i),(1,.fn iJ [])],[(900,⟨44,3,(l.take i).map pt,false⟩)]⟩) (λi=>i<=l.length) (λi=>l.length-i) 0 (cR _) ((Wk.nil _ 5 900 3 44 (by simp only[go_sem]) (.inl (by decide))).trans (Wk.of ?_ ?_)) ?_
 .simp only[go_sem,St.mknil];try simp[go_sem]
 .simp only[go_sem,St.mknil,iO];try simp[go_sem]
 intro i hi;have hil:(l.take i).length=i:=by simp;omega
 have happ:=λys=>bR 900 44 3 i pt (l.take i) ys hil;by_cases h1:(i:Int)<(l.length:Int)
 .have hi':i<l.length:=by omega
  have e8:=wi (n:=(i:Int)+1) (by omega) (by omega);have cc:=aa6 (ap l i) (jj hx hi')
  try simp only[cj]at cc
  simp only[go_sem,aw h1,cj];refine⟨by omega,h1,by kernel_rfl,?_⟩;refine ak (cc) ?_;simp only[go_sem,happ];refine⟨by omega,ay (i+1) (show i+1<=l.length by omega) (show l.length-(i+1)<l.length-i by omega) (Wk.of ?_ ?_)⟩
  .simp only[go_sem,e8];try simp
  .simp only[go_sem,lE hi',dW];try simp[cj]
 .obtain rfl:i=l.length:=by omega
  simp only[go_sem,aC h1,jc];exact done [] (.ms 900 3 0 l.length) [(900,⟨44,3,l.map pt,false⟩)] (by simp only[go_sem];try simp) (by simp only[go_sem];try simp) (by rfl) ⟨rfl,rfl⟩
def LS(m:Md)(j k:Nat):List AV:=[.sl 2 (m.ts.map kz),.sl 13 (m.ims.map Ae),.ms j 3 0 m.fs.length,.sl 4 (m.tbs.map ya),.sl 3 (m.ms.map w_),.sl 3 (m.gs.map zk),.ms k 3 0 m.exs.length,.bool m.hs,.int .i64 m.st,.sl 5 (m.els.map rK),.sl 4 (m.ds.map z_),.sl 3 (m.cs.map wO)]
def IE(m:Md)(j k:Nat):LS m j k=[.sl 2 (m.ts.map kz),.sl 13 (m.ims.map Ae),.ms j 3 0 m.fs.length,.sl 4 (m.tbs.map ya),.sl 3 (m.ms.map w_),.sl 3 (m.gs.map zk),.ms k 3 0 m.exs.length,.bool m.hs,.int .i64 m.st,.sl 5 (m.els.map rK),.sl 4 (m.ds.map z_),.sl 3 (m.cs.map wO)]:=rfl
def Kt(m:Md)(h:cpM m)(hex:0<m.exs.length):aZ pg r_ [da m] [] sb (λr σ'=>r = .agg (LS m 901 18)/\σ'=[(901,⟨44,3,m.fs.map pt,false⟩),(18,⟨48,3,m.exs.map x_,false⟩)]):=by
 refine dj nI ?_;have c1:=JA m.ts h.ts.1 h.ts.2;have c2:=TJ m.fs h.fs.1 h.fs.2;have c3:=JB m.gs h.gs.1 h.gs.2;have c4:=Jz m.els h.els.1 h.els.2;have c5:=Jy m.ds h.ds.1 h.ds.2;have c6:=Jw m.cs h.cs.1 h.cs.2;have hxl:=h.exs;have cx:aZ pg cy [.sl 3 (m.exs.map x_)] [] sb (λx σ'=>x = .ms 5 3 0 m.exs.length/\σ'=[(5,⟨48,3,m.exs.map x_,false⟩)]):=by
  cases he:m.exs with
  | nil=>rw[he]at hex;cases hex
  | cons e l =>
   rw[he,j1]at hxl;have c:=Yx (x_ e) (l.map x_) (by rw[bP];omega);rw[bP]at c;exact c
 simp only[go_sem,nI,da,bn];refine aa (c1) ?_;refine aL (NU (m.ims.map Ae) (by rw[bP];exact h.ims)) (by simp[go_sem]) rfl ?_;simp only[go_sem];refine aL (NW (m.tbs.map ya) (by rw[bP];exact h.tbs)) (by simp[go_sem]) rfl ?_;simp only[go_sem];refine aL (NV (m.ms.map w_) (by rw[bP];exact h.ms)) (by simp[go_sem]) rfl ?_;simp only[go_sem];refine La cx rfl (by simp[go_sem]) ?_;simp only[go_sem];refine mY c2 rfl (by simp[go_sem]) 901 (.inl (by decide)) (by simp only[go_sem]) ?_;simp only[go_sem];refine aa (c3) ?_;refine aa (c4) ?_;refine aa (c5) ?_;refine aa (c6) ?_;exact done [] (.agg (LS m 901 18)) [(901,⟨44,3,m.fs.map pt,false⟩),(18,⟨48,3,m.exs.map x_,false⟩)] (by simp only[go_sem,IE]) (by simp only[go_sem];try rfl) (by rfl) ⟨rfl,rfl⟩
end
section
def xu(c:Prop)[Decidable c](p:Int):List Int:=if c then[p]else[]
def Qk(m:Md):IS m=xu (m.ts.length>0) 1++xu (m.ims.length>0) 2++xu (m.fs.length>0) 3++xu (m.tbs.length>0) 4++xu (m.ms.length>0) 5++xu (m.gs.length>0) 6++xu (m.exs.length>0) 7++xu (m.hs=true) 8++xu (m.els.length>0) 9++xu (m.ds.length>0) 10++xu (m.fs.length>0) 11++xu (m.ds.length>0) 12:=rfl
def bx(q:Nat)(l:List Int):aj:=⟨87,1,[[.ms q 1 0 l.length]],true⟩
def ia(l:List Int):aj:=⟨3,1,l.map ri,false⟩
def oB(b:Bool)(p:Int):List Int:=if b=true then[p]else[]
attribute[local go_sem] bP eE bH bx ia
def abQ(p:Int)(b:Bool)(l:List Int)(hl:l.length<=1000):aZ pg l_ [.int .i64 p,.bool b,.mp 1000 1 0 0] [(1000,bx 2000 l),(2000,ia l)] Ku (λr' σ'=>r' = .tup []/\σ'=[(1000,bx 2000 (l++oB b p)),(2000,ia (l++oB b p))]):=by
 refine dj iu ?_;cases b
 .rw[show l++oB false p=l from lm l];simp only[go_sem,iu];exact wP [] _ [(1000,bx 2000 l),(2000,ia l)] ⟨rfl,rfl⟩
 .have hap:D0 2000 3 1 0 l.length [[.int .i64 p]] (some ⟨3,1,l.map ri,false⟩)=some (.ms 2000 1 0 (l++oB true p).length,.reb 2000 ⟨3,1,(l++oB true p).map ri,false⟩):=by
   rw[bR 2000 3 1 _ ri _ _ rfl,aF ⟨by simp,by omega,.inr (by decide)⟩];simp[oB,ri]
  simp only[go_sem,iu,hap];exact wP [] _ [(1000,bx 2000 (l++oB true p)),(2000,ia (l++oB true p))] ⟨rfl,rfl⟩
def fK{p:Int}{b:Bool}{l:List Int}{d:Option Nat}{s:St}{K:St->Prop}(hl:l.length<=1000)(h1:ae s.heap 3=some (bx 900 l))(h2:ae s.heap 900=some (ia l))
  (hK:K (((St.mk (jW [900] s.env) ([(3,bx 900 (l++oB b p)),(900,ia (l++oB b p))]++jX [900] s.heap)).put d (.tup [])))):cB pg l_ [.int .i64 p,.bool b,.mp 3 1 0 0] d s K:=by
 refine ey (σ2:=[(3,bx 900 l),(900,ia l)]) (r3:=.tup []) (σ3:=[(3,bx 900 (l++oB b p)),(900,ia (l++oB b p))]) (abQ p b l hl) [(1000,3),(2000,900)] [900] rfl rfl rfl rfl ?_ ?_ ?_ hK
 .simp[h1,h2]
 .simp[Ku,bw,wy,ae]
 .simp[ae]
def nh(n:Nat)(p:Int):oB (decide ((n:Int)>0)) p=xu (n>0) p:=by
 unfold oB xu;by_cases h:n>0
 .rw[aF h,aw (by omega)];rfl
 .rw[ax h,aC (by omega)];rfl
def ab9(b:Bool)(p:Int):oB b p=xu (b=true) p:=rfl
def dE(c:Prop)[Decidable c](p:Int):(xu c p).length<=1:=by unfold xu;split<;>simp
def PL(m:Md):ah pg xf [da m] (.sl 1 ((IS m).map ri)):=by
 refine au nH ?_;rw[Qk];simp only[go_sem,nH,da,bn];refine⟨by kernel_rfl,?_⟩;refine bA (eZ.new0 _ _ 900 1 3 (by decide) (by simp[go_sem])) ?_;refine bA (eZ.nlm _ _ 3 (t:=87) (st:=1) (r:=[.nl]) (r':=[.ms 900 1 0 0]) (by simp only[go_sem]) ⟨.inr ⟨rfl,.inr ⟨900,1,rfl⟩⟩,trivial⟩) ?_;refine fK (l:=[]) (by simp) (by simp only[go_sem]) (by simp only[go_sem]) ?_;simp only[go_sem,nh,iD];generalize h1:xu (m.ts.length>0) 1=l1;have g1:l1.length<=1:=by rw[<-h1];exact dE _ _
 refine⟨by kernel_rfl,?_⟩;refine fK (l:=l1) (by omega) (by simp only[go_sem]) (by simp only[go_sem]) ?_;simp only[go_sem,nh,iD];generalize h2:l1++xu (m.ims.length>0) 2=l2;have g2:l2.length<=2:=by rw[<-h2,ej];have:=dE (m.ims.length>0) 2;omega
 refine⟨by kernel_rfl,?_⟩;refine fK (l:=l2) (by omega) (by simp only[go_sem]) (by simp only[go_sem]) ?_;simp only[go_sem,nh,iD];generalize h3:l2++xu (m.fs.length>0) 3=l3;have g3:l3.length<=3:=by rw[<-h3,ej];have:=dE (m.fs.length>0) 3;omega
 refine⟨by kernel_rfl,?_⟩;refine fK (l:=l3) (by omega) (by simp only[go_sem]) (by simp only[go_sem]) ?_;simp only[go_sem,nh,iD];generalize h4:l3++xu (m.tbs.length>0) 4=l4;have g4:l4.length<=4:=by rw[<-h4,ej];have:=dE (m.tbs.length>0) 4;omega
 refine⟨by kernel_rfl,?_⟩;refine fK (l:=l4) (by omega) (by simp only[go_sem]) (by simp only[go_sem]) ?_;simp only[go_sem,nh,iD];generalize h5:l4++xu (m.ms.length>0) 5=l5;have g5:l5.length<=5:=by rw[<-h5,ej];have:=dE (m.ms.length>0) 5;omega
 refine⟨by kernel_rfl,?_⟩;refine fK (l:=l5) (by omega) (by simp only[go_sem]) (by simp only[go_sem]) ?_;simp only[go_sem,nh,iD];generalize h6:l5++xu (m.gs.length>0) 6=l6;have g6:l6.length<=6:=by rw[<-h6,ej];have:=dE (m.gs.length>0) 6;omega
 refine⟨by kernel_rfl,?_⟩;refine fK (l:=l6) (by omega) (by simp only[go_sem]) (by simp only[go_sem]) ?_;simp only[go_sem,nh,iD];generalize h7:l6++xu (m.exs.length>0) 7=l7;have g7:l7.length<=7:=by rw[<-h7,ej];have:=dE (m.exs.length>0) 7;omega
 refine⟨by kernel_rfl,?_⟩;refine fK (l:=l7) (by omega) (by simp only[go_sem]) (by simp only[go_sem]) ?_;simp only[go_sem,ab9,iD];generalize h8:l7++xu (m.hs=true) 8=l8;have g8:l8.length<=8:=by rw[<-h8,ej];have:=dE (m.hs=true) 8;omega
 refine⟨by kernel_rfl,?_⟩;refine fK (l:=l8) (by omega) (by simp only[go_sem]) (by simp only[go_sem]) ?_;simp only[go_sem,nh,iD];generalize h9:l8++xu (m.els.length>0) 9=l9;have g9:l9.length<=9:=by rw[<-h9,ej];have:=dE (m.els.length>0) 9;omega
 refine⟨by kernel_rfl,?_⟩;refine fK (l:=l9) (by omega) (by simp only[go_sem]) (by simp only[go_sem]) ?_;simp only[go_sem,nh,iD];generalize h10:l9++xu (m.ds.length>0) 10=l10;have g10:l10.length<=10:=by rw[<-h10,ej];have:=dE (m.ds.length>0) 10;omega
 refine⟨by kernel_rfl,?_⟩;refine fK (l:=l10) (by omega) (by simp only[go_sem]) (by simp only[go_sem]) ?_;simp only[go_sem,nh,iD];generalize h11:l10++xu (m.fs.length>0) 11=l11;have g11:l11.length<=11:=by rw[<-h11,ej];have:=dE (m.fs.length>0) 11;omega
 refine⟨by kernel_rfl,?_⟩;refine fK (l:=l11) (by omega) (by simp only[go_sem]) (by simp only[go_sem]) ?_;simp only[go_sem,nh,iD];generalize h12:l11++xu (m.ds.length>0) 12=l12;have g12:l12.length<=12:=by rw[<-h12,ej];have:=dE (m.ds.length>0) 12;omega
 exact aE [900] (by simp only[go_sem,aN];rw[gN (by simp)]) rfl
end
section
attribute[local go_sem] bP bn cj
def ZK(m:Md)(h:m.cs=[]):ah pg II [da m] (.tup [.agg [.str [],.nl,.nl],.bool false,.int .i64 0]):=by
 refine au Ar ?_;simp only[go_sem,Ar,da,h,eL];refine ao (λj:Nat=>⟨[(12,.int .i64 0),(11,.int .i64 0),(2,.mp 2 3 0 0)],[(2,⟨96,3,[[.str [],.nl,.nl]],true⟩)]⟩) (λ_=>True) (λj=>j) 0 trivial (Wk.of ?_ ?_) ?_
 .simp only[go_sem];try simp
 .simp only[go_sem];try simp
 intro j _;simp only[go_sem,aC (show ¬(0:Int)<0 by omega)];exact ac
structure Idl(g:FuncId)(cs:List AV)(l:List a_):Prop where
 lt:g<4000000
 hb:bM pg g=true
 c:∀x∈l,ah pg g [.ip (bH x),.ip cs] (.tup [])
def zj(g:FuncId)(cs:List AV):aj:=⟨90,1,[[.fn g [.ip cs]]],true⟩
def JJ(g:FuncId)(cs:List AV):zj g cs =⟨90,1,[[.fn g [.ip cs]]],true⟩:=rfl
def U9{g:FuncId}{cs:List AV}{l:List a_}(h:Idl g cs l)(hl:l.length<=1000000):aZ pg sn [.sl 9 (l.map bH),.mp 1000 1 0 0] [(1000,zj g cs)] sb (λr σ'=>r = .tup []/\σ'=[(1000,zj g cs)]):=by
 refine dj rB ?_;have hlt:=h.lt;simp only[go_sem,rB,JJ];refine ao (λj:Nat=>⟨[(6,.int .i64 j),(5,.int .i64 l.length),(0,.sl 9 (l.map bH)),(1,.mp 1000 1 0 0)],[(1000,zj g cs)]⟩) (λj=>j<=l.length) (λj=>l.length-j) 0 (cR _) (Wk.of ?_ ?_) ?_
 .simp only[go_sem];try simp
 .simp only[go_sem];try rfl
 intro j hj;replace hj:j<=l.length:=hj;by_cases h1:(j:Int)<(l.length:Int)
 .have hj':j<l.length:=by omega
  have e8:=cA hj' (by omega);have c:=h.c _ (fe hj');simp only[go_sem,aw h1,hlt,JJ];refine⟨by omega,h1,h.hb,?_⟩;refine aa (c) ?_;refine ay (j+1) (show j+1<=l.length by omega) (show l.length-(j+1)<l.length-j by omega) (Wk.of ?_ ?_)
  .simp only[go_sem,e8];try simp
  .simp only[go_sem];try rfl
 .obtain rfl:j=l.length:=by omega
  simp only[go_sem,aC h1];exact iY [] (.tup []) [(1000,zj g cs)] (by simp only[go_sem]) (by simp only[go_sem]) (by rfl) ⟨rfl,rfl⟩
def PN(m:Md)(k:Nat):List AV:=[.sl 2 (m.ts.map kz),.sl 13 (m.ims.map Ae),.sl 3 (m.fs.map pt),.sl 4 (m.tbs.map ya),.sl 3 (m.ms.map w_),.sl 3 (m.gs.map zk),.ms k 3 0 m.exs.length,.bool m.hs,.int .i64 m.st,.sl 5 (m.els.map rK),.sl 4 (m.ds.map z_),.sl 3 (m.cs.map wO)]
def kK(m:Md)(k:Nat):PN m k=[.sl 2 (m.ts.map kz),.sl 13 (m.ims.map Ae),.sl 3 (m.fs.map pt),.sl 4 (m.tbs.map ya),.sl 3 (m.ms.map w_),.sl 3 (m.gs.map zk),.ms k 3 0 m.exs.length,.bool m.hs,.int .i64 m.st,.sl 5 (m.els.map rK),.sl 4 (m.ds.map z_),.sl 3 (m.cs.map wO)]:=rfl
def xc(m:Md)(k:Nat):aj:=⟨33,12,[PN m k],true⟩
def kJ(m:Md)(k:Nat):xc m k =⟨33,12,[PN m k],true⟩:=rfl
def rM(m:Md):aj:=⟨48,3,m.exs.map x_,false⟩
def nO(m:Md):rM m =⟨48,3,m.exs.map x_,false⟩:=rfl
def HC{g:FuncId}{cs:List AV}(m:Md)(hf:∀x∈m.fs,Idl g cs x.b/\x.b.length<=1000000)(hl:m.fs.length<=1000000)(h1:m.gs=[])(h2:m.els=[])(h3:m.ds=[]) :
  aZ pg ES [.mp 1000 12 0 0,.fn g [.ip cs]] [(1000,xc m 1001),(1001,rM m)] sb (λr σ'=>r = .tup []/\σ'=[(1000,xc m 1001),(1001,rM m)]):=by
 refine dj wJ ?_;simp only[go_sem,wJ,kJ,kK,nO];refine ao (λj:Nat=>⟨[(17,.int .i64 j),(16,.int .i64 m.fs.length),(4,.fn sn [.mp 3 1 0 0]),(0,.mp 1000 12 0 0)],[(3,zj g cs),(1000,xc m 1001),(1001,rM m)]⟩) (λj=>j<=m.fs.length) (λj=>m.fs.length-j) 0 (cR _) (Wk.of ?_ ?_) ?_
 .simp only[go_sem];try simp
 .simp only[go_sem];exact⟨rfl,rfl,rfl⟩
 intro j hj;replace hj:j<=m.fs.length:=hj;by_cases h4:(j:Int)<(m.fs.length:Int)
 .have hj':j<m.fs.length:=by omega
  have e8:=cA hj' (by omega);obtain⟨c,hb⟩:=hf _ (fe hj');simp only[go_sem,aw h4,kJ,kK,nO];refine⟨by omega,h4,by kernel_rfl,?_⟩;refine ey (σ2:=[(3,zj g cs)]) (σ3:=[(3,zj g cs)]) (r3:=.tup []) (U9 c hb) [(1000,3)] [] rfl rfl rfl rfl (by simp[go_sem]) (λp hp=>by simp only[eF]at hp;subst hp;exact .inl ⟨⟨show 1000<=1000 by decide,show 1000<2000 by decide⟩,rfl⟩) (by simp[go_sem]) ?_;simp only[go_sem];refine ay (j+1) (show j+1<=m.fs.length by omega) (show m.fs.length-(j+1)<m.fs.length-j by omega) (Wk.of ?_ ?_)
  .simp only[go_sem,e8];try simp
  .simp only[go_sem];try exact⟨rfl,rfl,rfl⟩
 obtain rfl:j=m.fs.length:=by omega
 have z:=aC (show ¬(0:Int)<((0:Nat):Int)by omega);simp only[go_sem,aC h4,h1,h2,h3,kJ,kK,nO,eL];refine ao (λ_:Unit=>_) (λ_=>True) (λ_=>0) () trivial (Wk.refl _) (λ_ _=>?_);simp only[go_sem,z,h1,h2,h3,kJ,kK,nO,eL];refine ao (λ_:Unit=>_) (λ_=>True) (λ_=>0) () trivial (Wk.refl _) (λ_ _=>?_);simp only[go_sem,z,h1,h2,h3,kJ,kK,nO,eL];refine ao (λ_:Unit=>_) (λ_=>True) (λ_=>0) () trivial (Wk.refl _) (λ_ _=>?_);simp only[go_sem,z,h1,h2,h3,kJ,kK,nO,eL];exact iY [] (.tup []) [(1000,_),(1001,_)] (by simp only[go_sem]) (by simp only[go_sem]) (by rfl) ⟨rfl,rfl⟩
def Mn(m:Md)(h:m.cs=[]):ah pg CF [.ip (mI m)] (.tup []):=by
 refine au ux ?_;have c:=PL m;simp only[da,bn,h,eL]at c;have z:=aC (show ¬(0:Int)<((0:Nat):Int)by omega);simp only[go_sem,ux,h,eL];refine aa (c) ?_;refine ao (λ_:Unit=>_) (λ_=>True) (λ_=>0) () trivial (Wk.refl _) (λ_ _=>?_);simp only[go_sem,z];exact Mw.Fd [] (by simp only[go_sem]) rfl
end
section
open Go.RowKit Go.Shelf
attribute[local go_sem] Oper.semAt_some
def XS(x:Int×Int):Array Value:=#[.int .i64 x.1,.int .i64 x.2]
def NI(l:List Int):List (Int×Int):=((List.range l.length).reverse).map λ(i:Nat)=>((i:Int),ap l i)
def D2(l:List Int):(NI l).length=l.length:=by simp[NI]
def NJ(l:List Int){k:Nat}(h:k<l.length):(NI l)[k]?=some (((l.length-1-k:Nat):Int),ap l (l.length-1-k)):=by
 unfold NI;rw[fR,List.getElem?_reverse (by simpa using h),List.length_range,B2 (by omega)];rfl
def FY(l:List Int){k:Nat}(h:k<l.length):(NI l).take (k+1)=(NI l).take k++[(((l.length-1-k:Nat):Int),ap l (l.length-1-k))]:=by
 rw[uS,NJ l h,uR]
def slF(v:Value)(l:List Int)(B:Nat->Prop)(w:World):Prop:=∃pa cap,v = .slice pa l.length cap/\(0<l.length->∃b off c t fr,pa=some ⟨b,off,none⟩/\B b/\w.heap[b]?=some (.cells c t fr)/\∀i,i<l.length->c[off+i]?=some (.int .i64 (ap l i)))
def acF{M:Nat->Prop}{w:World}{v:Value}{l:List Int}(h:IRel M w v (.sl 1 (l.map bg))):slF v l (λb=>¬M b) w:=by
 generalize hr:l.map bg=rows at h;have hlen:rows.length=l.length:=by rw[<-hr,bP]
 cases h with
 | nls=>exact⟨none,0,by rw[<-hlen];rfl,λh=>by rw[<-hlen]at h;exact absurd h (Nat.lt_irrefl 0)⟩
 | sl0 _ a cap=>exact⟨some a,cap,by rw[<-hlen];rfl,λh=>by rw[<-hlen]at h;exact absurd h (Nat.lt_irrefl 0)⟩
 | sl b off cap st c t fr rows vs hb hM hl hr1 hv hx =>
  refine⟨some ⟨b,off,none⟩,cap,by rw[hlen],λ_=>⟨b,off,c,t,fr,rfl,hM,hb,λi hi=>?_⟩⟩;have hrow:rows[i]?=some (bg (ap l i)):=by rw[<-hr,fR,dV hi];rfl
  have e:=hx i 0 _ (.int .i64 (ap l i)) hrow rfl;have e2:=hv i 0 (by omega) (by omega);rw[x8,Nat.add_zero]at e2;rw[e2];generalize vs i 0=u at e;cases e;rfl
def aaS(n:Nat)(l:List Int)(hl:l.length<1000000)(w:World)(B:Nat->Prop)(v:Value)(pb po:Nat)(hBp:B pb)(hBs:∀b,B b->b<w.heap.size){cc:Array Value}{t0:TypeId}{fr0:Nat×Nat}(hb:w.heap[pb]?=some (.cells cc t0 fr0))(hcc:cc[po]?=some v)(hv:slF v l B w) :
  aay B n pg 468 #[.pointer (some ⟨pb,po,none⟩)] XS (NI l) w:=by
 obtain⟨pa,cap,rfl,hs⟩:=hv;intro l' J Jx W hH hW hJ hJx hY h0;refine callsIn_of_wp Tryz.func468 rfl trivial ?_ rfl;have hb1:W.heap[pb]?=some (.cells cc t0 fr0):=by rw[hW.keep _ (hBs pb hBp) (λh=>h)];exact hb
 simp only[Tryz.ntmps468,List.size_toArray,j1,iN,Nat.reduceAdd,Nat.reduceSub,Array.replicate_succ,Array.replicate_zero,List.push_toArray,List.append_toArray,iD,tU];have c0:W.cell? ⟨pb,po,none⟩=some (.slice pa l.length cap):=(bD hb1 _).trans hcc;have hw0:wrap64 ((l.length:Int)-1)=(l.length:Int)-1:=IntWalk.wrap64_in _ (by omega)
 gi_wp2
 gi_loopw [3] (λi wr=>∃k:Nat,k<=l.length/\i = .int .i64 ((l.length:Int)-1-k)/\J ((NI l).take k) wr/\W.heap.size<=wr.heap.size/\∀b,B b->wr.heap[b]? = W.heap[b]?) (λi _=>(intOf i+1).toNat)
 case atStart=>exact⟨0,cR _,by simp,h0,aN _,λ_ _=>rfl⟩
 case round =>
  obtain⟨k,hk,rfl,hJk,hsz,hst⟩:=hrel;have hb2:=(hst pb hBp).trans hb1;have c1:wr.cell? ⟨pb,po,none⟩=some (.slice pa l.length cap):=(bD hb2 _).trans hcc;by_cases hlt:k<l.length
  .obtain⟨b,off,c,t,fr,hpa,hBb,hbb,hc⟩:=hs (by omega);have hbW:W.heap[b]?=some (.cells c t fr):=by rw[hW.keep _ (hBs b hBb) (λh=>h)];exact hbb
   have hi:((l.length:Int)-1-k)=((l.length-1-k:Nat):Int):=by omega
   have c2:wr.cell? ⟨b,off+(l.length-1-k),none⟩=some (.int .i64 (ap l (l.length-1-k))):=(bD ((hst b hBb).trans hbW) _).trans (hc _ (by omega));have hpre:(NI l).take k++[(((l.length-1-k:Nat):Int),ap l (l.length-1-k))] <+: NI l:=by
    rw[<-FY l hlt];exact List.take_prefix _ _
   obtain⟨fn,tmps,assign,body,hy,hR⟩:=hY _ _ wr hJk hpre;have hy2:(Instr.yield l' #[.int .i64 ((l.length-1-k:Nat):Int),.int .i64 (ap l (l.length-1-k))]).run pg wr = .ok (.round l' fn tmps assign body) wr:=hy;have hw1:wrap64 (((l.length-1-k:Nat):Int)-1)=(l.length:Int)-1-((k+1:Nat):Int):=by rw[IntWalk.wrap64_in _ (by omega)];omega
   rw[hi];subst hpa
   gi_wp2
   refine⟨λh=>(by cases h),hR.mono ?_⟩;rintro e W3 (⟨rfl,hJ3,hk3⟩|⟨rfl,hJx3⟩)
   .gi_wp2
    go_roundw
    case rel =>
     refine⟨k+1,by omega,by congr 1;omega,?_,cZ hsz hk3.1,λb' hb'=>(hk3.2.2 b' hb').trans (hst b' hb')⟩;rw[FY l hlt];exact hJ3
    case measure=>simp[intOf]<;>omega
   .gi_wp2
    refine bodyPost_ret (results_none rfl _ _ _) rfl ?_;exact⟨⟨_,rfl⟩,.inr ⟨_,hpre,hJx3⟩⟩
  .have hk2:k=l.length:=by omega
   subst hk2;have hi:((l.length:Int)-1-l.length) = -1:=by omega
   rw[hi]
   gi_wp2
   refine bodyPost_end (results_none rfl _ _ _) rfl ?_;refine⟨⟨_,rfl⟩,.inl ?_⟩;rw[gN (by rw[D2];exact aN _)]at hJk;exact hJk
