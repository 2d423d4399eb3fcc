import Derived.Test.YthhglklcaodfmaaGreatDoorCQp
set_option linter.all false
set_option maxRecDepth 100000
set_option maxHeartbeats 40000000
namespace Go.Proofs.YthhglklcaodfmaaGreatDoor
section
open Go Go.Mw
def Pt(l:List Int):List AV:=[.sl 1 (l.map aS)]
def Rx(l:List Int):Pt l=[.sl 1 (l.map aS)]:=rfl
def zy{C:Ct}(h:xC 900000 C)(i:Int):(C.label i).1.length<=1000:=by
 unfold Ct.label;split
 .exact dx _
 split
 .exact dx _
 rename_i h1 h2;have hm:=h.t (av C.bs (C.bs.length-1-i.toNat)) (by rw[aY (by omega)];exact eH _);split
 .exact hm.1
 .exact hm.2
def PV(C:Ct){l:List Int}{j:Nat}(h:j<l.length):dL C (l.drop j)=if(C.label (av l j)).2≠0 then([],(C.label (av l j)).2)else if(dL C (l.drop (j+1))).2≠0 then dL C (l.drop (j+1))else((C.label (av l j)).1::(dL C (l.drop (j+1))).1,0):=by
 rw[dV h,dL]
def Wp{n:Nat}(h0:0<n)(h:n<1000000000):IntKind.i64.wrap ((n:Int)-1)=((n-1:Nat):Int):=by rw[wi (by omega) (by omega)];omega
def Hj(a b:Int)(p l:List Int):g_ (a::p) (b::l)=((a==0||a==b)&&g_ p l):=rfl
attribute[local go_sem] bY zW zY zZ zX qx DB DC BW BX pW aW bV Rx
def aad(hLeft:fK)(C:Ct)(x:bj)(h:xC 850000 C)(hl:x.lb.length<=1000):H2 Ji [fN x] C (.int .i64 (ey C x).1) (ey C x).2:=by
 refine b_ y_ ?_;have ha:=cC 24 3 1 x.lb.length aS x.lb [[.int .i64 x.a]] rfl;obtain⟨L,hL⟩:∃L,x.lb++[x.a]=L:=⟨_,rfl⟩
 have hLl:L.length=x.lb.length+1:=by rw[<-hL];simp
 have et:(x.lb.map aS++[[AV.int .i64 x.a]])=L.map aS:=by rw[<-hL];simp[aS]
 obtain⟨T,hT⟩:∃T,ey C x=T:=⟨_,rfl⟩
 rw[hT];unfold ey at hT;rw[hL]at hT;simp only[go_sem,y_];refine KF ?_;simp only[go_sem,aQ,i0,ha,mh,et];refine⟨by omega,by omega,?_⟩;obtain⟨G,hG⟩:∃G,dL C L=G:=⟨_,rfl⟩
 rw[hG]at hT;refine aA (λq:Nat×List (List Int)=>⟨[(30,.int .i64 q.1),(29,.int .i64 L.length),(28,.sl 1 (L.map aS)),(5,.ms 900 1 0 q.2.length),(3,.mp 3 9 0 0),(0,.mp 1000 5 0 0)],gA C++[(900,⟨57,1,q.2.map Pt,false⟩)]⟩)
  (λq=>q.1<=L.length/\q.2.length=q.1/\(∀l∈q.2,l.length<=1000)/\G=if(dL C (L.drop q.1)).2≠0 then dL C (L.drop q.1)else(q.2++(dL C (L.drop q.1)).1,0)) (λq=>L.length-q.1) (0,[]) ⟨dx _,rfl,(λl hl=>by cases hl),?_⟩ ((Wk.nil _ 5 900 1 57 (by simp only[go_sem]) (by decide)).trans (Wk.frz_of [24] ?_ ?_)) ?_
 .rw[fo,hG];split
  .rfl
  .rename_i hh;have hh:G.2=0:=Decidable.of_not_not hh;rw[gC,<-hh]
 .simp only[go_sem,St.mknil,hLl,aQ,i0,fo,dk,i9,eG]
  try (rw[show x.lb.length+1=L.length from hLl.symm,i0];trivial)
 .simp only[go_sem,St.mknil];try rfl
 rintro⟨j,R⟩ ⟨hj,hR,hRb,hx⟩;dsimp only at hj hR hRb hx;by_cases h1:(j:Int)<(L.length:Int)
 .have hj':j<L.length:=by omega
  have e8:=cK hj' (by omega);rw[PV C hj']at hx;have kl:=Pi C ⟨by have:=h.u;omega,by have:=h.l;omega,by have:=h.b;omega,h.r,h.t⟩ (av L j);have lb:=zy (C:=C) ⟨by have:=h.u;omega,by have:=h.l;omega,by have:=h.b;omega,h.r,h.t⟩ (av L j);generalize C.label (av L j)=Q at kl hx lb;obtain⟨l,e⟩:=Q;dsimp only at kl hx lb;by_cases h2:e=0;rotate_left
  .rw[az h2]at hx;simp only at hx;rw[az h2]at hx;subst hx;dsimp only at hT;rw[az h2]at hT;subst hT;simp only[go_sem,aF h1];refine⟨by omega,h1,?_⟩;refine aO (kl) (by simp only[go_sem]) (by simp only[go_sem]) (by simp only[go_sem]) (by simp only[go_sem]) (by simp only[go_sem]) (by simp only[go_sem]) ?_;simp only[go_sem,aE h2];exact aZ [] _ (gA C) ⟨rfl,rfl⟩
  have ha2:=cC 900 57 1 R.length Pt R [Pt l] rfl;rw[Rx]at ha2;simp only[go_sem,aF h1];refine⟨by omega,h1,?_⟩;refine aO (kl) (by simp only[go_sem]) (by simp only[go_sem]) (by simp only[go_sem]) (by simp only[go_sem]) (by simp only[go_sem]) (by simp only[go_sem]) ?_;simp only[go_sem,ay h2,ha2,mh];refine⟨by omega,?_⟩;refine aH (j+1,R++[l]) ⟨show j+1<=L.length by omega,by simp[hR],?_,?_⟩ (show L.length-(j+1)<L.length-j by omega) (Wk.of ?_ ?_)
  .intro l' hl';rcases gW.1 hl' with q|q
   .exact hRb l' q
   .rw[fS.1 q];exact lb
  .rw[hx];simp only[h2];by_cases h3:(dL C (L.drop (j+1))).2=0
   .simp[h3]
   .simp[h3]
  .simp only[go_sem,e8];try simp
  .simp only[go_sem];try simp[Rx]
 have hend:j=L.length:=by omega
 rw[hend,a_ (aQ _)]at hx;have hx:G=(R,0):=by rw[hx];simp[dL]
 subst hx;have hR0:R.length=L.length:=by rw[hR,hend]
 dsimp only at hT;rw[an (by simp)]at hT;have hw:=Wp (n:=R.length) (by omega) (by omega);have hlast:(av R (R.length-1)).length<=1000:=hRb _ (by rw[aY (by omega)];exact eH _);obtain⟨la,hla⟩:∃la,av R (R.length-1)=la:=⟨_,rfl⟩
 rw[hla]at hT hlast;simp only[go_sem,aI h1,hw,cL,dk,hla];refine⟨⟨by omega,by omega⟩,by omega,?_⟩;refine aA (λq:Nat=>⟨[(56,.int .i64 q),(55,.int .i64 R.length),(54,.sl 1 (R.map Pt)),(10,.sl 1 (la.map aS)),(5,.sl 1 (R.map Pt)),(0,.mp 1000 5 0 0)],gA C⟩)
  (λq=>q<=R.length/\(R.all λl=>l.length==la.length)=((R.drop q).all λl=>l.length==la.length)) (λq=>R.length-q) 0 ⟨dx _,rfl⟩ (Wk.frz_of [900] ?_ ?_) ?_
 .simp only[go_sem,aQ,i0,fo,dk];try simp
 .simp only[go_sem];try rfl
 intro j2 hh;obtain⟨hj2,hx2⟩:j2<=R.length/\(R.all λl=>l.length==la.length)=((R.drop j2).all λl=>l.length==la.length):=hh;by_cases h2:(j2:Int)<(R.length:Int)
 .have hj2':j2<R.length:=by omega
  have e8:=cK hj2' (by omega);rw[dV hj2',Cf]at hx2;have hrb:(av R j2).length<=1000:=hRb _ (by rw[aY hj2'];exact eH _);by_cases h3:(av R j2).length=la.length
  .rw[show((av R j2).length==la.length)=true from beq_iff_eq.2 h3,dM]at hx2;have h3':((av R j2).length:Int)=(la.length:Int):=by omega
   simp only[go_sem,aF h2,ay h3'];refine⟨by omega,h2,?_⟩;refine aH (j2+1) ⟨show j2+1<=R.length by omega,hx2⟩ (show R.length-(j2+1)<R.length-j2 by omega) (Wk.of ?_ ?_)
   .simp only[go_sem,e8];try simp
   .simp only[go_sem];try simp
  .rw[show((av R j2).length==la.length)=false from OD.2 h3,dF]at hx2;have h3':¬((av R j2).length:Int)=(la.length:Int):=by omega
   rw[az hx2]at hT;subst hT;simp only[go_sem,aF h2,aE h3'];refine⟨by omega,h2,?_⟩;exact aZ [] _ (gA C) ⟨rfl,rfl⟩
 have hend2:j2=R.length:=by omega
 rw[hend2,a_ (aQ _)]at hx2;have hall:(R.all λl=>l.length==la.length)=true:=hx2;rw[an (by rw[hall];decide)]at hT;have kw:=pu C.s [1] (hLeft _ _ (by have:=h.u;omega) (by have:=h.l;omega) (by simp));obtain⟨b1,b2⟩:=ez C.s [1];have hu:=h.u;have hlC:=h.l;generalize C.s.want [1]=Q at kw b1 b2 hT;obtain⟨e,S1⟩:=Q;dsimp only at kw b1 b2 hT;simp only[go_sem,aI h2];refine aO (eQ C) (by simp only[go_sem]) (by simp only[go_sem]) (by simp only[go_sem]) (by simp only[go_sem]) (by simp only[go_sem]) (by simp only[go_sem]) ?_;simp only[go_sem];refine be (eJ.frzs [68] _ _) ?_;simp only[go_sem];refine aU (kw) (by simp only[go_sem]) (by simp only[go_sem]) (by simp only[go_sem]) (by simp only[go_sem]) ?_;by_cases e5:e=0;rotate_left
 .rw[az e5]at hT;subst hT;simp only[go_sem,aE e5];exact aZ [] _ (gA {C with s:=S1}) ⟨rfl,rfl⟩
 rw[an (λq=>q e5)]at hT;simp only[go_sem,ay e5];refine⟨⟨by omega,by omega,by omega⟩,?_⟩;have w0:IntKind.i64.wrap ((la.length:Int)-1)=(la.length:Int)-1:=wi (by omega) (by omega);refine aA (λq:Nat×List Int×Sk=>⟨[(15,.int .i64 ((q.1:Int)-1)),(14,.ms 75 1 0 la.length),(10,.sl 1 (la.map aS)),(5,.sl 1 (R.map Pt)),(0,.mp 1000 5 0 0)],gA {C with s:=q.2.2}++[(75,⟨48,1,(List.replicate q.1 0++q.2.1).map aS,false⟩)]⟩)
  (λq=>q.1+q.2.1.length=la.length/\q.2.2.u=S1.u/\q.2.2.all.length<=S1.all.length/\gI la.length S1 []=gI q.1 q.2.2 q.2.1) (λq=>q.1) (la.length,[],S1) ⟨rfl,rfl,aQ _,rfl⟩ (Wk.of ?_ ?_) ?_
 .simp only[go_sem,w0];try simp
 .simp only[go_sem];try simp[aS]
 rintro⟨m,l,S⟩ ⟨hm,hSu,hSl,hP⟩;dsimp only at hm hSu hSl hP;cases m with
 | succ m =>
  have h6:((m+1:Nat):Int)-1>=0:=by omega
  have J4:=eQ {C with s:=S};have kp:=KO S (by rw[hSu,b1];omega) (by omega);obtain⟨b3,b4⟩:=oU S;rw[gI]at hP;generalize S.pop=Q at kp b3 b4 hP;obtain⟨t,e6,S2⟩:=Q;dsimp only at kp b3 b4 hP;by_cases e7:e6=0;rotate_left
  .rw[az e7]at hP;rw[hP,az e7]at hT;subst hT;simp only[go_sem,aF h6];refine aO (J4) (by simp only[go_sem]) (by simp only[go_sem]) (by simp only[go_sem]) (by simp only[go_sem]) (by simp only[go_sem]) (by simp only[go_sem]) ?_;simp only[go_sem];refine aU (kp) (by simp only[go_sem]) (by simp only[go_sem]) (by simp only[go_sem]) (by simp only[go_sem]) ?_;simp only[go_sem,aE e7];exact aZ [] _ (gA {C with s:=S2}) ⟨rfl,rfl⟩
  rw[an (λq=>q e7)]at hP;have w1:((m+1:Nat):Int)-1=(m:Int):=by omega
  have w2:IntKind.i64.wrap ((m:Int)-1)=(m:Int)-1:=wi (by omega) (by omega);rw[w1]at h6⊢;simp only[go_sem,aF h6];refine aO (J4) (by simp only[go_sem]) (by simp only[go_sem]) (by simp only[go_sem]) (by simp only[go_sem]) (by simp only[go_sem]) (by simp only[go_sem]) ?_;simp only[go_sem];refine aU (kp) (by simp only[go_sem]) (by simp only[go_sem]) (by simp only[go_sem]) (by simp only[go_sem]) ?_;have hs:Ms 75 1 1 m 0 (some ⟨48,1,(List.replicate (m+1) 0++l).map aS,false⟩) (some [.int .i64 t])=if m<(List.replicate (m+1) 0++l).length then some (.put 75 ⟨48,1,((List.replicate (m+1) 0++l).set m t).map aS,false⟩)else none:=P_ 75 1 1 m 48 aS _ t (λ_=>rfl) rfl
  have hset:(List.replicate (m+1) (0:Int)++l).set m t=List.replicate m 0++(t::l):=by
   rw[List.replicate_succ',vk,List.set_append_right _ _ (by simp)];simp
  rw[hset]at hs;have hlen:(List.replicate (m+1) (0:Int)++l).length=m+1+l.length:=by simp
  simp only[go_sem,ay e7,cL,dk,hs,hlen,w2];refine⟨⟨by omega,by omega⟩,by omega,?_⟩;refine aH (m,t::l,S2) ⟨show m+(l.length+1)=la.length by omega,show S2.u=S1.u by rw[b3,hSu],show S2.all.length<=S1.all.length by omega,hP⟩ (show m<m+1 by omega) (Wk.of ?_ ?_)
  .simp only[go_sem];try simp
  .simp only[go_sem];try simp
 | zero =>
  have h6:¬(((0:Nat):Int)-1>=0):=by omega
  have hml:l.length=la.length:=by omega
  rw[gI]at hP;rw[hP]at hT;dsimp only at hT;rw[an (λq=>q rfl)]at hT;simp only[go_sem,aI h6,List.replicate_zero,gC];refine aA (λq:Nat=>⟨[(98,.int .i64 q),(97,.int .i64 R.length),(96,.sl 1 (R.map Pt)),(14,.sl 1 (l.map aS)),(0,.mp 1000 5 0 0)],gA {C with s:=S}⟩)
   (λq=>q<=R.length/\(R.all λr=>g_ l r)=((R.drop q).all λr=>g_ l r)) (λq=>R.length-q) 0 ⟨dx _,rfl⟩ (Wk.frz_of [75] ?_ ?_) ?_
  .simp only[go_sem,<-hml,aQ,i0,fo,dk];try simp
  .simp only[go_sem];try rfl
  intro q hh;obtain⟨hq,hx3⟩:q<=R.length/\(R.all λr=>g_ l r)=((R.drop q).all λr=>g_ l r):=hh;by_cases h7:(q:Int)<(R.length:Int)
  .have hq':q<R.length:=by omega
   have e8:=cK hq' (by omega);rw[dV hq',Cf]at hx3;have hrl:(av R q).length=l.length:=by
    have:=ii.1 hall (av R q) (by rw[aY hq'];exact eH _);rw[hml];exact beq_iff_eq.1 this
   obtain⟨rw1,hrw⟩:∃r,av R q=r:=⟨_,rfl⟩
   rw[hrw]at hx3 hrl;simp only[go_sem,aF h7,hrw];refine⟨by omega,h7,?_⟩;refine aA (λp:Nat=>⟨[(104,.int .i64 p),(103,.int .i64 rw1.length),(102,.sl 1 (rw1.map aS)),(98,.int .i64 q),(97,.int .i64 R.length),(96,.sl 1 (R.map Pt)),(14,.sl 1 (l.map aS)),(0,.mp 1000 5 0 0)],gA {C with s:=S}⟩)
    (λp=>p<=rw1.length/\g_ l rw1=g_ (l.drop p) (rw1.drop p)) (λp=>rw1.length-p) 0 ⟨dx _,rfl⟩ (Wk.of ?_ ?_) ?_
   .simp only[go_sem];try simp
   .simp only[go_sem];try rfl
   intro p hh;obtain⟨hp,hx4⟩:p<=rw1.length/\g_ l rw1=g_ (l.drop p) (rw1.drop p):=hh;by_cases h8:(p:Int)<(rw1.length:Int)
   .have hp':p<rw1.length:=by omega
    have e9:=cK hp' (by omega);rw[dV hp',dV (l:=l) (by omega),Hj]at hx4;have h9:(p:Int)<(l.length:Int):=by omega
    by_cases g1:av l p=0
    .rw[aD g1,nx,dM]at hx4;simp only[go_sem,aF h8,ay g1];refine⟨by omega,h8,by omega,h9,?_⟩;refine aH (p+1) ⟨show p+1<=rw1.length by omega,hx4⟩ (show rw1.length-(p+1)<rw1.length-p by omega) (Wk.of ?_ ?_)
     .simp only[go_sem,e9];try simp
     .simp only[go_sem];try rfl
    by_cases g2:av l p=av rw1 p
    .rw[aD g2,Bool.or_true,dM]at hx4;simp only[go_sem,aF h8,aE g1];refine⟨by omega,h8,by omega,h9,by omega,h9,?_⟩;simp only[go_sem,ay g2];refine aH (p+1) ⟨show p+1<=rw1.length by omega,hx4⟩ (show rw1.length-(p+1)<rw1.length-p by omega) (Wk.of ?_ ?_)
     .simp only[go_sem,e9];try simp
     .simp only[go_sem];try rfl
    .rw[ac g1,ac g2,Bool.or_self,dF]at hx4;rw[hx4,dF]at hx3;rw[az hx3]at hT;subst hT;simp only[go_sem,aF h8,aE g1];refine⟨by omega,h8,by omega,h9,by omega,h9,?_⟩;simp only[go_sem,aE g2];exact aZ [] _ (gA {C with s:=S}) ⟨rfl,rfl⟩
   have hpe:p=rw1.length:=by omega
   rw[hpe,a_ (aQ _),hrl,a_ (aQ _)]at hx4;rw[show g_ l rw1=true from hx4,dM]at hx3;simp only[go_sem,aI h8];refine aH (q+1) ⟨show q+1<=R.length by omega,hx3⟩ (show R.length-(q+1)<R.length-q by omega) (Wk.of ?_ ?_)
   .simp only[go_sem,e8];try simp
   .simp only[go_sem];try rfl
  have hqe:q=R.length:=by omega
  rw[hqe,a_ (aQ _)]at hx3;rw[an (by rw[hx3];simp)]at hT;subst hT;simp only[go_sem,aI h7];exact aZ [] _ (gA {C with s:=S}) ⟨rfl,rfl⟩
end
section
open Go Go.Mw
def xC.mono{n m:Nat}{C:Ct}(h:xC n C)(hm:n<=m):xC m C:=⟨by have:=h.u;omega,by have:=h.l;omega,by have:=h.b;omega,h.r,h.t⟩
def xC.sk{n:Nat}{C:Ct}(h:xC n C){S:Sk}(h1:S.u.length<=n)(h2:S.all.length<=n):xC n {C with s:=S}:=⟨h1,h2,h.b,h.r,h.t⟩
def Wl:∀(n:Nat)(S:Sk)(l:List Int),(gI n S l).2.2.u=S.u/\(gI n S l).2.2.all.length<=S.all.length
 | 0,S,l=>⟨rfl,aQ _⟩
 | n+1,S,l=>by
  obtain⟨h1,h2⟩:=oU S;unfold gI;split
  .exact⟨h1,h2⟩
  .obtain⟨h3,h4⟩:=Wl n S.pop.2.2 (S.pop.1::l);exact⟨by rw[h3,h1],by omega⟩
def Dc(C:Ct)(x:bj):∃S,(ey C x).2={C with s:=S}/\S.u=C.s.u/\S.all.length<=C.s.all.length:=by
 obtain⟨w1,w2⟩:=ez C.s [1];unfold ey;dsimp only;split
 .exact⟨C.s,rfl,rfl,aQ _⟩
 split
 .exact⟨C.s,rfl,rfl,aQ _⟩
 split
 .exact⟨(C.s.want [1]).2,rfl,w1,w2⟩
 have hp:=Wl (av (dL C (x.lb++[x.a])).1 ((dL C (x.lb++[x.a])).1.length-1)).length (C.s.want [1]).2 [];generalize gI (av (dL C (x.lb++[x.a])).1 ((dL C (x.lb++[x.a])).1.length-1)).length (C.s.want [1]).2 []=P at hp⊢;obtain⟨p1,p2⟩:=hp;split
 .exact⟨P.2.2,rfl,by rw[p1,w1],by omega⟩
 split
 .exact⟨P.2.2,rfl,by rw[p1,w1],by omega⟩
 .exact⟨P.2.2,rfl,by rw[p1,w1],by omega⟩
attribute[local go_sem] bY zW zY zZ zX qx DB DC BW BX pW aW bV
def Vb(hLeft:fK)(C:Ct)(x:bj)(h:xC 700000 C)(hl:x.lb.length<=1000):H2 GG [fN x] C (.int .i64 (eO C x).1) (eO C x).2:=by
 refine b_ ik ?_;obtain⟨T,hT⟩:∃T,eO C x=T:=⟨_,rfl⟩
 rw[hT];unfold eO at hT;dsimp only at hT;have hu:=h.u;have hlC:=h.l;have kr:=aeQ C (h.mono (by decide));have kl:=Pi C (h.mono (by decide)) x.a;have lb:=zy (h.mono (by decide)) x.a;have rb:C.retn.length<=1000:=by
  unfold Ct.retn;split
  .exact dx _
  .exact h.r
 have kt:=aad hLeft C x (h.mono (by decide)) hl;generalize C.retn=rt at kr rb hT;generalize C.label x.a=Q at kl lb hT;obtain⟨l,e⟩:=Q;dsimp only at kl lb hT;obtain⟨LL,hLL⟩:∃LL,(if x.op≠15/\x.op≠14 then(l,e)else(rt,0))=LL:=⟨_,rfl⟩
 rw[hLL]at hT;by_cases o14:x.op=14
 .rw[an (λq=>q.2 o14)]at hLL;subst hLL;rw[an (λq=>q rfl),az o14]at hT;obtain⟨S1,hS,t1,t2⟩:=Dc C x;generalize ey C x=Q at kt hT hS;obtain⟨e1,C1⟩:=Q;dsimp only at kt hT hS;subst hS;have kd:=Ir {C with s:=S1} ((h.mono (by decide)).sk (by rw[t1];omega) (by omega));simp only[go_sem,ik];refine aO (kr) (by simp only[go_sem]) (by simp only[go_sem]) (by simp only[go_sem]) (by simp only[go_sem]) (by simp only[go_sem]) (by simp only[go_sem]) ?_;simp only[go_sem,aE (show ¬x.op=15 by omega),ay o14,aD o14];refine aO (kt) (by simp only[go_sem]) (by simp only[go_sem]) (by simp only[go_sem]) (by simp only[go_sem]) (by simp only[go_sem]) (by simp only[go_sem]) ?_;by_cases e2:e1=0
  .rw[eP,az e2]at hT;subst hT;simp only[go_sem,aD e2];refine aO (kd) (by simp only[go_sem]) (by simp only[go_sem]) (by simp only[go_sem]) (by simp only[go_sem]) (by simp only[go_sem]) (by simp only[go_sem]) ?_;simp only[go_sem,e2];exact aZ [] _ (gA ({C with s:=S1}:Ct).dead) ⟨rfl,rfl⟩
  .rw[eP,an e2]at hT;subst hT;simp only[go_sem,ac e2];exact aZ [] _ (gA {C with s:=S1}) ⟨rfl,rfl⟩
 by_cases o15:x.op=15
 .rw[an (λq=>q.1 o15)]at hLL;subst hLL;rw[an (λq=>q rfl),an o14,an (show ¬x.op=13 by omega)]at hT;dsimp only at hT;have kw:=pu C.s rt (hLeft _ _ (by omega) (by omega) (by omega));obtain⟨b1,b2⟩:=ez C.s rt;generalize C.s.want rt=Q at kw b1 b2 hT;obtain⟨e1,S1⟩:=Q;dsimp only at kw b1 b2 hT;have kd:=Ir {C with s:=S1} ((h.mono (by decide)).sk (by rw[b1];omega) (by omega));simp only[go_sem,ik];refine aO (kr) (by simp only[go_sem]) (by simp only[go_sem]) (by simp only[go_sem]) (by simp only[go_sem]) (by simp only[go_sem]) (by simp only[go_sem]) ?_;simp only[go_sem,ay o15,ac o14,ac (show ¬x.op=13 by omega)];refine aO (eQ C) (by simp only[go_sem]) (by simp only[go_sem]) (by simp only[go_sem]) (by simp only[go_sem]) (by simp only[go_sem]) (by simp only[go_sem]) ?_;simp only[go_sem];refine aU (kw) (by simp only[go_sem]) (by simp only[go_sem]) (by simp only[go_sem]) (by simp only[go_sem]) ?_;by_cases e2:e1=0
  .rw[eP,az e2]at hT;subst hT;simp only[go_sem,aD e2];refine aO (kd) (by simp only[go_sem]) (by simp only[go_sem]) (by simp only[go_sem]) (by simp only[go_sem]) (by simp only[go_sem]) (by simp only[go_sem]) ?_;simp only[go_sem,e2];exact aZ [] _ (gA ({C with s:=S1}:Ct).dead) ⟨rfl,rfl⟩
  .rw[eP,an e2]at hT;subst hT;simp only[go_sem,ac e2];exact aZ [] _ (gA {C with s:=S1}) ⟨rfl,rfl⟩
 rw[az ⟨o15,o14⟩]at hLL;subst hLL;dsimp only at hT;by_cases e3:e=0;rotate_left
 .rw[az e3]at hT;subst hT;simp only[go_sem,ik];refine aO (kr) (by simp only[go_sem]) (by simp only[go_sem]) (by simp only[go_sem]) (by simp only[go_sem]) (by simp only[go_sem]) (by simp only[go_sem]) ?_;simp only[go_sem,aE o15,aE o14];refine aO (kl) (by simp only[go_sem]) (by simp only[go_sem]) (by simp only[go_sem]) (by simp only[go_sem]) (by simp only[go_sem]) (by simp only[go_sem]) ?_;simp only[go_sem,aE e3];exact aZ [] _ (gA C) ⟨rfl,rfl⟩
 rw[an (λq=>q e3),an o14]at hT;by_cases o13:x.op=13
 .rw[az o13]at hT;have kw:=pu C.s [1] (hLeft _ _ (by omega) (by omega) (by simp));obtain⟨b1,b2⟩:=ez C.s [1];generalize C.s.want [1]=Q at kw b1 b2 hT;obtain⟨e1,S1⟩:=Q;dsimp only at kw b1 b2 hT;have kt:=Vf hLeft S1 ⟨l,l⟩ ⟨by rw[b1];omega,by omega⟩ ⟨show l.length<=10000 by omega,show l.length<=10000 by omega⟩;generalize i1 S1 ⟨l,l⟩=Q at kt hT;obtain⟨e4,S2⟩:=Q;dsimp only at kt hT;have J4:=eQ {C with s:=S1};simp only[go_sem,ik];refine aO (kr) (by simp only[go_sem]) (by simp only[go_sem]) (by simp only[go_sem]) (by simp only[go_sem]) (by simp only[go_sem]) (by simp only[go_sem]) ?_;simp only[go_sem,aE o15,aE o14];refine aO (kl) (by simp only[go_sem]) (by simp only[go_sem]) (by simp only[go_sem]) (by simp only[go_sem]) (by simp only[go_sem]) (by simp only[go_sem]) ?_;simp only[go_sem,ay e3,ac o14,aD o13];refine aO (eQ C) (by simp only[go_sem]) (by simp only[go_sem]) (by simp only[go_sem]) (by simp only[go_sem]) (by simp only[go_sem]) (by simp only[go_sem]) ?_;simp only[go_sem];refine be (eJ.frzs [43] _ _) ?_;simp only[go_sem];refine aU (kw) (by simp only[go_sem]) (by simp only[go_sem]) (by simp only[go_sem]) (by simp only[go_sem]) ?_;by_cases e2:e1=0
  .rw[an (λq=>q e2)]at hT;subst hT;simp only[go_sem,ay e2];refine aO (J4) (by simp only[go_sem]) (by simp only[go_sem]) (by simp only[go_sem]) (by simp only[go_sem]) (by simp only[go_sem]) (by simp only[go_sem]) ?_;simp only[go_sem];refine aU (kt) (by simp only[go_sem]) (by simp only[go_sem]) (by simp only[go_sem]) (by simp only[go_sem]) ?_;simp only[go_sem];exact aZ [] _ (gA {C with s:=S2}) ⟨rfl,rfl⟩
  .rw[az e2]at hT;subst hT;simp only[go_sem,aE e2];exact aZ [] _ (gA {C with s:=S1}) ⟨rfl,rfl⟩
 rw[an o13]at hT;have kw:=pu C.s l (hLeft _ _ (by omega) (by omega) (by omega));obtain⟨b1,b2⟩:=ez C.s l;generalize C.s.want l=Q at kw b1 b2 hT;obtain⟨e1,S1⟩:=Q;dsimp only at kw b1 b2 hT;have kd:=Ir {C with s:=S1} ((h.mono (by decide)).sk (by rw[b1];omega) (by omega));simp only[go_sem,ik];refine aO (kr) (by simp only[go_sem]) (by simp only[go_sem]) (by simp only[go_sem]) (by simp only[go_sem]) (by simp only[go_sem]) (by simp only[go_sem]) ?_;simp only[go_sem,aE o15,aE o14];refine aO (kl) (by simp only[go_sem]) (by simp only[go_sem]) (by simp only[go_sem]) (by simp only[go_sem]) (by simp only[go_sem]) (by simp only[go_sem]) ?_;simp only[go_sem,ay e3,ac o14,ac o13];refine aO (eQ C) (by simp only[go_sem]) (by simp only[go_sem]) (by simp only[go_sem]) (by simp only[go_sem]) (by simp only[go_sem]) (by simp only[go_sem]) ?_;simp only[go_sem];refine aU (kw) (by simp only[go_sem]) (by simp only[go_sem]) (by simp only[go_sem]) (by simp only[go_sem]) ?_;by_cases e2:e1=0
 .rw[eP,az e2]at hT;subst hT;simp only[go_sem,aD e2];refine aO (kd) (by simp only[go_sem]) (by simp only[go_sem]) (by simp only[go_sem]) (by simp only[go_sem]) (by simp only[go_sem]) (by simp only[go_sem]) ?_;simp only[go_sem,e2];exact aZ [] _ (gA ({C with s:=S1}:Ct).dead) ⟨rfl,rfl⟩
 .rw[eP,an e2]at hT;subst hT;simp only[go_sem,ac e2];exact aZ [] _ (gA {C with s:=S1}) ⟨rfl,rfl⟩
def N2{x:bj}(h:C_ x)(hp:rA x=true):qE x.a=true/\qE x.b=true/\xZ (bN x.op) x=true:=by
 obtain⟨h1,h2,h3⟩:=h;obtain⟨t1,_,t3,_⟩:=Qd x.op;unfold rA at hp;rw[<-acM (GO x.op) (CW x.op) (J5 x.op) x h3]at hp;unfold plP at hp;simp only[dX]at hp;obtain⟨_,_,_,_,ha,hb,_,_,_,_,hf⟩:=hp;rw[t3];exact⟨ha,hb,hf⟩
end
section
open Go Go.Mw
def Xb(r:Ft×Int):E_ r = .tup [.agg (pt r.1),.int .i64 r.2]:=rfl
def rK(s:Sp):Prop:=∀x∈s.ts,x.ps.length<=100/\x.rs.length<=100
def rK.sm{s:Sp}(h:rK s):Fp s:=λx hx=>⟨by have:=(h x hx).1;omega,by have:=(h x hx).2;omega⟩
def Sl{s:Sp}(h:rK s)(i:Int){f:Ft}(hf:s.ty i=some f):f.ps.length<=100/\f.rs.length<=100:=by
 unfold Sp.ty cx at hf;split at hf
 .exact h f (rO hf)
 .cases hf
def TA{s:Sp}(h:rK s){k v x:Int}{f:Ft}(hf:s.blk k v x=some f):f.ps.length<=100/\f.rs.length<=100:=by
 unfold Sp.blk at hf;split at hf
 .cases hf;exact⟨dx _,dx _⟩
 split at hf
 .split at hf
  .cases hf;exact⟨dx _,by show 1<=100;omega⟩
  .cases hf
 split at hf
 .exact Sl h _ hf
 .cases hf
def aif{s:Sp}(h:rK s){i:Int}{f:Ft}(hf:s.fn i=some f):f.ps.length<=100/\f.rs.length<=100:=by
 unfold Sp.fn at hf;cases hq:cx s.fs i with
 | none=>rw[hq]at hf;cases hf
 | some k=>rw[hq]at hf;exact Sl h _ hf
def afn(op t:Int)(s:List UInt8):(GM op t s).1.length<=200/\(GM op t s).2.length<=200:=by
 unfold GM
 repeat' split
 all_goals exact⟨by simp,by simp⟩
def alE(op:Int):(rJ op).1.length<=200/\(rJ op).2.1.length<=200:=by
 unfold rJ;cases hf:sgT.find? (λp=>p.1==op)with
 | some p =>
  have hm:=List.mem_of_find?_eq_some hf;have:∀p∈sgT,p.2.1.length<=200/\p.2.2.length<=200:=by decide
  exact this p hm
 | none =>
  dsimp only;split
  .exact afn _ _ _
  .exact⟨by simp,by simp⟩
def JW{s:Sp}(h:rK s)(lo:List Int)(x:bj):(i3 s lo x).1.ps.length<=200/\(i3 s lo x).1.rs.length<=200:=by
 have hd:(default:Ft).ps.length<=200/\(default:Ft).rs.length<=200:=⟨dx _,dx _⟩
 rw[i8];split
 .unfold fnA;split
  .exact hd
  .rename_i f hf;obtain⟨g1,g2⟩:=aif h hf;split
   .exact⟨gD g1 (by decide),gD g2 (by decide)⟩
   split
   .exact hd
   .exact⟨dx _,by simp⟩
 split
 .unfold inA;split
  .rename_i f t hf ht;have:=Sl h _ hf;split
   .exact hd
   .exact⟨by show(f.ps++[1]).length<=200;rw[dN];simp;omega,by show f.rs.length<=200;omega⟩
  .exact hd
 split
 .exact⟨by simp,by simp⟩
 split
 .unfold lcA;split
  .exact hd
  split
  .exact⟨by simp,by simp⟩
  split<;>exact⟨by simp,by simp⟩
 split
 .unfold glA;split
  .exact hd
  split
  .exact⟨by simp,by simp⟩
  split
  .exact hd
  .exact⟨by simp,by simp⟩
 split
 .unfold tbA;split
  .exact hd
  repeat' split
  all_goals exact⟨by simp,by simp⟩
 split
 .exact⟨by simp,by simp⟩
 split
 .exact hd
 .exact alE x.op
attribute[local go_sem] bY zW zY zZ zX qx DB DC BW BX pW aW bV Xb zn zo
def Z8(hLeft:fK)(C:Ct)(s:Sp)(lo:List Int)(x:bj)(h:xC 600000 C)(hs:rK s)(hlo:lo.length<=9000000)(hx:C_ x)(hl:x.lb.length<=1000):H2 Jf [tg s,.sl 1 (lo.map aS),fN x] C (.int .i64 (fE C s lo x).1) (fE C s lo x).2:=by
 refine lx (ic:=jC 82 (jC 67 dm.body)) fD (cF dm) rfl rfl ?_;have hu:=h.u;have hlC:=h.l;have cn:=abA s x hs.sm hx;have hp:rA x=true->0<=x.a/\(bN x.op=6->0<x.ty.length):=λq=>by
  obtain⟨p1,p2,p3⟩:=N2 hx q;refine⟨?_,λq6=>?_⟩
  .simp only[qE,dX,ol]at p1;omega
  .rw[q6]at p3;simp only[xZ]at p3;rw[an (by decide),az trivial]at p3;simp only[dX,beq_iff_eq]at p3;omega
 unfold fE;cases hpl:rA x
 .rw[hpl]at cn;rw[az rfl];simp only[bF,aR,bV]at cn;simp only[go_sem,dm,bF,aR];refine aO (eQ C) (by simp only[go_sem]) (by simp only[go_sem]) (by simp only[go_sem]) (by simp only[go_sem]) (by simp only[go_sem]) (by simp only[go_sem]) ?_;simp only[go_sem];refine aa (cn) ?_;exact aZ [] _ (gA C) ⟨rfl,rfl⟩
 obtain⟨hp1,hp2⟩:=hp hpl;rw[hpl]at cn;rw[an (by decide)];simp only[bF,aR,bV]at cn;by_cases q1:x.op=2\/x.op=3\/x.op=4
 .rw[az q1];have cb:=PX s x.k x.v x.x hs.sm;have hbn:=λf=>TA (f:=f) hs (k:=x.k) (v:=x.v) (x:=x.x);generalize s.blk x.k x.v x.x=Q at cb hbn⊢;cases Q with
  | none =>
   simp only[bF,aR,aW]at cb;rcases q1 with q|q|q
   all_goals
    simp only[go_sem,dm,bF,aR];refine aO (eQ C) (by simp only[go_sem]) (by simp only[go_sem]) (by simp only[go_sem]) (by simp only[go_sem]) (by simp only[go_sem]) (by simp only[go_sem]) ?_;simp only[go_sem];refine ae (cn) ?_;simp only[go_sem,q];refine ae (cb) ?_;simp only[go_sem,Option.isSome_none];exact aZ [] _ (gA C) ⟨rfl,rfl⟩
  | some f =>
   have ke:=aaa hLeft C (h.mono (by decide)) x.op f ⟨by have:=(hbn f rfl).1;omega,by have:=(hbn f rfl).2;omega⟩;simp only[bF,aR,aW,cG,Option.isSome_some]at cb ke;dsimp only;generalize C.enter x.op f=R at ke⊢;rcases q1 with q|q|q
   all_goals
    rw[q]at ke;simp only[go_sem,dm,bF,aR];refine aO (eQ C) (by simp only[go_sem]) (by simp only[go_sem]) (by simp only[go_sem]) (by simp only[go_sem]) (by simp only[go_sem]) (by simp only[go_sem]) ?_;simp only[go_sem];refine ae (cn) ?_;simp only[go_sem,q];refine aa (cb) ?_;refine aO (ke) (by simp only[go_sem]) (by simp only[go_sem]) (by simp only[go_sem]) (by simp only[go_sem]) (by simp only[go_sem]) (by simp only[go_sem]) ?_;simp only[go_sem];exact aZ [] _ (gA R.2) ⟨rfl,rfl⟩
 have n2:¬x.op=2:=λq=>q1 (.inl q);have n3:¬x.op=3:=λq=>q1 (.inr (.inl q));have n4:¬x.op=4:=λq=>q1 (.inr (.inr q));rw[an q1];by_cases n5:x.op=5
 .rw[az n5];have ke:=aeN hLeft C (h.mono (by decide));generalize C.els=R at ke⊢;simp only[go_sem,dm,bF,aR];refine aO (eQ C) (by simp only[go_sem]) (by simp only[go_sem]) (by simp only[go_sem]) (by simp only[go_sem]) (by simp only[go_sem]) (by simp only[go_sem]) ?_;simp only[go_sem];refine ae (cn) ?_;simp only[go_sem,ac n2,ac n3,ac n4,aD n5];refine aO (ke) (by simp only[go_sem]) (by simp only[go_sem]) (by simp only[go_sem]) (by simp only[go_sem]) (by simp only[go_sem]) (by simp only[go_sem]) ?_;simp only[go_sem];exact aZ [] _ (gA R.2) ⟨rfl,rfl⟩
 rw[an n5];by_cases zA:x.op=11
 .rw[az zA];have ke:=aab hLeft C (h.mono (by decide));generalize C.leave=R at ke⊢;simp only[go_sem,dm,bF,aR];refine aO (eQ C) (by simp only[go_sem]) (by simp only[go_sem]) (by simp only[go_sem]) (by simp only[go_sem]) (by simp only[go_sem]) (by simp only[go_sem]) ?_;simp only[go_sem];refine ae (cn) ?_;simp only[go_sem,ac n2,ac n3,ac n4,ac n5,aD zA];refine aO (ke) (by simp only[go_sem]) (by simp only[go_sem]) (by simp only[go_sem]) (by simp only[go_sem]) (by simp only[go_sem]) (by simp only[go_sem]) ?_;simp only[go_sem];exact aZ [] _ (gA R.2) ⟨rfl,rfl⟩
 rw[an zA];by_cases n0:x.op=0
 .rw[az n0];have ke:=Ir C (h.mono (by decide));simp only[go_sem,dm,bF,aR];refine aO (eQ C) (by simp only[go_sem]) (by simp only[go_sem]) (by simp only[go_sem]) (by simp only[go_sem]) (by simp only[go_sem]) (by simp only[go_sem]) ?_;simp only[go_sem];refine ae (cn) ?_;simp only[go_sem,ac n2,ac n3,ac n4,ac n5,ac zA,aD n0];refine aO (ke) (by simp only[go_sem]) (by simp only[go_sem]) (by simp only[go_sem]) (by simp only[go_sem]) (by simp only[go_sem]) (by simp only[go_sem]) ?_;simp only[go_sem];exact aZ [] _ (gA C.dead) ⟨rfl,rfl⟩
 rw[an n0];by_cases qb:x.op=12\/x.op=13\/x.op=14\/x.op=15
 .rw[az qb];have ke:=Vb hLeft C x (h.mono (by decide)) hl;generalize eO C x=R at ke⊢;simp only[bV]at ke;rcases qb with q|q|q|q
  all_goals
   rw[q]at ke cn;simp only[go_sem,dm,bF,aR,q];refine aO (eQ C) (by simp only[go_sem]) (by simp only[go_sem]) (by simp only[go_sem]) (by simp only[go_sem]) (by simp only[go_sem]) (by simp only[go_sem]) ?_;simp only[go_sem];refine aa (cn) ?_;refine aO (ke) (by simp only[go_sem]) (by simp only[go_sem]) (by simp only[go_sem]) (by simp only[go_sem]) (by simp only[go_sem]) (by simp only[go_sem]) ?_;simp only[go_sem];exact aZ [] _ (gA R.2) ⟨rfl,rfl⟩
 have n12:¬x.op=12:=λq=>qb (.inl q);have n13:¬x.op=13:=λq=>qb (.inr (.inl q));have n14:¬x.op=14:=λq=>qb (.inr (.inr (.inl q)));have n15:¬x.op=15:=λq=>qb (.inr (.inr (.inr q)));rw[an qb];by_cases qp:x.op=26\/x.op=27\/x.op=209
 .rw[az qp];have ke:=aeP hLeft C.s x.op ⟨by omega,by omega⟩;generalize f_ C.s x.op=R at ke⊢;obtain⟨e,S1⟩:=R;rcases qp with q|q|q
  all_goals
   rw[q]at ke cn;simp only[go_sem,dm,bF,aR,q];refine aO (eQ C) (by simp only[go_sem]) (by simp only[go_sem]) (by simp only[go_sem]) (by simp only[go_sem]) (by simp only[go_sem]) (by simp only[go_sem]) ?_;simp only[go_sem];refine aa (cn) ?_
   repeat' (first|refine And.intro ?_ ?_|(refine aO (eQ C) (by simp only[go_sem]) (by simp only[go_sem]) (by simp only[go_sem]) (by simp only[go_sem]) (by simp only[go_sem]) (by simp only[go_sem]) ?_;simp only[go_sem,AL,xY]))
   all_goals
    refine aU (ke) (by simp only[go_sem]) (by simp only[go_sem]) (by simp only[go_sem]) (by simp only[go_sem]) ?_;simp only[go_sem];exact aZ [] _ (gA {C with s:=S1}) ⟨rfl,rfl⟩
 have n26:¬x.op=26:=λq=>qp (.inl q);have n27:¬x.op=27:=λq=>qp (.inr (.inl q));have n209:¬x.op=209:=λq=>qp (.inr (.inr q));rw[an qp];have ct:=Xs s lo x hs.sm hx hp1 hlo hp2;have hn:=JW hs lo x;generalize i3 s lo x=R at ct hn⊢;obtain⟨f,e⟩:=R;dsimp only at hn;simp only[Xb,bF,aR,bV,aW]at ct;by_cases e5:e=0;rotate_left
 .rw[az e5];simp only[go_sem,dm,bF,aR];refine aO (eQ C) (by simp only[go_sem]) (by simp only[go_sem]) (by simp only[go_sem]) (by simp only[go_sem]) (by simp only[go_sem]) (by simp only[go_sem]) ?_;simp only[go_sem];refine ae (cn) ?_;simp only[go_sem,ac n2,ac n3,ac n4,ac n5,ac zA,ac n0,ac n12,ac n13,ac n14,ac n15,ac n26,ac n27,ac n209];refine ae (ct) ?_;simp only[go_sem,aE e5];exact aZ [] _ (gA C) ⟨rfl,rfl⟩
 rw[an (λq=>q e5)];have kt:=Vf hLeft C.s f ⟨by omega,by omega⟩ ⟨by have:=hn.1;omega,by have:=hn.2;omega⟩;generalize i1 C.s f=R at kt⊢;obtain⟨e1,S1⟩:=R;simp only[aW]at kt;simp only[go_sem,dm,bF,aR];refine aO (eQ C) (by simp only[go_sem]) (by simp only[go_sem]) (by simp only[go_sem]) (by simp only[go_sem]) (by simp only[go_sem]) (by simp only[go_sem]) ?_;simp only[go_sem];refine ae (cn) ?_;simp only[go_sem,ac n2,ac n3,ac n4,ac n5,ac zA,ac n0,ac n12,ac n13,ac n14,ac n15,ac n26,ac n27,ac n209];refine ae (ct) ?_;simp only[go_sem,ay e5]
 repeat' (first|refine And.intro ?_ ?_|(refine aO (eQ C) (by simp only[go_sem]) (by simp only[go_sem]) (by simp only[go_sem]) (by simp only[go_sem]) (by simp only[go_sem]) (by simp only[go_sem]) ?_;simp only[go_sem,AL,xY]))
 all_goals
  refine aU (kt) (by simp only[go_sem]) (by simp only[go_sem]) (by simp only[go_sem]) (by simp only[go_sem]) ?_;simp only[go_sem];exact aZ [] _ (gA {C with s:=S1}) ⟨rfl,rfl⟩
end
open Go Go.Mw
structure vu(k:Nat)(C:Ct):Prop where
 u:C.s.u.length<=k+1
 l:C.s.all.length<=200*k
 b:C.bs.length<=k+1
 r:C.rs.length<=100
 t:∀b∈C.bs,b.t.ps.length<=100/\b.t.rs.length<=100
def vu.ok{k:Nat}{C:Ct}(h:vu k C)(hk:k<=2100):xC 600000 C:=⟨by have:=h.u;omega,by have:=h.l;omega,by have:=h.b;omega,by have:=h.r;omega,λb hb=>⟨by have:=(h.t b hb).1;omega,by have:=(h.t b hb).2;omega⟩⟩
def vu.mono{k:Nat}{C:Ct}(h:vu k C):vu (k+1) C:=⟨by have:=h.u;omega,by have:=h.l;omega,by have:=h.b;omega,h.r,h.t⟩
def vu.sk{k:Nat}{C:Ct}(h:vu k C){S:Sk}(h1:S.u.length<=k+2)(h2:S.all.length<=200*(k+1)):vu (k+1) {C with s:=S}:=⟨h1,h2,by have:=h.b;show C.bs.length<=_;omega,h.r,h.t⟩
def vu.top{k:Nat}{C:Ct}(h:vu k C)(h0:C.bs.length≠0):C.top.t.ps.length<=100/\C.top.t.rs.length<=100/\C.top∈C.bs:=by
 have hm:C.top∈C.bs:=by
  unfold Ct.top;rw[aY (by omega)];exact eH _
 exact⟨(h.t _ hm).1,(h.t _ hm).2,hm⟩
def vu.broke{k:Nat}{C:Ct}(h:vu k C)(e:Int):vu k (C.broke e).2:=⟨h.u,h.l,h.b,h.r,h.t⟩
def uY(S:Sk)(l:List Int):(S.push l).all.length=S.all.length+l.length/\(S.push l).u=S.u:=⟨by rw[dW,dN],rfl⟩
def O6{k:Nat}{C:Ct}(b:Bk)(h1:C.s.u.length<=k+1)(h2:C.s.all.length<=200*k)(h3:C.bs.length<=k+1)(h4:C.rs.length<=100)(h5:∀b∈C.bs,b.t.ps.length<=100/\b.t.rs.length<=100)(hb:b.t.ps.length<=100/\b.t.rs.length<=100):vu (k+1) (C.begin b):=by
 obtain⟨p1,p2⟩:=uY C.s.opn b.t.ps;refine⟨?_,?_,?_,h4,?_⟩
 .show(C.s.opn.push b.t.ps).u.length<=_;rw[p2];show C.s.u.length+1<=_;omega
 .show(C.s.opn.push b.t.ps).all.length<=_;rw[p1,oS];omega
 .show(C.bs++[b]).length<=_;rw[dN];simp only[i9,eG];omega
 .intro b' hb';rcases gW.1 hb' with q|q
  .exact h5 b' q
  .rw[fS.1 q];exact hb
def KA{k:Nat}{C:Ct}(h:vu k C)(op:Int)(t:Ft)(ht:t.ps.length<=100/\t.rs.length<=100):vu (k+1) (C.enter2 op t).2:=by
 obtain⟨w1,w2⟩:=ez C.s t.ps;have hu:=h.u;have hl:=h.l;unfold Ct.enter2;split
 .exact(h.sk (by rw[w1];omega) (by omega)).broke _
 .exact O6 (C:={C with s:=(C.s.want t.ps).2}) _ (by rw[w1];omega) (by show(C.s.want t.ps).2.all.length<=_;omega) h.b h.r h.t ht
def Zv{k:Nat}{C:Ct}(h:vu k C)(op:Int)(t:Ft)(ht:t.ps.length<=100/\t.rs.length<=100):vu (k+1) (C.enter op t).2:=by
 obtain⟨w1,w2⟩:=ez C.s [1];have hu:=h.u;have hl:=h.l;unfold Ct.enter;split
 .exact h.mono
 split
 .exact h.mono
 split
 .exact h.mono
 split
 .split
  .exact(h.sk (by rw[w1];omega) (by omega)).broke _
  .exact KA (C:={C with s:=(C.s.want [1]).2}) ⟨by show(C.s.want [1]).2.u.length<=_;rw[w1];exact hu,by show(C.s.want [1]).2.all.length<=_;omega,h.b,h.r,h.t⟩ op t ht
 .exact KA h op t ht
def aih{k:Nat}{C:Ct}(h:vu k C):vu (k+1) C.els.2:=by
 have hu:=h.u;have hl:=h.l;have hb:=h.b;unfold Ct.els;split
 .exact h.mono
 split
 .exact h.mono
 rename_i h1 h2;obtain⟨t1,t2,t3⟩:=h.top (λq=>h2 (.inl q));obtain⟨w1,w2⟩:=Bh C.s C.top.t.rs;split
 .exact(h.sk (by omega) (by omega)).broke _
 .exact O6 (C:={C with s:=(C.s.shut C.top.t.rs).2,bs:=C.bs.dropLast}) _ (by show(C.s.shut C.top.t.rs).2.u.length<=_;omega) (by show(C.s.shut C.top.t.rs).2.all.length<=_;omega) (by show C.bs.dropLast.length<=_;rw[List.length_dropLast];omega) h.r (λb hb=>h.t b (List.dropLast_subset _ hb)) ⟨t1,t2⟩
def Zw{k:Nat}{C:Ct}(h:vu k C):vu (k+1) C.leave.2:=by
 have hu:=h.u;have hl:=h.l;have hb:=h.b;unfold Ct.leave;split
 .exact h.mono
 split
 .exact h.mono
 rename_i h1 h2;obtain⟨t1,t2,t3⟩:=h.top h2;obtain⟨w1,w2⟩:=Bh C.s C.top.t.rs;have hd:∀b∈C.bs.dropLast,b.t.ps.length<=100/\b.t.rs.length<=100:=λb hb=>h.t b (List.dropLast_subset _ hb);have hdl:C.bs.dropLast.length<=k+2:=by rw[List.length_dropLast];omega
 split
 .exact(h.sk (by omega) (by omega)).broke _
 split
 .exact⟨show(C.s.shut C.top.t.rs).2.u.length<=k+1+1 by omega,show(C.s.shut C.top.t.rs).2.all.length<=200*(k+1)by omega,hdl,h.r,hd⟩
 .obtain⟨p1,p2⟩:=uY (C.s.shut C.top.t.rs).2 C.top.t.rs;exact⟨show((C.s.shut C.top.t.rs).2.push C.top.t.rs).u.length<=k+1+1 by rw[p2];omega,show((C.s.shut C.top.t.rs).2.push C.top.t.rs).all.length<=200*(k+1)by rw[p1];omega,hdl,h.r,hd⟩
def aax(S:Sk):S.loose.u=S.u/\S.loose.all.length<=S.all.length:=by
 refine⟨rfl,?_⟩;rw[jj,jj];show(bI S.u++[]).length<=_;simp only[dN];simp
def Uh{k:Nat}{C:Ct}(h:vu k C):vu k C.dead:=by
 obtain⟨w1,w2⟩:=aax C.s;unfold Ct.dead;split
 .exact h
 .exact⟨by show C.s.loose.u.length<=_;rw[w1];exact h.u,by have:=h.l;show C.s.loose.all.length<=_;omega,h.b,h.r,h.t⟩
def XL(S:Sk)(f:Ft):(i1 S f).2.u=S.u/\(i1 S f).2.all.length<=S.all.length+f.rs.length:=by
 obtain⟨w1,w2⟩:=ez S f.ps;unfold i1;split
 .exact⟨w1,by omega⟩
 .obtain⟨p1,p2⟩:=uY (S.want f.ps).2 f.rs;exact⟨by show((S.want f.ps).2.push f.rs).u=_;rw[p2,w1],by show((S.want f.ps).2.push f.rs).all.length<=_;rw[p1];omega⟩
def aan{k:Nat}{C:Ct}(h:vu k C)(i:Int):(C.label i).1.length<=100:=by
 unfold Ct.label;split
 .exact dx _
 split
 .exact dx _
 rename_i h1 h2;have hm:=h.t (av C.bs (C.bs.length-1-i.toNat)) (by rw[aY (by omega)];exact eH _);split
 .exact hm.1
 .exact hm.2
def Kz{k:Nat}{e:Int}{C:Ct}(h:vu k C):vu k (eP (e,C)).2:=by
 unfold eP;split
 .exact Uh h
 .exact h
def Ug{k:Nat}{C:Ct}(h:vu k C)(x:bj):vu (k+1) (eO C x).2:=by
 have hu:=h.u;have hl:=h.l;have lb:=aan h x.a;have rb:C.retn.length<=100:=by
  unfold Ct.retn;split
  .exact dx _
  .exact h.r
 unfold eO;dsimp only;have hL:(if x.op≠15/\x.op≠14 then C.label x.a else(C.retn,0)).1.length<=100:=by
  split
  .exact lb
  .exact rb
 generalize (if x.op≠15/\x.op≠14 then C.label x.a else(C.retn,0))=L at hL⊢;split
 .exact h.mono
 split
 .obtain⟨S,hS,t1,t2⟩:=Dc C x;generalize ey C x=Q at hS⊢;obtain⟨e,C1⟩:=Q;dsimp only at hS;subst hS;exact Kz (h.sk (by rw[t1];omega) (by omega))
 split
 .obtain⟨w1,w2⟩:=ez C.s [1];split
  .exact h.sk (by rw[w1];omega) (by omega)
  .obtain⟨q1,q2⟩:=XL (C.s.want [1]).2 ⟨L.1,L.1⟩;exact h.sk (by rw[q1,w1];omega) (by dsimp only at q2;omega)
 .obtain⟨w1,w2⟩:=ez C.s L.1;exact Kz (h.sk (by rw[w1];omega) (by omega))
def aa1(S:Sk)(a:Int):(zJ S a).2.u=S.u/\(zJ S a).2.all.length<=S.all.length+1:=by
 obtain⟨w1,w2⟩:=oU S;unfold zJ;split
 .exact⟨w1,by show S.pop.2.2.all.length<=_;omega⟩
 split
 .exact⟨w1,by show S.pop.2.2.all.length<=_;omega⟩
 .obtain⟨p1,p2⟩:=uY S.pop.2.2 [if a=0 then S.pop.1 else a];exact⟨by show(S.pop.2.2.push _).u=_;rw[p2,w1],by show(S.pop.2.2.push _).all.length<=_;rw[p1];simp only[i9,eG];omega⟩
def PG(S:Sk)(op:Int):(uW S op).2.u=S.u/\(uW S op).2.all.length<=S.all.length+1:=by
 obtain⟨w1,w2⟩:=oU S;unfold uW;split
 .exact⟨w1,by show S.pop.2.2.all.length<=_;omega⟩
 split
 .split
  .exact⟨w1,by show S.pop.2.2.all.length<=_;omega⟩
  .obtain⟨p1,p2⟩:=uY S.pop.2.2 [1];exact⟨by show(S.pop.2.2.push _).u=_;rw[p2,w1],by show(S.pop.2.2.push _).all.length<=_;rw[p1];simp only[i9,eG];omega⟩
 split
 .obtain⟨q1,q2⟩:=aa1 S.pop.2.2 S.pop.1;exact⟨by rw[q1,w1],by omega⟩
 .exact⟨w1,by show S.pop.2.2.all.length<=_;omega⟩
def afO(S:Sk)(op:Int):(f_ S op).2.u=S.u/\(f_ S op).2.all.length<=S.all.length+1:=by
 unfold f_;split
 .obtain⟨w1,w2⟩:=ez S [1];split
  .exact⟨w1,by omega⟩
  .obtain⟨q1,q2⟩:=PG (S.want [1]).2 op;exact⟨by rw[q1,w1],by omega⟩
 .exact PG S op
def O5{k:Nat}{C:Ct}(h:vu k C)(s:Sp)(hs:rK s)(lo:List Int)(x:bj):vu (k+1) (fE C s lo x).2:=by
 have hu:=h.u;have hl:=h.l;unfold fE;split
 .exact h.mono
 split
 .split
  .exact h.mono
  .rename_i f hf;exact Zv h _ _ (TA hs hf)
 split
 .exact aih h
 split
 .exact Zw h
 split
 .exact(Uh h).mono
 split
 .exact Ug h x
 split
 .obtain⟨q1,q2⟩:=afO C.s x.op;exact h.sk (by rw[q1];omega) (by omega)
 split
 .exact h.mono
 .have hn:=(JW hs lo x).2;obtain⟨q1,q2⟩:=XL C.s (i3 s lo x).1;exact h.sk (by rw[q1];omega) (by omega)
section
def PB(x:bj):yB none (cQ x)=some (.int .i64 x.op):=rfl
def LM(x:bj):yB (some 9) (cQ x)=some (.agg (cQ x)):=rfl
def LN(x:bj):(cQ x).length=9:=rfl
def LI(d:Nat)(x:bj):(cQ x).any (mC d)=false:=rfl
def LO(d:Nat)(x:bj):((cQ x).all λy=>!(mC d y))=true:=rfl
def LH(x:bj):(cQ x).all vO=true:=rfl
def LP(d:Nat)(x:bj):(cQ x).map (rC d)=cQ x:=rfl
def LJ(x:bj):(cQ x).flatMap iu=[]:=rfl
attribute[local go_sem high] PB LM LN LI LO LH LP LJ
def kI(B:List bj):Nat->List Int
 | 0=>List.replicate B.length (-1)
 | i+1=>if(av B i).op==11&&decide (0<=ym B i)then(kI B i).set (ym B i).toNat i else kI B i
def iC(B:List bj):Nat->List Int
 | 0=>List.replicate B.length (-1)
 | i+1=>if(av B i).op==5 then(iC B i).set (ym B i).toNat i else iC B i
def kG(B:List bj)(i:Nat):List Int:=(List.range i).map λj=>((bh B j).length:Int)
def nr(B:List bj)(i:Nat):List Int:=(List.range i).map λj=>ym B j
def rq(B:List bj):∀i,(kI B i).length=B.length
 | 0=>by simp[kI]
 | i+1=>by simp only[kI];split<;>simp[rq B i]
def oP(B:List bj):∀i,(iC B i).length=B.length
 | 0=>by simp[iC]
 | i+1=>by simp only[iC];split<;>simp[oP B i]
def V6(a b:Int)(i m:Nat)(h:0<m):(List.replicate i a++List.replicate m b).set i a=List.replicate (i+1) a++List.replicate (m-1) b:=by
 obtain⟨m,rfl⟩:∃k,m=k+1:=⟨m-1,by omega⟩
 rw[List.set_append_right _ _ (by simp)];simp only[List.length_replicate,Cc,XU,List.set_cons_zero,Nat.add_sub_cancel];rw[<-XU,List.replicate_succ'];simp
def C3(n:Nat)(hn:n<1073741824):bA pg K7 [.int .i64 n] [] (λid=>1000<=id/\id<2000) (λr σ'=>r = .ms 6 1 0 n/\σ'=[(6,⟨3,1,(List.replicate n (-1)).map ri,false⟩)]):=by
 refine b_ BA ?_;simp only[BA,go_sem];refine⟨by omega,?_⟩;refine aA (λi:Nat=>⟨[(9,.int .i64 i),(8,.int .i64 n),(3,.ms 6 1 0 n)],[(6,⟨3,1,(List.replicate i (-1)++List.replicate (n-i) 0).map ri,false⟩)]⟩) (λi=>i<=n) (λi=>n-i) 0 (dx _) (Wk.of ?_ ?_) ?_
 .simp[go_sem]
 .simp[go_sem]
 intro i hi;simp only[go_sem];refine⟨λh=>⟨by omega,by simp;omega,aH (i+1) (by omega) (by omega) (Wk.of ?_ ?_)⟩,λh=>done [] (.ms 6 1 0 n) [(6,⟨3,1,(List.replicate n (-1)).map ri,false⟩)] ?_ ?_ rfl ⟨rfl,rfl⟩⟩
 .simp[go_sem,wi (n:=i+1) (by omega) (by omega)]
 .simp only[go_sem,↓reduceIte,dk,V6 (-1) 0 i (n-i) (by omega),show n-i-1=n-(i+1)by omega]
 .simp[go_sem]
 .have:i=n:=by omega
  subst this;simp[go_sem]
def vA(B:List bj)(h:Int)(i:Nat):rp B h (i+1)=(rp B h i||(decide (h<i)&&(av B i).op==5&&decide (0<(bh B i).length)&&ym B i==h)):=by
 simp only[rp,List.range_succ,List.any_append,List.any_cons,List.any_nil,Bool.or_false]
def yn(B:List bj)(l:List Int):AV:=if(nchk B).2=0 then .sl 1 (l.map ri)else .nl
def GK(B:List bj)(i:Nat):kG B (i+1)=kG B i++[((bh B i).length:Int)]:=by simp[kG,List.range_succ]
def Jl(B:List bj)(i:Nat):nr B (i+1)=nr B i++[ym B i]:=by simp[nr,List.range_succ]
def nq(B:List bj)(i:Nat):(kG B i).length=i:=by simp[kG]
def oQ(B:List bj)(i:Nat):(nr B i).length=i:=by simp[nr]
def nrk(p:Int×Bool):List AV:=[.int .i64 p.1,.bool p.2]
def ai4(p:Int×Bool):nrk p=[.int .i64 p.1,.bool p.2]:=rfl
attribute[local go_sem] ai4
def kH(B:List bj)(i:Nat):List Int:=kG B i++List.replicate (B.length-i) (-1)
def nt(B:List bj)(i:Nat):List Int:=nr B i++List.replicate (B.length-i) (-1)
def j8(B:List bj)(i:Nat):List (Int×Bool):=(bh B i).map λh=>(h,rp B h i)
def A7(B:List bj):AV:=.tup [.agg [yn B (kI B B.length),yn B (iC B B.length),yn B (kG B B.length),yn B (nr B B.length)],.int .i64 (nchk B).1,.int .i64 (nchk B).2]
def ep{B:List bj}{a e:Int}(h:nchk B=(a,e))(he:e≠0):A7 B = .tup [.agg [.nl,.nl,.nl,.nl],.int .i64 a,.int .i64 e]:=by simp[A7,yn,h,he]
def HB{B:List bj}(h:nchk B=(0,0)):A7 B = .tup [.agg [.sl 1 ((kI B B.length).map ri),.sl 1 ((iC B B.length).map ri),.sl 1 ((kG B B.length).map ri),.sl 1 ((nr B B.length).map ri)],.int .i64 0,.int .i64 0]:=by simp[A7,yn,h]
def acJ{l:List Int}{i n:Nat}{x:Int}(hl:l.length=i)(hi:i<n):(l++List.replicate (n-i) (-1)).set i x=(l++[x])++List.replicate (n-(i+1)) (-1):=by
 subst hl;rw[List.set_append_right _ _ (aQ _),Cc,show n-l.length=(n-(l.length+1))+1 by omega,XU,List.set_cons_zero];simp
def lJ{B:List bj}{i:Nat}(hi:i<B.length):(kH B i).set i ((bh B i).length:Int)=kH B (i+1):=by
 rw[kH,acJ (nq B i) hi,<-GK,kH]
def nu{B:List bj}{i:Nat}(hi:i<B.length):(nt B i).set i (ym B i)=nt B (i+1):=by
 rw[nt,acJ (oQ B i) hi,<-Jl,nt]
def EL(B:List bj)(i:Nat):(j8 B i).length=(bh B i).length:=by simp[j8]
def V9{B:List bj}{i:Nat}{J:List (Int×Bool)}(h:0<(bh B i).length):av (j8 B i++J) ((bh B i).length-1)=(ym B i,rp B (ym B i) i):=by
 rw[HE (by rw[EL];omega),j8,Js (by omega)];rfl
def vz{B:List bj}{h:Int}{i:Nat}(h5:((av B i).op==5)=false):rp B h (i+1)=rp B h i:=by rw[vA,h5];simp
def V2{B:List bj}{i:Nat}:rp B i (i+1)=false:=by
 simp only[rp,MD];intro j hj;simp at hj⊢;omega
def RC{B:List bj}{i:Nat}(h5:((av B i).op==5)=false)(hb:Fx (av B i).op=true):j8 B (i+1)=j8 B i++[((i:Int),false)]:=by
 have hi0:rp B i i=false:=by rw[<-vz h5];exact V2
 simp only[j8,bh,ql,hb,dR,dY,cM,eA,vz h5,hi0]
def V8{B:List bj}{i:Nat}(h5:((av B i).op==5)=false)(hb:Fx (av B i).op=false)(h11:((av B i).op==11)=true):j8 B (i+1)=(j8 B i).dropLast:=by
 simp only[j8,bh,ql,hb,h11,dR,lD,ij,vz h5,List.map_dropLast]
def RE{B:List bj}{i:Nat}(h5:((av B i).op==5)=false)(hb:Fx (av B i).op=false)(h11:((av B i).op==11)=false):j8 B (i+1)=j8 B i:=by
 simp only[j8,bh,ql,hb,h11,lD,ij,vz h5]
def RB{B:List bj}{i:Nat}(hne:∀j,j<i->0<(bh B j).length)(h0:0<(bh B i).length)(hh:ym B i<i)(h5:((av B i).op==5)=true):j8 B (i+1)=(j8 B i).set ((bh B i).length-1) (ym B i,true):=by
 have h5':(av B i).op=5:=by simpa using h5
 have hr:bh B (i+1)=bh B i:=by simp[bh,ql,Fx,h5']
 refine List.ext_getElem (by simp[j8,hr]) λk h1 h2=>?_;have hk:k<(bh B i).length:=by rw[EL,hr]at h1;exact h1
 simp only[j8,List.getElem_map,hr,List.getElem_set];by_cases hkl:(bh B i).length-1=k
 .subst hkl;rw[az rfl];have:(bh B i)[(bh B i).length-1]=ym B i:=(aY hk).symm;rw[this,vA,h5];simp[hh,h0]
 .rw[an hkl,vA,h5];have:(ym B i==(bh B i)[k])=false:=by
   rw[OD];intro he;rcases HA hne h0 with⟨g1,_⟩|⟨_,j,g2,g3,g4,_⟩
   .omega
   .have hkj:k<(bh B j).length:=by rw[g4,vm];omega
    have e1:av (bh B j) k=(bh B i)[k]:=by rw[g4,Mw.LT (by omega),aY hk]
    rcases yo B j (λm hm=>hne m (by omega)) k hkj with⟨_,g5⟩|⟨_,m,g5,g6,_⟩<;>omega
  rw[this];simp
def HD(B:List bj):∀i,(∀j,j<i->gB B j=0)->(bh B i).length<=32
 | 0,_=>by simp[bh]
 | i+1,he=>by
  have ih:=HD B i (λj hj=>he j (by omega));have:=(V3 (he i (by omega))).2;simp only[bh,ql];split
  .rename_i hb;rw[hb]at this;simp at this⊢;omega
  .split
   .simp;omega
   .exact ih
def V7(id row:Nat)(t:TypeId)(l:List (Int×Bool)):Ms id 1 2 row 1 (some ⟨t,2,l.map nrk,false⟩) (some [.bool true])=if row<l.length then some (.put id ⟨t,2,(l.set row ((av l row).1,true)).map nrk,false⟩)else none :=
 Fi id 1 2 row 1 t nrk l [.bool true] (λp=>(p.1,true)) rfl rfl (λ_=>aQ 2) (λ_=>rfl)
def aaJ(B:List bj)(hn:B.length<1000000):aj pg K6 [.sl 9 (B.map cQ)] (A7 B):=by
 refine ao Bz ?_;simp only[Bz,go_sem];refine zh (C3 B.length (by omega)) rfl (by simp[go_sem]) 901 (by omega) (by simp[go_sem]) ?_;simp only[go_sem];refine zh (C3 B.length (by omega)) rfl (by simp[go_sem]) 902 (by omega) (by simp[go_sem]) ?_;simp only[go_sem];refine zh (C3 B.length (by omega)) rfl (by simp[go_sem]) 903 (by omega) (by simp[go_sem]) ?_;simp only[go_sem];refine zh (C3 B.length (by omega)) rfl (by simp[go_sem]) 904 (by omega) (by simp[go_sem]) ?_;simp only[go_sem]
 refine aA (λq:Nat×List (Int×Bool)=>⟨[(26,.int .i64 q.1),(25,.int .i64 B.length),(24,.sl 9 (B.map cQ)),(7,.ms 23 2 0 (bh B q.1).length),(6,.mp 6 4 0 0),(5,.int .i64 B.length),(2,.mp 2 4 0 0),(0,.sl 9 (B.map cQ))],
   [(23,⟨256,2,(j8 B q.1++q.2).map nrk,false⟩),(6,⟨208,4,[[.ms 901 1 0 B.length,.ms 902 1 0 B.length,.ms 903 1 0 B.length,.ms 904 1 0 B.length]],true⟩),
      (904,⟨3,1,(nt B q.1).map ri,false⟩),(903,⟨3,1,(kH B q.1).map ri,false⟩),(902,⟨3,1,(iC B q.1).map ri,false⟩),(901,⟨3,1,(kI B q.1).map ri,false⟩),(2,⟨208,4,[[.nl,.nl,.nl,.nl]],true⟩)]⟩)
  (λq=>q.1<=B.length/\∀j,j<q.1->gB B j=0) (λq=>B.length-q.1) (0,[]) ⟨dx _,λj hj=>absurd hj (Nat.not_lt_zero _)⟩ (Wk.of ?_ ?_) ?_
 .simp[go_sem,bh]
 .simp[go_sem,j8,bh,nt,kH,nr,kG,kI,iC,rp]
 rintro⟨i,J⟩ ⟨hi,he⟩;replace hi:i<=B.length:=hi;replace he:∀j,j<i->gB B j=0:=he;have hl:=uV B i;have hsl:=EL B i;have hdl:(kH B i).length=B.length:=by simp[kH,nq];omega
 have hhl:(nt B i).length=B.length:=by simp[nt,oQ];omega
 have hw:(IntKind.i64.wrap (↑(bh B i).length-1))=((bh B i).length:Int)-1:=wi (by omega) (by omega);have hnt:((bh B i).length-1:Int).toNat=(bh B i).length-1:=by omega
 have hne:∀j,j<i->0<(bh B j).length:=λj hj=>Py (he j hj);rcases kU i B.length with hlt|hge
 .have hd1:decide ((i:Int)<(B.length:Int))=true:=by simp;omega
  by_cases h0:(bh B i).length=0
  .have h0':(((bh B i).length:Int)==0)=true:=by simp[h0]
   have h16:gB B i=16:=by simp only[gB,h0,dR]
   have hc:nchk B=((i:Int),16):=by rw[vy hlt he (by rw[h16];decide),h16]
   simp only[go_sem,hd1,h0'];refine⟨by omega,by omega,aq [] ?_ ?_⟩
   .rw[ep hc (by decide)];simp[go_sem]
   .rw[ep hc (by decide)];rfl
  have h0':(((bh B i).length:Int)==0)=false:=by simp;exact λh=>h0 (by simp[h])
  have hp:0<(bh B i).length:=by omega
  obtain⟨hb1,hb2⟩:=EI hne hp;have htop:=V9 (J:=J) hp;have herr:∀e:Int,e≠0->gB B i=e->nchk B=((i:Int),e):=λe h1 h2=>by rw[vy hlt he (by rw[h2];exact h1),h2]
  have hsucc:gB B i=0->∀j,j<i+1->gB B j=0:=λh0 j hj=>by
   rcases Nat.lt_or_eq_of_le (Nat.le_of_lt_succ hj)with h1|h1
   .exact he j h1
   .rw[h1];exact h0
  have happ:=λys=>G0 23 256 2 (bh B i).length nrk (j8 B i++J) ys (by simp[hsl]);have htk:List.take (bh B i).length (j8 B i++J)=j8 B i:=by rw[<-hsl];simp
  have hwi:=wi (n:=(i:Int)+1) (by omega) (by omega);by_cases hb:Fx (av B i).op=true
  .have h5:((av B i).op==5)=false:=by simp[Fx]at hb⊢;omega
   have hbe:cD B i=false:=by simp[cD,h5]
   have key:∀b2 b3 b4:Bool,((av B i).op==2)=b2->((av B i).op==3)=b3->((av B i).op==4)=b4->(b2||b3||b4)=true->True:=λ_ _ _ _ _ _ _=>trivial;have hop:(av B i).op=2\/(av B i).op=3\/(av B i).op=4:=by simp[Fx]at hb;omega
   by_cases h32:(bh B i).length=32
   .have h32':(((bh B i).length:Int)==32)=true:=by simp[h32]
    have hc:=herr 6 (by decide) (by simp only[gB,an h0,hbe,hb];simp[h32]);rcases hop with hop|hop|hop
    all_goals
     simp only[go_sem,hd1,h0',hw,hnt,htop,hop,Int.reduceBEq,h32'];refine⟨by omega,by omega,by omega,by omega,by omega,by simp;omega,by omega,by omega,aq [] ?_ ?_⟩
     .rw[ep hc (by decide)];simp[go_sem]
     .rw[ep hc (by decide)];rfl
   .have h32':(((bh B i).length:Int)==32)=false:=by simp;omega
    have hlt32:(bh B i).length<32:=by have:=HD B i he;omega
    have he0:gB B i=0:=by simp only[gB,an h0,hbe,hb];simp;omega
    rcases hop with hop|hop|hop
    all_goals
     have hpu:=RC h5 hb;simp only[go_sem,hd1,h0',hw,hnt,htop,hop,Int.reduceBEq,h32',happ,htk,lJ hlt,nu hlt];refine⟨by omega,by omega,by omega,by omega,by omega,by simp;omega,by omega,by omega,by omega,aH (i+1,[]) ⟨show i+1<=B.length by omega,hsucc he0⟩ (show B.length-(i+1)<B.length-i by omega) (Wk.of ?_ ?_)⟩
     .simp[go_sem,hwi,bh,ql,hb]
     .simp[go_sem,hpu,kI,iC,hop]
  .have hb':Fx (av B i).op=false:=by simpa using hb
   have h2:((av B i).op==2)=false:=by simp[Fx]at hb';simp[hb']
   have h3:((av B i).op==3)=false:=by simp[Fx]at hb';simp[hb']
   have h4:((av B i).op==4)=false:=by simp[Fx]at hb';simp[hb']
   by_cases h5:((av B i).op==5)=true
   .have h11:((av B i).op==11)=false:=by simp at h5⊢;omega
    have hr:bh B (i+1)=bh B i:=by simp[bh,ql,hb',h11]
    have hel:=RB hne hp hb2 h5;have hns:av ((j8 B i++J).set ((bh B i).length-1) (ym B i,true)) ((bh B i).length-1)=(ym B i,true):=Jt (by simp;omega);simp only[go_sem,hd1,h0',hw,hnt,htop,h2,h3,h4,h5,V7,hns,lJ hlt,nu hlt];have hbad:cD B i=true->nchk B=((i:Int),16):=λhbe=>herr 16 (by decide) (by simp only[gB,an h0,hbe,dR]);refine⟨by omega,by omega,by omega,by omega,by omega,by simp;omega,by omega,by omega,by simp;omega,λhneg=>aq [] ?_ ?_,λhneg=>⟨by simp;omega,by omega,by omega,λh4'=>aq [] ?_ ?_,λh4'=>⟨by simp;omega,λhels=>aq [] ?_ ?_,λhels=>⟨by simp;omega,by simp;omega,by omega,?_,aH (i+1,J) ⟨show i+1<=B.length by omega,hsucc ?_⟩ (show B.length-(i+1)<B.length-i by omega) (Wk.of ?_ ?_)⟩⟩⟩⟩
    .rw[ep (hbad (by simp[cD,h5,hneg])) (by decide)];simp[go_sem]
    .rw[ep (hbad (by simp[cD,h5,hneg])) (by decide)];rfl
    .rw[ep (hbad (by simp[cD,h5,h4'])) (by decide)];simp[go_sem]
    .rw[ep (hbad (by simp[cD,h5,h4'])) (by decide)];rfl
    .rw[ep (hbad (by simp[cD,h5,hels])) (by decide)];simp[go_sem]
    .rw[ep (hbad (by simp[cD,h5,hels])) (by decide)];rfl
    .rw[oP];omega
    .have hbe:cD B i=false:=by simp[cD,h4',hels];intro _;omega
     simp only[gB,an h0,hbe,hb'];rfl
    .simp[go_sem,hwi,hr]
    .have e1:(j8 B i++J).set ((bh B i).length-1) (ym B i,true)=(j8 B i).set ((bh B i).length-1) (ym B i,true)++J:=List.set_append_left _ _ (by omega);simp only[go_sem,hel,e1,kI,iC,h11,h5,dF,lD]
   .have h5':((av B i).op==5)=false:=by simpa using h5
    have hbe:cD B i=false:=by simp[cD,h5']
    have he0:gB B i=0:=by simp only[gB,an h0,hbe,hb'];rfl
    by_cases h11:((av B i).op==11)=true
    .have hpo:=V8 h5' hb' h11;have hr:bh B (i+1)=(bh B i).dropLast:=by simp[bh,ql,hb',h11]
     have e1:j8 B i++J=(j8 B i).dropLast++((j8 B i).drop ((bh B i).length-1)++J):=by
      rw[List.dropLast_eq_take,hsl,<-vk,XW]
     simp only[go_sem,hd1,h0',hw,hnt,htop,h2,h3,h4,h5',h11,lJ hlt,nu hlt];refine⟨by omega,by omega,by omega,by omega,by omega,by simp;omega,by omega,by omega,by simp;omega,λhge=>⟨by simp;omega,by omega,?_,by omega,aH (i+1,(j8 B i).drop ((bh B i).length-1)++J) ⟨show i+1<=B.length by omega,hsucc he0⟩ (show B.length-(i+1)<B.length-i by omega) (Wk.of ?_ ?_)⟩,λhge=>⟨by omega,aH (i+1,(j8 B i).drop ((bh B i).length-1)++J) ⟨show i+1<=B.length by omega,hsucc he0⟩ (show B.length-(i+1)<B.length-i by omega) (Wk.of ?_ ?_)⟩⟩
     .rw[rq];omega
     .simp[go_sem,hwi,hr]
     .have hge':decide (0<=ym B i)=true:=by simp;omega
      simp only[go_sem,hpo,<-e1,kI,iC,h11,h5',hge',lD,Bool.and_self]
     .simp[go_sem,hwi,hr]
     .have hge':decide (0<=ym B i)=false:=by simp;omega
      simp only[go_sem,hpo,<-e1,kI,iC,h11,h5',hge',lD,Bool.and_false]
    .have h11':((av B i).op==11)=false:=by simpa using h11
     have hsm:=RE h5' hb' h11';have hr:bh B (i+1)=bh B i:=by simp[bh,ql,hb',h11']
     simp only[go_sem,hd1,h0',hw,hnt,htop,h2,h3,h4,h5',h11',lJ hlt,nu hlt];refine⟨by omega,by omega,by omega,by omega,by omega,by simp;omega,by omega,by omega,aH (i+1,J) ⟨show i+1<=B.length by omega,hsucc he0⟩ (show B.length-(i+1)<B.length-i by omega) (Wk.of ?_ ?_)⟩
     .simp[go_sem,hwi,hr]
     .simp only[go_sem,hsm,kI,iC,h11',h5',lD,dF]
 .have hd1:decide ((i:Int)<(B.length:Int))=false:=by simp;omega
  have hiB:i=B.length:=by omega
  subst hiB;simp only[go_sem,hd1];have hc:=LE he;refine⟨λhp=>aq [] ?_ ?_,λhp=>aq [901,902,903,904] ?_ ?_⟩
  .rw[az (by omega)]at hc;rw[ep hc (by decide)];simp[go_sem]
  .rw[az (by omega)]at hc;rw[ep hc (by decide)];rfl
  .rw[an (by omega)]at hc;rw[HB hc];simp[go_sem,rq,oP,nq,oQ,kH,nt];exact⟨iF (by simp[rq]),iF (by simp[oP]),iF (by simp[nq]),iF (by simp[oQ])⟩
  .rw[an (by omega)]at hc;rw[HB hc];rfl
def V4(B:List bj)(hn:B.length<1000000):aj pg IG [.sl 9 (B.map cQ)] (.tup [.int .i64 (nchk B).1,.int .i64 (nchk B).2]):=by
 refine ao yG ?_;simp only[yG,go_sem];refine ae (aaJ B hn) ?_;by_cases h:(nchk B).2=0
 all_goals
  simp only[A7,yn,h,go_sem];refine aq [] ?_ rfl;simp[go_sem,h]
end
section
def VS(m:Md):ba m = .agg (nX m):=rfl
attribute[local go_sem] bY zW zY zZ zX qx BW pW aW bV cQ acY ah2 ah3 zn zo VS aM eY
def Xi(m:Md)(s:Sp)(n:Nat)(h:Fp s)(hn:n<m.fs.length)(hl:m.fs.length<=9000000):aj pg NM [ba m,tg s,.int .i64 n] (.tup [.agg (pt ((s.ty (av m.fs n).t).getD default)),.bool (s.ty (av m.fs n).t).isSome]):=by
 refine ao Dk ?_;have c1:=JL s (av m.fs n).t h;have h0:¬((n:Int)<0):=by omega
 have h1:¬((n:Int)>=(m.fs.length:Int)):=by omega
 have h2:(n:Int)<(m.fs.length:Int):=by omega
 simp only[bF,aR,aW]at c1;simp only[go_sem,Dk,bF,aR,aI h0,aI h1,cL];refine⟨by omega,h2,?_⟩;refine aa (c1) ?_;exact ah
def R4(m:Md)(s:Sp)(n:Nat)(h:Fp s)(hn:n<m.fs.length)(hl:m.fs.length<=9000000)(hlo:(av m.fs n).lo.length<=1000000):aj pg FK [ba m,tg s,.int .i64 n] (.tup [.sl 1 ((if(s.ty (av m.fs n).t).isSome=true then((s.ty (av m.fs n).t).getD default).ps++(av m.fs n).lo else[]).map aS),.bool (s.ty (av m.fs n).t).isSome]):=by
 refine ao wz ?_;have c1:=Xi m s n h hn hl;have h2:(n:Int)<(m.fs.length:Int):=by omega
 have hb:=Sj h (av m.fs n).t;generalize s.ty (av m.fs n).t=q at c1 hb⊢;simp only[bF,aR,aW,VS,aM]at c1;simp only[go_sem,wz,bF,aR];refine ae (c1) ?_;cases q with
 | none =>
  simp only[go_sem,Option.isSome_none];exact dB (Wk.nls _ 6 1 (by rfl)) [] (by rfl) rfl
 | some f =>
  simp only[cG]at hb;obtain⟨hb1,hb2⟩:=hb;have ha:=cC 22 48 1 f.ps.length aS f.ps ((av m.fs n).lo.map aS) rfl;have et:(f.ps.map aS++(av m.fs n).lo.map aS).take (f.ps.length+(av m.fs n).lo.length)=(f.ps++(av m.fs n).lo).map aS:=by
   rw[iF (by simp),dY]
  simp only[go_sem,Option.isSome_some,cG];simp only[go_sem,ha,cL];refine⟨by omega,by omega,h2,⟨by omega,by omega⟩,?_⟩;exact aq [22] (by simp only[go_sem,et,aQ,fo,dk,dN]) (by rfl)
def air(C:Ct):H2 n7 [] C (.tup []) C:=by
 refine b_ tu ?_;simp only[go_sem,tu];exact lu [] _ (gA C) (by rfl) (by exact⟨rfl,rfl,rfl,rfl,rfl,trivial⟩) rfl ⟨rfl,rfl⟩
def Qh(s:Sp)(lo:List Int)(C:Ct){l:List bj}{j:Nat}(h:j<l.length):z_ s lo j (l.drop j) C=if(fE C s lo (av l j)).1≠0 then((j:Int),(fE C s lo (av l j)).1)else if(fE C s lo (av l j)).2.s.ov=true then((j:Int),6)else z_ s lo (j+1) (l.drop (j+1)) (fE C s lo (av l j)).2:=by
 rw[dV h,z_]
structure bdB(f:Cd):Prop where
 lo:f.lo.length<=64
 b:f.b.length<=2048
 i:∀x∈f.b,C_ x/\x.lb.length<=64
def abu(hLeft:fK)(m:Md)(s:Sp)(n:Nat)(hs:rK s)(hn:n<m.fs.length)(hl:m.fs.length<=9000000)(hf:bdB (av m.fs n)):aj pg KZ [ba m,tg s,.int .i64 n,.fn n7 []] (.tup [.int .i64 (iw m s (av m.fs n)).1,.int .i64 (iw m s (av m.fs n)).2]):=by
 refine ao Bw ?_;have c1:=Xi m s n hs.sm hn hl;have c2:=R4 m s n hs.sm hn hl (by have:=hf.lo;omega);have h2:(n:Int)<(m.fs.length:Int):=by omega
 have hty:=λt=>Sl hs (av m.fs n).t (f:=t);have cn:=V4 (av m.fs n).b (by have:=hf.b;omega);obtain⟨T,hT⟩:∃T,iw m s (av m.fs n)=T:=⟨_,rfl⟩
 rw[hT];unfold iw at hT;generalize s.ty (av m.fs n).t=q at c1 c2 hT hty;simp only[bF,aR,aW,VS,aM]at c1 c2;simp only[go_sem,Bw,bF,aR];refine ae (c2) ?_;cases q with
 | none =>
  dsimp only at hT;subst hT;simp only[go_sem,Option.isSome_none];exact aw
 | some t =>
  dsimp only at hT;obtain⟨ht1,ht2⟩:=hty t rfl;simp only[Option.isSome_some,cG,dR]at c1;have hlo:=hf.lo;have hbl:=hf.b;have hbi:=hf.i;generalize hF:av m.fs n=F at*;obtain⟨lo,hloE⟩:∃lo,t.ps++F.lo=lo:=⟨_,rfl⟩
  have hlol:lo.length<=200:=by rw[<-hloE,dN];omega
  rw[hloE]at hT;simp only[go_sem,Option.isSome_some,cG,hloE,hF,cL];refine⟨by omega,h2,?_⟩;refine ae (cn) ?_;by_cases e1:(nchk F.b).2=0;rotate_left
  .rw[az e1]at hT;subst hT;simp only[go_sem,aE e1];exact aw
  rw[an (λq=>q e1)]at hT;simp only[go_sem,ay e1];refine aa (c1) ?_;refine gZ (aeL t.rs (by omega)) [901,902,2000,2001,2002] (λp hp=>by cases hp) ?_ (λp hp=>by cases hp) ?_
  .intro p hp;simp only[TS,bM,cH,or_false]at hp;rcases hp with rfl|rfl|rfl|rfl|rfl
   .exact .inr ⟨by simp,.inl (show 901<1000 by decide),.inr rfl⟩
   .exact .inr ⟨by simp,.inr (show 2000<=2000 by decide),.inr rfl⟩
   .exact .inr ⟨by simp,.inl (show 902<1000 by decide),.inr rfl⟩
   .exact .inr ⟨by simp,.inr (show 2000<=2001 by decide),.inr rfl⟩
   .exact .inr ⟨by simp,.inr (show 2000<=2002 by decide),.inr rfl⟩
  simp only[go_sem];refine aA (λq:Nat×Ct=>⟨[(58,.int .i64 q.1),(57,.int .i64 F.b.length),(17,.mp 901 5 0 0),(12,.sl 9 (F.b.map cQ)),(10,.sl 1 (lo.map aS)),(3,.fn n7 []),(1,tg s)],TS q.2⟩)
   (λq=>q.1<=F.b.length/\vu q.1 q.2/\z_ s lo q.1 (F.b.drop q.1) q.2=T) (λq=>F.b.length-q.1) (0,BY t.rs) ⟨dx _,?_,hT⟩ (Wk.of ?_ ?_) ?_
  .refine⟨aQ 1,aQ 0,aQ 1,ht2,λb hb=>?_⟩;rw[fS.1 hb];exact⟨dx _,by show t.rs.length<=100;omega⟩
  .simp only[go_sem,bF,aR];try simp
  .simp only[go_sem];try rfl
  rintro⟨j,C⟩ ⟨hj,hg,hx⟩;dsimp only at hj hg hx;by_cases h1:(j:Int)<(F.b.length:Int);rotate_left
  .rw[a_ (by omega)]at hx;simp only[z_]at hx;subst hx;simp only[go_sem,aI h1];exact aw
  have hj':j<F.b.length:=by omega
  have e8:=cK hj' (by omega);rw[Qh s lo C hj']at hx;have hxm:=hbi (av F.b j) (by rw[aY hj'];exact eH _);have ka:=Z8 hLeft C s lo (av F.b j) (hg.ok (by omega)) hs (by omega) hxm.1 (by omega);have hg2:=O5 hg s hs lo (av F.b j);simp only[bV]at ka;generalize fE C s lo (av F.b j)=R at ka hx hg2;obtain⟨e,C2⟩:=R;dsimp only at ka hx hg2;simp only[go_sem,aF h1,bF,aR];rw[az (by decide)];refine⟨by kernel_rfl,?_⟩;refine Ib (r3:=.tup []) (air C) rfl rfl rfl (by simp only[go_sem]) (by simp only[go_sem]) (by simp only[go_sem]) (by simp only[go_sem]) (by simp only[go_sem]) ?_;simp only[go_sem];refine⟨by omega,h1,?_⟩;refine Ib (r3:=.int .i64 e) ka rfl rfl rfl (by simp only[go_sem]) (by simp only[go_sem]) (by simp only[go_sem]) (by simp only[go_sem]) (by simp only[go_sem]) ?_;by_cases e2:e=0;rotate_left
  .rw[az e2]at hx;subst hx;simp only[go_sem,aE e2];exact aw
  rw[an (λq=>q e2)]at hx;simp only[go_sem,ay e2];refine Ib (r3:=.mp 902 3 0 0) (eQ C2) rfl rfl rfl (by simp only[go_sem]) (by simp only[go_sem]) (by simp only[go_sem]) (by simp only[go_sem]) (by simp only[go_sem]) ?_;simp only[go_sem];refine OO (r3:=.bool C2.s.ov) (aeO C2.s) rfl rfl rfl (by simp only[go_sem]) (by simp only[go_sem]) (by simp only[go_sem]) ?_;cases e3:C2.s.ov;rotate_left
  .rw[az e3]at hx;subst hx;simp only[go_sem,e3];exact aw
  rw[an (by rw[e3];decide)]at hx;simp only[go_sem,e3];refine aH (j+1,C2) ⟨show j+1<=F.b.length by omega,hg2,hx⟩ (show F.b.length-(j+1)<F.b.length-j by omega) (Wk.of ?_ ?_)
  .simp only[go_sem,e8];try simp
  .simp only[go_sem,e3];try rfl
def Xf(hLeft:fK)(m:Md)(s:Sp)(n:Nat)(hs:rK s)(hn:n<m.fs.length)(hl:m.fs.length<=9000000)(hf:bdB (av m.fs n)):aj pg IC [ba m,tg s,.int .i64 n] (.tup [.int .i64 (iw m s (av m.fs n)).1,.int .i64 (iw m s (av m.fs n)).2]):=by
 refine ao yE ?_;have c1:=abu hLeft m s n hs hn hl hf;simp only[bF,aR,VS,aM]at c1;simp only[go_sem,yE,bF,aR];refine aa (c1) ?_;exact ah
end
section
attribute[local go_sem] bY B4 aM bF aR aW bT KP oG gC nP iQ fZ iB fM fY
def adY(m:Md)(s:Sp)(hb:m.gs.length<=1000000)(hi1:∀g∈m.gs,g.i.length<=1000000):Dj qf Sz m s eC (m.gs.map λg=>dD s g.i g.g.v):=by
 intro i hi _ F hF;rw[bY]at hi;rw[qn _ hi];refine b_ jY ?_;have hX2:=hi1 (av m.gs i) (by rw[aY hi];exact eH _);generalize hX:av m.gs i=X at hX2;have kt:=zt m s F X.i X.g.v hX2;have hi2:(i:Int)<(m.gs.length:Int):=by omega
 generalize dD s X.i X.g.v=R at kt⊢;simp only[go_sem,jY,Sz,eC,cL,hX];refine⟨by omega,hi2,by omega,hi2,?_⟩;refine lH kt (by simp only[go_sem]) (by simp only[go_sem]) ?_;simp only[go_sem];exact aZ [] _ [(1000,gS m s F),(1001,vw)] ⟨rfl,rfl⟩
def ad0(m:Md)(s:Sp)(h:rK s):Dj qg Sz m s eC [CJ s m.st]:=by
 intro i hi _ F hF;have hi0:i=0:=by simp at hi;omega
 subst hi0;rw[show av [CJ s m.st] 0=CJ s m.st from rfl];refine b_ jZ ?_;have c1:=Xc s m.st h.sm;have hn:=λf=>aif h (i:=m.st) (f:=f);unfold CJ;generalize s.fn m.st=q at c1 hn⊢;simp only[bF,aR,aW]at c1;simp only[go_sem,jZ,Sz,eC];refine ax c1 (by simp[go_sem]) rfl ?_;cases q with
 | none =>
  simp only[go_sem,Option.isSome_none];exact aZ [] _ [(1000,gS m s F),(1001,vw)] ⟨rfl,rfl⟩
 | some f =>
  obtain⟨h1,h2⟩:=hn f rfl;have hw:IntKind.i64.wrap ((f.ps.length:Int)+f.rs.length)=((f.ps.length+f.rs.length:Nat):Int):=by rw[wi (by omega) (by omega)];omega
  dsimp only;by_cases g:((f.ps.length+f.rs.length:Nat):Int)>0
  .rw[az (by omega)];simp only[go_sem,Option.isSome_some,cG,hw,aF g];exact aZ [] _ [(1000,gS m s F),(1001,vw)] ⟨rfl,rfl⟩
  .rw[an (by omega)];simp only[go_sem,Option.isSome_some,cG,hw,aI g];exact aZ [] _ [(1000,gS m s F),(1001,vw)] ⟨rfl,rfl⟩
def ad1(m:Md)(s:Sp)(hb:m.ds.length<=1000000)(hi1:∀d∈m.ds,d.o.length<=1000000):Dj pA Sz m s eC (m.ds.map (CI s)):=by
 intro i hi _ F hF;rw[bY]at hi;rw[qn _ hi];refine b_ jx ?_;have hX2:=hi1 (av m.ds i) (by rw[aY hi];exact eH _);generalize hX:av m.ds i=X at hX2;have kt:=zt m s F X.o 1 hX2;have kh:=Pj m s F 2 X.me;have hi2:(i:Int)<(m.ds.length:Int):=by omega
 obtain⟨T,hT⟩:∃T,CI s X=T:=⟨_,rfl⟩
 rw[hT];unfold CI at hT;generalize dD s X.o 1=R at kt hT;simp only[go_sem,jx,Sz,eC,cL,hX];refine⟨by omega,hi2,?_⟩;by_cases h1:X.mo=0;rotate_left
 .rw[az h1]at hT;subst hT;simp only[go_sem,aE h1];exact aZ [] _ [(1000,gS m s F),(1001,vw)] ⟨rfl,rfl⟩
 rw[an (λq=>q h1)]at hT;simp only[go_sem,ay h1];refine lH kh (by simp only[go_sem]) (by simp only[go_sem]) ?_;cases h2:mD s 2 X.me
 .rw[az h2]at hT;subst hT;simp only[go_sem];exact aZ [] _ [(1000,gS m s F),(1001,vw)] ⟨rfl,rfl⟩
 rw[an (by rw[h2];decide)]at hT;subst hT;simp only[go_sem];refine lH kt (by simp only[go_sem]) (by simp only[go_sem]) ?_;simp only[go_sem];exact aZ [] _ [(1000,gS m s F),(1001,vw)] ⟨rfl,rfl⟩
def U4(s:Sp)(ty:Int){l:List (List bj)}{j:Nat}(h:j<l.length):rL s ty (l.drop j)=if(dD s (av l j) ty).2≠0 then dD s (av l j) ty else rL s ty (l.drop (j+1)):=by
 rw[dV h,rL]
def aeM(m:Md)(s:Sp)(F:Fa)(i:Nat)(hi:i<m.els.length)(hb:m.els.length<=1000000)(ho:(av m.els i).o.length<=1000000)(hit:(av m.els i).it.length<=1000000/\∀l∈(av m.els i).it,l.length<=1000000):LkC jT [.int .i64 i] m s F (.tup [.int .i64 (yw s (av m.els i)).1,.int .i64 (yw s (av m.els i)).2]):=by
 refine b_ nI ?_;obtain⟨hit1,hit2⟩:=hit;generalize hX:av m.els i=X at*;have kt:=zt m s F X.o 1 ho;have cv:=vg s X.tb;have hi2:(i:Int)<(m.els.length:Int):=by omega
 simp only[bF,aR,bT]at cv;obtain⟨T,hT⟩:∃T,yw s X=T:=⟨_,rfl⟩
 rw[hT];unfold yw at hT;simp only[go_sem,nI,cL,hX];refine⟨by omega,hi2,?_⟩;by_cases h1:X.mo=0;rotate_left
 .rw[an h1]at hT;simp only[go_sem,ac h1];refine aA (λq:Nat=>⟨[(59,.int .i64 q),(58,.int .i64 X.it.length),(57,.sl 1 (X.it.map DW)),(6,.mp 6 5 0 0),(0,.mp 1000 17 0 0)],[(1000,gS m s F),(6,⟨86,5,[Kq X],true⟩)]⟩)
   (λq=>q<=X.it.length/\rL s X.ty (X.it.drop q)=T) (λq=>X.it.length-q) 0 ⟨dx _,hT⟩ (Wk.of ?_ ?_) ?_
  .simp only[go_sem];try simp
  .simp only[go_sem];try rfl
  intro j hh;obtain⟨hj,hx⟩:j<=X.it.length/\rL s X.ty (X.it.drop j)=T:=hh;by_cases h2:(j:Int)<(X.it.length:Int);rotate_left
  .rw[a_ (by omega)]at hx;simp only[rL]at hx;subst hx;simp only[go_sem,aI h2];exact aZ [] _ [(1000,gS m s F)] ⟨rfl,rfl⟩
  have hj':j<X.it.length:=by omega
  have e8:=cK hj' (by omega);have hYl:=hit2 (av X.it j) (by rw[aY hj'];exact eH _);rw[U4 s X.ty hj']at hx;generalize hY:av X.it j=Y at hx hYl;have ky:=zt m s F Y X.ty hYl;generalize dD s Y X.ty=R2 at ky hx;simp only[go_sem,aF h2,hY];refine⟨by omega,h2,?_⟩;refine lH ky (by simp only[go_sem]) (by simp only[go_sem]) ?_;by_cases h3:R2.2=0;rotate_left
  .rw[az h3]at hx;subst hx;simp only[go_sem,aE h3];exact aZ [] _ [(1000,gS m s F)] ⟨rfl,rfl⟩
  rw[an (λq=>q h3)]at hx;simp only[go_sem,ay h3];refine aH (j+1) ⟨show j+1<=X.it.length by omega,hx⟩ (show X.it.length-(j+1)<X.it.length-j by omega) (Wk.of ?_ ?_)
  .simp only[go_sem,e8];try simp
  .simp only[go_sem];try rfl
 rw[az h1]at hT;simp only[go_sem,aD h1];refine ax cv (by simp[go_sem]) rfl ?_;generalize cx s.tb X.tb=q at hT;cases q with
 | none =>
  dsimp only at hT;subst hT;simp only[go_sem,Option.isSome_none];exact aZ [] _ [(1000,gS m s F)] ⟨rfl,rfl⟩
 | some t =>
  dsimp only at hT;by_cases h4:t.e=X.ty;rotate_left
  .rw[az h4]at hT;subst hT;simp only[go_sem,Option.isSome_some,cG,aE h4];exact aZ [] _ [(1000,gS m s F)] ⟨rfl,rfl⟩
  rw[an (λq=>q h4)]at hT;generalize dD s X.o 1=R at kt hT;simp only[go_sem,Option.isSome_some,cG,ay h4];refine lH kt (by simp only[go_sem]) (by simp only[go_sem]) ?_;by_cases h5:R.2=0;rotate_left
  .rw[az h5]at hT;subst hT;simp only[go_sem,aE h5];exact aZ [] _ [(1000,gS m s F)] ⟨rfl,rfl⟩
  rw[an (λq=>q h5)]at hT;simp only[go_sem,ay h5];refine aA (λq:Nat=>⟨[(59,.int .i64 q),(58,.int .i64 X.it.length),(57,.sl 1 (X.it.map DW)),(6,.mp 6 5 0 0),(0,.mp 1000 17 0 0)],[(1000,gS m s F),(6,⟨86,5,[Kq X],true⟩)]⟩)
   (λq=>q<=X.it.length/\rL s X.ty (X.it.drop q)=T) (λq=>X.it.length-q) 0 ⟨dx _,hT⟩ (Wk.of ?_ ?_) ?_
  .simp only[go_sem];try simp
  .simp only[go_sem];try rfl
  intro j hh;obtain⟨hj,hx⟩:j<=X.it.length/\rL s X.ty (X.it.drop j)=T:=hh;by_cases h2:(j:Int)<(X.it.length:Int);rotate_left
  .rw[a_ (by omega)]at hx;simp only[rL]at hx;subst hx;simp only[go_sem,aI h2];exact aZ [] _ [(1000,gS m s F)] ⟨rfl,rfl⟩
  have hj':j<X.it.length:=by omega
  have e8:=cK hj' (by omega);have hYl:=hit2 (av X.it j) (by rw[aY hj'];exact eH _);rw[U4 s X.ty hj']at hx;generalize hY:av X.it j=Y at hx hYl;have ky:=zt m s F Y X.ty hYl;generalize dD s Y X.ty=R2 at ky hx;simp only[go_sem,aF h2,hY];refine⟨by omega,h2,?_⟩;refine lH ky (by simp only[go_sem]) (by simp only[go_sem]) ?_;by_cases h3:R2.2=0;rotate_left
  .rw[az h3]at hx;subst hx;simp only[go_sem,aE h3];exact aZ [] _ [(1000,gS m s F)] ⟨rfl,rfl⟩
  rw[an (λq=>q h3)]at hx;simp only[go_sem,ay h3];refine aH (j+1) ⟨show j+1<=X.it.length by omega,hx⟩ (show X.it.length-(j+1)<X.it.length-j by omega) (Wk.of ?_ ?_)
  .simp only[go_sem,e8];try simp
  .simp only[go_sem];try rfl
def bme(i:Nat):List AV:=[.mp 1000 17 0 0,.int .i64 i]
def eN(i:Nat):List (Nat×au):=[]
def aia:okE eN:=⟨(λi p hp=>by cases hp),(λi p hp=>by cases hp),(λi j p hp=>by cases hp)⟩
def adX(m:Md)(s:Sp)(hb:m.els.length<=1000000)(h:∀e∈m.els,e.o.length<=1000000/\e.it.length<=1000000/\∀l∈e.it,l.length<=1000000):Dj jT bme m s eN (m.els.map (yw s)):=by
 intro i hi _ F hF;rw[bY]at hi;rw[qn _ hi];have hm:=h (av m.els i) (by rw[aY hi];exact eH _);exact aeM m s F i hi hb hm.1 hm.2
def mdO(m:Md):au:=⟨33,12,[nX m],true⟩
def Pv(m:Md):mdO m =⟨33,12,[nX m],true⟩:=rfl
def eM(m:Md)(i:Nat):List (Nat×au):=[(1001,mdO m),(1002,vw)]
def clm(i:Nat):List AV:=[.int .i64 i,.mp 1001 12 0 0,.mp 1002 1 0 0]
def ah_(m:Md):okE (eM m):=⟨(λi p hp=>by simp only[eM,bM,cH,or_false]at hp;rcases hp with rfl|rfl<;>rfl),(λi p hp=>by
 simp only[eM,bM,cH,or_false]at hp;rcases hp with rfl|rfl
 .exact⟨show(1001:Nat)≠1000 by decide,.inl ⟨show 1000<=1001 by decide,show 1001<2000 by decide⟩⟩
 .exact⟨show(1002:Nat)≠1000 by decide,.inl ⟨show 1000<=1002 by decide,show 1002<2000 by decide⟩⟩),(λi j p hp=>by simp only[eM,bM,cH,or_false]at hp;rcases hp with rfl|rfl<;>rfl)⟩
def adW(hLeft:fK)(m:Md)(s:Sp)(hs:rK s)(hb:m.fs.length<=1000000)(hf:∀f∈m.fs,bdB f):Dj mz clm m s (eM m) (m.fs.map (iw m s)):=by
 intro i hi _ F hF;rw[bY]at hi;rw[qn _ hi];refine b_ su ?_;have kb:=Xf hLeft m s i hs hi (by omega) (hf (av m.fs i) (by rw[aY hi];exact eH _));generalize iw m s (av m.fs i)=R at kb⊢;simp only[VS,aM,bF,aR]at kb;simp only[go_sem,su,clm,eM,Pv];refine aa (kb) ?_;exact done [] _ [(1000,gS m s F),(1001,mdO m),(1002,vw)] (by simp only[go_sem]) (by simp only[go_sem,Pv]) rfl ⟨rfl,rfl⟩
