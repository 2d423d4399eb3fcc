import Derived.Test.YthhglklcaodfmaaGreatDoorCQs
set_option linter.all false
set_option maxRecDepth 100000
set_option maxHeartbeats 40000000
namespace Go.Proofs.YthhglklcaodfmaaGreatDoor
section
open Go Go.Mw
attribute[local go_sem] bY fg bV aM cQ
def WI(op:Int):aj pg ED [.int .i64 op] (.int .i64 (f8 op)):=by
 refine ao dT ?_;unfold f8;by_cases h1:op=106
 .rw[az (.inl h1)];simp only[go_sem,dT,h1];exact ah
 by_cases h2:op=107
 .rw[az (.inr (.inl h2))];simp only[go_sem,dT,h2];exact ah
 by_cases h3:op=108
 .rw[az (.inr (.inr h3))];simp only[go_sem,dT,h3];exact ah
 rw[an (by omega)];by_cases h4:op=124
 .rw[az (.inl h4)];simp only[go_sem,dT,h4];exact ah
 by_cases h5:op=125
 .rw[az (.inr (.inl h5))];simp only[go_sem,dT,h5];exact ah
 by_cases h6:op=126
 .rw[az (.inr (.inr h6))];simp only[go_sem,dT,h6];exact ah
 rw[an (by omega)];simp only[go_sem,dT,ac h1,ac h2,ac h3,ac h4,ac h5,ac h6];exact ah
def rB(l:List Int)(t:Int):List Int×Int:=match l.reverse with
 | []=>(l,13)
 | x::r=>if x≠t then(l,12)else(r.reverse,0)
def zN(t:Int):rB [] t=([],13):=rfl
def qo(l:List Int)(x t:Int):rB (l++[x]) t=if x≠t then(l++[x],12)else(l,0):=by
 unfold rB;rw[List.reverse_append];show(if x≠t then _ else(l.reverse.reverse,0))=_;rw[List.reverse_reverse]
def zM(l:List Int)(t:Int):(rB l t).1.length<=l.length:=by
 rcases ry l with rfl|⟨l',x,rfl⟩
 .exact aQ _
 .rw[qo];split
  .exact aQ _
  .simp
def EX(l:List Int)(t:Int)(hl:l.length<1000000000):aj pg Je [.sl 1 (l.map aS),.int .i64 t] (.tup [.sl 1 ((rB l t).1.map aS),.int .i64 (rB l t).2]):=by
 refine ao ng ?_;rcases ry l with rfl|⟨l',x,rfl⟩
 .rw[zN];simp only[go_sem,ng,eA,eG,show(((0:Nat):Int)==0)=true from rfl];exact ah
 have hlen:(l'++[x]).length=l'.length+1:=by simp
 have hw:=wr1 (n:=l'.length) (by omega);have hn:av (l'++[x]) l'.length=x:=iX _ _ rfl;have htk:((l'++[x]).map aS).take l'.length=l'.map aS:=by rw[dY,List.take_append_of_le_length (by simp),iF (by simp)]
 rw[qo];generalize l'++[x]=L at*;by_cases q:x=t
 .rw[an (λz=>z q)];simp only[go_sem,ng,hlen,show(((l'.length+1:Nat):Int)==0)=false from ac (by omega),hw,cL,hn,ay q];refine⟨by omega,by omega,⟨by omega,by omega⟩,?_⟩;exact aq [] (by simp only[go_sem,List.map_take,htk];try rfl) (by rfl)
 .rw[az q];simp only[go_sem,ng,hlen,show(((l'.length+1:Nat):Int)==0)=false from ac (by omega),hw,cL,hn,aE q];refine⟨by omega,by omega,?_⟩;exact ah
def lfR(L:Int×Int)(l:List Int):List Int×Int:=if L.2≠0 then(l,L.2)else(l++[L.1],0)
def D3(a e:Int)(l:List Int)(h:e≠0):lfR (a,e) l=(l,e):=az h
def Hx(a:Int)(l:List Int):lfR (a,0) l=(l++[a],0):=rfl
def CF(s:Sp)(x:bj)(gl:Int)(l:List Int):List Int×Int :=
 if f8 x.op≠0 then(if(rB l (f8 x.op)).2≠0 then(l,(rB l (f8 x.op)).2)else((rB (rB l (f8 x.op)).1 (f8 x.op)).1++[f8 x.op],(rB (rB l (f8 x.op)).1 (f8 x.op)).2))else
 lfR (dO s x gl) l
def ajo(m:Md)(x:bj)(gl:Int)(l:List Int)(hb:B_ m)(ha:0<=x.a/\x.a<9223372036854775808)(hl:l.length<100000000):aj pg Lv [ba m,.sl 1 (l.map aS),fN x,.int .i64 gl] (.tup [.sl 1 ((CF (bO m) x gl l).1.map aS),.int .i64 (CF (bO m) x gl l).2]):=by
 have cn:=WI x.op;unfold CF;have happ:∀(L:List Int)(v:Int)(k:Nat)(hk:k<1000),L.length<100000000->AF k 48 1 0 0 (L.map aS) (some ⟨48,1,[],false⟩)=some (.ms k 1 0 L.length,.reb k ⟨48,1,L.map aS,false⟩):=λL v k hk h=>H7 k 48 1 aS L (by omega) hk;have happ2:∀(L:List Int)(v:Int)(k:Nat),AF k 48 1 0 L.length [[.int .i64 v]] (some ⟨48,1,L.map aS,false⟩)=if([[AV.int .i64 v]]:List (List AV)).length<137438953472/\L.length<137438953472/\(k<1000\/2000<=k)then some (.ms k 1 0 (L.length+([[AV.int .i64 v]]:List (List AV)).length),.reb k ⟨48,1,L.map aS++[[.int .i64 v]],false⟩)else none:=λL v k=>cC k 48 1 L.length aS L [[.int .i64 v]] rfl
 have et:∀(L:List Int)(v:Int),(L.map aS++[[AV.int .i64 v]]).take (L.length+1)=(L++[v]).map aS:=λL v=>by
  rw[iF (by simp)];simp[aS]
 by_cases hn:f8 x.op=0;rotate_left
 .rw[az hn];generalize f8 x.op=t at cn hn⊢;have c1:=EX l t (by omega);have hpl:=zM l t;generalize rB l t=P at c1 hpl⊢;obtain⟨l1,e1⟩:=P;dsimp only at c1 hpl⊢;by_cases z1:e1=0;rotate_left
  .rw[az z1];refine ao bB ?_;simp only[go_sem,bB,ba];refine ae (cn) ?_;simp only[go_sem,aE hn];refine ae (c1) ?_;simp only[go_sem,aE z1];exact ah
  rw[an (λq=>q z1)];have c2:=EX l1 t (by omega);have hpl2:=zM l1 t;generalize rB l1 t=P at c2 hpl2⊢;obtain⟨l2,e2⟩:=P;dsimp only at c2 hpl2⊢;refine ao bB ?_;simp only[go_sem,bB,ba];refine ae (cn) ?_;simp only[go_sem,aE hn];refine ae (c1) ?_;simp only[go_sem,ay z1];refine ae (c2) ?_;have a1:=happ l2 t 38 (by decide) (by omega);have a2:=happ2 l2 t 38;simp only[go_sem,a1,a2];refine⟨by omega,?_⟩;exact aq [38] (by simp only[go_sem,aQ,fo,dk,dN,i9,eG,et];try rfl) (by rfl)
 rw[an (λq=>q hn)];rw[hn]at cn;have a1:=happ l 0 98 (by decide) (by omega);have a2:=λv=>happ2 l v 98;by_cases q1:x.op=65
 .have hL:dO (bO m) x gl=(1,0):=by unfold dO;rw[az q1]
  rw[hL,Hx];refine ao bB ?_;simp only[go_sem,bB,ba];refine ae (cn) ?_;simp only[go_sem,q1,a1,a2];refine⟨by omega,?_⟩;exact aq [98] (by simp only[go_sem,aQ,fo,dk,dN,i9,eG,et];try rfl) (by rfl)
 by_cases q2:x.op=66
 .have hL:dO (bO m) x gl=(2,0):=by unfold dO;rw[an q1,az q2]
  rw[hL,Hx];refine ao bB ?_;simp only[go_sem,bB,ba];refine ae (cn) ?_;simp only[go_sem,q2,a1,a2];refine⟨by omega,?_⟩;exact aq [98] (by simp only[go_sem,aQ,fo,dk,dN,i9,eG,et];try rfl) (by rfl)
 by_cases q3:x.op=208
 .have hL:dO (bO m) x gl=(x.a,0):=by unfold dO;rw[an q1,an q2,az q3]
  rw[hL,Hx];refine ao bB ?_;simp only[go_sem,bB,ba];refine ae (cn) ?_;simp only[go_sem,q3,a1,a2];refine⟨by omega,?_⟩;exact aq [98] (by simp only[go_sem,aQ,fo,dk,dN,i9,eG,et];try rfl) (by rfl)
 by_cases q4:x.op=210
 .have cf:=EU m hb.ims hb.fs;have cd:=PK m hb x.a;simp only[ba,aM]at cf cd;by_cases q5:x.a>=((bO m).fs.length:Int)
  .have hL:dO (bO m) x gl=(0,11):=by unfold dO;rw[an q1,an q2,an q3,az q4,az (.inr q5)]
   rw[hL,D3 _ _ _ (by decide)];refine ao bB ?_;simp only[go_sem,bB,ba];refine ae (cn) ?_;simp only[go_sem,q4,aI (show ¬x.a<0 by omega)];refine ax cf (by simp[go_sem]) rfl ?_;simp only[go_sem,aF q5];exact ah
  cases hd:(bO m).dec x.a
  .rw[hd]at cd;have hL:dO (bO m) x gl=(0,22):=by unfold dO;rw[an q1,an q2,an q3,az q4,an (by omega),az hd]
   rw[hL,D3 _ _ _ (by decide)];refine ao bB ?_;simp only[go_sem,bB,ba];refine ae (cn) ?_;simp only[go_sem,q4,aI (show ¬x.a<0 by omega)];refine ax cf (by simp[go_sem]) rfl ?_;simp only[go_sem,aI q5];refine aa (cd) ?_;exact ah
  .rw[hd]at cd;have hL:dO (bO m) x gl=(3,0):=by unfold dO;rw[an q1,an q2,an q3,az q4,an (by omega),an (by rw[hd];decide)]
   rw[hL,Hx];refine ao bB ?_;simp only[go_sem,bB,ba];refine ae (cn) ?_;simp only[go_sem,q4,aI (show ¬x.a<0 by omega)];refine ax cf (by simp[go_sem]) rfl ?_;simp only[go_sem,aI q5];refine ae (cd) ?_;simp only[go_sem,a1,a2];refine⟨by omega,?_⟩;exact aq [98] (by simp only[go_sem,aQ,fo,dk,dN,i9,eG,et];try rfl) (by rfl)
 by_cases q5:x.op=35
 .have cg:=HN m hb.ims hb.gs x.a ha.1 ha.2;obtain⟨G,hG⟩:∃G,cx (bO m).gs x.a=G:=⟨_,rfl⟩
  rw[hG]at cg;simp only[ba,aM,lc]at cg;cases G with
  | none =>
   have hL:dO (bO m) x gl=(0,11):=by unfold dO;rw[an q1,an q2,an q3,an q4,az q5,hG]
   rw[hL,D3 _ _ _ (by decide)];refine ao bB ?_;simp only[go_sem,bB,ba];refine ae (cn) ?_;simp only[go_sem,q5];refine ae (cg) ?_;simp only[go_sem,Option.isSome_none];exact ah
  | some g =>
   by_cases q6:x.a>=gl
   .have hL:dO (bO m) x gl=(0,17):=by unfold dO;rw[an q1,an q2,an q3,an q4,az q5,hG];exact az (.inl q6)
    rw[hL,D3 _ _ _ (by decide)];refine ao bB ?_;simp only[go_sem,bB,ba];refine ae (cn) ?_;simp only[go_sem,q5];refine ae (cg) ?_;simp only[go_sem,Option.isSome_some,cG,aF q6];exact ah
   cases hg:g.mu
   .have hL:dO (bO m) x gl=(g.v,0):=by unfold dO;rw[an q1,an q2,an q3,an q4,az q5,hG];exact an (by rw[hg];simp;omega)
    rw[hL,Hx];refine ao bB ?_;simp only[go_sem,bB,ba];refine ae (cn) ?_;simp only[go_sem,q5];refine ae (cg) ?_;simp only[go_sem,Option.isSome_some,cG,aI q6,hg,a1,a2];refine⟨by omega,?_⟩;exact aq [98] (by simp only[go_sem,aQ,fo,dk,dN,i9,eG,et];try rfl) (by rfl)
   .have hL:dO (bO m) x gl=(0,17):=by unfold dO;rw[an q1,an q2,an q3,an q4,az q5,hG];exact az (.inr hg)
    rw[hL,D3 _ _ _ (by decide)];refine ao bB ?_;simp only[go_sem,bB,ba];refine ae (cn) ?_;simp only[go_sem,q5];refine ae (cg) ?_;simp only[go_sem,Option.isSome_some,cG,aI q6,hg];exact ah
 have hL:dO (bO m) x gl=(0,17):=by unfold dO;rw[an q1,an q2,an q3,an q4,an q5]
 rw[hL,D3 _ _ _ (by decide)];refine ao bB ?_;simp only[go_sem,bB,ba];refine ae (cn) ?_;simp only[go_sem,ac q1,ac q2,ac q3,ac q4,ac q5];exact ah
end
section
open Go Go.Mw
def T3(i n:Nat)(k:List Int)(want:Int):Int×Int:=if i+1<n then(((i+1:Nat):Int),16)else if(rB k want).2≠0 then((i:Int),(rB k want).2)else if(rB k want).1.length>0 then((i:Int),14)else(0,0)
def Y2(s:Sp)(want gl:Int){l:List bj}{j:Nat}(k:List Int)(h:j<l.length):pn s want gl j (l.drop j) k.reverse =
  if(av l j).op=11 then T3 j l.length k want else if(CF s (av l j) gl k).2≠0 then((j:Int),(CF s (av l j) gl k).2)else pn s want gl (j+1) (l.drop (j+1)) (CF s (av l j) gl k).1.reverse:=by
 rw[TH s want gl h k.reverse];generalize hx:av l j=x;have n0:¬((0:Int)≠0):=λq=>q rfl;have n12:(12:Int)≠0:=by decide
 have n13:(13:Int)≠0:=by decide
 by_cases hn:f8 x.op=0;rotate_left
 .have h11:x.op≠11:=λq=>hn (by rw[q];rfl);rw[az hn,an h11];unfold CF;rw[az hn];generalize f8 x.op=t;rcases ry k with rfl|⟨k1,a,rfl⟩
  .rw[zN];dsimp only[List.reverse_nil];rw[az n13,az n13]
  have hp:=qo k1 a t;have hr:(k1++[a]).reverse=a::k1.reverse:=by rw[List.reverse_append];rfl
  rw[hr];by_cases ha:a=t;rotate_left
  .rw[az ha]at hp;rw[hp];dsimp only;rw[az n12];dsimp only;rw[az n12];rcases ry k1 with rfl|⟨k2,b,rfl⟩
   .exact az ha
   .rw[List.reverse_append];exact az (.inl ha)
  rw[an (λq=>q ha)]at hp;rw[hp];dsimp only;rw[an n0];dsimp only;rcases ry k1 with rfl|⟨k2,b,rfl⟩
  .rw[zN];dsimp only;rw[az n13];exact an (λq=>q ha)
  have hp2:=qo k2 b t;have hr2:(k2++[b]).reverse=b::k2.reverse:=by rw[List.reverse_append];rfl
  rw[hr2];by_cases hb:b=t
  .rw[an (λq=>q hb)]at hp2;rw[hp2];dsimp only;rw[an (show ¬(a≠t\/b≠t)by rintro(q|q);exact q ha;exact q hb),an n0,List.reverse_append,hb];rfl
  .rw[az hb]at hp2;rw[hp2];dsimp only;rw[az (show a≠t\/b≠t from .inr hb),az n12]
 rw[an (λq=>q hn)];by_cases h11:x.op=11
 .rw[az h11,az h11];unfold T3 Nc;by_cases q1:j+1<l.length
  .rw[az q1,az q1]
  rw[an q1,an q1];rcases ry k with rfl|⟨k1,a,rfl⟩
  .rw[zN];dsimp only[List.reverse_nil];rw[az n13]
  have hp:=qo k1 a want;have hr:(k1++[a]).reverse=a::k1.reverse:=by rw[List.reverse_append];rfl
  rw[hr];by_cases ha:a=want;rotate_left
  .rw[az ha]at hp;rw[hp];dsimp only;rw[az n12];exact az ha
  rw[an (λq=>q ha)]at hp;rw[hp];dsimp only;rw[an (show ¬a≠want from λq=>q ha),an n0];rcases ry k1 with rfl|⟨k2,b,rfl⟩
  .rfl
  .rw[az (by simp),az (by simp)]
 rw[an h11,an h11];have e1:CF s x gl k=lfR (dO s x gl) k:=by unfold CF;exact an (λq=>q hn)
 rw[e1];generalize dO s x gl=L;obtain⟨v,e⟩:=L;by_cases q:e=0
 .subst q;rw[Hx];dsimp only;rw[an n0,an n0,List.reverse_append];rfl
 .rw[D3 _ _ _ q];dsimp only;rw[az q,az q]
def aaZ(s:Sp)(x:bj)(gl:Int)(l:List Int):(CF s x gl l).1.length<=l.length+1:=by
 unfold CF lfR;split
 .split
  .exact Nat.le_succ _
  .have h1:=zM l (f8 x.op);have h2:=zM (rB l (f8 x.op)).1 (f8 x.op);simp only[dN,i9,eG];omega
 .split
  .exact Nat.le_succ _
  .simp
attribute[local go_sem] bY fg bV aM cQ
def af5(m:Md)(l:List bj)(want gl:Int)(hb:B_ m)(hP:∀x∈l,0<=x.a/\x.a<9223372036854775808)(hlen:l.length<=1000000):aj pg xu [ba m,.sl 9 (l.map cQ),.int .i64 want,.int .i64 gl] (.tup [.int .i64 (pn (bO m) want gl 0 l []).1,.int .i64 (pn (bO m) want gl 0 l []).2]):=by
 refine ao xh ?_;obtain⟨T,hT⟩:∃T,pn (bO m) want gl 0 l []=T:=⟨_,rfl⟩
 rw[hT];have h1:=λ(x:bj)(k:List Int)(hx:0<=x.a/\x.a<9223372036854775808)=>ajo m x gl k hb hx;simp only[ba,aM]at h1;simp only[go_sem,xh,ba];refine aA (λq:Nat×List Int=>⟨[(11,.int .i64 q.1),(10,.sl 1 (q.2.map aS)),(4,.mp 4 12 0 0),(1,.sl 9 (l.map cQ)),(2,.int .i64 want),(3,.int .i64 gl)],[(4,⟨33,12,[nX m],true⟩)]⟩)
  (λq=>q.1<=l.length/\q.2.length<=q.1/\pn (bO m) want gl q.1 (l.drop q.1) q.2.reverse=T) (λq=>l.length-q.1) (0,[]) ⟨dx _,aQ _,hT⟩ ((Wk.nls _ 10 1 (by rfl)).trans (Wk.of ?_ ?_)) ?_
 .simp only[go_sem];try simp
 .simp only[go_sem];try simp
 rintro⟨j,k⟩ ⟨hj,hk,hx⟩;dsimp only at hj hk hx;by_cases q:(j:Int)<(l.length:Int);rotate_left
 .obtain rfl:j=l.length:=by omega
  rw[a_ (aQ _),pn]at hx;subst hx;simp only[go_sem,aI q];exact ah
 have hj':j<l.length:=by omega
 have e8:=cK hj' (by omega);have hxa:=hP (av l j) (by rw[aY hj'];exact eH _);rw[Y2 _ _ _ k hj']at hx;by_cases h11:(av l j).op=11
 .rw[az h11]at hx;subst hx;unfold T3;by_cases q1:j+1<l.length
  .rw[az q1];simp only[go_sem,aF q,aD h11,e8,aF (show(j:Int)+1<(l.length:Int)by omega)];refine⟨by omega,q,?_⟩;exact aq [] (by simp only[go_sem];try simp) (by rfl)
  rw[an q1];have cp:=EX k want (by omega);generalize rB k want=P at cp⊢;obtain⟨k2,e⟩:=P;dsimp only at cp⊢;simp only[go_sem,aF q,aD h11,e8,aI (show ¬(j:Int)+1<(l.length:Int)by omega)];refine⟨by omega,q,?_⟩;refine ae (cp) ?_;by_cases z:e=0
  .by_cases z2:k2.length>0
   .rw[an (λw=>w z),az z2];simp only[go_sem,ay z,aF (show((k2.length:Nat):Int)>0 by omega)];exact ah
   .rw[an (λw=>w z),an z2];simp only[go_sem,ay z,aI (show ¬((k2.length:Nat):Int)>0 by omega)];exact ah
  .rw[az z];simp only[go_sem,aE z];exact ah
 rw[an h11]at hx;have c1:=h1 (av l j) k hxa (by omega);have hln:=aaZ (bO m) (av l j) gl k;generalize CF (bO m) (av l j) gl k=R at c1 hx hln;obtain⟨k2,e⟩:=R;dsimp only at c1 hx hln;simp only[bV]at c1;simp only[go_sem,aF q,ac h11];refine⟨by omega,q,by omega,q,?_⟩;refine ae (c1) ?_;by_cases z:e=0
 .rw[an (λw=>w z)]at hx;simp only[go_sem,ay z];refine aH (j+1,k2) ⟨show j+1<=l.length by omega,show k2.length<=j+1 by omega,hx⟩ (show l.length-(j+1)<l.length-j by omega) (Wk.of ?_ ?_)
  .simp only[go_sem,e8];try simp
  .simp only[go_sem];try simp
 .rw[az z]at hx;subst hx;simp only[go_sem,aE z];exact ah
def Pr(k:Int):∀(l:List Im)(acc:List (Int×Int)),x_ k (l.foldl (λa x=>k9 x.k a) acc)=x_ k acc+(dH k l:Nat)
 | [],acc=>by simp[dH]
 | x::r,acc=>by
  rw[List.foldl_cons,Pr k r,It];by_cases h:x.k=k
  .have e:dH k (x::r)=dH k r+1:=by unfold dH;rw[List.filter_cons_of_pos (by simpa using h)];rfl
   rw[az h.symm,e];omega
  .have e:dH k (x::r)=dH k r:=by unfold dH;rw[List.filter_cons_of_neg (by simpa using h)]
   rw[an (λq=>h q.symm),e];omega
def acs(m:Md):x_ 3 (bO m).im=(dH 3 m.ims:Nat):=by
 rw[show(bO m).im=m.ims.foldl (λa x=>k9 x.k a) [] from rfl,Pr];show(0:Int)+_=_;omega
def C7(m:Md)(l:List bj)(want:Int)(hb:B_ m)(hP:∀x∈l,0<=x.a/\x.a<9223372036854775808)(hlen:l.length<=1000000):aj pg xu [ba m,.sl 9 (l.map cQ),.int .i64 want,.int .i64 (dH 3 m.ims:Nat)] (.tup [.int .i64 (dD (bO m) l want).1,.int .i64 (dD (bO m) l want).2]):=by
 have:=af5 m l want (dH 3 m.ims:Nat) hb hP hlen;rw[<-acs]at this;rw[<-acs];exact this
end
section
open Go Go.Mw
def cR(R:List Int):au:=⟨48,1,R.map aS,false⟩
def Ba(R:List Int):fG (cR R)=[]:=rfl
def P2(f:FuncId):Prop:=∀(R L:List Int)(n m:Nat),bA pg f [.ms 1000 1 0 n,.ms 1001 1 0 m] [(1000,cR R),(1001,cR L)] sb (λr σ'=>r = .agg [.ms 1000 1 0 n,.ms 1001 1 0 m]/\σ'=[(1000,cR R),(1001,cR L)])
def P1(f:FuncId):Prop:=∀(R:List Int)(n:Nat),bA pg f [.ms 1000 1 0 n,.nl] [(1000,cR R)] sb (λr σ'=>r = .agg [.ms 1000 1 0 n,.nl]/\σ'=[(1000,cR R)])
def P0(f:FuncId):Prop:=∀(R:List Int)(n:Nat),bA pg f [.nl,.ms 1000 1 0 n] [(1000,cR R)] sb (λr σ'=>r = .agg [.nl,.ms 1000 1 0 n]/\σ'=[(1000,cR R)])
attribute[local go_sem] fg bY
def lh:P2 yg:=λR L n m=>by
 refine b_ li ?_;simp only[go_sem,li];exact done [] _ [(1000,cR R),(1001,cR L)] (by rfl) (by simp only[go_sem];exact⟨rfl,rfl⟩) rfl ⟨rfl,rfl⟩
def HF:P1 yg:=λR n=>by
 refine b_ li ?_;simp only[go_sem,li];exact done [] _ [(1000,cR R)] (by rfl) (by simp only[go_sem];rfl) rfl ⟨rfl,rfl⟩
def LV:P0 yg:=λR n=>by
 refine b_ li ?_;simp only[go_sem,li];exact done [] _ [(1000,cR R)] (by rfl) (by simp only[go_sem];rfl) rfl ⟨rfl,rfl⟩
def gQ{f:FuncId}(h:P2 f){R L:List Int}{n m i j:Nat}{d:Option Nat}{s:St}{K:St->Prop}(hij:i≠j)(hi:i<1000)(hj:j<1000)(h1:ak s.heap i=some (cR R))(h2:ak s.heap j=some (cR L))
  (hk:K ((St.mk s.env ((i,cR R)::(j,cR L)::s.heap)).put d (.agg [.ms i 1 0 n,.ms j 1 0 m]))):cO pg f [.ms i 1 0 n,.ms j 1 0 m] d s K:=by
 have n1:i≠1000:=by omega
 have n2:i≠1001:=by omega
 have n3:j≠1000:=by omega
 have n4:j≠1001:=by omega
 have b1:bw [(1000,i),(1001,j)] i=1000:=by simp[bw,sU,n1,n2,n3,n4,hij,hij.symm]
 have b2:bw [(1000,i),(1001,j)] j=1001:=by simp[bw,sU,n1,n2.symm,n3,n4,hij,hij.symm]
 have f1:fw [(1000,i),(1001,j)] 1000=i:=by simp[fw,sU,n1,n2,n3,n4,hij,hij.symm]
 have f2:fw [(1000,i),(1001,j)] 1001=j:=by simp[fw,sU,n1,n2,n2.symm,n3,n4,hij,hij.symm]
 refine dU (σ2:=[(i,cR R),(j,cR L)]) (r3:=.agg [.ms i 1 0 n,.ms j 1 0 m]) (σ3:=[(i,cR R),(j,cR L)]) (h R L n m) [(1000,i),(1001,j)] [] ?_ ?_ ?_ ?_ ?_ ?_ ?_ hk
 .simp only[cM,eA,jI,u_,rH,tf,b1,b2]
 .simp only[jH,b1,b2,jf _ _ (Ba _)]
 .simp only[jI,u_,cM,eA,rH,tf,f1,f2]
 .simp only[jH,f1,f2,jf _ _ (Ba _)]
 .intro p hp;simp only[bM,cH,or_false]at hp;rcases hp with rfl|rfl
  .exact h1
  .exact h2
 .intro p hp;simp only[bM,cH,or_false]at hp;rcases hp with rfl|rfl
  .exact .inl ⟨by rw[b1];exact⟨by decide,by decide⟩,by simp[ak]⟩
  .exact .inl ⟨by rw[b2];exact⟨by decide,by decide⟩,by simp[ak,hij]⟩
 .intro p hp;simp only[bM,cH,or_false]at hp;rcases hp with rfl|rfl
  .simp[ak]
  .simp[ak,hij]
def AJ{f:FuncId}(h:P1 f){R:List Int}{n i:Nat}{d:Option Nat}{s:St}{K:St->Prop}(hi:i<1000)(h1:ak s.heap i=some (cR R))
  (hk:K ((St.mk s.env ((i,cR R)::s.heap)).put d (.agg [.ms i 1 0 n,.nl]))):cO pg f [.ms i 1 0 n,.nl] d s K:=by
 have n1:i≠1000:=by omega
 have b1:bw [(1000,i)] i=1000:=by simp[bw,sU,n1]
 have f1:fw [(1000,i)] 1000=i:=by simp[fw,sU,n1]
 refine dU (σ2:=[(i,cR R)]) (r3:=.agg [.ms i 1 0 n,.nl]) (σ3:=[(i,cR R)]) (h R n) [(1000,i)] [] ?_ ?_ ?_ ?_ ?_ ?_ ?_ hk
 .simp only[cM,eA,jI,u_,rH,tf,b1]
 .simp only[jH,b1,jf _ _ (Ba _)]
 .simp only[jI,u_,cM,eA,rH,tf,f1]
 .simp only[jH,f1,jf _ _ (Ba _)]
 .intro p hp;simp only[bM,cH,or_false]at hp;subst hp;exact h1
 .intro p hp;simp only[bM,cH,or_false]at hp;subst hp;exact .inl ⟨by rw[b1];exact⟨by decide,by decide⟩,by simp[ak]⟩
 .intro p hp;simp only[bM,cH,or_false]at hp;subst hp;simp[ak]
def Dv{f:FuncId}(h:P0 f){R:List Int}{n i:Nat}{d:Option Nat}{s:St}{K:St->Prop}(hi:i<1000)(h1:ak s.heap i=some (cR R))
  (hk:K ((St.mk s.env ((i,cR R)::s.heap)).put d (.agg [.nl,.ms i 1 0 n]))):cO pg f [.nl,.ms i 1 0 n] d s K:=by
 have n1:i≠1000:=by omega
 have b1:bw [(1000,i)] i=1000:=by simp[bw,sU,n1]
 have f1:fw [(1000,i)] 1000=i:=by simp[fw,sU,n1]
 refine dU (σ2:=[(i,cR R)]) (r3:=.agg [.nl,.ms i 1 0 n]) (σ3:=[(i,cR R)]) (h R n) [(1000,i)] [] ?_ ?_ ?_ ?_ ?_ ?_ ?_ hk
 .simp only[cM,eA,jI,u_,rH,tf,b1]
 .simp only[jH,b1,jf _ _ (Ba _)]
 .simp only[jI,u_,cM,eA,rH,tf,f1]
 .simp only[jH,f1,jf _ _ (Ba _)]
 .intro p hp;simp only[bM,cH,or_false]at hp;subst hp;exact h1
 .intro p hp;simp only[bM,cH,or_false]at hp;subst hp;exact .inl ⟨by rw[b1];exact⟨by decide,by decide⟩,by simp[ak]⟩
 .intro p hp;simp only[bM,cH,or_false]at hp;subst hp;simp[ak]
def df{f:FuncId}{args:List AV}{Sb:Nat->Prop}{r1 r3:AV}{σ1 σ3:List (Nat×au)}(ps:List (Nat×Nat))(h:bA pg f args [] Sb (λr σ'=>r=r1/\σ'=σ1))(hargs:args.map (jI (bw ps))=args)
  (hr:jI (fw ps) r1=r3) (h3:jH (fw ps) σ1=σ3):bA pg f args [] (λ_=>False) (λr σ'=>r=r3/\σ'=σ3):=by
 refine(h.ren (args2:=args) (σ2:=[]) (fw ps) (bw ps) (Dt ps) (Hq ps) hargs rfl).mono (λ_ h=>h.elim) ?_;rintro r σ' ⟨r0,σ0,⟨rfl,rfl⟩,rfl,rfl⟩;exact⟨hr,h3⟩
end
section
open Go Go.Mw
abbrev XX:=Option (Nat×List Int)×Option (List Int)
def pV:Option (Nat×List Int)->AV
 | some x=>.ms 1 1 0 x.1
 | none=>.nl
def qV:Option (List Int)->AV
 | some L=>.ms 2 1 0 L.length
 | none=>.nl
def sgV(d:XX):AV:=.agg [pV d.1,qV d.2]
def sgO(d:XX):List (Nat×au):=(match d.1 with|some x=>[(1,cR x.2)]|none=>[])++(match d.2 with|some L=>[(2,cR L)]|none=>[])
def sg2(p q:List Int):XX:=(some (p.length,p),some q)
attribute[local go_sem] fg bY
end
section
open Go Go.Mw
attribute[local go_sem] fg bY
