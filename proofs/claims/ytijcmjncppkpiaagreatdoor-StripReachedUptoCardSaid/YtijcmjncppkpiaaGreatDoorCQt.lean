import Derived.Test.YtijcmjncppkpiaaGreatDoorCQs
set_option linter.all false
set_option maxRecDepth 100000
set_option maxHeartbeats 40000000
namespace Go.Proofs.YtijcmjncppkpiaaGreatDoor
section
open Go Go.Mw
attribute[local go_sem] bP bn cj df
def Mj:ah pg Cj [] (.bool true):=by
 refine au tY ?_;have ctw:=VD;have cr:=BP bJ Rc Wt WO;rw[Qt]at cr;replace cr:=pD (xs:=[.agg I0]) cr ⟨PX,trivial⟩;have cf:=pD (xs:=[.agg I0]) Mm ⟨PX,trivial⟩;have ct:=pD (xs:=[.agg I0]) My ⟨PX,trivial⟩;have l1:AY.fs.length=1:=rfl;have l2:AY.exs.length=1:=rfl;have l3:qG.ts.length=1:=rfl;have l4:qG.fs.length=2:=rfl;have x1:ap AY.exs 0 =⟨[102],0,0⟩:=rfl;have x2:ap AY.fs 0 =⟨1,[],nC⟩:=rfl;have x3:ap qG.fs 1 =⟨0,[],nC⟩:=rfl;obtain⟨L,hL⟩:∃L,L=[false,true]:=⟨_,rfl⟩
 rw[<-hL]at cr;have y0:ap L 0=false:=by rw[hL];rfl
 have y1:ap L 1=true:=by rw[hL];rfl
 have hl:L.length=2:=by rw[hL];rfl
 simp only[I0,da,bn]at ctw cr cf ct;simp only[go_sem,tY];refine aa (ctw) ?_;refine aa (cr) ?_;refine aa (ctw) ?_;refine aa (cf) ?_;refine aa (ctw) ?_;refine ak (ct) ?_;simp only[go_sem,hl,l1,l2,l3,l4,x1,x2,x3,y0,y1,rt,show(((2:Nat):Int) != 2)=false from rfl,show(((1:Nat):Int) != 1)=false from rfl,show((0:Int)==0)=true from rfl,show((1:Int)==1)=true from rfl];refine⟨by omega,by omega,by omega,by omega,by omega,by omega,by omega,by omega,by omega,by omega,?_⟩;exact ac
end
section
open Go Go.Mw
def Ui{a b:List Bool}(hl:a.length=b.length)(h:∀k,k<a.length->ap a k=ap b k):a=b:=by
 apply List.ext_getElem hl;intro i h1 h2;have:=h i h1;rwa[aV h1,aV h2]at this
attribute[local go_sem] bP bH eE bn cj dn bne_self_eq_false
def VB(a b:List Bool)(ha:a.length<1000000):ah pg Ck [.sl 1 (a.map rt),.sl 1 (b.map rt)] (.bool (a==b)):=by
 refine au nZ ?_;by_cases hl:(a.length:Int)=b.length;rotate_left
 .have r:(a==b)=false:=by
   rw[CV];intro e;rw[e]at hl;exact hl rfl
  have b1:((a.length:Int) != (b.length:Int))=true:=by simpa using hl
  simp only[go_sem,nZ,b1];rw[r];exact an
 simp only[go_sem,nZ,hl];refine ao (λi:Nat=>⟨[(0,.sl 1 (a.map rt)),(1,.sl 1 (b.map rt)),(5,.int .i64 i)],[]⟩) (λi=>i<=a.length/\∀k,k<i->ap a k=ap b k) (λi=>a.length-i) 0 ⟨cR _,λk hk=>absurd hk (Nat.not_lt_zero k)⟩ (Wk.of ?_ ?_) ?_
 .simp only[go_sem];try simp
 .simp only[go_sem]
 rintro i ⟨hi,hk⟩;by_cases h1:(i:Int)<(a.length:Int)
 .have e8:=wi (n:=(i:Int)+1) (by omega) (by omega);simp only[go_sem,aw h1,rt];refine⟨by omega,h1,by omega,by omega,λh2=>?_,λh2=>ay (i+1) ⟨by omega,λk hk2=>?_⟩ (show a.length-(i+1)<a.length-i by omega) (Wk.of ?_ ?_)⟩
  .have r:(a==b)=false:=by
    rw[CV];intro e;rw[e]at h2;simp at h2
   rw[r];exact an
  .rcases eJ k i with h4|h4
   .exact hk k h4
   .obtain rfl:k=i:=by omega
    simpa using h2
  .simp only[go_sem,e8,rt]
   try simp[rt]
  .simp only[go_sem]
 .have r:a=b:=Ui (by omega) (λk hk2=>hk k (by omega));have r2:(a==b)=true:=by rw[r];exact beq_self_eq_true b
  simp only[go_sem,aC h1];rw[r2];exact an
end
section
open Go Go.Mw
def nu(c b:Int):Nat->Int->List Nat->Int
 | _,n,[]=>n
 | i,n,x::r=>if(i:Int)<c/\n<=b then nu c b (i+1) (n+x) r else n
def Ig(m:Md):Bool:=decide (nu 100 500 0 0 (m.els.map λe=>e.it.length)<=500/\(m.ts.length:Int)<=100/\(m.ims.length:Int)<=100/\(m.fs.length:Int)<=100/\(m.tbs.length:Int)<=50/\(m.ms.length:Int)<=50/\(m.gs.length:Int)<=100/\(m.exs.length:Int)<=200/\(m.els.length:Int)<=50/\(m.ds.length:Int)<=50)
def Gc(m:Md):Bool:=Ig m&&decide ((m.fs.length:Int)<=12)&&decide (nu 20 400 0 0 (m.fs.map λx=>x.b.length)<=400)&&decide ((m.cs.length:Int)<=20)
def sS{α:Type}[Inhabited α]{f:α->Nat}{l:List α}{i:Nat}(h:i<l.length):(l.drop i).map f=f (ap l i)::(l.drop (i+1)).map f:=by
 rw[cH h,bY]
attribute[local go_sem] bP bH eE bn cj dn
def Z7(m:Md)(he:m.els.length<=140737488355328/\∀e∈m.els,e.it.length<=140737488355328):ah pg GJ [da m] (.bool (Ig m)):=by
 refine au yS ?_;unfold Ig;obtain⟨R,hR⟩:∃R,nu 100 500 0 0 (m.els.map λe=>e.it.length)=R:=⟨_,rfl⟩
 rw[hR];have h0:=he.1;simp only[go_sem,yS,da];refine ao (λq:Nat×Int=>⟨[(4,.int .i64 q.1),(3,.int .i64 q.2),(1,.mp 1 12 0 0)],[(1,⟨33,12,[mI m],true⟩)]⟩) (λq=>q.1<=m.els.length/\0<=q.2/\q.2<=140737488356000/\nu 100 500 q.1 q.2 ((m.els.drop q.1).map λe=>e.it.length)=R) (λq=>m.els.length-q.1) (0,0) ⟨cR _,Int.le_refl _,by decide,hR⟩ (Wk.of ?_ ?_) ?_
 .simp only[go_sem];try simp
 .simp only[go_sem];try simp
 rintro⟨j,n⟩ ⟨hj,hn,hn2,hx⟩;dsimp only at hj hn hn2 hx;by_cases h3:(j:Int)<(m.els.length:Int)/\(j:Int)<100/\n<=500
 .obtain⟨h1,h2,h3⟩:=h3;have hj':j<m.els.length:=by omega
  have e8:=cA hj' (by omega);rw[sS hj',nu,aF ⟨h2,h3⟩]at hx;have hg:=he.2 _ (by rw[aV hj'];exact gO hj':ap m.els j∈m.els);generalize hX:ap m.els j=X at hx hg;have w:=wi (n:=n+(X.it.length:Int)) (by omega) (by omega);simp only[go_sem,aw h1,aw h2,aw h3,hX,w];refine⟨by omega,h1,ay (j+1,n+(X.it.length:Int)) ⟨show j+1<=m.els.length by omega,show 0<=n+(X.it.length:Int)by omega,show n+(X.it.length:Int)<=140737488356000 by omega,hx⟩ (show m.els.length-(j+1)<m.els.length-j by omega) (Wk.of ?_ ?_)⟩
  .simp only[go_sem,e8];try simp
  .simp only[go_sem];try simp
 have hnR:n=R:=by
  by_cases h1:j<m.els.length
  .rw[sS h1,nu,ax (by omega)]at hx;exact hx
  .rw[cu (by omega)]at hx;exact hx
 subst hnR;by_cases h1:(j:Int)<(m.els.length:Int);rotate_left
 .by_cases q0:n<=500;rotate_left
  .rw[aC (λq=>q0 (q.1))];simp only[go_sem,aC h1,aC q0];exact ac
  by_cases q1:(m.ts.length:Int)<=100;rotate_left
  .rw[aC (λq=>q1 (q.2.1))];simp only[go_sem,aC h1,aw q0,aC q1];exact ac
  by_cases q2:(m.ims.length:Int)<=100;rotate_left
  .rw[aC (λq=>q2 (q.2.2.1))];simp only[go_sem,aC h1,aw q0,aw q1,aC q2];exact ac
  by_cases q3:(m.fs.length:Int)<=100;rotate_left
  .rw[aC (λq=>q3 (q.2.2.2.1))];simp only[go_sem,aC h1,aw q0,aw q1,aw q2,aC q3];exact ac
  by_cases q4:(m.tbs.length:Int)<=50;rotate_left
  .rw[aC (λq=>q4 (q.2.2.2.2.1))];simp only[go_sem,aC h1,aw q0,aw q1,aw q2,aw q3,aC q4];exact ac
  by_cases q5:(m.ms.length:Int)<=50;rotate_left
  .rw[aC (λq=>q5 (q.2.2.2.2.2.1))];simp only[go_sem,aC h1,aw q0,aw q1,aw q2,aw q3,aw q4,aC q5];exact ac
  by_cases q6:(m.gs.length:Int)<=100;rotate_left
  .rw[aC (λq=>q6 (q.2.2.2.2.2.2.1))];simp only[go_sem,aC h1,aw q0,aw q1,aw q2,aw q3,aw q4,aw q5,aC q6];exact ac
  by_cases q7:(m.exs.length:Int)<=200;rotate_left
  .rw[aC (λq=>q7 (q.2.2.2.2.2.2.2.1))];simp only[go_sem,aC h1,aw q0,aw q1,aw q2,aw q3,aw q4,aw q5,aw q6,aC q7];exact ac
  by_cases q8:(m.els.length:Int)<=50;rotate_left
  .rw[aC (λq=>q8 (q.2.2.2.2.2.2.2.2.1))];simp only[go_sem,aC h1,aw q0,aw q1,aw q2,aw q3,aw q4,aw q5,aw q6,aw q7,aC q8];exact ac
  by_cases q9:(m.ds.length:Int)<=50;rotate_left
  .rw[aC (λq=>q9 (q.2.2.2.2.2.2.2.2.2))];simp only[go_sem,aC h1,aw q0,aw q1,aw q2,aw q3,aw q4,aw q5,aw q6,aw q7,aw q8,aC q9];exact ac
  rw[aw ⟨q0,q1,q2,q3,q4,q5,q6,q7,q8,q9⟩];simp only[go_sem,aC h1,aw q0,aw q1,aw q2,aw q3,aw q4,aw q5,aw q6,aw q7,aw q8,aw q9];exact ac
 by_cases h2:(j:Int)<100;rotate_left
 .by_cases q0:n<=500;rotate_left
  .rw[aC (λq=>q0 (q.1))];simp only[go_sem,aw h1,aC h2,aC q0];exact ac
  by_cases q1:(m.ts.length:Int)<=100;rotate_left
  .rw[aC (λq=>q1 (q.2.1))];simp only[go_sem,aw h1,aC h2,aw q0,aC q1];exact ac
  by_cases q2:(m.ims.length:Int)<=100;rotate_left
  .rw[aC (λq=>q2 (q.2.2.1))];simp only[go_sem,aw h1,aC h2,aw q0,aw q1,aC q2];exact ac
  by_cases q3:(m.fs.length:Int)<=100;rotate_left
  .rw[aC (λq=>q3 (q.2.2.2.1))];simp only[go_sem,aw h1,aC h2,aw q0,aw q1,aw q2,aC q3];exact ac
  by_cases q4:(m.tbs.length:Int)<=50;rotate_left
  .rw[aC (λq=>q4 (q.2.2.2.2.1))];simp only[go_sem,aw h1,aC h2,aw q0,aw q1,aw q2,aw q3,aC q4];exact ac
  by_cases q5:(m.ms.length:Int)<=50;rotate_left
  .rw[aC (λq=>q5 (q.2.2.2.2.2.1))];simp only[go_sem,aw h1,aC h2,aw q0,aw q1,aw q2,aw q3,aw q4,aC q5];exact ac
  by_cases q6:(m.gs.length:Int)<=100;rotate_left
  .rw[aC (λq=>q6 (q.2.2.2.2.2.2.1))];simp only[go_sem,aw h1,aC h2,aw q0,aw q1,aw q2,aw q3,aw q4,aw q5,aC q6];exact ac
  by_cases q7:(m.exs.length:Int)<=200;rotate_left
  .rw[aC (λq=>q7 (q.2.2.2.2.2.2.2.1))];simp only[go_sem,aw h1,aC h2,aw q0,aw q1,aw q2,aw q3,aw q4,aw q5,aw q6,aC q7];exact ac
  by_cases q8:(m.els.length:Int)<=50;rotate_left
  .rw[aC (λq=>q8 (q.2.2.2.2.2.2.2.2.1))];simp only[go_sem,aw h1,aC h2,aw q0,aw q1,aw q2,aw q3,aw q4,aw q5,aw q6,aw q7,aC q8];exact ac
  by_cases q9:(m.ds.length:Int)<=50;rotate_left
  .rw[aC (λq=>q9 (q.2.2.2.2.2.2.2.2.2))];simp only[go_sem,aw h1,aC h2,aw q0,aw q1,aw q2,aw q3,aw q4,aw q5,aw q6,aw q7,aw q8,aC q9];exact ac
  rw[aw ⟨q0,q1,q2,q3,q4,q5,q6,q7,q8,q9⟩];simp only[go_sem,aw h1,aC h2,aw q0,aw q1,aw q2,aw q3,aw q4,aw q5,aw q6,aw q7,aw q8,aw q9];exact ac
 have h4:¬n<=500:=λh=>h3 ⟨h1,h2,h⟩;rw[aC (λq=>h4 q.1)];simp only[go_sem,aw h1,aw h2,aC h4];exact ac
def VC(m:Md)(he:m.els.length<=140737488355328/\∀e∈m.els,e.it.length<=140737488355328)(hf:m.fs.length<=140737488355328/\∀x∈m.fs,x.b.length<=140737488355328):ah pg GK [da m] (.bool (Gc m)):=by
 refine au yU ?_;have c:=Z7 m he;unfold Gc;obtain⟨R,hR⟩:∃R,nu 20 400 0 0 (m.fs.map λx=>x.b.length)=R:=⟨_,rfl⟩
 rw[hR];have h0:=hf.1;simp only[da,bn]at c;simp only[go_sem,yU,da];refine ao (λq:Nat×Int=>⟨[(4,.int .i64 q.1),(3,.int .i64 q.2),(1,.mp 1 12 0 0)],[(1,⟨33,12,[mI m],true⟩)]⟩) (λq=>q.1<=m.fs.length/\0<=q.2/\q.2<=140737488356000/\nu 20 400 q.1 q.2 ((m.fs.drop q.1).map λx=>x.b.length)=R) (λq=>m.fs.length-q.1) (0,0) ⟨cR _,Int.le_refl _,by decide,hR⟩ (Wk.of ?_ ?_) ?_
 .simp only[go_sem];try simp
 .simp only[go_sem];try simp
 rintro⟨j,n⟩ ⟨hj,hn,hn2,hx⟩;dsimp only at hj hn hn2 hx;by_cases h3:(j:Int)<(m.fs.length:Int)/\(j:Int)<20/\n<=400
 .obtain⟨h1,h2,h3⟩:=h3;have hj':j<m.fs.length:=by omega
  have e8:=cA hj' (by omega);rw[sS hj',nu,aF ⟨h2,h3⟩]at hx;have hg:=hf.2 _ (by rw[aV hj'];exact gO hj':ap m.fs j∈m.fs);generalize hX:ap m.fs j=X at hx hg;have w:=wi (n:=n+(X.b.length:Int)) (by omega) (by omega);simp only[go_sem,aw h1,aw h2,aw h3,hX,w];refine⟨by omega,h1,ay (j+1,n+(X.b.length:Int)) ⟨show j+1<=m.fs.length by omega,show 0<=n+(X.b.length:Int)by omega,show n+(X.b.length:Int)<=140737488356000 by omega,hx⟩ (show m.fs.length-(j+1)<m.fs.length-j by omega) (Wk.of ?_ ?_)⟩
  .simp only[go_sem,e8];try simp
  .simp only[go_sem];try simp
 have hnR:n=R:=by
  by_cases h1:j<m.fs.length
  .rw[sS h1,nu,ax (by omega)]at hx;exact hx
  .rw[cu (by omega)]at hx;exact hx
 subst hnR;by_cases h1:(j:Int)<(m.fs.length:Int);rotate_left
 .simp only[go_sem,aC h1];refine ak (c) ?_;cases q0:Ig m
  .simp only[go_sem,q0,gX];exact ac
  by_cases q1:(m.fs.length:Int)<=12;rotate_left
  .rw[aC q1];simp only[go_sem,q0,aC q1,gp,gX];exact ac
  rw[aw q1];by_cases q2:n<=400;rotate_left
  .rw[aC q2];simp only[go_sem,q0,aw q1,aC q2,gp,gX];exact ac
  rw[aw q2];simp only[go_sem,q0,aw q1,aw q2,gp];exact ac
 by_cases h2:(j:Int)<20;rotate_left
 .simp only[go_sem,aw h1,aC h2];refine ak (c) ?_;cases q0:Ig m
  .simp only[go_sem,q0,gX];exact ac
  by_cases q1:(m.fs.length:Int)<=12;rotate_left
  .rw[aC q1];simp only[go_sem,q0,aC q1,gp,gX];exact ac
  rw[aw q1];by_cases q2:n<=400;rotate_left
  .rw[aC q2];simp only[go_sem,q0,aw q1,aC q2,gp,gX];exact ac
  rw[aw q2];simp only[go_sem,q0,aw q1,aw q2,gp];exact ac
 have h4:¬n<=400:=λh=>h3 ⟨h1,h2,h⟩;simp only[go_sem,aw h1,aw h2,aC h4];refine ak (c) ?_;cases q0:Ig m
 .simp only[go_sem];exact ac
 by_cases q1:(m.fs.length:Int)<=12
 .simp only[go_sem,aw q1,aC h4];exact ac
 .simp only[go_sem,aC q1];exact ac
end
section
open Go Go.Mw
def AI(l:List Cu):List Cu:=l.filter λc=>!(c.n==[110,97,109,101])
def N2{l:List Cu}{j:Nat}(h:j<l.length):AI (l.take (j+1))=AI (l.take j)++(if((ap l j).n==[110,97,109,101])=true then[]else[ap l j]):=by
 unfold AI;rw[uS,dV h,uR,List.filter_append];congr 1;cases q:((ap l j).n==[110,97,109,101])
 .simp only[List.filter_cons,List.filter_nil,q,dH,dP,jr,fS]
 .simp only[List.filter_cons,List.filter_nil,q,di,dP,jr,fS]
attribute[local go_sem] bP bn dA
def Mb(m:Md)(h:m.cs.length<=1000000):ah pg Cw [da m] (da {m with cs:=AI m.cs}):=by
 refine au ur ?_;simp only[go_sem,ur,da];refine ao (λj:Nat=>⟨[(4,.int .i64 j),(3,.ms 900 3 0 (AI (m.cs.take j)).length),(2,.mp 2 12 0 0),(1,.mp 1 12 0 0)],[(1,⟨33,12,[mI m],true⟩),(2,⟨33,12,[[.nl,.nl,.nl,.nl,.nl,.nl,.nl,.bool false,.int .i64 0,.nl,.nl,.nl]],true⟩),(900,⟨65,3,(AI (m.cs.take j)).map wO,false⟩)]⟩) (λj=>j<=m.cs.length) (λj=>m.cs.length-j) 0 (cR _) ((Wk.nil _ 3 900 3 65 (by simp only[go_sem]) (.inl (by decide))).trans (Wk.of ?_ ?_)) ?_
 .simp only[go_sem,St.mknil,iO,AI];try simp[go_sem]
 .simp only[go_sem,St.mknil,iO,AI];try simp[go_sem]
 intro j hj;replace hj:j<=m.cs.length:=hj;by_cases h1:(j:Int)<(m.cs.length:Int)
 .have hj':j<m.cs.length:=by omega
  have e8:=cA hj' (by omega);have t:=N2 hj';have hle:(AI (m.cs.take j)).length<=m.cs.length:=by
   unfold AI;exact cZ (List.length_filter_le _ _) (by rw[q_];omega)
  have happ:=λys=>bR 900 65 3 (AI (m.cs.take j)).length wO (AI (m.cs.take j)) ys rfl;cases q:((ap m.cs j).n==[110,97,109,101]);rotate_left
  .rw[q,aF rfl,lm]at t;simp only[go_sem,aw h1,q,di];refine⟨by omega,h1,ay (j+1) (show j+1<=m.cs.length by omega) (show m.cs.length-(j+1)<m.cs.length-j by omega) (Wk.of ?_ ?_)⟩
   .simp only[go_sem,e8,t];try simp
   .simp only[go_sem,t];try rfl
  .rw[q,ax (by decide)]at t;simp only[go_sem,aw h1,q,dH,happ];refine⟨by omega,h1,by omega,h1,by omega,ay (j+1) (show j+1<=m.cs.length by omega) (show m.cs.length-(j+1)<m.cs.length-j by omega) (Wk.of ?_ ?_)⟩
   .simp only[go_sem,e8,t,ej,pq];try simp
   .simp only[go_sem,t,dW,bY,eL];try simp
 .obtain rfl:j=m.cs.length:=by omega
  simp only[go_sem,aC h1,jc];refine aE [900] ?_ rfl;simp only[go_sem,aN];rw[gN (by simp)]
def Mp(m:Md)(h:m.cs.length<=1000000)(c:ah pg r_ [da m] (da m)):ah pg CD [da m] (da {m with cs:=AI m.cs}):=by
 refine au uu ?_;simp only[da,bn]at c;simp only[go_sem,uu,da];refine aa (c) ?_;refine ao (λj:Nat=>⟨[(12,.int .i64 j),(11,.int .i64 m.cs.length),(10,.sl 3 (m.cs.map wO)),(4,.ms 900 3 0 (AI (m.cs.take j)).length),(3,.mp 3 12 0 0),(2,.mp 2 12 0 0)],[(3,⟨33,12,[mI m],true⟩),(2,⟨33,12,[[.nl,.nl,.nl,.nl,.nl,.nl,.nl,.bool false,.int .i64 0,.nl,.nl,.nl]],true⟩),(900,⟨65,3,(AI (m.cs.take j)).map wO,false⟩)]⟩) (λj=>j<=m.cs.length) (λj=>m.cs.length-j) 0 (cR _) ((Wk.nil _ 4 900 3 65 (by simp only[go_sem]) (.inl (by decide))).trans (Wk.of ?_ ?_)) ?_
 .simp only[go_sem,St.mknil,iO,AI];try simp[go_sem]
 .simp only[go_sem,St.mknil,iO,AI];try simp[go_sem]
 intro j hj;replace hj:j<=m.cs.length:=hj;by_cases h1:(j:Int)<(m.cs.length:Int)
 .have hj':j<m.cs.length:=by omega
  have e8:=cA hj' (by omega);have t:=N2 hj';have hle:(AI (m.cs.take j)).length<=m.cs.length:=by
   unfold AI;exact cZ (List.length_filter_le _ _) (by rw[q_];omega)
  have happ:=λys=>bR 900 65 3 (AI (m.cs.take j)).length wO (AI (m.cs.take j)) ys rfl;cases q:((ap m.cs j).n==[110,97,109,101]);rotate_left
  .rw[q,aF rfl,lm]at t;simp only[go_sem,aw h1,q,di];refine⟨by omega,h1,ay (j+1) (show j+1<=m.cs.length by omega) (show m.cs.length-(j+1)<m.cs.length-j by omega) (Wk.of ?_ ?_)⟩
   .simp only[go_sem,e8,t];try simp
   .simp only[go_sem,t];try rfl
  .rw[q,ax (by decide)]at t;simp only[go_sem,aw h1,q,dH,happ];refine⟨by omega,h1,by omega,ay (j+1) (show j+1<=m.cs.length by omega) (show m.cs.length-(j+1)<m.cs.length-j by omega) (Wk.of ?_ ?_)⟩
   .simp only[go_sem,e8,t,ej,pq];try simp
   .simp only[go_sem,t,dW,bY,eL];try simp
 .obtain rfl:j=m.cs.length:=by omega
  simp only[go_sem,aC h1,jc];refine aE [900] ?_ rfl;simp only[go_sem,aN];rw[gN (by simp)]
end
section
open Go Go.Mw
def DO{c b:Int}:∀{l:List Nat}{i:Nat}{n:Int},(i:Int)+l.length<=c->nu c b i n l<=b->n+(l.sum:Nat)<=b
 | [],i,n,_,h=>by simpa[nu]using h
 | x::r,i,n,hc,h=>by
  rw[j1]at hc;by_cases q:(i:Int)<c/\n<=b
  .rw[nu,aF q]at h;have:=DO (i:=i+1) (by omega) h;rw[List.sum_cons];omega
  .rw[nu,ax q]at h;omega
def Ab{α β:Type}{f:α->List β}{w:α->Nat}{B:Nat}:∀{l:List α},(∀x∈l,(f x).length<=w x*B)->(l.flatMap f).length<=(l.map w).sum*B
 | [],_=>by simp
 | x::r,h=>by
  have h1:=h x (List.mem_cons_self ..);have h2:=Ab (l:=r) λy hy=>h y (List.mem_cons_of_mem _ hy);rw[jd,ej,bY,List.sum_cons,iP];omega
def yN{α:Type}:∀l:List α,(l.map λ_=>1).sum=l.length
 | []=>rfl
 | x::r=>by rw[bY,List.sum_cons,yN r,j1,Nat.add_comm]
def HG{α:Type}{w:α->Nat}{B:Nat}:∀{l:List α},(∀x∈l,w x<=B)->(l.map w).sum<=l.length*B
 | [],_=>by simp
 | x::r,h=>by
  have h1:=h x (List.mem_cons_self ..);have h2:=HG (l:=r) λy hy=>h y (List.mem_cons_of_mem _ hy);rw[bY,List.sum_cons,j1,iP];omega
def Fh(l:List a_):(aP l).length<=l.length:=by unfold aP;rw[bP];exact List.length_filter_le _ _
def Xp(l:List a_):(vb l).length<=l.length:=by unfold vb;rw[bP];exact List.length_filter_le _ _
def AH{l:List a_}(h:bL D1 1048576 l):F7 l:=⟨h.1,λx hx=>⟨(h.2 x hx).2.1.1,(h.2 x hx).2.2.1,(h.2 x hx).1.1⟩⟩
def aa7{m:Md}(hm:NG 1048576 m):cpM m:=by
 obtain⟨b1,b2,b3,b4,b5,b6,b7,b8,b9,b10⟩:=hm;exact⟨⟨b1.1,λx hx=>⟨(b1.2 x hx).1.1,(b1.2 x hx).2.1⟩⟩,b2.1,⟨b3.1,λx hx=>⟨(b3.2 x hx).1.1,AH (b3.2 x hx).2⟩⟩,b4.1,b5.1,⟨b6.1,λx hx=>AH (b6.2 x hx)⟩,b7.1,⟨b8.1,λx hx=>⟨AH (b8.2 x hx).1,(b8.2 x hx).2.1,λl hl=>AH ((b8.2 x hx).2.2 l hl)⟩⟩,⟨b9.1,λx hx=>⟨AH (b9.2 x hx).1,(b9.2 x hx).2.1⟩⟩,⟨b10.1,λx hx=>(b10.2 x hx).2.1⟩⟩
structure fwB(m:Md):Prop where
 sp:Ry m
 rt:ZG m
 wa:waB (gj 0 m.ims) m
 bd:∀x∈m.fs,x.b.length<=2000000
 cs:m.cs.length<=1000000
 fs:m.fs.length<=12
def abk{m:Md}(hm:NG 1048576 m)(hf:Gc m=true):fwB m:=by
 obtain⟨b1,b2,b3,b4,b5,b6,b7,b8,b9,b10⟩:=hm;simp only[Gc,Ig,fQ,tT]at hf;obtain⟨⟨⟨⟨f0,f1,f2,f3,f4,f5,f6,f7,f8,f9⟩,f10⟩,f11⟩,f12⟩:=hf;have hit:=DO (l:=m.els.map λe=>e.it.length) (i:=0) (by rw[bP];omega) f0;have hg:∀x∈m.gs,x.i.length<=1048576:=λx hx=>(b6.2 x hx).1;have he:∀x∈m.els,x.it.length<=1048576/\∀l∈x.it,l.length<=1048576:=λx hx=>⟨(b8.2 x hx).2.1,λl hl=>((b8.2 x hx).2.2 l hl).1⟩
 have hb:∀x∈m.fs,x.b.length<=1048576:=λx hx=>(b3.2 x hx).2.1;have h1:=Ab (f:=λg:Gd=>aP g.i) (w:=λ_=>1) (B:=1048576) (l:=m.gs) λx hx=>by have:=Fh x.i;have:=hg x hx;omega
 have h2:=Ab (f:=λe:El=>e.it.flatMap aP) (w:=λe=>e.it.length) (B:=1048576) (l:=m.els) λx hx=>by
  have:=Ab (f:=aP) (w:=λ_=>1) (B:=1048576) (l:=x.it) λl hl=>by have:=Fh l;have:=(he x hx).2 l hl;omega
  rw[yN]at this;exact this
 have h3:=yN m.gs;have h4:((m.exs.filter λe=>e.k==0).map (·.i)).length<=m.exs.length:=by rw[bP];exact List.length_filter_le _ _
 have h5:(if m.hs then[m.st]else[]).length<=1:=by split<;>simp
 have hr:(fZ m).length<=1000000000:=by
  unfold fZ;simp only[ej];rw[h3]at h1;have:=nv 1048576 (show m.gs.length<=100 by omega);have:=nv 1048576 (show(m.els.map λe=>e.it.length).sum<=500 by omega);omega
 have hw:wtA (gj 0 m.ims) (lT m) (List.range (gj 0 m.ims))<=12*2097153:=by
  unfold wtA;refine cZ (HG (B:=2097153) λk hk=>?_) (nv _ (cZ (List.length_filter_le _ _) (by rw[List.length_range,nL];omega)));have hk':=(List.mem_filter.1 hk).1;rw[List.mem_range,nL]at hk';unfold yM;rw[D3 hk',ej];have:=Fh (ap m.fs k).b;have:=Xp (ap m.fs k).b;have:=hb _ (fe hk');omega
 exact⟨⟨by omega,by omega,by omega,by omega,by omega,by omega,by omega,by omega,λx hx=>by have:=hg x hx;omega,λx hx=>⟨by have:=(he x hx).1;omega,λl hl=>by have:=(he x hx).2 l hl;omega⟩,λx hx=>by have:=(b1.2 x hx).1.1;have:=(b1.2 x hx).2.1;exact⟨by omega,by omega⟩⟩,
  ⟨by omega,by omega,by omega,λx hx=>by have:=hg x hx;omega,λx hx=>⟨by have:=(he x hx).1;omega,λl hl=>by have:=(he x hx).2 l hl;omega⟩,hr⟩,
  ⟨by omega,λx hx=>by have:=hb x hx;omega,by unfold DH;omega⟩,λx hx=>by have:=hb x hx;omega,by omega,by omega⟩
attribute[local go_sem] bP bn
def HM(m:Md)(hm:NG 1048576 m):ah pg rZ [da m] (.bool true):=by
 refine au gr ?_;have cf:=VC m ⟨cZ hm.2.2.2.2.2.2.2.1.1 (by decide),λe he=>cZ (hm.2.2.2.2.2.2.2.1.2 e he).2.1 (by decide)⟩ ⟨cZ hm.2.2.1.1 (by decide),λx hx=>cZ (hm.2.2.1.2 x hx).2.1 (by decide)⟩;have ca:=Mj;cases hf:Gc m with
 | false =>
  rw[hf]at cf;simp only[da,bn]at cf;simp only[go_sem,gr,da];refine aa (cf) ?_;refine aa (ca) ?_;exact ac
 | true =>
 rw[hf]at cf;have h:=abk hm hf;have c1:=BP m h.sp h.rt h.wa;have c2:=Hn m h.sp h.rt h.bd;have hl:=nn (gj 0 m.ims) (lT m) (fZ m);have h1:=ly 0 m.ims;have h2:=h.sp.ims;have h3:=h.fs;rw[nL]at hl;generalize yG (gj 0 m.ims) (lT m) (fZ m)=L at c1 c2 hl;have c3:=VB L L (by omega);have c4:=Mp m h.cs (Vb m (aa7 hm));have c5:=Mb m h.cs;have hsm:Rx m:=acG (by decide) hm;have c6:=US {m with cs:=AI m.cs} {m with cs:=AI m.cs} ⟨hsm.ts,hsm.ims,hsm.fs,hsm.tbs,hsm.ms,hsm.gs,hsm.exs,hsm.els,hsm.ds,⟨cZ (List.length_filter_le _ _) hsm.cs.1,λx hx=>hsm.cs.2 x (List.mem_filter.1 hx).1⟩⟩;rw[aw (HY _)]at c6;rw[beq_self_eq_true]at c3;simp only[da,bn]at cf c1 c2 c4 c5 c6;simp only[go_sem,gr,da];refine aa (cf) ?_;refine aL c1 (by simp[go_sem]) rfl ?_;simp only[go_sem];refine aa (c2) ?_;refine aa (c3) ?_;refine aL c4 (by simp[go_sem]) rfl ?_;simp only[go_sem];refine aa (c5) ?_;refine aa (c6) ?_;refine aa (ca) ?_;exact ac
