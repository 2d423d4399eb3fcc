import Derived.Test.YtdfofedlbljnhaaGreatDoorXQt
set_option linter.all false
set_option maxRecDepth 100000
set_option maxHeartbeats 40000000
namespace Go.Proofs.YtdfofedlbljnhaaGreatDoor
open Go Go.Mw
def Yn(m:Md):∀p∈xG m,1<=p/\p<=12:=λp hp=>by
 rw[DI]at hp;simp only[f7]at hp;rcases hp with(((((((((((h|h)|h)|h)|h)|h)|h)|h)|h)|h)|h)|h)
 all_goals
  have:=LA h;omega
def Yb{c:Prop}[Decidable c]{p x:Int}:x∈tP c p↔c/\x=p:=by
 unfold tP;by_cases h:c
 .rw[au h];simp[h]
 .rw[ak h];simp[h]
def JX{m:Md}{p:Int}(h:p∈xG m):(p=1->m.ts.length>0)/\(p=2->m.ims.length>0)/\(p=3->m.fs.length>0)/\(p=4->m.tbs.length>0)/\(p=5->m.ms.length>0)/\(p=6->m.gs.length>0)/\(p=7->m.exs.length>0)/\(p=8->m.hs=true)/\(p=9->m.els.length>0)/\(p=10->m.ds.length>0)/\(p=11->m.fs.length>0)/\(p=12->m.ds.length>0):=by
 rw[DI]at h;simp only[f7,Yb]at h;rcases h with(((((((((((h|h)|h)|h)|h)|h)|h)|h)|h)|h)|h)|h)
 all_goals
  obtain⟨h1,rfl⟩:=h;refine⟨λq=>?_,λq=>?_,λq=>?_,λq=>?_,λq=>?_,λq=>?_,λq=>?_,λq=>?_,λq=>?_,λq=>?_,λq=>?_,λq=>?_⟩
  all_goals first|exact h1|(exfalso;omega)
def D3:∀(l:List Nat)(n:Nat),n+l.sum<9223372036854775808->U5 n l=((n+l.sum:Nat):Int)
 | [],n,_=>by simp[U5]
 | k::l,n,h=>by
  rw[List.sum_cons]at h;have e:IntKind.i64.wrap ((n:Int)+k)=((n+k:Nat):Int):=by rw[wi (by omega) (by omega)];omega
  show U5 (IntKind.i64.wrap ((n:Int)+k)) l=_;rw[e,D3 l (n+k) (by omega),List.sum_cons];congr 1;omega
def Rw:∀(l:List El)(n:Nat),n+cU GI l<9223372036854775808->elS n l=((n+cU GI l:Nat):Int)
 | [],n,_=>by simp[elS,cU]
 | x::l,n,h=>by
  rw[pq]at h;have e0:GI x=x.o.length+cU List.length x.it:=rfl;have e:IntKind.i64.wrap ((n:Int)+x.o.length)=((n+x.o.length:Nat):Int):=by rw[wi (by omega) (by omega)];omega
  show elS (U5 (IntKind.i64.wrap ((n:Int)+x.o.length)) (x.it.map List.length)) l=_;have h2:(x.it.map List.length).sum=cU List.length x.it:=rfl;rw[e,D3 _ _ (by rw[h2];omega),h2];have e3:n+x.o.length+cU List.length x.it=n+GI x:=by omega
  rw[e3,Rw l (n+GI x) (by omega),pq];congr 1;omega
def Au{α:Type}{g:α->Nat}{c:Nat}:∀l:List α,(∀x∈l,g x<=c)->cU g l<=c*l.length
 | [],_=>by simp[cU]
 | x::l,h=>by
  have:=Au l λy hy=>h y (by simp[hy]);have:=h x (by simp);rw[pq,i0,Nat.mul_add];omega
def WN{m:Md}(ht:ml m<9223372036854775808):Sr m=(ml m:Nat):=by
 unfold ml at ht;unfold Sr ae7 ae6 ae5;have e1:=D3 (m.fs.map λx=>x.b.length) 0 (by show 0+cU (λx:Cd=>x.b.length) m.fs<_;omega);rw[zE]at e1;rw[show((0:Int))=((0:Nat):Int) from rfl,e1];change U5 (elS (U5 ((cU (λx:Cd=>x.b.length) m.fs:Nat):Int) (m.gs.map λx=>x.i.length)) m.els) (m.ds.map λx=>x.o.length)=_;have e2:=D3 (m.gs.map λx=>x.i.length) (cU (λx:Cd=>x.b.length) m.fs) (by show _+cU (λx:Gd=>x.i.length) m.gs<_;omega);rw[e2];change U5 (elS ((cU (λx:Cd=>x.b.length) m.fs+cU (λx:Gd=>x.i.length) m.gs:Nat):Int) m.els) (m.ds.map λx=>x.o.length)=_;rw[Rw _ _ (by omega)];have e4:=D3 (m.ds.map λx=>x.o.length) (cU (λx:Cd=>x.b.length) m.fs+cU (λx:Gd=>x.i.length) m.gs+cU GI m.els) (by show _+cU (λx:Da=>x.o.length) m.ds<_;omega);rw[e4];rfl
def Ss{m:Md}(h:okM F4 m):Sr m=(ml m:Nat):=by
 have hfs:=h.fs.1;have hgs:=h.gs.1;have hel:=h.els.1;have hds:=h.ds.1;have a1:=Au (g:=λx:Cd=>x.b.length) (c:=2048) m.fs λx hx=>(h.bo x hx).1;have a2:=Au (g:=λx:Gd=>x.i.length) (c:=2048) m.gs λx hx=>(h.gs.2 x hx).2.1;have a3:=Au (g:=GI) (c:=1000000) m.els λx hx=>by
  have h1:=(h.els.2 x hx).2.1.1;have h2:=Au (g:=List.length) (c:=2048) x.it λl hl=>((h.els.2 x hx).2.2 l hl).1;have h3:=(GH (h.els.2 x hx).1).2.2.2.2;unfold GI;omega
 have a4:=Au (g:=λx:Da=>x.o.length) (c:=2048) m.ds λx hx=>(h.ds.2 x hx).2.2.2.1;refine WN ?_;unfold ml;omega
def N0{m:Md}(h:okM F4 m)(p:Int):tot (cus m p)<=4200*(uD m.cs p).length:=by
 have hc:∀c∈uD m.cs p,c.b.length<=4096/\c.n.length<=64:=λc hc=>by
  have hx:=(List.mem_filter.1 hc).1;have q:=h.cs.2 c hx;unfold P_ at q;by_cases q1:Aj c.n≠0
  .rw[au q1]at q;exact absurd q q1
  rw[ak q1]at q;by_cases q2:c.b.length>4096
  .rw[au q2]at q;cases q
  .exact⟨by omega,HB (ve.1 q1)⟩
 unfold cus;generalize uD m.cs p=l at*
 induction l with
 | nil=>exact a_ _
 | cons c l ih =>
  have h1:=ih λx hx=>hc x (by simp[hx]);obtain⟨h2,h3⟩:=hc c (by simp);rw[eG,tot,i0,db,Nat.mul_add];simp only;omega
def afT{m:Md}(h:Lw m)(ht:ml m<=6000):tot (Yq m)<=900000000/\(Yq m).length<=10000/\∀s∈Yq m,s.name.length<=64:=by
 have hcl:∀p,(uD m.cs p).length<=8:=λp=>m8 (List.length_filter_le _ _) h.lim.cs.1;have hcn:∀p,∀s∈cus m p,s.name.length<=64:=λp s hs=>by
  obtain⟨c,hc,rfl⟩:=gG.1 hs;have hx:=(List.mem_filter.1 hc).1;have q:=h.lim.cs.2 c hx;unfold P_ at q;by_cases q1:Aj c.n≠0
  .rw[au q1]at q;exact absurd q q1
  .exact HB (ve.1 q1)
 have key:∀l:List Int,(8∈l->m.hs=true)->tot (E4 m l)<=11000000*l.length/\(E4 m l).length<=9*l.length/\∀s∈E4 m l,s.name.length<=64:=λl=>by
  induction l with
  | nil=>exact λ_=>⟨a_ _,a_ _,λs hs=>by cases hs⟩
  | cons p l ih =>
   intro h8;obtain⟨i1,i2,i3⟩:=ih λq=>h8 (by simp[q]);have hp:=IM h ht p λq=>h8 (by simp[q]);have hc:=N0 h.lim p;have hl:=hcl p;refine⟨?_,?_,λs hs=>?_⟩
   .rw[E4,tot,Co,db,i0,Nat.mul_add];simp only[cj];omega
   .rw[E4,i0,cP,i0];unfold cus;rw[bZ];omega
   .rw[E4]at hs;rcases dQ.1 hs with rfl|hs
    .exact cm _
    .rcases f7.1 hs with hs|hs
     .exact hcn p s hs
     .exact i3 s hs
 obtain⟨k1,k2,k3⟩:=key (xG m) λq=>(JX q).2.2.2.2.2.2.2.1 rfl;have hl:=DJ m;have hc:=N0 h.lim 0;have hcl0:=hcl 0;unfold Yq;rw[Co,cP];refine⟨by omega,?_,λs hs=>?_⟩
 .unfold cus;rw[bZ];omega
 .rcases f7.1 hs with hs|hs
  .exact hcn 0 s hs
  .exact k3 s hs
section
def XR(x:be):uI none (az x)=some (.int .i64 x.op):=rfl
def Tz(x:be):uI (some 9) (az x)=some (.agg (az x)):=rfl
def TA(x:be):(az x).length=9:=rfl
def Tw(d:Nat)(x:be):(az x).any (mC d)=false:=rfl
def TB(d:Nat)(x:be):((az x).all λy=>!(mC d y))=true:=rfl
def Tv(x:be):(az x).all qm=true:=rfl
def TC(d:Nat)(x:be):(az x).map (BW d)=az x:=rfl
def Tx(x:be):(az x).flatMap kx=[]:=rfl
attribute[local go_sem high] XR Tz TA Tw TB Tv TC Tx
def km(B:List be):Nat->List Int
 | 0=>List.replicate B.length (-1)
 | i+1=>if(ac B i).op==11&&decide (0<=Ah B i)then(km B i).set (Ah B i).toNat i else km B i
def gF(B:List be):Nat->List Int
 | 0=>List.replicate B.length (-1)
 | i+1=>if(ac B i).op==5 then(gF B i).set (Ah B i).toNat i else gF B i
def kj(B:List be)(i:Nat):List Int:=(List.range i).map λj=>((bE B j).length:Int)
def oc(B:List be)(i:Nat):List Int:=(List.range i).map λj=>Ah B j
def sn(B:List be):∀i,(km B i).length=B.length
 | 0=>by simp[km]
 | i+1=>by simp only[km];split<;>simp[sn B i]
def qc(B:List be):∀i,(gF B i).length=B.length
 | 0=>by simp[gF]
 | i+1=>by simp only[gF];split<;>simp[qc B i]
def TE(a b:Int)(i m:Nat)(h:0<m):(List.replicate i a++List.replicate m b).set i a=List.replicate (i+1) a++List.replicate (m-1) b:=by
 obtain⟨m,rfl⟩:∃k,m=k+1:=⟨m-1,by omega⟩
 rw[List.set_append_right _ _ (by simp)];simp only[List.length_replicate,tz,Ec,List.set_cons_zero,Nat.add_sub_cancel];rw[<-Ec,Mv];simp
def Cg(n:Nat)(hn:n<1073741824):aQ pg 267 [.int .i64 n] [] (λid=>1000<=id/\id<2000) (λr σ'=>r = .ms 6 1 0 n/\σ'=[(6,⟨3,1,(List.replicate n (-1)).map ri,false⟩)]):=by
 refine bA AM ?_;simp only[AM,go_sem];refine⟨by omega,?_⟩;refine aq (λi:Nat=>⟨[(9,.int .i64 i),(8,.int .i64 n),(3,.ms 6 1 0 n)],[(6,⟨3,1,(List.replicate i (-1)++List.replicate (n-i) 0).map ri,false⟩)]⟩) (λi=>i<=n) (λi=>n-i) 0 (cm _) (Wk.of ?_ ?_) ?_
 .simp[go_sem]
 .simp[go_sem]
 intro i hi;simp only[go_sem];refine⟨λh=>⟨by omega,by simp;omega,aF (i+1) (by omega) (by omega) (Wk.of ?_ ?_)⟩,λh=>done [] (.ms 6 1 0 n) [(6,⟨3,1,(List.replicate n (-1)).map ri,false⟩)] ?_ ?_ rfl ⟨rfl,rfl⟩⟩
 .simp[go_sem,wi (n:=i+1) (by omega) (by omega)]
 .simp only[go_sem,↓reduceIte,zE,TE (-1) 0 i (n-i) (by omega),show n-i-1=n-(i+1)by omega]
 .simp[go_sem]
 .have:i=n:=by omega
  subst this;simp[go_sem]
def Ag(B:List be)(h:Int)(i:Nat):BU B h (i+1)=(BU B h i||(decide (h<i)&&(ac B i).op==5&&decide (0<(bE B i).length)&&Ah B i==h)):=by
 simp only[BU,List.range_succ,List.any_append,List.any_cons,List.any_nil,Bool.or_false]
def xC(B:List be)(l:List Int):AV:=if(nchk B).2=0 then .sl 1 (l.map ri)else .nl
def EX(B:List be)(i:Nat):kj B (i+1)=kj B i++[((bE B i).length:Int)]:=by simp[kj,List.range_succ]
def Hu(B:List be)(i:Nat):oc B (i+1)=oc B i++[Ah B i]:=by simp[oc,List.range_succ]
def oa(B:List be)(i:Nat):(kj B i).length=i:=by simp[kj]
def qd(B:List be)(i:Nat):(oc B i).length=i:=by simp[oc]
def nrk(p:Int×Bool):List AV:=[.int .i64 p.1,.bool p.2]
def afu(p:Int×Bool):nrk p=[.int .i64 p.1,.bool p.2]:=rfl
attribute[local go_sem] afu
def kl(B:List be)(i:Nat):List Int:=kj B i++List.replicate (B.length-i) (-1)
def od(B:List be)(i:Nat):List Int:=oc B i++List.replicate (B.length-i) (-1)
def jH(B:List be)(i:Nat):List (Int×Bool):=(bE B i).map λh=>(h,BU B h i)
def Ai(B:List be):AV:=.tup [.agg [xC B (km B B.length),xC B (gF B B.length),xC B (kj B B.length),xC B (oc B B.length)],.int .i64 (nchk B).1,.int .i64 (nchk B).2]
def dI{B:List be}{a e:Int}(h:nchk B=(a,e))(he:e≠0):Ai B = .tup [.agg [.nl,.nl,.nl,.nl],.int .i64 a,.int .i64 e]:=by simp[Ai,xC,h,he]
def FX{B:List be}(h:nchk B=(0,0)):Ai B = .tup [.agg [.sl 1 ((km B B.length).map ri),.sl 1 ((gF B B.length).map ri),.sl 1 ((kj B B.length).map ri),.sl 1 ((oc B B.length).map ri)],.int .i64 0,.int .i64 0]:=by simp[Ai,xC,h]
def ZT{l:List Int}{i n:Nat}{x:Int}(hl:l.length=i)(hi:i<n):(l++List.replicate (n-i) (-1)).set i x=(l++[x])++List.replicate (n-(i+1)) (-1):=by
 subst hl;rw[List.set_append_right _ _ (a_ _),tz,show n-l.length=(n-(l.length+1))+1 by omega,Ec,List.set_cons_zero];simp
def lh{B:List be}{i:Nat}(hi:i<B.length):(kl B i).set i ((bE B i).length:Int)=kl B (i+1):=by
 rw[kl,ZT (oa B i) hi,<-EX,kl]
def oe{B:List be}{i:Nat}(hi:i<B.length):(od B i).set i (Ah B i)=od B (i+1):=by
 rw[od,ZT (qd B i) hi,<-Hu,od]
def DC(B:List be)(i:Nat):(jH B i).length=(bE B i).length:=by simp[jH]
def TH{B:List be}{i:Nat}{J:List (Int×Bool)}(h:0<(bE B i).length):ac (jH B i++J) ((bE B i).length-1)=(Ah B i,BU B (Ah B i) i):=by
 rw[F1 (by rw[DC];omega),jH,HE (by omega)];rfl
def vm{B:List be}{h:Int}{i:Nat}(h5:((ac B i).op==5)=false):BU B h (i+1)=BU B h i:=by rw[Ag,h5];simp
def Tq{B:List be}{i:Nat}:BU B i (i+1)=false:=by
 simp only[BU,zC];intro j hj;simp at hj⊢;omega
def Pm{B:List be}{i:Nat}(h5:((ac B i).op==5)=false)(hb:JF (ac B i).op=true):jH B (i+1)=jH B i++[((i:Int),false)]:=by
 have hi0:BU B i i=false:=by rw[<-vm h5];exact Tq
 simp only[jH,bE,BV,hb,aN,oz,eG,qF,vm h5,hi0]
def TG{B:List be}{i:Nat}(h5:((ac B i).op==5)=false)(hb:JF (ac B i).op=false)(h11:((ac B i).op==11)=true):jH B (i+1)=(jH B i).dropLast:=by
 simp only[jH,bE,BV,hb,h11,aN,gR,bB,vm h5,List.map_dropLast]
def Pn{B:List be}{i:Nat}(h5:((ac B i).op==5)=false)(hb:JF (ac B i).op=false)(h11:((ac B i).op==11)=false):jH B (i+1)=jH B i:=by
 simp only[jH,bE,BV,hb,h11,gR,bB,vm h5]
def Pl{B:List be}{i:Nat}(hne:∀j,j<i->0<(bE B j).length)(h0:0<(bE B i).length)(hh:Ah B i<i)(h5:((ac B i).op==5)=true):jH B (i+1)=(jH B i).set ((bE B i).length-1) (Ah B i,true):=by
 have h5':(ac B i).op=5:=by simpa using h5
 have hr:bE B (i+1)=bE B i:=by simp[bE,BV,JF,h5']
 refine List.ext_getElem (by simp[jH,hr]) λk h1 h2=>?_;have hk:k<(bE B i).length:=by rw[DC,hr]at h1;exact h1
 simp only[jH,List.getElem_map,hr,List.getElem_set];by_cases hkl:(bE B i).length-1=k
 .subst hkl;rw[au rfl];have:(bE B i)[(bE B i).length-1]=Ah B i:=(bv hk).symm;rw[this,Ag,h5];simp[hh,h0]
 .rw[ak hkl,Ag,h5];have:(Ah B i==(bE B i)[k])=false:=by
   rw[fK];intro he;rcases FW hne h0 with⟨g1,_⟩|⟨_,j,g2,g3,g4,_⟩
   .omega
   .have hkj:k<(bE B j).length:=by rw[g4,qD];omega
    have e1:ac (bE B j) k=(bE B i)[k]:=by rw[g4,JM (by omega),bv hk]
    rcases xD B j (λm hm=>hne m (by omega)) k hkj with⟨_,g5⟩|⟨_,m,g5,g6,_⟩<;>omega
  rw[this];simp
def FZ(B:List be):∀i,(∀j,j<i->ga B j=0)->(bE B i).length<=32
 | 0,_=>by simp[bE]
 | i+1,he=>by
  have ih:=FZ B i (λj hj=>he j (by omega));have:=(Ts (he i (by omega))).2;simp only[bE,BV];split
  .rename_i hb;rw[hb]at this;simp at this⊢;omega
  .split
   .simp;omega
   .exact ih
def TF(id row:Nat)(t:TypeId)(l:List (Int×Bool)):Is id 1 2 row 1 (some ⟨t,2,l.map nrk,false⟩) (some [.bool true])=if row<l.length then some (.put id ⟨t,2,(l.set row ((ac l row).1,true)).map nrk,false⟩)else none :=
 y9 id 1 2 row 1 t nrk l [.bool true] (λp=>(p.1,true)) rfl rfl (λ_=>a_ 2) (λ_=>rfl)
def XS(B:List be)(hn:B.length<1000000):aj pg 188 [.sl 9 (B.map az)] (Ai B):=by
 refine aC AL ?_;simp only[AL,go_sem];refine ye (Cg B.length (by omega)) rfl (by simp[go_sem]) 901 (by omega) (by simp[go_sem]) ?_;simp only[go_sem];refine ye (Cg B.length (by omega)) rfl (by simp[go_sem]) 902 (by omega) (by simp[go_sem]) ?_;simp only[go_sem];refine ye (Cg B.length (by omega)) rfl (by simp[go_sem]) 903 (by omega) (by simp[go_sem]) ?_;simp only[go_sem];refine ye (Cg B.length (by omega)) rfl (by simp[go_sem]) 904 (by omega) (by simp[go_sem]) ?_;simp only[go_sem]
 refine aq (λq:Nat×List (Int×Bool)=>⟨[(26,.int .i64 q.1),(25,.int .i64 B.length),(24,.sl 9 (B.map az)),(7,.ms 23 2 0 (bE B q.1).length),(6,.mp 6 4 0 0),(5,.int .i64 B.length),(2,.mp 2 4 0 0),(0,.sl 9 (B.map az))],
   [(23,⟨315,2,(jH B q.1++q.2).map nrk,false⟩),(6,⟨252,4,[[.ms 901 1 0 B.length,.ms 902 1 0 B.length,.ms 903 1 0 B.length,.ms 904 1 0 B.length]],true⟩),
      (904,⟨3,1,(od B q.1).map ri,false⟩),(903,⟨3,1,(kl B q.1).map ri,false⟩),(902,⟨3,1,(gF B q.1).map ri,false⟩),(901,⟨3,1,(km B q.1).map ri,false⟩),(2,⟨252,4,[[.nl,.nl,.nl,.nl]],true⟩)]⟩)
  (λq=>q.1<=B.length/\∀j,j<q.1->ga B j=0) (λq=>B.length-q.1) (0,[]) ⟨cm _,λj hj=>absurd hj (Nat.not_lt_zero _)⟩ (Wk.of ?_ ?_) ?_
 .simp[go_sem,bE]
 .simp[go_sem,jH,bE,od,kl,oc,kj,km,gF,BU]
 rintro⟨i,J⟩ ⟨hi,he⟩;replace hi:i<=B.length:=hi;replace he:∀j,j<i->ga B j=0:=he;have hl:=JK B i;have hsl:=DC B i;have hdl:(kl B i).length=B.length:=by simp[kl,oa];omega
 have hhl:(od B i).length=B.length:=by simp[od,qd];omega
 have hw:(IntKind.i64.wrap (↑(bE B i).length-1))=((bE B i).length:Int)-1:=wi (by omega) (by omega);have hnt:((bE B i).length-1:Int).toNat=(bE B i).length-1:=by omega
 have hne:∀j,j<i->0<(bE B j).length:=λj hj=>XN (he j hj);rcases fV i B.length with hlt|hge
 .have hd1:decide ((i:Int)<(B.length:Int))=true:=by simp;omega
  by_cases h0:(bE B i).length=0
  .have h0':(((bE B i).length:Int)==0)=true:=by simp[h0]
   have h16:ga B i=16:=by simp only[ga,h0,aN]
   have hc:nchk B=((i:Int),16):=by rw[Hs hlt he (by rw[h16];decide),h16]
   simp only[go_sem,hd1,h0'];refine⟨by omega,by omega,aB [] ?_ ?_⟩
   .rw[dI hc (by decide)];simp[go_sem]
   .rw[dI hc (by decide)];rfl
  have h0':(((bE B i).length:Int)==0)=false:=by simp;exact λh=>h0 (by simp[h])
  have hp:0<(bE B i).length:=by omega
  obtain⟨hb1,hb2⟩:=Lu hne hp;have htop:=TH (J:=J) hp;have herr:∀e:Int,e≠0->ga B i=e->nchk B=((i:Int),e):=λe h1 h2=>by rw[Hs hlt he (by rw[h2];exact h1),h2]
  have hsucc:ga B i=0->∀j,j<i+1->ga B j=0:=λh0 j hj=>by
   rcases Nat.lt_or_eq_of_le (Nat.le_of_lt_succ hj)with h1|h1
   .exact he j h1
   .rw[h1];exact h0
  have happ:=λys=>Oi 23 315 2 (bE B i).length nrk (jH B i++J) ys (by simp[hsl]);have htk:List.take (bE B i).length (jH B i++J)=jH B i:=by rw[<-hsl];simp
  have hwi:=wi (n:=(i:Int)+1) (by omega) (by omega);by_cases hb:JF (ac B i).op=true
  .have h5:((ac B i).op==5)=false:=by simp[JF]at hb⊢;omega
   have hbe:dZ B i=false:=by simp[dZ,h5]
   have key:∀b2 b3 b4:Bool,((ac B i).op==2)=b2->((ac B i).op==3)=b3->((ac B i).op==4)=b4->(b2||b3||b4)=true->True:=λ_ _ _ _ _ _ _=>trivial;have hop:(ac B i).op=2\/(ac B i).op=3\/(ac B i).op=4:=by simp[JF]at hb;omega
   by_cases h32:(bE B i).length=32
   .have h32':(((bE B i).length:Int)==32)=true:=by simp[h32]
    have hc:=herr 6 (by decide) (by simp only[ga,ak h0,hbe,hb];simp[h32]);rcases hop with hop|hop|hop
    all_goals
     simp only[go_sem,hd1,h0',hw,hnt,htop,hop,Int.reduceBEq,h32'];refine⟨by omega,by omega,by omega,by omega,by omega,by simp;omega,by omega,by omega,aB [] ?_ ?_⟩
     .rw[dI hc (by decide)];simp[go_sem]
     .rw[dI hc (by decide)];rfl
   .have h32':(((bE B i).length:Int)==32)=false:=by simp;omega
    have hlt32:(bE B i).length<32:=by have:=FZ B i he;omega
    have he0:ga B i=0:=by simp only[ga,ak h0,hbe,hb];simp;omega
    rcases hop with hop|hop|hop
    all_goals
     have hpu:=Pm h5 hb;simp only[go_sem,hd1,h0',hw,hnt,htop,hop,Int.reduceBEq,h32',happ,htk,lh hlt,oe hlt];refine⟨by omega,by omega,by omega,by omega,by omega,by simp;omega,by omega,by omega,by omega,aF (i+1,[]) ⟨show i+1<=B.length by omega,hsucc he0⟩ (show B.length-(i+1)<B.length-i by omega) (Wk.of ?_ ?_)⟩
     .simp[go_sem,hwi,bE,BV,hb]
     .simp[go_sem,hpu,km,gF,hop]
  .have hb':JF (ac B i).op=false:=by simpa using hb
   have h2:((ac B i).op==2)=false:=by simp[JF]at hb';simp[hb']
   have h3:((ac B i).op==3)=false:=by simp[JF]at hb';simp[hb']
   have h4:((ac B i).op==4)=false:=by simp[JF]at hb';simp[hb']
   by_cases h5:((ac B i).op==5)=true
   .have h11:((ac B i).op==11)=false:=by simp at h5⊢;omega
    have hr:bE B (i+1)=bE B i:=by simp[bE,BV,hb',h11]
    have hel:=Pl hne hp hb2 h5;have hns:ac ((jH B i++J).set ((bE B i).length-1) (Ah B i,true)) ((bE B i).length-1)=(Ah B i,true):=HF (by simp;omega);simp only[go_sem,hd1,h0',hw,hnt,htop,h2,h3,h4,h5,TF,hns,lh hlt,oe hlt];have hbad:dZ B i=true->nchk B=((i:Int),16):=λhbe=>herr 16 (by decide) (by simp only[ga,ak h0,hbe,aN]);refine⟨by omega,by omega,by omega,by omega,by omega,by simp;omega,by omega,by omega,by simp;omega,λhneg=>aB [] ?_ ?_,λhneg=>⟨by simp;omega,by omega,by omega,λh4'=>aB [] ?_ ?_,λh4'=>⟨by simp;omega,λhels=>aB [] ?_ ?_,λhels=>⟨by simp;omega,by simp;omega,by omega,?_,aF (i+1,J) ⟨show i+1<=B.length by omega,hsucc ?_⟩ (show B.length-(i+1)<B.length-i by omega) (Wk.of ?_ ?_)⟩⟩⟩⟩
    .rw[dI (hbad (by simp[dZ,h5,hneg])) (by decide)];simp[go_sem]
    .rw[dI (hbad (by simp[dZ,h5,hneg])) (by decide)];rfl
    .rw[dI (hbad (by simp[dZ,h5,h4'])) (by decide)];simp[go_sem]
    .rw[dI (hbad (by simp[dZ,h5,h4'])) (by decide)];rfl
    .rw[dI (hbad (by simp[dZ,h5,hels])) (by decide)];simp[go_sem]
    .rw[dI (hbad (by simp[dZ,h5,hels])) (by decide)];rfl
    .rw[qc];omega
    .have hbe:dZ B i=false:=by simp[dZ,h4',hels];intro _;omega
     simp only[ga,ak h0,hbe,hb'];rfl
    .simp[go_sem,hwi,hr]
    .have e1:(jH B i++J).set ((bE B i).length-1) (Ah B i,true)=(jH B i).set ((bE B i).length-1) (Ah B i,true)++J:=List.set_append_left _ _ (by omega);simp only[go_sem,hel,e1,km,gF,h11,h5,qC,gR]
   .have h5':((ac B i).op==5)=false:=by simpa using h5
    have hbe:dZ B i=false:=by simp[dZ,h5']
    have he0:ga B i=0:=by simp only[ga,ak h0,hbe,hb'];rfl
    by_cases h11:((ac B i).op==11)=true
    .have hpo:=TG h5' hb' h11;have hr:bE B (i+1)=(bE B i).dropLast:=by simp[bE,BV,hb',h11]
     have e1:jH B i++J=(jH B i).dropLast++((jH B i).drop ((bE B i).length-1)++J):=by
      rw[List.dropLast_eq_take,hsl,<-xP,Ku]
     simp only[go_sem,hd1,h0',hw,hnt,htop,h2,h3,h4,h5',h11,lh hlt,oe hlt];refine⟨by omega,by omega,by omega,by omega,by omega,by simp;omega,by omega,by omega,by simp;omega,λhge=>⟨by simp;omega,by omega,?_,by omega,aF (i+1,(jH B i).drop ((bE B i).length-1)++J) ⟨show i+1<=B.length by omega,hsucc he0⟩ (show B.length-(i+1)<B.length-i by omega) (Wk.of ?_ ?_)⟩,λhge=>⟨by omega,aF (i+1,(jH B i).drop ((bE B i).length-1)++J) ⟨show i+1<=B.length by omega,hsucc he0⟩ (show B.length-(i+1)<B.length-i by omega) (Wk.of ?_ ?_)⟩⟩
     .rw[sn];omega
     .simp[go_sem,hwi,hr]
     .have hge':decide (0<=Ah B i)=true:=by simp;omega
      simp only[go_sem,hpo,<-e1,km,gF,h11,h5',hge',gR,Bool.and_self]
     .simp[go_sem,hwi,hr]
     .have hge':decide (0<=Ah B i)=false:=by simp;omega
      simp only[go_sem,hpo,<-e1,km,gF,h11,h5',hge',gR,Bool.and_false]
    .have h11':((ac B i).op==11)=false:=by simpa using h11
     have hsm:=Pn h5' hb' h11';have hr:bE B (i+1)=bE B i:=by simp[bE,BV,hb',h11']
     simp only[go_sem,hd1,h0',hw,hnt,htop,h2,h3,h4,h5',h11',lh hlt,oe hlt];refine⟨by omega,by omega,by omega,by omega,by omega,by simp;omega,by omega,by omega,aF (i+1,J) ⟨show i+1<=B.length by omega,hsucc he0⟩ (show B.length-(i+1)<B.length-i by omega) (Wk.of ?_ ?_)⟩
     .simp[go_sem,hwi,hr]
     .simp only[go_sem,hsm,km,gF,h11',h5',gR,qC]
 .have hd1:decide ((i:Int)<(B.length:Int))=false:=by simp;omega
  have hiB:i=B.length:=by omega
  subst hiB;simp only[go_sem,hd1];have hc:=JG he;refine⟨λhp=>aB [] ?_ ?_,λhp=>aB [901,902,903,904] ?_ ?_⟩
  .rw[au (by omega)]at hc;rw[dI hc (by decide)];simp[go_sem]
  .rw[au (by omega)]at hc;rw[dI hc (by decide)];rfl
  .rw[ak (by omega)]at hc;rw[FX hc];simp[go_sem,sn,qc,oa,qd,kl,od];exact⟨cI (by simp[sn]),cI (by simp[qc]),cI (by simp[oa]),cI (by simp[qd])⟩
  .rw[ak (by omega)]at hc;rw[FX hc];rfl
def TD(B:List be)(hn:B.length<1000000):aj pg 88 [.sl 9 (B.map az)] (.tup [.int .i64 (nchk B).1,.int .i64 (nchk B).2]):=by
 refine aC xT ?_;simp only[xT,go_sem];refine ab (XS B hn) ?_;by_cases h:(nchk B).2=0
 all_goals
  simp only[Ai,xC,h,go_sem];refine aB [] ?_ rfl;simp[go_sem,h]
end
section
def kb(b:Bool):ao:=⟨4,1,[[.bool b]],true⟩
def Ej(l:List be):Bool:=(nchk l).2==0
attribute[local go_sem] bZ ce az kb iG df s8 eX fQ b_
def abN(l:List be)(b:Bool)(hl:l.length<1000000):aQ pg 87 [.sl 9 (l.map az),.mp 1000 1 0 0] [(1000,kb b)] sb (λr' σ'=>r' = .tup []/\σ'=[(1000,kb (b&&Ej l))]):=by
 refine bA pQ ?_;have c:=TD l hl;unfold Ej;simp only[go_sem,pQ];refine ab (c) ?_;cases b
 .simp only[go_sem];exact cR [] _ [(1000,kb false)] ⟨rfl,rfl⟩
 .simp only[go_sem];exact cR [] _ [(1000,kb ((nchk l).2==0))] ⟨rfl,rfl⟩
def qV{l:List be}{b:Bool}{d:Option Nat}{s:St}{K:St->Prop}(hl:l.length<1000000)(h1:ah s.heap 3=some (kb b))
  (hK:K (((St.mk (dE [] s.env) ([(3,kb (b&&Ej l))]++dy [] s.heap)).put d (.tup [])))):cO pg 87 [.sl 9 (l.map az),.mp 3 1 0 0] d s K:=by
 refine dX (σ2:=[(3,kb b)]) (r3:=.tup []) (σ3:=[(3,kb (b&&Ej l))]) (abN l b hl) [(1000,3)] [] rfl rfl rfl rfl ?_ ?_ ?_ hK
 .simp[h1]
 .simp[sb,bw,i5,ah]
 .simp[ah]
def Fn{α:Type}[Inhabited α]{f:α->Bool}{l:List α}{i:Nat}(h:i<l.length):(l.take (i+1)).all f=((l.take i).all f&&f (ac l i)):=by
 rw[D_ h,List.all_append];simp
def elN(x:El):Bool:=(x.mo != 0||Ej x.o)&&x.it.all Ej
def daN(x:Da):Bool:=x.mo != 0||Ej x.o
def abV(m:Md):Ls m=(m.fs.all (λx=>Ej x.b)&&m.gs.all (λx=>Ej x.i)&&m.els.all elN&&m.ds.all daN):=rfl
def Ta{m:Md}(h:okM F4 m):aj pg 23 [gy m] (.bool (Ls m)):=by
 refine aC sE ?_;have hfs:=h.fs.1;have hgs:=h.gs.1;have hel:=h.els.1;have hds:=h.ds.1;rw[abV];simp only[go_sem,sE,gy,b_];obtain⟨B,hB⟩:∃B:Nat->Bool,∀i,B i=((m.fs.take i).all (λx=>Ej x.b)):=⟨_,λ_=>rfl⟩
 have I1:B 0=true:=by rw[hB];simp
 refine aq (λi:Nat=>⟨[(19,.int .i64 i),(18,.int .i64 m.fs.length),(17,.sl 3 (m.fs.map kM)),(4,.fn 87 [.mp 3 1 0 0]),(3,.mp 3 1 0 0),(1,.mp 1 12 0 0)],[(3,kb (B i)),(1,⟨33,12,[[.sl 2 (m.ts.map my),.sl 13 (m.ims.map pw),.sl 3 (m.fs.map kM),.sl 4 (m.tbs.map rM),.sl 3 (m.ms.map j7),.sl 3 (m.gs.map wF),.sl 3 (m.exs.map vx),.bool m.hs,.int .i64 m.st,.sl 5 (m.els.map eF),.sl 4 (m.ds.map iz),.sl 3 (m.cs.map yf)]],true⟩)]⟩) (λi=>i<=m.fs.length) (λi=>m.fs.length-i) 0 (cm _) (Wk.of ?_ ?_) ?_
 .simp only[go_sem];try simp
 .simp only[go_sem,I1];try simp[go_sem]
 intro i hi2;by_cases q1:(i:Int)<(m.fs.length:Int)
 .have hi':i<m.fs.length:=by omega
  have e8:=ey hi' (by omega);have hn:B (i+1)=(B i&&Ej (ac m.fs i).b):=by rw[hB,hB,Fn hi']
  have hl:=(eV h.bo hi').1;simp only[go_sem,aK q1];refine⟨by omega,q1,?_⟩;refine⟨by kernel_rfl,?_⟩;refine qV (b:=B i) (by omega) (by simp only[go_sem]) ?_;simp only[go_sem];refine aF (i+1) (show i+1<=m.fs.length by omega) (show m.fs.length-(i+1)<m.fs.length-i by omega) (Wk.of ?_ ?_)
  .simp only[go_sem,e8];try simp
  .simp only[go_sem,hn];try simp[go_sem]
 obtain rfl:i=m.fs.length:=by omega
 have hB1:B m.fs.length=(m.fs.all (λx=>Ej x.b)):=by rw[hB,pJ]
 rw[<-hB1];simp only[go_sem,aL q1];clear q1 hi2;generalize B m.fs.length=b1;clear hB I1 hB1 B;obtain⟨B,hB⟩:∃B:Nat->Bool,∀i,B i=(b1&&(m.gs.take i).all (λx=>Ej x.i)):=⟨_,λ_=>rfl⟩
 have I1:B 0=b1:=by rw[hB];simp
 refine aq (λi:Nat=>⟨[(31,.int .i64 i),(30,.int .i64 m.gs.length),(29,.sl 3 (m.gs.map wF)),(4,.fn 87 [.mp 3 1 0 0]),(3,.mp 3 1 0 0),(1,.mp 1 12 0 0)],[(3,kb (B i)),(1,⟨33,12,[[.sl 2 (m.ts.map my),.sl 13 (m.ims.map pw),.sl 3 (m.fs.map kM),.sl 4 (m.tbs.map rM),.sl 3 (m.ms.map j7),.sl 3 (m.gs.map wF),.sl 3 (m.exs.map vx),.bool m.hs,.int .i64 m.st,.sl 5 (m.els.map eF),.sl 4 (m.ds.map iz),.sl 3 (m.cs.map yf)]],true⟩)]⟩) (λi=>i<=m.gs.length) (λi=>m.gs.length-i) 0 (cm _) (Wk.of ?_ ?_) ?_
 .simp only[go_sem];try simp
 .simp only[go_sem,I1];try simp[go_sem]
 intro i hi2;by_cases q1:(i:Int)<(m.gs.length:Int)
 .have hi':i<m.gs.length:=by omega
  have e8:=ey hi' (by omega);have hn:B (i+1)=(B i&&Ej (ac m.gs i).i):=by rw[hB,hB,Fn hi',Bool.and_assoc]
  have hl:=(eV h.gs.2 hi').2.1;simp only[go_sem,aK q1];refine⟨by omega,q1,?_⟩;refine⟨by kernel_rfl,?_⟩;refine qV (b:=B i) (by omega) (by simp only[go_sem]) ?_;simp only[go_sem];refine aF (i+1) (show i+1<=m.gs.length by omega) (show m.gs.length-(i+1)<m.gs.length-i by omega) (Wk.of ?_ ?_)
  .simp only[go_sem,e8];try simp
  .simp only[go_sem,hn];try simp[go_sem]
 obtain rfl:i=m.gs.length:=by omega
 have hB1:B m.gs.length=(b1&&m.gs.all (λx=>Ej x.i)):=by rw[hB,pJ]
 rw[<-hB1];simp only[go_sem,aL q1];clear q1 hi2;generalize B m.gs.length=b2;clear hB I1 hB1 B;obtain⟨B,hB⟩:∃B:Nat->Bool,∀i,B i=(b2&&(m.els.take i).all elN):=⟨_,λ_=>rfl⟩
 have I1:B 0=b2:=by rw[hB];simp
 refine aq (λi:Nat=>⟨[(43,.int .i64 i),(42,.int .i64 m.els.length),(41,.sl 5 (m.els.map eF)),(4,.fn 87 [.mp 3 1 0 0]),(3,.mp 3 1 0 0),(1,.mp 1 12 0 0)],[(3,kb (B i)),(1,⟨33,12,[[.sl 2 (m.ts.map my),.sl 13 (m.ims.map pw),.sl 3 (m.fs.map kM),.sl 4 (m.tbs.map rM),.sl 3 (m.ms.map j7),.sl 3 (m.gs.map wF),.sl 3 (m.exs.map vx),.bool m.hs,.int .i64 m.st,.sl 5 (m.els.map eF),.sl 4 (m.ds.map iz),.sl 3 (m.cs.map yf)]],true⟩)]⟩) (λi=>i<=m.els.length) (λi=>m.els.length-i) 0 (cm _) (Wk.of ?_ ?_) ?_
 .simp only[go_sem];try simp
 .simp only[go_sem,I1];try simp[go_sem]
 intro i hi2;by_cases q1:(i:Int)<(m.els.length:Int)
 .have hi':i<m.els.length:=by omega
  have e8:=ey hi' (by omega);have hn:B (i+1)=(B i&&elN (ac m.els i)):=by rw[hB,hB,Fn hi',Bool.and_assoc]
  obtain⟨ho,hit⟩:=(eV h.els.2 hi').2;have hil:=(GH (eV h.els.2 hi').1).2.2.2.2;generalize hx:ac m.els i=x at*;obtain⟨b0,hb0⟩:∃b0:Bool,b0=(B i&&(x.mo != 0||Ej x.o)):=⟨_,rfl⟩
  have hn2:B (i+1)=(b0&&x.it.all Ej):=by rw[hn,hb0,elN,Bool.and_assoc]
  simp only[go_sem,aK q1,hx];refine⟨by omega,q1,?_⟩;by_cases hm:x.mo=0
  .rw[hm]at hb0;simp only[go_sem,dt hm];refine⟨by kernel_rfl,?_⟩;refine qV (b:=B i) (by have:=ho.1;omega) (by simp only[go_sem]) ?_;simp only[go_sem];rw[show(B i&&Ej x.o)=b0 by rw[hb0];simp];obtain⟨D,hD⟩:∃D:Nat->Bool,∀j,D j=(b0&&(x.it.take j).all Ej):=⟨_,λ_=>rfl⟩
   have hD0:D 0=b0:=by rw[hD];simp
   refine aq (λj:Nat=>⟨[(57,.int .i64 j),(56,.int .i64 x.it.length),(55,.sl 1 (x.it.map lQ)),(43,.int .i64 i),(42,.int .i64 m.els.length),(41,.sl 5 (m.els.map eF)),(4,.fn 87 [.mp 3 1 0 0]),(3,.mp 3 1 0 0),(1,.mp 1 12 0 0)],[(3,kb (D j)),(1,⟨33,12,[[.sl 2 (m.ts.map my),.sl 13 (m.ims.map pw),.sl 3 (m.fs.map kM),.sl 4 (m.tbs.map rM),.sl 3 (m.ms.map j7),.sl 3 (m.gs.map wF),.sl 3 (m.exs.map vx),.bool m.hs,.int .i64 m.st,.sl 5 (m.els.map eF),.sl 4 (m.ds.map iz),.sl 3 (m.cs.map yf)]],true⟩)]⟩) (λj=>j<=x.it.length) (λj=>x.it.length-j) 0 (cm _) (Wk.of ?_ ?_) ?_
   .simp only[go_sem];try simp
   .simp only[go_sem,hD0];try simp[go_sem]
   intro j hj2;by_cases q2:(j:Int)<(x.it.length:Int);rotate_left
   .obtain rfl:j=x.it.length:=by omega
    have hD1:D x.it.length=B (i+1):=by rw[hD,pJ,hn2]
    simp only[go_sem,aL q2];refine aF (i+1) (show i+1<=m.els.length by omega) (show m.els.length-(i+1)<m.els.length-i by omega) (Wk.of ?_ ?_)
    .simp only[go_sem,e8];try simp
    .simp only[go_sem,hD1];try simp[go_sem]
   have hj':j<x.it.length:=by omega
   have e9:=ey hj' (by omega);have hn3:D (j+1)=(D j&&Ej (ac x.it j)):=by rw[hD,hD,Fn hj',Bool.and_assoc]
   have hl3:=(eV hit hj').1;simp only[go_sem,aK q2];refine⟨by omega,q2,?_⟩;refine⟨by kernel_rfl,?_⟩;refine qV (b:=D j) (by omega) (by simp only[go_sem]) ?_;simp only[go_sem];refine aF (j+1) (show j+1<=x.it.length by omega) (show x.it.length-(j+1)<x.it.length-j by omega) (Wk.of ?_ ?_)
   .simp only[go_sem,e9];try simp
   .simp only[go_sem,hn3];try simp[go_sem]
  .have hb1:B i=b0:=by rw[hb0,bj hm];simp
   simp only[go_sem,aA hm,hb1];obtain⟨D,hD⟩:∃D:Nat->Bool,∀j,D j=(b0&&(x.it.take j).all Ej):=⟨_,λ_=>rfl⟩
   have hD0:D 0=b0:=by rw[hD];simp
   refine aq (λj:Nat=>⟨[(57,.int .i64 j),(56,.int .i64 x.it.length),(55,.sl 1 (x.it.map lQ)),(43,.int .i64 i),(42,.int .i64 m.els.length),(41,.sl 5 (m.els.map eF)),(4,.fn 87 [.mp 3 1 0 0]),(3,.mp 3 1 0 0),(1,.mp 1 12 0 0)],[(3,kb (D j)),(1,⟨33,12,[[.sl 2 (m.ts.map my),.sl 13 (m.ims.map pw),.sl 3 (m.fs.map kM),.sl 4 (m.tbs.map rM),.sl 3 (m.ms.map j7),.sl 3 (m.gs.map wF),.sl 3 (m.exs.map vx),.bool m.hs,.int .i64 m.st,.sl 5 (m.els.map eF),.sl 4 (m.ds.map iz),.sl 3 (m.cs.map yf)]],true⟩)]⟩) (λj=>j<=x.it.length) (λj=>x.it.length-j) 0 (cm _) (Wk.of ?_ ?_) ?_
   .simp only[go_sem];try simp
   .simp only[go_sem,hD0];try simp[go_sem]
   intro j hj2;by_cases q2:(j:Int)<(x.it.length:Int);rotate_left
   .obtain rfl:j=x.it.length:=by omega
    have hD1:D x.it.length=B (i+1):=by rw[hD,pJ,hn2]
    simp only[go_sem,aL q2];refine aF (i+1) (show i+1<=m.els.length by omega) (show m.els.length-(i+1)<m.els.length-i by omega) (Wk.of ?_ ?_)
    .simp only[go_sem,e8];try simp
    .simp only[go_sem,hD1];try simp[go_sem]
   have hj':j<x.it.length:=by omega
   have e9:=ey hj' (by omega);have hn3:D (j+1)=(D j&&Ej (ac x.it j)):=by rw[hD,hD,Fn hj',Bool.and_assoc]
   have hl3:=(eV hit hj').1;simp only[go_sem,aK q2];refine⟨by omega,q2,?_⟩;refine⟨by kernel_rfl,?_⟩;refine qV (b:=D j) (by omega) (by simp only[go_sem]) ?_;simp only[go_sem];refine aF (j+1) (show j+1<=x.it.length by omega) (show x.it.length-(j+1)<x.it.length-j by omega) (Wk.of ?_ ?_)
   .simp only[go_sem,e9];try simp
   .simp only[go_sem,hn3];try simp[go_sem]
 obtain rfl:i=m.els.length:=by omega
 have hB1:B m.els.length=(b2&&m.els.all elN):=by rw[hB,pJ]
 rw[<-hB1];simp only[go_sem,aL q1];clear q1 hi2;generalize B m.els.length=b3;clear hB I1 hB1 B;obtain⟨B,hB⟩:∃B:Nat->Bool,∀i,B i=(b3&&(m.ds.take i).all daN):=⟨_,λ_=>rfl⟩
 have I1:B 0=b3:=by rw[hB];simp
 refine aq (λi:Nat=>⟨[(69,.int .i64 i),(68,.int .i64 m.ds.length),(67,.sl 4 (m.ds.map iz)),(4,.fn 87 [.mp 3 1 0 0]),(3,.mp 3 1 0 0),(1,.mp 1 12 0 0)],[(3,kb (B i)),(1,⟨33,12,[[.sl 2 (m.ts.map my),.sl 13 (m.ims.map pw),.sl 3 (m.fs.map kM),.sl 4 (m.tbs.map rM),.sl 3 (m.ms.map j7),.sl 3 (m.gs.map wF),.sl 3 (m.exs.map vx),.bool m.hs,.int .i64 m.st,.sl 5 (m.els.map eF),.sl 4 (m.ds.map iz),.sl 3 (m.cs.map yf)]],true⟩)]⟩) (λi=>i<=m.ds.length) (λi=>m.ds.length-i) 0 (cm _) (Wk.of ?_ ?_) ?_
 .simp only[go_sem];try simp
 .simp only[go_sem,I1];try simp[go_sem]
 intro i hi2;by_cases q1:(i:Int)<(m.ds.length:Int)
 .have hi':i<m.ds.length:=by omega
  have e8:=ey hi' (by omega);have hn:B (i+1)=(B i&&daN (ac m.ds i)):=by rw[hB,hB,Fn hi',Bool.and_assoc]
  have hl:=(eV h.ds.2 hi').2.2.2.1;generalize hx:ac m.ds i=x at*;unfold daN at hn;by_cases hm:x.mo=0
  .rw[hm]at hn;simp only[go_sem,aK q1,hx,dt hm];refine⟨by omega,q1,?_⟩;refine⟨by kernel_rfl,?_⟩;refine qV (b:=B i) (by omega) (by simp only[go_sem]) ?_;simp only[go_sem];refine aF (i+1) (show i+1<=m.ds.length by omega) (show m.ds.length-(i+1)<m.ds.length-i by omega) (Wk.of ?_ ?_)
   .simp only[go_sem,e8];try simp
   .simp only[go_sem,hn];try simp[go_sem]
  .rw[bj hm,eC,qE]at hn;simp only[go_sem,aK q1,hx,aA hm];refine⟨by omega,q1,?_⟩;refine aF (i+1) (show i+1<=m.ds.length by omega) (show m.ds.length-(i+1)<m.ds.length-i by omega) (Wk.of ?_ ?_)
   .simp only[go_sem,e8];try simp
   .simp only[go_sem,hn];try simp[go_sem]
 obtain rfl:i=m.ds.length:=by omega
 have hB1:B m.ds.length=(b3&&m.ds.all daN):=by rw[hB,pJ]
 rw[<-hB1];simp only[go_sem,aL q1];clear q1 hi2;generalize B m.ds.length=b4;clear hB I1 hB1 B;exact an
end
section
attribute[local go_sem] wo wa
def YZ(l:List fW)(hl:l.length<=10000)(ht:tot l<=900000000)(hnm:∀s∈l,s.name.length<=64):aj pg 30 [.sl 3 (l.map pG)] (.tup [.sl 1 ((Lh l).2.map de),.int .i64 (Lh l).1]):=by
 refine aC uo ?_;simp only[go_sem,uo];refine qX 904 905 (by decide) (by decide) (by decide) (by simp only[go_sem]) (by simp only[go_sem]) ?_;have ch:=fU true [] Il 0 ⟨by simp,by decide⟩;rw[show wB (true&&(0:Int)==0) [] Il=Il from rfl]at ch;simp only[go_sem];refine dY [15] (k:=904) (j:=905) (ch) (by decide) (by decide) (by decide) (by decide) (by first|rfl|simp[go_sem,bU]) (by simp[go_sem]) ?_ (by rfl) (by rfl) ?_
 .simp only[go_sem];rfl
 simp only[go_sem];refine aq (λq:Nat×Int×Af=>⟨[(4,.mp 904 3 0 0),(5,.int .i64 q.2.1),(20,.int .i64 (q.1:Nat)),(19,.int .i64 l.length),(18,.sl 3 (l.map pG))],[(904,wo 905 true q.2.2 0),(905,wa q.2.2)]⟩) (λq=>q.1<=l.length/\0<=q.2.1/\q.2.2.length<=8+tot (l.take q.1)+11*q.1/\Xf (l.drop q.1) q.2.1 q.2.2=joi l) (λq=>l.length-q.1) (0,0,Il) ⟨cm _,Int.le_refl _,by simp[Il],rfl⟩ (Wk.of ?_ ?_) ?_
 .simp only[go_sem];try simp
 .simp only[go_sem];try simp[go_sem]
 rintro⟨i,last,w⟩ ⟨hi,hla,hw,hj⟩;replace hi:i<=l.length:=hi;replace hla:0<=last:=hla;replace hw:w.length<=8+tot (l.take i)+11*i:=hw;replace hj:Xf (l.drop i) last w=joi l:=hj;have htl:=Vg l i;have e8:=wi (n:=(i:Int)+1) (by omega) (by omega);by_cases h1:(i:Int)<(l.length:Int)
 .have hi':i<l.length:=by omega
  have htk:=Vh hi';have hts:=Vg l (i+1);have ferr:∀e,Lg (ac l i) last=e->e≠0->Lh l=(e,[]):=λe h h2=>by
   have h3:joi l=(e,[]):=by rw[<-hj,Xg hi' (by rw[h];exact h2),h]
   rw[Lh,ak (by rw[h3];exact λq=>h2 q.1),h3]
  by_cases c1:(ac l i).id<0
  .rw[ferr 4 (SP (.inl c1)) (by decide)];simp only[go_sem,aK h1,aK c1];exact⟨by omega,h1,bN (Wk.nls _ 2 1 (by simp only[go_sem])) [] (by first|rfl|simp only[go_sem]) rfl⟩
  by_cases c2:(ac l i).id>12
  .rw[ferr 4 (SP (.inr (.inl c2))) (by decide)];simp only[go_sem,aK h1,aL c1,aK c2];exact⟨by omega,h1,bN (Wk.nls _ 2 1 (by simp only[go_sem])) [] (by first|rfl|simp only[go_sem]) rfl⟩
  have hpc:=DH (ac l i).id;have hla2:(0:Int)<=max last (gd (ac l i).id):=by omega
  have w8:IntKind.u8.wrap (ac l i).id=((UInt8.ofNat (ac l i).id.toNat).toNat:Int):=by rw[ofNat_toNat (by omega),rH];omega
  have hil:=WL (ac l i);have hnl:=eV hnm hi';have hpn:=yP (n:=(ac l i).name.length) (by omega);have hpi:=yP (n:=(C4 (ac l i)).length) (by omega);have hel:(r_ (ac l i)).length=1+(aD (C4 (ac l i)).length).length+(C4 (ac l i)).length:=by simp[r_];omega
  have hw2:(w++r_ (ac l i)).length<=8+tot (l.take (i+1))+11*(i+1):=by rw[cP];omega
  have cy:=vr true w (UInt8.ofNat (ac l i).id.toNat) 0 (by omega);rw[show wB (true&&(0:Int)==0) w [UInt8.ofNat (ac l i).id.toNat]=w++[UInt8.ofNat (ac l i).id.toNat] from rfl]at cy;have cp:=H3 true (w++[UInt8.ofNat (ac l i).id.toNat]) 0 (by simp;omega) true (C4 (ac l i)) 0 (by omega);have rp:wP (true&&(0:Int)==0) (w++[UInt8.ofNat (ac l i).id.toNat]) 0 true (C4 (ac l i)) 0=(w++r_ (ac l i),0):=by simp[wP,wB,r_]
  rw[rp]at cp;by_cases c0:(ac l i).id=0
  .obtain⟨j1,j2⟩:=ae8 (last:=last) c0;have hmx:max last (gd (ac l i).id)=last:=by rw[c0,F5 (by omega)];omega
   have d5:decide ((ac l i).id=0\/gd (ac l i).id>last)=true:=aK (.inl c0);simp only[go_sem,aK h1,aL c1,aL c2,aI c0,dt c0];refine⟨by omega,h1,?_⟩;refine ab (H1 (ac l i).id last) ?_;simp only[go_sem,d5,dk,au c0];refine qX 906 907 (by decide) (by decide) (by decide) (by simp only[go_sem]) (by simp only[go_sem]) ?_;simp only[go_sem,dt c0];have cn:=NN true [] (ac l i).name 0 ⟨by simp,by omega⟩;rw[show(true&&(0:Int)==0)=true from rfl]at cn;refine aT [] (k:=906) (j:=907) (cn) ?_;by_cases he:(wN true [] 0 (ac l i).name).2=0
   .have hok:Lg (ac l i) last=0:=by rw[j1];exact he
    have hin:aD (ac l i).name.length++(ac l i).name++gb (ac l i).bs=C4 (ac l i):=by rw[C4,au c0]
    have cB:=fU true (aD (ac l i).name.length++(ac l i).name) (gb (ac l i).bs) 0 ⟨by simp;omega,by omega⟩;rw[show wB (true&&(0:Int)==0) (aD (ac l i).name.length++(ac l i).name) (gb (ac l i).bs)=C4 (ac l i) from hin]at cB;simp only[go_sem,he,j2 he];refine GF [.mp 906 3 0 0,.sl 1 ((gb (ac l i).bs).map de)] ⟨.inl rfl,Hw _,trivial⟩ ?_;refine aT [] (k:=906) (j:=907) (cB) ?_;simp only[go_sem,w8];refine aT [] (k:=904) (j:=905) (cy) ?_;simp only[go_sem];refine dX (σ2:=[(904,wo 905 true (w++[UInt8.ofNat (ac l i).id.toNat]) 0),(905,wa (w++[UInt8.ofNat (ac l i).id.toNat])),(906,wo 907 true (C4 (ac l i)) 0),(907,wa (C4 (ac l i)))]) (r3:=.tup []) (σ3:=[(904,wo 905 true (w++r_ (ac l i)) 0),(905,wa (w++r_ (ac l i))),(906,wo 907 true (C4 (ac l i)) 0),(907,wa (C4 (ac l i)))]) cp [(1000,904),(2000,905),(1001,906),(2001,907)] [905,907] rfl rfl rfl rfl ?_ ?_ ?_ ?_
    .simp only[go_sem];simp
    .simp only[go_sem];simp[sb,bw,i5,ah]
    .simp only[go_sem];simp[ah]
    have cd:=yZ true (w++r_ (ac l i)) 0 (by omega);rw[show wD true (w++r_ (ac l i)) 0=(some (w++r_ (ac l i)),0) from rfl]at cd;simp only[go_sem];refine aT [] (k:=904) (j:=905) (cd) ?_;simp only[go_sem];refine aF (i+1,max last (gd (ac l i).id),w++r_ (ac l i)) ⟨hi',hla2,hw2,by rw[<-I8 hi' hok,hj]⟩ (show l.length-(i+1)<l.length-i by omega) (Wk.of ?_ ?_)
    .simp only[go_sem,e8,hmx]
     try simp
    .simp only[go_sem]
     try simp[go_sem]
   .have hf:(true&&(wN true [] 0 (ac l i).name).2==0)=false:=by rw[aA he];rfl
    have hnl:(wN true [] 0 (ac l i).name).1.length<1000:=by
     have:=hpn;unfold wN;simp only[aN]
     repeat' split
     all_goals simp only[cP,cj]
     all_goals omega
    have cB:=fU true (wN true [] 0 (ac l i).name).1 (gb (ac l i).bs) (wN true [] 0 (ac l i).name).2 ⟨by omega,by omega⟩;rw[show wB (true&&(wN true [] 0 (ac l i).name).2==0) (wN true [] 0 (ac l i).name).1 (gb (ac l i).bs)=(wN true [] 0 (ac l i).name).1 by rw[hf];rfl]at cB;have cq:=H3 true (w++[UInt8.ofNat (ac l i).id.toNat]) 0 (by simp;omega) true (wN true [] 0 (ac l i).name).1 (wN true [] 0 (ac l i).name).2 (by omega);have rq:wP (true&&(0:Int)==0) (w++[UInt8.ofNat (ac l i).id.toNat]) 0 true (wN true [] 0 (ac l i).name).1 (wN true [] 0 (ac l i).name).2=(w++[UInt8.ofNat (ac l i).id.toNat],(wN true [] 0 (ac l i).name).2):=by simp[wP,he]
    rw[rq]at cq;have cd:=yZ true (w++[UInt8.ofNat (ac l i).id.toNat]) (wN true [] 0 (ac l i).name).2 (by simp;omega);rw[show wD true (w++[UInt8.ofNat (ac l i).id.toNat]) (wN true [] 0 (ac l i).name).2=(none,(wN true [] 0 (ac l i).name).2)by simp[wD,he]]at cd;rw[ferr _ j1 he];simp only[go_sem];refine GF [.mp 906 3 0 0,.sl 1 ((gb (ac l i).bs).map de)] ⟨.inl rfl,Hw _,trivial⟩ ?_;refine aT [] (k:=906) (j:=907) (cB) ?_;simp only[go_sem,w8];refine aT [] (k:=904) (j:=905) (cy) ?_;simp only[go_sem];refine dX (σ2:=[(904,wo 905 true (w++[UInt8.ofNat (ac l i).id.toNat]) 0),(905,wa (w++[UInt8.ofNat (ac l i).id.toNat])),(906,wo 907 true (wN true [] 0 (ac l i).name).1 (wN true [] 0 (ac l i).name).2),(907,wa (wN true [] 0 (ac l i).name).1)]) (r3:=.tup []) (σ3:=[(904,wo 905 true (w++[UInt8.ofNat (ac l i).id.toNat]) (wN true [] 0 (ac l i).name).2),(905,wa (w++[UInt8.ofNat (ac l i).id.toNat])),(906,wo 907 true (wN true [] 0 (ac l i).name).1 (wN true [] 0 (ac l i).name).2),(907,wa (wN true [] 0 (ac l i).name).1)]) cq [(1000,904),(2000,905),(1001,906),(2001,907)] [905,907] rfl rfl rfl rfl ?_ ?_ ?_ ?_
    .simp only[go_sem];simp
    .simp only[go_sem];simp[sb,bw,i5,ah]
    .simp only[go_sem];simp[ah]
    simp only[go_sem];refine aT [] (k:=904) (j:=905) (cd) ?_;simp only[go_sem,bj he];exact bN (Wk.nls _ 2 1 (by simp only[go_sem])) [] (by first|rfl|simp only[go_sem]) rfl
  .by_cases cn:(ac l i).name=[]
   .have n1:((ac l i).name==[])=true:=by rw[cn];rfl
    simp only[go_sem,aK h1,aL c1,aL c2,bj c0,n1];refine⟨by omega,h1,?_⟩;refine ab (H1 (ac l i).id last) ?_;by_cases hp:gd (ac l i).id<=last
    .rw[ferr 7 (ae9 (by omega) cn hp) (by decide)];simp only[go_sem,aL (show ¬((ac l i).id=0\/gd (ac l i).id>last)by omega),cG];exact bN (Wk.nls _ 2 1 (by simp only[go_sem])) [] (by first|rfl|simp only[go_sem]) rfl
    .have hok:=abv (last:=last) (show 1<=(ac l i).id/\(ac l i).id<=12 by omega) cn hp;have hmx:max last (gd (ac l i).id)=gd (ac l i).id:=by omega
     have hin:([]:Af)++gb (ac l i).bs=C4 (ac l i):=by rw[C4,ak c0];rfl
     simp only[go_sem,aK (show((ac l i).id=0\/gd (ac l i).id>last)by omega),dk,ak c0];refine qX 906 907 (by decide) (by decide) (by decide) (by simp only[go_sem]) (by simp only[go_sem]) ?_;simp only[go_sem,aA c0];have cB:=fU true [] (gb (ac l i).bs) 0 ⟨by simp,by omega⟩;rw[show wB (true&&(0:Int)==0) [] (gb (ac l i).bs)=C4 (ac l i) from hin]at cB;refine GF [.mp 906 3 0 0,.sl 1 ((gb (ac l i).bs).map de)] ⟨.inl rfl,Hw _,trivial⟩ ?_;refine aT [] (k:=906) (j:=907) (cB) ?_;simp only[go_sem,w8];refine aT [] (k:=904) (j:=905) (cy) ?_;simp only[go_sem];refine dX (σ2:=[(904,wo 905 true (w++[UInt8.ofNat (ac l i).id.toNat]) 0),(905,wa (w++[UInt8.ofNat (ac l i).id.toNat])),(906,wo 907 true (C4 (ac l i)) 0),(907,wa (C4 (ac l i)))]) (r3:=.tup []) (σ3:=[(904,wo 905 true (w++r_ (ac l i)) 0),(905,wa (w++r_ (ac l i))),(906,wo 907 true (C4 (ac l i)) 0),(907,wa (C4 (ac l i)))]) cp [(1000,904),(2000,905),(1001,906),(2001,907)] [905,907] rfl rfl rfl rfl ?_ ?_ ?_ ?_
     .simp only[go_sem];simp
     .simp only[go_sem];simp[sb,bw,i5,ah]
     .simp only[go_sem];simp[ah]
     have cd:=yZ true (w++r_ (ac l i)) 0 (by omega);rw[show wD true (w++r_ (ac l i)) 0=(some (w++r_ (ac l i)),0) from rfl]at cd;simp only[go_sem];refine aT [] (k:=904) (j:=905) (cd) ?_;simp only[go_sem];refine aF (i+1,max last (gd (ac l i).id),w++r_ (ac l i)) ⟨hi',hla2,hw2,by rw[<-I8 hi' hok,hj]⟩ (show l.length-(i+1)<l.length-i by omega) (Wk.of ?_ ?_)
     .simp only[go_sem,e8,hmx]
      try simp
     .simp only[go_sem]
      try simp[go_sem]
   .rw[ferr 4 (SP (.inr (.inr ⟨c0,cn⟩))) (by decide)];have n1:((ac l i).name==[])=false:=by simpa using cn
    simp only[go_sem,aK h1,aL c1,aL c2,bj c0,n1];exact⟨by omega,h1,bN (Wk.nls _ 2 1 (by simp only[go_sem])) [] (by first|rfl|simp only[go_sem]) rfl⟩
 .have r0:joi l=(0,w):=by rw[<-hj,List.drop_of_length_le (by omega)];rfl
  have cl:=adf true w 0;rw[show(if(true&&(0:Int)==0)=true then(w.length:Int)else 0)=(w.length:Int) from rfl]at cl;have cd:=yZ true w 0 (by omega);rw[show wD true w 0=(some w,0) from rfl]at cd;unfold Lh;rw[r0];by_cases hb:(w.length:Int)>262144
  .rw[au ⟨rfl,by show w.length>262144;omega⟩];simp only[go_sem,aL h1];refine aT [] (k:=904) (j:=905) (cl) ?_;simp only[go_sem,aK hb];exact bN (Wk.nls _ 2 1 (by simp only[go_sem])) [] (by first|rfl|simp only[go_sem]) rfl
  rw[ak (λq=>hb (by have h2:w.length>262144:=q.2;omega))];simp only[go_sem,aL h1];refine aT [] (k:=904) (j:=905) (cl) ?_;simp only[go_sem,aL hb];refine aT [] (k:=904) (j:=905) (cd) ?_;simp only[go_sem];exact an
end
section
def toS(c:Cu):fW:=⟨0,c.n,some c.b⟩
def EC(p:Int):List Cu->List fW
 | []=>[]
 | c::cs=>if c.af=p then toS c::EC p cs else[]
def EB(p:Int):List Cu->List Cu
 | []=>[]
 | c::cs=>if c.af=p then EB p cs else c::cs
def P8(cs:List Cu):ao:=⟨31,1,[[.sl 3 (cs.map yf)]],true⟩
def Qe(q:Nat)(l:List fW):ao:=⟨65,1,[[.ms q 3 0 l.length]],true⟩
def pa(l:List fW):ao:=⟨69,3,l.map pG,false⟩
def adj(c:Cu)(cs:List Cu):qR 3 (.sl 3 ((c::cs).map yf)) (some (.int .i64 1)) none none=some (.sl 3 (cs.map yf)):=by
 have h1:bQ 0 (some (.int .i64 1))=some 1:=rfl;simp[qR,bQ];exact cI (by simp)
attribute[local go_sem] bZ fv P8 Qe pa
def XF(p:Int):∀(cs:List Cu)(l:List fW)(hc:cs.length<=8)(hl:l.length<=1000),aQ pg 25 [.int .i64 p,.mp 1000 1 0 0,.mp 1001 1 0 0] [(1000,P8 cs),(1001,Qe 2000 l),(2000,pa l)] sb (λr' σ'=>r' = .tup []/\σ'=[(1000,P8 (EB p cs)),(1001,Qe 2000 (l++EC p cs)),(2000,pa (l++EC p cs))]):=by
 intro cs l hc hl;refine bA pK ?_;obtain⟨R,hR⟩:∃R,l++EC p cs=R:=⟨_,rfl⟩
 obtain⟨D,hD⟩:∃D,EB p cs=D:=⟨_,rfl⟩
 rw[hR,hD];simp only[go_sem,pK];refine aq (λq:List Cu×List fW=>⟨[(2,.mp 1001 1 0 0),(1,.mp 1000 1 0 0),(0,.int .i64 p)],[(1000,P8 q.1),(1001,Qe 2000 q.2),(2000,pa q.2)]⟩) (λq=>q.2++EC p q.1=R/\EB p q.1=D/\q.1.length+q.2.length<=1008) (λq=>q.1.length) (cs,l) ⟨hR,hD,by simp only;omega⟩ (Wk.of ?_ ?_) ?_
 .simp only[go_sem];try simp
 .simp only[go_sem];try simp[go_sem]
 rintro⟨C,L⟩ ⟨h1,h2,h3⟩;simp only at h1 h2 h3;rcases C with _|⟨c,C⟩
 .simp only[EC,m_,EB]at h1 h2;subst h1 h2;have d0:decide (((([]:List Cu).length:Nat):Int)>0)=false:=rfl;generalize ([]:List Cu)=E at*;simp only[go_sem,d0];exact cR [] _ [(1000,P8 E),(1001,Qe 2000 L),(2000,pa L)] ⟨rfl,rfl⟩
 have d0:decide ((((c::C).length:Nat):Int)>0)=true:=aK (by simp<;>omega);have hn:ac (c::C) 0=c:=rfl;have hsl:=adj c C;have hlt:(0:Int)<(((c::C).length:Nat):Int):=by simp<;>omega
 by_cases q:c.af=p;rotate_left
 .simp only[EC,EB,ak q,m_]at h1 h2;subst h1 h2;generalize c::C=E at*;simp only[go_sem,d0,hn,aA q];refine⟨by omega,hlt,?_⟩;exact cR [] _ [(1000,P8 E),(1001,Qe 2000 L),(2000,pa L)] ⟨rfl,rfl⟩
 .simp only[EC,EB,au q]at h1 h2;rw[i0]at h3;have hap:xf 2000 69 3 0 L.length [[.int .i64 0,.str c.n,.sl 1 (c.b.map de)]] (some ⟨69,3,L.map pG,false⟩)=some (.ms 2000 3 0 (L++[toS c]).length,.reb 2000 ⟨69,3,(L++[toS c]).map pG,false⟩):=by
   rw[bq 2000 69 3 _ pG _ _ rfl,au ⟨by simp,by omega,.inr (by decide)⟩];simp[toS,pG,Kf]
  generalize hE:c::C=E at*;simp only[go_sem,d0,hn,dt q,hsl,hap];refine⟨by omega,hlt,by omega,hlt,by omega,hlt,?_⟩;refine aF (C,L++[toS c]) ⟨by rw[<-h1];simp,h2,by simp only[cP,dK];omega⟩ (by subst hE;simp) (Wk.of ?_ ?_)
  .simp only[go_sem];try simp
  .simp only[go_sem];try simp[go_sem]
def CC{p:Int}{cs:List Cu}{l:List fW}{d:Option Nat}{s:St}{K:St->Prop}(hc:cs.length<=8)(hl:l.length<=1000)(h0:ah s.heap 6=some (P8 cs))(h1:ah s.heap 5=some (Qe 900 l))(h2:ah s.heap 900=some (pa l))
  (hK:K (((St.mk (dE [900] s.env) ([(6,P8 (EB p cs)),(5,Qe 900 (l++EC p cs)),(900,pa (l++EC p cs))]++dy [900] s.heap)).put d (.tup [])))):cO pg 25 [.int .i64 p,.mp 6 1 0 0,.mp 5 1 0 0] d s K:=by
 have hsec:∀l:List fW,(iY (bw [(1000,6),(1001,5),(2000,900)]) (pa l))=pa l:=λl=>rfl;refine dX (σ2:=[(6,P8 cs),(5,Qe 900 l),(900,pa l)]) (r3:=.tup []) (σ3:=[(6,P8 (EB p cs)),(5,Qe 900 (l++EC p cs)),(900,pa (l++EC p cs))]) (XF p cs l hc hl) [(1000,6),(1001,5),(2000,900)] [900] rfl rfl rfl rfl ?_ ?_ ?_ hK
 .simp[h0,h1,h2]
 .simp[sb,bw,i5,ah]
 .simp[ah]
def LF(m:Md):List Cu->List Int->List fW
 | _,[]=>[]
 | cs,p::l=>⟨Ra p,[],some (CH m p)⟩::(EC p cs++LF m (EB p cs) l)
def K4{p:Int}:∀(cs:List Cu),cs.Pairwise (λx y=>x.af<=y.af)->(∀c∈cs,p<=c.af)->EC p cs=(uD cs p).map toS/\(∀q,q≠p->uD (EB p cs) q=uD cs q)/\(EB p cs).Pairwise (λx y=>x.af<=y.af)/\(∀c∈EB p cs,c∈cs/\p<c.af)
 | [],_,_=>⟨rfl,λ_ _=>rfl,.nil,λc h=>by cases h⟩
 | c::cs,hs,hp=>by
  rw[List.pairwise_cons]at hs;obtain⟨i1,i2,i3,i4⟩:=K4 cs hs.2 λx hx=>hp x (by simp[hx]);have hc:=hp c (by simp);by_cases q:c.af=p
  .rw[EC,EB,au q,au q,KV,au q,eG,<-i1];refine⟨rfl,λr hr=>?_,i3,λx hx=>⟨by simp[(i4 x hx).1],(i4 x hx).2⟩⟩;rw[i2 r hr,KV,ak (by omega)]
  .have lo:∀x∈cs,p<x.af:=λx hx=>by have:=hs.1 x hx;omega
   rw[EC,EB,ak q,ak q,KV,ak q,Wn lo];refine⟨rfl,λr _=>rfl,List.pairwise_cons.2 hs,λx hx=>⟨hx,?_⟩⟩;rcases dQ.1 hx with rfl|hx
   .omega
   .exact lo x hx
def HN(m:Md)(cs:List Cu):List Int->List fW
 | []=>[]
 | p::l=>⟨Ra p,[],some (CH m p)⟩::((uD cs p).map toS++HN m cs l)
def LG{m:Md}{cs cs':List Cu}:∀l:List Int,(∀q∈l,uD cs' q=uD cs q)->HN m cs' l=HN m cs l
 | [],_=>rfl
 | p::l,h=>by rw[HN,HN,h p (by simp),LG l λq hq=>h q (by simp[hq])]
def T9{m:Md}:∀(l:List Int)(cs:List Cu),l.Pairwise (· < ·)->cs.Pairwise (λx y=>x.af<=y.af)->(∀c∈cs,c.af∈l)->LF m cs l=HN m cs l
 | [],_,_,_,_=>rfl
 | p::l,cs,hl,hs,hin=>by
  rw[List.pairwise_cons]at hl;obtain⟨i1,i2,i3,i4⟩:=K4 (p:=p) cs hs λc hc=>by
   rcases dQ.1 (hin c hc)with q|q
   .omega
   .have:=hl.1 _ q;omega
  rw[LF,HN,i1,T9 l (EB p cs) hl.2 i3 λc hc=>by
   obtain⟨j1,j2⟩:=i4 c hc;rcases dQ.1 (hin c j1)with q|q
   .omega
   .exact q,LG l λq hq=>i2 q (by have:=hl.1 q hq;omega)]
def Nx{ps:List Int}:∀(cs:List Cu)(l:Int),E0 ps l cs=true->cs.Pairwise (λx y=>x.af<=y.af)/\∀c∈cs,l<=c.af
 | [],_,_=>⟨.nil,λc h=>by cases h⟩
 | c::cs,l,ho=>by
  rw[E0]at ho;simp only[cW,tK,Bool.or_eq_false_iff,decide_eq_false_iff_not]at ho;obtain⟨⟨h1,h2⟩,h3⟩:=ho;obtain⟨g1,g2⟩:=Nx cs c.af h3;refine⟨List.pairwise_cons.2 ⟨g2,g1⟩,λx hx=>?_⟩;rcases dQ.1 hx with rfl|hx
  .omega
  .have:=g2 x hx;omega
def T_(m:Md):∀l:List Int,HN m m.cs l=E4 m l
 | []=>rfl
 | p::l=>by rw[HN,E4,T_ m l];rfl
def acA{m:Md}(h:Pr m=true):EC 0 m.cs++LF m (EB 0 m.cs) (xG m)=Yq m:=by
 obtain⟨g1,g2⟩:=Nx m.cs 0 h;have hin:=Nw m.cs 0 h;have hl:=NC m;rw[List.pairwise_cons]at hl;obtain⟨i1,i2,i3,i4⟩:=K4 (p:=0) m.cs g1 g2
 rw[i1,T9 (xG m) _ hl.2 i3 λc hc=>by
  obtain⟨j1,j2⟩:=i4 c hc;rcases hin c j1 with q|q
  .omega
  .exact q,LG (xG m) λq hq=>i2 q (by have:=hl.1 q hq;omega),T_]
 rfl
def GM(p:Int):∀cs:List Cu,(EB p cs).length<=cs.length/\(EC p cs).length<=cs.length
 | []=>⟨a_ _,a_ _⟩
 | c::cs=>by
  have:=GM p cs;rw[EB,EC];split
  .simp only[i0];omega
  .simp
end
section
def ZH:∀l:List Fa,(CS l).c=0->CS l=nY
 | [],_=>rfl
 | F::r,h=>by
  rw[CS]at h⊢;by_cases q:F.c≠0
  .rw[au q]at h;exact absurd h q
  .rw[ak q]at h⊢;exact ZH r h
def afh{m:Md}(hm:U4 m):(vy F4 m).c=0↔okM F4 m:=by
 rw[<-abJ hm];constructor
 .intro h;rw[SZ F4 m hm]at h⊢;exact ZH _ h
 .intro h;rw[h];rfl
def TJ(m:Md):Prop:=(∀x∈m.fs,JP x.b)/\(∀x∈m.gs,JP x.i)/\(∀x∈m.els,JP x.o/\∀l∈x.it,JP l)/\∀x∈m.ds,JP x.o
attribute[local go_sem] bZ b_ P8 Qe pa wo wa
def De{m:Md}(hs:U4 m)(hn:TJ m)(hI:Sr m<=6000):aj pg 12 [gy m] (.tup [.sl 1 ((qZ m).2.map de),.int .i64 (qZ m).1]):=by
 refine aC sD ?_;have c1:=S_ F4 m hs ago;simp only[gy,b_]at c1;simp only[go_sem,sD,gy];refine ab (c1) ?_;by_cases hL:(vy F4 m).c=0;rotate_left
 .have r:qZ m=((vy F4 m).c,[]):=by unfold qZ;rw[au hL]
  rw[r];simp only[go_sem,bj hL];exact bN (Wk.nls _ 2 1 (by simp only[go_sem])) [] (by first|rfl|simp only[go_sem]) rfl
 have hok:=(afh hs).1 hL;have c2:=Ta hok;simp only[gy,b_]at c2;simp only[go_sem,aI hL];refine ab (c2) ?_;cases hne:Ls m
 .have r:qZ m=(16,[]):=by unfold qZ;rw[ak (by simp[hL]),au hne]
  rw[r];simp only[go_sem];exact bN (Wk.nls _ 2 1 (by simp only[go_sem])) [] (by first|rfl|simp only[go_sem]) rfl
 have c3:=Pe (m:=m) (by have:=hok.cs.1;omega);simp only[gy,b_]at c3;simp only[go_sem];refine ab (c3) ?_;cases hor:Pr m
 .have r:qZ m=(7,[]):=by unfold qZ;rw[ak (by simp[hL]),ak (by simp[hne]),au hor]
  rw[r];simp only[go_sem];exact bN (Wk.nls _ 2 1 (by simp only[go_sem])) [] (by first|rfl|simp only[go_sem]) rfl
 have r:qZ m=Lh (Yq m):=by unfold qZ;rw[ak (by simp[hL]),ak (by simp[hne]),ak (by simp[hor])]
 rw[r];have h:Lw m:=⟨hok,hne,hor,hn⟩
 have htot:ml m<=6000:=by have:=Ss hok;omega
 obtain⟨b1,b2,b3⟩:=afT h htot;have c4:=Tl m;simp only[gy,b_]at c4;have c7:=YZ (Yq m) b2 b1 b3;have hcs:=hok.cs.1;obtain⟨l0,l1⟩:=GM 0 m.cs;simp only[go_sem];refine⟨by kernel_rfl,?_⟩;refine iC (Es.new0 _ _ 900 3 69 (by decide) (by simp[go_sem])) ?_;refine iC (Es.nlm _ _ 5 (t:=65) (st:=1) (r:=[.nl]) (r':=[.ms 900 3 0 0]) (by simp only[go_sem]) ⟨.inr ⟨rfl,.inr ⟨900,3,rfl⟩⟩,trivial⟩) ?_;refine CC (cs:=m.cs) (l:=[]) (by omega) (by simp) (by simp only[go_sem]) (by simp only[go_sem]) (by simp only[go_sem]) ?_;simp only[go_sem,fo];refine ab (c4) ?_;have hpf:=acA hor;have hpl:=DJ m;have hpi:=Yn m;have hp8:(8:Int)∈xG m->m.hs=true:=λq=>(JX q).2.2.2.2.2.2.2.1 rfl;have hbb:=λp h8=>IM h htot p h8;generalize xG m=ps at*;simp only[go_sem];refine aq (λq:Nat×List Cu×List fW=>⟨[(37,.int .i64 q.1),(36,.int .i64 ps.length),(35,.sl 1 (ps.map ri)),(7,.fn 25 [.mp 6 1 0 0,.mp 5 1 0 0]),(6,.mp 6 1 0 0),(5,.mp 5 1 0 0),(1,.mp 1 12 0 0)],[(6,P8 q.2.1),(5,Qe 900 q.2.2),(900,pa q.2.2),(1,⟨33,12,[[.sl 2 (m.ts.map my),.sl 13 (m.ims.map pw),.sl 3 (m.fs.map kM),.sl 4 (m.tbs.map rM),.sl 3 (m.ms.map j7),.sl 3 (m.gs.map wF),.sl 3 (m.exs.map vx),.bool m.hs,.int .i64 m.st,.sl 5 (m.els.map eF),.sl 4 (m.ds.map iz),.sl 3 (m.cs.map yf)]],true⟩)]⟩) (λq=>q.1<=ps.length/\q.2.2++LF m q.2.1 (ps.drop q.1)=Yq m/\q.2.1.length<=8/\q.2.2.length<=9*q.1+8) (λq=>ps.length-q.1) (0,EB 0 m.cs,EC 0 m.cs) ⟨cm _,hpf,by simp only;omega,by simp only;omega⟩ (Wk.of ?_ ?_) ?_
 .simp only[go_sem];try simp
 .simp only[go_sem];try simp[go_sem]
 rintro⟨i,C,L⟩ ⟨hi2,hP,hC,hL2⟩;simp only at hi2 hP hC hL2;by_cases q1:(i:Int)<(ps.length:Int);rotate_left
 .rw[If (by omega),LF,m_]at hP;subst hP;simp only[go_sem,aL q1];refine yc [900] ?_ c7 (by simp[go_sem]) ?_
  .simp only[go_sem,a_];rw[cI (by simp)]
  simp only[go_sem];exact an
 have hi':i<ps.length:=by omega
 have e8:=ey hi' (by omega);have hin:ac ps i∈ps:=by rw[bv hi'];exact tL hi'
 rw[r9 hi',LF]at hP;generalize hp:ac ps i=p at*;have hp1:=hpi p hin;have hp8':p=8->m.hs=true:=λq=>hp8 (q▸hin);have c5:=ag0 h hp1 hp8';have hb5:=hbb p hp8';have cd:=yZ true (CH m p) 0 (by omega);rw[show wD true (CH m p) 0=(some (CH m p),0) from rfl]at cd;have c6:=agm p;simp only[gy,b_]at c5;obtain⟨f1,f2⟩:=GM p C;obtain⟨S,hS⟩:∃S:fW,(⟨Ra p,[],some (CH m p)⟩:fW)=S:=⟨_,rfl⟩
 have hap:xf 900 69 3 0 L.length [[.int .i64 (Ra p),.str [],.sl 1 ((CH m p).map de)]] (some ⟨69,3,L.map pG,false⟩)=some (.ms 900 3 0 (L++[S]).length,.reb 900 ⟨69,3,(L++[S]).map pG,false⟩):=by
  rw[bq 900 69 3 _ pG _ _ rfl,au ⟨by simp,by omega,.inl (by decide)⟩,<-hS];simp[pG,Kf]
 rw[hS]at hP;simp only[go_sem,aK q1,hp];refine⟨by omega,q1,?_⟩;refine qX 904 905 (by decide) (by decide) (by decide) (by simp only[go_sem]) (by simp only[go_sem]) ?_;simp only[go_sem];refine KQ (k:=904) (j:=905) (l:=[]) c5 rfl (by simp[go_sem]) (by rfl) (by rfl) (by simp only[cj];omega) (by decide) ?_;simp only[go_sem,fo];refine aT [] (k:=904) (j:=905) (cd) ?_;simp only[go_sem];refine cJ c6 (by simp[go_sem]) rfl ?_;simp only[go_sem,hap];refine⟨by kernel_rfl,?_⟩;refine CC (cs:=C) (l:=L++[S]) hC (by simp only[cP,dK];omega) (by simp only[go_sem]) (by simp only[go_sem]) (by simp only[go_sem]) ?_;simp only[go_sem];refine aF (i+1,EB p C,L++[S]++EC p C) ⟨show i+1<=ps.length by omega,by rw[<-hP];simp,by simp only;omega,by simp only[cP,dK];omega⟩ (show ps.length-(i+1)<ps.length-i by omega) (Wk.of ?_ ?_)
 .simp only[go_sem,e8];try simp
 .simp only[go_sem];try simp[go_sem]
def XG{m:Md}(hs:U4 m)(hn:TJ m)(hI:Sr m<=6000):aj pg 14 [gy m] (.bool ((qZ m).1==0)):=by
 refine aC tR ?_;have c:=De hs hn hI;simp only[gy,b_]at c;simp only[go_sem,tR,gy];refine aa (c) ?_;exact an
