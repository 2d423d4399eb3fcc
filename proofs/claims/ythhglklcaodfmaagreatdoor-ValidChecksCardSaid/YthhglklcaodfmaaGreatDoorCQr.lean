import Derived.Test.YthhglklcaodfmaaGreatDoorCQq
noncomputable section
set_option linter.all false
set_option maxRecDepth 100000
set_option maxHeartbeats 40000000
namespace Go.Proofs.YthhglklcaodfmaaGreatDoor
section
open Go Go.Mw
def A8(n:List UInt8):AV×AV:=(.str n,.bool true)
def DJ(k:List UInt8):∀es:List (List UInt8),iR .s (.str k) (es.map A8)=some (es.findIdx? λp=>k==p)
 | []=>rfl
 | e::r=>by
  simp only[cM,iR,A8,Fe,List.findIdx?_cons];cases h:(k==e)
  .simp only[DJ k r];cases r.findIdx? (λp=>k==p)<;>rfl
  .rfl
def NH(K:AV->bD->Prop)(k:List UInt8)(es:List (List UInt8)):Vt K false (.bool false) (es.map A8) (iR .s (.str k) (es.map A8))=K (.bool (decide (k∈es))) .no:=by
 rw[DJ];cases h:es.findIdx? (λp=>k==p)with
 | none =>
  have hn:k∉es:=λhk=>by
   have:=List.findIdx?_eq_none_iff.1 h k hk;simp at this
  simp only[Vt,lD,ij,aI hn]
 | some i =>
  obtain⟨hi,h1,_⟩:=List.findIdx?_eq_some_iff_getElem.1 h;have hm:k∈es:=by
   have:k=es[i]:=by simpa using h1
   rw[this];exact eH hi
  simp only[Vt,iG,kS hi,fR,A8,lD,ij,aF hm]
def af2{k:List UInt8}{es:List (List UInt8)}(h:k∉es):ET .s (.str k) (.bool true) (es.map A8)=some ((es++[k]).map A8):=by
 unfold ET;rw[DJ];cases hf:es.findIdx? (λp=>k==p)with
 | none=>simp[A8]
 | some i =>
  obtain⟨hi,h1,_⟩:=List.findIdx?_eq_some_iff_getElem.1 hf;exact absurd (by rw[show k=es[i] from by simpa using h1];exact eH hi) h
def Dg(s:Sp):∀(l:List Ex)(seen:List (List UInt8)),(kR s seen l).length=l.length
 | [],_=>rfl
 | x::l,seen=>by rw[kR,i9,Dg s l,i9]
def exA(s:Sp)(seen:List (List UInt8))(x:Ex):Int×Int:=if x.n∈seen then(0,21)else if mD s x.k x.i=false then(0,11)else(0,0)
def JY(s:Sp):∀(l:List Ex)(seen:List (List UInt8))(i:Nat),i<l.length->av (kR s seen l) i=exA s (seen++(l.take i).map (·.n)) (av l i)
 | [],_,i,h=>by simp at h
 | x::l,seen,0,h=>by rw[kR,jK,eA,ml];rfl
 | x::l,seen,i+1,h=>by
  have h':i<l.length:=by simpa using h
  have:=JY s l (seen++[x.n]) i h';rw[kR,List.take_succ_cons,cM];show av (kR s (seen++[x.n]) l) i=exA s (seen++x.n::_) (av l i);rw[this,vk];rfl
def sN(m:Md)(res:List (Int×Int)):Nat->List (List UInt8)
 | 0=>[]
 | i+1=>if(av res i).2≠0 then sN m res i else sN m res i++[(av m.exs i).n]
def acV(m:Md)(res:List (Int×Int)):∀i,i<=m.exs.length->(∀j,j<i->(av res j).2=0)->sN m res i=(m.exs.take i).map (·.n)
 | 0,_,_=>rfl
 | i+1,hi,h=>by
  rw[sN,an (λq=>q (h i (by omega))),acV m res i (by omega) (λj hj=>h j (by omega)),JT (by omega),dY];rfl
def nmC:au:=⟨136,1,[[.mm 2000 true]],true⟩
def HC:nmC =⟨136,1,[[.mm 2000 true]],true⟩:=rfl
def eX(m:Md)(s:Sp)(i:Nat):List (Nat×au):=[(1001,vw),(1002,nmC),(2000,@au.mk 0 0 [] false (.mp ((sN m (kR s [] m.exs) i).map A8)))]
def clx(i:Nat):List AV:=[.int .i64 i,.mp 1001 1 0 0,.mp 1002 1 0 0]
attribute[local go_sem] bY B4 aM bF aR aW bT KP oG gC fM fY
def adZ(m:Md)(s:Sp)(hb:m.exs.length<=1000000):Dj gz clx m s (eX m s) (kR s [] m.exs):=by
 intro i hi hok F hF;rw[Dg]at hi;have hN:=acV m (kR s [] m.exs) i (by omega) hok;have hr:=JY s m.exs [] i hi;rw[gC,<-hN]at hr;have hS:sN m (kR s [] m.exs) (i+1)=if(av (kR s [] m.exs) i).2≠0 then sN m (kR s [] m.exs) i else sN m (kR s [] m.exs) i++[(av m.exs i).n]:=rfl
 unfold eX;rw[hS,hr];generalize sN m (kR s [] m.exs) i=N;refine b_ dZ ?_;generalize hX:av m.exs i=X;have kh:=Pj m s F X.k X.i;have hi2:(i:Int)<(m.exs.length:Int):=by omega
 unfold exA;by_cases h1:X.n∈N
 .rw[az h1];simp only[go_sem,dZ,clx,cL,hX,HC,NH,aF h1];refine⟨by omega,hi2,?_⟩;exact done [] _ [(1000,gS m s F),(1001,vw),(1002,nmC),(2000,@au.mk 0 0 [] false (.mp (N.map A8)))] (by simp only[go_sem]) (by simp only[go_sem,HC]) rfl ⟨rfl,rfl⟩
 rw[an h1];cases h2:mD s X.k X.i
 .rw[h2]at kh;rw[az rfl];simp only[go_sem,dZ,clx,cL,hX,HC,NH,aI h1];refine⟨by omega,hi2,?_⟩;refine lH kh (by simp only[go_sem]) (by simp only[go_sem]) ?_;simp only[go_sem];exact done [] _ [(1000,gS m s F),(1001,vw),(1002,nmC),(2000,@au.mk 0 0 [] false (.mp (N.map A8)))] (by simp only[go_sem]) (by simp only[go_sem,HC]) rfl ⟨rfl,rfl⟩
 .rw[h2]at kh;rw[an (show ¬(true=false)by decide)];have hp:=af2 h1;simp only[go_sem,dZ,clx,cL,hX,HC,NH,aI h1];refine⟨by omega,hi2,?_⟩;refine lH kh (by simp only[go_sem]) (by simp only[go_sem]) ?_;simp only[go_sem];refine⟨rfl,rfl,_,hp,?_⟩;exact done [] _ [(1000,gS m s F),(1001,vw),(1002,nmC),(2000,@au.mk 0 0 [] false (.mp ((N++[X.n]).map A8)))] (by simp only[go_sem]) (by simp only[go_sem,HC]) rfl ⟨rfl,rfl⟩
def Xk(l:List Int)(v:Int)(hl:l.length<=1000000):∃r:Int,aj pg ro [.sl 1 (l.map ri),.int .i64 v] (.int .i64 r)/\(r>=0↔v∈l):=by
 refine⟨match l.findIdx? (λx=>v==x)with|some i=>(i:Int)|none=>-1,?_,?_⟩
 .obtain⟨T,hT⟩:∃T,(match l.findIdx? (λx=>v==x)with|some i=>(i:Int)|none=>-1)=T:=⟨_,rfl⟩
  rw[hT];refine ao ki ?_;simp only[go_sem,ki];refine aA (λq:Nat=>⟨[(8,.int .i64 q),(7,.int .i64 l.length),(1,.int .i64 v),(0,.sl 1 (l.map ri))],[]⟩)
   (λq=>q<=l.length/\∀j,j<q->¬v=av l j) (λq=>l.length-q) 0 ⟨dx _,λj hj=>absurd hj (Nat.not_lt_zero j)⟩ (Wk.of ?_ ?_) ?_
  .simp only[go_sem];try simp
  .simp only[go_sem];try rfl
  intro i hh;obtain⟨hi,hx⟩:i<=l.length/\∀j,j<i->¬v=av l j:=hh;by_cases h1:(i:Int)<(l.length:Int)
  .have hi':i<l.length:=by omega
   have e8:=cK hi' (by omega);by_cases h2:v=av l i
   .have hf:l.findIdx? (λx=>v==x)=some i:=by
     rw[List.findIdx?_eq_some_iff_getElem];refine⟨hi',by rw[<-aY hi'];exact beq_iff_eq.2 h2,λj hj=>?_⟩;have:=hx j hj;rw[aY (by omega)]at this;simpa using this
    rw[hf]at hT;subst hT;simp only[go_sem,aF h1,aD h2];refine⟨by omega,h1,?_⟩;exact aw
   .simp only[go_sem,aF h1,ac h2];refine⟨by omega,h1,?_⟩;refine aH (i+1) ⟨show i+1<=l.length by omega,λj hj=>?_⟩ (show l.length-(i+1)<l.length-i by omega) (Wk.of ?_ ?_)
    .by_cases hji:j=i
     .rw[hji];exact h2
     .exact hx j (by have hj:j<i+1:=hj;omega)
    .simp only[go_sem,e8];try simp
    .simp only[go_sem];try rfl
  have hie:i=l.length:=by omega
  have hf:l.findIdx? (λx=>v==x)=none:=by
   rw[List.findIdx?_eq_none_iff];intro x hxm;obtain⟨j,hj,rfl⟩:=List.mem_iff_getElem.1 hxm;have:=hx j (by omega);rw[aY hj]at this;simpa using this
  rw[hf]at hT;subst hT;simp only[go_sem,aI h1];exact aw
 .cases hf:l.findIdx? (λx=>v==x)with
  | none =>
   have hn:v∉l:=λhk=>by
    have:=List.findIdx?_eq_none_iff.1 hf v hk;simp at this
   exact⟨λq=>absurd q (by decide),λq=>absurd q hn⟩
  | some i =>
   obtain⟨hi,h1,_⟩:=List.findIdx?_eq_some_iff_getElem.1 hf;exact⟨λ_=>by rw[show v=l[i] from by simpa using h1];exact eH hi,λ_=>by show(i:Int)>=0;omega⟩
def abw(l:List Int)(v:Int)(hl:l.length<=1000000):aj pg oE [.sl 1 (l.map ri),.int .i64 v] (.bool (decide (v∈l))):=by
 obtain⟨r,hr,hm⟩:=Xk l v hl;refine ao ji ?_;rw[show decide (v∈l)=decide (r>=0) from by simp only[hm]];simp only[go_sem,ji];refine aa (hr) ?_;exact ah
def Df(p:List Int):∀(l:List Cu)(last:Int),(mE p last l).length=l.length
 | [],_=>rfl
 | x::l,last=>by rw[mE,i9,Df p l,i9]
def Y9(p:List Int)(last:Int)(x:Cu):Int×Int:=if x.af<last\/(x.af≠0/\x.af∉p)then(0,7)else(0,0)
def Hv(last:Int)(l:List Cu)(i:Nat):Int:=if i=0 then last else(av l (i-1)).af
def JX(p:List Int):∀(l:List Cu)(last:Int)(i:Nat),i<l.length->av (mE p last l) i=Y9 p (Hv last l i) (av l i)
 | [],_,i,h=>by simp at h
 | x::l,last,0,h=>rfl
 | x::l,last,i+1,h=>by
  have h':i<l.length:=by simpa using h
  have:=JX p l x.af i h';rw[mE];show av (mE p x.af l) i=_;rw[this];cases i with
  | zero=>rfl
  | succ i=>rfl
def sL(m:Md)(res:List (Int×Int)):Nat->Int
 | 0=>0
 | i+1=>if(av res i).2≠0 then sL m res i else(av m.cs i).af
def ajF(m:Md)(res:List (Int×Int)):∀i,(∀j,j<i->(av res j).2=0)->sL m res i=Hv 0 m.cs i
 | 0,_=>rfl
 | i+1,h=>by
  rw[sL,an (λq=>q (h i (by omega)))];rfl
def laC(v:Int):au:=⟨3,1,[[.int .i64 v]],true⟩
def zx(v:Int):laC v =⟨3,1,[[.int .i64 v]],true⟩:=rfl
def Jw(p:List Int):au:=⟨64,1,[[.sl 1 (p.map ri)]],true⟩
def zK(p:List Int):Jw p =⟨64,1,[[.sl 1 (p.map ri)]],true⟩:=rfl
def eU(m:Md)(p:List Int)(i:Nat):List (Nat×au):=[(1001,vw),(1002,laC (sL m (mE p 0 m.cs) i)),(1003,Jw p)]
def clu(i:Nat):List AV:=[.int .i64 i,.mp 1001 1 0 0,.mp 1002 1 0 0,.mp 1003 1 0 0]
def ad2(m:Md)(s:Sp)(p:List Int)(hp:p.length<=1000000)(hb:m.cs.length<=1000000):Dj fV clu m s (eU m p) (mE p 0 m.cs):=by
 intro i hi hok F hF;rw[Df]at hi;have hN:=ajF m (mE p 0 m.cs) i hok;have hr:=JX p m.cs 0 i hi;rw[<-hN]at hr;have hS:sL m (mE p 0 m.cs) (i+1)=if(av (mE p 0 m.cs) i).2≠0 then sL m (mE p 0 m.cs) i else(av m.cs i).af:=rfl
 unfold eU;rw[hS,hr];generalize sL m (mE p 0 m.cs) i=N;refine b_ db ?_;generalize hX:av m.cs i=X;have kc:=abw p X.af hp;have hi2:(i:Int)<(m.cs.length:Int):=by omega
 unfold Y9;by_cases h1:X.af<N
 .rw[az (.inl h1)];simp only[go_sem,db,clu,cL,hX,zx,zK,aF h1];refine⟨by omega,hi2,?_⟩;exact done [] _ [(1000,gS m s F),(1001,vw),(1002,laC N),(1003,Jw p)] (by simp only[go_sem]) (by simp only[go_sem,zx,zK]) rfl ⟨rfl,rfl⟩
 by_cases h2:X.af=0
 .rw[an (by rintro(q|q);exact h1 q;exact q.1 h2)];simp only[go_sem,db,clu,cL,hX,zx,zK,aI h1,ay h2];refine⟨by omega,hi2,?_⟩;exact done [] _ [(1000,gS m s F),(1001,vw),(1002,laC X.af),(1003,Jw p)] (by simp only[go_sem]) (by simp only[go_sem,zx,zK]) rfl ⟨rfl,rfl⟩
 by_cases h3:X.af∈p
 .rw[an (by rintro(q|q);exact h1 q;exact q.2 h3)];rw[aF h3]at kc;simp only[go_sem,db,clu,cL,hX,zx,zK,aI h1,aE h2];refine⟨by omega,hi2,?_⟩;refine aa (kc) ?_;exact done [] _ [(1000,gS m s F),(1001,vw),(1002,laC X.af),(1003,Jw p)] (by simp only[go_sem]) (by simp only[go_sem,zx,zK]) rfl ⟨rfl,rfl⟩
 .rw[az (.inr ⟨h2,h3⟩)];rw[aI h3]at kc;simp only[go_sem,db,clu,cL,hX,zx,zK,aI h1,aE h2];refine⟨by omega,hi2,?_⟩;refine aa (kc) ?_;exact done [] _ [(1000,gS m s F),(1001,vw),(1002,laC N),(1003,Jw p)] (by simp only[go_sem]) (by simp only[go_sem,zx,zK]) rfl ⟨rfl,rfl⟩
end
section
open Go Go.Mw
def OW{f:FuncId}{caps:List AV}(h4:f<4000000)(hB:cy pg f=true)(i:Nat)(d:Option Nat)(w:St)(K:St->Prop)(h:cO pg f (.int .i64 i::caps) d w K):OX pg (.fn f caps) [.int .i64 i] d w K:=by
 rw[zl,az h4];exact⟨hB,h⟩
def zg{f:FuncId}{m:Md}{s:Sp}{res:List (Int×Int)}{part:Int}{F:Fa}(hf:Dj f Sz m s eC res)(h4:f<4000000)(hB:cy pg f=true)(hr:res.length<=1000000){n:Int}{d:Option Nat}{w:St}{K:St->Prop}(hn:n=(res.length:Int))(h0:ak w.heap 1000=some (gS m s F))(h1:ak w.heap 1=some vw)
  (hk:K ((St.mk w.env ([(1000,gS m s (ee part 0 res F)),(1,vw)]++w.heap)).put d (.tup []))):cO pg dJ [.mp 1000 17 0 0,.int .i64 part,.int .i64 n,.fn f [.mp 1 1 0 0]] d w K:=by
 subst hn;have h:=D0 (caps:=[.mp 1001 1 0 0]) (f:=f) hf ah9 (OW h4 hB) (λi F=>rfl) rfl hr part F;refine dU (σ2:=[(1000,gS m s F),(1,vw)]) (σ3:=[(1000,gS m s (ee part 0 res F)),(1,vw)]) (r3:=.tup []) h [(1001,1)] [] rfl rfl rfl rfl (λp hp=>?_) (λp hp=>?_) (λp hp=>?_) hk
 .simp only[bM,cH,or_false]at hp;rcases hp with rfl|rfl
  .exact h0
  .exact h1
 .simp only[bM,cH,or_false]at hp;rcases hp with rfl|rfl
  .exact .inl ⟨⟨show 1000<=1000 by decide,show 1000<2000 by decide⟩,rfl⟩
  .exact .inl ⟨⟨show 1000<=1001 by decide,show 1001<2000 by decide⟩,rfl⟩
 .simp only[bM,cH,or_false]at hp;rcases hp with rfl|rfl<;>rfl
def LkT(f:FuncId)(m:Md)(s:Sp)(F F':Fa):Prop:=bA pg f [.mp 1000 17 0 0] [(1000,gS m s F)] P3 (λr' σ'=>r' = .tup []/\σ'=[(1000,gS m s F')])
attribute[local go_sem] bY B4 aM bF aR aW bT KP oG gC
def aae(m:Md)(s:Sp)(F:Fa)(h:Fp s)(h1:m.ims.length<=1000000)(h2:m.fs.length<=1000000):LkT wj m s F (ee 3 0 (m.fs.map λf=>th s f.t) (ee 2 0 (m.ims.map (z8 s)) F)):=by
 refine b_ mS ?_;simp only[go_sem,mS];refine zg (F:=F) (T1 m s h h1) (by decide) (by kernel_rfl) (by rw[bY];exact h1) (by rw[bY]) (by simp only[go_sem]) (by simp only[go_sem]) ?_;simp only[go_sem];refine zg (F:=ee 2 0 (m.ims.map (z8 s)) F) (T2 m s h h2) (by decide) (by kernel_rfl) (by rw[bY];exact h2) (by rw[bY]) (by simp only[go_sem]) (by simp only[go_sem]) ?_;simp only[go_sem];exact zi [] _ [(1000,gS m s (ee 3 0 (m.fs.map λf=>th s f.t) (ee 2 0 (m.ims.map (z8 s)) F)))] ⟨rfl,rfl⟩
def Y0{m:Md}{s:Sp}{F:Fa}(hb:m.exs.length<=1000000){n:Int}{d:Option Nat}{w:St}{K:St->Prop}(hn:n=(m.exs.length:Int))(h0:ak w.heap 1000=some (gS m s F))(h1:ak w.heap 1=some vw)(h2:ak w.heap 2=some ⟨136,1,[[.mm 12 true]],true⟩)(h3:ak w.heap 12=some (@au.mk 0 0 [] false (.mp [])))
  (hk:∀X,K ((St.mk (jG [2000,12] w.env) ([(1000,gS m s (ee 7 0 (kR s [] m.exs) F)),(1,vw)]++X)).put d (.tup []))):cO pg dJ [.mp 1000 17 0 0,.int .i64 7,.int .i64 n,.fn gz [.mp 1 1 0 0,.mp 2 1 0 0]] d w K:=by
 subst hn;have hl:(kR s [] m.exs).length=m.exs.length:=Dg s m.exs []
 have hok:okE (eX m s):=⟨(λi p hp=>by simp only[eX,bM,cH,or_false]at hp;rcases hp with rfl|rfl|rfl<;>rfl),(λi p hp=>by
  simp only[eX,bM,cH,or_false]at hp;rcases hp with rfl|rfl|rfl
  .exact⟨show(1001:Nat)≠1000 by decide,.inl ⟨show 1000<=1001 by decide,show 1001<2000 by decide⟩⟩
  .exact⟨show(1002:Nat)≠1000 by decide,.inl ⟨show 1000<=1002 by decide,show 1002<2000 by decide⟩⟩
  .exact⟨show(2000:Nat)≠1000 by decide,.inr rfl⟩),(λi j p hp=>by simp only[eX,bM,cH,or_false]at hp;rcases hp with rfl|rfl|rfl<;>rfl)⟩
 have h:=D0 (caps:=[.mp 1001 1 0 0,.mp 1002 1 0 0]) (f:=gz) (ag:=clx) (adZ m s hb) hok (OW (by decide) (by kernel_rfl)) (λi F=>rfl) rfl (by rw[hl];exact hb) 7 F;rw[hl]at h;generalize (if F.c≠0 then 0 else GS (kR s [] m.exs))=J at h;refine dU (σ2:=[(1000,gS m s F),(1,vw),(2,⟨136,1,[[.mm 12 true]],true⟩),(12,@au.mk 0 0 [] false (.mp []))]) (σ3:=[(1000,gS m s (ee 7 0 (kR s [] m.exs) F)),(1,vw),(2,⟨136,1,[[.mm 12 true]],true⟩),(12,@au.mk 0 0 [] false (.mp ((sN m (kR s [] m.exs) J).map A8)))]) (r3:=.tup []) h [(1001,1),(1002,2),(2000,12)] [2000,12] rfl rfl rfl rfl (λp hp=>?_) (λp hp=>?_) (λp hp=>?_) (hk _)
 .simp only[bM,cH,or_false]at hp;rcases hp with rfl|rfl|rfl|rfl
  .exact h0
  .exact h1
  .exact h2
  .exact h3
 .simp only[bM,cH,or_false]at hp;rcases hp with rfl|rfl|rfl|rfl
  .exact .inl ⟨⟨show 1000<=1000 by decide,show 1000<2000 by decide⟩,rfl⟩
  .exact .inl ⟨⟨show 1000<=1001 by decide,show 1001<2000 by decide⟩,rfl⟩
  .exact .inl ⟨⟨show 1000<=1002 by decide,show 1002<2000 by decide⟩,rfl⟩
  .exact .inr ⟨by simp,.inl (show 12<1000 by decide),.inl rfl⟩
 .simp only[bM,cH,or_false]at hp;rcases hp with rfl|rfl|rfl|rfl<;>rfl
def Ro(m:Md)(s:Sp)(F:Fa)(h:rK s)(h1:m.gs.length<=1000000)(h1b:∀g∈m.gs,g.i.length<=1000000)(h2:m.exs.length<=1000000):LkT s5 m s F (if m.hs=true then ee 8 0 [CJ s m.st] (ee 7 0 (kR s [] m.exs) (ee 6 0 (m.gs.map λg=>dD s g.i g.g.v) F))else ee 7 0 (kR s [] m.exs) (ee 6 0 (m.gs.map λg=>dD s g.i g.g.v) F)):=by
 refine b_ kX ?_;obtain⟨F1,hF1⟩:∃G,ee 6 0 (m.gs.map λg=>dD s g.i g.g.v) F=G:=⟨_,rfl⟩
 obtain⟨F2,hF2⟩:∃G,ee 7 0 (kR s [] m.exs) F1=G:=⟨_,rfl⟩
 rw[hF1,hF2];simp only[go_sem,kX];refine zg (F:=F) (adY m s h1 h1b) (by decide) (by kernel_rfl) (by rw[bY];exact h1) (by rw[bY]) (by simp only[go_sem]) (by simp only[go_sem]) ?_;rw[hF1];simp only[go_sem];refine Y0 (s:=s) (F:=F1) h2 rfl (by simp only[go_sem]) (by simp only[go_sem]) (by simp only[go_sem]) (by simp only[go_sem]) (λX=>?_);rw[hF2];cases hh:m.hs
 .simp only[go_sem,hh];exact done [] _ [(1000,gS m s F2)] (by simp only[go_sem]) (by simp only[go_sem,hh]) rfl ⟨rfl,by simp only[go_sem,hh]⟩
 .simp only[go_sem,hh];refine zg (F:=F2) (ad0 m s h) (by decide) (by kernel_rfl) (by simp) rfl (by simp only[go_sem,hh]) (by simp only[go_sem]) ?_;simp only[go_sem,hh];exact lu [] _ [(1000,gS m s (ee 8 0 [CJ s m.st] F2))] (by simp only[go_sem]) (by simp only[go_sem,hh]) rfl ⟨rfl,by simp only[go_sem,hh]⟩
def Z_{m:Md}{s:Sp}{F:Fa}(h1:m.els.length<=1000000)(h:∀e∈m.els,e.o.length<=1000000/\e.it.length<=1000000/\∀l∈e.it,l.length<=1000000){n:Int}{d:Option Nat}{w:St}{K:St->Prop}(hn:n=(m.els.length:Int))(h0:ak w.heap 1000=some (gS m s F))
  (hk:K ((St.mk w.env ([(1000,gS m s (ee 9 0 (m.els.map (yw s)) F))]++w.heap)).put d (.tup []))):cO pg dJ [.mp 1000 17 0 0,.int .i64 9,.int .i64 n,.fn 4000078 [.mp 1000 17 0 0]] d w K:=by
 subst hn
 have h:=D0 (caps:=[.mp 1000 17 0 0]) (f:=4000078) (g:=jT) (ag:=bme) (adX m s h1 h) aia (λi d w K hh=>by
  rw[zl,an (by decide)];exact⟨by kernel_rfl,hh⟩) (λi F=>rfl) rfl (by rw[bY];exact h1) 9 F
 rw[bY]at h;refine gZ h [] (λp hp=>?_) (λp hp=>?_) (λp hp=>?_) hk
 .rw[fS.1 hp];exact h0
 .rw[fS.1 hp];exact .inl ⟨⟨show 1000<=1000 by decide,show 1000<2000 by decide⟩,rfl⟩
 .rw[fS.1 hp];rfl
end
section
open Go Go.Mw
def yp(c:Prop)[Decidable c](p:Int):List Int:=if c then[p]else[]
def N3(m:Md):wv m=yp (m.ts.length>0) 1++yp (m.ims.length>0) 2++yp (m.fs.length>0) 3++yp (m.tbs.length>0) 4++yp (m.ms.length>0) 5++yp (m.gs.length>0) 6++yp (m.exs.length>0) 7++yp (m.hs=true) 8++yp (m.els.length>0) 9++yp (m.ds.length>0) 10++yp (m.fs.length>0) 11++yp (m.ds.length>0) 12:=rfl
def bx(q:Nat)(l:List Int):au:=⟨64,1,[[.ms q 1 0 l.length]],true⟩
def ia(l:List Int):au:=⟨3,1,l.map ri,false⟩
def oB(b:Bool)(p:Int):List Int:=if b=true then[p]else[]
attribute[local go_sem] bY fg cQ bx ia
def aiG(p:Int)(b:Bool)(l:List Int)(hl:l.length<=1000):bA pg m_ [.int .i64 p,.bool b,.mp 1000 1 0 0] [(1000,bx 2000 l),(2000,ia l)] P3 (λr' σ'=>r' = .tup []/\σ'=[(1000,bx 2000 (l++oB b p)),(2000,ia (l++oB b p))]):=by
 refine b_ ju ?_;cases b
 .rw[show l++oB false p=l from ml l];simp only[go_sem,ju];exact zi [] _ [(1000,bx 2000 l),(2000,ia l)] ⟨rfl,rfl⟩
 .have hap:AF 2000 3 1 0 l.length [[.int .i64 p]] (some ⟨3,1,l.map ri,false⟩)=some (.ms 2000 1 0 (l++oB true p).length,.reb 2000 ⟨3,1,(l++oB true p).map ri,false⟩):=by
   rw[cC 2000 3 1 _ ri _ _ rfl,az ⟨by simp,by omega,.inr (by decide)⟩];simp[oB,ri]
  simp only[go_sem,ju,hap];exact zi [] _ [(1000,bx 2000 (l++oB true p)),(2000,ia (l++oB true p))] ⟨rfl,rfl⟩
def gY{p:Int}{b:Bool}{l:List Int}{d:Option Nat}{s:St}{K:St->Prop}(hl:l.length<=1000)(h1:ak s.heap 3=some (bx 900 l))(h2:ak s.heap 900=some (ia l))
  (hK:K (((St.mk (jG [900] s.env) ([(3,bx 900 (l++oB b p)),(900,ia (l++oB b p))]++jm [900] s.heap)).put d (.tup [])))):cO pg m_ [.int .i64 p,.bool b,.mp 3 1 0 0] d s K:=by
 refine dU (σ2:=[(3,bx 900 l),(900,ia l)]) (r3:=.tup []) (σ3:=[(3,bx 900 (l++oB b p)),(900,ia (l++oB b p))]) (aiG p b l hl) [(1000,3),(2000,900)] [900] rfl rfl rfl rfl ?_ ?_ ?_ hK
 .simp[h1,h2]
 .simp[P3,bw,sU,ak]
 .simp[ak]
def n9(n:Nat)(p:Int):oB (decide ((n:Int)>0)) p=yp (n>0) p:=by
 unfold oB yp;by_cases h:n>0
 .rw[az h,aF (by omega)];rfl
 .rw[an h,aI (by omega)];rfl
def ai5(b:Bool)(p:Int):oB b p=yp (b=true) p:=rfl
def eR(c:Prop)[Decidable c](p:Int):(yp c p).length<=1:=by unfold yp;split<;>simp
def afd(m:Md):aj pg zC [ba m] (.sl 1 ((wv m).map ri)):=by
 refine ao oJ ?_;rw[N3];simp only[go_sem,oJ,ba,aM];refine⟨by kernel_rfl,?_⟩;refine be (eJ.new0 _ _ 900 1 3 (by decide) (by simp[go_sem])) ?_;refine be (eJ.nlm _ _ 3 (t:=64) (st:=1) (r:=[.nl]) (r':=[.ms 900 1 0 0]) (by simp only[go_sem]) ⟨.inr ⟨rfl,.inr ⟨900,1,rfl⟩⟩,trivial⟩) ?_;refine gY (l:=[]) (by simp) (by simp only[go_sem]) (by simp only[go_sem]) ?_;simp only[go_sem,n9,gC];generalize h1:yp (m.ts.length>0) 1=l1;have g1:l1.length<=1:=by rw[<-h1];exact eR _ _
 refine⟨by kernel_rfl,?_⟩;refine gY (l:=l1) (by omega) (by simp only[go_sem]) (by simp only[go_sem]) ?_;simp only[go_sem,n9,gC];generalize h2:l1++yp (m.ims.length>0) 2=l2;have g2:l2.length<=2:=by rw[<-h2,dN];have:=eR (m.ims.length>0) 2;omega
 refine⟨by kernel_rfl,?_⟩;refine gY (l:=l2) (by omega) (by simp only[go_sem]) (by simp only[go_sem]) ?_;simp only[go_sem,n9,gC];generalize h3:l2++yp (m.fs.length>0) 3=l3;have g3:l3.length<=3:=by rw[<-h3,dN];have:=eR (m.fs.length>0) 3;omega
 refine⟨by kernel_rfl,?_⟩;refine gY (l:=l3) (by omega) (by simp only[go_sem]) (by simp only[go_sem]) ?_;simp only[go_sem,n9,gC];generalize h4:l3++yp (m.tbs.length>0) 4=l4;have g4:l4.length<=4:=by rw[<-h4,dN];have:=eR (m.tbs.length>0) 4;omega
 refine⟨by kernel_rfl,?_⟩;refine gY (l:=l4) (by omega) (by simp only[go_sem]) (by simp only[go_sem]) ?_;simp only[go_sem,n9,gC];generalize h5:l4++yp (m.ms.length>0) 5=l5;have g5:l5.length<=5:=by rw[<-h5,dN];have:=eR (m.ms.length>0) 5;omega
 refine⟨by kernel_rfl,?_⟩;refine gY (l:=l5) (by omega) (by simp only[go_sem]) (by simp only[go_sem]) ?_;simp only[go_sem,n9,gC];generalize h6:l5++yp (m.gs.length>0) 6=l6;have g6:l6.length<=6:=by rw[<-h6,dN];have:=eR (m.gs.length>0) 6;omega
 refine⟨by kernel_rfl,?_⟩;refine gY (l:=l6) (by omega) (by simp only[go_sem]) (by simp only[go_sem]) ?_;simp only[go_sem,n9,gC];generalize h7:l6++yp (m.exs.length>0) 7=l7;have g7:l7.length<=7:=by rw[<-h7,dN];have:=eR (m.exs.length>0) 7;omega
 refine⟨by kernel_rfl,?_⟩;refine gY (l:=l7) (by omega) (by simp only[go_sem]) (by simp only[go_sem]) ?_;simp only[go_sem,ai5,gC];generalize h8:l7++yp (m.hs=true) 8=l8;have g8:l8.length<=8:=by rw[<-h8,dN];have:=eR (m.hs=true) 8;omega
 refine⟨by kernel_rfl,?_⟩;refine gY (l:=l8) (by omega) (by simp only[go_sem]) (by simp only[go_sem]) ?_;simp only[go_sem,n9,gC];generalize h9:l8++yp (m.els.length>0) 9=l9;have g9:l9.length<=9:=by rw[<-h9,dN];have:=eR (m.els.length>0) 9;omega
 refine⟨by kernel_rfl,?_⟩;refine gY (l:=l9) (by omega) (by simp only[go_sem]) (by simp only[go_sem]) ?_;simp only[go_sem,n9,gC];generalize h10:l9++yp (m.ds.length>0) 10=l10;have g10:l10.length<=10:=by rw[<-h10,dN];have:=eR (m.ds.length>0) 10;omega
 refine⟨by kernel_rfl,?_⟩;refine gY (l:=l10) (by omega) (by simp only[go_sem]) (by simp only[go_sem]) ?_;simp only[go_sem,n9,gC];generalize h11:l10++yp (m.fs.length>0) 11=l11;have g11:l11.length<=11:=by rw[<-h11,dN];have:=eR (m.fs.length>0) 11;omega
 refine⟨by kernel_rfl,?_⟩;refine gY (l:=l11) (by omega) (by simp only[go_sem]) (by simp only[go_sem]) ?_;simp only[go_sem,n9,gC];generalize h12:l11++yp (m.ds.length>0) 12=l12;have g12:l12.length<=12:=by rw[<-h12,dN];have:=eR (m.ds.length>0) 12;omega
 exact aq [900] (by simp only[go_sem,aQ];rw[iF (by simp)]) rfl
end
section
open Go Go.Mw
def YZ{m:Md}{s:Sp}{F:Fa}{p:List Int}(hp:p.length<=1000000)(hb:m.cs.length<=1000000){n:Int}{d:Option Nat}{w:St}{K:St->Prop}(hn:n=(m.cs.length:Int))(h0:ak w.heap 1000=some (gS m s F))(h1:ak w.heap 1=some vw)(h2:ak w.heap 2=some (Jw p))(h3:ak w.heap 3=some (laC 0))
  (hk:∀X,K ((St.mk w.env ([(1000,gS m s (ee 11 0 (mE p 0 m.cs) F))]++X)).put d (.tup []))):cO pg dJ [.mp 1000 17 0 0,.int .i64 11,.int .i64 n,.fn fV [.mp 1 1 0 0,.mp 3 1 0 0,.mp 2 1 0 0]] d w K:=by
 subst hn;have hl:(mE p 0 m.cs).length=m.cs.length:=Df p m.cs 0
 have hok:okE (eU m p):=⟨(λi p hp=>by simp only[eU,bM,cH,or_false]at hp;rcases hp with rfl|rfl|rfl<;>rfl),(λi p hp=>by
  simp only[eU,bM,cH,or_false]at hp;rcases hp with rfl|rfl|rfl
  .exact⟨show(1001:Nat)≠1000 by decide,.inl ⟨show 1000<=1001 by decide,show 1001<2000 by decide⟩⟩
  .exact⟨show(1002:Nat)≠1000 by decide,.inl ⟨show 1000<=1002 by decide,show 1002<2000 by decide⟩⟩
  .exact⟨show(1003:Nat)≠1000 by decide,.inl ⟨show 1000<=1003 by decide,show 1003<2000 by decide⟩⟩),(λi j p hp=>by simp only[eU,bM,cH,or_false]at hp;rcases hp with rfl|rfl|rfl<;>rfl)⟩
 have h:=D0 (caps:=[.mp 1001 1 0 0,.mp 1002 1 0 0,.mp 1003 1 0 0]) (f:=fV) (ag:=clu) (ad2 m s p hp hb) hok (OW (by decide) (by kernel_rfl)) (λi F=>rfl) rfl (by rw[hl];exact hb) 11 F;rw[hl]at h;generalize (if F.c≠0 then 0 else GS (mE p 0 m.cs))=J at h;refine dU (σ2:=[(1000,gS m s F),(1,vw),(3,laC 0),(2,Jw p)]) (σ3:=[(1000,gS m s (ee 11 0 (mE p 0 m.cs) F)),(1,vw),(3,laC (sL m (mE p 0 m.cs) J)),(2,Jw p)]) (r3:=.tup []) h [(1001,1),(1002,3),(1003,2)] [] rfl rfl rfl rfl (λp hp=>?_) (λp hp=>?_) (λp hp=>?_) (hk _)
 .simp only[bM,cH,or_false]at hp;rcases hp with rfl|rfl|rfl|rfl
  .exact h0
  .exact h1
  .exact h3
  .exact h2
 .simp only[bM,cH,or_false]at hp;rcases hp with rfl|rfl|rfl|rfl
  .exact .inl ⟨⟨show 1000<=1000 by decide,show 1000<2000 by decide⟩,rfl⟩
  .exact .inl ⟨⟨show 1000<=1001 by decide,show 1001<2000 by decide⟩,rfl⟩
  .exact .inl ⟨⟨show 1000<=1002 by decide,show 1002<2000 by decide⟩,rfl⟩
  .exact .inl ⟨⟨show 1000<=1003 by decide,show 1003<2000 by decide⟩,rfl⟩
 .simp only[bM,cH,or_false]at hp;rcases hp with rfl|rfl|rfl|rfl<;>rfl
def PH(m:Md):(wv m).length<=1000:=by
 rw[N3];simp only[dN];have:=eR (m.ts.length>0) 1;have:=eR (m.ims.length>0) 2;have:=eR (m.fs.length>0) 3;have:=eR (m.tbs.length>0) 4;have:=eR (m.ms.length>0) 5;have:=eR (m.gs.length>0) 6;have:=eR (m.exs.length>0) 7;have:=eR (m.hs=true) 8;have:=eR (m.els.length>0) 9;have:=eR (m.ds.length>0) 10;have:=eR (m.fs.length>0) 11;have:=eR (m.ds.length>0) 12;omega
attribute[local go_sem] bY B4 aM bF aR aW bT KP oG gC zx zK
def NE(m:Md)(s:Sp)(F:Fa)(h1:m.els.length<=1000000)(h:∀e∈m.els,e.o.length<=1000000/\e.it.length<=1000000/\∀l∈e.it,l.length<=1000000)(h2:m.ds.length<=1000000)(h2b:∀d∈m.ds,d.o.length<=1000000)(h3:m.cs.length<=1000000):LkT rn m s F (ee 11 0 (mE (wv m) 0 m.cs) (ee 10 0 (m.ds.map (CI s)) (ee 9 0 (m.els.map (yw s)) F))):=by
 refine b_ kf ?_;have cs:=afd m;simp only[ba,aM]at cs;have hpl:=PH m;obtain⟨F1,hF1⟩:∃G,ee 9 0 (m.els.map (yw s)) F=G:=⟨_,rfl⟩
 obtain⟨F2,hF2⟩:∃G,ee 10 0 (m.ds.map (CI s)) F1=G:=⟨_,rfl⟩
 rw[hF1,hF2];simp only[go_sem,kf];refine Z_ (s:=s) (F:=F) h1 h rfl (by simp only[go_sem]) ?_;rw[hF1];simp only[go_sem];refine zg (F:=F1) (ad1 m s h2 h2b) (by decide) (by kernel_rfl) (by rw[bY];exact h2) (by rw[bY]) (by simp only[go_sem]) (by simp only[go_sem]) ?_;rw[hF2];simp only[go_sem];refine aa (cs) ?_;refine YZ (s:=s) (F:=F2) (p:=wv m) (by omega) h3 rfl (by simp only[go_sem]) (by simp only[go_sem]) (by simp only[go_sem]) (by simp only[go_sem]) (λX=>?_);simp only[go_sem];exact zi [] _ [(1000,gS m s (ee 11 0 (mE (wv m) 0 m.cs) F2))] ⟨rfl,rfl⟩
def MZ{f:FuncId}{m:Md}{s:Sp}{F F':Fa}(h:LkT f m s F F'){d:Option Nat}{w:St}{K:St->Prop}(h0:ak w.heap 15=some (gS m s F))
  (hk:K ((St.mk w.env ([(15,gS m s F')]++w.heap)).put d (.tup []))):cO pg f [.mp 15 17 0 0] d w K:=by
 refine dU (σ2:=[(15,gS m s F)]) (σ3:=[(15,gS m s F')]) (r3:=.tup []) h [(1000,15)] [] rfl rfl rfl rfl (λp hp=>?_) (λp hp=>?_) (λp hp=>?_) hk
 .rw[fS.1 hp];exact h0
 .rw[fS.1 hp];exact .inl ⟨⟨show 1000<=1000 by decide,show 1000<2000 by decide⟩,rfl⟩
 .rw[fS.1 hp];rfl
def Vg:au:=⟨73,1,[[.mp 15 17 0 0]],true⟩
def Vh:Vg =⟨73,1,[[.mp 15 17 0 0]],true⟩:=rfl
def YY{m:Md}{s:Sp}{F:Fa}(hLeft:fK)(hs:rK s)(hb:m.fs.length<=1000000)(hf:∀f∈m.fs,bdB f){n:Int}{d:Option Nat}{w:St}{K:St->Prop}(hn:n=(m.fs.length:Int))(h0:ak w.heap 15=some (gS m s F))(h1:ak w.heap 1=some (mdO m))(h2:ak w.heap 4=some Vg)
  (hk:K ((St.mk w.env ([(15,gS m s (ee 12 0 (m.fs.map (iw m s)) F)),(1,mdO m),(4,Vg)]++w.heap)).put d (.tup []))):cO pg dJ [.mp 15 17 0 0,.int .i64 12,.int .i64 n,.fn mz [.mp 1 12 0 0,.mp 4 1 0 0]] d w K:=by
 subst hn;have h:=D0 (caps:=[.mp 1001 12 0 0,.mp 1002 1 0 0]) (f:=mz) (ag:=clm) (adW hLeft m s hs hb hf) (ah_ m) (OW (by decide) (by kernel_rfl)) (λi F=>rfl) rfl (by rw[bY];exact hb) 12 F;rw[bY]at h;refine dU (σ2:=[(15,gS m s F),(1,mdO m),(4,Vg)]) (σ3:=[(15,gS m s (ee 12 0 (m.fs.map (iw m s)) F)),(1,mdO m),(4,Vg)]) (r3:=.tup []) h [(1000,15),(1001,1),(1002,4)] [] rfl rfl rfl rfl (λp hp=>?_) (λp hp=>?_) (λp hp=>?_) hk
 .simp only[bM,cH,or_false]at hp;rcases hp with rfl|rfl|rfl
  .exact h0
  .exact h1
  .exact h2
 .simp only[bM,cH,or_false]at hp;rcases hp with rfl|rfl|rfl
  .exact .inl ⟨⟨show 1000<=1000 by decide,show 1000<2000 by decide⟩,rfl⟩
  .exact .inl ⟨⟨show 1000<=1001 by decide,show 1001<2000 by decide⟩,rfl⟩
  .exact .inl ⟨⟨show 1000<=1002 by decide,show 1002<2000 by decide⟩,rfl⟩
 .simp only[bM,cH,or_false]at hp;rcases hp with rfl|rfl|rfl<;>rfl
structure ckB(m:Md):Prop where
 sp:B_ m
 t:∀x∈m.ts,x.ps.length<=100/\x.rs.length<=100
 f:∀f∈m.fs,bdB f
 g:∀g∈m.gs,g.i.length<=1000000
 e:∀e∈m.els,e.o.length<=1000000/\e.it.length<=1000000/\∀l∈e.it,l.length<=1000000
 d:m.ds.length<=1000000/\∀d∈m.ds,d.o.length<=1000000
 c:m.cs.length<=1000000
def P8{m:Md}(h:∀x∈m.ts,x.ps.length<=100/\x.rs.length<=100):rK (bO m):=h
def Mn(hLeft:fK)(m:Md)(hm:yD m)(h:(kB rA m).c=0->ckB m):aj pg pE [ba m] (.agg [.int .i64 (kO m).p,.int .i64 (kO m).i,.int .i64 (kO m).l,.int .i64 (kO m).c]):=by
 refine ao xl ?_;have cl:=VF rA m hm (λy hy=>acX y hy);unfold kO;generalize hL:kB rA m=L at cl h⊢;simp only[ba,aM]at cl;simp only[go_sem,xl,ba];refine ae (cl) ?_;by_cases h0:L.c=0;rotate_left
 .rw[az h0];simp only[go_sem,aE h0];exact aw
 rw[an (λq=>q h0)];have hb:=h h0;have cs:=agt m hb.sp;rw[aiN]at cs;have hsp:=hb.sp;simp only[ba,aM]at cs;simp only[go_sem,ay h0];refine ax cs (by simp[go_sem]) rfl ?_;have k1:=aae m (bO m) cB (P8 hb.t).sm (by have:=hsp.ims;omega) (by have:=hsp.fs;omega);have k2:=Ro m (bO m) (OP m (bO m)) (P8 hb.t) (by have:=hsp.gs;omega) hb.g (by have:=hsp.exs;omega);have k3:=NE m (bO m) (QH m (bO m)) (by have:=hsp.els;omega) hb.e hb.d.1 hb.d.2 hb.c;generalize hsA:bO m=s at*;have hty:rK s:=by rw[<-hsA];exact P8 hb.t
 simp only[go_sem];refine MZ k1 (by simp only[go_sem,cB]) ?_;simp only[go_sem];refine MZ (F:=OP m s) k2 (by simp only[go_sem,OP,ck1]) ?_;simp only[go_sem];refine MZ (F:=QH m s) k3 (by simp only[go_sem,QH,Sy,ck3]) ?_;simp only[go_sem];refine YY (s:=s) (F:=TJ m s) hLeft hty (by have:=hsp.fs;omega) hb.f rfl (by simp only[go_sem,TJ,Y4,ck6]) (by simp only[go_sem,Pv]) (by simp only[go_sem,Vh]) ?_;simp only[go_sem,XZ,Pv,Vh];exact ah
def ajP(hLeft:fK)(m:Md)(hm:yD m)(h:(kB rA m).c=0->ckB m):aj pg yk [ba m] (.bool ((kO m).c==0)):=by
 refine ao Dn ?_;have c:=Mn hLeft m hm h;simp only[ba,aM]at c;simp only[go_sem,Dn,ba];refine aa (c) ?_;exact ah
end
open Go Go.Mw
def CR{F:Fa}{p i l e:Int}(h:(dE F p i l e).c=0):F.c=0/\e=0:=by
 unfold dE at h;by_cases h1:F.c=0
 .by_cases h2:e=0
  .exact⟨h1,h2⟩
  .rw[az ⟨h1,h2⟩]at h;exact absurd h h2
 .rw[an (λq=>h1 q.1)]at h;exact absurd h h1
def O9{n:Int}:∀{l:List (Int×Int)}{i:Nat}{F:Fa},(ee n i l F).c=0->F.c=0/\∀r∈l,r.2=0
 | [],i,F,h=>⟨h,λr hr=>by cases hr⟩
 | r::l,i,F,h=>by
  rw[ee]at h;by_cases h1:F.c≠0
  .rw[az h1]at h;exact absurd h h1
  rw[an h1]at h;obtain⟨h2,h3⟩:=O9 h;obtain⟨h4,h5⟩:=CR h2;refine⟨h4,λr' hr'=>?_⟩;rcases bM.1 hr' with rfl|q
  .exact h5
  .exact h3 r' q
def jd{n most imp:Int}{res:List (Int×Int)}{F:Fa}(h:(eF n most imp res F).c=0):F.c=0/\IntKind.i64.wrap ((res.length:Int)+imp)<=most/\∀r∈res,r.2=0:=by
 unfold eF at h;obtain⟨h1,h2⟩:=O9 h;by_cases h3:IntKind.i64.wrap ((res.length:Int)+imp)>most
 .rw[az h3]at h1;exact absurd (CR h1).2 (by decide)
 .rw[an h3]at h1;exact⟨h1,by omega,h2⟩
def W7{P:bj->Bool}:∀{l:List bj}{i:Nat},(E7 P i l).2=0->∀x∈l,P x=true/\x.lb.length<=64
 | [],i,h,x,hx=>by cases hx
 | y::l,i,h,x,hx=>by
  rw[E7]at h;by_cases h1:P y=false
  .rw[az h1]at h;exact absurd h (show ¬(10:Int)=0 by decide)
  rw[an h1]at h;by_cases h2:y.lb.length>64
  .rw[az h2]at h;exact absurd h (show ¬(6:Int)=0 by decide)
  rw[an h2]at h;rcases bM.1 hx with rfl|q
  .exact⟨by simpa using h1,by omega⟩
  .exact W7 h x q
def vb{P:bj->Bool}{l:List bj}(h:(fO P l).2=0):l.length<=2048/\∀x∈l,P x=true/\x.lb.length<=64:=by
 unfold fO at h;by_cases h1:l.length>2048
 .rw[az h1]at h;exact absurd h (show ¬(6:Int)=0 by decide)
 rw[an h1]at h;exact⟨by omega,W7 h⟩
def PU{P:bj->Bool}:∀{l:List (List bj)},(oV P l).2=0->∀x∈l,(fO P x).2=0
 | [],h,x,hx=>by cases hx
 | y::l,h,x,hx=>by
  rw[oV]at h;by_cases h1:(fO P y).2≠0
  .rw[az h1]at h;exact absurd h h1
  rw[an h1]at h;rcases bM.1 hx with rfl|q
  .exact Decidable.of_not_not h1
  .exact PU h x q
def ace{P:bj->Bool}{x:El}(h:(ML P x).2=0):x.it.length<=256/\∀l∈x.o::x.it,(fO P l).2=0:=by
 unfold ML at h;split at h
 .exact absurd h (show ¬(1:Int)=0 by decide)
 split at h
 .exact absurd h (show ¬(11:Int)=0 by decide)
 split at h
 .exact absurd h (show ¬(12:Int)=0 by decide)
 split at h
 .exact absurd h (show ¬(6:Int)=0 by decide)
 .exact⟨by omega,PU h⟩
def acb{P:bj->Bool}{x:Da}(h:(M7 P x).2=0):(fO P x.o).2=0:=by
 unfold M7 at h;split at h
 .exact absurd h (show ¬(1:Int)=0 by decide)
 split at h
 .exact absurd h (show ¬(11:Int)=0 by decide)
 split at h
 .exact absurd h (show ¬(6:Int)=0 by decide)
 .exact h
def aco{P:bj->Bool}{x:Gd}(h:(Q7 P x).2=0):(fO P x.i).2=0:=by
 unfold Q7 at h;split at h
 .rename_i q;exact absurd h q
 .exact h
def ahV{x:Cd}(h:Dw x=0):x.lo.length<=64:=by
 unfold Dw at h;split at h
 .exact absurd h (by decide)
 split at h
 .exact absurd h (by decide)
 .omega
def aie{x:Ft}(h:CS x=0):x.ps.length<=8/\x.rs.length<=8:=by
 unfold CS at h;split at h
 .exact absurd h (by decide)
 .omega
def M2(m:Md)(hm:yD m)(h:(kB rA m).c=0):ckB m:=by
 unfold kB at h;by_cases h11:(rh rA m).c=0;rotate_left
 .rw[an h11]at h;exact absurd h h11
 rw[az h11]at h;obtain⟨_,_,r12⟩:=jd h;obtain⟨h10,l11,r11⟩:=jd h11;obtain⟨h9,l10,r10⟩:=jd h10;obtain⟨h8,l9,r9⟩:=jd h9;have h7:(NI rA m).c=0:=by
  unfold Iu at h8;split at h8
  .exact(CR h8).1
  .exact h8
 obtain⟨h6,l7,r7⟩:=jd h7;obtain⟨h5,l6,r6⟩:=jd h6;obtain⟨h4,l5,r5⟩:=jd h5;obtain⟨h3,l4,r4⟩:=jd h4;obtain⟨h2,l3,r3⟩:=jd h3;obtain⟨h1,l2,r2⟩:=jd h2;obtain⟨h0,l1,r1⟩:=jd h1;simp only[bY]at l1 l2 l3 l4 l5 l6 l7 l9 l10 l11;have c0:=iO 0 m.ims;have c1:=iO 1 m.ims;have c2:=iO 2 m.ims;have c3:=iO 3 m.ims;have b1:=hm.ts.1;have b2:=hm.ims;have b3:=hm.fs.1;have b4:=hm.tbs;have b5:=hm.ms;have b6:=hm.gs.1;have b7:=hm.exs;have b9:=hm.els.1;have b10:=hm.ds.1;have b11:=hm.cs.1;rw[wi (by omega) (by omega)]at l1 l2 l3 l4 l5 l6 l7 l9 l10 l11;have e1:∀x∈m.ts,x.ps.length<=8/\x.rs.length<=8:=λx hx=>aie (r1 (0,CS x) (fb.2 ⟨x,hx,rfl⟩));have e3:∀x∈m.fs,x.lo.length<=64:=λx hx=>ahV (r3 (0,Dw x) (fb.2 ⟨x,hx,rfl⟩));have e6:∀x∈m.gs,x.i.length<=2048:=λx hx=>(vb (aco (r6 (Q7 rA x) (fb.2 ⟨x,hx,rfl⟩)))).1;have e9:∀x∈m.els,x.it.length<=256/\∀l∈x.o::x.it,l.length<=2048:=λx hx=>by
  obtain⟨q1,q2⟩:=ace (r9 (ML rA x) (fb.2 ⟨x,hx,rfl⟩));exact⟨q1,λl hl=>(vb (q2 l hl)).1⟩
 have e10:∀x∈m.ds,x.o.length<=2048:=λx hx=>(vb (acb (r10 (M7 rA x) (fb.2 ⟨x,hx,rfl⟩)))).1;have e12:∀x∈m.fs,x.b.length<=2048/\∀y∈x.b,rA y=true/\y.lb.length<=64:=λx hx=>vb (r12 (fO rA x.b) (fb.2 ⟨x,hx,rfl⟩));refine⟨⟨by omega,by omega,by omega,by omega,by omega,by omega,by omega,by omega,λg hg=>?_,λe he=>?_,λx hx=>?_⟩,λx hx=>?_,λf hf=>?_,λg hg=>?_,λe he=>?_,⟨by omega,λd hd=>?_⟩,by omega⟩
 .have:=e6 g hg;omega
 .obtain⟨q1,q2⟩:=e9 e he;exact⟨by omega,λl hl=>by have:=q2 l (List.mem_cons_of_mem _ hl);omega⟩
 .have:=e1 x hx;omega
 .have:=e1 x hx;omega
 .exact⟨e3 f hf,(e12 f hf).1,λy hy=>⟨((hm.fs.2 f hf).2).2 y hy,((e12 f hf).2 y hy).2⟩⟩
 .have:=e6 g hg;omega
 .obtain⟨q1,q2⟩:=e9 e he;exact⟨by have:=q2 e.o List.mem_cons_self;omega,by omega,λl hl=>by have:=q2 l (List.mem_cons_of_mem _ hl);omega⟩
 .have:=e10 d hd;omega
def abv(hLeft:fK)(m:Md)(hm:yD m):aj pg pE [ba m] (.agg [.int .i64 (kO m).p,.int .i64 (kO m).i,.int .i64 (kO m).l,.int .i64 (kO m).c]):=Mn hLeft m hm (M2 m hm)
def alC(hLeft:fK)(m:Md)(hm:yD m):aj pg yk [ba m] (.bool ((kO m).c==0)):=ajP hLeft m hm (M2 m hm)
def Nt{n:Int}:∀{l:List (Int×Int)}{i:Nat}{F:Fa},(∀r∈l,r.2=0)->ee n i l F=F
 | [],i,F,h=>rfl
 | r::l,i,F,h=>by
  by_cases h1:F.c≠0
  .exact Nr F h1
  .rw[ee,an h1];have e:dE F n i r.1 r.2=F:=by
    unfold dE;rw[an (λq=>q.2 (h r List.mem_cons_self))]
   rw[e];exact Nt (λr' hr'=>h r' (List.mem_cons_of_mem _ hr'))
def Wi{n most imp:Int}{res:List (Int×Int)}{F:Fa}(h:IntKind.i64.wrap ((res.length:Int)+imp)<=most)(hr:∀r∈res,r.2=0):eF n most imp res F=F:=by
 unfold eF;rw[an (by omega)];exact Nt hr
def kJ{n most imp:Int}{res:List (Int×Int)}{F:Fa}:(eF n most imp res F).c=0↔F.c=0/\IntKind.i64.wrap ((res.length:Int)+imp)<=most/\∀r∈res,r.2=0 :=
 ⟨jd,λh=>by rw[Wi h.2.1 h.2.2];exact h.1⟩
def YM{α:Type}{f:α->Int×Int}{l:List α}:(∀r∈l.map f,r.2=0)↔∀x∈l,(f x).2=0:=by
 simp only[fb,forall_exists_index,and_imp,forall_apply_eq_imp_iff₂]
structure aiC(P:bj->Bool)(m:Md):Prop where
 ts:IntKind.i64.wrap ((m.ts.length:Int)+0)<=64/\∀x∈m.ts,CS x=0
 ims:IntKind.i64.wrap ((m.ims.length:Int)+0)<=32/\∀x∈m.ims,KI x=0
 fs:IntKind.i64.wrap ((m.fs.length:Int)+(dH 0 m.ims:Nat))<=64/\∀x∈m.fs,Dw x=0
 tbs:IntKind.i64.wrap ((m.tbs.length:Int)+(dH 1 m.ims:Nat))<=4/\∀x∈m.tbs,Mv x=0
 ms:IntKind.i64.wrap ((m.ms.length:Int)+(dH 2 m.ims:Nat))<=2/\∀x∈m.ms,KY x=0
 gs:IntKind.i64.wrap ((m.gs.length:Int)+(dH 3 m.ims:Nat))<=32/\∀x∈m.gs,(Q7 P x).2=0
 exs:IntKind.i64.wrap ((m.exs.length:Int)+0)<=64/\∀x∈m.exs,MM x=0
 st:¬(m.hs=true/\re m.st=false)
 els:IntKind.i64.wrap ((m.els.length:Int)+0)<=16/\∀x∈m.els,(ML P x).2=0
 ds:IntKind.i64.wrap ((m.ds.length:Int)+0)<=16/\∀x∈m.ds,(M7 P x).2=0
 cs:IntKind.i64.wrap ((m.cs.length:Int)+0)<=8/\∀x∈m.cs,MJ x=0
 bs:IntKind.i64.wrap ((m.fs.length:Int)+0)<=(m.fs.length:Int)/\∀x∈m.fs,(fO P x.b).2=0
def aiE{P:bj->Bool}{m:Md}:(Iu P m).c=0↔(NI P m).c=0/\¬(m.hs=true/\re m.st=false):=by
 unfold Iu;by_cases h:m.hs=true/\re m.st=false
 .rw[az h];exact⟨λq=>absurd (CR q).2 (by decide),λq=>absurd h q.2⟩
 .rw[an h];exact⟨λq=>⟨q,h⟩,λq=>q.1⟩
def aiD{P:bj->Bool}{m:Md}:(kB P m).c=0↔aiC P m:=by
 have e:(kB P m).c=0↔(eF 12 (m.fs.length:Int) 0 (m.fs.map (λx=>fO P x.b)) (rh P m)).c=0:=by
  unfold kB;by_cases h:(rh P m).c=0
  .rw[az h]
  .rw[an h];exact⟨λq=>absurd q h,λq=>absurd (jd q).1 h⟩
 rw[e,kJ,rh,kJ,FJ,kJ,Ya,kJ,aiE,NI,kJ,X_,kJ,X9,kJ,X8,kJ,X7,kJ,X6,kJ,Vv,kJ];simp only[YM,bY]
 exact⟨λ⟨⟨⟨⟨⟨⟨⟨⟨⟨⟨⟨⟨_,a1⟩,a2⟩,a3⟩,a4⟩,a5⟩,a6⟩,a7⟩,a8⟩,a9⟩,a10⟩,a11⟩,a12⟩=>⟨a1,a2,a3,a4,a5,a6,a7,a8,a9,a10,a11,a12⟩,
  λh=>⟨⟨⟨⟨⟨⟨⟨⟨⟨⟨⟨⟨rfl,h.ts⟩,h.ims⟩,h.fs⟩,h.tbs⟩,h.ms⟩,h.gs⟩,h.exs⟩,h.st⟩,h.els⟩,h.ds⟩,h.cs⟩,h.bs⟩⟩
structure amk(m:Md)(s:Sp):Prop where
 ims:∀x∈m.ims,(z8 s x).2=0
 fs:∀x∈m.fs,(s.ty x.t).isSome=true
 gs:∀x∈m.gs,(dD s x.i x.g.v).2=0
 exs:∀r∈kR s [] m.exs,r.2=0
 st:m.hs=true->(CJ s m.st).2=0
 els:∀x∈m.els,(yw s x).2=0
 ds:∀x∈m.ds,(CI s x).2=0
 cs:∀r∈mE (wv m) 0 m.cs,r.2=0
 bs:∀x∈m.fs,(iw m s x).2=0
def iS{n:Int}{l:List (Int×Int)}{F:Fa}(hF:F.c=0->F=cB)(h:(ee n 0 l F).c=0):ee n 0 l F=cB:=by
 rw[Nt (O9 h).2];exact hF (O9 h).1
def adO{m:Md}(h:(kO m).c=0):kO m=cB:=by
 unfold kO at h⊢;by_cases h1:(kB rA m).c=0
 .rw[an (λq=>q h1)]at h⊢;have h5:(QH m (bO m)).c=0->QH m (bO m)=cB:=λq=>by
   have h4:(Sy m (bO m)).c=0->Sy m (bO m)=cB:=iS (iS (iS (iS λ_=>rfl)));unfold QH at q⊢;split at q
   .rename_i z;rw[az z];exact iS h4 q
   .rename_i z;rw[an z];exact h4 q
  exact iS (iS (iS (iS h5))) h
 .rw[az h1]at h;exact absurd h h1
section
open Go.RowKit Go.Shelf
attribute[local go_sem] Oper.semAt_some
def aeg(x:Int×Int):Array Value:=#[.int .i64 x.1,.int .i64 x.2]
def Tx(l:List Int):List (Int×Int):=((List.range l.length).reverse).map λ(i:Nat)=>((i:Int),av l i)
def H_(l:List Int):(Tx l).length=l.length:=by simp[Tx]
def Tz(l:List Int){k:Nat}(h:k<l.length):(Tx l)[k]?=some (((l.length-1-k:Nat):Int),av l (l.length-1-k)):=by
 unfold Tx;rw[iG,List.getElem?_reverse (by simpa using h),List.length_range,MC (by omega)];rfl
def Kj(l:List Int){k:Nat}(h:k<l.length):(Tx l).take (k+1)=(Tx l).take k++[(((l.length-1-k:Nat):Int),av l (l.length-1-k))]:=by
 rw[H1,Tz l h,H0]
def slF(v:Value)(l:List Int)(B:Nat->Prop)(w:World):Prop:=∃pa cap,v = .slice pa l.length cap/\(0<l.length->∃b off c t fr,pa=some ⟨b,off,none⟩/\B b/\w.heap[b]?=some (.cells c t fr)/\∀i,i<l.length->c[off+i]?=some (.int .i64 (av l i)))
def ajS{M:Nat->Prop}{w:World}{v:Value}{l:List Int}(h:IRel M w v (.sl 1 (l.map aS))):slF v l (λb=>¬M b) w:=by
 generalize hr:l.map aS=rows at h;have hlen:rows.length=l.length:=by rw[<-hr,bY]
 cases h with
 | nls=>exact⟨none,0,by rw[<-hlen];rfl,λh=>by rw[<-hlen]at h;exact absurd h (Nat.lt_irrefl 0)⟩
 | sl0 _ a cap=>exact⟨some a,cap,by rw[<-hlen];rfl,λh=>by rw[<-hlen]at h;exact absurd h (Nat.lt_irrefl 0)⟩
 | sl b off cap st c t fr rows vs hb hM hl hr1 hv hx =>
  refine⟨some ⟨b,off,none⟩,cap,by rw[hlen],λ_=>⟨b,off,c,t,fr,rfl,hM,hb,λi hi=>?_⟩⟩;have hrow:rows[i]?=some (aS (av l i)):=by rw[<-hr,iG,md hi];rfl
  have e:=hx i 0 _ (.int .i64 (av l i)) hrow rfl;have e2:=hv i 0 (by omega) (by omega);rw[AA,Nat.add_zero]at e2;rw[e2];generalize vs i 0=u at e;cases e;rfl
def ahD(n:Nat)(l:List Int)(hl:l.length<1000000)(w:World)(B:Nat->Prop)(v:Value)(pb po:Nat)(hBp:B pb)(hBs:∀b,B b->b<w.heap.size){cc:Array Value}{t0:TypeId}{fr0:Nat×Nat}(hb:w.heap[pb]?=some (.cells cc t0 fr0))(hcc:cc[po]?=some v)(hv:slF v l B w) :
  ahg B n pg 315 #[.pointer (some ⟨pb,po,none⟩)] aeg (Tx l) w:=by
 obtain⟨pa,cap,rfl,hs⟩:=hv;intro l' J Jx W hH hW hJ hJx hY h0;refine callsIn_of_wp Tryz.func315 rfl trivial ?_ rfl;have hb1:W.heap[pb]?=some (.cells cc t0 fr0):=by rw[hW.keep _ (hBs pb hBp) (λh=>h)];exact hb
 simp only[Tryz.ntmps315,List.size_toArray,i9,eG,Nat.reduceAdd,Nat.reduceSub,Array.replicate_succ,Array.replicate_zero,List.push_toArray,List.append_toArray,gC,oG];have c0:W.cell? ⟨pb,po,none⟩=some (.slice pa l.length cap):=(bU hb1 _).trans hcc;have hw0:wrap64 ((l.length:Int)-1)=(l.length:Int)-1:=IntWalk.wrap64_in _ (by omega)
 gi_wp2
 gi_loopw [3] (λi wr=>∃k:Nat,k<=l.length/\i = .int .i64 ((l.length:Int)-1-k)/\J ((Tx l).take k) wr/\W.heap.size<=wr.heap.size/\∀b,B b->wr.heap[b]? = W.heap[b]?) (λi _=>(intOf i+1).toNat)
 case atStart=>exact⟨0,dx _,by simp,h0,aQ _,λ_ _=>rfl⟩
 case round =>
  obtain⟨k,hk,rfl,hJk,hsz,hst⟩:=hrel;have hb2:=(hst pb hBp).trans hb1;have c1:wr.cell? ⟨pb,po,none⟩=some (.slice pa l.length cap):=(bU hb2 _).trans hcc;by_cases hlt:k<l.length
  .obtain⟨b,off,c,t,fr,hpa,hBb,hbb,hc⟩:=hs (by omega);have hbW:W.heap[b]?=some (.cells c t fr):=by rw[hW.keep _ (hBs b hBb) (λh=>h)];exact hbb
   have hi:((l.length:Int)-1-k)=((l.length-1-k:Nat):Int):=by omega
   have c2:wr.cell? ⟨b,off+(l.length-1-k),none⟩=some (.int .i64 (av l (l.length-1-k))):=(bU ((hst b hBb).trans hbW) _).trans (hc _ (by omega));have hpre:(Tx l).take k++[(((l.length-1-k:Nat):Int),av l (l.length-1-k))] <+: Tx l:=by
    rw[<-Kj l hlt];exact List.take_prefix _ _
   obtain⟨fn,tmps,assign,body,hy,hR⟩:=hY _ _ wr hJk hpre;have hy2:(Instr.yield l' #[.int .i64 ((l.length-1-k:Nat):Int),.int .i64 (av l (l.length-1-k))]).run pg wr = .ok (.round l' fn tmps assign body) wr:=hy;have hw1:wrap64 (((l.length-1-k:Nat):Int)-1)=(l.length:Int)-1-((k+1:Nat):Int):=by rw[IntWalk.wrap64_in _ (by omega)];omega
   rw[hi];subst hpa
   gi_wp2
   refine⟨λh=>(by cases h),hR.mono ?_⟩;rintro e W3 (⟨rfl,hJ3,hk3⟩|⟨rfl,hJx3⟩)
   .gi_wp2
    go_roundw
    case rel =>
     refine⟨k+1,by omega,by congr 1;omega,?_,gD hsz hk3.1,λb' hb'=>(hk3.2.2 b' hb').trans (hst b' hb')⟩;rw[Kj l hlt];exact hJ3
    case measure=>simp[intOf]<;>omega
   .gi_wp2
    refine bodyPost_ret (results_none rfl _ _ _) rfl ?_;exact⟨⟨_,rfl⟩,.inr ⟨_,hpre,hJx3⟩⟩
  .have hk2:k=l.length:=by omega
   subst hk2;have hi:((l.length:Int)-1-l.length) = -1:=by omega
   rw[hi]
   gi_wp2
   refine bodyPost_end (results_none rfl _ _ _) rfl ?_;refine⟨⟨_,rfl⟩,.inl ?_⟩;rw[iF (by rw[H_];exact aQ _)]at hJk;exact hJk
end
section
open Go.RowKit Go.Shelf
attribute[local go_sem] bY qx afR
def ajM(S:Sk)(hb:S.u.length<1000000):aj pg nZ [J6 S] (.ip [.int .i64 ((bI S.u).length:Int),.bool S.t.lo]):=by
 refine ao gM ?_;have hw:=zO S hb;have hl:=dw (S.t::S.u);have e1:av (cu (S.t::S.u)) S.u.length=(((bI S.u).length:Int),S.t.lo):=iX _ _ (dw _).symm;simp only[i9]at hl;simp only[go_sem,gM,hw,cL,e1];refine⟨by omega,by omega,?_⟩;exact ah
def agn(l:List (List AV)):aj pg 292 [.sl 1 l] (.fn 315 [.ip [.sl 1 l]]):=by
 refine ao fh ?_;simp only[go_sem,fh];refine dB (Wk.unrec _ 1 (r:=[.sl 1 l]) (by rfl) (λx hx=>by rw[fS.1 hx];exact⟨rfl,rfl⟩)) [1] (by rfl) (by rfl)
def lc0:Code:=match Tryz.f262.body with
 | some (.seq x _)=>x
 | _=>.skip
def lc1:Code:=match Tryz.f262.body with
 | some (.seq _ (.seq x _))=>x
 | _=>.skip
def Rs(d:Nat)(op:ln):bH:={dst:=some d,op:=op,g:=none}
def Vm:bC:=.reg [Rs 2 (.box 176 1 (.s 0)),Rs 4 (.new 3 [.int .i64 0]),Rs 5 (.new 36 [.int .i64 0])] []
def Rr:bC :=
 (bC.draw [⟨Rs 11 (.load none (.s 2)),[]⟩,⟨Rs 12 (.nchk (.s 11)),[0]⟩,⟨Rs 13 (.fadr 0 (.s 12)),[1,0]⟩,⟨Rs 14 (.load none (.s 13)),[2,1,0]⟩,
  ⟨Rs 15 (.len (.s 14)),[3,2,1,0]⟩,⟨Rs 16 (.load none (.s 2)),[]⟩,⟨Rs 17 (.call 263 [.s 16]),[5]⟩,⟨Rs 6 (.new 3 [.int .i64 0]),[]⟩,
  ⟨Rs 7 (.new 306 [.np]),[]⟩] [(6,7),(7,8)] []).seq
 ((bC.reg [{dst:=none,op:=.store 1 (.s 6) (.s 15),g:=none}] []).seq
 (bC.reg [{dst:=none,op:=.store 1 (.s 7) (.s 17),g:=none}] [11,12,13,14,15,16,17]))
def aiw:comp pg 54 [[2,4,5,6,7],[2,4,5,6,7]] lc0=some Vm:=by rfl
def aix:comp pg 54 [[2,4,5,6,7],[2,4,5,6,7]] lc1=some Rr:=by rfl
abbrev R0(t:TypeId)(x:AV):au:=⟨t,1,[[x]],true⟩
def acF(S:Sk)(l:List Int)(e:IX)(s:St):Prop:=e = .nrm/\get s.env 1 = .sl 1 (l.map aS) /\
 (get s.env 2 = .mp 2 1 0 0/\ak s.heap 2=some (R0 176 (J6 S)))/\(get s.env 4 = .mp 4 1 0 0/\ak s.heap 4=some (R0 3 (.int .i64 0))) /\
 (get s.env 5 = .mp 5 1 0 0/\ak s.heap 5=some (R0 36 (.int .i64 0)))/\(get s.env 6 = .mp 6 1 0 0/\ak s.heap 6=some (R0 3 (.int .i64 S.all.length))) /\
 (get s.env 7 = .mp 7 1 0 0/\ak s.heap 7=some (R0 306 (.ip [.int .i64 ((bI S.u).length:Int),.bool S.t.lo])))
def Vr(S:Sk)(l:List Int)(hb:S.u.length<1000000):lz pg Vm ⟨ir 0 [J6 S,.sl 1 (l.map aS)],[]⟩ (λe s=>e = .nrm/\lz pg Rr s (acF S l)):=by
 have hw:=zO S hb;have hl:=dw (S.t::S.u);have k1:=ajM S hb;rw[qx]at k1;simp only[go_sem,Vm,Rr,Rs,J6,true_and];refine ax k1 (by simp[go_sem]) rfl ?_;simp only[go_sem];exact⟨rfl,rfl,⟨rfl,rfl⟩,⟨rfl,rfl⟩,⟨rfl,rfl⟩,⟨rfl,rfl⟩,rfl,rfl⟩
def G8(bl:Nat->Option Nat)(M:Nat->Prop)(a:Act)(w:World)(k:Nat)(t:TypeId)(x:AV)(b:Nat):Prop :=
 tv a k = .pointer (some ⟨b,0,none⟩)/\M b/\∃cc fr v,w.heap[b]?=some (.cells cc t fr)/\fQ cc fr/\cc[0]?=some v/\cJ bl M w v x
def Dx{c:sV}{bl:Nat->Option Nat}{g:Nat->AV}{h:Nat->Option au}{a:Act}{w:World}(hs:aT c bl g h a w){k:Nat}{t:TypeId}{x:AV}(hk:g k = .mp k 1 0 0)(ho:h k=some (R0 t x)) :
  ∃b,bl k=some b/\G8 bl (bQ bl c.MF h) a w k t x b:=by
 have he:=hs.env k;rw[hk]at he;obtain⟨b,hb,hv⟩:=(he:∃b,bl k=some b/\tv a k = .pointer (some ⟨b,0*1+0,none⟩))
 refine⟨b,hb,hv,.inr ⟨k,_,ho,hb⟩,?_⟩;rcases hs.heap.1 k _ ho with⟨h1,_⟩|⟨b',hb',hO⟩
 .cases h1
 .rw[hb]at hb';cases hb';rcases hO with⟨_,cc,fr,h1,h2,_,_,_,h3⟩|hO
  .obtain⟨v,h4,h5⟩:=h3 0 0 [x] x rfl rfl;exact⟨cc,fr,v,h1,h2,h4,h5⟩
  .exact absurd hO.rows (by simp)
