import Derived.Test.YtijcmjncppkpiaaGreatDoorCQa
import Derived.Orders
import Derived.Still
import Derived.Scope
set_option linter.all false
set_option maxRecDepth 20000
set_option maxHeartbeats 400000
namespace Go.Mw
structure St where
 env:List (Nat×AV)
 heap:List (Nat×aj)
def get:List (Nat×AV)->Nat->AV
 | [],_=>.any
 | (k,x)::r,n=>if k=n then x else get r n
def ae:List (Nat×aj)->Nat->Option aj
 | [],_=>none
 | (k,x)::r,n=>if k=n then some x else ae r n
def del:List (Nat×AV)->Nat->List (Nat×AV)
 | [],_=>[]
 | (k,x)::r,n=>if k=n then del r n else(k,x)::del r n
def ny:List (Nat×aj)->Nat->List (Nat×aj)
 | [],_=>[]
 | (k,x)::r,n=>if k=n then ny r n else(k,x)::ny r n
def vF(i:Nat):List (Nat×AV)->List (Nat×AV)
 | []=>[]
 | (k,x)::r=>(k,i_ i x)::vF i r
def vG(i:Nat):List (Nat×aj)->List (Nat×aj)
 | []=>[]
 | (k,x)::r=>(k,ee i x)::vG i r
def St.put(s:St)(d:Option Nat)(x:AV):St :=
 match d with
 | some d=>⟨(d,x)::s.env,s.heap⟩
 | none=>s
def St.kill(s:St)(i:Nat):St:=⟨vF i s.env,vG i (ny s.heap i)⟩
def St.eff(s:St)(e:aW):St :=
 match e with
 | .no=>s
 | .put i o=>⟨s.env,(i,o)::ny s.heap i⟩
 | .new i o=>⟨s.env,(i,o)::ny s.heap i⟩
 | .reb i o=>⟨vF i s.env,(i,o)::vG i (ny s.heap i)⟩
def kills:List Nat->St->St
 | [],s=>s
 | i::r,s=>kills r (s.kill i)
def dels:List Nat->List (Nat×AV)->List (Nat×AV)
 | [],e=>e
 | d::r,e=>dels r (del e d)
def pI(n:Nat):∀(l:List (Nat×AV))(k:Nat),get (del l n) k=if k=n then .any else get l k
 | [],k=>by simp[del,get]
 | (j,x)::r,k=>by
  simp only[del];by_cases h:j=n
  .rw[aF h,pI n r k];subst h;by_cases h2:k=j
   .simp[h2]
   .simp[get,h2,Ne.symm h2]
  .rw[ax h];simp only[get];by_cases h2:j=k
   .subst h2;simp[h]
   .simp only[h2,fS,pI n r k]
def dO(n:Nat):∀(l:List (Nat×aj))(k:Nat),ae (ny l n) k=if k=n then none else ae l k
 | [],k=>by simp[ny,ae]
 | (j,x)::r,k=>by
  simp only[ny];by_cases h:j=n
  .rw[aF h,dO n r k];subst h;by_cases h2:k=j
   .simp[h2]
   .simp[ae,h2,Ne.symm h2]
  .rw[ax h];simp only[ae];by_cases h2:j=k
   .subst h2;simp[h]
   .simp only[h2,fS,dO n r k]
def jK(i:Nat):∀(l:List (Nat×AV))(k:Nat),get (vF i l) k=i_ i (get l k)
 | [],k=>by simp[vF,get,i_,mV,mG,mC,mP]
 | (j,x)::r,k=>by simp only[vF,get,jK i r k];split<;>rfl
def fU(i:Nat):∀(l:List (Nat×aj))(k:Nat),ae (vG i l) k=(ae l k).map (ee i)
 | [],k=>by simp[vG,ae]
 | (j,x)::r,k=>by simp only[vG,ae,fU i r k];split<;>rfl
def cG(c:qL)(s:St)(a:Act)(w:World):Prop:=∃bl,aH c bl (get s.env) (ae s.heap) a w
section
variable{P:Program}[ba P]{c:qL}[CT c P]{a:Act}{w:World}{s:St}
def cG.kill(h:cG c s a w)(i:Nat):cG c (s.kill i) a w:=by
 obtain⟨bl,h⟩:=h;exact⟨bl,(h.kill i).congr (λk=>by simp[St.kill,jK]) (λj=>by simp only[St.kill,fU,dO];split<;>simp)⟩
def cG.kills:∀(l:List Nat){s:St},cG c s a w->cG c (Mw.kills l s) a w
 | [],_,h=>h
 | i::r,_,h=>cG.kills r (h.kill i)
def cX(s:St)(i:Nat):ae (s.kill i).heap i=none/\cN i (get (s.kill i).env) (ae (s.kill i).heap):=by
 refine⟨by simp[St.kill,fU,dO],?_⟩;have:=oE i (get s.env) (ae s.heap);refine⟨λk=>by simpa[St.kill,jK]using this.1 k,λj o hj=>this.2 j o ?_⟩;rw[<-hj];simp only[St.kill,fU,dO];split<;>simp
def cG.del(h:cG c s a w)(d:Nat):cG c ⟨del s.env d,s.heap⟩ a w:=by
 obtain⟨bl,h⟩:=h;exact⟨bl,h.weaken (λk=>by rw[pI];split<;>simp) (λ_ _ h=>h)⟩
def cG.dels:∀(l:List Nat){e:List (Nat×AV)}{hp:List (Nat×aj)},cG c ⟨e,hp⟩ a w->cG c ⟨Mw.dels l e,hp⟩ a w
 | [],_,_,h=>h
 | d::r,_,_,h=>cG.dels r (h.del d)
def kM{bl:Nat->Option Nat}{g:Nat->AV}{h:Nat->Option aj}(hs:aH c bl g h a w)(d:Option Nat)(hd:∀k,d=some k->k<c.n){v:Value}{x:AV}(hv:aY bl (bz bl c.MF h) w v x)
  (hg:∀k,get s.env k=g k) (hh:∀j,ae s.heap j=h j):cG c (s.put d x) (a.put d v) w:=by
 cases d with
 | none=>exact⟨bl,by simpa[St.put,Act.put]using hs.congr hg hh⟩
 | some d =>
  refine⟨bl,(hs.put (hd d rfl) hv).congr (λk=>?_) (λj=>by simpa[St.put]using hh j)⟩;simp only[St.put,get,dQ,pI];by_cases hk:k=d
  .subst hk;simp
  .simp[hk,Ne.symm hk,hg]
def HE(h:cG c s a w)(d:Option Nat)(hd:∀k,d=some k->k<c.n)(_:Unit):cG c (s.put d (.tup [])) (a.put d undef) w:=by
 obtain⟨bl,h⟩:=h;exact kM h d hd (x:=.tup []) ⟨[],rfl,trivial⟩ (λ_=>rfl) (λ_=>rfl)
def sP(s:St)(e:aW)(k:Nat):get (s.eff e).env k=e.env (get s.env) k:=by
 cases e<;>simp[St.eff,aW.env,jK]
def oW(s:St)(e:aW)(j:Nat):ae (s.eff e).heap j=e.hp (ae s.heap) j:=by
 cases e with
 | no=>rfl
 | put i o=>simp only[St.eff,aW.hp,ae,dQ,dO];by_cases h:j=i<;>simp[h,eq_comm]
 | new i o=>simp only[St.eff,aW.hp,ae,dQ,dO];by_cases h:j=i<;>simp[h,eq_comm]
 | reb i o=>simp only[St.eff,aW.hp,ae,dQ,fU,dO];by_cases h:j=i<;>simp[h,eq_comm]
end
def gE:AV->List Nat
 | .ms id _ _ _=>[id]
 | .mp id _ _ _=>[id]
 | .mm id _=>[id]
 | _=>[]
def fM:AV->List Nat
 | .fn _ caps=>caps.flatMap gE
 | x=>gE x
def jp:AV->List Nat
 | .agg cells=>cells.flatMap fM
 | x=>fM x
def aI:AV->List Nat
 | .tup vs=>vs.flatMap jp
 | x=>jp x
def dZ(o:aj):List Nat:=if o.isRec then o.rows.flatMap (λr=>r.flatMap fM)else[]
def Pv{i:Nat}{x:AV}(h:mP i x=true):i∈gE x:=by cases x<;>simp_all [mP,gE]
def vm{i:Nat}{x:AV}(h:mC i x=true):i∈fM x:=by
 cases x with
 | fn f caps =>
  simp only[mC,zX]at h;obtain⟨y,h1,h2⟩:=h;simp only[fM,oJ];exact⟨y,h1,Pv h2⟩
 | _ =>
  simp only[mC]at h;simpa only[fM]using Pv h
def Pu{i:Nat}{x:AV}(h:mG i x=true):i∈jp x:=by
 cases x with
 | agg cells =>
  simp only[mG,zX]at h;obtain⟨y,h1,h2⟩:=h;simp only[jp,oJ];exact⟨y,h1,vm h2⟩
 | _ =>
  simp only[mG]at h;simpa only[jp]using vm h
def oe{i:Nat}{x:AV}(h:mV i x=true):i∈aI x:=by
 cases x with
 | tup vs =>
  simp only[mV,zX]at h;obtain⟨y,h1,h2⟩:=h;simp only[aI,oJ];exact⟨y,h1,Pu h2⟩
 | _ =>
  simp only[mV]at h;simpa only[aI]using Pu h
def ra(r:AV)(σ:List (Nat×aj)):Prop:=(∀i∈aI r,(ae σ i).isSome=true)/\∀p∈σ,∀i∈dZ p.2,(ae σ i).isSome=true
def nY(bl:Nat->Option Nat)(σ:List (Nat×aj))(b:Nat):Prop:=∃id o,ae σ id=some o/\bl id=some b
def aZ(P:Program)[ba P](f:FuncId)(args:List AV)(σ:List (Nat×aj))(Sb:Nat->Prop)(Post:AV->List (Nat×aj)->Prop):Prop :=
 ∀(bl:Nat->Option Nat)(MF:Nat->Prop)(w:World)(cargs:List Value),
  (ba.T P).H w->(∀b,(ba.T P).B b->¬bz bl MF (ae σ) b)->HW bl (bz bl MF (ae σ)) MF w (ae σ)->(∀b,MF b->b<w.heap.size)->aR (aY bl (bz bl MF (ae σ)) w) cargs args ->
  Calls P f cargs.toArray w λe w'=>∃v r σ' bl',e = .returned v/\Post r σ'/\ra r σ'/\HW bl' (bz bl' MF (ae σ')) MF w' (ae σ')/\aY bl' (bz bl' MF (ae σ')) w' v r /\
   gR (nY bl σ) w w'/\(∀id o b,ae σ' id=some o->bl' id=some b->w.heap.size<=b\/nY bl σ b)/\∀id,Sb id->bl' id=bl id
def ah(P:Program)[ba P](f:FuncId)(args:List AV)(r:AV):Prop:=aZ P f args [] (λ_=>False) λr' σ'=>r'=r/\σ'=[]
def uF:AV->Bool
 | .bool _=>true
 | .int ..=>true
 | .str _=>true
 | .nl=>true
 | .np=>true
 | .nf=>true
 | .sl _ []=>true
 | _=>false
def wW:AV->Bool
 | .agg cells=>cells.all uF
 | x=>uF x
def m0:AV->Bool
 | .tup vs=>vs.all wW
 | x=>wW x
def NY(b:Bool)(h:Nat->Option aj)(x x':AV):Prop :=
 x=x'\/(x = .nl/\∃st,x' = .sl st []) \/
 (b=true/\∃id st off len o,x = .ms id st off len/\h id=some o/\o.isRec=false/\o.st=st/\off+len<=o.rows.length/\x' = .sl st ((o.rows.drop off).take len))
section
variable{P:Program}[ba P]{c:qL}[CT c P]{bl:Nat->Option Nat}{g:Nat->AV}{h:Nat->Option aj}{a:Act}{w w':World}{M M':Nat->Prop}
def Dk{bl':Nat->Option Nat}{v:Value}{x:AV}(hf:uF x=true)(hv:bV bl M w v x):bV bl' M' w' v x:=by
 cases x<;>simp[uF]at hf<;>simp only[bV,dS]at hv⊢
 case sl st rows =>
  cases rows with
  | cons r l=>simp[uF]at hf
  | nil =>
   cases hv with
   | nls=>exact .nls _
   | sl0=>exact .sl0 _ _ _
   | sl b off cap st c t fr rows vs=>exact .sl0 _ _ _
 all_goals (cases hv;constructor)
def Dl{bl':Nat->Option Nat}{v:Value}{x:AV}(hf:wW x=true)(hv:eY bl M w v x):eY bl' M' w' v x:=by
 cases x with
 | agg cells =>
  obtain⟨cs,h1,h2⟩:=hv;exact⟨cs,h1,h2.mono λ_ y hy hr=>Dk (f_.1 hf y hy) hr⟩
 | _ =>
  simp only[wW]at hf;simp only[eY]at hv⊢;exact Dk hf hv
def Dm{bl':Nat->Option Nat}{v:Value}{x:AV}(hf:m0 x=true)(hv:aY bl M w v x):aY bl' M' w' v x:=by
 cases x with
 | any=>trivial
 | tup vs =>
  obtain⟨cs,h1,h2⟩:=hv;exact⟨cs,h1,h2.mono λ_ y hy hr=>Dl (f_.1 hf y hy) hr⟩
 | _ =>
  simp only[m0]at hf;simp only[aY]at hv⊢;exact Dl hf hv
def aH.grow(s:aH c bl g h a w)(hst:gR (λ_=>False) w w'):aH c bl g h a w':=by
 have ht:Tr (bz bl c.MF h) (bz bl c.MF h) w w':=⟨λb hb hl=>⟨hb,hst.keep b hl (λh=>h)⟩,hst.shape⟩
 refine⟨s.defers,s.size,λk=>(s.env k).tr ht (λ_ _=>rfl),⟨λid o hi=>?_,s.heap.2⟩,s.step.trans hst (λ_ _ h=>h.elim),s.own,s.stab,s.mf⟩;rcases s.heap.1 id o hi with h1|⟨b,h1,⟨gk,c1,fr,h2,h3,h4,h5,h6,h7⟩|hsp⟩
 .exact .inl h1
 rotate_left
 .exact .inr ⟨b,h1,.inr (hsp.tr (hst.keep b hsp.rel.lt (λh=>h)) ht.keep)⟩
 .refine .inr ⟨b,h1,.inl ⟨gk,c1,fr,by rw[hst.keep b (aQ h2) (λh=>h)];exact h2,h3,h4,h5,h6,λi j r x hr hx=>?_⟩⟩;obtain⟨v,hv1,hv2⟩:=h7 i j r x hr hx;exact⟨v,hv1,hv2.tr ht (λ_ _ _=>rfl)⟩
def gQ(MF:Nat->Prop)(b:Nat):bz bl MF (ae []) b↔MF b:=⟨λh=>by
 rcases h with h|⟨id,o,h,_⟩
 .exact h
 .simp[ae]at h,.inl⟩
def aH.tab(s:aH c bl g h a w):(ba.T P).H w:=by
 rw[<-CT.eq (c:=c) (P:=P)];exact c.T.stay c.w0 w c.tH λb hb=>s.step.keep b (c.T.low _ c.tH b hb) (c.tW b hb)
def aH.tabW(s:aH c bl g h a w)(b:Nat)(hb:(ba.T P).B b):¬bz bl c.MF h b:=by
 rw[<-CT.eq (c:=c) (P:=P)]at hb;rintro(hm|⟨id,o,h1,h2⟩)
 .exact c.tM b hb hm
 rcases s.own id o b h1 h2 with h3|h3
 .exact absurd (c.T.low _ c.tH b hb) (by omega)
 .exact c.tW b hb h3
def DF(s:aH c bl g h a w){f:FuncId}{cargs:List Value}{args args':List AV}{r:AV}(hp:ah P f args' r)(ha:aR (aY bl (bz bl c.MF h) w) cargs args)(hid:∀x∈args',aI x=[])(b:Bool)(hc:aR (NY b h) args args')(hf:b=true->m0 r=true) :
  Calls P f cargs.toArray w λe w'=>∃v,e = .returned v/\aH c bl g h a w'/\aY bl (bz bl c.MF h) w' v r:=by
 let MF':Nat->Prop:=λq=>bz bl c.MF h q/\(b=true->c.MF q)
 have hMF':∀q,MF' q->q<w.heap.size:=λq hq=>by
  rcases hq.1 with hm|⟨id,o,h1,h2⟩
  .exact DQ (s.mf q hm) s.step.size
  .rcases s.heap.1 id o h1 with hn|⟨b',g2,hO⟩
   .rw[hn.2.2]at h2;cases h2
   .rw[h2]at g2;cases g2;exact hO.lt
 have hargs:aR (aY (λ_=>none) (bz (λ_=>none) MF' (ae [])) w) cargs args':=by
  have key:∀{cs:List Value}{as as':List AV},aR (aY bl (bz bl c.MF h) w) cs as->aR (NY b h) as as'->(∀x∈as',aI x=[])->aR (aY (λ_=>none) (bz (λ_=>none) MF' (ae [])) w) cs as':=by
   intro cs
   induction cs with
   | nil =>
    intro as as' h1 h2 _;cases as with
    | cons=>exact h1.elim
    | nil=>cases as' with
     | cons=>exact h2.elim
     | nil=>trivial
   | cons v cs ih =>
    intro as as' h1 h2 h3;cases as with
    | nil=>exact h1.elim
    | cons x as =>
     cases as' with
     | nil=>exact h2.elim
     | cons x' as' =>
      refine⟨?_,ih h1.2 h2.2 (λy hy=>h3 y (by simp[hy]))⟩;have ht:Tr (bz bl c.MF h) (bz (λ_=>none) MF' (ae [])) w w:=⟨λq hq _=>⟨λhm=>hq ((gQ MF' q).1 hm).1,rfl⟩,λ_ c1 _ fr hb=>⟨c1,fr,hb,rfl⟩⟩
      have hno:∀id,mV id x'=true->(none:Option Nat)=bl id:=λid hm=>by
       have:=oe hm;rw[h3 x' (by simp)]at this;simp at this
      rcases h2.1 with he|⟨he,st,he'⟩|⟨hb,id,st,off,len,o,he,ho,hrec,hst,hfit,he'⟩
      .have h11:=h1.1;rw[he]at h11;exact h11.tr ht hno
      .rw[he'];have h11:=h1.1;rw[he]at h11;have:=h11.nl;rw[this];exact IRel.nls st
      .have h11:=h1.1;rw[he]at h11;rw[he'];have h4:dS bl (bz bl c.MF h) w v (.ms id st off len):=h11;rcases s.heap.1 id o ho with hn|⟨bb,g2,hO⟩
       .have hlen:len=0:=by rw[hn.1]at hfit;simp at hfit;omega
        subst hlen;simp only[iO];rcases h4 with⟨e1,_⟩|⟨_,_,ad,cap,e1,_⟩|⟨b',cap,c1,t,fr,e1,_⟩
        .rw[e1];exact IRel.nls st
        .rw[e1];exact IRel.sl0 st ad cap
        .rw[hn.2.2]at e1;cases e1
       .have hnb:¬bz (λ_=>none) MF' (ae []) bb:=λhm=>by
         have:=((gQ MF' bb).1 hm).2 hb;exact hO.free this
        have:=AW (M':=bz (λ_=>none) MF' (ae [])) ht hnb (.inr ⟨g2,hO⟩) hrec h4;simp only[pH,dP,hst,true_and,hfit]at this;exact this
  exact key ha hc hid
 refine(hp (λ_=>none) MF' w cargs (aH.tab (P:=P) s) (λq hq hm=>aH.tabW (P:=P) s q hq ((gQ MF' q).1 hm).1) ⟨λid o hi=>by simp[ae]at hi,λid id' o o' b hi=>by simp[ae]at hi⟩ hMF' hargs).mono λe w' hh=>?_;obtain⟨v,r',σ',bl',rfl,⟨rfl,rfl⟩,hcl,_,hv,hst,_,_⟩:=hh
 have hst':gR (λ_=>False) w w':=⟨hst.size,λq hq _=>hst.keep q hq (λhb=>by
  obtain⟨id,o,hi,_⟩:=hb;simp[ae]at hi),hst.shape,hst.os,hst.out⟩
 refine⟨v,rfl,s.grow hst',?_⟩;cases b with
 | true=>exact Dm (hf rfl) hv
 | false =>
  refine hv.tr ⟨λq hq hl=>⟨λhm=>hq ((gQ MF' q).2 ⟨hm,λh=>by cases h⟩),rfl⟩,λ_ c1 _ fr hb=>⟨c1,fr,hb,rfl⟩⟩ (λid hm=>?_);have:=hcl.1 id (oe hm);simp[ae]at this
end
def nU(ks:List Nat)(x:AV):AV:=if ks.any (λi=>mV i x)then .any else x
def uK(ks:List Nat)(x:AV):AV:=if ks.any (λi=>mC i x)then .any else x
def ig(ks:List Nat)(o:aj):aj:=if o.isRec then{o with rows:=o.rows.map (λr=>r.map (uK ks))}else o
def HT(ks:List Nat)(σ0 σ':Nat->Option aj)(h:Nat->Option aj)(id:Nat):Option aj :=
 match σ' id with
 | some o=>some o
 | none=>if(σ0 id).isSome then none else(h id).map (ig ks)
section
variable{P:Program}[ba P]{c:qL}[CT c P]{bl bl' bl2:Nat->Option Nat}{g:Nat->AV}{h:Nat->Option aj}{a:Act}{w w':World}{M M':Nat->Prop}{ks:List Nat}
def L6{v:Value}{x:AV}(hv:aY bl M w v x)(ht:Tr M M' w w')(hb:∀id,id∉ks->bl2 id=bl id):aY bl2 M' w' v (nU ks x):=by
 unfold nU;split
 .trivial
 .rename_i hn;refine hv.tr ht (λid hm=>hb id (λhk=>hn ?_));exact zX.2 ⟨id,hk,hm⟩
def L3{v:Value}{x:AV}(hv:bV bl M w v x)(ht:Tr M M' w w')(hb:∀id,id∉ks->bl2 id=bl id):bV bl2 M' w' v (uK ks x):=by
 unfold uK;split
 .exact IRel.toC (.any v (bV.one hv))
 .rename_i hn;refine hv.tr ht (λid hm=>hb id (λhk=>hn ?_));exact zX.2 ⟨id,hk,hm⟩
def Bw(s:aH c bl g h a w){f:FuncId}{cargs:List Value}{args:List AV}{σ0:List (Nat×aj)}{Sb:Nat->Prop}{Post:AV->List (Nat×aj)->Prop}
  (hp:aZ P f args σ0 Sb Post) (ha:aR (aY bl (bz bl c.MF h) w) cargs args) (hσ:∀id o,ae σ0 id=some o->h id=some o) (ks:List Nat)
  (hks:∀r σ',Post r σ'->∀id,(ae σ' id).isSome=true->(Sb id/\(ae σ0 id).isSome=true)\/(id∈ks/\(id<1000\/2000<=id)/\((ae σ0 id).isSome=true\/h id=none))) :
  Calls P f cargs.toArray w λe w'=>∃v r σ' bl2,e = .returned v/\Post r σ'/\aH c bl2 (λk=>nU ks (g k)) (HT ks (ae σ0) (ae σ') h) a w'/\aY bl2 (bz bl2 c.MF (HT ks (ae σ0) (ae σ') h)) w' v r:=by
 let MF':Nat->Prop:=λq=>c.MF q\/∃id o,h id=some o/\ae σ0 id=none/\bl id=some q
 have blk:∀{id o q},h id=some o->bl id=some q->n7 bl (bz bl c.MF h) c.MF w o q:=λ{id o q} h1 h2=>by
  rcases s.heap.1 id o h1 with hn|⟨b',g2,hO⟩
  .rw[hn.2.2]at h2;cases h2
  .rw[h2]at g2;cases g2;exact hO
 have hMF':∀q,MF' q->q<w.heap.size:=by
  rintro q (hq|⟨id,o,h1,_,h2⟩)
  .exact DQ (s.mf q hq) s.step.size
  .exact(blk h1 h2).lt
 have hmut:∀q,bz bl MF' (ae σ0) q↔bz bl c.MF h q:=λq=>by
  constructor
  .rintro((hq|⟨id,o,h1,_,h2⟩)|⟨id,o,h1,h2⟩)
   .exact .inl hq
   .exact .inr ⟨id,o,h1,h2⟩
   .exact .inr ⟨id,o,hσ id o h1,h2⟩
  .rintro(hq|⟨id,o,h1,h2⟩)
   .exact .inl (.inl hq)
   .cases h3:ae σ0 id with
    | none=>exact .inl (.inr ⟨id,o,h1,h3,h2⟩)
    | some o'=>exact .inr ⟨id,o',h3,h2⟩
 have ht0:=Tr.of_iff (w:=w) hmut;have hH:HW bl (bz bl MF' (ae σ0)) MF' w (ae σ0):=by
  refine⟨λid o hi=>?_,λid id' o o' q h1 h2=>s.heap.2 id id' o o' q (hσ _ _ h1) (hσ _ _ h2)⟩;rcases s.heap.1 id o (hσ id o hi)with hn|⟨b',g2,⟨gk,c2,fr2,g3,g4,g5,g6,g7,g8⟩|hsp⟩
  .exact .inl hn
  rotate_left
  .refine .inr ⟨b',g2,.inr ⟨hsp.rows,hsp.isRec,?_,hsp.rel.tr rfl ht0.keep⟩⟩;rintro(hq|⟨id2,o2,h1,h3,h2⟩)
   .exact hsp.free hq
   .have:=s.heap.2 id2 id o2 o b' h1 (hσ id o hi) h2 g2;subst this;rw[hi]at h3;cases h3
  .refine .inr ⟨b',g2,.inl ⟨gk,c2,fr2,g3,g4,?_,g6,g7,λi j r x hr hx=>?_⟩⟩
   .rintro(hq|⟨id2,o2,h1,h3,h2⟩)
    .exact g5 hq
    .have:=s.heap.2 id2 id o2 o b' h1 (hσ id o hi) h2 g2;subst this;rw[hi]at h3;cases h3
   .obtain⟨v,hv1,hv2⟩:=g8 i j r x hr hx;exact⟨v,hv1,hv2.tr ht0 (λ_ _ _=>rfl)⟩
 refine(hp bl MF' w cargs (aH.tab (P:=P) s) (λq hq hm=>aH.tabW (P:=P) s q hq ((hmut q).1 hm)) hH hMF' (ha.mono λ_ _ _ hr=>hr.tr ht0 (λ_ _=>rfl))).mono λe w' hh=>?_;obtain⟨v,r,σ',bl1,rfl,hPost,hcl,hH',hv,hst,hown,hsb⟩:=hh;have hks':=hks r σ' hPost
 let B:Nat->Option Nat:=λid=>if(ae σ' id).isSome then bl1 id else bl id
 have B_in:∀id,(ae σ' id).isSome=true->B id=bl1 id:=λid hi=>by simp[B,hi]
 have B_out:∀id,ae σ' id=none->B id=bl id:=λid hi=>by simp[B,hi]
 have B_ks:∀id,id∉ks->B id=bl id:=λid hk=>by
  cases hi:ae σ' id with
  | none=>exact B_out id hi
  | some o =>
   rw[B_in id (by simp[hi])];rcases hks' id (by simp[hi])with⟨h1,_⟩|⟨h1,_⟩
   .exact hsb id h1
   .exact absurd h1 hk
 have mrg_out:∀{id o},HT ks (ae σ0) (ae σ') h id=some o->ae σ' id=none->∃o0,h id=some o0/\o=ig ks o0/\ae σ0 id=none:=λ{id o} hm hn=>by
  simp only[HT,hn]at hm;split at hm
  .cases hm
  .rename_i h0;simp only[dc]at hm;obtain⟨o0,h1,rfl⟩:=hm;exact⟨o0,h1,rfl,by simpa using h0⟩
 have σblk:∀{id o q},ae σ' id=some o->bl1 id=some q->n7 bl1 (bz bl1 MF' (ae σ')) MF' w' o q:=λ{id o q} h1 h2=>by
  rcases hH'.1 id o h1 with hn|⟨b',g2,hO⟩
  .rw[hn.2.2]at h2;cases h2
  .rw[h2]at g2;cases g2;exact hO
 have hmut2:∀q,bz B c.MF (HT ks (ae σ0) (ae σ') h) q->bz bl1 MF' (ae σ') q:=by
  rintro q (hq|⟨id,o,h1,h2⟩)
  .exact .inl (.inl hq)
  .cases hi:ae σ' id with
   | some o'=>rw[B_in id (by simp[hi])]at h2;exact .inr ⟨id,o',hi,h2⟩
   | none =>
    obtain⟨o0,h3,_,h4⟩:=mrg_out h1 hi;rw[B_out id hi]at h2;exact .inl (.inr ⟨id,o0,h3,h4,h2⟩)
 have hmut3:∀q,q<w.heap.size->bz bl1 MF' (ae σ') q->bz bl c.MF h q:=by
  rintro q hq ((hm|⟨id,o,h1,_,h2⟩)|⟨id,o,h1,h2⟩)
  .exact .inl hm
  .exact .inr ⟨id,o,h1,h2⟩
  .rcases hown id o q h1 h2 with h3|⟨id2,o2,h3,h4⟩
   .omega
   .exact .inr ⟨id2,o2,hσ _ _ h3,h4⟩
 have ht:Tr (bz bl c.MF h) (bz B c.MF (HT ks (ae σ0) (ae σ') h)) w w':=⟨λq hq hl=>⟨λhm=>hq (hmut3 q hl (hmut2 q hm)),hst.keep q hl (λhb=>hq (by
  obtain⟨id,o,h1,h2⟩:=hb;exact .inr ⟨id,o,hσ _ _ h1,h2⟩))⟩,hst.shape⟩
 have ht1:Tr (bz bl1 MF' (ae σ')) (bz B c.MF (HT ks (ae σ0) (ae σ') h)) w' w':=⟨λq hq _=>⟨λhm=>hq (hmut2 q hm),rfl⟩,λ_ c1 _ fr hb=>⟨c1,fr,hb,rfl⟩⟩
 have hcl1:∀id,mV id r=true->B id=bl1 id:=λid hm=>B_in id (hcl.1 id (oe hm));have hmem:∀{σ:List (Nat×aj)}{id:Nat}{o:aj},ae σ id=some o->(id,o)∈σ:=by
  intro σ
  induction σ with
  | nil=>intro id o hi;simp[ae]at hi
  | cons p l ih =>
   intro id o hi;obtain⟨k,x⟩:=p;simp only[ae]at hi;split at hi
   .rename_i hk;cases hi;subst hk;simp
   .exact List.mem_cons_of_mem _ (ih hi)
 refine⟨v,r,σ',B,rfl,hPost,⟨s.defers,s.size,λk=>L6 (s.env k) ht B_ks,⟨λid o hi=>?_,λid id' o o' q h1 h2 h3 h4=>?_⟩,?_,λid o q h1 h2=>?_,λid h1 h2=>?_,s.mf⟩,hv.tr ht1 hcl1⟩
 .cases hi':ae σ' id with
  | some o' =>
   have ho:o=o':=by simp only[HT,hi',cI]at hi;exact hi.symm
   subst ho;rcases hH'.1 id o hi' with hn|⟨b',g2,⟨gk,c2,fr2,g3,g4,g5,g6,g7,g8⟩|hsp⟩
   .exact .inl ⟨hn.1,hn.2.1,by rw[B_in id (by simp[hi'])];exact hn.2.2⟩
   rotate_left
   .exact .inr ⟨b',by rw[B_in id (by simp[hi'])];exact g2,.inr ⟨hsp.rows,hsp.isRec,λhm=>hsp.free (.inl hm),hsp.rel.tr rfl ht1.keep⟩⟩
   .refine .inr ⟨b',by rw[B_in id (by simp[hi'])];exact g2,.inl ⟨gk,c2,fr2,g3,g4,λhm=>g5 (.inl hm),g6,g7,λi j q x hr hx=>?_⟩⟩;obtain⟨u,hu1,hu2⟩:=g8 i j q x hr hx;refine⟨u,hu1,hu2.tr ht1 (λhrec id2 hm=>B_in id2 (hcl.2 (id,o) (hmem hi') id2 ?_))⟩;simp only[dZ,hrec,dP,oJ];exact⟨q,nF hr,x,nF hx,vm hm⟩
  | none =>
   obtain⟨o0,h1,rfl,h3⟩:=mrg_out hi hi';rcases s.heap.1 id o0 h1 with hn|⟨b',g2,⟨gk,c2,fr2,g3,g4,g5,g6,g7,g8⟩|hsp⟩
   .refine .inl ⟨?_,?_,by rw[B_out id hi'];exact hn.2.2⟩
    .simp[ig,hn.2.1,hn.1]
    .simp[ig,hn.2.1]
   rotate_left
   .have hkeep:w'.heap[b']? = w.heap[b']?:=hst.keep b' hsp.rel.lt (λhb=>by
     obtain⟨id2,o2,h4,h5⟩:=hb;have:=s.heap.2 id id2 o0 o2 b' h1 (hσ _ _ h4) g2 h5;subst this;rw[h3]at h4;cases h4)
    refine .inr ⟨b',by rw[B_out id hi'];exact g2,.inr ?_⟩;have:ig ks o0=o0:=by simp[ig,hsp.isRec]
    rw[this];exact hsp.tr hkeep ht.keep
   .have hkeep:w'.heap[b']? = w.heap[b']?:=hst.keep b' (aQ g3) (λhb=>by
     obtain⟨id2,o2,h4,h5⟩:=hb;have:=s.heap.2 id id2 o0 o2 b' h1 (hσ _ _ h4) g2 h5;subst this;rw[h3]at h4;cases h4)
    refine .inr ⟨b',by rw[B_out id hi'];exact g2,.inl ⟨by unfold ig;split<;>exact gk,c2,fr2,?_,g4,g5,?_,?_,?_⟩⟩
    .rw[hkeep,g3];unfold ig;split<;>rfl
    .intro i q hq;unfold ig at hq⊢;split at hq
     .simp only[fR,dc]at hq;obtain⟨q0,hq0,rfl⟩:=hq;rename_i hrec;simpa[hrec]using g6 i q0 hq0
     .rename_i hrec;simpa[hrec]using g6 i q hq
    .unfold ig;split<;>simpa using g7
    .intro i j q x hq hx;unfold ig at hq⊢;split at hq
     .rename_i hrec;simp only[fR,dc]at hq;obtain⟨q0,hq0,rfl⟩:=hq;simp only[fR,dc]at hx;obtain⟨x0,hx0,rfl⟩:=hx;obtain⟨u,hu1,hu2⟩:=g8 i j q0 x0 hq0 hx0;simp only[hrec,dP];rw[hrec]at hu2;exact⟨u,hu1,L3 hu2 ht B_ks⟩
     .rename_i hrec;obtain⟨u,hu1,hu2⟩:=g8 i j q x hq hx;have hrec':o0.isRec=false:=by simpa using hrec
      simp only[hrec',jr,fS];rw[hrec']at hu2;exact⟨u,hu1,IRel.tr hu2 ht.keep⟩
 .cases hi:ae σ' id with
  | some o1 =>
   rw[B_in id (by simp[hi])]at h3;cases hi2:ae σ' id' with
   | some o2 =>
    rw[B_in id' (by simp[hi2])]at h4;exact hH'.2 id id' o1 o2 q hi hi2 h3 h4
   | none =>
    rw[B_out id' hi2]at h4;obtain⟨o2,h5,_,h6⟩:=mrg_out h2 hi2;exact((σblk hi h3).free (.inr ⟨id',o2,h5,h6,h4⟩)).elim
  | none =>
   rw[B_out id hi]at h3;obtain⟨o1,h5,_,h6⟩:=mrg_out h1 hi;cases hi2:ae σ' id' with
   | some o2 =>
    rw[B_in id' (by simp[hi2])]at h4;exact((σblk hi2 h4).free (.inr ⟨id,o1,h5,h6,h3⟩)).elim
   | none =>
    rw[B_out id' hi2]at h4;obtain⟨o2,h7,_,h8⟩:=mrg_out h2 hi2;exact s.heap.2 id id' o1 o2 q h5 h7 h3 h4
 .refine s.step.trans hst (λq hq hb=>?_);obtain⟨id,o,h1,h2⟩:=hb;rcases s.own id o q (hσ _ _ h1) h2 with h3|h3
  .omega
  .exact h3
 .cases hi:ae σ' id with
  | some o1 =>
   rw[B_in id (by simp[hi])]at h2;rcases hown id o1 q hi h2 with h3|⟨id2,o2,h3,h4⟩
   .exact .inl (cZ s.step.size h3)
   .exact s.own id2 o2 q (hσ _ _ h3) h4
  | none =>
   rw[B_out id hi]at h2;obtain⟨o1,h5,_,h6⟩:=mrg_out h1 hi;exact s.own id o1 q h5 h2
 .cases hi:ae σ' id with
  | none=>rw[B_out id hi];exact s.stab id h1 h2
  | some o1 =>
   rw[B_in id (by simp[hi])];rcases hks' id (by simp[hi])with⟨h3,_⟩|⟨_,h3,_⟩
   .rw[hsb id h3];exact s.stab id h1 h2
   .omega
end
section
variable{c:qL}{bl:Nat->Option Nat}{g:Nat->AV}{h:Nat->Option aj}{a:Act}{w:World}
def XX(i:Nat)(o o1:aj):(jo i o o1).t=o1.t:=by unfold jo;split<;>rfl
def Eh(i:Nat)(o o1:aj):(jo i o o1).st=o1.st:=by unfold jo;split<;>rfl
def Gg(i:Nat)(o o1:aj):(jo i o o1).isRec=o1.isRec:=by unfold jo;split<;>rfl
def aH.freeze(s:aH c bl g h a w){i:Nat}{o:aj}(hi:h i=some o)(hrec:o.isRec=false) :
  aH c bl (λk=>s_ i o (g k)) (λj=>if j=i then none else(h j).map (jo i o)) a w /\
   ∀v x,aY bl (bz bl c.MF h) w v x->aY bl (bz bl c.MF (λj=>if j=i then none else(h j).map (jo i o))) w v (s_ i o x):=by
 have hsub:∀{j q},(if j=i then none else(h j).map (jo i o))=some q->j≠i/\∃q0,h j=some q0/\q=jo i o q0:=λ{j q} hj=>by
  split at hj
  .cases hj
  .rename_i hne;simp only[dc]at hj;obtain⟨q0,h1,h2⟩:=hj;exact⟨hne,q0,h1,h2.symm⟩
 have hmut:∀q,bz bl c.MF (λj=>if j=i then none else(h j).map (jo i o)) q->bz bl c.MF h q:=by
  rintro q (hm|⟨j,oj,h1,h2⟩)
  .exact .inl hm
  .obtain⟨_,q0,h3,_⟩:=hsub h1;exact .inr ⟨j,q0,h3,h2⟩
 have ht:Tr (bz bl c.MF h) (bz bl c.MF (λj=>if j=i then none else(h j).map (jo i o))) w w:=⟨λb hb _=>⟨λhm=>hb (hmut b hm),rfl⟩,λ_ c1 _ fr hb=>⟨c1,fr,hb,rfl⟩⟩
 have hP:∀{v x},dS bl (bz bl c.MF h) w v x->dS bl (bz bl c.MF (λj=>if j=i then none else(h j).map (jo i o))) w v (pH i o x):=λ{v x} hv=>by
  rcases s.heap.1 i o hi with hn|⟨b,hb,hO⟩
  .exact AW (b:=w.heap.size) (MF:=c.MF) ht (λhm=>by
    rcases hm with hm|⟨j,oj,h1,h2⟩
    .exact absurd (s.mf _ hm) (Nat.not_lt.2 s.step.size)
    .obtain⟨_,q0,h3,_⟩:=hsub h1;rcases s.heap.1 j q0 h3 with hn2|⟨b',h4,hO⟩
     .rw[hn2.2.2]at h2;cases h2
     .rw[h2]at h4;cases h4;exact absurd hO.lt (Nat.lt_irrefl _)) (.inl ⟨hn.1,hn.2.2⟩) hrec hv
  .refine AW ht (λhm=>?_) (.inr ⟨hb,hO⟩) hrec hv;rcases hm with hm|⟨j,oj,h1,h2⟩
   .exact hO.free hm
   .obtain⟨hne,q0,h3,_⟩:=hsub h1;exact hne (s.heap.2 j i q0 o b h3 hi h2 hb)
 have hC:∀{v x},bV bl (bz bl c.MF h) w v x->bV bl (bz bl c.MF (λj=>if j=i then none else(h j).map (jo i o))) w v (vg i o x):=λ{v x} hv=>by
  cases x with
  | fn f caps =>
   obtain⟨cs,h1,h2⟩:=hv;exact⟨cs,h1,h2.mapRight λ_ _ hr=>hP hr⟩
  | agg cells=>simp only[bV,dS]at hv;cases hv
  | tup vs=>simp only[bV,dS]at hv;cases hv
  | ms id st off len =>
   have:=hP (x:=.ms id st off len) hv;simp only[vg];generalize hy:pH i o (.ms id st off len)=y at this;simp only[pH]at hy;split at hy
   .split at hy<;>(subst hy;exact this)
   .subst hy;exact this
  | mp id st row off =>
   have:=hP (x:=.mp id st row off) hv;simp only[vg];generalize hy:pH i o (.mp id st row off)=y at this;simp only[pH]at hy;split at hy
   .split at hy
    .split at hy<;>(subst hy;exact this)
    .subst hy;exact this
   .subst hy;exact this
  | mm id k =>
   have:=hP (x:=.mm id k) hv;simp only[vg];generalize hy:pH i o (.mm id k)=y at this;simp only[pH]at hy;split at hy
   .split at hy<;>(subst hy;exact this)
   .subst hy;exact this
  | _ =>
   simp only[bV,dS]at hv;exact IRel.toC (IRel.tr hv ht.keep)
 have hG:∀{v x},eY bl (bz bl c.MF h) w v x->eY bl (bz bl c.MF (λj=>if j=i then none else(h j).map (jo i o))) w v (AU i o x):=λ{v x} hv=>by
  cases x with
  | agg cells =>
   obtain⟨cs,h1,h2⟩:=hv;exact⟨cs,h1,h2.mapRight λ_ _ hr=>hC hr⟩
  | _ =>
   simp only[eY]at hv;simp only[AU];exact(hC hv).toG
 have hV:∀{v x},aY bl (bz bl c.MF h) w v x->aY bl (bz bl c.MF (λj=>if j=i then none else(h j).map (jo i o))) w v (s_ i o x):=λ{v x} hv=>by
  cases x with
  | any=>trivial
  | tup vs =>
   obtain⟨cs,h1,h2⟩:=hv;exact⟨cs,h1,h2.mapRight λ_ _ hr=>hG hr⟩
  | _ =>
   simp only[aY]at hv;simp only[s_];exact(hG hv).toV
 refine⟨⟨s.defers,s.size,λk=>hV (s.env k),⟨λj oj hj=>?_,λj j' oj oj' q h1 h2=>?_⟩,s.step,λj oj q h1 h2=>?_,s.stab,s.mf⟩,λv x hv=>hV hv⟩
 .obtain⟨hne,q0,h1,rfl⟩:=hsub hj;rcases s.heap.1 j q0 h1 with hn|⟨b,hb,⟨gk,c1,fr,h2,h3,h4,h5,h6,h7⟩|hsp⟩
  .exact .inl ⟨by simp[jo,hn.2.1,hn.1],by rw[Gg];exact hn.2.1,hn.2.2⟩
  rotate_left
  .have:jo i o q0=q0:=by simp[jo,hsp.isRec]
   rw[this];exact .inr ⟨b,hb,.inr (hsp.tr rfl ht.keep)⟩
  .refine .inr ⟨b,hb,.inl ⟨by unfold jo;split<;>exact gk,c1,fr,by rw[XX];exact h2,h3,h4,λk r hr=>?_,?_,λk q r x hr hx=>?_⟩⟩
   .rw[Eh];unfold jo at hr;split at hr
    .simp only[fR,dc]at hr;obtain⟨r0,h8,rfl⟩:=hr;simpa using h5 k r0 h8
    .exact h5 k r hr
   .rw[Eh];unfold jo;split<;>simpa using h6
   .rw[Eh,Gg];unfold jo at hr;split at hr
    .rename_i hrc;simp only[fR,dc]at hr;obtain⟨r0,h8,rfl⟩:=hr;simp only[fR,dc]at hx;obtain⟨x0,h9,rfl⟩:=hx;obtain⟨u,hu1,hu2⟩:=h7 k q r0 x0 h8 h9;rw[hrc]at hu2⊢;exact⟨u,hu1,hC hu2⟩
    .rename_i hrc;obtain⟨u,hu1,hu2⟩:=h7 k q r x hr hx;have hrc':q0.isRec=false:=by simpa using hrc
     rw[hrc']at hu2⊢;exact⟨u,hu1,IRel.tr hu2 ht.keep⟩
 .obtain⟨_,q1,h3,_⟩:=hsub h1;obtain⟨_,q2,h4,_⟩:=hsub h2;exact s.heap.2 j j' q1 q2 q h3 h4
 .obtain⟨_,q1,h3,_⟩:=hsub h1;exact s.own j q1 q h3 h2
end
def Oh(i:Nat)(o:aj):List (Nat×AV)->List (Nat×AV)
 | []=>[]
 | (k,x)::r=>(k,s_ i o x)::Oh i o r
def Lo(i:Nat)(o:aj):List (Nat×aj)->List (Nat×aj)
 | []=>[]
 | (k,x)::r=>(k,jo i o x)::Lo i o r
def St.frz(s:St)(i:Nat):St :=
 match ae s.heap i with
 | some o=>if o.isRec then s else⟨Oh i o s.env,Lo i o (ny s.heap i)⟩
 | none=>s
def frzs:List Nat->St->St
 | [],s=>s
 | i::r,s=>frzs r (s.frz i)
def A0(i:Nat)(o:aj):∀(l:List (Nat×AV))(k:Nat),get (Oh i o l) k=s_ i o (get l k)
 | [],k=>rfl
 | (j,x)::r,k=>by simp only[Oh,get,A0 i o r k];split<;>rfl
def yn(i:Nat)(o:aj):∀(l:List (Nat×aj))(k:Nat),ae (Lo i o l) k=(ae l k).map (jo i o)
 | [],k=>rfl
 | (j,x)::r,k=>by simp only[Lo,ae,yn i o r k];split<;>rfl
def cG.frz{c:qL}{s:St}{a:Act}{w:World}(hs:cG c s a w)(i:Nat):cG c (s.frz i) a w:=by
 obtain⟨bl,hs⟩:=hs;unfold St.frz;split
 .rename_i o ho;split
  .exact⟨bl,hs⟩
  .rename_i hr;exact⟨bl,(hs.freeze ho (by simpa using hr)).1.congr (λk=>A0 i o _ k) (λj=>by simp only[yn,dO];split<;>simp)⟩
 .exact⟨bl,hs⟩
def cG.frzs{c:qL}{a:Act}{w:World}:∀(l:List Nat){s:St},cG c s a w->cG c (Mw.frzs l s) a w
 | [],_,h=>h
 | i::r,_,h=>cG.frzs r (h.frz i)
def frz1(s:St)(i:Nat)(x:AV):AV :=
 match ae s.heap i with
 | some o=>if o.isRec then x else s_ i o x
 | none=>x
def rN:List Nat->St->AV->AV
 | [],_,x=>x
 | i::r,s,x=>rN r (s.frz i) (frz1 s i x)
def aH.frz1{c:qL}{bl:Nat->Option Nat}{s:St}{a:Act}{w:World}(hs:aH c bl (get s.env) (ae s.heap) a w)(i:Nat) :
  aH c bl (get (s.frz i).env) (ae (s.frz i).heap) a w/\∀v x,aY bl (bz bl c.MF (ae s.heap)) w v x->aY bl (bz bl c.MF (ae (s.frz i).heap)) w v (Mw.frz1 s i x):=by
 unfold St.frz Mw.frz1;cases ho:ae s.heap i with
 | none=>exact⟨hs,λ_ _ h=>h⟩
 | some o =>
  simp only;by_cases hr:o.isRec=true
  .simp only[hr,dP];exact⟨hs,λ_ _ h=>h⟩
  .obtain⟨h1,h2⟩:=hs.freeze ho (by simpa using hr);have hh:ae (Lo i o (ny s.heap i))=λj=>if j=i then none else(ae s.heap j).map (jo i o):=by
    funext j;simp only[yn,dO];split<;>simp
   simp only[hr,fS,jr];exact⟨h1.congr (λk=>A0 i o _ k) (λj=>by rw[hh]),λv x hv=>by rw[hh];exact h2 v x hv⟩
def aH.frzs{c:qL}{bl:Nat->Option Nat}{a:Act}{w:World}:∀(fs:List Nat)(s:St),aH c bl (get s.env) (ae s.heap) a w ->
  aH c bl (get (Mw.frzs fs s).env) (ae (Mw.frzs fs s).heap) a w/\∀v x,aY bl (bz bl c.MF (ae s.heap)) w v x->aY bl (bz bl c.MF (ae (Mw.frzs fs s).heap)) w v (rN fs s x)
 | [],s,hs=>⟨hs,λ_ _ h=>h⟩
 | i::r,s,hs=>by
  obtain⟨h1,h2⟩:=hs.frz1 i;obtain⟨h3,h4⟩:=aH.frzs r (s.frz i) h1;exact⟨h3,λv x hv=>h4 v _ (h2 v x hv)⟩
structure aB where
 o:bj
 bef:List Nat
 deriving Inhabited
inductive bF where
 | skip
 | ret
 | exit (id:Nat)
 | seq (x y:bF)
 | cut (x y:bF)
 | cond (c:IV) (t e:bF)
 | block (id:Nat) (x:bF)
 | loop (x:bF)
 | reg (ops:List bj) (dr:List Nat)
 | draw (ops:List aB) (al:List (Nat×Nat)) (dr:List Nat)
 | free (ops:List aB) (al:List (Nat×Nat)) (dr:List Nat)
 | wild (ops:List aB) (al:List (Nat×Nat)) (dr:List Nat)
 | clon (cs:List Nat) (ops:List aB) (al:List (Nat×Nat)) (dr:List Nat)
 deriving Inhabited
inductive IX where
 | nrm
 | ret
 | ext (id:Nat)
def yp(P:Program)[ba P](f:FuncId)(args:List AV)(d:Option Nat)(s:St)(K:St->Prop):Prop :=
 (∃args' r b,ah P f args' r/\(∀x∈args',aI x=[])/\aR (NY b (ae s.heap)) args args'/\(b=true->m0 r=true)/\K (s.put d r)) \/
 ∃σ0 Sb Post ks,aZ P f args σ0 Sb Post/\(∀id o,ae σ0 id=some o->ae s.heap id=some o) /\
  (∀r σ',Post r σ'->∀id,(ae σ' id).isSome=true->(Sb id/\(ae σ0 id).isSome=true)\/(id∈ks/\(id<1000\/2000<=id)/\((ae σ0 id).isSome=true\/ae s.heap id=none))) /\
  ∀r σ',Post r σ'->∃s':St,(∀k,get s'.env k=nU ks (get s.env k))/\(∀j,ae s'.heap j=HT ks (ae σ0) (ae σ') (ae s.heap) j)/\K (s'.put d r)
def eZ(s:St)(l:List AV)(s':St)(l':List AV):Prop:=∀(c:qL)(a:Act)(w:World)(bl:Nat->Option Nat)(vs:List Value),aH c bl (get s.env) (ae s.heap) a w->aR (aY bl (bz bl c.MF (ae s.heap)) w) vs l ->
 ∃bl',aH c bl' (get s'.env) (ae s'.heap) a w/\aR (aY bl' (bz bl' c.MF (ae s'.heap)) w) vs l'
def cB(P:Program)[ba P](f:FuncId)(args:List AV)(d:Option Nat)(s:St)(K:St->Prop):Prop :=
 yp P f args d s K\/(∃fs,yp P f (args.map (rN fs s)) d (frzs fs s) K)\/∃s' args',eZ s args s' args'/\yp P f args' d s' K
def Wk(s s':St):Prop:=∀(c:qL)(a:Act)(w:World),cG c s a w->cG c s' a w
def Hg(o:bj)(s:St)(K:St->Prop):Prop :=
 match bQ (o.dst.getD 0) o.op (val (get (s.kill (o.dst.getD 0)).env)) (ae (s.kill (o.dst.getD 0)).heap)with
 | some (v,e)=>K (((s.kill (o.dst.getD 0)).eff e).put o.dst v)
 | none=>False
def LX:AV->Bool
 | .ms _ _ (_+1) _=>true
 | _=>false
def qI(b:Bool)(A B:Prop):Prop:=match b with|true=>A|false=>B
def NM(o:bj)(s:St)(K:St->Prop):Prop:=∃s',Wk s s'/\Hg o s' K
def H6(t:TypeId)(st:Nat)(x:AV)(src:Option (List (List AV)))(s:St)(d:Option Nat)(K:St->Prop):Prop :=
 ∃id off len ob ys,x = .ms id st off len/\src=some ys/\ae s.heap id=some ob/\ob.st=st/\ob.t=t/\ob.isRec=false/\off+len<=ob.rows.length/\len<137438953472/\ys.length<137438953472/\(id<1000\/2000<=id)/\ob.k.flat=true /\
  K ((s.eff (.reb id ⟨t,st,ob.rows.take (off+len)++ys,false⟩)).put d (.ms id st off (len+ys.length)))/\K ((s.eff (.reb id ⟨t,st,(ob.rows.drop off).take len++ys,false⟩)).put d (.ms id st 0 (len+ys.length)))
def SV(x:AV)(d:Option Nat)(s:St)(K:St->Prop):Prop:=∃id o l la,x = .mm id false/\ae s.heap id=some o/\o.k = .mi l la/\(l=[]->K (s.put d (.tup [.bool false]))) /\
 ∀(i:Nat)(e:AV×AV),l[i]?=some e->K ((s.eff (.put id {o with k:=.mi (l.eraseIdx i) (some e)})).put d (.tup [.bool true,e.1,e.2]))
def lV(P:Program)[ba P](o:bj)(s:St)(K:St->Prop):Prop :=
 match o.op with
 | .call f args=>cB P f (args.map (val (get s.env))) o.dst s K
 | .callv f args=>match val (get s.env) f with
  | .fn f caps=>if f<4000000 then bM P f=true/\cB P f (args.map (val (get s.env))++caps) o.dst s K else bM P (f-4000000)=true/\cB P (f-4000000) (caps.take 1++args.map (val (get s.env))++caps.drop 1) o.dst s K
  | _=>False
 | .bsl t st rows ps=>(o.dst.getD 0<1000/\match NL (o.dst.getD 0) t st (oQ (val (get (s.kill (o.dst.getD 0)).env)) st rows ps)with
   | some (v,e)=>K (((s.kill (o.dst.getD 0)).eff e).put o.dst v)
   | none=>NM o s K)
 | .app t st x y=>o.dst.getD 0<1000/\qI (yH (ae s.heap) (val (get s.env) x)) (match uB (o.dst.getD 0) t st (val (get (s.kill (o.dst.getD 0)).env) x) (qJ st (ae (s.kill (o.dst.getD 0)).heap) (val (get (s.kill (o.dst.getD 0)).env) y)) (ae (s.kill (o.dst.getD 0)).heap)with
   | some (v,e)=>K (((s.kill (o.dst.getD 0)).eff e).put o.dst v)
   | none=>False) (qI (yH (ae s.heap) (val (get s.env) y)) (match uB (o.dst.getD 0) t st (val (get (s.kill (o.dst.getD 0)).env) x) (qJ st (ae (s.kill (o.dst.getD 0)).heap) (val (get (s.kill (o.dst.getD 0)).env) y)) (ae (s.kill (o.dst.getD 0)).heap)with
   | some (v,e)=>K (((s.kill (o.dst.getD 0)).eff e).put o.dst v)
   | none=>False) (qI (LX (val (get s.env) x)) (H6 t st (val (get (s.kill (o.dst.getD 0)).env) x) (fk st (ae (s.kill (o.dst.getD 0)).heap) (val (get (s.kill (o.dst.getD 0)).env) y)) (s.kill (o.dst.getD 0)) o.dst K) (match bQ (o.dst.getD 0) (.app t st x y) (val (get (s.kill (o.dst.getD 0)).env)) (ae (s.kill (o.dst.getD 0)).heap)with
   | some (v,e)=>K (((s.kill (o.dst.getD 0)).eff e).put o.dst v)
   | none=>False)))
 | .snl b x=>match val (get s.env) x with
  | .sl _ []=>K (s.put o.dst (.bool b))/\K (s.put o.dst (.bool (!b)))
  | x=>match KS b x with
   | some v=>K (s.put o.dst v)
   | none=>False
 | .mop .nmi [x]=>SV (val (get s.env) x) o.dst s K
 | op=>if rG op then
   (o.dst.getD 0<1000/\match bQ (o.dst.getD 0) op (val (get (s.kill (o.dst.getD 0)).env)) (ae (s.kill (o.dst.getD 0)).heap)with
   | some (v,e)=>K (((s.kill (o.dst.getD 0)).eff e).put o.dst v)
   | none=>False)
  else match bQ (o.dst.getD 0) op (val (get s.env)) (ae s.heap)with
   | some (v,e)=>K ((s.eff e).put o.dst v)
   | none=>False
def i3(P:Program)[ba P]:List bj->St->(St->Prop)->Prop
 | [],s,K=>K s
 | o::r,s,K=>match o.g with
  | none=>lV P o s (λs'=>i3 P r s' K)
  | some (k,b)=>match get s.env k with
   | .bool t=>(t=b->lV P o (s.put (some k) (.bool b)) (λs'=>i3 P r s' K))/\(t = !b->i3 P r ((s.put (some k) (.bool (!b))).put o.dst (.tup [])) K)
   | .tup []=>i3 P r (s.put o.dst (.tup [])) K
   | _=>False
class inductive Ld where
 | no
 | ld
instance:Ld:=.no
structure HI where
 i:Nat
 op:List Nat
 res:List Nat
 tch:List Nat
 rb:Bool
 wr:Bool
 [ld:Ld]
abbrev yr:lR->Ld
 | .load _ _=>.ld
 | .fadr _ _=>.ld
 | .len _=>.ld
 | _=>.no
def HI.isLd(y:HI):Bool:=match y.ld with
 | .ld=>true
 | .no=>false
def aW.isPut:aW->Bool
 | .put ..=>true
 | _=>false
def aW.tch:aW->List Nat
 | .no=>[]
 | .put i _=>[i]
 | .new i _=>[i]
 | .reb i _=>[i]
def aW.isReb:aW->Bool
 | .reb ..=>true
 | _=>false
def aW.ids:aW->List Nat
 | .no=>[]
 | .put _ o=>dZ o
 | .new _ o=>dZ o
 | .reb _ o=>dZ o
def aT:IV->List Nat
 | .s k=>[k]
 | .c _=>[]
def kI:Option IV->List Nat
 | some x=>aT x
 | none=>[]
def aq(o:lR):List Nat :=
 match o with
 | .mov x | .box _ _ x | .load _ x | .fadr _ x | .fld _ _ x | .len x | .slen x | .un _ x | .cvi _ x | .cvs x | .cvt x | .cvb _ x | .cvm x | .ext x _ | .nchk x | .snl _ x=>aT x
 | .pick c a b=>aT c++aT a++aT b
 | .new _ _=>[]
 | .build _ ps=>ps.flatMap λp=>aT p.2.2
 | .bsl _ _ _ ps=>ps.flatMap λp=>aT p.2
 | .store _ x y | .iadr _ x y | .aadr _ _ x y | .mnx _ x y | .cpy _ x y | .sib x y | .app _ _ x y | .apps _ x y | .bin _ x y | .bbin _ x y | .pbin _ x y | .sbin _ _ x y | .sidx x y | .mks _ _ _ x y=>aT x++aT y
 | .slc _ x lo hi mx=>aT x++kI lo++kI hi++kI mx
 | .sslc x lo hi=>aT x++kI lo++kI hi
 | .call _ args=>args.flatMap aT
 | .callv f args=>aT f++args.flatMap aT
 | .mkf _ caps=>caps.flatMap aT
 | .mop _ xs=>xs.flatMap aT
def du(o:bj):List Nat:=aq o.op++(match o.g with|some (k,_)=>[k]|none=>[])
def Ez(x y:HI):Bool :=
 y.tch.all (λd=>!x.op.contains d && !x.tch.contains d)&&x.tch.all (λd=>!y.op.contains d)&&(!x.rb||x.tch.all λd=>!y.res.contains d)&&(!y.rb||y.tch.all λd=>!x.res.contains d) && !(x.rb&&y.wr) && !(y.rb&&x.wr) && !(x.rb&&x.wr) && !(y.rb&&y.wr)
def fY(bef:List Nat)(x:HI)(hist:List HI):Bool:=hist.all λy=>bef.contains y.i||Ez x y
def qF(al:List (Nat×Nat))(bef:List Nat)(x:HI):Bool:=al.all λp=>!x.res.contains p.1||p.2==x.i||bef.contains p.2
def uH:AV->Bool
 | .any=>true
 | _=>false
def dF(o:lR)(s:St)(e:aW):Bool:=(aq o).all (λk=>!uH (get s.env k))&&(!e.isReb||e.tch.all λd=>s.heap.all λp=>!(dZ p.2).contains d)
def bU(o:lR)(e:List (Nat×AV)):List Nat :=
 match o with
 | .mov _=>[]
 | o=>(aq o).flatMap λk=>aI (get e k)
def Jg(tch:List Nat)(y:HI):Bool:=(y.op.isEmpty||y.isLd)&&y.tch.isEmpty && !y.rb&&(tch.all λd=>!y.res.contains d)&&tch.all λd=>!y.op.contains d
def HN(al:List (Nat×Nat))(i:Nat)(o:aB)(hist:List HI)(s:St)(K:St->Prop):Prop :=
 match o.o.op with
 | .app t st x y=>o.o.g=none/\match bQ (o.o.dst.getD 0) (.app t st x y) (val (get s.env)) (ae s.heap)with
  | some (v,e)=>((aq (.app t st x y)).all λk=>!uH (get s.env k))=true/\e.isReb=true/\(hist.all λz=>o.bef.contains z.i||Jg e.tch z)=true /\
    qF al o.bef ⟨i,bU (.app t st x y) s.env,aI v++e.ids,e.tch,true,true⟩=true/\K ((s.eff e).put o.o.dst v)
  | none=>False
 | _=>False
class Cl where
 c:List Nat
instance:Cl:=⟨[]⟩
def ad0[q:Cl]:Option Nat->Bool
 | some d=>q.c.contains d
 | none=>false
def gS(P:Program)[ba P][Cl](al:List (Nat×Nat))(i:Nat)(o:aB)(hist:List HI)(s:St)(K:List HI->St->Prop):Prop :=
 match o.o.op with
 | .call f args=>(∃args' r b,ah P f args' r/\(∀x∈args',aI x=[])/\aR (NY b (ae s.heap)) (args.map (val (get s.env))) args'/\(b=true->m0 r=true)/\aI r=[] /\
   dF o.o.op s .no=true/\fY o.bef ⟨i,bU o.o.op s.env,[],[],false,false⟩ hist=true/\K (⟨i,bU o.o.op s.env,[],[],false,false⟩::hist) (s.put o.o.dst r)) \/
   (∃k ob ob' Sb r,aZ P f (args.map (val (get s.env))) [(k,ob)] Sb (λr' σ'=>r'=r/\σ'=[(k,ob')])/\Sb k/\ae s.heap k=some ob/\aI r=[]/\dZ ob'=[]/\k∈bU o.o.op s.env /\
   dF o.o.op s (.put k ob')=true/\fY o.bef ⟨i,bU o.o.op s.env,[],[k],false,true⟩ hist=true/\K (⟨i,bU o.o.op s.env,[],[k],false,true⟩::hist) ((s.eff (.put k ob')).put o.o.dst r)) \/
   ∃d ob st off len Sb,o.o.dst=some d/\ob.isRec=false/\aZ P f (args.map (val (get s.env))) [] Sb (λr' σ'=>r' = .ms d st off len/\σ'=[(d,ob)]) /\
   dF o.o.op s .no=true/\fY o.bef ⟨i,bU o.o.op s.env,[d],[d],false,false⟩ hist=true/\qF al o.bef ⟨i,bU o.o.op s.env,[d],[d],false,false⟩=true/\K (⟨i,bU o.o.op s.env,[d],[d],false,false⟩::hist) ((s.eff (.new d ob)).put o.o.dst (.ms d st off len))
 | .callv _ _=>False
 | .app t st x y=>(match bQ (o.o.dst.getD 0) (.app t st x y) (val (get s.env)) (ae s.heap)with
  | some (v,e)=>dF o.o.op s e=true/\fY o.bef ⟨i,bU o.o.op s.env,aI v++e.ids,e.tch,e.isReb,e.isPut⟩ hist=true /\
    qF al o.bef ⟨i,bU o.o.op s.env,aI v++e.ids,e.tch,e.isReb,e.isPut⟩=true/\K (⟨i,bU o.o.op s.env,aI v++e.ids,e.tch,e.isReb,e.isPut⟩::hist) ((s.eff e).put o.o.dst v)
  | none=>False)\/(∃rows,x = .c .nl/\bQ (o.o.dst.getD 0) (.app t st x y) (val (get s.env)) (ae s.heap)=some (.ms (o.o.dst.getD 0) st 0 rows.length,.new (o.o.dst.getD 0) ⟨t,st,rows,false⟩) /\
   dF o.o.op s .no=true/\fY o.bef ⟨i,bU o.o.op s.env,[],[],false,false⟩ hist=true/\K (⟨i,bU o.o.op s.env,[],[],false,false⟩::hist) (s.put o.o.dst (.sl st rows)))
 | .bsl t st rows ps=>if ad0 o.o.dst=true then(match oQ (val (get s.env)) st rows ps with
   | some rs=>dF o.o.op s .no=true/\fY o.bef ⟨i,bU o.o.op s.env,[],[],false,false⟩ hist=true/\K (⟨i,bU o.o.op s.env,[],[],false,false⟩::hist) (s.put o.o.dst (.sl st rs))
   | none=>False)
  else match bQ (o.o.dst.getD 0) (.bsl t st rows ps) (val (get s.env)) (ae s.heap)with
  | some (v,e)=>dF o.o.op s e=true/\fY o.bef (@HI.mk i (bU o.o.op s.env) (aI v++e.ids) e.tch e.isReb e.isPut (yr o.o.op)) hist=true /\
    qF al o.bef (@HI.mk i (bU o.o.op s.env) (aI v++e.ids) e.tch e.isReb e.isPut (yr o.o.op))=true/\K ((@HI.mk i (bU o.o.op s.env) (aI v++e.ids) e.tch e.isReb e.isPut (yr o.o.op))::hist) ((s.eff e).put o.o.dst v)
  | none=>False
 | op=>match bQ (o.o.dst.getD 0) op (val (get s.env)) (ae s.heap)with
  | some (v,e)=>dF o.o.op s e=true/\fY o.bef (@HI.mk i (bU o.o.op s.env) (aI v++e.ids) e.tch e.isReb e.isPut (yr o.o.op)) hist=true /\
    qF al o.bef (@HI.mk i (bU o.o.op s.env) (aI v++e.ids) e.tch e.isReb e.isPut (yr o.o.op))=true/\K ((@HI.mk i (bU o.o.op s.env) (aI v++e.ids) e.tch e.isReb e.isPut (yr o.o.op))::hist) ((s.eff e).put o.o.dst v)
  | none=>False
def fb(P:Program)[ba P][Cl](al:List (Nat×Nat)):Nat->List aB->List HI->St->(List HI->St->Prop)->Prop
 | _,[],hist,s,K=>K hist s
 | i,o::r,hist,s,K=>match o.o.g with
  | none=>gS P al i o hist s (λhist' s'=>fb P al (i+1) r hist' s' K)
  | some (k,b)=>match get s.env k with
   | .bool t=>(t=b->gS P al i o hist (s.put (some k) (.bool b)) (λhist' s'=>fb P al (i+1) r hist' s' K)) /\
     (t = !b->fb P al (i+1) r (⟨i,[],[],[],false,false⟩::hist) ((s.put (some k) (.bool (!b))).put o.o.dst (.tup [])) K)
   | .tup []=>fb P al (i+1) r (⟨i,[],[],[],false,false⟩::hist) (s.put o.o.dst (.tup [])) K
   | _=>False
def kZ(P:Program)[ba P][Cl](al:List (Nat×Nat))(i:Nat)(l:List aB)(hist:List HI)(s:St)(K:St->Prop):Prop:=fb P al i l hist s λ_ s=>K s
def dp:bF->bF
 | .cut x y=>.seq (dp x) (dp y)
 | .seq x y=>.seq (dp x) (dp y)
 | .cond c t e=>.cond c (dp t) (dp e)
 | .block id x=>.block id (dp x)
 | .loop x=>.loop (dp x)
 | .free ops al dr=>.draw ops al dr
 | .wild ops al dr=>.draw ops al dr
 | .clon _ ops al dr=>.draw ops al dr
 | x=>x
def refine(c:IV)(b:Bool)(s:St):St :=
 match c with
 | .s k=>s.put (some k) (.bool b)
 | .c _=>s
def rdy(R:List (Nat×aB)):List (Nat×aB):=R.filter λt=>R.all λq=>!t.2.bef.contains q.1
def uE{α:Type}:List α->(α->Prop)->Prop
 | [],_=>True
 | [x],F=>F x
 | x::y::r,F=>F x/\uE (y::r) F
def qo(P:Program)[ba P]:Nat->List (Nat×aB)->St->(St->Prop)->Prop
 | 0,_,s,K=>K s
 | f+1,R,s,K=>uE (rdy R) λt=>i3 P [t.2.o] s λs'=>qo P f (R.filter λq=>q.1 != t.1) s' K
def lz(P:Program)[ba P]:bF->St->(IX->St->Prop)->Prop
 | .skip,s,K=>K .nrm s
 | .ret,s,K=>K .ret s
 | .exit id,s,K=>K (.ext id) s
 | .seq x y,s,K=>lz P x s λe s'=>match e with
  | .nrm=>lz P y s' K
  | e=>K e s'
 | .cut x y,s,K=>lz P x s λe s'=>match e with
  | .nrm=>∃s'',Wk s' s''/\lz P y s'' K
  | e=>K e s'
 | .cond c t e,s,K=>match val (get s.env) c with
  | .bool b=>(b=true->lz P t (refine c true s) K)/\(b=false->lz P e (refine c false s) K)
  | _=>False
 | .block id x,s,K=>lz P x s λe s'=>match e with
  | .ext j=>if j=id then K .nrm s' else K (.ext j) s'
  | e=>K e s'
 | .loop x,s,K=>∃I:Nat->St->Prop,(∃n s',I n s'/\Wk s s')/\∀n s,I n s->lz P x s λe s'=>match e with
  | .nrm=>∃m s'',m<n/\I m s''/\Wk s' s''
  | e=>K e s'
 | .reg ops dr,s,K=>i3 P ops s λs'=>K .nrm ⟨dels dr s'.env,s'.heap⟩
 | .draw ops al dr,s,K=>kZ P al 0 ops [] (kills (al.map (·.1)) s) λs'=>K .nrm ⟨dels dr s'.env,s'.heap⟩
 | .wild ops al dr,s,K=>fb P al 0 ops.dropLast [] (kills (al.map (·.1)) s) λhist s1=>match ops.getLast? with
  | some o=>HN al (ops.length-1) o hist s1 λs'=>K .nrm ⟨dels dr s'.env,s'.heap⟩
  | none=>False
 | .clon cs ops al dr,s,K=>@kZ P _ ⟨cs⟩ al 0 ops [] (kills (al.map (·.1)) s) λs'=>K .nrm ⟨dels dr s'.env,s'.heap⟩
 | .free ops _ dr,s,K=>qo P ops.length (ops.zipIdx.map λp=>(p.2,p.1)) s λs'=>K .nrm ⟨dels dr s'.env,s'.heap⟩
def s7(P:Program)(n:Nat)(ops:Array Oper):List Oper->Option (List bj)
 | []=>some []
 | o::r=>match nN P n ops o,s7 P n ops r with
  | some x,some xs=>some (x::xs)
  | _,_=>none
def NH:List Oper->List (List Nat)->List (List Nat)
 | [],acc=>acc
 | o::r,acc=>NH r (acc++[((o.after.toList.filter (Region.binds .any)).flatMap λe=>e.on::acc.getD e.on []).eraseDups])
def er:Code->List (List Nat)
 | .region _ ops _=>[ops.toList.flatMap λo=>o.dst.toList++o.op.operands.toList.filterMap fun | .tmp t=>some t|_=>none]
 | .seq x y=>er x++er y
 | .cond (.tmp t) x y=>[t]::(er x++er y)
 | .cond _ x y=>er x++er y
 | .block _ x=>er x
 | .loop x=>er x
 | .scope x=>er x
 | _=>[]
def V6(ls:List (List Nat))(k:Nat):Bool:=2<=(ls.filter (·.contains k)).length
def E4:List Nat->Bool
 | []=>true
 | x::r=>!r.contains x&&E4 r
def kX(o:Oper):List Nat:=(o.after.toList.filter (Region.binds .any)).map (·.on)
def Wm(ops:List Oper)(bs:List (List Nat)):Bool :=
 (List.range ops.length).all λi=>match ops[i]? with
  | none=>false
  | some o=>(kX o).all (λd=>decide (d<i))&&(bs.getD i []).all (λd=>(kX o).contains d||(kX o).any λm=>(bs.getD m []).contains d)
def jL:IV->Bool
 | .s _=>true
 | .c x=>(aI x).isEmpty
def bK(op:lR):Bool :=
 match op with
 | .load _ x | .cvs x | .cvm x=>jL x
 | .store _ x y | .app _ _ x y | .apps _ x y | .cpy _ x y=>jL x&&jL y
 | .call _ args=>args.all jL
 | .mop _ args=>args.all jL
 | _=>true
def Sa(bs:List (List Nat))(l:List bj):Bool :=
 (List.range l.length).all λi=>(List.range i).all λj=>match l[i]?,l[j]? with
  | some x,some y=>(bs.getD i []).contains j ||
    ((match y.dst with|some d=>!(du x).contains d&&x.dst != some d|none=>true)&&(match x.dst with|some d=>!(du y).contains d|none=>true))
  | _,_=>false
def DZ(o:bj):Bool:=rG o.op||(match o.op,o.dst with | .call _ _,some _=>true|_,_=>false)
def uZ{o:bj}(h:rG o.op=true):DZ o=true:=by simp[DZ,h]
def cW:Nat->List bj->List (Nat×Nat)
 | _,[]=>[]
 | i,o::r=>if DZ o then(o.dst.getD 0,i)::cW (i+1) r else cW (i+1) r
def dB(l:List Nat):Nat->Nat->Nat
 | 0,k=>k
 | f+1,k=>if l.contains k then dB l f (k+1)else k
def HF(bs:List (List Nat)):Nat->List bj->List (Nat×List bj)×Nat
 | i,[]=>([],i)
 | i,o::r=>match HF bs (i+1) r with
  | ([],m)=>([(i,[o])],min m (dB (bs.getD i []) i 0))
  | ((k,s)::t,m)=>if i+1<=m then((i,[o])::(k,s)::t,min m (dB (bs.getD i []) i 0))else((i,o::s)::t,min m (dB (bs.getD i []) i 0))
def sz(bs:List (List Nat))(i n:Nat):List (List Nat):=(List.range n).map λk=>(bs.getD (i+k) []).filterMap λd=>if i<=d then some (d-i)else none
def Aa(rb:List (List Nat))(s:List bj)(dr:List Nat):Option bF :=
 if Sa rb s&&(cW 0 s).all (λp=>p.1<1000)&&E4 ((cW 0 s).map (·.1))&&s.all (λo=>bK o.op)then
  some (.draw (s.zipIdx.map λp=>⟨p.1,rb.getD p.2 []⟩) (cW 0 s) dr)else none
def K6(bs:List (List Nat))(i:Nat)(s:List bj)(dr:List Nat):Option bF :=
 match s with
 | [o]=>some (.reg [o] dr)
 | s=>Aa (sz bs i s.length) s dr
def C7(bs:List (List Nat))(dr:List Nat):List (Nat×List bj)->Option bF
 | []=>some (.reg [] dr)
 | (i,s)::t=>match t with
  | []=>K6 bs i s dr
  | _::_=>match K6 bs i s [],C7 bs dr t with
   | some x,some y=>some (.seq x y)
   | _,_=>none
def Jr(P:Program)(n:Nat)(ops:Array Oper)(dr:List Nat->List Nat):Option bF :=
 match s7 P n ops ops.toList with
 | none=>none
 | some l=>if Wm ops.toList (NH ops.toList [])then C7 (NH ops.toList []) (dr (l.filterMap (·.dst))) (HF (NH ops.toList []) 0 l).1 else none
def comp(P:Program)(n:Nat)(sh:List (List Nat)):Code->Option bF
 | .skip=>some .skip
 | .ret=>some .ret
 | .exit id=>some (.exit id)
 | .label _=>some .skip
 | .seq x y=>match comp P n sh x,comp P n sh y with
  | some x,some y=>some (.seq x y)
  | _,_=>none
 | .cond c x y=>match cV c,comp P n sh x,comp P n sh y with
  | some c,some x,some y=>some (.cond c x y)
  | _,_,_=>none
 | .block id x=>(comp P n sh x).map (.block id)
 | .loop x=>(comp P n sh x).map .loop
 | .scope x=>comp P n sh x
 | .region _ ops false=>match s7 P n ops ops.toList with
  | some l=>some (.reg l ((l.filterMap (·.dst)).filter λk=>!V6 sh k))
  | none=>none
 | .region _ ops true=>Jr P n ops (·.filter λk=>!V6 sh k)
 | _=>none
inductive nx where
 | tmp (k:Nat)
 | cell (k:Nat) (n:Option Nat)
 deriving Inhabited
structure av where
 n:Nat
 np:Nat
 res:List nx
 body:bF
 deriving Inhabited
def yf(P:Program):List ResultVar->Option (List nx)
 | []=>some []
 | .tmp t::r=>if t<1000000 then(yf P r).map (.tmp t::·)else none
 | .cell a t::r=>match tQ P t,yf P r with
  | some n,some l=>if a<1000000 then some (.cell a n::l)else none
  | _,_=>none
def sA:List ResultVar->List Nat
 | []=>[]
 | .tmp t::r=>t::sA r
 | .cell a _::r=>a::sA r
def qm(P:Program)(f:FuncId):Option av :=
 match P.funcs[f]? with
 | none=>none
 | some fn=>match fn.body with
  | none=>none
  | some body=>match comp P fn.ntmps (sA fn.results.toList::er body) body,yf P fn.results.toList with
   | some b,some rs=>if fn.params.size+fn.nfree<=fn.ntmps/\fn.ntmps<=1000000 then some ⟨fn.ntmps,fn.params.size+fn.nfree,rs,b⟩else none
   | _,_=>none
section
variable{P:Program}[ba P]{c:qL}[CT c P]{a:Act}{w:World}{s:St}{o:Oper}{io:bj}{ops:Array Oper}{n:Nat}
def va(hc:nN P n ops o=some io):iH P o.op=some io.op/\io.dst=o.dst/\(∀k,o.dst=some k->k<n) /\
  ((o.guard=none/\io.g=none)\/∃j b k,o.guard=some (j,b)/\(ops[j]?).bind (·.dst)=some k/\io.g=some (k,b)):=by
 unfold nN at hc;split at hc
 case h_2=>cases hc
 rename_i op h1;have hd:(match o.dst with|some d=>decide (d<n)|none=>true)=true->∀k,o.dst=some k->k<n:=λh k hk=>by rw[hk]at h;simpa using h
 split at hc
 .rename_i h2 h3;cases hc;exact⟨h1,rfl,hd h2,.inl ⟨h3,rfl⟩⟩
 .rename_i j b h2 h3;split at hc
  case h_2=>cases hc
  rename_i k hk;cases hc;exact⟨h1,rfl,hd h2,.inr ⟨j,b,k,h3,hk,rfl⟩⟩
 .cases hc
def jl{f:FuncId}(hb:bM P f=true)(args:Array Value):(callFunc f args).run P w = .ok (.enter f args) w:=by
 unfold bM at hb;split at hb
 case h_2=>cases hb
 rename_i fn hf;simp only[fQ,bne_iff_ne]at hb;obtain⟨h1,h2⟩:=hb;have h3:fn.body.isNone=false:=by cases h:fn.body<;>simp_all
 have h4:¬fn.body=none:=λhn=>by simp[hn]at h1
 simp[callFunc,hf,h2,h4]
def pJ{f:FuncId}{cargs:List Value}{args:List AV}{d:Option Nat}(hd:∀k,d=some k->k<c.n){K:St->Prop}{bl:Nat->Option Nat}(hs:aH c bl (get s.env) (ae s.heap) a w)
  (ha:aR (aY bl (bz bl c.MF (ae s.heap)) w) cargs args) (h:yp P f args d s K) :
  Calls P f cargs.toArray w λe w'=>∃v,e = .returned v/\∃s',K s'/\cG c s' (a.put d v) w':=by
 rcases h with⟨args',r,b,hp,hid,hco,hf,hk⟩|⟨σ0,Sb,Post,ks,hp,hσ,hks,hk⟩
 .refine(DF hs hp ha hid b hco hf).mono λe w' ⟨v,he,hs',hv⟩=>⟨v,he,s.put d r,hk,kM hs' d hd hv (λ_=>rfl) (λ_=>rfl)⟩
 .refine(Bw hs hp ha hσ ks hks).mono λe w' ⟨v,r,σ',bl2,he,hP,hs',hv⟩=>?_;obtain⟨s',h1,h2,h3⟩:=hk r σ' hP;exact⟨v,he,s'.put d r,h3,kM hs' d hd hv h1 h2⟩
def rP{f:FuncId}{cargs:List Value}{args:List AV}{d:Option Nat}(hd:∀k,d=some k->k<c.n){K:St->Prop}{bl:Nat->Option Nat}(hs:aH c bl (get s.env) (ae s.heap) a w)
  (ha:aR (aY bl (bz bl c.MF (ae s.heap)) w) cargs args) (h:cB P f args d s K) :
  Calls P f cargs.toArray w λe w'=>∃v,e = .returned v/\∃s',K s'/\cG c s' (a.put d v) w':=by
 rcases h with h|⟨fs,h⟩|⟨s',args',hw,h⟩
 .exact pJ hd hs ha h
 .obtain⟨h1,h2⟩:=aH.frzs fs s hs;exact pJ hd h1 (ha.mapRight λv x hv=>h2 v x hv) h
 .obtain⟨bl',h1,h2⟩:=hw c a w bl cargs hs ha;exact pJ hd h1 h2 h
def kF{f:FuncId}{args:Array Value}{K:Act->World->Prop}{Q:Exit->Act->World->Prop}(hr:(execOp a.eval o).run P w = .ok (.enter f args) w)
  (h:Calls P f args w λe w'=>∃v,e = .returned v/\K (a.put o.dst v) w'):o.wp P a w K Q:=by
 unfold Oper.wp;rw[hr];simp only[Oper.upon];refine h.mono λe w' ⟨v,he,hk⟩=>?_;subst he;exact hk
def mA{v:AV}{e:aW}{K:Act->World->Prop}{Q:Exit->Act->World->Prop}{g:Nat->AV}{h:Nat->Option aj}(hok:aS P c o a w g h v e)
  (hk:∀r w' bl',aH c bl' (e.env g) (e.hp h) a w'->aY bl' (bz bl' c.MF (e.hp h)) w' r v->K (a.put o.dst r) w'):o.wp P a w K Q:=by
 obtain⟨r,w',bl',hr,h1,h2⟩:=hok;unfold Oper.wp;rcases hr with hr|⟨hr,rfl⟩
 .rw[hr];exact hk r w' bl' h1 h2
 .rw[hr];exact hk undef w' bl' h1 h2
def mH{bl:Nat->Option Nat}{g:Nat->AV}{h:Nat->Option aj}(hs:aH c bl g h a w){cs:Array Operand}{vs:List IV}(hv:NP cs.toList=some vs):aR (aY bl (bz bl c.MF h) w) (cs.map a.eval).toList (vs.map (val g)):=by
 rw[Array.toList_map];exact D9 hs hv
def F3{oo:Op}{f:FuncId}{args:List IV}(h:iH P oo=some (.call f args)):∃cl,oo = .call cl/\cl.callee = .value (.func f)/\bM P f=true/\NP cl.args.toList=some args:=by
 cases oo<;>simp only[iH]at h
 case call cl =>
  unfold uD at h;split at h
  .rename_i f' hcl;split at h
   case isFalse=>obtain⟨_,_,_,_,_,_,_,_,_,_,_,_,q⟩:=mX h;cases q
   rename_i hb;simp only[dc]at h;obtain⟨vs,hv,h⟩:=h;cases h;exact⟨cl,rfl,hcl,hb,hv⟩
  all_goals
   exfalso
   repeat' (split at h)
   all_goals first
    | (cases h;done)
    | (obtain⟨_,_,_,_,_,_,_,_,_,_,_,_,q⟩:=mX h;cases q;done)
    | (simp only[dc]at h;obtain⟨_,_,h⟩:=h;cases h)
 case binOp =>
  split at h
  .unfold Cc at h;repeat' (split at h)
   all_goals cases h
  .cases h
 case convert =>
  split at h
  .unfold AB at h
   repeat' (split at h)
   all_goals cases h
  .cases h
 case makeFunc fn first caps =>
  cases fn<;>simp only[iH]at h<;>try (cases h;done)
  split at h
  .simp only[dc]at h;obtain⟨_,_,h⟩:=h;cases h
  .cases h
 all_goals
  exfalso
  repeat' (split at h)
  all_goals first
   | (cases h;done)
   | (simp only[dc]at h;obtain⟨_,_,h⟩:=h;cases h;done)
   | (simp_all;done)
def K5{oo:Op}{f:IV}{args:List IV}(h:iH P oo=some (.callv f args)):∃cl t,oo = .call cl/\cl.callee = .value (.tmp t)/\f = .s t/\NP cl.args.toList=some args:=by
 cases oo<;>simp only[iH]at h
 case call cl =>
  unfold uD at h;split at h
  case h_2 =>
   rename_i t hcl;split at h
   case isFalse=>cases h
   simp only[dc]at h;obtain⟨vs,hv,h⟩:=h;cases h;exact⟨cl,t,rfl,hcl,rfl,hv⟩
  all_goals
   exfalso
   repeat' (split at h)
   all_goals first
    | (cases h;done)
    | (obtain⟨_,_,_,_,_,_,_,_,_,_,_,_,q⟩:=mX h;cases q;done)
    | (simp only[dc]at h;obtain⟨_,_,h⟩:=h;cases h)
 case binOp =>
  split at h
  .unfold Cc at h;repeat' (split at h)
   all_goals cases h
  .cases h
 case convert =>
  split at h
  .unfold AB at h
   repeat' (split at h)
   all_goals cases h
  .cases h
 case makeFunc fn first caps =>
  cases fn<;>simp only[iH]at h<;>try (cases h;done)
  split at h
  .simp only[dc]at h;obtain⟨_,_,h⟩:=h;cases h
  .cases h
 all_goals
  exfalso
  repeat' (split at h)
  all_goals first
   | (cases h;done)
   | (simp only[dc]at h;obtain⟨_,_,h⟩:=h;cases h;done)
   | (simp_all;done)
def Sm{oo:Op}{b:Bool}{x:IV}(h:iH P oo=some (.snl b x)):∃op t y z t' e,oo = .binOp op t y z t'/\P.underlying t=some (.slice e)/\((op = .eql/\b=false)\/(op = .neq/\b=true))/\cV y=some x/\cV z=some (.c .nl):=by
 cases oo<;>simp only[iH]at h
 case binOp op t y z t' =>
  split at h
  case h_2=>cases h
  rename_i yv zv h1 h2;unfold Cc at h;split at h
  case h_7 =>
   rename_i e ht;split at h
   .cases h;exact⟨_,_,_,_,_,_,rfl,ht,.inl ⟨rfl,rfl⟩,h1,h2⟩
   .cases h;exact⟨_,_,_,_,_,_,rfl,ht,.inr ⟨rfl,rfl⟩,h1,h2⟩
   .cases h
  all_goals
   repeat' (split at h)
   all_goals cases h
 case call cl =>
  unfold uD at h;exfalso
  repeat' (split at h)
  all_goals first
   | (cases h;done)
   | (obtain⟨_,_,_,_,_,_,_,_,_,_,_,_,q⟩:=mX h;cases q;done)
   | (simp only[dc]at h;obtain⟨_,_,h⟩:=h;cases h)
 case convert =>
  split at h
  .unfold AB at h
   repeat' (split at h)
   all_goals cases h
  .cases h
 case makeFunc fn first caps =>
  cases fn<;>simp only[iH]at h<;>try (cases h;done)
  split at h
  .simp only[dc]at h;obtain⟨_,_,h⟩:=h;cases h
  .cases h
 all_goals
  exfalso
  repeat' (split at h)
  all_goals first
   | (cases h;done)
   | (simp only[dc]at h;obtain⟨_,_,h⟩:=h;cases h;done)
   | (simp_all;done)
def Sl{oo:Op}{x:IV}(h:iH P oo=some (.mop .nmi [x])):∃y,oo = .next y false/\cV y=some x:=by
 cases oo<;>simp only[iH]at h
 case next y b =>
  cases b<;>simp only[iH]at h
  .simp only[dc]at h;obtain⟨yv,h1,h2⟩:=h;cases h2;exact⟨y,rfl,h1⟩
  .simp only[dc]at h;obtain⟨_,_,h⟩:=h;cases h
 case binOp =>
  split at h
  .unfold Cc at h;repeat' (split at h)
   all_goals cases h
  .cases h
 case call cl =>
  unfold uD at h;exfalso
  repeat' (split at h)
  all_goals first
   | (cases h;done)
   | (obtain⟨_,_,_,_,_,_,_,_,_,_,_,_,q⟩:=mX h;cases q;done)
   | (simp only[dc]at h;obtain⟨_,_,h⟩:=h;cases h)
 case convert =>
  split at h
  .unfold AB at h
   repeat' (split at h)
   all_goals cases h
  .cases h
 case makeFunc fn first caps =>
  cases fn<;>simp only[iH]at h<;>try (cases h;done)
  split at h
  .simp only[dc]at h;obtain⟨_,_,h⟩:=h;cases h
  .cases h
 all_goals
  exfalso
  repeat' (split at h)
  all_goals first
   | (cases h;done)
   | (simp only[dc]at h;obtain⟨_,_,h⟩:=h;cases h;done)
   | (simp_all;done)
def Js{oo:Op}{e:TypeId}{st:Nat}{xv yv:IV}(h:iH P oo=some (.app e st xv yv)):∃cl t t' x y,oo = .call cl/\cl.callee = .builtin .append/\cl.argTypes = #[t,t']/\cl.args = #[x,y]/\nJ P t=some (e,st) /\
  (∃e',P.underlying t'=some (.slice e'))/\cV x=some xv/\cV y=some yv:=by
 cases oo<;>simp only[iH]at h
 case call cl =>
  unfold uD at h;split at h
  case h_6 =>
   rename_i hcl;split at h
   .rename_i t t' x y h1 h2;split at h
    .rename_i h3 h4 h5 h6;cases h;exact⟨cl,t,t',x,y,rfl,hcl,Ay h1,Ay h2,h3,⟨_,h4⟩,h5,h6⟩
    .split at h<;>cases h
    .cases h
   .cases h
  all_goals
   exfalso
   repeat' (split at h)
   all_goals first
    | (cases h;done)
    | (obtain⟨_,_,_,_,_,_,_,_,_,_,_,_,q⟩:=mX h;cases q;done)
    | (simp only[dc]at h;obtain⟨_,_,h⟩:=h;cases h)
 case convert =>
  split at h
  .unfold AB at h
   repeat' (split at h)
   all_goals cases h
  .cases h
 case makeFunc fn first caps =>
  cases fn<;>simp only[iH]at h<;>try (cases h;done)
  split at h
  .simp only[dc]at h;obtain⟨_,_,h⟩:=h;cases h
  .cases h
 case binOp =>
  split at h
  .unfold Cc at h
   repeat' (split at h)
   all_goals cases h
  .cases h
 all_goals
  exfalso
  repeat' (split at h)
  all_goals first
   | (cases h;done)
   | (simp only[dc]at h;obtain⟨_,_,h⟩:=h;cases h;done)
   | (simp_all;done)
def IRel.noC{M:Nat->Prop}{v:Value}{x:AV}(h:IRel M w v x)(i:Nat):mC i x=false:=by cases h<;>rfl
def Sc{bl:Nat->Option Nat}{g:Nat->AV}{h:Nat->Option aj}(s:aH c bl g h a w){e:TypeId}{st:Nat}{xv yv:IV}(hc:iH P o.op=some (.app e st xv yv)){d:Nat}{x:AV}{ef:aW}(he:uB d e st (val g xv) (qJ st h (val g yv)) h=some (x,ef))
  (hnew:h d=none/\cN d g h/\(d<1000\/2000<=d)):aS P c o a w g h x ef:=by
 obtain⟨cl,t,t',xo,yo,ho,h1,h2,h3,h4,h5,h6,h7⟩:=Js hc;unfold uB at he;split at he
 case h_1=>cases he
 rename_i ys hys;split at he
 case isFalse=>cases he
 rename_i hbig;obtain⟨vs,hs,hy⟩:=BU (P:=P) s h7 hys (q:=true) (λ_=>rfl);have hne:ys≠[]:=λq=>by rw[q]at hbig;simp at hbig
 split at he
 .rename_i hv;cases he;refine Bx (q:=true) s ho h1 h2 h3 h4 (.inl h5) h6 hv hs hy hbig.1 hnew.1 hnew.2.1 hnew.2.2 (λ_=>⟨hne,λr hr x hx=>?_⟩);cases hrq:yH h (val g yv)with
  | false =>
   obtain⟨vs,_,hy⟩:=BU (P:=P) s h7 hys (q:=false) (λq=>by rw[hrq]at q;exact q);obtain⟨i,hi⟩:=List.getElem?_of_mem hr;obtain⟨j,hj⟩:=List.getElem?_of_mem hx;obtain⟨v,_,hv⟩:=hy.2.2 i j r x hi hj;exact IRel.noC hv d
  | true =>
   generalize val g yv=Y at hrq hys;cases Y<;>simp only[yH]at hrq<;>try cases hrq
   rename_i id st' off len;simp only[qJ]at hys;split at hys
   case h_2=>cases hys
   rename_i ob hob;split at hys
   case isFalse=>cases hys
   cases hys;rw[hob]at hrq;exact hnew.2.1.2 id ob hob hrq r (List.mem_of_mem_drop (List.mem_of_mem_take hr)) x hx
 .rename_i id st' off len hv;split at he
  case h_2=>cases he
  rename_i ob hob;split at he
  case isFalse=>cases he
  rename_i hcond;obtain⟨rfl,q2,q3,rfl,q6,q7,q8,q9,q10⟩:=hcond;cases he;exact Bz (q:=true) s ho h1 h2 h3 h4 (.inl h5) h6 hv hob q2 q3 q6 q8 q9 hs (λ_=>rfl) hy hbig.1 q7 (λ_=>⟨hne,Dz q10⟩)
 .cases he
def LA(hc:nN P n ops o=some io)(hn:c.n=n){K:St->Prop}(h:lV P io s K)(hs:cG c s a w)(Q:Exit->Act->World->Prop) :
  o.wp P a w (λa' w'=>∃s',K s'/\cG c s' a' w') Q:=by
 obtain⟨h1,h2,h3,_⟩:=va hc;obtain⟨bl,hs⟩:=hs;have hd:∀k,io.dst=some k->k<c.n:=λk hk=>by rw[hn];exact h3 k (h2▸hk)
 have plain:∀{s:St}{bl:Nat->Option Nat},aH c bl (get s.env) (ae s.heap) a w->(rG io.op=true->ae s.heap (io.dst.getD 0)=none/\cN (io.dst.getD 0) (get s.env) (ae s.heap)/\(io.dst.getD 0<1000\/2000<=io.dst.getD 0)) ->
   (match bQ (io.dst.getD 0) io.op (val (get s.env)) (ae s.heap)with
    | some (v,e)=>K ((s.eff e).put io.dst v)
    | none=>False)->o.wp P a w (λa' w'=>∃s',K s'/\cG c s' a' w') Q:=by
  intro s bl hs hnew hm;split at hm
  case h_2=>exact hm.elim
  rename_i v e he;refine mA (H5 hs h1 he hnew) (λr w' bl' q1 q2=>⟨_,hm,?_⟩);rw[<-h2];exact kM q1 io.dst hd q2 (sP s e) (oW s e)
 unfold lV at h;split at h
 .rename_i f args hop;rw[hop]at h1;obtain⟨cl,hoo,hcl,hb,hv⟩:=F3 h1;refine kF (f:=f) (args:=cl.args.map a.eval) ?_ ?_
  .have:=jl (w:=w) hb (cl.args.map a.eval);simp[execOp,hoo,resolve,hcl,Act.eval,Deferred.ofValue,invoke,this]
  .have:=rP hd hs (mH hs hv) h;simp only[Array.toArray_toList]at this;rw[<-h2];exact this
 .rename_i f args hop;rw[hop]at h1;obtain⟨cl,t,hoo,hcl,rfl,hv⟩:=K5 h1;split at h
  case h_2=>exact h.elim
  rename_i f caps hval;have hf:=hs.env t;simp only[val]at hval;rw[hval]at hf;obtain⟨cs,hf1,hf2⟩:=hf;have hev:a.eval (.tmp t) = .func (.func (V0 f)) (cs.take (SI f)).toArray (cs.drop (SI f)).toArray:=by
   rw[(Fx (a:=a) (k:=t) (λb hb=>by rw[hb]at hf1;cases hf1)).2]at hf1;exact hf1
  have lift:∀{vs:List Value}{xs:List AV},aR (dS bl (bz bl c.MF (ae s.heap)) w) vs xs->aR (aY bl (bz bl c.MF (ae s.heap)) w) vs xs:=λhr=>hr.mono λ_ x _ hr=>(show aY bl (bz bl c.MF (ae s.heap)) w _ x from by
    cases x<;>first|exact hr|trivial|(exfalso;simp only[dS]at hr;cases hr))
  by_cases hlt:f<4000000
  .rw[aF hlt]at h;have eI:V0 f=f:=aF hlt;have eK:SI f=0:=aF hlt;rw[eI,eK]at hev;simp only[iO,oK]at hev;obtain⟨hb,h⟩:=h;refine kF (f:=f) (args:=cl.args.map a.eval++cs.toArray) ?_ ?_
   .have:=jl (w:=w) hb (cl.args.map a.eval++cs.toArray);simp[execOp,hoo,resolve,hcl,hev,Deferred.ofValue,invoke,this]
   .have hargs:=(mH hs hv).append (lift hf2);have:=rP hd hs hargs h;have e1:((cl.args.map a.eval).toList++cs).toArray=cl.args.map a.eval++cs.toArray:=by apply Array.toList_inj.1;simp
    rw[e1]at this;rw[<-h2];exact this
  .rw[ax hlt]at h;have eI:V0 f=f-4000000:=ax hlt;have eK:SI f=1:=ax hlt;rw[eI,eK]at hev;obtain⟨hb,h⟩:=h;refine kF (f:=f-4000000) (args:=(cs.take 1).toArray++cl.args.map a.eval++(cs.drop 1).toArray) ?_ ?_
   .generalize (cs.take 1).toArray=A1 at hev⊢;generalize (cs.drop 1).toArray=A2 at hev⊢;have:=jl (w:=w) hb (A1++cl.args.map a.eval++A2);rw[Array.append_assoc]at this;simp[execOp,hoo,resolve,hcl,hev,Deferred.ofValue,invoke,this]
   .have hargs:=((lift (hf2.take 1)).append (mH hs hv)).append (lift (hf2.drop 1));have:=rP hd hs hargs h;have e1:((cs.take 1++(cl.args.map a.eval).toList)++cs.drop 1).toArray=(cs.take 1).toArray++cl.args.map a.eval++(cs.drop 1).toArray:=by apply Array.toList_inj.1;simp
    rw[e1]at this;rw[<-h2];exact this
 .rename_i t st rows ps hop;obtain⟨hlt,h⟩:=h;have go:∀{s:St}{bl:Nat->Option Nat},aH c bl (get s.env) (ae s.heap) a w->Hg io s K->o.wp P a w (λa' w'=>∃s',K s'/\cG c s' a' w') Q:=λ{s bl} hs hm=>by
   obtain⟨bl',hk⟩:=cG.kill (i:=io.dst.getD 0) ⟨bl,hs⟩;exact plain hk (λ_=>⟨(cX s _).1,(cX s _).2,.inl hlt⟩) hm
  split at h
  .rename_i v e he;refine go hs ?_;unfold Hg;have e2:bQ (io.dst.getD 0) io.op (val (get (s.kill (io.dst.getD 0)).env)) (ae (s.kill (io.dst.getD 0)).heap)=some (v,e):=by
    rw[hop];simp only[bQ];unfold NL at he;split at he
    .rename_i hr;rw[hr];exact he
    .cases he
   rw[e2];exact h
  .obtain⟨s',hw,h⟩:=h;obtain⟨bl',hs'⟩:=hw c a w ⟨bl,hs⟩;exact go hs' h
 .rename_i t st x y hop;obtain⟨hlt,h⟩:=h;obtain⟨bl',hk⟩:=cG.kill (i:=io.dst.getD 0) ⟨bl,hs⟩
  have hR:(match uB (io.dst.getD 0) t st (val (get (s.kill (io.dst.getD 0)).env) x) (qJ st (ae (s.kill (io.dst.getD 0)).heap) (val (get (s.kill (io.dst.getD 0)).env) y)) (ae (s.kill (io.dst.getD 0)).heap)with
   | some (v,e)=>K (((s.kill (io.dst.getD 0)).eff e).put io.dst v)
   | none=>False)->o.wp P a w (λa' w'=>∃s',K s'/\cG c s' a' w') Q:=λhm=>by
   split at hm
   case h_2=>exact hm.elim
   rename_i v e he;refine mA (Sc hk (hop▸h1) he ⟨(cX s _).1,(cX s _).2,.inl hlt⟩) (λr w' bl' q1 q2=>⟨_,hm,?_⟩);rw[<-h2];exact kM q1 io.dst hd q2 (sP _ e) (oW _ e)
  unfold qI at h;split at h
  .exact hR h
  .split at h
   .exact hR h
   .split at h
    .obtain⟨id,off,len,ob,ys,q1,q2,q3,q4,q5,q6,q7,q8,q9,q10,q11,k1,k2⟩:=h;obtain⟨cl,t1,t',xo,yo,ho,z1,z2,z3,z4,z5,z6,z7⟩:=Js (hop▸h1);obtain⟨vs,hsrc,hy⟩:=Fr (P:=P) hk z7 q2;rcases By (q:=false) hk ho z1 z2 z3 z4 (.inl z5) z6 q1 q3 q4 q5 q7 q10 q11 hsrc (λq=>by rw[q6]at q;cases q) hy q9 q8 (λq=>by cases q)with hok|hok
     .refine mA hok (λr w' bl' p1 p2=>⟨_,k1,?_⟩);rw[<-h2];exact kM p1 io.dst hd p2 (sP _ _) (oW _ _)
     .refine mA hok (λr w' bl' p1 p2=>⟨_,k2,?_⟩);rw[<-h2];exact kM p1 io.dst hd p2 (sP _ _) (oW _ _)
    .rw[<-hop]at h;exact plain hk (λ_=>⟨(cX s _).1,(cX s _).2,.inl hlt⟩) h
 .rename_i b x hop;obtain⟨op,t,y,z,t',e,hoo,ht,hb,hx,hy⟩:=Sm (hop▸h1);have kk:∀{v:AV},aS P c o a w (get s.env) (ae s.heap) v .no->K (s.put io.dst v)->o.wp P a w (λa' w'=>∃s',K s'/\cG c s' a' w') Q:=λ{v} hok hk=>by
   refine mA hok (λr w' bl' q1 q2=>⟨_,hk,?_⟩);rw[<-h2];exact kM q1 io.dst hd q2 (λ_=>rfl) (λ_=>rfl)
  split at h
  .rename_i st hv;have h5:=aO hs hx;rw[hv]at h5;have hy2:a.eval z = .slice none 0 0:=(aO hs hy).nl;generalize hu:a.eval y=u at h5;have h6:=h5.sl;have fin:∀{ad n cap},a.eval y = .slice ad n cap->o.wp P a w (λa' w'=>∃s',K s'/\cG c s' a' w') Q:=λ{ad n cap} h7=>by
    refine kk (v:=.bool (if ad.isNone then !b else b)) (aS.pure hs (r:=.bool _) (Kp hoo ht hb h7 hy2) (nk _)) ?_;cases ad
    .exact h.2
    .exact h.1
   cases h6<;>exact fin hu
  .split at h
   case h_2=>exact h.elim
   rename_i v hv;exact kk (IQ hs hoo ht hb hx hy hv) h
 .rename_i x hop;obtain⟨y,hoo,hx⟩:=Sl (hop▸h1);obtain⟨id,ob,l,la,hv,hob,hk,k1,k2⟩:=h;rcases Y_ hs hoo hx hv hob hk with⟨hl,hok⟩|⟨i,e,hi,hok⟩
  .refine mA hok (λr w' bl' q1 q2=>⟨_,k1 hl,?_⟩);rw[<-h2];exact kM q1 io.dst hd q2 (λ_=>rfl) (λ_=>rfl)
  .refine mA hok (λr w' bl' q1 q2=>⟨_,k2 i e hi,?_⟩);rw[<-h2];exact kM q1 io.dst hd q2 (sP s _) (oW s _)
 .split at h
  .rename_i hal;obtain⟨hlt,h⟩:=h;obtain⟨bl',hk⟩:=cG.kill (i:=io.dst.getD 0) ⟨bl,hs⟩;exact plain hk (λ_=>⟨(cX s _).1,(cX s _).2,.inl hlt⟩) h
  .rename_i hal;exact plain hs (λh=>absurd h hal) h
def uQ{bl:Nat->Option Nat}{M:Nat->Prop}{j k:Nat}(hj:(ops[j]?).bind (·.dst)=some k)(hk:aY bl M w (tv a k) (.tup [])):yielded ops a.tmps j=none:=by
 obtain⟨cs,h1,h2⟩:=hk;rw[(Fx (a:=a) (k:=k) (λb hb=>by rw[hb]at h1;cases h1)).2]at h1;have hcs:cs=[]:=by cases cs with|nil=>rfl|cons=>exact h2.elim
 subst hcs;have:∀b,a.tmps[k]?≠some (.bool b):=λb hb=>by
  rw[oI,hb]at h1;cases h1
 unfold yielded;rw[hj];show(match a.tmps[k]? with|some (.bool b)=>some b|_=>none)=none;generalize a.tmps[k]? = x at this;cases x with
 | none=>rfl
 | some v=>cases v<;>first|rfl|exact absurd rfl (this _)
def vj(hn:c.n=n)(Q:Exit->Act->World->Prop){o:Oper}{io:bj}(h1:nN P n ops o=some io){il:List bj}{K:St->Prop}{KK:Act->World->Prop}{s:St}{a:Act}{w:World}(h:i3 P (io::il) s K)(hs:cG c s a w)
  (hK:∀s' a' w',i3 P il s' K->cG c s' a' w'->KK a' w'):if Region.wanted o (yielded ops a.tmps)then o.wp P a w KK Q\/(o.asks P a w/\LetsOut Q)else KK (a.put o.dst undef) w:=by
 obtain⟨_,hdst,hdn,hg⟩:=va h1;have run:∀{s:St},lV P io s (λs'=>i3 P il s' K)->cG c s a w->o.wp P a w KK Q:=λ{s} h hs =>
  Oper.wp_mono (λa' w' ⟨s',h3,h4⟩=>hK s' a' w' h3 h4) (LA h1 hn h hs Q)
 rcases hg with⟨g1,g2⟩|⟨j,b,k,g1,g2,g3⟩
 .rw[aF (by simp[Region.wanted,g1])];simp only[i3,g2]at h;exact .inl (run h hs)
 .simp only[i3,g3]at h;split at h
  case h_3=>exact h.elim
  case h_2 =>
   rename_i hv;obtain⟨bl,hsb⟩:=hs;have hk:=hsb.env k;rw[hv]at hk;have hy:=uQ (ops:=ops) g2 hk;rw[ax (by simp[Region.wanted,g1,hy])];refine hK _ _ w h ?_;rw[<-hdst];exact HE ⟨bl,hsb⟩ io.dst (λq hq=>by rw[hn];exact hdn q (hdst▸hq)) ()
  rename_i t hv;obtain⟨bl,hsb⟩:=hs;have hk:=hsb.env k;rw[hv]at hk;have hkv:=hk.bool;rw[(Fx (a:=a) (k:=k) (λb hb=>by rw[hb]at hkv;cases hkv)).2]at hkv;have hkn:k<a.tmps.size:=by
   rcases eJ k a.tmps.size with hlt|hge
   .exact hlt
   .rw[oI,B3 hge]at hkv;cases hkv
  have hy:yielded ops a.tmps j=some t:=by
   have:a.tmps[k]?=some (.bool t):=by
    rw[oI,lF hkn]at hkv;rw[lF hkn];simpa using hkv
   simp[yielded,g2,this]
  have hput:∀q:Bool,t=q->cG c (s.put (some k) (.bool q)) a w:=λq hq=>by
   refine⟨bl,hsb.congr (λi=>?_) (λi=>rfl)⟩;simp only[St.put,get,pI];by_cases hik:k=i
   .subst hik;simp[hv,hq]
   .have hik':¬i=k:=λe=>hik e.symm;simp[hik,hik']
  by_cases htb:t=b
  .rw[aF (by simp[Region.wanted,g1,hy,htb])];exact .inl (run (h.1 htb) (hput b htb))
  .have htb':t = !b:=by cases t<;>cases b<;>simp_all
   rw[ax (by simp[Region.wanted,g1,hy,htb])];refine hK _ _ w (h.2 htb') ?_;rw[<-hdst];exact HE (hput _ htb') io.dst (λq hq=>by rw[hn];exact hdn q (hdst▸hq)) ()
def A_(hn:c.n=n)(Q:Exit->Act->World->Prop):∀(l:List Oper)(il:List bj),s7 P n ops l=some il->∀(s:St)(K:St->Prop)(a:Act)(w:World),i3 P il s K->cG c s a w ->
  (∀s' a' w',K s'->cG c s' a' w'->Q .normal a' w')->wpList P ops Q l a w
 | [],il,hc,s,K,a,w,h,hs,hQ=>by
  simp only[s7,cI]at hc;subst hc;exact hQ s a w h hs
 | o::r,il,hc,s,K,a,w,h,hs,hQ=>by
  simp only[s7]at hc;split at hc
  case h_2=>cases hc
  rename_i io il' h1 h2;cases hc;unfold wpList;exact vj hn Q h1 h hs λs' a' w' h3 h4=>A_ hn Q r il' h2 s' K a' w' h3 h4 hQ
end
section
variable{g g':Nat->AV}{h h':Nat->Option aj}
def mK{v:IV}(hg:∀k∈aT v,g' k=g k):val g' v=val g v:=by
 cases v with
 | s k=>exact hg k (by simp[aT])
 | c x=>rfl
def pY{l:List IV}(hg:∀v∈l,∀k∈aT v,g' k=g k):l.map (val g')=l.map (val g):=yQ λv hv=>mK (hg v hv)
def L0{v:Option IV}(hg:∀x,v=some x->∀k∈aT x,g' k=g k):v.map (val g')=v.map (val g):=by
 cases v with
 | none=>rfl
 | some x=>simp only[fo];rw[mK (hg x rfl)]
def nP(id st off len:Nat):aI (.ms id st off len)=[id]:=rfl
def Ek(id st row off:Nat):aI (.mp id st row off)=[id]:=rfl
def FP{n:Option Nat}{p:AV}(hh:∀id∈aI p,h' id=h id):lS n p h'=lS n p h:=by
 cases p<;>try rfl
 simp only[lS];rw[hh _ (by simp[Ek])]
def DY{n:Nat}{p x:AV}(hh:∀id∈aI p,h' id=h id):km n p x h'=km n p x h:=by
 unfold km;split
 .rename_i id st row off cs h1;rw[hh id (by simp[Ek])]
 .rfl
def sC{st:Nat}{x:AV}(hh:∀id∈aI x,h' id=h id):fk st h' x=fk st h x:=by
 cases x<;>try rfl
 simp only[fk];rw[hh _ (by simp[nP])]
def Au{d:Nat}{t:TypeId}{st:Nat}{x:AV}{src:Option (List (List AV))}(hh:∀id∈aI x,h' id=h id):pE d t st x src h'=pE d t st x src h:=by
 unfold pE;cases src with
 | none=>rfl
 | some ys =>
  cases x<;>try rfl
  simp only;rw[hh _ (by simp[nP])]
def H1{st:Nat}{x:AV}{src:Option (List (List AV))}(hh:∀id∈aI x,h' id=h id):zD st x src h'=zD st x src h:=by
 unfold zD;cases src with
 | none=>rfl
 | some ys =>
  cases x<;>try rfl
  simp only;rw[hh _ (by simp[nP])]
def H2{x:AV}(hh:∀id∈aI x,h' id=h id):KN x h'=KN x h:=by
 unfold KN;cases x<;>try rfl
 simp only;rw[hh _ (by simp[nP])]
def H4{d:Nat}{k:MK}{xs:List AV}(hh:∀x∈xs,∀id∈aI x,h' id=h id):jn d k xs h'=jn d k xs h:=by
 have hm:∀{id:Nat}{b:Bool}{r:List AV},xs = .mm id b::r->h' id=h id:=λ{id b r} hx=>hh (.mm id b) (by rw[hx];simp) id (by simp[aI,jp,fM,gE]);unfold jn;split<;>first|rfl|(rw[hm rfl])
def DW{ps:List (Nat×Nat×IV)}(hg:∀p∈ps,∀k∈aT p.2.2,g' k=g k):∀cells,lu (val g') cells ps=lu (val g) cells ps:=by
 induction ps with
 | nil=>intro cells;rfl
 | cons p r ih =>
  intro cells;obtain⟨off,n,v⟩:=p;have hv:val g' v=val g v:=mK (hg (off,n,v) (by simp));simp only[lu,hv];cases fX (val g v)with
  | none=>rfl
  | some cs=>simp only[ih (λp hp=>hg p (by simp[hp]))]
def FR{st:Nat}{ps:List (Nat×IV)}(hg:∀p∈ps,∀k∈aT p.2,g' k=g k):∀rows,oQ (val g') st rows ps=oQ (val g) st rows ps:=by
 induction ps with
 | nil=>intro cells;rfl
 | cons p r ih =>
  intro cells;obtain⟨off,v⟩:=p;have hv:val g' v=val g v:=mK (hg (off,v) (by simp));simp only[oQ,hv];cases fX (val g v)with
  | none=>rfl
  | some cs=>simp only[ih (λp hp=>hg p (by simp[hp]))]
def DX{st:Nat}{ps:List (Nat×IV)}(hg:∀p∈ps,∀k∈aT p.2,g' k=g k):∀rows,iV (val g') st rows ps=iV (val g) st rows ps:=by
 induction ps with
 | nil=>intro cells;rfl
 | cons p r ih =>
  intro cells;obtain⟨off,v⟩:=p;have hv:val g' v=val g v:=mK (hg (off,v) (by simp));simp only[iV,hv];cases fX (val g v)with
  | none=>rfl
  | some cs=>simp only[ih (λp hp=>hg p (by simp[hp]))]
def JP{v:IV}{S:List Nat}(hsub:∀k∈aT v,k∈S)(hh:∀k∈S,∀id∈aI (g k),h' id=h id)(hc:∀x,v = .c x->aI x=[]):∀id∈aI (val g v),h' id=h id:=by
 cases v with
 | s k=>intro id hid;exact hh k (hsub k (by simp[aT])) id hid
 | c x=>intro id hid;rw[show val g (.c x)=x from rfl,hc x rfl]at hid;cases hid
def gB{v:IV}(h:jL v=true):∀x,v = .c x->aI x=[]:=by
 rintro x rfl;simpa[jL]using h
def KU{d:Nat}{op:lR}(hg:∀k∈aq op,g' k=g k)(hh:∀k∈aq op,∀id∈aI (g k),h' id=h id)(hc:bK op=true):bQ d op (val g') h'=bQ d op (val g) h:=by
 have v1:∀{v:IV},(∀k∈aT v,k∈aq op)->val g' v=val g v:=λhs=>mK λk hk=>hg k (hs k hk);have vo:∀{v:Option IV},(∀x,v=some x->∀k∈aT x,k∈aq op)->v.map (val g')=v.map (val g):=λhs=>L0 λx hx k hk=>hg k (hs x hx k hk);have hp:∀{v:IV},(∀k∈aT v,k∈aq op)->(∀x,v = .c x->aI x=[])->∀id∈aI (val g v),h' id=h id:=λhs hc=>JP hs hh hc;cases op with
 | mov x=>simp only[bQ];rw[v1 (λk hk=>by simp only[aq];exact hk)]
 | pick c a b =>
  simp only[bQ];rw[v1 (v:=c) (λk hk=>by simp only[aq,gh];simp[hk]),v1 (v:=a) (λk hk=>by simp only[aq,gh];simp[hk]),v1 (v:=b) (λk hk=>by simp only[aq,gh];simp[hk])]
 | new t cs=>rfl
 | box t n x=>simp only[bQ];rw[v1 (λk hk=>by simp only[aq];exact hk)]
 | build cs ps =>
  simp only[bQ];rw[DW (λp hp k hk=>hg k (by simp only[aq,oJ];exact⟨p,hp,hk⟩))]
 | bsl t st rows ps =>
  simp only[bQ];have hl:∀p∈ps,∀k∈aT p.2,g' k=g k:=λp hp k hk=>hg k (by simp only[aq,oJ];exact⟨p,hp,hk⟩);rw[FR hl,DX hl]
 | load n p =>
  have hs:∀k∈aT p,k∈aq (.load n p):=λk hk=>by simp only[aq];exact hk
  simp only[bQ];rw[v1 hs,FP (hp hs (gB hc))]
 | store n p x =>
  simp only[bK,fQ]at hc;have hs:∀k∈aT p,k∈aq (.store n p x):=λk hk=>by simp only[aq,gh];simp[hk]
  have hs2:∀k∈aT x,k∈aq (.store n p x):=λk hk=>by simp only[aq,gh];simp[hk]
  simp only[bQ];rw[v1 hs,v1 hs2,DY (hp hs (gB hc.1))]
 | fadr off p=>simp only[bQ];rw[v1 (λk hk=>by simp only[aq];exact hk)]
 | fld off n x=>simp only[bQ];rw[v1 (λk hk=>by simp only[aq];exact hk)]
 | iadr st x i =>
  simp only[bQ];rw[v1 (v:=x) (λk hk=>by simp only[aq,gh];simp[hk]),v1 (v:=i) (λk hk=>by simp only[aq,gh];simp[hk])]
 | aadr st n x i =>
  simp only[bQ];rw[v1 (v:=x) (λk hk=>by simp only[aq,gh];simp[hk]),v1 (v:=i) (λk hk=>by simp only[aq,gh];simp[hk])]
 | mnx m x y =>
  simp only[bQ];rw[v1 (v:=x) (λk hk=>by simp only[aq,gh];simp[hk]),v1 (v:=y) (λk hk=>by simp only[aq,gh];simp[hk])]
 | cpy st x y =>
  simp only[bK,fQ]at hc;have hs:∀k∈aT x,k∈aq (.cpy st x y):=λk hk=>by simp only[aq,gh];simp[hk]
  have hs2:∀k∈aT y,k∈aq (.cpy st x y):=λk hk=>by simp only[aq,gh];simp[hk]
  simp only[bQ];rw[v1 hs,v1 hs2,sC (hp hs2 (gB hc.2)),H1 (hp hs (gB hc.1))]
 | cvm x =>
  have hs:∀k∈aT x,k∈aq (.cvm x):=λk hk=>by simp only[aq];exact hk
  simp only[bQ];rw[v1 hs,H2 (hp hs (gB hc))]
 | sib x y =>
  simp only[bQ];rw[v1 (v:=x) (λk hk=>by simp only[aq,gh];simp[hk]),v1 (v:=y) (λk hk=>by simp only[aq,gh];simp[hk])]
 | mop k xs =>
  simp only[bK,f_]at hc;have hs:∀x∈xs,∀k'∈aT x,k'∈aq (.mop k xs):=λx hx k' hk=>by simp only[aq,oJ];exact⟨x,hx,hk⟩
  have e1:xs.map (val g')=xs.map (val g):=yQ λx hx=>v1 (hs x hx);simp only[bQ];rw[e1];exact H4 λy hy id hid=>by
   obtain⟨x,hx,rfl⟩:=dN.1 hy;exact hp (hs x hx) (gB (hc x hx)) id hid
 | slc st x lo hi mx =>
  have e:∀{v:Option IV}{k:Nat},k∈kI v↔∃x,v=some x/\k∈aT x:=by
   intro v k;cases v<;>simp[kI]
  simp only[bQ]
  rw[v1 (v:=x) (λk hk=>by simp only[aq,gh];simp[hk]),vo (v:=lo) (λy hy k hk=>by simp only[aq,gh];exact .inl (.inl (.inr (e.2 ⟨y,hy,hk⟩)))),
   vo (v:=hi) (λy hy k hk=>by simp only[aq,gh];exact .inl (.inr (e.2 ⟨y,hy,hk⟩))),vo (v:=mx) (λy hy k hk=>by simp only[aq,gh];exact .inr (e.2 ⟨y,hy,hk⟩))]
 | len x=>simp only[bQ];rw[v1 (λk hk=>by simp only[aq];exact hk)]
 | app t st x y =>
  simp only[bK,fQ]at hc;have hs:∀k∈aT x,k∈aq (.app t st x y):=λk hk=>by simp only[aq,gh];simp[hk]
  have hs2:∀k∈aT y,k∈aq (.app t st x y):=λk hk=>by simp only[aq,gh];simp[hk]
  simp only[bQ];rw[v1 hs,v1 hs2,sC (hp hs2 (gB hc.2)),Au (hp hs (gB hc.1))]
 | slen x=>simp only[bQ];rw[v1 (λk hk=>by simp only[aq];exact hk)]
 | sslc x lo hi =>
  have e:∀{v:Option IV}{k:Nat},k∈kI v↔∃x,v=some x/\k∈aT x:=by
   intro v k;cases v<;>simp[kI]
  simp only[bQ]
  rw[v1 (v:=x) (λk hk=>by simp only[aq,gh];simp[hk]),vo (v:=lo) (λy hy k hk=>by simp only[aq,gh];exact .inl (.inr (e.2 ⟨y,hy,hk⟩))),
   vo (v:=hi) (λy hy k hk=>by simp only[aq,gh];exact .inr (e.2 ⟨y,hy,hk⟩))]
 | apps t x y =>
  simp only[bK,fQ]at hc;have hs:∀k∈aT x,k∈aq (.apps t x y):=λk hk=>by simp only[aq,gh];simp[hk]
  have hs2:∀k∈aT y,k∈aq (.apps t x y):=λk hk=>by simp only[aq,gh];simp[hk]
  simp only[bQ];rw[v1 hs,v1 hs2,Au (hp hs (gB hc.1))]
 | bin op x y =>
  simp only[bQ];rw[v1 (v:=x) (λk hk=>by simp only[aq,gh];simp[hk]),v1 (v:=y) (λk hk=>by simp only[aq,gh];simp[hk])]
 | bbin op x y =>
  simp only[bQ];rw[v1 (v:=x) (λk hk=>by simp only[aq,gh];simp[hk]),v1 (v:=y) (λk hk=>by simp only[aq,gh];simp[hk])]
 | pbin op x y =>
  simp only[bQ];rw[v1 (v:=x) (λk hk=>by simp only[aq,gh];simp[hk]),v1 (v:=y) (λk hk=>by simp only[aq,gh];simp[hk])]
 | sbin op ls x y =>
  simp only[bQ];rw[v1 (v:=x) (λk hk=>by simp only[aq,gh];simp[hk]),v1 (v:=y) (λk hk=>by simp only[aq,gh];simp[hk])]
 | un op x=>simp only[bQ];rw[v1 (λk hk=>by simp only[aq];exact hk)]
 | cvi k' x=>simp only[bQ];rw[v1 (λk hk=>by simp only[aq];exact hk)]
 | cvs x =>
  have hs:∀k∈aT x,k∈aq (.cvs x):=λk hk=>by simp only[aq];exact hk
  simp only[bQ];rw[v1 hs,sC (hp hs (gB hc))]
 | cvt x=>simp only[bQ];rw[v1 (λk hk=>by simp only[aq];exact hk)]
 | cvb t x=>simp only[bQ];rw[v1 (λk hk=>by simp only[aq];exact hk)]
 | call f args=>rfl
 | callv f args=>rfl
 | snl b x=>simp only[bQ];rw[v1 (λk hk=>by simp only[aq];exact hk)]
 | ext x i=>simp only[bQ];rw[v1 (λk hk=>by simp only[aq];exact hk)]
 | nchk x=>simp only[bQ];rw[v1 (λk hk=>by simp only[aq];exact hk)]
 | mkf f caps =>
  simp only[bQ];rw[pY (λv hv k hk=>hg k (by simp only[aq,oJ];exact⟨v,hv,hk⟩))]
 | sidx x i =>
  simp only[bQ];rw[v1 (v:=x) (λk hk=>by simp only[aq,gh];simp[hk]),v1 (v:=i) (λk hk=>by simp only[aq,gh];simp[hk])]
 | mks t st z x y =>
  simp only[bQ];rw[v1 (v:=x) (λk hk=>by simp only[aq,gh];simp[hk]),v1 (v:=y) (λk hk=>by simp only[aq,gh];simp[hk])]
def C_{b:Bool}:∀{l l':List AV},(∀x∈l,∀id∈aI x,h' id=h id)->aR (NY b h) l l'->aR (NY b h') l l'
 | [],[],_,_=>trivial
 | x::l,x'::l',hh,hc=>⟨by
   rcases hc.1 with h1|h1|⟨hb,id,st,off,len,o,h1,h2,h3⟩
   .exact .inl h1
   .exact .inr (.inl h1)
   .refine .inr (.inr ⟨hb,id,st,off,len,o,h1,?_,h3⟩);rw[hh x (by simp) id (by rw[h1];simp[nP])];exact h2,C_ (λy hy=>hh y (by simp[hy])) hc.2⟩
 | [],_::_,_,hc=>hc.elim
 | _::_,[],_,hc=>hc.elim
end
def fv(g:Nat->AV)(d:Option Nat)(x:AV):Nat->AV :=
 match d with
 | some d=>dQ g d x
 | none=>g
def cln(d:Nat)(op:lR)(ρ:IV->AV)(h:Nat->Option aj)(v:AV)(e:aW):Prop:=e = .no/\rG op=true/\∃t st rows,v = .sl st rows/\bQ d op ρ h=some (.ms d st 0 rows.length,.new d ⟨t,st,rows,false⟩)
def qq:lR->Bool
 | .mov _=>true
 | _=>false
def FH(P:Program)[ba P](o:bj)(g:Nat->AV)(h:Nat->Option aj)(v:AV)(e:aW):Prop :=
 match o.op with
 | .call f args=>(e = .no/\aI v=[]/\∃args' b,ah P f args' v/\(∀x∈args',aI x=[])/\aR (NY b h) (args.map (val g)) args'/\(b=true->m0 v=true)) \/
   (∃k ob ob' Sb,e = .put k ob'/\aI v=[]/\aZ P f (args.map (val g)) [(k,ob)] Sb (λr' σ'=>r'=v/\σ'=[(k,ob')])/\Sb k/\h k=some ob/\∃q∈aq o.op,k∈aI (g q)) \/
   ∃d ob st off len Sb,o.dst=some d/\e = .new d ob/\v = .ms d st off len/\ob.isRec=false/\aZ P f (args.map (val g)) [] Sb (λr' σ'=>r'=v/\σ'=[(d,ob)])
 | .callv _ _=>False
 | op=>bQ (o.dst.getD 0) op (val g) h=some (v,e)\/cln (o.dst.getD 0) op (val g) h v e
structure Fin(P:Program)[ba P](o:bj)(g:Nat->AV)(h:Nat->Option aj)(v:AV)(e:aW)(x:HI)(g':Nat->AV)(h':Nat->Option aj):Prop where
 run:FH P o g h v e
 known:∀k∈aq o.op,g k≠.any
 opnd:∀k∈aq o.op,∀id∈aI (g k),id∈x.op\/(qq o.op=true/\id∈x.res)
 alone:¬(x.rb=true/\x.wr=true)->∀i o',e = .reb i o'->∀j q,h j=some q->i∉dZ q
 fresh:∀i o',e = .new i o'->h i=none
 res:∀d,d∈aI v\/d∈e.ids->d∈x.res
 tch:x.tch=e.tch
 rb:x.rb=e.isReb
 wr:x.wr=e.isPut\/(x.rb=true/\x.wr=true)
 hg:g'=fv (e.env g) o.dst v
 hh:h'=e.hp h
 ld:x.ld = .ld->(∃n p,o.op = .load n p)\/(∃n p,o.op = .fadr n p)\/∃p,o.op = .len p
def fA(P:Program)[ba P](o:bj)(g:Nat->AV)(h:Nat->Option aj)(ev:Option (AV×aW))(x:HI)(g':Nat->AV)(h':Nat->Option aj):Prop :=
 match ev with
 | some (v,e)=>(∀k b,o.g=some (k,b)->g k = .bool b)/\Fin P o g h v e x g' h'
 | none=>(∃k b,o.g=some (k,b)/\(g k = .bool (!b)\/g k = .tup []))/\g'=fv g o.dst (.tup [])/\h'=h/\x.tch=[]/\x.rb=false/\x.wr=false
section
variable{P:Program}[ba P]{o:bj}{g g' g1 g2:Nat->AV}{h h' h1 h2:Nat->Option aj}{v:AV}{e:aW}
def FH.local(hr:FH P o g h v e)(hg:∀k∈aq o.op,g' k=g k)(hh:qq o.op=false->∀k∈aq o.op,∀id∈aI (g k),h' id=h id)(hc:bK o.op=true):FH P o g' h' v e:=by
 unfold FH at hr⊢;split at hr
 .rename_i f args hop;rcases hr with⟨h1,h2,args',b,h3,h4,h5,h6⟩|⟨k,ob,ob',Sb,h1,h2,h3,h4,h5,q,h6,h7⟩|⟨d,ob,st,off,len,Sb,h1,h2,h3,h4,h5⟩
  rotate_left 2
  .refine .inr (.inr ⟨d,ob,st,off,len,Sb,h1,h2,h3,h4,?_⟩);rw[hop]at hg;rw[pY (λv hv k hk=>hg k (by simp only[aq,oJ];exact⟨v,hv,hk⟩))];exact h5
  rotate_left
  .refine .inr (.inl ⟨k,ob,ob',Sb,h1,h2,?_,h4,?_,q,h6,by rw[hg q h6];exact h7⟩)
   .rw[hop]at hg;rw[pY (λv hv k hk=>hg k (by simp only[aq,oJ];exact⟨v,hv,hk⟩))];exact h3
   .rw[hh (by rw[hop];rfl) q h6 k h7];exact h5
  refine .inl ⟨h1,h2,args',b,h3,h4,?_,h6⟩;replace hh:=hh (by rw[hop];rfl);rw[hop]at hg hh hc;rw[pY (λv hv k hk=>hg k (by simp only[aq,oJ];exact⟨v,hv,hk⟩))];refine C_ (λx hx id hid=>?_) h5;obtain⟨iv,hiv,rfl⟩:=dN.1 hx;refine JP (S:=aq (.call f args)) (λk hk=>by simp only[aq,oJ];exact⟨iv,hiv,hk⟩) hh ?_ id hid;simp only[bK,f_]at hc;exact gB (hc iv hiv)
 .exact hr
 .rename_i n1 n2;have key:bQ (o.dst.getD 0) o.op (val g') h'=bQ (o.dst.getD 0) o.op (val g) h:=by
   by_cases hmv:qq o.op=true
   .cases ho:o.op with
    | mov x =>
     simp only[bQ];cases x with
     | s k=>rw[show val g' (.s k)=val g (.s k) from hg k (by rw[ho];simp[aq,aT])]
     | c y=>rfl
    | _=>rw[ho]at hmv;cases hmv
   .exact KU hg (hh (by simpa using hmv)) hc
  unfold cln;rw[key];exact hr
def Aj{d:Option Nat}{x:AV}{k:Nat}(hk:d≠some k):fv g d x k=g k:=by
 cases d with
 | none=>rfl
 | some d=>exact bX _ _ (λh=>hk (by rw[h]))
def UL{i:Nat}{x:AV}(hx:i_ i x≠.any):i_ i x=x:=by
 unfold i_ at hx⊢;split
 .rename_i hm;simp[hm]at hx
 .rfl
def Ff{i:Nat}{x:AV}(hx:i∉aI x):i_ i x=x:=by
 unfold i_;rw[ax (λhm=>hx (oe hm))]
def UK{i:Nat}{o:aj}(hx:i∉dZ o):ee i o=o:=by
 unfold ee;split
 .rename_i hr;simp only[dZ,hr,dP,oJ,not_exists,not_and]at hx;have:o.rows.map (λr=>r.map (oA i))=o.rows:=by
   conv=>rhs;rw[<-List.map_id o.rows]
   refine yQ λr hr'=>?_
   conv=>rhs;rw[id,<-List.map_id r]
   refine yQ λy hy=>?_;unfold oA;rw[ax (λhm=>hx r hr' y hy (vm hm))];rfl
  rw[this]
 .rfl
def Ya{i:Nat}{o':aj}(ha:∀j q,h j=some q->i∉dZ q):aW.hp h (.reb i o')=dQ h i (some o'):=by
 funext j;simp only[aW.hp,dQ];split
 .rfl
 .cases hj:h j with
  | none=>rfl
  | some q=>simp only[fo];rw[UK (ha j q hj)]
def L8(i j:Nat)(x:AV):i_ i (i_ j x)=i_ j (i_ i x):=by
 have hany:∀i,mV i .any=false:=λ_=>rfl;unfold i_;by_cases h1:mV i x=true<;>by_cases h2:mV j x=true<;>simp only[h1,h2,hany,dP,jr,fS]
def SE(e e':aW):e.env (e'.env g)=e'.env (e.env g):=by
 cases e<;>cases e'<;>first|rfl|(funext k;exact L8 _ _ _)
def aW.pur(e:aW)(x:AV):AV :=
 match e with
 | .reb i _=>i_ i x
 | _=>x
def Ec(e:aW)(d:Option Nat)(x:AV):e.env (fv g d x)=fv (e.env g) d (e.pur x):=by
 cases d with
 | none=>rfl
 | some d =>
  cases e with
  | reb i o' =>
   funext k;simp only[aW.env,fv,aW.pur,dQ];split<;>rfl
  | _=>rfl
def IW{e:aW}{x:AV}(hx:e.isReb=true->∀d∈e.tch,d∉aI x):e.pur x=x:=by
 cases e with
 | reb i o'=>exact Ff (hx rfl i (by simp[aW.tch]))
 | _=>rfl
def DG{d d':Option Nat}{x x':AV}(hd:∀k,d=some k->d'≠some k):fv (fv g d x) d' x'=fv (fv g d' x') d x:=by
 cases d with
 | none=>rfl
 | some d =>
  cases d' with
  | none=>rfl
  | some d' =>
   have hne:d≠d':=λhh=>hd d rfl (by rw[hh]);funext k;simp only[fv,dQ];by_cases h1:k=d<;>by_cases h2:k=d'<;>simp_all
def JQ(h:Nat->Option aj)(e:aW):Nat->Option aj :=
 match e with
 | .no=>h
 | .put i o=>dQ h i (some o)
 | .new i o=>dQ h i (some o)
 | .reb i o=>dQ h i (some o)
def JR(e:aW)(ha:∀i o',e = .reb i o'->∀j q,h j=some q->i∉dZ q):e.hp h=JQ h e:=by
 cases e with
 | reb i ob=>exact Ya (ha i ob rfl)
 | _=>rfl
def Ei{e:aW}{id:Nat}(hid:id∉e.tch):JQ h e id=h id:=by
 cases e<;>first|rfl|exact bX _ _ (λhh=>hid (by simp[aW.tch,hh]))
def Om{e e':aW}(hd:∀d∈e.tch,d∉e'.tch):JQ (JQ h e) e'=JQ (JQ h e') e:=by
 have key:∀(i j:Nat)(p q:Option aj),i≠j->dQ (dQ h i p) j q=dQ (dQ h j q) i p:=λi j p q hij=>by
  funext k;simp only[dQ];by_cases h1:k=i<;>by_cases h2:k=j<;>simp_all
 cases e<;>cases e'<;>first|rfl|exact key _ _ _ _ (by simpa[aW.tch]using hd)
def X_{e:aW}{j:Nat}{q:aj}(hq:JQ h e j=some q):(h j=some q)\/dZ q=e.ids:=by
 cases e with
 | no=>exact .inl hq
 | put i ob =>
  simp only[JQ,dQ]at hq;split at hq
  .cases hq;exact .inr rfl
  .exact .inl hq
 | new i ob =>
  simp only[JQ,dQ]at hq;split at hq
  .cases hq;exact .inr rfl
  .exact .inl hq
 | reb i ob =>
  simp only[JQ,dQ]at hq;split at hq
  .cases hq;exact .inr rfl
  .exact .inl hq
def R7{d:Nat}{op:lR}{ρ:IV->AV}{j:Nat}{o':aj}(hr:bQ d op ρ h=some (v,.reb j o')):∃q,h j=some q/\q.isRec=false:=by
 have happ:∀{t st x src},pE d t st x src h=some (v,.reb j o')->∃q,h j=some q/\q.isRec=false:=by
  intro t st x src ha;unfold pE at ha;split at ha
  .cases ha
  .split at ha
   .split at ha
    .cases ha
    .split at ha
     .rename_i ob hob;split at ha
      .rename_i hc;cases ha;exact⟨ob,hob,hc.2.2.2.1⟩
      .cases ha
     .cases ha
    .cases ha
   .cases ha
 have hres:∀{y:Option AV},res y≠some (v,.reb j o'):=λhh=>by
  have:=(bG hh).2;cases this
 cases op<;>simp only[bQ]at hr
 case app=>exact happ hr
 case apps=>exact happ hr
 case cpy=>obtain⟨_,_,q⟩:=Av hr;cases q
 case cvm=>obtain⟨_,_,_,_,_,_,_,_,_,_,_,_,q⟩:=rE hr;cases q
 case mop=>rcases wK hr with q|⟨_,q,_⟩|⟨_,_,_,_,_,q⟩<;>cases q
 case bsl=>obtain⟨_,q⟩:=wL hr;cases q
 all_goals
  exfalso
  first
   | exact hres hr
   | (cases hr;done)
   | (simp only[dc,sK]at hr
      obtain⟨e',h1,_,h2⟩:=hr;subst h2;unfold km at h1
      repeat' (split at h1)
      all_goals cases h1)
   | (repeat' (split at hr)
      all_goals first|(cases hr;done)|exact hres hr)
structure MS(x y:HI):Prop where
 a:∀d∈y.tch,d∉x.op/\d∉x.tch
 b:∀d∈x.tch,d∉y.op
 c:x.rb=true->∀d∈x.tch,d∉y.res
 d:y.rb=true->∀d∈y.tch,d∉x.res
 e:¬(x.rb=true/\y.wr=true)
 f:¬(y.rb=true/\x.wr=true)
 g:¬(x.rb=true/\x.wr=true)
 h:¬(y.rb=true/\y.wr=true)
structure aaA(x y:HI):Prop where
 r:x.rb=true
 w:x.wr=true
 op:y.op=[]\/y.ld = .ld
 nop:∀d∈x.tch,d∉y.op
 tch:y.tch=[]
 rb:y.rb=false
 res:∀d∈x.tch,d∉y.res
def Mt(x y:HI):Prop:=MS x y\/aaA x y
def MS.of{x y:HI}(hm:Ez x y=true):MS x y:=by
 simp only[Ez,fQ,f_,B4,yO,Jj,decide_eq_false_iff_not]at hm;obtain⟨⟨⟨⟨⟨⟨⟨h1,h2⟩,h3⟩,h4⟩,h5⟩,h6⟩,h7⟩,h8⟩:=hm;refine⟨h1,h2,λhr=>?_,λhr=>?_,λhr=>?_,λhr=>?_,λhr=>?_,λhr=>?_⟩
 .rcases h3 with h3|h3
  .rw[h3]at hr;cases hr
  .exact h3
 .rcases h4 with h4|h4
  .rw[h4]at hr;cases hr
  .exact h4
 .simp[hr.1,hr.2]at h5
 .simp[hr.1,hr.2]at h6
 .simp[hr.1,hr.2]at h7
 .simp[hr.1,hr.2]at h8
structure CW(o o':bj):Prop where
 a:∀d,o.dst=some d->d∉du o'/\o'.dst≠some d
 b:∀d,o'.dst=some d->d∉du o
def rR(k:Nat)(o:bj)(hk:k∈aq o.op):k∈du o:=by simp[du,hk]
def Bh(k:Nat)(b:Bool)(o:bj)(hk:o.g=some (k,b)):k∈du o:=by simp[du,hk]
def pG(ev:Option (AV×aW)):AV:=match ev with|some (v,_)=>v|none=>.tup []
def d_(ev:Option (AV×aW)):aW:=match ev with|some (_,e)=>e|none=>.no
def jJ(o:bj):List Nat:=match o.g with|some (k,_)=>[k]|none=>[]
def fA.state{ev:Option (AV×aW)}{x:HI}(hs:fA P o g h ev x g' h'):g'=fv ((d_ ev).env g) o.dst (pG ev)/\h'=(d_ ev).hp h/\x.tch=(d_ ev).tch/\x.rb=(d_ ev).isReb/\(¬(x.rb=true/\x.wr=true)->x.wr=(d_ ev).isPut) /\
  (¬(x.rb=true/\x.wr=true)->∀i o',d_ ev = .reb i o'->∀j q,h j=some q->i∉dZ q)/\(∀d,d∈aI (pG ev)\/d∈(d_ ev).ids->d∈x.res)/\(∀i o',d_ ev = .new i o'->h i=none)/\(∀i o',d_ ev = .reb i o'->∃q,h i=some q/\q.isRec=false):=by
 cases ev with
 | none=>obtain⟨_,h1,h2,h3,h4,h5⟩:=hs;exact⟨h1,h2,h3,h4,λ_=>h5,λ_ i o' he=>by simp[d_]at he,λd hd=>by
   rcases hd with hd|hd
   .simp[pG,aI,jp,fM,gE]at hd
   .simp[d_,aW.ids]at hd,λi o' he=>by simp[d_]at he,λi o' he=>by simp[d_]at he⟩
 | some p =>
  obtain⟨v,e⟩:=p;obtain⟨_,hf⟩:=hs;refine⟨hf.hg,hf.hh,hf.tch,hf.rb,λhw=>hf.wr.resolve_right hw,hf.alone,hf.res,hf.fresh,λi o' he=>?_⟩;simp only[d_]at he;subst he;have hr:=hf.run;unfold FH at hr;split at hr
  .rcases hr with hr|⟨_,_,_,_,hr,_⟩|⟨_,_,_,_,_,_,_,hr,_⟩
   .cases hr.1
   .cases hr
   .cases hr
  .exact hr.elim
  .rcases hr with hr|⟨hr,_⟩
   .exact R7 hr
   .cases hr
def fA.local{ev:Option (AV×aW)}{x:HI}(hs:fA P o g h ev x g' h')(hg:∀k∈jJ o,g1 k=g k)(hg2:ev.isSome=true->∀k∈aq o.op,g1 k=g k)(hh:ev.isSome=true->qq o.op=false->∀k∈aq o.op,∀id∈aI (g k),h1 id=h id)(hc:bK o.op=true)
  (ha:¬(x.rb=true/\x.wr=true)->∀i o',d_ ev = .reb i o'->∀j q,h1 j=some q->i∉dZ q) (hn:∀i o',d_ ev = .new i o'->h1 i=none):fA P o g1 h1 ev x (fv ((d_ ev).env g1) o.dst (pG ev)) ((d_ ev).hp h1):=by
 cases ev with
 | none =>
  obtain⟨⟨k,b,h2,h3⟩,_,_,h4⟩:=hs;exact⟨⟨k,b,h2,by rw[hg k (by simp[jJ,h2])];exact h3⟩,rfl,rfl,h4⟩
 | some p =>
  obtain⟨v,e⟩:=p;obtain⟨h2,hf⟩:=hs;refine⟨λk b hk=>by rw[hg k (by simp[jJ,hk])];exact h2 k b hk,⟨?_,λk hk=>?_,λk hk id hid=>?_,ha,hn,hf.res,hf.tch,hf.rb,hf.wr,rfl,rfl,hf.ld⟩⟩
  .exact hf.run.local (hg2 rfl) (hh rfl) hc
  .rw[hg2 rfl k hk];exact hf.known k hk
  .rw[hg2 rfl k hk]at hid;exact hf.opnd k hk id hid
def aeH{m i:bj}{evm evi:Option (AV×aW)}{y x:HI}(hm:fA P m g h evm y g1 h1)(hi:fA P i g1 h1 evi x g2 h2)(hap:CW m i)(hmt:MS x y)(hcm:bK m.op=true)(hci:bK i.op=true) :
  ∃g3 h3,fA P i g h evi x g3 h3/\fA P m g3 h3 evm y g2 h2:=by
 obtain⟨gm,hhm,tm,rm,wm,am,resm,fm,bm⟩:=hm.state;obtain⟨gi,hhi,ti,ri,wi,ai,resi,fi,bi⟩:=hi.state;replace wm:=wm hmt.h;replace am:=am hmt.h;replace wi:=wi hmt.g;replace ai:=ai hmt.g;rw[JR _ am]at hhm;rw[JR _ ai]at hhi;have same:∀id,id∉(d_ evm).tch->h1 id=h id:=λid hid=>by rw[hhm];exact Ei hid
 have gsub:∀(o:bj) k,k∈jJ o->k∈du o:=λo k hk=>by
  unfold jJ at hk;split at hk
  .rename_i k' b hg;simp at hk;subst hk;exact Bh k b o hg
  .simp at hk
 have gval:∀{o:bj}{g h ev x g' h'},fA P o g h ev x g' h'->∀k∈jJ o,(∃b,g k = .bool b)\/g k = .tup []:=by
  intro o g h ev x g' h' hs k hk;unfold jJ at hk;split at hk
  .rename_i k' b hg;simp at hk;subst hk;cases ev with
   | none=>obtain⟨⟨k2,b2,h3,h4⟩,_⟩:=hs;rw[hg]at h3;cases h3;exact h4.imp (λh=>⟨_,h⟩) (λh=>h)
   | some p=>exact .inl ⟨b,hs.1 k b hg⟩
  .simp at hk
 have keep1:∀k,k∈du i->g1 k≠.any->g1 k=g k:=λk hk hna=>by
  rw[gm]at hna⊢;have e1:fv ((d_ evm).env g) m.dst (pG evm) k=(d_ evm).env g k:=Aj (λhdk=>(hap.a k hdk).1 hk);rw[e1]at hna⊢;cases he:d_ evm with
  | reb q ob=>rw[he]at hna;exact UL hna
  | _=>rfl
 have rdg:∀k∈jJ i,g k=g1 k:=λk hk=>by
  rcases gval hi k hk with⟨b,hb⟩|hb<;>exact(keep1 k (gsub i k hk) (by rw[hb];simp)).symm
 have rdo:evi.isSome=true->∀k∈aq i.op,g k=g1 k:=λhs k hk=>by
  obtain⟨p,rfl⟩:=FC.1 hs;exact(keep1 k (rR k i hk) (hi.2.known k hk)).symm
 have rdh:evi.isSome=true->qq i.op=false->∀k∈aq i.op,∀id∈aI (g1 k),h id=h1 id:=λhs hmv k hk id hid=>by
  obtain⟨p,rfl⟩:=FC.1 hs;refine(same id (λht=>?_)).symm;rw[<-tm]at ht;rcases hi.2.opnd k hk id hid with q|⟨q,_⟩
  .exact(hmt.a id ht).1 q
  .rw[hmv]at q;cases q
 have ai':∀q o',d_ evi = .reb q o'->∀j p,h j=some p->q∉dZ p:=λq o' he j p hp=>by
  by_cases hj:j∈(d_ evm).tch
  .cases hem:d_ evm with
   | no=>rw[hem]at hj;simp[aW.tch]at hj
   | put j' ob =>
    exfalso;refine hmt.e ⟨by rw[ri,he];rfl,by rw[wm,hem];rfl⟩
   | new j' ob =>
    rw[hem]at hj;simp[aW.tch]at hj;subst hj;rw[fm j ob hem]at hp;cases hp
   | reb j' ob =>
    rw[hem]at hj;simp[aW.tch]at hj;subst hj;obtain⟨q',h3,h4⟩:=bm j ob hem;rw[hp]at h3;cases h3;simp[dZ,h4]
  .exact ai q o' he j p (by rw[same j hj];exact hp)
 have fi':∀q o',d_ evi = .new q o'->h q=none:=λq o' he=>by
  rw[<-same q (λht=>by
   rw[<-tm]at ht;exact(hmt.a q ht).2 (by rw[ti,he];simp[aW.tch]))]
  exact fi q o' he
 have s1:=hi.local rdg rdo rdh hci (λ_=>ai') fi';rw[JR _ ai']at s1;refine⟨_,_,s1,?_⟩;have keep2:∀k,k∈du m->((d_ evi).isReb=true->∀d∈(d_ evi).tch,d∉aI (g k))->fv ((d_ evi).env g) i.dst (pG evi) k=g k:=λk hk hno=>by
  have e1:fv ((d_ evi).env g) i.dst (pG evi) k=(d_ evi).env g k:=Aj (λhdk=>hap.b k hdk hk);rw[e1];cases he:d_ evi with
  | reb q ob=>exact Ff (hno (by rw[he];rfl) q (by rw[he];simp[aW.tch]))
  | _=>rfl
 have opm:evm.isSome=true->∀k∈aq m.op,∀d∈(d_ evi).tch,d∈aI (g k)->qq m.op=true/\d∈y.res:=λhs k hk d hd hid=>by
  obtain⟨p,rfl⟩:=FC.1 hs;rcases hm.2.opnd k hk d hid with q|q
  .exact absurd q (hmt.b d (by rw[ti];exact hd))
  .exact q
 have am2:∀q o',d_ evm = .reb q o'->∀j p,JQ h (d_ evi) j=some p->q∉dZ p:=λq o' he j p hp=>by
   rcases X_ hp with h3|h3
   .exact am q o' he j p h3
   .rw[h3];intro hq;exact hmt.d (by rw[rm,he];rfl) q (by rw[tm,he];simp[aW.tch]) (resi q (.inr hq))
 have s2:=hm.local (g1:=fv ((d_ evi).env g) i.dst (pG evi)) (h1:=JQ h (d_ evi)) (λk hk=>keep2 k (gsub m k hk) (λ_ d _=>by
   rcases gval hm k hk with⟨b,hb⟩|hb<;>rw[hb]<;>simp[aI,jp,fM,gE])) (λhs k hk=>keep2 k (rR k m hk) (λhr d hd hid=>hmt.c (by rw[ri];exact hr) d (by rw[ti];exact hd) (opm hs k hk d hd hid).2)) (λhs hmv k hk id hid=>Ei (λht=>by
   have:=(opm hs k hk id ht hid).1
   rw[hmv]at this;cases this)) hcm (λ_=>am2) (λq o' he=>by
   rw[Ei (λht=>(hmt.a q (by rw[tm,he];simp[aW.tch])).2 (by rw[ti];exact ht))];exact fm q o' he)
 rw[JR _ am2]at s2;have eg:fv ((d_ evm).env (fv ((d_ evi).env g) i.dst (pG evi))) m.dst (pG evm)=g2:=by
  rw[gi,gm,Ec,Ec,SE (d_ evi) (d_ evm)];rw[IW (e:=d_ evm) (x:=pG evi) (λhr d hd hid=>hmt.d (by rw[rm];exact hr) d (by rw[tm];exact hd) (resi d (.inl hid)))];rw[IW (e:=d_ evi) (x:=pG evm) (λhr d hd hid=>hmt.c (by rw[ri];exact hr) d (by rw[ti];exact hd) (resm d (.inl hid)))];exact DG (λk hk hk'=>(hap.a k hk').2 hk)
 have eh:JQ (JQ h (d_ evi)) (d_ evm)=h2:=by
  rw[hhi,hhm];exact Om (λd hd hd'=>(hmt.a d (by rw[tm];exact hd')).2 (by rw[ti];exact hd))
 rw[eg,eh]at s2;exact s2
def T7{i:Nat}{v:AV}(h:mC i v=true):i∈aI v:=by
 cases v<;>first|exact vm h|(simp[mC,mP]at h;done)
def TV{n:Option Nat}{r:List AV}{off i:Nat}{v:AV}(hl:ww n (r.drop off)=some v)(hv:i∉aI v):ww n ((r.map (oA i)).drop off)=some v:=by
 rw[<-List.map_drop];generalize r.drop off=q at hl;cases n with
 | none =>
  simp only[ww,fR]at hl⊢;rw[hl];simp only[fo,oA];rw[ax (λhm=>hv (T7 hm))]
 | some n =>
  simp only[ww,bP]at hl⊢;split at hl
  case isFalse=>cases hl
  rename_i hn;cases hl;rw[aF hn,<-List.map_take];congr 2;have:∀x∈q.take n,oA i x=x:=λx hx=>by
   unfold oA;rw[ax (λhm=>hv (by simp only[aI,jp,oJ];exact⟨x,hx,vm hm⟩))]
  exact(yQ this).trans (List.map_id _)
def Nc{n:Option Nat}{x:AV}{v:AV}{e:aW}(hl:lS n x h=some v)(hx:∀d∈e.tch,d∉aI x)(hv:∀d∈e.tch,d∉aI v):lS n x (e.hp h)=some v:=by
 cases x<;>try exact hl
 case mp id st row off =>
  have key:∀i,i∈e.tch->id≠i:=λi hi hid=>hx i hi (by subst hid;simp[aI,jp,fM,gE]);cases e with
  | no=>exact hl
  | put i o=>simp only[lS,aW.hp,dQ,ax (key i (by simp[aW.tch]))]at hl⊢;exact hl
  | new i o=>simp only[lS,aW.hp,dQ,ax (key i (by simp[aW.tch]))]at hl⊢;exact hl
  | reb i o =>
   simp only[lS,aW.hp,dQ,ax (key i (by simp[aW.tch]))]at hl⊢;split at hl
   case h_2=>cases hl
   rename_i o1 ho1;rw[ho1];simp only[fo,Ai];split at hl
   case isFalse=>cases hl
   rename_i hst;rw[aF hst];split at hl
   case h_2=>cases hl
   rename_i r hr;have hrow:(ee i o1).rows[row]?=some (if o1.isRec=true then r.map (oA i)else r):=by
    unfold ee;by_cases hrec:o1.isRec=true
    .simp only[hrec,dP,fR,hr,fo]
    .simp only[hrec];simpa using hr
   rw[hrow];show ww n ((if o1.isRec=true then r.map (oA i)else r).drop off)=some v;by_cases hrec:o1.isRec=true
   .rw[aF hrec];exact TV hl (hv i (by simp[aW.tch]))
   .rw[ax hrec];exact hl
def acL{m i:bj}{evm evi:Option (AV×aW)}{y x:HI}(hm:fA P m g h evm y g1 h1)(hi:fA P i g1 h1 evi x g2 h2)(hap:CW m i)(hw:aaA x y)(hcm:bK m.op=true)(hci:bK i.op=true) :
  ∃g3 h3,fA P i g h evi x g3 h3/\fA P m g3 h3 evm y g2 h2:=by
 obtain⟨gm,hhm,tm,rm,wm,am,resm,fm,bm⟩:=hm.state;obtain⟨gi,hhi,ti,ri,wi,ai,resi,fi,bi⟩:=hi.state;have em:d_ evm = .no:=by
  rw[hw.tch]at tm;cases he:d_ evm<;>first|rfl|(rw[he]at tm;cases tm)
 have hh1:h1=h:=by rw[hhm,em];rfl
 have gg1:g1=fv g m.dst (pG evm):=by rw[gm,em];rfl
 have gsub:∀(o:bj) k,k∈jJ o->k∈du o:=λo k hk=>by
  unfold jJ at hk;split at hk
  .rename_i k' b hg;simp at hk;subst hk;exact Bh k b o hg
  .simp at hk
 have keep1:∀k,k∈du i->g k=g1 k:=λk hk=>by
  rw[gg1];exact(Aj (λhdk=>(hap.a k hdk).1 hk)).symm
 have s1:=hi.local (g1:=g) (h1:=h) (λk hk=>keep1 k (gsub i k hk)) (λ_ k hk=>keep1 k (rR k i hk)) (λ_ _ k hk id hid=>by rw[hh1]) hci (λhn=>absurd ⟨hw.r,hw.w⟩ hn) (λq o' he=>by
  rw[he]at ri;rw[hw.r]at ri;cases ri)
 refine⟨_,_,s1,?_⟩;have keep2:∀k,k∈du m->(∀d∈(d_ evi).tch,d∉aI (g k))->fv ((d_ evi).env g) i.dst (pG evi) k=g k:=λk hk hno=>by
  have e1:fv ((d_ evi).env g) i.dst (pG evi) k=(d_ evi).env g k:=Aj (λhdk=>hap.b k hdk hk);rw[e1];cases he:d_ evi with
  | reb q ob=>exact Ff (hno q (by rw[he];simp[aW.tch]))
  | _=>rfl
 have gval:∀k∈jJ m,(∃b,g k = .bool b)\/g k = .tup []:=λk hk=>by
  unfold jJ at hk;split at hk
  .rename_i k' b hg;simp at hk;subst hk;cases evm with
   | none=>obtain⟨⟨k2,b2,h3,h4⟩,_⟩:=hm;rw[hg]at h3;cases h3;exact h4.imp (λh=>⟨_,h⟩) (λh=>h)
   | some p=>exact .inl ⟨b,hm.1 k b hg⟩
  .simp at hk
 have s2:fA P m (fv ((d_ evi).env g) i.dst (pG evi)) ((d_ evi).hp h) evm y (fv ((d_ evm).env (fv ((d_ evi).env g) i.dst (pG evi))) m.dst (pG evm)) ((d_ evm).hp ((d_ evi).hp h)):=by
  have kg:∀k∈jJ m,fv ((d_ evi).env g) i.dst (pG evi) k=g k:=λk hk=>keep2 k (gsub m k hk) (λd _=>by
   rcases gval k hk with⟨b,hb⟩|hb<;>rw[hb]<;>simp[aI,jp,fM,gE])
  rcases hw.op with hop|hld
  .have opm:evm.isSome=true->∀k∈aq m.op,∀d,d∈aI (g k)->qq m.op=true/\d∈y.res:=λhs k hk d hid=>by
    obtain⟨p,rfl⟩:=FC.1 hs;rcases hm.2.opnd k hk d hid with q|q
    .rw[hop]at q;cases q
    .exact q
   exact hm.local (g1:=fv ((d_ evi).env g) i.dst (pG evi)) (h1:=(d_ evi).hp h) kg (λhs k hk=>keep2 k (rR k m hk) (λd hd hid=>hw.res d (by rw[ti];exact hd) (opm hs k hk d hid).2)) (λhs hmv k hk id hid=>by
    have:=(opm hs k hk id hid).1;rw[hmv]at this;cases this) hcm (λ_ q o' he=>by rw[em]at he;cases he) (λq o' he=>by rw[em]at he;cases he)
  .cases evm with
   | none=>exact hm.local (g1:=fv ((d_ evi).env g) i.dst (pG evi)) (h1:=(d_ evi).hp h) kg (λhs=>by cases hs) (λhs=>by cases hs) hcm (λ_ q o' he=>by cases he) (λq o' he=>by cases he)
   | some p =>
    obtain⟨v,e⟩:=p;obtain⟨hgd,hf⟩:=hm;have hop':=hf.ld hld;have hmv:¬qq m.op=true:=λq=>by rcases hop' with⟨_,_,h⟩|⟨_,_,h⟩|⟨_,h⟩<;>rw[h]at q<;>cases q
    have he:e = .no:=em;subst he;have ids2:∀k∈aq m.op,∀d∈(d_ evi).tch,d∉aI (g k):=λk hk d hd hid=>by
     rcases hf.opnd k hk d hid with q|⟨q,_⟩
     .exact hw.nop d (by rw[ti];exact hd) q
     .exact hmv q
    have ko:∀k∈aq m.op,fv ((d_ evi).env g) i.dst (pG evi) k=g k:=λk hk=>keep2 k (rR k m hk) (ids2 k hk);have hr:=hf.run;refine⟨λk b hk=>by rw[kg k (by simp[jJ,hk])];exact hgd k b hk,⟨?_,λk hk=>by rw[ko k hk];exact hf.known k hk,λk hk id hid=>hf.opnd k hk id (by rw[ko k hk]at hid;exact hid),(λ_ q o' he=>by cases he),(λq o' he=>by cases he),hf.res,hf.tch,hf.rb,hf.wr,rfl,rfl,hf.ld⟩⟩;have hvl:∀p:IV,(∀k∈aT p,k∈aq m.op)->val (fv ((d_ evi).env g) i.dst (pG evi)) p=val g p:=λp hp=>by
     cases p with
     | s k=>exact ko k (hp k (by simp[aT]))
     | c x=>rfl
    unfold FH at hr⊢;rcases hop' with⟨n,p,hop⟩|⟨n,p,hop⟩|⟨p,hop⟩
    rotate_left
    .rw[hop]at hr⊢;simp only at hr⊢;rcases hr with hr|hr
     .refine .inl ?_;simp only[bQ]at hr⊢;rw[hvl p (λk hk=>by rw[hop];exact hk)];exact hr
     .cases hr.2.1
    .rw[hop]at hr⊢;simp only at hr⊢;rcases hr with hr|hr
     .refine .inl ?_;simp only[bQ]at hr⊢;rw[hvl p (λk hk=>by rw[hop];exact hk)];exact hr
     .cases hr.2.1
    rw[hop]at hr⊢;simp only at hr⊢;rcases hr with hr|hr
    .refine .inl ?_;simp only[bQ,Mw.res,dc,sK,and_true]at hr⊢;obtain⟨v',hl,hv'⟩:=hr;subst hv';have hvp:val (fv ((d_ evi).env g) i.dst (pG evi)) p=val g p/\∀d∈(d_ evi).tch,d∉aI (val g p):=by
      cases p with
      | s k =>
       have hk:k∈aq m.op:=by rw[hop];simp[aq,aT]
       exact⟨ko k hk,ids2 k hk⟩
      | c x =>
       have hc:aI x=[]:=by
        rw[hop]at hcm;simpa[bK,jL]using hcm
       exact⟨rfl,λd _=>by show d∉aI x;rw[hc];simp⟩
     exact⟨v',by rw[hvp.1];exact Nc hl hvp.2 (λd hd hid=>hw.res d (by rw[ti];exact hd) (hf.res d (.inl hid))),rfl⟩
    .cases hr.2.1
 have eg:fv ((d_ evm).env (fv ((d_ evi).env g) i.dst (pG evi))) m.dst (pG evm)=g2:=by
  rw[gi,gg1,em];show fv (fv ((d_ evi).env g) i.dst (pG evi)) m.dst (pG evm)=_;rw[Ec];rw[IW (e:=d_ evi) (x:=pG evm) (λhr d hd hid=>hw.res d (by rw[ti];exact hd) (resm d (.inl hid)))];exact DG (λk hk hk'=>(hap.a k hk').2 hk)
 have eh:(d_ evm).hp ((d_ evi).hp h)=h2:=by rw[em,hhi,hh1];rfl
 rw[eg,eh]at s2;exact s2
def acK{m i:bj}{evm evi:Option (AV×aW)}{y x:HI}(hm:fA P m g h evm y g1 h1)(hi:fA P i g1 h1 evi x g2 h2)(hap:CW m i)(hmt:Mt x y)(hcm:bK m.op=true)(hci:bK i.op=true) :
  ∃g3 h3,fA P i g h evi x g3 h3/\fA P m g3 h3 evm y g2 h2:=by
 rcases hmt with h|h
 .exact aeH hm hi hap h hcm hci
 .exact acL hm hi hap h hcm hci
end
structure Item where
 i:Nat
 bef:List Nat
 o:bj
 ev:Option (AV×aW)
 x:HI
def T(P:Program)[ba P]:List Item->(Nat->AV)->(Nat->Option aj)->(Nat->AV)->(Nat->Option aj)->Prop
 | [],g,h,g',h'=>g'=g/\h'=h
 | t::R,g,h,g',h'=>∃g1 h1,fA P t.o g h t.ev t.x g1 h1/\T P R g1 h1 g' h'
section
variable{P:Program}[ba P]
def V1:∀(A:List Item)(t:Item)(B:List Item)(g:Nat->AV)(h:Nat->Option aj)(g':Nat->AV)(h':Nat->Option aj),T P (A++t::B) g h g' h' ->
  (∀m∈A,CW m.o t.o/\Mt t.x m.x)->(∀m∈A,bK m.o.op=true)->bK t.o.op=true->∃g1 h1,fA P t.o g h t.ev t.x g1 h1/\T P (A++B) g1 h1 g' h'
 | [],t,B,g,h,g',h',ht,_,_,_=>ht
 | m::A,t,B,g,h,g',h',ht,hm,hc,hct=>by
  obtain⟨g1,h1,s1,ht⟩:=ht;obtain⟨g2,h2,s2,ht⟩:=V1 A t B g1 h1 g' h' ht (λq hq=>hm q (by simp[hq])) (λq hq=>hc q (by simp[hq])) hct;obtain⟨q1,q2⟩:=hm m (by simp);obtain⟨g3,h3,s3,s4⟩:=acK s1 s2 q1 q2 (hc m (by simp)) hct;exact⟨g3,h3,s3,g2,h2,s4,ht⟩
def Ca(al:List (Nat×Nat)):List HI->List Item->Prop
 | _,[]=>True
 | hist,t::R=>t.x.i=t.i/\(∀y∈hist,y.i∈t.bef\/Mt t.x y)/\(∀d,d∈aI (pG t.ev)\/d∈(d_ t.ev).ids->∀m,(d,m)∈al->m=t.i\/m∈t.bef)/\Ca al (t.x::hist) R
def fC{bef:List Nat}{x:HI}{hist:List HI}(hh:fY bef x hist=true):∀y∈hist,y.i∈bef\/Mt x y:=λy hy=>by
 have:=f_.1 hh y hy;simp only[B4,Jj,tT]at this;exact this.imp id λh=>.inl (MS.of h)
def ng{al:List (Nat×Nat)}{bef:List Nat}{x:HI}(hh:qF al bef x=true):∀d∈x.res,∀m,(d,m)∈al->m=x.i\/m∈bef:=λd hd m hm=>by
 have:=f_.1 hh (d,m) hm;simp only[B4,Jj,tT,yO,decide_eq_false_iff_not,beq_iff_eq]at this;rcases this with(h1|h1)|h1
 .exact absurd hd h1
 .exact .inl h1
 .exact .inr h1
def iT(s:St)(d:Option Nat)(x:AV):get (s.put d x).env=fv (get s.env) d x:=by
 funext k;cases d with
 | none=>rfl
 | some d =>
  simp only[St.put,get,fv,dQ,pI];by_cases hk:k=d
  .subst hk;simp
  .simp[hk,Ne.symm hk]
def fh(s:St)(d:Option Nat)(x:AV):(s.put d x).heap=s.heap:=by cases d<;>rfl
def eA{o:lR}{s:St}{e:aW}(hp:dF o s e=true):(∀k∈aq o,get s.env k≠.any)/\∀i o',e = .reb i o'->∀j q,ae s.heap j=some q->i∉dZ q:=by
 simp only[dF,fQ,f_,B4,yO]at hp;refine⟨λk hk he=>?_,λi o' he j q hq=>?_⟩
 .have:=hp.1 k hk;rw[he]at this;cases this
 .subst he;rcases hp.2 with h1|h1
  .cases h1
  .have hmem:∀{σ:List (Nat×aj)},ae σ j=some q->(j,q)∈σ:=by
    intro σ
    induction σ with
    | nil=>intro hi;simp[ae]at hi
    | cons p l ih =>
     intro hi;obtain⟨k,x⟩:=p;simp only[ae]at hi;split at hi
     .rename_i hk;cases hi;subst hk;simp
     .exact List.mem_cons_of_mem _ (ih hi)
   have:=h1 i (by simp[aW.tch]) (j,q) (hmem hq);simpa using this
def Un(al:List (Nat×Nat))(p:Nat->Prop)(g:Nat->AV)(h:Nat->Option aj):Prop:=∀d m,(d,m)∈al->p m->h d=none/\cN d g h
def zZ{d:Nat}{op:lR}{ρ:IV->AV}{h:Nat->Option aj}{v:AV}{i:Nat}{ob:aj}(hr:bQ d op ρ h=some (v,.new i ob)):rG op=true/\i=d:=by
 have happ:∀{t st x src},pE d t st x src h=some (v,.new i ob)->i=d:=by
  intro t st x src ha;unfold pE at ha;split at ha
  .cases ha
  .split at ha
   .split at ha
    .cases ha;rfl
    .split at ha
     .split at ha<;>cases ha
     .cases ha
    .cases ha
   .cases ha
 have hres:∀{y:Option AV},res y≠some (v,.new i ob):=λhh=>by
  have:=(bG hh).2;cases this
 cases op<;>simp only[bQ]at hr
 case app=>exact⟨rfl,happ hr⟩
 case apps=>exact⟨rfl,happ hr⟩
 case new=>cases hr;exact⟨rfl,rfl⟩
 case box =>
  split at hr
  .split at hr
   .cases hr;exact⟨rfl,rfl⟩
   .cases hr
  .cases hr
 case bsl=>obtain⟨_,q⟩:=wL hr;cases q;exact⟨rfl,rfl⟩
 case cvb =>
  split at hr
  .split at hr
   .cases hr;exact⟨rfl,rfl⟩
   .cases hr
  .cases hr
 case mks =>
  split at hr
  .split at hr
   .cases hr;exact⟨rfl,rfl⟩
   .cases hr
  .cases hr
 case mop =>
  rcases wK hr with q|⟨_,q,q2⟩|⟨_,_,_,_,_,q⟩<;>cases q;rcases q2 with rfl|rfl|rfl<;>exact⟨rfl,rfl⟩
 all_goals
  exfalso
  first
   | (obtain⟨_,_,q⟩:=Av hr;cases q;done)
   | (obtain⟨_,_,_,_,_,_,_,_,_,_,_,_,q⟩:=rE hr;cases q;done)
   | exact hres hr
   | (cases hr;done)
   | (simp only[dc,sK]at hr
      obtain⟨e',h1,_,h2⟩:=hr;subst h2;unfold km at h1
      repeat' (split at h1)
      all_goals cases h1)
   | (repeat' (split at hr)
      all_goals first|(cases hr;done)|exact hres hr)
def R8{d:Nat}{op:lR}{g:Nat->AV}{h:Nat->Option aj}{v:AV}{e:aW}(hr:bQ d op (val g) h=some (v,e))(hc:bK op=true):∀i∈e.tch,(∃ob,e = .new i ob)\/∃k∈aq op,i∈aI (g k):=by
 have iv:∀{x:IV}{i:Nat},jL x=true->i∈aI (val g x)->(∀k∈aT x,k∈aq op)->∃k∈aq op,i∈aI (g k):=by
  intro x i hx hi hs;cases x with
  | s k=>exact⟨k,hs k (by simp[aT]),hi⟩
  | c y=>simp[jL]at hx;rw[show val g (.c y)=y from rfl,hx]at hi;cases hi
 have happ:∀{t st src} {x:IV},jL x=true->(∀k∈aT x,k∈aq op)->pE d t st (val g x) src h=some (v,e)->∀i∈e.tch,(∃ob,e = .new i ob)\/∃k∈aq op,i∈aI (g k):=by
  intro t st src x hx hs ha i hi;unfold pE at ha;split at ha
  .cases ha
  .split at ha
   .split at ha
    .cases ha;simp[aW.tch]at hi;subst hi;exact .inl ⟨_,rfl⟩
    .rename_i hv;split at ha
     .split at ha
      .cases ha;simp[aW.tch]at hi;subst hi;exact .inr (iv hx (by rw[hv];simp[nP]) hs)
      .cases ha
     .cases ha
    .cases ha
   .cases ha
 intro i hi;cases e with
 | no=>simp[aW.tch]at hi
 | new j ob=>simp[aW.tch]at hi;subst hi;exact .inl ⟨_,rfl⟩
 | put j ob =>
  cases op<;>simp only[bQ]at hr
  case store n p x =>
   simp only[bK,fQ]at hc;simp only[dc,sK]at hr;obtain⟨e',h1,_,h2⟩:=hr;subst h2;unfold km at h1;split at h1
   .rename_i id st row off cs hv _;refine .inr (iv hc.1 ?_ (λk hk=>by simp only[aq,gh];exact .inl hk));rw[hv]
    repeat' (split at h1)
    all_goals first|(cases h1;done)|skip
    cases h1;simp[aW.tch]at hi;simp[Ek,hi]
   .cases h1
  case cvm x =>
   simp only[bK]at hc;obtain⟨id,st,off,len,ob',q1,_,_,_,_,_,_,q2⟩:=rE hr;cases q2;simp[aW.tch]at hi;exact .inr (iv hc (by rw[q1];simp[nP,hi]) (λk hk=>by simp only[aq];exact hk))
  case mop k xs =>
   simp only[bK,f_]at hc;rcases wK hr with q|⟨_,q,q2⟩|⟨id,b,r,o,q1,q⟩<;>cases q;simp[aW.tch]at hi;subst hi;cases xs with
   | nil=>cases q1
   | cons x xs =>
    simp only[bY,List.cons.injEq]at q1;exact .inr (iv (hc x (by simp)) (by rw[q1.1];simp[aI,jp,fM,gE]) (λk hk=>by simp only[aq,jd,gh];exact .inl hk))
  case cpy st x y =>
   simp only[bK,fQ]at hc;unfold zD at hr;split at hr
   .cases hr
   .split at hr
    .rename_i hv;refine .inr (iv hc.1 ?_ (λk hk=>by simp only[aq,gh];exact .inl hk));rw[hv]
     repeat' (split at hr)
     all_goals first|(cases hr;done)|skip
     all_goals
      cases hr;simp[aW.tch]at hi;simp[nP,hi]
    .cases hr
  case app t st x y=>simp only[bK,fQ]at hc;exact happ hc.1 (λk hk=>by simp only[aq,gh];exact .inl hk) hr i hi
  case apps t x y=>simp only[bK,fQ]at hc;exact happ hc.1 (λk hk=>by simp only[aq,gh];exact .inl hk) hr i hi
  all_goals
   exfalso
   first
    | (obtain⟨_,q⟩:=wL hr;cases q;done)
    | exact absurd (bG hr).2 (by simp)
    | (cases hr;done)
    | (repeat' (split at hr)
       all_goals first|(cases hr;done)|exact absurd (bG hr).2 (by simp))
 | reb j ob =>
  cases op<;>simp only[bQ]at hr
  case app t st x y=>simp only[bK,fQ]at hc;exact happ hc.1 (λk hk=>by simp only[aq,gh];exact .inl hk) hr i hi
  case apps t x y=>simp only[bK,fQ]at hc;exact happ hc.1 (λk hk=>by simp only[aq,gh];exact .inl hk) hr i hi
  all_goals
   exfalso
   first
    | (obtain⟨_,_,q⟩:=Av hr;cases q;done)
    | (obtain⟨_,_,_,_,_,_,_,_,_,_,_,_,q⟩:=rE hr;cases q;done)
    | (rcases wK hr with q|⟨_,q,_⟩|⟨_,_,_,_,_,q⟩<;>cases q;done)
    | (obtain⟨_,q⟩:=wL hr;cases q;done)
    | exact absurd (bG hr).2 (by simp)
    | (cases hr;done)
    | (simp only[dc,sK]at hr
       obtain⟨e',h1,_,h2⟩:=hr;subst h2;unfold km at h1
       repeat' (split at h1)
       all_goals cases h1)
    | (repeat' (split at hr)
       all_goals first|(cases hr;done)|exact absurd (bG hr).2 (by simp))
end
def OI{i:Nat}{x:AV}(h:i∈gE x):mP i x=true:=by cases x<;>simp_all [mP,gE]
def OG{i:Nat}{x:AV}(h:i∈fM x):mC i x=true:=by
 cases x with
 | fn f caps =>
  simp only[fM,oJ]at h;obtain⟨y,h1,h2⟩:=h;simp only[mC,zX];exact⟨y,h1,OI h2⟩
 | _=>simp only[fM]at h;simpa only[mC]using OI h
def OH{i:Nat}{x:AV}(h:i∈jp x):mG i x=true:=by
 cases x with
 | agg cells =>
  simp only[jp,oJ]at h;obtain⟨y,h1,h2⟩:=h;simp only[mG,zX];exact⟨y,h1,OG h2⟩
 | _=>simp only[jp]at h;simpa only[mG]using OG h
def OJ{i:Nat}{x:AV}(h:i∈aI x):mV i x=true:=by
 cases x with
 | tup vs =>
  simp only[aI,oJ]at h;obtain⟨y,h1,h2⟩:=h;simp only[mV,zX];exact⟨y,h1,OH h2⟩
 | _=>simp only[aI]at h;simpa only[mV]using OH h
section
variable{P:Program}[ba P]{al:List (Nat×Nat)}{g g':Nat->AV}{h h':Nat->Option aj}
def An(al:List (Nat×Nat)):Prop:=∀d m m',(d,m)∈al->(d,m')∈al->m=m'
def SQ{h:Nat->Option aj}{e:aW}{d:Nat}(ht:d∉e.tch)(hn:h d=none):e.hp h d=none:=by
 cases e with
 | no=>exact hn
 | reb i o =>
  simp only[aW.tch,eF]at ht;simp only[aW.hp,dQ,ax ht,hn,Option.map_none]
 | _ =>
  simp only[aW.tch,eF]at ht;simp only[aW.hp,dQ,ax ht,hn]
def abB{h:Nat->Option aj}{e:aW}{j:Nat}{q:aj}(hq:e.hp h j=some q):(∃q0,h j=some q0/\(q=q0\/∃i,q=ee i q0))\/dZ q=e.ids:=by
 cases e with
 | no=>exact .inl ⟨q,hq,.inl rfl⟩
 | reb i o =>
  simp only[aW.hp,dQ]at hq;split at hq
  .cases hq;exact .inr rfl
  .simp only[dc]at hq;obtain⟨q0,h1,rfl⟩:=hq;exact .inl ⟨q0,h1,.inr ⟨i,rfl⟩⟩
 | _ =>
  simp only[aW.hp,dQ]at hq;split at hq
  .cases hq;exact .inr rfl
  .exact .inl ⟨q,hq,.inl rfl⟩
def Un.step{p p':Nat->Prop}{o:bj}{i:Nat}{bef:List Nat}{ev:Option (AV×aW)}{x:HI}(hs:fA P o g h ev x g' h')(hu:Un al p g h)(hc:bK o.op=true)
  (hnew:∀d,d∈aI (pG ev)\/d∈(d_ ev).ids->∀m,(d,m)∈al->m=i\/m∈bef) (hbef:∀m∈bef,¬p m) (hal:DZ o=true->(o.dst.getD 0,i)∈al) (hone:An al)
  (hp:∀m,p' m->p m/\m≠i):Un al p' g' h':=by
 intro d m hdm hpm;obtain⟨hp1,hp2⟩:=hp m hpm;obtain⟨hn,hun⟩:=hu d m hdm hp1;obtain⟨gs,hhs,_,_,_,_,_,_,_⟩:=hs.state;have hno:¬(d∈aI (pG ev)\/d∈(d_ ev).ids):=λhd=>by
  rcases hnew d hd m hdm with h1|h1
  .exact hp2 h1
  .exact hbef m h1 hp1
 have htch:d∉(d_ ev).tch:=λht=>by
  cases ev with
  | none=>simp[d_,aW.tch]at ht
  | some q =>
   obtain⟨v,e⟩:=q;have hr:=hs.2.run;unfold FH at hr;split at hr
   .rename_i f args hop;rcases hr with hr|⟨k,_,_,_,he,_,_,_,_,q,_,hid⟩|⟨d',_,_,_,_,_,hd',he,_⟩
    .rw[show d_ (some (v,e))=e from rfl,hr.1]at ht;simp[aW.tch]at ht
    .rw[show d_ (some (v,e))=e from rfl,he]at ht;simp[aW.tch]at ht;subst ht;have:=OJ hid;rw[hun.1 q]at this;cases this
    .rw[show d_ (some (v,e))=e from rfl,he]at ht;simp[aW.tch]at ht;subst ht;rw[hd']at hal;exact hp2 (hone d m i hdm (hal (by simp[DZ,hop,hd'])))
   .exact hr.elim
   .rcases hr with hr|⟨hr,_⟩
    rotate_left
    .rw[show d_ (some (v,e))=e from rfl,hr]at ht;simp[aW.tch]at ht
    rcases R8 hr hc d ht with⟨ob,he⟩|⟨k,hk,hid⟩
    .subst he;obtain⟨h1,h2⟩:=zZ hr;rw[<-h2]at hal;exact hp2 (hone d m i hdm (hal (uZ h1)))
    .have:=OJ hid;rw[hun.1 k]at this;cases this
 refine⟨by rw[hhs];exact SQ htch hn,λk=>?_,λj q hq hrec r hr y hy=>?_⟩
 .rw[gs];have key:mV d ((d_ ev).env g k)=false:=by
   cases d_ ev with
   | reb q ob =>
    simp only[aW.env];unfold i_;split
    .rfl
    .exact hun.1 k
   | _=>exact hun.1 k
  cases hd:o.dst with
  | none=>exact key
  | some d' =>
   simp only[fv,dQ];split
   .cases hv:mV d (pG ev)with
    | false=>rfl
    | true=>exact absurd (.inl (oe hv)) hno
   .exact key
 .rw[hhs]at hq;rcases abB hq with⟨q0,h1,h2⟩|h1
  .rcases h2 with rfl|⟨i',rfl⟩
   .exact hun.2 j q h1 hrec r hr y hy
   .rw[su]at hrec;simp only[ee,hrec,dP,dN]at hr;obtain⟨r0,hr0,rfl⟩:=hr;obtain⟨y0,hy0,rfl⟩:=dN.1 hy;unfold oA;split
    .rfl
    .exact hun.2 j q0 h1 hrec r0 hr0 y0 hy0
  .cases hv:mC d y with
   | false=>rfl
   | true =>
    exfalso;refine hno (.inr ?_);rw[<-h1];simp only[dZ,hrec,dP,oJ];exact⟨r,hr,y,hy,vm hv⟩
def sO(s:St)(e:aW):get (s.eff e).env=e.env (get s.env):=funext (sP s e)
def oU(s:St)(e:aW):ae (s.eff e).heap=e.hp (ae s.heap):=funext (oW s e)
def vh{s:St}{k:Nat}{t b:Bool}(hv:get s.env k = .bool t)(hb:t=b):get (s.put (some k) (.bool b)).env=get s.env:=by
 rw[iT];funext j;simp only[fv,dQ];split
 .rename_i hj;subst hj;rw[hv,hb]
 .rfl
def Ub{d:Nat}{op:lR}{g:Nat->AV}{h:Nat->Option aj}{v:AV}{e:aW}(hev:bQ d op (val g) h=some (v,e))(hmv:qq op=true):∀k∈aq op,∀id∈aI (g k),id∈aI v:=λk hk id hid=>by
 cases op with
 | mov x =>
  simp only[bQ,cI,sK]at hev;cases x with
  | s j =>
   simp only[aq,aT,eF]at hk;subst hk;rw[<-hev.1];exact hid
  | c y=>simp[aq,aT]at hk
 | _=>cases hmv
def VG(y:HI):((y.op.isEmpty||y.isLd)=true)=(y.op=[]\/y.ld = .ld):=by
 unfold HI.isLd;cases y.ld<;>simp
def LN{o:lR}(h:yr o = .ld):(∃n p,o = .load n p)\/(∃n p,o = .fadr n p)\/∃p,o = .len p:=by
 cases o<;>first|exact .inl ⟨_,_,rfl⟩|exact .inr (.inl ⟨_,_,rfl⟩)|exact .inr (.inr ⟨_,rfl⟩)|cases h
def pK[Cl](hone:An al):∀(l:List aB)(i:Nat)(hist:List HI)(s:St)(K:List HI->St->Prop),fb P al i l hist s K->Un al (λm=>i<=m) (get s.env) (ae s.heap)->(∀y∈hist,¬(y.rb=true/\y.wr=true)) ->
  (∀(j:Nat)(o:aB),l[j]?=some o->(DZ o.o=true->(o.o.dst.getD 0,i+j)∈al)/\(∀m∈o.bef,m<i+j)/\bK o.o.op=true) ->
  ∃(items:List Item)(s':St),K ((items.map Item.x).reverse++hist) s'/\T P items (get s.env) (ae s.heap) (get s'.env) (ae s'.heap)/\Ca al hist items/\items.map Item.i=List.range' i l.length/\items.map (λt=>(⟨t.o,t.bef⟩:aB))=l
 | [],i,hist,s,K,hk,_,_,_=>⟨[],s,hk,⟨rfl,rfl⟩,trivial,by simp,rfl⟩
 | o::r,i,hist,s,K,hk,hu,hnw,hl=>by
  obtain⟨hal,hbf,hcon⟩:=hl 0 o (by simp);have hl':∀(j:Nat)(o:aB),r[j]?=some o->(DZ o.o=true->(o.o.dst.getD 0,i+1+j)∈al)/\(∀m∈o.bef,m<i+1+j)/\bK o.o.op=true:=λj o hj=>by
   have:=hl (j+1) o (by simpa using hj);rwa[show i+(j+1)=i+1+j by omega]at this
  have fin:∀{s1:St}{ev:Option (AV×aW)}{x:HI},fA P o.o (get s.env) (ae s.heap) ev x (get s1.env) (ae s1.heap)->x.i=i->¬(x.rb=true/\x.wr=true)->(∀y∈hist,y.i∈o.bef\/Mt x y) ->
    (∀d,d∈aI (pG ev)\/d∈(d_ ev).ids->∀m,(d,m)∈al->m=i\/m∈o.bef)->fb P al (i+1) r (x::hist) s1 K ->
    ∃(items:List Item)(s':St),K ((items.map Item.x).reverse++hist) s'/\T P items (get s.env) (ae s.heap) (get s'.env) (ae s'.heap)/\Ca al hist items/\items.map Item.i=List.range' i (o::r).length/\items.map (λt=>(⟨t.o,t.bef⟩:aB))=o::r:=by
   intro s1 ev x hst hxi hxw hhist hnew hrest;have hu':Un al (λm=>i+1<=m) (get s1.env) (ae s1.heap):=Un.step hst hu hcon hnew (λm hm hle=>by have:=hbf m hm;omega) (by simpa using hal) hone (λm hm=>⟨by omega,by omega⟩)
   obtain⟨items,s',h1,h2,h3,h4,h5⟩:=pK hone r (i+1) (x::hist) s1 K hrest hu' (λy hy=>by
    rcases bp.1 hy with rfl|hy
    .exact hxw
    .exact hnw y hy) hl'
   exact⟨⟨i,o.bef,o.o,ev,x⟩::items,s',by simpa using h1,⟨_,_,hst,h2⟩,⟨hxi,hhist,hnew,h3⟩,by simp[List.range'_succ,h4],by simp[h5]⟩
  have run:∀{s2:St},get s2.env=get s.env->s2.heap=s.heap->(∀k b,o.o.g=some (k,b)->get s.env k = .bool b)->gS P al i o hist s2 (λhist' s'=>fb P al (i+1) r hist' s' K) ->
    ∃(items:List Item)(s':St),K ((items.map Item.x).reverse++hist) s'/\T P items (get s.env) (ae s.heap) (get s'.env) (ae s'.heap)/\Ca al hist items/\items.map Item.i=List.range' i (o::r).length/\items.map (λt=>(⟨t.o,t.bef⟩:aB))=o::r:=by
   intro s2 he2 hh2 hgd hop;have hoi':∀res:List Nat,(qq o.o.op=true->∀k∈aq o.o.op,∀id∈aI (get s.env k),id∈res)->∀k∈aq o.o.op,∀id∈aI (get s.env k),id∈bU o.o.op s2.env\/(qq o.o.op=true/\id∈res):=λres hres k hk id hid=>by
    by_cases hmv:qq o.o.op=true
    .exact .inr ⟨hmv,hres hmv k hk id hid⟩
    .refine .inl ?_;have e:bU o.o.op s2.env=(aq o.o.op).flatMap λk=>aI (get s2.env k):=by
      cases ho:o.o.op<;>first|rfl|(rw[ho]at hmv;exact absurd rfl hmv)
     rw[e,oJ];exact⟨k,hk,by rw[he2];exact hid⟩
   unfold gS at hop;split at hop
   .rename_i f args hopc;rcases hop with⟨args',rr,b,h1,h2,h3,h4,h5,h6,h7,h8⟩|⟨k,ob,ob',Sb,rr,h1,h2,h3,h4,h5,h6,h7,h8,h9⟩|⟨d,ob,st,off,len,Sb,h1,h2,h3,h6,h7,h8,h9⟩
    rotate_left 2
    .obtain⟨p1,_⟩:=eA h6;rw[he2]at p1;have e0:(aW.new d ob).ids=[]:=by simp[aW.ids,dZ,h2]
     have hin:∀{q:Nat},q∈aI (.ms d st off len)\/q∈(aW.new d ob).ids->q∈[d]:=λhq=>by
      rw[e0]at hq;simpa[aI,jp,fM,gE]using hq
     refine fin (s1:=(s2.eff (.new d ob)).put o.o.dst (.ms d st off len)) (ev:=some (.ms d st off len,.new d ob)) ⟨hgd,⟨?_,p1,hoi' _ (λhmv=>by rw[hopc]at hmv;cases hmv),(λ_ _ _ he=>by cases he),(λ_ _ he=>?_),λq hq=>hin hq,rfl,rfl,.inl rfl,?_,?_,λhh=>by cases hh⟩⟩ rfl (by rintro⟨hr,_⟩;cases hr) (fC h7) (λq hq m hm=>ng h8 q (hin hq) m hm) h9
     .unfold FH;rw[hopc];exact .inr (.inr ⟨d,ob,st,off,len,Sb,h1,rfl,rfl,h2,by rw[<-he2];exact h3⟩)
     .cases he;exact(hu d i (by have:=hal (by simp[DZ,hopc,h1]);rw[h1]at this;exact this) (aN i)).1
     .rw[iT,sO,he2]
     .rw[fh,oU,hh2]
    rotate_left
    .obtain⟨p1,p2⟩:=eA h7;rw[he2]at p1;have hq:∃q∈aq o.o.op,k∈aI (get s.env q):=by
      rw[hopc]at h6⊢;simp only[bU,oJ]at h6;obtain⟨q,q1,q2⟩:=h6;exact⟨q,q1,by rw[<-he2];exact q2⟩
     refine fin (s1:=(s2.eff (.put k ob')).put o.o.dst rr) (ev:=some (rr,.put k ob')) ⟨hgd,⟨?_,p1,hoi' _ (λhmv=>by rw[hopc]at hmv;cases hmv),(λ_ _ _ he=>by cases he),(λ_ _ he=>by cases he),λd hd=>?_,rfl,rfl,.inl rfl,?_,?_,λhh=>by cases hh⟩⟩ rfl (by first|(rintro⟨hr,_⟩;cases hr;done)|(cases e<;>simp[aW.isReb,aW.isPut])) (fC h8) (λd hd=>?_) h9
     .unfold FH;rw[hopc];rw[hopc]at hq;exact .inr (.inl ⟨k,ob,ob',Sb,rfl,h4,by rw[<-he2];exact h1,h2,by rw[<-hh2];exact h3,hq⟩)
     .have hd':d∈aI rr\/d∈dZ ob':=hd;rw[h4,h5]at hd';simp at hd'
     .rw[iT,sO,he2]
     .rw[fh,oU,hh2]
     .have hd':d∈aI rr\/d∈dZ ob':=hd;rw[h4,h5]at hd';simp at hd'
    obtain⟨p1,_⟩:=eA h6;rw[he2]at p1;refine fin (s1:=s2.put o.o.dst rr) (ev:=some (rr,.no)) ⟨hgd,⟨?_,p1,hoi' _ (λhmv=>by rw[hopc]at hmv;cases hmv),(λ_ _ _ he=>by cases he),(λ_ _ he=>by cases he),λd hd=>?_,rfl,rfl,.inl rfl,?_,?_,λhh=>by cases hh⟩⟩ rfl (by first|(rintro⟨hr,_⟩;cases hr;done)|(cases e<;>simp[aW.isReb,aW.isPut])) (fC h7) (λd hd=>?_) h8
    .unfold FH;rw[hopc];exact .inl ⟨rfl,h5,args',b,h1,h2,by rw[<-he2,<-hh2];exact h3,h4⟩
    .have hd':d∈aI rr\/d∈([]:List Nat):=hd;rw[h5]at hd';simp at hd'
    .rw[iT,he2];rfl
    .rw[fh,hh2];rfl
    .have hd':d∈aI rr\/d∈([]:List Nat):=hd;rw[h5]at hd';simp at hd'
   .exact hop.elim
   .rename_i t st x y hopc;rcases hop with hop|⟨rows,hxc,hev,h6,h7,h9⟩
    .split at hop
     case h_2=>exact hop.elim
     rename_i v e hev;obtain⟨h6,h7,h8,h9⟩:=hop;obtain⟨p1,p2⟩:=eA h6;rw[he2]at p1 hev;rw[hh2]at p2 hev;refine fin (s1:=(s2.eff e).put o.o.dst v) (ev:=some (v,e)) ⟨hgd,⟨?_,p1,hoi' _ (λhmv=>by rw[hopc]at hmv;cases hmv),λ_=>p2,λj ob he=>?_,λd hd=>?_,rfl,rfl,.inl rfl,?_,?_,λhh=>by cases hh⟩⟩ rfl (by first|(rintro⟨hr,_⟩;cases hr;done)|(cases e<;>simp[aW.isReb,aW.isPut])) (fC h7) (λd hd m hm=>?_) h9
     .unfold FH;rw[hopc];exact .inl hev
     .subst he;obtain⟨q1,q2⟩:=zZ hev;subst q2;exact(hu _ i (by simpa using hal (uZ (by rw[hopc];exact q1))) (aN i)).1
     .exact gh.2 hd
     .rw[iT,sO,he2]
     .rw[fh,oU,hh2]
     .exact ng h8 d (gh.2 hd) m hm
    .obtain⟨p1,_⟩:=eA h6;rw[he2]at p1 hev;rw[hh2]at hev;have no:∀d,¬(d∈aI (.sl st rows)\/d∈(aW.no).ids):=λd hd=>by rcases hd with hd|hd<;>cases hd
     refine fin (s1:=s2.put o.o.dst (.sl st rows)) (ev:=some (.sl st rows,.no)) ⟨hgd,⟨?_,p1,hoi' _ (λhmv=>by rw[hopc]at hmv;cases hmv),(λ_ _ _ he=>by cases he),(λ_ _ he=>by cases he),λd hd=>absurd hd (no d),rfl,rfl,.inl rfl,?_,?_,λhh=>by cases hh⟩⟩ rfl (by first|(rintro⟨hr,_⟩;cases hr;done)|(cases e<;>simp[aW.isReb,aW.isPut])) (fC h7) (λd hd=>absurd hd (no d)) h9
     .unfold FH;rw[hopc];exact .inr ⟨rfl,rfl,t,st,rows,rfl,hev⟩
     .rw[iT,he2];rfl
     .rw[fh,hh2];rfl
   .rename_i t st rows ps hopc;split at hop
    .split at hop
     case h_2=>exact hop.elim
     rename_i rs hrs;obtain⟨h6,h7,h9⟩:=hop;have hev:bQ (o.o.dst.getD 0) (.bsl t st rows ps) (val (get s2.env)) (ae s2.heap)=some (.ms (o.o.dst.getD 0) st 0 rs.length,.new (o.o.dst.getD 0) ⟨t,st,rs,false⟩):=by simp only[bQ,hrs];rfl
     obtain⟨p1,_⟩:=eA h6;rw[he2]at p1 hev;rw[hh2]at hev;have no:∀d,¬(d∈aI (.sl st rs)\/d∈(aW.no).ids):=λd hd=>by rcases hd with hd|hd<;>cases hd
     refine fin (s1:=s2.put o.o.dst (.sl st rs)) (ev:=some (.sl st rs,.no)) ⟨hgd,⟨?_,p1,hoi' _ (λhmv=>by rw[hopc]at hmv;cases hmv),(λ_ _ _ he=>by cases he),(λ_ _ he=>by cases he),λd hd=>absurd hd (no d),rfl,rfl,.inl rfl,?_,?_,λhh=>by cases hh⟩⟩ rfl (by first|(rintro⟨hr,_⟩;cases hr;done)|(cases e<;>simp[aW.isReb,aW.isPut])) (fC h7) (λd hd=>absurd hd (no d)) h9
     .unfold FH;rw[hopc];exact .inr ⟨rfl,rfl,t,st,rs,rfl,hev⟩
     .rw[iT,he2];rfl
     .rw[fh,hh2];rfl
    .split at hop
     case h_2=>exact hop.elim
     rename_i v e hev;obtain⟨h6,h7,h8,h9⟩:=hop;obtain⟨p1,p2⟩:=eA h6;rw[he2]at p1 hev;rw[hh2]at p2 hev;refine fin (s1:=(s2.eff e).put o.o.dst v) (ev:=some (v,e)) ⟨hgd,⟨?_,p1,hoi' _ (λhmv=>by rw[hopc]at hmv;cases hmv),λ_=>p2,λj ob he=>?_,λd hd=>?_,rfl,rfl,.inl rfl,?_,?_,λhh=>by rw[hopc]at hh;cases hh⟩⟩ rfl (by first|(rintro⟨hr,_⟩;cases hr;done)|(cases e<;>simp[aW.isReb,aW.isPut])) (fC h7) (λd hd m hm=>?_) h9
     .unfold FH;rw[hopc];exact .inl hev
     .subst he;obtain⟨q1,q2⟩:=zZ hev;subst q2;exact(hu _ i (by simpa using hal (uZ (by rw[hopc];exact q1))) (aN i)).1
     .exact gh.2 hd
     .rw[iT,sO,he2]
     .rw[fh,oU,hh2]
     .exact ng h8 d (gh.2 hd) m hm
   .rename_i n1 n2 n3 n4;split at hop
    case h_2=>exact hop.elim
    rename_i v e hev;obtain⟨h6,h7,h8,h9⟩:=hop;obtain⟨p1,p2⟩:=eA h6;rw[he2]at p1 hev;rw[hh2]at p2 hev;refine fin (s1:=(s2.eff e).put o.o.dst v) (ev:=some (v,e)) ⟨hgd,⟨?_,p1,hoi' _ (λhmv k hk id hid=>gh.2 (.inl (Ub hev hmv k hk id hid))),λ_=>p2,λj ob he=>?_,λd hd=>?_,rfl,rfl,.inl rfl,?_,?_,λhh=>LN hh⟩⟩ rfl (by first|(rintro⟨hr,_⟩;cases hr;done)|(cases e<;>simp[aW.isReb,aW.isPut])) (fC h7) (λd hd m hm=>?_) h9
    .unfold FH;split
     .rename_i f args hopc;exact(n1 f args hopc).elim
     .rename_i f args hopc;exact(n2 f args hopc).elim
     .exact .inl hev
    .subst he;obtain⟨q1,q2⟩:=zZ hev;subst q2;exact(hu _ i (by simpa using hal (uZ q1)) (aN i)).1
    .exact gh.2 hd
    .rw[iT,sO,he2]
    .rw[fh,oU,hh2]
    .exact ng h8 d (gh.2 hd) m hm
  unfold fb at hk;split at hk
  .rename_i hg;exact run rfl rfl (λk b hkb=>by rw[hg]at hkb;cases hkb) hk
  .rename_i k b hg;split at hk
   case h_3=>exact hk.elim
   case h_2 =>
    rename_i hv;refine fin (s1:=s.put o.o.dst (.tup [])) (ev:=none) (x:=⟨i,[],[],[],false,false⟩) ⟨⟨k,b,hg,.inr hv⟩,?_,by rw[fh],rfl,rfl,rfl⟩ rfl (by rintro⟨hr,_⟩;cases hr) (λy hy=>.inr (.inl ⟨?_,?_,?_,?_,?_,?_,?_,?_⟩)) ?_ hk
    .rw[iT]
    .intro d _;exact⟨by simp,by simp⟩
    .intro d hd;cases hd
    .intro hr;cases hr
    .intro _ d hd hd2;cases hd2
    .rintro⟨hr,_⟩;cases hr
    .rintro⟨_,hr⟩;cases hr
    .rintro⟨hr,_⟩;cases hr
    .exact hnw y hy
    .intro d hd;rcases hd with hd|hd
     .simp[pG,aI]at hd
     .simp[d_,aW.ids]at hd
   rename_i t hv;by_cases htb:t=b
   .exact run (vh hv htb) (fh _ _ _) (λk' b' hkb=>by rw[hg]at hkb;cases hkb;rw[hv,htb]) (hk.1 htb)
   .have htb':t = !b:=by cases t<;>cases b<;>simp_all
    refine fin (s1:=(s.put (some k) (.bool (!b))).put o.o.dst (.tup [])) (ev:=none) (x:=⟨i,[],[],[],false,false⟩) ⟨⟨k,b,hg,.inl (by rw[hv,htb'])⟩,?_,by rw[fh,fh],rfl,rfl,rfl⟩ rfl (by rintro⟨hr,_⟩;cases hr) (λy hy=>.inr (.inl ⟨?_,?_,?_,?_,?_,?_,?_,?_⟩)) ?_ (hk.2 htb')
    .rw[iT,vh hv htb']
    .intro d _;exact⟨by simp,by simp⟩
    .intro d hd;cases hd
    .intro hr;cases hr
    .intro _ d hd hd2;cases hd2
    .rintro⟨hr,_⟩;cases hr
    .rintro⟨_,hr⟩;cases hr
    .rintro⟨hr,_⟩;cases hr
    .exact hnw y hy
    .intro d hd;rcases hd with hd|hd
     .simp[pG,aI,jp,fM,gE]at hd
     .simp[d_,aW.ids]at hd
def zn[Cl](hone:An al)(l:List aB)(i:Nat)(hist:List HI)(s:St)(K:St->Prop)(hk:kZ P al i l hist s K)(hu:Un al (λm=>i<=m) (get s.env) (ae s.heap))(hnw:∀y∈hist,¬(y.rb=true/\y.wr=true))
  (hl:∀(j:Nat)(o:aB),l[j]?=some o->(DZ o.o=true->(o.o.dst.getD 0,i+j)∈al)/\(∀m∈o.bef,m<i+j)/\bK o.o.op=true) :
  ∃(items:List Item)(s':St),K s'/\T P items (get s.env) (ae s.heap) (get s'.env) (ae s'.heap)/\Ca al hist items/\items.map Item.i=List.range' i l.length/\items.map (λt=>(⟨t.o,t.bef⟩:aB))=l:=pK hone l i hist s _ hk hu hnw hl
def VN:∀(A:List Item){t:Item}{g:Nat->AV}{h:Nat->Option aj}{g1:Nat->AV}{h1:Nat->Option aj}{g':Nat->AV}{h':Nat->Option aj},T P A g h g1 h1->fA P t.o g1 h1 t.ev t.x g' h'->T P (A++[t]) g h g' h'
 | [],t,g,h,g1,h1,g',h',⟨e1,e2⟩,hs=>by subst e1 e2;exact⟨_,_,hs,rfl,rfl⟩
 | a::A,t,g,h,g1,h1,g',h',⟨g2,h2,s1,ht⟩,hs=>⟨g2,h2,s1,VN A ht hs⟩
def FL:∀(A:List Item){hist:List HI}{t:Item},Ca al hist A->t.x.i=t.i->(∀y∈(A.map Item.x).reverse++hist,y.i∈t.bef\/Mt t.x y)->(∀d,d∈aI (pG t.ev)\/d∈(d_ t.ev).ids->∀m,(d,m)∈al->m=t.i\/m∈t.bef)->Ca al hist (A++[t])
 | [],hist,t,_,h1,h2,h3=>⟨h1,by simpa using h2,h3,trivial⟩
 | a::A,hist,t,⟨q1,q2,q3,q4⟩,h1,h2,h3=>⟨q1,q2,q3,FL A q4 h1 (by simpa using h2) h3⟩
def Ej(hone:An al)(l:List aB)(s:St)(K:St->Prop) (hk:fb P al 0 l.dropLast [] s λhist s1=>match l.getLast? with
   | some o=>HN al (l.length-1) o hist s1 K
   | none=>False) (hu:Un al (λm=>0<=m) (get s.env) (ae s.heap))
  (hl:∀(j:Nat)(o:aB),l[j]?=some o->(DZ o.o=true->(o.o.dst.getD 0,0+j)∈al)/\(∀m∈o.bef,m<0+j)/\bK o.o.op=true) :
  ∃(items:List Item)(s':St),K s'/\T P items (get s.env) (ae s.heap) (get s'.env) (ae s'.heap)/\Ca al [] items/\items.map Item.i=List.range' 0 l.length/\items.map (λt=>(⟨t.o,t.bef⟩:aB))=l:=by
 obtain⟨A,s1,h1,h2,h3,h4,h5⟩:=pK hone l.dropLast 0 [] s _ hk hu (λy hy=>by cases hy) (λj o hj=>hl j o (by
  rw[List.dropLast_eq_take,x9]at hj;split at hj
  .exact hj
  .cases hj))
 cases hlast:l.getLast? with
 | none=>rw[hlast]at h1;exact h1.elim
 | some o =>
  rw[hlast]at h1;simp only at h1;have hne:l≠[]:=λe=>by rw[e]at hlast;cases hlast
  have hll:l=l.dropLast++[o]:=by
   have:=List.dropLast_concat_getLast hne;rw[List.getLast?_eq_some_getLast hne]at hlast;cases hlast;exact this.symm
  have hlen:l.dropLast.length=l.length-1:=List.length_dropLast;have hpos:=Jh.2 hne;unfold HN at h1;split at h1
  case h_2=>exact h1.elim
  rename_i t st x y hop;obtain⟨hg,h1⟩:=h1;split at h1
  case h_2=>exact h1.elim
  rename_i v e hev;obtain⟨k1,k2,k3,k4,k5⟩:=h1;have hst:fA P o.o (get s1.env) (ae s1.heap) (some (v,e)) ⟨l.length-1,bU (.app t st x y) s1.env,aI v++e.ids,e.tch,true,true⟩ (get ((s1.eff e).put o.o.dst v).env) (ae ((s1.eff e).put o.o.dst v).heap):=by
   refine⟨(λk b hkb=>by rw[hg]at hkb;cases hkb),⟨?_,?_,?_,(λhn=>absurd ⟨rfl,rfl⟩ hn),λj ob he=>?_,λd hd=>gh.2 hd,rfl,k2.symm,.inr ⟨rfl,rfl⟩,?_,?_,λhh=>by cases hh⟩⟩
   .unfold FH;rw[hop];exact .inl hev
   .intro k hk he;rw[hop]at hk;have:=f_.1 k1 k hk;rw[he]at this;cases this
   .intro k hk id hid;rw[hop]at hk;exact .inl (oJ.2 ⟨k,hk,hid⟩)
   .subst he;cases k2
   .rw[iT,sO]
   .rw[fh,oU]
  refine⟨A++[⟨l.length-1,o.bef,o.o,some (v,e),⟨l.length-1,bU (.app t st x y) s1.env,aI v++e.ids,e.tch,true,true⟩⟩],(s1.eff e).put o.o.dst v,k5,VN A (t:=⟨l.length-1,o.bef,o.o,some (v,e),⟨l.length-1,bU (.app t st x y) s1.env,aI v++e.ids,e.tch,true,true⟩⟩) h2 hst,FL A (t:=⟨l.length-1,o.bef,o.o,some (v,e),⟨l.length-1,bU (.app t st x y) s1.env,aI v++e.ids,e.tch,true,true⟩⟩) h3 rfl (λz hz=>?_) (λd (hd:d∈aI v\/d∈e.ids) m hm=>ng k4 d (gh.2 hd) m hm),?_,?_⟩
  .have:=f_.1 k3 z (by simpa using hz);rw[B4]at this;rcases this with q|q
   .exact .inl (by simpa using q)
   .simp only[Jg,VG,fQ,List.isEmpty_iff,yO,f_,Jj,decide_eq_false_iff_not]at q;exact .inr (.inr ⟨rfl,rfl,q.1.1.1.1,q.2,q.1.1.1.2,q.1.1.2,q.1.2⟩)
  .rw[dW,h4,hlen,List.map_singleton]
   conv=>rhs;rw[show l.length=(l.length-1)+1 by omega,List.range'_concat]
   simp
  .rw[dW,h5,List.map_singleton];exact hll.symm
end
def JL{i:Nat}{o:aj}{x:AV}(h:mP i x=false):pH i o x=x:=by
 cases x<;>first|rfl|(simp only[mP,CV]at h;simp only[pH];rw[ax h])
def Ey{f:AV->Bool}{r:AV->AV}(hh:∀x,f x=false->r x=x):∀l:List AV,l.any f=false->l.map r=l
 | [],_=>rfl
 | y::l,hl=>by
  simp only[List.any_cons,Bool.or_eq_false_iff]at hl;simp only[bY,hh y hl.1,Ey hh l hl.2]
def Eg{i:Nat}{o:aj}{x:AV}(h:mC i x=false):vg i o x=x:=by
 cases x with
 | fn f caps=>simp only[mC]at h;simp only[vg,Ey (λx hx=>JL hx) caps h]
 | _=>simp only[mC]at h;simp only[vg];exact JL h
def JK{i:Nat}{o:aj}{x:AV}(h:mG i x=false):AU i o x=x:=by
 cases x with
 | agg cs=>simp only[mG]at h;simp only[AU,Ey (λx hx=>Eg hx) cs h]
 | _=>simp only[mG]at h;simp only[AU];exact Eg h
def SK{i:Nat}{o:aj}{x:AV}(h:mV i x=false):s_ i o x=x:=by
 cases x with
 | tup vs=>simp only[mV]at h;simp only[s_,Ey (λx hx=>JK hx) vs h]
 | _=>simp only[mV]at h;simp only[s_];exact JK h
def SJ{i:Nat}{o q:aj}(h:q.isRec=true->∀r∈q.rows,∀y∈r,mC i y=false):jo i o q=q:=by
 unfold jo;split
 .rename_i hr;have:q.rows.map (λr=>r.map (vg i o))=q.rows:=by
   conv=>rhs;rw[<-List.map_id q.rows]
   refine yQ λr hr'=>?_
   conv=>rhs;rw[id,<-List.map_id r]
   exact yQ λy hy=>Eg (h hr r hr' y hy)
  rw[this]
 .rfl
section
variable{P:Program}[ba P]{c:qL}[CT c P]{a:Act}{w:World}{o:Oper}{io:bj}{ops:Array Oper}{n:Nat}
def Ja{g g':Nat->AV}{h h':Nat->Option aj}{ev:Option (AV×aW)}{x:HI}{bl:Nat->Option Nat}(hc:nN P n ops o=some io)(hn:c.n=n)(hst:fA P io g h ev x g' h')(hs:aH c bl g h a w)
  (hnew:DZ io=true->h (io.dst.getD 0)=none/\cN (io.dst.getD 0) g h/\(io.dst.getD 0<1000\/2000<=io.dst.getD 0)) {K:Act->World->Prop} {Q:Exit->Act->World->Prop}
  (hK:∀a' w' bl',aH c bl' g' h' a' w'->K a' w'):if Region.wanted o (yielded ops a.tmps)then o.wp P a w K Q\/(o.asks P a w/\LetsOut Q)else K (a.put o.dst undef) w:=by
 obtain⟨h1,h2,h3,h4⟩:=va hc;have hd:∀k,io.dst=some k->k<c.n:=λk hk=>by rw[hn];exact h3 k (h2▸hk)
 have putB:∀{bl:Nat->Option Nat}{g:Nat->AV}{h:Nat->Option aj}{w:World}{v:Value}{y:AV},aH c bl g h a w->aY bl (bz bl c.MF h) w v y->aH c bl (fv g io.dst y) h (a.put o.dst v) w:=λ{bl g h w v y} hsb hv=>by
  rw[<-h2];cases hdd:io.dst with
  | none=>exact hsb
  | some d=>exact hsb.put (hd d hdd) hv
 have hwant:∀k b t,io.g=some (k,b)->g k = .bool t->Region.wanted o (yielded ops a.tmps)=(t==b):=λk b t hg hv=>by
  rcases h4 with⟨_,g2⟩|⟨j,b',k',g1,g2,g3⟩
  .rw[g2]at hg;cases hg
  .rw[g3]at hg;cases hg;have hk:=hs.env k;rw[hv]at hk;have hkv:=hk.bool;rw[(Fx (a:=a) (k:=k) (λb hb=>by rw[hb]at hkv;cases hkv)).2]at hkv;have hkn:k<a.tmps.size:=by
    rcases eJ k a.tmps.size with hlt|hge
    .exact hlt
    .rw[oI,B3 hge]at hkv;cases hkv
   have hy:yielded ops a.tmps j=some t:=by
    have:a.tmps[k]?=some (.bool t):=by
     rw[oI,lF hkn]at hkv;rw[lF hkn];simpa using hkv
    simp[yielded,g2,this]
   simp only[Region.wanted,g1,hy];cases t<;>cases b<;>rfl
 cases ev with
 | none =>
  obtain⟨⟨k,b,hg,hv⟩,rfl,rfl,_⟩:=hst;have hnw:¬Region.wanted o (yielded ops a.tmps)=true:=by
   rcases hv with hv|hv
   .rw[hwant k b _ hg hv];cases b<;>simp
   .rcases h4 with⟨_,g2⟩|⟨j,b',k',g1,g2,g3⟩
    .rw[g2]at hg;cases hg
    .rw[g3]at hg;cases hg;have hk:=hs.env k;rw[hv]at hk;simp[Region.wanted,g1,uQ (ops:=ops) g2 hk]
  rw[ax hnw];exact hK _ _ _ (putB hs (y:=.tup []) ⟨[],rfl,trivial⟩)
 | some p =>
  obtain⟨v,e⟩:=p;obtain⟨hgd,hf⟩:=hst;have hw:Region.wanted o (yielded ops a.tmps)=true:=by
   rcases h4 with⟨g1,_⟩|⟨j,b',k',g1,g2,g3⟩
   .simp[Region.wanted,g1]
   .rw[hwant k' b' b' g3 (hgd k' b' g3)];simp
  rw[aF hw];refine .inl ?_;have hr:=hf.run;unfold FH at hr;split at hr
  .rename_i f args hop;rw[hop]at h1;obtain⟨cl,hoo,hcl,hb,hv⟩:=F3 h1;rcases hr with⟨rfl,_,args',b,q1,q2,q3,q4⟩|⟨k,ob,ob',Sb,rfl,q1,q2,q3,q4,_⟩|⟨d,ob,st,off,len,Sb,hdd,rfl,rfl,hrc,q2⟩
   rotate_left 2
   .obtain⟨u1,u2,u3⟩:=hnew (by simp[DZ,hop,hdd]);rw[hdd]at u1 u2 u3;simp only[gb]at u1 u2 u3;refine kF (f:=f) (args:=cl.args.map a.eval) ?_ ?_
    .have:=jl (w:=w) hb (cl.args.map a.eval);simp[execOp,hoo,resolve,hcl,Act.eval,Deferred.ofValue,invoke,this]
    .have:=Bw hs q2 (mH hs hv) (λid o hi=>by cases hi) [d] (λr σ' hP id hid=>by
      obtain⟨rfl,rfl⟩:=hP;simp only[ae]at hid;split at hid
      .rename_i hki;subst hki;exact .inr ⟨by simp,u3,.inr u1⟩
      .cases hid)
     simp only[Array.toArray_toList]at this;refine this.mono λe' w' ⟨u,r,σ',bl2,he,hP,hs',hv'⟩=>⟨u,he,?_⟩
     obtain⟨rfl,rfl⟩:=hP;have eg:(λj=>nU [d] (g j))=g:=by funext j;simp[nU,u2.1 j]
     have eh:HT [d] (ae []) (ae [(d,ob)]) h=(aW.new d ob).hp h:=by
      funext j;simp only[HT,ae,aW.hp,dQ];by_cases hj:d=j
      .subst hj;simp
      .have hj':¬j=d:=λe=>hj e.symm;simp only[ax hj,ax hj'];cases hq:h j with
       | none=>rfl
       | some q =>
        simp only[Option.isSome_none,jr,fS,fo];congr 1;unfold ig;split
        .rename_i hr2;have e:q.rows.map (λr=>r.map (uK [d]))=q.rows:=by
          refine(yQ λr hm=>?_).trans (List.map_id _);refine(yQ λx hx=>?_).trans (List.map_id _);simp[uK,u2.2 j q hq hr2 r hm x hx]
         rw[e]
        .rfl
     rw[eg,eh]at hs';rw[eh]at hv';refine hK _ _ bl2 ?_;rw[hf.hg,hf.hh];exact putB hs' hv'
   rotate_left
   .refine kF (f:=f) (args:=cl.args.map a.eval) ?_ ?_
    .have:=jl (w:=w) hb (cl.args.map a.eval);simp[execOp,hoo,resolve,hcl,Act.eval,Deferred.ofValue,invoke,this]
    .have hσ:∀id o,ae [(k,ob)] id=some o->h id=some o:=λid o hi=>by
      simp only[ae]at hi;split at hi
      .rename_i hki;subst hki;cases hi;exact q4
      .cases hi
     have:=Bw hs q2 (mH hs hv) hσ [] (λr σ' hP id hid=>by
      obtain⟨rfl,rfl⟩:=hP;simp only[ae]at hid;split at hid
      .rename_i hki;subst hki;exact .inl ⟨q3,by simp[ae]⟩
      .cases hid)
     simp only[Array.toArray_toList]at this;refine this.mono λe' w' ⟨u,r,σ',bl2,he,hP,hs',hv'⟩=>⟨u,he,?_⟩
     obtain⟨rfl,rfl⟩:=hP;have eg:(λj=>nU [] (g j))=g:=by funext j;simp[nU]
     have eh:HT [] (ae [(k,ob)]) (ae [(k,ob')]) h=(aW.put k ob').hp h:=by
      funext j;simp only[HT,ae,aW.hp,dQ];by_cases hj:k=j
      .subst hj;simp
      .have hj':¬j=k:=λe=>hj e.symm;have:ig []=id:=by funext o;unfold ig uK;simp
       simp[hj,hj',this]
     rw[eg,eh]at hs';rw[eh]at hv';refine hK _ _ bl2 ?_;rw[hf.hg,hf.hh];exact putB hs' hv'
   refine kF (f:=f) (args:=cl.args.map a.eval) ?_ ?_
   .have:=jl (w:=w) hb (cl.args.map a.eval);simp[execOp,hoo,resolve,hcl,Act.eval,Deferred.ofValue,invoke,this]
   .have:=DF hs q1 (mH hs hv) q2 b q3 q4;simp only[Array.toArray_toList]at this;refine this.mono λe' w' ⟨u,he,hs',hv'⟩=>⟨u,he,?_⟩
    refine hK _ _ bl ?_;rw[hf.hg,hf.hh];exact putB hs' hv'
  .exact hr.elim
  .rcases hr with hr|⟨rfl,hal,t,st,rows,rfl,hr⟩
   .refine mA (H5 hs h1 hr λq=>hnew (uZ q)) (λr w' bl' q1 q2=>hK _ _ bl' ?_);rw[hf.hg,hf.hh];exact putB q1 q2
   .refine mA (H5 hs h1 hr λq=>hnew (uZ q)) (λr w' bl' q1 q2=>hK _ _ bl' ?_);obtain⟨u1,u2,_⟩:=hnew (uZ hal);obtain⟨f1,f2⟩:=q1.freeze (i:=io.dst.getD 0) (o:=⟨t,st,rows,false⟩) (by simp[aW.hp,dQ]) rfl;have f3:=f2 _ _ q2;have e1:(λk=>s_ (io.dst.getD 0) ⟨t,st,rows,false⟩ ((aW.new (io.dst.getD 0) ⟨t,st,rows,false⟩).env g k))=g:=funext λk=>SK (u2.1 k);have e2:(λj=>if j=io.dst.getD 0 then none else((aW.new (io.dst.getD 0) ⟨t,st,rows,false⟩).hp h j).map (jo (io.dst.getD 0) ⟨t,st,rows,false⟩))=h:=funext λj=>by
     by_cases hj:j=io.dst.getD 0
     .rw[aF hj,hj,u1]
     .rw[ax hj];simp only[aW.hp,dQ,ax hj];cases hq:h j with
      | none=>rfl
      | some q=>simp only[fo];rw[SJ λhr=>u2.2 j q hq hr]
    have e3:s_ (io.dst.getD 0) ⟨t,st,rows,false⟩ (.ms (io.dst.getD 0) st 0 rows.length) = .sl st rows:=by simp[s_,AU,vg,pH]
    rw[e1,e2]at f1;rw[e2,e3]at f3;rw[hf.hg,hf.hh];exact putB f1 f3
def jm{listed:Array Bool}{i:Nat}:i∈Region.ready .any ops listed↔i<ops.size/\listed.getD i true=false/\∃o,ops[i]?=some o/\∀d∈kX o,listed.getD d false=true:=by
 unfold Region.ready;simp only[List.mem_filter,List.mem_range,fQ,yO];refine⟨λ⟨h1,h2,h3⟩=>⟨h1,h2,ops[i],lF h1,?_⟩,λ⟨h1,h2,o,h3,h4⟩=>⟨h1,h2,?_⟩⟩
 .rw[lF h1]at h3;simp only[fo,gb,Array.all_eq_true_iff_forall_mem,B4,yO]at h3;intro d hd;simp only[kX,dN,List.mem_filter,Array.mem_toList_iff]at hd;obtain⟨e,⟨he1,he2⟩,rfl⟩:=hd;rcases h3 e he1 with h5|h5
  .rw[he2]at h5;cases h5
  .exact h5
 .rw[h3];simp only[fo,gb,Array.all_eq_true_iff_forall_mem,B4,yO];intro e he;cases hb:Region.binds .any e with
  | false=>exact .inl rfl
  | true =>
   refine .inr (h4 e.on ?_);simp only[kX,dN,List.mem_filter,Array.mem_toList_iff];exact⟨e,⟨he,hb⟩,rfl⟩
structure mh(ops:Array Oper)(bs:List (List Nat)):Prop where
 lt:∀i o,ops[i]?=some o->∀d∈kX o,d<i
 via:∀i o,ops[i]?=some o->∀d∈bs.getD i [],d∈kX o\/∃m∈kX o,d∈bs.getD m []
def IR{bs:List (List Nat)}(h:Wm ops.toList bs=true):mh ops bs:=by
 have key:∀i o,ops[i]?=some o->(∀d∈kX o,d<i)/\∀d∈bs.getD i [],d∈kX o\/∃m∈kX o,d∈bs.getD m []:=λi o hi=>by
  have hlt:i<ops.toList.length:=by
   have:=(j0.1 hi).1;simpa using this
  have:=f_.1 h i (List.mem_range.2 hlt);have hi':ops.toList[i]?=some o:=by rw[Array.getElem?_toList];exact hi
  simp only[hi',fQ,f_,tT,B4,zX,Jj]at this;exact this
 exact⟨λi o hi=>(key i o hi).1,λi o hi=>(key i o hi).2⟩
def mh.bef_lt{bs:List (List Nat)}(hO:mh ops bs):∀(i:Nat)(o:Oper),ops[i]?=some o->∀d∈bs.getD i [],d<i:=by
 intro i
 induction i using Nat.strongRecOn with
 | _ i ih =>
  intro o hi d hd;rcases hO.via i o hi d hd with h1|⟨m,h1,h2⟩
  .exact hO.lt i o hi d h1
  .have hm:=hO.lt i o hi m h1;have hms:m<ops.size:=Nat.lt_trans hm (j0.1 hi).1;have:=ih m hm ops[m] (lF hms) d h2;omega
def mh.listed{bs:List (List Nat)}(hO:mh ops bs){p:Nat->Prop}(hdc:∀i o,p i->ops[i]?=some o->∀d∈kX o,p d):∀(i:Nat)(o:Oper),ops[i]?=some o->(∀d∈kX o,p d)->∀d∈bs.getD i [],p d:=by
 intro i
 induction i using Nat.strongRecOn with
 | _ i ih =>
  intro o hi he d hd;rcases hO.via i o hi d hd with h1|⟨m,h1,h2⟩
  .exact he d h1
  .have hm:=hO.lt i o hi m h1;have hms:m<ops.size:=Nat.lt_trans hm (j0.1 hi).1;exact ih m hm ops[m] (lF hms) (hdc m _ (he m h1) (lF hms)) d h2
def KV(hn:c.n=n){al:List (Nat×Nat)}(hone:An al)(hal:∀d m,(d,m)∈al->d<1000){bs:List (List Nat)}(hO:mh ops bs){gf:Nat->AV}{hf:Nat->Option aj}{Q:Exit->Act->World->Prop}(off fuel0:Nat)(Z:Nat->Prop)
  (hQ:∀(listed:Array Bool) a w bl,listed.size=ops.size->(∀j,j<ops.size->(listed.getD j true=false↔Z j))->aH c bl gf hf a w->wpAny P .any ops Q fuel0 listed a w):∀(fuel:Nat)(R:List Item)(listed:Array Bool)(g:Nat->AV)(h:Nat->Option aj)(a:Act)(w:World)(bl:Nat->Option Nat),R.length=fuel->listed.size=ops.size ->
   aH c bl g h a w->T P R g h gf hf->Un al (λm=>∃t∈R,t.i=m) g h ->
   (∀j,j<ops.size->(listed.getD j true=false↔(∃t∈R,off+t.i=j)\/Z j)) ->
   (∀j,Z j->∀t∈R,off+t.i∈bs.getD j []) ->
   (∀i o,listed.getD i false=true->ops[i]?=some o->∀d∈kX o,listed.getD d false=true) ->
   (∀t∈R,∃o,ops[off+t.i]?=some o/\nN P n ops o=some t.o/\(∀d∈t.bef,off+d∈bs.getD (off+t.i) [])/\bK t.o.op=true/\(DZ t.o=true->(t.o.dst.getD 0,t.i)∈al) /\
    (∀d,d∈aI (pG t.ev)\/d∈(d_ t.ev).ids->∀m,(d,m)∈al->m=t.i\/m∈t.bef)) ->
   R.Pairwise (λm t=>m.i<t.i/\(m.i∈t.bef\/(CW m.o t.o/\Mt t.x m.x)))->wpAny P .any ops Q (fuel+fuel0) listed a w:=by
 intro fuel
 induction fuel with
 | zero =>
  intro R listed g h a w bl hlen hsz hs ht hu hli hbk hdc hit hpw;have hR:R=[]:=FE.1 hlen;subst hR;obtain⟨rfl,rfl⟩:=ht;rw[ga];refine hQ listed a w bl hsz (λj hj=>?_) hs;rw[hli j hj];refine⟨λhh=>?_,.inr⟩;rcases hh with⟨t,ht,_⟩|hh
  .cases ht
  .exact hh
 | succ fuel ih =>
  intro R listed g h a w bl hlen hsz hs ht hu hli hbk hdc hit hpw;have hgetD:∀j,j<ops.size->listed.getD j true=listed.getD j false:=λj hj=>by
   have:j<listed.size:=by omega
   simp[oI,lF this]
  rw[Nat.add_right_comm];refine⟨λhr=>?_,λi hi=>?_⟩
  ·
   exfalso;cases R with
   | nil=>simp at hlen
   | cons t R =>
    obtain⟨o,h1,_⟩:=hit t (by simp);have hlt:=(j0.1 h1).1
    have:off+t.i∈Region.ready .any ops listed:=jm.2 ⟨hlt,(hli (off+t.i) hlt).2 (.inl ⟨t,by simp,rfl⟩),o,h1,λd hd=>by
     have hdl:=hO.lt (off+t.i) o h1 d hd;have hds:d<ops.size:=by omega
     cases hv:listed.getD d false with
     | true=>rfl
     | false =>
      rw[<-hgetD d hds]at hv;rcases(hli d hds).1 hv with⟨q,hq,hqi⟩|hz
      .rcases bp.1 hq with rfl|hq
       .omega
       .have:=((List.pairwise_cons.1 hpw).1 q hq).1;omega
      .have h5:=hbk d hz t (by simp);have h6:=hO.bef_lt d ops[d] (lF hds) _ h5;omega⟩
    rw[hr]at this;cases this
  .obtain⟨h1,h2,o,h3,h4⟩:=jm.1 hi;have hbefs:∀d∈bs.getD i [],listed.getD d false=true:=hO.listed hdc i o h3 h4;have hiR:∃t∈R,off+t.i=i:=by
    rcases(hli i h1).1 h2 with hh|hz
    .exact hh
    .exfalso;cases R with
     | nil=>simp at hlen
     | cons t R =>
      have h5:=hbefs _ (hbk i hz t (by simp));obtain⟨ot,hot,_⟩:=hit t (by simp);have hl:=(j0.1 hot).1;have h6:=(hli (off+t.i) hl).2 (.inl ⟨t,by simp,rfl⟩);rw[hgetD _ hl,h5]at h6;cases h6
   obtain⟨t,htR,hti⟩:=hiR;subst hti;obtain⟨A,B,rfl⟩:=List.append_of_mem htR;obtain⟨o',q1,q2,q3,q4,q5,q6⟩:=hit t (by simp);rw[h3]at q1;cases q1;have hbef:∀d∈t.bef,listed.getD (off+d) false=true:=λd hd=>hbefs _ (q3 d hd);have hpA:∀m∈A,m.i<t.i/\(m.i∈t.bef\/(CW m.o t.o/\Mt t.x m.x)):=λm hm=>(List.pairwise_append.1 hpw).2.2 m hm t (by simp);have hun:∀m∈A++B,m.i≠t.i:=λm hm=>by
    rcases gh.1 hm with hm|hm
    .have:=(hpA m hm).1;omega
    .have:=((List.pairwise_cons.1 (List.pairwise_append.1 hpw).2.1).1 m hm).1;omega
   have hnot:∀m∈A++t::B,listed.getD (off+m.i) false=false:=λm hm=>by
    obtain⟨om,hom,_⟩:=hit m hm;have hl:=(j0.1 hom).1;rw[<-hgetD (off+m.i) hl];exact(hli (off+m.i) hl).2 (.inl ⟨m,hm,rfl⟩)
   obtain⟨g1,hh1,hst,hT⟩:=V1 A t B g h gf hf ht (λm hm=>by
    rcases(hpA m hm).2 with hb|hb
    .have:=hbef m.i hb;rw[hnot m (by simp[hm])]at this;cases this
    .exact hb) (λm hm=>by obtain⟨_,_,_,_,q,_⟩:=hit m (by simp[hm]);exact q) q4
   unfold wpOp;rw[h3];simp only
   have hu':Un al (λm=>∃q∈A++B,q.i=m) g1 hh1:=Un.step hst hu q4 q6 (λm hm ⟨q,hq,hqi⟩=>by
    have:=hbef m hm
    rw[<-hqi,hnot q (by
     rcases gh.1 hq with hq|hq
     .simp[hq]
     .simp[hq])]at this
    cases this) q5 hone (λm ⟨q,hq,hqi⟩=>⟨⟨q,by
     rcases gh.1 hq with hq|hq
     .simp[hq]
     .simp[hq],hqi⟩,by rw[<-hqi];exact hun q hq⟩)
   refine Ja q2 hn hst hs (λha=>?_) (λa' w' bl' hs'=>?_)
   .obtain⟨u1,u2⟩:=hu _ t.i (q5 ha) ⟨t,by simp,rfl⟩;exact⟨u1,u2,.inl (hal _ _ (q5 ha))⟩
   .refine ih (A++B) (listed.setIfInBounds (off+t.i) true) g1 hh1 a' w' bl' (by simp at hlen⊢;omega) (by simpa using hsz) hs' hT hu' (λj hj=>?_) (λj hz m hm=>hbk j hz m ?_) (λj oj hj hoj d hd=>?_) (λm hm=>?_) ?_
    .have hset:(listed.setIfInBounds (off+t.i) true).getD j true=if off+t.i=j then true else listed.getD j true:=by
      simp only[oI,FB];split
      .rename_i e;subst e;simp[hsz,h1]
      .rfl
     rw[hset];constructor
     .intro hv;split at hv
      .cases hv
      .rename_i hne;rcases(hli j hj).1 hv with⟨q,hq,hqi⟩|hz
       .refine .inl ⟨q,?_,hqi⟩;rcases gh.1 hq with hq|hq
        .simp[hq]
        .rcases bp.1 hq with rfl|hq
         .exact absurd hqi hne
         .simp[hq]
       .exact .inr hz
     .rintro(⟨q,hq,hqi⟩|hz)
      .rw[ax (λe=>hun q hq (by omega))];refine(hli j hj).2 (.inl ⟨q,?_,hqi⟩);rcases gh.1 hq with hq|hq
       .simp[hq]
       .simp[hq]
      .rw[ax (λe=>by
        subst e;have h5:=hbk _ hz t (by simp);have h6:=hO.bef_lt _ _ h3 _ h5;omega)]
       exact(hli j hj).2 (.inr hz)
    .rcases gh.1 hm with hm|hm
     .simp[hm]
     .simp[hm]
    .have hset:∀k,(listed.setIfInBounds (off+t.i) true).getD k false=if off+t.i=k then true else listed.getD k false:=λk=>by
      simp only[oI,FB];split
      .rename_i e;subst e;simp[hsz,h1]
      .rfl
     rw[hset]at hj⊢;split
     .rfl
     .split at hj
      .rename_i e;subst e;rw[h3]at hoj;cases hoj;exact h4 d hd
      .exact hdc j oj hj hoj d hd
    .refine hit m ?_;rcases gh.1 hm with hm|hm
     .simp[hm]
     .simp[hm]
    .have hsub:(A++B).Sublist (A++t::B):=List.Sublist.append_left (List.sublist_cons_self t B) A;exact hpw.sublist hsub
end
def LQ(c:qL)(K:IX->St->Prop):Exit->Act->World->Prop
 | .normal,a,w=>∃s,K .nrm s/\cG c s a w
 | .ret,a,w=>∃s,K .ret s/\cG c s a w
 | .exit id,a,w=>∃s,K (.ext id) s/\cG c s a w
 | _,_,_=>False
section
variable{P:Program}[ba P]{c:qL}[CT c P]{n:Nat}
def Gx{p:Nat->Prop}(h:∃n,p n):∃n,p n/\∀m,m<n->¬p m:=by
 obtain⟨n,hn⟩:=h
 induction n using Nat.strongRecOn with
 | _ n ih =>
  by_cases hm:∃m,m<n/\p m
  .obtain⟨m,h1,h2⟩:=hm;exact ih m h1 h2
  .exact⟨n,hn,λm h1 h2=>hm ⟨m,h1,h2⟩⟩
open Classical in
def MI{x:Code}{Q:Exit->Act->World->Prop}{a:Act}{w:World}(I:Nat->Act->World->Prop)(h0:∃n,I n a w)
  (round:∀n a w,I n a w->x.wp P (Exit.then (λa' w'=>∃m,m<n/\I m a' w') Q) a w):(Code.loop x).wp P Q a w:=by
 refine wp_loop (λa w=>∃n,I n a w) (λa w=>if h:∃n,I n a w then Classical.choose (Gx h)else 0) h0 (λa w hI=>?_);have hc:=Classical.choose_spec (Gx hI);refine Code.wp_mono (λe a' w' hq=>?_) (round _ a w hc.1);cases e<;>try exact hq
 obtain⟨m,hm,hI'⟩:=hq;refine⟨⟨m,hI'⟩,?_⟩;rw[dif_pos ⟨m,hI'⟩,dif_pos hI];have hc':=Classical.choose_spec (Gx (p:=λn=>I n a' w') ⟨m,hI'⟩);rcases eJ m (Classical.choose (Gx (p:=λn=>I n a' w') ⟨m,hI'⟩))with h1|h1
 .exact absurd hI' (hc'.2 m h1)
 .omega
def rJ{ops:Array Oper}:∀{l:List Oper}{il:List bj},s7 P n ops l=some il->il.length=l.length/\∀(j:Nat)(io:bj),il[j]?=some io->∃o,l[j]?=some o/\nN P n ops o=some io
 | [],il,h=>by simp only[s7,cI]at h;subst h;simp
 | o::r,il,h=>by
  simp only[s7]at h;split at h
  case h_2=>cases h
  rename_i x xs h1 h2;cases h;obtain⟨h3,h4⟩:=rJ h2;refine⟨by simp[h3],λj io hj=>?_⟩;cases j with
  | zero=>simp at hj;subst hj;exact⟨o,by simp,h1⟩
  | succ j=>simp at hj;obtain⟨o',h5,h6⟩:=h4 j io hj;exact⟨o',by simpa using h5,h6⟩
def rF:∀(l:List bj)(i:Nat)(d m:Nat),(d,m)∈cW i l↔∃j o,l[j]?=some o/\DZ o=true/\d=o.dst.getD 0/\m=i+j
 | [],i,d,m=>by simp[cW]
 | o::r,i,d,m=>by
  have ih:=rF r (i+1) d m;have key:(∃j o',(o::r)[j]?=some o'/\DZ o'=true/\d=o'.dst.getD 0/\m=i+j)↔(DZ o=true/\d=o.dst.getD 0/\m=i)\/∃j o',r[j]?=some o'/\DZ o'=true/\d=o'.dst.getD 0/\m=i+1+j:=by
   constructor
   .rintro⟨j,o',h1,h2,h3,h4⟩;cases j with
    | zero=>simp at h1;subst h1;exact .inl ⟨h2,h3,by omega⟩
    | succ j=>exact .inr ⟨j,o',by simpa using h1,h2,h3,by omega⟩
   .rintro(⟨h2,h3,h4⟩|⟨j,o',h1,h2,h3,h4⟩)
    .exact⟨0,o,by simp,h2,h3,by omega⟩
    .exact⟨j+1,o',by simpa using h1,h2,h3,by omega⟩
  rw[key,<-ih];by_cases ha:DZ o=true
  .rw[show cW i (o::r)=(o.dst.getD 0,i)::cW (i+1) r from by simp[cW,ha]];simp[ha]
  .rw[show cW i (o::r)=cW (i+1) r from by simp[cW,ha]];simp[ha]
def zr:∀{l:List Nat},E4 l=true->l.Nodup
 | [],_=>by simp
 | x::r,h=>by
  simp only[E4,fQ,yO,Jj,decide_eq_false_iff_not]at h;exact List.nodup_cons.2 ⟨h.1,zr h.2⟩
def NF{al:List (Nat×Nat)}(h:(al.map (·.1)).Nodup):An al:=by
 induction al with
 | nil=>intro d m m' h1;cases h1
 | cons p r ih =>
  simp only[bY,List.nodup_cons]at h;intro d m m' h1 h2;rcases bp.1 h1 with e1|h1<;>rcases bp.1 h2 with e2|h2
  .rw[<-e1]at e2;cases e2;rfl
  .exact absurd (dN.2 ⟨(d,m'),h2,by rw[<-e1]⟩) h.1
  .exact absurd (dN.2 ⟨(d,m),h1,by rw[<-e2]⟩) h.1
  .exact ih h.2 d m m' h1 h2
def oc:∀(l:List Nat)(s:St)(d:Nat),(ae s.heap d=none/\cN d (get s.env) (ae s.heap))\/d∈l->ae (kills l s).heap d=none/\cN d (get (kills l s).env) (ae (kills l s).heap)
 | [],s,d,h=>by rcases h with h|h;exact h;cases h
 | i::r,s,d,h=>by
  refine oc r (s.kill i) d ?_;by_cases hd:d=i
  .subst hd;exact .inl (cX s d)
  .rcases h with⟨h1,h2⟩|h
   .refine .inl ⟨by simp[St.kill,fU,dO,h1],λk=>?_,λj o hj hr q hq x hx=>?_⟩
    .simp only[St.kill,jK];unfold i_;split
     .rfl
     .exact h2.1 k
    .simp only[St.kill,fU,dO,dc]at hj;obtain⟨o0,h3,rfl⟩:=hj;split at h3
     .cases h3
     .rw[su]at hr;simp only[ee,hr,dP,dN]at hq;obtain⟨q0,hq0,rfl⟩:=hq;obtain⟨x0,hx0,rfl⟩:=dN.1 hx;unfold oA;split
      .rfl
      .exact h2.2 j o0 h3 hr q0 hq0 x0 hx0
   .rcases bp.1 h with h|h
    .exact absurd h hd
    .exact .inr h
def A4{al:List (Nat×Nat)}:∀{items:List Item}{hist:List HI},Ca al hist items->(∀t∈items,(∀y∈hist,y.i∈t.bef\/Mt t.x y)/\t.x.i=t.i/\(∀d,d∈aI (pG t.ev)\/d∈(d_ t.ev).ids->∀m,(d,m)∈al->m=t.i\/m∈t.bef)) /\
  items.Pairwise (λm t=>m.i∈t.bef\/Mt t.x m.x)
 | [],_,_=>⟨by simp,List.Pairwise.nil⟩
 | t::R,hist,h=>by
  obtain⟨h1,h2,h3,h4⟩:=h;obtain⟨h5,h6⟩:=A4 h4;refine⟨λq hq=>?_,List.pairwise_cons.2 ⟨λq hq=>?_,h6⟩⟩
  .rcases bp.1 hq with rfl|hq
   .exact⟨h2,h1,h3⟩
   .exact⟨λy hy=>(h5 q hq).1 y (by simp[hy]),(h5 q hq).2⟩
  .have:=(h5 q hq).1 t.x (by simp);rwa[h1]at this
def Hk(l:List Nat):∀(f k:Nat),(∀d,d<k->d∈l)->∀d,d<dB l f k->d∈l
 | 0,k,h=>h
 | f+1,k,h=>by
  simp only[dB];split
  .rename_i hc;refine Hk l f (k+1) (λd hd=>?_);rcases eJ d k with h1|h1
   .exact h d h1
   .obtain rfl:d=k:=by omega
    simpa using hc
  .exact h
def HZ(bs:List (List Nat))(N:Nat):Nat->List bj->List (Nat×List bj)->Prop
 | _,l,[]=>l=[]
 | i,l,(k,s)::t=>k=i/\s≠[]/\∃r,l=s++r/\HZ bs N (i+s.length) r t/\(t≠[]->∀j,i+s.length<=j->j<N->∀d,d<i+s.length->d∈bs.getD j [])
def Kv(bs:List (List Nat))(N:Nat):∀(l:List bj)(i:Nat),i+l.length=N->HZ bs N i l (HF bs i l).1/\∀j,i<=j->j<N->(HF bs i l).2<=dB (bs.getD j []) j 0
 | [],i,h=>⟨rfl,λj h1 h2=>by simp at h;omega⟩
 | o::r,i,h=>by
  simp only[j1]at h;obtain⟨h1,h2⟩:=Kv bs N r (i+1) (by omega);have hm:∀(m:Nat),m=(HF bs (i+1) r).2->∀j,i<=j->j<N->min m (dB (bs.getD i []) i 0)<=dB (bs.getD j []) j 0:=λm hm j h3 h4=>by
   rcases eJ i j with h5|h5
   .exact cZ (Nat.min_le_left _ _) (by rw[hm];exact h2 j h5 h4)
   .obtain rfl:i=j:=by omega
    exact Nat.min_le_right _ _
  rw[HF];generalize hs:HF bs (i+1) r=q at*;obtain⟨t,m⟩:=q
  match t,h1 with
  | [],h1 =>
   refine⟨⟨rfl,by simp,r,rfl,h1,λh=>absurd rfl h⟩,hm m rfl⟩
  | (k,s)::t,h1 =>
   simp only;split
   .rename_i hc;refine⟨⟨rfl,by simp,r,rfl,h1,λ_ j h3 h4 d h5=>?_⟩,hm m rfl⟩;simp only[pq]at h3 h5;exact Hk _ j 0 (λd hd=>absurd hd (Nat.not_lt_zero d)) d (DQ (show d<m by omega) (h2 j h3 h4))
   .obtain⟨e1,e2,r',e3,e4,e5⟩:=h1;have e:i+1+s.length=i+(o::s).length:=by simp;omega
    refine⟨⟨rfl,by simp,r',by rw[e3];rfl,by rw[<-e];exact e4,by rw[<-e];exact e5⟩,hm m rfl⟩
def iZ{ic x:bF}(h:dp ic=x)(hx:(∃ops dr,x = .reg ops dr)\/x = .skip\/x = .ret\/∃id,x = .exit id):ic=x:=by
 rcases hx with⟨ops,dr,rfl⟩|rfl|rfl|⟨id,rfl⟩<;>cases ic<;>simp only[dp]at h<;>first|(cases h;done)|rfl|exact h
def VM(ic ic0:bF):Prop:=(ic=ic0\/∃ops al dr,ic0 = .draw ops al dr/\(ic = .wild ops al dr\/∃cs,ic = .clon cs ops al dr))\/∃ops al dr,ic0 = .draw ops al dr/\ic = .free ops al dr
def Df{ic x:bF}(h:dp ic=x)(hx:(∃ops dr,x = .reg ops dr)\/∃ops al dr,x = .draw ops al dr):VM ic x:=by
 rcases hx with⟨ops,dr,rfl⟩|⟨ops,al,dr,rfl⟩
 .exact .inl (.inl (iZ h (.inl ⟨_,_,rfl⟩)))
 .cases ic<;>simp only[dp]at h<;>first|(cases h;done)|skip
  .exact .inl (.inl h)
  .cases h;exact .inr ⟨_,_,_,rfl,rfl⟩
  .cases h;exact .inl (.inr ⟨_,_,_,rfl,.inl rfl⟩)
  .cases h;exact .inl (.inr ⟨_,_,_,rfl,.inr ⟨_,rfl⟩⟩)
def Db{α:Type}{F:α->Prop}:∀{l:List α},uE l F->∀{x:α},x∈l->F x
 | [y],h,x,hx=>by obtain rfl:=eF.1 hx;exact h
 | y::z::r,h,x,hx=>by
  rcases bp.1 hx with rfl|hx
  .exact h.1
  .exact Db h.2 hx
def Ii{R:List (Nat×aB)}{t:Nat×aB}(h:R.Pairwise (λa b=>a.1≠b.1))(ht:t∈R):(R.filter λq=>q.1 != t.1).length+1=R.length:=by
 induction R with
 | nil=>cases ht
 | cons y R ih =>
  have h1:=(List.pairwise_cons.1 h).1;have h2:=(List.pairwise_cons.1 h).2;rcases bp.1 ht with e|ht
  .subst e;have e:R.filter (λq=>q.1 != t.1)=R:=List.filter_eq_self.2 λq hq=>bne_iff_ne.2 λe=>h1 q hq e.symm;have e2:(t.1 != t.1)=false:=by simp
   rw[List.filter_cons,e2,e];rfl
  .have h3:=ih h2 ht;have e2:(y.1 != t.1)=true:=bne_iff_ne.2 (h1 t ht);rw[List.filter_cons,e2];show((R.filter λq=>q.1 != t.1).length+1)+1=R.length+1;omega
section
variable{ops:Array Oper}{bs:List (List Nat)}{L:List bj}{Q:Exit->Act->World->Prop}{a:Act}{w:World}{st:St}{KK:IX->St->Prop}{listed:Array Bool}
def nQ{i:Nat}(hsz:listed.size=ops.size)(hl:∀j,j<ops.size->(listed.getD j true=false↔i<=j))(j:Nat)(hj:j<ops.size):listed.getD j false=true↔j<i:=by
 have hgetD:listed.getD j true=listed.getD j false:=by
  have:j<listed.size:=by omega
  simp[oI,lF this]
 have:=hl j hj;rw[hgetD]at this;cases hv:listed.getD j false with
 | true=>simp[hv]at this;simpa using this
 | false=>simp[hv]at this;simpa using this
def od{i:Nat}(hO:mh ops bs)(hsz:listed.size=ops.size)(hl:∀j,j<ops.size->(listed.getD j true=false↔i<=j)) :
  ∀j o,listed.getD j false=true->ops[j]?=some o->∀d∈kX o,listed.getD d false=true:=λj o hj ho d hd=>by
 have hjs:=(j0.1 ho).1;have h1:=(nQ hsz hl j hjs).1 hj;have h2:=hO.lt j o ho d hd;exact(nQ hsz hl d (by omega)).2 (by omega)
def yL(hn:c.n=n)(hO:mh ops bs)(hL:s7 P n ops ops.toList=some L){i:Nat}{s r:List bj}(hs:L.drop i=s++r)(hne:s≠[]){dr:List Nat}{ic ic0:bF}(hc:K6 bs i s dr=some ic0)
  (hic:VM ic ic0) (hi:lz P ic st KK) (hst:cG c st a w) (hsz:listed.size=ops.size) (hl:∀j,j<ops.size->(listed.getD j true=false↔i<=j))
  (hcut:r≠[]->∀j,i+s.length<=j->j<ops.size->∀d,d<i+s.length->d∈bs.getD j [])
  (hnext:∀(st':St)(a':Act)(w':World)(listed':Array Bool),KK .nrm st'->cG c st' a' w'->listed'.size=ops.size->(∀j,j<ops.size->(listed'.getD j true=false↔i+s.length<=j))->wpAny P .any ops Q r.length listed' a' w') :
  wpAny P .any ops Q (s.length+r.length) listed a w:=by
 obtain⟨hlen,hget'⟩:=rJ hL;simp only[nD]at hlen;have hsize:i+s.length+r.length=ops.size:=by
  have h1:=congrArg List.length hs;have h2:0<s.length:=Jh.2 hne;simp only[Rq,ej,hlen]at h1;omega
 have hopi:∀(j:Nat)(io:bj),s[j]?=some io->∃o,ops[i+j]?=some o/\nN P n ops o=some io:=λj io hj=>by
  have h1:L[i+j]?=some io:=by
   rw[<-FD,hs,Ji (gW.1 hj).1];exact hj
  obtain⟨o,h2,h3⟩:=hget' (i+j) io h1;exact⟨o,by rw[<-Array.getElem?_toList];exact h2,h3⟩
 have hcut':∀j,i+s.length<=j->j<ops.size->∀d,d<i+s.length->d∈bs.getD j []:=λj h1 h2=>hcut (λe=>by subst e;simp at hsize;omega) j h1 h2;have one:∀o:bj,s=[o]->ic0 = .reg [o] dr->wpAny P .any ops Q (s.length+r.length) listed a w:=by
  rintro o rfl rfl;obtain rfl:ic = .reg [o] dr:=by
   rcases hic with(h|⟨_,_,_,h,_⟩)|⟨_,_,_,h,_⟩
   .exact h
   .cases h
   .cases h
  obtain⟨oo,h1,h2⟩:=hopi 0 o rfl;rw[Nat.add_zero]at h1;have his:=(j0.1 h1).1;rw[pq,Nat.add_comm 1];have hrd:∀k∈Region.ready .any ops listed,k=i:=λk hk=>by
   obtain⟨k1,k2,ok,k3,k4⟩:=jm.1 hk;have k5:=(hl k k1).1 k2;rcases eJ i k with h5|h5
   .exfalso;have h6:=hcut' k (by simp;omega) k1 i (by simp);have h7:=hO.listed (od hO hsz hl) k ok k3 k4 i h6;have:=(nQ hsz hl i his).1 h7;omega
   .omega
  refine⟨λhr=>?_,λk hk=>?_⟩
  .exfalso
   have:i∈Region.ready .any ops listed:=jm.2 ⟨his,(hl i his).2 (aN _),oo,h1,λd hd=>by
    have hdl:=hO.lt i oo h1 d hd;exact(nQ hsz hl d (by omega)).2 hdl⟩
   rw[hr]at this;cases this
  .obtain rfl:=hrd k hk;unfold wpOp;rw[h1];simp only[lz]at hi⊢;refine vj hn Q h2 hi hst λs' a' w' h3 h4=>?_;refine hnext _ a' w' _ h3 (cG.dels _ h4) (by simpa using hsz) (λj hj=>?_);have hset:(listed.setIfInBounds k true).getD j true=if k=j then true else listed.getD j true:=by
    simp only[oI,FB];split
    .rename_i e;subst e;simp[hsz,hj]
    .rfl
   rw[hset,pq];split
   .rename_i e;subst e;simp
   .rename_i e;rw[hl j hj];omega
 have many:Aa (sz bs i s.length) s dr=some ic0->wpAny P .any ops Q (s.length+r.length) listed a w:=by
  intro hc;unfold Aa at hc;split at hc
  case isFalse=>cases hc
  rename_i hcond;simp only[fQ]at hcond;obtain⟨⟨⟨c2,c3⟩,c4⟩,c5⟩:=hcond;cases hc;have hrel:∀k,k<s.length->∀d,d∈(sz bs i s.length).getD k []↔i+d∈bs.getD (i+k) []:=λk hk d=>by
   have e:(sz bs i s.length).getD k []=(bs.getD (i+k) []).filterMap λd=>if i<=d then some (d-i)else none:=by
    simp only[sz,List.getD_eq_getElem?_getD,fR,B2 hk,fo,gb]
   rw[e,List.mem_filterMap];constructor
   .rintro⟨q,hq,hqd⟩;split at hqd
    .cases hqd;rwa[show i+(q-i)=q by omega]
    .cases hqd
   .intro hd;exact⟨i+d,hd,by rw[aF (by omega)];congr 1;omega⟩
  rcases hic with hic|⟨_,_,_,hcc,rfl⟩
  rotate_left
  .cases hcc;simp only[lz]at hi;have key:∀(fuel:Nat)(R:List (Nat×aB))(listed:Array Bool)(st:St)(a:Act)(w:World),R.length=fuel->cG c st a w->listed.size=ops.size ->
     (∀j,j<ops.size->(listed.getD j true=false↔(∃t∈R,i+t.1=j)\/i+s.length<=j)) ->
     (∀j o,listed.getD j false=true->ops[j]?=some o->∀d∈kX o,listed.getD d false=true) ->
     (∀t∈R,t.1<s.length/\s[t.1]?=some t.2.o/\t.2.bef=(sz bs i s.length).getD t.1 [])->R.Pairwise (λa b=>a.1≠b.1) ->
     qo P fuel R st (λs'=>KK .nrm ⟨dels dr s'.env,s'.heap⟩)->wpAny P .any ops Q (fuel+r.length) listed a w:=by
    intro fuel
    induction fuel with
    | zero =>
     intro R listed st a w hlen hst hsz hli hdc hit hpw hf;have hR:R=[]:=FE.1 hlen;subst hR;rw[ga];refine hnext _ a w listed hf (cG.dels _ hst) hsz (λj hj=>?_);rw[hli j hj];exact⟨λhh=>by rcases hh with⟨t,ht,_⟩|hh;cases ht;exact hh,.inr⟩
    | succ fuel ih =>
     intro R listed st a w hlen hst hsz hli hdc hit hpw hf;have hgetD:∀j,j<ops.size->listed.getD j true=listed.getD j false:=λj hj=>by
      have:j<listed.size:=by omega
      simp[oI,lF this]
     have hopR:∀t∈R,∃o,ops[i+t.1]?=some o/\nN P n ops o=some t.2.o:=λt ht=>hopi t.1 t.2.o (hit t ht).2.1;have hun:∀t∈R,listed.getD (i+t.1) false=false:=λt ht=>by
      obtain⟨o,ho,_⟩:=hopR t ht;have hl:=(j0.1 ho).1;rw[<-hgetD _ hl];exact(hli _ hl).2 (.inl ⟨t,ht,rfl⟩)
     rw[Nat.add_right_comm];refine⟨λhr=>?_,λk hk=>?_⟩
     .exfalso;have hex:∃m,∃t∈R,t.1=m:=by
       cases R with
       | nil=>simp at hlen
       | cons t R=>exact⟨t.1,t,by simp,rfl⟩
      obtain⟨m,⟨t,ht,rfl⟩,hmin⟩:=Gx hex;obtain⟨o,ho,_⟩:=hopR t ht;have hlt:=(j0.1 ho).1
      have:i+t.1∈Region.ready .any ops listed:=jm.2 ⟨hlt,(hli _ hlt).2 (.inl ⟨t,ht,rfl⟩),o,ho,λd hd=>by
       have hdl:=hO.lt (i+t.1) o ho d hd;have hds:d<ops.size:=by omega
       cases hv:listed.getD d false with
       | true=>rfl
       | false =>
        rw[<-hgetD d hds]at hv;rcases(hli d hds).1 hv with⟨q,hq,hqi⟩|hz
        .exact absurd ⟨q,hq,rfl⟩ (hmin q.1 (by omega))
        .have:=(hit t ht).1;omega⟩
      rw[hr]at this;cases this
     .obtain⟨k1,k2,o,k3,k4⟩:=jm.1 hk;have hbefs:∀d∈bs.getD k [],listed.getD d false=true:=hO.listed hdc k o k3 k4;have hkR:∃t∈R,i+t.1=k:=by
       rcases(hli k k1).1 k2 with hh|hz
       .exact hh
       .exfalso;cases R with
        | nil=>simp at hlen
        | cons t R =>
         have h1:=(hit t (by simp)).1;have h2:=hbefs _ (hcut' k hz k1 (i+t.1) (by omega));rw[hun t (by simp)]at h2;cases h2
      obtain⟨t,ht,rfl⟩:=hkR;obtain⟨oo,ho,hco⟩:=hopR t ht;rw[k3]at ho;cases ho;have htr:t∈rdy R:=by
       unfold rdy;rw[List.mem_filter];refine⟨ht,f_.2 λq hq=>?_⟩;cases hb:t.2.bef.contains q.1 with
       | false=>rfl
       | true =>
        exfalso;have h1:q.1∈t.2.bef:=by simpa using hb
        rw[(hit t ht).2.2,hrel t.1 (hit t ht).1]at h1;have h2:=hbefs _ h1;rw[hun q hq]at h2;cases h2
      have hft:=Db hf htr;unfold wpOp;rw[k3];simp only;refine vj hn Q hco hft hst λs' a' w' h3 h4=>?_;have hfl:=Ii hpw ht;refine ih (R.filter λq=>q.1 != t.1) (listed.setIfInBounds (i+t.1) true) s' a' w' (by omega) h4 (by simpa using hsz) (λj hj=>?_) (λj oj hj hoj d hd=>?_) (λq hq=>hit q (List.mem_filter.1 hq).1) (hpw.sublist List.filter_sublist) h3
      .have hset:(listed.setIfInBounds (i+t.1) true).getD j true=if i+t.1=j then true else listed.getD j true:=by
        simp only[oI,FB];split
        .rename_i e;subst e;simp[hsz,k1]
        .rfl
       rw[hset];constructor
       .intro hv;split at hv
        .cases hv
        .rename_i hne;rcases(hli j hj).1 hv with⟨q,hq,hqi⟩|hz
         .exact .inl ⟨q,List.mem_filter.2 ⟨hq,by simp;omega⟩,hqi⟩
         .exact .inr hz
       .rintro(⟨q,hq,hqi⟩|hz)
        .obtain⟨hq1,hq2⟩:=List.mem_filter.1 hq;have hq3:q.1≠t.1:=by simpa using hq2
         rw[ax (by omega)];exact(hli j hj).2 (.inl ⟨q,hq1,hqi⟩)
        .have h1:=(hit t ht).1;rw[ax (by omega)];exact(hli j hj).2 (.inr hz)
      .have hset:∀k,(listed.setIfInBounds (i+t.1) true).getD k false=if i+t.1=k then true else listed.getD k false:=λk=>by
        simp only[oI,FB];split
        .rename_i e;subst e;simp[hsz,k1]
        .rfl
       rw[hset]at hj⊢;split
       .rfl
       .split at hj
        .rename_i e;subst e;rw[k3]at hoj;cases hoj;exact k4 d hd
        .exact hdc j oj hj hoj d hd
   have hzl:((s.zipIdx.map λp=>(⟨p.1,(sz bs i s.length).getD p.2 []⟩:aB)).zipIdx.map λp=>(p.2,p.1)).length=s.length:=by simp
   have hzm:∀t,t∈((s.zipIdx.map λp=>(⟨p.1,(sz bs i s.length).getD p.2 []⟩:aB)).zipIdx.map λp=>(p.2,p.1))↔t.1<s.length/\s[t.1]?=some t.2.o/\t.2.bef=(sz bs i s.length).getD t.1 []:=λt=>by
    obtain⟨t1,⟨t2,t3⟩⟩:=t;rw[dN];constructor
    .rintro⟨p,hp,he⟩;obtain⟨p1,p2⟩:=p;cases he;rw[List.mem_zipIdx_iff_getElem?]at hp;simp only[fR,List.getElem?_zipIdx,Option.map_map,dc,Function.comp]at hp;obtain⟨io,h1,h2⟩:=hp;cases h2;exact⟨(gW.1 h1).1,h1,by simp⟩
    .rintro⟨h1,h2,h3⟩;refine⟨(⟨t2,t3⟩,t1),?_,rfl⟩;rw[List.mem_zipIdx_iff_getElem?];simp only at h1 h2 h3⊢;simp[h2,h3]
   rw[bP,List.length_zipIdx]at hi;refine key s.length _ listed st a w hzl hst hsz (λj hj=>?_) (od hO hsz hl) (λt ht=>(hzm t).1 ht) ?_ hi
   .rw[hl j hj];constructor
    .intro hij;rcases eJ j (i+s.length)with h1|h1
     .exact .inl ⟨(j-i,⟨s[j-i]'(by omega),(sz bs i s.length).getD (j-i) []⟩),(hzm _).2 ⟨by simp only;omega,jZ _,rfl⟩,by simp only;omega⟩
     .exact .inr h1
    .rintro(⟨t,ht,h1⟩|h1)
     .omega
     .omega
   .refine List.pairwise_map.2 ?_
    exact(List.nodup_iff_pairwise_ne.1 (by
     have:((s.zipIdx.map λp=>(⟨p.1,(sz bs i s.length).getD p.2 []⟩:aB)).zipIdx.map Prod.snd).Nodup:=by
      rw[List.zipIdx_map_snd];exact List.nodup_range'
     exact this):List.Pairwise _ _) |> List.pairwise_map.1
  have hone:An (cW 0 s):=NF (zr c4);have hal:∀d m,(d,m)∈cW 0 s->d<1000:=λd m hd=>by simpa using f_.1 c3 (d,m) hd
  have hlz:∀(j:Nat)(o:aB),(s.zipIdx.map λp=>(⟨p.1,(sz bs i s.length).getD p.2 []⟩:aB))[j]?=some o->s[j]?=some o.o/\o.bef=(sz bs i s.length).getD j []:=λj o hj=>by
   simp only[fR,List.getElem?_zipIdx,Option.map_map,dc,Function.comp]at hj;obtain⟨io,h1,rfl⟩:=hj;exact⟨h1,by simp⟩
  have hun:Un (cW 0 s) (λm=>0<=m) (get (kills ((cW 0 s).map (·.1)) st).env) (ae (kills ((cW 0 s).map (·.1)) st).heap):=(λd m hdm _=>oc _ st d (.inr (dN.2 ⟨(d,m),hdm,rfl⟩)))
  have hpl:∀(j:Nat)(o:aB),(s.zipIdx.map λp=>(⟨p.1,(sz bs i s.length).getD p.2 []⟩:aB))[j]?=some o->(DZ o.o=true->(o.o.dst.getD 0,0+j)∈cW 0 s)/\(∀m∈o.bef,m<0+j)/\bK o.o.op=true:=(λj o hj=>by
   obtain⟨h1,h2⟩:=hlz j o hj;obtain⟨oo,h3,h4⟩:=hopi j o.o h1;have hjl:=(gW.1 h1).1;refine⟨λha=>(rF s 0 _ _).2 ⟨j,o.o,h1,ha,rfl,by omega⟩,λm hm=>?_,f_.1 c5 o.o (nF h1)⟩;rw[h2,hrel j hjl]at hm;have:=hO.bef_lt (i+j) oo h3 _ hm;omega)
  have trace:∃(items:List Item)(s':St),KK .nrm ⟨dels dr s'.env,s'.heap⟩/\T P items (get (kills ((cW 0 s).map (·.1)) st).env) (ae (kills ((cW 0 s).map (·.1)) st).heap) (get s'.env) (ae s'.heap)/\Ca (cW 0 s) [] items/\items.map Item.i=List.range' 0 (s.zipIdx.map λp=>(⟨p.1,(sz bs i s.length).getD p.2 []⟩:aB)).length/\items.map (λt=>(⟨t.o,t.bef⟩:aB))=s.zipIdx.map λp=>(⟨p.1,(sz bs i s.length).getD p.2 []⟩:aB):=by
   rcases hic with rfl|⟨_,_,_,hcc,rfl|⟨cs,rfl⟩⟩
   .simp only[lz]at hi;exact zn hone _ 0 [] _ _ hi hun (λy hy=>by cases hy) hpl
   .cases hcc;simp only[lz]at hi;exact Ej hone _ _ _ hi hun hpl
   .cases hcc;simp only[lz]at hi;exact @zn _ _ _ ⟨cs⟩ hone _ 0 [] _ _ hi hun (λy hy=>by cases hy) hpl
  obtain⟨items,s',hK,hT,hH,hidx,hmap⟩:=trace;obtain⟨bl,hk⟩:=cG.kills ((cW 0 s).map (·.1)) hst;have hilen:items.length=s.length:=by
   have:=congrArg List.length hmap;simp at this;omega
  have hitem:∀(j:Nat)(t:Item),items[j]?=some t->t.i=j/\s[j]?=some t.o/\t.bef=(sz bs i s.length).getD j []:=λj t hj=>by
   have h1:(items.map Item.i)[j]?=some t.i:=by simp[hj]
   rw[hidx]at h1;have h2:(items.map λt=>(⟨t.o,t.bef⟩:aB))[j]?=some ⟨t.o,t.bef⟩:=by simp[hj]
   rw[hmap]at h2;obtain⟨h3,h4⟩:=hlz j _ h2;refine⟨?_,h3,h4⟩
   rw[List.getElem?_range' (by
    have:=(gW.1 h1).1;simpa using this)]at h1
   simp at h1;omega
  have hmem:∀t∈items,t.i<s.length/\items[t.i]?=some t:=λt ht=>by
   obtain⟨j,hj⟩:=List.getElem?_of_mem ht;have:=(hitem j t hj).1;subst this;exact⟨by rw[<-hilen];exact(gW.1 hj).1,hj⟩
  obtain⟨hp1,hp2⟩:=A4 hH;refine KV (Q:=Q) hn hone hal hO i r.length (λj=>i+s.length<=j/\j<ops.size) (λlisted' a' w' bl' h1 h2 h3=>hnext _ a' w' listed' hK (cG.dels _ ⟨bl',h3⟩) h1 (λj hj=>by rw[h2 j hj];exact⟨λh=>h.1,λh=>⟨h,hj⟩⟩)) s.length items listed _ _ a w bl hilen hsz hk hT ?_ (λj hj=>?_) (λj hz t ht=>?_) (od hO hsz hl) (λt ht=>?_) ?_
  .intro d m hdm _;exact oc _ st d (.inr (dN.2 ⟨(d,m),hdm,rfl⟩))
  .rw[hl j hj];constructor
   .intro hij;rcases eJ j (i+s.length)with h1|h1
    .have hj':j-i<items.length:=by omega
     exact .inl ⟨items[j-i],gO hj',by rw[(hitem (j-i) _ (jZ hj')).1];omega⟩
    .exact .inr ⟨h1,hj⟩
   .rintro(⟨t,ht,h1⟩|h1)<;>omega
  .exact hcut' j hz.1 hz.2 _ (by have:=(hmem t ht).1;omega)
  .obtain⟨h1,h2⟩:=hmem t ht;obtain⟨_,h3,h4⟩:=hitem t.i t h2;obtain⟨oo,h5,h6⟩:=hopi t.i t.o h3;exact⟨oo,h5,h6,λd hd=>by rw[h4,hrel t.i h1]at hd;exact hd,f_.1 c5 t.o (nF h3),λha=>(rF s 0 _ _).2 ⟨t.i,t.o,h3,ha,rfl,by omega⟩,(hp1 t ht).2.2⟩
  .refine List.pairwise_iff_getElem.2 λi' j hi' hj hij=>?_;have e1:=hitem i' _ (jZ hi');have e2:=hitem j _ (jZ hj);refine⟨by rw[e1.1,e2.1];exact hij,?_⟩;rcases List.pairwise_iff_getElem.1 hp2 i' j hi' hj hij with h1|h1
   .exact .inl h1
   .by_cases hb:items[i'].i∈items[j].bef
    .exact .inl hb
    .refine .inr ⟨?_,h1⟩;have hap:=f_.1 (f_.1 c2 j (List.mem_range.2 (by omega))) i' (List.mem_range.2 hij);simp only[e1.2.1,e2.2.1,B4,Jj,tT,fQ]at hap;rw[e1.1,e2.2.2]at hb;rcases hap with hap|⟨hap1,hap2⟩
     .exact absurd hap hb
     .refine⟨λd hd=>?_,λd hd=>?_⟩
      .rw[hd]at hap1;simp only[fQ,yO,decide_eq_false_iff_not,bne_iff_ne]at hap1;exact⟨hap1.1,hap1.2⟩
      .rw[hd]at hap2;simpa using hap2
 unfold K6 at hc;split at hc
 .exact one _ rfl (by cases hc;rfl)
 .exact many hc
end
def Dg{ic x y:bF}(h:dp ic = .seq x y):∃x' y',dp x'=x/\dp y'=y/\(ic = .seq x' y'\/ic = .cut x' y'):=by
 cases ic<;>simp only[dp]at h<;>first|(cases h;done)|skip
 .rename_i x' y';cases h;exact⟨x',y',rfl,rfl,.inl rfl⟩
 .rename_i x' y';cases h;exact⟨x',y',rfl,rfl,.inr rfl⟩
def Id{ic x y:bF}{v:IV}(h:dp ic = .cond v x y):∃x' y',dp x'=x/\dp y'=y/\ic = .cond v x' y':=by
 cases ic<;>simp only[dp]at h<;>first|(cases h;done)|skip
 rename_i x' y';cases h;exact⟨x',y',rfl,rfl,rfl⟩
def F9{ic x:bF}{id:Nat}(h:dp ic = .block id x):∃x',dp x'=x/\ic = .block id x':=by
 cases ic<;>simp only[dp]at h<;>first|(cases h;done)|skip
 rename_i x';cases h;exact⟨x',rfl,rfl⟩
def Ie{ic x:bF}(h:dp ic = .loop x):∃x',dp x'=x/\ic = .loop x':=by
 cases ic<;>simp only[dp]at h<;>first|(cases h;done)|skip
 rename_i x';cases h;exact⟨x',rfl,rfl⟩
section
variable{ops:Array Oper}{bs:List (List Nat)}{L:List bj}{Q:Exit->Act->World->Prop}
def AD{i:Nat}{s:List bj}{dr:List Nat}{ic:bF}(hc:K6 bs i s dr=some ic):(∃ops dr,ic = .reg ops dr)\/∃ops al dr,ic = .draw ops al dr:=by
 unfold K6 at hc;split at hc
 .cases hc;exact .inl ⟨_,_,rfl⟩
 .unfold Aa at hc;split at hc
  .cases hc;exact .inr ⟨_,_,_,rfl⟩
  .cases hc
def I3(hn:c.n=n)(hO:mh ops bs)(hL:s7 P n ops ops.toList=some L){dr:List Nat}{K:IX->St->Prop} :
  ∀(t:List (Nat×List bj))(i:Nat)(l:List bj)(ic0 ic:bF)(st:St)(a:Act)(w:World)(listed:Array Bool),HZ bs ops.size i l t->L.drop i=l->C7 bs dr t=some ic0->dp ic=ic0->lz P ic st K->cG c st a w ->
   listed.size=ops.size->(∀j,j<ops.size->(listed.getD j true=false↔i<=j))->wpAny P .any ops (LQ c K) l.length listed a w:=by
 intro t
 induction t with
 | nil =>
  intro i l ic0 ic st a w listed hok hd hc he hi hst hsz hl;obtain rfl:l=[]:=hok;simp only[C7,cI]at hc;subst hc;rw[iZ he (.inl ⟨_,_,rfl⟩)]at hi;simp only[lz,i3]at hi;obtain⟨hlen,_⟩:=rJ hL;simp only[nD]at hlen;have hsize:ops.size<=i:=by
   have:=congrArg List.length hd;simp only[Rq,hlen,iN]at this;omega
  refine⟨List.eq_nil_iff_forall_not_mem.2 λj hj=>?_,⟨_,hi,cG.dels _ hst⟩⟩;obtain⟨h1,h2,_⟩:=jm.1 hj;have:=(hl j h1).1 h2;omega
 | cons p t ih =>
  intro i l ic0 ic st a w listed hok hd hc he hi hst hsz hl;obtain⟨k,s⟩:=p;obtain⟨rfl,hne,r,rfl,hok',hcut⟩:=hok;rw[ej];cases t with
  | nil =>
   obtain rfl:r=[]:=hok';simp only[C7]at hc;have he':=Df he (AD hc);refine yL (Q:=LQ c K) hn hO hL hd hne hc he' hi hst hsz hl (λh=>absurd rfl h) (λst' a' w' listed' h1 h2 h3 h4=>?_);obtain⟨hlen,_⟩:=rJ hL;simp only[nD]at hlen;have hsize:ops.size<=k+s.length:=by
    have:=congrArg List.length hd;simp only[Rq,hlen,ej,iN]at this;omega
   refine⟨List.eq_nil_iff_forall_not_mem.2 λj hj=>?_,⟨_,h1,h2⟩⟩;obtain⟨g1,g2,_⟩:=jm.1 hj;have:=(h4 j g1).1 g2;omega
  | cons q t =>
   simp only[C7]at hc;split at hc
   case h_2=>cases hc
   rename_i x y hx hy;cases hc;obtain⟨x',y',e1,e2,e3⟩:=Dg he;have e4:=Df e1 (AD hx);have hd':L.drop (k+s.length)=r:=by rw[<-MM,hd,List.drop_left]
   rcases e3 with rfl|rfl
   .refine yL (Q:=LQ c K) hn hO hL hd hne hx e4 hi hst hsz hl (λ_=>hcut (by simp)) (λst' a' w' listed' h1 h2 h3 h4=>?_);exact ih (k+s.length) r y y' st' a' w' listed' hok' hd' hy e2 h1 h2 h3 h4
   .refine yL (Q:=LQ c K) hn hO hL hd hne hx e4 hi hst hsz hl (λ_=>hcut (by simp)) (λst' a' w' listed' h1 h2 h3 h4=>?_);obtain⟨s'',hwk,hk⟩:=h1;exact ih (k+s.length) r y y' s'' a' w' listed' hok' hd' hy e2 hk (hwk _ _ _ h2) h3 h4
end
def Ia{ops:Array Oper}{dr:List Nat->List Nat}{ic0 ic:bF}{id:Nat}{s:St}{K:IX->St->Prop}{a:Act}{w:World}(hm:P.follows .mixedOrders=true)(hc:Jr P n ops dr=some ic0)(he:dp ic=ic0)(hn:c.n=n)(hi:lz P ic s K)(hs:cG c s a w) :
  (Code.region id ops true).wp P (LQ c K) a w:=by
 unfold Jr at hc;split at hc
 .cases hc
 rename_i l hl;split at hc
 case isFalse=>cases hc
 rename_i c1;obtain⟨hlen,_⟩:=rJ hl;simp only[nD]at hlen;refine wp_region_any hm ?_;obtain⟨bl,hs⟩:=hs;have h1:=I3 (K:=K) hn (IR c1) hl (HF (NH ops.toList []) 0 l).1 0 l ic0 ic s a {w with drawn:=w.drawn+1} (Array.replicate ops.size false) (Kv _ ops.size l 0 (by omega)).1 rfl hc he hi ⟨bl,hs.world rfl rfl rfl⟩ (by simp) (λj hj=>by simp[oI,hj]);rw[hlen]at h1;exact h1
def vc(hm:P.follows .mixedOrders=true)(hn:c.n=n){sh:List (List Nat)}:∀(x:Code)(ic0:bF),comp P n sh x=some ic0->∀(ic:bF),dp ic=ic0->∀(s:St)(K:IX->St->Prop)(a:Act)(w:World),lz P ic s K->cG c s a w->x.wp P (LQ c K) a w:=by
 intro x
 induction x with
 | skip=>intro ic0 hc ic he s K a w hi hs;simp only[comp,cI]at hc;subst hc;rw[iZ he (by simp)]at hi;exact wp_skip ⟨s,hi,hs⟩
 | ret=>intro ic0 hc ic he s K a w hi hs;simp only[comp,cI]at hc;subst hc;rw[iZ he (by simp)]at hi;exact wp_ret ⟨s,hi,hs⟩
 | exit id=>intro ic0 hc ic he s K a w hi hs;simp only[comp,cI]at hc;subst hc;rw[iZ he (by simp)]at hi;exact wp_exit ⟨s,hi,hs⟩
 | label l=>intro ic0 hc ic he s K a w hi hs;simp only[comp,cI]at hc;subst hc;rw[iZ he (by simp)]at hi;exact wp_label ⟨s,hi,hs⟩
 | seq x y ihx ihy =>
  intro ic0 hc ic he s K a w hi hs;simp only[comp]at hc;split at hc
  case h_2=>cases hc
  rename_i ix iy h1 h2;cases hc;obtain⟨x',y',e1,e2,e3⟩:=Dg he;rcases e3 with rfl|rfl
  .refine wp_seq (Code.wp_mono (λe a' w' hq=>?_) (ihx ix h1 x' e1 s _ a w hi hs));cases e with
   | normal=>obtain⟨s',hk,hs'⟩:=hq;exact ihy iy h2 y' e2 s' K a' w' hk hs'
   | _=>exact hq
  .refine wp_seq (Code.wp_mono (λe a' w' hq=>?_) (ihx ix h1 x' e1 s _ a w hi hs));cases e with
   | normal=>obtain⟨s',⟨s'',hwk,hk⟩,hs'⟩:=hq;exact ihy iy h2 y' e2 s'' K a' w' hk (hwk _ _ _ hs')
   | _=>exact hq
 | cond v x y ihx ihy =>
  intro ic0 hc ic he s K a w hi hs;simp only[comp]at hc;split at hc
  case h_2=>cases hc
  rename_i iv ix iy h0 h1 h2;cases hc;obtain⟨x',y',e1,e2,rfl⟩:=Id he;simp only[lz]at hi;split at hi
  case h_2=>exact hi.elim
  rename_i b hv;obtain⟨bl,hsb⟩:=hs;have hvr:=aO hsb h0;rw[hv]at hvr;have href:∀q,b=q->cG c (refine iv q s) a w:=λq hq=>by
   cases iv with
   | c y=>exact⟨bl,hsb⟩
   | s k=>exact⟨bl,hsb.congr (λj=>by rw[show refine (.s k) q s=s.put (some k) (.bool q) from rfl,vh hv hq]) (λj=>rfl)⟩
  refine wp_cond hvr.bool ?_;cases b with
  | true=>exact ihx ix h1 x' e1 _ K a w (hi.1 rfl) (href true rfl)
  | false=>exact ihy iy h2 y' e2 _ K a w (hi.2 rfl) (href false rfl)
 | block id x ih =>
  intro ic0 hc ic he s K a w hi hs;simp only[comp,dc]at hc;obtain⟨ix,h1,rfl⟩:=hc;obtain⟨x',e1,rfl⟩:=F9 he;refine wp_block (Code.wp_mono (λe a' w' hq=>?_) (ih ix h1 x' e1 s _ a w hi hs));cases e with
  | exit j =>
   obtain⟨s',hk,hs'⟩:=hq;simp only at hk;simp only[Exit.inBlock];split
   .rename_i hj;rw[aF hj]at hk;exact⟨s',hk,hs'⟩
   .rename_i hj;rw[ax hj]at hk;exact⟨s',hk,hs'⟩
  | _=>exact hq
 | loop x ih =>
  intro ic0 hc ic he s K a w hi hs;simp only[comp,dc]at hc;obtain⟨ix,h1,rfl⟩:=hc;obtain⟨x',e1,rfl⟩:=Ie he;obtain⟨I,⟨m,s0,h0,hwk⟩,hstep⟩:=hi;refine MI (λm a w=>∃s,I m s/\cG c s a w) ⟨m,s0,h0,hwk _ _ _ hs⟩ (λm a w ⟨s,hI,hs⟩=>?_);refine Code.wp_mono (λe a' w' hq=>?_) (ih ix h1 x' e1 s _ a w (hstep m s hI) hs);cases e with
  | normal =>
   obtain⟨s',⟨m',s'',h2,h3,h4⟩,hs'⟩:=hq;exact⟨m',h2,s'',h3,h4 _ _ _ hs'⟩
  | _=>exact hq
 | scope x ih =>
  intro ic0 hc ic he s K a w hi hs;simp only[comp]at hc;refine wp_scope_straight (Code.wp_mono (λe a' w' hq=>?_) (ih ic0 hc ic he s K a w hi hs));cases e<;>exact hq
 | region id ops d =>
  intro ic0 hc ic he s K a w hi hs;cases d with
  | true =>
   simp only[comp]at hc;exact Ia hm hc he hn hi hs
  | false =>
   simp only[comp]at hc;split at hc
   case h_2=>cases hc
   rename_i l hl;cases hc;rw[iZ he (.inl ⟨_,_,rfl⟩)]at hi;simp only[lz]at hi;exact wp_region_list (A_ hn _ ops.toList l hl s _ a w hi hs (λs' a' w' hk hs'=>⟨_,hk,cG.dels _ hs'⟩))
 | rangeFunc f ps as b=>intro ic0 hc;simp[comp]at hc
 | goto l=>intro ic0 hc;simp[comp]at hc
 | refuse y=>intro ic0 hc;simp[comp]at hc
end
def Hd:AV->Bool
 | .any=>false
 | .tup _=>false
 | _=>true
def JU(s:St):nx->Option AV
 | .tmp k=>if Hd (get s.env k)then some (get s.env k)else none
 | .cell k n=>match lS n (get s.env k) (ae s.heap)with
  | some x=>if Hd x then some x else none
  | none=>none
def Gt(s:St):List nx->Option (List AV)
 | []=>some []
 | x::r=>match JU s x,Gt s r with
  | some y,some l=>some (y::l)
  | _,_=>none
def tc(l:List nx)(s:St):Option AV :=
 match Gt s l with
 | some [x]=>some x
 | some l=>some (.tup l)
 | none=>none
def fW:Nat->List AV->List (Nat×AV)
 | _,[]=>[]
 | i,x::r=>(i,x)::fW (i+1) r
def AZ:∀(l:List AV)(i k:Nat),get (fW i l) k=if i<=k then(l[k-i]?).getD .any else .any
 | [],i,k=>by simp[fW,get]
 | x::r,i,k=>by
  simp only[fW,get];by_cases h:i=k
  .subst h;simp
  .rw[ax h,AZ r (i+1) k];by_cases h2:i+1<=k
   .rw[aF h2,aF (by omega),show k-i=(k-(i+1))+1 by omega,zW]
   .rw[ax h2];by_cases h3:i<=k
    .omega
    .rw[ax h3]
def zl(E:List (Nat×AV)):∀(l:List AV)(i k:Nat),get (fW i l++E) k=if i<=k then(match l[k-i]? with|some x=>x|none=>get E k)else get E k
 | [],i,k=>by simp[fW]
 | x::r,i,k=>by
  simp only[fW,tU,get];by_cases h:i=k
  .subst h;simp
  .rw[ax h,zl E r (i+1) k];by_cases h2:i+1<=k
   .rw[aF h2,aF (by omega),show k-i=(k-(i+1))+1 by omega,zW]
   .rw[ax h2];by_cases h3:i<=k
    .omega
    .rw[ax h3]
def JN:∀{l:List (Nat×AV)}{k:Nat},get l k = .any\/(k,get l k)∈l
 | [],k=>.inl rfl
 | (j,x)::r,k=>by
  simp only[get];split
  .rename_i h;subst h;exact .inr (by simp)
  .rcases JN (l:=r) (k:=k)with h|h
   .exact .inl h
   .exact .inr (by simp[h])
section
variable{P:Program}[ba P]{c:qL}[CT c P]{bl:Nat->Option Nat}{a:Act}{w:World}{s:St}
def Uo{M:Nat->Prop}{v:Value}{x:AV}(hx:Hd x=true)(hv:aY bl M w v x):eY bl M w v x:=by
 cases x<;>first|(simp[Hd]at hx;done)|exact hv
def rv1(tmps:Array Value):ResultVar->Sem Value
 | .tmp t=>Pure.pure (tmps.getD t undef)
 | .cell q t=>do loadVar t (<-asAddr (tmps.getD q undef))
def IY(fn:Func)(tmps:Array Value):results fn tmps=(do let vs <-fn.results.mapM (rv1 tmps);Pure.pure (if h:vs.size=1 then vs[0]else .tuple vs)):=by
 unfold results;congr 1
def Ba(hs:aH c bl (get s.env) (ae s.heap) a w):∀(rv:List ResultVar)(l:List nx),yf P rv=some l->∀(xs:List AV),Gt s l=some xs ->
  ∃vs:List Value,(rv.mapM (rv1 a.tmps)).run P w = .ok vs w/\aR (eY bl (bz bl c.MF (ae s.heap)) w) vs xs
 | [],l,hc,xs,hx=>by
  simp only[yf,cI]at hc;subst hc;simp only[Gt,cI]at hx;subst hx;exact⟨[],by simp,trivial⟩
 | .tmp t::r,l,hc,xs,hx=>by
  simp only[yf]at hc;split at hc
  case isFalse=>cases hc
  rename_i hlo;simp only[dc]at hc;obtain⟨l',h1,rfl⟩:=hc;simp only[Gt]at hx;split at hx
  case h_2=>cases hx
  rename_i y l2 h2 h3;cases hx;simp only[JU]at h2;split at h2
  case isFalse=>cases h2
  rename_i hok;cases h2;obtain⟨vs,h4,h5⟩:=Ba hs r l' h1 l2 h3;refine⟨a.tmps.getD t undef::vs,?_,Uo hok (by rw[<-zw hlo];exact hs.env t),h5⟩;simp only[List.mapM_cons,rv1,lp,sJ,mF,h4]
 | .cell q t::r,l,hc,xs,hx=>by
  simp only[yf]at hc;split at hc
  case h_2=>cases hc
  rename_i n l' h0 h1;split at hc
  case isFalse=>cases hc
  rename_i hlo;cases hc;simp only[Gt]at hx;split at hx
  case h_2=>cases hx
  rename_i y l2 h2 h3;cases hx;simp only[JU]at h2;split at h2
  case h_2=>cases h2
  rename_i y' hld;split at h2
  case isFalse=>cases h2
  rename_i hok;cases h2;obtain⟨vs,h4,h5⟩:=Ba hs r l' h1 l2 h3;have hq:=hs.env q;rw[zw hlo]at hq;have fin:∀{b off:Nat}{cells:List AV},a.tmps.getD q undef = .pointer (some ⟨b,off,none⟩)->eP bl (bz bl c.MF (ae s.heap)) w b off cells->ww n cells=some y ->
    ∃vs:List Value,((ResultVar.cell q t::r).mapM (rv1 a.tmps)).run P w = .ok vs w/\aR (eY bl (bz bl c.MF (ae s.heap)) w) vs (y::l2):=λhv hcl hl=>by
   obtain⟨u,h6,h7⟩:=nV h0 hcl hl;refine⟨u::vs,?_,h7,h5⟩;simp only[List.mapM_cons,rv1,lp,hv,asAddr,sJ,mF,h6,h4]
  cases hval:get s.env q<;>rw[hval]at hld hq<;>simp only[lS]at hld<;>try cases hld
  case ip cells =>
   obtain⟨b,off,h6,h7⟩:=eP.of_ip hq;exact fin h6 h7 hld
  case mp id st row off =>
   split at hld
   case h_2=>cases hld
   rename_i ob hob;split at hld
   case isFalse=>cases hld
   rename_i hst;split at hld
   case h_2=>cases hld
   rename_i rr hr;obtain⟨b,hb,h6⟩:=hq.mp;rw[<-hst]at h6;exact fin h6 ((eP.of_obj hs hob hb hr).drop off) hld
def OZ{fn:Func}{l:List nx}{r:AV}(hs:aH c bl (get s.env) (ae s.heap) a w)(hc:yf P fn.results.toList=some l)(hr:tc l s=some r) :
  ∃v,(results fn a.tmps).run P w = .ok v w/\aY bl (bz bl c.MF (ae s.heap)) w v r:=by
 unfold tc at hr;cases hx:Gt s l with
 | none=>rw[hx]at hr;cases hr
 | some xs =>
  obtain⟨vs,h1,h2⟩:=Ba hs _ l hc xs hx;have hrun:∀v,v=(if h:vs.toArray.size=1 then vs.toArray[0]else .tuple vs.toArray)->(results fn a.tmps).run P w = .ok v w:=λv hv=>by
   subst hv;rw[IY,lp,Array.mapM_eq_mapM_toList,Sem.run_map,h1];rfl
  rw[hx]at hr;cases xs with
  | nil =>
   cases hr;cases vs with
   | cons=>exact h2.elim
   | nil=>exact⟨_,hrun _ rfl,[],by simp,trivial⟩
  | cons x xs =>
   cases xs with
   | nil =>
    cases hr;cases vs with
    | nil=>exact h2.elim
    | cons v vs =>
     cases vs with
     | cons=>exact h2.2.elim
     | nil=>exact⟨v,hrun _ (by simp),h2.1.toV⟩
   | cons y ys =>
    cases hr;have hl:=h2.length;refine⟨_,hrun _ rfl,vs,?_,h2⟩;rw[dif_neg (by simp[hl])]
def B_(l:List nx)(Post:AV->List (Nat×aj)->Prop)(e:IX)(s:St):Prop :=
 (∀j,e≠.ext j)/\∃s1,Wk s s1/\∃fs r σ',tc l (frzs fs s1)=some r/\(∀i o,ae σ' i=some o->ae (frzs fs s1).heap i=some o)/\ra r σ'/\Post r σ'
def Io{f:FuncId}{F:av}{ic:bF}{args:List AV}{σ:List (Nat×aj)}{Post:AV->List (Nat×aj)->Prop}(E:List (Nat×AV))(hE:∀p∈E,p∈(ba.T P).env)(hm:P.follows .mixedOrders=true)(hf:qm P f=some F)(hic:dp ic=F.body)(hlen:args.length=F.np)
  (hi:lz P ic ⟨fW 0 args++E,σ⟩ (B_ F.res Post)):aZ P f args σ (λid=>1000<=id/\id<2000) Post:=by
 unfold qm at hf;split at hf
 .cases hf
 rename_i fn hfn;split at hf
 .cases hf
 rename_i body hbody;split at hf
 case h_2=>cases hf
 rename_i b rs hb hrs;split at hf
 case isFalse=>cases hf
 rename_i hnp;cases hf;intro bl MF w cargs hTH hTW hH hMF hargs;have hal:cargs.length=fn.params.size+fn.nfree:=by rw[hargs.length];exact hlen
 let c:qL:=⟨w,bl,nY bl σ,MF,fn.ntmps,ba.T P,hTH,λb hb ⟨id,o,h1,h2⟩=>hTW b hb (.inr ⟨id,o,h1,h2⟩),λb hb hm=>hTW b hb (.inl hm),hnp.2⟩
 haveI:CT c P:=⟨rfl⟩
 have hs:aH c bl (get (fW 0 args++E)) (ae σ) ⟨cargs.toArray++Array.replicate (fn.ntmps-cargs.toArray.size) undef,[]⟩ w:=by
  refine⟨rfl,by simp[c];omega,λk=>?_,hH,gR.refl _ _,λid o q h1 h2=>.inr ⟨id,o,h1,h2⟩,λ_ _ _=>rfl,hMF⟩;rw[zl];simp only[cR,dP,Nat.sub_zero];cases hk:args[k]? with
  | none =>
   simp only;rcases JN (l:=E) (k:=k)with hg|hg
   .rw[hg];trivial
   .obtain⟨h1,h2⟩:=(ba.T P).rel w (bz bl MF (ae σ)) hTH hTW _ (hE _ hg);have e:tv ⟨cargs.toArray++Array.replicate (fn.ntmps-cargs.toArray.size) undef,[]⟩ k = .pointer (some ⟨k-1000000,0,none⟩):=ax (by simp only at h1;omega);rw[e];exact h2.toC.toG.toV
  | some x =>
   obtain⟨v,hv,hr⟩:=hargs.get hk;have hlt:=(gW.1 hv).1;have:(cargs.toArray++Array.replicate (fn.ntmps-cargs.toArray.size) undef).getD k undef=v:=by
    rw[oI,Array.getElem?_append_left (by simpa using hlt)];simp[hv]
   rw[zw (by have:=hnp.2;omega),this];exact hr
 refine calls_of_wp hfn hbody ?_;refine Code.wp_mono (λe a' w' hq=>?_) (vc (c:=c) hm rfl body b hb ic hic ⟨fW 0 args++E,σ⟩ _ _ w hi ⟨bl,hs⟩);have fin:∀{s':St}{ex:IX},B_ rs Post ex s'->cG c s' a' w'->a'.defers=[]/\∃v,(results fn a'.tmps).run P w' = .ok v w'/\∃u r σ' bl',Ending.returned v = .returned u/\Post r σ'/\ra r σ'/\HW bl' (bz bl' MF (ae σ')) MF w' (ae σ')/\aY bl' (bz bl' MF (ae σ')) w' u r /\
   gR (nY bl σ) w w'/\(∀id o b,ae σ' id=some o->bl' id=some b->w.heap.size<=b\/nY bl σ b)/\∀id,(1000<=id/\id<2000)->bl' id=bl id:=by
  rintro s0 ex ⟨_,s',hwk,fs,r,σ',h1,h2,h3,h4⟩ hs0;obtain⟨bl',hs2⟩:=cG.frzs fs (hwk c a' w' hs0);obtain⟨v,hv1,hv2⟩:=OZ hs2 hrs h1;have hs3:aH c bl' (get (frzs fs s').env) (ae σ') a' w':=hs2.weaken (λ_=>.inr rfl) h2;refine⟨hs2.defers,v,hv1,v,r,σ',bl',rfl,h4,h3,hs3.heap,?_,hs3.step,hs3.own,λid hid=>hs3.stab id hid.1 hid.2⟩;refine hv2.tr ⟨λq hq _=>⟨λhm2=>hq ?_,rfl⟩,λ_ c1 _ fr hb=>⟨c1,fr,hb,rfl⟩⟩ (λ_ _=>rfl);rcases hm2 with hm2|⟨id,o,h5,h6⟩
  .exact .inl hm2
  .exact .inr ⟨id,o,h2 id o h5,h6⟩
 cases e with
 | normal=>obtain⟨s',hk,hs'⟩:=hq;exact fin hk hs'
 | ret=>obtain⟨s',hk,hs'⟩:=hq;exact fin hk hs'
 | exit id=>obtain⟨s',hk,hs'⟩:=hq;exact absurd rfl (hk.1 id)
 | _=>exact hq.elim
def kB{f:FuncId}{F:av}{ic:bF}{args:List AV}{σ:List (Nat×aj)}{Post:AV->List (Nat×aj)->Prop}(hm:P.follows .mixedOrders=true)(hf:qm P f=some F)(hic:dp ic=F.body)(hlen:args.length=F.np)
  (hi:lz P ic ⟨fW 0 args,σ⟩ (B_ F.res Post)):aZ P f args σ (λid=>1000<=id/\id<2000) Post :=
 Io [] (λp hp=>by cases hp) hm hf hic hlen (by rw[lm];exact hi)
def aZ.mono{f:FuncId}{args:List AV}{σ:List (Nat×aj)}{Sb Sb':Nat->Prop}{Post Post':AV->List (Nat×aj)->Prop}(h:aZ P f args σ Sb Post)(hs:∀id,Sb' id->Sb id)(hp:∀r σ',Post r σ'->Post' r σ'):aZ P f args σ Sb' Post' :=
 λbl MF w cargs t1 t2 h1 h2 h3=>(h bl MF w cargs t1 t2 h1 h2 h3).mono λ_ _ ⟨v,r,σ',bl',q1,q2,q3,q4,q5,q6,q7,q8⟩=>⟨v,r,σ',bl',q1,hp _ _ q2,q3,q4,q5,q6,q7,λid hid=>q8 id (hs id hid)⟩
def At(l:List nx)(r:AV)(e:IX)(s:St):Prop:=(∀j,e≠.ext j)/\∃s1,Wk s s1/\∃fs,tc l (frzs fs s1)=some r/\aI r=[]
def Iq{f:FuncId}(hs:decide (P.funcs.size<=4000000)=true)(h:bM P f=true):f<4000000:=by
 have h1:f<P.funcs.size:=by
  unfold bM at h;by_cases q:f<P.funcs.size
  .exact q
  .rw[B3 (Nat.le_of_not_lt q)]at h;cases h
 have h2:=of_decide_eq_true hs;exact DQ h1 h2
def Gu:∀(x:bF)(s:St)(K K':IX->St->Prop),(∀e s,K e s->K' e s)->lz P x s K->lz P x s K':=by
 have icallm0:∀{f:FuncId}{args:List AV}{d:Option Nat}{s:St}{K K':St->Prop},(∀s,K s->K' s)->yp P f args d s K->yp P f args d s K':=λ{f args d s K K'} hK h=>by
  rcases h with⟨args',r,b,h1,h2,h3,h4,h5⟩|⟨σ0,Sb,Post,ks,h1,h2,h3,h4⟩
  .exact .inl ⟨args',r,b,h1,h2,h3,h4,hK _ h5⟩
  .exact .inr ⟨σ0,Sb,Post,ks,h1,h2,h3,λr σ' hp=>by obtain⟨s',q1,q2,q3⟩:=h4 r σ' hp;exact⟨s',q1,q2,hK _ q3⟩⟩
 have icallm:∀{f:FuncId}{args:List AV}{d:Option Nat}{s:St}{K K':St->Prop},(∀s,K s->K' s)->cB P f args d s K->cB P f args d s K':=λ{f args d s K K'} hK h=>h.imp (icallm0 hK) λh=>h.imp (λ⟨fs,h⟩=>⟨fs,icallm0 hK h⟩) λ⟨s',a',hw,h⟩=>⟨s',a',hw,icallm0 hK h⟩
 have iopm:∀{o:bj}{s:St}{K K':St->Prop},(∀s,K s->K' s)->lV P o s K->lV P o s K':=λ{o s K K'} hK h=>by
  unfold lV at h⊢;split at h
  .exact icallm hK h
  .split at h
   .split at h
    .rename_i hlt;rw[aF hlt];exact⟨h.1,icallm hK h.2⟩
    .rename_i hlt;rw[ax hlt];exact⟨h.1,icallm hK h.2⟩
   .exact h
  .refine⟨h.1,?_⟩;have h2:=h.2;split at h2
   .exact hK _ h2
   .obtain⟨s',hw,h3⟩:=h2;refine⟨s',hw,?_⟩;unfold Hg at h3⊢;split at h3
    .exact hK _ h3
    .exact h3.elim
  .refine⟨h.1,?_⟩;have h2:=h.2;unfold qI at h2⊢
   repeat' (split at h2)
   all_goals first|exact hK _ h2|exact h2.elim|(obtain⟨id,off,len,ob,ys,q1,q2,q3,q4,q5,q6,q7,q8,q9,q10,q11,k1,k2⟩:=h2;exact⟨id,off,len,ob,ys,q1,q2,q3,q4,q5,q6,q7,q8,q9,q10,q11,hK _ k1,hK _ k2⟩)
  .split at h
   .exact⟨hK _ h.1,hK _ h.2⟩
   .split at h
    .exact hK _ h
    .exact h.elim
  .obtain⟨id,ob,l,la,h1,h2,h3,h4,h5⟩:=h;exact⟨id,ob,l,la,h1,h2,h3,λe=>hK _ (h4 e),λi e he=>hK _ (h5 i e he)⟩
  .by_cases ha:rG o.op=true
   .rw[aF ha]at h⊢;refine⟨h.1,?_⟩;have h2:=h.2;split at h2
    .exact hK _ h2
    .exact h2.elim
   .rw[ax ha]at h⊢;split at h
    .exact hK _ h
    .exact h
 have iopsm:∀(l:List bj)(s:St)(K K':St->Prop),(∀s,K s->K' s)->i3 P l s K->i3 P l s K':=by
  intro l
  induction l with
  | nil=>intro s K K' hK h;exact hK s h
  | cons o r ih =>
   intro s K K' hK h;unfold i3 at h⊢;split at h
   .exact iopm (λs' hs'=>ih s' K K' hK hs') h
   .split at h
    .exact⟨λht=>iopm (λs' hs'=>ih s' K K' hK hs') (h.1 ht),λht=>ih _ K K' hK (h.2 ht)⟩
    .exact ih _ K K' hK h
    .exact h
 have idopm:∀[Cl] {al:List (Nat×Nat)} {i:Nat} {o:aB} {hist:List HI} {s:St} {K K':List HI->St->Prop},(∀x s,K x s->K' x s)->gS P al i o hist s K->gS P al i o hist s K':=λ{_} {al i o hist s K K'} hK h=>by
  unfold gS at h⊢;split at h
  .rcases h with⟨args',r,b,h1,h2,h3,h4,h5,h6,h7,h8⟩|⟨k,ob,ob',Sb,r,h1,h2,h3,h4,h5,h6,h7,h8,h9⟩|⟨d,ob,st,off,len,Sb,h1,h2,h3,h4,h5,h6,h7⟩
   .exact .inl ⟨args',r,b,h1,h2,h3,h4,h5,h6,h7,hK _ _ h8⟩
   .exact .inr (.inl ⟨k,ob,ob',Sb,r,h1,h2,h3,h4,h5,h6,h7,h8,hK _ _ h9⟩)
   .exact .inr (.inr ⟨d,ob,st,off,len,Sb,h1,h2,h3,h4,h5,h6,hK _ _ h7⟩)
  .exact h
  .rcases h with h|⟨rows,h1,h2,h3,h4,h5⟩
   .refine .inl ?_;split at h
    .exact⟨h.1,h.2.1,h.2.2.1,hK _ _ h.2.2.2⟩
    .exact h
   .exact .inr ⟨rows,h1,h2,h3,h4,hK _ _ h5⟩
  .split at h
   .rename_i hcl;rw[aF hcl];split at h
    .exact⟨h.1,h.2.1,hK _ _ h.2.2⟩
    .exact h
   .rename_i hcl;rw[ax hcl];split at h
    .exact⟨h.1,h.2.1,h.2.2.1,hK _ _ h.2.2.2⟩
    .exact h
  .split at h
   .exact⟨h.1,h.2.1,h.2.2.1,hK _ _ h.2.2.2⟩
   .exact h
 have idopsHm:∀[Cl] {al:List (Nat×Nat)} (l:List aB) (i:Nat) (hist:List HI) (s:St) (K K':List HI->St->Prop),(∀x s,K x s->K' x s)->fb P al i l hist s K->fb P al i l hist s K':=by
  intro _ al l
  induction l with
  | nil=>intro i hist s K K' hK h;exact hK _ s h
  | cons o r ih =>
   intro i hist s K K' hK h;unfold fb at h⊢;split at h
   .exact idopm (λx s' hs'=>ih (i+1) x s' K K' hK hs') h
   .split at h
    .exact⟨λht=>idopm (λx s' hs'=>ih (i+1) x s' K K' hK hs') (h.1 ht),λht=>ih _ _ _ K K' hK (h.2 ht)⟩
    .exact ih _ _ _ K K' hK h
    .exact h
 have idopsm:∀[Cl] {al:List (Nat×Nat)} (l:List aB) (i:Nat) (hist:List HI) (s:St) (K K':St->Prop),(∀s,K s->K' s)->kZ P al i l hist s K->kZ P al i l hist s K':=λ{_ _} l i hist s K K' hK h=>idopsHm l i hist s _ _ (λ_ s h=>hK s h) h;intro x
 induction x with
 | skip=>intro s K K' hK h;exact hK _ _ h
 | ret=>intro s K K' hK h;exact hK _ _ h
 | exit id=>intro s K K' hK h;exact hK _ _ h
 | seq x y ihx ihy =>
  intro s K K' hK h;refine ihx s _ _ (λe s' hh=>?_) h;cases e with
  | nrm=>exact ihy s' K K' hK hh
  | _=>exact hK _ _ hh
 | cut x y ihx ihy =>
  intro s K K' hK h;refine ihx s _ _ (λe s' hh=>?_) h;cases e with
  | nrm=>obtain⟨s'',h1,h2⟩:=hh;exact⟨s'',h1,ihy s'' K K' hK h2⟩
  | _=>exact hK _ _ hh
 | cond v t e iht ihe =>
  intro s K K' hK h;unfold lz at h⊢;split at h
  .exact⟨λhb=>iht _ K K' hK (h.1 hb),λhb=>ihe _ K K' hK (h.2 hb)⟩
  .exact h
 | block id x ih =>
  intro s K K' hK h;refine ih s _ _ (λe s' hh=>?_) h;cases e with
  | ext j =>
   simp only at hh⊢;split
   .rename_i hj;rw[aF hj]at hh;exact hK _ _ hh
   .rename_i hj;rw[ax hj]at hh;exact hK _ _ hh
  | _=>exact hK _ _ hh
 | loop x ih =>
  intro s K K' hK h;obtain⟨I,h0,h1⟩:=h;refine⟨I,h0,λn s hI=>ih s _ _ (λe s' hh=>?_) (h1 n s hI)⟩;cases e with
  | nrm=>exact hh
  | _=>exact hK _ _ hh
 | reg ops dr=>intro s K K' hK h;exact iopsm ops s _ _ (λs' hs'=>hK _ _ hs') h
 | draw ops al dr=>intro s K K' hK h;exact idopsm ops 0 [] _ _ _ (λs' hs'=>hK _ _ hs') h
 | clon cs ops al dr=>intro s K K' hK h;exact @idopsm ⟨cs⟩ _ ops 0 [] _ _ _ (λs' hs'=>hK _ _ hs') h
 | wild ops al dr =>
  intro s K K' hK h;refine idopsHm _ _ _ _ _ _ (λhist s1 hh=>?_) h;split at hh
  .unfold HN at hh⊢;split at hh
   .refine⟨hh.1,?_⟩;replace hh:=hh.2;split at hh
    .exact⟨hh.1,hh.2.1,hh.2.2.1,hh.2.2.2.1,hK _ _ hh.2.2.2.2⟩
    .exact hh
   .exact hh
  .exact hh
 | free ops al dr =>
  intro s K K' hK h;have conjm:∀{α:Type}{F F':α->Prop}(l:List α),(∀x,F x->F' x)->uE l F->uE l F':=by
   intro α F F' l hF
   induction l with
   | nil=>exact λ_=>trivial
   | cons x l ih =>
    cases l with
    | nil=>exact hF x
    | cons y l=>exact λh=>⟨hF x h.1,ih h.2⟩
  have frm:∀(f:Nat)(R:List (Nat×aB))(s:St)(K K':St->Prop),(∀s,K s->K' s)->qo P f R s K->qo P f R s K':=by
   intro f
   induction f with
   | zero=>intro R s K K' hK h;exact hK s h
   | succ f ih=>intro R s K K' hK h;exact conjm _ (λt ht=>iopsm _ _ _ _ (λs' hs'=>ih _ s' K K' hK hs') ht) h
  exact frm _ _ _ _ _ (λs' hs'=>hK _ _ hs') h
def vD{f:FuncId}{F:av}{ic:bF}{args:List AV}{r:AV}(hm:P.follows .mixedOrders=true)(hf:qm P f=some F)(hic:dp ic=F.body)(hlen:args.length=F.np)(hi:lz P ic ⟨fW 0 args,[]⟩ (At F.res r)):ah P f args r:=by
 refine(kB (Post:=λr' σ'=>r'=r/\σ'=[]) hm hf hic hlen (Gu _ _ _ _ (λe s ⟨h1,s1,hw,fs,h2,h3⟩=>⟨h1,s1,hw,fs,r,[],h2,λi o hi=>by simp[ae]at hi,⟨(λi hi=>by rw[h3]at hi;cases hi),(λp hp=>by cases hp)⟩,rfl,rfl⟩) hi)).mono (λ_ h=>h.elim) (λ_ _ h=>h)
end
def mv(d j:Nat):bj:=⟨some d,.mov (.s j),none⟩
def mt(d j k:Nat):bj:=⟨some d,.mov (.s j),some (k,true)⟩
def mf(d j k:Nat):bj:=⟨some d,.mov (.s j),some (k,false)⟩
def o0(d:Nat)(o:lR):bj:=⟨some d,o,none⟩
def ot(d k:Nat)(o:lR):bj:=⟨some d,o,some (k,true)⟩
def oF(d k:Nat)(o:lR):bj:=⟨some d,o,some (k,false)⟩
def ad_(d j:Nat):mv d j =⟨some d,.mov (.s j),none⟩:=rfl
def ad9(d j k:Nat):mt d j k =⟨some d,.mov (.s j),some (k,true)⟩:=rfl
def ad6(d j k:Nat):mf d j k =⟨some d,.mov (.s j),some (k,false)⟩:=rfl
def aed(d:Nat)(o:lR):o0 d o =⟨some d,o,none⟩:=rfl
def aej(d k:Nat)(o:lR):ot d k o =⟨some d,o,some (k,true)⟩:=rfl
def aee(d k:Nat)(o:lR):oF d k o =⟨some d,o,some (k,false)⟩:=rfl
attribute[go_sem] ad_ ad9 ad6 aed aej aee
section
variable{P:Program}{n:Nat}{sh:List (List Nat)}
def aa3:comp P n sh .skip=some .skip:=rfl
def ads:comp P n sh .ret=some .ret:=rfl
def aa1{i:Nat}:comp P n sh (.exit i)=some (.exit i):=rfl
def adr{i:Nat}:comp P n sh (.label i)=some .skip:=rfl
def adt{x y:Code}{a b:bF}(h:comp P n sh x=some a)(k:comp P n sh y=some b):comp P n sh (.seq x y)=some (.seq a b):=by simp only[comp,h,k]
def aa0{c:Operand}{x y:Code}{c':IV}{a b:bF}(hc:cV c=some c')(h:comp P n sh x=some a)(k:comp P n sh y=some b):comp P n sh (.cond c x y)=some (.cond c' a b):=by simp only[comp,hc,h,k]
def Xh{i:Nat}{x:Code}{a:bF}(h:comp P n sh x=some a):comp P n sh (.block i x)=some (.block i a):=by simp only[comp,h,fo]
def aa2{x:Code}{a:bF}(h:comp P n sh x=some a):comp P n sh (.loop x)=some (.loop a):=by simp only[comp,h,fo]
def Xj{x:Code}{a:bF}(h:comp P n sh x=some a):comp P n sh (.scope x)=some a:=by simp only[comp,h]
end
def eFn(P:Program)(f:FuncId):Bool:=match P.funcs[f]? with
 | some fn=>fn.body.isNone&&fn.name == "internal/bytealg.IndexByteString" && (Extern.findNext fn).isNone
 | none=>false
def Xi(P:Program)(f:FuncId)(args:List Operand):NO P f args=if eFn P f then(match args with
  | [x,y]=>match cV x,cV y with
   | some x,some y=>some (.sib x y)
   | _,_=>none
  | _=>none)else none:=by
 unfold NO eFn;cases P.funcs[f]? with
 | none=>rfl
 | some fn =>
  dsimp only;by_cases h:fn.body.isNone=true∧fn.name = "internal/bytealg.IndexByteString"∧(Extern.findNext fn).isNone=true
  .rw[aF h,aF (by simp[h])];rfl
  .rw[ax h,ax];simp only[fQ,beq_iff_eq,and_assoc];exact h
section
variable{T:Tables}{F G:Array Func}
def GC:∀(m:Nat),Program.alikeButTags ⟨T,F⟩ m=Program.alikeButTags ⟨T,G⟩ m
 | 0=>rfl
 | m+1=>by
  funext t u;unfold Program.alikeButTags;rw[GC m]
def Ps(t:TypeId):Program.stoodInHeld ⟨T,F⟩ t=Program.stoodInHeld ⟨T,G⟩ t:=by
 unfold Program.stoodInHeld Program.stoodInAs;rw[GC];rfl
def GD:∀(m:Nat),Program.eqGuardType ⟨T,F⟩ m=Program.eqGuardType ⟨T,G⟩ m
 | 0=>rfl
 | m+1=>by
  funext t;unfold Program.eqGuardType;rw[GD m];rfl
def J6:∀(m:Nat),pn ⟨T,F⟩ m=pn ⟨T,G⟩ m
 | 0=>rfl
 | m+1=>by
  funext t;unfold pn;rw[J6 m,Ps t (F:=F) (G:=G)];rfl
def Yz(t:TypeId)(op:BinOp)(x y:IV):Cc ⟨T,F⟩ t op x y=Cc ⟨T,G⟩ t op x y:=by
 unfold Cc;rw[J6 20,GD];rfl
variable(hB:∀f,bM ⟨T,G⟩ f=true->bM ⟨T,F⟩ f=true)(hE:∀f,eFn ⟨T,G⟩ f=false)
include hB hE
def TZ{c:Call}{x:lR}(h:uD ⟨T,G⟩ c=some x):uD ⟨T,F⟩ c=some x:=by
 obtain⟨callee,args,ats⟩:=c;cases callee with
 | value v=>cases v with
  | func f =>
   unfold uD at h⊢;dsimp only at h⊢;by_cases hb:bM ⟨T,G⟩ f=true
   .rw[aF hb]at h;rw[aF (hB f hb)];exact h
   .rw[ax hb,Xi,ax (by rw[hE];simp)]at h;cases h
  | _=>exact h
 | builtin b=>cases b<;>exact h
 | _=>exact h
def abP{o:Op}{x:lR}(h:iH ⟨T,G⟩ o=some x):iH ⟨T,F⟩ o=some x:=by
 cases o
 case call c=>exact TZ hB hE h
 case binOp op t x y u =>
  unfold iH at h⊢;simp only[Yz (F:=F) (G:=G)];exact h
 case next x b=>cases b<;>first|(simp only[iH,reduceCtorEq]at h;done)|(simp only[iH]at h⊢;exact h)
 case makeFunc f x y=>cases f<;>first|(simp only[iH,reduceCtorEq]at h;done)|(simp only[iH]at h⊢;exact h)
 case makeMap t n=>cases n<;>first|(simp only[iH,reduceCtorEq]at h;done)|(simp only[iH]at h⊢;exact h)
 all_goals first|(simp only[iH,reduceCtorEq]at h;done)|(simp only[iH]at h⊢;with_reducible exact h)|(simp only[iH]at h⊢;with_unfolding_all exact h)
def T5{n:Nat}{ops:Array Oper}{o:Oper}{x:bj}(h:nN ⟨T,G⟩ n ops o=some x):nN ⟨T,F⟩ n ops o=some x:=by
 unfold nN at h⊢;cases hg:iH ⟨T,G⟩ o.op with
 | none=>rw[hg]at h;cases h
 | some op=>rw[hg]at h;rw[abP hB hE hg];exact h
def Pr(n:Nat)(ops:Array Oper):∀{l:List Oper}{x:List bj},s7 ⟨T,G⟩ n ops l=some x->s7 ⟨T,F⟩ n ops l=some x
 | [],x,h=>h
 | o::r,x,h=>by
  rw[s7]at h⊢;cases h1:nN ⟨T,G⟩ n ops o with
  | none=>rw[h1]at h;cases h
  | some y=>cases h2:s7 ⟨T,G⟩ n ops r with
   | none=>rw[h1,h2]at h;cases h
   | some ys=>rw[h1,h2]at h;rw[T5 hB hE h1,Pr n ops h2];exact h
def T0(n:Nat)(sh:List (List Nat)):∀{c:Code}{x:bF},comp ⟨T,G⟩ n sh c=some x->comp ⟨T,F⟩ n sh c=some x:=by
 intro c
 induction c with
 | seq x y hx hy =>
  intro z h;simp only[comp]at h⊢;cases h1:comp ⟨T,G⟩ n sh x with
  | none=>rw[h1]at h;cases h
  | some a=>cases h2:comp ⟨T,G⟩ n sh y with
   | none=>rw[h1,h2]at h;cases h
   | some b=>rw[h1,h2]at h;rw[hx h1,hy h2];exact h
 | cond c x y hx hy =>
  intro z h;simp only[comp]at h⊢;cases h1:comp ⟨T,G⟩ n sh x with
  | none=>rw[h1]at h;cases hc:cV c<;>rw[hc]at h<;>cases h
  | some a=>cases h2:comp ⟨T,G⟩ n sh y with
   | none=>rw[h1,h2]at h;cases hc:cV c<;>rw[hc]at h<;>cases h
   | some b=>rw[h1,h2]at h;rw[hx h1,hy h2];exact h
 | block i x hx =>
  intro z h;simp only[comp]at h⊢;cases h1:comp ⟨T,G⟩ n sh x with
  | none=>rw[h1]at h;cases h
  | some a=>rw[h1]at h;rw[hx h1];exact h
 | loop x hx =>
  intro z h;simp only[comp]at h⊢;cases h1:comp ⟨T,G⟩ n sh x with
  | none=>rw[h1]at h;cases h
  | some a=>rw[h1]at h;rw[hx h1];exact h
 | scope x hx=>intro z h;simp only[comp]at h⊢;exact hx h
 | region i ops d =>
  intro z h;cases d
  all_goals
   simp only[comp,Jr]at h⊢;cases h1:s7 ⟨T,G⟩ n ops ops.toList with
   | none=>rw[h1]at h;cases h
   | some a=>rw[h1]at h;rw[Pr hB hE n ops h1];exact h
 | _=>intro z h;exact h
def adq{f:FuncId}{fn:Func}{body:Code}{n np:Nat}{sh:List (List Nat)}{rs:List nx}{b:bF}(h1:F[f]?=some fn)(h2:fn.body=some body)(h3:fn.ntmps=n)(h4:fn.params.size+fn.nfree=np)
  (h5:sA fn.results.toList::er body=sh) (h6:yf ⟨T,G⟩ fn.results.toList=some rs) (h7:comp ⟨T,G⟩ n sh body=some b) (h8:np<=n/\n<=1000000):qm ⟨T,F⟩ f=some ⟨n,np,rs,b⟩:=by
 subst h3 h4 h5;have e6:∀l,yf ⟨T,F⟩ l=yf ⟨T,G⟩ l:=λl=>by
  induction l with
  | nil=>rfl
  | cons x l ih=>cases x<;>simp only[yf,ih]<;>rfl
 unfold qm;simp only[h1,h2,e6,h6,T0 hB hE _ _ h7];rw[aF h8]
end
def zu(b:Option Code)(s:String):Func:={(default:Func)with body:=b,name:=s}
