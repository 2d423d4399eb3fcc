import Derived.Test.YtdfofedlbljnhaaGreatDoorWQa
import Derived.Orders
import Derived.Still
import Derived.Scope
set_option linter.all false
set_option maxRecDepth 20000
set_option maxHeartbeats 400000
namespace Go.Mw
structure St where
 env:List (Nat×AV)
 heap:List (Nat×ao)
def get:List (Nat×AV)->Nat->AV
 | [],_=>.any
 | (k,x)::r,n=>if k=n then x else get r n
def ak:List (Nat×ao)->Nat->Option ao
 | [],_=>none
 | (k,x)::r,n=>if k=n then some x else ak r n
def del:List (Nat×AV)->Nat->List (Nat×AV)
 | [],_=>[]
 | (k,x)::r,n=>if k=n then del r n else(k,x)::del r n
def r9:List (Nat×ao)->Nat->List (Nat×ao)
 | [],_=>[]
 | (k,x)::r,n=>if k=n then r9 r n else(k,x)::r9 r n
def og(i:Nat):List (Nat×AV)->List (Nat×AV)
 | []=>[]
 | (k,x)::r=>(k,i7 i x)::og i r
def oh(i:Nat):List (Nat×ao)->List (Nat×ao)
 | []=>[]
 | (k,x)::r=>(k,eJ i x)::oh i r
def St.put(s:St)(d:Option Nat)(x:AV):St :=
 match d with
 | some d=>⟨(d,x)::s.env,s.heap⟩
 | none=>s
def St.kill(s:St)(i:Nat):St:=⟨og i s.env,oh i (r9 s.heap i)⟩
def St.eff(s:St)(e:bE):St :=
 match e with
 | .no=>s
 | .put i o=>⟨s.env,(i,o)::r9 s.heap i⟩
 | .new i o=>⟨s.env,(i,o)::r9 s.heap i⟩
 | .reb i o=>⟨og i s.env,(i,o)::oh i (r9 s.heap i)⟩
def kills:List Nat->St->St
 | [],s=>s
 | i::r,s=>kills r (s.kill i)
def dels:List Nat->List (Nat×AV)->List (Nat×AV)
 | [],e=>e
 | d::r,e=>dels r (del e d)
def r8(n:Nat):∀(l:List (Nat×AV))(k:Nat),get (del l n) k=if k=n then .any else get l k
 | [],k=>by simp[del,get]
 | (j,x)::r,k=>by
  simp only[del];by_cases h:j=n
  .rw[aF h,r8 n r k];subst h;by_cases h2:k=j
   .simp[h2]
   .simp[get,h2,Ne.symm h2]
  .rw[au h];simp only[get];by_cases h2:j=k
   .subst h2;simp[h]
   .simp only[h2,cD,r8 n r k]
def dW(n:Nat):∀(l:List (Nat×ao))(k:Nat),ak (r9 l n) k=if k=n then none else ak l k
 | [],k=>by simp[r9,ak]
 | (j,x)::r,k=>by
  simp only[r9];by_cases h:j=n
  .rw[aF h,dW n r k];subst h;by_cases h2:k=j
   .simp[h2]
   .simp[ak,h2,Ne.symm h2]
  .rw[au h];simp only[ak];by_cases h2:j=k
   .subst h2;simp[h]
   .simp only[h2,cD,dW n r k]
def iZ(i:Nat):∀(l:List (Nat×AV))(k:Nat),get (og i l) k=i7 i (get l k)
 | [],k=>by simp[og,get,i7,mV,mG,mC,mP]
 | (j,x)::r,k=>by simp only[og,get,iZ i r k];split<;>rfl
def fj(i:Nat):∀(l:List (Nat×ao))(k:Nat),ak (oh i l) k=(ak l k).map (eJ i)
 | [],k=>by simp[oh,ak]
 | (j,x)::r,k=>by simp only[oh,ak,fj i r k];split<;>rfl
def c_(c:vE)(s:St)(a:Act)(w:World):Prop:=∃bl,aP c bl (get s.env) (ak s.heap) a w
section
variable{P:Program}[bO P]{c:vE}[CT c P]{a:Act}{w:World}{s:St}
def c_.kill(h:c_ c s a w)(i:Nat):c_ c (s.kill i) a w:=by
 obtain⟨bl,h⟩:=h;exact⟨bl,(h.kill i).congr (λk=>by simp[St.kill,iZ]) (λj=>by simp only[St.kill,fj,dW];split<;>simp)⟩
def c_.kills:∀(l:List Nat){s:St},c_ c s a w->c_ c (Mw.kills l s) a w
 | [],_,h=>h
 | i::r,_,h=>c_.kills r (h.kill i)
def fK(s:St)(i:Nat):ak (s.kill i).heap i=none/\dk i (get (s.kill i).env) (ak (s.kill i).heap):=by
 refine⟨by simp[St.kill,fj,dW],?_⟩;have:=qy i (get s.env) (ak s.heap);refine⟨λk=>by simpa[St.kill,iZ]using this.1 k,λj o hj=>this.2 j o ?_⟩;rw[<-hj];simp only[St.kill,fj,dW];split<;>simp
def c_.del(h:c_ c s a w)(d:Nat):c_ c ⟨del s.env d,s.heap⟩ a w:=by
 obtain⟨bl,h⟩:=h;exact⟨bl,h.weaken (λk=>by rw[r8];split<;>simp) (λ_ _ h=>h)⟩
def c_.dels:∀(l:List Nat){e:List (Nat×AV)}{hp:List (Nat×ao)},c_ c ⟨e,hp⟩ a w->c_ c ⟨Mw.dels l e,hp⟩ a w
 | [],_,_,h=>h
 | d::r,_,_,h=>c_.dels r (h.del d)
def zE{bl:Nat->Option Nat}{g:Nat->AV}{h:Nat->Option ao}(hs:aP c bl g h a w)(d:Option Nat)(hd:∀k,d=some k->k<c.n){v:Value}{x:AV}(hv:bu bl (bK bl c.MF h) w v x)
  (hg:∀k,get s.env k=g k) (hh:∀j,ak s.heap j=h j):c_ c (s.put d x) (a.put d v) w:=by
 cases d with
 | none=>exact⟨bl,by simpa[St.put,Act.put]using hs.congr hg hh⟩
 | some d =>
  refine⟨bl,(hs.put (hd d rfl) hv).congr (λk=>?_) (λj=>by simpa[St.put]using hh j)⟩;simp only[St.put,get,ez,r8];by_cases hk:k=d
  .subst hk;simp
  .simp[hk,Ne.symm hk,hg]
def KT(h:c_ c s a w)(d:Option Nat)(hd:∀k,d=some k->k<c.n)(_:Unit):c_ c (s.put d (.tup [])) (a.put d undef) w:=by
 obtain⟨bl,h⟩:=h;exact zE h d hd (x:=.tup []) ⟨[],rfl,trivial⟩ (λ_=>rfl) (λ_=>rfl)
def ND(s:St)(e:bE)(k:Nat):get (s.eff e).env k=e.env (get s.env) k:=by
 cases e<;>simp[St.eff,bE.env,iZ]
def JD(s:St)(e:bE)(j:Nat):ak (s.eff e).heap j=e.hp (ak s.heap) j:=by
 cases e with
 | no=>rfl
 | put i o=>simp only[St.eff,bE.hp,ak,ez,dW];by_cases h:j=i<;>simp[h,eq_comm]
 | new i o=>simp only[St.eff,bE.hp,ak,ez,dW];by_cases h:j=i<;>simp[h,eq_comm]
 | reb i o=>simp only[St.eff,bE.hp,ak,ez,fj,dW];by_cases h:j=i<;>simp[h,eq_comm]
end
def mT:AV->List Nat
 | .ms id _ _ _=>[id]
 | .mp id _ _ _=>[id]
 | .mm id _=>[id]
 | _=>[]
def kv:AV->List Nat
 | .fn _ caps=>caps.flatMap mT
 | x=>mT x
def oZ:AV->List Nat
 | .agg cells=>cells.flatMap kv
 | x=>kv x
def aO:AV->List Nat
 | .tup vs=>vs.flatMap oZ
 | x=>oZ x
def dz(o:ao):List Nat:=if o.isRec then o.rows.flatMap (λr=>r.flatMap kv)else[]
def Tm{i:Nat}{x:AV}(h:mP i x=true):i∈mT x:=by cases x<;>simp_all [mP,mT]
def C3{i:Nat}{x:AV}(h:mC i x=true):i∈kv x:=by
 cases x with
 | fn f caps =>
  simp only[mC,AK]at h;obtain⟨y,h1,h2⟩:=h;simp only[kv,sA];exact⟨y,h1,Tm h2⟩
 | _ =>
  simp only[mC]at h;simpa only[kv]using Tm h
def Tl{i:Nat}{x:AV}(h:mG i x=true):i∈oZ x:=by
 cases x with
 | agg cells =>
  simp only[mG,AK]at h;obtain⟨y,h1,h2⟩:=h;simp only[oZ,sA];exact⟨y,h1,C3 h2⟩
 | _ =>
  simp only[mG]at h;simpa only[oZ]using C3 h
def u5{i:Nat}{x:AV}(h:mV i x=true):i∈aO x:=by
 cases x with
 | tup vs =>
  simp only[mV,AK]at h;obtain⟨y,h1,h2⟩:=h;simp only[aO,sA];exact⟨y,h1,Tl h2⟩
 | _ =>
  simp only[mV]at h;simpa only[aO]using Tl h
def tU(r:AV)(σ:List (Nat×ao)):Prop:=(∀i∈aO r,(ak σ i).isSome=true)/\∀p∈σ,∀i∈dz p.2,(ak σ i).isSome=true
def rQ(bl:Nat->Option Nat)(σ:List (Nat×ao))(b:Nat):Prop:=∃id o,ak σ id=some o/\bl id=some b
def aX(P:Program)[bO P](f:FuncId)(args:List AV)(σ:List (Nat×ao))(Sb:Nat->Prop)(Post:AV->List (Nat×ao)->Prop):Prop :=
 ∀(bl:Nat->Option Nat)(MF:Nat->Prop)(w:World)(cargs:List Value),
  (bO.T P).H w->(∀b,(bO.T P).B b->¬bK bl MF (ak σ) b)->Li bl (bK bl MF (ak σ)) MF w (ak σ)->(∀b,MF b->b<w.heap.size)->bg (bu bl (bK bl MF (ak σ)) w) cargs args ->
  Calls P f cargs.toArray w λe w'=>∃v r σ' bl',e = .returned v/\Post r σ'/\tU r σ'/\Li bl' (bK bl' MF (ak σ')) MF w' (ak σ')/\bu bl' (bK bl' MF (ak σ')) w' v r /\
   qA (rQ bl σ) w w'/\(∀id o b,ak σ' id=some o->bl' id=some b->w.heap.size<=b\/rQ bl σ b)/\∀id,Sb id->bl' id=bl id
def ac(P:Program)[bO P](f:FuncId)(args:List AV)(r:AV):Prop:=aX P f args [] (λ_=>False) λr' σ'=>r'=r/\σ'=[]
def FZ:AV->Bool
 | .bool _=>true
 | .int ..=>true
 | .str _=>true
 | .nl=>true
 | .np=>true
 | .nf=>true
 | .sl _ []=>true
 | _=>false
def Jw:AV->Bool
 | .agg cells=>cells.all FZ
 | x=>FZ x
def A0:AV->Bool
 | .tup vs=>vs.all Jw
 | x=>Jw x
def Vo(b:Bool)(h:Nat->Option ao)(x x':AV):Prop :=
 x=x'\/(x = .nl/\∃st,x' = .sl st []) \/
 (b=true/\∃id st off len o,x = .ms id st off len/\h id=some o/\o.isRec=false/\o.st=st/\off+len<=o.rows.length/\x' = .sl st ((o.rows.drop off).take len))
section
variable{P:Program}[bO P]{c:vE}[CT c P]{bl:Nat->Option Nat}{g:Nat->AV}{h:Nat->Option ao}{a:Act}{w w':World}{M M':Nat->Prop}
def F_{bl':Nat->Option Nat}{v:Value}{x:AV}(hf:FZ x=true)(hv:cG bl M w v x):cG bl' M' w' v x:=by
 cases x<;>simp[FZ]at hf<;>simp only[cG,eu]at hv⊢
 case sl st rows =>
  cases rows with
  | cons r l=>simp[FZ]at hf
  | nil =>
   cases hv with
   | nls=>exact .nls _
   | sl0=>exact .sl0 _ _ _
   | sl b off cap st c t fr rows vs=>exact .sl0 _ _ _
 all_goals (cases hv;constructor)
def Ga{bl':Nat->Option Nat}{v:Value}{x:AV}(hf:Jw x=true)(hv:ff bl M w v x):ff bl' M' w' v x:=by
 cases x with
 | agg cells =>
  obtain⟨cs,h1,h2⟩:=hv;exact⟨cs,h1,h2.mono λ_ y hy hr=>F_ (fz.1 hf y hy) hr⟩
 | _ =>
  simp only[Jw]at hf;simp only[ff]at hv⊢;exact F_ hf hv
def Pk{bl':Nat->Option Nat}{v:Value}{x:AV}(hf:A0 x=true)(hv:bu bl M w v x):bu bl' M' w' v x:=by
 cases x with
 | any=>trivial
 | tup vs =>
  obtain⟨cs,h1,h2⟩:=hv;exact⟨cs,h1,h2.mono λ_ y hy hr=>Ga (fz.1 hf y hy) hr⟩
 | _ =>
  simp only[A0]at hf;simp only[bu]at hv⊢;exact Ga hf hv
def aP.grow(s:aP c bl g h a w)(hst:qA (λ_=>False) w w'):aP c bl g h a w':=by
 have ht:Tr (bK bl c.MF h) (bK bl c.MF h) w w':=⟨λb hb hl=>⟨hb,hst.keep b hl (λh=>h)⟩,hst.shape⟩
 refine⟨s.defers,s.size,λk=>(s.env k).tr ht (λ_ _=>rfl),⟨λid o hi=>?_,s.heap.2⟩,s.step.trans hst (λ_ _ h=>h.elim),s.own,s.stab,s.mf⟩;rcases s.heap.1 id o hi with h1|⟨b,h1,⟨gk,c1,fr,h2,h3,h4,h5,h6,h7⟩|hsp⟩
 .exact .inl h1
 rotate_left
 .exact .inr ⟨b,h1,.inr (hsp.tr (hst.keep b hsp.rel.lt (λh=>h)))⟩
 .refine .inr ⟨b,h1,.inl ⟨gk,c1,fr,by rw[hst.keep b (bQ h2) (λh=>h)];exact h2,h3,h4,h5,h6,λi j r x hr hx=>?_⟩⟩;obtain⟨v,hv1,hv2⟩:=h7 i j r x hr hx;exact⟨v,hv1,hv2.tr ht (λ_ _ _=>rfl)⟩
def ox(MF:Nat->Prop)(b:Nat):bK bl MF (ak []) b↔MF b:=⟨λh=>by
 rcases h with h|⟨id,o,h,_⟩
 .exact h
 .simp[ak]at h,.inl⟩
def aP.tab(s:aP c bl g h a w):(bO.T P).H w:=by
 rw[<-CT.eq (c:=c) (P:=P)];exact c.T.stay c.w0 w c.tH λb hb=>s.step.keep b (c.T.low _ c.tH b hb) (c.tW b hb)
def aP.tabW(s:aP c bl g h a w)(b:Nat)(hb:(bO.T P).B b):¬bK bl c.MF h b:=by
 rw[<-CT.eq (c:=c) (P:=P)]at hb;rintro(hm|⟨id,o,h1,h2⟩)
 .exact c.tM b hb hm
 rcases s.own id o b h1 h2 with h3|h3
 .exact absurd (c.T.low _ c.tH b hb) (by omega)
 .exact c.tW b hb h3
def GB(s:aP c bl g h a w){f:FuncId}{cargs:List Value}{args args':List AV}{r:AV}(hp:ac P f args' r)(ha:bg (bu bl (bK bl c.MF h) w) cargs args)(hid:∀x∈args',aO x=[])(b:Bool)(hc:bg (Vo b h) args args')(hf:b=true->A0 r=true) :
  Calls P f cargs.toArray w λe w'=>∃v,e = .returned v/\aP c bl g h a w'/\bu bl (bK bl c.MF h) w' v r:=by
 let MF':Nat->Prop:=λq=>bK bl c.MF h q/\(b=true->c.MF q)
 have hMF':∀q,MF' q->q<w.heap.size:=λq hq=>by
  rcases hq.1 with hm|⟨id,o,h1,h2⟩
  .exact Es (s.mf q hm) s.step.size
  .rcases s.heap.1 id o h1 with hn|⟨b',g2,hO⟩
   .rw[hn.2.2]at h2;cases h2
   .rw[h2]at g2;cases g2;exact hO.lt
 have hargs:bg (bu (λ_=>none) (bK (λ_=>none) MF' (ak [])) w) cargs args':=by
  have key:∀{cs:List Value}{as as':List AV},bg (bu bl (bK bl c.MF h) w) cs as->bg (Vo b h) as as'->(∀x∈as',aO x=[])->bg (bu (λ_=>none) (bK (λ_=>none) MF' (ak [])) w) cs as':=by
   intro cs
   induction cs with
   | nil =>
    intro as as' h1 h2 _;cases as with
    | cons=>exact h1.elim
    | nil=>cases as' with
     | cons=>exact h2.elim
     | nil=>trivial
   | cons v cs ih =>
    intro as as' h1 h2 h3;cases as with
    | nil=>exact h1.elim
    | cons x as =>
     cases as' with
     | nil=>exact h2.elim
     | cons x' as' =>
      refine⟨?_,ih h1.2 h2.2 (λy hy=>h3 y (by simp[hy]))⟩;have ht:Tr (bK bl c.MF h) (bK (λ_=>none) MF' (ak [])) w w:=⟨λq hq _=>⟨λhm=>hq ((ox MF' q).1 hm).1,rfl⟩,λ_ c1 _ fr hb=>⟨c1,fr,hb,rfl⟩⟩
      have hno:∀id,mV id x'=true->(none:Option Nat)=bl id:=λid hm=>by
       have:=u5 hm;rw[h3 x' (by simp)]at this;simp at this
      rcases h2.1 with he|⟨he,st,he'⟩|⟨hb,id,st,off,len,o,he,ho,hrec,hst,hfit,he'⟩
      .have h11:=h1.1;rw[he]at h11;exact h11.tr ht hno
      .rw[he'];have h11:=h1.1;rw[he]at h11;have:=h11.nl;rw[this];exact IRel.nls st
      .have h11:=h1.1;rw[he]at h11;rw[he'];have h4:eu bl (bK bl c.MF h) w v (.ms id st off len):=h11;rcases s.heap.1 id o ho with hn|⟨bb,g2,hO⟩
       .have hlen:len=0:=by rw[hn.1]at hfit;simp at hfit;omega
        subst hlen;simp only[mA];rcases h4 with⟨e1,_⟩|⟨_,_,ad,cap,e1⟩|⟨b',cap,c1,t,fr,e1,_⟩
        .rw[e1];exact IRel.nls st
        .rw[e1];exact IRel.sl0 st ad cap
        .rw[hn.2.2]at e1;cases e1
       .have hnb:¬bK (λ_=>none) MF' (ak []) bb:=λhm=>by
         have:=((ox MF' bb).1 hm).2 hb;exact hO.free this
        have:=CN (M':=bK (λ_=>none) MF' (ak [])) ht hnb (.inr ⟨g2,hO⟩) hrec h4;simp only[tE,br,hst,true_and,hfit]at this;exact this
  exact key ha hc hid
 refine(hp (λ_=>none) MF' w cargs (aP.tab (P:=P) s) (λq hq hm=>aP.tabW (P:=P) s q hq ((ox MF' q).1 hm).1) ⟨λid o hi=>by simp[ak]at hi,λid id' o o' b hi=>by simp[ak]at hi⟩ hMF' hargs).mono λe w' hh=>?_;obtain⟨v,r',σ',bl',rfl,⟨rfl,rfl⟩,hcl,_,hv,hst,_,_⟩:=hh
 have hst':qA (λ_=>False) w w':=⟨hst.size,λq hq _=>hst.keep q hq (λhb=>by
  obtain⟨id,o,hi,_⟩:=hb;simp[ak]at hi),hst.shape,hst.os,hst.out⟩
 refine⟨v,rfl,s.grow hst',?_⟩;cases b with
 | true=>exact Pk (hf rfl) hv
 | false =>
  refine hv.tr ⟨λq hq hl=>⟨λhm=>hq ((ox MF' q).2 ⟨hm,λh=>by cases h⟩),rfl⟩,λ_ c1 _ fr hb=>⟨c1,fr,hb,rfl⟩⟩ (λid hm=>?_);have:=hcl.1 id (u5 hm);simp[ak]at this
end
def tu(ks:List Nat)(x:AV):AV:=if ks.any (λi=>mV i x)then .any else x
def Bj(ks:List Nat)(x:AV):AV:=if ks.any (λi=>mC i x)then .any else x
def iB(ks:List Nat)(o:ao):ao:=if o.isRec then{o with rows:=o.rows.map (λr=>r.map (Bj ks))}else o
def JW(ks:List Nat)(σ0 σ':Nat->Option ao)(h:Nat->Option ao)(id:Nat):Option ao :=
 match σ' id with
 | some o=>some o
 | none=>if(σ0 id).isSome then none else(h id).map (iB ks)
section
variable{P:Program}[bO P]{c:vE}[CT c P]{bl bl' bl2:Nat->Option Nat}{g:Nat->AV}{h:Nat->Option ao}{a:Act}{w w':World}{M M':Nat->Prop}{ks:List Nat}
def P8{v:Value}{x:AV}(hv:bu bl M w v x)(ht:Tr M M' w w')(hb:∀id,id∉ks->bl2 id=bl id):bu bl2 M' w' v (tu ks x):=by
 unfold tu;split
 .trivial
 .rename_i hn;refine hv.tr ht (λid hm=>hb id (λhk=>hn ?_));exact AK.2 ⟨id,hk,hm⟩
def P7{v:Value}{x:AV}(hv:cG bl M w v x)(ht:Tr M M' w w')(hb:∀id,id∉ks->bl2 id=bl id):cG bl2 M' w' v (Bj ks x):=by
 unfold Bj;split
 .exact IRel.toC (.any v (cG.one hv))
 .rename_i hn;refine hv.tr ht (λid hm=>hb id (λhk=>hn ?_));exact AK.2 ⟨id,hk,hm⟩
def Ko(s:aP c bl g h a w){f:FuncId}{cargs:List Value}{args:List AV}{σ0:List (Nat×ao)}{Sb:Nat->Prop}{Post:AV->List (Nat×ao)->Prop}
  (hp:aX P f args σ0 Sb Post) (ha:bg (bu bl (bK bl c.MF h) w) cargs args) (hσ:∀id o,ak σ0 id=some o->h id=some o) (ks:List Nat)
  (hks:∀r σ',Post r σ'->∀id,(ak σ' id).isSome=true->(Sb id/\(ak σ0 id).isSome=true)\/(id∈ks/\(id<1000\/2000<=id)/\((ak σ0 id).isSome=true\/h id=none))) :
  Calls P f cargs.toArray w λe w'=>∃v r σ' bl2,e = .returned v/\Post r σ'/\aP c bl2 (λk=>tu ks (g k)) (JW ks (ak σ0) (ak σ') h) a w'/\bu bl2 (bK bl2 c.MF (JW ks (ak σ0) (ak σ') h)) w' v r:=by
 let MF':Nat->Prop:=λq=>c.MF q\/∃id o,h id=some o/\ak σ0 id=none/\bl id=some q
 have blk:∀{id o q},h id=some o->bl id=some q->qh bl (bK bl c.MF h) c.MF w o q:=λ{id o q} h1 h2=>by
  rcases s.heap.1 id o h1 with hn|⟨b',g2,hO⟩
  .rw[hn.2.2]at h2;cases h2
  .rw[h2]at g2;cases g2;exact hO
 have hMF':∀q,MF' q->q<w.heap.size:=by
  rintro q (hq|⟨id,o,h1,_,h2⟩)
  .exact Es (s.mf q hq) s.step.size
  .exact(blk h1 h2).lt
 have hmut:∀q,bK bl MF' (ak σ0) q↔bK bl c.MF h q:=λq=>by
  constructor
  .rintro((hq|⟨id,o,h1,_,h2⟩)|⟨id,o,h1,h2⟩)
   .exact .inl hq
   .exact .inr ⟨id,o,h1,h2⟩
   .exact .inr ⟨id,o,hσ id o h1,h2⟩
  .rintro(hq|⟨id,o,h1,h2⟩)
   .exact .inl (.inl hq)
   .cases h3:ak σ0 id with
    | none=>exact .inl (.inr ⟨id,o,h1,h3,h2⟩)
    | some o'=>exact .inr ⟨id,o',h3,h2⟩
 have ht0:=Tr.of_iff (w:=w) hmut;have hH:Li bl (bK bl MF' (ak σ0)) MF' w (ak σ0):=by
  refine⟨λid o hi=>?_,λid id' o o' q h1 h2=>s.heap.2 id id' o o' q (hσ _ _ h1) (hσ _ _ h2)⟩;rcases s.heap.1 id o (hσ id o hi)with hn|⟨b',g2,⟨gk,c2,fr2,g3,g4,g5,g6,g7,g8⟩|hsp⟩
  .exact .inl hn
  rotate_left
  .refine .inr ⟨b',g2,.inr ⟨hsp.rows,hsp.isRec,?_,hsp.rel⟩⟩;rintro(hq|⟨id2,o2,h1,h3,h2⟩)
   .exact hsp.free hq
   .have:=s.heap.2 id2 id o2 o b' h1 (hσ id o hi) h2 g2;subst this;rw[hi]at h3;cases h3
  .refine .inr ⟨b',g2,.inl ⟨gk,c2,fr2,g3,g4,?_,g6,g7,λi j r x hr hx=>?_⟩⟩
   .rintro(hq|⟨id2,o2,h1,h3,h2⟩)
    .exact g5 hq
    .have:=s.heap.2 id2 id o2 o b' h1 (hσ id o hi) h2 g2;subst this;rw[hi]at h3;cases h3
   .obtain⟨v,hv1,hv2⟩:=g8 i j r x hr hx;exact⟨v,hv1,hv2.tr ht0 (λ_ _ _=>rfl)⟩
 refine(hp bl MF' w cargs (aP.tab (P:=P) s) (λq hq hm=>aP.tabW (P:=P) s q hq ((hmut q).1 hm)) hH hMF' (ha.mono λ_ _ _ hr=>hr.tr ht0 (λ_ _=>rfl))).mono λe w' hh=>?_;obtain⟨v,r,σ',bl1,rfl,hPost,hcl,hH',hv,hst,hown,hsb⟩:=hh;have hks':=hks r σ' hPost
 let B:Nat->Option Nat:=λid=>if(ak σ' id).isSome then bl1 id else bl id
 have B_in:∀id,(ak σ' id).isSome=true->B id=bl1 id:=λid hi=>by simp[B,hi]
 have B_out:∀id,ak σ' id=none->B id=bl id:=λid hi=>by simp[B,hi]
 have B_ks:∀id,id∉ks->B id=bl id:=λid hk=>by
  cases hi:ak σ' id with
  | none=>exact B_out id hi
  | some o =>
   rw[B_in id (by simp[hi])];rcases hks' id (by simp[hi])with⟨h1,_⟩|⟨h1,_⟩
   .exact hsb id h1
   .exact absurd h1 hk
 have mrg_out:∀{id o},JW ks (ak σ0) (ak σ') h id=some o->ak σ' id=none->∃o0,h id=some o0/\o=iB ks o0/\ak σ0 id=none:=λ{id o} hm hn=>by
  simp only[JW,hn]at hm;split at hm
  .cases hm
  .rename_i h0;simp only[dV]at hm;obtain⟨o0,h1,rfl⟩:=hm;exact⟨o0,h1,rfl,by simpa using h0⟩
 have σblk:∀{id o q},ak σ' id=some o->bl1 id=some q->qh bl1 (bK bl1 MF' (ak σ')) MF' w' o q:=λ{id o q} h1 h2=>by
  rcases hH'.1 id o h1 with hn|⟨b',g2,hO⟩
  .rw[hn.2.2]at h2;cases h2
  .rw[h2]at g2;cases g2;exact hO
 have hmut2:∀q,bK B c.MF (JW ks (ak σ0) (ak σ') h) q->bK bl1 MF' (ak σ') q:=by
  rintro q (hq|⟨id,o,h1,h2⟩)
  .exact .inl (.inl hq)
  .cases hi:ak σ' id with
   | some o'=>rw[B_in id (by simp[hi])]at h2;exact .inr ⟨id,o',hi,h2⟩
   | none =>
    obtain⟨o0,h3,_,h4⟩:=mrg_out h1 hi;rw[B_out id hi]at h2;exact .inl (.inr ⟨id,o0,h3,h4,h2⟩)
 have hmut3:∀q,q<w.heap.size->bK bl1 MF' (ak σ') q->bK bl c.MF h q:=by
  rintro q hq ((hm|⟨id,o,h1,_,h2⟩)|⟨id,o,h1,h2⟩)
  .exact .inl hm
  .exact .inr ⟨id,o,h1,h2⟩
  .rcases hown id o q h1 h2 with h3|⟨id2,o2,h3,h4⟩
   .omega
   .exact .inr ⟨id2,o2,hσ _ _ h3,h4⟩
 have ht:Tr (bK bl c.MF h) (bK B c.MF (JW ks (ak σ0) (ak σ') h)) w w':=⟨λq hq hl=>⟨λhm=>hq (hmut3 q hl (hmut2 q hm)),hst.keep q hl (λhb=>hq (by
  obtain⟨id,o,h1,h2⟩:=hb;exact .inr ⟨id,o,hσ _ _ h1,h2⟩))⟩,hst.shape⟩
 have ht1:Tr (bK bl1 MF' (ak σ')) (bK B c.MF (JW ks (ak σ0) (ak σ') h)) w' w':=⟨λq hq _=>⟨λhm=>hq (hmut2 q hm),rfl⟩,λ_ c1 _ fr hb=>⟨c1,fr,hb,rfl⟩⟩
 have hcl1:∀id,mV id r=true->B id=bl1 id:=λid hm=>B_in id (hcl.1 id (u5 hm));have hmem:∀{σ:List (Nat×ao)}{id:Nat}{o:ao},ak σ id=some o->(id,o)∈σ:=by
  intro σ
  induction σ with
  | nil=>intro id o hi;simp[ak]at hi
  | cons p l ih =>
   intro id o hi;obtain⟨k,x⟩:=p;simp only[ak]at hi;split at hi
   .rename_i hk;cases hi;subst hk;simp
   .exact List.mem_cons_of_mem _ (ih hi)
 refine⟨v,r,σ',B,rfl,hPost,⟨s.defers,s.size,λk=>P8 (s.env k) ht B_ks,⟨λid o hi=>?_,λid id' o o' q h1 h2 h3 h4=>?_⟩,?_,λid o q h1 h2=>?_,λid h1 h2=>?_,s.mf⟩,hv.tr ht1 hcl1⟩
 .cases hi':ak σ' id with
  | some o' =>
   have ho:o=o':=by simp only[JW,hi',de]at hi;exact hi.symm
   subst ho;rcases hH'.1 id o hi' with hn|⟨b',g2,⟨gk,c2,fr2,g3,g4,g5,g6,g7,g8⟩|hsp⟩
   .exact .inl ⟨hn.1,hn.2.1,by rw[B_in id (by simp[hi'])];exact hn.2.2⟩
   rotate_left
   .exact .inr ⟨b',by rw[B_in id (by simp[hi'])];exact g2,.inr ⟨hsp.rows,hsp.isRec,λhm=>hsp.free (.inl hm),hsp.rel⟩⟩
   .refine .inr ⟨b',by rw[B_in id (by simp[hi'])];exact g2,.inl ⟨gk,c2,fr2,g3,g4,λhm=>g5 (.inl hm),g6,g7,λi j q x hr hx=>?_⟩⟩;obtain⟨u,hu1,hu2⟩:=g8 i j q x hr hx;refine⟨u,hu1,hu2.tr ht1 (λhrec id2 hm=>B_in id2 (hcl.2 (id,o) (hmem hi') id2 ?_))⟩;simp only[dz,hrec,br,sA];exact⟨q,vD hr,x,vD hx,C3 hm⟩
  | none =>
   obtain⟨o0,h1,rfl,h3⟩:=mrg_out hi hi';rcases s.heap.1 id o0 h1 with hn|⟨b',g2,⟨gk,c2,fr2,g3,g4,g5,g6,g7,g8⟩|hsp⟩
   .refine .inl ⟨?_,?_,by rw[B_out id hi'];exact hn.2.2⟩
    .simp[iB,hn.2.1,hn.1]
    .simp[iB,hn.2.1]
   rotate_left
   .have hkeep:w'.heap[b']? = w.heap[b']?:=hst.keep b' hsp.rel.lt (λhb=>by
     obtain⟨id2,o2,h4,h5⟩:=hb;have:=s.heap.2 id id2 o0 o2 b' h1 (hσ _ _ h4) g2 h5;subst this;rw[h3]at h4;cases h4)
    refine .inr ⟨b',by rw[B_out id hi'];exact g2,.inr ?_⟩;have:iB ks o0=o0:=by simp[iB,hsp.isRec]
    rw[this];exact hsp.tr hkeep
   .have hkeep:w'.heap[b']? = w.heap[b']?:=hst.keep b' (bQ g3) (λhb=>by
     obtain⟨id2,o2,h4,h5⟩:=hb;have:=s.heap.2 id id2 o0 o2 b' h1 (hσ _ _ h4) g2 h5;subst this;rw[h3]at h4;cases h4)
    refine .inr ⟨b',by rw[B_out id hi'];exact g2,.inl ⟨by unfold iB;split<;>exact gk,c2,fr2,?_,g4,g5,?_,?_,?_⟩⟩
    .rw[hkeep,g3];unfold iB;split<;>rfl
    .intro i q hq;unfold iB at hq⊢;split at hq
     .simp only[ky,dV]at hq;obtain⟨q0,hq0,rfl⟩:=hq;rename_i hrec;simpa[hrec]using g6 i q0 hq0
     .rename_i hrec;simpa[hrec]using g6 i q hq
    .unfold iB;split<;>simpa using g7
    .intro i j q x hq hx;unfold iB at hq⊢;split at hq
     .rename_i hrec;simp only[ky,dV]at hq;obtain⟨q0,hq0,rfl⟩:=hq;simp only[ky,dV]at hx;obtain⟨x0,hx0,rfl⟩:=hx;obtain⟨u,hu1,hu2⟩:=g8 i j q0 x0 hq0 hx0;simp only[hrec,br];rw[hrec]at hu2;exact⟨u,hu1,P7 hu2 ht B_ks⟩
     .rename_i hrec;obtain⟨u,hu1,hu2⟩:=g8 i j q x hq hx;have hrec':o0.isRec=false:=by simpa using hrec
      simp only[hrec',gd,cD];rw[hrec']at hu2;exact⟨u,hu1,IRel.tr hu2 ht.keep⟩
 .cases hi:ak σ' id with
  | some o1 =>
   rw[B_in id (by simp[hi])]at h3;cases hi2:ak σ' id' with
   | some o2 =>
    rw[B_in id' (by simp[hi2])]at h4;exact hH'.2 id id' o1 o2 q hi hi2 h3 h4
   | none =>
    rw[B_out id' hi2]at h4;obtain⟨o2,h5,_,h6⟩:=mrg_out h2 hi2;exact((σblk hi h3).free (.inr ⟨id',o2,h5,h6,h4⟩)).elim
  | none =>
   rw[B_out id hi]at h3;obtain⟨o1,h5,_,h6⟩:=mrg_out h1 hi;cases hi2:ak σ' id' with
   | some o2 =>
    rw[B_in id' (by simp[hi2])]at h4;exact((σblk hi2 h4).free (.inr ⟨id,o1,h5,h6,h3⟩)).elim
   | none =>
    rw[B_out id' hi2]at h4;obtain⟨o2,h7,_,h8⟩:=mrg_out h2 hi2;exact s.heap.2 id id' o1 o2 q h5 h7 h3 h4
 .refine s.step.trans hst (λq hq hb=>?_);obtain⟨id,o,h1,h2⟩:=hb;rcases s.own id o q (hσ _ _ h1) h2 with h3|h3
  .omega
  .exact h3
 .cases hi:ak σ' id with
  | some o1 =>
   rw[B_in id (by simp[hi])]at h2;rcases hown id o1 q hi h2 with h3|⟨id2,o2,h3,h4⟩
   .exact .inl (jq s.step.size h3)
   .exact s.own id2 o2 q (hσ _ _ h3) h4
  | none =>
   rw[B_out id hi]at h2;obtain⟨o1,h5,_,h6⟩:=mrg_out h1 hi;exact s.own id o1 q h5 h2
 .cases hi:ak σ' id with
  | none=>rw[B_out id hi];exact s.stab id h1 h2
  | some o1 =>
   rw[B_in id (by simp[hi])];rcases hks' id (by simp[hi])with⟨h3,_⟩|⟨_,h3,_⟩
   .rw[hsb id h3];exact s.stab id h1 h2
   .omega
end
section
variable{c:vE}{bl:Nat->Option Nat}{g:Nat->AV}{h:Nat->Option ao}{a:Act}{w:World}
def abe(i:Nat)(o o1:ao):(jC i o o1).t=o1.t:=by unfold jC;split<;>rfl
def Hk(i:Nat)(o o1:ao):(jC i o o1).st=o1.st:=by unfold jC;split<;>rfl
def Jy(i:Nat)(o o1:ao):(jC i o o1).isRec=o1.isRec:=by unfold jC;split<;>rfl
def aP.freeze(s:aP c bl g h a w){i:Nat}{o:ao}(hi:h i=some o)(hrec:o.isRec=false) :
  aP c bl (λk=>y7 i o (g k)) (λj=>if j=i then none else(h j).map (jC i o)) a w /\
   ∀v x,bu bl (bK bl c.MF h) w v x->bu bl (bK bl c.MF (λj=>if j=i then none else(h j).map (jC i o))) w v (y7 i o x):=by
 have hsub:∀{j q},(if j=i then none else(h j).map (jC i o))=some q->j≠i/\∃q0,h j=some q0/\q=jC i o q0:=λ{j q} hj=>by
  split at hj
  .cases hj
  .rename_i hne;simp only[dV]at hj;obtain⟨q0,h1,h2⟩:=hj;exact⟨hne,q0,h1,h2.symm⟩
 have hmut:∀q,bK bl c.MF (λj=>if j=i then none else(h j).map (jC i o)) q->bK bl c.MF h q:=by
  rintro q (hm|⟨j,oj,h1,h2⟩)
  .exact .inl hm
  .obtain⟨_,q0,h3,_⟩:=hsub h1;exact .inr ⟨j,q0,h3,h2⟩
 have ht:Tr (bK bl c.MF h) (bK bl c.MF (λj=>if j=i then none else(h j).map (jC i o))) w w:=⟨λb hb _=>⟨λhm=>hb (hmut b hm),rfl⟩,λ_ c1 _ fr hb=>⟨c1,fr,hb,rfl⟩⟩
 have hP:∀{v x},eu bl (bK bl c.MF h) w v x->eu bl (bK bl c.MF (λj=>if j=i then none else(h j).map (jC i o))) w v (tE i o x):=λ{v x} hv=>by
  rcases s.heap.1 i o hi with hn|⟨b,hb,hO⟩
  .exact CN (b:=w.heap.size) (MF:=c.MF) ht (λhm=>by
    rcases hm with hm|⟨j,oj,h1,h2⟩
    .exact absurd (s.mf _ hm) (Nat.not_lt.2 s.step.size)
    .obtain⟨_,q0,h3,_⟩:=hsub h1;rcases s.heap.1 j q0 h3 with hn2|⟨b',h4,hO⟩
     .rw[hn2.2.2]at h2;cases h2
     .rw[h2]at h4;cases h4;exact absurd hO.lt (Nat.lt_irrefl _)) (.inl ⟨hn.1,hn.2.2⟩) hrec hv
  .refine CN ht (λhm=>?_) (.inr ⟨hb,hO⟩) hrec hv;rcases hm with hm|⟨j,oj,h1,h2⟩
   .exact hO.free hm
   .obtain⟨hne,q0,h3,_⟩:=hsub h1;exact hne (s.heap.2 j i q0 o b h3 hi h2 hb)
 have hC:∀{v x},cG bl (bK bl c.MF h) w v x->cG bl (bK bl c.MF (λj=>if j=i then none else(h j).map (jC i o))) w v (Ag i o x):=λ{v x} hv=>by
  cases x with
  | fn f caps =>
   obtain⟨cs,h1,h2⟩:=hv;exact⟨cs,h1,h2.mapRight λ_ _ hr=>hP hr⟩
  | agg cells=>simp only[cG,eu]at hv;cases hv
  | tup vs=>simp only[cG,eu]at hv;cases hv
  | ms id st off len =>
   have:=hP (x:=.ms id st off len) hv;simp only[Ag];generalize hy:tE i o (.ms id st off len)=y at this;simp only[tE]at hy;split at hy
   .split at hy<;>(subst hy;exact this)
   .subst hy;exact this
  | mp id st row off =>
   have:=hP (x:=.mp id st row off) hv;simp only[Ag];generalize hy:tE i o (.mp id st row off)=y at this;simp only[tE]at hy;split at hy
   .split at hy
    .split at hy<;>(subst hy;exact this)
    .subst hy;exact this
   .subst hy;exact this
  | mm id k =>
   have:=hP (x:=.mm id k) hv;simp only[Ag];generalize hy:tE i o (.mm id k)=y at this;simp only[tE]at hy;split at hy<;>(subst hy;exact this)
  | _ =>
   simp only[cG,eu]at hv;exact IRel.toC (IRel.tr hv ht.keep)
 have hG:∀{v x},ff bl (bK bl c.MF h) w v x->ff bl (bK bl c.MF (λj=>if j=i then none else(h j).map (jC i o))) w v (Hj i o x):=λ{v x} hv=>by
  cases x with
  | agg cells =>
   obtain⟨cs,h1,h2⟩:=hv;exact⟨cs,h1,h2.mapRight λ_ _ hr=>hC hr⟩
  | _ =>
   simp only[ff]at hv;simp only[Hj];exact(hC hv).toG
 have hV:∀{v x},bu bl (bK bl c.MF h) w v x->bu bl (bK bl c.MF (λj=>if j=i then none else(h j).map (jC i o))) w v (y7 i o x):=λ{v x} hv=>by
  cases x with
  | any=>trivial
  | tup vs =>
   obtain⟨cs,h1,h2⟩:=hv;exact⟨cs,h1,h2.mapRight λ_ _ hr=>hG hr⟩
  | _ =>
   simp only[bu]at hv;simp only[y7];exact(hG hv).toV
 refine⟨⟨s.defers,s.size,λk=>hV (s.env k),⟨λj oj hj=>?_,λj j' oj oj' q h1 h2=>?_⟩,s.step,λj oj q h1 h2=>?_,s.stab,s.mf⟩,λv x hv=>hV hv⟩
 .obtain⟨hne,q0,h1,rfl⟩:=hsub hj;rcases s.heap.1 j q0 h1 with hn|⟨b,hb,⟨gk,c1,fr,h2,h3,h4,h5,h6,h7⟩|hsp⟩
  .exact .inl ⟨by simp[jC,hn.2.1,hn.1],by rw[Jy];exact hn.2.1,hn.2.2⟩
  rotate_left
  .have:jC i o q0=q0:=by simp[jC,hsp.isRec]
   rw[this];exact .inr ⟨b,hb,.inr hsp⟩
  .refine .inr ⟨b,hb,.inl ⟨by unfold jC;split<;>exact gk,c1,fr,by rw[abe];exact h2,h3,h4,λk r hr=>?_,?_,λk q r x hr hx=>?_⟩⟩
   .rw[Hk];unfold jC at hr;split at hr
    .simp only[ky,dV]at hr;obtain⟨r0,h8,rfl⟩:=hr;simpa using h5 k r0 h8
    .exact h5 k r hr
   .rw[Hk];unfold jC;split<;>simpa using h6
   .rw[Hk,Jy];unfold jC at hr;split at hr
    .rename_i hrc;simp only[ky,dV]at hr;obtain⟨r0,h8,rfl⟩:=hr;simp only[ky,dV]at hx;obtain⟨x0,h9,rfl⟩:=hx;obtain⟨u,hu1,hu2⟩:=h7 k q r0 x0 h8 h9;rw[hrc]at hu2⊢;exact⟨u,hu1,hC hu2⟩
    .rename_i hrc;obtain⟨u,hu1,hu2⟩:=h7 k q r x hr hx;have hrc':q0.isRec=false:=by simpa using hrc
     rw[hrc']at hu2⊢;exact⟨u,hu1,IRel.tr hu2 ht.keep⟩
 .obtain⟨_,q1,h3,_⟩:=hsub h1;obtain⟨_,q2,h4,_⟩:=hsub h2;exact s.heap.2 j j' q1 q2 q h3 h4
 .obtain⟨_,q1,h3,_⟩:=hsub h1;exact s.own j q1 q h3 h2
end
def Sg(i:Nat)(o:ao):List (Nat×AV)->List (Nat×AV)
 | []=>[]
 | (k,x)::r=>(k,y7 i o x)::Sg i o r
def Pm(i:Nat)(o:ao):List (Nat×ao)->List (Nat×ao)
 | []=>[]
 | (k,x)::r=>(k,jC i o x)::Pm i o r
def St.frz(s:St)(i:Nat):St :=
 match ak s.heap i with
 | some o=>if o.isRec then s else⟨Sg i o s.env,Pm i o (r9 s.heap i)⟩
 | none=>s
def frzs:List Nat->St->St
 | [],s=>s
 | i::r,s=>frzs r (s.frz i)
def CP(i:Nat)(o:ao):∀(l:List (Nat×AV))(k:Nat),get (Sg i o l) k=y7 i o (get l k)
 | [],k=>rfl
 | (j,x)::r,k=>by simp only[Sg,get,CP i o r k];split<;>rfl
def Ah(i:Nat)(o:ao):∀(l:List (Nat×ao))(k:Nat),ak (Pm i o l) k=(ak l k).map (jC i o)
 | [],k=>rfl
 | (j,x)::r,k=>by simp only[Pm,ak,Ah i o r k];split<;>rfl
def c_.frz{c:vE}{s:St}{a:Act}{w:World}(hs:c_ c s a w)(i:Nat):c_ c (s.frz i) a w:=by
 obtain⟨bl,hs⟩:=hs;unfold St.frz;split
 .rename_i o ho;split
  .exact⟨bl,hs⟩
  .rename_i hr;exact⟨bl,(hs.freeze ho (by simpa using hr)).1.congr (λk=>CP i o _ k) (λj=>by simp only[Ah,dW];split<;>simp)⟩
 .exact⟨bl,hs⟩
def c_.frzs{c:vE}{a:Act}{w:World}:∀(l:List Nat){s:St},c_ c s a w->c_ c (Mw.frzs l s) a w
 | [],_,h=>h
 | i::r,_,h=>c_.frzs r (h.frz i)
def frz1(s:St)(i:Nat)(x:AV):AV :=
 match ak s.heap i with
 | some o=>if o.isRec then x else y7 i o x
 | none=>x
def xo:List Nat->St->AV->AV
 | [],_,x=>x
 | i::r,s,x=>xo r (s.frz i) (frz1 s i x)
def aP.frz1{c:vE}{bl:Nat->Option Nat}{s:St}{a:Act}{w:World}(hs:aP c bl (get s.env) (ak s.heap) a w)(i:Nat) :
  aP c bl (get (s.frz i).env) (ak (s.frz i).heap) a w/\∀v x,bu bl (bK bl c.MF (ak s.heap)) w v x->bu bl (bK bl c.MF (ak (s.frz i).heap)) w v (Mw.frz1 s i x):=by
 unfold St.frz Mw.frz1;cases ho:ak s.heap i with
 | none=>exact⟨hs,λ_ _ h=>h⟩
 | some o =>
  simp only;by_cases hr:o.isRec=true
  .simp only[hr,br];exact⟨hs,λ_ _ h=>h⟩
  .obtain⟨h1,h2⟩:=hs.freeze ho (by simpa using hr);have hh:ak (Pm i o (r9 s.heap i))=λj=>if j=i then none else(ak s.heap j).map (jC i o):=by
    funext j;simp only[Ah,dW];split<;>simp
   simp only[hr,cD,gd];exact⟨h1.congr (λk=>CP i o _ k) (λj=>by rw[hh]),λv x hv=>by rw[hh];exact h2 v x hv⟩
def aP.frzs{c:vE}{bl:Nat->Option Nat}{a:Act}{w:World}:∀(fs:List Nat)(s:St),aP c bl (get s.env) (ak s.heap) a w ->
  aP c bl (get (Mw.frzs fs s).env) (ak (Mw.frzs fs s).heap) a w/\∀v x,bu bl (bK bl c.MF (ak s.heap)) w v x->bu bl (bK bl c.MF (ak (Mw.frzs fs s).heap)) w v (xo fs s x)
 | [],s,hs=>⟨hs,λ_ _ h=>h⟩
 | i::r,s,hs=>by
  obtain⟨h1,h2⟩:=hs.frz1 i;obtain⟨h3,h4⟩:=aP.frzs r (s.frz i) h1;exact⟨h3,λv x hv=>h4 v _ (h2 v x hv)⟩
structure aR where
 o:bF
 bef:List Nat
 deriving Inhabited
inductive bR where
 | skip
 | ret
 | exit (id:Nat)
 | seq (x y:bR)
 | cut (x y:bR)
 | cond (c:IV) (t e:bR)
 | block (id:Nat) (x:bR)
 | loop (x:bR)
 | reg (ops:List bF) (dr:List Nat)
 | draw (ops:List aR) (al:List (Nat×Nat)) (dr:List Nat)
 | free (ops:List aR) (al:List (Nat×Nat)) (dr:List Nat)
 | wild (ops:List aR) (al:List (Nat×Nat)) (dr:List Nat)
 deriving Inhabited
inductive IX where
 | nrm
 | ret
 | ext (id:Nat)
def Ai(P:Program)[bO P](f:FuncId)(args:List AV)(d:Option Nat)(s:St)(K:St->Prop):Prop :=
 (∃args' r b,ac P f args' r/\(∀x∈args',aO x=[])/\bg (Vo b (ak s.heap)) args args'/\(b=true->A0 r=true)/\K (s.put d r)) \/
 ∃σ0 Sb Post ks,aX P f args σ0 Sb Post/\(∀id o,ak σ0 id=some o->ak s.heap id=some o) /\
  (∀r σ',Post r σ'->∀id,(ak σ' id).isSome=true->(Sb id/\(ak σ0 id).isSome=true)\/(id∈ks/\(id<1000\/2000<=id)/\((ak σ0 id).isSome=true\/ak s.heap id=none))) /\
  ∀r σ',Post r σ'->∃s':St,(∀k,get s'.env k=tu ks (get s.env k))/\(∀j,ak s'.heap j=JW ks (ak σ0) (ak σ') (ak s.heap) j)/\K (s'.put d r)
def EG(s:St)(l:List AV)(s':St)(l':List AV):Prop:=∀(c:vE)(a:Act)(w:World)(bl:Nat->Option Nat)(vs:List Value),aP c bl (get s.env) (ak s.heap) a w->bg (bu bl (bK bl c.MF (ak s.heap)) w) vs l ->
 ∃bl',aP c bl' (get s'.env) (ak s'.heap) a w/\bg (bu bl' (bK bl' c.MF (ak s'.heap)) w) vs l'
def cR(P:Program)[bO P](f:FuncId)(args:List AV)(d:Option Nat)(s:St)(K:St->Prop):Prop :=
 Ai P f args d s K\/(∃fs,Ai P f (args.map (xo fs s)) d (frzs fs s) K)\/∃s' args',EG s args s' args'/\Ai P f args' d s' K
def Wk(s s':St):Prop:=∀(c:vE)(a:Act)(w:World),c_ c s a w->c_ c s' a w
def Kv(o:bF)(s:St)(K:St->Prop):Prop :=
 match cg (o.dst.getD 0) o.op (val (get (s.kill (o.dst.getD 0)).env)) (ak (s.kill (o.dst.getD 0)).heap)with
 | some (v,e)=>K (((s.kill (o.dst.getD 0)).eff e).put o.dst v)
 | none=>False
def RF(o:bF)(s:St)(K:St->Prop):Prop:=∃s',Wk s s'/\Kv o s' K
def nY(P:Program)[bO P](o:bF)(s:St)(K:St->Prop):Prop :=
 match o.op with
 | .call f args=>cR P f (args.map (val (get s.env))) o.dst s K
 | .callv f args=>match val (get s.env) f with
  | .fn f caps=>if f<4000000 then bP P f=true/\cR P f (args.map (val (get s.env))++caps) o.dst s K else bP P (f-4000000)=true/\cR P (f-4000000) (caps.take 1++args.map (val (get s.env))++caps.drop 1) o.dst s K
  | _=>False
 | .bsl t st rows ps=>(o.dst.getD 0<1000/\match cg (o.dst.getD 0) (.bsl t st rows ps) (val (get (s.kill (o.dst.getD 0)).env)) (ak (s.kill (o.dst.getD 0)).heap)with
   | some (v,e)=>K (((s.kill (o.dst.getD 0)).eff e).put o.dst v)
   | none=>RF o s K)
 | .snl b x=>match val (get s.env) x with
  | .sl _ []=>K (s.put o.dst (.bool b))/\K (s.put o.dst (.bool (!b)))
  | x=>match Rw b x with
   | some v=>K (s.put o.dst v)
   | none=>False
 | op=>if fg op then
   (o.dst.getD 0<1000/\match cg (o.dst.getD 0) op (val (get (s.kill (o.dst.getD 0)).env)) (ak (s.kill (o.dst.getD 0)).heap)with
   | some (v,e)=>K (((s.kill (o.dst.getD 0)).eff e).put o.dst v)
   | none=>False)
  else match cg (o.dst.getD 0) op (val (get s.env)) (ak s.heap)with
   | some (v,e)=>K ((s.eff e).put o.dst v)
   | none=>False
def jZ(P:Program)[bO P]:List bF->St->(St->Prop)->Prop
 | [],s,K=>K s
 | o::r,s,K=>match o.g with
  | none=>nY P o s (λs'=>jZ P r s' K)
  | some (k,b)=>match get s.env k with
   | .bool t=>(t=b->nY P o (s.put (some k) (.bool b)) (λs'=>jZ P r s' K))/\(t = !b->jZ P r ((s.put (some k) (.bool (!b))).put o.dst (.tup [])) K)
   | .tup []=>jZ P r (s.put o.dst (.tup [])) K
   | _=>False
structure HI where
 i:Nat
 op:List Nat
 res:List Nat
 tch:List Nat
 rb:Bool
 wr:Bool
def bE.isPut:bE->Bool
 | .put ..=>true
 | _=>false
def bE.tch:bE->List Nat
 | .no=>[]
 | .put i _=>[i]
 | .new i _=>[i]
 | .reb i _=>[i]
def bE.isReb:bE->Bool
 | .reb ..=>true
 | _=>false
def bE.ids:bE->List Nat
 | .no=>[]
 | .put _ o=>dz o
 | .new _ o=>dz o
 | .reb _ o=>dz o
def bq:IV->List Nat
 | .s k=>[k]
 | .c _=>[]
def ln:Option IV->List Nat
 | some x=>bq x
 | none=>[]
def aA(o:nR):List Nat :=
 match o with
 | .mov x | .box _ _ x | .load _ x | .fadr _ x | .fld _ _ x | .len x | .slen x | .un _ x | .cvi _ x | .cvs x | .cvt x | .cvb _ x | .cvm x | .ext x _ | .nchk x | .snl _ x=>bq x
 | .pick c a b=>bq c++bq a++bq b
 | .new _ _=>[]
 | .build _ ps=>ps.flatMap λp=>bq p.2.2
 | .bsl _ _ _ ps=>ps.flatMap λp=>bq p.2
 | .store _ x y | .iadr _ x y | .aadr _ _ x y | .mnx _ x y | .cpy _ x y | .sib x y | .app _ _ x y | .apps _ x y | .bin _ x y | .bbin _ x y | .pbin _ x y | .sbin _ _ x y | .sidx x y | .mks _ _ _ x y=>bq x++bq y
 | .slc _ x lo hi mx=>bq x++ln lo++ln hi++ln mx
 | .sslc x lo hi=>bq x++ln lo++ln hi
 | .call _ args=>args.flatMap bq
 | .callv f args=>bq f++args.flatMap bq
 | .mkf _ caps=>caps.flatMap bq
 | .mop _ xs=>xs.flatMap bq
def dC(o:bF):List Nat:=aA o.op++(match o.g with|some (k,_)=>[k]|none=>[])
def HA(x y:HI):Bool :=
 y.tch.all (λd=>!x.op.contains d && !x.tch.contains d)&&x.tch.all (λd=>!y.op.contains d)&&(!x.rb||x.tch.all λd=>!y.res.contains d)&&(!y.rb||y.tch.all λd=>!x.res.contains d) && !(x.rb&&y.wr) && !(y.rb&&x.wr) && !(x.rb&&x.wr) && !(y.rb&&y.wr)
def iL(bef:List Nat)(x:HI)(hist:List HI):Bool:=hist.all λy=>bef.contains y.i||HA x y
def Be(al:List (Nat×Nat))(bef:List Nat)(x:HI):Bool:=al.all λp=>!x.res.contains p.1||p.2==x.i||bef.contains p.2
def A7:AV->Bool
 | .any=>true
 | _=>false
def eH(o:nR)(s:St)(e:bE):Bool:=(aA o).all (λk=>!A7 (get s.env k))&&(!e.isReb||e.tch.all λd=>s.heap.all λp=>!(dz p.2).contains d)
def cO(o:nR)(e:List (Nat×AV)):List Nat :=
 match o with
 | .mov _=>[]
 | o=>(aA o).flatMap λk=>aO (get e k)
def M5(tch:List Nat)(y:HI):Bool:=y.op.isEmpty&&y.tch.isEmpty && !y.rb&&tch.all λd=>!y.res.contains d
def K5(al:List (Nat×Nat))(i:Nat)(o:aR)(hist:List HI)(s:St)(K:St->Prop):Prop :=
 match o.o.op with
 | .app t st x y=>o.o.g=none/\match cg (o.o.dst.getD 0) (.app t st x y) (val (get s.env)) (ak s.heap)with
  | some (v,e)=>((aA (.app t st x y)).all λk=>!A7 (get s.env k))=true/\e.isReb=true/\(hist.all λz=>o.bef.contains z.i||M5 e.tch z)=true /\
    Be al o.bef ⟨i,cO (.app t st x y) s.env,aO v++e.ids,e.tch,true,true⟩=true/\K ((s.eff e).put o.o.dst v)
  | none=>False
 | _=>False
def i5(P:Program)[bO P](al:List (Nat×Nat))(i:Nat)(o:aR)(hist:List HI)(s:St)(K:List HI->St->Prop):Prop :=
 match o.o.op with
 | .call f args=>(∃args' r b,ac P f args' r/\(∀x∈args',aO x=[])/\bg (Vo b (ak s.heap)) (args.map (val (get s.env))) args'/\(b=true->A0 r=true)/\aO r=[] /\
   eH o.o.op s .no=true/\iL o.bef ⟨i,cO o.o.op s.env,[],[],false,false⟩ hist=true/\K (⟨i,cO o.o.op s.env,[],[],false,false⟩::hist) (s.put o.o.dst r)) \/
   ∃k ob ob' Sb r,aX P f (args.map (val (get s.env))) [(k,ob)] Sb (λr' σ'=>r'=r/\σ'=[(k,ob')])/\Sb k/\ak s.heap k=some ob/\aO r=[]/\dz ob'=[]/\k∈cO o.o.op s.env /\
   eH o.o.op s (.put k ob')=true/\iL o.bef ⟨i,cO o.o.op s.env,[],[k],false,true⟩ hist=true/\K (⟨i,cO o.o.op s.env,[],[k],false,true⟩::hist) ((s.eff (.put k ob')).put o.o.dst r)
 | .callv _ _=>False
 | .app t st x y=>(match cg (o.o.dst.getD 0) (.app t st x y) (val (get s.env)) (ak s.heap)with
  | some (v,e)=>eH o.o.op s e=true/\iL o.bef ⟨i,cO o.o.op s.env,aO v++e.ids,e.tch,e.isReb,e.isPut⟩ hist=true /\
    Be al o.bef ⟨i,cO o.o.op s.env,aO v++e.ids,e.tch,e.isReb,e.isPut⟩=true/\K (⟨i,cO o.o.op s.env,aO v++e.ids,e.tch,e.isReb,e.isPut⟩::hist) ((s.eff e).put o.o.dst v)
  | none=>False)\/(∃rows,x = .c .nl/\cg (o.o.dst.getD 0) (.app t st x y) (val (get s.env)) (ak s.heap)=some (.ms (o.o.dst.getD 0) st 0 rows.length,.new (o.o.dst.getD 0) ⟨t,st,rows,false⟩) /\
   eH o.o.op s .no=true/\iL o.bef ⟨i,cO o.o.op s.env,[],[],false,false⟩ hist=true/\K (⟨i,cO o.o.op s.env,[],[],false,false⟩::hist) (s.put o.o.dst (.sl st rows)))
 | op=>match cg (o.o.dst.getD 0) op (val (get s.env)) (ak s.heap)with
  | some (v,e)=>eH o.o.op s e=true/\iL o.bef ⟨i,cO o.o.op s.env,aO v++e.ids,e.tch,e.isReb,e.isPut⟩ hist=true /\
    Be al o.bef ⟨i,cO o.o.op s.env,aO v++e.ids,e.tch,e.isReb,e.isPut⟩=true/\K (⟨i,cO o.o.op s.env,aO v++e.ids,e.tch,e.isReb,e.isPut⟩::hist) ((s.eff e).put o.o.dst v)
  | none=>False
def fk(P:Program)[bO P](al:List (Nat×Nat)):Nat->List aR->List HI->St->(List HI->St->Prop)->Prop
 | _,[],hist,s,K=>K hist s
 | i,o::r,hist,s,K=>match o.o.g with
  | none=>i5 P al i o hist s (λhist' s'=>fk P al (i+1) r hist' s' K)
  | some (k,b)=>match get s.env k with
   | .bool t=>(t=b->i5 P al i o hist (s.put (some k) (.bool b)) (λhist' s'=>fk P al (i+1) r hist' s' K)) /\
     (t = !b->fk P al (i+1) r (⟨i,[],[],[],false,false⟩::hist) ((s.put (some k) (.bool (!b))).put o.o.dst (.tup [])) K)
   | .tup []=>fk P al (i+1) r (⟨i,[],[],[],false,false⟩::hist) (s.put o.o.dst (.tup [])) K
   | _=>False
def nC(P:Program)[bO P](al:List (Nat×Nat))(i:Nat)(l:List aR)(hist:List HI)(s:St)(K:St->Prop):Prop:=fk P al i l hist s λ_ s=>K s
def dB:bR->bR
 | .cut x y=>.seq (dB x) (dB y)
 | .seq x y=>.seq (dB x) (dB y)
 | .cond c t e=>.cond c (dB t) (dB e)
 | .block id x=>.block id (dB x)
 | .loop x=>.loop (dB x)
 | .free ops al dr=>.draw ops al dr
 | .wild ops al dr=>.draw ops al dr
 | x=>x
def refine(c:IV)(b:Bool)(s:St):St :=
 match c with
 | .s k=>s.put (some k) (.bool b)
 | .c _=>s
def rdy(R:List (Nat×aR)):List (Nat×aR):=R.filter λt=>R.all λq=>!t.2.bef.contains q.1
def Jk{α:Type}:List α->(α->Prop)->Prop
 | [],_=>True
 | [x],F=>F x
 | x::y::r,F=>F x/\Jk (y::r) F
def Gh(P:Program)[bO P]:Nat->List (Nat×aR)->St->(St->Prop)->Prop
 | 0,_,s,K=>K s
 | f+1,R,s,K=>Jk (rdy R) λt=>jZ P [t.2.o] s λs'=>Gh P f (R.filter λq=>q.1 != t.1) s' K
def jD(P:Program)[bO P]:bR->St->(IX->St->Prop)->Prop
 | .skip,s,K=>K .nrm s
 | .ret,s,K=>K .ret s
 | .exit id,s,K=>K (.ext id) s
 | .seq x y,s,K=>jD P x s λe s'=>match e with
  | .nrm=>jD P y s' K
  | e=>K e s'
 | .cut x y,s,K=>jD P x s λe s'=>match e with
  | .nrm=>∃s'',Wk s' s''/\jD P y s'' K
  | e=>K e s'
 | .cond c t e,s,K=>match val (get s.env) c with
  | .bool b=>(b=true->jD P t (refine c true s) K)/\(b=false->jD P e (refine c false s) K)
  | _=>False
 | .block id x,s,K=>jD P x s λe s'=>match e with
  | .ext j=>if j=id then K .nrm s' else K (.ext j) s'
  | e=>K e s'
 | .loop x,s,K=>∃I:Nat->St->Prop,(∃n s',I n s'/\Wk s s')/\∀n s,I n s->jD P x s λe s'=>match e with
  | .nrm=>∃m s'',m<n/\I m s''/\Wk s' s''
  | e=>K e s'
 | .reg ops dr,s,K=>jZ P ops s λs'=>K .nrm ⟨dels dr s'.env,s'.heap⟩
 | .draw ops al dr,s,K=>nC P al 0 ops [] (kills (al.map (·.1)) s) λs'=>K .nrm ⟨dels dr s'.env,s'.heap⟩
 | .wild ops al dr,s,K=>fk P al 0 ops.dropLast [] (kills (al.map (·.1)) s) λhist s1=>match ops.getLast? with
  | some o=>K5 al (ops.length-1) o hist s1 λs'=>K .nrm ⟨dels dr s'.env,s'.heap⟩
  | none=>False
 | .free ops _ dr,s,K=>Gh P ops.length (ops.zipIdx.map λp=>(p.2,p.1)) s λs'=>K .nrm ⟨dels dr s'.env,s'.heap⟩
def v6(P:Program)(n:Nat)(ops:Array Oper):List Oper->Option (List bF)
 | []=>some []
 | o::r=>match pU P n ops o,v6 P n ops r with
  | some x,some xs=>some (x::xs)
  | _,_=>none
def RE:List Oper->List (List Nat)->List (List Nat)
 | [],acc=>acc
 | o::r,acc=>RE r (acc++[((o.after.toList.filter (Region.binds .any)).flatMap λe=>e.on::acc.getD e.on []).eraseDups])
def eC:Code->List (List Nat)
 | .region _ ops _=>[ops.toList.flatMap λo=>o.dst.toList++o.op.operands.toList.filterMap fun | .tmp t=>some t|_=>none]
 | .seq x y=>eC x++eC y
 | .cond (.tmp t) x y=>[t]::(eC x++eC y)
 | .cond _ x y=>eC x++eC y
 | .block _ x=>eC x
 | .loop x=>eC x
 | .scope x=>eC x
 | _=>[]
def ZC(ls:List (List Nat))(k:Nat):Bool:=2<=(ls.filter (·.contains k)).length
def Ia:List Nat->Bool
 | []=>true
 | x::r=>!r.contains x&&Ia r
def lU(o:Oper):List Nat:=(o.after.toList.filter (Region.binds .any)).map (·.on)
def ZO(ops:List Oper)(bs:List (List Nat)):Bool :=
 (List.range ops.length).all λi=>match ops[i]? with
  | none=>false
  | some o=>(lU o).all (λd=>decide (d<i))&&(bs.getD i []).all (λd=>(lU o).contains d||(lU o).any λm=>(bs.getD m []).contains d)
def lq:IV->Bool
 | .s _=>true
 | .c x=>(aO x).isEmpty
def bV(op:nR):Bool :=
 match op with
 | .load _ x | .cvs x | .cvm x=>lq x
 | .store _ x y | .app _ _ x y | .apps _ x y | .cpy _ x y=>lq x&&lq y
 | .call _ args=>args.all lq
 | .mop _ args=>args.all lq
 | _=>true
def Wa(bs:List (List Nat))(l:List bF):Bool :=
 (List.range l.length).all λi=>(List.range i).all λj=>match l[i]?,l[j]? with
  | some x,some y=>(bs.getD i []).contains j ||
    ((match y.dst with|some d=>!(dC x).contains d&&x.dst != some d|none=>true)&&(match x.dst with|some d=>!(dC y).contains d|none=>true))
  | _,_=>false
def dh:Nat->List bF->List (Nat×Nat)
 | _,[]=>[]
 | i,o::r=>if fg o.op then(o.dst.getD 0,i)::dh (i+1) r else dh (i+1) r
def oA(l:List Nat):Nat->Nat->Nat
 | 0,k=>k
 | f+1,k=>if l.contains k then oA l f (k+1)else k
def KU(bs:List (List Nat)):Nat->List bF->List (Nat×List bF)×Nat
 | i,[]=>([],i)
 | i,o::r=>match KU bs (i+1) r with
  | ([],m)=>([(i,[o])],min m (oA (bs.getD i []) i 0))
  | ((k,s)::t,m)=>if i+1<=m then((i,[o])::(k,s)::t,min m (oA (bs.getD i []) i 0))else((i,o::s)::t,min m (oA (bs.getD i []) i 0))
def vn(bs:List (List Nat))(i n:Nat):List (List Nat):=(List.range n).map λk=>(bs.getD (i+k) []).filterMap λd=>if i<=d then some (d-i)else none
def B5(rb:List (List Nat))(s:List bF)(dr:List Nat):Option bR :=
 if Wa rb s&&(dh 0 s).all (λp=>p.1<1000)&&Ia ((dh 0 s).map (·.1))&&s.all (λo=>bV o.op)then
  some (.draw (s.zipIdx.map λp=>⟨p.1,rb.getD p.2 []⟩) (dh 0 s) dr)else none
def O5(bs:List (List Nat))(i:Nat)(s:List bF)(dr:List Nat):Option bR :=
 match s with
 | [o]=>some (.reg [o] dr)
 | s=>B5 (vn bs i s.length) s dr
def FI(bs:List (List Nat))(dr:List Nat):List (Nat×List bF)->Option bR
 | []=>some (.reg [] dr)
 | (i,s)::t=>match t with
  | []=>O5 bs i s dr
  | _::_=>match O5 bs i s [],FI bs dr t with
   | some x,some y=>some (.seq x y)
   | _,_=>none
def Np(P:Program)(n:Nat)(ops:Array Oper)(dr:List Nat->List Nat):Option bR :=
 match v6 P n ops ops.toList with
 | none=>none
 | some l=>if ZO ops.toList (RE ops.toList [])then FI (RE ops.toList []) (dr (l.filterMap (·.dst))) (KU (RE ops.toList []) 0 l).1 else none
def comp(P:Program)(n:Nat)(sh:List (List Nat)):Code->Option bR
 | .skip=>some .skip
 | .ret=>some .ret
 | .exit id=>some (.exit id)
 | .label _=>some .skip
 | .seq x y=>match comp P n sh x,comp P n sh y with
  | some x,some y=>some (.seq x y)
  | _,_=>none
 | .cond c x y=>match cV c,comp P n sh x,comp P n sh y with
  | some c,some x,some y=>some (.cond c x y)
  | _,_,_=>none
 | .block id x=>(comp P n sh x).map (.block id)
 | .loop x=>(comp P n sh x).map .loop
 | .scope x=>comp P n sh x
 | .region _ ops false=>match v6 P n ops ops.toList with
  | some l=>some (.reg l ((l.filterMap (·.dst)).filter λk=>!ZC sh k))
  | none=>none
 | .region _ ops true=>Np P n ops (·.filter λk=>!ZC sh k)
 | _=>none
inductive lS where
 | tmp (k:Nat)
 | cell (k:Nat) (n:Option Nat)
 deriving Inhabited
structure aB where
 n:Nat
 np:Nat
 res:List lS
 body:bR
 deriving Inhabited
def z7(P:Program):List ResultVar->Option (List lS)
 | []=>some []
 | .tmp t::r=>if t<1000000 then(z7 P r).map (.tmp t::·)else none
 | .cell a t::r=>match wA P t,z7 P r with
  | some n,some l=>if a<1000000 then some (.cell a n::l)else none
  | _,_=>none
def vp:List ResultVar->List Nat
 | []=>[]
 | .tmp t::r=>t::vp r
 | .cell a _::r=>a::vp r
def ny(P:Program)(f:FuncId):Option aB :=
 match P.funcs[f]? with
 | none=>none
 | some fn=>match fn.body with
  | none=>none
  | some body=>match comp P fn.ntmps (vp fn.results.toList::eC body) body,z7 P fn.results.toList with
   | some b,some rs=>if fn.params.size+fn.nfree<=fn.ntmps/\fn.ntmps<=1000000 then some ⟨fn.ntmps,fn.params.size+fn.nfree,rs,b⟩else none
   | _,_=>none
section
variable{P:Program}[bO P]{c:vE}[CT c P]{a:Act}{w:World}{s:St}{o:Oper}{io:bF}{ops:Array Oper}{n:Nat}
def xH(hc:pU P n ops o=some io):kD P o.op=some io.op/\io.dst=o.dst/\(∀k,o.dst=some k->k<n) /\
  ((o.guard=none/\io.g=none)\/∃j b k,o.guard=some (j,b)/\(ops[j]?).bind (·.dst)=some k/\io.g=some (k,b)):=by
 unfold pU at hc;split at hc
 case h_2=>cases hc
 rename_i op h1;have hd:(match o.dst with|some d=>decide (d<n)|none=>true)=true->∀k,o.dst=some k->k<n:=λh k hk=>by rw[hk]at h;simpa using h
 split at hc
 .rename_i h2 h3;cases hc;exact⟨h1,rfl,hd h2,.inl ⟨h3,rfl⟩⟩
 .rename_i j b h2 h3;split at hc
  case h_2=>cases hc
  rename_i k hk;cases hc;exact⟨h1,rfl,hd h2,.inr ⟨j,b,k,h3,hk,rfl⟩⟩
 .cases hc
def lX{f:FuncId}(hb:bP P f=true)(args:Array Value):(callFunc f args).run P w = .ok (.enter f args) w:=by
 unfold bP at hb;split at hb
 case h_2=>cases hb
 rename_i fn hf;simp only[cE,bne_iff_ne]at hb;obtain⟨h1,h2⟩:=hb;have h3:fn.body.isNone=false:=by cases h:fn.body<;>simp_all
 have h4:¬fn.body=none:=λhn=>by simp[hn]at h1
 simp[callFunc,hf,h2,h4]
def r_{f:FuncId}{cargs:List Value}{args:List AV}{d:Option Nat}(hd:∀k,d=some k->k<c.n){K:St->Prop}{bl:Nat->Option Nat}(hs:aP c bl (get s.env) (ak s.heap) a w)
  (ha:bg (bu bl (bK bl c.MF (ak s.heap)) w) cargs args) (h:Ai P f args d s K) :
  Calls P f cargs.toArray w λe w'=>∃v,e = .returned v/\∃s',K s'/\c_ c s' (a.put d v) w':=by
 rcases h with⟨args',r,b,hp,hid,hco,hf,hk⟩|⟨σ0,Sb,Post,ks,hp,hσ,hks,hk⟩
 .refine(GB hs hp ha hid b hco hf).mono λe w' ⟨v,he,hs',hv⟩=>⟨v,he,s.put d r,hk,zE hs' d hd hv (λ_=>rfl) (λ_=>rfl)⟩
 .refine(Ko hs hp ha hσ ks hks).mono λe w' ⟨v,r,σ',bl2,he,hP,hs',hv⟩=>?_;obtain⟨s',h1,h2,h3⟩:=hk r σ' hP;exact⟨v,he,s'.put d r,h3,zE hs' d hd hv h1 h2⟩
def uW{f:FuncId}{cargs:List Value}{args:List AV}{d:Option Nat}(hd:∀k,d=some k->k<c.n){K:St->Prop}{bl:Nat->Option Nat}(hs:aP c bl (get s.env) (ak s.heap) a w)
  (ha:bg (bu bl (bK bl c.MF (ak s.heap)) w) cargs args) (h:cR P f args d s K) :
  Calls P f cargs.toArray w λe w'=>∃v,e = .returned v/\∃s',K s'/\c_ c s' (a.put d v) w':=by
 rcases h with h|⟨fs,h⟩|⟨s',args',hw,h⟩
 .exact r_ hd hs ha h
 .obtain⟨h1,h2⟩:=aP.frzs fs s hs;exact r_ hd h1 (ha.mapRight λv x hv=>h2 v x hv) h
 .obtain⟨bl',h1,h2⟩:=hw c a w bl cargs hs ha;exact r_ hd h1 h2 h
def pn{f:FuncId}{args:Array Value}{K:Act->World->Prop}{Q:Exit->Act->World->Prop}(hr:(execOp a.eval o).run P w = .ok (.enter f args) w)
  (h:Calls P f args w λe w'=>∃v,e = .returned v/\K (a.put o.dst v) w'):o.wp P a w K Q:=by
 unfold Oper.wp;rw[hr];simp only[Oper.upon];refine h.mono λe w' ⟨v,he,hk⟩=>?_;subst he;exact hk
def Ck{v:AV}{e:bE}{K:Act->World->Prop}{Q:Exit->Act->World->Prop}{g:Nat->AV}{h:Nat->Option ao}(hok:bp P c o a w g h v e)
  (hk:∀r w' bl',aP c bl' (e.env g) (e.hp h) a w'->bu bl' (bK bl' c.MF (e.hp h)) w' r v->K (a.put o.dst r) w'):o.wp P a w K Q:=by
 obtain⟨r,w',bl',hr,h1,h2⟩:=hok;unfold Oper.wp;rcases hr with hr|⟨hr,rfl⟩
 .rw[hr];exact hk r w' bl' h1 h2
 .rw[hr];exact hk undef w' bl' h1 h2
def qP{bl:Nat->Option Nat}{g:Nat->AV}{h:Nat->Option ao}(hs:aP c bl g h a w){cs:Array Operand}{vs:List IV}(hv:RH cs.toList=some vs):bg (bu bl (bK bl c.MF h) w) (cs.map a.eval).toList (vs.map (val g)):=by
 rw[Array.toList_map];exact G6 hs hv
def Ji{oo:Op}{f:FuncId}{args:List IV}(h:kD P oo=some (.call f args)):∃cl,oo = .call cl/\cl.callee = .value (.func f)/\bP P f=true/\RH cl.args.toList=some args:=by
 cases oo<;>simp only[kD]at h
 case call cl =>
  unfold AX at h;split at h
  .rename_i f' hcl;split at h
   case isFalse=>obtain⟨_,_,_,_,_,_,_,_,_,_,_,_,q⟩:=uO h;cases q
   rename_i hb;simp only[dV]at h;obtain⟨vs,hv,h⟩:=h;cases h;exact⟨cl,rfl,hcl,hb,hv⟩
  all_goals
   exfalso
   repeat' (split at h)
   all_goals first
    | (cases h;done)
    | (obtain⟨_,_,_,_,_,_,_,_,_,_,_,_,q⟩:=uO h;cases q;done)
    | (simp only[dV]at h;obtain⟨_,_,h⟩:=h;cases h)
 case binOp =>
  split at h
  .unfold Jg at h;repeat' (split at h)
   all_goals cases h
  .cases h
 case convert =>
  split at h
  .unfold Jh at h
   repeat' (split at h)
   all_goals cases h
  .cases h
 case makeFunc fn first caps =>
  cases fn<;>simp only[kD]at h<;>try (cases h;done)
  split at h
  .simp only[dV]at h;obtain⟨_,_,h⟩:=h;cases h
  .cases h
 all_goals
  exfalso
  repeat' (split at h)
  all_goals first
   | (cases h;done)
   | (simp only[dV]at h;obtain⟨_,_,h⟩:=h;cases h;done)
   | (simp_all;done)
def O4{oo:Op}{f:IV}{args:List IV}(h:kD P oo=some (.callv f args)):∃cl t,oo = .call cl/\cl.callee = .value (.tmp t)/\f = .s t/\RH cl.args.toList=some args:=by
 cases oo<;>simp only[kD]at h
 case call cl =>
  unfold AX at h;split at h
  case h_2 =>
   rename_i t hcl;split at h
   case isFalse=>cases h
   simp only[dV]at h;obtain⟨vs,hv,h⟩:=h;cases h;exact⟨cl,t,rfl,hcl,rfl,hv⟩
  all_goals
   exfalso
   repeat' (split at h)
   all_goals first
    | (cases h;done)
    | (obtain⟨_,_,_,_,_,_,_,_,_,_,_,_,q⟩:=uO h;cases q;done)
    | (simp only[dV]at h;obtain⟨_,_,h⟩:=h;cases h)
 case binOp =>
  split at h
  .unfold Jg at h;repeat' (split at h)
   all_goals cases h
  .cases h
 case convert =>
  split at h
  .unfold Jh at h
   repeat' (split at h)
   all_goals cases h
  .cases h
 case makeFunc fn first caps =>
  cases fn<;>simp only[kD]at h<;>try (cases h;done)
  split at h
  .simp only[dV]at h;obtain⟨_,_,h⟩:=h;cases h
  .cases h
 all_goals
  exfalso
  repeat' (split at h)
  all_goals first
   | (cases h;done)
   | (simp only[dV]at h;obtain⟨_,_,h⟩:=h;cases h;done)
   | (simp_all;done)
def Wh{oo:Op}{b:Bool}{x:IV}(h:kD P oo=some (.snl b x)):∃op t y z t' e,oo = .binOp op t y z t'/\P.underlying t=some (.slice e)/\((op = .eql/\b=false)\/(op = .neq/\b=true))/\cV y=some x/\cV z=some (.c .nl):=by
 cases oo<;>simp only[kD]at h
 case binOp op t y z t' =>
  split at h
  case h_2=>cases h
  rename_i yv zv h1 h2;unfold Jg at h;split at h
  case h_7 =>
   rename_i e ht;split at h
   .cases h;exact⟨_,_,_,_,_,_,rfl,ht,.inl ⟨rfl,rfl⟩,h1,h2⟩
   .cases h;exact⟨_,_,_,_,_,_,rfl,ht,.inr ⟨rfl,rfl⟩,h1,h2⟩
   .cases h
  all_goals
   repeat' (split at h)
   all_goals cases h
 case call cl =>
  unfold AX at h;exfalso
  repeat' (split at h)
  all_goals first
   | (cases h;done)
   | (obtain⟨_,_,_,_,_,_,_,_,_,_,_,_,q⟩:=uO h;cases q;done)
   | (simp only[dV]at h;obtain⟨_,_,h⟩:=h;cases h)
 case convert =>
  split at h
  .unfold Jh at h
   repeat' (split at h)
   all_goals cases h
  .cases h
 case makeFunc fn first caps =>
  cases fn<;>simp only[kD]at h<;>try (cases h;done)
  split at h
  .simp only[dV]at h;obtain⟨_,_,h⟩:=h;cases h
  .cases h
 all_goals
  exfalso
  repeat' (split at h)
  all_goals first
   | (cases h;done)
   | (simp only[dV]at h;obtain⟨_,_,h⟩:=h;cases h;done)
   | (simp_all;done)
def PC(hc:pU P n ops o=some io)(hn:c.n=n){K:St->Prop}(h:nY P io s K)(hs:c_ c s a w)(Q:Exit->Act->World->Prop) :
  o.wp P a w (λa' w'=>∃s',K s'/\c_ c s' a' w') Q:=by
 obtain⟨h1,h2,h3,_⟩:=xH hc;obtain⟨bl,hs⟩:=hs;have hd:∀k,io.dst=some k->k<c.n:=λk hk=>by rw[hn];exact h3 k (h2▸hk)
 have plain:∀{s:St}{bl:Nat->Option Nat},aP c bl (get s.env) (ak s.heap) a w->(fg io.op=true->ak s.heap (io.dst.getD 0)=none/\dk (io.dst.getD 0) (get s.env) (ak s.heap)/\(io.dst.getD 0<1000\/2000<=io.dst.getD 0)) ->
   (match cg (io.dst.getD 0) io.op (val (get s.env)) (ak s.heap)with
    | some (v,e)=>K ((s.eff e).put io.dst v)
    | none=>False)->o.wp P a w (λa' w'=>∃s',K s'/\c_ c s' a' w') Q:=by
  intro s bl hs hnew hm;split at hm
  case h_2=>exact hm.elim
  rename_i v e he;refine Ck (Lq hs h1 he hnew) (λr w' bl' q1 q2=>⟨_,hm,?_⟩);rw[<-h2];exact zE q1 io.dst hd q2 (ND s e) (JD s e)
 unfold nY at h;split at h
 .rename_i f args hop;rw[hop]at h1;obtain⟨cl,hoo,hcl,hb,hv⟩:=Ji h1;refine pn (f:=f) (args:=cl.args.map a.eval) ?_ ?_
  .have:=lX (w:=w) hb (cl.args.map a.eval);simp[execOp,hoo,resolve,hcl,Act.eval,Deferred.ofValue,invoke,this]
  .have:=uW hd hs (qP hs hv) h;simp only[Array.toArray_toList]at this;rw[<-h2];exact this
 .rename_i f args hop;rw[hop]at h1;obtain⟨cl,t,hoo,hcl,rfl,hv⟩:=O4 h1;split at h
  case h_2=>exact h.elim
  rename_i f caps hval;have hf:=hs.env t;simp only[val]at hval;rw[hval]at hf;obtain⟨cs,hf1,hf2⟩:=hf;have hev:a.eval (.tmp t) = .func (.func (Zw f)) (cs.take (WD f)).toArray (cs.drop (WD f)).toArray:=by
   rw[(IG (a:=a) (k:=t) (λb hb=>by rw[hb]at hf1;cases hf1)).2]at hf1;exact hf1
  have lift:∀{vs:List Value}{xs:List AV},bg (eu bl (bK bl c.MF (ak s.heap)) w) vs xs->bg (bu bl (bK bl c.MF (ak s.heap)) w) vs xs:=λhr=>hr.mono λ_ x _ hr=>(show bu bl (bK bl c.MF (ak s.heap)) w _ x from by
    cases x<;>first|exact hr|trivial|(exfalso;simp only[eu]at hr;cases hr))
  by_cases hlt:f<4000000
  .rw[aF hlt]at h;have eI:Zw f=f:=aF hlt;have eK:WD f=0:=aF hlt;rw[eI,eK]at hev;simp only[mA,M8]at hev;obtain⟨hb,h⟩:=h;refine pn (f:=f) (args:=cl.args.map a.eval++cs.toArray) ?_ ?_
   .have:=lX (w:=w) hb (cl.args.map a.eval++cs.toArray);simp[execOp,hoo,resolve,hcl,hev,Deferred.ofValue,invoke,this]
   .have hargs:=(qP hs hv).append (lift hf2);have:=uW hd hs hargs h;have e1:((cl.args.map a.eval).toList++cs).toArray=cl.args.map a.eval++cs.toArray:=by apply Array.toList_inj.1;simp
    rw[e1]at this;rw[<-h2];exact this
  .rw[au hlt]at h;have eI:Zw f=f-4000000:=au hlt;have eK:WD f=1:=au hlt;rw[eI,eK]at hev;obtain⟨hb,h⟩:=h;refine pn (f:=f-4000000) (args:=(cs.take 1).toArray++cl.args.map a.eval++(cs.drop 1).toArray) ?_ ?_
   .generalize (cs.take 1).toArray=A1 at hev⊢;generalize (cs.drop 1).toArray=A2 at hev⊢;have:=lX (w:=w) hb (A1++cl.args.map a.eval++A2);rw[Array.append_assoc]at this;simp[execOp,hoo,resolve,hcl,hev,Deferred.ofValue,invoke,this]
   .have hargs:=((lift (hf2.take 1)).append (qP hs hv)).append (lift (hf2.drop 1));have:=uW hd hs hargs h;have e1:((cs.take 1++(cl.args.map a.eval).toList)++cs.drop 1).toArray=(cs.take 1).toArray++cl.args.map a.eval++(cs.drop 1).toArray:=by apply Array.toList_inj.1;simp
    rw[e1]at this;rw[<-h2];exact this
 .rename_i t st rows ps hop;obtain⟨hlt,h⟩:=h;have go:∀{s:St}{bl:Nat->Option Nat},aP c bl (get s.env) (ak s.heap) a w->Kv io s K->o.wp P a w (λa' w'=>∃s',K s'/\c_ c s' a' w') Q:=λ{s bl} hs hm=>by
   obtain⟨bl',hk⟩:=c_.kill (i:=io.dst.getD 0) ⟨bl,hs⟩;exact plain hk (λ_=>⟨(fK s _).1,(fK s _).2,.inl hlt⟩) hm
  split at h
  .rename_i v e he;refine go hs ?_;unfold Kv;rw[hop,he];exact h
  .obtain⟨s',hw,h⟩:=h;obtain⟨bl',hs'⟩:=hw c a w ⟨bl,hs⟩;exact go hs' h
 .rename_i b x hop;obtain⟨op,t,y,z,t',e,hoo,ht,hb,hx,hy⟩:=Wh (hop▸h1);have kk:∀{v:AV},bp P c o a w (get s.env) (ak s.heap) v .no->K (s.put io.dst v)->o.wp P a w (λa' w'=>∃s',K s'/\c_ c s' a' w') Q:=λ{v} hok hk=>by
   refine Ck hok (λr w' bl' q1 q2=>⟨_,hk,?_⟩);rw[<-h2];exact zE q1 io.dst hd q2 (λ_=>rfl) (λ_=>rfl)
  split at h
  .rename_i st hv;have h5:=a_ hs hx;rw[hv]at h5;have hy2:a.eval z = .slice none 0 0:=(a_ hs hy).nl;generalize hu:a.eval y=u at h5;have h6:=h5.sl;have fin:∀{ad n cap},a.eval y = .slice ad n cap->o.wp P a w (λa' w'=>∃s',K s'/\c_ c s' a' w') Q:=λ{ad n cap} h7=>by
    refine kk (v:=.bool (if ad.isNone then !b else b)) (bp.pure hs (r:=.bool _) (Ok hoo ht hb h7 hy2) (pi _)) ?_;cases ad
    .exact h.2
    .exact h.1
   cases h6<;>exact fin hu
  .split at h
   case h_2=>exact h.elim
   rename_i v hv;exact kk (Mf hs hoo ht hb hx hy hv) h
 .split at h
  .rename_i hal;obtain⟨hlt,h⟩:=h;obtain⟨bl',hk⟩:=c_.kill (i:=io.dst.getD 0) ⟨bl,hs⟩;exact plain hk (λ_=>⟨(fK s _).1,(fK s _).2,.inl hlt⟩) h
  .rename_i hal;exact plain hs (λh=>absurd h hal) h
def xz{bl:Nat->Option Nat}{M:Nat->Prop}{j k:Nat}(hj:(ops[j]?).bind (·.dst)=some k)(hk:bu bl M w (tv a k) (.tup [])):yielded ops a.tmps j=none:=by
 obtain⟨cs,h1,h2⟩:=hk;rw[(IG (a:=a) (k:=k) (λb hb=>by rw[hb]at h1;cases h1)).2]at h1;have hcs:cs=[]:=by cases cs with|nil=>rfl|cons=>exact h2.elim
 subst hcs;have:∀b,a.tmps[k]?≠some (.bool b):=λb hb=>by
  rw[tR,hb]at h1;cases h1
 unfold yielded;rw[hj];show(match a.tmps[k]? with|some (.bool b)=>some b|_=>none)=none;generalize a.tmps[k]? = x at this;cases x with
 | none=>rfl
 | some v=>cases v<;>first|rfl|exact absurd rfl (this _)
def xM(hn:c.n=n)(Q:Exit->Act->World->Prop){o:Oper}{io:bF}(h1:pU P n ops o=some io){il:List bF}{K:St->Prop}{KK:Act->World->Prop}{s:St}{a:Act}{w:World}(h:jZ P (io::il) s K)(hs:c_ c s a w)
  (hK:∀s' a' w',jZ P il s' K->c_ c s' a' w'->KK a' w'):if Region.wanted o (yielded ops a.tmps)then o.wp P a w KK Q\/(o.asks P a w/\LetsOut Q)else KK (a.put o.dst undef) w:=by
 obtain⟨_,hdst,hdn,hg⟩:=xH h1;have run:∀{s:St},nY P io s (λs'=>jZ P il s' K)->c_ c s a w->o.wp P a w KK Q:=λ{s} h hs =>
  Oper.wp_mono (λa' w' ⟨s',h3,h4⟩=>hK s' a' w' h3 h4) (PC h1 hn h hs Q)
 rcases hg with⟨g1,g2⟩|⟨j,b,k,g1,g2,g3⟩
 .rw[aF (by simp[Region.wanted,g1])];simp only[jZ,g2]at h;exact .inl (run h hs)
 .simp only[jZ,g3]at h;split at h
  case h_3=>exact h.elim
  case h_2 =>
   rename_i hv;obtain⟨bl,hsb⟩:=hs;have hk:=hsb.env k;rw[hv]at hk;have hy:=xz (ops:=ops) g2 hk;rw[au (by simp[Region.wanted,g1,hy])];refine hK _ _ w h ?_;rw[<-hdst];exact KT ⟨bl,hsb⟩ io.dst (λq hq=>by rw[hn];exact hdn q (hdst▸hq)) ()
  rename_i t hv;obtain⟨bl,hsb⟩:=hs;have hk:=hsb.env k;rw[hv]at hk;have hkv:=hk.bool;rw[(IG (a:=a) (k:=k) (λb hb=>by rw[hb]at hkv;cases hkv)).2]at hkv;have hkn:k<a.tmps.size:=by
   rcases kz k a.tmps.size with hlt|hge
   .exact hlt
   .rw[tR,GR hge]at hkv;cases hkv
  have hy:yielded ops a.tmps j=some t:=by
   have:a.tmps[k]?=some (.bool t):=by
    rw[tR,zV hkn]at hkv;rw[zV hkn];simpa using hkv
   simp[yielded,g2,this]
  have hput:∀q:Bool,t=q->c_ c (s.put (some k) (.bool q)) a w:=λq hq=>by
   refine⟨bl,hsb.congr (λi=>?_) (λi=>rfl)⟩;simp only[St.put,get,r8];by_cases hik:k=i
   .subst hik;simp[hv,hq]
   .have hik':¬i=k:=λe=>hik e.symm;simp[hik,hik']
  by_cases htb:t=b
  .rw[aF (by simp[Region.wanted,g1,hy,htb])];exact .inl (run (h.1 htb) (hput b htb))
  .have htb':t = !b:=by cases t<;>cases b<;>simp_all
   rw[au (by simp[Region.wanted,g1,hy,htb])];refine hK _ _ w (h.2 htb') ?_;rw[<-hdst];exact KT (hput _ htb') io.dst (λq hq=>by rw[hn];exact hdn q (hdst▸hq)) ()
def CZ(hn:c.n=n)(Q:Exit->Act->World->Prop):∀(l:List Oper)(il:List bF),v6 P n ops l=some il->∀(s:St)(K:St->Prop)(a:Act)(w:World),jZ P il s K->c_ c s a w ->
  (∀s' a' w',K s'->c_ c s' a' w'->Q .normal a' w')->wpList P ops Q l a w
 | [],il,hc,s,K,a,w,h,hs,hQ=>by
  simp only[v6,de]at hc;subst hc;exact hQ s a w h hs
 | o::r,il,hc,s,K,a,w,h,hs,hQ=>by
  simp only[v6]at hc;split at hc
  case h_2=>cases hc
  rename_i io il' h1 h2;cases hc;unfold wpList;exact xM hn Q h1 h hs λs' a' w' h3 h4=>CZ hn Q r il' h2 s' K a' w' h3 h4 hQ
end
section
variable{g g':Nat->AV}{h h':Nat->Option ao}
def rL{v:IV}(hg:∀k∈bq v,g' k=g k):val g' v=val g v:=by
 cases v with
 | s k=>exact hg k (by simp[bq])
 | c x=>rfl
def yb{l:List IV}(hg:∀v∈l,∀k∈bq v,g' k=g k):l.map (val g')=l.map (val g):=K_ λv hv=>rL (hg v hv)
def PZ{v:Option IV}(hg:∀x,v=some x->∀k∈bq x,g' k=g k):v.map (val g')=v.map (val g):=by
 cases v with
 | none=>rfl
 | some x=>simp only[kZ];rw[rL (hg x rfl)]
def pZ(id st off len:Nat):aO (.ms id st off len)=[id]:=rfl
def Hp(id st row off:Nat):aO (.mp id st row off)=[id]:=rfl
def Ja{n:Option Nat}{p:AV}(hh:∀id∈aO p,h' id=h id):uJ n p h'=uJ n p h:=by
 cases p<;>try rfl
 simp only[uJ];rw[hh _ (by simp[Hp])]
def GX{n:Nat}{p x:AV}(hh:∀id∈aO p,h' id=h id):kL n p x h'=kL n p x h:=by
 unfold kL;split
 .rename_i id st row off cs h1;rw[hh id (by simp[Hp])]
 .rfl
def vq{st:Nat}{x:AV}(hh:∀id∈aO x,h' id=h id):kH st h' x=kH st h x:=by
 cases x<;>try rfl
 simp only[kH];rw[hh _ (by simp[pZ])]
def Cs{d:Nat}{t:TypeId}{st:Nat}{x:AV}{src:Option (List (List AV))}(hh:∀id∈aO x,h' id=h id):qi d t st x src h'=qi d t st x src h:=by
 unfold qi;cases src with
 | none=>rfl
 | some ys =>
  cases x<;>try rfl
  simp only;rw[hh _ (by simp[pZ])]
def Ll{st:Nat}{x:AV}{src:Option (List (List AV))}(hh:∀id∈aO x,h' id=h id):Bs st x src h'=Bs st x src h:=by
 unfold Bs;cases src with
 | none=>rfl
 | some ys =>
  cases x<;>try rfl
  simp only;rw[hh _ (by simp[pZ])]
def Ln{x:AV}(hh:∀id∈aO x,h' id=h id):GU x h'=GU x h:=by
 unfold GU;cases x<;>try rfl
 simp only;rw[hh _ (by simp[pZ])]
def Lp{d:Nat}{k:MK}{xs:List AV}(hh:∀x∈xs,∀id∈aO x,h' id=h id):nT d k xs h'=nT d k xs h:=by
 have hm:∀{id:Nat}{b:Bool}{r:List AV},xs = .mm id b::r->h' id=h id:=λ{id b r} hx=>hh (.mm id b) (by rw[hx];simp) id (by simp[aO,oZ,kv,mT]);unfold nT;split<;>first|rfl|(rw[hm rfl])
def GW{ps:List (Nat×Nat×IV)}(hg:∀p∈ps,∀k∈bq p.2.2,g' k=g k):∀cells,mO (val g') cells ps=mO (val g) cells ps:=by
 induction ps with
 | nil=>intro cells;rfl
 | cons p r ih =>
  intro cells;obtain⟨off,n,v⟩:=p;have hv:val g' v=val g v:=rL (hg (off,n,v) (by simp));simp only[mO,hv];cases iJ (val g v)with
  | none=>rfl
  | some cs=>simp only[ih (λp hp=>hg p (by simp[hp]))]
def Jb{st:Nat}{ps:List (Nat×IV)}(hg:∀p∈ps,∀k∈bq p.2,g' k=g k):∀rows,pR (val g') st rows ps=pR (val g) st rows ps:=by
 induction ps with
 | nil=>intro cells;rfl
 | cons p r ih =>
  intro cells;obtain⟨off,v⟩:=p;have hv:val g' v=val g v:=rL (hg (off,v) (by simp));simp only[pR,hv];cases iJ (val g v)with
  | none=>rfl
  | some cs=>simp only[ih (λp hp=>hg p (by simp[hp]))]
def NF{v:IV}{S:List Nat}(hsub:∀k∈bq v,k∈S)(hh:∀k∈S,∀id∈aO (g k),h' id=h id)(hc:∀x,v = .c x->aO x=[]):∀id∈aO (val g v),h' id=h id:=by
 cases v with
 | s k=>intro id hid;exact hh k (hsub k (by simp[bq])) id hid
 | c x=>intro id hid;rw[show val g (.c x)=x from rfl,hc x rfl]at hid;cases hid
def gP{v:IV}(h:lq v=true):∀x,v = .c x->aO x=[]:=by
 rintro x rfl;simpa[lq]using h
def OX{d:Nat}{op:nR}(hg:∀k∈aA op,g' k=g k)(hh:∀k∈aA op,∀id∈aO (g k),h' id=h id)(hc:bV op=true):cg d op (val g') h'=cg d op (val g) h:=by
 have v1:∀{v:IV},(∀k∈bq v,k∈aA op)->val g' v=val g v:=λhs=>rL λk hk=>hg k (hs k hk);have vo:∀{v:Option IV},(∀x,v=some x->∀k∈bq x,k∈aA op)->v.map (val g')=v.map (val g):=λhs=>PZ λx hx k hk=>hg k (hs x hx k hk);have hp:∀{v:IV},(∀k∈bq v,k∈aA op)->(∀x,v = .c x->aO x=[])->∀id∈aO (val g v),h' id=h id:=λhs hc=>NF hs hh hc;cases op with
 | mov x=>simp only[cg];rw[v1 (λk hk=>by simp only[aA];exact hk)]
 | pick c a b =>
  simp only[cg];rw[v1 (v:=c) (λk hk=>by simp only[aA,f9];simp[hk]),v1 (v:=a) (λk hk=>by simp only[aA,f9];simp[hk]),v1 (v:=b) (λk hk=>by simp only[aA,f9];simp[hk])]
 | new t cs=>rfl
 | box t n x=>simp only[cg];rw[v1 (λk hk=>by simp only[aA];exact hk)]
 | build cs ps =>
  simp only[cg];rw[GW (λp hp k hk=>hg k (by simp only[aA,sA];exact⟨p,hp,hk⟩))]
 | bsl t st rows ps =>
  simp only[cg];rw[Jb (λp hp k hk=>hg k (by simp only[aA,sA];exact⟨p,hp,hk⟩))]
 | load n p =>
  have hs:∀k∈bq p,k∈aA (.load n p):=λk hk=>by simp only[aA];exact hk
  simp only[cg];rw[v1 hs,Ja (hp hs (gP hc))]
 | store n p x =>
  simp only[bV,cE]at hc;have hs:∀k∈bq p,k∈aA (.store n p x):=λk hk=>by simp only[aA,f9];simp[hk]
  have hs2:∀k∈bq x,k∈aA (.store n p x):=λk hk=>by simp only[aA,f9];simp[hk]
  simp only[cg];rw[v1 hs,v1 hs2,GX (hp hs (gP hc.1))]
 | fadr off p=>simp only[cg];rw[v1 (λk hk=>by simp only[aA];exact hk)]
 | fld off n x=>simp only[cg];rw[v1 (λk hk=>by simp only[aA];exact hk)]
 | iadr st x i =>
  simp only[cg];rw[v1 (v:=x) (λk hk=>by simp only[aA,f9];simp[hk]),v1 (v:=i) (λk hk=>by simp only[aA,f9];simp[hk])]
 | aadr st n x i =>
  simp only[cg];rw[v1 (v:=x) (λk hk=>by simp only[aA,f9];simp[hk]),v1 (v:=i) (λk hk=>by simp only[aA,f9];simp[hk])]
 | mnx m x y =>
  simp only[cg];rw[v1 (v:=x) (λk hk=>by simp only[aA,f9];simp[hk]),v1 (v:=y) (λk hk=>by simp only[aA,f9];simp[hk])]
 | cpy st x y =>
  simp only[bV,cE]at hc;have hs:∀k∈bq x,k∈aA (.cpy st x y):=λk hk=>by simp only[aA,f9];simp[hk]
  have hs2:∀k∈bq y,k∈aA (.cpy st x y):=λk hk=>by simp only[aA,f9];simp[hk]
  simp only[cg];rw[v1 hs,v1 hs2,vq (hp hs2 (gP hc.2)),Ll (hp hs (gP hc.1))]
 | cvm x =>
  have hs:∀k∈bq x,k∈aA (.cvm x):=λk hk=>by simp only[aA];exact hk
  simp only[cg];rw[v1 hs,Ln (hp hs (gP hc))]
 | sib x y =>
  simp only[cg];rw[v1 (v:=x) (λk hk=>by simp only[aA,f9];simp[hk]),v1 (v:=y) (λk hk=>by simp only[aA,f9];simp[hk])]
 | mop k xs =>
  simp only[bV,fz]at hc;have hs:∀x∈xs,∀k'∈bq x,k'∈aA (.mop k xs):=λx hx k' hk=>by simp only[aA,sA];exact⟨x,hx,hk⟩
  have e1:xs.map (val g')=xs.map (val g):=K_ λx hx=>v1 (hs x hx);simp only[cg];rw[e1];exact Lp λy hy id hid=>by
   obtain⟨x,hx,rfl⟩:=iD.1 hy;exact hp (hs x hx) (gP (hc x hx)) id hid
 | slc st x lo hi mx =>
  have e:∀{v:Option IV}{k:Nat},k∈ln v↔∃x,v=some x/\k∈bq x:=by
   intro v k;cases v<;>simp[ln]
  simp only[cg]
  rw[v1 (v:=x) (λk hk=>by simp only[aA,f9];simp[hk]),vo (v:=lo) (λy hy k hk=>by simp only[aA,f9];exact .inl (.inl (.inr (e.2 ⟨y,hy,hk⟩)))),
   vo (v:=hi) (λy hy k hk=>by simp only[aA,f9];exact .inl (.inr (e.2 ⟨y,hy,hk⟩))),vo (v:=mx) (λy hy k hk=>by simp only[aA,f9];exact .inr (e.2 ⟨y,hy,hk⟩))]
 | len x=>simp only[cg];rw[v1 (λk hk=>by simp only[aA];exact hk)]
 | app t st x y =>
  simp only[bV,cE]at hc;have hs:∀k∈bq x,k∈aA (.app t st x y):=λk hk=>by simp only[aA,f9];simp[hk]
  have hs2:∀k∈bq y,k∈aA (.app t st x y):=λk hk=>by simp only[aA,f9];simp[hk]
  simp only[cg];rw[v1 hs,v1 hs2,vq (hp hs2 (gP hc.2)),Cs (hp hs (gP hc.1))]
 | slen x=>simp only[cg];rw[v1 (λk hk=>by simp only[aA];exact hk)]
 | sslc x lo hi =>
  have e:∀{v:Option IV}{k:Nat},k∈ln v↔∃x,v=some x/\k∈bq x:=by
   intro v k;cases v<;>simp[ln]
  simp only[cg]
  rw[v1 (v:=x) (λk hk=>by simp only[aA,f9];simp[hk]),vo (v:=lo) (λy hy k hk=>by simp only[aA,f9];exact .inl (.inr (e.2 ⟨y,hy,hk⟩))),
   vo (v:=hi) (λy hy k hk=>by simp only[aA,f9];exact .inr (e.2 ⟨y,hy,hk⟩))]
 | apps t x y =>
  simp only[bV,cE]at hc;have hs:∀k∈bq x,k∈aA (.apps t x y):=λk hk=>by simp only[aA,f9];simp[hk]
  have hs2:∀k∈bq y,k∈aA (.apps t x y):=λk hk=>by simp only[aA,f9];simp[hk]
  simp only[cg];rw[v1 hs,v1 hs2,Cs (hp hs (gP hc.1))]
 | bin op x y =>
  simp only[cg];rw[v1 (v:=x) (λk hk=>by simp only[aA,f9];simp[hk]),v1 (v:=y) (λk hk=>by simp only[aA,f9];simp[hk])]
 | bbin op x y =>
  simp only[cg];rw[v1 (v:=x) (λk hk=>by simp only[aA,f9];simp[hk]),v1 (v:=y) (λk hk=>by simp only[aA,f9];simp[hk])]
 | pbin op x y =>
  simp only[cg];rw[v1 (v:=x) (λk hk=>by simp only[aA,f9];simp[hk]),v1 (v:=y) (λk hk=>by simp only[aA,f9];simp[hk])]
 | sbin op ls x y =>
  simp only[cg];rw[v1 (v:=x) (λk hk=>by simp only[aA,f9];simp[hk]),v1 (v:=y) (λk hk=>by simp only[aA,f9];simp[hk])]
 | un op x=>simp only[cg];rw[v1 (λk hk=>by simp only[aA];exact hk)]
 | cvi k' x=>simp only[cg];rw[v1 (λk hk=>by simp only[aA];exact hk)]
 | cvs x =>
  have hs:∀k∈bq x,k∈aA (.cvs x):=λk hk=>by simp only[aA];exact hk
  simp only[cg];rw[v1 hs,vq (hp hs (gP hc))]
 | cvt x=>simp only[cg];rw[v1 (λk hk=>by simp only[aA];exact hk)]
 | cvb t x=>simp only[cg];rw[v1 (λk hk=>by simp only[aA];exact hk)]
 | call f args=>rfl
 | callv f args=>rfl
 | snl b x=>simp only[cg];rw[v1 (λk hk=>by simp only[aA];exact hk)]
 | ext x i=>simp only[cg];rw[v1 (λk hk=>by simp only[aA];exact hk)]
 | nchk x=>simp only[cg];rw[v1 (λk hk=>by simp only[aA];exact hk)]
 | mkf f caps =>
  simp only[cg];rw[yb (λv hv k hk=>hg k (by simp only[aA,sA];exact⟨v,hv,hk⟩))]
 | sidx x i =>
  simp only[cg];rw[v1 (v:=x) (λk hk=>by simp only[aA,f9];simp[hk]),v1 (v:=i) (λk hk=>by simp only[aA,f9];simp[hk])]
 | mks t st z x y =>
  simp only[cg];rw[v1 (v:=x) (λk hk=>by simp only[aA,f9];simp[hk]),v1 (v:=y) (λk hk=>by simp only[aA,f9];simp[hk])]
def FN{b:Bool}:∀{l l':List AV},(∀x∈l,∀id∈aO x,h' id=h id)->bg (Vo b h) l l'->bg (Vo b h') l l'
 | [],[],_,_=>trivial
 | x::l,x'::l',hh,hc=>⟨by
   rcases hc.1 with h1|h1|⟨hb,id,st,off,len,o,h1,h2,h3⟩
   .exact .inl h1
   .exact .inr (.inl h1)
   .refine .inr (.inr ⟨hb,id,st,off,len,o,h1,?_,h3⟩);rw[hh x (by simp) id (by rw[h1];simp[pZ])];exact h2,FN (λy hy=>hh y (by simp[hy])) hc.2⟩
 | [],_::_,_,hc=>hc.elim
 | _::_,[],_,hc=>hc.elim
end
def i8(g:Nat->AV)(d:Option Nat)(x:AV):Nat->AV :=
 match d with
 | some d=>ez g d x
 | none=>g
def cln(d:Nat)(op:nR)(ρ:IV->AV)(h:Nat->Option ao)(v:AV)(e:bE):Prop:=e = .no/\fg op=true/\∃t st rows,v = .sl st rows/\cg d op ρ h=some (.ms d st 0 rows.length,.new d ⟨t,st,rows,false⟩)
def uX:nR->Bool
 | .mov _=>true
 | _=>false
def Nh(P:Program)[bO P](o:bF)(g:Nat->AV)(h:Nat->Option ao)(v:AV)(e:bE):Prop :=
 match o.op with
 | .call f args=>(e = .no/\aO v=[]/\∃args' b,ac P f args' v/\(∀x∈args',aO x=[])/\bg (Vo b h) (args.map (val g)) args'/\(b=true->A0 v=true)) \/
   ∃k ob ob' Sb,e = .put k ob'/\aO v=[]/\aX P f (args.map (val g)) [(k,ob)] Sb (λr' σ'=>r'=v/\σ'=[(k,ob')])/\Sb k/\h k=some ob/\∃q∈aA o.op,k∈aO (g q)
 | .callv _ _=>False
 | op=>cg (o.dst.getD 0) op (val g) h=some (v,e)\/cln (o.dst.getD 0) op (val g) h v e
structure Fin(P:Program)[bO P](o:bF)(g:Nat->AV)(h:Nat->Option ao)(v:AV)(e:bE)(x:HI)(g':Nat->AV)(h':Nat->Option ao):Prop where
 run:Nh P o g h v e
 known:∀k∈aA o.op,g k≠.any
 opnd:∀k∈aA o.op,∀id∈aO (g k),id∈x.op\/(uX o.op=true/\id∈x.res)
 alone:¬(x.rb=true/\x.wr=true)->∀i o',e = .reb i o'->∀j q,h j=some q->i∉dz q
 fresh:∀i o',e = .new i o'->h i=none
 res:∀d,d∈aO v\/d∈e.ids->d∈x.res
 tch:x.tch=e.tch
 rb:x.rb=e.isReb
 wr:x.wr=e.isPut\/(x.rb=true/\x.wr=true)
 hg:g'=i8 (e.env g) o.dst v
 hh:h'=e.hp h
def fO(P:Program)[bO P](o:bF)(g:Nat->AV)(h:Nat->Option ao)(ev:Option (AV×bE))(x:HI)(g':Nat->AV)(h':Nat->Option ao):Prop :=
 match ev with
 | some (v,e)=>(∀k b,o.g=some (k,b)->g k = .bool b)/\Fin P o g h v e x g' h'
 | none=>(∃k b,o.g=some (k,b)/\(g k = .bool (!b)\/g k = .tup []))/\g'=i8 g o.dst (.tup [])/\h'=h/\x.tch=[]/\x.rb=false/\x.wr=false
section
variable{P:Program}[bO P]{o:bF}{g g' g1 g2:Nat->AV}{h h' h1 h2:Nat->Option ao}{v:AV}{e:bE}
def Nh.local(hr:Nh P o g h v e)(hg:∀k∈aA o.op,g' k=g k)(hh:uX o.op=false->∀k∈aA o.op,∀id∈aO (g k),h' id=h id)(hc:bV o.op=true):Nh P o g' h' v e:=by
 unfold Nh at hr⊢;split at hr
 .rename_i f args hop;rcases hr with⟨h1,h2,args',b,h3,h4,h5,h6⟩|⟨k,ob,ob',Sb,h1,h2,h3,h4,h5,q,h6,h7⟩
  rotate_left
  .refine .inr ⟨k,ob,ob',Sb,h1,h2,?_,h4,?_,q,h6,by rw[hg q h6];exact h7⟩
   .rw[hop]at hg;rw[yb (λv hv k hk=>hg k (by simp only[aA,sA];exact⟨v,hv,hk⟩))];exact h3
   .rw[hh (by rw[hop];rfl) q h6 k h7];exact h5
  refine .inl ⟨h1,h2,args',b,h3,h4,?_,h6⟩;replace hh:=hh (by rw[hop];rfl);rw[hop]at hg hh hc;rw[yb (λv hv k hk=>hg k (by simp only[aA,sA];exact⟨v,hv,hk⟩))];refine FN (λx hx id hid=>?_) h5;obtain⟨iv,hiv,rfl⟩:=iD.1 hx;refine NF (S:=aA (.call f args)) (λk hk=>by simp only[aA,sA];exact⟨iv,hiv,hk⟩) hh ?_ id hid;simp only[bV,fz]at hc;exact gP (hc iv hiv)
 .exact hr
 .rename_i n1 n2;have key:cg (o.dst.getD 0) o.op (val g') h'=cg (o.dst.getD 0) o.op (val g) h:=by
   by_cases hmv:uX o.op=true
   .cases ho:o.op with
    | mov x =>
     simp only[cg];cases x with
     | s k=>rw[show val g' (.s k)=val g (.s k) from hg k (by rw[ho];simp[aA,bq])]
     | c y=>rfl
    | _=>rw[ho]at hmv;cases hmv
   .exact OX hg (hh (by simpa using hmv)) hc
  unfold cln;rw[key];exact hr
def B_{d:Option Nat}{x:AV}{k:Nat}(hk:d≠some k):i8 g d x k=g k:=by
 cases d with
 | none=>rfl
 | some d=>exact cN _ _ (λh=>hk (by rw[h]))
def Yv{i:Nat}{x:AV}(hx:i7 i x≠.any):i7 i x=x:=by
 unfold i7 at hx⊢;split
 .rename_i hm;simp[hm]at hx
 .rfl
def Il{i:Nat}{x:AV}(hx:i∉aO x):i7 i x=x:=by
 unfold i7;rw[au (λhm=>hx (u5 hm))]
def Yu{i:Nat}{o:ao}(hx:i∉dz o):eJ i o=o:=by
 unfold eJ;split
 .rename_i hr;simp only[dz,hr,br,sA,not_exists,not_and]at hx;have:o.rows.map (λr=>r.map (BU i))=o.rows:=by
   conv=>rhs;rw[<-List.map_id o.rows]
   refine K_ λr hr'=>?_
   conv=>rhs;rw[id,<-List.map_id r]
   refine K_ λy hy=>?_;unfold BU;rw[au (λhm=>hx r hr' y hy (C3 hm))];rfl
  rw[this]
 .rfl
def abA{i:Nat}{o':ao}(ha:∀j q,h j=some q->i∉dz q):bE.hp h (.reb i o')=ez h i (some o'):=by
 funext j;simp only[bE.hp,ez];split
 .rfl
 .cases hj:h j with
  | none=>rfl
  | some q=>simp only[kZ];rw[Yu (ha j q hj)]
def P9(i j:Nat)(x:AV):i7 i (i7 j x)=i7 j (i7 i x):=by
 have hany:∀i,mV i .any=false:=λ_=>rfl;unfold i7;by_cases h1:mV i x=true<;>by_cases h2:mV j x=true<;>simp only[h1,h2,hany,br,gd,cD]
def Wz(e e':bE):e.env (e'.env g)=e'.env (e.env g):=by
 cases e<;>cases e'<;>first|rfl|(funext k;exact P9 _ _ _)
def bE.pur(e:bE)(x:AV):AV :=
 match e with
 | .reb i _=>i7 i x
 | _=>x
def Hd(e:bE)(d:Option Nat)(x:AV):e.env (i8 g d x)=i8 (e.env g) d (e.pur x):=by
 cases d with
 | none=>rfl
 | some d =>
  cases e with
  | reb i o' =>
   funext k;simp only[bE.env,i8,bE.pur,ez];split<;>rfl
  | _=>rfl
def Mr{e:bE}{x:AV}(hx:e.isReb=true->∀d∈e.tch,d∉aO x):e.pur x=x:=by
 cases e with
 | reb i o'=>exact Il (hx rfl i (by simp[bE.tch]))
 | _=>rfl
def GC{d d':Option Nat}{x x':AV}(hd:∀k,d=some k->d'≠some k):i8 (i8 g d x) d' x'=i8 (i8 g d' x') d x:=by
 cases d with
 | none=>rfl
 | some d =>
  cases d' with
  | none=>rfl
  | some d' =>
   have hne:d≠d':=λhh=>hd d rfl (by rw[hh]);funext k;simp only[i8,ez];by_cases h1:k=d<;>by_cases h2:k=d'<;>simp_all
def NG(h:Nat->Option ao)(e:bE):Nat->Option ao :=
 match e with
 | .no=>h
 | .put i o=>ez h i (some o)
 | .new i o=>ez h i (some o)
 | .reb i o=>ez h i (some o)
def NH(e:bE)(ha:∀i o',e = .reb i o'->∀j q,h j=some q->i∉dz q):e.hp h=NG h e:=by
 cases e with
 | reb i ob=>exact abA (ha i ob rfl)
 | _=>rfl
def Hn{e:bE}{id:Nat}(hid:id∉e.tch):NG h e id=h id:=by
 cases e<;>first|rfl|exact cN _ _ (λhh=>hid (by simp[bE.tch,hh]))
def So{e e':bE}(hd:∀d∈e.tch,d∉e'.tch):NG (NG h e) e'=NG (NG h e') e:=by
 have key:∀(i j:Nat)(p q:Option ao),i≠j->ez (ez h i p) j q=ez (ez h j q) i p:=λi j p q hij=>by
  funext k;simp only[ez];by_cases h1:k=i<;>by_cases h2:k=j<;>simp_all
 cases e<;>cases e'<;>first|rfl|exact key _ _ _ _ (by simpa[bE.tch]using hd)
def abz{e:bE}{j:Nat}{q:ao}(hq:NG h e j=some q):(h j=some q)\/dz q=e.ids:=by
 cases e with
 | no=>exact .inl hq
 | put i ob =>
  simp only[NG,ez]at hq;split at hq
  .cases hq;exact .inr rfl
  .exact .inl hq
 | new i ob =>
  simp only[NG,ez]at hq;split at hq
  .cases hq;exact .inr rfl
  .exact .inl hq
 | reb i ob =>
  simp only[NG,ez]at hq;split at hq
  .cases hq;exact .inr rfl
  .exact .inl hq
def V7{d:Nat}{op:nR}{ρ:IV->AV}{j:Nat}{o':ao}(hr:cg d op ρ h=some (v,.reb j o')):∃q,h j=some q/\q.isRec=false:=by
 have happ:∀{t st x src},qi d t st x src h=some (v,.reb j o')->∃q,h j=some q/\q.isRec=false:=by
  intro t st x src ha;unfold qi at ha;split at ha
  .cases ha
  .split at ha
   .split at ha
    .cases ha
    .split at ha
     .rename_i ob hob;split at ha
      .rename_i hc;cases ha;exact⟨ob,hob,hc.2.2.2.1⟩
      .cases ha
     .cases ha
    .cases ha
   .cases ha
 have hres:∀{y:Option AV},res y≠some (v,.reb j o'):=λhh=>by
  have:=(bJ hh).2;cases this
 cases op<;>simp only[cg]at hr
 case app=>exact happ hr
 case apps=>exact happ hr
 case cpy=>obtain⟨_,_,q⟩:=Ct hr;cases q
 case cvm=>obtain⟨_,_,_,_,_,_,_,_,_,_,_,_,q⟩:=uI hr;cases q
 case mop=>rcases yX hr with q|⟨_,q,_⟩|⟨_,_,_,_,_,q⟩<;>cases q
 all_goals
  exfalso
  first
   | exact hres hr
   | (cases hr;done)
   | (simp only[dV,yB]at hr
      obtain⟨e',h1,_,h2⟩:=hr;subst h2;unfold kL at h1
      repeat' (split at h1)
      all_goals cases h1)
   | (repeat' (split at hr)
      all_goals first|(cases hr;done)|exact hres hr)
structure QN(x y:HI):Prop where
 a:∀d∈y.tch,d∉x.op/\d∉x.tch
 b:∀d∈x.tch,d∉y.op
 c:x.rb=true->∀d∈x.tch,d∉y.res
 d:y.rb=true->∀d∈y.tch,d∉x.res
 e:¬(x.rb=true/\y.wr=true)
 f:¬(y.rb=true/\x.wr=true)
 g:¬(x.rb=true/\x.wr=true)
 h:¬(y.rb=true/\y.wr=true)
structure aey(x y:HI):Prop where
 r:x.rb=true
 w:x.wr=true
 op:y.op=[]
 tch:y.tch=[]
 rb:y.rb=false
 res:∀d∈x.tch,d∉y.res
def Mt(x y:HI):Prop:=QN x y\/aey x y
def QN.of{x y:HI}(hm:HA x y=true):QN x y:=by
 simp only[HA,cE,fz,pz,sz,Nb,decide_eq_false_iff_not]at hm;obtain⟨⟨⟨⟨⟨⟨⟨h1,h2⟩,h3⟩,h4⟩,h5⟩,h6⟩,h7⟩,h8⟩:=hm;refine⟨h1,h2,λhr=>?_,λhr=>?_,λhr=>?_,λhr=>?_,λhr=>?_,λhr=>?_⟩
 .rcases h3 with h3|h3
  .rw[h3]at hr;cases hr
  .exact h3
 .rcases h4 with h4|h4
  .rw[h4]at hr;cases hr
  .exact h4
 .simp[hr.1,hr.2]at h5
 .simp[hr.1,hr.2]at h6
 .simp[hr.1,hr.2]at h7
 .simp[hr.1,hr.2]at h8
structure Fx(o o':bF):Prop where
 a:∀d,o.dst=some d->d∉dC o'/\o'.dst≠some d
 b:∀d,o'.dst=some d->d∉dC o
def ze(k:Nat)(o:bF)(hk:k∈aA o.op):k∈dC o:=by simp[dC,hk]
def C5(k:Nat)(b:Bool)(o:bF)(hk:o.g=some (k,b)):k∈dC o:=by simp[dC,hk]
def xJ(ev:Option (AV×bE)):AV:=match ev with|some (v,_)=>v|none=>.tup []
def f7(ev:Option (AV×bE)):bE:=match ev with|some (_,e)=>e|none=>.no
def mS(o:bF):List Nat:=match o.g with|some (k,_)=>[k]|none=>[]
def fO.state{ev:Option (AV×bE)}{x:HI}(hs:fO P o g h ev x g' h'):g'=i8 ((f7 ev).env g) o.dst (xJ ev)/\h'=(f7 ev).hp h/\x.tch=(f7 ev).tch/\x.rb=(f7 ev).isReb/\(¬(x.rb=true/\x.wr=true)->x.wr=(f7 ev).isPut) /\
  (¬(x.rb=true/\x.wr=true)->∀i o',f7 ev = .reb i o'->∀j q,h j=some q->i∉dz q)/\(∀d,d∈aO (xJ ev)\/d∈(f7 ev).ids->d∈x.res)/\(∀i o',f7 ev = .new i o'->h i=none)/\(∀i o',f7 ev = .reb i o'->∃q,h i=some q/\q.isRec=false):=by
 cases ev with
 | none=>obtain⟨_,h1,h2,h3,h4,h5⟩:=hs;exact⟨h1,h2,h3,h4,λ_=>h5,λ_ i o' he=>by simp[f7]at he,λd hd=>by
   rcases hd with hd|hd
   .simp[xJ,aO,oZ,kv,mT]at hd
   .simp[f7,bE.ids]at hd,λi o' he=>by simp[f7]at he,λi o' he=>by simp[f7]at he⟩
 | some p =>
  obtain⟨v,e⟩:=p;obtain⟨_,hf⟩:=hs;refine⟨hf.hg,hf.hh,hf.tch,hf.rb,λhw=>hf.wr.resolve_right hw,hf.alone,hf.res,hf.fresh,λi o' he=>?_⟩;simp only[f7]at he;subst he;have hr:=hf.run;unfold Nh at hr;split at hr
  .rcases hr with hr|⟨_,_,_,_,hr,_⟩
   .cases hr.1
   .cases hr
  .exact hr.elim
  .rcases hr with hr|⟨hr,_⟩
   .exact V7 hr
   .cases hr
def fO.local{ev:Option (AV×bE)}{x:HI}(hs:fO P o g h ev x g' h')(hg:∀k∈mS o,g1 k=g k)(hg2:ev.isSome=true->∀k∈aA o.op,g1 k=g k)(hh:ev.isSome=true->uX o.op=false->∀k∈aA o.op,∀id∈aO (g k),h1 id=h id)(hc:bV o.op=true)
  (ha:¬(x.rb=true/\x.wr=true)->∀i o',f7 ev = .reb i o'->∀j q,h1 j=some q->i∉dz q) (hn:∀i o',f7 ev = .new i o'->h1 i=none):fO P o g1 h1 ev x (i8 ((f7 ev).env g1) o.dst (xJ ev)) ((f7 ev).hp h1):=by
 cases ev with
 | none =>
  obtain⟨⟨k,b,h2,h3⟩,_,_,h4⟩:=hs;exact⟨⟨k,b,h2,by rw[hg k (by simp[mS,h2])];exact h3⟩,rfl,rfl,h4⟩
 | some p =>
  obtain⟨v,e⟩:=p;obtain⟨h2,hf⟩:=hs;refine⟨λk b hk=>by rw[hg k (by simp[mS,hk])];exact h2 k b hk,⟨?_,λk hk=>?_,λk hk id hid=>?_,ha,hn,hf.res,hf.tch,hf.rb,hf.wr,rfl,rfl⟩⟩
  .exact hf.run.local (hg2 rfl) (hh rfl) hc
  .rw[hg2 rfl k hk];exact hf.known k hk
  .rw[hg2 rfl k hk]at hid;exact hf.opnd k hk id hid
def aiX{m i:bF}{evm evi:Option (AV×bE)}{y x:HI}(hm:fO P m g h evm y g1 h1)(hi:fO P i g1 h1 evi x g2 h2)(hap:Fx m i)(hmt:QN x y)(hcm:bV m.op=true)(hci:bV i.op=true) :
  ∃g3 h3,fO P i g h evi x g3 h3/\fO P m g3 h3 evm y g2 h2:=by
 obtain⟨gm,hhm,tm,rm,wm,am,resm,fm,bm⟩:=hm.state;obtain⟨gi,hhi,ti,ri,wi,ai,resi,fi,bi⟩:=hi.state;replace wm:=wm hmt.h;replace am:=am hmt.h;replace wi:=wi hmt.g;replace ai:=ai hmt.g;rw[NH _ am]at hhm;rw[NH _ ai]at hhi;have same:∀id,id∉(f7 evm).tch->h1 id=h id:=λid hid=>by rw[hhm];exact Hn hid
 have gsub:∀(o:bF) k,k∈mS o->k∈dC o:=λo k hk=>by
  unfold mS at hk;split at hk
  .rename_i k' b hg;simp at hk;subst hk;exact C5 k b o hg
  .simp at hk
 have gval:∀{o:bF}{g h ev x g' h'},fO P o g h ev x g' h'->∀k∈mS o,(∃b,g k = .bool b)\/g k = .tup []:=by
  intro o g h ev x g' h' hs k hk;unfold mS at hk;split at hk
  .rename_i k' b hg;simp at hk;subst hk;cases ev with
   | none=>obtain⟨⟨k2,b2,h3,h4⟩,_⟩:=hs;rw[hg]at h3;cases h3;exact h4.imp (λh=>⟨_,h⟩) (λh=>h)
   | some p=>exact .inl ⟨b,hs.1 k b hg⟩
  .simp at hk
 have keep1:∀k,k∈dC i->g1 k≠.any->g1 k=g k:=λk hk hna=>by
  rw[gm]at hna⊢;have e1:i8 ((f7 evm).env g) m.dst (xJ evm) k=(f7 evm).env g k:=B_ (λhdk=>(hap.a k hdk).1 hk);rw[e1]at hna⊢;cases he:f7 evm with
  | reb q ob=>rw[he]at hna;exact Yv hna
  | _=>rfl
 have rdg:∀k∈mS i,g k=g1 k:=λk hk=>by
  rcases gval hi k hk with⟨b,hb⟩|hb<;>exact(keep1 k (gsub i k hk) (by rw[hb];simp)).symm
 have rdo:evi.isSome=true->∀k∈aA i.op,g k=g1 k:=λhs k hk=>by
  obtain⟨p,rfl⟩:=IM.1 hs;exact(keep1 k (ze k i hk) (hi.2.known k hk)).symm
 have rdh:evi.isSome=true->uX i.op=false->∀k∈aA i.op,∀id∈aO (g1 k),h id=h1 id:=λhs hmv k hk id hid=>by
  obtain⟨p,rfl⟩:=IM.1 hs;refine(same id (λht=>?_)).symm;rw[<-tm]at ht;rcases hi.2.opnd k hk id hid with q|⟨q,_⟩
  .exact(hmt.a id ht).1 q
  .rw[hmv]at q;cases q
 have ai':∀q o',f7 evi = .reb q o'->∀j p,h j=some p->q∉dz p:=λq o' he j p hp=>by
  by_cases hj:j∈(f7 evm).tch
  .cases hem:f7 evm with
   | no=>rw[hem]at hj;simp[bE.tch]at hj
   | put j' ob =>
    exfalso;refine hmt.e ⟨by rw[ri,he];rfl,by rw[wm,hem];rfl⟩
   | new j' ob =>
    rw[hem]at hj;simp[bE.tch]at hj;subst hj;rw[fm j ob hem]at hp;cases hp
   | reb j' ob =>
    rw[hem]at hj;simp[bE.tch]at hj;subst hj;obtain⟨q',h3,h4⟩:=bm j ob hem;rw[hp]at h3;cases h3;simp[dz,h4]
  .exact ai q o' he j p (by rw[same j hj];exact hp)
 have fi':∀q o',f7 evi = .new q o'->h q=none:=λq o' he=>by
  rw[<-same q (λht=>by
   rw[<-tm]at ht;exact(hmt.a q ht).2 (by rw[ti,he];simp[bE.tch]))]
  exact fi q o' he
 have s1:=hi.local rdg rdo rdh hci (λ_=>ai') fi';rw[NH _ ai']at s1;refine⟨_,_,s1,?_⟩;have keep2:∀k,k∈dC m->((f7 evi).isReb=true->∀d∈(f7 evi).tch,d∉aO (g k))->i8 ((f7 evi).env g) i.dst (xJ evi) k=g k:=λk hk hno=>by
  have e1:i8 ((f7 evi).env g) i.dst (xJ evi) k=(f7 evi).env g k:=B_ (λhdk=>hap.b k hdk hk);rw[e1];cases he:f7 evi with
  | reb q ob=>exact Il (hno (by rw[he];rfl) q (by rw[he];simp[bE.tch]))
  | _=>rfl
 have opm:evm.isSome=true->∀k∈aA m.op,∀d∈(f7 evi).tch,d∈aO (g k)->uX m.op=true/\d∈y.res:=λhs k hk d hd hid=>by
  obtain⟨p,rfl⟩:=IM.1 hs;rcases hm.2.opnd k hk d hid with q|q
  .exact absurd q (hmt.b d (by rw[ti];exact hd))
  .exact q
 have am2:∀q o',f7 evm = .reb q o'->∀j p,NG h (f7 evi) j=some p->q∉dz p:=λq o' he j p hp=>by
   rcases abz hp with h3|h3
   .exact am q o' he j p h3
   .rw[h3];intro hq;exact hmt.d (by rw[rm,he];rfl) q (by rw[tm,he];simp[bE.tch]) (resi q (.inr hq))
 have s2:=hm.local (g1:=i8 ((f7 evi).env g) i.dst (xJ evi)) (h1:=NG h (f7 evi)) (λk hk=>keep2 k (gsub m k hk) (λ_ d _=>by
   rcases gval hm k hk with⟨b,hb⟩|hb<;>rw[hb]<;>simp[aO,oZ,kv,mT])) (λhs k hk=>keep2 k (ze k m hk) (λhr d hd hid=>hmt.c (by rw[ri];exact hr) d (by rw[ti];exact hd) (opm hs k hk d hd hid).2)) (λhs hmv k hk id hid=>Hn (λht=>by
   have:=(opm hs k hk id ht hid).1
   rw[hmv]at this;cases this)) hcm (λ_=>am2) (λq o' he=>by
   rw[Hn (λht=>(hmt.a q (by rw[tm,he];simp[bE.tch])).2 (by rw[ti];exact ht))];exact fm q o' he)
 rw[NH _ am2]at s2;have eg:i8 ((f7 evm).env (i8 ((f7 evi).env g) i.dst (xJ evi))) m.dst (xJ evm)=g2:=by
  rw[gi,gm,Hd,Hd,Wz (f7 evi) (f7 evm)];rw[Mr (e:=f7 evm) (x:=xJ evi) (λhr d hd hid=>hmt.d (by rw[rm];exact hr) d (by rw[tm];exact hd) (resi d (.inl hid)))];rw[Mr (e:=f7 evi) (x:=xJ evm) (λhr d hd hid=>hmt.c (by rw[ri];exact hr) d (by rw[ti];exact hd) (resm d (.inl hid)))];exact GC (λk hk hk'=>(hap.a k hk').2 hk)
 have eh:NG (NG h (f7 evi)) (f7 evm)=h2:=by
  rw[hhi,hhm];exact So (λd hd hd'=>(hmt.a d (by rw[tm];exact hd')).2 (by rw[ti];exact hd))
 rw[eg,eh]at s2;exact s2
def agY{m i:bF}{evm evi:Option (AV×bE)}{y x:HI}(hm:fO P m g h evm y g1 h1)(hi:fO P i g1 h1 evi x g2 h2)(hap:Fx m i)(hw:aey x y)(hcm:bV m.op=true)(hci:bV i.op=true) :
  ∃g3 h3,fO P i g h evi x g3 h3/\fO P m g3 h3 evm y g2 h2:=by
 obtain⟨gm,hhm,tm,rm,wm,am,resm,fm,bm⟩:=hm.state;obtain⟨gi,hhi,ti,ri,wi,ai,resi,fi,bi⟩:=hi.state;have em:f7 evm = .no:=by
  rw[hw.tch]at tm;cases he:f7 evm<;>first|rfl|(rw[he]at tm;cases tm)
 have hh1:h1=h:=by rw[hhm,em];rfl
 have gg1:g1=i8 g m.dst (xJ evm):=by rw[gm,em];rfl
 have gsub:∀(o:bF) k,k∈mS o->k∈dC o:=λo k hk=>by
  unfold mS at hk;split at hk
  .rename_i k' b hg;simp at hk;subst hk;exact C5 k b o hg
  .simp at hk
 have keep1:∀k,k∈dC i->g k=g1 k:=λk hk=>by
  rw[gg1];exact(B_ (λhdk=>(hap.a k hdk).1 hk)).symm
 have s1:=hi.local (g1:=g) (h1:=h) (λk hk=>keep1 k (gsub i k hk)) (λ_ k hk=>keep1 k (ze k i hk)) (λ_ _ k hk id hid=>by rw[hh1]) hci (λhn=>absurd ⟨hw.r,hw.w⟩ hn) (λq o' he=>by
  rw[he]at ri;rw[hw.r]at ri;cases ri)
 refine⟨_,_,s1,?_⟩;have keep2:∀k,k∈dC m->(∀d∈(f7 evi).tch,d∉aO (g k))->i8 ((f7 evi).env g) i.dst (xJ evi) k=g k:=λk hk hno=>by
  have e1:i8 ((f7 evi).env g) i.dst (xJ evi) k=(f7 evi).env g k:=B_ (λhdk=>hap.b k hdk hk);rw[e1];cases he:f7 evi with
  | reb q ob=>exact Il (hno q (by rw[he];simp[bE.tch]))
  | _=>rfl
 have gval:∀k∈mS m,(∃b,g k = .bool b)\/g k = .tup []:=λk hk=>by
  unfold mS at hk;split at hk
  .rename_i k' b hg;simp at hk;subst hk;cases evm with
   | none=>obtain⟨⟨k2,b2,h3,h4⟩,_⟩:=hm;rw[hg]at h3;cases h3;exact h4.imp (λh=>⟨_,h⟩) (λh=>h)
   | some p=>exact .inl ⟨b,hm.1 k b hg⟩
  .simp at hk
 have opm:evm.isSome=true->∀k∈aA m.op,∀d,d∈aO (g k)->uX m.op=true/\d∈y.res:=λhs k hk d hid=>by
  obtain⟨p,rfl⟩:=IM.1 hs;rcases hm.2.opnd k hk d hid with q|q
  .rw[hw.op]at q;cases q
  .exact q
 have s2:=hm.local (g1:=i8 ((f7 evi).env g) i.dst (xJ evi)) (h1:=(f7 evi).hp h) (λk hk=>keep2 k (gsub m k hk) (λd _=>by
   rcases gval k hk with⟨b,hb⟩|hb<;>rw[hb]<;>simp[aO,oZ,kv,mT])) (λhs k hk=>keep2 k (ze k m hk) (λd hd hid=>hw.res d (by rw[ti];exact hd) (opm hs k hk d hid).2)) (λhs hmv k hk id hid=>by
   have:=(opm hs k hk id hid).1;rw[hmv]at this;cases this) hcm (λ_ q o' he=>by rw[em]at he;cases he) (λq o' he=>by rw[em]at he;cases he)
 have eg:i8 ((f7 evm).env (i8 ((f7 evi).env g) i.dst (xJ evi))) m.dst (xJ evm)=g2:=by
  rw[gi,gg1,em];show i8 (i8 ((f7 evi).env g) i.dst (xJ evi)) m.dst (xJ evm)=_;rw[Hd];rw[Mr (e:=f7 evi) (x:=xJ evm) (λhr d hd hid=>hw.res d (by rw[ti];exact hd) (resm d (.inl hid)))];exact GC (λk hk hk'=>(hap.a k hk').2 hk)
 have eh:(f7 evm).hp ((f7 evi).hp h)=h2:=by rw[em,hhi,hh1];rfl
 rw[eg,eh]at s2;exact s2
def agX{m i:bF}{evm evi:Option (AV×bE)}{y x:HI}(hm:fO P m g h evm y g1 h1)(hi:fO P i g1 h1 evi x g2 h2)(hap:Fx m i)(hmt:Mt x y)(hcm:bV m.op=true)(hci:bV i.op=true) :
  ∃g3 h3,fO P i g h evi x g3 h3/\fO P m g3 h3 evm y g2 h2:=by
 rcases hmt with h|h
 .exact aiX hm hi hap h hcm hci
 .exact agY hm hi hap h hcm hci
end
structure jU where
 i:Nat
 bef:List Nat
 o:bF
 ev:Option (AV×bE)
 x:HI
def T(P:Program)[bO P]:List jU->(Nat->AV)->(Nat->Option ao)->(Nat->AV)->(Nat->Option ao)->Prop
 | [],g,h,g',h'=>g'=g/\h'=h
 | t::R,g,h,g',h'=>∃g1 h1,fO P t.o g h t.ev t.x g1 h1/\T P R g1 h1 g' h'
section
variable{P:Program}[bO P]
def Zx:∀(A:List jU)(t:jU)(B:List jU)(g:Nat->AV)(h:Nat->Option ao)(g':Nat->AV)(h':Nat->Option ao),T P (A++t::B) g h g' h' ->
  (∀m∈A,Fx m.o t.o/\Mt t.x m.x)->(∀m∈A,bV m.o.op=true)->bV t.o.op=true->∃g1 h1,fO P t.o g h t.ev t.x g1 h1/\T P (A++B) g1 h1 g' h'
 | [],t,B,g,h,g',h',ht,_,_,_=>ht
 | m::A,t,B,g,h,g',h',ht,hm,hc,hct=>by
  obtain⟨g1,h1,s1,ht⟩:=ht;obtain⟨g2,h2,s2,ht⟩:=Zx A t B g1 h1 g' h' ht (λq hq=>hm q (by simp[hq])) (λq hq=>hc q (by simp[hq])) hct;obtain⟨q1,q2⟩:=hm m (by simp);obtain⟨g3,h3,s3,s4⟩:=agX s1 s2 q1 q2 (hc m (by simp)) hct;exact⟨g3,h3,s3,g2,h2,s4,ht⟩
def EF(al:List (Nat×Nat)):List HI->List jU->Prop
 | _,[]=>True
 | hist,t::R=>t.x.i=t.i/\(∀y∈hist,y.i∈t.bef\/Mt t.x y)/\(∀d,d∈aO (xJ t.ev)\/d∈(f7 t.ev).ids->∀m,(d,m)∈al->m=t.i\/m∈t.bef)/\EF al (t.x::hist) R
def lY{bef:List Nat}{x:HI}{hist:List HI}(hh:iL bef x hist=true):∀y∈hist,y.i∈bef\/Mt x y:=λy hy=>by
 have:=fz.1 hh y hy;simp only[pz,Nb,eQ]at this;exact this.imp id λh=>.inl (QN.of h)
def xV{al:List (Nat×Nat)}{bef:List Nat}{x:HI}(hh:Be al bef x=true):∀d∈x.res,∀m,(d,m)∈al->m=x.i\/m∈bef:=λd hd m hm=>by
 have:=fz.1 hh (d,m) hm;simp only[pz,Nb,eQ,sz,decide_eq_false_iff_not,beq_iff_eq]at this;rcases this with(h1|h1)|h1
 .exact absurd hd h1
 .exact .inl h1
 .exact .inr h1
def oi(s:St)(d:Option Nat)(x:AV):get (s.put d x).env=i8 (get s.env) d x:=by
 funext k;cases d with
 | none=>rfl
 | some d =>
  simp only[St.put,get,i8,ez,r8];by_cases hk:k=d
  .subst hk;simp
  .simp[hk,Ne.symm hk]
def i9(s:St)(d:Option Nat)(x:AV):(s.put d x).heap=s.heap:=by cases d<;>rfl
def kj{o:nR}{s:St}{e:bE}(hp:eH o s e=true):(∀k∈aA o,get s.env k≠.any)/\∀i o',e = .reb i o'->∀j q,ak s.heap j=some q->i∉dz q:=by
 simp only[eH,cE,fz,pz,sz]at hp;refine⟨λk hk he=>?_,λi o' he j q hq=>?_⟩
 .have:=hp.1 k hk;rw[he]at this;cases this
 .subst he;rcases hp.2 with h1|h1
  .cases h1
  .have hmem:∀{σ:List (Nat×ao)},ak σ j=some q->(j,q)∈σ:=by
    intro σ
    induction σ with
    | nil=>intro hi;simp[ak]at hi
    | cons p l ih =>
     intro hi;obtain⟨k,x⟩:=p;simp only[ak]at hi;split at hi
     .rename_i hk;cases hi;subst hk;simp
     .exact List.mem_cons_of_mem _ (ih hi)
   have:=h1 i (by simp[bE.tch]) (j,q) (hmem hq);simpa using this
def Un(al:List (Nat×Nat))(p:Nat->Prop)(g:Nat->AV)(h:Nat->Option ao):Prop:=∀d m,(d,m)∈al->p m->h d=none/\dk d g h
def GZ{d:Nat}{op:nR}{ρ:IV->AV}{h:Nat->Option ao}{v:AV}{i:Nat}{ob:ao}(hr:cg d op ρ h=some (v,.new i ob)):fg op=true/\i=d:=by
 have happ:∀{t st x src},qi d t st x src h=some (v,.new i ob)->i=d:=by
  intro t st x src ha;unfold qi at ha;split at ha
  .cases ha
  .split at ha
   .split at ha
    .cases ha;rfl
    .split at ha
     .split at ha<;>cases ha
     .cases ha
    .cases ha
   .cases ha
 have hres:∀{y:Option AV},res y≠some (v,.new i ob):=λhh=>by
  have:=(bJ hh).2;cases this
 cases op<;>simp only[cg]at hr
 case app=>exact⟨rfl,happ hr⟩
 case apps=>exact⟨rfl,happ hr⟩
 case new=>cases hr;exact⟨rfl,rfl⟩
 case box =>
  split at hr
  .split at hr
   .cases hr;exact⟨rfl,rfl⟩
   .cases hr
  .cases hr
 case bsl =>
  split at hr
  .cases hr;exact⟨rfl,rfl⟩
  .cases hr
 case cvb =>
  split at hr
  .split at hr
   .cases hr;exact⟨rfl,rfl⟩
   .cases hr
  .cases hr
 case mks =>
  split at hr
  .split at hr
   .cases hr;exact⟨rfl,rfl⟩
   .cases hr
  .cases hr
 case mop =>
  rcases yX hr with q|⟨_,q,q2⟩|⟨_,_,_,_,_,q⟩<;>cases q;rcases q2 with rfl|rfl<;>exact⟨rfl,rfl⟩
 all_goals
  exfalso
  first
   | (obtain⟨_,_,q⟩:=Ct hr;cases q;done)
   | (obtain⟨_,_,_,_,_,_,_,_,_,_,_,_,q⟩:=uI hr;cases q;done)
   | exact hres hr
   | (cases hr;done)
   | (simp only[dV,yB]at hr
      obtain⟨e',h1,_,h2⟩:=hr;subst h2;unfold kL at h1
      repeat' (split at h1)
      all_goals cases h1)
   | (repeat' (split at hr)
      all_goals first|(cases hr;done)|exact hres hr)
def V8{d:Nat}{op:nR}{g:Nat->AV}{h:Nat->Option ao}{v:AV}{e:bE}(hr:cg d op (val g) h=some (v,e))(hc:bV op=true):∀i∈e.tch,(∃ob,e = .new i ob)\/∃k∈aA op,i∈aO (g k):=by
 have iv:∀{x:IV}{i:Nat},lq x=true->i∈aO (val g x)->(∀k∈bq x,k∈aA op)->∃k∈aA op,i∈aO (g k):=by
  intro x i hx hi hs;cases x with
  | s k=>exact⟨k,hs k (by simp[bq]),hi⟩
  | c y=>simp[lq]at hx;rw[show val g (.c y)=y from rfl,hx]at hi;cases hi
 have happ:∀{t st src} {x:IV},lq x=true->(∀k∈bq x,k∈aA op)->qi d t st (val g x) src h=some (v,e)->∀i∈e.tch,(∃ob,e = .new i ob)\/∃k∈aA op,i∈aO (g k):=by
  intro t st src x hx hs ha i hi;unfold qi at ha;split at ha
  .cases ha
  .split at ha
   .split at ha
    .cases ha;simp[bE.tch]at hi;subst hi;exact .inl ⟨_,rfl⟩
    .rename_i hv;split at ha
     .split at ha
      .cases ha;simp[bE.tch]at hi;subst hi;exact .inr (iv hx (by rw[hv];simp[pZ]) hs)
      .cases ha
     .cases ha
    .cases ha
   .cases ha
 intro i hi;cases e with
 | no=>simp[bE.tch]at hi
 | new j ob=>simp[bE.tch]at hi;subst hi;exact .inl ⟨_,rfl⟩
 | put j ob =>
  cases op<;>simp only[cg]at hr
  case store n p x =>
   simp only[bV,cE]at hc;simp only[dV,yB]at hr;obtain⟨e',h1,_,h2⟩:=hr;subst h2;unfold kL at h1;split at h1
   .rename_i id st row off cs hv _;refine .inr (iv hc.1 ?_ (λk hk=>by simp only[aA,f9];exact .inl hk));rw[hv]
    repeat' (split at h1)
    all_goals first|(cases h1;done)|skip
    cases h1;simp[bE.tch]at hi;simp[Hp,hi]
   .cases h1
  case cvm x =>
   simp only[bV]at hc;obtain⟨id,st,off,len,ob',q1,_,_,_,_,_,_,q2⟩:=uI hr;cases q2;simp[bE.tch]at hi;exact .inr (iv hc (by rw[q1];simp[pZ,hi]) (λk hk=>by simp only[aA];exact hk))
  case mop k xs =>
   simp only[bV,fz]at hc;rcases yX hr with q|⟨_,q,q2⟩|⟨id,b,r,o,q1,q⟩<;>cases q;simp[bE.tch]at hi;subst hi;cases xs with
   | nil=>cases q1
   | cons x xs =>
    simp only[eR,List.cons.injEq]at q1;exact .inr (iv (hc x (by simp)) (by rw[q1.1];simp[aO,oZ,kv,mT]) (λk hk=>by simp only[aA,wG,f9];exact .inl hk))
  case cpy st x y =>
   simp only[bV,cE]at hc;unfold Bs at hr;split at hr
   .cases hr
   .split at hr
    .rename_i hv;refine .inr (iv hc.1 ?_ (λk hk=>by simp only[aA,f9];exact .inl hk));rw[hv]
     repeat' (split at hr)
     all_goals first|(cases hr;done)|skip
     cases hr;simp[bE.tch]at hi;simp[pZ,hi]
    .cases hr
  case app t st x y=>simp only[bV,cE]at hc;exact happ hc.1 (λk hk=>by simp only[aA,f9];exact .inl hk) hr i hi
  case apps t x y=>simp only[bV,cE]at hc;exact happ hc.1 (λk hk=>by simp only[aA,f9];exact .inl hk) hr i hi
  all_goals
   exfalso
   first
    | exact absurd (bJ hr).2 (by simp)
    | (cases hr;done)
    | (repeat' (split at hr)
       all_goals first|(cases hr;done)|exact absurd (bJ hr).2 (by simp))
 | reb j ob =>
  cases op<;>simp only[cg]at hr
  case app t st x y=>simp only[bV,cE]at hc;exact happ hc.1 (λk hk=>by simp only[aA,f9];exact .inl hk) hr i hi
  case apps t x y=>simp only[bV,cE]at hc;exact happ hc.1 (λk hk=>by simp only[aA,f9];exact .inl hk) hr i hi
  all_goals
   exfalso
   first
    | (obtain⟨_,_,q⟩:=Ct hr;cases q;done)
    | (obtain⟨_,_,_,_,_,_,_,_,_,_,_,_,q⟩:=uI hr;cases q;done)
    | (rcases yX hr with q|⟨_,q,_⟩|⟨_,_,_,_,_,q⟩<;>cases q;done)
    | exact absurd (bJ hr).2 (by simp)
    | (cases hr;done)
    | (simp only[dV,yB]at hr
       obtain⟨e',h1,_,h2⟩:=hr;subst h2;unfold kL at h1
       repeat' (split at h1)
       all_goals cases h1)
    | (repeat' (split at hr)
       all_goals first|(cases hr;done)|exact absurd (bJ hr).2 (by simp))
end
def SG{i:Nat}{x:AV}(h:i∈mT x):mP i x=true:=by cases x<;>simp_all [mP,mT]
def SE{i:Nat}{x:AV}(h:i∈kv x):mC i x=true:=by
 cases x with
 | fn f caps =>
  simp only[kv,sA]at h;obtain⟨y,h1,h2⟩:=h;simp only[mC,AK];exact⟨y,h1,SG h2⟩
 | _=>simp only[kv]at h;simpa only[mC]using SG h
def SF{i:Nat}{x:AV}(h:i∈oZ x):mG i x=true:=by
 cases x with
 | agg cells =>
  simp only[oZ,sA]at h;obtain⟨y,h1,h2⟩:=h;simp only[mG,AK];exact⟨y,h1,SE h2⟩
 | _=>simp only[oZ]at h;simpa only[mG]using SE h
def SH{i:Nat}{x:AV}(h:i∈aO x):mV i x=true:=by
 cases x with
 | tup vs =>
  simp only[aO,sA]at h;obtain⟨y,h1,h2⟩:=h;simp only[mV,AK];exact⟨y,h1,SF h2⟩
 | _=>simp only[aO]at h;simpa only[mV]using SF h
section
variable{P:Program}[bO P]{al:List (Nat×Nat)}{g g':Nat->AV}{h h':Nat->Option ao}
def Cl(al:List (Nat×Nat)):Prop:=∀d m m',(d,m)∈al->(d,m')∈al->m=m'
def WN{h:Nat->Option ao}{e:bE}{d:Nat}(ht:d∉e.tch)(hn:h d=none):e.hp h d=none:=by
 cases e with
 | no=>exact hn
 | reb i o =>
  simp only[bE.tch,kq]at ht;simp only[bE.hp,ez,au ht,hn,Option.map_none]
 | _ =>
  simp only[bE.tch,kq]at ht;simp only[bE.hp,ez,au ht,hn]
def afl{h:Nat->Option ao}{e:bE}{j:Nat}{q:ao}(hq:e.hp h j=some q):(∃q0,h j=some q0/\(q=q0\/∃i,q=eJ i q0))\/dz q=e.ids:=by
 cases e with
 | no=>exact .inl ⟨q,hq,.inl rfl⟩
 | reb i o =>
  simp only[bE.hp,ez]at hq;split at hq
  .cases hq;exact .inr rfl
  .simp only[dV]at hq;obtain⟨q0,h1,rfl⟩:=hq;exact .inl ⟨q0,h1,.inr ⟨i,rfl⟩⟩
 | _ =>
  simp only[bE.hp,ez]at hq;split at hq
  .cases hq;exact .inr rfl
  .exact .inl ⟨q,hq,.inl rfl⟩
def Un.step{p p':Nat->Prop}{o:bF}{i:Nat}{bef:List Nat}{ev:Option (AV×bE)}{x:HI}(hs:fO P o g h ev x g' h')(hu:Un al p g h)(hc:bV o.op=true)
  (hnew:∀d,d∈aO (xJ ev)\/d∈(f7 ev).ids->∀m,(d,m)∈al->m=i\/m∈bef) (hbef:∀m∈bef,¬p m) (hal:fg o.op=true->(o.dst.getD 0,i)∈al) (hone:Cl al)
  (hp:∀m,p' m->p m/\m≠i):Un al p' g' h':=by
 intro d m hdm hpm;obtain⟨hp1,hp2⟩:=hp m hpm;obtain⟨hn,hun⟩:=hu d m hdm hp1;obtain⟨gs,hhs,_,_,_,_,_,_,_⟩:=hs.state;have hno:¬(d∈aO (xJ ev)\/d∈(f7 ev).ids):=λhd=>by
  rcases hnew d hd m hdm with h1|h1
  .exact hp2 h1
  .exact hbef m h1 hp1
 have htch:d∉(f7 ev).tch:=λht=>by
  cases ev with
  | none=>simp[f7,bE.tch]at ht
  | some q =>
   obtain⟨v,e⟩:=q;have hr:=hs.2.run;unfold Nh at hr;split at hr
   .rcases hr with hr|⟨k,_,_,_,he,_,_,_,_,q,_,hid⟩
    .rw[show f7 (some (v,e))=e from rfl,hr.1]at ht;simp[bE.tch]at ht
    .rw[show f7 (some (v,e))=e from rfl,he]at ht;simp[bE.tch]at ht;subst ht;have:=SH hid;rw[hun.1 q]at this;cases this
   .exact hr.elim
   .rcases hr with hr|⟨hr,_⟩
    rotate_left
    .rw[show f7 (some (v,e))=e from rfl,hr]at ht;simp[bE.tch]at ht
    rcases V8 hr hc d ht with⟨ob,he⟩|⟨k,hk,hid⟩
    .subst he;obtain⟨h1,h2⟩:=GZ hr;rw[<-h2]at hal;exact hp2 (hone d m i hdm (hal h1))
    .have:=SH hid;rw[hun.1 k]at this;cases this
 refine⟨by rw[hhs];exact WN htch hn,λk=>?_,λj q hq hrec r hr y hy=>?_⟩
 .rw[gs];have key:mV d ((f7 ev).env g k)=false:=by
   cases f7 ev with
   | reb q ob =>
    simp only[bE.env];unfold i7;split
    .rfl
    .exact hun.1 k
   | _=>exact hun.1 k
  cases hd:o.dst with
  | none=>exact key
  | some d' =>
   simp only[i8,ez];split
   .cases hv:mV d (xJ ev)with
    | false=>rfl
    | true=>exact absurd (.inl (u5 hv)) hno
   .exact key
 .rw[hhs]at hq;rcases afl hq with⟨q0,h1,h2⟩|h1
  .rcases h2 with rfl|⟨i',rfl⟩
   .exact hun.2 j q h1 hrec r hr y hy
   .rw[vk]at hrec;simp only[eJ,hrec,br,iD]at hr;obtain⟨r0,hr0,rfl⟩:=hr;obtain⟨y0,hy0,rfl⟩:=iD.1 hy;unfold BU;split
    .rfl
    .exact hun.2 j q0 h1 hrec r0 hr0 y0 hy0
  .cases hv:mC d y with
   | false=>rfl
   | true =>
    exfalso;refine hno (.inr ?_);rw[<-h1];simp only[dz,hrec,br,sA];exact⟨r,hr,y,hy,C3 hv⟩
def B6(s:St)(e:bE):get (s.eff e).env=e.env (get s.env):=funext (ND s e)
def y5(s:St)(e:bE):ak (s.eff e).heap=e.hp (ak s.heap):=funext (JD s e)
def xL{s:St}{k:Nat}{t b:Bool}(hv:get s.env k = .bool t)(hb:t=b):get (s.put (some k) (.bool b)).env=get s.env:=by
 rw[oi];funext j;simp only[i8,ez];split
 .rename_i hj;subst hj;rw[hv,hb]
 .rfl
def XI{d:Nat}{op:nR}{g:Nat->AV}{h:Nat->Option ao}{v:AV}{e:bE}(hev:cg d op (val g) h=some (v,e))(hmv:uX op=true):∀k∈aA op,∀id∈aO (g k),id∈aO v:=λk hk id hid=>by
 cases op with
 | mov x =>
  simp only[cg,de,yB]at hev;cases x with
  | s j =>
   simp only[aA,bq,kq]at hk;subst hk;rw[<-hev.1];exact hid
  | c y=>simp[aA,bq]at hk
 | _=>cases hmv
def sa(hone:Cl al):∀(l:List aR)(i:Nat)(hist:List HI)(s:St)(K:List HI->St->Prop),fk P al i l hist s K->Un al (λm=>i<=m) (get s.env) (ak s.heap)->(∀y∈hist,¬(y.rb=true/\y.wr=true)) ->
  (∀(j:Nat)(o:aR),l[j]?=some o->(fg o.o.op=true->(o.o.dst.getD 0,i+j)∈al)/\(∀m∈o.bef,m<i+j)/\bV o.o.op=true) ->
  ∃(items:List jU)(s':St),K ((items.map jU.x).reverse++hist) s'/\T P items (get s.env) (ak s.heap) (get s'.env) (ak s'.heap)/\EF al hist items/\items.map jU.i=List.range' i l.length/\items.map (λt=>(⟨t.o,t.bef⟩:aR))=l
 | [],i,hist,s,K,hk,_,_,_=>⟨[],s,hk,⟨rfl,rfl⟩,trivial,by simp,rfl⟩
 | o::r,i,hist,s,K,hk,hu,hnw,hl=>by
  obtain⟨hal,hbf,hcon⟩:=hl 0 o (by simp);have hl':∀(j:Nat)(o:aR),r[j]?=some o->(fg o.o.op=true->(o.o.dst.getD 0,i+1+j)∈al)/\(∀m∈o.bef,m<i+1+j)/\bV o.o.op=true:=λj o hj=>by
   have:=hl (j+1) o (by simpa using hj);rwa[show i+(j+1)=i+1+j by omega]at this
  have fin:∀{s1:St}{ev:Option (AV×bE)}{x:HI},fO P o.o (get s.env) (ak s.heap) ev x (get s1.env) (ak s1.heap)->x.i=i->¬(x.rb=true/\x.wr=true)->(∀y∈hist,y.i∈o.bef\/Mt x y) ->
    (∀d,d∈aO (xJ ev)\/d∈(f7 ev).ids->∀m,(d,m)∈al->m=i\/m∈o.bef)->fk P al (i+1) r (x::hist) s1 K ->
    ∃(items:List jU)(s':St),K ((items.map jU.x).reverse++hist) s'/\T P items (get s.env) (ak s.heap) (get s'.env) (ak s'.heap)/\EF al hist items/\items.map jU.i=List.range' i (o::r).length/\items.map (λt=>(⟨t.o,t.bef⟩:aR))=o::r:=by
   intro s1 ev x hst hxi hxw hhist hnew hrest;have hu':Un al (λm=>i+1<=m) (get s1.env) (ak s1.heap):=Un.step hst hu hcon hnew (λm hm hle=>by have:=hbf m hm;omega) (by simpa using hal) hone (λm hm=>⟨by omega,by omega⟩)
   obtain⟨items,s',h1,h2,h3,h4,h5⟩:=sa hone r (i+1) (x::hist) s1 K hrest hu' (λy hy=>by
    rcases eA.1 hy with rfl|hy
    .exact hxw
    .exact hnw y hy) hl'
   exact⟨⟨i,o.bef,o.o,ev,x⟩::items,s',by simpa using h1,⟨_,_,hst,h2⟩,⟨hxi,hhist,hnew,h3⟩,by simp[List.range'_succ,h4],by simp[h5]⟩
  have run:∀{s2:St},get s2.env=get s.env->s2.heap=s.heap->(∀k b,o.o.g=some (k,b)->get s.env k = .bool b)->i5 P al i o hist s2 (λhist' s'=>fk P al (i+1) r hist' s' K) ->
    ∃(items:List jU)(s':St),K ((items.map jU.x).reverse++hist) s'/\T P items (get s.env) (ak s.heap) (get s'.env) (ak s'.heap)/\EF al hist items/\items.map jU.i=List.range' i (o::r).length/\items.map (λt=>(⟨t.o,t.bef⟩:aR))=o::r:=by
   intro s2 he2 hh2 hgd hop;have hoi':∀res:List Nat,(uX o.o.op=true->∀k∈aA o.o.op,∀id∈aO (get s.env k),id∈res)->∀k∈aA o.o.op,∀id∈aO (get s.env k),id∈cO o.o.op s2.env\/(uX o.o.op=true/\id∈res):=λres hres k hk id hid=>by
    by_cases hmv:uX o.o.op=true
    .exact .inr ⟨hmv,hres hmv k hk id hid⟩
    .refine .inl ?_;have e:cO o.o.op s2.env=(aA o.o.op).flatMap λk=>aO (get s2.env k):=by
      cases ho:o.o.op<;>first|rfl|(rw[ho]at hmv;exact absurd rfl hmv)
     rw[e,sA];exact⟨k,hk,by rw[he2];exact hid⟩
   unfold i5 at hop;split at hop
   .rename_i f args hopc;rcases hop with⟨args',rr,b,h1,h2,h3,h4,h5,h6,h7,h8⟩|⟨k,ob,ob',Sb,rr,h1,h2,h3,h4,h5,h6,h7,h8,h9⟩
    rotate_left
    .obtain⟨p1,p2⟩:=kj h7;rw[he2]at p1;have hq:∃q∈aA o.o.op,k∈aO (get s.env q):=by
      rw[hopc]at h6⊢;simp only[cO,sA]at h6;obtain⟨q,q1,q2⟩:=h6;exact⟨q,q1,by rw[<-he2];exact q2⟩
     refine fin (s1:=(s2.eff (.put k ob')).put o.o.dst rr) (ev:=some (rr,.put k ob')) ⟨hgd,⟨?_,p1,hoi' _ (λhmv=>by rw[hopc]at hmv;cases hmv),(λ_ _ _ he=>by cases he),(λ_ _ he=>by cases he),λd hd=>?_,rfl,rfl,.inl rfl,?_,?_⟩⟩ rfl (by first|(rintro⟨hr,_⟩;cases hr;done)|(cases e<;>simp[bE.isReb,bE.isPut])) (lY h8) (λd hd=>?_) h9
     .unfold Nh;rw[hopc];rw[hopc]at hq;exact .inr ⟨k,ob,ob',Sb,rfl,h4,by rw[<-he2];exact h1,h2,by rw[<-hh2];exact h3,hq⟩
     .have hd':d∈aO rr\/d∈dz ob':=hd;rw[h4,h5]at hd';simp at hd'
     .rw[oi,B6,he2]
     .rw[i9,y5,hh2]
     .have hd':d∈aO rr\/d∈dz ob':=hd;rw[h4,h5]at hd';simp at hd'
    obtain⟨p1,_⟩:=kj h6;rw[he2]at p1;refine fin (s1:=s2.put o.o.dst rr) (ev:=some (rr,.no)) ⟨hgd,⟨?_,p1,hoi' _ (λhmv=>by rw[hopc]at hmv;cases hmv),(λ_ _ _ he=>by cases he),(λ_ _ he=>by cases he),λd hd=>?_,rfl,rfl,.inl rfl,?_,?_⟩⟩ rfl (by first|(rintro⟨hr,_⟩;cases hr;done)|(cases e<;>simp[bE.isReb,bE.isPut])) (lY h7) (λd hd=>?_) h8
    .unfold Nh;rw[hopc];exact .inl ⟨rfl,h5,args',b,h1,h2,by rw[<-he2,<-hh2];exact h3,h4⟩
    .have hd':d∈aO rr\/d∈([]:List Nat):=hd;rw[h5]at hd';simp at hd'
    .rw[oi,he2];rfl
    .rw[i9,hh2];rfl
    .have hd':d∈aO rr\/d∈([]:List Nat):=hd;rw[h5]at hd';simp at hd'
   .exact hop.elim
   .rename_i t st x y hopc;rcases hop with hop|⟨rows,hxc,hev,h6,h7,h9⟩
    .split at hop
     case h_2=>exact hop.elim
     rename_i v e hev;obtain⟨h6,h7,h8,h9⟩:=hop;obtain⟨p1,p2⟩:=kj h6;rw[he2]at p1 hev;rw[hh2]at p2 hev;refine fin (s1:=(s2.eff e).put o.o.dst v) (ev:=some (v,e)) ⟨hgd,⟨?_,p1,hoi' _ (λhmv=>by rw[hopc]at hmv;cases hmv),λ_=>p2,λj ob he=>?_,λd hd=>?_,rfl,rfl,.inl rfl,?_,?_⟩⟩ rfl (by first|(rintro⟨hr,_⟩;cases hr;done)|(cases e<;>simp[bE.isReb,bE.isPut])) (lY h7) (λd hd m hm=>?_) h9
     .unfold Nh;rw[hopc];exact .inl hev
     .subst he;obtain⟨q1,q2⟩:=GZ hev;subst q2;exact(hu _ i (by simpa using hal (by rw[hopc];exact q1)) (bG i)).1
     .exact f9.2 hd
     .rw[oi,B6,he2]
     .rw[i9,y5,hh2]
     .exact xV h8 d (f9.2 hd) m hm
    .obtain⟨p1,_⟩:=kj h6;rw[he2]at p1 hev;rw[hh2]at hev;have no:∀d,¬(d∈aO (.sl st rows)\/d∈(bE.no).ids):=λd hd=>by rcases hd with hd|hd<;>cases hd
     refine fin (s1:=s2.put o.o.dst (.sl st rows)) (ev:=some (.sl st rows,.no)) ⟨hgd,⟨?_,p1,hoi' _ (λhmv=>by rw[hopc]at hmv;cases hmv),(λ_ _ _ he=>by cases he),(λ_ _ he=>by cases he),λd hd=>absurd hd (no d),rfl,rfl,.inl rfl,?_,?_⟩⟩ rfl (by first|(rintro⟨hr,_⟩;cases hr;done)|(cases e<;>simp[bE.isReb,bE.isPut])) (lY h7) (λd hd=>absurd hd (no d)) h9
     .unfold Nh;rw[hopc];exact .inr ⟨rfl,rfl,t,st,rows,rfl,hev⟩
     .rw[oi,he2];rfl
     .rw[i9,hh2];rfl
   .rename_i n1 n2 n3;split at hop
    case h_2=>exact hop.elim
    rename_i v e hev;obtain⟨h6,h7,h8,h9⟩:=hop;obtain⟨p1,p2⟩:=kj h6;rw[he2]at p1 hev;rw[hh2]at p2 hev;refine fin (s1:=(s2.eff e).put o.o.dst v) (ev:=some (v,e)) ⟨hgd,⟨?_,p1,hoi' _ (λhmv k hk id hid=>f9.2 (.inl (XI hev hmv k hk id hid))),λ_=>p2,λj ob he=>?_,λd hd=>?_,rfl,rfl,.inl rfl,?_,?_⟩⟩ rfl (by first|(rintro⟨hr,_⟩;cases hr;done)|(cases e<;>simp[bE.isReb,bE.isPut])) (lY h7) (λd hd m hm=>?_) h9
    .unfold Nh;split
     .rename_i f args hopc;exact(n1 f args hopc).elim
     .rename_i f args hopc;exact(n2 f args hopc).elim
     .exact .inl hev
    .subst he;obtain⟨q1,q2⟩:=GZ hev;subst q2;exact(hu _ i (by simpa using hal q1) (bG i)).1
    .exact f9.2 hd
    .rw[oi,B6,he2]
    .rw[i9,y5,hh2]
    .exact xV h8 d (f9.2 hd) m hm
  unfold fk at hk;split at hk
  .rename_i hg;exact run rfl rfl (λk b hkb=>by rw[hg]at hkb;cases hkb) hk
  .rename_i k b hg;split at hk
   case h_3=>exact hk.elim
   case h_2 =>
    rename_i hv;refine fin (s1:=s.put o.o.dst (.tup [])) (ev:=none) (x:=⟨i,[],[],[],false,false⟩) ⟨⟨k,b,hg,.inr hv⟩,?_,by rw[i9],rfl,rfl,rfl⟩ rfl (by rintro⟨hr,_⟩;cases hr) (λy hy=>.inr (.inl ⟨?_,?_,?_,?_,?_,?_,?_,?_⟩)) ?_ hk
    .rw[oi]
    .intro d _;exact⟨by simp,by simp⟩
    .intro d hd;cases hd
    .intro hr;cases hr
    .intro _ d hd hd2;cases hd2
    .rintro⟨hr,_⟩;cases hr
    .rintro⟨_,hr⟩;cases hr
    .rintro⟨hr,_⟩;cases hr
    .exact hnw y hy
    .intro d hd;rcases hd with hd|hd
     .simp[xJ,aO]at hd
     .simp[f7,bE.ids]at hd
   rename_i t hv;by_cases htb:t=b
   .exact run (xL hv htb) (i9 _ _ _) (λk' b' hkb=>by rw[hg]at hkb;cases hkb;rw[hv,htb]) (hk.1 htb)
   .have htb':t = !b:=by cases t<;>cases b<;>simp_all
    refine fin (s1:=(s.put (some k) (.bool (!b))).put o.o.dst (.tup [])) (ev:=none) (x:=⟨i,[],[],[],false,false⟩) ⟨⟨k,b,hg,.inl (by rw[hv,htb'])⟩,?_,by rw[i9,i9],rfl,rfl,rfl⟩ rfl (by rintro⟨hr,_⟩;cases hr) (λy hy=>.inr (.inl ⟨?_,?_,?_,?_,?_,?_,?_,?_⟩)) ?_ (hk.2 htb')
    .rw[oi,xL hv htb']
    .intro d _;exact⟨by simp,by simp⟩
    .intro d hd;cases hd
    .intro hr;cases hr
    .intro _ d hd hd2;cases hd2
    .rintro⟨hr,_⟩;cases hr
    .rintro⟨_,hr⟩;cases hr
    .rintro⟨hr,_⟩;cases hr
    .exact hnw y hy
    .intro d hd;rcases hd with hd|hd
     .simp[xJ,aO,oZ,kv,mT]at hd
     .simp[f7,bE.ids]at hd
def JF(hone:Cl al)(l:List aR)(i:Nat)(hist:List HI)(s:St)(K:St->Prop)(hk:nC P al i l hist s K)(hu:Un al (λm=>i<=m) (get s.env) (ak s.heap))(hnw:∀y∈hist,¬(y.rb=true/\y.wr=true))
  (hl:∀(j:Nat)(o:aR),l[j]?=some o->(fg o.o.op=true->(o.o.dst.getD 0,i+j)∈al)/\(∀m∈o.bef,m<i+j)/\bV o.o.op=true) :
  ∃(items:List jU)(s':St),K s'/\T P items (get s.env) (ak s.heap) (get s'.env) (ak s'.heap)/\EF al hist items/\items.map jU.i=List.range' i l.length/\items.map (λt=>(⟨t.o,t.bef⟩:aR))=l:=sa hone l i hist s _ hk hu hnw hl
def Zl:∀(A:List jU){t:jU}{g:Nat->AV}{h:Nat->Option ao}{g1:Nat->AV}{h1:Nat->Option ao}{g':Nat->AV}{h':Nat->Option ao},T P A g h g1 h1->fO P t.o g1 h1 t.ev t.x g' h'->T P (A++[t]) g h g' h'
 | [],t,g,h,g1,h1,g',h',⟨e1,e2⟩,hs=>by subst e1 e2;exact⟨_,_,hs,rfl,rfl⟩
 | a::A,t,g,h,g1,h1,g',h',⟨g2,h2,s1,ht⟩,hs=>⟨g2,h2,s1,Zl A ht hs⟩
def I8:∀(A:List jU){hist:List HI}{t:jU},EF al hist A->t.x.i=t.i->(∀y∈(A.map jU.x).reverse++hist,y.i∈t.bef\/Mt t.x y)->(∀d,d∈aO (xJ t.ev)\/d∈(f7 t.ev).ids->∀m,(d,m)∈al->m=t.i\/m∈t.bef)->EF al hist (A++[t])
 | [],hist,t,_,h1,h2,h3=>⟨h1,by simpa using h2,h3,trivial⟩
 | a::A,hist,t,⟨q1,q2,q3,q4⟩,h1,h2,h3=>⟨q1,q2,q3,I8 A q4 h1 (by simpa using h2) h3⟩
def Ho(hone:Cl al)(l:List aR)(s:St)(K:St->Prop) (hk:fk P al 0 l.dropLast [] s λhist s1=>match l.getLast? with
   | some o=>K5 al (l.length-1) o hist s1 K
   | none=>False) (hu:Un al (λm=>0<=m) (get s.env) (ak s.heap))
  (hl:∀(j:Nat)(o:aR),l[j]?=some o->(fg o.o.op=true->(o.o.dst.getD 0,0+j)∈al)/\(∀m∈o.bef,m<0+j)/\bV o.o.op=true) :
  ∃(items:List jU)(s':St),K s'/\T P items (get s.env) (ak s.heap) (get s'.env) (ak s'.heap)/\EF al [] items/\items.map jU.i=List.range' 0 l.length/\items.map (λt=>(⟨t.o,t.bef⟩:aR))=l:=by
 obtain⟨A,s1,h1,h2,h3,h4,h5⟩:=sa hone l.dropLast 0 [] s _ hk hu (λy hy=>by cases hy) (λj o hj=>hl j o (by
  rw[List.dropLast_eq_take,La]at hj;split at hj
  .exact hj
  .cases hj))
 cases hlast:l.getLast? with
 | none=>rw[hlast]at h1;exact h1.elim
 | some o =>
  rw[hlast]at h1;simp only at h1;have hne:l≠[]:=λe=>by rw[e]at hlast;cases hlast
  have hll:l=l.dropLast++[o]:=by
   have:=List.dropLast_concat_getLast hne;rw[List.getLast?_eq_some_getLast hne]at hlast;cases hlast;exact this.symm
  have hlen:l.dropLast.length=l.length-1:=List.length_dropLast;have hpos:=Ey.2 hne;unfold K5 at h1;split at h1
  case h_2=>exact h1.elim
  rename_i t st x y hop;obtain⟨hg,h1⟩:=h1;split at h1
  case h_2=>exact h1.elim
  rename_i v e hev;obtain⟨k1,k2,k3,k4,k5⟩:=h1;have hst:fO P o.o (get s1.env) (ak s1.heap) (some (v,e)) ⟨l.length-1,cO (.app t st x y) s1.env,aO v++e.ids,e.tch,true,true⟩ (get ((s1.eff e).put o.o.dst v).env) (ak ((s1.eff e).put o.o.dst v).heap):=by
   refine⟨(λk b hkb=>by rw[hg]at hkb;cases hkb),⟨?_,?_,?_,(λhn=>absurd ⟨rfl,rfl⟩ hn),λj ob he=>?_,λd hd=>f9.2 hd,rfl,k2.symm,.inr ⟨rfl,rfl⟩,?_,?_⟩⟩
   .unfold Nh;rw[hop];exact .inl hev
   .intro k hk he;rw[hop]at hk;have:=fz.1 k1 k hk;rw[he]at this;cases this
   .intro k hk id hid;rw[hop]at hk;exact .inl (sA.2 ⟨k,hk,hid⟩)
   .subst he;cases k2
   .rw[oi,B6]
   .rw[i9,y5]
  refine⟨A++[⟨l.length-1,o.bef,o.o,some (v,e),⟨l.length-1,cO (.app t st x y) s1.env,aO v++e.ids,e.tch,true,true⟩⟩],(s1.eff e).put o.o.dst v,k5,Zl A (t:=⟨l.length-1,o.bef,o.o,some (v,e),⟨l.length-1,cO (.app t st x y) s1.env,aO v++e.ids,e.tch,true,true⟩⟩) h2 hst,I8 A (t:=⟨l.length-1,o.bef,o.o,some (v,e),⟨l.length-1,cO (.app t st x y) s1.env,aO v++e.ids,e.tch,true,true⟩⟩) h3 rfl (λz hz=>?_) (λd (hd:d∈aO v\/d∈e.ids) m hm=>xV k4 d (f9.2 hd) m hm),?_,?_⟩
  .have:=fz.1 k3 z (by simpa using hz);rw[pz]at this;rcases this with q|q
   .exact .inl (by simpa using q)
   .simp only[M5,cE,List.isEmpty_iff,sz,fz,Nb,decide_eq_false_iff_not]at q;exact .inr (.inr ⟨rfl,rfl,q.1.1.1,q.1.1.2,q.1.2,q.2⟩)
  .rw[kr,h4,hlen,List.map_singleton]
   conv=>rhs;rw[show l.length=(l.length-1)+1 by omega,List.range'_concat]
   simp
  .rw[kr,h5,List.map_singleton];exact hll.symm
end
def NA{i:Nat}{o:ao}{x:AV}(h:mP i x=false):tE i o x=x:=by
 cases x<;>first|rfl|(simp only[mP,iS]at h;simp only[tE];rw[au h])
def Hz{f:AV->Bool}{r:AV->AV}(hh:∀x,f x=false->r x=x):∀l:List AV,l.any f=false->l.map r=l
 | [],_=>rfl
 | y::l,hl=>by
  simp only[List.any_cons,Bool.or_eq_false_iff]at hl;simp only[eR,hh y hl.1,Hz hh l hl.2]
def Hi{i:Nat}{o:ao}{x:AV}(h:mC i x=false):Ag i o x=x:=by
 cases x with
 | fn f caps=>simp only[mC]at h;simp only[Ag,Hz (λx hx=>NA hx) caps h]
 | _=>simp only[mC]at h;simp only[Ag];exact NA h
def Nz{i:Nat}{o:ao}{x:AV}(h:mG i x=false):Hj i o x=x:=by
 cases x with
 | agg cs=>simp only[mG]at h;simp only[Hj,Hz (λx hx=>Hi hx) cs h]
 | _=>simp only[mG]at h;simp only[Hj];exact Hi h
def WF{i:Nat}{o:ao}{x:AV}(h:mV i x=false):y7 i o x=x:=by
 cases x with
 | tup vs=>simp only[mV]at h;simp only[y7,Hz (λx hx=>Nz hx) vs h]
 | _=>simp only[mV]at h;simp only[y7];exact Nz h
def WE{i:Nat}{o q:ao}(h:q.isRec=true->∀r∈q.rows,∀y∈r,mC i y=false):jC i o q=q:=by
 unfold jC;split
 .rename_i hr;have:q.rows.map (λr=>r.map (Ag i o))=q.rows:=by
   conv=>rhs;rw[<-List.map_id q.rows]
   refine K_ λr hr'=>?_
   conv=>rhs;rw[id,<-List.map_id r]
   exact K_ λy hy=>Hi (h hr r hr' y hy)
  rw[this]
 .rfl
section
variable{P:Program}[bO P]{c:vE}[CT c P]{a:Act}{w:World}{o:Oper}{io:bF}{ops:Array Oper}{n:Nat}
def MT{g g':Nat->AV}{h h':Nat->Option ao}{ev:Option (AV×bE)}{x:HI}{bl:Nat->Option Nat}(hc:pU P n ops o=some io)(hn:c.n=n)(hst:fO P io g h ev x g' h')(hs:aP c bl g h a w)
  (hnew:fg io.op=true->h (io.dst.getD 0)=none/\dk (io.dst.getD 0) g h/\(io.dst.getD 0<1000\/2000<=io.dst.getD 0)) {K:Act->World->Prop} {Q:Exit->Act->World->Prop}
  (hK:∀a' w' bl',aP c bl' g' h' a' w'->K a' w'):if Region.wanted o (yielded ops a.tmps)then o.wp P a w K Q\/(o.asks P a w/\LetsOut Q)else K (a.put o.dst undef) w:=by
 obtain⟨h1,h2,h3,h4⟩:=xH hc;have hd:∀k,io.dst=some k->k<c.n:=λk hk=>by rw[hn];exact h3 k (h2▸hk)
 have putB:∀{bl:Nat->Option Nat}{g:Nat->AV}{h:Nat->Option ao}{w:World}{v:Value}{y:AV},aP c bl g h a w->bu bl (bK bl c.MF h) w v y->aP c bl (i8 g io.dst y) h (a.put o.dst v) w:=λ{bl g h w v y} hsb hv=>by
  rw[<-h2];cases hdd:io.dst with
  | none=>exact hsb
  | some d=>exact hsb.put (hd d hdd) hv
 have hwant:∀k b t,io.g=some (k,b)->g k = .bool t->Region.wanted o (yielded ops a.tmps)=(t==b):=λk b t hg hv=>by
  rcases h4 with⟨_,g2⟩|⟨j,b',k',g1,g2,g3⟩
  .rw[g2]at hg;cases hg
  .rw[g3]at hg;cases hg;have hk:=hs.env k;rw[hv]at hk;have hkv:=hk.bool;rw[(IG (a:=a) (k:=k) (λb hb=>by rw[hb]at hkv;cases hkv)).2]at hkv;have hkn:k<a.tmps.size:=by
    rcases kz k a.tmps.size with hlt|hge
    .exact hlt
    .rw[tR,GR hge]at hkv;cases hkv
   have hy:yielded ops a.tmps j=some t:=by
    have:a.tmps[k]?=some (.bool t):=by
     rw[tR,zV hkn]at hkv;rw[zV hkn];simpa using hkv
    simp[yielded,g2,this]
   simp only[Region.wanted,g1,hy];cases t<;>cases b<;>rfl
 cases ev with
 | none =>
  obtain⟨⟨k,b,hg,hv⟩,rfl,rfl,_⟩:=hst;have hnw:¬Region.wanted o (yielded ops a.tmps)=true:=by
   rcases hv with hv|hv
   .rw[hwant k b _ hg hv];cases b<;>simp
   .rcases h4 with⟨_,g2⟩|⟨j,b',k',g1,g2,g3⟩
    .rw[g2]at hg;cases hg
    .rw[g3]at hg;cases hg;have hk:=hs.env k;rw[hv]at hk;simp[Region.wanted,g1,xz (ops:=ops) g2 hk]
  rw[au hnw];exact hK _ _ _ (putB hs (y:=.tup []) ⟨[],rfl,trivial⟩)
 | some p =>
  obtain⟨v,e⟩:=p;obtain⟨hgd,hf⟩:=hst;have hw:Region.wanted o (yielded ops a.tmps)=true:=by
   rcases h4 with⟨g1,_⟩|⟨j,b',k',g1,g2,g3⟩
   .simp[Region.wanted,g1]
   .rw[hwant k' b' b' g3 (hgd k' b' g3)];simp
  rw[aF hw];refine .inl ?_;have hr:=hf.run;unfold Nh at hr;split at hr
  .rename_i f args hop;rw[hop]at h1;obtain⟨cl,hoo,hcl,hb,hv⟩:=Ji h1;rcases hr with⟨rfl,_,args',b,q1,q2,q3,q4⟩|⟨k,ob,ob',Sb,rfl,q1,q2,q3,q4,_⟩
   rotate_left
   .refine pn (f:=f) (args:=cl.args.map a.eval) ?_ ?_
    .have:=lX (w:=w) hb (cl.args.map a.eval);simp[execOp,hoo,resolve,hcl,Act.eval,Deferred.ofValue,invoke,this]
    .have hσ:∀id o,ak [(k,ob)] id=some o->h id=some o:=λid o hi=>by
      simp only[ak]at hi;split at hi
      .rename_i hki;subst hki;cases hi;exact q4
      .cases hi
     have:=Ko hs q2 (qP hs hv) hσ [] (λr σ' hP id hid=>by
      obtain⟨rfl,rfl⟩:=hP;simp only[ak]at hid;split at hid
      .rename_i hki;subst hki;exact .inl ⟨q3,by simp[ak]⟩
      .cases hid)
     simp only[Array.toArray_toList]at this;refine this.mono λe' w' ⟨u,r,σ',bl2,he,hP,hs',hv'⟩=>⟨u,he,?_⟩
     obtain⟨rfl,rfl⟩:=hP;have eg:(λj=>tu [] (g j))=g:=by funext j;simp[tu]
     have eh:JW [] (ak [(k,ob)]) (ak [(k,ob')]) h=(bE.put k ob').hp h:=by
      funext j;simp only[JW,ak,bE.hp,ez];by_cases hj:k=j
      .subst hj;simp
      .have hj':¬j=k:=λe=>hj e.symm;have:iB []=id:=by funext o;unfold iB Bj;simp
       simp[hj,hj',this]
     rw[eg,eh]at hs';rw[eh]at hv';refine hK _ _ bl2 ?_;rw[hf.hg,hf.hh];exact putB hs' hv'
   refine pn (f:=f) (args:=cl.args.map a.eval) ?_ ?_
   .have:=lX (w:=w) hb (cl.args.map a.eval);simp[execOp,hoo,resolve,hcl,Act.eval,Deferred.ofValue,invoke,this]
   .have:=GB hs q1 (qP hs hv) q2 b q3 q4;simp only[Array.toArray_toList]at this;refine this.mono λe' w' ⟨u,he,hs',hv'⟩=>⟨u,he,?_⟩
    refine hK _ _ bl ?_;rw[hf.hg,hf.hh];exact putB hs' hv'
  .exact hr.elim
  .rcases hr with hr|⟨rfl,hal,t,st,rows,rfl,hr⟩
   .refine Ck (Lq hs h1 hr hnew) (λr w' bl' q1 q2=>hK _ _ bl' ?_);rw[hf.hg,hf.hh];exact putB q1 q2
   .refine Ck (Lq hs h1 hr hnew) (λr w' bl' q1 q2=>hK _ _ bl' ?_);obtain⟨u1,u2,_⟩:=hnew hal;obtain⟨f1,f2⟩:=q1.freeze (i:=io.dst.getD 0) (o:=⟨t,st,rows,false⟩) (by simp[bE.hp,ez]) rfl;have f3:=f2 _ _ q2;have e1:(λk=>y7 (io.dst.getD 0) ⟨t,st,rows,false⟩ ((bE.new (io.dst.getD 0) ⟨t,st,rows,false⟩).env g k))=g:=funext λk=>WF (u2.1 k);have e2:(λj=>if j=io.dst.getD 0 then none else((bE.new (io.dst.getD 0) ⟨t,st,rows,false⟩).hp h j).map (jC (io.dst.getD 0) ⟨t,st,rows,false⟩))=h:=funext λj=>by
     by_cases hj:j=io.dst.getD 0
     .rw[aF hj,hj,u1]
     .rw[au hj];simp only[bE.hp,ez,au hj];cases hq:h j with
      | none=>rfl
      | some q=>simp only[kZ];rw[WE λhr=>u2.2 j q hq hr]
    have e3:y7 (io.dst.getD 0) ⟨t,st,rows,false⟩ (.ms (io.dst.getD 0) st 0 rows.length) = .sl st rows:=by simp[y7,Hj,Ag,tE]
    rw[e1,e2]at f1;rw[e2,e3]at f3;rw[hf.hg,hf.hh];exact putB f1 f3
def jz{listed:Array Bool}{i:Nat}:i∈Region.ready .any ops listed↔i<ops.size/\listed.getD i true=false/\∃o,ops[i]?=some o/\∀d∈lU o,listed.getD d false=true:=by
 unfold Region.ready;simp only[List.mem_filter,List.mem_range,cE,sz];refine⟨λ⟨h1,h2,h3⟩=>⟨h1,h2,ops[i],zV h1,?_⟩,λ⟨h1,h2,o,h3,h4⟩=>⟨h1,h2,?_⟩⟩
 .rw[zV h1]at h3;simp only[kZ,IT,Array.all_eq_true_iff_forall_mem,pz,sz]at h3;intro d hd;simp only[lU,iD,List.mem_filter,Array.mem_toList_iff]at hd;obtain⟨e,⟨he1,he2⟩,rfl⟩:=hd;rcases h3 e he1 with h5|h5
  .rw[he2]at h5;cases h5
  .exact h5
 .rw[h3];simp only[kZ,IT,Array.all_eq_true_iff_forall_mem,pz,sz];intro e he;cases hb:Region.binds .any e with
  | false=>exact .inl rfl
  | true =>
   refine .inr (h4 e.on ?_);simp only[lU,iD,List.mem_filter,Array.mem_toList_iff];exact⟨e,⟨he,hb⟩,rfl⟩
structure nS(ops:Array Oper)(bs:List (List Nat)):Prop where
 lt:∀i o,ops[i]?=some o->∀d∈lU o,d<i
 via:∀i o,ops[i]?=some o->∀d∈bs.getD i [],d∈lU o\/∃m∈lU o,d∈bs.getD m []
def Mh{bs:List (List Nat)}(h:ZO ops.toList bs=true):nS ops bs:=by
 have key:∀i o,ops[i]?=some o->(∀d∈lU o,d<i)/\∀d∈bs.getD i [],d∈lU o\/∃m∈lU o,d∈bs.getD m []:=λi o hi=>by
  have hlt:i<ops.toList.length:=by
   have:=(wF.1 hi).1;simpa using this
  have:=fz.1 h i (List.mem_range.2 hlt);have hi':ops.toList[i]?=some o:=by rw[Array.getElem?_toList];exact hi
  simp only[hi',cE,fz,eQ,pz,AK,Nb]at this;exact this
 exact⟨λi o hi=>(key i o hi).1,λi o hi=>(key i o hi).2⟩
def nS.bef_lt{bs:List (List Nat)}(hO:nS ops bs):∀(i:Nat)(o:Oper),ops[i]?=some o->∀d∈bs.getD i [],d<i:=by
 intro i
 induction i using Nat.strongRecOn with
 | _ i ih =>
  intro o hi d hd;rcases hO.via i o hi d hd with h1|⟨m,h1,h2⟩
  .exact hO.lt i o hi d h1
  .have hm:=hO.lt i o hi m h1;have hms:m<ops.size:=Nat.lt_trans hm (wF.1 hi).1;have:=ih m hm ops[m] (zV hms) d h2;omega
def nS.listed{bs:List (List Nat)}(hO:nS ops bs){p:Nat->Prop}(hdc:∀i o,p i->ops[i]?=some o->∀d∈lU o,p d):∀(i:Nat)(o:Oper),ops[i]?=some o->(∀d∈lU o,p d)->∀d∈bs.getD i [],p d:=by
 intro i
 induction i using Nat.strongRecOn with
 | _ i ih =>
  intro o hi he d hd;rcases hO.via i o hi d hd with h1|⟨m,h1,h2⟩
  .exact he d h1
  .have hm:=hO.lt i o hi m h1;have hms:m<ops.size:=Nat.lt_trans hm (wF.1 hi).1;exact ih m hm ops[m] (zV hms) (hdc m _ (he m h1) (zV hms)) d h2
def OY(hn:c.n=n){al:List (Nat×Nat)}(hone:Cl al)(hal:∀d m,(d,m)∈al->d<1000){bs:List (List Nat)}(hO:nS ops bs){gf:Nat->AV}{hf:Nat->Option ao}{Q:Exit->Act->World->Prop}(off fuel0:Nat)(Z:Nat->Prop)
  (hQ:∀(listed:Array Bool) a w bl,listed.size=ops.size->(∀j,j<ops.size->(listed.getD j true=false↔Z j))->aP c bl gf hf a w->wpAny P .any ops Q fuel0 listed a w):∀(fuel:Nat)(R:List jU)(listed:Array Bool)(g:Nat->AV)(h:Nat->Option ao)(a:Act)(w:World)(bl:Nat->Option Nat),R.length=fuel->listed.size=ops.size ->
   aP c bl g h a w->T P R g h gf hf->Un al (λm=>∃t∈R,t.i=m) g h ->
   (∀j,j<ops.size->(listed.getD j true=false↔(∃t∈R,off+t.i=j)\/Z j)) ->
   (∀j,Z j->∀t∈R,off+t.i∈bs.getD j []) ->
   (∀i o,listed.getD i false=true->ops[i]?=some o->∀d∈lU o,listed.getD d false=true) ->
   (∀t∈R,∃o,ops[off+t.i]?=some o/\pU P n ops o=some t.o/\(∀d∈t.bef,off+d∈bs.getD (off+t.i) [])/\bV t.o.op=true/\(fg t.o.op=true->(t.o.dst.getD 0,t.i)∈al) /\
    (∀d,d∈aO (xJ t.ev)\/d∈(f7 t.ev).ids->∀m,(d,m)∈al->m=t.i\/m∈t.bef)) ->
   R.Pairwise (λm t=>m.i<t.i/\(m.i∈t.bef\/(Fx m.o t.o/\Mt t.x m.x)))->wpAny P .any ops Q (fuel+fuel0) listed a w:=by
 intro fuel
 induction fuel with
 | zero =>
  intro R listed g h a w bl hlen hsz hs ht hu hli hbk hdc hit hpw;have hR:R=[]:=Qz.1 hlen;subst hR;obtain⟨rfl,rfl⟩:=ht;rw[AJ];refine hQ listed a w bl hsz (λj hj=>?_) hs;rw[hli j hj];refine⟨λhh=>?_,.inr⟩;rcases hh with⟨t,ht,_⟩|hh
  .cases ht
  .exact hh
 | succ fuel ih =>
  intro R listed g h a w bl hlen hsz hs ht hu hli hbk hdc hit hpw;have hgetD:∀j,j<ops.size->listed.getD j true=listed.getD j false:=λj hj=>by
   have:j<listed.size:=by omega
   simp[tR,zV this]
  rw[Nat.add_right_comm];refine⟨λhr=>?_,λi hi=>?_⟩
  ·
   exfalso;cases R with
   | nil=>simp at hlen
   | cons t R =>
    obtain⟨o,h1,_⟩:=hit t (by simp);have hlt:=(wF.1 h1).1
    have:off+t.i∈Region.ready .any ops listed:=jz.2 ⟨hlt,(hli (off+t.i) hlt).2 (.inl ⟨t,by simp,rfl⟩),o,h1,λd hd=>by
     have hdl:=hO.lt (off+t.i) o h1 d hd;have hds:d<ops.size:=by omega
     cases hv:listed.getD d false with
     | true=>rfl
     | false =>
      rw[<-hgetD d hds]at hv;rcases(hli d hds).1 hv with⟨q,hq,hqi⟩|hz
      .rcases eA.1 hq with rfl|hq
       .omega
       .have:=((List.pairwise_cons.1 hpw).1 q hq).1;omega
      .have h5:=hbk d hz t (by simp);have h6:=hO.bef_lt d ops[d] (zV hds) _ h5;omega⟩
    rw[hr]at this;cases this
  .obtain⟨h1,h2,o,h3,h4⟩:=jz.1 hi;have hbefs:∀d∈bs.getD i [],listed.getD d false=true:=hO.listed hdc i o h3 h4;have hiR:∃t∈R,off+t.i=i:=by
    rcases(hli i h1).1 h2 with hh|hz
    .exact hh
    .exfalso;cases R with
     | nil=>simp at hlen
     | cons t R =>
      have h5:=hbefs _ (hbk i hz t (by simp));obtain⟨ot,hot,_⟩:=hit t (by simp);have hl:=(wF.1 hot).1;have h6:=(hli (off+t.i) hl).2 (.inl ⟨t,by simp,rfl⟩);rw[hgetD _ hl,h5]at h6;cases h6
   obtain⟨t,htR,hti⟩:=hiR;subst hti;obtain⟨A,B,rfl⟩:=List.append_of_mem htR;obtain⟨o',q1,q2,q3,q4,q5,q6⟩:=hit t (by simp);rw[h3]at q1;cases q1;have hbef:∀d∈t.bef,listed.getD (off+d) false=true:=λd hd=>hbefs _ (q3 d hd);have hpA:∀m∈A,m.i<t.i/\(m.i∈t.bef\/(Fx m.o t.o/\Mt t.x m.x)):=λm hm=>(List.pairwise_append.1 hpw).2.2 m hm t (by simp);have hun:∀m∈A++B,m.i≠t.i:=λm hm=>by
    rcases f9.1 hm with hm|hm
    .have:=(hpA m hm).1;omega
    .have:=((List.pairwise_cons.1 (List.pairwise_append.1 hpw).2.1).1 m hm).1;omega
   have hnot:∀m∈A++t::B,listed.getD (off+m.i) false=false:=λm hm=>by
    obtain⟨om,hom,_⟩:=hit m hm;have hl:=(wF.1 hom).1;rw[<-hgetD (off+m.i) hl];exact(hli (off+m.i) hl).2 (.inl ⟨m,hm,rfl⟩)
   obtain⟨g1,hh1,hst,hT⟩:=Zx A t B g h gf hf ht (λm hm=>by
    rcases(hpA m hm).2 with hb|hb
    .have:=hbef m.i hb;rw[hnot m (by simp[hm])]at this;cases this
    .exact hb) (λm hm=>by obtain⟨_,_,_,_,q,_⟩:=hit m (by simp[hm]);exact q) q4
   unfold wpOp;rw[h3];simp only
   have hu':Un al (λm=>∃q∈A++B,q.i=m) g1 hh1:=Un.step hst hu q4 q6 (λm hm ⟨q,hq,hqi⟩=>by
    have:=hbef m hm
    rw[<-hqi,hnot q (by
     rcases f9.1 hq with hq|hq
     .simp[hq]
     .simp[hq])]at this
    cases this) q5 hone (λm ⟨q,hq,hqi⟩=>⟨⟨q,by
     rcases f9.1 hq with hq|hq
     .simp[hq]
     .simp[hq],hqi⟩,by rw[<-hqi];exact hun q hq⟩)
   refine MT q2 hn hst hs (λha=>?_) (λa' w' bl' hs'=>?_)
   .obtain⟨u1,u2⟩:=hu _ t.i (q5 ha) ⟨t,by simp,rfl⟩;exact⟨u1,u2,.inl (hal _ _ (q5 ha))⟩
   .refine ih (A++B) (listed.setIfInBounds (off+t.i) true) g1 hh1 a' w' bl' (by simp at hlen⊢;omega) (by simpa using hsz) hs' hT hu' (λj hj=>?_) (λj hz m hm=>hbk j hz m ?_) (λj oj hj hoj d hd=>?_) (λm hm=>?_) ?_
    .have hset:(listed.setIfInBounds (off+t.i) true).getD j true=if off+t.i=j then true else listed.getD j true:=by
      simp only[tR,IL];split
      .rename_i e;subst e;simp[hsz,h1]
      .rfl
     rw[hset];constructor
     .intro hv;split at hv
      .cases hv
      .rename_i hne;rcases(hli j hj).1 hv with⟨q,hq,hqi⟩|hz
       .refine .inl ⟨q,?_,hqi⟩;rcases f9.1 hq with hq|hq
        .simp[hq]
        .rcases eA.1 hq with rfl|hq
         .exact absurd hqi hne
         .simp[hq]
       .exact .inr hz
     .rintro(⟨q,hq,hqi⟩|hz)
      .rw[au (λe=>hun q hq (by omega))];refine(hli j hj).2 (.inl ⟨q,?_,hqi⟩);rcases f9.1 hq with hq|hq
       .simp[hq]
       .simp[hq]
      .rw[au (λe=>by
        subst e;have h5:=hbk _ hz t (by simp);have h6:=hO.bef_lt _ _ h3 _ h5;omega)]
       exact(hli j hj).2 (.inr hz)
    .rcases f9.1 hm with hm|hm
     .simp[hm]
     .simp[hm]
    .have hset:∀k,(listed.setIfInBounds (off+t.i) true).getD k false=if off+t.i=k then true else listed.getD k false:=λk=>by
      simp only[tR,IL];split
      .rename_i e;subst e;simp[hsz,h1]
      .rfl
     rw[hset]at hj⊢;split
     .rfl
     .split at hj
      .rename_i e;subst e;rw[h3]at hoj;cases hoj;exact h4 d hd
      .exact hdc j oj hj hoj d hd
    .refine hit m ?_;rcases f9.1 hm with hm|hm
     .simp[hm]
     .simp[hm]
    .have hsub:(A++B).Sublist (A++t::B):=List.Sublist.append_left (List.sublist_cons_self t B) A;exact hpw.sublist hsub
end
def LQ(c:vE)(K:IX->St->Prop):Exit->Act->World->Prop
 | .normal,a,w=>∃s,K .nrm s/\c_ c s a w
 | .ret,a,w=>∃s,K .ret s/\c_ c s a w
 | .exit id,a,w=>∃s,K (.ext id) s/\c_ c s a w
 | _,_,_=>False
section
variable{P:Program}[bO P]{c:vE}[CT c P]{n:Nat}
def rd{p:Nat->Prop}(h:∃n,p n):∃n,p n/\∀m,m<n->¬p m:=by
 obtain⟨n,hn⟩:=h
 induction n using Nat.strongRecOn with
 | _ n ih =>
  by_cases hm:∃m,m<n/\p m
  .obtain⟨m,h1,h2⟩:=hm;exact ih m h1 h2
  .exact⟨n,hn,λm h1 h2=>hm ⟨m,h1,h2⟩⟩
open Classical in
def Qw{x:Code}{Q:Exit->Act->World->Prop}{a:Act}{w:World}(I:Nat->Act->World->Prop)(h0:∃n,I n a w)
  (round:∀n a w,I n a w->x.wp P (Exit.then (λa' w'=>∃m,m<n/\I m a' w') Q) a w):(Code.loop x).wp P Q a w:=by
 refine wp_loop (λa w=>∃n,I n a w) (λa w=>if h:∃n,I n a w then Classical.choose (rd h)else 0) h0 (λa w hI=>?_);have hc:=Classical.choose_spec (rd hI);refine Code.wp_mono (λe a' w' hq=>?_) (round _ a w hc.1);cases e<;>try exact hq
 obtain⟨m,hm,hI'⟩:=hq;refine⟨⟨m,hI'⟩,?_⟩;rw[dif_pos ⟨m,hI'⟩,dif_pos hI];have hc':=Classical.choose_spec (rd (p:=λn=>I n a' w') ⟨m,hI'⟩);rcases kz m (Classical.choose (rd (p:=λn=>I n a' w') ⟨m,hI'⟩))with h1|h1
 .exact absurd hI' (hc'.2 m h1)
 .omega
def uP{ops:Array Oper}:∀{l:List Oper}{il:List bF},v6 P n ops l=some il->il.length=l.length/\∀(j:Nat)(io:bF),il[j]?=some io->∃o,l[j]?=some o/\pU P n ops o=some io
 | [],il,h=>by simp only[v6,de]at h;subst h;simp
 | o::r,il,h=>by
  simp only[v6]at h;split at h
  case h_2=>cases h
  rename_i x xs h1 h2;cases h;obtain⟨h3,h4⟩:=uP h2;refine⟨by simp[h3],λj io hj=>?_⟩;cases j with
  | zero=>simp at hj;subst hj;exact⟨o,by simp,h1⟩
  | succ j=>simp at hj;obtain⟨o',h5,h6⟩:=h4 j io hj;exact⟨o',by simpa using h5,h6⟩
def uK:∀(l:List bF)(i:Nat)(d m:Nat),(d,m)∈dh i l↔∃j o,l[j]?=some o/\fg o.op=true/\d=o.dst.getD 0/\m=i+j
 | [],i,d,m=>by simp[dh]
 | o::r,i,d,m=>by
  have ih:=uK r (i+1) d m;have key:(∃j o',(o::r)[j]?=some o'/\fg o'.op=true/\d=o'.dst.getD 0/\m=i+j)↔(fg o.op=true/\d=o.dst.getD 0/\m=i)\/∃j o',r[j]?=some o'/\fg o'.op=true/\d=o'.dst.getD 0/\m=i+1+j:=by
   constructor
   .rintro⟨j,o',h1,h2,h3,h4⟩;cases j with
    | zero=>simp at h1;subst h1;exact .inl ⟨h2,h3,by omega⟩
    | succ j=>exact .inr ⟨j,o',by simpa using h1,h2,h3,by omega⟩
   .rintro(⟨h2,h3,h4⟩|⟨j,o',h1,h2,h3,h4⟩)
    .exact⟨0,o,by simp,h2,h3,by omega⟩
    .exact⟨j+1,o',by simpa using h1,h2,h3,by omega⟩
  rw[key,<-ih];by_cases ha:fg o.op=true
  .rw[show dh i (o::r)=(o.dst.getD 0,i)::dh (i+1) r from by simp[dh,ha]];simp[ha]
  .rw[show dh i (o::r)=dh (i+1) r from by simp[dh,ha]];simp[ha]
def Bg:∀{l:List Nat},Ia l=true->l.Nodup
 | [],_=>by simp
 | x::r,h=>by
  simp only[Ia,cE,sz,Nb,decide_eq_false_iff_not]at h;exact List.nodup_cons.2 ⟨h.1,Bg h.2⟩
def Rz{al:List (Nat×Nat)}(h:(al.map (·.1)).Nodup):Cl al:=by
 induction al with
 | nil=>intro d m m' h1;cases h1
 | cons p r ih =>
  simp only[eR,List.nodup_cons]at h;intro d m m' h1 h2;rcases eA.1 h1 with e1|h1<;>rcases eA.1 h2 with e2|h2
  .rw[<-e1]at e2;cases e2;rfl
  .exact absurd (iD.2 ⟨(d,m'),h2,by rw[<-e1]⟩) h.1
  .exact absurd (iD.2 ⟨(d,m),h1,by rw[<-e2]⟩) h.1
  .exact ih h.2 d m m' h1 h2
def qo:∀(l:List Nat)(s:St)(d:Nat),(ak s.heap d=none/\dk d (get s.env) (ak s.heap))\/d∈l->ak (kills l s).heap d=none/\dk d (get (kills l s).env) (ak (kills l s).heap)
 | [],s,d,h=>by rcases h with h|h;exact h;cases h
 | i::r,s,d,h=>by
  refine qo r (s.kill i) d ?_;by_cases hd:d=i
  .subst hd;exact .inl (fK s d)
  .rcases h with⟨h1,h2⟩|h
   .refine .inl ⟨by simp[St.kill,fj,dW,h1],λk=>?_,λj o hj hr q hq x hx=>?_⟩
    .simp only[St.kill,iZ];unfold i7;split
     .rfl
     .exact h2.1 k
    .simp only[St.kill,fj,dW,dV]at hj;obtain⟨o0,h3,rfl⟩:=hj;split at h3
     .cases h3
     .rw[vk]at hr;simp only[eJ,hr,br,iD]at hq;obtain⟨q0,hq0,rfl⟩:=hq;obtain⟨x0,hx0,rfl⟩:=iD.1 hx;unfold BU;split
      .rfl
      .exact h2.2 j o0 h3 hr q0 hq0 x0 hx0
   .rcases eA.1 h with h|h
    .exact absurd h hd
    .exact .inr h
def CR{al:List (Nat×Nat)}:∀{items:List jU}{hist:List HI},EF al hist items->(∀t∈items,(∀y∈hist,y.i∈t.bef\/Mt t.x y)/\t.x.i=t.i/\(∀d,d∈aO (xJ t.ev)\/d∈(f7 t.ev).ids->∀m,(d,m)∈al->m=t.i\/m∈t.bef)) /\
  items.Pairwise (λm t=>m.i∈t.bef\/Mt t.x m.x)
 | [],_,_=>⟨by simp,List.Pairwise.nil⟩
 | t::R,hist,h=>by
  obtain⟨h1,h2,h3,h4⟩:=h;obtain⟨h5,h6⟩:=CR h4;refine⟨λq hq=>?_,List.pairwise_cons.2 ⟨λq hq=>?_,h6⟩⟩
  .rcases eA.1 hq with rfl|hq
   .exact⟨h2,h1,h3⟩
   .exact⟨λy hy=>(h5 q hq).1 y (by simp[hy]),(h5 q hq).2⟩
  .have:=(h5 q hq).1 t.x (by simp);rwa[h1]at this
def Kz(l:List Nat):∀(f k:Nat),(∀d,d<k->d∈l)->∀d,d<oA l f k->d∈l
 | 0,k,h=>h
 | f+1,k,h=>by
  simp only[oA];split
  .rename_i hc;refine Kz l f (k+1) (λd hd=>?_);rcases kz d k with h1|h1
   .exact h d h1
   .obtain rfl:d=k:=by omega
    simpa using hc
  .exact h
def Lk(bs:List (List Nat))(N:Nat):Nat->List bF->List (Nat×List bF)->Prop
 | _,l,[]=>l=[]
 | i,l,(k,s)::t=>k=i/\s≠[]/\∃r,l=s++r/\Lk bs N (i+s.length) r t/\(t≠[]->∀j,i+s.length<=j->j<N->∀d,d<i+s.length->d∈bs.getD j [])
def Ov(bs:List (List Nat))(N:Nat):∀(l:List bF)(i:Nat),i+l.length=N->Lk bs N i l (KU bs i l).1/\∀j,i<=j->j<N->(KU bs i l).2<=oA (bs.getD j []) j 0
 | [],i,h=>⟨rfl,λj h1 h2=>by simp at h;omega⟩
 | o::r,i,h=>by
  simp only[aT]at h;obtain⟨h1,h2⟩:=Ov bs N r (i+1) (by omega);have hm:∀(m:Nat),m=(KU bs (i+1) r).2->∀j,i<=j->j<N->min m (oA (bs.getD i []) i 0)<=oA (bs.getD j []) j 0:=λm hm j h3 h4=>by
   rcases kz i j with h5|h5
   .exact jq (Nat.min_le_left _ _) (by rw[hm];exact h2 j h5 h4)
   .obtain rfl:i=j:=by omega
    exact Nat.min_le_right _ _
  rw[KU];generalize hs:KU bs (i+1) r=q at*;obtain⟨t,m⟩:=q
  match t,h1 with
  | [],h1 =>
   refine⟨⟨rfl,by simp,r,rfl,h1,λh=>absurd rfl h⟩,hm m rfl⟩
  | (k,s)::t,h1 =>
   simp only;split
   .rename_i hc;refine⟨⟨rfl,by simp,r,rfl,h1,λ_ j h3 h4 d h5=>?_⟩,hm m rfl⟩;simp only[jI]at h3 h5;exact Kz _ j 0 (λd hd=>absurd hd (Nat.not_lt_zero d)) d (Es (show d<m by omega) (h2 j h3 h4))
   .obtain⟨e1,e2,r',e3,e4,e5⟩:=h1;have e:i+1+s.length=i+(o::s).length:=by simp;omega
    refine⟨⟨rfl,by simp,r',by rw[e3];rfl,by rw[<-e];exact e4,by rw[<-e];exact e5⟩,hm m rfl⟩
def ji{ic x:bR}(h:dB ic=x)(hx:(∃ops dr,x = .reg ops dr)\/x = .skip\/x = .ret\/∃id,x = .exit id):ic=x:=by
 rcases hx with⟨ops,dr,rfl⟩|rfl|rfl|⟨id,rfl⟩<;>cases ic<;>simp only[dB]at h<;>first|(cases h;done)|rfl|exact h
def Zj(ic ic0:bR):Prop:=(ic=ic0\/∃ops al dr,ic0 = .draw ops al dr/\ic = .wild ops al dr)\/∃ops al dr,ic0 = .draw ops al dr/\ic = .free ops al dr
def FV{ic x:bR}(h:dB ic=x)(hx:(∃ops dr,x = .reg ops dr)\/∃ops al dr,x = .draw ops al dr):Zj ic x:=by
 rcases hx with⟨ops,dr,rfl⟩|⟨ops,al,dr,rfl⟩
 .exact .inl (.inl (ji h (.inl ⟨_,_,rfl⟩)))
 .cases ic<;>simp only[dB]at h<;>first|(cases h;done)|skip
  .exact .inl (.inl h)
  .cases h;exact .inr ⟨_,_,_,rfl,rfl⟩
  .cases h;exact .inl (.inr ⟨_,_,_,rfl,rfl⟩)
def FO{α:Type}{F:α->Prop}:∀{l:List α},Jk l F->∀{x:α},x∈l->F x
 | [y],h,x,hx=>by obtain rfl:=kq.1 hx;exact h
 | y::z::r,h,x,hx=>by
  rcases eA.1 hx with rfl|hx
  .exact h.1
  .exact FO h.2 hx
def LG{R:List (Nat×aR)}{t:Nat×aR}(h:R.Pairwise (λa b=>a.1≠b.1))(ht:t∈R):(R.filter λq=>q.1 != t.1).length+1=R.length:=by
 induction R with
 | nil=>cases ht
 | cons y R ih =>
  have h1:=(List.pairwise_cons.1 h).1;have h2:=(List.pairwise_cons.1 h).2;rcases eA.1 ht with e|ht
  .subst e;have e:R.filter (λq=>q.1 != t.1)=R:=List.filter_eq_self.2 λq hq=>bne_iff_ne.2 λe=>h1 q hq e.symm;have e2:(t.1 != t.1)=false:=by simp
   rw[List.filter_cons,e2,e];rfl
  .have h3:=ih h2 ht;have e2:(y.1 != t.1)=true:=bne_iff_ne.2 (h1 t ht);rw[List.filter_cons,e2];show((R.filter λq=>q.1 != t.1).length+1)+1=R.length+1;omega
section
variable{ops:Array Oper}{bs:List (List Nat)}{L:List bF}{Q:Exit->Act->World->Prop}{a:Act}{w:World}{st:St}{KK:IX->St->Prop}{listed:Array Bool}
def p6{i:Nat}(hsz:listed.size=ops.size)(hl:∀j,j<ops.size->(listed.getD j true=false↔i<=j))(j:Nat)(hj:j<ops.size):listed.getD j false=true↔j<i:=by
 have hgetD:listed.getD j true=listed.getD j false:=by
  have:j<listed.size:=by omega
  simp[tR,zV this]
 have:=hl j hj;rw[hgetD]at this;cases hv:listed.getD j false with
 | true=>simp[hv]at this;simpa using this
 | false=>simp[hv]at this;simpa using this
def qp{i:Nat}(hO:nS ops bs)(hsz:listed.size=ops.size)(hl:∀j,j<ops.size->(listed.getD j true=false↔i<=j)) :
  ∀j o,listed.getD j false=true->ops[j]?=some o->∀d∈lU o,listed.getD d false=true:=λj o hj ho d hd=>by
 have hjs:=(wF.1 ho).1;have h1:=(p6 hsz hl j hjs).1 hj;have h2:=hO.lt j o ho d hd;exact(p6 hsz hl d (by omega)).2 (by omega)
def AG(hn:c.n=n)(hO:nS ops bs)(hL:v6 P n ops ops.toList=some L){i:Nat}{s r:List bF}(hs:L.drop i=s++r)(hne:s≠[]){dr:List Nat}{ic ic0:bR}(hc:O5 bs i s dr=some ic0)
  (hic:Zj ic ic0) (hi:jD P ic st KK) (hst:c_ c st a w) (hsz:listed.size=ops.size) (hl:∀j,j<ops.size->(listed.getD j true=false↔i<=j))
  (hcut:r≠[]->∀j,i+s.length<=j->j<ops.size->∀d,d<i+s.length->d∈bs.getD j [])
  (hnext:∀(st':St)(a':Act)(w':World)(listed':Array Bool),KK .nrm st'->c_ c st' a' w'->listed'.size=ops.size->(∀j,j<ops.size->(listed'.getD j true=false↔i+s.length<=j))->wpAny P .any ops Q r.length listed' a' w') :
  wpAny P .any ops Q (s.length+r.length) listed a w:=by
 obtain⟨hlen,hget'⟩:=uP hL;simp only[qz]at hlen;have hsize:i+s.length+r.length=ops.size:=by
  have h1:=congrArg List.length hs;have h2:0<s.length:=Ey.2 hne;simp only[jJ,aJ,hlen]at h1;omega
 have hopi:∀(j:Nat)(io:bF),s[j]?=some io->∃o,ops[i+j]?=some o/\pU P n ops o=some io:=λj io hj=>by
  have h1:L[i+j]?=some io:=by
   rw[<-IQ,hs,M_ (jp.1 hj).1];exact hj
  obtain⟨o,h2,h3⟩:=hget' (i+j) io h1;exact⟨o,by rw[<-Array.getElem?_toList];exact h2,h3⟩
 have hcut':∀j,i+s.length<=j->j<ops.size->∀d,d<i+s.length->d∈bs.getD j []:=λj h1 h2=>hcut (λe=>by subst e;simp at hsize;omega) j h1 h2;have one:∀o:bF,s=[o]->ic0 = .reg [o] dr->wpAny P .any ops Q (s.length+r.length) listed a w:=by
  rintro o rfl rfl;obtain rfl:ic = .reg [o] dr:=by
   rcases hic with(h|⟨_,_,_,h,_⟩)|⟨_,_,_,h,_⟩
   .exact h
   .cases h
   .cases h
  obtain⟨oo,h1,h2⟩:=hopi 0 o rfl;rw[Nat.add_zero]at h1;have his:=(wF.1 h1).1;rw[jI,Nat.add_comm 1];have hrd:∀k∈Region.ready .any ops listed,k=i:=λk hk=>by
   obtain⟨k1,k2,ok,k3,k4⟩:=jz.1 hk;have k5:=(hl k k1).1 k2;rcases kz i k with h5|h5
   .exfalso;have h6:=hcut' k (by simp;omega) k1 i (by simp);have h7:=hO.listed (qp hO hsz hl) k ok k3 k4 i h6;have:=(p6 hsz hl i his).1 h7;omega
   .omega
  refine⟨λhr=>?_,λk hk=>?_⟩
  .exfalso
   have:i∈Region.ready .any ops listed:=jz.2 ⟨his,(hl i his).2 (bG _),oo,h1,λd hd=>by
    have hdl:=hO.lt i oo h1 d hd;exact(p6 hsz hl d (by omega)).2 hdl⟩
   rw[hr]at this;cases this
  .obtain rfl:=hrd k hk;unfold wpOp;rw[h1];simp only[jD]at hi⊢;refine xM hn Q h2 hi hst λs' a' w' h3 h4=>?_;refine hnext _ a' w' _ h3 (c_.dels _ h4) (by simpa using hsz) (λj hj=>?_);have hset:(listed.setIfInBounds k true).getD j true=if k=j then true else listed.getD j true:=by
    simp only[tR,IL];split
    .rename_i e;subst e;simp[hsz,hj]
    .rfl
   rw[hset,jI];split
   .rename_i e;subst e;simp
   .rename_i e;rw[hl j hj];omega
 have many:B5 (vn bs i s.length) s dr=some ic0->wpAny P .any ops Q (s.length+r.length) listed a w:=by
  intro hc;unfold B5 at hc;split at hc
  case isFalse=>cases hc
  rename_i hcond;simp only[cE]at hcond;obtain⟨⟨⟨c2,c3⟩,c4⟩,c5⟩:=hcond;cases hc;have hrel:∀k,k<s.length->∀d,d∈(vn bs i s.length).getD k []↔i+d∈bs.getD (i+k) []:=λk hk d=>by
   have e:(vn bs i s.length).getD k []=(bs.getD (i+k) []).filterMap λd=>if i<=d then some (d-i)else none:=by
    simp only[vn,List.getD_eq_getElem?_getD,ky,OK hk,kZ,IT]
   rw[e,List.mem_filterMap];constructor
   .rintro⟨q,hq,hqd⟩;split at hqd
    .cases hqd;rwa[show i+(q-i)=q by omega]
    .cases hqd
   .intro hd;exact⟨i+d,hd,by rw[aF (by omega)];congr 1;omega⟩
  rcases hic with hic|⟨_,_,_,hcc,rfl⟩
  rotate_left
  .cases hcc;simp only[jD]at hi;have key:∀(fuel:Nat)(R:List (Nat×aR))(listed:Array Bool)(st:St)(a:Act)(w:World),R.length=fuel->c_ c st a w->listed.size=ops.size ->
     (∀j,j<ops.size->(listed.getD j true=false↔(∃t∈R,i+t.1=j)\/i+s.length<=j)) ->
     (∀j o,listed.getD j false=true->ops[j]?=some o->∀d∈lU o,listed.getD d false=true) ->
     (∀t∈R,t.1<s.length/\s[t.1]?=some t.2.o/\t.2.bef=(vn bs i s.length).getD t.1 [])->R.Pairwise (λa b=>a.1≠b.1) ->
     Gh P fuel R st (λs'=>KK .nrm ⟨dels dr s'.env,s'.heap⟩)->wpAny P .any ops Q (fuel+r.length) listed a w:=by
    intro fuel
    induction fuel with
    | zero =>
     intro R listed st a w hlen hst hsz hli hdc hit hpw hf;have hR:R=[]:=Qz.1 hlen;subst hR;rw[AJ];refine hnext _ a w listed hf (c_.dels _ hst) hsz (λj hj=>?_);rw[hli j hj];exact⟨λhh=>by rcases hh with⟨t,ht,_⟩|hh;cases ht;exact hh,.inr⟩
    | succ fuel ih =>
     intro R listed st a w hlen hst hsz hli hdc hit hpw hf;have hgetD:∀j,j<ops.size->listed.getD j true=listed.getD j false:=λj hj=>by
      have:j<listed.size:=by omega
      simp[tR,zV this]
     have hopR:∀t∈R,∃o,ops[i+t.1]?=some o/\pU P n ops o=some t.2.o:=λt ht=>hopi t.1 t.2.o (hit t ht).2.1;have hun:∀t∈R,listed.getD (i+t.1) false=false:=λt ht=>by
      obtain⟨o,ho,_⟩:=hopR t ht;have hl:=(wF.1 ho).1;rw[<-hgetD _ hl];exact(hli _ hl).2 (.inl ⟨t,ht,rfl⟩)
     rw[Nat.add_right_comm];refine⟨λhr=>?_,λk hk=>?_⟩
     .exfalso;have hex:∃m,∃t∈R,t.1=m:=by
       cases R with
       | nil=>simp at hlen
       | cons t R=>exact⟨t.1,t,by simp,rfl⟩
      obtain⟨m,⟨t,ht,rfl⟩,hmin⟩:=rd hex;obtain⟨o,ho,_⟩:=hopR t ht;have hlt:=(wF.1 ho).1
      have:i+t.1∈Region.ready .any ops listed:=jz.2 ⟨hlt,(hli _ hlt).2 (.inl ⟨t,ht,rfl⟩),o,ho,λd hd=>by
       have hdl:=hO.lt (i+t.1) o ho d hd;have hds:d<ops.size:=by omega
       cases hv:listed.getD d false with
       | true=>rfl
       | false =>
        rw[<-hgetD d hds]at hv;rcases(hli d hds).1 hv with⟨q,hq,hqi⟩|hz
        .exact absurd ⟨q,hq,rfl⟩ (hmin q.1 (by omega))
        .have:=(hit t ht).1;omega⟩
      rw[hr]at this;cases this
     .obtain⟨k1,k2,o,k3,k4⟩:=jz.1 hk;have hbefs:∀d∈bs.getD k [],listed.getD d false=true:=hO.listed hdc k o k3 k4;have hkR:∃t∈R,i+t.1=k:=by
       rcases(hli k k1).1 k2 with hh|hz
       .exact hh
       .exfalso;cases R with
        | nil=>simp at hlen
        | cons t R =>
         have h1:=(hit t (by simp)).1;have h2:=hbefs _ (hcut' k hz k1 (i+t.1) (by omega));rw[hun t (by simp)]at h2;cases h2
      obtain⟨t,ht,rfl⟩:=hkR;obtain⟨oo,ho,hco⟩:=hopR t ht;rw[k3]at ho;cases ho;have htr:t∈rdy R:=by
       unfold rdy;rw[List.mem_filter];refine⟨ht,fz.2 λq hq=>?_⟩;cases hb:t.2.bef.contains q.1 with
       | false=>rfl
       | true =>
        exfalso;have h1:q.1∈t.2.bef:=by simpa using hb
        rw[(hit t ht).2.2,hrel t.1 (hit t ht).1]at h1;have h2:=hbefs _ h1;rw[hun q hq]at h2;cases h2
      have hft:=FO hf htr;unfold wpOp;rw[k3];simp only;refine xM hn Q hco hft hst λs' a' w' h3 h4=>?_;have hfl:=LG hpw ht;refine ih (R.filter λq=>q.1 != t.1) (listed.setIfInBounds (i+t.1) true) s' a' w' (by omega) h4 (by simpa using hsz) (λj hj=>?_) (λj oj hj hoj d hd=>?_) (λq hq=>hit q (List.mem_filter.1 hq).1) (hpw.sublist List.filter_sublist) h3
      .have hset:(listed.setIfInBounds (i+t.1) true).getD j true=if i+t.1=j then true else listed.getD j true:=by
        simp only[tR,IL];split
        .rename_i e;subst e;simp[hsz,k1]
        .rfl
       rw[hset];constructor
       .intro hv;split at hv
        .cases hv
        .rename_i hne;rcases(hli j hj).1 hv with⟨q,hq,hqi⟩|hz
         .exact .inl ⟨q,List.mem_filter.2 ⟨hq,by simp;omega⟩,hqi⟩
         .exact .inr hz
       .rintro(⟨q,hq,hqi⟩|hz)
        .obtain⟨hq1,hq2⟩:=List.mem_filter.1 hq;have hq3:q.1≠t.1:=by simpa using hq2
         rw[au (by omega)];exact(hli j hj).2 (.inl ⟨q,hq1,hqi⟩)
        .have h1:=(hit t ht).1;rw[au (by omega)];exact(hli j hj).2 (.inr hz)
      .have hset:∀k,(listed.setIfInBounds (i+t.1) true).getD k false=if i+t.1=k then true else listed.getD k false:=λk=>by
        simp only[tR,IL];split
        .rename_i e;subst e;simp[hsz,k1]
        .rfl
       rw[hset]at hj⊢;split
       .rfl
       .split at hj
        .rename_i e;subst e;rw[k3]at hoj;cases hoj;exact k4 d hd
        .exact hdc j oj hj hoj d hd
   have hzl:((s.zipIdx.map λp=>(⟨p.1,(vn bs i s.length).getD p.2 []⟩:aR)).zipIdx.map λp=>(p.2,p.1)).length=s.length:=by simp
   have hzm:∀t,t∈((s.zipIdx.map λp=>(⟨p.1,(vn bs i s.length).getD p.2 []⟩:aR)).zipIdx.map λp=>(p.2,p.1))↔t.1<s.length/\s[t.1]?=some t.2.o/\t.2.bef=(vn bs i s.length).getD t.1 []:=λt=>by
    obtain⟨t1,⟨t2,t3⟩⟩:=t;rw[iD];constructor
    .rintro⟨p,hp,he⟩;obtain⟨p1,p2⟩:=p;cases he;rw[List.mem_zipIdx_iff_getElem?]at hp;simp only[ky,List.getElem?_zipIdx,Option.map_map,dV,Function.comp]at hp;obtain⟨io,h1,h2⟩:=hp;cases h2;exact⟨(jp.1 h1).1,h1,by simp⟩
    .rintro⟨h1,h2,h3⟩;refine⟨(⟨t2,t3⟩,t1),?_,rfl⟩;rw[List.mem_zipIdx_iff_getElem?];simp only at h1 h2 h3⊢;simp[h2,h3]
   rw[cU,List.length_zipIdx]at hi;refine key s.length _ listed st a w hzl hst hsz (λj hj=>?_) (qp hO hsz hl) (λt ht=>(hzm t).1 ht) ?_ hi
   .rw[hl j hj];constructor
    .intro hij;rcases kz j (i+s.length)with h1|h1
     .exact .inl ⟨(j-i,⟨s[j-i]'(by omega),(vn bs i s.length).getD (j-i) []⟩),(hzm _).2 ⟨by simp only;omega,m_ _,rfl⟩,by simp only;omega⟩
     .exact .inr h1
    .rintro(⟨t,ht,h1⟩|h1)
     .omega
     .omega
   .refine List.pairwise_map.2 ?_
    exact(List.nodup_iff_pairwise_ne.1 (by
     have:((s.zipIdx.map λp=>(⟨p.1,(vn bs i s.length).getD p.2 []⟩:aR)).zipIdx.map Prod.snd).Nodup:=by
      rw[List.zipIdx_map_snd];exact List.nodup_range'
     exact this):List.Pairwise _ _) |> List.pairwise_map.1
  have hone:Cl (dh 0 s):=Rz (Bg c4);have hal:∀d m,(d,m)∈dh 0 s->d<1000:=λd m hd=>by simpa using fz.1 c3 (d,m) hd
  have hlz:∀(j:Nat)(o:aR),(s.zipIdx.map λp=>(⟨p.1,(vn bs i s.length).getD p.2 []⟩:aR))[j]?=some o->s[j]?=some o.o/\o.bef=(vn bs i s.length).getD j []:=λj o hj=>by
   simp only[ky,List.getElem?_zipIdx,Option.map_map,dV,Function.comp]at hj;obtain⟨io,h1,rfl⟩:=hj;exact⟨h1,by simp⟩
  have hun:Un (dh 0 s) (λm=>0<=m) (get (kills ((dh 0 s).map (·.1)) st).env) (ak (kills ((dh 0 s).map (·.1)) st).heap):=(λd m hdm _=>qo _ st d (.inr (iD.2 ⟨(d,m),hdm,rfl⟩)))
  have hpl:∀(j:Nat)(o:aR),(s.zipIdx.map λp=>(⟨p.1,(vn bs i s.length).getD p.2 []⟩:aR))[j]?=some o->(fg o.o.op=true->(o.o.dst.getD 0,0+j)∈dh 0 s)/\(∀m∈o.bef,m<0+j)/\bV o.o.op=true:=(λj o hj=>by
   obtain⟨h1,h2⟩:=hlz j o hj;obtain⟨oo,h3,h4⟩:=hopi j o.o h1;have hjl:=(jp.1 h1).1;refine⟨λha=>(uK s 0 _ _).2 ⟨j,o.o,h1,ha,rfl,by omega⟩,λm hm=>?_,fz.1 c5 o.o (vD h1)⟩;rw[h2,hrel j hjl]at hm;have:=hO.bef_lt (i+j) oo h3 _ hm;omega)
  have trace:∃(items:List jU)(s':St),KK .nrm ⟨dels dr s'.env,s'.heap⟩/\T P items (get (kills ((dh 0 s).map (·.1)) st).env) (ak (kills ((dh 0 s).map (·.1)) st).heap) (get s'.env) (ak s'.heap)/\EF (dh 0 s) [] items/\items.map jU.i=List.range' 0 (s.zipIdx.map λp=>(⟨p.1,(vn bs i s.length).getD p.2 []⟩:aR)).length/\items.map (λt=>(⟨t.o,t.bef⟩:aR))=s.zipIdx.map λp=>(⟨p.1,(vn bs i s.length).getD p.2 []⟩:aR):=by
   rcases hic with rfl|⟨_,_,_,hcc,rfl⟩
   .simp only[jD]at hi;exact JF hone _ 0 [] _ _ hi hun (λy hy=>by cases hy) hpl
   .cases hcc;simp only[jD]at hi;exact Ho hone _ _ _ hi hun hpl
  obtain⟨items,s',hK,hT,hH,hidx,hmap⟩:=trace;obtain⟨bl,hk⟩:=c_.kills ((dh 0 s).map (·.1)) hst;have hilen:items.length=s.length:=by
   have:=congrArg List.length hmap;simp at this;omega
  have hitem:∀(j:Nat)(t:jU),items[j]?=some t->t.i=j/\s[j]?=some t.o/\t.bef=(vn bs i s.length).getD j []:=λj t hj=>by
   have h1:(items.map jU.i)[j]?=some t.i:=by simp[hj]
   rw[hidx]at h1;have h2:(items.map λt=>(⟨t.o,t.bef⟩:aR))[j]?=some ⟨t.o,t.bef⟩:=by simp[hj]
   rw[hmap]at h2;obtain⟨h3,h4⟩:=hlz j _ h2;refine⟨?_,h3,h4⟩
   rw[List.getElem?_range' (by
    have:=(jp.1 h1).1;simpa using this)]at h1
   simp at h1;omega
  have hmem:∀t∈items,t.i<s.length/\items[t.i]?=some t:=λt ht=>by
   obtain⟨j,hj⟩:=List.getElem?_of_mem ht;have:=(hitem j t hj).1;subst this;exact⟨by rw[<-hilen];exact(jp.1 hj).1,hj⟩
  obtain⟨hp1,hp2⟩:=CR hH;refine OY (Q:=Q) hn hone hal hO i r.length (λj=>i+s.length<=j/\j<ops.size) (λlisted' a' w' bl' h1 h2 h3=>hnext _ a' w' listed' hK (c_.dels _ ⟨bl',h3⟩) h1 (λj hj=>by rw[h2 j hj];exact⟨λh=>h.1,λh=>⟨h,hj⟩⟩)) s.length items listed _ _ a w bl hilen hsz hk hT ?_ (λj hj=>?_) (λj hz t ht=>?_) (qp hO hsz hl) (λt ht=>?_) ?_
  .intro d m hdm _;exact qo _ st d (.inr (iD.2 ⟨(d,m),hdm,rfl⟩))
  .rw[hl j hj];constructor
   .intro hij;rcases kz j (i+s.length)with h1|h1
    .have hj':j-i<items.length:=by omega
     exact .inl ⟨items[j-i],na hj',by rw[(hitem (j-i) _ (m_ hj')).1];omega⟩
    .exact .inr ⟨h1,hj⟩
   .rintro(⟨t,ht,h1⟩|h1)<;>omega
  .exact hcut' j hz.1 hz.2 _ (by have:=(hmem t ht).1;omega)
  .obtain⟨h1,h2⟩:=hmem t ht;obtain⟨_,h3,h4⟩:=hitem t.i t h2;obtain⟨oo,h5,h6⟩:=hopi t.i t.o h3;exact⟨oo,h5,h6,λd hd=>by rw[h4,hrel t.i h1]at hd;exact hd,fz.1 c5 t.o (vD h3),λha=>(uK s 0 _ _).2 ⟨t.i,t.o,h3,ha,rfl,by omega⟩,(hp1 t ht).2.2⟩
  .refine List.pairwise_iff_getElem.2 λi' j hi' hj hij=>?_;have e1:=hitem i' _ (m_ hi');have e2:=hitem j _ (m_ hj);refine⟨by rw[e1.1,e2.1];exact hij,?_⟩;rcases List.pairwise_iff_getElem.1 hp2 i' j hi' hj hij with h1|h1
   .exact .inl h1
   .by_cases hb:items[i'].i∈items[j].bef
    .exact .inl hb
    .refine .inr ⟨?_,h1⟩;have hap:=fz.1 (fz.1 c2 j (List.mem_range.2 (by omega))) i' (List.mem_range.2 hij);simp only[e1.2.1,e2.2.1,pz,Nb,eQ,cE]at hap;rw[e1.1,e2.2.2]at hb;rcases hap with hap|⟨hap1,hap2⟩
     .exact absurd hap hb
     .refine⟨λd hd=>?_,λd hd=>?_⟩
      .rw[hd]at hap1;simp only[cE,sz,decide_eq_false_iff_not,bne_iff_ne]at hap1;exact⟨hap1.1,hap1.2⟩
      .rw[hd]at hap2;simpa using hap2
 unfold O5 at hc;split at hc
 .exact one _ rfl (by cases hc;rfl)
 .exact many hc
end
def FW{ic x y:bR}(h:dB ic = .seq x y):∃x' y',dB x'=x/\dB y'=y/\(ic = .seq x' y'\/ic = .cut x' y'):=by
 cases ic<;>simp only[dB]at h<;>first|(cases h;done)|skip
 .rename_i x' y';cases h;exact⟨x',y',rfl,rfl,.inl rfl⟩
 .rename_i x' y';cases h;exact⟨x',y',rfl,rfl,.inr rfl⟩
def LD{ic x y:bR}{v:IV}(h:dB ic = .cond v x y):∃x' y',dB x'=x/\dB y'=y/\ic = .cond v x' y':=by
 cases ic<;>simp only[dB]at h<;>first|(cases h;done)|skip
 rename_i x' y';cases h;exact⟨x',y',rfl,rfl,rfl⟩
def Js{ic x:bR}{id:Nat}(h:dB ic = .block id x):∃x',dB x'=x/\ic = .block id x':=by
 cases ic<;>simp only[dB]at h<;>first|(cases h;done)|skip
 rename_i x';cases h;exact⟨x',rfl,rfl⟩
def LE{ic x:bR}(h:dB ic = .loop x):∃x',dB x'=x/\ic = .loop x':=by
 cases ic<;>simp only[dB]at h<;>first|(cases h;done)|skip
 rename_i x';cases h;exact⟨x',rfl,rfl⟩
section
variable{ops:Array Oper}{bs:List (List Nat)}{L:List bF}{Q:Exit->Act->World->Prop}
def Cy{i:Nat}{s:List bF}{dr:List Nat}{ic:bR}(hc:O5 bs i s dr=some ic):(∃ops dr,ic = .reg ops dr)\/∃ops al dr,ic = .draw ops al dr:=by
 unfold O5 at hc;split at hc
 .cases hc;exact .inl ⟨_,_,rfl⟩
 .unfold B5 at hc;split at hc
  .cases hc;exact .inr ⟨_,_,_,rfl⟩
  .cases hc
def ML(hn:c.n=n)(hO:nS ops bs)(hL:v6 P n ops ops.toList=some L){dr:List Nat}{K:IX->St->Prop} :
  ∀(t:List (Nat×List bF))(i:Nat)(l:List bF)(ic0 ic:bR)(st:St)(a:Act)(w:World)(listed:Array Bool),Lk bs ops.size i l t->L.drop i=l->FI bs dr t=some ic0->dB ic=ic0->jD P ic st K->c_ c st a w ->
   listed.size=ops.size->(∀j,j<ops.size->(listed.getD j true=false↔i<=j))->wpAny P .any ops (LQ c K) l.length listed a w:=by
 intro t
 induction t with
 | nil =>
  intro i l ic0 ic st a w listed hok hd hc he hi hst hsz hl;obtain rfl:l=[]:=hok;simp only[FI,de]at hc;subst hc;rw[ji he (.inl ⟨_,_,rfl⟩)]at hi;simp only[jD,jZ]at hi;obtain⟨hlen,_⟩:=uP hL;simp only[qz]at hlen;have hsize:ops.size<=i:=by
   have:=congrArg List.length hd;simp only[jJ,hlen,aC]at this;omega
  refine⟨List.eq_nil_iff_forall_not_mem.2 λj hj=>?_,⟨_,hi,c_.dels _ hst⟩⟩;obtain⟨h1,h2,_⟩:=jz.1 hj;have:=(hl j h1).1 h2;omega
 | cons p t ih =>
  intro i l ic0 ic st a w listed hok hd hc he hi hst hsz hl;obtain⟨k,s⟩:=p;obtain⟨rfl,hne,r,rfl,hok',hcut⟩:=hok;rw[aJ];cases t with
  | nil =>
   obtain rfl:r=[]:=hok';simp only[FI]at hc;have he':=FV he (Cy hc);refine AG (Q:=LQ c K) hn hO hL hd hne hc he' hi hst hsz hl (λh=>absurd rfl h) (λst' a' w' listed' h1 h2 h3 h4=>?_);obtain⟨hlen,_⟩:=uP hL;simp only[qz]at hlen;have hsize:ops.size<=k+s.length:=by
    have:=congrArg List.length hd;simp only[jJ,hlen,aJ,aC]at this;omega
   refine⟨List.eq_nil_iff_forall_not_mem.2 λj hj=>?_,⟨_,h1,h2⟩⟩;obtain⟨g1,g2,_⟩:=jz.1 hj;have:=(h4 j g1).1 g2;omega
  | cons q t =>
   simp only[FI]at hc;split at hc
   case h_2=>cases hc
   rename_i x y hx hy;cases hc;obtain⟨x',y',e1,e2,e3⟩:=FW he;have e4:=FV e1 (Cy hx);have hd':L.drop (k+s.length)=r:=by rw[<-Ev,hd,List.drop_left]
   rcases e3 with rfl|rfl
   .refine AG (Q:=LQ c K) hn hO hL hd hne hx e4 hi hst hsz hl (λ_=>hcut (by simp)) (λst' a' w' listed' h1 h2 h3 h4=>?_);exact ih (k+s.length) r y y' st' a' w' listed' hok' hd' hy e2 h1 h2 h3 h4
   .refine AG (Q:=LQ c K) hn hO hL hd hne hx e4 hi hst hsz hl (λ_=>hcut (by simp)) (λst' a' w' listed' h1 h2 h3 h4=>?_);obtain⟨s'',hwk,hk⟩:=h1;exact ih (k+s.length) r y y' s'' a' w' listed' hok' hd' hy e2 hk (hwk _ _ _ h2) h3 h4
end
def LA{ops:Array Oper}{dr:List Nat->List Nat}{ic0 ic:bR}{id:Nat}{s:St}{K:IX->St->Prop}{a:Act}{w:World}(hm:P.follows .mixedOrders=true)(hc:Np P n ops dr=some ic0)(he:dB ic=ic0)(hn:c.n=n)(hi:jD P ic s K)(hs:c_ c s a w) :
  (Code.region id ops true).wp P (LQ c K) a w:=by
 unfold Np at hc;split at hc
 .cases hc
 rename_i l hl;split at hc
 case isFalse=>cases hc
 rename_i c1;obtain⟨hlen,_⟩:=uP hl;simp only[qz]at hlen;refine wp_region_any hm ?_;obtain⟨bl,hs⟩:=hs;have h1:=ML (K:=K) hn (Mh c1) hl (KU (RE ops.toList []) 0 l).1 0 l ic0 ic s a {w with drawn:=w.drawn+1} (Array.replicate ops.size false) (Ov _ ops.size l 0 (by omega)).1 rfl hc he hi ⟨bl,hs.world rfl rfl rfl⟩ (by simp) (λj hj=>by simp[tR,hj]);rw[hlen]at h1;exact h1
def Lx(hm:P.follows .mixedOrders=true)(hn:c.n=n){sh:List (List Nat)}:∀(x:Code)(ic0:bR),comp P n sh x=some ic0->∀(ic:bR),dB ic=ic0->∀(s:St)(K:IX->St->Prop)(a:Act)(w:World),jD P ic s K->c_ c s a w->x.wp P (LQ c K) a w:=by
 intro x
 induction x with
 | skip=>intro ic0 hc ic he s K a w hi hs;simp only[comp,de]at hc;subst hc;rw[ji he (by simp)]at hi;exact wp_skip ⟨s,hi,hs⟩
 | ret=>intro ic0 hc ic he s K a w hi hs;simp only[comp,de]at hc;subst hc;rw[ji he (by simp)]at hi;exact wp_ret ⟨s,hi,hs⟩
 | exit id=>intro ic0 hc ic he s K a w hi hs;simp only[comp,de]at hc;subst hc;rw[ji he (by simp)]at hi;exact wp_exit ⟨s,hi,hs⟩
 | label l=>intro ic0 hc ic he s K a w hi hs;simp only[comp,de]at hc;subst hc;rw[ji he (by simp)]at hi;exact wp_label ⟨s,hi,hs⟩
 | seq x y ihx ihy =>
  intro ic0 hc ic he s K a w hi hs;simp only[comp]at hc;split at hc
  case h_2=>cases hc
  rename_i ix iy h1 h2;cases hc;obtain⟨x',y',e1,e2,e3⟩:=FW he;rcases e3 with rfl|rfl
  .refine wp_seq (Code.wp_mono (λe a' w' hq=>?_) (ihx ix h1 x' e1 s _ a w hi hs));cases e with
   | normal=>obtain⟨s',hk,hs'⟩:=hq;exact ihy iy h2 y' e2 s' K a' w' hk hs'
   | _=>exact hq
  .refine wp_seq (Code.wp_mono (λe a' w' hq=>?_) (ihx ix h1 x' e1 s _ a w hi hs));cases e with
   | normal=>obtain⟨s',⟨s'',hwk,hk⟩,hs'⟩:=hq;exact ihy iy h2 y' e2 s'' K a' w' hk (hwk _ _ _ hs')
   | _=>exact hq
 | cond v x y ihx ihy =>
  intro ic0 hc ic he s K a w hi hs;simp only[comp]at hc;split at hc
  case h_2=>cases hc
  rename_i iv ix iy h0 h1 h2;cases hc;obtain⟨x',y',e1,e2,rfl⟩:=LD he;simp only[jD]at hi;split at hi
  case h_2=>exact hi.elim
  rename_i b hv;obtain⟨bl,hsb⟩:=hs;have hvr:=a_ hsb h0;rw[hv]at hvr;have href:∀q,b=q->c_ c (refine iv q s) a w:=λq hq=>by
   cases iv with
   | c y=>exact⟨bl,hsb⟩
   | s k=>exact⟨bl,hsb.congr (λj=>by rw[show refine (.s k) q s=s.put (some k) (.bool q) from rfl,xL hv hq]) (λj=>rfl)⟩
  refine wp_cond hvr.bool ?_;cases b with
  | true=>exact ihx ix h1 x' e1 _ K a w (hi.1 rfl) (href true rfl)
  | false=>exact ihy iy h2 y' e2 _ K a w (hi.2 rfl) (href false rfl)
 | block id x ih =>
  intro ic0 hc ic he s K a w hi hs;simp only[comp,dV]at hc;obtain⟨ix,h1,rfl⟩:=hc;obtain⟨x',e1,rfl⟩:=Js he;refine wp_block (Code.wp_mono (λe a' w' hq=>?_) (ih ix h1 x' e1 s _ a w hi hs));cases e with
  | exit j =>
   obtain⟨s',hk,hs'⟩:=hq;simp only at hk;simp only[Exit.inBlock];split
   .rename_i hj;rw[aF hj]at hk;exact⟨s',hk,hs'⟩
   .rename_i hj;rw[au hj]at hk;exact⟨s',hk,hs'⟩
  | _=>exact hq
 | loop x ih =>
  intro ic0 hc ic he s K a w hi hs;simp only[comp,dV]at hc;obtain⟨ix,h1,rfl⟩:=hc;obtain⟨x',e1,rfl⟩:=LE he;obtain⟨I,⟨m,s0,h0,hwk⟩,hstep⟩:=hi;refine Qw (λm a w=>∃s,I m s/\c_ c s a w) ⟨m,s0,h0,hwk _ _ _ hs⟩ (λm a w ⟨s,hI,hs⟩=>?_);refine Code.wp_mono (λe a' w' hq=>?_) (ih ix h1 x' e1 s _ a w (hstep m s hI) hs);cases e with
  | normal =>
   obtain⟨s',⟨m',s'',h2,h3,h4⟩,hs'⟩:=hq;exact⟨m',h2,s'',h3,h4 _ _ _ hs'⟩
  | _=>exact hq
 | scope x ih =>
  intro ic0 hc ic he s K a w hi hs;simp only[comp]at hc;refine wp_scope_straight (Code.wp_mono (λe a' w' hq=>?_) (ih ic0 hc ic he s K a w hi hs));cases e<;>exact hq
 | region id ops d =>
  intro ic0 hc ic he s K a w hi hs;cases d with
  | true =>
   simp only[comp]at hc;exact LA hm hc he hn hi hs
  | false =>
   simp only[comp]at hc;split at hc
   case h_2=>cases hc
   rename_i l hl;cases hc;rw[ji he (.inl ⟨_,_,rfl⟩)]at hi;simp only[jD]at hi;exact wp_region_list (CZ hn _ ops.toList l hl s _ a w hi hs (λs' a' w' hk hs'=>⟨_,hk,c_.dels _ hs'⟩))
 | rangeFunc f ps as b=>intro ic0 hc;simp[comp]at hc
 | goto l=>intro ic0 hc;simp[comp]at hc
 | refuse y=>intro ic0 hc;simp[comp]at hc
end
def Kt:AV->Bool
 | .any=>false
 | .tup _=>false
 | _=>true
def NL(s:St):lS->Option AV
 | .tmp k=>if Kt (get s.env k)then some (get s.env k)else none
 | .cell k n=>match uJ n (get s.env k) (ak s.heap)with
  | some x=>if Kt x then some x else none
  | none=>none
def JK(s:St):List lS->Option (List AV)
 | []=>some []
 | x::r=>match NL s x,JK s r with
  | some y,some l=>some (y::l)
  | _,_=>none
def q_(l:List lS)(s:St):Option AV :=
 match JK s l with
 | some [x]=>some x
 | some l=>some (.tup l)
 | none=>none
def mQ:Nat->List AV->List (Nat×AV)
 | _,[]=>[]
 | i,x::r=>(i,x)::mQ (i+1) r
def A4(E:List (Nat×AV)):∀(l:List AV)(i k:Nat),get (mQ i l++E) k=if i<=k then(match l[k-i]? with|some x=>x|none=>get E k)else get E k
 | [],i,k=>by simp[mQ]
 | x::r,i,k=>by
  simp only[mQ,k7,get];by_cases h:i=k
  .subst h;simp
  .rw[au h,A4 E r (i+1) k];by_cases h2:i+1<=k
   .rw[aF h2,aF (by omega),show k-i=(k-(i+1))+1 by omega,IN]
   .rw[au h2];by_cases h3:i<=k
    .omega
    .rw[au h3]
def NE:∀{l:List (Nat×AV)}{k:Nat},get l k = .any\/(k,get l k)∈l
 | [],k=>.inl rfl
 | (j,x)::r,k=>by
  simp only[get];split
  .rename_i h;subst h;exact .inr (by simp)
  .rcases NE (l:=r) (k:=k)with h|h
   .exact .inl h
   .exact .inr (by simp[h])
section
variable{P:Program}[bO P]{c:vE}[CT c P]{bl:Nat->Option Nat}{a:Act}{w:World}{s:St}
def XT{M:Nat->Prop}{v:Value}{x:AV}(hx:Kt x=true)(hv:bu bl M w v x):ff bl M w v x:=by
 cases x<;>first|(simp[Kt]at hx;done)|exact hv
def rv1(tmps:Array Value):ResultVar->Sem Value
 | .tmp t=>Pure.pure (tmps.getD t undef)
 | .cell q t=>do loadVar t (<-asAddr (tmps.getD q undef))
def Mv(fn:Func)(tmps:Array Value):results fn tmps=(do let vs <-fn.results.mapM (rv1 tmps);Pure.pure (if h:vs.size=1 then vs[0]else .tuple vs)):=by
 unfold results;congr 1
def C0(hs:aP c bl (get s.env) (ak s.heap) a w):∀(rv:List ResultVar)(l:List lS),z7 P rv=some l->∀(xs:List AV),JK s l=some xs ->
  ∃vs:List Value,(rv.mapM (rv1 a.tmps)).run P w = .ok vs w/\bg (ff bl (bK bl c.MF (ak s.heap)) w) vs xs
 | [],l,hc,xs,hx=>by
  simp only[z7,de]at hc;subst hc;simp only[JK,de]at hx;subst hx;exact⟨[],by simp,trivial⟩
 | .tmp t::r,l,hc,xs,hx=>by
  simp only[z7]at hc;split at hc
  case isFalse=>cases hc
  rename_i hlo;simp only[dV]at hc;obtain⟨l',h1,rfl⟩:=hc;simp only[JK]at hx;split at hx
  case h_2=>cases hx
  rename_i y l2 h2 h3;cases hx;simp only[NL]at h2;split at h2
  case isFalse=>cases h2
  rename_i hok;cases h2;obtain⟨vs,h4,h5⟩:=C0 hs r l' h1 l2 h3;refine⟨a.tmps.getD t undef::vs,?_,XT hok (by rw[<-KZ hlo];exact hs.env t),h5⟩;simp only[List.mapM_cons,rv1,mB,vA,ow,h4]
 | .cell q t::r,l,hc,xs,hx=>by
  simp only[z7]at hc;split at hc
  case h_2=>cases hc
  rename_i n l' h0 h1;split at hc
  case isFalse=>cases hc
  rename_i hlo;cases hc;simp only[JK]at hx;split at hx
  case h_2=>cases hx
  rename_i y l2 h2 h3;cases hx;simp only[NL]at h2;split at h2
  case h_2=>cases h2
  rename_i y' hld;split at h2
  case isFalse=>cases h2
  rename_i hok;cases h2;obtain⟨vs,h4,h5⟩:=C0 hs r l' h1 l2 h3;have hq:=hs.env q;rw[KZ hlo]at hq;have fin:∀{b off:Nat}{cells:List AV},a.tmps.getD q undef = .pointer (some ⟨b,off,none⟩)->eW bl (bK bl c.MF (ak s.heap)) w b off cells->yD n cells=some y ->
    ∃vs:List Value,((ResultVar.cell q t::r).mapM (rv1 a.tmps)).run P w = .ok vs w/\bg (ff bl (bK bl c.MF (ak s.heap)) w) vs (y::l2):=λhv hcl hl=>by
   obtain⟨u,h6,h7⟩:=qe h0 hcl hl;refine⟨u::vs,?_,h7,h5⟩;simp only[List.mapM_cons,rv1,mB,hv,asAddr,vA,ow,h6,h4]
  cases hval:get s.env q<;>rw[hval]at hld hq<;>simp only[uJ]at hld<;>try cases hld
  case ip cells =>
   obtain⟨b,off,h6,h7⟩:=eW.of_ip hq;exact fin h6 h7 hld
  case mp id st row off =>
   split at hld
   case h_2=>cases hld
   rename_i ob hob;split at hld
   case isFalse=>cases hld
   rename_i hst;split at hld
   case h_2=>cases hld
   rename_i rr hr;obtain⟨b,hb,h6⟩:=hq.mp;rw[<-hst]at h6;exact fin h6 ((eW.of_obj hs hob hb hr).drop off) hld
def SZ{fn:Func}{l:List lS}{r:AV}(hs:aP c bl (get s.env) (ak s.heap) a w)(hc:z7 P fn.results.toList=some l)(hr:q_ l s=some r) :
  ∃v,(results fn a.tmps).run P w = .ok v w/\bu bl (bK bl c.MF (ak s.heap)) w v r:=by
 unfold q_ at hr;cases hx:JK s l with
 | none=>rw[hx]at hr;cases hr
 | some xs =>
  obtain⟨vs,h1,h2⟩:=C0 hs _ l hc xs hx;have hrun:∀v,v=(if h:vs.toArray.size=1 then vs.toArray[0]else .tuple vs.toArray)->(results fn a.tmps).run P w = .ok v w:=λv hv=>by
   subst hv;rw[Mv,mB,Array.mapM_eq_mapM_toList,Sem.run_map,h1];rfl
  rw[hx]at hr;cases xs with
  | nil =>
   cases hr;cases vs with
   | cons=>exact h2.elim
   | nil=>exact⟨_,hrun _ rfl,[],by simp,trivial⟩
  | cons x xs =>
   cases xs with
   | nil =>
    cases hr;cases vs with
    | nil=>exact h2.elim
    | cons v vs =>
     cases vs with
     | cons=>exact h2.2.elim
     | nil=>exact⟨v,hrun _ (by simp),h2.1.toV⟩
   | cons y ys =>
    cases hr;have hl:=h2.length;refine⟨_,hrun _ rfl,vs,?_,h2⟩;rw[dif_neg (by simp[hl])]
def mD(l:List lS)(Post:AV->List (Nat×ao)->Prop)(e:IX)(s:St):Prop :=
 (∀j,e≠.ext j)/\∃s1,Wk s s1/\∃fs r σ',q_ l (frzs fs s1)=some r/\(∀i o,ak σ' i=some o->ak (frzs fs s1).heap i=some o)/\tU r σ'/\Post r σ'
def LL{f:FuncId}{F:aB}{ic:bR}{args:List AV}{σ:List (Nat×ao)}{Post:AV->List (Nat×ao)->Prop}(E:List (Nat×AV))(hE:∀p∈E,p∈(bO.T P).env)(hm:P.follows .mixedOrders=true)(hf:ny P f=some F)(hic:dB ic=F.body)(hlen:args.length=F.np)
  (hi:jD P ic ⟨mQ 0 args++E,σ⟩ (mD F.res Post)):aX P f args σ (λid=>1000<=id/\id<2000) Post:=by
 unfold ny at hf;split at hf
 .cases hf
 rename_i fn hfn;split at hf
 .cases hf
 rename_i body hbody;split at hf
 case h_2=>cases hf
 rename_i b rs hb hrs;split at hf
 case isFalse=>cases hf
 rename_i hnp;cases hf;intro bl MF w cargs hTH hTW hH hMF hargs;have hal:cargs.length=fn.params.size+fn.nfree:=by rw[hargs.length];exact hlen
 let c:vE:=⟨w,bl,rQ bl σ,MF,fn.ntmps,bO.T P,hTH,λb hb ⟨id,o,h1,h2⟩=>hTW b hb (.inr ⟨id,o,h1,h2⟩),λb hb hm=>hTW b hb (.inl hm),hnp.2⟩
 haveI:CT c P:=⟨rfl⟩
 have hs:aP c bl (get (mQ 0 args++E)) (ak σ) ⟨cargs.toArray++Array.replicate (fn.ntmps-cargs.toArray.size) undef,[]⟩ w:=by
  refine⟨rfl,by simp[c];omega,λk=>?_,hH,qA.refl _ _,λid o q h1 h2=>.inr ⟨id,o,h1,h2⟩,λ_ _ _=>rfl,hMF⟩;rw[A4];simp only[cQ,br,Nat.sub_zero];cases hk:args[k]? with
  | none =>
   simp only;rcases NE (l:=E) (k:=k)with hg|hg
   .rw[hg];trivial
   .obtain⟨h1,h2⟩:=(bO.T P).rel w (bK bl MF (ak σ)) hTH hTW _ (hE _ hg);have e:tv ⟨cargs.toArray++Array.replicate (fn.ntmps-cargs.toArray.size) undef,[]⟩ k = .pointer (some ⟨k-1000000,0,none⟩):=au (by simp only at h1;omega);rw[e];exact h2.toC.toG.toV
  | some x =>
   obtain⟨v,hv,hr⟩:=hargs.get hk;have hlt:=(jp.1 hv).1;have:(cargs.toArray++Array.replicate (fn.ntmps-cargs.toArray.size) undef).getD k undef=v:=by
    rw[tR,Array.getElem?_append_left (by simpa using hlt)];simp[hv]
   rw[KZ (by have:=hnp.2;omega),this];exact hr
 refine calls_of_wp hfn hbody ?_;refine Code.wp_mono (λe a' w' hq=>?_) (Lx (c:=c) hm rfl body b hb ic hic ⟨mQ 0 args++E,σ⟩ _ _ w hi ⟨bl,hs⟩);have fin:∀{s':St}{ex:IX},mD rs Post ex s'->c_ c s' a' w'->a'.defers=[]/\∃v,(results fn a'.tmps).run P w' = .ok v w'/\∃u r σ' bl',Ending.returned v = .returned u/\Post r σ'/\tU r σ'/\Li bl' (bK bl' MF (ak σ')) MF w' (ak σ')/\bu bl' (bK bl' MF (ak σ')) w' u r /\
   qA (rQ bl σ) w w'/\(∀id o b,ak σ' id=some o->bl' id=some b->w.heap.size<=b\/rQ bl σ b)/\∀id,(1000<=id/\id<2000)->bl' id=bl id:=by
  rintro s0 ex ⟨_,s',hwk,fs,r,σ',h1,h2,h3,h4⟩ hs0;obtain⟨bl',hs2⟩:=c_.frzs fs (hwk c a' w' hs0);obtain⟨v,hv1,hv2⟩:=SZ hs2 hrs h1;have hs3:aP c bl' (get (frzs fs s').env) (ak σ') a' w':=hs2.weaken (λ_=>.inr rfl) h2;refine⟨hs2.defers,v,hv1,v,r,σ',bl',rfl,h4,h3,hs3.heap,?_,hs3.step,hs3.own,λid hid=>hs3.stab id hid.1 hid.2⟩;refine hv2.tr ⟨λq hq _=>⟨λhm2=>hq ?_,rfl⟩,λ_ c1 _ fr hb=>⟨c1,fr,hb,rfl⟩⟩ (λ_ _=>rfl);rcases hm2 with hm2|⟨id,o,h5,h6⟩
  .exact .inl hm2
  .exact .inr ⟨id,o,h2 id o h5,h6⟩
 cases e with
 | normal=>obtain⟨s',hk,hs'⟩:=hq;exact fin hk hs'
 | ret=>obtain⟨s',hk,hs'⟩:=hq;exact fin hk hs'
 | exit id=>obtain⟨s',hk,hs'⟩:=hq;exact absurd rfl (hk.1 id)
 | _=>exact hq.elim
def jy{f:FuncId}{F:aB}{ic:bR}{args:List AV}{σ:List (Nat×ao)}{Post:AV->List (Nat×ao)->Prop}(hm:P.follows .mixedOrders=true)(hf:ny P f=some F)(hic:dB ic=F.body)(hlen:args.length=F.np)
  (hi:jD P ic ⟨mQ 0 args,σ⟩ (mD F.res Post)):aX P f args σ (λid=>1000<=id/\id<2000) Post :=
 LL [] (λp hp=>by cases hp) hm hf hic hlen (by rw[gh];exact hi)
def aX.mono{f:FuncId}{args:List AV}{σ:List (Nat×ao)}{Sb Sb':Nat->Prop}{Post Post':AV->List (Nat×ao)->Prop}(h:aX P f args σ Sb Post)(hs:∀id,Sb' id->Sb id)(hp:∀r σ',Post r σ'->Post' r σ'):aX P f args σ Sb' Post' :=
 λbl MF w cargs t1 t2 h1 h2 h3=>(h bl MF w cargs t1 t2 h1 h2 h3).mono λ_ _ ⟨v,r,σ',bl',q1,q2,q3,q4,q5,q6,q7,q8⟩=>⟨v,r,σ',bl',q1,hp _ _ q2,q3,q4,q5,q6,q7,λid hid=>q8 id (hs id hid)⟩
def AS(l:List lS)(r:AV)(e:IX)(s:St):Prop:=(∀j,e≠.ext j)/\∃s1,Wk s s1/\∃fs,q_ l (frzs fs s1)=some r/\aO r=[]
def LP{f:FuncId}(hs:decide (P.funcs.size<=4000000)=true)(h:bP P f=true):f<4000000:=by
 have h1:f<P.funcs.size:=by
  unfold bP at h;by_cases q:f<P.funcs.size
  .exact q
  .rw[GR (Nat.le_of_not_lt q)]at h;cases h
 have h2:=of_decide_eq_true hs;exact Es h1 h2
def JL:∀(x:bR)(s:St)(K K':IX->St->Prop),(∀e s,K e s->K' e s)->jD P x s K->jD P x s K':=by
 have icallm0:∀{f:FuncId}{args:List AV}{d:Option Nat}{s:St}{K K':St->Prop},(∀s,K s->K' s)->Ai P f args d s K->Ai P f args d s K':=λ{f args d s K K'} hK h=>by
  rcases h with⟨args',r,b,h1,h2,h3,h4,h5⟩|⟨σ0,Sb,Post,ks,h1,h2,h3,h4⟩
  .exact .inl ⟨args',r,b,h1,h2,h3,h4,hK _ h5⟩
  .exact .inr ⟨σ0,Sb,Post,ks,h1,h2,h3,λr σ' hp=>by obtain⟨s',q1,q2,q3⟩:=h4 r σ' hp;exact⟨s',q1,q2,hK _ q3⟩⟩
 have icallm:∀{f:FuncId}{args:List AV}{d:Option Nat}{s:St}{K K':St->Prop},(∀s,K s->K' s)->cR P f args d s K->cR P f args d s K':=λ{f args d s K K'} hK h=>h.imp (icallm0 hK) λh=>h.imp (λ⟨fs,h⟩=>⟨fs,icallm0 hK h⟩) λ⟨s',a',hw,h⟩=>⟨s',a',hw,icallm0 hK h⟩
 have iopm:∀{o:bF}{s:St}{K K':St->Prop},(∀s,K s->K' s)->nY P o s K->nY P o s K':=λ{o s K K'} hK h=>by
  unfold nY at h⊢;split at h
  .exact icallm hK h
  .split at h
   .split at h
    .rename_i hlt;rw[aF hlt];exact⟨h.1,icallm hK h.2⟩
    .rename_i hlt;rw[au hlt];exact⟨h.1,icallm hK h.2⟩
   .exact h
  .refine⟨h.1,?_⟩;have h2:=h.2;split at h2
   .exact hK _ h2
   .obtain⟨s',hw,h3⟩:=h2;refine⟨s',hw,?_⟩;unfold Kv at h3⊢;split at h3
    .exact hK _ h3
    .exact h3.elim
  .split at h
   .exact⟨hK _ h.1,hK _ h.2⟩
   .split at h
    .exact hK _ h
    .exact h.elim
  .by_cases ha:fg o.op=true
   .rw[aF ha]at h⊢;refine⟨h.1,?_⟩;have h2:=h.2;split at h2
    .exact hK _ h2
    .exact h2.elim
   .rw[au ha]at h⊢;split at h
    .exact hK _ h
    .exact h
 have iopsm:∀(l:List bF)(s:St)(K K':St->Prop),(∀s,K s->K' s)->jZ P l s K->jZ P l s K':=by
  intro l
  induction l with
  | nil=>intro s K K' hK h;exact hK s h
  | cons o r ih =>
   intro s K K' hK h;unfold jZ at h⊢;split at h
   .exact iopm (λs' hs'=>ih s' K K' hK hs') h
   .split at h
    .exact⟨λht=>iopm (λs' hs'=>ih s' K K' hK hs') (h.1 ht),λht=>ih _ K K' hK (h.2 ht)⟩
    .exact ih _ K K' hK h
    .exact h
 have idopm:∀{al:List (Nat×Nat)}{i:Nat}{o:aR}{hist:List HI}{s:St}{K K':List HI->St->Prop},(∀x s,K x s->K' x s)->i5 P al i o hist s K->i5 P al i o hist s K':=λ{al i o hist s K K'} hK h=>by
  unfold i5 at h⊢;split at h
  .rcases h with⟨args',r,b,h1,h2,h3,h4,h5,h6,h7,h8⟩|⟨k,ob,ob',Sb,r,h1,h2,h3,h4,h5,h6,h7,h8,h9⟩
   .exact .inl ⟨args',r,b,h1,h2,h3,h4,h5,h6,h7,hK _ _ h8⟩
   .exact .inr ⟨k,ob,ob',Sb,r,h1,h2,h3,h4,h5,h6,h7,h8,hK _ _ h9⟩
  .exact h
  .rcases h with h|⟨rows,h1,h2,h3,h4,h5⟩
   .refine .inl ?_;split at h
    .exact⟨h.1,h.2.1,h.2.2.1,hK _ _ h.2.2.2⟩
    .exact h
   .exact .inr ⟨rows,h1,h2,h3,h4,hK _ _ h5⟩
  .split at h
   .exact⟨h.1,h.2.1,h.2.2.1,hK _ _ h.2.2.2⟩
   .exact h
 have idopsHm:∀{al:List (Nat×Nat)}(l:List aR)(i:Nat)(hist:List HI)(s:St)(K K':List HI->St->Prop),(∀x s,K x s->K' x s)->fk P al i l hist s K->fk P al i l hist s K':=by
  intro al l
  induction l with
  | nil=>intro i hist s K K' hK h;exact hK _ s h
  | cons o r ih =>
   intro i hist s K K' hK h;unfold fk at h⊢;split at h
   .exact idopm (λx s' hs'=>ih (i+1) x s' K K' hK hs') h
   .split at h
    .exact⟨λht=>idopm (λx s' hs'=>ih (i+1) x s' K K' hK hs') (h.1 ht),λht=>ih _ _ _ K K' hK (h.2 ht)⟩
    .exact ih _ _ _ K K' hK h
    .exact h
 have idopsm:∀{al:List (Nat×Nat)}(l:List aR)(i:Nat)(hist:List HI)(s:St)(K K':St->Prop),(∀s,K s->K' s)->nC P al i l hist s K->nC P al i l hist s K':=λl i hist s K K' hK h=>idopsHm l i hist s _ _ (λ_ s h=>hK s h) h;intro x
 induction x with
 | skip=>intro s K K' hK h;exact hK _ _ h
 | ret=>intro s K K' hK h;exact hK _ _ h
 | exit id=>intro s K K' hK h;exact hK _ _ h
 | seq x y ihx ihy =>
  intro s K K' hK h;refine ihx s _ _ (λe s' hh=>?_) h;cases e with
  | nrm=>exact ihy s' K K' hK hh
  | _=>exact hK _ _ hh
 | cut x y ihx ihy =>
  intro s K K' hK h;refine ihx s _ _ (λe s' hh=>?_) h;cases e with
  | nrm=>obtain⟨s'',h1,h2⟩:=hh;exact⟨s'',h1,ihy s'' K K' hK h2⟩
  | _=>exact hK _ _ hh
 | cond v t e iht ihe =>
  intro s K K' hK h;unfold jD at h⊢;split at h
  .exact⟨λhb=>iht _ K K' hK (h.1 hb),λhb=>ihe _ K K' hK (h.2 hb)⟩
  .exact h
 | block id x ih =>
  intro s K K' hK h;refine ih s _ _ (λe s' hh=>?_) h;cases e with
  | ext j =>
   simp only at hh⊢;split
   .rename_i hj;rw[aF hj]at hh;exact hK _ _ hh
   .rename_i hj;rw[au hj]at hh;exact hK _ _ hh
  | _=>exact hK _ _ hh
 | loop x ih =>
  intro s K K' hK h;obtain⟨I,h0,h1⟩:=h;refine⟨I,h0,λn s hI=>ih s _ _ (λe s' hh=>?_) (h1 n s hI)⟩;cases e with
  | nrm=>exact hh
  | _=>exact hK _ _ hh
 | reg ops dr=>intro s K K' hK h;exact iopsm ops s _ _ (λs' hs'=>hK _ _ hs') h
 | draw ops al dr=>intro s K K' hK h;exact idopsm ops 0 [] _ _ _ (λs' hs'=>hK _ _ hs') h
 | wild ops al dr =>
  intro s K K' hK h;refine idopsHm _ _ _ _ _ _ (λhist s1 hh=>?_) h;split at hh
  .unfold K5 at hh⊢;split at hh
   .refine⟨hh.1,?_⟩;replace hh:=hh.2;split at hh
    .exact⟨hh.1,hh.2.1,hh.2.2.1,hh.2.2.2.1,hK _ _ hh.2.2.2.2⟩
    .exact hh
   .exact hh
  .exact hh
 | free ops al dr =>
  intro s K K' hK h;have conjm:∀{α:Type}{F F':α->Prop}(l:List α),(∀x,F x->F' x)->Jk l F->Jk l F':=by
   intro α F F' l hF
   induction l with
   | nil=>exact λ_=>trivial
   | cons x l ih =>
    cases l with
    | nil=>exact hF x
    | cons y l=>exact λh=>⟨hF x h.1,ih h.2⟩
  have frm:∀(f:Nat)(R:List (Nat×aR))(s:St)(K K':St->Prop),(∀s,K s->K' s)->Gh P f R s K->Gh P f R s K':=by
   intro f
   induction f with
   | zero=>intro R s K K' hK h;exact hK s h
   | succ f ih=>intro R s K K' hK h;exact conjm _ (λt ht=>iopsm _ _ _ _ (λs' hs'=>ih _ s' K K' hK hs') ht) h
  exact frm _ _ _ _ _ (λs' hs'=>hK _ _ hs') h
def Ml{f:FuncId}{F:aB}{ic:bR}{args:List AV}{r:AV}(hm:P.follows .mixedOrders=true)(hf:ny P f=some F)(hic:dB ic=F.body)(hlen:args.length=F.np)(hi:jD P ic ⟨mQ 0 args,[]⟩ (AS F.res r)):ac P f args r:=by
 refine(jy (Post:=λr' σ'=>r'=r/\σ'=[]) hm hf hic hlen (JL _ _ _ _ (λe s ⟨h1,s1,hw,fs,h2,h3⟩=>⟨h1,s1,hw,fs,r,[],h2,λi o hi=>by simp[ak]at hi,⟨(λi hi=>by rw[h3]at hi;cases hi),(λp hp=>by cases hp)⟩,rfl,rfl⟩) hi)).mono (λ_ h=>h.elim) (λ_ _ h=>h)
end
def mv(d j:Nat):bF:=⟨some d,.mov (.s j),none⟩
def mt(d j k:Nat):bF:=⟨some d,.mov (.s j),some (k,true)⟩
def mf(d j k:Nat):bF:=⟨some d,.mov (.s j),some (k,false)⟩
def o0(d:Nat)(o:nR):bF:=⟨some d,o,none⟩
def ot(d k:Nat)(o:nR):bF:=⟨some d,o,some (k,true)⟩
def oF(d k:Nat)(o:nR):bF:=⟨some d,o,some (k,false)⟩
def aig(d j:Nat):mv d j =⟨some d,.mov (.s j),none⟩:=rfl
def aif(d j k:Nat):mt d j k =⟨some d,.mov (.s j),some (k,true)⟩:=rfl
def aic(d j k:Nat):mf d j k =⟨some d,.mov (.s j),some (k,false)⟩:=rfl
def ain(d:Nat)(o:nR):o0 d o =⟨some d,o,none⟩:=rfl
def ais(d k:Nat)(o:nR):ot d k o =⟨some d,o,some (k,true)⟩:=rfl
def aio(d k:Nat)(o:nR):oF d k o =⟨some d,o,some (k,false)⟩:=rfl
attribute[go_sem] aig aif aic ain ais aio
section
variable{P:Program}{n:Nat}{sh:List (List Nat)}
def aeW:comp P n sh .skip=some .skip:=rfl
def ahH:comp P n sh .ret=some .ret:=rfl
def aeU{i:Nat}:comp P n sh (.exit i)=some (.exit i):=rfl
def ahG{i:Nat}:comp P n sh (.label i)=some .skip:=rfl
def ahI{x y:Code}{a b:bR}(h:comp P n sh x=some a)(k:comp P n sh y=some b):comp P n sh (.seq x y)=some (.seq a b):=by simp only[comp,h,k]
def aeT{c:Operand}{x y:Code}{c':IV}{a b:bR}(hc:cV c=some c')(h:comp P n sh x=some a)(k:comp P n sh y=some b):comp P n sh (.cond c x y)=some (.cond c' a b):=by simp only[comp,hc,h,k]
def aaQ{i:Nat}{x:Code}{a:bR}(h:comp P n sh x=some a):comp P n sh (.block i x)=some (.block i a):=by simp only[comp,h,kZ]
def aeV{x:Code}{a:bR}(h:comp P n sh x=some a):comp P n sh (.loop x)=some (.loop a):=by simp only[comp,h,kZ]
def aaS{x:Code}{a:bR}(h:comp P n sh x=some a):comp P n sh (.scope x)=some a:=by simp only[comp,h]
end
def eFn(P:Program)(f:FuncId):Bool:=match P.funcs[f]? with
 | some fn=>fn.body.isNone&&fn.name == "internal/bytealg.IndexByteString" && (Extern.findNext fn).isNone
 | none=>false
def aaR(P:Program)(f:FuncId)(args:List Operand):RG P f args=if eFn P f then(match args with
  | [x,y]=>match cV x,cV y with
   | some x,some y=>some (.sib x y)
   | _,_=>none
  | _=>none)else none:=by
 unfold RG eFn;cases P.funcs[f]? with
 | none=>rfl
 | some fn =>
  dsimp only;by_cases h:fn.body.isNone=true∧fn.name = "internal/bytealg.IndexByteString"∧(Extern.findNext fn).isNone=true
  .rw[aF h,aF (by simp[h])];rfl
  .rw[au h,au];simp only[cE,beq_iff_eq,and_assoc];exact h
section
variable{T:Tables}{F G:Array Func}
def JP:∀(m:Nat),Program.alikeButTags ⟨T,F⟩ m=Program.alikeButTags ⟨T,G⟩ m
 | 0=>rfl
 | m+1=>by
  funext t u;unfold Program.alikeButTags;rw[JP m]
def Tj(t:TypeId):Program.stoodInHeld ⟨T,F⟩ t=Program.stoodInHeld ⟨T,G⟩ t:=by
 unfold Program.stoodInHeld Program.stoodInAs;rw[JP];rfl
def JQ:∀(m:Nat),Program.eqGuardType ⟨T,F⟩ m=Program.eqGuardType ⟨T,G⟩ m
 | 0=>rfl
 | m+1=>by
  funext t;unfold Program.eqGuardType;rw[JQ m];rfl
def NU:∀(m:Nat),rJ ⟨T,F⟩ m=rJ ⟨T,G⟩ m
 | 0=>rfl
 | m+1=>by
  funext t;unfold rJ;rw[NU m,Tj t (F:=F) (G:=G)];rfl
def abS(t:TypeId)(op:BinOp)(x y:IV):Jg ⟨T,F⟩ t op x y=Jg ⟨T,G⟩ t op x y:=by
 unfold Jg;rw[NU 20,JQ];rfl
variable(hB:∀f,bP ⟨T,G⟩ f=true->bP ⟨T,F⟩ f=true)(hE:∀f,eFn ⟨T,G⟩ f=false)
include hB hE
def XB{c:Call}{x:nR}(h:AX ⟨T,G⟩ c=some x):AX ⟨T,F⟩ c=some x:=by
 obtain⟨callee,args,ats⟩:=c;cases callee with
 | value v=>cases v with
  | func f =>
   unfold AX at h⊢;dsimp only at h⊢;by_cases hb:bP ⟨T,G⟩ f=true
   .rw[aF hb]at h;rw[aF (hB f hb)];exact h
   .rw[au hb,aaR,au (by rw[hE];simp)]at h;cases h
  | _=>exact h
 | builtin b=>cases b<;>exact h
 | _=>exact h
def afv{o:Op}{x:nR}(h:kD ⟨T,G⟩ o=some x):kD ⟨T,F⟩ o=some x:=by
 cases o
 case call c=>exact XB hB hE h
 case binOp op t x y u =>
  unfold kD at h⊢;simp only[abS (F:=F) (G:=G)];exact h
 case next x b=>cases b<;>first|(simp only[kD,reduceCtorEq]at h;done)|(simp only[kD]at h⊢;exact h)
 case makeFunc f x y=>cases f<;>first|(simp only[kD,reduceCtorEq]at h;done)|(simp only[kD]at h⊢;exact h)
 case makeMap t n=>cases n<;>first|(simp only[kD,reduceCtorEq]at h;done)|(simp only[kD]at h⊢;exact h)
 all_goals first|(simp only[kD,reduceCtorEq]at h;done)|(simp only[kD]at h⊢;with_reducible exact h)|(simp only[kD]at h⊢;with_unfolding_all exact h)
def XD{n:Nat}{ops:Array Oper}{o:Oper}{x:bF}(h:pU ⟨T,G⟩ n ops o=some x):pU ⟨T,F⟩ n ops o=some x:=by
 unfold pU at h⊢;cases hg:kD ⟨T,G⟩ o.op with
 | none=>rw[hg]at h;cases h
 | some op=>rw[hg]at h;rw[afv hB hE hg];exact h
def Ti(n:Nat)(ops:Array Oper):∀{l:List Oper}{x:List bF},v6 ⟨T,G⟩ n ops l=some x->v6 ⟨T,F⟩ n ops l=some x
 | [],x,h=>h
 | o::r,x,h=>by
  rw[v6]at h⊢;cases h1:pU ⟨T,G⟩ n ops o with
  | none=>rw[h1]at h;cases h
  | some y=>cases h2:v6 ⟨T,G⟩ n ops r with
   | none=>rw[h1,h2]at h;cases h
   | some ys=>rw[h1,h2]at h;rw[XD hB hE h1,Ti n ops h2];exact h
def XC(n:Nat)(sh:List (List Nat)):∀{c:Code}{x:bR},comp ⟨T,G⟩ n sh c=some x->comp ⟨T,F⟩ n sh c=some x:=by
 intro c
 induction c with
 | seq x y hx hy =>
  intro z h;simp only[comp]at h⊢;cases h1:comp ⟨T,G⟩ n sh x with
  | none=>rw[h1]at h;cases h
  | some a=>cases h2:comp ⟨T,G⟩ n sh y with
   | none=>rw[h1,h2]at h;cases h
   | some b=>rw[h1,h2]at h;rw[hx h1,hy h2];exact h
 | cond c x y hx hy =>
  intro z h;simp only[comp]at h⊢;cases h1:comp ⟨T,G⟩ n sh x with
  | none=>rw[h1]at h;cases hc:cV c<;>rw[hc]at h<;>cases h
  | some a=>cases h2:comp ⟨T,G⟩ n sh y with
   | none=>rw[h1,h2]at h;cases hc:cV c<;>rw[hc]at h<;>cases h
   | some b=>rw[h1,h2]at h;rw[hx h1,hy h2];exact h
 | block i x hx =>
  intro z h;simp only[comp]at h⊢;cases h1:comp ⟨T,G⟩ n sh x with
  | none=>rw[h1]at h;cases h
  | some a=>rw[h1]at h;rw[hx h1];exact h
 | loop x hx =>
  intro z h;simp only[comp]at h⊢;cases h1:comp ⟨T,G⟩ n sh x with
  | none=>rw[h1]at h;cases h
  | some a=>rw[h1]at h;rw[hx h1];exact h
 | scope x hx=>intro z h;simp only[comp]at h⊢;exact hx h
 | region i ops d =>
  intro z h;cases d
  all_goals
   simp only[comp,Np]at h⊢;cases h1:v6 ⟨T,G⟩ n ops ops.toList with
   | none=>rw[h1]at h;cases h
   | some a=>rw[h1]at h;rw[Ti hB hE n ops h1];exact h
 | _=>intro z h;exact h
def ahF{f:FuncId}{fn:Func}{body:Code}{n np:Nat}{sh:List (List Nat)}{rs:List lS}{b:bR}(h1:F[f]?=some fn)(h2:fn.body=some body)(h3:fn.ntmps=n)(h4:fn.params.size+fn.nfree=np)
  (h5:vp fn.results.toList::eC body=sh) (h6:z7 ⟨T,G⟩ fn.results.toList=some rs) (h7:comp ⟨T,G⟩ n sh body=some b) (h8:np<=n/\n<=1000000):ny ⟨T,F⟩ f=some ⟨n,np,rs,b⟩:=by
 subst h3 h4 h5;have e6:∀l,z7 ⟨T,F⟩ l=z7 ⟨T,G⟩ l:=λl=>by
  induction l with
  | nil=>rfl
  | cons x l ih=>cases x<;>simp only[z7,ih]<;>rfl
 unfold ny;simp only[h1,h2,e6,h6,XC hB hE _ _ h7];rw[aF h8]
end
def Bo(b:Option Code)(s:String):Func:={(default:Func)with body:=b,name:=s}
