import Derived.Test.YthhglklcaodfmaaGreatDoorCQa
import Derived.Orders
import Derived.Still
import Derived.Scope
set_option linter.all false
set_option maxRecDepth 20000
set_option maxHeartbeats 400000
namespace Go.Mw
structure St where
 env:List (Nat×AV)
 heap:List (Nat×au)
def get:List (Nat×AV)->Nat->AV
 | [],_=>.any
 | (k,x)::r,n=>if k=n then x else get r n
def ak:List (Nat×au)->Nat->Option au
 | [],_=>none
 | (k,x)::r,n=>if k=n then some x else ak r n
def del:List (Nat×AV)->Nat->List (Nat×AV)
 | [],_=>[]
 | (k,x)::r,n=>if k=n then del r n else(k,x)::del r n
def oD:List (Nat×au)->Nat->List (Nat×au)
 | [],_=>[]
 | (k,x)::r,n=>if k=n then oD r n else(k,x)::oD r n
def tc(i:Nat):List (Nat×AV)->List (Nat×AV)
 | []=>[]
 | (k,x)::r=>(k,jU i x)::tc i r
def td(i:Nat):List (Nat×au)->List (Nat×au)
 | []=>[]
 | (k,x)::r=>(k,ff i x)::td i r
def St.put(s:St)(d:Option Nat)(x:AV):St :=
 match d with
 | some d=>⟨(d,x)::s.env,s.heap⟩
 | none=>s
def St.kill(s:St)(i:Nat):St:=⟨tc i s.env,td i (oD s.heap i)⟩
def St.eff(s:St)(e:bD):St :=
 match e with
 | .no=>s
 | .put i o=>⟨s.env,(i,o)::oD s.heap i⟩
 | .new i o=>⟨s.env,(i,o)::oD s.heap i⟩
 | .reb i o=>⟨tc i s.env,(i,o)::td i (oD s.heap i)⟩
def kills:List Nat->St->St
 | [],s=>s
 | i::r,s=>kills r (s.kill i)
def dels:List Nat->List (Nat×AV)->List (Nat×AV)
 | [],e=>e
 | d::r,e=>dels r (del e d)
def q_(n:Nat):∀(l:List (Nat×AV))(k:Nat),get (del l n) k=if k=n then .any else get l k
 | [],k=>by simp[del,get]
 | (j,x)::r,k=>by
  simp only[del];by_cases h:j=n
  .rw[az h,q_ n r k];subst h;by_cases h2:k=j
   .simp[h2]
   .simp[get,h2,Ne.symm h2]
  .rw[an h];simp only[get];by_cases h2:j=k
   .subst h2;simp[h]
   .simp only[h2,ij,q_ n r k]
def fe(n:Nat):∀(l:List (Nat×au))(k:Nat),ak (oD l n) k=if k=n then none else ak l k
 | [],k=>by simp[oD,ak]
 | (j,x)::r,k=>by
  simp only[oD];by_cases h:j=n
  .rw[az h,fe n r k];subst h;by_cases h2:k=j
   .simp[h2]
   .simp[ak,h2,Ne.symm h2]
  .rw[an h];simp only[ak];by_cases h2:j=k
   .subst h2;simp[h]
   .simp only[h2,ij,fe n r k]
def jD(i:Nat):∀(l:List (Nat×AV))(k:Nat),get (tc i l) k=jU i (get l k)
 | [],k=>by simp[tc,get,jU,mV,mG,mC,mP]
 | (j,x)::r,k=>by simp only[tc,get,jD i r k];split<;>rfl
def gw(i:Nat):∀(l:List (Nat×au))(k:Nat),ak (td i l) k=(ak l k).map (ff i)
 | [],k=>by simp[td,ak]
 | (j,x)::r,k=>by simp only[td,ak,gw i r k];split<;>rfl
def dd(c:sV)(s:St)(a:Act)(w:World):Prop:=∃bl,aT c bl (get s.env) (ak s.heap) a w
section
variable{P:Program}[bE P]{c:sV}[CT c P]{a:Act}{w:World}{s:St}
def dd.kill(h:dd c s a w)(i:Nat):dd c (s.kill i) a w:=by
 obtain⟨bl,h⟩:=h;exact⟨bl,(h.kill i).congr (λk=>by simp[St.kill,jD]) (λj=>by simp only[St.kill,gw,fe];split<;>simp)⟩
def dd.kills:∀(l:List Nat){s:St},dd c s a w->dd c (Mw.kills l s) a w
 | [],_,h=>h
 | i::r,_,h=>dd.kills r (h.kill i)
def gR(s:St)(i:Nat):ak (s.kill i).heap i=none/\dG i (get (s.kill i).env) (ak (s.kill i).heap):=by
 refine⟨by simp[St.kill,gw,fe],?_⟩;have:=pH i (get s.env) (ak s.heap);refine⟨λk=>by simpa[St.kill,jD]using this.1 k,λj o hj=>this.2 j o ?_⟩;rw[<-hj];simp only[St.kill,gw,fe];split<;>simp
def dd.del(h:dd c s a w)(d:Nat):dd c ⟨del s.env d,s.heap⟩ a w:=by
 obtain⟨bl,h⟩:=h;exact⟨bl,h.weaken (λk=>by rw[q_];split<;>simp) (λ_ _ h=>h)⟩
def dd.dels:∀(l:List Nat){e:List (Nat×AV)}{hp:List (Nat×au)},dd c ⟨e,hp⟩ a w->dd c ⟨Mw.dels l e,hp⟩ a w
 | [],_,_,h=>h
 | d::r,_,_,h=>dd.dels r (h.del d)
def zU{bl:Nat->Option Nat}{g:Nat->AV}{h:Nat->Option au}(hs:aT c bl g h a w)(d:Option Nat)(hd:∀k,d=some k->k<c.n){v:Value}{x:AV}(hv:bv bl (bQ bl c.MF h) w v x)
  (hg:∀k,get s.env k=g k) (hh:∀j,ak s.heap j=h j):dd c (s.put d x) (a.put d v) w:=by
 cases d with
 | none=>exact⟨bl,by simpa[St.put,Act.put]using hs.congr hg hh⟩
 | some d =>
  refine⟨bl,(hs.put (hd d rfl) hv).congr (λk=>?_) (λj=>by simpa[St.put]using hh j)⟩;simp only[St.put,get,fA,q_];by_cases hk:k=d
  .subst hk;simp
  .simp[hk,Ne.symm hk,hg]
def Mp(h:dd c s a w)(d:Option Nat)(hd:∀k,d=some k->k<c.n)(_:Unit):dd c (s.put d (.tup [])) (a.put d undef) w:=by
 obtain⟨bl,h⟩:=h;exact zU h d hd (x:=.tup []) ⟨[],rfl,trivial⟩ (λ_=>rfl) (λ_=>rfl)
def O7(s:St)(e:bD)(k:Nat):get (s.eff e).env k=e.env (get s.env) k:=by
 cases e<;>simp[St.eff,bD.env,jD]
def KE(s:St)(e:bD)(j:Nat):ak (s.eff e).heap j=e.hp (ak s.heap) j:=by
 cases e with
 | no=>rfl
 | put i o=>simp only[St.eff,bD.hp,ak,fA,fe];by_cases h:j=i<;>simp[h,eq_comm]
 | new i o=>simp only[St.eff,bD.hp,ak,fA,fe];by_cases h:j=i<;>simp[h,eq_comm]
 | reb i o=>simp only[St.eff,bD.hp,ak,fA,gw,fe];by_cases h:j=i<;>simp[h,eq_comm]
end
def jc:AV->List Nat
 | .ms id _ _ _=>[id]
 | .mp id _ _ _=>[id]
 | .mm id _=>[id]
 | _=>[]
def iu:AV->List Nat
 | .fn _ caps=>caps.flatMap jc
 | x=>jc x
def kx:AV->List Nat
 | .agg cells=>cells.flatMap iu
 | x=>iu x
def aV:AV->List Nat
 | .tup vs=>vs.flatMap kx
 | x=>kx x
def fG(o:au):List Nat:=if o.isRec then o.rows.flatMap (λr=>r.flatMap iu)else[]
def VB{i:Nat}{x:AV}(h:mP i x=true):i∈jc x:=by cases x<;>simp_all [mP,jc]
def ya{i:Nat}{x:AV}(h:mC i x=true):i∈iu x:=by
 cases x with
 | fn f caps =>
  simp only[mC,vp]at h;obtain⟨y,h1,h2⟩:=h;simp only[iu,pK];exact⟨y,h1,VB h2⟩
 | _ =>
  simp only[mC]at h;simpa only[iu]using VB h
def VA{i:Nat}{x:AV}(h:mG i x=true):i∈kx x:=by
 cases x with
 | agg cells =>
  simp only[mG,vp]at h;obtain⟨y,h1,h2⟩:=h;simp only[kx,pK];exact⟨y,h1,ya h2⟩
 | _ =>
  simp only[mG]at h;simpa only[kx]using ya h
def py{i:Nat}{x:AV}(h:mV i x=true):i∈aV x:=by
 cases x with
 | tup vs =>
  simp only[mV,vp]at h;obtain⟨y,h1,h2⟩:=h;simp only[aV,pK];exact⟨y,h1,VA h2⟩
 | _ =>
  simp only[mV]at h;simpa only[aV]using VA h
def tj(r:AV)(σ:List (Nat×au)):Prop:=(∀i∈aV r,(ak σ i).isSome=true)/\∀p∈σ,∀i∈fG p.2,(ak σ i).isSome=true
def oY(bl:Nat->Option Nat)(σ:List (Nat×au))(b:Nat):Prop:=∃id o,ak σ id=some o/\bl id=some b
def bA(P:Program)[bE P](f:FuncId)(args:List AV)(σ:List (Nat×au))(Sb:Nat->Prop)(Post:AV->List (Nat×au)->Prop):Prop :=
 ∀(bl:Nat->Option Nat)(MF:Nat->Prop)(w:World)(cargs:List Value),
  (bE.T P).H w->(∀b,(bE.T P).B b->¬bQ bl MF (ak σ) b)->MO bl (bQ bl MF (ak σ)) MF w (ak σ)->(∀b,MF b->b<w.heap.size)->bg (bv bl (bQ bl MF (ak σ)) w) cargs args ->
  Calls P f cargs.toArray w λe w'=>∃v r σ' bl',e = .returned v/\Post r σ'/\tj r σ'/\MO bl' (bQ bl' MF (ak σ')) MF w' (ak σ')/\bv bl' (bQ bl' MF (ak σ')) w' v r /\
   jb (oY bl σ) w w'/\(∀id o b,ak σ' id=some o->bl' id=some b->w.heap.size<=b\/oY bl σ b)/\∀id,Sb id->bl' id=bl id
def aj(P:Program)[bE P](f:FuncId)(args:List AV)(r:AV):Prop:=bA P f args [] (λ_=>False) λr' σ'=>r'=r/\σ'=[]
def xp:AV->Bool
 | .bool _=>true
 | .int ..=>true
 | .str _=>true
 | .nl=>true
 | .np=>true
 | .nf=>true
 | .sl _ []=>true
 | _=>false
def zm:AV->Bool
 | .agg cells=>cells.all xp
 | x=>xp x
def oM:AV->Bool
 | .tup vs=>vs.all zm
 | x=>zm x
def X1(b:Bool)(h:Nat->Option au)(x x':AV):Prop :=
 x=x'\/(x = .nl/\∃st,x' = .sl st []) \/
 (b=true/\∃id st off len o,x = .ms id st off len/\h id=some o/\o.isRec=false/\o.st=st/\off+len<=o.rows.length/\x' = .sl st ((o.rows.drop off).take len))
section
variable{P:Program}[bE P]{c:sV}[CT c P]{bl:Nat->Option Nat}{g:Nat->AV}{h:Nat->Option au}{a:Act}{w w':World}{M M':Nat->Prop}
def Hk{bl':Nat->Option Nat}{v:Value}{x:AV}(hf:xp x=true)(hv:cJ bl M w v x):cJ bl' M' w' v x:=by
 cases x<;>simp[xp]at hf<;>simp only[cJ,fB]at hv⊢
 case sl st rows =>
  cases rows with
  | cons r l=>simp[xp]at hf
  | nil =>
   cases hv with
   | nls=>exact .nls _
   | sl0=>exact .sl0 _ _ _
   | sl b off cap st c t fr rows vs=>exact .sl0 _ _ _
 all_goals (cases hv;constructor)
def Hl{bl':Nat->Option Nat}{v:Value}{x:AV}(hf:zm x=true)(hv:gq bl M w v x):gq bl' M' w' v x:=by
 cases x with
 | agg cells =>
  obtain⟨cs,h1,h2⟩:=hv;exact⟨cs,h1,h2.mono λ_ y hy hr=>Hk (ii.1 hf y hy) hr⟩
 | _ =>
  simp only[zm]at hf;simp only[gq]at hv⊢;exact Hk hf hv
def Hm{bl':Nat->Option Nat}{v:Value}{x:AV}(hf:oM x=true)(hv:bv bl M w v x):bv bl' M' w' v x:=by
 cases x with
 | any=>trivial
 | tup vs =>
  obtain⟨cs,h1,h2⟩:=hv;exact⟨cs,h1,h2.mono λ_ y hy hr=>Hl (ii.1 hf y hy) hr⟩
 | _ =>
  simp only[oM]at hf;simp only[bv]at hv⊢;exact Hl hf hv
def aT.grow(s:aT c bl g h a w)(hst:jb (λ_=>False) w w'):aT c bl g h a w':=by
 have ht:Tr (bQ bl c.MF h) (bQ bl c.MF h) w w':=⟨λb hb hl=>⟨hb,hst.keep b hl (λh=>h)⟩,hst.shape⟩
 refine⟨s.defers,s.size,λk=>(s.env k).tr ht (λ_ _=>rfl),⟨λid o hi=>?_,s.heap.2⟩,s.step.trans hst (λ_ _ h=>h.elim),s.own,s.stab,s.mf⟩;rcases s.heap.1 id o hi with h1|⟨b,h1,⟨gk,c1,fr,h2,h3,h4,h5,h6,h7⟩|hsp⟩
 .exact .inl h1
 rotate_left
 .exact .inr ⟨b,h1,.inr (hsp.tr (hst.keep b hsp.rel.lt (λh=>h)))⟩
 .refine .inr ⟨b,h1,.inl ⟨gk,c1,fr,by rw[hst.keep b (bp h2) (λh=>h)];exact h2,h3,h4,h5,h6,λi j r x hr hx=>?_⟩⟩;obtain⟨v,hv1,hv2⟩:=h7 i j r x hr hx;exact⟨v,hv1,hv2.tr ht (λ_ _ _=>rfl)⟩
def ja(MF:Nat->Prop)(b:Nat):bQ bl MF (ak []) b↔MF b:=⟨λh=>by
 rcases h with h|⟨id,o,h,_⟩
 .exact h
 .simp[ak]at h,.inl⟩
def aT.tab(s:aT c bl g h a w):(bE.T P).H w:=by
 rw[<-CT.eq (c:=c) (P:=P)];exact c.T.stay c.w0 w c.tH λb hb=>s.step.keep b (c.T.low _ c.tH b hb) (c.tW b hb)
def aT.tabW(s:aT c bl g h a w)(b:Nat)(hb:(bE.T P).B b):¬bQ bl c.MF h b:=by
 rw[<-CT.eq (c:=c) (P:=P)]at hb;rintro(hm|⟨id,o,h1,h2⟩)
 .exact c.tM b hb hm
 rcases s.own id o b h1 h2 with h3|h3
 .exact absurd (c.T.low _ c.tH b hb) (by omega)
 .exact c.tW b hb h3
def HL(s:aT c bl g h a w){f:FuncId}{cargs:List Value}{args args':List AV}{r:AV}(hp:aj P f args' r)(ha:bg (bv bl (bQ bl c.MF h) w) cargs args)(hid:∀x∈args',aV x=[])(b:Bool)(hc:bg (X1 b h) args args')(hf:b=true->oM r=true) :
  Calls P f cargs.toArray w λe w'=>∃v,e = .returned v/\aT c bl g h a w'/\bv bl (bQ bl c.MF h) w' v r:=by
 let MF':Nat->Prop:=λq=>bQ bl c.MF h q/\(b=true->c.MF q)
 have hMF':∀q,MF' q->q<w.heap.size:=λq hq=>by
  rcases hq.1 with hm|⟨id,o,h1,h2⟩
  .exact HZ (s.mf q hm) s.step.size
  .rcases s.heap.1 id o h1 with hn|⟨b',g2,hO⟩
   .rw[hn.2.2]at h2;cases h2
   .rw[h2]at g2;cases g2;exact hO.lt
 have hargs:bg (bv (λ_=>none) (bQ (λ_=>none) MF' (ak [])) w) cargs args':=by
  have key:∀{cs:List Value}{as as':List AV},bg (bv bl (bQ bl c.MF h) w) cs as->bg (X1 b h) as as'->(∀x∈as',aV x=[])->bg (bv (λ_=>none) (bQ (λ_=>none) MF' (ak [])) w) cs as':=by
   intro cs
   induction cs with
   | nil =>
    intro as as' h1 h2 _;cases as with
    | cons=>exact h1.elim
    | nil=>cases as' with
     | cons=>exact h2.elim
     | nil=>trivial
   | cons v cs ih =>
    intro as as' h1 h2 h3;cases as with
    | nil=>exact h1.elim
    | cons x as =>
     cases as' with
     | nil=>exact h2.elim
     | cons x' as' =>
      refine⟨?_,ih h1.2 h2.2 (λy hy=>h3 y (by simp[hy]))⟩;have ht:Tr (bQ bl c.MF h) (bQ (λ_=>none) MF' (ak [])) w w:=⟨λq hq _=>⟨λhm=>hq ((ja MF' q).1 hm).1,rfl⟩,λ_ c1 _ fr hb=>⟨c1,fr,hb,rfl⟩⟩
      have hno:∀id,mV id x'=true->(none:Option Nat)=bl id:=λid hm=>by
       have:=py hm;rw[h3 x' (by simp)]at this;simp at this
      rcases h2.1 with he|⟨he,st,he'⟩|⟨hb,id,st,off,len,o,he,ho,hrec,hst,hfit,he'⟩
      .have h11:=h1.1;rw[he]at h11;exact h11.tr ht hno
      .rw[he'];have h11:=h1.1;rw[he]at h11;have:=h11.nl;rw[this];exact IRel.nls st
      .have h11:=h1.1;rw[he]at h11;rw[he'];have h4:fB bl (bQ bl c.MF h) w v (.ms id st off len):=h11;rcases s.heap.1 id o ho with hn|⟨bb,g2,hO⟩
       .have hlen:len=0:=by rw[hn.1]at hfit;simp at hfit;omega
        subst hlen;simp only[jK];rcases h4 with⟨e1,_⟩|⟨_,_,ad,cap,e1⟩|⟨b',cap,c1,t,fr,e1,_⟩
        .rw[e1];exact IRel.nls st
        .rw[e1];exact IRel.sl0 st ad cap
        .rw[hn.2.2]at e1;cases e1
       .have hnb:¬bQ (λ_=>none) MF' (ak []) bb:=λhm=>by
         have:=((ja MF' bb).1 hm).2 hb;exact hO.free this
        have:=DN (M':=bQ (λ_=>none) MF' (ak [])) ht hnb (.inr ⟨g2,hO⟩) hrec h4;simp only[qZ,dR,hst,true_and,hfit]at this;exact this
  exact key ha hc hid
 refine(hp (λ_=>none) MF' w cargs (aT.tab (P:=P) s) (λq hq hm=>aT.tabW (P:=P) s q hq ((ja MF' q).1 hm).1) ⟨λid o hi=>by simp[ak]at hi,λid id' o o' b hi=>by simp[ak]at hi⟩ hMF' hargs).mono λe w' hh=>?_;obtain⟨v,r',σ',bl',rfl,⟨rfl,rfl⟩,hcl,_,hv,hst,_,_⟩:=hh
 have hst':jb (λ_=>False) w w':=⟨hst.size,λq hq _=>hst.keep q hq (λhb=>by
  obtain⟨id,o,hi,_⟩:=hb;simp[ak]at hi),hst.shape,hst.os,hst.out⟩
 refine⟨v,rfl,s.grow hst',?_⟩;cases b with
 | true=>exact Hm (hf rfl) hv
 | false =>
  refine hv.tr ⟨λq hq hl=>⟨λhm=>hq ((ja MF' q).2 ⟨hm,λh=>by cases h⟩),rfl⟩,λ_ c1 _ fr hb=>⟨c1,fr,hb,rfl⟩⟩ (λid hm=>?_);have:=hcl.1 id (py hm);simp[ak]at this
end
def sT(ks:List Nat)(x:AV):AV:=if ks.any (λi=>mV i x)then .any else x
def B9(ks:List Nat)(x:AV):AV:=if ks.any (λi=>mC i x)then .any else x
def jn(ks:List Nat)(o:au):au:=if o.isRec then{o with rows:=o.rows.map (λr=>r.map (B9 ks))}else o
def NL(ks:List Nat)(σ0 σ':Nat->Option au)(h:Nat->Option au)(id:Nat):Option au :=
 match σ' id with
 | some o=>some o
 | none=>if(σ0 id).isSome then none else(h id).map (jn ks)
section
variable{P:Program}[bE P]{c:sV}[CT c P]{bl bl' bl2:Nat->Option Nat}{g:Nat->AV}{h:Nat->Option au}{a:Act}{w w':World}{M M':Nat->Prop}{ks:List Nat}
def RK{v:Value}{x:AV}(hv:bv bl M w v x)(ht:Tr M M' w w')(hb:∀id,id∉ks->bl2 id=bl id):bv bl2 M' w' v (sT ks x):=by
 unfold sT;split
 .trivial
 .rename_i hn;refine hv.tr ht (λid hm=>hb id (λhk=>hn ?_));exact vp.2 ⟨id,hk,hm⟩
def RJ{v:Value}{x:AV}(hv:cJ bl M w v x)(ht:Tr M M' w w')(hb:∀id,id∉ks->bl2 id=bl id):cJ bl2 M' w' v (B9 ks x):=by
 unfold B9;split
 .exact IRel.toC (.any v (cJ.one hv))
 .rename_i hn;refine hv.tr ht (λid hm=>hb id (λhk=>hn ?_));exact vp.2 ⟨id,hk,hm⟩
def LW(s:aT c bl g h a w){f:FuncId}{cargs:List Value}{args:List AV}{σ0:List (Nat×au)}{Sb:Nat->Prop}{Post:AV->List (Nat×au)->Prop}
  (hp:bA P f args σ0 Sb Post) (ha:bg (bv bl (bQ bl c.MF h) w) cargs args) (hσ:∀id o,ak σ0 id=some o->h id=some o) (ks:List Nat)
  (hks:∀r σ',Post r σ'->∀id,(ak σ' id).isSome=true->(Sb id/\(ak σ0 id).isSome=true)\/(id∈ks/\(id<1000\/2000<=id)/\((ak σ0 id).isSome=true\/h id=none))) :
  Calls P f cargs.toArray w λe w'=>∃v r σ' bl2,e = .returned v/\Post r σ'/\aT c bl2 (λk=>sT ks (g k)) (NL ks (ak σ0) (ak σ') h) a w'/\bv bl2 (bQ bl2 c.MF (NL ks (ak σ0) (ak σ') h)) w' v r:=by
 let MF':Nat->Prop:=λq=>c.MF q\/∃id o,h id=some o/\ak σ0 id=none/\bl id=some q
 have blk:∀{id o q},h id=some o->bl id=some q->pk bl (bQ bl c.MF h) c.MF w o q:=λ{id o q} h1 h2=>by
  rcases s.heap.1 id o h1 with hn|⟨b',g2,hO⟩
  .rw[hn.2.2]at h2;cases h2
  .rw[h2]at g2;cases g2;exact hO
 have hMF':∀q,MF' q->q<w.heap.size:=by
  rintro q (hq|⟨id,o,h1,_,h2⟩)
  .exact HZ (s.mf q hq) s.step.size
  .exact(blk h1 h2).lt
 have hmut:∀q,bQ bl MF' (ak σ0) q↔bQ bl c.MF h q:=λq=>by
  constructor
  .rintro((hq|⟨id,o,h1,_,h2⟩)|⟨id,o,h1,h2⟩)
   .exact .inl hq
   .exact .inr ⟨id,o,h1,h2⟩
   .exact .inr ⟨id,o,hσ id o h1,h2⟩
  .rintro(hq|⟨id,o,h1,h2⟩)
   .exact .inl (.inl hq)
   .cases h3:ak σ0 id with
    | none=>exact .inl (.inr ⟨id,o,h1,h3,h2⟩)
    | some o'=>exact .inr ⟨id,o',h3,h2⟩
 have ht0:=Tr.of_iff (w:=w) hmut;have hH:MO bl (bQ bl MF' (ak σ0)) MF' w (ak σ0):=by
  refine⟨λid o hi=>?_,λid id' o o' q h1 h2=>s.heap.2 id id' o o' q (hσ _ _ h1) (hσ _ _ h2)⟩;rcases s.heap.1 id o (hσ id o hi)with hn|⟨b',g2,⟨gk,c2,fr2,g3,g4,g5,g6,g7,g8⟩|hsp⟩
  .exact .inl hn
  rotate_left
  .refine .inr ⟨b',g2,.inr ⟨hsp.rows,hsp.isRec,?_,hsp.rel⟩⟩;rintro(hq|⟨id2,o2,h1,h3,h2⟩)
   .exact hsp.free hq
   .have:=s.heap.2 id2 id o2 o b' h1 (hσ id o hi) h2 g2;subst this;rw[hi]at h3;cases h3
  .refine .inr ⟨b',g2,.inl ⟨gk,c2,fr2,g3,g4,?_,g6,g7,λi j r x hr hx=>?_⟩⟩
   .rintro(hq|⟨id2,o2,h1,h3,h2⟩)
    .exact g5 hq
    .have:=s.heap.2 id2 id o2 o b' h1 (hσ id o hi) h2 g2;subst this;rw[hi]at h3;cases h3
   .obtain⟨v,hv1,hv2⟩:=g8 i j r x hr hx;exact⟨v,hv1,hv2.tr ht0 (λ_ _ _=>rfl)⟩
 refine(hp bl MF' w cargs (aT.tab (P:=P) s) (λq hq hm=>aT.tabW (P:=P) s q hq ((hmut q).1 hm)) hH hMF' (ha.mono λ_ _ _ hr=>hr.tr ht0 (λ_ _=>rfl))).mono λe w' hh=>?_;obtain⟨v,r,σ',bl1,rfl,hPost,hcl,hH',hv,hst,hown,hsb⟩:=hh;have hks':=hks r σ' hPost
 let B:Nat->Option Nat:=λid=>if(ak σ' id).isSome then bl1 id else bl id
 have B_in:∀id,(ak σ' id).isSome=true->B id=bl1 id:=λid hi=>by simp[B,hi]
 have B_out:∀id,ak σ' id=none->B id=bl id:=λid hi=>by simp[B,hi]
 have B_ks:∀id,id∉ks->B id=bl id:=λid hk=>by
  cases hi:ak σ' id with
  | none=>exact B_out id hi
  | some o =>
   rw[B_in id (by simp[hi])];rcases hks' id (by simp[hi])with⟨h1,_⟩|⟨h1,_⟩
   .exact hsb id h1
   .exact absurd h1 hk
 have mrg_out:∀{id o},NL ks (ak σ0) (ak σ') h id=some o->ak σ' id=none->∃o0,h id=some o0/\o=jn ks o0/\ak σ0 id=none:=λ{id o} hm hn=>by
  simp only[NL,hn]at hm;split at hm
  .cases hm
  .rename_i h0;simp only[eS]at hm;obtain⟨o0,h1,rfl⟩:=hm;exact⟨o0,h1,rfl,by simpa using h0⟩
 have σblk:∀{id o q},ak σ' id=some o->bl1 id=some q->pk bl1 (bQ bl1 MF' (ak σ')) MF' w' o q:=λ{id o q} h1 h2=>by
  rcases hH'.1 id o h1 with hn|⟨b',g2,hO⟩
  .rw[hn.2.2]at h2;cases h2
  .rw[h2]at g2;cases g2;exact hO
 have hmut2:∀q,bQ B c.MF (NL ks (ak σ0) (ak σ') h) q->bQ bl1 MF' (ak σ') q:=by
  rintro q (hq|⟨id,o,h1,h2⟩)
  .exact .inl (.inl hq)
  .cases hi:ak σ' id with
   | some o'=>rw[B_in id (by simp[hi])]at h2;exact .inr ⟨id,o',hi,h2⟩
   | none =>
    obtain⟨o0,h3,_,h4⟩:=mrg_out h1 hi;rw[B_out id hi]at h2;exact .inl (.inr ⟨id,o0,h3,h4,h2⟩)
 have hmut3:∀q,q<w.heap.size->bQ bl1 MF' (ak σ') q->bQ bl c.MF h q:=by
  rintro q hq ((hm|⟨id,o,h1,_,h2⟩)|⟨id,o,h1,h2⟩)
  .exact .inl hm
  .exact .inr ⟨id,o,h1,h2⟩
  .rcases hown id o q h1 h2 with h3|⟨id2,o2,h3,h4⟩
   .omega
   .exact .inr ⟨id2,o2,hσ _ _ h3,h4⟩
 have ht:Tr (bQ bl c.MF h) (bQ B c.MF (NL ks (ak σ0) (ak σ') h)) w w':=⟨λq hq hl=>⟨λhm=>hq (hmut3 q hl (hmut2 q hm)),hst.keep q hl (λhb=>hq (by
  obtain⟨id,o,h1,h2⟩:=hb;exact .inr ⟨id,o,hσ _ _ h1,h2⟩))⟩,hst.shape⟩
 have ht1:Tr (bQ bl1 MF' (ak σ')) (bQ B c.MF (NL ks (ak σ0) (ak σ') h)) w' w':=⟨λq hq _=>⟨λhm=>hq (hmut2 q hm),rfl⟩,λ_ c1 _ fr hb=>⟨c1,fr,hb,rfl⟩⟩
 have hcl1:∀id,mV id r=true->B id=bl1 id:=λid hm=>B_in id (hcl.1 id (py hm));have hmem:∀{σ:List (Nat×au)}{id:Nat}{o:au},ak σ id=some o->(id,o)∈σ:=by
  intro σ
  induction σ with
  | nil=>intro id o hi;simp[ak]at hi
  | cons p l ih =>
   intro id o hi;obtain⟨k,x⟩:=p;simp only[ak]at hi;split at hi
   .rename_i hk;cases hi;subst hk;simp
   .exact List.mem_cons_of_mem _ (ih hi)
 refine⟨v,r,σ',B,rfl,hPost,⟨s.defers,s.size,λk=>RK (s.env k) ht B_ks,⟨λid o hi=>?_,λid id' o o' q h1 h2 h3 h4=>?_⟩,?_,λid o q h1 h2=>?_,λid h1 h2=>?_,s.mf⟩,hv.tr ht1 hcl1⟩
 .cases hi':ak σ' id with
  | some o' =>
   have ho:o=o':=by simp only[NL,hi',dt]at hi;exact hi.symm
   subst ho;rcases hH'.1 id o hi' with hn|⟨b',g2,⟨gk,c2,fr2,g3,g4,g5,g6,g7,g8⟩|hsp⟩
   .exact .inl ⟨hn.1,hn.2.1,by rw[B_in id (by simp[hi'])];exact hn.2.2⟩
   rotate_left
   .exact .inr ⟨b',by rw[B_in id (by simp[hi'])];exact g2,.inr ⟨hsp.rows,hsp.isRec,λhm=>hsp.free (.inl hm),hsp.rel⟩⟩
   .refine .inr ⟨b',by rw[B_in id (by simp[hi'])];exact g2,.inl ⟨gk,c2,fr2,g3,g4,λhm=>g5 (.inl hm),g6,g7,λi j q x hr hx=>?_⟩⟩;obtain⟨u,hu1,hu2⟩:=g8 i j q x hr hx;refine⟨u,hu1,hu2.tr ht1 (λhrec id2 hm=>B_in id2 (hcl.2 (id,o) (hmem hi') id2 ?_))⟩;simp only[fG,hrec,dR,pK];exact⟨q,rO hr,x,rO hx,ya hm⟩
  | none =>
   obtain⟨o0,h1,rfl,h3⟩:=mrg_out hi hi';rcases s.heap.1 id o0 h1 with hn|⟨b',g2,⟨gk,c2,fr2,g3,g4,g5,g6,g7,g8⟩|hsp⟩
   .refine .inl ⟨?_,?_,by rw[B_out id hi'];exact hn.2.2⟩
    .simp[jn,hn.2.1,hn.1]
    .simp[jn,hn.2.1]
   rotate_left
   .have hkeep:w'.heap[b']? = w.heap[b']?:=hst.keep b' hsp.rel.lt (λhb=>by
     obtain⟨id2,o2,h4,h5⟩:=hb;have:=s.heap.2 id id2 o0 o2 b' h1 (hσ _ _ h4) g2 h5;subst this;rw[h3]at h4;cases h4)
    refine .inr ⟨b',by rw[B_out id hi'];exact g2,.inr ?_⟩;have:jn ks o0=o0:=by simp[jn,hsp.isRec]
    rw[this];exact hsp.tr hkeep
   .have hkeep:w'.heap[b']? = w.heap[b']?:=hst.keep b' (bp g3) (λhb=>by
     obtain⟨id2,o2,h4,h5⟩:=hb;have:=s.heap.2 id id2 o0 o2 b' h1 (hσ _ _ h4) g2 h5;subst this;rw[h3]at h4;cases h4)
    refine .inr ⟨b',by rw[B_out id hi'];exact g2,.inl ⟨by unfold jn;split<;>exact gk,c2,fr2,?_,g4,g5,?_,?_,?_⟩⟩
    .rw[hkeep,g3];unfold jn;split<;>rfl
    .intro i q hq;unfold jn at hq⊢;split at hq
     .simp only[iG,eS]at hq;obtain⟨q0,hq0,rfl⟩:=hq;rename_i hrec;simpa[hrec]using g6 i q0 hq0
     .rename_i hrec;simpa[hrec]using g6 i q hq
    .unfold jn;split<;>simpa using g7
    .intro i j q x hq hx;unfold jn at hq⊢;split at hq
     .rename_i hrec;simp only[iG,eS]at hq;obtain⟨q0,hq0,rfl⟩:=hq;simp only[iG,eS]at hx;obtain⟨x0,hx0,rfl⟩:=hx;obtain⟨u,hu1,hu2⟩:=g8 i j q0 x0 hq0 hx0;simp only[hrec,dR];rw[hrec]at hu2;exact⟨u,hu1,RJ hu2 ht B_ks⟩
     .rename_i hrec;obtain⟨u,hu1,hu2⟩:=g8 i j q x hq hx;have hrec':o0.isRec=false:=by simpa using hrec
      simp only[hrec',lD,ij];rw[hrec']at hu2;exact⟨u,hu1,IRel.tr hu2 ht.keep⟩
 .cases hi:ak σ' id with
  | some o1 =>
   rw[B_in id (by simp[hi])]at h3;cases hi2:ak σ' id' with
   | some o2 =>
    rw[B_in id' (by simp[hi2])]at h4;exact hH'.2 id id' o1 o2 q hi hi2 h3 h4
   | none =>
    rw[B_out id' hi2]at h4;obtain⟨o2,h5,_,h6⟩:=mrg_out h2 hi2;exact((σblk hi h3).free (.inr ⟨id',o2,h5,h6,h4⟩)).elim
  | none =>
   rw[B_out id hi]at h3;obtain⟨o1,h5,_,h6⟩:=mrg_out h1 hi;cases hi2:ak σ' id' with
   | some o2 =>
    rw[B_in id' (by simp[hi2])]at h4;exact((σblk hi2 h4).free (.inr ⟨id,o1,h5,h6,h3⟩)).elim
   | none =>
    rw[B_out id' hi2]at h4;obtain⟨o2,h7,_,h8⟩:=mrg_out h2 hi2;exact s.heap.2 id id' o1 o2 q h5 h7 h3 h4
 .refine s.step.trans hst (λq hq hb=>?_);obtain⟨id,o,h1,h2⟩:=hb;rcases s.own id o q (hσ _ _ h1) h2 with h3|h3
  .omega
  .exact h3
 .cases hi:ak σ' id with
  | some o1 =>
   rw[B_in id (by simp[hi])]at h2;rcases hown id o1 q hi h2 with h3|⟨id2,o2,h3,h4⟩
   .exact .inl (gD s.step.size h3)
   .exact s.own id2 o2 q (hσ _ _ h3) h4
  | none =>
   rw[B_out id hi]at h2;obtain⟨o1,h5,_,h6⟩:=mrg_out h1 hi;exact s.own id o1 q h5 h2
 .cases hi:ak σ' id with
  | none=>rw[B_out id hi];exact s.stab id h1 h2
  | some o1 =>
   rw[B_in id (by simp[hi])];rcases hks' id (by simp[hi])with⟨h3,_⟩|⟨_,h3,_⟩
   .rw[hsb id h3];exact s.stab id h1 h2
   .omega
end
section
variable{c:sV}{bl:Nat->Option Nat}{g:Nat->AV}{h:Nat->Option au}{a:Act}{w:World}
def aeo(i:Nat)(o o1:au):(j5 i o o1).t=o1.t:=by unfold j5;split<;>rfl
def Ij(i:Nat)(o o1:au):(j5 i o o1).st=o1.st:=by unfold j5;split<;>rfl
def Ky(i:Nat)(o o1:au):(j5 i o o1).isRec=o1.isRec:=by unfold j5;split<;>rfl
def aT.freeze(s:aT c bl g h a w){i:Nat}{o:au}(hi:h i=some o)(hrec:o.isRec=false) :
  aT c bl (λk=>vN i o (g k)) (λj=>if j=i then none else(h j).map (j5 i o)) a w /\
   ∀v x,bv bl (bQ bl c.MF h) w v x->bv bl (bQ bl c.MF (λj=>if j=i then none else(h j).map (j5 i o))) w v (vN i o x):=by
 have hsub:∀{j q},(if j=i then none else(h j).map (j5 i o))=some q->j≠i/\∃q0,h j=some q0/\q=j5 i o q0:=λ{j q} hj=>by
  split at hj
  .cases hj
  .rename_i hne;simp only[eS]at hj;obtain⟨q0,h1,h2⟩:=hj;exact⟨hne,q0,h1,h2.symm⟩
 have hmut:∀q,bQ bl c.MF (λj=>if j=i then none else(h j).map (j5 i o)) q->bQ bl c.MF h q:=by
  rintro q (hm|⟨j,oj,h1,h2⟩)
  .exact .inl hm
  .obtain⟨_,q0,h3,_⟩:=hsub h1;exact .inr ⟨j,q0,h3,h2⟩
 have ht:Tr (bQ bl c.MF h) (bQ bl c.MF (λj=>if j=i then none else(h j).map (j5 i o))) w w:=⟨λb hb _=>⟨λhm=>hb (hmut b hm),rfl⟩,λ_ c1 _ fr hb=>⟨c1,fr,hb,rfl⟩⟩
 have hP:∀{v x},fB bl (bQ bl c.MF h) w v x->fB bl (bQ bl c.MF (λj=>if j=i then none else(h j).map (j5 i o))) w v (qZ i o x):=λ{v x} hv=>by
  rcases s.heap.1 i o hi with hn|⟨b,hb,hO⟩
  .exact DN (b:=w.heap.size) (MF:=c.MF) ht (λhm=>by
    rcases hm with hm|⟨j,oj,h1,h2⟩
    .exact absurd (s.mf _ hm) (Nat.not_lt.2 s.step.size)
    .obtain⟨_,q0,h3,_⟩:=hsub h1;rcases s.heap.1 j q0 h3 with hn2|⟨b',h4,hO⟩
     .rw[hn2.2.2]at h2;cases h2
     .rw[h2]at h4;cases h4;exact absurd hO.lt (Nat.lt_irrefl _)) (.inl ⟨hn.1,hn.2.2⟩) hrec hv
  .refine DN ht (λhm=>?_) (.inr ⟨hb,hO⟩) hrec hv;rcases hm with hm|⟨j,oj,h1,h2⟩
   .exact hO.free hm
   .obtain⟨hne,q0,h3,_⟩:=hsub h1;exact hne (s.heap.2 j i q0 o b h3 hi h2 hb)
 have hC:∀{v x},cJ bl (bQ bl c.MF h) w v x->cJ bl (bQ bl c.MF (λj=>if j=i then none else(h j).map (j5 i o))) w v (x2 i o x):=λ{v x} hv=>by
  cases x with
  | fn f caps =>
   obtain⟨cs,h1,h2⟩:=hv;exact⟨cs,h1,h2.mapRight λ_ _ hr=>hP hr⟩
  | agg cells=>simp only[cJ,fB]at hv;cases hv
  | tup vs=>simp only[cJ,fB]at hv;cases hv
  | ms id st off len =>
   have:=hP (x:=.ms id st off len) hv;simp only[x2];generalize hy:qZ i o (.ms id st off len)=y at this;simp only[qZ]at hy;split at hy
   .split at hy<;>(subst hy;exact this)
   .subst hy;exact this
  | mp id st row off =>
   have:=hP (x:=.mp id st row off) hv;simp only[x2];generalize hy:qZ i o (.mp id st row off)=y at this;simp only[qZ]at hy;split at hy
   .split at hy
    .split at hy<;>(subst hy;exact this)
    .subst hy;exact this
   .subst hy;exact this
  | mm id k =>
   have:=hP (x:=.mm id k) hv;simp only[x2];generalize hy:qZ i o (.mm id k)=y at this;simp only[qZ]at hy;split at hy
   .split at hy<;>(subst hy;exact this)
   .subst hy;exact this
  | _ =>
   simp only[cJ,fB]at hv;exact IRel.toC (IRel.tr hv ht.keep)
 have hG:∀{v x},gq bl (bQ bl c.MF h) w v x->gq bl (bQ bl c.MF (λj=>if j=i then none else(h j).map (j5 i o))) w v (DM i o x):=λ{v x} hv=>by
  cases x with
  | agg cells =>
   obtain⟨cs,h1,h2⟩:=hv;exact⟨cs,h1,h2.mapRight λ_ _ hr=>hC hr⟩
  | _ =>
   simp only[gq]at hv;simp only[DM];exact(hC hv).toG
 have hV:∀{v x},bv bl (bQ bl c.MF h) w v x->bv bl (bQ bl c.MF (λj=>if j=i then none else(h j).map (j5 i o))) w v (vN i o x):=λ{v x} hv=>by
  cases x with
  | any=>trivial
  | tup vs =>
   obtain⟨cs,h1,h2⟩:=hv;exact⟨cs,h1,h2.mapRight λ_ _ hr=>hG hr⟩
  | _ =>
   simp only[bv]at hv;simp only[vN];exact(hG hv).toV
 refine⟨⟨s.defers,s.size,λk=>hV (s.env k),⟨λj oj hj=>?_,λj j' oj oj' q h1 h2=>?_⟩,s.step,λj oj q h1 h2=>?_,s.stab,s.mf⟩,λv x hv=>hV hv⟩
 .obtain⟨hne,q0,h1,rfl⟩:=hsub hj;rcases s.heap.1 j q0 h1 with hn|⟨b,hb,⟨gk,c1,fr,h2,h3,h4,h5,h6,h7⟩|hsp⟩
  .exact .inl ⟨by simp[j5,hn.2.1,hn.1],by rw[Ky];exact hn.2.1,hn.2.2⟩
  rotate_left
  .have:j5 i o q0=q0:=by simp[j5,hsp.isRec]
   rw[this];exact .inr ⟨b,hb,.inr hsp⟩
  .refine .inr ⟨b,hb,.inl ⟨by unfold j5;split<;>exact gk,c1,fr,by rw[aeo];exact h2,h3,h4,λk r hr=>?_,?_,λk q r x hr hx=>?_⟩⟩
   .rw[Ij];unfold j5 at hr;split at hr
    .simp only[iG,eS]at hr;obtain⟨r0,h8,rfl⟩:=hr;simpa using h5 k r0 h8
    .exact h5 k r hr
   .rw[Ij];unfold j5;split<;>simpa using h6
   .rw[Ij,Ky];unfold j5 at hr;split at hr
    .rename_i hrc;simp only[iG,eS]at hr;obtain⟨r0,h8,rfl⟩:=hr;simp only[iG,eS]at hx;obtain⟨x0,h9,rfl⟩:=hx;obtain⟨u,hu1,hu2⟩:=h7 k q r0 x0 h8 h9;rw[hrc]at hu2⊢;exact⟨u,hu1,hC hu2⟩
    .rename_i hrc;obtain⟨u,hu1,hu2⟩:=h7 k q r x hr hx;have hrc':q0.isRec=false:=by simpa using hrc
     rw[hrc']at hu2⊢;exact⟨u,hu1,IRel.tr hu2 ht.keep⟩
 .obtain⟨_,q1,h3,_⟩:=hsub h1;obtain⟨_,q2,h4,_⟩:=hsub h2;exact s.heap.2 j j' q1 q2 q h3 h4
 .obtain⟨_,q1,h3,_⟩:=hsub h1;exact s.own j q1 q h3 h2
end
def Uf(i:Nat)(o:au):List (Nat×AV)->List (Nat×AV)
 | []=>[]
 | (k,x)::r=>(k,vN i o x)::Uf i o r
def Q5(i:Nat)(o:au):List (Nat×au)->List (Nat×au)
 | []=>[]
 | (k,x)::r=>(k,j5 i o x)::Q5 i o r
def St.frz(s:St)(i:Nat):St :=
 match ak s.heap i with
 | some o=>if o.isRec then s else⟨Uf i o s.env,Q5 i o (oD s.heap i)⟩
 | none=>s
def frzs:List Nat->St->St
 | [],s=>s
 | i::r,s=>frzs r (s.frz i)
def DQ(i:Nat)(o:au):∀(l:List (Nat×AV))(k:Nat),get (Uf i o l) k=vN i o (get l k)
 | [],k=>rfl
 | (j,x)::r,k=>by simp only[Uf,get,DQ i o r k];split<;>rfl
def AO(i:Nat)(o:au):∀(l:List (Nat×au))(k:Nat),ak (Q5 i o l) k=(ak l k).map (j5 i o)
 | [],k=>rfl
 | (j,x)::r,k=>by simp only[Q5,ak,AO i o r k];split<;>rfl
def dd.frz{c:sV}{s:St}{a:Act}{w:World}(hs:dd c s a w)(i:Nat):dd c (s.frz i) a w:=by
 obtain⟨bl,hs⟩:=hs;unfold St.frz;split
 .rename_i o ho;split
  .exact⟨bl,hs⟩
  .rename_i hr;exact⟨bl,(hs.freeze ho (by simpa using hr)).1.congr (λk=>DQ i o _ k) (λj=>by simp only[AO,fe];split<;>simp)⟩
 .exact⟨bl,hs⟩
def dd.frzs{c:sV}{a:Act}{w:World}:∀(l:List Nat){s:St},dd c s a w->dd c (Mw.frzs l s) a w
 | [],_,h=>h
 | i::r,_,h=>dd.frzs r (h.frz i)
def frz1(s:St)(i:Nat)(x:AV):AV :=
 match ak s.heap i with
 | some o=>if o.isRec then x else vN i o x
 | none=>x
def sB:List Nat->St->AV->AV
 | [],_,x=>x
 | i::r,s,x=>sB r (s.frz i) (frz1 s i x)
def aT.frz1{c:sV}{bl:Nat->Option Nat}{s:St}{a:Act}{w:World}(hs:aT c bl (get s.env) (ak s.heap) a w)(i:Nat) :
  aT c bl (get (s.frz i).env) (ak (s.frz i).heap) a w/\∀v x,bv bl (bQ bl c.MF (ak s.heap)) w v x->bv bl (bQ bl c.MF (ak (s.frz i).heap)) w v (Mw.frz1 s i x):=by
 unfold St.frz Mw.frz1;cases ho:ak s.heap i with
 | none=>exact⟨hs,λ_ _ h=>h⟩
 | some o =>
  simp only;by_cases hr:o.isRec=true
  .simp only[hr,dR];exact⟨hs,λ_ _ h=>h⟩
  .obtain⟨h1,h2⟩:=hs.freeze ho (by simpa using hr);have hh:ak (Q5 i o (oD s.heap i))=λj=>if j=i then none else(ak s.heap j).map (j5 i o):=by
    funext j;simp only[AO,fe];split<;>simp
   simp only[hr,ij,lD];exact⟨h1.congr (λk=>DQ i o _ k) (λj=>by rw[hh]),λv x hv=>by rw[hh];exact h2 v x hv⟩
def aT.frzs{c:sV}{bl:Nat->Option Nat}{a:Act}{w:World}:∀(fs:List Nat)(s:St),aT c bl (get s.env) (ak s.heap) a w ->
  aT c bl (get (Mw.frzs fs s).env) (ak (Mw.frzs fs s).heap) a w/\∀v x,bv bl (bQ bl c.MF (ak s.heap)) w v x->bv bl (bQ bl c.MF (ak (Mw.frzs fs s).heap)) w v (sB fs s x)
 | [],s,hs=>⟨hs,λ_ _ h=>h⟩
 | i::r,s,hs=>by
  obtain⟨h1,h2⟩:=hs.frz1 i;obtain⟨h3,h4⟩:=aT.frzs r (s.frz i) h1;exact⟨h3,λv x hv=>h4 v _ (h2 v x hv)⟩
structure aJ where
 o:bH
 bef:List Nat
 deriving Inhabited
inductive bC where
 | skip
 | ret
 | exit (id:Nat)
 | seq (x y:bC)
 | cut (x y:bC)
 | cond (c:IV) (t e:bC)
 | block (id:Nat) (x:bC)
 | loop (x:bC)
 | reg (ops:List bH) (dr:List Nat)
 | draw (ops:List aJ) (al:List (Nat×Nat)) (dr:List Nat)
 | free (ops:List aJ) (al:List (Nat×Nat)) (dr:List Nat)
 | wild (ops:List aJ) (al:List (Nat×Nat)) (dr:List Nat)
 | clon (cs:List Nat) (ops:List aJ) (al:List (Nat×Nat)) (dr:List Nat)
 deriving Inhabited
inductive IX where
 | nrm
 | ret
 | ext (id:Nat)
def AP(P:Program)[bE P](f:FuncId)(args:List AV)(d:Option Nat)(s:St)(K:St->Prop):Prop :=
 (∃args' r b,aj P f args' r/\(∀x∈args',aV x=[])/\bg (X1 b (ak s.heap)) args args'/\(b=true->oM r=true)/\K (s.put d r)) \/
 ∃σ0 Sb Post ks,bA P f args σ0 Sb Post/\(∀id o,ak σ0 id=some o->ak s.heap id=some o) /\
  (∀r σ',Post r σ'->∀id,(ak σ' id).isSome=true->(Sb id/\(ak σ0 id).isSome=true)\/(id∈ks/\(id<1000\/2000<=id)/\((ak σ0 id).isSome=true\/ak s.heap id=none))) /\
  ∀r σ',Post r σ'->∃s':St,(∀k,get s'.env k=sT ks (get s.env k))/\(∀j,ak s'.heap j=NL ks (ak σ0) (ak σ') (ak s.heap) j)/\K (s'.put d r)
def eJ(s:St)(l:List AV)(s':St)(l':List AV):Prop:=∀(c:sV)(a:Act)(w:World)(bl:Nat->Option Nat)(vs:List Value),aT c bl (get s.env) (ak s.heap) a w->bg (bv bl (bQ bl c.MF (ak s.heap)) w) vs l ->
 ∃bl',aT c bl' (get s'.env) (ak s'.heap) a w/\bg (bv bl' (bQ bl' c.MF (ak s'.heap)) w) vs l'
def cO(P:Program)[bE P](f:FuncId)(args:List AV)(d:Option Nat)(s:St)(K:St->Prop):Prop :=
 AP P f args d s K\/(∃fs,AP P f (args.map (sB fs s)) d (frzs fs s) K)\/∃s' args',eJ s args s' args'/\AP P f args' d s' K
def Wk(s s':St):Prop:=∀(c:sV)(a:Act)(w:World),dd c s a w->dd c s' a w
def L0(o:bH)(s:St)(K:St->Prop):Prop :=
 match cj (o.dst.getD 0) o.op (val (get (s.kill (o.dst.getD 0)).env)) (ak (s.kill (o.dst.getD 0)).heap)with
 | some (v,e)=>K (((s.kill (o.dst.getD 0)).eff e).put o.dst v)
 | none=>False
def TB(o:bH)(s:St)(K:St->Prop):Prop:=∃s',Wk s s'/\L0 o s' K
def nW(P:Program)[bE P](o:bH)(s:St)(K:St->Prop):Prop :=
 match o.op with
 | .call f args=>cO P f (args.map (val (get s.env))) o.dst s K
 | .callv f args=>match val (get s.env) f with
  | .fn f caps=>if f<4000000 then cy P f=true/\cO P f (args.map (val (get s.env))++caps) o.dst s K else cy P (f-4000000)=true/\cO P (f-4000000) (caps.take 1++args.map (val (get s.env))++caps.drop 1) o.dst s K
  | _=>False
 | .bsl t st rows ps=>(o.dst.getD 0<1000/\match cj (o.dst.getD 0) (.bsl t st rows ps) (val (get (s.kill (o.dst.getD 0)).env)) (ak (s.kill (o.dst.getD 0)).heap)with
   | some (v,e)=>K (((s.kill (o.dst.getD 0)).eff e).put o.dst v)
   | none=>TB o s K)
 | .snl b x=>match val (get s.env) x with
  | .sl _ []=>K (s.put o.dst (.bool b))/\K (s.put o.dst (.bool (!b)))
  | x=>match Qv b x with
   | some v=>K (s.put o.dst v)
   | none=>False
 | op=>if gu op then
   (o.dst.getD 0<1000/\match cj (o.dst.getD 0) op (val (get (s.kill (o.dst.getD 0)).env)) (ak (s.kill (o.dst.getD 0)).heap)with
   | some (v,e)=>K (((s.kill (o.dst.getD 0)).eff e).put o.dst v)
   | none=>False)
  else match cj (o.dst.getD 0) op (val (get s.env)) (ak s.heap)with
   | some (v,e)=>K ((s.eff e).put o.dst v)
   | none=>False
def jR(P:Program)[bE P]:List bH->St->(St->Prop)->Prop
 | [],s,K=>K s
 | o::r,s,K=>match o.g with
  | none=>nW P o s (λs'=>jR P r s' K)
  | some (k,b)=>match get s.env k with
   | .bool t=>(t=b->nW P o (s.put (some k) (.bool b)) (λs'=>jR P r s' K))/\(t = !b->jR P r ((s.put (some k) (.bool (!b))).put o.dst (.tup [])) K)
   | .tup []=>jR P r (s.put o.dst (.tup [])) K
   | _=>False
class inductive Ld where
 | no
 | ld
instance:Ld:=.no
structure HI where
 i:Nat
 op:List Nat
 res:List Nat
 tch:List Nat
 rb:Bool
 wr:Bool
 [ld:Ld]
abbrev AS:ln->Ld
 | .load _ _=>.ld
 | _=>.no
def HI.isLd(y:HI):Bool:=match y.ld with
 | .ld=>true
 | .no=>false
def bD.isPut:bD->Bool
 | .put ..=>true
 | _=>false
def bD.tch:bD->List Nat
 | .no=>[]
 | .put i _=>[i]
 | .new i _=>[i]
 | .reb i _=>[i]
def bD.isReb:bD->Bool
 | .reb ..=>true
 | _=>false
def bD.ids:bD->List Nat
 | .no=>[]
 | .put _ o=>fG o
 | .new _ o=>fG o
 | .reb _ o=>fG o
def bz:IV->List Nat
 | .s k=>[k]
 | .c _=>[]
def lI:Option IV->List Nat
 | some x=>bz x
 | none=>[]
def aC(o:ln):List Nat :=
 match o with
 | .mov x | .box _ _ x | .load _ x | .fadr _ x | .fld _ _ x | .len x | .slen x | .un _ x | .cvi _ x | .cvs x | .cvt x | .cvb _ x | .cvm x | .ext x _ | .nchk x | .snl _ x=>bz x
 | .pick c a b=>bz c++bz a++bz b
 | .new _ _=>[]
 | .build _ ps=>ps.flatMap λp=>bz p.2.2
 | .bsl _ _ _ ps=>ps.flatMap λp=>bz p.2
 | .store _ x y | .iadr _ x y | .aadr _ _ x y | .mnx _ x y | .cpy _ x y | .sib x y | .app _ _ x y | .apps _ x y | .bin _ x y | .bbin _ x y | .pbin _ x y | .sbin _ _ x y | .sidx x y | .mks _ _ _ x y=>bz x++bz y
 | .slc _ x lo hi mx=>bz x++lI lo++lI hi++lI mx
 | .sslc x lo hi=>bz x++lI lo++lI hi
 | .call _ args=>args.flatMap bz
 | .callv f args=>bz f++args.flatMap bz
 | .mkf _ caps=>caps.flatMap bz
 | .mop _ xs=>xs.flatMap bz
def ef(o:bH):List Nat:=aC o.op++(match o.g with|some (k,_)=>[k]|none=>[])
def Iz(x y:HI):Bool :=
 y.tch.all (λd=>!x.op.contains d && !x.tch.contains d)&&x.tch.all (λd=>!y.op.contains d)&&(!x.rb||x.tch.all λd=>!y.res.contains d)&&(!y.rb||y.tch.all λd=>!x.res.contains d) && !(x.rb&&y.wr) && !(y.rb&&x.wr) && !(x.rb&&x.wr) && !(y.rb&&y.wr)
def iT(bef:List Nat)(x:HI)(hist:List HI):Bool:=hist.all λy=>bef.contains y.i||Iz x y
def zF(al:List (Nat×Nat))(bef:List Nat)(x:HI):Bool:=al.all λp=>!x.res.contains p.1||p.2==x.i||bef.contains p.2
def zr:AV->Bool
 | .any=>true
 | _=>false
def fz(o:ln)(s:St)(e:bD):Bool:=(aC o).all (λk=>!zr (get s.env k))&&(!e.isReb||e.tch.all λd=>s.heap.all λp=>!(fG p.2).contains d)
def cY(o:ln)(e:List (Nat×AV)):List Nat :=
 match o with
 | .mov _=>[]
 | o=>(aC o).flatMap λk=>aV (get e k)
def OB(tch:List Nat)(y:HI):Bool:=(y.op.isEmpty||y.isLd)&&y.tch.isEmpty && !y.rb&&(tch.all λd=>!y.res.contains d)&&tch.all λd=>!y.op.contains d
def MB(al:List (Nat×Nat))(i:Nat)(o:aJ)(hist:List HI)(s:St)(K:St->Prop):Prop :=
 match o.o.op with
 | .app t st x y=>o.o.g=none/\match cj (o.o.dst.getD 0) (.app t st x y) (val (get s.env)) (ak s.heap)with
  | some (v,e)=>((aC (.app t st x y)).all λk=>!zr (get s.env k))=true/\e.isReb=true/\(hist.all λz=>o.bef.contains z.i||OB e.tch z)=true /\
    zF al o.bef ⟨i,cY (.app t st x y) s.env,aV v++e.ids,e.tch,true,true⟩=true/\K ((s.eff e).put o.o.dst v)
  | none=>False
 | _=>False
class Cl where
 c:List Nat
instance:Cl:=⟨[]⟩
def aeJ[q:Cl]:Option Nat->Bool
 | some d=>q.c.contains d
 | none=>false
def fU(P:Program)[bE P][Cl](al:List (Nat×Nat))(i:Nat)(o:aJ)(hist:List HI)(s:St)(K:List HI->St->Prop):Prop :=
 match o.o.op with
 | .call f args=>(∃args' r b,aj P f args' r/\(∀x∈args',aV x=[])/\bg (X1 b (ak s.heap)) (args.map (val (get s.env))) args'/\(b=true->oM r=true)/\aV r=[] /\
   fz o.o.op s .no=true/\iT o.bef ⟨i,cY o.o.op s.env,[],[],false,false⟩ hist=true/\K (⟨i,cY o.o.op s.env,[],[],false,false⟩::hist) (s.put o.o.dst r)) \/
   ∃k ob ob' Sb r,bA P f (args.map (val (get s.env))) [(k,ob)] Sb (λr' σ'=>r'=r/\σ'=[(k,ob')])/\Sb k/\ak s.heap k=some ob/\aV r=[]/\fG ob'=[]/\k∈cY o.o.op s.env /\
   fz o.o.op s (.put k ob')=true/\iT o.bef ⟨i,cY o.o.op s.env,[],[k],false,true⟩ hist=true/\K (⟨i,cY o.o.op s.env,[],[k],false,true⟩::hist) ((s.eff (.put k ob')).put o.o.dst r)
 | .callv _ _=>False
 | .app t st x y=>(match cj (o.o.dst.getD 0) (.app t st x y) (val (get s.env)) (ak s.heap)with
  | some (v,e)=>fz o.o.op s e=true/\iT o.bef ⟨i,cY o.o.op s.env,aV v++e.ids,e.tch,e.isReb,e.isPut⟩ hist=true /\
    zF al o.bef ⟨i,cY o.o.op s.env,aV v++e.ids,e.tch,e.isReb,e.isPut⟩=true/\K (⟨i,cY o.o.op s.env,aV v++e.ids,e.tch,e.isReb,e.isPut⟩::hist) ((s.eff e).put o.o.dst v)
  | none=>False)\/(∃rows,x = .c .nl/\cj (o.o.dst.getD 0) (.app t st x y) (val (get s.env)) (ak s.heap)=some (.ms (o.o.dst.getD 0) st 0 rows.length,.new (o.o.dst.getD 0) ⟨t,st,rows,false⟩) /\
   fz o.o.op s .no=true/\iT o.bef ⟨i,cY o.o.op s.env,[],[],false,false⟩ hist=true/\K (⟨i,cY o.o.op s.env,[],[],false,false⟩::hist) (s.put o.o.dst (.sl st rows)))
 | .bsl t st rows ps=>if aeJ o.o.dst=true then(match mX (val (get s.env)) st rows ps with
   | some rs=>fz o.o.op s .no=true/\iT o.bef ⟨i,cY o.o.op s.env,[],[],false,false⟩ hist=true/\K (⟨i,cY o.o.op s.env,[],[],false,false⟩::hist) (s.put o.o.dst (.sl st rs))
   | none=>False)
  else match cj (o.o.dst.getD 0) (.bsl t st rows ps) (val (get s.env)) (ak s.heap)with
  | some (v,e)=>fz o.o.op s e=true/\iT o.bef (@HI.mk i (cY o.o.op s.env) (aV v++e.ids) e.tch e.isReb e.isPut (AS o.o.op)) hist=true /\
    zF al o.bef (@HI.mk i (cY o.o.op s.env) (aV v++e.ids) e.tch e.isReb e.isPut (AS o.o.op))=true/\K ((@HI.mk i (cY o.o.op s.env) (aV v++e.ids) e.tch e.isReb e.isPut (AS o.o.op))::hist) ((s.eff e).put o.o.dst v)
  | none=>False
 | op=>match cj (o.o.dst.getD 0) op (val (get s.env)) (ak s.heap)with
  | some (v,e)=>fz o.o.op s e=true/\iT o.bef (@HI.mk i (cY o.o.op s.env) (aV v++e.ids) e.tch e.isReb e.isPut (AS o.o.op)) hist=true /\
    zF al o.bef (@HI.mk i (cY o.o.op s.env) (aV v++e.ids) e.tch e.isReb e.isPut (AS o.o.op))=true/\K ((@HI.mk i (cY o.o.op s.env) (aV v++e.ids) e.tch e.isReb e.isPut (AS o.o.op))::hist) ((s.eff e).put o.o.dst v)
  | none=>False
def gx(P:Program)[bE P][Cl](al:List (Nat×Nat)):Nat->List aJ->List HI->St->(List HI->St->Prop)->Prop
 | _,[],hist,s,K=>K hist s
 | i,o::r,hist,s,K=>match o.o.g with
  | none=>fU P al i o hist s (λhist' s'=>gx P al (i+1) r hist' s' K)
  | some (k,b)=>match get s.env k with
   | .bool t=>(t=b->fU P al i o hist (s.put (some k) (.bool b)) (λhist' s'=>gx P al (i+1) r hist' s' K)) /\
     (t = !b->gx P al (i+1) r (⟨i,[],[],[],false,false⟩::hist) ((s.put (some k) (.bool (!b))).put o.o.dst (.tup [])) K)
   | .tup []=>gx P al (i+1) r (⟨i,[],[],[],false,false⟩::hist) (s.put o.o.dst (.tup [])) K
   | _=>False
def jk(P:Program)[bE P][Cl](al:List (Nat×Nat))(i:Nat)(l:List aJ)(hist:List HI)(s:St)(K:St->Prop):Prop:=gx P al i l hist s λ_ s=>K s
def d_:bC->bC
 | .cut x y=>.seq (d_ x) (d_ y)
 | .seq x y=>.seq (d_ x) (d_ y)
 | .cond c t e=>.cond c (d_ t) (d_ e)
 | .block id x=>.block id (d_ x)
 | .loop x=>.loop (d_ x)
 | .free ops al dr=>.draw ops al dr
 | .wild ops al dr=>.draw ops al dr
 | .clon _ ops al dr=>.draw ops al dr
 | x=>x
def refine(c:IV)(b:Bool)(s:St):St :=
 match c with
 | .s k=>s.put (some k) (.bool b)
 | .c _=>s
def rdy(R:List (Nat×aJ)):List (Nat×aJ):=R.filter λt=>R.all λq=>!t.2.bef.contains q.1
def xo{α:Type}:List α->(α->Prop)->Prop
 | [],_=>True
 | [x],F=>F x
 | x::y::r,F=>F x/\xo (y::r) F
def sD(P:Program)[bE P]:Nat->List (Nat×aJ)->St->(St->Prop)->Prop
 | 0,_,s,K=>K s
 | f+1,R,s,K=>xo (rdy R) λt=>jR P [t.2.o] s λs'=>sD P f (R.filter λq=>q.1 != t.1) s' K
def lz(P:Program)[bE P]:bC->St->(IX->St->Prop)->Prop
 | .skip,s,K=>K .nrm s
 | .ret,s,K=>K .ret s
 | .exit id,s,K=>K (.ext id) s
 | .seq x y,s,K=>lz P x s λe s'=>match e with
  | .nrm=>lz P y s' K
  | e=>K e s'
 | .cut x y,s,K=>lz P x s λe s'=>match e with
  | .nrm=>∃s'',Wk s' s''/\lz P y s'' K
  | e=>K e s'
 | .cond c t e,s,K=>match val (get s.env) c with
  | .bool b=>(b=true->lz P t (refine c true s) K)/\(b=false->lz P e (refine c false s) K)
  | _=>False
 | .block id x,s,K=>lz P x s λe s'=>match e with
  | .ext j=>if j=id then K .nrm s' else K (.ext j) s'
  | e=>K e s'
 | .loop x,s,K=>∃I:Nat->St->Prop,(∃n s',I n s'/\Wk s s')/\∀n s,I n s->lz P x s λe s'=>match e with
  | .nrm=>∃m s'',m<n/\I m s''/\Wk s' s''
  | e=>K e s'
 | .reg ops dr,s,K=>jR P ops s λs'=>K .nrm ⟨dels dr s'.env,s'.heap⟩
 | .draw ops al dr,s,K=>jk P al 0 ops [] (kills (al.map (·.1)) s) λs'=>K .nrm ⟨dels dr s'.env,s'.heap⟩
 | .wild ops al dr,s,K=>gx P al 0 ops.dropLast [] (kills (al.map (·.1)) s) λhist s1=>match ops.getLast? with
  | some o=>MB al (ops.length-1) o hist s1 λs'=>K .nrm ⟨dels dr s'.env,s'.heap⟩
  | none=>False
 | .clon cs ops al dr,s,K=>@jk P _ ⟨cs⟩ al 0 ops [] (kills (al.map (·.1)) s) λs'=>K .nrm ⟨dels dr s'.env,s'.heap⟩
 | .free ops _ dr,s,K=>sD P ops.length (ops.zipIdx.map λp=>(p.2,p.1)) s λs'=>K .nrm ⟨dels dr s'.env,s'.heap⟩
def vL(P:Program)(n:Nat)(ops:Array Oper):List Oper->Option (List bH)
 | []=>some []
 | o::r=>match oK P n ops o,vL P n ops r with
  | some x,some xs=>some (x::xs)
  | _,_=>none
def Tw:List Oper->List (List Nat)->List (List Nat)
 | [],acc=>acc
 | o::r,acc=>Tw r (acc++[((o.after.toList.filter (Region.binds .any)).flatMap λe=>e.on::acc.getD e.on []).eraseDups])
def fI:Code->List (List Nat)
 | .region _ ops _=>[ops.toList.flatMap λo=>o.dst.toList++o.op.operands.toList.filterMap fun | .tmp t=>some t|_=>none]
 | .seq x y=>fI x++fI y
 | .cond (.tmp t) x y=>[t]::(fI x++fI y)
 | .cond _ x y=>fI x++fI y
 | .block _ x=>fI x
 | .loop x=>fI x
 | .scope x=>fI x
 | _=>[]
def acz(ls:List (List Nat))(k:Nat):Bool:=2<=(ls.filter (·.contains k)).length
def Jr:List Nat->Bool
 | []=>true
 | x::r=>!r.contains x&&Jr r
def lS(o:Oper):List Nat:=(o.after.toList.filter (Region.binds .any)).map (·.on)
def acL(ops:List Oper)(bs:List (List Nat)):Bool :=
 (List.range ops.length).all λi=>match ops[i]? with
  | none=>false
  | some o=>(lS o).all (λd=>decide (d<i))&&(bs.getD i []).all (λd=>(lS o).contains d||(lS o).any λm=>(bs.getD m []).contains d)
def kz:IV->Bool
 | .s _=>true
 | .c x=>(aV x).isEmpty
def bZ(op:ln):Bool :=
 match op with
 | .load _ x | .cvs x | .cvm x=>kz x
 | .store _ x y | .app _ _ x y | .apps _ x y | .cpy _ x y=>kz x&&kz y
 | .call _ args=>args.all kz
 | .mop _ args=>args.all kz
 | _=>true
def YP(bs:List (List Nat))(l:List bH):Bool :=
 (List.range l.length).all λi=>(List.range i).all λj=>match l[i]?,l[j]? with
  | some x,some y=>(bs.getD i []).contains j ||
    ((match y.dst with|some d=>!(ef x).contains d&&x.dst != some d|none=>true)&&(match x.dst with|some d=>!(ef y).contains d|none=>true))
  | _,_=>false
def dA:Nat->List bH->List (Nat×Nat)
 | _,[]=>[]
 | i,o::r=>if gu o.op then(o.dst.getD 0,i)::dA (i+1) r else dA (i+1) r
def ib(l:List Nat):Nat->Nat->Nat
 | 0,k=>k
 | f+1,k=>if l.contains k then ib l f (k+1)else k
def Mq(bs:List (List Nat)):Nat->List bH->List (Nat×List bH)×Nat
 | i,[]=>([],i)
 | i,o::r=>match Mq bs (i+1) r with
  | ([],m)=>([(i,[o])],min m (ib (bs.getD i []) i 0))
  | ((k,s)::t,m)=>if i+1<=m then((i,[o])::(k,s)::t,min m (ib (bs.getD i []) i 0))else((i,o::s)::t,min m (ib (bs.getD i []) i 0))
def u9(bs:List (List Nat))(i n:Nat):List (List Nat):=(List.range n).map λk=>(bs.getD (i+k) []).filterMap λd=>if i<=d then some (d-i)else none
def CQ(rb:List (List Nat))(s:List bH)(dr:List Nat):Option bC :=
 if YP rb s&&(dA 0 s).all (λp=>p.1<1000)&&Jr ((dA 0 s).map (·.1))&&s.all (λo=>bZ o.op)then
  some (.draw (s.zipIdx.map λp=>⟨p.1,rb.getD p.2 []⟩) (dA 0 s) dr)else none
def QE(bs:List (List Nat))(i:Nat)(s:List bH)(dr:List Nat):Option bC :=
 match s with
 | [o]=>some (.reg [o] dr)
 | s=>CQ (u9 bs i s.length) s dr
def G7(bs:List (List Nat))(dr:List Nat):List (Nat×List bH)->Option bC
 | []=>some (.reg [] dr)
 | (i,s)::t=>match t with
  | []=>QE bs i s dr
  | _::_=>match QE bs i s [],G7 bs dr t with
   | some x,some y=>some (.seq x y)
   | _,_=>none
def ON(P:Program)(n:Nat)(ops:Array Oper)(dr:List Nat->List Nat):Option bC :=
 match vL P n ops ops.toList with
 | none=>none
 | some l=>if acL ops.toList (Tw ops.toList [])then G7 (Tw ops.toList []) (dr (l.filterMap (·.dst))) (Mq (Tw ops.toList []) 0 l).1 else none
def comp(P:Program)(n:Nat)(sh:List (List Nat)):Code->Option bC
 | .skip=>some .skip
 | .ret=>some .ret
 | .exit id=>some (.exit id)
 | .label _=>some .skip
 | .seq x y=>match comp P n sh x,comp P n sh y with
  | some x,some y=>some (.seq x y)
  | _,_=>none
 | .cond c x y=>match cV c,comp P n sh x,comp P n sh y with
  | some c,some x,some y=>some (.cond c x y)
  | _,_,_=>none
 | .block id x=>(comp P n sh x).map (.block id)
 | .loop x=>(comp P n sh x).map .loop
 | .scope x=>comp P n sh x
 | .region _ ops false=>match vL P n ops ops.toList with
  | some l=>some (.reg l ((l.filterMap (·.dst)).filter λk=>!acz sh k))
  | none=>none
 | .region _ ops true=>ON P n ops (·.filter λk=>!acz sh k)
 | _=>none
inductive pj where
 | tmp (k:Nat)
 | cell (k:Nat) (n:Option Nat)
 deriving Inhabited
structure aB where
 n:Nat
 np:Nat
 res:List pj
 body:bC
 deriving Inhabited
def AI(P:Program):List ResultVar->Option (List pj)
 | []=>some []
 | .tmp t::r=>if t<1000000 then(AI P r).map (.tmp t::·)else none
 | .cell a t::r=>match ww P t,AI P r with
  | some n,some l=>if a<1000000 then some (.cell a n::l)else none
  | _,_=>none
def va:List ResultVar->List Nat
 | []=>[]
 | .tmp t::r=>t::va r
 | .cell a _::r=>a::va r
def sz(P:Program)(f:FuncId):Option aB :=
 match P.funcs[f]? with
 | none=>none
 | some fn=>match fn.body with
  | none=>none
  | some body=>match comp P fn.ntmps (va fn.results.toList::fI body) body,AI P fn.results.toList with
   | some b,some rs=>if fn.params.size+fn.nfree<=fn.ntmps/\fn.ntmps<=1000000 then some ⟨fn.ntmps,fn.params.size+fn.nfree,rs,b⟩else none
   | _,_=>none
section
variable{P:Program}[bE P]{c:sV}[CT c P]{a:Act}{w:World}{s:St}{o:Oper}{io:bH}{ops:Array Oper}{n:Nat}
def xV(hc:oK P n ops o=some io):k_ P o.op=some io.op/\io.dst=o.dst/\(∀k,o.dst=some k->k<n) /\
  ((o.guard=none/\io.g=none)\/∃j b k,o.guard=some (j,b)/\(ops[j]?).bind (·.dst)=some k/\io.g=some (k,b)):=by
 unfold oK at hc;split at hc
 case h_2=>cases hc
 rename_i op h1;have hd:(match o.dst with|some d=>decide (d<n)|none=>true)=true->∀k,o.dst=some k->k<n:=λh k hk=>by rw[hk]at h;simpa using h
 split at hc
 .rename_i h2 h3;cases hc;exact⟨h1,rfl,hd h2,.inl ⟨h3,rfl⟩⟩
 .rename_i j b h2 h3;split at hc
  case h_2=>cases hc
  rename_i k hk;cases hc;exact⟨h1,rfl,hd h2,.inr ⟨j,b,k,h3,hk,rfl⟩⟩
 .cases hc
def lX{f:FuncId}(hb:cy P f=true)(args:Array Value):(callFunc f args).run P w = .ok (.enter f args) w:=by
 unfold cy at hb;split at hb
 case h_2=>cases hb
 rename_i fn hf;simp only[dX,bne_iff_ne]at hb;obtain⟨h1,h2⟩:=hb;have h3:fn.body.isNone=false:=by cases h:fn.body<;>simp_all
 have h4:¬fn.body=none:=λhn=>by simp[hn]at h1
 simp[callFunc,hf,h2,h4]
def rc{f:FuncId}{cargs:List Value}{args:List AV}{d:Option Nat}(hd:∀k,d=some k->k<c.n){K:St->Prop}{bl:Nat->Option Nat}(hs:aT c bl (get s.env) (ak s.heap) a w)
  (ha:bg (bv bl (bQ bl c.MF (ak s.heap)) w) cargs args) (h:AP P f args d s K) :
  Calls P f cargs.toArray w λe w'=>∃v,e = .returned v/\∃s',K s'/\dd c s' (a.put d v) w':=by
 rcases h with⟨args',r,b,hp,hid,hco,hf,hk⟩|⟨σ0,Sb,Post,ks,hp,hσ,hks,hk⟩
 .refine(HL hs hp ha hid b hco hf).mono λe w' ⟨v,he,hs',hv⟩=>⟨v,he,s.put d r,hk,zU hs' d hd hv (λ_=>rfl) (λ_=>rfl)⟩
 .refine(LW hs hp ha hσ ks hks).mono λe w' ⟨v,r,σ',bl2,he,hP,hs',hv⟩=>?_;obtain⟨s',h1,h2,h3⟩:=hk r σ' hP;exact⟨v,he,s'.put d r,h3,zU hs' d hd hv h1 h2⟩
def uB{f:FuncId}{cargs:List Value}{args:List AV}{d:Option Nat}(hd:∀k,d=some k->k<c.n){K:St->Prop}{bl:Nat->Option Nat}(hs:aT c bl (get s.env) (ak s.heap) a w)
  (ha:bg (bv bl (bQ bl c.MF (ak s.heap)) w) cargs args) (h:cO P f args d s K) :
  Calls P f cargs.toArray w λe w'=>∃v,e = .returned v/\∃s',K s'/\dd c s' (a.put d v) w':=by
 rcases h with h|⟨fs,h⟩|⟨s',args',hw,h⟩
 .exact rc hd hs ha h
 .obtain⟨h1,h2⟩:=aT.frzs fs s hs;exact rc hd h1 (ha.mapRight λv x hv=>h2 v x hv) h
 .obtain⟨bl',h1,h2⟩:=hw c a w bl cargs hs ha;exact rc hd h1 h2 h
def oi{f:FuncId}{args:Array Value}{K:Act->World->Prop}{Q:Exit->Act->World->Prop}(hr:(execOp a.eval o).run P w = .ok (.enter f args) w)
  (h:Calls P f args w λe w'=>∃v,e = .returned v/\K (a.put o.dst v) w'):o.wp P a w K Q:=by
 unfold Oper.wp;rw[hr];simp only[Oper.upon];refine h.mono λe w' ⟨v,he,hk⟩=>?_;subst he;exact hk
def De{v:AV}{e:bD}{K:Act->World->Prop}{Q:Exit->Act->World->Prop}{g:Nat->AV}{h:Nat->Option au}(hok:bu P c o a w g h v e)
  (hk:∀r w' bl',aT c bl' (e.env g) (e.hp h) a w'->bv bl' (bQ bl' c.MF (e.hp h)) w' r v->K (a.put o.dst r) w'):o.wp P a w K Q:=by
 obtain⟨r,w',bl',hr,h1,h2⟩:=hok;unfold Oper.wp;rcases hr with hr|⟨hr,rfl⟩
 .rw[hr];exact hk r w' bl' h1 h2
 .rw[hr];exact hk undef w' bl' h1 h2
def pX{bl:Nat->Option Nat}{g:Nat->AV}{h:Nat->Option au}(hs:aT c bl g h a w){cs:Array Operand}{vs:List IV}(hv:TE cs.toList=some vs):bg (bv bl (bQ bl c.MF h) w) (cs.map a.eval).toList (vs.map (val g)):=by
 rw[Array.toList_map];exact Ia hs hv
def Ko{oo:Op}{f:FuncId}{args:List IV}(h:k_ P oo=some (.call f args)):∃cl,oo = .call cl/\cl.callee = .value (.func f)/\cy P f=true/\TE cl.args.toList=some args:=by
 cases oo<;>simp only[k_]at h
 case call cl =>
  unfold BU at h;split at h
  .rename_i f' hcl;split at h
   case isFalse=>obtain⟨_,_,_,_,_,_,_,_,_,_,_,_,q⟩:=uu h;cases q
   rename_i hb;simp only[eS]at h;obtain⟨vs,hv,h⟩:=h;cases h;exact⟨cl,rfl,hcl,hb,hv⟩
  all_goals
   exfalso
   repeat' (split at h)
   all_goals first
    | (cases h;done)
    | (obtain⟨_,_,_,_,_,_,_,_,_,_,_,_,q⟩:=uu h;cases q;done)
    | (simp only[eS]at h;obtain⟨_,_,h⟩:=h;cases h)
 case binOp =>
  split at h
  .unfold Km at h;repeat' (split at h)
   all_goals cases h
  .cases h
 case convert =>
  split at h
  .unfold Kn at h
   repeat' (split at h)
   all_goals cases h
  .cases h
 case makeFunc fn first caps =>
  cases fn<;>simp only[k_]at h<;>try (cases h;done)
  split at h
  .simp only[eS]at h;obtain⟨_,_,h⟩:=h;cases h
  .cases h
 all_goals
  exfalso
  repeat' (split at h)
  all_goals first
   | (cases h;done)
   | (simp only[eS]at h;obtain⟨_,_,h⟩:=h;cases h;done)
   | (simp_all;done)
def QD{oo:Op}{f:IV}{args:List IV}(h:k_ P oo=some (.callv f args)):∃cl t,oo = .call cl/\cl.callee = .value (.tmp t)/\f = .s t/\TE cl.args.toList=some args:=by
 cases oo<;>simp only[k_]at h
 case call cl =>
  unfold BU at h;split at h
  case h_2 =>
   rename_i t hcl;split at h
   case isFalse=>cases h
   simp only[eS]at h;obtain⟨vs,hv,h⟩:=h;cases h;exact⟨cl,t,rfl,hcl,rfl,hv⟩
  all_goals
   exfalso
   repeat' (split at h)
   all_goals first
    | (cases h;done)
    | (obtain⟨_,_,_,_,_,_,_,_,_,_,_,_,q⟩:=uu h;cases q;done)
    | (simp only[eS]at h;obtain⟨_,_,h⟩:=h;cases h)
 case binOp =>
  split at h
  .unfold Km at h;repeat' (split at h)
   all_goals cases h
  .cases h
 case convert =>
  split at h
  .unfold Kn at h
   repeat' (split at h)
   all_goals cases h
  .cases h
 case makeFunc fn first caps =>
  cases fn<;>simp only[k_]at h<;>try (cases h;done)
  split at h
  .simp only[eS]at h;obtain⟨_,_,h⟩:=h;cases h
  .cases h
 all_goals
  exfalso
  repeat' (split at h)
  all_goals first
   | (cases h;done)
   | (simp only[eS]at h;obtain⟨_,_,h⟩:=h;cases h;done)
   | (simp_all;done)
def YX{oo:Op}{b:Bool}{x:IV}(h:k_ P oo=some (.snl b x)):∃op t y z t' e,oo = .binOp op t y z t'/\P.underlying t=some (.slice e)/\((op = .eql/\b=false)\/(op = .neq/\b=true))/\cV y=some x/\cV z=some (.c .nl):=by
 cases oo<;>simp only[k_]at h
 case binOp op t y z t' =>
  split at h
  case h_2=>cases h
  rename_i yv zv h1 h2;unfold Km at h;split at h
  case h_7 =>
   rename_i e ht;split at h
   .cases h;exact⟨_,_,_,_,_,_,rfl,ht,.inl ⟨rfl,rfl⟩,h1,h2⟩
   .cases h;exact⟨_,_,_,_,_,_,rfl,ht,.inr ⟨rfl,rfl⟩,h1,h2⟩
   .cases h
  all_goals
   repeat' (split at h)
   all_goals cases h
 case call cl =>
  unfold BU at h;exfalso
  repeat' (split at h)
  all_goals first
   | (cases h;done)
   | (obtain⟨_,_,_,_,_,_,_,_,_,_,_,_,q⟩:=uu h;cases q;done)
   | (simp only[eS]at h;obtain⟨_,_,h⟩:=h;cases h)
 case convert =>
  split at h
  .unfold Kn at h
   repeat' (split at h)
   all_goals cases h
  .cases h
 case makeFunc fn first caps =>
  cases fn<;>simp only[k_]at h<;>try (cases h;done)
  split at h
  .simp only[eS]at h;obtain⟨_,_,h⟩:=h;cases h
  .cases h
 all_goals
  exfalso
  repeat' (split at h)
  all_goals first
   | (cases h;done)
   | (simp only[eS]at h;obtain⟨_,_,h⟩:=h;cases h;done)
   | (simp_all;done)
def Rj(hc:oK P n ops o=some io)(hn:c.n=n){K:St->Prop}(h:nW P io s K)(hs:dd c s a w)(Q:Exit->Act->World->Prop) :
  o.wp P a w (λa' w'=>∃s',K s'/\dd c s' a' w') Q:=by
 obtain⟨h1,h2,h3,_⟩:=xV hc;obtain⟨bl,hs⟩:=hs;have hd:∀k,io.dst=some k->k<c.n:=λk hk=>by rw[hn];exact h3 k (h2▸hk)
 have plain:∀{s:St}{bl:Nat->Option Nat},aT c bl (get s.env) (ak s.heap) a w->(gu io.op=true->ak s.heap (io.dst.getD 0)=none/\dG (io.dst.getD 0) (get s.env) (ak s.heap)/\(io.dst.getD 0<1000\/2000<=io.dst.getD 0)) ->
   (match cj (io.dst.getD 0) io.op (val (get s.env)) (ak s.heap)with
    | some (v,e)=>K ((s.eff e).put io.dst v)
    | none=>False)->o.wp P a w (λa' w'=>∃s',K s'/\dd c s' a' w') Q:=by
  intro s bl hs hnew hm;split at hm
  case h_2=>exact hm.elim
  rename_i v e he;refine De (MW hs h1 he hnew) (λr w' bl' q1 q2=>⟨_,hm,?_⟩);rw[<-h2];exact zU q1 io.dst hd q2 (O7 s e) (KE s e)
 unfold nW at h;split at h
 .rename_i f args hop;rw[hop]at h1;obtain⟨cl,hoo,hcl,hb,hv⟩:=Ko h1;refine oi (f:=f) (args:=cl.args.map a.eval) ?_ ?_
  .have:=lX (w:=w) hb (cl.args.map a.eval);simp[execOp,hoo,resolve,hcl,Act.eval,Deferred.ofValue,invoke,this]
  .have:=uB hd hs (pX hs hv) h;simp only[Array.toArray_toList]at this;rw[<-h2];exact this
 .rename_i f args hop;rw[hop]at h1;obtain⟨cl,t,hoo,hcl,rfl,hv⟩:=QD h1;split at h
  case h_2=>exact h.elim
  rename_i f caps hval;have hf:=hs.env t;simp only[val]at hval;rw[hval]at hf;obtain⟨cs,hf1,hf2⟩:=hf;have hev:a.eval (.tmp t) = .func (.func (fnI f)) (cs.take (Zq f)).toArray (cs.drop (Zq f)).toArray:=by
   rw[(JV (a:=a) (k:=t) (λb hb=>by rw[hb]at hf1;cases hf1)).2]at hf1;exact hf1
  have lift:∀{vs:List Value}{xs:List AV},bg (fB bl (bQ bl c.MF (ak s.heap)) w) vs xs->bg (bv bl (bQ bl c.MF (ak s.heap)) w) vs xs:=λhr=>hr.mono λ_ x _ hr=>(show bv bl (bQ bl c.MF (ak s.heap)) w _ x from by
    cases x<;>first|exact hr|trivial|(exfalso;simp only[fB]at hr;cases hr))
  by_cases hlt:f<4000000
  .rw[az hlt]at h;have eI:fnI f=f:=az hlt;have eK:Zq f=0:=az hlt;rw[eI,eK]at hev;simp only[jK,fo]at hev;obtain⟨hb,h⟩:=h;refine oi (f:=f) (args:=cl.args.map a.eval++cs.toArray) ?_ ?_
   .have:=lX (w:=w) hb (cl.args.map a.eval++cs.toArray);simp[execOp,hoo,resolve,hcl,hev,Deferred.ofValue,invoke,this]
   .have hargs:=(pX hs hv).append (lift hf2);have:=uB hd hs hargs h;have e1:((cl.args.map a.eval).toList++cs).toArray=cl.args.map a.eval++cs.toArray:=by apply Array.toList_inj.1;simp
    rw[e1]at this;rw[<-h2];exact this
  .rw[an hlt]at h;have eI:fnI f=f-4000000:=an hlt;have eK:Zq f=1:=an hlt;rw[eI,eK]at hev;obtain⟨hb,h⟩:=h;refine oi (f:=f-4000000) (args:=(cs.take 1).toArray++cl.args.map a.eval++(cs.drop 1).toArray) ?_ ?_
   .generalize (cs.take 1).toArray=A1 at hev⊢;generalize (cs.drop 1).toArray=A2 at hev⊢;have:=lX (w:=w) hb (A1++cl.args.map a.eval++A2);rw[Array.append_assoc]at this;simp[execOp,hoo,resolve,hcl,hev,Deferred.ofValue,invoke,this]
   .have hargs:=((lift (hf2.take 1)).append (pX hs hv)).append (lift (hf2.drop 1));have:=uB hd hs hargs h;have e1:((cs.take 1++(cl.args.map a.eval).toList)++cs.drop 1).toArray=(cs.take 1).toArray++cl.args.map a.eval++(cs.drop 1).toArray:=by apply Array.toList_inj.1;simp
    rw[e1]at this;rw[<-h2];exact this
 .rename_i t st rows ps hop;obtain⟨hlt,h⟩:=h;have go:∀{s:St}{bl:Nat->Option Nat},aT c bl (get s.env) (ak s.heap) a w->L0 io s K->o.wp P a w (λa' w'=>∃s',K s'/\dd c s' a' w') Q:=λ{s bl} hs hm=>by
   obtain⟨bl',hk⟩:=dd.kill (i:=io.dst.getD 0) ⟨bl,hs⟩;exact plain hk (λ_=>⟨(gR s _).1,(gR s _).2,.inl hlt⟩) hm
  split at h
  .rename_i v e he;refine go hs ?_;unfold L0;rw[hop,he];exact h
  .obtain⟨s',hw,h⟩:=h;obtain⟨bl',hs'⟩:=hw c a w ⟨bl,hs⟩;exact go hs' h
 .rename_i b x hop;obtain⟨op,t,y,z,t',e,hoo,ht,hb,hx,hy⟩:=YX (hop▸h1);have kk:∀{v:AV},bu P c o a w (get s.env) (ak s.heap) v .no->K (s.put io.dst v)->o.wp P a w (λa' w'=>∃s',K s'/\dd c s' a' w') Q:=λ{v} hok hk=>by
   refine De hok (λr w' bl' q1 q2=>⟨_,hk,?_⟩);rw[<-h2];exact zU q1 io.dst hd q2 (λ_=>rfl) (λ_=>rfl)
  split at h
  .rename_i st hv;have h5:=bc hs hx;rw[hv]at h5;have hy2:a.eval z = .slice none 0 0:=(bc hs hy).nl;generalize hu:a.eval y=u at h5;have h6:=h5.sl;have fin:∀{ad n cap},a.eval y = .slice ad n cap->o.wp P a w (λa' w'=>∃s',K s'/\dd c s' a' w') Q:=λ{ad n cap} h7=>by
    refine kk (v:=.bool (if ad.isNone then !b else b)) (bu.pure hs (r:=.bool _) (PW hoo ht hb h7 hy2) (oa _)) ?_;cases ad
    .exact h.2
    .exact h.1
   cases h6<;>exact fin hu
  .split at h
   case h_2=>exact h.elim
   rename_i v hv;exact kk (NY hs hoo ht hb hx hy hv) h
 .split at h
  .rename_i hal;obtain⟨hlt,h⟩:=h;obtain⟨bl',hk⟩:=dd.kill (i:=io.dst.getD 0) ⟨bl,hs⟩;exact plain hk (λ_=>⟨(gR s _).1,(gR s _).2,.inl hlt⟩) h
  .rename_i hal;exact plain hs (λh=>absurd h hal) h
def xI{bl:Nat->Option Nat}{M:Nat->Prop}{j k:Nat}(hj:(ops[j]?).bind (·.dst)=some k)(hk:bv bl M w (tv a k) (.tup [])):yielded ops a.tmps j=none:=by
 obtain⟨cs,h1,h2⟩:=hk;rw[(JV (a:=a) (k:=k) (λb hb=>by rw[hb]at h1;cases h1)).2]at h1;have hcs:cs=[]:=by cases cs with|nil=>rfl|cons=>exact h2.elim
 subst hcs;have:∀b,a.tmps[k]?≠some (.bool b):=λb hb=>by
  rw[pI,hb]at h1;cases h1
 unfold yielded;rw[hj];show(match a.tmps[k]? with|some (.bool b)=>some b|_=>none)=none;generalize a.tmps[k]? = x at this;cases x with
 | none=>rfl
 | some v=>cases v<;>first|rfl|exact absurd rfl (this _)
def x4(hn:c.n=n)(Q:Exit->Act->World->Prop){o:Oper}{io:bH}(h1:oK P n ops o=some io){il:List bH}{K:St->Prop}{KK:Act->World->Prop}{s:St}{a:Act}{w:World}(h:jR P (io::il) s K)(hs:dd c s a w)
  (hK:∀s' a' w',jR P il s' K->dd c s' a' w'->KK a' w'):if Region.wanted o (yielded ops a.tmps)then o.wp P a w KK Q\/(o.asks P a w/\LetsOut Q)else KK (a.put o.dst undef) w:=by
 obtain⟨_,hdst,hdn,hg⟩:=xV h1;have run:∀{s:St},nW P io s (λs'=>jR P il s' K)->dd c s a w->o.wp P a w KK Q:=λ{s} h hs =>
  Oper.wp_mono (λa' w' ⟨s',h3,h4⟩=>hK s' a' w' h3 h4) (Rj h1 hn h hs Q)
 rcases hg with⟨g1,g2⟩|⟨j,b,k,g1,g2,g3⟩
 .rw[az (by simp[Region.wanted,g1])];simp only[jR,g2]at h;exact .inl (run h hs)
 .simp only[jR,g3]at h;split at h
  case h_3=>exact h.elim
  case h_2 =>
   rename_i hv;obtain⟨bl,hsb⟩:=hs;have hk:=hsb.env k;rw[hv]at hk;have hy:=xI (ops:=ops) g2 hk;rw[an (by simp[Region.wanted,g1,hy])];refine hK _ _ w h ?_;rw[<-hdst];exact Mp ⟨bl,hsb⟩ io.dst (λq hq=>by rw[hn];exact hdn q (hdst▸hq)) ()
  rename_i t hv;obtain⟨bl,hsb⟩:=hs;have hk:=hsb.env k;rw[hv]at hk;have hkv:=hk.bool;rw[(JV (a:=a) (k:=k) (λb hb=>by rw[hb]at hkv;cases hkv)).2]at hkv;have hkn:k<a.tmps.size:=by
   rcases kU k a.tmps.size with hlt|hge
   .exact hlt
   .rw[pI,HY hge]at hkv;cases hkv
  have hy:yielded ops a.tmps j=some t:=by
   have:a.tmps[k]?=some (.bool t):=by
    rw[pI,yz hkn]at hkv;rw[yz hkn];simpa using hkv
   simp[yielded,g2,this]
  have hput:∀q:Bool,t=q->dd c (s.put (some k) (.bool q)) a w:=λq hq=>by
   refine⟨bl,hsb.congr (λi=>?_) (λi=>rfl)⟩;simp only[St.put,get,q_];by_cases hik:k=i
   .subst hik;simp[hv,hq]
   .have hik':¬i=k:=λe=>hik e.symm;simp[hik,hik']
  by_cases htb:t=b
  .rw[az (by simp[Region.wanted,g1,hy,htb])];exact .inl (run (h.1 htb) (hput b htb))
  .have htb':t = !b:=by cases t<;>cases b<;>simp_all
   rw[an (by simp[Region.wanted,g1,hy,htb])];refine hK _ _ w (h.2 htb') ?_;rw[<-hdst];exact Mp (hput _ htb') io.dst (λq hq=>by rw[hn];exact hdn q (hdst▸hq)) ()
def DY(hn:c.n=n)(Q:Exit->Act->World->Prop):∀(l:List Oper)(il:List bH),vL P n ops l=some il->∀(s:St)(K:St->Prop)(a:Act)(w:World),jR P il s K->dd c s a w ->
  (∀s' a' w',K s'->dd c s' a' w'->Q .normal a' w')->wpList P ops Q l a w
 | [],il,hc,s,K,a,w,h,hs,hQ=>by
  simp only[vL,dt]at hc;subst hc;exact hQ s a w h hs
 | o::r,il,hc,s,K,a,w,h,hs,hQ=>by
  simp only[vL]at hc;split at hc
  case h_2=>cases hc
  rename_i io il' h1 h2;cases hc;unfold wpList;exact x4 hn Q h1 h hs λs' a' w' h3 h4=>DY hn Q r il' h2 s' K a' w' h3 h4 hQ
end
section
variable{g g':Nat->AV}{h h':Nat->Option au}
def qA{v:IV}(hg:∀k∈bz v,g' k=g k):val g' v=val g v:=by
 cases v with
 | s k=>exact hg k (by simp[bz])
 | c x=>rfl
def yx{l:List IV}(hg:∀v∈l,∀k∈bz v,g' k=g k):l.map (val g')=l.map (val g):=J2 λv hv=>qA (hg v hv)
def RG{v:Option IV}(hg:∀x,v=some x->∀k∈bz x,g' k=g k):v.map (val g')=v.map (val g):=by
 cases v with
 | none=>rfl
 | some x=>simp only[fR];rw[qA (hg x rfl)]
def oN(id st off len:Nat):aV (.ms id st off len)=[id]:=rfl
def In(id st row off:Nat):aV (.mp id st row off)=[id]:=rfl
def Ka{n:Option Nat}{p:AV}(hh:∀id∈aV p,h' id=h id):mW n p h'=mW n p h:=by
 cases p<;>try rfl
 simp only[mW];rw[hh _ (by simp[In])]
def H6{n:Nat}{p x:AV}(hh:∀id∈aV p,h' id=h id):lq n p x h'=lq n p x h:=by
 unfold lq;split
 .rename_i id st row off cs h1;rw[hh id (by simp[In])]
 .rfl
def vc{st:Nat}{x:AV}(hh:∀id∈aV x,h' id=h id):jJ st h' x=jJ st h x:=by
 cases x<;>try rfl
 simp only[jJ];rw[hh _ (by simp[oN])]
def Do{d:Nat}{t:TypeId}{st:Nat}{x:AV}{src:Option (List (List AV))}(hh:∀id∈aV x,h' id=h id):qW d t st x src h'=qW d t st x src h:=by
 unfold qW;cases src with
 | none=>rfl
 | some ys =>
  cases x<;>try rfl
  simp only;rw[hh _ (by simp[oN])]
def MS{st:Nat}{x:AV}{src:Option (List (List AV))}(hh:∀id∈aV x,h' id=h id):Ci st x src h'=Ci st x src h:=by
 unfold Ci;cases src with
 | none=>rfl
 | some ys =>
  cases x<;>try rfl
  simp only;rw[hh _ (by simp[oN])]
def MT{x:AV}(hh:∀id∈aV x,h' id=h id):Qp x h'=Qp x h:=by
 unfold Qp;cases x<;>try rfl
 simp only;rw[hh _ (by simp[oN])]
def MV{d:Nat}{k:MK}{xs:List AV}(hh:∀x∈xs,∀id∈aV x,h' id=h id):nj d k xs h'=nj d k xs h:=by
 have hm:∀{id:Nat}{b:Bool}{r:List AV},xs = .mm id b::r->h' id=h id:=λ{id b r} hx=>hh (.mm id b) (by rw[hx];simp) id (by simp[aV,kx,iu,jc]);unfold nj;split<;>first|rfl|(rw[hm rfl])
def H5{ps:List (Nat×Nat×IV)}(hg:∀p∈ps,∀k∈bz p.2.2,g' k=g k):∀cells,mw (val g') cells ps=mw (val g) cells ps:=by
 induction ps with
 | nil=>intro cells;rfl
 | cons p r ih =>
  intro cells;obtain⟨off,n,v⟩:=p;have hv:val g' v=val g v:=qA (hg (off,n,v) (by simp));simp only[mw,hv];cases jv (val g v)with
  | none=>rfl
  | some cs=>simp only[ih (λp hp=>hg p (by simp[hp]))]
def Kb{st:Nat}{ps:List (Nat×IV)}(hg:∀p∈ps,∀k∈bz p.2,g' k=g k):∀rows,mX (val g') st rows ps=mX (val g) st rows ps:=by
 induction ps with
 | nil=>intro cells;rfl
 | cons p r ih =>
  intro cells;obtain⟨off,v⟩:=p;have hv:val g' v=val g v:=qA (hg (off,v) (by simp));simp only[mX,hv];cases jv (val g v)with
  | none=>rfl
  | some cs=>simp only[ih (λp hp=>hg p (by simp[hp]))]
def O_{v:IV}{S:List Nat}(hsub:∀k∈bz v,k∈S)(hh:∀k∈S,∀id∈aV (g k),h' id=h id)(hc:∀x,v = .c x->aV x=[]):∀id∈aV (val g v),h' id=h id:=by
 cases v with
 | s k=>intro id hid;exact hh k (hsub k (by simp[bz])) id hid
 | c x=>intro id hid;rw[show val g (.c x)=x from rfl,hc x rfl]at hid;cases hid
def iP{v:IV}(h:kz v=true):∀x,v = .c x->aV x=[]:=by
 rintro x rfl;simpa[kz]using h
def Qx{d:Nat}{op:ln}(hg:∀k∈aC op,g' k=g k)(hh:∀k∈aC op,∀id∈aV (g k),h' id=h id)(hc:bZ op=true):cj d op (val g') h'=cj d op (val g) h:=by
 have v1:∀{v:IV},(∀k∈bz v,k∈aC op)->val g' v=val g v:=λhs=>qA λk hk=>hg k (hs k hk);have vo:∀{v:Option IV},(∀x,v=some x->∀k∈bz x,k∈aC op)->v.map (val g')=v.map (val g):=λhs=>RG λx hx k hk=>hg k (hs x hx k hk);have hp:∀{v:IV},(∀k∈bz v,k∈aC op)->(∀x,v = .c x->aV x=[])->∀id∈aV (val g v),h' id=h id:=λhs hc=>O_ hs hh hc;cases op with
 | mov x=>simp only[cj];rw[v1 (λk hk=>by simp only[aC];exact hk)]
 | pick c a b =>
  simp only[cj];rw[v1 (v:=c) (λk hk=>by simp only[aC,gW];simp[hk]),v1 (v:=a) (λk hk=>by simp only[aC,gW];simp[hk]),v1 (v:=b) (λk hk=>by simp only[aC,gW];simp[hk])]
 | new t cs=>rfl
 | box t n x=>simp only[cj];rw[v1 (λk hk=>by simp only[aC];exact hk)]
 | build cs ps =>
  simp only[cj];rw[H5 (λp hp k hk=>hg k (by simp only[aC,pK];exact⟨p,hp,hk⟩))]
 | bsl t st rows ps =>
  simp only[cj];rw[Kb (λp hp k hk=>hg k (by simp only[aC,pK];exact⟨p,hp,hk⟩))]
 | load n p =>
  have hs:∀k∈bz p,k∈aC (.load n p):=λk hk=>by simp only[aC];exact hk
  simp only[cj];rw[v1 hs,Ka (hp hs (iP hc))]
 | store n p x =>
  simp only[bZ,dX]at hc;have hs:∀k∈bz p,k∈aC (.store n p x):=λk hk=>by simp only[aC,gW];simp[hk]
  have hs2:∀k∈bz x,k∈aC (.store n p x):=λk hk=>by simp only[aC,gW];simp[hk]
  simp only[cj];rw[v1 hs,v1 hs2,H6 (hp hs (iP hc.1))]
 | fadr off p=>simp only[cj];rw[v1 (λk hk=>by simp only[aC];exact hk)]
 | fld off n x=>simp only[cj];rw[v1 (λk hk=>by simp only[aC];exact hk)]
 | iadr st x i =>
  simp only[cj];rw[v1 (v:=x) (λk hk=>by simp only[aC,gW];simp[hk]),v1 (v:=i) (λk hk=>by simp only[aC,gW];simp[hk])]
 | aadr st n x i =>
  simp only[cj];rw[v1 (v:=x) (λk hk=>by simp only[aC,gW];simp[hk]),v1 (v:=i) (λk hk=>by simp only[aC,gW];simp[hk])]
 | mnx m x y =>
  simp only[cj];rw[v1 (v:=x) (λk hk=>by simp only[aC,gW];simp[hk]),v1 (v:=y) (λk hk=>by simp only[aC,gW];simp[hk])]
 | cpy st x y =>
  simp only[bZ,dX]at hc;have hs:∀k∈bz x,k∈aC (.cpy st x y):=λk hk=>by simp only[aC,gW];simp[hk]
  have hs2:∀k∈bz y,k∈aC (.cpy st x y):=λk hk=>by simp only[aC,gW];simp[hk]
  simp only[cj];rw[v1 hs,v1 hs2,vc (hp hs2 (iP hc.2)),MS (hp hs (iP hc.1))]
 | cvm x =>
  have hs:∀k∈bz x,k∈aC (.cvm x):=λk hk=>by simp only[aC];exact hk
  simp only[cj];rw[v1 hs,MT (hp hs (iP hc))]
 | sib x y =>
  simp only[cj];rw[v1 (v:=x) (λk hk=>by simp only[aC,gW];simp[hk]),v1 (v:=y) (λk hk=>by simp only[aC,gW];simp[hk])]
 | mop k xs =>
  simp only[bZ,ii]at hc;have hs:∀x∈xs,∀k'∈bz x,k'∈aC (.mop k xs):=λx hx k' hk=>by simp only[aC,pK];exact⟨x,hx,hk⟩
  have e1:xs.map (val g')=xs.map (val g):=J2 λx hx=>v1 (hs x hx);simp only[cj];rw[e1];exact MV λy hy id hid=>by
   obtain⟨x,hx,rfl⟩:=fb.1 hy;exact hp (hs x hx) (iP (hc x hx)) id hid
 | slc st x lo hi mx =>
  have e:∀{v:Option IV}{k:Nat},k∈lI v↔∃x,v=some x/\k∈bz x:=by
   intro v k;cases v<;>simp[lI]
  simp only[cj]
  rw[v1 (v:=x) (λk hk=>by simp only[aC,gW];simp[hk]),vo (v:=lo) (λy hy k hk=>by simp only[aC,gW];exact .inl (.inl (.inr (e.2 ⟨y,hy,hk⟩)))),
   vo (v:=hi) (λy hy k hk=>by simp only[aC,gW];exact .inl (.inr (e.2 ⟨y,hy,hk⟩))),vo (v:=mx) (λy hy k hk=>by simp only[aC,gW];exact .inr (e.2 ⟨y,hy,hk⟩))]
 | len x=>simp only[cj];rw[v1 (λk hk=>by simp only[aC];exact hk)]
 | app t st x y =>
  simp only[bZ,dX]at hc;have hs:∀k∈bz x,k∈aC (.app t st x y):=λk hk=>by simp only[aC,gW];simp[hk]
  have hs2:∀k∈bz y,k∈aC (.app t st x y):=λk hk=>by simp only[aC,gW];simp[hk]
  simp only[cj];rw[v1 hs,v1 hs2,vc (hp hs2 (iP hc.2)),Do (hp hs (iP hc.1))]
 | slen x=>simp only[cj];rw[v1 (λk hk=>by simp only[aC];exact hk)]
 | sslc x lo hi =>
  have e:∀{v:Option IV}{k:Nat},k∈lI v↔∃x,v=some x/\k∈bz x:=by
   intro v k;cases v<;>simp[lI]
  simp only[cj]
  rw[v1 (v:=x) (λk hk=>by simp only[aC,gW];simp[hk]),vo (v:=lo) (λy hy k hk=>by simp only[aC,gW];exact .inl (.inr (e.2 ⟨y,hy,hk⟩))),
   vo (v:=hi) (λy hy k hk=>by simp only[aC,gW];exact .inr (e.2 ⟨y,hy,hk⟩))]
 | apps t x y =>
  simp only[bZ,dX]at hc;have hs:∀k∈bz x,k∈aC (.apps t x y):=λk hk=>by simp only[aC,gW];simp[hk]
  have hs2:∀k∈bz y,k∈aC (.apps t x y):=λk hk=>by simp only[aC,gW];simp[hk]
  simp only[cj];rw[v1 hs,v1 hs2,Do (hp hs (iP hc.1))]
 | bin op x y =>
  simp only[cj];rw[v1 (v:=x) (λk hk=>by simp only[aC,gW];simp[hk]),v1 (v:=y) (λk hk=>by simp only[aC,gW];simp[hk])]
 | bbin op x y =>
  simp only[cj];rw[v1 (v:=x) (λk hk=>by simp only[aC,gW];simp[hk]),v1 (v:=y) (λk hk=>by simp only[aC,gW];simp[hk])]
 | pbin op x y =>
  simp only[cj];rw[v1 (v:=x) (λk hk=>by simp only[aC,gW];simp[hk]),v1 (v:=y) (λk hk=>by simp only[aC,gW];simp[hk])]
 | sbin op ls x y =>
  simp only[cj];rw[v1 (v:=x) (λk hk=>by simp only[aC,gW];simp[hk]),v1 (v:=y) (λk hk=>by simp only[aC,gW];simp[hk])]
 | un op x=>simp only[cj];rw[v1 (λk hk=>by simp only[aC];exact hk)]
 | cvi k' x=>simp only[cj];rw[v1 (λk hk=>by simp only[aC];exact hk)]
 | cvs x =>
  have hs:∀k∈bz x,k∈aC (.cvs x):=λk hk=>by simp only[aC];exact hk
  simp only[cj];rw[v1 hs,vc (hp hs (iP hc))]
 | cvt x=>simp only[cj];rw[v1 (λk hk=>by simp only[aC];exact hk)]
 | cvb t x=>simp only[cj];rw[v1 (λk hk=>by simp only[aC];exact hk)]
 | call f args=>rfl
 | callv f args=>rfl
 | snl b x=>simp only[cj];rw[v1 (λk hk=>by simp only[aC];exact hk)]
 | ext x i=>simp only[cj];rw[v1 (λk hk=>by simp only[aC];exact hk)]
 | nchk x=>simp only[cj];rw[v1 (λk hk=>by simp only[aC];exact hk)]
 | mkf f caps =>
  simp only[cj];rw[yx (λv hv k hk=>hg k (by simp only[aC,pK];exact⟨v,hv,hk⟩))]
 | sidx x i =>
  simp only[cj];rw[v1 (v:=x) (λk hk=>by simp only[aC,gW];simp[hk]),v1 (v:=i) (λk hk=>by simp only[aC,gW];simp[hk])]
 | mks t st z x y =>
  simp only[cj];rw[v1 (v:=x) (λk hk=>by simp only[aC,gW];simp[hk]),v1 (v:=y) (λk hk=>by simp only[aC,gW];simp[hk])]
def Ha{b:Bool}:∀{l l':List AV},(∀x∈l,∀id∈aV x,h' id=h id)->bg (X1 b h) l l'->bg (X1 b h') l l'
 | [],[],_,_=>trivial
 | x::l,x'::l',hh,hc=>⟨by
   rcases hc.1 with h1|h1|⟨hb,id,st,off,len,o,h1,h2,h3⟩
   .exact .inl h1
   .exact .inr (.inl h1)
   .refine .inr (.inr ⟨hb,id,st,off,len,o,h1,?_,h3⟩);rw[hh x (by simp) id (by rw[h1];simp[oN])];exact h2,Ha (λy hy=>hh y (by simp[hy])) hc.2⟩
 | [],_::_,_,hc=>hc.elim
 | _::_,[],_,hc=>hc.elim
end
def gU(g:Nat->AV)(d:Option Nat)(x:AV):Nat->AV :=
 match d with
 | some d=>fA g d x
 | none=>g
def cln(d:Nat)(op:ln)(ρ:IV->AV)(h:Nat->Option au)(v:AV)(e:bD):Prop:=e = .no/\gu op=true/\∃t st rows,v = .sl st rows/\cj d op ρ h=some (.ms d st 0 rows.length,.new d ⟨t,st,rows,false⟩)
def uC:ln->Bool
 | .mov _=>true
 | _=>false
def J_(P:Program)[bE P](o:bH)(g:Nat->AV)(h:Nat->Option au)(v:AV)(e:bD):Prop :=
 match o.op with
 | .call f args=>(e = .no/\aV v=[]/\∃args' b,aj P f args' v/\(∀x∈args',aV x=[])/\bg (X1 b h) (args.map (val g)) args'/\(b=true->oM v=true)) \/
   ∃k ob ob' Sb,e = .put k ob'/\aV v=[]/\bA P f (args.map (val g)) [(k,ob)] Sb (λr' σ'=>r'=v/\σ'=[(k,ob')])/\Sb k/\h k=some ob/\∃q∈aC o.op,k∈aV (g q)
 | .callv _ _=>False
 | op=>cj (o.dst.getD 0) op (val g) h=some (v,e)\/cln (o.dst.getD 0) op (val g) h v e
structure Fin(P:Program)[bE P](o:bH)(g:Nat->AV)(h:Nat->Option au)(v:AV)(e:bD)(x:HI)(g':Nat->AV)(h':Nat->Option au):Prop where
 run:J_ P o g h v e
 known:∀k∈aC o.op,g k≠.any
 opnd:∀k∈aC o.op,∀id∈aV (g k),id∈x.op\/(uC o.op=true/\id∈x.res)
 alone:¬(x.rb=true/\x.wr=true)->∀i o',e = .reb i o'->∀j q,h j=some q->i∉fG q
 fresh:∀i o',e = .new i o'->h i=none
 res:∀d,d∈aV v\/d∈e.ids->d∈x.res
 tch:x.tch=e.tch
 rb:x.rb=e.isReb
 wr:x.wr=e.isPut\/(x.rb=true/\x.wr=true)
 hg:g'=gU (e.env g) o.dst v
 hh:h'=e.hp h
 ld:x.ld = .ld->∃n p,o.op = .load n p
def gF(P:Program)[bE P](o:bH)(g:Nat->AV)(h:Nat->Option au)(ev:Option (AV×bD))(x:HI)(g':Nat->AV)(h':Nat->Option au):Prop :=
 match ev with
 | some (v,e)=>(∀k b,o.g=some (k,b)->g k = .bool b)/\Fin P o g h v e x g' h'
 | none=>(∃k b,o.g=some (k,b)/\(g k = .bool (!b)\/g k = .tup []))/\g'=gU g o.dst (.tup [])/\h'=h/\x.tch=[]/\x.rb=false/\x.wr=false
section
variable{P:Program}[bE P]{o:bH}{g g' g1 g2:Nat->AV}{h h' h1 h2:Nat->Option au}{v:AV}{e:bD}
def J_.local(hr:J_ P o g h v e)(hg:∀k∈aC o.op,g' k=g k)(hh:uC o.op=false->∀k∈aC o.op,∀id∈aV (g k),h' id=h id)(hc:bZ o.op=true):J_ P o g' h' v e:=by
 unfold J_ at hr⊢;split at hr
 .rename_i f args hop;rcases hr with⟨h1,h2,args',b,h3,h4,h5,h6⟩|⟨k,ob,ob',Sb,h1,h2,h3,h4,h5,q,h6,h7⟩
  rotate_left
  .refine .inr ⟨k,ob,ob',Sb,h1,h2,?_,h4,?_,q,h6,by rw[hg q h6];exact h7⟩
   .rw[hop]at hg;rw[yx (λv hv k hk=>hg k (by simp only[aC,pK];exact⟨v,hv,hk⟩))];exact h3
   .rw[hh (by rw[hop];rfl) q h6 k h7];exact h5
  refine .inl ⟨h1,h2,args',b,h3,h4,?_,h6⟩;replace hh:=hh (by rw[hop];rfl);rw[hop]at hg hh hc;rw[yx (λv hv k hk=>hg k (by simp only[aC,pK];exact⟨v,hv,hk⟩))];refine Ha (λx hx id hid=>?_) h5;obtain⟨iv,hiv,rfl⟩:=fb.1 hx;refine O_ (S:=aC (.call f args)) (λk hk=>by simp only[aC,pK];exact⟨iv,hiv,hk⟩) hh ?_ id hid;simp only[bZ,ii]at hc;exact iP (hc iv hiv)
 .exact hr
 .rename_i n1 n2;have key:cj (o.dst.getD 0) o.op (val g') h'=cj (o.dst.getD 0) o.op (val g) h:=by
   by_cases hmv:uC o.op=true
   .cases ho:o.op with
    | mov x =>
     simp only[cj];cases x with
     | s k=>rw[show val g' (.s k)=val g (.s k) from hg k (by rw[ho];simp[aC,bz])]
     | c y=>rfl
    | _=>rw[ho]at hmv;cases hmv
   .exact Qx hg (hh (by simpa using hmv)) hc
  unfold cln;rw[key];exact hr
def C5{d:Option Nat}{x:AV}{k:Nat}(hk:d≠some k):gU g d x k=g k:=by
 cases d with
 | none=>rfl
 | some d=>exact cZ _ _ (λh=>hk (by rw[h]))
def aa8{i:Nat}{x:AV}(hx:jU i x≠.any):jU i x=x:=by
 unfold jU at hx⊢;split
 .rename_i hm;simp[hm]at hx
 .rfl
def Jz{i:Nat}{x:AV}(hx:i∉aV x):jU i x=x:=by
 unfold jU;rw[an (λhm=>hx (py hm))]
def aa7{i:Nat}{o:au}(hx:i∉fG o):ff i o=o:=by
 unfold ff;split
 .rename_i hr;simp only[fG,hr,dR,pK,not_exists,not_and]at hx;have:o.rows.map (λr=>r.map (rC i))=o.rows:=by
   conv=>rhs;rw[<-List.map_id o.rows]
   refine J2 λr hr'=>?_
   conv=>rhs;rw[id,<-List.map_id r]
   refine J2 λy hy=>?_;unfold rC;rw[an (λhm=>hx r hr' y hy (ya hm))];rfl
  rw[this]
 .rfl
def aeD{i:Nat}{o':au}(ha:∀j q,h j=some q->i∉fG q):bD.hp h (.reb i o')=fA h i (some o'):=by
 funext j;simp only[bD.hp,fA];split
 .rfl
 .cases hj:h j with
  | none=>rfl
  | some q=>simp only[fR];rw[aa7 (ha j q hj)]
def RL(i j:Nat)(x:AV):jU i (jU j x)=jU j (jU i x):=by
 have hany:∀i,mV i .any=false:=λ_=>rfl;unfold jU;by_cases h1:mV i x=true<;>by_cases h2:mV j x=true<;>simp only[h1,h2,hany,dR,lD,ij]
def Zj(e e':bD):e.env (e'.env g)=e'.env (e.env g):=by
 cases e<;>cases e'<;>first|rfl|(funext k;exact RL _ _ _)
def bD.pur(e:bD)(x:AV):AV :=
 match e with
 | .reb i _=>jU i x
 | _=>x
def Ie(e:bD)(d:Option Nat)(x:AV):e.env (gU g d x)=gU (e.env g) d (e.pur x):=by
 cases d with
 | none=>rfl
 | some d =>
  cases e with
  | reb i o' =>
   funext k;simp only[bD.env,gU,bD.pur,fA];split<;>rfl
  | _=>rfl
def N8{e:bD}{x:AV}(hx:e.isReb=true->∀d∈e.tch,d∉aV x):e.pur x=x:=by
 cases e with
 | reb i o'=>exact Jz (hx rfl i (by simp[bD.tch]))
 | _=>rfl
def HM{d d':Option Nat}{x x':AV}(hd:∀k,d=some k->d'≠some k):gU (gU g d x) d' x'=gU (gU g d' x') d x:=by
 cases d with
 | none=>rfl
 | some d =>
  cases d' with
  | none=>rfl
  | some d' =>
   have hne:d≠d':=λhh=>hd d rfl (by rw[hh]);funext k;simp only[gU,fA];by_cases h1:k=d<;>by_cases h2:k=d'<;>simp_all
def Pa(h:Nat->Option au)(e:bD):Nat->Option au :=
 match e with
 | .no=>h
 | .put i o=>fA h i (some o)
 | .new i o=>fA h i (some o)
 | .reb i o=>fA h i (some o)
def Pb(e:bD)(ha:∀i o',e = .reb i o'->∀j q,h j=some q->i∉fG q):e.hp h=Pa h e:=by
 cases e with
 | reb i ob=>exact aeD (ha i ob rfl)
 | _=>rfl
def Ik{e:bD}{id:Nat}(hid:id∉e.tch):Pa h e id=h id:=by
 cases e<;>first|rfl|exact cZ _ _ (λhh=>hid (by simp[bD.tch,hh]))
def Us{e e':bD}(hd:∀d∈e.tch,d∉e'.tch):Pa (Pa h e) e'=Pa (Pa h e') e:=by
 have key:∀(i j:Nat)(p q:Option au),i≠j->fA (fA h i p) j q=fA (fA h j q) i p:=λi j p q hij=>by
  funext k;simp only[fA];by_cases h1:k=i<;>by_cases h2:k=j<;>simp_all
 cases e<;>cases e'<;>first|rfl|exact key _ _ _ _ (by simpa[bD.tch]using hd)
def aeC{e:bD}{j:Nat}{q:au}(hq:Pa h e j=some q):(h j=some q)\/fG q=e.ids:=by
 cases e with
 | no=>exact .inl hq
 | put i ob =>
  simp only[Pa,fA]at hq;split at hq
  .cases hq;exact .inr rfl
  .exact .inl hq
 | new i ob =>
  simp only[Pa,fA]at hq;split at hq
  .cases hq;exact .inr rfl
  .exact .inl hq
 | reb i ob =>
  simp only[Pa,fA]at hq;split at hq
  .cases hq;exact .inr rfl
  .exact .inl hq
def YJ{d:Nat}{op:ln}{ρ:IV->AV}{j:Nat}{o':au}(hr:cj d op ρ h=some (v,.reb j o')):∃q,h j=some q/\q.isRec=false:=by
 have happ:∀{t st x src},qW d t st x src h=some (v,.reb j o')->∃q,h j=some q/\q.isRec=false:=by
  intro t st x src ha;unfold qW at ha;split at ha
  .cases ha
  .split at ha
   .split at ha
    .cases ha
    .split at ha
     .rename_i ob hob;split at ha
      .rename_i hc;cases ha;exact⟨ob,hob,hc.2.2.2.1⟩
      .cases ha
     .cases ha
    .cases ha
   .cases ha
 have hres:∀{y:Option AV},res y≠some (v,.reb j o'):=λhh=>by
  have:=(bW hh).2;cases this
 cases op<;>simp only[cj]at hr
 case app=>exact happ hr
 case apps=>exact happ hr
 case cpy=>obtain⟨_,_,q⟩:=Dp hr;cases q
 case cvm=>obtain⟨_,_,_,_,_,_,_,_,_,_,_,_,q⟩:=uq hr;cases q
 case mop=>rcases zd hr with q|⟨_,q,_⟩|⟨_,_,_,_,_,q⟩<;>cases q
 all_goals
  exfalso
  first
   | exact hres hr
   | (cases hr;done)
   | (simp only[eS,vn]at hr
      obtain⟨e',h1,_,h2⟩:=hr;subst h2;unfold lq at h1
      repeat' (split at h1)
      all_goals cases h1)
   | (repeat' (split at hr)
      all_goals first|(cases hr;done)|exact hres hr)
structure SE(x y:HI):Prop where
 a:∀d∈y.tch,d∉x.op/\d∉x.tch
 b:∀d∈x.tch,d∉y.op
 c:x.rb=true->∀d∈x.tch,d∉y.res
 d:y.rb=true->∀d∈y.tch,d∉x.res
 e:¬(x.rb=true/\y.wr=true)
 f:¬(y.rb=true/\x.wr=true)
 g:¬(x.rb=true/\x.wr=true)
 h:¬(y.rb=true/\y.wr=true)
structure ahi(x y:HI):Prop where
 r:x.rb=true
 w:x.wr=true
 op:y.op=[]\/y.ld = .ld
 nop:∀d∈x.tch,d∉y.op
 tch:y.tch=[]
 rb:y.rb=false
 res:∀d∈x.tch,d∉y.res
def Mt(x y:HI):Prop:=SE x y\/ahi x y
def SE.of{x y:HI}(hm:Iz x y=true):SE x y:=by
 simp only[Iz,dX,ii,Az,Fr,OF,decide_eq_false_iff_not]at hm;obtain⟨⟨⟨⟨⟨⟨⟨h1,h2⟩,h3⟩,h4⟩,h5⟩,h6⟩,h7⟩,h8⟩:=hm;refine⟨h1,h2,λhr=>?_,λhr=>?_,λhr=>?_,λhr=>?_,λhr=>?_,λhr=>?_⟩
 .rcases h3 with h3|h3
  .rw[h3]at hr;cases hr
  .exact h3
 .rcases h4 with h4|h4
  .rw[h4]at hr;cases hr
  .exact h4
 .simp[hr.1,hr.2]at h5
 .simp[hr.1,hr.2]at h6
 .simp[hr.1,hr.2]at h7
 .simp[hr.1,hr.2]at h8
structure GU(o o':bH):Prop where
 a:∀d,o.dst=some d->d∉ef o'/\o'.dst≠some d
 b:∀d,o'.dst=some d->d∉ef o
def uG(k:Nat)(o:bH)(hk:k∈aC o.op):k∈ef o:=by simp[ef,hk]
def D9(k:Nat)(b:Bool)(o:bH)(hk:o.g=some (k,b)):k∈ef o:=by simp[ef,hk]
def sA(ev:Option (AV×bD)):AV:=match ev with|some (v,_)=>v|none=>.tup []
def fL(ev:Option (AV×bD)):bD:=match ev with|some (_,e)=>e|none=>.no
def ku(o:bH):List Nat:=match o.g with|some (k,_)=>[k]|none=>[]
def gF.state{ev:Option (AV×bD)}{x:HI}(hs:gF P o g h ev x g' h'):g'=gU ((fL ev).env g) o.dst (sA ev)/\h'=(fL ev).hp h/\x.tch=(fL ev).tch/\x.rb=(fL ev).isReb/\(¬(x.rb=true/\x.wr=true)->x.wr=(fL ev).isPut) /\
  (¬(x.rb=true/\x.wr=true)->∀i o',fL ev = .reb i o'->∀j q,h j=some q->i∉fG q)/\(∀d,d∈aV (sA ev)\/d∈(fL ev).ids->d∈x.res)/\(∀i o',fL ev = .new i o'->h i=none)/\(∀i o',fL ev = .reb i o'->∃q,h i=some q/\q.isRec=false):=by
 cases ev with
 | none=>obtain⟨_,h1,h2,h3,h4,h5⟩:=hs;exact⟨h1,h2,h3,h4,λ_=>h5,λ_ i o' he=>by simp[fL]at he,λd hd=>by
   rcases hd with hd|hd
   .simp[sA,aV,kx,iu,jc]at hd
   .simp[fL,bD.ids]at hd,λi o' he=>by simp[fL]at he,λi o' he=>by simp[fL]at he⟩
 | some p =>
  obtain⟨v,e⟩:=p;obtain⟨_,hf⟩:=hs;refine⟨hf.hg,hf.hh,hf.tch,hf.rb,λhw=>hf.wr.resolve_right hw,hf.alone,hf.res,hf.fresh,λi o' he=>?_⟩;simp only[fL]at he;subst he;have hr:=hf.run;unfold J_ at hr;split at hr
  .rcases hr with hr|⟨_,_,_,_,hr,_⟩
   .cases hr.1
   .cases hr
  .exact hr.elim
  .rcases hr with hr|⟨hr,_⟩
   .exact YJ hr
   .cases hr
def gF.local{ev:Option (AV×bD)}{x:HI}(hs:gF P o g h ev x g' h')(hg:∀k∈ku o,g1 k=g k)(hg2:ev.isSome=true->∀k∈aC o.op,g1 k=g k)(hh:ev.isSome=true->uC o.op=false->∀k∈aC o.op,∀id∈aV (g k),h1 id=h id)(hc:bZ o.op=true)
  (ha:¬(x.rb=true/\x.wr=true)->∀i o',fL ev = .reb i o'->∀j q,h1 j=some q->i∉fG q) (hn:∀i o',fL ev = .new i o'->h1 i=none):gF P o g1 h1 ev x (gU ((fL ev).env g1) o.dst (sA ev)) ((fL ev).hp h1):=by
 cases ev with
 | none =>
  obtain⟨⟨k,b,h2,h3⟩,_,_,h4⟩:=hs;exact⟨⟨k,b,h2,by rw[hg k (by simp[ku,h2])];exact h3⟩,rfl,rfl,h4⟩
 | some p =>
  obtain⟨v,e⟩:=p;obtain⟨h2,hf⟩:=hs;refine⟨λk b hk=>by rw[hg k (by simp[ku,hk])];exact h2 k b hk,⟨?_,λk hk=>?_,λk hk id hid=>?_,ha,hn,hf.res,hf.tch,hf.rb,hf.wr,rfl,rfl,hf.ld⟩⟩
  .exact hf.run.local (hg2 rfl) (hh rfl) hc
  .rw[hg2 rfl k hk];exact hf.known k hk
  .rw[hg2 rfl k hk]at hid;exact hf.opnd k hk id hid
def alM{m i:bH}{evm evi:Option (AV×bD)}{y x:HI}(hm:gF P m g h evm y g1 h1)(hi:gF P i g1 h1 evi x g2 h2)(hap:GU m i)(hmt:SE x y)(hcm:bZ m.op=true)(hci:bZ i.op=true) :
  ∃g3 h3,gF P i g h evi x g3 h3/\gF P m g3 h3 evm y g2 h2:=by
 obtain⟨gm,hhm,tm,rm,wm,am,resm,fm,bm⟩:=hm.state;obtain⟨gi,hhi,ti,ri,wi,ai,resi,fi,bi⟩:=hi.state;replace wm:=wm hmt.h;replace am:=am hmt.h;replace wi:=wi hmt.g;replace ai:=ai hmt.g;rw[Pb _ am]at hhm;rw[Pb _ ai]at hhi;have same:∀id,id∉(fL evm).tch->h1 id=h id:=λid hid=>by rw[hhm];exact Ik hid
 have gsub:∀(o:bH) k,k∈ku o->k∈ef o:=λo k hk=>by
  unfold ku at hk;split at hk
  .rename_i k' b hg;simp at hk;subst hk;exact D9 k b o hg
  .simp at hk
 have gval:∀{o:bH}{g h ev x g' h'},gF P o g h ev x g' h'->∀k∈ku o,(∃b,g k = .bool b)\/g k = .tup []:=by
  intro o g h ev x g' h' hs k hk;unfold ku at hk;split at hk
  .rename_i k' b hg;simp at hk;subst hk;cases ev with
   | none=>obtain⟨⟨k2,b2,h3,h4⟩,_⟩:=hs;rw[hg]at h3;cases h3;exact h4.imp (λh=>⟨_,h⟩) (λh=>h)
   | some p=>exact .inl ⟨b,hs.1 k b hg⟩
  .simp at hk
 have keep1:∀k,k∈ef i->g1 k≠.any->g1 k=g k:=λk hk hna=>by
  rw[gm]at hna⊢;have e1:gU ((fL evm).env g) m.dst (sA evm) k=(fL evm).env g k:=C5 (λhdk=>(hap.a k hdk).1 hk);rw[e1]at hna⊢;cases he:fL evm with
  | reb q ob=>rw[he]at hna;exact aa8 hna
  | _=>rfl
 have rdg:∀k∈ku i,g k=g1 k:=λk hk=>by
  rcases gval hi k hk with⟨b,hb⟩|hb<;>exact(keep1 k (gsub i k hk) (by rw[hb];simp)).symm
 have rdo:evi.isSome=true->∀k∈aC i.op,g k=g1 k:=λhs k hk=>by
  obtain⟨p,rfl⟩:=Bv.1 hs;exact(keep1 k (uG k i hk) (hi.2.known k hk)).symm
 have rdh:evi.isSome=true->uC i.op=false->∀k∈aC i.op,∀id∈aV (g1 k),h id=h1 id:=λhs hmv k hk id hid=>by
  obtain⟨p,rfl⟩:=Bv.1 hs;refine(same id (λht=>?_)).symm;rw[<-tm]at ht;rcases hi.2.opnd k hk id hid with q|⟨q,_⟩
  .exact(hmt.a id ht).1 q
  .rw[hmv]at q;cases q
 have ai':∀q o',fL evi = .reb q o'->∀j p,h j=some p->q∉fG p:=λq o' he j p hp=>by
  by_cases hj:j∈(fL evm).tch
  .cases hem:fL evm with
   | no=>rw[hem]at hj;simp[bD.tch]at hj
   | put j' ob =>
    exfalso;refine hmt.e ⟨by rw[ri,he];rfl,by rw[wm,hem];rfl⟩
   | new j' ob =>
    rw[hem]at hj;simp[bD.tch]at hj;subst hj;rw[fm j ob hem]at hp;cases hp
   | reb j' ob =>
    rw[hem]at hj;simp[bD.tch]at hj;subst hj;obtain⟨q',h3,h4⟩:=bm j ob hem;rw[hp]at h3;cases h3;simp[fG,h4]
  .exact ai q o' he j p (by rw[same j hj];exact hp)
 have fi':∀q o',fL evi = .new q o'->h q=none:=λq o' he=>by
  rw[<-same q (λht=>by
   rw[<-tm]at ht;exact(hmt.a q ht).2 (by rw[ti,he];simp[bD.tch]))]
  exact fi q o' he
 have s1:=hi.local rdg rdo rdh hci (λ_=>ai') fi';rw[Pb _ ai']at s1;refine⟨_,_,s1,?_⟩;have keep2:∀k,k∈ef m->((fL evi).isReb=true->∀d∈(fL evi).tch,d∉aV (g k))->gU ((fL evi).env g) i.dst (sA evi) k=g k:=λk hk hno=>by
  have e1:gU ((fL evi).env g) i.dst (sA evi) k=(fL evi).env g k:=C5 (λhdk=>hap.b k hdk hk);rw[e1];cases he:fL evi with
  | reb q ob=>exact Jz (hno (by rw[he];rfl) q (by rw[he];simp[bD.tch]))
  | _=>rfl
 have opm:evm.isSome=true->∀k∈aC m.op,∀d∈(fL evi).tch,d∈aV (g k)->uC m.op=true/\d∈y.res:=λhs k hk d hd hid=>by
  obtain⟨p,rfl⟩:=Bv.1 hs;rcases hm.2.opnd k hk d hid with q|q
  .exact absurd q (hmt.b d (by rw[ti];exact hd))
  .exact q
 have am2:∀q o',fL evm = .reb q o'->∀j p,Pa h (fL evi) j=some p->q∉fG p:=λq o' he j p hp=>by
   rcases aeC hp with h3|h3
   .exact am q o' he j p h3
   .rw[h3];intro hq;exact hmt.d (by rw[rm,he];rfl) q (by rw[tm,he];simp[bD.tch]) (resi q (.inr hq))
 have s2:=hm.local (g1:=gU ((fL evi).env g) i.dst (sA evi)) (h1:=Pa h (fL evi)) (λk hk=>keep2 k (gsub m k hk) (λ_ d _=>by
   rcases gval hm k hk with⟨b,hb⟩|hb<;>rw[hb]<;>simp[aV,kx,iu,jc])) (λhs k hk=>keep2 k (uG k m hk) (λhr d hd hid=>hmt.c (by rw[ri];exact hr) d (by rw[ti];exact hd) (opm hs k hk d hd hid).2)) (λhs hmv k hk id hid=>Ik (λht=>by
   have:=(opm hs k hk id ht hid).1
   rw[hmv]at this;cases this)) hcm (λ_=>am2) (λq o' he=>by
   rw[Ik (λht=>(hmt.a q (by rw[tm,he];simp[bD.tch])).2 (by rw[ti];exact ht))];exact fm q o' he)
 rw[Pb _ am2]at s2;have eg:gU ((fL evm).env (gU ((fL evi).env g) i.dst (sA evi))) m.dst (sA evm)=g2:=by
  rw[gi,gm,Ie,Ie,Zj (fL evi) (fL evm)];rw[N8 (e:=fL evm) (x:=sA evi) (λhr d hd hid=>hmt.d (by rw[rm];exact hr) d (by rw[tm];exact hd) (resi d (.inl hid)))];rw[N8 (e:=fL evi) (x:=sA evm) (λhr d hd hid=>hmt.c (by rw[ri];exact hr) d (by rw[ti];exact hd) (resm d (.inl hid)))];exact HM (λk hk hk'=>(hap.a k hk').2 hk)
 have eh:Pa (Pa h (fL evi)) (fL evm)=h2:=by
  rw[hhi,hhm];exact Us (λd hd hd'=>(hmt.a d (by rw[tm];exact hd')).2 (by rw[ti];exact hd))
 rw[eg,eh]at s2;exact s2
def aaB{i:Nat}{v:AV}(h:mC i v=true):i∈aV v:=by
 cases v<;>first|exact ya h|(simp[mC,mP]at h;done)
def aav{n:Option Nat}{r:List AV}{off i:Nat}{v:AV}(hl:yB n (r.drop off)=some v)(hv:i∉aV v):yB n ((r.map (rC i)).drop off)=some v:=by
 rw[<-List.map_drop];generalize r.drop off=q at hl;cases n with
 | none =>
  simp only[yB,iG]at hl⊢;rw[hl];simp only[fR,rC];rw[an (λhm=>hv (aaB hm))]
 | some n =>
  simp only[yB,bY]at hl⊢;split at hl
  case isFalse=>cases hl
  rename_i hn;cases hl;rw[az hn,<-List.map_take];congr 2;have:∀x∈q.take n,rC i x=x:=λx hx=>by
   unfold rC;rw[an (λhm=>hv (by simp only[aV,kx,pK];exact⟨x,hx,ya hm⟩))]
  exact(J2 this).trans (List.map_id _)
def SY{n:Option Nat}{x:AV}{v:AV}{e:bD}(hl:mW n x h=some v)(hx:∀d∈e.tch,d∉aV x)(hv:∀d∈e.tch,d∉aV v):mW n x (e.hp h)=some v:=by
 cases x<;>try exact hl
 case mp id st row off =>
  have key:∀i,i∈e.tch->id≠i:=λi hi hid=>hx i hi (by subst hid;simp[aV,kx,iu,jc]);cases e with
  | no=>exact hl
  | put i o=>simp only[mW,bD.hp,fA,an (key i (by simp[bD.tch]))]at hl⊢;exact hl
  | new i o=>simp only[mW,bD.hp,fA,an (key i (by simp[bD.tch]))]at hl⊢;exact hl
  | reb i o =>
   simp only[mW,bD.hp,fA,an (key i (by simp[bD.tch]))]at hl⊢;split at hl
   case h_2=>cases hl
   rename_i o1 ho1;rw[ho1];simp only[fR,C4];split at hl
   case isFalse=>cases hl
   rename_i hst;rw[az hst];split at hl
   case h_2=>cases hl
   rename_i r hr;have hrow:(ff i o1).rows[row]?=some (if o1.isRec=true then r.map (rC i)else r):=by
    unfold ff;by_cases hrec:o1.isRec=true
    .simp only[hrec,dR,iG,hr,fR]
    .simp only[hrec];simpa using hr
   rw[hrow];show yB n ((if o1.isRec=true then r.map (rC i)else r).drop off)=some v;by_cases hrec:o1.isRec=true
   .rw[az hrec];exact aav hl (hv i (by simp[bD.tch]))
   .rw[an hrec];exact hl
def aj1{m i:bH}{evm evi:Option (AV×bD)}{y x:HI}(hm:gF P m g h evm y g1 h1)(hi:gF P i g1 h1 evi x g2 h2)(hap:GU m i)(hw:ahi x y)(hcm:bZ m.op=true)(hci:bZ i.op=true) :
  ∃g3 h3,gF P i g h evi x g3 h3/\gF P m g3 h3 evm y g2 h2:=by
 obtain⟨gm,hhm,tm,rm,wm,am,resm,fm,bm⟩:=hm.state;obtain⟨gi,hhi,ti,ri,wi,ai,resi,fi,bi⟩:=hi.state;have em:fL evm = .no:=by
  rw[hw.tch]at tm;cases he:fL evm<;>first|rfl|(rw[he]at tm;cases tm)
 have hh1:h1=h:=by rw[hhm,em];rfl
 have gg1:g1=gU g m.dst (sA evm):=by rw[gm,em];rfl
 have gsub:∀(o:bH) k,k∈ku o->k∈ef o:=λo k hk=>by
  unfold ku at hk;split at hk
  .rename_i k' b hg;simp at hk;subst hk;exact D9 k b o hg
  .simp at hk
 have keep1:∀k,k∈ef i->g k=g1 k:=λk hk=>by
  rw[gg1];exact(C5 (λhdk=>(hap.a k hdk).1 hk)).symm
 have s1:=hi.local (g1:=g) (h1:=h) (λk hk=>keep1 k (gsub i k hk)) (λ_ k hk=>keep1 k (uG k i hk)) (λ_ _ k hk id hid=>by rw[hh1]) hci (λhn=>absurd ⟨hw.r,hw.w⟩ hn) (λq o' he=>by
  rw[he]at ri;rw[hw.r]at ri;cases ri)
 refine⟨_,_,s1,?_⟩;have keep2:∀k,k∈ef m->(∀d∈(fL evi).tch,d∉aV (g k))->gU ((fL evi).env g) i.dst (sA evi) k=g k:=λk hk hno=>by
  have e1:gU ((fL evi).env g) i.dst (sA evi) k=(fL evi).env g k:=C5 (λhdk=>hap.b k hdk hk);rw[e1];cases he:fL evi with
  | reb q ob=>exact Jz (hno q (by rw[he];simp[bD.tch]))
  | _=>rfl
 have gval:∀k∈ku m,(∃b,g k = .bool b)\/g k = .tup []:=λk hk=>by
  unfold ku at hk;split at hk
  .rename_i k' b hg;simp at hk;subst hk;cases evm with
   | none=>obtain⟨⟨k2,b2,h3,h4⟩,_⟩:=hm;rw[hg]at h3;cases h3;exact h4.imp (λh=>⟨_,h⟩) (λh=>h)
   | some p=>exact .inl ⟨b,hm.1 k b hg⟩
  .simp at hk
 have s2:gF P m (gU ((fL evi).env g) i.dst (sA evi)) ((fL evi).hp h) evm y (gU ((fL evm).env (gU ((fL evi).env g) i.dst (sA evi))) m.dst (sA evm)) ((fL evm).hp ((fL evi).hp h)):=by
  have kg:∀k∈ku m,gU ((fL evi).env g) i.dst (sA evi) k=g k:=λk hk=>keep2 k (gsub m k hk) (λd _=>by
   rcases gval k hk with⟨b,hb⟩|hb<;>rw[hb]<;>simp[aV,kx,iu,jc])
  rcases hw.op with hop|hld
  .have opm:evm.isSome=true->∀k∈aC m.op,∀d,d∈aV (g k)->uC m.op=true/\d∈y.res:=λhs k hk d hid=>by
    obtain⟨p,rfl⟩:=Bv.1 hs;rcases hm.2.opnd k hk d hid with q|q
    .rw[hop]at q;cases q
    .exact q
   exact hm.local (g1:=gU ((fL evi).env g) i.dst (sA evi)) (h1:=(fL evi).hp h) kg (λhs k hk=>keep2 k (uG k m hk) (λd hd hid=>hw.res d (by rw[ti];exact hd) (opm hs k hk d hid).2)) (λhs hmv k hk id hid=>by
    have:=(opm hs k hk id hid).1;rw[hmv]at this;cases this) hcm (λ_ q o' he=>by rw[em]at he;cases he) (λq o' he=>by rw[em]at he;cases he)
  .cases evm with
   | none=>exact hm.local (g1:=gU ((fL evi).env g) i.dst (sA evi)) (h1:=(fL evi).hp h) kg (λhs=>by cases hs) (λhs=>by cases hs) hcm (λ_ q o' he=>by cases he) (λq o' he=>by cases he)
   | some p =>
    obtain⟨v,e⟩:=p;obtain⟨hgd,hf⟩:=hm;obtain⟨n,p,hop⟩:=hf.ld hld;have he:e = .no:=em;subst he;have ids2:∀k∈aC m.op,∀d∈(fL evi).tch,d∉aV (g k):=λk hk d hd hid=>by
     rcases hf.opnd k hk d hid with q|⟨q,_⟩
     .exact hw.nop d (by rw[ti];exact hd) q
     .rw[hop]at q;cases q
    have ko:∀k∈aC m.op,gU ((fL evi).env g) i.dst (sA evi) k=g k:=λk hk=>keep2 k (uG k m hk) (ids2 k hk);have hr:=hf.run;refine⟨λk b hk=>by rw[kg k (by simp[ku,hk])];exact hgd k b hk,⟨?_,λk hk=>by rw[ko k hk];exact hf.known k hk,λk hk id hid=>hf.opnd k hk id (by rw[ko k hk]at hid;exact hid),(λ_ q o' he=>by cases he),(λq o' he=>by cases he),hf.res,hf.tch,hf.rb,hf.wr,rfl,rfl,hf.ld⟩⟩;unfold J_ at hr⊢;rw[hop]at hr⊢;simp only at hr⊢;rcases hr with hr|hr
    .refine .inl ?_;simp only[cj,Mw.res,eS,vn,and_true]at hr⊢;obtain⟨v',hl,hv'⟩:=hr;subst hv';have hvp:val (gU ((fL evi).env g) i.dst (sA evi)) p=val g p/\∀d∈(fL evi).tch,d∉aV (val g p):=by
      cases p with
      | s k =>
       have hk:k∈aC m.op:=by rw[hop];simp[aC,bz]
       exact⟨ko k hk,ids2 k hk⟩
      | c x =>
       have hc:aV x=[]:=by
        rw[hop]at hcm;simpa[bZ,kz]using hcm
       exact⟨rfl,λd _=>by show d∉aV x;rw[hc];simp⟩
     exact⟨v',by rw[hvp.1];exact SY hl hvp.2 (λd hd hid=>hw.res d (by rw[ti];exact hd) (hf.res d (.inl hid))),rfl⟩
    .cases hr.2.1
 have eg:gU ((fL evm).env (gU ((fL evi).env g) i.dst (sA evi))) m.dst (sA evm)=g2:=by
  rw[gi,gg1,em];show gU (gU ((fL evi).env g) i.dst (sA evi)) m.dst (sA evm)=_;rw[Ie];rw[N8 (e:=fL evi) (x:=sA evm) (λhr d hd hid=>hw.res d (by rw[ti];exact hd) (resm d (.inl hid)))];exact HM (λk hk hk'=>(hap.a k hk').2 hk)
 have eh:(fL evm).hp ((fL evi).hp h)=h2:=by rw[em,hhi,hh1];rfl
 rw[eg,eh]at s2;exact s2
def aj0{m i:bH}{evm evi:Option (AV×bD)}{y x:HI}(hm:gF P m g h evm y g1 h1)(hi:gF P i g1 h1 evi x g2 h2)(hap:GU m i)(hmt:Mt x y)(hcm:bZ m.op=true)(hci:bZ i.op=true) :
  ∃g3 h3,gF P i g h evi x g3 h3/\gF P m g3 h3 evm y g2 h2:=by
 rcases hmt with h|h
 .exact alM hm hi hap h hcm hci
 .exact aj1 hm hi hap h hcm hci
end
structure Item where
 i:Nat
 bef:List Nat
 o:bH
 ev:Option (AV×bD)
 x:HI
def T(P:Program)[bE P]:List Item->(Nat->AV)->(Nat->Option au)->(Nat->AV)->(Nat->Option au)->Prop
 | [],g,h,g',h'=>g'=g/\h'=h
 | t::R,g,h,g',h'=>∃g1 h1,gF P t.o g h t.ev t.x g1 h1/\T P R g1 h1 g' h'
section
variable{P:Program}[bE P]
def acm:∀(A:List Item)(t:Item)(B:List Item)(g:Nat->AV)(h:Nat->Option au)(g':Nat->AV)(h':Nat->Option au),T P (A++t::B) g h g' h' ->
  (∀m∈A,GU m.o t.o/\Mt t.x m.x)->(∀m∈A,bZ m.o.op=true)->bZ t.o.op=true->∃g1 h1,gF P t.o g h t.ev t.x g1 h1/\T P (A++B) g1 h1 g' h'
 | [],t,B,g,h,g',h',ht,_,_,_=>ht
 | m::A,t,B,g,h,g',h',ht,hm,hc,hct=>by
  obtain⟨g1,h1,s1,ht⟩:=ht;obtain⟨g2,h2,s2,ht⟩:=acm A t B g1 h1 g' h' ht (λq hq=>hm q (by simp[hq])) (λq hq=>hc q (by simp[hq])) hct;obtain⟨q1,q2⟩:=hm m (by simp);obtain⟨g3,h3,s3,s4⟩:=aj0 s1 s2 q1 q2 (hc m (by simp)) hct;exact⟨g3,h3,s3,g2,h2,s4,ht⟩
def Fz(al:List (Nat×Nat)):List HI->List Item->Prop
 | _,[]=>True
 | hist,t::R=>t.x.i=t.i/\(∀y∈hist,y.i∈t.bef\/Mt t.x y)/\(∀d,d∈aV (sA t.ev)\/d∈(fL t.ev).ids->∀m,(d,m)∈al->m=t.i\/m∈t.bef)/\Fz al (t.x::hist) R
def iU{bef:List Nat}{x:HI}{hist:List HI}(hh:iT bef x hist=true):∀y∈hist,y.i∈bef\/Mt x y:=λy hy=>by
 have:=ii.1 hh y hy;simp only[Az,OF,ol]at this;exact this.imp id λh=>.inl (SE.of h)
def rx{al:List (Nat×Nat)}{bef:List Nat}{x:HI}(hh:zF al bef x=true):∀d∈x.res,∀m,(d,m)∈al->m=x.i\/m∈bef:=λd hd m hm=>by
 have:=ii.1 hh (d,m) hm;simp only[Az,OF,ol,Fr,decide_eq_false_iff_not,beq_iff_eq]at this;rcases this with(h1|h1)|h1
 .exact absurd hd h1
 .exact .inl h1
 .exact .inr h1
def kL(s:St)(d:Option Nat)(x:AV):get (s.put d x).env=gU (get s.env) d x:=by
 funext k;cases d with
 | none=>rfl
 | some d =>
  simp only[St.put,get,gU,fA,q_];by_cases hk:k=d
  .subst hk;simp
  .simp[hk,Ne.symm hk]
def ig(s:St)(d:Option Nat)(x:AV):(s.put d x).heap=s.heap:=by cases d<;>rfl
def gT{o:ln}{s:St}{e:bD}(hp:fz o s e=true):(∀k∈aC o,get s.env k≠.any)/\∀i o',e = .reb i o'->∀j q,ak s.heap j=some q->i∉fG q:=by
 simp only[fz,dX,ii,Az,Fr]at hp;refine⟨λk hk he=>?_,λi o' he j q hq=>?_⟩
 .have:=hp.1 k hk;rw[he]at this;cases this
 .subst he;rcases hp.2 with h1|h1
  .cases h1
  .have hmem:∀{σ:List (Nat×au)},ak σ j=some q->(j,q)∈σ:=by
    intro σ
    induction σ with
    | nil=>intro hi;simp[ak]at hi
    | cons p l ih =>
     intro hi;obtain⟨k,x⟩:=p;simp only[ak]at hi;split at hi
     .rename_i hk;cases hi;subst hk;simp
     .exact List.mem_cons_of_mem _ (ih hi)
   have:=h1 i (by simp[bD.tch]) (j,q) (hmem hq);simpa using this
def Un(al:List (Nat×Nat))(p:Nat->Prop)(g:Nat->AV)(h:Nat->Option au):Prop:=∀d m,(d,m)∈al->p m->h d=none/\dG d g h
def CN{d:Nat}{op:ln}{ρ:IV->AV}{h:Nat->Option au}{v:AV}{i:Nat}{ob:au}(hr:cj d op ρ h=some (v,.new i ob)):gu op=true/\i=d:=by
 have happ:∀{t st x src},qW d t st x src h=some (v,.new i ob)->i=d:=by
  intro t st x src ha;unfold qW at ha;split at ha
  .cases ha
  .split at ha
   .split at ha
    .cases ha;rfl
    .split at ha
     .split at ha<;>cases ha
     .cases ha
    .cases ha
   .cases ha
 have hres:∀{y:Option AV},res y≠some (v,.new i ob):=λhh=>by
  have:=(bW hh).2;cases this
 cases op<;>simp only[cj]at hr
 case app=>exact⟨rfl,happ hr⟩
 case apps=>exact⟨rfl,happ hr⟩
 case new=>cases hr;exact⟨rfl,rfl⟩
 case box =>
  split at hr
  .split at hr
   .cases hr;exact⟨rfl,rfl⟩
   .cases hr
  .cases hr
 case bsl =>
  split at hr
  .cases hr;exact⟨rfl,rfl⟩
  .cases hr
 case cvb =>
  split at hr
  .split at hr
   .cases hr;exact⟨rfl,rfl⟩
   .cases hr
  .cases hr
 case mks =>
  split at hr
  .split at hr
   .cases hr;exact⟨rfl,rfl⟩
   .cases hr
  .cases hr
 case mop =>
  rcases zd hr with q|⟨_,q,q2⟩|⟨_,_,_,_,_,q⟩<;>cases q;rcases q2 with rfl|rfl<;>exact⟨rfl,rfl⟩
 all_goals
  exfalso
  first
   | (obtain⟨_,_,q⟩:=Dp hr;cases q;done)
   | (obtain⟨_,_,_,_,_,_,_,_,_,_,_,_,q⟩:=uq hr;cases q;done)
   | exact hres hr
   | (cases hr;done)
   | (simp only[eS,vn]at hr
      obtain⟨e',h1,_,h2⟩:=hr;subst h2;unfold lq at h1
      repeat' (split at h1)
      all_goals cases h1)
   | (repeat' (split at hr)
      all_goals first|(cases hr;done)|exact hres hr)
def YK{d:Nat}{op:ln}{g:Nat->AV}{h:Nat->Option au}{v:AV}{e:bD}(hr:cj d op (val g) h=some (v,e))(hc:bZ op=true):∀i∈e.tch,(∃ob,e = .new i ob)\/∃k∈aC op,i∈aV (g k):=by
 have iv:∀{x:IV}{i:Nat},kz x=true->i∈aV (val g x)->(∀k∈bz x,k∈aC op)->∃k∈aC op,i∈aV (g k):=by
  intro x i hx hi hs;cases x with
  | s k=>exact⟨k,hs k (by simp[bz]),hi⟩
  | c y=>simp[kz]at hx;rw[show val g (.c y)=y from rfl,hx]at hi;cases hi
 have happ:∀{t st src} {x:IV},kz x=true->(∀k∈bz x,k∈aC op)->qW d t st (val g x) src h=some (v,e)->∀i∈e.tch,(∃ob,e = .new i ob)\/∃k∈aC op,i∈aV (g k):=by
  intro t st src x hx hs ha i hi;unfold qW at ha;split at ha
  .cases ha
  .split at ha
   .split at ha
    .cases ha;simp[bD.tch]at hi;subst hi;exact .inl ⟨_,rfl⟩
    .rename_i hv;split at ha
     .split at ha
      .cases ha;simp[bD.tch]at hi;subst hi;exact .inr (iv hx (by rw[hv];simp[oN]) hs)
      .cases ha
     .cases ha
    .cases ha
   .cases ha
 intro i hi;cases e with
 | no=>simp[bD.tch]at hi
 | new j ob=>simp[bD.tch]at hi;subst hi;exact .inl ⟨_,rfl⟩
 | put j ob =>
  cases op<;>simp only[cj]at hr
  case store n p x =>
   simp only[bZ,dX]at hc;simp only[eS,vn]at hr;obtain⟨e',h1,_,h2⟩:=hr;subst h2;unfold lq at h1;split at h1
   .rename_i id st row off cs hv _;refine .inr (iv hc.1 ?_ (λk hk=>by simp only[aC,gW];exact .inl hk));rw[hv]
    repeat' (split at h1)
    all_goals first|(cases h1;done)|skip
    cases h1;simp[bD.tch]at hi;simp[In,hi]
   .cases h1
  case cvm x =>
   simp only[bZ]at hc;obtain⟨id,st,off,len,ob',q1,_,_,_,_,_,_,q2⟩:=uq hr;cases q2;simp[bD.tch]at hi;exact .inr (iv hc (by rw[q1];simp[oN,hi]) (λk hk=>by simp only[aC];exact hk))
  case mop k xs =>
   simp only[bZ,ii]at hc;rcases zd hr with q|⟨_,q,q2⟩|⟨id,b,r,o,q1,q⟩<;>cases q;simp[bD.tch]at hi;subst hi;cases xs with
   | nil=>cases q1
   | cons x xs =>
    simp only[cM,List.cons.injEq]at q1;exact .inr (iv (hc x (by simp)) (by rw[q1.1];simp[aV,kx,iu,jc]) (λk hk=>by simp only[aC,yA,gW];exact .inl hk))
  case cpy st x y =>
   simp only[bZ,dX]at hc;unfold Ci at hr;split at hr
   .cases hr
   .split at hr
    .rename_i hv;refine .inr (iv hc.1 ?_ (λk hk=>by simp only[aC,gW];exact .inl hk));rw[hv]
     repeat' (split at hr)
     all_goals first|(cases hr;done)|skip
     all_goals
      cases hr;simp[bD.tch]at hi;simp[oN,hi]
    .cases hr
  case app t st x y=>simp only[bZ,dX]at hc;exact happ hc.1 (λk hk=>by simp only[aC,gW];exact .inl hk) hr i hi
  case apps t x y=>simp only[bZ,dX]at hc;exact happ hc.1 (λk hk=>by simp only[aC,gW];exact .inl hk) hr i hi
  all_goals
   exfalso
   first
    | exact absurd (bW hr).2 (by simp)
    | (cases hr;done)
    | (repeat' (split at hr)
       all_goals first|(cases hr;done)|exact absurd (bW hr).2 (by simp))
 | reb j ob =>
  cases op<;>simp only[cj]at hr
  case app t st x y=>simp only[bZ,dX]at hc;exact happ hc.1 (λk hk=>by simp only[aC,gW];exact .inl hk) hr i hi
  case apps t x y=>simp only[bZ,dX]at hc;exact happ hc.1 (λk hk=>by simp only[aC,gW];exact .inl hk) hr i hi
  all_goals
   exfalso
   first
    | (obtain⟨_,_,q⟩:=Dp hr;cases q;done)
    | (obtain⟨_,_,_,_,_,_,_,_,_,_,_,_,q⟩:=uq hr;cases q;done)
    | (rcases zd hr with q|⟨_,q,_⟩|⟨_,_,_,_,_,q⟩<;>cases q;done)
    | exact absurd (bW hr).2 (by simp)
    | (cases hr;done)
    | (simp only[eS,vn]at hr
       obtain⟨e',h1,_,h2⟩:=hr;subst h2;unfold lq at h1
       repeat' (split at h1)
       all_goals cases h1)
    | (repeat' (split at hr)
       all_goals first|(cases hr;done)|exact absurd (bW hr).2 (by simp))
end
def UJ{i:Nat}{x:AV}(h:i∈jc x):mP i x=true:=by cases x<;>simp_all [mP,jc]
def UH{i:Nat}{x:AV}(h:i∈iu x):mC i x=true:=by
 cases x with
 | fn f caps =>
  simp only[iu,pK]at h;obtain⟨y,h1,h2⟩:=h;simp only[mC,vp];exact⟨y,h1,UJ h2⟩
 | _=>simp only[iu]at h;simpa only[mC]using UJ h
def UI{i:Nat}{x:AV}(h:i∈kx x):mG i x=true:=by
 cases x with
 | agg cells =>
  simp only[kx,pK]at h;obtain⟨y,h1,h2⟩:=h;simp only[mG,vp];exact⟨y,h1,UH h2⟩
 | _=>simp only[kx]at h;simpa only[mG]using UH h
def UK{i:Nat}{x:AV}(h:i∈aV x):mV i x=true:=by
 cases x with
 | tup vs =>
  simp only[aV,pK]at h;obtain⟨y,h1,h2⟩:=h;simp only[mV,vp];exact⟨y,h1,UI h2⟩
 | _=>simp only[aV]at h;simpa only[mV]using UI h
section
variable{P:Program}[bE P]{al:List (Nat×Nat)}{g g':Nat->AV}{h h':Nat->Option au}
def Di(al:List (Nat×Nat)):Prop:=∀d m m',(d,m)∈al->(d,m')∈al->m=m'
def ZG{h:Nat->Option au}{e:bD}{d:Nat}(ht:d∉e.tch)(hn:h d=none):e.hp h d=none:=by
 cases e with
 | no=>exact hn
 | reb i o =>
  simp only[bD.tch,fS]at ht;simp only[bD.hp,fA,an ht,hn,Option.map_none]
 | _ =>
  simp only[bD.tch,fS]at ht;simp only[bD.hp,fA,an ht,hn]
def aio{h:Nat->Option au}{e:bD}{j:Nat}{q:au}(hq:e.hp h j=some q):(∃q0,h j=some q0/\(q=q0\/∃i,q=ff i q0))\/fG q=e.ids:=by
 cases e with
 | no=>exact .inl ⟨q,hq,.inl rfl⟩
 | reb i o =>
  simp only[bD.hp,fA]at hq;split at hq
  .cases hq;exact .inr rfl
  .simp only[eS]at hq;obtain⟨q0,h1,rfl⟩:=hq;exact .inl ⟨q0,h1,.inr ⟨i,rfl⟩⟩
 | _ =>
  simp only[bD.hp,fA]at hq;split at hq
  .cases hq;exact .inr rfl
  .exact .inl ⟨q,hq,.inl rfl⟩
def Un.step{p p':Nat->Prop}{o:bH}{i:Nat}{bef:List Nat}{ev:Option (AV×bD)}{x:HI}(hs:gF P o g h ev x g' h')(hu:Un al p g h)(hc:bZ o.op=true)
  (hnew:∀d,d∈aV (sA ev)\/d∈(fL ev).ids->∀m,(d,m)∈al->m=i\/m∈bef) (hbef:∀m∈bef,¬p m) (hal:gu o.op=true->(o.dst.getD 0,i)∈al) (hone:Di al)
  (hp:∀m,p' m->p m/\m≠i):Un al p' g' h':=by
 intro d m hdm hpm;obtain⟨hp1,hp2⟩:=hp m hpm;obtain⟨hn,hun⟩:=hu d m hdm hp1;obtain⟨gs,hhs,_,_,_,_,_,_,_⟩:=hs.state;have hno:¬(d∈aV (sA ev)\/d∈(fL ev).ids):=λhd=>by
  rcases hnew d hd m hdm with h1|h1
  .exact hp2 h1
  .exact hbef m h1 hp1
 have htch:d∉(fL ev).tch:=λht=>by
  cases ev with
  | none=>simp[fL,bD.tch]at ht
  | some q =>
   obtain⟨v,e⟩:=q;have hr:=hs.2.run;unfold J_ at hr;split at hr
   .rcases hr with hr|⟨k,_,_,_,he,_,_,_,_,q,_,hid⟩
    .rw[show fL (some (v,e))=e from rfl,hr.1]at ht;simp[bD.tch]at ht
    .rw[show fL (some (v,e))=e from rfl,he]at ht;simp[bD.tch]at ht;subst ht;have:=UK hid;rw[hun.1 q]at this;cases this
   .exact hr.elim
   .rcases hr with hr|⟨hr,_⟩
    rotate_left
    .rw[show fL (some (v,e))=e from rfl,hr]at ht;simp[bD.tch]at ht
    rcases YK hr hc d ht with⟨ob,he⟩|⟨k,hk,hid⟩
    .subst he;obtain⟨h1,h2⟩:=CN hr;rw[<-h2]at hal;exact hp2 (hone d m i hdm (hal h1))
    .have:=UK hid;rw[hun.1 k]at this;cases this
 refine⟨by rw[hhs];exact ZG htch hn,λk=>?_,λj q hq hrec r hr y hy=>?_⟩
 .rw[gs];have key:mV d ((fL ev).env g k)=false:=by
   cases fL ev with
   | reb q ob =>
    simp only[bD.env];unfold jU;split
    .rfl
    .exact hun.1 k
   | _=>exact hun.1 k
  cases hd:o.dst with
  | none=>exact key
  | some d' =>
   simp only[gU,fA];split
   .cases hv:mV d (sA ev)with
    | false=>rfl
    | true=>exact absurd (.inl (py hv)) hno
   .exact key
 .rw[hhs]at hq;rcases aio hq with⟨q0,h1,h2⟩|h1
  .rcases h2 with rfl|⟨i',rfl⟩
   .exact hun.2 j q h1 hrec r hr y hy
   .rw[uX]at hrec;simp only[ff,hrec,dR,fb]at hr;obtain⟨r0,hr0,rfl⟩:=hr;obtain⟨y0,hy0,rfl⟩:=fb.1 hy;unfold rC;split
    .rfl
    .exact hun.2 j q0 h1 hrec r0 hr0 y0 hy0
  .cases hv:mC d y with
   | false=>rfl
   | true =>
    exfalso;refine hno (.inr ?_);rw[<-h1];simp only[fG,hrec,dR,pK];exact⟨r,hr,y,hy,ya hv⟩
def zj(s:St)(e:bD):get (s.eff e).env=e.env (get s.env):=funext (O7 s e)
def uz(s:St)(e:bD):ak (s.eff e).heap=e.hp (ak s.heap):=funext (KE s e)
def x3{s:St}{k:Nat}{t b:Bool}(hv:get s.env k = .bool t)(hb:t=b):get (s.put (some k) (.bool b)).env=get s.env:=by
 rw[kL];funext j;simp only[gU,fA];split
 .rename_i hj;subst hj;rw[hv,hb]
 .rfl
def aaG{d:Nat}{op:ln}{g:Nat->AV}{h:Nat->Option au}{v:AV}{e:bD}(hev:cj d op (val g) h=some (v,e))(hmv:uC op=true):∀k∈aC op,∀id∈aV (g k),id∈aV v:=λk hk id hid=>by
 cases op with
 | mov x =>
  simp only[cj,dt,vn]at hev;cases x with
  | s j =>
   simp only[aC,bz,fS]at hk;subst hk;rw[<-hev.1];exact hid
  | c y=>simp[aC,bz]at hk
 | _=>cases hmv
def abY(y:HI):((y.op.isEmpty||y.isLd)=true)=(y.op=[]\/y.ld = .ld):=by
 unfold HI.isLd;cases y.ld<;>simp
def Rt{o:ln}(h:AS o = .ld):∃n p,o = .load n p:=by
 cases o<;>first|exact⟨_,_,rfl⟩|cases h
def rd[Cl](hone:Di al):∀(l:List aJ)(i:Nat)(hist:List HI)(s:St)(K:List HI->St->Prop),gx P al i l hist s K->Un al (λm=>i<=m) (get s.env) (ak s.heap)->(∀y∈hist,¬(y.rb=true/\y.wr=true)) ->
  (∀(j:Nat)(o:aJ),l[j]?=some o->(gu o.o.op=true->(o.o.dst.getD 0,i+j)∈al)/\(∀m∈o.bef,m<i+j)/\bZ o.o.op=true) ->
  ∃(items:List Item)(s':St),K ((items.map Item.x).reverse++hist) s'/\T P items (get s.env) (ak s.heap) (get s'.env) (ak s'.heap)/\Fz al hist items/\items.map Item.i=List.range' i l.length/\items.map (λt=>(⟨t.o,t.bef⟩:aJ))=l
 | [],i,hist,s,K,hk,_,_,_=>⟨[],s,hk,⟨rfl,rfl⟩,trivial,by simp,rfl⟩
 | o::r,i,hist,s,K,hk,hu,hnw,hl=>by
  obtain⟨hal,hbf,hcon⟩:=hl 0 o (by simp);have hl':∀(j:Nat)(o:aJ),r[j]?=some o->(gu o.o.op=true->(o.o.dst.getD 0,i+1+j)∈al)/\(∀m∈o.bef,m<i+1+j)/\bZ o.o.op=true:=λj o hj=>by
   have:=hl (j+1) o (by simpa using hj);rwa[show i+(j+1)=i+1+j by omega]at this
  have fin:∀{s1:St}{ev:Option (AV×bD)}{x:HI},gF P o.o (get s.env) (ak s.heap) ev x (get s1.env) (ak s1.heap)->x.i=i->¬(x.rb=true/\x.wr=true)->(∀y∈hist,y.i∈o.bef\/Mt x y) ->
    (∀d,d∈aV (sA ev)\/d∈(fL ev).ids->∀m,(d,m)∈al->m=i\/m∈o.bef)->gx P al (i+1) r (x::hist) s1 K ->
    ∃(items:List Item)(s':St),K ((items.map Item.x).reverse++hist) s'/\T P items (get s.env) (ak s.heap) (get s'.env) (ak s'.heap)/\Fz al hist items/\items.map Item.i=List.range' i (o::r).length/\items.map (λt=>(⟨t.o,t.bef⟩:aJ))=o::r:=by
   intro s1 ev x hst hxi hxw hhist hnew hrest;have hu':Un al (λm=>i+1<=m) (get s1.env) (ak s1.heap):=Un.step hst hu hcon hnew (λm hm hle=>by have:=hbf m hm;omega) (by simpa using hal) hone (λm hm=>⟨by omega,by omega⟩)
   obtain⟨items,s',h1,h2,h3,h4,h5⟩:=rd hone r (i+1) (x::hist) s1 K hrest hu' (λy hy=>by
    rcases bM.1 hy with rfl|hy
    .exact hxw
    .exact hnw y hy) hl'
   exact⟨⟨i,o.bef,o.o,ev,x⟩::items,s',by simpa using h1,⟨_,_,hst,h2⟩,⟨hxi,hhist,hnew,h3⟩,by simp[List.range'_succ,h4],by simp[h5]⟩
  have run:∀{s2:St},get s2.env=get s.env->s2.heap=s.heap->(∀k b,o.o.g=some (k,b)->get s.env k = .bool b)->fU P al i o hist s2 (λhist' s'=>gx P al (i+1) r hist' s' K) ->
    ∃(items:List Item)(s':St),K ((items.map Item.x).reverse++hist) s'/\T P items (get s.env) (ak s.heap) (get s'.env) (ak s'.heap)/\Fz al hist items/\items.map Item.i=List.range' i (o::r).length/\items.map (λt=>(⟨t.o,t.bef⟩:aJ))=o::r:=by
   intro s2 he2 hh2 hgd hop;have hoi':∀res:List Nat,(uC o.o.op=true->∀k∈aC o.o.op,∀id∈aV (get s.env k),id∈res)->∀k∈aC o.o.op,∀id∈aV (get s.env k),id∈cY o.o.op s2.env\/(uC o.o.op=true/\id∈res):=λres hres k hk id hid=>by
    by_cases hmv:uC o.o.op=true
    .exact .inr ⟨hmv,hres hmv k hk id hid⟩
    .refine .inl ?_;have e:cY o.o.op s2.env=(aC o.o.op).flatMap λk=>aV (get s2.env k):=by
      cases ho:o.o.op<;>first|rfl|(rw[ho]at hmv;exact absurd rfl hmv)
     rw[e,pK];exact⟨k,hk,by rw[he2];exact hid⟩
   unfold fU at hop;split at hop
   .rename_i f args hopc;rcases hop with⟨args',rr,b,h1,h2,h3,h4,h5,h6,h7,h8⟩|⟨k,ob,ob',Sb,rr,h1,h2,h3,h4,h5,h6,h7,h8,h9⟩
    rotate_left
    .obtain⟨p1,p2⟩:=gT h7;rw[he2]at p1;have hq:∃q∈aC o.o.op,k∈aV (get s.env q):=by
      rw[hopc]at h6⊢;simp only[cY,pK]at h6;obtain⟨q,q1,q2⟩:=h6;exact⟨q,q1,by rw[<-he2];exact q2⟩
     refine fin (s1:=(s2.eff (.put k ob')).put o.o.dst rr) (ev:=some (rr,.put k ob')) ⟨hgd,⟨?_,p1,hoi' _ (λhmv=>by rw[hopc]at hmv;cases hmv),(λ_ _ _ he=>by cases he),(λ_ _ he=>by cases he),λd hd=>?_,rfl,rfl,.inl rfl,?_,?_,λhh=>by cases hh⟩⟩ rfl (by first|(rintro⟨hr,_⟩;cases hr;done)|(cases e<;>simp[bD.isReb,bD.isPut])) (iU h8) (λd hd=>?_) h9
     .unfold J_;rw[hopc];rw[hopc]at hq;exact .inr ⟨k,ob,ob',Sb,rfl,h4,by rw[<-he2];exact h1,h2,by rw[<-hh2];exact h3,hq⟩
     .have hd':d∈aV rr\/d∈fG ob':=hd;rw[h4,h5]at hd';simp at hd'
     .rw[kL,zj,he2]
     .rw[ig,uz,hh2]
     .have hd':d∈aV rr\/d∈fG ob':=hd;rw[h4,h5]at hd';simp at hd'
    obtain⟨p1,_⟩:=gT h6;rw[he2]at p1;refine fin (s1:=s2.put o.o.dst rr) (ev:=some (rr,.no)) ⟨hgd,⟨?_,p1,hoi' _ (λhmv=>by rw[hopc]at hmv;cases hmv),(λ_ _ _ he=>by cases he),(λ_ _ he=>by cases he),λd hd=>?_,rfl,rfl,.inl rfl,?_,?_,λhh=>by cases hh⟩⟩ rfl (by first|(rintro⟨hr,_⟩;cases hr;done)|(cases e<;>simp[bD.isReb,bD.isPut])) (iU h7) (λd hd=>?_) h8
    .unfold J_;rw[hopc];exact .inl ⟨rfl,h5,args',b,h1,h2,by rw[<-he2,<-hh2];exact h3,h4⟩
    .have hd':d∈aV rr\/d∈([]:List Nat):=hd;rw[h5]at hd';simp at hd'
    .rw[kL,he2];rfl
    .rw[ig,hh2];rfl
    .have hd':d∈aV rr\/d∈([]:List Nat):=hd;rw[h5]at hd';simp at hd'
   .exact hop.elim
   .rename_i t st x y hopc;rcases hop with hop|⟨rows,hxc,hev,h6,h7,h9⟩
    .split at hop
     case h_2=>exact hop.elim
     rename_i v e hev;obtain⟨h6,h7,h8,h9⟩:=hop;obtain⟨p1,p2⟩:=gT h6;rw[he2]at p1 hev;rw[hh2]at p2 hev;refine fin (s1:=(s2.eff e).put o.o.dst v) (ev:=some (v,e)) ⟨hgd,⟨?_,p1,hoi' _ (λhmv=>by rw[hopc]at hmv;cases hmv),λ_=>p2,λj ob he=>?_,λd hd=>?_,rfl,rfl,.inl rfl,?_,?_,λhh=>by cases hh⟩⟩ rfl (by first|(rintro⟨hr,_⟩;cases hr;done)|(cases e<;>simp[bD.isReb,bD.isPut])) (iU h7) (λd hd m hm=>?_) h9
     .unfold J_;rw[hopc];exact .inl hev
     .subst he;obtain⟨q1,q2⟩:=CN hev;subst q2;exact(hu _ i (by simpa using hal (by rw[hopc];exact q1)) (aQ i)).1
     .exact gW.2 hd
     .rw[kL,zj,he2]
     .rw[ig,uz,hh2]
     .exact rx h8 d (gW.2 hd) m hm
    .obtain⟨p1,_⟩:=gT h6;rw[he2]at p1 hev;rw[hh2]at hev;have no:∀d,¬(d∈aV (.sl st rows)\/d∈(bD.no).ids):=λd hd=>by rcases hd with hd|hd<;>cases hd
     refine fin (s1:=s2.put o.o.dst (.sl st rows)) (ev:=some (.sl st rows,.no)) ⟨hgd,⟨?_,p1,hoi' _ (λhmv=>by rw[hopc]at hmv;cases hmv),(λ_ _ _ he=>by cases he),(λ_ _ he=>by cases he),λd hd=>absurd hd (no d),rfl,rfl,.inl rfl,?_,?_,λhh=>by cases hh⟩⟩ rfl (by first|(rintro⟨hr,_⟩;cases hr;done)|(cases e<;>simp[bD.isReb,bD.isPut])) (iU h7) (λd hd=>absurd hd (no d)) h9
     .unfold J_;rw[hopc];exact .inr ⟨rfl,rfl,t,st,rows,rfl,hev⟩
     .rw[kL,he2];rfl
     .rw[ig,hh2];rfl
   .rename_i t st rows ps hopc;split at hop
    .split at hop
     case h_2=>exact hop.elim
     rename_i rs hrs;obtain⟨h6,h7,h9⟩:=hop;have hev:cj (o.o.dst.getD 0) (.bsl t st rows ps) (val (get s2.env)) (ak s2.heap)=some (.ms (o.o.dst.getD 0) st 0 rs.length,.new (o.o.dst.getD 0) ⟨t,st,rs,false⟩):=by simp only[cj,hrs]
     obtain⟨p1,_⟩:=gT h6;rw[he2]at p1 hev;rw[hh2]at hev;have no:∀d,¬(d∈aV (.sl st rs)\/d∈(bD.no).ids):=λd hd=>by rcases hd with hd|hd<;>cases hd
     refine fin (s1:=s2.put o.o.dst (.sl st rs)) (ev:=some (.sl st rs,.no)) ⟨hgd,⟨?_,p1,hoi' _ (λhmv=>by rw[hopc]at hmv;cases hmv),(λ_ _ _ he=>by cases he),(λ_ _ he=>by cases he),λd hd=>absurd hd (no d),rfl,rfl,.inl rfl,?_,?_,λhh=>by cases hh⟩⟩ rfl (by first|(rintro⟨hr,_⟩;cases hr;done)|(cases e<;>simp[bD.isReb,bD.isPut])) (iU h7) (λd hd=>absurd hd (no d)) h9
     .unfold J_;rw[hopc];exact .inr ⟨rfl,rfl,t,st,rs,rfl,hev⟩
     .rw[kL,he2];rfl
     .rw[ig,hh2];rfl
    .split at hop
     case h_2=>exact hop.elim
     rename_i v e hev;obtain⟨h6,h7,h8,h9⟩:=hop;obtain⟨p1,p2⟩:=gT h6;rw[he2]at p1 hev;rw[hh2]at p2 hev;refine fin (s1:=(s2.eff e).put o.o.dst v) (ev:=some (v,e)) ⟨hgd,⟨?_,p1,hoi' _ (λhmv=>by rw[hopc]at hmv;cases hmv),λ_=>p2,λj ob he=>?_,λd hd=>?_,rfl,rfl,.inl rfl,?_,?_,λhh=>by rw[hopc]at hh;cases hh⟩⟩ rfl (by first|(rintro⟨hr,_⟩;cases hr;done)|(cases e<;>simp[bD.isReb,bD.isPut])) (iU h7) (λd hd m hm=>?_) h9
     .unfold J_;rw[hopc];exact .inl hev
     .subst he;obtain⟨q1,q2⟩:=CN hev;subst q2;exact(hu _ i (by simpa using hal (by rw[hopc];exact q1)) (aQ i)).1
     .exact gW.2 hd
     .rw[kL,zj,he2]
     .rw[ig,uz,hh2]
     .exact rx h8 d (gW.2 hd) m hm
   .rename_i n1 n2 n3 n4;split at hop
    case h_2=>exact hop.elim
    rename_i v e hev;obtain⟨h6,h7,h8,h9⟩:=hop;obtain⟨p1,p2⟩:=gT h6;rw[he2]at p1 hev;rw[hh2]at p2 hev;refine fin (s1:=(s2.eff e).put o.o.dst v) (ev:=some (v,e)) ⟨hgd,⟨?_,p1,hoi' _ (λhmv k hk id hid=>gW.2 (.inl (aaG hev hmv k hk id hid))),λ_=>p2,λj ob he=>?_,λd hd=>?_,rfl,rfl,.inl rfl,?_,?_,λhh=>Rt hh⟩⟩ rfl (by first|(rintro⟨hr,_⟩;cases hr;done)|(cases e<;>simp[bD.isReb,bD.isPut])) (iU h7) (λd hd m hm=>?_) h9
    .unfold J_;split
     .rename_i f args hopc;exact(n1 f args hopc).elim
     .rename_i f args hopc;exact(n2 f args hopc).elim
     .exact .inl hev
    .subst he;obtain⟨q1,q2⟩:=CN hev;subst q2;exact(hu _ i (by simpa using hal q1) (aQ i)).1
    .exact gW.2 hd
    .rw[kL,zj,he2]
    .rw[ig,uz,hh2]
    .exact rx h8 d (gW.2 hd) m hm
  unfold gx at hk;split at hk
  .rename_i hg;exact run rfl rfl (λk b hkb=>by rw[hg]at hkb;cases hkb) hk
  .rename_i k b hg;split at hk
   case h_3=>exact hk.elim
   case h_2 =>
    rename_i hv;refine fin (s1:=s.put o.o.dst (.tup [])) (ev:=none) (x:=⟨i,[],[],[],false,false⟩) ⟨⟨k,b,hg,.inr hv⟩,?_,by rw[ig],rfl,rfl,rfl⟩ rfl (by rintro⟨hr,_⟩;cases hr) (λy hy=>.inr (.inl ⟨?_,?_,?_,?_,?_,?_,?_,?_⟩)) ?_ hk
    .rw[kL]
    .intro d _;exact⟨by simp,by simp⟩
    .intro d hd;cases hd
    .intro hr;cases hr
    .intro _ d hd hd2;cases hd2
    .rintro⟨hr,_⟩;cases hr
    .rintro⟨_,hr⟩;cases hr
    .rintro⟨hr,_⟩;cases hr
    .exact hnw y hy
    .intro d hd;rcases hd with hd|hd
     .simp[sA,aV]at hd
     .simp[fL,bD.ids]at hd
   rename_i t hv;by_cases htb:t=b
   .exact run (x3 hv htb) (ig _ _ _) (λk' b' hkb=>by rw[hg]at hkb;cases hkb;rw[hv,htb]) (hk.1 htb)
   .have htb':t = !b:=by cases t<;>cases b<;>simp_all
    refine fin (s1:=(s.put (some k) (.bool (!b))).put o.o.dst (.tup [])) (ev:=none) (x:=⟨i,[],[],[],false,false⟩) ⟨⟨k,b,hg,.inl (by rw[hv,htb'])⟩,?_,by rw[ig,ig],rfl,rfl,rfl⟩ rfl (by rintro⟨hr,_⟩;cases hr) (λy hy=>.inr (.inl ⟨?_,?_,?_,?_,?_,?_,?_,?_⟩)) ?_ (hk.2 htb')
    .rw[kL,x3 hv htb']
    .intro d _;exact⟨by simp,by simp⟩
    .intro d hd;cases hd
    .intro hr;cases hr
    .intro _ d hd hd2;cases hd2
    .rintro⟨hr,_⟩;cases hr
    .rintro⟨_,hr⟩;cases hr
    .rintro⟨hr,_⟩;cases hr
    .exact hnw y hy
    .intro d hd;rcases hd with hd|hd
     .simp[sA,aV,kx,iu,jc]at hd
     .simp[fL,bD.ids]at hd
def B2[Cl](hone:Di al)(l:List aJ)(i:Nat)(hist:List HI)(s:St)(K:St->Prop)(hk:jk P al i l hist s K)(hu:Un al (λm=>i<=m) (get s.env) (ak s.heap))(hnw:∀y∈hist,¬(y.rb=true/\y.wr=true))
  (hl:∀(j:Nat)(o:aJ),l[j]?=some o->(gu o.o.op=true->(o.o.dst.getD 0,i+j)∈al)/\(∀m∈o.bef,m<i+j)/\bZ o.o.op=true) :
  ∃(items:List Item)(s':St),K s'/\T P items (get s.env) (ak s.heap) (get s'.env) (ak s'.heap)/\Fz al hist items/\items.map Item.i=List.range' i l.length/\items.map (λt=>(⟨t.o,t.bef⟩:aJ))=l:=rd hone l i hist s _ hk hu hnw hl
def ab5:∀(A:List Item){t:Item}{g:Nat->AV}{h:Nat->Option au}{g1:Nat->AV}{h1:Nat->Option au}{g':Nat->AV}{h':Nat->Option au},T P A g h g1 h1->gF P t.o g1 h1 t.ev t.x g' h'->T P (A++[t]) g h g' h'
 | [],t,g,h,g1,h1,g',h',⟨e1,e2⟩,hs=>by subst e1 e2;exact⟨_,_,hs,rfl,rfl⟩
 | a::A,t,g,h,g1,h1,g',h',⟨g2,h2,s1,ht⟩,hs=>⟨g2,h2,s1,ab5 A ht hs⟩
def J7:∀(A:List Item){hist:List HI}{t:Item},Fz al hist A->t.x.i=t.i->(∀y∈(A.map Item.x).reverse++hist,y.i∈t.bef\/Mt t.x y)->(∀d,d∈aV (sA t.ev)\/d∈(fL t.ev).ids->∀m,(d,m)∈al->m=t.i\/m∈t.bef)->Fz al hist (A++[t])
 | [],hist,t,_,h1,h2,h3=>⟨h1,by simpa using h2,h3,trivial⟩
 | a::A,hist,t,⟨q1,q2,q3,q4⟩,h1,h2,h3=>⟨q1,q2,q3,J7 A q4 h1 (by simpa using h2) h3⟩
def Il(hone:Di al)(l:List aJ)(s:St)(K:St->Prop) (hk:gx P al 0 l.dropLast [] s λhist s1=>match l.getLast? with
   | some o=>MB al (l.length-1) o hist s1 K
   | none=>False) (hu:Un al (λm=>0<=m) (get s.env) (ak s.heap))
  (hl:∀(j:Nat)(o:aJ),l[j]?=some o->(gu o.o.op=true->(o.o.dst.getD 0,0+j)∈al)/\(∀m∈o.bef,m<0+j)/\bZ o.o.op=true) :
  ∃(items:List Item)(s':St),K s'/\T P items (get s.env) (ak s.heap) (get s'.env) (ak s'.heap)/\Fz al [] items/\items.map Item.i=List.range' 0 l.length/\items.map (λt=>(⟨t.o,t.bef⟩:aJ))=l:=by
 obtain⟨A,s1,h1,h2,h3,h4,h5⟩:=rd hone l.dropLast 0 [] s _ hk hu (λy hy=>by cases hy) (λj o hj=>hl j o (by
  rw[List.dropLast_eq_take,Fw]at hj;split at hj
  .exact hj
  .cases hj))
 cases hlast:l.getLast? with
 | none=>rw[hlast]at h1;exact h1.elim
 | some o =>
  rw[hlast]at h1;simp only at h1;have hne:l≠[]:=λe=>by rw[e]at hlast;cases hlast
  have hll:l=l.dropLast++[o]:=by
   have:=List.dropLast_concat_getLast hne;rw[List.getLast?_eq_some_getLast hne]at hlast;cases hlast;exact this.symm
  have hlen:l.dropLast.length=l.length-1:=List.length_dropLast;have hpos:=ME.2 hne;unfold MB at h1;split at h1
  case h_2=>exact h1.elim
  rename_i t st x y hop;obtain⟨hg,h1⟩:=h1;split at h1
  case h_2=>exact h1.elim
  rename_i v e hev;obtain⟨k1,k2,k3,k4,k5⟩:=h1;have hst:gF P o.o (get s1.env) (ak s1.heap) (some (v,e)) ⟨l.length-1,cY (.app t st x y) s1.env,aV v++e.ids,e.tch,true,true⟩ (get ((s1.eff e).put o.o.dst v).env) (ak ((s1.eff e).put o.o.dst v).heap):=by
   refine⟨(λk b hkb=>by rw[hg]at hkb;cases hkb),⟨?_,?_,?_,(λhn=>absurd ⟨rfl,rfl⟩ hn),λj ob he=>?_,λd hd=>gW.2 hd,rfl,k2.symm,.inr ⟨rfl,rfl⟩,?_,?_,λhh=>by cases hh⟩⟩
   .unfold J_;rw[hop];exact .inl hev
   .intro k hk he;rw[hop]at hk;have:=ii.1 k1 k hk;rw[he]at this;cases this
   .intro k hk id hid;rw[hop]at hk;exact .inl (pK.2 ⟨k,hk,hid⟩)
   .subst he;cases k2
   .rw[kL,zj]
   .rw[ig,uz]
  refine⟨A++[⟨l.length-1,o.bef,o.o,some (v,e),⟨l.length-1,cY (.app t st x y) s1.env,aV v++e.ids,e.tch,true,true⟩⟩],(s1.eff e).put o.o.dst v,k5,ab5 A (t:=⟨l.length-1,o.bef,o.o,some (v,e),⟨l.length-1,cY (.app t st x y) s1.env,aV v++e.ids,e.tch,true,true⟩⟩) h2 hst,J7 A (t:=⟨l.length-1,o.bef,o.o,some (v,e),⟨l.length-1,cY (.app t st x y) s1.env,aV v++e.ids,e.tch,true,true⟩⟩) h3 rfl (λz hz=>?_) (λd (hd:d∈aV v\/d∈e.ids) m hm=>rx k4 d (gW.2 hd) m hm),?_,?_⟩
  .have:=ii.1 k3 z (by simpa using hz);rw[Az]at this;rcases this with q|q
   .exact .inl (by simpa using q)
   .simp only[OB,abY,dX,List.isEmpty_iff,Fr,ii,OF,decide_eq_false_iff_not]at q;exact .inr (.inr ⟨rfl,rfl,q.1.1.1.1,q.2,q.1.1.1.2,q.1.1.2,q.1.2⟩)
  .rw[dY,h4,hlen,List.map_singleton]
   conv=>rhs;rw[show l.length=(l.length-1)+1 by omega,List.range'_concat]
   simp
  .rw[dY,h5,List.map_singleton];exact hll.symm
end
def O4{i:Nat}{o:au}{x:AV}(h:mP i x=false):qZ i o x=x:=by
 cases x<;>first|rfl|(simp only[mP,OD]at h;simp only[qZ];rw[an h])
def Iy{f:AV->Bool}{r:AV->AV}(hh:∀x,f x=false->r x=x):∀l:List AV,l.any f=false->l.map r=l
 | [],_=>rfl
 | y::l,hl=>by
  simp only[List.any_cons,Bool.or_eq_false_iff]at hl;simp only[cM,hh y hl.1,Iy hh l hl.2]
def Ii{i:Nat}{o:au}{x:AV}(h:mC i x=false):x2 i o x=x:=by
 cases x with
 | fn f caps=>simp only[mC]at h;simp only[x2,Iy (λx hx=>O4 hx) caps h]
 | _=>simp only[mC]at h;simp only[x2];exact O4 h
def O3{i:Nat}{o:au}{x:AV}(h:mG i x=false):DM i o x=x:=by
 cases x with
 | agg cs=>simp only[mG]at h;simp only[DM,Iy (λx hx=>Ii hx) cs h]
 | _=>simp only[mG]at h;simp only[DM];exact Ii h
def Zs{i:Nat}{o:au}{x:AV}(h:mV i x=false):vN i o x=x:=by
 cases x with
 | tup vs=>simp only[mV]at h;simp only[vN,Iy (λx hx=>O3 hx) vs h]
 | _=>simp only[mV]at h;simp only[vN];exact O3 h
def Zr{i:Nat}{o q:au}(h:q.isRec=true->∀r∈q.rows,∀y∈r,mC i y=false):j5 i o q=q:=by
 unfold j5;split
 .rename_i hr;have:q.rows.map (λr=>r.map (x2 i o))=q.rows:=by
   conv=>rhs;rw[<-List.map_id q.rows]
   refine J2 λr hr'=>?_
   conv=>rhs;rw[id,<-List.map_id r]
   exact J2 λy hy=>Ii (h hr r hr' y hy)
  rw[this]
 .rfl
section
variable{P:Program}[bE P]{c:sV}[CT c P]{a:Act}{w:World}{o:Oper}{io:bH}{ops:Array Oper}{n:Nat}
def Ou{g g':Nat->AV}{h h':Nat->Option au}{ev:Option (AV×bD)}{x:HI}{bl:Nat->Option Nat}(hc:oK P n ops o=some io)(hn:c.n=n)(hst:gF P io g h ev x g' h')(hs:aT c bl g h a w)
  (hnew:gu io.op=true->h (io.dst.getD 0)=none/\dG (io.dst.getD 0) g h/\(io.dst.getD 0<1000\/2000<=io.dst.getD 0)) {K:Act->World->Prop} {Q:Exit->Act->World->Prop}
  (hK:∀a' w' bl',aT c bl' g' h' a' w'->K a' w'):if Region.wanted o (yielded ops a.tmps)then o.wp P a w K Q\/(o.asks P a w/\LetsOut Q)else K (a.put o.dst undef) w:=by
 obtain⟨h1,h2,h3,h4⟩:=xV hc;have hd:∀k,io.dst=some k->k<c.n:=λk hk=>by rw[hn];exact h3 k (h2▸hk)
 have putB:∀{bl:Nat->Option Nat}{g:Nat->AV}{h:Nat->Option au}{w:World}{v:Value}{y:AV},aT c bl g h a w->bv bl (bQ bl c.MF h) w v y->aT c bl (gU g io.dst y) h (a.put o.dst v) w:=λ{bl g h w v y} hsb hv=>by
  rw[<-h2];cases hdd:io.dst with
  | none=>exact hsb
  | some d=>exact hsb.put (hd d hdd) hv
 have hwant:∀k b t,io.g=some (k,b)->g k = .bool t->Region.wanted o (yielded ops a.tmps)=(t==b):=λk b t hg hv=>by
  rcases h4 with⟨_,g2⟩|⟨j,b',k',g1,g2,g3⟩
  .rw[g2]at hg;cases hg
  .rw[g3]at hg;cases hg;have hk:=hs.env k;rw[hv]at hk;have hkv:=hk.bool;rw[(JV (a:=a) (k:=k) (λb hb=>by rw[hb]at hkv;cases hkv)).2]at hkv;have hkn:k<a.tmps.size:=by
    rcases kU k a.tmps.size with hlt|hge
    .exact hlt
    .rw[pI,HY hge]at hkv;cases hkv
   have hy:yielded ops a.tmps j=some t:=by
    have:a.tmps[k]?=some (.bool t):=by
     rw[pI,yz hkn]at hkv;rw[yz hkn];simpa using hkv
    simp[yielded,g2,this]
   simp only[Region.wanted,g1,hy];cases t<;>cases b<;>rfl
 cases ev with
 | none =>
  obtain⟨⟨k,b,hg,hv⟩,rfl,rfl,_⟩:=hst;have hnw:¬Region.wanted o (yielded ops a.tmps)=true:=by
   rcases hv with hv|hv
   .rw[hwant k b _ hg hv];cases b<;>simp
   .rcases h4 with⟨_,g2⟩|⟨j,b',k',g1,g2,g3⟩
    .rw[g2]at hg;cases hg
    .rw[g3]at hg;cases hg;have hk:=hs.env k;rw[hv]at hk;simp[Region.wanted,g1,xI (ops:=ops) g2 hk]
  rw[an hnw];exact hK _ _ _ (putB hs (y:=.tup []) ⟨[],rfl,trivial⟩)
 | some p =>
  obtain⟨v,e⟩:=p;obtain⟨hgd,hf⟩:=hst;have hw:Region.wanted o (yielded ops a.tmps)=true:=by
   rcases h4 with⟨g1,_⟩|⟨j,b',k',g1,g2,g3⟩
   .simp[Region.wanted,g1]
   .rw[hwant k' b' b' g3 (hgd k' b' g3)];simp
  rw[az hw];refine .inl ?_;have hr:=hf.run;unfold J_ at hr;split at hr
  .rename_i f args hop;rw[hop]at h1;obtain⟨cl,hoo,hcl,hb,hv⟩:=Ko h1;rcases hr with⟨rfl,_,args',b,q1,q2,q3,q4⟩|⟨k,ob,ob',Sb,rfl,q1,q2,q3,q4,_⟩
   rotate_left
   .refine oi (f:=f) (args:=cl.args.map a.eval) ?_ ?_
    .have:=lX (w:=w) hb (cl.args.map a.eval);simp[execOp,hoo,resolve,hcl,Act.eval,Deferred.ofValue,invoke,this]
    .have hσ:∀id o,ak [(k,ob)] id=some o->h id=some o:=λid o hi=>by
      simp only[ak]at hi;split at hi
      .rename_i hki;subst hki;cases hi;exact q4
      .cases hi
     have:=LW hs q2 (pX hs hv) hσ [] (λr σ' hP id hid=>by
      obtain⟨rfl,rfl⟩:=hP;simp only[ak]at hid;split at hid
      .rename_i hki;subst hki;exact .inl ⟨q3,by simp[ak]⟩
      .cases hid)
     simp only[Array.toArray_toList]at this;refine this.mono λe' w' ⟨u,r,σ',bl2,he,hP,hs',hv'⟩=>⟨u,he,?_⟩
     obtain⟨rfl,rfl⟩:=hP;have eg:(λj=>sT [] (g j))=g:=by funext j;simp[sT]
     have eh:NL [] (ak [(k,ob)]) (ak [(k,ob')]) h=(bD.put k ob').hp h:=by
      funext j;simp only[NL,ak,bD.hp,fA];by_cases hj:k=j
      .subst hj;simp
      .have hj':¬j=k:=λe=>hj e.symm;have:jn []=id:=by funext o;unfold jn B9;simp
       simp[hj,hj',this]
     rw[eg,eh]at hs';rw[eh]at hv';refine hK _ _ bl2 ?_;rw[hf.hg,hf.hh];exact putB hs' hv'
   refine oi (f:=f) (args:=cl.args.map a.eval) ?_ ?_
   .have:=lX (w:=w) hb (cl.args.map a.eval);simp[execOp,hoo,resolve,hcl,Act.eval,Deferred.ofValue,invoke,this]
   .have:=HL hs q1 (pX hs hv) q2 b q3 q4;simp only[Array.toArray_toList]at this;refine this.mono λe' w' ⟨u,he,hs',hv'⟩=>⟨u,he,?_⟩
    refine hK _ _ bl ?_;rw[hf.hg,hf.hh];exact putB hs' hv'
  .exact hr.elim
  .rcases hr with hr|⟨rfl,hal,t,st,rows,rfl,hr⟩
   .refine De (MW hs h1 hr hnew) (λr w' bl' q1 q2=>hK _ _ bl' ?_);rw[hf.hg,hf.hh];exact putB q1 q2
   .refine De (MW hs h1 hr hnew) (λr w' bl' q1 q2=>hK _ _ bl' ?_);obtain⟨u1,u2,_⟩:=hnew hal;obtain⟨f1,f2⟩:=q1.freeze (i:=io.dst.getD 0) (o:=⟨t,st,rows,false⟩) (by simp[bD.hp,fA]) rfl;have f3:=f2 _ _ q2;have e1:(λk=>vN (io.dst.getD 0) ⟨t,st,rows,false⟩ ((bD.new (io.dst.getD 0) ⟨t,st,rows,false⟩).env g k))=g:=funext λk=>Zs (u2.1 k);have e2:(λj=>if j=io.dst.getD 0 then none else((bD.new (io.dst.getD 0) ⟨t,st,rows,false⟩).hp h j).map (j5 (io.dst.getD 0) ⟨t,st,rows,false⟩))=h:=funext λj=>by
     by_cases hj:j=io.dst.getD 0
     .rw[az hj,hj,u1]
     .rw[an hj];simp only[bD.hp,fA,an hj];cases hq:h j with
      | none=>rfl
      | some q=>simp only[fR];rw[Zr λhr=>u2.2 j q hq hr]
    have e3:vN (io.dst.getD 0) ⟨t,st,rows,false⟩ (.ms (io.dst.getD 0) st 0 rows.length) = .sl st rows:=by simp[vN,DM,x2,qZ]
    rw[e1,e2]at f1;rw[e2,e3]at f3;rw[hf.hg,hf.hh];exact putB f1 f3
def j3{listed:Array Bool}{i:Nat}:i∈Region.ready .any ops listed↔i<ops.size/\listed.getD i true=false/\∃o,ops[i]?=some o/\∀d∈lS o,listed.getD d false=true:=by
 unfold Region.ready;simp only[List.mem_filter,List.mem_range,dX,Fr];refine⟨λ⟨h1,h2,h3⟩=>⟨h1,h2,ops[i],yz h1,?_⟩,λ⟨h1,h2,o,h3,h4⟩=>⟨h1,h2,?_⟩⟩
 .rw[yz h1]at h3;simp only[fR,cG,Array.all_eq_true_iff_forall_mem,Az,Fr]at h3;intro d hd;simp only[lS,fb,List.mem_filter,Array.mem_toList_iff]at hd;obtain⟨e,⟨he1,he2⟩,rfl⟩:=hd;rcases h3 e he1 with h5|h5
  .rw[he2]at h5;cases h5
  .exact h5
 .rw[h3];simp only[fR,cG,Array.all_eq_true_iff_forall_mem,Az,Fr];intro e he;cases hb:Region.binds .any e with
  | false=>exact .inl rfl
  | true =>
   refine .inr (h4 e.on ?_);simp only[lS,fb,List.mem_filter,Array.mem_toList_iff];exact⟨e,⟨he,hb⟩,rfl⟩
structure ni(ops:Array Oper)(bs:List (List Nat)):Prop where
 lt:∀i o,ops[i]?=some o->∀d∈lS o,d<i
 via:∀i o,ops[i]?=some o->∀d∈bs.getD i [],d∈lS o\/∃m∈lS o,d∈bs.getD m []
def N0{bs:List (List Nat)}(h:acL ops.toList bs=true):ni ops bs:=by
 have key:∀i o,ops[i]?=some o->(∀d∈lS o,d<i)/\∀d∈bs.getD i [],d∈lS o\/∃m∈lS o,d∈bs.getD m []:=λi o hi=>by
  have hlt:i<ops.toList.length:=by
   have:=(kT.1 hi).1;simpa using this
  have:=ii.1 h i (List.mem_range.2 hlt);have hi':ops.toList[i]?=some o:=by rw[Array.getElem?_toList];exact hi
  simp only[hi',dX,ii,ol,Az,vp,OF]at this;exact this
 exact⟨λi o hi=>(key i o hi).1,λi o hi=>(key i o hi).2⟩
def ni.bef_lt{bs:List (List Nat)}(hO:ni ops bs):∀(i:Nat)(o:Oper),ops[i]?=some o->∀d∈bs.getD i [],d<i:=by
 intro i
 induction i using Nat.strongRecOn with
 | _ i ih =>
  intro o hi d hd;rcases hO.via i o hi d hd with h1|⟨m,h1,h2⟩
  .exact hO.lt i o hi d h1
  .have hm:=hO.lt i o hi m h1;have hms:m<ops.size:=Nat.lt_trans hm (kT.1 hi).1;have:=ih m hm ops[m] (yz hms) d h2;omega
def ni.listed{bs:List (List Nat)}(hO:ni ops bs){p:Nat->Prop}(hdc:∀i o,p i->ops[i]?=some o->∀d∈lS o,p d):∀(i:Nat)(o:Oper),ops[i]?=some o->(∀d∈lS o,p d)->∀d∈bs.getD i [],p d:=by
 intro i
 induction i using Nat.strongRecOn with
 | _ i ih =>
  intro o hi he d hd;rcases hO.via i o hi d hd with h1|⟨m,h1,h2⟩
  .exact he d h1
  .have hm:=hO.lt i o hi m h1;have hms:m<ops.size:=Nat.lt_trans hm (kT.1 hi).1;exact ih m hm ops[m] (yz hms) (hdc m _ (he m h1) (yz hms)) d h2
def Qy(hn:c.n=n){al:List (Nat×Nat)}(hone:Di al)(hal:∀d m,(d,m)∈al->d<1000){bs:List (List Nat)}(hO:ni ops bs){gf:Nat->AV}{hf:Nat->Option au}{Q:Exit->Act->World->Prop}(off fuel0:Nat)(Z:Nat->Prop)
  (hQ:∀(listed:Array Bool) a w bl,listed.size=ops.size->(∀j,j<ops.size->(listed.getD j true=false↔Z j))->aT c bl gf hf a w->wpAny P .any ops Q fuel0 listed a w):∀(fuel:Nat)(R:List Item)(listed:Array Bool)(g:Nat->AV)(h:Nat->Option au)(a:Act)(w:World)(bl:Nat->Option Nat),R.length=fuel->listed.size=ops.size ->
   aT c bl g h a w->T P R g h gf hf->Un al (λm=>∃t∈R,t.i=m) g h ->
   (∀j,j<ops.size->(listed.getD j true=false↔(∃t∈R,off+t.i=j)\/Z j)) ->
   (∀j,Z j->∀t∈R,off+t.i∈bs.getD j []) ->
   (∀i o,listed.getD i false=true->ops[i]?=some o->∀d∈lS o,listed.getD d false=true) ->
   (∀t∈R,∃o,ops[off+t.i]?=some o/\oK P n ops o=some t.o/\(∀d∈t.bef,off+d∈bs.getD (off+t.i) [])/\bZ t.o.op=true/\(gu t.o.op=true->(t.o.dst.getD 0,t.i)∈al) /\
    (∀d,d∈aV (sA t.ev)\/d∈(fL t.ev).ids->∀m,(d,m)∈al->m=t.i\/m∈t.bef)) ->
   R.Pairwise (λm t=>m.i<t.i/\(m.i∈t.bef\/(GU m.o t.o/\Mt t.x m.x)))->wpAny P .any ops Q (fuel+fuel0) listed a w:=by
 intro fuel
 induction fuel with
 | zero =>
  intro R listed g h a w bl hlen hsz hs ht hu hli hbk hdc hit hpw;have hR:R=[]:=Sw.1 hlen;subst hR;obtain⟨rfl,rfl⟩:=ht;rw[dk];refine hQ listed a w bl hsz (λj hj=>?_) hs;rw[hli j hj];refine⟨λhh=>?_,.inr⟩;rcases hh with⟨t,ht,_⟩|hh
  .cases ht
  .exact hh
 | succ fuel ih =>
  intro R listed g h a w bl hlen hsz hs ht hu hli hbk hdc hit hpw;have hgetD:∀j,j<ops.size->listed.getD j true=listed.getD j false:=λj hj=>by
   have:j<listed.size:=by omega
   simp[pI,yz this]
  rw[Nat.add_right_comm];refine⟨λhr=>?_,λi hi=>?_⟩
  ·
   exfalso;cases R with
   | nil=>simp at hlen
   | cons t R =>
    obtain⟨o,h1,_⟩:=hit t (by simp);have hlt:=(kT.1 h1).1
    have:off+t.i∈Region.ready .any ops listed:=j3.2 ⟨hlt,(hli (off+t.i) hlt).2 (.inl ⟨t,by simp,rfl⟩),o,h1,λd hd=>by
     have hdl:=hO.lt (off+t.i) o h1 d hd;have hds:d<ops.size:=by omega
     cases hv:listed.getD d false with
     | true=>rfl
     | false =>
      rw[<-hgetD d hds]at hv;rcases(hli d hds).1 hv with⟨q,hq,hqi⟩|hz
      .rcases bM.1 hq with rfl|hq
       .omega
       .have:=((List.pairwise_cons.1 hpw).1 q hq).1;omega
      .have h5:=hbk d hz t (by simp);have h6:=hO.bef_lt d ops[d] (yz hds) _ h5;omega⟩
    rw[hr]at this;cases this
  .obtain⟨h1,h2,o,h3,h4⟩:=j3.1 hi;have hbefs:∀d∈bs.getD i [],listed.getD d false=true:=hO.listed hdc i o h3 h4;have hiR:∃t∈R,off+t.i=i:=by
    rcases(hli i h1).1 h2 with hh|hz
    .exact hh
    .exfalso;cases R with
     | nil=>simp at hlen
     | cons t R =>
      have h5:=hbefs _ (hbk i hz t (by simp));obtain⟨ot,hot,_⟩:=hit t (by simp);have hl:=(kT.1 hot).1;have h6:=(hli (off+t.i) hl).2 (.inl ⟨t,by simp,rfl⟩);rw[hgetD _ hl,h5]at h6;cases h6
   obtain⟨t,htR,hti⟩:=hiR;subst hti;obtain⟨A,B,rfl⟩:=List.append_of_mem htR;obtain⟨o',q1,q2,q3,q4,q5,q6⟩:=hit t (by simp);rw[h3]at q1;cases q1;have hbef:∀d∈t.bef,listed.getD (off+d) false=true:=λd hd=>hbefs _ (q3 d hd);have hpA:∀m∈A,m.i<t.i/\(m.i∈t.bef\/(GU m.o t.o/\Mt t.x m.x)):=λm hm=>(List.pairwise_append.1 hpw).2.2 m hm t (by simp);have hun:∀m∈A++B,m.i≠t.i:=λm hm=>by
    rcases gW.1 hm with hm|hm
    .have:=(hpA m hm).1;omega
    .have:=((List.pairwise_cons.1 (List.pairwise_append.1 hpw).2.1).1 m hm).1;omega
   have hnot:∀m∈A++t::B,listed.getD (off+m.i) false=false:=λm hm=>by
    obtain⟨om,hom,_⟩:=hit m hm;have hl:=(kT.1 hom).1;rw[<-hgetD (off+m.i) hl];exact(hli (off+m.i) hl).2 (.inl ⟨m,hm,rfl⟩)
   obtain⟨g1,hh1,hst,hT⟩:=acm A t B g h gf hf ht (λm hm=>by
    rcases(hpA m hm).2 with hb|hb
    .have:=hbef m.i hb;rw[hnot m (by simp[hm])]at this;cases this
    .exact hb) (λm hm=>by obtain⟨_,_,_,_,q,_⟩:=hit m (by simp[hm]);exact q) q4
   unfold wpOp;rw[h3];simp only
   have hu':Un al (λm=>∃q∈A++B,q.i=m) g1 hh1:=Un.step hst hu q4 q6 (λm hm ⟨q,hq,hqi⟩=>by
    have:=hbef m hm
    rw[<-hqi,hnot q (by
     rcases gW.1 hq with hq|hq
     .simp[hq]
     .simp[hq])]at this
    cases this) q5 hone (λm ⟨q,hq,hqi⟩=>⟨⟨q,by
     rcases gW.1 hq with hq|hq
     .simp[hq]
     .simp[hq],hqi⟩,by rw[<-hqi];exact hun q hq⟩)
   refine Ou q2 hn hst hs (λha=>?_) (λa' w' bl' hs'=>?_)
   .obtain⟨u1,u2⟩:=hu _ t.i (q5 ha) ⟨t,by simp,rfl⟩;exact⟨u1,u2,.inl (hal _ _ (q5 ha))⟩
   .refine ih (A++B) (listed.setIfInBounds (off+t.i) true) g1 hh1 a' w' bl' (by simp at hlen⊢;omega) (by simpa using hsz) hs' hT hu' (λj hj=>?_) (λj hz m hm=>hbk j hz m ?_) (λj oj hj hoj d hd=>?_) (λm hm=>?_) ?_
    .have hset:(listed.setIfInBounds (off+t.i) true).getD j true=if off+t.i=j then true else listed.getD j true:=by
      simp only[pI,J0];split
      .rename_i e;subst e;simp[hsz,h1]
      .rfl
     rw[hset];constructor
     .intro hv;split at hv
      .cases hv
      .rename_i hne;rcases(hli j hj).1 hv with⟨q,hq,hqi⟩|hz
       .refine .inl ⟨q,?_,hqi⟩;rcases gW.1 hq with hq|hq
        .simp[hq]
        .rcases bM.1 hq with rfl|hq
         .exact absurd hqi hne
         .simp[hq]
       .exact .inr hz
     .rintro(⟨q,hq,hqi⟩|hz)
      .rw[an (λe=>hun q hq (by omega))];refine(hli j hj).2 (.inl ⟨q,?_,hqi⟩);rcases gW.1 hq with hq|hq
       .simp[hq]
       .simp[hq]
      .rw[an (λe=>by
        subst e;have h5:=hbk _ hz t (by simp);have h6:=hO.bef_lt _ _ h3 _ h5;omega)]
       exact(hli j hj).2 (.inr hz)
    .rcases gW.1 hm with hm|hm
     .simp[hm]
     .simp[hm]
    .have hset:∀k,(listed.setIfInBounds (off+t.i) true).getD k false=if off+t.i=k then true else listed.getD k false:=λk=>by
      simp only[pI,J0];split
      .rename_i e;subst e;simp[hsz,h1]
      .rfl
     rw[hset]at hj⊢;split
     .rfl
     .split at hj
      .rename_i e;subst e;rw[h3]at hoj;cases hoj;exact h4 d hd
      .exact hdc j oj hj hoj d hd
    .refine hit m ?_;rcases gW.1 hm with hm|hm
     .simp[hm]
     .simp[hm]
    .have hsub:(A++B).Sublist (A++t::B):=List.Sublist.append_left (List.sublist_cons_self t B) A;exact hpw.sublist hsub
end
def LQ(c:sV)(K:IX->St->Prop):Exit->Act->World->Prop
 | .normal,a,w=>∃s,K .nrm s/\dd c s a w
 | .ret,a,w=>∃s,K .ret s/\dd c s a w
 | .exit id,a,w=>∃s,K (.ext id) s/\dd c s a w
 | _,_,_=>False
section
variable{P:Program}[bE P]{c:sV}[CT c P]{n:Nat}
def qc{p:Nat->Prop}(h:∃n,p n):∃n,p n/\∀m,m<n->¬p m:=by
 obtain⟨n,hn⟩:=h
 induction n using Nat.strongRecOn with
 | _ n ih =>
  by_cases hm:∃m,m<n/\p m
  .obtain⟨m,h1,h2⟩:=hm;exact ih m h1 h2
  .exact⟨n,hn,λm h1 h2=>hm ⟨m,h1,h2⟩⟩
open Classical in
def Sr{x:Code}{Q:Exit->Act->World->Prop}{a:Act}{w:World}(I:Nat->Act->World->Prop)(h0:∃n,I n a w)
  (round:∀n a w,I n a w->x.wp P (Exit.then (λa' w'=>∃m,m<n/\I m a' w') Q) a w):(Code.loop x).wp P Q a w:=by
 refine wp_loop (λa w=>∃n,I n a w) (λa w=>if h:∃n,I n a w then Classical.choose (qc h)else 0) h0 (λa w hI=>?_);have hc:=Classical.choose_spec (qc hI);refine Code.wp_mono (λe a' w' hq=>?_) (round _ a w hc.1);cases e<;>try exact hq
 obtain⟨m,hm,hI'⟩:=hq;refine⟨⟨m,hI'⟩,?_⟩;rw[dif_pos ⟨m,hI'⟩,dif_pos hI];have hc':=Classical.choose_spec (qc (p:=λn=>I n a' w') ⟨m,hI'⟩);rcases kU m (Classical.choose (qc (p:=λn=>I n a' w') ⟨m,hI'⟩))with h1|h1
 .exact absurd hI' (hc'.2 m h1)
 .omega
def uw{ops:Array Oper}:∀{l:List Oper}{il:List bH},vL P n ops l=some il->il.length=l.length/\∀(j:Nat)(io:bH),il[j]?=some io->∃o,l[j]?=some o/\oK P n ops o=some io
 | [],il,h=>by simp only[vL,dt]at h;subst h;simp
 | o::r,il,h=>by
  simp only[vL]at h;split at h
  case h_2=>cases h
  rename_i x xs h1 h2;cases h;obtain⟨h3,h4⟩:=uw h2;refine⟨by simp[h3],λj io hj=>?_⟩;cases j with
  | zero=>simp at hj;subst hj;exact⟨o,by simp,h1⟩
  | succ j=>simp at hj;obtain⟨o',h5,h6⟩:=h4 j io hj;exact⟨o',by simpa using h5,h6⟩
def ur:∀(l:List bH)(i:Nat)(d m:Nat),(d,m)∈dA i l↔∃j o,l[j]?=some o/\gu o.op=true/\d=o.dst.getD 0/\m=i+j
 | [],i,d,m=>by simp[dA]
 | o::r,i,d,m=>by
  have ih:=ur r (i+1) d m;have key:(∃j o',(o::r)[j]?=some o'/\gu o'.op=true/\d=o'.dst.getD 0/\m=i+j)↔(gu o.op=true/\d=o.dst.getD 0/\m=i)\/∃j o',r[j]?=some o'/\gu o'.op=true/\d=o'.dst.getD 0/\m=i+1+j:=by
   constructor
   .rintro⟨j,o',h1,h2,h3,h4⟩;cases j with
    | zero=>simp at h1;subst h1;exact .inl ⟨h2,h3,by omega⟩
    | succ j=>exact .inr ⟨j,o',by simpa using h1,h2,h3,by omega⟩
   .rintro(⟨h2,h3,h4⟩|⟨j,o',h1,h2,h3,h4⟩)
    .exact⟨0,o,by simp,h2,h3,by omega⟩
    .exact⟨j+1,o',by simpa using h1,h2,h3,by omega⟩
  rw[key,<-ih];by_cases ha:gu o.op=true
  .rw[show dA i (o::r)=(o.dst.getD 0,i)::dA (i+1) r from by simp[dA,ha]];simp[ha]
  .rw[show dA i (o::r)=dA (i+1) r from by simp[dA,ha]];simp[ha]
def B8:∀{l:List Nat},Jr l=true->l.Nodup
 | [],_=>by simp
 | x::r,h=>by
  simp only[Jr,dX,Fr,OF,decide_eq_false_iff_not]at h;exact List.nodup_cons.2 ⟨h.1,B8 h.2⟩
def Tt{al:List (Nat×Nat)}(h:(al.map (·.1)).Nodup):Di al:=by
 induction al with
 | nil=>intro d m m' h1;cases h1
 | cons p r ih =>
  simp only[cM,List.nodup_cons]at h;intro d m m' h1 h2;rcases bM.1 h1 with e1|h1<;>rcases bM.1 h2 with e2|h2
  .rw[<-e1]at e2;cases e2;rfl
  .exact absurd (fb.2 ⟨(d,m'),h2,by rw[<-e1]⟩) h.1
  .exact absurd (fb.2 ⟨(d,m),h1,by rw[<-e2]⟩) h.1
  .exact ih h.2 d m m' h1 h2
def pw:∀(l:List Nat)(s:St)(d:Nat),(ak s.heap d=none/\dG d (get s.env) (ak s.heap))\/d∈l->ak (kills l s).heap d=none/\dG d (get (kills l s).env) (ak (kills l s).heap)
 | [],s,d,h=>by rcases h with h|h;exact h;cases h
 | i::r,s,d,h=>by
  refine pw r (s.kill i) d ?_;by_cases hd:d=i
  .subst hd;exact .inl (gR s d)
  .rcases h with⟨h1,h2⟩|h
   .refine .inl ⟨by simp[St.kill,gw,fe,h1],λk=>?_,λj o hj hr q hq x hx=>?_⟩
    .simp only[St.kill,jD];unfold jU;split
     .rfl
     .exact h2.1 k
    .simp only[St.kill,gw,fe,eS]at hj;obtain⟨o0,h3,rfl⟩:=hj;split at h3
     .cases h3
     .rw[uX]at hr;simp only[ff,hr,dR,fb]at hq;obtain⟨q0,hq0,rfl⟩:=hq;obtain⟨x0,hx0,rfl⟩:=fb.1 hx;unfold rC;split
      .rfl
      .exact h2.2 j o0 h3 hr q0 hq0 x0 hx0
   .rcases bM.1 h with h|h
    .exact absurd h hd
    .exact .inr h
def DT{al:List (Nat×Nat)}:∀{items:List Item}{hist:List HI},Fz al hist items->(∀t∈items,(∀y∈hist,y.i∈t.bef\/Mt t.x y)/\t.x.i=t.i/\(∀d,d∈aV (sA t.ev)\/d∈(fL t.ev).ids->∀m,(d,m)∈al->m=t.i\/m∈t.bef)) /\
  items.Pairwise (λm t=>m.i∈t.bef\/Mt t.x m.x)
 | [],_,_=>⟨by simp,List.Pairwise.nil⟩
 | t::R,hist,h=>by
  obtain⟨h1,h2,h3,h4⟩:=h;obtain⟨h5,h6⟩:=DT h4;refine⟨λq hq=>?_,List.pairwise_cons.2 ⟨λq hq=>?_,h6⟩⟩
  .rcases bM.1 hq with rfl|hq
   .exact⟨h2,h1,h3⟩
   .exact⟨λy hy=>(h5 q hq).1 y (by simp[hy]),(h5 q hq).2⟩
  .have:=(h5 q hq).1 t.x (by simp);rwa[h1]at this
def L3(l:List Nat):∀(f k:Nat),(∀d,d<k->d∈l)->∀d,d<ib l f k->d∈l
 | 0,k,h=>h
 | f+1,k,h=>by
  simp only[ib];split
  .rename_i hc;refine L3 l f (k+1) (λd hd=>?_);rcases kU d k with h1|h1
   .exact h d h1
   .obtain rfl:d=k:=by omega
    simpa using hc
  .exact h
def MQ(bs:List (List Nat))(N:Nat):Nat->List bH->List (Nat×List bH)->Prop
 | _,l,[]=>l=[]
 | i,l,(k,s)::t=>k=i/\s≠[]/\∃r,l=s++r/\MQ bs N (i+s.length) r t/\(t≠[]->∀j,i+s.length<=j->j<N->∀d,d<i+s.length->d∈bs.getD j [])
def P4(bs:List (List Nat))(N:Nat):∀(l:List bH)(i:Nat),i+l.length=N->MQ bs N i l (Mq bs i l).1/\∀j,i<=j->j<N->(Mq bs i l).2<=ib (bs.getD j []) j 0
 | [],i,h=>⟨rfl,λj h1 h2=>by simp at h;omega⟩
 | o::r,i,h=>by
  simp only[i9]at h;obtain⟨h1,h2⟩:=P4 bs N r (i+1) (by omega);have hm:∀(m:Nat),m=(Mq bs (i+1) r).2->∀j,i<=j->j<N->min m (ib (bs.getD i []) i 0)<=ib (bs.getD j []) j 0:=λm hm j h3 h4=>by
   rcases kU i j with h5|h5
   .exact gD (Nat.min_le_left _ _) (by rw[hm];exact h2 j h5 h4)
   .obtain rfl:i=j:=by omega
    exact Nat.min_le_right _ _
  rw[Mq];generalize hs:Mq bs (i+1) r=q at*;obtain⟨t,m⟩:=q
  match t,h1 with
  | [],h1 =>
   refine⟨⟨rfl,by simp,r,rfl,h1,λh=>absurd rfl h⟩,hm m rfl⟩
  | (k,s)::t,h1 =>
   simp only;split
   .rename_i hc;refine⟨⟨rfl,by simp,r,rfl,h1,λ_ j h3 h4 d h5=>?_⟩,hm m rfl⟩;simp only[Ss]at h3 h5;exact L3 _ j 0 (λd hd=>absurd hd (Nat.not_lt_zero d)) d (HZ (show d<m by omega) (h2 j h3 h4))
   .obtain⟨e1,e2,r',e3,e4,e5⟩:=h1;have e:i+1+s.length=i+(o::s).length:=by simp;omega
    refine⟨⟨rfl,by simp,r',by rw[e3];rfl,by rw[<-e];exact e4,by rw[<-e];exact e5⟩,hm m rfl⟩
def jQ{ic x:bC}(h:d_ ic=x)(hx:(∃ops dr,x = .reg ops dr)\/x = .skip\/x = .ret\/∃id,x = .exit id):ic=x:=by
 rcases hx with⟨ops,dr,rfl⟩|rfl|rfl|⟨id,rfl⟩<;>cases ic<;>simp only[d_]at h<;>first|(cases h;done)|rfl|exact h
def ab3(ic ic0:bC):Prop:=(ic=ic0\/∃ops al dr,ic0 = .draw ops al dr/\(ic = .wild ops al dr\/∃cs,ic = .clon cs ops al dr))\/∃ops al dr,ic0 = .draw ops al dr/\ic = .free ops al dr
def Hf{ic x:bC}(h:d_ ic=x)(hx:(∃ops dr,x = .reg ops dr)\/∃ops al dr,x = .draw ops al dr):ab3 ic x:=by
 rcases hx with⟨ops,dr,rfl⟩|⟨ops,al,dr,rfl⟩
 .exact .inl (.inl (jQ h (.inl ⟨_,_,rfl⟩)))
 .cases ic<;>simp only[d_]at h<;>first|(cases h;done)|skip
  .exact .inl (.inl h)
  .cases h;exact .inr ⟨_,_,_,rfl,rfl⟩
  .cases h;exact .inl (.inr ⟨_,_,_,rfl,.inl rfl⟩)
  .cases h;exact .inl (.inr ⟨_,_,_,rfl,.inr ⟨_,rfl⟩⟩)
def Hb{α:Type}{F:α->Prop}:∀{l:List α},xo l F->∀{x:α},x∈l->F x
 | [y],h,x,hx=>by obtain rfl:=fS.1 hx;exact h
 | y::z::r,h,x,hx=>by
  rcases bM.1 hx with rfl|hx
  .exact h.1
  .exact Hb h.2 hx
def Nj{R:List (Nat×aJ)}{t:Nat×aJ}(h:R.Pairwise (λa b=>a.1≠b.1))(ht:t∈R):(R.filter λq=>q.1 != t.1).length+1=R.length:=by
 induction R with
 | nil=>cases ht
 | cons y R ih =>
  have h1:=(List.pairwise_cons.1 h).1;have h2:=(List.pairwise_cons.1 h).2;rcases bM.1 ht with e|ht
  .subst e;have e:R.filter (λq=>q.1 != t.1)=R:=List.filter_eq_self.2 λq hq=>bne_iff_ne.2 λe=>h1 q hq e.symm;have e2:(t.1 != t.1)=false:=by simp
   rw[List.filter_cons,e2,e];rfl
  .have h3:=ih h2 ht;have e2:(y.1 != t.1)=true:=bne_iff_ne.2 (h1 t ht);rw[List.filter_cons,e2];show((R.filter λq=>q.1 != t.1).length+1)+1=R.length+1;omega
section
variable{ops:Array Oper}{bs:List (List Nat)}{L:List bH}{Q:Exit->Act->World->Prop}{a:Act}{w:World}{st:St}{KK:IX->St->Prop}{listed:Array Bool}
def oO{i:Nat}(hsz:listed.size=ops.size)(hl:∀j,j<ops.size->(listed.getD j true=false↔i<=j))(j:Nat)(hj:j<ops.size):listed.getD j false=true↔j<i:=by
 have hgetD:listed.getD j true=listed.getD j false:=by
  have:j<listed.size:=by omega
  simp[pI,yz this]
 have:=hl j hj;rw[hgetD]at this;cases hv:listed.getD j false with
 | true=>simp[hv]at this;simpa using this
 | false=>simp[hv]at this;simpa using this
def px{i:Nat}(hO:ni ops bs)(hsz:listed.size=ops.size)(hl:∀j,j<ops.size->(listed.getD j true=false↔i<=j)) :
  ∀j o,listed.getD j false=true->ops[j]?=some o->∀d∈lS o,listed.getD d false=true:=λj o hj ho d hd=>by
 have hjs:=(kT.1 ho).1;have h1:=(oO hsz hl j hjs).1 hj;have h2:=hO.lt j o ho d hd;exact(oO hsz hl d (by omega)).2 (by omega)
def Bg(hn:c.n=n)(hO:ni ops bs)(hL:vL P n ops ops.toList=some L){i:Nat}{s r:List bH}(hs:L.drop i=s++r)(hne:s≠[]){dr:List Nat}{ic ic0:bC}(hc:QE bs i s dr=some ic0)
  (hic:ab3 ic ic0) (hi:lz P ic st KK) (hst:dd c st a w) (hsz:listed.size=ops.size) (hl:∀j,j<ops.size->(listed.getD j true=false↔i<=j))
  (hcut:r≠[]->∀j,i+s.length<=j->j<ops.size->∀d,d<i+s.length->d∈bs.getD j [])
  (hnext:∀(st':St)(a':Act)(w':World)(listed':Array Bool),KK .nrm st'->dd c st' a' w'->listed'.size=ops.size->(∀j,j<ops.size->(listed'.getD j true=false↔i+s.length<=j))->wpAny P .any ops Q r.length listed' a' w') :
  wpAny P .any ops Q (s.length+r.length) listed a w:=by
 obtain⟨hlen,hget'⟩:=uw hL;simp only[pJ]at hlen;have hsize:i+s.length+r.length=ops.size:=by
  have h1:=congrArg List.length hs;have h2:0<s.length:=ME.2 hne;simp only[Su,dN,hlen]at h1;omega
 have hopi:∀(j:Nat)(io:bH),s[j]?=some io->∃o,ops[i+j]?=some o/\oK P n ops o=some io:=λj io hj=>by
  have h1:L[i+j]?=some io:=by
   rw[<-J1,hs,MH (jh.1 hj).1];exact hj
  obtain⟨o,h2,h3⟩:=hget' (i+j) io h1;exact⟨o,by rw[<-Array.getElem?_toList];exact h2,h3⟩
 have hcut':∀j,i+s.length<=j->j<ops.size->∀d,d<i+s.length->d∈bs.getD j []:=λj h1 h2=>hcut (λe=>by subst e;simp at hsize;omega) j h1 h2;have one:∀o:bH,s=[o]->ic0 = .reg [o] dr->wpAny P .any ops Q (s.length+r.length) listed a w:=by
  rintro o rfl rfl;obtain rfl:ic = .reg [o] dr:=by
   rcases hic with(h|⟨_,_,_,h,_⟩)|⟨_,_,_,h,_⟩
   .exact h
   .cases h
   .cases h
  obtain⟨oo,h1,h2⟩:=hopi 0 o rfl;rw[Nat.add_zero]at h1;have his:=(kT.1 h1).1;rw[Ss,Nat.add_comm 1];have hrd:∀k∈Region.ready .any ops listed,k=i:=λk hk=>by
   obtain⟨k1,k2,ok,k3,k4⟩:=j3.1 hk;have k5:=(hl k k1).1 k2;rcases kU i k with h5|h5
   .exfalso;have h6:=hcut' k (by simp;omega) k1 i (by simp);have h7:=hO.listed (px hO hsz hl) k ok k3 k4 i h6;have:=(oO hsz hl i his).1 h7;omega
   .omega
  refine⟨λhr=>?_,λk hk=>?_⟩
  .exfalso
   have:i∈Region.ready .any ops listed:=j3.2 ⟨his,(hl i his).2 (aQ _),oo,h1,λd hd=>by
    have hdl:=hO.lt i oo h1 d hd;exact(oO hsz hl d (by omega)).2 hdl⟩
   rw[hr]at this;cases this
  .obtain rfl:=hrd k hk;unfold wpOp;rw[h1];simp only[lz]at hi⊢;refine x4 hn Q h2 hi hst λs' a' w' h3 h4=>?_;refine hnext _ a' w' _ h3 (dd.dels _ h4) (by simpa using hsz) (λj hj=>?_);have hset:(listed.setIfInBounds k true).getD j true=if k=j then true else listed.getD j true:=by
    simp only[pI,J0];split
    .rename_i e;subst e;simp[hsz,hj]
    .rfl
   rw[hset,Ss];split
   .rename_i e;subst e;simp
   .rename_i e;rw[hl j hj];omega
 have many:CQ (u9 bs i s.length) s dr=some ic0->wpAny P .any ops Q (s.length+r.length) listed a w:=by
  intro hc;unfold CQ at hc;split at hc
  case isFalse=>cases hc
  rename_i hcond;simp only[dX]at hcond;obtain⟨⟨⟨c2,c3⟩,c4⟩,c5⟩:=hcond;cases hc;have hrel:∀k,k<s.length->∀d,d∈(u9 bs i s.length).getD k []↔i+d∈bs.getD (i+k) []:=λk hk d=>by
   have e:(u9 bs i s.length).getD k []=(bs.getD (i+k) []).filterMap λd=>if i<=d then some (d-i)else none:=by
    simp only[u9,List.getD_eq_getElem?_getD,iG,MC hk,fR,cG]
   rw[e,List.mem_filterMap];constructor
   .rintro⟨q,hq,hqd⟩;split at hqd
    .cases hqd;rwa[show i+(q-i)=q by omega]
    .cases hqd
   .intro hd;exact⟨i+d,hd,by rw[az (by omega)];congr 1;omega⟩
  rcases hic with hic|⟨_,_,_,hcc,rfl⟩
  rotate_left
  .cases hcc;simp only[lz]at hi;have key:∀(fuel:Nat)(R:List (Nat×aJ))(listed:Array Bool)(st:St)(a:Act)(w:World),R.length=fuel->dd c st a w->listed.size=ops.size ->
     (∀j,j<ops.size->(listed.getD j true=false↔(∃t∈R,i+t.1=j)\/i+s.length<=j)) ->
     (∀j o,listed.getD j false=true->ops[j]?=some o->∀d∈lS o,listed.getD d false=true) ->
     (∀t∈R,t.1<s.length/\s[t.1]?=some t.2.o/\t.2.bef=(u9 bs i s.length).getD t.1 [])->R.Pairwise (λa b=>a.1≠b.1) ->
     sD P fuel R st (λs'=>KK .nrm ⟨dels dr s'.env,s'.heap⟩)->wpAny P .any ops Q (fuel+r.length) listed a w:=by
    intro fuel
    induction fuel with
    | zero =>
     intro R listed st a w hlen hst hsz hli hdc hit hpw hf;have hR:R=[]:=Sw.1 hlen;subst hR;rw[dk];refine hnext _ a w listed hf (dd.dels _ hst) hsz (λj hj=>?_);rw[hli j hj];exact⟨λhh=>by rcases hh with⟨t,ht,_⟩|hh;cases ht;exact hh,.inr⟩
    | succ fuel ih =>
     intro R listed st a w hlen hst hsz hli hdc hit hpw hf;have hgetD:∀j,j<ops.size->listed.getD j true=listed.getD j false:=λj hj=>by
      have:j<listed.size:=by omega
      simp[pI,yz this]
     have hopR:∀t∈R,∃o,ops[i+t.1]?=some o/\oK P n ops o=some t.2.o:=λt ht=>hopi t.1 t.2.o (hit t ht).2.1;have hun:∀t∈R,listed.getD (i+t.1) false=false:=λt ht=>by
      obtain⟨o,ho,_⟩:=hopR t ht;have hl:=(kT.1 ho).1;rw[<-hgetD _ hl];exact(hli _ hl).2 (.inl ⟨t,ht,rfl⟩)
     rw[Nat.add_right_comm];refine⟨λhr=>?_,λk hk=>?_⟩
     .exfalso;have hex:∃m,∃t∈R,t.1=m:=by
       cases R with
       | nil=>simp at hlen
       | cons t R=>exact⟨t.1,t,by simp,rfl⟩
      obtain⟨m,⟨t,ht,rfl⟩,hmin⟩:=qc hex;obtain⟨o,ho,_⟩:=hopR t ht;have hlt:=(kT.1 ho).1
      have:i+t.1∈Region.ready .any ops listed:=j3.2 ⟨hlt,(hli _ hlt).2 (.inl ⟨t,ht,rfl⟩),o,ho,λd hd=>by
       have hdl:=hO.lt (i+t.1) o ho d hd;have hds:d<ops.size:=by omega
       cases hv:listed.getD d false with
       | true=>rfl
       | false =>
        rw[<-hgetD d hds]at hv;rcases(hli d hds).1 hv with⟨q,hq,hqi⟩|hz
        .exact absurd ⟨q,hq,rfl⟩ (hmin q.1 (by omega))
        .have:=(hit t ht).1;omega⟩
      rw[hr]at this;cases this
     .obtain⟨k1,k2,o,k3,k4⟩:=j3.1 hk;have hbefs:∀d∈bs.getD k [],listed.getD d false=true:=hO.listed hdc k o k3 k4;have hkR:∃t∈R,i+t.1=k:=by
       rcases(hli k k1).1 k2 with hh|hz
       .exact hh
       .exfalso;cases R with
        | nil=>simp at hlen
        | cons t R =>
         have h1:=(hit t (by simp)).1;have h2:=hbefs _ (hcut' k hz k1 (i+t.1) (by omega));rw[hun t (by simp)]at h2;cases h2
      obtain⟨t,ht,rfl⟩:=hkR;obtain⟨oo,ho,hco⟩:=hopR t ht;rw[k3]at ho;cases ho;have htr:t∈rdy R:=by
       unfold rdy;rw[List.mem_filter];refine⟨ht,ii.2 λq hq=>?_⟩;cases hb:t.2.bef.contains q.1 with
       | false=>rfl
       | true =>
        exfalso;have h1:q.1∈t.2.bef:=by simpa using hb
        rw[(hit t ht).2.2,hrel t.1 (hit t ht).1]at h1;have h2:=hbefs _ h1;rw[hun q hq]at h2;cases h2
      have hft:=Hb hf htr;unfold wpOp;rw[k3];simp only;refine x4 hn Q hco hft hst λs' a' w' h3 h4=>?_;have hfl:=Nj hpw ht;refine ih (R.filter λq=>q.1 != t.1) (listed.setIfInBounds (i+t.1) true) s' a' w' (by omega) h4 (by simpa using hsz) (λj hj=>?_) (λj oj hj hoj d hd=>?_) (λq hq=>hit q (List.mem_filter.1 hq).1) (hpw.sublist List.filter_sublist) h3
      .have hset:(listed.setIfInBounds (i+t.1) true).getD j true=if i+t.1=j then true else listed.getD j true:=by
        simp only[pI,J0];split
        .rename_i e;subst e;simp[hsz,k1]
        .rfl
       rw[hset];constructor
       .intro hv;split at hv
        .cases hv
        .rename_i hne;rcases(hli j hj).1 hv with⟨q,hq,hqi⟩|hz
         .exact .inl ⟨q,List.mem_filter.2 ⟨hq,by simp;omega⟩,hqi⟩
         .exact .inr hz
       .rintro(⟨q,hq,hqi⟩|hz)
        .obtain⟨hq1,hq2⟩:=List.mem_filter.1 hq;have hq3:q.1≠t.1:=by simpa using hq2
         rw[an (by omega)];exact(hli j hj).2 (.inl ⟨q,hq1,hqi⟩)
        .have h1:=(hit t ht).1;rw[an (by omega)];exact(hli j hj).2 (.inr hz)
      .have hset:∀k,(listed.setIfInBounds (i+t.1) true).getD k false=if i+t.1=k then true else listed.getD k false:=λk=>by
        simp only[pI,J0];split
        .rename_i e;subst e;simp[hsz,k1]
        .rfl
       rw[hset]at hj⊢;split
       .rfl
       .split at hj
        .rename_i e;subst e;rw[k3]at hoj;cases hoj;exact k4 d hd
        .exact hdc j oj hj hoj d hd
   have hzl:((s.zipIdx.map λp=>(⟨p.1,(u9 bs i s.length).getD p.2 []⟩:aJ)).zipIdx.map λp=>(p.2,p.1)).length=s.length:=by simp
   have hzm:∀t,t∈((s.zipIdx.map λp=>(⟨p.1,(u9 bs i s.length).getD p.2 []⟩:aJ)).zipIdx.map λp=>(p.2,p.1))↔t.1<s.length/\s[t.1]?=some t.2.o/\t.2.bef=(u9 bs i s.length).getD t.1 []:=λt=>by
    obtain⟨t1,⟨t2,t3⟩⟩:=t;rw[fb];constructor
    .rintro⟨p,hp,he⟩;obtain⟨p1,p2⟩:=p;cases he;rw[List.mem_zipIdx_iff_getElem?]at hp;simp only[iG,List.getElem?_zipIdx,Option.map_map,eS,Function.comp]at hp;obtain⟨io,h1,h2⟩:=hp;cases h2;exact⟨(jh.1 h1).1,h1,by simp⟩
    .rintro⟨h1,h2,h3⟩;refine⟨(⟨t2,t3⟩,t1),?_,rfl⟩;rw[List.mem_zipIdx_iff_getElem?];simp only at h1 h2 h3⊢;simp[h2,h3]
   rw[bY,List.length_zipIdx]at hi;refine key s.length _ listed st a w hzl hst hsz (λj hj=>?_) (px hO hsz hl) (λt ht=>(hzm t).1 ht) ?_ hi
   .rw[hl j hj];constructor
    .intro hij;rcases kU j (i+s.length)with h1|h1
     .exact .inl ⟨(j-i,⟨s[j-i]'(by omega),(u9 bs i s.length).getD (j-i) []⟩),(hzm _).2 ⟨by simp only;omega,kS _,rfl⟩,by simp only;omega⟩
     .exact .inr h1
    .rintro(⟨t,ht,h1⟩|h1)
     .omega
     .omega
   .refine List.pairwise_map.2 ?_
    exact(List.nodup_iff_pairwise_ne.1 (by
     have:((s.zipIdx.map λp=>(⟨p.1,(u9 bs i s.length).getD p.2 []⟩:aJ)).zipIdx.map Prod.snd).Nodup:=by
      rw[List.zipIdx_map_snd];exact List.nodup_range'
     exact this):List.Pairwise _ _) |> List.pairwise_map.1
  have hone:Di (dA 0 s):=Tt (B8 c4);have hal:∀d m,(d,m)∈dA 0 s->d<1000:=λd m hd=>by simpa using ii.1 c3 (d,m) hd
  have hlz:∀(j:Nat)(o:aJ),(s.zipIdx.map λp=>(⟨p.1,(u9 bs i s.length).getD p.2 []⟩:aJ))[j]?=some o->s[j]?=some o.o/\o.bef=(u9 bs i s.length).getD j []:=λj o hj=>by
   simp only[iG,List.getElem?_zipIdx,Option.map_map,eS,Function.comp]at hj;obtain⟨io,h1,rfl⟩:=hj;exact⟨h1,by simp⟩
  have hun:Un (dA 0 s) (λm=>0<=m) (get (kills ((dA 0 s).map (·.1)) st).env) (ak (kills ((dA 0 s).map (·.1)) st).heap):=(λd m hdm _=>pw _ st d (.inr (fb.2 ⟨(d,m),hdm,rfl⟩)))
  have hpl:∀(j:Nat)(o:aJ),(s.zipIdx.map λp=>(⟨p.1,(u9 bs i s.length).getD p.2 []⟩:aJ))[j]?=some o->(gu o.o.op=true->(o.o.dst.getD 0,0+j)∈dA 0 s)/\(∀m∈o.bef,m<0+j)/\bZ o.o.op=true:=(λj o hj=>by
   obtain⟨h1,h2⟩:=hlz j o hj;obtain⟨oo,h3,h4⟩:=hopi j o.o h1;have hjl:=(jh.1 h1).1;refine⟨λha=>(ur s 0 _ _).2 ⟨j,o.o,h1,ha,rfl,by omega⟩,λm hm=>?_,ii.1 c5 o.o (rO h1)⟩;rw[h2,hrel j hjl]at hm;have:=hO.bef_lt (i+j) oo h3 _ hm;omega)
  have trace:∃(items:List Item)(s':St),KK .nrm ⟨dels dr s'.env,s'.heap⟩/\T P items (get (kills ((dA 0 s).map (·.1)) st).env) (ak (kills ((dA 0 s).map (·.1)) st).heap) (get s'.env) (ak s'.heap)/\Fz (dA 0 s) [] items/\items.map Item.i=List.range' 0 (s.zipIdx.map λp=>(⟨p.1,(u9 bs i s.length).getD p.2 []⟩:aJ)).length/\items.map (λt=>(⟨t.o,t.bef⟩:aJ))=s.zipIdx.map λp=>(⟨p.1,(u9 bs i s.length).getD p.2 []⟩:aJ):=by
   rcases hic with rfl|⟨_,_,_,hcc,rfl|⟨cs,rfl⟩⟩
   .simp only[lz]at hi;exact B2 hone _ 0 [] _ _ hi hun (λy hy=>by cases hy) hpl
   .cases hcc;simp only[lz]at hi;exact Il hone _ _ _ hi hun hpl
   .cases hcc;simp only[lz]at hi;exact @B2 _ _ _ ⟨cs⟩ hone _ 0 [] _ _ hi hun (λy hy=>by cases hy) hpl
  obtain⟨items,s',hK,hT,hH,hidx,hmap⟩:=trace;obtain⟨bl,hk⟩:=dd.kills ((dA 0 s).map (·.1)) hst;have hilen:items.length=s.length:=by
   have:=congrArg List.length hmap;simp at this;omega
  have hitem:∀(j:Nat)(t:Item),items[j]?=some t->t.i=j/\s[j]?=some t.o/\t.bef=(u9 bs i s.length).getD j []:=λj t hj=>by
   have h1:(items.map Item.i)[j]?=some t.i:=by simp[hj]
   rw[hidx]at h1;have h2:(items.map λt=>(⟨t.o,t.bef⟩:aJ))[j]?=some ⟨t.o,t.bef⟩:=by simp[hj]
   rw[hmap]at h2;obtain⟨h3,h4⟩:=hlz j _ h2;refine⟨?_,h3,h4⟩
   rw[List.getElem?_range' (by
    have:=(jh.1 h1).1;simpa using this)]at h1
   simp at h1;omega
  have hmem:∀t∈items,t.i<s.length/\items[t.i]?=some t:=λt ht=>by
   obtain⟨j,hj⟩:=List.getElem?_of_mem ht;have:=(hitem j t hj).1;subst this;exact⟨by rw[<-hilen];exact(jh.1 hj).1,hj⟩
  obtain⟨hp1,hp2⟩:=DT hH;refine Qy (Q:=Q) hn hone hal hO i r.length (λj=>i+s.length<=j/\j<ops.size) (λlisted' a' w' bl' h1 h2 h3=>hnext _ a' w' listed' hK (dd.dels _ ⟨bl',h3⟩) h1 (λj hj=>by rw[h2 j hj];exact⟨λh=>h.1,λh=>⟨h,hj⟩⟩)) s.length items listed _ _ a w bl hilen hsz hk hT ?_ (λj hj=>?_) (λj hz t ht=>?_) (px hO hsz hl) (λt ht=>?_) ?_
  .intro d m hdm _;exact pw _ st d (.inr (fb.2 ⟨(d,m),hdm,rfl⟩))
  .rw[hl j hj];constructor
   .intro hij;rcases kU j (i+s.length)with h1|h1
    .have hj':j-i<items.length:=by omega
     exact .inl ⟨items[j-i],eH hj',by rw[(hitem (j-i) _ (kS hj')).1];omega⟩
    .exact .inr ⟨h1,hj⟩
   .rintro(⟨t,ht,h1⟩|h1)<;>omega
  .exact hcut' j hz.1 hz.2 _ (by have:=(hmem t ht).1;omega)
  .obtain⟨h1,h2⟩:=hmem t ht;obtain⟨_,h3,h4⟩:=hitem t.i t h2;obtain⟨oo,h5,h6⟩:=hopi t.i t.o h3;exact⟨oo,h5,h6,λd hd=>by rw[h4,hrel t.i h1]at hd;exact hd,ii.1 c5 t.o (rO h3),λha=>(ur s 0 _ _).2 ⟨t.i,t.o,h3,ha,rfl,by omega⟩,(hp1 t ht).2.2⟩
  .refine List.pairwise_iff_getElem.2 λi' j hi' hj hij=>?_;have e1:=hitem i' _ (kS hi');have e2:=hitem j _ (kS hj);refine⟨by rw[e1.1,e2.1];exact hij,?_⟩;rcases List.pairwise_iff_getElem.1 hp2 i' j hi' hj hij with h1|h1
   .exact .inl h1
   .by_cases hb:items[i'].i∈items[j].bef
    .exact .inl hb
    .refine .inr ⟨?_,h1⟩;have hap:=ii.1 (ii.1 c2 j (List.mem_range.2 (by omega))) i' (List.mem_range.2 hij);simp only[e1.2.1,e2.2.1,Az,OF,ol,dX]at hap;rw[e1.1,e2.2.2]at hb;rcases hap with hap|⟨hap1,hap2⟩
     .exact absurd hap hb
     .refine⟨λd hd=>?_,λd hd=>?_⟩
      .rw[hd]at hap1;simp only[dX,Fr,decide_eq_false_iff_not,bne_iff_ne]at hap1;exact⟨hap1.1,hap1.2⟩
      .rw[hd]at hap2;simpa using hap2
 unfold QE at hc;split at hc
 .exact one _ rfl (by cases hc;rfl)
 .exact many hc
end
def Hg{ic x y:bC}(h:d_ ic = .seq x y):∃x' y',d_ x'=x/\d_ y'=y/\(ic = .seq x' y'\/ic = .cut x' y'):=by
 cases ic<;>simp only[d_]at h<;>first|(cases h;done)|skip
 .rename_i x' y';cases h;exact⟨x',y',rfl,rfl,.inl rfl⟩
 .rename_i x' y';cases h;exact⟨x',y',rfl,rfl,.inr rfl⟩
def Ng{ic x y:bC}{v:IV}(h:d_ ic = .cond v x y):∃x' y',d_ x'=x/\d_ y'=y/\ic = .cond v x' y':=by
 cases ic<;>simp only[d_]at h<;>first|(cases h;done)|skip
 rename_i x' y';cases h;exact⟨x',y',rfl,rfl,rfl⟩
def Ks{ic x:bC}{id:Nat}(h:d_ ic = .block id x):∃x',d_ x'=x/\ic = .block id x':=by
 cases ic<;>simp only[d_]at h<;>first|(cases h;done)|skip
 rename_i x';cases h;exact⟨x',rfl,rfl⟩
def Nh{ic x:bC}(h:d_ ic = .loop x):∃x',d_ x'=x/\ic = .loop x':=by
 cases ic<;>simp only[d_]at h<;>first|(cases h;done)|skip
 rename_i x';cases h;exact⟨x',rfl,rfl⟩
section
variable{ops:Array Oper}{bs:List (List Nat)}{L:List bH}{Q:Exit->Act->World->Prop}
def Du{i:Nat}{s:List bH}{dr:List Nat}{ic:bC}(hc:QE bs i s dr=some ic):(∃ops dr,ic = .reg ops dr)\/∃ops al dr,ic = .draw ops al dr:=by
 unfold QE at hc;split at hc
 .cases hc;exact .inl ⟨_,_,rfl⟩
 .unfold CQ at hc;split at hc
  .cases hc;exact .inr ⟨_,_,_,rfl⟩
  .cases hc
def Om(hn:c.n=n)(hO:ni ops bs)(hL:vL P n ops ops.toList=some L){dr:List Nat}{K:IX->St->Prop} :
  ∀(t:List (Nat×List bH))(i:Nat)(l:List bH)(ic0 ic:bC)(st:St)(a:Act)(w:World)(listed:Array Bool),MQ bs ops.size i l t->L.drop i=l->G7 bs dr t=some ic0->d_ ic=ic0->lz P ic st K->dd c st a w ->
   listed.size=ops.size->(∀j,j<ops.size->(listed.getD j true=false↔i<=j))->wpAny P .any ops (LQ c K) l.length listed a w:=by
 intro t
 induction t with
 | nil =>
  intro i l ic0 ic st a w listed hok hd hc he hi hst hsz hl;obtain rfl:l=[]:=hok;simp only[G7,dt]at hc;subst hc;rw[jQ he (.inl ⟨_,_,rfl⟩)]at hi;simp only[lz,jR]at hi;obtain⟨hlen,_⟩:=uw hL;simp only[pJ]at hlen;have hsize:ops.size<=i:=by
   have:=congrArg List.length hd;simp only[Su,hlen,eG]at this;omega
  refine⟨List.eq_nil_iff_forall_not_mem.2 λj hj=>?_,⟨_,hi,dd.dels _ hst⟩⟩;obtain⟨h1,h2,_⟩:=j3.1 hj;have:=(hl j h1).1 h2;omega
 | cons p t ih =>
  intro i l ic0 ic st a w listed hok hd hc he hi hst hsz hl;obtain⟨k,s⟩:=p;obtain⟨rfl,hne,r,rfl,hok',hcut⟩:=hok;rw[dN];cases t with
  | nil =>
   obtain rfl:r=[]:=hok';simp only[G7]at hc;have he':=Hf he (Du hc);refine Bg (Q:=LQ c K) hn hO hL hd hne hc he' hi hst hsz hl (λh=>absurd rfl h) (λst' a' w' listed' h1 h2 h3 h4=>?_);obtain⟨hlen,_⟩:=uw hL;simp only[pJ]at hlen;have hsize:ops.size<=k+s.length:=by
    have:=congrArg List.length hd;simp only[Su,hlen,dN,eG]at this;omega
   refine⟨List.eq_nil_iff_forall_not_mem.2 λj hj=>?_,⟨_,h1,h2⟩⟩;obtain⟨g1,g2,_⟩:=j3.1 hj;have:=(h4 j g1).1 g2;omega
  | cons q t =>
   simp only[G7]at hc;split at hc
   case h_2=>cases hc
   rename_i x y hx hy;cases hc;obtain⟨x',y',e1,e2,e3⟩:=Hg he;have e4:=Hf e1 (Du hx);have hd':L.drop (k+s.length)=r:=by rw[<-OE,hd,List.drop_left]
   rcases e3 with rfl|rfl
   .refine Bg (Q:=LQ c K) hn hO hL hd hne hx e4 hi hst hsz hl (λ_=>hcut (by simp)) (λst' a' w' listed' h1 h2 h3 h4=>?_);exact ih (k+s.length) r y y' st' a' w' listed' hok' hd' hy e2 h1 h2 h3 h4
   .refine Bg (Q:=LQ c K) hn hO hL hd hne hx e4 hi hst hsz hl (λ_=>hcut (by simp)) (λst' a' w' listed' h1 h2 h3 h4=>?_);obtain⟨s'',hwk,hk⟩:=h1;exact ih (k+s.length) r y y' s'' a' w' listed' hok' hd' hy e2 hk (hwk _ _ _ h2) h3 h4
end
def M_{ops:Array Oper}{dr:List Nat->List Nat}{ic0 ic:bC}{id:Nat}{s:St}{K:IX->St->Prop}{a:Act}{w:World}(hm:P.follows .mixedOrders=true)(hc:ON P n ops dr=some ic0)(he:d_ ic=ic0)(hn:c.n=n)(hi:lz P ic s K)(hs:dd c s a w) :
  (Code.region id ops true).wp P (LQ c K) a w:=by
 unfold ON at hc;split at hc
 .cases hc
 rename_i l hl;split at hc
 case isFalse=>cases hc
 rename_i c1;obtain⟨hlen,_⟩:=uw hl;simp only[pJ]at hlen;refine wp_region_any hm ?_;obtain⟨bl,hs⟩:=hs;have h1:=Om (K:=K) hn (N0 c1) hl (Mq (Tw ops.toList []) 0 l).1 0 l ic0 ic s a {w with drawn:=w.drawn+1} (Array.replicate ops.size false) (P4 _ ops.size l 0 (by omega)).1 rfl hc he hi ⟨bl,hs.world rfl rfl rfl⟩ (by simp) (λj hj=>by simp[pI,hj]);rw[hlen]at h1;exact h1
def xX(hm:P.follows .mixedOrders=true)(hn:c.n=n){sh:List (List Nat)}:∀(x:Code)(ic0:bC),comp P n sh x=some ic0->∀(ic:bC),d_ ic=ic0->∀(s:St)(K:IX->St->Prop)(a:Act)(w:World),lz P ic s K->dd c s a w->x.wp P (LQ c K) a w:=by
 intro x
 induction x with
 | skip=>intro ic0 hc ic he s K a w hi hs;simp only[comp,dt]at hc;subst hc;rw[jQ he (by simp)]at hi;exact wp_skip ⟨s,hi,hs⟩
 | ret=>intro ic0 hc ic he s K a w hi hs;simp only[comp,dt]at hc;subst hc;rw[jQ he (by simp)]at hi;exact wp_ret ⟨s,hi,hs⟩
 | exit id=>intro ic0 hc ic he s K a w hi hs;simp only[comp,dt]at hc;subst hc;rw[jQ he (by simp)]at hi;exact wp_exit ⟨s,hi,hs⟩
 | label l=>intro ic0 hc ic he s K a w hi hs;simp only[comp,dt]at hc;subst hc;rw[jQ he (by simp)]at hi;exact wp_label ⟨s,hi,hs⟩
 | seq x y ihx ihy =>
  intro ic0 hc ic he s K a w hi hs;simp only[comp]at hc;split at hc
  case h_2=>cases hc
  rename_i ix iy h1 h2;cases hc;obtain⟨x',y',e1,e2,e3⟩:=Hg he;rcases e3 with rfl|rfl
  .refine wp_seq (Code.wp_mono (λe a' w' hq=>?_) (ihx ix h1 x' e1 s _ a w hi hs));cases e with
   | normal=>obtain⟨s',hk,hs'⟩:=hq;exact ihy iy h2 y' e2 s' K a' w' hk hs'
   | _=>exact hq
  .refine wp_seq (Code.wp_mono (λe a' w' hq=>?_) (ihx ix h1 x' e1 s _ a w hi hs));cases e with
   | normal=>obtain⟨s',⟨s'',hwk,hk⟩,hs'⟩:=hq;exact ihy iy h2 y' e2 s'' K a' w' hk (hwk _ _ _ hs')
   | _=>exact hq
 | cond v x y ihx ihy =>
  intro ic0 hc ic he s K a w hi hs;simp only[comp]at hc;split at hc
  case h_2=>cases hc
  rename_i iv ix iy h0 h1 h2;cases hc;obtain⟨x',y',e1,e2,rfl⟩:=Ng he;simp only[lz]at hi;split at hi
  case h_2=>exact hi.elim
  rename_i b hv;obtain⟨bl,hsb⟩:=hs;have hvr:=bc hsb h0;rw[hv]at hvr;have href:∀q,b=q->dd c (refine iv q s) a w:=λq hq=>by
   cases iv with
   | c y=>exact⟨bl,hsb⟩
   | s k=>exact⟨bl,hsb.congr (λj=>by rw[show refine (.s k) q s=s.put (some k) (.bool q) from rfl,x3 hv hq]) (λj=>rfl)⟩
  refine wp_cond hvr.bool ?_;cases b with
  | true=>exact ihx ix h1 x' e1 _ K a w (hi.1 rfl) (href true rfl)
  | false=>exact ihy iy h2 y' e2 _ K a w (hi.2 rfl) (href false rfl)
 | block id x ih =>
  intro ic0 hc ic he s K a w hi hs;simp only[comp,eS]at hc;obtain⟨ix,h1,rfl⟩:=hc;obtain⟨x',e1,rfl⟩:=Ks he;refine wp_block (Code.wp_mono (λe a' w' hq=>?_) (ih ix h1 x' e1 s _ a w hi hs));cases e with
  | exit j =>
   obtain⟨s',hk,hs'⟩:=hq;simp only at hk;simp only[Exit.inBlock];split
   .rename_i hj;rw[az hj]at hk;exact⟨s',hk,hs'⟩
   .rename_i hj;rw[an hj]at hk;exact⟨s',hk,hs'⟩
  | _=>exact hq
 | loop x ih =>
  intro ic0 hc ic he s K a w hi hs;simp only[comp,eS]at hc;obtain⟨ix,h1,rfl⟩:=hc;obtain⟨x',e1,rfl⟩:=Nh he;obtain⟨I,⟨m,s0,h0,hwk⟩,hstep⟩:=hi;refine Sr (λm a w=>∃s,I m s/\dd c s a w) ⟨m,s0,h0,hwk _ _ _ hs⟩ (λm a w ⟨s,hI,hs⟩=>?_);refine Code.wp_mono (λe a' w' hq=>?_) (ih ix h1 x' e1 s _ a w (hstep m s hI) hs);cases e with
  | normal =>
   obtain⟨s',⟨m',s'',h2,h3,h4⟩,hs'⟩:=hq;exact⟨m',h2,s'',h3,h4 _ _ _ hs'⟩
  | _=>exact hq
 | scope x ih =>
  intro ic0 hc ic he s K a w hi hs;simp only[comp]at hc;refine wp_scope_straight (Code.wp_mono (λe a' w' hq=>?_) (ih ic0 hc ic he s K a w hi hs));cases e<;>exact hq
 | region id ops d =>
  intro ic0 hc ic he s K a w hi hs;cases d with
  | true =>
   simp only[comp]at hc;exact M_ hm hc he hn hi hs
  | false =>
   simp only[comp]at hc;split at hc
   case h_2=>cases hc
   rename_i l hl;cases hc;rw[jQ he (.inl ⟨_,_,rfl⟩)]at hi;simp only[lz]at hi;exact wp_region_list (DY hn _ ops.toList l hl s _ a w hi hs (λs' a' w' hk hs'=>⟨_,hk,dd.dels _ hs'⟩))
 | rangeFunc f ps as b=>intro ic0 hc;simp[comp]at hc
 | goto l=>intro ic0 hc;simp[comp]at hc
 | refuse y=>intro ic0 hc;simp[comp]at hc
end
def LY:AV->Bool
 | .any=>false
 | .tup _=>false
 | _=>true
def Pe(s:St):pj->Option AV
 | .tmp k=>if LY (get s.env k)then some (get s.env k)else none
 | .cell k n=>match mW n (get s.env k) (ak s.heap)with
  | some x=>if LY x then some x else none
  | none=>none
def KM(s:St):List pj->Option (List AV)
 | []=>some []
 | x::r=>match Pe s x,KM s r with
  | some y,some l=>some (y::l)
  | _,_=>none
def x5(l:List pj)(s:St):Option AV :=
 match KM s l with
 | some [x]=>some x
 | some l=>some (.tup l)
 | none=>none
def ir:Nat->List AV->List (Nat×AV)
 | _,[]=>[]
 | i,x::r=>(i,x)::ir (i+1) r
def DP:∀(l:List AV)(i k:Nat),get (ir i l) k=if i<=k then(l[k-i]?).getD .any else .any
 | [],i,k=>by simp[ir,get]
 | x::r,i,k=>by
  simp only[ir,get];by_cases h:i=k
  .subst h;simp
  .rw[an h,DP r (i+1) k];by_cases h2:i+1<=k
   .rw[az h2,az (by omega),show k-i=(k-(i+1))+1 by omega,Fs]
   .rw[an h2];by_cases h3:i<=k
    .omega
    .rw[an h3]
def BZ(E:List (Nat×AV)):∀(l:List AV)(i k:Nat),get (ir i l++E) k=if i<=k then(match l[k-i]? with|some x=>x|none=>get E k)else get E k
 | [],i,k=>by simp[ir]
 | x::r,i,k=>by
  simp only[ir,oG,get];by_cases h:i=k
  .subst h;simp
  .rw[an h,BZ E r (i+1) k];by_cases h2:i+1<=k
   .rw[az h2,az (by omega),show k-i=(k-(i+1))+1 by omega,Fs]
   .rw[an h2];by_cases h3:i<=k
    .omega
    .rw[an h3]
def O8:∀{l:List (Nat×AV)}{k:Nat},get l k = .any\/(k,get l k)∈l
 | [],k=>.inl rfl
 | (j,x)::r,k=>by
  simp only[get];split
  .rename_i h;subst h;exact .inr (by simp)
  .rcases O8 (l:=r) (k:=k)with h|h
   .exact .inl h
   .exact .inr (by simp[h])
section
variable{P:Program}[bE P]{c:sV}[CT c P]{bl:Nat->Option Nat}{a:Act}{w:World}{s:St}
def aaK{M:Nat->Prop}{v:Value}{x:AV}(hx:LY x=true)(hv:bv bl M w v x):gq bl M w v x:=by
 cases x<;>first|(simp[LY]at hx;done)|exact hv
def rv1(tmps:Array Value):ResultVar->Sem Value
 | .tmp t=>Pure.pure (tmps.getD t undef)
 | .cell q t=>do loadVar t (<-asAddr (tmps.getD q undef))
def Of(fn:Func)(tmps:Array Value):results fn tmps=(do let vs <-fn.results.mapM (rv1 tmps);Pure.pure (if h:vs.size=1 then vs[0]else .tuple vs)):=by
 unfold results;congr 1
def DZ(hs:aT c bl (get s.env) (ak s.heap) a w):∀(rv:List ResultVar)(l:List pj),AI P rv=some l->∀(xs:List AV),KM s l=some xs ->
  ∃vs:List Value,(rv.mapM (rv1 a.tmps)).run P w = .ok vs w/\bg (gq bl (bQ bl c.MF (ak s.heap)) w) vs xs
 | [],l,hc,xs,hx=>by
  simp only[AI,dt]at hc;subst hc;simp only[KM,dt]at hx;subst hx;exact⟨[],by simp,trivial⟩
 | .tmp t::r,l,hc,xs,hx=>by
  simp only[AI]at hc;split at hc
  case isFalse=>cases hc
  rename_i hlo;simp only[eS]at hc;obtain⟨l',h1,rfl⟩:=hc;simp only[KM]at hx;split at hx
  case h_2=>cases hx
  rename_i y l2 h2 h3;cases hx;simp only[Pe]at h2;split at h2
  case isFalse=>cases h2
  rename_i hok;cases h2;obtain⟨vs,h4,h5⟩:=DZ hs r l' h1 l2 h3;refine⟨a.tmps.getD t undef::vs,?_,aaK hok (by rw[<-Cb hlo];exact hs.env t),h5⟩;simp only[List.mapM_cons,rv1,mq,vj,ny,h4]
 | .cell q t::r,l,hc,xs,hx=>by
  simp only[AI]at hc;split at hc
  case h_2=>cases hc
  rename_i n l' h0 h1;split at hc
  case isFalse=>cases hc
  rename_i hlo;cases hc;simp only[KM]at hx;split at hx
  case h_2=>cases hx
  rename_i y l2 h2 h3;cases hx;simp only[Pe]at h2;split at h2
  case h_2=>cases h2
  rename_i y' hld;split at h2
  case isFalse=>cases h2
  rename_i hok;cases h2;obtain⟨vs,h4,h5⟩:=DZ hs r l' h1 l2 h3;have hq:=hs.env q;rw[Cb hlo]at hq;have fin:∀{b off:Nat}{cells:List AV},a.tmps.getD q undef = .pointer (some ⟨b,off,none⟩)->ga bl (bQ bl c.MF (ak s.heap)) w b off cells->yB n cells=some y ->
    ∃vs:List Value,((ResultVar.cell q t::r).mapM (rv1 a.tmps)).run P w = .ok vs w/\bg (gq bl (bQ bl c.MF (ak s.heap)) w) vs (y::l2):=λhv hcl hl=>by
   obtain⟨u,h6,h7⟩:=oW h0 hcl hl;refine⟨u::vs,?_,h7,h5⟩;simp only[List.mapM_cons,rv1,mq,hv,asAddr,vj,ny,h6,h4]
  cases hval:get s.env q<;>rw[hval]at hld hq<;>simp only[mW]at hld<;>try cases hld
  case ip cells =>
   obtain⟨b,off,h6,h7⟩:=ga.of_ip hq;exact fin h6 h7 hld
  case mp id st row off =>
   split at hld
   case h_2=>cases hld
   rename_i ob hob;split at hld
   case isFalse=>cases hld
   rename_i hst;split at hld
   case h_2=>cases hld
   rename_i rr hr;obtain⟨b,hb,h6⟩:=hq.mp;rw[<-hst]at h6;exact fin h6 ((ga.of_obj hs hob hb hr).drop off) hld
def U2{fn:Func}{l:List pj}{r:AV}(hs:aT c bl (get s.env) (ak s.heap) a w)(hc:AI P fn.results.toList=some l)(hr:x5 l s=some r) :
  ∃v,(results fn a.tmps).run P w = .ok v w/\bv bl (bQ bl c.MF (ak s.heap)) w v r:=by
 unfold x5 at hr;cases hx:KM s l with
 | none=>rw[hx]at hr;cases hr
 | some xs =>
  obtain⟨vs,h1,h2⟩:=DZ hs _ l hc xs hx;have hrun:∀v,v=(if h:vs.toArray.size=1 then vs.toArray[0]else .tuple vs.toArray)->(results fn a.tmps).run P w = .ok v w:=λv hv=>by
   subst hv;rw[Of,mq,Array.mapM_eq_mapM_toList,Sem.run_map,h1];rfl
  rw[hx]at hr;cases xs with
  | nil =>
   cases hr;cases vs with
   | cons=>exact h2.elim
   | nil=>exact⟨_,hrun _ rfl,[],by simp,trivial⟩
  | cons x xs =>
   cases xs with
   | nil =>
    cases hr;cases vs with
    | nil=>exact h2.elim
    | cons v vs =>
     cases vs with
     | cons=>exact h2.2.elim
     | nil=>exact⟨v,hrun _ (by simp),h2.1.toV⟩
   | cons y ys =>
    cases hr;have hl:=h2.length;refine⟨_,hrun _ rfl,vs,?_,h2⟩;rw[dif_neg (by simp[hl])]
def Fy(l:List pj)(Post:AV->List (Nat×au)->Prop)(e:IX)(s:St):Prop :=
 (∀j,e≠.ext j)/\∃s1,Wk s s1/\∃fs r σ',x5 l (frzs fs s1)=some r/\(∀i o,ak σ' i=some o->ak (frzs fs s1).heap i=some o)/\tj r σ'/\Post r σ'
def Np{f:FuncId}{F:aB}{ic:bC}{args:List AV}{σ:List (Nat×au)}{Post:AV->List (Nat×au)->Prop}(E:List (Nat×AV))(hE:∀p∈E,p∈(bE.T P).env)(hm:P.follows .mixedOrders=true)(hf:sz P f=some F)(hic:d_ ic=F.body)(hlen:args.length=F.np)
  (hi:lz P ic ⟨ir 0 args++E,σ⟩ (Fy F.res Post)):bA P f args σ (λid=>1000<=id/\id<2000) Post:=by
 unfold sz at hf;split at hf
 .cases hf
 rename_i fn hfn;split at hf
 .cases hf
 rename_i body hbody;split at hf
 case h_2=>cases hf
 rename_i b rs hb hrs;split at hf
 case isFalse=>cases hf
 rename_i hnp;cases hf;intro bl MF w cargs hTH hTW hH hMF hargs;have hal:cargs.length=fn.params.size+fn.nfree:=by rw[hargs.length];exact hlen
 let c:sV:=⟨w,bl,oY bl σ,MF,fn.ntmps,bE.T P,hTH,λb hb ⟨id,o,h1,h2⟩=>hTW b hb (.inr ⟨id,o,h1,h2⟩),λb hb hm=>hTW b hb (.inl hm),hnp.2⟩
 haveI:CT c P:=⟨rfl⟩
 have hs:aT c bl (get (ir 0 args++E)) (ak σ) ⟨cargs.toArray++Array.replicate (fn.ntmps-cargs.toArray.size) undef,[]⟩ w:=by
  refine⟨rfl,by simp[c];omega,λk=>?_,hH,jb.refl _ _,λid o q h1 h2=>.inr ⟨id,o,h1,h2⟩,λ_ _ _=>rfl,hMF⟩;rw[BZ];simp only[dx,dR,Nat.sub_zero];cases hk:args[k]? with
  | none =>
   simp only;rcases O8 (l:=E) (k:=k)with hg|hg
   .rw[hg];trivial
   .obtain⟨h1,h2⟩:=(bE.T P).rel w (bQ bl MF (ak σ)) hTH hTW _ (hE _ hg);have e:tv ⟨cargs.toArray++Array.replicate (fn.ntmps-cargs.toArray.size) undef,[]⟩ k = .pointer (some ⟨k-1000000,0,none⟩):=an (by simp only at h1;omega);rw[e];exact h2.toC.toG.toV
  | some x =>
   obtain⟨v,hv,hr⟩:=hargs.get hk;have hlt:=(jh.1 hv).1;have:(cargs.toArray++Array.replicate (fn.ntmps-cargs.toArray.size) undef).getD k undef=v:=by
    rw[pI,Array.getElem?_append_left (by simpa using hlt)];simp[hv]
   rw[Cb (by have:=hnp.2;omega),this];exact hr
 refine calls_of_wp hfn hbody ?_;refine Code.wp_mono (λe a' w' hq=>?_) (xX (c:=c) hm rfl body b hb ic hic ⟨ir 0 args++E,σ⟩ _ _ w hi ⟨bl,hs⟩);have fin:∀{s':St}{ex:IX},Fy rs Post ex s'->dd c s' a' w'->a'.defers=[]/\∃v,(results fn a'.tmps).run P w' = .ok v w'/\∃u r σ' bl',Ending.returned v = .returned u/\Post r σ'/\tj r σ'/\MO bl' (bQ bl' MF (ak σ')) MF w' (ak σ')/\bv bl' (bQ bl' MF (ak σ')) w' u r /\
   jb (oY bl σ) w w'/\(∀id o b,ak σ' id=some o->bl' id=some b->w.heap.size<=b\/oY bl σ b)/\∀id,(1000<=id/\id<2000)->bl' id=bl id:=by
  rintro s0 ex ⟨_,s',hwk,fs,r,σ',h1,h2,h3,h4⟩ hs0;obtain⟨bl',hs2⟩:=dd.frzs fs (hwk c a' w' hs0);obtain⟨v,hv1,hv2⟩:=U2 hs2 hrs h1;have hs3:aT c bl' (get (frzs fs s').env) (ak σ') a' w':=hs2.weaken (λ_=>.inr rfl) h2;refine⟨hs2.defers,v,hv1,v,r,σ',bl',rfl,h4,h3,hs3.heap,?_,hs3.step,hs3.own,λid hid=>hs3.stab id hid.1 hid.2⟩;refine hv2.tr ⟨λq hq _=>⟨λhm2=>hq ?_,rfl⟩,λ_ c1 _ fr hb=>⟨c1,fr,hb,rfl⟩⟩ (λ_ _=>rfl);rcases hm2 with hm2|⟨id,o,h5,h6⟩
  .exact .inl hm2
  .exact .inr ⟨id,o,h2 id o h5,h6⟩
 cases e with
 | normal=>obtain⟨s',hk,hs'⟩:=hq;exact fin hk hs'
 | ret=>obtain⟨s',hk,hs'⟩:=hq;exact fin hk hs'
 | exit id=>obtain⟨s',hk,hs'⟩:=hq;exact absurd rfl (hk.1 id)
 | _=>exact hq.elim
def lx{f:FuncId}{F:aB}{ic:bC}{args:List AV}{σ:List (Nat×au)}{Post:AV->List (Nat×au)->Prop}(hm:P.follows .mixedOrders=true)(hf:sz P f=some F)(hic:d_ ic=F.body)(hlen:args.length=F.np)
  (hi:lz P ic ⟨ir 0 args,σ⟩ (Fy F.res Post)):bA P f args σ (λid=>1000<=id/\id<2000) Post :=
 Np [] (λp hp=>by cases hp) hm hf hic hlen (by rw[ml];exact hi)
def bA.mono{f:FuncId}{args:List AV}{σ:List (Nat×au)}{Sb Sb':Nat->Prop}{Post Post':AV->List (Nat×au)->Prop}(h:bA P f args σ Sb Post)(hs:∀id,Sb' id->Sb id)(hp:∀r σ',Post r σ'->Post' r σ'):bA P f args σ Sb' Post' :=
 λbl MF w cargs t1 t2 h1 h2 h3=>(h bl MF w cargs t1 t2 h1 h2 h3).mono λ_ _ ⟨v,r,σ',bl',q1,q2,q3,q4,q5,q6,q7,q8⟩=>⟨v,r,σ',bl',q1,hp _ _ q2,q3,q4,q5,q6,q7,λid hid=>q8 id (hs id hid)⟩
def GW(l:List pj)(r:AV)(e:IX)(s:St):Prop:=(∀j,e≠.ext j)/\∃s1,Wk s s1/\∃fs,x5 l (frzs fs s1)=some r/\aV r=[]
def Nv{f:FuncId}(hs:decide (P.funcs.size<=4000000)=true)(h:cy P f=true):f<4000000:=by
 have h1:f<P.funcs.size:=by
  unfold cy at h;by_cases q:f<P.funcs.size
  .exact q
  .rw[HY (Nat.le_of_not_lt q)]at h;cases h
 have h2:=of_decide_eq_true hs;exact HZ h1 h2
def KN:∀(x:bC)(s:St)(K K':IX->St->Prop),(∀e s,K e s->K' e s)->lz P x s K->lz P x s K':=by
 have icallm0:∀{f:FuncId}{args:List AV}{d:Option Nat}{s:St}{K K':St->Prop},(∀s,K s->K' s)->AP P f args d s K->AP P f args d s K':=λ{f args d s K K'} hK h=>by
  rcases h with⟨args',r,b,h1,h2,h3,h4,h5⟩|⟨σ0,Sb,Post,ks,h1,h2,h3,h4⟩
  .exact .inl ⟨args',r,b,h1,h2,h3,h4,hK _ h5⟩
  .exact .inr ⟨σ0,Sb,Post,ks,h1,h2,h3,λr σ' hp=>by obtain⟨s',q1,q2,q3⟩:=h4 r σ' hp;exact⟨s',q1,q2,hK _ q3⟩⟩
 have icallm:∀{f:FuncId}{args:List AV}{d:Option Nat}{s:St}{K K':St->Prop},(∀s,K s->K' s)->cO P f args d s K->cO P f args d s K':=λ{f args d s K K'} hK h=>h.imp (icallm0 hK) λh=>h.imp (λ⟨fs,h⟩=>⟨fs,icallm0 hK h⟩) λ⟨s',a',hw,h⟩=>⟨s',a',hw,icallm0 hK h⟩
 have iopm:∀{o:bH}{s:St}{K K':St->Prop},(∀s,K s->K' s)->nW P o s K->nW P o s K':=λ{o s K K'} hK h=>by
  unfold nW at h⊢;split at h
  .exact icallm hK h
  .split at h
   .split at h
    .rename_i hlt;rw[az hlt];exact⟨h.1,icallm hK h.2⟩
    .rename_i hlt;rw[an hlt];exact⟨h.1,icallm hK h.2⟩
   .exact h
  .refine⟨h.1,?_⟩;have h2:=h.2;split at h2
   .exact hK _ h2
   .obtain⟨s',hw,h3⟩:=h2;refine⟨s',hw,?_⟩;unfold L0 at h3⊢;split at h3
    .exact hK _ h3
    .exact h3.elim
  .split at h
   .exact⟨hK _ h.1,hK _ h.2⟩
   .split at h
    .exact hK _ h
    .exact h.elim
  .by_cases ha:gu o.op=true
   .rw[az ha]at h⊢;refine⟨h.1,?_⟩;have h2:=h.2;split at h2
    .exact hK _ h2
    .exact h2.elim
   .rw[an ha]at h⊢;split at h
    .exact hK _ h
    .exact h
 have iopsm:∀(l:List bH)(s:St)(K K':St->Prop),(∀s,K s->K' s)->jR P l s K->jR P l s K':=by
  intro l
  induction l with
  | nil=>intro s K K' hK h;exact hK s h
  | cons o r ih =>
   intro s K K' hK h;unfold jR at h⊢;split at h
   .exact iopm (λs' hs'=>ih s' K K' hK hs') h
   .split at h
    .exact⟨λht=>iopm (λs' hs'=>ih s' K K' hK hs') (h.1 ht),λht=>ih _ K K' hK (h.2 ht)⟩
    .exact ih _ K K' hK h
    .exact h
 have idopm:∀[Cl] {al:List (Nat×Nat)} {i:Nat} {o:aJ} {hist:List HI} {s:St} {K K':List HI->St->Prop},(∀x s,K x s->K' x s)->fU P al i o hist s K->fU P al i o hist s K':=λ{_} {al i o hist s K K'} hK h=>by
  unfold fU at h⊢;split at h
  .rcases h with⟨args',r,b,h1,h2,h3,h4,h5,h6,h7,h8⟩|⟨k,ob,ob',Sb,r,h1,h2,h3,h4,h5,h6,h7,h8,h9⟩
   .exact .inl ⟨args',r,b,h1,h2,h3,h4,h5,h6,h7,hK _ _ h8⟩
   .exact .inr ⟨k,ob,ob',Sb,r,h1,h2,h3,h4,h5,h6,h7,h8,hK _ _ h9⟩
  .exact h
  .rcases h with h|⟨rows,h1,h2,h3,h4,h5⟩
   .refine .inl ?_;split at h
    .exact⟨h.1,h.2.1,h.2.2.1,hK _ _ h.2.2.2⟩
    .exact h
   .exact .inr ⟨rows,h1,h2,h3,h4,hK _ _ h5⟩
  .split at h
   .rename_i hcl;rw[az hcl];split at h
    .exact⟨h.1,h.2.1,hK _ _ h.2.2⟩
    .exact h
   .rename_i hcl;rw[an hcl];split at h
    .exact⟨h.1,h.2.1,h.2.2.1,hK _ _ h.2.2.2⟩
    .exact h
  .split at h
   .exact⟨h.1,h.2.1,h.2.2.1,hK _ _ h.2.2.2⟩
   .exact h
 have idopsHm:∀[Cl] {al:List (Nat×Nat)} (l:List aJ) (i:Nat) (hist:List HI) (s:St) (K K':List HI->St->Prop),(∀x s,K x s->K' x s)->gx P al i l hist s K->gx P al i l hist s K':=by
  intro _ al l
  induction l with
  | nil=>intro i hist s K K' hK h;exact hK _ s h
  | cons o r ih =>
   intro i hist s K K' hK h;unfold gx at h⊢;split at h
   .exact idopm (λx s' hs'=>ih (i+1) x s' K K' hK hs') h
   .split at h
    .exact⟨λht=>idopm (λx s' hs'=>ih (i+1) x s' K K' hK hs') (h.1 ht),λht=>ih _ _ _ K K' hK (h.2 ht)⟩
    .exact ih _ _ _ K K' hK h
    .exact h
 have idopsm:∀[Cl] {al:List (Nat×Nat)} (l:List aJ) (i:Nat) (hist:List HI) (s:St) (K K':St->Prop),(∀s,K s->K' s)->jk P al i l hist s K->jk P al i l hist s K':=λ{_ _} l i hist s K K' hK h=>idopsHm l i hist s _ _ (λ_ s h=>hK s h) h;intro x
 induction x with
 | skip=>intro s K K' hK h;exact hK _ _ h
 | ret=>intro s K K' hK h;exact hK _ _ h
 | exit id=>intro s K K' hK h;exact hK _ _ h
 | seq x y ihx ihy =>
  intro s K K' hK h;refine ihx s _ _ (λe s' hh=>?_) h;cases e with
  | nrm=>exact ihy s' K K' hK hh
  | _=>exact hK _ _ hh
 | cut x y ihx ihy =>
  intro s K K' hK h;refine ihx s _ _ (λe s' hh=>?_) h;cases e with
  | nrm=>obtain⟨s'',h1,h2⟩:=hh;exact⟨s'',h1,ihy s'' K K' hK h2⟩
  | _=>exact hK _ _ hh
 | cond v t e iht ihe =>
  intro s K K' hK h;unfold lz at h⊢;split at h
  .exact⟨λhb=>iht _ K K' hK (h.1 hb),λhb=>ihe _ K K' hK (h.2 hb)⟩
  .exact h
 | block id x ih =>
  intro s K K' hK h;refine ih s _ _ (λe s' hh=>?_) h;cases e with
  | ext j =>
   simp only at hh⊢;split
   .rename_i hj;rw[az hj]at hh;exact hK _ _ hh
   .rename_i hj;rw[an hj]at hh;exact hK _ _ hh
  | _=>exact hK _ _ hh
 | loop x ih =>
  intro s K K' hK h;obtain⟨I,h0,h1⟩:=h;refine⟨I,h0,λn s hI=>ih s _ _ (λe s' hh=>?_) (h1 n s hI)⟩;cases e with
  | nrm=>exact hh
  | _=>exact hK _ _ hh
 | reg ops dr=>intro s K K' hK h;exact iopsm ops s _ _ (λs' hs'=>hK _ _ hs') h
 | draw ops al dr=>intro s K K' hK h;exact idopsm ops 0 [] _ _ _ (λs' hs'=>hK _ _ hs') h
 | clon cs ops al dr=>intro s K K' hK h;exact @idopsm ⟨cs⟩ _ ops 0 [] _ _ _ (λs' hs'=>hK _ _ hs') h
 | wild ops al dr =>
  intro s K K' hK h;refine idopsHm _ _ _ _ _ _ (λhist s1 hh=>?_) h;split at hh
  .unfold MB at hh⊢;split at hh
   .refine⟨hh.1,?_⟩;replace hh:=hh.2;split at hh
    .exact⟨hh.1,hh.2.1,hh.2.2.1,hh.2.2.2.1,hK _ _ hh.2.2.2.2⟩
    .exact hh
   .exact hh
  .exact hh
 | free ops al dr =>
  intro s K K' hK h;have conjm:∀{α:Type}{F F':α->Prop}(l:List α),(∀x,F x->F' x)->xo l F->xo l F':=by
   intro α F F' l hF
   induction l with
   | nil=>exact λ_=>trivial
   | cons x l ih =>
    cases l with
    | nil=>exact hF x
    | cons y l=>exact λh=>⟨hF x h.1,ih h.2⟩
  have frm:∀(f:Nat)(R:List (Nat×aJ))(s:St)(K K':St->Prop),(∀s,K s->K' s)->sD P f R s K->sD P f R s K':=by
   intro f
   induction f with
   | zero=>intro R s K K' hK h;exact hK s h
   | succ f ih=>intro R s K K' hK h;exact conjm _ (λt ht=>iopsm _ _ _ _ (λs' hs'=>ih _ s' K K' hK hs') ht) h
  exact frm _ _ _ _ _ (λs' hs'=>hK _ _ hs') h
def cE{f:FuncId}{F:aB}{ic:bC}{args:List AV}{r:AV}(hm:P.follows .mixedOrders=true)(hf:sz P f=some F)(hic:d_ ic=F.body)(hlen:args.length=F.np)(hi:lz P ic ⟨ir 0 args,[]⟩ (GW F.res r)):aj P f args r:=by
 refine(lx (Post:=λr' σ'=>r'=r/\σ'=[]) hm hf hic hlen (KN _ _ _ _ (λe s ⟨h1,s1,hw,fs,h2,h3⟩=>⟨h1,s1,hw,fs,r,[],h2,λi o hi=>by simp[ak]at hi,⟨(λi hi=>by rw[h3]at hi;cases hi),(λp hp=>by cases hp)⟩,rfl,rfl⟩) hi)).mono (λ_ h=>h.elim) (λ_ _ h=>h)
end
def mv(d j:Nat):bH:=⟨some d,.mov (.s j),none⟩
def mt(d j k:Nat):bH:=⟨some d,.mov (.s j),some (k,true)⟩
def mf(d j k:Nat):bH:=⟨some d,.mov (.s j),some (k,false)⟩
def o0(d:Nat)(o:ln):bH:=⟨some d,o,none⟩
def ot(d k:Nat)(o:ln):bH:=⟨some d,o,some (k,true)⟩
def oF(d k:Nat)(o:ln):bH:=⟨some d,o,some (k,false)⟩
def ale(d j:Nat):mv d j =⟨some d,.mov (.s j),none⟩:=rfl
def ald(d j k:Nat):mt d j k =⟨some d,.mov (.s j),some (k,true)⟩:=rfl
def ala(d j k:Nat):mf d j k =⟨some d,.mov (.s j),some (k,false)⟩:=rfl
def alj(d:Nat)(o:ln):o0 d o =⟨some d,o,none⟩:=rfl
def alq(d k:Nat)(o:ln):ot d k o =⟨some d,o,some (k,true)⟩:=rfl
def alk(d k:Nat)(o:ln):oF d k o =⟨some d,o,some (k,false)⟩:=rfl
attribute[go_sem] ale ald ala alj alq alk
section
variable{P:Program}{n:Nat}{sh:List (List Nat)}
def ahU:comp P n sh .skip=some .skip:=rfl
def akB:comp P n sh .ret=some .ret:=rfl
def ahS{i:Nat}:comp P n sh (.exit i)=some (.exit i):=rfl
def akA{i:Nat}:comp P n sh (.label i)=some .skip:=rfl
def akC{x y:Code}{a b:bC}(h:comp P n sh x=some a)(k:comp P n sh y=some b):comp P n sh (.seq x y)=some (.seq a b):=by simp only[comp,h,k]
def ahR{c:Operand}{x y:Code}{c':IV}{a b:bC}(hc:cV c=some c')(h:comp P n sh x=some a)(k:comp P n sh y=some b):comp P n sh (.cond c x y)=some (.cond c' a b):=by simp only[comp,hc,h,k]
def adK{i:Nat}{x:Code}{a:bC}(h:comp P n sh x=some a):comp P n sh (.block i x)=some (.block i a):=by simp only[comp,h,fR]
def ahT{x:Code}{a:bC}(h:comp P n sh x=some a):comp P n sh (.loop x)=some (.loop a):=by simp only[comp,h,fR]
def adM{x:Code}{a:bC}(h:comp P n sh x=some a):comp P n sh (.scope x)=some a:=by simp only[comp,h]
end
def eFn(P:Program)(f:FuncId):Bool:=match P.funcs[f]? with
 | some fn=>fn.body.isNone&&fn.name == "internal/bytealg.IndexByteString" && (Extern.findNext fn).isNone
 | none=>false
def adL(P:Program)(f:FuncId)(args:List Operand):TD P f args=if eFn P f then(match args with
  | [x,y]=>match cV x,cV y with
   | some x,some y=>some (.sib x y)
   | _,_=>none
  | _=>none)else none:=by
 unfold TD eFn;cases P.funcs[f]? with
 | none=>rfl
 | some fn =>
  dsimp only;by_cases h:fn.body.isNone=true∧fn.name = "internal/bytealg.IndexByteString"∧(Extern.findNext fn).isNone=true
  .rw[az h,az (by simp[h])];rfl
  .rw[an h,an];simp only[dX,beq_iff_eq,and_assoc];exact h
section
variable{T:Tables}{F G:Array Func}
def KS:∀(m:Nat),Program.alikeButTags ⟨T,F⟩ m=Program.alikeButTags ⟨T,G⟩ m
 | 0=>rfl
 | m+1=>by
  funext t u;unfold Program.alikeButTags;rw[KS m]
def Vy(t:TypeId):Program.stoodInHeld ⟨T,F⟩ t=Program.stoodInHeld ⟨T,G⟩ t:=by
 unfold Program.stoodInHeld Program.stoodInAs;rw[KS];rfl
def KT:∀(m:Nat),Program.eqGuardType ⟨T,F⟩ m=Program.eqGuardType ⟨T,G⟩ m
 | 0=>rfl
 | m+1=>by
  funext t;unfold Program.eqGuardType;rw[KT m];rfl
def Ps:∀(m:Nat),qy ⟨T,F⟩ m=qy ⟨T,G⟩ m
 | 0=>rfl
 | m+1=>by
  funext t;unfold qy;rw[Ps m,Vy t (F:=F) (G:=G)];rfl
def ae8(t:TypeId)(op:BinOp)(x y:IV):Km ⟨T,F⟩ t op x y=Km ⟨T,G⟩ t op x y:=by
 unfold Km;rw[Ps 20,KT];rfl
variable(hB:∀f,cy ⟨T,G⟩ f=true->cy ⟨T,F⟩ f=true)(hE:∀f,eFn ⟨T,G⟩ f=false)
include hB hE
def aay{c:Call}{x:ln}(h:BU ⟨T,G⟩ c=some x):BU ⟨T,F⟩ c=some x:=by
 obtain⟨callee,args,ats⟩:=c;cases callee with
 | value v=>cases v with
  | func f =>
   unfold BU at h⊢;dsimp only at h⊢;by_cases hb:cy ⟨T,G⟩ f=true
   .rw[az hb]at h;rw[az (hB f hb)];exact h
   .rw[an hb,adL,an (by rw[hE];simp)]at h;cases h
  | _=>exact h
 | builtin b=>cases b<;>exact h
 | _=>exact h
def aiF{o:Op}{x:ln}(h:k_ ⟨T,G⟩ o=some x):k_ ⟨T,F⟩ o=some x:=by
 cases o
 case call c=>exact aay hB hE h
 case binOp op t x y u =>
  unfold k_ at h⊢;simp only[ae8 (F:=F) (G:=G)];exact h
 case next x b=>cases b<;>first|(simp only[k_,reduceCtorEq]at h;done)|(simp only[k_]at h⊢;exact h)
 case makeFunc f x y=>cases f<;>first|(simp only[k_,reduceCtorEq]at h;done)|(simp only[k_]at h⊢;exact h)
 case makeMap t n=>cases n<;>first|(simp only[k_,reduceCtorEq]at h;done)|(simp only[k_]at h⊢;exact h)
 all_goals first|(simp only[k_,reduceCtorEq]at h;done)|(simp only[k_]at h⊢;with_reducible exact h)|(simp only[k_]at h⊢;with_unfolding_all exact h)
def aaA{n:Nat}{ops:Array Oper}{o:Oper}{x:bH}(h:oK ⟨T,G⟩ n ops o=some x):oK ⟨T,F⟩ n ops o=some x:=by
 unfold oK at h⊢;cases hg:k_ ⟨T,G⟩ o.op with
 | none=>rw[hg]at h;cases h
 | some op=>rw[hg]at h;rw[aiF hB hE hg];exact h
def Vx(n:Nat)(ops:Array Oper):∀{l:List Oper}{x:List bH},vL ⟨T,G⟩ n ops l=some x->vL ⟨T,F⟩ n ops l=some x
 | [],x,h=>h
 | o::r,x,h=>by
  rw[vL]at h⊢;cases h1:oK ⟨T,G⟩ n ops o with
  | none=>rw[h1]at h;cases h
  | some y=>cases h2:vL ⟨T,G⟩ n ops r with
   | none=>rw[h1,h2]at h;cases h
   | some ys=>rw[h1,h2]at h;rw[aaA hB hE h1,Vx n ops h2];exact h
def aaz(n:Nat)(sh:List (List Nat)):∀{c:Code}{x:bC},comp ⟨T,G⟩ n sh c=some x->comp ⟨T,F⟩ n sh c=some x:=by
 intro c
 induction c with
 | seq x y hx hy =>
  intro z h;simp only[comp]at h⊢;cases h1:comp ⟨T,G⟩ n sh x with
  | none=>rw[h1]at h;cases h
  | some a=>cases h2:comp ⟨T,G⟩ n sh y with
   | none=>rw[h1,h2]at h;cases h
   | some b=>rw[h1,h2]at h;rw[hx h1,hy h2];exact h
 | cond c x y hx hy =>
  intro z h;simp only[comp]at h⊢;cases h1:comp ⟨T,G⟩ n sh x with
  | none=>rw[h1]at h;cases hc:cV c<;>rw[hc]at h<;>cases h
  | some a=>cases h2:comp ⟨T,G⟩ n sh y with
   | none=>rw[h1,h2]at h;cases hc:cV c<;>rw[hc]at h<;>cases h
   | some b=>rw[h1,h2]at h;rw[hx h1,hy h2];exact h
 | block i x hx =>
  intro z h;simp only[comp]at h⊢;cases h1:comp ⟨T,G⟩ n sh x with
  | none=>rw[h1]at h;cases h
  | some a=>rw[h1]at h;rw[hx h1];exact h
 | loop x hx =>
  intro z h;simp only[comp]at h⊢;cases h1:comp ⟨T,G⟩ n sh x with
  | none=>rw[h1]at h;cases h
  | some a=>rw[h1]at h;rw[hx h1];exact h
 | scope x hx=>intro z h;simp only[comp]at h⊢;exact hx h
 | region i ops d =>
  intro z h;cases d
  all_goals
   simp only[comp,ON]at h⊢;cases h1:vL ⟨T,G⟩ n ops ops.toList with
   | none=>rw[h1]at h;cases h
   | some a=>rw[h1]at h;rw[Vx hB hE n ops h1];exact h
 | _=>intro z h;exact h
def akz{f:FuncId}{fn:Func}{body:Code}{n np:Nat}{sh:List (List Nat)}{rs:List pj}{b:bC}(h1:F[f]?=some fn)(h2:fn.body=some body)(h3:fn.ntmps=n)(h4:fn.params.size+fn.nfree=np)
  (h5:va fn.results.toList::fI body=sh) (h6:AI ⟨T,G⟩ fn.results.toList=some rs) (h7:comp ⟨T,G⟩ n sh body=some b) (h8:np<=n/\n<=1000000):sz ⟨T,F⟩ f=some ⟨n,np,rs,b⟩:=by
 subst h3 h4 h5;have e6:∀l,AI ⟨T,F⟩ l=AI ⟨T,G⟩ l:=λl=>by
  induction l with
  | nil=>rfl
  | cons x l ih=>cases x<;>simp only[AI,ih]<;>rfl
 unfold sz;simp only[h1,h2,e6,h6,aaz hB hE _ _ h7];rw[az h8]
end
def Ca(b:Option Code)(s:String):Func:={(default:Func)with body:=b,name:=s}
