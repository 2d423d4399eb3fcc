import Derived.Test.YtdefmgmmjfgbpaaGreatDoorUQa
import Derived.Orders
import Derived.Still
import Derived.Scope
set_option linter.all false
namespace Go.Mw
structure St where
 env:List (Nat×AV)
 heap:List (Nat×ac)
def get:List (Nat×AV)→Nat→AV
 | [],_=>.any
 | (k,x) :: r,n=>if k=n then x else get r n
def ab:List (Nat×ac)→Nat→Option ac
 | [],_=>none
 | (k,x) :: r,n=>if k=n then some x else ab r n
def del:List (Nat×AV)→Nat→List (Nat×AV)
 | [],_=>[]
 | (k,x) :: r,n=>if k=n then del r n else (k,x) :: del r n
def dh:List (Nat×ac)→Nat→List (Nat×ac)
 | [],_=>[]
 | (k,x) :: r,n=>if k=n then dh r n else (k,x) :: dh r n
def lQ (i:Nat):List (Nat×AV)→List (Nat×AV)
 | []=>[]
 | (k,x) :: r=>(k,fk i x) :: lQ i r
def jo (i:Nat):List (Nat×ac)→List (Nat×ac)
 | []=>[]
 | (k,x) :: r=>(k,bV i x) :: jo i r
def St.put (s:St) (d:Option Nat) (x:AV):St :=
 match d with
 | some d=>⟨(d,x) :: s.env,s.heap⟩
 | none=>s
def St.kill (s:St) (i:Nat):St:=⟨lQ i s.env,jo i (dh s.heap i)⟩
def St.eff (s:St) (e:aM):St :=
 match e with
 | .no=>s
 | .put i o=>⟨s.env,(i,o) :: dh s.heap i⟩
 | .new i o=>⟨s.env,(i,o) :: dh s.heap i⟩
 | .reb i o=>⟨lQ i s.env,(i,o) :: jo i (dh s.heap i)⟩
def kills:List Nat→St→St
 | [],s=>s
 | i :: r,s=>kills r (s.kill i)
def dels:List Nat→List (Nat×AV)→List (Nat×AV)
 | [],e=>e
 | d :: r,e=>dels r (del e d)
theorem iA (n:Nat):∀(l:List (Nat×AV)) (k:Nat),get (del l n) k=if k=n then .any else get l k
 | [],k=>by simp [del,get]
 | (j,x) :: r,k=>by
  simp only [del]
  by_cases h:j=n
  ·rw [bz h,iA n r k]
   subst h
   by_cases h2:k=j
   ·simp [h2]
   ·simp [get,h2,Ne.symm h2]
  ·rw [aJ h]
   simp only [get]
   by_cases h2:j=k
   ·subst h2;simp [h]
   ·simp only [h2,fp,iA n r k]
theorem bg (n:Nat):∀(l:List (Nat×ac)) (k:Nat),ab (dh l n) k=if k=n then none else ab l k
 | [],k=>by simp [dh,ab]
 | (j,x) :: r,k=>by
  simp only [dh]
  by_cases h:j=n
  ·rw [bz h,bg n r k]
   subst h
   by_cases h2:k=j
   ·simp [h2]
   ·simp [ab,h2,Ne.symm h2]
  ·rw [aJ h]
   simp only [ab]
   by_cases h2:j=k
   ·subst h2;simp [h]
   ·simp only [h2,fp,bg n r k]
theorem fU (i:Nat):∀(l:List (Nat×AV)) (k:Nat),get (lQ i l) k=fk i (get l k)
 | [],k=>by simp [lQ,get,fk,mV,mG,mC,mP]
 | (j,x) :: r,k=>by simp only [lQ,get,fU i r k];split<;>rfl
theorem ek (i:Nat):∀(l:List (Nat×ac)) (k:Nat),ab (jo i l) k=(ab l k).map (bV i)
 | [],k=>by simp [jo,ab]
 | (j,x) :: r,k=>by simp only [jo,ab,ek i r k];split<;>rfl
def bG (c:i3) (s:St) (a:Act) (w:World):Prop:=∃bl,aB c bl (get s.env) (ab s.heap) a w
section
variable {P:Program} [aS P] {c:i3} [CT c P] {a:Act} {w:World} {s:St}
theorem bG.kill (h:bG c s a w) (i:Nat):bG c (s.kill i) a w:=by
 obtain ⟨bl,h⟩:=h
 exact ⟨bl,(h.kill i).congr (fun k=>by simp [St.kill,fU]) (fun j=>by simp only [St.kill,ek,bg];split<;>simp)⟩
theorem bG.kills:∀(l:List Nat) {s:St},bG c s a w→bG c (Mw.kills l s) a w
 | [],_,h=>h
 | i :: r,_,h=>bG.kills r (h.kill i)
theorem bT (s:St) (i:Nat):ab (s.kill i).heap i=none∧bO i (get (s.kill i).env) (ab (s.kill i).heap):=by
 refine ⟨by simp [St.kill,ek,bg],?_⟩
 have:=gU i (get s.env) (ab s.heap)
 refine ⟨fun k=>by simpa [St.kill,fU] using this.1 k,fun j o hj=>this.2 j o ?_⟩
 rw [← hj]
 simp only [St.kill,ek,bg]
 split<;>simp
theorem bG.del (h:bG c s a w) (d:Nat):bG c ⟨del s.env d,s.heap⟩ a w:=by
 obtain ⟨bl,h⟩:=h
 exact ⟨bl,h.weaken (fun k=>by rw [iA];split<;>simp) (fun _ _ h=>h)⟩
theorem bG.dels:∀(l:List Nat) {e:List (Nat×AV)} {hp:List (Nat×ac)},bG c ⟨e,hp⟩ a w→bG c ⟨Mw.dels l e,hp⟩ a w
 | [],_,_,h=>h
 | d :: r,_,_,h=>bG.dels r (h.del d)
theorem jD {bl:Nat→Option Nat} {g:Nat→AV} {h:Nat→Option ac} (hs:aB c bl g h a w) (d:Option Nat) (hd:∀k,d=some k→k<c.n) {v:Value} {x:AV} (hv:aO bl (aT bl c.MF h) w v x)
  (hg:∀k,get s.env k=g k) (hh:∀j,ab s.heap j=h j):bG c (s.put d x) (a.put d v) w:=by
 cases d with
 | none=>exact ⟨bl,by simpa [St.put,Act.put] using hs.congr hg hh⟩
 | some d =>
  refine ⟨bl,(hs.put (hd d rfl) hv).congr (fun k=>?_) (fun j=>by simpa [St.put] using hh j)⟩
  simp only [St.put,get,cJ,iA]
  by_cases hk:k=d
  ·subst hk;simp
  ·simp [hk,Ne.symm hk,hg]
theorem tF (h:bG c s a w) (d:Option Nat) (hd:∀k,d=some k→k<c.n) (_:Unit):bG c (s.put d (.tup [])) (a.put d undef) w:=by
 obtain ⟨bl,h⟩:=h
 exact jD h d hd (x:=.tup []) ⟨[],rfl,trivial⟩ (fun _=>rfl) (fun _=>rfl)
theorem rh (s:St) (e:aM) (k:Nat):get (s.eff e).env k=e.env (get s.env) k:=by
 cases e<;>simp [St.eff,aM.env,fU]
theorem oH (s:St) (e:aM) (j:Nat):ab (s.eff e).heap j=e.hp (ab s.heap) j:=by
 cases e with
 | no=>rfl
 | put i o=>simp only [St.eff,aM.hp,ab,cJ,bg];by_cases h:j=i<;>simp [h,eq_comm]
 | new i o=>simp only [St.eff,aM.hp,ab,cJ,bg];by_cases h:j=i<;>simp [h,eq_comm]
 | reb i o=>simp only [St.eff,aM.hp,ab,cJ,ek,bg];by_cases h:j=i<;>simp [h,eq_comm]
end
def bt:AV→List Nat
 | .ms id _ _ _=>[id]
 | .mp id _ _ _=>[id]
 | .mm id _=>[id]
 | _=>[]
def be:AV→List Nat
 | .fn _ caps=>caps.flatMap bt
 | x=>bt x
def bU:AV→List Nat
 | .agg cells=>cells.flatMap be
 | x=>be x
def ax:AV→List Nat
 | .tup vs=>vs.flatMap bU
 | x=>bU x
def bo (o:ac):List Nat:=if o.isRec then o.rows.flatMap (fun r=>r.flatMap be) else []
theorem C6 {i:Nat} {x:AV} (h:mP i x=true):i∈bt x:=by cases x<;>simp_all [mP,bt]
theorem iG {i:Nat} {x:AV} (h:mC i x=true):i∈be x:=by
 cases x with
 | fn f caps =>
  simp only [mC,List.any_eq_true] at h
  obtain ⟨y,h1,h2⟩:=h
  simp only [be,fc]
  exact ⟨y,h1,C6 h2⟩
 | _ =>
  simp only [mC] at h
  simpa only [be] using C6 h
theorem C5 {i:Nat} {x:AV} (h:mG i x=true):i∈bU x:=by
 cases x with
 | agg cells =>
  simp only [mG,List.any_eq_true] at h
  obtain ⟨y,h1,h2⟩:=h
  simp only [bU,fc]
  exact ⟨y,h1,iG h2⟩
 | _ =>
  simp only [mG] at h
  simpa only [bU] using iG h
theorem gR {i:Nat} {x:AV} (h:mV i x=true):i∈ax x:=by
 cases x with
 | tup vs =>
  simp only [mV,List.any_eq_true] at h
  obtain ⟨y,h1,h2⟩:=h
  simp only [ax,fc]
  exact ⟨y,h1,C5 h2⟩
 | _ =>
  simp only [mV] at h
  simpa only [ax] using C5 h
def fX (r:AV) (σ:List (Nat×ac)):Prop:=(∀i∈ax r,(ab σ i).isSome=true)∧∀p∈σ,∀i∈bo p.2,(ab σ i).isSome=true
def gM (bl:Nat→Option Nat) (σ:List (Nat×ac)) (b:Nat):Prop:=∃id o,ab σ id=some o∧bl id=some b
def aE (P:Program) [aS P] (f:FuncId) (args:List AV) (σ:List (Nat×ac)) (Sb:Nat→Prop) (Post:AV→List (Nat×ac)→Prop):Prop :=
 ∀(bl:Nat→Option Nat) (MF:Nat→Prop) (w:World) (cargs:List Value),
  (aS.T P).H w→(∀b,(aS.T P).B b→¬aT bl MF (ab σ) b)→pE bl (aT bl MF (ab σ)) MF w (ab σ)→(∀b,MF b→b<w.heap.size)→aC (aO bl (aT bl MF (ab σ)) w) cargs args →
  Calls P f cargs.toArray w fun e w'=>∃v r σ' bl',e = .returned v∧Post r σ'∧fX r σ'∧pE bl' (aT bl' MF (ab σ')) MF w' (ab σ')∧aO bl' (aT bl' MF (ab σ')) w' v r ∧
   gD (gM bl σ) w w'∧(∀id o b,ab σ' id=some o→bl' id=some b→w.heap.size≤b∨gM bl σ b)∧∀id,Sb id→bl' id=bl id
def ak (P:Program) [aS P] (f:FuncId) (args:List AV) (r:AV):Prop:=aE P f args [] (fun _=>False) fun r' σ'=>r'=r∧σ'=[]
def jR:AV→Bool
 | .bool _=>true
 | .int ..=>true
 | .str _=>true
 | .nl=>true
 | .np=>true
 | .nf=>true
 | .sl _ []=>true
 | _=>false
def kI:AV→Bool
 | .agg cells=>cells.all jR
 | x=>jR x
def ii:AV→Bool
 | .tup vs=>vs.all kI
 | x=>kI x
def EP (b:Bool) (h:Nat→Option ac) (x x':AV):Prop :=
 x=x'∨(x = .nl∧∃st,x' = .sl st []) ∨
 (b=true∧∃id st off len o,x = .ms id st off len∧h id=some o∧o.isRec=false∧o.st=st∧off+len≤o.rows.length∧x' = .sl st ((o.rows.drop off).take len))
section
variable {P:Program} [aS P] {c:i3} [CT c P] {bl:Nat→Option Nat} {g:Nat→AV} {h:Nat→Option ac} {a:Act} {w w':World} {M M':Nat→Prop}
theorem ql {bl':Nat→Option Nat} {v:Value} {x:AV} (hf:jR x=true) (hv:bq bl M w v x):bq bl' M' w' v x:=by
 cases x<;>simp [jR] at hf<;>simp only [bq,cO] at hv ⊢
 case sl st rows =>
  cases rows with
  | cons r l=>simp [jR] at hf
  | nil =>
   cases hv with
   | nls=>exact .nls _
   | sl0=>exact .sl0 _ _ _
   | sl b off cap st c t fr rows vs=>exact .sl0 _ _ _
 all_goals (cases hv;constructor)
theorem qm {bl':Nat→Option Nat} {v:Value} {x:AV} (hf:kI x=true) (hv:df bl M w v x):df bl' M' w' v x:=by
 cases x with
 | agg cells =>
  obtain ⟨cs,h1,h2⟩:=hv
  exact ⟨cs,h1,h2.mono fun _ y hy hr=>ql (cZ.1 hf y hy) hr⟩
 | _ =>
  simp only [kI] at hf
  simp only [df] at hv ⊢
  exact ql hf hv
theorem qn {bl':Nat→Option Nat} {v:Value} {x:AV} (hf:ii x=true) (hv:aO bl M w v x):aO bl' M' w' v x:=by
 cases x with
 | any=>trivial
 | tup vs =>
  obtain ⟨cs,h1,h2⟩:=hv
  exact ⟨cs,h1,h2.mono fun _ y hy hr=>qm (cZ.1 hf y hy) hr⟩
 | _ =>
  simp only [ii] at hf
  simp only [aO] at hv ⊢
  exact qm hf hv
theorem aB.grow (s:aB c bl g h a w) (hst:gD (fun _=>False) w w'):aB c bl g h a w':=by
 have ht:Tr (aT bl c.MF h) (aT bl c.MF h) w w':=⟨fun b hb hl=>⟨hb,hst.keep b hl (fun h=>h)⟩,hst.shape⟩
 refine ⟨s.defers,s.size,fun k=>(s.env k).tr ht (fun _ _=>rfl),⟨fun id o hi=>?_,s.heap.2⟩,s.step.trans hst (fun _ _ h=>h.elim),s.own,s.stab,s.mf⟩
 rcases s.heap.1 id o hi with h1 | ⟨b,h1,⟨gk,c1,fr,h2,h3,h4,h5,h6,h7⟩ | hsp⟩
 ·exact .inl h1
 rotate_left
 ·exact .inr ⟨b,h1,.inr (hsp.tr (hst.keep b hsp.rel.lt (fun h=>h)))⟩
 ·refine .inr ⟨b,h1,.inl ⟨gk,c1,fr,by rw [hst.keep b (aZ h2) (fun h=>h)];exact h2,h3,h4,h5,h6,fun i j r x hr hx=>?_⟩⟩
  obtain ⟨v,hv1,hv2⟩:=h7 i j r x hr hx
  exact ⟨v,hv1,hv2.tr ht (fun _ _ _=>rfl)⟩
theorem eV (MF:Nat→Prop) (b:Nat):aT bl MF (ab []) b↔MF b:=⟨fun h=>by
 rcases h with h | ⟨id,o,h,_⟩
 ·exact h
 ·simp [ab] at h,.inl⟩
theorem aB.tab (s:aB c bl g h a w):(aS.T P).H w:=by
 rw [← CT.eq (c:=c) (P:=P)]
 exact c.T.stay c.w0 w c.tH fun b hb=>s.step.keep b (c.T.low _ c.tH b hb) (c.tW b hb)
theorem aB.tabW (s:aB c bl g h a w) (b:Nat) (hb:(aS.T P).B b):¬aT bl c.MF h b:=by
 rw [← CT.eq (c:=c) (P:=P)] at hb
 rintro (hm | ⟨id,o,h1,h2⟩)
 ·exact c.tM b hb hm
 rcases s.own id o b h1 h2 with h3 | h3
 ·exact absurd (c.T.low _ c.tH b hb) (by omega)
 ·exact c.tW b hb h3
theorem qE (s:aB c bl g h a w) {f:FuncId} {cargs:List Value} {args args':List AV} {r:AV} (hp:ak P f args' r) (ha:aC (aO bl (aT bl c.MF h) w) cargs args) (hid:∀x∈args',ax x=[]) (b:Bool) (hc:aC (EP b h) args args') (hf:b=true→ii r=true) :
  Calls P f cargs.toArray w fun e w'=>∃v,e = .returned v∧aB c bl g h a w'∧aO bl (aT bl c.MF h) w' v r:=by
 let MF':Nat→Prop:=fun q=>aT bl c.MF h q∧(b=true→c.MF q)
 have hMF':∀q,MF' q→q<w.heap.size:=fun q hq=>by
  rcases hq.1 with hm | ⟨id,o,h1,h2⟩
  ·exact Nat.lt_of_lt_of_le (s.mf q hm) s.step.size
  ·rcases s.heap.1 id o h1 with hn | ⟨b',g2,hO⟩
   ·rw [hn.2.2] at h2;cases h2
   ·rw [h2] at g2;cases g2;exact hO.lt
 have hargs:aC (aO (fun _=>none) (aT (fun _=>none) MF' (ab [])) w) cargs args':=by
  have key:∀{cs:List Value} {as as':List AV},aC (aO bl (aT bl c.MF h) w) cs as→aC (EP b h) as as'→(∀x∈as',ax x=[])→aC (aO (fun _=>none) (aT (fun _=>none) MF' (ab [])) w) cs as':=by
   intro cs
   induction cs with
   | nil =>
    intro as as' h1 h2 _
    cases as with
    | cons=>exact h1.elim
    | nil=>cases as' with
     | cons=>exact h2.elim
     | nil=>trivial
   | cons v cs ih =>
    intro as as' h1 h2 h3
    cases as with
    | nil=>exact h1.elim
    | cons x as =>
     cases as' with
     | nil=>exact h2.elim
     | cons x' as' =>
      refine ⟨?_,ih h1.2 h2.2 (fun y hy=>h3 y (by simp [hy]))⟩
      have ht:Tr (aT bl c.MF h) (aT (fun _=>none) MF' (ab [])) w w:=⟨fun q hq _=>⟨fun hm=>hq ((eV MF' q).1 hm).1,rfl⟩,fun _ c1 _ fr hb=>⟨c1,fr,hb,rfl⟩⟩
      have hno:∀id,mV id x'=true→(none:Option Nat)=bl id:=fun id hm=>by
       have:=gR hm
       rw [h3 x' (by simp)] at this
       simp at this
      rcases h2.1 with he | ⟨he,st,he'⟩ | ⟨hb,id,st,off,len,o,he,ho,hrec,hst,hfit,he'⟩
      ·have h11:=h1.1
       rw [he] at h11
       exact h11.tr ht hno
      ·rw [he']
       have h11:=h1.1
       rw [he] at h11
       have:=h11.nl
       rw [this]
       exact IRel.nls st
      ·have h11:=h1.1
       rw [he] at h11
       rw [he']
       have h4:cO bl (aT bl c.MF h) w v (.ms id st off len):=h11
       rcases s.heap.1 id o ho with hn | ⟨bb,g2,hO⟩
       ·have hlen:len=0:=by rw [hn.1] at hfit;simp at hfit;omega
        subst hlen
        simp only [dN]
        rcases h4 with ⟨e1,_⟩ | ⟨_,_,ad,cap,e1⟩ | ⟨b',cap,c1,t,fr,e1,_⟩
        ·rw [e1];exact IRel.nls st
        ·rw [e1];exact IRel.sl0 st ad cap
        ·rw [hn.2.2] at e1;cases e1
       ·have hnb:¬aT (fun _=>none) MF' (ab []) bb:=fun hm=>by
         have:=((eV MF' bb).1 hm).2 hb
         exact hO.free this
        have:=oz (M':=aT (fun _=>none) MF' (ab [])) ht hnb (.inr ⟨g2,hO⟩) hrec h4
        simp only [iZ,cX,hst,true_and,hfit] at this
        exact this
  exact key ha hc hid
 refine (hp (fun _=>none) MF' w cargs (aB.tab (P:=P) s) (fun q hq hm=>aB.tabW (P:=P) s q hq ((eV MF' q).1 hm).1) ⟨fun id o hi=>by simp [ab] at hi,fun id id' o o' b hi=>by simp [ab] at hi⟩ hMF' hargs).mono fun e w' hh=>?_
 obtain ⟨v,r',σ',bl',rfl,⟨rfl,rfl⟩,hcl,_,hv,hst,_,_⟩:=hh
 have hst':gD (fun _=>False) w w':=⟨hst.size,fun q hq _=>hst.keep q hq (fun hb=>by
  obtain ⟨id,o,hi,_⟩:=hb
  simp [ab] at hi),hst.shape,hst.os,hst.out⟩
 refine ⟨v,rfl,s.grow hst',?_⟩
 cases b with
 | true=>exact qn (hf rfl) hv
 | false =>
  refine hv.tr ⟨fun q hq hl=>⟨fun hm=>hq ((eV MF' q).2 ⟨hm,fun h=>by cases h⟩),rfl⟩,fun _ c1 _ fr hb=>⟨c1,fr,hb,rfl⟩⟩ (fun id hm=>?_)
  have:=hcl.1 id (gR hm)
  simp [ab] at this
end
def fW (ks:List Nat) (x:AV):AV:=if ks.any (fun i=>mV i x) then .any else x
def gz (ks:List Nat) (x:AV):AV:=if ks.any (fun i=>mC i x) then .any else x
def dk (ks:List Nat) (o:ac):ac:=if o.isRec then { o with rows:=o.rows.map (fun r=>r.map (gz ks)) } else o
def sZ (ks:List Nat) (σ0 σ':Nat→Option ac) (h:Nat→Option ac) (id:Nat):Option ac :=
 match σ' id with
 | some o=>some o
 | none=>if (σ0 id).isSome then none else (h id).map (dk ks)
section
variable {P:Program} [aS P] {c:i3} [CT c P] {bl bl' bl2:Nat→Option Nat} {g:Nat→AV} {h:Nat→Option ac} {a:Act} {w w':World} {M M':Nat→Prop} {ks:List Nat}
theorem yG {v:Value} {x:AV} (hv:aO bl M w v x) (ht:Tr M M' w w') (hb:∀id,id∉ks→bl2 id=bl id):aO bl2 M' w' v (fW ks x):=by
 unfold fW
 split
 ·trivial
 ·rename_i hn
  refine hv.tr ht (fun id hm=>hb id (fun hk=>hn ?_))
  exact List.any_eq_true.2 ⟨id,hk,hm⟩
theorem yC {v:Value} {x:AV} (hv:bq bl M w v x) (ht:Tr M M' w w') (hb:∀id,id∉ks→bl2 id=bl id):bq bl2 M' w' v (gz ks x):=by
 unfold gz
 split
 ·exact IRel.toC (.any v (bq.one hv))
 ·rename_i hn
  refine hv.tr ht (fun id hm=>hb id (fun hk=>hn ?_))
  exact List.any_eq_true.2 ⟨id,hk,hm⟩
theorem o6 (s:aB c bl g h a w) {f:FuncId} {cargs:List Value} {args:List AV} {σ0:List (Nat×ac)} {Sb:Nat→Prop} {Post:AV→List (Nat×ac)→Prop}
  (hp:aE P f args σ0 Sb Post) (ha:aC (aO bl (aT bl c.MF h) w) cargs args) (hσ:∀id o,ab σ0 id=some o→h id=some o) (ks:List Nat)
  (hks:∀r σ',Post r σ'→∀id,(ab σ' id).isSome=true→(Sb id∧(ab σ0 id).isSome=true)∨(id∈ks∧(id<1000∨1267650600228229401496703205376≤id)∧((ab σ0 id).isSome=true∨h id=none))) :
  Calls P f cargs.toArray w fun e w'=>∃v r σ' bl2,e = .returned v∧Post r σ'∧aB c bl2 (fun k=>fW ks (g k)) (sZ ks (ab σ0) (ab σ') h) a w'∧aO bl2 (aT bl2 c.MF (sZ ks (ab σ0) (ab σ') h)) w' v r:=by
 let MF':Nat→Prop:=fun q=>c.MF q∨∃id o,h id=some o∧ab σ0 id=none∧bl id=some q
 have blk:∀{id o q},h id=some o→bl id=some q→gN bl (aT bl c.MF h) c.MF w o q:=fun {id o q} h1 h2=>by
  rcases s.heap.1 id o h1 with hn | ⟨b',g2,hO⟩
  ·rw [hn.2.2] at h2;cases h2
  ·rw [h2] at g2;cases g2;exact hO
 have hMF':∀q,MF' q→q<w.heap.size:=by
  rintro q (hq | ⟨id,o,h1,_,h2⟩)
  ·exact Nat.lt_of_lt_of_le (s.mf q hq) s.step.size
  ·exact (blk h1 h2).lt
 have hmut:∀q,aT bl MF' (ab σ0) q↔aT bl c.MF h q:=fun q=>by
  constructor
  ·rintro ((hq | ⟨id,o,h1,_,h2⟩) | ⟨id,o,h1,h2⟩)
   ·exact .inl hq
   ·exact .inr ⟨id,o,h1,h2⟩
   ·exact .inr ⟨id,o,hσ id o h1,h2⟩
  ·rintro (hq | ⟨id,o,h1,h2⟩)
   ·exact .inl (.inl hq)
   ·cases h3:ab σ0 id with
    | none=>exact .inl (.inr ⟨id,o,h1,h3,h2⟩)
    | some o'=>exact .inr ⟨id,o',h3,h2⟩
 have ht0:=Tr.of_iff (w:=w) hmut
 have hH:pE bl (aT bl MF' (ab σ0)) MF' w (ab σ0):=by
  refine ⟨fun id o hi=>?_,fun id id' o o' q h1 h2=>s.heap.2 id id' o o' q (hσ _ _ h1) (hσ _ _ h2)⟩
  rcases s.heap.1 id o (hσ id o hi) with hn | ⟨b',g2,⟨gk,c2,fr2,g3,g4,g5,g6,g7,g8⟩ | hsp⟩
  ·exact .inl hn
  rotate_left
  ·refine .inr ⟨b',g2,.inr ⟨hsp.rows,hsp.isRec,?_,hsp.rel⟩⟩
   rintro (hq | ⟨id2,o2,h1,h3,h2⟩)
   ·exact hsp.free hq
   ·have:=s.heap.2 id2 id o2 o b' h1 (hσ id o hi) h2 g2
    subst this
    rw [hi] at h3
    cases h3
  ·refine .inr ⟨b',g2,.inl ⟨gk,c2,fr2,g3,g4,?_,g6,g7,fun i j r x hr hx=>?_⟩⟩
   ·rintro (hq | ⟨id2,o2,h1,h3,h2⟩)
    ·exact g5 hq
    ·have:=s.heap.2 id2 id o2 o b' h1 (hσ id o hi) h2 g2
     subst this
     rw [hi] at h3
     cases h3
   ·obtain ⟨v,hv1,hv2⟩:=g8 i j r x hr hx
    exact ⟨v,hv1,hv2.tr ht0 (fun _ _ _=>rfl)⟩
 refine (hp bl MF' w cargs (aB.tab (P:=P) s) (fun q hq hm=>aB.tabW (P:=P) s q hq ((hmut q).1 hm)) hH hMF' (ha.mono fun _ _ _ hr=>hr.tr ht0 (fun _ _=>rfl))).mono fun e w' hh=>?_
 obtain ⟨v,r,σ',bl1,rfl,hPost,hcl,hH',hv,hst,hown,hsb⟩:=hh
 have hks':=hks r σ' hPost
 let B:Nat→Option Nat:=fun id=>if (ab σ' id).isSome then bl1 id else bl id
 have B_in:∀id,(ab σ' id).isSome=true→B id=bl1 id:=fun id hi=>by simp [B,hi]
 have B_out:∀id,ab σ' id=none→B id=bl id:=fun id hi=>by simp [B,hi]
 have B_ks:∀id,id∉ks→B id=bl id:=fun id hk=>by
  cases hi:ab σ' id with
  | none=>exact B_out id hi
  | some o =>
   rw [B_in id (by simp [hi])]
   rcases hks' id (by simp [hi]) with ⟨h1,_⟩ | ⟨h1,_⟩
   ·exact hsb id h1
   ·exact absurd h1 hk
 have mrg_out:∀{id o},sZ ks (ab σ0) (ab σ') h id=some o→ab σ' id=none→∃o0,h id=some o0∧o=dk ks o0∧ab σ0 id=none:=fun {id o} hm hn=>by
  simp only [sZ,hn] at hm
  split at hm
  ·cases hm
  ·rename_i h0
   simp only [cj] at hm
   obtain ⟨o0,h1,rfl⟩:=hm
   exact ⟨o0,h1,rfl,by simpa using h0⟩
 have σblk:∀{id o q},ab σ' id=some o→bl1 id=some q→gN bl1 (aT bl1 MF' (ab σ')) MF' w' o q:=fun {id o q} h1 h2=>by
  rcases hH'.1 id o h1 with hn | ⟨b',g2,hO⟩
  ·rw [hn.2.2] at h2;cases h2
  ·rw [h2] at g2;cases g2;exact hO
 have hmut2:∀q,aT B c.MF (sZ ks (ab σ0) (ab σ') h) q→aT bl1 MF' (ab σ') q:=by
  rintro q (hq | ⟨id,o,h1,h2⟩)
  ·exact .inl (.inl hq)
  ·cases hi:ab σ' id with
   | some o'=>rw [B_in id (by simp [hi])] at h2;exact .inr ⟨id,o',hi,h2⟩
   | none =>
    obtain ⟨o0,h3,_,h4⟩:=mrg_out h1 hi
    rw [B_out id hi] at h2
    exact .inl (.inr ⟨id,o0,h3,h4,h2⟩)
 have hmut3:∀q,q<w.heap.size→aT bl1 MF' (ab σ') q→aT bl c.MF h q:=by
  rintro q hq ((hm | ⟨id,o,h1,_,h2⟩) | ⟨id,o,h1,h2⟩)
  ·exact .inl hm
  ·exact .inr ⟨id,o,h1,h2⟩
  ·rcases hown id o q h1 h2 with h3 | ⟨id2,o2,h3,h4⟩
   ·omega
   ·exact .inr ⟨id2,o2,hσ _ _ h3,h4⟩
 have ht:Tr (aT bl c.MF h) (aT B c.MF (sZ ks (ab σ0) (ab σ') h)) w w':=⟨fun q hq hl=>⟨fun hm=>hq (hmut3 q hl (hmut2 q hm)),hst.keep q hl (fun hb=>hq (by
  obtain ⟨id,o,h1,h2⟩:=hb
  exact .inr ⟨id,o,hσ _ _ h1,h2⟩))⟩,hst.shape⟩
 have ht1:Tr (aT bl1 MF' (ab σ')) (aT B c.MF (sZ ks (ab σ0) (ab σ') h)) w' w':=⟨fun q hq _=>⟨fun hm=>hq (hmut2 q hm),rfl⟩,fun _ c1 _ fr hb=>⟨c1,fr,hb,rfl⟩⟩
 have hcl1:∀id,mV id r=true→B id=bl1 id:=fun id hm=>B_in id (hcl.1 id (gR hm))
 have hmem:∀{σ:List (Nat×ac)} {id:Nat} {o:ac},ab σ id=some o→(id,o)∈σ:=by
  intro σ
  induction σ with
  | nil=>intro id o hi;simp [ab] at hi
  | cons p l ih =>
   intro id o hi
   obtain ⟨k,x⟩:=p
   simp only [ab] at hi
   split at hi
   ·rename_i hk;cases hi;subst hk;simp
   ·exact List.mem_cons_of_mem _ (ih hi)
 refine ⟨v,r,σ',B,rfl,hPost,⟨s.defers,s.size,fun k=>yG (s.env k) ht B_ks,⟨fun id o hi=>?_,fun id id' o o' q h1 h2 h3 h4=>?_⟩,?_,fun id o q h1 h2=>?_,fun id h1 h2=>?_,s.mf⟩,hv.tr ht1 hcl1⟩
 ·cases hi':ab σ' id with
  | some o' =>
   have ho:o=o':=by simp only [sZ,hi',bH] at hi;exact hi.symm
   subst ho
   rcases hH'.1 id o hi' with hn | ⟨b',g2,⟨gk,c2,fr2,g3,g4,g5,g6,g7,g8⟩ | hsp⟩
   ·exact .inl ⟨hn.1,hn.2.1,by rw [B_in id (by simp [hi'])];exact hn.2.2⟩
   rotate_left
   ·exact .inr ⟨b',by rw [B_in id (by simp [hi'])];exact g2,.inr ⟨hsp.rows,hsp.isRec,fun hm=>hsp.free (.inl hm),hsp.rel⟩⟩
   ·refine .inr ⟨b',by rw [B_in id (by simp [hi'])];exact g2,.inl ⟨gk,c2,fr2,g3,g4,fun hm=>g5 (.inl hm),g6,g7,fun i j q x hr hx=>?_⟩⟩
    obtain ⟨u,hu1,hu2⟩:=g8 i j q x hr hx
    refine ⟨u,hu1,hu2.tr ht1 (fun hrec id2 hm=>B_in id2 (hcl.2 (id,o) (hmem hi') id2 ?_))⟩
    simp only [bo,hrec,cX,fc]
    exact ⟨q,f7 hr,x,f7 hx,iG hm⟩
  | none =>
   obtain ⟨o0,h1,rfl,h3⟩:=mrg_out hi hi'
   rcases s.heap.1 id o0 h1 with hn | ⟨b',g2,⟨gk,c2,fr2,g3,g4,g5,g6,g7,g8⟩ | hsp⟩
   ·refine .inl ⟨?_,?_,by rw [B_out id hi'];exact hn.2.2⟩
    ·simp [dk,hn.2.1,hn.1]
    ·simp [dk,hn.2.1]
   rotate_left
   ·have hkeep:w'.heap[b']? = w.heap[b']?:=hst.keep b' hsp.rel.lt (fun hb=>by
     obtain ⟨id2,o2,h4,h5⟩:=hb
     have:=s.heap.2 id id2 o0 o2 b' h1 (hσ _ _ h4) g2 h5
     subst this
     rw [h3] at h4
     cases h4)
    refine .inr ⟨b',by rw [B_out id hi'];exact g2,.inr ?_⟩
    have:dk ks o0=o0:=by simp [dk,hsp.isRec]
    rw [this]
    exact hsp.tr hkeep
   ·have hkeep:w'.heap[b']? = w.heap[b']?:=hst.keep b' (aZ g3) (fun hb=>by
     obtain ⟨id2,o2,h4,h5⟩:=hb
     have:=s.heap.2 id id2 o0 o2 b' h1 (hσ _ _ h4) g2 h5
     subst this
     rw [h3] at h4
     cases h4)
    refine .inr ⟨b',by rw [B_out id hi'];exact g2,.inl ⟨by unfold dk;split<;>exact gk,c2,fr2,?_,g4,g5,?_,?_,?_⟩⟩
    ·rw [hkeep,g3]
     unfold dk
     split<;>rfl
    ·intro i q hq
     unfold dk at hq ⊢
     split at hq
     ·simp only [d_,cj] at hq
      obtain ⟨q0,hq0,rfl⟩:=hq
      rename_i hrec
      simpa [hrec] using g6 i q0 hq0
     ·rename_i hrec
      simpa [hrec] using g6 i q hq
    ·unfold dk
     split<;>simpa using g7
    ·intro i j q x hq hx
     unfold dk at hq ⊢
     split at hq
     ·rename_i hrec
      simp only [d_,cj] at hq
      obtain ⟨q0,hq0,rfl⟩:=hq
      simp only [d_,cj] at hx
      obtain ⟨x0,hx0,rfl⟩:=hx
      obtain ⟨u,hu1,hu2⟩:=g8 i j q0 x0 hq0 hx0
      simp only [hrec,cX]
      rw [hrec] at hu2
      exact ⟨u,hu1,yC hu2 ht B_ks⟩
     ·rename_i hrec
      obtain ⟨u,hu1,hu2⟩:=g8 i j q x hq hx
      have hrec':o0.isRec=false:=by simpa using hrec
      simp only [hrec',tT,fp]
      rw [hrec'] at hu2
      exact ⟨u,hu1,IRel.tr hu2 ht.keep⟩
 ·cases hi:ab σ' id with
  | some o1 =>
   rw [B_in id (by simp [hi])] at h3
   cases hi2:ab σ' id' with
   | some o2 =>
    rw [B_in id' (by simp [hi2])] at h4
    exact hH'.2 id id' o1 o2 q hi hi2 h3 h4
   | none =>
    rw [B_out id' hi2] at h4
    obtain ⟨o2,h5,_,h6⟩:=mrg_out h2 hi2
    exact ((σblk hi h3).free (.inr ⟨id',o2,h5,h6,h4⟩)).elim
  | none =>
   rw [B_out id hi] at h3
   obtain ⟨o1,h5,_,h6⟩:=mrg_out h1 hi
   cases hi2:ab σ' id' with
   | some o2 =>
    rw [B_in id' (by simp [hi2])] at h4
    exact ((σblk hi2 h4).free (.inr ⟨id,o1,h5,h6,h3⟩)).elim
   | none =>
    rw [B_out id' hi2] at h4
    obtain ⟨o2,h7,_,h8⟩:=mrg_out h2 hi2
    exact s.heap.2 id id' o1 o2 q h5 h7 h3 h4
 ·refine s.step.trans hst (fun q hq hb=>?_)
  obtain ⟨id,o,h1,h2⟩:=hb
  rcases s.own id o q (hσ _ _ h1) h2 with h3 | h3
  ·omega
  ·exact h3
 ·cases hi:ab σ' id with
  | some o1 =>
   rw [B_in id (by simp [hi])] at h2
   rcases hown id o1 q hi h2 with h3 | ⟨id2,o2,h3,h4⟩
   ·exact .inl (cE s.step.size h3)
   ·exact s.own id2 o2 q (hσ _ _ h3) h4
  | none =>
   rw [B_out id hi] at h2
   obtain ⟨o1,h5,_,h6⟩:=mrg_out h1 hi
   exact s.own id o1 q h5 h2
 ·cases hi:ab σ' id with
  | none=>rw [B_out id hi];exact s.stab id h1 h2
  | some o1 =>
   rw [B_in id (by simp [hi])]
   rcases hks' id (by simp [hi]) with ⟨h3,_⟩ | ⟨_,h3,_⟩
   ·rw [hsb id h3];exact s.stab id h1 h2
   ·omega
end
section
variable {c:i3} {bl:Nat→Option Nat} {g:Nat→AV} {h:Nat→Option ac} {a:Act} {w:World}
theorem Lx (i:Nat) (o o1:ac):(fb i o o1).t=o1.t:=by unfold fb;split<;>rfl
theorem rg (i:Nat) (o o1:ac):(fb i o o1).st=o1.st:=by unfold fb;split<;>rfl
theorem sM (i:Nat) (o o1:ac):(fb i o o1).isRec=o1.isRec:=by unfold fb;split<;>rfl
theorem aB.freeze (s:aB c bl g h a w) {i:Nat} {o:ac} (hi:h i=some o) (hrec:o.isRec=false) :
  aB c bl (fun k=>kJ i o (g k)) (fun j=>if j=i then none else (h j).map (fb i o)) a w ∧
   ∀v x,aO bl (aT bl c.MF h) w v x→aO bl (aT bl c.MF (fun j=>if j=i then none else (h j).map (fb i o))) w v (kJ i o x):=by
 have hsub:∀{j q},(if j=i then none else (h j).map (fb i o))=some q→j≠i∧∃q0,h j=some q0∧q=fb i o q0:=fun {j q} hj=>by
  split at hj
  ·cases hj
  ·rename_i hne
   simp only [cj] at hj
   obtain ⟨q0,h1,h2⟩:=hj
   exact ⟨hne,q0,h1,h2.symm⟩
 have hmut:∀q,aT bl c.MF (fun j=>if j=i then none else (h j).map (fb i o)) q→aT bl c.MF h q:=by
  rintro q (hm | ⟨j,oj,h1,h2⟩)
  ·exact .inl hm
  ·obtain ⟨_,q0,h3,_⟩:=hsub h1
   exact .inr ⟨j,q0,h3,h2⟩
 have ht:Tr (aT bl c.MF h) (aT bl c.MF (fun j=>if j=i then none else (h j).map (fb i o))) w w:=⟨fun b hb _=>⟨fun hm=>hb (hmut b hm),rfl⟩,fun _ c1 _ fr hb=>⟨c1,fr,hb,rfl⟩⟩
 have hP:∀{v x},cO bl (aT bl c.MF h) w v x→cO bl (aT bl c.MF (fun j=>if j=i then none else (h j).map (fb i o))) w v (iZ i o x):=fun {v x} hv=>by
  rcases s.heap.1 i o hi with hn | ⟨b,hb,hO⟩
  ·exact oz (b:=w.heap.size) (MF:=c.MF) ht (fun hm=>by
    rcases hm with hm | ⟨j,oj,h1,h2⟩
    ·exact absurd (s.mf _ hm) (Nat.not_lt.2 s.step.size)
    ·obtain ⟨_,q0,h3,_⟩:=hsub h1
     rcases s.heap.1 j q0 h3 with hn2 | ⟨b',h4,hO⟩
     ·rw [hn2.2.2] at h2;cases h2
     ·rw [h2] at h4;cases h4;exact absurd hO.lt (Nat.lt_irrefl _)) (.inl ⟨hn.1,hn.2.2⟩) hrec hv
  ·refine oz ht (fun hm=>?_) (.inr ⟨hb,hO⟩) hrec hv
   rcases hm with hm | ⟨j,oj,h1,h2⟩
   ·exact hO.free hm
   ·obtain ⟨hne,q0,h3,_⟩:=hsub h1
    exact hne (s.heap.2 j i q0 o b h3 hi h2 hb)
 have hC:∀{v x},bq bl (aT bl c.MF h) w v x→bq bl (aT bl c.MF (fun j=>if j=i then none else (h j).map (fb i o))) w v (lF i o x):=fun {v x} hv=>by
  cases x with
  | fn f caps =>
   obtain ⟨cs,h1,h2⟩:=hv
   exact ⟨cs,h1,h2.mapRight fun _ _ hr=>hP hr⟩
  | agg cells=>simp only [bq,cO] at hv;cases hv
  | tup vs=>simp only [bq,cO] at hv;cases hv
  | ms id st off len =>
   have:=hP (x:=.ms id st off len) hv
   simp only [lF]
   generalize hy:iZ i o (.ms id st off len)=y at this
   simp only [iZ] at hy
   split at hy
   ·split at hy<;>(subst hy;exact this)
   ·subst hy;exact this
  | mp id st row off =>
   have:=hP (x:=.mp id st row off) hv
   simp only [lF]
   generalize hy:iZ i o (.mp id st row off)=y at this
   simp only [iZ] at hy
   split at hy
   ·split at hy
    ·split at hy<;>(subst hy;exact this)
    ·subst hy;exact this
   ·subst hy;exact this
  | mm id k =>
   have:=hP (x:=.mm id k) hv
   simp only [lF]
   generalize hy:iZ i o (.mm id k)=y at this
   simp only [iZ] at hy
   split at hy
   ·split at hy<;>(subst hy;exact this)
   ·subst hy;exact this
  | _ =>
   simp only [bq,cO] at hv
   exact IRel.toC (IRel.tr hv ht.keep)
 have hG:∀{v x},df bl (aT bl c.MF h) w v x→df bl (aT bl c.MF (fun j=>if j=i then none else (h j).map (fb i o))) w v (rf i o x):=fun {v x} hv=>by
  cases x with
  | agg cells =>
   obtain ⟨cs,h1,h2⟩:=hv
   exact ⟨cs,h1,h2.mapRight fun _ _ hr=>hC hr⟩
  | _ =>
   simp only [df] at hv
   simp only [rf]
   exact (hC hv).toG
 have hV:∀{v x},aO bl (aT bl c.MF h) w v x→aO bl (aT bl c.MF (fun j=>if j=i then none else (h j).map (fb i o))) w v (kJ i o x):=fun {v x} hv=>by
  cases x with
  | any=>trivial
  | tup vs =>
   obtain ⟨cs,h1,h2⟩:=hv
   exact ⟨cs,h1,h2.mapRight fun _ _ hr=>hG hr⟩
  | _ =>
   simp only [aO] at hv
   simp only [kJ]
   exact (hG hv).toV
 refine ⟨⟨s.defers,s.size,fun k=>hV (s.env k),⟨fun j oj hj=>?_,fun j j' oj oj' q h1 h2=>?_⟩,s.step,fun j oj q h1 h2=>?_,s.stab,s.mf⟩,fun v x hv=>hV hv⟩
 ·obtain ⟨hne,q0,h1,rfl⟩:=hsub hj
  rcases s.heap.1 j q0 h1 with hn | ⟨b,hb,⟨gk,c1,fr,h2,h3,h4,h5,h6,h7⟩ | hsp⟩
  ·exact .inl ⟨by simp [fb,hn.2.1,hn.1],by rw [sM];exact hn.2.1,hn.2.2⟩
  rotate_left
  ·have:fb i o q0=q0:=by simp [fb,hsp.isRec]
   rw [this]
   exact .inr ⟨b,hb,.inr hsp⟩
  ·refine .inr ⟨b,hb,.inl ⟨by unfold fb;split<;>exact gk,c1,fr,by rw [Lx];exact h2,h3,h4,fun k r hr=>?_,?_,fun k q r x hr hx=>?_⟩⟩
   ·rw [rg]
    unfold fb at hr
    split at hr
    ·simp only [d_,cj] at hr
     obtain ⟨r0,h8,rfl⟩:=hr
     simpa using h5 k r0 h8
    ·exact h5 k r hr
   ·rw [rg]
    unfold fb
    split<;>simpa using h6
   ·rw [rg,sM]
    unfold fb at hr
    split at hr
    ·rename_i hrc
     simp only [d_,cj] at hr
     obtain ⟨r0,h8,rfl⟩:=hr
     simp only [d_,cj] at hx
     obtain ⟨x0,h9,rfl⟩:=hx
     obtain ⟨u,hu1,hu2⟩:=h7 k q r0 x0 h8 h9
     rw [hrc] at hu2 ⊢
     exact ⟨u,hu1,hC hu2⟩
    ·rename_i hrc
     obtain ⟨u,hu1,hu2⟩:=h7 k q r x hr hx
     have hrc':q0.isRec=false:=by simpa using hrc
     rw [hrc'] at hu2 ⊢
     exact ⟨u,hu1,IRel.tr hu2 ht.keep⟩
 ·obtain ⟨_,q1,h3,_⟩:=hsub h1
  obtain ⟨_,q2,h4,_⟩:=hsub h2
  exact s.heap.2 j j' q1 q2 q h3 h4
 ·obtain ⟨_,q1,h3,_⟩:=hsub h1
  exact s.own j q1 q h3 h2
end
def BK (i:Nat) (o:ac):List (Nat×AV)→List (Nat×AV)
 | []=>[]
 | (k,x) :: r=>(k,kJ i o x) :: BK i o r
def xO (i:Nat) (o:ac):List (Nat×ac)→List (Nat×ac)
 | []=>[]
 | (k,x) :: r=>(k,fb i o x) :: xO i o r
def St.frz (s:St) (i:Nat):St :=
 match ab s.heap i with
 | some o=>if o.isRec then s else ⟨BK i o s.env,xO i o (dh s.heap i)⟩
 | none=>s
def frzs:List Nat→St→St
 | [],s=>s
 | i :: r,s=>frzs r (s.frz i)
theorem oB (i:Nat) (o:ac):∀(l:List (Nat×AV)) (k:Nat),get (BK i o l) k=kJ i o (get l k)
 | [],k=>rfl
 | (j,x) :: r,k=>by simp only [BK,get,oB i o r k];split<;>rfl
theorem lH (i:Nat) (o:ac):∀(l:List (Nat×ac)) (k:Nat),ab (xO i o l) k=(ab l k).map (fb i o)
 | [],k=>rfl
 | (j,x) :: r,k=>by simp only [xO,ab,lH i o r k];split<;>rfl
theorem bG.frz {c:i3} {s:St} {a:Act} {w:World} (hs:bG c s a w) (i:Nat):bG c (s.frz i) a w:=by
 obtain ⟨bl,hs⟩:=hs
 unfold St.frz
 split
 ·rename_i o ho
  split
  ·exact ⟨bl,hs⟩
  ·rename_i hr
   exact ⟨bl,(hs.freeze ho (by simpa using hr)).1.congr (fun k=>oB i o _ k) (fun j=>by simp only [lH,bg];split<;>simp)⟩
 ·exact ⟨bl,hs⟩
theorem bG.frzs {c:i3} {a:Act} {w:World}:∀(l:List Nat) {s:St},bG c s a w→bG c (Mw.frzs l s) a w
 | [],_,h=>h
 | i :: r,_,h=>bG.frzs r (h.frz i)
def frz1 (s:St) (i:Nat) (x:AV):AV :=
 match ab s.heap i with
 | some o=>if o.isRec then x else kJ i o x
 | none=>x
def qr:List Nat→St→AV→AV
 | [],_,x=>x
 | i :: r,s,x=>qr r (s.frz i) (frz1 s i x)
theorem aB.frz1 {c:i3} {bl:Nat→Option Nat} {s:St} {a:Act} {w:World} (hs:aB c bl (get s.env) (ab s.heap) a w) (i:Nat) :
  aB c bl (get (s.frz i).env) (ab (s.frz i).heap) a w∧∀v x,aO bl (aT bl c.MF (ab s.heap)) w v x→aO bl (aT bl c.MF (ab (s.frz i).heap)) w v (Mw.frz1 s i x):=by
 unfold St.frz Mw.frz1
 cases ho:ab s.heap i with
 | none=>exact ⟨hs,fun _ _ h=>h⟩
 | some o =>
  simp only
  by_cases hr:o.isRec=true
  ·simp only [hr,cX];exact ⟨hs,fun _ _ h=>h⟩
  ·obtain ⟨h1,h2⟩:=hs.freeze ho (by simpa using hr)
   have hh:ab (xO i o (dh s.heap i))=fun j=>if j=i then none else (ab s.heap j).map (fb i o):=by
    funext j
    simp only [lH,bg]
    split<;>simp
   simp only [hr,fp,tT]
   exact ⟨h1.congr (fun k=>oB i o _ k) (fun j=>by rw [hh]),fun v x hv=>by rw [hh];exact h2 v x hv⟩
theorem aB.frzs {c:i3} {bl:Nat→Option Nat} {a:Act} {w:World}:∀(fs:List Nat) (s:St),aB c bl (get s.env) (ab s.heap) a w →
  aB c bl (get (Mw.frzs fs s).env) (ab (Mw.frzs fs s).heap) a w∧∀v x,aO bl (aT bl c.MF (ab s.heap)) w v x→aO bl (aT bl c.MF (ab (Mw.frzs fs s).heap)) w v (qr fs s x)
 | [],s,hs=>⟨hs,fun _ _ h=>h⟩
 | i :: r,s,hs=>by
  obtain ⟨h1,h2⟩:=hs.frz1 i
  obtain ⟨h3,h4⟩:=aB.frzs r (s.frz i) h1
  exact ⟨h3,fun v x hv=>h4 v _ (h2 v x hv)⟩
structure av where
 o:aD
 bef:List Nat
 deriving Inhabited
inductive aK where
 | skip
 | ret
 | exit (id:Nat)
 | seq (x y:aK)
 | cut (x y:aK)
 | cond (c:IV) (t e:aK)
 | block (id:Nat) (x:aK)
 | loop (x:aK)
 | reg (ops:List aD) (dr:List Nat)
 | draw (ops:List av) (al:List (Nat×Nat)) (dr:List Nat)
 | free (ops:List av) (al:List (Nat×Nat)) (dr:List Nat)
 | wild (ops:List av) (al:List (Nat×Nat)) (dr:List Nat)
 | clon (cs:List Nat) (ops:List av) (al:List (Nat×Nat)) (dr:List Nat)
 deriving Inhabited
inductive IX where
 | nrm
 | ret
 | ext (id:Nat)
def lI (P:Program) [aS P] (f:FuncId) (args:List AV) (d:Option Nat) (s:St) (K:St→Prop):Prop :=
 (∃args' r b,ak P f args' r∧(∀x∈args',ax x=[])∧aC (EP b (ab s.heap)) args args'∧(b=true→ii r=true)∧K (s.put d r)) ∨
 ∃σ0 Sb Post ks,aE P f args σ0 Sb Post∧(∀id o,ab σ0 id=some o→ab s.heap id=some o) ∧
  (∀r σ',Post r σ'→∀id,(ab σ' id).isSome=true→(Sb id∧(ab σ0 id).isSome=true)∨(id∈ks∧(id<1000∨1267650600228229401496703205376≤id)∧((ab σ0 id).isSome=true∨ab s.heap id=none))) ∧
  ∀r σ',Post r σ'→∃s':St,(∀k,get s'.env k=fW ks (get s.env k))∧(∀j,ab s'.heap j=sZ ks (ab σ0) (ab σ') (ab s.heap) j)∧K (s'.put d r)
def pH (s:St) (l:List AV) (s':St) (l':List AV):Prop:=∀(c:i3) (a:Act) (w:World) (bl:Nat→Option Nat) (vs:List Value),aB c bl (get s.env) (ab s.heap) a w→aC (aO bl (aT bl c.MF (ab s.heap)) w) vs l →
 ∃bl',aB c bl' (get s'.env) (ab s'.heap) a w∧aC (aO bl' (aT bl' c.MF (ab s'.heap)) w) vs l'
def dB (P:Program) [aS P] (f:FuncId) (args:List AV) (d:Option Nat) (s:St) (K:St→Prop):Prop :=
 lI P f args d s K∨(∃fs,lI P f (args.map (qr fs s)) d (frzs fs s) K)∨∃s' args',pH s args s' args'∧lI P f args' d s' K
def Wk (s s':St):Prop:=∀(c:i3) (a:Act) (w:World),bG c s a w→bG c s' a w
def ta (o:aD) (s:St) (K:St→Prop):Prop :=
 match ba (o.dst.getD 0) o.op (val (get (s.kill (o.dst.getD 0)).env)) (ab (s.kill (o.dst.getD 0)).heap) with
 | some (v,e)=>K (((s.kill (o.dst.getD 0)).eff e).put o.dst v)
 | none=>False
def jU (b:Bool) (A B:Prop):Prop:=match b with | true=>A | false=>B
def A5 (o:aD) (s:St) (K:St→Prop):Prop:=∃s',Wk s s'∧ta o s' K
def fq (P:Program) [aS P] (o:aD) (s:St) (K:St→Prop):Prop :=
 match o.op with
 | .call f args=>dB P f (args.map (val (get s.env))) o.dst s K
 | .callv f args=>match val (get s.env) f with
  | .fn f caps=>if f<4000000 then aY P f=true∧dB P f (args.map (val (get s.env))++caps) o.dst s K else aY P (f - 4000000)=true∧dB P (f - 4000000) (caps.take 1++args.map (val (get s.env))++caps.drop 1) o.dst s K
  | _=>False
 | .bsl t st rows ps=>(o.dst.getD 0<1000∧match ui (o.dst.getD 0) t st (gY (val (get (s.kill (o.dst.getD 0)).env)) st rows ps) with
   | some (v,e)=>K (((s.kill (o.dst.getD 0)).eff e).put o.dst v)
   | none=>A5 o s K)
 | .app t st x y=>o.dst.getD 0<1000∧jU (lT (ab s.heap) (val (get s.env) x)) (match jN (o.dst.getD 0) t st (val (get (s.kill (o.dst.getD 0)).env) x) (iV st (ab (s.kill (o.dst.getD 0)).heap) (val (get (s.kill (o.dst.getD 0)).env) y)) (ab (s.kill (o.dst.getD 0)).heap) with
   | some (v,e)=>K (((s.kill (o.dst.getD 0)).eff e).put o.dst v)
   | none=>False) (jU (lT (ab s.heap) (val (get s.env) y)) (match jN (o.dst.getD 0) t st (val (get (s.kill (o.dst.getD 0)).env) x) (iV st (ab (s.kill (o.dst.getD 0)).heap) (val (get (s.kill (o.dst.getD 0)).env) y)) (ab (s.kill (o.dst.getD 0)).heap) with
   | some (v,e)=>K (((s.kill (o.dst.getD 0)).eff e).put o.dst v)
   | none=>False) (match ba (o.dst.getD 0) (.app t st x y) (val (get (s.kill (o.dst.getD 0)).env)) (ab (s.kill (o.dst.getD 0)).heap) with
   | some (v,e)=>K (((s.kill (o.dst.getD 0)).eff e).put o.dst v)
   | none=>False))
 | .snl b x=>match val (get s.env) x with
  | .sl _ []=>K (s.put o.dst (.bool b))∧K (s.put o.dst (.bool (!b)))
  | x=>match ue b x with
   | some v=>K (s.put o.dst v)
   | none=>False
 | op=>if i7 op then
   (o.dst.getD 0<1000∧match ba (o.dst.getD 0) op (val (get (s.kill (o.dst.getD 0)).env)) (ab (s.kill (o.dst.getD 0)).heap) with
   | some (v,e)=>K (((s.kill (o.dst.getD 0)).eff e).put o.dst v)
   | none=>False)
  else match ba (o.dst.getD 0) op (val (get s.env)) (ab s.heap) with
   | some (v,e)=>K ((s.eff e).put o.dst v)
   | none=>False
def eT (P:Program) [aS P]:List aD→St→(St→Prop)→Prop
 | [],s,K=>K s
 | o :: r,s,K=>match o.g with
  | none=>fq P o s (fun s'=>eT P r s' K)
  | some (k,b)=>match get s.env k with
   | .bool t=>(t=b→fq P o (s.put (some k) (.bool b)) (fun s'=>eT P r s' K))∧(t = !b→eT P r ((s.put (some k) (.bool (!b))).put o.dst (.tup [])) K)
   | .tup []=>eT P r (s.put o.dst (.tup [])) K
   | _=>False
class inductive Ld where
 | no
 | ld
instance:Ld:=.no
structure HI where
 i:Nat
 op:List Nat
 res:List Nat
 tch:List Nat
 rb:Bool
 wr:Bool
 [ld:Ld]
abbrev lM:fK→Ld
 | .load _ _=>.ld
 | .fadr _ _=>.ld
 | .len _=>.ld
 | _=>.no
def HI.isLd (y:HI):Bool:=match y.ld with
 | .ld=>true
 | .no=>false
def aM.isPut:aM→Bool
 | .put ..=>true
 | _=>false
def aM.tch:aM→List Nat
 | .no=>[]
 | .put i _=>[i]
 | .new i _=>[i]
 | .reb i _=>[i]
def aM.isReb:aM→Bool
 | .reb ..=>true
 | _=>false
def aM.ids:aM→List Nat
 | .no=>[]
 | .put _ o=>bo o
 | .new _ o=>bo o
 | .reb _ o=>bo o
def aH:IV→List Nat
 | .s k=>[k]
 | .c _=>[]
def fM:Option IV→List Nat
 | some x=>aH x
 | none=>[]
def ao (o:fK):List Nat :=
 match o with
 | .mov x | .box _ _ x | .load _ x | .fadr _ x | .fld _ _ x | .len x | .slen x | .un _ x | .cvi _ x | .cvs x | .cvt x | .cvb _ x | .cvm x | .ext x _ | .nchk x | .snl _ x=>aH x
 | .pick c a b=>aH c++aH a++aH b
 | .new _ _=>[]
 | .build _ ps=>ps.flatMap fun p=>aH p.2.2
 | .bsl _ _ _ ps=>ps.flatMap fun p=>aH p.2
 | .store _ x y | .iadr _ x y | .aadr _ _ x y | .mnx _ x y | .cpy _ x y | .sib x y | .app _ _ x y | .apps _ x y | .bin _ x y | .bbin _ x y | .pbin _ x y | .sbin _ _ x y | .sidx x y | .mks _ _ _ x y=>aH x++aH y
 | .slc _ x lo hi mx=>aH x++fM lo++fM hi++fM mx
 | .sslc x lo hi=>aH x++fM lo++fM hi
 | .call _ args=>args.flatMap aH
 | .callv f args=>aH f++args.flatMap aH
 | .mkf _ caps=>caps.flatMap aH
 | .mop _ xs=>xs.flatMap aH
def co (o:aD):List Nat:=ao o.op++(match o.g with | some (k,_)=>[k] | none=>[])
def rC (x y:HI):Bool :=
 y.tch.all (fun d=>!x.op.contains d && !x.tch.contains d)&&x.tch.all (fun d=>!y.op.contains d)&&(!x.rb||x.tch.all fun d=>!y.res.contains d)&&(!y.rb||y.tch.all fun d=>!x.res.contains d) && !(x.rb&&y.wr) && !(y.rb&&x.wr) && !(x.rb&&x.wr) && !(y.rb&&y.wr)
def dR (bef:List Nat) (x:HI) (hist:List HI):Bool:=hist.all fun y=>bef.contains y.i||rC x y
def jm (al:List (Nat×Nat)) (bef:List Nat) (x:HI):Bool:=al.all fun p=>!x.res.contains p.1||p.2==x.i||bef.contains p.2
def iS:AV→Bool
 | .any=>true
 | _=>false
def cL (o:fK) (s:St) (e:aM):Bool:=(ao o).all (fun k=>!iS (get s.env k))&&(!e.isReb||e.tch.all fun d=>s.heap.all fun p=>!(bo p.2).contains d)
def bu (o:fK) (e:List (Nat×AV)):List Nat :=
 match o with
 | .mov _=>[]
 | o=>(ao o).flatMap fun k=>ax (get e k)
def EL (tch:List Nat) (y:HI):Bool:=(y.op.isEmpty||y.isLd)&&y.tch.isEmpty && !y.rb&&(tch.all fun d=>!y.res.contains d)&&tch.all fun d=>!y.op.contains d
def tS (al:List (Nat×Nat)) (i:Nat) (o:av) (hist:List HI) (s:St) (K:St→Prop):Prop :=
 match o.o.op with
 | .app t st x y=>o.o.g=none∧match ba (o.o.dst.getD 0) (.app t st x y) (val (get s.env)) (ab s.heap) with
  | some (v,e)=>((ao (.app t st x y)).all fun k=>!iS (get s.env k))=true∧e.isReb=true∧(hist.all fun z=>o.bef.contains z.i||EL e.tch z)=true ∧
    jm al o.bef ⟨i,bu (.app t st x y) s.env,ax v++e.ids,e.tch,true,true⟩=true∧K ((s.eff e).put o.o.dst v)
  | none=>False
 | _=>False
class Cl where
 c:List Nat
instance:Cl:=⟨[]⟩
def TC [q:Cl]:Option Nat→Bool
 | some d=>q.c.contains d
 | none=>false
def bX (P:Program) [aS P] [Cl] (al:List (Nat×Nat)) (i:Nat) (o:av) (hist:List HI) (s:St) (K:List HI→St→Prop):Prop :=
 match o.o.op with
 | .call f args=>(∃args' r b,ak P f args' r∧(∀x∈args',ax x=[])∧aC (EP b (ab s.heap)) (args.map (val (get s.env))) args'∧(b=true→ii r=true)∧ax r=[] ∧
   cL o.o.op s .no=true∧dR o.bef ⟨i,bu o.o.op s.env,[],[],false,false⟩ hist=true∧K (⟨i,bu o.o.op s.env,[],[],false,false⟩ :: hist) (s.put o.o.dst r)) ∨
   (∃k ob ob' Sb r,aE P f (args.map (val (get s.env))) [(k,ob)] Sb (fun r' σ'=>r'=r∧σ'=[(k,ob')])∧Sb k∧ab s.heap k=some ob∧ax r=[]∧bo ob'=[]∧k∈bu o.o.op s.env ∧
   cL o.o.op s (.put k ob')=true∧dR o.bef ⟨i,bu o.o.op s.env,[],[k],false,true⟩ hist=true∧K (⟨i,bu o.o.op s.env,[],[k],false,true⟩ :: hist) ((s.eff (.put k ob')).put o.o.dst r)) ∨
   ∃d ob st off len Sb,o.o.dst=some d∧ob.isRec=false∧aE P f (args.map (val (get s.env))) [] Sb (fun r' σ'=>r' = .ms d st off len∧σ'=[(d,ob)]) ∧
   cL o.o.op s .no=true∧dR o.bef ⟨i,bu o.o.op s.env,[d],[d],false,false⟩ hist=true∧jm al o.bef ⟨i,bu o.o.op s.env,[d],[d],false,false⟩=true∧K (⟨i,bu o.o.op s.env,[d],[d],false,false⟩ :: hist) ((s.eff (.new d ob)).put o.o.dst (.ms d st off len))
 | .callv _ _=>False
 | .app t st x y=>(match ba (o.o.dst.getD 0) (.app t st x y) (val (get s.env)) (ab s.heap) with
  | some (v,e)=>cL o.o.op s e=true∧dR o.bef ⟨i,bu o.o.op s.env,ax v++e.ids,e.tch,e.isReb,e.isPut⟩ hist=true ∧
    jm al o.bef ⟨i,bu o.o.op s.env,ax v++e.ids,e.tch,e.isReb,e.isPut⟩=true∧K (⟨i,bu o.o.op s.env,ax v++e.ids,e.tch,e.isReb,e.isPut⟩ :: hist) ((s.eff e).put o.o.dst v)
  | none=>False)∨(∃rows,x = .c .nl∧ba (o.o.dst.getD 0) (.app t st x y) (val (get s.env)) (ab s.heap)=some (.ms (o.o.dst.getD 0) st 0 rows.length,.new (o.o.dst.getD 0) ⟨t,st,rows,false⟩) ∧
   cL o.o.op s .no=true∧dR o.bef ⟨i,bu o.o.op s.env,[],[],false,false⟩ hist=true∧K (⟨i,bu o.o.op s.env,[],[],false,false⟩ :: hist) (s.put o.o.dst (.sl st rows)))
 | .bsl t st rows ps=>if TC o.o.dst=true then (match gY (val (get s.env)) st rows ps with
   | some rs=>cL o.o.op s .no=true∧dR o.bef ⟨i,bu o.o.op s.env,[],[],false,false⟩ hist=true∧K (⟨i,bu o.o.op s.env,[],[],false,false⟩ :: hist) (s.put o.o.dst (.sl st rs))
   | none=>False)
  else match ba (o.o.dst.getD 0) (.bsl t st rows ps) (val (get s.env)) (ab s.heap) with
  | some (v,e)=>cL o.o.op s e=true∧dR o.bef (@HI.mk i (bu o.o.op s.env) (ax v++e.ids) e.tch e.isReb e.isPut (lM o.o.op)) hist=true ∧
    jm al o.bef (@HI.mk i (bu o.o.op s.env) (ax v++e.ids) e.tch e.isReb e.isPut (lM o.o.op))=true∧K ((@HI.mk i (bu o.o.op s.env) (ax v++e.ids) e.tch e.isReb e.isPut (lM o.o.op)) :: hist) ((s.eff e).put o.o.dst v)
  | none=>False
 | op=>match ba (o.o.dst.getD 0) op (val (get s.env)) (ab s.heap) with
  | some (v,e)=>cL o.o.op s e=true∧dR o.bef (@HI.mk i (bu o.o.op s.env) (ax v++e.ids) e.tch e.isReb e.isPut (lM o.o.op)) hist=true ∧
    jm al o.bef (@HI.mk i (bu o.o.op s.env) (ax v++e.ids) e.tch e.isReb e.isPut (lM o.o.op))=true∧K ((@HI.mk i (bu o.o.op s.env) (ax v++e.ids) e.tch e.isReb e.isPut (lM o.o.op)) :: hist) ((s.eff e).put o.o.dst v)
  | none=>False
def di (P:Program) [aS P] [Cl] (al:List (Nat×Nat)):Nat→List av→List HI→St→(List HI→St→Prop)→Prop
 | _,[],hist,s,K=>K hist s
 | i,o :: r,hist,s,K=>match o.o.g with
  | none=>bX P al i o hist s (fun hist' s'=>di P al (i+1) r hist' s' K)
  | some (k,b)=>match get s.env k with
   | .bool t=>(t=b→bX P al i o hist (s.put (some k) (.bool b)) (fun hist' s'=>di P al (i+1) r hist' s' K)) ∧
     (t = !b→di P al (i+1) r (⟨i,[],[],[],false,false⟩ :: hist) ((s.put (some k) (.bool (!b))).put o.o.dst (.tup [])) K)
   | .tup []=>di P al (i+1) r (⟨i,[],[],[],false,false⟩ :: hist) (s.put o.o.dst (.tup [])) K
   | _=>False
def fV (P:Program) [aS P] [Cl] (al:List (Nat×Nat)) (i:Nat) (l:List av) (hist:List HI) (s:St) (K:St→Prop):Prop:=di P al i l hist s fun _ s=>K s
def cy:aK→aK
 | .cut x y=>.seq (cy x) (cy y)
 | .seq x y=>.seq (cy x) (cy y)
 | .cond c t e=>.cond c (cy t) (cy e)
 | .block id x=>.block id (cy x)
 | .loop x=>.loop (cy x)
 | .free ops al dr=>.draw ops al dr
 | .wild ops al dr=>.draw ops al dr
 | .clon _ ops al dr=>.draw ops al dr
 | x=>x
def refine (c:IV) (b:Bool) (s:St):St :=
 match c with
 | .s k=>s.put (some k) (.bool b)
 | .c _=>s
def Q_ (R:List (Nat×av)):List (Nat×av):=R.filter fun t=>R.all fun q=>!t.2.bef.contains q.1
def jQ {α:Type}:List α→(α→Prop)→Prop
 | [],_=>True
 | [x],F=>F x
 | x :: y :: r,F=>F x∧jQ (y :: r) F
def iR (P:Program) [aS P]:Nat→List (Nat×av)→St→(St→Prop)→Prop
 | 0,_,s,K=>K s
 | f+1,R,s,K=>jQ (Q_ R) fun t=>eT P [t.2.o] s fun s'=>iR P f (R.filter fun q=>q.1 != t.1) s' K
def fN (P:Program) [aS P]:aK→St→(IX→St→Prop)→Prop
 | .skip,s,K=>K .nrm s
 | .ret,s,K=>K .ret s
 | .exit id,s,K=>K (.ext id) s
 | .seq x y,s,K=>fN P x s fun e s'=>match e with
  | .nrm=>fN P y s' K
  | e=>K e s'
 | .cut x y,s,K=>fN P x s fun e s'=>match e with
  | .nrm=>∃s'',Wk s' s''∧fN P y s'' K
  | e=>K e s'
 | .cond c t e,s,K=>match val (get s.env) c with
  | .bool b=>(b=true→fN P t (refine c true s) K)∧(b=false→fN P e (refine c false s) K)
  | _=>False
 | .block id x,s,K=>fN P x s fun e s'=>match e with
  | .ext j=>if j=id then K .nrm s' else K (.ext j) s'
  | e=>K e s'
 | .loop x,s,K=>∃I:Nat→St→Prop,(∃n s',I n s'∧Wk s s')∧∀n s,I n s→fN P x s fun e s'=>match e with
  | .nrm=>∃m s'',m<n∧I m s''∧Wk s' s''
  | e=>K e s'
 | .reg ops dr,s,K=>eT P ops s fun s'=>K .nrm ⟨dels dr s'.env,s'.heap⟩
 | .draw ops al dr,s,K=>fV P al 0 ops [] (kills (al.map (·.1)) s) fun s'=>K .nrm ⟨dels dr s'.env,s'.heap⟩
 | .wild ops al dr,s,K=>di P al 0 ops.dropLast [] (kills (al.map (·.1)) s) fun hist s1=>match ops.getLast? with
  | some o=>tS al (ops.length - 1) o hist s1 fun s'=>K .nrm ⟨dels dr s'.env,s'.heap⟩
  | none=>False
 | .clon cs ops al dr,s,K=>@fV P _ ⟨cs⟩ al 0 ops [] (kills (al.map (·.1)) s) fun s'=>K .nrm ⟨dels dr s'.env,s'.heap⟩
 | .free ops _ dr,s,K=>iR P ops.length (ops.zipIdx.map fun p=>(p.2,p.1)) s fun s'=>K .nrm ⟨dels dr s'.env,s'.heap⟩
def od (P:Program) (n:Nat) (ops:Array Oper):List Oper→Option (List aD)
 | []=>some []
 | o :: r=>match jP P n ops o,od P n ops r with
  | some x,some xs=>some (x :: xs)
  | _,_=>none
def A0:List Oper→List (List Nat)→List (List Nat)
 | [],acc=>acc
 | o :: r,acc=>A0 r (acc++[((o.after.toList.filter (Region.binds .any)).flatMap fun e=>e.on :: acc.getD e.on []).eraseDups])
def dH:Code→List (List Nat)
 | .region _ ops _=>[ops.toList.flatMap fun o=>o.dst.toList++o.op.operands.toList.filterMap fun | .tmp t=>some t | _=>none]
 | .seq x y=>dH x++dH y
 | .cond (.tmp t) x y=>[t] :: (dH x++dH y)
 | .cond _ x y=>dH x++dH y
 | .block _ x=>dH x
 | .loop x=>dH x
 | .scope x=>dH x
 | _=>[]
def Jj (ls:List (List Nat)) (k:Nat):Bool:=2≤(ls.filter (·.contains k)).length
def rH:List Nat→Bool
 | []=>true
 | x :: r=>!r.contains x&&rH r
def fS (o:Oper):List Nat:=(o.after.toList.filter (Region.binds .any)).map (·.on)
def Jy (ops:List Oper) (bs:List (List Nat)):Bool :=
 (List.range ops.length).all fun i=>match ops[i]? with
  | none=>false
  | some o=>(fS o).all (fun d=>decide (d<i))&&(bs.getD i []).all (fun d=>(fS o).contains d||(fS o).any fun m=>(bs.getD m []).contains d)
def fh:IV→Bool
 | .s _=>true
 | .c x=>(ax x).isEmpty
def a_ (op:fK):Bool :=
 match op with
 | .load _ x | .cvs x | .cvm x=>fh x
 | .store _ x y | .app _ _ x y | .apps _ x y | .cpy _ x y=>fh x&&fh y
 | .call _ args=>args.all fh
 | .mop _ args=>args.all fh
 | _=>true
def FV (bs:List (List Nat)) (l:List aD):Bool :=
 (List.range l.length).all fun i=>(List.range i).all fun j=>match l[i]?,l[j]? with
  | some x,some y=>(bs.getD i []).contains j ||
    ((match y.dst with | some d=>!(co x).contains d&&x.dst != some d | none=>true)&&(match x.dst with | some d=>!(co y).contains d | none=>true))
  | _,_=>false
def qV (o:aD):Bool:=i7 o.op||(match o.op,o.dst with | .call _ _,some _=>true | _,_=>false)
theorem j4 {o:aD} (h:i7 o.op=true):qV o=true:=by simp [qV,h]
def bQ:Nat→List aD→List (Nat×Nat)
 | _,[]=>[]
 | i,o :: r=>if qV o then (o.dst.getD 0,i) :: bQ (i+1) r else bQ (i+1) r
def iu (l:List Nat):Nat→Nat→Nat
 | 0,k=>k
 | f+1,k=>if l.contains k then iu l f (k+1) else k
def tG (bs:List (List Nat)):Nat→List aD→List (Nat×List aD)×Nat
 | i,[]=>([],i)
 | i,o :: r=>match tG bs (i+1) r with
  | ([],m)=>([(i,[o])],min m (iu (bs.getD i []) i 0))
  | ((k,s) :: t,m)=>if i+1≤m then ((i,[o]) :: (k,s) :: t,min m (iu (bs.getD i []) i 0)) else ((i,o :: s) :: t,min m (iu (bs.getD i []) i 0))
def jr (bs:List (List Nat)) (i n:Nat):List (List Nat):=(List.range n).map fun k=>(bs.getD (i+k) []).filterMap fun d=>if i≤d then some (d - i) else none
def nI (rb:List (List Nat)) (s:List aD) (dr:List Nat):Option aK :=
 if FV rb s&&(bQ 0 s).all (fun p=>p.1<1000)&&rH ((bQ 0 s).map (·.1))&&s.all (fun o=>a_ o.op) then
  some (.draw (s.zipIdx.map fun p=>⟨p.1,rb.getD p.2 []⟩) (bQ 0 s) dr) else none
def xm (bs:List (List Nat)) (i:Nat) (s:List aD) (dr:List Nat):Option aK :=
 match s with
 | [o]=>some (.reg [o] dr)
 | s=>nI (jr bs i s.length) s dr
def p9 (bs:List (List Nat)) (dr:List Nat):List (Nat×List aD)→Option aK
 | []=>some (.reg [] dr)
 | (i,s) :: t=>match t with
  | []=>xm bs i s dr
  | _ :: _=>match xm bs i s [],p9 bs dr t with
   | some x,some y=>some (.seq x y)
   | _,_=>none
def A7 (P:Program) (n:Nat) (ops:Array Oper) (dr:List Nat→List Nat):Option aK :=
 match od P n ops ops.toList with
 | none=>none
 | some l=>if Jy ops.toList (A0 ops.toList []) then p9 (A0 ops.toList []) (dr (l.filterMap (·.dst))) (tG (A0 ops.toList []) 0 l).1 else none
def comp (P:Program) (n:Nat) (sh:List (List Nat)):Code→Option aK
 | .skip=>some .skip
 | .ret=>some .ret
 | .exit id=>some (.exit id)
 | .label _=>some .skip
 | .seq x y=>match comp P n sh x,comp P n sh y with
  | some x,some y=>some (.seq x y)
  | _,_=>none
 | .cond c x y=>match cV c,comp P n sh x,comp P n sh y with
  | some c,some x,some y=>some (.cond c x y)
  | _,_,_=>none
 | .block id x=>(comp P n sh x).map (.block id)
 | .loop x=>(comp P n sh x).map .loop
 | .scope x=>comp P n sh x
 | .region _ ops false=>match od P n ops ops.toList with
  | some l=>some (.reg l ((l.filterMap (·.dst)).filter fun k=>!Jj sh k))
  | none=>none
 | .region _ ops true=>A7 P n ops (·.filter fun k=>!Jj sh k)
 | _=>none
inductive iw where
 | tmp (k:Nat)
 | cell (k:Nat) (n:Option Nat)
 deriving Inhabited
structure aF where
 n:Nat
 np:Nat
 res:List iw
 body:aK
 deriving Inhabited
def sF (P:Program):List ResultVar→Option (List iw)
 | []=>some []
 | .tmp t :: r=>if t<1000000 then (sF P r).map (.tmp t :: ·) else none
 | .cell a t :: r=>match jK P t,sF P r with
  | some n,some l=>if a<1000000 then some (.cell a n :: l) else none
  | _,_=>none
def pl:List ResultVar→List Nat
 | []=>[]
 | .tmp t :: r=>t :: pl r
 | .cell a _ :: r=>a :: pl r
def aq (P:Program) (f:FuncId):Option aF :=
 match P.funcs[f]? with
 | none=>none
 | some fn=>match fn.body with
  | none=>none
  | some body=>match comp P fn.ntmps (pl fn.results.toList :: dH body) body,sF P fn.results.toList with
   | some b,some rs=>if fn.params.size+fn.nfree≤fn.ntmps∧fn.ntmps≤1000000 then some ⟨fn.ntmps,fn.params.size+fn.nfree,rs,b⟩ else none
   | _,_=>none
section
variable {P:Program} [aS P] {c:i3} [CT c P] {a:Act} {w:World} {s:St} {o:Oper} {io:aD} {ops:Array Oper} {n:Nat}
theorem j8 (hc:jP P n ops o=some io):gu P o.op=some io.op∧io.dst=o.dst∧(∀k,o.dst=some k→k<n) ∧
  ((o.guard=none∧io.g=none)∨∃j b k,o.guard=some (j,b)∧(ops[j]?).bind (·.dst)=some k∧io.g=some (k,b)):=by
 unfold jP at hc
 split at hc
 case h_2=>cases hc
 rename_i op h1
 have hd:(match o.dst with | some d=>decide (d<n) | none=>true)=true→∀k,o.dst=some k→k<n:=fun h k hk=>by rw [hk] at h;simpa using h
 split at hc
 ·rename_i h2 h3
  cases hc
  exact ⟨h1,rfl,hd h2,.inl ⟨h3,rfl⟩⟩
 ·rename_i j b h2 h3
  split at hc
  case h_2=>cases hc
  rename_i k hk
  cases hc
  exact ⟨h1,rfl,hd h2,.inr ⟨j,b,k,h3,hk,rfl⟩⟩
 ·cases hc
theorem eY {f:FuncId} (hb:aY P f=true) (args:Array Value):(callFunc f args).run P w = .ok (.enter f args) w:=by
 unfold aY at hb
 split at hb
 case h_2=>cases hb
 rename_i fn hf
 simp only [dZ,bne_iff_ne] at hb
 obtain ⟨h1,h2⟩:=hb
 have h3:fn.body.isNone=false:=by cases h:fn.body<;>simp_all
 have h4:¬fn.body=none:=fun hn=>by simp [hn] at h1
 simp [callFunc,hf,h2,h4]
theorem iD {f:FuncId} {cargs:List Value} {args:List AV} {d:Option Nat} (hd:∀k,d=some k→k<c.n) {K:St→Prop} {bl:Nat→Option Nat} (hs:aB c bl (get s.env) (ab s.heap) a w)
  (ha:aC (aO bl (aT bl c.MF (ab s.heap)) w) cargs args) (h:lI P f args d s K) :
  Calls P f cargs.toArray w fun e w'=>∃v,e = .returned v∧∃s',K s'∧bG c s' (a.put d v) w':=by
 rcases h with ⟨args',r,b,hp,hid,hco,hf,hk⟩ | ⟨σ0,Sb,Post,ks,hp,hσ,hks,hk⟩
 ·refine (qE hs hp ha hid b hco hf).mono fun e w' ⟨v,he,hs',hv⟩=>⟨v,he,s.put d r,hk,jD hs' d hd hv (fun _=>rfl) (fun _=>rfl)⟩
 ·refine (o6 hs hp ha hσ ks hks).mono fun e w' ⟨v,r,σ',bl2,he,hP,hs',hv⟩=>?_
  obtain ⟨s',h1,h2,h3⟩:=hk r σ' hP
  exact ⟨v,he,s'.put d r,h3,jD hs' d hd hv h1 h2⟩
theorem ji {f:FuncId} {cargs:List Value} {args:List AV} {d:Option Nat} (hd:∀k,d=some k→k<c.n) {K:St→Prop} {bl:Nat→Option Nat} (hs:aB c bl (get s.env) (ab s.heap) a w)
  (ha:aC (aO bl (aT bl c.MF (ab s.heap)) w) cargs args) (h:dB P f args d s K) :
  Calls P f cargs.toArray w fun e w'=>∃v,e = .returned v∧∃s',K s'∧bG c s' (a.put d v) w':=by
 rcases h with h | ⟨fs,h⟩ | ⟨s',args',hw,h⟩
 ·exact iD hd hs ha h
 ·obtain ⟨h1,h2⟩:=aB.frzs fs s hs
  exact iD hd h1 (ha.mapRight fun v x hv=>h2 v x hv) h
 ·obtain ⟨bl',h1,h2⟩:=hw c a w bl cargs hs ha
  exact iD hd h1 h2 h
theorem fI {f:FuncId} {args:Array Value} {K:Act→World→Prop} {Q:Exit→Act→World→Prop} (hr:(execOp a.eval o).run P w = .ok (.enter f args) w)
  (h:Calls P f args w fun e w'=>∃v,e = .returned v∧K (a.put o.dst v) w'):o.wp P a w K Q:=by
 unfold Oper.wp
 rw [hr]
 simp only [Oper.upon]
 refine h.mono fun e w' ⟨v,he,hk⟩=>?_
 subst he
 exact hk
theorem lj {v:AV} {e:aM} {K:Act→World→Prop} {Q:Exit→Act→World→Prop} {g:Nat→AV} {h:Nat→Option ac} (hok:aI P c o a w g h v e)
  (hk:∀r w' bl',aB c bl' (e.env g) (e.hp h) a w'→aO bl' (aT bl' c.MF (e.hp h)) w' r v→K (a.put o.dst r) w'):o.wp P a w K Q:=by
 obtain ⟨r,w',bl',hr,h1,h2⟩:=hok
 unfold Oper.wp
 rcases hr with hr | ⟨hr,rfl⟩
 ·rw [hr];exact hk r w' bl' h1 h2
 ·rw [hr];exact hk undef w' bl' h1 h2
theorem gj {bl:Nat→Option Nat} {g:Nat→AV} {h:Nat→Option ac} (hs:aB c bl g h a w) {cs:Array Operand} {vs:List IV} (hv:A8 cs.toList=some vs):aC (aO bl (aT bl c.MF h) w) (cs.map a.eval).toList (vs.map (val g)):=by
 rw [Array.toList_map]
 exact qY hs hv
theorem sE {oo:Op} {f:FuncId} {args:List IV} (h:gu P oo=some (.call f args)):∃cl,oo = .call cl∧cl.callee = .value (.func f)∧aY P f=true∧A8 cl.args.toList=some args:=by
 cases oo<;>simp only [gu] at h
 case call cl =>
  unfold p6 at h
  split at h
  ·rename_i f' hcl
   split at h
   case isFalse=>obtain ⟨_,_,_,_,_,_,_,_,_,_,_,_,q⟩:=g_ h;cases q
   rename_i hb
   simp only [cj] at h
   obtain ⟨vs,hv,h⟩:=h
   cases h
   exact ⟨cl,rfl,hcl,hb,hv⟩
  all_goals
   exfalso
   repeat' (split at h)
   all_goals first
    | (cases h;done)
    | (obtain ⟨_,_,_,_,_,_,_,_,_,_,_,_,q⟩:=g_ h;cases q;done)
    | (simp only [cj] at h;obtain ⟨_,_,h⟩:=h;cases h)
 case binOp =>
  split at h
  ·unfold xk at h;repeat' (split at h)
   all_goals cases h
  ·cases h
 case convert =>
  split at h
  ·unfold p8 at h
   repeat' (split at h)
   all_goals cases h
  ·cases h
 case makeFunc fn first caps =>
  cases fn<;>simp only [gu] at h<;>try (cases h;done)
  split at h
  ·simp only [cj] at h;obtain ⟨_,_,h⟩:=h;cases h
  ·cases h
 all_goals
  exfalso
  repeat' (split at h)
  all_goals first
   | (cases h;done)
   | (simp only [cj] at h;obtain ⟨_,_,h⟩:=h;cases h;done)
   | (simp_all;done)
theorem xl {oo:Op} {f:IV} {args:List IV} (h:gu P oo=some (.callv f args)):∃cl t,oo = .call cl∧cl.callee = .value (.tmp t)∧f = .s t∧A8 cl.args.toList=some args:=by
 cases oo<;>simp only [gu] at h
 case call cl =>
  unfold p6 at h
  split at h
  case h_2 =>
   rename_i t hcl
   split at h
   case isFalse=>cases h
   simp only [cj] at h
   obtain ⟨vs,hv,h⟩:=h
   cases h
   exact ⟨cl,t,rfl,hcl,rfl,hv⟩
  all_goals
   exfalso
   repeat' (split at h)
   all_goals first
    | (cases h;done)
    | (obtain ⟨_,_,_,_,_,_,_,_,_,_,_,_,q⟩:=g_ h;cases q;done)
    | (simp only [cj] at h;obtain ⟨_,_,h⟩:=h;cases h)
 case binOp =>
  split at h
  ·unfold xk at h;repeat' (split at h)
   all_goals cases h
  ·cases h
 case convert =>
  split at h
  ·unfold p8 at h
   repeat' (split at h)
   all_goals cases h
  ·cases h
 case makeFunc fn first caps =>
  cases fn<;>simp only [gu] at h<;>try (cases h;done)
  split at h
  ·simp only [cj] at h;obtain ⟨_,_,h⟩:=h;cases h
  ·cases h
 all_goals
  exfalso
  repeat' (split at h)
  all_goals first
   | (cases h;done)
   | (simp only [cj] at h;obtain ⟨_,_,h⟩:=h;cases h;done)
   | (simp_all;done)
theorem F2 {oo:Op} {b:Bool} {x:IV} (h:gu P oo=some (.snl b x)):∃op t y z t' e,oo = .binOp op t y z t'∧P.underlying t=some (.slice e)∧((op = .eql∧b=false)∨(op = .neq∧b=true))∧cV y=some x∧cV z=some (.c .nl):=by
 cases oo<;>simp only [gu] at h
 case binOp op t y z t' =>
  split at h
  case h_2=>cases h
  rename_i yv zv h1 h2
  unfold xk at h
  split at h
  case h_7 =>
   rename_i e ht
   split at h
   ·cases h;exact ⟨_,_,_,_,_,_,rfl,ht,.inl ⟨rfl,rfl⟩,h1,h2⟩
   ·cases h;exact ⟨_,_,_,_,_,_,rfl,ht,.inr ⟨rfl,rfl⟩,h1,h2⟩
   ·cases h
  all_goals
   repeat' (split at h)
   all_goals cases h
 case call cl =>
  unfold p6 at h
  exfalso
  repeat' (split at h)
  all_goals first
   | (cases h;done)
   | (obtain ⟨_,_,_,_,_,_,_,_,_,_,_,_,q⟩:=g_ h;cases q;done)
   | (simp only [cj] at h;obtain ⟨_,_,h⟩:=h;cases h)
 case convert =>
  split at h
  ·unfold p8 at h
   repeat' (split at h)
   all_goals cases h
  ·cases h
 case makeFunc fn first caps =>
  cases fn<;>simp only [gu] at h<;>try (cases h;done)
  split at h
  ·simp only [cj] at h;obtain ⟨_,_,h⟩:=h;cases h
  ·cases h
 all_goals
  exfalso
  repeat' (split at h)
  all_goals first
   | (cases h;done)
   | (simp only [cj] at h;obtain ⟨_,_,h⟩:=h;cases h;done)
   | (simp_all;done)
theorem F1 {oo:Op} {e:TypeId} {st:Nat} {xv yv:IV} (h:gu P oo=some (.app e st xv yv)):∃cl t t' x y,oo = .call cl∧cl.callee = .builtin .append∧cl.argTypes = #[t,t']∧cl.args = #[x,y]∧gZ P t=some (e,st) ∧
  (∃e',P.underlying t'=some (.slice e'))∧cV x=some xv∧cV y=some yv:=by
 cases oo<;>simp only [gu] at h
 case call cl =>
  unfold p6 at h
  split at h
  case h_6 =>
   rename_i hcl
   split at h
   ·rename_i t t' x y h1 h2
    split at h
    ·rename_i h3 h4 h5 h6
     cases h
     exact ⟨cl,t,t',x,y,rfl,hcl,n_ h1,n_ h2,h3,⟨_,h4⟩,h5,h6⟩
    ·split at h<;>cases h
    ·cases h
   ·cases h
  all_goals
   exfalso
   repeat' (split at h)
   all_goals first
    | (cases h;done)
    | (obtain ⟨_,_,_,_,_,_,_,_,_,_,_,_,q⟩:=g_ h;cases q;done)
    | (simp only [cj] at h;obtain ⟨_,_,h⟩:=h;cases h)
 case convert =>
  split at h
  ·unfold p8 at h
   repeat' (split at h)
   all_goals cases h
  ·cases h
 case makeFunc fn first caps =>
  cases fn<;>simp only [gu] at h<;>try (cases h;done)
  split at h
  ·simp only [cj] at h;obtain ⟨_,_,h⟩:=h;cases h
  ·cases h
 case binOp =>
  split at h
  ·unfold xk at h
   repeat' (split at h)
   all_goals cases h
  ·cases h
 all_goals
  exfalso
  repeat' (split at h)
  all_goals first
   | (cases h;done)
   | (simp only [cj] at h;obtain ⟨_,_,h⟩:=h;cases h;done)
   | (simp_all;done)
theorem IRel.noC {M:Nat→Prop} {v:Value} {x:AV} (h:IRel M w v x) (i:Nat):mC i x=false:=by cases h<;>rfl
theorem FW {bl:Nat→Option Nat} {g:Nat→AV} {h:Nat→Option ac} (s:aB c bl g h a w) {e:TypeId} {st:Nat} {xv yv:IV} (hc:gu P o.op=some (.app e st xv yv)) {d:Nat} {x:AV} {ef:aM} (he:jN d e st (val g xv) (iV st h (val g yv)) h=some (x,ef))
  (hnew:h d=none∧bO d g h∧(d<1000∨1267650600228229401496703205376≤d)):aI P c o a w g h x ef:=by
 obtain ⟨cl,t,t',xo,yo,ho,h1,h2,h3,h4,h5,h6,h7⟩:=F1 hc
 unfold jN at he
 split at he
 case h_1=>cases he
 rename_i ys hys
 split at he
 case isFalse=>cases he
 rename_i hbig
 obtain ⟨vs,hs,hy⟩:=pw (P:=P) s h7 hys (q:=true) (fun _=>rfl)
 have hne:ys≠[]:=fun q=>by rw [q] at hbig;simp at hbig
 split at he
 ·rename_i hv
  cases he
  refine o7 (q:=true) s ho h1 h2 h3 h4 (.inl h5) h6 hv hs hy hbig.1 hnew.1 hnew.2.1 hnew.2.2 (fun _=>⟨hne,fun r hr x hx=>?_⟩)
  cases hrq:lT h (val g yv) with
  | false =>
   obtain ⟨vs,_,hy⟩:=pw (P:=P) s h7 hys (q:=false) (fun q=>by rw [hrq] at q;exact q)
   obtain ⟨i,hi⟩:=List.getElem?_of_mem hr
   obtain ⟨j,hj⟩:=List.getElem?_of_mem hx
   obtain ⟨v,_,hv⟩:=hy.2.2 i j r x hi hj
   exact IRel.noC hv d
  | true =>
   generalize val g yv=Y at hrq hys
   cases Y<;>simp only [lT] at hrq<;>try cases hrq
   rename_i id st' off len
   simp only [iV] at hys
   split at hys
   case h_2=>cases hys
   rename_i ob hob
   split at hys
   case isFalse=>cases hys
   cases hys
   rw [hob] at hrq
   exact hnew.2.1.2 id ob hob hrq r (List.mem_of_mem_drop (List.mem_of_mem_take hr)) x hx
 ·rename_i id st' off len hv
  split at he
  case h_2=>cases he
  rename_i ob hob
  split at he
  case isFalse=>cases he
  rename_i hcond
  obtain ⟨rfl,q2,q3,rfl,q6,q7,q8,q9,q10⟩:=hcond
  cases he
  exact o8 (q:=true) s ho h1 h2 h3 h4 (.inl h5) h6 hv hob q2 q3 q6 q8 q9 hs (fun _=>rfl) hy hbig.1 q7 (fun _=>⟨fun q=>hne (List.append_eq_nil_iff.1 q).2,qB q10⟩)
 ·cases he
theorem yc (hc:jP P n ops o=some io) (hn:c.n=n) {K:St→Prop} (h:fq P io s K) (hs:bG c s a w) (Q:Exit→Act→World→Prop) :
  o.wp P a w (fun a' w'=>∃s',K s'∧bG c s' a' w') Q:=by
 obtain ⟨h1,h2,h3,_⟩:=j8 hc
 obtain ⟨bl,hs⟩:=hs
 have hd:∀k,io.dst=some k→k<c.n:=fun k hk=>by rw [hn];exact h3 k (h2▸hk)
 have plain:∀{s:St} {bl:Nat→Option Nat},aB c bl (get s.env) (ab s.heap) a w→(i7 io.op=true→ab s.heap (io.dst.getD 0)=none∧bO (io.dst.getD 0) (get s.env) (ab s.heap)∧(io.dst.getD 0<1000∨1267650600228229401496703205376≤io.dst.getD 0)) →
   (match ba (io.dst.getD 0) io.op (val (get s.env)) (ab s.heap) with
    | some (v,e)=>K ((s.eff e).put io.dst v)
    | none=>False)→o.wp P a w (fun a' w'=>∃s',K s'∧bG c s' a' w') Q:=by
  intro s bl hs hnew hm
  split at hm
  case h_2=>exact hm.elim
  rename_i v e he
  refine lj (ug hs h1 he hnew) (fun r w' bl' q1 q2=>⟨_,hm,?_⟩)
  rw [← h2]
  exact jD q1 io.dst hd q2 (rh s e) (oH s e)
 unfold fq at h
 split at h
 ·rename_i f args hop
  rw [hop] at h1
  obtain ⟨cl,hoo,hcl,hb,hv⟩:=sE h1
  refine fI (f:=f) (args:=cl.args.map a.eval) ?_ ?_
  ·have:=eY (w:=w) hb (cl.args.map a.eval)
   simp [execOp,hoo,resolve,hcl,Act.eval,Deferred.ofValue,invoke,this]
  ·have:=ji hd hs (gj hs hv) h
   simp only [Array.toArray_toList] at this
   rw [← h2]
   exact this
 ·rename_i f args hop
  rw [hop] at h1
  obtain ⟨cl,t,hoo,hcl,rfl,hv⟩:=xl h1
  split at h
  case h_2=>exact h.elim
  rename_i f caps hval
  have hf:=hs.env t
  simp only [val] at hval
  rw [hval] at hf
  obtain ⟨cs,hf1,hf2⟩:=hf
  have hev:a.eval (.tmp t) = .func (.func (Jg f)) (cs.take (Gr f)).toArray (cs.drop (Gr f)).toArray:=by
   rw [(rU (a:=a) (k:=t) (fun b hb=>by rw [hb] at hf1;cases hf1)).2] at hf1
   exact hf1
  have lift:∀{vs:List Value} {xs:List AV},aC (cO bl (aT bl c.MF (ab s.heap)) w) vs xs→aC (aO bl (aT bl c.MF (ab s.heap)) w) vs xs:=fun hr=>hr.mono fun _ x _ hr=>(show aO bl (aT bl c.MF (ab s.heap)) w _ x from by
    cases x<;>first | exact hr | trivial | (exfalso;simp only [cO] at hr;cases hr))
  by_cases hlt:f<4000000
  ·rw [bz hlt] at h
   have eI:Jg f=f:=bz hlt
   have eK:Gr f=0:=bz hlt
   rw [eI,eK] at hev
   simp only [dN,List.drop_zero] at hev
   obtain ⟨hb,h⟩:=h
   refine fI (f:=f) (args:=cl.args.map a.eval++cs.toArray) ?_ ?_
   ·have:=eY (w:=w) hb (cl.args.map a.eval++cs.toArray)
    simp [execOp,hoo,resolve,hcl,hev,Deferred.ofValue,invoke,this]
   ·have hargs:=(gj hs hv).append (lift hf2)
    have:=ji hd hs hargs h
    have e1:((cl.args.map a.eval).toList++cs).toArray=cl.args.map a.eval++cs.toArray:=by apply Array.toList_inj.1;simp
    rw [e1] at this
    rw [← h2]
    exact this
  ·rw [aJ hlt] at h
   have eI:Jg f=f - 4000000:=aJ hlt
   have eK:Gr f=1:=aJ hlt
   rw [eI,eK] at hev
   obtain ⟨hb,h⟩:=h
   refine fI (f:=f - 4000000) (args:=(cs.take 1).toArray++cl.args.map a.eval++(cs.drop 1).toArray) ?_ ?_
   ·generalize (cs.take 1).toArray=A1 at hev ⊢
    generalize (cs.drop 1).toArray=A2 at hev ⊢
    have:=eY (w:=w) hb (A1++cl.args.map a.eval++A2)
    rw [Array.append_assoc] at this
    simp [execOp,hoo,resolve,hcl,hev,Deferred.ofValue,invoke,this]
   ·have hargs:=((lift (hf2.take 1)).append (gj hs hv)).append (lift (hf2.drop 1))
    have:=ji hd hs hargs h
    have e1:((cs.take 1++(cl.args.map a.eval).toList)++cs.drop 1).toArray=(cs.take 1).toArray++cl.args.map a.eval++(cs.drop 1).toArray:=by apply Array.toList_inj.1;simp
    rw [e1] at this
    rw [← h2]
    exact this
 ·rename_i t st rows ps hop
  obtain ⟨hlt,h⟩:=h
  have go:∀{s:St} {bl:Nat→Option Nat},aB c bl (get s.env) (ab s.heap) a w→ta io s K→o.wp P a w (fun a' w'=>∃s',K s'∧bG c s' a' w') Q:=fun {s bl} hs hm=>by
   obtain ⟨bl',hk⟩:=bG.kill (i:=io.dst.getD 0) ⟨bl,hs⟩
   exact plain hk (fun _=>⟨(bT s _).1,(bT s _).2,.inl hlt⟩) hm
  split at h
  ·rename_i v e he
   refine go hs ?_
   unfold ta
   have e2:ba (io.dst.getD 0) io.op (val (get (s.kill (io.dst.getD 0)).env)) (ab (s.kill (io.dst.getD 0)).heap)=some (v,e):=by
    rw [hop]
    simp only [ba]
    unfold ui at he
    split at he
    ·rename_i hr
     rw [hr]
     exact he
    ·cases he
   rw [e2]
   exact h
  ·obtain ⟨s',hw,h⟩:=h
   obtain ⟨bl',hs'⟩:=hw c a w ⟨bl,hs⟩
   exact go hs' h
 ·rename_i t st x y hop
  obtain ⟨hlt,h⟩:=h
  obtain ⟨bl',hk⟩:=bG.kill (i:=io.dst.getD 0) ⟨bl,hs⟩
  have hR:(match jN (io.dst.getD 0) t st (val (get (s.kill (io.dst.getD 0)).env) x) (iV st (ab (s.kill (io.dst.getD 0)).heap) (val (get (s.kill (io.dst.getD 0)).env) y)) (ab (s.kill (io.dst.getD 0)).heap) with
   | some (v,e)=>K (((s.kill (io.dst.getD 0)).eff e).put io.dst v)
   | none=>False)→o.wp P a w (fun a' w'=>∃s',K s'∧bG c s' a' w') Q:=fun hm=>by
   split at hm
   case h_2=>exact hm.elim
   rename_i v e he
   refine lj (FW hk (hop▸h1) he ⟨(bT s _).1,(bT s _).2,.inl hlt⟩) (fun r w' bl' q1 q2=>⟨_,hm,?_⟩)
   rw [← h2]
   exact jD q1 io.dst hd q2 (rh _ e) (oH _ e)
  unfold jU at h
  split at h
  ·exact hR h
  ·split at h
   ·exact hR h
   ·rw [← hop] at h
    exact plain hk (fun _=>⟨(bT s _).1,(bT s _).2,.inl hlt⟩) h
 ·rename_i b x hop
  obtain ⟨op,t,y,z,t',e,hoo,ht,hb,hx,hy⟩:=F2 (hop▸h1)
  have kk:∀{v:AV},aI P c o a w (get s.env) (ab s.heap) v .no→K (s.put io.dst v)→o.wp P a w (fun a' w'=>∃s',K s'∧bG c s' a' w') Q:=fun {v} hok hk=>by
   refine lj hok (fun r w' bl' q1 q2=>⟨_,hk,?_⟩)
   rw [← h2]
   exact jD q1 io.dst hd q2 (fun _=>rfl) (fun _=>rfl)
  split at h
  ·rename_i st hv
   have h5:=aG hs hx
   rw [hv] at h5
   have hy2:a.eval z = .slice none 0 0:=(aG hs hy).nl
   generalize hu:a.eval y=u at h5
   have h6:=h5.sl
   have fin:∀{ad n cap},a.eval y = .slice ad n cap→o.wp P a w (fun a' w'=>∃s',K s'∧bG c s' a' w') Q:=fun {ad n cap} h7=>by
    refine kk (v:=.bool (if ad.isNone then !b else b)) (aI.pure hs (r:=.bool _) (wv hoo ht hb h7 hy2) (gA _)) ?_
    cases ad
    ·exact h.2
    ·exact h.1
   cases h6<;>exact fin hu
  ·split at h
   case h_2=>exact h.elim
   rename_i v hv
   exact kk (uW hs hoo ht hb hx hy hv) h
 ·split at h
  ·rename_i hal
   obtain ⟨hlt,h⟩:=h
   obtain ⟨bl',hk⟩:=bG.kill (i:=io.dst.getD 0) ⟨bl,hs⟩
   exact plain hk (fun _=>⟨(bT s _).1,(bT s _).2,.inl hlt⟩) h
  ·rename_i hal
   exact plain hs (fun h=>absurd h hal) h
theorem j0 {bl:Nat→Option Nat} {M:Nat→Prop} {j k:Nat} (hj:(ops[j]?).bind (·.dst)=some k) (hk:aO bl M w (tv a k) (.tup [])):yielded ops a.tmps j=none:=by
 obtain ⟨cs,h1,h2⟩:=hk
 rw [(rU (a:=a) (k:=k) (fun b hb=>by rw [hb] at h1;cases h1)).2] at h1
 have hcs:cs=[]:=by cases cs with | nil=>rfl | cons=>exact h2.elim
 subst hcs
 have:∀b,a.tmps[k]?≠some (.bool b):=fun b hb=>by
  rw [i2,hb] at h1
  cases h1
 unfold yielded
 rw [hj]
 show (match a.tmps[k]? with | some (.bool b)=>some b | _=>none)=none
 generalize a.tmps[k]? = x at this
 cases x with
 | none=>rfl
 | some v=>cases v<;>first | rfl | exact absurd rfl (this _)
theorem kc (hn:c.n=n) (Q:Exit→Act→World→Prop) {o:Oper} {io:aD} (h1:jP P n ops o=some io) {il:List aD} {K:St→Prop} {KK:Act→World→Prop} {s:St} {a:Act} {w:World} (h:eT P (io :: il) s K) (hs:bG c s a w)
  (hK:∀s' a' w',eT P il s' K→bG c s' a' w'→KK a' w'):if Region.wanted o (yielded ops a.tmps) then o.wp P a w KK Q∨(o.asks P a w∧LetsOut Q) else KK (a.put o.dst undef) w:=by
 obtain ⟨_,hdst,hdn,hg⟩:=j8 h1
 have run:∀{s:St},fq P io s (fun s'=>eT P il s' K)→bG c s a w→o.wp P a w KK Q:=fun {s} h hs =>
  Oper.wp_mono (fun a' w' ⟨s',h3,h4⟩=>hK s' a' w' h3 h4) (yc h1 hn h hs Q)
 rcases hg with ⟨g1,g2⟩ | ⟨j,b,k,g1,g2,g3⟩
 ·rw [bz (by simp [Region.wanted,g1])]
  simp only [eT,g2] at h
  exact .inl (run h hs)
 ·simp only [eT,g3] at h
  split at h
  case h_3=>exact h.elim
  case h_2 =>
   rename_i hv
   obtain ⟨bl,hsb⟩:=hs
   have hk:=hsb.env k
   rw [hv] at hk
   have hy:=j0 (ops:=ops) g2 hk
   rw [aJ (by simp [Region.wanted,g1,hy])]
   refine hK _ _ w h ?_
   rw [← hdst]
   exact tF ⟨bl,hsb⟩ io.dst (fun q hq=>by rw [hn];exact hdn q (hdst▸hq)) ()
  rename_i t hv
  obtain ⟨bl,hsb⟩:=hs
  have hk:=hsb.env k
  rw [hv] at hk
  have hkv:=hk.bool
  rw [(rU (a:=a) (k:=k) (fun b hb=>by rw [hb] at hkv;cases hkv)).2] at hkv
  have hkn:k<a.tmps.size:=by
   rcases bK k a.tmps.size with hlt | hge
   ·exact hlt
   ·rw [i2,Array.getElem?_eq_none hge] at hkv
    cases hkv
  have hy:yielded ops a.tmps j=some t:=by
   have:a.tmps[k]? = some (.bool t):=by
    rw [i2,lq hkn] at hkv
    rw [lq hkn]
    simpa using hkv
   simp [yielded,g2,this]
  have hput:∀q:Bool,t=q→bG c (s.put (some k) (.bool q)) a w:=fun q hq=>by
   refine ⟨bl,hsb.congr (fun i=>?_) (fun i=>rfl)⟩
   simp only [St.put,get,iA]
   by_cases hik:k=i
   ·subst hik;simp [hv,hq]
   ·have hik':¬i=k:=fun e=>hik e.symm
    simp [hik,hik']
  by_cases htb:t=b
  ·rw [bz (by simp [Region.wanted,g1,hy,htb])]
   exact .inl (run (h.1 htb) (hput b htb))
  ·have htb':t = !b:=by cases t<;>cases b<;>simp_all
   rw [aJ (by simp [Region.wanted,g1,hy,htb])]
   refine hK _ _ w (h.2 htb') ?_
   rw [← hdst]
   exact tF (hput _ htb') io.dst (fun q hq=>by rw [hn];exact hdn q (hdst▸hq)) ()
theorem oO (hn:c.n=n) (Q:Exit→Act→World→Prop):∀(l:List Oper) (il:List aD),od P n ops l=some il→∀(s:St) (K:St→Prop) (a:Act) (w:World),eT P il s K→bG c s a w →
  (∀s' a' w',K s'→bG c s' a' w'→Q .normal a' w')→wpList P ops Q l a w
 | [],il,hc,s,K,a,w,h,hs,hQ=>by
  simp only [od,bH] at hc
  subst hc
  exact hQ s a w h hs
 | o :: r,il,hc,s,K,a,w,h,hs,hQ=>by
  simp only [od] at hc
  split at hc
  case h_2=>cases hc
  rename_i io il' h1 h2
  cases hc
  unfold wpList
  exact kc hn Q h1 h hs fun s' a' w' h3 h4=>oO hn Q r il' h2 s' K a' w' h3 h4 hQ
end
section
variable {g g':Nat→AV} {h h':Nat→Option ac}
theorem gq {v:IV} (hg:∀k∈aH v,g' k=g k):val g' v=val g v:=by
 cases v with
 | s k=>exact hg k (by simp [aH])
 | c x=>rfl
theorem iN {l:List IV} (hg:∀v∈l,∀k∈aH v,g' k=g k):l.map (val g')=l.map (val g):=List.map_congr_left fun v hv=>gq (hg v hv)
theorem yz {v:Option IV} (hg:∀x,v=some x→∀k∈aH x,g' k=g k):v.map (val g')=v.map (val g):=by
 cases v with
 | none=>rfl
 | some x=>simp only [cK];rw [gq (hg x rfl)]
theorem gG (id st off len:Nat):ax (.ms id st off len)=[id]:=rfl
theorem rn (id st row off:Nat):ax (.mp id st row off)=[id]:=rfl
theorem sk {n:Option Nat} {p:AV} (hh:∀id∈ax p,h' id=h id):f8 n p h'=f8 n p h:=by
 cases p<;>try rfl
 simp only [f8]
 rw [hh _ (by simp [rn])]
theorem qU {n:Nat} {p x:AV} (hh:∀id∈ax p,h' id=h id):fD n p x h'=fD n p x h:=by
 unfold fD
 split
 ·rename_i id st row off cs h1
  rw [hh id (by simp [rn])]
 ·rfl
theorem js {st:Nat} {x:AV} (hh:∀id∈ax x,h' id=h id):dU st h' x=dU st h x:=by
 cases x<;>try rfl
 simp only [dU]
 rw [hh _ (by simp [gG])]
theorem nX {d:Nat} {t:TypeId} {st:Nat} {x:AV} {src:Option (List (List AV))} (hh:∀id∈ax x,h' id=h id):iX d t st x src h'=iX d t st x src h:=by
 unfold iX
 cases src with
 | none=>rfl
 | some ys =>
  cases x<;>try rfl
  simp only
  rw [hh _ (by simp [gG])]
theorem t_ {st:Nat} {x:AV} {src:Option (List (List AV))} (hh:∀id∈ax x,h' id=h id):nh st x src h'=nh st x src h:=by
 unfold nh
 cases src with
 | none=>rfl
 | some ys =>
  cases x<;>try rfl
  simp only
  rw [hh _ (by simp [gG])]
theorem uc {x:AV} (hh:∀id∈ax x,h' id=h id):qQ x h'=qQ x h:=by
 unfold qQ
 cases x<;>try rfl
 simp only
 rw [hh _ (by simp [gG])]
theorem ud {d:Nat} {k:MK} {xs:List AV} (hh:∀x∈xs,∀id∈ax x,h' id=h id):e_ d k xs h'=e_ d k xs h:=by
 have hm:∀{id:Nat} {b:Bool} {r:List AV},xs = .mm id b :: r→h' id=h id:=fun {id b r} hx=>hh (.mm id b) (by rw [hx];simp) id (by simp [ax,bU,be,bt])
 unfold e_
 split<;>first | rfl | (rw [hm rfl])
theorem qS {ps:List (Nat×Nat×IV)} (hg:∀p∈ps,∀k∈aH p.2.2,g' k=g k):∀cells,fY (val g') cells ps=fY (val g) cells ps:=by
 induction ps with
 | nil=>intro cells;rfl
 | cons p r ih =>
  intro cells
  obtain ⟨off,n,v⟩:=p
  have hv:val g' v=val g v:=gq (hg (off,n,v) (by simp))
  simp only [fY,hv]
  cases dJ (val g v) with
  | none=>rfl
  | some cs=>simp only [ih (fun p hp=>hg p (by simp [hp]))]
theorem sA {st:Nat} {ps:List (Nat×IV)} (hg:∀p∈ps,∀k∈aH p.2,g' k=g k):∀rows,gY (val g') st rows ps=gY (val g) st rows ps:=by
 induction ps with
 | nil=>intro cells;rfl
 | cons p r ih =>
  intro cells
  obtain ⟨off,v⟩:=p
  have hv:val g' v=val g v:=gq (hg (off,v) (by simp))
  simp only [gY,hv]
  cases dJ (val g v) with
  | none=>rfl
  | some cs=>simp only [ih (fun p hp=>hg p (by simp [hp]))]
theorem qT {st:Nat} {ps:List (Nat×IV)} (hg:∀p∈ps,∀k∈aH p.2,g' k=g k):∀rows,eQ (val g') st rows ps=eQ (val g) st rows ps:=by
 induction ps with
 | nil=>intro cells;rfl
 | cons p r ih =>
  intro cells
  obtain ⟨off,v⟩:=p
  have hv:val g' v=val g v:=gq (hg (off,v) (by simp))
  simp only [eQ,hv]
  cases dJ (val g v) with
  | none=>rfl
  | some cs=>simp only [ih (fun p hp=>hg p (by simp [hp]))]
theorem vW {v:IV} {S:List Nat} (hsub:∀k∈aH v,k∈S) (hh:∀k∈S,∀id∈ax (g k),h' id=h id) (hc:∀x,v = .c x→ax x=[]):∀id∈ax (val g v),h' id=h id:=by
 cases v with
 | s k=>intro id hid;exact hh k (hsub k (by simp [aH])) id hid
 | c x=>intro id hid;rw [show val g (.c x)=x from rfl,hc x rfl] at hid;cases hid
theorem dP {v:IV} (h:fh v=true):∀x,v = .c x→ax x=[]:=by
 rintro x rfl
 simpa [fh] using h
theorem w8 {d:Nat} {op:fK} (hg:∀k∈ao op,g' k=g k) (hh:∀k∈ao op,∀id∈ax (g k),h' id=h id) (hc:a_ op=true):ba d op (val g') h'=ba d op (val g) h:=by
 have v1:∀{v:IV},(∀k∈aH v,k∈ao op)→val g' v=val g v:=fun hs=>gq fun k hk=>hg k (hs k hk)
 have vo:∀{v:Option IV},(∀x,v=some x→∀k∈aH x,k∈ao op)→v.map (val g')=v.map (val g):=fun hs=>yz fun x hx k hk=>hg k (hs x hx k hk)
 have hp:∀{v:IV},(∀k∈aH v,k∈ao op)→(∀x,v = .c x→ax x=[])→∀id∈ax (val g v),h' id=h id:=fun hs hc=>vW hs hh hc
 cases op with
 | mov x=>simp only [ba];rw [v1 (fun k hk=>by simp only [ao];exact hk)]
 | pick c a b =>
  simp only [ba]
  rw [v1 (v:=c) (fun k hk=>by simp only [ao,dz];simp [hk]),v1 (v:=a) (fun k hk=>by simp only [ao,dz];simp [hk]),v1 (v:=b) (fun k hk=>by simp only [ao,dz];simp [hk])]
 | new t cs=>rfl
 | box t n x=>simp only [ba];rw [v1 (fun k hk=>by simp only [ao];exact hk)]
 | build cs ps =>
  simp only [ba]
  rw [qS (fun p hp k hk=>hg k (by simp only [ao,fc];exact ⟨p,hp,hk⟩))]
 | bsl t st rows ps =>
  simp only [ba]
  have hl:∀p∈ps,∀k∈aH p.2,g' k=g k:=fun p hp k hk=>hg k (by simp only [ao,fc];exact ⟨p,hp,hk⟩)
  rw [sA hl,qT hl]
 | load n p =>
  have hs:∀k∈aH p,k∈ao (.load n p):=fun k hk=>by simp only [ao];exact hk
  simp only [ba]
  rw [v1 hs,sk (hp hs (dP hc))]
 | store n p x =>
  simp only [a_,dZ] at hc
  have hs:∀k∈aH p,k∈ao (.store n p x):=fun k hk=>by simp only [ao,dz];simp [hk]
  have hs2:∀k∈aH x,k∈ao (.store n p x):=fun k hk=>by simp only [ao,dz];simp [hk]
  simp only [ba]
  rw [v1 hs,v1 hs2,qU (hp hs (dP hc.1))]
 | fadr off p=>simp only [ba];rw [v1 (fun k hk=>by simp only [ao];exact hk)]
 | fld off n x=>simp only [ba];rw [v1 (fun k hk=>by simp only [ao];exact hk)]
 | iadr st x i =>
  simp only [ba]
  rw [v1 (v:=x) (fun k hk=>by simp only [ao,dz];simp [hk]),v1 (v:=i) (fun k hk=>by simp only [ao,dz];simp [hk])]
 | aadr st n x i =>
  simp only [ba]
  rw [v1 (v:=x) (fun k hk=>by simp only [ao,dz];simp [hk]),v1 (v:=i) (fun k hk=>by simp only [ao,dz];simp [hk])]
 | mnx m x y =>
  simp only [ba]
  rw [v1 (v:=x) (fun k hk=>by simp only [ao,dz];simp [hk]),v1 (v:=y) (fun k hk=>by simp only [ao,dz];simp [hk])]
 | cpy st x y =>
  simp only [a_,dZ] at hc
  have hs:∀k∈aH x,k∈ao (.cpy st x y):=fun k hk=>by simp only [ao,dz];simp [hk]
  have hs2:∀k∈aH y,k∈ao (.cpy st x y):=fun k hk=>by simp only [ao,dz];simp [hk]
  simp only [ba]
  rw [v1 hs,v1 hs2,js (hp hs2 (dP hc.2)),t_ (hp hs (dP hc.1))]
 | cvm x =>
  have hs:∀k∈aH x,k∈ao (.cvm x):=fun k hk=>by simp only [ao];exact hk
  simp only [ba]
  rw [v1 hs,uc (hp hs (dP hc))]
 | sib x y =>
  simp only [ba]
  rw [v1 (v:=x) (fun k hk=>by simp only [ao,dz];simp [hk]),v1 (v:=y) (fun k hk=>by simp only [ao,dz];simp [hk])]
 | mop k xs =>
  simp only [a_,cZ] at hc
  have hs:∀x∈xs,∀k'∈aH x,k'∈ao (.mop k xs):=fun x hx k' hk=>by simp only [ao,fc];exact ⟨x,hx,hk⟩
  have e1:xs.map (val g')=xs.map (val g):=List.map_congr_left fun x hx=>v1 (hs x hx)
  simp only [ba]
  rw [e1]
  exact ud fun y hy id hid=>by
   obtain ⟨x,hx,rfl⟩:=List.mem_map.1 hy
   exact hp (hs x hx) (dP (hc x hx)) id hid
 | slc st x lo hi mx =>
  have e:∀{v:Option IV} {k:Nat},k∈fM v↔∃x,v=some x∧k∈aH x:=by
   intro v k
   cases v<;>simp [fM]
  simp only [ba]
  rw [v1 (v:=x) (fun k hk=>by simp only [ao,dz];simp [hk]),vo (v:=lo) (fun y hy k hk=>by simp only [ao,dz];exact .inl (.inl (.inr (e.2 ⟨y,hy,hk⟩)))),
   vo (v:=hi) (fun y hy k hk=>by simp only [ao,dz];exact .inl (.inr (e.2 ⟨y,hy,hk⟩))),vo (v:=mx) (fun y hy k hk=>by simp only [ao,dz];exact .inr (e.2 ⟨y,hy,hk⟩))]
 | len x=>simp only [ba];rw [v1 (fun k hk=>by simp only [ao];exact hk)]
 | app t st x y =>
  simp only [a_,dZ] at hc
  have hs:∀k∈aH x,k∈ao (.app t st x y):=fun k hk=>by simp only [ao,dz];simp [hk]
  have hs2:∀k∈aH y,k∈ao (.app t st x y):=fun k hk=>by simp only [ao,dz];simp [hk]
  simp only [ba]
  rw [v1 hs,v1 hs2,js (hp hs2 (dP hc.2)),nX (hp hs (dP hc.1))]
 | slen x=>simp only [ba];rw [v1 (fun k hk=>by simp only [ao];exact hk)]
 | sslc x lo hi =>
  have e:∀{v:Option IV} {k:Nat},k∈fM v↔∃x,v=some x∧k∈aH x:=by
   intro v k
   cases v<;>simp [fM]
  simp only [ba]
  rw [v1 (v:=x) (fun k hk=>by simp only [ao,dz];simp [hk]),vo (v:=lo) (fun y hy k hk=>by simp only [ao,dz];exact .inl (.inr (e.2 ⟨y,hy,hk⟩))),
   vo (v:=hi) (fun y hy k hk=>by simp only [ao,dz];exact .inr (e.2 ⟨y,hy,hk⟩))]
 | apps t x y =>
  simp only [a_,dZ] at hc
  have hs:∀k∈aH x,k∈ao (.apps t x y):=fun k hk=>by simp only [ao,dz];simp [hk]
  have hs2:∀k∈aH y,k∈ao (.apps t x y):=fun k hk=>by simp only [ao,dz];simp [hk]
  simp only [ba]
  rw [v1 hs,v1 hs2,nX (hp hs (dP hc.1))]
 | bin op x y =>
  simp only [ba]
  rw [v1 (v:=x) (fun k hk=>by simp only [ao,dz];simp [hk]),v1 (v:=y) (fun k hk=>by simp only [ao,dz];simp [hk])]
 | bbin op x y =>
  simp only [ba]
  rw [v1 (v:=x) (fun k hk=>by simp only [ao,dz];simp [hk]),v1 (v:=y) (fun k hk=>by simp only [ao,dz];simp [hk])]
 | pbin op x y =>
  simp only [ba]
  rw [v1 (v:=x) (fun k hk=>by simp only [ao,dz];simp [hk]),v1 (v:=y) (fun k hk=>by simp only [ao,dz];simp [hk])]
 | sbin op ls x y =>
  simp only [ba]
  rw [v1 (v:=x) (fun k hk=>by simp only [ao,dz];simp [hk]),v1 (v:=y) (fun k hk=>by simp only [ao,dz];simp [hk])]
 | un op x=>simp only [ba];rw [v1 (fun k hk=>by simp only [ao];exact hk)]
 | cvi k' x=>simp only [ba];rw [v1 (fun k hk=>by simp only [ao];exact hk)]
 | cvs x =>
  have hs:∀k∈aH x,k∈ao (.cvs x):=fun k hk=>by simp only [ao];exact hk
  simp only [ba]
  rw [v1 hs,js (hp hs (dP hc))]
 | cvt x=>simp only [ba];rw [v1 (fun k hk=>by simp only [ao];exact hk)]
 | cvb t x=>simp only [ba];rw [v1 (fun k hk=>by simp only [ao];exact hk)]
 | call f args=>rfl
 | callv f args=>rfl
 | snl b x=>simp only [ba];rw [v1 (fun k hk=>by simp only [ao];exact hk)]
 | ext x i=>simp only [ba];rw [v1 (fun k hk=>by simp only [ao];exact hk)]
 | nchk x=>simp only [ba];rw [v1 (fun k hk=>by simp only [ao];exact hk)]
 | mkf f caps =>
  simp only [ba]
  rw [iN (fun v hv k hk=>hg k (by simp only [ao,fc];exact ⟨v,hv,hk⟩))]
 | sidx x i =>
  simp only [ba]
  rw [v1 (v:=x) (fun k hk=>by simp only [ao,dz];simp [hk]),v1 (v:=i) (fun k hk=>by simp only [ao,dz];simp [hk])]
 | mks t st z x y =>
  simp only [ba]
  rw [v1 (v:=x) (fun k hk=>by simp only [ao,dz];simp [hk]),v1 (v:=y) (fun k hk=>by simp only [ao,dz];simp [hk])]
theorem qc {b:Bool}:∀{l l':List AV},(∀x∈l,∀id∈ax x,h' id=h id)→aC (EP b h) l l'→aC (EP b h') l l'
 | [],[],_,_=>trivial
 | x :: l,x' :: l',hh,hc=>⟨by
   rcases hc.1 with h1 | h1 | ⟨hb,id,st,off,len,o,h1,h2,h3⟩
   ·exact .inl h1
   ·exact .inr (.inl h1)
   ·refine .inr (.inr ⟨hb,id,st,off,len,o,h1,?_,h3⟩)
    rw [hh x (by simp) id (by rw [h1];simp [gG])]
    exact h2,qc (fun y hy=>hh y (by simp [hy])) hc.2⟩
 | [],_ :: _,_,hc=>hc.elim
 | _ :: _,[],_,hc=>hc.elim
end
def dq (g:Nat→AV) (d:Option Nat) (x:AV):Nat→AV :=
 match d with
 | some d=>cJ g d x
 | none=>g
def Vn (d:Nat) (op:fK) (ρ:IV→AV) (h:Nat→Option ac) (v:AV) (e:aM):Prop:=e = .no∧i7 op=true∧∃t st rows,v = .sl st rows∧ba d op ρ h=some (.ms d st 0 rows.length,.new d ⟨t,st,rows,false⟩)
def iT:fK→Bool
 | .mov _=>true
 | _=>false
def rZ (P:Program) [aS P] (o:aD) (g:Nat→AV) (h:Nat→Option ac) (v:AV) (e:aM):Prop :=
 match o.op with
 | .call f args=>(e = .no∧ax v=[]∧∃args' b,ak P f args' v∧(∀x∈args',ax x=[])∧aC (EP b h) (args.map (val g)) args'∧(b=true→ii v=true)) ∨
   (∃k ob ob' Sb,e = .put k ob'∧ax v=[]∧aE P f (args.map (val g)) [(k,ob)] Sb (fun r' σ'=>r'=v∧σ'=[(k,ob')])∧Sb k∧h k=some ob∧∃q∈ao o.op,k∈ax (g q)) ∨
   ∃d ob st off len Sb,o.dst=some d∧e = .new d ob∧v = .ms d st off len∧ob.isRec=false∧aE P f (args.map (val g)) [] Sb (fun r' σ'=>r'=v∧σ'=[(d,ob)])
 | .callv _ _=>False
 | op=>ba (o.dst.getD 0) op (val g) h=some (v,e)∨Vn (o.dst.getD 0) op (val g) h v e
structure Fin (P:Program) [aS P] (o:aD) (g:Nat→AV) (h:Nat→Option ac) (v:AV) (e:aM) (x:HI) (g':Nat→AV) (h':Nat→Option ac):Prop where
 run:rZ P o g h v e
 known:∀k∈ao o.op,g k≠.any
 opnd:∀k∈ao o.op,∀id∈ax (g k),id∈x.op∨(iT o.op=true∧id∈x.res)
 alone:¬(x.rb=true∧x.wr=true)→∀i o',e = .reb i o'→∀j q,h j=some q→i∉bo q
 fresh:∀i o',e = .new i o'→h i=none
 res:∀d,d∈ax v∨d∈e.ids→d∈x.res
 tch:x.tch=e.tch
 rb:x.rb=e.isReb
 wr:x.wr=e.isPut∨(x.rb=true∧x.wr=true)
 hg:g'=dq (e.env g) o.dst v
 hh:h'=e.hp h
 ld:x.ld = .ld→(∃n p,o.op = .load n p)∨(∃n p,o.op = .fadr n p)∨∃p,o.op = .len p
def dt (P:Program) [aS P] (o:aD) (g:Nat→AV) (h:Nat→Option ac) (ev:Option (AV×aM)) (x:HI) (g':Nat→AV) (h':Nat→Option ac):Prop :=
 match ev with
 | some (v,e)=>(∀k b,o.g=some (k,b)→g k = .bool b)∧Fin P o g h v e x g' h'
 | none=>(∃k b,o.g=some (k,b)∧(g k = .bool (!b)∨g k = .tup []))∧g'=dq g o.dst (.tup [])∧h'=h∧x.tch=[]∧x.rb=false∧x.wr=false
section
variable {P:Program} [aS P] {o:aD} {g g' g1 g2:Nat→AV} {h h' h1 h2:Nat→Option ac} {v:AV} {e:aM}
theorem rZ.local (hr:rZ P o g h v e) (hg:∀k∈ao o.op,g' k=g k) (hh:iT o.op=false→∀k∈ao o.op,∀id∈ax (g k),h' id=h id) (hc:a_ o.op=true):rZ P o g' h' v e:=by
 unfold rZ at hr ⊢
 split at hr
 ·rename_i f args hop
  rcases hr with ⟨h1,h2,args',b,h3,h4,h5,h6⟩ | ⟨k,ob,ob',Sb,h1,h2,h3,h4,h5,q,h6,h7⟩ | ⟨d,ob,st,off,len,Sb,h1,h2,h3,h4,h5⟩
  rotate_left 2
  ·refine .inr (.inr ⟨d,ob,st,off,len,Sb,h1,h2,h3,h4,?_⟩)
   rw [hop] at hg
   rw [iN (fun v hv k hk=>hg k (by simp only [ao,fc];exact ⟨v,hv,hk⟩))]
   exact h5
  rotate_left
  ·refine .inr (.inl ⟨k,ob,ob',Sb,h1,h2,?_,h4,?_,q,h6,by rw [hg q h6];exact h7⟩)
   ·rw [hop] at hg
    rw [iN (fun v hv k hk=>hg k (by simp only [ao,fc];exact ⟨v,hv,hk⟩))]
    exact h3
   ·rw [hh (by rw [hop];rfl) q h6 k h7];exact h5
  refine .inl ⟨h1,h2,args',b,h3,h4,?_,h6⟩
  replace hh:=hh (by rw [hop];rfl)
  rw [hop] at hg hh hc
  rw [iN (fun v hv k hk=>hg k (by simp only [ao,fc];exact ⟨v,hv,hk⟩))]
  refine qc (fun x hx id hid=>?_) h5
  obtain ⟨iv,hiv,rfl⟩:=List.mem_map.1 hx
  refine vW (S:=ao (.call f args)) (fun k hk=>by simp only [ao,fc];exact ⟨iv,hiv,hk⟩) hh ?_ id hid
  simp only [a_,cZ] at hc
  exact dP (hc iv hiv)
 ·exact hr
 ·rename_i n1 n2
  have key:ba (o.dst.getD 0) o.op (val g') h'=ba (o.dst.getD 0) o.op (val g) h:=by
   by_cases hmv:iT o.op=true
   ·cases ho:o.op with
    | mov x =>
     simp only [ba]
     cases x with
     | s k=>rw [show val g' (.s k)=val g (.s k) from hg k (by rw [ho];simp [ao,aH])]
     | c y=>rfl
    | _=>rw [ho] at hmv;cases hmv
   ·exact w8 hg (hh (by simpa using hmv)) hc
  unfold Vn
  rw [key]
  exact hr
theorem nO {d:Option Nat} {x:AV} {k:Nat} (hk:d≠some k):dq g d x k=g k:=by
 cases d with
 | none=>rfl
 | some d=>exact bB _ _ (fun h=>hk (by rw [h]))
theorem Ie {i:Nat} {x:AV} (hx:fk i x≠.any):fk i x=x:=by
 unfold fk at hx ⊢
 split
 ·rename_i hm;simp [hm] at hx
 ·rfl
theorem rK {i:Nat} {x:AV} (hx:i∉ax x):fk i x=x:=by
 unfold fk
 rw [aJ (fun hm=>hx (gR hm))]
theorem wq {i:Nat} {o:ac} (hx:i∉bo o):bV i o=o:=by
 unfold bV
 split
 ·rename_i hr
  simp only [bo,hr,cX,fc,not_exists,not_and] at hx
  have:o.rows.map (fun r=>r.map (iI i))=o.rows:=by
   conv=>rhs;rw [← List.map_id o.rows]
   refine List.map_congr_left fun r hr'=>?_
   conv=>rhs;rw [id,← List.map_id r]
   refine List.map_congr_left fun y hy=>?_
   unfold iI
   rw [aJ (fun hm=>hx r hr' y hy (iG hm))]
   rfl
  rw [this]
 ·rfl
theorem LH {i:Nat} {o':ac} (ha:∀j q,h j=some q→i∉bo q):aM.hp h (.reb i o')=cJ h i (some o'):=by
 funext j
 simp only [aM.hp,cJ]
 split
 ·rfl
 ·cases hj:h j with
  | none=>rfl
  | some q=>simp only [cK];rw [wq (ha j q hj)]
theorem yI (i j:Nat) (x:AV):fk i (fk j x)=fk j (fk i x):=by
 have hany:∀i,mV i .any=false:=fun _=>rfl
 unfold fk
 by_cases h1:mV i x=true<;>by_cases h2:mV j x=true<;>simp only [h1,h2,hany,cX,tT,fp]
theorem Gk (e e':aM):e.env (e'.env g)=e'.env (e.env g):=by
 cases e<;>cases e'<;>first | rfl | (funext k;exact yI _ _ _)
def aM.pur (e:aM) (x:AV):AV :=
 match e with
 | .reb i _=>fk i x
 | _=>x
theorem ra (e:aM) (d:Option Nat) (x:AV):e.env (dq g d x)=dq (e.env g) d (e.pur x):=by
 cases d with
 | none=>rfl
 | some d =>
  cases e with
  | reb i o' =>
   funext k
   simp only [aM.env,dq,aM.pur,cJ]
   split<;>rfl
  | _=>rfl
theorem u5 {e:aM} {x:AV} (hx:e.isReb=true→∀d∈e.tch,d∉ax x):e.pur x=x:=by
 cases e with
 | reb i o'=>exact rK (hx rfl i (by simp [aM.tch]))
 | _=>rfl
theorem qF {d d':Option Nat} {x x':AV} (hd:∀k,d=some k→d'≠some k):dq (dq g d x) d' x'=dq (dq g d' x') d x:=by
 cases d with
 | none=>rfl
 | some d =>
  cases d' with
  | none=>rfl
  | some d' =>
   have hne:d≠d':=fun hh=>hd d rfl (by rw [hh])
   funext k
   simp only [dq,cJ]
   by_cases h1:k=d<;>by_cases h2:k=d'<;>simp_all
def vX (h:Nat→Option ac) (e:aM):Nat→Option ac :=
 match e with
 | .no=>h
 | .put i o=>cJ h i (some o)
 | .new i o=>cJ h i (some o)
 | .reb i o=>cJ h i (some o)
theorem vY (e:aM) (ha:∀i o',e = .reb i o'→∀j q,h j=some q→i∉bo q):e.hp h=vX h e:=by
 cases e with
 | reb i ob=>exact LH (ha i ob rfl)
 | _=>rfl
theorem rk {e:aM} {id:Nat} (hid:id∉e.tch):vX h e id=h id:=by
 cases e<;>first | rfl | exact bB _ _ (fun hh=>hid (by simp [aM.tch,hh]))
theorem BM {e e':aM} (hd:∀d∈e.tch,d∉e'.tch):vX (vX h e) e'=vX (vX h e') e:=by
 have key:∀(i j:Nat) (p q:Option ac),i≠j→cJ (cJ h i p) j q=cJ (cJ h j q) i p:=fun i j p q hij=>by
  funext k
  simp only [cJ]
  by_cases h1:k=i<;>by_cases h2:k=j<;>simp_all
 cases e<;>cases e'<;>first | rfl | exact key _ _ _ _ (by simpa [aM.tch] using hd)
theorem LG {e:aM} {j:Nat} {q:ac} (hq:vX h e j=some q):(h j=some q)∨bo q=e.ids:=by
 cases e with
 | no=>exact .inl hq
 | put i ob =>
  simp only [vX,cJ] at hq
  split at hq
  ·cases hq;exact .inr rfl
  ·exact .inl hq
 | new i ob =>
  simp only [vX,cJ] at hq
  split at hq
  ·cases hq;exact .inr rfl
  ·exact .inl hq
 | reb i ob =>
  simp only [vX,cJ] at hq
  split at hq
  ·cases hq;exact .inr rfl
  ·exact .inl hq
theorem FR {d:Nat} {op:fK} {ρ:IV→AV} {j:Nat} {o':ac} (hr:ba d op ρ h=some (v,.reb j o')):∃q,h j=some q∧q.isRec=false:=by
 have happ:∀{t st x src},iX d t st x src h=some (v,.reb j o')→∃q,h j=some q∧q.isRec=false:=by
  intro t st x src ha
  unfold iX at ha
  split at ha
  ·cases ha
  ·split at ha
   ·split at ha
    ·cases ha
    ·split at ha
     ·rename_i ob hob
      split at ha
      ·rename_i hc
       cases ha
       exact ⟨ob,hob,hc.2.2.2.1⟩
      ·cases ha
     ·cases ha
    ·cases ha
   ·cases ha
 have hres:∀{y:Option AV},res y≠some (v,.reb j o'):=fun hh=>by
  have:=(aW hh).2
  cases this
 cases op<;>simp only [ba] at hr
 case app=>exact happ hr
 case apps=>exact happ hr
 case cpy=>obtain ⟨_,_,q⟩:=nY hr;cases q
 case cvm=>obtain ⟨_,_,_,_,_,_,_,_,_,_,_,_,q⟩:=i5 hr;cases q
 case mop=>rcases kz hr with q | ⟨_,q,_⟩ | ⟨_,_,_,_,_,q⟩<;>cases q
 case bsl=>obtain ⟨_,q⟩:=kA hr;cases q
 all_goals
  exfalso
  first
   | exact hres hr
   | (cases hr;done)
   | (simp only [cj,Prod.mk.injEq] at hr
      obtain ⟨e',h1,_,h2⟩:=hr
      subst h2
      unfold fD at h1
      repeat' (split at h1)
      all_goals cases h1)
   | (repeat' (split at hr)
      all_goals first | (cases hr;done) | exact hres hr)
structure zT (x y:HI):Prop where
 a:∀d∈y.tch,d∉x.op∧d∉x.tch
 b:∀d∈x.tch,d∉y.op
 c:x.rb=true→∀d∈x.tch,d∉y.res
 d:y.rb=true→∀d∈y.tch,d∉x.res
 e:¬(x.rb=true∧y.wr=true)
 f:¬(y.rb=true∧x.wr=true)
 g:¬(x.rb=true∧x.wr=true)
 h:¬(y.rb=true∧y.wr=true)
structure Oa (x y:HI):Prop where
 r:x.rb=true
 w:x.wr=true
 op:y.op=[]∨y.ld = .ld
 nop:∀d∈x.tch,d∉y.op
 tch:y.tch=[]
 rb:y.rb=false
 res:∀d∈x.tch,d∉y.res
def Mt (x y:HI):Prop:=zT x y∨Oa x y
theorem zT.of {x y:HI} (hm:rC x y=true):zT x y:=by
 simp only [rC,dZ,cZ,pV,nE,List.contains_eq_mem,decide_eq_false_iff_not] at hm
 obtain ⟨⟨⟨⟨⟨⟨⟨h1,h2⟩,h3⟩,h4⟩,h5⟩,h6⟩,h7⟩,h8⟩:=hm
 refine ⟨h1,h2,fun hr=>?_,fun hr=>?_,fun hr=>?_,fun hr=>?_,fun hr=>?_,fun hr=>?_⟩
 ·rcases h3 with h3 | h3
  ·rw [h3] at hr;cases hr
  ·exact h3
 ·rcases h4 with h4 | h4
  ·rw [h4] at hr;cases hr
  ·exact h4
 ·simp [hr.1,hr.2] at h5
 ·simp [hr.1,hr.2] at h6
 ·simp [hr.1,hr.2] at h7
 ·simp [hr.1,hr.2] at h8
structure pW (o o':aD):Prop where
 a:∀d,o.dst=some d→d∉co o'∧o'.dst≠some d
 b:∀d,o'.dst=some d→d∉co o
theorem jl (k:Nat) (o:aD) (hk:k∈ao o.op):k∈co o:=by simp [co,hk]
theorem oX (k:Nat) (b:Bool) (o:aD) (hk:o.g=some (k,b)):k∈co o:=by simp [co,hk]
def iz (ev:Option (AV×aM)):AV:=match ev with | some (v,_)=>v | none=>.tup []
def cT (ev:Option (AV×aM)):aM:=match ev with | some (_,e)=>e | none=>.no
def fg (o:aD):List Nat:=match o.g with | some (k,_)=>[k] | none=>[]
theorem dt.state {ev:Option (AV×aM)} {x:HI} (hs:dt P o g h ev x g' h'):g'=dq ((cT ev).env g) o.dst (iz ev)∧h'=(cT ev).hp h∧x.tch=(cT ev).tch∧x.rb=(cT ev).isReb∧(¬(x.rb=true∧x.wr=true)→x.wr=(cT ev).isPut) ∧
  (¬(x.rb=true∧x.wr=true)→∀i o',cT ev = .reb i o'→∀j q,h j=some q→i∉bo q)∧(∀d,d∈ax (iz ev)∨d∈(cT ev).ids→d∈x.res)∧(∀i o',cT ev = .new i o'→h i=none)∧(∀i o',cT ev = .reb i o'→∃q,h i=some q∧q.isRec=false):=by
 cases ev with
 | none=>obtain ⟨_,h1,h2,h3,h4,h5⟩:=hs;exact ⟨h1,h2,h3,h4,fun _=>h5,fun _ i o' he=>by simp [cT] at he,fun d hd=>by
   rcases hd with hd | hd
   ·simp [iz,ax,bU,be,bt] at hd
   ·simp [cT,aM.ids] at hd,fun i o' he=>by simp [cT] at he,fun i o' he=>by simp [cT] at he⟩
 | some p =>
  obtain ⟨v,e⟩:=p
  obtain ⟨_,hf⟩:=hs
  refine ⟨hf.hg,hf.hh,hf.tch,hf.rb,fun hw=>hf.wr.resolve_right hw,hf.alone,hf.res,hf.fresh,fun i o' he=>?_⟩
  simp only [cT] at he
  subst he
  have hr:=hf.run
  unfold rZ at hr
  split at hr
  ·rcases hr with hr | ⟨_,_,_,_,hr,_⟩ | ⟨_,_,_,_,_,_,_,hr,_⟩
   ·cases hr.1
   ·cases hr
   ·cases hr
  ·exact hr.elim
  ·rcases hr with hr | ⟨hr,_⟩
   ·exact FR hr
   ·cases hr
theorem dt.local {ev:Option (AV×aM)} {x:HI} (hs:dt P o g h ev x g' h') (hg:∀k∈fg o,g1 k=g k) (hg2:ev.isSome=true→∀k∈ao o.op,g1 k=g k) (hh:ev.isSome=true→iT o.op=false→∀k∈ao o.op,∀id∈ax (g k),h1 id=h id) (hc:a_ o.op=true)
  (ha:¬(x.rb=true∧x.wr=true)→∀i o',cT ev = .reb i o'→∀j q,h1 j=some q→i∉bo q) (hn:∀i o',cT ev = .new i o'→h1 i=none):dt P o g1 h1 ev x (dq ((cT ev).env g1) o.dst (iz ev)) ((cT ev).hp h1):=by
 cases ev with
 | none =>
  obtain ⟨⟨k,b,h2,h3⟩,_,_,h4⟩:=hs
  exact ⟨⟨k,b,h2,by rw [hg k (by simp [fg,h2])];exact h3⟩,rfl,rfl,h4⟩
 | some p =>
  obtain ⟨v,e⟩:=p
  obtain ⟨h2,hf⟩:=hs
  refine ⟨fun k b hk=>by rw [hg k (by simp [fg,hk])];exact h2 k b hk,⟨?_,fun k hk=>?_,fun k hk id hid=>?_,ha,hn,hf.res,hf.tch,hf.rb,hf.wr,rfl,rfl,hf.ld⟩⟩
  ·exact hf.run.local (hg2 rfl) (hh rfl) hc
  ·rw [hg2 rfl k hk];exact hf.known k hk
  ·rw [hg2 rfl k hk] at hid;exact hf.opnd k hk id hid
theorem Vb {m i:aD} {evm evi:Option (AV×aM)} {y x:HI} (hm:dt P m g h evm y g1 h1) (hi:dt P i g1 h1 evi x g2 h2) (hap:pW m i) (hmt:zT x y) (hcm:a_ m.op=true) (hci:a_ i.op=true) :
  ∃g3 h3,dt P i g h evi x g3 h3∧dt P m g3 h3 evm y g2 h2:=by
 obtain ⟨gm,hhm,tm,rm,wm,am,resm,fm,bm⟩:=hm.state
 obtain ⟨gi,hhi,ti,ri,wi,ai,resi,fi,bi⟩:=hi.state
 replace wm:=wm hmt.h
 replace am:=am hmt.h
 replace wi:=wi hmt.g
 replace ai:=ai hmt.g
 rw [vY _ am] at hhm
 rw [vY _ ai] at hhi
 have same:∀id,id∉(cT evm).tch→h1 id=h id:=fun id hid=>by rw [hhm];exact rk hid
 have gsub:∀(o:aD) k,k∈fg o→k∈co o:=fun o k hk=>by
  unfold fg at hk
  split at hk
  ·rename_i k' b hg;simp at hk;subst hk;exact oX k b o hg
  ·simp at hk
 have gval:∀{o:aD} {g h ev x g' h'},dt P o g h ev x g' h'→∀k∈fg o,(∃b,g k = .bool b)∨g k = .tup []:=by
  intro o g h ev x g' h' hs k hk
  unfold fg at hk
  split at hk
  ·rename_i k' b hg
   simp at hk
   subst hk
   cases ev with
   | none=>obtain ⟨⟨k2,b2,h3,h4⟩,_⟩:=hs;rw [hg] at h3;cases h3;exact h4.imp (fun h=>⟨_,h⟩) (fun h=>h)
   | some p=>exact .inl ⟨b,hs.1 k b hg⟩
  ·simp at hk
 have keep1:∀k,k∈co i→g1 k≠.any→g1 k=g k:=fun k hk hna=>by
  rw [gm] at hna ⊢
  have e1:dq ((cT evm).env g) m.dst (iz evm) k=(cT evm).env g k:=nO (fun hdk=>(hap.a k hdk).1 hk)
  rw [e1] at hna ⊢
  cases he:cT evm with
  | reb q ob=>rw [he] at hna;exact Ie hna
  | _=>rfl
 have rdg:∀k∈fg i,g k=g1 k:=fun k hk=>by
  rcases gval hi k hk with ⟨b,hb⟩ | hb<;>exact (keep1 k (gsub i k hk) (by rw [hb];simp)).symm
 have rdo:evi.isSome=true→∀k∈ao i.op,g k=g1 k:=fun hs k hk=>by
  obtain ⟨p,rfl⟩:=Option.isSome_iff_exists.1 hs
  exact (keep1 k (jl k i hk) (hi.2.known k hk)).symm
 have rdh:evi.isSome=true→iT i.op=false→∀k∈ao i.op,∀id∈ax (g1 k),h id=h1 id:=fun hs hmv k hk id hid=>by
  obtain ⟨p,rfl⟩:=Option.isSome_iff_exists.1 hs
  refine (same id (fun ht=>?_)).symm
  rw [← tm] at ht
  rcases hi.2.opnd k hk id hid with q | ⟨q,_⟩
  ·exact (hmt.a id ht).1 q
  ·rw [hmv] at q;cases q
 have ai':∀q o',cT evi = .reb q o'→∀j p,h j=some p→q∉bo p:=fun q o' he j p hp=>by
  by_cases hj:j∈(cT evm).tch
  ·cases hem:cT evm with
   | no=>rw [hem] at hj;simp [aM.tch] at hj
   | put j' ob =>
    exfalso
    refine hmt.e ⟨by rw [ri,he];rfl,by rw [wm,hem];rfl⟩
   | new j' ob =>
    rw [hem] at hj
    simp [aM.tch] at hj
    subst hj
    rw [fm j ob hem] at hp
    cases hp
   | reb j' ob =>
    rw [hem] at hj
    simp [aM.tch] at hj
    subst hj
    obtain ⟨q',h3,h4⟩:=bm j ob hem
    rw [hp] at h3
    cases h3
    simp [bo,h4]
  ·exact ai q o' he j p (by rw [same j hj];exact hp)
 have fi':∀q o',cT evi = .new q o'→h q=none:=fun q o' he=>by
  rw [← same q (fun ht=>by
   rw [← tm] at ht
   exact (hmt.a q ht).2 (by rw [ti,he];simp [aM.tch]))]
  exact fi q o' he
 have s1:=hi.local rdg rdo rdh hci (fun _=>ai') fi'
 rw [vY _ ai'] at s1
 refine ⟨_,_,s1,?_⟩
 have keep2:∀k,k∈co m→((cT evi).isReb=true→∀d∈(cT evi).tch,d∉ax (g k))→dq ((cT evi).env g) i.dst (iz evi) k=g k:=fun k hk hno=>by
  have e1:dq ((cT evi).env g) i.dst (iz evi) k=(cT evi).env g k:=nO (fun hdk=>hap.b k hdk hk)
  rw [e1]
  cases he:cT evi with
  | reb q ob=>exact rK (hno (by rw [he];rfl) q (by rw [he];simp [aM.tch]))
  | _=>rfl
 have opm:evm.isSome=true→∀k∈ao m.op,∀d∈(cT evi).tch,d∈ax (g k)→iT m.op=true∧d∈y.res:=fun hs k hk d hd hid=>by
  obtain ⟨p,rfl⟩:=Option.isSome_iff_exists.1 hs
  rcases hm.2.opnd k hk d hid with q | q
  ·exact absurd q (hmt.b d (by rw [ti];exact hd))
  ·exact q
 have am2:∀q o',cT evm = .reb q o'→∀j p,vX h (cT evi) j=some p→q∉bo p:=fun q o' he j p hp=>by
   rcases LG hp with h3 | h3
   ·exact am q o' he j p h3
   ·rw [h3]
    intro hq
    exact hmt.d (by rw [rm,he];rfl) q (by rw [tm,he];simp [aM.tch]) (resi q (.inr hq))
 have s2:=hm.local (g1:=dq ((cT evi).env g) i.dst (iz evi)) (h1:=vX h (cT evi)) (fun k hk=>keep2 k (gsub m k hk) (fun _ d _=>by
   rcases gval hm k hk with ⟨b,hb⟩ | hb<;>rw [hb]<;>simp [ax,bU,be,bt])) (fun hs k hk=>keep2 k (jl k m hk) (fun hr d hd hid=>hmt.c (by rw [ri];exact hr) d (by rw [ti];exact hd) (opm hs k hk d hd hid).2)) (fun hs hmv k hk id hid=>rk (fun ht=>by
   have:=(opm hs k hk id ht hid).1
   rw [hmv] at this;cases this)) hcm (fun _=>am2) (fun q o' he=>by
   rw [rk (fun ht=>(hmt.a q (by rw [tm,he];simp [aM.tch])).2 (by rw [ti];exact ht))]
   exact fm q o' he)
 rw [vY _ am2] at s2
 have eg:dq ((cT evm).env (dq ((cT evi).env g) i.dst (iz evi))) m.dst (iz evm)=g2:=by
  rw [gi,gm,ra,ra,Gk (cT evi) (cT evm)]
  rw [u5 (e:=cT evm) (x:=iz evi) (fun hr d hd hid=>hmt.d (by rw [rm];exact hr) d (by rw [tm];exact hd) (resi d (.inl hid)))]
  rw [u5 (e:=cT evi) (x:=iz evm) (fun hr d hd hid=>hmt.c (by rw [ri];exact hr) d (by rw [ti];exact hd) (resm d (.inl hid)))]
  exact qF (fun k hk hk'=>(hap.a k hk').2 hk)
 have eh:vX (vX h (cT evi)) (cT evm)=h2:=by
  rw [hhi,hhm]
  exact BM (fun d hd hd'=>(hmt.a d (by rw [tm];exact hd')).2 (by rw [ti];exact hd))
 rw [eg,eh] at s2
 exact s2
theorem HL {i:Nat} {v:AV} (h:mC i v=true):i∈ax v:=by
 cases v<;>first | exact iG h | (simp [mC,mP] at h;done)
theorem HH {n:Option Nat} {r:List AV} {off i:Nat} {v:AV} (hl:iF n (r.drop off)=some v) (hv:i∉ax v):iF n ((r.map (iI i)).drop off)=some v:=by
 rw [← List.map_drop]
 generalize r.drop off=q at hl
 cases n with
 | none =>
  simp only [iF,d_] at hl ⊢
  rw [hl]
  simp only [cK,iI]
  rw [aJ (fun hm=>hv (HL hm))]
 | some n =>
  simp only [iF,dn] at hl ⊢
  split at hl
  case isFalse=>cases hl
  rename_i hn
  cases hl
  rw [bz hn,← List.map_take]
  congr 2
  have:∀x∈q.take n,iI i x=x:=fun x hx=>by
   unfold iI
   rw [aJ (fun hm=>hv (by simp only [ax,bU,fc];exact ⟨x,hx,iG hm⟩))]
  exact (List.map_congr_left this).trans (List.map_id _)
theorem Ar {n:Option Nat} {x:AV} {v:AV} {e:aM} (hl:f8 n x h=some v) (hx:∀d∈e.tch,d∉ax x) (hv:∀d∈e.tch,d∉ax v):f8 n x (e.hp h)=some v:=by
 cases x<;>try exact hl
 case mp id st row off =>
  have key:∀i,i∈e.tch→id≠i:=fun i hi hid=>hx i hi (by subst hid;simp [ax,bU,be,bt])
  cases e with
  | no=>exact hl
  | put i o=>simp only [f8,aM.hp,cJ,aJ (key i (by simp [aM.tch]))] at hl ⊢;exact hl
  | new i o=>simp only [f8,aM.hp,cJ,aJ (key i (by simp [aM.tch]))] at hl ⊢;exact hl
  | reb i o =>
   simp only [f8,aM.hp,cJ,aJ (key i (by simp [aM.tch]))] at hl ⊢
   split at hl
   case h_2=>cases hl
   rename_i o1 ho1
   rw [ho1]
   simp only [cK,nN]
   split at hl
   case isFalse=>cases hl
   rename_i hst
   rw [bz hst]
   split at hl
   case h_2=>cases hl
   rename_i r hr
   have hrow:(bV i o1).rows[row]? = some (if o1.isRec=true then r.map (iI i) else r):=by
    unfold bV
    by_cases hrec:o1.isRec=true
    ·simp only [hrec,cX,d_,hr,cK]
    ·simp only [hrec];simpa using hr
   rw [hrow]
   show iF n ((if o1.isRec=true then r.map (iI i) else r).drop off)=some v
   by_cases hrec:o1.isRec=true
   ·rw [bz hrec];exact HH hl (hv i (by simp [aM.tch]))
   ·rw [aJ hrec];exact hl
theorem Rm {m i:aD} {evm evi:Option (AV×aM)} {y x:HI} (hm:dt P m g h evm y g1 h1) (hi:dt P i g1 h1 evi x g2 h2) (hap:pW m i) (hw:Oa x y) (hcm:a_ m.op=true) (hci:a_ i.op=true) :
  ∃g3 h3,dt P i g h evi x g3 h3∧dt P m g3 h3 evm y g2 h2:=by
 obtain ⟨gm,hhm,tm,rm,wm,am,resm,fm,bm⟩:=hm.state
 obtain ⟨gi,hhi,ti,ri,wi,ai,resi,fi,bi⟩:=hi.state
 have em:cT evm = .no:=by
  rw [hw.tch] at tm
  cases he:cT evm<;>first | rfl | (rw [he] at tm;cases tm)
 have hh1:h1=h:=by rw [hhm,em];rfl
 have gg1:g1=dq g m.dst (iz evm):=by rw [gm,em];rfl
 have gsub:∀(o:aD) k,k∈fg o→k∈co o:=fun o k hk=>by
  unfold fg at hk
  split at hk
  ·rename_i k' b hg;simp at hk;subst hk;exact oX k b o hg
  ·simp at hk
 have keep1:∀k,k∈co i→g k=g1 k:=fun k hk=>by
  rw [gg1]
  exact (nO (fun hdk=>(hap.a k hdk).1 hk)).symm
 have s1:=hi.local (g1:=g) (h1:=h) (fun k hk=>keep1 k (gsub i k hk)) (fun _ k hk=>keep1 k (jl k i hk)) (fun _ _ k hk id hid=>by rw [hh1]) hci (fun hn=>absurd ⟨hw.r,hw.w⟩ hn) (fun q o' he=>by
  rw [he] at ri
  rw [hw.r] at ri
  cases ri)
 refine ⟨_,_,s1,?_⟩
 have keep2:∀k,k∈co m→(∀d∈(cT evi).tch,d∉ax (g k))→dq ((cT evi).env g) i.dst (iz evi) k=g k:=fun k hk hno=>by
  have e1:dq ((cT evi).env g) i.dst (iz evi) k=(cT evi).env g k:=nO (fun hdk=>hap.b k hdk hk)
  rw [e1]
  cases he:cT evi with
  | reb q ob=>exact rK (hno q (by rw [he];simp [aM.tch]))
  | _=>rfl
 have gval:∀k∈fg m,(∃b,g k = .bool b)∨g k = .tup []:=fun k hk=>by
  unfold fg at hk
  split at hk
  ·rename_i k' b hg
   simp at hk
   subst hk
   cases evm with
   | none=>obtain ⟨⟨k2,b2,h3,h4⟩,_⟩:=hm;rw [hg] at h3;cases h3;exact h4.imp (fun h=>⟨_,h⟩) (fun h=>h)
   | some p=>exact .inl ⟨b,hm.1 k b hg⟩
  ·simp at hk
 have s2:dt P m (dq ((cT evi).env g) i.dst (iz evi)) ((cT evi).hp h) evm y (dq ((cT evm).env (dq ((cT evi).env g) i.dst (iz evi))) m.dst (iz evm)) ((cT evm).hp ((cT evi).hp h)):=by
  have kg:∀k∈fg m,dq ((cT evi).env g) i.dst (iz evi) k=g k:=fun k hk=>keep2 k (gsub m k hk) (fun d _=>by
   rcases gval k hk with ⟨b,hb⟩ | hb<;>rw [hb]<;>simp [ax,bU,be,bt])
  rcases hw.op with hop | hld
  ·have opm:evm.isSome=true→∀k∈ao m.op,∀d,d∈ax (g k)→iT m.op=true∧d∈y.res:=fun hs k hk d hid=>by
    obtain ⟨p,rfl⟩:=Option.isSome_iff_exists.1 hs
    rcases hm.2.opnd k hk d hid with q | q
    ·rw [hop] at q;cases q
    ·exact q
   exact hm.local (g1:=dq ((cT evi).env g) i.dst (iz evi)) (h1:=(cT evi).hp h) kg (fun hs k hk=>keep2 k (jl k m hk) (fun d hd hid=>hw.res d (by rw [ti];exact hd) (opm hs k hk d hid).2)) (fun hs hmv k hk id hid=>by
    have:=(opm hs k hk id hid).1
    rw [hmv] at this;cases this) hcm (fun _ q o' he=>by rw [em] at he;cases he) (fun q o' he=>by rw [em] at he;cases he)
  ·cases evm with
   | none=>exact hm.local (g1:=dq ((cT evi).env g) i.dst (iz evi)) (h1:=(cT evi).hp h) kg (fun hs=>by cases hs) (fun hs=>by cases hs) hcm (fun _ q o' he=>by cases he) (fun q o' he=>by cases he)
   | some p =>
    obtain ⟨v,e⟩:=p
    obtain ⟨hgd,hf⟩:=hm
    have hop':=hf.ld hld
    have hmv:¬iT m.op=true:=fun q=>by rcases hop' with ⟨_,_,h⟩ | ⟨_,_,h⟩ | ⟨_,h⟩<;>rw [h] at q<;>cases q
    have he:e = .no:=em
    subst he
    have ids2:∀k∈ao m.op,∀d∈(cT evi).tch,d∉ax (g k):=fun k hk d hd hid=>by
     rcases hf.opnd k hk d hid with q | ⟨q,_⟩
     ·exact hw.nop d (by rw [ti];exact hd) q
     ·exact hmv q
    have ko:∀k∈ao m.op,dq ((cT evi).env g) i.dst (iz evi) k=g k:=fun k hk=>keep2 k (jl k m hk) (ids2 k hk)
    have hr:=hf.run
    refine ⟨fun k b hk=>by rw [kg k (by simp [fg,hk])];exact hgd k b hk,⟨?_,fun k hk=>by rw [ko k hk];exact hf.known k hk,fun k hk id hid=>hf.opnd k hk id (by rw [ko k hk] at hid;exact hid),(fun _ q o' he=>by cases he),(fun q o' he=>by cases he),hf.res,hf.tch,hf.rb,hf.wr,rfl,rfl,hf.ld⟩⟩
    have hvl:∀p:IV,(∀k∈aH p,k∈ao m.op)→val (dq ((cT evi).env g) i.dst (iz evi)) p=val g p:=fun p hp=>by
     cases p with
     | s k=>exact ko k (hp k (by simp [aH]))
     | c x=>rfl
    unfold rZ at hr ⊢
    rcases hop' with ⟨n,p,hop⟩ | ⟨n,p,hop⟩ | ⟨p,hop⟩
    rotate_left
    ·rw [hop] at hr ⊢
     simp only at hr ⊢
     rcases hr with hr | hr
     ·refine .inl ?_
      simp only [ba] at hr ⊢
      rw [hvl p (fun k hk=>by rw [hop];exact hk)]
      exact hr
     ·cases hr.2.1
    ·rw [hop] at hr ⊢
     simp only at hr ⊢
     rcases hr with hr | hr
     ·refine .inl ?_
      simp only [ba] at hr ⊢
      rw [hvl p (fun k hk=>by rw [hop];exact hk)]
      exact hr
     ·cases hr.2.1
    rw [hop] at hr ⊢
    simp only at hr ⊢
    rcases hr with hr | hr
    ·refine .inl ?_
     simp only [ba,Mw.res,cj,Prod.mk.injEq,and_true] at hr ⊢
     obtain ⟨v',hl,hv'⟩:=hr
     subst hv'
     have hvp:val (dq ((cT evi).env g) i.dst (iz evi)) p=val g p∧∀d∈(cT evi).tch,d∉ax (val g p):=by
      cases p with
      | s k =>
       have hk:k∈ao m.op:=by rw [hop];simp [ao,aH]
       exact ⟨ko k hk,ids2 k hk⟩
      | c x =>
       have hc:ax x=[]:=by
        rw [hop] at hcm
        simpa [a_,fh] using hcm
       exact ⟨rfl,fun d _=>by show d∉ax x;rw [hc];simp⟩
     exact ⟨v',by rw [hvp.1];exact Ar hl hvp.2 (fun d hd hid=>hw.res d (by rw [ti];exact hd) (hf.res d (.inl hid))),rfl⟩
    ·cases hr.2.1
 have eg:dq ((cT evm).env (dq ((cT evi).env g) i.dst (iz evi))) m.dst (iz evm)=g2:=by
  rw [gi,gg1,em]
  show dq (dq ((cT evi).env g) i.dst (iz evi)) m.dst (iz evm)=_
  rw [ra]
  rw [u5 (e:=cT evi) (x:=iz evm) (fun hr d hd hid=>hw.res d (by rw [ti];exact hd) (resm d (.inl hid)))]
  exact qF (fun k hk hk'=>(hap.a k hk').2 hk)
 have eh:(cT evm).hp ((cT evi).hp h)=h2:=by rw [em,hhi,hh1];rfl
 rw [eg,eh] at s2
 exact s2
theorem Rl {m i:aD} {evm evi:Option (AV×aM)} {y x:HI} (hm:dt P m g h evm y g1 h1) (hi:dt P i g1 h1 evi x g2 h2) (hap:pW m i) (hmt:Mt x y) (hcm:a_ m.op=true) (hci:a_ i.op=true) :
  ∃g3 h3,dt P i g h evi x g3 h3∧dt P m g3 h3 evm y g2 h2:=by
 rcases hmt with h | h
 ·exact Vb hm hi hap h hcm hci
 ·exact Rm hm hi hap h hcm hci
end
structure Item where
 i:Nat
 bef:List Nat
 o:aD
 ev:Option (AV×aM)
 x:HI
def T (P:Program) [aS P]:List Item→(Nat→AV)→(Nat→Option ac)→(Nat→AV)→(Nat→Option ac)→Prop
 | [],g,h,g',h'=>g'=g∧h'=h
 | t :: R,g,h,g',h'=>∃g1 h1,dt P t.o g h t.ev t.x g1 h1∧T P R g1 h1 g' h'
section
variable {P:Program} [aS P]
theorem Jh:∀(A:List Item) (t:Item) (B:List Item) (g:Nat→AV) (h:Nat→Option ac) (g':Nat→AV) (h':Nat→Option ac),T P (A++t :: B) g h g' h' →
  (∀m∈A,pW m.o t.o∧Mt t.x m.x)→(∀m∈A,a_ m.o.op=true)→a_ t.o.op=true→∃g1 h1,dt P t.o g h t.ev t.x g1 h1∧T P (A++B) g1 h1 g' h'
 | [],t,B,g,h,g',h',ht,_,_,_=>ht
 | m :: A,t,B,g,h,g',h',ht,hm,hc,hct=>by
  obtain ⟨g1,h1,s1,ht⟩:=ht
  obtain ⟨g2,h2,s2,ht⟩:=Jh A t B g1 h1 g' h' ht (fun q hq=>hm q (by simp [hq])) (fun q hq=>hc q (by simp [hq])) hct
  obtain ⟨q1,q2⟩:=hm m (by simp)
  obtain ⟨g3,h3,s3,s4⟩:=Rl s1 s2 q1 q2 (hc m (by simp)) hct
  exact ⟨g3,h3,s3,g2,h2,s4,ht⟩
def pG (al:List (Nat×Nat)):List HI→List Item→Prop
 | _,[]=>True
 | hist,t :: R=>t.x.i=t.i∧(∀y∈hist,y.i∈t.bef∨Mt t.x y)∧(∀d,d∈ax (iz t.ev)∨d∈(cT t.ev).ids→∀m,(d,m)∈al→m=t.i∨m∈t.bef)∧pG al (t.x :: hist) R
theorem dw {bef:List Nat} {x:HI} {hist:List HI} (hh:dR bef x hist=true):∀y∈hist,y.i∈bef∨Mt x y:=fun y hy=>by
 have:=cZ.1 hh y hy
 simp only [pV,List.contains_eq_mem,kw] at this
 exact this.imp id fun h=>.inl (zT.of h)
theorem gx {al:List (Nat×Nat)} {bef:List Nat} {x:HI} (hh:jm al bef x=true):∀d∈x.res,∀m,(d,m)∈al→m=x.i∨m∈bef:=fun d hd m hm=>by
 have:=cZ.1 hh (d,m) hm
 simp only [pV,List.contains_eq_mem,kw,nE,decide_eq_false_iff_not,beq_iff_eq] at this
 rcases this with (h1 | h1) | h1
 ·exact absurd hd h1
 ·exact .inl h1
 ·exact .inr h1
theorem eN (s:St) (d:Option Nat) (x:AV):get (s.put d x).env=dq (get s.env) d x:=by
 funext k
 cases d with
 | none=>rfl
 | some d =>
  simp only [St.put,get,dq,cJ,iA]
  by_cases hk:k=d
  ·subst hk;simp
  ·simp [hk,Ne.symm hk]
theorem dl (s:St) (d:Option Nat) (x:AV):(s.put d x).heap=s.heap:=by cases d<;>rfl
theorem cW {o:fK} {s:St} {e:aM} (hp:cL o s e=true):(∀k∈ao o,get s.env k≠.any)∧∀i o',e = .reb i o'→∀j q,ab s.heap j=some q→i∉bo q:=by
 simp only [cL,dZ,cZ,pV,nE] at hp
 refine ⟨fun k hk he=>?_,fun i o' he j q hq=>?_⟩
 ·have:=hp.1 k hk
  rw [he] at this
  cases this
 ·subst he
  rcases hp.2 with h1 | h1
  ·cases h1
  ·have hmem:∀{σ:List (Nat×ac)},ab σ j=some q→(j,q)∈σ:=by
    intro σ
    induction σ with
    | nil=>intro hi;simp [ab] at hi
    | cons p l ih =>
     intro hi
     obtain ⟨k,x⟩:=p
     simp only [ab] at hi
     split at hi
     ·rename_i hk;cases hi;subst hk;simp
     ·exact List.mem_cons_of_mem _ (ih hi)
   have:=h1 i (by simp [aM.tch]) (j,q) (hmem hq)
   simpa using this
def Un (al:List (Nat×Nat)) (p:Nat→Prop) (g:Nat→AV) (h:Nat→Option ac):Prop:=∀d m,(d,m)∈al→p m→h d=none∧bO d g h
theorem nF {d:Nat} {op:fK} {ρ:IV→AV} {h:Nat→Option ac} {v:AV} {i:Nat} {ob:ac} (hr:ba d op ρ h=some (v,.new i ob)):i7 op=true∧i=d:=by
 have happ:∀{t st x src},iX d t st x src h=some (v,.new i ob)→i=d:=by
  intro t st x src ha
  unfold iX at ha
  split at ha
  ·cases ha
  ·split at ha
   ·split at ha
    ·cases ha;rfl
    ·split at ha
     ·split at ha<;>cases ha
     ·cases ha
    ·cases ha
   ·cases ha
 have hres:∀{y:Option AV},res y≠some (v,.new i ob):=fun hh=>by
  have:=(aW hh).2
  cases this
 cases op<;>simp only [ba] at hr
 case app=>exact ⟨rfl,happ hr⟩
 case apps=>exact ⟨rfl,happ hr⟩
 case new=>cases hr;exact ⟨rfl,rfl⟩
 case box =>
  split at hr
  ·split at hr
   ·cases hr;exact ⟨rfl,rfl⟩
   ·cases hr
  ·cases hr
 case bsl=>obtain ⟨_,q⟩:=kA hr;cases q;exact ⟨rfl,rfl⟩
 case cvb =>
  split at hr
  ·split at hr
   ·cases hr;exact ⟨rfl,rfl⟩
   ·cases hr
  ·cases hr
 case mks =>
  split at hr
  ·split at hr
   ·cases hr;exact ⟨rfl,rfl⟩
   ·cases hr
  ·cases hr
 case mop =>
  rcases kz hr with q | ⟨_,q,q2⟩ | ⟨_,_,_,_,_,q⟩<;>cases q
  rcases q2 with rfl | rfl<;>exact ⟨rfl,rfl⟩
 all_goals
  exfalso
  first
   | (obtain ⟨_,_,q⟩:=nY hr;cases q;done)
   | (obtain ⟨_,_,_,_,_,_,_,_,_,_,_,_,q⟩:=i5 hr;cases q;done)
   | exact hres hr
   | (cases hr;done)
   | (simp only [cj,Prod.mk.injEq] at hr
      obtain ⟨e',h1,_,h2⟩:=hr
      subst h2
      unfold fD at h1
      repeat' (split at h1)
      all_goals cases h1)
   | (repeat' (split at hr)
      all_goals first | (cases hr;done) | exact hres hr)
theorem FS {d:Nat} {op:fK} {g:Nat→AV} {h:Nat→Option ac} {v:AV} {e:aM} (hr:ba d op (val g) h=some (v,e)) (hc:a_ op=true):∀i∈e.tch,(∃ob,e = .new i ob)∨∃k∈ao op,i∈ax (g k):=by
 have iv:∀{x:IV} {i:Nat},fh x=true→i∈ax (val g x)→(∀k∈aH x,k∈ao op)→∃k∈ao op,i∈ax (g k):=by
  intro x i hx hi hs
  cases x with
  | s k=>exact ⟨k,hs k (by simp [aH]),hi⟩
  | c y=>simp [fh] at hx;rw [show val g (.c y)=y from rfl,hx] at hi;cases hi
 have happ:∀{t st src} {x:IV},fh x=true→(∀k∈aH x,k∈ao op)→iX d t st (val g x) src h=some (v,e)→∀i∈e.tch,(∃ob,e = .new i ob)∨∃k∈ao op,i∈ax (g k):=by
  intro t st src x hx hs ha i hi
  unfold iX at ha
  split at ha
  ·cases ha
  ·split at ha
   ·split at ha
    ·cases ha;simp [aM.tch] at hi;subst hi;exact .inl ⟨_,rfl⟩
    ·rename_i hv
     split at ha
     ·split at ha
      ·cases ha
       simp [aM.tch] at hi
       subst hi
       exact .inr (iv hx (by rw [hv];simp [gG]) hs)
      ·cases ha
     ·cases ha
    ·cases ha
   ·cases ha
 intro i hi
 cases e with
 | no=>simp [aM.tch] at hi
 | new j ob=>simp [aM.tch] at hi;subst hi;exact .inl ⟨_,rfl⟩
 | put j ob =>
  cases op<;>simp only [ba] at hr
  case store n p x =>
   simp only [a_,dZ] at hc
   simp only [cj,Prod.mk.injEq] at hr
   obtain ⟨e',h1,_,h2⟩:=hr
   subst h2
   unfold fD at h1
   split at h1
   ·rename_i id st row off cs hv _
    refine .inr (iv hc.1 ?_ (fun k hk=>by simp only [ao,dz];exact .inl hk))
    rw [hv]
    repeat' (split at h1)
    all_goals first | (cases h1;done) | skip
    cases h1
    simp [aM.tch] at hi
    simp [rn,hi]
   ·cases h1
  case cvm x =>
   simp only [a_] at hc
   obtain ⟨id,st,off,len,ob',q1,_,_,_,_,_,_,q2⟩:=i5 hr
   cases q2
   simp [aM.tch] at hi
   exact .inr (iv hc (by rw [q1];simp [gG,hi]) (fun k hk=>by simp only [ao];exact hk))
  case mop k xs =>
   simp only [a_,cZ] at hc
   rcases kz hr with q | ⟨_,q,q2⟩ | ⟨id,b,r,o,q1,q⟩<;>cases q
   simp [aM.tch] at hi
   subst hi
   cases xs with
   | nil=>cases q1
   | cons x xs =>
    simp only [ee,List.cons.injEq] at q1
    exact .inr (iv (hc x (by simp)) (by rw [q1.1];simp [ax,bU,be,bt]) (fun k hk=>by simp only [ao,pB,dz];exact .inl hk))
  case cpy st x y =>
   simp only [a_,dZ] at hc
   unfold nh at hr
   split at hr
   ·cases hr
   ·split at hr
    ·rename_i hv
     refine .inr (iv hc.1 ?_ (fun k hk=>by simp only [ao,dz];exact .inl hk))
     rw [hv]
     repeat' (split at hr)
     all_goals first | (cases hr;done) | skip
     all_goals
      cases hr
      simp [aM.tch] at hi
      simp [gG,hi]
    ·cases hr
  case app t st x y=>simp only [a_,dZ] at hc;exact happ hc.1 (fun k hk=>by simp only [ao,dz];exact .inl hk) hr i hi
  case apps t x y=>simp only [a_,dZ] at hc;exact happ hc.1 (fun k hk=>by simp only [ao,dz];exact .inl hk) hr i hi
  all_goals
   exfalso
   first
    | (obtain ⟨_,q⟩:=kA hr;cases q;done)
    | exact absurd (aW hr).2 (by simp)
    | (cases hr;done)
    | (repeat' (split at hr)
       all_goals first | (cases hr;done) | exact absurd (aW hr).2 (by simp))
 | reb j ob =>
  cases op<;>simp only [ba] at hr
  case app t st x y=>simp only [a_,dZ] at hc;exact happ hc.1 (fun k hk=>by simp only [ao,dz];exact .inl hk) hr i hi
  case apps t x y=>simp only [a_,dZ] at hc;exact happ hc.1 (fun k hk=>by simp only [ao,dz];exact .inl hk) hr i hi
  all_goals
   exfalso
   first
    | (obtain ⟨_,_,q⟩:=nY hr;cases q;done)
    | (obtain ⟨_,_,_,_,_,_,_,_,_,_,_,_,q⟩:=i5 hr;cases q;done)
    | (rcases kz hr with q | ⟨_,q,_⟩ | ⟨_,_,_,_,_,q⟩<;>cases q;done)
    | (obtain ⟨_,q⟩:=kA hr;cases q;done)
    | exact absurd (aW hr).2 (by simp)
    | (cases hr;done)
    | (simp only [cj,Prod.mk.injEq] at hr
       obtain ⟨e',h1,_,h2⟩:=hr
       subst h2
       unfold fD at h1
       repeat' (split at h1)
       all_goals cases h1)
    | (repeat' (split at hr)
       all_goals first | (cases hr;done) | exact absurd (aW hr).2 (by simp))
end
theorem Cm {i:Nat} {x:AV} (h:i∈bt x):mP i x=true:=by cases x<;>simp_all [mP,bt]
theorem Cj {i:Nat} {x:AV} (h:i∈be x):mC i x=true:=by
 cases x with
 | fn f caps =>
  simp only [be,fc] at h
  obtain ⟨y,h1,h2⟩:=h
  simp only [mC,List.any_eq_true]
  exact ⟨y,h1,Cm h2⟩
 | _=>simp only [be] at h;simpa only [mC] using Cm h
theorem Ck {i:Nat} {x:AV} (h:i∈bU x):mG i x=true:=by
 cases x with
 | agg cells =>
  simp only [bU,fc] at h
  obtain ⟨y,h1,h2⟩:=h
  simp only [mG,List.any_eq_true]
  exact ⟨y,h1,Cj h2⟩
 | _=>simp only [bU] at h;simpa only [mG] using Cj h
theorem Cn {i:Nat} {x:AV} (h:i∈ax x):mV i x=true:=by
 cases x with
 | tup vs =>
  simp only [ax,fc] at h
  obtain ⟨y,h1,h2⟩:=h
  simp only [mV,List.any_eq_true]
  exact ⟨y,h1,Ck h2⟩
 | _=>simp only [ax] at h;simpa only [mV] using Ck h
section
variable {P:Program} [aS P] {al:List (Nat×Nat)} {g g':Nat→AV} {h h':Nat→Option ac}
def nS (al:List (Nat×Nat)):Prop:=∀d m m',(d,m)∈al→(d,m')∈al→m=m'
theorem Gv {h:Nat→Option ac} {e:aM} {d:Nat} (ht:d∉e.tch) (hn:h d=none):e.hp h d=none:=by
 cases e with
 | no=>exact hn
 | reb i o =>
  simp only [aM.tch,eL] at ht
  simp only [aM.hp,cJ,aJ ht,hn,Option.map_none]
 | _ =>
  simp only [aM.tch,eL] at ht
  simp only [aM.hp,cJ,aJ ht,hn]
theorem PD {h:Nat→Option ac} {e:aM} {j:Nat} {q:ac} (hq:e.hp h j=some q):(∃q0,h j=some q0∧(q=q0∨∃i,q=bV i q0))∨bo q=e.ids:=by
 cases e with
 | no=>exact .inl ⟨q,hq,.inl rfl⟩
 | reb i o =>
  simp only [aM.hp,cJ] at hq
  split at hq
  ·cases hq;exact .inr rfl
  ·simp only [cj] at hq
   obtain ⟨q0,h1,rfl⟩:=hq
   exact .inl ⟨q0,h1,.inr ⟨i,rfl⟩⟩
 | _ =>
  simp only [aM.hp,cJ] at hq
  split at hq
  ·cases hq;exact .inr rfl
  ·exact .inl ⟨q,hq,.inl rfl⟩
theorem Un.step {p p':Nat→Prop} {o:aD} {i:Nat} {bef:List Nat} {ev:Option (AV×aM)} {x:HI} (hs:dt P o g h ev x g' h') (hu:Un al p g h) (hc:a_ o.op=true)
  (hnew:∀d,d∈ax (iz ev)∨d∈(cT ev).ids→∀m,(d,m)∈al→m=i∨m∈bef) (hbef:∀m∈bef,¬p m) (hal:qV o=true→(o.dst.getD 0,i)∈al) (hone:nS al)
  (hp:∀m,p' m→p m∧m≠i):Un al p' g' h':=by
 intro d m hdm hpm
 obtain ⟨hp1,hp2⟩:=hp m hpm
 obtain ⟨hn,hun⟩:=hu d m hdm hp1
 obtain ⟨gs,hhs,_,_,_,_,_,_,_⟩:=hs.state
 have hno:¬(d∈ax (iz ev)∨d∈(cT ev).ids):=fun hd=>by
  rcases hnew d hd m hdm with h1 | h1
  ·exact hp2 h1
  ·exact hbef m h1 hp1
 have htch:d∉(cT ev).tch:=fun ht=>by
  cases ev with
  | none=>simp [cT,aM.tch] at ht
  | some q =>
   obtain ⟨v,e⟩:=q
   have hr:=hs.2.run
   unfold rZ at hr
   split at hr
   ·rename_i f args hop
    rcases hr with hr | ⟨k,_,_,_,he,_,_,_,_,q,_,hid⟩ | ⟨d',_,_,_,_,_,hd',he,_⟩
    ·rw [show cT (some (v,e))=e from rfl,hr.1] at ht;simp [aM.tch] at ht
    ·rw [show cT (some (v,e))=e from rfl,he] at ht
     simp [aM.tch] at ht
     subst ht
     have:=Cn hid
     rw [hun.1 q] at this
     cases this
    ·rw [show cT (some (v,e))=e from rfl,he] at ht
     simp [aM.tch] at ht
     subst ht
     rw [hd'] at hal
     exact hp2 (hone d m i hdm (hal (by simp [qV,hop,hd'])))
   ·exact hr.elim
   ·rcases hr with hr | ⟨hr,_⟩
    rotate_left
    ·rw [show cT (some (v,e))=e from rfl,hr] at ht;simp [aM.tch] at ht
    rcases FS hr hc d ht with ⟨ob,he⟩ | ⟨k,hk,hid⟩
    ·subst he
     obtain ⟨h1,h2⟩:=nF hr
     rw [← h2] at hal
     exact hp2 (hone d m i hdm (hal (j4 h1)))
    ·have:=Cn hid
     rw [hun.1 k] at this
     cases this
 refine ⟨by rw [hhs];exact Gv htch hn,fun k=>?_,fun j q hq hrec r hr y hy=>?_⟩
 ·rw [gs]
  have key:mV d ((cT ev).env g k)=false:=by
   cases cT ev with
   | reb q ob =>
    simp only [aM.env]
    unfold fk
    split
    ·rfl
    ·exact hun.1 k
   | _=>exact hun.1 k
  cases hd:o.dst with
  | none=>exact key
  | some d' =>
   simp only [dq,cJ]
   split
   ·cases hv:mV d (iz ev) with
    | false=>rfl
    | true=>exact absurd (.inl (gR hv)) hno
   ·exact key
 ·rw [hhs] at hq
  rcases PD hq with ⟨q0,h1,h2⟩ | h1
  ·rcases h2 with rfl | ⟨i',rfl⟩
   ·exact hun.2 j q h1 hrec r hr y hy
   ·rw [jp] at hrec
    simp only [bV,hrec,cX,List.mem_map] at hr
    obtain ⟨r0,hr0,rfl⟩:=hr
    obtain ⟨y0,hy0,rfl⟩:=List.mem_map.1 hy
    unfold iI
    split
    ·rfl
    ·exact hun.2 j q0 h1 hrec r0 hr0 y0 hy0
  ·cases hv:mC d y with
   | false=>rfl
   | true =>
    exfalso
    refine hno (.inr ?_)
    rw [← h1]
    simp only [bo,hrec,cX,fc]
    exact ⟨r,hr,y,hy,iG hv⟩
theorem jA (s:St) (e:aM):get (s.eff e).env=e.env (get s.env):=funext (rh s e)
theorem ib (s:St) (e:aM):ab (s.eff e).heap=e.hp (ab s.heap):=funext (oH s e)
theorem j_ {s:St} {k:Nat} {t b:Bool} (hv:get s.env k = .bool t) (hb:t=b):get (s.put (some k) (.bool b)).env=get s.env:=by
 rw [eN]
 funext j
 simp only [dq,cJ]
 split
 ·rename_i hj;subst hj;rw [hv,hb]
 ·rfl
theorem HQ {d:Nat} {op:fK} {g:Nat→AV} {h:Nat→Option ac} {v:AV} {e:aM} (hev:ba d op (val g) h=some (v,e)) (hmv:iT op=true):∀k∈ao op,∀id∈ax (g k),id∈ax v:=fun k hk id hid=>by
 cases op with
 | mov x =>
  simp only [ba,bH,Prod.mk.injEq] at hev
  cases x with
  | s j =>
   simp only [ao,aH,eL] at hk
   subst hk
   rw [← hev.1];exact hid
  | c y=>simp [ao,aH] at hk
 | _=>cases hmv
theorem I4 (y:HI):((y.op.isEmpty||y.isLd)=true)=(y.op=[]∨y.ld = .ld):=by
 unfold HI.isLd
 cases y.ld<;>simp
theorem yj {o:fK} (h:lM o = .ld):(∃n p,o = .load n p)∨(∃n p,o = .fadr n p)∨∃p,o = .len p:=by
 cases o<;>first | exact .inl ⟨_,_,rfl⟩ | exact .inr (.inl ⟨_,_,rfl⟩) | exact .inr (.inr ⟨_,rfl⟩) | cases h
theorem iE [Cl] (hone:nS al):∀(l:List av) (i:Nat) (hist:List HI) (s:St) (K:List HI→St→Prop),di P al i l hist s K→Un al (fun m=>i≤m) (get s.env) (ab s.heap)→(∀y∈hist,¬(y.rb=true∧y.wr=true)) →
  (∀(j:Nat) (o:av),l[j]? = some o→(qV o.o=true→(o.o.dst.getD 0,i+j)∈al)∧(∀m∈o.bef,m<i+j)∧a_ o.o.op=true) →
  ∃(items:List Item) (s':St),K ((items.map Item.x).reverse++hist) s'∧T P items (get s.env) (ab s.heap) (get s'.env) (ab s'.heap)∧pG al hist items∧items.map Item.i=List.range' i l.length∧items.map (fun t=>(⟨t.o,t.bef⟩:av))=l
 | [],i,hist,s,K,hk,_,_,_=>⟨[],s,hk,⟨rfl,rfl⟩,trivial,by simp,rfl⟩
 | o :: r,i,hist,s,K,hk,hu,hnw,hl=>by
  obtain ⟨hal,hbf,hcon⟩:=hl 0 o (by simp)
  have hl':∀(j:Nat) (o:av),r[j]? = some o→(qV o.o=true→(o.o.dst.getD 0,i+1+j)∈al)∧(∀m∈o.bef,m<i+1+j)∧a_ o.o.op=true:=fun j o hj=>by
   have:=hl (j+1) o (by simpa using hj)
   rwa [show i+(j+1)=i+1+j by omega] at this
  have fin:∀{s1:St} {ev:Option (AV×aM)} {x:HI},dt P o.o (get s.env) (ab s.heap) ev x (get s1.env) (ab s1.heap)→x.i=i→¬(x.rb=true∧x.wr=true)→(∀y∈hist,y.i∈o.bef∨Mt x y) →
    (∀d,d∈ax (iz ev)∨d∈(cT ev).ids→∀m,(d,m)∈al→m=i∨m∈o.bef)→di P al (i+1) r (x :: hist) s1 K →
    ∃(items:List Item) (s':St),K ((items.map Item.x).reverse++hist) s'∧T P items (get s.env) (ab s.heap) (get s'.env) (ab s'.heap)∧pG al hist items∧items.map Item.i=List.range' i (o :: r).length∧items.map (fun t=>(⟨t.o,t.bef⟩:av))=o :: r:=by
   intro s1 ev x hst hxi hxw hhist hnew hrest
   have hu':Un al (fun m=>i+1≤m) (get s1.env) (ab s1.heap):=Un.step hst hu hcon hnew (fun m hm hle=>by have:=hbf m hm;omega) (by simpa using hal) hone (fun m hm=>⟨by omega,by omega⟩)
   obtain ⟨items,s',h1,h2,h3,h4,h5⟩:=iE hone r (i+1) (x :: hist) s1 K hrest hu' (fun y hy=>by
    rcases bE.1 hy with rfl | hy
    ·exact hxw
    ·exact hnw y hy) hl'
   exact ⟨⟨i,o.bef,o.o,ev,x⟩ :: items,s',by simpa using h1,⟨_,_,hst,h2⟩,⟨hxi,hhist,hnew,h3⟩,by simp [List.range'_succ,h4],by simp [h5]⟩
  have run:∀{s2:St},get s2.env=get s.env→s2.heap=s.heap→(∀k b,o.o.g=some (k,b)→get s.env k = .bool b)→bX P al i o hist s2 (fun hist' s'=>di P al (i+1) r hist' s' K) →
    ∃(items:List Item) (s':St),K ((items.map Item.x).reverse++hist) s'∧T P items (get s.env) (ab s.heap) (get s'.env) (ab s'.heap)∧pG al hist items∧items.map Item.i=List.range' i (o :: r).length∧items.map (fun t=>(⟨t.o,t.bef⟩:av))=o :: r:=by
   intro s2 he2 hh2 hgd hop
   have hoi':∀res:List Nat,(iT o.o.op=true→∀k∈ao o.o.op,∀id∈ax (get s.env k),id∈res)→∀k∈ao o.o.op,∀id∈ax (get s.env k),id∈bu o.o.op s2.env∨(iT o.o.op=true∧id∈res):=fun res hres k hk id hid=>by
    by_cases hmv:iT o.o.op=true
    ·exact .inr ⟨hmv,hres hmv k hk id hid⟩
    ·refine .inl ?_
     have e:bu o.o.op s2.env=(ao o.o.op).flatMap fun k=>ax (get s2.env k):=by
      cases ho:o.o.op<;>first | rfl | (rw [ho] at hmv;exact absurd rfl hmv)
     rw [e,fc]
     exact ⟨k,hk,by rw [he2];exact hid⟩
   unfold bX at hop
   split at hop
   ·rename_i f args hopc
    rcases hop with ⟨args',rr,b,h1,h2,h3,h4,h5,h6,h7,h8⟩ | ⟨k,ob,ob',Sb,rr,h1,h2,h3,h4,h5,h6,h7,h8,h9⟩ | ⟨d,ob,st,off,len,Sb,h1,h2,h3,h6,h7,h8,h9⟩
    rotate_left 2
    ·obtain ⟨p1,_⟩:=cW h6
     rw [he2] at p1
     have e0:(aM.new d ob).ids=[]:=by simp [aM.ids,bo,h2]
     have hin:∀{q:Nat},q∈ax (.ms d st off len)∨q∈(aM.new d ob).ids→q∈[d]:=fun hq=>by
      rw [e0] at hq
      simpa [ax,bU,be,bt] using hq
     refine fin (s1:=(s2.eff (.new d ob)).put o.o.dst (.ms d st off len)) (ev:=some (.ms d st off len,.new d ob)) ⟨hgd,⟨?_,p1,hoi' _ (fun hmv=>by rw [hopc] at hmv;cases hmv),(fun _ _ _ he=>by cases he),(fun _ _ he=>?_),fun q hq=>hin hq,rfl,rfl,.inl rfl,?_,?_,fun hh=>by cases hh⟩⟩ rfl (by rintro ⟨hr,_⟩;cases hr) (dw h7) (fun q hq m hm=>gx h8 q (hin hq) m hm) h9
     ·unfold rZ
      rw [hopc]
      exact .inr (.inr ⟨d,ob,st,off,len,Sb,h1,rfl,rfl,h2,by rw [← he2];exact h3⟩)
     ·cases he
      exact (hu d i (by have:=hal (by simp [qV,hopc,h1]);rw [h1] at this;exact this) (bD i)).1
     ·rw [eN,jA,he2]
     ·rw [dl,ib,hh2]
    rotate_left
    ·obtain ⟨p1,p2⟩:=cW h7
     rw [he2] at p1
     have hq:∃q∈ao o.o.op,k∈ax (get s.env q):=by
      rw [hopc] at h6 ⊢
      simp only [bu,fc] at h6
      obtain ⟨q,q1,q2⟩:=h6
      exact ⟨q,q1,by rw [← he2];exact q2⟩
     refine fin (s1:=(s2.eff (.put k ob')).put o.o.dst rr) (ev:=some (rr,.put k ob')) ⟨hgd,⟨?_,p1,hoi' _ (fun hmv=>by rw [hopc] at hmv;cases hmv),(fun _ _ _ he=>by cases he),(fun _ _ he=>by cases he),fun d hd=>?_,rfl,rfl,.inl rfl,?_,?_,fun hh=>by cases hh⟩⟩ rfl (by first | (rintro ⟨hr,_⟩;cases hr;done) | (cases e<;>simp [aM.isReb,aM.isPut])) (dw h8) (fun d hd=>?_) h9
     ·unfold rZ
      rw [hopc]
      rw [hopc] at hq
      exact .inr (.inl ⟨k,ob,ob',Sb,rfl,h4,by rw [← he2];exact h1,h2,by rw [← hh2];exact h3,hq⟩)
     ·have hd':d∈ax rr∨d∈bo ob':=hd
      rw [h4,h5] at hd';simp at hd'
     ·rw [eN,jA,he2]
     ·rw [dl,ib,hh2]
     ·have hd':d∈ax rr∨d∈bo ob':=hd
      rw [h4,h5] at hd';simp at hd'
    obtain ⟨p1,_⟩:=cW h6
    rw [he2] at p1
    refine fin (s1:=s2.put o.o.dst rr) (ev:=some (rr,.no)) ⟨hgd,⟨?_,p1,hoi' _ (fun hmv=>by rw [hopc] at hmv;cases hmv),(fun _ _ _ he=>by cases he),(fun _ _ he=>by cases he),fun d hd=>?_,rfl,rfl,.inl rfl,?_,?_,fun hh=>by cases hh⟩⟩ rfl (by first | (rintro ⟨hr,_⟩;cases hr;done) | (cases e<;>simp [aM.isReb,aM.isPut])) (dw h7) (fun d hd=>?_) h8
    ·unfold rZ
     rw [hopc]
     exact .inl ⟨rfl,h5,args',b,h1,h2,by rw [← he2,← hh2];exact h3,h4⟩
    ·have hd':d∈ax rr∨d∈([]:List Nat):=hd
     rw [h5] at hd';simp at hd'
    ·rw [eN,he2];rfl
    ·rw [dl,hh2];rfl
    ·have hd':d∈ax rr∨d∈([]:List Nat):=hd
     rw [h5] at hd';simp at hd'
   ·exact hop.elim
   ·rename_i t st x y hopc
    rcases hop with hop | ⟨rows,hxc,hev,h6,h7,h9⟩
    ·split at hop
     case h_2=>exact hop.elim
     rename_i v e hev
     obtain ⟨h6,h7,h8,h9⟩:=hop
     obtain ⟨p1,p2⟩:=cW h6
     rw [he2] at p1 hev
     rw [hh2] at p2 hev
     refine fin (s1:=(s2.eff e).put o.o.dst v) (ev:=some (v,e)) ⟨hgd,⟨?_,p1,hoi' _ (fun hmv=>by rw [hopc] at hmv;cases hmv),fun _=>p2,fun j ob he=>?_,fun d hd=>?_,rfl,rfl,.inl rfl,?_,?_,fun hh=>by cases hh⟩⟩ rfl (by first | (rintro ⟨hr,_⟩;cases hr;done) | (cases e<;>simp [aM.isReb,aM.isPut])) (dw h7) (fun d hd m hm=>?_) h9
     ·unfold rZ
      rw [hopc]
      exact .inl hev
     ·subst he
      obtain ⟨q1,q2⟩:=nF hev
      subst q2
      exact (hu _ i (by simpa using hal (j4 (by rw [hopc];exact q1))) (bD i)).1
     ·exact dz.2 hd
     ·rw [eN,jA,he2]
     ·rw [dl,ib,hh2]
     ·exact gx h8 d (dz.2 hd) m hm
    ·obtain ⟨p1,_⟩:=cW h6
     rw [he2] at p1 hev
     rw [hh2] at hev
     have no:∀d,¬(d∈ax (.sl st rows)∨d∈(aM.no).ids):=fun d hd=>by rcases hd with hd | hd<;>cases hd
     refine fin (s1:=s2.put o.o.dst (.sl st rows)) (ev:=some (.sl st rows,.no)) ⟨hgd,⟨?_,p1,hoi' _ (fun hmv=>by rw [hopc] at hmv;cases hmv),(fun _ _ _ he=>by cases he),(fun _ _ he=>by cases he),fun d hd=>absurd hd (no d),rfl,rfl,.inl rfl,?_,?_,fun hh=>by cases hh⟩⟩ rfl (by first | (rintro ⟨hr,_⟩;cases hr;done) | (cases e<;>simp [aM.isReb,aM.isPut])) (dw h7) (fun d hd=>absurd hd (no d)) h9
     ·unfold rZ
      rw [hopc]
      exact .inr ⟨rfl,rfl,t,st,rows,rfl,hev⟩
     ·rw [eN,he2];rfl
     ·rw [dl,hh2];rfl
   ·rename_i t st rows ps hopc
    split at hop
    ·split at hop
     case h_2=>exact hop.elim
     rename_i rs hrs
     obtain ⟨h6,h7,h9⟩:=hop
     have hev:ba (o.o.dst.getD 0) (.bsl t st rows ps) (val (get s2.env)) (ab s2.heap)=some (.ms (o.o.dst.getD 0) st 0 rs.length,.new (o.o.dst.getD 0) ⟨t,st,rs,false⟩):=by simp only [ba,hrs];rfl
     obtain ⟨p1,_⟩:=cW h6
     rw [he2] at p1 hev
     rw [hh2] at hev
     have no:∀d,¬(d∈ax (.sl st rs)∨d∈(aM.no).ids):=fun d hd=>by rcases hd with hd | hd<;>cases hd
     refine fin (s1:=s2.put o.o.dst (.sl st rs)) (ev:=some (.sl st rs,.no)) ⟨hgd,⟨?_,p1,hoi' _ (fun hmv=>by rw [hopc] at hmv;cases hmv),(fun _ _ _ he=>by cases he),(fun _ _ he=>by cases he),fun d hd=>absurd hd (no d),rfl,rfl,.inl rfl,?_,?_,fun hh=>by cases hh⟩⟩ rfl (by first | (rintro ⟨hr,_⟩;cases hr;done) | (cases e<;>simp [aM.isReb,aM.isPut])) (dw h7) (fun d hd=>absurd hd (no d)) h9
     ·unfold rZ
      rw [hopc]
      exact .inr ⟨rfl,rfl,t,st,rs,rfl,hev⟩
     ·rw [eN,he2];rfl
     ·rw [dl,hh2];rfl
    ·split at hop
     case h_2=>exact hop.elim
     rename_i v e hev
     obtain ⟨h6,h7,h8,h9⟩:=hop
     obtain ⟨p1,p2⟩:=cW h6
     rw [he2] at p1 hev
     rw [hh2] at p2 hev
     refine fin (s1:=(s2.eff e).put o.o.dst v) (ev:=some (v,e)) ⟨hgd,⟨?_,p1,hoi' _ (fun hmv=>by rw [hopc] at hmv;cases hmv),fun _=>p2,fun j ob he=>?_,fun d hd=>?_,rfl,rfl,.inl rfl,?_,?_,fun hh=>by rw [hopc] at hh;cases hh⟩⟩ rfl (by first | (rintro ⟨hr,_⟩;cases hr;done) | (cases e<;>simp [aM.isReb,aM.isPut])) (dw h7) (fun d hd m hm=>?_) h9
     ·unfold rZ
      rw [hopc]
      exact .inl hev
     ·subst he
      obtain ⟨q1,q2⟩:=nF hev
      subst q2
      exact (hu _ i (by simpa using hal (j4 (by rw [hopc];exact q1))) (bD i)).1
     ·exact dz.2 hd
     ·rw [eN,jA,he2]
     ·rw [dl,ib,hh2]
     ·exact gx h8 d (dz.2 hd) m hm
   ·rename_i n1 n2 n3 n4
    split at hop
    case h_2=>exact hop.elim
    rename_i v e hev
    obtain ⟨h6,h7,h8,h9⟩:=hop
    obtain ⟨p1,p2⟩:=cW h6
    rw [he2] at p1 hev
    rw [hh2] at p2 hev
    refine fin (s1:=(s2.eff e).put o.o.dst v) (ev:=some (v,e)) ⟨hgd,⟨?_,p1,hoi' _ (fun hmv k hk id hid=>dz.2 (.inl (HQ hev hmv k hk id hid))),fun _=>p2,fun j ob he=>?_,fun d hd=>?_,rfl,rfl,.inl rfl,?_,?_,fun hh=>yj hh⟩⟩ rfl (by first | (rintro ⟨hr,_⟩;cases hr;done) | (cases e<;>simp [aM.isReb,aM.isPut])) (dw h7) (fun d hd m hm=>?_) h9
    ·unfold rZ
     split
     ·rename_i f args hopc;exact (n1 f args hopc).elim
     ·rename_i f args hopc;exact (n2 f args hopc).elim
     ·exact .inl hev
    ·subst he
     obtain ⟨q1,q2⟩:=nF hev
     subst q2
     exact (hu _ i (by simpa using hal (j4 q1)) (bD i)).1
    ·exact dz.2 hd
    ·rw [eN,jA,he2]
    ·rw [dl,ib,hh2]
    ·exact gx h8 d (dz.2 hd) m hm
  unfold di at hk
  split at hk
  ·rename_i hg
   exact run rfl rfl (fun k b hkb=>by rw [hg] at hkb;cases hkb) hk
  ·rename_i k b hg
   split at hk
   case h_3=>exact hk.elim
   case h_2 =>
    rename_i hv
    refine fin (s1:=s.put o.o.dst (.tup [])) (ev:=none) (x:=⟨i,[],[],[],false,false⟩) ⟨⟨k,b,hg,.inr hv⟩,?_,by rw [dl],rfl,rfl,rfl⟩ rfl (by rintro ⟨hr,_⟩;cases hr) (fun y hy=>.inr (.inl ⟨?_,?_,?_,?_,?_,?_,?_,?_⟩)) ?_ hk
    ·rw [eN]
    ·intro d _;exact ⟨by simp,by simp⟩
    ·intro d hd;cases hd
    ·intro hr;cases hr
    ·intro _ d hd hd2;cases hd2
    ·rintro ⟨hr,_⟩;cases hr
    ·rintro ⟨_,hr⟩;cases hr
    ·rintro ⟨hr,_⟩;cases hr
    ·exact hnw y hy
    ·intro d hd
     rcases hd with hd | hd
     ·simp [iz,ax] at hd
     ·simp [cT,aM.ids] at hd
   rename_i t hv
   by_cases htb:t=b
   ·exact run (j_ hv htb) (dl _ _ _) (fun k' b' hkb=>by rw [hg] at hkb;cases hkb;rw [hv,htb]) (hk.1 htb)
   ·have htb':t = !b:=by cases t<;>cases b<;>simp_all
    refine fin (s1:=(s.put (some k) (.bool (!b))).put o.o.dst (.tup [])) (ev:=none) (x:=⟨i,[],[],[],false,false⟩) ⟨⟨k,b,hg,.inl (by rw [hv,htb'])⟩,?_,by rw [dl,dl],rfl,rfl,rfl⟩ rfl (by rintro ⟨hr,_⟩;cases hr) (fun y hy=>.inr (.inl ⟨?_,?_,?_,?_,?_,?_,?_,?_⟩)) ?_ (hk.2 htb')
    ·rw [eN,j_ hv htb']
    ·intro d _;exact ⟨by simp,by simp⟩
    ·intro d hd;cases hd
    ·intro hr;cases hr
    ·intro _ d hd hd2;cases hd2
    ·rintro ⟨hr,_⟩;cases hr
    ·rintro ⟨_,hr⟩;cases hr
    ·rintro ⟨hr,_⟩;cases hr
    ·exact hnw y hy
    ·intro d hd
     rcases hd with hd | hd
     ·simp [iz,ax,bU,be,bt] at hd
     ·simp [cT,aM.ids] at hd
theorem mU [Cl] (hone:nS al) (l:List av) (i:Nat) (hist:List HI) (s:St) (K:St→Prop) (hk:fV P al i l hist s K) (hu:Un al (fun m=>i≤m) (get s.env) (ab s.heap)) (hnw:∀y∈hist,¬(y.rb=true∧y.wr=true))
  (hl:∀(j:Nat) (o:av),l[j]? = some o→(qV o.o=true→(o.o.dst.getD 0,i+j)∈al)∧(∀m∈o.bef,m<i+j)∧a_ o.o.op=true) :
  ∃(items:List Item) (s':St),K s'∧T P items (get s.env) (ab s.heap) (get s'.env) (ab s'.heap)∧pG al hist items∧items.map Item.i=List.range' i l.length∧items.map (fun t=>(⟨t.o,t.bef⟩:av))=l:=iE hone l i hist s _ hk hu hnw hl
theorem I9:∀(A:List Item) {t:Item} {g:Nat→AV} {h:Nat→Option ac} {g1:Nat→AV} {h1:Nat→Option ac} {g':Nat→AV} {h':Nat→Option ac},T P A g h g1 h1→dt P t.o g1 h1 t.ev t.x g' h'→T P (A++[t]) g h g' h'
 | [],t,g,h,g1,h1,g',h',⟨e1,e2⟩,hs=>by subst e1 e2;exact ⟨_,_,hs,rfl,rfl⟩
 | a :: A,t,g,h,g1,h1,g',h',⟨g2,h2,s1,ht⟩,hs=>⟨g2,h2,s1,I9 A ht hs⟩
theorem se:∀(A:List Item) {hist:List HI} {t:Item},pG al hist A→t.x.i=t.i→(∀y∈(A.map Item.x).reverse++hist,y.i∈t.bef∨Mt t.x y)→(∀d,d∈ax (iz t.ev)∨d∈(cT t.ev).ids→∀m,(d,m)∈al→m=t.i∨m∈t.bef)→pG al hist (A++[t])
 | [],hist,t,_,h1,h2,h3=>⟨h1,by simpa using h2,h3,trivial⟩
 | a :: A,hist,t,⟨q1,q2,q3,q4⟩,h1,h2,h3=>⟨q1,q2,q3,se A q4 h1 (by simpa using h2) h3⟩
theorem rl (hone:nS al) (l:List av) (s:St) (K:St→Prop) (hk:di P al 0 l.dropLast [] s fun hist s1=>match l.getLast? with
   | some o=>tS al (l.length - 1) o hist s1 K
   | none=>False) (hu:Un al (fun m=>0≤m) (get s.env) (ab s.heap))
  (hl:∀(j:Nat) (o:av),l[j]? = some o→(qV o.o=true→(o.o.dst.getD 0,0+j)∈al)∧(∀m∈o.bef,m<0+j)∧a_ o.o.op=true) :
  ∃(items:List Item) (s':St),K s'∧T P items (get s.env) (ab s.heap) (get s'.env) (ab s'.heap)∧pG al [] items∧items.map Item.i=List.range' 0 l.length∧items.map (fun t=>(⟨t.o,t.bef⟩:av))=l:=by
 obtain ⟨A,s1,h1,h2,h3,h4,h5⟩:=iE hone l.dropLast 0 [] s _ hk hu (fun y hy=>by cases hy) (fun j o hj=>hl j o (by
  rw [List.dropLast_eq_take,List.getElem?_take] at hj
  split at hj
  ·exact hj
  ·cases hj))
 cases hlast:l.getLast? with
 | none=>rw [hlast] at h1;exact h1.elim
 | some o =>
  rw [hlast] at h1
  simp only at h1
  have hne:l≠[]:=fun e=>by rw [e] at hlast;cases hlast
  have hll:l=l.dropLast++[o]:=by
   have:=List.dropLast_concat_getLast hne
   rw [List.getLast?_eq_some_getLast hne] at hlast
   cases hlast
   exact this.symm
  have hlen:l.dropLast.length=l.length - 1:=List.length_dropLast
  have hpos:=List.length_pos_iff.2 hne
  unfold tS at h1
  split at h1
  case h_2=>exact h1.elim
  rename_i t st x y hop
  obtain ⟨hg,h1⟩:=h1
  split at h1
  case h_2=>exact h1.elim
  rename_i v e hev
  obtain ⟨k1,k2,k3,k4,k5⟩:=h1
  have hst:dt P o.o (get s1.env) (ab s1.heap) (some (v,e)) ⟨l.length - 1,bu (.app t st x y) s1.env,ax v++e.ids,e.tch,true,true⟩ (get ((s1.eff e).put o.o.dst v).env) (ab ((s1.eff e).put o.o.dst v).heap):=by
   refine ⟨(fun k b hkb=>by rw [hg] at hkb;cases hkb),⟨?_,?_,?_,(fun hn=>absurd ⟨rfl,rfl⟩ hn),fun j ob he=>?_,fun d hd=>dz.2 hd,rfl,k2.symm,.inr ⟨rfl,rfl⟩,?_,?_,fun hh=>by cases hh⟩⟩
   ·unfold rZ
    rw [hop]
    exact .inl hev
   ·intro k hk he
    rw [hop] at hk
    have:=cZ.1 k1 k hk
    rw [he] at this
    cases this
   ·intro k hk id hid
    rw [hop] at hk
    exact .inl (fc.2 ⟨k,hk,hid⟩)
   ·subst he;cases k2
   ·rw [eN,jA]
   ·rw [dl,ib]
  refine ⟨A++[⟨l.length - 1,o.bef,o.o,some (v,e),⟨l.length - 1,bu (.app t st x y) s1.env,ax v++e.ids,e.tch,true,true⟩⟩],(s1.eff e).put o.o.dst v,k5,I9 A (t:=⟨l.length - 1,o.bef,o.o,some (v,e),⟨l.length - 1,bu (.app t st x y) s1.env,ax v++e.ids,e.tch,true,true⟩⟩) h2 hst,se A (t:=⟨l.length - 1,o.bef,o.o,some (v,e),⟨l.length - 1,bu (.app t st x y) s1.env,ax v++e.ids,e.tch,true,true⟩⟩) h3 rfl (fun z hz=>?_) (fun d (hd:d∈ax v∨d∈e.ids) m hm=>gx k4 d (dz.2 hd) m hm),?_,?_⟩
  ·have:=cZ.1 k3 z (by simpa using hz)
   rw [pV] at this
   rcases this with q | q
   ·exact .inl (by simpa using q)
   ·simp only [EL,I4,dZ,List.isEmpty_iff,nE,cZ,List.contains_eq_mem,decide_eq_false_iff_not] at q
    exact .inr (.inr ⟨rfl,rfl,q.1.1.1.1,q.2,q.1.1.1.2,q.1.1.2,q.1.2⟩)
  ·rw [List.map_append,h4,hlen,List.map_singleton]
   conv=>rhs;rw [show l.length=(l.length - 1)+1 by omega,List.range'_concat]
   simp
  ·rw [List.map_append,h5,List.map_singleton]
   exact hll.symm
end
theorem vU {i:Nat} {o:ac} {x:AV} (h:mP i x=false):iZ i o x=x:=by
 cases x<;>first | rfl | (simp only [mP,i1] at h;simp only [iZ];rw [aJ h])
theorem rB {f:AV→Bool} {r:AV→AV} (hh:∀x,f x=false→r x=x):∀l:List AV,l.any f=false→l.map r=l
 | [],_=>rfl
 | y :: l,hl=>by
  simp only [List.any_cons,Bool.or_eq_false_iff] at hl
  simp only [ee,hh y hl.1,rB hh l hl.2]
theorem re {i:Nat} {o:ac} {x:AV} (h:mC i x=false):lF i o x=x:=by
 cases x with
 | fn f caps=>simp only [mC] at h;simp only [lF,rB (fun x hx=>vU hx) caps h]
 | _=>simp only [mC] at h;simp only [lF];exact vU h
theorem vT {i:Nat} {o:ac} {x:AV} (h:mG i x=false):rf i o x=x:=by
 cases x with
 | agg cs=>simp only [mG] at h;simp only [rf,rB (fun x hx=>re hx) cs h]
 | _=>simp only [mG] at h;simp only [rf];exact re h
theorem Gt {i:Nat} {o:ac} {x:AV} (h:mV i x=false):kJ i o x=x:=by
 cases x with
 | tup vs=>simp only [mV] at h;simp only [kJ,rB (fun x hx=>vT hx) vs h]
 | _=>simp only [mV] at h;simp only [kJ];exact vT h
theorem Gs {i:Nat} {o q:ac} (h:q.isRec=true→∀r∈q.rows,∀y∈r,mC i y=false):fb i o q=q:=by
 unfold fb
 split
 ·rename_i hr
  have:q.rows.map (fun r=>r.map (lF i o))=q.rows:=by
   conv=>rhs;rw [← List.map_id q.rows]
   refine List.map_congr_left fun r hr'=>?_
   conv=>rhs;rw [id,← List.map_id r]
   exact List.map_congr_left fun y hy=>re (h hr r hr' y hy)
  rw [this]
 ·rfl
section
variable {P:Program} [aS P] {c:i3} [CT c P] {a:Act} {w:World} {o:Oper} {io:aD} {ops:Array Oper} {n:Nat}
theorem vj {g g':Nat→AV} {h h':Nat→Option ac} {ev:Option (AV×aM)} {x:HI} {bl:Nat→Option Nat} (hc:jP P n ops o=some io) (hn:c.n=n) (hst:dt P io g h ev x g' h') (hs:aB c bl g h a w)
  (hnew:qV io=true→h (io.dst.getD 0)=none∧bO (io.dst.getD 0) g h∧(io.dst.getD 0<1000∨1267650600228229401496703205376≤io.dst.getD 0)) {K:Act→World→Prop} {Q:Exit→Act→World→Prop}
  (hK:∀a' w' bl',aB c bl' g' h' a' w'→K a' w'):if Region.wanted o (yielded ops a.tmps) then o.wp P a w K Q∨(o.asks P a w∧LetsOut Q) else K (a.put o.dst undef) w:=by
 obtain ⟨h1,h2,h3,h4⟩:=j8 hc
 have hd:∀k,io.dst=some k→k<c.n:=fun k hk=>by rw [hn];exact h3 k (h2▸hk)
 have putB:∀{bl:Nat→Option Nat} {g:Nat→AV} {h:Nat→Option ac} {w:World} {v:Value} {y:AV},aB c bl g h a w→aO bl (aT bl c.MF h) w v y→aB c bl (dq g io.dst y) h (a.put o.dst v) w:=fun {bl g h w v y} hsb hv=>by
  rw [← h2]
  cases hdd:io.dst with
  | none=>exact hsb
  | some d=>exact hsb.put (hd d hdd) hv
 have hwant:∀k b t,io.g=some (k,b)→g k = .bool t→Region.wanted o (yielded ops a.tmps)=(t==b):=fun k b t hg hv=>by
  rcases h4 with ⟨_,g2⟩ | ⟨j,b',k',g1,g2,g3⟩
  ·rw [g2] at hg;cases hg
  ·rw [g3] at hg
   cases hg
   have hk:=hs.env k
   rw [hv] at hk
   have hkv:=hk.bool
   rw [(rU (a:=a) (k:=k) (fun b hb=>by rw [hb] at hkv;cases hkv)).2] at hkv
   have hkn:k<a.tmps.size:=by
    rcases bK k a.tmps.size with hlt | hge
    ·exact hlt
    ·rw [i2,Array.getElem?_eq_none hge] at hkv
     cases hkv
   have hy:yielded ops a.tmps j=some t:=by
    have:a.tmps[k]? = some (.bool t):=by
     rw [i2,lq hkn] at hkv
     rw [lq hkn]
     simpa using hkv
    simp [yielded,g2,this]
   simp only [Region.wanted,g1,hy]
   cases t<;>cases b<;>rfl
 cases ev with
 | none =>
  obtain ⟨⟨k,b,hg,hv⟩,rfl,rfl,_⟩:=hst
  have hnw:¬Region.wanted o (yielded ops a.tmps)=true:=by
   rcases hv with hv | hv
   ·rw [hwant k b _ hg hv];cases b<;>simp
   ·rcases h4 with ⟨_,g2⟩ | ⟨j,b',k',g1,g2,g3⟩
    ·rw [g2] at hg;cases hg
    ·rw [g3] at hg
     cases hg
     have hk:=hs.env k
     rw [hv] at hk
     simp [Region.wanted,g1,j0 (ops:=ops) g2 hk]
  rw [aJ hnw]
  exact hK _ _ _ (putB hs (y:=.tup []) ⟨[],rfl,trivial⟩)
 | some p =>
  obtain ⟨v,e⟩:=p
  obtain ⟨hgd,hf⟩:=hst
  have hw:Region.wanted o (yielded ops a.tmps)=true:=by
   rcases h4 with ⟨g1,_⟩ | ⟨j,b',k',g1,g2,g3⟩
   ·simp [Region.wanted,g1]
   ·rw [hwant k' b' b' g3 (hgd k' b' g3)];simp
  rw [bz hw]
  refine .inl ?_
  have hr:=hf.run
  unfold rZ at hr
  split at hr
  ·rename_i f args hop
   rw [hop] at h1
   obtain ⟨cl,hoo,hcl,hb,hv⟩:=sE h1
   rcases hr with ⟨rfl,_,args',b,q1,q2,q3,q4⟩ | ⟨k,ob,ob',Sb,rfl,q1,q2,q3,q4,_⟩ | ⟨d,ob,st,off,len,Sb,hdd,rfl,rfl,hrc,q2⟩
   rotate_left 2
   ·obtain ⟨u1,u2,u3⟩:=hnew (by simp [qV,hop,hdd])
    rw [hdd] at u1 u2 u3
    simp only [Option.getD_some] at u1 u2 u3
    refine fI (f:=f) (args:=cl.args.map a.eval) ?_ ?_
    ·have:=eY (w:=w) hb (cl.args.map a.eval)
     simp [execOp,hoo,resolve,hcl,Act.eval,Deferred.ofValue,invoke,this]
    ·have:=o6 hs q2 (gj hs hv) (fun id o hi=>by cases hi) [d] (fun r σ' hP id hid=>by
      obtain ⟨rfl,rfl⟩:=hP
      simp only [ab] at hid
      split at hid
      ·rename_i hki;subst hki;exact .inr ⟨by simp,u3,.inr u1⟩
      ·cases hid)
     simp only [Array.toArray_toList] at this
     refine this.mono fun e' w' ⟨u,r,σ',bl2,he,hP,hs',hv'⟩=>⟨u,he,?_⟩
     obtain ⟨rfl,rfl⟩:=hP
     have eg:(fun j=>fW [d] (g j))=g:=by funext j;simp [fW,u2.1 j]
     have eh:sZ [d] (ab []) (ab [(d,ob)]) h=(aM.new d ob).hp h:=by
      funext j
      simp only [sZ,ab,aM.hp,cJ]
      by_cases hj:d=j
      ·subst hj;simp
      ·have hj':¬j=d:=fun e=>hj e.symm
       simp only [aJ hj,aJ hj']
       cases hq:h j with
       | none=>rfl
       | some q =>
        simp only [Option.isSome_none,tT,fp,cK]
        congr 1
        unfold dk
        split
        ·rename_i hr2
         have e:q.rows.map (fun r=>r.map (gz [d]))=q.rows:=by
          refine (List.map_congr_left fun r hm=>?_).trans (List.map_id _)
          refine (List.map_congr_left fun x hx=>?_).trans (List.map_id _)
          simp [gz,u2.2 j q hq hr2 r hm x hx]
         rw [e]
        ·rfl
     rw [eg,eh] at hs'
     rw [eh] at hv'
     refine hK _ _ bl2 ?_
     rw [hf.hg,hf.hh]
     exact putB hs' hv'
   rotate_left
   ·refine fI (f:=f) (args:=cl.args.map a.eval) ?_ ?_
    ·have:=eY (w:=w) hb (cl.args.map a.eval)
     simp [execOp,hoo,resolve,hcl,Act.eval,Deferred.ofValue,invoke,this]
    ·have hσ:∀id o,ab [(k,ob)] id=some o→h id=some o:=fun id o hi=>by
      simp only [ab] at hi
      split at hi
      ·rename_i hki;subst hki;cases hi;exact q4
      ·cases hi
     have:=o6 hs q2 (gj hs hv) hσ [] (fun r σ' hP id hid=>by
      obtain ⟨rfl,rfl⟩:=hP
      simp only [ab] at hid
      split at hid
      ·rename_i hki;subst hki;exact .inl ⟨q3,by simp [ab]⟩
      ·cases hid)
     simp only [Array.toArray_toList] at this
     refine this.mono fun e' w' ⟨u,r,σ',bl2,he,hP,hs',hv'⟩=>⟨u,he,?_⟩
     obtain ⟨rfl,rfl⟩:=hP
     have eg:(fun j=>fW [] (g j))=g:=by funext j;simp [fW]
     have eh:sZ [] (ab [(k,ob)]) (ab [(k,ob')]) h=(aM.put k ob').hp h:=by
      funext j
      simp only [sZ,ab,aM.hp,cJ]
      by_cases hj:k=j
      ·subst hj;simp
      ·have hj':¬j=k:=fun e=>hj e.symm
       have:dk []=id:=by funext o;unfold dk gz;simp
       simp [hj,hj',this]
     rw [eg,eh] at hs'
     rw [eh] at hv'
     refine hK _ _ bl2 ?_
     rw [hf.hg,hf.hh]
     exact putB hs' hv'
   refine fI (f:=f) (args:=cl.args.map a.eval) ?_ ?_
   ·have:=eY (w:=w) hb (cl.args.map a.eval)
    simp [execOp,hoo,resolve,hcl,Act.eval,Deferred.ofValue,invoke,this]
   ·have:=qE hs q1 (gj hs hv) q2 b q3 q4
    simp only [Array.toArray_toList] at this
    refine this.mono fun e' w' ⟨u,he,hs',hv'⟩=>⟨u,he,?_⟩
    refine hK _ _ bl ?_
    rw [hf.hg,hf.hh]
    exact putB hs' hv'
  ·exact hr.elim
  ·rcases hr with hr | ⟨rfl,hal,t,st,rows,rfl,hr⟩
   ·refine lj (ug hs h1 hr fun q=>hnew (j4 q)) (fun r w' bl' q1 q2=>hK _ _ bl' ?_)
    rw [hf.hg,hf.hh]
    exact putB q1 q2
   ·refine lj (ug hs h1 hr fun q=>hnew (j4 q)) (fun r w' bl' q1 q2=>hK _ _ bl' ?_)
    obtain ⟨u1,u2,_⟩:=hnew (j4 hal)
    obtain ⟨f1,f2⟩:=q1.freeze (i:=io.dst.getD 0) (o:=⟨t,st,rows,false⟩) (by simp [aM.hp,cJ]) rfl
    have f3:=f2 _ _ q2
    have e1:(fun k=>kJ (io.dst.getD 0) ⟨t,st,rows,false⟩ ((aM.new (io.dst.getD 0) ⟨t,st,rows,false⟩).env g k))=g:=funext fun k=>Gt (u2.1 k)
    have e2:(fun j=>if j=io.dst.getD 0 then none else ((aM.new (io.dst.getD 0) ⟨t,st,rows,false⟩).hp h j).map (fb (io.dst.getD 0) ⟨t,st,rows,false⟩))=h:=funext fun j=>by
     by_cases hj:j=io.dst.getD 0
     ·rw [bz hj,hj,u1]
     ·rw [aJ hj]
      simp only [aM.hp,cJ,aJ hj]
      cases hq:h j with
      | none=>rfl
      | some q=>simp only [cK];rw [Gs fun hr=>u2.2 j q hq hr]
    have e3:kJ (io.dst.getD 0) ⟨t,st,rows,false⟩ (.ms (io.dst.getD 0) st 0 rows.length) = .sl st rows:=by simp [kJ,rf,lF,iZ]
    rw [e1,e2] at f1
    rw [e2,e3] at f3
    rw [hf.hg,hf.hh]
    exact putB f1 f3
theorem eZ {listed:Array Bool} {i:Nat}:i∈Region.ready .any ops listed↔i<ops.size∧listed.getD i true=false∧∃o,ops[i]? = some o∧∀d∈fS o,listed.getD d false=true:=by
 unfold Region.ready
 simp only [List.mem_filter,List.mem_range,dZ,nE]
 refine ⟨fun ⟨h1,h2,h3⟩=>⟨h1,h2,ops[i],lq h1,?_⟩,fun ⟨h1,h2,o,h3,h4⟩=>⟨h1,h2,?_⟩⟩
 ·rw [lq h1] at h3
  simp only [cK,Option.getD_some,Array.all_eq_true_iff_forall_mem,pV,nE] at h3
  intro d hd
  simp only [fS,List.mem_map,List.mem_filter,Array.mem_toList_iff] at hd
  obtain ⟨e,⟨he1,he2⟩,rfl⟩:=hd
  rcases h3 e he1 with h5 | h5
  ·rw [he2] at h5;cases h5
  ·exact h5
 ·rw [h3]
  simp only [cK,Option.getD_some,Array.all_eq_true_iff_forall_mem,pV,nE]
  intro e he
  cases hb:Region.binds .any e with
  | false=>exact .inl rfl
  | true =>
   refine .inr (h4 e.on ?_)
   simp only [fS,List.mem_map,List.mem_filter,Array.mem_toList_iff]
   exact ⟨e,⟨he,hb⟩,rfl⟩
structure gb (ops:Array Oper) (bs:List (List Nat)):Prop where
 lt:∀i o,ops[i]? = some o→∀d∈fS o,d<i
 via:∀i o,ops[i]? = some o→∀d∈bs.getD i [],d∈fS o∨∃m∈fS o,d∈bs.getD m []
theorem uX {bs:List (List Nat)} (h:Jy ops.toList bs=true):gb ops bs:=by
 have key:∀i o,ops[i]? = some o→(∀d∈fS o,d<i)∧∀d∈bs.getD i [],d∈fS o∨∃m∈fS o,d∈bs.getD m []:=fun i o hi=>by
  have hlt:i<ops.toList.length:=by
   have:=(ky.1 hi).1
   simpa using this
  have:=cZ.1 h i (List.mem_range.2 hlt)
  have hi':ops.toList[i]? = some o:=by rw [Array.getElem?_toList];exact hi
  simp only [hi',dZ,cZ,kw,pV,List.any_eq_true,List.contains_eq_mem] at this
  exact this
 exact ⟨fun i o hi=>(key i o hi).1,fun i o hi=>(key i o hi).2⟩
theorem gb.bef_lt {bs:List (List Nat)} (hO:gb ops bs):∀(i:Nat) (o:Oper),ops[i]? = some o→∀d∈bs.getD i [],d<i:=by
 intro i
 induction i using Nat.strongRecOn with
 | _ i ih =>
  intro o hi d hd
  rcases hO.via i o hi d hd with h1 | ⟨m,h1,h2⟩
  ·exact hO.lt i o hi d h1
  ·have hm:=hO.lt i o hi m h1
   have hms:m<ops.size:=Nat.lt_trans hm (ky.1 hi).1
   have:=ih m hm ops[m] (lq hms) d h2
   omega
theorem gb.listed {bs:List (List Nat)} (hO:gb ops bs) {p:Nat→Prop} (hdc:∀i o,p i→ops[i]? = some o→∀d∈fS o,p d):∀(i:Nat) (o:Oper),ops[i]? = some o→(∀d∈fS o,p d)→∀d∈bs.getD i [],p d:=by
 intro i
 induction i using Nat.strongRecOn with
 | _ i ih =>
  intro o hi he d hd
  rcases hO.via i o hi d hd with h1 | ⟨m,h1,h2⟩
  ·exact he d h1
  ·have hm:=hO.lt i o hi m h1
   have hms:m<ops.size:=Nat.lt_trans hm (ky.1 hi).1
   exact ih m hm ops[m] (lq hms) (hdc m _ (he m h1) (lq hms)) d h2
theorem w_ (hn:c.n=n) {al:List (Nat×Nat)} (hone:nS al) (hal:∀d m,(d,m)∈al→d<1000) {bs:List (List Nat)} (hO:gb ops bs) {gf:Nat→AV} {hf:Nat→Option ac} {Q:Exit→Act→World→Prop} (off fuel0:Nat) (Z:Nat→Prop)
  (hQ:∀(listed:Array Bool) a w bl,listed.size=ops.size→(∀j,j<ops.size→(listed.getD j true=false↔Z j))→aB c bl gf hf a w→wpAny P .any ops Q fuel0 listed a w):∀(fuel:Nat) (R:List Item) (listed:Array Bool) (g:Nat→AV) (h:Nat→Option ac) (a:Act) (w:World) (bl:Nat→Option Nat),R.length=fuel→listed.size=ops.size →
   aB c bl g h a w→T P R g h gf hf→Un al (fun m=>∃t∈R,t.i=m) g h →
   (∀j,j<ops.size→(listed.getD j true=false↔(∃t∈R,off+t.i=j)∨Z j)) →
   (∀j,Z j→∀t∈R,off+t.i∈bs.getD j []) →
   (∀i o,listed.getD i false=true→ops[i]? = some o→∀d∈fS o,listed.getD d false=true) →
   (∀t∈R,∃o,ops[off+t.i]? = some o∧jP P n ops o=some t.o∧(∀d∈t.bef,off+d∈bs.getD (off+t.i) [])∧a_ t.o.op=true∧(qV t.o=true→(t.o.dst.getD 0,t.i)∈al) ∧
    (∀d,d∈ax (iz t.ev)∨d∈(cT t.ev).ids→∀m,(d,m)∈al→m=t.i∨m∈t.bef)) →
   R.Pairwise (fun m t=>m.i<t.i∧(m.i∈t.bef∨(pW m.o t.o∧Mt t.x m.x)))→wpAny P .any ops Q (fuel+fuel0) listed a w:=by
 intro fuel
 induction fuel with
 | zero =>
  intro R listed g h a w bl hlen hsz hs ht hu hli hbk hdc hit hpw
  have hR:R=[]:=List.length_eq_zero_iff.1 hlen
  subst hR
  obtain ⟨rfl,rfl⟩:=ht
  rw [Nat.zero_add]
  refine hQ listed a w bl hsz (fun j hj=>?_) hs
  rw [hli j hj]
  refine ⟨fun hh=>?_,.inr⟩
  rcases hh with ⟨t,ht,_⟩ | hh
  ·cases ht
  ·exact hh
 | succ fuel ih =>
  intro R listed g h a w bl hlen hsz hs ht hu hli hbk hdc hit hpw
  have hgetD:∀j,j<ops.size→listed.getD j true=listed.getD j false:=fun j hj=>by
   have:j<listed.size:=by omega
   simp [i2,lq this]
  rw [Nat.add_right_comm]
  refine ⟨fun hr=>?_,fun i hi=>?_⟩
  ·
   exfalso
   cases R with
   | nil=>simp at hlen
   | cons t R =>
    obtain ⟨o,h1,_⟩:=hit t (by simp)
    have hlt:=(ky.1 h1).1
    have:off+t.i∈Region.ready .any ops listed:=eZ.2 ⟨hlt,(hli (off+t.i) hlt).2 (.inl ⟨t,by simp,rfl⟩),o,h1,fun d hd=>by
     have hdl:=hO.lt (off+t.i) o h1 d hd
     have hds:d<ops.size:=by omega
     cases hv:listed.getD d false with
     | true=>rfl
     | false =>
      rw [← hgetD d hds] at hv
      rcases (hli d hds).1 hv with ⟨q,hq,hqi⟩ | hz
      ·rcases bE.1 hq with rfl | hq
       ·omega
       ·have:=((List.pairwise_cons.1 hpw).1 q hq).1
        omega
      ·have h5:=hbk d hz t (by simp)
       have h6:=hO.bef_lt d ops[d] (lq hds) _ h5
       omega⟩
    rw [hr] at this
    cases this
  ·obtain ⟨h1,h2,o,h3,h4⟩:=eZ.1 hi
   have hbefs:∀d∈bs.getD i [],listed.getD d false=true:=hO.listed hdc i o h3 h4
   have hiR:∃t∈R,off+t.i=i:=by
    rcases (hli i h1).1 h2 with hh | hz
    ·exact hh
    ·exfalso
     cases R with
     | nil=>simp at hlen
     | cons t R =>
      have h5:=hbefs _ (hbk i hz t (by simp))
      obtain ⟨ot,hot,_⟩:=hit t (by simp)
      have hl:=(ky.1 hot).1
      have h6:=(hli (off+t.i) hl).2 (.inl ⟨t,by simp,rfl⟩)
      rw [hgetD _ hl,h5] at h6
      cases h6
   obtain ⟨t,htR,hti⟩:=hiR
   subst hti
   obtain ⟨A,B,rfl⟩:=List.append_of_mem htR
   obtain ⟨o',q1,q2,q3,q4,q5,q6⟩:=hit t (by simp)
   rw [h3] at q1
   cases q1
   have hbef:∀d∈t.bef,listed.getD (off+d) false=true:=fun d hd=>hbefs _ (q3 d hd)
   have hpA:∀m∈A,m.i<t.i∧(m.i∈t.bef∨(pW m.o t.o∧Mt t.x m.x)):=fun m hm=>(List.pairwise_append.1 hpw).2.2 m hm t (by simp)
   have hun:∀m∈A++B,m.i≠t.i:=fun m hm=>by
    rcases dz.1 hm with hm | hm
    ·have:=(hpA m hm).1;omega
    ·have:=((List.pairwise_cons.1 (List.pairwise_append.1 hpw).2.1).1 m hm).1;omega
   have hnot:∀m∈A++t :: B,listed.getD (off+m.i) false=false:=fun m hm=>by
    obtain ⟨om,hom,_⟩:=hit m hm
    have hl:=(ky.1 hom).1
    rw [← hgetD (off+m.i) hl]
    exact (hli (off+m.i) hl).2 (.inl ⟨m,hm,rfl⟩)
   obtain ⟨g1,hh1,hst,hT⟩:=Jh A t B g h gf hf ht (fun m hm=>by
    rcases (hpA m hm).2 with hb | hb
    ·have:=hbef m.i hb
     rw [hnot m (by simp [hm])] at this
     cases this
    ·exact hb) (fun m hm=>by obtain ⟨_,_,_,_,q,_⟩:=hit m (by simp [hm]);exact q) q4
   unfold wpOp
   rw [h3]
   simp only
   have hu':Un al (fun m=>∃q∈A++B,q.i=m) g1 hh1:=Un.step hst hu q4 q6 (fun m hm ⟨q,hq,hqi⟩=>by
    have:=hbef m hm
    rw [← hqi,hnot q (by
     rcases dz.1 hq with hq | hq
     ·simp [hq]
     ·simp [hq])] at this
    cases this) q5 hone (fun m ⟨q,hq,hqi⟩=>⟨⟨q,by
     rcases dz.1 hq with hq | hq
     ·simp [hq]
     ·simp [hq],hqi⟩,by rw [← hqi];exact hun q hq⟩)
   refine vj q2 hn hst hs (fun ha=>?_) (fun a' w' bl' hs'=>?_)
   ·obtain ⟨u1,u2⟩:=hu _ t.i (q5 ha) ⟨t,by simp,rfl⟩
    exact ⟨u1,u2,.inl (hal _ _ (q5 ha))⟩
   ·refine ih (A++B) (listed.setIfInBounds (off+t.i) true) g1 hh1 a' w' bl' (by simp at hlen ⊢;omega) (by simpa using hsz) hs' hT hu' (fun j hj=>?_) (fun j hz m hm=>hbk j hz m ?_) (fun j oj hj hoj d hd=>?_) (fun m hm=>?_) ?_
    ·have hset:(listed.setIfInBounds (off+t.i) true).getD j true=if off+t.i=j then true else listed.getD j true:=by
      simp only [i2,rW]
      split
      ·rename_i e;subst e;simp [hsz,h1]
      ·rfl
     rw [hset]
     constructor
     ·intro hv
      split at hv
      ·cases hv
      ·rename_i hne
       rcases (hli j hj).1 hv with ⟨q,hq,hqi⟩ | hz
       ·refine .inl ⟨q,?_,hqi⟩
        rcases dz.1 hq with hq | hq
        ·simp [hq]
        ·rcases bE.1 hq with rfl | hq
         ·exact absurd hqi hne
         ·simp [hq]
       ·exact .inr hz
     ·rintro (⟨q,hq,hqi⟩ | hz)
      ·rw [aJ (fun e=>hun q hq (by omega))]
       refine (hli j hj).2 (.inl ⟨q,?_,hqi⟩)
       rcases dz.1 hq with hq | hq
       ·simp [hq]
       ·simp [hq]
      ·rw [aJ (fun e=>by
        subst e
        have h5:=hbk _ hz t (by simp)
        have h6:=hO.bef_lt _ _ h3 _ h5
        omega)]
       exact (hli j hj).2 (.inr hz)
    ·rcases dz.1 hm with hm | hm
     ·simp [hm]
     ·simp [hm]
    ·have hset:∀k,(listed.setIfInBounds (off+t.i) true).getD k false=if off+t.i=k then true else listed.getD k false:=fun k=>by
      simp only [i2,rW]
      split
      ·rename_i e;subst e;simp [hsz,h1]
      ·rfl
     rw [hset] at hj ⊢
     split
     ·rfl
     ·split at hj
      ·rename_i e
       subst e
       rw [h3] at hoj
       cases hoj
       exact h4 d hd
      ·exact hdc j oj hj hoj d hd
    ·refine hit m ?_
     rcases dz.1 hm with hm | hm
     ·simp [hm]
     ·simp [hm]
    ·have hsub:(A++B).Sublist (A++t :: B):=List.Sublist.append_left (List.sublist_cons_self t B) A
     exact hpw.sublist hsub
end
def LQ (c:i3) (K:IX→St→Prop):Exit→Act→World→Prop
 | .normal,a,w=>∃s,K .nrm s∧bG c s a w
 | .ret,a,w=>∃s,K .ret s∧bG c s a w
 | .exit id,a,w=>∃s,K (.ext id) s∧bG c s a w
 | _,_,_=>False
section
variable {P:Program} [aS P] {c:i3} [CT c P] {n:Nat}
theorem sS {p:Nat→Prop} (h:∃n,p n):∃n,p n∧∀m,m<n→¬p m:=by
 obtain ⟨n,hn⟩:=h
 induction n using Nat.strongRecOn with
 | _ n ih =>
  by_cases hm:∃m,m<n∧p m
  ·obtain ⟨m,h1,h2⟩:=hm
   exact ih m h1 h2
  ·exact ⟨n,hn,fun m h1 h2=>hm ⟨m,h1,h2⟩⟩
open Classical in
theorem y9 {x:Code} {Q:Exit→Act→World→Prop} {a:Act} {w:World} (I:Nat→Act→World→Prop) (h0:∃n,I n a w)
  (round:∀n a w,I n a w→x.wp P (Exit.then (fun a' w'=>∃m,m<n∧I m a' w') Q) a w):(Code.loop x).wp P Q a w:=by
 refine wp_loop (fun a w=>∃n,I n a w) (fun a w=>if h:∃n,I n a w then Classical.choose (sS h) else 0) h0 (fun a w hI=>?_)
 have hc:=Classical.choose_spec (sS hI)
 refine Code.wp_mono (fun e a' w' hq=>?_) (round _ a w hc.1)
 cases e<;>try exact hq
 obtain ⟨m,hm,hI'⟩:=hq
 refine ⟨⟨m,hI'⟩,?_⟩
 rw [dif_pos ⟨m,hI'⟩,dif_pos hI]
 have hc':=Classical.choose_spec (sS (p:=fun n=>I n a' w') ⟨m,hI'⟩)
 rcases bK m (Classical.choose (sS (p:=fun n=>I n a' w') ⟨m,hI'⟩)) with h1 | h1
 ·exact absurd hI' (hc'.2 m h1)
 ·omega
theorem i_ {ops:Array Oper}:∀{l:List Oper} {il:List aD},od P n ops l=some il→il.length=l.length∧∀(j:Nat) (io:aD),il[j]? = some io→∃o,l[j]? = some o∧jP P n ops o=some io
 | [],il,h=>by simp only [od,bH] at h;subst h;simp
 | o :: r,il,h=>by
  simp only [od] at h
  split at h
  case h_2=>cases h
  rename_i x xs h1 h2
  cases h
  obtain ⟨h3,h4⟩:=i_ h2
  refine ⟨by simp [h3],fun j io hj=>?_⟩
  cases j with
  | zero=>simp at hj;subst hj;exact ⟨o,by simp,h1⟩
  | succ j=>simp at hj;obtain ⟨o',h5,h6⟩:=h4 j io hj;exact ⟨o',by simpa using h5,h6⟩
theorem i6:∀(l:List aD) (i:Nat) (d m:Nat),(d,m)∈bQ i l↔∃j o,l[j]? = some o∧qV o=true∧d=o.dst.getD 0∧m=i+j
 | [],i,d,m=>by simp [bQ]
 | o :: r,i,d,m=>by
  have ih:=i6 r (i+1) d m
  have key:(∃j o',(o :: r)[j]? = some o'∧qV o'=true∧d=o'.dst.getD 0∧m=i+j)↔(qV o=true∧d=o.dst.getD 0∧m=i)∨∃j o',r[j]? = some o'∧qV o'=true∧d=o'.dst.getD 0∧m=i+1+j:=by
   constructor
   ·rintro ⟨j,o',h1,h2,h3,h4⟩
    cases j with
    | zero=>simp at h1;subst h1;exact .inl ⟨h2,h3,by omega⟩
    | succ j=>exact .inr ⟨j,o',by simpa using h1,h2,h3,by omega⟩
   ·rintro (⟨h2,h3,h4⟩ | ⟨j,o',h1,h2,h3,h4⟩)
    ·exact ⟨0,o,by simp,h2,h3,by omega⟩
    ·exact ⟨j+1,o',by simpa using h1,h2,h3,by omega⟩
  rw [key,← ih]
  by_cases ha:qV o=true
  ·rw [show bQ i (o :: r)=(o.dst.getD 0,i) :: bQ (i+1) r from by simp [bQ,ha]]
   simp [ha]
  ·rw [show bQ i (o :: r)=bQ (i+1) r from by simp [bQ,ha]]
   simp [ha]
theorem mZ:∀{l:List Nat},rH l=true→l.Nodup
 | [],_=>by simp
 | x :: r,h=>by
  simp only [rH,dZ,nE,List.contains_eq_mem,decide_eq_false_iff_not] at h
  exact List.nodup_cons.2 ⟨h.1,mZ h.2⟩
theorem AU {al:List (Nat×Nat)} (h:(al.map (·.1)).Nodup):nS al:=by
 induction al with
 | nil=>intro d m m' h1;cases h1
 | cons p r ih =>
  simp only [ee,List.nodup_cons] at h
  intro d m m' h1 h2
  rcases bE.1 h1 with e1 | h1<;>rcases bE.1 h2 with e2 | h2
  ·rw [← e1] at e2;cases e2;rfl
  ·exact absurd (List.mem_map.2 ⟨(d,m'),h2,by rw [← e1]⟩) h.1
  ·exact absurd (List.mem_map.2 ⟨(d,m),h1,by rw [← e2]⟩) h.1
  ·exact ih h.2 d m m' h1 h2
theorem gP:∀(l:List Nat) (s:St) (d:Nat),(ab s.heap d=none∧bO d (get s.env) (ab s.heap))∨d∈l→ab (kills l s).heap d=none∧bO d (get (kills l s).env) (ab (kills l s).heap)
 | [],s,d,h=>by rcases h with h | h;exact h;cases h
 | i :: r,s,d,h=>by
  refine gP r (s.kill i) d ?_
  by_cases hd:d=i
  ·subst hd;exact .inl (bT s d)
  ·rcases h with ⟨h1,h2⟩ | h
   ·refine .inl ⟨by simp [St.kill,ek,bg,h1],fun k=>?_,fun j o hj hr q hq x hx=>?_⟩
    ·simp only [St.kill,fU]
     unfold fk
     split
     ·rfl
     ·exact h2.1 k
    ·simp only [St.kill,ek,bg,cj] at hj
     obtain ⟨o0,h3,rfl⟩:=hj
     split at h3
     ·cases h3
     ·rw [jp] at hr
      simp only [bV,hr,cX,List.mem_map] at hq
      obtain ⟨q0,hq0,rfl⟩:=hq
      obtain ⟨x0,hx0,rfl⟩:=List.mem_map.1 hx
      unfold iI
      split
      ·rfl
      ·exact h2.2 j o0 h3 hr q0 hq0 x0 hx0
   ·rcases bE.1 h with h | h
    ·exact absurd h hd
    ·exact .inr h
theorem oG {al:List (Nat×Nat)}:∀{items:List Item} {hist:List HI},pG al hist items→(∀t∈items,(∀y∈hist,y.i∈t.bef∨Mt t.x y)∧t.x.i=t.i∧(∀d,d∈ax (iz t.ev)∨d∈(cT t.ev).ids→∀m,(d,m)∈al→m=t.i∨m∈t.bef)) ∧
  items.Pairwise (fun m t=>m.i∈t.bef∨Mt t.x m.x)
 | [],_,_=>⟨by simp,List.Pairwise.nil⟩
 | t :: R,hist,h=>by
  obtain ⟨h1,h2,h3,h4⟩:=h
  obtain ⟨h5,h6⟩:=oG h4
  refine ⟨fun q hq=>?_,List.pairwise_cons.2 ⟨fun q hq=>?_,h6⟩⟩
  ·rcases bE.1 hq with rfl | hq
   ·exact ⟨h2,h1,h3⟩
   ·exact ⟨fun y hy=>(h5 q hq).1 y (by simp [hy]),(h5 q hq).2⟩
  ·have:=(h5 q hq).1 t.x (by simp)
   rwa [h1] at this
theorem tg (l:List Nat):∀(f k:Nat),(∀d,d<k→d∈l)→∀d,d<iu l f k→d∈l
 | 0,k,h=>h
 | f+1,k,h=>by
  simp only [iu]
  split
  ·rename_i hc
   refine tg l f (k+1) (fun d hd=>?_)
   rcases bK d k with h1 | h1
   ·exact h d h1
   ·obtain rfl:d=k:=by omega
    simpa using hc
  ·exact h
def t8 (bs:List (List Nat)) (N:Nat):Nat→List aD→List (Nat×List aD)→Prop
 | _,l,[]=>l=[]
 | i,l,(k,s) :: t=>k=i∧s≠[]∧∃r,l=s++r∧t8 bs N (i+s.length) r t∧(t≠[]→∀j,i+s.length≤j→j<N→∀d,d<i+s.length→d∈bs.getD j [])
theorem wz (bs:List (List Nat)) (N:Nat):∀(l:List aD) (i:Nat),i+l.length=N→t8 bs N i l (tG bs i l).1∧∀j,i≤j→j<N→(tG bs i l).2≤iu (bs.getD j []) j 0
 | [],i,h=>⟨rfl,fun j h1 h2=>by simp at h;omega⟩
 | o :: r,i,h=>by
  simp only [pD] at h
  obtain ⟨h1,h2⟩:=wz bs N r (i+1) (by omega)
  have hm:∀(m:Nat),m=(tG bs (i+1) r).2→∀j,i≤j→j<N→min m (iu (bs.getD i []) i 0)≤iu (bs.getD j []) j 0:=fun m hm j h3 h4=>by
   rcases bK i j with h5 | h5
   ·exact cE (Nat.min_le_left _ _) (by rw [hm];exact h2 j h5 h4)
   ·obtain rfl:i=j:=by omega
    exact Nat.min_le_right _ _
  rw [tG]
  generalize hs:tG bs (i+1) r=q at *
  obtain ⟨t,m⟩:=q
  match t,h1 with
  | [],h1 =>
   refine ⟨⟨rfl,by simp,r,rfl,h1,fun h=>absurd rfl h⟩,hm m rfl⟩
  | (k,s) :: t,h1 =>
   simp only
   split
   ·rename_i hc
    refine ⟨⟨rfl,by simp,r,rfl,h1,fun _ j h3 h4 d h5=>?_⟩,hm m rfl⟩
    simp only [za] at h3 h5
    exact tg _ j 0 (fun d hd=>absurd hd (Nat.not_lt_zero d)) d (Nat.lt_of_lt_of_le (show d<m by omega) (h2 j h3 h4))
   ·obtain ⟨e1,e2,r',e3,e4,e5⟩:=h1
    have e:i+1+s.length=i+(o :: s).length:=by simp;omega
    refine ⟨⟨rfl,by simp,r',by rw [e3];rfl,by rw [← e];exact e4,by rw [← e];exact e5⟩,hm m rfl⟩
theorem eS {ic x:aK} (h:cy ic=x) (hx:(∃ops dr,x = .reg ops dr)∨x = .skip∨x = .ret∨∃id,x = .exit id):ic=x:=by
 rcases hx with ⟨ops,dr,rfl⟩ | rfl | rfl | ⟨id,rfl⟩<;>cases ic<;>simp only [cy] at h<;>first | (cases h;done) | rfl | exact h
def I8 (ic ic0:aK):Prop:=(ic=ic0∨∃ops al dr,ic0 = .draw ops al dr∧(ic = .wild ops al dr∨∃cs,ic = .clon cs ops al dr))∨∃ops al dr,ic0 = .draw ops al dr∧ic = .free ops al dr
theorem qh {ic x:aK} (h:cy ic=x) (hx:(∃ops dr,x = .reg ops dr)∨∃ops al dr,x = .draw ops al dr):I8 ic x:=by
 rcases hx with ⟨ops,dr,rfl⟩ | ⟨ops,al,dr,rfl⟩
 ·exact .inl (.inl (eS h (.inl ⟨_,_,rfl⟩)))
 ·cases ic<;>simp only [cy] at h<;>first | (cases h;done) | skip
  ·exact .inl (.inl h)
  ·cases h;exact .inr ⟨_,_,_,rfl,rfl⟩
  ·cases h;exact .inl (.inr ⟨_,_,_,rfl,.inl rfl⟩)
  ·cases h;exact .inl (.inr ⟨_,_,_,rfl,.inr ⟨_,rfl⟩⟩)
theorem qd {α:Type} {F:α→Prop}:∀{l:List α},jQ l F→∀{x:α},x∈l→F x
 | [y],h,x,hx=>by obtain rfl:=eL.1 hx;exact h
 | y :: z :: r,h,x,hx=>by
  rcases bE.1 hx with rfl | hx
  ·exact h.1
  ·exact qd h.2 hx
theorem uB {R:List (Nat×av)} {t:Nat×av} (h:R.Pairwise (fun a b=>a.1≠b.1)) (ht:t∈R):(R.filter fun q=>q.1 != t.1).length+1=R.length:=by
 induction R with
 | nil=>cases ht
 | cons y R ih =>
  have h1:=(List.pairwise_cons.1 h).1
  have h2:=(List.pairwise_cons.1 h).2
  rcases bE.1 ht with e | ht
  ·subst e
   have e:R.filter (fun q=>q.1 != t.1)=R:=List.filter_eq_self.2 fun q hq=>bne_iff_ne.2 fun e=>h1 q hq e.symm
   have e2:(t.1 != t.1)=false:=by simp
   rw [List.filter_cons,e2,e]
   rfl
  ·have h3:=ih h2 ht
   have e2:(y.1 != t.1)=true:=bne_iff_ne.2 (h1 t ht)
   rw [List.filter_cons,e2]
   show ((R.filter fun q=>q.1 != t.1).length+1)+1=R.length+1
   omega
section
variable {ops:Array Oper} {bs:List (List Nat)} {L:List aD} {Q:Exit→Act→World→Prop} {a:Act} {w:World} {st:St} {KK:IX→St→Prop} {listed:Array Bool}
theorem gH {i:Nat} (hsz:listed.size=ops.size) (hl:∀j,j<ops.size→(listed.getD j true=false↔i≤j)) (j:Nat) (hj:j<ops.size):listed.getD j false=true↔j<i:=by
 have hgetD:listed.getD j true=listed.getD j false:=by
  have:j<listed.size:=by omega
  simp [i2,lq this]
 have:=hl j hj
 rw [hgetD] at this
 cases hv:listed.getD j false with
 | true=>simp [hv] at this;simpa using this
 | false=>simp [hv] at this;simpa using this
theorem gQ {i:Nat} (hO:gb ops bs) (hsz:listed.size=ops.size) (hl:∀j,j<ops.size→(listed.getD j true=false↔i≤j)) :
  ∀j o,listed.getD j false=true→ops[j]? = some o→∀d∈fS o,listed.getD d false=true:=fun j o hj ho d hd=>by
 have hjs:=(ky.1 ho).1
 have h1:=(gH hsz hl j hjs).1 hj
 have h2:=hO.lt j o ho d hd
 exact (gH hsz hl d (by omega)).2 (by omega)
theorem lX (hn:c.n=n) (hO:gb ops bs) (hL:od P n ops ops.toList=some L) {i:Nat} {s r:List aD} (hs:L.drop i=s++r) (hne:s≠[]) {dr:List Nat} {ic ic0:aK} (hc:xm bs i s dr=some ic0)
  (hic:I8 ic ic0) (hi:fN P ic st KK) (hst:bG c st a w) (hsz:listed.size=ops.size) (hl:∀j,j<ops.size→(listed.getD j true=false↔i≤j))
  (hcut:r≠[]→∀j,i+s.length≤j→j<ops.size→∀d,d<i+s.length→d∈bs.getD j [])
  (hnext:∀(st':St) (a':Act) (w':World) (listed':Array Bool),KK .nrm st'→bG c st' a' w'→listed'.size=ops.size→(∀j,j<ops.size→(listed'.getD j true=false↔i+s.length≤j))→wpAny P .any ops Q r.length listed' a' w') :
  wpAny P .any ops Q (s.length+r.length) listed a w:=by
 obtain ⟨hlen,hget'⟩:=i_ hL
 simp only [gW] at hlen
 have hsize:i+s.length+r.length=ops.size:=by
  have h1:=congrArg List.length hs
  have h2:0<s.length:=List.length_pos_iff.2 hne
  simp only [vx,wF,hlen] at h1
  omega
 have hopi:∀(j:Nat) (io:aD),s[j]? = some io→∃o,ops[i+j]? = some o∧jP P n ops o=some io:=fun j io hj=>by
  have h1:L[i+j]? = some io:=by
   rw [← List.getElem?_drop,hs,List.getElem?_append_left (dE.1 hj).1]
   exact hj
  obtain ⟨o,h2,h3⟩:=hget' (i+j) io h1
  exact ⟨o,by rw [← Array.getElem?_toList];exact h2,h3⟩
 have hcut':∀j,i+s.length≤j→j<ops.size→∀d,d<i+s.length→d∈bs.getD j []:=fun j h1 h2=>hcut (fun e=>by subst e;simp at hsize;omega) j h1 h2
 have one:∀o:aD,s=[o]→ic0 = .reg [o] dr→wpAny P .any ops Q (s.length+r.length) listed a w:=by
  rintro o rfl rfl
  obtain rfl:ic = .reg [o] dr:=by
   rcases hic with (h | ⟨_,_,_,h,_⟩) | ⟨_,_,_,h,_⟩
   ·exact h
   ·cases h
   ·cases h
  obtain ⟨oo,h1,h2⟩:=hopi 0 o rfl
  rw [Nat.add_zero] at h1
  have his:=(ky.1 h1).1
  rw [za,Nat.add_comm 1]
  have hrd:∀k∈Region.ready .any ops listed,k=i:=fun k hk=>by
   obtain ⟨k1,k2,ok,k3,k4⟩:=eZ.1 hk
   have k5:=(hl k k1).1 k2
   rcases bK i k with h5 | h5
   ·exfalso
    have h6:=hcut' k (by simp;omega) k1 i (by simp)
    have h7:=hO.listed (gQ hO hsz hl) k ok k3 k4 i h6
    have:=(gH hsz hl i his).1 h7
    omega
   ·omega
  refine ⟨fun hr=>?_,fun k hk=>?_⟩
  ·exfalso
   have:i∈Region.ready .any ops listed:=eZ.2 ⟨his,(hl i his).2 (bD _),oo,h1,fun d hd=>by
    have hdl:=hO.lt i oo h1 d hd
    exact (gH hsz hl d (by omega)).2 hdl⟩
   rw [hr] at this
   cases this
  ·obtain rfl:=hrd k hk
   unfold wpOp
   rw [h1]
   simp only [fN] at hi ⊢
   refine kc hn Q h2 hi hst fun s' a' w' h3 h4=>?_
   refine hnext _ a' w' _ h3 (bG.dels _ h4) (by simpa using hsz) (fun j hj=>?_)
   have hset:(listed.setIfInBounds k true).getD j true=if k=j then true else listed.getD j true:=by
    simp only [i2,rW]
    split
    ·rename_i e;subst e;simp [hsz,hj]
    ·rfl
   rw [hset,za]
   split
   ·rename_i e;subst e;simp
   ·rename_i e
    rw [hl j hj]
    omega
 have many:nI (jr bs i s.length) s dr=some ic0→wpAny P .any ops Q (s.length+r.length) listed a w:=by
  intro hc
  unfold nI at hc
  split at hc
  case isFalse=>cases hc
  rename_i hcond
  simp only [dZ] at hcond
  obtain ⟨⟨⟨c2,c3⟩,c4⟩,c5⟩:=hcond
  cases hc
  have hrel:∀k,k<s.length→∀d,d∈(jr bs i s.length).getD k []↔i+d∈bs.getD (i+k) []:=fun k hk d=>by
   have e:(jr bs i s.length).getD k []=(bs.getD (i+k) []).filterMap fun d=>if i≤d then some (d - i) else none:=by
    simp only [jr,List.getD_eq_getElem?_getD,d_,List.getElem?_range hk,cK,Option.getD_some]
   rw [e,List.mem_filterMap]
   constructor
   ·rintro ⟨q,hq,hqd⟩
    split at hqd
    ·cases hqd
     rwa [show i+(q - i)=q by omega]
    ·cases hqd
   ·intro hd
    exact ⟨i+d,hd,by rw [bz (by omega)];congr 1;omega⟩
  rcases hic with hic | ⟨_,_,_,hcc,rfl⟩
  rotate_left
  ·cases hcc
   simp only [fN] at hi
   have key:∀(fuel:Nat) (R:List (Nat×av)) (listed:Array Bool) (st:St) (a:Act) (w:World),R.length=fuel→bG c st a w→listed.size=ops.size →
     (∀j,j<ops.size→(listed.getD j true=false↔(∃t∈R,i+t.1=j)∨i+s.length≤j)) →
     (∀j o,listed.getD j false=true→ops[j]? = some o→∀d∈fS o,listed.getD d false=true) →
     (∀t∈R,t.1<s.length∧s[t.1]? = some t.2.o∧t.2.bef=(jr bs i s.length).getD t.1 [])→R.Pairwise (fun a b=>a.1≠b.1) →
     iR P fuel R st (fun s'=>KK .nrm ⟨dels dr s'.env,s'.heap⟩)→wpAny P .any ops Q (fuel+r.length) listed a w:=by
    intro fuel
    induction fuel with
    | zero =>
     intro R listed st a w hlen hst hsz hli hdc hit hpw hf
     have hR:R=[]:=List.length_eq_zero_iff.1 hlen
     subst hR
     rw [Nat.zero_add]
     refine hnext _ a w listed hf (bG.dels _ hst) hsz (fun j hj=>?_)
     rw [hli j hj]
     exact ⟨fun hh=>by rcases hh with ⟨t,ht,_⟩ | hh;cases ht;exact hh,.inr⟩
    | succ fuel ih =>
     intro R listed st a w hlen hst hsz hli hdc hit hpw hf
     have hgetD:∀j,j<ops.size→listed.getD j true=listed.getD j false:=fun j hj=>by
      have:j<listed.size:=by omega
      simp [i2,lq this]
     have hopR:∀t∈R,∃o,ops[i+t.1]? = some o∧jP P n ops o=some t.2.o:=fun t ht=>hopi t.1 t.2.o (hit t ht).2.1
     have hun:∀t∈R,listed.getD (i+t.1) false=false:=fun t ht=>by
      obtain ⟨o,ho,_⟩:=hopR t ht
      have hl:=(ky.1 ho).1
      rw [← hgetD _ hl]
      exact (hli _ hl).2 (.inl ⟨t,ht,rfl⟩)
     rw [Nat.add_right_comm]
     refine ⟨fun hr=>?_,fun k hk=>?_⟩
     ·exfalso
      have hex:∃m,∃t∈R,t.1=m:=by
       cases R with
       | nil=>simp at hlen
       | cons t R=>exact ⟨t.1,t,by simp,rfl⟩
      obtain ⟨m,⟨t,ht,rfl⟩,hmin⟩:=sS hex
      obtain ⟨o,ho,_⟩:=hopR t ht
      have hlt:=(ky.1 ho).1
      have:i+t.1∈Region.ready .any ops listed:=eZ.2 ⟨hlt,(hli _ hlt).2 (.inl ⟨t,ht,rfl⟩),o,ho,fun d hd=>by
       have hdl:=hO.lt (i+t.1) o ho d hd
       have hds:d<ops.size:=by omega
       cases hv:listed.getD d false with
       | true=>rfl
       | false =>
        rw [← hgetD d hds] at hv
        rcases (hli d hds).1 hv with ⟨q,hq,hqi⟩ | hz
        ·exact absurd ⟨q,hq,rfl⟩ (hmin q.1 (by omega))
        ·have:=(hit t ht).1;omega⟩
      rw [hr] at this
      cases this
     ·obtain ⟨k1,k2,o,k3,k4⟩:=eZ.1 hk
      have hbefs:∀d∈bs.getD k [],listed.getD d false=true:=hO.listed hdc k o k3 k4
      have hkR:∃t∈R,i+t.1=k:=by
       rcases (hli k k1).1 k2 with hh | hz
       ·exact hh
       ·exfalso
        cases R with
        | nil=>simp at hlen
        | cons t R =>
         have h1:=(hit t (by simp)).1
         have h2:=hbefs _ (hcut' k hz k1 (i+t.1) (by omega))
         rw [hun t (by simp)] at h2
         cases h2
      obtain ⟨t,ht,rfl⟩:=hkR
      obtain ⟨oo,ho,hco⟩:=hopR t ht
      rw [k3] at ho
      cases ho
      have htr:t∈Q_ R:=by
       unfold Q_
       rw [List.mem_filter]
       refine ⟨ht,cZ.2 fun q hq=>?_⟩
       cases hb:t.2.bef.contains q.1 with
       | false=>rfl
       | true =>
        exfalso
        have h1:q.1∈t.2.bef:=by simpa using hb
        rw [(hit t ht).2.2,hrel t.1 (hit t ht).1] at h1
        have h2:=hbefs _ h1
        rw [hun q hq] at h2
        cases h2
      have hft:=qd hf htr
      unfold wpOp
      rw [k3]
      simp only
      refine kc hn Q hco hft hst fun s' a' w' h3 h4=>?_
      have hfl:=uB hpw ht
      refine ih (R.filter fun q=>q.1 != t.1) (listed.setIfInBounds (i+t.1) true) s' a' w' (by omega) h4 (by simpa using hsz) (fun j hj=>?_) (fun j oj hj hoj d hd=>?_) (fun q hq=>hit q (List.mem_filter.1 hq).1) (hpw.sublist List.filter_sublist) h3
      ·have hset:(listed.setIfInBounds (i+t.1) true).getD j true=if i+t.1=j then true else listed.getD j true:=by
        simp only [i2,rW]
        split
        ·rename_i e;subst e;simp [hsz,k1]
        ·rfl
       rw [hset]
       constructor
       ·intro hv
        split at hv
        ·cases hv
        ·rename_i hne
         rcases (hli j hj).1 hv with ⟨q,hq,hqi⟩ | hz
         ·exact .inl ⟨q,List.mem_filter.2 ⟨hq,by simp;omega⟩,hqi⟩
         ·exact .inr hz
       ·rintro (⟨q,hq,hqi⟩ | hz)
        ·obtain ⟨hq1,hq2⟩:=List.mem_filter.1 hq
         have hq3:q.1≠t.1:=by simpa using hq2
         rw [aJ (by omega)]
         exact (hli j hj).2 (.inl ⟨q,hq1,hqi⟩)
        ·have h1:=(hit t ht).1
         rw [aJ (by omega)]
         exact (hli j hj).2 (.inr hz)
      ·have hset:∀k,(listed.setIfInBounds (i+t.1) true).getD k false=if i+t.1=k then true else listed.getD k false:=fun k=>by
        simp only [i2,rW]
        split
        ·rename_i e;subst e;simp [hsz,k1]
        ·rfl
       rw [hset] at hj ⊢
       split
       ·rfl
       ·split at hj
        ·rename_i e
         subst e
         rw [k3] at hoj
         cases hoj
         exact k4 d hd
        ·exact hdc j oj hj hoj d hd
   have hzl:((s.zipIdx.map fun p=>(⟨p.1,(jr bs i s.length).getD p.2 []⟩:av)).zipIdx.map fun p=>(p.2,p.1)).length=s.length:=by simp
   have hzm:∀t,t∈((s.zipIdx.map fun p=>(⟨p.1,(jr bs i s.length).getD p.2 []⟩:av)).zipIdx.map fun p=>(p.2,p.1))↔t.1<s.length∧s[t.1]? = some t.2.o∧t.2.bef=(jr bs i s.length).getD t.1 []:=fun t=>by
    obtain ⟨t1,⟨t2,t3⟩⟩:=t
    rw [List.mem_map]
    constructor
    ·rintro ⟨p,hp,he⟩
     obtain ⟨p1,p2⟩:=p
     cases he
     rw [List.mem_zipIdx_iff_getElem?] at hp
     simp only [d_,List.getElem?_zipIdx,Option.map_map,cj,Function.comp] at hp
     obtain ⟨io,h1,h2⟩:=hp
     cases h2
     exact ⟨(dE.1 h1).1,h1,by simp⟩
    ·rintro ⟨h1,h2,h3⟩
     refine ⟨(⟨t2,t3⟩,t1),?_,rfl⟩
     rw [List.mem_zipIdx_iff_getElem?]
     simp only at h1 h2 h3 ⊢
     simp [h2,h3]
   rw [dn,List.length_zipIdx] at hi
   refine key s.length _ listed st a w hzl hst hsz (fun j hj=>?_) (gQ hO hsz hl) (fun t ht=>(hzm t).1 ht) ?_ hi
   ·rw [hl j hj]
    constructor
    ·intro hij
     rcases bK j (i+s.length) with h1 | h1
     ·exact .inl ⟨(j - i,⟨s[j - i]'(by omega),(jr bs i s.length).getD (j - i) []⟩),(hzm _).2 ⟨by simp only;omega,eJ _,rfl⟩,by simp only;omega⟩
     ·exact .inr h1
    ·rintro (⟨t,ht,h1⟩ | h1)
     ·omega
     ·omega
   ·refine List.pairwise_map.2 ?_
    exact (List.nodup_iff_pairwise_ne.1 (by
     have:((s.zipIdx.map fun p=>(⟨p.1,(jr bs i s.length).getD p.2 []⟩:av)).zipIdx.map Prod.snd).Nodup:=by
      rw [List.zipIdx_map_snd]
      exact List.nodup_range'
     exact this):List.Pairwise _ _) |> List.pairwise_map.1
  have hone:nS (bQ 0 s):=AU (mZ c4)
  have hal:∀d m,(d,m)∈bQ 0 s→d<1000:=fun d m hd=>by simpa using cZ.1 c3 (d,m) hd
  have hlz:∀(j:Nat) (o:av),(s.zipIdx.map fun p=>(⟨p.1,(jr bs i s.length).getD p.2 []⟩:av))[j]? = some o→s[j]? = some o.o∧o.bef=(jr bs i s.length).getD j []:=fun j o hj=>by
   simp only [d_,List.getElem?_zipIdx,Option.map_map,cj,Function.comp] at hj
   obtain ⟨io,h1,rfl⟩:=hj
   exact ⟨h1,by simp⟩
  have hun:Un (bQ 0 s) (fun m=>0≤m) (get (kills ((bQ 0 s).map (·.1)) st).env) (ab (kills ((bQ 0 s).map (·.1)) st).heap):=(fun d m hdm _=>gP _ st d (.inr (List.mem_map.2 ⟨(d,m),hdm,rfl⟩)))
  have hpl:∀(j:Nat) (o:av),(s.zipIdx.map fun p=>(⟨p.1,(jr bs i s.length).getD p.2 []⟩:av))[j]? = some o→(qV o.o=true→(o.o.dst.getD 0,0+j)∈bQ 0 s)∧(∀m∈o.bef,m<0+j)∧a_ o.o.op=true:=(fun j o hj=>by
   obtain ⟨h1,h2⟩:=hlz j o hj
   obtain ⟨oo,h3,h4⟩:=hopi j o.o h1
   have hjl:=(dE.1 h1).1
   refine ⟨fun ha=>(i6 s 0 _ _).2 ⟨j,o.o,h1,ha,rfl,by omega⟩,fun m hm=>?_,cZ.1 c5 o.o (f7 h1)⟩
   rw [h2,hrel j hjl] at hm
   have:=hO.bef_lt (i+j) oo h3 _ hm
   omega)
  have trace:∃(items:List Item) (s':St),KK .nrm ⟨dels dr s'.env,s'.heap⟩∧T P items (get (kills ((bQ 0 s).map (·.1)) st).env) (ab (kills ((bQ 0 s).map (·.1)) st).heap) (get s'.env) (ab s'.heap)∧pG (bQ 0 s) [] items∧items.map Item.i=List.range' 0 (s.zipIdx.map fun p=>(⟨p.1,(jr bs i s.length).getD p.2 []⟩:av)).length∧items.map (fun t=>(⟨t.o,t.bef⟩:av))=s.zipIdx.map fun p=>(⟨p.1,(jr bs i s.length).getD p.2 []⟩:av):=by
   rcases hic with rfl | ⟨_,_,_,hcc,rfl | ⟨cs,rfl⟩⟩
   ·simp only [fN] at hi
    exact mU hone _ 0 [] _ _ hi hun (fun y hy=>by cases hy) hpl
   ·cases hcc
    simp only [fN] at hi
    exact rl hone _ _ _ hi hun hpl
   ·cases hcc
    simp only [fN] at hi
    exact @mU _ _ _ ⟨cs⟩ hone _ 0 [] _ _ hi hun (fun y hy=>by cases hy) hpl
  obtain ⟨items,s',hK,hT,hH,hidx,hmap⟩:=trace
  obtain ⟨bl,hk⟩:=bG.kills ((bQ 0 s).map (·.1)) hst
  have hilen:items.length=s.length:=by
   have:=congrArg List.length hmap
   simp at this
   omega
  have hitem:∀(j:Nat) (t:Item),items[j]? = some t→t.i=j∧s[j]? = some t.o∧t.bef=(jr bs i s.length).getD j []:=fun j t hj=>by
   have h1:(items.map Item.i)[j]? = some t.i:=by simp [hj]
   rw [hidx] at h1
   have h2:(items.map fun t=>(⟨t.o,t.bef⟩:av))[j]? = some ⟨t.o,t.bef⟩:=by simp [hj]
   rw [hmap] at h2
   obtain ⟨h3,h4⟩:=hlz j _ h2
   refine ⟨?_,h3,h4⟩
   rw [List.getElem?_range' (by
    have:=(dE.1 h1).1
    simpa using this)] at h1
   simp at h1
   omega
  have hmem:∀t∈items,t.i<s.length∧items[t.i]? = some t:=fun t ht=>by
   obtain ⟨j,hj⟩:=List.getElem?_of_mem ht
   have:=(hitem j t hj).1
   subst this
   exact ⟨by rw [← hilen];exact (dE.1 hj).1,hj⟩
  obtain ⟨hp1,hp2⟩:=oG hH
  refine w_ (Q:=Q) hn hone hal hO i r.length (fun j=>i+s.length≤j∧j<ops.size) (fun listed' a' w' bl' h1 h2 h3=>hnext _ a' w' listed' hK (bG.dels _ ⟨bl',h3⟩) h1 (fun j hj=>by rw [h2 j hj];exact ⟨fun h=>h.1,fun h=>⟨h,hj⟩⟩)) s.length items listed _ _ a w bl hilen hsz hk hT ?_ (fun j hj=>?_) (fun j hz t ht=>?_) (gQ hO hsz hl) (fun t ht=>?_) ?_
  ·intro d m hdm _
   exact gP _ st d (.inr (List.mem_map.2 ⟨(d,m),hdm,rfl⟩))
  ·rw [hl j hj]
   constructor
   ·intro hij
    rcases bK j (i+s.length) with h1 | h1
    ·have hj':j - i<items.length:=by omega
     exact .inl ⟨items[j - i],List.getElem_mem hj',by rw [(hitem (j - i) _ (eJ hj')).1];omega⟩
    ·exact .inr ⟨h1,hj⟩
   ·rintro (⟨t,ht,h1⟩ | h1)<;>omega
  ·exact hcut' j hz.1 hz.2 _ (by have:=(hmem t ht).1;omega)
  ·obtain ⟨h1,h2⟩:=hmem t ht
   obtain ⟨_,h3,h4⟩:=hitem t.i t h2
   obtain ⟨oo,h5,h6⟩:=hopi t.i t.o h3
   exact ⟨oo,h5,h6,fun d hd=>by rw [h4,hrel t.i h1] at hd;exact hd,cZ.1 c5 t.o (f7 h3),fun ha=>(i6 s 0 _ _).2 ⟨t.i,t.o,h3,ha,rfl,by omega⟩,(hp1 t ht).2.2⟩
  ·refine List.pairwise_iff_getElem.2 fun i' j hi' hj hij=>?_
   have e1:=hitem i' _ (eJ hi')
   have e2:=hitem j _ (eJ hj)
   refine ⟨by rw [e1.1,e2.1];exact hij,?_⟩
   rcases List.pairwise_iff_getElem.1 hp2 i' j hi' hj hij with h1 | h1
   ·exact .inl h1
   ·by_cases hb:items[i'].i∈items[j].bef
    ·exact .inl hb
    ·refine .inr ⟨?_,h1⟩
     have hap:=cZ.1 (cZ.1 c2 j (List.mem_range.2 (by omega))) i' (List.mem_range.2 hij)
     simp only [e1.2.1,e2.2.1,pV,List.contains_eq_mem,kw,dZ] at hap
     rw [e1.1,e2.2.2] at hb
     rcases hap with hap | ⟨hap1,hap2⟩
     ·exact absurd hap hb
     ·refine ⟨fun d hd=>?_,fun d hd=>?_⟩
      ·rw [hd] at hap1
       simp only [dZ,nE,decide_eq_false_iff_not,bne_iff_ne] at hap1
       exact ⟨hap1.1,hap1.2⟩
      ·rw [hd] at hap2
       simpa using hap2
 unfold xm at hc
 split at hc
 ·exact one _ rfl (by cases hc;rfl)
 ·exact many hc
end
theorem qi {ic x y:aK} (h:cy ic = .seq x y):∃x' y',cy x'=x∧cy y'=y∧(ic = .seq x' y'∨ic = .cut x' y'):=by
 cases ic<;>simp only [cy] at h<;>first | (cases h;done) | skip
 ·rename_i x' y';cases h;exact ⟨x',y',rfl,rfl,.inl rfl⟩
 ·rename_i x' y';cases h;exact ⟨x',y',rfl,rfl,.inr rfl⟩
theorem uu {ic x y:aK} {v:IV} (h:cy ic = .cond v x y):∃x' y',cy x'=x∧cy y'=y∧ic = .cond v x' y':=by
 cases ic<;>simp only [cy] at h<;>first | (cases h;done) | skip
 rename_i x' y';cases h;exact ⟨x',y',rfl,rfl,rfl⟩
theorem sH {ic x:aK} {id:Nat} (h:cy ic = .block id x):∃x',cy x'=x∧ic = .block id x':=by
 cases ic<;>simp only [cy] at h<;>first | (cases h;done) | skip
 rename_i x';cases h;exact ⟨x',rfl,rfl⟩
theorem uw {ic x:aK} (h:cy ic = .loop x):∃x',cy x'=x∧ic = .loop x':=by
 cases ic<;>simp only [cy] at h<;>first | (cases h;done) | skip
 rename_i x';cases h;exact ⟨x',rfl,rfl⟩
section
variable {ops:Array Oper} {bs:List (List Nat)} {L:List aD} {Q:Exit→Act→World→Prop}
theorem og {i:Nat} {s:List aD} {dr:List Nat} {ic:aK} (hc:xm bs i s dr=some ic):(∃ops dr,ic = .reg ops dr)∨∃ops al dr,ic = .draw ops al dr:=by
 unfold xm at hc
 split at hc
 ·cases hc;exact .inl ⟨_,_,rfl⟩
 ·unfold nI at hc
  split at hc
  ·cases hc;exact .inr ⟨_,_,_,rfl⟩
  ·cases hc
theorem vc (hn:c.n=n) (hO:gb ops bs) (hL:od P n ops ops.toList=some L) {dr:List Nat} {K:IX→St→Prop} :
  ∀(t:List (Nat×List aD)) (i:Nat) (l:List aD) (ic0 ic:aK) (st:St) (a:Act) (w:World) (listed:Array Bool),t8 bs ops.size i l t→L.drop i=l→p9 bs dr t=some ic0→cy ic=ic0→fN P ic st K→bG c st a w →
   listed.size=ops.size→(∀j,j<ops.size→(listed.getD j true=false↔i≤j))→wpAny P .any ops (LQ c K) l.length listed a w:=by
 intro t
 induction t with
 | nil =>
  intro i l ic0 ic st a w listed hok hd hc he hi hst hsz hl
  obtain rfl:l=[]:=hok
  simp only [p9,bH] at hc
  subst hc
  rw [eS he (.inl ⟨_,_,rfl⟩)] at hi
  simp only [fN,eT] at hi
  obtain ⟨hlen,_⟩:=i_ hL
  simp only [gW] at hlen
  have hsize:ops.size≤i:=by
   have:=congrArg List.length hd
   simp only [vx,hlen,lp] at this
   omega
  refine ⟨List.eq_nil_iff_forall_not_mem.2 fun j hj=>?_,⟨_,hi,bG.dels _ hst⟩⟩
  obtain ⟨h1,h2,_⟩:=eZ.1 hj
  have:=(hl j h1).1 h2
  omega
 | cons p t ih =>
  intro i l ic0 ic st a w listed hok hd hc he hi hst hsz hl
  obtain ⟨k,s⟩:=p
  obtain ⟨rfl,hne,r,rfl,hok',hcut⟩:=hok
  rw [wF]
  cases t with
  | nil =>
   obtain rfl:r=[]:=hok'
   simp only [p9] at hc
   have he':=qh he (og hc)
   refine lX (Q:=LQ c K) hn hO hL hd hne hc he' hi hst hsz hl (fun h=>absurd rfl h) (fun st' a' w' listed' h1 h2 h3 h4=>?_)
   obtain ⟨hlen,_⟩:=i_ hL
   simp only [gW] at hlen
   have hsize:ops.size≤k+s.length:=by
    have:=congrArg List.length hd
    simp only [vx,hlen,wF,lp] at this
    omega
   refine ⟨List.eq_nil_iff_forall_not_mem.2 fun j hj=>?_,⟨_,h1,h2⟩⟩
   obtain ⟨g1,g2,_⟩:=eZ.1 hj
   have:=(h4 j g1).1 g2
   omega
  | cons q t =>
   simp only [p9] at hc
   split at hc
   case h_2=>cases hc
   rename_i x y hx hy
   cases hc
   obtain ⟨x',y',e1,e2,e3⟩:=qi he
   have e4:=qh e1 (og hx)
   have hd':L.drop (k+s.length)=r:=by rw [← List.drop_drop,hd,List.drop_left]
   rcases e3 with rfl | rfl
   ·refine lX (Q:=LQ c K) hn hO hL hd hne hx e4 hi hst hsz hl (fun _=>hcut (by simp)) (fun st' a' w' listed' h1 h2 h3 h4=>?_)
    exact ih (k+s.length) r y y' st' a' w' listed' hok' hd' hy e2 h1 h2 h3 h4
   ·refine lX (Q:=LQ c K) hn hO hL hd hne hx e4 hi hst hsz hl (fun _=>hcut (by simp)) (fun st' a' w' listed' h1 h2 h3 h4=>?_)
    obtain ⟨s'',hwk,hk⟩:=h1
    exact ih (k+s.length) r y y' s'' a' w' listed' hok' hd' hy e2 hk (hwk _ _ _ h2) h3 h4
end
theorem ur {ops:Array Oper} {dr:List Nat→List Nat} {ic0 ic:aK} {id:Nat} {s:St} {K:IX→St→Prop} {a:Act} {w:World} (hm:P.follows .mixedOrders=true) (hc:A7 P n ops dr=some ic0) (he:cy ic=ic0) (hn:c.n=n) (hi:fN P ic s K) (hs:bG c s a w) :
  (Code.region id ops true).wp P (LQ c K) a w:=by
 unfold A7 at hc
 split at hc
 ·cases hc
 rename_i l hl
 split at hc
 case isFalse=>cases hc
 rename_i c1
 obtain ⟨hlen,_⟩:=i_ hl
 simp only [gW] at hlen
 refine wp_region_any hm ?_
 obtain ⟨bl,hs⟩:=hs
 have h1:=vc (K:=K) hn (uX c1) hl (tG (A0 ops.toList []) 0 l).1 0 l ic0 ic s a { w with drawn:=w.drawn+1 } (Array.replicate ops.size false) (wz _ ops.size l 0 (by omega)).1 rfl hc he hi ⟨bl,hs.world rfl rfl rfl⟩ (by simp) (fun j hj=>by simp [i2,hj])
 rw [hlen] at h1
 exact h1
theorem um (hm:P.follows .mixedOrders=true) (hn:c.n=n) {sh:List (List Nat)}:∀(x:Code) (ic0:aK),comp P n sh x=some ic0→∀(ic:aK),cy ic=ic0→∀(s:St) (K:IX→St→Prop) (a:Act) (w:World),fN P ic s K→bG c s a w→x.wp P (LQ c K) a w:=by
 intro x
 induction x with
 | skip=>intro ic0 hc ic he s K a w hi hs;simp only [comp,bH] at hc;subst hc;rw [eS he (by simp)] at hi;exact wp_skip ⟨s,hi,hs⟩
 | ret=>intro ic0 hc ic he s K a w hi hs;simp only [comp,bH] at hc;subst hc;rw [eS he (by simp)] at hi;exact wp_ret ⟨s,hi,hs⟩
 | exit id=>intro ic0 hc ic he s K a w hi hs;simp only [comp,bH] at hc;subst hc;rw [eS he (by simp)] at hi;exact wp_exit ⟨s,hi,hs⟩
 | label l=>intro ic0 hc ic he s K a w hi hs;simp only [comp,bH] at hc;subst hc;rw [eS he (by simp)] at hi;exact wp_label ⟨s,hi,hs⟩
 | seq x y ihx ihy =>
  intro ic0 hc ic he s K a w hi hs
  simp only [comp] at hc
  split at hc
  case h_2=>cases hc
  rename_i ix iy h1 h2
  cases hc
  obtain ⟨x',y',e1,e2,e3⟩:=qi he
  rcases e3 with rfl | rfl
  ·refine wp_seq (Code.wp_mono (fun e a' w' hq=>?_) (ihx ix h1 x' e1 s _ a w hi hs))
   cases e with
   | normal=>obtain ⟨s',hk,hs'⟩:=hq;exact ihy iy h2 y' e2 s' K a' w' hk hs'
   | _=>exact hq
  ·refine wp_seq (Code.wp_mono (fun e a' w' hq=>?_) (ihx ix h1 x' e1 s _ a w hi hs))
   cases e with
   | normal=>obtain ⟨s',⟨s'',hwk,hk⟩,hs'⟩:=hq;exact ihy iy h2 y' e2 s'' K a' w' hk (hwk _ _ _ hs')
   | _=>exact hq
 | cond v x y ihx ihy =>
  intro ic0 hc ic he s K a w hi hs
  simp only [comp] at hc
  split at hc
  case h_2=>cases hc
  rename_i iv ix iy h0 h1 h2
  cases hc
  obtain ⟨x',y',e1,e2,rfl⟩:=uu he
  simp only [fN] at hi
  split at hi
  case h_2=>exact hi.elim
  rename_i b hv
  obtain ⟨bl,hsb⟩:=hs
  have hvr:=aG hsb h0
  rw [hv] at hvr
  have href:∀q,b=q→bG c (refine iv q s) a w:=fun q hq=>by
   cases iv with
   | c y=>exact ⟨bl,hsb⟩
   | s k=>exact ⟨bl,hsb.congr (fun j=>by rw [show refine (.s k) q s=s.put (some k) (.bool q) from rfl,j_ hv hq]) (fun j=>rfl)⟩
  refine wp_cond hvr.bool ?_
  cases b with
  | true=>exact ihx ix h1 x' e1 _ K a w (hi.1 rfl) (href true rfl)
  | false=>exact ihy iy h2 y' e2 _ K a w (hi.2 rfl) (href false rfl)
 | block id x ih =>
  intro ic0 hc ic he s K a w hi hs
  simp only [comp,cj] at hc
  obtain ⟨ix,h1,rfl⟩:=hc
  obtain ⟨x',e1,rfl⟩:=sH he
  refine wp_block (Code.wp_mono (fun e a' w' hq=>?_) (ih ix h1 x' e1 s _ a w hi hs))
  cases e with
  | exit j =>
   obtain ⟨s',hk,hs'⟩:=hq
   simp only at hk
   simp only [Exit.inBlock]
   split
   ·rename_i hj;rw [bz hj] at hk;exact ⟨s',hk,hs'⟩
   ·rename_i hj;rw [aJ hj] at hk;exact ⟨s',hk,hs'⟩
  | _=>exact hq
 | loop x ih =>
  intro ic0 hc ic he s K a w hi hs
  simp only [comp,cj] at hc
  obtain ⟨ix,h1,rfl⟩:=hc
  obtain ⟨x',e1,rfl⟩:=uw he
  obtain ⟨I,⟨m,s0,h0,hwk⟩,hstep⟩:=hi
  refine y9 (fun m a w=>∃s,I m s∧bG c s a w) ⟨m,s0,h0,hwk _ _ _ hs⟩ (fun m a w ⟨s,hI,hs⟩=>?_)
  refine Code.wp_mono (fun e a' w' hq=>?_) (ih ix h1 x' e1 s _ a w (hstep m s hI) hs)
  cases e with
  | normal =>
   obtain ⟨s',⟨m',s'',h2,h3,h4⟩,hs'⟩:=hq
   exact ⟨m',h2,s'',h3,h4 _ _ _ hs'⟩
  | _=>exact hq
 | scope x ih =>
  intro ic0 hc ic he s K a w hi hs
  simp only [comp] at hc
  refine wp_scope_straight (Code.wp_mono (fun e a' w' hq=>?_) (ih ic0 hc ic he s K a w hi hs))
  cases e<;>exact hq
 | region id ops d =>
  intro ic0 hc ic he s K a w hi hs
  cases d with
  | true =>
   simp only [comp] at hc
   exact ur hm hc he hn hi hs
  | false =>
   simp only [comp] at hc
   split at hc
   case h_2=>cases hc
   rename_i l hl
   cases hc
   rw [eS he (.inl ⟨_,_,rfl⟩)] at hi
   simp only [fN] at hi
   exact wp_region_list (oO hn _ ops.toList l hl s _ a w hi hs (fun s' a' w' hk hs'=>⟨_,hk,bG.dels _ hs'⟩))
 | rangeFunc f ps as b=>intro ic0 hc;simp [comp] at hc
 | goto l=>intro ic0 hc;simp [comp] at hc
 | refuse y=>intro ic0 hc;simp [comp] at hc
end
def qC:AV→Bool
 | .any=>false
 | .tup _=>false
 | _=>true
def sR (s:St):iw→Option AV
 | .tmp k=>if qC (get s.env k) then some (get s.env k) else none
 | .cell k n=>match f8 n (get s.env k) (ab s.heap) with
  | some x=>if qC x then some x else none
  | none=>none
def rq (s:St):List iw→Option (List AV)
 | []=>some []
 | x :: r=>match sR s x,rq s r with
  | some y,some l=>some (y :: l)
  | _,_=>none
def ke (l:List iw) (s:St):Option AV :=
 match rq s l with
 | some [x]=>some x
 | some l=>some (.tup l)
 | none=>none
def fZ:Nat→List AV→List (Nat×AV)
 | _,[]=>[]
 | i,x :: r=>(i,x) :: fZ (i+1) r
theorem mR (E:List (Nat×AV)):∀(l:List AV) (i k:Nat),get (fZ i l++E) k=if i≤k then (match l[k - i]? with | some x=>x | none=>get E k) else get E k
 | [],i,k=>by simp [fZ]
 | x :: r,i,k=>by
  simp only [fZ,kx,get]
  by_cases h:i=k
  ·subst h;simp
  ·rw [aJ h,mR E r (i+1) k]
   by_cases h2:i+1≤k
   ·rw [bz h2,bz (by omega),show k - i=(k - (i+1))+1 by omega,List.getElem?_cons_succ]
   ·rw [aJ h2]
    by_cases h3:i≤k
    ·omega
    ·rw [aJ h3]
theorem rj:∀{l:List (Nat×AV)} {k:Nat},get l k = .any∨(k,get l k)∈l
 | [],k=>.inl rfl
 | (j,x) :: r,k=>by
  simp only [get]
  split
  ·rename_i h;subst h;exact .inr (by simp)
  ·rcases rj (l:=r) (k:=k) with h | h
   ·exact .inl h
   ·exact .inr (by simp [h])
section
variable {P:Program} [aS P] {c:i3} [CT c P] {bl:Nat→Option Nat} {a:Act} {w:World} {s:St}
theorem HV {M:Nat→Prop} {v:Value} {x:AV} (hx:qC x=true) (hv:aO bl M w v x):df bl M w v x:=by
 cases x<;>first | (simp [qC] at hx;done) | exact hv
def Rd (tmps:Array Value):ResultVar→Sem Value
 | .tmp t=>Pure.pure (tmps.getD t undef)
 | .cell q t=>do loadVar t (← asAddr (tmps.getD q undef))
theorem u9 (fn:Func) (tmps:Array Value):results fn tmps=(do let vs ← fn.results.mapM (Rd tmps);Pure.pure (if h:vs.size=1 then vs[0] else .tuple vs)):=by
 unfold results
 congr 1
theorem oP (hs:aB c bl (get s.env) (ab s.heap) a w):∀(rv:List ResultVar) (l:List iw),sF P rv=some l→∀(xs:List AV),rq s l=some xs →
  ∃vs:List Value,(rv.mapM (Rd a.tmps)).run P w = .ok vs w∧aC (df bl (aT bl c.MF (ab s.heap)) w) vs xs
 | [],l,hc,xs,hx=>by
  simp only [sF,bH] at hc
  subst hc
  simp only [rq,bH] at hx
  subst hx
  exact ⟨[],by simp,trivial⟩
 | .tmp t :: r,l,hc,xs,hx=>by
  simp only [sF] at hc
  split at hc
  case isFalse=>cases hc
  rename_i hlo
  simp only [cj] at hc
  obtain ⟨l',h1,rfl⟩:=hc
  simp only [rq] at hx
  split at hx
  case h_2=>cases hx
  rename_i y l2 h2 h3
  cases hx
  simp only [sR] at h2
  split at h2
  case isFalse=>cases h2
  rename_i hok
  cases h2
  obtain ⟨vs,h4,h5⟩:=oP hs r l' h1 l2 h3
  refine ⟨a.tmps.getD t undef :: vs,?_,HV hok (by rw [← tL hlo];exact hs.env t),h5⟩
  simp only [List.mapM_cons,Rd,Sem.run_bind,Sem.run_pure,Result.andThen_ok,h4]
 | .cell q t :: r,l,hc,xs,hx=>by
  simp only [sF] at hc
  split at hc
  case h_2=>cases hc
  rename_i n l' h0 h1
  split at hc
  case isFalse=>cases hc
  rename_i hlo
  cases hc
  simp only [rq] at hx
  split at hx
  case h_2=>cases hx
  rename_i y l2 h2 h3
  cases hx
  simp only [sR] at h2
  split at h2
  case h_2=>cases h2
  rename_i y' hld
  split at h2
  case isFalse=>cases h2
  rename_i hok
  cases h2
  obtain ⟨vs,h4,h5⟩:=oP hs r l' h1 l2 h3
  have hq:=hs.env q
  rw [tL hlo] at hq
  have fin:∀{b off:Nat} {cells:List AV},a.tmps.getD q undef = .pointer (some ⟨b,off,none⟩)→dc bl (aT bl c.MF (ab s.heap)) w b off cells→iF n cells=some y →
    ∃vs:List Value,((ResultVar.cell q t :: r).mapM (Rd a.tmps)).run P w = .ok vs w∧aC (df bl (aT bl c.MF (ab s.heap)) w) vs (y :: l2):=fun hv hcl hl=>by
   obtain ⟨u,h6,h7⟩:=gJ h0 hcl hl
   refine ⟨u :: vs,?_,h7,h5⟩
   simp only [List.mapM_cons,Rd,Sem.run_bind,hv,asAddr,Sem.run_pure,Result.andThen_ok,h6,h4]
  cases hval:get s.env q<;>rw [hval] at hld hq<;>simp only [f8] at hld<;>try cases hld
  case ip cells =>
   obtain ⟨b,off,h6,h7⟩:=dc.of_ip hq
   exact fin h6 h7 hld
  case mp id st row off =>
   split at hld
   case h_2=>cases hld
   rename_i ob hob
   split at hld
   case isFalse=>cases hld
   rename_i hst
   split at hld
   case h_2=>cases hld
   rename_i rr hr
   obtain ⟨b,hb,h6⟩:=hq.mp
   rw [← hst] at h6
   exact fin h6 ((dc.of_obj hs hob hb hr).drop off) hld
theorem CH {fn:Func} {l:List iw} {r:AV} (hs:aB c bl (get s.env) (ab s.heap) a w) (hc:sF P fn.results.toList=some l) (hr:ke l s=some r) :
  ∃v,(results fn a.tmps).run P w = .ok v w∧aO bl (aT bl c.MF (ab s.heap)) w v r:=by
 unfold ke at hr
 cases hx:rq s l with
 | none=>rw [hx] at hr;cases hr
 | some xs =>
  obtain ⟨vs,h1,h2⟩:=oP hs _ l hc xs hx
  have hrun:∀v,v=(if h:vs.toArray.size=1 then vs.toArray[0] else .tuple vs.toArray)→(results fn a.tmps).run P w = .ok v w:=fun v hv=>by
   subst hv
   rw [u9,Sem.run_bind,Array.mapM_eq_mapM_toList,Sem.run_map,h1]
   rfl
  rw [hx] at hr
  cases xs with
  | nil =>
   cases hr
   cases vs with
   | cons=>exact h2.elim
   | nil=>exact ⟨_,hrun _ rfl,[],by simp,trivial⟩
  | cons x xs =>
   cases xs with
   | nil =>
    cases hr
    cases vs with
    | nil=>exact h2.elim
    | cons v vs =>
     cases vs with
     | cons=>exact h2.2.elim
     | nil=>exact ⟨v,hrun _ (by simp),h2.1.toV⟩
   | cons y ys =>
    cases hr
    have hl:=h2.length
    refine ⟨_,hrun _ rfl,vs,?_,h2⟩
    rw [dif_neg (by simp [hl])]
def eO (l:List iw) (Post:AV→List (Nat×ac)→Prop) (e:IX) (s:St):Prop :=
 (∀j,e≠.ext j)∧∃s1,Wk s s1∧∃fs r σ',ke l (frzs fs s1)=some r∧(∀i o,ab σ' i=some o→ab (frzs fs s1).heap i=some o)∧fX r σ'∧Post r σ'
theorem oA {f:FuncId} {F:aF} {ic:aK} {args:List AV} {σ:List (Nat×ac)} {Post:AV→List (Nat×ac)→Prop} (E:List (Nat×AV)) (hE:∀p∈E,p∈(aS.T P).env) (hm:P.follows .mixedOrders=true) (hf:aq P f=some F) (hic:cy ic=F.body) (hlen:args.length=F.np)
  (hi:fN P ic ⟨fZ 0 args++E,σ⟩ (eO F.res Post)):aE P f args σ (fun id=>1000≤id∧id<1267650600228229401496703205376) Post:=by
 unfold aq at hf
 split at hf
 ·cases hf
 rename_i fn hfn
 split at hf
 ·cases hf
 rename_i body hbody
 split at hf
 case h_2=>cases hf
 rename_i b rs hb hrs
 split at hf
 case isFalse=>cases hf
 rename_i hnp
 cases hf
 intro bl MF w cargs hTH hTW hH hMF hargs
 have hal:cargs.length=fn.params.size+fn.nfree:=by rw [hargs.length];exact hlen
 let c:i3:=⟨w,bl,gM bl σ,MF,fn.ntmps,aS.T P,hTH,fun b hb ⟨id,o,h1,h2⟩=>hTW b hb (.inr ⟨id,o,h1,h2⟩),fun b hb hm=>hTW b hb (.inl hm),hnp.2⟩
 haveI:CT c P:=⟨rfl⟩
 have hs:aB c bl (get (fZ 0 args++E)) (ab σ) ⟨cargs.toArray++Array.replicate (fn.ntmps - cargs.toArray.size) undef,[]⟩ w:=by
  refine ⟨rfl,by simp [c];omega,fun k=>?_,hH,gD.refl _ _,fun id o q h1 h2=>.inr ⟨id,o,h1,h2⟩,fun _ _ _=>rfl,hMF⟩
  rw [mR]
  simp only [cq,cX,Nat.sub_zero]
  cases hk:args[k]? with
  | none =>
   simp only
   rcases rj (l:=E) (k:=k) with hg | hg
   ·rw [hg];trivial
   ·obtain ⟨h1,h2⟩:=(aS.T P).rel w (aT bl MF (ab σ)) hTH hTW _ (hE _ hg)
    have e:tv ⟨cargs.toArray++Array.replicate (fn.ntmps - cargs.toArray.size) undef,[]⟩ k = .pointer (some ⟨k - 1000000,0,none⟩):=aJ (by simp only at h1;omega)
    rw [e]
    exact h2.toC.toG.toV
  | some x =>
   obtain ⟨v,hv,hr⟩:=hargs.get hk
   have hlt:=(dE.1 hv).1
   have:(cargs.toArray++Array.replicate (fn.ntmps - cargs.toArray.size) undef).getD k undef=v:=by
    rw [i2,Array.getElem?_append_left (by simpa using hlt)]
    simp [hv]
   rw [tL (by have:=hnp.2;omega),this]
   exact hr
 refine calls_of_wp hfn hbody ?_
 refine Code.wp_mono (fun e a' w' hq=>?_) (um (c:=c) hm rfl body b hb ic hic ⟨fZ 0 args++E,σ⟩ _ _ w hi ⟨bl,hs⟩)
 have fin:∀{s':St} {ex:IX},eO rs Post ex s'→bG c s' a' w'→a'.defers=[]∧∃v,(results fn a'.tmps).run P w' = .ok v w'∧∃u r σ' bl',Ending.returned v = .returned u∧Post r σ'∧fX r σ'∧pE bl' (aT bl' MF (ab σ')) MF w' (ab σ')∧aO bl' (aT bl' MF (ab σ')) w' u r ∧
   gD (gM bl σ) w w'∧(∀id o b,ab σ' id=some o→bl' id=some b→w.heap.size≤b∨gM bl σ b)∧∀id,(1000≤id∧id<1267650600228229401496703205376)→bl' id=bl id:=by
  rintro s0 ex ⟨_,s',hwk,fs,r,σ',h1,h2,h3,h4⟩ hs0
  obtain ⟨bl',hs2⟩:=bG.frzs fs (hwk c a' w' hs0)
  obtain ⟨v,hv1,hv2⟩:=CH hs2 hrs h1
  have hs3:aB c bl' (get (frzs fs s').env) (ab σ') a' w':=hs2.weaken (fun _=>.inr rfl) h2
  refine ⟨hs2.defers,v,hv1,v,r,σ',bl',rfl,h4,h3,hs3.heap,?_,hs3.step,hs3.own,fun id hid=>hs3.stab id hid.1 hid.2⟩
  refine hv2.tr ⟨fun q hq _=>⟨fun hm2=>hq ?_,rfl⟩,fun _ c1 _ fr hb=>⟨c1,fr,hb,rfl⟩⟩ (fun _ _=>rfl)
  rcases hm2 with hm2 | ⟨id,o,h5,h6⟩
  ·exact .inl hm2
  ·exact .inr ⟨id,o,h2 id o h5,h6⟩
 cases e with
 | normal=>obtain ⟨s',hk,hs'⟩:=hq;exact fin hk hs'
 | ret=>obtain ⟨s',hk,hs'⟩:=hq;exact fin hk hs'
 | exit id=>obtain ⟨s',hk,hs'⟩:=hq;exact absurd rfl (hk.1 id)
 | _=>exact hq.elim
theorem aP {f:FuncId} {F:aF} {ic:aK} {args:List AV} {σ:List (Nat×ac)} {Post:AV→List (Nat×ac)→Prop} (hm:P.follows .mixedOrders=true) (hf:aq P f=some F) (hic:cy ic=F.body) (hlen:args.length=F.np)
  (hi:fN P ic ⟨fZ 0 args,σ⟩ (eO F.res Post)):aE P f args σ (fun id=>1000≤id∧id<1267650600228229401496703205376) Post :=
 oA [] (fun p hp=>by cases hp) hm hf hic hlen (by rw [mM];exact hi)
theorem aE.mono {f:FuncId} {args:List AV} {σ:List (Nat×ac)} {Sb Sb':Nat→Prop} {Post Post':AV→List (Nat×ac)→Prop} (h:aE P f args σ Sb Post) (hs:∀id,Sb' id→Sb id) (hp:∀r σ',Post r σ'→Post' r σ'):aE P f args σ Sb' Post' :=
 fun bl MF w cargs t1 t2 h1 h2 h3=>(h bl MF w cargs t1 t2 h1 h2 h3).mono fun _ _ ⟨v,r,σ',bl',q1,q2,q3,q4,q5,q6,q7,q8⟩=>⟨v,r,σ',bl',q1,hp _ _ q2,q3,q4,q5,q6,q7,fun id hid=>q8 id (hs id hid)⟩
def nV (l:List iw) (r:AV) (e:IX) (s:St):Prop:=(∀j,e≠.ext j)∧∃s1,Wk s s1∧∃fs,ke l (frzs fs s1)=some r∧ax r=[]
theorem ca {f:FuncId} (hs:decide (P.funcs.size≤4000000)=true) (h:aY P f=true):f<4000000:=by
 have h1:f<P.funcs.size:=by
  unfold aY at h
  by_cases q:f<P.funcs.size
  ·exact q
  ·rw [Array.getElem?_eq_none (Nat.le_of_not_lt q)] at h
   cases h
 have h2:=of_decide_eq_true hs
 exact Nat.lt_of_lt_of_le h1 h2
theorem kP:∀(x:aK) (s:St) (K K':IX→St→Prop),(∀e s,K e s→K' e s)→fN P x s K→fN P x s K':=by
 have icallm0:∀{f:FuncId} {args:List AV} {d:Option Nat} {s:St} {K K':St→Prop},(∀s,K s→K' s)→lI P f args d s K→lI P f args d s K':=fun {f args d s K K'} hK h=>by
  rcases h with ⟨args',r,b,h1,h2,h3,h4,h5⟩ | ⟨σ0,Sb,Post,ks,h1,h2,h3,h4⟩
  ·exact .inl ⟨args',r,b,h1,h2,h3,h4,hK _ h5⟩
  ·exact .inr ⟨σ0,Sb,Post,ks,h1,h2,h3,fun r σ' hp=>by obtain ⟨s',q1,q2,q3⟩:=h4 r σ' hp;exact ⟨s',q1,q2,hK _ q3⟩⟩
 have icallm:∀{f:FuncId} {args:List AV} {d:Option Nat} {s:St} {K K':St→Prop},(∀s,K s→K' s)→dB P f args d s K→dB P f args d s K':=fun {f args d s K K'} hK h=>h.imp (icallm0 hK) fun h=>h.imp (fun ⟨fs,h⟩=>⟨fs,icallm0 hK h⟩) fun ⟨s',a',hw,h⟩=>⟨s',a',hw,icallm0 hK h⟩
 have iopm:∀{o:aD} {s:St} {K K':St→Prop},(∀s,K s→K' s)→fq P o s K→fq P o s K':=fun {o s K K'} hK h=>by
  unfold fq at h ⊢
  split at h
  ·exact icallm hK h
  ·split at h
   ·split at h
    ·rename_i hlt;rw [bz hlt];exact ⟨h.1,icallm hK h.2⟩
    ·rename_i hlt;rw [aJ hlt];exact ⟨h.1,icallm hK h.2⟩
   ·exact h
  ·refine ⟨h.1,?_⟩
   have h2:=h.2
   split at h2
   ·exact hK _ h2
   ·obtain ⟨s',hw,h3⟩:=h2
    refine ⟨s',hw,?_⟩
    unfold ta at h3 ⊢
    split at h3
    ·exact hK _ h3
    ·exact h3.elim
  ·refine ⟨h.1,?_⟩
   have h2:=h.2
   unfold jU at h2 ⊢
   repeat' (split at h2)
   all_goals first | exact hK _ h2 | exact h2.elim
  ·split at h
   ·exact ⟨hK _ h.1,hK _ h.2⟩
   ·split at h
    ·exact hK _ h
    ·exact h.elim
  ·by_cases ha:i7 o.op=true
   ·rw [bz ha] at h ⊢
    refine ⟨h.1,?_⟩
    have h2:=h.2
    split at h2
    ·exact hK _ h2
    ·exact h2.elim
   ·rw [aJ ha] at h ⊢
    split at h
    ·exact hK _ h
    ·exact h
 have iopsm:∀(l:List aD) (s:St) (K K':St→Prop),(∀s,K s→K' s)→eT P l s K→eT P l s K':=by
  intro l
  induction l with
  | nil=>intro s K K' hK h;exact hK s h
  | cons o r ih =>
   intro s K K' hK h
   unfold eT at h ⊢
   split at h
   ·exact iopm (fun s' hs'=>ih s' K K' hK hs') h
   ·split at h
    ·exact ⟨fun ht=>iopm (fun s' hs'=>ih s' K K' hK hs') (h.1 ht),fun ht=>ih _ K K' hK (h.2 ht)⟩
    ·exact ih _ K K' hK h
    ·exact h
 have idopm:∀[Cl] {al:List (Nat×Nat)} {i:Nat} {o:av} {hist:List HI} {s:St} {K K':List HI→St→Prop},(∀x s,K x s→K' x s)→bX P al i o hist s K→bX P al i o hist s K':=fun {_} {al i o hist s K K'} hK h=>by
  unfold bX at h ⊢
  split at h
  ·rcases h with ⟨args',r,b,h1,h2,h3,h4,h5,h6,h7,h8⟩ | ⟨k,ob,ob',Sb,r,h1,h2,h3,h4,h5,h6,h7,h8,h9⟩ | ⟨d,ob,st,off,len,Sb,h1,h2,h3,h4,h5,h6,h7⟩
   ·exact .inl ⟨args',r,b,h1,h2,h3,h4,h5,h6,h7,hK _ _ h8⟩
   ·exact .inr (.inl ⟨k,ob,ob',Sb,r,h1,h2,h3,h4,h5,h6,h7,h8,hK _ _ h9⟩)
   ·exact .inr (.inr ⟨d,ob,st,off,len,Sb,h1,h2,h3,h4,h5,h6,hK _ _ h7⟩)
  ·exact h
  ·rcases h with h | ⟨rows,h1,h2,h3,h4,h5⟩
   ·refine .inl ?_
    split at h
    ·exact ⟨h.1,h.2.1,h.2.2.1,hK _ _ h.2.2.2⟩
    ·exact h
   ·exact .inr ⟨rows,h1,h2,h3,h4,hK _ _ h5⟩
  ·split at h
   ·rename_i hcl
    rw [bz hcl]
    split at h
    ·exact ⟨h.1,h.2.1,hK _ _ h.2.2⟩
    ·exact h
   ·rename_i hcl
    rw [aJ hcl]
    split at h
    ·exact ⟨h.1,h.2.1,h.2.2.1,hK _ _ h.2.2.2⟩
    ·exact h
  ·split at h
   ·exact ⟨h.1,h.2.1,h.2.2.1,hK _ _ h.2.2.2⟩
   ·exact h
 have idopsHm:∀[Cl] {al:List (Nat×Nat)} (l:List av) (i:Nat) (hist:List HI) (s:St) (K K':List HI→St→Prop),(∀x s,K x s→K' x s)→di P al i l hist s K→di P al i l hist s K':=by
  intro _ al l
  induction l with
  | nil=>intro i hist s K K' hK h;exact hK _ s h
  | cons o r ih =>
   intro i hist s K K' hK h
   unfold di at h ⊢
   split at h
   ·exact idopm (fun x s' hs'=>ih (i+1) x s' K K' hK hs') h
   ·split at h
    ·exact ⟨fun ht=>idopm (fun x s' hs'=>ih (i+1) x s' K K' hK hs') (h.1 ht),fun ht=>ih _ _ _ K K' hK (h.2 ht)⟩
    ·exact ih _ _ _ K K' hK h
    ·exact h
 have idopsm:∀[Cl] {al:List (Nat×Nat)} (l:List av) (i:Nat) (hist:List HI) (s:St) (K K':St→Prop),(∀s,K s→K' s)→fV P al i l hist s K→fV P al i l hist s K':=fun {_ _} l i hist s K K' hK h=>idopsHm l i hist s _ _ (fun _ s h=>hK s h) h
 intro x
 induction x with
 | skip=>intro s K K' hK h;exact hK _ _ h
 | ret=>intro s K K' hK h;exact hK _ _ h
 | exit id=>intro s K K' hK h;exact hK _ _ h
 | seq x y ihx ihy =>
  intro s K K' hK h
  refine ihx s _ _ (fun e s' hh=>?_) h
  cases e with
  | nrm=>exact ihy s' K K' hK hh
  | _=>exact hK _ _ hh
 | cut x y ihx ihy =>
  intro s K K' hK h
  refine ihx s _ _ (fun e s' hh=>?_) h
  cases e with
  | nrm=>obtain ⟨s'',h1,h2⟩:=hh;exact ⟨s'',h1,ihy s'' K K' hK h2⟩
  | _=>exact hK _ _ hh
 | cond v t e iht ihe =>
  intro s K K' hK h
  unfold fN at h ⊢
  split at h
  ·exact ⟨fun hb=>iht _ K K' hK (h.1 hb),fun hb=>ihe _ K K' hK (h.2 hb)⟩
  ·exact h
 | block id x ih =>
  intro s K K' hK h
  refine ih s _ _ (fun e s' hh=>?_) h
  cases e with
  | ext j =>
   simp only at hh ⊢
   split
   ·rename_i hj;rw [bz hj] at hh;exact hK _ _ hh
   ·rename_i hj;rw [aJ hj] at hh;exact hK _ _ hh
  | _=>exact hK _ _ hh
 | loop x ih =>
  intro s K K' hK h
  obtain ⟨I,h0,h1⟩:=h
  refine ⟨I,h0,fun n s hI=>ih s _ _ (fun e s' hh=>?_) (h1 n s hI)⟩
  cases e with
  | nrm=>exact hh
  | _=>exact hK _ _ hh
 | reg ops dr=>intro s K K' hK h;exact iopsm ops s _ _ (fun s' hs'=>hK _ _ hs') h
 | draw ops al dr=>intro s K K' hK h;exact idopsm ops 0 [] _ _ _ (fun s' hs'=>hK _ _ hs') h
 | clon cs ops al dr=>intro s K K' hK h;exact @idopsm ⟨cs⟩ _ ops 0 [] _ _ _ (fun s' hs'=>hK _ _ hs') h
 | wild ops al dr =>
  intro s K K' hK h
  refine idopsHm _ _ _ _ _ _ (fun hist s1 hh=>?_) h
  split at hh
  ·unfold tS at hh ⊢
   split at hh
   ·refine ⟨hh.1,?_⟩
    replace hh:=hh.2
    split at hh
    ·exact ⟨hh.1,hh.2.1,hh.2.2.1,hh.2.2.2.1,hK _ _ hh.2.2.2.2⟩
    ·exact hh
   ·exact hh
  ·exact hh
 | free ops al dr =>
  intro s K K' hK h
  have conjm:∀{α:Type} {F F':α→Prop} (l:List α),(∀x,F x→F' x)→jQ l F→jQ l F':=by
   intro α F F' l hF
   induction l with
   | nil=>exact fun _=>trivial
   | cons x l ih =>
    cases l with
    | nil=>exact hF x
    | cons y l=>exact fun h=>⟨hF x h.1,ih h.2⟩
  have frm:∀(f:Nat) (R:List (Nat×av)) (s:St) (K K':St→Prop),(∀s,K s→K' s)→iR P f R s K→iR P f R s K':=by
   intro f
   induction f with
   | zero=>intro R s K K' hK h;exact hK s h
   | succ f ih=>intro R s K K' hK h;exact conjm _ (fun t ht=>iopsm _ _ _ _ (fun s' hs'=>ih _ s' K K' hK hs') ht) h
  exact frm _ _ _ _ _ (fun s' hs'=>hK _ _ hs') h
theorem td {f:FuncId} {F:aF} {ic:aK} {args:List AV} {r:AV} (E:List (Nat×AV)) (hE:∀p∈E,p∈(aS.T P).env) (hm:P.follows .mixedOrders=true) (hf:aq P f=some F) (hic:cy ic=F.body) (hlen:args.length=F.np) (hi:fN P ic ⟨fZ 0 args++E,[]⟩ (nV F.res r)):ak P f args r:=by
 refine (oA (Post:=fun r' σ'=>r'=r∧σ'=[]) E hE hm hf hic hlen (kP _ _ _ _ (fun e s ⟨h1,s1,hw,fs,h2,h3⟩=>⟨h1,s1,hw,fs,r,[],h2,fun i o hi=>by simp [ab] at hi,⟨(fun i hi=>by rw [h3] at hi;cases hi),(fun p hp=>by cases hp)⟩,rfl,rfl⟩) hi)).mono (fun _ h=>h.elim) (fun _ _ h=>h)
theorem ah {f:FuncId} {F:aF} {ic:aK} {args:List AV} {r:AV} (hm:P.follows .mixedOrders=true) (hf:aq P f=some F) (hic:cy ic=F.body) (hlen:args.length=F.np) (hi:fN P ic ⟨fZ 0 args,[]⟩ (nV F.res r)):ak P f args r:=by
 refine (aP (Post:=fun r' σ'=>r'=r∧σ'=[]) hm hf hic hlen (kP _ _ _ _ (fun e s ⟨h1,s1,hw,fs,h2,h3⟩=>⟨h1,s1,hw,fs,r,[],h2,fun i o hi=>by simp [ab] at hi,⟨(fun i hi=>by rw [h3] at hi;cases hi),(fun p hp=>by cases hp)⟩,rfl,rfl⟩) hi)).mono (fun _ h=>h.elim) (fun _ _ h=>h)
end
def mv (d j:Nat):aD:=⟨some d,.mov (.s j),none⟩
def mt (d j k:Nat):aD:=⟨some d,.mov (.s j),some (k,true)⟩
def mf (d j k:Nat):aD:=⟨some d,.mov (.s j),some (k,false)⟩
def o0 (d:Nat) (o:fK):aD:=⟨some d,o,none⟩
def ot (d k:Nat) (o:fK):aD:=⟨some d,o,some (k,true)⟩
def oF (d k:Nat) (o:fK):aD:=⟨some d,o,some (k,false)⟩
theorem TX (d j:Nat):mv d j =⟨some d,.mov (.s j),none⟩:=rfl
theorem TW (d j k:Nat):mt d j k =⟨some d,.mov (.s j),some (k,true)⟩:=rfl
theorem TU (d j k:Nat):mf d j k =⟨some d,.mov (.s j),some (k,false)⟩:=rfl
theorem UK (d:Nat) (o:fK):o0 d o =⟨some d,o,none⟩:=rfl
theorem UO (d k:Nat) (o:fK):ot d k o =⟨some d,o,some (k,true)⟩:=rfl
theorem UL (d k:Nat) (o:fK):oF d k o =⟨some d,o,some (k,false)⟩:=rfl
def lo (d j:Nat):aD:=o0 d (.load none (.s j))
theorem TK (d j:Nat):lo d j=o0 d (.load none (.s j)):=rfl
def lS (d n j:Nat):aD:=o0 d (.load (some n) (.s j))
theorem TF (d n j:Nat):lS d n j=o0 d (.load (some n) (.s j)):=rfl
def fa (d n j:Nat):aD:=o0 d (.fadr n (.s j))
theorem Tu (d n j:Nat):fa d n j=o0 d (.fadr n (.s j)):=rfl
def nk (d j:Nat):aD:=o0 d (.nchk (.s j))
theorem UH (d j:Nat):nk d j=o0 d (.nchk (.s j)):=rfl
def ln (d j:Nat):aD:=o0 d (.len (.s j))
theorem TJ (d j:Nat):ln d j=o0 d (.len (.s j)):=rfl
def xt (d j k:Nat):aD:=o0 d (.ext (.s j) k)
theorem Vg (d j k:Nat):xt d j k=o0 d (.ext (.s j) k):=rfl
def ia (d n j k:Nat):aD:=o0 d (.iadr n (.s j) (.s k))
theorem TB (d n j k:Nat):ia d n j k=o0 d (.iadr n (.s j) (.s k)):=rfl
def mI (d:Nat) (n:Int):aD:=o0 d (.mov (.c (.int .i64 n)))
theorem TM (d:Nat) (n:Int):mI d n=o0 d (.mov (.c (.int .i64 n))):=rfl
def mB (d:Nat) (b:Bool):aD:=o0 d (.mov (.c (.bool b)))
theorem TL (d:Nat) (b:Bool):mB d b=o0 d (.mov (.c (.bool b))):=rfl
def bS (d:Nat) (o:BinOp) (j k:Nat):aD:=o0 d (.bin o (.s j) (.s k))
theorem R2 (d:Nat) (o:BinOp) (j k:Nat):bS d o j k=o0 d (.bin o (.s j) (.s k)):=rfl
def bI (d:Nat) (o:BinOp) (j:Nat) (n:Int):aD:=o0 d (.bin o (.s j) (.c (.int .i64 n)))
theorem R1 (d:Nat) (o:BinOp) (j:Nat) (n:Int):bI d o j n=o0 d (.bin o (.s j) (.c (.int .i64 n))):=rfl
def c0 (d:Nat) (f:FuncId):aD:=o0 d (.call f [])
theorem R3 (d:Nat) (f:FuncId):c0 d f=o0 d (.call f []):=rfl
def c1 (d:Nat) (f:FuncId) (a:Nat):aD:=o0 d (.call f [.s a])
theorem R4 (d:Nat) (f:FuncId) (a:Nat):c1 d f a=o0 d (.call f [.s a]):=rfl
def c2 (d:Nat) (f:FuncId) (a b:Nat):aD:=o0 d (.call f [.s a,.s b])
theorem R5 (d:Nat) (f:FuncId) (a b:Nat):c2 d f a b=o0 d (.call f [.s a,.s b]):=rfl
def c3 (d:Nat) (f:FuncId) (a b c:Nat):aD:=o0 d (.call f [.s a,.s b,.s c])
theorem R6 (d:Nat) (f:FuncId) (a b c:Nat):c3 d f a b c=o0 d (.call f [.s a,.s b,.s c]):=rfl
def pF (d j k:Nat):aD:=o0 d (.pick (.s j) (.s k) (.c (.bool false)))
theorem UP (d j k:Nat):pF d j k=o0 d (.pick (.s j) (.s k) (.c (.bool false))):=rfl
def pT (d j k:Nat):aD:=o0 d (.pick (.s j) (.c (.bool true)) (.s k))
theorem UQ (d j k:Nat):pT d j k=o0 d (.pick (.s j) (.c (.bool true)) (.s k)):=rfl
def uN (d j:Nat):aD:=o0 d (.un .not (.s j))
theorem Vd (d j:Nat):uN d j=o0 d (.un .not (.s j)):=rfl
def sT (n j k:Nat):aD:=⟨none,.store n (.s j) (.s k),none⟩
theorem U4 (n j k:Nat):sT n j k =⟨none,.store n (.s j) (.s k),none⟩:=rfl
def iC (n:Int):IV:=.c (.int .i64 n)
theorem TA (n:Int):iC n = .c (.int .i64 n):=rfl
def bC (b:Bool):IV:=.c (.bool b)
theorem R0 (b:Bool):bC b = .c (.bool b):=rfl
def ld (j:Nat):fK:=.load none (.s j)
theorem TI (j:Nat):ld j = .load none (.s j):=rfl
def fd (n j:Nat):fK:=.fadr n (.s j)
theorem Tv (n j:Nat):fd n j = .fadr n (.s j):=rfl
def sr (o:List aD) (k:List Nat) (y:aK):aK:=.seq (.reg o k) y
theorem U_ (o:List aD) (k:List Nat) (y:aK):sr o k y = .seq (.reg o k) y:=rfl
def cR (j:Nat):aK:=.cond (.s j) .ret .skip
theorem R7 (j:Nat):cR j = .cond (.s j) .ret .skip:=rfl
attribute [go_sem] TK TF Tu UH TJ Vg TB TM TL R2 R1 R3 R4 R5 R6 UP UQ Vd U4 TA R0 TI Tv U_ R7
attribute [go_sem] TX TW TU UK UO UL
end Go.Mw