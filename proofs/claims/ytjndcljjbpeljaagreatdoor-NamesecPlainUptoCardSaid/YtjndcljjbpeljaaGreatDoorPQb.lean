import Derived.Test.YtjndcljjbpeljaaGreatDoorPQa
import Derived.Orders
import Derived.Still
import Derived.Scope
set_option linter.all false
namespace Go.Mw
structure St where
 env:List (Nat×AV)
 heap:List (Nat×ao)
def get:List (Nat×AV)→Nat→AV
 | [],_=>.any
 | (k,x) :: r,n=>if k=n then x else get r n
def ak:List (Nat×ao)→Nat→Option ao
 | [],_=>none
 | (k,x) :: r,n=>if k=n then some x else ak r n
def del:List (Nat×AV)→Nat→List (Nat×AV)
 | [],_=>[]
 | (k,x) :: r,n=>if k=n then del r n else (k,x) :: del r n
def jA:List (Nat×ao)→Nat→List (Nat×ao)
 | [],_=>[]
 | (k,x) :: r,n=>if k=n then jA r n else (k,x) :: jA r n
def jJ (i:Nat):List (Nat×AV)→List (Nat×AV)
 | []=>[]
 | (k,x) :: r=>(k,fc i x) :: jJ i r
def jK (i:Nat):List (Nat×ao)→List (Nat×ao)
 | []=>[]
 | (k,x) :: r=>(k,dl i x) :: jK i r
def St.put (s:St) (d:Option Nat) (x:AV):St :=
 match d with
 | some d=>⟨(d,x) :: s.env,s.heap⟩
 | none=>s
def St.kill (s:St) (i:Nat):St:=⟨jJ i s.env,jK i (jA s.heap i)⟩
def St.eff (s:St) (e:bc):St :=
 match e with
 | .no=>s
 | .put i o=>⟨s.env,(i,o) :: jA s.heap i⟩
 | .new i o=>⟨s.env,(i,o) :: jA s.heap i⟩
 | .reb i o=>⟨jJ i s.env,(i,o) :: jK i (jA s.heap i)⟩
def kills:List Nat→St→St
 | [],s=>s
 | i :: r,s=>kills r (s.kill i)
def dels:List Nat→List (Nat×AV)→List (Nat×AV)
 | [],e=>e
 | d :: r,e=>dels r (del e d)
theorem jz (n:Nat):∀(l:List (Nat×AV)) (k:Nat),get (del l n) k=if k=n then .any else get l k
 | [],k=>by simp [del,get]
 | (j,x) :: r,k=>by
  simp only [del]
  by_cases h:j=n
  ·rw [aK h,jz n r k]
   subst h
   by_cases h2:k=j
   ·simp [h2]
   ·simp [get,h2,Ne.symm h2]
  ·rw [aD h]
   simp only [get]
   by_cases h2:j=k
   ·subst h2;simp [h]
   ·simp only [h2,dc,jz n r k]
theorem dh (n:Nat):∀(l:List (Nat×ao)) (k:Nat),ak (jA l n) k=if k=n then none else ak l k
 | [],k=>by simp [jA,ak]
 | (j,x) :: r,k=>by
  simp only [jA]
  by_cases h:j=n
  ·rw [aK h,dh n r k]
   subst h
   by_cases h2:k=j
   ·simp [h2]
   ·simp [ak,h2,Ne.symm h2]
  ·rw [aD h]
   simp only [ak]
   by_cases h2:j=k
   ·subst h2;simp [h]
   ·simp only [h2,dc,dh n r k]
theorem fU (i:Nat):∀(l:List (Nat×AV)) (k:Nat),get (jJ i l) k=fc i (get l k)
 | [],k=>by simp [jJ,get,fc,mV,mG,mC,mP]
 | (j,x) :: r,k=>by simp only [jJ,get,fU i r k];split<;>rfl
theorem et (i:Nat):∀(l:List (Nat×ao)) (k:Nat),ak (jK i l) k=(ak l k).map (dl i)
 | [],k=>by simp [jK,ak]
 | (j,x) :: r,k=>by simp only [jK,ak,et i r k];split<;>rfl
def bZ (c:li) (s:St) (a:Act) (w:World):Prop:=∃bl,aM c bl (get s.env) (ak s.heap) a w
section
variable {P:Program} [bU P] {c:li} [CT c P] {a:Act} {w:World} {s:St}
theorem bZ.kill (h:bZ c s a w) (i:Nat):bZ c (s.kill i) a w:=by
 obtain ⟨bl,h⟩:=h
 exact ⟨bl,(h.kill i).congr (fun k=>by simp [St.kill,fU]) (fun j=>by simp only [St.kill,et,dh];split<;>simp)⟩
theorem bZ.kills:∀(l:List Nat) {s:St},bZ c s a w→bZ c (Mw.kills l s) a w
 | [],_,h=>h
 | i :: r,_,h=>bZ.kills r (h.kill i)
theorem dG (s:St) (i:Nat):ak (s.kill i).heap i=none∧cz i (get (s.kill i).env) (ak (s.kill i).heap):=by
 refine ⟨by simp [St.kill,et,dh],?_⟩
 have:=lA i (get s.env) (ak s.heap)
 refine ⟨fun k=>by simpa [St.kill,fU] using this.1 k,fun j o hj=>this.2 j o ?_⟩
 rw [← hj]
 simp only [St.kill,et,dh]
 split<;>simp
theorem bZ.del (h:bZ c s a w) (d:Nat):bZ c ⟨del s.env d,s.heap⟩ a w:=by
 obtain ⟨bl,h⟩:=h
 exact ⟨bl,h.weaken (fun k=>by rw [jz];split<;>simp) (fun _ _ h=>h)⟩
theorem bZ.dels:∀(l:List Nat) {e:List (Nat×AV)} {hp:List (Nat×ao)},bZ c ⟨e,hp⟩ a w→bZ c ⟨Mw.dels l e,hp⟩ a w
 | [],_,_,h=>h
 | d :: r,_,_,h=>bZ.dels r (h.del d)
theorem mR {bl:Nat→Option Nat} {g:Nat→AV} {h:Nat→Option ao} (hs:aM c bl g h a w) (d:Option Nat) (hd:∀k,d=some k→k<c.n) {v:Value} {x:AV} (hv:ba bl (bx bl c.MF h) w v x)
  (hg:∀k,get s.env k=g k) (hh:∀j,ak s.heap j=h j):bZ c (s.put d x) (a.put d v) w:=by
 cases d with
 | none=>exact ⟨bl,by simpa [St.put,Act.put] using hs.congr hg hh⟩
 | some d =>
  refine ⟨bl,(hs.put (hd d rfl) hv).congr (fun k=>?_) (fun j=>by simpa [St.put] using hh j)⟩
  simp only [St.put,get,dt,jz]
  by_cases hk:k=d
  ·subst hk;simp
  ·simp [hk,Ne.symm hk,hg]
theorem vI (h:bZ c s a w) (d:Option Nat) (hd:∀k,d=some k→k<c.n) (_:Unit):bZ c (s.put d (.tup [])) (a.put d undef) w:=by
 obtain ⟨bl,h⟩:=h
 exact mR h d hd (x:=.tup []) ⟨[],rfl,trivial⟩ (fun _=>rfl) (fun _=>rfl)
theorem yg (s:St) (e:bc) (k:Nat):get (s.eff e).env k=e.env (get s.env) k:=by
 cases e<;>simp [St.eff,bc.env,fU]
theorem uS (s:St) (e:bc) (j:Nat):ak (s.eff e).heap j=e.hp (ak s.heap) j:=by
 cases e with
 | no=>rfl
 | put i o=>simp only [St.eff,bc.hp,ak,dt,dh];by_cases h:j=i<;>simp [h,eq_comm]
 | new i o=>simp only [St.eff,bc.hp,ak,dt,dh];by_cases h:j=i<;>simp [h,eq_comm]
 | reb i o=>simp only [St.eff,bc.hp,ak,dt,et,dh];by_cases h:j=i<;>simp [h,eq_comm]
end
def jb:AV→List Nat
 | .ms id _ _ _=>[id]
 | .mp id _ _ _=>[id]
 | .mm id _=>[id]
 | _=>[]
def gg:AV→List Nat
 | .fn _ caps=>caps.flatMap jb
 | x=>jb x
def ja:AV→List Nat
 | .agg cells=>cells.flatMap gg
 | x=>gg x
def aP:AV→List Nat
 | .tup vs=>vs.flatMap ja
 | x=>ja x
def dF (o:ao):List Nat:=if o.isRec then o.rows.flatMap (fun r=>r.flatMap gg) else []
theorem EL {i:Nat} {x:AV} (h:mP i x=true):i∈jb x:=by cases x<;>simp_all [mP,jb]
theorem pH {i:Nat} {x:AV} (h:mC i x=true):i∈gg x:=by
 cases x with
 | fn f caps =>
  simp only [mC,List.any_eq_true] at h
  obtain ⟨y,h1,h2⟩:=h
  simp only [gg,jQ]
  exact ⟨y,h1,EL h2⟩
 | _ =>
  simp only [mC] at h
  simpa only [gg] using EL h
theorem EK {i:Nat} {x:AV} (h:mG i x=true):i∈ja x:=by
 cases x with
 | agg cells =>
  simp only [mG,List.any_eq_true] at h
  obtain ⟨y,h1,h2⟩:=h
  simp only [ja,jQ]
  exact ⟨y,h1,pH h2⟩
 | _ =>
  simp only [mG] at h
  simpa only [ja] using pH h
theorem nu {i:Nat} {x:AV} (h:mV i x=true):i∈aP x:=by
 cases x with
 | tup vs =>
  simp only [mV,List.any_eq_true] at h
  obtain ⟨y,h1,h2⟩:=h
  simp only [aP,jQ]
  exact ⟨y,h1,EK h2⟩
 | _ =>
  simp only [mV] at h
  simpa only [aP] using EK h
def j9 (r:AV) (σ:List (Nat×ao)):Prop:=(∀i∈aP r,(ak σ i).isSome=true)∧∀p∈σ,∀i∈dF p.2,(ak σ i).isSome=true
def jw (bl:Nat→Option Nat) (σ:List (Nat×ao)) (b:Nat):Prop:=∃id o,ak σ id=some o∧bl id=some b
def br (P:Program) [bU P] (f:FuncId) (args:List AV) (σ:List (Nat×ao)) (Sb:Nat→Prop) (Post:AV→List (Nat×ao)→Prop):Prop :=
 ∀(bl:Nat→Option Nat) (MF:Nat→Prop) (w:World) (cargs:List Value),
  (bU.T P).H w→(∀b,(bU.T P).B b→¬bx bl MF (ak σ) b)→vV bl (bx bl MF (ak σ)) MF w (ak σ)→(∀b,MF b→b<w.heap.size)→aU (ba bl (bx bl MF (ak σ)) w) cargs args →
  Calls P f cargs.toArray w fun e w'=>∃v r σ' bl',e = .returned v∧Post r σ'∧j9 r σ'∧vV bl' (bx bl' MF (ak σ')) MF w' (ak σ')∧ba bl' (bx bl' MF (ak σ')) w' v r ∧
   zh (jw bl σ) w w'∧(∀id o b,ak σ' id=some o→bl' id=some b→w.heap.size≤b∨jw bl σ b)∧∀id,Sb id→bl' id=bl id
def ae (P:Program) [bU P] (f:FuncId) (args:List AV) (r:AV):Prop:=br P f args [] (fun _=>False) fun r' σ'=>r'=r∧σ'=[]
def rR:AV→Bool
 | .bool _=>true
 | .int ..=>true
 | .str _=>true
 | .nl=>true
 | .np=>true
 | .nf=>true
 | .sl _ []=>true
 | _=>false
def uM:AV→Bool
 | .agg cells=>cells.all rR
 | x=>rR x
def nU:AV→Bool
 | .tup vs=>vs.all uM
 | x=>uM x
def GI (b:Bool) (h:Nat→Option ao) (x x':AV):Prop :=
 x=x'∨(x = .nl∧∃st,x' = .sl st []) ∨
 (b=true∧∃id st off len o,x = .ms id st off len∧h id=some o∧o.isRec=false∧o.st=st∧off+len≤o.rows.length∧x' = .sl st ((o.rows.drop off).take len))
section
variable {P:Program} [bU P] {c:li} [CT c P] {bl:Nat→Option Nat} {g:Nat→AV} {h:Nat→Option ao} {a:Act} {w w':World} {M M':Nat→Prop}
theorem rS {bl':Nat→Option Nat} {v:Value} {x:AV} (hf:rR x=true) (hv:bK bl M w v x):bK bl' M' w' v x:=by
 cases x<;>simp [rR] at hf<;>simp only [bK,de] at hv ⊢
 case sl st rows =>
  cases rows with
  | cons r l=>simp [rR] at hf
  | nil =>
   cases hv with
   | nls=>exact .nls _
   | sl0=>exact .sl0 _ _ _
   | sl b off cap st c t fr rows vs=>exact .sl0 _ _ _
 all_goals (cases hv;constructor)
theorem rT {bl':Nat→Option Nat} {v:Value} {x:AV} (hf:uM x=true) (hv:dw bl M w v x):dw bl' M' w' v x:=by
 cases x with
 | agg cells =>
  obtain ⟨cs,h1,h2⟩:=hv
  exact ⟨cs,h1,h2.mono fun _ y hy hr=>rS (ee.1 hf y hy) hr⟩
 | _ =>
  simp only [uM] at hf
  simp only [dw] at hv ⊢
  exact rS hf hv
theorem zY {bl':Nat→Option Nat} {v:Value} {x:AV} (hf:nU x=true) (hv:ba bl M w v x):ba bl' M' w' v x:=by
 cases x with
 | any=>trivial
 | tup vs =>
  obtain ⟨cs,h1,h2⟩:=hv
  exact ⟨cs,h1,h2.mono fun _ y hy hr=>rT (ee.1 hf y hy) hr⟩
 | _ =>
  simp only [nU] at hf
  simp only [ba] at hv ⊢
  exact rT hf hv
theorem aM.grow (s:aM c bl g h a w) (hst:zh (fun _=>False) w w'):aM c bl g h a w':=by
 have ht:Tr (bx bl c.MF h) (bx bl c.MF h) w w':=⟨fun b hb hl=>⟨hb,hst.keep b hl (fun h=>h)⟩,hst.shape⟩
 refine ⟨s.defers,s.size,fun k=>(s.env k).tr ht (fun _ _=>rfl),⟨fun id o hi=>?_,s.heap.2⟩,s.step.trans hst (fun _ _ h=>h.elim),s.own,s.stab,s.mf⟩
 rcases s.heap.1 id o hi with h1 | ⟨b,h1,⟨gk,c1,fr,h2,h3,h4,h5,h6,h7⟩ | hsp⟩
 ·exact .inl h1
 rotate_left
 ·exact .inr ⟨b,h1,.inr (hsp.tr (hst.keep b hsp.rel.lt (fun h=>h)))⟩
 ·refine .inr ⟨b,h1,.inl ⟨gk,c1,fr,by rw [hst.keep b (cj h2) (fun h=>h)];exact h2,h3,h4,h5,h6,fun i j r x hr hx=>?_⟩⟩
  obtain ⟨v,hv1,hv2⟩:=h7 i j r x hr hx
  exact ⟨v,hv1,hv2.tr ht (fun _ _ _=>rfl)⟩
theorem iZ (MF:Nat→Prop) (b:Nat):bx bl MF (ak []) b↔MF b:=⟨fun h=>by
 rcases h with h | ⟨id,o,h,_⟩
 ·exact h
 ·simp [ak] at h,.inl⟩
theorem aM.tab (s:aM c bl g h a w):(bU.T P).H w:=by
 rw [← CT.eq (c:=c) (P:=P)]
 exact c.T.stay c.w0 w c.tH fun b hb=>s.step.keep b (c.T.low _ c.tH b hb) (c.tW b hb)
theorem aM.tabW (s:aM c bl g h a w) (b:Nat) (hb:(bU.T P).B b):¬bx bl c.MF h b:=by
 rw [← CT.eq (c:=c) (P:=P)] at hb
 rintro (hm | ⟨id,o,h1,h2⟩)
 ·exact c.tM b hb hm
 rcases s.own id o b h1 h2 with h3 | h3
 ·exact absurd (c.T.low _ c.tH b hb) (by omega)
 ·exact c.tW b hb h3
theorem r9 (s:aM c bl g h a w) {f:FuncId} {cargs:List Value} {args args':List AV} {r:AV} (hp:ae P f args' r) (ha:aU (ba bl (bx bl c.MF h) w) cargs args) (hid:∀x∈args',aP x=[]) (b:Bool) (hc:aU (GI b h) args args') (hf:b=true→nU r=true) :
  Calls P f cargs.toArray w fun e w'=>∃v,e = .returned v∧aM c bl g h a w'∧ba bl (bx bl c.MF h) w' v r:=by
 let MF':Nat→Prop:=fun q=>bx bl c.MF h q∧(b=true→c.MF q)
 have hMF':∀q,MF' q→q<w.heap.size:=fun q hq=>by
  rcases hq.1 with hm | ⟨id,o,h1,h2⟩
  ·exact Nat.lt_of_lt_of_le (s.mf q hm) s.step.size
  ·rcases s.heap.1 id o h1 with hn | ⟨b',g2,hO⟩
   ·rw [hn.2.2] at h2;cases h2
   ·rw [h2] at g2;cases g2;exact hO.lt
 have hargs:aU (ba (fun _=>none) (bx (fun _=>none) MF' (ak [])) w) cargs args':=by
  have key:∀{cs:List Value} {as as':List AV},aU (ba bl (bx bl c.MF h) w) cs as→aU (GI b h) as as'→(∀x∈as',aP x=[])→aU (ba (fun _=>none) (bx (fun _=>none) MF' (ak [])) w) cs as':=by
   intro cs
   induction cs with
   | nil =>
    intro as as' h1 h2 _
    cases as with
    | cons=>exact h1.elim
    | nil=>cases as' with
     | cons=>exact h2.elim
     | nil=>trivial
   | cons v cs ih =>
    intro as as' h1 h2 h3
    cases as with
    | nil=>exact h1.elim
    | cons x as =>
     cases as' with
     | nil=>exact h2.elim
     | cons x' as' =>
      refine ⟨?_,ih h1.2 h2.2 (fun y hy=>h3 y (by simp [hy]))⟩
      have ht:Tr (bx bl c.MF h) (bx (fun _=>none) MF' (ak [])) w w:=⟨fun q hq _=>⟨fun hm=>hq ((iZ MF' q).1 hm).1,rfl⟩,fun _ c1 _ fr hb=>⟨c1,fr,hb,rfl⟩⟩
      have hno:∀id,mV id x'=true→(none:Option Nat)=bl id:=fun id hm=>by
       have:=nu hm
       rw [h3 x' (by simp)] at this
       simp at this
      rcases h2.1 with he | ⟨he,st,he'⟩ | ⟨hb,id,st,off,len,o,he,ho,hrec,hst,hfit,he'⟩
      ·have h11:=h1.1
       rw [he] at h11
       exact h11.tr ht hno
      ·rw [he']
       have h11:=h1.1
       rw [he] at h11
       have:=h11.nl
       rw [this]
       exact IRel.nls st
      ·have h11:=h1.1
       rw [he] at h11
       rw [he']
       have h4:de bl (bx bl c.MF h) w v (.ms id st off len):=h11
       rcases s.heap.1 id o ho with hn | ⟨bb,g2,hO⟩
       ·have hlen:len=0:=by rw [hn.1] at hfit;simp at hfit;omega
        subst hlen
        simp only [f8]
        rcases h4 with ⟨e1,_⟩ | ⟨_,_,ad,cap,e1⟩ | ⟨b',cap,c1,t,fr,e1,_⟩
        ·rw [e1];exact IRel.nls st
        ·rw [e1];exact IRel.sl0 st ad cap
        ·rw [hn.2.2] at e1;cases e1
       ·have hnb:¬bx (fun _=>none) MF' (ak []) bb:=fun hm=>by
         have:=((iZ MF' bb).1 hm).2 hb
         exact hO.free this
        have:=pp (M':=bx (fun _=>none) MF' (ak [])) ht hnb (.inr ⟨g2,hO⟩) hrec h4
        simp only [j5,bF,hst,true_and,hfit] at this
        exact this
  exact key ha hc hid
 refine (hp (fun _=>none) MF' w cargs (aM.tab (P:=P) s) (fun q hq hm=>aM.tabW (P:=P) s q hq ((iZ MF' q).1 hm).1) ⟨fun id o hi=>by simp [ak] at hi,fun id id' o o' b hi=>by simp [ak] at hi⟩ hMF' hargs).mono fun e w' hh=>?_
 obtain ⟨v,r',σ',bl',rfl,⟨rfl,rfl⟩,hcl,_,hv,hst,_,_⟩:=hh
 have hst':zh (fun _=>False) w w':=⟨hst.size,fun q hq _=>hst.keep q hq (fun hb=>by
  obtain ⟨id,o,hi,_⟩:=hb
  simp [ak] at hi),hst.shape,hst.os,hst.out⟩
 refine ⟨v,rfl,s.grow hst',?_⟩
 cases b with
 | true=>exact zY (hf rfl) hv
 | false =>
  refine hv.tr ⟨fun q hq hl=>⟨fun hm=>hq ((iZ MF' q).2 ⟨hm,fun h=>by cases h⟩),rfl⟩,fun _ c1 _ fr hb=>⟨c1,fr,hb,rfl⟩⟩ (fun id hm=>?_)
  have:=hcl.1 id (nu hm)
  simp [ak] at this
end
def jX (ks:List Nat) (x:AV):AV:=if ks.any (fun i=>mV i x) then .any else x
def n9 (ks:List Nat) (x:AV):AV:=if ks.any (fun i=>mC i x) then .any else x
def eD (ks:List Nat) (o:ao):ao:=if o.isRec then { o with rows:=o.rows.map (fun r=>r.map (n9 ks)) } else o
def yx (ks:List Nat) (σ0 σ':Nat→Option ao) (h:Nat→Option ao) (id:Nat):Option ao :=
 match σ' id with
 | some o=>some o
 | none=>if (σ0 id).isSome then none else (h id).map (eD ks)
section
variable {P:Program} [bU P] {c:li} [CT c P] {bl bl' bl2:Nat→Option Nat} {g:Nat→AV} {h:Nat→Option ao} {a:Act} {w w':World} {M M':Nat→Prop} {ks:List Nat}
theorem AP {v:Value} {x:AV} (hv:ba bl M w v x) (ht:Tr M M' w w') (hb:∀id,id∉ks→bl2 id=bl id):ba bl2 M' w' v (jX ks x):=by
 unfold jX
 split
 ·trivial
 ·rename_i hn
  refine hv.tr ht (fun id hm=>hb id (fun hk=>hn ?_))
  exact List.any_eq_true.2 ⟨id,hk,hm⟩
theorem AM {v:Value} {x:AV} (hv:bK bl M w v x) (ht:Tr M M' w w') (hb:∀id,id∉ks→bl2 id=bl id):bK bl2 M' w' v (n9 ks x):=by
 unfold n9
 split
 ·exact IRel.toC (.any v (bK.one hv))
 ·rename_i hn
  refine hv.tr ht (fun id hm=>hb id (fun hk=>hn ?_))
  exact List.any_eq_true.2 ⟨id,hk,hm⟩
theorem vi (s:aM c bl g h a w) {f:FuncId} {cargs:List Value} {args:List AV} {σ0:List (Nat×ao)} {Sb:Nat→Prop} {Post:AV→List (Nat×ao)→Prop}
  (hp:br P f args σ0 Sb Post) (ha:aU (ba bl (bx bl c.MF h) w) cargs args) (hσ:∀id o,ak σ0 id=some o→h id=some o) (ks:List Nat)
  (hks:∀r σ',Post r σ'→∀id,(ak σ' id).isSome=true→(Sb id∧(ak σ0 id).isSome=true)∨(id∈ks∧(id<1000∨2000≤id)∧((ak σ0 id).isSome=true∨h id=none))) :
  Calls P f cargs.toArray w fun e w'=>∃v r σ' bl2,e = .returned v∧Post r σ'∧aM c bl2 (fun k=>jX ks (g k)) (yx ks (ak σ0) (ak σ') h) a w'∧ba bl2 (bx bl2 c.MF (yx ks (ak σ0) (ak σ') h)) w' v r:=by
 let MF':Nat→Prop:=fun q=>c.MF q∨∃id o,h id=some o∧ak σ0 id=none∧bl id=some q
 have blk:∀{id o q},h id=some o→bl id=some q→iM bl (bx bl c.MF h) c.MF w o q:=fun {id o q} h1 h2=>by
  rcases s.heap.1 id o h1 with hn | ⟨b',g2,hO⟩
  ·rw [hn.2.2] at h2;cases h2
  ·rw [h2] at g2;cases g2;exact hO
 have hMF':∀q,MF' q→q<w.heap.size:=by
  rintro q (hq | ⟨id,o,h1,_,h2⟩)
  ·exact Nat.lt_of_lt_of_le (s.mf q hq) s.step.size
  ·exact (blk h1 h2).lt
 have hmut:∀q,bx bl MF' (ak σ0) q↔bx bl c.MF h q:=fun q=>by
  constructor
  ·rintro ((hq | ⟨id,o,h1,_,h2⟩) | ⟨id,o,h1,h2⟩)
   ·exact .inl hq
   ·exact .inr ⟨id,o,h1,h2⟩
   ·exact .inr ⟨id,o,hσ id o h1,h2⟩
  ·rintro (hq | ⟨id,o,h1,h2⟩)
   ·exact .inl (.inl hq)
   ·cases h3:ak σ0 id with
    | none=>exact .inl (.inr ⟨id,o,h1,h3,h2⟩)
    | some o'=>exact .inr ⟨id,o',h3,h2⟩
 have ht0:=Tr.of_iff (w:=w) hmut
 have hH:vV bl (bx bl MF' (ak σ0)) MF' w (ak σ0):=by
  refine ⟨fun id o hi=>?_,fun id id' o o' q h1 h2=>s.heap.2 id id' o o' q (hσ _ _ h1) (hσ _ _ h2)⟩
  rcases s.heap.1 id o (hσ id o hi) with hn | ⟨b',g2,⟨gk,c2,fr2,g3,g4,g5,g6,g7,g8⟩ | hsp⟩
  ·exact .inl hn
  rotate_left
  ·refine .inr ⟨b',g2,.inr ⟨hsp.rows,hsp.isRec,?_,hsp.rel⟩⟩
   rintro (hq | ⟨id2,o2,h1,h3,h2⟩)
   ·exact hsp.free hq
   ·have:=s.heap.2 id2 id o2 o b' h1 (hσ id o hi) h2 g2
    subst this
    rw [hi] at h3
    cases h3
  ·refine .inr ⟨b',g2,.inl ⟨gk,c2,fr2,g3,g4,?_,g6,g7,fun i j r x hr hx=>?_⟩⟩
   ·rintro (hq | ⟨id2,o2,h1,h3,h2⟩)
    ·exact g5 hq
    ·have:=s.heap.2 id2 id o2 o b' h1 (hσ id o hi) h2 g2
     subst this
     rw [hi] at h3
     cases h3
   ·obtain ⟨v,hv1,hv2⟩:=g8 i j r x hr hx
    exact ⟨v,hv1,hv2.tr ht0 (fun _ _ _=>rfl)⟩
 refine (hp bl MF' w cargs (aM.tab (P:=P) s) (fun q hq hm=>aM.tabW (P:=P) s q hq ((hmut q).1 hm)) hH hMF' (ha.mono fun _ _ _ hr=>hr.tr ht0 (fun _ _=>rfl))).mono fun e w' hh=>?_
 obtain ⟨v,r,σ',bl1,rfl,hPost,hcl,hH',hv,hst,hown,hsb⟩:=hh
 have hks':=hks r σ' hPost
 let B:Nat→Option Nat:=fun id=>if (ak σ' id).isSome then bl1 id else bl id
 have B_in:∀id,(ak σ' id).isSome=true→B id=bl1 id:=fun id hi=>by simp [B,hi]
 have B_out:∀id,ak σ' id=none→B id=bl id:=fun id hi=>by simp [B,hi]
 have B_ks:∀id,id∉ks→B id=bl id:=fun id hk=>by
  cases hi:ak σ' id with
  | none=>exact B_out id hi
  | some o =>
   rw [B_in id (by simp [hi])]
   rcases hks' id (by simp [hi]) with ⟨h1,_⟩ | ⟨h1,_⟩
   ·exact hsb id h1
   ·exact absurd h1 hk
 have mrg_out:∀{id o},yx ks (ak σ0) (ak σ') h id=some o→ak σ' id=none→∃o0,h id=some o0∧o=eD ks o0∧ak σ0 id=none:=fun {id o} hm hn=>by
  simp only [yx,hn] at hm
  split at hm
  ·cases hm
  ·rename_i h0
   simp only [c9] at hm
   obtain ⟨o0,h1,rfl⟩:=hm
   exact ⟨o0,h1,rfl,by simpa using h0⟩
 have σblk:∀{id o q},ak σ' id=some o→bl1 id=some q→iM bl1 (bx bl1 MF' (ak σ')) MF' w' o q:=fun {id o q} h1 h2=>by
  rcases hH'.1 id o h1 with hn | ⟨b',g2,hO⟩
  ·rw [hn.2.2] at h2;cases h2
  ·rw [h2] at g2;cases g2;exact hO
 have hmut2:∀q,bx B c.MF (yx ks (ak σ0) (ak σ') h) q→bx bl1 MF' (ak σ') q:=by
  rintro q (hq | ⟨id,o,h1,h2⟩)
  ·exact .inl (.inl hq)
  ·cases hi:ak σ' id with
   | some o'=>rw [B_in id (by simp [hi])] at h2;exact .inr ⟨id,o',hi,h2⟩
   | none =>
    obtain ⟨o0,h3,_,h4⟩:=mrg_out h1 hi
    rw [B_out id hi] at h2
    exact .inl (.inr ⟨id,o0,h3,h4,h2⟩)
 have hmut3:∀q,q<w.heap.size→bx bl1 MF' (ak σ') q→bx bl c.MF h q:=by
  rintro q hq ((hm | ⟨id,o,h1,_,h2⟩) | ⟨id,o,h1,h2⟩)
  ·exact .inl hm
  ·exact .inr ⟨id,o,h1,h2⟩
  ·rcases hown id o q h1 h2 with h3 | ⟨id2,o2,h3,h4⟩
   ·omega
   ·exact .inr ⟨id2,o2,hσ _ _ h3,h4⟩
 have ht:Tr (bx bl c.MF h) (bx B c.MF (yx ks (ak σ0) (ak σ') h)) w w':=⟨fun q hq hl=>⟨fun hm=>hq (hmut3 q hl (hmut2 q hm)),hst.keep q hl (fun hb=>hq (by
  obtain ⟨id,o,h1,h2⟩:=hb
  exact .inr ⟨id,o,hσ _ _ h1,h2⟩))⟩,hst.shape⟩
 have ht1:Tr (bx bl1 MF' (ak σ')) (bx B c.MF (yx ks (ak σ0) (ak σ') h)) w' w':=⟨fun q hq _=>⟨fun hm=>hq (hmut2 q hm),rfl⟩,fun _ c1 _ fr hb=>⟨c1,fr,hb,rfl⟩⟩
 have hcl1:∀id,mV id r=true→B id=bl1 id:=fun id hm=>B_in id (hcl.1 id (nu hm))
 have hmem:∀{σ:List (Nat×ao)} {id:Nat} {o:ao},ak σ id=some o→(id,o)∈σ:=by
  intro σ
  induction σ with
  | nil=>intro id o hi;simp [ak] at hi
  | cons p l ih =>
   intro id o hi
   obtain ⟨k,x⟩:=p
   simp only [ak] at hi
   split at hi
   ·rename_i hk;cases hi;subst hk;simp
   ·exact List.mem_cons_of_mem _ (ih hi)
 refine ⟨v,r,σ',B,rfl,hPost,⟨s.defers,s.size,fun k=>AP (s.env k) ht B_ks,⟨fun id o hi=>?_,fun id id' o o' q h1 h2 h3 h4=>?_⟩,?_,fun id o q h1 h2=>?_,fun id h1 h2=>?_,s.mf⟩,hv.tr ht1 hcl1⟩
 ·cases hi':ak σ' id with
  | some o' =>
   have ho:o=o':=by simp only [yx,hi',cq] at hi;exact hi.symm
   subst ho
   rcases hH'.1 id o hi' with hn | ⟨b',g2,⟨gk,c2,fr2,g3,g4,g5,g6,g7,g8⟩ | hsp⟩
   ·exact .inl ⟨hn.1,hn.2.1,by rw [B_in id (by simp [hi'])];exact hn.2.2⟩
   rotate_left
   ·exact .inr ⟨b',by rw [B_in id (by simp [hi'])];exact g2,.inr ⟨hsp.rows,hsp.isRec,fun hm=>hsp.free (.inl hm),hsp.rel⟩⟩
   ·refine .inr ⟨b',by rw [B_in id (by simp [hi'])];exact g2,.inl ⟨gk,c2,fr2,g3,g4,fun hm=>g5 (.inl hm),g6,g7,fun i j q x hr hx=>?_⟩⟩
    obtain ⟨u,hu1,hu2⟩:=g8 i j q x hr hx
    refine ⟨u,hu1,hu2.tr ht1 (fun hrec id2 hm=>B_in id2 (hcl.2 (id,o) (hmem hi') id2 ?_))⟩
    simp only [dF,hrec,bF,jQ]
    exact ⟨q,lX hr,x,lX hx,pH hm⟩
  | none =>
   obtain ⟨o0,h1,rfl,h3⟩:=mrg_out hi hi'
   rcases s.heap.1 id o0 h1 with hn | ⟨b',g2,⟨gk,c2,fr2,g3,g4,g5,g6,g7,g8⟩ | hsp⟩
   ·refine .inl ⟨?_,?_,by rw [B_out id hi'];exact hn.2.2⟩
    ·simp [eD,hn.2.1,hn.1]
    ·simp [eD,hn.2.1]
   rotate_left
   ·have hkeep:w'.heap[b']? = w.heap[b']?:=hst.keep b' hsp.rel.lt (fun hb=>by
     obtain ⟨id2,o2,h4,h5⟩:=hb
     have:=s.heap.2 id id2 o0 o2 b' h1 (hσ _ _ h4) g2 h5
     subst this
     rw [h3] at h4
     cases h4)
    refine .inr ⟨b',by rw [B_out id hi'];exact g2,.inr ?_⟩
    have:eD ks o0=o0:=by simp [eD,hsp.isRec]
    rw [this]
    exact hsp.tr hkeep
   ·have hkeep:w'.heap[b']? = w.heap[b']?:=hst.keep b' (cj g3) (fun hb=>by
     obtain ⟨id2,o2,h4,h5⟩:=hb
     have:=s.heap.2 id id2 o0 o2 b' h1 (hσ _ _ h4) g2 h5
     subst this
     rw [h3] at h4
     cases h4)
    refine .inr ⟨b',by rw [B_out id hi'];exact g2,.inl ⟨by unfold eD;split<;>exact gk,c2,fr2,?_,g4,g5,?_,?_,?_⟩⟩
    ·rw [hkeep,g3]
     unfold eD
     split<;>rfl
    ·intro i q hq
     unfold eD at hq ⊢
     split at hq
     ·simp only [gw,c9] at hq
      obtain ⟨q0,hq0,rfl⟩:=hq
      rename_i hrec
      simpa [hrec] using g6 i q0 hq0
     ·rename_i hrec
      simpa [hrec] using g6 i q hq
    ·unfold eD
     split<;>simpa using g7
    ·intro i j q x hq hx
     unfold eD at hq ⊢
     split at hq
     ·rename_i hrec
      simp only [gw,c9] at hq
      obtain ⟨q0,hq0,rfl⟩:=hq
      simp only [gw,c9] at hx
      obtain ⟨x0,hx0,rfl⟩:=hx
      obtain ⟨u,hu1,hu2⟩:=g8 i j q0 x0 hq0 hx0
      simp only [hrec,bF]
      rw [hrec] at hu2
      exact ⟨u,hu1,AM hu2 ht B_ks⟩
     ·rename_i hrec
      obtain ⟨u,hu1,hu2⟩:=g8 i j q x hq hx
      have hrec':o0.isRec=false:=by simpa using hrec
      simp only [hrec',gK,dc]
      rw [hrec'] at hu2
      exact ⟨u,hu1,IRel.tr hu2 ht.keep⟩
 ·cases hi:ak σ' id with
  | some o1 =>
   rw [B_in id (by simp [hi])] at h3
   cases hi2:ak σ' id' with
   | some o2 =>
    rw [B_in id' (by simp [hi2])] at h4
    exact hH'.2 id id' o1 o2 q hi hi2 h3 h4
   | none =>
    rw [B_out id' hi2] at h4
    obtain ⟨o2,h5,_,h6⟩:=mrg_out h2 hi2
    exact ((σblk hi h3).free (.inr ⟨id',o2,h5,h6,h4⟩)).elim
  | none =>
   rw [B_out id hi] at h3
   obtain ⟨o1,h5,_,h6⟩:=mrg_out h1 hi
   cases hi2:ak σ' id' with
   | some o2 =>
    rw [B_in id' (by simp [hi2])] at h4
    exact ((σblk hi2 h4).free (.inr ⟨id,o1,h5,h6,h3⟩)).elim
   | none =>
    rw [B_out id' hi2] at h4
    obtain ⟨o2,h7,_,h8⟩:=mrg_out h2 hi2
    exact s.heap.2 id id' o1 o2 q h5 h7 h3 h4
 ·refine s.step.trans hst (fun q hq hb=>?_)
  obtain ⟨id,o,h1,h2⟩:=hb
  rcases s.own id o q (hσ _ _ h1) h2 with h3 | h3
  ·omega
  ·exact h3
 ·cases hi:ak σ' id with
  | some o1 =>
   rw [B_in id (by simp [hi])] at h2
   rcases hown id o1 q hi h2 with h3 | ⟨id2,o2,h3,h4⟩
   ·exact .inl (dn s.step.size h3)
   ·exact s.own id2 o2 q (hσ _ _ h3) h4
  | none =>
   rw [B_out id hi] at h2
   obtain ⟨o1,h5,_,h6⟩:=mrg_out h1 hi
   exact s.own id o1 q h5 h2
 ·cases hi:ak σ' id with
  | none=>rw [B_out id hi];exact s.stab id h1 h2
  | some o1 =>
   rw [B_in id (by simp [hi])]
   rcases hks' id (by simp [hi]) with ⟨h3,_⟩ | ⟨_,h3,_⟩
   ·rw [hsb id h3];exact s.stab id h1 h2
   ·omega
end
section
variable {c:li} {bl:Nat→Option Nat} {g:Nat→AV} {h:Nat→Option ao} {a:Act} {w:World}
theorem N_ (i:Nat) (o o1:ao):(fb i o o1).t=o1.t:=by unfold fb;split<;>rfl
theorem s7 (i:Nat) (o o1:ao):(fb i o o1).st=o1.st:=by unfold fb;split<;>rfl
theorem uO (i:Nat) (o o1:ao):(fb i o o1).isRec=o1.isRec:=by unfold fb;split<;>rfl
theorem aM.freeze (s:aM c bl g h a w) {i:Nat} {o:ao} (hi:h i=some o) (hrec:o.isRec=false) :
  aM c bl (fun k=>md i o (g k)) (fun j=>if j=i then none else (h j).map (fb i o)) a w ∧
   ∀v x,ba bl (bx bl c.MF h) w v x→ba bl (bx bl c.MF (fun j=>if j=i then none else (h j).map (fb i o))) w v (md i o x):=by
 have hsub:∀{j q},(if j=i then none else (h j).map (fb i o))=some q→j≠i∧∃q0,h j=some q0∧q=fb i o q0:=fun {j q} hj=>by
  split at hj
  ·cases hj
  ·rename_i hne
   simp only [c9] at hj
   obtain ⟨q0,h1,h2⟩:=hj
   exact ⟨hne,q0,h1,h2.symm⟩
 have hmut:∀q,bx bl c.MF (fun j=>if j=i then none else (h j).map (fb i o)) q→bx bl c.MF h q:=by
  rintro q (hm | ⟨j,oj,h1,h2⟩)
  ·exact .inl hm
  ·obtain ⟨_,q0,h3,_⟩:=hsub h1
   exact .inr ⟨j,q0,h3,h2⟩
 have ht:Tr (bx bl c.MF h) (bx bl c.MF (fun j=>if j=i then none else (h j).map (fb i o))) w w:=⟨fun b hb _=>⟨fun hm=>hb (hmut b hm),rfl⟩,fun _ c1 _ fr hb=>⟨c1,fr,hb,rfl⟩⟩
 have hP:∀{v x},de bl (bx bl c.MF h) w v x→de bl (bx bl c.MF (fun j=>if j=i then none else (h j).map (fb i o))) w v (j5 i o x):=fun {v x} hv=>by
  rcases s.heap.1 i o hi with hn | ⟨b,hb,hO⟩
  ·exact pp (b:=w.heap.size) (MF:=c.MF) ht (fun hm=>by
    rcases hm with hm | ⟨j,oj,h1,h2⟩
    ·exact absurd (s.mf _ hm) (Nat.not_lt.2 s.step.size)
    ·obtain ⟨_,q0,h3,_⟩:=hsub h1
     rcases s.heap.1 j q0 h3 with hn2 | ⟨b',h4,hO⟩
     ·rw [hn2.2.2] at h2;cases h2
     ·rw [h2] at h4;cases h4;exact absurd hO.lt (Nat.lt_irrefl _)) (.inl ⟨hn.1,hn.2.2⟩) hrec hv
  ·refine pp ht (fun hm=>?_) (.inr ⟨hb,hO⟩) hrec hv
   rcases hm with hm | ⟨j,oj,h1,h2⟩
   ·exact hO.free hm
   ·obtain ⟨hne,q0,h3,_⟩:=hsub h1
    exact hne (s.heap.2 j i q0 o b h3 hi h2 hb)
 have hC:∀{v x},bK bl (bx bl c.MF h) w v x→bK bl (bx bl c.MF (fun j=>if j=i then none else (h j).map (fb i o))) w v (ng i o x):=fun {v x} hv=>by
  cases x with
  | fn f caps =>
   obtain ⟨cs,h1,h2⟩:=hv
   exact ⟨cs,h1,h2.mapRight fun _ _ hr=>hP hr⟩
  | agg cells=>simp only [bK,de] at hv;cases hv
  | tup vs=>simp only [bK,de] at hv;cases hv
  | ms id st off len =>
   have:=hP (x:=.ms id st off len) hv
   simp only [ng]
   generalize hy:j5 i o (.ms id st off len)=y at this
   simp only [j5] at hy
   split at hy
   ·split at hy<;>(subst hy;exact this)
   ·subst hy;exact this
  | mp id st row off =>
   have:=hP (x:=.mp id st row off) hv
   simp only [ng]
   generalize hy:j5 i o (.mp id st row off)=y at this
   simp only [j5] at hy
   split at hy
   ·split at hy
    ·split at hy<;>(subst hy;exact this)
    ·subst hy;exact this
   ·subst hy;exact this
  | mm id k =>
   have:=hP (x:=.mm id k) hv
   simp only [ng]
   generalize hy:j5 i o (.mm id k)=y at this
   simp only [j5] at hy
   split at hy<;>(subst hy;exact this)
  | _ =>
   simp only [bK,de] at hv
   exact IRel.toC (IRel.tr hv ht.keep)
 have hG:∀{v x},dw bl (bx bl c.MF h) w v x→dw bl (bx bl c.MF (fun j=>if j=i then none else (h j).map (fb i o))) w v (s6 i o x):=fun {v x} hv=>by
  cases x with
  | agg cells =>
   obtain ⟨cs,h1,h2⟩:=hv
   exact ⟨cs,h1,h2.mapRight fun _ _ hr=>hC hr⟩
  | _ =>
   simp only [dw] at hv
   simp only [s6]
   exact (hC hv).toG
 have hV:∀{v x},ba bl (bx bl c.MF h) w v x→ba bl (bx bl c.MF (fun j=>if j=i then none else (h j).map (fb i o))) w v (md i o x):=fun {v x} hv=>by
  cases x with
  | any=>trivial
  | tup vs =>
   obtain ⟨cs,h1,h2⟩:=hv
   exact ⟨cs,h1,h2.mapRight fun _ _ hr=>hG hr⟩
  | _ =>
   simp only [ba] at hv
   simp only [md]
   exact (hG hv).toV
 refine ⟨⟨s.defers,s.size,fun k=>hV (s.env k),⟨fun j oj hj=>?_,fun j j' oj oj' q h1 h2=>?_⟩,s.step,fun j oj q h1 h2=>?_,s.stab,s.mf⟩,fun v x hv=>hV hv⟩
 ·obtain ⟨hne,q0,h1,rfl⟩:=hsub hj
  rcases s.heap.1 j q0 h1 with hn | ⟨b,hb,⟨gk,c1,fr,h2,h3,h4,h5,h6,h7⟩ | hsp⟩
  ·exact .inl ⟨by simp [fb,hn.2.1,hn.1],by rw [uO];exact hn.2.1,hn.2.2⟩
  rotate_left
  ·have:fb i o q0=q0:=by simp [fb,hsp.isRec]
   rw [this]
   exact .inr ⟨b,hb,.inr hsp⟩
  ·refine .inr ⟨b,hb,.inl ⟨by unfold fb;split<;>exact gk,c1,fr,by rw [N_];exact h2,h3,h4,fun k r hr=>?_,?_,fun k q r x hr hx=>?_⟩⟩
   ·rw [s7]
    unfold fb at hr
    split at hr
    ·simp only [gw,c9] at hr
     obtain ⟨r0,h8,rfl⟩:=hr
     simpa using h5 k r0 h8
    ·exact h5 k r hr
   ·rw [s7]
    unfold fb
    split<;>simpa using h6
   ·rw [s7,uO]
    unfold fb at hr
    split at hr
    ·rename_i hrc
     simp only [gw,c9] at hr
     obtain ⟨r0,h8,rfl⟩:=hr
     simp only [gw,c9] at hx
     obtain ⟨x0,h9,rfl⟩:=hx
     obtain ⟨u,hu1,hu2⟩:=h7 k q r0 x0 h8 h9
     rw [hrc] at hu2 ⊢
     exact ⟨u,hu1,hC hu2⟩
    ·rename_i hrc
     obtain ⟨u,hu1,hu2⟩:=h7 k q r x hr hx
     have hrc':q0.isRec=false:=by simpa using hrc
     rw [hrc'] at hu2 ⊢
     exact ⟨u,hu1,IRel.tr hu2 ht.keep⟩
 ·obtain ⟨_,q1,h3,_⟩:=hsub h1
  obtain ⟨_,q2,h4,_⟩:=hsub h2
  exact s.heap.2 j j' q1 q2 q h3 h4
 ·obtain ⟨_,q1,h3,_⟩:=hsub h1
  exact s.own j q1 q h3 h2
end
def DR (i:Nat) (o:ao):List (Nat×AV)→List (Nat×AV)
 | []=>[]
 | (k,x) :: r=>(k,md i o x) :: DR i o r
def zZ (i:Nat) (o:ao):List (Nat×ao)→List (Nat×ao)
 | []=>[]
 | (k,x) :: r=>(k,fb i o x) :: zZ i o r
def St.frz (s:St) (i:Nat):St :=
 match ak s.heap i with
 | some o=>if o.isRec then s else ⟨DR i o s.env,zZ i o (jA s.heap i)⟩
 | none=>s
def frzs:List Nat→St→St
 | [],s=>s
 | i :: r,s=>frzs r (s.frz i)
theorem pq (i:Nat) (o:ao):∀(l:List (Nat×AV)) (k:Nat),get (DR i o l) k=md i o (get l k)
 | [],k=>rfl
 | (j,x) :: r,k=>by simp only [DR,get,pq i o r k];split<;>rfl
theorem nh (i:Nat) (o:ao):∀(l:List (Nat×ao)) (k:Nat),ak (zZ i o l) k=(ak l k).map (fb i o)
 | [],k=>rfl
 | (j,x) :: r,k=>by simp only [zZ,ak,nh i o r k];split<;>rfl
theorem bZ.frz {c:li} {s:St} {a:Act} {w:World} (hs:bZ c s a w) (i:Nat):bZ c (s.frz i) a w:=by
 obtain ⟨bl,hs⟩:=hs
 unfold St.frz
 split
 ·rename_i o ho
  split
  ·exact ⟨bl,hs⟩
  ·rename_i hr
   exact ⟨bl,(hs.freeze ho (by simpa using hr)).1.congr (fun k=>pq i o _ k) (fun j=>by simp only [nh,dh];split<;>simp)⟩
 ·exact ⟨bl,hs⟩
theorem bZ.frzs {c:li} {a:Act} {w:World}:∀(l:List Nat) {s:St},bZ c s a w→bZ c (Mw.frzs l s) a w
 | [],_,h=>h
 | i :: r,_,h=>bZ.frzs r (h.frz i)
def frz1 (s:St) (i:Nat) (x:AV):AV :=
 match ak s.heap i with
 | some o=>if o.isRec then x else md i o x
 | none=>x
def mg:List Nat→St→AV→AV
 | [],_,x=>x
 | i :: r,s,x=>mg r (s.frz i) (frz1 s i x)
theorem aM.frz1 {c:li} {bl:Nat→Option Nat} {s:St} {a:Act} {w:World} (hs:aM c bl (get s.env) (ak s.heap) a w) (i:Nat) :
  aM c bl (get (s.frz i).env) (ak (s.frz i).heap) a w∧∀v x,ba bl (bx bl c.MF (ak s.heap)) w v x→ba bl (bx bl c.MF (ak (s.frz i).heap)) w v (Mw.frz1 s i x):=by
 unfold St.frz Mw.frz1
 cases ho:ak s.heap i with
 | none=>exact ⟨hs,fun _ _ h=>h⟩
 | some o =>
  simp only
  by_cases hr:o.isRec=true
  ·simp only [hr,bF];exact ⟨hs,fun _ _ h=>h⟩
  ·obtain ⟨h1,h2⟩:=hs.freeze ho (by simpa using hr)
   have hh:ak (zZ i o (jA s.heap i))=fun j=>if j=i then none else (ak s.heap j).map (fb i o):=by
    funext j
    simp only [nh,dh]
    split<;>simp
   simp only [hr,dc,gK]
   exact ⟨h1.congr (fun k=>pq i o _ k) (fun j=>by rw [hh]),fun v x hv=>by rw [hh];exact h2 v x hv⟩
theorem aM.frzs {c:li} {bl:Nat→Option Nat} {a:Act} {w:World}:∀(fs:List Nat) (s:St),aM c bl (get s.env) (ak s.heap) a w →
  aM c bl (get (Mw.frzs fs s).env) (ak (Mw.frzs fs s).heap) a w∧∀v x,ba bl (bx bl c.MF (ak s.heap)) w v x→ba bl (bx bl c.MF (ak (Mw.frzs fs s).heap)) w v (mg fs s x)
 | [],s,hs=>⟨hs,fun _ _ h=>h⟩
 | i :: r,s,hs=>by
  obtain ⟨h1,h2⟩:=hs.frz1 i
  obtain ⟨h3,h4⟩:=aM.frzs r (s.frz i) h1
  exact ⟨h3,fun v x hv=>h4 v _ (h2 v x hv)⟩
structure aR where
 o:aS
 bef:List Nat
 deriving Inhabited
inductive bE where
 | skip
 | ret
 | exit (id:Nat)
 | seq (x y:bE)
 | cut (x y:bE)
 | cond (c:IV) (t e:bE)
 | block (id:Nat) (x:bE)
 | loop (x:bE)
 | reg (ops:List aS) (dr:List Nat)
 | draw (ops:List aR) (al:List (Nat×Nat)) (dr:List Nat)
 | free (ops:List aR) (al:List (Nat×Nat)) (dr:List Nat)
 | wild (ops:List aR) (al:List (Nat×Nat)) (dr:List Nat)
 deriving Inhabited
inductive IX where
 | nrm
 | ret
 | ext (id:Nat)
def ni (P:Program) [bU P] (f:FuncId) (args:List AV) (d:Option Nat) (s:St) (K:St→Prop):Prop :=
 (∃args' r b,ae P f args' r∧(∀x∈args',aP x=[])∧aU (GI b (ak s.heap)) args args'∧(b=true→nU r=true)∧K (s.put d r)) ∨
 ∃σ0 Sb Post ks,br P f args σ0 Sb Post∧(∀id o,ak σ0 id=some o→ak s.heap id=some o) ∧
  (∀r σ',Post r σ'→∀id,(ak σ' id).isSome=true→(Sb id∧(ak σ0 id).isSome=true)∨(id∈ks∧(id<1000∨2000≤id)∧((ak σ0 id).isSome=true∨ak s.heap id=none))) ∧
  ∀r σ',Post r σ'→∃s':St,(∀k,get s'.env k=jX ks (get s.env k))∧(∀j,ak s'.heap j=yx ks (ak σ0) (ak σ') (ak s.heap) j)∧K (s'.put d r)
def Ba (s:St) (l:List AV) (s':St) (l':List AV):Prop:=∀(c:li) (a:Act) (w:World) (bl:Nat→Option Nat) (vs:List Value),aM c bl (get s.env) (ak s.heap) a w→aU (ba bl (bx bl c.MF (ak s.heap)) w) vs l →
 ∃bl',aM c bl' (get s'.env) (ak s'.heap) a w∧aU (ba bl' (bx bl' c.MF (ak s'.heap)) w) vs l'
def cW (P:Program) [bU P] (f:FuncId) (args:List AV) (d:Option Nat) (s:St) (K:St→Prop):Prop :=
 ni P f args d s K∨(∃fs,ni P f (args.map (mg fs s)) d (frzs fs s) K)∨∃s' args',Ba s args s' args'∧ni P f args' d s' K
def Wk (s s':St):Prop:=∀(c:li) (a:Act) (w:World),bZ c s a w→bZ c s' a w
def vn (o:aS) (s:St) (K:St→Prop):Prop :=
 match bA (o.dst.getD 0) o.op (val (get (s.kill (o.dst.getD 0)).env)) (ak (s.kill (o.dst.getD 0)).heap) with
 | some (v,e)=>K (((s.kill (o.dst.getD 0)).eff e).put o.dst v)
 | none=>False
def Dm (o:aS) (s:St) (K:St→Prop):Prop:=∃s',Wk s s'∧vn o s' K
def iA (P:Program) [bU P] (o:aS) (s:St) (K:St→Prop):Prop :=
 match o.op with
 | .call f args=>cW P f (args.map (val (get s.env))) o.dst s K
 | .callv f args=>match val (get s.env) f with
  | .fn f caps=>if f<4000000 then ek P f=true∧cW P f (args.map (val (get s.env))++caps) o.dst s K else ek P (f - 4000000)=true∧cW P (f - 4000000) (caps.take 1++args.map (val (get s.env))++caps.drop 1) o.dst s K
  | _=>False
 | .bsl t st rows ps=>(o.dst.getD 0<1000∧match bA (o.dst.getD 0) (.bsl t st rows ps) (val (get (s.kill (o.dst.getD 0)).env)) (ak (s.kill (o.dst.getD 0)).heap) with
   | some (v,e)=>K (((s.kill (o.dst.getD 0)).eff e).put o.dst v)
   | none=>Dm o s K)
 | .snl b x=>match val (get s.env) x with
  | .sl _ []=>K (s.put o.dst (.bool b))∧K (s.put o.dst (.bool (!b)))
  | x=>match zu b x with
   | some v=>K (s.put o.dst v)
   | none=>False
 | op=>if dx op then
   (o.dst.getD 0<1000∧match bA (o.dst.getD 0) op (val (get (s.kill (o.dst.getD 0)).env)) (ak (s.kill (o.dst.getD 0)).heap) with
   | some (v,e)=>K (((s.kill (o.dst.getD 0)).eff e).put o.dst v)
   | none=>False)
  else match bA (o.dst.getD 0) op (val (get s.env)) (ak s.heap) with
   | some (v,e)=>K ((s.eff e).put o.dst v)
   | none=>False
def fj (P:Program) [bU P]:List aS→St→(St→Prop)→Prop
 | [],s,K=>K s
 | o :: r,s,K=>match o.g with
  | none=>iA P o s (fun s'=>fj P r s' K)
  | some (k,b)=>match get s.env k with
   | .bool t=>(t=b→iA P o (s.put (some k) (.bool b)) (fun s'=>fj P r s' K))∧(t = !b→fj P r ((s.put (some k) (.bool (!b))).put o.dst (.tup [])) K)
   | .tup []=>fj P r (s.put o.dst (.tup [])) K
   | _=>False
structure HI where
 i:Nat
 op:List Nat
 res:List Nat
 tch:List Nat
 rb:Bool
 wr:Bool
def bc.isPut:bc→Bool
 | .put ..=>true
 | _=>false
def bc.tch:bc→List Nat
 | .no=>[]
 | .put i _=>[i]
 | .new i _=>[i]
 | .reb i _=>[i]
def bc.isReb:bc→Bool
 | .reb ..=>true
 | _=>false
def bc.ids:bc→List Nat
 | .no=>[]
 | .put _ o=>dF o
 | .new _ o=>dF o
 | .reb _ o=>dF o
def aX:IV→List Nat
 | .s k=>[k]
 | .c _=>[]
def fN:Option IV→List Nat
 | some x=>aX x
 | none=>[]
def aw (o:ik):List Nat :=
 match o with
 | .mov x | .box _ _ x | .load _ x | .fadr _ x | .fld _ _ x | .len x | .slen x | .un _ x | .cvi _ x | .cvs x | .cvt x | .cvb _ x | .cvm x | .ext x _ | .nchk x | .snl _ x=>aX x
 | .pick c a b=>aX c++aX a++aX b
 | .new _ _=>[]
 | .build _ ps=>ps.flatMap fun p=>aX p.2.2
 | .bsl _ _ _ ps=>ps.flatMap fun p=>aX p.2
 | .store _ x y | .iadr _ x y | .aadr _ _ x y | .mnx _ x y | .cpy _ x y | .sib x y | .app _ _ x y | .apps _ x y | .bin _ x y | .bbin _ x y | .pbin _ x y | .sbin _ _ x y | .sidx x y | .mks _ _ _ x y=>aX x++aX y
 | .slc _ x lo hi mx=>aX x++fN lo++fN hi++fN mx
 | .sslc x lo hi=>aX x++fN lo++fN hi
 | .call _ args=>args.flatMap aX
 | .callv f args=>aX f++args.flatMap aX
 | .mkf _ caps=>caps.flatMap aX
 | .mop _ xs=>xs.flatMap aX
def cI (o:aS):List Nat:=aw o.op++(match o.g with | some (k,_)=>[k] | none=>[])
def tk (x y:HI):Bool :=
 y.tch.all (fun d=>!x.op.contains d && !x.tch.contains d)&&x.tch.all (fun d=>!y.op.contains d)&&(!x.rb||x.tch.all fun d=>!y.res.contains d)&&(!y.rb||y.tch.all fun d=>!x.res.contains d) && !(x.rb&&y.wr) && !(y.rb&&x.wr) && !(x.rb&&x.wr) && !(y.rb&&y.wr)
def fG (bef:List Nat) (x:HI) (hist:List HI):Bool:=hist.all fun y=>bef.contains y.i||tk x y
def pR (al:List (Nat×Nat)) (bef:List Nat) (x:HI):Bool:=al.all fun p=>!x.res.contains p.1||p.2==x.i||bef.contains p.2
def uW:AV→Bool
 | .any=>true
 | _=>false
def dW (o:ik) (s:St) (e:bc):Bool:=(aw o).all (fun k=>!uW (get s.env k))&&(!e.isReb||e.tch.all fun d=>s.heap.all fun p=>!(dF p.2).contains d)
def cD (o:ik) (e:List (Nat×AV)):List Nat :=
 match o with
 | .mov _=>[]
 | o=>(aw o).flatMap fun k=>aP (get e k)
def GB (tch:List Nat) (y:HI):Bool:=y.op.isEmpty&&y.tch.isEmpty && !y.rb&&tch.all fun d=>!y.res.contains d
def vP (al:List (Nat×Nat)) (i:Nat) (o:aR) (hist:List HI) (s:St) (K:St→Prop):Prop :=
 match o.o.op with
 | .app t st x y=>o.o.g=none∧match bA (o.o.dst.getD 0) (.app t st x y) (val (get s.env)) (ak s.heap) with
  | some (v,e)=>((aw (.app t st x y)).all fun k=>!uW (get s.env k))=true∧e.isReb=true∧(hist.all fun z=>o.bef.contains z.i||GB e.tch z)=true ∧
    pR al o.bef ⟨i,cD (.app t st x y) s.env,aP v++e.ids,e.tch,true,true⟩=true∧K ((s.eff e).put o.o.dst v)
  | none=>False
 | _=>False
def fH (P:Program) [bU P] (al:List (Nat×Nat)) (i:Nat) (o:aR) (hist:List HI) (s:St) (K:List HI→St→Prop):Prop :=
 match o.o.op with
 | .call f args=>(∃args' r b,ae P f args' r∧(∀x∈args',aP x=[])∧aU (GI b (ak s.heap)) (args.map (val (get s.env))) args'∧(b=true→nU r=true)∧aP r=[] ∧
   dW o.o.op s .no=true∧fG o.bef ⟨i,cD o.o.op s.env,[],[],false,false⟩ hist=true∧K (⟨i,cD o.o.op s.env,[],[],false,false⟩ :: hist) (s.put o.o.dst r)) ∨
   ∃k ob ob' Sb r,br P f (args.map (val (get s.env))) [(k,ob)] Sb (fun r' σ'=>r'=r∧σ'=[(k,ob')])∧Sb k∧ak s.heap k=some ob∧aP r=[]∧dF ob'=[]∧k∈cD o.o.op s.env ∧
   dW o.o.op s (.put k ob')=true∧fG o.bef ⟨i,cD o.o.op s.env,[],[k],false,true⟩ hist=true∧K (⟨i,cD o.o.op s.env,[],[k],false,true⟩ :: hist) ((s.eff (.put k ob')).put o.o.dst r)
 | .callv _ _=>False
 | .app t st x y=>(match bA (o.o.dst.getD 0) (.app t st x y) (val (get s.env)) (ak s.heap) with
  | some (v,e)=>dW o.o.op s e=true∧fG o.bef ⟨i,cD o.o.op s.env,aP v++e.ids,e.tch,e.isReb,e.isPut⟩ hist=true ∧
    pR al o.bef ⟨i,cD o.o.op s.env,aP v++e.ids,e.tch,e.isReb,e.isPut⟩=true∧K (⟨i,cD o.o.op s.env,aP v++e.ids,e.tch,e.isReb,e.isPut⟩ :: hist) ((s.eff e).put o.o.dst v)
  | none=>False)∨(∃rows,x = .c .nl∧bA (o.o.dst.getD 0) (.app t st x y) (val (get s.env)) (ak s.heap)=some (.ms (o.o.dst.getD 0) st 0 rows.length,.new (o.o.dst.getD 0) ⟨t,st,rows,false⟩) ∧
   dW o.o.op s .no=true∧fG o.bef ⟨i,cD o.o.op s.env,[],[],false,false⟩ hist=true∧K (⟨i,cD o.o.op s.env,[],[],false,false⟩ :: hist) (s.put o.o.dst (.sl st rows)))
 | op=>match bA (o.o.dst.getD 0) op (val (get s.env)) (ak s.heap) with
  | some (v,e)=>dW o.o.op s e=true∧fG o.bef ⟨i,cD o.o.op s.env,aP v++e.ids,e.tch,e.isReb,e.isPut⟩ hist=true ∧
    pR al o.bef ⟨i,cD o.o.op s.env,aP v++e.ids,e.tch,e.isReb,e.isPut⟩=true∧K (⟨i,cD o.o.op s.env,aP v++e.ids,e.tch,e.isReb,e.isPut⟩ :: hist) ((s.eff e).put o.o.dst v)
  | none=>False
def eG (P:Program) [bU P] (al:List (Nat×Nat)):Nat→List aR→List HI→St→(List HI→St→Prop)→Prop
 | _,[],hist,s,K=>K hist s
 | i,o :: r,hist,s,K=>match o.o.g with
  | none=>fH P al i o hist s (fun hist' s'=>eG P al (i+1) r hist' s' K)
  | some (k,b)=>match get s.env k with
   | .bool t=>(t=b→fH P al i o hist (s.put (some k) (.bool b)) (fun hist' s'=>eG P al (i+1) r hist' s' K)) ∧
     (t = !b→eG P al (i+1) r (⟨i,[],[],[],false,false⟩ :: hist) ((s.put (some k) (.bool (!b))).put o.o.dst (.tup [])) K)
   | .tup []=>eG P al (i+1) r (⟨i,[],[],[],false,false⟩ :: hist) (s.put o.o.dst (.tup [])) K
   | _=>False
def gz (P:Program) [bU P] (al:List (Nat×Nat)) (i:Nat) (l:List aR) (hist:List HI) (s:St) (K:St→Prop):Prop:=eG P al i l hist s fun _ s=>K s
def cT:bE→bE
 | .cut x y=>.seq (cT x) (cT y)
 | .seq x y=>.seq (cT x) (cT y)
 | .cond c t e=>.cond c (cT t) (cT e)
 | .block id x=>.block id (cT x)
 | .loop x=>.loop (cT x)
 | .free ops al dr=>.draw ops al dr
 | .wild ops al dr=>.draw ops al dr
 | x=>x
def refine (c:IV) (b:Bool) (s:St):St :=
 match c with
 | .s k=>s.put (some k) (.bool b)
 | .c _=>s
def Z1 (R:List (Nat×aR)):List (Nat×aR):=R.filter fun t=>R.all fun q=>!t.2.bef.contains q.1
def uB {α:Type}:List α→(α→Prop)→Prop
 | [],_=>True
 | [x],F=>F x
 | x :: y :: r,F=>F x∧uB (y :: r) F
def rY (P:Program) [bU P]:Nat→List (Nat×aR)→St→(St→Prop)→Prop
 | 0,_,s,K=>K s
 | f+1,R,s,K=>uB (Z1 R) fun t=>fj P [t.2.o] s fun s'=>rY P f (R.filter fun q=>q.1 != t.1) s' K
def ii (P:Program) [bU P]:bE→St→(IX→St→Prop)→Prop
 | .skip,s,K=>K .nrm s
 | .ret,s,K=>K .ret s
 | .exit id,s,K=>K (.ext id) s
 | .seq x y,s,K=>ii P x s fun e s'=>match e with
  | .nrm=>ii P y s' K
  | e=>K e s'
 | .cut x y,s,K=>ii P x s fun e s'=>match e with
  | .nrm=>∃s'',Wk s' s''∧ii P y s'' K
  | e=>K e s'
 | .cond c t e,s,K=>match val (get s.env) c with
  | .bool b=>(b=true→ii P t (refine c true s) K)∧(b=false→ii P e (refine c false s) K)
  | _=>False
 | .block id x,s,K=>ii P x s fun e s'=>match e with
  | .ext j=>if j=id then K .nrm s' else K (.ext j) s'
  | e=>K e s'
 | .loop x,s,K=>∃I:Nat→St→Prop,(∃n s',I n s'∧Wk s s')∧∀n s,I n s→ii P x s fun e s'=>match e with
  | .nrm=>∃m s'',m<n∧I m s''∧Wk s' s''
  | e=>K e s'
 | .reg ops dr,s,K=>fj P ops s fun s'=>K .nrm ⟨dels dr s'.env,s'.heap⟩
 | .draw ops al dr,s,K=>gz P al 0 ops [] (kills (al.map (·.1)) s) fun s'=>K .nrm ⟨dels dr s'.env,s'.heap⟩
 | .wild ops al dr,s,K=>eG P al 0 ops.dropLast [] (kills (al.map (·.1)) s) fun hist s1=>match ops.getLast? with
  | some o=>vP al (ops.length - 1) o hist s1 fun s'=>K .nrm ⟨dels dr s'.env,s'.heap⟩
  | none=>False
 | .free ops _ dr,s,K=>rY P ops.length (ops.zipIdx.map fun p=>(p.2,p.1)) s fun s'=>K .nrm ⟨dels dr s'.env,s'.heap⟩
def o_ (P:Program) (n:Nat) (ops:Array Oper):List Oper→Option (List aS)
 | []=>some []
 | o :: r=>match lk P n ops o,o_ P n ops r with
  | some x,some xs=>some (x :: xs)
  | _,_=>none
def Dk:List Oper→List (List Nat)→List (List Nat)
 | [],acc=>acc
 | o :: r,acc=>Dk r (acc++[((o.after.toList.filter (Region.binds .any)).flatMap fun e=>e.on :: acc.getD e.on []).eraseDups])
def dR:Code→List (List Nat)
 | .region _ ops _=>[ops.toList.flatMap fun o=>o.dst.toList++o.op.operands.toList.filterMap fun | .tmp t=>some t | _=>none]
 | .seq x y=>dR x++dR y
 | .cond (.tmp t) x y=>[t] :: (dR x++dR y)
 | .cond _ x y=>dR x++dR y
 | .block _ x=>dR x
 | .loop x=>dR x
 | .scope x=>dR x
 | _=>[]
def Lj (ls:List (List Nat)) (k:Nat):Bool:=2≤(ls.filter (·.contains k)).length
def tw:List Nat→Bool
 | []=>true
 | x :: r=>!r.contains x&&tw r
def fR (o:Oper):List Nat:=(o.after.toList.filter (Region.binds .any)).map (·.on)
def Lv (ops:List Oper) (bs:List (List Nat)):Bool :=
 (List.range ops.length).all fun i=>match ops[i]? with
  | none=>false
  | some o=>(fR o).all (fun d=>decide (d<i))&&(bs.getD i []).all (fun d=>(fR o).contains d||(fR o).any fun m=>(bs.getD m []).contains d)
def fO:IV→Bool
 | .s _=>true
 | .c x=>(aP x).isEmpty
def bt (op:ik):Bool :=
 match op with
 | .load _ x | .cvs x | .cvm x=>fO x
 | .store _ x y | .app _ _ x y | .apps _ x y | .cpy _ x y=>fO x&&fO y
 | .call _ args=>args.all fO
 | .mop _ args=>args.all fO
 | _=>true
def HN (bs:List (List Nat)) (l:List aS):Bool :=
 (List.range l.length).all fun i=>(List.range i).all fun j=>match l[i]?,l[j]? with
  | some x,some y=>(bs.getD i []).contains j ||
    ((match y.dst with | some d=>!(cI x).contains d&&x.dst != some d | none=>true)&&(match x.dst with | some d=>!(cI y).contains d | none=>true))
  | _,_=>false
def cx:Nat→List aS→List (Nat×Nat)
 | _,[]=>[]
 | i,o :: r=>if dx o.op then (o.dst.getD 0,i) :: cx (i+1) r else cx (i+1) r
def GR (l:List Nat):Nat→Nat→Nat
 | 0,k=>k
 | f+1,k=>if l.contains k then GR l f (k+1) else k
def vJ (bs:List (List Nat)):Nat→List aS→List (Nat×List aS)×Nat
 | i,[]=>([],i)
 | i,o :: r=>match vJ bs (i+1) r with
  | ([],m)=>([(i,[o])],min m (GR (bs.getD i []) i 0))
  | ((k,s) :: t,m)=>if i+1≤m then ((i,[o]) :: (k,s) :: t,min m (GR (bs.getD i []) i 0)) else ((i,o :: s) :: t,min m (GR (bs.getD i []) i 0))
def kD (bs:List (List Nat)) (i n:Nat):List (List Nat):=(List.range n).map fun k=>(bs.getD (i+k) []).filterMap fun d=>if i≤d then some (d - i) else none
def oy (rb:List (List Nat)) (s:List aS) (dr:List Nat):Option bE :=
 if HN rb s&&(cx 0 s).all (fun p=>p.1<1000)&&tw ((cx 0 s).map (·.1))&&s.all (fun o=>bt o.op) then
  some (.draw (s.zipIdx.map fun p=>⟨p.1,rb.getD p.2 []⟩) (cx 0 s) dr) else none
def zH (bs:List (List Nat)) (i:Nat) (s:List aS) (dr:List Nat):Option bE :=
 match s with
 | [o]=>some (.reg [o] dr)
 | s=>oy (kD bs i s.length) s dr
def rl (bs:List (List Nat)) (dr:List Nat):List (Nat×List aS)→Option bE
 | []=>some (.reg [] dr)
 | (i,s) :: t=>match t with
  | []=>zH bs i s dr
  | _ :: _=>match zH bs i s [],rl bs dr t with
   | some x,some y=>some (.seq x y)
   | _,_=>none
def Do (P:Program) (n:Nat) (ops:Array Oper) (dr:List Nat→List Nat):Option bE :=
 match o_ P n ops ops.toList with
 | none=>none
 | some l=>if Lv ops.toList (Dk ops.toList []) then rl (Dk ops.toList []) (dr (l.filterMap (·.dst))) (vJ (Dk ops.toList []) 0 l).1 else none
def comp (P:Program) (n:Nat) (sh:List (List Nat)):Code→Option bE
 | .skip=>some .skip
 | .ret=>some .ret
 | .exit id=>some (.exit id)
 | .label _=>some .skip
 | .seq x y=>match comp P n sh x,comp P n sh y with
  | some x,some y=>some (.seq x y)
  | _,_=>none
 | .cond c x y=>match cV c,comp P n sh x,comp P n sh y with
  | some c,some x,some y=>some (.cond c x y)
  | _,_,_=>none
 | .block id x=>(comp P n sh x).map (.block id)
 | .loop x=>(comp P n sh x).map .loop
 | .scope x=>comp P n sh x
 | .region _ ops false=>match o_ P n ops ops.toList with
  | some l=>some (.reg l ((l.filterMap (·.dst)).filter fun k=>!Lj sh k))
  | none=>none
 | .region _ ops true=>Do P n ops (·.filter fun k=>!Lj sh k)
 | _=>none
inductive iL where
 | tmp (k:Nat)
 | cell (k:Nat) (n:Option Nat)
 deriving Inhabited
structure aH where
 n:Nat
 np:Nat
 res:List iL
 body:bE
 deriving Inhabited
def uz (P:Program):List ResultVar→Option (List iL)
 | []=>some []
 | .tmp t :: r=>if t<1000000 then (uz P r).map (.tmp t :: ·) else none
 | .cell a t :: r=>match lc P t,uz P r with
  | some n,some l=>if a<1000000 then some (.cell a n :: l) else none
  | _,_=>none
def qh:List ResultVar→List Nat
 | []=>[]
 | .tmp t :: r=>t :: qh r
 | .cell a _ :: r=>a :: qh r
def ax (P:Program) (f:FuncId):Option aH :=
 match P.funcs[f]? with
 | none=>none
 | some fn=>match fn.body with
  | none=>none
  | some body=>match comp P fn.ntmps (qh fn.results.toList :: dR body) body,uz P fn.results.toList with
   | some b,some rs=>if fn.params.size+fn.nfree≤fn.ntmps∧fn.ntmps≤1000000 then some ⟨fn.ntmps,fn.params.size+fn.nfree,rs,b⟩ else none
   | _,_=>none
section
variable {P:Program} [bU P] {c:li} [CT c P] {a:Act} {w:World} {s:St} {o:Oper} {io:aS} {ops:Array Oper} {n:Nat}
theorem lG (hc:lk P n ops o=some io):iP P o.op=some io.op∧io.dst=o.dst∧(∀k,o.dst=some k→k<n) ∧
  ((o.guard=none∧io.g=none)∨∃j b k,o.guard=some (j,b)∧(ops[j]?).bind (·.dst)=some k∧io.g=some (k,b)):=by
 unfold lk at hc
 split at hc
 case h_2=>cases hc
 rename_i op h1
 have hd:(match o.dst with | some d=>decide (d<n) | none=>true)=true→∀k,o.dst=some k→k<n:=fun h k hk=>by rw [hk] at h;simpa using h
 split at hc
 ·rename_i h2 h3
  cases hc
  exact ⟨h1,rfl,hd h2,.inl ⟨h3,rfl⟩⟩
 ·rename_i j b h2 h3
  split at hc
  case h_2=>cases hc
  rename_i k hk
  cases hc
  exact ⟨h1,rfl,hd h2,.inr ⟨j,b,k,h3,hk,rfl⟩⟩
 ·cases hc
theorem fV {f:FuncId} (hb:ek P f=true) (args:Array Value):(callFunc f args).run P w = .ok (.enter f args) w:=by
 unfold ek at hb
 split at hb
 case h_2=>cases hb
 rename_i fn hf
 simp only [bY,bne_iff_ne] at hb
 obtain ⟨h1,h2⟩:=hb
 have h3:fn.body.isNone=false:=by cases h:fn.body<;>simp_all
 have h4:¬fn.body=none:=fun hn=>by simp [hn] at h1
 simp [callFunc,hf,h2,h4]
theorem jC {f:FuncId} {cargs:List Value} {args:List AV} {d:Option Nat} (hd:∀k,d=some k→k<c.n) {K:St→Prop} {bl:Nat→Option Nat} (hs:aM c bl (get s.env) (ak s.heap) a w)
  (ha:aU (ba bl (bx bl c.MF (ak s.heap)) w) cargs args) (h:ni P f args d s K) :
  Calls P f cargs.toArray w fun e w'=>∃v,e = .returned v∧∃s',K s'∧bZ c s' (a.put d v) w':=by
 rcases h with ⟨args',r,b,hp,hid,hco,hf,hk⟩ | ⟨σ0,Sb,Post,ks,hp,hσ,hks,hk⟩
 ·refine (r9 hs hp ha hid b hco hf).mono fun e w' ⟨v,he,hs',hv⟩=>⟨v,he,s.put d r,hk,mR hs' d hd hv (fun _=>rfl) (fun _=>rfl)⟩
 ·refine (vi hs hp ha hσ ks hks).mono fun e w' ⟨v,r,σ',bl2,he,hP,hs',hv⟩=>?_
  obtain ⟨s',h1,h2,h3⟩:=hk r σ' hP
  exact ⟨v,he,s'.put d r,h3,mR hs' d hd hv h1 h2⟩
theorem kr {f:FuncId} {cargs:List Value} {args:List AV} {d:Option Nat} (hd:∀k,d=some k→k<c.n) {K:St→Prop} {bl:Nat→Option Nat} (hs:aM c bl (get s.env) (ak s.heap) a w)
  (ha:aU (ba bl (bx bl c.MF (ak s.heap)) w) cargs args) (h:cW P f args d s K) :
  Calls P f cargs.toArray w fun e w'=>∃v,e = .returned v∧∃s',K s'∧bZ c s' (a.put d v) w':=by
 rcases h with h | ⟨fs,h⟩ | ⟨s',args',hw,h⟩
 ·exact jC hd hs ha h
 ·obtain ⟨h1,h2⟩:=aM.frzs fs s hs
  exact jC hd h1 (ha.mapRight fun v x hv=>h2 v x hv) h
 ·obtain ⟨bl',h1,h2⟩:=hw c a w bl cargs hs ha
  exact jC hd h1 h2 h
theorem gZ {f:FuncId} {args:Array Value} {K:Act→World→Prop} {Q:Exit→Act→World→Prop} (hr:(execOp a.eval o).run P w = .ok (.enter f args) w)
  (h:Calls P f args w fun e w'=>∃v,e = .returned v∧K (a.put o.dst v) w'):o.wp P a w K Q:=by
 unfold Oper.wp
 rw [hr]
 simp only [Oper.upon]
 refine h.mono fun e w' ⟨v,he,hk⟩=>?_
 subst he
 exact hk
theorem oQ {v:AV} {e:bc} {K:Act→World→Prop} {Q:Exit→Act→World→Prop} {g:Nat→AV} {h:Nat→Option ao} (hok:aW P c o a w g h v e)
  (hk:∀r w' bl',aM c bl' (e.env g) (e.hp h) a w'→ba bl' (bx bl' c.MF (e.hp h)) w' r v→K (a.put o.dst r) w'):o.wp P a w K Q:=by
 obtain ⟨r,w',bl',hr,h1,h2⟩:=hok
 unfold Oper.wp
 rcases hr with hr | ⟨hr,rfl⟩
 ·rw [hr];exact hk r w' bl' h1 h2
 ·rw [hr];exact hk undef w' bl' h1 h2
theorem i4 {bl:Nat→Option Nat} {g:Nat→AV} {h:Nat→Option ao} (hs:aM c bl g h a w) {cs:Array Operand} {vs:List IV} (hv:Dp cs.toList=some vs):aU (ba bl (bx bl c.MF h) w) (cs.map a.eval).toList (vs.map (val g)):=by
 rw [Array.toList_map]
 exact sM hs hv
theorem uy {oo:Op} {f:FuncId} {args:List IV} (h:iP P oo=some (.call f args)):∃cl,oo = .call cl∧cl.callee = .value (.func f)∧ek P f=true∧Dp cl.args.toList=some args:=by
 cases oo<;>simp only [iP] at h
 case call cl =>
  unfold uw at h
  split at h
  ·rename_i f' hcl
   split at h
   case isFalse=>obtain ⟨_,_,_,_,_,_,_,_,_,_,_,_,q⟩:=ki h;cases q
   rename_i hb
   simp only [c9] at h
   obtain ⟨vs,hv,h⟩:=h
   cases h
   exact ⟨cl,rfl,hcl,hb,hv⟩
  all_goals
   exfalso
   repeat' (split at h)
   all_goals first
    | (cases h;done)
    | (obtain ⟨_,_,_,_,_,_,_,_,_,_,_,_,q⟩:=ki h;cases q;done)
    | (simp only [c9] at h;obtain ⟨_,_,h⟩:=h;cases h)
 case binOp =>
  split at h
  ·unfold Dn at h;repeat' (split at h)
   all_goals cases h
  ·cases h
 case convert =>
  split at h
  ·unfold ux at h
   repeat' (split at h)
   all_goals cases h
  ·cases h
 case makeFunc fn first caps =>
  cases fn<;>simp only [iP] at h<;>try (cases h;done)
  split at h
  ·simp only [c9] at h;obtain ⟨_,_,h⟩:=h;cases h
  ·cases h
 all_goals
  exfalso
  repeat' (split at h)
  all_goals first
   | (cases h;done)
   | (simp only [c9] at h;obtain ⟨_,_,h⟩:=h;cases h;done)
   | (simp_all;done)
theorem zG {oo:Op} {f:IV} {args:List IV} (h:iP P oo=some (.callv f args)):∃cl t,oo = .call cl∧cl.callee = .value (.tmp t)∧f = .s t∧Dp cl.args.toList=some args:=by
 cases oo<;>simp only [iP] at h
 case call cl =>
  unfold uw at h
  split at h
  case h_2 =>
   rename_i t hcl
   split at h
   case isFalse=>cases h
   simp only [c9] at h
   obtain ⟨vs,hv,h⟩:=h
   cases h
   exact ⟨cl,t,rfl,hcl,rfl,hv⟩
  all_goals
   exfalso
   repeat' (split at h)
   all_goals first
    | (cases h;done)
    | (obtain ⟨_,_,_,_,_,_,_,_,_,_,_,_,q⟩:=ki h;cases q;done)
    | (simp only [c9] at h;obtain ⟨_,_,h⟩:=h;cases h)
 case binOp =>
  split at h
  ·unfold Dn at h;repeat' (split at h)
   all_goals cases h
  ·cases h
 case convert =>
  split at h
  ·unfold ux at h
   repeat' (split at h)
   all_goals cases h
  ·cases h
 case makeFunc fn first caps =>
  cases fn<;>simp only [iP] at h<;>try (cases h;done)
  split at h
  ·simp only [c9] at h;obtain ⟨_,_,h⟩:=h;cases h
  ·cases h
 all_goals
  exfalso
  repeat' (split at h)
  all_goals first
   | (cases h;done)
   | (simp only [c9] at h;obtain ⟨_,_,h⟩:=h;cases h;done)
   | (simp_all;done)
theorem HX {oo:Op} {b:Bool} {x:IV} (h:iP P oo=some (.snl b x)):∃op t y z t' e,oo = .binOp op t y z t'∧P.underlying t=some (.slice e)∧((op = .eql∧b=false)∨(op = .neq∧b=true))∧cV y=some x∧cV z=some (.c .nl):=by
 cases oo<;>simp only [iP] at h
 case binOp op t y z t' =>
  split at h
  case h_2=>cases h
  rename_i yv zv h1 h2
  unfold Dn at h
  split at h
  case h_7 =>
   rename_i e ht
   split at h
   ·cases h;exact ⟨_,_,_,_,_,_,rfl,ht,.inl ⟨rfl,rfl⟩,h1,h2⟩
   ·cases h;exact ⟨_,_,_,_,_,_,rfl,ht,.inr ⟨rfl,rfl⟩,h1,h2⟩
   ·cases h
  all_goals
   repeat' (split at h)
   all_goals cases h
 case call cl =>
  unfold uw at h
  exfalso
  repeat' (split at h)
  all_goals first
   | (cases h;done)
   | (obtain ⟨_,_,_,_,_,_,_,_,_,_,_,_,q⟩:=ki h;cases q;done)
   | (simp only [c9] at h;obtain ⟨_,_,h⟩:=h;cases h)
 case convert =>
  split at h
  ·unfold ux at h
   repeat' (split at h)
   all_goals cases h
  ·cases h
 case makeFunc fn first caps =>
  cases fn<;>simp only [iP] at h<;>try (cases h;done)
  split at h
  ·simp only [c9] at h;obtain ⟨_,_,h⟩:=h;cases h
  ·cases h
 all_goals
  exfalso
  repeat' (split at h)
  all_goals first
   | (cases h;done)
   | (simp only [c9] at h;obtain ⟨_,_,h⟩:=h;cases h;done)
   | (simp_all;done)
theorem Ai (hc:lk P n ops o=some io) (hn:c.n=n) {K:St→Prop} (h:iA P io s K) (hs:bZ c s a w) (Q:Exit→Act→World→Prop) :
  o.wp P a w (fun a' w'=>∃s',K s'∧bZ c s' a' w') Q:=by
 obtain ⟨h1,h2,h3,_⟩:=lG hc
 obtain ⟨bl,hs⟩:=hs
 have hd:∀k,io.dst=some k→k<c.n:=fun k hk=>by rw [hn];exact h3 k (h2▸hk)
 have plain:∀{s:St} {bl:Nat→Option Nat},aM c bl (get s.env) (ak s.heap) a w→(dx io.op=true→ak s.heap (io.dst.getD 0)=none∧cz (io.dst.getD 0) (get s.env) (ak s.heap)∧(io.dst.getD 0<1000∨2000≤io.dst.getD 0)) →
   (match bA (io.dst.getD 0) io.op (val (get s.env)) (ak s.heap) with
    | some (v,e)=>K ((s.eff e).put io.dst v)
    | none=>False)→o.wp P a w (fun a' w'=>∃s',K s'∧bZ c s' a' w') Q:=by
  intro s bl hs hnew hm
  split at hm
  case h_2=>exact hm.elim
  rename_i v e he
  refine oQ (v_ hs h1 he hnew) (fun r w' bl' q1 q2=>⟨_,hm,?_⟩)
  rw [← h2]
  exact mR q1 io.dst hd q2 (yg s e) (uS s e)
 unfold iA at h
 split at h
 ·rename_i f args hop
  rw [hop] at h1
  obtain ⟨cl,hoo,hcl,hb,hv⟩:=uy h1
  refine gZ (f:=f) (args:=cl.args.map a.eval) ?_ ?_
  ·have:=fV (w:=w) hb (cl.args.map a.eval)
   simp [execOp,hoo,resolve,hcl,Act.eval,Deferred.ofValue,invoke,this]
  ·have:=kr hd hs (i4 hs hv) h
   simp only [Array.toArray_toList] at this
   rw [← h2]
   exact this
 ·rename_i f args hop
  rw [hop] at h1
  obtain ⟨cl,t,hoo,hcl,rfl,hv⟩:=zG h1
  split at h
  case h_2=>exact h.elim
  rename_i f caps hval
  have hf:=hs.env t
  simp only [val] at hval
  rw [hval] at hf
  obtain ⟨cs,hf1,hf2⟩:=hf
  have hev:a.eval (.tmp t) = .func (.func (N8 f)) (cs.take (It f)).toArray (cs.drop (It f)).toArray:=by
   rw [(tR (a:=a) (k:=t) (fun b hb=>by rw [hb] at hf1;cases hf1)).2] at hf1
   exact hf1
  have lift:∀{vs:List Value} {xs:List AV},aU (de bl (bx bl c.MF (ak s.heap)) w) vs xs→aU (ba bl (bx bl c.MF (ak s.heap)) w) vs xs:=fun hr=>hr.mono fun _ x _ hr=>(show ba bl (bx bl c.MF (ak s.heap)) w _ x from by
    cases x<;>first | exact hr | trivial | (exfalso;simp only [de] at hr;cases hr))
  by_cases hlt:f<4000000
  ·rw [aK hlt] at h
   have eI:N8 f=f:=aK hlt
   have eK:It f=0:=aK hlt
   rw [eI,eK] at hev
   simp only [f8,List.drop_zero] at hev
   obtain ⟨hb,h⟩:=h
   refine gZ (f:=f) (args:=cl.args.map a.eval++cs.toArray) ?_ ?_
   ·have:=fV (w:=w) hb (cl.args.map a.eval++cs.toArray)
    simp [execOp,hoo,resolve,hcl,hev,Deferred.ofValue,invoke,this]
   ·have hargs:=(i4 hs hv).append (lift hf2)
    have:=kr hd hs hargs h
    have e1:((cl.args.map a.eval).toList++cs).toArray=cl.args.map a.eval++cs.toArray:=by apply Array.toList_inj.1;simp
    rw [e1] at this
    rw [← h2]
    exact this
  ·rw [aD hlt] at h
   have eI:N8 f=f - 4000000:=aD hlt
   have eK:It f=1:=aD hlt
   rw [eI,eK] at hev
   obtain ⟨hb,h⟩:=h
   refine gZ (f:=f - 4000000) (args:=(cs.take 1).toArray++cl.args.map a.eval++(cs.drop 1).toArray) ?_ ?_
   ·generalize (cs.take 1).toArray=A1 at hev ⊢
    generalize (cs.drop 1).toArray=A2 at hev ⊢
    have:=fV (w:=w) hb (A1++cl.args.map a.eval++A2)
    rw [Array.append_assoc] at this
    simp [execOp,hoo,resolve,hcl,hev,Deferred.ofValue,invoke,this]
   ·have hargs:=((lift (hf2.take 1)).append (i4 hs hv)).append (lift (hf2.drop 1))
    have:=kr hd hs hargs h
    have e1:((cs.take 1++(cl.args.map a.eval).toList)++cs.drop 1).toArray=(cs.take 1).toArray++cl.args.map a.eval++(cs.drop 1).toArray:=by apply Array.toList_inj.1;simp
    rw [e1] at this
    rw [← h2]
    exact this
 ·rename_i t st rows ps hop
  obtain ⟨hlt,h⟩:=h
  have go:∀{s:St} {bl:Nat→Option Nat},aM c bl (get s.env) (ak s.heap) a w→vn io s K→o.wp P a w (fun a' w'=>∃s',K s'∧bZ c s' a' w') Q:=fun {s bl} hs hm=>by
   obtain ⟨bl',hk⟩:=bZ.kill (i:=io.dst.getD 0) ⟨bl,hs⟩
   exact plain hk (fun _=>⟨(dG s _).1,(dG s _).2,.inl hlt⟩) hm
  split at h
  ·rename_i v e he
   refine go hs ?_
   unfold vn
   rw [hop,he]
   exact h
  ·obtain ⟨s',hw,h⟩:=h
   obtain ⟨bl',hs'⟩:=hw c a w ⟨bl,hs⟩
   exact go hs' h
 ·rename_i b x hop
  obtain ⟨op,t,y,z,t',e,hoo,ht,hb,hx,hy⟩:=HX (hop▸h1)
  have kk:∀{v:AV},aW P c o a w (get s.env) (ak s.heap) v .no→K (s.put io.dst v)→o.wp P a w (fun a' w'=>∃s',K s'∧bZ c s' a' w') Q:=fun {v} hok hk=>by
   refine oQ hok (fun r w' bl' q1 q2=>⟨_,hk,?_⟩)
   rw [← h2]
   exact mR q1 io.dst hd q2 (fun _=>rfl) (fun _=>rfl)
  split at h
  ·rename_i st hv
   have h5:=aO hs hx
   rw [hv] at h5
   have hy2:a.eval z = .slice none 0 0:=(aO hs hy).nl
   generalize hu:a.eval y=u at h5
   have h6:=h5.sl
   have fin:∀{ad n cap},a.eval y = .slice ad n cap→o.wp P a w (fun a' w'=>∃s',K s'∧bZ c s' a' w') Q:=fun {ad n cap} h7=>by
    refine kk (v:=.bool (if ad.isNone then !b else b)) (aW.pure hs (r:=.bool _) (yW hoo ht hb h7 hy2) (gW _)) ?_
    cases ad
    ·exact h.2
    ·exact h.1
   cases h6<;>exact fin hu
  ·split at h
   case h_2=>exact h.elim
   rename_i v hv
   exact kk (w6 hs hoo ht hb hx hy hv) h
 ·split at h
  ·rename_i hal
   obtain ⟨hlt,h⟩:=h
   obtain ⟨bl',hk⟩:=bZ.kill (i:=io.dst.getD 0) ⟨bl,hs⟩
   exact plain hk (fun _=>⟨(dG s _).1,(dG s _).2,.inl hlt⟩) h
  ·rename_i hal
   exact plain hs (fun h=>absurd h hal) h
theorem lB {bl:Nat→Option Nat} {M:Nat→Prop} {j k:Nat} (hj:(ops[j]?).bind (·.dst)=some k) (hk:ba bl M w (tv a k) (.tup [])):yielded ops a.tmps j=none:=by
 obtain ⟨cs,h1,h2⟩:=hk
 rw [(tR (a:=a) (k:=k) (fun b hb=>by rw [hb] at h1;cases h1)).2] at h1
 have hcs:cs=[]:=by cases cs with | nil=>rfl | cons=>exact h2.elim
 subst hcs
 have:∀b,a.tmps[k]?≠some (.bool b):=fun b hb=>by
  rw [kL,hb] at h1
  cases h1
 unfold yielded
 rw [hj]
 show (match a.tmps[k]? with | some (.bool b)=>some b | _=>none)=none
 generalize a.tmps[k]? = x at this
 cases x with
 | none=>rfl
 | some v=>cases v<;>first | rfl | exact absurd rfl (this _)
theorem lL (hn:c.n=n) (Q:Exit→Act→World→Prop) {o:Oper} {io:aS} (h1:lk P n ops o=some io) {il:List aS} {K:St→Prop} {KK:Act→World→Prop} {s:St} {a:Act} {w:World} (h:fj P (io :: il) s K) (hs:bZ c s a w)
  (hK:∀s' a' w',fj P il s' K→bZ c s' a' w'→KK a' w'):if Region.wanted o (yielded ops a.tmps) then o.wp P a w KK Q∨(o.asks P a w∧LetsOut Q) else KK (a.put o.dst undef) w:=by
 obtain ⟨_,hdst,hdn,hg⟩:=lG h1
 have run:∀{s:St},iA P io s (fun s'=>fj P il s' K)→bZ c s a w→o.wp P a w KK Q:=fun {s} h hs =>
  Oper.wp_mono (fun a' w' ⟨s',h3,h4⟩=>hK s' a' w' h3 h4) (Ai h1 hn h hs Q)
 rcases hg with ⟨g1,g2⟩ | ⟨j,b,k,g1,g2,g3⟩
 ·rw [aK (by simp [Region.wanted,g1])]
  simp only [fj,g2] at h
  exact .inl (run h hs)
 ·simp only [fj,g3] at h
  split at h
  case h_3=>exact h.elim
  case h_2 =>
   rename_i hv
   obtain ⟨bl,hsb⟩:=hs
   have hk:=hsb.env k
   rw [hv] at hk
   have hy:=lB (ops:=ops) g2 hk
   rw [aD (by simp [Region.wanted,g1,hy])]
   refine hK _ _ w h ?_
   rw [← hdst]
   exact vI ⟨bl,hsb⟩ io.dst (fun q hq=>by rw [hn];exact hdn q (hdst▸hq)) ()
  rename_i t hv
  obtain ⟨bl,hsb⟩:=hs
  have hk:=hsb.env k
  rw [hv] at hk
  have hkv:=hk.bool
  rw [(tR (a:=a) (k:=k) (fun b hb=>by rw [hb] at hkv;cases hkv)).2] at hkv
  have hkn:k<a.tmps.size:=by
   rcases dT k a.tmps.size with hlt | hge
   ·exact hlt
   ·rw [kL,Array.getElem?_eq_none hge] at hkv
    cases hkv
  have hy:yielded ops a.tmps j=some t:=by
   have:a.tmps[k]? = some (.bool t):=by
    rw [kL,mU hkn] at hkv
    rw [mU hkn]
    simpa using hkv
   simp [yielded,g2,this]
  have hput:∀q:Bool,t=q→bZ c (s.put (some k) (.bool q)) a w:=fun q hq=>by
   refine ⟨bl,hsb.congr (fun i=>?_) (fun i=>rfl)⟩
   simp only [St.put,get,jz]
   by_cases hik:k=i
   ·subst hik;simp [hv,hq]
   ·have hik':¬i=k:=fun e=>hik e.symm
    simp [hik,hik']
  by_cases htb:t=b
  ·rw [aK (by simp [Region.wanted,g1,hy,htb])]
   exact .inl (run (h.1 htb) (hput b htb))
  ·have htb':t = !b:=by cases t<;>cases b<;>simp_all
   rw [aD (by simp [Region.wanted,g1,hy,htb])]
   refine hK _ _ w (h.2 htb') ?_
   rw [← hdst]
   exact vI (hput _ htb') io.dst (fun q hq=>by rw [hn];exact hdn q (hdst▸hq)) ()
theorem pA (hn:c.n=n) (Q:Exit→Act→World→Prop):∀(l:List Oper) (il:List aS),o_ P n ops l=some il→∀(s:St) (K:St→Prop) (a:Act) (w:World),fj P il s K→bZ c s a w →
  (∀s' a' w',K s'→bZ c s' a' w'→Q .normal a' w')→wpList P ops Q l a w
 | [],il,hc,s,K,a,w,h,hs,hQ=>by
  simp only [o_,cq] at hc
  subst hc
  exact hQ s a w h hs
 | o :: r,il,hc,s,K,a,w,h,hs,hQ=>by
  simp only [o_] at hc
  split at hc
  case h_2=>cases hc
  rename_i io il' h1 h2
  cases hc
  unfold wpList
  exact lL hn Q h1 h hs fun s' a' w' h3 h4=>pA hn Q r il' h2 s' K a' w' h3 h4 hQ
end
section
variable {g g':Nat→AV} {h h':Nat→Option ao}
theorem jq {v:IV} (hg:∀k∈aX v,g' k=g k):val g' v=val g v:=by
 cases v with
 | s k=>exact hg k (by simp [aX])
 | c x=>rfl
theorem lV {l:List IV} (hg:∀v∈l,∀k∈aX v,g' k=g k):l.map (val g')=l.map (val g):=List.map_congr_left fun v hv=>jq (hg v hv)
theorem AG {v:Option IV} (hg:∀x,v=some x→∀k∈aX x,g' k=g k):v.map (val g')=v.map (val g):=by
 cases v with
 | none=>rfl
 | some x=>simp only [fe];rw [jq (hg x rfl)]
theorem iG (id st off len:Nat):aP (.ms id st off len)=[id]:=rfl
theorem tc (id st row off:Nat):aP (.mp id st row off)=[id]:=rfl
theorem up {n:Option Nat} {p:AV} (hh:∀id∈aP p,h' id=h id):kf n p h'=kf n p h:=by
 cases p<;>try rfl
 simp only [kf]
 rw [hh _ (by simp [tc])]
theorem sE {n:Nat} {p x:AV} (hh:∀id∈aP p,h' id=h id):fD n p x h'=fD n p x h:=by
 unfold fD
 split
 ·rename_i id st row off cs h1
  rw [hh id (by simp [tc])]
 ·rfl
theorem kF {st:Nat} {x:AV} (hh:∀id∈aP x,h' id=h id):fZ st h' x=fZ st h x:=by
 cases x<;>try rfl
 simp only [fZ]
 rw [hh _ (by simp [iG])]
theorem oV {d:Nat} {t:TypeId} {st:Nat} {x:AV} {src:Option (List (List AV))} (hh:∀id∈aP x,h' id=h id):kb d t st x src h'=kb d t st x src h:=by
 unfold kb
 cases src with
 | none=>rfl
 | some ys =>
  cases x<;>try rfl
  simp only
  rw [hh _ (by simp [iG])]
theorem vZ {st:Nat} {x:AV} {src:Option (List (List AV))} (hh:∀id∈aP x,h' id=h id):sC st x src h'=sC st x src h:=by
 unfold sC
 cases src with
 | none=>rfl
 | some ys =>
  cases x<;>try rfl
  simp only
  rw [hh _ (by simp [iG])]
theorem v6 {x:AV} (hh:∀id∈aP x,h' id=h id):zn x h'=zn x h:=by
 unfold zn
 cases x<;>try rfl
 simp only
 rw [hh _ (by simp [iG])]
theorem v8 {d:Nat} {k:MK} {xs:List AV} (hh:∀x∈xs,∀id∈aP x,h' id=h id):gF d k xs h'=gF d k xs h:=by
 have hm:∀{id:Nat} {b:Bool} {r:List AV},xs = .mm id b :: r→h' id=h id:=fun {id b r} hx=>hh (.mm id b) (by rw [hx];simp) id (by simp [aP,ja,gg,jb])
 unfold gF
 split<;>first | rfl | (rw [hm rfl])
theorem sD {ps:List (Nat×Nat×IV)} (hg:∀p∈ps,∀k∈aX p.2.2,g' k=g k):∀cells,f9 (val g') cells ps=f9 (val g) cells ps:=by
 induction ps with
 | nil=>intro cells;rfl
 | cons p r ih =>
  intro cells
  obtain ⟨off,n,v⟩:=p
  have hv:val g' v=val g v:=jq (hg (off,n,v) (by simp))
  simp only [f9,hv]
  cases eF (val g v) with
  | none=>rfl
  | some cs=>simp only [ih (fun p hp=>hg p (by simp [hp]))]
theorem ur {st:Nat} {ps:List (Nat×IV)} (hg:∀p∈ps,∀k∈aX p.2,g' k=g k):∀rows,iE (val g') st rows ps=iE (val g) st rows ps:=by
 induction ps with
 | nil=>intro cells;rfl
 | cons p r ih =>
  intro cells
  obtain ⟨off,v⟩:=p
  have hv:val g' v=val g v:=jq (hg (off,v) (by simp))
  simp only [iE,hv]
  cases eF (val g v) with
  | none=>rfl
  | some cs=>simp only [ih (fun p hp=>hg p (by simp [hp]))]
theorem yi {v:IV} {S:List Nat} (hsub:∀k∈aX v,k∈S) (hh:∀k∈S,∀id∈aP (g k),h' id=h id) (hc:∀x,v = .c x→aP x=[]):∀id∈aP (val g v),h' id=h id:=by
 cases v with
 | s k=>intro id hid;exact hh k (hsub k (by simp [aX])) id hid
 | c x=>intro id hid;rw [show val g (.c x)=x from rfl,hc x rfl] at hid;cases hid
theorem dZ {v:IV} (h:fO v=true):∀x,v = .c x→aP x=[]:=by
 rintro x rfl
 simpa [fO] using h
theorem zx {d:Nat} {op:ik} (hg:∀k∈aw op,g' k=g k) (hh:∀k∈aw op,∀id∈aP (g k),h' id=h id) (hc:bt op=true):bA d op (val g') h'=bA d op (val g) h:=by
 have v1:∀{v:IV},(∀k∈aX v,k∈aw op)→val g' v=val g v:=fun hs=>jq fun k hk=>hg k (hs k hk)
 have vo:∀{v:Option IV},(∀x,v=some x→∀k∈aX x,k∈aw op)→v.map (val g')=v.map (val g):=fun hs=>AG fun x hx k hk=>hg k (hs x hx k hk)
 have hp:∀{v:IV},(∀k∈aX v,k∈aw op)→(∀x,v = .c x→aP x=[])→∀id∈aP (val g v),h' id=h id:=fun hs hc=>yi hs hh hc
 cases op with
 | mov x=>simp only [bA];rw [v1 (fun k hk=>by simp only [aw];exact hk)]
 | pick c a b =>
  simp only [bA]
  rw [v1 (v:=c) (fun k hk=>by simp only [aw,ef];simp [hk]),v1 (v:=a) (fun k hk=>by simp only [aw,ef];simp [hk]),v1 (v:=b) (fun k hk=>by simp only [aw,ef];simp [hk])]
 | new t cs=>rfl
 | box t n x=>simp only [bA];rw [v1 (fun k hk=>by simp only [aw];exact hk)]
 | build cs ps =>
  simp only [bA]
  rw [sD (fun p hp k hk=>hg k (by simp only [aw,jQ];exact ⟨p,hp,hk⟩))]
 | bsl t st rows ps =>
  simp only [bA]
  rw [ur (fun p hp k hk=>hg k (by simp only [aw,jQ];exact ⟨p,hp,hk⟩))]
 | load n p =>
  have hs:∀k∈aX p,k∈aw (.load n p):=fun k hk=>by simp only [aw];exact hk
  simp only [bA]
  rw [v1 hs,up (hp hs (dZ hc))]
 | store n p x =>
  simp only [bt,bY] at hc
  have hs:∀k∈aX p,k∈aw (.store n p x):=fun k hk=>by simp only [aw,ef];simp [hk]
  have hs2:∀k∈aX x,k∈aw (.store n p x):=fun k hk=>by simp only [aw,ef];simp [hk]
  simp only [bA]
  rw [v1 hs,v1 hs2,sE (hp hs (dZ hc.1))]
 | fadr off p=>simp only [bA];rw [v1 (fun k hk=>by simp only [aw];exact hk)]
 | fld off n x=>simp only [bA];rw [v1 (fun k hk=>by simp only [aw];exact hk)]
 | iadr st x i =>
  simp only [bA]
  rw [v1 (v:=x) (fun k hk=>by simp only [aw,ef];simp [hk]),v1 (v:=i) (fun k hk=>by simp only [aw,ef];simp [hk])]
 | aadr st n x i =>
  simp only [bA]
  rw [v1 (v:=x) (fun k hk=>by simp only [aw,ef];simp [hk]),v1 (v:=i) (fun k hk=>by simp only [aw,ef];simp [hk])]
 | mnx m x y =>
  simp only [bA]
  rw [v1 (v:=x) (fun k hk=>by simp only [aw,ef];simp [hk]),v1 (v:=y) (fun k hk=>by simp only [aw,ef];simp [hk])]
 | cpy st x y =>
  simp only [bt,bY] at hc
  have hs:∀k∈aX x,k∈aw (.cpy st x y):=fun k hk=>by simp only [aw,ef];simp [hk]
  have hs2:∀k∈aX y,k∈aw (.cpy st x y):=fun k hk=>by simp only [aw,ef];simp [hk]
  simp only [bA]
  rw [v1 hs,v1 hs2,kF (hp hs2 (dZ hc.2)),vZ (hp hs (dZ hc.1))]
 | cvm x =>
  have hs:∀k∈aX x,k∈aw (.cvm x):=fun k hk=>by simp only [aw];exact hk
  simp only [bA]
  rw [v1 hs,v6 (hp hs (dZ hc))]
 | sib x y =>
  simp only [bA]
  rw [v1 (v:=x) (fun k hk=>by simp only [aw,ef];simp [hk]),v1 (v:=y) (fun k hk=>by simp only [aw,ef];simp [hk])]
 | mop k xs =>
  simp only [bt,ee] at hc
  have hs:∀x∈xs,∀k'∈aX x,k'∈aw (.mop k xs):=fun x hx k' hk=>by simp only [aw,jQ];exact ⟨x,hx,hk⟩
  have e1:xs.map (val g')=xs.map (val g):=List.map_congr_left fun x hx=>v1 (hs x hx)
  simp only [bA]
  rw [e1]
  exact v8 fun y hy id hid=>by
   obtain ⟨x,hx,rfl⟩:=List.mem_map.1 hy
   exact hp (hs x hx) (dZ (hc x hx)) id hid
 | slc st x lo hi mx =>
  have e:∀{v:Option IV} {k:Nat},k∈fN v↔∃x,v=some x∧k∈aX x:=by
   intro v k
   cases v<;>simp [fN]
  simp only [bA]
  rw [v1 (v:=x) (fun k hk=>by simp only [aw,ef];simp [hk]),vo (v:=lo) (fun y hy k hk=>by simp only [aw,ef];exact .inl (.inl (.inr (e.2 ⟨y,hy,hk⟩)))),
   vo (v:=hi) (fun y hy k hk=>by simp only [aw,ef];exact .inl (.inr (e.2 ⟨y,hy,hk⟩))),vo (v:=mx) (fun y hy k hk=>by simp only [aw,ef];exact .inr (e.2 ⟨y,hy,hk⟩))]
 | len x=>simp only [bA];rw [v1 (fun k hk=>by simp only [aw];exact hk)]
 | app t st x y =>
  simp only [bt,bY] at hc
  have hs:∀k∈aX x,k∈aw (.app t st x y):=fun k hk=>by simp only [aw,ef];simp [hk]
  have hs2:∀k∈aX y,k∈aw (.app t st x y):=fun k hk=>by simp only [aw,ef];simp [hk]
  simp only [bA]
  rw [v1 hs,v1 hs2,kF (hp hs2 (dZ hc.2)),oV (hp hs (dZ hc.1))]
 | slen x=>simp only [bA];rw [v1 (fun k hk=>by simp only [aw];exact hk)]
 | sslc x lo hi =>
  have e:∀{v:Option IV} {k:Nat},k∈fN v↔∃x,v=some x∧k∈aX x:=by
   intro v k
   cases v<;>simp [fN]
  simp only [bA]
  rw [v1 (v:=x) (fun k hk=>by simp only [aw,ef];simp [hk]),vo (v:=lo) (fun y hy k hk=>by simp only [aw,ef];exact .inl (.inr (e.2 ⟨y,hy,hk⟩))),
   vo (v:=hi) (fun y hy k hk=>by simp only [aw,ef];exact .inr (e.2 ⟨y,hy,hk⟩))]
 | apps t x y =>
  simp only [bt,bY] at hc
  have hs:∀k∈aX x,k∈aw (.apps t x y):=fun k hk=>by simp only [aw,ef];simp [hk]
  have hs2:∀k∈aX y,k∈aw (.apps t x y):=fun k hk=>by simp only [aw,ef];simp [hk]
  simp only [bA]
  rw [v1 hs,v1 hs2,oV (hp hs (dZ hc.1))]
 | bin op x y =>
  simp only [bA]
  rw [v1 (v:=x) (fun k hk=>by simp only [aw,ef];simp [hk]),v1 (v:=y) (fun k hk=>by simp only [aw,ef];simp [hk])]
 | bbin op x y =>
  simp only [bA]
  rw [v1 (v:=x) (fun k hk=>by simp only [aw,ef];simp [hk]),v1 (v:=y) (fun k hk=>by simp only [aw,ef];simp [hk])]
 | pbin op x y =>
  simp only [bA]
  rw [v1 (v:=x) (fun k hk=>by simp only [aw,ef];simp [hk]),v1 (v:=y) (fun k hk=>by simp only [aw,ef];simp [hk])]
 | sbin op ls x y =>
  simp only [bA]
  rw [v1 (v:=x) (fun k hk=>by simp only [aw,ef];simp [hk]),v1 (v:=y) (fun k hk=>by simp only [aw,ef];simp [hk])]
 | un op x=>simp only [bA];rw [v1 (fun k hk=>by simp only [aw];exact hk)]
 | cvi k' x=>simp only [bA];rw [v1 (fun k hk=>by simp only [aw];exact hk)]
 | cvs x =>
  have hs:∀k∈aX x,k∈aw (.cvs x):=fun k hk=>by simp only [aw];exact hk
  simp only [bA]
  rw [v1 hs,kF (hp hs (dZ hc))]
 | cvt x=>simp only [bA];rw [v1 (fun k hk=>by simp only [aw];exact hk)]
 | cvb t x=>simp only [bA];rw [v1 (fun k hk=>by simp only [aw];exact hk)]
 | call f args=>rfl
 | callv f args=>rfl
 | snl b x=>simp only [bA];rw [v1 (fun k hk=>by simp only [aw];exact hk)]
 | ext x i=>simp only [bA];rw [v1 (fun k hk=>by simp only [aw];exact hk)]
 | nchk x=>simp only [bA];rw [v1 (fun k hk=>by simp only [aw];exact hk)]
 | mkf f caps =>
  simp only [bA]
  rw [lV (fun v hv k hk=>hg k (by simp only [aw,jQ];exact ⟨v,hv,hk⟩))]
 | sidx x i =>
  simp only [bA]
  rw [v1 (v:=x) (fun k hk=>by simp only [aw,ef];simp [hk]),v1 (v:=i) (fun k hk=>by simp only [aw,ef];simp [hk])]
 | mks t st z x y =>
  simp only [bA]
  rw [v1 (v:=x) (fun k hk=>by simp only [aw,ef];simp [hk]),v1 (v:=y) (fun k hk=>by simp only [aw,ef];simp [hk])]
theorem rB {b:Bool}:∀{l l':List AV},(∀x∈l,∀id∈aP x,h' id=h id)→aU (GI b h) l l'→aU (GI b h') l l'
 | [],[],_,_=>trivial
 | x :: l,x' :: l',hh,hc=>⟨by
   rcases hc.1 with h1 | h1 | ⟨hb,id,st,off,len,o,h1,h2,h3⟩
   ·exact .inl h1
   ·exact .inr (.inl h1)
   ·refine .inr (.inr ⟨hb,id,st,off,len,o,h1,?_,h3⟩)
    rw [hh x (by simp) id (by rw [h1];simp [iG])]
    exact h2,rB (fun y hy=>hh y (by simp [hy])) hc.2⟩
 | [],_ :: _,_,hc=>hc.elim
 | _ :: _,[],_,hc=>hc.elim
end
def eN (g:Nat→AV) (d:Option Nat) (x:AV):Nat→AV :=
 match d with
 | some d=>dt g d x
 | none=>g
def cln (d:Nat) (op:ik) (ρ:IV→AV) (h:Nat→Option ao) (v:AV) (e:bc):Prop:=e = .no∧dx op=true∧∃t st rows,v = .sl st rows∧bA d op ρ h=some (.ms d st 0 rows.length,.new d ⟨t,st,rows,false⟩)
def kv:ik→Bool
 | .mov _=>true
 | _=>false
def xV (P:Program) [bU P] (o:aS) (g:Nat→AV) (h:Nat→Option ao) (v:AV) (e:bc):Prop :=
 match o.op with
 | .call f args=>(e = .no∧aP v=[]∧∃args' b,ae P f args' v∧(∀x∈args',aP x=[])∧aU (GI b h) (args.map (val g)) args'∧(b=true→nU v=true)) ∨
   ∃k ob ob' Sb,e = .put k ob'∧aP v=[]∧br P f (args.map (val g)) [(k,ob)] Sb (fun r' σ'=>r'=v∧σ'=[(k,ob')])∧Sb k∧h k=some ob∧∃q∈aw o.op,k∈aP (g q)
 | .callv _ _=>False
 | op=>bA (o.dst.getD 0) op (val g) h=some (v,e)∨cln (o.dst.getD 0) op (val g) h v e
structure Fin (P:Program) [bU P] (o:aS) (g:Nat→AV) (h:Nat→Option ao) (v:AV) (e:bc) (x:HI) (g':Nat→AV) (h':Nat→Option ao):Prop where
 run:xV P o g h v e
 known:∀k∈aw o.op,g k≠.any
 opnd:∀k∈aw o.op,∀id∈aP (g k),id∈x.op∨(kv o.op=true∧id∈x.res)
 alone:¬(x.rb=true∧x.wr=true)→∀i o',e = .reb i o'→∀j q,h j=some q→i∉dF q
 fresh:∀i o',e = .new i o'→h i=none
 res:∀d,d∈aP v∨d∈e.ids→d∈x.res
 tch:x.tch=e.tch
 rb:x.rb=e.isReb
 wr:x.wr=e.isPut∨(x.rb=true∧x.wr=true)
 hg:g'=eN (e.env g) o.dst v
 hh:h'=e.hp h
def dI (P:Program) [bU P] (o:aS) (g:Nat→AV) (h:Nat→Option ao) (ev:Option (AV×bc)) (x:HI) (g':Nat→AV) (h':Nat→Option ao):Prop :=
 match ev with
 | some (v,e)=>(∀k b,o.g=some (k,b)→g k = .bool b)∧Fin P o g h v e x g' h'
 | none=>(∃k b,o.g=some (k,b)∧(g k = .bool (!b)∨g k = .tup []))∧g'=eN g o.dst (.tup [])∧h'=h∧x.tch=[]∧x.rb=false∧x.wr=false
section
variable {P:Program} [bU P] {o:aS} {g g' g1 g2:Nat→AV} {h h' h1 h2:Nat→Option ao} {v:AV} {e:bc}
theorem xV.local (hr:xV P o g h v e) (hg:∀k∈aw o.op,g' k=g k) (hh:kv o.op=false→∀k∈aw o.op,∀id∈aP (g k),h' id=h id) (hc:bt o.op=true):xV P o g' h' v e:=by
 unfold xV at hr ⊢
 split at hr
 ·rename_i f args hop
  rcases hr with ⟨h1,h2,args',b,h3,h4,h5,h6⟩ | ⟨k,ob,ob',Sb,h1,h2,h3,h4,h5,q,h6,h7⟩
  rotate_left
  ·refine .inr ⟨k,ob,ob',Sb,h1,h2,?_,h4,?_,q,h6,by rw [hg q h6];exact h7⟩
   ·rw [hop] at hg
    rw [lV (fun v hv k hk=>hg k (by simp only [aw,jQ];exact ⟨v,hv,hk⟩))]
    exact h3
   ·rw [hh (by rw [hop];rfl) q h6 k h7];exact h5
  refine .inl ⟨h1,h2,args',b,h3,h4,?_,h6⟩
  replace hh:=hh (by rw [hop];rfl)
  rw [hop] at hg hh hc
  rw [lV (fun v hv k hk=>hg k (by simp only [aw,jQ];exact ⟨v,hv,hk⟩))]
  refine rB (fun x hx id hid=>?_) h5
  obtain ⟨iv,hiv,rfl⟩:=List.mem_map.1 hx
  refine yi (S:=aw (.call f args)) (fun k hk=>by simp only [aw,jQ];exact ⟨iv,hiv,hk⟩) hh ?_ id hid
  simp only [bt,ee] at hc
  exact dZ (hc iv hiv)
 ·exact hr
 ·rename_i n1 n2
  have key:bA (o.dst.getD 0) o.op (val g') h'=bA (o.dst.getD 0) o.op (val g) h:=by
   by_cases hmv:kv o.op=true
   ·cases ho:o.op with
    | mov x =>
     simp only [bA]
     cases x with
     | s k=>rw [show val g' (.s k)=val g (.s k) from hg k (by rw [ho];simp [aw,aX])]
     | c y=>rfl
    | _=>rw [ho] at hmv;cases hmv
   ·exact zx hg (hh (by simpa using hmv)) hc
  unfold cln
  rw [key]
  exact hr
theorem oI {d:Option Nat} {x:AV} {k:Nat} (hk:d≠some k):eN g d x k=g k:=by
 cases d with
 | none=>rfl
 | some d=>exact bW _ _ (fun h=>hk (by rw [h]))
theorem JZ {i:Nat} {x:AV} (hx:fc i x≠.any):fc i x=x:=by
 unfold fc at hx ⊢
 split
 ·rename_i hm;simp [hm] at hx
 ·rfl
theorem tC {i:Nat} {x:AV} (hx:i∉aP x):fc i x=x:=by
 unfold fc
 rw [aD (fun hm=>hx (nu hm))]
theorem JY {i:Nat} {o:ao} (hx:i∉dF o):dl i o=o:=by
 unfold dl
 split
 ·rename_i hr
  simp only [dF,hr,bF,jQ,not_exists,not_and] at hx
  have:o.rows.map (fun r=>r.map (ou i))=o.rows:=by
   conv=>rhs;rw [← List.map_id o.rows]
   refine List.map_congr_left fun r hr'=>?_
   conv=>rhs;rw [id,← List.map_id r]
   refine List.map_congr_left fun y hy=>?_
   unfold ou
   rw [aD (fun hm=>hx r hr' y hy (pH hm))]
   rfl
  rw [this]
 ·rfl
theorem Ot {i:Nat} {o':ao} (ha:∀j q,h j=some q→i∉dF q):bc.hp h (.reb i o')=dt h i (some o'):=by
 funext j
 simp only [bc.hp,dt]
 split
 ·rfl
 ·cases hj:h j with
  | none=>rfl
  | some q=>simp only [fe];rw [JY (ha j q hj)]
theorem AQ (i j:Nat) (x:AV):fc i (fc j x)=fc j (fc i x):=by
 have hany:∀i,mV i .any=false:=fun _=>rfl
 unfold fc
 by_cases h1:mV i x=true<;>by_cases h2:mV j x=true<;>simp only [h1,h2,hany,bF,gK,dc]
theorem In (e e':bc):e.env (e'.env g)=e'.env (e.env g):=by
 cases e<;>cases e'<;>first | rfl | (funext k;exact AQ _ _ _)
def bc.pur (e:bc) (x:AV):AV :=
 match e with
 | .reb i _=>fc i x
 | _=>x
theorem sX (e:bc) (d:Option Nat) (x:AV):e.env (eN g d x)=eN (e.env g) d (e.pur x):=by
 cases d with
 | none=>rfl
 | some d =>
  cases e with
  | reb i o' =>
   funext k
   simp only [bc.env,eN,bc.pur,dt]
   split<;>rfl
  | _=>rfl
theorem xd {e:bc} {x:AV} (hx:e.isReb=true→∀d∈e.tch,d∉aP x):e.pur x=x:=by
 cases e with
 | reb i o'=>exact tC (hx rfl i (by simp [bc.tch]))
 | _=>rfl
theorem r_ {d d':Option Nat} {x x':AV} (hd:∀k,d=some k→d'≠some k):eN (eN g d x) d' x'=eN (eN g d' x') d x:=by
 cases d with
 | none=>rfl
 | some d =>
  cases d' with
  | none=>rfl
  | some d' =>
   have hne:d≠d':=fun hh=>hd d rfl (by rw [hh])
   funext k
   simp only [eN,dt]
   by_cases h1:k=d<;>by_cases h2:k=d'<;>simp_all
def yj (h:Nat→Option ao) (e:bc):Nat→Option ao :=
 match e with
 | .no=>h
 | .put i o=>dt h i (some o)
 | .new i o=>dt h i (some o)
 | .reb i o=>dt h i (some o)
theorem yk (e:bc) (ha:∀i o',e = .reb i o'→∀j q,h j=some q→i∉dF q):e.hp h=yj h e:=by
 cases e with
 | reb i ob=>exact Ot (ha i ob rfl)
 | _=>rfl
theorem s_ {e:bc} {id:Nat} (hid:id∉e.tch):yj h e id=h id:=by
 cases e<;>first | rfl | exact bW _ _ (fun hh=>hid (by simp [bc.tch,hh]))
theorem DU {e e':bc} (hd:∀d∈e.tch,d∉e'.tch):yj (yj h e) e'=yj (yj h e') e:=by
 have key:∀(i j:Nat) (p q:Option ao),i≠j→dt (dt h i p) j q=dt (dt h j q) i p:=fun i j p q hij=>by
  funext k
  simp only [dt]
  by_cases h1:k=i<;>by_cases h2:k=j<;>simp_all
 cases e<;>cases e'<;>first | rfl | exact key _ _ _ _ (by simpa [bc.tch] using hd)
theorem Or {e:bc} {j:Nat} {q:ao} (hq:yj h e j=some q):(h j=some q)∨dF q=e.ids:=by
 cases e with
 | no=>exact .inl hq
 | put i ob =>
  simp only [yj,dt] at hq
  split at hq
  ·cases hq;exact .inr rfl
  ·exact .inl hq
 | new i ob =>
  simp only [yj,dt] at hq
  split at hq
  ·cases hq;exact .inr rfl
  ·exact .inl hq
 | reb i ob =>
  simp only [yj,dt] at hq
  split at hq
  ·cases hq;exact .inr rfl
  ·exact .inl hq
theorem HF {d:Nat} {op:ik} {ρ:IV→AV} {j:Nat} {o':ao} (hr:bA d op ρ h=some (v,.reb j o')):∃q,h j=some q∧q.isRec=false:=by
 have happ:∀{t st x src},kb d t st x src h=some (v,.reb j o')→∃q,h j=some q∧q.isRec=false:=by
  intro t st x src ha
  unfold kb at ha
  split at ha
  ·cases ha
  ·split at ha
   ·split at ha
    ·cases ha
    ·split at ha
     ·rename_i ob hob
      split at ha
      ·rename_i hc
       cases ha
       exact ⟨ob,hob,hc.2.2.2.1⟩
      ·cases ha
     ·cases ha
    ·cases ha
   ·cases ha
 have hres:∀{y:Option AV},res y≠some (v,.reb j o'):=fun hh=>by
  have:=(bg hh).2
  cases this
 cases op<;>simp only [bA] at hr
 case app=>exact happ hr
 case apps=>exact happ hr
 case cpy=>obtain ⟨_,_,q⟩:=oW hr;cases q
 case cvm=>obtain ⟨_,_,_,_,_,_,_,_,_,_,_,_,q⟩:=kc hr;cases q
 case mop=>rcases l7 hr with q | ⟨_,q,_⟩ | ⟨_,_,_,_,_,q⟩<;>cases q
 all_goals
  exfalso
  first
   | exact hres hr
   | (cases hr;done)
   | (simp only [c9,Prod.mk.injEq] at hr
      obtain ⟨e',h1,_,h2⟩:=hr
      subst h2
      unfold fD at h1
      repeat' (split at h1)
      all_goals cases h1)
   | (repeat' (split at hr)
      all_goals first | (cases hr;done) | exact hres hr)
structure Cs (x y:HI):Prop where
 a:∀d∈y.tch,d∉x.op∧d∉x.tch
 b:∀d∈x.tch,d∉y.op
 c:x.rb=true→∀d∈x.tch,d∉y.res
 d:y.rb=true→∀d∈y.tch,d∉x.res
 e:¬(x.rb=true∧y.wr=true)
 f:¬(y.rb=true∧x.wr=true)
 g:¬(x.rb=true∧x.wr=true)
 h:¬(y.rb=true∧y.wr=true)
structure Q4 (x y:HI):Prop where
 r:x.rb=true
 w:x.wr=true
 op:y.op=[]
 tch:y.tch=[]
 rb:y.rb=false
 res:∀d∈x.tch,d∉y.res
def Mt (x y:HI):Prop:=Cs x y∨Q4 x y
theorem Cs.of {x y:HI} (hm:tk x y=true):Cs x y:=by
 simp only [tk,bY,ee,jR,lg,List.contains_eq_mem,decide_eq_false_iff_not] at hm
 obtain ⟨⟨⟨⟨⟨⟨⟨h1,h2⟩,h3⟩,h4⟩,h5⟩,h6⟩,h7⟩,h8⟩:=hm
 refine ⟨h1,h2,fun hr=>?_,fun hr=>?_,fun hr=>?_,fun hr=>?_,fun hr=>?_,fun hr=>?_⟩
 ·rcases h3 with h3 | h3
  ·rw [h3] at hr;cases hr
  ·exact h3
 ·rcases h4 with h4 | h4
  ·rw [h4] at hr;cases hr
  ·exact h4
 ·simp [hr.1,hr.2] at h5
 ·simp [hr.1,hr.2] at h6
 ·simp [hr.1,hr.2] at h7
 ·simp [hr.1,hr.2] at h8
structure qU (o o':aS):Prop where
 a:∀d,o.dst=some d→d∉cI o'∧o'.dst≠some d
 b:∀d,o'.dst=some d→d∉cI o
theorem mq (k:Nat) (o:aS) (hk:k∈aw o.op):k∈cI o:=by simp [cI,hk]
theorem pK (k:Nat) (b:Bool) (o:aS) (hk:o.g=some (k,b)):k∈cI o:=by simp [cI,hk]
def lI (ev:Option (AV×bc)):AV:=match ev with | some (v,_)=>v | none=>.tup []
def dP (ev:Option (AV×bc)):bc:=match ev with | some (_,e)=>e | none=>.no
def gd (o:aS):List Nat:=match o.g with | some (k,_)=>[k] | none=>[]
theorem dI.state {ev:Option (AV×bc)} {x:HI} (hs:dI P o g h ev x g' h'):g'=eN ((dP ev).env g) o.dst (lI ev)∧h'=(dP ev).hp h∧x.tch=(dP ev).tch∧x.rb=(dP ev).isReb∧(¬(x.rb=true∧x.wr=true)→x.wr=(dP ev).isPut) ∧
  (¬(x.rb=true∧x.wr=true)→∀i o',dP ev = .reb i o'→∀j q,h j=some q→i∉dF q)∧(∀d,d∈aP (lI ev)∨d∈(dP ev).ids→d∈x.res)∧(∀i o',dP ev = .new i o'→h i=none)∧(∀i o',dP ev = .reb i o'→∃q,h i=some q∧q.isRec=false):=by
 cases ev with
 | none=>obtain ⟨_,h1,h2,h3,h4,h5⟩:=hs;exact ⟨h1,h2,h3,h4,fun _=>h5,fun _ i o' he=>by simp [dP] at he,fun d hd=>by
   rcases hd with hd | hd
   ·simp [lI,aP,ja,gg,jb] at hd
   ·simp [dP,bc.ids] at hd,fun i o' he=>by simp [dP] at he,fun i o' he=>by simp [dP] at he⟩
 | some p =>
  obtain ⟨v,e⟩:=p
  obtain ⟨_,hf⟩:=hs
  refine ⟨hf.hg,hf.hh,hf.tch,hf.rb,fun hw=>hf.wr.resolve_right hw,hf.alone,hf.res,hf.fresh,fun i o' he=>?_⟩
  simp only [dP] at he
  subst he
  have hr:=hf.run
  unfold xV at hr
  split at hr
  ·rcases hr with hr | ⟨_,_,_,_,hr,_⟩
   ·cases hr.1
   ·cases hr
  ·exact hr.elim
  ·rcases hr with hr | ⟨hr,_⟩
   ·exact HF hr
   ·cases hr
theorem dI.local {ev:Option (AV×bc)} {x:HI} (hs:dI P o g h ev x g' h') (hg:∀k∈gd o,g1 k=g k) (hg2:ev.isSome=true→∀k∈aw o.op,g1 k=g k) (hh:ev.isSome=true→kv o.op=false→∀k∈aw o.op,∀id∈aP (g k),h1 id=h id) (hc:bt o.op=true)
  (ha:¬(x.rb=true∧x.wr=true)→∀i o',dP ev = .reb i o'→∀j q,h1 j=some q→i∉dF q) (hn:∀i o',dP ev = .new i o'→h1 i=none):dI P o g1 h1 ev x (eN ((dP ev).env g1) o.dst (lI ev)) ((dP ev).hp h1):=by
 cases ev with
 | none =>
  obtain ⟨⟨k,b,h2,h3⟩,_,_,h4⟩:=hs
  exact ⟨⟨k,b,h2,by rw [hg k (by simp [gd,h2])];exact h3⟩,rfl,rfl,h4⟩
 | some p =>
  obtain ⟨v,e⟩:=p
  obtain ⟨h2,hf⟩:=hs
  refine ⟨fun k b hk=>by rw [hg k (by simp [gd,hk])];exact h2 k b hk,⟨?_,fun k hk=>?_,fun k hk id hid=>?_,ha,hn,hf.res,hf.tch,hf.rb,hf.wr,rfl,rfl⟩⟩
  ·exact hf.run.local (hg2 rfl) (hh rfl) hc
  ·rw [hg2 rfl k hk];exact hf.known k hk
  ·rw [hg2 rfl k hk] at hid;exact hf.opnd k hk id hid
theorem aad {m i:aS} {evm evi:Option (AV×bc)} {y x:HI} (hm:dI P m g h evm y g1 h1) (hi:dI P i g1 h1 evi x g2 h2) (hap:qU m i) (hmt:Cs x y) (hcm:bt m.op=true) (hci:bt i.op=true) :
  ∃g3 h3,dI P i g h evi x g3 h3∧dI P m g3 h3 evm y g2 h2:=by
 obtain ⟨gm,hhm,tm,rm,wm,am,resm,fm,bm⟩:=hm.state
 obtain ⟨gi,hhi,ti,ri,wi,ai,resi,fi,bi⟩:=hi.state
 replace wm:=wm hmt.h
 replace am:=am hmt.h
 replace wi:=wi hmt.g
 replace ai:=ai hmt.g
 rw [yk _ am] at hhm
 rw [yk _ ai] at hhi
 have same:∀id,id∉(dP evm).tch→h1 id=h id:=fun id hid=>by rw [hhm];exact s_ hid
 have gsub:∀(o:aS) k,k∈gd o→k∈cI o:=fun o k hk=>by
  unfold gd at hk
  split at hk
  ·rename_i k' b hg;simp at hk;subst hk;exact pK k b o hg
  ·simp at hk
 have gval:∀{o:aS} {g h ev x g' h'},dI P o g h ev x g' h'→∀k∈gd o,(∃b,g k = .bool b)∨g k = .tup []:=by
  intro o g h ev x g' h' hs k hk
  unfold gd at hk
  split at hk
  ·rename_i k' b hg
   simp at hk
   subst hk
   cases ev with
   | none=>obtain ⟨⟨k2,b2,h3,h4⟩,_⟩:=hs;rw [hg] at h3;cases h3;exact h4.imp (fun h=>⟨_,h⟩) (fun h=>h)
   | some p=>exact .inl ⟨b,hs.1 k b hg⟩
  ·simp at hk
 have keep1:∀k,k∈cI i→g1 k≠.any→g1 k=g k:=fun k hk hna=>by
  rw [gm] at hna ⊢
  have e1:eN ((dP evm).env g) m.dst (lI evm) k=(dP evm).env g k:=oI (fun hdk=>(hap.a k hdk).1 hk)
  rw [e1] at hna ⊢
  cases he:dP evm with
  | reb q ob=>rw [he] at hna;exact JZ hna
  | _=>rfl
 have rdg:∀k∈gd i,g k=g1 k:=fun k hk=>by
  rcases gval hi k hk with ⟨b,hb⟩ | hb<;>exact (keep1 k (gsub i k hk) (by rw [hb];simp)).symm
 have rdo:evi.isSome=true→∀k∈aw i.op,g k=g1 k:=fun hs k hk=>by
  obtain ⟨p,rfl⟩:=Option.isSome_iff_exists.1 hs
  exact (keep1 k (mq k i hk) (hi.2.known k hk)).symm
 have rdh:evi.isSome=true→kv i.op=false→∀k∈aw i.op,∀id∈aP (g1 k),h id=h1 id:=fun hs hmv k hk id hid=>by
  obtain ⟨p,rfl⟩:=Option.isSome_iff_exists.1 hs
  refine (same id (fun ht=>?_)).symm
  rw [← tm] at ht
  rcases hi.2.opnd k hk id hid with q | ⟨q,_⟩
  ·exact (hmt.a id ht).1 q
  ·rw [hmv] at q;cases q
 have ai':∀q o',dP evi = .reb q o'→∀j p,h j=some p→q∉dF p:=fun q o' he j p hp=>by
  by_cases hj:j∈(dP evm).tch
  ·cases hem:dP evm with
   | no=>rw [hem] at hj;simp [bc.tch] at hj
   | put j' ob =>
    exfalso
    refine hmt.e ⟨by rw [ri,he];rfl,by rw [wm,hem];rfl⟩
   | new j' ob =>
    rw [hem] at hj
    simp [bc.tch] at hj
    subst hj
    rw [fm j ob hem] at hp
    cases hp
   | reb j' ob =>
    rw [hem] at hj
    simp [bc.tch] at hj
    subst hj
    obtain ⟨q',h3,h4⟩:=bm j ob hem
    rw [hp] at h3
    cases h3
    simp [dF,h4]
  ·exact ai q o' he j p (by rw [same j hj];exact hp)
 have fi':∀q o',dP evi = .new q o'→h q=none:=fun q o' he=>by
  rw [← same q (fun ht=>by
   rw [← tm] at ht
   exact (hmt.a q ht).2 (by rw [ti,he];simp [bc.tch]))]
  exact fi q o' he
 have s1:=hi.local rdg rdo rdh hci (fun _=>ai') fi'
 rw [yk _ ai'] at s1
 refine ⟨_,_,s1,?_⟩
 have keep2:∀k,k∈cI m→((dP evi).isReb=true→∀d∈(dP evi).tch,d∉aP (g k))→eN ((dP evi).env g) i.dst (lI evi) k=g k:=fun k hk hno=>by
  have e1:eN ((dP evi).env g) i.dst (lI evi) k=(dP evi).env g k:=oI (fun hdk=>hap.b k hdk hk)
  rw [e1]
  cases he:dP evi with
  | reb q ob=>exact tC (hno (by rw [he];rfl) q (by rw [he];simp [bc.tch]))
  | _=>rfl
 have opm:evm.isSome=true→∀k∈aw m.op,∀d∈(dP evi).tch,d∈aP (g k)→kv m.op=true∧d∈y.res:=fun hs k hk d hd hid=>by
  obtain ⟨p,rfl⟩:=Option.isSome_iff_exists.1 hs
  rcases hm.2.opnd k hk d hid with q | q
  ·exact absurd q (hmt.b d (by rw [ti];exact hd))
  ·exact q
 have am2:∀q o',dP evm = .reb q o'→∀j p,yj h (dP evi) j=some p→q∉dF p:=fun q o' he j p hp=>by
   rcases Or hp with h3 | h3
   ·exact am q o' he j p h3
   ·rw [h3]
    intro hq
    exact hmt.d (by rw [rm,he];rfl) q (by rw [tm,he];simp [bc.tch]) (resi q (.inr hq))
 have s2:=hm.local (g1:=eN ((dP evi).env g) i.dst (lI evi)) (h1:=yj h (dP evi)) (fun k hk=>keep2 k (gsub m k hk) (fun _ d _=>by
   rcases gval hm k hk with ⟨b,hb⟩ | hb<;>rw [hb]<;>simp [aP,ja,gg,jb])) (fun hs k hk=>keep2 k (mq k m hk) (fun hr d hd hid=>hmt.c (by rw [ri];exact hr) d (by rw [ti];exact hd) (opm hs k hk d hd hid).2)) (fun hs hmv k hk id hid=>s_ (fun ht=>by
   have:=(opm hs k hk id ht hid).1
   rw [hmv] at this;cases this)) hcm (fun _=>am2) (fun q o' he=>by
   rw [s_ (fun ht=>(hmt.a q (by rw [tm,he];simp [bc.tch])).2 (by rw [ti];exact ht))]
   exact fm q o' he)
 rw [yk _ am2] at s2
 have eg:eN ((dP evm).env (eN ((dP evi).env g) i.dst (lI evi))) m.dst (lI evm)=g2:=by
  rw [gi,gm,sX,sX,In (dP evi) (dP evm)]
  rw [xd (e:=dP evm) (x:=lI evi) (fun hr d hd hid=>hmt.d (by rw [rm];exact hr) d (by rw [tm];exact hd) (resi d (.inl hid)))]
  rw [xd (e:=dP evi) (x:=lI evm) (fun hr d hd hid=>hmt.c (by rw [ri];exact hr) d (by rw [ti];exact hd) (resm d (.inl hid)))]
  exact r_ (fun k hk hk'=>(hap.a k hk').2 hk)
 have eh:yj (yj h (dP evi)) (dP evm)=h2:=by
  rw [hhi,hhm]
  exact DU (fun d hd hd'=>(hmt.a d (by rw [tm];exact hd')).2 (by rw [ti];exact hd))
 rw [eg,eh] at s2
 exact s2
theorem VN {m i:aS} {evm evi:Option (AV×bc)} {y x:HI} (hm:dI P m g h evm y g1 h1) (hi:dI P i g1 h1 evi x g2 h2) (hap:qU m i) (hw:Q4 x y) (hcm:bt m.op=true) (hci:bt i.op=true) :
  ∃g3 h3,dI P i g h evi x g3 h3∧dI P m g3 h3 evm y g2 h2:=by
 obtain ⟨gm,hhm,tm,rm,wm,am,resm,fm,bm⟩:=hm.state
 obtain ⟨gi,hhi,ti,ri,wi,ai,resi,fi,bi⟩:=hi.state
 have em:dP evm = .no:=by
  rw [hw.tch] at tm
  cases he:dP evm<;>first | rfl | (rw [he] at tm;cases tm)
 have hh1:h1=h:=by rw [hhm,em];rfl
 have gg1:g1=eN g m.dst (lI evm):=by rw [gm,em];rfl
 have gsub:∀(o:aS) k,k∈gd o→k∈cI o:=fun o k hk=>by
  unfold gd at hk
  split at hk
  ·rename_i k' b hg;simp at hk;subst hk;exact pK k b o hg
  ·simp at hk
 have keep1:∀k,k∈cI i→g k=g1 k:=fun k hk=>by
  rw [gg1]
  exact (oI (fun hdk=>(hap.a k hdk).1 hk)).symm
 have s1:=hi.local (g1:=g) (h1:=h) (fun k hk=>keep1 k (gsub i k hk)) (fun _ k hk=>keep1 k (mq k i hk)) (fun _ _ k hk id hid=>by rw [hh1]) hci (fun hn=>absurd ⟨hw.r,hw.w⟩ hn) (fun q o' he=>by
  rw [he] at ri
  rw [hw.r] at ri
  cases ri)
 refine ⟨_,_,s1,?_⟩
 have keep2:∀k,k∈cI m→(∀d∈(dP evi).tch,d∉aP (g k))→eN ((dP evi).env g) i.dst (lI evi) k=g k:=fun k hk hno=>by
  have e1:eN ((dP evi).env g) i.dst (lI evi) k=(dP evi).env g k:=oI (fun hdk=>hap.b k hdk hk)
  rw [e1]
  cases he:dP evi with
  | reb q ob=>exact tC (hno q (by rw [he];simp [bc.tch]))
  | _=>rfl
 have gval:∀k∈gd m,(∃b,g k = .bool b)∨g k = .tup []:=fun k hk=>by
  unfold gd at hk
  split at hk
  ·rename_i k' b hg
   simp at hk
   subst hk
   cases evm with
   | none=>obtain ⟨⟨k2,b2,h3,h4⟩,_⟩:=hm;rw [hg] at h3;cases h3;exact h4.imp (fun h=>⟨_,h⟩) (fun h=>h)
   | some p=>exact .inl ⟨b,hm.1 k b hg⟩
  ·simp at hk
 have opm:evm.isSome=true→∀k∈aw m.op,∀d,d∈aP (g k)→kv m.op=true∧d∈y.res:=fun hs k hk d hid=>by
  obtain ⟨p,rfl⟩:=Option.isSome_iff_exists.1 hs
  rcases hm.2.opnd k hk d hid with q | q
  ·rw [hw.op] at q;cases q
  ·exact q
 have s2:=hm.local (g1:=eN ((dP evi).env g) i.dst (lI evi)) (h1:=(dP evi).hp h) (fun k hk=>keep2 k (gsub m k hk) (fun d _=>by
   rcases gval k hk with ⟨b,hb⟩ | hb<;>rw [hb]<;>simp [aP,ja,gg,jb])) (fun hs k hk=>keep2 k (mq k m hk) (fun d hd hid=>hw.res d (by rw [ti];exact hd) (opm hs k hk d hid).2)) (fun hs hmv k hk id hid=>by
   have:=(opm hs k hk id hid).1
   rw [hmv] at this;cases this) hcm (fun _ q o' he=>by rw [em] at he;cases he) (fun q o' he=>by rw [em] at he;cases he)
 have eg:eN ((dP evm).env (eN ((dP evi).env g) i.dst (lI evi))) m.dst (lI evm)=g2:=by
  rw [gi,gg1,em]
  show eN (eN ((dP evi).env g) i.dst (lI evi)) m.dst (lI evm)=_
  rw [sX]
  rw [xd (e:=dP evi) (x:=lI evm) (fun hr d hd hid=>hw.res d (by rw [ti];exact hd) (resm d (.inl hid)))]
  exact r_ (fun k hk hk'=>(hap.a k hk').2 hk)
 have eh:(dP evm).hp ((dP evi).hp h)=h2:=by rw [em,hhi,hh1];rfl
 rw [eg,eh] at s2
 exact s2
theorem VM {m i:aS} {evm evi:Option (AV×bc)} {y x:HI} (hm:dI P m g h evm y g1 h1) (hi:dI P i g1 h1 evi x g2 h2) (hap:qU m i) (hmt:Mt x y) (hcm:bt m.op=true) (hci:bt i.op=true) :
  ∃g3 h3,dI P i g h evi x g3 h3∧dI P m g3 h3 evm y g2 h2:=by
 rcases hmt with h | h
 ·exact aad hm hi hap h hcm hci
 ·exact VN hm hi hap h hcm hci
end
structure Item where
 i:Nat
 bef:List Nat
 o:aS
 ev:Option (AV×bc)
 x:HI
def T (P:Program) [bU P]:List Item→(Nat→AV)→(Nat→Option ao)→(Nat→AV)→(Nat→Option ao)→Prop
 | [],g,h,g',h'=>g'=g∧h'=h
 | t :: R,g,h,g',h'=>∃g1 h1,dI P t.o g h t.ev t.x g1 h1∧T P R g1 h1 g' h'
section
variable {P:Program} [bU P]
theorem La:∀(A:List Item) (t:Item) (B:List Item) (g:Nat→AV) (h:Nat→Option ao) (g':Nat→AV) (h':Nat→Option ao),T P (A++t :: B) g h g' h' →
  (∀m∈A,qU m.o t.o∧Mt t.x m.x)→(∀m∈A,bt m.o.op=true)→bt t.o.op=true→∃g1 h1,dI P t.o g h t.ev t.x g1 h1∧T P (A++B) g1 h1 g' h'
 | [],t,B,g,h,g',h',ht,_,_,_=>ht
 | m :: A,t,B,g,h,g',h',ht,hm,hc,hct=>by
  obtain ⟨g1,h1,s1,ht⟩:=ht
  obtain ⟨g2,h2,s2,ht⟩:=La A t B g1 h1 g' h' ht (fun q hq=>hm q (by simp [hq])) (fun q hq=>hc q (by simp [hq])) hct
  obtain ⟨q1,q2⟩:=hm m (by simp)
  obtain ⟨g3,h3,s3,s4⟩:=VM s1 s2 q1 q2 (hc m (by simp)) hct
  exact ⟨g3,h3,s3,g2,h2,s4,ht⟩
def qz (al:List (Nat×Nat)):List HI→List Item→Prop
 | _,[]=>True
 | hist,t :: R=>t.x.i=t.i∧(∀y∈hist,y.i∈t.bef∨Mt t.x y)∧(∀d,d∈aP (lI t.ev)∨d∈(dP t.ev).ids→∀m,(d,m)∈al→m=t.i∨m∈t.bef)∧qz al (t.x :: hist) R
theorem fW {bef:List Nat} {x:HI} {hist:List HI} (hh:fG bef x hist=true):∀y∈hist,y.i∈bef∨Mt x y:=fun y hy=>by
 have:=ee.1 hh y hy
 simp only [jR,List.contains_eq_mem,cP] at this
 exact this.imp id fun h=>.inl (Cs.of h)
theorem lP {al:List (Nat×Nat)} {bef:List Nat} {x:HI} (hh:pR al bef x=true):∀d∈x.res,∀m,(d,m)∈al→m=x.i∨m∈bef:=fun d hd m hm=>by
 have:=ee.1 hh (d,m) hm
 simp only [jR,List.contains_eq_mem,cP,lg,decide_eq_false_iff_not,beq_iff_eq] at this
 rcases this with (h1 | h1) | h1
 ·exact absurd hd h1
 ·exact .inl h1
 ·exact .inr h1
theorem gJ (s:St) (d:Option Nat) (x:AV):get (s.put d x).env=eN (get s.env) d x:=by
 funext k
 cases d with
 | none=>rfl
 | some d =>
  simp only [St.put,get,eN,dt,jz]
  by_cases hk:k=d
  ·subst hk;simp
  ·simp [hk,Ne.symm hk]
theorem eO (s:St) (d:Option Nat) (x:AV):(s.put d x).heap=s.heap:=by cases d<;>rfl
theorem fp {o:ik} {s:St} {e:bc} (hp:dW o s e=true):(∀k∈aw o,get s.env k≠.any)∧∀i o',e = .reb i o'→∀j q,ak s.heap j=some q→i∉dF q:=by
 simp only [dW,bY,ee,jR,lg] at hp
 refine ⟨fun k hk he=>?_,fun i o' he j q hq=>?_⟩
 ·have:=hp.1 k hk
  rw [he] at this
  cases this
 ·subst he
  rcases hp.2 with h1 | h1
  ·cases h1
  ·have hmem:∀{σ:List (Nat×ao)},ak σ j=some q→(j,q)∈σ:=by
    intro σ
    induction σ with
    | nil=>intro hi;simp [ak] at hi
    | cons p l ih =>
     intro hi
     obtain ⟨k,x⟩:=p
     simp only [ak] at hi
     split at hi
     ·rename_i hk;cases hi;subst hk;simp
     ·exact List.mem_cons_of_mem _ (ih hi)
   have:=h1 i (by simp [bc.tch]) (j,q) (hmem hq)
   simpa using this
def Un (al:List (Nat×Nat)) (p:Nat→Prop) (g:Nat→AV) (h:Nat→Option ao):Prop:=∀d m,(d,m)∈al→p m→h d=none∧cz d g h
theorem sF {d:Nat} {op:ik} {ρ:IV→AV} {h:Nat→Option ao} {v:AV} {i:Nat} {ob:ao} (hr:bA d op ρ h=some (v,.new i ob)):dx op=true∧i=d:=by
 have happ:∀{t st x src},kb d t st x src h=some (v,.new i ob)→i=d:=by
  intro t st x src ha
  unfold kb at ha
  split at ha
  ·cases ha
  ·split at ha
   ·split at ha
    ·cases ha;rfl
    ·split at ha
     ·split at ha<;>cases ha
     ·cases ha
    ·cases ha
   ·cases ha
 have hres:∀{y:Option AV},res y≠some (v,.new i ob):=fun hh=>by
  have:=(bg hh).2
  cases this
 cases op<;>simp only [bA] at hr
 case app=>exact ⟨rfl,happ hr⟩
 case apps=>exact ⟨rfl,happ hr⟩
 case new=>cases hr;exact ⟨rfl,rfl⟩
 case box =>
  split at hr
  ·split at hr
   ·cases hr;exact ⟨rfl,rfl⟩
   ·cases hr
  ·cases hr
 case bsl =>
  split at hr
  ·cases hr;exact ⟨rfl,rfl⟩
  ·cases hr
 case cvb =>
  split at hr
  ·split at hr
   ·cases hr;exact ⟨rfl,rfl⟩
   ·cases hr
  ·cases hr
 case mks =>
  split at hr
  ·split at hr
   ·cases hr;exact ⟨rfl,rfl⟩
   ·cases hr
  ·cases hr
 case mop =>
  rcases l7 hr with q | ⟨_,q,q2⟩ | ⟨_,_,_,_,_,q⟩<;>cases q
  rcases q2 with rfl | rfl<;>exact ⟨rfl,rfl⟩
 all_goals
  exfalso
  first
   | (obtain ⟨_,_,q⟩:=oW hr;cases q;done)
   | (obtain ⟨_,_,_,_,_,_,_,_,_,_,_,_,q⟩:=kc hr;cases q;done)
   | exact hres hr
   | (cases hr;done)
   | (simp only [c9,Prod.mk.injEq] at hr
      obtain ⟨e',h1,_,h2⟩:=hr
      subst h2
      unfold fD at h1
      repeat' (split at h1)
      all_goals cases h1)
   | (repeat' (split at hr)
      all_goals first | (cases hr;done) | exact hres hr)
theorem HG {d:Nat} {op:ik} {g:Nat→AV} {h:Nat→Option ao} {v:AV} {e:bc} (hr:bA d op (val g) h=some (v,e)) (hc:bt op=true):∀i∈e.tch,(∃ob,e = .new i ob)∨∃k∈aw op,i∈aP (g k):=by
 have iv:∀{x:IV} {i:Nat},fO x=true→i∈aP (val g x)→(∀k∈aX x,k∈aw op)→∃k∈aw op,i∈aP (g k):=by
  intro x i hx hi hs
  cases x with
  | s k=>exact ⟨k,hs k (by simp [aX]),hi⟩
  | c y=>simp [fO] at hx;rw [show val g (.c y)=y from rfl,hx] at hi;cases hi
 have happ:∀{t st src} {x:IV},fO x=true→(∀k∈aX x,k∈aw op)→kb d t st (val g x) src h=some (v,e)→∀i∈e.tch,(∃ob,e = .new i ob)∨∃k∈aw op,i∈aP (g k):=by
  intro t st src x hx hs ha i hi
  unfold kb at ha
  split at ha
  ·cases ha
  ·split at ha
   ·split at ha
    ·cases ha;simp [bc.tch] at hi;subst hi;exact .inl ⟨_,rfl⟩
    ·rename_i hv
     split at ha
     ·split at ha
      ·cases ha
       simp [bc.tch] at hi
       subst hi
       exact .inr (iv hx (by rw [hv];simp [iG]) hs)
      ·cases ha
     ·cases ha
    ·cases ha
   ·cases ha
 intro i hi
 cases e with
 | no=>simp [bc.tch] at hi
 | new j ob=>simp [bc.tch] at hi;subst hi;exact .inl ⟨_,rfl⟩
 | put j ob =>
  cases op<;>simp only [bA] at hr
  case store n p x =>
   simp only [bt,bY] at hc
   simp only [c9,Prod.mk.injEq] at hr
   obtain ⟨e',h1,_,h2⟩:=hr
   subst h2
   unfold fD at h1
   split at h1
   ·rename_i id st row off cs hv _
    refine .inr (iv hc.1 ?_ (fun k hk=>by simp only [aw,ef];exact .inl hk))
    rw [hv]
    repeat' (split at h1)
    all_goals first | (cases h1;done) | skip
    cases h1
    simp [bc.tch] at hi
    simp [tc,hi]
   ·cases h1
  case cvm x =>
   simp only [bt] at hc
   obtain ⟨id,st,off,len,ob',q1,_,_,_,_,_,_,q2⟩:=kc hr
   cases q2
   simp [bc.tch] at hi
   exact .inr (iv hc (by rw [q1];simp [iG,hi]) (fun k hk=>by simp only [aw];exact hk))
  case mop k xs =>
   simp only [bt,ee] at hc
   rcases l7 hr with q | ⟨_,q,q2⟩ | ⟨id,b,r,o,q1,q⟩<;>cases q
   simp [bc.tch] at hi
   subst hi
   cases xs with
   | nil=>cases q1
   | cons x xs =>
    simp only [eW,List.cons.injEq] at q1
    exact .inr (iv (hc x (by simp)) (by rw [q1.1];simp [aP,ja,gg,jb]) (fun k hk=>by simp only [aw,lY,ef];exact .inl hk))
  case cpy st x y =>
   simp only [bt,bY] at hc
   unfold sC at hr
   split at hr
   ·cases hr
   ·split at hr
    ·rename_i hv
     refine .inr (iv hc.1 ?_ (fun k hk=>by simp only [aw,ef];exact .inl hk))
     rw [hv]
     repeat' (split at hr)
     all_goals first | (cases hr;done) | skip
     cases hr
     simp [bc.tch] at hi
     simp [iG,hi]
    ·cases hr
  case app t st x y=>simp only [bt,bY] at hc;exact happ hc.1 (fun k hk=>by simp only [aw,ef];exact .inl hk) hr i hi
  case apps t x y=>simp only [bt,bY] at hc;exact happ hc.1 (fun k hk=>by simp only [aw,ef];exact .inl hk) hr i hi
  all_goals
   exfalso
   first
    | exact absurd (bg hr).2 (by simp)
    | (cases hr;done)
    | (repeat' (split at hr)
       all_goals first | (cases hr;done) | exact absurd (bg hr).2 (by simp))
 | reb j ob =>
  cases op<;>simp only [bA] at hr
  case app t st x y=>simp only [bt,bY] at hc;exact happ hc.1 (fun k hk=>by simp only [aw,ef];exact .inl hk) hr i hi
  case apps t x y=>simp only [bt,bY] at hc;exact happ hc.1 (fun k hk=>by simp only [aw,ef];exact .inl hk) hr i hi
  all_goals
   exfalso
   first
    | (obtain ⟨_,_,q⟩:=oW hr;cases q;done)
    | (obtain ⟨_,_,_,_,_,_,_,_,_,_,_,_,q⟩:=kc hr;cases q;done)
    | (rcases l7 hr with q | ⟨_,q,_⟩ | ⟨_,_,_,_,_,q⟩<;>cases q;done)
    | exact absurd (bg hr).2 (by simp)
    | (cases hr;done)
    | (simp only [c9,Prod.mk.injEq] at hr
       obtain ⟨e',h1,_,h2⟩:=hr
       subst h2
       unfold fD at h1
       repeat' (split at h1)
       all_goals cases h1)
    | (repeat' (split at hr)
       all_goals first | (cases hr;done) | exact absurd (bg hr).2 (by simp))
end
theorem Ea {i:Nat} {x:AV} (h:i∈jb x):mP i x=true:=by cases x<;>simp_all [mP,jb]
theorem D9 {i:Nat} {x:AV} (h:i∈gg x):mC i x=true:=by
 cases x with
 | fn f caps =>
  simp only [gg,jQ] at h
  obtain ⟨y,h1,h2⟩:=h
  simp only [mC,List.any_eq_true]
  exact ⟨y,h1,Ea h2⟩
 | _=>simp only [gg] at h;simpa only [mC] using Ea h
theorem D_ {i:Nat} {x:AV} (h:i∈ja x):mG i x=true:=by
 cases x with
 | agg cells =>
  simp only [ja,jQ] at h
  obtain ⟨y,h1,h2⟩:=h
  simp only [mG,List.any_eq_true]
  exact ⟨y,h1,D9 h2⟩
 | _=>simp only [ja] at h;simpa only [mG] using D9 h
theorem Eb {i:Nat} {x:AV} (h:i∈aP x):mV i x=true:=by
 cases x with
 | tup vs =>
  simp only [aP,jQ] at h
  obtain ⟨y,h1,h2⟩:=h
  simp only [mV,List.any_eq_true]
  exact ⟨y,h1,D_ h2⟩
 | _=>simp only [aP] at h;simpa only [mV] using D_ h
section
variable {P:Program} [bU P] {al:List (Nat×Nat)} {g g':Nat→AV} {h h':Nat→Option ao}
def oR (al:List (Nat×Nat)):Prop:=∀d m m',(d,m)∈al→(d,m')∈al→m=m'
theorem IE {h:Nat→Option ao} {e:bc} {d:Nat} (ht:d∉e.tch) (hn:h d=none):e.hp h d=none:=by
 cases e with
 | no=>exact hn
 | reb i o =>
  simp only [bc.tch,ow] at ht
  simp only [bc.hp,dt,aD ht,hn,Option.map_none]
 | _ =>
  simp only [bc.tch,ow] at ht
  simp only [bc.hp,dt,aD ht,hn]
theorem Tq {h:Nat→Option ao} {e:bc} {j:Nat} {q:ao} (hq:e.hp h j=some q):(∃q0,h j=some q0∧(q=q0∨∃i,q=dl i q0))∨dF q=e.ids:=by
 cases e with
 | no=>exact .inl ⟨q,hq,.inl rfl⟩
 | reb i o =>
  simp only [bc.hp,dt] at hq
  split at hq
  ·cases hq;exact .inr rfl
  ·simp only [c9] at hq
   obtain ⟨q0,h1,rfl⟩:=hq
   exact .inl ⟨q0,h1,.inr ⟨i,rfl⟩⟩
 | _ =>
  simp only [bc.hp,dt] at hq
  split at hq
  ·cases hq;exact .inr rfl
  ·exact .inl ⟨q,hq,.inl rfl⟩
theorem Un.step {p p':Nat→Prop} {o:aS} {i:Nat} {bef:List Nat} {ev:Option (AV×bc)} {x:HI} (hs:dI P o g h ev x g' h') (hu:Un al p g h) (hc:bt o.op=true)
  (hnew:∀d,d∈aP (lI ev)∨d∈(dP ev).ids→∀m,(d,m)∈al→m=i∨m∈bef) (hbef:∀m∈bef,¬p m) (hal:dx o.op=true→(o.dst.getD 0,i)∈al) (hone:oR al)
  (hp:∀m,p' m→p m∧m≠i):Un al p' g' h':=by
 intro d m hdm hpm
 obtain ⟨hp1,hp2⟩:=hp m hpm
 obtain ⟨hn,hun⟩:=hu d m hdm hp1
 obtain ⟨gs,hhs,_,_,_,_,_,_,_⟩:=hs.state
 have hno:¬(d∈aP (lI ev)∨d∈(dP ev).ids):=fun hd=>by
  rcases hnew d hd m hdm with h1 | h1
  ·exact hp2 h1
  ·exact hbef m h1 hp1
 have htch:d∉(dP ev).tch:=fun ht=>by
  cases ev with
  | none=>simp [dP,bc.tch] at ht
  | some q =>
   obtain ⟨v,e⟩:=q
   have hr:=hs.2.run
   unfold xV at hr
   split at hr
   ·rcases hr with hr | ⟨k,_,_,_,he,_,_,_,_,q,_,hid⟩
    ·rw [show dP (some (v,e))=e from rfl,hr.1] at ht;simp [bc.tch] at ht
    ·rw [show dP (some (v,e))=e from rfl,he] at ht
     simp [bc.tch] at ht
     subst ht
     have:=Eb hid
     rw [hun.1 q] at this
     cases this
   ·exact hr.elim
   ·rcases hr with hr | ⟨hr,_⟩
    rotate_left
    ·rw [show dP (some (v,e))=e from rfl,hr] at ht;simp [bc.tch] at ht
    rcases HG hr hc d ht with ⟨ob,he⟩ | ⟨k,hk,hid⟩
    ·subst he
     obtain ⟨h1,h2⟩:=sF hr
     rw [← h2] at hal
     exact hp2 (hone d m i hdm (hal h1))
    ·have:=Eb hid
     rw [hun.1 k] at this
     cases this
 refine ⟨by rw [hhs];exact IE htch hn,fun k=>?_,fun j q hq hrec r hr y hy=>?_⟩
 ·rw [gs]
  have key:mV d ((dP ev).env g k)=false:=by
   cases dP ev with
   | reb q ob =>
    simp only [bc.env]
    unfold fc
    split
    ·rfl
    ·exact hun.1 k
   | _=>exact hun.1 k
  cases hd:o.dst with
  | none=>exact key
  | some d' =>
   simp only [eN,dt]
   split
   ·cases hv:mV d (lI ev) with
    | false=>rfl
    | true=>exact absurd (.inl (nu hv)) hno
   ·exact key
 ·rw [hhs] at hq
  rcases Tq hq with ⟨q0,h1,h2⟩ | h1
  ·rcases h2 with rfl | ⟨i',rfl⟩
   ·exact hun.2 j q h1 hrec r hr y hy
   ·rw [kA] at hrec
    simp only [dl,hrec,bF,List.mem_map] at hr
    obtain ⟨r0,hr0,rfl⟩:=hr
    obtain ⟨y0,hy0,rfl⟩:=List.mem_map.1 hy
    unfold ou
    split
    ·rfl
    ·exact hun.2 j q0 h1 hrec r0 hr0 y0 hy0
  ·cases hv:mC d y with
   | false=>rfl
   | true =>
    exfalso
    refine hno (.inr ?_)
    rw [← h1]
    simp only [dF,hrec,bF,jQ]
    exact ⟨r,hr,y,hy,pH hv⟩
theorem oz (s:St) (e:bc):get (s.eff e).env=e.env (get s.env):=funext (yg s e)
theorem l_ (s:St) (e:bc):ak (s.eff e).heap=e.hp (ak s.heap):=funext (uS s e)
theorem lK {s:St} {k:Nat} {t b:Bool} (hv:get s.env k = .bool t) (hb:t=b):get (s.put (some k) (.bool b)).env=get s.env:=by
 rw [gJ]
 funext j
 simp only [eN,dt]
 split
 ·rename_i hj;subst hj;rw [hv,hb]
 ·rfl
theorem Jp {d:Nat} {op:ik} {g:Nat→AV} {h:Nat→Option ao} {v:AV} {e:bc} (hev:bA d op (val g) h=some (v,e)) (hmv:kv op=true):∀k∈aw op,∀id∈aP (g k),id∈aP v:=fun k hk id hid=>by
 cases op with
 | mov x =>
  simp only [bA,cq,Prod.mk.injEq] at hev
  cases x with
  | s j =>
   simp only [aw,aX,ow] at hk
   subst hk
   rw [← hev.1];exact hid
  | c y=>simp [aw,aX] at hk
 | _=>cases hmv
theorem jD (hone:oR al):∀(l:List aR) (i:Nat) (hist:List HI) (s:St) (K:List HI→St→Prop),eG P al i l hist s K→Un al (fun m=>i≤m) (get s.env) (ak s.heap)→(∀y∈hist,¬(y.rb=true∧y.wr=true)) →
  (∀(j:Nat) (o:aR),l[j]? = some o→(dx o.o.op=true→(o.o.dst.getD 0,i+j)∈al)∧(∀m∈o.bef,m<i+j)∧bt o.o.op=true) →
  ∃(items:List Item) (s':St),K ((items.map Item.x).reverse++hist) s'∧T P items (get s.env) (ak s.heap) (get s'.env) (ak s'.heap)∧qz al hist items∧items.map Item.i=List.range' i l.length∧items.map (fun t=>(⟨t.o,t.bef⟩:aR))=l
 | [],i,hist,s,K,hk,_,_,_=>⟨[],s,hk,⟨rfl,rfl⟩,trivial,by simp,rfl⟩
 | o :: r,i,hist,s,K,hk,hu,hnw,hl=>by
  obtain ⟨hal,hbf,hcon⟩:=hl 0 o (by simp)
  have hl':∀(j:Nat) (o:aR),r[j]? = some o→(dx o.o.op=true→(o.o.dst.getD 0,i+1+j)∈al)∧(∀m∈o.bef,m<i+1+j)∧bt o.o.op=true:=fun j o hj=>by
   have:=hl (j+1) o (by simpa using hj)
   rwa [show i+(j+1)=i+1+j by omega] at this
  have fin:∀{s1:St} {ev:Option (AV×bc)} {x:HI},dI P o.o (get s.env) (ak s.heap) ev x (get s1.env) (ak s1.heap)→x.i=i→¬(x.rb=true∧x.wr=true)→(∀y∈hist,y.i∈o.bef∨Mt x y) →
    (∀d,d∈aP (lI ev)∨d∈(dP ev).ids→∀m,(d,m)∈al→m=i∨m∈o.bef)→eG P al (i+1) r (x :: hist) s1 K →
    ∃(items:List Item) (s':St),K ((items.map Item.x).reverse++hist) s'∧T P items (get s.env) (ak s.heap) (get s'.env) (ak s'.heap)∧qz al hist items∧items.map Item.i=List.range' i (o :: r).length∧items.map (fun t=>(⟨t.o,t.bef⟩:aR))=o :: r:=by
   intro s1 ev x hst hxi hxw hhist hnew hrest
   have hu':Un al (fun m=>i+1≤m) (get s1.env) (ak s1.heap):=Un.step hst hu hcon hnew (fun m hm hle=>by have:=hbf m hm;omega) (by simpa using hal) hone (fun m hm=>⟨by omega,by omega⟩)
   obtain ⟨items,s',h1,h2,h3,h4,h5⟩:=jD hone r (i+1) (x :: hist) s1 K hrest hu' (fun y hy=>by
    rcases eH.1 hy with rfl | hy
    ·exact hxw
    ·exact hnw y hy) hl'
   exact ⟨⟨i,o.bef,o.o,ev,x⟩ :: items,s',by simpa using h1,⟨_,_,hst,h2⟩,⟨hxi,hhist,hnew,h3⟩,by simp [List.range'_succ,h4],by simp [h5]⟩
  have run:∀{s2:St},get s2.env=get s.env→s2.heap=s.heap→(∀k b,o.o.g=some (k,b)→get s.env k = .bool b)→fH P al i o hist s2 (fun hist' s'=>eG P al (i+1) r hist' s' K) →
    ∃(items:List Item) (s':St),K ((items.map Item.x).reverse++hist) s'∧T P items (get s.env) (ak s.heap) (get s'.env) (ak s'.heap)∧qz al hist items∧items.map Item.i=List.range' i (o :: r).length∧items.map (fun t=>(⟨t.o,t.bef⟩:aR))=o :: r:=by
   intro s2 he2 hh2 hgd hop
   have hoi':∀res:List Nat,(kv o.o.op=true→∀k∈aw o.o.op,∀id∈aP (get s.env k),id∈res)→∀k∈aw o.o.op,∀id∈aP (get s.env k),id∈cD o.o.op s2.env∨(kv o.o.op=true∧id∈res):=fun res hres k hk id hid=>by
    by_cases hmv:kv o.o.op=true
    ·exact .inr ⟨hmv,hres hmv k hk id hid⟩
    ·refine .inl ?_
     have e:cD o.o.op s2.env=(aw o.o.op).flatMap fun k=>aP (get s2.env k):=by
      cases ho:o.o.op<;>first | rfl | (rw [ho] at hmv;exact absurd rfl hmv)
     rw [e,jQ]
     exact ⟨k,hk,by rw [he2];exact hid⟩
   unfold fH at hop
   split at hop
   ·rename_i f args hopc
    rcases hop with ⟨args',rr,b,h1,h2,h3,h4,h5,h6,h7,h8⟩ | ⟨k,ob,ob',Sb,rr,h1,h2,h3,h4,h5,h6,h7,h8,h9⟩
    rotate_left
    ·obtain ⟨p1,p2⟩:=fp h7
     rw [he2] at p1
     have hq:∃q∈aw o.o.op,k∈aP (get s.env q):=by
      rw [hopc] at h6 ⊢
      simp only [cD,jQ] at h6
      obtain ⟨q,q1,q2⟩:=h6
      exact ⟨q,q1,by rw [← he2];exact q2⟩
     refine fin (s1:=(s2.eff (.put k ob')).put o.o.dst rr) (ev:=some (rr,.put k ob')) ⟨hgd,⟨?_,p1,hoi' _ (fun hmv=>by rw [hopc] at hmv;cases hmv),(fun _ _ _ he=>by cases he),(fun _ _ he=>by cases he),fun d hd=>?_,rfl,rfl,.inl rfl,?_,?_⟩⟩ rfl (by first | (rintro ⟨hr,_⟩;cases hr;done) | (cases e<;>simp [bc.isReb,bc.isPut])) (fW h8) (fun d hd=>?_) h9
     ·unfold xV
      rw [hopc]
      rw [hopc] at hq
      exact .inr ⟨k,ob,ob',Sb,rfl,h4,by rw [← he2];exact h1,h2,by rw [← hh2];exact h3,hq⟩
     ·have hd':d∈aP rr∨d∈dF ob':=hd
      rw [h4,h5] at hd';simp at hd'
     ·rw [gJ,oz,he2]
     ·rw [eO,l_,hh2]
     ·have hd':d∈aP rr∨d∈dF ob':=hd
      rw [h4,h5] at hd';simp at hd'
    obtain ⟨p1,_⟩:=fp h6
    rw [he2] at p1
    refine fin (s1:=s2.put o.o.dst rr) (ev:=some (rr,.no)) ⟨hgd,⟨?_,p1,hoi' _ (fun hmv=>by rw [hopc] at hmv;cases hmv),(fun _ _ _ he=>by cases he),(fun _ _ he=>by cases he),fun d hd=>?_,rfl,rfl,.inl rfl,?_,?_⟩⟩ rfl (by first | (rintro ⟨hr,_⟩;cases hr;done) | (cases e<;>simp [bc.isReb,bc.isPut])) (fW h7) (fun d hd=>?_) h8
    ·unfold xV
     rw [hopc]
     exact .inl ⟨rfl,h5,args',b,h1,h2,by rw [← he2,← hh2];exact h3,h4⟩
    ·have hd':d∈aP rr∨d∈([]:List Nat):=hd
     rw [h5] at hd';simp at hd'
    ·rw [gJ,he2];rfl
    ·rw [eO,hh2];rfl
    ·have hd':d∈aP rr∨d∈([]:List Nat):=hd
     rw [h5] at hd';simp at hd'
   ·exact hop.elim
   ·rename_i t st x y hopc
    rcases hop with hop | ⟨rows,hxc,hev,h6,h7,h9⟩
    ·split at hop
     case h_2=>exact hop.elim
     rename_i v e hev
     obtain ⟨h6,h7,h8,h9⟩:=hop
     obtain ⟨p1,p2⟩:=fp h6
     rw [he2] at p1 hev
     rw [hh2] at p2 hev
     refine fin (s1:=(s2.eff e).put o.o.dst v) (ev:=some (v,e)) ⟨hgd,⟨?_,p1,hoi' _ (fun hmv=>by rw [hopc] at hmv;cases hmv),fun _=>p2,fun j ob he=>?_,fun d hd=>?_,rfl,rfl,.inl rfl,?_,?_⟩⟩ rfl (by first | (rintro ⟨hr,_⟩;cases hr;done) | (cases e<;>simp [bc.isReb,bc.isPut])) (fW h7) (fun d hd m hm=>?_) h9
     ·unfold xV
      rw [hopc]
      exact .inl hev
     ·subst he
      obtain ⟨q1,q2⟩:=sF hev
      subst q2
      exact (hu _ i (by simpa using hal (by rw [hopc];exact q1)) (bj i)).1
     ·exact ef.2 hd
     ·rw [gJ,oz,he2]
     ·rw [eO,l_,hh2]
     ·exact lP h8 d (ef.2 hd) m hm
    ·obtain ⟨p1,_⟩:=fp h6
     rw [he2] at p1 hev
     rw [hh2] at hev
     have no:∀d,¬(d∈aP (.sl st rows)∨d∈(bc.no).ids):=fun d hd=>by rcases hd with hd | hd<;>cases hd
     refine fin (s1:=s2.put o.o.dst (.sl st rows)) (ev:=some (.sl st rows,.no)) ⟨hgd,⟨?_,p1,hoi' _ (fun hmv=>by rw [hopc] at hmv;cases hmv),(fun _ _ _ he=>by cases he),(fun _ _ he=>by cases he),fun d hd=>absurd hd (no d),rfl,rfl,.inl rfl,?_,?_⟩⟩ rfl (by first | (rintro ⟨hr,_⟩;cases hr;done) | (cases e<;>simp [bc.isReb,bc.isPut])) (fW h7) (fun d hd=>absurd hd (no d)) h9
     ·unfold xV
      rw [hopc]
      exact .inr ⟨rfl,rfl,t,st,rows,rfl,hev⟩
     ·rw [gJ,he2];rfl
     ·rw [eO,hh2];rfl
   ·rename_i n1 n2 n3
    split at hop
    case h_2=>exact hop.elim
    rename_i v e hev
    obtain ⟨h6,h7,h8,h9⟩:=hop
    obtain ⟨p1,p2⟩:=fp h6
    rw [he2] at p1 hev
    rw [hh2] at p2 hev
    refine fin (s1:=(s2.eff e).put o.o.dst v) (ev:=some (v,e)) ⟨hgd,⟨?_,p1,hoi' _ (fun hmv k hk id hid=>ef.2 (.inl (Jp hev hmv k hk id hid))),fun _=>p2,fun j ob he=>?_,fun d hd=>?_,rfl,rfl,.inl rfl,?_,?_⟩⟩ rfl (by first | (rintro ⟨hr,_⟩;cases hr;done) | (cases e<;>simp [bc.isReb,bc.isPut])) (fW h7) (fun d hd m hm=>?_) h9
    ·unfold xV
     split
     ·rename_i f args hopc;exact (n1 f args hopc).elim
     ·rename_i f args hopc;exact (n2 f args hopc).elim
     ·exact .inl hev
    ·subst he
     obtain ⟨q1,q2⟩:=sF hev
     subst q2
     exact (hu _ i (by simpa using hal q1) (bj i)).1
    ·exact ef.2 hd
    ·rw [gJ,oz,he2]
    ·rw [eO,l_,hh2]
    ·exact lP h8 d (ef.2 hd) m hm
  unfold eG at hk
  split at hk
  ·rename_i hg
   exact run rfl rfl (fun k b hkb=>by rw [hg] at hkb;cases hkb) hk
  ·rename_i k b hg
   split at hk
   case h_3=>exact hk.elim
   case h_2 =>
    rename_i hv
    refine fin (s1:=s.put o.o.dst (.tup [])) (ev:=none) (x:=⟨i,[],[],[],false,false⟩) ⟨⟨k,b,hg,.inr hv⟩,?_,by rw [eO],rfl,rfl,rfl⟩ rfl (by rintro ⟨hr,_⟩;cases hr) (fun y hy=>.inr (.inl ⟨?_,?_,?_,?_,?_,?_,?_,?_⟩)) ?_ hk
    ·rw [gJ]
    ·intro d _;exact ⟨by simp,by simp⟩
    ·intro d hd;cases hd
    ·intro hr;cases hr
    ·intro _ d hd hd2;cases hd2
    ·rintro ⟨hr,_⟩;cases hr
    ·rintro ⟨_,hr⟩;cases hr
    ·rintro ⟨hr,_⟩;cases hr
    ·exact hnw y hy
    ·intro d hd
     rcases hd with hd | hd
     ·simp [lI,aP] at hd
     ·simp [dP,bc.ids] at hd
   rename_i t hv
   by_cases htb:t=b
   ·exact run (lK hv htb) (eO _ _ _) (fun k' b' hkb=>by rw [hg] at hkb;cases hkb;rw [hv,htb]) (hk.1 htb)
   ·have htb':t = !b:=by cases t<;>cases b<;>simp_all
    refine fin (s1:=(s.put (some k) (.bool (!b))).put o.o.dst (.tup [])) (ev:=none) (x:=⟨i,[],[],[],false,false⟩) ⟨⟨k,b,hg,.inl (by rw [hv,htb'])⟩,?_,by rw [eO,eO],rfl,rfl,rfl⟩ rfl (by rintro ⟨hr,_⟩;cases hr) (fun y hy=>.inr (.inl ⟨?_,?_,?_,?_,?_,?_,?_,?_⟩)) ?_ (hk.2 htb')
    ·rw [gJ,lK hv htb']
    ·intro d _;exact ⟨by simp,by simp⟩
    ·intro d hd;cases hd
    ·intro hr;cases hr
    ·intro _ d hd hd2;cases hd2
    ·rintro ⟨hr,_⟩;cases hr
    ·rintro ⟨_,hr⟩;cases hr
    ·rintro ⟨hr,_⟩;cases hr
    ·exact hnw y hy
    ·intro d hd
     rcases hd with hd | hd
     ·simp [lI,aP,ja,gg,jb] at hd
     ·simp [dP,bc.ids] at hd
theorem uT (hone:oR al) (l:List aR) (i:Nat) (hist:List HI) (s:St) (K:St→Prop) (hk:gz P al i l hist s K) (hu:Un al (fun m=>i≤m) (get s.env) (ak s.heap)) (hnw:∀y∈hist,¬(y.rb=true∧y.wr=true))
  (hl:∀(j:Nat) (o:aR),l[j]? = some o→(dx o.o.op=true→(o.o.dst.getD 0,i+j)∈al)∧(∀m∈o.bef,m<i+j)∧bt o.o.op=true) :
  ∃(items:List Item) (s':St),K s'∧T P items (get s.env) (ak s.heap) (get s'.env) (ak s'.heap)∧qz al hist items∧items.map Item.i=List.range' i l.length∧items.map (fun t=>(⟨t.o,t.bef⟩:aR))=l:=jD hone l i hist s _ hk hu hnw hl
theorem KV:∀(A:List Item) {t:Item} {g:Nat→AV} {h:Nat→Option ao} {g1:Nat→AV} {h1:Nat→Option ao} {g':Nat→AV} {h':Nat→Option ao},T P A g h g1 h1→dI P t.o g1 h1 t.ev t.x g' h'→T P (A++[t]) g h g' h'
 | [],t,g,h,g1,h1,g',h',⟨e1,e2⟩,hs=>by subst e1 e2;exact ⟨_,_,hs,rfl,rfl⟩
 | a :: A,t,g,h,g1,h1,g',h',⟨g2,h2,s1,ht⟩,hs=>⟨g2,h2,s1,KV A ht hs⟩
theorem ul:∀(A:List Item) {hist:List HI} {t:Item},qz al hist A→t.x.i=t.i→(∀y∈(A.map Item.x).reverse++hist,y.i∈t.bef∨Mt t.x y)→(∀d,d∈aP (lI t.ev)∨d∈(dP t.ev).ids→∀m,(d,m)∈al→m=t.i∨m∈t.bef)→qz al hist (A++[t])
 | [],hist,t,_,h1,h2,h3=>⟨h1,by simpa using h2,h3,trivial⟩
 | a :: A,hist,t,⟨q1,q2,q3,q4⟩,h1,h2,h3=>⟨q1,q2,q3,ul A q4 h1 (by simpa using h2) h3⟩
theorem ta (hone:oR al) (l:List aR) (s:St) (K:St→Prop) (hk:eG P al 0 l.dropLast [] s fun hist s1=>match l.getLast? with
   | some o=>vP al (l.length - 1) o hist s1 K
   | none=>False) (hu:Un al (fun m=>0≤m) (get s.env) (ak s.heap))
  (hl:∀(j:Nat) (o:aR),l[j]? = some o→(dx o.o.op=true→(o.o.dst.getD 0,0+j)∈al)∧(∀m∈o.bef,m<0+j)∧bt o.o.op=true) :
  ∃(items:List Item) (s':St),K s'∧T P items (get s.env) (ak s.heap) (get s'.env) (ak s'.heap)∧qz al [] items∧items.map Item.i=List.range' 0 l.length∧items.map (fun t=>(⟨t.o,t.bef⟩:aR))=l:=by
 obtain ⟨A,s1,h1,h2,h3,h4,h5⟩:=jD hone l.dropLast 0 [] s _ hk hu (fun y hy=>by cases hy) (fun j o hj=>hl j o (by
  rw [List.dropLast_eq_take,List.getElem?_take] at hj
  split at hj
  ·exact hj
  ·cases hj))
 cases hlast:l.getLast? with
 | none=>rw [hlast] at h1;exact h1.elim
 | some o =>
  rw [hlast] at h1
  simp only at h1
  have hne:l≠[]:=fun e=>by rw [e] at hlast;cases hlast
  have hll:l=l.dropLast++[o]:=by
   have:=List.dropLast_concat_getLast hne
   rw [List.getLast?_eq_some_getLast hne] at hlast
   cases hlast
   exact this.symm
  have hlen:l.dropLast.length=l.length - 1:=List.length_dropLast
  have hpos:=List.length_pos_iff.2 hne
  unfold vP at h1
  split at h1
  case h_2=>exact h1.elim
  rename_i t st x y hop
  obtain ⟨hg,h1⟩:=h1
  split at h1
  case h_2=>exact h1.elim
  rename_i v e hev
  obtain ⟨k1,k2,k3,k4,k5⟩:=h1
  have hst:dI P o.o (get s1.env) (ak s1.heap) (some (v,e)) ⟨l.length - 1,cD (.app t st x y) s1.env,aP v++e.ids,e.tch,true,true⟩ (get ((s1.eff e).put o.o.dst v).env) (ak ((s1.eff e).put o.o.dst v).heap):=by
   refine ⟨(fun k b hkb=>by rw [hg] at hkb;cases hkb),⟨?_,?_,?_,(fun hn=>absurd ⟨rfl,rfl⟩ hn),fun j ob he=>?_,fun d hd=>ef.2 hd,rfl,k2.symm,.inr ⟨rfl,rfl⟩,?_,?_⟩⟩
   ·unfold xV
    rw [hop]
    exact .inl hev
   ·intro k hk he
    rw [hop] at hk
    have:=ee.1 k1 k hk
    rw [he] at this
    cases this
   ·intro k hk id hid
    rw [hop] at hk
    exact .inl (jQ.2 ⟨k,hk,hid⟩)
   ·subst he;cases k2
   ·rw [gJ,oz]
   ·rw [eO,l_]
  refine ⟨A++[⟨l.length - 1,o.bef,o.o,some (v,e),⟨l.length - 1,cD (.app t st x y) s1.env,aP v++e.ids,e.tch,true,true⟩⟩],(s1.eff e).put o.o.dst v,k5,KV A (t:=⟨l.length - 1,o.bef,o.o,some (v,e),⟨l.length - 1,cD (.app t st x y) s1.env,aP v++e.ids,e.tch,true,true⟩⟩) h2 hst,ul A (t:=⟨l.length - 1,o.bef,o.o,some (v,e),⟨l.length - 1,cD (.app t st x y) s1.env,aP v++e.ids,e.tch,true,true⟩⟩) h3 rfl (fun z hz=>?_) (fun d (hd:d∈aP v∨d∈e.ids) m hm=>lP k4 d (ef.2 hd) m hm),?_,?_⟩
  ·have:=ee.1 k3 z (by simpa using hz)
   rw [jR] at this
   rcases this with q | q
   ·exact .inl (by simpa using q)
   ·simp only [GB,bY,List.isEmpty_iff,lg,ee,List.contains_eq_mem,decide_eq_false_iff_not] at q
    exact .inr (.inr ⟨rfl,rfl,q.1.1.1,q.1.1.2,q.1.2,q.2⟩)
  ·rw [List.map_append,h4,hlen,List.map_singleton]
   conv=>rhs;rw [show l.length=(l.length - 1)+1 by omega,List.range'_concat]
   simp
  ·rw [List.map_append,h5,List.map_singleton]
   exact hll.symm
end
theorem yd {i:Nat} {o:ao} {x:AV} (h:mP i x=false):j5 i o x=x:=by
 cases x<;>first | rfl | (simp only [mP,mT] at h;simp only [j5];rw [aD h])
theorem tj {f:AV→Bool} {r:AV→AV} (hh:∀x,f x=false→r x=x):∀l:List AV,l.any f=false→l.map r=l
 | [],_=>rfl
 | y :: l,hl=>by
  simp only [List.any_cons,Bool.or_eq_false_iff] at hl
  simp only [eW,hh y hl.1,tj hh l hl.2]
theorem s5 {i:Nat} {o:ao} {x:AV} (h:mC i x=false):ng i o x=x:=by
 cases x with
 | fn f caps=>simp only [mC] at h;simp only [ng,tj (fun x hx=>yd hx) caps h]
 | _=>simp only [mC] at h;simp only [ng];exact yd h
theorem yc {i:Nat} {o:ao} {x:AV} (h:mG i x=false):s6 i o x=x:=by
 cases x with
 | agg cs=>simp only [mG] at h;simp only [s6,tj (fun x hx=>s5 hx) cs h]
 | _=>simp only [mG] at h;simp only [s6];exact s5 h
theorem Iw {i:Nat} {o:ao} {x:AV} (h:mV i x=false):md i o x=x:=by
 cases x with
 | tup vs=>simp only [mV] at h;simp only [md,tj (fun x hx=>yc hx) vs h]
 | _=>simp only [mV] at h;simp only [md];exact yc h
theorem Iv {i:Nat} {o q:ao} (h:q.isRec=true→∀r∈q.rows,∀y∈r,mC i y=false):fb i o q=q:=by
 unfold fb
 split
 ·rename_i hr
  have:q.rows.map (fun r=>r.map (ng i o))=q.rows:=by
   conv=>rhs;rw [← List.map_id q.rows]
   refine List.map_congr_left fun r hr'=>?_
   conv=>rhs;rw [id,← List.map_id r]
   exact List.map_congr_left fun y hy=>s5 (h hr r hr' y hy)
  rw [this]
 ·rfl
section
variable {P:Program} [bU P] {c:li} [CT c P] {a:Act} {w:World} {o:Oper} {io:aS} {ops:Array Oper} {n:Nat}
theorem xz {g g':Nat→AV} {h h':Nat→Option ao} {ev:Option (AV×bc)} {x:HI} {bl:Nat→Option Nat} (hc:lk P n ops o=some io) (hn:c.n=n) (hst:dI P io g h ev x g' h') (hs:aM c bl g h a w)
  (hnew:dx io.op=true→h (io.dst.getD 0)=none∧cz (io.dst.getD 0) g h∧(io.dst.getD 0<1000∨2000≤io.dst.getD 0)) {K:Act→World→Prop} {Q:Exit→Act→World→Prop}
  (hK:∀a' w' bl',aM c bl' g' h' a' w'→K a' w'):if Region.wanted o (yielded ops a.tmps) then o.wp P a w K Q∨(o.asks P a w∧LetsOut Q) else K (a.put o.dst undef) w:=by
 obtain ⟨h1,h2,h3,h4⟩:=lG hc
 have hd:∀k,io.dst=some k→k<c.n:=fun k hk=>by rw [hn];exact h3 k (h2▸hk)
 have putB:∀{bl:Nat→Option Nat} {g:Nat→AV} {h:Nat→Option ao} {w:World} {v:Value} {y:AV},aM c bl g h a w→ba bl (bx bl c.MF h) w v y→aM c bl (eN g io.dst y) h (a.put o.dst v) w:=fun {bl g h w v y} hsb hv=>by
  rw [← h2]
  cases hdd:io.dst with
  | none=>exact hsb
  | some d=>exact hsb.put (hd d hdd) hv
 have hwant:∀k b t,io.g=some (k,b)→g k = .bool t→Region.wanted o (yielded ops a.tmps)=(t==b):=fun k b t hg hv=>by
  rcases h4 with ⟨_,g2⟩ | ⟨j,b',k',g1,g2,g3⟩
  ·rw [g2] at hg;cases hg
  ·rw [g3] at hg
   cases hg
   have hk:=hs.env k
   rw [hv] at hk
   have hkv:=hk.bool
   rw [(tR (a:=a) (k:=k) (fun b hb=>by rw [hb] at hkv;cases hkv)).2] at hkv
   have hkn:k<a.tmps.size:=by
    rcases dT k a.tmps.size with hlt | hge
    ·exact hlt
    ·rw [kL,Array.getElem?_eq_none hge] at hkv
     cases hkv
   have hy:yielded ops a.tmps j=some t:=by
    have:a.tmps[k]? = some (.bool t):=by
     rw [kL,mU hkn] at hkv
     rw [mU hkn]
     simpa using hkv
    simp [yielded,g2,this]
   simp only [Region.wanted,g1,hy]
   cases t<;>cases b<;>rfl
 cases ev with
 | none =>
  obtain ⟨⟨k,b,hg,hv⟩,rfl,rfl,_⟩:=hst
  have hnw:¬Region.wanted o (yielded ops a.tmps)=true:=by
   rcases hv with hv | hv
   ·rw [hwant k b _ hg hv];cases b<;>simp
   ·rcases h4 with ⟨_,g2⟩ | ⟨j,b',k',g1,g2,g3⟩
    ·rw [g2] at hg;cases hg
    ·rw [g3] at hg
     cases hg
     have hk:=hs.env k
     rw [hv] at hk
     simp [Region.wanted,g1,lB (ops:=ops) g2 hk]
  rw [aD hnw]
  exact hK _ _ _ (putB hs (y:=.tup []) ⟨[],rfl,trivial⟩)
 | some p =>
  obtain ⟨v,e⟩:=p
  obtain ⟨hgd,hf⟩:=hst
  have hw:Region.wanted o (yielded ops a.tmps)=true:=by
   rcases h4 with ⟨g1,_⟩ | ⟨j,b',k',g1,g2,g3⟩
   ·simp [Region.wanted,g1]
   ·rw [hwant k' b' b' g3 (hgd k' b' g3)];simp
  rw [aK hw]
  refine .inl ?_
  have hr:=hf.run
  unfold xV at hr
  split at hr
  ·rename_i f args hop
   rw [hop] at h1
   obtain ⟨cl,hoo,hcl,hb,hv⟩:=uy h1
   rcases hr with ⟨rfl,_,args',b,q1,q2,q3,q4⟩ | ⟨k,ob,ob',Sb,rfl,q1,q2,q3,q4,_⟩
   rotate_left
   ·refine gZ (f:=f) (args:=cl.args.map a.eval) ?_ ?_
    ·have:=fV (w:=w) hb (cl.args.map a.eval)
     simp [execOp,hoo,resolve,hcl,Act.eval,Deferred.ofValue,invoke,this]
    ·have hσ:∀id o,ak [(k,ob)] id=some o→h id=some o:=fun id o hi=>by
      simp only [ak] at hi
      split at hi
      ·rename_i hki;subst hki;cases hi;exact q4
      ·cases hi
     have:=vi hs q2 (i4 hs hv) hσ [] (fun r σ' hP id hid=>by
      obtain ⟨rfl,rfl⟩:=hP
      simp only [ak] at hid
      split at hid
      ·rename_i hki;subst hki;exact .inl ⟨q3,by simp [ak]⟩
      ·cases hid)
     simp only [Array.toArray_toList] at this
     refine this.mono fun e' w' ⟨u,r,σ',bl2,he,hP,hs',hv'⟩=>⟨u,he,?_⟩
     obtain ⟨rfl,rfl⟩:=hP
     have eg:(fun j=>jX [] (g j))=g:=by funext j;simp [jX]
     have eh:yx [] (ak [(k,ob)]) (ak [(k,ob')]) h=(bc.put k ob').hp h:=by
      funext j
      simp only [yx,ak,bc.hp,dt]
      by_cases hj:k=j
      ·subst hj;simp
      ·have hj':¬j=k:=fun e=>hj e.symm
       have:eD []=id:=by funext o;unfold eD n9;simp
       simp [hj,hj',this]
     rw [eg,eh] at hs'
     rw [eh] at hv'
     refine hK _ _ bl2 ?_
     rw [hf.hg,hf.hh]
     exact putB hs' hv'
   refine gZ (f:=f) (args:=cl.args.map a.eval) ?_ ?_
   ·have:=fV (w:=w) hb (cl.args.map a.eval)
    simp [execOp,hoo,resolve,hcl,Act.eval,Deferred.ofValue,invoke,this]
   ·have:=r9 hs q1 (i4 hs hv) q2 b q3 q4
    simp only [Array.toArray_toList] at this
    refine this.mono fun e' w' ⟨u,he,hs',hv'⟩=>⟨u,he,?_⟩
    refine hK _ _ bl ?_
    rw [hf.hg,hf.hh]
    exact putB hs' hv'
  ·exact hr.elim
  ·rcases hr with hr | ⟨rfl,hal,t,st,rows,rfl,hr⟩
   ·refine oQ (v_ hs h1 hr hnew) (fun r w' bl' q1 q2=>hK _ _ bl' ?_)
    rw [hf.hg,hf.hh]
    exact putB q1 q2
   ·refine oQ (v_ hs h1 hr hnew) (fun r w' bl' q1 q2=>hK _ _ bl' ?_)
    obtain ⟨u1,u2,_⟩:=hnew hal
    obtain ⟨f1,f2⟩:=q1.freeze (i:=io.dst.getD 0) (o:=⟨t,st,rows,false⟩) (by simp [bc.hp,dt]) rfl
    have f3:=f2 _ _ q2
    have e1:(fun k=>md (io.dst.getD 0) ⟨t,st,rows,false⟩ ((bc.new (io.dst.getD 0) ⟨t,st,rows,false⟩).env g k))=g:=funext fun k=>Iw (u2.1 k)
    have e2:(fun j=>if j=io.dst.getD 0 then none else ((bc.new (io.dst.getD 0) ⟨t,st,rows,false⟩).hp h j).map (fb (io.dst.getD 0) ⟨t,st,rows,false⟩))=h:=funext fun j=>by
     by_cases hj:j=io.dst.getD 0
     ·rw [aK hj,hj,u1]
     ·rw [aD hj]
      simp only [bc.hp,dt,aD hj]
      cases hq:h j with
      | none=>rfl
      | some q=>simp only [fe];rw [Iv fun hr=>u2.2 j q hq hr]
    have e3:md (io.dst.getD 0) ⟨t,st,rows,false⟩ (.ms (io.dst.getD 0) st 0 rows.length) = .sl st rows:=by simp [md,s6,ng,j5]
    rw [e1,e2] at f1
    rw [e2,e3] at f3
    rw [hf.hg,hf.hh]
    exact putB f1 f3
theorem eY {listed:Array Bool} {i:Nat}:i∈Region.ready .any ops listed↔i<ops.size∧listed.getD i true=false∧∃o,ops[i]? = some o∧∀d∈fR o,listed.getD d false=true:=by
 unfold Region.ready
 simp only [List.mem_filter,List.mem_range,bY,lg]
 refine ⟨fun ⟨h1,h2,h3⟩=>⟨h1,h2,ops[i],mU h1,?_⟩,fun ⟨h1,h2,o,h3,h4⟩=>⟨h1,h2,?_⟩⟩
 ·rw [mU h1] at h3
  simp only [fe,Option.getD_some,Array.all_eq_true_iff_forall_mem,jR,lg] at h3
  intro d hd
  simp only [fR,List.mem_map,List.mem_filter,Array.mem_toList_iff] at hd
  obtain ⟨e,⟨he1,he2⟩,rfl⟩:=hd
  rcases h3 e he1 with h5 | h5
  ·rw [he2] at h5;cases h5
  ·exact h5
 ·rw [h3]
  simp only [fe,Option.getD_some,Array.all_eq_true_iff_forall_mem,jR,lg]
  intro e he
  cases hb:Region.binds .any e with
  | false=>exact .inl rfl
  | true =>
   refine .inr (h4 e.on ?_)
   simp only [fR,List.mem_map,List.mem_filter,Array.mem_toList_iff]
   exact ⟨e,⟨he,hb⟩,rfl⟩
structure gE (ops:Array Oper) (bs:List (List Nat)):Prop where
 lt:∀i o,ops[i]? = some o→∀d∈fR o,d<i
 via:∀i o,ops[i]? = some o→∀d∈bs.getD i [],d∈fR o∨∃m∈fR o,d∈bs.getD m []
theorem w9 {bs:List (List Nat)} (h:Lv ops.toList bs=true):gE ops bs:=by
 have key:∀i o,ops[i]? = some o→(∀d∈fR o,d<i)∧∀d∈bs.getD i [],d∈fR o∨∃m∈fR o,d∈bs.getD m []:=fun i o hi=>by
  have hlt:i<ops.toList.length:=by
   have:=(qu.1 hi).1
   simpa using this
  have:=ee.1 h i (List.mem_range.2 hlt)
  have hi':ops.toList[i]? = some o:=by rw [Array.getElem?_toList];exact hi
  simp only [hi',bY,ee,cP,jR,List.any_eq_true,List.contains_eq_mem] at this
  exact this
 exact ⟨fun i o hi=>(key i o hi).1,fun i o hi=>(key i o hi).2⟩
theorem gE.bef_lt {bs:List (List Nat)} (hO:gE ops bs):∀(i:Nat) (o:Oper),ops[i]? = some o→∀d∈bs.getD i [],d<i:=by
 intro i
 induction i using Nat.strongRecOn with
 | _ i ih =>
  intro o hi d hd
  rcases hO.via i o hi d hd with h1 | ⟨m,h1,h2⟩
  ·exact hO.lt i o hi d h1
  ·have hm:=hO.lt i o hi m h1
   have hms:m<ops.size:=Nat.lt_trans hm (qu.1 hi).1
   have:=ih m hm ops[m] (mU hms) d h2
   omega
theorem gE.listed {bs:List (List Nat)} (hO:gE ops bs) {p:Nat→Prop} (hdc:∀i o,p i→ops[i]? = some o→∀d∈fR o,p d):∀(i:Nat) (o:Oper),ops[i]? = some o→(∀d∈fR o,p d)→∀d∈bs.getD i [],p d:=by
 intro i
 induction i using Nat.strongRecOn with
 | _ i ih =>
  intro o hi he d hd
  rcases hO.via i o hi d hd with h1 | ⟨m,h1,h2⟩
  ·exact he d h1
  ·have hm:=hO.lt i o hi m h1
   have hms:m<ops.size:=Nat.lt_trans hm (qu.1 hi).1
   exact ih m hm ops[m] (mU hms) (hdc m _ (he m h1) (mU hms)) d h2
theorem zy (hn:c.n=n) {al:List (Nat×Nat)} (hone:oR al) (hal:∀d m,(d,m)∈al→d<1000) {bs:List (List Nat)} (hO:gE ops bs) {gf:Nat→AV} {hf:Nat→Option ao} {Q:Exit→Act→World→Prop} (off fuel0:Nat) (Z:Nat→Prop)
  (hQ:∀(listed:Array Bool) a w bl,listed.size=ops.size→(∀j,j<ops.size→(listed.getD j true=false↔Z j))→aM c bl gf hf a w→wpAny P .any ops Q fuel0 listed a w):∀(fuel:Nat) (R:List Item) (listed:Array Bool) (g:Nat→AV) (h:Nat→Option ao) (a:Act) (w:World) (bl:Nat→Option Nat),R.length=fuel→listed.size=ops.size →
   aM c bl g h a w→T P R g h gf hf→Un al (fun m=>∃t∈R,t.i=m) g h →
   (∀j,j<ops.size→(listed.getD j true=false↔(∃t∈R,off+t.i=j)∨Z j)) →
   (∀j,Z j→∀t∈R,off+t.i∈bs.getD j []) →
   (∀i o,listed.getD i false=true→ops[i]? = some o→∀d∈fR o,listed.getD d false=true) →
   (∀t∈R,∃o,ops[off+t.i]? = some o∧lk P n ops o=some t.o∧(∀d∈t.bef,off+d∈bs.getD (off+t.i) [])∧bt t.o.op=true∧(dx t.o.op=true→(t.o.dst.getD 0,t.i)∈al) ∧
    (∀d,d∈aP (lI t.ev)∨d∈(dP t.ev).ids→∀m,(d,m)∈al→m=t.i∨m∈t.bef)) →
   R.Pairwise (fun m t=>m.i<t.i∧(m.i∈t.bef∨(qU m.o t.o∧Mt t.x m.x)))→wpAny P .any ops Q (fuel+fuel0) listed a w:=by
 intro fuel
 induction fuel with
 | zero =>
  intro R listed g h a w bl hlen hsz hs ht hu hli hbk hdc hit hpw
  have hR:R=[]:=List.length_eq_zero_iff.1 hlen
  subst hR
  obtain ⟨rfl,rfl⟩:=ht
  rw [Nat.zero_add]
  refine hQ listed a w bl hsz (fun j hj=>?_) hs
  rw [hli j hj]
  refine ⟨fun hh=>?_,.inr⟩
  rcases hh with ⟨t,ht,_⟩ | hh
  ·cases ht
  ·exact hh
 | succ fuel ih =>
  intro R listed g h a w bl hlen hsz hs ht hu hli hbk hdc hit hpw
  have hgetD:∀j,j<ops.size→listed.getD j true=listed.getD j false:=fun j hj=>by
   have:j<listed.size:=by omega
   simp [kL,mU this]
  rw [Nat.add_right_comm]
  refine ⟨fun hr=>?_,fun i hi=>?_⟩
  ·
   exfalso
   cases R with
   | nil=>simp at hlen
   | cons t R =>
    obtain ⟨o,h1,_⟩:=hit t (by simp)
    have hlt:=(qu.1 h1).1
    have:off+t.i∈Region.ready .any ops listed:=eY.2 ⟨hlt,(hli (off+t.i) hlt).2 (.inl ⟨t,by simp,rfl⟩),o,h1,fun d hd=>by
     have hdl:=hO.lt (off+t.i) o h1 d hd
     have hds:d<ops.size:=by omega
     cases hv:listed.getD d false with
     | true=>rfl
     | false =>
      rw [← hgetD d hds] at hv
      rcases (hli d hds).1 hv with ⟨q,hq,hqi⟩ | hz
      ·rcases eH.1 hq with rfl | hq
       ·omega
       ·have:=((List.pairwise_cons.1 hpw).1 q hq).1
        omega
      ·have h5:=hbk d hz t (by simp)
       have h6:=hO.bef_lt d ops[d] (mU hds) _ h5
       omega⟩
    rw [hr] at this
    cases this
  ·obtain ⟨h1,h2,o,h3,h4⟩:=eY.1 hi
   have hbefs:∀d∈bs.getD i [],listed.getD d false=true:=hO.listed hdc i o h3 h4
   have hiR:∃t∈R,off+t.i=i:=by
    rcases (hli i h1).1 h2 with hh | hz
    ·exact hh
    ·exfalso
     cases R with
     | nil=>simp at hlen
     | cons t R =>
      have h5:=hbefs _ (hbk i hz t (by simp))
      obtain ⟨ot,hot,_⟩:=hit t (by simp)
      have hl:=(qu.1 hot).1
      have h6:=(hli (off+t.i) hl).2 (.inl ⟨t,by simp,rfl⟩)
      rw [hgetD _ hl,h5] at h6
      cases h6
   obtain ⟨t,htR,hti⟩:=hiR
   subst hti
   obtain ⟨A,B,rfl⟩:=List.append_of_mem htR
   obtain ⟨o',q1,q2,q3,q4,q5,q6⟩:=hit t (by simp)
   rw [h3] at q1
   cases q1
   have hbef:∀d∈t.bef,listed.getD (off+d) false=true:=fun d hd=>hbefs _ (q3 d hd)
   have hpA:∀m∈A,m.i<t.i∧(m.i∈t.bef∨(qU m.o t.o∧Mt t.x m.x)):=fun m hm=>(List.pairwise_append.1 hpw).2.2 m hm t (by simp)
   have hun:∀m∈A++B,m.i≠t.i:=fun m hm=>by
    rcases ef.1 hm with hm | hm
    ·have:=(hpA m hm).1;omega
    ·have:=((List.pairwise_cons.1 (List.pairwise_append.1 hpw).2.1).1 m hm).1;omega
   have hnot:∀m∈A++t :: B,listed.getD (off+m.i) false=false:=fun m hm=>by
    obtain ⟨om,hom,_⟩:=hit m hm
    have hl:=(qu.1 hom).1
    rw [← hgetD (off+m.i) hl]
    exact (hli (off+m.i) hl).2 (.inl ⟨m,hm,rfl⟩)
   obtain ⟨g1,hh1,hst,hT⟩:=La A t B g h gf hf ht (fun m hm=>by
    rcases (hpA m hm).2 with hb | hb
    ·have:=hbef m.i hb
     rw [hnot m (by simp [hm])] at this
     cases this
    ·exact hb) (fun m hm=>by obtain ⟨_,_,_,_,q,_⟩:=hit m (by simp [hm]);exact q) q4
   unfold wpOp
   rw [h3]
   simp only
   have hu':Un al (fun m=>∃q∈A++B,q.i=m) g1 hh1:=Un.step hst hu q4 q6 (fun m hm ⟨q,hq,hqi⟩=>by
    have:=hbef m hm
    rw [← hqi,hnot q (by
     rcases ef.1 hq with hq | hq
     ·simp [hq]
     ·simp [hq])] at this
    cases this) q5 hone (fun m ⟨q,hq,hqi⟩=>⟨⟨q,by
     rcases ef.1 hq with hq | hq
     ·simp [hq]
     ·simp [hq],hqi⟩,by rw [← hqi];exact hun q hq⟩)
   refine xz q2 hn hst hs (fun ha=>?_) (fun a' w' bl' hs'=>?_)
   ·obtain ⟨u1,u2⟩:=hu _ t.i (q5 ha) ⟨t,by simp,rfl⟩
    exact ⟨u1,u2,.inl (hal _ _ (q5 ha))⟩
   ·refine ih (A++B) (listed.setIfInBounds (off+t.i) true) g1 hh1 a' w' bl' (by simp at hlen ⊢;omega) (by simpa using hsz) hs' hT hu' (fun j hj=>?_) (fun j hz m hm=>hbk j hz m ?_) (fun j oj hj hoj d hd=>?_) (fun m hm=>?_) ?_
    ·have hset:(listed.setIfInBounds (off+t.i) true).getD j true=if off+t.i=j then true else listed.getD j true:=by
      simp only [kL,tV]
      split
      ·rename_i e;subst e;simp [hsz,h1]
      ·rfl
     rw [hset]
     constructor
     ·intro hv
      split at hv
      ·cases hv
      ·rename_i hne
       rcases (hli j hj).1 hv with ⟨q,hq,hqi⟩ | hz
       ·refine .inl ⟨q,?_,hqi⟩
        rcases ef.1 hq with hq | hq
        ·simp [hq]
        ·rcases eH.1 hq with rfl | hq
         ·exact absurd hqi hne
         ·simp [hq]
       ·exact .inr hz
     ·rintro (⟨q,hq,hqi⟩ | hz)
      ·rw [aD (fun e=>hun q hq (by omega))]
       refine (hli j hj).2 (.inl ⟨q,?_,hqi⟩)
       rcases ef.1 hq with hq | hq
       ·simp [hq]
       ·simp [hq]
      ·rw [aD (fun e=>by
        subst e
        have h5:=hbk _ hz t (by simp)
        have h6:=hO.bef_lt _ _ h3 _ h5
        omega)]
       exact (hli j hj).2 (.inr hz)
    ·rcases ef.1 hm with hm | hm
     ·simp [hm]
     ·simp [hm]
    ·have hset:∀k,(listed.setIfInBounds (off+t.i) true).getD k false=if off+t.i=k then true else listed.getD k false:=fun k=>by
      simp only [kL,tV]
      split
      ·rename_i e;subst e;simp [hsz,h1]
      ·rfl
     rw [hset] at hj ⊢
     split
     ·rfl
     ·split at hj
      ·rename_i e
       subst e
       rw [h3] at hoj
       cases hoj
       exact h4 d hd
      ·exact hdc j oj hj hoj d hd
    ·refine hit m ?_
     rcases ef.1 hm with hm | hm
     ·simp [hm]
     ·simp [hm]
    ·have hsub:(A++B).Sublist (A++t :: B):=List.Sublist.append_left (List.sublist_cons_self t B) A
     exact hpw.sublist hsub
end
def LQ (c:li) (K:IX→St→Prop):Exit→Act→World→Prop
 | .normal,a,w=>∃s,K .nrm s∧bZ c s a w
 | .ret,a,w=>∃s,K .ret s∧bZ c s a w
 | .exit id,a,w=>∃s,K (.ext id) s∧bZ c s a w
 | _,_,_=>False
section
variable {P:Program} [bU P] {c:li} [CT c P] {n:Nat}
theorem je {p:Nat→Prop} (h:∃n,p n):∃n,p n∧∀m,m<n→¬p m:=by
 obtain ⟨n,hn⟩:=h
 induction n using Nat.strongRecOn with
 | _ n ih =>
  by_cases hm:∃m,m<n∧p m
  ·obtain ⟨m,h1,h2⟩:=hm
   exact ih m h1 h2
  ·exact ⟨n,hn,fun m h1 h2=>hm ⟨m,h1,h2⟩⟩
open Classical in
theorem A_ {x:Code} {Q:Exit→Act→World→Prop} {a:Act} {w:World} (I:Nat→Act→World→Prop) (h0:∃n,I n a w)
  (round:∀n a w,I n a w→x.wp P (Exit.then (fun a' w'=>∃m,m<n∧I m a' w') Q) a w):(Code.loop x).wp P Q a w:=by
 refine wp_loop (fun a w=>∃n,I n a w) (fun a w=>if h:∃n,I n a w then Classical.choose (je h) else 0) h0 (fun a w hI=>?_)
 have hc:=Classical.choose_spec (je hI)
 refine Code.wp_mono (fun e a' w' hq=>?_) (round _ a w hc.1)
 cases e<;>try exact hq
 obtain ⟨m,hm,hI'⟩:=hq
 refine ⟨⟨m,hI'⟩,?_⟩
 rw [dif_pos ⟨m,hI'⟩,dif_pos hI]
 have hc':=Classical.choose_spec (je (p:=fun n=>I n a' w') ⟨m,hI'⟩)
 rcases dT m (Classical.choose (je (p:=fun n=>I n a' w') ⟨m,hI'⟩)) with h1 | h1
 ·exact absurd hI' (hc'.2 m h1)
 ·omega
theorem kj {ops:Array Oper}:∀{l:List Oper} {il:List aS},o_ P n ops l=some il→il.length=l.length∧∀(j:Nat) (io:aS),il[j]? = some io→∃o,l[j]? = some o∧lk P n ops o=some io
 | [],il,h=>by simp only [o_,cq] at h;subst h;simp
 | o :: r,il,h=>by
  simp only [o_] at h
  split at h
  case h_2=>cases h
  rename_i x xs h1 h2
  cases h
  obtain ⟨h3,h4⟩:=kj h2
  refine ⟨by simp [h3],fun j io hj=>?_⟩
  cases j with
  | zero=>simp at hj;subst hj;exact ⟨o,by simp,h1⟩
  | succ j=>simp at hj;obtain ⟨o',h5,h6⟩:=h4 j io hj;exact ⟨o',by simpa using h5,h6⟩
theorem kg:∀(l:List aS) (i:Nat) (d m:Nat),(d,m)∈cx i l↔∃j o,l[j]? = some o∧dx o.op=true∧d=o.dst.getD 0∧m=i+j
 | [],i,d,m=>by simp [cx]
 | o :: r,i,d,m=>by
  have ih:=kg r (i+1) d m
  have key:(∃j o',(o :: r)[j]? = some o'∧dx o'.op=true∧d=o'.dst.getD 0∧m=i+j)↔(dx o.op=true∧d=o.dst.getD 0∧m=i)∨∃j o',r[j]? = some o'∧dx o'.op=true∧d=o'.dst.getD 0∧m=i+1+j:=by
   constructor
   ·rintro ⟨j,o',h1,h2,h3,h4⟩
    cases j with
    | zero=>simp at h1;subst h1;exact .inl ⟨h2,h3,by omega⟩
    | succ j=>exact .inr ⟨j,o',by simpa using h1,h2,h3,by omega⟩
   ·rintro (⟨h2,h3,h4⟩ | ⟨j,o',h1,h2,h3,h4⟩)
    ·exact ⟨0,o,by simp,h2,h3,by omega⟩
    ·exact ⟨j+1,o',by simpa using h1,h2,h3,by omega⟩
  rw [key,← ih]
  by_cases ha:dx o.op=true
  ·rw [show cx i (o :: r)=(o.dst.getD 0,i) :: cx (i+1) r from by simp [cx,ha]]
   simp [ha]
  ·rw [show cx i (o :: r)=cx (i+1) r from by simp [cx,ha]]
   simp [ha]
theorem n8:∀{l:List Nat},tw l=true→l.Nodup
 | [],_=>by simp
 | x :: r,h=>by
  simp only [tw,bY,lg,List.contains_eq_mem,decide_eq_false_iff_not] at h
  exact List.nodup_cons.2 ⟨h.1,n8 h.2⟩
theorem De {al:List (Nat×Nat)} (h:(al.map (·.1)).Nodup):oR al:=by
 induction al with
 | nil=>intro d m m' h1;cases h1
 | cons p r ih =>
  simp only [eW,List.nodup_cons] at h
  intro d m m' h1 h2
  rcases eH.1 h1 with e1 | h1<;>rcases eH.1 h2 with e2 | h2
  ·rw [← e1] at e2;cases e2;rfl
  ·exact absurd (List.mem_map.2 ⟨(d,m'),h2,by rw [← e1]⟩) h.1
  ·exact absurd (List.mem_map.2 ⟨(d,m),h1,by rw [← e2]⟩) h.1
  ·exact ih h.2 d m m' h1 h2
theorem iS:∀(l:List Nat) (s:St) (d:Nat),(ak s.heap d=none∧cz d (get s.env) (ak s.heap))∨d∈l→ak (kills l s).heap d=none∧cz d (get (kills l s).env) (ak (kills l s).heap)
 | [],s,d,h=>by rcases h with h | h;exact h;cases h
 | i :: r,s,d,h=>by
  refine iS r (s.kill i) d ?_
  by_cases hd:d=i
  ·subst hd;exact .inl (dG s d)
  ·rcases h with ⟨h1,h2⟩ | h
   ·refine .inl ⟨by simp [St.kill,et,dh,h1],fun k=>?_,fun j o hj hr q hq x hx=>?_⟩
    ·simp only [St.kill,fU]
     unfold fc
     split
     ·rfl
     ·exact h2.1 k
    ·simp only [St.kill,et,dh,c9] at hj
     obtain ⟨o0,h3,rfl⟩:=hj
     split at h3
     ·cases h3
     ·rw [kA] at hr
      simp only [dl,hr,bF,List.mem_map] at hq
      obtain ⟨q0,hq0,rfl⟩:=hq
      obtain ⟨x0,hx0,rfl⟩:=List.mem_map.1 hx
      unfold ou
      split
      ·rfl
      ·exact h2.2 j o0 h3 hr q0 hq0 x0 hx0
   ·rcases eH.1 h with h | h
    ·exact absurd h hd
    ·exact .inr h
theorem pt {al:List (Nat×Nat)}:∀{items:List Item} {hist:List HI},qz al hist items→(∀t∈items,(∀y∈hist,y.i∈t.bef∨Mt t.x y)∧t.x.i=t.i∧(∀d,d∈aP (lI t.ev)∨d∈(dP t.ev).ids→∀m,(d,m)∈al→m=t.i∨m∈t.bef)) ∧
  items.Pairwise (fun m t=>m.i∈t.bef∨Mt t.x m.x)
 | [],_,_=>⟨by simp,List.Pairwise.nil⟩
 | t :: R,hist,h=>by
  obtain ⟨h1,h2,h3,h4⟩:=h
  obtain ⟨h5,h6⟩:=pt h4
  refine ⟨fun q hq=>?_,List.pairwise_cons.2 ⟨fun q hq=>?_,h6⟩⟩
  ·rcases eH.1 hq with rfl | hq
   ·exact ⟨h2,h1,h3⟩
   ·exact ⟨fun y hy=>(h5 q hq).1 y (by simp [hy]),(h5 q hq).2⟩
  ·have:=(h5 q hq).1 t.x (by simp)
   rwa [h1] at this
theorem vr (l:List Nat):∀(f k:Nat),(∀d,d<k→d∈l)→∀d,d<GR l f k→d∈l
 | 0,k,h=>h
 | f+1,k,h=>by
  simp only [GR]
  split
  ·rename_i hc
   refine vr l f (k+1) (fun d hd=>?_)
   rcases dT d k with h1 | h1
   ·exact h d h1
   ·obtain rfl:d=k:=by omega
    simpa using hc
  ·exact h
def vY (bs:List (List Nat)) (N:Nat):Nat→List aS→List (Nat×List aS)→Prop
 | _,l,[]=>l=[]
 | i,l,(k,s) :: t=>k=i∧s≠[]∧∃r,l=s++r∧vY bs N (i+s.length) r t∧(t≠[]→∀j,i+s.length≤j→j<N→∀d,d<i+s.length→d∈bs.getD j [])
theorem y9 (bs:List (List Nat)) (N:Nat):∀(l:List aS) (i:Nat),i+l.length=N→vY bs N i l (vJ bs i l).1∧∀j,i≤j→j<N→(vJ bs i l).2≤GR (bs.getD j []) j 0
 | [],i,h=>⟨rfl,fun j h1 h2=>by simp at h;omega⟩
 | o :: r,i,h=>by
  simp only [aQ] at h
  obtain ⟨h1,h2⟩:=y9 bs N r (i+1) (by omega)
  have hm:∀(m:Nat),m=(vJ bs (i+1) r).2→∀j,i≤j→j<N→min m (GR (bs.getD i []) i 0)≤GR (bs.getD j []) j 0:=fun m hm j h3 h4=>by
   rcases dT i j with h5 | h5
   ·exact dn (Nat.min_le_left _ _) (by rw [hm];exact h2 j h5 h4)
   ·obtain rfl:i=j:=by omega
    exact Nat.min_le_right _ _
  rw [vJ]
  generalize hs:vJ bs (i+1) r=q at *
  obtain ⟨t,m⟩:=q
  match t,h1 with
  | [],h1 =>
   refine ⟨⟨rfl,by simp,r,rfl,h1,fun h=>absurd rfl h⟩,hm m rfl⟩
  | (k,s) :: t,h1 =>
   simp only
   split
   ·rename_i hc
    refine ⟨⟨rfl,by simp,r,rfl,h1,fun _ j h3 h4 d h5=>?_⟩,hm m rfl⟩
    simp only [jP] at h3 h5
    exact vr _ j 0 (fun d hd=>absurd hd (Nat.not_lt_zero d)) d (Nat.lt_of_lt_of_le (show d<m by omega) (h2 j h3 h4))
   ·obtain ⟨e1,e2,r',e3,e4,e5⟩:=h1
    have e:i+1+s.length=i+(o :: s).length:=by simp;omega
    refine ⟨⟨rfl,by simp,r',by rw [e3];rfl,by rw [← e];exact e4,by rw [← e];exact e5⟩,hm m rfl⟩
theorem eR {ic x:bE} (h:cT ic=x) (hx:(∃ops dr,x = .reg ops dr)∨x = .skip∨x = .ret∨∃id,x = .exit id):ic=x:=by
 rcases hx with ⟨ops,dr,rfl⟩ | rfl | rfl | ⟨id,rfl⟩<;>cases ic<;>simp only [cT] at h<;>first | (cases h;done) | rfl | exact h
def KU (ic ic0:bE):Prop:=(ic=ic0∨∃ops al dr,ic0 = .draw ops al dr∧ic = .wild ops al dr)∨∃ops al dr,ic0 = .draw ops al dr∧ic = .free ops al dr
theorem rM {ic x:bE} (h:cT ic=x) (hx:(∃ops dr,x = .reg ops dr)∨∃ops al dr,x = .draw ops al dr):KU ic x:=by
 rcases hx with ⟨ops,dr,rfl⟩ | ⟨ops,al,dr,rfl⟩
 ·exact .inl (.inl (eR h (.inl ⟨_,_,rfl⟩)))
 ·cases ic<;>simp only [cT] at h<;>first | (cases h;done) | skip
  ·exact .inl (.inl h)
  ·cases h;exact .inr ⟨_,_,_,rfl,rfl⟩
  ·cases h;exact .inl (.inr ⟨_,_,_,rfl,rfl⟩)
theorem rC {α:Type} {F:α→Prop}:∀{l:List α},uB l F→∀{x:α},x∈l→F x
 | [y],h,x,hx=>by obtain rfl:=ow.1 hx;exact h
 | y :: z :: r,h,x,hx=>by
  rcases eH.1 hx with rfl | hx
  ·exact h.1
  ·exact rC h.2 hx
theorem wy {R:List (Nat×aR)} {t:Nat×aR} (h:R.Pairwise (fun a b=>a.1≠b.1)) (ht:t∈R):(R.filter fun q=>q.1 != t.1).length+1=R.length:=by
 induction R with
 | nil=>cases ht
 | cons y R ih =>
  have h1:=(List.pairwise_cons.1 h).1
  have h2:=(List.pairwise_cons.1 h).2
  rcases eH.1 ht with e | ht
  ·subst e
   have e:R.filter (fun q=>q.1 != t.1)=R:=List.filter_eq_self.2 fun q hq=>bne_iff_ne.2 fun e=>h1 q hq e.symm
   have e2:(t.1 != t.1)=false:=by simp
   rw [List.filter_cons,e2,e]
   rfl
  ·have h3:=ih h2 ht
   have e2:(y.1 != t.1)=true:=bne_iff_ne.2 (h1 t ht)
   rw [List.filter_cons,e2]
   show ((R.filter fun q=>q.1 != t.1).length+1)+1=R.length+1
   omega
section
variable {ops:Array Oper} {bs:List (List Nat)} {L:List aS} {Q:Exit→Act→World→Prop} {a:Act} {w:World} {st:St} {KK:IX→St→Prop} {listed:Array Bool}
theorem iH {i:Nat} (hsz:listed.size=ops.size) (hl:∀j,j<ops.size→(listed.getD j true=false↔i≤j)) (j:Nat) (hj:j<ops.size):listed.getD j false=true↔j<i:=by
 have hgetD:listed.getD j true=listed.getD j false:=by
  have:j<listed.size:=by omega
  simp [kL,mU this]
 have:=hl j hj
 rw [hgetD] at this
 cases hv:listed.getD j false with
 | true=>simp [hv] at this;simpa using this
 | false=>simp [hv] at this;simpa using this
theorem iT {i:Nat} (hO:gE ops bs) (hsz:listed.size=ops.size) (hl:∀j,j<ops.size→(listed.getD j true=false↔i≤j)) :
  ∀j o,listed.getD j false=true→ops[j]? = some o→∀d∈fR o,listed.getD d false=true:=fun j o hj ho d hd=>by
 have hjs:=(qu.1 ho).1
 have h1:=(iH hsz hl j hjs).1 hj
 have h2:=hO.lt j o ho d hd
 exact (iH hsz hl d (by omega)).2 (by omega)
theorem nG (hn:c.n=n) (hO:gE ops bs) (hL:o_ P n ops ops.toList=some L) {i:Nat} {s r:List aS} (hs:L.drop i=s++r) (hne:s≠[]) {dr:List Nat} {ic ic0:bE} (hc:zH bs i s dr=some ic0)
  (hic:KU ic ic0) (hi:ii P ic st KK) (hst:bZ c st a w) (hsz:listed.size=ops.size) (hl:∀j,j<ops.size→(listed.getD j true=false↔i≤j))
  (hcut:r≠[]→∀j,i+s.length≤j→j<ops.size→∀d,d<i+s.length→d∈bs.getD j [])
  (hnext:∀(st':St) (a':Act) (w':World) (listed':Array Bool),KK .nrm st'→bZ c st' a' w'→listed'.size=ops.size→(∀j,j<ops.size→(listed'.getD j true=false↔i+s.length≤j))→wpAny P .any ops Q r.length listed' a' w') :
  wpAny P .any ops Q (s.length+r.length) listed a w:=by
 obtain ⟨hlen,hget'⟩:=kj hL
 simp only [iX] at hlen
 have hsize:i+s.length+r.length=ops.size:=by
  have h1:=congrArg List.length hs
  have h2:0<s.length:=List.length_pos_iff.2 hne
  simp only [lW,aJ,hlen] at h1
  omega
 have hopi:∀(j:Nat) (io:aS),s[j]? = some io→∃o,ops[i+j]? = some o∧lk P n ops o=some io:=fun j io hj=>by
  have h1:L[i+j]? = some io:=by
   rw [← List.getElem?_drop,hs,List.getElem?_append_left (eV.1 hj).1]
   exact hj
  obtain ⟨o,h2,h3⟩:=hget' (i+j) io h1
  exact ⟨o,by rw [← Array.getElem?_toList];exact h2,h3⟩
 have hcut':∀j,i+s.length≤j→j<ops.size→∀d,d<i+s.length→d∈bs.getD j []:=fun j h1 h2=>hcut (fun e=>by subst e;simp at hsize;omega) j h1 h2
 have one:∀o:aS,s=[o]→ic0 = .reg [o] dr→wpAny P .any ops Q (s.length+r.length) listed a w:=by
  rintro o rfl rfl
  obtain rfl:ic = .reg [o] dr:=by
   rcases hic with (h | ⟨_,_,_,h,_⟩) | ⟨_,_,_,h,_⟩
   ·exact h
   ·cases h
   ·cases h
  obtain ⟨oo,h1,h2⟩:=hopi 0 o rfl
  rw [Nat.add_zero] at h1
  have his:=(qu.1 h1).1
  rw [jP,Nat.add_comm 1]
  have hrd:∀k∈Region.ready .any ops listed,k=i:=fun k hk=>by
   obtain ⟨k1,k2,ok,k3,k4⟩:=eY.1 hk
   have k5:=(hl k k1).1 k2
   rcases dT i k with h5 | h5
   ·exfalso
    have h6:=hcut' k (by simp;omega) k1 i (by simp)
    have h7:=hO.listed (iT hO hsz hl) k ok k3 k4 i h6
    have:=(iH hsz hl i his).1 h7
    omega
   ·omega
  refine ⟨fun hr=>?_,fun k hk=>?_⟩
  ·exfalso
   have:i∈Region.ready .any ops listed:=eY.2 ⟨his,(hl i his).2 (bj _),oo,h1,fun d hd=>by
    have hdl:=hO.lt i oo h1 d hd
    exact (iH hsz hl d (by omega)).2 hdl⟩
   rw [hr] at this
   cases this
  ·obtain rfl:=hrd k hk
   unfold wpOp
   rw [h1]
   simp only [ii] at hi ⊢
   refine lL hn Q h2 hi hst fun s' a' w' h3 h4=>?_
   refine hnext _ a' w' _ h3 (bZ.dels _ h4) (by simpa using hsz) (fun j hj=>?_)
   have hset:(listed.setIfInBounds k true).getD j true=if k=j then true else listed.getD j true:=by
    simp only [kL,tV]
    split
    ·rename_i e;subst e;simp [hsz,hj]
    ·rfl
   rw [hset,jP]
   split
   ·rename_i e;subst e;simp
   ·rename_i e
    rw [hl j hj]
    omega
 have many:oy (kD bs i s.length) s dr=some ic0→wpAny P .any ops Q (s.length+r.length) listed a w:=by
  intro hc
  unfold oy at hc
  split at hc
  case isFalse=>cases hc
  rename_i hcond
  simp only [bY] at hcond
  obtain ⟨⟨⟨c2,c3⟩,c4⟩,c5⟩:=hcond
  cases hc
  have hrel:∀k,k<s.length→∀d,d∈(kD bs i s.length).getD k []↔i+d∈bs.getD (i+k) []:=fun k hk d=>by
   have e:(kD bs i s.length).getD k []=(bs.getD (i+k) []).filterMap fun d=>if i≤d then some (d - i) else none:=by
    simp only [kD,List.getD_eq_getElem?_getD,gw,List.getElem?_range hk,fe,Option.getD_some]
   rw [e,List.mem_filterMap]
   constructor
   ·rintro ⟨q,hq,hqd⟩
    split at hqd
    ·cases hqd
     rwa [show i+(q - i)=q by omega]
    ·cases hqd
   ·intro hd
    exact ⟨i+d,hd,by rw [aK (by omega)];congr 1;omega⟩
  rcases hic with hic | ⟨_,_,_,hcc,rfl⟩
  rotate_left
  ·cases hcc
   simp only [ii] at hi
   have key:∀(fuel:Nat) (R:List (Nat×aR)) (listed:Array Bool) (st:St) (a:Act) (w:World),R.length=fuel→bZ c st a w→listed.size=ops.size →
     (∀j,j<ops.size→(listed.getD j true=false↔(∃t∈R,i+t.1=j)∨i+s.length≤j)) →
     (∀j o,listed.getD j false=true→ops[j]? = some o→∀d∈fR o,listed.getD d false=true) →
     (∀t∈R,t.1<s.length∧s[t.1]? = some t.2.o∧t.2.bef=(kD bs i s.length).getD t.1 [])→R.Pairwise (fun a b=>a.1≠b.1) →
     rY P fuel R st (fun s'=>KK .nrm ⟨dels dr s'.env,s'.heap⟩)→wpAny P .any ops Q (fuel+r.length) listed a w:=by
    intro fuel
    induction fuel with
    | zero =>
     intro R listed st a w hlen hst hsz hli hdc hit hpw hf
     have hR:R=[]:=List.length_eq_zero_iff.1 hlen
     subst hR
     rw [Nat.zero_add]
     refine hnext _ a w listed hf (bZ.dels _ hst) hsz (fun j hj=>?_)
     rw [hli j hj]
     exact ⟨fun hh=>by rcases hh with ⟨t,ht,_⟩ | hh;cases ht;exact hh,.inr⟩
    | succ fuel ih =>
     intro R listed st a w hlen hst hsz hli hdc hit hpw hf
     have hgetD:∀j,j<ops.size→listed.getD j true=listed.getD j false:=fun j hj=>by
      have:j<listed.size:=by omega
      simp [kL,mU this]
     have hopR:∀t∈R,∃o,ops[i+t.1]? = some o∧lk P n ops o=some t.2.o:=fun t ht=>hopi t.1 t.2.o (hit t ht).2.1
     have hun:∀t∈R,listed.getD (i+t.1) false=false:=fun t ht=>by
      obtain ⟨o,ho,_⟩:=hopR t ht
      have hl:=(qu.1 ho).1
      rw [← hgetD _ hl]
      exact (hli _ hl).2 (.inl ⟨t,ht,rfl⟩)
     rw [Nat.add_right_comm]
     refine ⟨fun hr=>?_,fun k hk=>?_⟩
     ·exfalso
      have hex:∃m,∃t∈R,t.1=m:=by
       cases R with
       | nil=>simp at hlen
       | cons t R=>exact ⟨t.1,t,by simp,rfl⟩
      obtain ⟨m,⟨t,ht,rfl⟩,hmin⟩:=je hex
      obtain ⟨o,ho,_⟩:=hopR t ht
      have hlt:=(qu.1 ho).1
      have:i+t.1∈Region.ready .any ops listed:=eY.2 ⟨hlt,(hli _ hlt).2 (.inl ⟨t,ht,rfl⟩),o,ho,fun d hd=>by
       have hdl:=hO.lt (i+t.1) o ho d hd
       have hds:d<ops.size:=by omega
       cases hv:listed.getD d false with
       | true=>rfl
       | false =>
        rw [← hgetD d hds] at hv
        rcases (hli d hds).1 hv with ⟨q,hq,hqi⟩ | hz
        ·exact absurd ⟨q,hq,rfl⟩ (hmin q.1 (by omega))
        ·have:=(hit t ht).1;omega⟩
      rw [hr] at this
      cases this
     ·obtain ⟨k1,k2,o,k3,k4⟩:=eY.1 hk
      have hbefs:∀d∈bs.getD k [],listed.getD d false=true:=hO.listed hdc k o k3 k4
      have hkR:∃t∈R,i+t.1=k:=by
       rcases (hli k k1).1 k2 with hh | hz
       ·exact hh
       ·exfalso
        cases R with
        | nil=>simp at hlen
        | cons t R =>
         have h1:=(hit t (by simp)).1
         have h2:=hbefs _ (hcut' k hz k1 (i+t.1) (by omega))
         rw [hun t (by simp)] at h2
         cases h2
      obtain ⟨t,ht,rfl⟩:=hkR
      obtain ⟨oo,ho,hco⟩:=hopR t ht
      rw [k3] at ho
      cases ho
      have htr:t∈Z1 R:=by
       unfold Z1
       rw [List.mem_filter]
       refine ⟨ht,ee.2 fun q hq=>?_⟩
       cases hb:t.2.bef.contains q.1 with
       | false=>rfl
       | true =>
        exfalso
        have h1:q.1∈t.2.bef:=by simpa using hb
        rw [(hit t ht).2.2,hrel t.1 (hit t ht).1] at h1
        have h2:=hbefs _ h1
        rw [hun q hq] at h2
        cases h2
      have hft:=rC hf htr
      unfold wpOp
      rw [k3]
      simp only
      refine lL hn Q hco hft hst fun s' a' w' h3 h4=>?_
      have hfl:=wy hpw ht
      refine ih (R.filter fun q=>q.1 != t.1) (listed.setIfInBounds (i+t.1) true) s' a' w' (by omega) h4 (by simpa using hsz) (fun j hj=>?_) (fun j oj hj hoj d hd=>?_) (fun q hq=>hit q (List.mem_filter.1 hq).1) (hpw.sublist List.filter_sublist) h3
      ·have hset:(listed.setIfInBounds (i+t.1) true).getD j true=if i+t.1=j then true else listed.getD j true:=by
        simp only [kL,tV]
        split
        ·rename_i e;subst e;simp [hsz,k1]
        ·rfl
       rw [hset]
       constructor
       ·intro hv
        split at hv
        ·cases hv
        ·rename_i hne
         rcases (hli j hj).1 hv with ⟨q,hq,hqi⟩ | hz
         ·exact .inl ⟨q,List.mem_filter.2 ⟨hq,by simp;omega⟩,hqi⟩
         ·exact .inr hz
       ·rintro (⟨q,hq,hqi⟩ | hz)
        ·obtain ⟨hq1,hq2⟩:=List.mem_filter.1 hq
         have hq3:q.1≠t.1:=by simpa using hq2
         rw [aD (by omega)]
         exact (hli j hj).2 (.inl ⟨q,hq1,hqi⟩)
        ·have h1:=(hit t ht).1
         rw [aD (by omega)]
         exact (hli j hj).2 (.inr hz)
      ·have hset:∀k,(listed.setIfInBounds (i+t.1) true).getD k false=if i+t.1=k then true else listed.getD k false:=fun k=>by
        simp only [kL,tV]
        split
        ·rename_i e;subst e;simp [hsz,k1]
        ·rfl
       rw [hset] at hj ⊢
       split
       ·rfl
       ·split at hj
        ·rename_i e
         subst e
         rw [k3] at hoj
         cases hoj
         exact k4 d hd
        ·exact hdc j oj hj hoj d hd
   have hzl:((s.zipIdx.map fun p=>(⟨p.1,(kD bs i s.length).getD p.2 []⟩:aR)).zipIdx.map fun p=>(p.2,p.1)).length=s.length:=by simp
   have hzm:∀t,t∈((s.zipIdx.map fun p=>(⟨p.1,(kD bs i s.length).getD p.2 []⟩:aR)).zipIdx.map fun p=>(p.2,p.1))↔t.1<s.length∧s[t.1]? = some t.2.o∧t.2.bef=(kD bs i s.length).getD t.1 []:=fun t=>by
    obtain ⟨t1,⟨t2,t3⟩⟩:=t
    rw [List.mem_map]
    constructor
    ·rintro ⟨p,hp,he⟩
     obtain ⟨p1,p2⟩:=p
     cases he
     rw [List.mem_zipIdx_iff_getElem?] at hp
     simp only [gw,List.getElem?_zipIdx,Option.map_map,c9,Function.comp] at hp
     obtain ⟨io,h1,h2⟩:=hp
     cases h2
     exact ⟨(eV.1 h1).1,h1,by simp⟩
    ·rintro ⟨h1,h2,h3⟩
     refine ⟨(⟨t2,t3⟩,t1),?_,rfl⟩
     rw [List.mem_zipIdx_iff_getElem?]
     simp only at h1 h2 h3 ⊢
     simp [h2,h3]
   rw [cY,List.length_zipIdx] at hi
   refine key s.length _ listed st a w hzl hst hsz (fun j hj=>?_) (iT hO hsz hl) (fun t ht=>(hzm t).1 ht) ?_ hi
   ·rw [hl j hj]
    constructor
    ·intro hij
     rcases dT j (i+s.length) with h1 | h1
     ·exact .inl ⟨(j - i,⟨s[j - i]'(by omega),(kD bs i s.length).getD (j - i) []⟩),(hzm _).2 ⟨by simp only;omega,ig _,rfl⟩,by simp only;omega⟩
     ·exact .inr h1
    ·rintro (⟨t,ht,h1⟩ | h1)
     ·omega
     ·omega
   ·refine List.pairwise_map.2 ?_
    exact (List.nodup_iff_pairwise_ne.1 (by
     have:((s.zipIdx.map fun p=>(⟨p.1,(kD bs i s.length).getD p.2 []⟩:aR)).zipIdx.map Prod.snd).Nodup:=by
      rw [List.zipIdx_map_snd]
      exact List.nodup_range'
     exact this):List.Pairwise _ _) |> List.pairwise_map.1
  have hone:oR (cx 0 s):=De (n8 c4)
  have hal:∀d m,(d,m)∈cx 0 s→d<1000:=fun d m hd=>by simpa using ee.1 c3 (d,m) hd
  have hlz:∀(j:Nat) (o:aR),(s.zipIdx.map fun p=>(⟨p.1,(kD bs i s.length).getD p.2 []⟩:aR))[j]? = some o→s[j]? = some o.o∧o.bef=(kD bs i s.length).getD j []:=fun j o hj=>by
   simp only [gw,List.getElem?_zipIdx,Option.map_map,c9,Function.comp] at hj
   obtain ⟨io,h1,rfl⟩:=hj
   exact ⟨h1,by simp⟩
  have hun:Un (cx 0 s) (fun m=>0≤m) (get (kills ((cx 0 s).map (·.1)) st).env) (ak (kills ((cx 0 s).map (·.1)) st).heap):=(fun d m hdm _=>iS _ st d (.inr (List.mem_map.2 ⟨(d,m),hdm,rfl⟩)))
  have hpl:∀(j:Nat) (o:aR),(s.zipIdx.map fun p=>(⟨p.1,(kD bs i s.length).getD p.2 []⟩:aR))[j]? = some o→(dx o.o.op=true→(o.o.dst.getD 0,0+j)∈cx 0 s)∧(∀m∈o.bef,m<0+j)∧bt o.o.op=true:=(fun j o hj=>by
   obtain ⟨h1,h2⟩:=hlz j o hj
   obtain ⟨oo,h3,h4⟩:=hopi j o.o h1
   have hjl:=(eV.1 h1).1
   refine ⟨fun ha=>(kg s 0 _ _).2 ⟨j,o.o,h1,ha,rfl,by omega⟩,fun m hm=>?_,ee.1 c5 o.o (lX h1)⟩
   rw [h2,hrel j hjl] at hm
   have:=hO.bef_lt (i+j) oo h3 _ hm
   omega)
  have trace:∃(items:List Item) (s':St),KK .nrm ⟨dels dr s'.env,s'.heap⟩∧T P items (get (kills ((cx 0 s).map (·.1)) st).env) (ak (kills ((cx 0 s).map (·.1)) st).heap) (get s'.env) (ak s'.heap)∧qz (cx 0 s) [] items∧items.map Item.i=List.range' 0 (s.zipIdx.map fun p=>(⟨p.1,(kD bs i s.length).getD p.2 []⟩:aR)).length∧items.map (fun t=>(⟨t.o,t.bef⟩:aR))=s.zipIdx.map fun p=>(⟨p.1,(kD bs i s.length).getD p.2 []⟩:aR):=by
   rcases hic with rfl | ⟨_,_,_,hcc,rfl⟩
   ·simp only [ii] at hi
    exact uT hone _ 0 [] _ _ hi hun (fun y hy=>by cases hy) hpl
   ·cases hcc
    simp only [ii] at hi
    exact ta hone _ _ _ hi hun hpl
  obtain ⟨items,s',hK,hT,hH,hidx,hmap⟩:=trace
  obtain ⟨bl,hk⟩:=bZ.kills ((cx 0 s).map (·.1)) hst
  have hilen:items.length=s.length:=by
   have:=congrArg List.length hmap
   simp at this
   omega
  have hitem:∀(j:Nat) (t:Item),items[j]? = some t→t.i=j∧s[j]? = some t.o∧t.bef=(kD bs i s.length).getD j []:=fun j t hj=>by
   have h1:(items.map Item.i)[j]? = some t.i:=by simp [hj]
   rw [hidx] at h1
   have h2:(items.map fun t=>(⟨t.o,t.bef⟩:aR))[j]? = some ⟨t.o,t.bef⟩:=by simp [hj]
   rw [hmap] at h2
   obtain ⟨h3,h4⟩:=hlz j _ h2
   refine ⟨?_,h3,h4⟩
   rw [List.getElem?_range' (by
    have:=(eV.1 h1).1
    simpa using this)] at h1
   simp at h1
   omega
  have hmem:∀t∈items,t.i<s.length∧items[t.i]? = some t:=fun t ht=>by
   obtain ⟨j,hj⟩:=List.getElem?_of_mem ht
   have:=(hitem j t hj).1
   subst this
   exact ⟨by rw [← hilen];exact (eV.1 hj).1,hj⟩
  obtain ⟨hp1,hp2⟩:=pt hH
  refine zy (Q:=Q) hn hone hal hO i r.length (fun j=>i+s.length≤j∧j<ops.size) (fun listed' a' w' bl' h1 h2 h3=>hnext _ a' w' listed' hK (bZ.dels _ ⟨bl',h3⟩) h1 (fun j hj=>by rw [h2 j hj];exact ⟨fun h=>h.1,fun h=>⟨h,hj⟩⟩)) s.length items listed _ _ a w bl hilen hsz hk hT ?_ (fun j hj=>?_) (fun j hz t ht=>?_) (iT hO hsz hl) (fun t ht=>?_) ?_
  ·intro d m hdm _
   exact iS _ st d (.inr (List.mem_map.2 ⟨(d,m),hdm,rfl⟩))
  ·rw [hl j hj]
   constructor
   ·intro hij
    rcases dT j (i+s.length) with h1 | h1
    ·have hj':j - i<items.length:=by omega
     exact .inl ⟨items[j - i],List.getElem_mem hj',by rw [(hitem (j - i) _ (ig hj')).1];omega⟩
    ·exact .inr ⟨h1,hj⟩
   ·rintro (⟨t,ht,h1⟩ | h1)<;>omega
  ·exact hcut' j hz.1 hz.2 _ (by have:=(hmem t ht).1;omega)
  ·obtain ⟨h1,h2⟩:=hmem t ht
   obtain ⟨_,h3,h4⟩:=hitem t.i t h2
   obtain ⟨oo,h5,h6⟩:=hopi t.i t.o h3
   exact ⟨oo,h5,h6,fun d hd=>by rw [h4,hrel t.i h1] at hd;exact hd,ee.1 c5 t.o (lX h3),fun ha=>(kg s 0 _ _).2 ⟨t.i,t.o,h3,ha,rfl,by omega⟩,(hp1 t ht).2.2⟩
  ·refine List.pairwise_iff_getElem.2 fun i' j hi' hj hij=>?_
   have e1:=hitem i' _ (ig hi')
   have e2:=hitem j _ (ig hj)
   refine ⟨by rw [e1.1,e2.1];exact hij,?_⟩
   rcases List.pairwise_iff_getElem.1 hp2 i' j hi' hj hij with h1 | h1
   ·exact .inl h1
   ·by_cases hb:items[i'].i∈items[j].bef
    ·exact .inl hb
    ·refine .inr ⟨?_,h1⟩
     have hap:=ee.1 (ee.1 c2 j (List.mem_range.2 (by omega))) i' (List.mem_range.2 hij)
     simp only [e1.2.1,e2.2.1,jR,List.contains_eq_mem,cP,bY] at hap
     rw [e1.1,e2.2.2] at hb
     rcases hap with hap | ⟨hap1,hap2⟩
     ·exact absurd hap hb
     ·refine ⟨fun d hd=>?_,fun d hd=>?_⟩
      ·rw [hd] at hap1
       simp only [bY,lg,decide_eq_false_iff_not,bne_iff_ne] at hap1
       exact ⟨hap1.1,hap1.2⟩
      ·rw [hd] at hap2
       simpa using hap2
 unfold zH at hc
 split at hc
 ·exact one _ rfl (by cases hc;rfl)
 ·exact many hc
end
theorem rN {ic x y:bE} (h:cT ic = .seq x y):∃x' y',cT x'=x∧cT y'=y∧(ic = .seq x' y'∨ic = .cut x' y'):=by
 cases ic<;>simp only [cT] at h<;>first | (cases h;done) | skip
 ·rename_i x' y';cases h;exact ⟨x',y',rfl,rfl,.inl rfl⟩
 ·rename_i x' y';cases h;exact ⟨x',y',rfl,rfl,.inr rfl⟩
theorem wu {ic x y:bE} {v:IV} (h:cT ic = .cond v x y):∃x' y',cT x'=x∧cT y'=y∧ic = .cond v x' y':=by
 cases ic<;>simp only [cT] at h<;>first | (cases h;done) | skip
 rename_i x' y';cases h;exact ⟨x',y',rfl,rfl,rfl⟩
theorem uK {ic x:bE} {id:Nat} (h:cT ic = .block id x):∃x',cT x'=x∧ic = .block id x':=by
 cases ic<;>simp only [cT] at h<;>first | (cases h;done) | skip
 rename_i x';cases h;exact ⟨x',rfl,rfl⟩
theorem ww {ic x:bE} (h:cT ic = .loop x):∃x',cT x'=x∧ic = .loop x':=by
 cases ic<;>simp only [cT] at h<;>first | (cases h;done) | skip
 rename_i x';cases h;exact ⟨x',rfl,rfl⟩
section
variable {ops:Array Oper} {bs:List (List Nat)} {L:List aS} {Q:Exit→Act→World→Prop}
theorem pa {i:Nat} {s:List aS} {dr:List Nat} {ic:bE} (hc:zH bs i s dr=some ic):(∃ops dr,ic = .reg ops dr)∨∃ops al dr,ic = .draw ops al dr:=by
 unfold zH at hc
 split at hc
 ·cases hc;exact .inl ⟨_,_,rfl⟩
 ·unfold oy at hc
  split at hc
  ·cases hc;exact .inr ⟨_,_,_,rfl⟩
  ·cases hc
theorem xq (hn:c.n=n) (hO:gE ops bs) (hL:o_ P n ops ops.toList=some L) {dr:List Nat} {K:IX→St→Prop} :
  ∀(t:List (Nat×List aS)) (i:Nat) (l:List aS) (ic0 ic:bE) (st:St) (a:Act) (w:World) (listed:Array Bool),vY bs ops.size i l t→L.drop i=l→rl bs dr t=some ic0→cT ic=ic0→ii P ic st K→bZ c st a w →
   listed.size=ops.size→(∀j,j<ops.size→(listed.getD j true=false↔i≤j))→wpAny P .any ops (LQ c K) l.length listed a w:=by
 intro t
 induction t with
 | nil =>
  intro i l ic0 ic st a w listed hok hd hc he hi hst hsz hl
  obtain rfl:l=[]:=hok
  simp only [rl,cq] at hc
  subst hc
  rw [eR he (.inl ⟨_,_,rfl⟩)] at hi
  simp only [ii,fj] at hi
  obtain ⟨hlen,_⟩:=kj hL
  simp only [iX] at hlen
  have hsize:ops.size≤i:=by
   have:=congrArg List.length hd
   simp only [lW,hlen,ay] at this
   omega
  refine ⟨List.eq_nil_iff_forall_not_mem.2 fun j hj=>?_,⟨_,hi,bZ.dels _ hst⟩⟩
  obtain ⟨h1,h2,_⟩:=eY.1 hj
  have:=(hl j h1).1 h2
  omega
 | cons p t ih =>
  intro i l ic0 ic st a w listed hok hd hc he hi hst hsz hl
  obtain ⟨k,s⟩:=p
  obtain ⟨rfl,hne,r,rfl,hok',hcut⟩:=hok
  rw [aJ]
  cases t with
  | nil =>
   obtain rfl:r=[]:=hok'
   simp only [rl] at hc
   have he':=rM he (pa hc)
   refine nG (Q:=LQ c K) hn hO hL hd hne hc he' hi hst hsz hl (fun h=>absurd rfl h) (fun st' a' w' listed' h1 h2 h3 h4=>?_)
   obtain ⟨hlen,_⟩:=kj hL
   simp only [iX] at hlen
   have hsize:ops.size≤k+s.length:=by
    have:=congrArg List.length hd
    simp only [lW,hlen,aJ,ay] at this
    omega
   refine ⟨List.eq_nil_iff_forall_not_mem.2 fun j hj=>?_,⟨_,h1,h2⟩⟩
   obtain ⟨g1,g2,_⟩:=eY.1 hj
   have:=(h4 j g1).1 g2
   omega
  | cons q t =>
   simp only [rl] at hc
   split at hc
   case h_2=>cases hc
   rename_i x y hx hy
   cases hc
   obtain ⟨x',y',e1,e2,e3⟩:=rN he
   have e4:=rM e1 (pa hx)
   have hd':L.drop (k+s.length)=r:=by rw [← List.drop_drop,hd,List.drop_left]
   rcases e3 with rfl | rfl
   ·refine nG (Q:=LQ c K) hn hO hL hd hne hx e4 hi hst hsz hl (fun _=>hcut (by simp)) (fun st' a' w' listed' h1 h2 h3 h4=>?_)
    exact ih (k+s.length) r y y' st' a' w' listed' hok' hd' hy e2 h1 h2 h3 h4
   ·refine nG (Q:=LQ c K) hn hO hL hd hne hx e4 hi hst hsz hl (fun _=>hcut (by simp)) (fun st' a' w' listed' h1 h2 h3 h4=>?_)
    obtain ⟨s'',hwk,hk⟩:=h1
    exact ih (k+s.length) r y y' s'' a' w' listed' hok' hd' hy e2 hk (hwk _ _ _ h2) h3 h4
end
theorem wk {ops:Array Oper} {dr:List Nat→List Nat} {ic0 ic:bE} {id:Nat} {s:St} {K:IX→St→Prop} {a:Act} {w:World} (hm:P.follows .mixedOrders=true) (hc:Do P n ops dr=some ic0) (he:cT ic=ic0) (hn:c.n=n) (hi:ii P ic s K) (hs:bZ c s a w) :
  (Code.region id ops true).wp P (LQ c K) a w:=by
 unfold Do at hc
 split at hc
 ·cases hc
 rename_i l hl
 split at hc
 case isFalse=>cases hc
 rename_i c1
 obtain ⟨hlen,_⟩:=kj hl
 simp only [iX] at hlen
 refine wp_region_any hm ?_
 obtain ⟨bl,hs⟩:=hs
 have h1:=xq (K:=K) hn (w9 c1) hl (vJ (Dk ops.toList []) 0 l).1 0 l ic0 ic s a { w with drawn:=w.drawn+1 } (Array.replicate ops.size false) (y9 _ ops.size l 0 (by omega)).1 rfl hc he hi ⟨bl,hs.world rfl rfl rfl⟩ (by simp) (fun j hj=>by simp [kL,hj])
 rw [hlen] at h1
 exact h1
theorem wj (hm:P.follows .mixedOrders=true) (hn:c.n=n) {sh:List (List Nat)}:∀(x:Code) (ic0:bE),comp P n sh x=some ic0→∀(ic:bE),cT ic=ic0→∀(s:St) (K:IX→St→Prop) (a:Act) (w:World),ii P ic s K→bZ c s a w→x.wp P (LQ c K) a w:=by
 intro x
 induction x with
 | skip=>intro ic0 hc ic he s K a w hi hs;simp only [comp,cq] at hc;subst hc;rw [eR he (by simp)] at hi;exact wp_skip ⟨s,hi,hs⟩
 | ret=>intro ic0 hc ic he s K a w hi hs;simp only [comp,cq] at hc;subst hc;rw [eR he (by simp)] at hi;exact wp_ret ⟨s,hi,hs⟩
 | exit id=>intro ic0 hc ic he s K a w hi hs;simp only [comp,cq] at hc;subst hc;rw [eR he (by simp)] at hi;exact wp_exit ⟨s,hi,hs⟩
 | label l=>intro ic0 hc ic he s K a w hi hs;simp only [comp,cq] at hc;subst hc;rw [eR he (by simp)] at hi;exact wp_label ⟨s,hi,hs⟩
 | seq x y ihx ihy =>
  intro ic0 hc ic he s K a w hi hs
  simp only [comp] at hc
  split at hc
  case h_2=>cases hc
  rename_i ix iy h1 h2
  cases hc
  obtain ⟨x',y',e1,e2,e3⟩:=rN he
  rcases e3 with rfl | rfl
  ·refine wp_seq (Code.wp_mono (fun e a' w' hq=>?_) (ihx ix h1 x' e1 s _ a w hi hs))
   cases e with
   | normal=>obtain ⟨s',hk,hs'⟩:=hq;exact ihy iy h2 y' e2 s' K a' w' hk hs'
   | _=>exact hq
  ·refine wp_seq (Code.wp_mono (fun e a' w' hq=>?_) (ihx ix h1 x' e1 s _ a w hi hs))
   cases e with
   | normal=>obtain ⟨s',⟨s'',hwk,hk⟩,hs'⟩:=hq;exact ihy iy h2 y' e2 s'' K a' w' hk (hwk _ _ _ hs')
   | _=>exact hq
 | cond v x y ihx ihy =>
  intro ic0 hc ic he s K a w hi hs
  simp only [comp] at hc
  split at hc
  case h_2=>cases hc
  rename_i iv ix iy h0 h1 h2
  cases hc
  obtain ⟨x',y',e1,e2,rfl⟩:=wu he
  simp only [ii] at hi
  split at hi
  case h_2=>exact hi.elim
  rename_i b hv
  obtain ⟨bl,hsb⟩:=hs
  have hvr:=aO hsb h0
  rw [hv] at hvr
  have href:∀q,b=q→bZ c (refine iv q s) a w:=fun q hq=>by
   cases iv with
   | c y=>exact ⟨bl,hsb⟩
   | s k=>exact ⟨bl,hsb.congr (fun j=>by rw [show refine (.s k) q s=s.put (some k) (.bool q) from rfl,lK hv hq]) (fun j=>rfl)⟩
  refine wp_cond hvr.bool ?_
  cases b with
  | true=>exact ihx ix h1 x' e1 _ K a w (hi.1 rfl) (href true rfl)
  | false=>exact ihy iy h2 y' e2 _ K a w (hi.2 rfl) (href false rfl)
 | block id x ih =>
  intro ic0 hc ic he s K a w hi hs
  simp only [comp,c9] at hc
  obtain ⟨ix,h1,rfl⟩:=hc
  obtain ⟨x',e1,rfl⟩:=uK he
  refine wp_block (Code.wp_mono (fun e a' w' hq=>?_) (ih ix h1 x' e1 s _ a w hi hs))
  cases e with
  | exit j =>
   obtain ⟨s',hk,hs'⟩:=hq
   simp only at hk
   simp only [Exit.inBlock]
   split
   ·rename_i hj;rw [aK hj] at hk;exact ⟨s',hk,hs'⟩
   ·rename_i hj;rw [aD hj] at hk;exact ⟨s',hk,hs'⟩
  | _=>exact hq
 | loop x ih =>
  intro ic0 hc ic he s K a w hi hs
  simp only [comp,c9] at hc
  obtain ⟨ix,h1,rfl⟩:=hc
  obtain ⟨x',e1,rfl⟩:=ww he
  obtain ⟨I,⟨m,s0,h0,hwk⟩,hstep⟩:=hi
  refine A_ (fun m a w=>∃s,I m s∧bZ c s a w) ⟨m,s0,h0,hwk _ _ _ hs⟩ (fun m a w ⟨s,hI,hs⟩=>?_)
  refine Code.wp_mono (fun e a' w' hq=>?_) (ih ix h1 x' e1 s _ a w (hstep m s hI) hs)
  cases e with
  | normal =>
   obtain ⟨s',⟨m',s'',h2,h3,h4⟩,hs'⟩:=hq
   exact ⟨m',h2,s'',h3,h4 _ _ _ hs'⟩
  | _=>exact hq
 | scope x ih =>
  intro ic0 hc ic he s K a w hi hs
  simp only [comp] at hc
  refine wp_scope_straight (Code.wp_mono (fun e a' w' hq=>?_) (ih ic0 hc ic he s K a w hi hs))
  cases e<;>exact hq
 | region id ops d =>
  intro ic0 hc ic he s K a w hi hs
  cases d with
  | true =>
   simp only [comp] at hc
   exact wk hm hc he hn hi hs
  | false =>
   simp only [comp] at hc
   split at hc
   case h_2=>cases hc
   rename_i l hl
   cases hc
   rw [eR he (.inl ⟨_,_,rfl⟩)] at hi
   simp only [ii] at hi
   exact wp_region_list (pA hn _ ops.toList l hl s _ a w hi hs (fun s' a' w' hk hs'=>⟨_,hk,bZ.dels _ hs'⟩))
 | rangeFunc f ps as b=>intro ic0 hc;simp [comp] at hc
 | goto l=>intro ic0 hc;simp [comp] at hc
 | refuse y=>intro ic0 hc;simp [comp] at hc
end
def vl:AV→Bool
 | .any=>false
 | .tup _=>false
 | _=>true
def yl (s:St):iL→Option AV
 | .tmp k=>if vl (get s.env k) then some (get s.env k) else none
 | .cell k n=>match kf n (get s.env k) (ak s.heap) with
  | some x=>if vl x then some x else none
  | none=>none
def uV (s:St):List iL→Option (List AV)
 | []=>some []
 | x :: r=>match yl s x,uV s r with
  | some y,some l=>some (y :: l)
  | _,_=>none
def ku (l:List iL) (s:St):Option AV :=
 match uV s l with
 | some [x]=>some x
 | some l=>some (.tup l)
 | none=>none
def iN:Nat→List AV→List (Nat×AV)
 | _,[]=>[]
 | i,x :: r=>(i,x) :: iN (i+1) r
theorem nV (E:List (Nat×AV)):∀(l:List AV) (i k:Nat),get (iN i l++E) k=if i≤k then (match l[k - i]? with | some x=>x | none=>get E k) else get E k
 | [],i,k=>by simp [iN]
 | x :: r,i,k=>by
  simp only [iN,kM,get]
  by_cases h:i=k
  ·subst h;simp
  ·rw [aD h,nV E r (i+1) k]
   by_cases h2:i+1≤k
   ·rw [aK h2,aK (by omega),show k - i=(k - (i+1))+1 by omega,List.getElem?_cons_succ]
   ·rw [aD h2]
    by_cases h3:i≤k
    ·omega
    ·rw [aD h3]
theorem yh:∀{l:List (Nat×AV)} {k:Nat},get l k = .any∨(k,get l k)∈l
 | [],k=>.inl rfl
 | (j,x) :: r,k=>by
  simp only [get]
  split
  ·rename_i h;subst h;exact .inr (by simp)
  ·rcases yh (l:=r) (k:=k) with h | h
   ·exact .inl h
   ·exact .inr (by simp [h])
section
variable {P:Program} [bU P] {c:li} [CT c P] {bl:Nat→Option Nat} {a:Act} {w:World} {s:St}
theorem JA {M:Nat→Prop} {v:Value} {x:AV} (hx:vl x=true) (hv:ba bl M w v x):dw bl M w v x:=by
 cases x<;>first | (simp [vl] at hx;done) | exact hv
def Vv (tmps:Array Value):ResultVar→Sem Value
 | .tmp t=>Pure.pure (tmps.getD t undef)
 | .cell q t=>do loadVar t (← asAddr (tmps.getD q undef))
theorem xg (fn:Func) (tmps:Array Value):results fn tmps=(do let vs ← fn.results.mapM (Vv tmps);Pure.pure (if h:vs.size=1 then vs[0] else .tuple vs)):=by
 unfold results
 congr 1
theorem pB (hs:aM c bl (get s.env) (ak s.heap) a w):∀(rv:List ResultVar) (l:List iL),uz P rv=some l→∀(xs:List AV),uV s l=some xs →
  ∃vs:List Value,(rv.mapM (Vv a.tmps)).run P w = .ok vs w∧aU (dw bl (bx bl c.MF (ak s.heap)) w) vs xs
 | [],l,hc,xs,hx=>by
  simp only [uz,cq] at hc
  subst hc
  simp only [uV,cq] at hx
  subst hx
  exact ⟨[],by simp,trivial⟩
 | .tmp t :: r,l,hc,xs,hx=>by
  simp only [uz] at hc
  split at hc
  case isFalse=>cases hc
  rename_i hlo
  simp only [c9] at hc
  obtain ⟨l',h1,rfl⟩:=hc
  simp only [uV] at hx
  split at hx
  case h_2=>cases hx
  rename_i y l2 h2 h3
  cases hx
  simp only [yl] at h2
  split at h2
  case isFalse=>cases h2
  rename_i hok
  cases h2
  obtain ⟨vs,h4,h5⟩:=pB hs r l' h1 l2 h3
  refine ⟨a.tmps.getD t undef :: vs,?_,JA hok (by rw [← vL hlo];exact hs.env t),h5⟩
  simp only [List.mapM_cons,Vv,Sem.run_bind,Sem.run_pure,Result.andThen_ok,h4]
 | .cell q t :: r,l,hc,xs,hx=>by
  simp only [uz] at hc
  split at hc
  case h_2=>cases hc
  rename_i n l' h0 h1
  split at hc
  case isFalse=>cases hc
  rename_i hlo
  cases hc
  simp only [uV] at hx
  split at hx
  case h_2=>cases hx
  rename_i y l2 h2 h3
  cases hx
  simp only [yl] at h2
  split at h2
  case h_2=>cases h2
  rename_i y' hld
  split at h2
  case isFalse=>cases h2
  rename_i hok
  cases h2
  obtain ⟨vs,h4,h5⟩:=pB hs r l' h1 l2 h3
  have hq:=hs.env q
  rw [vL hlo] at hq
  have fin:∀{b off:Nat} {cells:List AV},a.tmps.getD q undef = .pointer (some ⟨b,off,none⟩)→du bl (bx bl c.MF (ak s.heap)) w b off cells→pE n cells=some y →
    ∃vs:List Value,((ResultVar.cell q t :: r).mapM (Vv a.tmps)).run P w = .ok vs w∧aU (dw bl (bx bl c.MF (ak s.heap)) w) vs (y :: l2):=fun hv hcl hl=>by
   obtain ⟨u,h6,h7⟩:=iJ h0 hcl hl
   refine ⟨u :: vs,?_,h7,h5⟩
   simp only [List.mapM_cons,Vv,Sem.run_bind,hv,asAddr,Sem.run_pure,Result.andThen_ok,h6,h4]
  cases hval:get s.env q<;>rw [hval] at hld hq<;>simp only [kf] at hld<;>try cases hld
  case ip cells =>
   obtain ⟨b,off,h6,h7⟩:=du.of_ip hq
   exact fin h6 h7 hld
  case mp id st row off =>
   split at hld
   case h_2=>cases hld
   rename_i ob hob
   split at hld
   case isFalse=>cases hld
   rename_i hst
   split at hld
   case h_2=>cases hld
   rename_i rr hr
   obtain ⟨b,hb,h6⟩:=hq.mp
   rw [← hst] at h6
   exact fin h6 ((du.of_obj hs hob hb hr).drop off) hld
theorem Es {fn:Func} {l:List iL} {r:AV} (hs:aM c bl (get s.env) (ak s.heap) a w) (hc:uz P fn.results.toList=some l) (hr:ku l s=some r) :
  ∃v,(results fn a.tmps).run P w = .ok v w∧ba bl (bx bl c.MF (ak s.heap)) w v r:=by
 unfold ku at hr
 cases hx:uV s l with
 | none=>rw [hx] at hr;cases hr
 | some xs =>
  obtain ⟨vs,h1,h2⟩:=pB hs _ l hc xs hx
  have hrun:∀v,v=(if h:vs.toArray.size=1 then vs.toArray[0] else .tuple vs.toArray)→(results fn a.tmps).run P w = .ok v w:=fun v hv=>by
   subst hv
   rw [xg,Sem.run_bind,Array.mapM_eq_mapM_toList,Sem.run_map,h1]
   rfl
  rw [hx] at hr
  cases xs with
  | nil =>
   cases hr
   cases vs with
   | cons=>exact h2.elim
   | nil=>exact ⟨_,hrun _ rfl,[],by simp,trivial⟩
  | cons x xs =>
   cases xs with
   | nil =>
    cases hr
    cases vs with
    | nil=>exact h2.elim
    | cons v vs =>
     cases vs with
     | cons=>exact h2.2.elim
     | nil=>exact ⟨v,hrun _ (by simp),h2.1.toV⟩
   | cons y ys =>
    cases hr
    have hl:=h2.length
    refine ⟨_,hrun _ rfl,vs,?_,h2⟩
    rw [dif_neg (by simp [hl])]
def sv (l:List iL) (Post:AV→List (Nat×ao)→Prop) (e:IX) (s:St):Prop :=
 (∀j,e≠.ext j)∧∃s1,Wk s s1∧∃fs r σ',ku l (frzs fs s1)=some r∧(∀i o,ak σ' i=some o→ak (frzs fs s1).heap i=some o)∧j9 r σ'∧Post r σ'
theorem wz {f:FuncId} {F:aH} {ic:bE} {args:List AV} {σ:List (Nat×ao)} {Post:AV→List (Nat×ao)→Prop} (E:List (Nat×AV)) (hE:∀p∈E,p∈(bU.T P).env) (hm:P.follows .mixedOrders=true) (hf:ax P f=some F) (hic:cT ic=F.body) (hlen:args.length=F.np)
  (hi:ii P ic ⟨iN 0 args++E,σ⟩ (sv F.res Post)):br P f args σ (fun id=>1000≤id∧id<2000) Post:=by
 unfold ax at hf
 split at hf
 ·cases hf
 rename_i fn hfn
 split at hf
 ·cases hf
 rename_i body hbody
 split at hf
 case h_2=>cases hf
 rename_i b rs hb hrs
 split at hf
 case isFalse=>cases hf
 rename_i hnp
 cases hf
 intro bl MF w cargs hTH hTW hH hMF hargs
 have hal:cargs.length=fn.params.size+fn.nfree:=by rw [hargs.length];exact hlen
 let c:li:=⟨w,bl,jw bl σ,MF,fn.ntmps,bU.T P,hTH,fun b hb ⟨id,o,h1,h2⟩=>hTW b hb (.inr ⟨id,o,h1,h2⟩),fun b hb hm=>hTW b hb (.inl hm),hnp.2⟩
 haveI:CT c P:=⟨rfl⟩
 have hs:aM c bl (get (iN 0 args++E)) (ak σ) ⟨cargs.toArray++Array.replicate (fn.ntmps - cargs.toArray.size) undef,[]⟩ w:=by
  refine ⟨rfl,by simp [c];omega,fun k=>?_,hH,zh.refl _ _,fun id o q h1 h2=>.inr ⟨id,o,h1,h2⟩,fun _ _ _=>rfl,hMF⟩
  rw [nV]
  simp only [cE,bF,Nat.sub_zero]
  cases hk:args[k]? with
  | none =>
   simp only
   rcases yh (l:=E) (k:=k) with hg | hg
   ·rw [hg];trivial
   ·obtain ⟨h1,h2⟩:=(bU.T P).rel w (bx bl MF (ak σ)) hTH hTW _ (hE _ hg)
    have e:tv ⟨cargs.toArray++Array.replicate (fn.ntmps - cargs.toArray.size) undef,[]⟩ k = .pointer (some ⟨k - 1000000,0,none⟩):=aD (by simp only at h1;omega)
    rw [e]
    exact h2.toC.toG.toV
  | some x =>
   obtain ⟨v,hv,hr⟩:=hargs.get hk
   have hlt:=(eV.1 hv).1
   have:(cargs.toArray++Array.replicate (fn.ntmps - cargs.toArray.size) undef).getD k undef=v:=by
    rw [kL,Array.getElem?_append_left (by simpa using hlt)]
    simp [hv]
   rw [vL (by have:=hnp.2;omega),this]
   exact hr
 refine calls_of_wp hfn hbody ?_
 refine Code.wp_mono (fun e a' w' hq=>?_) (wj (c:=c) hm rfl body b hb ic hic ⟨iN 0 args++E,σ⟩ _ _ w hi ⟨bl,hs⟩)
 have fin:∀{s':St} {ex:IX},sv rs Post ex s'→bZ c s' a' w'→a'.defers=[]∧∃v,(results fn a'.tmps).run P w' = .ok v w'∧∃u r σ' bl',Ending.returned v = .returned u∧Post r σ'∧j9 r σ'∧vV bl' (bx bl' MF (ak σ')) MF w' (ak σ')∧ba bl' (bx bl' MF (ak σ')) w' u r ∧
   zh (jw bl σ) w w'∧(∀id o b,ak σ' id=some o→bl' id=some b→w.heap.size≤b∨jw bl σ b)∧∀id,(1000≤id∧id<2000)→bl' id=bl id:=by
  rintro s0 ex ⟨_,s',hwk,fs,r,σ',h1,h2,h3,h4⟩ hs0
  obtain ⟨bl',hs2⟩:=bZ.frzs fs (hwk c a' w' hs0)
  obtain ⟨v,hv1,hv2⟩:=Es hs2 hrs h1
  have hs3:aM c bl' (get (frzs fs s').env) (ak σ') a' w':=hs2.weaken (fun _=>.inr rfl) h2
  refine ⟨hs2.defers,v,hv1,v,r,σ',bl',rfl,h4,h3,hs3.heap,?_,hs3.step,hs3.own,fun id hid=>hs3.stab id hid.1 hid.2⟩
  refine hv2.tr ⟨fun q hq _=>⟨fun hm2=>hq ?_,rfl⟩,fun _ c1 _ fr hb=>⟨c1,fr,hb,rfl⟩⟩ (fun _ _=>rfl)
  rcases hm2 with hm2 | ⟨id,o,h5,h6⟩
  ·exact .inl hm2
  ·exact .inr ⟨id,o,h2 id o h5,h6⟩
 cases e with
 | normal=>obtain ⟨s',hk,hs'⟩:=hq;exact fin hk hs'
 | ret=>obtain ⟨s',hk,hs'⟩:=hq;exact fin hk hs'
 | exit id=>obtain ⟨s',hk,hs'⟩:=hq;exact absurd rfl (hk.1 id)
 | _=>exact hq.elim
theorem aT {f:FuncId} {F:aH} {ic:bE} {args:List AV} {σ:List (Nat×ao)} {Post:AV→List (Nat×ao)→Prop} (hm:P.follows .mixedOrders=true) (hf:ax P f=some F) (hic:cT ic=F.body) (hlen:args.length=F.np)
  (hi:ii P ic ⟨iN 0 args,σ⟩ (sv F.res Post)):br P f args σ (fun id=>1000≤id∧id<2000) Post :=
 wz [] (fun p hp=>by cases hp) hm hf hic hlen (by rw [gx];exact hi)
theorem br.mono {f:FuncId} {args:List AV} {σ:List (Nat×ao)} {Sb Sb':Nat→Prop} {Post Post':AV→List (Nat×ao)→Prop} (h:br P f args σ Sb Post) (hs:∀id,Sb' id→Sb id) (hp:∀r σ',Post r σ'→Post' r σ'):br P f args σ Sb' Post' :=
 fun bl MF w cargs t1 t2 h1 h2 h3=>(h bl MF w cargs t1 t2 h1 h2 h3).mono fun _ _ ⟨v,r,σ',bl',q1,q2,q3,q4,q5,q6,q7,q8⟩=>⟨v,r,σ',bl',q1,hp _ _ q2,q3,q4,q5,q6,q7,fun id hid=>q8 id (hs id hid)⟩
def oT (l:List iL) (r:AV) (e:IX) (s:St):Prop:=(∀j,e≠.ext j)∧∃s1,Wk s s1∧∃fs,ku l (frzs fs s1)=some r∧aP r=[]
theorem wF {f:FuncId} (hs:decide (P.funcs.size≤4000000)=true) (h:ek P f=true):f<4000000:=by
 have h1:f<P.funcs.size:=by
  unfold ek at h
  by_cases q:f<P.funcs.size
  ·exact q
  ·rw [Array.getElem?_eq_none (Nat.le_of_not_lt q)] at h
   cases h
 have h2:=of_decide_eq_true hs
 exact Nat.lt_of_lt_of_le h1 h2
theorem uX:∀(x:bE) (s:St) (K K':IX→St→Prop),(∀e s,K e s→K' e s)→ii P x s K→ii P x s K':=by
 have icallm0:∀{f:FuncId} {args:List AV} {d:Option Nat} {s:St} {K K':St→Prop},(∀s,K s→K' s)→ni P f args d s K→ni P f args d s K':=fun {f args d s K K'} hK h=>by
  rcases h with ⟨args',r,b,h1,h2,h3,h4,h5⟩ | ⟨σ0,Sb,Post,ks,h1,h2,h3,h4⟩
  ·exact .inl ⟨args',r,b,h1,h2,h3,h4,hK _ h5⟩
  ·exact .inr ⟨σ0,Sb,Post,ks,h1,h2,h3,fun r σ' hp=>by obtain ⟨s',q1,q2,q3⟩:=h4 r σ' hp;exact ⟨s',q1,q2,hK _ q3⟩⟩
 have icallm:∀{f:FuncId} {args:List AV} {d:Option Nat} {s:St} {K K':St→Prop},(∀s,K s→K' s)→cW P f args d s K→cW P f args d s K':=fun {f args d s K K'} hK h=>h.imp (icallm0 hK) fun h=>h.imp (fun ⟨fs,h⟩=>⟨fs,icallm0 hK h⟩) fun ⟨s',a',hw,h⟩=>⟨s',a',hw,icallm0 hK h⟩
 have iopm:∀{o:aS} {s:St} {K K':St→Prop},(∀s,K s→K' s)→iA P o s K→iA P o s K':=fun {o s K K'} hK h=>by
  unfold iA at h ⊢
  split at h
  ·exact icallm hK h
  ·split at h
   ·split at h
    ·rename_i hlt;rw [aK hlt];exact ⟨h.1,icallm hK h.2⟩
    ·rename_i hlt;rw [aD hlt];exact ⟨h.1,icallm hK h.2⟩
   ·exact h
  ·refine ⟨h.1,?_⟩
   have h2:=h.2
   split at h2
   ·exact hK _ h2
   ·obtain ⟨s',hw,h3⟩:=h2
    refine ⟨s',hw,?_⟩
    unfold vn at h3 ⊢
    split at h3
    ·exact hK _ h3
    ·exact h3.elim
  ·split at h
   ·exact ⟨hK _ h.1,hK _ h.2⟩
   ·split at h
    ·exact hK _ h
    ·exact h.elim
  ·by_cases ha:dx o.op=true
   ·rw [aK ha] at h ⊢
    refine ⟨h.1,?_⟩
    have h2:=h.2
    split at h2
    ·exact hK _ h2
    ·exact h2.elim
   ·rw [aD ha] at h ⊢
    split at h
    ·exact hK _ h
    ·exact h
 have iopsm:∀(l:List aS) (s:St) (K K':St→Prop),(∀s,K s→K' s)→fj P l s K→fj P l s K':=by
  intro l
  induction l with
  | nil=>intro s K K' hK h;exact hK s h
  | cons o r ih =>
   intro s K K' hK h
   unfold fj at h ⊢
   split at h
   ·exact iopm (fun s' hs'=>ih s' K K' hK hs') h
   ·split at h
    ·exact ⟨fun ht=>iopm (fun s' hs'=>ih s' K K' hK hs') (h.1 ht),fun ht=>ih _ K K' hK (h.2 ht)⟩
    ·exact ih _ K K' hK h
    ·exact h
 have idopm:∀{al:List (Nat×Nat)} {i:Nat} {o:aR} {hist:List HI} {s:St} {K K':List HI→St→Prop},(∀x s,K x s→K' x s)→fH P al i o hist s K→fH P al i o hist s K':=fun {al i o hist s K K'} hK h=>by
  unfold fH at h ⊢
  split at h
  ·rcases h with ⟨args',r,b,h1,h2,h3,h4,h5,h6,h7,h8⟩ | ⟨k,ob,ob',Sb,r,h1,h2,h3,h4,h5,h6,h7,h8,h9⟩
   ·exact .inl ⟨args',r,b,h1,h2,h3,h4,h5,h6,h7,hK _ _ h8⟩
   ·exact .inr ⟨k,ob,ob',Sb,r,h1,h2,h3,h4,h5,h6,h7,h8,hK _ _ h9⟩
  ·exact h
  ·rcases h with h | ⟨rows,h1,h2,h3,h4,h5⟩
   ·refine .inl ?_
    split at h
    ·exact ⟨h.1,h.2.1,h.2.2.1,hK _ _ h.2.2.2⟩
    ·exact h
   ·exact .inr ⟨rows,h1,h2,h3,h4,hK _ _ h5⟩
  ·split at h
   ·exact ⟨h.1,h.2.1,h.2.2.1,hK _ _ h.2.2.2⟩
   ·exact h
 have idopsHm:∀{al:List (Nat×Nat)} (l:List aR) (i:Nat) (hist:List HI) (s:St) (K K':List HI→St→Prop),(∀x s,K x s→K' x s)→eG P al i l hist s K→eG P al i l hist s K':=by
  intro al l
  induction l with
  | nil=>intro i hist s K K' hK h;exact hK _ s h
  | cons o r ih =>
   intro i hist s K K' hK h
   unfold eG at h ⊢
   split at h
   ·exact idopm (fun x s' hs'=>ih (i+1) x s' K K' hK hs') h
   ·split at h
    ·exact ⟨fun ht=>idopm (fun x s' hs'=>ih (i+1) x s' K K' hK hs') (h.1 ht),fun ht=>ih _ _ _ K K' hK (h.2 ht)⟩
    ·exact ih _ _ _ K K' hK h
    ·exact h
 have idopsm:∀{al:List (Nat×Nat)} (l:List aR) (i:Nat) (hist:List HI) (s:St) (K K':St→Prop),(∀s,K s→K' s)→gz P al i l hist s K→gz P al i l hist s K':=fun l i hist s K K' hK h=>idopsHm l i hist s _ _ (fun _ s h=>hK s h) h
 intro x
 induction x with
 | skip=>intro s K K' hK h;exact hK _ _ h
 | ret=>intro s K K' hK h;exact hK _ _ h
 | exit id=>intro s K K' hK h;exact hK _ _ h
 | seq x y ihx ihy =>
  intro s K K' hK h
  refine ihx s _ _ (fun e s' hh=>?_) h
  cases e with
  | nrm=>exact ihy s' K K' hK hh
  | _=>exact hK _ _ hh
 | cut x y ihx ihy =>
  intro s K K' hK h
  refine ihx s _ _ (fun e s' hh=>?_) h
  cases e with
  | nrm=>obtain ⟨s'',h1,h2⟩:=hh;exact ⟨s'',h1,ihy s'' K K' hK h2⟩
  | _=>exact hK _ _ hh
 | cond v t e iht ihe =>
  intro s K K' hK h
  unfold ii at h ⊢
  split at h
  ·exact ⟨fun hb=>iht _ K K' hK (h.1 hb),fun hb=>ihe _ K K' hK (h.2 hb)⟩
  ·exact h
 | block id x ih =>
  intro s K K' hK h
  refine ih s _ _ (fun e s' hh=>?_) h
  cases e with
  | ext j =>
   simp only at hh ⊢
   split
   ·rename_i hj;rw [aK hj] at hh;exact hK _ _ hh
   ·rename_i hj;rw [aD hj] at hh;exact hK _ _ hh
  | _=>exact hK _ _ hh
 | loop x ih =>
  intro s K K' hK h
  obtain ⟨I,h0,h1⟩:=h
  refine ⟨I,h0,fun n s hI=>ih s _ _ (fun e s' hh=>?_) (h1 n s hI)⟩
  cases e with
  | nrm=>exact hh
  | _=>exact hK _ _ hh
 | reg ops dr=>intro s K K' hK h;exact iopsm ops s _ _ (fun s' hs'=>hK _ _ hs') h
 | draw ops al dr=>intro s K K' hK h;exact idopsm ops 0 [] _ _ _ (fun s' hs'=>hK _ _ hs') h
 | wild ops al dr =>
  intro s K K' hK h
  refine idopsHm _ _ _ _ _ _ (fun hist s1 hh=>?_) h
  split at hh
  ·unfold vP at hh ⊢
   split at hh
   ·refine ⟨hh.1,?_⟩
    replace hh:=hh.2
    split at hh
    ·exact ⟨hh.1,hh.2.1,hh.2.2.1,hh.2.2.2.1,hK _ _ hh.2.2.2.2⟩
    ·exact hh
   ·exact hh
  ·exact hh
 | free ops al dr =>
  intro s K K' hK h
  have conjm:∀{α:Type} {F F':α→Prop} (l:List α),(∀x,F x→F' x)→uB l F→uB l F':=by
   intro α F F' l hF
   induction l with
   | nil=>exact fun _=>trivial
   | cons x l ih =>
    cases l with
    | nil=>exact hF x
    | cons y l=>exact fun h=>⟨hF x h.1,ih h.2⟩
  have frm:∀(f:Nat) (R:List (Nat×aR)) (s:St) (K K':St→Prop),(∀s,K s→K' s)→rY P f R s K→rY P f R s K':=by
   intro f
   induction f with
   | zero=>intro R s K K' hK h;exact hK s h
   | succ f ih=>intro R s K K' hK h;exact conjm _ (fun t ht=>iopsm _ _ _ _ (fun s' hs'=>ih _ s' K K' hK hs') ht) h
  exact frm _ _ _ _ _ (fun s' hs'=>hK _ _ hs') h
theorem ab {f:FuncId} {F:aH} {ic:bE} {args:List AV} {r:AV} (hm:P.follows .mixedOrders=true) (hf:ax P f=some F) (hic:cT ic=F.body) (hlen:args.length=F.np) (hi:ii P ic ⟨iN 0 args,[]⟩ (oT F.res r)):ae P f args r:=by
 refine (aT (Post:=fun r' σ'=>r'=r∧σ'=[]) hm hf hic hlen (uX _ _ _ _ (fun e s ⟨h1,s1,hw,fs,h2,h3⟩=>⟨h1,s1,hw,fs,r,[],h2,fun i o hi=>by simp [ak] at hi,⟨(fun i hi=>by rw [h3] at hi;cases hi),(fun p hp=>by cases hp)⟩,rfl,rfl⟩) hi)).mono (fun _ h=>h.elim) (fun _ _ h=>h)
end
def mv (d j:Nat):aS:=⟨some d,.mov (.s j),none⟩
def mt (d j k:Nat):aS:=⟨some d,.mov (.s j),some (k,true)⟩
def mf (d j k:Nat):aS:=⟨some d,.mov (.s j),some (k,false)⟩
def o0 (d:Nat) (o:ik):aS:=⟨some d,o,none⟩
def ot (d k:Nat) (o:ik):aS:=⟨some d,o,some (k,true)⟩
def oF (d k:Nat) (o:ik):aS:=⟨some d,o,some (k,false)⟩
theorem YB (d j:Nat):mv d j =⟨some d,.mov (.s j),none⟩:=rfl
theorem YA (d j k:Nat):mt d j k =⟨some d,.mov (.s j),some (k,true)⟩:=rfl
theorem Yw (d j k:Nat):mf d j k =⟨some d,.mov (.s j),some (k,false)⟩:=rfl
theorem ZR (d:Nat) (o:ik):o0 d o =⟨some d,o,none⟩:=rfl
theorem ZW (d k:Nat) (o:ik):ot d k o =⟨some d,o,some (k,true)⟩:=rfl
theorem ZS (d k:Nat) (o:ik):oF d k o =⟨some d,o,some (k,false)⟩:=rfl
def lo (d j:Nat):aS:=o0 d (.load none (.s j))
theorem Yt (d j:Nat):lo d j=o0 d (.load none (.s j)):=rfl
def lS (d n j:Nat):aS:=o0 d (.load (some n) (.s j))
theorem Yp (d n j:Nat):lS d n j=o0 d (.load (some n) (.s j)):=rfl
def fa (d n j:Nat):aS:=o0 d (.fadr n (.s j))
theorem Yj (d n j:Nat):fa d n j=o0 d (.fadr n (.s j)):=rfl
def nk (d j:Nat):aS:=o0 d (.nchk (.s j))
theorem ZP (d j:Nat):nk d j=o0 d (.nchk (.s j)):=rfl
def ln (d j:Nat):aS:=o0 d (.len (.s j))
theorem Ys (d j:Nat):ln d j=o0 d (.len (.s j)):=rfl
def xt (d j k:Nat):aS:=o0 d (.ext (.s j) k)
theorem aai (d j k:Nat):xt d j k=o0 d (.ext (.s j) k):=rfl
def ia (d n j k:Nat):aS:=o0 d (.iadr n (.s j) (.s k))
theorem Yn (d n j k:Nat):ia d n j k=o0 d (.iadr n (.s j) (.s k)):=rfl
def mI (d:Nat) (n:Int):aS:=o0 d (.mov (.c (.int .i64 n)))
theorem Yv (d:Nat) (n:Int):mI d n=o0 d (.mov (.c (.int .i64 n))):=rfl
def mB (d:Nat) (b:Bool):aS:=o0 d (.mov (.c (.bool b)))
theorem Yu (d:Nat) (b:Bool):mB d b=o0 d (.mov (.c (.bool b))):=rfl
def bS (d:Nat) (o:BinOp) (j k:Nat):aS:=o0 d (.bin o (.s j) (.s k))
theorem WA (d:Nat) (o:BinOp) (j k:Nat):bS d o j k=o0 d (.bin o (.s j) (.s k)):=rfl
def bI (d:Nat) (o:BinOp) (j:Nat) (n:Int):aS:=o0 d (.bin o (.s j) (.c (.int .i64 n)))
theorem Wx (d:Nat) (o:BinOp) (j:Nat) (n:Int):bI d o j n=o0 d (.bin o (.s j) (.c (.int .i64 n))):=rfl
def c0 (d:Nat) (f:FuncId):aS:=o0 d (.call f [])
theorem WE (d:Nat) (f:FuncId):c0 d f=o0 d (.call f []):=rfl
def c1 (d:Nat) (f:FuncId) (a:Nat):aS:=o0 d (.call f [.s a])
theorem WF (d:Nat) (f:FuncId) (a:Nat):c1 d f a=o0 d (.call f [.s a]):=rfl
def c2 (d:Nat) (f:FuncId) (a b:Nat):aS:=o0 d (.call f [.s a,.s b])
theorem WG (d:Nat) (f:FuncId) (a b:Nat):c2 d f a b=o0 d (.call f [.s a,.s b]):=rfl
def c3 (d:Nat) (f:FuncId) (a b c:Nat):aS:=o0 d (.call f [.s a,.s b,.s c])
theorem WH (d:Nat) (f:FuncId) (a b c:Nat):c3 d f a b c=o0 d (.call f [.s a,.s b,.s c]):=rfl
def pF (d j k:Nat):aS:=o0 d (.pick (.s j) (.s k) (.c (.bool false)))
theorem ZX (d j k:Nat):pF d j k=o0 d (.pick (.s j) (.s k) (.c (.bool false))):=rfl
def pT (d j k:Nat):aS:=o0 d (.pick (.s j) (.c (.bool true)) (.s k))
theorem ZY (d j k:Nat):pT d j k=o0 d (.pick (.s j) (.c (.bool true)) (.s k)):=rfl
def uN (d j:Nat):aS:=o0 d (.un .not (.s j))
theorem aah (d j:Nat):uN d j=o0 d (.un .not (.s j)):=rfl
def sT (n j k:Nat):aS:=⟨none,.store n (.s j) (.s k),none⟩
theorem Z9 (n j k:Nat):sT n j k =⟨none,.store n (.s j) (.s k),none⟩:=rfl
def iC (n:Int):IV:=.c (.int .i64 n)
theorem Ym (n:Int):iC n = .c (.int .i64 n):=rfl
def bC (b:Bool):IV:=.c (.bool b)
theorem Ww (b:Bool):bC b = .c (.bool b):=rfl
def ld (j:Nat):ik:=.load none (.s j)
theorem Yq (j:Nat):ld j = .load none (.s j):=rfl
def fd (n j:Nat):ik:=.fadr n (.s j)
theorem Yk (n j:Nat):fd n j = .fadr n (.s j):=rfl
def sr (o:List aS) (k:List Nat) (y:bE):bE:=.seq (.reg o k) y
theorem aab (o:List aS) (k:List Nat) (y:bE):sr o k y = .seq (.reg o k) y:=rfl
def cR (j:Nat):bE:=.cond (.s j) .ret .skip
theorem WI (j:Nat):cR j = .cond (.s j) .ret .skip:=rfl
attribute [go_sem] Yt Yp Yj ZP Ys aai Yn Yv Yu WA Wx WE WF WG WH ZX ZY aah Z9 Ym Ww Yq Yk aab WI
attribute [go_sem] YB YA Yw ZR ZW ZS
end Go.Mw