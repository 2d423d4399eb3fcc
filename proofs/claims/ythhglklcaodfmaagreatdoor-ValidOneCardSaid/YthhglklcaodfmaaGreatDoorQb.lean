import Derived.Test.YthhglklcaodfmaaGreatDoorQa
import Derived.Orders
import Derived.Still
import Derived.Scope
set_option linter.all false
namespace Go.Mw
structure St where
 env:List (Nat×AV)
 heap:List (Nat×ah)
def get:List (Nat×AV)→Nat→AV
 | [],_=>.any
 | (k,x) :: r,n=>if k=n then x else get r n
def ae:List (Nat×ah)→Nat→Option ah
 | [],_=>none
 | (k,x) :: r,n=>if k=n then some x else ae r n
def del:List (Nat×AV)→Nat→List (Nat×AV)
 | [],_=>[]
 | (k,x) :: r,n=>if k=n then del r n else (k,x) :: del r n
def iS:List (Nat×ah)→Nat→List (Nat×ah)
 | [],_=>[]
 | (k,x) :: r,n=>if k=n then iS r n else (k,x) :: iS r n
def mT (i:Nat):List (Nat×AV)→List (Nat×AV)
 | []=>[]
 | (k,x) :: r=>(k,fg i x) :: mT i r
def mU (i:Nat):List (Nat×ah)→List (Nat×ah)
 | []=>[]
 | (k,x) :: r=>(k,cU i x) :: mU i r
def St.put (s:St) (d:Option Nat) (x:AV):St :=
 match d with
 | some d=>⟨(d,x) :: s.env,s.heap⟩
 | none=>s
def St.kill (s:St) (i:Nat):St:=⟨mT i s.env,mU i (iS s.heap i)⟩
def St.eff (s:St) (e:aT):St :=
 match e with
 | .no=>s
 | .put i o=>⟨s.env,(i,o) :: iS s.heap i⟩
 | .new i o=>⟨s.env,(i,o) :: iS s.heap i⟩
 | .reb i o=>⟨mT i s.env,(i,o) :: mU i (iS s.heap i)⟩
def kills:List Nat→St→St
 | [],s=>s
 | i :: r,s=>kills r (s.kill i)
def dels:List Nat→List (Nat×AV)→List (Nat×AV)
 | [],e=>e
 | d :: r,e=>dels r (del e d)
theorem jO (n:Nat):∀(l:List (Nat×AV)) (k:Nat),get (del l n) k=if k=n then .any else get l k
 | [],k=>by simp [del,get]
 | (j,x) :: r,k=>by
  simp only [del]
  by_cases h:j=n
  ·rw [av h,jO n r k]
   subst h
   by_cases h2:k=j
   ·simp [h2]
   ·simp [get,h2,Ne.symm h2]
  ·rw [ar h]
   simp only [get]
   by_cases h2:j=k
   ·subst h2;simp [h]
   ·simp only [h2,fA,jO n r k]
theorem cS (n:Nat):∀(l:List (Nat×ah)) (k:Nat),ae (iS l n) k=if k=n then none else ae l k
 | [],k=>by simp [iS,ae]
 | (j,x) :: r,k=>by
  simp only [iS]
  by_cases h:j=n
  ·rw [av h,cS n r k]
   subst h
   by_cases h2:k=j
   ·simp [h2]
   ·simp [ae,h2,Ne.symm h2]
  ·rw [ar h]
   simp only [ae]
   by_cases h2:j=k
   ·subst h2;simp [h]
   ·simp only [h2,fA,cS n r k]
theorem fF (i:Nat):∀(l:List (Nat×AV)) (k:Nat),get (mT i l) k=fg i (get l k)
 | [],k=>by simp [mT,get,fg,mV,mG,mC,mP]
 | (j,x) :: r,k=>by simp only [mT,get,fF i r k];split<;>rfl
theorem dM (i:Nat):∀(l:List (Nat×ah)) (k:Nat),ae (mU i l) k=(ae l k).map (cU i)
 | [],k=>by simp [mU,ae]
 | (j,x) :: r,k=>by simp only [mU,ae,dM i r k];split<;>rfl
def bW (c:jY) (s:St) (a:Act) (w:World):Prop:=∃bl,aC c bl (get s.env) (ae s.heap) a w
section
variable {P:Program} [aV P] {c:jY} [CT c P] {a:Act} {w:World} {s:St}
theorem bW.kill (h:bW c s a w) (i:Nat):bW c (s.kill i) a w:=by
 obtain ⟨bl,h⟩:=h
 exact ⟨bl,(h.kill i).congr (fun k=>by simp [St.kill,fF]) (fun j=>by simp only [St.kill,dM,cS];split<;>simp)⟩
theorem bW.kills:∀(l:List Nat) {s:St},bW c s a w→bW c (Mw.kills l s) a w
 | [],_,h=>h
 | i :: r,_,h=>bW.kills r (h.kill i)
theorem dE (s:St) (i:Nat):ae (s.kill i).heap i=none∧cy i (get (s.kill i).env) (ae (s.kill i).heap):=by
 refine ⟨by simp [St.kill,dM,cS],?_⟩
 have:=jl i (get s.env) (ae s.heap)
 refine ⟨fun k=>by simpa [St.kill,fF] using this.1 k,fun j o hj=>this.2 j o ?_⟩
 rw [← hj]
 simp only [St.kill,dM,cS]
 split<;>simp
theorem bW.del (h:bW c s a w) (d:Nat):bW c ⟨del s.env d,s.heap⟩ a w:=by
 obtain ⟨bl,h⟩:=h
 exact ⟨bl,h.weaken (fun k=>by rw [jO];split<;>simp) (fun _ _ h=>h)⟩
theorem bW.dels:∀(l:List Nat) {e:List (Nat×AV)} {hp:List (Nat×ah)},bW c ⟨e,hp⟩ a w→bW c ⟨Mw.dels l e,hp⟩ a w
 | [],_,_,h=>h
 | d :: r,_,_,h=>bW.dels r (h.del d)
theorem nX {bl:Nat→Option Nat} {g:Nat→AV} {h:Nat→Option ah} (hs:aC c bl g h a w) (d:Option Nat) (hd:∀k,d=some k→k<c.n) {v:Value} {x:AV} (hv:aR bl (aZ bl c.MF h) w v x)
  (hg:∀k,get s.env k=g k) (hh:∀j,ae s.heap j=h j):bW c (s.put d x) (a.put d v) w:=by
 cases d with
 | none=>exact ⟨bl,by simpa [St.put,Act.put] using hs.congr hg hh⟩
 | some d =>
  refine ⟨bl,(hs.put (hd d rfl) hv).congr (fun k=>?_) (fun j=>by simpa [St.put] using hh j)⟩
  simp only [St.put,get,c_,jO]
  by_cases hk:k=d
  ·subst hk;simp
  ·simp [hk,Ne.symm hk,hg]
theorem AQ (h:bW c s a w) (d:Option Nat) (hd:∀k,d=some k→k<c.n) (_:Unit):bW c (s.put d (.tup [])) (a.put d undef) w:=by
 obtain ⟨bl,h⟩:=h
 exact nX h d hd (x:=.tup []) ⟨[],rfl,trivial⟩ (fun _=>rfl) (fun _=>rfl)
theorem C_ (s:St) (e:aT) (k:Nat):get (s.eff e).env k=e.env (get s.env) k:=by
 cases e<;>simp [St.eff,aT.env,fF]
theorem zY (s:St) (e:aT) (j:Nat):ae (s.eff e).heap j=e.hp (ae s.heap) j:=by
 cases e with
 | no=>rfl
 | put i o=>simp only [St.eff,aT.hp,ae,c_,cS];by_cases h:j=i<;>simp [h,eq_comm]
 | new i o=>simp only [St.eff,aT.hp,ae,c_,cS];by_cases h:j=i<;>simp [h,eq_comm]
 | reb i o=>simp only [St.eff,aT.hp,ae,c_,dM,cS];by_cases h:j=i<;>simp [h,eq_comm]
end
def er:AV→List Nat
 | .ms id _ _ _=>[id]
 | .mp id _ _ _=>[id]
 | .mm id _=>[id]
 | _=>[]
def dO:AV→List Nat
 | .fn _ caps=>caps.flatMap er
 | x=>er x
def fG:AV→List Nat
 | .agg cells=>cells.flatMap dO
 | x=>dO x
def aI:AV→List Nat
 | .tup vs=>vs.flatMap fG
 | x=>fG x
def dt (o:ah):List Nat:=if o.isRec then o.rows.flatMap (fun r=>r.flatMap dO) else []
theorem KC {i:Nat} {x:AV} (h:mP i x=true):i∈er x:=by cases x<;>simp_all [mP,er]
theorem mF {i:Nat} {x:AV} (h:mC i x=true):i∈dO x:=by
 cases x with
 | fn f caps =>
  simp only [mC,List.any_eq_true] at h
  obtain ⟨y,h1,h2⟩:=h
  simp only [dO,jK]
  exact ⟨y,h1,KC h2⟩
 | _ =>
  simp only [mC] at h
  simpa only [dO] using KC h
theorem KB {i:Nat} {x:AV} (h:mG i x=true):i∈fG x:=by
 cases x with
 | agg cells =>
  simp only [mG,List.any_eq_true] at h
  obtain ⟨y,h1,h2⟩:=h
  simp only [fG,jK]
  exact ⟨y,h1,mF h2⟩
 | _ =>
  simp only [mG] at h
  simpa only [fG] using mF h
theorem ji {i:Nat} {x:AV} (h:mV i x=true):i∈aI x:=by
 cases x with
 | tup vs =>
  simp only [mV,List.any_eq_true] at h
  obtain ⟨y,h1,h2⟩:=h
  simp only [aI,jK]
  exact ⟨y,h1,KB h2⟩
 | _ =>
  simp only [mV] at h
  simpa only [aI] using KB h
def ku (r:AV) (σ:List (Nat×ah)):Prop:=(∀i∈aI r,(ae σ i).isSome=true)∧∀p∈σ,∀i∈dt p.2,(ae σ i).isSome=true
def i9 (bl:Nat→Option Nat) (σ:List (Nat×ah)) (b:Nat):Prop:=∃id o,ae σ id=some o∧bl id=some b
def bu (P:Program) [aV P] (f:FuncId) (args:List AV) (σ:List (Nat×ah)) (Sb:Nat→Prop) (Post:AV→List (Nat×ah)→Prop):Prop :=
 ∀(bl:Nat→Option Nat) (MF:Nat→Prop) (w:World) (cargs:List Value),
  (aV.T P).H w→(∀b,(aV.T P).B b→¬aZ bl MF (ae σ) b)→A_ bl (aZ bl MF (ae σ)) MF w (ae σ)→(∀b,MF b→b<w.heap.size)→aH (aR bl (aZ bl MF (ae σ)) w) cargs args →
  Calls P f cargs.toArray w fun e w'=>∃v r σ' bl',e = .returned v∧Post r σ'∧ku r σ'∧A_ bl' (aZ bl' MF (ae σ')) MF w' (ae σ')∧aR bl' (aZ bl' MF (ae σ')) w' v r ∧
   ek (i9 bl σ) w w'∧(∀id o b,ae σ' id=some o→bl' id=some b→w.heap.size≤b∨i9 bl σ b)∧∀id,Sb id→bl' id=bl id
def aj (P:Program) [aV P] (f:FuncId) (args:List AV) (r:AV):Prop:=bu P f args [] (fun _=>False) fun r' σ'=>r'=r∧σ'=[]
def lM:AV→Bool
 | .bool _=>true
 | .int ..=>true
 | .str _=>true
 | .nl=>true
 | .np=>true
 | .nf=>true
 | .sl _ []=>true
 | _=>false
def nv:AV→Bool
 | .agg cells=>cells.all lM
 | x=>lM x
def iX:AV→Bool
 | .tup vs=>vs.all nv
 | x=>nv x
def MS (b:Bool) (h:Nat→Option ah) (x x':AV):Prop :=
 x=x'∨(x = .nl∧∃st,x' = .sl st []) ∨
 (b=true∧∃id st off len o,x = .ms id st off len∧h id=some o∧o.isRec=false∧o.st=st∧off+len≤o.rows.length∧x' = .sl st ((o.rows.drop off).take len))
section
variable {P:Program} [aV P] {c:jY} [CT c P] {bl:Nat→Option Nat} {g:Nat→AV} {h:Nat→Option ah} {a:Act} {w w':World} {M M':Nat→Prop}
theorem w_ {bl':Nat→Option Nat} {v:Value} {x:AV} (hf:lM x=true) (hv:bN bl M w v x):bN bl' M' w' v x:=by
 cases x<;>simp [lM] at hf<;>simp only [bN,da] at hv ⊢
 case sl st rows =>
  cases rows with
  | cons r l=>simp [lM] at hf
  | nil =>
   cases hv with
   | nls=>exact .nls _
   | sl0=>exact .sl0 _ _ _
   | sl b off cap st c t fr rows vs=>exact .sl0 _ _ _
 all_goals (cases hv;constructor)
theorem xc {bl':Nat→Option Nat} {v:Value} {x:AV} (hf:nv x=true) (hv:dn bl M w v x):dn bl' M' w' v x:=by
 cases x with
 | agg cells =>
  obtain ⟨cs,h1,h2⟩:=hv
  exact ⟨cs,h1,h2.mono fun _ y hy hr=>w_ (eA.1 hf y hy) hr⟩
 | _ =>
  simp only [nv] at hf
  simp only [dn] at hv ⊢
  exact w_ hf hv
theorem xd {bl':Nat→Option Nat} {v:Value} {x:AV} (hf:iX x=true) (hv:aR bl M w v x):aR bl' M' w' v x:=by
 cases x with
 | any=>trivial
 | tup vs =>
  obtain ⟨cs,h1,h2⟩:=hv
  exact ⟨cs,h1,h2.mono fun _ y hy hr=>xc (eA.1 hf y hy) hr⟩
 | _ =>
  simp only [iX] at hf
  simp only [aR] at hv ⊢
  exact xc hf hv
theorem aC.grow (s:aC c bl g h a w) (hst:ek (fun _=>False) w w'):aC c bl g h a w':=by
 have ht:Tr (aZ bl c.MF h) (aZ bl c.MF h) w w':=⟨fun b hb hl=>⟨hb,hst.keep b hl (fun h=>h)⟩,hst.shape⟩
 refine ⟨s.defers,s.size,fun k=>(s.env k).tr ht (fun _ _=>rfl),⟨fun id o hi=>?_,s.heap.2⟩,s.step.trans hst (fun _ _ h=>h.elim),s.own,s.stab,s.mf⟩
 rcases s.heap.1 id o hi with h1 | ⟨b,h1,⟨gk,c1,fr,h2,h3,h4,h5,h6,h7⟩ | hsp⟩
 ·exact .inl h1
 rotate_left
 ·exact .inr ⟨b,h1,.inr (hsp.tr (hst.keep b hsp.rel.lt (fun h=>h)))⟩
 ·refine .inr ⟨b,h1,.inl ⟨gk,c1,fr,by rw [hst.keep b (aP h2) (fun h=>h)];exact h2,h3,h4,h5,h6,fun i j r x hr hx=>?_⟩⟩
  obtain ⟨v,hv1,hv2⟩:=h7 i j r x hr hx
  exact ⟨v,hv1,hv2.tr ht (fun _ _ _=>rfl)⟩
theorem ej (MF:Nat→Prop) (b:Nat):aZ bl MF (ae []) b↔MF b:=⟨fun h=>by
 rcases h with h | ⟨id,o,h,_⟩
 ·exact h
 ·simp [ae] at h,.inl⟩
theorem aC.tab (s:aC c bl g h a w):(aV.T P).H w:=by
 rw [← CT.eq (c:=c) (P:=P)]
 exact c.T.stay c.w0 w c.tH fun b hb=>s.step.keep b (c.T.low _ c.tH b hb) (c.tW b hb)
theorem aC.tabW (s:aC c bl g h a w) (b:Nat) (hb:(aV.T P).B b):¬aZ bl c.MF h b:=by
 rw [← CT.eq (c:=c) (P:=P)] at hb
 rintro (hm | ⟨id,o,h1,h2⟩)
 ·exact c.tM b hb hm
 rcases s.own id o b h1 h2 with h3 | h3
 ·exact absurd (c.T.low _ c.tH b hb) (by omega)
 ·exact c.tW b hb h3
theorem xB (s:aC c bl g h a w) {f:FuncId} {cargs:List Value} {args args':List AV} {r:AV} (hp:aj P f args' r) (ha:aH (aR bl (aZ bl c.MF h) w) cargs args) (hid:∀x∈args',aI x=[]) (b:Bool) (hc:aH (MS b h) args args') (hf:b=true→iX r=true) :
  Calls P f cargs.toArray w fun e w'=>∃v,e = .returned v∧aC c bl g h a w'∧aR bl (aZ bl c.MF h) w' v r:=by
 let MF':Nat→Prop:=fun q=>aZ bl c.MF h q∧(b=true→c.MF q)
 have hMF':∀q,MF' q→q<w.heap.size:=fun q hq=>by
  rcases hq.1 with hm | ⟨id,o,h1,h2⟩
  ·exact Nat.lt_of_lt_of_le (s.mf q hm) s.step.size
  ·rcases s.heap.1 id o h1 with hn | ⟨b',g2,hO⟩
   ·rw [hn.2.2] at h2;cases h2
   ·rw [h2] at g2;cases g2;exact hO.lt
 have hargs:aH (aR (fun _=>none) (aZ (fun _=>none) MF' (ae [])) w) cargs args':=by
  have key:∀{cs:List Value} {as as':List AV},aH (aR bl (aZ bl c.MF h) w) cs as→aH (MS b h) as as'→(∀x∈as',aI x=[])→aH (aR (fun _=>none) (aZ (fun _=>none) MF' (ae [])) w) cs as':=by
   intro cs
   induction cs with
   | nil =>
    intro as as' h1 h2 _
    cases as with
    | cons=>exact h1.elim
    | nil=>cases as' with
     | cons=>exact h2.elim
     | nil=>trivial
   | cons v cs ih =>
    intro as as' h1 h2 h3
    cases as with
    | nil=>exact h1.elim
    | cons x as =>
     cases as' with
     | nil=>exact h2.elim
     | cons x' as' =>
      refine ⟨?_,ih h1.2 h2.2 (fun y hy=>h3 y (by simp [hy]))⟩
      have ht:Tr (aZ bl c.MF h) (aZ (fun _=>none) MF' (ae [])) w w:=⟨fun q hq _=>⟨fun hm=>hq ((ej MF' q).1 hm).1,rfl⟩,fun _ c1 _ fr hb=>⟨c1,fr,hb,rfl⟩⟩
      have hno:∀id,mV id x'=true→(none:Option Nat)=bl id:=fun id hm=>by
       have:=ji hm
       rw [h3 x' (by simp)] at this
       simp at this
      rcases h2.1 with he | ⟨he,st,he'⟩ | ⟨hb,id,st,off,len,o,he,ho,hrec,hst,hfit,he'⟩
      ·have h11:=h1.1
       rw [he] at h11
       exact h11.tr ht hno
      ·rw [he']
       have h11:=h1.1
       rw [he] at h11
       have:=h11.nl
       rw [this]
       exact IRel.nls st
      ·have h11:=h1.1
       rw [he] at h11
       rw [he']
       have h4:da bl (aZ bl c.MF h) w v (.ms id st off len):=h11
       rcases s.heap.1 id o ho with hn | ⟨bb,g2,hO⟩
       ·have hlen:len=0:=by rw [hn.1] at hfit;simp at hfit;omega
        subst hlen
        simp only [gN]
        rcases h4 with ⟨e1,_⟩ | ⟨_,_,ad,cap,e1⟩ | ⟨b',cap,c1,t,fr,e1,_⟩
        ·rw [e1];exact IRel.nls st
        ·rw [e1];exact IRel.sl0 st ad cap
        ·rw [hn.2.2] at e1;cases e1
       ·have hnb:¬aZ (fun _=>none) MF' (ae []) bb:=fun hm=>by
         have:=((ej MF' bb).1 hm).2 hb
         exact hO.free this
        have:=tG (M':=aZ (fun _=>none) MF' (ae [])) ht hnb (.inr ⟨g2,hO⟩) hrec h4
        simp only [jN,dl,hst,true_and,hfit] at this
        exact this
  exact key ha hc hid
 refine (hp (fun _=>none) MF' w cargs (aC.tab (P:=P) s) (fun q hq hm=>aC.tabW (P:=P) s q hq ((ej MF' q).1 hm).1) ⟨fun id o hi=>by simp [ae] at hi,fun id id' o o' b hi=>by simp [ae] at hi⟩ hMF' hargs).mono fun e w' hh=>?_
 obtain ⟨v,r',σ',bl',rfl,⟨rfl,rfl⟩,hcl,_,hv,hst,_,_⟩:=hh
 have hst':ek (fun _=>False) w w':=⟨hst.size,fun q hq _=>hst.keep q hq (fun hb=>by
  obtain ⟨id,o,hi,_⟩:=hb
  simp [ae] at hi),hst.shape,hst.os,hst.out⟩
 refine ⟨v,rfl,s.grow hst',?_⟩
 cases b with
 | true=>exact xd (hf rfl) hv
 | false =>
  refine hv.tr ⟨fun q hq hl=>⟨fun hm=>hq ((ej MF' q).2 ⟨hm,fun h=>by cases h⟩),rfl⟩,fun _ c1 _ fr hb=>⟨c1,fr,hb,rfl⟩⟩ (fun id hm=>?_)
  have:=hcl.1 id (ji hm)
  simp [ae] at this
end
def j9 (ks:List Nat) (x:AV):AV:=if ks.any (fun i=>mV i x) then .any else x
def qr (ks:List Nat) (x:AV):AV:=if ks.any (fun i=>mC i x) then .any else x
def eY (ks:List Nat) (o:ah):ah:=if o.isRec then { o with rows:=o.rows.map (fun r=>r.map (qr ks)) } else o
def Dw (ks:List Nat) (σ0 σ':Nat→Option ah) (h:Nat→Option ah) (id:Nat):Option ah :=
 match σ' id with
 | some o=>some o
 | none=>if (σ0 id).isSome then none else (h id).map (eY ks)
section
variable {P:Program} [aV P] {c:jY} [CT c P] {bl bl' bl2:Nat→Option Nat} {g:Nat→AV} {h:Nat→Option ah} {a:Act} {w w':World} {M M':Nat→Prop} {ks:List Nat}
theorem FI {v:Value} {x:AV} (hv:aR bl M w v x) (ht:Tr M M' w w') (hb:∀id,id∉ks→bl2 id=bl id):aR bl2 M' w' v (j9 ks x):=by
 unfold j9
 split
 ·trivial
 ·rename_i hn
  refine hv.tr ht (fun id hm=>hb id (fun hk=>hn ?_))
  exact List.any_eq_true.2 ⟨id,hk,hm⟩
theorem FE {v:Value} {x:AV} (hv:bN bl M w v x) (ht:Tr M M' w w') (hb:∀id,id∉ks→bl2 id=bl id):bN bl2 M' w' v (qr ks x):=by
 unfold qr
 split
 ·exact IRel.toC (.any v (bN.one hv))
 ·rename_i hn
  refine hv.tr ht (fun id hm=>hb id (fun hk=>hn ?_))
  exact List.any_eq_true.2 ⟨id,hk,hm⟩
theorem Aw (s:aC c bl g h a w) {f:FuncId} {cargs:List Value} {args:List AV} {σ0:List (Nat×ah)} {Sb:Nat→Prop} {Post:AV→List (Nat×ah)→Prop}
  (hp:bu P f args σ0 Sb Post) (ha:aH (aR bl (aZ bl c.MF h) w) cargs args) (hσ:∀id o,ae σ0 id=some o→h id=some o) (ks:List Nat)
  (hks:∀r σ',Post r σ'→∀id,(ae σ' id).isSome=true→(Sb id∧(ae σ0 id).isSome=true)∨(id∈ks∧(id<1000∨2000≤id)∧((ae σ0 id).isSome=true∨h id=none))) :
  Calls P f cargs.toArray w fun e w'=>∃v r σ' bl2,e = .returned v∧Post r σ'∧aC c bl2 (fun k=>j9 ks (g k)) (Dw ks (ae σ0) (ae σ') h) a w'∧aR bl2 (aZ bl2 c.MF (Dw ks (ae σ0) (ae σ') h)) w' v r:=by
 let MF':Nat→Prop:=fun q=>c.MF q∨∃id o,h id=some o∧ae σ0 id=none∧bl id=some q
 have blk:∀{id o q},h id=some o→bl id=some q→i_ bl (aZ bl c.MF h) c.MF w o q:=fun {id o q} h1 h2=>by
  rcases s.heap.1 id o h1 with hn | ⟨b',g2,hO⟩
  ·rw [hn.2.2] at h2;cases h2
  ·rw [h2] at g2;cases g2;exact hO
 have hMF':∀q,MF' q→q<w.heap.size:=by
  rintro q (hq | ⟨id,o,h1,_,h2⟩)
  ·exact Nat.lt_of_lt_of_le (s.mf q hq) s.step.size
  ·exact (blk h1 h2).lt
 have hmut:∀q,aZ bl MF' (ae σ0) q↔aZ bl c.MF h q:=fun q=>by
  constructor
  ·rintro ((hq | ⟨id,o,h1,_,h2⟩) | ⟨id,o,h1,h2⟩)
   ·exact .inl hq
   ·exact .inr ⟨id,o,h1,h2⟩
   ·exact .inr ⟨id,o,hσ id o h1,h2⟩
  ·rintro (hq | ⟨id,o,h1,h2⟩)
   ·exact .inl (.inl hq)
   ·cases h3:ae σ0 id with
    | none=>exact .inl (.inr ⟨id,o,h1,h3,h2⟩)
    | some o'=>exact .inr ⟨id,o',h3,h2⟩
 have ht0:=Tr.of_iff (w:=w) hmut
 have hH:A_ bl (aZ bl MF' (ae σ0)) MF' w (ae σ0):=by
  refine ⟨fun id o hi=>?_,fun id id' o o' q h1 h2=>s.heap.2 id id' o o' q (hσ _ _ h1) (hσ _ _ h2)⟩
  rcases s.heap.1 id o (hσ id o hi) with hn | ⟨b',g2,⟨gk,c2,fr2,g3,g4,g5,g6,g7,g8⟩ | hsp⟩
  ·exact .inl hn
  rotate_left
  ·refine .inr ⟨b',g2,.inr ⟨hsp.rows,hsp.isRec,?_,hsp.rel⟩⟩
   rintro (hq | ⟨id2,o2,h1,h3,h2⟩)
   ·exact hsp.free hq
   ·have:=s.heap.2 id2 id o2 o b' h1 (hσ id o hi) h2 g2
    subst this
    rw [hi] at h3
    cases h3
  ·refine .inr ⟨b',g2,.inl ⟨gk,c2,fr2,g3,g4,?_,g6,g7,fun i j r x hr hx=>?_⟩⟩
   ·rintro (hq | ⟨id2,o2,h1,h3,h2⟩)
    ·exact g5 hq
    ·have:=s.heap.2 id2 id o2 o b' h1 (hσ id o hi) h2 g2
     subst this
     rw [hi] at h3
     cases h3
   ·obtain ⟨v,hv1,hv2⟩:=g8 i j r x hr hx
    exact ⟨v,hv1,hv2.tr ht0 (fun _ _ _=>rfl)⟩
 refine (hp bl MF' w cargs (aC.tab (P:=P) s) (fun q hq hm=>aC.tabW (P:=P) s q hq ((hmut q).1 hm)) hH hMF' (ha.mono fun _ _ _ hr=>hr.tr ht0 (fun _ _=>rfl))).mono fun e w' hh=>?_
 obtain ⟨v,r,σ',bl1,rfl,hPost,hcl,hH',hv,hst,hown,hsb⟩:=hh
 have hks':=hks r σ' hPost
 let B:Nat→Option Nat:=fun id=>if (ae σ' id).isSome then bl1 id else bl id
 have B_in:∀id,(ae σ' id).isSome=true→B id=bl1 id:=fun id hi=>by simp [B,hi]
 have B_out:∀id,ae σ' id=none→B id=bl id:=fun id hi=>by simp [B,hi]
 have B_ks:∀id,id∉ks→B id=bl id:=fun id hk=>by
  cases hi:ae σ' id with
  | none=>exact B_out id hi
  | some o =>
   rw [B_in id (by simp [hi])]
   rcases hks' id (by simp [hi]) with ⟨h1,_⟩ | ⟨h1,_⟩
   ·exact hsb id h1
   ·exact absurd h1 hk
 have mrg_out:∀{id o},Dw ks (ae σ0) (ae σ') h id=some o→ae σ' id=none→∃o0,h id=some o0∧o=eY ks o0∧ae σ0 id=none:=fun {id o} hm hn=>by
  simp only [Dw,hn] at hm
  split at hm
  ·cases hm
  ·rename_i h0
   simp only [cJ] at hm
   obtain ⟨o0,h1,rfl⟩:=hm
   exact ⟨o0,h1,rfl,by simpa using h0⟩
 have σblk:∀{id o q},ae σ' id=some o→bl1 id=some q→i_ bl1 (aZ bl1 MF' (ae σ')) MF' w' o q:=fun {id o q} h1 h2=>by
  rcases hH'.1 id o h1 with hn | ⟨b',g2,hO⟩
  ·rw [hn.2.2] at h2;cases h2
  ·rw [h2] at g2;cases g2;exact hO
 have hmut2:∀q,aZ B c.MF (Dw ks (ae σ0) (ae σ') h) q→aZ bl1 MF' (ae σ') q:=by
  rintro q (hq | ⟨id,o,h1,h2⟩)
  ·exact .inl (.inl hq)
  ·cases hi:ae σ' id with
   | some o'=>rw [B_in id (by simp [hi])] at h2;exact .inr ⟨id,o',hi,h2⟩
   | none =>
    obtain ⟨o0,h3,_,h4⟩:=mrg_out h1 hi
    rw [B_out id hi] at h2
    exact .inl (.inr ⟨id,o0,h3,h4,h2⟩)
 have hmut3:∀q,q<w.heap.size→aZ bl1 MF' (ae σ') q→aZ bl c.MF h q:=by
  rintro q hq ((hm | ⟨id,o,h1,_,h2⟩) | ⟨id,o,h1,h2⟩)
  ·exact .inl hm
  ·exact .inr ⟨id,o,h1,h2⟩
  ·rcases hown id o q h1 h2 with h3 | ⟨id2,o2,h3,h4⟩
   ·omega
   ·exact .inr ⟨id2,o2,hσ _ _ h3,h4⟩
 have ht:Tr (aZ bl c.MF h) (aZ B c.MF (Dw ks (ae σ0) (ae σ') h)) w w':=⟨fun q hq hl=>⟨fun hm=>hq (hmut3 q hl (hmut2 q hm)),hst.keep q hl (fun hb=>hq (by
  obtain ⟨id,o,h1,h2⟩:=hb
  exact .inr ⟨id,o,hσ _ _ h1,h2⟩))⟩,hst.shape⟩
 have ht1:Tr (aZ bl1 MF' (ae σ')) (aZ B c.MF (Dw ks (ae σ0) (ae σ') h)) w' w':=⟨fun q hq _=>⟨fun hm=>hq (hmut2 q hm),rfl⟩,fun _ c1 _ fr hb=>⟨c1,fr,hb,rfl⟩⟩
 have hcl1:∀id,mV id r=true→B id=bl1 id:=fun id hm=>B_in id (hcl.1 id (ji hm))
 have hmem:∀{σ:List (Nat×ah)} {id:Nat} {o:ah},ae σ id=some o→(id,o)∈σ:=by
  intro σ
  induction σ with
  | nil=>intro id o hi;simp [ae] at hi
  | cons p l ih =>
   intro id o hi
   obtain ⟨k,x⟩:=p
   simp only [ae] at hi
   split at hi
   ·rename_i hk;cases hi;subst hk;simp
   ·exact List.mem_cons_of_mem _ (ih hi)
 refine ⟨v,r,σ',B,rfl,hPost,⟨s.defers,s.size,fun k=>FI (s.env k) ht B_ks,⟨fun id o hi=>?_,fun id id' o o' q h1 h2 h3 h4=>?_⟩,?_,fun id o q h1 h2=>?_,fun id h1 h2=>?_,s.mf⟩,hv.tr ht1 hcl1⟩
 ·cases hi':ae σ' id with
  | some o' =>
   have ho:o=o':=by simp only [Dw,hi',bV] at hi;exact hi.symm
   subst ho
   rcases hH'.1 id o hi' with hn | ⟨b',g2,⟨gk,c2,fr2,g3,g4,g5,g6,g7,g8⟩ | hsp⟩
   ·exact .inl ⟨hn.1,hn.2.1,by rw [B_in id (by simp [hi'])];exact hn.2.2⟩
   rotate_left
   ·exact .inr ⟨b',by rw [B_in id (by simp [hi'])];exact g2,.inr ⟨hsp.rows,hsp.isRec,fun hm=>hsp.free (.inl hm),hsp.rel⟩⟩
   ·refine .inr ⟨b',by rw [B_in id (by simp [hi'])];exact g2,.inl ⟨gk,c2,fr2,g3,g4,fun hm=>g5 (.inl hm),g6,g7,fun i j q x hr hx=>?_⟩⟩
    obtain ⟨u,hu1,hu2⟩:=g8 i j q x hr hx
    refine ⟨u,hu1,hu2.tr ht1 (fun hrec id2 hm=>B_in id2 (hcl.2 (id,o) (hmem hi') id2 ?_))⟩
    simp only [dt,hrec,dl,jK]
    exact ⟨q,gM hr,x,gM hx,mF hm⟩
  | none =>
   obtain ⟨o0,h1,rfl,h3⟩:=mrg_out hi hi'
   rcases s.heap.1 id o0 h1 with hn | ⟨b',g2,⟨gk,c2,fr2,g3,g4,g5,g6,g7,g8⟩ | hsp⟩
   ·refine .inl ⟨?_,?_,by rw [B_out id hi'];exact hn.2.2⟩
    ·simp [eY,hn.2.1,hn.1]
    ·simp [eY,hn.2.1]
   rotate_left
   ·have hkeep:w'.heap[b']? = w.heap[b']?:=hst.keep b' hsp.rel.lt (fun hb=>by
     obtain ⟨id2,o2,h4,h5⟩:=hb
     have:=s.heap.2 id id2 o0 o2 b' h1 (hσ _ _ h4) g2 h5
     subst this
     rw [h3] at h4
     cases h4)
    refine .inr ⟨b',by rw [B_out id hi'];exact g2,.inr ?_⟩
    have:eY ks o0=o0:=by simp [eY,hsp.isRec]
    rw [this]
    exact hsp.tr hkeep
   ·have hkeep:w'.heap[b']? = w.heap[b']?:=hst.keep b' (aP g3) (fun hb=>by
     obtain ⟨id2,o2,h4,h5⟩:=hb
     have:=s.heap.2 id id2 o0 o2 b' h1 (hσ _ _ h4) g2 h5
     subst this
     rw [h3] at h4
     cases h4)
    refine .inr ⟨b',by rw [B_out id hi'];exact g2,.inl ⟨by unfold eY;split<;>exact gk,c2,fr2,?_,g4,g5,?_,?_,?_⟩⟩
    ·rw [hkeep,g3]
     unfold eY
     split<;>rfl
    ·intro i q hq
     unfold eY at hq ⊢
     split at hq
     ·simp only [db,cJ] at hq
      obtain ⟨q0,hq0,rfl⟩:=hq
      rename_i hrec
      simpa [hrec] using g6 i q0 hq0
     ·rename_i hrec
      simpa [hrec] using g6 i q hq
    ·unfold eY
     split<;>simpa using g7
    ·intro i j q x hq hx
     unfold eY at hq ⊢
     split at hq
     ·rename_i hrec
      simp only [db,cJ] at hq
      obtain ⟨q0,hq0,rfl⟩:=hq
      simp only [db,cJ] at hx
      obtain ⟨x0,hx0,rfl⟩:=hx
      obtain ⟨u,hu1,hu2⟩:=g8 i j q0 x0 hq0 hx0
      simp only [hrec,dl]
      rw [hrec] at hu2
      exact ⟨u,hu1,FE hu2 ht B_ks⟩
     ·rename_i hrec
      obtain ⟨u,hu1,hu2⟩:=g8 i j q x hq hx
      have hrec':o0.isRec=false:=by simpa using hrec
      simp only [hrec',iR,fA]
      rw [hrec'] at hu2
      exact ⟨u,hu1,IRel.tr hu2 ht.keep⟩
 ·cases hi:ae σ' id with
  | some o1 =>
   rw [B_in id (by simp [hi])] at h3
   cases hi2:ae σ' id' with
   | some o2 =>
    rw [B_in id' (by simp [hi2])] at h4
    exact hH'.2 id id' o1 o2 q hi hi2 h3 h4
   | none =>
    rw [B_out id' hi2] at h4
    obtain ⟨o2,h5,_,h6⟩:=mrg_out h2 hi2
    exact ((σblk hi h3).free (.inr ⟨id',o2,h5,h6,h4⟩)).elim
  | none =>
   rw [B_out id hi] at h3
   obtain ⟨o1,h5,_,h6⟩:=mrg_out h1 hi
   cases hi2:ae σ' id' with
   | some o2 =>
    rw [B_in id' (by simp [hi2])] at h4
    exact ((σblk hi2 h4).free (.inr ⟨id,o1,h5,h6,h3⟩)).elim
   | none =>
    rw [B_out id' hi2] at h4
    obtain ⟨o2,h7,_,h8⟩:=mrg_out h2 hi2
    exact s.heap.2 id id' o1 o2 q h5 h7 h3 h4
 ·refine s.step.trans hst (fun q hq hb=>?_)
  obtain ⟨id,o,h1,h2⟩:=hb
  rcases s.own id o q (hσ _ _ h1) h2 with h3 | h3
  ·omega
  ·exact h3
 ·cases hi:ae σ' id with
  | some o1 =>
   rw [B_in id (by simp [hi])] at h2
   rcases hown id o1 q hi h2 with h3 | ⟨id2,o2,h3,h4⟩
   ·exact .inl (eJ s.step.size h3)
   ·exact s.own id2 o2 q (hσ _ _ h3) h4
  | none =>
   rw [B_out id hi] at h2
   obtain ⟨o1,h5,_,h6⟩:=mrg_out h1 hi
   exact s.own id o1 q h5 h2
 ·cases hi:ae σ' id with
  | none=>rw [B_out id hi];exact s.stab id h1 h2
  | some o1 =>
   rw [B_in id (by simp [hi])]
   rcases hks' id (by simp [hi]) with ⟨h3,_⟩ | ⟨_,h3,_⟩
   ·rw [hsb id h3];exact s.stab id h1 h2
   ·omega
end
section
variable {c:jY} {bl:Nat→Option Nat} {g:Nat→AV} {h:Nat→Option ah} {a:Act} {w:World}
theorem TP (i:Nat) (o o1:ah):(fu i o o1).t=o1.t:=by unfold fu;split<;>rfl
theorem x_ (i:Nat) (o o1:ah):(fu i o o1).st=o1.st:=by unfold fu;split<;>rfl
theorem zR (i:Nat) (o o1:ah):(fu i o o1).isRec=o1.isRec:=by unfold fu;split<;>rfl
theorem aC.freeze (s:aC c bl g h a w) {i:Nat} {o:ah} (hi:h i=some o) (hrec:o.isRec=false) :
  aC c bl (fun k=>lE i o (g k)) (fun j=>if j=i then none else (h j).map (fu i o)) a w ∧
   ∀v x,aR bl (aZ bl c.MF h) w v x→aR bl (aZ bl c.MF (fun j=>if j=i then none else (h j).map (fu i o))) w v (lE i o x):=by
 have hsub:∀{j q},(if j=i then none else (h j).map (fu i o))=some q→j≠i∧∃q0,h j=some q0∧q=fu i o q0:=fun {j q} hj=>by
  split at hj
  ·cases hj
  ·rename_i hne
   simp only [cJ] at hj
   obtain ⟨q0,h1,h2⟩:=hj
   exact ⟨hne,q0,h1,h2.symm⟩
 have hmut:∀q,aZ bl c.MF (fun j=>if j=i then none else (h j).map (fu i o)) q→aZ bl c.MF h q:=by
  rintro q (hm | ⟨j,oj,h1,h2⟩)
  ·exact .inl hm
  ·obtain ⟨_,q0,h3,_⟩:=hsub h1
   exact .inr ⟨j,q0,h3,h2⟩
 have ht:Tr (aZ bl c.MF h) (aZ bl c.MF (fun j=>if j=i then none else (h j).map (fu i o))) w w:=⟨fun b hb _=>⟨fun hm=>hb (hmut b hm),rfl⟩,fun _ c1 _ fr hb=>⟨c1,fr,hb,rfl⟩⟩
 have hP:∀{v x},da bl (aZ bl c.MF h) w v x→da bl (aZ bl c.MF (fun j=>if j=i then none else (h j).map (fu i o))) w v (jN i o x):=fun {v x} hv=>by
  rcases s.heap.1 i o hi with hn | ⟨b,hb,hO⟩
  ·exact tG (b:=w.heap.size) (MF:=c.MF) ht (fun hm=>by
    rcases hm with hm | ⟨j,oj,h1,h2⟩
    ·exact absurd (s.mf _ hm) (Nat.not_lt.2 s.step.size)
    ·obtain ⟨_,q0,h3,_⟩:=hsub h1
     rcases s.heap.1 j q0 h3 with hn2 | ⟨b',h4,hO⟩
     ·rw [hn2.2.2] at h2;cases h2
     ·rw [h2] at h4;cases h4;exact absurd hO.lt (Nat.lt_irrefl _)) (.inl ⟨hn.1,hn.2.2⟩) hrec hv
  ·refine tG ht (fun hm=>?_) (.inr ⟨hb,hO⟩) hrec hv
   rcases hm with hm | ⟨j,oj,h1,h2⟩
   ·exact hO.free hm
   ·obtain ⟨hne,q0,h3,_⟩:=hsub h1
    exact hne (s.heap.2 j i q0 o b h3 hi h2 hb)
 have hC:∀{v x},bN bl (aZ bl c.MF h) w v x→bN bl (aZ bl c.MF (fun j=>if j=i then none else (h j).map (fu i o))) w v (kI i o x):=fun {v x} hv=>by
  cases x with
  | fn f caps =>
   obtain ⟨cs,h1,h2⟩:=hv
   exact ⟨cs,h1,h2.mapRight fun _ _ hr=>hP hr⟩
  | agg cells=>simp only [bN,da] at hv;cases hv
  | tup vs=>simp only [bN,da] at hv;cases hv
  | ms id st off len =>
   have:=hP (x:=.ms id st off len) hv
   simp only [kI]
   generalize hy:jN i o (.ms id st off len)=y at this
   simp only [jN] at hy
   split at hy
   ·split at hy<;>(subst hy;exact this)
   ·subst hy;exact this
  | mp id st row off =>
   have:=hP (x:=.mp id st row off) hv
   simp only [kI]
   generalize hy:jN i o (.mp id st row off)=y at this
   simp only [jN] at hy
   split at hy
   ·split at hy
    ·split at hy<;>(subst hy;exact this)
    ·subst hy;exact this
   ·subst hy;exact this
  | mm id k =>
   have:=hP (x:=.mm id k) hv
   simp only [kI]
   generalize hy:jN i o (.mm id k)=y at this
   simp only [jN] at hy
   split at hy
   ·split at hy<;>(subst hy;exact this)
   ·subst hy;exact this
  | _ =>
   simp only [bN,da] at hv
   exact IRel.toC (IRel.tr hv ht.keep)
 have hG:∀{v x},dn bl (aZ bl c.MF h) w v x→dn bl (aZ bl c.MF (fun j=>if j=i then none else (h j).map (fu i o))) w v (tF i o x):=fun {v x} hv=>by
  cases x with
  | agg cells =>
   obtain ⟨cs,h1,h2⟩:=hv
   exact ⟨cs,h1,h2.mapRight fun _ _ hr=>hC hr⟩
  | _ =>
   simp only [dn] at hv
   simp only [tF]
   exact (hC hv).toG
 have hV:∀{v x},aR bl (aZ bl c.MF h) w v x→aR bl (aZ bl c.MF (fun j=>if j=i then none else (h j).map (fu i o))) w v (lE i o x):=fun {v x} hv=>by
  cases x with
  | any=>trivial
  | tup vs =>
   obtain ⟨cs,h1,h2⟩:=hv
   exact ⟨cs,h1,h2.mapRight fun _ _ hr=>hG hr⟩
  | _ =>
   simp only [aR] at hv
   simp only [lE]
   exact (hG hv).toV
 refine ⟨⟨s.defers,s.size,fun k=>hV (s.env k),⟨fun j oj hj=>?_,fun j j' oj oj' q h1 h2=>?_⟩,s.step,fun j oj q h1 h2=>?_,s.stab,s.mf⟩,fun v x hv=>hV hv⟩
 ·obtain ⟨hne,q0,h1,rfl⟩:=hsub hj
  rcases s.heap.1 j q0 h1 with hn | ⟨b,hb,⟨gk,c1,fr,h2,h3,h4,h5,h6,h7⟩ | hsp⟩
  ·exact .inl ⟨by simp [fu,hn.2.1,hn.1],by rw [zR];exact hn.2.1,hn.2.2⟩
  rotate_left
  ·have:fu i o q0=q0:=by simp [fu,hsp.isRec]
   rw [this]
   exact .inr ⟨b,hb,.inr hsp⟩
  ·refine .inr ⟨b,hb,.inl ⟨by unfold fu;split<;>exact gk,c1,fr,by rw [TP];exact h2,h3,h4,fun k r hr=>?_,?_,fun k q r x hr hx=>?_⟩⟩
   ·rw [x_]
    unfold fu at hr
    split at hr
    ·simp only [db,cJ] at hr
     obtain ⟨r0,h8,rfl⟩:=hr
     simpa using h5 k r0 h8
    ·exact h5 k r hr
   ·rw [x_]
    unfold fu
    split<;>simpa using h6
   ·rw [x_,zR]
    unfold fu at hr
    split at hr
    ·rename_i hrc
     simp only [db,cJ] at hr
     obtain ⟨r0,h8,rfl⟩:=hr
     simp only [db,cJ] at hx
     obtain ⟨x0,h9,rfl⟩:=hx
     obtain ⟨u,hu1,hu2⟩:=h7 k q r0 x0 h8 h9
     rw [hrc] at hu2 ⊢
     exact ⟨u,hu1,hC hu2⟩
    ·rename_i hrc
     obtain ⟨u,hu1,hu2⟩:=h7 k q r x hr hx
     have hrc':q0.isRec=false:=by simpa using hrc
     rw [hrc'] at hu2 ⊢
     exact ⟨u,hu1,IRel.tr hu2 ht.keep⟩
 ·obtain ⟨_,q1,h3,_⟩:=hsub h1
  obtain ⟨_,q2,h4,_⟩:=hsub h2
  exact s.heap.2 j j' q1 q2 q h3 h4
 ·obtain ⟨_,q1,h3,_⟩:=hsub h1
  exact s.own j q1 q h3 h2
end
def I4 (i:Nat) (o:ah):List (Nat×AV)→List (Nat×AV)
 | []=>[]
 | (k,x) :: r=>(k,lE i o x) :: I4 i o r
def ES (i:Nat) (o:ah):List (Nat×ah)→List (Nat×ah)
 | []=>[]
 | (k,x) :: r=>(k,fu i o x) :: ES i o r
def St.frz (s:St) (i:Nat):St :=
 match ae s.heap i with
 | some o=>if o.isRec then s else ⟨I4 i o s.env,ES i o (iS s.heap i)⟩
 | none=>s
def frzs:List Nat→St→St
 | [],s=>s
 | i :: r,s=>frzs r (s.frz i)
theorem tK (i:Nat) (o:ah):∀(l:List (Nat×AV)) (k:Nat),get (I4 i o l) k=lE i o (get l k)
 | [],k=>rfl
 | (j,x) :: r,k=>by simp only [I4,get,tK i o r k];split<;>rfl
theorem oO (i:Nat) (o:ah):∀(l:List (Nat×ah)) (k:Nat),ae (ES i o l) k=(ae l k).map (fu i o)
 | [],k=>rfl
 | (j,x) :: r,k=>by simp only [ES,ae,oO i o r k];split<;>rfl
theorem bW.frz {c:jY} {s:St} {a:Act} {w:World} (hs:bW c s a w) (i:Nat):bW c (s.frz i) a w:=by
 obtain ⟨bl,hs⟩:=hs
 unfold St.frz
 split
 ·rename_i o ho
  split
  ·exact ⟨bl,hs⟩
  ·rename_i hr
   exact ⟨bl,(hs.freeze ho (by simpa using hr)).1.congr (fun k=>tK i o _ k) (fun j=>by simp only [oO,cS];split<;>simp)⟩
 ·exact ⟨bl,hs⟩
theorem bW.frzs {c:jY} {a:Act} {w:World}:∀(l:List Nat) {s:St},bW c s a w→bW c (Mw.frzs l s) a w
 | [],_,h=>h
 | i :: r,_,h=>bW.frzs r (h.frz i)
def frz1 (s:St) (i:Nat) (x:AV):AV :=
 match ae s.heap i with
 | some o=>if o.isRec then x else lE i o x
 | none=>x
def kJ:List Nat→St→AV→AV
 | [],_,x=>x
 | i :: r,s,x=>kJ r (s.frz i) (frz1 s i x)
theorem aC.frz1 {c:jY} {bl:Nat→Option Nat} {s:St} {a:Act} {w:World} (hs:aC c bl (get s.env) (ae s.heap) a w) (i:Nat) :
  aC c bl (get (s.frz i).env) (ae (s.frz i).heap) a w∧∀v x,aR bl (aZ bl c.MF (ae s.heap)) w v x→aR bl (aZ bl c.MF (ae (s.frz i).heap)) w v (Mw.frz1 s i x):=by
 unfold St.frz Mw.frz1
 cases ho:ae s.heap i with
 | none=>exact ⟨hs,fun _ _ h=>h⟩
 | some o =>
  simp only
  by_cases hr:o.isRec=true
  ·simp only [hr,dl];exact ⟨hs,fun _ _ h=>h⟩
  ·obtain ⟨h1,h2⟩:=hs.freeze ho (by simpa using hr)
   have hh:ae (ES i o (iS s.heap i))=fun j=>if j=i then none else (ae s.heap j).map (fu i o):=by
    funext j
    simp only [oO,cS]
    split<;>simp
   simp only [hr,fA,iR]
   exact ⟨h1.congr (fun k=>tK i o _ k) (fun j=>by rw [hh]),fun v x hv=>by rw [hh];exact h2 v x hv⟩
theorem aC.frzs {c:jY} {bl:Nat→Option Nat} {a:Act} {w:World}:∀(fs:List Nat) (s:St),aC c bl (get s.env) (ae s.heap) a w →
  aC c bl (get (Mw.frzs fs s).env) (ae (Mw.frzs fs s).heap) a w∧∀v x,aR bl (aZ bl c.MF (ae s.heap)) w v x→aR bl (aZ bl c.MF (ae (Mw.frzs fs s).heap)) w v (kJ fs s x)
 | [],s,hs=>⟨hs,fun _ _ h=>h⟩
 | i :: r,s,hs=>by
  obtain ⟨h1,h2⟩:=hs.frz1 i
  obtain ⟨h3,h4⟩:=aC.frzs r (s.frz i) h1
  exact ⟨h3,fun v x hv=>h4 v _ (h2 v x hv)⟩
structure ax where
 o:aM
 bef:List Nat
 deriving Inhabited
inductive be where
 | skip
 | ret
 | exit (id:Nat)
 | seq (x y:be)
 | cut (x y:be)
 | cond (c:IV) (t e:be)
 | block (id:Nat) (x:be)
 | loop (x:be)
 | reg (ops:List aM) (dr:List Nat)
 | draw (ops:List ax) (al:List (Nat×Nat)) (dr:List Nat)
 | free (ops:List ax) (al:List (Nat×Nat)) (dr:List Nat)
 | wild (ops:List ax) (al:List (Nat×Nat)) (dr:List Nat)
 deriving Inhabited
inductive IX where
 | nrm
 | ret
 | ext (id:Nat)
def oP (P:Program) [aV P] (f:FuncId) (args:List AV) (d:Option Nat) (s:St) (K:St→Prop):Prop :=
 (∃args' r b,aj P f args' r∧(∀x∈args',aI x=[])∧aH (MS b (ae s.heap)) args args'∧(b=true→iX r=true)∧K (s.put d r)) ∨
 ∃σ0 Sb Post ks,bu P f args σ0 Sb Post∧(∀id o,ae σ0 id=some o→ae s.heap id=some o) ∧
  (∀r σ',Post r σ'→∀id,(ae σ' id).isSome=true→(Sb id∧(ae σ0 id).isSome=true)∨(id∈ks∧(id<1000∨2000≤id)∧((ae σ0 id).isSome=true∨ae s.heap id=none))) ∧
  ∀r σ',Post r σ'→∃s':St,(∀k,get s'.env k=j9 ks (get s.env k))∧(∀j,ae s'.heap j=Dw ks (ae σ0) (ae σ') (ae s.heap) j)∧K (s'.put d r)
def dC (s:St) (l:List AV) (s':St) (l':List AV):Prop:=∀(c:jY) (a:Act) (w:World) (bl:Nat→Option Nat) (vs:List Value),aC c bl (get s.env) (ae s.heap) a w→aH (aR bl (aZ bl c.MF (ae s.heap)) w) vs l →
 ∃bl',aC c bl' (get s'.env) (ae s'.heap) a w∧aH (aR bl' (aZ bl' c.MF (ae s'.heap)) w) vs l'
def ci (P:Program) [aV P] (f:FuncId) (args:List AV) (d:Option Nat) (s:St) (K:St→Prop):Prop :=
 oP P f args d s K∨(∃fs,oP P f (args.map (kJ fs s)) d (frzs fs s) K)∨∃s' args',dC s args s' args'∧oP P f args' d s' K
def Wk (s s':St):Prop:=∀(c:jY) (a:Act) (w:World),bW c s a w→bW c s' a w
def AA (o:aM) (s:St) (K:St→Prop):Prop :=
 match bB (o.dst.getD 0) o.op (val (get (s.kill (o.dst.getD 0)).env)) (ae (s.kill (o.dst.getD 0)).heap) with
 | some (v,e)=>K (((s.kill (o.dst.getD 0)).eff e).put o.dst v)
 | none=>False
def Iq (o:aM) (s:St) (K:St→Prop):Prop:=∃s',Wk s s'∧AA o s' K
def fW (P:Program) [aV P] (o:aM) (s:St) (K:St→Prop):Prop :=
 match o.op with
 | .call f args=>ci P f (args.map (val (get s.env))) o.dst s K
 | .callv f args=>match val (get s.env) f with
  | .fn f caps=>if f<4000000 then bU P f=true∧ci P f (args.map (val (get s.env))++caps) o.dst s K else bU P (f - 4000000)=true∧ci P (f - 4000000) (caps.take 1++args.map (val (get s.env))++caps.drop 1) o.dst s K
  | _=>False
 | .bsl t st rows ps=>(o.dst.getD 0<1000∧match bB (o.dst.getD 0) (.bsl t st rows ps) (val (get (s.kill (o.dst.getD 0)).env)) (ae (s.kill (o.dst.getD 0)).heap) with
   | some (v,e)=>K (((s.kill (o.dst.getD 0)).eff e).put o.dst v)
   | none=>Iq o s K)
 | .snl b x=>match val (get s.env) x with
  | .sl _ []=>K (s.put o.dst (.bool b))∧K (s.put o.dst (.bool (!b)))
  | x=>match Bi b x with
   | some v=>K (s.put o.dst v)
   | none=>False
 | op=>if dp op then
   (o.dst.getD 0<1000∧match bB (o.dst.getD 0) op (val (get (s.kill (o.dst.getD 0)).env)) (ae (s.kill (o.dst.getD 0)).heap) with
   | some (v,e)=>K (((s.kill (o.dst.getD 0)).eff e).put o.dst v)
   | none=>False)
  else match bB (o.dst.getD 0) op (val (get s.env)) (ae s.heap) with
   | some (v,e)=>K ((s.eff e).put o.dst v)
   | none=>False
def ff (P:Program) [aV P]:List aM→St→(St→Prop)→Prop
 | [],s,K=>K s
 | o :: r,s,K=>match o.g with
  | none=>fW P o s (fun s'=>ff P r s' K)
  | some (k,b)=>match get s.env k with
   | .bool t=>(t=b→fW P o (s.put (some k) (.bool b)) (fun s'=>ff P r s' K))∧(t = !b→ff P r ((s.put (some k) (.bool (!b))).put o.dst (.tup [])) K)
   | .tup []=>ff P r (s.put o.dst (.tup [])) K
   | _=>False
class inductive Ld where
 | no
 | ld
instance:Ld:=.no
structure HI where
 i:Nat
 op:List Nat
 res:List Nat
 tch:List Nat
 rb:Bool
 wr:Bool
 [ld:Ld]
abbrev vU:gS→Ld
 | .load _ _=>.ld
 | _=>.no
def HI.isLd (y:HI):Bool:=match y.ld with
 | .ld=>true
 | .no=>false
def aT.isPut:aT→Bool
 | .put ..=>true
 | _=>false
def aT.tch:aT→List Nat
 | .no=>[]
 | .put i _=>[i]
 | .new i _=>[i]
 | .reb i _=>[i]
def aT.isReb:aT→Bool
 | .reb ..=>true
 | _=>false
def aT.ids:aT→List Nat
 | .no=>[]
 | .put _ o=>dt o
 | .new _ o=>dt o
 | .reb _ o=>dt o
def aS:IV→List Nat
 | .s k=>[k]
 | .c _=>[]
def gu:Option IV→List Nat
 | some x=>aS x
 | none=>[]
def ao (o:gS):List Nat :=
 match o with
 | .mov x | .box _ _ x | .load _ x | .fadr _ x | .fld _ _ x | .len x | .slen x | .un _ x | .cvi _ x | .cvs x | .cvt x | .cvb _ x | .cvm x | .ext x _ | .nchk x | .snl _ x=>aS x
 | .pick c a b=>aS c++aS a++aS b
 | .new _ _=>[]
 | .build _ ps=>ps.flatMap fun p=>aS p.2.2
 | .bsl _ _ _ ps=>ps.flatMap fun p=>aS p.2
 | .store _ x y | .iadr _ x y | .aadr _ _ x y | .mnx _ x y | .cpy _ x y | .sib x y | .app _ _ x y | .apps _ x y | .bin _ x y | .bbin _ x y | .pbin _ x y | .sbin _ _ x y | .sidx x y | .mks _ _ _ x y=>aS x++aS y
 | .slc _ x lo hi mx=>aS x++gu lo++gu hi++gu mx
 | .sslc x lo hi=>aS x++gu lo++gu hi
 | .call _ args=>args.flatMap aS
 | .callv f args=>aS f++args.flatMap aS
 | .mkf _ caps=>caps.flatMap aS
 | .mop _ xs=>xs.flatMap aS
def cG (o:aM):List Nat:=ao o.op++(match o.g with | some (k,_)=>[k] | none=>[])
def ym (x y:HI):Bool :=
 y.tch.all (fun d=>!x.op.contains d && !x.tch.contains d)&&x.tch.all (fun d=>!y.op.contains d)&&(!x.rb||x.tch.all fun d=>!y.res.contains d)&&(!y.rb||y.tch.all fun d=>!x.res.contains d) && !(x.rb&&y.wr) && !(y.rb&&x.wr) && !(x.rb&&x.wr) && !(y.rb&&y.wr)
def gg (bef:List Nat) (x:HI) (hist:List HI):Bool:=hist.all fun y=>bef.contains y.i||ym x y
def qn (al:List (Nat×Nat)) (bef:List Nat) (x:HI):Bool:=al.all fun p=>!x.res.contains p.1||p.2==x.i||bef.contains p.2
def gI:AV→Bool
 | .any=>true
 | _=>false
def dS (o:gS) (s:St) (e:aT):Bool:=(ao o).all (fun k=>!gI (get s.env k))&&(!e.isReb||e.tch.all fun d=>s.heap.all fun p=>!(dt p.2).contains d)
def cx (o:gS) (e:List (Nat×AV)):List Nat :=
 match o with
 | .mov _=>[]
 | o=>(ao o).flatMap fun k=>aI (get e k)
def Cx (tch:List Nat) (y:HI):Bool:=(y.op.isEmpty||y.isLd)&&y.tch.isEmpty && !y.rb&&(tch.all fun d=>!y.res.contains d)&&tch.all fun d=>!y.op.contains d
def A5 (al:List (Nat×Nat)) (i:Nat) (o:ax) (hist:List HI) (s:St) (K:St→Prop):Prop :=
 match o.o.op with
 | .app t st x y=>o.o.g=none∧match bB (o.o.dst.getD 0) (.app t st x y) (val (get s.env)) (ae s.heap) with
  | some (v,e)=>((ao (.app t st x y)).all fun k=>!gI (get s.env k))=true∧e.isReb=true∧(hist.all fun z=>o.bef.contains z.i||Cx e.tch z)=true ∧
    qn al o.bef ⟨i,cx (.app t st x y) s.env,aI v++e.ids,e.tch,true,true⟩=true∧K ((s.eff e).put o.o.dst v)
  | none=>False
 | _=>False
def cu (P:Program) [aV P] (al:List (Nat×Nat)) (i:Nat) (o:ax) (hist:List HI) (s:St) (K:List HI→St→Prop):Prop :=
 match o.o.op with
 | .call f args=>(∃args' r b,aj P f args' r∧(∀x∈args',aI x=[])∧aH (MS b (ae s.heap)) (args.map (val (get s.env))) args'∧(b=true→iX r=true)∧aI r=[] ∧
   dS o.o.op s .no=true∧gg o.bef ⟨i,cx o.o.op s.env,[],[],false,false⟩ hist=true∧K (⟨i,cx o.o.op s.env,[],[],false,false⟩ :: hist) (s.put o.o.dst r)) ∨
   ∃k ob ob' Sb r,bu P f (args.map (val (get s.env))) [(k,ob)] Sb (fun r' σ'=>r'=r∧σ'=[(k,ob')])∧Sb k∧ae s.heap k=some ob∧aI r=[]∧dt ob'=[]∧k∈cx o.o.op s.env ∧
   dS o.o.op s (.put k ob')=true∧gg o.bef ⟨i,cx o.o.op s.env,[],[k],false,true⟩ hist=true∧K (⟨i,cx o.o.op s.env,[],[k],false,true⟩ :: hist) ((s.eff (.put k ob')).put o.o.dst r)
 | .callv _ _=>False
 | .app t st x y=>(match bB (o.o.dst.getD 0) (.app t st x y) (val (get s.env)) (ae s.heap) with
  | some (v,e)=>dS o.o.op s e=true∧gg o.bef ⟨i,cx o.o.op s.env,aI v++e.ids,e.tch,e.isReb,e.isPut⟩ hist=true ∧
    qn al o.bef ⟨i,cx o.o.op s.env,aI v++e.ids,e.tch,e.isReb,e.isPut⟩=true∧K (⟨i,cx o.o.op s.env,aI v++e.ids,e.tch,e.isReb,e.isPut⟩ :: hist) ((s.eff e).put o.o.dst v)
  | none=>False)∨(∃rows,x = .c .nl∧bB (o.o.dst.getD 0) (.app t st x y) (val (get s.env)) (ae s.heap)=some (.ms (o.o.dst.getD 0) st 0 rows.length,.new (o.o.dst.getD 0) ⟨t,st,rows,false⟩) ∧
   dS o.o.op s .no=true∧gg o.bef ⟨i,cx o.o.op s.env,[],[],false,false⟩ hist=true∧K (⟨i,cx o.o.op s.env,[],[],false,false⟩ :: hist) (s.put o.o.dst (.sl st rows)))
 | op=>match bB (o.o.dst.getD 0) op (val (get s.env)) (ae s.heap) with
  | some (v,e)=>dS o.o.op s e=true∧gg o.bef (@HI.mk i (cx o.o.op s.env) (aI v++e.ids) e.tch e.isReb e.isPut (vU o.o.op)) hist=true ∧
    qn al o.bef (@HI.mk i (cx o.o.op s.env) (aI v++e.ids) e.tch e.isReb e.isPut (vU o.o.op))=true∧K ((@HI.mk i (cx o.o.op s.env) (aI v++e.ids) e.tch e.isReb e.isPut (vU o.o.op)) :: hist) ((s.eff e).put o.o.dst v)
  | none=>False
def dq (P:Program) [aV P] (al:List (Nat×Nat)):Nat→List ax→List HI→St→(List HI→St→Prop)→Prop
 | _,[],hist,s,K=>K hist s
 | i,o :: r,hist,s,K=>match o.o.g with
  | none=>cu P al i o hist s (fun hist' s'=>dq P al (i+1) r hist' s' K)
  | some (k,b)=>match get s.env k with
   | .bool t=>(t=b→cu P al i o hist (s.put (some k) (.bool b)) (fun hist' s'=>dq P al (i+1) r hist' s' K)) ∧
     (t = !b→dq P al (i+1) r (⟨i,[],[],[],false,false⟩ :: hist) ((s.put (some k) (.bool (!b))).put o.o.dst (.tup [])) K)
   | .tup []=>dq P al (i+1) r (⟨i,[],[],[],false,false⟩ :: hist) (s.put o.o.dst (.tup [])) K
   | _=>False
def gV (P:Program) [aV P] (al:List (Nat×Nat)) (i:Nat) (l:List ax) (hist:List HI) (s:St) (K:St→Prop):Prop:=dq P al i l hist s fun _ s=>K s
def cP:be→be
 | .cut x y=>.seq (cP x) (cP y)
 | .seq x y=>.seq (cP x) (cP y)
 | .cond c t e=>.cond c (cP t) (cP e)
 | .block id x=>.block id (cP x)
 | .loop x=>.loop (cP x)
 | .free ops al dr=>.draw ops al dr
 | .wild ops al dr=>.draw ops al dr
 | x=>x
def refine (c:IV) (b:Bool) (s:St):St :=
 match c with
 | .s k=>s.put (some k) (.bool b)
 | .c _=>s
def rdy (R:List (Nat×ax)):List (Nat×ax):=R.filter fun t=>R.all fun q=>!t.2.bef.contains q.1
def lL {α:Type}:List α→(α→Prop)→Prop
 | [],_=>True
 | [x],F=>F x
 | x :: y :: r,F=>F x∧lL (y :: r) F
def j8 (P:Program) [aV P]:Nat→List (Nat×ax)→St→(St→Prop)→Prop
 | 0,_,s,K=>K s
 | f+1,R,s,K=>lL (rdy R) fun t=>ff P [t.2.o] s fun s'=>j8 P f (R.filter fun q=>q.1 != t.1) s' K
def ir (P:Program) [aV P]:be→St→(IX→St→Prop)→Prop
 | .skip,s,K=>K .nrm s
 | .ret,s,K=>K .ret s
 | .exit id,s,K=>K (.ext id) s
 | .seq x y,s,K=>ir P x s fun e s'=>match e with
  | .nrm=>ir P y s' K
  | e=>K e s'
 | .cut x y,s,K=>ir P x s fun e s'=>match e with
  | .nrm=>∃s'',Wk s' s''∧ir P y s'' K
  | e=>K e s'
 | .cond c t e,s,K=>match val (get s.env) c with
  | .bool b=>(b=true→ir P t (refine c true s) K)∧(b=false→ir P e (refine c false s) K)
  | _=>False
 | .block id x,s,K=>ir P x s fun e s'=>match e with
  | .ext j=>if j=id then K .nrm s' else K (.ext j) s'
  | e=>K e s'
 | .loop x,s,K=>∃I:Nat→St→Prop,(∃n s',I n s'∧Wk s s')∧∀n s,I n s→ir P x s fun e s'=>match e with
  | .nrm=>∃m s'',m<n∧I m s''∧Wk s' s''
  | e=>K e s'
 | .reg ops dr,s,K=>ff P ops s fun s'=>K .nrm ⟨dels dr s'.env,s'.heap⟩
 | .draw ops al dr,s,K=>gV P al 0 ops [] (kills (al.map (·.1)) s) fun s'=>K .nrm ⟨dels dr s'.env,s'.heap⟩
 | .wild ops al dr,s,K=>dq P al 0 ops.dropLast [] (kills (al.map (·.1)) s) fun hist s1=>match ops.getLast? with
  | some o=>A5 al (ops.length - 1) o hist s1 fun s'=>K .nrm ⟨dels dr s'.env,s'.heap⟩
  | none=>False
 | .free ops _ dr,s,K=>j8 P ops.length (ops.zipIdx.map fun p=>(p.2,p.1)) s fun s'=>K .nrm ⟨dels dr s'.env,s'.heap⟩
def s9 (P:Program) (n:Nat) (ops:Array Oper):List Oper→Option (List aM)
 | []=>some []
 | o :: r=>match lK P n ops o,s9 P n ops r with
  | some x,some xs=>some (x :: xs)
  | _,_=>none
def Ii:List Oper→List (List Nat)→List (List Nat)
 | [],acc=>acc
 | o :: r,acc=>Ii r (acc++[((o.after.toList.filter (Region.binds .any)).flatMap fun e=>e.on :: acc.getD e.on []).eraseDups])
def dN:Code→List (List Nat)
 | .region _ ops _=>[ops.toList.flatMap fun o=>o.dst.toList++o.op.operands.toList.filterMap fun | .tmp t=>some t | _=>none]
 | .seq x y=>dN x++dN y
 | .cond (.tmp t) x y=>[t] :: (dN x++dN y)
 | .cond _ x y=>dN x++dN y
 | .block _ x=>dN x
 | .loop x=>dN x
 | .scope x=>dN x
 | _=>[]
def QY (ls:List (List Nat)) (k:Nat):Bool:=2≤(ls.filter (·.contains k)).length
def yA:List Nat→Bool
 | []=>true
 | x :: r=>!r.contains x&&yA r
def gE (o:Oper):List Nat:=(o.after.toList.filter (Region.binds .any)).map (·.on)
def Rh (ops:List Oper) (bs:List (List Nat)):Bool :=
 (List.range ops.length).all fun i=>match ops[i]? with
  | none=>false
  | some o=>(gE o).all (fun d=>decide (d<i))&&(bs.getD i []).all (fun d=>(gE o).contains d||(gE o).any fun m=>(bs.getD m []).contains d)
def fI:IV→Bool
 | .s _=>true
 | .c x=>(aI x).isEmpty
def bz (op:gS):Bool :=
 match op with
 | .load _ x | .cvs x | .cvm x=>fI x
 | .store _ x y | .app _ _ x y | .apps _ x y | .cpy _ x y=>fI x&&fI y
 | .call _ args=>args.all fI
 | .mop _ args=>args.all fI
 | _=>true
def NN (bs:List (List Nat)) (l:List aM):Bool :=
 (List.range l.length).all fun i=>(List.range i).all fun j=>match l[i]?,l[j]? with
  | some x,some y=>(bs.getD i []).contains j ||
    ((match y.dst with | some d=>!(cG x).contains d&&x.dst != some d | none=>true)&&(match x.dst with | some d=>!(cG y).contains d | none=>true))
  | _,_=>false
def cm:Nat→List aM→List (Nat×Nat)
 | _,[]=>[]
 | i,o :: r=>if dp o.op then (o.dst.getD 0,i) :: cm (i+1) r else cm (i+1) r
def dK (l:List Nat):Nat→Nat→Nat
 | 0,k=>k
 | f+1,k=>if l.contains k then dK l f (k+1) else k
def AR (bs:List (List Nat)):Nat→List aM→List (Nat×List aM)×Nat
 | i,[]=>([],i)
 | i,o :: r=>match AR bs (i+1) r with
  | ([],m)=>([(i,[o])],min m (dK (bs.getD i []) i 0))
  | ((k,s) :: t,m)=>if i+1≤m then ((i,[o]) :: (k,s) :: t,min m (dK (bs.getD i []) i 0)) else ((i,o :: s) :: t,min m (dK (bs.getD i []) i 0))
def kS (bs:List (List Nat)) (i n:Nat):List (List Nat):=(List.range n).map fun k=>(bs.getD (i+k) []).filterMap fun d=>if i≤d then some (d - i) else none
def sz (rb:List (List Nat)) (s:List aM) (dr:List Nat):Option be :=
 if NN rb s&&(cm 0 s).all (fun p=>p.1<1000)&&yA ((cm 0 s).map (·.1))&&s.all (fun o=>bz o.op) then
  some (.draw (s.zipIdx.map fun p=>⟨p.1,rb.getD p.2 []⟩) (cm 0 s) dr) else none
def ED (bs:List (List Nat)) (i:Nat) (s:List aM) (dr:List Nat):Option be :=
 match s with
 | [o]=>some (.reg [o] dr)
 | s=>sz (kS bs i s.length) s dr
def wL (bs:List (List Nat)) (dr:List Nat):List (Nat×List aM)→Option be
 | []=>some (.reg [] dr)
 | (i,s) :: t=>match t with
  | []=>ED bs i s dr
  | _ :: _=>match ED bs i s [],wL bs dr t with
   | some x,some y=>some (.seq x y)
   | _,_=>none
def Iu (P:Program) (n:Nat) (ops:Array Oper) (dr:List Nat→List Nat):Option be :=
 match s9 P n ops ops.toList with
 | none=>none
 | some l=>if Rh ops.toList (Ii ops.toList []) then wL (Ii ops.toList []) (dr (l.filterMap (·.dst))) (AR (Ii ops.toList []) 0 l).1 else none
def comp (P:Program) (n:Nat) (sh:List (List Nat)):Code→Option be
 | .skip=>some .skip
 | .ret=>some .ret
 | .exit id=>some (.exit id)
 | .label _=>some .skip
 | .seq x y=>match comp P n sh x,comp P n sh y with
  | some x,some y=>some (.seq x y)
  | _,_=>none
 | .cond c x y=>match cV c,comp P n sh x,comp P n sh y with
  | some c,some x,some y=>some (.cond c x y)
  | _,_,_=>none
 | .block id x=>(comp P n sh x).map (.block id)
 | .loop x=>(comp P n sh x).map .loop
 | .scope x=>comp P n sh x
 | .region _ ops false=>match s9 P n ops ops.toList with
  | some l=>some (.reg l ((l.filterMap (·.dst)).filter fun k=>!QY sh k))
  | none=>none
 | .region _ ops true=>Iu P n ops (·.filter fun k=>!QY sh k)
 | _=>none
inductive jL where
 | tmp (k:Nat)
 | cell (k:Nat) (n:Option Nat)
 deriving Inhabited
structure az where
 n:Nat
 np:Nat
 res:List jL
 body:be
 deriving Inhabited
def zJ (P:Program):List ResultVar→Option (List jL)
 | []=>some []
 | .tmp t :: r=>if t<1000000 then (zJ P r).map (.tmp t :: ·) else none
 | .cell a t :: r=>match lF P t,zJ P r with
  | some n,some l=>if a<1000000 then some (.cell a n :: l) else none
  | _,_=>none
def uD:List ResultVar→List Nat
 | []=>[]
 | .tmp t :: r=>t :: uD r
 | .cell a _ :: r=>a :: uD r
def aq (P:Program) (f:FuncId):Option az :=
 match P.funcs[f]? with
 | none=>none
 | some fn=>match fn.body with
  | none=>none
  | some body=>match comp P fn.ntmps (uD fn.results.toList :: dN body) body,zJ P fn.results.toList with
   | some b,some rs=>if fn.params.size+fn.nfree≤fn.ntmps∧fn.ntmps≤1000000 then some ⟨fn.ntmps,fn.params.size+fn.nfree,rs,b⟩ else none
   | _,_=>none
section
variable {P:Program} [aV P] {c:jY} [CT c P] {a:Act} {w:World} {s:St} {o:Oper} {io:aM} {ops:Array Oper} {n:Nat}
theorem mh (hc:lK P n ops o=some io):jc P o.op=some io.op∧io.dst=o.dst∧(∀k,o.dst=some k→k<n) ∧
  ((o.guard=none∧io.g=none)∨∃j b k,o.guard=some (j,b)∧(ops[j]?).bind (·.dst)=some k∧io.g=some (k,b)):=by
 unfold lK at hc
 split at hc
 case h_2=>cases hc
 rename_i op h1
 have hd:(match o.dst with | some d=>decide (d<n) | none=>true)=true→∀k,o.dst=some k→k<n:=fun h k hk=>by rw [hk] at h;simpa using h
 split at hc
 ·rename_i h2 h3
  cases hc
  exact ⟨h1,rfl,hd h2,.inl ⟨h3,rfl⟩⟩
 ·rename_i j b h2 h3
  split at hc
  case h_2=>cases hc
  rename_i k hk
  cases hc
  exact ⟨h1,rfl,hd h2,.inr ⟨j,b,k,h3,hk,rfl⟩⟩
 ·cases hc
theorem gG {f:FuncId} (hb:bU P f=true) (args:Array Value):(callFunc f args).run P w = .ok (.enter f args) w:=by
 unfold bU at hb
 split at hb
 case h_2=>cases hb
 rename_i fn hf
 simp only [dV,bne_iff_ne] at hb
 obtain ⟨h1,h2⟩:=hb
 have h3:fn.body.isNone=false:=by cases h:fn.body<;>simp_all
 have h4:¬fn.body=none:=fun hn=>by simp [hn] at h1
 simp [callFunc,hf,h2,h4]
theorem jP {f:FuncId} {cargs:List Value} {args:List AV} {d:Option Nat} (hd:∀k,d=some k→k<c.n) {K:St→Prop} {bl:Nat→Option Nat} (hs:aC c bl (get s.env) (ae s.heap) a w)
  (ha:aH (aR bl (aZ bl c.MF (ae s.heap)) w) cargs args) (h:oP P f args d s K) :
  Calls P f cargs.toArray w fun e w'=>∃v,e = .returned v∧∃s',K s'∧bW c s' (a.put d v) w':=by
 rcases h with ⟨args',r,b,hp,hid,hco,hf,hk⟩ | ⟨σ0,Sb,Post,ks,hp,hσ,hks,hk⟩
 ·refine (xB hs hp ha hid b hco hf).mono fun e w' ⟨v,he,hs',hv⟩=>⟨v,he,s.put d r,hk,nX hs' d hd hv (fun _=>rfl) (fun _=>rfl)⟩
 ·refine (Aw hs hp ha hσ ks hks).mono fun e w' ⟨v,r,σ',bl2,he,hP,hs',hv⟩=>?_
  obtain ⟨s',h1,h2,h3⟩:=hk r σ' hP
  exact ⟨v,he,s'.put d r,h3,nX hs' d hd hv h1 h2⟩
theorem kL {f:FuncId} {cargs:List Value} {args:List AV} {d:Option Nat} (hd:∀k,d=some k→k<c.n) {K:St→Prop} {bl:Nat→Option Nat} (hs:aC c bl (get s.env) (ae s.heap) a w)
  (ha:aH (aR bl (aZ bl c.MF (ae s.heap)) w) cargs args) (h:ci P f args d s K) :
  Calls P f cargs.toArray w fun e w'=>∃v,e = .returned v∧∃s',K s'∧bW c s' (a.put d v) w':=by
 rcases h with h | ⟨fs,h⟩ | ⟨s',args',hw,h⟩
 ·exact jP hd hs ha h
 ·obtain ⟨h1,h2⟩:=aC.frzs fs s hs
  exact jP hd h1 (ha.mapRight fun v x hv=>h2 v x hv) h
 ·obtain ⟨bl',h1,h2⟩:=hw c a w bl cargs hs ha
  exact jP hd h1 h2 h
theorem iP {f:FuncId} {args:Array Value} {K:Act→World→Prop} {Q:Exit→Act→World→Prop} (hr:(execOp a.eval o).run P w = .ok (.enter f args) w)
  (h:Calls P f args w fun e w'=>∃v,e = .returned v∧K (a.put o.dst v) w'):o.wp P a w K Q:=by
 unfold Oper.wp
 rw [hr]
 simp only [Oper.upon]
 refine h.mono fun e w' ⟨v,he,hk⟩=>?_
 subst he
 exact hk
theorem sQ {v:AV} {e:aT} {K:Act→World→Prop} {Q:Exit→Act→World→Prop} {g:Nat→AV} {h:Nat→Option ah} (hok:aQ P c o a w g h v e)
  (hk:∀r w' bl',aC c bl' (e.env g) (e.hp h) a w'→aR bl' (aZ bl' c.MF (e.hp h)) w' r v→K (a.put o.dst r) w'):o.wp P a w K Q:=by
 obtain ⟨r,w',bl',hr,h1,h2⟩:=hok
 unfold Oper.wp
 rcases hr with hr | ⟨hr,rfl⟩
 ·rw [hr];exact hk r w' bl' h1 h2
 ·rw [hr];exact hk undef w' bl' h1 h2
theorem jt {bl:Nat→Option Nat} {g:Nat→AV} {h:Nat→Option ah} (hs:aC c bl g h a w) {cs:Array Operand} {vs:List IV} (hv:Iv cs.toList=some vs):aH (aR bl (aZ bl c.MF h) w) (cs.map a.eval).toList (vs.map (val g)):=by
 rw [Array.toList_map]
 exact x3 hs hv
theorem zI {oo:Op} {f:FuncId} {args:List IV} (h:jc P oo=some (.call f args)):∃cl,oo = .call cl∧cl.callee = .value (.func f)∧bU P f=true∧Iv cl.args.toList=some args:=by
 cases oo<;>simp only [jc] at h
 case call cl =>
  unfold zG at h
  split at h
  ·rename_i f' hcl
   split at h
   case isFalse=>obtain ⟨_,_,_,_,_,_,_,_,_,_,_,_,q⟩:=kE h;cases q
   rename_i hb
   simp only [cJ] at h
   obtain ⟨vs,hv,h⟩:=h
   cases h
   exact ⟨cl,rfl,hcl,hb,hv⟩
  all_goals
   exfalso
   repeat' (split at h)
   all_goals first
    | (cases h;done)
    | (obtain ⟨_,_,_,_,_,_,_,_,_,_,_,_,q⟩:=kE h;cases q;done)
    | (simp only [cJ] at h;obtain ⟨_,_,h⟩:=h;cases h)
 case binOp =>
  split at h
  ·unfold It at h;repeat' (split at h)
   all_goals cases h
  ·cases h
 case convert =>
  split at h
  ·unfold zH at h
   repeat' (split at h)
   all_goals cases h
  ·cases h
 case makeFunc fn first caps =>
  cases fn<;>simp only [jc] at h<;>try (cases h;done)
  split at h
  ·simp only [cJ] at h;obtain ⟨_,_,h⟩:=h;cases h
  ·cases h
 all_goals
  exfalso
  repeat' (split at h)
  all_goals first
   | (cases h;done)
   | (simp only [cJ] at h;obtain ⟨_,_,h⟩:=h;cases h;done)
   | (simp_all;done)
theorem EC {oo:Op} {f:IV} {args:List IV} (h:jc P oo=some (.callv f args)):∃cl t,oo = .call cl∧cl.callee = .value (.tmp t)∧f = .s t∧Iv cl.args.toList=some args:=by
 cases oo<;>simp only [jc] at h
 case call cl =>
  unfold zG at h
  split at h
  case h_2 =>
   rename_i t hcl
   split at h
   case isFalse=>cases h
   simp only [cJ] at h
   obtain ⟨vs,hv,h⟩:=h
   cases h
   exact ⟨cl,t,rfl,hcl,rfl,hv⟩
  all_goals
   exfalso
   repeat' (split at h)
   all_goals first
    | (cases h;done)
    | (obtain ⟨_,_,_,_,_,_,_,_,_,_,_,_,q⟩:=kE h;cases q;done)
    | (simp only [cJ] at h;obtain ⟨_,_,h⟩:=h;cases h)
 case binOp =>
  split at h
  ·unfold It at h;repeat' (split at h)
   all_goals cases h
  ·cases h
 case convert =>
  split at h
  ·unfold zH at h
   repeat' (split at h)
   all_goals cases h
  ·cases h
 case makeFunc fn first caps =>
  cases fn<;>simp only [jc] at h<;>try (cases h;done)
  split at h
  ·simp only [cJ] at h;obtain ⟨_,_,h⟩:=h;cases h
  ·cases h
 all_goals
  exfalso
  repeat' (split at h)
  all_goals first
   | (cases h;done)
   | (simp only [cJ] at h;obtain ⟨_,_,h⟩:=h;cases h;done)
   | (simp_all;done)
theorem NU {oo:Op} {b:Bool} {x:IV} (h:jc P oo=some (.snl b x)):∃op t y z t' e,oo = .binOp op t y z t'∧P.underlying t=some (.slice e)∧((op = .eql∧b=false)∨(op = .neq∧b=true))∧cV y=some x∧cV z=some (.c .nl):=by
 cases oo<;>simp only [jc] at h
 case binOp op t y z t' =>
  split at h
  case h_2=>cases h
  rename_i yv zv h1 h2
  unfold It at h
  split at h
  case h_7 =>
   rename_i e ht
   split at h
   ·cases h;exact ⟨_,_,_,_,_,_,rfl,ht,.inl ⟨rfl,rfl⟩,h1,h2⟩
   ·cases h;exact ⟨_,_,_,_,_,_,rfl,ht,.inr ⟨rfl,rfl⟩,h1,h2⟩
   ·cases h
  all_goals
   repeat' (split at h)
   all_goals cases h
 case call cl =>
  unfold zG at h
  exfalso
  repeat' (split at h)
  all_goals first
   | (cases h;done)
   | (obtain ⟨_,_,_,_,_,_,_,_,_,_,_,_,q⟩:=kE h;cases q;done)
   | (simp only [cJ] at h;obtain ⟨_,_,h⟩:=h;cases h)
 case convert =>
  split at h
  ·unfold zH at h
   repeat' (split at h)
   all_goals cases h
  ·cases h
 case makeFunc fn first caps =>
  cases fn<;>simp only [jc] at h<;>try (cases h;done)
  split at h
  ·simp only [cJ] at h;obtain ⟨_,_,h⟩:=h;cases h
  ·cases h
 all_goals
  exfalso
  repeat' (split at h)
  all_goals first
   | (cases h;done)
   | (simp only [cJ] at h;obtain ⟨_,_,h⟩:=h;cases h;done)
   | (simp_all;done)
theorem Fd (hc:lK P n ops o=some io) (hn:c.n=n) {K:St→Prop} (h:fW P io s K) (hs:bW c s a w) (Q:Exit→Act→World→Prop) :
  o.wp P a w (fun a' w'=>∃s',K s'∧bW c s' a' w') Q:=by
 obtain ⟨h1,h2,h3,_⟩:=mh hc
 obtain ⟨bl,hs⟩:=hs
 have hd:∀k,io.dst=some k→k<c.n:=fun k hk=>by rw [hn];exact h3 k (h2▸hk)
 have plain:∀{s:St} {bl:Nat→Option Nat},aC c bl (get s.env) (ae s.heap) a w→(dp io.op=true→ae s.heap (io.dst.getD 0)=none∧cy (io.dst.getD 0) (get s.env) (ae s.heap)∧(io.dst.getD 0<1000∨2000≤io.dst.getD 0)) →
   (match bB (io.dst.getD 0) io.op (val (get s.env)) (ae s.heap) with
    | some (v,e)=>K ((s.eff e).put io.dst v)
    | none=>False)→o.wp P a w (fun a' w'=>∃s',K s'∧bW c s' a' w') Q:=by
  intro s bl hs hnew hm
  split at hm
  case h_2=>exact hm.elim
  rename_i v e he
  refine sQ (Bj hs h1 he hnew) (fun r w' bl' q1 q2=>⟨_,hm,?_⟩)
  rw [← h2]
  exact nX q1 io.dst hd q2 (C_ s e) (zY s e)
 unfold fW at h
 split at h
 ·rename_i f args hop
  rw [hop] at h1
  obtain ⟨cl,hoo,hcl,hb,hv⟩:=zI h1
  refine iP (f:=f) (args:=cl.args.map a.eval) ?_ ?_
  ·have:=gG (w:=w) hb (cl.args.map a.eval)
   simp [execOp,hoo,resolve,hcl,Act.eval,Deferred.ofValue,invoke,this]
  ·have:=kL hd hs (jt hs hv) h
   simp only [Array.toArray_toList] at this
   rw [← h2]
   exact this
 ·rename_i f args hop
  rw [hop] at h1
  obtain ⟨cl,t,hoo,hcl,rfl,hv⟩:=EC h1
  split at h
  case h_2=>exact h.elim
  rename_i f caps hval
  have hf:=hs.env t
  simp only [val] at hval
  rw [hval] at hf
  obtain ⟨cs,hf1,hf2⟩:=hf
  have hev:a.eval (.tmp t) = .func (.func (QU f)) (cs.take (Ob f)).toArray (cs.drop (Ob f)).toArray:=by
   rw [(yX (a:=a) (k:=t) (fun b hb=>by rw [hb] at hf1;cases hf1)).2] at hf1
   exact hf1
  have lift:∀{vs:List Value} {xs:List AV},aH (da bl (aZ bl c.MF (ae s.heap)) w) vs xs→aH (aR bl (aZ bl c.MF (ae s.heap)) w) vs xs:=fun hr=>hr.mono fun _ x _ hr=>(show aR bl (aZ bl c.MF (ae s.heap)) w _ x from by
    cases x<;>first | exact hr | trivial | (exfalso;simp only [da] at hr;cases hr))
  by_cases hlt:f<4000000
  ·rw [av hlt] at h
   have eI:QU f=f:=av hlt
   have eK:Ob f=0:=av hlt
   rw [eI,eK] at hev
   simp only [gN,List.drop_zero] at hev
   obtain ⟨hb,h⟩:=h
   refine iP (f:=f) (args:=cl.args.map a.eval++cs.toArray) ?_ ?_
   ·have:=gG (w:=w) hb (cl.args.map a.eval++cs.toArray)
    simp [execOp,hoo,resolve,hcl,hev,Deferred.ofValue,invoke,this]
   ·have hargs:=(jt hs hv).append (lift hf2)
    have:=kL hd hs hargs h
    have e1:((cl.args.map a.eval).toList++cs).toArray=cl.args.map a.eval++cs.toArray:=by apply Array.toList_inj.1;simp
    rw [e1] at this
    rw [← h2]
    exact this
  ·rw [ar hlt] at h
   have eI:QU f=f - 4000000:=ar hlt
   have eK:Ob f=1:=ar hlt
   rw [eI,eK] at hev
   obtain ⟨hb,h⟩:=h
   refine iP (f:=f - 4000000) (args:=(cs.take 1).toArray++cl.args.map a.eval++(cs.drop 1).toArray) ?_ ?_
   ·generalize (cs.take 1).toArray=A1 at hev ⊢
    generalize (cs.drop 1).toArray=A2 at hev ⊢
    have:=gG (w:=w) hb (A1++cl.args.map a.eval++A2)
    rw [Array.append_assoc] at this
    simp [execOp,hoo,resolve,hcl,hev,Deferred.ofValue,invoke,this]
   ·have hargs:=((lift (hf2.take 1)).append (jt hs hv)).append (lift (hf2.drop 1))
    have:=kL hd hs hargs h
    have e1:((cs.take 1++(cl.args.map a.eval).toList)++cs.drop 1).toArray=(cs.take 1).toArray++cl.args.map a.eval++(cs.drop 1).toArray:=by apply Array.toList_inj.1;simp
    rw [e1] at this
    rw [← h2]
    exact this
 ·rename_i t st rows ps hop
  obtain ⟨hlt,h⟩:=h
  have go:∀{s:St} {bl:Nat→Option Nat},aC c bl (get s.env) (ae s.heap) a w→AA io s K→o.wp P a w (fun a' w'=>∃s',K s'∧bW c s' a' w') Q:=fun {s bl} hs hm=>by
   obtain ⟨bl',hk⟩:=bW.kill (i:=io.dst.getD 0) ⟨bl,hs⟩
   exact plain hk (fun _=>⟨(dE s _).1,(dE s _).2,.inl hlt⟩) hm
  split at h
  ·rename_i v e he
   refine go hs ?_
   unfold AA
   rw [hop,he]
   exact h
  ·obtain ⟨s',hw,h⟩:=h
   obtain ⟨bl',hs'⟩:=hw c a w ⟨bl,hs⟩
   exact go hs' h
 ·rename_i b x hop
  obtain ⟨op,t,y,z,t',e,hoo,ht,hb,hx,hy⟩:=NU (hop▸h1)
  have kk:∀{v:AV},aQ P c o a w (get s.env) (ae s.heap) v .no→K (s.put io.dst v)→o.wp P a w (fun a' w'=>∃s',K s'∧bW c s' a' w') Q:=fun {v} hok hk=>by
   refine sQ hok (fun r w' bl' q1 q2=>⟨_,hk,?_⟩)
   rw [← h2]
   exact nX q1 io.dst hd q2 (fun _=>rfl) (fun _=>rfl)
  split at h
  ·rename_i st hv
   have h5:=aL hs hx
   rw [hv] at h5
   have hy2:a.eval z = .slice none 0 0:=(aL hs hy).nl
   generalize hu:a.eval y=u at h5
   have h6:=h5.sl
   have fin:∀{ad n cap},a.eval y = .slice ad n cap→o.wp P a w (fun a' w'=>∃s',K s'∧bW c s' a' w') Q:=fun {ad n cap} h7=>by
    refine kk (v:=.bool (if ad.isNone then !b else b)) (aQ.pure hs (r:=.bool _) (DI hoo ht hb h7 hy2) (iJ _)) ?_
    cases ad
    ·exact h.2
    ·exact h.1
   cases h6<;>exact fin hu
  ·split at h
   case h_2=>exact h.elim
   rename_i v hv
   exact kk (BY hs hoo ht hb hx hy hv) h
 ·split at h
  ·rename_i hal
   obtain ⟨hlt,h⟩:=h
   obtain ⟨bl',hk⟩:=bW.kill (i:=io.dst.getD 0) ⟨bl,hs⟩
   exact plain hk (fun _=>⟨(dE s _).1,(dE s _).2,.inl hlt⟩) h
  ·rename_i hal
   exact plain hs (fun h=>absurd h hal) h
theorem lZ {bl:Nat→Option Nat} {M:Nat→Prop} {j k:Nat} (hj:(ops[j]?).bind (·.dst)=some k) (hk:aR bl M w (tv a k) (.tup [])):yielded ops a.tmps j=none:=by
 obtain ⟨cs,h1,h2⟩:=hk
 rw [(yX (a:=a) (k:=k) (fun b hb=>by rw [hb] at h1;cases h1)).2] at h1
 have hcs:cs=[]:=by cases cs with | nil=>rfl | cons=>exact h2.elim
 subst hcs
 have:∀b,a.tmps[k]?≠some (.bool b):=fun b hb=>by
  rw [jm,hb] at h1
  cases h1
 unfold yielded
 rw [hj]
 show (match a.tmps[k]? with | some (.bool b)=>some b | _=>none)=none
 generalize a.tmps[k]? = x at this
 cases x with
 | none=>rfl
 | some v=>cases v<;>first | rfl | exact absurd rfl (this _)
theorem mz (hn:c.n=n) (Q:Exit→Act→World→Prop) {o:Oper} {io:aM} (h1:lK P n ops o=some io) {il:List aM} {K:St→Prop} {KK:Act→World→Prop} {s:St} {a:Act} {w:World} (h:ff P (io :: il) s K) (hs:bW c s a w)
  (hK:∀s' a' w',ff P il s' K→bW c s' a' w'→KK a' w'):if Region.wanted o (yielded ops a.tmps) then o.wp P a w KK Q∨(o.asks P a w∧LetsOut Q) else KK (a.put o.dst undef) w:=by
 obtain ⟨_,hdst,hdn,hg⟩:=mh h1
 have run:∀{s:St},fW P io s (fun s'=>ff P il s' K)→bW c s a w→o.wp P a w KK Q:=fun {s} h hs =>
  Oper.wp_mono (fun a' w' ⟨s',h3,h4⟩=>hK s' a' w' h3 h4) (Fd h1 hn h hs Q)
 rcases hg with ⟨g1,g2⟩ | ⟨j,b,k,g1,g2,g3⟩
 ·rw [av (by simp [Region.wanted,g1])]
  simp only [ff,g2] at h
  exact .inl (run h hs)
 ·simp only [ff,g3] at h
  split at h
  case h_3=>exact h.elim
  case h_2 =>
   rename_i hv
   obtain ⟨bl,hsb⟩:=hs
   have hk:=hsb.env k
   rw [hv] at hk
   have hy:=lZ (ops:=ops) g2 hk
   rw [ar (by simp [Region.wanted,g1,hy])]
   refine hK _ _ w h ?_
   rw [← hdst]
   exact AQ ⟨bl,hsb⟩ io.dst (fun q hq=>by rw [hn];exact hdn q (hdst▸hq)) ()
  rename_i t hv
  obtain ⟨bl,hsb⟩:=hs
  have hk:=hsb.env k
  rw [hv] at hk
  have hkv:=hk.bool
  rw [(yX (a:=a) (k:=k) (fun b hb=>by rw [hb] at hkv;cases hkv)).2] at hkv
  have hkn:k<a.tmps.size:=by
   rcases jn k a.tmps.size with hlt | hge
   ·exact hlt
   ·rw [jm,Array.getElem?_eq_none hge] at hkv
    cases hkv
  have hy:yielded ops a.tmps j=some t:=by
   have:a.tmps[k]? = some (.bool t):=by
    rw [jm,m3 hkn] at hkv
    rw [m3 hkn]
    simpa using hkv
   simp [yielded,g2,this]
  have hput:∀q:Bool,t=q→bW c (s.put (some k) (.bool q)) a w:=fun q hq=>by
   refine ⟨bl,hsb.congr (fun i=>?_) (fun i=>rfl)⟩
   simp only [St.put,get,jO]
   by_cases hik:k=i
   ·subst hik;simp [hv,hq]
   ·have hik':¬i=k:=fun e=>hik e.symm
    simp [hik,hik']
  by_cases htb:t=b
  ·rw [av (by simp [Region.wanted,g1,hy,htb])]
   exact .inl (run (h.1 htb) (hput b htb))
  ·have htb':t = !b:=by cases t<;>cases b<;>simp_all
   rw [ar (by simp [Region.wanted,g1,hy,htb])]
   refine hK _ _ w (h.2 htb') ?_
   rw [← hdst]
   exact AQ (hput _ htb') io.dst (fun q hq=>by rw [hn];exact hdn q (hdst▸hq)) ()
theorem tU (hn:c.n=n) (Q:Exit→Act→World→Prop):∀(l:List Oper) (il:List aM),s9 P n ops l=some il→∀(s:St) (K:St→Prop) (a:Act) (w:World),ff P il s K→bW c s a w →
  (∀s' a' w',K s'→bW c s' a' w'→Q .normal a' w')→wpList P ops Q l a w
 | [],il,hc,s,K,a,w,h,hs,hQ=>by
  simp only [s9,bV] at hc
  subst hc
  exact hQ s a w h hs
 | o :: r,il,hc,s,K,a,w,h,hs,hQ=>by
  simp only [s9] at hc
  split at hc
  case h_2=>cases hc
  rename_i io il' h1 h2
  cases hc
  unfold wpList
  exact mz hn Q h1 h hs fun s' a' w' h3 h4=>tU hn Q r il' h2 s' K a' w' h3 h4 hQ
end
section
variable {g g':Nat→AV} {h h':Nat→Option ah}
theorem jH {v:IV} (hg:∀k∈aS v,g' k=g k):val g' v=val g v:=by
 cases v with
 | s k=>exact hg k (by simp [aS])
 | c x=>rfl
theorem m1 {l:List IV} (hg:∀v∈l,∀k∈aS v,g' k=g k):l.map (val g')=l.map (val g):=List.map_congr_left fun v hv=>jH (hg v hv)
theorem Fz {v:Option IV} (hg:∀x,v=some x→∀k∈aS x,g' k=g k):v.map (val g')=v.map (val g):=by
 cases v with
 | none=>rfl
 | some x=>simp only [eH];rw [jH (hg x rfl)]
theorem iY (id st off len:Nat):aI (.ms id st off len)=[id]:=rfl
theorem yc (id st row off:Nat):aI (.mp id st row off)=[id]:=rfl
theorem zl {n:Option Nat} {p:AV} (hh:∀id∈aI p,h' id=h id):gT n p h'=gT n p h:=by
 cases p<;>try rfl
 simp only [gT]
 rw [hh _ (by simp [yc])]
theorem xX {n:Nat} {p x:AV} (hh:∀id∈aI p,h' id=h id):ga n p x h'=ga n p x h:=by
 unfold ga
 split
 ·rename_i id st row off cs h1
  rw [hh id (by simp [yc])]
 ·rfl
theorem kU {st:Nat} {x:AV} (hh:∀id∈aI x,h' id=h id):eD st h' x=eD st h x:=by
 cases x<;>try rfl
 simp only [eD]
 rw [hh _ (by simp [iY])]
theorem sZ {d:Nat} {t:TypeId} {st:Nat} {x:AV} {src:Option (List (List AV))} (hh:∀id∈aI x,h' id=h id):jq d t st x src h'=jq d t st x src h:=by
 unfold jq
 cases src with
 | none=>rfl
 | some ys =>
  cases x<;>try rfl
  simp only
  rw [hh _ (by simp [iY])]
theorem Be {st:Nat} {x:AV} {src:Option (List (List AV))} (hh:∀id∈aI x,h' id=h id):qu st x src h'=qu st x src h:=by
 unfold qu
 cases src with
 | none=>rfl
 | some ys =>
  cases x<;>try rfl
  simp only
  rw [hh _ (by simp [iY])]
theorem Bf {x:AV} (hh:∀id∈aI x,h' id=h id):xU x h'=xU x h:=by
 unfold xU
 cases x<;>try rfl
 simp only
 rw [hh _ (by simp [iY])]
theorem Bh {d:Nat} {k:MK} {xs:List AV} (hh:∀x∈xs,∀id∈aI x,h' id=h id):fo d k xs h'=fo d k xs h:=by
 have hm:∀{id:Nat} {b:Bool} {r:List AV},xs = .mm id b :: r→h' id=h id:=fun {id b r} hx=>hh (.mm id b) (by rw [hx];simp) id (by simp [aI,fG,dO,er])
 unfold fo
 split<;>first | rfl | (rw [hm rfl])
theorem xW {ps:List (Nat×Nat×IV)} (hg:∀p∈ps,∀k∈aS p.2.2,g' k=g k):∀cells,gO (val g') cells ps=gO (val g) cells ps:=by
 induction ps with
 | nil=>intro cells;rfl
 | cons p r ih =>
  intro cells
  obtain ⟨off,n,v⟩:=p
  have hv:val g' v=val g v:=jH (hg (off,n,v) (by simp))
  simp only [gO,hv]
  cases eG (val g v) with
  | none=>rfl
  | some cs=>simp only [ih (fun p hp=>hg p (by simp [hp]))]
theorem zx {st:Nat} {ps:List (Nat×IV)} (hg:∀p∈ps,∀k∈aS p.2,g' k=g k):∀rows,iV (val g') st rows ps=iV (val g) st rows ps:=by
 induction ps with
 | nil=>intro cells;rfl
 | cons p r ih =>
  intro cells
  obtain ⟨off,v⟩:=p
  have hv:val g' v=val g v:=jH (hg (off,v) (by simp))
  simp only [iV,hv]
  cases eG (val g v) with
  | none=>rfl
  | some cs=>simp only [ih (fun p hp=>hg p (by simp [hp]))]
theorem Dd {v:IV} {S:List Nat} (hsub:∀k∈aS v,k∈S) (hh:∀k∈S,∀id∈aI (g k),h' id=h id) (hc:∀x,v = .c x→aI x=[]):∀id∈aI (val g v),h' id=h id:=by
 cases v with
 | s k=>intro id hid;exact hh k (hsub k (by simp [aS])) id hid
 | c x=>intro id hid;rw [show val g (.c x)=x from rfl,hc x rfl] at hid;cases hid
theorem dY {v:IV} (h:fI v=true):∀x,v = .c x→aI x=[]:=by
 rintro x rfl
 simpa [fI] using h
theorem Ep {d:Nat} {op:gS} (hg:∀k∈ao op,g' k=g k) (hh:∀k∈ao op,∀id∈aI (g k),h' id=h id) (hc:bz op=true):bB d op (val g') h'=bB d op (val g) h:=by
 have v1:∀{v:IV},(∀k∈aS v,k∈ao op)→val g' v=val g v:=fun hs=>jH fun k hk=>hg k (hs k hk)
 have vo:∀{v:Option IV},(∀x,v=some x→∀k∈aS x,k∈ao op)→v.map (val g')=v.map (val g):=fun hs=>Fz fun x hx k hk=>hg k (hs x hx k hk)
 have hp:∀{v:IV},(∀k∈aS v,k∈ao op)→(∀x,v = .c x→aI x=[])→∀id∈aI (val g v),h' id=h id:=fun hs hc=>Dd hs hh hc
 cases op with
 | mov x=>simp only [bB];rw [v1 (fun k hk=>by simp only [ao];exact hk)]
 | pick c a b =>
  simp only [bB]
  rw [v1 (v:=c) (fun k hk=>by simp only [ao,dL];simp [hk]),v1 (v:=a) (fun k hk=>by simp only [ao,dL];simp [hk]),v1 (v:=b) (fun k hk=>by simp only [ao,dL];simp [hk])]
 | new t cs=>rfl
 | box t n x=>simp only [bB];rw [v1 (fun k hk=>by simp only [ao];exact hk)]
 | build cs ps =>
  simp only [bB]
  rw [xW (fun p hp k hk=>hg k (by simp only [ao,jK];exact ⟨p,hp,hk⟩))]
 | bsl t st rows ps =>
  simp only [bB]
  rw [zx (fun p hp k hk=>hg k (by simp only [ao,jK];exact ⟨p,hp,hk⟩))]
 | load n p =>
  have hs:∀k∈aS p,k∈ao (.load n p):=fun k hk=>by simp only [ao];exact hk
  simp only [bB]
  rw [v1 hs,zl (hp hs (dY hc))]
 | store n p x =>
  simp only [bz,dV] at hc
  have hs:∀k∈aS p,k∈ao (.store n p x):=fun k hk=>by simp only [ao,dL];simp [hk]
  have hs2:∀k∈aS x,k∈ao (.store n p x):=fun k hk=>by simp only [ao,dL];simp [hk]
  simp only [bB]
  rw [v1 hs,v1 hs2,xX (hp hs (dY hc.1))]
 | fadr off p=>simp only [bB];rw [v1 (fun k hk=>by simp only [ao];exact hk)]
 | fld off n x=>simp only [bB];rw [v1 (fun k hk=>by simp only [ao];exact hk)]
 | iadr st x i =>
  simp only [bB]
  rw [v1 (v:=x) (fun k hk=>by simp only [ao,dL];simp [hk]),v1 (v:=i) (fun k hk=>by simp only [ao,dL];simp [hk])]
 | aadr st n x i =>
  simp only [bB]
  rw [v1 (v:=x) (fun k hk=>by simp only [ao,dL];simp [hk]),v1 (v:=i) (fun k hk=>by simp only [ao,dL];simp [hk])]
 | mnx m x y =>
  simp only [bB]
  rw [v1 (v:=x) (fun k hk=>by simp only [ao,dL];simp [hk]),v1 (v:=y) (fun k hk=>by simp only [ao,dL];simp [hk])]
 | cpy st x y =>
  simp only [bz,dV] at hc
  have hs:∀k∈aS x,k∈ao (.cpy st x y):=fun k hk=>by simp only [ao,dL];simp [hk]
  have hs2:∀k∈aS y,k∈ao (.cpy st x y):=fun k hk=>by simp only [ao,dL];simp [hk]
  simp only [bB]
  rw [v1 hs,v1 hs2,kU (hp hs2 (dY hc.2)),Be (hp hs (dY hc.1))]
 | cvm x =>
  have hs:∀k∈aS x,k∈ao (.cvm x):=fun k hk=>by simp only [ao];exact hk
  simp only [bB]
  rw [v1 hs,Bf (hp hs (dY hc))]
 | sib x y =>
  simp only [bB]
  rw [v1 (v:=x) (fun k hk=>by simp only [ao,dL];simp [hk]),v1 (v:=y) (fun k hk=>by simp only [ao,dL];simp [hk])]
 | mop k xs =>
  simp only [bz,eA] at hc
  have hs:∀x∈xs,∀k'∈aS x,k'∈ao (.mop k xs):=fun x hx k' hk=>by simp only [ao,jK];exact ⟨x,hx,hk⟩
  have e1:xs.map (val g')=xs.map (val g):=List.map_congr_left fun x hx=>v1 (hs x hx)
  simp only [bB]
  rw [e1]
  exact Bh fun y hy id hid=>by
   obtain ⟨x,hx,rfl⟩:=List.mem_map.1 hy
   exact hp (hs x hx) (dY (hc x hx)) id hid
 | slc st x lo hi mx =>
  have e:∀{v:Option IV} {k:Nat},k∈gu v↔∃x,v=some x∧k∈aS x:=by
   intro v k
   cases v<;>simp [gu]
  simp only [bB]
  rw [v1 (v:=x) (fun k hk=>by simp only [ao,dL];simp [hk]),vo (v:=lo) (fun y hy k hk=>by simp only [ao,dL];exact .inl (.inl (.inr (e.2 ⟨y,hy,hk⟩)))),
   vo (v:=hi) (fun y hy k hk=>by simp only [ao,dL];exact .inl (.inr (e.2 ⟨y,hy,hk⟩))),vo (v:=mx) (fun y hy k hk=>by simp only [ao,dL];exact .inr (e.2 ⟨y,hy,hk⟩))]
 | len x=>simp only [bB];rw [v1 (fun k hk=>by simp only [ao];exact hk)]
 | app t st x y =>
  simp only [bz,dV] at hc
  have hs:∀k∈aS x,k∈ao (.app t st x y):=fun k hk=>by simp only [ao,dL];simp [hk]
  have hs2:∀k∈aS y,k∈ao (.app t st x y):=fun k hk=>by simp only [ao,dL];simp [hk]
  simp only [bB]
  rw [v1 hs,v1 hs2,kU (hp hs2 (dY hc.2)),sZ (hp hs (dY hc.1))]
 | slen x=>simp only [bB];rw [v1 (fun k hk=>by simp only [ao];exact hk)]
 | sslc x lo hi =>
  have e:∀{v:Option IV} {k:Nat},k∈gu v↔∃x,v=some x∧k∈aS x:=by
   intro v k
   cases v<;>simp [gu]
  simp only [bB]
  rw [v1 (v:=x) (fun k hk=>by simp only [ao,dL];simp [hk]),vo (v:=lo) (fun y hy k hk=>by simp only [ao,dL];exact .inl (.inr (e.2 ⟨y,hy,hk⟩))),
   vo (v:=hi) (fun y hy k hk=>by simp only [ao,dL];exact .inr (e.2 ⟨y,hy,hk⟩))]
 | apps t x y =>
  simp only [bz,dV] at hc
  have hs:∀k∈aS x,k∈ao (.apps t x y):=fun k hk=>by simp only [ao,dL];simp [hk]
  have hs2:∀k∈aS y,k∈ao (.apps t x y):=fun k hk=>by simp only [ao,dL];simp [hk]
  simp only [bB]
  rw [v1 hs,v1 hs2,sZ (hp hs (dY hc.1))]
 | bin op x y =>
  simp only [bB]
  rw [v1 (v:=x) (fun k hk=>by simp only [ao,dL];simp [hk]),v1 (v:=y) (fun k hk=>by simp only [ao,dL];simp [hk])]
 | bbin op x y =>
  simp only [bB]
  rw [v1 (v:=x) (fun k hk=>by simp only [ao,dL];simp [hk]),v1 (v:=y) (fun k hk=>by simp only [ao,dL];simp [hk])]
 | pbin op x y =>
  simp only [bB]
  rw [v1 (v:=x) (fun k hk=>by simp only [ao,dL];simp [hk]),v1 (v:=y) (fun k hk=>by simp only [ao,dL];simp [hk])]
 | sbin op ls x y =>
  simp only [bB]
  rw [v1 (v:=x) (fun k hk=>by simp only [ao,dL];simp [hk]),v1 (v:=y) (fun k hk=>by simp only [ao,dL];simp [hk])]
 | un op x=>simp only [bB];rw [v1 (fun k hk=>by simp only [ao];exact hk)]
 | cvi k' x=>simp only [bB];rw [v1 (fun k hk=>by simp only [ao];exact hk)]
 | cvs x =>
  have hs:∀k∈aS x,k∈ao (.cvs x):=fun k hk=>by simp only [ao];exact hk
  simp only [bB]
  rw [v1 hs,kU (hp hs (dY hc))]
 | cvt x=>simp only [bB];rw [v1 (fun k hk=>by simp only [ao];exact hk)]
 | cvb t x=>simp only [bB];rw [v1 (fun k hk=>by simp only [ao];exact hk)]
 | call f args=>rfl
 | callv f args=>rfl
 | snl b x=>simp only [bB];rw [v1 (fun k hk=>by simp only [ao];exact hk)]
 | ext x i=>simp only [bB];rw [v1 (fun k hk=>by simp only [ao];exact hk)]
 | nchk x=>simp only [bB];rw [v1 (fun k hk=>by simp only [ao];exact hk)]
 | mkf f caps =>
  simp only [bB]
  rw [m1 (fun v hv k hk=>hg k (by simp only [ao,jK];exact ⟨v,hv,hk⟩))]
 | sidx x i =>
  simp only [bB]
  rw [v1 (v:=x) (fun k hk=>by simp only [ao,dL];simp [hk]),v1 (v:=i) (fun k hk=>by simp only [ao,dL];simp [hk])]
 | mks t st z x y =>
  simp only [bB]
  rw [v1 (v:=x) (fun k hk=>by simp only [ao,dL];simp [hk]),v1 (v:=y) (fun k hk=>by simp only [ao,dL];simp [hk])]
theorem wQ {b:Bool}:∀{l l':List AV},(∀x∈l,∀id∈aI x,h' id=h id)→aH (MS b h) l l'→aH (MS b h') l l'
 | [],[],_,_=>trivial
 | x :: l,x' :: l',hh,hc=>⟨by
   rcases hc.1 with h1 | h1 | ⟨hb,id,st,off,len,o,h1,h2,h3⟩
   ·exact .inl h1
   ·exact .inr (.inl h1)
   ·refine .inr (.inr ⟨hb,id,st,off,len,o,h1,?_,h3⟩)
    rw [hh x (by simp) id (by rw [h1];simp [iY])]
    exact h2,wQ (fun y hy=>hh y (by simp [hy])) hc.2⟩
 | [],_ :: _,_,hc=>hc.elim
 | _ :: _,[],_,hc=>hc.elim
end
def dG (g:Nat→AV) (d:Option Nat) (x:AV):Nat→AV :=
 match d with
 | some d=>c_ g d x
 | none=>g
def cln (d:Nat) (op:gS) (ρ:IV→AV) (h:Nat→Option ah) (v:AV) (e:aT):Prop:=e = .no∧dp op=true∧∃t st rows,v = .sl st rows∧bB d op ρ h=some (.ms d st 0 rows.length,.new d ⟨t,st,rows,false⟩)
def kM:gS→Bool
 | .mov _=>true
 | _=>false
def Bb (P:Program) [aV P] (o:aM) (g:Nat→AV) (h:Nat→Option ah) (v:AV) (e:aT):Prop :=
 match o.op with
 | .call f args=>(e = .no∧aI v=[]∧∃args' b,aj P f args' v∧(∀x∈args',aI x=[])∧aH (MS b h) (args.map (val g)) args'∧(b=true→iX v=true)) ∨
   ∃k ob ob' Sb,e = .put k ob'∧aI v=[]∧bu P f (args.map (val g)) [(k,ob)] Sb (fun r' σ'=>r'=v∧σ'=[(k,ob')])∧Sb k∧h k=some ob∧∃q∈ao o.op,k∈aI (g q)
 | .callv _ _=>False
 | op=>bB (o.dst.getD 0) op (val g) h=some (v,e)∨cln (o.dst.getD 0) op (val g) h v e
structure Fin (P:Program) [aV P] (o:aM) (g:Nat→AV) (h:Nat→Option ah) (v:AV) (e:aT) (x:HI) (g':Nat→AV) (h':Nat→Option ah):Prop where
 run:Bb P o g h v e
 known:∀k∈ao o.op,g k≠.any
 opnd:∀k∈ao o.op,∀id∈aI (g k),id∈x.op∨(kM o.op=true∧id∈x.res)
 alone:¬(x.rb=true∧x.wr=true)→∀i o',e = .reb i o'→∀j q,h j=some q→i∉dt q
 fresh:∀i o',e = .new i o'→h i=none
 res:∀d,d∈aI v∨d∈e.ids→d∈x.res
 tch:x.tch=e.tch
 rb:x.rb=e.isReb
 wr:x.wr=e.isPut∨(x.rb=true∧x.wr=true)
 hg:g'=dG (e.env g) o.dst v
 hh:h'=e.hp h
 ld:x.ld = .ld→∃n p,o.op = .load n p
def dw (P:Program) [aV P] (o:aM) (g:Nat→AV) (h:Nat→Option ah) (ev:Option (AV×aT)) (x:HI) (g':Nat→AV) (h':Nat→Option ah):Prop :=
 match ev with
 | some (v,e)=>(∀k b,o.g=some (k,b)→g k = .bool b)∧Fin P o g h v e x g' h'
 | none=>(∃k b,o.g=some (k,b)∧(g k = .bool (!b)∨g k = .tup []))∧g'=dG g o.dst (.tup [])∧h'=h∧x.tch=[]∧x.rb=false∧x.wr=false
section
variable {P:Program} [aV P] {o:aM} {g g' g1 g2:Nat→AV} {h h' h1 h2:Nat→Option ah} {v:AV} {e:aT}
theorem Bb.local (hr:Bb P o g h v e) (hg:∀k∈ao o.op,g' k=g k) (hh:kM o.op=false→∀k∈ao o.op,∀id∈aI (g k),h' id=h id) (hc:bz o.op=true):Bb P o g' h' v e:=by
 unfold Bb at hr ⊢
 split at hr
 ·rename_i f args hop
  rcases hr with ⟨h1,h2,args',b,h3,h4,h5,h6⟩ | ⟨k,ob,ob',Sb,h1,h2,h3,h4,h5,q,h6,h7⟩
  rotate_left
  ·refine .inr ⟨k,ob,ob',Sb,h1,h2,?_,h4,?_,q,h6,by rw [hg q h6];exact h7⟩
   ·rw [hop] at hg
    rw [m1 (fun v hv k hk=>hg k (by simp only [ao,jK];exact ⟨v,hv,hk⟩))]
    exact h3
   ·rw [hh (by rw [hop];rfl) q h6 k h7];exact h5
  refine .inl ⟨h1,h2,args',b,h3,h4,?_,h6⟩
  replace hh:=hh (by rw [hop];rfl)
  rw [hop] at hg hh hc
  rw [m1 (fun v hv k hk=>hg k (by simp only [ao,jK];exact ⟨v,hv,hk⟩))]
  refine wQ (fun x hx id hid=>?_) h5
  obtain ⟨iv,hiv,rfl⟩:=List.mem_map.1 hx
  refine Dd (S:=ao (.call f args)) (fun k hk=>by simp only [ao,jK];exact ⟨iv,hiv,hk⟩) hh ?_ id hid
  simp only [bz,eA] at hc
  exact dY (hc iv hiv)
 ·exact hr
 ·rename_i n1 n2
  have key:bB (o.dst.getD 0) o.op (val g') h'=bB (o.dst.getD 0) o.op (val g) h:=by
   by_cases hmv:kM o.op=true
   ·cases ho:o.op with
    | mov x =>
     simp only [bB]
     cases x with
     | s k=>rw [show val g' (.s k)=val g (.s k) from hg k (by rw [ho];simp [ao,aS])]
     | c y=>rfl
    | _=>rw [ho] at hmv;cases hmv
   ·exact Ep hg (hh (by simpa using hmv)) hc
  unfold cln
  rw [key]
  exact hr
theorem sI {d:Option Nat} {x:AV} {k:Nat} (hk:d≠some k):dG g d x k=g k:=by
 cases d with
 | none=>rfl
 | some d=>exact bQ _ _ (fun h=>hk (by rw [h]))
theorem P1 {i:Nat} {x:AV} (hx:fg i x≠.any):fg i x=x:=by
 unfold fg at hx ⊢
 split
 ·rename_i hm;simp [hm] at hx
 ·rfl
theorem yG {i:Nat} {x:AV} (hx:i∉aI x):fg i x=x:=by
 unfold fg
 rw [ar (fun hm=>hx (ji hm))]
theorem P0 {i:Nat} {o:ah} (hx:i∉dt o):cU i o=o:=by
 unfold cU
 split
 ·rename_i hr
  simp only [dt,hr,dl,jK,not_exists,not_and] at hx
  have:o.rows.map (fun r=>r.map (jk i))=o.rows:=by
   conv=>rhs;rw [← List.map_id o.rows]
   refine List.map_congr_left fun r hr'=>?_
   conv=>rhs;rw [id,← List.map_id r]
   refine List.map_congr_left fun y hy=>?_
   unfold jk
   rw [ar (fun hm=>hx r hr' y hy (mF hm))]
   rfl
  rw [this]
 ·rfl
theorem T0 {i:Nat} {o':ah} (ha:∀j q,h j=some q→i∉dt q):aT.hp h (.reb i o')=c_ h i (some o'):=by
 funext j
 simp only [aT.hp,c_]
 split
 ·rfl
 ·cases hj:h j with
  | none=>rfl
  | some q=>simp only [eH];rw [P0 (ha j q hj)]
theorem FJ (i j:Nat) (x:AV):fg i (fg j x)=fg j (fg i x):=by
 have hany:∀i,mV i .any=false:=fun _=>rfl
 unfold fg
 by_cases h1:mV i x=true<;>by_cases h2:mV j x=true<;>simp only [h1,h2,hany,dl,iR,fA]
theorem N9 (e e':aT):e.env (e'.env g)=e'.env (e.env g):=by
 cases e<;>cases e'<;>first | rfl | (funext k;exact FJ _ _ _)
def aT.pur (e:aT) (x:AV):AV :=
 match e with
 | .reb i _=>fg i x
 | _=>x
theorem x7 (e:aT) (d:Option Nat) (x:AV):e.env (dG g d x)=dG (e.env g) d (e.pur x):=by
 cases d with
 | none=>rfl
 | some d =>
  cases e with
  | reb i o' =>
   funext k
   simp only [aT.env,dG,aT.pur,c_]
   split<;>rfl
  | _=>rfl
theorem B4 {e:aT} {x:AV} (hx:e.isReb=true→∀d∈e.tch,d∉aI x):e.pur x=x:=by
 cases e with
 | reb i o'=>exact yG (hx rfl i (by simp [aT.tch]))
 | _=>rfl
theorem xC {d d':Option Nat} {x x':AV} (hd:∀k,d=some k→d'≠some k):dG (dG g d x) d' x'=dG (dG g d' x') d x:=by
 cases d with
 | none=>rfl
 | some d =>
  cases d' with
  | none=>rfl
  | some d' =>
   have hne:d≠d':=fun hh=>hd d rfl (by rw [hh])
   funext k
   simp only [dG,c_]
   by_cases h1:k=d<;>by_cases h2:k=d'<;>simp_all
def De (h:Nat→Option ah) (e:aT):Nat→Option ah :=
 match e with
 | .no=>h
 | .put i o=>c_ h i (some o)
 | .new i o=>c_ h i (some o)
 | .reb i o=>c_ h i (some o)
theorem Df (e:aT) (ha:∀i o',e = .reb i o'→∀j q,h j=some q→i∉dt q):e.hp h=De h e:=by
 cases e with
 | reb i ob=>exact T0 (ha i ob rfl)
 | _=>rfl
theorem ya {e:aT} {id:Nat} (hid:id∉e.tch):De h e id=h id:=by
 cases e<;>first | rfl | exact bQ _ _ (fun hh=>hid (by simp [aT.tch,hh]))
theorem I_ {e e':aT} (hd:∀d∈e.tch,d∉e'.tch):De (De h e) e'=De (De h e') e:=by
 have key:∀(i j:Nat) (p q:Option ah),i≠j→c_ (c_ h i p) j q=c_ (c_ h j q) i p:=fun i j p q hij=>by
  funext k
  simp only [c_]
  by_cases h1:k=i<;>by_cases h2:k=j<;>simp_all
 cases e<;>cases e'<;>first | rfl | exact key _ _ _ _ (by simpa [aT.tch] using hd)
theorem TZ {e:aT} {j:Nat} {q:ah} (hq:De h e j=some q):(h j=some q)∨dt q=e.ids:=by
 cases e with
 | no=>exact .inl hq
 | put i ob =>
  simp only [De,c_] at hq
  split at hq
  ·cases hq;exact .inr rfl
  ·exact .inl hq
 | new i ob =>
  simp only [De,c_] at hq
  split at hq
  ·cases hq;exact .inr rfl
  ·exact .inl hq
 | reb i ob =>
  simp only [De,c_] at hq
  split at hq
  ·cases hq;exact .inr rfl
  ·exact .inl hq
theorem NJ {d:Nat} {op:gS} {ρ:IV→AV} {j:Nat} {o':ah} (hr:bB d op ρ h=some (v,.reb j o')):∃q,h j=some q∧q.isRec=false:=by
 have happ:∀{t st x src},jq d t st x src h=some (v,.reb j o')→∃q,h j=some q∧q.isRec=false:=by
  intro t st x src ha
  unfold jq at ha
  split at ha
  ·cases ha
  ·split at ha
   ·split at ha
    ·cases ha
    ·split at ha
     ·rename_i ob hob
      split at ha
      ·rename_i hc
       cases ha
       exact ⟨ob,hob,hc.2.2.2.1⟩
      ·cases ha
     ·cases ha
    ·cases ha
   ·cases ha
 have hres:∀{y:Option AV},res y≠some (v,.reb j o'):=fun hh=>by
  have:=(bj hh).2
  cases this
 cases op<;>simp only [bB] at hr
 case app=>exact happ hr
 case apps=>exact happ hr
 case cpy=>obtain ⟨_,_,q⟩:=s5 hr;cases q
 case cvm=>obtain ⟨_,_,_,_,_,_,_,_,_,_,_,_,q⟩:=kz hr;cases q
 case mop=>rcases na hr with q | ⟨_,q,_⟩ | ⟨_,_,_,_,_,q⟩<;>cases q
 all_goals
  exfalso
  first
   | exact hres hr
   | (cases hr;done)
   | (simp only [cJ,Prod.mk.injEq] at hr
      obtain ⟨e',h1,_,h2⟩:=hr
      subst h2
      unfold ga at h1
      repeat' (split at h1)
      all_goals cases h1)
   | (repeat' (split at hr)
      all_goals first | (cases hr;done) | exact hres hr)
structure Hm (x y:HI):Prop where
 a:∀d∈y.tch,d∉x.op∧d∉x.tch
 b:∀d∈x.tch,d∉y.op
 c:x.rb=true→∀d∈x.tch,d∉y.res
 d:y.rb=true→∀d∈y.tch,d∉x.res
 e:¬(x.rb=true∧y.wr=true)
 f:¬(y.rb=true∧x.wr=true)
 g:¬(x.rb=true∧x.wr=true)
 h:¬(y.rb=true∧y.wr=true)
structure Wu (x y:HI):Prop where
 r:x.rb=true
 w:x.wr=true
 op:y.op=[]∨y.ld = .ld
 nop:∀d∈x.tch,d∉y.op
 tch:y.tch=[]
 rb:y.rb=false
 res:∀d∈x.tch,d∉y.res
def Mt (x y:HI):Prop:=Hm x y∨Wu x y
theorem Hm.of {x y:HI} (hm:ym x y=true):Hm x y:=by
 simp only [ym,dV,eA,wx,vL,List.contains_eq_mem,decide_eq_false_iff_not] at hm
 obtain ⟨⟨⟨⟨⟨⟨⟨h1,h2⟩,h3⟩,h4⟩,h5⟩,h6⟩,h7⟩,h8⟩:=hm
 refine ⟨h1,h2,fun hr=>?_,fun hr=>?_,fun hr=>?_,fun hr=>?_,fun hr=>?_,fun hr=>?_⟩
 ·rcases h3 with h3 | h3
  ·rw [h3] at hr;cases hr
  ·exact h3
 ·rcases h4 with h4 | h4
  ·rw [h4] at hr;cases hr
  ·exact h4
 ·simp [hr.1,hr.2] at h5
 ·simp [hr.1,hr.2] at h6
 ·simp [hr.1,hr.2] at h7
 ·simp [hr.1,hr.2] at h8
structure wy (o o':aM):Prop where
 a:∀d,o.dst=some d→d∉cG o'∧o'.dst≠some d
 b:∀d,o'.dst=some d→d∉cG o
theorem kN (k:Nat) (o:aM) (hk:k∈ao o.op):k∈cG o:=by simp [cG,hk]
theorem ud (k:Nat) (b:Bool) (o:aM) (hk:o.g=some (k,b)):k∈cG o:=by simp [cG,hk]
def j5 (ev:Option (AV×aT)):AV:=match ev with | some (v,_)=>v | none=>.tup []
def dg (ev:Option (AV×aT)):aT:=match ev with | some (_,e)=>e | none=>.no
def fE (o:aM):List Nat:=match o.g with | some (k,_)=>[k] | none=>[]
theorem dw.state {ev:Option (AV×aT)} {x:HI} (hs:dw P o g h ev x g' h'):g'=dG ((dg ev).env g) o.dst (j5 ev)∧h'=(dg ev).hp h∧x.tch=(dg ev).tch∧x.rb=(dg ev).isReb∧(¬(x.rb=true∧x.wr=true)→x.wr=(dg ev).isPut) ∧
  (¬(x.rb=true∧x.wr=true)→∀i o',dg ev = .reb i o'→∀j q,h j=some q→i∉dt q)∧(∀d,d∈aI (j5 ev)∨d∈(dg ev).ids→d∈x.res)∧(∀i o',dg ev = .new i o'→h i=none)∧(∀i o',dg ev = .reb i o'→∃q,h i=some q∧q.isRec=false):=by
 cases ev with
 | none=>obtain ⟨_,h1,h2,h3,h4,h5⟩:=hs;exact ⟨h1,h2,h3,h4,fun _=>h5,fun _ i o' he=>by simp [dg] at he,fun d hd=>by
   rcases hd with hd | hd
   ·simp [j5,aI,fG,dO,er] at hd
   ·simp [dg,aT.ids] at hd,fun i o' he=>by simp [dg] at he,fun i o' he=>by simp [dg] at he⟩
 | some p =>
  obtain ⟨v,e⟩:=p
  obtain ⟨_,hf⟩:=hs
  refine ⟨hf.hg,hf.hh,hf.tch,hf.rb,fun hw=>hf.wr.resolve_right hw,hf.alone,hf.res,hf.fresh,fun i o' he=>?_⟩
  simp only [dg] at he
  subst he
  have hr:=hf.run
  unfold Bb at hr
  split at hr
  ·rcases hr with hr | ⟨_,_,_,_,hr,_⟩
   ·cases hr.1
   ·cases hr
  ·exact hr.elim
  ·rcases hr with hr | ⟨hr,_⟩
   ·exact NJ hr
   ·cases hr
theorem dw.local {ev:Option (AV×aT)} {x:HI} (hs:dw P o g h ev x g' h') (hg:∀k∈fE o,g1 k=g k) (hg2:ev.isSome=true→∀k∈ao o.op,g1 k=g k) (hh:ev.isSome=true→kM o.op=false→∀k∈ao o.op,∀id∈aI (g k),h1 id=h id) (hc:bz o.op=true)
  (ha:¬(x.rb=true∧x.wr=true)→∀i o',dg ev = .reb i o'→∀j q,h1 j=some q→i∉dt q) (hn:∀i o',dg ev = .new i o'→h1 i=none):dw P o g1 h1 ev x (dG ((dg ev).env g1) o.dst (j5 ev)) ((dg ev).hp h1):=by
 cases ev with
 | none =>
  obtain ⟨⟨k,b,h2,h3⟩,_,_,h4⟩:=hs
  exact ⟨⟨k,b,h2,by rw [hg k (by simp [fE,h2])];exact h3⟩,rfl,rfl,h4⟩
 | some p =>
  obtain ⟨v,e⟩:=p
  obtain ⟨h2,hf⟩:=hs
  refine ⟨fun k b hk=>by rw [hg k (by simp [fE,hk])];exact h2 k b hk,⟨?_,fun k hk=>?_,fun k hk id hid=>?_,ha,hn,hf.res,hf.tch,hf.rb,hf.wr,rfl,rfl,hf.ld⟩⟩
  ·exact hf.run.local (hg2 rfl) (hh rfl) hc
  ·rw [hg2 rfl k hk];exact hf.known k hk
  ·rw [hg2 rfl k hk] at hid;exact hf.opnd k hk id hid
theorem af6 {m i:aM} {evm evi:Option (AV×aT)} {y x:HI} (hm:dw P m g h evm y g1 h1) (hi:dw P i g1 h1 evi x g2 h2) (hap:wy m i) (hmt:Hm x y) (hcm:bz m.op=true) (hci:bz i.op=true) :
  ∃g3 h3,dw P i g h evi x g3 h3∧dw P m g3 h3 evm y g2 h2:=by
 obtain ⟨gm,hhm,tm,rm,wm,am,resm,fm,bm⟩:=hm.state
 obtain ⟨gi,hhi,ti,ri,wi,ai,resi,fi,bi⟩:=hi.state
 replace wm:=wm hmt.h
 replace am:=am hmt.h
 replace wi:=wi hmt.g
 replace ai:=ai hmt.g
 rw [Df _ am] at hhm
 rw [Df _ ai] at hhi
 have same:∀id,id∉(dg evm).tch→h1 id=h id:=fun id hid=>by rw [hhm];exact ya hid
 have gsub:∀(o:aM) k,k∈fE o→k∈cG o:=fun o k hk=>by
  unfold fE at hk
  split at hk
  ·rename_i k' b hg;simp at hk;subst hk;exact ud k b o hg
  ·simp at hk
 have gval:∀{o:aM} {g h ev x g' h'},dw P o g h ev x g' h'→∀k∈fE o,(∃b,g k = .bool b)∨g k = .tup []:=by
  intro o g h ev x g' h' hs k hk
  unfold fE at hk
  split at hk
  ·rename_i k' b hg
   simp at hk
   subst hk
   cases ev with
   | none=>obtain ⟨⟨k2,b2,h3,h4⟩,_⟩:=hs;rw [hg] at h3;cases h3;exact h4.imp (fun h=>⟨_,h⟩) (fun h=>h)
   | some p=>exact .inl ⟨b,hs.1 k b hg⟩
  ·simp at hk
 have keep1:∀k,k∈cG i→g1 k≠.any→g1 k=g k:=fun k hk hna=>by
  rw [gm] at hna ⊢
  have e1:dG ((dg evm).env g) m.dst (j5 evm) k=(dg evm).env g k:=sI (fun hdk=>(hap.a k hdk).1 hk)
  rw [e1] at hna ⊢
  cases he:dg evm with
  | reb q ob=>rw [he] at hna;exact P1 hna
  | _=>rfl
 have rdg:∀k∈fE i,g k=g1 k:=fun k hk=>by
  rcases gval hi k hk with ⟨b,hb⟩ | hb<;>exact (keep1 k (gsub i k hk) (by rw [hb];simp)).symm
 have rdo:evi.isSome=true→∀k∈ao i.op,g k=g1 k:=fun hs k hk=>by
  obtain ⟨p,rfl⟩:=Option.isSome_iff_exists.1 hs
  exact (keep1 k (kN k i hk) (hi.2.known k hk)).symm
 have rdh:evi.isSome=true→kM i.op=false→∀k∈ao i.op,∀id∈aI (g1 k),h id=h1 id:=fun hs hmv k hk id hid=>by
  obtain ⟨p,rfl⟩:=Option.isSome_iff_exists.1 hs
  refine (same id (fun ht=>?_)).symm
  rw [← tm] at ht
  rcases hi.2.opnd k hk id hid with q | ⟨q,_⟩
  ·exact (hmt.a id ht).1 q
  ·rw [hmv] at q;cases q
 have ai':∀q o',dg evi = .reb q o'→∀j p,h j=some p→q∉dt p:=fun q o' he j p hp=>by
  by_cases hj:j∈(dg evm).tch
  ·cases hem:dg evm with
   | no=>rw [hem] at hj;simp [aT.tch] at hj
   | put j' ob =>
    exfalso
    refine hmt.e ⟨by rw [ri,he];rfl,by rw [wm,hem];rfl⟩
   | new j' ob =>
    rw [hem] at hj
    simp [aT.tch] at hj
    subst hj
    rw [fm j ob hem] at hp
    cases hp
   | reb j' ob =>
    rw [hem] at hj
    simp [aT.tch] at hj
    subst hj
    obtain ⟨q',h3,h4⟩:=bm j ob hem
    rw [hp] at h3
    cases h3
    simp [dt,h4]
  ·exact ai q o' he j p (by rw [same j hj];exact hp)
 have fi':∀q o',dg evi = .new q o'→h q=none:=fun q o' he=>by
  rw [← same q (fun ht=>by
   rw [← tm] at ht
   exact (hmt.a q ht).2 (by rw [ti,he];simp [aT.tch]))]
  exact fi q o' he
 have s1:=hi.local rdg rdo rdh hci (fun _=>ai') fi'
 rw [Df _ ai'] at s1
 refine ⟨_,_,s1,?_⟩
 have keep2:∀k,k∈cG m→((dg evi).isReb=true→∀d∈(dg evi).tch,d∉aI (g k))→dG ((dg evi).env g) i.dst (j5 evi) k=g k:=fun k hk hno=>by
  have e1:dG ((dg evi).env g) i.dst (j5 evi) k=(dg evi).env g k:=sI (fun hdk=>hap.b k hdk hk)
  rw [e1]
  cases he:dg evi with
  | reb q ob=>exact yG (hno (by rw [he];rfl) q (by rw [he];simp [aT.tch]))
  | _=>rfl
 have opm:evm.isSome=true→∀k∈ao m.op,∀d∈(dg evi).tch,d∈aI (g k)→kM m.op=true∧d∈y.res:=fun hs k hk d hd hid=>by
  obtain ⟨p,rfl⟩:=Option.isSome_iff_exists.1 hs
  rcases hm.2.opnd k hk d hid with q | q
  ·exact absurd q (hmt.b d (by rw [ti];exact hd))
  ·exact q
 have am2:∀q o',dg evm = .reb q o'→∀j p,De h (dg evi) j=some p→q∉dt p:=fun q o' he j p hp=>by
   rcases TZ hp with h3 | h3
   ·exact am q o' he j p h3
   ·rw [h3]
    intro hq
    exact hmt.d (by rw [rm,he];rfl) q (by rw [tm,he];simp [aT.tch]) (resi q (.inr hq))
 have s2:=hm.local (g1:=dG ((dg evi).env g) i.dst (j5 evi)) (h1:=De h (dg evi)) (fun k hk=>keep2 k (gsub m k hk) (fun _ d _=>by
   rcases gval hm k hk with ⟨b,hb⟩ | hb<;>rw [hb]<;>simp [aI,fG,dO,er])) (fun hs k hk=>keep2 k (kN k m hk) (fun hr d hd hid=>hmt.c (by rw [ri];exact hr) d (by rw [ti];exact hd) (opm hs k hk d hd hid).2)) (fun hs hmv k hk id hid=>ya (fun ht=>by
   have:=(opm hs k hk id ht hid).1
   rw [hmv] at this;cases this)) hcm (fun _=>am2) (fun q o' he=>by
   rw [ya (fun ht=>(hmt.a q (by rw [tm,he];simp [aT.tch])).2 (by rw [ti];exact ht))]
   exact fm q o' he)
 rw [Df _ am2] at s2
 have eg:dG ((dg evm).env (dG ((dg evi).env g) i.dst (j5 evi))) m.dst (j5 evm)=g2:=by
  rw [gi,gm,x7,x7,N9 (dg evi) (dg evm)]
  rw [B4 (e:=dg evm) (x:=j5 evi) (fun hr d hd hid=>hmt.d (by rw [rm];exact hr) d (by rw [tm];exact hd) (resi d (.inl hid)))]
  rw [B4 (e:=dg evi) (x:=j5 evm) (fun hr d hd hid=>hmt.c (by rw [ri];exact hr) d (by rw [ti];exact hd) (resm d (.inl hid)))]
  exact xC (fun k hk hk'=>(hap.a k hk').2 hk)
 have eh:De (De h (dg evi)) (dg evm)=h2:=by
  rw [hhi,hhm]
  exact I_ (fun d hd hd'=>(hmt.a d (by rw [tm];exact hd')).2 (by rw [ti];exact hd))
 rw [eg,eh] at s2
 exact s2
theorem Ps {i:Nat} {v:AV} (h:mC i v=true):i∈aI v:=by
 cases v<;>first | exact mF h | (simp [mC,mP] at h;done)
theorem Po {n:Option Nat} {r:List AV} {off i:Nat} {v:AV} (hl:m_ n (r.drop off)=some v) (hv:i∉aI v):m_ n ((r.map (jk i)).drop off)=some v:=by
 rw [← List.map_drop]
 generalize r.drop off=q at hl
 cases n with
 | none =>
  simp only [m_,db] at hl ⊢
  rw [hl]
  simp only [eH,jk]
  rw [ar (fun hm=>hv (Ps hm))]
 | some n =>
  simp only [m_,bT] at hl ⊢
  split at hl
  case isFalse=>cases hl
  rename_i hn
  cases hl
  rw [av hn,← List.map_take]
  congr 2
  have:∀x∈q.take n,jk i x=x:=fun x hx=>by
   unfold jk
   rw [ar (fun hm=>hv (by simp only [aI,fG,jK];exact ⟨x,hx,mF hm⟩))]
  exact (List.map_congr_left this).trans (List.map_id _)
theorem HM {n:Option Nat} {x:AV} {v:AV} {e:aT} (hl:gT n x h=some v) (hx:∀d∈e.tch,d∉aI x) (hv:∀d∈e.tch,d∉aI v):gT n x (e.hp h)=some v:=by
 cases x<;>try exact hl
 case mp id st row off =>
  have key:∀i,i∈e.tch→id≠i:=fun i hi hid=>hx i hi (by subst hid;simp [aI,fG,dO,er])
  cases e with
  | no=>exact hl
  | put i o=>simp only [gT,aT.hp,c_,ar (key i (by simp [aT.tch]))] at hl ⊢;exact hl
  | new i o=>simp only [gT,aT.hp,c_,ar (key i (by simp [aT.tch]))] at hl ⊢;exact hl
  | reb i o =>
   simp only [gT,aT.hp,c_,ar (key i (by simp [aT.tch]))] at hl ⊢
   split at hl
   case h_2=>cases hl
   rename_i o1 ho1
   rw [ho1]
   simp only [eH,sH]
   split at hl
   case isFalse=>cases hl
   rename_i hst
   rw [av hst]
   split at hl
   case h_2=>cases hl
   rename_i r hr
   have hrow:(cU i o1).rows[row]? = some (if o1.isRec=true then r.map (jk i) else r):=by
    unfold cU
    by_cases hrec:o1.isRec=true
    ·simp only [hrec,dl,db,hr,eH]
    ·simp only [hrec];simpa using hr
   rw [hrow]
   show m_ n ((if o1.isRec=true then r.map (jk i) else r).drop off)=some v
   by_cases hrec:o1.isRec=true
   ·rw [av hrec];exact Po hl (hv i (by simp [aT.tch]))
   ·rw [ar hrec];exact hl
theorem abx {m i:aM} {evm evi:Option (AV×aT)} {y x:HI} (hm:dw P m g h evm y g1 h1) (hi:dw P i g1 h1 evi x g2 h2) (hap:wy m i) (hw:Wu x y) (hcm:bz m.op=true) (hci:bz i.op=true) :
  ∃g3 h3,dw P i g h evi x g3 h3∧dw P m g3 h3 evm y g2 h2:=by
 obtain ⟨gm,hhm,tm,rm,wm,am,resm,fm,bm⟩:=hm.state
 obtain ⟨gi,hhi,ti,ri,wi,ai,resi,fi,bi⟩:=hi.state
 have em:dg evm = .no:=by
  rw [hw.tch] at tm
  cases he:dg evm<;>first | rfl | (rw [he] at tm;cases tm)
 have hh1:h1=h:=by rw [hhm,em];rfl
 have gg1:g1=dG g m.dst (j5 evm):=by rw [gm,em];rfl
 have gsub:∀(o:aM) k,k∈fE o→k∈cG o:=fun o k hk=>by
  unfold fE at hk
  split at hk
  ·rename_i k' b hg;simp at hk;subst hk;exact ud k b o hg
  ·simp at hk
 have keep1:∀k,k∈cG i→g k=g1 k:=fun k hk=>by
  rw [gg1]
  exact (sI (fun hdk=>(hap.a k hdk).1 hk)).symm
 have s1:=hi.local (g1:=g) (h1:=h) (fun k hk=>keep1 k (gsub i k hk)) (fun _ k hk=>keep1 k (kN k i hk)) (fun _ _ k hk id hid=>by rw [hh1]) hci (fun hn=>absurd ⟨hw.r,hw.w⟩ hn) (fun q o' he=>by
  rw [he] at ri
  rw [hw.r] at ri
  cases ri)
 refine ⟨_,_,s1,?_⟩
 have keep2:∀k,k∈cG m→(∀d∈(dg evi).tch,d∉aI (g k))→dG ((dg evi).env g) i.dst (j5 evi) k=g k:=fun k hk hno=>by
  have e1:dG ((dg evi).env g) i.dst (j5 evi) k=(dg evi).env g k:=sI (fun hdk=>hap.b k hdk hk)
  rw [e1]
  cases he:dg evi with
  | reb q ob=>exact yG (hno q (by rw [he];simp [aT.tch]))
  | _=>rfl
 have gval:∀k∈fE m,(∃b,g k = .bool b)∨g k = .tup []:=fun k hk=>by
  unfold fE at hk
  split at hk
  ·rename_i k' b hg
   simp at hk
   subst hk
   cases evm with
   | none=>obtain ⟨⟨k2,b2,h3,h4⟩,_⟩:=hm;rw [hg] at h3;cases h3;exact h4.imp (fun h=>⟨_,h⟩) (fun h=>h)
   | some p=>exact .inl ⟨b,hm.1 k b hg⟩
  ·simp at hk
 have s2:dw P m (dG ((dg evi).env g) i.dst (j5 evi)) ((dg evi).hp h) evm y (dG ((dg evm).env (dG ((dg evi).env g) i.dst (j5 evi))) m.dst (j5 evm)) ((dg evm).hp ((dg evi).hp h)):=by
  have kg:∀k∈fE m,dG ((dg evi).env g) i.dst (j5 evi) k=g k:=fun k hk=>keep2 k (gsub m k hk) (fun d _=>by
   rcases gval k hk with ⟨b,hb⟩ | hb<;>rw [hb]<;>simp [aI,fG,dO,er])
  rcases hw.op with hop | hld
  ·have opm:evm.isSome=true→∀k∈ao m.op,∀d,d∈aI (g k)→kM m.op=true∧d∈y.res:=fun hs k hk d hid=>by
    obtain ⟨p,rfl⟩:=Option.isSome_iff_exists.1 hs
    rcases hm.2.opnd k hk d hid with q | q
    ·rw [hop] at q;cases q
    ·exact q
   exact hm.local (g1:=dG ((dg evi).env g) i.dst (j5 evi)) (h1:=(dg evi).hp h) kg (fun hs k hk=>keep2 k (kN k m hk) (fun d hd hid=>hw.res d (by rw [ti];exact hd) (opm hs k hk d hid).2)) (fun hs hmv k hk id hid=>by
    have:=(opm hs k hk id hid).1
    rw [hmv] at this;cases this) hcm (fun _ q o' he=>by rw [em] at he;cases he) (fun q o' he=>by rw [em] at he;cases he)
  ·cases evm with
   | none=>exact hm.local (g1:=dG ((dg evi).env g) i.dst (j5 evi)) (h1:=(dg evi).hp h) kg (fun hs=>by cases hs) (fun hs=>by cases hs) hcm (fun _ q o' he=>by cases he) (fun q o' he=>by cases he)
   | some p =>
    obtain ⟨v,e⟩:=p
    obtain ⟨hgd,hf⟩:=hm
    obtain ⟨n,p,hop⟩:=hf.ld hld
    have he:e = .no:=em
    subst he
    have ids2:∀k∈ao m.op,∀d∈(dg evi).tch,d∉aI (g k):=fun k hk d hd hid=>by
     rcases hf.opnd k hk d hid with q | ⟨q,_⟩
     ·exact hw.nop d (by rw [ti];exact hd) q
     ·rw [hop] at q;cases q
    have ko:∀k∈ao m.op,dG ((dg evi).env g) i.dst (j5 evi) k=g k:=fun k hk=>keep2 k (kN k m hk) (ids2 k hk)
    have hr:=hf.run
    refine ⟨fun k b hk=>by rw [kg k (by simp [fE,hk])];exact hgd k b hk,⟨?_,fun k hk=>by rw [ko k hk];exact hf.known k hk,fun k hk id hid=>hf.opnd k hk id (by rw [ko k hk] at hid;exact hid),(fun _ q o' he=>by cases he),(fun q o' he=>by cases he),hf.res,hf.tch,hf.rb,hf.wr,rfl,rfl,hf.ld⟩⟩
    unfold Bb at hr ⊢
    rw [hop] at hr ⊢
    simp only at hr ⊢
    rcases hr with hr | hr
    ·refine .inl ?_
     simp only [bB,Mw.res,cJ,Prod.mk.injEq,and_true] at hr ⊢
     obtain ⟨v',hl,hv'⟩:=hr
     subst hv'
     have hvp:val (dG ((dg evi).env g) i.dst (j5 evi)) p=val g p∧∀d∈(dg evi).tch,d∉aI (val g p):=by
      cases p with
      | s k =>
       have hk:k∈ao m.op:=by rw [hop];simp [ao,aS]
       exact ⟨ko k hk,ids2 k hk⟩
      | c x =>
       have hc:aI x=[]:=by
        rw [hop] at hcm
        simpa [bz,fI] using hcm
       exact ⟨rfl,fun d _=>by show d∉aI x;rw [hc];simp⟩
     exact ⟨v',by rw [hvp.1];exact HM hl hvp.2 (fun d hd hid=>hw.res d (by rw [ti];exact hd) (hf.res d (.inl hid))),rfl⟩
    ·cases hr.2.1
 have eg:dG ((dg evm).env (dG ((dg evi).env g) i.dst (j5 evi))) m.dst (j5 evm)=g2:=by
  rw [gi,gg1,em]
  show dG (dG ((dg evi).env g) i.dst (j5 evi)) m.dst (j5 evm)=_
  rw [x7]
  rw [B4 (e:=dg evi) (x:=j5 evm) (fun hr d hd hid=>hw.res d (by rw [ti];exact hd) (resm d (.inl hid)))]
  exact xC (fun k hk hk'=>(hap.a k hk').2 hk)
 have eh:(dg evm).hp ((dg evi).hp h)=h2:=by rw [em,hhi,hh1];rfl
 rw [eg,eh] at s2
 exact s2
theorem abw {m i:aM} {evm evi:Option (AV×aT)} {y x:HI} (hm:dw P m g h evm y g1 h1) (hi:dw P i g1 h1 evi x g2 h2) (hap:wy m i) (hmt:Mt x y) (hcm:bz m.op=true) (hci:bz i.op=true) :
  ∃g3 h3,dw P i g h evi x g3 h3∧dw P m g3 h3 evm y g2 h2:=by
 rcases hmt with h | h
 ·exact af6 hm hi hap h hcm hci
 ·exact abx hm hi hap h hcm hci
end
structure Item where
 i:Nat
 bef:List Nat
 o:aM
 ev:Option (AV×aT)
 x:HI
def T (P:Program) [aV P]:List Item→(Nat→AV)→(Nat→Option ah)→(Nat→AV)→(Nat→Option ah)→Prop
 | [],g,h,g',h'=>g'=g∧h'=h
 | t :: R,g,h,g',h'=>∃g1 h1,dw P t.o g h t.ev t.x g1 h1∧T P R g1 h1 g' h'
section
variable {P:Program} [aV P]
theorem QV:∀(A:List Item) (t:Item) (B:List Item) (g:Nat→AV) (h:Nat→Option ah) (g':Nat→AV) (h':Nat→Option ah),T P (A++t :: B) g h g' h' →
  (∀m∈A,wy m.o t.o∧Mt t.x m.x)→(∀m∈A,bz m.o.op=true)→bz t.o.op=true→∃g1 h1,dw P t.o g h t.ev t.x g1 h1∧T P (A++B) g1 h1 g' h'
 | [],t,B,g,h,g',h',ht,_,_,_=>ht
 | m :: A,t,B,g,h,g',h',ht,hm,hc,hct=>by
  obtain ⟨g1,h1,s1,ht⟩:=ht
  obtain ⟨g2,h2,s2,ht⟩:=QV A t B g1 h1 g' h' ht (fun q hq=>hm q (by simp [hq])) (fun q hq=>hc q (by simp [hq])) hct
  obtain ⟨q1,q2⟩:=hm m (by simp)
  obtain ⟨g3,h3,s3,s4⟩:=abw s1 s2 q1 q2 (hc m (by simp)) hct
  exact ⟨g3,h3,s3,g2,h2,s4,ht⟩
def vP (al:List (Nat×Nat)):List HI→List Item→Prop
 | _,[]=>True
 | hist,t :: R=>t.x.i=t.i∧(∀y∈hist,y.i∈t.bef∨Mt t.x y)∧(∀d,d∈aI (j5 t.ev)∨d∈(dg t.ev).ids→∀m,(d,m)∈al→m=t.i∨m∈t.bef)∧vP al (t.x :: hist) R
theorem gH {bef:List Nat} {x:HI} {hist:List HI} (hh:gg bef x hist=true):∀y∈hist,y.i∈bef∨Mt x y:=fun y hy=>by
 have:=eA.1 hh y hy
 simp only [wx,List.contains_eq_mem,qc] at this
 exact this.imp id fun h=>.inl (Hm.of h)
theorem mO {al:List (Nat×Nat)} {bef:List Nat} {x:HI} (hh:qn al bef x=true):∀d∈x.res,∀m,(d,m)∈al→m=x.i∨m∈bef:=fun d hd m hm=>by
 have:=eA.1 hh (d,m) hm
 simp only [wx,List.contains_eq_mem,qc,vL,decide_eq_false_iff_not,beq_iff_eq] at this
 rcases this with (h1 | h1) | h1
 ·exact absurd hd h1
 ·exact .inl h1
 ·exact .inr h1
theorem ii (s:St) (d:Option Nat) (x:AV):get (s.put d x).env=dG (get s.env) d x:=by
 funext k
 cases d with
 | none=>rfl
 | some d =>
  simp only [St.put,get,dG,c_,jO]
  by_cases hk:k=d
  ·subst hk;simp
  ·simp [hk,Ne.symm hk]
theorem eZ (s:St) (d:Option Nat) (x:AV):(s.put d x).heap=s.heap:=by cases d<;>rfl
theorem fO {o:gS} {s:St} {e:aT} (hp:dS o s e=true):(∀k∈ao o,get s.env k≠.any)∧∀i o',e = .reb i o'→∀j q,ae s.heap j=some q→i∉dt q:=by
 simp only [dS,dV,eA,wx,vL] at hp
 refine ⟨fun k hk he=>?_,fun i o' he j q hq=>?_⟩
 ·have:=hp.1 k hk
  rw [he] at this
  cases this
 ·subst he
  rcases hp.2 with h1 | h1
  ·cases h1
  ·have hmem:∀{σ:List (Nat×ah)},ae σ j=some q→(j,q)∈σ:=by
    intro σ
    induction σ with
    | nil=>intro hi;simp [ae] at hi
    | cons p l ih =>
     intro hi
     obtain ⟨k,x⟩:=p
     simp only [ae] at hi
     split at hi
     ·rename_i hk;cases hi;subst hk;simp
     ·exact List.mem_cons_of_mem _ (ih hi)
   have:=h1 i (by simp [aT.tch]) (j,q) (hmem hq)
   simpa using this
def Un (al:List (Nat×Nat)) (p:Nat→Prop) (g:Nat→AV) (h:Nat→Option ah):Prop:=∀d m,(d,m)∈al→p m→h d=none∧cy d g h
theorem xY {d:Nat} {op:gS} {ρ:IV→AV} {h:Nat→Option ah} {v:AV} {i:Nat} {ob:ah} (hr:bB d op ρ h=some (v,.new i ob)):dp op=true∧i=d:=by
 have happ:∀{t st x src},jq d t st x src h=some (v,.new i ob)→i=d:=by
  intro t st x src ha
  unfold jq at ha
  split at ha
  ·cases ha
  ·split at ha
   ·split at ha
    ·cases ha;rfl
    ·split at ha
     ·split at ha<;>cases ha
     ·cases ha
    ·cases ha
   ·cases ha
 have hres:∀{y:Option AV},res y≠some (v,.new i ob):=fun hh=>by
  have:=(bj hh).2
  cases this
 cases op<;>simp only [bB] at hr
 case app=>exact ⟨rfl,happ hr⟩
 case apps=>exact ⟨rfl,happ hr⟩
 case new=>cases hr;exact ⟨rfl,rfl⟩
 case box =>
  split at hr
  ·split at hr
   ·cases hr;exact ⟨rfl,rfl⟩
   ·cases hr
  ·cases hr
 case bsl =>
  split at hr
  ·cases hr;exact ⟨rfl,rfl⟩
  ·cases hr
 case cvb =>
  split at hr
  ·split at hr
   ·cases hr;exact ⟨rfl,rfl⟩
   ·cases hr
  ·cases hr
 case mks =>
  split at hr
  ·split at hr
   ·cases hr;exact ⟨rfl,rfl⟩
   ·cases hr
  ·cases hr
 case mop =>
  rcases na hr with q | ⟨_,q,q2⟩ | ⟨_,_,_,_,_,q⟩<;>cases q
  rcases q2 with rfl | rfl<;>exact ⟨rfl,rfl⟩
 all_goals
  exfalso
  first
   | (obtain ⟨_,_,q⟩:=s5 hr;cases q;done)
   | (obtain ⟨_,_,_,_,_,_,_,_,_,_,_,_,q⟩:=kz hr;cases q;done)
   | exact hres hr
   | (cases hr;done)
   | (simp only [cJ,Prod.mk.injEq] at hr
      obtain ⟨e',h1,_,h2⟩:=hr
      subst h2
      unfold ga at h1
      repeat' (split at h1)
      all_goals cases h1)
   | (repeat' (split at hr)
      all_goals first | (cases hr;done) | exact hres hr)
theorem NK {d:Nat} {op:gS} {g:Nat→AV} {h:Nat→Option ah} {v:AV} {e:aT} (hr:bB d op (val g) h=some (v,e)) (hc:bz op=true):∀i∈e.tch,(∃ob,e = .new i ob)∨∃k∈ao op,i∈aI (g k):=by
 have iv:∀{x:IV} {i:Nat},fI x=true→i∈aI (val g x)→(∀k∈aS x,k∈ao op)→∃k∈ao op,i∈aI (g k):=by
  intro x i hx hi hs
  cases x with
  | s k=>exact ⟨k,hs k (by simp [aS]),hi⟩
  | c y=>simp [fI] at hx;rw [show val g (.c y)=y from rfl,hx] at hi;cases hi
 have happ:∀{t st src} {x:IV},fI x=true→(∀k∈aS x,k∈ao op)→jq d t st (val g x) src h=some (v,e)→∀i∈e.tch,(∃ob,e = .new i ob)∨∃k∈ao op,i∈aI (g k):=by
  intro t st src x hx hs ha i hi
  unfold jq at ha
  split at ha
  ·cases ha
  ·split at ha
   ·split at ha
    ·cases ha;simp [aT.tch] at hi;subst hi;exact .inl ⟨_,rfl⟩
    ·rename_i hv
     split at ha
     ·split at ha
      ·cases ha
       simp [aT.tch] at hi
       subst hi
       exact .inr (iv hx (by rw [hv];simp [iY]) hs)
      ·cases ha
     ·cases ha
    ·cases ha
   ·cases ha
 intro i hi
 cases e with
 | no=>simp [aT.tch] at hi
 | new j ob=>simp [aT.tch] at hi;subst hi;exact .inl ⟨_,rfl⟩
 | put j ob =>
  cases op<;>simp only [bB] at hr
  case store n p x =>
   simp only [bz,dV] at hc
   simp only [cJ,Prod.mk.injEq] at hr
   obtain ⟨e',h1,_,h2⟩:=hr
   subst h2
   unfold ga at h1
   split at h1
   ·rename_i id st row off cs hv _
    refine .inr (iv hc.1 ?_ (fun k hk=>by simp only [ao,dL];exact .inl hk))
    rw [hv]
    repeat' (split at h1)
    all_goals first | (cases h1;done) | skip
    cases h1
    simp [aT.tch] at hi
    simp [yc,hi]
   ·cases h1
  case cvm x =>
   simp only [bz] at hc
   obtain ⟨id,st,off,len,ob',q1,_,_,_,_,_,_,q2⟩:=kz hr
   cases q2
   simp [aT.tch] at hi
   exact .inr (iv hc (by rw [q1];simp [iY,hi]) (fun k hk=>by simp only [ao];exact hk))
  case mop k xs =>
   simp only [bz,eA] at hc
   rcases na hr with q | ⟨_,q,q2⟩ | ⟨id,b,r,o,q1,q⟩<;>cases q
   simp [aT.tch] at hi
   subst hi
   cases xs with
   | nil=>cases q1
   | cons x xs =>
    simp only [cF,List.cons.injEq] at q1
    exact .inr (iv (hc x (by simp)) (by rw [q1.1];simp [aI,fG,dO,er]) (fun k hk=>by simp only [ao,m8,dL];exact .inl hk))
  case cpy st x y =>
   simp only [bz,dV] at hc
   unfold qu at hr
   split at hr
   ·cases hr
   ·split at hr
    ·rename_i hv
     refine .inr (iv hc.1 ?_ (fun k hk=>by simp only [ao,dL];exact .inl hk))
     rw [hv]
     repeat' (split at hr)
     all_goals first | (cases hr;done) | skip
     all_goals
      cases hr
      simp [aT.tch] at hi
      simp [iY,hi]
    ·cases hr
  case app t st x y=>simp only [bz,dV] at hc;exact happ hc.1 (fun k hk=>by simp only [ao,dL];exact .inl hk) hr i hi
  case apps t x y=>simp only [bz,dV] at hc;exact happ hc.1 (fun k hk=>by simp only [ao,dL];exact .inl hk) hr i hi
  all_goals
   exfalso
   first
    | exact absurd (bj hr).2 (by simp)
    | (cases hr;done)
    | (repeat' (split at hr)
       all_goals first | (cases hr;done) | exact absurd (bj hr).2 (by simp))
 | reb j ob =>
  cases op<;>simp only [bB] at hr
  case app t st x y=>simp only [bz,dV] at hc;exact happ hc.1 (fun k hk=>by simp only [ao,dL];exact .inl hk) hr i hi
  case apps t x y=>simp only [bz,dV] at hc;exact happ hc.1 (fun k hk=>by simp only [ao,dL];exact .inl hk) hr i hi
  all_goals
   exfalso
   first
    | (obtain ⟨_,_,q⟩:=s5 hr;cases q;done)
    | (obtain ⟨_,_,_,_,_,_,_,_,_,_,_,_,q⟩:=kz hr;cases q;done)
    | (rcases na hr with q | ⟨_,q,_⟩ | ⟨_,_,_,_,_,q⟩<;>cases q;done)
    | exact absurd (bj hr).2 (by simp)
    | (cases hr;done)
    | (simp only [cJ,Prod.mk.injEq] at hr
       obtain ⟨e',h1,_,h2⟩:=hr
       subst h2
       unfold ga at h1
       repeat' (split at h1)
       all_goals cases h1)
    | (repeat' (split at hr)
       all_goals first | (cases hr;done) | exact absurd (bj hr).2 (by simp))
end
theorem JK {i:Nat} {x:AV} (h:i∈er x):mP i x=true:=by cases x<;>simp_all [mP,er]
theorem JI {i:Nat} {x:AV} (h:i∈dO x):mC i x=true:=by
 cases x with
 | fn f caps =>
  simp only [dO,jK] at h
  obtain ⟨y,h1,h2⟩:=h
  simp only [mC,List.any_eq_true]
  exact ⟨y,h1,JK h2⟩
 | _=>simp only [dO] at h;simpa only [mC] using JK h
theorem JJ {i:Nat} {x:AV} (h:i∈fG x):mG i x=true:=by
 cases x with
 | agg cells =>
  simp only [fG,jK] at h
  obtain ⟨y,h1,h2⟩:=h
  simp only [mG,List.any_eq_true]
  exact ⟨y,h1,JI h2⟩
 | _=>simp only [fG] at h;simpa only [mG] using JI h
theorem JL {i:Nat} {x:AV} (h:i∈aI x):mV i x=true:=by
 cases x with
 | tup vs =>
  simp only [aI,jK] at h
  obtain ⟨y,h1,h2⟩:=h
  simp only [mV,List.any_eq_true]
  exact ⟨y,h1,JJ h2⟩
 | _=>simp only [aI] at h;simpa only [mV] using JJ h
section
variable {P:Program} [aV P] {al:List (Nat×Nat)} {g g':Nat→AV} {h h':Nat→Option ah}
def sR (al:List (Nat×Nat)):Prop:=∀d m m',(d,m)∈al→(d,m')∈al→m=m'
theorem Ok {h:Nat→Option ah} {e:aT} {d:Nat} (ht:d∉e.tch) (hn:h d=none):e.hp h d=none:=by
 cases e with
 | no=>exact hn
 | reb i o =>
  simp only [aT.tch,du] at ht
  simp only [aT.hp,c_,ar ht,hn,Option.map_none]
 | _ =>
  simp only [aT.tch,du] at ht
  simp only [aT.hp,c_,ar ht,hn]
theorem YM {h:Nat→Option ah} {e:aT} {j:Nat} {q:ah} (hq:e.hp h j=some q):(∃q0,h j=some q0∧(q=q0∨∃i,q=cU i q0))∨dt q=e.ids:=by
 cases e with
 | no=>exact .inl ⟨q,hq,.inl rfl⟩
 | reb i o =>
  simp only [aT.hp,c_] at hq
  split at hq
  ·cases hq;exact .inr rfl
  ·simp only [cJ] at hq
   obtain ⟨q0,h1,rfl⟩:=hq
   exact .inl ⟨q0,h1,.inr ⟨i,rfl⟩⟩
 | _ =>
  simp only [aT.hp,c_] at hq
  split at hq
  ·cases hq;exact .inr rfl
  ·exact .inl ⟨q,hq,.inl rfl⟩
theorem Un.step {p p':Nat→Prop} {o:aM} {i:Nat} {bef:List Nat} {ev:Option (AV×aT)} {x:HI} (hs:dw P o g h ev x g' h') (hu:Un al p g h) (hc:bz o.op=true)
  (hnew:∀d,d∈aI (j5 ev)∨d∈(dg ev).ids→∀m,(d,m)∈al→m=i∨m∈bef) (hbef:∀m∈bef,¬p m) (hal:dp o.op=true→(o.dst.getD 0,i)∈al) (hone:sR al)
  (hp:∀m,p' m→p m∧m≠i):Un al p' g' h':=by
 intro d m hdm hpm
 obtain ⟨hp1,hp2⟩:=hp m hpm
 obtain ⟨hn,hun⟩:=hu d m hdm hp1
 obtain ⟨gs,hhs,_,_,_,_,_,_,_⟩:=hs.state
 have hno:¬(d∈aI (j5 ev)∨d∈(dg ev).ids):=fun hd=>by
  rcases hnew d hd m hdm with h1 | h1
  ·exact hp2 h1
  ·exact hbef m h1 hp1
 have htch:d∉(dg ev).tch:=fun ht=>by
  cases ev with
  | none=>simp [dg,aT.tch] at ht
  | some q =>
   obtain ⟨v,e⟩:=q
   have hr:=hs.2.run
   unfold Bb at hr
   split at hr
   ·rcases hr with hr | ⟨k,_,_,_,he,_,_,_,_,q,_,hid⟩
    ·rw [show dg (some (v,e))=e from rfl,hr.1] at ht;simp [aT.tch] at ht
    ·rw [show dg (some (v,e))=e from rfl,he] at ht
     simp [aT.tch] at ht
     subst ht
     have:=JL hid
     rw [hun.1 q] at this
     cases this
   ·exact hr.elim
   ·rcases hr with hr | ⟨hr,_⟩
    rotate_left
    ·rw [show dg (some (v,e))=e from rfl,hr] at ht;simp [aT.tch] at ht
    rcases NK hr hc d ht with ⟨ob,he⟩ | ⟨k,hk,hid⟩
    ·subst he
     obtain ⟨h1,h2⟩:=xY hr
     rw [← h2] at hal
     exact hp2 (hone d m i hdm (hal h1))
    ·have:=JL hid
     rw [hun.1 k] at this
     cases this
 refine ⟨by rw [hhs];exact Ok htch hn,fun k=>?_,fun j q hq hrec r hr y hy=>?_⟩
 ·rw [gs]
  have key:mV d ((dg ev).env g k)=false:=by
   cases dg ev with
   | reb q ob =>
    simp only [aT.env]
    unfold fg
    split
    ·rfl
    ·exact hun.1 k
   | _=>exact hun.1 k
  cases hd:o.dst with
  | none=>exact key
  | some d' =>
   simp only [dG,c_]
   split
   ·cases hv:mV d (j5 ev) with
    | false=>rfl
    | true=>exact absurd (.inl (ji hv)) hno
   ·exact key
 ·rw [hhs] at hq
  rcases YM hq with ⟨q0,h1,h2⟩ | h1
  ·rcases h2 with rfl | ⟨i',rfl⟩
   ·exact hun.2 j q h1 hrec r hr y hy
   ·rw [kP] at hrec
    simp only [cU,hrec,dl,List.mem_map] at hr
    obtain ⟨r0,hr0,rfl⟩:=hr
    obtain ⟨y0,hy0,rfl⟩:=List.mem_map.1 hy
    unfold jk
    split
    ·rfl
    ·exact hun.2 j q0 h1 hrec r0 hr0 y0 hy0
  ·cases hv:mC d y with
   | false=>rfl
   | true =>
    exfalso
    refine hno (.inr ?_)
    rw [← h1]
    simp only [dt,hrec,dl,jK]
    exact ⟨r,hr,y,hy,mF hv⟩
theorem sA (s:St) (e:aT):get (s.eff e).env=e.env (get s.env):=funext (C_ s e)
theorem nq (s:St) (e:aT):ae (s.eff e).heap=e.hp (ae s.heap):=funext (zY s e)
theorem mw {s:St} {k:Nat} {t b:Bool} (hv:get s.env k = .bool t) (hb:t=b):get (s.put (some k) (.bool b)).env=get s.env:=by
 rw [ii]
 funext j
 simp only [dG,c_]
 split
 ·rename_i hj;subst hj;rw [hv,hb]
 ·rfl
theorem Pz {d:Nat} {op:gS} {g:Nat→AV} {h:Nat→Option ah} {v:AV} {e:aT} (hev:bB d op (val g) h=some (v,e)) (hmv:kM op=true):∀k∈ao op,∀id∈aI (g k),id∈aI v:=fun k hk id hid=>by
 cases op with
 | mov x =>
  simp only [bB,bV,Prod.mk.injEq] at hev
  cases x with
  | s j =>
   simp only [ao,aS,du] at hk
   subst hk
   rw [← hev.1];exact hid
  | c y=>simp [ao,aS] at hk
 | _=>cases hmv
theorem QC (y:HI):((y.op.isEmpty||y.isLd)=true)=(y.op=[]∨y.ld = .ld):=by
 unfold HI.isLd
 cases y.ld<;>simp
theorem Fo {o:gS} (h:vU o = .ld):∃n p,o = .load n p:=by
 cases o<;>first | exact ⟨_,_,rfl⟩ | cases h
theorem jQ (hone:sR al):∀(l:List ax) (i:Nat) (hist:List HI) (s:St) (K:List HI→St→Prop),dq P al i l hist s K→Un al (fun m=>i≤m) (get s.env) (ae s.heap)→(∀y∈hist,¬(y.rb=true∧y.wr=true)) →
  (∀(j:Nat) (o:ax),l[j]? = some o→(dp o.o.op=true→(o.o.dst.getD 0,i+j)∈al)∧(∀m∈o.bef,m<i+j)∧bz o.o.op=true) →
  ∃(items:List Item) (s':St),K ((items.map Item.x).reverse++hist) s'∧T P items (get s.env) (ae s.heap) (get s'.env) (ae s'.heap)∧vP al hist items∧items.map Item.i=List.range' i l.length∧items.map (fun t=>(⟨t.o,t.bef⟩:ax))=l
 | [],i,hist,s,K,hk,_,_,_=>⟨[],s,hk,⟨rfl,rfl⟩,trivial,by simp,rfl⟩
 | o :: r,i,hist,s,K,hk,hu,hnw,hl=>by
  obtain ⟨hal,hbf,hcon⟩:=hl 0 o (by simp)
  have hl':∀(j:Nat) (o:ax),r[j]? = some o→(dp o.o.op=true→(o.o.dst.getD 0,i+1+j)∈al)∧(∀m∈o.bef,m<i+1+j)∧bz o.o.op=true:=fun j o hj=>by
   have:=hl (j+1) o (by simpa using hj)
   rwa [show i+(j+1)=i+1+j by omega] at this
  have fin:∀{s1:St} {ev:Option (AV×aT)} {x:HI},dw P o.o (get s.env) (ae s.heap) ev x (get s1.env) (ae s1.heap)→x.i=i→¬(x.rb=true∧x.wr=true)→(∀y∈hist,y.i∈o.bef∨Mt x y) →
    (∀d,d∈aI (j5 ev)∨d∈(dg ev).ids→∀m,(d,m)∈al→m=i∨m∈o.bef)→dq P al (i+1) r (x :: hist) s1 K →
    ∃(items:List Item) (s':St),K ((items.map Item.x).reverse++hist) s'∧T P items (get s.env) (ae s.heap) (get s'.env) (ae s'.heap)∧vP al hist items∧items.map Item.i=List.range' i (o :: r).length∧items.map (fun t=>(⟨t.o,t.bef⟩:ax))=o :: r:=by
   intro s1 ev x hst hxi hxw hhist hnew hrest
   have hu':Un al (fun m=>i+1≤m) (get s1.env) (ae s1.heap):=Un.step hst hu hcon hnew (fun m hm hle=>by have:=hbf m hm;omega) (by simpa using hal) hone (fun m hm=>⟨by omega,by omega⟩)
   obtain ⟨items,s',h1,h2,h3,h4,h5⟩:=jQ hone r (i+1) (x :: hist) s1 K hrest hu' (fun y hy=>by
    rcases bc.1 hy with rfl | hy
    ·exact hxw
    ·exact hnw y hy) hl'
   exact ⟨⟨i,o.bef,o.o,ev,x⟩ :: items,s',by simpa using h1,⟨_,_,hst,h2⟩,⟨hxi,hhist,hnew,h3⟩,by simp [List.range'_succ,h4],by simp [h5]⟩
  have run:∀{s2:St},get s2.env=get s.env→s2.heap=s.heap→(∀k b,o.o.g=some (k,b)→get s.env k = .bool b)→cu P al i o hist s2 (fun hist' s'=>dq P al (i+1) r hist' s' K) →
    ∃(items:List Item) (s':St),K ((items.map Item.x).reverse++hist) s'∧T P items (get s.env) (ae s.heap) (get s'.env) (ae s'.heap)∧vP al hist items∧items.map Item.i=List.range' i (o :: r).length∧items.map (fun t=>(⟨t.o,t.bef⟩:ax))=o :: r:=by
   intro s2 he2 hh2 hgd hop
   have hoi':∀res:List Nat,(kM o.o.op=true→∀k∈ao o.o.op,∀id∈aI (get s.env k),id∈res)→∀k∈ao o.o.op,∀id∈aI (get s.env k),id∈cx o.o.op s2.env∨(kM o.o.op=true∧id∈res):=fun res hres k hk id hid=>by
    by_cases hmv:kM o.o.op=true
    ·exact .inr ⟨hmv,hres hmv k hk id hid⟩
    ·refine .inl ?_
     have e:cx o.o.op s2.env=(ao o.o.op).flatMap fun k=>aI (get s2.env k):=by
      cases ho:o.o.op<;>first | rfl | (rw [ho] at hmv;exact absurd rfl hmv)
     rw [e,jK]
     exact ⟨k,hk,by rw [he2];exact hid⟩
   unfold cu at hop
   split at hop
   ·rename_i f args hopc
    rcases hop with ⟨args',rr,b,h1,h2,h3,h4,h5,h6,h7,h8⟩ | ⟨k,ob,ob',Sb,rr,h1,h2,h3,h4,h5,h6,h7,h8,h9⟩
    rotate_left
    ·obtain ⟨p1,p2⟩:=fO h7
     rw [he2] at p1
     have hq:∃q∈ao o.o.op,k∈aI (get s.env q):=by
      rw [hopc] at h6 ⊢
      simp only [cx,jK] at h6
      obtain ⟨q,q1,q2⟩:=h6
      exact ⟨q,q1,by rw [← he2];exact q2⟩
     refine fin (s1:=(s2.eff (.put k ob')).put o.o.dst rr) (ev:=some (rr,.put k ob')) ⟨hgd,⟨?_,p1,hoi' _ (fun hmv=>by rw [hopc] at hmv;cases hmv),(fun _ _ _ he=>by cases he),(fun _ _ he=>by cases he),fun d hd=>?_,rfl,rfl,.inl rfl,?_,?_,fun hh=>by cases hh⟩⟩ rfl (by first | (rintro ⟨hr,_⟩;cases hr;done) | (cases e<;>simp [aT.isReb,aT.isPut])) (gH h8) (fun d hd=>?_) h9
     ·unfold Bb
      rw [hopc]
      rw [hopc] at hq
      exact .inr ⟨k,ob,ob',Sb,rfl,h4,by rw [← he2];exact h1,h2,by rw [← hh2];exact h3,hq⟩
     ·have hd':d∈aI rr∨d∈dt ob':=hd
      rw [h4,h5] at hd';simp at hd'
     ·rw [ii,sA,he2]
     ·rw [eZ,nq,hh2]
     ·have hd':d∈aI rr∨d∈dt ob':=hd
      rw [h4,h5] at hd';simp at hd'
    obtain ⟨p1,_⟩:=fO h6
    rw [he2] at p1
    refine fin (s1:=s2.put o.o.dst rr) (ev:=some (rr,.no)) ⟨hgd,⟨?_,p1,hoi' _ (fun hmv=>by rw [hopc] at hmv;cases hmv),(fun _ _ _ he=>by cases he),(fun _ _ he=>by cases he),fun d hd=>?_,rfl,rfl,.inl rfl,?_,?_,fun hh=>by cases hh⟩⟩ rfl (by first | (rintro ⟨hr,_⟩;cases hr;done) | (cases e<;>simp [aT.isReb,aT.isPut])) (gH h7) (fun d hd=>?_) h8
    ·unfold Bb
     rw [hopc]
     exact .inl ⟨rfl,h5,args',b,h1,h2,by rw [← he2,← hh2];exact h3,h4⟩
    ·have hd':d∈aI rr∨d∈([]:List Nat):=hd
     rw [h5] at hd';simp at hd'
    ·rw [ii,he2];rfl
    ·rw [eZ,hh2];rfl
    ·have hd':d∈aI rr∨d∈([]:List Nat):=hd
     rw [h5] at hd';simp at hd'
   ·exact hop.elim
   ·rename_i t st x y hopc
    rcases hop with hop | ⟨rows,hxc,hev,h6,h7,h9⟩
    ·split at hop
     case h_2=>exact hop.elim
     rename_i v e hev
     obtain ⟨h6,h7,h8,h9⟩:=hop
     obtain ⟨p1,p2⟩:=fO h6
     rw [he2] at p1 hev
     rw [hh2] at p2 hev
     refine fin (s1:=(s2.eff e).put o.o.dst v) (ev:=some (v,e)) ⟨hgd,⟨?_,p1,hoi' _ (fun hmv=>by rw [hopc] at hmv;cases hmv),fun _=>p2,fun j ob he=>?_,fun d hd=>?_,rfl,rfl,.inl rfl,?_,?_,fun hh=>by cases hh⟩⟩ rfl (by first | (rintro ⟨hr,_⟩;cases hr;done) | (cases e<;>simp [aT.isReb,aT.isPut])) (gH h7) (fun d hd m hm=>?_) h9
     ·unfold Bb
      rw [hopc]
      exact .inl hev
     ·subst he
      obtain ⟨q1,q2⟩:=xY hev
      subst q2
      exact (hu _ i (by simpa using hal (by rw [hopc];exact q1)) (aO i)).1
     ·exact dL.2 hd
     ·rw [ii,sA,he2]
     ·rw [eZ,nq,hh2]
     ·exact mO h8 d (dL.2 hd) m hm
    ·obtain ⟨p1,_⟩:=fO h6
     rw [he2] at p1 hev
     rw [hh2] at hev
     have no:∀d,¬(d∈aI (.sl st rows)∨d∈(aT.no).ids):=fun d hd=>by rcases hd with hd | hd<;>cases hd
     refine fin (s1:=s2.put o.o.dst (.sl st rows)) (ev:=some (.sl st rows,.no)) ⟨hgd,⟨?_,p1,hoi' _ (fun hmv=>by rw [hopc] at hmv;cases hmv),(fun _ _ _ he=>by cases he),(fun _ _ he=>by cases he),fun d hd=>absurd hd (no d),rfl,rfl,.inl rfl,?_,?_,fun hh=>by cases hh⟩⟩ rfl (by first | (rintro ⟨hr,_⟩;cases hr;done) | (cases e<;>simp [aT.isReb,aT.isPut])) (gH h7) (fun d hd=>absurd hd (no d)) h9
     ·unfold Bb
      rw [hopc]
      exact .inr ⟨rfl,rfl,t,st,rows,rfl,hev⟩
     ·rw [ii,he2];rfl
     ·rw [eZ,hh2];rfl
   ·rename_i n1 n2 n3
    split at hop
    case h_2=>exact hop.elim
    rename_i v e hev
    obtain ⟨h6,h7,h8,h9⟩:=hop
    obtain ⟨p1,p2⟩:=fO h6
    rw [he2] at p1 hev
    rw [hh2] at p2 hev
    refine fin (s1:=(s2.eff e).put o.o.dst v) (ev:=some (v,e)) ⟨hgd,⟨?_,p1,hoi' _ (fun hmv k hk id hid=>dL.2 (.inl (Pz hev hmv k hk id hid))),fun _=>p2,fun j ob he=>?_,fun d hd=>?_,rfl,rfl,.inl rfl,?_,?_,fun hh=>Fo hh⟩⟩ rfl (by first | (rintro ⟨hr,_⟩;cases hr;done) | (cases e<;>simp [aT.isReb,aT.isPut])) (gH h7) (fun d hd m hm=>?_) h9
    ·unfold Bb
     split
     ·rename_i f args hopc;exact (n1 f args hopc).elim
     ·rename_i f args hopc;exact (n2 f args hopc).elim
     ·exact .inl hev
    ·subst he
     obtain ⟨q1,q2⟩:=xY hev
     subst q2
     exact (hu _ i (by simpa using hal q1) (aO i)).1
    ·exact dL.2 hd
    ·rw [ii,sA,he2]
    ·rw [eZ,nq,hh2]
    ·exact mO h8 d (dL.2 hd) m hm
  unfold dq at hk
  split at hk
  ·rename_i hg
   exact run rfl rfl (fun k b hkb=>by rw [hg] at hkb;cases hkb) hk
  ·rename_i k b hg
   split at hk
   case h_3=>exact hk.elim
   case h_2 =>
    rename_i hv
    refine fin (s1:=s.put o.o.dst (.tup [])) (ev:=none) (x:=⟨i,[],[],[],false,false⟩) ⟨⟨k,b,hg,.inr hv⟩,?_,by rw [eZ],rfl,rfl,rfl⟩ rfl (by rintro ⟨hr,_⟩;cases hr) (fun y hy=>.inr (.inl ⟨?_,?_,?_,?_,?_,?_,?_,?_⟩)) ?_ hk
    ·rw [ii]
    ·intro d _;exact ⟨by simp,by simp⟩
    ·intro d hd;cases hd
    ·intro hr;cases hr
    ·intro _ d hd hd2;cases hd2
    ·rintro ⟨hr,_⟩;cases hr
    ·rintro ⟨_,hr⟩;cases hr
    ·rintro ⟨hr,_⟩;cases hr
    ·exact hnw y hy
    ·intro d hd
     rcases hd with hd | hd
     ·simp [j5,aI] at hd
     ·simp [dg,aT.ids] at hd
   rename_i t hv
   by_cases htb:t=b
   ·exact run (mw hv htb) (eZ _ _ _) (fun k' b' hkb=>by rw [hg] at hkb;cases hkb;rw [hv,htb]) (hk.1 htb)
   ·have htb':t = !b:=by cases t<;>cases b<;>simp_all
    refine fin (s1:=(s.put (some k) (.bool (!b))).put o.o.dst (.tup [])) (ev:=none) (x:=⟨i,[],[],[],false,false⟩) ⟨⟨k,b,hg,.inl (by rw [hv,htb'])⟩,?_,by rw [eZ,eZ],rfl,rfl,rfl⟩ rfl (by rintro ⟨hr,_⟩;cases hr) (fun y hy=>.inr (.inl ⟨?_,?_,?_,?_,?_,?_,?_,?_⟩)) ?_ (hk.2 htb')
    ·rw [ii,mw hv htb']
    ·intro d _;exact ⟨by simp,by simp⟩
    ·intro d hd;cases hd
    ·intro hr;cases hr
    ·intro _ d hd hd2;cases hd2
    ·rintro ⟨hr,_⟩;cases hr
    ·rintro ⟨_,hr⟩;cases hr
    ·rintro ⟨hr,_⟩;cases hr
    ·exact hnw y hy
    ·intro d hd
     rcases hd with hd | hd
     ·simp [j5,aI,fG,dO,er] at hd
     ·simp [dg,aT.ids] at hd
theorem z7 (hone:sR al) (l:List ax) (i:Nat) (hist:List HI) (s:St) (K:St→Prop) (hk:gV P al i l hist s K) (hu:Un al (fun m=>i≤m) (get s.env) (ae s.heap)) (hnw:∀y∈hist,¬(y.rb=true∧y.wr=true))
  (hl:∀(j:Nat) (o:ax),l[j]? = some o→(dp o.o.op=true→(o.o.dst.getD 0,i+j)∈al)∧(∀m∈o.bef,m<i+j)∧bz o.o.op=true) :
  ∃(items:List Item) (s':St),K s'∧T P items (get s.env) (ae s.heap) (get s'.env) (ae s'.heap)∧vP al hist items∧items.map Item.i=List.range' i l.length∧items.map (fun t=>(⟨t.o,t.bef⟩:ax))=l:=jQ hone l i hist s _ hk hu hnw hl
theorem QJ:∀(A:List Item) {t:Item} {g:Nat→AV} {h:Nat→Option ah} {g1:Nat→AV} {h1:Nat→Option ah} {g':Nat→AV} {h':Nat→Option ah},T P A g h g1 h1→dw P t.o g1 h1 t.ev t.x g' h'→T P (A++[t]) g h g' h'
 | [],t,g,h,g1,h1,g',h',⟨e1,e2⟩,hs=>by subst e1 e2;exact ⟨_,_,hs,rfl,rfl⟩
 | a :: A,t,g,h,g1,h1,g',h',⟨g2,h2,s1,ht⟩,hs=>⟨g2,h2,s1,QJ A ht hs⟩
theorem zg:∀(A:List Item) {hist:List HI} {t:Item},vP al hist A→t.x.i=t.i→(∀y∈(A.map Item.x).reverse++hist,y.i∈t.bef∨Mt t.x y)→(∀d,d∈aI (j5 t.ev)∨d∈(dg t.ev).ids→∀m,(d,m)∈al→m=t.i∨m∈t.bef)→vP al hist (A++[t])
 | [],hist,t,_,h1,h2,h3=>⟨h1,by simpa using h2,h3,trivial⟩
 | a :: A,hist,t,⟨q1,q2,q3,q4⟩,h1,h2,h3=>⟨q1,q2,q3,zg A q4 h1 (by simpa using h2) h3⟩
theorem yb (hone:sR al) (l:List ax) (s:St) (K:St→Prop) (hk:dq P al 0 l.dropLast [] s fun hist s1=>match l.getLast? with
   | some o=>A5 al (l.length - 1) o hist s1 K
   | none=>False) (hu:Un al (fun m=>0≤m) (get s.env) (ae s.heap))
  (hl:∀(j:Nat) (o:ax),l[j]? = some o→(dp o.o.op=true→(o.o.dst.getD 0,0+j)∈al)∧(∀m∈o.bef,m<0+j)∧bz o.o.op=true) :
  ∃(items:List Item) (s':St),K s'∧T P items (get s.env) (ae s.heap) (get s'.env) (ae s'.heap)∧vP al [] items∧items.map Item.i=List.range' 0 l.length∧items.map (fun t=>(⟨t.o,t.bef⟩:ax))=l:=by
 obtain ⟨A,s1,h1,h2,h3,h4,h5⟩:=jQ hone l.dropLast 0 [] s _ hk hu (fun y hy=>by cases hy) (fun j o hj=>hl j o (by
  rw [List.dropLast_eq_take,List.getElem?_take] at hj
  split at hj
  ·exact hj
  ·cases hj))
 cases hlast:l.getLast? with
 | none=>rw [hlast] at h1;exact h1.elim
 | some o =>
  rw [hlast] at h1
  simp only at h1
  have hne:l≠[]:=fun e=>by rw [e] at hlast;cases hlast
  have hll:l=l.dropLast++[o]:=by
   have:=List.dropLast_concat_getLast hne
   rw [List.getLast?_eq_some_getLast hne] at hlast
   cases hlast
   exact this.symm
  have hlen:l.dropLast.length=l.length - 1:=List.length_dropLast
  have hpos:=List.length_pos_iff.2 hne
  unfold A5 at h1
  split at h1
  case h_2=>exact h1.elim
  rename_i t st x y hop
  obtain ⟨hg,h1⟩:=h1
  split at h1
  case h_2=>exact h1.elim
  rename_i v e hev
  obtain ⟨k1,k2,k3,k4,k5⟩:=h1
  have hst:dw P o.o (get s1.env) (ae s1.heap) (some (v,e)) ⟨l.length - 1,cx (.app t st x y) s1.env,aI v++e.ids,e.tch,true,true⟩ (get ((s1.eff e).put o.o.dst v).env) (ae ((s1.eff e).put o.o.dst v).heap):=by
   refine ⟨(fun k b hkb=>by rw [hg] at hkb;cases hkb),⟨?_,?_,?_,(fun hn=>absurd ⟨rfl,rfl⟩ hn),fun j ob he=>?_,fun d hd=>dL.2 hd,rfl,k2.symm,.inr ⟨rfl,rfl⟩,?_,?_,fun hh=>by cases hh⟩⟩
   ·unfold Bb
    rw [hop]
    exact .inl hev
   ·intro k hk he
    rw [hop] at hk
    have:=eA.1 k1 k hk
    rw [he] at this
    cases this
   ·intro k hk id hid
    rw [hop] at hk
    exact .inl (jK.2 ⟨k,hk,hid⟩)
   ·subst he;cases k2
   ·rw [ii,sA]
   ·rw [eZ,nq]
  refine ⟨A++[⟨l.length - 1,o.bef,o.o,some (v,e),⟨l.length - 1,cx (.app t st x y) s1.env,aI v++e.ids,e.tch,true,true⟩⟩],(s1.eff e).put o.o.dst v,k5,QJ A (t:=⟨l.length - 1,o.bef,o.o,some (v,e),⟨l.length - 1,cx (.app t st x y) s1.env,aI v++e.ids,e.tch,true,true⟩⟩) h2 hst,zg A (t:=⟨l.length - 1,o.bef,o.o,some (v,e),⟨l.length - 1,cx (.app t st x y) s1.env,aI v++e.ids,e.tch,true,true⟩⟩) h3 rfl (fun z hz=>?_) (fun d (hd:d∈aI v∨d∈e.ids) m hm=>mO k4 d (dL.2 hd) m hm),?_,?_⟩
  ·have:=eA.1 k3 z (by simpa using hz)
   rw [wx] at this
   rcases this with q | q
   ·exact .inl (by simpa using q)
   ·simp only [Cx,QC,dV,List.isEmpty_iff,vL,eA,List.contains_eq_mem,decide_eq_false_iff_not] at q
    exact .inr (.inr ⟨rfl,rfl,q.1.1.1.1,q.2,q.1.1.1.2,q.1.1.2,q.1.2⟩)
  ·rw [List.map_append,h4,hlen,List.map_singleton]
   conv=>rhs;rw [show l.length=(l.length - 1)+1 by omega,List.range'_concat]
   simp
  ·rw [List.map_append,h5,List.map_singleton]
   exact hll.symm
end
theorem C8 {i:Nat} {o:ah} {x:AV} (h:mP i x=false):jN i o x=x:=by
 cases x<;>first | rfl | (simp only [mP,QD] at h;simp only [jN];rw [ar h])
theorem yl {f:AV→Bool} {r:AV→AV} (hh:∀x,f x=false→r x=x):∀l:List AV,l.any f=false→l.map r=l
 | [],_=>rfl
 | y :: l,hl=>by
  simp only [List.any_cons,Bool.or_eq_false_iff] at hl
  simp only [cF,hh y hl.1,yl hh l hl.2]
theorem x9 {i:Nat} {o:ah} {x:AV} (h:mC i x=false):kI i o x=x:=by
 cases x with
 | fn f caps=>simp only [mC] at h;simp only [kI,yl (fun x hx=>C8 hx) caps h]
 | _=>simp only [mC] at h;simp only [kI];exact C8 h
theorem C7 {i:Nat} {o:ah} {x:AV} (h:mG i x=false):tF i o x=x:=by
 cases x with
 | agg cs=>simp only [mG] at h;simp only [tF,yl (fun x hx=>x9 hx) cs h]
 | _=>simp only [mG] at h;simp only [tF];exact x9 h
theorem Oe {i:Nat} {o:ah} {x:AV} (h:mV i x=false):lE i o x=x:=by
 cases x with
 | tup vs=>simp only [mV] at h;simp only [lE,yl (fun x hx=>C7 hx) vs h]
 | _=>simp only [mV] at h;simp only [lE];exact C7 h
theorem Od {i:Nat} {o q:ah} (h:q.isRec=true→∀r∈q.rows,∀y∈r,mC i y=false):fu i o q=q:=by
 unfold fu
 split
 ·rename_i hr
  have:q.rows.map (fun r=>r.map (kI i o))=q.rows:=by
   conv=>rhs;rw [← List.map_id q.rows]
   refine List.map_congr_left fun r hr'=>?_
   conv=>rhs;rw [id,← List.map_id r]
   exact List.map_congr_left fun y hy=>x9 (h hr r hr' y hy)
  rw [this]
 ·rfl
section
variable {P:Program} [aV P] {c:jY} [CT c P] {a:Act} {w:World} {o:Oper} {io:aM} {ops:Array Oper} {n:Nat}
theorem Ch {g g':Nat→AV} {h h':Nat→Option ah} {ev:Option (AV×aT)} {x:HI} {bl:Nat→Option Nat} (hc:lK P n ops o=some io) (hn:c.n=n) (hst:dw P io g h ev x g' h') (hs:aC c bl g h a w)
  (hnew:dp io.op=true→h (io.dst.getD 0)=none∧cy (io.dst.getD 0) g h∧(io.dst.getD 0<1000∨2000≤io.dst.getD 0)) {K:Act→World→Prop} {Q:Exit→Act→World→Prop}
  (hK:∀a' w' bl',aC c bl' g' h' a' w'→K a' w'):if Region.wanted o (yielded ops a.tmps) then o.wp P a w K Q∨(o.asks P a w∧LetsOut Q) else K (a.put o.dst undef) w:=by
 obtain ⟨h1,h2,h3,h4⟩:=mh hc
 have hd:∀k,io.dst=some k→k<c.n:=fun k hk=>by rw [hn];exact h3 k (h2▸hk)
 have putB:∀{bl:Nat→Option Nat} {g:Nat→AV} {h:Nat→Option ah} {w:World} {v:Value} {y:AV},aC c bl g h a w→aR bl (aZ bl c.MF h) w v y→aC c bl (dG g io.dst y) h (a.put o.dst v) w:=fun {bl g h w v y} hsb hv=>by
  rw [← h2]
  cases hdd:io.dst with
  | none=>exact hsb
  | some d=>exact hsb.put (hd d hdd) hv
 have hwant:∀k b t,io.g=some (k,b)→g k = .bool t→Region.wanted o (yielded ops a.tmps)=(t==b):=fun k b t hg hv=>by
  rcases h4 with ⟨_,g2⟩ | ⟨j,b',k',g1,g2,g3⟩
  ·rw [g2] at hg;cases hg
  ·rw [g3] at hg
   cases hg
   have hk:=hs.env k
   rw [hv] at hk
   have hkv:=hk.bool
   rw [(yX (a:=a) (k:=k) (fun b hb=>by rw [hb] at hkv;cases hkv)).2] at hkv
   have hkn:k<a.tmps.size:=by
    rcases jn k a.tmps.size with hlt | hge
    ·exact hlt
    ·rw [jm,Array.getElem?_eq_none hge] at hkv
     cases hkv
   have hy:yielded ops a.tmps j=some t:=by
    have:a.tmps[k]? = some (.bool t):=by
     rw [jm,m3 hkn] at hkv
     rw [m3 hkn]
     simpa using hkv
    simp [yielded,g2,this]
   simp only [Region.wanted,g1,hy]
   cases t<;>cases b<;>rfl
 cases ev with
 | none =>
  obtain ⟨⟨k,b,hg,hv⟩,rfl,rfl,_⟩:=hst
  have hnw:¬Region.wanted o (yielded ops a.tmps)=true:=by
   rcases hv with hv | hv
   ·rw [hwant k b _ hg hv];cases b<;>simp
   ·rcases h4 with ⟨_,g2⟩ | ⟨j,b',k',g1,g2,g3⟩
    ·rw [g2] at hg;cases hg
    ·rw [g3] at hg
     cases hg
     have hk:=hs.env k
     rw [hv] at hk
     simp [Region.wanted,g1,lZ (ops:=ops) g2 hk]
  rw [ar hnw]
  exact hK _ _ _ (putB hs (y:=.tup []) ⟨[],rfl,trivial⟩)
 | some p =>
  obtain ⟨v,e⟩:=p
  obtain ⟨hgd,hf⟩:=hst
  have hw:Region.wanted o (yielded ops a.tmps)=true:=by
   rcases h4 with ⟨g1,_⟩ | ⟨j,b',k',g1,g2,g3⟩
   ·simp [Region.wanted,g1]
   ·rw [hwant k' b' b' g3 (hgd k' b' g3)];simp
  rw [av hw]
  refine .inl ?_
  have hr:=hf.run
  unfold Bb at hr
  split at hr
  ·rename_i f args hop
   rw [hop] at h1
   obtain ⟨cl,hoo,hcl,hb,hv⟩:=zI h1
   rcases hr with ⟨rfl,_,args',b,q1,q2,q3,q4⟩ | ⟨k,ob,ob',Sb,rfl,q1,q2,q3,q4,_⟩
   rotate_left
   ·refine iP (f:=f) (args:=cl.args.map a.eval) ?_ ?_
    ·have:=gG (w:=w) hb (cl.args.map a.eval)
     simp [execOp,hoo,resolve,hcl,Act.eval,Deferred.ofValue,invoke,this]
    ·have hσ:∀id o,ae [(k,ob)] id=some o→h id=some o:=fun id o hi=>by
      simp only [ae] at hi
      split at hi
      ·rename_i hki;subst hki;cases hi;exact q4
      ·cases hi
     have:=Aw hs q2 (jt hs hv) hσ [] (fun r σ' hP id hid=>by
      obtain ⟨rfl,rfl⟩:=hP
      simp only [ae] at hid
      split at hid
      ·rename_i hki;subst hki;exact .inl ⟨q3,by simp [ae]⟩
      ·cases hid)
     simp only [Array.toArray_toList] at this
     refine this.mono fun e' w' ⟨u,r,σ',bl2,he,hP,hs',hv'⟩=>⟨u,he,?_⟩
     obtain ⟨rfl,rfl⟩:=hP
     have eg:(fun j=>j9 [] (g j))=g:=by funext j;simp [j9]
     have eh:Dw [] (ae [(k,ob)]) (ae [(k,ob')]) h=(aT.put k ob').hp h:=by
      funext j
      simp only [Dw,ae,aT.hp,c_]
      by_cases hj:k=j
      ·subst hj;simp
      ·have hj':¬j=k:=fun e=>hj e.symm
       have:eY []=id:=by funext o;unfold eY qr;simp
       simp [hj,hj',this]
     rw [eg,eh] at hs'
     rw [eh] at hv'
     refine hK _ _ bl2 ?_
     rw [hf.hg,hf.hh]
     exact putB hs' hv'
   refine iP (f:=f) (args:=cl.args.map a.eval) ?_ ?_
   ·have:=gG (w:=w) hb (cl.args.map a.eval)
    simp [execOp,hoo,resolve,hcl,Act.eval,Deferred.ofValue,invoke,this]
   ·have:=xB hs q1 (jt hs hv) q2 b q3 q4
    simp only [Array.toArray_toList] at this
    refine this.mono fun e' w' ⟨u,he,hs',hv'⟩=>⟨u,he,?_⟩
    refine hK _ _ bl ?_
    rw [hf.hg,hf.hh]
    exact putB hs' hv'
  ·exact hr.elim
  ·rcases hr with hr | ⟨rfl,hal,t,st,rows,rfl,hr⟩
   ·refine sQ (Bj hs h1 hr hnew) (fun r w' bl' q1 q2=>hK _ _ bl' ?_)
    rw [hf.hg,hf.hh]
    exact putB q1 q2
   ·refine sQ (Bj hs h1 hr hnew) (fun r w' bl' q1 q2=>hK _ _ bl' ?_)
    obtain ⟨u1,u2,_⟩:=hnew hal
    obtain ⟨f1,f2⟩:=q1.freeze (i:=io.dst.getD 0) (o:=⟨t,st,rows,false⟩) (by simp [aT.hp,c_]) rfl
    have f3:=f2 _ _ q2
    have e1:(fun k=>lE (io.dst.getD 0) ⟨t,st,rows,false⟩ ((aT.new (io.dst.getD 0) ⟨t,st,rows,false⟩).env g k))=g:=funext fun k=>Oe (u2.1 k)
    have e2:(fun j=>if j=io.dst.getD 0 then none else ((aT.new (io.dst.getD 0) ⟨t,st,rows,false⟩).hp h j).map (fu (io.dst.getD 0) ⟨t,st,rows,false⟩))=h:=funext fun j=>by
     by_cases hj:j=io.dst.getD 0
     ·rw [av hj,hj,u1]
     ·rw [ar hj]
      simp only [aT.hp,c_,ar hj]
      cases hq:h j with
      | none=>rfl
      | some q=>simp only [eH];rw [Od fun hr=>u2.2 j q hq hr]
    have e3:lE (io.dst.getD 0) ⟨t,st,rows,false⟩ (.ms (io.dst.getD 0) st 0 rows.length) = .sl st rows:=by simp [lE,tF,kI,jN]
    rw [e1,e2] at f1
    rw [e2,e3] at f3
    rw [hf.hg,hf.hh]
    exact putB f1 f3
theorem fk {listed:Array Bool} {i:Nat}:i∈Region.ready .any ops listed↔i<ops.size∧listed.getD i true=false∧∃o,ops[i]? = some o∧∀d∈gE o,listed.getD d false=true:=by
 unfold Region.ready
 simp only [List.mem_filter,List.mem_range,dV,vL]
 refine ⟨fun ⟨h1,h2,h3⟩=>⟨h1,h2,ops[i],m3 h1,?_⟩,fun ⟨h1,h2,o,h3,h4⟩=>⟨h1,h2,?_⟩⟩
 ·rw [m3 h1] at h3
  simp only [eH,Option.getD_some,Array.all_eq_true_iff_forall_mem,wx,vL] at h3
  intro d hd
  simp only [gE,List.mem_map,List.mem_filter,Array.mem_toList_iff] at hd
  obtain ⟨e,⟨he1,he2⟩,rfl⟩:=hd
  rcases h3 e he1 with h5 | h5
  ·rw [he2] at h5;cases h5
  ·exact h5
 ·rw [h3]
  simp only [eH,Option.getD_some,Array.all_eq_true_iff_forall_mem,wx,vL]
  intro e he
  cases hb:Region.binds .any e with
  | false=>exact .inl rfl
  | true =>
   refine .inr (h4 e.on ?_)
   simp only [gE,List.mem_map,List.mem_filter,Array.mem_toList_iff]
   exact ⟨e,⟨he,hb⟩,rfl⟩
structure gW (ops:Array Oper) (bs:List (List Nat)):Prop where
 lt:∀i o,ops[i]? = some o→∀d∈gE o,d<i
 via:∀i o,ops[i]? = some o→∀d∈bs.getD i [],d∈gE o∨∃m∈gE o,d∈bs.getD m []
theorem B0 {bs:List (List Nat)} (h:Rh ops.toList bs=true):gW ops bs:=by
 have key:∀i o,ops[i]? = some o→(∀d∈gE o,d<i)∧∀d∈bs.getD i [],d∈gE o∨∃m∈gE o,d∈bs.getD m []:=fun i o hi=>by
  have hlt:i<ops.toList.length:=by
   have:=(f9.1 hi).1
   simpa using this
  have:=eA.1 h i (List.mem_range.2 hlt)
  have hi':ops.toList[i]? = some o:=by rw [Array.getElem?_toList];exact hi
  simp only [hi',dV,eA,qc,wx,List.any_eq_true,List.contains_eq_mem] at this
  exact this
 exact ⟨fun i o hi=>(key i o hi).1,fun i o hi=>(key i o hi).2⟩
theorem gW.bef_lt {bs:List (List Nat)} (hO:gW ops bs):∀(i:Nat) (o:Oper),ops[i]? = some o→∀d∈bs.getD i [],d<i:=by
 intro i
 induction i using Nat.strongRecOn with
 | _ i ih =>
  intro o hi d hd
  rcases hO.via i o hi d hd with h1 | ⟨m,h1,h2⟩
  ·exact hO.lt i o hi d h1
  ·have hm:=hO.lt i o hi m h1
   have hms:m<ops.size:=Nat.lt_trans hm (f9.1 hi).1
   have:=ih m hm ops[m] (m3 hms) d h2
   omega
theorem gW.listed {bs:List (List Nat)} (hO:gW ops bs) {p:Nat→Prop} (hdc:∀i o,p i→ops[i]? = some o→∀d∈gE o,p d):∀(i:Nat) (o:Oper),ops[i]? = some o→(∀d∈gE o,p d)→∀d∈bs.getD i [],p d:=by
 intro i
 induction i using Nat.strongRecOn with
 | _ i ih =>
  intro o hi he d hd
  rcases hO.via i o hi d hd with h1 | ⟨m,h1,h2⟩
  ·exact he d h1
  ·have hm:=hO.lt i o hi m h1
   have hms:m<ops.size:=Nat.lt_trans hm (f9.1 hi).1
   exact ih m hm ops[m] (m3 hms) (hdc m _ (he m h1) (m3 hms)) d h2
theorem Eq (hn:c.n=n) {al:List (Nat×Nat)} (hone:sR al) (hal:∀d m,(d,m)∈al→d<1000) {bs:List (List Nat)} (hO:gW ops bs) {gf:Nat→AV} {hf:Nat→Option ah} {Q:Exit→Act→World→Prop} (off fuel0:Nat) (Z:Nat→Prop)
  (hQ:∀(listed:Array Bool) a w bl,listed.size=ops.size→(∀j,j<ops.size→(listed.getD j true=false↔Z j))→aC c bl gf hf a w→wpAny P .any ops Q fuel0 listed a w):∀(fuel:Nat) (R:List Item) (listed:Array Bool) (g:Nat→AV) (h:Nat→Option ah) (a:Act) (w:World) (bl:Nat→Option Nat),R.length=fuel→listed.size=ops.size →
   aC c bl g h a w→T P R g h gf hf→Un al (fun m=>∃t∈R,t.i=m) g h →
   (∀j,j<ops.size→(listed.getD j true=false↔(∃t∈R,off+t.i=j)∨Z j)) →
   (∀j,Z j→∀t∈R,off+t.i∈bs.getD j []) →
   (∀i o,listed.getD i false=true→ops[i]? = some o→∀d∈gE o,listed.getD d false=true) →
   (∀t∈R,∃o,ops[off+t.i]? = some o∧lK P n ops o=some t.o∧(∀d∈t.bef,off+d∈bs.getD (off+t.i) [])∧bz t.o.op=true∧(dp t.o.op=true→(t.o.dst.getD 0,t.i)∈al) ∧
    (∀d,d∈aI (j5 t.ev)∨d∈(dg t.ev).ids→∀m,(d,m)∈al→m=t.i∨m∈t.bef)) →
   R.Pairwise (fun m t=>m.i<t.i∧(m.i∈t.bef∨(wy m.o t.o∧Mt t.x m.x)))→wpAny P .any ops Q (fuel+fuel0) listed a w:=by
 intro fuel
 induction fuel with
 | zero =>
  intro R listed g h a w bl hlen hsz hs ht hu hli hbk hdc hit hpw
  have hR:R=[]:=List.length_eq_zero_iff.1 hlen
  subst hR
  obtain ⟨rfl,rfl⟩:=ht
  rw [Nat.zero_add]
  refine hQ listed a w bl hsz (fun j hj=>?_) hs
  rw [hli j hj]
  refine ⟨fun hh=>?_,.inr⟩
  rcases hh with ⟨t,ht,_⟩ | hh
  ·cases ht
  ·exact hh
 | succ fuel ih =>
  intro R listed g h a w bl hlen hsz hs ht hu hli hbk hdc hit hpw
  have hgetD:∀j,j<ops.size→listed.getD j true=listed.getD j false:=fun j hj=>by
   have:j<listed.size:=by omega
   simp [jm,m3 this]
  rw [Nat.add_right_comm]
  refine ⟨fun hr=>?_,fun i hi=>?_⟩
  ·
   exfalso
   cases R with
   | nil=>simp at hlen
   | cons t R =>
    obtain ⟨o,h1,_⟩:=hit t (by simp)
    have hlt:=(f9.1 h1).1
    have:off+t.i∈Region.ready .any ops listed:=fk.2 ⟨hlt,(hli (off+t.i) hlt).2 (.inl ⟨t,by simp,rfl⟩),o,h1,fun d hd=>by
     have hdl:=hO.lt (off+t.i) o h1 d hd
     have hds:d<ops.size:=by omega
     cases hv:listed.getD d false with
     | true=>rfl
     | false =>
      rw [← hgetD d hds] at hv
      rcases (hli d hds).1 hv with ⟨q,hq,hqi⟩ | hz
      ·rcases bc.1 hq with rfl | hq
       ·omega
       ·have:=((List.pairwise_cons.1 hpw).1 q hq).1
        omega
      ·have h5:=hbk d hz t (by simp)
       have h6:=hO.bef_lt d ops[d] (m3 hds) _ h5
       omega⟩
    rw [hr] at this
    cases this
  ·obtain ⟨h1,h2,o,h3,h4⟩:=fk.1 hi
   have hbefs:∀d∈bs.getD i [],listed.getD d false=true:=hO.listed hdc i o h3 h4
   have hiR:∃t∈R,off+t.i=i:=by
    rcases (hli i h1).1 h2 with hh | hz
    ·exact hh
    ·exfalso
     cases R with
     | nil=>simp at hlen
     | cons t R =>
      have h5:=hbefs _ (hbk i hz t (by simp))
      obtain ⟨ot,hot,_⟩:=hit t (by simp)
      have hl:=(f9.1 hot).1
      have h6:=(hli (off+t.i) hl).2 (.inl ⟨t,by simp,rfl⟩)
      rw [hgetD _ hl,h5] at h6
      cases h6
   obtain ⟨t,htR,hti⟩:=hiR
   subst hti
   obtain ⟨A,B,rfl⟩:=List.append_of_mem htR
   obtain ⟨o',q1,q2,q3,q4,q5,q6⟩:=hit t (by simp)
   rw [h3] at q1
   cases q1
   have hbef:∀d∈t.bef,listed.getD (off+d) false=true:=fun d hd=>hbefs _ (q3 d hd)
   have hpA:∀m∈A,m.i<t.i∧(m.i∈t.bef∨(wy m.o t.o∧Mt t.x m.x)):=fun m hm=>(List.pairwise_append.1 hpw).2.2 m hm t (by simp)
   have hun:∀m∈A++B,m.i≠t.i:=fun m hm=>by
    rcases dL.1 hm with hm | hm
    ·have:=(hpA m hm).1;omega
    ·have:=((List.pairwise_cons.1 (List.pairwise_append.1 hpw).2.1).1 m hm).1;omega
   have hnot:∀m∈A++t :: B,listed.getD (off+m.i) false=false:=fun m hm=>by
    obtain ⟨om,hom,_⟩:=hit m hm
    have hl:=(f9.1 hom).1
    rw [← hgetD (off+m.i) hl]
    exact (hli (off+m.i) hl).2 (.inl ⟨m,hm,rfl⟩)
   obtain ⟨g1,hh1,hst,hT⟩:=QV A t B g h gf hf ht (fun m hm=>by
    rcases (hpA m hm).2 with hb | hb
    ·have:=hbef m.i hb
     rw [hnot m (by simp [hm])] at this
     cases this
    ·exact hb) (fun m hm=>by obtain ⟨_,_,_,_,q,_⟩:=hit m (by simp [hm]);exact q) q4
   unfold wpOp
   rw [h3]
   simp only
   have hu':Un al (fun m=>∃q∈A++B,q.i=m) g1 hh1:=Un.step hst hu q4 q6 (fun m hm ⟨q,hq,hqi⟩=>by
    have:=hbef m hm
    rw [← hqi,hnot q (by
     rcases dL.1 hq with hq | hq
     ·simp [hq]
     ·simp [hq])] at this
    cases this) q5 hone (fun m ⟨q,hq,hqi⟩=>⟨⟨q,by
     rcases dL.1 hq with hq | hq
     ·simp [hq]
     ·simp [hq],hqi⟩,by rw [← hqi];exact hun q hq⟩)
   refine Ch q2 hn hst hs (fun ha=>?_) (fun a' w' bl' hs'=>?_)
   ·obtain ⟨u1,u2⟩:=hu _ t.i (q5 ha) ⟨t,by simp,rfl⟩
    exact ⟨u1,u2,.inl (hal _ _ (q5 ha))⟩
   ·refine ih (A++B) (listed.setIfInBounds (off+t.i) true) g1 hh1 a' w' bl' (by simp at hlen ⊢;omega) (by simpa using hsz) hs' hT hu' (fun j hj=>?_) (fun j hz m hm=>hbk j hz m ?_) (fun j oj hj hoj d hd=>?_) (fun m hm=>?_) ?_
    ·have hset:(listed.setIfInBounds (off+t.i) true).getD j true=if off+t.i=j then true else listed.getD j true:=by
      simp only [jm,y_]
      split
      ·rename_i e;subst e;simp [hsz,h1]
      ·rfl
     rw [hset]
     constructor
     ·intro hv
      split at hv
      ·cases hv
      ·rename_i hne
       rcases (hli j hj).1 hv with ⟨q,hq,hqi⟩ | hz
       ·refine .inl ⟨q,?_,hqi⟩
        rcases dL.1 hq with hq | hq
        ·simp [hq]
        ·rcases bc.1 hq with rfl | hq
         ·exact absurd hqi hne
         ·simp [hq]
       ·exact .inr hz
     ·rintro (⟨q,hq,hqi⟩ | hz)
      ·rw [ar (fun e=>hun q hq (by omega))]
       refine (hli j hj).2 (.inl ⟨q,?_,hqi⟩)
       rcases dL.1 hq with hq | hq
       ·simp [hq]
       ·simp [hq]
      ·rw [ar (fun e=>by
        subst e
        have h5:=hbk _ hz t (by simp)
        have h6:=hO.bef_lt _ _ h3 _ h5
        omega)]
       exact (hli j hj).2 (.inr hz)
    ·rcases dL.1 hm with hm | hm
     ·simp [hm]
     ·simp [hm]
    ·have hset:∀k,(listed.setIfInBounds (off+t.i) true).getD k false=if off+t.i=k then true else listed.getD k false:=fun k=>by
      simp only [jm,y_]
      split
      ·rename_i e;subst e;simp [hsz,h1]
      ·rfl
     rw [hset] at hj ⊢
     split
     ·rfl
     ·split at hj
      ·rename_i e
       subst e
       rw [h3] at hoj
       cases hoj
       exact h4 d hd
      ·exact hdc j oj hj hoj d hd
    ·refine hit m ?_
     rcases dL.1 hm with hm | hm
     ·simp [hm]
     ·simp [hm]
    ·have hsub:(A++B).Sublist (A++t :: B):=List.Sublist.append_left (List.sublist_cons_self t B) A
     exact hpw.sublist hsub
end
def LQ (c:jY) (K:IX→St→Prop):Exit→Act→World→Prop
 | .normal,a,w=>∃s,K .nrm s∧bW c s a w
 | .ret,a,w=>∃s,K .ret s∧bW c s a w
 | .exit id,a,w=>∃s,K (.ext id) s∧bW c s a w
 | _,_,_=>False
section
variable {P:Program} [aV P] {c:jY} [CT c P] {n:Nat}
theorem Ae {p:Nat→Prop} (h:∃n,p n):∃n,p n∧∀m,m<n→¬p m:=by
 obtain ⟨n,hn⟩:=h
 induction n using Nat.strongRecOn with
 | _ n ih =>
  by_cases hm:∃m,m<n∧p m
  ·obtain ⟨m,h1,h2⟩:=hm
   exact ih m h1 h2
  ·exact ⟨n,hn,fun m h1 h2=>hm ⟨m,h1,h2⟩⟩
open Classical in
theorem Gi {x:Code} {Q:Exit→Act→World→Prop} {a:Act} {w:World} (I:Nat→Act→World→Prop) (h0:∃n,I n a w)
  (round:∀n a w,I n a w→x.wp P (Exit.then (fun a' w'=>∃m,m<n∧I m a' w') Q) a w):(Code.loop x).wp P Q a w:=by
 refine wp_loop (fun a w=>∃n,I n a w) (fun a w=>if h:∃n,I n a w then Classical.choose (Ae h) else 0) h0 (fun a w hI=>?_)
 have hc:=Classical.choose_spec (Ae hI)
 refine Code.wp_mono (fun e a' w' hq=>?_) (round _ a w hc.1)
 cases e<;>try exact hq
 obtain ⟨m,hm,hI'⟩:=hq
 refine ⟨⟨m,hI'⟩,?_⟩
 rw [dif_pos ⟨m,hI'⟩,dif_pos hI]
 have hc':=Classical.choose_spec (Ae (p:=fun n=>I n a' w') ⟨m,hI'⟩)
 rcases jn m (Classical.choose (Ae (p:=fun n=>I n a' w') ⟨m,hI'⟩)) with h1 | h1
 ·exact absurd hI' (hc'.2 m h1)
 ·omega
theorem kF {ops:Array Oper}:∀{l:List Oper} {il:List aM},s9 P n ops l=some il→il.length=l.length∧∀(j:Nat) (io:aM),il[j]? = some io→∃o,l[j]? = some o∧lK P n ops o=some io
 | [],il,h=>by simp only [s9,bV] at h;subst h;simp
 | o :: r,il,h=>by
  simp only [s9] at h
  split at h
  case h_2=>cases h
  rename_i x xs h1 h2
  cases h
  obtain ⟨h3,h4⟩:=kF h2
  refine ⟨by simp [h3],fun j io hj=>?_⟩
  cases j with
  | zero=>simp at hj;subst hj;exact ⟨o,by simp,h1⟩
  | succ j=>simp at hj;obtain ⟨o',h5,h6⟩:=h4 j io hj;exact ⟨o',by simpa using h5,h6⟩
theorem kB:∀(l:List aM) (i:Nat) (d m:Nat),(d,m)∈cm i l↔∃j o,l[j]? = some o∧dp o.op=true∧d=o.dst.getD 0∧m=i+j
 | [],i,d,m=>by simp [cm]
 | o :: r,i,d,m=>by
  have ih:=kB r (i+1) d m
  have key:(∃j o',(o :: r)[j]? = some o'∧dp o'.op=true∧d=o'.dst.getD 0∧m=i+j)↔(dp o.op=true∧d=o.dst.getD 0∧m=i)∨∃j o',r[j]? = some o'∧dp o'.op=true∧d=o'.dst.getD 0∧m=i+1+j:=by
   constructor
   ·rintro ⟨j,o',h1,h2,h3,h4⟩
    cases j with
    | zero=>simp at h1;subst h1;exact .inl ⟨h2,h3,by omega⟩
    | succ j=>exact .inr ⟨j,o',by simpa using h1,h2,h3,by omega⟩
   ·rintro (⟨h2,h3,h4⟩ | ⟨j,o',h1,h2,h3,h4⟩)
    ·exact ⟨0,o,by simp,h2,h3,by omega⟩
    ·exact ⟨j+1,o',by simpa using h1,h2,h3,by omega⟩
  rw [key,← ih]
  by_cases ha:dp o.op=true
  ·rw [show cm i (o :: r)=(o.dst.getD 0,i) :: cm (i+1) r from by simp [cm,ha]]
   simp [ha]
  ·rw [show cm i (o :: r)=cm (i+1) r from by simp [cm,ha]]
   simp [ha]
theorem qo:∀{l:List Nat},yA l=true→l.Nodup
 | [],_=>by simp
 | x :: r,h=>by
  simp only [yA,dV,vL,List.contains_eq_mem,decide_eq_false_iff_not] at h
  exact List.nodup_cons.2 ⟨h.1,qo h.2⟩
theorem If {al:List (Nat×Nat)} (h:(al.map (·.1)).Nodup):sR al:=by
 induction al with
 | nil=>intro d m m' h1;cases h1
 | cons p r ih =>
  simp only [cF,List.nodup_cons] at h
  intro d m m' h1 h2
  rcases bc.1 h1 with e1 | h1<;>rcases bc.1 h2 with e2 | h2
  ·rw [← e1] at e2;cases e2;rfl
  ·exact absurd (List.mem_map.2 ⟨(d,m'),h2,by rw [← e1]⟩) h.1
  ·exact absurd (List.mem_map.2 ⟨(d,m),h1,by rw [← e2]⟩) h.1
  ·exact ih h.2 d m m' h1 h2
theorem jg:∀(l:List Nat) (s:St) (d:Nat),(ae s.heap d=none∧cy d (get s.env) (ae s.heap))∨d∈l→ae (kills l s).heap d=none∧cy d (get (kills l s).env) (ae (kills l s).heap)
 | [],s,d,h=>by rcases h with h | h;exact h;cases h
 | i :: r,s,d,h=>by
  refine jg r (s.kill i) d ?_
  by_cases hd:d=i
  ·subst hd;exact .inl (dE s d)
  ·rcases h with ⟨h1,h2⟩ | h
   ·refine .inl ⟨by simp [St.kill,dM,cS,h1],fun k=>?_,fun j o hj hr q hq x hx=>?_⟩
    ·simp only [St.kill,fF]
     unfold fg
     split
     ·rfl
     ·exact h2.1 k
    ·simp only [St.kill,dM,cS,cJ] at hj
     obtain ⟨o0,h3,rfl⟩:=hj
     split at h3
     ·cases h3
     ·rw [kP] at hr
      simp only [cU,hr,dl,List.mem_map] at hq
      obtain ⟨q0,hq0,rfl⟩:=hq
      obtain ⟨x0,hx0,rfl⟩:=List.mem_map.1 hx
      unfold jk
      split
      ·rfl
      ·exact h2.2 j o0 h3 hr q0 hq0 x0 hx0
   ·rcases bc.1 h with h | h
    ·exact absurd h hd
    ·exact .inr h
theorem tO {al:List (Nat×Nat)}:∀{items:List Item} {hist:List HI},vP al hist items→(∀t∈items,(∀y∈hist,y.i∈t.bef∨Mt t.x y)∧t.x.i=t.i∧(∀d,d∈aI (j5 t.ev)∨d∈(dg t.ev).ids→∀m,(d,m)∈al→m=t.i∨m∈t.bef)) ∧
  items.Pairwise (fun m t=>m.i∈t.bef∨Mt t.x m.x)
 | [],_,_=>⟨by simp,List.Pairwise.nil⟩
 | t :: R,hist,h=>by
  obtain ⟨h1,h2,h3,h4⟩:=h
  obtain ⟨h5,h6⟩:=tO h4
  refine ⟨fun q hq=>?_,List.pairwise_cons.2 ⟨fun q hq=>?_,h6⟩⟩
  ·rcases bc.1 hq with rfl | hq
   ·exact ⟨h2,h1,h3⟩
   ·exact ⟨fun y hy=>(h5 q hq).1 y (by simp [hy]),(h5 q hq).2⟩
  ·have:=(h5 q hq).1 t.x (by simp)
   rwa [h1] at this
theorem AD (l:List Nat):∀(f k:Nat),(∀d,d<k→d∈l)→∀d,d<dK l f k→d∈l
 | 0,k,h=>h
 | f+1,k,h=>by
  simp only [dK]
  split
  ·rename_i hc
   refine AD l f (k+1) (fun d hd=>?_)
   rcases jn d k with h1 | h1
   ·exact h d h1
   ·obtain rfl:d=k:=by omega
    simpa using hc
  ·exact h
def Bc (bs:List (List Nat)) (N:Nat):Nat→List aM→List (Nat×List aM)→Prop
 | _,l,[]=>l=[]
 | i,l,(k,s) :: t=>k=i∧s≠[]∧∃r,l=s++r∧Bc bs N (i+s.length) r t∧(t≠[]→∀j,i+s.length≤j→j<N→∀d,d<i+s.length→d∈bs.getD j [])
theorem DN (bs:List (List Nat)) (N:Nat):∀(l:List aM) (i:Nat),i+l.length=N→Bc bs N i l (AR bs i l).1∧∀j,i≤j→j<N→(AR bs i l).2≤dK (bs.getD j []) j 0
 | [],i,h=>⟨rfl,fun j h1 h2=>by simp at h;omega⟩
 | o :: r,i,h=>by
  simp only [iw] at h
  obtain ⟨h1,h2⟩:=DN bs N r (i+1) (by omega)
  have hm:∀(m:Nat),m=(AR bs (i+1) r).2→∀j,i≤j→j<N→min m (dK (bs.getD i []) i 0)≤dK (bs.getD j []) j 0:=fun m hm j h3 h4=>by
   rcases jn i j with h5 | h5
   ·exact eJ (Nat.min_le_left _ _) (by rw [hm];exact h2 j h5 h4)
   ·obtain rfl:i=j:=by omega
    exact Nat.min_le_right _ _
  rw [AR]
  generalize hs:AR bs (i+1) r=q at *
  obtain ⟨t,m⟩:=q
  match t,h1 with
  | [],h1 =>
   refine ⟨⟨rfl,by simp,r,rfl,h1,fun h=>absurd rfl h⟩,hm m rfl⟩
  | (k,s) :: t,h1 =>
   simp only
   split
   ·rename_i hc
    refine ⟨⟨rfl,by simp,r,rfl,h1,fun _ j h3 h4 d h5=>?_⟩,hm m rfl⟩
    simp only [vK] at h3 h5
    exact AD _ j 0 (fun d hd=>absurd hd (Nat.not_lt_zero d)) d (Nat.lt_of_lt_of_le (show d<m by omega) (h2 j h3 h4))
   ·obtain ⟨e1,e2,r',e3,e4,e5⟩:=h1
    have e:i+1+s.length=i+(o :: s).length:=by simp;omega
    refine ⟨⟨rfl,by simp,r',by rw [e3];rfl,by rw [← e];exact e4,by rw [← e];exact e5⟩,hm m rfl⟩
theorem fe {ic x:be} (h:cP ic=x) (hx:(∃ops dr,x = .reg ops dr)∨x = .skip∨x = .ret∨∃id,x = .exit id):ic=x:=by
 rcases hx with ⟨ops,dr,rfl⟩ | rfl | rfl | ⟨id,rfl⟩<;>cases ic<;>simp only [cP] at h<;>first | (cases h;done) | rfl | exact h
def QH (ic ic0:be):Prop:=(ic=ic0∨∃ops al dr,ic0 = .draw ops al dr∧ic = .wild ops al dr)∨∃ops al dr,ic0 = .draw ops al dr∧ic = .free ops al dr
theorem wY {ic x:be} (h:cP ic=x) (hx:(∃ops dr,x = .reg ops dr)∨∃ops al dr,x = .draw ops al dr):QH ic x:=by
 rcases hx with ⟨ops,dr,rfl⟩ | ⟨ops,al,dr,rfl⟩
 ·exact .inl (.inl (fe h (.inl ⟨_,_,rfl⟩)))
 ·cases ic<;>simp only [cP] at h<;>first | (cases h;done) | skip
  ·exact .inl (.inl h)
  ·cases h;exact .inr ⟨_,_,_,rfl,rfl⟩
  ·cases h;exact .inl (.inr ⟨_,_,_,rfl,rfl⟩)
theorem wS {α:Type} {F:α→Prop}:∀{l:List α},lL l F→∀{x:α},x∈l→F x
 | [y],h,x,hx=>by obtain rfl:=du.1 hx;exact h
 | y :: z :: r,h,x,hx=>by
  rcases bc.1 hx with rfl | hx
  ·exact h.1
  ·exact wS h.2 hx
theorem Bw {R:List (Nat×ax)} {t:Nat×ax} (h:R.Pairwise (fun a b=>a.1≠b.1)) (ht:t∈R):(R.filter fun q=>q.1 != t.1).length+1=R.length:=by
 induction R with
 | nil=>cases ht
 | cons y R ih =>
  have h1:=(List.pairwise_cons.1 h).1
  have h2:=(List.pairwise_cons.1 h).2
  rcases bc.1 ht with e | ht
  ·subst e
   have e:R.filter (fun q=>q.1 != t.1)=R:=List.filter_eq_self.2 fun q hq=>bne_iff_ne.2 fun e=>h1 q hq e.symm
   have e2:(t.1 != t.1)=false:=by simp
   rw [List.filter_cons,e2,e]
   rfl
  ·have h3:=ih h2 ht
   have e2:(y.1 != t.1)=true:=bne_iff_ne.2 (h1 t ht)
   rw [List.filter_cons,e2]
   show ((R.filter fun q=>q.1 != t.1).length+1)+1=R.length+1
   omega
section
variable {ops:Array Oper} {bs:List (List Nat)} {L:List aM} {Q:Exit→Act→World→Prop} {a:Act} {w:World} {st:St} {KK:IX→St→Prop} {listed:Array Bool}
theorem iZ {i:Nat} (hsz:listed.size=ops.size) (hl:∀j,j<ops.size→(listed.getD j true=false↔i≤j)) (j:Nat) (hj:j<ops.size):listed.getD j false=true↔j<i:=by
 have hgetD:listed.getD j true=listed.getD j false:=by
  have:j<listed.size:=by omega
  simp [jm,m3 this]
 have:=hl j hj
 rw [hgetD] at this
 cases hv:listed.getD j false with
 | true=>simp [hv] at this;simpa using this
 | false=>simp [hv] at this;simpa using this
theorem jh {i:Nat} (hO:gW ops bs) (hsz:listed.size=ops.size) (hl:∀j,j<ops.size→(listed.getD j true=false↔i≤j)) :
  ∀j o,listed.getD j false=true→ops[j]? = some o→∀d∈gE o,listed.getD d false=true:=fun j o hj ho d hd=>by
 have hjs:=(f9.1 ho).1
 have h1:=(iZ hsz hl j hjs).1 hj
 have h2:=hO.lt j o ho d hd
 exact (iZ hsz hl d (by omega)).2 (by omega)
theorem pf (hn:c.n=n) (hO:gW ops bs) (hL:s9 P n ops ops.toList=some L) {i:Nat} {s r:List aM} (hs:L.drop i=s++r) (hne:s≠[]) {dr:List Nat} {ic ic0:be} (hc:ED bs i s dr=some ic0)
  (hic:QH ic ic0) (hi:ir P ic st KK) (hst:bW c st a w) (hsz:listed.size=ops.size) (hl:∀j,j<ops.size→(listed.getD j true=false↔i≤j))
  (hcut:r≠[]→∀j,i+s.length≤j→j<ops.size→∀d,d<i+s.length→d∈bs.getD j [])
  (hnext:∀(st':St) (a':Act) (w':World) (listed':Array Bool),KK .nrm st'→bW c st' a' w'→listed'.size=ops.size→(∀j,j<ops.size→(listed'.getD j true=false↔i+s.length≤j))→wpAny P .any ops Q r.length listed' a' w') :
  wpAny P .any ops Q (s.length+r.length) listed a w:=by
 obtain ⟨hlen,hget'⟩:=kF hL
 simp only [jo] at hlen
 have hsize:i+s.length+r.length=ops.size:=by
  have h1:=congrArg List.length hs
  have h2:0<s.length:=List.length_pos_iff.2 hne
  simp only [MN,ee,hlen] at h1
  omega
 have hopi:∀(j:Nat) (io:aM),s[j]? = some io→∃o,ops[i+j]? = some o∧lK P n ops o=some io:=fun j io hj=>by
  have h1:L[i+j]? = some io:=by
   rw [← List.getElem?_drop,hs,List.getElem?_append_left (dW.1 hj).1]
   exact hj
  obtain ⟨o,h2,h3⟩:=hget' (i+j) io h1
  exact ⟨o,by rw [← Array.getElem?_toList];exact h2,h3⟩
 have hcut':∀j,i+s.length≤j→j<ops.size→∀d,d<i+s.length→d∈bs.getD j []:=fun j h1 h2=>hcut (fun e=>by subst e;simp at hsize;omega) j h1 h2
 have one:∀o:aM,s=[o]→ic0 = .reg [o] dr→wpAny P .any ops Q (s.length+r.length) listed a w:=by
  rintro o rfl rfl
  obtain rfl:ic = .reg [o] dr:=by
   rcases hic with (h | ⟨_,_,_,h,_⟩) | ⟨_,_,_,h,_⟩
   ·exact h
   ·cases h
   ·cases h
  obtain ⟨oo,h1,h2⟩:=hopi 0 o rfl
  rw [Nat.add_zero] at h1
  have his:=(f9.1 h1).1
  rw [vK,Nat.add_comm 1]
  have hrd:∀k∈Region.ready .any ops listed,k=i:=fun k hk=>by
   obtain ⟨k1,k2,ok,k3,k4⟩:=fk.1 hk
   have k5:=(hl k k1).1 k2
   rcases jn i k with h5 | h5
   ·exfalso
    have h6:=hcut' k (by simp;omega) k1 i (by simp)
    have h7:=hO.listed (jh hO hsz hl) k ok k3 k4 i h6
    have:=(iZ hsz hl i his).1 h7
    omega
   ·omega
  refine ⟨fun hr=>?_,fun k hk=>?_⟩
  ·exfalso
   have:i∈Region.ready .any ops listed:=fk.2 ⟨his,(hl i his).2 (aO _),oo,h1,fun d hd=>by
    have hdl:=hO.lt i oo h1 d hd
    exact (iZ hsz hl d (by omega)).2 hdl⟩
   rw [hr] at this
   cases this
  ·obtain rfl:=hrd k hk
   unfold wpOp
   rw [h1]
   simp only [ir] at hi ⊢
   refine mz hn Q h2 hi hst fun s' a' w' h3 h4=>?_
   refine hnext _ a' w' _ h3 (bW.dels _ h4) (by simpa using hsz) (fun j hj=>?_)
   have hset:(listed.setIfInBounds k true).getD j true=if k=j then true else listed.getD j true:=by
    simp only [jm,y_]
    split
    ·rename_i e;subst e;simp [hsz,hj]
    ·rfl
   rw [hset,vK]
   split
   ·rename_i e;subst e;simp
   ·rename_i e
    rw [hl j hj]
    omega
 have many:sz (kS bs i s.length) s dr=some ic0→wpAny P .any ops Q (s.length+r.length) listed a w:=by
  intro hc
  unfold sz at hc
  split at hc
  case isFalse=>cases hc
  rename_i hcond
  simp only [dV] at hcond
  obtain ⟨⟨⟨c2,c3⟩,c4⟩,c5⟩:=hcond
  cases hc
  have hrel:∀k,k<s.length→∀d,d∈(kS bs i s.length).getD k []↔i+d∈bs.getD (i+k) []:=fun k hk d=>by
   have e:(kS bs i s.length).getD k []=(bs.getD (i+k) []).filterMap fun d=>if i≤d then some (d - i) else none:=by
    simp only [kS,List.getD_eq_getElem?_getD,db,List.getElem?_range hk,eH,Option.getD_some]
   rw [e,List.mem_filterMap]
   constructor
   ·rintro ⟨q,hq,hqd⟩
    split at hqd
    ·cases hqd
     rwa [show i+(q - i)=q by omega]
    ·cases hqd
   ·intro hd
    exact ⟨i+d,hd,by rw [av (by omega)];congr 1;omega⟩
  rcases hic with hic | ⟨_,_,_,hcc,rfl⟩
  rotate_left
  ·cases hcc
   simp only [ir] at hi
   have key:∀(fuel:Nat) (R:List (Nat×ax)) (listed:Array Bool) (st:St) (a:Act) (w:World),R.length=fuel→bW c st a w→listed.size=ops.size →
     (∀j,j<ops.size→(listed.getD j true=false↔(∃t∈R,i+t.1=j)∨i+s.length≤j)) →
     (∀j o,listed.getD j false=true→ops[j]? = some o→∀d∈gE o,listed.getD d false=true) →
     (∀t∈R,t.1<s.length∧s[t.1]? = some t.2.o∧t.2.bef=(kS bs i s.length).getD t.1 [])→R.Pairwise (fun a b=>a.1≠b.1) →
     j8 P fuel R st (fun s'=>KK .nrm ⟨dels dr s'.env,s'.heap⟩)→wpAny P .any ops Q (fuel+r.length) listed a w:=by
    intro fuel
    induction fuel with
    | zero =>
     intro R listed st a w hlen hst hsz hli hdc hit hpw hf
     have hR:R=[]:=List.length_eq_zero_iff.1 hlen
     subst hR
     rw [Nat.zero_add]
     refine hnext _ a w listed hf (bW.dels _ hst) hsz (fun j hj=>?_)
     rw [hli j hj]
     exact ⟨fun hh=>by rcases hh with ⟨t,ht,_⟩ | hh;cases ht;exact hh,.inr⟩
    | succ fuel ih =>
     intro R listed st a w hlen hst hsz hli hdc hit hpw hf
     have hgetD:∀j,j<ops.size→listed.getD j true=listed.getD j false:=fun j hj=>by
      have:j<listed.size:=by omega
      simp [jm,m3 this]
     have hopR:∀t∈R,∃o,ops[i+t.1]? = some o∧lK P n ops o=some t.2.o:=fun t ht=>hopi t.1 t.2.o (hit t ht).2.1
     have hun:∀t∈R,listed.getD (i+t.1) false=false:=fun t ht=>by
      obtain ⟨o,ho,_⟩:=hopR t ht
      have hl:=(f9.1 ho).1
      rw [← hgetD _ hl]
      exact (hli _ hl).2 (.inl ⟨t,ht,rfl⟩)
     rw [Nat.add_right_comm]
     refine ⟨fun hr=>?_,fun k hk=>?_⟩
     ·exfalso
      have hex:∃m,∃t∈R,t.1=m:=by
       cases R with
       | nil=>simp at hlen
       | cons t R=>exact ⟨t.1,t,by simp,rfl⟩
      obtain ⟨m,⟨t,ht,rfl⟩,hmin⟩:=Ae hex
      obtain ⟨o,ho,_⟩:=hopR t ht
      have hlt:=(f9.1 ho).1
      have:i+t.1∈Region.ready .any ops listed:=fk.2 ⟨hlt,(hli _ hlt).2 (.inl ⟨t,ht,rfl⟩),o,ho,fun d hd=>by
       have hdl:=hO.lt (i+t.1) o ho d hd
       have hds:d<ops.size:=by omega
       cases hv:listed.getD d false with
       | true=>rfl
       | false =>
        rw [← hgetD d hds] at hv
        rcases (hli d hds).1 hv with ⟨q,hq,hqi⟩ | hz
        ·exact absurd ⟨q,hq,rfl⟩ (hmin q.1 (by omega))
        ·have:=(hit t ht).1;omega⟩
      rw [hr] at this
      cases this
     ·obtain ⟨k1,k2,o,k3,k4⟩:=fk.1 hk
      have hbefs:∀d∈bs.getD k [],listed.getD d false=true:=hO.listed hdc k o k3 k4
      have hkR:∃t∈R,i+t.1=k:=by
       rcases (hli k k1).1 k2 with hh | hz
       ·exact hh
       ·exfalso
        cases R with
        | nil=>simp at hlen
        | cons t R =>
         have h1:=(hit t (by simp)).1
         have h2:=hbefs _ (hcut' k hz k1 (i+t.1) (by omega))
         rw [hun t (by simp)] at h2
         cases h2
      obtain ⟨t,ht,rfl⟩:=hkR
      obtain ⟨oo,ho,hco⟩:=hopR t ht
      rw [k3] at ho
      cases ho
      have htr:t∈rdy R:=by
       unfold rdy
       rw [List.mem_filter]
       refine ⟨ht,eA.2 fun q hq=>?_⟩
       cases hb:t.2.bef.contains q.1 with
       | false=>rfl
       | true =>
        exfalso
        have h1:q.1∈t.2.bef:=by simpa using hb
        rw [(hit t ht).2.2,hrel t.1 (hit t ht).1] at h1
        have h2:=hbefs _ h1
        rw [hun q hq] at h2
        cases h2
      have hft:=wS hf htr
      unfold wpOp
      rw [k3]
      simp only
      refine mz hn Q hco hft hst fun s' a' w' h3 h4=>?_
      have hfl:=Bw hpw ht
      refine ih (R.filter fun q=>q.1 != t.1) (listed.setIfInBounds (i+t.1) true) s' a' w' (by omega) h4 (by simpa using hsz) (fun j hj=>?_) (fun j oj hj hoj d hd=>?_) (fun q hq=>hit q (List.mem_filter.1 hq).1) (hpw.sublist List.filter_sublist) h3
      ·have hset:(listed.setIfInBounds (i+t.1) true).getD j true=if i+t.1=j then true else listed.getD j true:=by
        simp only [jm,y_]
        split
        ·rename_i e;subst e;simp [hsz,k1]
        ·rfl
       rw [hset]
       constructor
       ·intro hv
        split at hv
        ·cases hv
        ·rename_i hne
         rcases (hli j hj).1 hv with ⟨q,hq,hqi⟩ | hz
         ·exact .inl ⟨q,List.mem_filter.2 ⟨hq,by simp;omega⟩,hqi⟩
         ·exact .inr hz
       ·rintro (⟨q,hq,hqi⟩ | hz)
        ·obtain ⟨hq1,hq2⟩:=List.mem_filter.1 hq
         have hq3:q.1≠t.1:=by simpa using hq2
         rw [ar (by omega)]
         exact (hli j hj).2 (.inl ⟨q,hq1,hqi⟩)
        ·have h1:=(hit t ht).1
         rw [ar (by omega)]
         exact (hli j hj).2 (.inr hz)
      ·have hset:∀k,(listed.setIfInBounds (i+t.1) true).getD k false=if i+t.1=k then true else listed.getD k false:=fun k=>by
        simp only [jm,y_]
        split
        ·rename_i e;subst e;simp [hsz,k1]
        ·rfl
       rw [hset] at hj ⊢
       split
       ·rfl
       ·split at hj
        ·rename_i e
         subst e
         rw [k3] at hoj
         cases hoj
         exact k4 d hd
        ·exact hdc j oj hj hoj d hd
   have hzl:((s.zipIdx.map fun p=>(⟨p.1,(kS bs i s.length).getD p.2 []⟩:ax)).zipIdx.map fun p=>(p.2,p.1)).length=s.length:=by simp
   have hzm:∀t,t∈((s.zipIdx.map fun p=>(⟨p.1,(kS bs i s.length).getD p.2 []⟩:ax)).zipIdx.map fun p=>(p.2,p.1))↔t.1<s.length∧s[t.1]? = some t.2.o∧t.2.bef=(kS bs i s.length).getD t.1 []:=fun t=>by
    obtain ⟨t1,⟨t2,t3⟩⟩:=t
    rw [List.mem_map]
    constructor
    ·rintro ⟨p,hp,he⟩
     obtain ⟨p1,p2⟩:=p
     cases he
     rw [List.mem_zipIdx_iff_getElem?] at hp
     simp only [db,List.getElem?_zipIdx,Option.map_map,cJ,Function.comp] at hp
     obtain ⟨io,h1,h2⟩:=hp
     cases h2
     exact ⟨(dW.1 h1).1,h1,by simp⟩
    ·rintro ⟨h1,h2,h3⟩
     refine ⟨(⟨t2,t3⟩,t1),?_,rfl⟩
     rw [List.mem_zipIdx_iff_getElem?]
     simp only at h1 h2 h3 ⊢
     simp [h2,h3]
   rw [bT,List.length_zipIdx] at hi
   refine key s.length _ listed st a w hzl hst hsz (fun j hj=>?_) (jh hO hsz hl) (fun t ht=>(hzm t).1 ht) ?_ hi
   ·rw [hl j hj]
    constructor
    ·intro hij
     rcases jn j (i+s.length) with h1 | h1
     ·exact .inl ⟨(j - i,⟨s[j - i]'(by omega),(kS bs i s.length).getD (j - i) []⟩),(hzm _).2 ⟨by simp only;omega,gn _,rfl⟩,by simp only;omega⟩
     ·exact .inr h1
    ·rintro (⟨t,ht,h1⟩ | h1)
     ·omega
     ·omega
   ·refine List.pairwise_map.2 ?_
    exact (List.nodup_iff_pairwise_ne.1 (by
     have:((s.zipIdx.map fun p=>(⟨p.1,(kS bs i s.length).getD p.2 []⟩:ax)).zipIdx.map Prod.snd).Nodup:=by
      rw [List.zipIdx_map_snd]
      exact List.nodup_range'
     exact this):List.Pairwise _ _) |> List.pairwise_map.1
  have hone:sR (cm 0 s):=If (qo c4)
  have hal:∀d m,(d,m)∈cm 0 s→d<1000:=fun d m hd=>by simpa using eA.1 c3 (d,m) hd
  have hlz:∀(j:Nat) (o:ax),(s.zipIdx.map fun p=>(⟨p.1,(kS bs i s.length).getD p.2 []⟩:ax))[j]? = some o→s[j]? = some o.o∧o.bef=(kS bs i s.length).getD j []:=fun j o hj=>by
   simp only [db,List.getElem?_zipIdx,Option.map_map,cJ,Function.comp] at hj
   obtain ⟨io,h1,rfl⟩:=hj
   exact ⟨h1,by simp⟩
  have hun:Un (cm 0 s) (fun m=>0≤m) (get (kills ((cm 0 s).map (·.1)) st).env) (ae (kills ((cm 0 s).map (·.1)) st).heap):=(fun d m hdm _=>jg _ st d (.inr (List.mem_map.2 ⟨(d,m),hdm,rfl⟩)))
  have hpl:∀(j:Nat) (o:ax),(s.zipIdx.map fun p=>(⟨p.1,(kS bs i s.length).getD p.2 []⟩:ax))[j]? = some o→(dp o.o.op=true→(o.o.dst.getD 0,0+j)∈cm 0 s)∧(∀m∈o.bef,m<0+j)∧bz o.o.op=true:=(fun j o hj=>by
   obtain ⟨h1,h2⟩:=hlz j o hj
   obtain ⟨oo,h3,h4⟩:=hopi j o.o h1
   have hjl:=(dW.1 h1).1
   refine ⟨fun ha=>(kB s 0 _ _).2 ⟨j,o.o,h1,ha,rfl,by omega⟩,fun m hm=>?_,eA.1 c5 o.o (gM h1)⟩
   rw [h2,hrel j hjl] at hm
   have:=hO.bef_lt (i+j) oo h3 _ hm
   omega)
  have trace:∃(items:List Item) (s':St),KK .nrm ⟨dels dr s'.env,s'.heap⟩∧T P items (get (kills ((cm 0 s).map (·.1)) st).env) (ae (kills ((cm 0 s).map (·.1)) st).heap) (get s'.env) (ae s'.heap)∧vP (cm 0 s) [] items∧items.map Item.i=List.range' 0 (s.zipIdx.map fun p=>(⟨p.1,(kS bs i s.length).getD p.2 []⟩:ax)).length∧items.map (fun t=>(⟨t.o,t.bef⟩:ax))=s.zipIdx.map fun p=>(⟨p.1,(kS bs i s.length).getD p.2 []⟩:ax):=by
   rcases hic with rfl | ⟨_,_,_,hcc,rfl⟩
   ·simp only [ir] at hi
    exact z7 hone _ 0 [] _ _ hi hun (fun y hy=>by cases hy) hpl
   ·cases hcc
    simp only [ir] at hi
    exact yb hone _ _ _ hi hun hpl
  obtain ⟨items,s',hK,hT,hH,hidx,hmap⟩:=trace
  obtain ⟨bl,hk⟩:=bW.kills ((cm 0 s).map (·.1)) hst
  have hilen:items.length=s.length:=by
   have:=congrArg List.length hmap
   simp at this
   omega
  have hitem:∀(j:Nat) (t:Item),items[j]? = some t→t.i=j∧s[j]? = some t.o∧t.bef=(kS bs i s.length).getD j []:=fun j t hj=>by
   have h1:(items.map Item.i)[j]? = some t.i:=by simp [hj]
   rw [hidx] at h1
   have h2:(items.map fun t=>(⟨t.o,t.bef⟩:ax))[j]? = some ⟨t.o,t.bef⟩:=by simp [hj]
   rw [hmap] at h2
   obtain ⟨h3,h4⟩:=hlz j _ h2
   refine ⟨?_,h3,h4⟩
   rw [List.getElem?_range' (by
    have:=(dW.1 h1).1
    simpa using this)] at h1
   simp at h1
   omega
  have hmem:∀t∈items,t.i<s.length∧items[t.i]? = some t:=fun t ht=>by
   obtain ⟨j,hj⟩:=List.getElem?_of_mem ht
   have:=(hitem j t hj).1
   subst this
   exact ⟨by rw [← hilen];exact (dW.1 hj).1,hj⟩
  obtain ⟨hp1,hp2⟩:=tO hH
  refine Eq (Q:=Q) hn hone hal hO i r.length (fun j=>i+s.length≤j∧j<ops.size) (fun listed' a' w' bl' h1 h2 h3=>hnext _ a' w' listed' hK (bW.dels _ ⟨bl',h3⟩) h1 (fun j hj=>by rw [h2 j hj];exact ⟨fun h=>h.1,fun h=>⟨h,hj⟩⟩)) s.length items listed _ _ a w bl hilen hsz hk hT ?_ (fun j hj=>?_) (fun j hz t ht=>?_) (jh hO hsz hl) (fun t ht=>?_) ?_
  ·intro d m hdm _
   exact jg _ st d (.inr (List.mem_map.2 ⟨(d,m),hdm,rfl⟩))
  ·rw [hl j hj]
   constructor
   ·intro hij
    rcases jn j (i+s.length) with h1 | h1
    ·have hj':j - i<items.length:=by omega
     exact .inl ⟨items[j - i],List.getElem_mem hj',by rw [(hitem (j - i) _ (gn hj')).1];omega⟩
    ·exact .inr ⟨h1,hj⟩
   ·rintro (⟨t,ht,h1⟩ | h1)<;>omega
  ·exact hcut' j hz.1 hz.2 _ (by have:=(hmem t ht).1;omega)
  ·obtain ⟨h1,h2⟩:=hmem t ht
   obtain ⟨_,h3,h4⟩:=hitem t.i t h2
   obtain ⟨oo,h5,h6⟩:=hopi t.i t.o h3
   exact ⟨oo,h5,h6,fun d hd=>by rw [h4,hrel t.i h1] at hd;exact hd,eA.1 c5 t.o (gM h3),fun ha=>(kB s 0 _ _).2 ⟨t.i,t.o,h3,ha,rfl,by omega⟩,(hp1 t ht).2.2⟩
  ·refine List.pairwise_iff_getElem.2 fun i' j hi' hj hij=>?_
   have e1:=hitem i' _ (gn hi')
   have e2:=hitem j _ (gn hj)
   refine ⟨by rw [e1.1,e2.1];exact hij,?_⟩
   rcases List.pairwise_iff_getElem.1 hp2 i' j hi' hj hij with h1 | h1
   ·exact .inl h1
   ·by_cases hb:items[i'].i∈items[j].bef
    ·exact .inl hb
    ·refine .inr ⟨?_,h1⟩
     have hap:=eA.1 (eA.1 c2 j (List.mem_range.2 (by omega))) i' (List.mem_range.2 hij)
     simp only [e1.2.1,e2.2.1,wx,List.contains_eq_mem,qc,dV] at hap
     rw [e1.1,e2.2.2] at hb
     rcases hap with hap | ⟨hap1,hap2⟩
     ·exact absurd hap hb
     ·refine ⟨fun d hd=>?_,fun d hd=>?_⟩
      ·rw [hd] at hap1
       simp only [dV,vL,decide_eq_false_iff_not,bne_iff_ne] at hap1
       exact ⟨hap1.1,hap1.2⟩
      ·rw [hd] at hap2
       simpa using hap2
 unfold ED at hc
 split at hc
 ·exact one _ rfl (by cases hc;rfl)
 ·exact many hc
end
theorem wZ {ic x y:be} (h:cP ic = .seq x y):∃x' y',cP x'=x∧cP y'=y∧(ic = .seq x' y'∨ic = .cut x' y'):=by
 cases ic<;>simp only [cP] at h<;>first | (cases h;done) | skip
 ·rename_i x' y';cases h;exact ⟨x',y',rfl,rfl,.inl rfl⟩
 ·rename_i x' y';cases h;exact ⟨x',y',rfl,rfl,.inr rfl⟩
theorem Bs {ic x y:be} {v:IV} (h:cP ic = .cond v x y):∃x' y',cP x'=x∧cP y'=y∧ic = .cond v x' y':=by
 cases ic<;>simp only [cP] at h<;>first | (cases h;done) | skip
 rename_i x' y';cases h;exact ⟨x',y',rfl,rfl,rfl⟩
theorem zN {ic x:be} {id:Nat} (h:cP ic = .block id x):∃x',cP x'=x∧ic = .block id x':=by
 cases ic<;>simp only [cP] at h<;>first | (cases h;done) | skip
 rename_i x';cases h;exact ⟨x',rfl,rfl⟩
theorem Bt {ic x:be} (h:cP ic = .loop x):∃x',cP x'=x∧ic = .loop x':=by
 cases ic<;>simp only [cP] at h<;>first | (cases h;done) | skip
 rename_i x';cases h;exact ⟨x',rfl,rfl⟩
section
variable {ops:Array Oper} {bs:List (List Nat)} {L:List aM} {Q:Exit→Act→World→Prop}
theorem s_ {i:Nat} {s:List aM} {dr:List Nat} {ic:be} (hc:ED bs i s dr=some ic):(∃ops dr,ic = .reg ops dr)∨∃ops al dr,ic = .draw ops al dr:=by
 unfold ED at hc
 split at hc
 ·cases hc;exact .inl ⟨_,_,rfl⟩
 ·unfold sz at hc
  split at hc
  ·cases hc;exact .inr ⟨_,_,_,rfl⟩
  ·cases hc
theorem B_ (hn:c.n=n) (hO:gW ops bs) (hL:s9 P n ops ops.toList=some L) {dr:List Nat} {K:IX→St→Prop} :
  ∀(t:List (Nat×List aM)) (i:Nat) (l:List aM) (ic0 ic:be) (st:St) (a:Act) (w:World) (listed:Array Bool),Bc bs ops.size i l t→L.drop i=l→wL bs dr t=some ic0→cP ic=ic0→ir P ic st K→bW c st a w →
   listed.size=ops.size→(∀j,j<ops.size→(listed.getD j true=false↔i≤j))→wpAny P .any ops (LQ c K) l.length listed a w:=by
 intro t
 induction t with
 | nil =>
  intro i l ic0 ic st a w listed hok hd hc he hi hst hsz hl
  obtain rfl:l=[]:=hok
  simp only [wL,bV] at hc
  subst hc
  rw [fe he (.inl ⟨_,_,rfl⟩)] at hi
  simp only [ir,ff] at hi
  obtain ⟨hlen,_⟩:=kF hL
  simp only [jo] at hlen
  have hsize:ops.size≤i:=by
   have:=congrArg List.length hd
   simp only [MN,hlen,fZ] at this
   omega
  refine ⟨List.eq_nil_iff_forall_not_mem.2 fun j hj=>?_,⟨_,hi,bW.dels _ hst⟩⟩
  obtain ⟨h1,h2,_⟩:=fk.1 hj
  have:=(hl j h1).1 h2
  omega
 | cons p t ih =>
  intro i l ic0 ic st a w listed hok hd hc he hi hst hsz hl
  obtain ⟨k,s⟩:=p
  obtain ⟨rfl,hne,r,rfl,hok',hcut⟩:=hok
  rw [ee]
  cases t with
  | nil =>
   obtain rfl:r=[]:=hok'
   simp only [wL] at hc
   have he':=wY he (s_ hc)
   refine pf (Q:=LQ c K) hn hO hL hd hne hc he' hi hst hsz hl (fun h=>absurd rfl h) (fun st' a' w' listed' h1 h2 h3 h4=>?_)
   obtain ⟨hlen,_⟩:=kF hL
   simp only [jo] at hlen
   have hsize:ops.size≤k+s.length:=by
    have:=congrArg List.length hd
    simp only [MN,hlen,ee,fZ] at this
    omega
   refine ⟨List.eq_nil_iff_forall_not_mem.2 fun j hj=>?_,⟨_,h1,h2⟩⟩
   obtain ⟨g1,g2,_⟩:=fk.1 hj
   have:=(h4 j g1).1 g2
   omega
  | cons q t =>
   simp only [wL] at hc
   split at hc
   case h_2=>cases hc
   rename_i x y hx hy
   cases hc
   obtain ⟨x',y',e1,e2,e3⟩:=wZ he
   have e4:=wY e1 (s_ hx)
   have hd':L.drop (k+s.length)=r:=by rw [← List.drop_drop,hd,List.drop_left]
   rcases e3 with rfl | rfl
   ·refine pf (Q:=LQ c K) hn hO hL hd hne hx e4 hi hst hsz hl (fun _=>hcut (by simp)) (fun st' a' w' listed' h1 h2 h3 h4=>?_)
    exact ih (k+s.length) r y y' st' a' w' listed' hok' hd' hy e2 h1 h2 h3 h4
   ·refine pf (Q:=LQ c K) hn hO hL hd hne hx e4 hi hst hsz hl (fun _=>hcut (by simp)) (fun st' a' w' listed' h1 h2 h3 h4=>?_)
    obtain ⟨s'',hwk,hk⟩:=h1
    exact ih (k+s.length) r y y' s'' a' w' listed' hok' hd' hy e2 hk (hwk _ _ _ h2) h3 h4
end
theorem Bp {ops:Array Oper} {dr:List Nat→List Nat} {ic0 ic:be} {id:Nat} {s:St} {K:IX→St→Prop} {a:Act} {w:World} (hm:P.follows .mixedOrders=true) (hc:Iu P n ops dr=some ic0) (he:cP ic=ic0) (hn:c.n=n) (hi:ir P ic s K) (hs:bW c s a w) :
  (Code.region id ops true).wp P (LQ c K) a w:=by
 unfold Iu at hc
 split at hc
 ·cases hc
 rename_i l hl
 split at hc
 case isFalse=>cases hc
 rename_i c1
 obtain ⟨hlen,_⟩:=kF hl
 simp only [jo] at hlen
 refine wp_region_any hm ?_
 obtain ⟨bl,hs⟩:=hs
 have h1:=B_ (K:=K) hn (B0 c1) hl (AR (Ii ops.toList []) 0 l).1 0 l ic0 ic s a { w with drawn:=w.drawn+1 } (Array.replicate ops.size false) (DN _ ops.size l 0 (by omega)).1 rfl hc he hi ⟨bl,hs.world rfl rfl rfl⟩ (by simp) (fun j hj=>by simp [jm,hj])
 rw [hlen] at h1
 exact h1
theorem mi (hm:P.follows .mixedOrders=true) (hn:c.n=n) {sh:List (List Nat)}:∀(x:Code) (ic0:be),comp P n sh x=some ic0→∀(ic:be),cP ic=ic0→∀(s:St) (K:IX→St→Prop) (a:Act) (w:World),ir P ic s K→bW c s a w→x.wp P (LQ c K) a w:=by
 intro x
 induction x with
 | skip=>intro ic0 hc ic he s K a w hi hs;simp only [comp,bV] at hc;subst hc;rw [fe he (by simp)] at hi;exact wp_skip ⟨s,hi,hs⟩
 | ret=>intro ic0 hc ic he s K a w hi hs;simp only [comp,bV] at hc;subst hc;rw [fe he (by simp)] at hi;exact wp_ret ⟨s,hi,hs⟩
 | exit id=>intro ic0 hc ic he s K a w hi hs;simp only [comp,bV] at hc;subst hc;rw [fe he (by simp)] at hi;exact wp_exit ⟨s,hi,hs⟩
 | label l=>intro ic0 hc ic he s K a w hi hs;simp only [comp,bV] at hc;subst hc;rw [fe he (by simp)] at hi;exact wp_label ⟨s,hi,hs⟩
 | seq x y ihx ihy =>
  intro ic0 hc ic he s K a w hi hs
  simp only [comp] at hc
  split at hc
  case h_2=>cases hc
  rename_i ix iy h1 h2
  cases hc
  obtain ⟨x',y',e1,e2,e3⟩:=wZ he
  rcases e3 with rfl | rfl
  ·refine wp_seq (Code.wp_mono (fun e a' w' hq=>?_) (ihx ix h1 x' e1 s _ a w hi hs))
   cases e with
   | normal=>obtain ⟨s',hk,hs'⟩:=hq;exact ihy iy h2 y' e2 s' K a' w' hk hs'
   | _=>exact hq
  ·refine wp_seq (Code.wp_mono (fun e a' w' hq=>?_) (ihx ix h1 x' e1 s _ a w hi hs))
   cases e with
   | normal=>obtain ⟨s',⟨s'',hwk,hk⟩,hs'⟩:=hq;exact ihy iy h2 y' e2 s'' K a' w' hk (hwk _ _ _ hs')
   | _=>exact hq
 | cond v x y ihx ihy =>
  intro ic0 hc ic he s K a w hi hs
  simp only [comp] at hc
  split at hc
  case h_2=>cases hc
  rename_i iv ix iy h0 h1 h2
  cases hc
  obtain ⟨x',y',e1,e2,rfl⟩:=Bs he
  simp only [ir] at hi
  split at hi
  case h_2=>exact hi.elim
  rename_i b hv
  obtain ⟨bl,hsb⟩:=hs
  have hvr:=aL hsb h0
  rw [hv] at hvr
  have href:∀q,b=q→bW c (refine iv q s) a w:=fun q hq=>by
   cases iv with
   | c y=>exact ⟨bl,hsb⟩
   | s k=>exact ⟨bl,hsb.congr (fun j=>by rw [show refine (.s k) q s=s.put (some k) (.bool q) from rfl,mw hv hq]) (fun j=>rfl)⟩
  refine wp_cond hvr.bool ?_
  cases b with
  | true=>exact ihx ix h1 x' e1 _ K a w (hi.1 rfl) (href true rfl)
  | false=>exact ihy iy h2 y' e2 _ K a w (hi.2 rfl) (href false rfl)
 | block id x ih =>
  intro ic0 hc ic he s K a w hi hs
  simp only [comp,cJ] at hc
  obtain ⟨ix,h1,rfl⟩:=hc
  obtain ⟨x',e1,rfl⟩:=zN he
  refine wp_block (Code.wp_mono (fun e a' w' hq=>?_) (ih ix h1 x' e1 s _ a w hi hs))
  cases e with
  | exit j =>
   obtain ⟨s',hk,hs'⟩:=hq
   simp only at hk
   simp only [Exit.inBlock]
   split
   ·rename_i hj;rw [av hj] at hk;exact ⟨s',hk,hs'⟩
   ·rename_i hj;rw [ar hj] at hk;exact ⟨s',hk,hs'⟩
  | _=>exact hq
 | loop x ih =>
  intro ic0 hc ic he s K a w hi hs
  simp only [comp,cJ] at hc
  obtain ⟨ix,h1,rfl⟩:=hc
  obtain ⟨x',e1,rfl⟩:=Bt he
  obtain ⟨I,⟨m,s0,h0,hwk⟩,hstep⟩:=hi
  refine Gi (fun m a w=>∃s,I m s∧bW c s a w) ⟨m,s0,h0,hwk _ _ _ hs⟩ (fun m a w ⟨s,hI,hs⟩=>?_)
  refine Code.wp_mono (fun e a' w' hq=>?_) (ih ix h1 x' e1 s _ a w (hstep m s hI) hs)
  cases e with
  | normal =>
   obtain ⟨s',⟨m',s'',h2,h3,h4⟩,hs'⟩:=hq
   exact ⟨m',h2,s'',h3,h4 _ _ _ hs'⟩
  | _=>exact hq
 | scope x ih =>
  intro ic0 hc ic he s K a w hi hs
  simp only [comp] at hc
  refine wp_scope_straight (Code.wp_mono (fun e a' w' hq=>?_) (ih ic0 hc ic he s K a w hi hs))
  cases e<;>exact hq
 | region id ops d =>
  intro ic0 hc ic he s K a w hi hs
  cases d with
  | true =>
   simp only [comp] at hc
   exact Bp hm hc he hn hi hs
  | false =>
   simp only [comp] at hc
   split at hc
   case h_2=>cases hc
   rename_i l hl
   cases hc
   rw [fe he (.inl ⟨_,_,rfl⟩)] at hi
   simp only [ir] at hi
   exact wp_region_list (tU hn _ ops.toList l hl s _ a w hi hs (fun s' a' w' hk hs'=>⟨_,hk,bW.dels _ hs'⟩))
 | rangeFunc f ps as b=>intro ic0 hc;simp [comp] at hc
 | goto l=>intro ic0 hc;simp [comp] at hc
 | refuse y=>intro ic0 hc;simp [comp] at hc
end
def Ay:AV→Bool
 | .any=>false
 | .tup _=>false
 | _=>true
def Di (s:St):jL→Option AV
 | .tmp k=>if Ay (get s.env k) then some (get s.env k) else none
 | .cell k n=>match gT n (get s.env k) (ae s.heap) with
  | some x=>if Ay x then some x else none
  | none=>none
def Aa (s:St):List jL→Option (List AV)
 | []=>some []
 | x :: r=>match Di s x,Aa s r with
  | some y,some l=>some (y :: l)
  | _,_=>none
def mA (l:List jL) (s:St):Option AV :=
 match Aa s l with
 | some [x]=>some x
 | some l=>some (.tup l)
 | none=>none
def eF:Nat→List AV→List (Nat×AV)
 | _,[]=>[]
 | i,x :: r=>(i,x) :: eF (i+1) r
theorem tJ:∀(l:List AV) (i k:Nat),get (eF i l) k=if i≤k then (l[k - i]?).getD .any else .any
 | [],i,k=>by simp [eF,get]
 | x :: r,i,k=>by
  simp only [eF,get]
  by_cases h:i=k
  ·subst h;simp
  ·rw [ar h,tJ r (i+1) k]
   by_cases h2:i+1≤k
   ·rw [av h2,av (by omega),show k - i=(k - (i+1))+1 by omega,List.getElem?_cons_succ]
   ·rw [ar h2]
    by_cases h3:i≤k
    ·omega
    ·rw [ar h3]
theorem qi (E:List (Nat×AV)):∀(l:List AV) (i k:Nat),get (eF i l++E) k=if i≤k then (match l[k - i]? with | some x=>x | none=>get E k) else get E k
 | [],i,k=>by simp [eF]
 | x :: r,i,k=>by
  simp only [eF,lc,get]
  by_cases h:i=k
  ·subst h;simp
  ·rw [ar h,qi E r (i+1) k]
   by_cases h2:i+1≤k
   ·rw [av h2,av (by omega),show k - i=(k - (i+1))+1 by omega,List.getElem?_cons_succ]
   ·rw [ar h2]
    by_cases h3:i≤k
    ·omega
    ·rw [ar h3]
theorem Db:∀{l:List (Nat×AV)} {k:Nat},get l k = .any∨(k,get l k)∈l
 | [],k=>.inl rfl
 | (j,x) :: r,k=>by
  simp only [get]
  split
  ·rename_i h;subst h;exact .inr (by simp)
  ·rcases Db (l:=r) (k:=k) with h | h
   ·exact .inl h
   ·exact .inr (by simp [h])
section
variable {P:Program} [aV P] {c:jY} [CT c P] {bl:Nat→Option Nat} {a:Act} {w:World} {s:St}
theorem PF {M:Nat→Prop} {v:Value} {x:AV} (hx:Ay x=true) (hv:aR bl M w v x):dn bl M w v x:=by
 cases x<;>first | (simp [Ay] at hx;done) | exact hv
def rv1 (tmps:Array Value):ResultVar→Sem Value
 | .tmp t=>Pure.pure (tmps.getD t undef)
 | .cell q t=>do loadVar t (← asAddr (tmps.getD q undef))
theorem B5 (fn:Func) (tmps:Array Value):results fn tmps=(do let vs ← fn.results.mapM (rv1 tmps);Pure.pure (if h:vs.size=1 then vs[0] else .tuple vs)):=by
 unfold results
 congr 1
theorem tV (hs:aC c bl (get s.env) (ae s.heap) a w):∀(rv:List ResultVar) (l:List jL),zJ P rv=some l→∀(xs:List AV),Aa s l=some xs →
  ∃vs:List Value,(rv.mapM (rv1 a.tmps)).run P w = .ok vs w∧aH (dn bl (aZ bl c.MF (ae s.heap)) w) vs xs
 | [],l,hc,xs,hx=>by
  simp only [zJ,bV] at hc
  subst hc
  simp only [Aa,bV] at hx
  subst hx
  exact ⟨[],by simp,trivial⟩
 | .tmp t :: r,l,hc,xs,hx=>by
  simp only [zJ] at hc
  split at hc
  case isFalse=>cases hc
  rename_i hlo
  simp only [cJ] at hc
  obtain ⟨l',h1,rfl⟩:=hc
  simp only [Aa] at hx
  split at hx
  case h_2=>cases hx
  rename_i y l2 h2 h3
  cases hx
  simp only [Di] at h2
  split at h2
  case isFalse=>cases h2
  rename_i hok
  cases h2
  obtain ⟨vs,h4,h5⟩:=tV hs r l' h1 l2 h3
  refine ⟨a.tmps.getD t undef :: vs,?_,PF hok (by rw [← qs hlo];exact hs.env t),h5⟩
  simp only [List.mapM_cons,rv1,Sem.run_bind,Sem.run_pure,Result.andThen_ok,h4]
 | .cell q t :: r,l,hc,xs,hx=>by
  simp only [zJ] at hc
  split at hc
  case h_2=>cases hc
  rename_i n l' h0 h1
  split at hc
  case isFalse=>cases hc
  rename_i hlo
  cases hc
  simp only [Aa] at hx
  split at hx
  case h_2=>cases hx
  rename_i y l2 h2 h3
  cases hx
  simp only [Di] at h2
  split at h2
  case h_2=>cases h2
  rename_i y' hld
  split at h2
  case isFalse=>cases h2
  rename_i hok
  cases h2
  obtain ⟨vs,h4,h5⟩:=tV hs r l' h1 l2 h3
  have hq:=hs.env q
  rw [qs hlo] at hq
  have fin:∀{b off:Nat} {cells:List AV},a.tmps.getD q undef = .pointer (some ⟨b,off,none⟩)→dm bl (aZ bl c.MF (ae s.heap)) w b off cells→m_ n cells=some y →
    ∃vs:List Value,((ResultVar.cell q t :: r).mapM (rv1 a.tmps)).run P w = .ok vs w∧aH (dn bl (aZ bl c.MF (ae s.heap)) w) vs (y :: l2):=fun hv hcl hl=>by
   obtain ⟨u,h6,h7⟩:=i3 h0 hcl hl
   refine ⟨u :: vs,?_,h7,h5⟩
   simp only [List.mapM_cons,rv1,Sem.run_bind,hv,asAddr,Sem.run_pure,Result.andThen_ok,h6,h4]
  cases hval:get s.env q<;>rw [hval] at hld hq<;>simp only [gT] at hld<;>try cases hld
  case ip cells =>
   obtain ⟨b,off,h6,h7⟩:=dm.of_ip hq
   exact fin h6 h7 hld
  case mp id st row off =>
   split at hld
   case h_2=>cases hld
   rename_i ob hob
   split at hld
   case isFalse=>cases hld
   rename_i hst
   split at hld
   case h_2=>cases hld
   rename_i rr hr
   obtain ⟨b,hb,h6⟩:=hq.mp
   rw [← hst] at h6
   exact fin h6 ((dm.of_obj hs hob hb hr).drop off) hld
theorem J4 {fn:Func} {l:List jL} {r:AV} (hs:aC c bl (get s.env) (ae s.heap) a w) (hc:zJ P fn.results.toList=some l) (hr:mA l s=some r) :
  ∃v,(results fn a.tmps).run P w = .ok v w∧aR bl (aZ bl c.MF (ae s.heap)) w v r:=by
 unfold mA at hr
 cases hx:Aa s l with
 | none=>rw [hx] at hr;cases hr
 | some xs =>
  obtain ⟨vs,h1,h2⟩:=tV hs _ l hc xs hx
  have hrun:∀v,v=(if h:vs.toArray.size=1 then vs.toArray[0] else .tuple vs.toArray)→(results fn a.tmps).run P w = .ok v w:=fun v hv=>by
   subst hv
   rw [B5,Sem.run_bind,Array.mapM_eq_mapM_toList,Sem.run_map,h1]
   rfl
  rw [hx] at hr
  cases xs with
  | nil =>
   cases hr
   cases vs with
   | cons=>exact h2.elim
   | nil=>exact ⟨_,hrun _ rfl,[],by simp,trivial⟩
  | cons x xs =>
   cases xs with
   | nil =>
    cases hr
    cases vs with
    | nil=>exact h2.elim
    | cons v vs =>
     cases vs with
     | cons=>exact h2.2.elim
     | nil=>exact ⟨v,hrun _ (by simp),h2.1.toV⟩
   | cons y ys =>
    cases hr
    have hl:=h2.length
    refine ⟨_,hrun _ rfl,vs,?_,h2⟩
    rw [dif_neg (by simp [hl])]
def xO (l:List jL) (Post:AV→List (Nat×ah)→Prop) (e:IX) (s:St):Prop :=
 (∀j,e≠.ext j)∧∃s1,Wk s s1∧∃fs r σ',mA l (frzs fs s1)=some r∧(∀i o,ae σ' i=some o→ae (frzs fs s1).heap i=some o)∧ku r σ'∧Post r σ'
theorem BC {f:FuncId} {F:az} {ic:be} {args:List AV} {σ:List (Nat×ah)} {Post:AV→List (Nat×ah)→Prop} (E:List (Nat×AV)) (hE:∀p∈E,p∈(aV.T P).env) (hm:P.follows .mixedOrders=true) (hf:aq P f=some F) (hic:cP ic=F.body) (hlen:args.length=F.np)
  (hi:ir P ic ⟨eF 0 args++E,σ⟩ (xO F.res Post)):bu P f args σ (fun id=>1000≤id∧id<2000) Post:=by
 unfold aq at hf
 split at hf
 ·cases hf
 rename_i fn hfn
 split at hf
 ·cases hf
 rename_i body hbody
 split at hf
 case h_2=>cases hf
 rename_i b rs hb hrs
 split at hf
 case isFalse=>cases hf
 rename_i hnp
 cases hf
 intro bl MF w cargs hTH hTW hH hMF hargs
 have hal:cargs.length=fn.params.size+fn.nfree:=by rw [hargs.length];exact hlen
 let c:jY:=⟨w,bl,i9 bl σ,MF,fn.ntmps,aV.T P,hTH,fun b hb ⟨id,o,h1,h2⟩=>hTW b hb (.inr ⟨id,o,h1,h2⟩),fun b hb hm=>hTW b hb (.inl hm),hnp.2⟩
 haveI:CT c P:=⟨rfl⟩
 have hs:aC c bl (get (eF 0 args++E)) (ae σ) ⟨cargs.toArray++Array.replicate (fn.ntmps - cargs.toArray.size) undef,[]⟩ w:=by
  refine ⟨rfl,by simp [c];omega,fun k=>?_,hH,ek.refl _ _,fun id o q h1 h2=>.inr ⟨id,o,h1,h2⟩,fun _ _ _=>rfl,hMF⟩
  rw [qi]
  simp only [ef,dl,Nat.sub_zero]
  cases hk:args[k]? with
  | none =>
   simp only
   rcases Db (l:=E) (k:=k) with hg | hg
   ·rw [hg];trivial
   ·obtain ⟨h1,h2⟩:=(aV.T P).rel w (aZ bl MF (ae σ)) hTH hTW _ (hE _ hg)
    have e:tv ⟨cargs.toArray++Array.replicate (fn.ntmps - cargs.toArray.size) undef,[]⟩ k = .pointer (some ⟨k - 1000000,0,none⟩):=ar (by simp only at h1;omega)
    rw [e]
    exact h2.toC.toG.toV
  | some x =>
   obtain ⟨v,hv,hr⟩:=hargs.get hk
   have hlt:=(dW.1 hv).1
   have:(cargs.toArray++Array.replicate (fn.ntmps - cargs.toArray.size) undef).getD k undef=v:=by
    rw [jm,Array.getElem?_append_left (by simpa using hlt)]
    simp [hv]
   rw [qs (by have:=hnp.2;omega),this]
   exact hr
 refine calls_of_wp hfn hbody ?_
 refine Code.wp_mono (fun e a' w' hq=>?_) (mi (c:=c) hm rfl body b hb ic hic ⟨eF 0 args++E,σ⟩ _ _ w hi ⟨bl,hs⟩)
 have fin:∀{s':St} {ex:IX},xO rs Post ex s'→bW c s' a' w'→a'.defers=[]∧∃v,(results fn a'.tmps).run P w' = .ok v w'∧∃u r σ' bl',Ending.returned v = .returned u∧Post r σ'∧ku r σ'∧A_ bl' (aZ bl' MF (ae σ')) MF w' (ae σ')∧aR bl' (aZ bl' MF (ae σ')) w' u r ∧
   ek (i9 bl σ) w w'∧(∀id o b,ae σ' id=some o→bl' id=some b→w.heap.size≤b∨i9 bl σ b)∧∀id,(1000≤id∧id<2000)→bl' id=bl id:=by
  rintro s0 ex ⟨_,s',hwk,fs,r,σ',h1,h2,h3,h4⟩ hs0
  obtain ⟨bl',hs2⟩:=bW.frzs fs (hwk c a' w' hs0)
  obtain ⟨v,hv1,hv2⟩:=J4 hs2 hrs h1
  have hs3:aC c bl' (get (frzs fs s').env) (ae σ') a' w':=hs2.weaken (fun _=>.inr rfl) h2
  refine ⟨hs2.defers,v,hv1,v,r,σ',bl',rfl,h4,h3,hs3.heap,?_,hs3.step,hs3.own,fun id hid=>hs3.stab id hid.1 hid.2⟩
  refine hv2.tr ⟨fun q hq _=>⟨fun hm2=>hq ?_,rfl⟩,fun _ c1 _ fr hb=>⟨c1,fr,hb,rfl⟩⟩ (fun _ _=>rfl)
  rcases hm2 with hm2 | ⟨id,o,h5,h6⟩
  ·exact .inl hm2
  ·exact .inr ⟨id,o,h2 id o h5,h6⟩
 cases e with
 | normal=>obtain ⟨s',hk,hs'⟩:=hq;exact fin hk hs'
 | ret=>obtain ⟨s',hk,hs'⟩:=hq;exact fin hk hs'
 | exit id=>obtain ⟨s',hk,hs'⟩:=hq;exact absurd rfl (hk.1 id)
 | _=>exact hq.elim
theorem aB {f:FuncId} {F:az} {ic:be} {args:List AV} {σ:List (Nat×ah)} {Post:AV→List (Nat×ah)→Prop} (hm:P.follows .mixedOrders=true) (hf:aq P f=some F) (hic:cP ic=F.body) (hlen:args.length=F.np)
  (hi:ir P ic ⟨eF 0 args,σ⟩ (xO F.res Post)):bu P f args σ (fun id=>1000≤id∧id<2000) Post :=
 BC [] (fun p hp=>by cases hp) hm hf hic hlen (by rw [jJ];exact hi)
theorem bu.mono {f:FuncId} {args:List AV} {σ:List (Nat×ah)} {Sb Sb':Nat→Prop} {Post Post':AV→List (Nat×ah)→Prop} (h:bu P f args σ Sb Post) (hs:∀id,Sb' id→Sb id) (hp:∀r σ',Post r σ'→Post' r σ'):bu P f args σ Sb' Post' :=
 fun bl MF w cargs t1 t2 h1 h2 h3=>(h bl MF w cargs t1 t2 h1 h2 h3).mono fun _ _ ⟨v,r,σ',bl',q1,q2,q3,q4,q5,q6,q7,q8⟩=>⟨v,r,σ',bl',q1,hp _ _ q2,q3,q4,q5,q6,q7,fun id hid=>q8 id (hs id hid)⟩
def zj (l:List jL) (r:AV) (e:IX) (s:St):Prop:=(∀j,e≠.ext j)∧∃s1,Wk s s1∧∃fs,mA l (frzs fs s1)=some r∧aI r=[]
theorem BF {f:FuncId} (hs:decide (P.funcs.size≤4000000)=true) (h:bU P f=true):f<4000000:=by
 have h1:f<P.funcs.size:=by
  unfold bU at h
  by_cases q:f<P.funcs.size
  ·exact q
  ·rw [Array.getElem?_eq_none (Nat.le_of_not_lt q)] at h
   cases h
 have h2:=of_decide_eq_true hs
 exact Nat.lt_of_lt_of_le h1 h2
theorem Ab:∀(x:be) (s:St) (K K':IX→St→Prop),(∀e s,K e s→K' e s)→ir P x s K→ir P x s K':=by
 have icallm0:∀{f:FuncId} {args:List AV} {d:Option Nat} {s:St} {K K':St→Prop},(∀s,K s→K' s)→oP P f args d s K→oP P f args d s K':=fun {f args d s K K'} hK h=>by
  rcases h with ⟨args',r,b,h1,h2,h3,h4,h5⟩ | ⟨σ0,Sb,Post,ks,h1,h2,h3,h4⟩
  ·exact .inl ⟨args',r,b,h1,h2,h3,h4,hK _ h5⟩
  ·exact .inr ⟨σ0,Sb,Post,ks,h1,h2,h3,fun r σ' hp=>by obtain ⟨s',q1,q2,q3⟩:=h4 r σ' hp;exact ⟨s',q1,q2,hK _ q3⟩⟩
 have icallm:∀{f:FuncId} {args:List AV} {d:Option Nat} {s:St} {K K':St→Prop},(∀s,K s→K' s)→ci P f args d s K→ci P f args d s K':=fun {f args d s K K'} hK h=>h.imp (icallm0 hK) fun h=>h.imp (fun ⟨fs,h⟩=>⟨fs,icallm0 hK h⟩) fun ⟨s',a',hw,h⟩=>⟨s',a',hw,icallm0 hK h⟩
 have iopm:∀{o:aM} {s:St} {K K':St→Prop},(∀s,K s→K' s)→fW P o s K→fW P o s K':=fun {o s K K'} hK h=>by
  unfold fW at h ⊢
  split at h
  ·exact icallm hK h
  ·split at h
   ·split at h
    ·rename_i hlt;rw [av hlt];exact ⟨h.1,icallm hK h.2⟩
    ·rename_i hlt;rw [ar hlt];exact ⟨h.1,icallm hK h.2⟩
   ·exact h
  ·refine ⟨h.1,?_⟩
   have h2:=h.2
   split at h2
   ·exact hK _ h2
   ·obtain ⟨s',hw,h3⟩:=h2
    refine ⟨s',hw,?_⟩
    unfold AA at h3 ⊢
    split at h3
    ·exact hK _ h3
    ·exact h3.elim
  ·split at h
   ·exact ⟨hK _ h.1,hK _ h.2⟩
   ·split at h
    ·exact hK _ h
    ·exact h.elim
  ·by_cases ha:dp o.op=true
   ·rw [av ha] at h ⊢
    refine ⟨h.1,?_⟩
    have h2:=h.2
    split at h2
    ·exact hK _ h2
    ·exact h2.elim
   ·rw [ar ha] at h ⊢
    split at h
    ·exact hK _ h
    ·exact h
 have iopsm:∀(l:List aM) (s:St) (K K':St→Prop),(∀s,K s→K' s)→ff P l s K→ff P l s K':=by
  intro l
  induction l with
  | nil=>intro s K K' hK h;exact hK s h
  | cons o r ih =>
   intro s K K' hK h
   unfold ff at h ⊢
   split at h
   ·exact iopm (fun s' hs'=>ih s' K K' hK hs') h
   ·split at h
    ·exact ⟨fun ht=>iopm (fun s' hs'=>ih s' K K' hK hs') (h.1 ht),fun ht=>ih _ K K' hK (h.2 ht)⟩
    ·exact ih _ K K' hK h
    ·exact h
 have idopm:∀{al:List (Nat×Nat)} {i:Nat} {o:ax} {hist:List HI} {s:St} {K K':List HI→St→Prop},(∀x s,K x s→K' x s)→cu P al i o hist s K→cu P al i o hist s K':=fun {al i o hist s K K'} hK h=>by
  unfold cu at h ⊢
  split at h
  ·rcases h with ⟨args',r,b,h1,h2,h3,h4,h5,h6,h7,h8⟩ | ⟨k,ob,ob',Sb,r,h1,h2,h3,h4,h5,h6,h7,h8,h9⟩
   ·exact .inl ⟨args',r,b,h1,h2,h3,h4,h5,h6,h7,hK _ _ h8⟩
   ·exact .inr ⟨k,ob,ob',Sb,r,h1,h2,h3,h4,h5,h6,h7,h8,hK _ _ h9⟩
  ·exact h
  ·rcases h with h | ⟨rows,h1,h2,h3,h4,h5⟩
   ·refine .inl ?_
    split at h
    ·exact ⟨h.1,h.2.1,h.2.2.1,hK _ _ h.2.2.2⟩
    ·exact h
   ·exact .inr ⟨rows,h1,h2,h3,h4,hK _ _ h5⟩
  ·split at h
   ·exact ⟨h.1,h.2.1,h.2.2.1,hK _ _ h.2.2.2⟩
   ·exact h
 have idopsHm:∀{al:List (Nat×Nat)} (l:List ax) (i:Nat) (hist:List HI) (s:St) (K K':List HI→St→Prop),(∀x s,K x s→K' x s)→dq P al i l hist s K→dq P al i l hist s K':=by
  intro al l
  induction l with
  | nil=>intro i hist s K K' hK h;exact hK _ s h
  | cons o r ih =>
   intro i hist s K K' hK h
   unfold dq at h ⊢
   split at h
   ·exact idopm (fun x s' hs'=>ih (i+1) x s' K K' hK hs') h
   ·split at h
    ·exact ⟨fun ht=>idopm (fun x s' hs'=>ih (i+1) x s' K K' hK hs') (h.1 ht),fun ht=>ih _ _ _ K K' hK (h.2 ht)⟩
    ·exact ih _ _ _ K K' hK h
    ·exact h
 have idopsm:∀{al:List (Nat×Nat)} (l:List ax) (i:Nat) (hist:List HI) (s:St) (K K':St→Prop),(∀s,K s→K' s)→gV P al i l hist s K→gV P al i l hist s K':=fun l i hist s K K' hK h=>idopsHm l i hist s _ _ (fun _ s h=>hK s h) h
 intro x
 induction x with
 | skip=>intro s K K' hK h;exact hK _ _ h
 | ret=>intro s K K' hK h;exact hK _ _ h
 | exit id=>intro s K K' hK h;exact hK _ _ h
 | seq x y ihx ihy =>
  intro s K K' hK h
  refine ihx s _ _ (fun e s' hh=>?_) h
  cases e with
  | nrm=>exact ihy s' K K' hK hh
  | _=>exact hK _ _ hh
 | cut x y ihx ihy =>
  intro s K K' hK h
  refine ihx s _ _ (fun e s' hh=>?_) h
  cases e with
  | nrm=>obtain ⟨s'',h1,h2⟩:=hh;exact ⟨s'',h1,ihy s'' K K' hK h2⟩
  | _=>exact hK _ _ hh
 | cond v t e iht ihe =>
  intro s K K' hK h
  unfold ir at h ⊢
  split at h
  ·exact ⟨fun hb=>iht _ K K' hK (h.1 hb),fun hb=>ihe _ K K' hK (h.2 hb)⟩
  ·exact h
 | block id x ih =>
  intro s K K' hK h
  refine ih s _ _ (fun e s' hh=>?_) h
  cases e with
  | ext j =>
   simp only at hh ⊢
   split
   ·rename_i hj;rw [av hj] at hh;exact hK _ _ hh
   ·rename_i hj;rw [ar hj] at hh;exact hK _ _ hh
  | _=>exact hK _ _ hh
 | loop x ih =>
  intro s K K' hK h
  obtain ⟨I,h0,h1⟩:=h
  refine ⟨I,h0,fun n s hI=>ih s _ _ (fun e s' hh=>?_) (h1 n s hI)⟩
  cases e with
  | nrm=>exact hh
  | _=>exact hK _ _ hh
 | reg ops dr=>intro s K K' hK h;exact iopsm ops s _ _ (fun s' hs'=>hK _ _ hs') h
 | draw ops al dr=>intro s K K' hK h;exact idopsm ops 0 [] _ _ _ (fun s' hs'=>hK _ _ hs') h
 | wild ops al dr =>
  intro s K K' hK h
  refine idopsHm _ _ _ _ _ _ (fun hist s1 hh=>?_) h
  split at hh
  ·unfold A5 at hh ⊢
   split at hh
   ·refine ⟨hh.1,?_⟩
    replace hh:=hh.2
    split at hh
    ·exact ⟨hh.1,hh.2.1,hh.2.2.1,hh.2.2.2.1,hK _ _ hh.2.2.2.2⟩
    ·exact hh
   ·exact hh
  ·exact hh
 | free ops al dr =>
  intro s K K' hK h
  have conjm:∀{α:Type} {F F':α→Prop} (l:List α),(∀x,F x→F' x)→lL l F→lL l F':=by
   intro α F F' l hF
   induction l with
   | nil=>exact fun _=>trivial
   | cons x l ih =>
    cases l with
    | nil=>exact hF x
    | cons y l=>exact fun h=>⟨hF x h.1,ih h.2⟩
  have frm:∀(f:Nat) (R:List (Nat×ax)) (s:St) (K K':St→Prop),(∀s,K s→K' s)→j8 P f R s K→j8 P f R s K':=by
   intro f
   induction f with
   | zero=>intro R s K K' hK h;exact hK s h
   | succ f ih=>intro R s K K' hK h;exact conjm _ (fun t ht=>iopsm _ _ _ _ (fun s' hs'=>ih _ s' K K' hK hs') ht) h
  exact frm _ _ _ _ _ (fun s' hs'=>hK _ _ hs') h
theorem ac {f:FuncId} {F:az} {ic:be} {args:List AV} {r:AV} (hm:P.follows .mixedOrders=true) (hf:aq P f=some F) (hic:cP ic=F.body) (hlen:args.length=F.np) (hi:ir P ic ⟨eF 0 args,[]⟩ (zj F.res r)):aj P f args r:=by
 refine (aB (Post:=fun r' σ'=>r'=r∧σ'=[]) hm hf hic hlen (Ab _ _ _ _ (fun e s ⟨h1,s1,hw,fs,h2,h3⟩=>⟨h1,s1,hw,fs,r,[],h2,fun i o hi=>by simp [ae] at hi,⟨(fun i hi=>by rw [h3] at hi;cases hi),(fun p hp=>by cases hp)⟩,rfl,rfl⟩) hi)).mono (fun _ h=>h.elim) (fun _ _ h=>h)
end
def mv (d j:Nat):aM:=⟨some d,.mov (.s j),none⟩
def mt (d j k:Nat):aM:=⟨some d,.mov (.s j),some (k,true)⟩
def mf (d j k:Nat):aM:=⟨some d,.mov (.s j),some (k,false)⟩
def o0 (d:Nat) (o:gS):aM:=⟨some d,o,none⟩
def ot (d k:Nat) (o:gS):aM:=⟨some d,o,some (k,true)⟩
def oF (d k:Nat) (o:gS):aM:=⟨some d,o,some (k,false)⟩
theorem aey (d j:Nat):mv d j =⟨some d,.mov (.s j),none⟩:=rfl
theorem aex (d j k:Nat):mt d j k =⟨some d,.mov (.s j),some (k,true)⟩:=rfl
theorem aeu (d j k:Nat):mf d j k =⟨some d,.mov (.s j),some (k,false)⟩:=rfl
theorem afz (d:Nat) (o:gS):o0 d o =⟨some d,o,none⟩:=rfl
theorem afE (d k:Nat) (o:gS):ot d k o =⟨some d,o,some (k,true)⟩:=rfl
theorem afA (d k:Nat) (o:gS):oF d k o =⟨some d,o,some (k,false)⟩:=rfl
def lo (d j:Nat):aM:=o0 d (.load none (.s j))
theorem aer (d j:Nat):lo d j=o0 d (.load none (.s j)):=rfl
def lS (d n j:Nat):aM:=o0 d (.load (some n) (.s j))
theorem aem (d n j:Nat):lS d n j=o0 d (.load (some n) (.s j)):=rfl
def fa (d n j:Nat):aM:=o0 d (.fadr n (.s j))
theorem ad2 (d n j:Nat):fa d n j=o0 d (.fadr n (.s j)):=rfl
def nk (d j:Nat):aM:=o0 d (.nchk (.s j))
theorem afw (d j:Nat):nk d j=o0 d (.nchk (.s j)):=rfl
def ln (d j:Nat):aM:=o0 d (.len (.s j))
theorem aeq (d j:Nat):ln d j=o0 d (.len (.s j)):=rfl
def xt (d j k:Nat):aM:=o0 d (.ext (.s j) k)
theorem agb (d j k:Nat):xt d j k=o0 d (.ext (.s j) k):=rfl
def ia (d n j k:Nat):aM:=o0 d (.iadr n (.s j) (.s k))
theorem aei (d n j k:Nat):ia d n j k=o0 d (.iadr n (.s j) (.s k)):=rfl
def mI (d:Nat) (n:Int):aM:=o0 d (.mov (.c (.int .i64 n)))
theorem aet (d:Nat) (n:Int):mI d n=o0 d (.mov (.c (.int .i64 n))):=rfl
def mB (d:Nat) (b:Bool):aM:=o0 d (.mov (.c (.bool b)))
theorem aes (d:Nat) (b:Bool):mB d b=o0 d (.mov (.c (.bool b))):=rfl
def bS (d:Nat) (o:BinOp) (j k:Nat):aM:=o0 d (.bin o (.s j) (.s k))
theorem ach (d:Nat) (o:BinOp) (j k:Nat):bS d o j k=o0 d (.bin o (.s j) (.s k)):=rfl
def bI (d:Nat) (o:BinOp) (j:Nat) (n:Int):aM:=o0 d (.bin o (.s j) (.c (.int .i64 n)))
theorem acg (d:Nat) (o:BinOp) (j:Nat) (n:Int):bI d o j n=o0 d (.bin o (.s j) (.c (.int .i64 n))):=rfl
def c0 (d:Nat) (f:FuncId):aM:=o0 d (.call f [])
theorem ack (d:Nat) (f:FuncId):c0 d f=o0 d (.call f []):=rfl
def c1 (d:Nat) (f:FuncId) (a:Nat):aM:=o0 d (.call f [.s a])
theorem acl (d:Nat) (f:FuncId) (a:Nat):c1 d f a=o0 d (.call f [.s a]):=rfl
def c2 (d:Nat) (f:FuncId) (a b:Nat):aM:=o0 d (.call f [.s a,.s b])
theorem acm (d:Nat) (f:FuncId) (a b:Nat):c2 d f a b=o0 d (.call f [.s a,.s b]):=rfl
def c3 (d:Nat) (f:FuncId) (a b c:Nat):aM:=o0 d (.call f [.s a,.s b,.s c])
theorem acn (d:Nat) (f:FuncId) (a b c:Nat):c3 d f a b c=o0 d (.call f [.s a,.s b,.s c]):=rfl
def pF (d j k:Nat):aM:=o0 d (.pick (.s j) (.s k) (.c (.bool false)))
theorem afF (d j k:Nat):pF d j k=o0 d (.pick (.s j) (.s k) (.c (.bool false))):=rfl
def pT (d j k:Nat):aM:=o0 d (.pick (.s j) (.c (.bool true)) (.s k))
theorem afG (d j k:Nat):pT d j k=o0 d (.pick (.s j) (.c (.bool true)) (.s k)):=rfl
def uN (d j:Nat):aM:=o0 d (.un .not (.s j))
theorem aga (d j:Nat):uN d j=o0 d (.un .not (.s j)):=rfl
def sT (n j k:Nat):aM:=⟨none,.store n (.s j) (.s k),none⟩
theorem afT (n j k:Nat):sT n j k =⟨none,.store n (.s j) (.s k),none⟩:=rfl
def iC (n:Int):IV:=.c (.int .i64 n)
theorem aeh (n:Int):iC n = .c (.int .i64 n):=rfl
def bC (b:Bool):IV:=.c (.bool b)
theorem acf (b:Bool):bC b = .c (.bool b):=rfl
def ld (j:Nat):gS:=.load none (.s j)
theorem aep (j:Nat):ld j = .load none (.s j):=rfl
def fd (n j:Nat):gS:=.fadr n (.s j)
theorem ad3 (n j:Nat):fd n j = .fadr n (.s j):=rfl
def sr (o:List aM) (k:List Nat) (y:be):be:=.seq (.reg o k) y
theorem af4 (o:List aM) (k:List Nat) (y:be):sr o k y = .seq (.reg o k) y:=rfl
def cR (j:Nat):be:=.cond (.s j) .ret .skip
theorem aco (j:Nat):cR j = .cond (.s j) .ret .skip:=rfl
attribute [go_sem] aer aem ad2 afw aeq agb aei aet aes ach acg ack acl acm acn afF afG aga afT aeh acf aep ad3 af4 aco
attribute [go_sem] aey aex aeu afz afE afA
end Go.Mw