import Derived.Test.YteephfapgoncgaaGreatDoorUQa
import Derived.Orders
import Derived.Still
import Derived.Scope
set_option linter.all false
namespace Go.Mw
structure St where
 env:List (Nat×AV)
 heap:List (Nat×ah)
def get:List (Nat×AV)→Nat→AV
 | [],_=>.any
 | (k,x) :: r,n=>if k=n then x else get r n
def ae:List (Nat×ah)→Nat→Option ah
 | [],_=>none
 | (k,x) :: r,n=>if k=n then some x else ae r n
def del:List (Nat×AV)→Nat→List (Nat×AV)
 | [],_=>[]
 | (k,x) :: r,n=>if k=n then del r n else (k,x) :: del r n
def ii:List (Nat×ah)→Nat→List (Nat×ah)
 | [],_=>[]
 | (k,x) :: r,n=>if k=n then ii r n else (k,x) :: ii r n
def kX (i:Nat):List (Nat×AV)→List (Nat×AV)
 | []=>[]
 | (k,x) :: r=>(k,eC i x) :: kX i r
def kY (i:Nat):List (Nat×ah)→List (Nat×ah)
 | []=>[]
 | (k,x) :: r=>(k,cH i x) :: kY i r
def St.put (s:St) (d:Option Nat) (x:AV):St :=
 match d with
 | some d=>⟨(d,x) :: s.env,s.heap⟩
 | none=>s
def St.kill (s:St) (i:Nat):St:=⟨kX i s.env,kY i (ii s.heap i)⟩
def St.eff (s:St) (e:aP):St :=
 match e with
 | .no=>s
 | .put i o=>⟨s.env,(i,o) :: ii s.heap i⟩
 | .new i o=>⟨s.env,(i,o) :: ii s.heap i⟩
 | .reb i o=>⟨kX i s.env,(i,o) :: kY i (ii s.heap i)⟩
def kills:List Nat→St→St
 | [],s=>s
 | i :: r,s=>kills r (s.kill i)
def dels:List Nat→List (Nat×AV)→List (Nat×AV)
 | [],e=>e
 | d :: r,e=>dels r (del e d)
theorem ig (n:Nat):∀(l:List (Nat×AV)) (k:Nat),get (del l n) k=if k=n then .any else get l k
 | [],k=>by simp [del,get]
 | (j,x) :: r,k=>by
  simp only [del]
  by_cases h:j=n
  ·rw [bz h,ig n r k]
   subst h
   by_cases h2:k=j
   ·simp [h2]
   ·simp [get,h2,Ne.symm h2]
  ·rw [aV h]
   simp only [get]
   by_cases h2:j=k
   ·subst h2;simp [h]
   ·simp only [h2,j8,ig n r k]
theorem cF (n:Nat):∀(l:List (Nat×ah)) (k:Nat),ae (ii l n) k=if k=n then none else ae l k
 | [],k=>by simp [ii,ae]
 | (j,x) :: r,k=>by
  simp only [ii]
  by_cases h:j=n
  ·rw [bz h,cF n r k]
   subst h
   by_cases h2:k=j
   ·simp [h2]
   ·simp [ae,h2,Ne.symm h2]
  ·rw [aV h]
   simp only [ae]
   by_cases h2:j=k
   ·subst h2;simp [h]
   ·simp only [h2,j8,cF n r k]
theorem fh (i:Nat):∀(l:List (Nat×AV)) (k:Nat),get (kX i l) k=eC i (get l k)
 | [],k=>by simp [kX,get,eC,mV,mG,mC,mP]
 | (j,x) :: r,k=>by simp only [kX,get,fh i r k];split<;>rfl
theorem dH (i:Nat):∀(l:List (Nat×ah)) (k:Nat),ae (kY i l) k=(ae l k).map (cH i)
 | [],k=>by simp [kY,ae]
 | (j,x) :: r,k=>by simp only [kY,ae,dH i r k];split<;>rfl
def bM (c:je) (s:St) (a:Act) (w:World):Prop:=∃bl,aD c bl (get s.env) (ae s.heap) a w
section
variable {P:Program} [aX P] {c:je} [CT c P] {a:Act} {w:World} {s:St}
theorem bM.kill (h:bM c s a w) (i:Nat):bM c (s.kill i) a w:=by
 obtain ⟨bl,h⟩:=h
 exact ⟨bl,(h.kill i).congr (fun k=>by simp [St.kill,fh]) (fun j=>by simp only [St.kill,dH,cF];split<;>simp)⟩
theorem bM.kills:∀(l:List Nat) {s:St},bM c s a w→bM c (Mw.kills l s) a w
 | [],_,h=>h
 | i :: r,_,h=>bM.kills r (h.kill i)
theorem bV (s:St) (i:Nat):ae (s.kill i).heap i=none∧bP i (get (s.kill i).env) (ae (s.kill i).heap):=by
 refine ⟨by simp [St.kill,dH,cF],?_⟩
 have:=gB i (get s.env) (ae s.heap)
 refine ⟨fun k=>by simpa [St.kill,fh] using this.1 k,fun j o hj=>this.2 j o ?_⟩
 rw [← hj]
 simp only [St.kill,dH,cF]
 split<;>simp
theorem bM.del (h:bM c s a w) (d:Nat):bM c ⟨del s.env d,s.heap⟩ a w:=by
 obtain ⟨bl,h⟩:=h
 exact ⟨bl,h.weaken (fun k=>by rw [ig];split<;>simp) (fun _ _ h=>h)⟩
theorem bM.dels:∀(l:List Nat) {e:List (Nat×AV)} {hp:List (Nat×ah)},bM c ⟨e,hp⟩ a w→bM c ⟨Mw.dels l e,hp⟩ a w
 | [],_,_,h=>h
 | d :: r,_,_,h=>bM.dels r (h.del d)
theorem jn {bl:Nat→Option Nat} {g:Nat→AV} {h:Nat→Option ah} (hs:aD c bl g h a w) (d:Option Nat) (hd:∀k,d=some k→k<c.n) {v:Value} {x:AV} (hv:aT bl (aY bl c.MF h) w v x)
  (hg:∀k,get s.env k=g k) (hh:∀j,ae s.heap j=h j):bM c (s.put d x) (a.put d v) w:=by
 cases d with
 | none=>exact ⟨bl,by simpa [St.put,Act.put] using hs.congr hg hh⟩
 | some d =>
  refine ⟨bl,(hs.put (hd d rfl) hv).congr (fun k=>?_) (fun j=>by simpa [St.put] using hh j)⟩
  simp only [St.put,get,cI,ig]
  by_cases hk:k=d
  ·subst hk;simp
  ·simp [hk,Ne.symm hk,hg]
theorem rP (h:bM c s a w) (d:Option Nat) (hd:∀k,d=some k→k<c.n) (_:Unit):bM c (s.put d (.tup [])) (a.put d undef) w:=by
 obtain ⟨bl,h⟩:=h
 exact jn h d hd (x:=.tup []) ⟨[],rfl,trivial⟩ (fun _=>rfl) (fun _=>rfl)
theorem pQ (s:St) (e:aP) (k:Nat):get (s.eff e).env k=e.env (get s.env) k:=by
 cases e<;>simp [St.eff,aP.env,fh]
theorem nt (s:St) (e:aP) (j:Nat):ae (s.eff e).heap j=e.hp (ae s.heap) j:=by
 cases e with
 | no=>rfl
 | put i o=>simp only [St.eff,aP.hp,ae,cI,cF];by_cases h:j=i<;>simp [h,eq_comm]
 | new i o=>simp only [St.eff,aP.hp,ae,cI,cF];by_cases h:j=i<;>simp [h,eq_comm]
 | reb i o=>simp only [St.eff,aP.hp,ae,cI,dH,cF];by_cases h:j=i<;>simp [h,eq_comm]
end
def cG:AV→List Nat
 | .ms id _ _ _=>[id]
 | .mp id _ _ _=>[id]
 | .mm id _=>[id]
 | _=>[]
def bU:AV→List Nat
 | .fn _ caps=>caps.flatMap cG
 | x=>cG x
def fk:AV→List Nat
 | .agg cells=>cells.flatMap bU
 | x=>bU x
def aF:AV→List Nat
 | .tup vs=>vs.flatMap fk
 | x=>fk x
def cU (o:ah):List Nat:=if o.isRec then o.rows.flatMap (fun r=>r.flatMap bU) else []
theorem AB {i:Nat} {x:AV} (h:mP i x=true):i∈cG x:=by cases x<;>simp_all [mP,cG]
theorem jV {i:Nat} {x:AV} (h:mC i x=true):i∈bU x:=by
 cases x with
 | fn f caps =>
  simp only [mC,List.any_eq_true] at h
  obtain ⟨y,h1,h2⟩:=h
  simp only [bU,gF]
  exact ⟨y,h1,AB h2⟩
 | _ =>
  simp only [mC] at h
  simpa only [bU] using AB h
theorem AA {i:Nat} {x:AV} (h:mG i x=true):i∈fk x:=by
 cases x with
 | agg cells =>
  simp only [mG,List.any_eq_true] at h
  obtain ⟨y,h1,h2⟩:=h
  simp only [fk,gF]
  exact ⟨y,h1,jV h2⟩
 | _ =>
  simp only [mG] at h
  simpa only [fk] using jV h
theorem i1 {i:Nat} {x:AV} (h:mV i x=true):i∈aF x:=by
 cases x with
 | tup vs =>
  simp only [mV,List.any_eq_true] at h
  obtain ⟨y,h1,h2⟩:=h
  simp only [aF,gF]
  exact ⟨y,h1,AA h2⟩
 | _ =>
  simp only [mV] at h
  simpa only [aF] using AA h
def iQ (r:AV) (σ:List (Nat×ah)):Prop:=(∀i∈aF r,(ae σ i).isSome=true)∧∀p∈σ,∀i∈cU p.2,(ae σ i).isSome=true
def gZ (bl:Nat→Option Nat) (σ:List (Nat×ah)) (b:Nat):Prop:=∃id o,ae σ id=some o∧bl id=some b
def br (P:Program) [aX P] (f:FuncId) (args:List AV) (σ:List (Nat×ah)) (Sb:Nat→Prop) (Post:AV→List (Nat×ah)→Prop):Prop :=
 ∀(bl:Nat→Option Nat) (MF:Nat→Prop) (w:World) (cargs:List Value),
  (aX.T P).H w→(∀b,(aX.T P).B b→¬aY bl MF (ae σ) b)→sc bl (aY bl MF (ae σ)) MF w (ae σ)→(∀b,MF b→b<w.heap.size)→aK (aT bl (aY bl MF (ae σ)) w) cargs args →
  Calls P f cargs.toArray w fun e w'=>∃v r σ' bl',e = .returned v∧Post r σ'∧iQ r σ'∧sc bl' (aY bl' MF (ae σ')) MF w' (ae σ')∧aT bl' (aY bl' MF (ae σ')) w' v r ∧
   gG (gZ bl σ) w w'∧(∀id o b,ae σ' id=some o→bl' id=some b→w.heap.size≤b∨gZ bl σ b)∧∀id,Sb id→bl' id=bl id
def aj (P:Program) [aX P] (f:FuncId) (args:List AV) (r:AV):Prop:=br P f args [] (fun _=>False) fun r' σ'=>r'=r∧σ'=[]
def o7:AV→Bool
 | .bool _=>true
 | .int ..=>true
 | .str _=>true
 | .nl=>true
 | .np=>true
 | .nf=>true
 | .sl _ []=>true
 | _=>false
def qY:AV→Bool
 | .agg cells=>cells.all o7
 | x=>o7 x
def lO:AV→Bool
 | .tup vs=>vs.all qY
 | x=>qY x
def B_ (b:Bool) (h:Nat→Option ah) (x x':AV):Prop :=
 x=x'∨(x = .nl∧∃st,x' = .sl st []) ∨
 (b=true∧∃id st off len o,x = .ms id st off len∧h id=some o∧o.isRec=false∧o.st=st∧off+len≤o.rows.length∧x' = .sl st ((o.rows.drop off).take len))
section
variable {P:Program} [aX P] {c:je} [CT c P] {bl:Nat→Option Nat} {g:Nat→AV} {h:Nat→Option ah} {a:Act} {w w':World} {M M':Nat→Prop}
theorem o8 {bl':Nat→Option Nat} {v:Value} {x:AV} (hf:o7 x=true) (hv:bA bl M w v x):bA bl' M' w' v x:=by
 cases x<;>simp [o7] at hf<;>simp only [bA,cL] at hv ⊢
 case sl st rows =>
  cases rows with
  | cons r l=>simp [o7] at hf
  | nil =>
   cases hv with
   | nls=>exact .nls _
   | sl0=>exact .sl0 _ _ _
   | sl b off cap st c t fr rows vs=>exact .sl0 _ _ _
 all_goals (cases hv;constructor)
theorem o9 {bl':Nat→Option Nat} {v:Value} {x:AV} (hf:qY x=true) (hv:cZ bl M w v x):cZ bl' M' w' v x:=by
 cases x with
 | agg cells =>
  obtain ⟨cs,h1,h2⟩:=hv
  exact ⟨cs,h1,h2.mono fun _ y hy hr=>o8 (de.1 hf y hy) hr⟩
 | _ =>
  simp only [qY] at hf
  simp only [cZ] at hv ⊢
  exact o8 hf hv
theorem vT {bl':Nat→Option Nat} {v:Value} {x:AV} (hf:lO x=true) (hv:aT bl M w v x):aT bl' M' w' v x:=by
 cases x with
 | any=>trivial
 | tup vs =>
  obtain ⟨cs,h1,h2⟩:=hv
  exact ⟨cs,h1,h2.mono fun _ y hy hr=>o9 (de.1 hf y hy) hr⟩
 | _ =>
  simp only [lO] at hf
  simp only [aT] at hv ⊢
  exact o9 hf hv
theorem aD.grow (s:aD c bl g h a w) (hst:gG (fun _=>False) w w'):aD c bl g h a w':=by
 have ht:Tr (aY bl c.MF h) (aY bl c.MF h) w w':=⟨fun b hb hl=>⟨hb,hst.keep b hl (fun h=>h)⟩,hst.shape⟩
 refine ⟨s.defers,s.size,fun k=>(s.env k).tr ht (fun _ _=>rfl),⟨fun id o hi=>?_,s.heap.2⟩,s.step.trans hst (fun _ _ h=>h.elim),s.own,s.stab,s.mf⟩
 rcases s.heap.1 id o hi with h1 | ⟨b,h1,⟨gk,c1,fr,h2,h3,h4,h5,h6,h7⟩ | hsp⟩
 ·exact .inl h1
 rotate_left
 ·exact .inr ⟨b,h1,.inr (hsp.tr (hst.keep b hsp.rel.lt (fun h=>h)))⟩
 ·refine .inr ⟨b,h1,.inl ⟨gk,c1,fr,by rw [hst.keep b (be h2) (fun h=>h)];exact h2,h3,h4,h5,h6,fun i j r x hr hx=>?_⟩⟩
  obtain ⟨v,hv1,hv2⟩:=h7 i j r x hr hx
  exact ⟨v,hv1,hv2.tr ht (fun _ _ _=>rfl)⟩
theorem fO (MF:Nat→Prop) (b:Nat):aY bl MF (ae []) b↔MF b:=⟨fun h=>by
 rcases h with h | ⟨id,o,h,_⟩
 ·exact h
 ·simp [ae] at h,.inl⟩
theorem aD.tab (s:aD c bl g h a w):(aX.T P).H w:=by
 rw [← CT.eq (c:=c) (P:=P)]
 exact c.T.stay c.w0 w c.tH fun b hb=>s.step.keep b (c.T.low _ c.tH b hb) (c.tW b hb)
theorem aD.tabW (s:aD c bl g h a w) (b:Nat) (hb:(aX.T P).B b):¬aY bl c.MF h b:=by
 rw [← CT.eq (c:=c) (P:=P)] at hb
 rintro (hm | ⟨id,o,h1,h2⟩)
 ·exact c.tM b hb hm
 rcases s.own id o b h1 h2 with h3 | h3
 ·exact absurd (c.T.low _ c.tH b hb) (by omega)
 ·exact c.tW b hb h3
theorem pn (s:aD c bl g h a w) {f:FuncId} {cargs:List Value} {args args':List AV} {r:AV} (hp:aj P f args' r) (ha:aK (aT bl (aY bl c.MF h) w) cargs args) (hid:∀x∈args',aF x=[]) (b:Bool) (hc:aK (B_ b h) args args') (hf:b=true→lO r=true) :
  Calls P f cargs.toArray w fun e w'=>∃v,e = .returned v∧aD c bl g h a w'∧aT bl (aY bl c.MF h) w' v r:=by
 let MF':Nat→Prop:=fun q=>aY bl c.MF h q∧(b=true→c.MF q)
 have hMF':∀q,MF' q→q<w.heap.size:=fun q hq=>by
  rcases hq.1 with hm | ⟨id,o,h1,h2⟩
  ·exact Nat.lt_of_lt_of_le (s.mf q hm) s.step.size
  ·rcases s.heap.1 id o h1 with hn | ⟨b',g2,hO⟩
   ·rw [hn.2.2] at h2;cases h2
   ·rw [h2] at g2;cases g2;exact hO.lt
 have hargs:aK (aT (fun _=>none) (aY (fun _=>none) MF' (ae [])) w) cargs args':=by
  have key:∀{cs:List Value} {as as':List AV},aK (aT bl (aY bl c.MF h) w) cs as→aK (B_ b h) as as'→(∀x∈as',aF x=[])→aK (aT (fun _=>none) (aY (fun _=>none) MF' (ae [])) w) cs as':=by
   intro cs
   induction cs with
   | nil =>
    intro as as' h1 h2 _
    cases as with
    | cons=>exact h1.elim
    | nil=>cases as' with
     | cons=>exact h2.elim
     | nil=>trivial
   | cons v cs ih =>
    intro as as' h1 h2 h3
    cases as with
    | nil=>exact h1.elim
    | cons x as =>
     cases as' with
     | nil=>exact h2.elim
     | cons x' as' =>
      refine ⟨?_,ih h1.2 h2.2 (fun y hy=>h3 y (by simp [hy]))⟩
      have ht:Tr (aY bl c.MF h) (aY (fun _=>none) MF' (ae [])) w w:=⟨fun q hq _=>⟨fun hm=>hq ((fO MF' q).1 hm).1,rfl⟩,fun _ c1 _ fr hb=>⟨c1,fr,hb,rfl⟩⟩
      have hno:∀id,mV id x'=true→(none:Option Nat)=bl id:=fun id hm=>by
       have:=i1 hm
       rw [h3 x' (by simp)] at this
       simp at this
      rcases h2.1 with he | ⟨he,st,he'⟩ | ⟨hb,id,st,off,len,o,he,ho,hrec,hst,hfit,he'⟩
      ·have h11:=h1.1
       rw [he] at h11
       exact h11.tr ht hno
      ·rw [he']
       have h11:=h1.1
       rw [he] at h11
       have:=h11.nl
       rw [this]
       exact IRel.nls st
      ·have h11:=h1.1
       rw [he] at h11
       rw [he']
       have h4:cL bl (aY bl c.MF h) w v (.ms id st off len):=h11
       rcases s.heap.1 id o ho with hn | ⟨bb,g2,hO⟩
       ·have hlen:len=0:=by rw [hn.1] at hfit;simp at hfit;omega
        subst hlen
        simp only [bE]
        rcases h4 with ⟨e1,_⟩ | ⟨_,_,ad,cap,e1⟩ | ⟨b',cap,c1,t,fr,e1,_⟩
        ·rw [e1];exact IRel.nls st
        ·rw [e1];exact IRel.sl0 st ad cap
        ·rw [hn.2.2] at e1;cases e1
       ·have hnb:¬aY (fun _=>none) MF' (ae []) bb:=fun hm=>by
         have:=((fO MF' bb).1 hm).2 hb
         exact hO.free this
        have:=nh (M':=aY (fun _=>none) MF' (ae [])) ht hnb (.inr ⟨g2,hO⟩) hrec h4
        simp only [cT,fv,hst,true_and,hfit] at this
        exact this
  exact key ha hc hid
 refine (hp (fun _=>none) MF' w cargs (aD.tab (P:=P) s) (fun q hq hm=>aD.tabW (P:=P) s q hq ((fO MF' q).1 hm).1) ⟨fun id o hi=>by simp [ae] at hi,fun id id' o o' b hi=>by simp [ae] at hi⟩ hMF' hargs).mono fun e w' hh=>?_
 obtain ⟨v,r',σ',bl',rfl,⟨rfl,rfl⟩,hcl,_,hv,hst,_,_⟩:=hh
 have hst':gG (fun _=>False) w w':=⟨hst.size,fun q hq _=>hst.keep q hq (fun hb=>by
  obtain ⟨id,o,hi,_⟩:=hb
  simp [ae] at hi),hst.shape,hst.os,hst.out⟩
 refine ⟨v,rfl,s.grow hst',?_⟩
 cases b with
 | true=>exact vT (hf rfl) hv
 | false =>
  refine hv.tr ⟨fun q hq hl=>⟨fun hm=>hq ((fO MF' q).2 ⟨hm,fun h=>by cases h⟩),rfl⟩,fun _ c1 _ fr hb=>⟨c1,fr,hb,rfl⟩⟩ (fun id hm=>?_)
  have:=hcl.1 id (i1 hm)
  simp [ae] at this
end
def iI (ks:List Nat) (x:AV):AV:=if ks.any (fun i=>mV i x) then .any else x
def kq (ks:List Nat) (x:AV):AV:=if ks.any (fun i=>mC i x) then .any else x
def dT (ks:List Nat) (o:ah):ah:=if o.isRec then { o with rows:=o.rows.map (fun r=>r.map (kq ks)) } else o
def uA (ks:List Nat) (σ0 σ':Nat→Option ah) (h:Nat→Option ah) (id:Nat):Option ah :=
 match σ' id with
 | some o=>some o
 | none=>if (σ0 id).isSome then none else (h id).map (dT ks)
section
variable {P:Program} [aX P] {c:je} [CT c P] {bl bl' bl2:Nat→Option Nat} {g:Nat→AV} {h:Nat→Option ah} {a:Act} {w w':World} {M M':Nat→Prop} {ks:List Nat}
theorem wN {v:Value} {x:AV} (hv:aT bl M w v x) (ht:Tr M M' w w') (hb:∀id,id∉ks→bl2 id=bl id):aT bl2 M' w' v (iI ks x):=by
 unfold iI
 split
 ·trivial
 ·rename_i hn
  refine hv.tr ht (fun id hm=>hb id (fun hk=>hn ?_))
  exact List.any_eq_true.2 ⟨id,hk,hm⟩
theorem wM {v:Value} {x:AV} (hv:bA bl M w v x) (ht:Tr M M' w w') (hb:∀id,id∉ks→bl2 id=bl id):bA bl2 M' w' v (kq ks x):=by
 unfold kq
 split
 ·exact IRel.toC (.any v (bA.one hv))
 ·rename_i hn
  refine hv.tr ht (fun id hm=>hb id (fun hk=>hn ?_))
  exact List.any_eq_true.2 ⟨id,hk,hm⟩
theorem nJ (s:aD c bl g h a w) {f:FuncId} {cargs:List Value} {args:List AV} {σ0:List (Nat×ah)} {Sb:Nat→Prop} {Post:AV→List (Nat×ah)→Prop}
  (hp:br P f args σ0 Sb Post) (ha:aK (aT bl (aY bl c.MF h) w) cargs args) (hσ:∀id o,ae σ0 id=some o→h id=some o) (ks:List Nat)
  (hks:∀r σ',Post r σ'→∀id,(ae σ' id).isSome=true→(Sb id∧(ae σ0 id).isSome=true)∨(id∈ks∧(id<1000∨2000≤id)∧((ae σ0 id).isSome=true∨h id=none))) :
  Calls P f cargs.toArray w fun e w'=>∃v r σ' bl2,e = .returned v∧Post r σ'∧aD c bl2 (fun k=>iI ks (g k)) (uA ks (ae σ0) (ae σ') h) a w'∧aT bl2 (aY bl2 c.MF (uA ks (ae σ0) (ae σ') h)) w' v r:=by
 let MF':Nat→Prop:=fun q=>c.MF q∨∃id o,h id=some o∧ae σ0 id=none∧bl id=some q
 have blk:∀{id o q},h id=some o→bl id=some q→gw bl (aY bl c.MF h) c.MF w o q:=fun {id o q} h1 h2=>by
  rcases s.heap.1 id o h1 with hn | ⟨b',g2,hO⟩
  ·rw [hn.2.2] at h2;cases h2
  ·rw [h2] at g2;cases g2;exact hO
 have hMF':∀q,MF' q→q<w.heap.size:=by
  rintro q (hq | ⟨id,o,h1,_,h2⟩)
  ·exact Nat.lt_of_lt_of_le (s.mf q hq) s.step.size
  ·exact (blk h1 h2).lt
 have hmut:∀q,aY bl MF' (ae σ0) q↔aY bl c.MF h q:=fun q=>by
  constructor
  ·rintro ((hq | ⟨id,o,h1,_,h2⟩) | ⟨id,o,h1,h2⟩)
   ·exact .inl hq
   ·exact .inr ⟨id,o,h1,h2⟩
   ·exact .inr ⟨id,o,hσ id o h1,h2⟩
  ·rintro (hq | ⟨id,o,h1,h2⟩)
   ·exact .inl (.inl hq)
   ·cases h3:ae σ0 id with
    | none=>exact .inl (.inr ⟨id,o,h1,h3,h2⟩)
    | some o'=>exact .inr ⟨id,o',h3,h2⟩
 have ht0:=Tr.of_iff (w:=w) hmut
 have hH:sc bl (aY bl MF' (ae σ0)) MF' w (ae σ0):=by
  refine ⟨fun id o hi=>?_,fun id id' o o' q h1 h2=>s.heap.2 id id' o o' q (hσ _ _ h1) (hσ _ _ h2)⟩
  rcases s.heap.1 id o (hσ id o hi) with hn | ⟨b',g2,⟨gk,c2,fr2,g3,g4,g5,g6,g7,g8⟩ | hsp⟩
  ·exact .inl hn
  rotate_left
  ·refine .inr ⟨b',g2,.inr ⟨hsp.rows,hsp.isRec,?_,hsp.rel⟩⟩
   rintro (hq | ⟨id2,o2,h1,h3,h2⟩)
   ·exact hsp.free hq
   ·have:=s.heap.2 id2 id o2 o b' h1 (hσ id o hi) h2 g2
    subst this
    rw [hi] at h3
    cases h3
  ·refine .inr ⟨b',g2,.inl ⟨gk,c2,fr2,g3,g4,?_,g6,g7,fun i j r x hr hx=>?_⟩⟩
   ·rintro (hq | ⟨id2,o2,h1,h3,h2⟩)
    ·exact g5 hq
    ·have:=s.heap.2 id2 id o2 o b' h1 (hσ id o hi) h2 g2
     subst this
     rw [hi] at h3
     cases h3
   ·obtain ⟨v,hv1,hv2⟩:=g8 i j r x hr hx
    exact ⟨v,hv1,hv2.tr ht0 (fun _ _ _=>rfl)⟩
 refine (hp bl MF' w cargs (aD.tab (P:=P) s) (fun q hq hm=>aD.tabW (P:=P) s q hq ((hmut q).1 hm)) hH hMF' (ha.mono fun _ _ _ hr=>hr.tr ht0 (fun _ _=>rfl))).mono fun e w' hh=>?_
 obtain ⟨v,r,σ',bl1,rfl,hPost,hcl,hH',hv,hst,hown,hsb⟩:=hh
 have hks':=hks r σ' hPost
 let B:Nat→Option Nat:=fun id=>if (ae σ' id).isSome then bl1 id else bl id
 have B_in:∀id,(ae σ' id).isSome=true→B id=bl1 id:=fun id hi=>by simp [B,hi]
 have B_out:∀id,ae σ' id=none→B id=bl id:=fun id hi=>by simp [B,hi]
 have B_ks:∀id,id∉ks→B id=bl id:=fun id hk=>by
  cases hi:ae σ' id with
  | none=>exact B_out id hi
  | some o =>
   rw [B_in id (by simp [hi])]
   rcases hks' id (by simp [hi]) with ⟨h1,_⟩ | ⟨h1,_⟩
   ·exact hsb id h1
   ·exact absurd h1 hk
 have mrg_out:∀{id o},uA ks (ae σ0) (ae σ') h id=some o→ae σ' id=none→∃o0,h id=some o0∧o=dT ks o0∧ae σ0 id=none:=fun {id o} hm hn=>by
  simp only [uA,hn] at hm
  split at hm
  ·cases hm
  ·rename_i h0
   simp only [cq] at hm
   obtain ⟨o0,h1,rfl⟩:=hm
   exact ⟨o0,h1,rfl,by simpa using h0⟩
 have σblk:∀{id o q},ae σ' id=some o→bl1 id=some q→gw bl1 (aY bl1 MF' (ae σ')) MF' w' o q:=fun {id o q} h1 h2=>by
  rcases hH'.1 id o h1 with hn | ⟨b',g2,hO⟩
  ·rw [hn.2.2] at h2;cases h2
  ·rw [h2] at g2;cases g2;exact hO
 have hmut2:∀q,aY B c.MF (uA ks (ae σ0) (ae σ') h) q→aY bl1 MF' (ae σ') q:=by
  rintro q (hq | ⟨id,o,h1,h2⟩)
  ·exact .inl (.inl hq)
  ·cases hi:ae σ' id with
   | some o'=>rw [B_in id (by simp [hi])] at h2;exact .inr ⟨id,o',hi,h2⟩
   | none =>
    obtain ⟨o0,h3,_,h4⟩:=mrg_out h1 hi
    rw [B_out id hi] at h2
    exact .inl (.inr ⟨id,o0,h3,h4,h2⟩)
 have hmut3:∀q,q<w.heap.size→aY bl1 MF' (ae σ') q→aY bl c.MF h q:=by
  rintro q hq ((hm | ⟨id,o,h1,_,h2⟩) | ⟨id,o,h1,h2⟩)
  ·exact .inl hm
  ·exact .inr ⟨id,o,h1,h2⟩
  ·rcases hown id o q h1 h2 with h3 | ⟨id2,o2,h3,h4⟩
   ·omega
   ·exact .inr ⟨id2,o2,hσ _ _ h3,h4⟩
 have ht:Tr (aY bl c.MF h) (aY B c.MF (uA ks (ae σ0) (ae σ') h)) w w':=⟨fun q hq hl=>⟨fun hm=>hq (hmut3 q hl (hmut2 q hm)),hst.keep q hl (fun hb=>hq (by
  obtain ⟨id,o,h1,h2⟩:=hb
  exact .inr ⟨id,o,hσ _ _ h1,h2⟩))⟩,hst.shape⟩
 have ht1:Tr (aY bl1 MF' (ae σ')) (aY B c.MF (uA ks (ae σ0) (ae σ') h)) w' w':=⟨fun q hq _=>⟨fun hm=>hq (hmut2 q hm),rfl⟩,fun _ c1 _ fr hb=>⟨c1,fr,hb,rfl⟩⟩
 have hcl1:∀id,mV id r=true→B id=bl1 id:=fun id hm=>B_in id (hcl.1 id (i1 hm))
 have hmem:∀{σ:List (Nat×ah)} {id:Nat} {o:ah},ae σ id=some o→(id,o)∈σ:=by
  intro σ
  induction σ with
  | nil=>intro id o hi;simp [ae] at hi
  | cons p l ih =>
   intro id o hi
   obtain ⟨k,x⟩:=p
   simp only [ae] at hi
   split at hi
   ·rename_i hk;cases hi;subst hk;simp
   ·exact List.mem_cons_of_mem _ (ih hi)
 refine ⟨v,r,σ',B,rfl,hPost,⟨s.defers,s.size,fun k=>wN (s.env k) ht B_ks,⟨fun id o hi=>?_,fun id id' o o' q h1 h2 h3 h4=>?_⟩,?_,fun id o q h1 h2=>?_,fun id h1 h2=>?_,s.mf⟩,hv.tr ht1 hcl1⟩
 ·cases hi':ae σ' id with
  | some o' =>
   have ho:o=o':=by simp only [uA,hi',bO] at hi;exact hi.symm
   subst ho
   rcases hH'.1 id o hi' with hn | ⟨b',g2,⟨gk,c2,fr2,g3,g4,g5,g6,g7,g8⟩ | hsp⟩
   ·exact .inl ⟨hn.1,hn.2.1,by rw [B_in id (by simp [hi'])];exact hn.2.2⟩
   rotate_left
   ·exact .inr ⟨b',by rw [B_in id (by simp [hi'])];exact g2,.inr ⟨hsp.rows,hsp.isRec,fun hm=>hsp.free (.inl hm),hsp.rel⟩⟩
   ·refine .inr ⟨b',by rw [B_in id (by simp [hi'])];exact g2,.inl ⟨gk,c2,fr2,g3,g4,fun hm=>g5 (.inl hm),g6,g7,fun i j q x hr hx=>?_⟩⟩
    obtain ⟨u,hu1,hu2⟩:=g8 i j q x hr hx
    refine ⟨u,hu1,hu2.tr ht1 (fun hrec id2 hm=>B_in id2 (hcl.2 (id,o) (hmem hi') id2 ?_))⟩
    simp only [cU,hrec,fv,gF]
    exact ⟨q,gE hr,x,gE hx,jV hm⟩
  | none =>
   obtain ⟨o0,h1,rfl,h3⟩:=mrg_out hi hi'
   rcases s.heap.1 id o0 h1 with hn | ⟨b',g2,⟨gk,c2,fr2,g3,g4,g5,g6,g7,g8⟩ | hsp⟩
   ·refine .inl ⟨?_,?_,by rw [B_out id hi'];exact hn.2.2⟩
    ·simp [dT,hn.2.1,hn.1]
    ·simp [dT,hn.2.1]
   rotate_left
   ·have hkeep:w'.heap[b']? = w.heap[b']?:=hst.keep b' hsp.rel.lt (fun hb=>by
     obtain ⟨id2,o2,h4,h5⟩:=hb
     have:=s.heap.2 id id2 o0 o2 b' h1 (hσ _ _ h4) g2 h5
     subst this
     rw [h3] at h4
     cases h4)
    refine .inr ⟨b',by rw [B_out id hi'];exact g2,.inr ?_⟩
    have:dT ks o0=o0:=by simp [dT,hsp.isRec]
    rw [this]
    exact hsp.tr hkeep
   ·have hkeep:w'.heap[b']? = w.heap[b']?:=hst.keep b' (be g3) (fun hb=>by
     obtain ⟨id2,o2,h4,h5⟩:=hb
     have:=s.heap.2 id id2 o0 o2 b' h1 (hσ _ _ h4) g2 h5
     subst this
     rw [h3] at h4
     cases h4)
    refine .inr ⟨b',by rw [B_out id hi'];exact g2,.inl ⟨by unfold dT;split<;>exact gk,c2,fr2,?_,g4,g5,?_,?_,?_⟩⟩
    ·rw [hkeep,g3]
     unfold dT
     split<;>rfl
    ·intro i q hq
     unfold dT at hq ⊢
     split at hq
     ·simp only [cQ,cq] at hq
      obtain ⟨q0,hq0,rfl⟩:=hq
      rename_i hrec
      simpa [hrec] using g6 i q0 hq0
     ·rename_i hrec
      simpa [hrec] using g6 i q hq
    ·unfold dT
     split<;>simpa using g7
    ·intro i j q x hq hx
     unfold dT at hq ⊢
     split at hq
     ·rename_i hrec
      simp only [cQ,cq] at hq
      obtain ⟨q0,hq0,rfl⟩:=hq
      simp only [cQ,cq] at hx
      obtain ⟨x0,hx0,rfl⟩:=hx
      obtain ⟨u,hu1,hu2⟩:=g8 i j q0 x0 hq0 hx0
      simp only [hrec,fv]
      rw [hrec] at hu2
      exact ⟨u,hu1,wM hu2 ht B_ks⟩
     ·rename_i hrec
      obtain ⟨u,hu1,hu2⟩:=g8 i j q x hq hx
      have hrec':o0.isRec=false:=by simpa using hrec
      simp only [hrec',rZ,j8]
      rw [hrec'] at hu2
      exact ⟨u,hu1,IRel.tr hu2 ht.keep⟩
 ·cases hi:ae σ' id with
  | some o1 =>
   rw [B_in id (by simp [hi])] at h3
   cases hi2:ae σ' id' with
   | some o2 =>
    rw [B_in id' (by simp [hi2])] at h4
    exact hH'.2 id id' o1 o2 q hi hi2 h3 h4
   | none =>
    rw [B_out id' hi2] at h4
    obtain ⟨o2,h5,_,h6⟩:=mrg_out h2 hi2
    exact ((σblk hi h3).free (.inr ⟨id',o2,h5,h6,h4⟩)).elim
  | none =>
   rw [B_out id hi] at h3
   obtain ⟨o1,h5,_,h6⟩:=mrg_out h1 hi
   cases hi2:ae σ' id' with
   | some o2 =>
    rw [B_in id' (by simp [hi2])] at h4
    exact ((σblk hi2 h4).free (.inr ⟨id,o1,h5,h6,h3⟩)).elim
   | none =>
    rw [B_out id' hi2] at h4
    obtain ⟨o2,h7,_,h8⟩:=mrg_out h2 hi2
    exact s.heap.2 id id' o1 o2 q h5 h7 h3 h4
 ·refine s.step.trans hst (fun q hq hb=>?_)
  obtain ⟨id,o,h1,h2⟩:=hb
  rcases s.own id o q (hσ _ _ h1) h2 with h3 | h3
  ·omega
  ·exact h3
 ·cases hi:ae σ' id with
  | some o1 =>
   rw [B_in id (by simp [hi])] at h2
   rcases hown id o1 q hi h2 with h3 | ⟨id2,o2,h3,h4⟩
   ·exact .inl (gc s.step.size h3)
   ·exact s.own id2 o2 q (hσ _ _ h3) h4
  | none =>
   rw [B_out id hi] at h2
   obtain ⟨o1,h5,_,h6⟩:=mrg_out h1 hi
   exact s.own id o1 q h5 h2
 ·cases hi:ae σ' id with
  | none=>rw [B_out id hi];exact s.stab id h1 h2
  | some o1 =>
   rw [B_in id (by simp [hi])]
   rcases hks' id (by simp [hi]) with ⟨h3,_⟩ | ⟨_,h3,_⟩
   ·rw [hsb id h3];exact s.stab id h1 h2
   ·omega
end
section
variable {c:je} {bl:Nat→Option Nat} {g:Nat→AV} {h:Nat→Option ah} {a:Act} {w:World}
theorem It (i:Nat) (o o1:ah):(et i o o1).t=o1.t:=by unfold et;split<;>rfl
theorem pP (i:Nat) (o o1:ah):(et i o o1).st=o1.st:=by unfold et;split<;>rfl
theorem q_ (i:Nat) (o o1:ah):(et i o o1).isRec=o1.isRec:=by unfold et;split<;>rfl
theorem aD.freeze (s:aD c bl g h a w) {i:Nat} {o:ah} (hi:h i=some o) (hrec:o.isRec=false) :
  aD c bl (fun k=>kh i o (g k)) (fun j=>if j=i then none else (h j).map (et i o)) a w ∧
   ∀v x,aT bl (aY bl c.MF h) w v x→aT bl (aY bl c.MF (fun j=>if j=i then none else (h j).map (et i o))) w v (kh i o x):=by
 have hsub:∀{j q},(if j=i then none else (h j).map (et i o))=some q→j≠i∧∃q0,h j=some q0∧q=et i o q0:=fun {j q} hj=>by
  split at hj
  ·cases hj
  ·rename_i hne
   simp only [cq] at hj
   obtain ⟨q0,h1,h2⟩:=hj
   exact ⟨hne,q0,h1,h2.symm⟩
 have hmut:∀q,aY bl c.MF (fun j=>if j=i then none else (h j).map (et i o)) q→aY bl c.MF h q:=by
  rintro q (hm | ⟨j,oj,h1,h2⟩)
  ·exact .inl hm
  ·obtain ⟨_,q0,h3,_⟩:=hsub h1
   exact .inr ⟨j,q0,h3,h2⟩
 have ht:Tr (aY bl c.MF h) (aY bl c.MF (fun j=>if j=i then none else (h j).map (et i o))) w w:=⟨fun b hb _=>⟨fun hm=>hb (hmut b hm),rfl⟩,fun _ c1 _ fr hb=>⟨c1,fr,hb,rfl⟩⟩
 have hP:∀{v x},cL bl (aY bl c.MF h) w v x→cL bl (aY bl c.MF (fun j=>if j=i then none else (h j).map (et i o))) w v (cT i o x):=fun {v x} hv=>by
  rcases s.heap.1 i o hi with hn | ⟨b,hb,hO⟩
  ·exact nh (b:=w.heap.size) (MF:=c.MF) ht (fun hm=>by
    rcases hm with hm | ⟨j,oj,h1,h2⟩
    ·exact absurd (s.mf _ hm) (Nat.not_lt.2 s.step.size)
    ·obtain ⟨_,q0,h3,_⟩:=hsub h1
     rcases s.heap.1 j q0 h3 with hn2 | ⟨b',h4,hO⟩
     ·rw [hn2.2.2] at h2;cases h2
     ·rw [h2] at h4;cases h4;exact absurd hO.lt (Nat.lt_irrefl _)) (.inl ⟨hn.1,hn.2.2⟩) hrec hv
  ·refine nh ht (fun hm=>?_) (.inr ⟨hb,hO⟩) hrec hv
   rcases hm with hm | ⟨j,oj,h1,h2⟩
   ·exact hO.free hm
   ·obtain ⟨hne,q0,h3,_⟩:=hsub h1
    exact hne (s.heap.2 j i q0 o b h3 hi h2 hb)
 have hC:∀{v x},bA bl (aY bl c.MF h) w v x→bA bl (aY bl c.MF (fun j=>if j=i then none else (h j).map (et i o))) w v (ci i o x):=fun {v x} hv=>by
  cases x with
  | fn f caps =>
   obtain ⟨cs,h1,h2⟩:=hv
   exact ⟨cs,h1,h2.mapRight fun _ _ hr=>hP hr⟩
  | agg cells=>simp only [bA,cL] at hv;cases hv
  | tup vs=>simp only [bA,cL] at hv;cases hv
  | ms id st off len =>
   have:=hP (x:=.ms id st off len) hv
   simp only [ci]
   generalize hy:cT i o (.ms id st off len)=y at this
   simp only [cT] at hy
   split at hy
   ·split at hy<;>(subst hy;exact this)
   ·subst hy;exact this
  | mp id st row off =>
   have:=hP (x:=.mp id st row off) hv
   simp only [ci]
   generalize hy:cT i o (.mp id st row off)=y at this
   simp only [cT] at hy
   split at hy
   ·split at hy
    ·split at hy<;>(subst hy;exact this)
    ·subst hy;exact this
   ·subst hy;exact this
  | mm id k =>
   have:=hP (x:=.mm id k) hv
   simp only [ci]
   generalize hy:cT i o (.mm id k)=y at this
   simp only [cT] at hy
   split at hy
   ·split at hy<;>(subst hy;exact this)
   ·subst hy;exact this
  | _ =>
   simp only [bA,cL] at hv
   exact IRel.toC (IRel.tr hv ht.keep)
 have hG:∀{v x},cZ bl (aY bl c.MF h) w v x→cZ bl (aY bl c.MF (fun j=>if j=i then none else (h j).map (et i o))) w v (pO i o x):=fun {v x} hv=>by
  cases x with
  | agg cells =>
   obtain ⟨cs,h1,h2⟩:=hv
   exact ⟨cs,h1,h2.mapRight fun _ _ hr=>hC hr⟩
  | _ =>
   simp only [cZ] at hv
   simp only [pO]
   exact (hC hv).toG
 have hV:∀{v x},aT bl (aY bl c.MF h) w v x→aT bl (aY bl c.MF (fun j=>if j=i then none else (h j).map (et i o))) w v (kh i o x):=fun {v x} hv=>by
  cases x with
  | any=>trivial
  | tup vs =>
   obtain ⟨cs,h1,h2⟩:=hv
   exact ⟨cs,h1,h2.mapRight fun _ _ hr=>hG hr⟩
  | _ =>
   simp only [aT] at hv
   simp only [kh]
   exact (hG hv).toV
 refine ⟨⟨s.defers,s.size,fun k=>hV (s.env k),⟨fun j oj hj=>?_,fun j j' oj oj' q h1 h2=>?_⟩,s.step,fun j oj q h1 h2=>?_,s.stab,s.mf⟩,fun v x hv=>hV hv⟩
 ·obtain ⟨hne,q0,h1,rfl⟩:=hsub hj
  rcases s.heap.1 j q0 h1 with hn | ⟨b,hb,⟨gk,c1,fr,h2,h3,h4,h5,h6,h7⟩ | hsp⟩
  ·exact .inl ⟨by simp [et,hn.2.1,hn.1],by rw [q_];exact hn.2.1,hn.2.2⟩
  rotate_left
  ·have:et i o q0=q0:=by simp [et,hsp.isRec]
   rw [this]
   exact .inr ⟨b,hb,.inr hsp⟩
  ·refine .inr ⟨b,hb,.inl ⟨by unfold et;split<;>exact gk,c1,fr,by rw [It];exact h2,h3,h4,fun k r hr=>?_,?_,fun k q r x hr hx=>?_⟩⟩
   ·rw [pP]
    unfold et at hr
    split at hr
    ·simp only [cQ,cq] at hr
     obtain ⟨r0,h8,rfl⟩:=hr
     simpa using h5 k r0 h8
    ·exact h5 k r hr
   ·rw [pP]
    unfold et
    split<;>simpa using h6
   ·rw [pP,q_]
    unfold et at hr
    split at hr
    ·rename_i hrc
     simp only [cQ,cq] at hr
     obtain ⟨r0,h8,rfl⟩:=hr
     simp only [cQ,cq] at hx
     obtain ⟨x0,h9,rfl⟩:=hx
     obtain ⟨u,hu1,hu2⟩:=h7 k q r0 x0 h8 h9
     rw [hrc] at hu2 ⊢
     exact ⟨u,hu1,hC hu2⟩
    ·rename_i hrc
     obtain ⟨u,hu1,hu2⟩:=h7 k q r x hr hx
     have hrc':q0.isRec=false:=by simpa using hrc
     rw [hrc'] at hu2 ⊢
     exact ⟨u,hu1,IRel.tr hu2 ht.keep⟩
 ·obtain ⟨_,q1,h3,_⟩:=hsub h1
  obtain ⟨_,q2,h4,_⟩:=hsub h2
  exact s.heap.2 j j' q1 q2 q h3 h4
 ·obtain ⟨_,q1,h3,_⟩:=hsub h1
  exact s.own j q1 q h3 h2
end
def zc (i:Nat) (o:ah):List (Nat×AV)→List (Nat×AV)
 | []=>[]
 | (k,x) :: r=>(k,kh i o x) :: zc i o r
def vX (i:Nat) (o:ah):List (Nat×ah)→List (Nat×ah)
 | []=>[]
 | (k,x) :: r=>(k,et i o x) :: vX i o r
def St.frz (s:St) (i:Nat):St :=
 match ae s.heap i with
 | some o=>if o.isRec then s else ⟨zc i o s.env,vX i o (ii s.heap i)⟩
 | none=>s
def frzs:List Nat→St→St
 | [],s=>s
 | i :: r,s=>frzs r (s.frz i)
theorem nj (i:Nat) (o:ah):∀(l:List (Nat×AV)) (k:Nat),get (zc i o l) k=kh i o (get l k)
 | [],k=>rfl
 | (j,x) :: r,k=>by simp only [zc,get,nj i o r k];split<;>rfl
theorem kP (i:Nat) (o:ah):∀(l:List (Nat×ah)) (k:Nat),ae (vX i o l) k=(ae l k).map (et i o)
 | [],k=>rfl
 | (j,x) :: r,k=>by simp only [vX,ae,kP i o r k];split<;>rfl
theorem bM.frz {c:je} {s:St} {a:Act} {w:World} (hs:bM c s a w) (i:Nat):bM c (s.frz i) a w:=by
 obtain ⟨bl,hs⟩:=hs
 unfold St.frz
 split
 ·rename_i o ho
  split
  ·exact ⟨bl,hs⟩
  ·rename_i hr
   exact ⟨bl,(hs.freeze ho (by simpa using hr)).1.congr (fun k=>nj i o _ k) (fun j=>by simp only [kP,cF];split<;>simp)⟩
 ·exact ⟨bl,hs⟩
theorem bM.frzs {c:je} {a:Act} {w:World}:∀(l:List Nat) {s:St},bM c s a w→bM c (Mw.frzs l s) a w
 | [],_,h=>h
 | i :: r,_,h=>bM.frzs r (h.frz i)
def frz1 (s:St) (i:Nat) (x:AV):AV :=
 match ae s.heap i with
 | some o=>if o.isRec then x else kh i o x
 | none=>x
def pa:List Nat→St→AV→AV
 | [],_,x=>x
 | i :: r,s,x=>pa r (s.frz i) (frz1 s i x)
theorem aD.frz1 {c:je} {bl:Nat→Option Nat} {s:St} {a:Act} {w:World} (hs:aD c bl (get s.env) (ae s.heap) a w) (i:Nat) :
  aD c bl (get (s.frz i).env) (ae (s.frz i).heap) a w∧∀v x,aT bl (aY bl c.MF (ae s.heap)) w v x→aT bl (aY bl c.MF (ae (s.frz i).heap)) w v (Mw.frz1 s i x):=by
 unfold St.frz Mw.frz1
 cases ho:ae s.heap i with
 | none=>exact ⟨hs,fun _ _ h=>h⟩
 | some o =>
  simp only
  by_cases hr:o.isRec=true
  ·simp only [hr,fv];exact ⟨hs,fun _ _ h=>h⟩
  ·obtain ⟨h1,h2⟩:=hs.freeze ho (by simpa using hr)
   have hh:ae (vX i o (ii s.heap i))=fun j=>if j=i then none else (ae s.heap j).map (et i o):=by
    funext j
    simp only [kP,cF]
    split<;>simp
   simp only [hr,j8,rZ]
   exact ⟨h1.congr (fun k=>nj i o _ k) (fun j=>by rw [hh]),fun v x hv=>by rw [hh];exact h2 v x hv⟩
theorem aD.frzs {c:je} {bl:Nat→Option Nat} {a:Act} {w:World}:∀(fs:List Nat) (s:St),aD c bl (get s.env) (ae s.heap) a w →
  aD c bl (get (Mw.frzs fs s).env) (ae (Mw.frzs fs s).heap) a w∧∀v x,aT bl (aY bl c.MF (ae s.heap)) w v x→aT bl (aY bl c.MF (ae (Mw.frzs fs s).heap)) w v (pa fs s x)
 | [],s,hs=>⟨hs,fun _ _ h=>h⟩
 | i :: r,s,hs=>by
  obtain ⟨h1,h2⟩:=hs.frz1 i
  obtain ⟨h3,h4⟩:=aD.frzs r (s.frz i) h1
  exact ⟨h3,fun v x hv=>h4 v _ (h2 v x hv)⟩
structure av where
 o:aH
 bef:List Nat
 deriving Inhabited
inductive aS where
 | skip
 | ret
 | exit (id:Nat)
 | seq (x y:aS)
 | cut (x y:aS)
 | cond (c:IV) (t e:aS)
 | block (id:Nat) (x:aS)
 | loop (x:aS)
 | reg (ops:List aH) (dr:List Nat)
 | draw (ops:List av) (al:List (Nat×Nat)) (dr:List Nat)
 | free (ops:List av) (al:List (Nat×Nat)) (dr:List Nat)
 | wild (ops:List av) (al:List (Nat×Nat)) (dr:List Nat)
 | clon (cs:List Nat) (ops:List av) (al:List (Nat×Nat)) (dr:List Nat)
 deriving Inhabited
inductive IX where
 | nrm
 | ret
 | ext (id:Nat)
def kQ (P:Program) [aX P] (f:FuncId) (args:List AV) (d:Option Nat) (s:St) (K:St→Prop):Prop :=
 (∃args' r b,aj P f args' r∧(∀x∈args',aF x=[])∧aK (B_ b (ae s.heap)) args args'∧(b=true→lO r=true)∧K (s.put d r)) ∨
 ∃σ0 Sb Post ks,br P f args σ0 Sb Post∧(∀id o,ae σ0 id=some o→ae s.heap id=some o) ∧
  (∀r σ',Post r σ'→∀id,(ae σ' id).isSome=true→(Sb id∧(ae σ0 id).isSome=true)∨(id∈ks∧(id<1000∨2000≤id)∧((ae σ0 id).isSome=true∨ae s.heap id=none))) ∧
  ∀r σ',Post r σ'→∃s':St,(∀k,get s'.env k=iI ks (get s.env k))∧(∀j,ae s'.heap j=uA ks (ae σ0) (ae σ') (ae s.heap) j)∧K (s'.put d r)
def qB (s:St) (l:List AV) (s':St) (l':List AV):Prop:=∀(c:je) (a:Act) (w:World) (bl:Nat→Option Nat) (vs:List Value),aD c bl (get s.env) (ae s.heap) a w→aK (aT bl (aY bl c.MF (ae s.heap)) w) vs l →
 ∃bl',aD c bl' (get s'.env) (ae s'.heap) a w∧aK (aT bl' (aY bl' c.MF (ae s'.heap)) w) vs l'
def ek (P:Program) [aX P] (f:FuncId) (args:List AV) (d:Option Nat) (s:St) (K:St→Prop):Prop :=
 kQ P f args d s K∨(∃fs,kQ P f (args.map (pa fs s)) d (frzs fs s) K)∨∃s' args',qB s args s' args'∧kQ P f args' d s' K
def Wk (s s':St):Prop:=∀(c:je) (a:Act) (w:World),bM c s a w→bM c s' a w
def rC (o:aH) (s:St) (K:St→Prop):Prop :=
 match bh (o.dst.getD 0) o.op (val (get (s.kill (o.dst.getD 0)).env)) (ae (s.kill (o.dst.getD 0)).heap) with
 | some (v,e)=>K (((s.kill (o.dst.getD 0)).eff e).put o.dst v)
 | none=>False
def jB (b:Bool) (A B:Prop):Prop:=match b with | true=>A | false=>B
def yF (o:aH) (s:St) (K:St→Prop):Prop:=∃s',Wk s s'∧rC o s' K
def eF (P:Program) [aX P] (o:aH) (s:St) (K:St→Prop):Prop :=
 match o.op with
 | .call f args=>ek P f (args.map (val (get s.env))) o.dst s K
 | .callv f args=>match val (get s.env) f with
  | .fn f caps=>if f<4000000 then bc P f=true∧ek P f (args.map (val (get s.env))++caps) o.dst s K else bc P (f - 4000000)=true∧ek P (f - 4000000) (caps.take 1++args.map (val (get s.env))++caps.drop 1) o.dst s K
  | _=>False
 | .bsl t st rows ps=>(o.dst.getD 0<1000∧match sq (o.dst.getD 0) t st (gJ (val (get (s.kill (o.dst.getD 0)).env)) st rows ps) with
   | some (v,e)=>K (((s.kill (o.dst.getD 0)).eff e).put o.dst v)
   | none=>yF o s K)
 | .app t st x y=>o.dst.getD 0<1000∧jB (k7 (ae s.heap) (val (get s.env) x)) (match jx (o.dst.getD 0) t st (val (get (s.kill (o.dst.getD 0)).env) x) (iJ st (ae (s.kill (o.dst.getD 0)).heap) (val (get (s.kill (o.dst.getD 0)).env) y)) (ae (s.kill (o.dst.getD 0)).heap) with
   | some (v,e)=>K (((s.kill (o.dst.getD 0)).eff e).put o.dst v)
   | none=>False) (jB (k7 (ae s.heap) (val (get s.env) y)) (match jx (o.dst.getD 0) t st (val (get (s.kill (o.dst.getD 0)).env) x) (iJ st (ae (s.kill (o.dst.getD 0)).heap) (val (get (s.kill (o.dst.getD 0)).env) y)) (ae (s.kill (o.dst.getD 0)).heap) with
   | some (v,e)=>K (((s.kill (o.dst.getD 0)).eff e).put o.dst v)
   | none=>False) (match bh (o.dst.getD 0) (.app t st x y) (val (get (s.kill (o.dst.getD 0)).env)) (ae (s.kill (o.dst.getD 0)).heap) with
   | some (v,e)=>K (((s.kill (o.dst.getD 0)).eff e).put o.dst v)
   | none=>False))
 | .snl b x=>match val (get s.env) x with
  | .sl _ []=>K (s.put o.dst (.bool b))∧K (s.put o.dst (.bool (!b)))
  | x=>match sk b x with
   | some v=>K (s.put o.dst v)
   | none=>False
 | op=>if iU op then
   (o.dst.getD 0<1000∧match bh (o.dst.getD 0) op (val (get (s.kill (o.dst.getD 0)).env)) (ae (s.kill (o.dst.getD 0)).heap) with
   | some (v,e)=>K (((s.kill (o.dst.getD 0)).eff e).put o.dst v)
   | none=>False)
  else match bh (o.dst.getD 0) op (val (get s.env)) (ae s.heap) with
   | some (v,e)=>K ((s.eff e).put o.dst v)
   | none=>False
def ee (P:Program) [aX P]:List aH→St→(St→Prop)→Prop
 | [],s,K=>K s
 | o :: r,s,K=>match o.g with
  | none=>eF P o s (fun s'=>ee P r s' K)
  | some (k,b)=>match get s.env k with
   | .bool t=>(t=b→eF P o (s.put (some k) (.bool b)) (fun s'=>ee P r s' K))∧(t = !b→ee P r ((s.put (some k) (.bool (!b))).put o.dst (.tup [])) K)
   | .tup []=>ee P r (s.put o.dst (.tup [])) K
   | _=>False
class inductive Ld where
 | no
 | ld
instance:Ld:=.no
structure HI where
 i:Nat
 op:List Nat
 res:List Nat
 tch:List Nat
 rb:Bool
 wr:Bool
 [ld:Ld]
abbrev kU:eV→Ld
 | .load _ _=>.ld
 | .fadr _ _=>.ld
 | .len _=>.ld
 | _=>.no
def HI.isLd (y:HI):Bool:=match y.ld with
 | .ld=>true
 | .no=>false
def aP.isPut:aP→Bool
 | .put ..=>true
 | _=>false
def aP.tch:aP→List Nat
 | .no=>[]
 | .put i _=>[i]
 | .new i _=>[i]
 | .reb i _=>[i]
def aP.isReb:aP→Bool
 | .reb ..=>true
 | _=>false
def aP.ids:aP→List Nat
 | .no=>[]
 | .put _ o=>cU o
 | .new _ o=>cU o
 | .reb _ o=>cU o
def aL:IV→List Nat
 | .s k=>[k]
 | .c _=>[]
def eX:Option IV→List Nat
 | some x=>aL x
 | none=>[]
def ao (o:eV):List Nat :=
 match o with
 | .mov x | .box _ _ x | .load _ x | .fadr _ x | .fld _ _ x | .len x | .slen x | .un _ x | .cvi _ x | .cvs x | .cvt x | .cvb _ x | .cvm x | .ext x _ | .nchk x | .snl _ x=>aL x
 | .pick c a b=>aL c++aL a++aL b
 | .new _ _=>[]
 | .build _ ps=>ps.flatMap fun p=>aL p.2.2
 | .bsl _ _ _ ps=>ps.flatMap fun p=>aL p.2
 | .store _ x y | .iadr _ x y | .aadr _ _ x y | .mnx _ x y | .cpy _ x y | .sib x y | .app _ _ x y | .apps _ x y | .bin _ x y | .bbin _ x y | .pbin _ x y | .sbin _ _ x y | .sidx x y | .mks _ _ _ x y=>aL x++aL y
 | .slc _ x lo hi mx=>aL x++eX lo++eX hi++eX mx
 | .sslc x lo hi=>aL x++eX lo++eX hi
 | .call _ args=>args.flatMap aL
 | .callv f args=>aL f++args.flatMap aL
 | .mkf _ caps=>caps.flatMap aL
 | .mop _ xs=>xs.flatMap aL
def co (o:aH):List Nat:=ao o.op++(match o.g with | some (k,_)=>[k] | none=>[])
def p7 (x y:HI):Bool :=
 y.tch.all (fun d=>!x.op.contains d && !x.tch.contains d)&&x.tch.all (fun d=>!y.op.contains d)&&(!x.rb||x.tch.all fun d=>!y.res.contains d)&&(!y.rb||y.tch.all fun d=>!x.res.contains d) && !(x.rb&&y.wr) && !(y.rb&&x.wr) && !(x.rb&&x.wr) && !(y.rb&&y.wr)
def dy (bef:List Nat) (x:HI) (hist:List HI):Bool:=hist.all fun y=>bef.contains y.i||p7 x y
def iG (al:List (Nat×Nat)) (bef:List Nat) (x:HI):Bool:=al.all fun p=>!x.res.contains p.1||p.2==x.i||bef.contains p.2
def fY:AV→Bool
 | .any=>true
 | _=>false
def cJ (o:eV) (s:St) (e:aP):Bool:=(ao o).all (fun k=>!fY (get s.env k))&&(!e.isReb||e.tch.all fun d=>s.heap.all fun p=>!(cU p.2).contains d)
def bx (o:eV) (e:List (Nat×AV)):List Nat :=
 match o with
 | .mov _=>[]
 | o=>(ao o).flatMap fun k=>aF (get e k)
def tF (tch:List Nat) (y:HI):Bool:=(y.op.isEmpty||y.isLd)&&y.tch.isEmpty && !y.rb&&(tch.all fun d=>!y.res.contains d)&&tch.all fun d=>!y.op.contains d
def rY (al:List (Nat×Nat)) (i:Nat) (o:av) (hist:List HI) (s:St) (K:St→Prop):Prop :=
 match o.o.op with
 | .app t st x y=>o.o.g=none∧match bh (o.o.dst.getD 0) (.app t st x y) (val (get s.env)) (ae s.heap) with
  | some (v,e)=>((ao (.app t st x y)).all fun k=>!fY (get s.env k))=true∧e.isReb=true∧(hist.all fun z=>o.bef.contains z.i||tF e.tch z)=true ∧
    iG al o.bef ⟨i,bx (.app t st x y) s.env,aF v++e.ids,e.tch,true,true⟩=true∧K ((s.eff e).put o.o.dst v)
  | none=>False
 | _=>False
class Cl where
 c:List Nat
instance:Cl:=⟨[]⟩
def P0 [q:Cl]:Option Nat→Bool
 | some d=>q.c.contains d
 | none=>false
def bZ (P:Program) [aX P] [Cl] (al:List (Nat×Nat)) (i:Nat) (o:av) (hist:List HI) (s:St) (K:List HI→St→Prop):Prop :=
 match o.o.op with
 | .call f args=>(∃args' r b,aj P f args' r∧(∀x∈args',aF x=[])∧aK (B_ b (ae s.heap)) (args.map (val (get s.env))) args'∧(b=true→lO r=true)∧aF r=[] ∧
   cJ o.o.op s .no=true∧dy o.bef ⟨i,bx o.o.op s.env,[],[],false,false⟩ hist=true∧K (⟨i,bx o.o.op s.env,[],[],false,false⟩ :: hist) (s.put o.o.dst r)) ∨
   (∃k ob ob' Sb r,br P f (args.map (val (get s.env))) [(k,ob)] Sb (fun r' σ'=>r'=r∧σ'=[(k,ob')])∧Sb k∧ae s.heap k=some ob∧aF r=[]∧cU ob'=[]∧k∈bx o.o.op s.env ∧
   cJ o.o.op s (.put k ob')=true∧dy o.bef ⟨i,bx o.o.op s.env,[],[k],false,true⟩ hist=true∧K (⟨i,bx o.o.op s.env,[],[k],false,true⟩ :: hist) ((s.eff (.put k ob')).put o.o.dst r)) ∨
   ∃d ob st off len Sb,o.o.dst=some d∧ob.isRec=false∧br P f (args.map (val (get s.env))) [] Sb (fun r' σ'=>r' = .ms d st off len∧σ'=[(d,ob)]) ∧
   cJ o.o.op s .no=true∧dy o.bef ⟨i,bx o.o.op s.env,[d],[d],false,false⟩ hist=true∧iG al o.bef ⟨i,bx o.o.op s.env,[d],[d],false,false⟩=true∧K (⟨i,bx o.o.op s.env,[d],[d],false,false⟩ :: hist) ((s.eff (.new d ob)).put o.o.dst (.ms d st off len))
 | .callv _ _=>False
 | .app t st x y=>(match bh (o.o.dst.getD 0) (.app t st x y) (val (get s.env)) (ae s.heap) with
  | some (v,e)=>cJ o.o.op s e=true∧dy o.bef ⟨i,bx o.o.op s.env,aF v++e.ids,e.tch,e.isReb,e.isPut⟩ hist=true ∧
    iG al o.bef ⟨i,bx o.o.op s.env,aF v++e.ids,e.tch,e.isReb,e.isPut⟩=true∧K (⟨i,bx o.o.op s.env,aF v++e.ids,e.tch,e.isReb,e.isPut⟩ :: hist) ((s.eff e).put o.o.dst v)
  | none=>False)∨(∃rows,x = .c .nl∧bh (o.o.dst.getD 0) (.app t st x y) (val (get s.env)) (ae s.heap)=some (.ms (o.o.dst.getD 0) st 0 rows.length,.new (o.o.dst.getD 0) ⟨t,st,rows,false⟩) ∧
   cJ o.o.op s .no=true∧dy o.bef ⟨i,bx o.o.op s.env,[],[],false,false⟩ hist=true∧K (⟨i,bx o.o.op s.env,[],[],false,false⟩ :: hist) (s.put o.o.dst (.sl st rows)))
 | .bsl t st rows ps=>if P0 o.o.dst=true then (match gJ (val (get s.env)) st rows ps with
   | some rs=>cJ o.o.op s .no=true∧dy o.bef ⟨i,bx o.o.op s.env,[],[],false,false⟩ hist=true∧K (⟨i,bx o.o.op s.env,[],[],false,false⟩ :: hist) (s.put o.o.dst (.sl st rs))
   | none=>False)
  else match bh (o.o.dst.getD 0) (.bsl t st rows ps) (val (get s.env)) (ae s.heap) with
  | some (v,e)=>cJ o.o.op s e=true∧dy o.bef (@HI.mk i (bx o.o.op s.env) (aF v++e.ids) e.tch e.isReb e.isPut (kU o.o.op)) hist=true ∧
    iG al o.bef (@HI.mk i (bx o.o.op s.env) (aF v++e.ids) e.tch e.isReb e.isPut (kU o.o.op))=true∧K ((@HI.mk i (bx o.o.op s.env) (aF v++e.ids) e.tch e.isReb e.isPut (kU o.o.op)) :: hist) ((s.eff e).put o.o.dst v)
  | none=>False
 | op=>match bh (o.o.dst.getD 0) op (val (get s.env)) (ae s.heap) with
  | some (v,e)=>cJ o.o.op s e=true∧dy o.bef (@HI.mk i (bx o.o.op s.env) (aF v++e.ids) e.tch e.isReb e.isPut (kU o.o.op)) hist=true ∧
    iG al o.bef (@HI.mk i (bx o.o.op s.env) (aF v++e.ids) e.tch e.isReb e.isPut (kU o.o.op))=true∧K ((@HI.mk i (bx o.o.op s.env) (aF v++e.ids) e.tch e.isReb e.isPut (kU o.o.op)) :: hist) ((s.eff e).put o.o.dst v)
  | none=>False
def db (P:Program) [aX P] [Cl] (al:List (Nat×Nat)):Nat→List av→List HI→St→(List HI→St→Prop)→Prop
 | _,[],hist,s,K=>K hist s
 | i,o :: r,hist,s,K=>match o.o.g with
  | none=>bZ P al i o hist s (fun hist' s'=>db P al (i+1) r hist' s' K)
  | some (k,b)=>match get s.env k with
   | .bool t=>(t=b→bZ P al i o hist (s.put (some k) (.bool b)) (fun hist' s'=>db P al (i+1) r hist' s' K)) ∧
     (t = !b→db P al (i+1) r (⟨i,[],[],[],false,false⟩ :: hist) ((s.put (some k) (.bool (!b))).put o.o.dst (.tup [])) K)
   | .tup []=>db P al (i+1) r (⟨i,[],[],[],false,false⟩ :: hist) (s.put o.o.dst (.tup [])) K
   | _=>False
def fj (P:Program) [aX P] [Cl] (al:List (Nat×Nat)) (i:Nat) (l:List av) (hist:List HI) (s:St) (K:St→Prop):Prop:=db P al i l hist s fun _ s=>K s
def cx:aS→aS
 | .cut x y=>.seq (cx x) (cx y)
 | .seq x y=>.seq (cx x) (cx y)
 | .cond c t e=>.cond c (cx t) (cx e)
 | .block id x=>.block id (cx x)
 | .loop x=>.loop (cx x)
 | .free ops al dr=>.draw ops al dr
 | .wild ops al dr=>.draw ops al dr
 | .clon _ ops al dr=>.draw ops al dr
 | x=>x
def refine (c:IV) (b:Bool) (s:St):St :=
 match c with
 | .s k=>s.put (some k) (.bool b)
 | .c _=>s
def M7 (R:List (Nat×av)):List (Nat×av):=R.filter fun t=>R.all fun q=>!t.2.bef.contains q.1
def jA {α:Type}:List α→(α→Prop)→Prop
 | [],_=>True
 | [x],F=>F x
 | x :: y :: r,F=>F x∧jA (y :: r) F
def iE (P:Program) [aX P]:Nat→List (Nat×av)→St→(St→Prop)→Prop
 | 0,_,s,K=>K s
 | f+1,R,s,K=>jA (M7 R) fun t=>ee P [t.2.o] s fun s'=>iE P f (R.filter fun q=>q.1 != t.1) s' K
def fD (P:Program) [aX P]:aS→St→(IX→St→Prop)→Prop
 | .skip,s,K=>K .nrm s
 | .ret,s,K=>K .ret s
 | .exit id,s,K=>K (.ext id) s
 | .seq x y,s,K=>fD P x s fun e s'=>match e with
  | .nrm=>fD P y s' K
  | e=>K e s'
 | .cut x y,s,K=>fD P x s fun e s'=>match e with
  | .nrm=>∃s'',Wk s' s''∧fD P y s'' K
  | e=>K e s'
 | .cond c t e,s,K=>match val (get s.env) c with
  | .bool b=>(b=true→fD P t (refine c true s) K)∧(b=false→fD P e (refine c false s) K)
  | _=>False
 | .block id x,s,K=>fD P x s fun e s'=>match e with
  | .ext j=>if j=id then K .nrm s' else K (.ext j) s'
  | e=>K e s'
 | .loop x,s,K=>∃I:Nat→St→Prop,(∃n s',I n s'∧Wk s s')∧∀n s,I n s→fD P x s fun e s'=>match e with
  | .nrm=>∃m s'',m<n∧I m s''∧Wk s' s''
  | e=>K e s'
 | .reg ops dr,s,K=>ee P ops s fun s'=>K .nrm ⟨dels dr s'.env,s'.heap⟩
 | .draw ops al dr,s,K=>fj P al 0 ops [] (kills (al.map (·.1)) s) fun s'=>K .nrm ⟨dels dr s'.env,s'.heap⟩
 | .wild ops al dr,s,K=>db P al 0 ops.dropLast [] (kills (al.map (·.1)) s) fun hist s1=>match ops.getLast? with
  | some o=>rY al (ops.length - 1) o hist s1 fun s'=>K .nrm ⟨dels dr s'.env,s'.heap⟩
  | none=>False
 | .clon cs ops al dr,s,K=>@fj P _ ⟨cs⟩ al 0 ops [] (kills (al.map (·.1)) s) fun s'=>K .nrm ⟨dels dr s'.env,s'.heap⟩
 | .free ops _ dr,s,K=>iE P ops.length (ops.zipIdx.map fun p=>(p.2,p.1)) s fun s'=>K .nrm ⟨dels dr s'.env,s'.heap⟩
def m4 (P:Program) (n:Nat) (ops:Array Oper):List Oper→Option (List aH)
 | []=>some []
 | o :: r=>match jz P n ops o,m4 P n ops r with
  | some x,some xs=>some (x :: xs)
  | _,_=>none
def yC:List Oper→List (List Nat)→List (List Nat)
 | [],acc=>acc
 | o :: r,acc=>yC r (acc++[((o.after.toList.filter (Region.binds .any)).flatMap fun e=>e.on :: acc.getD e.on []).eraseDups])
def dt:Code→List (List Nat)
 | .region _ ops _=>[ops.toList.flatMap fun o=>o.dst.toList++o.op.operands.toList.filterMap fun | .tmp t=>some t | _=>none]
 | .seq x y=>dt x++dt y
 | .cond (.tmp t) x y=>[t] :: (dt x++dt y)
 | .cond _ x y=>dt x++dt y
 | .block _ x=>dt x
 | .loop x=>dt x
 | .scope x=>dt x
 | _=>[]
def F4 (ls:List (List Nat)) (k:Nat):Bool:=2≤(ls.filter (·.contains k)).length
def p_:List Nat→Bool
 | []=>true
 | x :: r=>!r.contains x&&p_ r
def fe (o:Oper):List Nat:=(o.after.toList.filter (Region.binds .any)).map (·.on)
def Gf (ops:List Oper) (bs:List (List Nat)):Bool :=
 (List.range ops.length).all fun i=>match ops[i]? with
  | none=>false
  | some o=>(fe o).all (fun d=>decide (d<i))&&(bs.getD i []).all (fun d=>(fe o).contains d||(fe o).any fun m=>(bs.getD m []).contains d)
def eA:IV→Bool
 | .s _=>true
 | .c x=>(aF x).isEmpty
def bg (op:eV):Bool :=
 match op with
 | .load _ x | .cvs x | .cvm x=>eA x
 | .store _ x y | .app _ _ x y | .apps _ x y | .cpy _ x y=>eA x&&eA y
 | .call _ args=>args.all eA
 | .mop _ args=>args.all eA
 | _=>true
def C_ (bs:List (List Nat)) (l:List aH):Bool :=
 (List.range l.length).all fun i=>(List.range i).all fun j=>match l[i]?,l[j]? with
  | some x,some y=>(bs.getD i []).contains j ||
    ((match y.dst with | some d=>!(co x).contains d&&x.dst != some d | none=>true)&&(match x.dst with | some d=>!(co y).contains d | none=>true))
  | _,_=>false
def pE (o:aH):Bool:=iU o.op||(match o.op,o.dst with | .call _ _,some _=>true | _,_=>false)
theorem jL {o:aH} (h:iU o.op=true):pE o=true:=by simp [pE,h]
def bR:Nat→List aH→List (Nat×Nat)
 | _,[]=>[]
 | i,o :: r=>if pE o then (o.dst.getD 0,i) :: bR (i+1) r else bR (i+1) r
def gY (l:List Nat):Nat→Nat→Nat
 | 0,k=>k
 | f+1,k=>if l.contains k then gY l f (k+1) else k
def rQ (bs:List (List Nat)):Nat→List aH→List (Nat×List aH)×Nat
 | i,[]=>([],i)
 | i,o :: r=>match rQ bs (i+1) r with
  | ([],m)=>([(i,[o])],min m (gY (bs.getD i []) i 0))
  | ((k,s) :: t,m)=>if i+1≤m then ((i,[o]) :: (k,s) :: t,min m (gY (bs.getD i []) i 0)) else ((i,o :: s) :: t,min m (gY (bs.getD i []) i 0))
def i7 (bs:List (List Nat)) (i n:Nat):List (List Nat):=(List.range n).map fun k=>(bs.getD (i+k) []).filterMap fun d=>if i≤d then some (d - i) else none
def mJ (rb:List (List Nat)) (s:List aH) (dr:List Nat):Option aS :=
 if C_ rb s&&(bR 0 s).all (fun p=>p.1<1000)&&p_ ((bR 0 s).map (·.1))&&s.all (fun o=>bg o.op) then
  some (.draw (s.zipIdx.map fun p=>⟨p.1,rb.getD p.2 []⟩) (bR 0 s) dr) else none
def vy (bs:List (List Nat)) (i:Nat) (s:List aH) (dr:List Nat):Option aS :=
 match s with
 | [o]=>some (.reg [o] dr)
 | s=>mJ (i7 bs i s.length) s dr
def oQ (bs:List (List Nat)) (dr:List Nat):List (Nat×List aH)→Option aS
 | []=>some (.reg [] dr)
 | (i,s) :: t=>match t with
  | []=>vy bs i s dr
  | _ :: _=>match vy bs i s [],oQ bs dr t with
   | some x,some y=>some (.seq x y)
   | _,_=>none
def yH (P:Program) (n:Nat) (ops:Array Oper) (dr:List Nat→List Nat):Option aS :=
 match m4 P n ops ops.toList with
 | none=>none
 | some l=>if Gf ops.toList (yC ops.toList []) then oQ (yC ops.toList []) (dr (l.filterMap (·.dst))) (rQ (yC ops.toList []) 0 l).1 else none
def comp (P:Program) (n:Nat) (sh:List (List Nat)):Code→Option aS
 | .skip=>some .skip
 | .ret=>some .ret
 | .exit id=>some (.exit id)
 | .label _=>some .skip
 | .seq x y=>match comp P n sh x,comp P n sh y with
  | some x,some y=>some (.seq x y)
  | _,_=>none
 | .cond c x y=>match cV c,comp P n sh x,comp P n sh y with
  | some c,some x,some y=>some (.cond c x y)
  | _,_,_=>none
 | .block id x=>(comp P n sh x).map (.block id)
 | .loop x=>(comp P n sh x).map .loop
 | .scope x=>comp P n sh x
 | .region _ ops false=>match m4 P n ops ops.toList with
  | some l=>some (.reg l ((l.filterMap (·.dst)).filter fun k=>!F4 sh k))
  | none=>none
 | .region _ ops true=>yH P n ops (·.filter fun k=>!F4 sh k)
 | _=>none
inductive iK where
 | tmp (k:Nat)
 | cell (k:Nat) (n:Option Nat)
 deriving Inhabited
structure aN where
 n:Nat
 np:Nat
 res:List iK
 body:aS
 deriving Inhabited
def qT (P:Program):List ResultVar→Option (List iK)
 | []=>some []
 | .tmp t :: r=>if t<1000000 then (qT P r).map (.tmp t :: ·) else none
 | .cell a t :: r=>match jv P t,qT P r with
  | some n,some l=>if a<1000000 then some (.cell a n :: l) else none
  | _,_=>none
def nW:List ResultVar→List Nat
 | []=>[]
 | .tmp t :: r=>t :: nW r
 | .cell a _ :: r=>a :: nW r
def ax (P:Program) (f:FuncId):Option aN :=
 match P.funcs[f]? with
 | none=>none
 | some fn=>match fn.body with
  | none=>none
  | some body=>match comp P fn.ntmps (nW fn.results.toList :: dt body) body,qT P fn.results.toList with
   | some b,some rs=>if fn.params.size+fn.nfree≤fn.ntmps∧fn.ntmps≤1000000 then some ⟨fn.ntmps,fn.params.size+fn.nfree,rs,b⟩ else none
   | _,_=>none
section
variable {P:Program} [aX P] {c:je} [CT c P] {a:Act} {w:World} {s:St} {o:Oper} {io:aH} {ops:Array Oper} {n:Nat}
theorem jO (hc:jz P n ops o=some io):fW P o.op=some io.op∧io.dst=o.dst∧(∀k,o.dst=some k→k<n) ∧
  ((o.guard=none∧io.g=none)∨∃j b k,o.guard=some (j,b)∧(ops[j]?).bind (·.dst)=some k∧io.g=some (k,b)):=by
 unfold jz at hc
 split at hc
 case h_2=>cases hc
 rename_i op h1
 have hd:(match o.dst with | some d=>decide (d<n) | none=>true)=true→∀k,o.dst=some k→k<n:=fun h k hk=>by rw [hk] at h;simpa using h
 split at hc
 ·rename_i h2 h3
  cases hc
  exact ⟨h1,rfl,hd h2,.inl ⟨h3,rfl⟩⟩
 ·rename_i j b h2 h3
  split at hc
  case h_2=>cases hc
  rename_i k hk
  cases hc
  exact ⟨h1,rfl,hd h2,.inr ⟨j,b,k,h3,hk,rfl⟩⟩
 ·cases hc
theorem ej {f:FuncId} (hb:bc P f=true) (args:Array Value):(callFunc f args).run P w = .ok (.enter f args) w:=by
 unfold bc at hb
 split at hb
 case h_2=>cases hb
 rename_i fn hf
 simp only [dK,bne_iff_ne] at hb
 obtain ⟨h1,h2⟩:=hb
 have h3:fn.body.isNone=false:=by cases h:fn.body<;>simp_all
 have h4:¬fn.body=none:=fun hn=>by simp [hn] at h1
 simp [callFunc,hf,h2,h4]
theorem ij {f:FuncId} {cargs:List Value} {args:List AV} {d:Option Nat} (hd:∀k,d=some k→k<c.n) {K:St→Prop} {bl:Nat→Option Nat} (hs:aD c bl (get s.env) (ae s.heap) a w)
  (ha:aK (aT bl (aY bl c.MF (ae s.heap)) w) cargs args) (h:kQ P f args d s K) :
  Calls P f cargs.toArray w fun e w'=>∃v,e = .returned v∧∃s',K s'∧bM c s' (a.put d v) w':=by
 rcases h with ⟨args',r,b,hp,hid,hco,hf,hk⟩ | ⟨σ0,Sb,Post,ks,hp,hσ,hks,hk⟩
 ·refine (pn hs hp ha hid b hco hf).mono fun e w' ⟨v,he,hs',hv⟩=>⟨v,he,s.put d r,hk,jn hs' d hd hv (fun _=>rfl) (fun _=>rfl)⟩
 ·refine (nJ hs hp ha hσ ks hks).mono fun e w' ⟨v,r,σ',bl2,he,hP,hs',hv⟩=>?_
  obtain ⟨s',h1,h2,h3⟩:=hk r σ' hP
  exact ⟨v,he,s'.put d r,h3,jn hs' d hd hv h1 h2⟩
theorem i0 {f:FuncId} {cargs:List Value} {args:List AV} {d:Option Nat} (hd:∀k,d=some k→k<c.n) {K:St→Prop} {bl:Nat→Option Nat} (hs:aD c bl (get s.env) (ae s.heap) a w)
  (ha:aK (aT bl (aY bl c.MF (ae s.heap)) w) cargs args) (h:ek P f args d s K) :
  Calls P f cargs.toArray w fun e w'=>∃v,e = .returned v∧∃s',K s'∧bM c s' (a.put d v) w':=by
 rcases h with h | ⟨fs,h⟩ | ⟨s',args',hw,h⟩
 ·exact ij hd hs ha h
 ·obtain ⟨h1,h2⟩:=aD.frzs fs s hs
  exact ij hd h1 (ha.mapRight fun v x hv=>h2 v x hv) h
 ·obtain ⟨bl',h1,h2⟩:=hw c a w bl cargs hs ha
  exact ij hd h1 h2 h
theorem eS {f:FuncId} {args:Array Value} {K:Act→World→Prop} {Q:Exit→Act→World→Prop} (hr:(execOp a.eval o).run P w = .ok (.enter f args) w)
  (h:Calls P f args w fun e w'=>∃v,e = .returned v∧K (a.put o.dst v) w'):o.wp P a w K Q:=by
 unfold Oper.wp
 rw [hr]
 simp only [Oper.upon]
 refine h.mono fun e w' ⟨v,he,hk⟩=>?_
 subst he
 exact hk
theorem kz {v:AV} {e:aP} {K:Act→World→Prop} {Q:Exit→Act→World→Prop} {g:Nat→AV} {h:Nat→Option ah} (hok:aM P c o a w g h v e)
  (hk:∀r w' bl',aD c bl' (e.env g) (e.hp h) a w'→aT bl' (aY bl' c.MF (e.hp h)) w' r v→K (a.put o.dst r) w'):o.wp P a w K Q:=by
 obtain ⟨r,w',bl',hr,h1,h2⟩:=hok
 unfold Oper.wp
 rcases hr with hr | ⟨hr,rfl⟩
 ·rw [hr];exact hk r w' bl' h1 h2
 ·rw [hr];exact hk undef w' bl' h1 h2
theorem fQ {bl:Nat→Option Nat} {g:Nat→AV} {h:Nat→Option ah} (hs:aD c bl g h a w) {cs:Array Operand} {vs:List IV} (hv:yI cs.toList=some vs):aK (aT bl (aY bl c.MF h) w) (cs.map a.eval).toList (vs.map (val g)):=by
 rw [Array.toList_map]
 exact pI hs hv
theorem qS {oo:Op} {f:FuncId} {args:List IV} (h:fW P oo=some (.call f args)):∃cl,oo = .call cl∧cl.callee = .value (.func f)∧bc P f=true∧yI cl.args.toList=some args:=by
 cases oo<;>simp only [fW] at h
 case call cl =>
  unfold oN at h
  split at h
  ·rename_i f' hcl
   split at h
   case isFalse=>obtain ⟨_,_,_,_,_,_,_,_,_,_,_,_,q⟩:=gM h;cases q
   rename_i hb
   simp only [cq] at h
   obtain ⟨vs,hv,h⟩:=h
   cases h
   exact ⟨cl,rfl,hcl,hb,hv⟩
  all_goals
   exfalso
   repeat' (split at h)
   all_goals first
    | (cases h;done)
    | (obtain ⟨_,_,_,_,_,_,_,_,_,_,_,_,q⟩:=gM h;cases q;done)
    | (simp only [cq] at h;obtain ⟨_,_,h⟩:=h;cases h)
 case binOp =>
  split at h
  ·unfold vw at h;repeat' (split at h)
   all_goals cases h
  ·cases h
 case convert =>
  split at h
  ·unfold oP at h
   repeat' (split at h)
   all_goals cases h
  ·cases h
 case makeFunc fn first caps =>
  cases fn<;>simp only [fW] at h<;>try (cases h;done)
  split at h
  ·simp only [cq] at h;obtain ⟨_,_,h⟩:=h;cases h
  ·cases h
 all_goals
  exfalso
  repeat' (split at h)
  all_goals first
   | (cases h;done)
   | (simp only [cq] at h;obtain ⟨_,_,h⟩:=h;cases h;done)
   | (simp_all;done)
theorem vx {oo:Op} {f:IV} {args:List IV} (h:fW P oo=some (.callv f args)):∃cl t,oo = .call cl∧cl.callee = .value (.tmp t)∧f = .s t∧yI cl.args.toList=some args:=by
 cases oo<;>simp only [fW] at h
 case call cl =>
  unfold oN at h
  split at h
  case h_2 =>
   rename_i t hcl
   split at h
   case isFalse=>cases h
   simp only [cq] at h
   obtain ⟨vs,hv,h⟩:=h
   cases h
   exact ⟨cl,t,rfl,hcl,rfl,hv⟩
  all_goals
   exfalso
   repeat' (split at h)
   all_goals first
    | (cases h;done)
    | (obtain ⟨_,_,_,_,_,_,_,_,_,_,_,_,q⟩:=gM h;cases q;done)
    | (simp only [cq] at h;obtain ⟨_,_,h⟩:=h;cases h)
 case binOp =>
  split at h
  ·unfold vw at h;repeat' (split at h)
   all_goals cases h
  ·cases h
 case convert =>
  split at h
  ·unfold oP at h
   repeat' (split at h)
   all_goals cases h
  ·cases h
 case makeFunc fn first caps =>
  cases fn<;>simp only [fW] at h<;>try (cases h;done)
  split at h
  ·simp only [cq] at h;obtain ⟨_,_,h⟩:=h;cases h
  ·cases h
 all_goals
  exfalso
  repeat' (split at h)
  all_goals first
   | (cases h;done)
   | (simp only [cq] at h;obtain ⟨_,_,h⟩:=h;cases h;done)
   | (simp_all;done)
theorem Di {oo:Op} {b:Bool} {x:IV} (h:fW P oo=some (.snl b x)):∃op t y z t' e,oo = .binOp op t y z t'∧P.underlying t=some (.slice e)∧((op = .eql∧b=false)∨(op = .neq∧b=true))∧cV y=some x∧cV z=some (.c .nl):=by
 cases oo<;>simp only [fW] at h
 case binOp op t y z t' =>
  split at h
  case h_2=>cases h
  rename_i yv zv h1 h2
  unfold vw at h
  split at h
  case h_7 =>
   rename_i e ht
   split at h
   ·cases h;exact ⟨_,_,_,_,_,_,rfl,ht,.inl ⟨rfl,rfl⟩,h1,h2⟩
   ·cases h;exact ⟨_,_,_,_,_,_,rfl,ht,.inr ⟨rfl,rfl⟩,h1,h2⟩
   ·cases h
  all_goals
   repeat' (split at h)
   all_goals cases h
 case call cl =>
  unfold oN at h
  exfalso
  repeat' (split at h)
  all_goals first
   | (cases h;done)
   | (obtain ⟨_,_,_,_,_,_,_,_,_,_,_,_,q⟩:=gM h;cases q;done)
   | (simp only [cq] at h;obtain ⟨_,_,h⟩:=h;cases h)
 case convert =>
  split at h
  ·unfold oP at h
   repeat' (split at h)
   all_goals cases h
  ·cases h
 case makeFunc fn first caps =>
  cases fn<;>simp only [fW] at h<;>try (cases h;done)
  split at h
  ·simp only [cq] at h;obtain ⟨_,_,h⟩:=h;cases h
  ·cases h
 all_goals
  exfalso
  repeat' (split at h)
  all_goals first
   | (cases h;done)
   | (simp only [cq] at h;obtain ⟨_,_,h⟩:=h;cases h;done)
   | (simp_all;done)
theorem Dh {oo:Op} {e:TypeId} {st:Nat} {xv yv:IV} (h:fW P oo=some (.app e st xv yv)):∃cl t t' x y,oo = .call cl∧cl.callee = .builtin .append∧cl.argTypes = #[t,t']∧cl.args = #[x,y]∧gK P t=some (e,st) ∧
  (∃e',P.underlying t'=some (.slice e'))∧cV x=some xv∧cV y=some yv:=by
 cases oo<;>simp only [fW] at h
 case call cl =>
  unfold oN at h
  split at h
  case h_6 =>
   rename_i hcl
   split at h
   ·rename_i t t' x y h1 h2
    split at h
    ·rename_i h3 h4 h5 h6
     cases h
     exact ⟨cl,t,t',x,y,rfl,hcl,m1 h1,m1 h2,h3,⟨_,h4⟩,h5,h6⟩
    ·split at h<;>cases h
    ·cases h
   ·cases h
  all_goals
   exfalso
   repeat' (split at h)
   all_goals first
    | (cases h;done)
    | (obtain ⟨_,_,_,_,_,_,_,_,_,_,_,_,q⟩:=gM h;cases q;done)
    | (simp only [cq] at h;obtain ⟨_,_,h⟩:=h;cases h)
 case convert =>
  split at h
  ·unfold oP at h
   repeat' (split at h)
   all_goals cases h
  ·cases h
 case makeFunc fn first caps =>
  cases fn<;>simp only [fW] at h<;>try (cases h;done)
  split at h
  ·simp only [cq] at h;obtain ⟨_,_,h⟩:=h;cases h
  ·cases h
 case binOp =>
  split at h
  ·unfold vw at h
   repeat' (split at h)
   all_goals cases h
  ·cases h
 all_goals
  exfalso
  repeat' (split at h)
  all_goals first
   | (cases h;done)
   | (simp only [cq] at h;obtain ⟨_,_,h⟩:=h;cases h;done)
   | (simp_all;done)
theorem IRel.noC {M:Nat→Prop} {v:Value} {x:AV} (h:IRel M w v x) (i:Nat):mC i x=false:=by cases h<;>rfl
theorem Db {bl:Nat→Option Nat} {g:Nat→AV} {h:Nat→Option ah} (s:aD c bl g h a w) {e:TypeId} {st:Nat} {xv yv:IV} (hc:fW P o.op=some (.app e st xv yv)) {d:Nat} {x:AV} {ef:aP} (he:jx d e st (val g xv) (iJ st h (val g yv)) h=some (x,ef))
  (hnew:h d=none∧bP d g h∧(d<1000∨2000≤d)):aM P c o a w g h x ef:=by
 obtain ⟨cl,t,t',xo,yo,ho,h1,h2,h3,h4,h5,h6,h7⟩:=Dh hc
 unfold jx at he
 split at he
 case h_1=>cases he
 rename_i ys hys
 split at he
 case isFalse=>cases he
 rename_i hbig
 obtain ⟨vs,hs,hy⟩:=n_ (P:=P) s h7 hys (q:=true) (fun _=>rfl)
 have hne:ys≠[]:=fun q=>by rw [q] at hbig;simp at hbig
 split at he
 ·rename_i hv
  cases he
  refine nK (q:=true) s ho h1 h2 h3 h4 (.inl h5) h6 hv hs hy hbig.1 hnew.1 hnew.2.1 hnew.2.2 (fun _=>⟨hne,fun r hr x hx=>?_⟩)
  cases hrq:k7 h (val g yv) with
  | false =>
   obtain ⟨vs,_,hy⟩:=n_ (P:=P) s h7 hys (q:=false) (fun q=>by rw [hrq] at q;exact q)
   obtain ⟨i,hi⟩:=List.getElem?_of_mem hr
   obtain ⟨j,hj⟩:=List.getElem?_of_mem hx
   obtain ⟨v,_,hv⟩:=hy.2.2 i j r x hi hj
   exact IRel.noC hv d
  | true =>
   generalize val g yv=Y at hrq hys
   cases Y<;>simp only [k7] at hrq<;>try cases hrq
   rename_i id st' off len
   simp only [iJ] at hys
   split at hys
   case h_2=>cases hys
   rename_i ob hob
   split at hys
   case isFalse=>cases hys
   cases hys
   rw [hob] at hrq
   exact hnew.2.1.2 id ob hob hrq r (List.mem_of_mem_drop (List.mem_of_mem_take hr)) x hx
 ·rename_i id st' off len hv
  split at he
  case h_2=>cases he
  rename_i ob hob
  split at he
  case isFalse=>cases he
  rename_i hcond
  obtain ⟨rfl,q2,q3,rfl,q6,q7,q8,q9,q10⟩:=hcond
  cases he
  exact nL (q:=true) s ho h1 h2 h3 h4 (.inl h5) h6 hv hob q2 q3 q6 q8 q9 hs (fun _=>rfl) hy hbig.1 q7 (fun _=>⟨fun q=>hne (List.append_eq_nil_iff.1 q).2,pj q10⟩)
 ·cases he
theorem wu (hc:jz P n ops o=some io) (hn:c.n=n) {K:St→Prop} (h:eF P io s K) (hs:bM c s a w) (Q:Exit→Act→World→Prop) :
  o.wp P a w (fun a' w'=>∃s',K s'∧bM c s' a' w') Q:=by
 obtain ⟨h1,h2,h3,_⟩:=jO hc
 obtain ⟨bl,hs⟩:=hs
 have hd:∀k,io.dst=some k→k<c.n:=fun k hk=>by rw [hn];exact h3 k (h2▸hk)
 have plain:∀{s:St} {bl:Nat→Option Nat},aD c bl (get s.env) (ae s.heap) a w→(iU io.op=true→ae s.heap (io.dst.getD 0)=none∧bP (io.dst.getD 0) (get s.env) (ae s.heap)∧(io.dst.getD 0<1000∨2000≤io.dst.getD 0)) →
   (match bh (io.dst.getD 0) io.op (val (get s.env)) (ae s.heap) with
    | some (v,e)=>K ((s.eff e).put io.dst v)
    | none=>False)→o.wp P a w (fun a' w'=>∃s',K s'∧bM c s' a' w') Q:=by
  intro s bl hs hnew hm
  split at hm
  case h_2=>exact hm.elim
  rename_i v e he
  refine kz (sm hs h1 he hnew) (fun r w' bl' q1 q2=>⟨_,hm,?_⟩)
  rw [← h2]
  exact jn q1 io.dst hd q2 (pQ s e) (nt s e)
 unfold eF at h
 split at h
 ·rename_i f args hop
  rw [hop] at h1
  obtain ⟨cl,hoo,hcl,hb,hv⟩:=qS h1
  refine eS (f:=f) (args:=cl.args.map a.eval) ?_ ?_
  ·have:=ej (w:=w) hb (cl.args.map a.eval)
   simp [execOp,hoo,resolve,hcl,Act.eval,Deferred.ofValue,invoke,this]
  ·have:=i0 hd hs (fQ hs hv) h
   simp only [Array.toArray_toList] at this
   rw [← h2]
   exact this
 ·rename_i f args hop
  rw [hop] at h1
  obtain ⟨cl,t,hoo,hcl,rfl,hv⟩:=vx h1
  split at h
  case h_2=>exact h.elim
  rename_i f caps hval
  have hf:=hs.env t
  simp only [val] at hval
  rw [hval] at hf
  obtain ⟨cs,hf1,hf2⟩:=hf
  have hev:a.eval (.tmp t) = .func (.func (F1 f)) (cs.take (DE f)).toArray (cs.drop (DE f)).toArray:=by
   rw [(ql (a:=a) (k:=t) (fun b hb=>by rw [hb] at hf1;cases hf1)).2] at hf1
   exact hf1
  have lift:∀{vs:List Value} {xs:List AV},aK (cL bl (aY bl c.MF (ae s.heap)) w) vs xs→aK (aT bl (aY bl c.MF (ae s.heap)) w) vs xs:=fun hr=>hr.mono fun _ x _ hr=>(show aT bl (aY bl c.MF (ae s.heap)) w _ x from by
    cases x<;>first | exact hr | trivial | (exfalso;simp only [cL] at hr;cases hr))
  by_cases hlt:f<4000000
  ·rw [bz hlt] at h
   have eI:F1 f=f:=bz hlt
   have eK:DE f=0:=bz hlt
   rw [eI,eK] at hev
   simp only [bE,List.drop_zero] at hev
   obtain ⟨hb,h⟩:=h
   refine eS (f:=f) (args:=cl.args.map a.eval++cs.toArray) ?_ ?_
   ·have:=ej (w:=w) hb (cl.args.map a.eval++cs.toArray)
    simp [execOp,hoo,resolve,hcl,hev,Deferred.ofValue,invoke,this]
   ·have hargs:=(fQ hs hv).append (lift hf2)
    have:=i0 hd hs hargs h
    have e1:((cl.args.map a.eval).toList++cs).toArray=cl.args.map a.eval++cs.toArray:=by apply Array.toList_inj.1;simp
    rw [e1] at this
    rw [← h2]
    exact this
  ·rw [aV hlt] at h
   have eI:F1 f=f - 4000000:=aV hlt
   have eK:DE f=1:=aV hlt
   rw [eI,eK] at hev
   obtain ⟨hb,h⟩:=h
   refine eS (f:=f - 4000000) (args:=(cs.take 1).toArray++cl.args.map a.eval++(cs.drop 1).toArray) ?_ ?_
   ·generalize (cs.take 1).toArray=A1 at hev ⊢
    generalize (cs.drop 1).toArray=A2 at hev ⊢
    have:=ej (w:=w) hb (A1++cl.args.map a.eval++A2)
    rw [Array.append_assoc] at this
    simp [execOp,hoo,resolve,hcl,hev,Deferred.ofValue,invoke,this]
   ·have hargs:=((lift (hf2.take 1)).append (fQ hs hv)).append (lift (hf2.drop 1))
    have:=i0 hd hs hargs h
    have e1:((cs.take 1++(cl.args.map a.eval).toList)++cs.drop 1).toArray=(cs.take 1).toArray++cl.args.map a.eval++(cs.drop 1).toArray:=by apply Array.toList_inj.1;simp
    rw [e1] at this
    rw [← h2]
    exact this
 ·rename_i t st rows ps hop
  obtain ⟨hlt,h⟩:=h
  have go:∀{s:St} {bl:Nat→Option Nat},aD c bl (get s.env) (ae s.heap) a w→rC io s K→o.wp P a w (fun a' w'=>∃s',K s'∧bM c s' a' w') Q:=fun {s bl} hs hm=>by
   obtain ⟨bl',hk⟩:=bM.kill (i:=io.dst.getD 0) ⟨bl,hs⟩
   exact plain hk (fun _=>⟨(bV s _).1,(bV s _).2,.inl hlt⟩) hm
  split at h
  ·rename_i v e he
   refine go hs ?_
   unfold rC
   have e2:bh (io.dst.getD 0) io.op (val (get (s.kill (io.dst.getD 0)).env)) (ae (s.kill (io.dst.getD 0)).heap)=some (v,e):=by
    rw [hop]
    simp only [bh]
    unfold sq at he
    split at he
    ·rename_i hr
     rw [hr]
     exact he
    ·cases he
   rw [e2]
   exact h
  ·obtain ⟨s',hw,h⟩:=h
   obtain ⟨bl',hs'⟩:=hw c a w ⟨bl,hs⟩
   exact go hs' h
 ·rename_i t st x y hop
  obtain ⟨hlt,h⟩:=h
  obtain ⟨bl',hk⟩:=bM.kill (i:=io.dst.getD 0) ⟨bl,hs⟩
  have hR:(match jx (io.dst.getD 0) t st (val (get (s.kill (io.dst.getD 0)).env) x) (iJ st (ae (s.kill (io.dst.getD 0)).heap) (val (get (s.kill (io.dst.getD 0)).env) y)) (ae (s.kill (io.dst.getD 0)).heap) with
   | some (v,e)=>K (((s.kill (io.dst.getD 0)).eff e).put io.dst v)
   | none=>False)→o.wp P a w (fun a' w'=>∃s',K s'∧bM c s' a' w') Q:=fun hm=>by
   split at hm
   case h_2=>exact hm.elim
   rename_i v e he
   refine kz (Db hk (hop▸h1) he ⟨(bV s _).1,(bV s _).2,.inl hlt⟩) (fun r w' bl' q1 q2=>⟨_,hm,?_⟩)
   rw [← h2]
   exact jn q1 io.dst hd q2 (pQ _ e) (nt _ e)
  unfold jB at h
  split at h
  ·exact hR h
  ·split at h
   ·exact hR h
   ·rw [← hop] at h
    exact plain hk (fun _=>⟨(bV s _).1,(bV s _).2,.inl hlt⟩) h
 ·rename_i b x hop
  obtain ⟨op,t,y,z,t',e,hoo,ht,hb,hx,hy⟩:=Di (hop▸h1)
  have kk:∀{v:AV},aM P c o a w (get s.env) (ae s.heap) v .no→K (s.put io.dst v)→o.wp P a w (fun a' w'=>∃s',K s'∧bM c s' a' w') Q:=fun {v} hok hk=>by
   refine kz hok (fun r w' bl' q1 q2=>⟨_,hk,?_⟩)
   rw [← h2]
   exact jn q1 io.dst hd q2 (fun _=>rfl) (fun _=>rfl)
  split at h
  ·rename_i st hv
   have h5:=aJ hs hx
   rw [hv] at h5
   have hy2:a.eval z = .slice none 0 0:=(aJ hs hy).nl
   generalize hu:a.eval y=u at h5
   have h6:=h5.sl
   have fin:∀{ad n cap},a.eval y = .slice ad n cap→o.wp P a w (fun a' w'=>∃s',K s'∧bM c s' a' w') Q:=fun {ad n cap} h7=>by
    refine kk (v:=.bool (if ad.isNone then !b else b)) (aM.pure hs (r:=.bool _) (uM hoo ht hb h7 hy2) (f7 _)) ?_
    cases ad
    ·exact h.2
    ·exact h.1
   cases h6<;>exact fin hu
  ·split at h
   case h_2=>exact h.elim
   rename_i v hv
   exact kk (sZ hs hoo ht hb hx hy hv) h
 ·split at h
  ·rename_i hal
   obtain ⟨hlt,h⟩:=h
   obtain ⟨bl',hk⟩:=bM.kill (i:=io.dst.getD 0) ⟨bl,hs⟩
   exact plain hk (fun _=>⟨(bV s _).1,(bV s _).2,.inl hlt⟩) h
  ·rename_i hal
   exact plain hs (fun h=>absurd h hal) h
theorem jH {bl:Nat→Option Nat} {M:Nat→Prop} {j k:Nat} (hj:(ops[j]?).bind (·.dst)=some k) (hk:aT bl M w (tv a k) (.tup [])):yielded ops a.tmps j=none:=by
 obtain ⟨cs,h1,h2⟩:=hk
 rw [(ql (a:=a) (k:=k) (fun b hb=>by rw [hb] at h1;cases h1)).2] at h1
 have hcs:cs=[]:=by cases cs with | nil=>rfl | cons=>exact h2.elim
 subst hcs
 have:∀b,a.tmps[k]?≠some (.bool b):=fun b hb=>by
  rw [iP,hb] at h1
  cases h1
 unfold yielded
 rw [hj]
 show (match a.tmps[k]? with | some (.bool b)=>some b | _=>none)=none
 generalize a.tmps[k]? = x at this
 cases x with
 | none=>rfl
 | some v=>cases v<;>first | rfl | exact absurd rfl (this _)
theorem jT (hn:c.n=n) (Q:Exit→Act→World→Prop) {o:Oper} {io:aH} (h1:jz P n ops o=some io) {il:List aH} {K:St→Prop} {KK:Act→World→Prop} {s:St} {a:Act} {w:World} (h:ee P (io :: il) s K) (hs:bM c s a w)
  (hK:∀s' a' w',ee P il s' K→bM c s' a' w'→KK a' w'):if Region.wanted o (yielded ops a.tmps) then o.wp P a w KK Q∨(o.asks P a w∧LetsOut Q) else KK (a.put o.dst undef) w:=by
 obtain ⟨_,hdst,hdn,hg⟩:=jO h1
 have run:∀{s:St},eF P io s (fun s'=>ee P il s' K)→bM c s a w→o.wp P a w KK Q:=fun {s} h hs =>
  Oper.wp_mono (fun a' w' ⟨s',h3,h4⟩=>hK s' a' w' h3 h4) (wu h1 hn h hs Q)
 rcases hg with ⟨g1,g2⟩ | ⟨j,b,k,g1,g2,g3⟩
 ·rw [bz (by simp [Region.wanted,g1])]
  simp only [ee,g2] at h
  exact .inl (run h hs)
 ·simp only [ee,g3] at h
  split at h
  case h_3=>exact h.elim
  case h_2 =>
   rename_i hv
   obtain ⟨bl,hsb⟩:=hs
   have hk:=hsb.env k
   rw [hv] at hk
   have hy:=jH (ops:=ops) g2 hk
   rw [aV (by simp [Region.wanted,g1,hy])]
   refine hK _ _ w h ?_
   rw [← hdst]
   exact rP ⟨bl,hsb⟩ io.dst (fun q hq=>by rw [hn];exact hdn q (hdst▸hq)) ()
  rename_i t hv
  obtain ⟨bl,hsb⟩:=hs
  have hk:=hsb.env k
  rw [hv] at hk
  have hkv:=hk.bool
  rw [(ql (a:=a) (k:=k) (fun b hb=>by rw [hb] at hkv;cases hkv)).2] at hkv
  have hkn:k<a.tmps.size:=by
   rcases cB k a.tmps.size with hlt | hge
   ·exact hlt
   ·rw [iP,Array.getElem?_eq_none hge] at hkv
    cases hkv
  have hy:yielded ops a.tmps j=some t:=by
   have:a.tmps[k]? = some (.bool t):=by
    rw [iP,kD hkn] at hkv
    rw [kD hkn]
    simpa using hkv
   simp [yielded,g2,this]
  have hput:∀q:Bool,t=q→bM c (s.put (some k) (.bool q)) a w:=fun q hq=>by
   refine ⟨bl,hsb.congr (fun i=>?_) (fun i=>rfl)⟩
   simp only [St.put,get,ig]
   by_cases hik:k=i
   ·subst hik;simp [hv,hq]
   ·have hik':¬i=k:=fun e=>hik e.symm
    simp [hik,hik']
  by_cases htb:t=b
  ·rw [bz (by simp [Region.wanted,g1,hy,htb])]
   exact .inl (run (h.1 htb) (hput b htb))
  ·have htb':t = !b:=by cases t<;>cases b<;>simp_all
   rw [aV (by simp [Region.wanted,g1,hy,htb])]
   refine hK _ _ w (h.2 htb') ?_
   rw [← hdst]
   exact rP (hput _ htb') io.dst (fun q hq=>by rw [hn];exact hdn q (hdst▸hq)) ()
theorem ny (hn:c.n=n) (Q:Exit→Act→World→Prop):∀(l:List Oper) (il:List aH),m4 P n ops l=some il→∀(s:St) (K:St→Prop) (a:Act) (w:World),ee P il s K→bM c s a w →
  (∀s' a' w',K s'→bM c s' a' w'→Q .normal a' w')→wpList P ops Q l a w
 | [],il,hc,s,K,a,w,h,hs,hQ=>by
  simp only [m4,bO] at hc
  subst hc
  exact hQ s a w h hs
 | o :: r,il,hc,s,K,a,w,h,hs,hQ=>by
  simp only [m4] at hc
  split at hc
  case h_2=>cases hc
  rename_i io il' h1 h2
  cases hc
  unfold wpList
  exact jT hn Q h1 h hs fun s' a' w' h3 h4=>ny hn Q r il' h2 s' K a' w' h3 h4 hQ
end
section
variable {g g':Nat→AV} {h h':Nat→Option ah}
theorem fS {v:IV} (hg:∀k∈aL v,g' k=g k):val g' v=val g v:=by
 cases v with
 | s k=>exact hg k (by simp [aL])
 | c x=>rfl
theorem iz {l:List IV} (hg:∀v∈l,∀k∈aL v,g' k=g k):l.map (val g')=l.map (val g):=List.map_congr_left fun v hv=>fS (hg v hv)
theorem wJ {v:Option IV} (hg:∀x,v=some x→∀k∈aL x,g' k=g k):v.map (val g')=v.map (val g):=by
 cases v with
 | none=>rfl
 | some x=>simp only [dM];rw [fS (hg x rfl)]
theorem gh (id st off len:Nat):aF (.ms id st off len)=[id]:=rfl
theorem pU (id st row off:Nat):aF (.mp id st row off)=[id]:=rfl
theorem qD {n:Option Nat} {p:AV} (hh:∀id∈aF p,h' id=h id):fJ n p h'=fJ n p h:=by
 cases p<;>try rfl
 simp only [fJ]
 rw [hh _ (by simp [pU])]
theorem pD {n:Nat} {p x:AV} (hh:∀id∈aF p,h' id=h id):eL n p x h'=eL n p x h:=by
 unfold eL
 split
 ·rename_i id st row off cs h1
  rw [hh id (by simp [pU])]
 ·rfl
theorem i9 {st:Nat} {x:AV} (hh:∀id∈aF x,h' id=h id):dv st h' x=dv st h x:=by
 cases x<;>try rfl
 simp only [dv]
 rw [hh _ (by simp [gh])]
theorem mW {d:Nat} {t:TypeId} {st:Nat} {x:AV} {src:Option (List (List AV))} (hh:∀id∈aF x,h' id=h id):g_ d t st x src h'=g_ d t st x src h:=by
 unfold g_
 cases src with
 | none=>rfl
 | some ys =>
  cases x<;>try rfl
  simp only
  rw [hh _ (by simp [gh])]
theorem sf {st:Nat} {x:AV} {src:Option (List (List AV))} (hh:∀id∈aF x,h' id=h id):lZ st x src h'=lZ st x src h:=by
 unfold lZ
 cases src with
 | none=>rfl
 | some ys =>
  cases x<;>try rfl
  simp only
  rw [hh _ (by simp [gh])]
theorem sg {x:AV} (hh:∀id∈aF x,h' id=h id):pz x h'=pz x h:=by
 unfold pz
 cases x<;>try rfl
 simp only
 rw [hh _ (by simp [gh])]
theorem sj {d:Nat} {k:MK} {xs:List AV} (hh:∀x∈xs,∀id∈aF x,h' id=h id):er d k xs h'=er d k xs h:=by
 have hm:∀{id:Nat} {b:Bool} {r:List AV},xs = .mm id b :: r→h' id=h id:=fun {id b r} hx=>hh (.mm id b) (by rw [hx];simp) id (by simp [aF,fk,bU,cG])
 unfold er
 split<;>first | rfl | (rw [hm rfl])
theorem pB {ps:List (Nat×Nat×IV)} (hg:∀p∈ps,∀k∈aL p.2.2,g' k=g k):∀cells,fA (val g') cells ps=fA (val g) cells ps:=by
 induction ps with
 | nil=>intro cells;rfl
 | cons p r ih =>
  intro cells
  obtain ⟨off,n,v⟩:=p
  have hv:val g' v=val g v:=fS (hg (off,n,v) (by simp))
  simp only [fA,hv]
  cases du (val g v) with
  | none=>rfl
  | some cs=>simp only [ih (fun p hp=>hg p (by simp [hp]))]
theorem qN {st:Nat} {ps:List (Nat×IV)} (hg:∀p∈ps,∀k∈aL p.2,g' k=g k):∀rows,gJ (val g') st rows ps=gJ (val g) st rows ps:=by
 induction ps with
 | nil=>intro cells;rfl
 | cons p r ih =>
  intro cells
  obtain ⟨off,v⟩:=p
  have hv:val g' v=val g v:=fS (hg (off,v) (by simp))
  simp only [gJ,hv]
  cases du (val g v) with
  | none=>rfl
  | some cs=>simp only [ih (fun p hp=>hg p (by simp [hp]))]
theorem pC {st:Nat} {ps:List (Nat×IV)} (hg:∀p∈ps,∀k∈aL p.2,g' k=g k):∀rows,dY (val g') st rows ps=dY (val g) st rows ps:=by
 induction ps with
 | nil=>intro cells;rfl
 | cons p r ih =>
  intro cells
  obtain ⟨off,v⟩:=p
  have hv:val g' v=val g v:=fS (hg (off,v) (by simp))
  simp only [dY,hv]
  cases du (val g v) with
  | none=>rfl
  | some cs=>simp only [ih (fun p hp=>hg p (by simp [hp]))]
theorem uh {v:IV} {S:List Nat} (hsub:∀k∈aL v,k∈S) (hh:∀k∈S,∀id∈aF (g k),h' id=h id) (hc:∀x,v = .c x→aF x=[]):∀id∈aF (val g v),h' id=h id:=by
 cases v with
 | s k=>intro id hid;exact hh k (hsub k (by simp [aL])) id hid
 | c x=>intro id hid;rw [show val g (.c x)=x from rfl,hc x rfl] at hid;cases hid
theorem dx {v:IV} (h:eA v=true):∀x,v = .c x→aF x=[]:=by
 rintro x rfl
 simpa [eA] using h
theorem vj {d:Nat} {op:eV} (hg:∀k∈ao op,g' k=g k) (hh:∀k∈ao op,∀id∈aF (g k),h' id=h id) (hc:bg op=true):bh d op (val g') h'=bh d op (val g) h:=by
 have v1:∀{v:IV},(∀k∈aL v,k∈ao op)→val g' v=val g v:=fun hs=>fS fun k hk=>hg k (hs k hk)
 have vo:∀{v:Option IV},(∀x,v=some x→∀k∈aL x,k∈ao op)→v.map (val g')=v.map (val g):=fun hs=>wJ fun x hx k hk=>hg k (hs x hx k hk)
 have hp:∀{v:IV},(∀k∈aL v,k∈ao op)→(∀x,v = .c x→aF x=[])→∀id∈aF (val g v),h' id=h id:=fun hs hc=>uh hs hh hc
 cases op with
 | mov x=>simp only [bh];rw [v1 (fun k hk=>by simp only [ao];exact hk)]
 | pick c a b =>
  simp only [bh]
  rw [v1 (v:=c) (fun k hk=>by simp only [ao,dw];simp [hk]),v1 (v:=a) (fun k hk=>by simp only [ao,dw];simp [hk]),v1 (v:=b) (fun k hk=>by simp only [ao,dw];simp [hk])]
 | new t cs=>rfl
 | box t n x=>simp only [bh];rw [v1 (fun k hk=>by simp only [ao];exact hk)]
 | build cs ps =>
  simp only [bh]
  rw [pB (fun p hp k hk=>hg k (by simp only [ao,gF];exact ⟨p,hp,hk⟩))]
 | bsl t st rows ps =>
  simp only [bh]
  have hl:∀p∈ps,∀k∈aL p.2,g' k=g k:=fun p hp k hk=>hg k (by simp only [ao,gF];exact ⟨p,hp,hk⟩)
  rw [qN hl,pC hl]
 | load n p =>
  have hs:∀k∈aL p,k∈ao (.load n p):=fun k hk=>by simp only [ao];exact hk
  simp only [bh]
  rw [v1 hs,qD (hp hs (dx hc))]
 | store n p x =>
  simp only [bg,dK] at hc
  have hs:∀k∈aL p,k∈ao (.store n p x):=fun k hk=>by simp only [ao,dw];simp [hk]
  have hs2:∀k∈aL x,k∈ao (.store n p x):=fun k hk=>by simp only [ao,dw];simp [hk]
  simp only [bh]
  rw [v1 hs,v1 hs2,pD (hp hs (dx hc.1))]
 | fadr off p=>simp only [bh];rw [v1 (fun k hk=>by simp only [ao];exact hk)]
 | fld off n x=>simp only [bh];rw [v1 (fun k hk=>by simp only [ao];exact hk)]
 | iadr st x i =>
  simp only [bh]
  rw [v1 (v:=x) (fun k hk=>by simp only [ao,dw];simp [hk]),v1 (v:=i) (fun k hk=>by simp only [ao,dw];simp [hk])]
 | aadr st n x i =>
  simp only [bh]
  rw [v1 (v:=x) (fun k hk=>by simp only [ao,dw];simp [hk]),v1 (v:=i) (fun k hk=>by simp only [ao,dw];simp [hk])]
 | mnx m x y =>
  simp only [bh]
  rw [v1 (v:=x) (fun k hk=>by simp only [ao,dw];simp [hk]),v1 (v:=y) (fun k hk=>by simp only [ao,dw];simp [hk])]
 | cpy st x y =>
  simp only [bg,dK] at hc
  have hs:∀k∈aL x,k∈ao (.cpy st x y):=fun k hk=>by simp only [ao,dw];simp [hk]
  have hs2:∀k∈aL y,k∈ao (.cpy st x y):=fun k hk=>by simp only [ao,dw];simp [hk]
  simp only [bh]
  rw [v1 hs,v1 hs2,i9 (hp hs2 (dx hc.2)),sf (hp hs (dx hc.1))]
 | cvm x =>
  have hs:∀k∈aL x,k∈ao (.cvm x):=fun k hk=>by simp only [ao];exact hk
  simp only [bh]
  rw [v1 hs,sg (hp hs (dx hc))]
 | sib x y =>
  simp only [bh]
  rw [v1 (v:=x) (fun k hk=>by simp only [ao,dw];simp [hk]),v1 (v:=y) (fun k hk=>by simp only [ao,dw];simp [hk])]
 | mop k xs =>
  simp only [bg,de] at hc
  have hs:∀x∈xs,∀k'∈aL x,k'∈ao (.mop k xs):=fun x hx k' hk=>by simp only [ao,gF];exact ⟨x,hx,hk⟩
  have e1:xs.map (val g')=xs.map (val g):=List.map_congr_left fun x hx=>v1 (hs x hx)
  simp only [bh]
  rw [e1]
  exact sj fun y hy id hid=>by
   obtain ⟨x,hx,rfl⟩:=List.mem_map.1 hy
   exact hp (hs x hx) (dx (hc x hx)) id hid
 | slc st x lo hi mx =>
  have e:∀{v:Option IV} {k:Nat},k∈eX v↔∃x,v=some x∧k∈aL x:=by
   intro v k
   cases v<;>simp [eX]
  simp only [bh]
  rw [v1 (v:=x) (fun k hk=>by simp only [ao,dw];simp [hk]),vo (v:=lo) (fun y hy k hk=>by simp only [ao,dw];exact .inl (.inl (.inr (e.2 ⟨y,hy,hk⟩)))),
   vo (v:=hi) (fun y hy k hk=>by simp only [ao,dw];exact .inl (.inr (e.2 ⟨y,hy,hk⟩))),vo (v:=mx) (fun y hy k hk=>by simp only [ao,dw];exact .inr (e.2 ⟨y,hy,hk⟩))]
 | len x=>simp only [bh];rw [v1 (fun k hk=>by simp only [ao];exact hk)]
 | app t st x y =>
  simp only [bg,dK] at hc
  have hs:∀k∈aL x,k∈ao (.app t st x y):=fun k hk=>by simp only [ao,dw];simp [hk]
  have hs2:∀k∈aL y,k∈ao (.app t st x y):=fun k hk=>by simp only [ao,dw];simp [hk]
  simp only [bh]
  rw [v1 hs,v1 hs2,i9 (hp hs2 (dx hc.2)),mW (hp hs (dx hc.1))]
 | slen x=>simp only [bh];rw [v1 (fun k hk=>by simp only [ao];exact hk)]
 | sslc x lo hi =>
  have e:∀{v:Option IV} {k:Nat},k∈eX v↔∃x,v=some x∧k∈aL x:=by
   intro v k
   cases v<;>simp [eX]
  simp only [bh]
  rw [v1 (v:=x) (fun k hk=>by simp only [ao,dw];simp [hk]),vo (v:=lo) (fun y hy k hk=>by simp only [ao,dw];exact .inl (.inr (e.2 ⟨y,hy,hk⟩))),
   vo (v:=hi) (fun y hy k hk=>by simp only [ao,dw];exact .inr (e.2 ⟨y,hy,hk⟩))]
 | apps t x y =>
  simp only [bg,dK] at hc
  have hs:∀k∈aL x,k∈ao (.apps t x y):=fun k hk=>by simp only [ao,dw];simp [hk]
  have hs2:∀k∈aL y,k∈ao (.apps t x y):=fun k hk=>by simp only [ao,dw];simp [hk]
  simp only [bh]
  rw [v1 hs,v1 hs2,mW (hp hs (dx hc.1))]
 | bin op x y =>
  simp only [bh]
  rw [v1 (v:=x) (fun k hk=>by simp only [ao,dw];simp [hk]),v1 (v:=y) (fun k hk=>by simp only [ao,dw];simp [hk])]
 | bbin op x y =>
  simp only [bh]
  rw [v1 (v:=x) (fun k hk=>by simp only [ao,dw];simp [hk]),v1 (v:=y) (fun k hk=>by simp only [ao,dw];simp [hk])]
 | pbin op x y =>
  simp only [bh]
  rw [v1 (v:=x) (fun k hk=>by simp only [ao,dw];simp [hk]),v1 (v:=y) (fun k hk=>by simp only [ao,dw];simp [hk])]
 | sbin op ls x y =>
  simp only [bh]
  rw [v1 (v:=x) (fun k hk=>by simp only [ao,dw];simp [hk]),v1 (v:=y) (fun k hk=>by simp only [ao,dw];simp [hk])]
 | un op x=>simp only [bh];rw [v1 (fun k hk=>by simp only [ao];exact hk)]
 | cvi k' x=>simp only [bh];rw [v1 (fun k hk=>by simp only [ao];exact hk)]
 | cvs x =>
  have hs:∀k∈aL x,k∈ao (.cvs x):=fun k hk=>by simp only [ao];exact hk
  simp only [bh]
  rw [v1 hs,i9 (hp hs (dx hc))]
 | cvt x=>simp only [bh];rw [v1 (fun k hk=>by simp only [ao];exact hk)]
 | cvb t x=>simp only [bh];rw [v1 (fun k hk=>by simp only [ao];exact hk)]
 | call f args=>rfl
 | callv f args=>rfl
 | snl b x=>simp only [bh];rw [v1 (fun k hk=>by simp only [ao];exact hk)]
 | ext x i=>simp only [bh];rw [v1 (fun k hk=>by simp only [ao];exact hk)]
 | nchk x=>simp only [bh];rw [v1 (fun k hk=>by simp only [ao];exact hk)]
 | mkf f caps =>
  simp only [bh]
  rw [iz (fun v hv k hk=>hg k (by simp only [ao,gF];exact ⟨v,hv,hk⟩))]
 | sidx x i =>
  simp only [bh]
  rw [v1 (v:=x) (fun k hk=>by simp only [ao,dw];simp [hk]),v1 (v:=i) (fun k hk=>by simp only [ao,dw];simp [hk])]
 | mks t st z x y =>
  simp only [bh]
  rw [v1 (v:=x) (fun k hk=>by simp only [ao,dw];simp [hk]),v1 (v:=y) (fun k hk=>by simp only [ao,dw];simp [hk])]
theorem oT {b:Bool}:∀{l l':List AV},(∀x∈l,∀id∈aF x,h' id=h id)→aK (B_ b h) l l'→aK (B_ b h') l l'
 | [],[],_,_=>trivial
 | x :: l,x' :: l',hh,hc=>⟨by
   rcases hc.1 with h1 | h1 | ⟨hb,id,st,off,len,o,h1,h2,h3⟩
   ·exact .inl h1
   ·exact .inr (.inl h1)
   ·refine .inr (.inr ⟨hb,id,st,off,len,o,h1,?_,h3⟩)
    rw [hh x (by simp) id (by rw [h1];simp [gh])]
    exact h2,oT (fun y hy=>hh y (by simp [hy])) hc.2⟩
 | [],_ :: _,_,hc=>hc.elim
 | _ :: _,[],_,hc=>hc.elim
end
def dg (g:Nat→AV) (d:Option Nat) (x:AV):Nat→AV :=
 match d with
 | some d=>cI g d x
 | none=>g
def RJ (d:Nat) (op:eV) (ρ:IV→AV) (h:Nat→Option ah) (v:AV) (e:aP):Prop:=e = .no∧iU op=true∧∃t st rows,v = .sl st rows∧bh d op ρ h=some (.ms d st 0 rows.length,.new d ⟨t,st,rows,false⟩)
def iF:eV→Bool
 | .mov _=>true
 | _=>false
def qs (P:Program) [aX P] (o:aH) (g:Nat→AV) (h:Nat→Option ah) (v:AV) (e:aP):Prop :=
 match o.op with
 | .call f args=>(e = .no∧aF v=[]∧∃args' b,aj P f args' v∧(∀x∈args',aF x=[])∧aK (B_ b h) (args.map (val g)) args'∧(b=true→lO v=true)) ∨
   (∃k ob ob' Sb,e = .put k ob'∧aF v=[]∧br P f (args.map (val g)) [(k,ob)] Sb (fun r' σ'=>r'=v∧σ'=[(k,ob')])∧Sb k∧h k=some ob∧∃q∈ao o.op,k∈aF (g q)) ∨
   ∃d ob st off len Sb,o.dst=some d∧e = .new d ob∧v = .ms d st off len∧ob.isRec=false∧br P f (args.map (val g)) [] Sb (fun r' σ'=>r'=v∧σ'=[(d,ob)])
 | .callv _ _=>False
 | op=>bh (o.dst.getD 0) op (val g) h=some (v,e)∨RJ (o.dst.getD 0) op (val g) h v e
structure Fin (P:Program) [aX P] (o:aH) (g:Nat→AV) (h:Nat→Option ah) (v:AV) (e:aP) (x:HI) (g':Nat→AV) (h':Nat→Option ah):Prop where
 run:qs P o g h v e
 known:∀k∈ao o.op,g k≠.any
 opnd:∀k∈ao o.op,∀id∈aF (g k),id∈x.op∨(iF o.op=true∧id∈x.res)
 alone:¬(x.rb=true∧x.wr=true)→∀i o',e = .reb i o'→∀j q,h j=some q→i∉cU q
 fresh:∀i o',e = .new i o'→h i=none
 res:∀d,d∈aF v∨d∈e.ids→d∈x.res
 tch:x.tch=e.tch
 rb:x.rb=e.isReb
 wr:x.wr=e.isPut∨(x.rb=true∧x.wr=true)
 hg:g'=dg (e.env g) o.dst v
 hh:h'=e.hp h
 ld:x.ld = .ld→(∃n p,o.op = .load n p)∨(∃n p,o.op = .fadr n p)∨∃p,o.op = .len p
def dh (P:Program) [aX P] (o:aH) (g:Nat→AV) (h:Nat→Option ah) (ev:Option (AV×aP)) (x:HI) (g':Nat→AV) (h':Nat→Option ah):Prop :=
 match ev with
 | some (v,e)=>(∀k b,o.g=some (k,b)→g k = .bool b)∧Fin P o g h v e x g' h'
 | none=>(∃k b,o.g=some (k,b)∧(g k = .bool (!b)∨g k = .tup []))∧g'=dg g o.dst (.tup [])∧h'=h∧x.tch=[]∧x.rb=false∧x.wr=false
section
variable {P:Program} [aX P] {o:aH} {g g' g1 g2:Nat→AV} {h h' h1 h2:Nat→Option ah} {v:AV} {e:aP}
theorem qs.local (hr:qs P o g h v e) (hg:∀k∈ao o.op,g' k=g k) (hh:iF o.op=false→∀k∈ao o.op,∀id∈aF (g k),h' id=h id) (hc:bg o.op=true):qs P o g' h' v e:=by
 unfold qs at hr ⊢
 split at hr
 ·rename_i f args hop
  rcases hr with ⟨h1,h2,args',b,h3,h4,h5,h6⟩ | ⟨k,ob,ob',Sb,h1,h2,h3,h4,h5,q,h6,h7⟩ | ⟨d,ob,st,off,len,Sb,h1,h2,h3,h4,h5⟩
  rotate_left 2
  ·refine .inr (.inr ⟨d,ob,st,off,len,Sb,h1,h2,h3,h4,?_⟩)
   rw [hop] at hg
   rw [iz (fun v hv k hk=>hg k (by simp only [ao,gF];exact ⟨v,hv,hk⟩))]
   exact h5
  rotate_left
  ·refine .inr (.inl ⟨k,ob,ob',Sb,h1,h2,?_,h4,?_,q,h6,by rw [hg q h6];exact h7⟩)
   ·rw [hop] at hg
    rw [iz (fun v hv k hk=>hg k (by simp only [ao,gF];exact ⟨v,hv,hk⟩))]
    exact h3
   ·rw [hh (by rw [hop];rfl) q h6 k h7];exact h5
  refine .inl ⟨h1,h2,args',b,h3,h4,?_,h6⟩
  replace hh:=hh (by rw [hop];rfl)
  rw [hop] at hg hh hc
  rw [iz (fun v hv k hk=>hg k (by simp only [ao,gF];exact ⟨v,hv,hk⟩))]
  refine oT (fun x hx id hid=>?_) h5
  obtain ⟨iv,hiv,rfl⟩:=List.mem_map.1 hx
  refine uh (S:=ao (.call f args)) (fun k hk=>by simp only [ao,gF];exact ⟨iv,hiv,hk⟩) hh ?_ id hid
  simp only [bg,de] at hc
  exact dx (hc iv hiv)
 ·exact hr
 ·rename_i n1 n2
  have key:bh (o.dst.getD 0) o.op (val g') h'=bh (o.dst.getD 0) o.op (val g) h:=by
   by_cases hmv:iF o.op=true
   ·cases ho:o.op with
    | mov x =>
     simp only [bh]
     cases x with
     | s k=>rw [show val g' (.s k)=val g (.s k) from hg k (by rw [ho];simp [ao,aL])]
     | c y=>rfl
    | _=>rw [ho] at hmv;cases hmv
   ·exact vj hg (hh (by simpa using hmv)) hc
  unfold RJ
  rw [key]
  exact hr
theorem mN {d:Option Nat} {x:AV} {k:Nat} (hk:d≠some k):dg g d x k=g k:=by
 cases d with
 | none=>rfl
 | some d=>exact bH _ _ (fun h=>hk (by rw [h]))
theorem E_ {i:Nat} {x:AV} (hx:eC i x≠.any):eC i x=x:=by
 unfold eC at hx ⊢
 split
 ·rename_i hm;simp [hm] at hx
 ·rfl
theorem qc {i:Nat} {x:AV} (hx:i∉aF x):eC i x=x:=by
 unfold eC
 rw [aV (fun hm=>hx (i1 hm))]
theorem E9 {i:Nat} {o:ah} (hx:i∉cU o):cH i o=o:=by
 unfold cH
 split
 ·rename_i hr
  simp only [cU,hr,fv,gF,not_exists,not_and] at hx
  have:o.rows.map (fun r=>r.map (bW i))=o.rows:=by
   conv=>rhs;rw [← List.map_id o.rows]
   refine List.map_congr_left fun r hr'=>?_
   conv=>rhs;rw [id,← List.map_id r]
   refine List.map_congr_left fun y hy=>?_
   unfold bW
   rw [aV (fun hm=>hx r hr' y hy (jV hm))]
   rfl
  rw [this]
 ·rfl
theorem IF {i:Nat} {o':ah} (ha:∀j q,h j=some q→i∉cU q):aP.hp h (.reb i o')=cI h i (some o'):=by
 funext j
 simp only [aP.hp,cI]
 split
 ·rfl
 ·cases hj:h j with
  | none=>rfl
  | some q=>simp only [dM];rw [E9 (ha j q hj)]
theorem wP (i j:Nat) (x:AV):eC i (eC j x)=eC j (eC i x):=by
 have hany:∀i,mV i .any=false:=fun _=>rfl
 unfold eC
 by_cases h1:mV i x=true<;>by_cases h2:mV j x=true<;>simp only [h1,h2,hany,fv,rZ,j8]
theorem DA (e e':aP):e.env (e'.env g)=e'.env (e.env g):=by
 cases e<;>cases e'<;>first | rfl | (funext k;exact wP _ _ _)
def aP.pur (e:aP) (x:AV):AV :=
 match e with
 | .reb i _=>eC i x
 | _=>x
theorem pL (e:aP) (d:Option Nat) (x:AV):e.env (dg g d x)=dg (e.env g) d (e.pur x):=by
 cases d with
 | none=>rfl
 | some d =>
  cases e with
  | reb i o' =>
   funext k
   simp only [aP.env,dg,aP.pur,cI]
   split<;>rfl
  | _=>rfl
theorem s9 {e:aP} {x:AV} (hx:e.isReb=true→∀d∈e.tch,d∉aF x):e.pur x=x:=by
 cases e with
 | reb i o'=>exact qc (hx rfl i (by simp [aP.tch]))
 | _=>rfl
theorem po {d d':Option Nat} {x x':AV} (hd:∀k,d=some k→d'≠some k):dg (dg g d x) d' x'=dg (dg g d' x') d x:=by
 cases d with
 | none=>rfl
 | some d =>
  cases d' with
  | none=>rfl
  | some d' =>
   have hne:d≠d':=fun hh=>hd d rfl (by rw [hh])
   funext k
   simp only [dg,cI]
   by_cases h1:k=d<;>by_cases h2:k=d'<;>simp_all
def ui (h:Nat→Option ah) (e:aP):Nat→Option ah :=
 match e with
 | .no=>h
 | .put i o=>cI h i (some o)
 | .new i o=>cI h i (some o)
 | .reb i o=>cI h i (some o)
theorem uj (e:aP) (ha:∀i o',e = .reb i o'→∀j q,h j=some q→i∉cU q):e.hp h=ui h e:=by
 cases e with
 | reb i ob=>exact IF (ha i ob rfl)
 | _=>rfl
theorem pR {e:aP} {id:Nat} (hid:id∉e.tch):ui h e id=h id:=by
 cases e<;>first | rfl | exact bH _ _ (fun hh=>hid (by simp [aP.tch,hh]))
theorem zi {e e':aP} (hd:∀d∈e.tch,d∉e'.tch):ui (ui h e) e'=ui (ui h e') e:=by
 have key:∀(i j:Nat) (p q:Option ah),i≠j→cI (cI h i p) j q=cI (cI h j q) i p:=fun i j p q hij=>by
  funext k
  simp only [cI]
  by_cases h1:k=i<;>by_cases h2:k=j<;>simp_all
 cases e<;>cases e'<;>first | rfl | exact key _ _ _ _ (by simpa [aP.tch] using hd)
theorem IE {e:aP} {j:Nat} {q:ah} (hq:ui h e j=some q):(h j=some q)∨cU q=e.ids:=by
 cases e with
 | no=>exact .inl hq
 | put i ob =>
  simp only [ui,cI] at hq
  split at hq
  ·cases hq;exact .inr rfl
  ·exact .inl hq
 | new i ob =>
  simp only [ui,cI] at hq
  split at hq
  ·cases hq;exact .inr rfl
  ·exact .inl hq
 | reb i ob =>
  simp only [ui,cI] at hq
  split at hq
  ·cases hq;exact .inr rfl
  ·exact .inl hq
theorem C6 {d:Nat} {op:eV} {ρ:IV→AV} {j:Nat} {o':ah} (hr:bh d op ρ h=some (v,.reb j o')):∃q,h j=some q∧q.isRec=false:=by
 have happ:∀{t st x src},g_ d t st x src h=some (v,.reb j o')→∃q,h j=some q∧q.isRec=false:=by
  intro t st x src ha
  unfold g_ at ha
  split at ha
  ·cases ha
  ·split at ha
   ·split at ha
    ·cases ha
    ·split at ha
     ·rename_i ob hob
      split at ha
      ·rename_i hc
       cases ha
       exact ⟨ob,hob,hc.2.2.2.1⟩
      ·cases ha
     ·cases ha
    ·cases ha
   ·cases ha
 have hres:∀{y:Option AV},res y≠some (v,.reb j o'):=fun hh=>by
  have:=(a_ hh).2
  cases this
 cases op<;>simp only [bh] at hr
 case app=>exact happ hr
 case apps=>exact happ hr
 case cpy=>obtain ⟨_,_,q⟩:=mX hr;cases q
 case cvm=>obtain ⟨_,_,_,_,_,_,_,_,_,_,_,_,q⟩:=iS hr;cases q
 case mop=>rcases j_ hr with q | ⟨_,q,_⟩ | ⟨_,_,_,_,_,q⟩<;>cases q
 case bsl=>obtain ⟨_,q⟩:=ka hr;cases q
 all_goals
  exfalso
  first
   | exact hres hr
   | (cases hr;done)
   | (simp only [cq,Prod.mk.injEq] at hr
      obtain ⟨e',h1,_,h2⟩:=hr
      subst h2
      unfold eL at h1
      repeat' (split at h1)
      all_goals cases h1)
   | (repeat' (split at hr)
      all_goals first | (cases hr;done) | exact hres hr)
structure xy (x y:HI):Prop where
 a:∀d∈y.tch,d∉x.op∧d∉x.tch
 b:∀d∈x.tch,d∉y.op
 c:x.rb=true→∀d∈x.tch,d∉y.res
 d:y.rb=true→∀d∈y.tch,d∉x.res
 e:¬(x.rb=true∧y.wr=true)
 f:¬(y.rb=true∧x.wr=true)
 g:¬(x.rb=true∧x.wr=true)
 h:¬(y.rb=true∧y.wr=true)
structure KG (x y:HI):Prop where
 r:x.rb=true
 w:x.wr=true
 op:y.op=[]∨y.ld = .ld
 nop:∀d∈x.tch,d∉y.op
 tch:y.tch=[]
 rb:y.rb=false
 res:∀d∈x.tch,d∉y.res
def Mt (x y:HI):Prop:=xy x y∨KG x y
theorem xy.of {x y:HI} (hm:p7 x y=true):xy x y:=by
 simp only [p7,dK,de,oG,mA,List.contains_eq_mem,decide_eq_false_iff_not] at hm
 obtain ⟨⟨⟨⟨⟨⟨⟨h1,h2⟩,h3⟩,h4⟩,h5⟩,h6⟩,h7⟩,h8⟩:=hm
 refine ⟨h1,h2,fun hr=>?_,fun hr=>?_,fun hr=>?_,fun hr=>?_,fun hr=>?_,fun hr=>?_⟩
 ·rcases h3 with h3 | h3
  ·rw [h3] at hr;cases hr
  ·exact h3
 ·rcases h4 with h4 | h4
  ·rw [h4] at hr;cases hr
  ·exact h4
 ·simp [hr.1,hr.2] at h5
 ·simp [hr.1,hr.2] at h6
 ·simp [hr.1,hr.2] at h7
 ·simp [hr.1,hr.2] at h8
structure oH (o o':aH):Prop where
 a:∀d,o.dst=some d→d∉co o'∧o'.dst≠some d
 b:∀d,o'.dst=some d→d∉co o
theorem i2 (k:Nat) (o:aH) (hk:k∈ao o.op):k∈co o:=by simp [co,hk]
theorem nG (k:Nat) (b:Bool) (o:aH) (hk:o.g=some (k,b)):k∈co o:=by simp [co,hk]
def ib (ev:Option (AV×aP)):AV:=match ev with | some (v,_)=>v | none=>.tup []
def cN (ev:Option (AV×aP)):aP:=match ev with | some (_,e)=>e | none=>.no
def ez (o:aH):List Nat:=match o.g with | some (k,_)=>[k] | none=>[]
theorem dh.state {ev:Option (AV×aP)} {x:HI} (hs:dh P o g h ev x g' h'):g'=dg ((cN ev).env g) o.dst (ib ev)∧h'=(cN ev).hp h∧x.tch=(cN ev).tch∧x.rb=(cN ev).isReb∧(¬(x.rb=true∧x.wr=true)→x.wr=(cN ev).isPut) ∧
  (¬(x.rb=true∧x.wr=true)→∀i o',cN ev = .reb i o'→∀j q,h j=some q→i∉cU q)∧(∀d,d∈aF (ib ev)∨d∈(cN ev).ids→d∈x.res)∧(∀i o',cN ev = .new i o'→h i=none)∧(∀i o',cN ev = .reb i o'→∃q,h i=some q∧q.isRec=false):=by
 cases ev with
 | none=>obtain ⟨_,h1,h2,h3,h4,h5⟩:=hs;exact ⟨h1,h2,h3,h4,fun _=>h5,fun _ i o' he=>by simp [cN] at he,fun d hd=>by
   rcases hd with hd | hd
   ·simp [ib,aF,fk,bU,cG] at hd
   ·simp [cN,aP.ids] at hd,fun i o' he=>by simp [cN] at he,fun i o' he=>by simp [cN] at he⟩
 | some p =>
  obtain ⟨v,e⟩:=p
  obtain ⟨_,hf⟩:=hs
  refine ⟨hf.hg,hf.hh,hf.tch,hf.rb,fun hw=>hf.wr.resolve_right hw,hf.alone,hf.res,hf.fresh,fun i o' he=>?_⟩
  simp only [cN] at he
  subst he
  have hr:=hf.run
  unfold qs at hr
  split at hr
  ·rcases hr with hr | ⟨_,_,_,_,hr,_⟩ | ⟨_,_,_,_,_,_,_,hr,_⟩
   ·cases hr.1
   ·cases hr
   ·cases hr
  ·exact hr.elim
  ·rcases hr with hr | ⟨hr,_⟩
   ·exact C6 hr
   ·cases hr
theorem dh.local {ev:Option (AV×aP)} {x:HI} (hs:dh P o g h ev x g' h') (hg:∀k∈ez o,g1 k=g k) (hg2:ev.isSome=true→∀k∈ao o.op,g1 k=g k) (hh:ev.isSome=true→iF o.op=false→∀k∈ao o.op,∀id∈aF (g k),h1 id=h id) (hc:bg o.op=true)
  (ha:¬(x.rb=true∧x.wr=true)→∀i o',cN ev = .reb i o'→∀j q,h1 j=some q→i∉cU q) (hn:∀i o',cN ev = .new i o'→h1 i=none):dh P o g1 h1 ev x (dg ((cN ev).env g1) o.dst (ib ev)) ((cN ev).hp h1):=by
 cases ev with
 | none =>
  obtain ⟨⟨k,b,h2,h3⟩,_,_,h4⟩:=hs
  exact ⟨⟨k,b,h2,by rw [hg k (by simp [ez,h2])];exact h3⟩,rfl,rfl,h4⟩
 | some p =>
  obtain ⟨v,e⟩:=p
  obtain ⟨h2,hf⟩:=hs
  refine ⟨fun k b hk=>by rw [hg k (by simp [ez,hk])];exact h2 k b hk,⟨?_,fun k hk=>?_,fun k hk id hid=>?_,ha,hn,hf.res,hf.tch,hf.rb,hf.wr,rfl,rfl,hf.ld⟩⟩
  ·exact hf.run.local (hg2 rfl) (hh rfl) hc
  ·rw [hg2 rfl k hk];exact hf.known k hk
  ·rw [hg2 rfl k hk] at hid;exact hf.opnd k hk id hid
theorem Rx {m i:aH} {evm evi:Option (AV×aP)} {y x:HI} (hm:dh P m g h evm y g1 h1) (hi:dh P i g1 h1 evi x g2 h2) (hap:oH m i) (hmt:xy x y) (hcm:bg m.op=true) (hci:bg i.op=true) :
  ∃g3 h3,dh P i g h evi x g3 h3∧dh P m g3 h3 evm y g2 h2:=by
 obtain ⟨gm,hhm,tm,rm,wm,am,resm,fm,bm⟩:=hm.state
 obtain ⟨gi,hhi,ti,ri,wi,ai,resi,fi,bi⟩:=hi.state
 replace wm:=wm hmt.h
 replace am:=am hmt.h
 replace wi:=wi hmt.g
 replace ai:=ai hmt.g
 rw [uj _ am] at hhm
 rw [uj _ ai] at hhi
 have same:∀id,id∉(cN evm).tch→h1 id=h id:=fun id hid=>by rw [hhm];exact pR hid
 have gsub:∀(o:aH) k,k∈ez o→k∈co o:=fun o k hk=>by
  unfold ez at hk
  split at hk
  ·rename_i k' b hg;simp at hk;subst hk;exact nG k b o hg
  ·simp at hk
 have gval:∀{o:aH} {g h ev x g' h'},dh P o g h ev x g' h'→∀k∈ez o,(∃b,g k = .bool b)∨g k = .tup []:=by
  intro o g h ev x g' h' hs k hk
  unfold ez at hk
  split at hk
  ·rename_i k' b hg
   simp at hk
   subst hk
   cases ev with
   | none=>obtain ⟨⟨k2,b2,h3,h4⟩,_⟩:=hs;rw [hg] at h3;cases h3;exact h4.imp (fun h=>⟨_,h⟩) (fun h=>h)
   | some p=>exact .inl ⟨b,hs.1 k b hg⟩
  ·simp at hk
 have keep1:∀k,k∈co i→g1 k≠.any→g1 k=g k:=fun k hk hna=>by
  rw [gm] at hna ⊢
  have e1:dg ((cN evm).env g) m.dst (ib evm) k=(cN evm).env g k:=mN (fun hdk=>(hap.a k hdk).1 hk)
  rw [e1] at hna ⊢
  cases he:cN evm with
  | reb q ob=>rw [he] at hna;exact E_ hna
  | _=>rfl
 have rdg:∀k∈ez i,g k=g1 k:=fun k hk=>by
  rcases gval hi k hk with ⟨b,hb⟩ | hb<;>exact (keep1 k (gsub i k hk) (by rw [hb];simp)).symm
 have rdo:evi.isSome=true→∀k∈ao i.op,g k=g1 k:=fun hs k hk=>by
  obtain ⟨p,rfl⟩:=Option.isSome_iff_exists.1 hs
  exact (keep1 k (i2 k i hk) (hi.2.known k hk)).symm
 have rdh:evi.isSome=true→iF i.op=false→∀k∈ao i.op,∀id∈aF (g1 k),h id=h1 id:=fun hs hmv k hk id hid=>by
  obtain ⟨p,rfl⟩:=Option.isSome_iff_exists.1 hs
  refine (same id (fun ht=>?_)).symm
  rw [← tm] at ht
  rcases hi.2.opnd k hk id hid with q | ⟨q,_⟩
  ·exact (hmt.a id ht).1 q
  ·rw [hmv] at q;cases q
 have ai':∀q o',cN evi = .reb q o'→∀j p,h j=some p→q∉cU p:=fun q o' he j p hp=>by
  by_cases hj:j∈(cN evm).tch
  ·cases hem:cN evm with
   | no=>rw [hem] at hj;simp [aP.tch] at hj
   | put j' ob =>
    exfalso
    refine hmt.e ⟨by rw [ri,he];rfl,by rw [wm,hem];rfl⟩
   | new j' ob =>
    rw [hem] at hj
    simp [aP.tch] at hj
    subst hj
    rw [fm j ob hem] at hp
    cases hp
   | reb j' ob =>
    rw [hem] at hj
    simp [aP.tch] at hj
    subst hj
    obtain ⟨q',h3,h4⟩:=bm j ob hem
    rw [hp] at h3
    cases h3
    simp [cU,h4]
  ·exact ai q o' he j p (by rw [same j hj];exact hp)
 have fi':∀q o',cN evi = .new q o'→h q=none:=fun q o' he=>by
  rw [← same q (fun ht=>by
   rw [← tm] at ht
   exact (hmt.a q ht).2 (by rw [ti,he];simp [aP.tch]))]
  exact fi q o' he
 have s1:=hi.local rdg rdo rdh hci (fun _=>ai') fi'
 rw [uj _ ai'] at s1
 refine ⟨_,_,s1,?_⟩
 have keep2:∀k,k∈co m→((cN evi).isReb=true→∀d∈(cN evi).tch,d∉aF (g k))→dg ((cN evi).env g) i.dst (ib evi) k=g k:=fun k hk hno=>by
  have e1:dg ((cN evi).env g) i.dst (ib evi) k=(cN evi).env g k:=mN (fun hdk=>hap.b k hdk hk)
  rw [e1]
  cases he:cN evi with
  | reb q ob=>exact qc (hno (by rw [he];rfl) q (by rw [he];simp [aP.tch]))
  | _=>rfl
 have opm:evm.isSome=true→∀k∈ao m.op,∀d∈(cN evi).tch,d∈aF (g k)→iF m.op=true∧d∈y.res:=fun hs k hk d hd hid=>by
  obtain ⟨p,rfl⟩:=Option.isSome_iff_exists.1 hs
  rcases hm.2.opnd k hk d hid with q | q
  ·exact absurd q (hmt.b d (by rw [ti];exact hd))
  ·exact q
 have am2:∀q o',cN evm = .reb q o'→∀j p,ui h (cN evi) j=some p→q∉cU p:=fun q o' he j p hp=>by
   rcases IE hp with h3 | h3
   ·exact am q o' he j p h3
   ·rw [h3]
    intro hq
    exact hmt.d (by rw [rm,he];rfl) q (by rw [tm,he];simp [aP.tch]) (resi q (.inr hq))
 have s2:=hm.local (g1:=dg ((cN evi).env g) i.dst (ib evi)) (h1:=ui h (cN evi)) (fun k hk=>keep2 k (gsub m k hk) (fun _ d _=>by
   rcases gval hm k hk with ⟨b,hb⟩ | hb<;>rw [hb]<;>simp [aF,fk,bU,cG])) (fun hs k hk=>keep2 k (i2 k m hk) (fun hr d hd hid=>hmt.c (by rw [ri];exact hr) d (by rw [ti];exact hd) (opm hs k hk d hd hid).2)) (fun hs hmv k hk id hid=>pR (fun ht=>by
   have:=(opm hs k hk id ht hid).1
   rw [hmv] at this;cases this)) hcm (fun _=>am2) (fun q o' he=>by
   rw [pR (fun ht=>(hmt.a q (by rw [tm,he];simp [aP.tch])).2 (by rw [ti];exact ht))]
   exact fm q o' he)
 rw [uj _ am2] at s2
 have eg:dg ((cN evm).env (dg ((cN evi).env g) i.dst (ib evi))) m.dst (ib evm)=g2:=by
  rw [gi,gm,pL,pL,DA (cN evi) (cN evm)]
  rw [s9 (e:=cN evm) (x:=ib evi) (fun hr d hd hid=>hmt.d (by rw [rm];exact hr) d (by rw [tm];exact hd) (resi d (.inl hid)))]
  rw [s9 (e:=cN evi) (x:=ib evm) (fun hr d hd hid=>hmt.c (by rw [ri];exact hr) d (by rw [ti];exact hd) (resm d (.inl hid)))]
  exact po (fun k hk hk'=>(hap.a k hk').2 hk)
 have eh:ui (ui h (cN evi)) (cN evm)=h2:=by
  rw [hhi,hhm]
  exact zi (fun d hd hd'=>(hmt.a d (by rw [tm];exact hd')).2 (by rw [ti];exact hd))
 rw [eg,eh] at s2
 exact s2
theorem EF {i:Nat} {v:AV} (h:mC i v=true):i∈aF v:=by
 cases v<;>first | exact jV h | (simp [mC,mP] at h;done)
theorem EB {n:Option Nat} {r:List AV} {off i:Nat} {v:AV} (hl:gd n (r.drop off)=some v) (hv:i∉aF v):gd n ((r.map (bW i)).drop off)=some v:=by
 rw [← List.map_drop]
 generalize r.drop off=q at hl
 cases n with
 | none =>
  simp only [gd,cQ] at hl ⊢
  rw [hl]
  simp only [dM,bW]
  rw [aV (fun hm=>hv (EF hm))]
 | some n =>
  simp only [gd,fz] at hl ⊢
  split at hl
  case isFalse=>cases hl
  rename_i hn
  cases hl
  rw [bz hn,← List.map_take]
  congr 2
  have:∀x∈q.take n,bW i x=x:=fun x hx=>by
   unfold bW
   rw [aV (fun hm=>hv (by simp only [aF,fk,gF];exact ⟨x,hx,jV hm⟩))]
  exact (List.map_congr_left this).trans (List.map_id _)
theorem xZ {n:Option Nat} {x:AV} {v:AV} {e:aP} (hl:fJ n x h=some v) (hx:∀d∈e.tch,d∉aF x) (hv:∀d∈e.tch,d∉aF v):fJ n x (e.hp h)=some v:=by
 cases x<;>try exact hl
 case mp id st row off =>
  have key:∀i,i∈e.tch→id≠i:=fun i hi hid=>hx i hi (by subst hid;simp [aF,fk,bU,cG])
  cases e with
  | no=>exact hl
  | put i o=>simp only [fJ,aP.hp,cI,aV (key i (by simp [aP.tch]))] at hl ⊢;exact hl
  | new i o=>simp only [fJ,aP.hp,cI,aV (key i (by simp [aP.tch]))] at hl ⊢;exact hl
  | reb i o =>
   simp only [fJ,aP.hp,cI,aV (key i (by simp [aP.tch]))] at hl ⊢
   split at hl
   case h_2=>cases hl
   rename_i o1 ho1
   rw [ho1]
   simp only [dM,mM]
   split at hl
   case isFalse=>cases hl
   rename_i hst
   rw [bz hst]
   split at hl
   case h_2=>cases hl
   rename_i r hr
   have hrow:(cH i o1).rows[row]? = some (if o1.isRec=true then r.map (bW i) else r):=by
    unfold cH
    by_cases hrec:o1.isRec=true
    ·simp only [hrec,fv,cQ,hr,dM]
    ·simp only [hrec];simpa using hr
   rw [hrow]
   show gd n ((if o1.isRec=true then r.map (bW i) else r).drop off)=some v
   by_cases hrec:o1.isRec=true
   ·rw [bz hrec];exact EB hl (hv i (by simp [aP.tch]))
   ·rw [aV hrec];exact hl
theorem Nl {m i:aH} {evm evi:Option (AV×aP)} {y x:HI} (hm:dh P m g h evm y g1 h1) (hi:dh P i g1 h1 evi x g2 h2) (hap:oH m i) (hw:KG x y) (hcm:bg m.op=true) (hci:bg i.op=true) :
  ∃g3 h3,dh P i g h evi x g3 h3∧dh P m g3 h3 evm y g2 h2:=by
 obtain ⟨gm,hhm,tm,rm,wm,am,resm,fm,bm⟩:=hm.state
 obtain ⟨gi,hhi,ti,ri,wi,ai,resi,fi,bi⟩:=hi.state
 have em:cN evm = .no:=by
  rw [hw.tch] at tm
  cases he:cN evm<;>first | rfl | (rw [he] at tm;cases tm)
 have hh1:h1=h:=by rw [hhm,em];rfl
 have gg1:g1=dg g m.dst (ib evm):=by rw [gm,em];rfl
 have gsub:∀(o:aH) k,k∈ez o→k∈co o:=fun o k hk=>by
  unfold ez at hk
  split at hk
  ·rename_i k' b hg;simp at hk;subst hk;exact nG k b o hg
  ·simp at hk
 have keep1:∀k,k∈co i→g k=g1 k:=fun k hk=>by
  rw [gg1]
  exact (mN (fun hdk=>(hap.a k hdk).1 hk)).symm
 have s1:=hi.local (g1:=g) (h1:=h) (fun k hk=>keep1 k (gsub i k hk)) (fun _ k hk=>keep1 k (i2 k i hk)) (fun _ _ k hk id hid=>by rw [hh1]) hci (fun hn=>absurd ⟨hw.r,hw.w⟩ hn) (fun q o' he=>by
  rw [he] at ri
  rw [hw.r] at ri
  cases ri)
 refine ⟨_,_,s1,?_⟩
 have keep2:∀k,k∈co m→(∀d∈(cN evi).tch,d∉aF (g k))→dg ((cN evi).env g) i.dst (ib evi) k=g k:=fun k hk hno=>by
  have e1:dg ((cN evi).env g) i.dst (ib evi) k=(cN evi).env g k:=mN (fun hdk=>hap.b k hdk hk)
  rw [e1]
  cases he:cN evi with
  | reb q ob=>exact qc (hno q (by rw [he];simp [aP.tch]))
  | _=>rfl
 have gval:∀k∈ez m,(∃b,g k = .bool b)∨g k = .tup []:=fun k hk=>by
  unfold ez at hk
  split at hk
  ·rename_i k' b hg
   simp at hk
   subst hk
   cases evm with
   | none=>obtain ⟨⟨k2,b2,h3,h4⟩,_⟩:=hm;rw [hg] at h3;cases h3;exact h4.imp (fun h=>⟨_,h⟩) (fun h=>h)
   | some p=>exact .inl ⟨b,hm.1 k b hg⟩
  ·simp at hk
 have s2:dh P m (dg ((cN evi).env g) i.dst (ib evi)) ((cN evi).hp h) evm y (dg ((cN evm).env (dg ((cN evi).env g) i.dst (ib evi))) m.dst (ib evm)) ((cN evm).hp ((cN evi).hp h)):=by
  have kg:∀k∈ez m,dg ((cN evi).env g) i.dst (ib evi) k=g k:=fun k hk=>keep2 k (gsub m k hk) (fun d _=>by
   rcases gval k hk with ⟨b,hb⟩ | hb<;>rw [hb]<;>simp [aF,fk,bU,cG])
  rcases hw.op with hop | hld
  ·have opm:evm.isSome=true→∀k∈ao m.op,∀d,d∈aF (g k)→iF m.op=true∧d∈y.res:=fun hs k hk d hid=>by
    obtain ⟨p,rfl⟩:=Option.isSome_iff_exists.1 hs
    rcases hm.2.opnd k hk d hid with q | q
    ·rw [hop] at q;cases q
    ·exact q
   exact hm.local (g1:=dg ((cN evi).env g) i.dst (ib evi)) (h1:=(cN evi).hp h) kg (fun hs k hk=>keep2 k (i2 k m hk) (fun d hd hid=>hw.res d (by rw [ti];exact hd) (opm hs k hk d hid).2)) (fun hs hmv k hk id hid=>by
    have:=(opm hs k hk id hid).1
    rw [hmv] at this;cases this) hcm (fun _ q o' he=>by rw [em] at he;cases he) (fun q o' he=>by rw [em] at he;cases he)
  ·cases evm with
   | none=>exact hm.local (g1:=dg ((cN evi).env g) i.dst (ib evi)) (h1:=(cN evi).hp h) kg (fun hs=>by cases hs) (fun hs=>by cases hs) hcm (fun _ q o' he=>by cases he) (fun q o' he=>by cases he)
   | some p =>
    obtain ⟨v,e⟩:=p
    obtain ⟨hgd,hf⟩:=hm
    have hop':=hf.ld hld
    have hmv:¬iF m.op=true:=fun q=>by rcases hop' with ⟨_,_,h⟩ | ⟨_,_,h⟩ | ⟨_,h⟩<;>rw [h] at q<;>cases q
    have he:e = .no:=em
    subst he
    have ids2:∀k∈ao m.op,∀d∈(cN evi).tch,d∉aF (g k):=fun k hk d hd hid=>by
     rcases hf.opnd k hk d hid with q | ⟨q,_⟩
     ·exact hw.nop d (by rw [ti];exact hd) q
     ·exact hmv q
    have ko:∀k∈ao m.op,dg ((cN evi).env g) i.dst (ib evi) k=g k:=fun k hk=>keep2 k (i2 k m hk) (ids2 k hk)
    have hr:=hf.run
    refine ⟨fun k b hk=>by rw [kg k (by simp [ez,hk])];exact hgd k b hk,⟨?_,fun k hk=>by rw [ko k hk];exact hf.known k hk,fun k hk id hid=>hf.opnd k hk id (by rw [ko k hk] at hid;exact hid),(fun _ q o' he=>by cases he),(fun q o' he=>by cases he),hf.res,hf.tch,hf.rb,hf.wr,rfl,rfl,hf.ld⟩⟩
    have hvl:∀p:IV,(∀k∈aL p,k∈ao m.op)→val (dg ((cN evi).env g) i.dst (ib evi)) p=val g p:=fun p hp=>by
     cases p with
     | s k=>exact ko k (hp k (by simp [aL]))
     | c x=>rfl
    unfold qs at hr ⊢
    rcases hop' with ⟨n,p,hop⟩ | ⟨n,p,hop⟩ | ⟨p,hop⟩
    rotate_left
    ·rw [hop] at hr ⊢
     simp only at hr ⊢
     rcases hr with hr | hr
     ·refine .inl ?_
      simp only [bh] at hr ⊢
      rw [hvl p (fun k hk=>by rw [hop];exact hk)]
      exact hr
     ·cases hr.2.1
    ·rw [hop] at hr ⊢
     simp only at hr ⊢
     rcases hr with hr | hr
     ·refine .inl ?_
      simp only [bh] at hr ⊢
      rw [hvl p (fun k hk=>by rw [hop];exact hk)]
      exact hr
     ·cases hr.2.1
    rw [hop] at hr ⊢
    simp only at hr ⊢
    rcases hr with hr | hr
    ·refine .inl ?_
     simp only [bh,Mw.res,cq,Prod.mk.injEq,and_true] at hr ⊢
     obtain ⟨v',hl,hv'⟩:=hr
     subst hv'
     have hvp:val (dg ((cN evi).env g) i.dst (ib evi)) p=val g p∧∀d∈(cN evi).tch,d∉aF (val g p):=by
      cases p with
      | s k =>
       have hk:k∈ao m.op:=by rw [hop];simp [ao,aL]
       exact ⟨ko k hk,ids2 k hk⟩
      | c x =>
       have hc:aF x=[]:=by
        rw [hop] at hcm
        simpa [bg,eA] using hcm
       exact ⟨rfl,fun d _=>by show d∉aF x;rw [hc];simp⟩
     exact ⟨v',by rw [hvp.1];exact xZ hl hvp.2 (fun d hd hid=>hw.res d (by rw [ti];exact hd) (hf.res d (.inl hid))),rfl⟩
    ·cases hr.2.1
 have eg:dg ((cN evm).env (dg ((cN evi).env g) i.dst (ib evi))) m.dst (ib evm)=g2:=by
  rw [gi,gg1,em]
  show dg (dg ((cN evi).env g) i.dst (ib evi)) m.dst (ib evm)=_
  rw [pL]
  rw [s9 (e:=cN evi) (x:=ib evm) (fun hr d hd hid=>hw.res d (by rw [ti];exact hd) (resm d (.inl hid)))]
  exact po (fun k hk hk'=>(hap.a k hk').2 hk)
 have eh:(cN evm).hp ((cN evi).hp h)=h2:=by rw [em,hhi,hh1];rfl
 rw [eg,eh] at s2
 exact s2
theorem Nk {m i:aH} {evm evi:Option (AV×aP)} {y x:HI} (hm:dh P m g h evm y g1 h1) (hi:dh P i g1 h1 evi x g2 h2) (hap:oH m i) (hmt:Mt x y) (hcm:bg m.op=true) (hci:bg i.op=true) :
  ∃g3 h3,dh P i g h evi x g3 h3∧dh P m g3 h3 evm y g2 h2:=by
 rcases hmt with h | h
 ·exact Rx hm hi hap h hcm hci
 ·exact Nl hm hi hap h hcm hci
end
structure Item where
 i:Nat
 bef:List Nat
 o:aH
 ev:Option (AV×aP)
 x:HI
def T (P:Program) [aX P]:List Item→(Nat→AV)→(Nat→Option ah)→(Nat→AV)→(Nat→Option ah)→Prop
 | [],g,h,g',h'=>g'=g∧h'=h
 | t :: R,g,h,g',h'=>∃g1 h1,dh P t.o g h t.ev t.x g1 h1∧T P R g1 h1 g' h'
section
variable {P:Program} [aX P]
theorem F2:∀(A:List Item) (t:Item) (B:List Item) (g:Nat→AV) (h:Nat→Option ah) (g':Nat→AV) (h':Nat→Option ah),T P (A++t :: B) g h g' h' →
  (∀m∈A,oH m.o t.o∧Mt t.x m.x)→(∀m∈A,bg m.o.op=true)→bg t.o.op=true→∃g1 h1,dh P t.o g h t.ev t.x g1 h1∧T P (A++B) g1 h1 g' h'
 | [],t,B,g,h,g',h',ht,_,_,_=>ht
 | m :: A,t,B,g,h,g',h',ht,hm,hc,hct=>by
  obtain ⟨g1,h1,s1,ht⟩:=ht
  obtain ⟨g2,h2,s2,ht⟩:=F2 A t B g1 h1 g' h' ht (fun q hq=>hm q (by simp [hq])) (fun q hq=>hc q (by simp [hq])) hct
  obtain ⟨q1,q2⟩:=hm m (by simp)
  obtain ⟨g3,h3,s3,s4⟩:=Nk s1 s2 q1 q2 (hc m (by simp)) hct
  exact ⟨g3,h3,s3,g2,h2,s4,ht⟩
def oq (al:List (Nat×Nat)):List HI→List Item→Prop
 | _,[]=>True
 | hist,t :: R=>t.x.i=t.i∧(∀y∈hist,y.i∈t.bef∨Mt t.x y)∧(∀d,d∈aF (ib t.ev)∨d∈(cN t.ev).ids→∀m,(d,m)∈al→m=t.i∨m∈t.bef)∧oq al (t.x :: hist) R
theorem dl {bef:List Nat} {x:HI} {hist:List HI} (hh:dy bef x hist=true):∀y∈hist,y.i∈bef∨Mt x y:=fun y hy=>by
 have:=de.1 hh y hy
 simp only [oG,List.contains_eq_mem,j6] at this
 exact this.imp id fun h=>.inl (xy.of h)
theorem f5 {al:List (Nat×Nat)} {bef:List Nat} {x:HI} (hh:iG al bef x=true):∀d∈x.res,∀m,(d,m)∈al→m=x.i∨m∈bef:=fun d hd m hm=>by
 have:=de.1 hh (d,m) hm
 simp only [oG,List.contains_eq_mem,j6,mA,decide_eq_false_iff_not,beq_iff_eq] at this
 rcases this with (h1 | h1) | h1
 ·exact absurd hd h1
 ·exact .inl h1
 ·exact .inr h1
theorem dV (s:St) (d:Option Nat) (x:AV):get (s.put d x).env=dg (get s.env) d x:=by
 funext k
 cases d with
 | none=>rfl
 | some d =>
  simp only [St.put,get,dg,cI,ig]
  by_cases hk:k=d
  ·subst hk;simp
  ·simp [hk,Ne.symm hk]
theorem dd (s:St) (d:Option Nat) (x:AV):(s.put d x).heap=s.heap:=by cases d<;>rfl
theorem cP {o:eV} {s:St} {e:aP} (hp:cJ o s e=true):(∀k∈ao o,get s.env k≠.any)∧∀i o',e = .reb i o'→∀j q,ae s.heap j=some q→i∉cU q:=by
 simp only [cJ,dK,de,oG,mA] at hp
 refine ⟨fun k hk he=>?_,fun i o' he j q hq=>?_⟩
 ·have:=hp.1 k hk
  rw [he] at this
  cases this
 ·subst he
  rcases hp.2 with h1 | h1
  ·cases h1
  ·have hmem:∀{σ:List (Nat×ah)},ae σ j=some q→(j,q)∈σ:=by
    intro σ
    induction σ with
    | nil=>intro hi;simp [ae] at hi
    | cons p l ih =>
     intro hi
     obtain ⟨k,x⟩:=p
     simp only [ae] at hi
     split at hi
     ·rename_i hk;cases hi;subst hk;simp
     ·exact List.mem_cons_of_mem _ (ih hi)
   have:=h1 i (by simp [aP.tch]) (j,q) (hmem hq)
   simpa using this
def Un (al:List (Nat×Nat)) (p:Nat→Prop) (g:Nat→AV) (h:Nat→Option ah):Prop:=∀d m,(d,m)∈al→p m→h d=none∧bP d g h
theorem mE {d:Nat} {op:eV} {ρ:IV→AV} {h:Nat→Option ah} {v:AV} {i:Nat} {ob:ah} (hr:bh d op ρ h=some (v,.new i ob)):iU op=true∧i=d:=by
 have happ:∀{t st x src},g_ d t st x src h=some (v,.new i ob)→i=d:=by
  intro t st x src ha
  unfold g_ at ha
  split at ha
  ·cases ha
  ·split at ha
   ·split at ha
    ·cases ha;rfl
    ·split at ha
     ·split at ha<;>cases ha
     ·cases ha
    ·cases ha
   ·cases ha
 have hres:∀{y:Option AV},res y≠some (v,.new i ob):=fun hh=>by
  have:=(a_ hh).2
  cases this
 cases op<;>simp only [bh] at hr
 case app=>exact ⟨rfl,happ hr⟩
 case apps=>exact ⟨rfl,happ hr⟩
 case new=>cases hr;exact ⟨rfl,rfl⟩
 case box =>
  split at hr
  ·split at hr
   ·cases hr;exact ⟨rfl,rfl⟩
   ·cases hr
  ·cases hr
 case bsl=>obtain ⟨_,q⟩:=ka hr;cases q;exact ⟨rfl,rfl⟩
 case cvb =>
  split at hr
  ·split at hr
   ·cases hr;exact ⟨rfl,rfl⟩
   ·cases hr
  ·cases hr
 case mks =>
  split at hr
  ·split at hr
   ·cases hr;exact ⟨rfl,rfl⟩
   ·cases hr
  ·cases hr
 case mop =>
  rcases j_ hr with q | ⟨_,q,q2⟩ | ⟨_,_,_,_,_,q⟩<;>cases q
  rcases q2 with rfl | rfl<;>exact ⟨rfl,rfl⟩
 all_goals
  exfalso
  first
   | (obtain ⟨_,_,q⟩:=mX hr;cases q;done)
   | (obtain ⟨_,_,_,_,_,_,_,_,_,_,_,_,q⟩:=iS hr;cases q;done)
   | exact hres hr
   | (cases hr;done)
   | (simp only [cq,Prod.mk.injEq] at hr
      obtain ⟨e',h1,_,h2⟩:=hr
      subst h2
      unfold eL at h1
      repeat' (split at h1)
      all_goals cases h1)
   | (repeat' (split at hr)
      all_goals first | (cases hr;done) | exact hres hr)
theorem C7 {d:Nat} {op:eV} {g:Nat→AV} {h:Nat→Option ah} {v:AV} {e:aP} (hr:bh d op (val g) h=some (v,e)) (hc:bg op=true):∀i∈e.tch,(∃ob,e = .new i ob)∨∃k∈ao op,i∈aF (g k):=by
 have iv:∀{x:IV} {i:Nat},eA x=true→i∈aF (val g x)→(∀k∈aL x,k∈ao op)→∃k∈ao op,i∈aF (g k):=by
  intro x i hx hi hs
  cases x with
  | s k=>exact ⟨k,hs k (by simp [aL]),hi⟩
  | c y=>simp [eA] at hx;rw [show val g (.c y)=y from rfl,hx] at hi;cases hi
 have happ:∀{t st src} {x:IV},eA x=true→(∀k∈aL x,k∈ao op)→g_ d t st (val g x) src h=some (v,e)→∀i∈e.tch,(∃ob,e = .new i ob)∨∃k∈ao op,i∈aF (g k):=by
  intro t st src x hx hs ha i hi
  unfold g_ at ha
  split at ha
  ·cases ha
  ·split at ha
   ·split at ha
    ·cases ha;simp [aP.tch] at hi;subst hi;exact .inl ⟨_,rfl⟩
    ·rename_i hv
     split at ha
     ·split at ha
      ·cases ha
       simp [aP.tch] at hi
       subst hi
       exact .inr (iv hx (by rw [hv];simp [gh]) hs)
      ·cases ha
     ·cases ha
    ·cases ha
   ·cases ha
 intro i hi
 cases e with
 | no=>simp [aP.tch] at hi
 | new j ob=>simp [aP.tch] at hi;subst hi;exact .inl ⟨_,rfl⟩
 | put j ob =>
  cases op<;>simp only [bh] at hr
  case store n p x =>
   simp only [bg,dK] at hc
   simp only [cq,Prod.mk.injEq] at hr
   obtain ⟨e',h1,_,h2⟩:=hr
   subst h2
   unfold eL at h1
   split at h1
   ·rename_i id st row off cs hv _
    refine .inr (iv hc.1 ?_ (fun k hk=>by simp only [ao,dw];exact .inl hk))
    rw [hv]
    repeat' (split at h1)
    all_goals first | (cases h1;done) | skip
    cases h1
    simp [aP.tch] at hi
    simp [pU,hi]
   ·cases h1
  case cvm x =>
   simp only [bg] at hc
   obtain ⟨id,st,off,len,ob',q1,_,_,_,_,_,_,q2⟩:=iS hr
   cases q2
   simp [aP.tch] at hi
   exact .inr (iv hc (by rw [q1];simp [gh,hi]) (fun k hk=>by simp only [ao];exact hk))
  case mop k xs =>
   simp only [bg,de] at hc
   rcases j_ hr with q | ⟨_,q,q2⟩ | ⟨id,b,r,o,q1,q⟩<;>cases q
   simp [aP.tch] at hi
   subst hi
   cases xs with
   | nil=>cases q1
   | cons x xs =>
    simp only [dP,List.cons.injEq] at q1
    exact .inr (iv (hc x (by simp)) (by rw [q1.1];simp [aF,fk,bU,cG]) (fun k hk=>by simp only [ao,r7,dw];exact .inl hk))
  case cpy st x y =>
   simp only [bg,dK] at hc
   unfold lZ at hr
   split at hr
   ·cases hr
   ·split at hr
    ·rename_i hv
     refine .inr (iv hc.1 ?_ (fun k hk=>by simp only [ao,dw];exact .inl hk))
     rw [hv]
     repeat' (split at hr)
     all_goals first | (cases hr;done) | skip
     all_goals
      cases hr
      simp [aP.tch] at hi
      simp [gh,hi]
    ·cases hr
  case app t st x y=>simp only [bg,dK] at hc;exact happ hc.1 (fun k hk=>by simp only [ao,dw];exact .inl hk) hr i hi
  case apps t x y=>simp only [bg,dK] at hc;exact happ hc.1 (fun k hk=>by simp only [ao,dw];exact .inl hk) hr i hi
  all_goals
   exfalso
   first
    | (obtain ⟨_,q⟩:=ka hr;cases q;done)
    | exact absurd (a_ hr).2 (by simp)
    | (cases hr;done)
    | (repeat' (split at hr)
       all_goals first | (cases hr;done) | exact absurd (a_ hr).2 (by simp))
 | reb j ob =>
  cases op<;>simp only [bh] at hr
  case app t st x y=>simp only [bg,dK] at hc;exact happ hc.1 (fun k hk=>by simp only [ao,dw];exact .inl hk) hr i hi
  case apps t x y=>simp only [bg,dK] at hc;exact happ hc.1 (fun k hk=>by simp only [ao,dw];exact .inl hk) hr i hi
  all_goals
   exfalso
   first
    | (obtain ⟨_,_,q⟩:=mX hr;cases q;done)
    | (obtain ⟨_,_,_,_,_,_,_,_,_,_,_,_,q⟩:=iS hr;cases q;done)
    | (rcases j_ hr with q | ⟨_,q,_⟩ | ⟨_,_,_,_,_,q⟩<;>cases q;done)
    | (obtain ⟨_,q⟩:=ka hr;cases q;done)
    | exact absurd (a_ hr).2 (by simp)
    | (cases hr;done)
    | (simp only [cq,Prod.mk.injEq] at hr
       obtain ⟨e',h1,_,h2⟩:=hr
       subst h2
       unfold eL at h1
       repeat' (split at h1)
       all_goals cases h1)
    | (repeat' (split at hr)
       all_goals first | (cases hr;done) | exact absurd (a_ hr).2 (by simp))
end
theorem zU {i:Nat} {x:AV} (h:i∈cG x):mP i x=true:=by cases x<;>simp_all [mP,cG]
theorem zS {i:Nat} {x:AV} (h:i∈bU x):mC i x=true:=by
 cases x with
 | fn f caps =>
  simp only [bU,gF] at h
  obtain ⟨y,h1,h2⟩:=h
  simp only [mC,List.any_eq_true]
  exact ⟨y,h1,zU h2⟩
 | _=>simp only [bU] at h;simpa only [mC] using zU h
theorem zT {i:Nat} {x:AV} (h:i∈fk x):mG i x=true:=by
 cases x with
 | agg cells =>
  simp only [fk,gF] at h
  obtain ⟨y,h1,h2⟩:=h
  simp only [mG,List.any_eq_true]
  exact ⟨y,h1,zS h2⟩
 | _=>simp only [fk] at h;simpa only [mG] using zS h
theorem zV {i:Nat} {x:AV} (h:i∈aF x):mV i x=true:=by
 cases x with
 | tup vs =>
  simp only [aF,gF] at h
  obtain ⟨y,h1,h2⟩:=h
  simp only [mV,List.any_eq_true]
  exact ⟨y,h1,zT h2⟩
 | _=>simp only [aF] at h;simpa only [mV] using zT h
section
variable {P:Program} [aX P] {al:List (Nat×Nat)} {g g':Nat→AV} {h h':Nat→Option ah}
def mR (al:List (Nat×Nat)):Prop:=∀d m m',(d,m)∈al→(d,m')∈al→m=m'
theorem DK {h:Nat→Option ah} {e:aP} {d:Nat} (ht:d∉e.tch) (hn:h d=none):e.hp h d=none:=by
 cases e with
 | no=>exact hn
 | reb i o =>
  simp only [aP.tch,j7] at ht
  simp only [aP.hp,cI,aV ht,hn,Option.map_none]
 | _ =>
  simp only [aP.tch,j7] at ht
  simp only [aP.hp,cI,aV ht,hn]
theorem LE {h:Nat→Option ah} {e:aP} {j:Nat} {q:ah} (hq:e.hp h j=some q):(∃q0,h j=some q0∧(q=q0∨∃i,q=cH i q0))∨cU q=e.ids:=by
 cases e with
 | no=>exact .inl ⟨q,hq,.inl rfl⟩
 | reb i o =>
  simp only [aP.hp,cI] at hq
  split at hq
  ·cases hq;exact .inr rfl
  ·simp only [cq] at hq
   obtain ⟨q0,h1,rfl⟩:=hq
   exact .inl ⟨q0,h1,.inr ⟨i,rfl⟩⟩
 | _ =>
  simp only [aP.hp,cI] at hq
  split at hq
  ·cases hq;exact .inr rfl
  ·exact .inl ⟨q,hq,.inl rfl⟩
theorem Un.step {p p':Nat→Prop} {o:aH} {i:Nat} {bef:List Nat} {ev:Option (AV×aP)} {x:HI} (hs:dh P o g h ev x g' h') (hu:Un al p g h) (hc:bg o.op=true)
  (hnew:∀d,d∈aF (ib ev)∨d∈(cN ev).ids→∀m,(d,m)∈al→m=i∨m∈bef) (hbef:∀m∈bef,¬p m) (hal:pE o=true→(o.dst.getD 0,i)∈al) (hone:mR al)
  (hp:∀m,p' m→p m∧m≠i):Un al p' g' h':=by
 intro d m hdm hpm
 obtain ⟨hp1,hp2⟩:=hp m hpm
 obtain ⟨hn,hun⟩:=hu d m hdm hp1
 obtain ⟨gs,hhs,_,_,_,_,_,_,_⟩:=hs.state
 have hno:¬(d∈aF (ib ev)∨d∈(cN ev).ids):=fun hd=>by
  rcases hnew d hd m hdm with h1 | h1
  ·exact hp2 h1
  ·exact hbef m h1 hp1
 have htch:d∉(cN ev).tch:=fun ht=>by
  cases ev with
  | none=>simp [cN,aP.tch] at ht
  | some q =>
   obtain ⟨v,e⟩:=q
   have hr:=hs.2.run
   unfold qs at hr
   split at hr
   ·rename_i f args hop
    rcases hr with hr | ⟨k,_,_,_,he,_,_,_,_,q,_,hid⟩ | ⟨d',_,_,_,_,_,hd',he,_⟩
    ·rw [show cN (some (v,e))=e from rfl,hr.1] at ht;simp [aP.tch] at ht
    ·rw [show cN (some (v,e))=e from rfl,he] at ht
     simp [aP.tch] at ht
     subst ht
     have:=zV hid
     rw [hun.1 q] at this
     cases this
    ·rw [show cN (some (v,e))=e from rfl,he] at ht
     simp [aP.tch] at ht
     subst ht
     rw [hd'] at hal
     exact hp2 (hone d m i hdm (hal (by simp [pE,hop,hd'])))
   ·exact hr.elim
   ·rcases hr with hr | ⟨hr,_⟩
    rotate_left
    ·rw [show cN (some (v,e))=e from rfl,hr] at ht;simp [aP.tch] at ht
    rcases C7 hr hc d ht with ⟨ob,he⟩ | ⟨k,hk,hid⟩
    ·subst he
     obtain ⟨h1,h2⟩:=mE hr
     rw [← h2] at hal
     exact hp2 (hone d m i hdm (hal (jL h1)))
    ·have:=zV hid
     rw [hun.1 k] at this
     cases this
 refine ⟨by rw [hhs];exact DK htch hn,fun k=>?_,fun j q hq hrec r hr y hy=>?_⟩
 ·rw [gs]
  have key:mV d ((cN ev).env g k)=false:=by
   cases cN ev with
   | reb q ob =>
    simp only [aP.env]
    unfold eC
    split
    ·rfl
    ·exact hun.1 k
   | _=>exact hun.1 k
  cases hd:o.dst with
  | none=>exact key
  | some d' =>
   simp only [dg,cI]
   split
   ·cases hv:mV d (ib ev) with
    | false=>rfl
    | true=>exact absurd (.inl (i1 hv)) hno
   ·exact key
 ·rw [hhs] at hq
  rcases LE hq with ⟨q0,h1,h2⟩ | h1
  ·rcases h2 with rfl | ⟨i',rfl⟩
   ·exact hun.2 j q h1 hrec r hr y hy
   ·rw [i5] at hrec
    simp only [cH,hrec,fv,List.mem_map] at hr
    obtain ⟨r0,hr0,rfl⟩:=hr
    obtain ⟨y0,hy0,rfl⟩:=List.mem_map.1 hy
    unfold bW
    split
    ·rfl
    ·exact hun.2 j q0 h1 hrec r0 hr0 y0 hy0
  ·cases hv:mC d y with
   | false=>rfl
   | true =>
    exfalso
    refine hno (.inr ?_)
    rw [← h1]
    simp only [cU,hrec,fv,gF]
    exact ⟨r,hr,y,hy,jV hv⟩
theorem jg (s:St) (e:aP):get (s.eff e).env=e.env (get s.env):=funext (pQ s e)
theorem gN (s:St) (e:aP):ae (s.eff e).heap=e.hp (ae s.heap):=funext (nt s e)
theorem jR {s:St} {k:Nat} {t b:Bool} (hv:get s.env k = .bool t) (hb:t=b):get (s.put (some k) (.bool b)).env=get s.env:=by
 rw [dV]
 funext j
 simp only [dg,cI]
 split
 ·rename_i hj;subst hj;rw [hv,hb]
 ·rfl
theorem EK {d:Nat} {op:eV} {g:Nat→AV} {h:Nat→Option ah} {v:AV} {e:aP} (hev:bh d op (val g) h=some (v,e)) (hmv:iF op=true):∀k∈ao op,∀id∈aF (g k),id∈aF v:=fun k hk id hid=>by
 cases op with
 | mov x =>
  simp only [bh,bO,Prod.mk.injEq] at hev
  cases x with
  | s j =>
   simp only [ao,aL,j7] at hk
   subst hk
   rw [← hev.1];exact hid
  | c y=>simp [ao,aL] at hk
 | _=>cases hmv
theorem FQ (y:HI):((y.op.isEmpty||y.isLd)=true)=(y.op=[]∨y.ld = .ld):=by
 unfold HI.isLd
 cases y.ld<;>simp
theorem wC {o:eV} (h:kU o = .ld):(∃n p,o = .load n p)∨(∃n p,o = .fadr n p)∨∃p,o = .len p:=by
 cases o<;>first | exact .inl ⟨_,_,rfl⟩ | exact .inr (.inl ⟨_,_,rfl⟩) | exact .inr (.inr ⟨_,rfl⟩) | cases h
theorem ik [Cl] (hone:mR al):∀(l:List av) (i:Nat) (hist:List HI) (s:St) (K:List HI→St→Prop),db P al i l hist s K→Un al (fun m=>i≤m) (get s.env) (ae s.heap)→(∀y∈hist,¬(y.rb=true∧y.wr=true)) →
  (∀(j:Nat) (o:av),l[j]? = some o→(pE o.o=true→(o.o.dst.getD 0,i+j)∈al)∧(∀m∈o.bef,m<i+j)∧bg o.o.op=true) →
  ∃(items:List Item) (s':St),K ((items.map Item.x).reverse++hist) s'∧T P items (get s.env) (ae s.heap) (get s'.env) (ae s'.heap)∧oq al hist items∧items.map Item.i=List.range' i l.length∧items.map (fun t=>(⟨t.o,t.bef⟩:av))=l
 | [],i,hist,s,K,hk,_,_,_=>⟨[],s,hk,⟨rfl,rfl⟩,trivial,by simp,rfl⟩
 | o :: r,i,hist,s,K,hk,hu,hnw,hl=>by
  obtain ⟨hal,hbf,hcon⟩:=hl 0 o (by simp)
  have hl':∀(j:Nat) (o:av),r[j]? = some o→(pE o.o=true→(o.o.dst.getD 0,i+1+j)∈al)∧(∀m∈o.bef,m<i+1+j)∧bg o.o.op=true:=fun j o hj=>by
   have:=hl (j+1) o (by simpa using hj)
   rwa [show i+(j+1)=i+1+j by omega] at this
  have fin:∀{s1:St} {ev:Option (AV×aP)} {x:HI},dh P o.o (get s.env) (ae s.heap) ev x (get s1.env) (ae s1.heap)→x.i=i→¬(x.rb=true∧x.wr=true)→(∀y∈hist,y.i∈o.bef∨Mt x y) →
    (∀d,d∈aF (ib ev)∨d∈(cN ev).ids→∀m,(d,m)∈al→m=i∨m∈o.bef)→db P al (i+1) r (x :: hist) s1 K →
    ∃(items:List Item) (s':St),K ((items.map Item.x).reverse++hist) s'∧T P items (get s.env) (ae s.heap) (get s'.env) (ae s'.heap)∧oq al hist items∧items.map Item.i=List.range' i (o :: r).length∧items.map (fun t=>(⟨t.o,t.bef⟩:av))=o :: r:=by
   intro s1 ev x hst hxi hxw hhist hnew hrest
   have hu':Un al (fun m=>i+1≤m) (get s1.env) (ae s1.heap):=Un.step hst hu hcon hnew (fun m hm hle=>by have:=hbf m hm;omega) (by simpa using hal) hone (fun m hm=>⟨by omega,by omega⟩)
   obtain ⟨items,s',h1,h2,h3,h4,h5⟩:=ik hone r (i+1) (x :: hist) s1 K hrest hu' (fun y hy=>by
    rcases cj.1 hy with rfl | hy
    ·exact hxw
    ·exact hnw y hy) hl'
   exact ⟨⟨i,o.bef,o.o,ev,x⟩ :: items,s',by simpa using h1,⟨_,_,hst,h2⟩,⟨hxi,hhist,hnew,h3⟩,by simp [List.range'_succ,h4],by simp [h5]⟩
  have run:∀{s2:St},get s2.env=get s.env→s2.heap=s.heap→(∀k b,o.o.g=some (k,b)→get s.env k = .bool b)→bZ P al i o hist s2 (fun hist' s'=>db P al (i+1) r hist' s' K) →
    ∃(items:List Item) (s':St),K ((items.map Item.x).reverse++hist) s'∧T P items (get s.env) (ae s.heap) (get s'.env) (ae s'.heap)∧oq al hist items∧items.map Item.i=List.range' i (o :: r).length∧items.map (fun t=>(⟨t.o,t.bef⟩:av))=o :: r:=by
   intro s2 he2 hh2 hgd hop
   have hoi':∀res:List Nat,(iF o.o.op=true→∀k∈ao o.o.op,∀id∈aF (get s.env k),id∈res)→∀k∈ao o.o.op,∀id∈aF (get s.env k),id∈bx o.o.op s2.env∨(iF o.o.op=true∧id∈res):=fun res hres k hk id hid=>by
    by_cases hmv:iF o.o.op=true
    ·exact .inr ⟨hmv,hres hmv k hk id hid⟩
    ·refine .inl ?_
     have e:bx o.o.op s2.env=(ao o.o.op).flatMap fun k=>aF (get s2.env k):=by
      cases ho:o.o.op<;>first | rfl | (rw [ho] at hmv;exact absurd rfl hmv)
     rw [e,gF]
     exact ⟨k,hk,by rw [he2];exact hid⟩
   unfold bZ at hop
   split at hop
   ·rename_i f args hopc
    rcases hop with ⟨args',rr,b,h1,h2,h3,h4,h5,h6,h7,h8⟩ | ⟨k,ob,ob',Sb,rr,h1,h2,h3,h4,h5,h6,h7,h8,h9⟩ | ⟨d,ob,st,off,len,Sb,h1,h2,h3,h6,h7,h8,h9⟩
    rotate_left 2
    ·obtain ⟨p1,_⟩:=cP h6
     rw [he2] at p1
     have e0:(aP.new d ob).ids=[]:=by simp [aP.ids,cU,h2]
     have hin:∀{q:Nat},q∈aF (.ms d st off len)∨q∈(aP.new d ob).ids→q∈[d]:=fun hq=>by
      rw [e0] at hq
      simpa [aF,fk,bU,cG] using hq
     refine fin (s1:=(s2.eff (.new d ob)).put o.o.dst (.ms d st off len)) (ev:=some (.ms d st off len,.new d ob)) ⟨hgd,⟨?_,p1,hoi' _ (fun hmv=>by rw [hopc] at hmv;cases hmv),(fun _ _ _ he=>by cases he),(fun _ _ he=>?_),fun q hq=>hin hq,rfl,rfl,.inl rfl,?_,?_,fun hh=>by cases hh⟩⟩ rfl (by rintro ⟨hr,_⟩;cases hr) (dl h7) (fun q hq m hm=>f5 h8 q (hin hq) m hm) h9
     ·unfold qs
      rw [hopc]
      exact .inr (.inr ⟨d,ob,st,off,len,Sb,h1,rfl,rfl,h2,by rw [← he2];exact h3⟩)
     ·cases he
      exact (hu d i (by have:=hal (by simp [pE,hopc,h1]);rw [h1] at this;exact this) (aB i)).1
     ·rw [dV,jg,he2]
     ·rw [dd,gN,hh2]
    rotate_left
    ·obtain ⟨p1,p2⟩:=cP h7
     rw [he2] at p1
     have hq:∃q∈ao o.o.op,k∈aF (get s.env q):=by
      rw [hopc] at h6 ⊢
      simp only [bx,gF] at h6
      obtain ⟨q,q1,q2⟩:=h6
      exact ⟨q,q1,by rw [← he2];exact q2⟩
     refine fin (s1:=(s2.eff (.put k ob')).put o.o.dst rr) (ev:=some (rr,.put k ob')) ⟨hgd,⟨?_,p1,hoi' _ (fun hmv=>by rw [hopc] at hmv;cases hmv),(fun _ _ _ he=>by cases he),(fun _ _ he=>by cases he),fun d hd=>?_,rfl,rfl,.inl rfl,?_,?_,fun hh=>by cases hh⟩⟩ rfl (by first | (rintro ⟨hr,_⟩;cases hr;done) | (cases e<;>simp [aP.isReb,aP.isPut])) (dl h8) (fun d hd=>?_) h9
     ·unfold qs
      rw [hopc]
      rw [hopc] at hq
      exact .inr (.inl ⟨k,ob,ob',Sb,rfl,h4,by rw [← he2];exact h1,h2,by rw [← hh2];exact h3,hq⟩)
     ·have hd':d∈aF rr∨d∈cU ob':=hd
      rw [h4,h5] at hd';simp at hd'
     ·rw [dV,jg,he2]
     ·rw [dd,gN,hh2]
     ·have hd':d∈aF rr∨d∈cU ob':=hd
      rw [h4,h5] at hd';simp at hd'
    obtain ⟨p1,_⟩:=cP h6
    rw [he2] at p1
    refine fin (s1:=s2.put o.o.dst rr) (ev:=some (rr,.no)) ⟨hgd,⟨?_,p1,hoi' _ (fun hmv=>by rw [hopc] at hmv;cases hmv),(fun _ _ _ he=>by cases he),(fun _ _ he=>by cases he),fun d hd=>?_,rfl,rfl,.inl rfl,?_,?_,fun hh=>by cases hh⟩⟩ rfl (by first | (rintro ⟨hr,_⟩;cases hr;done) | (cases e<;>simp [aP.isReb,aP.isPut])) (dl h7) (fun d hd=>?_) h8
    ·unfold qs
     rw [hopc]
     exact .inl ⟨rfl,h5,args',b,h1,h2,by rw [← he2,← hh2];exact h3,h4⟩
    ·have hd':d∈aF rr∨d∈([]:List Nat):=hd
     rw [h5] at hd';simp at hd'
    ·rw [dV,he2];rfl
    ·rw [dd,hh2];rfl
    ·have hd':d∈aF rr∨d∈([]:List Nat):=hd
     rw [h5] at hd';simp at hd'
   ·exact hop.elim
   ·rename_i t st x y hopc
    rcases hop with hop | ⟨rows,hxc,hev,h6,h7,h9⟩
    ·split at hop
     case h_2=>exact hop.elim
     rename_i v e hev
     obtain ⟨h6,h7,h8,h9⟩:=hop
     obtain ⟨p1,p2⟩:=cP h6
     rw [he2] at p1 hev
     rw [hh2] at p2 hev
     refine fin (s1:=(s2.eff e).put o.o.dst v) (ev:=some (v,e)) ⟨hgd,⟨?_,p1,hoi' _ (fun hmv=>by rw [hopc] at hmv;cases hmv),fun _=>p2,fun j ob he=>?_,fun d hd=>?_,rfl,rfl,.inl rfl,?_,?_,fun hh=>by cases hh⟩⟩ rfl (by first | (rintro ⟨hr,_⟩;cases hr;done) | (cases e<;>simp [aP.isReb,aP.isPut])) (dl h7) (fun d hd m hm=>?_) h9
     ·unfold qs
      rw [hopc]
      exact .inl hev
     ·subst he
      obtain ⟨q1,q2⟩:=mE hev
      subst q2
      exact (hu _ i (by simpa using hal (jL (by rw [hopc];exact q1))) (aB i)).1
     ·exact dw.2 hd
     ·rw [dV,jg,he2]
     ·rw [dd,gN,hh2]
     ·exact f5 h8 d (dw.2 hd) m hm
    ·obtain ⟨p1,_⟩:=cP h6
     rw [he2] at p1 hev
     rw [hh2] at hev
     have no:∀d,¬(d∈aF (.sl st rows)∨d∈(aP.no).ids):=fun d hd=>by rcases hd with hd | hd<;>cases hd
     refine fin (s1:=s2.put o.o.dst (.sl st rows)) (ev:=some (.sl st rows,.no)) ⟨hgd,⟨?_,p1,hoi' _ (fun hmv=>by rw [hopc] at hmv;cases hmv),(fun _ _ _ he=>by cases he),(fun _ _ he=>by cases he),fun d hd=>absurd hd (no d),rfl,rfl,.inl rfl,?_,?_,fun hh=>by cases hh⟩⟩ rfl (by first | (rintro ⟨hr,_⟩;cases hr;done) | (cases e<;>simp [aP.isReb,aP.isPut])) (dl h7) (fun d hd=>absurd hd (no d)) h9
     ·unfold qs
      rw [hopc]
      exact .inr ⟨rfl,rfl,t,st,rows,rfl,hev⟩
     ·rw [dV,he2];rfl
     ·rw [dd,hh2];rfl
   ·rename_i t st rows ps hopc
    split at hop
    ·split at hop
     case h_2=>exact hop.elim
     rename_i rs hrs
     obtain ⟨h6,h7,h9⟩:=hop
     have hev:bh (o.o.dst.getD 0) (.bsl t st rows ps) (val (get s2.env)) (ae s2.heap)=some (.ms (o.o.dst.getD 0) st 0 rs.length,.new (o.o.dst.getD 0) ⟨t,st,rs,false⟩):=by simp only [bh,hrs];rfl
     obtain ⟨p1,_⟩:=cP h6
     rw [he2] at p1 hev
     rw [hh2] at hev
     have no:∀d,¬(d∈aF (.sl st rs)∨d∈(aP.no).ids):=fun d hd=>by rcases hd with hd | hd<;>cases hd
     refine fin (s1:=s2.put o.o.dst (.sl st rs)) (ev:=some (.sl st rs,.no)) ⟨hgd,⟨?_,p1,hoi' _ (fun hmv=>by rw [hopc] at hmv;cases hmv),(fun _ _ _ he=>by cases he),(fun _ _ he=>by cases he),fun d hd=>absurd hd (no d),rfl,rfl,.inl rfl,?_,?_,fun hh=>by cases hh⟩⟩ rfl (by first | (rintro ⟨hr,_⟩;cases hr;done) | (cases e<;>simp [aP.isReb,aP.isPut])) (dl h7) (fun d hd=>absurd hd (no d)) h9
     ·unfold qs
      rw [hopc]
      exact .inr ⟨rfl,rfl,t,st,rs,rfl,hev⟩
     ·rw [dV,he2];rfl
     ·rw [dd,hh2];rfl
    ·split at hop
     case h_2=>exact hop.elim
     rename_i v e hev
     obtain ⟨h6,h7,h8,h9⟩:=hop
     obtain ⟨p1,p2⟩:=cP h6
     rw [he2] at p1 hev
     rw [hh2] at p2 hev
     refine fin (s1:=(s2.eff e).put o.o.dst v) (ev:=some (v,e)) ⟨hgd,⟨?_,p1,hoi' _ (fun hmv=>by rw [hopc] at hmv;cases hmv),fun _=>p2,fun j ob he=>?_,fun d hd=>?_,rfl,rfl,.inl rfl,?_,?_,fun hh=>by rw [hopc] at hh;cases hh⟩⟩ rfl (by first | (rintro ⟨hr,_⟩;cases hr;done) | (cases e<;>simp [aP.isReb,aP.isPut])) (dl h7) (fun d hd m hm=>?_) h9
     ·unfold qs
      rw [hopc]
      exact .inl hev
     ·subst he
      obtain ⟨q1,q2⟩:=mE hev
      subst q2
      exact (hu _ i (by simpa using hal (jL (by rw [hopc];exact q1))) (aB i)).1
     ·exact dw.2 hd
     ·rw [dV,jg,he2]
     ·rw [dd,gN,hh2]
     ·exact f5 h8 d (dw.2 hd) m hm
   ·rename_i n1 n2 n3 n4
    split at hop
    case h_2=>exact hop.elim
    rename_i v e hev
    obtain ⟨h6,h7,h8,h9⟩:=hop
    obtain ⟨p1,p2⟩:=cP h6
    rw [he2] at p1 hev
    rw [hh2] at p2 hev
    refine fin (s1:=(s2.eff e).put o.o.dst v) (ev:=some (v,e)) ⟨hgd,⟨?_,p1,hoi' _ (fun hmv k hk id hid=>dw.2 (.inl (EK hev hmv k hk id hid))),fun _=>p2,fun j ob he=>?_,fun d hd=>?_,rfl,rfl,.inl rfl,?_,?_,fun hh=>wC hh⟩⟩ rfl (by first | (rintro ⟨hr,_⟩;cases hr;done) | (cases e<;>simp [aP.isReb,aP.isPut])) (dl h7) (fun d hd m hm=>?_) h9
    ·unfold qs
     split
     ·rename_i f args hopc;exact (n1 f args hopc).elim
     ·rename_i f args hopc;exact (n2 f args hopc).elim
     ·exact .inl hev
    ·subst he
     obtain ⟨q1,q2⟩:=mE hev
     subst q2
     exact (hu _ i (by simpa using hal (jL q1)) (aB i)).1
    ·exact dw.2 hd
    ·rw [dV,jg,he2]
    ·rw [dd,gN,hh2]
    ·exact f5 h8 d (dw.2 hd) m hm
  unfold db at hk
  split at hk
  ·rename_i hg
   exact run rfl rfl (fun k b hkb=>by rw [hg] at hkb;cases hkb) hk
  ·rename_i k b hg
   split at hk
   case h_3=>exact hk.elim
   case h_2 =>
    rename_i hv
    refine fin (s1:=s.put o.o.dst (.tup [])) (ev:=none) (x:=⟨i,[],[],[],false,false⟩) ⟨⟨k,b,hg,.inr hv⟩,?_,by rw [dd],rfl,rfl,rfl⟩ rfl (by rintro ⟨hr,_⟩;cases hr) (fun y hy=>.inr (.inl ⟨?_,?_,?_,?_,?_,?_,?_,?_⟩)) ?_ hk
    ·rw [dV]
    ·intro d _;exact ⟨by simp,by simp⟩
    ·intro d hd;cases hd
    ·intro hr;cases hr
    ·intro _ d hd hd2;cases hd2
    ·rintro ⟨hr,_⟩;cases hr
    ·rintro ⟨_,hr⟩;cases hr
    ·rintro ⟨hr,_⟩;cases hr
    ·exact hnw y hy
    ·intro d hd
     rcases hd with hd | hd
     ·simp [ib,aF] at hd
     ·simp [cN,aP.ids] at hd
   rename_i t hv
   by_cases htb:t=b
   ·exact run (jR hv htb) (dd _ _ _) (fun k' b' hkb=>by rw [hg] at hkb;cases hkb;rw [hv,htb]) (hk.1 htb)
   ·have htb':t = !b:=by cases t<;>cases b<;>simp_all
    refine fin (s1:=(s.put (some k) (.bool (!b))).put o.o.dst (.tup [])) (ev:=none) (x:=⟨i,[],[],[],false,false⟩) ⟨⟨k,b,hg,.inl (by rw [hv,htb'])⟩,?_,by rw [dd,dd],rfl,rfl,rfl⟩ rfl (by rintro ⟨hr,_⟩;cases hr) (fun y hy=>.inr (.inl ⟨?_,?_,?_,?_,?_,?_,?_,?_⟩)) ?_ (hk.2 htb')
    ·rw [dV,jR hv htb']
    ·intro d _;exact ⟨by simp,by simp⟩
    ·intro d hd;cases hd
    ·intro hr;cases hr
    ·intro _ d hd hd2;cases hd2
    ·rintro ⟨hr,_⟩;cases hr
    ·rintro ⟨_,hr⟩;cases hr
    ·rintro ⟨hr,_⟩;cases hr
    ·exact hnw y hy
    ·intro d hd
     rcases hd with hd | hd
     ·simp [ib,aF,fk,bU,cG] at hd
     ·simp [cN,aP.ids] at hd
theorem lR [Cl] (hone:mR al) (l:List av) (i:Nat) (hist:List HI) (s:St) (K:St→Prop) (hk:fj P al i l hist s K) (hu:Un al (fun m=>i≤m) (get s.env) (ae s.heap)) (hnw:∀y∈hist,¬(y.rb=true∧y.wr=true))
  (hl:∀(j:Nat) (o:av),l[j]? = some o→(pE o.o=true→(o.o.dst.getD 0,i+j)∈al)∧(∀m∈o.bef,m<i+j)∧bg o.o.op=true) :
  ∃(items:List Item) (s':St),K s'∧T P items (get s.env) (ae s.heap) (get s'.env) (ae s'.heap)∧oq al hist items∧items.map Item.i=List.range' i l.length∧items.map (fun t=>(⟨t.o,t.bef⟩:av))=l:=ik hone l i hist s _ hk hu hnw hl
theorem FV:∀(A:List Item) {t:Item} {g:Nat→AV} {h:Nat→Option ah} {g1:Nat→AV} {h1:Nat→Option ah} {g':Nat→AV} {h':Nat→Option ah},T P A g h g1 h1→dh P t.o g1 h1 t.ev t.x g' h'→T P (A++[t]) g h g' h'
 | [],t,g,h,g1,h1,g',h',⟨e1,e2⟩,hs=>by subst e1 e2;exact ⟨_,_,hs,rfl,rfl⟩
 | a :: A,t,g,h,g1,h1,g',h',⟨g2,h2,s1,ht⟩,hs=>⟨g2,h2,s1,FV A ht hs⟩
theorem qy:∀(A:List Item) {hist:List HI} {t:Item},oq al hist A→t.x.i=t.i→(∀y∈(A.map Item.x).reverse++hist,y.i∈t.bef∨Mt t.x y)→(∀d,d∈aF (ib t.ev)∨d∈(cN t.ev).ids→∀m,(d,m)∈al→m=t.i∨m∈t.bef)→oq al hist (A++[t])
 | [],hist,t,_,h1,h2,h3=>⟨h1,by simpa using h2,h3,trivial⟩
 | a :: A,hist,t,⟨q1,q2,q3,q4⟩,h1,h2,h3=>⟨q1,q2,q3,qy A q4 h1 (by simpa using h2) h3⟩
theorem pS (hone:mR al) (l:List av) (s:St) (K:St→Prop) (hk:db P al 0 l.dropLast [] s fun hist s1=>match l.getLast? with
   | some o=>rY al (l.length - 1) o hist s1 K
   | none=>False) (hu:Un al (fun m=>0≤m) (get s.env) (ae s.heap))
  (hl:∀(j:Nat) (o:av),l[j]? = some o→(pE o.o=true→(o.o.dst.getD 0,0+j)∈al)∧(∀m∈o.bef,m<0+j)∧bg o.o.op=true) :
  ∃(items:List Item) (s':St),K s'∧T P items (get s.env) (ae s.heap) (get s'.env) (ae s'.heap)∧oq al [] items∧items.map Item.i=List.range' 0 l.length∧items.map (fun t=>(⟨t.o,t.bef⟩:av))=l:=by
 obtain ⟨A,s1,h1,h2,h3,h4,h5⟩:=ik hone l.dropLast 0 [] s _ hk hu (fun y hy=>by cases hy) (fun j o hj=>hl j o (by
  rw [List.dropLast_eq_take,List.getElem?_take] at hj
  split at hj
  ·exact hj
  ·cases hj))
 cases hlast:l.getLast? with
 | none=>rw [hlast] at h1;exact h1.elim
 | some o =>
  rw [hlast] at h1
  simp only at h1
  have hne:l≠[]:=fun e=>by rw [e] at hlast;cases hlast
  have hll:l=l.dropLast++[o]:=by
   have:=List.dropLast_concat_getLast hne
   rw [List.getLast?_eq_some_getLast hne] at hlast
   cases hlast
   exact this.symm
  have hlen:l.dropLast.length=l.length - 1:=List.length_dropLast
  have hpos:=List.length_pos_iff.2 hne
  unfold rY at h1
  split at h1
  case h_2=>exact h1.elim
  rename_i t st x y hop
  obtain ⟨hg,h1⟩:=h1
  split at h1
  case h_2=>exact h1.elim
  rename_i v e hev
  obtain ⟨k1,k2,k3,k4,k5⟩:=h1
  have hst:dh P o.o (get s1.env) (ae s1.heap) (some (v,e)) ⟨l.length - 1,bx (.app t st x y) s1.env,aF v++e.ids,e.tch,true,true⟩ (get ((s1.eff e).put o.o.dst v).env) (ae ((s1.eff e).put o.o.dst v).heap):=by
   refine ⟨(fun k b hkb=>by rw [hg] at hkb;cases hkb),⟨?_,?_,?_,(fun hn=>absurd ⟨rfl,rfl⟩ hn),fun j ob he=>?_,fun d hd=>dw.2 hd,rfl,k2.symm,.inr ⟨rfl,rfl⟩,?_,?_,fun hh=>by cases hh⟩⟩
   ·unfold qs
    rw [hop]
    exact .inl hev
   ·intro k hk he
    rw [hop] at hk
    have:=de.1 k1 k hk
    rw [he] at this
    cases this
   ·intro k hk id hid
    rw [hop] at hk
    exact .inl (gF.2 ⟨k,hk,hid⟩)
   ·subst he;cases k2
   ·rw [dV,jg]
   ·rw [dd,gN]
  refine ⟨A++[⟨l.length - 1,o.bef,o.o,some (v,e),⟨l.length - 1,bx (.app t st x y) s1.env,aF v++e.ids,e.tch,true,true⟩⟩],(s1.eff e).put o.o.dst v,k5,FV A (t:=⟨l.length - 1,o.bef,o.o,some (v,e),⟨l.length - 1,bx (.app t st x y) s1.env,aF v++e.ids,e.tch,true,true⟩⟩) h2 hst,qy A (t:=⟨l.length - 1,o.bef,o.o,some (v,e),⟨l.length - 1,bx (.app t st x y) s1.env,aF v++e.ids,e.tch,true,true⟩⟩) h3 rfl (fun z hz=>?_) (fun d (hd:d∈aF v∨d∈e.ids) m hm=>f5 k4 d (dw.2 hd) m hm),?_,?_⟩
  ·have:=de.1 k3 z (by simpa using hz)
   rw [oG] at this
   rcases this with q | q
   ·exact .inl (by simpa using q)
   ·simp only [tF,FQ,dK,List.isEmpty_iff,mA,de,List.contains_eq_mem,decide_eq_false_iff_not] at q
    exact .inr (.inr ⟨rfl,rfl,q.1.1.1.1,q.2,q.1.1.1.2,q.1.1.2,q.1.2⟩)
  ·rw [List.map_append,h4,hlen,List.map_singleton]
   conv=>rhs;rw [show l.length=(l.length - 1)+1 by omega,List.range'_concat]
   simp
  ·rw [List.map_append,h5,List.map_singleton]
   exact hll.symm
end
theorem ud {i:Nat} {o:ah} {x:AV} (h:mP i x=false):cT i o x=x:=by
 cases x<;>first | rfl | (simp only [mP,mz] at h;simp only [cT];rw [aV h])
theorem p6 {f:AV→Bool} {r:AV→AV} (hh:∀x,f x=false→r x=x):∀l:List AV,l.any f=false→l.map r=l
 | [],_=>rfl
 | y :: l,hl=>by
  simp only [List.any_cons,Bool.or_eq_false_iff] at hl
  simp only [dP,hh y hl.1,p6 hh l hl.2]
theorem pN {i:Nat} {o:ah} {x:AV} (h:mC i x=false):ci i o x=x:=by
 cases x with
 | fn f caps=>simp only [mC] at h;simp only [ci,p6 (fun x hx=>ud hx) caps h]
 | _=>simp only [mC] at h;simp only [ci];exact ud h
theorem uc {i:Nat} {o:ah} {x:AV} (h:mG i x=false):pO i o x=x:=by
 cases x with
 | agg cs=>simp only [mG] at h;simp only [pO,p6 (fun x hx=>pN hx) cs h]
 | _=>simp only [mG] at h;simp only [pO];exact pN h
theorem DG {i:Nat} {o:ah} {x:AV} (h:mV i x=false):kh i o x=x:=by
 cases x with
 | tup vs=>simp only [mV] at h;simp only [kh,p6 (fun x hx=>uc hx) vs h]
 | _=>simp only [mV] at h;simp only [kh];exact uc h
theorem DF {i:Nat} {o q:ah} (h:q.isRec=true→∀r∈q.rows,∀y∈r,mC i y=false):et i o q=q:=by
 unfold et
 split
 ·rename_i hr
  have:q.rows.map (fun r=>r.map (ci i o))=q.rows:=by
   conv=>rhs;rw [← List.map_id q.rows]
   refine List.map_congr_left fun r hr'=>?_
   conv=>rhs;rw [id,← List.map_id r]
   exact List.map_congr_left fun y hy=>pN (h hr r hr' y hy)
  rw [this]
 ·rfl
section
variable {P:Program} [aX P] {c:je} [CT c P] {a:Act} {w:World} {o:Oper} {io:aH} {ops:Array Oper} {n:Nat}
theorem tu {g g':Nat→AV} {h h':Nat→Option ah} {ev:Option (AV×aP)} {x:HI} {bl:Nat→Option Nat} (hc:jz P n ops o=some io) (hn:c.n=n) (hst:dh P io g h ev x g' h') (hs:aD c bl g h a w)
  (hnew:pE io=true→h (io.dst.getD 0)=none∧bP (io.dst.getD 0) g h∧(io.dst.getD 0<1000∨2000≤io.dst.getD 0)) {K:Act→World→Prop} {Q:Exit→Act→World→Prop}
  (hK:∀a' w' bl',aD c bl' g' h' a' w'→K a' w'):if Region.wanted o (yielded ops a.tmps) then o.wp P a w K Q∨(o.asks P a w∧LetsOut Q) else K (a.put o.dst undef) w:=by
 obtain ⟨h1,h2,h3,h4⟩:=jO hc
 have hd:∀k,io.dst=some k→k<c.n:=fun k hk=>by rw [hn];exact h3 k (h2▸hk)
 have putB:∀{bl:Nat→Option Nat} {g:Nat→AV} {h:Nat→Option ah} {w:World} {v:Value} {y:AV},aD c bl g h a w→aT bl (aY bl c.MF h) w v y→aD c bl (dg g io.dst y) h (a.put o.dst v) w:=fun {bl g h w v y} hsb hv=>by
  rw [← h2]
  cases hdd:io.dst with
  | none=>exact hsb
  | some d=>exact hsb.put (hd d hdd) hv
 have hwant:∀k b t,io.g=some (k,b)→g k = .bool t→Region.wanted o (yielded ops a.tmps)=(t==b):=fun k b t hg hv=>by
  rcases h4 with ⟨_,g2⟩ | ⟨j,b',k',g1,g2,g3⟩
  ·rw [g2] at hg;cases hg
  ·rw [g3] at hg
   cases hg
   have hk:=hs.env k
   rw [hv] at hk
   have hkv:=hk.bool
   rw [(ql (a:=a) (k:=k) (fun b hb=>by rw [hb] at hkv;cases hkv)).2] at hkv
   have hkn:k<a.tmps.size:=by
    rcases cB k a.tmps.size with hlt | hge
    ·exact hlt
    ·rw [iP,Array.getElem?_eq_none hge] at hkv
     cases hkv
   have hy:yielded ops a.tmps j=some t:=by
    have:a.tmps[k]? = some (.bool t):=by
     rw [iP,kD hkn] at hkv
     rw [kD hkn]
     simpa using hkv
    simp [yielded,g2,this]
   simp only [Region.wanted,g1,hy]
   cases t<;>cases b<;>rfl
 cases ev with
 | none =>
  obtain ⟨⟨k,b,hg,hv⟩,rfl,rfl,_⟩:=hst
  have hnw:¬Region.wanted o (yielded ops a.tmps)=true:=by
   rcases hv with hv | hv
   ·rw [hwant k b _ hg hv];cases b<;>simp
   ·rcases h4 with ⟨_,g2⟩ | ⟨j,b',k',g1,g2,g3⟩
    ·rw [g2] at hg;cases hg
    ·rw [g3] at hg
     cases hg
     have hk:=hs.env k
     rw [hv] at hk
     simp [Region.wanted,g1,jH (ops:=ops) g2 hk]
  rw [aV hnw]
  exact hK _ _ _ (putB hs (y:=.tup []) ⟨[],rfl,trivial⟩)
 | some p =>
  obtain ⟨v,e⟩:=p
  obtain ⟨hgd,hf⟩:=hst
  have hw:Region.wanted o (yielded ops a.tmps)=true:=by
   rcases h4 with ⟨g1,_⟩ | ⟨j,b',k',g1,g2,g3⟩
   ·simp [Region.wanted,g1]
   ·rw [hwant k' b' b' g3 (hgd k' b' g3)];simp
  rw [bz hw]
  refine .inl ?_
  have hr:=hf.run
  unfold qs at hr
  split at hr
  ·rename_i f args hop
   rw [hop] at h1
   obtain ⟨cl,hoo,hcl,hb,hv⟩:=qS h1
   rcases hr with ⟨rfl,_,args',b,q1,q2,q3,q4⟩ | ⟨k,ob,ob',Sb,rfl,q1,q2,q3,q4,_⟩ | ⟨d,ob,st,off,len,Sb,hdd,rfl,rfl,hrc,q2⟩
   rotate_left 2
   ·obtain ⟨u1,u2,u3⟩:=hnew (by simp [pE,hop,hdd])
    rw [hdd] at u1 u2 u3
    simp only [Option.getD_some] at u1 u2 u3
    refine eS (f:=f) (args:=cl.args.map a.eval) ?_ ?_
    ·have:=ej (w:=w) hb (cl.args.map a.eval)
     simp [execOp,hoo,resolve,hcl,Act.eval,Deferred.ofValue,invoke,this]
    ·have:=nJ hs q2 (fQ hs hv) (fun id o hi=>by cases hi) [d] (fun r σ' hP id hid=>by
      obtain ⟨rfl,rfl⟩:=hP
      simp only [ae] at hid
      split at hid
      ·rename_i hki;subst hki;exact .inr ⟨by simp,u3,.inr u1⟩
      ·cases hid)
     simp only [Array.toArray_toList] at this
     refine this.mono fun e' w' ⟨u,r,σ',bl2,he,hP,hs',hv'⟩=>⟨u,he,?_⟩
     obtain ⟨rfl,rfl⟩:=hP
     have eg:(fun j=>iI [d] (g j))=g:=by funext j;simp [iI,u2.1 j]
     have eh:uA [d] (ae []) (ae [(d,ob)]) h=(aP.new d ob).hp h:=by
      funext j
      simp only [uA,ae,aP.hp,cI]
      by_cases hj:d=j
      ·subst hj;simp
      ·have hj':¬j=d:=fun e=>hj e.symm
       simp only [aV hj,aV hj']
       cases hq:h j with
       | none=>rfl
       | some q =>
        simp only [Option.isSome_none,rZ,j8,dM]
        congr 1
        unfold dT
        split
        ·rename_i hr2
         have e:q.rows.map (fun r=>r.map (kq [d]))=q.rows:=by
          refine (List.map_congr_left fun r hm=>?_).trans (List.map_id _)
          refine (List.map_congr_left fun x hx=>?_).trans (List.map_id _)
          simp [kq,u2.2 j q hq hr2 r hm x hx]
         rw [e]
        ·rfl
     rw [eg,eh] at hs'
     rw [eh] at hv'
     refine hK _ _ bl2 ?_
     rw [hf.hg,hf.hh]
     exact putB hs' hv'
   rotate_left
   ·refine eS (f:=f) (args:=cl.args.map a.eval) ?_ ?_
    ·have:=ej (w:=w) hb (cl.args.map a.eval)
     simp [execOp,hoo,resolve,hcl,Act.eval,Deferred.ofValue,invoke,this]
    ·have hσ:∀id o,ae [(k,ob)] id=some o→h id=some o:=fun id o hi=>by
      simp only [ae] at hi
      split at hi
      ·rename_i hki;subst hki;cases hi;exact q4
      ·cases hi
     have:=nJ hs q2 (fQ hs hv) hσ [] (fun r σ' hP id hid=>by
      obtain ⟨rfl,rfl⟩:=hP
      simp only [ae] at hid
      split at hid
      ·rename_i hki;subst hki;exact .inl ⟨q3,by simp [ae]⟩
      ·cases hid)
     simp only [Array.toArray_toList] at this
     refine this.mono fun e' w' ⟨u,r,σ',bl2,he,hP,hs',hv'⟩=>⟨u,he,?_⟩
     obtain ⟨rfl,rfl⟩:=hP
     have eg:(fun j=>iI [] (g j))=g:=by funext j;simp [iI]
     have eh:uA [] (ae [(k,ob)]) (ae [(k,ob')]) h=(aP.put k ob').hp h:=by
      funext j
      simp only [uA,ae,aP.hp,cI]
      by_cases hj:k=j
      ·subst hj;simp
      ·have hj':¬j=k:=fun e=>hj e.symm
       have:dT []=id:=by funext o;unfold dT kq;simp
       simp [hj,hj',this]
     rw [eg,eh] at hs'
     rw [eh] at hv'
     refine hK _ _ bl2 ?_
     rw [hf.hg,hf.hh]
     exact putB hs' hv'
   refine eS (f:=f) (args:=cl.args.map a.eval) ?_ ?_
   ·have:=ej (w:=w) hb (cl.args.map a.eval)
    simp [execOp,hoo,resolve,hcl,Act.eval,Deferred.ofValue,invoke,this]
   ·have:=pn hs q1 (fQ hs hv) q2 b q3 q4
    simp only [Array.toArray_toList] at this
    refine this.mono fun e' w' ⟨u,he,hs',hv'⟩=>⟨u,he,?_⟩
    refine hK _ _ bl ?_
    rw [hf.hg,hf.hh]
    exact putB hs' hv'
  ·exact hr.elim
  ·rcases hr with hr | ⟨rfl,hal,t,st,rows,rfl,hr⟩
   ·refine kz (sm hs h1 hr fun q=>hnew (jL q)) (fun r w' bl' q1 q2=>hK _ _ bl' ?_)
    rw [hf.hg,hf.hh]
    exact putB q1 q2
   ·refine kz (sm hs h1 hr fun q=>hnew (jL q)) (fun r w' bl' q1 q2=>hK _ _ bl' ?_)
    obtain ⟨u1,u2,_⟩:=hnew (jL hal)
    obtain ⟨f1,f2⟩:=q1.freeze (i:=io.dst.getD 0) (o:=⟨t,st,rows,false⟩) (by simp [aP.hp,cI]) rfl
    have f3:=f2 _ _ q2
    have e1:(fun k=>kh (io.dst.getD 0) ⟨t,st,rows,false⟩ ((aP.new (io.dst.getD 0) ⟨t,st,rows,false⟩).env g k))=g:=funext fun k=>DG (u2.1 k)
    have e2:(fun j=>if j=io.dst.getD 0 then none else ((aP.new (io.dst.getD 0) ⟨t,st,rows,false⟩).hp h j).map (et (io.dst.getD 0) ⟨t,st,rows,false⟩))=h:=funext fun j=>by
     by_cases hj:j=io.dst.getD 0
     ·rw [bz hj,hj,u1]
     ·rw [aV hj]
      simp only [aP.hp,cI,aV hj]
      cases hq:h j with
      | none=>rfl
      | some q=>simp only [dM];rw [DF fun hr=>u2.2 j q hq hr]
    have e3:kh (io.dst.getD 0) ⟨t,st,rows,false⟩ (.ms (io.dst.getD 0) st 0 rows.length) = .sl st rows:=by simp [kh,pO,ci,cT]
    rw [e1,e2] at f1
    rw [e2,e3] at f3
    rw [hf.hg,hf.hh]
    exact putB f1 f3
theorem ep {listed:Array Bool} {i:Nat}:i∈Region.ready .any ops listed↔i<ops.size∧listed.getD i true=false∧∃o,ops[i]? = some o∧∀d∈fe o,listed.getD d false=true:=by
 unfold Region.ready
 simp only [List.mem_filter,List.mem_range,dK,mA]
 refine ⟨fun ⟨h1,h2,h3⟩=>⟨h1,h2,ops[i],kD h1,?_⟩,fun ⟨h1,h2,o,h3,h4⟩=>⟨h1,h2,?_⟩⟩
 ·rw [kD h1] at h3
  simp only [dM,Option.getD_some,Array.all_eq_true_iff_forall_mem,oG,mA] at h3
  intro d hd
  simp only [fe,List.mem_map,List.mem_filter,Array.mem_toList_iff] at hd
  obtain ⟨e,⟨he1,he2⟩,rfl⟩:=hd
  rcases h3 e he1 with h5 | h5
  ·rw [he2] at h5;cases h5
  ·exact h5
 ·rw [h3]
  simp only [dM,Option.getD_some,Array.all_eq_true_iff_forall_mem,oG,mA]
  intro e he
  cases hb:Region.binds .any e with
  | false=>exact .inl rfl
  | true =>
   refine .inr (h4 e.on ?_)
   simp only [fe,List.mem_map,List.mem_filter,Array.mem_toList_iff]
   exact ⟨e,⟨he,hb⟩,rfl⟩
structure fK (ops:Array Oper) (bs:List (List Nat)):Prop where
 lt:∀i o,ops[i]? = some o→∀d∈fe o,d<i
 via:∀i o,ops[i]? = some o→∀d∈bs.getD i [],d∈fe o∨∃m∈fe o,d∈bs.getD m []
theorem s5 {bs:List (List Nat)} (h:Gf ops.toList bs=true):fK ops bs:=by
 have key:∀i o,ops[i]? = some o→(∀d∈fe o,d<i)∧∀d∈bs.getD i [],d∈fe o∨∃m∈fe o,d∈bs.getD m []:=fun i o hi=>by
  have hlt:i<ops.toList.length:=by
   have:=(j9.1 hi).1
   simpa using this
  have:=de.1 h i (List.mem_range.2 hlt)
  have hi':ops.toList[i]? = some o:=by rw [Array.getElem?_toList];exact hi
  simp only [hi',dK,de,j6,oG,List.any_eq_true,List.contains_eq_mem] at this
  exact this
 exact ⟨fun i o hi=>(key i o hi).1,fun i o hi=>(key i o hi).2⟩
theorem fK.bef_lt {bs:List (List Nat)} (hO:fK ops bs):∀(i:Nat) (o:Oper),ops[i]? = some o→∀d∈bs.getD i [],d<i:=by
 intro i
 induction i using Nat.strongRecOn with
 | _ i ih =>
  intro o hi d hd
  rcases hO.via i o hi d hd with h1 | ⟨m,h1,h2⟩
  ·exact hO.lt i o hi d h1
  ·have hm:=hO.lt i o hi m h1
   have hms:m<ops.size:=Nat.lt_trans hm (j9.1 hi).1
   have:=ih m hm ops[m] (kD hms) d h2
   omega
theorem fK.listed {bs:List (List Nat)} (hO:fK ops bs) {p:Nat→Prop} (hdc:∀i o,p i→ops[i]? = some o→∀d∈fe o,p d):∀(i:Nat) (o:Oper),ops[i]? = some o→(∀d∈fe o,p d)→∀d∈bs.getD i [],p d:=by
 intro i
 induction i using Nat.strongRecOn with
 | _ i ih =>
  intro o hi he d hd
  rcases hO.via i o hi d hd with h1 | ⟨m,h1,h2⟩
  ·exact he d h1
  ·have hm:=hO.lt i o hi m h1
   have hms:m<ops.size:=Nat.lt_trans hm (j9.1 hi).1
   exact ih m hm ops[m] (kD hms) (hdc m _ (he m h1) (kD hms)) d h2
theorem vk (hn:c.n=n) {al:List (Nat×Nat)} (hone:mR al) (hal:∀d m,(d,m)∈al→d<1000) {bs:List (List Nat)} (hO:fK ops bs) {gf:Nat→AV} {hf:Nat→Option ah} {Q:Exit→Act→World→Prop} (off fuel0:Nat) (Z:Nat→Prop)
  (hQ:∀(listed:Array Bool) a w bl,listed.size=ops.size→(∀j,j<ops.size→(listed.getD j true=false↔Z j))→aD c bl gf hf a w→wpAny P .any ops Q fuel0 listed a w):∀(fuel:Nat) (R:List Item) (listed:Array Bool) (g:Nat→AV) (h:Nat→Option ah) (a:Act) (w:World) (bl:Nat→Option Nat),R.length=fuel→listed.size=ops.size →
   aD c bl g h a w→T P R g h gf hf→Un al (fun m=>∃t∈R,t.i=m) g h →
   (∀j,j<ops.size→(listed.getD j true=false↔(∃t∈R,off+t.i=j)∨Z j)) →
   (∀j,Z j→∀t∈R,off+t.i∈bs.getD j []) →
   (∀i o,listed.getD i false=true→ops[i]? = some o→∀d∈fe o,listed.getD d false=true) →
   (∀t∈R,∃o,ops[off+t.i]? = some o∧jz P n ops o=some t.o∧(∀d∈t.bef,off+d∈bs.getD (off+t.i) [])∧bg t.o.op=true∧(pE t.o=true→(t.o.dst.getD 0,t.i)∈al) ∧
    (∀d,d∈aF (ib t.ev)∨d∈(cN t.ev).ids→∀m,(d,m)∈al→m=t.i∨m∈t.bef)) →
   R.Pairwise (fun m t=>m.i<t.i∧(m.i∈t.bef∨(oH m.o t.o∧Mt t.x m.x)))→wpAny P .any ops Q (fuel+fuel0) listed a w:=by
 intro fuel
 induction fuel with
 | zero =>
  intro R listed g h a w bl hlen hsz hs ht hu hli hbk hdc hit hpw
  have hR:R=[]:=List.length_eq_zero_iff.1 hlen
  subst hR
  obtain ⟨rfl,rfl⟩:=ht
  rw [Nat.zero_add]
  refine hQ listed a w bl hsz (fun j hj=>?_) hs
  rw [hli j hj]
  refine ⟨fun hh=>?_,.inr⟩
  rcases hh with ⟨t,ht,_⟩ | hh
  ·cases ht
  ·exact hh
 | succ fuel ih =>
  intro R listed g h a w bl hlen hsz hs ht hu hli hbk hdc hit hpw
  have hgetD:∀j,j<ops.size→listed.getD j true=listed.getD j false:=fun j hj=>by
   have:j<listed.size:=by omega
   simp [iP,kD this]
  rw [Nat.add_right_comm]
  refine ⟨fun hr=>?_,fun i hi=>?_⟩
  ·
   exfalso
   cases R with
   | nil=>simp at hlen
   | cons t R =>
    obtain ⟨o,h1,_⟩:=hit t (by simp)
    have hlt:=(j9.1 h1).1
    have:off+t.i∈Region.ready .any ops listed:=ep.2 ⟨hlt,(hli (off+t.i) hlt).2 (.inl ⟨t,by simp,rfl⟩),o,h1,fun d hd=>by
     have hdl:=hO.lt (off+t.i) o h1 d hd
     have hds:d<ops.size:=by omega
     cases hv:listed.getD d false with
     | true=>rfl
     | false =>
      rw [← hgetD d hds] at hv
      rcases (hli d hds).1 hv with ⟨q,hq,hqi⟩ | hz
      ·rcases cj.1 hq with rfl | hq
       ·omega
       ·have:=((List.pairwise_cons.1 hpw).1 q hq).1
        omega
      ·have h5:=hbk d hz t (by simp)
       have h6:=hO.bef_lt d ops[d] (kD hds) _ h5
       omega⟩
    rw [hr] at this
    cases this
  ·obtain ⟨h1,h2,o,h3,h4⟩:=ep.1 hi
   have hbefs:∀d∈bs.getD i [],listed.getD d false=true:=hO.listed hdc i o h3 h4
   have hiR:∃t∈R,off+t.i=i:=by
    rcases (hli i h1).1 h2 with hh | hz
    ·exact hh
    ·exfalso
     cases R with
     | nil=>simp at hlen
     | cons t R =>
      have h5:=hbefs _ (hbk i hz t (by simp))
      obtain ⟨ot,hot,_⟩:=hit t (by simp)
      have hl:=(j9.1 hot).1
      have h6:=(hli (off+t.i) hl).2 (.inl ⟨t,by simp,rfl⟩)
      rw [hgetD _ hl,h5] at h6
      cases h6
   obtain ⟨t,htR,hti⟩:=hiR
   subst hti
   obtain ⟨A,B,rfl⟩:=List.append_of_mem htR
   obtain ⟨o',q1,q2,q3,q4,q5,q6⟩:=hit t (by simp)
   rw [h3] at q1
   cases q1
   have hbef:∀d∈t.bef,listed.getD (off+d) false=true:=fun d hd=>hbefs _ (q3 d hd)
   have hpA:∀m∈A,m.i<t.i∧(m.i∈t.bef∨(oH m.o t.o∧Mt t.x m.x)):=fun m hm=>(List.pairwise_append.1 hpw).2.2 m hm t (by simp)
   have hun:∀m∈A++B,m.i≠t.i:=fun m hm=>by
    rcases dw.1 hm with hm | hm
    ·have:=(hpA m hm).1;omega
    ·have:=((List.pairwise_cons.1 (List.pairwise_append.1 hpw).2.1).1 m hm).1;omega
   have hnot:∀m∈A++t :: B,listed.getD (off+m.i) false=false:=fun m hm=>by
    obtain ⟨om,hom,_⟩:=hit m hm
    have hl:=(j9.1 hom).1
    rw [← hgetD (off+m.i) hl]
    exact (hli (off+m.i) hl).2 (.inl ⟨m,hm,rfl⟩)
   obtain ⟨g1,hh1,hst,hT⟩:=F2 A t B g h gf hf ht (fun m hm=>by
    rcases (hpA m hm).2 with hb | hb
    ·have:=hbef m.i hb
     rw [hnot m (by simp [hm])] at this
     cases this
    ·exact hb) (fun m hm=>by obtain ⟨_,_,_,_,q,_⟩:=hit m (by simp [hm]);exact q) q4
   unfold wpOp
   rw [h3]
   simp only
   have hu':Un al (fun m=>∃q∈A++B,q.i=m) g1 hh1:=Un.step hst hu q4 q6 (fun m hm ⟨q,hq,hqi⟩=>by
    have:=hbef m hm
    rw [← hqi,hnot q (by
     rcases dw.1 hq with hq | hq
     ·simp [hq]
     ·simp [hq])] at this
    cases this) q5 hone (fun m ⟨q,hq,hqi⟩=>⟨⟨q,by
     rcases dw.1 hq with hq | hq
     ·simp [hq]
     ·simp [hq],hqi⟩,by rw [← hqi];exact hun q hq⟩)
   refine tu q2 hn hst hs (fun ha=>?_) (fun a' w' bl' hs'=>?_)
   ·obtain ⟨u1,u2⟩:=hu _ t.i (q5 ha) ⟨t,by simp,rfl⟩
    exact ⟨u1,u2,.inl (hal _ _ (q5 ha))⟩
   ·refine ih (A++B) (listed.setIfInBounds (off+t.i) true) g1 hh1 a' w' bl' (by simp at hlen ⊢;omega) (by simpa using hsz) hs' hT hu' (fun j hj=>?_) (fun j hz m hm=>hbk j hz m ?_) (fun j oj hj hoj d hd=>?_) (fun m hm=>?_) ?_
    ·have hset:(listed.setIfInBounds (off+t.i) true).getD j true=if off+t.i=j then true else listed.getD j true:=by
      simp only [iP,qp]
      split
      ·rename_i e;subst e;simp [hsz,h1]
      ·rfl
     rw [hset]
     constructor
     ·intro hv
      split at hv
      ·cases hv
      ·rename_i hne
       rcases (hli j hj).1 hv with ⟨q,hq,hqi⟩ | hz
       ·refine .inl ⟨q,?_,hqi⟩
        rcases dw.1 hq with hq | hq
        ·simp [hq]
        ·rcases cj.1 hq with rfl | hq
         ·exact absurd hqi hne
         ·simp [hq]
       ·exact .inr hz
     ·rintro (⟨q,hq,hqi⟩ | hz)
      ·rw [aV (fun e=>hun q hq (by omega))]
       refine (hli j hj).2 (.inl ⟨q,?_,hqi⟩)
       rcases dw.1 hq with hq | hq
       ·simp [hq]
       ·simp [hq]
      ·rw [aV (fun e=>by
        subst e
        have h5:=hbk _ hz t (by simp)
        have h6:=hO.bef_lt _ _ h3 _ h5
        omega)]
       exact (hli j hj).2 (.inr hz)
    ·rcases dw.1 hm with hm | hm
     ·simp [hm]
     ·simp [hm]
    ·have hset:∀k,(listed.setIfInBounds (off+t.i) true).getD k false=if off+t.i=k then true else listed.getD k false:=fun k=>by
      simp only [iP,qp]
      split
      ·rename_i e;subst e;simp [hsz,h1]
      ·rfl
     rw [hset] at hj ⊢
     split
     ·rfl
     ·split at hj
      ·rename_i e
       subst e
       rw [h3] at hoj
       cases hoj
       exact h4 d hd
      ·exact hdc j oj hj hoj d hd
    ·refine hit m ?_
     rcases dw.1 hm with hm | hm
     ·simp [hm]
     ·simp [hm]
    ·have hsub:(A++B).Sublist (A++t :: B):=List.Sublist.append_left (List.sublist_cons_self t B) A
     exact hpw.sublist hsub
end
def LQ (c:je) (K:IX→St→Prop):Exit→Act→World→Prop
 | .normal,a,w=>∃s,K .nrm s∧bM c s a w
 | .ret,a,w=>∃s,K .ret s∧bM c s a w
 | .exit id,a,w=>∃s,K (.ext id) s∧bM c s a w
 | _,_,_=>False
section
variable {P:Program} [aX P] {c:je} [CT c P] {n:Nat}
theorem rj {p:Nat→Prop} (h:∃n,p n):∃n,p n∧∀m,m<n→¬p m:=by
 obtain ⟨n,hn⟩:=h
 induction n using Nat.strongRecOn with
 | _ n ih =>
  by_cases hm:∃m,m<n∧p m
  ·obtain ⟨m,h1,h2⟩:=hm
   exact ih m h1 h2
  ·exact ⟨n,hn,fun m h1 h2=>hm ⟨m,h1,h2⟩⟩
open Classical in
theorem xf {x:Code} {Q:Exit→Act→World→Prop} {a:Act} {w:World} (I:Nat→Act→World→Prop) (h0:∃n,I n a w)
  (round:∀n a w,I n a w→x.wp P (Exit.then (fun a' w'=>∃m,m<n∧I m a' w') Q) a w):(Code.loop x).wp P Q a w:=by
 refine wp_loop (fun a w=>∃n,I n a w) (fun a w=>if h:∃n,I n a w then Classical.choose (rj h) else 0) h0 (fun a w hI=>?_)
 have hc:=Classical.choose_spec (rj hI)
 refine Code.wp_mono (fun e a' w' hq=>?_) (round _ a w hc.1)
 cases e<;>try exact hq
 obtain ⟨m,hm,hI'⟩:=hq
 refine ⟨⟨m,hI'⟩,?_⟩
 rw [dif_pos ⟨m,hI'⟩,dif_pos hI]
 have hc':=Classical.choose_spec (rj (p:=fun n=>I n a' w') ⟨m,hI'⟩)
 rcases cB m (Classical.choose (rj (p:=fun n=>I n a' w') ⟨m,hI'⟩)) with h1 | h1
 ·exact absurd hI' (hc'.2 m h1)
 ·omega
theorem iW {ops:Array Oper}:∀{l:List Oper} {il:List aH},m4 P n ops l=some il→il.length=l.length∧∀(j:Nat) (io:aH),il[j]? = some io→∃o,l[j]? = some o∧jz P n ops o=some io
 | [],il,h=>by simp only [m4,bO] at h;subst h;simp
 | o :: r,il,h=>by
  simp only [m4] at h
  split at h
  case h_2=>cases h
  rename_i x xs h1 h2
  cases h
  obtain ⟨h3,h4⟩:=iW h2
  refine ⟨by simp [h3],fun j io hj=>?_⟩
  cases j with
  | zero=>simp at hj;subst hj;exact ⟨o,by simp,h1⟩
  | succ j=>simp at hj;obtain ⟨o',h5,h6⟩:=h4 j io hj;exact ⟨o',by simpa using h5,h6⟩
theorem iT:∀(l:List aH) (i:Nat) (d m:Nat),(d,m)∈bR i l↔∃j o,l[j]? = some o∧pE o=true∧d=o.dst.getD 0∧m=i+j
 | [],i,d,m=>by simp [bR]
 | o :: r,i,d,m=>by
  have ih:=iT r (i+1) d m
  have key:(∃j o',(o :: r)[j]? = some o'∧pE o'=true∧d=o'.dst.getD 0∧m=i+j)↔(pE o=true∧d=o.dst.getD 0∧m=i)∨∃j o',r[j]? = some o'∧pE o'=true∧d=o'.dst.getD 0∧m=i+1+j:=by
   constructor
   ·rintro ⟨j,o',h1,h2,h3,h4⟩
    cases j with
    | zero=>simp at h1;subst h1;exact .inl ⟨h2,h3,by omega⟩
    | succ j=>exact .inr ⟨j,o',by simpa using h1,h2,h3,by omega⟩
   ·rintro (⟨h2,h3,h4⟩ | ⟨j,o',h1,h2,h3,h4⟩)
    ·exact ⟨0,o,by simp,h2,h3,by omega⟩
    ·exact ⟨j+1,o',by simpa using h1,h2,h3,by omega⟩
  rw [key,← ih]
  by_cases ha:pE o=true
  ·rw [show bR i (o :: r)=(o.dst.getD 0,i) :: bR (i+1) r from by simp [bR,ha]]
   simp [ha]
  ·rw [show bR i (o :: r)=bR (i+1) r from by simp [bR,ha]]
   simp [ha]
theorem lV:∀{l:List Nat},p_ l=true→l.Nodup
 | [],_=>by simp
 | x :: r,h=>by
  simp only [p_,dK,mA,List.contains_eq_mem,decide_eq_false_iff_not] at h
  exact List.nodup_cons.2 ⟨h.1,lV h.2⟩
theorem yz {al:List (Nat×Nat)} (h:(al.map (·.1)).Nodup):mR al:=by
 induction al with
 | nil=>intro d m m' h1;cases h1
 | cons p r ih =>
  simp only [dP,List.nodup_cons] at h
  intro d m m' h1 h2
  rcases cj.1 h1 with e1 | h1<;>rcases cj.1 h2 with e2 | h2
  ·rw [← e1] at e2;cases e2;rfl
  ·exact absurd (List.mem_map.2 ⟨(d,m'),h2,by rw [← e1]⟩) h.1
  ·exact absurd (List.mem_map.2 ⟨(d,m),h1,by rw [← e2]⟩) h.1
  ·exact ih h.2 d m m' h1 h2
theorem gy:∀(l:List Nat) (s:St) (d:Nat),(ae s.heap d=none∧bP d (get s.env) (ae s.heap))∨d∈l→ae (kills l s).heap d=none∧bP d (get (kills l s).env) (ae (kills l s).heap)
 | [],s,d,h=>by rcases h with h | h;exact h;cases h
 | i :: r,s,d,h=>by
  refine gy r (s.kill i) d ?_
  by_cases hd:d=i
  ·subst hd;exact .inl (bV s d)
  ·rcases h with ⟨h1,h2⟩ | h
   ·refine .inl ⟨by simp [St.kill,dH,cF,h1],fun k=>?_,fun j o hj hr q hq x hx=>?_⟩
    ·simp only [St.kill,fh]
     unfold eC
     split
     ·rfl
     ·exact h2.1 k
    ·simp only [St.kill,dH,cF,cq] at hj
     obtain ⟨o0,h3,rfl⟩:=hj
     split at h3
     ·cases h3
     ·rw [i5] at hr
      simp only [cH,hr,fv,List.mem_map] at hq
      obtain ⟨q0,hq0,rfl⟩:=hq
      obtain ⟨x0,hx0,rfl⟩:=List.mem_map.1 hx
      unfold bW
      split
      ·rfl
      ·exact h2.2 j o0 h3 hr q0 hq0 x0 hx0
   ·rcases cj.1 h with h | h
    ·exact absurd h hd
    ·exact .inr h
theorem nr {al:List (Nat×Nat)}:∀{items:List Item} {hist:List HI},oq al hist items→(∀t∈items,(∀y∈hist,y.i∈t.bef∨Mt t.x y)∧t.x.i=t.i∧(∀d,d∈aF (ib t.ev)∨d∈(cN t.ev).ids→∀m,(d,m)∈al→m=t.i∨m∈t.bef)) ∧
  items.Pairwise (fun m t=>m.i∈t.bef∨Mt t.x m.x)
 | [],_,_=>⟨by simp,List.Pairwise.nil⟩
 | t :: R,hist,h=>by
  obtain ⟨h1,h2,h3,h4⟩:=h
  obtain ⟨h5,h6⟩:=nr h4
  refine ⟨fun q hq=>?_,List.pairwise_cons.2 ⟨fun q hq=>?_,h6⟩⟩
  ·rcases cj.1 hq with rfl | hq
   ·exact ⟨h2,h1,h3⟩
   ·exact ⟨fun y hy=>(h5 q hq).1 y (by simp [hy]),(h5 q hq).2⟩
  ·have:=(h5 q hq).1 t.x (by simp)
   rwa [h1] at this
theorem rG (l:List Nat):∀(f k:Nat),(∀d,d<k→d∈l)→∀d,d<gY l f k→d∈l
 | 0,k,h=>h
 | f+1,k,h=>by
  simp only [gY]
  split
  ·rename_i hc
   refine rG l f (k+1) (fun d hd=>?_)
   rcases cB d k with h1 | h1
   ·exact h d h1
   ·obtain rfl:d=k:=by omega
    simpa using hc
  ·exact h
def se (bs:List (List Nat)) (N:Nat):Nat→List aH→List (Nat×List aH)→Prop
 | _,l,[]=>l=[]
 | i,l,(k,s) :: t=>k=i∧s≠[]∧∃r,l=s++r∧se bs N (i+s.length) r t∧(t≠[]→∀j,i+s.length≤j→j<N→∀d,d<i+s.length→d∈bs.getD j [])
theorem uQ (bs:List (List Nat)) (N:Nat):∀(l:List aH) (i:Nat),i+l.length=N→se bs N i l (rQ bs i l).1∧∀j,i≤j→j<N→(rQ bs i l).2≤gY (bs.getD j []) j 0
 | [],i,h=>⟨rfl,fun j h1 h2=>by simp at h;omega⟩
 | o :: r,i,h=>by
  simp only [oh] at h
  obtain ⟨h1,h2⟩:=uQ bs N r (i+1) (by omega)
  have hm:∀(m:Nat),m=(rQ bs (i+1) r).2→∀j,i≤j→j<N→min m (gY (bs.getD i []) i 0)≤gY (bs.getD j []) j 0:=fun m hm j h3 h4=>by
   rcases cB i j with h5 | h5
   ·exact gc (Nat.min_le_left _ _) (by rw [hm];exact h2 j h5 h4)
   ·obtain rfl:i=j:=by omega
    exact Nat.min_le_right _ _
  rw [rQ]
  generalize hs:rQ bs (i+1) r=q at *
  obtain ⟨t,m⟩:=q
  match t,h1 with
  | [],h1 =>
   refine ⟨⟨rfl,by simp,r,rfl,h1,fun h=>absurd rfl h⟩,hm m rfl⟩
  | (k,s) :: t,h1 =>
   simp only
   split
   ·rename_i hc
    refine ⟨⟨rfl,by simp,r,rfl,h1,fun _ j h3 h4 d h5=>?_⟩,hm m rfl⟩
    simp only [Kr] at h3 h5
    exact rG _ j 0 (fun d hd=>absurd hd (Nat.not_lt_zero d)) d (Nat.lt_of_lt_of_le (show d<m by omega) (h2 j h3 h4))
   ·obtain ⟨e1,e2,r',e3,e4,e5⟩:=h1
    have e:i+1+s.length=i+(o :: s).length:=by simp;omega
    refine ⟨⟨rfl,by simp,r',by rw [e3];rfl,by rw [← e];exact e4,by rw [← e];exact e5⟩,hm m rfl⟩
theorem d_ {ic x:aS} (h:cx ic=x) (hx:(∃ops dr,x = .reg ops dr)∨x = .skip∨x = .ret∨∃id,x = .exit id):ic=x:=by
 rcases hx with ⟨ops,dr,rfl⟩ | rfl | rfl | ⟨id,rfl⟩<;>cases ic<;>simp only [cx] at h<;>first | (cases h;done) | rfl | exact h
def FU (ic ic0:aS):Prop:=(ic=ic0∨∃ops al dr,ic0 = .draw ops al dr∧(ic = .wild ops al dr∨∃cs,ic = .clon cs ops al dr))∨∃ops al dr,ic0 = .draw ops al dr∧ic = .free ops al dr
theorem oY {ic x:aS} (h:cx ic=x) (hx:(∃ops dr,x = .reg ops dr)∨∃ops al dr,x = .draw ops al dr):FU ic x:=by
 rcases hx with ⟨ops,dr,rfl⟩ | ⟨ops,al,dr,rfl⟩
 ·exact .inl (.inl (d_ h (.inl ⟨_,_,rfl⟩)))
 ·cases ic<;>simp only [cx] at h<;>first | (cases h;done) | skip
  ·exact .inl (.inl h)
  ·cases h;exact .inr ⟨_,_,_,rfl,rfl⟩
  ·cases h;exact .inl (.inr ⟨_,_,_,rfl,.inl rfl⟩)
  ·cases h;exact .inl (.inr ⟨_,_,_,rfl,.inr ⟨_,rfl⟩⟩)
theorem oU {α:Type} {F:α→Prop}:∀{l:List α},jA l F→∀{x:α},x∈l→F x
 | [y],h,x,hx=>by obtain rfl:=j7.1 hx;exact h
 | y :: z :: r,h,x,hx=>by
  rcases cj.1 hx with rfl | hx
  ·exact h.1
  ·exact oU h.2 hx
theorem sG {R:List (Nat×av)} {t:Nat×av} (h:R.Pairwise (fun a b=>a.1≠b.1)) (ht:t∈R):(R.filter fun q=>q.1 != t.1).length+1=R.length:=by
 induction R with
 | nil=>cases ht
 | cons y R ih =>
  have h1:=(List.pairwise_cons.1 h).1
  have h2:=(List.pairwise_cons.1 h).2
  rcases cj.1 ht with e | ht
  ·subst e
   have e:R.filter (fun q=>q.1 != t.1)=R:=List.filter_eq_self.2 fun q hq=>bne_iff_ne.2 fun e=>h1 q hq e.symm
   have e2:(t.1 != t.1)=false:=by simp
   rw [List.filter_cons,e2,e]
   rfl
  ·have h3:=ih h2 ht
   have e2:(y.1 != t.1)=true:=bne_iff_ne.2 (h1 t ht)
   rw [List.filter_cons,e2]
   show ((R.filter fun q=>q.1 != t.1).length+1)+1=R.length+1
   omega
section
variable {ops:Array Oper} {bs:List (List Nat)} {L:List aH} {Q:Exit→Act→World→Prop} {a:Act} {w:World} {st:St} {KK:IX→St→Prop} {listed:Array Bool}
theorem gj {i:Nat} (hsz:listed.size=ops.size) (hl:∀j,j<ops.size→(listed.getD j true=false↔i≤j)) (j:Nat) (hj:j<ops.size):listed.getD j false=true↔j<i:=by
 have hgetD:listed.getD j true=listed.getD j false:=by
  have:j<listed.size:=by omega
  simp [iP,kD this]
 have:=hl j hj
 rw [hgetD] at this
 cases hv:listed.getD j false with
 | true=>simp [hv] at this;simpa using this
 | false=>simp [hv] at this;simpa using this
theorem gz {i:Nat} (hO:fK ops bs) (hsz:listed.size=ops.size) (hl:∀j,j<ops.size→(listed.getD j true=false↔i≤j)) :
  ∀j o,listed.getD j false=true→ops[j]? = some o→∀d∈fe o,listed.getD d false=true:=fun j o hj ho d hd=>by
 have hjs:=(j9.1 ho).1
 have h1:=(gj hsz hl j hjs).1 hj
 have h2:=hO.lt j o ho d hd
 exact (gj hsz hl d (by omega)).2 (by omega)
theorem k_ (hn:c.n=n) (hO:fK ops bs) (hL:m4 P n ops ops.toList=some L) {i:Nat} {s r:List aH} (hs:L.drop i=s++r) (hne:s≠[]) {dr:List Nat} {ic ic0:aS} (hc:vy bs i s dr=some ic0)
  (hic:FU ic ic0) (hi:fD P ic st KK) (hst:bM c st a w) (hsz:listed.size=ops.size) (hl:∀j,j<ops.size→(listed.getD j true=false↔i≤j))
  (hcut:r≠[]→∀j,i+s.length≤j→j<ops.size→∀d,d<i+s.length→d∈bs.getD j [])
  (hnext:∀(st':St) (a':Act) (w':World) (listed':Array Bool),KK .nrm st'→bM c st' a' w'→listed'.size=ops.size→(∀j,j<ops.size→(listed'.getD j true=false↔i+s.length≤j))→wpAny P .any ops Q r.length listed' a' w') :
  wpAny P .any ops Q (s.length+r.length) listed a w:=by
 obtain ⟨hlen,hget'⟩:=iW hL
 simp only [gD] at hlen
 have hsize:i+s.length+r.length=ops.size:=by
  have h1:=congrArg List.length hs
  have h2:0<s.length:=List.length_pos_iff.2 hne
  simp only [tI,ol,hlen] at h1
  omega
 have hopi:∀(j:Nat) (io:aH),s[j]? = some io→∃o,ops[i+j]? = some o∧jz P n ops o=some io:=fun j io hj=>by
  have h1:L[i+j]? = some io:=by
   rw [← List.getElem?_drop,hs,List.getElem?_append_left (dL.1 hj).1]
   exact hj
  obtain ⟨o,h2,h3⟩:=hget' (i+j) io h1
  exact ⟨o,by rw [← Array.getElem?_toList];exact h2,h3⟩
 have hcut':∀j,i+s.length≤j→j<ops.size→∀d,d<i+s.length→d∈bs.getD j []:=fun j h1 h2=>hcut (fun e=>by subst e;simp at hsize;omega) j h1 h2
 have one:∀o:aH,s=[o]→ic0 = .reg [o] dr→wpAny P .any ops Q (s.length+r.length) listed a w:=by
  rintro o rfl rfl
  obtain rfl:ic = .reg [o] dr:=by
   rcases hic with (h | ⟨_,_,_,h,_⟩) | ⟨_,_,_,h,_⟩
   ·exact h
   ·cases h
   ·cases h
  obtain ⟨oo,h1,h2⟩:=hopi 0 o rfl
  rw [Nat.add_zero] at h1
  have his:=(j9.1 h1).1
  rw [Kr,Nat.add_comm 1]
  have hrd:∀k∈Region.ready .any ops listed,k=i:=fun k hk=>by
   obtain ⟨k1,k2,ok,k3,k4⟩:=ep.1 hk
   have k5:=(hl k k1).1 k2
   rcases cB i k with h5 | h5
   ·exfalso
    have h6:=hcut' k (by simp;omega) k1 i (by simp)
    have h7:=hO.listed (gz hO hsz hl) k ok k3 k4 i h6
    have:=(gj hsz hl i his).1 h7
    omega
   ·omega
  refine ⟨fun hr=>?_,fun k hk=>?_⟩
  ·exfalso
   have:i∈Region.ready .any ops listed:=ep.2 ⟨his,(hl i his).2 (aB _),oo,h1,fun d hd=>by
    have hdl:=hO.lt i oo h1 d hd
    exact (gj hsz hl d (by omega)).2 hdl⟩
   rw [hr] at this
   cases this
  ·obtain rfl:=hrd k hk
   unfold wpOp
   rw [h1]
   simp only [fD] at hi ⊢
   refine jT hn Q h2 hi hst fun s' a' w' h3 h4=>?_
   refine hnext _ a' w' _ h3 (bM.dels _ h4) (by simpa using hsz) (fun j hj=>?_)
   have hset:(listed.setIfInBounds k true).getD j true=if k=j then true else listed.getD j true:=by
    simp only [iP,qp]
    split
    ·rename_i e;subst e;simp [hsz,hj]
    ·rfl
   rw [hset,Kr]
   split
   ·rename_i e;subst e;simp
   ·rename_i e
    rw [hl j hj]
    omega
 have many:mJ (i7 bs i s.length) s dr=some ic0→wpAny P .any ops Q (s.length+r.length) listed a w:=by
  intro hc
  unfold mJ at hc
  split at hc
  case isFalse=>cases hc
  rename_i hcond
  simp only [dK] at hcond
  obtain ⟨⟨⟨c2,c3⟩,c4⟩,c5⟩:=hcond
  cases hc
  have hrel:∀k,k<s.length→∀d,d∈(i7 bs i s.length).getD k []↔i+d∈bs.getD (i+k) []:=fun k hk d=>by
   have e:(i7 bs i s.length).getD k []=(bs.getD (i+k) []).filterMap fun d=>if i≤d then some (d - i) else none:=by
    simp only [i7,List.getD_eq_getElem?_getD,cQ,List.getElem?_range hk,dM,Option.getD_some]
   rw [e,List.mem_filterMap]
   constructor
   ·rintro ⟨q,hq,hqd⟩
    split at hqd
    ·cases hqd
     rwa [show i+(q - i)=q by omega]
    ·cases hqd
   ·intro hd
    exact ⟨i+d,hd,by rw [bz (by omega)];congr 1;omega⟩
  rcases hic with hic | ⟨_,_,_,hcc,rfl⟩
  rotate_left
  ·cases hcc
   simp only [fD] at hi
   have key:∀(fuel:Nat) (R:List (Nat×av)) (listed:Array Bool) (st:St) (a:Act) (w:World),R.length=fuel→bM c st a w→listed.size=ops.size →
     (∀j,j<ops.size→(listed.getD j true=false↔(∃t∈R,i+t.1=j)∨i+s.length≤j)) →
     (∀j o,listed.getD j false=true→ops[j]? = some o→∀d∈fe o,listed.getD d false=true) →
     (∀t∈R,t.1<s.length∧s[t.1]? = some t.2.o∧t.2.bef=(i7 bs i s.length).getD t.1 [])→R.Pairwise (fun a b=>a.1≠b.1) →
     iE P fuel R st (fun s'=>KK .nrm ⟨dels dr s'.env,s'.heap⟩)→wpAny P .any ops Q (fuel+r.length) listed a w:=by
    intro fuel
    induction fuel with
    | zero =>
     intro R listed st a w hlen hst hsz hli hdc hit hpw hf
     have hR:R=[]:=List.length_eq_zero_iff.1 hlen
     subst hR
     rw [Nat.zero_add]
     refine hnext _ a w listed hf (bM.dels _ hst) hsz (fun j hj=>?_)
     rw [hli j hj]
     exact ⟨fun hh=>by rcases hh with ⟨t,ht,_⟩ | hh;cases ht;exact hh,.inr⟩
    | succ fuel ih =>
     intro R listed st a w hlen hst hsz hli hdc hit hpw hf
     have hgetD:∀j,j<ops.size→listed.getD j true=listed.getD j false:=fun j hj=>by
      have:j<listed.size:=by omega
      simp [iP,kD this]
     have hopR:∀t∈R,∃o,ops[i+t.1]? = some o∧jz P n ops o=some t.2.o:=fun t ht=>hopi t.1 t.2.o (hit t ht).2.1
     have hun:∀t∈R,listed.getD (i+t.1) false=false:=fun t ht=>by
      obtain ⟨o,ho,_⟩:=hopR t ht
      have hl:=(j9.1 ho).1
      rw [← hgetD _ hl]
      exact (hli _ hl).2 (.inl ⟨t,ht,rfl⟩)
     rw [Nat.add_right_comm]
     refine ⟨fun hr=>?_,fun k hk=>?_⟩
     ·exfalso
      have hex:∃m,∃t∈R,t.1=m:=by
       cases R with
       | nil=>simp at hlen
       | cons t R=>exact ⟨t.1,t,by simp,rfl⟩
      obtain ⟨m,⟨t,ht,rfl⟩,hmin⟩:=rj hex
      obtain ⟨o,ho,_⟩:=hopR t ht
      have hlt:=(j9.1 ho).1
      have:i+t.1∈Region.ready .any ops listed:=ep.2 ⟨hlt,(hli _ hlt).2 (.inl ⟨t,ht,rfl⟩),o,ho,fun d hd=>by
       have hdl:=hO.lt (i+t.1) o ho d hd
       have hds:d<ops.size:=by omega
       cases hv:listed.getD d false with
       | true=>rfl
       | false =>
        rw [← hgetD d hds] at hv
        rcases (hli d hds).1 hv with ⟨q,hq,hqi⟩ | hz
        ·exact absurd ⟨q,hq,rfl⟩ (hmin q.1 (by omega))
        ·have:=(hit t ht).1;omega⟩
      rw [hr] at this
      cases this
     ·obtain ⟨k1,k2,o,k3,k4⟩:=ep.1 hk
      have hbefs:∀d∈bs.getD k [],listed.getD d false=true:=hO.listed hdc k o k3 k4
      have hkR:∃t∈R,i+t.1=k:=by
       rcases (hli k k1).1 k2 with hh | hz
       ·exact hh
       ·exfalso
        cases R with
        | nil=>simp at hlen
        | cons t R =>
         have h1:=(hit t (by simp)).1
         have h2:=hbefs _ (hcut' k hz k1 (i+t.1) (by omega))
         rw [hun t (by simp)] at h2
         cases h2
      obtain ⟨t,ht,rfl⟩:=hkR
      obtain ⟨oo,ho,hco⟩:=hopR t ht
      rw [k3] at ho
      cases ho
      have htr:t∈M7 R:=by
       unfold M7
       rw [List.mem_filter]
       refine ⟨ht,de.2 fun q hq=>?_⟩
       cases hb:t.2.bef.contains q.1 with
       | false=>rfl
       | true =>
        exfalso
        have h1:q.1∈t.2.bef:=by simpa using hb
        rw [(hit t ht).2.2,hrel t.1 (hit t ht).1] at h1
        have h2:=hbefs _ h1
        rw [hun q hq] at h2
        cases h2
      have hft:=oU hf htr
      unfold wpOp
      rw [k3]
      simp only
      refine jT hn Q hco hft hst fun s' a' w' h3 h4=>?_
      have hfl:=sG hpw ht
      refine ih (R.filter fun q=>q.1 != t.1) (listed.setIfInBounds (i+t.1) true) s' a' w' (by omega) h4 (by simpa using hsz) (fun j hj=>?_) (fun j oj hj hoj d hd=>?_) (fun q hq=>hit q (List.mem_filter.1 hq).1) (hpw.sublist List.filter_sublist) h3
      ·have hset:(listed.setIfInBounds (i+t.1) true).getD j true=if i+t.1=j then true else listed.getD j true:=by
        simp only [iP,qp]
        split
        ·rename_i e;subst e;simp [hsz,k1]
        ·rfl
       rw [hset]
       constructor
       ·intro hv
        split at hv
        ·cases hv
        ·rename_i hne
         rcases (hli j hj).1 hv with ⟨q,hq,hqi⟩ | hz
         ·exact .inl ⟨q,List.mem_filter.2 ⟨hq,by simp;omega⟩,hqi⟩
         ·exact .inr hz
       ·rintro (⟨q,hq,hqi⟩ | hz)
        ·obtain ⟨hq1,hq2⟩:=List.mem_filter.1 hq
         have hq3:q.1≠t.1:=by simpa using hq2
         rw [aV (by omega)]
         exact (hli j hj).2 (.inl ⟨q,hq1,hqi⟩)
        ·have h1:=(hit t ht).1
         rw [aV (by omega)]
         exact (hli j hj).2 (.inr hz)
      ·have hset:∀k,(listed.setIfInBounds (i+t.1) true).getD k false=if i+t.1=k then true else listed.getD k false:=fun k=>by
        simp only [iP,qp]
        split
        ·rename_i e;subst e;simp [hsz,k1]
        ·rfl
       rw [hset] at hj ⊢
       split
       ·rfl
       ·split at hj
        ·rename_i e
         subst e
         rw [k3] at hoj
         cases hoj
         exact k4 d hd
        ·exact hdc j oj hj hoj d hd
   have hzl:((s.zipIdx.map fun p=>(⟨p.1,(i7 bs i s.length).getD p.2 []⟩:av)).zipIdx.map fun p=>(p.2,p.1)).length=s.length:=by simp
   have hzm:∀t,t∈((s.zipIdx.map fun p=>(⟨p.1,(i7 bs i s.length).getD p.2 []⟩:av)).zipIdx.map fun p=>(p.2,p.1))↔t.1<s.length∧s[t.1]? = some t.2.o∧t.2.bef=(i7 bs i s.length).getD t.1 []:=fun t=>by
    obtain ⟨t1,⟨t2,t3⟩⟩:=t
    rw [List.mem_map]
    constructor
    ·rintro ⟨p,hp,he⟩
     obtain ⟨p1,p2⟩:=p
     cases he
     rw [List.mem_zipIdx_iff_getElem?] at hp
     simp only [cQ,List.getElem?_zipIdx,Option.map_map,cq,Function.comp] at hp
     obtain ⟨io,h1,h2⟩:=hp
     cases h2
     exact ⟨(dL.1 h1).1,h1,by simp⟩
    ·rintro ⟨h1,h2,h3⟩
     refine ⟨(⟨t2,t3⟩,t1),?_,rfl⟩
     rw [List.mem_zipIdx_iff_getElem?]
     simp only at h1 h2 h3 ⊢
     simp [h2,h3]
   rw [fz,List.length_zipIdx] at hi
   refine key s.length _ listed st a w hzl hst hsz (fun j hj=>?_) (gz hO hsz hl) (fun t ht=>(hzm t).1 ht) ?_ hi
   ·rw [hl j hj]
    constructor
    ·intro hij
     rcases cB j (i+s.length) with h1 | h1
     ·exact .inl ⟨(j - i,⟨s[j - i]'(by omega),(i7 bs i s.length).getD (j - i) []⟩),(hzm _).2 ⟨by simp only;omega,fu _,rfl⟩,by simp only;omega⟩
     ·exact .inr h1
    ·rintro (⟨t,ht,h1⟩ | h1)
     ·omega
     ·omega
   ·refine List.pairwise_map.2 ?_
    exact (List.nodup_iff_pairwise_ne.1 (by
     have:((s.zipIdx.map fun p=>(⟨p.1,(i7 bs i s.length).getD p.2 []⟩:av)).zipIdx.map Prod.snd).Nodup:=by
      rw [List.zipIdx_map_snd]
      exact List.nodup_range'
     exact this):List.Pairwise _ _) |> List.pairwise_map.1
  have hone:mR (bR 0 s):=yz (lV c4)
  have hal:∀d m,(d,m)∈bR 0 s→d<1000:=fun d m hd=>by simpa using de.1 c3 (d,m) hd
  have hlz:∀(j:Nat) (o:av),(s.zipIdx.map fun p=>(⟨p.1,(i7 bs i s.length).getD p.2 []⟩:av))[j]? = some o→s[j]? = some o.o∧o.bef=(i7 bs i s.length).getD j []:=fun j o hj=>by
   simp only [cQ,List.getElem?_zipIdx,Option.map_map,cq,Function.comp] at hj
   obtain ⟨io,h1,rfl⟩:=hj
   exact ⟨h1,by simp⟩
  have hun:Un (bR 0 s) (fun m=>0≤m) (get (kills ((bR 0 s).map (·.1)) st).env) (ae (kills ((bR 0 s).map (·.1)) st).heap):=(fun d m hdm _=>gy _ st d (.inr (List.mem_map.2 ⟨(d,m),hdm,rfl⟩)))
  have hpl:∀(j:Nat) (o:av),(s.zipIdx.map fun p=>(⟨p.1,(i7 bs i s.length).getD p.2 []⟩:av))[j]? = some o→(pE o.o=true→(o.o.dst.getD 0,0+j)∈bR 0 s)∧(∀m∈o.bef,m<0+j)∧bg o.o.op=true:=(fun j o hj=>by
   obtain ⟨h1,h2⟩:=hlz j o hj
   obtain ⟨oo,h3,h4⟩:=hopi j o.o h1
   have hjl:=(dL.1 h1).1
   refine ⟨fun ha=>(iT s 0 _ _).2 ⟨j,o.o,h1,ha,rfl,by omega⟩,fun m hm=>?_,de.1 c5 o.o (gE h1)⟩
   rw [h2,hrel j hjl] at hm
   have:=hO.bef_lt (i+j) oo h3 _ hm
   omega)
  have trace:∃(items:List Item) (s':St),KK .nrm ⟨dels dr s'.env,s'.heap⟩∧T P items (get (kills ((bR 0 s).map (·.1)) st).env) (ae (kills ((bR 0 s).map (·.1)) st).heap) (get s'.env) (ae s'.heap)∧oq (bR 0 s) [] items∧items.map Item.i=List.range' 0 (s.zipIdx.map fun p=>(⟨p.1,(i7 bs i s.length).getD p.2 []⟩:av)).length∧items.map (fun t=>(⟨t.o,t.bef⟩:av))=s.zipIdx.map fun p=>(⟨p.1,(i7 bs i s.length).getD p.2 []⟩:av):=by
   rcases hic with rfl | ⟨_,_,_,hcc,rfl | ⟨cs,rfl⟩⟩
   ·simp only [fD] at hi
    exact lR hone _ 0 [] _ _ hi hun (fun y hy=>by cases hy) hpl
   ·cases hcc
    simp only [fD] at hi
    exact pS hone _ _ _ hi hun hpl
   ·cases hcc
    simp only [fD] at hi
    exact @lR _ _ _ ⟨cs⟩ hone _ 0 [] _ _ hi hun (fun y hy=>by cases hy) hpl
  obtain ⟨items,s',hK,hT,hH,hidx,hmap⟩:=trace
  obtain ⟨bl,hk⟩:=bM.kills ((bR 0 s).map (·.1)) hst
  have hilen:items.length=s.length:=by
   have:=congrArg List.length hmap
   simp at this
   omega
  have hitem:∀(j:Nat) (t:Item),items[j]? = some t→t.i=j∧s[j]? = some t.o∧t.bef=(i7 bs i s.length).getD j []:=fun j t hj=>by
   have h1:(items.map Item.i)[j]? = some t.i:=by simp [hj]
   rw [hidx] at h1
   have h2:(items.map fun t=>(⟨t.o,t.bef⟩:av))[j]? = some ⟨t.o,t.bef⟩:=by simp [hj]
   rw [hmap] at h2
   obtain ⟨h3,h4⟩:=hlz j _ h2
   refine ⟨?_,h3,h4⟩
   rw [List.getElem?_range' (by
    have:=(dL.1 h1).1
    simpa using this)] at h1
   simp at h1
   omega
  have hmem:∀t∈items,t.i<s.length∧items[t.i]? = some t:=fun t ht=>by
   obtain ⟨j,hj⟩:=List.getElem?_of_mem ht
   have:=(hitem j t hj).1
   subst this
   exact ⟨by rw [← hilen];exact (dL.1 hj).1,hj⟩
  obtain ⟨hp1,hp2⟩:=nr hH
  refine vk (Q:=Q) hn hone hal hO i r.length (fun j=>i+s.length≤j∧j<ops.size) (fun listed' a' w' bl' h1 h2 h3=>hnext _ a' w' listed' hK (bM.dels _ ⟨bl',h3⟩) h1 (fun j hj=>by rw [h2 j hj];exact ⟨fun h=>h.1,fun h=>⟨h,hj⟩⟩)) s.length items listed _ _ a w bl hilen hsz hk hT ?_ (fun j hj=>?_) (fun j hz t ht=>?_) (gz hO hsz hl) (fun t ht=>?_) ?_
  ·intro d m hdm _
   exact gy _ st d (.inr (List.mem_map.2 ⟨(d,m),hdm,rfl⟩))
  ·rw [hl j hj]
   constructor
   ·intro hij
    rcases cB j (i+s.length) with h1 | h1
    ·have hj':j - i<items.length:=by omega
     exact .inl ⟨items[j - i],List.getElem_mem hj',by rw [(hitem (j - i) _ (fu hj')).1];omega⟩
    ·exact .inr ⟨h1,hj⟩
   ·rintro (⟨t,ht,h1⟩ | h1)<;>omega
  ·exact hcut' j hz.1 hz.2 _ (by have:=(hmem t ht).1;omega)
  ·obtain ⟨h1,h2⟩:=hmem t ht
   obtain ⟨_,h3,h4⟩:=hitem t.i t h2
   obtain ⟨oo,h5,h6⟩:=hopi t.i t.o h3
   exact ⟨oo,h5,h6,fun d hd=>by rw [h4,hrel t.i h1] at hd;exact hd,de.1 c5 t.o (gE h3),fun ha=>(iT s 0 _ _).2 ⟨t.i,t.o,h3,ha,rfl,by omega⟩,(hp1 t ht).2.2⟩
  ·refine List.pairwise_iff_getElem.2 fun i' j hi' hj hij=>?_
   have e1:=hitem i' _ (fu hi')
   have e2:=hitem j _ (fu hj)
   refine ⟨by rw [e1.1,e2.1];exact hij,?_⟩
   rcases List.pairwise_iff_getElem.1 hp2 i' j hi' hj hij with h1 | h1
   ·exact .inl h1
   ·by_cases hb:items[i'].i∈items[j].bef
    ·exact .inl hb
    ·refine .inr ⟨?_,h1⟩
     have hap:=de.1 (de.1 c2 j (List.mem_range.2 (by omega))) i' (List.mem_range.2 hij)
     simp only [e1.2.1,e2.2.1,oG,List.contains_eq_mem,j6,dK] at hap
     rw [e1.1,e2.2.2] at hb
     rcases hap with hap | ⟨hap1,hap2⟩
     ·exact absurd hap hb
     ·refine ⟨fun d hd=>?_,fun d hd=>?_⟩
      ·rw [hd] at hap1
       simp only [dK,mA,decide_eq_false_iff_not,bne_iff_ne] at hap1
       exact ⟨hap1.1,hap1.2⟩
      ·rw [hd] at hap2
       simpa using hap2
 unfold vy at hc
 split at hc
 ·exact one _ rfl (by cases hc;rfl)
 ·exact many hc
end
theorem oZ {ic x y:aS} (h:cx ic = .seq x y):∃x' y',cx x'=x∧cx y'=y∧(ic = .seq x' y'∨ic = .cut x' y'):=by
 cases ic<;>simp only [cx] at h<;>first | (cases h;done) | skip
 ·rename_i x' y';cases h;exact ⟨x',y',rfl,rfl,.inl rfl⟩
 ·rename_i x' y';cases h;exact ⟨x',y',rfl,rfl,.inr rfl⟩
theorem sC {ic x y:aS} {v:IV} (h:cx ic = .cond v x y):∃x' y',cx x'=x∧cx y'=y∧ic = .cond v x' y':=by
 cases ic<;>simp only [cx] at h<;>first | (cases h;done) | skip
 rename_i x' y';cases h;exact ⟨x',y',rfl,rfl,rfl⟩
theorem qV {ic x:aS} {id:Nat} (h:cx ic = .block id x):∃x',cx x'=x∧ic = .block id x':=by
 cases ic<;>simp only [cx] at h<;>first | (cases h;done) | skip
 rename_i x';cases h;exact ⟨x',rfl,rfl⟩
theorem sD {ic x:aS} (h:cx ic = .loop x):∃x',cx x'=x∧ic = .loop x':=by
 cases ic<;>simp only [cx] at h<;>first | (cases h;done) | skip
 rename_i x';cases h;exact ⟨x',rfl,rfl⟩
section
variable {ops:Array Oper} {bs:List (List Nat)} {L:List aH} {Q:Exit→Act→World→Prop}
theorem m6 {i:Nat} {s:List aH} {dr:List Nat} {ic:aS} (hc:vy bs i s dr=some ic):(∃ops dr,ic = .reg ops dr)∨∃ops al dr,ic = .draw ops al dr:=by
 unfold vy at hc
 split at hc
 ·cases hc;exact .inl ⟨_,_,rfl⟩
 ·unfold mJ at hc
  split at hc
  ·cases hc;exact .inr ⟨_,_,_,rfl⟩
  ·cases hc
theorem tf (hn:c.n=n) (hO:fK ops bs) (hL:m4 P n ops ops.toList=some L) {dr:List Nat} {K:IX→St→Prop} :
  ∀(t:List (Nat×List aH)) (i:Nat) (l:List aH) (ic0 ic:aS) (st:St) (a:Act) (w:World) (listed:Array Bool),se bs ops.size i l t→L.drop i=l→oQ bs dr t=some ic0→cx ic=ic0→fD P ic st K→bM c st a w →
   listed.size=ops.size→(∀j,j<ops.size→(listed.getD j true=false↔i≤j))→wpAny P .any ops (LQ c K) l.length listed a w:=by
 intro t
 induction t with
 | nil =>
  intro i l ic0 ic st a w listed hok hd hc he hi hst hsz hl
  obtain rfl:l=[]:=hok
  simp only [oQ,bO] at hc
  subst hc
  rw [d_ he (.inl ⟨_,_,rfl⟩)] at hi
  simp only [fD,ee] at hi
  obtain ⟨hlen,_⟩:=iW hL
  simp only [gD] at hlen
  have hsize:ops.size≤i:=by
   have:=congrArg List.length hd
   simp only [tI,hlen,kC] at this
   omega
  refine ⟨List.eq_nil_iff_forall_not_mem.2 fun j hj=>?_,⟨_,hi,bM.dels _ hst⟩⟩
  obtain ⟨h1,h2,_⟩:=ep.1 hj
  have:=(hl j h1).1 h2
  omega
 | cons p t ih =>
  intro i l ic0 ic st a w listed hok hd hc he hi hst hsz hl
  obtain ⟨k,s⟩:=p
  obtain ⟨rfl,hne,r,rfl,hok',hcut⟩:=hok
  rw [ol]
  cases t with
  | nil =>
   obtain rfl:r=[]:=hok'
   simp only [oQ] at hc
   have he':=oY he (m6 hc)
   refine k_ (Q:=LQ c K) hn hO hL hd hne hc he' hi hst hsz hl (fun h=>absurd rfl h) (fun st' a' w' listed' h1 h2 h3 h4=>?_)
   obtain ⟨hlen,_⟩:=iW hL
   simp only [gD] at hlen
   have hsize:ops.size≤k+s.length:=by
    have:=congrArg List.length hd
    simp only [tI,hlen,ol,kC] at this
    omega
   refine ⟨List.eq_nil_iff_forall_not_mem.2 fun j hj=>?_,⟨_,h1,h2⟩⟩
   obtain ⟨g1,g2,_⟩:=ep.1 hj
   have:=(h4 j g1).1 g2
   omega
  | cons q t =>
   simp only [oQ] at hc
   split at hc
   case h_2=>cases hc
   rename_i x y hx hy
   cases hc
   obtain ⟨x',y',e1,e2,e3⟩:=oZ he
   have e4:=oY e1 (m6 hx)
   have hd':L.drop (k+s.length)=r:=by rw [← List.drop_drop,hd,List.drop_left]
   rcases e3 with rfl | rfl
   ·refine k_ (Q:=LQ c K) hn hO hL hd hne hx e4 hi hst hsz hl (fun _=>hcut (by simp)) (fun st' a' w' listed' h1 h2 h3 h4=>?_)
    exact ih (k+s.length) r y y' st' a' w' listed' hok' hd' hy e2 h1 h2 h3 h4
   ·refine k_ (Q:=LQ c K) hn hO hL hd hne hx e4 hi hst hsz hl (fun _=>hcut (by simp)) (fun st' a' w' listed' h1 h2 h3 h4=>?_)
    obtain ⟨s'',hwk,hk⟩:=h1
    exact ih (k+s.length) r y y' s'' a' w' listed' hok' hd' hy e2 hk (hwk _ _ _ h2) h3 h4
end
theorem sz {ops:Array Oper} {dr:List Nat→List Nat} {ic0 ic:aS} {id:Nat} {s:St} {K:IX→St→Prop} {a:Act} {w:World} (hm:P.follows .mixedOrders=true) (hc:yH P n ops dr=some ic0) (he:cx ic=ic0) (hn:c.n=n) (hi:fD P ic s K) (hs:bM c s a w) :
  (Code.region id ops true).wp P (LQ c K) a w:=by
 unfold yH at hc
 split at hc
 ·cases hc
 rename_i l hl
 split at hc
 case isFalse=>cases hc
 rename_i c1
 obtain ⟨hlen,_⟩:=iW hl
 simp only [gD] at hlen
 refine wp_region_any hm ?_
 obtain ⟨bl,hs⟩:=hs
 have h1:=tf (K:=K) hn (s5 c1) hl (rQ (yC ops.toList []) 0 l).1 0 l ic0 ic s a { w with drawn:=w.drawn+1 } (Array.replicate ops.size false) (uQ _ ops.size l 0 (by omega)).1 rfl hc he hi ⟨bl,hs.world rfl rfl rfl⟩ (by simp) (fun j hj=>by simp [iP,hj])
 rw [hlen] at h1
 exact h1
theorem sw (hm:P.follows .mixedOrders=true) (hn:c.n=n) {sh:List (List Nat)}:∀(x:Code) (ic0:aS),comp P n sh x=some ic0→∀(ic:aS),cx ic=ic0→∀(s:St) (K:IX→St→Prop) (a:Act) (w:World),fD P ic s K→bM c s a w→x.wp P (LQ c K) a w:=by
 intro x
 induction x with
 | skip=>intro ic0 hc ic he s K a w hi hs;simp only [comp,bO] at hc;subst hc;rw [d_ he (by simp)] at hi;exact wp_skip ⟨s,hi,hs⟩
 | ret=>intro ic0 hc ic he s K a w hi hs;simp only [comp,bO] at hc;subst hc;rw [d_ he (by simp)] at hi;exact wp_ret ⟨s,hi,hs⟩
 | exit id=>intro ic0 hc ic he s K a w hi hs;simp only [comp,bO] at hc;subst hc;rw [d_ he (by simp)] at hi;exact wp_exit ⟨s,hi,hs⟩
 | label l=>intro ic0 hc ic he s K a w hi hs;simp only [comp,bO] at hc;subst hc;rw [d_ he (by simp)] at hi;exact wp_label ⟨s,hi,hs⟩
 | seq x y ihx ihy =>
  intro ic0 hc ic he s K a w hi hs
  simp only [comp] at hc
  split at hc
  case h_2=>cases hc
  rename_i ix iy h1 h2
  cases hc
  obtain ⟨x',y',e1,e2,e3⟩:=oZ he
  rcases e3 with rfl | rfl
  ·refine wp_seq (Code.wp_mono (fun e a' w' hq=>?_) (ihx ix h1 x' e1 s _ a w hi hs))
   cases e with
   | normal=>obtain ⟨s',hk,hs'⟩:=hq;exact ihy iy h2 y' e2 s' K a' w' hk hs'
   | _=>exact hq
  ·refine wp_seq (Code.wp_mono (fun e a' w' hq=>?_) (ihx ix h1 x' e1 s _ a w hi hs))
   cases e with
   | normal=>obtain ⟨s',⟨s'',hwk,hk⟩,hs'⟩:=hq;exact ihy iy h2 y' e2 s'' K a' w' hk (hwk _ _ _ hs')
   | _=>exact hq
 | cond v x y ihx ihy =>
  intro ic0 hc ic he s K a w hi hs
  simp only [comp] at hc
  split at hc
  case h_2=>cases hc
  rename_i iv ix iy h0 h1 h2
  cases hc
  obtain ⟨x',y',e1,e2,rfl⟩:=sC he
  simp only [fD] at hi
  split at hi
  case h_2=>exact hi.elim
  rename_i b hv
  obtain ⟨bl,hsb⟩:=hs
  have hvr:=aJ hsb h0
  rw [hv] at hvr
  have href:∀q,b=q→bM c (refine iv q s) a w:=fun q hq=>by
   cases iv with
   | c y=>exact ⟨bl,hsb⟩
   | s k=>exact ⟨bl,hsb.congr (fun j=>by rw [show refine (.s k) q s=s.put (some k) (.bool q) from rfl,jR hv hq]) (fun j=>rfl)⟩
  refine wp_cond hvr.bool ?_
  cases b with
  | true=>exact ihx ix h1 x' e1 _ K a w (hi.1 rfl) (href true rfl)
  | false=>exact ihy iy h2 y' e2 _ K a w (hi.2 rfl) (href false rfl)
 | block id x ih =>
  intro ic0 hc ic he s K a w hi hs
  simp only [comp,cq] at hc
  obtain ⟨ix,h1,rfl⟩:=hc
  obtain ⟨x',e1,rfl⟩:=qV he
  refine wp_block (Code.wp_mono (fun e a' w' hq=>?_) (ih ix h1 x' e1 s _ a w hi hs))
  cases e with
  | exit j =>
   obtain ⟨s',hk,hs'⟩:=hq
   simp only at hk
   simp only [Exit.inBlock]
   split
   ·rename_i hj;rw [bz hj] at hk;exact ⟨s',hk,hs'⟩
   ·rename_i hj;rw [aV hj] at hk;exact ⟨s',hk,hs'⟩
  | _=>exact hq
 | loop x ih =>
  intro ic0 hc ic he s K a w hi hs
  simp only [comp,cq] at hc
  obtain ⟨ix,h1,rfl⟩:=hc
  obtain ⟨x',e1,rfl⟩:=sD he
  obtain ⟨I,⟨m,s0,h0,hwk⟩,hstep⟩:=hi
  refine xf (fun m a w=>∃s,I m s∧bM c s a w) ⟨m,s0,h0,hwk _ _ _ hs⟩ (fun m a w ⟨s,hI,hs⟩=>?_)
  refine Code.wp_mono (fun e a' w' hq=>?_) (ih ix h1 x' e1 s _ a w (hstep m s hI) hs)
  cases e with
  | normal =>
   obtain ⟨s',⟨m',s'',h2,h3,h4⟩,hs'⟩:=hq
   exact ⟨m',h2,s'',h3,h4 _ _ _ hs'⟩
  | _=>exact hq
 | scope x ih =>
  intro ic0 hc ic he s K a w hi hs
  simp only [comp] at hc
  refine wp_scope_straight (Code.wp_mono (fun e a' w' hq=>?_) (ih ic0 hc ic he s K a w hi hs))
  cases e<;>exact hq
 | region id ops d =>
  intro ic0 hc ic he s K a w hi hs
  cases d with
  | true =>
   simp only [comp] at hc
   exact sz hm hc he hn hi hs
  | false =>
   simp only [comp] at hc
   split at hc
   case h_2=>cases hc
   rename_i l hl
   cases hc
   rw [d_ he (.inl ⟨_,_,rfl⟩)] at hi
   simp only [fD] at hi
   exact wp_region_list (ny hn _ ops.toList l hl s _ a w hi hs (fun s' a' w' hk hs'=>⟨_,hk,bM.dels _ hs'⟩))
 | rangeFunc f ps as b=>intro ic0 hc;simp [comp] at hc
 | goto l=>intro ic0 hc;simp [comp] at hc
 | refuse y=>intro ic0 hc;simp [comp] at hc
end
def pk:AV→Bool
 | .any=>false
 | .tup _=>false
 | _=>true
def rh (s:St):iK→Option AV
 | .tmp k=>if pk (get s.env k) then some (get s.env k) else none
 | .cell k n=>match fJ n (get s.env k) (ae s.heap) with
  | some x=>if pk x then some x else none
  | none=>none
def pX (s:St):List iK→Option (List AV)
 | []=>some []
 | x :: r=>match rh s x,pX s r with
  | some y,some l=>some (y :: l)
  | _,_=>none
def jU (l:List iK) (s:St):Option AV :=
 match pX s l with
 | some [x]=>some x
 | some l=>some (.tup l)
 | none=>none
def fB:Nat→List AV→List (Nat×AV)
 | _,[]=>[]
 | i,x :: r=>(i,x) :: fB (i+1) r
theorem lP (E:List (Nat×AV)):∀(l:List AV) (i k:Nat),get (fB i l++E) k=if i≤k then (match l[k - i]? with | some x=>x | none=>get E k) else get E k
 | [],i,k=>by simp [fB]
 | x :: r,i,k=>by
  simp only [fB,r6,get]
  by_cases h:i=k
  ·subst h;simp
  ·rw [aV h,lP E r (i+1) k]
   by_cases h2:i+1≤k
   ·rw [bz h2,bz (by omega),show k - i=(k - (i+1))+1 by omega,List.getElem?_cons_succ]
   ·rw [aV h2]
    by_cases h3:i≤k
    ·omega
    ·rw [aV h3]
theorem ug:∀{l:List (Nat×AV)} {k:Nat},get l k = .any∨(k,get l k)∈l
 | [],k=>.inl rfl
 | (j,x) :: r,k=>by
  simp only [get]
  split
  ·rename_i h;subst h;exact .inr (by simp)
  ·rcases ug (l:=r) (k:=k) with h | h
   ·exact .inl h
   ·exact .inr (by simp [h])
section
variable {P:Program} [aX P] {c:je} [CT c P] {bl:Nat→Option Nat} {a:Act} {w:World} {s:St}
theorem EP {M:Nat→Prop} {v:Value} {x:AV} (hx:pk x=true) (hv:aT bl M w v x):cZ bl M w v x:=by
 cases x<;>first | (simp [pk] at hx;done) | exact hv
def Na (tmps:Array Value):ResultVar→Sem Value
 | .tmp t=>Pure.pure (tmps.getD t undef)
 | .cell q t=>do loadVar t (← asAddr (tmps.getD q undef))
theorem s_ (fn:Func) (tmps:Array Value):results fn tmps=(do let vs ← fn.results.mapM (Na tmps);Pure.pure (if h:vs.size=1 then vs[0] else .tuple vs)):=by
 unfold results
 congr 1
theorem nz (hs:aD c bl (get s.env) (ae s.heap) a w):∀(rv:List ResultVar) (l:List iK),qT P rv=some l→∀(xs:List AV),pX s l=some xs →
  ∃vs:List Value,(rv.mapM (Na a.tmps)).run P w = .ok vs w∧aK (cZ bl (aY bl c.MF (ae s.heap)) w) vs xs
 | [],l,hc,xs,hx=>by
  simp only [qT,bO] at hc
  subst hc
  simp only [pX,bO] at hx
  subst hx
  exact ⟨[],by simp,trivial⟩
 | .tmp t :: r,l,hc,xs,hx=>by
  simp only [qT] at hc
  split at hc
  case isFalse=>cases hc
  rename_i hlo
  simp only [cq] at hc
  obtain ⟨l',h1,rfl⟩:=hc
  simp only [pX] at hx
  split at hx
  case h_2=>cases hx
  rename_i y l2 h2 h3
  cases hx
  simp only [rh] at h2
  split at h2
  case isFalse=>cases h2
  rename_i hok
  cases h2
  obtain ⟨vs,h4,h5⟩:=nz hs r l' h1 l2 h3
  refine ⟨a.tmps.getD t undef :: vs,?_,EP hok (by rw [← rS hlo];exact hs.env t),h5⟩
  simp only [List.mapM_cons,Na,Sem.run_bind,Sem.run_pure,Result.andThen_ok,h4]
 | .cell q t :: r,l,hc,xs,hx=>by
  simp only [qT] at hc
  split at hc
  case h_2=>cases hc
  rename_i n l' h0 h1
  split at hc
  case isFalse=>cases hc
  rename_i hlo
  cases hc
  simp only [pX] at hx
  split at hx
  case h_2=>cases hx
  rename_i y l2 h2 h3
  cases hx
  simp only [rh] at h2
  split at h2
  case h_2=>cases h2
  rename_i y' hld
  split at h2
  case isFalse=>cases h2
  rename_i hok
  cases h2
  obtain ⟨vs,h4,h5⟩:=nz hs r l' h1 l2 h3
  have hq:=hs.env q
  rw [rS hlo] at hq
  have fin:∀{b off:Nat} {cells:List AV},a.tmps.getD q undef = .pointer (some ⟨b,off,none⟩)→cX bl (aY bl c.MF (ae s.heap)) w b off cells→gd n cells=some y →
    ∃vs:List Value,((ResultVar.cell q t :: r).mapM (Na a.tmps)).run P w = .ok vs w∧aK (cZ bl (aY bl c.MF (ae s.heap)) w) vs (y :: l2):=fun hv hcl hl=>by
   obtain ⟨u,h6,h7⟩:=gn h0 hcl hl
   refine ⟨u :: vs,?_,h7,h5⟩
   simp only [List.mapM_cons,Na,Sem.run_bind,hv,asAddr,Sem.run_pure,Result.andThen_ok,h6,h4]
  cases hval:get s.env q<;>rw [hval] at hld hq<;>simp only [fJ] at hld<;>try cases hld
  case ip cells =>
   obtain ⟨b,off,h6,h7⟩:=cX.of_ip hq
   exact fin h6 h7 hld
  case mp id st row off =>
   split at hld
   case h_2=>cases hld
   rename_i ob hob
   split at hld
   case isFalse=>cases hld
   rename_i hst
   split at hld
   case h_2=>cases hld
   rename_i rr hr
   obtain ⟨b,hb,h6⟩:=hq.mp
   rw [← hst] at h6
   exact fin h6 ((cX.of_obj hs hob hb hr).drop off) hld
theorem Ak {fn:Func} {l:List iK} {r:AV} (hs:aD c bl (get s.env) (ae s.heap) a w) (hc:qT P fn.results.toList=some l) (hr:jU l s=some r) :
  ∃v,(results fn a.tmps).run P w = .ok v w∧aT bl (aY bl c.MF (ae s.heap)) w v r:=by
 unfold jU at hr
 cases hx:pX s l with
 | none=>rw [hx] at hr;cases hr
 | some xs =>
  obtain ⟨vs,h1,h2⟩:=nz hs _ l hc xs hx
  have hrun:∀v,v=(if h:vs.toArray.size=1 then vs.toArray[0] else .tuple vs.toArray)→(results fn a.tmps).run P w = .ok v w:=fun v hv=>by
   subst hv
   rw [s_,Sem.run_bind,Array.mapM_eq_mapM_toList,Sem.run_map,h1]
   rfl
  rw [hx] at hr
  cases xs with
  | nil =>
   cases hr
   cases vs with
   | cons=>exact h2.elim
   | nil=>exact ⟨_,hrun _ rfl,[],by simp,trivial⟩
  | cons x xs =>
   cases xs with
   | nil =>
    cases hr
    cases vs with
    | nil=>exact h2.elim
    | cons v vs =>
     cases vs with
     | cons=>exact h2.2.elim
     | nil=>exact ⟨v,hrun _ (by simp),h2.1.toV⟩
   | cons y ys =>
    cases hr
    have hl:=h2.length
    refine ⟨_,hrun _ rfl,vs,?_,h2⟩
    rw [dif_neg (by simp [hl])]
def qu (l:List iK) (Post:AV→List (Nat×ah)→Prop) (e:IX) (s:St):Prop :=
 (∀j,e≠.ext j)∧∃s1,Wk s s1∧∃fs r σ',jU l (frzs fs s1)=some r∧(∀i o,ae σ' i=some o→ae (frzs fs s1).heap i=some o)∧iQ r σ'∧Post r σ'
theorem ni {f:FuncId} {F:aN} {ic:aS} {args:List AV} {σ:List (Nat×ah)} {Post:AV→List (Nat×ah)→Prop} (E:List (Nat×AV)) (hE:∀p∈E,p∈(aX.T P).env) (hm:P.follows .mixedOrders=true) (hf:ax P f=some F) (hic:cx ic=F.body) (hlen:args.length=F.np)
  (hi:fD P ic ⟨fB 0 args++E,σ⟩ (qu F.res Post)):br P f args σ (fun id=>1000≤id∧id<2000) Post:=by
 unfold ax at hf
 split at hf
 ·cases hf
 rename_i fn hfn
 split at hf
 ·cases hf
 rename_i body hbody
 split at hf
 case h_2=>cases hf
 rename_i b rs hb hrs
 split at hf
 case isFalse=>cases hf
 rename_i hnp
 cases hf
 intro bl MF w cargs hTH hTW hH hMF hargs
 have hal:cargs.length=fn.params.size+fn.nfree:=by rw [hargs.length];exact hlen
 let c:je:=⟨w,bl,gZ bl σ,MF,fn.ntmps,aX.T P,hTH,fun b hb ⟨id,o,h1,h2⟩=>hTW b hb (.inr ⟨id,o,h1,h2⟩),fun b hb hm=>hTW b hb (.inl hm),hnp.2⟩
 haveI:CT c P:=⟨rfl⟩
 have hs:aD c bl (get (fB 0 args++E)) (ae σ) ⟨cargs.toArray++Array.replicate (fn.ntmps - cargs.toArray.size) undef,[]⟩ w:=by
  refine ⟨rfl,by simp [c];omega,fun k=>?_,hH,gG.refl _ _,fun id o q h1 h2=>.inr ⟨id,o,h1,h2⟩,fun _ _ _=>rfl,hMF⟩
  rw [lP]
  simp only [cC,fv,Nat.sub_zero]
  cases hk:args[k]? with
  | none =>
   simp only
   rcases ug (l:=E) (k:=k) with hg | hg
   ·rw [hg];trivial
   ·obtain ⟨h1,h2⟩:=(aX.T P).rel w (aY bl MF (ae σ)) hTH hTW _ (hE _ hg)
    have e:tv ⟨cargs.toArray++Array.replicate (fn.ntmps - cargs.toArray.size) undef,[]⟩ k = .pointer (some ⟨k - 1000000,0,none⟩):=aV (by simp only at h1;omega)
    rw [e]
    exact h2.toC.toG.toV
  | some x =>
   obtain ⟨v,hv,hr⟩:=hargs.get hk
   have hlt:=(dL.1 hv).1
   have:(cargs.toArray++Array.replicate (fn.ntmps - cargs.toArray.size) undef).getD k undef=v:=by
    rw [iP,Array.getElem?_append_left (by simpa using hlt)]
    simp [hv]
   rw [rS (by have:=hnp.2;omega),this]
   exact hr
 refine calls_of_wp hfn hbody ?_
 refine Code.wp_mono (fun e a' w' hq=>?_) (sw (c:=c) hm rfl body b hb ic hic ⟨fB 0 args++E,σ⟩ _ _ w hi ⟨bl,hs⟩)
 have fin:∀{s':St} {ex:IX},qu rs Post ex s'→bM c s' a' w'→a'.defers=[]∧∃v,(results fn a'.tmps).run P w' = .ok v w'∧∃u r σ' bl',Ending.returned v = .returned u∧Post r σ'∧iQ r σ'∧sc bl' (aY bl' MF (ae σ')) MF w' (ae σ')∧aT bl' (aY bl' MF (ae σ')) w' u r ∧
   gG (gZ bl σ) w w'∧(∀id o b,ae σ' id=some o→bl' id=some b→w.heap.size≤b∨gZ bl σ b)∧∀id,(1000≤id∧id<2000)→bl' id=bl id:=by
  rintro s0 ex ⟨_,s',hwk,fs,r,σ',h1,h2,h3,h4⟩ hs0
  obtain ⟨bl',hs2⟩:=bM.frzs fs (hwk c a' w' hs0)
  obtain ⟨v,hv1,hv2⟩:=Ak hs2 hrs h1
  have hs3:aD c bl' (get (frzs fs s').env) (ae σ') a' w':=hs2.weaken (fun _=>.inr rfl) h2
  refine ⟨hs2.defers,v,hv1,v,r,σ',bl',rfl,h4,h3,hs3.heap,?_,hs3.step,hs3.own,fun id hid=>hs3.stab id hid.1 hid.2⟩
  refine hv2.tr ⟨fun q hq _=>⟨fun hm2=>hq ?_,rfl⟩,fun _ c1 _ fr hb=>⟨c1,fr,hb,rfl⟩⟩ (fun _ _=>rfl)
  rcases hm2 with hm2 | ⟨id,o,h5,h6⟩
  ·exact .inl hm2
  ·exact .inr ⟨id,o,h2 id o h5,h6⟩
 cases e with
 | normal=>obtain ⟨s',hk,hs'⟩:=hq;exact fin hk hs'
 | ret=>obtain ⟨s',hk,hs'⟩:=hq;exact fin hk hs'
 | exit id=>obtain ⟨s',hk,hs'⟩:=hq;exact absurd rfl (hk.1 id)
 | _=>exact hq.elim
theorem c_ {f:FuncId} {F:aN} {ic:aS} {args:List AV} {σ:List (Nat×ah)} {Post:AV→List (Nat×ah)→Prop} (hm:P.follows .mixedOrders=true) (hf:ax P f=some F) (hic:cx ic=F.body) (hlen:args.length=F.np)
  (hi:fD P ic ⟨fB 0 args,σ⟩ (qu F.res Post)):br P f args σ (fun id=>1000≤id∧id<2000) Post :=
 ni [] (fun p hp=>by cases hp) hm hf hic hlen (by rw [qn];exact hi)
theorem br.mono {f:FuncId} {args:List AV} {σ:List (Nat×ah)} {Sb Sb':Nat→Prop} {Post Post':AV→List (Nat×ah)→Prop} (h:br P f args σ Sb Post) (hs:∀id,Sb' id→Sb id) (hp:∀r σ',Post r σ'→Post' r σ'):br P f args σ Sb' Post' :=
 fun bl MF w cargs t1 t2 h1 h2 h3=>(h bl MF w cargs t1 t2 h1 h2 h3).mono fun _ _ ⟨v,r,σ',bl',q1,q2,q3,q4,q5,q6,q7,q8⟩=>⟨v,r,σ',bl',q1,hp _ _ q2,q3,q4,q5,q6,q7,fun id hid=>q8 id (hs id hid)⟩
def mU (l:List iK) (r:AV) (e:IX) (s:St):Prop:=(∀j,e≠.ext j)∧∃s1,Wk s s1∧∃fs,jU l (frzs fs s1)=some r∧aF r=[]
theorem cd {f:FuncId} (hs:decide (P.funcs.size≤4000000)=true) (h:bc P f=true):f<4000000:=by
 have h1:f<P.funcs.size:=by
  unfold bc at h
  by_cases q:f<P.funcs.size
  ·exact q
  ·rw [Array.getElem?_eq_none (Nat.le_of_not_lt q)] at h
   cases h
 have h2:=of_decide_eq_true hs
 exact Nat.lt_of_lt_of_le h1 h2
theorem nA:∀(x:aS) (s:St) (K K':IX→St→Prop),(∀e s,K e s→K' e s)→fD P x s K→fD P x s K':=by
 have icallm0:∀{f:FuncId} {args:List AV} {d:Option Nat} {s:St} {K K':St→Prop},(∀s,K s→K' s)→kQ P f args d s K→kQ P f args d s K':=fun {f args d s K K'} hK h=>by
  rcases h with ⟨args',r,b,h1,h2,h3,h4,h5⟩ | ⟨σ0,Sb,Post,ks,h1,h2,h3,h4⟩
  ·exact .inl ⟨args',r,b,h1,h2,h3,h4,hK _ h5⟩
  ·exact .inr ⟨σ0,Sb,Post,ks,h1,h2,h3,fun r σ' hp=>by obtain ⟨s',q1,q2,q3⟩:=h4 r σ' hp;exact ⟨s',q1,q2,hK _ q3⟩⟩
 have icallm:∀{f:FuncId} {args:List AV} {d:Option Nat} {s:St} {K K':St→Prop},(∀s,K s→K' s)→ek P f args d s K→ek P f args d s K':=fun {f args d s K K'} hK h=>h.imp (icallm0 hK) fun h=>h.imp (fun ⟨fs,h⟩=>⟨fs,icallm0 hK h⟩) fun ⟨s',a',hw,h⟩=>⟨s',a',hw,icallm0 hK h⟩
 have iopm:∀{o:aH} {s:St} {K K':St→Prop},(∀s,K s→K' s)→eF P o s K→eF P o s K':=fun {o s K K'} hK h=>by
  unfold eF at h ⊢
  split at h
  ·exact icallm hK h
  ·split at h
   ·split at h
    ·rename_i hlt;rw [bz hlt];exact ⟨h.1,icallm hK h.2⟩
    ·rename_i hlt;rw [aV hlt];exact ⟨h.1,icallm hK h.2⟩
   ·exact h
  ·refine ⟨h.1,?_⟩
   have h2:=h.2
   split at h2
   ·exact hK _ h2
   ·obtain ⟨s',hw,h3⟩:=h2
    refine ⟨s',hw,?_⟩
    unfold rC at h3 ⊢
    split at h3
    ·exact hK _ h3
    ·exact h3.elim
  ·refine ⟨h.1,?_⟩
   have h2:=h.2
   unfold jB at h2 ⊢
   repeat' (split at h2)
   all_goals first | exact hK _ h2 | exact h2.elim
  ·split at h
   ·exact ⟨hK _ h.1,hK _ h.2⟩
   ·split at h
    ·exact hK _ h
    ·exact h.elim
  ·by_cases ha:iU o.op=true
   ·rw [bz ha] at h ⊢
    refine ⟨h.1,?_⟩
    have h2:=h.2
    split at h2
    ·exact hK _ h2
    ·exact h2.elim
   ·rw [aV ha] at h ⊢
    split at h
    ·exact hK _ h
    ·exact h
 have iopsm:∀(l:List aH) (s:St) (K K':St→Prop),(∀s,K s→K' s)→ee P l s K→ee P l s K':=by
  intro l
  induction l with
  | nil=>intro s K K' hK h;exact hK s h
  | cons o r ih =>
   intro s K K' hK h
   unfold ee at h ⊢
   split at h
   ·exact iopm (fun s' hs'=>ih s' K K' hK hs') h
   ·split at h
    ·exact ⟨fun ht=>iopm (fun s' hs'=>ih s' K K' hK hs') (h.1 ht),fun ht=>ih _ K K' hK (h.2 ht)⟩
    ·exact ih _ K K' hK h
    ·exact h
 have idopm:∀[Cl] {al:List (Nat×Nat)} {i:Nat} {o:av} {hist:List HI} {s:St} {K K':List HI→St→Prop},(∀x s,K x s→K' x s)→bZ P al i o hist s K→bZ P al i o hist s K':=fun {_} {al i o hist s K K'} hK h=>by
  unfold bZ at h ⊢
  split at h
  ·rcases h with ⟨args',r,b,h1,h2,h3,h4,h5,h6,h7,h8⟩ | ⟨k,ob,ob',Sb,r,h1,h2,h3,h4,h5,h6,h7,h8,h9⟩ | ⟨d,ob,st,off,len,Sb,h1,h2,h3,h4,h5,h6,h7⟩
   ·exact .inl ⟨args',r,b,h1,h2,h3,h4,h5,h6,h7,hK _ _ h8⟩
   ·exact .inr (.inl ⟨k,ob,ob',Sb,r,h1,h2,h3,h4,h5,h6,h7,h8,hK _ _ h9⟩)
   ·exact .inr (.inr ⟨d,ob,st,off,len,Sb,h1,h2,h3,h4,h5,h6,hK _ _ h7⟩)
  ·exact h
  ·rcases h with h | ⟨rows,h1,h2,h3,h4,h5⟩
   ·refine .inl ?_
    split at h
    ·exact ⟨h.1,h.2.1,h.2.2.1,hK _ _ h.2.2.2⟩
    ·exact h
   ·exact .inr ⟨rows,h1,h2,h3,h4,hK _ _ h5⟩
  ·split at h
   ·rename_i hcl
    rw [bz hcl]
    split at h
    ·exact ⟨h.1,h.2.1,hK _ _ h.2.2⟩
    ·exact h
   ·rename_i hcl
    rw [aV hcl]
    split at h
    ·exact ⟨h.1,h.2.1,h.2.2.1,hK _ _ h.2.2.2⟩
    ·exact h
  ·split at h
   ·exact ⟨h.1,h.2.1,h.2.2.1,hK _ _ h.2.2.2⟩
   ·exact h
 have idopsHm:∀[Cl] {al:List (Nat×Nat)} (l:List av) (i:Nat) (hist:List HI) (s:St) (K K':List HI→St→Prop),(∀x s,K x s→K' x s)→db P al i l hist s K→db P al i l hist s K':=by
  intro _ al l
  induction l with
  | nil=>intro i hist s K K' hK h;exact hK _ s h
  | cons o r ih =>
   intro i hist s K K' hK h
   unfold db at h ⊢
   split at h
   ·exact idopm (fun x s' hs'=>ih (i+1) x s' K K' hK hs') h
   ·split at h
    ·exact ⟨fun ht=>idopm (fun x s' hs'=>ih (i+1) x s' K K' hK hs') (h.1 ht),fun ht=>ih _ _ _ K K' hK (h.2 ht)⟩
    ·exact ih _ _ _ K K' hK h
    ·exact h
 have idopsm:∀[Cl] {al:List (Nat×Nat)} (l:List av) (i:Nat) (hist:List HI) (s:St) (K K':St→Prop),(∀s,K s→K' s)→fj P al i l hist s K→fj P al i l hist s K':=fun {_ _} l i hist s K K' hK h=>idopsHm l i hist s _ _ (fun _ s h=>hK s h) h
 intro x
 induction x with
 | skip=>intro s K K' hK h;exact hK _ _ h
 | ret=>intro s K K' hK h;exact hK _ _ h
 | exit id=>intro s K K' hK h;exact hK _ _ h
 | seq x y ihx ihy =>
  intro s K K' hK h
  refine ihx s _ _ (fun e s' hh=>?_) h
  cases e with
  | nrm=>exact ihy s' K K' hK hh
  | _=>exact hK _ _ hh
 | cut x y ihx ihy =>
  intro s K K' hK h
  refine ihx s _ _ (fun e s' hh=>?_) h
  cases e with
  | nrm=>obtain ⟨s'',h1,h2⟩:=hh;exact ⟨s'',h1,ihy s'' K K' hK h2⟩
  | _=>exact hK _ _ hh
 | cond v t e iht ihe =>
  intro s K K' hK h
  unfold fD at h ⊢
  split at h
  ·exact ⟨fun hb=>iht _ K K' hK (h.1 hb),fun hb=>ihe _ K K' hK (h.2 hb)⟩
  ·exact h
 | block id x ih =>
  intro s K K' hK h
  refine ih s _ _ (fun e s' hh=>?_) h
  cases e with
  | ext j =>
   simp only at hh ⊢
   split
   ·rename_i hj;rw [bz hj] at hh;exact hK _ _ hh
   ·rename_i hj;rw [aV hj] at hh;exact hK _ _ hh
  | _=>exact hK _ _ hh
 | loop x ih =>
  intro s K K' hK h
  obtain ⟨I,h0,h1⟩:=h
  refine ⟨I,h0,fun n s hI=>ih s _ _ (fun e s' hh=>?_) (h1 n s hI)⟩
  cases e with
  | nrm=>exact hh
  | _=>exact hK _ _ hh
 | reg ops dr=>intro s K K' hK h;exact iopsm ops s _ _ (fun s' hs'=>hK _ _ hs') h
 | draw ops al dr=>intro s K K' hK h;exact idopsm ops 0 [] _ _ _ (fun s' hs'=>hK _ _ hs') h
 | clon cs ops al dr=>intro s K K' hK h;exact @idopsm ⟨cs⟩ _ ops 0 [] _ _ _ (fun s' hs'=>hK _ _ hs') h
 | wild ops al dr =>
  intro s K K' hK h
  refine idopsHm _ _ _ _ _ _ (fun hist s1 hh=>?_) h
  split at hh
  ·unfold rY at hh ⊢
   split at hh
   ·refine ⟨hh.1,?_⟩
    replace hh:=hh.2
    split at hh
    ·exact ⟨hh.1,hh.2.1,hh.2.2.1,hh.2.2.2.1,hK _ _ hh.2.2.2.2⟩
    ·exact hh
   ·exact hh
  ·exact hh
 | free ops al dr =>
  intro s K K' hK h
  have conjm:∀{α:Type} {F F':α→Prop} (l:List α),(∀x,F x→F' x)→jA l F→jA l F':=by
   intro α F F' l hF
   induction l with
   | nil=>exact fun _=>trivial
   | cons x l ih =>
    cases l with
    | nil=>exact hF x
    | cons y l=>exact fun h=>⟨hF x h.1,ih h.2⟩
  have frm:∀(f:Nat) (R:List (Nat×av)) (s:St) (K K':St→Prop),(∀s,K s→K' s)→iE P f R s K→iE P f R s K':=by
   intro f
   induction f with
   | zero=>intro R s K K' hK h;exact hK s h
   | succ f ih=>intro R s K K' hK h;exact conjm _ (fun t ht=>iopsm _ _ _ _ (fun s' hs'=>ih _ s' K K' hK hs') ht) h
  exact frm _ _ _ _ _ (fun s' hs'=>hK _ _ hs') h
theorem rE {f:FuncId} {F:aN} {ic:aS} {args:List AV} {r:AV} (E:List (Nat×AV)) (hE:∀p∈E,p∈(aX.T P).env) (hm:P.follows .mixedOrders=true) (hf:ax P f=some F) (hic:cx ic=F.body) (hlen:args.length=F.np) (hi:fD P ic ⟨fB 0 args++E,[]⟩ (mU F.res r)):aj P f args r:=by
 refine (ni (Post:=fun r' σ'=>r'=r∧σ'=[]) E hE hm hf hic hlen (nA _ _ _ _ (fun e s ⟨h1,s1,hw,fs,h2,h3⟩=>⟨h1,s1,hw,fs,r,[],h2,fun i o hi=>by simp [ae] at hi,⟨(fun i hi=>by rw [h3] at hi;cases hi),(fun p hp=>by cases hp)⟩,rfl,rfl⟩) hi)).mono (fun _ h=>h.elim) (fun _ _ h=>h)
theorem ab {f:FuncId} {F:aN} {ic:aS} {args:List AV} {r:AV} (hm:P.follows .mixedOrders=true) (hf:ax P f=some F) (hic:cx ic=F.body) (hlen:args.length=F.np) (hi:fD P ic ⟨fB 0 args,[]⟩ (mU F.res r)):aj P f args r:=by
 refine (c_ (Post:=fun r' σ'=>r'=r∧σ'=[]) hm hf hic hlen (nA _ _ _ _ (fun e s ⟨h1,s1,hw,fs,h2,h3⟩=>⟨h1,s1,hw,fs,r,[],h2,fun i o hi=>by simp [ae] at hi,⟨(fun i hi=>by rw [h3] at hi;cases hi),(fun p hp=>by cases hp)⟩,rfl,rfl⟩) hi)).mono (fun _ h=>h.elim) (fun _ _ h=>h)
end
def mv (d j:Nat):aH:=⟨some d,.mov (.s j),none⟩
def mt (d j k:Nat):aH:=⟨some d,.mov (.s j),some (k,true)⟩
def mf (d j k:Nat):aH:=⟨some d,.mov (.s j),some (k,false)⟩
def o0 (d:Nat) (o:eV):aH:=⟨some d,o,none⟩
def ot (d k:Nat) (o:eV):aH:=⟨some d,o,some (k,true)⟩
def oF (d k:Nat) (o:eV):aH:=⟨some d,o,some (k,false)⟩
theorem Qk (d j:Nat):mv d j =⟨some d,.mov (.s j),none⟩:=rfl
theorem Qj (d j k:Nat):mt d j k =⟨some d,.mov (.s j),some (k,true)⟩:=rfl
theorem Qh (d j k:Nat):mf d j k =⟨some d,.mov (.s j),some (k,false)⟩:=rfl
theorem Q9 (d:Nat) (o:eV):o0 d o =⟨some d,o,none⟩:=rfl
theorem Rc (d k:Nat) (o:eV):ot d k o =⟨some d,o,some (k,true)⟩:=rfl
theorem Q_ (d k:Nat) (o:eV):oF d k o =⟨some d,o,some (k,false)⟩:=rfl
def lo (d j:Nat):aH:=o0 d (.load none (.s j))
theorem P8 (d j:Nat):lo d j=o0 d (.load none (.s j)):=rfl
def lS (d n j:Nat):aH:=o0 d (.load (some n) (.s j))
theorem P3 (d n j:Nat):lS d n j=o0 d (.load (some n) (.s j)):=rfl
def fa (d n j:Nat):aH:=o0 d (.fadr n (.s j))
theorem PU (d n j:Nat):fa d n j=o0 d (.fadr n (.s j)):=rfl
def nk (d j:Nat):aH:=o0 d (.nchk (.s j))
theorem Q6 (d j:Nat):nk d j=o0 d (.nchk (.s j)):=rfl
def ln (d j:Nat):aH:=o0 d (.len (.s j))
theorem P7 (d j:Nat):ln d j=o0 d (.len (.s j)):=rfl
def xt (d j k:Nat):aH:=o0 d (.ext (.s j) k)
theorem RH (d j k:Nat):xt d j k=o0 d (.ext (.s j) k):=rfl
def ia (d n j k:Nat):aH:=o0 d (.iadr n (.s j) (.s k))
theorem PZ (d n j k:Nat):ia d n j k=o0 d (.iadr n (.s j) (.s k)):=rfl
def mI (d:Nat) (n:Int):aH:=o0 d (.mov (.c (.int .i64 n)))
theorem P_ (d:Nat) (n:Int):mI d n=o0 d (.mov (.c (.int .i64 n))):=rfl
def mB (d:Nat) (b:Bool):aH:=o0 d (.mov (.c (.bool b)))
theorem P9 (d:Nat) (b:Bool):mB d b=o0 d (.mov (.c (.bool b))):=rfl
def bS (d:Nat) (o:BinOp) (j k:Nat):aH:=o0 d (.bin o (.s j) (.s k))
theorem Ob (d:Nat) (o:BinOp) (j k:Nat):bS d o j k=o0 d (.bin o (.s j) (.s k)):=rfl
def bI (d:Nat) (o:BinOp) (j:Nat) (n:Int):aH:=o0 d (.bin o (.s j) (.c (.int .i64 n)))
theorem Oa (d:Nat) (o:BinOp) (j:Nat) (n:Int):bI d o j n=o0 d (.bin o (.s j) (.c (.int .i64 n))):=rfl
def c0 (d:Nat) (f:FuncId):aH:=o0 d (.call f [])
theorem Od (d:Nat) (f:FuncId):c0 d f=o0 d (.call f []):=rfl
def c1 (d:Nat) (f:FuncId) (a:Nat):aH:=o0 d (.call f [.s a])
theorem Oe (d:Nat) (f:FuncId) (a:Nat):c1 d f a=o0 d (.call f [.s a]):=rfl
def c2 (d:Nat) (f:FuncId) (a b:Nat):aH:=o0 d (.call f [.s a,.s b])
theorem Of (d:Nat) (f:FuncId) (a b:Nat):c2 d f a b=o0 d (.call f [.s a,.s b]):=rfl
def c3 (d:Nat) (f:FuncId) (a b c:Nat):aH:=o0 d (.call f [.s a,.s b,.s c])
theorem Og (d:Nat) (f:FuncId) (a b c:Nat):c3 d f a b c=o0 d (.call f [.s a,.s b,.s c]):=rfl
def pF (d j k:Nat):aH:=o0 d (.pick (.s j) (.s k) (.c (.bool false)))
theorem Rd (d j k:Nat):pF d j k=o0 d (.pick (.s j) (.s k) (.c (.bool false))):=rfl
def pT (d j k:Nat):aH:=o0 d (.pick (.s j) (.c (.bool true)) (.s k))
theorem Re (d j k:Nat):pT d j k=o0 d (.pick (.s j) (.c (.bool true)) (.s k)):=rfl
def uN (d j:Nat):aH:=o0 d (.un .not (.s j))
theorem RE (d j:Nat):uN d j=o0 d (.un .not (.s j)):=rfl
def sT (n j k:Nat):aH:=⟨none,.store n (.s j) (.s k),none⟩
theorem Rp (n j k:Nat):sT n j k =⟨none,.store n (.s j) (.s k),none⟩:=rfl
def iC (n:Int):IV:=.c (.int .i64 n)
theorem PY (n:Int):iC n = .c (.int .i64 n):=rfl
def bC (b:Bool):IV:=.c (.bool b)
theorem N_ (b:Bool):bC b = .c (.bool b):=rfl
def ld (j:Nat):eV:=.load none (.s j)
theorem P6 (j:Nat):ld j = .load none (.s j):=rfl
def fd (n j:Nat):eV:=.fadr n (.s j)
theorem PV (n j:Nat):fd n j = .fadr n (.s j):=rfl
def sr (o:List aH) (k:List Nat) (y:aS):aS:=.seq (.reg o k) y
theorem Rv (o:List aH) (k:List Nat) (y:aS):sr o k y = .seq (.reg o k) y:=rfl
def cR (j:Nat):aS:=.cond (.s j) .ret .skip
theorem Oh (j:Nat):cR j = .cond (.s j) .ret .skip:=rfl
attribute [go_sem] P8 P3 PU Q6 P7 RH PZ P_ P9 Ob Oa Od Oe Of Og Rd Re RE Rp PY N_ P6 PV Rv Oh
attribute [go_sem] Qk Qj Qh Q9 Rc Q_
end Go.Mw