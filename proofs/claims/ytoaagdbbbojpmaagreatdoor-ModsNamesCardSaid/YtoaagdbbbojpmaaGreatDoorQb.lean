/-
  States as lists; contracts of functions; how a call is met by a contract.
-/
import Derived.Test.YtoaagdbbbojpmaaGreatDoorQa
import Derived.Orders
import Derived.Still
import Derived.Scope
set_option linter.unusedVariables false
set_option linter.unusedSimpArgs false
set_option linter.unusedSectionVars false
set_option linter.unusedSectionVars false
set_option linter.unusedVariables false
set_option linter.unusedSimpArgs false
namespace Go.Mw

structure St where
  env:List (Nat × AV)
  heap:List (Nat × AObj)

def get:List (Nat × AV) → Nat → AV
  | [],_=>.any
  | (k,x) :: r,n=>if k = n then x else get r n
def hget:List (Nat × AObj) → Nat → Option AObj
  | [],_=>none
  | (k,x) :: r,n=>if k = n then some x else hget r n
def del:List (Nat × AV) → Nat → List (Nat × AV)
  | [],_=>[]
  | (k,x) :: r,n=>if k = n then del r n else (k,x) :: del r n
def hdel:List (Nat × AObj) → Nat → List (Nat × AObj)
  | [],_=>[]
  | (k,x) :: r,n=>if k = n then hdel r n else (k,x) :: hdel r n
def purE (i:Nat):List (Nat × AV) → List (Nat × AV)
  | []=>[]
  | (k,x) :: r=>(k,purV i x) :: purE i r
def purH (i:Nat):List (Nat × AObj) → List (Nat × AObj)
  | []=>[]
  | (k,x) :: r=>(k,purO i x) :: purH i r

def St.put (s:St) (d:Option Nat) (x:AV):St :=
  match d with
  | some d=>⟨(d,x) :: s.env,s.heap⟩
  | none=>s
def St.kill (s:St) (i:Nat):St:=⟨purE i s.env,purH i (hdel s.heap i)⟩
def St.eff (s:St) (e:Eff):St :=
  match e with
  | .no=>s
  | .put i o=>⟨s.env,(i,o) :: hdel s.heap i⟩
  | .new i o=>⟨s.env,(i,o) :: hdel s.heap i⟩
  | .reb i o=>⟨purE i s.env,(i,o) :: purH i (hdel s.heap i)⟩
def kills:List Nat → St → St
  | [],s=>s
  | i :: r,s=>kills r (s.kill i)
def dels:List Nat → List (Nat × AV) → List (Nat × AV)
  | [],e=>e
  | d :: r,e=>dels r (del e d)

theorem get_del (n:Nat):∀ (l:List (Nat × AV)) (k:Nat),get (del l n) k = if k = n then .any else get l k
  | [],k=>by simp [del,get]
  | (j,x) :: r,k=>by
    simp only [del]
    by_cases h:j = n
    · rw [if_pos h,get_del n r k]
      subst h
      by_cases h2:k = j
      · simp [h2]
      · simp [get,h2,Ne.symm h2]
    · rw [if_neg h]
      simp only [get]
      by_cases h2:j = k
      · subst h2; simp [h]
      · simp only [h2,if_false,get_del n r k]
theorem hget_hdel (n:Nat):∀ (l:List (Nat × AObj)) (k:Nat),hget (hdel l n) k = if k = n then none else hget l k
  | [],k=>by simp [hdel,hget]
  | (j,x) :: r,k=>by
    simp only [hdel]
    by_cases h:j = n
    · rw [if_pos h,hget_hdel n r k]
      subst h
      by_cases h2:k = j
      · simp [h2]
      · simp [hget,h2,Ne.symm h2]
    · rw [if_neg h]
      simp only [hget]
      by_cases h2:j = k
      · subst h2; simp [h]
      · simp only [h2,if_false,hget_hdel n r k]
theorem get_purE (i:Nat):∀ (l:List (Nat × AV)) (k:Nat),get (purE i l) k = purV i (get l k)
  | [],k=>by simp [purE,get,purV,mV,mG,mC,mP]
  | (j,x) :: r,k=>by simp only [purE,get,get_purE i r k]; split <;> rfl
theorem hget_purH (i:Nat):∀ (l:List (Nat × AObj)) (k:Nat),hget (purH i l) k = (hget l k).map (purO i)
  | [],k=>by simp [purH,hget]
  | (j,x) :: r,k=>by simp only [purH,hget,hget_purH i r k]; split <;> rfl

def SatS (c:Ctx) (s:St) (a:Act) (w:World):Prop:=∃ bl,SatB c bl (get s.env) (hget s.heap) a w

section
variable {P:Program} [Tabs P] {c:Ctx} [CT c P] {a:Act} {w:World} {s:St}

theorem SatS.kill (h:SatS c s a w) (i:Nat):SatS c (s.kill i) a w:=by
  obtain ⟨bl,h⟩:=h
  exact ⟨bl,(h.kill i).congr (fun k=>by simp [St.kill,get_purE]) (fun j=>by simp only [St.kill,hget_purH,hget_hdel]; split <;> simp)⟩

theorem SatS.kills:∀ (l:List Nat) {s:St},SatS c s a w → SatS c (Mw.kills l s) a w
  | [],_,h=>h
  | i :: r,_,h=>SatS.kills r (h.kill i)

theorem kill_unnamed (s:St) (i:Nat):hget (s.kill i).heap i = none ∧ Unnamed i (get (s.kill i).env) (hget (s.kill i).heap):=by
  refine ⟨by simp [St.kill,hget_purH,hget_hdel],?_⟩
  have:=unnamed_purge i (get s.env) (hget s.heap)
  refine ⟨fun k=>by simpa [St.kill,get_purE] using this.1 k,fun j o hj=>this.2 j o ?_⟩
  rw [← hj]
  simp only [St.kill,hget_purH,hget_hdel]
  split <;> simp

theorem SatS.del (h:SatS c s a w) (d:Nat):SatS c ⟨del s.env d,s.heap⟩ a w:=by
  obtain ⟨bl,h⟩:=h
  exact ⟨bl,h.weaken (fun k=>by rw [get_del]; split <;> simp) (fun _ _ h=>h)⟩
theorem SatS.dels:∀ (l:List Nat) {e:List (Nat × AV)} {hp:List (Nat × AObj)},SatS c ⟨e,hp⟩ a w → SatS c ⟨Mw.dels l e,hp⟩ a w
  | [],_,_,h=>h
  | d :: r,_,_,h=>SatS.dels r (h.del d)

theorem sat_put {bl:Nat → Option Nat} {g:Nat → AV} {h:Nat → Option AObj} (hs:SatB c bl g h a w) (d:Option Nat) (hd:∀ k,d = some k → k < c.n) {v:Value} {x:AV} (hv:VRel bl (Mut bl c.MF h) w v x)
    (hg:∀ k,get s.env k = g k) (hh:∀ j,hget s.heap j = h j):SatS c (s.put d x) (a.put d v) w:=by
  cases d with
  | none=>exact ⟨bl,by simpa [St.put,Act.put] using hs.congr hg hh⟩
  | some d =>
    refine ⟨bl,(hs.put (hd d rfl) hv).congr (fun k=>?_) (fun j=>by simpa [St.put] using hh j)⟩
    simp only [St.put,get,upd,get_del]
    by_cases hk:k = d
    · subst hk; simp
    · simp [hk,Ne.symm hk,hg]

theorem sat_skip (h:SatS c s a w) (d:Option Nat) (hd:∀ k,d = some k → k < c.n) (_:Unit):SatS c (s.put d (.tup [])) (a.put d undef) w:=by
  obtain ⟨bl,h⟩:=h
  exact sat_put h d hd (x:=.tup []) ⟨[],rfl,trivial⟩ (fun _=>rfl) (fun _=>rfl)

theorem get_eff (s:St) (e:Eff) (k:Nat):get (s.eff e).env k = e.env (get s.env) k:=by
  cases e <;> simp [St.eff,Eff.env,get_purE]
theorem hget_eff (s:St) (e:Eff) (j:Nat):hget (s.eff e).heap j = e.hp (hget s.heap) j:=by
  cases e with
  | no=>rfl
  | put i o=>simp only [St.eff,Eff.hp,hget,upd,hget_hdel]; by_cases h:j = i <;> simp [h,eq_comm]
  | new i o=>simp only [St.eff,Eff.hp,hget,upd,hget_hdel]; by_cases h:j = i <;> simp [h,eq_comm]
  | reb i o=>simp only [St.eff,Eff.hp,hget,upd,hget_purH,hget_hdel]; by_cases h:j = i <;> simp [h,eq_comm]
end

/-! ### Contracts -/

def idsP:AV → List Nat
  | .ms id _ _ _=>[id]
  | .mp id _ _ _=>[id]
  | .mm id _=>[id]
  | _=>[]
def idsC:AV → List Nat
  | .fn _ caps=>caps.flatMap idsP
  | x=>idsP x
def idsG:AV → List Nat
  | .agg cells=>cells.flatMap idsC
  | x=>idsC x
def idsV:AV → List Nat
  | .tup vs=>vs.flatMap idsG
  | x=>idsG x
def idsO (o:AObj):List Nat:=if o.isRec then o.rows.flatMap (fun r=>r.flatMap idsC) else []

theorem mP_ids {i:Nat} {x:AV} (h:mP i x = true):i ∈ idsP x:=by cases x <;> simp_all [mP,idsP]
theorem mC_ids {i:Nat} {x:AV} (h:mC i x = true):i ∈ idsC x:=by
  cases x with
  | fn f caps =>
    simp only [mC,List.any_eq_true] at h
    obtain ⟨y,h1,h2⟩:=h
    simp only [idsC,List.mem_flatMap]
    exact ⟨y,h1,mP_ids h2⟩
  | _ =>
    simp only [mC] at h
    simpa only [idsC] using mP_ids h
theorem mG_ids {i:Nat} {x:AV} (h:mG i x = true):i ∈ idsG x:=by
  cases x with
  | agg cells =>
    simp only [mG,List.any_eq_true] at h
    obtain ⟨y,h1,h2⟩:=h
    simp only [idsG,List.mem_flatMap]
    exact ⟨y,h1,mC_ids h2⟩
  | _ =>
    simp only [mG] at h
    simpa only [idsG] using mC_ids h
theorem mV_ids {i:Nat} {x:AV} (h:mV i x = true):i ∈ idsV x:=by
  cases x with
  | tup vs =>
    simp only [mV,List.any_eq_true] at h
    obtain ⟨y,h1,h2⟩:=h
    simp only [idsV,List.mem_flatMap]
    exact ⟨y,h1,mG_ids h2⟩
  | _ =>
    simp only [mV] at h
    simpa only [idsV] using mG_ids h

def Closed (r:AV) (σ:List (Nat × AObj)):Prop:=(∀ i ∈ idsV r,(hget σ i).isSome = true) ∧ ∀ p ∈ σ,∀ i ∈ idsO p.2,(hget σ i).isSome = true

def Blocks (bl:Nat → Option Nat) (σ:List (Nat × AObj)) (b:Nat):Prop:=∃ id o,hget σ id = some o ∧ bl id = some b

def ACalls (P:Program) [Tabs P] (f:FuncId) (args:List AV) (σ:List (Nat × AObj)) (Sb:Nat → Prop) (Post:AV → List (Nat × AObj) → Prop):Prop :=
  ∀ (bl:Nat → Option Nat) (MF:Nat → Prop) (w:World) (cargs:List Value),
    (Tabs.T P).H w → (∀ b,(Tabs.T P).B b → ¬ Mut bl MF (hget σ) b) → HRel bl (Mut bl MF (hget σ)) MF w (hget σ) → (∀ b,MF b → b < w.heap.size) → All2 (VRel bl (Mut bl MF (hget σ)) w) cargs args →
    Calls P f cargs.toArray w fun e w'=>∃ v r σ' bl',e = .returned v ∧ Post r σ' ∧ Closed r σ' ∧ HRel bl' (Mut bl' MF (hget σ')) MF w' (hget σ') ∧ VRel bl' (Mut bl' MF (hget σ')) w' v r ∧
      Stp (Blocks bl σ) w w' ∧ (∀ id o b,hget σ' id = some o → bl' id = some b → w.heap.size ≤ b ∨ Blocks bl σ b) ∧ ∀ id,Sb id → bl' id = bl id

def PCalls (P:Program) [Tabs P] (f:FuncId) (args:List AV) (r:AV):Prop:=ACalls P f args [] (fun _=>False) fun r' σ'=>r' = r ∧ σ' = []

def flatC:AV → Bool
  | .bool _=>true
  | .int ..=>true
  | .str _=>true
  | .nl=>true
  | .np=>true
  | .nf=>true
  | .sl _ []=>true
  | _=>false
def flatG:AV → Bool
  | .agg cells=>cells.all flatC
  | x=>flatC x
def flatV:AV → Bool
  | .tup vs=>vs.all flatG
  | x=>flatG x

def coe (b:Bool) (h:Nat → Option AObj) (x x':AV):Prop :=
  x = x' ∨ (x = .nl ∧ ∃ st,x' = .sl st []) ∨
  (b = true ∧ ∃ id st off len o,x = .ms id st off len ∧ h id = some o ∧ o.isRec = false ∧ o.st = st ∧ off + len ≤ o.rows.length ∧ x' = .sl st ((o.rows.drop off).take len))

section
variable {P:Program} [Tabs P] {c:Ctx} [CT c P] {bl:Nat → Option Nat} {g:Nat → AV} {h:Nat → Option AObj} {a:Act} {w w':World} {M M':Nat → Prop}

theorem flatC_rel {bl':Nat → Option Nat} {v:Value} {x:AV} (hf:flatC x = true) (hv:CRel bl M w v x):CRel bl' M' w' v x:=by
  cases x <;> simp [flatC] at hf <;> simp only [CRel,PRel] at hv ⊢
  case sl st rows =>
    cases rows with
    | cons r l=>simp [flatC] at hf
    | nil =>
      cases hv with
      | nls=>exact .nls _
      | sl0=>exact .sl0 _ _ _
      | sl b off cap st c t fr rows vs=>exact .sl0 _ _ _
  all_goals (cases hv; constructor)

theorem flatG_rel {bl':Nat → Option Nat} {v:Value} {x:AV} (hf:flatG x = true) (hv:GRel bl M w v x):GRel bl' M' w' v x:=by
  cases x with
  | agg cells =>
    obtain ⟨cs,h1,h2⟩:=hv
    exact ⟨cs,h1,h2.mono fun _ y hy hr=>flatC_rel (List.all_eq_true.1 hf y hy) hr⟩
  | _ =>
    simp only [flatG] at hf
    simp only [GRel] at hv ⊢
    exact flatC_rel hf hv

theorem flatV_rel {bl':Nat → Option Nat} {v:Value} {x:AV} (hf:flatV x = true) (hv:VRel bl M w v x):VRel bl' M' w' v x:=by
  cases x with
  | any=>trivial
  | tup vs =>
    obtain ⟨cs,h1,h2⟩:=hv
    exact ⟨cs,h1,h2.mono fun _ y hy hr=>flatG_rel (List.all_eq_true.1 hf y hy) hr⟩
  | _ =>
    simp only [flatV] at hf
    simp only [VRel] at hv ⊢
    exact flatG_rel hf hv

theorem SatB.grow (s:SatB c bl g h a w) (hst:Stp (fun _=>False) w w'):SatB c bl g h a w':=by
  have ht:Tr (Mut bl c.MF h) (Mut bl c.MF h) w w':=⟨fun b hb hl=>⟨hb,hst.keep b hl (fun h=>h)⟩,hst.shape⟩
  refine ⟨s.defers,s.size,fun k=>(s.env k).tr ht (fun _ _=>rfl),⟨fun id o hi=>?_,s.heap.2⟩,s.step.trans hst (fun _ _ h=>h.elim),s.own,s.stab,s.mf⟩
  rcases s.heap.1 id o hi with h1 | ⟨b,h1,⟨gk,c1,fr,h2,h3,h4,h5,h6,h7⟩ | hsp⟩
  · exact .inl h1
  rotate_left
  · exact .inr ⟨b,h1,.inr (hsp.tr (hst.keep b hsp.rel.lt (fun h=>h)))⟩
  · refine .inr ⟨b,h1,.inl ⟨gk,c1,fr,by rw [hst.keep b (lt_of_heap h2) (fun h=>h)]; exact h2,h3,h4,h5,h6,fun i j r x hr hx=>?_⟩⟩
    obtain ⟨v,hv1,hv2⟩:=h7 i j r x hr hx
    exact ⟨v,hv1,hv2.tr ht (fun _ _ _=>rfl)⟩

theorem Mut_false (MF:Nat → Prop) (b:Nat):Mut bl MF (hget []) b ↔ MF b:=⟨fun h=>by
  rcases h with h | ⟨id,o,h,_⟩
  · exact h
  · simp [hget] at h,.inl⟩

theorem SatB.tab (s:SatB c bl g h a w):(Tabs.T P).H w:=by
  rw [← CT.eq (c:=c) (P:=P)]
  exact c.T.stay c.w0 w c.tH fun b hb=>s.step.keep b (c.T.low _ c.tH b hb) (c.tW b hb)
theorem SatB.tabW (s:SatB c bl g h a w) (b:Nat) (hb:(Tabs.T P).B b):¬ Mut bl c.MF h b:=by
  rw [← CT.eq (c:=c) (P:=P)] at hb
  rintro (hm | ⟨id,o,h1,h2⟩)
  · exact c.tM b hb hm
  rcases s.own id o b h1 h2 with h3 | h3
  · exact absurd (c.T.low _ c.tH b hb) (by omega)
  · exact c.tW b hb h3

theorem pure_call (s:SatB c bl g h a w) {f:FuncId} {cargs:List Value} {args args':List AV} {r:AV} (hp:PCalls P f args' r) (ha:All2 (VRel bl (Mut bl c.MF h) w) cargs args) (hid:∀ x ∈ args',idsV x = []) (b:Bool) (hc:All2 (coe b h) args args') (hf:b = true → flatV r = true) :
    Calls P f cargs.toArray w fun e w'=>∃ v,e = .returned v ∧ SatB c bl g h a w' ∧ VRel bl (Mut bl c.MF h) w' v r:=by
  -- the blocks that the callee must leave out of what it reads
  let MF':Nat → Prop:=fun q=>Mut bl c.MF h q ∧ (b = true → c.MF q)
  have hMF':∀ q,MF' q → q < w.heap.size:=fun q hq=>by
    rcases hq.1 with hm | ⟨id,o,h1,h2⟩
    · exact Nat.lt_of_lt_of_le (s.mf q hm) s.step.size
    · rcases s.heap.1 id o h1 with hn | ⟨b',g2,hO⟩
      · rw [hn.2.2] at h2; cases h2
      · rw [h2] at g2; cases g2; exact hO.lt
  have hargs:All2 (VRel (fun _=>none) (Mut (fun _=>none) MF' (hget [])) w) cargs args':=by
    have key:∀ {cs:List Value} {as as':List AV},All2 (VRel bl (Mut bl c.MF h) w) cs as → All2 (coe b h) as as' → (∀ x ∈ as',idsV x = []) → All2 (VRel (fun _=>none) (Mut (fun _=>none) MF' (hget [])) w) cs as':=by
      intro cs
      induction cs with
      | nil =>
        intro as as' h1 h2 _
        cases as with
        | cons=>exact h1.elim
        | nil=>cases as' with
          | cons=>exact h2.elim
          | nil=>trivial
      | cons v cs ih =>
        intro as as' h1 h2 h3
        cases as with
        | nil=>exact h1.elim
        | cons x as =>
          cases as' with
          | nil=>exact h2.elim
          | cons x' as' =>
            refine ⟨?_,ih h1.2 h2.2 (fun y hy=>h3 y (by simp [hy]))⟩
            have ht:Tr (Mut bl c.MF h) (Mut (fun _=>none) MF' (hget [])) w w:=⟨fun q hq _=>⟨fun hm=>hq ((Mut_false MF' q).1 hm).1,rfl⟩,fun _ c1 _ fr hb=>⟨c1,fr,hb,rfl⟩⟩
            have hno:∀ id,mV id x' = true → (none:Option Nat) = bl id:=fun id hm=>by
              have:=mV_ids hm
              rw [h3 x' (by simp)] at this
              simp at this
            rcases h2.1 with he | ⟨he,st,he'⟩ | ⟨hb,id,st,off,len,o,he,ho,hrec,hst,hfit,he'⟩
            · have h11:=h1.1
              rw [he] at h11
              exact h11.tr ht hno
            · rw [he']
              have h11:=h1.1
              rw [he] at h11
              have:=h11.nl
              rw [this]
              exact IRel.nls st
            · have h11:=h1.1
              rw [he] at h11
              rw [he']
              have h4:PRel bl (Mut bl c.MF h) w v (.ms id st off len):=h11
              rcases s.heap.1 id o ho with hn | ⟨bb,g2,hO⟩
              · have hlen:len = 0:=by rw [hn.1] at hfit; simp at hfit; omega
                subst hlen
                simp only [List.take_zero]
                rcases h4 with ⟨e1,_⟩ | ⟨_,_,ad,cap,e1⟩ | ⟨b',cap,c1,t,fr,e1,_⟩
                · rw [e1]; exact IRel.nls st
                · rw [e1]; exact IRel.sl0 st ad cap
                · rw [hn.2.2] at e1; cases e1
              · have hnb:¬ Mut (fun _=>none) MF' (hget []) bb:=fun hm=>by
                  have:=((Mut_false MF' bb).1 hm).2 hb
                  exact hO.free this
                have:=frzP_rel (M':=Mut (fun _=>none) MF' (hget [])) ht hnb (.inr ⟨g2,hO⟩) hrec h4
                simp only [frzP,if_true,hst,true_and,hfit] at this
                exact this
    exact key ha hc hid
  refine (hp (fun _=>none) MF' w cargs (SatB.tab (P:=P) s) (fun q hq hm=>SatB.tabW (P:=P) s q hq ((Mut_false MF' q).1 hm).1) ⟨fun id o hi=>by simp [hget] at hi,fun id id' o o' b hi=>by simp [hget] at hi⟩ hMF' hargs).mono fun e w' hh=>?_
  obtain ⟨v,r',σ',bl',rfl,⟨rfl,rfl⟩,hcl,_,hv,hst,_,_⟩:=hh
  have hst':Stp (fun _=>False) w w':=⟨hst.size,fun q hq _=>hst.keep q hq (fun hb=>by
    obtain ⟨id,o,hi,_⟩:=hb
    simp [hget] at hi),hst.shape,hst.os,hst.out⟩
  refine ⟨v,rfl,s.grow hst',?_⟩
  cases b with
  | true=>exact flatV_rel (hf rfl) hv
  | false =>
    refine hv.tr ⟨fun q hq hl=>⟨fun hm=>hq ((Mut_false MF' q).2 ⟨hm,fun h=>by cases h⟩),rfl⟩,fun _ c1 _ fr hb=>⟨c1,fr,hb,rfl⟩⟩ (fun id hm=>?_)
    have:=hcl.1 id (mV_ids hm)
    simp [hget] at this
end
end Go.Mw
set_option linter.unusedSectionVars false
set_option linter.unusedVariables false
set_option linter.unusedSimpArgs false
namespace Go.Mw

def purLV (ks:List Nat) (x:AV):AV:=if ks.any (fun i=>mV i x) then .any else x
def purLC (ks:List Nat) (x:AV):AV:=if ks.any (fun i=>mC i x) then .any else x
def purLO (ks:List Nat) (o:AObj):AObj:=if o.isRec then { o with rows:=o.rows.map (fun r=>r.map (purLC ks)) } else o

def mrg (ks:List Nat) (σ0 σ':Nat → Option AObj) (h:Nat → Option AObj) (id:Nat):Option AObj :=
  match σ' id with
  | some o=>some o
  | none=>if (σ0 id).isSome then none else (h id).map (purLO ks)

section
variable {P:Program} [Tabs P] {c:Ctx} [CT c P] {bl bl' bl2:Nat → Option Nat} {g:Nat → AV} {h:Nat → Option AObj} {a:Act} {w w':World} {M M':Nat → Prop} {ks:List Nat}

theorem purLV_rel {v:Value} {x:AV} (hv:VRel bl M w v x) (ht:Tr M M' w w') (hb:∀ id,id ∉ ks → bl2 id = bl id):VRel bl2 M' w' v (purLV ks x):=by
  unfold purLV
  split
  · trivial
  · rename_i hn
    refine hv.tr ht (fun id hm=>hb id (fun hk=>hn ?_))
    exact List.any_eq_true.2 ⟨id,hk,hm⟩

theorem purLC_rel {v:Value} {x:AV} (hv:CRel bl M w v x) (ht:Tr M M' w w') (hb:∀ id,id ∉ ks → bl2 id = bl id):CRel bl2 M' w' v (purLC ks x):=by
  unfold purLC
  split
  · exact IRel.toC (.any v (CRel.one hv))
  · rename_i hn
    refine hv.tr ht (fun id hm=>hb id (fun hk=>hn ?_))
    exact List.any_eq_true.2 ⟨id,hk,hm⟩

theorem obj_call (s:SatB c bl g h a w) {f:FuncId} {cargs:List Value} {args:List AV} {σ0:List (Nat × AObj)} {Sb:Nat → Prop} {Post:AV → List (Nat × AObj) → Prop}
    (hp:ACalls P f args σ0 Sb Post) (ha:All2 (VRel bl (Mut bl c.MF h) w) cargs args) (hσ:∀ id o,hget σ0 id = some o → h id = some o) (ks:List Nat)
    (hks:∀ r σ',Post r σ' → ∀ id,(hget σ' id).isSome = true → (Sb id ∧ (hget σ0 id).isSome = true) ∨ (id ∈ ks ∧ (id < 1000 ∨ 2000 ≤ id) ∧ ((hget σ0 id).isSome = true ∨ h id = none))) :
    Calls P f cargs.toArray w fun e w'=>∃ v r σ' bl2,e = .returned v ∧ Post r σ' ∧ SatB c bl2 (fun k=>purLV ks (g k)) (mrg ks (hget σ0) (hget σ') h) a w' ∧ VRel bl2 (Mut bl2 c.MF (mrg ks (hget σ0) (hget σ') h)) w' v r:=by
  let MF':Nat → Prop:=fun q=>c.MF q ∨ ∃ id o,h id = some o ∧ hget σ0 id = none ∧ bl id = some q
  have blk:∀ {id o q},h id = some o → bl id = some q → OBlock bl (Mut bl c.MF h) c.MF w o q:=fun {id o q} h1 h2=>by
    rcases s.heap.1 id o h1 with hn | ⟨b',g2,hO⟩
    · rw [hn.2.2] at h2; cases h2
    · rw [h2] at g2; cases g2; exact hO
  have hMF':∀ q,MF' q → q < w.heap.size:=by
    rintro q (hq | ⟨id,o,h1,_,h2⟩)
    · exact Nat.lt_of_lt_of_le (s.mf q hq) s.step.size
    · exact (blk h1 h2).lt
  have hmut:∀ q,Mut bl MF' (hget σ0) q ↔ Mut bl c.MF h q:=fun q=>by
    constructor
    · rintro ((hq | ⟨id,o,h1,_,h2⟩) | ⟨id,o,h1,h2⟩)
      · exact .inl hq
      · exact .inr ⟨id,o,h1,h2⟩
      · exact .inr ⟨id,o,hσ id o h1,h2⟩
    · rintro (hq | ⟨id,o,h1,h2⟩)
      · exact .inl (.inl hq)
      · cases h3:hget σ0 id with
        | none=>exact .inl (.inr ⟨id,o,h1,h3,h2⟩)
        | some o'=>exact .inr ⟨id,o',h3,h2⟩
  have ht0:=Tr.of_iff (w:=w) hmut
  have hH:HRel bl (Mut bl MF' (hget σ0)) MF' w (hget σ0):=by
    refine ⟨fun id o hi=>?_,fun id id' o o' q h1 h2=>s.heap.2 id id' o o' q (hσ _ _ h1) (hσ _ _ h2)⟩
    rcases s.heap.1 id o (hσ id o hi) with hn | ⟨b',g2,⟨gk,c2,fr2,g3,g4,g5,g6,g7,g8⟩ | hsp⟩
    · exact .inl hn
    rotate_left
    · refine .inr ⟨b',g2,.inr ⟨hsp.rows,hsp.isRec,?_,hsp.rel⟩⟩
      rintro (hq | ⟨id2,o2,h1,h3,h2⟩)
      · exact hsp.free hq
      · have:=s.heap.2 id2 id o2 o b' h1 (hσ id o hi) h2 g2
        subst this
        rw [hi] at h3
        cases h3
    · refine .inr ⟨b',g2,.inl ⟨gk,c2,fr2,g3,g4,?_,g6,g7,fun i j r x hr hx=>?_⟩⟩
      · rintro (hq | ⟨id2,o2,h1,h3,h2⟩)
        · exact g5 hq
        · have:=s.heap.2 id2 id o2 o b' h1 (hσ id o hi) h2 g2
          subst this
          rw [hi] at h3
          cases h3
      · obtain ⟨v,hv1,hv2⟩:=g8 i j r x hr hx
        exact ⟨v,hv1,hv2.tr ht0 (fun _ _ _=>rfl)⟩
  refine (hp bl MF' w cargs (SatB.tab (P:=P) s) (fun q hq hm=>SatB.tabW (P:=P) s q hq ((hmut q).1 hm)) hH hMF' (ha.mono fun _ _ _ hr=>hr.tr ht0 (fun _ _=>rfl))).mono fun e w' hh=>?_
  obtain ⟨v,r,σ',bl1,rfl,hPost,hcl,hH',hv,hst,hown,hsb⟩:=hh
  have hks':=hks r σ' hPost
  let B:Nat → Option Nat:=fun id=>if (hget σ' id).isSome then bl1 id else bl id
  have B_in:∀ id,(hget σ' id).isSome = true → B id = bl1 id:=fun id hi=>by simp [B,hi]
  have B_out:∀ id,hget σ' id = none → B id = bl id:=fun id hi=>by simp [B,hi]
  have B_ks:∀ id,id ∉ ks → B id = bl id:=fun id hk=>by
    cases hi:hget σ' id with
    | none=>exact B_out id hi
    | some o =>
      rw [B_in id (by simp [hi])]
      rcases hks' id (by simp [hi]) with ⟨h1,_⟩ | ⟨h1,_⟩
      · exact hsb id h1
      · exact absurd h1 hk
  -- the objects of the caller that were not handed over
  have mrg_out:∀ {id o},mrg ks (hget σ0) (hget σ') h id = some o → hget σ' id = none → ∃ o0,h id = some o0 ∧ o = purLO ks o0 ∧ hget σ0 id = none:=fun {id o} hm hn=>by
    simp only [mrg,hn] at hm
    split at hm
    · cases hm
    · rename_i h0
      simp only [Option.map_eq_some_iff] at hm
      obtain ⟨o0,h1,rfl⟩:=hm
      exact ⟨o0,h1,rfl,by simpa using h0⟩
  have σblk:∀ {id o q},hget σ' id = some o → bl1 id = some q → OBlock bl1 (Mut bl1 MF' (hget σ')) MF' w' o q:=fun {id o q} h1 h2=>by
    rcases hH'.1 id o h1 with hn | ⟨b',g2,hO⟩
    · rw [hn.2.2] at h2; cases h2
    · rw [h2] at g2; cases g2; exact hO
  have hmut2:∀ q,Mut B c.MF (mrg ks (hget σ0) (hget σ') h) q → Mut bl1 MF' (hget σ') q:=by
    rintro q (hq | ⟨id,o,h1,h2⟩)
    · exact .inl (.inl hq)
    · cases hi:hget σ' id with
      | some o'=>rw [B_in id (by simp [hi])] at h2; exact .inr ⟨id,o',hi,h2⟩
      | none =>
        obtain ⟨o0,h3,_,h4⟩:=mrg_out h1 hi
        rw [B_out id hi] at h2
        exact .inl (.inr ⟨id,o0,h3,h4,h2⟩)
  have hmut3:∀ q,q < w.heap.size → Mut bl1 MF' (hget σ') q → Mut bl c.MF h q:=by
    rintro q hq ((hm | ⟨id,o,h1,_,h2⟩) | ⟨id,o,h1,h2⟩)
    · exact .inl hm
    · exact .inr ⟨id,o,h1,h2⟩
    · rcases hown id o q h1 h2 with h3 | ⟨id2,o2,h3,h4⟩
      · omega
      · exact .inr ⟨id2,o2,hσ _ _ h3,h4⟩
  have ht:Tr (Mut bl c.MF h) (Mut B c.MF (mrg ks (hget σ0) (hget σ') h)) w w':=⟨fun q hq hl=>⟨fun hm=>hq (hmut3 q hl (hmut2 q hm)),hst.keep q hl (fun hb=>hq (by
    obtain ⟨id,o,h1,h2⟩:=hb
    exact .inr ⟨id,o,hσ _ _ h1,h2⟩))⟩,hst.shape⟩
  have ht1:Tr (Mut bl1 MF' (hget σ')) (Mut B c.MF (mrg ks (hget σ0) (hget σ') h)) w' w':=⟨fun q hq _=>⟨fun hm=>hq (hmut2 q hm),rfl⟩,fun _ c1 _ fr hb=>⟨c1,fr,hb,rfl⟩⟩
  have hcl1:∀ id,mV id r = true → B id = bl1 id:=fun id hm=>B_in id (hcl.1 id (mV_ids hm))
  have hmem:∀ {σ:List (Nat × AObj)} {id:Nat} {o:AObj},hget σ id = some o → (id,o) ∈ σ:=by
    intro σ
    induction σ with
    | nil=>intro id o hi; simp [hget] at hi
    | cons p l ih =>
      intro id o hi
      obtain ⟨k,x⟩:=p
      simp only [hget] at hi
      split at hi
      · rename_i hk; cases hi; subst hk; simp
      · exact List.mem_cons_of_mem _ (ih hi)
  refine ⟨v,r,σ',B,rfl,hPost,⟨s.defers,s.size,fun k=>purLV_rel (s.env k) ht B_ks,⟨fun id o hi=>?_,fun id id' o o' q h1 h2 h3 h4=>?_⟩,?_,fun id o q h1 h2=>?_,fun id h1 h2=>?_,s.mf⟩,hv.tr ht1 hcl1⟩
  · cases hi':hget σ' id with
    | some o' =>
      have ho:o = o':=by simp only [mrg,hi',Option.some.injEq] at hi; exact hi.symm
      subst ho
      rcases hH'.1 id o hi' with hn | ⟨b',g2,⟨gk,c2,fr2,g3,g4,g5,g6,g7,g8⟩ | hsp⟩
      · exact .inl ⟨hn.1,hn.2.1,by rw [B_in id (by simp [hi'])]; exact hn.2.2⟩
      rotate_left
      · exact .inr ⟨b',by rw [B_in id (by simp [hi'])]; exact g2,.inr ⟨hsp.rows,hsp.isRec,fun hm=>hsp.free (.inl hm),hsp.rel⟩⟩
      · refine .inr ⟨b',by rw [B_in id (by simp [hi'])]; exact g2,.inl ⟨gk,c2,fr2,g3,g4,fun hm=>g5 (.inl hm),g6,g7,fun i j q x hr hx=>?_⟩⟩
        obtain ⟨u,hu1,hu2⟩:=g8 i j q x hr hx
        refine ⟨u,hu1,hu2.tr ht1 (fun hrec id2 hm=>B_in id2 (hcl.2 (id,o) (hmem hi') id2 ?_))⟩
        simp only [idsO,hrec,if_true,List.mem_flatMap]
        exact ⟨q,List.mem_of_getElem? hr,x,List.mem_of_getElem? hx,mC_ids hm⟩
    | none =>
      obtain ⟨o0,h1,rfl,h3⟩:=mrg_out hi hi'
      rcases s.heap.1 id o0 h1 with hn | ⟨b',g2,⟨gk,c2,fr2,g3,g4,g5,g6,g7,g8⟩ | hsp⟩
      · refine .inl ⟨?_,?_,by rw [B_out id hi']; exact hn.2.2⟩
        · simp [purLO,hn.2.1,hn.1]
        · simp [purLO,hn.2.1]
      rotate_left
      · have hkeep:w'.heap[b']? = w.heap[b']?:=hst.keep b' hsp.rel.lt (fun hb=>by
          obtain ⟨id2,o2,h4,h5⟩:=hb
          have:=s.heap.2 id id2 o0 o2 b' h1 (hσ _ _ h4) g2 h5
          subst this
          rw [h3] at h4
          cases h4)
        refine .inr ⟨b',by rw [B_out id hi']; exact g2,.inr ?_⟩
        have:purLO ks o0 = o0:=by simp [purLO,hsp.isRec]
        rw [this]
        exact hsp.tr hkeep
      · have hkeep:w'.heap[b']? = w.heap[b']?:=hst.keep b' (lt_of_heap g3) (fun hb=>by
          obtain ⟨id2,o2,h4,h5⟩:=hb
          have:=s.heap.2 id id2 o0 o2 b' h1 (hσ _ _ h4) g2 h5
          subst this
          rw [h3] at h4
          cases h4)
        refine .inr ⟨b',by rw [B_out id hi']; exact g2,.inl ⟨by unfold purLO; split <;> exact gk,c2,fr2,?_,g4,g5,?_,?_,?_⟩⟩
        · rw [hkeep,g3]
          unfold purLO
          split <;> rfl
        · intro i q hq
          unfold purLO at hq ⊢
          split at hq
          · simp only [List.getElem?_map,Option.map_eq_some_iff] at hq
            obtain ⟨q0,hq0,rfl⟩:=hq
            rename_i hrec
            simpa [hrec] using g6 i q0 hq0
          · rename_i hrec
            simpa [hrec] using g6 i q hq
        · unfold purLO
          split <;> simpa using g7
        · intro i j q x hq hx
          unfold purLO at hq ⊢
          split at hq
          · rename_i hrec
            simp only [List.getElem?_map,Option.map_eq_some_iff] at hq
            obtain ⟨q0,hq0,rfl⟩:=hq
            simp only [List.getElem?_map,Option.map_eq_some_iff] at hx
            obtain ⟨x0,hx0,rfl⟩:=hx
            obtain ⟨u,hu1,hu2⟩:=g8 i j q0 x0 hq0 hx0
            simp only [hrec,if_true]
            rw [hrec] at hu2
            exact ⟨u,hu1,purLC_rel hu2 ht B_ks⟩
          · rename_i hrec
            obtain ⟨u,hu1,hu2⟩:=g8 i j q x hq hx
            have hrec':o0.isRec = false:=by simpa using hrec
            simp only [hrec',Bool.false_eq_true,if_false]
            rw [hrec'] at hu2
            exact ⟨u,hu1,IRel.tr hu2 ht.keep⟩
  · cases hi:hget σ' id with
    | some o1 =>
      rw [B_in id (by simp [hi])] at h3
      cases hi2:hget σ' id' with
      | some o2 =>
        rw [B_in id' (by simp [hi2])] at h4
        exact hH'.2 id id' o1 o2 q hi hi2 h3 h4
      | none =>
        rw [B_out id' hi2] at h4
        obtain ⟨o2,h5,_,h6⟩:=mrg_out h2 hi2
        exact ((σblk hi h3).free (.inr ⟨id',o2,h5,h6,h4⟩)).elim
    | none =>
      rw [B_out id hi] at h3
      obtain ⟨o1,h5,_,h6⟩:=mrg_out h1 hi
      cases hi2:hget σ' id' with
      | some o2 =>
        rw [B_in id' (by simp [hi2])] at h4
        exact ((σblk hi2 h4).free (.inr ⟨id,o1,h5,h6,h3⟩)).elim
      | none =>
        rw [B_out id' hi2] at h4
        obtain ⟨o2,h7,_,h8⟩:=mrg_out h2 hi2
        exact s.heap.2 id id' o1 o2 q h5 h7 h3 h4
  · refine s.step.trans hst (fun q hq hb=>?_)
    obtain ⟨id,o,h1,h2⟩:=hb
    rcases s.own id o q (hσ _ _ h1) h2 with h3 | h3
    · omega
    · exact h3
  · cases hi:hget σ' id with
    | some o1 =>
      rw [B_in id (by simp [hi])] at h2
      rcases hown id o1 q hi h2 with h3 | ⟨id2,o2,h3,h4⟩
      · exact .inl (Nat.le_trans s.step.size h3)
      · exact s.own id2 o2 q (hσ _ _ h3) h4
    | none =>
      rw [B_out id hi] at h2
      obtain ⟨o1,h5,_,h6⟩:=mrg_out h1 hi
      exact s.own id o1 q h5 h2
  · cases hi:hget σ' id with
    | none=>rw [B_out id hi]; exact s.stab id h1 h2
    | some o1 =>
      rw [B_in id (by simp [hi])]
      rcases hks' id (by simp [hi]) with ⟨h3,_⟩ | ⟨_,h3,_⟩
      · rw [hsb id h3]; exact s.stab id h1 h2
      · omega
end
end Go.Mw
set_option linter.unusedVariables false
set_option linter.unusedSimpArgs false
namespace Go.Mw

section
variable {c:Ctx} {bl:Nat → Option Nat} {g:Nat → AV} {h:Nat → Option AObj} {a:Act} {w:World}

theorem frzO_t (i:Nat) (o o1:AObj):(frzO i o o1).t = o1.t:=by unfold frzO; split <;> rfl
theorem frzO_st (i:Nat) (o o1:AObj):(frzO i o o1).st = o1.st:=by unfold frzO; split <;> rfl
theorem frzO_rec (i:Nat) (o o1:AObj):(frzO i o o1).isRec = o1.isRec:=by unfold frzO; split <;> rfl

theorem SatB.freeze (s:SatB c bl g h a w) {i:Nat} {o:AObj} (hi:h i = some o) (hrec:o.isRec = false) :
    SatB c bl (fun k=>frzV i o (g k)) (fun j=>if j = i then none else (h j).map (frzO i o)) a w ∧
      ∀ v x,VRel bl (Mut bl c.MF h) w v x → VRel bl (Mut bl c.MF (fun j=>if j = i then none else (h j).map (frzO i o))) w v (frzV i o x):=by
  have hsub:∀ {j q},(if j = i then none else (h j).map (frzO i o)) = some q → j ≠ i ∧ ∃ q0,h j = some q0 ∧ q = frzO i o q0:=fun {j q} hj=>by
    split at hj
    · cases hj
    · rename_i hne
      simp only [Option.map_eq_some_iff] at hj
      obtain ⟨q0,h1,h2⟩:=hj
      exact ⟨hne,q0,h1,h2.symm⟩
  have hmut:∀ q,Mut bl c.MF (fun j=>if j = i then none else (h j).map (frzO i o)) q → Mut bl c.MF h q:=by
    rintro q (hm | ⟨j,oj,h1,h2⟩)
    · exact .inl hm
    · obtain ⟨_,q0,h3,_⟩:=hsub h1
      exact .inr ⟨j,q0,h3,h2⟩
  have ht:Tr (Mut bl c.MF h) (Mut bl c.MF (fun j=>if j = i then none else (h j).map (frzO i o))) w w:=⟨fun b hb _=>⟨fun hm=>hb (hmut b hm),rfl⟩,fun _ c1 _ fr hb=>⟨c1,fr,hb,rfl⟩⟩
  have hP:∀ {v x},PRel bl (Mut bl c.MF h) w v x → PRel bl (Mut bl c.MF (fun j=>if j = i then none else (h j).map (frzO i o))) w v (frzP i o x):=fun {v x} hv=>by
    rcases s.heap.1 i o hi with hn | ⟨b,hb,hO⟩
    · exact frzP_rel (b:=w.heap.size) (MF:=c.MF) ht (fun hm=>by
        rcases hm with hm | ⟨j,oj,h1,h2⟩
        · exact absurd (s.mf _ hm) (Nat.not_lt.2 s.step.size)
        · obtain ⟨_,q0,h3,_⟩:=hsub h1
          rcases s.heap.1 j q0 h3 with hn2 | ⟨b',h4,hO⟩
          · rw [hn2.2.2] at h2; cases h2
          · rw [h2] at h4; cases h4; exact absurd hO.lt (Nat.lt_irrefl _)) (.inl ⟨hn.1,hn.2.2⟩) hrec hv
    · refine frzP_rel ht (fun hm=>?_) (.inr ⟨hb,hO⟩) hrec hv
      rcases hm with hm | ⟨j,oj,h1,h2⟩
      · exact hO.free hm
      · obtain ⟨hne,q0,h3,_⟩:=hsub h1
        exact hne (s.heap.2 j i q0 o b h3 hi h2 hb)
  have hC:∀ {v x},CRel bl (Mut bl c.MF h) w v x → CRel bl (Mut bl c.MF (fun j=>if j = i then none else (h j).map (frzO i o))) w v (frzC i o x):=fun {v x} hv=>by
    cases x with
    | fn f caps =>
      obtain ⟨cs,h1,h2⟩:=hv
      exact ⟨cs,h1,h2.mapRight fun _ _ hr=>hP hr⟩
    | agg cells=>simp only [CRel,PRel] at hv; cases hv
    | tup vs=>simp only [CRel,PRel] at hv; cases hv
    | ms id st off len =>
      have:=hP (x:=.ms id st off len) hv
      simp only [frzC]
      generalize hy:frzP i o (.ms id st off len) = y at this
      simp only [frzP] at hy
      split at hy
      · split at hy <;> (subst hy; exact this)
      · subst hy; exact this
    | mp id st row off =>
      have:=hP (x:=.mp id st row off) hv
      simp only [frzC]
      generalize hy:frzP i o (.mp id st row off) = y at this
      simp only [frzP] at hy
      split at hy
      · split at hy
        · split at hy <;> (subst hy; exact this)
        · subst hy; exact this
      · subst hy; exact this
    | mm id k =>
      have:=hP (x:=.mm id k) hv
      simp only [frzC]
      generalize hy:frzP i o (.mm id k) = y at this
      simp only [frzP] at hy
      split at hy <;> (subst hy; exact this)
    | _ =>
      simp only [CRel,PRel] at hv
      exact IRel.toC (IRel.tr hv ht.keep)
  have hG:∀ {v x},GRel bl (Mut bl c.MF h) w v x → GRel bl (Mut bl c.MF (fun j=>if j = i then none else (h j).map (frzO i o))) w v (frzG i o x):=fun {v x} hv=>by
    cases x with
    | agg cells =>
      obtain ⟨cs,h1,h2⟩:=hv
      exact ⟨cs,h1,h2.mapRight fun _ _ hr=>hC hr⟩
    | _ =>
      simp only [GRel] at hv
      simp only [frzG]
      exact (hC hv).toG
  have hV:∀ {v x},VRel bl (Mut bl c.MF h) w v x → VRel bl (Mut bl c.MF (fun j=>if j = i then none else (h j).map (frzO i o))) w v (frzV i o x):=fun {v x} hv=>by
    cases x with
    | any=>trivial
    | tup vs =>
      obtain ⟨cs,h1,h2⟩:=hv
      exact ⟨cs,h1,h2.mapRight fun _ _ hr=>hG hr⟩
    | _ =>
      simp only [VRel] at hv
      simp only [frzV]
      exact (hG hv).toV
  refine ⟨⟨s.defers,s.size,fun k=>hV (s.env k),⟨fun j oj hj=>?_,fun j j' oj oj' q h1 h2=>?_⟩,s.step,fun j oj q h1 h2=>?_,s.stab,s.mf⟩,fun v x hv=>hV hv⟩
  · obtain ⟨hne,q0,h1,rfl⟩:=hsub hj
    rcases s.heap.1 j q0 h1 with hn | ⟨b,hb,⟨gk,c1,fr,h2,h3,h4,h5,h6,h7⟩ | hsp⟩
    · exact .inl ⟨by simp [frzO,hn.2.1,hn.1],by rw [frzO_rec]; exact hn.2.1,hn.2.2⟩
    rotate_left
    · have:frzO i o q0 = q0:=by simp [frzO,hsp.isRec]
      rw [this]
      exact .inr ⟨b,hb,.inr hsp⟩
    · refine .inr ⟨b,hb,.inl ⟨by unfold frzO; split <;> exact gk,c1,fr,by rw [frzO_t]; exact h2,h3,h4,fun k r hr=>?_,?_,fun k q r x hr hx=>?_⟩⟩
      · rw [frzO_st]
        unfold frzO at hr
        split at hr
        · simp only [List.getElem?_map,Option.map_eq_some_iff] at hr
          obtain ⟨r0,h8,rfl⟩:=hr
          simpa using h5 k r0 h8
        · exact h5 k r hr
      · rw [frzO_st]
        unfold frzO
        split <;> simpa using h6
      · rw [frzO_st,frzO_rec]
        unfold frzO at hr
        split at hr
        · rename_i hrc
          simp only [List.getElem?_map,Option.map_eq_some_iff] at hr
          obtain ⟨r0,h8,rfl⟩:=hr
          simp only [List.getElem?_map,Option.map_eq_some_iff] at hx
          obtain ⟨x0,h9,rfl⟩:=hx
          obtain ⟨u,hu1,hu2⟩:=h7 k q r0 x0 h8 h9
          rw [hrc] at hu2 ⊢
          exact ⟨u,hu1,hC hu2⟩
        · rename_i hrc
          obtain ⟨u,hu1,hu2⟩:=h7 k q r x hr hx
          have hrc':q0.isRec = false:=by simpa using hrc
          rw [hrc'] at hu2 ⊢
          exact ⟨u,hu1,IRel.tr hu2 ht.keep⟩
  · obtain ⟨_,q1,h3,_⟩:=hsub h1
    obtain ⟨_,q2,h4,_⟩:=hsub h2
    exact s.heap.2 j j' q1 q2 q h3 h4
  · obtain ⟨_,q1,h3,_⟩:=hsub h1
    exact s.own j q1 q h3 h2
end

def frzE (i:Nat) (o:AObj):List (Nat × AV) → List (Nat × AV)
  | []=>[]
  | (k,x) :: r=>(k,frzV i o x) :: frzE i o r
def frzH (i:Nat) (o:AObj):List (Nat × AObj) → List (Nat × AObj)
  | []=>[]
  | (k,x) :: r=>(k,frzO i o x) :: frzH i o r
def St.frz (s:St) (i:Nat):St :=
  match hget s.heap i with
  | some o=>if o.isRec then s else ⟨frzE i o s.env,frzH i o (hdel s.heap i)⟩
  | none=>s
def frzs:List Nat → St → St
  | [],s=>s
  | i :: r,s=>frzs r (s.frz i)

theorem get_frzE (i:Nat) (o:AObj):∀ (l:List (Nat × AV)) (k:Nat),get (frzE i o l) k = frzV i o (get l k)
  | [],k=>rfl
  | (j,x) :: r,k=>by simp only [frzE,get,get_frzE i o r k]; split <;> rfl
theorem hget_frzH (i:Nat) (o:AObj):∀ (l:List (Nat × AObj)) (k:Nat),hget (frzH i o l) k = (hget l k).map (frzO i o)
  | [],k=>rfl
  | (j,x) :: r,k=>by simp only [frzH,hget,hget_frzH i o r k]; split <;> rfl

theorem SatS.frz {c:Ctx} {s:St} {a:Act} {w:World} (hs:SatS c s a w) (i:Nat):SatS c (s.frz i) a w:=by
  obtain ⟨bl,hs⟩:=hs
  unfold St.frz
  split
  · rename_i o ho
    split
    · exact ⟨bl,hs⟩
    · rename_i hr
      exact ⟨bl,(hs.freeze ho (by simpa using hr)).1.congr (fun k=>get_frzE i o _ k) (fun j=>by simp only [hget_frzH,hget_hdel]; split <;> simp)⟩
  · exact ⟨bl,hs⟩
theorem SatS.frzs {c:Ctx} {a:Act} {w:World}:∀ (l:List Nat) {s:St},SatS c s a w → SatS c (Mw.frzs l s) a w
  | [],_,h=>h
  | i :: r,_,h=>SatS.frzs r (h.frz i)


def frz1 (s:St) (i:Nat) (x:AV):AV :=
  match hget s.heap i with
  | some o=>if o.isRec then x else frzV i o x
  | none=>x
def frzVs:List Nat → St → AV → AV
  | [],_,x=>x
  | i :: r,s,x=>frzVs r (s.frz i) (frz1 s i x)

theorem SatB.frz1 {c:Ctx} {bl:Nat → Option Nat} {s:St} {a:Act} {w:World} (hs:SatB c bl (get s.env) (hget s.heap) a w) (i:Nat) :
    SatB c bl (get (s.frz i).env) (hget (s.frz i).heap) a w ∧ ∀ v x,VRel bl (Mut bl c.MF (hget s.heap)) w v x → VRel bl (Mut bl c.MF (hget (s.frz i).heap)) w v (Mw.frz1 s i x):=by
  unfold St.frz Mw.frz1
  cases ho:hget s.heap i with
  | none=>exact ⟨hs,fun _ _ h=>h⟩
  | some o =>
    simp only
    by_cases hr:o.isRec = true
    · simp only [hr,if_true]; exact ⟨hs,fun _ _ h=>h⟩
    · obtain ⟨h1,h2⟩:=hs.freeze ho (by simpa using hr)
      have hh:hget (frzH i o (hdel s.heap i)) = fun j=>if j = i then none else (hget s.heap j).map (frzO i o):=by
        funext j
        simp only [hget_frzH,hget_hdel]
        split <;> simp
      simp only [hr,if_false,Bool.false_eq_true]
      exact ⟨h1.congr (fun k=>get_frzE i o _ k) (fun j=>by rw [hh]),fun v x hv=>by rw [hh]; exact h2 v x hv⟩
theorem SatB.frzs {c:Ctx} {bl:Nat → Option Nat} {a:Act} {w:World}:∀ (fs:List Nat) (s:St),SatB c bl (get s.env) (hget s.heap) a w →
    SatB c bl (get (Mw.frzs fs s).env) (hget (Mw.frzs fs s).heap) a w ∧ ∀ v x,VRel bl (Mut bl c.MF (hget s.heap)) w v x → VRel bl (Mut bl c.MF (hget (Mw.frzs fs s).heap)) w v (frzVs fs s x)
  | [],s,hs=>⟨hs,fun _ _ h=>h⟩
  | i :: r,s,hs=>by
    obtain ⟨h1,h2⟩:=hs.frz1 i
    obtain ⟨h3,h4⟩:=SatB.frzs r (s.frz i) h1
    exact ⟨h3,fun v x hv=>h4 v _ (h2 v x hv)⟩
end Go.Mw
set_option linter.unusedSectionVars false
set_option linter.unusedVariables false
set_option linter.unusedSimpArgs false
namespace Go.Mw

structure IDOper where
  o:IOper
  bef:List Nat
  deriving Inhabited

inductive ICode where
  | skip
  | ret
  | exit (id:Nat)
  | seq (x y:ICode)
  | cut (x y:ICode)
  | cond (c:IV) (t e:ICode)
  | block (id:Nat) (x:ICode)
  | loop (x:ICode)
  | reg (ops:List IOper) (dr:List Nat)
  | draw (ops:List IDOper) (al:List (Nat × Nat)) (dr:List Nat)
  | free (ops:List IDOper) (al:List (Nat × Nat)) (dr:List Nat)
  deriving Inhabited

inductive IX where
  | nrm
  | ret
  | ext (id:Nat)

def icall0 (P:Program) [Tabs P] (f:FuncId) (args:List AV) (d:Option Nat) (s:St) (K:St → Prop):Prop :=
  (∃ args' r b,PCalls P f args' r ∧ (∀ x ∈ args',idsV x = []) ∧ All2 (coe b (hget s.heap)) args args' ∧ (b = true → flatV r = true) ∧ K (s.put d r)) ∨
  ∃ σ0 Sb Post ks,ACalls P f args σ0 Sb Post ∧ (∀ id o,hget σ0 id = some o → hget s.heap id = some o) ∧
    (∀ r σ',Post r σ' → ∀ id,(hget σ' id).isSome = true → (Sb id ∧ (hget σ0 id).isSome = true) ∨ (id ∈ ks ∧ (id < 1000 ∨ 2000 ≤ id) ∧ ((hget σ0 id).isSome = true ∨ hget s.heap id = none))) ∧
    ∀ r σ',Post r σ' → ∃ s':St,(∀ k,get s'.env k = purLV ks (get s.env k)) ∧ (∀ j,hget s'.heap j = mrg ks (hget σ0) (hget σ') (hget s.heap) j) ∧ K (s'.put d r)

def WkA (s:St) (l:List AV) (s':St) (l':List AV):Prop:=∀ (c:Ctx) (a:Act) (w:World) (bl:Nat → Option Nat) (vs:List Value),SatB c bl (get s.env) (hget s.heap) a w → All2 (VRel bl (Mut bl c.MF (hget s.heap)) w) vs l →
  ∃ bl',SatB c bl' (get s'.env) (hget s'.heap) a w ∧ All2 (VRel bl' (Mut bl' c.MF (hget s'.heap)) w) vs l'
def icall (P:Program) [Tabs P] (f:FuncId) (args:List AV) (d:Option Nat) (s:St) (K:St → Prop):Prop :=
  icall0 P f args d s K ∨ (∃ fs,icall0 P f (args.map (frzVs fs s)) d (frzs fs s) K) ∨ ∃ s' args',WkA s args s' args' ∧ icall0 P f args' d s' K

def Wk (s s':St):Prop:=∀ (c:Ctx) (a:Act) (w:World),SatS c s a w → SatS c s' a w
def opNew (o:IOper) (s:St) (K:St → Prop):Prop :=
  match aev (o.dst.getD 0) o.op (val (get (s.kill (o.dst.getD 0)).env)) (hget (s.kill (o.dst.getD 0)).heap) with
  | some (v,e)=>K (((s.kill (o.dst.getD 0)).eff e).put o.dst v)
  | none=>False
def bslAlt (o:IOper) (s:St) (K:St → Prop):Prop:=∃ s',Wk s s' ∧ opNew o s' K

def iop (P:Program) [Tabs P] (o:IOper) (s:St) (K:St → Prop):Prop :=
  match o.op with
  | .call f args=>icall P f (args.map (val (get s.env))) o.dst s K
  | .callv f args=>match val (get s.env) f with
    | .fn f caps=>hasBody P f = true ∧ icall P f (args.map (val (get s.env)) ++ caps) o.dst s K
    | _=>False
  | .bsl t st rows ps=>(o.dst.getD 0 < 1000 ∧ match aev (o.dst.getD 0) (.bsl t st rows ps) (val (get (s.kill (o.dst.getD 0)).env)) (hget (s.kill (o.dst.getD 0)).heap) with
      | some (v,e)=>K (((s.kill (o.dst.getD 0)).eff e).put o.dst v)
      | none=>bslAlt o s K)
  | .snl b x=>match val (get s.env) x with
    | .sl _ []=>K (s.put o.dst (.bool b)) ∧ K (s.put o.dst (.bool (!b)))
    | x=>match aSnl b x with
      | some v=>K (s.put o.dst v)
      | none=>False
  | op=>if allocs op then
      (o.dst.getD 0 < 1000 ∧ match aev (o.dst.getD 0) op (val (get (s.kill (o.dst.getD 0)).env)) (hget (s.kill (o.dst.getD 0)).heap) with
      | some (v,e)=>K (((s.kill (o.dst.getD 0)).eff e).put o.dst v)
      | none=>False)
    else match aev (o.dst.getD 0) op (val (get s.env)) (hget s.heap) with
      | some (v,e)=>K ((s.eff e).put o.dst v)
      | none=>False

def iops (P:Program) [Tabs P]:List IOper → St → (St → Prop) → Prop
  | [],s,K=>K s
  | o :: r,s,K=>match o.g with
    | none=>iop P o s (fun s'=>iops P r s' K)
    | some (k,b)=>match get s.env k with
      | .bool t=>(t = b → iop P o (s.put (some k) (.bool b)) (fun s'=>iops P r s' K)) ∧ (t = !b → iops P r ((s.put (some k) (.bool (!b))).put o.dst (.tup [])) K)
      | .tup []=>iops P r (s.put o.dst (.tup [])) K
      | _=>False

structure HI where
  i:Nat
  op:List Nat
  res:List Nat
  tch:List Nat
  rb:Bool
  wr:Bool

def Eff.isPut:Eff → Bool
  | .put ..=>true
  | _=>false
def Eff.tch:Eff → List Nat
  | .no=>[]
  | .put i _=>[i]
  | .new i _=>[i]
  | .reb i _=>[i]
def Eff.isReb:Eff → Bool
  | .reb ..=>true
  | _=>false
def Eff.ids:Eff → List Nat
  | .no=>[]
  | .put _ o=>idsO o
  | .new _ o=>idsO o
  | .reb _ o=>idsO o

def ivSlots:IV → List Nat
  | .s k=>[k]
  | .c _=>[]
def ioSlots:Option IV → List Nat
  | some x=>ivSlots x
  | none=>[]

def opSlots (o:IOp):List Nat :=
  match o with
  | .mov x | .box _ _ x | .load _ x | .fadr _ x | .fld _ _ x | .len x | .slen x | .un _ x | .cvi _ x | .cvs x | .cvt x | .cvb _ x | .cvm x | .ext x _ | .nchk x | .snl _ x=>ivSlots x
  | .pick c a b=>ivSlots c ++ ivSlots a ++ ivSlots b
  | .new _ _=>[]
  | .build _ ps=>ps.flatMap fun p=>ivSlots p.2.2
  | .bsl _ _ _ ps=>ps.flatMap fun p=>ivSlots p.2
  | .store _ x y | .iadr _ x y | .aadr _ _ x y | .mnx _ x y | .cpy _ x y | .sib x y | .app _ _ x y | .apps _ x y | .bin _ x y | .bbin _ x y | .pbin _ x y | .sbin _ _ x y | .sidx x y | .mks _ _ _ x y=>ivSlots x ++ ivSlots y
  | .slc _ x lo hi mx=>ivSlots x ++ ioSlots lo ++ ioSlots hi ++ ioSlots mx
  | .sslc x lo hi=>ivSlots x ++ ioSlots lo ++ ioSlots hi
  | .call _ args=>args.flatMap ivSlots
  | .callv f args=>ivSlots f ++ args.flatMap ivSlots
  | .mkf _ caps=>caps.flatMap ivSlots
  | .mop _ xs=>xs.flatMap ivSlots

def operSlots (o:IOper):List Nat:=opSlots o.op ++ (match o.g with | some (k,_)=>[k] | none=>[])

def meetOk (x y:HI):Bool :=
  y.tch.all (fun d=>!x.op.contains d && !x.tch.contains d) && x.tch.all (fun d=>!y.op.contains d) && (!x.rb || x.tch.all fun d=>!y.res.contains d) && (!y.rb || y.tch.all fun d=>!x.res.contains d) && !(x.rb && y.wr) && !(y.rb && x.wr)

def histOk (bef:List Nat) (x:HI) (hist:List HI):Bool:=hist.all fun y=>bef.contains y.i || meetOk x y

def newOk (al:List (Nat × Nat)) (bef:List Nat) (x:HI):Bool:=al.all fun p=>!x.res.contains p.1 || p.2 == x.i || bef.contains p.2

def isAny:AV → Bool
  | .any=>true
  | _=>false
def plainOk (o:IOp) (s:St) (e:Eff):Bool:=(opSlots o).all (fun k=>!isAny (get s.env k)) && (!e.isReb || e.tch.all fun d=>s.heap.all fun p=>!(idsO p.2).contains d)

def opIds (o:IOp) (e:List (Nat × AV)):List Nat:=(opSlots o).flatMap fun k=>idsV (get e k)

def idop (P:Program) [Tabs P] (al:List (Nat × Nat)) (i:Nat) (o:IDOper) (hist:List HI) (s:St) (K:List HI → St → Prop):Prop :=
  match o.o.op with
  | .call f args=>(∃ args' r b,PCalls P f args' r ∧ (∀ x ∈ args',idsV x = []) ∧ All2 (coe b (hget s.heap)) (args.map (val (get s.env))) args' ∧ (b = true → flatV r = true) ∧ idsV r = [] ∧
      plainOk o.o.op s .no = true ∧ histOk o.bef ⟨i,opIds o.o.op s.env,[],[],false,false⟩ hist = true ∧ K (⟨i,opIds o.o.op s.env,[],[],false,false⟩ :: hist) (s.put o.o.dst r)) ∨
      ∃ k ob ob' Sb r,ACalls P f (args.map (val (get s.env))) [(k,ob)] Sb (fun r' σ'=>r' = r ∧ σ' = [(k,ob')]) ∧ Sb k ∧ hget s.heap k = some ob ∧ idsV r = [] ∧ idsO ob' = [] ∧ k ∈ opIds o.o.op s.env ∧
      plainOk o.o.op s (.put k ob') = true ∧ histOk o.bef ⟨i,opIds o.o.op s.env,[],[k],false,true⟩ hist = true ∧ K (⟨i,opIds o.o.op s.env,[],[k],false,true⟩ :: hist) ((s.eff (.put k ob')).put o.o.dst r)
  | .callv _ _=>False
  | op=>match aev (o.o.dst.getD 0) op (val (get s.env)) (hget s.heap) with
    | some (v,e)=>plainOk o.o.op s e = true ∧ histOk o.bef ⟨i,opIds o.o.op s.env,idsV v ++ e.ids,e.tch,e.isReb,e.isPut⟩ hist = true ∧
        newOk al o.bef ⟨i,opIds o.o.op s.env,idsV v ++ e.ids,e.tch,e.isReb,e.isPut⟩ = true ∧ K (⟨i,opIds o.o.op s.env,idsV v ++ e.ids,e.tch,e.isReb,e.isPut⟩ :: hist) ((s.eff e).put o.o.dst v)
    | none=>False

def idops (P:Program) [Tabs P] (al:List (Nat × Nat)):Nat → List IDOper → List HI → St → (St → Prop) → Prop
  | _,[],_,s,K=>K s
  | i,o :: r,hist,s,K=>match o.o.g with
    | none=>idop P al i o hist s (fun hist' s'=>idops P al (i + 1) r hist' s' K)
    | some (k,b)=>match get s.env k with
      | .bool t=>(t = b → idop P al i o hist (s.put (some k) (.bool b)) (fun hist' s'=>idops P al (i + 1) r hist' s' K)) ∧
          (t = !b → idops P al (i + 1) r (⟨i,[],[],[],false,false⟩ :: hist) ((s.put (some k) (.bool (!b))).put o.o.dst (.tup [])) K)
      | .tup []=>idops P al (i + 1) r (⟨i,[],[],[],false,false⟩ :: hist) (s.put o.o.dst (.tup [])) K
      | _=>False


def erase:ICode → ICode
  | .cut x y=>.seq (erase x) (erase y)
  | .seq x y=>.seq (erase x) (erase y)
  | .cond c t e=>.cond c (erase t) (erase e)
  | .block id x=>.block id (erase x)
  | .loop x=>.loop (erase x)
  | .free ops al dr=>.draw ops al dr
  | x=>x

def refine (c:IV) (b:Bool) (s:St):St :=
  match c with
  | .s k=>s.put (some k) (.bool b)
  | .c _=>s

def rdy (R:List (Nat × IDOper)):List (Nat × IDOper):=R.filter fun t=>R.all fun q=>!t.2.bef.contains q.1
def conjs {α:Type}:List α → (α → Prop) → Prop
  | [],_=>True
  | [x],F=>F x
  | x :: y :: r,F=>F x ∧ conjs (y :: r) F
def ifree (P:Program) [Tabs P]:Nat → List (Nat × IDOper) → St → (St → Prop) → Prop
  | 0,_,s,K=>K s
  | f + 1,R,s,K=>conjs (rdy R) fun t=>iops P [t.2.o] s fun s'=>ifree P f (R.filter fun q=>q.1 != t.1) s' K
def iwp (P:Program) [Tabs P]:ICode → St → (IX → St → Prop) → Prop
  | .skip,s,K=>K .nrm s
  | .ret,s,K=>K .ret s
  | .exit id,s,K=>K (.ext id) s
  | .seq x y,s,K=>iwp P x s fun e s'=>match e with
    | .nrm=>iwp P y s' K
    | e=>K e s'
  | .cut x y,s,K=>iwp P x s fun e s'=>match e with
    | .nrm=>∃ s'',Wk s' s'' ∧ iwp P y s'' K
    | e=>K e s'
  | .cond c t e,s,K=>match val (get s.env) c with
    | .bool b=>(b = true → iwp P t (refine c true s) K) ∧ (b = false → iwp P e (refine c false s) K)
    | _=>False
  | .block id x,s,K=>iwp P x s fun e s'=>match e with
    | .ext j=>if j = id then K .nrm s' else K (.ext j) s'
    | e=>K e s'
  | .loop x,s,K=>∃ I:Nat → St → Prop,(∃ n s',I n s' ∧ Wk s s') ∧ ∀ n s,I n s → iwp P x s fun e s'=>match e with
    | .nrm=>∃ m s'',m < n ∧ I m s'' ∧ Wk s' s''
    | e=>K e s'
  | .reg ops dr,s,K=>iops P ops s fun s'=>K .nrm ⟨dels dr s'.env,s'.heap⟩
  | .draw ops al dr,s,K=>idops P al 0 ops [] (kills (al.map (·.1)) s) fun s'=>K .nrm ⟨dels dr s'.env,s'.heap⟩
  | .free ops _ dr,s,K=>ifree P ops.length (ops.zipIdx.map fun p=>(p.2,p.1)) s fun s'=>K .nrm ⟨dels dr s'.env,s'.heap⟩

/-! ### From the program's code -/

def cOps (P:Program) (n:Nat) (ops:Array Oper):List Oper → Option (List IOper)
  | []=>some []
  | o :: r=>match cOper P n ops o,cOps P n ops r with
    | some x,some xs=>some (x :: xs)
    | _,_=>none

def befs:List Oper → List (List Nat) → List (List Nat)
  | [],acc=>acc
  | o :: r,acc=>befs r (acc ++ [((o.after.toList.filter (Region.binds .any)).flatMap fun e=>e.on :: acc.getD e.on []).eraseDups])

def slotLists:Code → List (List Nat)
  | .region _ ops _=>[ops.toList.flatMap fun o=>o.dst.toList ++ o.op.operands.toList.filterMap fun | .tmp t=>some t | _=>none]
  | .seq x y=>slotLists x ++ slotLists y
  | .cond (.tmp t) x y=>[t] :: (slotLists x ++ slotLists y)
  | .cond _ x y=>slotLists x ++ slotLists y
  | .block _ x=>slotLists x
  | .loop x=>slotLists x
  | .scope x=>slotLists x
  | _=>[]

def inTwo (ls:List (List Nat)) (k:Nat):Bool:=2 ≤ (ls.filter (·.contains k)).length

def nodupB:List Nat → Bool
  | []=>true
  | x :: r=>!r.contains x && nodupB r

def edges (o:Oper):List Nat:=(o.after.toList.filter (Region.binds .any)).map (·.on)

def ordOk (ops:List Oper) (bs:List (List Nat)):Bool :=
  (List.range ops.length).all fun i=>match ops[i]? with
    | none=>false
    | some o=>(edges o).all (fun d=>decide (d < i)) && (bs.getD i []).all (fun d=>(edges o).contains d || (edges o).any fun m=>(bs.getD m []).contains d)

def ivConst:IV → Bool
  | .s _=>true
  | .c x=>(idsV x).isEmpty
def constOk (op:IOp):Bool :=
  match op with
  | .load _ x | .cvs x | .cvm x=>ivConst x
  | .store _ x y | .app _ _ x y | .apps _ x y | .cpy _ x y=>ivConst x && ivConst y
  | .call _ args=>args.all ivConst
  | .mop _ args=>args.all ivConst
  | _=>true

def apartOk (bs:List (List Nat)) (l:List IOper):Bool :=
  (List.range l.length).all fun i=>(List.range i).all fun j=>match l[i]?,l[j]? with
    | some x,some y=>(bs.getD i []).contains j ||
        ((match y.dst with | some d=>!(operSlots x).contains d && x.dst != some d | none=>true) && (match x.dst with | some d=>!(operSlots y).contains d | none=>true))
    | _,_=>false

def alPairs:Nat → List IOper → List (Nat × Nat)
  | _,[]=>[]
  | i,o :: r=>if allocs o.op then (o.dst.getD 0,i) :: alPairs (i + 1) r else alPairs (i + 1) r

def pre (l:List Nat):Nat → Nat → Nat
  | 0,k=>k
  | f + 1,k=>if l.contains k then pre l f (k + 1) else k
def segs (bs:List (List Nat)):Nat → List IOper → List (Nat × List IOper) × Nat
  | i,[]=>([],i)
  | i,o :: r=>match segs bs (i + 1) r with
    | ([],m)=>([(i,[o])],min m (pre (bs.getD i []) i 0))
    | ((k,s) :: t,m)=>if i + 1 ≤ m then ((i,[o]) :: (k,s) :: t,min m (pre (bs.getD i []) i 0)) else ((i,o :: s) :: t,min m (pre (bs.getD i []) i 0))
def relB (bs:List (List Nat)) (i n:Nat):List (List Nat):=(List.range n).map fun k=>(bs.getD (i + k) []).filterMap fun d=>if i ≤ d then some (d - i) else none
def drawSeg (rb:List (List Nat)) (s:List IOper) (dr:List Nat):Option ICode :=
  if apartOk rb s && (alPairs 0 s).all (fun p=>p.1 < 1000) && nodupB ((alPairs 0 s).map (·.1)) && s.all (fun o=>constOk o.op) then
    some (.draw (s.zipIdx.map fun p=>⟨p.1,rb.getD p.2 []⟩) (alPairs 0 s) dr) else none
def cSeg (bs:List (List Nat)) (i:Nat) (s:List IOper) (dr:List Nat):Option ICode :=
  match s with
  | [o]=>some (.reg [o] dr)
  | s=>drawSeg (relB bs i s.length) s dr
def cSegs (bs:List (List Nat)) (dr:List Nat):List (Nat × List IOper) → Option ICode
  | []=>some (.reg [] dr)
  | (i,s) :: t=>match t with
    | []=>cSeg bs i s dr
    | _ :: _=>match cSeg bs i s [],cSegs bs dr t with
      | some x,some y=>some (.seq x y)
      | _,_=>none
def cDraw (P:Program) (n:Nat) (ops:Array Oper) (dr:List Nat → List Nat):Option ICode :=
  match cOps P n ops ops.toList with
  | none=>none
  | some l=>if ordOk ops.toList (befs ops.toList []) then cSegs (befs ops.toList []) (dr (l.filterMap (·.dst))) (segs (befs ops.toList []) 0 l).1 else none
def comp (P:Program) (n:Nat) (sh:List (List Nat)):Code → Option ICode
  | .skip=>some .skip
  | .ret=>some .ret
  | .exit id=>some (.exit id)
  | .label _=>some .skip
  | .seq x y=>match comp P n sh x,comp P n sh y with
    | some x,some y=>some (.seq x y)
    | _,_=>none
  | .cond c x y=>match cV c,comp P n sh x,comp P n sh y with
    | some c,some x,some y=>some (.cond c x y)
    | _,_,_=>none
  | .block id x=>(comp P n sh x).map (.block id)
  | .loop x=>(comp P n sh x).map .loop
  | .scope x=>comp P n sh x
  | .region _ ops false=>match cOps P n ops ops.toList with
    | some l=>some (.reg l ((l.filterMap (·.dst)).filter fun k=>!inTwo sh k))
    | none=>none
  | .region _ ops true=>cDraw P n ops (·.filter fun k=>!inTwo sh k)
  | _=>none

inductive IRes where
  | tmp (k:Nat)
  | cell (k:Nat) (n:Option Nat)
  deriving Inhabited

structure IFun where
  n:Nat
  np:Nat
  res:List IRes
  body:ICode
  deriving Inhabited

def cRes (P:Program):List ResultVar → Option (List IRes)
  | []=>some []
  | .tmp t :: r=>if t < 1000000 then (cRes P r).map (.tmp t :: ·) else none
  | .cell a t :: r=>match tAgg P t,cRes P r with
    | some n,some l=>if a < 1000000 then some (.cell a n :: l) else none
    | _,_=>none

def resSlots:List ResultVar → List Nat
  | []=>[]
  | .tmp t :: r=>t :: resSlots r
  | .cell a _ :: r=>a :: resSlots r

def compF (P:Program) (f:FuncId):Option IFun :=
  match P.funcs[f]? with
  | none=>none
  | some fn=>match fn.body with
    | none=>none
    | some body=>match comp P fn.ntmps (resSlots fn.results.toList :: slotLists body) body,cRes P fn.results.toList with
      | some b,some rs=>if fn.params.size + fn.nfree ≤ fn.ntmps ∧ fn.ntmps ≤ 1000000 then some ⟨fn.ntmps,fn.params.size + fn.nfree,rs,b⟩ else none
      | _,_=>none
end Go.Mw
set_option linter.unusedSectionVars false
set_option linter.unusedVariables false
set_option linter.unusedSimpArgs false
namespace Go.Mw

section
variable {P:Program} [Tabs P] {c:Ctx} [CT c P] {a:Act} {w:World} {s:St} {o:Oper} {io:IOper} {ops:Array Oper} {n:Nat}

theorem cOper_spec (hc:cOper P n ops o = some io):cOp P o.op = some io.op ∧ io.dst = o.dst ∧ (∀ k,o.dst = some k → k < n) ∧
    ((o.guard = none ∧ io.g = none) ∨ ∃ j b k,o.guard = some (j,b) ∧ (ops[j]?).bind (·.dst) = some k ∧ io.g = some (k,b)):=by
  unfold cOper at hc
  split at hc
  case h_2=>cases hc
  rename_i op h1
  have hd:(match o.dst with | some d=>decide (d < n) | none=>true) = true → ∀ k,o.dst = some k → k < n:=fun h k hk=>by rw [hk] at h; simpa using h
  split at hc
  · rename_i h2 h3
    cases hc
    exact ⟨h1,rfl,hd h2,.inl ⟨h3,rfl⟩⟩
  · rename_i j b h2 h3
    split at hc
    case h_2=>cases hc
    rename_i k hk
    cases hc
    exact ⟨h1,rfl,hd h2,.inr ⟨j,b,k,h3,hk,rfl⟩⟩
  · cases hc

theorem hasBody_run {f:FuncId} (hb:hasBody P f = true) (args:Array Value):(callFunc f args).run P w = .ok (.enter f args) w:=by
  unfold hasBody at hb
  split at hb
  case h_2=>cases hb
  rename_i fn hf
  simp only [Bool.and_eq_true,bne_iff_ne] at hb
  obtain ⟨h1,h2⟩:=hb
  have h3:fn.body.isNone = false:=by cases h:fn.body <;> simp_all
  have h4:¬ fn.body = none:=fun hn=>by simp [hn] at h1
  simp [callFunc,hf,h2,h4]

theorem icall0_sound {f:FuncId} {cargs:List Value} {args:List AV} {d:Option Nat} (hd:∀ k,d = some k → k < c.n) {K:St → Prop} {bl:Nat → Option Nat} (hs:SatB c bl (get s.env) (hget s.heap) a w)
    (ha:All2 (VRel bl (Mut bl c.MF (hget s.heap)) w) cargs args) (h:icall0 P f args d s K) :
    Calls P f cargs.toArray w fun e w'=>∃ v,e = .returned v ∧ ∃ s',K s' ∧ SatS c s' (a.put d v) w':=by
  rcases h with ⟨args',r,b,hp,hid,hco,hf,hk⟩ | ⟨σ0,Sb,Post,ks,hp,hσ,hks,hk⟩
  · refine (pure_call hs hp ha hid b hco hf).mono fun e w' ⟨v,he,hs',hv⟩=>⟨v,he,s.put d r,hk,sat_put hs' d hd hv (fun _=>rfl) (fun _=>rfl)⟩
  · refine (obj_call hs hp ha hσ ks hks).mono fun e w' ⟨v,r,σ',bl2,he,hP,hs',hv⟩=>?_
    obtain ⟨s',h1,h2,h3⟩:=hk r σ' hP
    exact ⟨v,he,s'.put d r,h3,sat_put hs' d hd hv h1 h2⟩

theorem icall_sound {f:FuncId} {cargs:List Value} {args:List AV} {d:Option Nat} (hd:∀ k,d = some k → k < c.n) {K:St → Prop} {bl:Nat → Option Nat} (hs:SatB c bl (get s.env) (hget s.heap) a w)
    (ha:All2 (VRel bl (Mut bl c.MF (hget s.heap)) w) cargs args) (h:icall P f args d s K) :
    Calls P f cargs.toArray w fun e w'=>∃ v,e = .returned v ∧ ∃ s',K s' ∧ SatS c s' (a.put d v) w':=by
  rcases h with h | ⟨fs,h⟩ | ⟨s',args',hw,h⟩
  · exact icall0_sound hd hs ha h
  · obtain ⟨h1,h2⟩:=SatB.frzs fs s hs
    exact icall0_sound hd h1 (ha.mapRight fun v x hv=>h2 v x hv) h
  · obtain ⟨bl',h1,h2⟩:=hw c a w bl cargs hs ha
    exact icall0_sound hd h1 h2 h

theorem upon_calls {f:FuncId} {args:Array Value} {K:Act → World → Prop} {Q:Exit → Act → World → Prop} (hr:(execOp a.eval o).run P w = .ok (.enter f args) w)
    (h:Calls P f args w fun e w'=>∃ v,e = .returned v ∧ K (a.put o.dst v) w'):o.wp P a w K Q:=by
  unfold Oper.wp
  rw [hr]
  simp only [Oper.upon]
  refine h.mono fun e w' ⟨v,he,hk⟩=>?_
  subst he
  exact hk

theorem upon_ok {v:AV} {e:Eff} {K:Act → World → Prop} {Q:Exit → Act → World → Prop} {g:Nat → AV} {h:Nat → Option AObj} (hok:OpOK P c o a w g h v e)
    (hk:∀ r w' bl',SatB c bl' (e.env g) (e.hp h) a w' → VRel bl' (Mut bl' c.MF (e.hp h)) w' r v → K (a.put o.dst r) w'):o.wp P a w K Q:=by
  obtain ⟨r,w',bl',hr,h1,h2⟩:=hok
  unfold Oper.wp
  rcases hr with hr | ⟨hr,rfl⟩
  · rw [hr]; exact hk r w' bl' h1 h2
  · rw [hr]; exact hk undef w' bl' h1 h2

theorem call_args {bl:Nat → Option Nat} {g:Nat → AV} {h:Nat → Option AObj} (hs:SatB c bl g h a w) {cs:Array Operand} {vs:List IV} (hv:cVs cs.toList = some vs):All2 (VRel bl (Mut bl c.MF h) w) (cs.map a.eval).toList (vs.map (val g)):=by
  rw [Array.toList_map]
  exact cVs_rel hs hv

theorem cOp_call {oo:Op} {f:FuncId} {args:List IV} (h:cOp P oo = some (.call f args)):∃ cl,oo = .call cl ∧ cl.callee = .value (.func f) ∧ hasBody P f = true ∧ cVs cl.args.toList = some args:=by
  cases oo <;> simp only [cOp] at h
  case call cl =>
    unfold cCall at h
    split at h
    · rename_i f' hcl
      split at h
      case isFalse=>obtain ⟨_,_,_,_,_,_,_,_,_,_,_,_,q⟩:=cExt_sib h; cases q
      rename_i hb
      simp only [Option.map_eq_some_iff] at h
      obtain ⟨vs,hv,h⟩:=h
      cases h
      exact ⟨cl,rfl,hcl,hb,hv⟩
    all_goals
      exfalso
      repeat' (split at h)
      all_goals first
        | (cases h; done)
        | (obtain ⟨_,_,_,_,_,_,_,_,_,_,_,_,q⟩:=cExt_sib h; cases q; done)
        | (simp only [Option.map_eq_some_iff] at h; obtain ⟨_,_,h⟩:=h; cases h)
  case binOp =>
    split at h
    · unfold cBin at h; repeat' (split at h)
      all_goals cases h
    · cases h
  case convert =>
    split at h
    · unfold cConv at h
      repeat' (split at h)
      all_goals cases h
    · cases h
  case makeFunc fn first caps =>
    cases fn <;> simp only [cOp] at h <;> try (cases h; done)
    split at h
    · simp only [Option.map_eq_some_iff] at h; obtain ⟨_,_,h⟩:=h; cases h
    · cases h
  all_goals
    exfalso
    repeat' (split at h)
    all_goals first
      | (cases h; done)
      | (simp only [Option.map_eq_some_iff] at h; obtain ⟨_,_,h⟩:=h; cases h; done)
      | (simp_all; done)

theorem cOp_callv {oo:Op} {f:IV} {args:List IV} (h:cOp P oo = some (.callv f args)):∃ cl t,oo = .call cl ∧ cl.callee = .value (.tmp t) ∧ f = .s t ∧ cVs cl.args.toList = some args:=by
  cases oo <;> simp only [cOp] at h
  case call cl =>
    unfold cCall at h
    split at h
    case h_2 =>
      rename_i t hcl
      split at h
      case isFalse=>cases h
      simp only [Option.map_eq_some_iff] at h
      obtain ⟨vs,hv,h⟩:=h
      cases h
      exact ⟨cl,t,rfl,hcl,rfl,hv⟩
    all_goals
      exfalso
      repeat' (split at h)
      all_goals first
        | (cases h; done)
        | (obtain ⟨_,_,_,_,_,_,_,_,_,_,_,_,q⟩:=cExt_sib h; cases q; done)
        | (simp only [Option.map_eq_some_iff] at h; obtain ⟨_,_,h⟩:=h; cases h)
  case binOp =>
    split at h
    · unfold cBin at h; repeat' (split at h)
      all_goals cases h
    · cases h
  case convert =>
    split at h
    · unfold cConv at h
      repeat' (split at h)
      all_goals cases h
    · cases h
  case makeFunc fn first caps =>
    cases fn <;> simp only [cOp] at h <;> try (cases h; done)
    split at h
    · simp only [Option.map_eq_some_iff] at h; obtain ⟨_,_,h⟩:=h; cases h
    · cases h
  all_goals
    exfalso
    repeat' (split at h)
    all_goals first
      | (cases h; done)
      | (simp only [Option.map_eq_some_iff] at h; obtain ⟨_,_,h⟩:=h; cases h; done)
      | (simp_all; done)

theorem cOp_snl {oo:Op} {b:Bool} {x:IV} (h:cOp P oo = some (.snl b x)):∃ op t y z t' e,oo = .binOp op t y z t' ∧ P.underlying t = some (.slice e) ∧ ((op = .eql ∧ b = false) ∨ (op = .neq ∧ b = true)) ∧ cV y = some x ∧ cV z = some (.c .nl):=by
  cases oo <;> simp only [cOp] at h
  case binOp op t y z t' =>
    split at h
    case h_2=>cases h
    rename_i yv zv h1 h2
    unfold cBin at h
    split at h
    case h_7 =>
      rename_i e ht
      split at h
      · cases h; exact ⟨_,_,_,_,_,_,rfl,ht,.inl ⟨rfl,rfl⟩,h1,h2⟩
      · cases h; exact ⟨_,_,_,_,_,_,rfl,ht,.inr ⟨rfl,rfl⟩,h1,h2⟩
      · cases h
    all_goals
      repeat' (split at h)
      all_goals cases h
  case call cl =>
    unfold cCall at h
    exfalso
    repeat' (split at h)
    all_goals first
      | (cases h; done)
      | (obtain ⟨_,_,_,_,_,_,_,_,_,_,_,_,q⟩:=cExt_sib h; cases q; done)
      | (simp only [Option.map_eq_some_iff] at h; obtain ⟨_,_,h⟩:=h; cases h)
  case convert =>
    split at h
    · unfold cConv at h
      repeat' (split at h)
      all_goals cases h
    · cases h
  case makeFunc fn first caps =>
    cases fn <;> simp only [cOp] at h <;> try (cases h; done)
    split at h
    · simp only [Option.map_eq_some_iff] at h; obtain ⟨_,_,h⟩:=h; cases h
    · cases h
  all_goals
    exfalso
    repeat' (split at h)
    all_goals first
      | (cases h; done)
      | (simp only [Option.map_eq_some_iff] at h; obtain ⟨_,_,h⟩:=h; cases h; done)
      | (simp_all; done)

theorem iop_sound (hc:cOper P n ops o = some io) (hn:c.n = n) {K:St → Prop} (h:iop P io s K) (hs:SatS c s a w) (Q:Exit → Act → World → Prop) :
    o.wp P a w (fun a' w'=>∃ s',K s' ∧ SatS c s' a' w') Q:=by
  obtain ⟨h1,h2,h3,_⟩:=cOper_spec hc
  obtain ⟨bl,hs⟩:=hs
  have hd:∀ k,io.dst = some k → k < c.n:=fun k hk=>by rw [hn]; exact h3 k (h2 ▸ hk)
  have plain:∀ {s:St} {bl:Nat → Option Nat},SatB c bl (get s.env) (hget s.heap) a w → (allocs io.op = true → hget s.heap (io.dst.getD 0) = none ∧ Unnamed (io.dst.getD 0) (get s.env) (hget s.heap) ∧ (io.dst.getD 0 < 1000 ∨ 2000 ≤ io.dst.getD 0)) →
      (match aev (io.dst.getD 0) io.op (val (get s.env)) (hget s.heap) with
        | some (v,e)=>K ((s.eff e).put io.dst v)
        | none=>False) → o.wp P a w (fun a' w'=>∃ s',K s' ∧ SatS c s' a' w') Q:=by
    intro s bl hs hnew hm
    split at hm
    case h_2=>exact hm.elim
    rename_i v e he
    refine upon_ok (aev_ok hs h1 he hnew) (fun r w' bl' q1 q2=>⟨_,hm,?_⟩)
    rw [← h2]
    exact sat_put q1 io.dst hd q2 (get_eff s e) (hget_eff s e)
  unfold iop at h
  split at h
  · rename_i f args hop
    rw [hop] at h1
    obtain ⟨cl,hoo,hcl,hb,hv⟩:=cOp_call h1
    refine upon_calls (f:=f) (args:=cl.args.map a.eval) ?_ ?_
    · have:=hasBody_run (w:=w) hb (cl.args.map a.eval)
      simp [execOp,hoo,resolve,hcl,Act.eval,Deferred.ofValue,invoke,this]
    · have:=icall_sound hd hs (call_args hs hv) h
      simp only [Array.toArray_toList] at this
      rw [← h2]
      exact this
  · rename_i f args hop
    rw [hop] at h1
    obtain ⟨cl,t,hoo,hcl,rfl,hv⟩:=cOp_callv h1
    split at h
    case h_2=>exact h.elim
    rename_i f caps hval
    obtain ⟨hb,h⟩:=h
    have hf:=hs.env t
    simp only [val] at hval
    rw [hval] at hf
    obtain ⟨cs,hf1,hf2⟩:=hf
    refine upon_calls (f:=f) (args:=cl.args.map a.eval ++ cs.toArray) ?_ ?_
    · have:=hasBody_run (w:=w) hb (cl.args.map a.eval ++ cs.toArray)
      have hev:a.eval (.tmp t) = .func (.func f) #[] cs.toArray:=by
        rw [(tv_lo' (a:=a) (k:=t) (fun b hb=>by rw [hb] at hf1; cases hf1)).2] at hf1
        exact hf1
      simp [execOp,hoo,resolve,hcl,hev,Deferred.ofValue,invoke,this]
    · have hargs:=(call_args hs hv).append (hf2.mono fun _ x _ hr=>(show VRel bl (Mut bl c.MF (hget s.heap)) w _ x from by
        cases x <;> first | exact hr | trivial | (exfalso; simp only [PRel] at hr; cases hr)))
      have:=icall_sound hd hs hargs h
      have e1:((cl.args.map a.eval).toList ++ cs).toArray = cl.args.map a.eval ++ cs.toArray:=by apply Array.toList_inj.1; simp
      rw [e1] at this
      rw [← h2]
      exact this
  · rename_i t st rows ps hop
    obtain ⟨hlt,h⟩:=h
    have go:∀ {s:St} {bl:Nat → Option Nat},SatB c bl (get s.env) (hget s.heap) a w → opNew io s K → o.wp P a w (fun a' w'=>∃ s',K s' ∧ SatS c s' a' w') Q:=fun {s bl} hs hm=>by
      obtain ⟨bl',hk⟩:=SatS.kill (i:=io.dst.getD 0) ⟨bl,hs⟩
      exact plain hk (fun _=>⟨(kill_unnamed s _).1,(kill_unnamed s _).2,.inl hlt⟩) hm
    split at h
    · rename_i v e he
      refine go hs ?_
      unfold opNew
      rw [hop,he]
      exact h
    · obtain ⟨s',hw,h⟩:=h
      obtain ⟨bl',hs'⟩:=hw c a w ⟨bl,hs⟩
      exact go hs' h
  · rename_i b x hop
    obtain ⟨op,t,y,z,t',e,hoo,ht,hb,hx,hy⟩:=cOp_snl (hop ▸ h1)
    have kk:∀ {v:AV},OpOK P c o a w (get s.env) (hget s.heap) v .no → K (s.put io.dst v) → o.wp P a w (fun a' w'=>∃ s',K s' ∧ SatS c s' a' w') Q:=fun {v} hok hk=>by
      refine upon_ok hok (fun r w' bl' q1 q2=>⟨_,hk,?_⟩)
      rw [← h2]
      exact sat_put q1 io.dst hd q2 (fun _=>rfl) (fun _=>rfl)
    split at h
    · rename_i st hv
      have h5:=cV_rel hs hx
      rw [hv] at h5
      have hy2:a.eval z = .slice none 0 0:=(cV_rel hs hy).nl
      generalize hu:a.eval y = u at h5
      have h6:=h5.sl
      have fin:∀ {ad n cap},a.eval y = .slice ad n cap → o.wp P a w (fun a' w'=>∃ s',K s' ∧ SatS c s' a' w') Q:=fun {ad n cap} h7=>by
        refine kk (v:=.bool (if ad.isNone then !b else b)) (OpOK.pure hs (r:=.bool _) (run_snl hoo ht hb h7 hy2) (rBool _)) ?_
        cases ad
        · exact h.2
        · exact h.1
      cases h6 <;> exact fin hu
    · split at h
      case h_2=>exact h.elim
      rename_i v hv
      exact kk (ok_snl hs hoo ht hb hx hy hv) h
  · split at h
    · rename_i hal
      obtain ⟨hlt,h⟩:=h
      obtain ⟨bl',hk⟩:=SatS.kill (i:=io.dst.getD 0) ⟨bl,hs⟩
      exact plain hk (fun _=>⟨(kill_unnamed s _).1,(kill_unnamed s _).2,.inl hlt⟩) h
    · rename_i hal
      exact plain hs (fun h=>absurd h hal) h

theorem yielded_undef {bl:Nat → Option Nat} {M:Nat → Prop} {j k:Nat} (hj:(ops[j]?).bind (·.dst) = some k) (hk:VRel bl M w (tv a k) (.tup [])):yielded ops a.tmps j = none:=by
  obtain ⟨cs,h1,h2⟩:=hk
  rw [(tv_lo' (a:=a) (k:=k) (fun b hb=>by rw [hb] at h1; cases h1)).2] at h1
  have hcs:cs = []:=by cases cs with | nil=>rfl | cons=>exact h2.elim
  subst hcs
  have:∀ b,a.tmps[k]? ≠ some (.bool b):=fun b hb=>by
    rw [Array.getD_eq_getD_getElem?,hb] at h1
    cases h1
  unfold yielded
  rw [hj]
  show (match a.tmps[k]? with | some (.bool b)=>some b | _=>none) = none
  generalize a.tmps[k]? = x at this
  cases x with
  | none=>rfl
  | some v=>cases v <;> first | rfl | exact absurd rfl (this _)

theorem iop1_sound (hn:c.n = n) (Q:Exit → Act → World → Prop) {o:Oper} {io:IOper} (h1:cOper P n ops o = some io) {il:List IOper} {K:St → Prop} {KK:Act → World → Prop} {s:St} {a:Act} {w:World} (h:iops P (io :: il) s K) (hs:SatS c s a w)
    (hK:∀ s' a' w',iops P il s' K → SatS c s' a' w' → KK a' w'):if Region.wanted o (yielded ops a.tmps) then o.wp P a w KK Q ∨ (o.asks P a w ∧ LetsOut Q) else KK (a.put o.dst undef) w:=by
  obtain ⟨_,hdst,hdn,hg⟩:=cOper_spec h1
  have run:∀ {s:St},iop P io s (fun s'=>iops P il s' K) → SatS c s a w → o.wp P a w KK Q:=fun {s} h hs =>
    Oper.wp_mono (fun a' w' ⟨s',h3,h4⟩=>hK s' a' w' h3 h4) (iop_sound h1 hn h hs Q)
  rcases hg with ⟨g1,g2⟩ | ⟨j,b,k,g1,g2,g3⟩
  · rw [if_pos (by simp [Region.wanted,g1])]
    simp only [iops,g2] at h
    exact .inl (run h hs)
  · simp only [iops,g3] at h
    split at h
    case h_3=>exact h.elim
    case h_2 =>
      rename_i hv
      obtain ⟨bl,hsb⟩:=hs
      have hk:=hsb.env k
      rw [hv] at hk
      have hy:=yielded_undef (ops:=ops) g2 hk
      rw [if_neg (by simp [Region.wanted,g1,hy])]
      refine hK _ _ w h ?_
      rw [← hdst]
      exact sat_skip ⟨bl,hsb⟩ io.dst (fun q hq=>by rw [hn]; exact hdn q (hdst ▸ hq)) ()
    rename_i t hv
    obtain ⟨bl,hsb⟩:=hs
    have hk:=hsb.env k
    rw [hv] at hk
    have hkv:=hk.bool
    rw [(tv_lo' (a:=a) (k:=k) (fun b hb=>by rw [hb] at hkv; cases hkv)).2] at hkv
    have hkn:k < a.tmps.size:=by
      rcases Nat.lt_or_ge k a.tmps.size with hlt | hge
      · exact hlt
      · rw [Array.getD_eq_getD_getElem?,Array.getElem?_eq_none hge] at hkv
        cases hkv
    have hy:yielded ops a.tmps j = some t:=by
      have:a.tmps[k]? = some (.bool t):=by
        rw [Array.getD_eq_getD_getElem?,Array.getElem?_eq_getElem hkn] at hkv
        rw [Array.getElem?_eq_getElem hkn]
        simpa using hkv
      simp [yielded,g2,this]
    have hput:∀ q:Bool,t = q → SatS c (s.put (some k) (.bool q)) a w:=fun q hq=>by
      refine ⟨bl,hsb.congr (fun i=>?_) (fun i=>rfl)⟩
      simp only [St.put,get,get_del]
      by_cases hik:k = i
      · subst hik; simp [hv,hq]
      · have hik':¬ i = k:=fun e=>hik e.symm
        simp [hik,hik']
    by_cases htb:t = b
    · rw [if_pos (by simp [Region.wanted,g1,hy,htb])]
      exact .inl (run (h.1 htb) (hput b htb))
    · have htb':t = !b:=by cases t <;> cases b <;> simp_all
      rw [if_neg (by simp [Region.wanted,g1,hy,htb])]
      refine hK _ _ w (h.2 htb') ?_
      rw [← hdst]
      exact sat_skip (hput _ htb') io.dst (fun q hq=>by rw [hn]; exact hdn q (hdst ▸ hq)) ()
theorem iops_sound (hn:c.n = n) (Q:Exit → Act → World → Prop):∀ (l:List Oper) (il:List IOper),cOps P n ops l = some il → ∀ (s:St) (K:St → Prop) (a:Act) (w:World),iops P il s K → SatS c s a w →
    (∀ s' a' w',K s' → SatS c s' a' w' → Q .normal a' w') → wpList P ops Q l a w
  | [],il,hc,s,K,a,w,h,hs,hQ=>by
    simp only [cOps,Option.some.injEq] at hc
    subst hc
    exact hQ s a w h hs
  | o :: r,il,hc,s,K,a,w,h,hs,hQ=>by
    simp only [cOps] at hc
    split at hc
    case h_2=>cases hc
    rename_i io il' h1 h2
    cases hc
    unfold wpList
    exact iop1_sound hn Q h1 h hs fun s' a' w' h3 h4=>iops_sound hn Q r il' h2 s' K a' w' h3 h4 hQ
end
end Go.Mw
set_option linter.unusedVariables false
set_option linter.unusedSimpArgs false
namespace Go.Mw

/-! ### An operation looks at its operands alone -/
section
variable {g g':Nat → AV} {h h':Nat → Option AObj}

theorem val_local {v:IV} (hg:∀ k ∈ ivSlots v,g' k = g k):val g' v = val g v:=by
  cases v with
  | s k=>exact hg k (by simp [ivSlots])
  | c x=>rfl

theorem vals_local {l:List IV} (hg:∀ v ∈ l,∀ k ∈ ivSlots v,g' k = g k):l.map (val g') = l.map (val g):=List.map_congr_left fun v hv=>val_local (hg v hv)

theorem opt_local {v:Option IV} (hg:∀ x,v = some x → ∀ k ∈ ivSlots x,g' k = g k):v.map (val g') = v.map (val g):=by
  cases v with
  | none=>rfl
  | some x=>simp only [Option.map_some]; rw [val_local (hg x rfl)]

theorem idsV_ms (id st off len:Nat):idsV (.ms id st off len) = [id]:=rfl
theorem idsV_mp (id st row off:Nat):idsV (.mp id st row off) = [id]:=rfl

theorem aLoad_local {n:Option Nat} {p:AV} (hh:∀ id ∈ idsV p,h' id = h id):aLoad n p h' = aLoad n p h:=by
  cases p <;> try rfl
  simp only [aLoad]
  rw [hh _ (by simp [idsV_mp])]
theorem aStore_local {n:Nat} {p x:AV} (hh:∀ id ∈ idsV p,h' id = h id):aStore n p x h' = aStore n p x h:=by
  unfold aStore
  split
  · rename_i id st row off cs h1
    rw [hh id (by simp [idsV_mp])]
  · rfl
theorem rowsA_local {st:Nat} {x:AV} (hh:∀ id ∈ idsV x,h' id = h id):rowsA st h' x = rowsA st h x:=by
  cases x <;> try rfl
  simp only [rowsA]
  rw [hh _ (by simp [idsV_ms])]
theorem aApp_local {d:Nat} {t:TypeId} {st:Nat} {x:AV} {src:Option (List (List AV))} (hh:∀ id ∈ idsV x,h' id = h id):aApp d t st x src h' = aApp d t st x src h:=by
  unfold aApp
  cases src with
  | none=>rfl
  | some ys =>
    cases x <;> try rfl
    simp only
    rw [hh _ (by simp [idsV_ms])]

theorem aCpy_local {st:Nat} {x:AV} {src:Option (List (List AV))} (hh:∀ id ∈ idsV x,h' id = h id):aCpy st x src h' = aCpy st x src h:=by
  unfold aCpy
  cases src with
  | none=>rfl
  | some ys =>
    cases x <;> try rfl
    simp only
    rw [hh _ (by simp [idsV_ms])]
theorem aCvm_local {x:AV} (hh:∀ id ∈ idsV x,h' id = h id):aCvm x h' = aCvm x h:=by
  unfold aCvm
  cases x <;> try rfl
  simp only
  rw [hh _ (by simp [idsV_ms])]
theorem aMop_local {d:Nat} {k:MK} {xs:List AV} (hh:∀ x ∈ xs,∀ id ∈ idsV x,h' id = h id):aMop d k xs h' = aMop d k xs h:=by
  have hm:∀ {id:Nat} {b:Bool} {r:List AV},xs = .mm id b :: r → h' id = h id:=fun {id b r} hx=>hh (.mm id b) (by rw [hx]; simp) id (by simp [idsV,idsG,idsC,idsP])
  unfold aMop
  split <;> first | rfl | (rw [hm rfl])
theorem aParts_local {ps:List (Nat × Nat × IV)} (hg:∀ p ∈ ps,∀ k ∈ ivSlots p.2.2,g' k = g k):∀ cells,aParts (val g') cells ps = aParts (val g) cells ps:=by
  induction ps with
  | nil=>intro cells; rfl
  | cons p r ih =>
    intro cells
    obtain ⟨off,n,v⟩:=p
    have hv:val g' v = val g v:=val_local (hg (off,n,v) (by simp))
    simp only [aParts,hv]
    cases cellsA (val g v) with
    | none=>rfl
    | some cs=>simp only [ih (fun p hp=>hg p (by simp [hp]))]
theorem aRows_local {st:Nat} {ps:List (Nat × IV)} (hg:∀ p ∈ ps,∀ k ∈ ivSlots p.2,g' k = g k):∀ rows,aRows (val g') st rows ps = aRows (val g) st rows ps:=by
  induction ps with
  | nil=>intro cells; rfl
  | cons p r ih =>
    intro cells
    obtain ⟨off,v⟩:=p
    have hv:val g' v = val g v:=val_local (hg (off,v) (by simp))
    simp only [aRows,hv]
    cases cellsA (val g v) with
    | none=>rfl
    | some cs=>simp only [ih (fun p hp=>hg p (by simp [hp]))]

theorem heap_iv {v:IV} {S:List Nat} (hsub:∀ k ∈ ivSlots v,k ∈ S) (hh:∀ k ∈ S,∀ id ∈ idsV (g k),h' id = h id) (hc:∀ x,v = .c x → idsV x = []):∀ id ∈ idsV (val g v),h' id = h id:=by
  cases v with
  | s k=>intro id hid; exact hh k (hsub k (by simp [ivSlots])) id hid
  | c x=>intro id hid; rw [show val g (.c x) = x from rfl,hc x rfl] at hid; cases hid

theorem const_iv {v:IV} (h:ivConst v = true):∀ x,v = .c x → idsV x = []:=by
  rintro x rfl
  simpa [ivConst] using h

theorem aev_local {d:Nat} {op:IOp} (hg:∀ k ∈ opSlots op,g' k = g k) (hh:∀ k ∈ opSlots op,∀ id ∈ idsV (g k),h' id = h id) (hc:constOk op = true):aev d op (val g') h' = aev d op (val g) h:=by
  have v1:∀ {v:IV},(∀ k ∈ ivSlots v,k ∈ opSlots op) → val g' v = val g v:=fun hs=>val_local fun k hk=>hg k (hs k hk)
  have vo:∀ {v:Option IV},(∀ x,v = some x → ∀ k ∈ ivSlots x,k ∈ opSlots op) → v.map (val g') = v.map (val g):=fun hs=>opt_local fun x hx k hk=>hg k (hs x hx k hk)
  have hp:∀ {v:IV},(∀ k ∈ ivSlots v,k ∈ opSlots op) → (∀ x,v = .c x → idsV x = []) → ∀ id ∈ idsV (val g v),h' id = h id:=fun hs hc=>heap_iv hs hh hc
  cases op with
  | mov x=>simp only [aev]; rw [v1 (fun k hk=>by simp only [opSlots]; exact hk)]
  | pick c a b =>
    simp only [aev]
    rw [v1 (v:=c) (fun k hk=>by simp only [opSlots,List.mem_append]; simp [hk]),v1 (v:=a) (fun k hk=>by simp only [opSlots,List.mem_append]; simp [hk]),v1 (v:=b) (fun k hk=>by simp only [opSlots,List.mem_append]; simp [hk])]
  | new t cs=>rfl
  | box t n x=>simp only [aev]; rw [v1 (fun k hk=>by simp only [opSlots]; exact hk)]
  | build cs ps =>
    simp only [aev]
    rw [aParts_local (fun p hp k hk=>hg k (by simp only [opSlots,List.mem_flatMap]; exact ⟨p,hp,hk⟩))]
  | bsl t st rows ps =>
    simp only [aev]
    rw [aRows_local (fun p hp k hk=>hg k (by simp only [opSlots,List.mem_flatMap]; exact ⟨p,hp,hk⟩))]
  | load n p =>
    have hs:∀ k ∈ ivSlots p,k ∈ opSlots (.load n p):=fun k hk=>by simp only [opSlots]; exact hk
    simp only [aev]
    rw [v1 hs,aLoad_local (hp hs (const_iv hc))]
  | store n p x =>
    simp only [constOk,Bool.and_eq_true] at hc
    have hs:∀ k ∈ ivSlots p,k ∈ opSlots (.store n p x):=fun k hk=>by simp only [opSlots,List.mem_append]; simp [hk]
    have hs2:∀ k ∈ ivSlots x,k ∈ opSlots (.store n p x):=fun k hk=>by simp only [opSlots,List.mem_append]; simp [hk]
    simp only [aev]
    rw [v1 hs,v1 hs2,aStore_local (hp hs (const_iv hc.1))]
  | fadr off p=>simp only [aev]; rw [v1 (fun k hk=>by simp only [opSlots]; exact hk)]
  | fld off n x=>simp only [aev]; rw [v1 (fun k hk=>by simp only [opSlots]; exact hk)]
  | iadr st x i =>
    simp only [aev]
    rw [v1 (v:=x) (fun k hk=>by simp only [opSlots,List.mem_append]; simp [hk]),v1 (v:=i) (fun k hk=>by simp only [opSlots,List.mem_append]; simp [hk])]
  | aadr st n x i =>
    simp only [aev]
    rw [v1 (v:=x) (fun k hk=>by simp only [opSlots,List.mem_append]; simp [hk]),v1 (v:=i) (fun k hk=>by simp only [opSlots,List.mem_append]; simp [hk])]
  | mnx m x y =>
    simp only [aev]
    rw [v1 (v:=x) (fun k hk=>by simp only [opSlots,List.mem_append]; simp [hk]),v1 (v:=y) (fun k hk=>by simp only [opSlots,List.mem_append]; simp [hk])]
  | cpy st x y =>
    simp only [constOk,Bool.and_eq_true] at hc
    have hs:∀ k ∈ ivSlots x,k ∈ opSlots (.cpy st x y):=fun k hk=>by simp only [opSlots,List.mem_append]; simp [hk]
    have hs2:∀ k ∈ ivSlots y,k ∈ opSlots (.cpy st x y):=fun k hk=>by simp only [opSlots,List.mem_append]; simp [hk]
    simp only [aev]
    rw [v1 hs,v1 hs2,rowsA_local (hp hs2 (const_iv hc.2)),aCpy_local (hp hs (const_iv hc.1))]
  | cvm x =>
    have hs:∀ k ∈ ivSlots x,k ∈ opSlots (.cvm x):=fun k hk=>by simp only [opSlots]; exact hk
    simp only [aev]
    rw [v1 hs,aCvm_local (hp hs (const_iv hc))]
  | sib x y =>
    simp only [aev]
    rw [v1 (v:=x) (fun k hk=>by simp only [opSlots,List.mem_append]; simp [hk]),v1 (v:=y) (fun k hk=>by simp only [opSlots,List.mem_append]; simp [hk])]
  | mop k xs =>
    simp only [constOk,List.all_eq_true] at hc
    have hs:∀ x ∈ xs,∀ k' ∈ ivSlots x,k' ∈ opSlots (.mop k xs):=fun x hx k' hk=>by simp only [opSlots,List.mem_flatMap]; exact ⟨x,hx,hk⟩
    have e1:xs.map (val g') = xs.map (val g):=List.map_congr_left fun x hx=>v1 (hs x hx)
    simp only [aev]
    rw [e1]
    exact aMop_local fun y hy id hid=>by
      obtain ⟨x,hx,rfl⟩:=List.mem_map.1 hy
      exact hp (hs x hx) (const_iv (hc x hx)) id hid
  | slc st x lo hi mx =>
    have e:∀ {v:Option IV} {k:Nat},k ∈ ioSlots v ↔ ∃ x,v = some x ∧ k ∈ ivSlots x:=by
      intro v k
      cases v <;> simp [ioSlots]
    simp only [aev]
    rw [v1 (v:=x) (fun k hk=>by simp only [opSlots,List.mem_append]; simp [hk]),vo (v:=lo) (fun y hy k hk=>by simp only [opSlots,List.mem_append]; exact .inl (.inl (.inr (e.2 ⟨y,hy,hk⟩)))),
      vo (v:=hi) (fun y hy k hk=>by simp only [opSlots,List.mem_append]; exact .inl (.inr (e.2 ⟨y,hy,hk⟩))),vo (v:=mx) (fun y hy k hk=>by simp only [opSlots,List.mem_append]; exact .inr (e.2 ⟨y,hy,hk⟩))]
  | len x=>simp only [aev]; rw [v1 (fun k hk=>by simp only [opSlots]; exact hk)]
  | app t st x y =>
    simp only [constOk,Bool.and_eq_true] at hc
    have hs:∀ k ∈ ivSlots x,k ∈ opSlots (.app t st x y):=fun k hk=>by simp only [opSlots,List.mem_append]; simp [hk]
    have hs2:∀ k ∈ ivSlots y,k ∈ opSlots (.app t st x y):=fun k hk=>by simp only [opSlots,List.mem_append]; simp [hk]
    simp only [aev]
    rw [v1 hs,v1 hs2,rowsA_local (hp hs2 (const_iv hc.2)),aApp_local (hp hs (const_iv hc.1))]
  | slen x=>simp only [aev]; rw [v1 (fun k hk=>by simp only [opSlots]; exact hk)]
  | sslc x lo hi =>
    have e:∀ {v:Option IV} {k:Nat},k ∈ ioSlots v ↔ ∃ x,v = some x ∧ k ∈ ivSlots x:=by
      intro v k
      cases v <;> simp [ioSlots]
    simp only [aev]
    rw [v1 (v:=x) (fun k hk=>by simp only [opSlots,List.mem_append]; simp [hk]),vo (v:=lo) (fun y hy k hk=>by simp only [opSlots,List.mem_append]; exact .inl (.inr (e.2 ⟨y,hy,hk⟩))),
      vo (v:=hi) (fun y hy k hk=>by simp only [opSlots,List.mem_append]; exact .inr (e.2 ⟨y,hy,hk⟩))]
  | apps t x y =>
    simp only [constOk,Bool.and_eq_true] at hc
    have hs:∀ k ∈ ivSlots x,k ∈ opSlots (.apps t x y):=fun k hk=>by simp only [opSlots,List.mem_append]; simp [hk]
    have hs2:∀ k ∈ ivSlots y,k ∈ opSlots (.apps t x y):=fun k hk=>by simp only [opSlots,List.mem_append]; simp [hk]
    simp only [aev]
    rw [v1 hs,v1 hs2,aApp_local (hp hs (const_iv hc.1))]
  | bin op x y =>
    simp only [aev]
    rw [v1 (v:=x) (fun k hk=>by simp only [opSlots,List.mem_append]; simp [hk]),v1 (v:=y) (fun k hk=>by simp only [opSlots,List.mem_append]; simp [hk])]
  | bbin op x y =>
    simp only [aev]
    rw [v1 (v:=x) (fun k hk=>by simp only [opSlots,List.mem_append]; simp [hk]),v1 (v:=y) (fun k hk=>by simp only [opSlots,List.mem_append]; simp [hk])]
  | pbin op x y =>
    simp only [aev]
    rw [v1 (v:=x) (fun k hk=>by simp only [opSlots,List.mem_append]; simp [hk]),v1 (v:=y) (fun k hk=>by simp only [opSlots,List.mem_append]; simp [hk])]
  | sbin op ls x y =>
    simp only [aev]
    rw [v1 (v:=x) (fun k hk=>by simp only [opSlots,List.mem_append]; simp [hk]),v1 (v:=y) (fun k hk=>by simp only [opSlots,List.mem_append]; simp [hk])]
  | un op x=>simp only [aev]; rw [v1 (fun k hk=>by simp only [opSlots]; exact hk)]
  | cvi k' x=>simp only [aev]; rw [v1 (fun k hk=>by simp only [opSlots]; exact hk)]
  | cvs x =>
    have hs:∀ k ∈ ivSlots x,k ∈ opSlots (.cvs x):=fun k hk=>by simp only [opSlots]; exact hk
    simp only [aev]
    rw [v1 hs,rowsA_local (hp hs (const_iv hc))]
  | cvt x=>simp only [aev]; rw [v1 (fun k hk=>by simp only [opSlots]; exact hk)]
  | cvb t x=>simp only [aev]; rw [v1 (fun k hk=>by simp only [opSlots]; exact hk)]
  | call f args=>rfl
  | callv f args=>rfl
  | snl b x=>simp only [aev]; rw [v1 (fun k hk=>by simp only [opSlots]; exact hk)]
  | ext x i=>simp only [aev]; rw [v1 (fun k hk=>by simp only [opSlots]; exact hk)]
  | nchk x=>simp only [aev]; rw [v1 (fun k hk=>by simp only [opSlots]; exact hk)]
  | mkf f caps =>
    simp only [aev]
    rw [vals_local (fun v hv k hk=>hg k (by simp only [opSlots,List.mem_flatMap]; exact ⟨v,hv,hk⟩))]
  | sidx x i =>
    simp only [aev]
    rw [v1 (v:=x) (fun k hk=>by simp only [opSlots,List.mem_append]; simp [hk]),v1 (v:=i) (fun k hk=>by simp only [opSlots,List.mem_append]; simp [hk])]
  | mks t st z x y =>
    simp only [aev]
    rw [v1 (v:=x) (fun k hk=>by simp only [opSlots,List.mem_append]; simp [hk]),v1 (v:=y) (fun k hk=>by simp only [opSlots,List.mem_append]; simp [hk])]

theorem coe_local {b:Bool}:∀ {l l':List AV},(∀ x ∈ l,∀ id ∈ idsV x,h' id = h id) → All2 (coe b h) l l' → All2 (coe b h') l l'
  | [],[],_,_=>trivial
  | x :: l,x' :: l',hh,hc=>⟨by
      rcases hc.1 with h1 | h1 | ⟨hb,id,st,off,len,o,h1,h2,h3⟩
      · exact .inl h1
      · exact .inr (.inl h1)
      · refine .inr (.inr ⟨hb,id,st,off,len,o,h1,?_,h3⟩)
        rw [hh x (by simp) id (by rw [h1]; simp [idsV_ms])]
        exact h2,coe_local (fun y hy=>hh y (by simp [hy])) hc.2⟩
  | [],_ :: _,_,hc=>hc.elim
  | _ :: _,[],_,hc=>hc.elim
end
end Go.Mw
set_option linter.unusedSectionVars false
set_option linter.unusedVariables false
set_option linter.unusedSimpArgs false
namespace Go.Mw

def putF (g:Nat → AV) (d:Option Nat) (x:AV):Nat → AV :=
  match d with
  | some d=>upd g d x
  | none=>g

def Run (P:Program) [Tabs P] (o:IOper) (g:Nat → AV) (h:Nat → Option AObj) (v:AV) (e:Eff):Prop :=
  match o.op with
  | .call f args=>(e = .no ∧ idsV v = [] ∧ ∃ args' b,PCalls P f args' v ∧ (∀ x ∈ args',idsV x = []) ∧ All2 (coe b h) (args.map (val g)) args' ∧ (b = true → flatV v = true)) ∨
      ∃ k ob ob' Sb,e = .put k ob' ∧ idsV v = [] ∧ ACalls P f (args.map (val g)) [(k,ob)] Sb (fun r' σ'=>r' = v ∧ σ' = [(k,ob')]) ∧ Sb k ∧ h k = some ob ∧ ∃ q ∈ opSlots o.op,k ∈ idsV (g q)
  | .callv _ _=>False
  | op=>aev (o.dst.getD 0) op (val g) h = some (v,e)

structure Fin (P:Program) [Tabs P] (o:IOper) (g:Nat → AV) (h:Nat → Option AObj) (v:AV) (e:Eff) (x:HI) (g':Nat → AV) (h':Nat → Option AObj):Prop where
  run:Run P o g h v e
  known:∀ k ∈ opSlots o.op,g k ≠ .any
  opnd:∀ k ∈ opSlots o.op,∀ id ∈ idsV (g k),id ∈ x.op
  alone:∀ i o',e = .reb i o' → ∀ j q,h j = some q → i ∉ idsO q
  fresh:∀ i o',e = .new i o' → h i = none
  res:∀ d,d ∈ idsV v ∨ d ∈ e.ids → d ∈ x.res
  tch:x.tch = e.tch
  rb:x.rb = e.isReb
  wr:x.wr = e.isPut
  hg:g' = putF (e.env g) o.dst v
  hh:h' = e.hp h

def StepC (P:Program) [Tabs P] (o:IOper) (g:Nat → AV) (h:Nat → Option AObj) (ev:Option (AV × Eff)) (x:HI) (g':Nat → AV) (h':Nat → Option AObj):Prop :=
  match ev with
  | some (v,e)=>(∀ k b,o.g = some (k,b) → g k = .bool b) ∧ Fin P o g h v e x g' h'
  | none=>(∃ k b,o.g = some (k,b) ∧ (g k = .bool (!b) ∨ g k = .tup [])) ∧ g' = putF g o.dst (.tup []) ∧ h' = h ∧ x.tch = [] ∧ x.rb = false ∧ x.wr = false

section
variable {P:Program} [Tabs P] {o:IOper} {g g' g1 g2:Nat → AV} {h h' h1 h2:Nat → Option AObj} {v:AV} {e:Eff}

theorem Run.local (hr:Run P o g h v e) (hg:∀ k ∈ opSlots o.op,g' k = g k) (hh:∀ k ∈ opSlots o.op,∀ id ∈ idsV (g k),h' id = h id) (hc:constOk o.op = true):Run P o g' h' v e:=by
  unfold Run at hr ⊢
  split at hr
  · rename_i f args hop
    rcases hr with ⟨h1,h2,args',b,h3,h4,h5,h6⟩ | ⟨k,ob,ob',Sb,h1,h2,h3,h4,h5,q,h6,h7⟩
    rotate_left
    · refine .inr ⟨k,ob,ob',Sb,h1,h2,?_,h4,?_,q,h6,by rw [hg q h6]; exact h7⟩
      · rw [hop] at hg
        rw [vals_local (fun v hv k hk=>hg k (by simp only [opSlots,List.mem_flatMap]; exact ⟨v,hv,hk⟩))]
        exact h3
      · rw [hh q h6 k h7]; exact h5
    refine .inl ⟨h1,h2,args',b,h3,h4,?_,h6⟩
    rw [hop] at hg hh hc
    rw [vals_local (fun v hv k hk=>hg k (by simp only [opSlots,List.mem_flatMap]; exact ⟨v,hv,hk⟩))]
    refine coe_local (fun x hx id hid=>?_) h5
    obtain ⟨iv,hiv,rfl⟩:=List.mem_map.1 hx
    refine heap_iv (S:=opSlots (.call f args)) (fun k hk=>by simp only [opSlots,List.mem_flatMap]; exact ⟨iv,hiv,hk⟩) hh ?_ id hid
    simp only [constOk,List.all_eq_true] at hc
    exact const_iv (hc iv hiv)
  · exact hr
  · rename_i n1 n2
    rw [aev_local hg hh hc]
    exact hr

theorem putF_ne {d:Option Nat} {x:AV} {k:Nat} (hk:d ≠ some k):putF g d x k = g k:=by
  cases d with
  | none=>rfl
  | some d=>exact upd_ne _ _ (fun h=>hk (by rw [h]))

theorem purV_ne {i:Nat} {x:AV} (hx:purV i x ≠ .any):purV i x = x:=by
  unfold purV at hx ⊢
  split
  · rename_i hm; simp [hm] at hx
  · rfl
theorem purV_no {i:Nat} {x:AV} (hx:i ∉ idsV x):purV i x = x:=by
  unfold purV
  rw [if_neg (fun hm=>hx (mV_ids hm))]

theorem purO_no {i:Nat} {o:AObj} (hx:i ∉ idsO o):purO i o = o:=by
  unfold purO
  split
  · rename_i hr
    simp only [idsO,hr,if_true,List.mem_flatMap,not_exists,not_and] at hx
    have:o.rows.map (fun r=>r.map (purC i)) = o.rows:=by
      conv=>rhs; rw [← List.map_id o.rows]
      refine List.map_congr_left fun r hr'=>?_
      conv=>rhs; rw [id,← List.map_id r]
      refine List.map_congr_left fun y hy=>?_
      unfold purC
      rw [if_neg (fun hm=>hx r hr' y hy (mC_ids hm))]
      rfl
    rw [this]
  · rfl

theorem hp_reb {i:Nat} {o':AObj} (ha:∀ j q,h j = some q → i ∉ idsO q):Eff.hp h (.reb i o') = upd h i (some o'):=by
  funext j
  simp only [Eff.hp,upd]
  split
  · rfl
  · cases hj:h j with
    | none=>rfl
    | some q=>simp only [Option.map_some]; rw [purO_no (ha j q hj)]

theorem purV_purV (i j:Nat) (x:AV):purV i (purV j x) = purV j (purV i x):=by
  have hany:∀ i,mV i .any = false:=fun _=>rfl
  unfold purV
  by_cases h1:mV i x = true <;> by_cases h2:mV j x = true <;> simp only [h1,h2,hany,if_true,Bool.false_eq_true,if_false]

theorem env_env (e e':Eff):e.env (e'.env g) = e'.env (e.env g):=by
  cases e <;> cases e' <;> first | rfl | (funext k; exact purV_purV _ _ _)

def Eff.pur (e:Eff) (x:AV):AV :=
  match e with
  | .reb i _=>purV i x
  | _=>x
theorem env_put (e:Eff) (d:Option Nat) (x:AV):e.env (putF g d x) = putF (e.env g) d (e.pur x):=by
  cases d with
  | none=>rfl
  | some d =>
    cases e with
    | reb i o' =>
      funext k
      simp only [Eff.env,putF,Eff.pur,upd]
      split <;> rfl
    | _=>rfl
theorem pur_no {e:Eff} {x:AV} (hx:e.isReb = true → ∀ d ∈ e.tch,d ∉ idsV x):e.pur x = x:=by
  cases e with
  | reb i o'=>exact purV_no (hx rfl i (by simp [Eff.tch]))
  | _=>rfl

theorem putF_comm {d d':Option Nat} {x x':AV} (hd:∀ k,d = some k → d' ≠ some k):putF (putF g d x) d' x' = putF (putF g d' x') d x:=by
  cases d with
  | none=>rfl
  | some d =>
    cases d' with
    | none=>rfl
    | some d' =>
      have hne:d ≠ d':=fun hh=>hd d rfl (by rw [hh])
      funext k
      simp only [putF,upd]
      by_cases h1:k = d <;> by_cases h2:k = d' <;> simp_all

def hpU (h:Nat → Option AObj) (e:Eff):Nat → Option AObj :=
  match e with
  | .no=>h
  | .put i o=>upd h i (some o)
  | .new i o=>upd h i (some o)
  | .reb i o=>upd h i (some o)
theorem hp_eq (e:Eff) (ha:∀ i o',e = .reb i o' → ∀ j q,h j = some q → i ∉ idsO q):e.hp h = hpU h e:=by
  cases e with
  | reb i ob=>exact hp_reb (ha i ob rfl)
  | _=>rfl
theorem hpU_out {e:Eff} {id:Nat} (hid:id ∉ e.tch):hpU h e id = h id:=by
  cases e <;> first | rfl | exact upd_ne _ _ (fun hh=>hid (by simp [Eff.tch,hh]))
theorem hpU_comm {e e':Eff} (hd:∀ d ∈ e.tch,d ∉ e'.tch):hpU (hpU h e) e' = hpU (hpU h e') e:=by
  have key:∀ (i j:Nat) (p q:Option AObj),i ≠ j → upd (upd h i p) j q = upd (upd h j q) i p:=fun i j p q hij=>by
    funext k
    simp only [upd]
    by_cases h1:k = i <;> by_cases h2:k = j <;> simp_all
  cases e <;> cases e' <;> first | rfl | exact key _ _ _ _ (by simpa [Eff.tch] using hd)
theorem hpU_in {e:Eff} {j:Nat} {q:AObj} (hq:hpU h e j = some q):(h j = some q) ∨ idsO q = e.ids:=by
  cases e with
  | no=>exact .inl hq
  | put i ob =>
    simp only [hpU,upd] at hq
    split at hq
    · cases hq; exact .inr rfl
    · exact .inl hq
  | new i ob =>
    simp only [hpU,upd] at hq
    split at hq
    · cases hq; exact .inr rfl
    · exact .inl hq
  | reb i ob =>
    simp only [hpU,upd] at hq
    split at hq
    · cases hq; exact .inr rfl
    · exact .inl hq

theorem aev_reb {d:Nat} {op:IOp} {ρ:IV → AV} {j:Nat} {o':AObj} (hr:aev d op ρ h = some (v,.reb j o')):∃ q,h j = some q ∧ q.isRec = false:=by
  have happ:∀ {t st x src},aApp d t st x src h = some (v,.reb j o') → ∃ q,h j = some q ∧ q.isRec = false:=by
    intro t st x src ha
    unfold aApp at ha
    split at ha
    · cases ha
    · split at ha
      · split at ha
        · cases ha
        · split at ha
          · rename_i ob hob
            split at ha
            · rename_i hc
              cases ha
              exact ⟨ob,hob,hc.2.2.2.1⟩
            · cases ha
          · cases ha
        · cases ha
      · cases ha
  have hres:∀ {y:Option AV},res y ≠ some (v,.reb j o'):=fun hh=>by
    have:=(res_some hh).2
    cases this
  cases op <;> simp only [aev] at hr
  case app=>exact happ hr
  case apps=>exact happ hr
  case cpy=>obtain ⟨_,_,q⟩:=aCpy_put hr; cases q
  case cvm=>obtain ⟨_,_,_,_,_,_,_,_,_,_,_,_,q⟩:=aCvm_put hr; cases q
  case mop=>rcases aMop_eff hr with q | ⟨_,q,_⟩ | ⟨_,_,_,_,_,q⟩ <;> cases q
  all_goals
    exfalso
    first
      | exact hres hr
      | (cases hr; done)
      | (simp only [Option.map_eq_some_iff,Prod.mk.injEq] at hr
         obtain ⟨e',h1,_,h2⟩:=hr
         subst h2
         unfold aStore at h1
         repeat' (split at h1)
         all_goals cases h1)
      | (repeat' (split at hr)
         all_goals first | (cases hr; done) | exact hres hr)

structure Meet (x y:HI):Prop where
  a:∀ d ∈ y.tch,d ∉ x.op ∧ d ∉ x.tch
  b:∀ d ∈ x.tch,d ∉ y.op
  c:x.rb = true → ∀ d ∈ x.tch,d ∉ y.res
  d:y.rb = true → ∀ d ∈ y.tch,d ∉ x.res
  e:¬ (x.rb = true ∧ y.wr = true)
  f:¬ (y.rb = true ∧ x.wr = true)

theorem Meet.of {x y:HI} (hm:meetOk x y = true):Meet x y:=by
  simp only [meetOk,Bool.and_eq_true,List.all_eq_true,Bool.or_eq_true,Bool.not_eq_true',List.contains_eq_mem,decide_eq_false_iff_not] at hm
  obtain ⟨⟨⟨⟨⟨h1,h2⟩,h3⟩,h4⟩,h5⟩,h6⟩:=hm
  refine ⟨h1,h2,fun hr=>?_,fun hr=>?_,fun hr=>?_,fun hr=>?_⟩
  · rcases h3 with h3 | h3
    · rw [h3] at hr; cases hr
    · exact h3
  · rcases h4 with h4 | h4
    · rw [h4] at hr; cases hr
    · exact h4
  · simp [hr.1,hr.2] at h5
  · simp [hr.1,hr.2] at h6

structure Apart (o o':IOper):Prop where
  a:∀ d,o.dst = some d → d ∉ operSlots o' ∧ o'.dst ≠ some d
  b:∀ d,o'.dst = some d → d ∉ operSlots o

theorem mem_oper (k:Nat) (o:IOper) (hk:k ∈ opSlots o.op):k ∈ operSlots o:=by simp [operSlots,hk]
theorem mem_oper_g (k:Nat) (b:Bool) (o:IOper) (hk:o.g = some (k,b)):k ∈ operSlots o:=by simp [operSlots,hk]
def evV (ev:Option (AV × Eff)):AV:=match ev with | some (v,_)=>v | none=>.tup []
def evE (ev:Option (AV × Eff)):Eff:=match ev with | some (_,e)=>e | none=>.no
def gSlots (o:IOper):List Nat:=match o.g with | some (k,_)=>[k] | none=>[]

theorem StepC.state {ev:Option (AV × Eff)} {x:HI} (hs:StepC P o g h ev x g' h'):g' = putF ((evE ev).env g) o.dst (evV ev) ∧ h' = hpU h (evE ev) ∧ x.tch = (evE ev).tch ∧ x.rb = (evE ev).isReb ∧ x.wr = (evE ev).isPut ∧
    (∀ i o',evE ev = .reb i o' → ∀ j q,h j = some q → i ∉ idsO q) ∧ (∀ d,d ∈ idsV (evV ev) ∨ d ∈ (evE ev).ids → d ∈ x.res) ∧ (∀ i o',evE ev = .new i o' → h i = none) ∧ (∀ i o',evE ev = .reb i o' → ∃ q,h i = some q ∧ q.isRec = false):=by
  cases ev with
  | none=>obtain ⟨_,h1,h2,h3,h4,h5⟩:=hs; exact ⟨h1,h2,h3,h4,h5,fun i o' he=>by simp [evE] at he,fun d hd=>by
      rcases hd with hd | hd
      · simp [evV,idsV,idsG,idsC,idsP] at hd
      · simp [evE,Eff.ids] at hd,fun i o' he=>by simp [evE] at he,fun i o' he=>by simp [evE] at he⟩
  | some p =>
    obtain ⟨v,e⟩:=p
    obtain ⟨_,hf⟩:=hs
    refine ⟨hf.hg,by rw [hf.hh]; exact hp_eq e hf.alone,hf.tch,hf.rb,hf.wr,hf.alone,hf.res,hf.fresh,fun i o' he=>?_⟩
    simp only [evE] at he
    subst he
    have hr:=hf.run
    unfold Run at hr
    split at hr
    · rcases hr with hr | ⟨_,_,_,_,hr,_⟩
      · cases hr.1
      · cases hr
    · exact hr.elim
    · exact aev_reb hr

theorem StepC.local {ev:Option (AV × Eff)} {x:HI} (hs:StepC P o g h ev x g' h') (hg:∀ k ∈ gSlots o,g1 k = g k) (hg2:ev.isSome = true → ∀ k ∈ opSlots o.op,g1 k = g k) (hh:ev.isSome = true → ∀ k ∈ opSlots o.op,∀ id ∈ idsV (g k),h1 id = h id) (hc:constOk o.op = true)
    (ha:∀ i o',evE ev = .reb i o' → ∀ j q,h1 j = some q → i ∉ idsO q) (hn:∀ i o',evE ev = .new i o' → h1 i = none):StepC P o g1 h1 ev x (putF ((evE ev).env g1) o.dst (evV ev)) (hpU h1 (evE ev)):=by
  cases ev with
  | none =>
    obtain ⟨⟨k,b,h2,h3⟩,_,_,h4⟩:=hs
    exact ⟨⟨k,b,h2,by rw [hg k (by simp [gSlots,h2])]; exact h3⟩,rfl,rfl,h4⟩
  | some p =>
    obtain ⟨v,e⟩:=p
    obtain ⟨h2,hf⟩:=hs
    refine ⟨fun k b hk=>by rw [hg k (by simp [gSlots,hk])]; exact h2 k b hk,⟨?_,fun k hk=>?_,fun k hk id hid=>?_,ha,hn,hf.res,hf.tch,hf.rb,hf.wr,rfl,(hp_eq e ha).symm⟩⟩
    · exact hf.run.local (hg2 rfl) (hh rfl) hc
    · rw [hg2 rfl k hk]; exact hf.known k hk
    · rw [hg2 rfl k hk] at hid; exact hf.opnd k hk id hid

theorem swap {m i:IOper} {evm evi:Option (AV × Eff)} {y x:HI} (hm:StepC P m g h evm y g1 h1) (hi:StepC P i g1 h1 evi x g2 h2) (hap:Apart m i) (hmt:Meet x y) (hcm:constOk m.op = true) (hci:constOk i.op = true) :
    ∃ g3 h3,StepC P i g h evi x g3 h3 ∧ StepC P m g3 h3 evm y g2 h2:=by
  obtain ⟨gm,hhm,tm,rm,wm,am,resm,fm,bm⟩:=hm.state
  obtain ⟨gi,hhi,ti,ri,wi,ai,resi,fi,bi⟩:=hi.state
  have same:∀ id,id ∉ (evE evm).tch → h1 id = h id:=fun id hid=>by rw [hhm]; exact hpU_out hid
  have gsub:∀ (o:IOper) k,k ∈ gSlots o → k ∈ operSlots o:=fun o k hk=>by
    unfold gSlots at hk
    split at hk
    · rename_i k' b hg; simp at hk; subst hk; exact mem_oper_g k b o hg
    · simp at hk
  have gval:∀ {o:IOper} {g h ev x g' h'},StepC P o g h ev x g' h' → ∀ k ∈ gSlots o,(∃ b,g k = .bool b) ∨ g k = .tup []:=by
    intro o g h ev x g' h' hs k hk
    unfold gSlots at hk
    split at hk
    · rename_i k' b hg
      simp at hk
      subst hk
      cases ev with
      | none=>obtain ⟨⟨k2,b2,h3,h4⟩,_⟩:=hs; rw [hg] at h3; cases h3; exact h4.imp (fun h=>⟨_,h⟩) (fun h=>h)
      | some p=>exact .inl ⟨b,hs.1 k b hg⟩
    · simp at hk
  -- the second looks at what the first leaves alone
  have keep1:∀ k,k ∈ operSlots i → g1 k ≠ .any → g1 k = g k:=fun k hk hna=>by
    rw [gm] at hna ⊢
    have e1:putF ((evE evm).env g) m.dst (evV evm) k = (evE evm).env g k:=putF_ne (fun hdk=>(hap.a k hdk).1 hk)
    rw [e1] at hna ⊢
    cases he:evE evm with
    | reb q ob=>rw [he] at hna; exact purV_ne hna
    | _=>rfl
  have rdg:∀ k ∈ gSlots i,g k = g1 k:=fun k hk=>by
    rcases gval hi k hk with ⟨b,hb⟩ | hb <;> exact (keep1 k (gsub i k hk) (by rw [hb]; simp)).symm
  have rdo:evi.isSome = true → ∀ k ∈ opSlots i.op,g k = g1 k:=fun hs k hk=>by
    obtain ⟨p,rfl⟩:=Option.isSome_iff_exists.1 hs
    exact (keep1 k (mem_oper k i hk) (hi.2.known k hk)).symm
  have rdh:evi.isSome = true → ∀ k ∈ opSlots i.op,∀ id ∈ idsV (g1 k),h id = h1 id:=fun hs k hk id hid=>by
    obtain ⟨p,rfl⟩:=Option.isSome_iff_exists.1 hs
    refine (same id (fun ht=>?_)).symm
    rw [← tm] at ht
    exact (hmt.a id ht).1 (hi.2.opnd k hk id hid)
  have ai':∀ q o',evE evi = .reb q o' → ∀ j p,h j = some p → q ∉ idsO p:=fun q o' he j p hp=>by
    by_cases hj:j ∈ (evE evm).tch
    · cases hem:evE evm with
      | no=>rw [hem] at hj; simp [Eff.tch] at hj
      | put j' ob =>
        exfalso
        refine hmt.e ⟨by rw [ri,he]; rfl,by rw [wm,hem]; rfl⟩
      | new j' ob =>
        rw [hem] at hj
        simp [Eff.tch] at hj
        subst hj
        rw [fm j ob hem] at hp
        cases hp
      | reb j' ob =>
        rw [hem] at hj
        simp [Eff.tch] at hj
        subst hj
        obtain ⟨q',h3,h4⟩:=bm j ob hem
        rw [hp] at h3
        cases h3
        simp [idsO,h4]
    · exact ai q o' he j p (by rw [same j hj]; exact hp)
  have fi':∀ q o',evE evi = .new q o' → h q = none:=fun q o' he=>by
    rw [← same q (fun ht=>by
      rw [← tm] at ht
      exact (hmt.a q ht).2 (by rw [ti,he]; simp [Eff.tch]))]
    exact fi q o' he
  have s1:=hi.local rdg rdo rdh hci ai' fi'
  refine ⟨_,_,s1,?_⟩
  -- the first looks at what the second leaves alone
  have keep2:∀ k,k ∈ operSlots m → ((evE evi).isReb = true → ∀ d ∈ (evE evi).tch,d ∉ idsV (g k)) → putF ((evE evi).env g) i.dst (evV evi) k = g k:=fun k hk hno=>by
    have e1:putF ((evE evi).env g) i.dst (evV evi) k = (evE evi).env g k:=putF_ne (fun hdk=>hap.b k hdk hk)
    rw [e1]
    cases he:evE evi with
    | reb q ob=>exact purV_no (hno (by rw [he]; rfl) q (by rw [he]; simp [Eff.tch]))
    | _=>rfl
  have s2:=hm.local (g1:=putF ((evE evi).env g) i.dst (evV evi)) (h1:=hpU h (evE evi)) (fun k hk=>keep2 k (gsub m k hk) (fun _ d _=>by
      rcases gval hm k hk with ⟨b,hb⟩ | hb <;> rw [hb] <;> simp [idsV,idsG,idsC,idsP])) (fun hs k hk=>by
      obtain ⟨p,rfl⟩:=Option.isSome_iff_exists.1 hs
      exact keep2 k (mem_oper k m hk) (fun _ d hd hid=>hmt.b d (by rw [ti]; exact hd) (hm.2.opnd k hk d hid))) (fun hs k hk id hid=>by
      obtain ⟨p,rfl⟩:=Option.isSome_iff_exists.1 hs
      exact hpU_out (fun ht=>hmt.b id (by rw [ti]; exact ht) (hm.2.opnd k hk id hid))) hcm (fun q o' he j p hp=>by
      rcases hpU_in hp with h3 | h3
      · exact am q o' he j p h3
      · rw [h3]
        intro hq
        exact hmt.d (by rw [rm,he]; rfl) q (by rw [tm,he]; simp [Eff.tch]) (resi q (.inr hq))) (fun q o' he=>by
      rw [hpU_out (fun ht=>(hmt.a q (by rw [tm,he]; simp [Eff.tch])).2 (by rw [ti]; exact ht))]
      exact fm q o' he)
  have eg:putF ((evE evm).env (putF ((evE evi).env g) i.dst (evV evi))) m.dst (evV evm) = g2:=by
    rw [gi,gm,env_put,env_put,env_env (evE evi) (evE evm)]
    rw [pur_no (e:=evE evm) (x:=evV evi) (fun hr d hd hid=>hmt.d (by rw [rm]; exact hr) d (by rw [tm]; exact hd) (resi d (.inl hid)))]
    rw [pur_no (e:=evE evi) (x:=evV evm) (fun hr d hd hid=>hmt.c (by rw [ri]; exact hr) d (by rw [ti]; exact hd) (resm d (.inl hid)))]
    exact putF_comm (fun k hk hk'=>(hap.a k hk').2 hk)
  have eh:hpU (hpU h (evE evi)) (evE evm) = h2:=by
    rw [hhi,hhm]
    exact hpU_comm (fun d hd hd'=>(hmt.a d (by rw [tm]; exact hd')).2 (by rw [ti]; exact hd))
  rw [eg,eh] at s2
  exact s2
end
end Go.Mw
set_option linter.unusedSectionVars false
set_option linter.unusedVariables false
set_option linter.unusedSimpArgs false
namespace Go.Mw

structure Item where
  i:Nat
  bef:List Nat
  o:IOper
  ev:Option (AV × Eff)
  x:HI

def T (P:Program) [Tabs P]:List Item → (Nat → AV) → (Nat → Option AObj) → (Nat → AV) → (Nat → Option AObj) → Prop
  | [],g,h,g',h'=>g' = g ∧ h' = h
  | t :: R,g,h,g',h'=>∃ g1 h1,StepC P t.o g h t.ev t.x g1 h1 ∧ T P R g1 h1 g' h'

section
variable {P:Program} [Tabs P]

theorem front:∀ (A:List Item) (t:Item) (B:List Item) (g:Nat → AV) (h:Nat → Option AObj) (g':Nat → AV) (h':Nat → Option AObj),T P (A ++ t :: B) g h g' h' →
    (∀ m ∈ A,Apart m.o t.o ∧ Meet t.x m.x) → (∀ m ∈ A,constOk m.o.op = true) → constOk t.o.op = true → ∃ g1 h1,StepC P t.o g h t.ev t.x g1 h1 ∧ T P (A ++ B) g1 h1 g' h'
  | [],t,B,g,h,g',h',ht,_,_,_=>ht
  | m :: A,t,B,g,h,g',h',ht,hm,hc,hct=>by
    obtain ⟨g1,h1,s1,ht⟩:=ht
    obtain ⟨g2,h2,s2,ht⟩:=front A t B g1 h1 g' h' ht (fun q hq=>hm q (by simp [hq])) (fun q hq=>hc q (by simp [hq])) hct
    obtain ⟨q1,q2⟩:=hm m (by simp)
    obtain ⟨g3,h3,s3,s4⟩:=swap s1 s2 q1 q2 (hc m (by simp)) hct
    exact ⟨g3,h3,s3,g2,h2,s4,ht⟩

def Held (al:List (Nat × Nat)):List HI → List Item → Prop
  | _,[]=>True
  | hist,t :: R=>t.x.i = t.i ∧ (∀ y ∈ hist,y.i ∈ t.bef ∨ Meet t.x y) ∧ (∀ d,d ∈ idsV (evV t.ev) ∨ d ∈ (evE t.ev).ids → ∀ m,(d,m) ∈ al → m = t.i ∨ m ∈ t.bef) ∧ Held al (t.x :: hist) R

theorem histOk_meet {bef:List Nat} {x:HI} {hist:List HI} (hh:histOk bef x hist = true):∀ y ∈ hist,y.i ∈ bef ∨ Meet x y:=fun y hy=>by
  have:=List.all_eq_true.1 hh y hy
  simp only [Bool.or_eq_true,List.contains_eq_mem,decide_eq_true_eq] at this
  exact this.imp id Meet.of

theorem newOk_spec {al:List (Nat × Nat)} {bef:List Nat} {x:HI} (hh:newOk al bef x = true):∀ d ∈ x.res,∀ m,(d,m) ∈ al → m = x.i ∨ m ∈ bef:=fun d hd m hm=>by
  have:=List.all_eq_true.1 hh (d,m) hm
  simp only [Bool.or_eq_true,List.contains_eq_mem,decide_eq_true_eq,Bool.not_eq_true',decide_eq_false_iff_not,beq_iff_eq] at this
  rcases this with (h1 | h1) | h1
  · exact absurd hd h1
  · exact .inl h1
  · exact .inr h1

theorem put_env (s:St) (d:Option Nat) (x:AV):get (s.put d x).env = putF (get s.env) d x:=by
  funext k
  cases d with
  | none=>rfl
  | some d =>
    simp only [St.put,get,putF,upd,get_del]
    by_cases hk:k = d
    · subst hk; simp
    · simp [hk,Ne.symm hk]
theorem put_heap (s:St) (d:Option Nat) (x:AV):(s.put d x).heap = s.heap:=by cases d <;> rfl

theorem plainOk_spec {o:IOp} {s:St} {e:Eff} (hp:plainOk o s e = true):(∀ k ∈ opSlots o,get s.env k ≠ .any) ∧ ∀ i o',e = .reb i o' → ∀ j q,hget s.heap j = some q → i ∉ idsO q:=by
  simp only [plainOk,Bool.and_eq_true,List.all_eq_true,Bool.or_eq_true,Bool.not_eq_true'] at hp
  refine ⟨fun k hk he=>?_,fun i o' he j q hq=>?_⟩
  · have:=hp.1 k hk
    rw [he] at this
    cases this
  · subst he
    rcases hp.2 with h1 | h1
    · cases h1
    · have hmem:∀ {σ:List (Nat × AObj)},hget σ j = some q → (j,q) ∈ σ:=by
        intro σ
        induction σ with
        | nil=>intro hi; simp [hget] at hi
        | cons p l ih =>
          intro hi
          obtain ⟨k,x⟩:=p
          simp only [hget] at hi
          split at hi
          · rename_i hk; cases hi; subst hk; simp
          · exact List.mem_cons_of_mem _ (ih hi)
      have:=h1 i (by simp [Eff.tch]) (j,q) (hmem hq)
      simpa using this

def Un (al:List (Nat × Nat)) (p:Nat → Prop) (g:Nat → AV) (h:Nat → Option AObj):Prop:=∀ d m,(d,m) ∈ al → p m → h d = none ∧ Unnamed d g h

theorem aev_new {d:Nat} {op:IOp} {ρ:IV → AV} {h:Nat → Option AObj} {v:AV} {i:Nat} {ob:AObj} (hr:aev d op ρ h = some (v,.new i ob)):allocs op = true ∧ i = d:=by
  have happ:∀ {t st x src},aApp d t st x src h = some (v,.new i ob) → i = d:=by
    intro t st x src ha
    unfold aApp at ha
    split at ha
    · cases ha
    · split at ha
      · split at ha
        · cases ha; rfl
        · split at ha
          · split at ha <;> cases ha
          · cases ha
        · cases ha
      · cases ha
  have hres:∀ {y:Option AV},res y ≠ some (v,.new i ob):=fun hh=>by
    have:=(res_some hh).2
    cases this
  cases op <;> simp only [aev] at hr
  case app=>exact ⟨rfl,happ hr⟩
  case apps=>exact ⟨rfl,happ hr⟩
  case new=>cases hr; exact ⟨rfl,rfl⟩
  case box =>
    split at hr
    · split at hr
      · cases hr; exact ⟨rfl,rfl⟩
      · cases hr
    · cases hr
  case bsl =>
    split at hr
    · cases hr; exact ⟨rfl,rfl⟩
    · cases hr
  case cvb =>
    split at hr
    · split at hr
      · cases hr; exact ⟨rfl,rfl⟩
      · cases hr
    · cases hr
  case mks =>
    split at hr
    · split at hr
      · cases hr; exact ⟨rfl,rfl⟩
      · cases hr
    · cases hr
  case mop =>
    rcases aMop_eff hr with q | ⟨_,q,q2⟩ | ⟨_,_,_,_,_,q⟩ <;> cases q
    rcases q2 with rfl | rfl <;> exact ⟨rfl,rfl⟩
  all_goals
    exfalso
    first
      | (obtain ⟨_,_,q⟩:=aCpy_put hr; cases q; done)
      | (obtain ⟨_,_,_,_,_,_,_,_,_,_,_,_,q⟩:=aCvm_put hr; cases q; done)
      | exact hres hr
      | (cases hr; done)
      | (simp only [Option.map_eq_some_iff,Prod.mk.injEq] at hr
         obtain ⟨e',h1,_,h2⟩:=hr
         subst h2
         unfold aStore at h1
         repeat' (split at h1)
         all_goals cases h1)
      | (repeat' (split at hr)
         all_goals first | (cases hr; done) | exact hres hr)

theorem aev_tch {d:Nat} {op:IOp} {g:Nat → AV} {h:Nat → Option AObj} {v:AV} {e:Eff} (hr:aev d op (val g) h = some (v,e)) (hc:constOk op = true):∀ i ∈ e.tch,(∃ ob,e = .new i ob) ∨ ∃ k ∈ opSlots op,i ∈ idsV (g k):=by
  have iv:∀ {x:IV} {i:Nat},ivConst x = true → i ∈ idsV (val g x) → (∀ k ∈ ivSlots x,k ∈ opSlots op) → ∃ k ∈ opSlots op,i ∈ idsV (g k):=by
    intro x i hx hi hs
    cases x with
    | s k=>exact ⟨k,hs k (by simp [ivSlots]),hi⟩
    | c y=>simp [ivConst] at hx; rw [show val g (.c y) = y from rfl,hx] at hi; cases hi
  have happ:∀ {t st src} {x:IV},ivConst x = true → (∀ k ∈ ivSlots x,k ∈ opSlots op) → aApp d t st (val g x) src h = some (v,e) → ∀ i ∈ e.tch,(∃ ob,e = .new i ob) ∨ ∃ k ∈ opSlots op,i ∈ idsV (g k):=by
    intro t st src x hx hs ha i hi
    unfold aApp at ha
    split at ha
    · cases ha
    · split at ha
      · split at ha
        · cases ha; simp [Eff.tch] at hi; subst hi; exact .inl ⟨_,rfl⟩
        · rename_i hv
          split at ha
          · split at ha
            · cases ha
              simp [Eff.tch] at hi
              subst hi
              exact .inr (iv hx (by rw [hv]; simp [idsV_ms]) hs)
            · cases ha
          · cases ha
        · cases ha
      · cases ha
  intro i hi
  cases e with
  | no=>simp [Eff.tch] at hi
  | new j ob=>simp [Eff.tch] at hi; subst hi; exact .inl ⟨_,rfl⟩
  | put j ob =>
    cases op <;> simp only [aev] at hr
    case store n p x =>
      simp only [constOk,Bool.and_eq_true] at hc
      simp only [Option.map_eq_some_iff,Prod.mk.injEq] at hr
      obtain ⟨e',h1,_,h2⟩:=hr
      subst h2
      unfold aStore at h1
      split at h1
      · rename_i id st row off cs hv _
        refine .inr (iv hc.1 ?_ (fun k hk=>by simp only [opSlots,List.mem_append]; exact .inl hk))
        rw [hv]
        repeat' (split at h1)
        all_goals first | (cases h1; done) | skip
        cases h1
        simp [Eff.tch] at hi
        simp [idsV_mp,hi]
      · cases h1
    case cvm x =>
      simp only [constOk] at hc
      obtain ⟨id,st,off,len,ob',q1,_,_,_,_,_,_,q2⟩:=aCvm_put hr
      cases q2
      simp [Eff.tch] at hi
      exact .inr (iv hc (by rw [q1]; simp [idsV_ms,hi]) (fun k hk=>by simp only [opSlots]; exact hk))
    case mop k xs =>
      simp only [constOk,List.all_eq_true] at hc
      rcases aMop_eff hr with q | ⟨_,q,q2⟩ | ⟨id,b,r,o,q1,q⟩ <;> cases q
      simp [Eff.tch] at hi
      subst hi
      cases xs with
      | nil=>cases q1
      | cons x xs =>
        simp only [List.map_cons,List.cons.injEq] at q1
        exact .inr (iv (hc x (by simp)) (by rw [q1.1]; simp [idsV,idsG,idsC,idsP]) (fun k hk=>by simp only [opSlots,List.flatMap_cons,List.mem_append]; exact .inl hk))
    case cpy st x y =>
      simp only [constOk,Bool.and_eq_true] at hc
      unfold aCpy at hr
      split at hr
      · cases hr
      · split at hr
        · rename_i hv
          refine .inr (iv hc.1 ?_ (fun k hk=>by simp only [opSlots,List.mem_append]; exact .inl hk))
          rw [hv]
          repeat' (split at hr)
          all_goals first | (cases hr; done) | skip
          cases hr
          simp [Eff.tch] at hi
          simp [idsV_ms,hi]
        · cases hr
    case app t st x y=>simp only [constOk,Bool.and_eq_true] at hc; exact happ hc.1 (fun k hk=>by simp only [opSlots,List.mem_append]; exact .inl hk) hr i hi
    case apps t x y=>simp only [constOk,Bool.and_eq_true] at hc; exact happ hc.1 (fun k hk=>by simp only [opSlots,List.mem_append]; exact .inl hk) hr i hi
    all_goals
      exfalso
      first
        | exact absurd (res_some hr).2 (by simp)
        | (cases hr; done)
        | (repeat' (split at hr)
           all_goals first | (cases hr; done) | exact absurd (res_some hr).2 (by simp))
  | reb j ob =>
    cases op <;> simp only [aev] at hr
    case app t st x y=>simp only [constOk,Bool.and_eq_true] at hc; exact happ hc.1 (fun k hk=>by simp only [opSlots,List.mem_append]; exact .inl hk) hr i hi
    case apps t x y=>simp only [constOk,Bool.and_eq_true] at hc; exact happ hc.1 (fun k hk=>by simp only [opSlots,List.mem_append]; exact .inl hk) hr i hi
    all_goals
      exfalso
      first
        | (obtain ⟨_,_,q⟩:=aCpy_put hr; cases q; done)
        | (obtain ⟨_,_,_,_,_,_,_,_,_,_,_,_,q⟩:=aCvm_put hr; cases q; done)
        | (rcases aMop_eff hr with q | ⟨_,q,_⟩ | ⟨_,_,_,_,_,q⟩ <;> cases q; done)
        | exact absurd (res_some hr).2 (by simp)
        | (cases hr; done)
        | (simp only [Option.map_eq_some_iff,Prod.mk.injEq] at hr
           obtain ⟨e',h1,_,h2⟩:=hr
           subst h2
           unfold aStore at h1
           repeat' (split at h1)
           all_goals cases h1)
        | (repeat' (split at hr)
           all_goals first | (cases hr; done) | exact absurd (res_some hr).2 (by simp))
end
end Go.Mw
set_option linter.unusedSectionVars false
set_option linter.unusedVariables false
set_option linter.unusedSimpArgs false
namespace Go.Mw

theorem ids_mP {i:Nat} {x:AV} (h:i ∈ idsP x):mP i x = true:=by cases x <;> simp_all [mP,idsP]
theorem ids_mC {i:Nat} {x:AV} (h:i ∈ idsC x):mC i x = true:=by
  cases x with
  | fn f caps =>
    simp only [idsC,List.mem_flatMap] at h
    obtain ⟨y,h1,h2⟩:=h
    simp only [mC,List.any_eq_true]
    exact ⟨y,h1,ids_mP h2⟩
  | _=>simp only [idsC] at h; simpa only [mC] using ids_mP h
theorem ids_mG {i:Nat} {x:AV} (h:i ∈ idsG x):mG i x = true:=by
  cases x with
  | agg cells =>
    simp only [idsG,List.mem_flatMap] at h
    obtain ⟨y,h1,h2⟩:=h
    simp only [mG,List.any_eq_true]
    exact ⟨y,h1,ids_mC h2⟩
  | _=>simp only [idsG] at h; simpa only [mG] using ids_mC h
theorem ids_mV {i:Nat} {x:AV} (h:i ∈ idsV x):mV i x = true:=by
  cases x with
  | tup vs =>
    simp only [idsV,List.mem_flatMap] at h
    obtain ⟨y,h1,h2⟩:=h
    simp only [mV,List.any_eq_true]
    exact ⟨y,h1,ids_mG h2⟩
  | _=>simp only [idsV] at h; simpa only [mV] using ids_mG h

section
variable {P:Program} [Tabs P] {al:List (Nat × Nat)} {g g':Nat → AV} {h h':Nat → Option AObj}

def AlOne (al:List (Nat × Nat)):Prop:=∀ d m m',(d,m) ∈ al → (d,m') ∈ al → m = m'

theorem Un.step {p p':Nat → Prop} {o:IOper} {i:Nat} {bef:List Nat} {ev:Option (AV × Eff)} {x:HI} (hs:StepC P o g h ev x g' h') (hu:Un al p g h) (hc:constOk o.op = true)
    (hnew:∀ d,d ∈ idsV (evV ev) ∨ d ∈ (evE ev).ids → ∀ m,(d,m) ∈ al → m = i ∨ m ∈ bef) (hbef:∀ m ∈ bef,¬ p m) (hal:allocs o.op = true → (o.dst.getD 0,i) ∈ al) (hone:AlOne al)
    (hp:∀ m,p' m → p m ∧ m ≠ i):Un al p' g' h':=by
  intro d m hdm hpm
  obtain ⟨hp1,hp2⟩:=hp m hpm
  obtain ⟨hn,hun⟩:=hu d m hdm hp1
  obtain ⟨gs,hhs,_,_,_,_,_,_,_⟩:=hs.state
  have hno:¬ (d ∈ idsV (evV ev) ∨ d ∈ (evE ev).ids):=fun hd=>by
    rcases hnew d hd m hdm with h1 | h1
    · exact hp2 h1
    · exact hbef m h1 hp1
  have htch:d ∉ (evE ev).tch:=fun ht=>by
    cases ev with
    | none=>simp [evE,Eff.tch] at ht
    | some q =>
      obtain ⟨v,e⟩:=q
      have hr:=hs.2.run
      unfold Run at hr
      split at hr
      · rcases hr with hr | ⟨k,_,_,_,he,_,_,_,_,q,_,hid⟩
        · rw [show evE (some (v,e)) = e from rfl,hr.1] at ht; simp [Eff.tch] at ht
        · rw [show evE (some (v,e)) = e from rfl,he] at ht
          simp [Eff.tch] at ht
          subst ht
          have:=ids_mV hid
          rw [hun.1 q] at this
          cases this
      · exact hr.elim
      · rcases aev_tch hr hc d ht with ⟨ob,he⟩ | ⟨k,hk,hid⟩
        · subst he
          obtain ⟨h1,h2⟩:=aev_new hr
          rw [← h2] at hal
          exact hp2 (hone d m i hdm (hal h1))
        · have:=ids_mV hid
          rw [hun.1 k] at this
          cases this
  refine ⟨by rw [hhs,hpU_out htch]; exact hn,fun k=>?_,fun j q hq hrec r hr y hy=>?_⟩
  · rw [gs]
    have key:mV d ((evE ev).env g k) = false:=by
      cases evE ev with
      | reb q ob =>
        simp only [Eff.env]
        unfold purV
        split
        · rfl
        · exact hun.1 k
      | _=>exact hun.1 k
    cases hd:o.dst with
    | none=>exact key
    | some d' =>
      simp only [putF,upd]
      split
      · cases hv:mV d (evV ev) with
        | false=>rfl
        | true=>exact absurd (.inl (mV_ids hv)) hno
      · exact key
  · rw [hhs] at hq
    rcases hpU_in hq with h1 | h1
    · exact hun.2 j q h1 hrec r hr y hy
    · cases hv:mC d y with
      | false=>rfl
      | true =>
        exfalso
        refine hno (.inr ?_)
        rw [← h1]
        simp only [idsO,hrec,if_true,List.mem_flatMap]
        exact ⟨r,hr,y,hy,mC_ids hv⟩

theorem eff_env (s:St) (e:Eff):get (s.eff e).env = e.env (get s.env):=funext (get_eff s e)
theorem eff_heap (s:St) (e:Eff):hget (s.eff e).heap = e.hp (hget s.heap):=funext (hget_eff s e)

theorem get_refine {s:St} {k:Nat} {t b:Bool} (hv:get s.env k = .bool t) (hb:t = b):get (s.put (some k) (.bool b)).env = get s.env:=by
  rw [put_env]
  funext j
  simp only [putF,upd]
  split
  · rename_i hj; subst hj; rw [hv,hb]
  · rfl

theorem idops_trace (hone:AlOne al):∀ (l:List IDOper) (i:Nat) (hist:List HI) (s:St) (K:St → Prop),idops P al i l hist s K → Un al (fun m=>i ≤ m) (get s.env) (hget s.heap) →
    (∀ (j:Nat) (o:IDOper),l[j]? = some o → (allocs o.o.op = true → (o.o.dst.getD 0,i + j) ∈ al) ∧ (∀ m ∈ o.bef,m < i + j) ∧ constOk o.o.op = true) →
    ∃ (items:List Item) (s':St),K s' ∧ T P items (get s.env) (hget s.heap) (get s'.env) (hget s'.heap) ∧ Held al hist items ∧ items.map Item.i = List.range' i l.length ∧ items.map (fun t=>(⟨t.o,t.bef⟩:IDOper)) = l
  | [],i,hist,s,K,hk,_,_=>⟨[],s,hk,⟨rfl,rfl⟩,trivial,by simp,rfl⟩
  | o :: r,i,hist,s,K,hk,hu,hl=>by
    obtain ⟨hal,hbf,hcon⟩:=hl 0 o (by simp)
    have hl':∀ (j:Nat) (o:IDOper),r[j]? = some o → (allocs o.o.op = true → (o.o.dst.getD 0,i + 1 + j) ∈ al) ∧ (∀ m ∈ o.bef,m < i + 1 + j) ∧ constOk o.o.op = true:=fun j o hj=>by
      have:=hl (j + 1) o (by simpa using hj)
      rwa [show i + (j + 1) = i + 1 + j by omega] at this
    -- one step,then the rest
    have fin:∀ {s1:St} {ev:Option (AV × Eff)} {x:HI},StepC P o.o (get s.env) (hget s.heap) ev x (get s1.env) (hget s1.heap) → x.i = i → (∀ y ∈ hist,y.i ∈ o.bef ∨ Meet x y) →
        (∀ d,d ∈ idsV (evV ev) ∨ d ∈ (evE ev).ids → ∀ m,(d,m) ∈ al → m = i ∨ m ∈ o.bef) → idops P al (i + 1) r (x :: hist) s1 K →
        ∃ (items:List Item) (s':St),K s' ∧ T P items (get s.env) (hget s.heap) (get s'.env) (hget s'.heap) ∧ Held al hist items ∧ items.map Item.i = List.range' i (o :: r).length ∧ items.map (fun t=>(⟨t.o,t.bef⟩:IDOper)) = o :: r:=by
      intro s1 ev x hst hxi hhist hnew hrest
      have hu':Un al (fun m=>i + 1 ≤ m) (get s1.env) (hget s1.heap):=Un.step hst hu hcon hnew (fun m hm hle=>by have:=hbf m hm; omega) (by simpa using hal) hone (fun m hm=>⟨by omega,by omega⟩)
      obtain ⟨items,s',h1,h2,h3,h4,h5⟩:=idops_trace hone r (i + 1) (x :: hist) s1 K hrest hu' hl'
      exact ⟨⟨i,o.bef,o.o,ev,x⟩ :: items,s',h1,⟨_,_,hst,h2⟩,⟨hxi,hhist,hnew,h3⟩,by simp [List.range'_succ,h4],by simp [h5]⟩
    have run:∀ {s2:St},get s2.env = get s.env → s2.heap = s.heap → (∀ k b,o.o.g = some (k,b) → get s.env k = .bool b) → idop P al i o hist s2 (fun hist' s'=>idops P al (i + 1) r hist' s' K) →
        ∃ (items:List Item) (s':St),K s' ∧ T P items (get s.env) (hget s.heap) (get s'.env) (hget s'.heap) ∧ Held al hist items ∧ items.map Item.i = List.range' i (o :: r).length ∧ items.map (fun t=>(⟨t.o,t.bef⟩:IDOper)) = o :: r:=by
      intro s2 he2 hh2 hgd hop
      have hoi:∀ k ∈ opSlots o.o.op,∀ id ∈ idsV (get s.env k),id ∈ opIds o.o.op s2.env:=fun k hk id hid=>by
        simp only [opIds,List.mem_flatMap]
        exact ⟨k,hk,by rw [he2]; exact hid⟩
      unfold idop at hop
      split at hop
      · rename_i f args hopc
        rcases hop with ⟨args',rr,b,h1,h2,h3,h4,h5,h6,h7,h8⟩ | ⟨k,ob,ob',Sb,rr,h1,h2,h3,h4,h5,h6,h7,h8,h9⟩
        rotate_left
        · obtain ⟨p1,p2⟩:=plainOk_spec h7
          rw [he2] at p1
          have hq:∃ q ∈ opSlots o.o.op,k ∈ idsV (get s.env q):=by
            simp only [opIds,List.mem_flatMap] at h6
            obtain ⟨q,q1,q2⟩:=h6
            exact ⟨q,q1,by rw [← he2]; exact q2⟩
          refine fin (s1:=(s2.eff (.put k ob')).put o.o.dst rr) (ev:=some (rr,.put k ob')) ⟨hgd,⟨?_,p1,hoi,(fun _ _ he=>by cases he),(fun _ _ he=>by cases he),fun d hd=>?_,rfl,rfl,rfl,?_,?_⟩⟩ rfl (histOk_meet h8) (fun d hd=>?_) h9
          · unfold Run
            rw [hopc]
            rw [hopc] at hq
            exact .inr ⟨k,ob,ob',Sb,rfl,h4,by rw [← he2]; exact h1,h2,by rw [← hh2]; exact h3,hq⟩
          · have hd':d ∈ idsV rr ∨ d ∈ idsO ob':=hd
            rw [h4,h5] at hd'; simp at hd'
          · rw [put_env,eff_env,he2]
          · rw [put_heap,eff_heap,hh2]
          · have hd':d ∈ idsV rr ∨ d ∈ idsO ob':=hd
            rw [h4,h5] at hd'; simp at hd'
        obtain ⟨p1,_⟩:=plainOk_spec h6
        rw [he2] at p1
        refine fin (s1:=s2.put o.o.dst rr) (ev:=some (rr,.no)) ⟨hgd,⟨?_,p1,hoi,(fun _ _ he=>by cases he),(fun _ _ he=>by cases he),fun d hd=>?_,rfl,rfl,rfl,?_,?_⟩⟩ rfl (histOk_meet h7) (fun d hd=>?_) h8
        · unfold Run
          rw [hopc]
          exact .inl ⟨rfl,h5,args',b,h1,h2,by rw [← he2,← hh2]; exact h3,h4⟩
        · have hd':d ∈ idsV rr ∨ d ∈ ([]:List Nat):=hd
          rw [h5] at hd'; simp at hd'
        · rw [put_env,he2]; rfl
        · rw [put_heap,hh2]; rfl
        · have hd':d ∈ idsV rr ∨ d ∈ ([]:List Nat):=hd
          rw [h5] at hd'; simp at hd'
      · exact hop.elim
      · rename_i n1 n2
        split at hop
        case h_2=>exact hop.elim
        rename_i v e hev
        obtain ⟨h6,h7,h8,h9⟩:=hop
        obtain ⟨p1,p2⟩:=plainOk_spec h6
        rw [he2] at p1 hev
        rw [hh2] at p2 hev
        refine fin (s1:=(s2.eff e).put o.o.dst v) (ev:=some (v,e)) ⟨hgd,⟨?_,p1,hoi,p2,fun j ob he=>?_,fun d hd=>?_,rfl,rfl,rfl,?_,?_⟩⟩ rfl (histOk_meet h7) (fun d hd m hm=>?_) h9
        · unfold Run
          split
          · rename_i f args hopc; exact (n1 f args hopc).elim
          · rename_i f args hopc; exact (n2 f args hopc).elim
          · exact hev
        · subst he
          obtain ⟨q1,q2⟩:=aev_new hev
          subst q2
          exact (hu _ i (by simpa using hal q1) (Nat.le_refl i)).1
        · exact List.mem_append.2 hd
        · rw [put_env,eff_env,he2]
        · rw [put_heap,eff_heap,hh2]
        · exact newOk_spec h8 d (List.mem_append.2 hd) m hm
    unfold idops at hk
    split at hk
    · rename_i hg
      exact run rfl rfl (fun k b hkb=>by rw [hg] at hkb; cases hkb) hk
    · rename_i k b hg
      split at hk
      case h_3=>exact hk.elim
      case h_2 =>
        rename_i hv
        refine fin (s1:=s.put o.o.dst (.tup [])) (ev:=none) (x:=⟨i,[],[],[],false,false⟩) ⟨⟨k,b,hg,.inr hv⟩,?_,by rw [put_heap],rfl,rfl,rfl⟩ rfl (fun y _=>.inr ⟨?_,?_,?_,?_,?_,?_⟩) ?_ hk
        · rw [put_env]
        · intro d _; exact ⟨by simp,by simp⟩
        · intro d hd; cases hd
        · intro hr; cases hr
        · intro _ d hd hd2; cases hd2
        · rintro ⟨hr,_⟩; cases hr
        · rintro ⟨_,hr⟩; cases hr
        · intro d hd
          rcases hd with hd | hd
          · simp [evV,idsV] at hd
          · simp [evE,Eff.ids] at hd
      rename_i t hv
      by_cases htb:t = b
      · exact run (get_refine hv htb) (put_heap _ _ _) (fun k' b' hkb=>by rw [hg] at hkb; cases hkb; rw [hv,htb]) (hk.1 htb)
      · have htb':t = !b:=by cases t <;> cases b <;> simp_all
        refine fin (s1:=(s.put (some k) (.bool (!b))).put o.o.dst (.tup [])) (ev:=none) (x:=⟨i,[],[],[],false,false⟩) ⟨⟨k,b,hg,.inl (by rw [hv,htb'])⟩,?_,by rw [put_heap,put_heap],rfl,rfl,rfl⟩ rfl (fun y _=>.inr ⟨?_,?_,?_,?_,?_,?_⟩) ?_ (hk.2 htb')
        · rw [put_env,get_refine hv htb']
        · intro d _; exact ⟨by simp,by simp⟩
        · intro d hd; cases hd
        · intro hr; cases hr
        · intro _ d hd hd2; cases hd2
        · rintro ⟨hr,_⟩; cases hr
        · rintro ⟨_,hr⟩; cases hr
        · intro d hd
          rcases hd with hd | hd
          · simp [evV,idsV,idsG,idsC,idsP] at hd
          · simp [evE,Eff.ids] at hd
end
end Go.Mw
set_option linter.unusedSectionVars false
set_option linter.unusedVariables false
set_option linter.unusedSimpArgs false
namespace Go.Mw

section
variable {P:Program} [Tabs P] {c:Ctx} [CT c P] {a:Act} {w:World} {o:Oper} {io:IOper} {ops:Array Oper} {n:Nat}

theorem step_sound {g g':Nat → AV} {h h':Nat → Option AObj} {ev:Option (AV × Eff)} {x:HI} {bl:Nat → Option Nat} (hc:cOper P n ops o = some io) (hn:c.n = n) (hst:StepC P io g h ev x g' h') (hs:SatB c bl g h a w)
    (hnew:allocs io.op = true → h (io.dst.getD 0) = none ∧ Unnamed (io.dst.getD 0) g h ∧ (io.dst.getD 0 < 1000 ∨ 2000 ≤ io.dst.getD 0)) {K:Act → World → Prop} {Q:Exit → Act → World → Prop}
    (hK:∀ a' w' bl',SatB c bl' g' h' a' w' → K a' w'):if Region.wanted o (yielded ops a.tmps) then o.wp P a w K Q ∨ (o.asks P a w ∧ LetsOut Q) else K (a.put o.dst undef) w:=by
  obtain ⟨h1,h2,h3,h4⟩:=cOper_spec hc
  have hd:∀ k,io.dst = some k → k < c.n:=fun k hk=>by rw [hn]; exact h3 k (h2 ▸ hk)
  have putB:∀ {bl:Nat → Option Nat} {g:Nat → AV} {h:Nat → Option AObj} {w:World} {v:Value} {y:AV},SatB c bl g h a w → VRel bl (Mut bl c.MF h) w v y → SatB c bl (putF g io.dst y) h (a.put o.dst v) w:=fun {bl g h w v y} hsb hv=>by
    rw [← h2]
    cases hdd:io.dst with
    | none=>exact hsb
    | some d=>exact hsb.put (hd d hdd) hv
  have hwant:∀ k b t,io.g = some (k,b) → g k = .bool t → Region.wanted o (yielded ops a.tmps) = (t == b):=fun k b t hg hv=>by
    rcases h4 with ⟨_,g2⟩ | ⟨j,b',k',g1,g2,g3⟩
    · rw [g2] at hg; cases hg
    · rw [g3] at hg
      cases hg
      have hk:=hs.env k
      rw [hv] at hk
      have hkv:=hk.bool
      rw [(tv_lo' (a:=a) (k:=k) (fun b hb=>by rw [hb] at hkv; cases hkv)).2] at hkv
      have hkn:k < a.tmps.size:=by
        rcases Nat.lt_or_ge k a.tmps.size with hlt | hge
        · exact hlt
        · rw [Array.getD_eq_getD_getElem?,Array.getElem?_eq_none hge] at hkv
          cases hkv
      have hy:yielded ops a.tmps j = some t:=by
        have:a.tmps[k]? = some (.bool t):=by
          rw [Array.getD_eq_getD_getElem?,Array.getElem?_eq_getElem hkn] at hkv
          rw [Array.getElem?_eq_getElem hkn]
          simpa using hkv
        simp [yielded,g2,this]
      simp only [Region.wanted,g1,hy]
      cases t <;> cases b <;> rfl
  cases ev with
  | none =>
    obtain ⟨⟨k,b,hg,hv⟩,rfl,rfl,_⟩:=hst
    have hnw:¬ Region.wanted o (yielded ops a.tmps) = true:=by
      rcases hv with hv | hv
      · rw [hwant k b _ hg hv]; cases b <;> simp
      · rcases h4 with ⟨_,g2⟩ | ⟨j,b',k',g1,g2,g3⟩
        · rw [g2] at hg; cases hg
        · rw [g3] at hg
          cases hg
          have hk:=hs.env k
          rw [hv] at hk
          simp [Region.wanted,g1,yielded_undef (ops:=ops) g2 hk]
    rw [if_neg hnw]
    exact hK _ _ _ (putB hs (y:=.tup []) ⟨[],rfl,trivial⟩)
  | some p =>
    obtain ⟨v,e⟩:=p
    obtain ⟨hgd,hf⟩:=hst
    have hw:Region.wanted o (yielded ops a.tmps) = true:=by
      rcases h4 with ⟨g1,_⟩ | ⟨j,b',k',g1,g2,g3⟩
      · simp [Region.wanted,g1]
      · rw [hwant k' b' b' g3 (hgd k' b' g3)]; simp
    rw [if_pos hw]
    refine .inl ?_
    have hr:=hf.run
    unfold Run at hr
    split at hr
    · rename_i f args hop
      rw [hop] at h1
      obtain ⟨cl,hoo,hcl,hb,hv⟩:=cOp_call h1
      rcases hr with ⟨rfl,_,args',b,q1,q2,q3,q4⟩ | ⟨k,ob,ob',Sb,rfl,q1,q2,q3,q4,_⟩
      rotate_left
      · refine upon_calls (f:=f) (args:=cl.args.map a.eval) ?_ ?_
        · have:=hasBody_run (w:=w) hb (cl.args.map a.eval)
          simp [execOp,hoo,resolve,hcl,Act.eval,Deferred.ofValue,invoke,this]
        · have hσ:∀ id o,hget [(k,ob)] id = some o → h id = some o:=fun id o hi=>by
            simp only [hget] at hi
            split at hi
            · rename_i hki; subst hki; cases hi; exact q4
            · cases hi
          have:=obj_call hs q2 (call_args hs hv) hσ [] (fun r σ' hP id hid=>by
            obtain ⟨rfl,rfl⟩:=hP
            simp only [hget] at hid
            split at hid
            · rename_i hki; subst hki; exact .inl ⟨q3,by simp [hget]⟩
            · cases hid)
          simp only [Array.toArray_toList] at this
          refine this.mono fun e' w' ⟨u,r,σ',bl2,he,hP,hs',hv'⟩=>⟨u,he,?_⟩
          obtain ⟨rfl,rfl⟩:=hP
          have eg:(fun j=>purLV [] (g j)) = g:=by funext j; simp [purLV]
          have eh:mrg [] (hget [(k,ob)]) (hget [(k,ob')]) h = (Eff.put k ob').hp h:=by
            funext j
            simp only [mrg,hget,Eff.hp,upd]
            by_cases hj:k = j
            · subst hj; simp
            · have hj':¬ j = k:=fun e=>hj e.symm
              have:purLO [] = id:=by funext o; unfold purLO purLC; simp
              simp [hj,hj',this]
          rw [eg,eh] at hs'
          rw [eh] at hv'
          refine hK _ _ bl2 ?_
          rw [hf.hg,hf.hh]
          exact putB hs' hv'
      refine upon_calls (f:=f) (args:=cl.args.map a.eval) ?_ ?_
      · have:=hasBody_run (w:=w) hb (cl.args.map a.eval)
        simp [execOp,hoo,resolve,hcl,Act.eval,Deferred.ofValue,invoke,this]
      · have:=pure_call hs q1 (call_args hs hv) q2 b q3 q4
        simp only [Array.toArray_toList] at this
        refine this.mono fun e' w' ⟨u,he,hs',hv'⟩=>⟨u,he,?_⟩
        refine hK _ _ bl ?_
        rw [hf.hg,hf.hh]
        exact putB hs' hv'
    · exact hr.elim
    · refine upon_ok (aev_ok hs h1 hr hnew) (fun r w' bl' q1 q2=>hK _ _ bl' ?_)
      rw [hf.hg,hf.hh]
      exact putB q1 q2

theorem ready_iff {listed:Array Bool} {i:Nat}:i ∈ Region.ready .any ops listed ↔ i < ops.size ∧ listed.getD i true = false ∧ ∃ o,ops[i]? = some o ∧ ∀ d ∈ edges o,listed.getD d false = true:=by
  unfold Region.ready
  simp only [List.mem_filter,List.mem_range,Bool.and_eq_true,Bool.not_eq_true']
  refine ⟨fun ⟨h1,h2,h3⟩=>⟨h1,h2,ops[i],Array.getElem?_eq_getElem h1,?_⟩,fun ⟨h1,h2,o,h3,h4⟩=>⟨h1,h2,?_⟩⟩
  · rw [Array.getElem?_eq_getElem h1] at h3
    simp only [Option.map_some,Option.getD_some,Array.all_eq_true_iff_forall_mem,Bool.or_eq_true,Bool.not_eq_true'] at h3
    intro d hd
    simp only [edges,List.mem_map,List.mem_filter,Array.mem_toList_iff] at hd
    obtain ⟨e,⟨he1,he2⟩,rfl⟩:=hd
    rcases h3 e he1 with h5 | h5
    · rw [he2] at h5; cases h5
    · exact h5
  · rw [h3]
    simp only [Option.map_some,Option.getD_some,Array.all_eq_true_iff_forall_mem,Bool.or_eq_true,Bool.not_eq_true']
    intro e he
    cases hb:Region.binds .any e with
    | false=>exact .inl rfl
    | true =>
      refine .inr (h4 e.on ?_)
      simp only [edges,List.mem_map,List.mem_filter,Array.mem_toList_iff]
      exact ⟨e,⟨he,hb⟩,rfl⟩

structure OrdSpec (ops:Array Oper) (bs:List (List Nat)):Prop where
  lt:∀ i o,ops[i]? = some o → ∀ d ∈ edges o,d < i
  via:∀ i o,ops[i]? = some o → ∀ d ∈ bs.getD i [],d ∈ edges o ∨ ∃ m ∈ edges o,d ∈ bs.getD m []

theorem ordOk_spec {bs:List (List Nat)} (h:ordOk ops.toList bs = true):OrdSpec ops bs:=by
  have key:∀ i o,ops[i]? = some o → (∀ d ∈ edges o,d < i) ∧ ∀ d ∈ bs.getD i [],d ∈ edges o ∨ ∃ m ∈ edges o,d ∈ bs.getD m []:=fun i o hi=>by
    have hlt:i < ops.toList.length:=by
      have:=(Array.getElem?_eq_some_iff.1 hi).1
      simpa using this
    have:=List.all_eq_true.1 h i (List.mem_range.2 hlt)
    have hi':ops.toList[i]? = some o:=by rw [Array.getElem?_toList]; exact hi
    simp only [hi',Bool.and_eq_true,List.all_eq_true,decide_eq_true_eq,Bool.or_eq_true,List.any_eq_true,List.contains_eq_mem] at this
    exact this
  exact ⟨fun i o hi=>(key i o hi).1,fun i o hi=>(key i o hi).2⟩

theorem OrdSpec.bef_lt {bs:List (List Nat)} (hO:OrdSpec ops bs):∀ (i:Nat) (o:Oper),ops[i]? = some o → ∀ d ∈ bs.getD i [],d < i:=by
  intro i
  induction i using Nat.strongRecOn with
  | _ i ih =>
    intro o hi d hd
    rcases hO.via i o hi d hd with h1 | ⟨m,h1,h2⟩
    · exact hO.lt i o hi d h1
    · have hm:=hO.lt i o hi m h1
      have hms:m < ops.size:=Nat.lt_trans hm (Array.getElem?_eq_some_iff.1 hi).1
      have:=ih m hm ops[m] (Array.getElem?_eq_getElem hms) d h2
      omega

theorem OrdSpec.listed {bs:List (List Nat)} (hO:OrdSpec ops bs) {p:Nat → Prop} (hdc:∀ i o,p i → ops[i]? = some o → ∀ d ∈ edges o,p d):∀ (i:Nat) (o:Oper),ops[i]? = some o → (∀ d ∈ edges o,p d) → ∀ d ∈ bs.getD i [],p d:=by
  intro i
  induction i using Nat.strongRecOn with
  | _ i ih =>
    intro o hi he d hd
    rcases hO.via i o hi d hd with h1 | ⟨m,h1,h2⟩
    · exact he d h1
    · have hm:=hO.lt i o hi m h1
      have hms:m < ops.size:=Nat.lt_trans hm (Array.getElem?_eq_some_iff.1 hi).1
      exact ih m hm ops[m] (Array.getElem?_eq_getElem hms) (hdc m _ (he m h1) (Array.getElem?_eq_getElem hms)) d h2

theorem any_sound (hn:c.n = n) {al:List (Nat × Nat)} (hone:AlOne al) (hal:∀ d m,(d,m) ∈ al → d < 1000) {bs:List (List Nat)} (hO:OrdSpec ops bs) {gf:Nat → AV} {hf:Nat → Option AObj} {Q:Exit → Act → World → Prop} (off fuel0:Nat) (Z:Nat → Prop)
    (hQ:∀ (listed:Array Bool) a w bl,listed.size = ops.size → (∀ j,j < ops.size → (listed.getD j true = false ↔ Z j)) → SatB c bl gf hf a w → wpAny P .any ops Q fuel0 listed a w):∀ (fuel:Nat) (R:List Item) (listed:Array Bool) (g:Nat → AV) (h:Nat → Option AObj) (a:Act) (w:World) (bl:Nat → Option Nat),R.length = fuel → listed.size = ops.size →
      SatB c bl g h a w → T P R g h gf hf → Un al (fun m=>∃ t ∈ R,t.i = m) g h →
      (∀ j,j < ops.size → (listed.getD j true = false ↔ (∃ t ∈ R,off + t.i = j) ∨ Z j)) →
      (∀ j,Z j → ∀ t ∈ R,off + t.i ∈ bs.getD j []) →
      (∀ i o,listed.getD i false = true → ops[i]? = some o → ∀ d ∈ edges o,listed.getD d false = true) →
      (∀ t ∈ R,∃ o,ops[off + t.i]? = some o ∧ cOper P n ops o = some t.o ∧ (∀ d ∈ t.bef,off + d ∈ bs.getD (off + t.i) []) ∧ constOk t.o.op = true ∧ (allocs t.o.op = true → (t.o.dst.getD 0,t.i) ∈ al) ∧
        (∀ d,d ∈ idsV (evV t.ev) ∨ d ∈ (evE t.ev).ids → ∀ m,(d,m) ∈ al → m = t.i ∨ m ∈ t.bef)) →
      R.Pairwise (fun m t=>m.i < t.i ∧ (m.i ∈ t.bef ∨ (Apart m.o t.o ∧ Meet t.x m.x))) → wpAny P .any ops Q (fuel + fuel0) listed a w:=by
  intro fuel
  induction fuel with
  | zero =>
    intro R listed g h a w bl hlen hsz hs ht hu hli hbk hdc hit hpw
    have hR:R = []:=List.length_eq_zero_iff.1 hlen
    subst hR
    obtain ⟨rfl,rfl⟩:=ht
    rw [Nat.zero_add]
    refine hQ listed a w bl hsz (fun j hj=>?_) hs
    rw [hli j hj]
    refine ⟨fun hh=>?_,.inr⟩
    rcases hh with ⟨t,ht,_⟩ | hh
    · cases ht
    · exact hh
  | succ fuel ih =>
    intro R listed g h a w bl hlen hsz hs ht hu hli hbk hdc hit hpw
    have hgetD:∀ j,j < ops.size → listed.getD j true = listed.getD j false:=fun j hj=>by
      have:j < listed.size:=by omega
      simp [Array.getD_eq_getD_getElem?,Array.getElem?_eq_getElem this]
    rw [Nat.add_right_comm]
    refine ⟨fun hr=>?_,fun i hi=>?_⟩
    · -- the first that is left may come up
      exfalso
      cases R with
      | nil=>simp at hlen
      | cons t R =>
        obtain ⟨o,h1,_⟩:=hit t (by simp)
        have hlt:=(Array.getElem?_eq_some_iff.1 h1).1
        have:off + t.i ∈ Region.ready .any ops listed:=ready_iff.2 ⟨hlt,(hli (off + t.i) hlt).2 (.inl ⟨t,by simp,rfl⟩),o,h1,fun d hd=>by
          have hdl:=hO.lt (off + t.i) o h1 d hd
          have hds:d < ops.size:=by omega
          cases hv:listed.getD d false with
          | true=>rfl
          | false =>
            rw [← hgetD d hds] at hv
            rcases (hli d hds).1 hv with ⟨q,hq,hqi⟩ | hz
            · rcases List.mem_cons.1 hq with rfl | hq
              · omega
              · have:=((List.pairwise_cons.1 hpw).1 q hq).1
                omega
            · have h5:=hbk d hz t (by simp)
              have h6:=hO.bef_lt d ops[d] (Array.getElem?_eq_getElem hds) _ h5
              omega⟩
        rw [hr] at this
        cases this
    · obtain ⟨h1,h2,o,h3,h4⟩:=ready_iff.1 hi
      have hbefs:∀ d ∈ bs.getD i [],listed.getD d false = true:=hO.listed hdc i o h3 h4
      have hiR:∃ t ∈ R,off + t.i = i:=by
        rcases (hli i h1).1 h2 with hh | hz
        · exact hh
        · exfalso
          cases R with
          | nil=>simp at hlen
          | cons t R =>
            have h5:=hbefs _ (hbk i hz t (by simp))
            obtain ⟨ot,hot,_⟩:=hit t (by simp)
            have hl:=(Array.getElem?_eq_some_iff.1 hot).1
            have h6:=(hli (off + t.i) hl).2 (.inl ⟨t,by simp,rfl⟩)
            rw [hgetD _ hl,h5] at h6
            cases h6
      obtain ⟨t,htR,hti⟩:=hiR
      subst hti
      obtain ⟨A,B,rfl⟩:=List.append_of_mem htR
      obtain ⟨o',q1,q2,q3,q4,q5,q6⟩:=hit t (by simp)
      rw [h3] at q1
      cases q1
      have hbef:∀ d ∈ t.bef,listed.getD (off + d) false = true:=fun d hd=>hbefs _ (q3 d hd)
      have hpA:∀ m ∈ A,m.i < t.i ∧ (m.i ∈ t.bef ∨ (Apart m.o t.o ∧ Meet t.x m.x)):=fun m hm=>(List.pairwise_append.1 hpw).2.2 m hm t (by simp)
      have hun:∀ m ∈ A ++ B,m.i ≠ t.i:=fun m hm=>by
        rcases List.mem_append.1 hm with hm | hm
        · have:=(hpA m hm).1; omega
        · have:=((List.pairwise_cons.1 (List.pairwise_append.1 hpw).2.1).1 m hm).1; omega
      have hnot:∀ m ∈ A ++ t :: B,listed.getD (off + m.i) false = false:=fun m hm=>by
        obtain ⟨om,hom,_⟩:=hit m hm
        have hl:=(Array.getElem?_eq_some_iff.1 hom).1
        rw [← hgetD (off + m.i) hl]
        exact (hli (off + m.i) hl).2 (.inl ⟨m,hm,rfl⟩)
      obtain ⟨g1,hh1,hst,hT⟩:=front A t B g h gf hf ht (fun m hm=>by
        rcases (hpA m hm).2 with hb | hb
        · have:=hbef m.i hb
          rw [hnot m (by simp [hm])] at this
          cases this
        · exact hb) (fun m hm=>by obtain ⟨_,_,_,_,q,_⟩:=hit m (by simp [hm]); exact q) q4
      unfold wpOp
      rw [h3]
      simp only
      have hu':Un al (fun m=>∃ q ∈ A ++ B,q.i = m) g1 hh1:=Un.step hst hu q4 q6 (fun m hm ⟨q,hq,hqi⟩=>by
        have:=hbef m hm
        rw [← hqi,hnot q (by
          rcases List.mem_append.1 hq with hq | hq
          · simp [hq]
          · simp [hq])] at this
        cases this) q5 hone (fun m ⟨q,hq,hqi⟩=>⟨⟨q,by
          rcases List.mem_append.1 hq with hq | hq
          · simp [hq]
          · simp [hq],hqi⟩,by rw [← hqi]; exact hun q hq⟩)
      refine step_sound q2 hn hst hs (fun ha=>?_) (fun a' w' bl' hs'=>?_)
      · obtain ⟨u1,u2⟩:=hu _ t.i (q5 ha) ⟨t,by simp,rfl⟩
        exact ⟨u1,u2,.inl (hal _ _ (q5 ha))⟩
      · refine ih (A ++ B) (listed.setIfInBounds (off + t.i) true) g1 hh1 a' w' bl' (by simp at hlen ⊢; omega) (by simpa using hsz) hs' hT hu' (fun j hj=>?_) (fun j hz m hm=>hbk j hz m ?_) (fun j oj hj hoj d hd=>?_) (fun m hm=>?_) ?_
        · have hset:(listed.setIfInBounds (off + t.i) true).getD j true = if off + t.i = j then true else listed.getD j true:=by
            simp only [Array.getD_eq_getD_getElem?,Array.getElem?_setIfInBounds]
            split
            · rename_i e; subst e; simp [hsz,h1]
            · rfl
          rw [hset]
          constructor
          · intro hv
            split at hv
            · cases hv
            · rename_i hne
              rcases (hli j hj).1 hv with ⟨q,hq,hqi⟩ | hz
              · refine .inl ⟨q,?_,hqi⟩
                rcases List.mem_append.1 hq with hq | hq
                · simp [hq]
                · rcases List.mem_cons.1 hq with rfl | hq
                  · exact absurd hqi hne
                  · simp [hq]
              · exact .inr hz
          · rintro (⟨q,hq,hqi⟩ | hz)
            · rw [if_neg (fun e=>hun q hq (by omega))]
              refine (hli j hj).2 (.inl ⟨q,?_,hqi⟩)
              rcases List.mem_append.1 hq with hq | hq
              · simp [hq]
              · simp [hq]
            · rw [if_neg (fun e=>by
                subst e
                have h5:=hbk _ hz t (by simp)
                have h6:=hO.bef_lt _ _ h3 _ h5
                omega)]
              exact (hli j hj).2 (.inr hz)
        · rcases List.mem_append.1 hm with hm | hm
          · simp [hm]
          · simp [hm]
        · have hset:∀ k,(listed.setIfInBounds (off + t.i) true).getD k false = if off + t.i = k then true else listed.getD k false:=fun k=>by
            simp only [Array.getD_eq_getD_getElem?,Array.getElem?_setIfInBounds]
            split
            · rename_i e; subst e; simp [hsz,h1]
            · rfl
          rw [hset] at hj ⊢
          split
          · rfl
          · split at hj
            · rename_i e
              subst e
              rw [h3] at hoj
              cases hoj
              exact h4 d hd
            · exact hdc j oj hj hoj d hd
        · refine hit m ?_
          rcases List.mem_append.1 hm with hm | hm
          · simp [hm]
          · simp [hm]
        · have hsub:(A ++ B).Sublist (A ++ t :: B):=List.Sublist.append_left (List.sublist_cons_self t B) A
          exact hpw.sublist hsub
end
end Go.Mw
set_option linter.unusedSectionVars false
set_option linter.unusedVariables false
set_option linter.unusedSimpArgs false
namespace Go.Mw

def LQ (c:Ctx) (K:IX → St → Prop):Exit → Act → World → Prop
  | .normal,a,w=>∃ s,K .nrm s ∧ SatS c s a w
  | .ret,a,w=>∃ s,K .ret s ∧ SatS c s a w
  | .exit id,a,w=>∃ s,K (.ext id) s ∧ SatS c s a w
  | _,_,_=>False

section
variable {P:Program} [Tabs P] {c:Ctx} [CT c P] {n:Nat}

theorem least {p:Nat → Prop} (h:∃ n,p n):∃ n,p n ∧ ∀ m,m < n → ¬ p m:=by
  obtain ⟨n,hn⟩:=h
  induction n using Nat.strongRecOn with
  | _ n ih =>
    by_cases hm:∃ m,m < n ∧ p m
    · obtain ⟨m,h1,h2⟩:=hm
      exact ih m h1 h2
    · exact ⟨n,hn,fun m h1 h2=>hm ⟨m,h1,h2⟩⟩

open Classical in
theorem wp_loop_n {x:Code} {Q:Exit → Act → World → Prop} {a:Act} {w:World} (I:Nat → Act → World → Prop) (h0:∃ n,I n a w)
    (round:∀ n a w,I n a w → x.wp P (Exit.then (fun a' w'=>∃ m,m < n ∧ I m a' w') Q) a w):(Code.loop x).wp P Q a w:=by
  refine wp_loop (fun a w=>∃ n,I n a w) (fun a w=>if h:∃ n,I n a w then Classical.choose (least h) else 0) h0 (fun a w hI=>?_)
  have hc:=Classical.choose_spec (least hI)
  refine Code.wp_mono (fun e a' w' hq=>?_) (round _ a w hc.1)
  cases e <;> try exact hq
  obtain ⟨m,hm,hI'⟩:=hq
  refine ⟨⟨m,hI'⟩,?_⟩
  rw [dif_pos ⟨m,hI'⟩,dif_pos hI]
  have hc':=Classical.choose_spec (least (p:=fun n=>I n a' w') ⟨m,hI'⟩)
  rcases Nat.lt_or_ge m (Classical.choose (least (p:=fun n=>I n a' w') ⟨m,hI'⟩)) with h1 | h1
  · exact absurd hI' (hc'.2 m h1)
  · omega

theorem cOps_get {ops:Array Oper}:∀ {l:List Oper} {il:List IOper},cOps P n ops l = some il → il.length = l.length ∧ ∀ (j:Nat) (io:IOper),il[j]? = some io → ∃ o,l[j]? = some o ∧ cOper P n ops o = some io
  | [],il,h=>by simp only [cOps,Option.some.injEq] at h; subst h; simp
  | o :: r,il,h=>by
    simp only [cOps] at h
    split at h
    case h_2=>cases h
    rename_i x xs h1 h2
    cases h
    obtain ⟨h3,h4⟩:=cOps_get h2
    refine ⟨by simp [h3],fun j io hj=>?_⟩
    cases j with
    | zero=>simp at hj; subst hj; exact ⟨o,by simp,h1⟩
    | succ j=>simp at hj; obtain ⟨o',h5,h6⟩:=h4 j io hj; exact ⟨o',by simpa using h5,h6⟩

theorem alPairs_mem:∀ (l:List IOper) (i:Nat) (d m:Nat),(d,m) ∈ alPairs i l ↔ ∃ j o,l[j]? = some o ∧ allocs o.op = true ∧ d = o.dst.getD 0 ∧ m = i + j
  | [],i,d,m=>by simp [alPairs]
  | o :: r,i,d,m=>by
    have ih:=alPairs_mem r (i + 1) d m
    have key:(∃ j o',(o :: r)[j]? = some o' ∧ allocs o'.op = true ∧ d = o'.dst.getD 0 ∧ m = i + j) ↔ (allocs o.op = true ∧ d = o.dst.getD 0 ∧ m = i) ∨ ∃ j o',r[j]? = some o' ∧ allocs o'.op = true ∧ d = o'.dst.getD 0 ∧ m = i + 1 + j:=by
      constructor
      · rintro ⟨j,o',h1,h2,h3,h4⟩
        cases j with
        | zero=>simp at h1; subst h1; exact .inl ⟨h2,h3,by omega⟩
        | succ j=>exact .inr ⟨j,o',by simpa using h1,h2,h3,by omega⟩
      · rintro (⟨h2,h3,h4⟩ | ⟨j,o',h1,h2,h3,h4⟩)
        · exact ⟨0,o,by simp,h2,h3,by omega⟩
        · exact ⟨j + 1,o',by simpa using h1,h2,h3,by omega⟩
    rw [key,← ih]
    by_cases ha:allocs o.op = true
    · rw [show alPairs i (o :: r) = (o.dst.getD 0,i) :: alPairs (i + 1) r from by simp [alPairs,ha]]
      simp [ha]
    · rw [show alPairs i (o :: r) = alPairs (i + 1) r from by simp [alPairs,ha]]
      simp [ha]

theorem nodupB_spec:∀ {l:List Nat},nodupB l = true → l.Nodup
  | [],_=>by simp
  | x :: r,h=>by
    simp only [nodupB,Bool.and_eq_true,Bool.not_eq_true',List.contains_eq_mem,decide_eq_false_iff_not] at h
    exact List.nodup_cons.2 ⟨h.1,nodupB_spec h.2⟩

theorem alOne_of {al:List (Nat × Nat)} (h:(al.map (·.1)).Nodup):AlOne al:=by
  induction al with
  | nil=>intro d m m' h1; cases h1
  | cons p r ih =>
    simp only [List.map_cons,List.nodup_cons] at h
    intro d m m' h1 h2
    rcases List.mem_cons.1 h1 with e1 | h1 <;> rcases List.mem_cons.1 h2 with e2 | h2
    · rw [← e1] at e2; cases e2; rfl
    · exact absurd (List.mem_map.2 ⟨(d,m'),h2,by rw [← e1]⟩) h.1
    · exact absurd (List.mem_map.2 ⟨(d,m),h1,by rw [← e2]⟩) h.1
    · exact ih h.2 d m m' h1 h2

theorem kills_unnamed:∀ (l:List Nat) (s:St) (d:Nat),(hget s.heap d = none ∧ Unnamed d (get s.env) (hget s.heap)) ∨ d ∈ l → hget (kills l s).heap d = none ∧ Unnamed d (get (kills l s).env) (hget (kills l s).heap)
  | [],s,d,h=>by rcases h with h | h; exact h; cases h
  | i :: r,s,d,h=>by
    refine kills_unnamed r (s.kill i) d ?_
    by_cases hd:d = i
    · subst hd; exact .inl (kill_unnamed s d)
    · rcases h with ⟨h1,h2⟩ | h
      · refine .inl ⟨by simp [St.kill,hget_purH,hget_hdel,h1],fun k=>?_,fun j o hj hr q hq x hx=>?_⟩
        · simp only [St.kill,get_purE]
          unfold purV
          split
          · rfl
          · exact h2.1 k
        · simp only [St.kill,hget_purH,hget_hdel,Option.map_eq_some_iff] at hj
          obtain ⟨o0,h3,rfl⟩:=hj
          split at h3
          · cases h3
          · rw [purO_rec] at hr
            simp only [purO,hr,if_true,List.mem_map] at hq
            obtain ⟨q0,hq0,rfl⟩:=hq
            obtain ⟨x0,hx0,rfl⟩:=List.mem_map.1 hx
            unfold purC
            split
            · rfl
            · exact h2.2 j o0 h3 hr q0 hq0 x0 hx0
      · rcases List.mem_cons.1 h with h | h
        · exact absurd h hd
        · exact .inr h

theorem held_pairs {al:List (Nat × Nat)}:∀ {items:List Item} {hist:List HI},Held al hist items → (∀ t ∈ items,(∀ y ∈ hist,y.i ∈ t.bef ∨ Meet t.x y) ∧ t.x.i = t.i ∧ (∀ d,d ∈ idsV (evV t.ev) ∨ d ∈ (evE t.ev).ids → ∀ m,(d,m) ∈ al → m = t.i ∨ m ∈ t.bef)) ∧
    items.Pairwise (fun m t=>m.i ∈ t.bef ∨ Meet t.x m.x)
  | [],_,_=>⟨by simp,List.Pairwise.nil⟩
  | t :: R,hist,h=>by
    obtain ⟨h1,h2,h3,h4⟩:=h
    obtain ⟨h5,h6⟩:=held_pairs h4
    refine ⟨fun q hq=>?_,List.pairwise_cons.2 ⟨fun q hq=>?_,h6⟩⟩
    · rcases List.mem_cons.1 hq with rfl | hq
      · exact ⟨h2,h1,h3⟩
      · exact ⟨fun y hy=>(h5 q hq).1 y (by simp [hy]),(h5 q hq).2⟩
    · have:=(h5 q hq).1 t.x (by simp)
      rwa [h1] at this

theorem pre_spec (l:List Nat):∀ (f k:Nat),(∀ d,d < k → d ∈ l) → ∀ d,d < pre l f k → d ∈ l
  | 0,k,h=>h
  | f + 1,k,h=>by
    simp only [pre]
    split
    · rename_i hc
      refine pre_spec l f (k + 1) (fun d hd=>?_)
      rcases Nat.lt_or_ge d k with h1 | h1
      · exact h d h1
      · obtain rfl:d = k:=by omega
        simpa using hc
    · exact h
def SegsOk (bs:List (List Nat)) (N:Nat):Nat → List IOper → List (Nat × List IOper) → Prop
  | _,l,[]=>l = []
  | i,l,(k,s) :: t=>k = i ∧ s ≠ [] ∧ ∃ r,l = s ++ r ∧ SegsOk bs N (i + s.length) r t ∧ (t ≠ [] → ∀ j,i + s.length ≤ j → j < N → ∀ d,d < i + s.length → d ∈ bs.getD j [])
theorem segs_ok (bs:List (List Nat)) (N:Nat):∀ (l:List IOper) (i:Nat),i + l.length = N → SegsOk bs N i l (segs bs i l).1 ∧ ∀ j,i ≤ j → j < N → (segs bs i l).2 ≤ pre (bs.getD j []) j 0
  | [],i,h=>⟨rfl,fun j h1 h2=>by simp at h; omega⟩
  | o :: r,i,h=>by
    simp only [List.length_cons] at h
    obtain ⟨h1,h2⟩:=segs_ok bs N r (i + 1) (by omega)
    have hm:∀ (m:Nat),m = (segs bs (i + 1) r).2 → ∀ j,i ≤ j → j < N → min m (pre (bs.getD i []) i 0) ≤ pre (bs.getD j []) j 0:=fun m hm j h3 h4=>by
      rcases Nat.lt_or_ge i j with h5 | h5
      · exact Nat.le_trans (Nat.min_le_left _ _) (by rw [hm]; exact h2 j h5 h4)
      · obtain rfl:i = j:=by omega
        exact Nat.min_le_right _ _
    rw [segs]
    generalize hs:segs bs (i + 1) r = q at *
    obtain ⟨t,m⟩:=q
    match t,h1 with
    | [],h1 =>
      refine ⟨⟨rfl,by simp,r,rfl,h1,fun h=>absurd rfl h⟩,hm m rfl⟩
    | (k,s) :: t,h1 =>
      simp only
      split
      · rename_i hc
        refine ⟨⟨rfl,by simp,r,rfl,h1,fun _ j h3 h4 d h5=>?_⟩,hm m rfl⟩
        simp only [List.length_singleton] at h3 h5
        exact pre_spec _ j 0 (fun d hd=>absurd hd (Nat.not_lt_zero d)) d (Nat.lt_of_lt_of_le (show d < m by omega) (h2 j h3 h4))
      · obtain ⟨e1,e2,r',e3,e4,e5⟩:=h1
        have e:i + 1 + s.length = i + (o :: s).length:=by simp; omega
        refine ⟨⟨rfl,by simp,r',by rw [e3]; rfl,by rw [← e]; exact e4,by rw [← e]; exact e5⟩,hm m rfl⟩

theorem erase_same {ic x:ICode} (h:erase ic = x) (hx:(∃ ops dr,x = .reg ops dr) ∨ x = .skip ∨ x = .ret ∨ ∃ id,x = .exit id):ic = x:=by
  rcases hx with ⟨ops,dr,rfl⟩ | rfl | rfl | ⟨id,rfl⟩ <;> cases ic <;> simp only [erase] at h <;> first | (cases h; done) | rfl | exact h
def Freed (ic ic0:ICode):Prop:=ic = ic0 ∨ ∃ ops al dr,ic0 = .draw ops al dr ∧ ic = .free ops al dr
theorem erase_seg {ic x:ICode} (h:erase ic = x) (hx:(∃ ops dr,x = .reg ops dr) ∨ ∃ ops al dr,x = .draw ops al dr):Freed ic x:=by
  rcases hx with ⟨ops,dr,rfl⟩ | ⟨ops,al,dr,rfl⟩
  · exact .inl (erase_same h (.inl ⟨_,_,rfl⟩))
  · cases ic <;> simp only [erase] at h <;> first | (cases h; done) | skip
    · exact .inl h
    · cases h; exact .inr ⟨_,_,_,rfl,rfl⟩
theorem conjs_mem {α:Type} {F:α → Prop}:∀ {l:List α},conjs l F → ∀ {x:α},x ∈ l → F x
  | [y],h,x,hx=>by obtain rfl:=List.mem_singleton.1 hx; exact h
  | y :: z :: r,h,x,hx=>by
    rcases List.mem_cons.1 hx with rfl | hx
    · exact h.1
    · exact conjs_mem h.2 hx
theorem filter_len {R:List (Nat × IDOper)} {t:Nat × IDOper} (h:R.Pairwise (fun a b=>a.1 ≠ b.1)) (ht:t ∈ R):(R.filter fun q=>q.1 != t.1).length + 1 = R.length:=by
  induction R with
  | nil=>cases ht
  | cons y R ih =>
    have h1:=(List.pairwise_cons.1 h).1
    have h2:=(List.pairwise_cons.1 h).2
    rcases List.mem_cons.1 ht with e | ht
    · subst e
      have e:R.filter (fun q=>q.1 != t.1) = R:=List.filter_eq_self.2 fun q hq=>bne_iff_ne.2 fun e=>h1 q hq e.symm
      have e2:(t.1 != t.1) = false:=by simp
      rw [List.filter_cons,e2,e]
      rfl
    · have h3:=ih h2 ht
      have e2:(y.1 != t.1) = true:=bne_iff_ne.2 (h1 t ht)
      rw [List.filter_cons,e2]
      show ((R.filter fun q=>q.1 != t.1).length + 1) + 1 = R.length + 1
      omega

section
variable {ops:Array Oper} {bs:List (List Nat)} {L:List IOper} {Q:Exit → Act → World → Prop} {a:Act} {w:World} {st:St} {KK:IX → St → Prop} {listed:Array Bool}
theorem listed_upto {i:Nat} (hsz:listed.size = ops.size) (hl:∀ j,j < ops.size → (listed.getD j true = false ↔ i ≤ j)) (j:Nat) (hj:j < ops.size):listed.getD j false = true ↔ j < i:=by
  have hgetD:listed.getD j true = listed.getD j false:=by
    have:j < listed.size:=by omega
    simp [Array.getD_eq_getD_getElem?,Array.getElem?_eq_getElem this]
  have:=hl j hj
  rw [hgetD] at this
  cases hv:listed.getD j false with
  | true=>simp [hv] at this; simpa using this
  | false=>simp [hv] at this; simpa using this
theorem listed_closed {i:Nat} (hO:OrdSpec ops bs) (hsz:listed.size = ops.size) (hl:∀ j,j < ops.size → (listed.getD j true = false ↔ i ≤ j)) :
    ∀ j o,listed.getD j false = true → ops[j]? = some o → ∀ d ∈ edges o,listed.getD d false = true:=fun j o hj ho d hd=>by
  have hjs:=(Array.getElem?_eq_some_iff.1 ho).1
  have h1:=(listed_upto hsz hl j hjs).1 hj
  have h2:=hO.lt j o ho d hd
  exact (listed_upto hsz hl d (by omega)).2 (by omega)

theorem seg_sound (hn:c.n = n) (hO:OrdSpec ops bs) (hL:cOps P n ops ops.toList = some L) {i:Nat} {s r:List IOper} (hs:L.drop i = s ++ r) (hne:s ≠ []) {dr:List Nat} {ic ic0:ICode} (hc:cSeg bs i s dr = some ic0)
    (hic:Freed ic ic0) (hi:iwp P ic st KK) (hst:SatS c st a w) (hsz:listed.size = ops.size) (hl:∀ j,j < ops.size → (listed.getD j true = false ↔ i ≤ j))
    (hcut:r ≠ [] → ∀ j,i + s.length ≤ j → j < ops.size → ∀ d,d < i + s.length → d ∈ bs.getD j [])
    (hnext:∀ (st':St) (a':Act) (w':World) (listed':Array Bool),KK .nrm st' → SatS c st' a' w' → listed'.size = ops.size → (∀ j,j < ops.size → (listed'.getD j true = false ↔ i + s.length ≤ j)) → wpAny P .any ops Q r.length listed' a' w') :
    wpAny P .any ops Q (s.length + r.length) listed a w:=by
  obtain ⟨hlen,hget'⟩:=cOps_get hL
  simp only [Array.length_toList] at hlen
  have hsize:i + s.length + r.length = ops.size:=by
    have h1:=congrArg List.length hs
    have h2:0 < s.length:=List.length_pos_iff.2 hne
    simp only [List.length_drop,List.length_append,hlen] at h1
    omega
  have hopi:∀ (j:Nat) (io:IOper),s[j]? = some io → ∃ o,ops[i + j]? = some o ∧ cOper P n ops o = some io:=fun j io hj=>by
    have h1:L[i + j]? = some io:=by
      rw [← List.getElem?_drop,hs,List.getElem?_append_left (List.getElem?_eq_some_iff.1 hj).1]
      exact hj
    obtain ⟨o,h2,h3⟩:=hget' (i + j) io h1
    exact ⟨o,by rw [← Array.getElem?_toList]; exact h2,h3⟩
  have hcut':∀ j,i + s.length ≤ j → j < ops.size → ∀ d,d < i + s.length → d ∈ bs.getD j []:=fun j h1 h2=>hcut (fun e=>by subst e; simp at hsize; omega) j h1 h2
  have one:∀ o:IOper,s = [o] → ic0 = .reg [o] dr → wpAny P .any ops Q (s.length + r.length) listed a w:=by
    rintro o rfl rfl
    obtain rfl:ic = .reg [o] dr:=by
      rcases hic with h | ⟨_,_,_,h,_⟩
      · exact h
      · cases h
    obtain ⟨oo,h1,h2⟩:=hopi 0 o rfl
    rw [Nat.add_zero] at h1
    have his:=(Array.getElem?_eq_some_iff.1 h1).1
    rw [List.length_singleton,Nat.add_comm 1]
    have hrd:∀ k ∈ Region.ready .any ops listed,k = i:=fun k hk=>by
      obtain ⟨k1,k2,ok,k3,k4⟩:=ready_iff.1 hk
      have k5:=(hl k k1).1 k2
      rcases Nat.lt_or_ge i k with h5 | h5
      · exfalso
        have h6:=hcut' k (by simp; omega) k1 i (by simp)
        have h7:=hO.listed (listed_closed hO hsz hl) k ok k3 k4 i h6
        have:=(listed_upto hsz hl i his).1 h7
        omega
      · omega
    refine ⟨fun hr=>?_,fun k hk=>?_⟩
    · exfalso
      have:i ∈ Region.ready .any ops listed:=ready_iff.2 ⟨his,(hl i his).2 (Nat.le_refl _),oo,h1,fun d hd=>by
        have hdl:=hO.lt i oo h1 d hd
        exact (listed_upto hsz hl d (by omega)).2 hdl⟩
      rw [hr] at this
      cases this
    · obtain rfl:=hrd k hk
      unfold wpOp
      rw [h1]
      simp only [iwp] at hi ⊢
      refine iop1_sound hn Q h2 hi hst fun s' a' w' h3 h4=>?_
      refine hnext _ a' w' _ h3 (SatS.dels _ h4) (by simpa using hsz) (fun j hj=>?_)
      have hset:(listed.setIfInBounds k true).getD j true = if k = j then true else listed.getD j true:=by
        simp only [Array.getD_eq_getD_getElem?,Array.getElem?_setIfInBounds]
        split
        · rename_i e; subst e; simp [hsz,hj]
        · rfl
      rw [hset,List.length_singleton]
      split
      · rename_i e; subst e; simp
      · rename_i e
        rw [hl j hj]
        omega
  have many:drawSeg (relB bs i s.length) s dr = some ic0 → wpAny P .any ops Q (s.length + r.length) listed a w:=by
    intro hc
    unfold drawSeg at hc
    split at hc
    case isFalse=>cases hc
    rename_i hcond
    simp only [Bool.and_eq_true] at hcond
    obtain ⟨⟨⟨c2,c3⟩,c4⟩,c5⟩:=hcond
    cases hc
    have hrel:∀ k,k < s.length → ∀ d,d ∈ (relB bs i s.length).getD k [] ↔ i + d ∈ bs.getD (i + k) []:=fun k hk d=>by
      have e:(relB bs i s.length).getD k [] = (bs.getD (i + k) []).filterMap fun d=>if i ≤ d then some (d - i) else none:=by
        simp only [relB,List.getD_eq_getElem?_getD,List.getElem?_map,List.getElem?_range hk,Option.map_some,Option.getD_some]
      rw [e,List.mem_filterMap]
      constructor
      · rintro ⟨q,hq,hqd⟩
        split at hqd
        · cases hqd
          rwa [show i + (q - i) = q by omega]
        · cases hqd
      · intro hd
        exact ⟨i + d,hd,by rw [if_pos (by omega)]; congr 1; omega⟩
    rcases hic with rfl | ⟨_,_,_,hcc,rfl⟩
    rotate_left
    · cases hcc
      simp only [iwp] at hi
      have key:∀ (fuel:Nat) (R:List (Nat × IDOper)) (listed:Array Bool) (st:St) (a:Act) (w:World),R.length = fuel → SatS c st a w → listed.size = ops.size →
          (∀ j,j < ops.size → (listed.getD j true = false ↔ (∃ t ∈ R,i + t.1 = j) ∨ i + s.length ≤ j)) →
          (∀ j o,listed.getD j false = true → ops[j]? = some o → ∀ d ∈ edges o,listed.getD d false = true) →
          (∀ t ∈ R,t.1 < s.length ∧ s[t.1]? = some t.2.o ∧ t.2.bef = (relB bs i s.length).getD t.1 []) → R.Pairwise (fun a b=>a.1 ≠ b.1) →
          ifree P fuel R st (fun s'=>KK .nrm ⟨dels dr s'.env,s'.heap⟩) → wpAny P .any ops Q (fuel + r.length) listed a w:=by
        intro fuel
        induction fuel with
        | zero =>
          intro R listed st a w hlen hst hsz hli hdc hit hpw hf
          have hR:R = []:=List.length_eq_zero_iff.1 hlen
          subst hR
          rw [Nat.zero_add]
          refine hnext _ a w listed hf (SatS.dels _ hst) hsz (fun j hj=>?_)
          rw [hli j hj]
          exact ⟨fun hh=>by rcases hh with ⟨t,ht,_⟩ | hh; cases ht; exact hh,.inr⟩
        | succ fuel ih =>
          intro R listed st a w hlen hst hsz hli hdc hit hpw hf
          have hgetD:∀ j,j < ops.size → listed.getD j true = listed.getD j false:=fun j hj=>by
            have:j < listed.size:=by omega
            simp [Array.getD_eq_getD_getElem?,Array.getElem?_eq_getElem this]
          have hopR:∀ t ∈ R,∃ o,ops[i + t.1]? = some o ∧ cOper P n ops o = some t.2.o:=fun t ht=>hopi t.1 t.2.o (hit t ht).2.1
          have hun:∀ t ∈ R,listed.getD (i + t.1) false = false:=fun t ht=>by
            obtain ⟨o,ho,_⟩:=hopR t ht
            have hl:=(Array.getElem?_eq_some_iff.1 ho).1
            rw [← hgetD _ hl]
            exact (hli _ hl).2 (.inl ⟨t,ht,rfl⟩)
          rw [Nat.add_right_comm]
          refine ⟨fun hr=>?_,fun k hk=>?_⟩
          · exfalso
            have hex:∃ m,∃ t ∈ R,t.1 = m:=by
              cases R with
              | nil=>simp at hlen
              | cons t R=>exact ⟨t.1,t,by simp,rfl⟩
            obtain ⟨m,⟨t,ht,rfl⟩,hmin⟩:=least hex
            obtain ⟨o,ho,_⟩:=hopR t ht
            have hlt:=(Array.getElem?_eq_some_iff.1 ho).1
            have:i + t.1 ∈ Region.ready .any ops listed:=ready_iff.2 ⟨hlt,(hli _ hlt).2 (.inl ⟨t,ht,rfl⟩),o,ho,fun d hd=>by
              have hdl:=hO.lt (i + t.1) o ho d hd
              have hds:d < ops.size:=by omega
              cases hv:listed.getD d false with
              | true=>rfl
              | false =>
                rw [← hgetD d hds] at hv
                rcases (hli d hds).1 hv with ⟨q,hq,hqi⟩ | hz
                · exact absurd ⟨q,hq,rfl⟩ (hmin q.1 (by omega))
                · have:=(hit t ht).1; omega⟩
            rw [hr] at this
            cases this
          · obtain ⟨k1,k2,o,k3,k4⟩:=ready_iff.1 hk
            have hbefs:∀ d ∈ bs.getD k [],listed.getD d false = true:=hO.listed hdc k o k3 k4
            have hkR:∃ t ∈ R,i + t.1 = k:=by
              rcases (hli k k1).1 k2 with hh | hz
              · exact hh
              · exfalso
                cases R with
                | nil=>simp at hlen
                | cons t R =>
                  have h1:=(hit t (by simp)).1
                  have h2:=hbefs _ (hcut' k hz k1 (i + t.1) (by omega))
                  rw [hun t (by simp)] at h2
                  cases h2
            obtain ⟨t,ht,rfl⟩:=hkR
            obtain ⟨oo,ho,hco⟩:=hopR t ht
            rw [k3] at ho
            cases ho
            have htr:t ∈ rdy R:=by
              unfold rdy
              rw [List.mem_filter]
              refine ⟨ht,List.all_eq_true.2 fun q hq=>?_⟩
              cases hb:t.2.bef.contains q.1 with
              | false=>rfl
              | true =>
                exfalso
                have h1:q.1 ∈ t.2.bef:=by simpa using hb
                rw [(hit t ht).2.2,hrel t.1 (hit t ht).1] at h1
                have h2:=hbefs _ h1
                rw [hun q hq] at h2
                cases h2
            have hft:=conjs_mem hf htr
            unfold wpOp
            rw [k3]
            simp only
            refine iop1_sound hn Q hco hft hst fun s' a' w' h3 h4=>?_
            have hfl:=filter_len hpw ht
            refine ih (R.filter fun q=>q.1 != t.1) (listed.setIfInBounds (i + t.1) true) s' a' w' (by omega) h4 (by simpa using hsz) (fun j hj=>?_) (fun j oj hj hoj d hd=>?_) (fun q hq=>hit q (List.mem_filter.1 hq).1) (hpw.sublist List.filter_sublist) h3
            · have hset:(listed.setIfInBounds (i + t.1) true).getD j true = if i + t.1 = j then true else listed.getD j true:=by
                simp only [Array.getD_eq_getD_getElem?,Array.getElem?_setIfInBounds]
                split
                · rename_i e; subst e; simp [hsz,k1]
                · rfl
              rw [hset]
              constructor
              · intro hv
                split at hv
                · cases hv
                · rename_i hne
                  rcases (hli j hj).1 hv with ⟨q,hq,hqi⟩ | hz
                  · exact .inl ⟨q,List.mem_filter.2 ⟨hq,by simp; omega⟩,hqi⟩
                  · exact .inr hz
              · rintro (⟨q,hq,hqi⟩ | hz)
                · obtain ⟨hq1,hq2⟩:=List.mem_filter.1 hq
                  have hq3:q.1 ≠ t.1:=by simpa using hq2
                  rw [if_neg (by omega)]
                  exact (hli j hj).2 (.inl ⟨q,hq1,hqi⟩)
                · have h1:=(hit t ht).1
                  rw [if_neg (by omega)]
                  exact (hli j hj).2 (.inr hz)
            · have hset:∀ k,(listed.setIfInBounds (i + t.1) true).getD k false = if i + t.1 = k then true else listed.getD k false:=fun k=>by
                simp only [Array.getD_eq_getD_getElem?,Array.getElem?_setIfInBounds]
                split
                · rename_i e; subst e; simp [hsz,k1]
                · rfl
              rw [hset] at hj ⊢
              split
              · rfl
              · split at hj
                · rename_i e
                  subst e
                  rw [k3] at hoj
                  cases hoj
                  exact k4 d hd
                · exact hdc j oj hj hoj d hd
      have hzl:((s.zipIdx.map fun p=>(⟨p.1,(relB bs i s.length).getD p.2 []⟩:IDOper)).zipIdx.map fun p=>(p.2,p.1)).length = s.length:=by simp
      have hzm:∀ t,t ∈ ((s.zipIdx.map fun p=>(⟨p.1,(relB bs i s.length).getD p.2 []⟩:IDOper)).zipIdx.map fun p=>(p.2,p.1)) ↔ t.1 < s.length ∧ s[t.1]? = some t.2.o ∧ t.2.bef = (relB bs i s.length).getD t.1 []:=fun t=>by
        obtain ⟨t1,⟨t2,t3⟩⟩:=t
        rw [List.mem_map]
        constructor
        · rintro ⟨p,hp,he⟩
          obtain ⟨p1,p2⟩:=p
          cases he
          rw [List.mem_zipIdx_iff_getElem?] at hp
          simp only [List.getElem?_map,List.getElem?_zipIdx,Option.map_map,Option.map_eq_some_iff,Function.comp] at hp
          obtain ⟨io,h1,h2⟩:=hp
          cases h2
          exact ⟨(List.getElem?_eq_some_iff.1 h1).1,h1,by simp⟩
        · rintro ⟨h1,h2,h3⟩
          refine ⟨(⟨t2,t3⟩,t1),?_,rfl⟩
          rw [List.mem_zipIdx_iff_getElem?]
          simp only at h1 h2 h3 ⊢
          simp [h2,h3]
      rw [List.length_map,List.length_zipIdx] at hi
      refine key s.length _ listed st a w hzl hst hsz (fun j hj=>?_) (listed_closed hO hsz hl) (fun t ht=>(hzm t).1 ht) ?_ hi
      · rw [hl j hj]
        constructor
        · intro hij
          rcases Nat.lt_or_ge j (i + s.length) with h1 | h1
          · exact .inl ⟨(j - i,⟨s[j - i]'(by omega),(relB bs i s.length).getD (j - i) []⟩),(hzm _).2 ⟨by simp only; omega,List.getElem?_eq_getElem _,rfl⟩,by simp only; omega⟩
          · exact .inr h1
        · rintro (⟨t,ht,h1⟩ | h1)
          · omega
          · omega
      · refine List.pairwise_map.2 ?_
        exact (List.nodup_iff_pairwise_ne.1 (by
          have:((s.zipIdx.map fun p=>(⟨p.1,(relB bs i s.length).getD p.2 []⟩:IDOper)).zipIdx.map Prod.snd).Nodup:=by
            rw [List.zipIdx_map_snd]
            exact List.nodup_range'
          exact this):List.Pairwise _ _) |> List.pairwise_map.1
    have hone:AlOne (alPairs 0 s):=alOne_of (nodupB_spec c4)
    have hal:∀ d m,(d,m) ∈ alPairs 0 s → d < 1000:=fun d m hd=>by simpa using List.all_eq_true.1 c3 (d,m) hd
    simp only [iwp] at hi
    have hlz:∀ (j:Nat) (o:IDOper),(s.zipIdx.map fun p=>(⟨p.1,(relB bs i s.length).getD p.2 []⟩:IDOper))[j]? = some o → s[j]? = some o.o ∧ o.bef = (relB bs i s.length).getD j []:=fun j o hj=>by
      simp only [List.getElem?_map,List.getElem?_zipIdx,Option.map_map,Option.map_eq_some_iff,Function.comp] at hj
      obtain ⟨io,h1,rfl⟩:=hj
      exact ⟨h1,by simp⟩
    obtain ⟨items,s',hK,hT,hH,hidx,hmap⟩:=idops_trace hone _ 0 [] _ _ hi (fun d m hdm _=>kills_unnamed _ st d (.inr (List.mem_map.2 ⟨(d,m),hdm,rfl⟩))) (fun j o hj=>by
      obtain ⟨h1,h2⟩:=hlz j o hj
      obtain ⟨oo,h3,h4⟩:=hopi j o.o h1
      have hjl:=(List.getElem?_eq_some_iff.1 h1).1
      refine ⟨fun ha=>(alPairs_mem s 0 _ _).2 ⟨j,o.o,h1,ha,rfl,by omega⟩,fun m hm=>?_,List.all_eq_true.1 c5 o.o (List.mem_of_getElem? h1)⟩
      rw [h2,hrel j hjl] at hm
      have:=hO.bef_lt (i + j) oo h3 _ hm
      omega)
    obtain ⟨bl,hk⟩:=SatS.kills ((alPairs 0 s).map (·.1)) hst
    have hilen:items.length = s.length:=by
      have:=congrArg List.length hmap
      simp at this
      omega
    have hitem:∀ (j:Nat) (t:Item),items[j]? = some t → t.i = j ∧ s[j]? = some t.o ∧ t.bef = (relB bs i s.length).getD j []:=fun j t hj=>by
      have h1:(items.map Item.i)[j]? = some t.i:=by simp [hj]
      rw [hidx] at h1
      have h2:(items.map fun t=>(⟨t.o,t.bef⟩:IDOper))[j]? = some ⟨t.o,t.bef⟩:=by simp [hj]
      rw [hmap] at h2
      obtain ⟨h3,h4⟩:=hlz j _ h2
      refine ⟨?_,h3,h4⟩
      rw [List.getElem?_range' (by
        have:=(List.getElem?_eq_some_iff.1 h1).1
        simpa using this)] at h1
      simp at h1
      omega
    have hmem:∀ t ∈ items,t.i < s.length ∧ items[t.i]? = some t:=fun t ht=>by
      obtain ⟨j,hj⟩:=List.getElem?_of_mem ht
      have:=(hitem j t hj).1
      subst this
      exact ⟨by rw [← hilen]; exact (List.getElem?_eq_some_iff.1 hj).1,hj⟩
    obtain ⟨hp1,hp2⟩:=held_pairs hH
    refine any_sound (Q:=Q) hn hone hal hO i r.length (fun j=>i + s.length ≤ j ∧ j < ops.size) (fun listed' a' w' bl' h1 h2 h3=>hnext _ a' w' listed' hK (SatS.dels _ ⟨bl',h3⟩) h1 (fun j hj=>by rw [h2 j hj]; exact ⟨fun h=>h.1,fun h=>⟨h,hj⟩⟩)) s.length items listed _ _ a w bl hilen hsz hk hT ?_ (fun j hj=>?_) (fun j hz t ht=>?_) (listed_closed hO hsz hl) (fun t ht=>?_) ?_
    · intro d m hdm _
      exact kills_unnamed _ st d (.inr (List.mem_map.2 ⟨(d,m),hdm,rfl⟩))
    · rw [hl j hj]
      constructor
      · intro hij
        rcases Nat.lt_or_ge j (i + s.length) with h1 | h1
        · have hj':j - i < items.length:=by omega
          exact .inl ⟨items[j - i],List.getElem_mem hj',by rw [(hitem (j - i) _ (List.getElem?_eq_getElem hj')).1]; omega⟩
        · exact .inr ⟨h1,hj⟩
      · rintro (⟨t,ht,h1⟩ | h1) <;> omega
    · exact hcut' j hz.1 hz.2 _ (by have:=(hmem t ht).1; omega)
    · obtain ⟨h1,h2⟩:=hmem t ht
      obtain ⟨_,h3,h4⟩:=hitem t.i t h2
      obtain ⟨oo,h5,h6⟩:=hopi t.i t.o h3
      exact ⟨oo,h5,h6,fun d hd=>by rw [h4,hrel t.i h1] at hd; exact hd,List.all_eq_true.1 c5 t.o (List.mem_of_getElem? h3),fun ha=>(alPairs_mem s 0 _ _).2 ⟨t.i,t.o,h3,ha,rfl,by omega⟩,(hp1 t ht).2.2⟩
    · refine List.pairwise_iff_getElem.2 fun i' j hi' hj hij=>?_
      have e1:=hitem i' _ (List.getElem?_eq_getElem hi')
      have e2:=hitem j _ (List.getElem?_eq_getElem hj)
      refine ⟨by rw [e1.1,e2.1]; exact hij,?_⟩
      rcases List.pairwise_iff_getElem.1 hp2 i' j hi' hj hij with h1 | h1
      · exact .inl h1
      · by_cases hb:items[i'].i ∈ items[j].bef
        · exact .inl hb
        · refine .inr ⟨?_,h1⟩
          have hap:=List.all_eq_true.1 (List.all_eq_true.1 c2 j (List.mem_range.2 (by omega))) i' (List.mem_range.2 hij)
          simp only [e1.2.1,e2.2.1,Bool.or_eq_true,List.contains_eq_mem,decide_eq_true_eq,Bool.and_eq_true] at hap
          rw [e1.1,e2.2.2] at hb
          rcases hap with hap | ⟨hap1,hap2⟩
          · exact absurd hap hb
          · refine ⟨fun d hd=>?_,fun d hd=>?_⟩
            · rw [hd] at hap1
              simp only [Bool.and_eq_true,Bool.not_eq_true',decide_eq_false_iff_not,bne_iff_ne] at hap1
              exact ⟨hap1.1,hap1.2⟩
            · rw [hd] at hap2
              simpa using hap2
  unfold cSeg at hc
  split at hc
  · exact one _ rfl (by cases hc; rfl)
  · exact many hc
end
theorem erase_seq {ic x y:ICode} (h:erase ic = .seq x y):∃ x' y',erase x' = x ∧ erase y' = y ∧ (ic = .seq x' y' ∨ ic = .cut x' y'):=by
  cases ic <;> simp only [erase] at h <;> first | (cases h; done) | skip
  · rename_i x' y'; cases h; exact ⟨x',y',rfl,rfl,.inl rfl⟩
  · rename_i x' y'; cases h; exact ⟨x',y',rfl,rfl,.inr rfl⟩
theorem erase_cond {ic x y:ICode} {v:IV} (h:erase ic = .cond v x y):∃ x' y',erase x' = x ∧ erase y' = y ∧ ic = .cond v x' y':=by
  cases ic <;> simp only [erase] at h <;> first | (cases h; done) | skip
  rename_i x' y'; cases h; exact ⟨x',y',rfl,rfl,rfl⟩
theorem erase_block {ic x:ICode} {id:Nat} (h:erase ic = .block id x):∃ x',erase x' = x ∧ ic = .block id x':=by
  cases ic <;> simp only [erase] at h <;> first | (cases h; done) | skip
  rename_i x'; cases h; exact ⟨x',rfl,rfl⟩
theorem erase_loop {ic x:ICode} (h:erase ic = .loop x):∃ x',erase x' = x ∧ ic = .loop x':=by
  cases ic <;> simp only [erase] at h <;> first | (cases h; done) | skip
  rename_i x'; cases h; exact ⟨x',rfl,rfl⟩



section
variable {ops:Array Oper} {bs:List (List Nat)} {L:List IOper} {Q:Exit → Act → World → Prop}
theorem cSeg_plain {i:Nat} {s:List IOper} {dr:List Nat} {ic:ICode} (hc:cSeg bs i s dr = some ic):(∃ ops dr,ic = .reg ops dr) ∨ ∃ ops al dr,ic = .draw ops al dr:=by
  unfold cSeg at hc
  split at hc
  · cases hc; exact .inl ⟨_,_,rfl⟩
  · unfold drawSeg at hc
    split at hc
    · cases hc; exact .inr ⟨_,_,_,rfl⟩
    · cases hc

theorem segs_sound (hn:c.n = n) (hO:OrdSpec ops bs) (hL:cOps P n ops ops.toList = some L) {dr:List Nat} {K:IX → St → Prop} :
    ∀ (t:List (Nat × List IOper)) (i:Nat) (l:List IOper) (ic0 ic:ICode) (st:St) (a:Act) (w:World) (listed:Array Bool),SegsOk bs ops.size i l t → L.drop i = l → cSegs bs dr t = some ic0 → erase ic = ic0 → iwp P ic st K → SatS c st a w →
      listed.size = ops.size → (∀ j,j < ops.size → (listed.getD j true = false ↔ i ≤ j)) → wpAny P .any ops (LQ c K) l.length listed a w:=by
  intro t
  induction t with
  | nil =>
    intro i l ic0 ic st a w listed hok hd hc he hi hst hsz hl
    obtain rfl:l = []:=hok
    simp only [cSegs,Option.some.injEq] at hc
    subst hc
    rw [erase_same he (.inl ⟨_,_,rfl⟩)] at hi
    simp only [iwp,iops] at hi
    obtain ⟨hlen,_⟩:=cOps_get hL
    simp only [Array.length_toList] at hlen
    have hsize:ops.size ≤ i:=by
      have:=congrArg List.length hd
      simp only [List.length_drop,hlen,List.length_nil] at this
      omega
    refine ⟨List.eq_nil_iff_forall_not_mem.2 fun j hj=>?_,⟨_,hi,SatS.dels _ hst⟩⟩
    obtain ⟨h1,h2,_⟩:=ready_iff.1 hj
    have:=(hl j h1).1 h2
    omega
  | cons p t ih =>
    intro i l ic0 ic st a w listed hok hd hc he hi hst hsz hl
    obtain ⟨k,s⟩:=p
    obtain ⟨rfl,hne,r,rfl,hok',hcut⟩:=hok
    rw [List.length_append]
    cases t with
    | nil =>
      obtain rfl:r = []:=hok'
      simp only [cSegs] at hc
      have he':=erase_seg he (cSeg_plain hc)
      refine seg_sound (Q:=LQ c K) hn hO hL hd hne hc he' hi hst hsz hl (fun h=>absurd rfl h) (fun st' a' w' listed' h1 h2 h3 h4=>?_)
      obtain ⟨hlen,_⟩:=cOps_get hL
      simp only [Array.length_toList] at hlen
      have hsize:ops.size ≤ k + s.length:=by
        have:=congrArg List.length hd
        simp only [List.length_drop,hlen,List.length_append,List.length_nil] at this
        omega
      refine ⟨List.eq_nil_iff_forall_not_mem.2 fun j hj=>?_,⟨_,h1,h2⟩⟩
      obtain ⟨g1,g2,_⟩:=ready_iff.1 hj
      have:=(h4 j g1).1 g2
      omega
    | cons q t =>
      simp only [cSegs] at hc
      split at hc
      case h_2=>cases hc
      rename_i x y hx hy
      cases hc
      obtain ⟨x',y',e1,e2,e3⟩:=erase_seq he
      have e4:=erase_seg e1 (cSeg_plain hx)
      have hd':L.drop (k + s.length) = r:=by rw [← List.drop_drop,hd,List.drop_left]
      rcases e3 with rfl | rfl
      · refine seg_sound (Q:=LQ c K) hn hO hL hd hne hx e4 hi hst hsz hl (fun _=>hcut (by simp)) (fun st' a' w' listed' h1 h2 h3 h4=>?_)
        exact ih (k + s.length) r y y' st' a' w' listed' hok' hd' hy e2 h1 h2 h3 h4
      · refine seg_sound (Q:=LQ c K) hn hO hL hd hne hx e4 hi hst hsz hl (fun _=>hcut (by simp)) (fun st' a' w' listed' h1 h2 h3 h4=>?_)
        obtain ⟨s'',hwk,hk⟩:=h1
        exact ih (k + s.length) r y y' s'' a' w' listed' hok' hd' hy e2 hk (hwk _ _ _ h2) h3 h4
end

theorem draw_sound {ops:Array Oper} {dr:List Nat → List Nat} {ic0 ic:ICode} {id:Nat} {s:St} {K:IX → St → Prop} {a:Act} {w:World} (hm:P.follows .mixedOrders = true) (hc:cDraw P n ops dr = some ic0) (he:erase ic = ic0) (hn:c.n = n) (hi:iwp P ic s K) (hs:SatS c s a w) :
    (Code.region id ops true).wp P (LQ c K) a w:=by
  unfold cDraw at hc
  split at hc
  · cases hc
  rename_i l hl
  split at hc
  case isFalse=>cases hc
  rename_i c1
  obtain ⟨hlen,_⟩:=cOps_get hl
  simp only [Array.length_toList] at hlen
  refine wp_region_any hm ?_
  obtain ⟨bl,hs⟩:=hs
  have h1:=segs_sound (K:=K) hn (ordOk_spec c1) hl (segs (befs ops.toList []) 0 l).1 0 l ic0 ic s a { w with drawn:=w.drawn + 1 } (Array.replicate ops.size false) (segs_ok _ ops.size l 0 (by omega)).1 rfl hc he hi ⟨bl,hs.world rfl rfl rfl⟩ (by simp) (fun j hj=>by simp [Array.getD_eq_getD_getElem?,hj])
  rw [hlen] at h1
  exact h1


theorem code_sound (hm:P.follows .mixedOrders = true) (hn:c.n = n) {sh:List (List Nat)}:∀ (x:Code) (ic0:ICode),comp P n sh x = some ic0 → ∀ (ic:ICode),erase ic = ic0 → ∀ (s:St) (K:IX → St → Prop) (a:Act) (w:World),iwp P ic s K → SatS c s a w → x.wp P (LQ c K) a w:=by
  intro x
  induction x with
  | skip=>intro ic0 hc ic he s K a w hi hs; simp only [comp,Option.some.injEq] at hc; subst hc; rw [erase_same he (by simp)] at hi; exact wp_skip ⟨s,hi,hs⟩
  | ret=>intro ic0 hc ic he s K a w hi hs; simp only [comp,Option.some.injEq] at hc; subst hc; rw [erase_same he (by simp)] at hi; exact wp_ret ⟨s,hi,hs⟩
  | exit id=>intro ic0 hc ic he s K a w hi hs; simp only [comp,Option.some.injEq] at hc; subst hc; rw [erase_same he (by simp)] at hi; exact wp_exit ⟨s,hi,hs⟩
  | label l=>intro ic0 hc ic he s K a w hi hs; simp only [comp,Option.some.injEq] at hc; subst hc; rw [erase_same he (by simp)] at hi; exact wp_label ⟨s,hi,hs⟩
  | seq x y ihx ihy =>
    intro ic0 hc ic he s K a w hi hs
    simp only [comp] at hc
    split at hc
    case h_2=>cases hc
    rename_i ix iy h1 h2
    cases hc
    obtain ⟨x',y',e1,e2,e3⟩:=erase_seq he
    rcases e3 with rfl | rfl
    · refine wp_seq (Code.wp_mono (fun e a' w' hq=>?_) (ihx ix h1 x' e1 s _ a w hi hs))
      cases e with
      | normal=>obtain ⟨s',hk,hs'⟩:=hq; exact ihy iy h2 y' e2 s' K a' w' hk hs'
      | _=>exact hq
    · refine wp_seq (Code.wp_mono (fun e a' w' hq=>?_) (ihx ix h1 x' e1 s _ a w hi hs))
      cases e with
      | normal=>obtain ⟨s',⟨s'',hwk,hk⟩,hs'⟩:=hq; exact ihy iy h2 y' e2 s'' K a' w' hk (hwk _ _ _ hs')
      | _=>exact hq
  | cond v x y ihx ihy =>
    intro ic0 hc ic he s K a w hi hs
    simp only [comp] at hc
    split at hc
    case h_2=>cases hc
    rename_i iv ix iy h0 h1 h2
    cases hc
    obtain ⟨x',y',e1,e2,rfl⟩:=erase_cond he
    simp only [iwp] at hi
    split at hi
    case h_2=>exact hi.elim
    rename_i b hv
    obtain ⟨bl,hsb⟩:=hs
    have hvr:=cV_rel hsb h0
    rw [hv] at hvr
    have href:∀ q,b = q → SatS c (refine iv q s) a w:=fun q hq=>by
      cases iv with
      | c y=>exact ⟨bl,hsb⟩
      | s k=>exact ⟨bl,hsb.congr (fun j=>by rw [show refine (.s k) q s = s.put (some k) (.bool q) from rfl,get_refine hv hq]) (fun j=>rfl)⟩
    refine wp_cond hvr.bool ?_
    cases b with
    | true=>exact ihx ix h1 x' e1 _ K a w (hi.1 rfl) (href true rfl)
    | false=>exact ihy iy h2 y' e2 _ K a w (hi.2 rfl) (href false rfl)
  | block id x ih =>
    intro ic0 hc ic he s K a w hi hs
    simp only [comp,Option.map_eq_some_iff] at hc
    obtain ⟨ix,h1,rfl⟩:=hc
    obtain ⟨x',e1,rfl⟩:=erase_block he
    refine wp_block (Code.wp_mono (fun e a' w' hq=>?_) (ih ix h1 x' e1 s _ a w hi hs))
    cases e with
    | exit j =>
      obtain ⟨s',hk,hs'⟩:=hq
      simp only at hk
      simp only [Exit.inBlock]
      split
      · rename_i hj; rw [if_pos hj] at hk; exact ⟨s',hk,hs'⟩
      · rename_i hj; rw [if_neg hj] at hk; exact ⟨s',hk,hs'⟩
    | _=>exact hq
  | loop x ih =>
    intro ic0 hc ic he s K a w hi hs
    simp only [comp,Option.map_eq_some_iff] at hc
    obtain ⟨ix,h1,rfl⟩:=hc
    obtain ⟨x',e1,rfl⟩:=erase_loop he
    obtain ⟨I,⟨m,s0,h0,hwk⟩,hstep⟩:=hi
    refine wp_loop_n (fun m a w=>∃ s,I m s ∧ SatS c s a w) ⟨m,s0,h0,hwk _ _ _ hs⟩ (fun m a w ⟨s,hI,hs⟩=>?_)
    refine Code.wp_mono (fun e a' w' hq=>?_) (ih ix h1 x' e1 s _ a w (hstep m s hI) hs)
    cases e with
    | normal =>
      obtain ⟨s',⟨m',s'',h2,h3,h4⟩,hs'⟩:=hq
      exact ⟨m',h2,s'',h3,h4 _ _ _ hs'⟩
    | _=>exact hq
  | scope x ih =>
    intro ic0 hc ic he s K a w hi hs
    simp only [comp] at hc
    refine wp_scope_straight (Code.wp_mono (fun e a' w' hq=>?_) (ih ic0 hc ic he s K a w hi hs))
    cases e <;> exact hq
  | region id ops d =>
    intro ic0 hc ic he s K a w hi hs
    cases d with
    | true =>
      simp only [comp] at hc
      exact draw_sound hm hc he hn hi hs
    | false =>
      simp only [comp] at hc
      split at hc
      case h_2=>cases hc
      rename_i l hl
      cases hc
      rw [erase_same he (.inl ⟨_,_,rfl⟩)] at hi
      simp only [iwp] at hi
      exact wp_region_list (iops_sound hn _ ops.toList l hl s _ a w hi hs (fun s' a' w' hk hs'=>⟨_,hk,SatS.dels _ hs'⟩))
  | rangeFunc f ps as b=>intro ic0 hc; simp [comp] at hc
  | goto l=>intro ic0 hc; simp [comp] at hc
  | refuse y=>intro ic0 hc; simp [comp] at hc
end
end Go.Mw
set_option linter.unusedSectionVars false
set_option linter.unusedVariables false
set_option linter.unusedSimpArgs false
namespace Go.Mw

/-! ### Results -/
def okRes:AV → Bool
  | .any=>false
  | .tup _=>false
  | _=>true

def ires1 (s:St):IRes → Option AV
  | .tmp k=>if okRes (get s.env k) then some (get s.env k) else none
  | .cell k n=>match aLoad n (get s.env k) (hget s.heap) with
    | some x=>if okRes x then some x else none
    | none=>none
def ires (s:St):List IRes → Option (List AV)
  | []=>some []
  | x :: r=>match ires1 s x,ires s r with
    | some y,some l=>some (y :: l)
    | _,_=>none
def iret (l:List IRes) (s:St):Option AV :=
  match ires s l with
  | some [x]=>some x
  | some l=>some (.tup l)
  | none=>none

def argEnv:Nat → List AV → List (Nat × AV)
  | _,[]=>[]
  | i,x :: r=>(i,x) :: argEnv (i + 1) r

theorem get_argEnvE (E:List (Nat × AV)):∀ (l:List AV) (i k:Nat),get (argEnv i l ++ E) k = if i ≤ k then (match l[k - i]? with | some x=>x | none=>get E k) else get E k
  | [],i,k=>by simp [argEnv]
  | x :: r,i,k=>by
    simp only [argEnv,List.cons_append,get]
    by_cases h:i = k
    · subst h; simp
    · rw [if_neg h,get_argEnvE E r (i + 1) k]
      by_cases h2:i + 1 ≤ k
      · rw [if_pos h2,if_pos (by omega),show k - i = (k - (i + 1)) + 1 by omega,List.getElem?_cons_succ]
      · rw [if_neg h2]
        by_cases h3:i ≤ k
        · omega
        · rw [if_neg h3]
theorem get_mem:∀ {l:List (Nat × AV)} {k:Nat},get l k = .any ∨ (k,get l k) ∈ l
  | [],k=>.inl rfl
  | (j,x) :: r,k=>by
    simp only [get]
    split
    · rename_i h; subst h; exact .inr (by simp)
    · rcases get_mem (l:=r) (k:=k) with h | h
      · exact .inl h
      · exact .inr (by simp [h])

section
variable {P:Program} [Tabs P] {c:Ctx} [CT c P] {bl:Nat → Option Nat} {a:Act} {w:World} {s:St}

theorem okRes_G {M:Nat → Prop} {v:Value} {x:AV} (hx:okRes x = true) (hv:VRel bl M w v x):GRel bl M w v x:=by
  cases x <;> first | (simp [okRes] at hx; done) | exact hv

def rv1 (tmps:Array Value):ResultVar → Sem Value
  | .tmp t=>Pure.pure (tmps.getD t undef)
  | .cell q t=>do loadVar t (← asAddr (tmps.getD q undef))

theorem results_eq (fn:Func) (tmps:Array Value):results fn tmps = (do let vs ← fn.results.mapM (rv1 tmps); Pure.pure (if h:vs.size = 1 then vs[0] else .tuple vs)):=by
  unfold results
  congr 1

theorem ires_run (hs:SatB c bl (get s.env) (hget s.heap) a w):∀ (rv:List ResultVar) (l:List IRes),cRes P rv = some l → ∀ (xs:List AV),ires s l = some xs →
    ∃ vs:List Value,(rv.mapM (rv1 a.tmps)).run P w = .ok vs w ∧ All2 (GRel bl (Mut bl c.MF (hget s.heap)) w) vs xs
  | [],l,hc,xs,hx=>by
    simp only [cRes,Option.some.injEq] at hc
    subst hc
    simp only [ires,Option.some.injEq] at hx
    subst hx
    exact ⟨[],by simp,trivial⟩
  | .tmp t :: r,l,hc,xs,hx=>by
    simp only [cRes] at hc
    split at hc
    case isFalse=>cases hc
    rename_i hlo
    simp only [Option.map_eq_some_iff] at hc
    obtain ⟨l',h1,rfl⟩:=hc
    simp only [ires] at hx
    split at hx
    case h_2=>cases hx
    rename_i y l2 h2 h3
    cases hx
    simp only [ires1] at h2
    split at h2
    case isFalse=>cases h2
    rename_i hok
    cases h2
    obtain ⟨vs,h4,h5⟩:=ires_run hs r l' h1 l2 h3
    refine ⟨a.tmps.getD t undef :: vs,?_,okRes_G hok (by rw [← tv_lo hlo]; exact hs.env t),h5⟩
    simp only [List.mapM_cons,rv1,Sem.run_bind,Sem.run_pure,Result.andThen_ok,h4]
  | .cell q t :: r,l,hc,xs,hx=>by
    simp only [cRes] at hc
    split at hc
    case h_2=>cases hc
    rename_i n l' h0 h1
    split at hc
    case isFalse=>cases hc
    rename_i hlo
    cases hc
    simp only [ires] at hx
    split at hx
    case h_2=>cases hx
    rename_i y l2 h2 h3
    cases hx
    simp only [ires1] at h2
    split at h2
    case h_2=>cases h2
    rename_i y' hld
    split at h2
    case isFalse=>cases h2
    rename_i hok
    cases h2
    obtain ⟨vs,h4,h5⟩:=ires_run hs r l' h1 l2 h3
    have hq:=hs.env q
    rw [tv_lo hlo] at hq
    have fin:∀ {b off:Nat} {cells:List AV},a.tmps.getD q undef = .pointer (some ⟨b,off,none⟩) → CellsAt bl (Mut bl c.MF (hget s.heap)) w b off cells → ldc n cells = some y →
        ∃ vs:List Value,((ResultVar.cell q t :: r).mapM (rv1 a.tmps)).run P w = .ok vs w ∧ All2 (GRel bl (Mut bl c.MF (hget s.heap)) w) vs (y :: l2):=fun hv hcl hl=>by
      obtain ⟨u,h6,h7⟩:=run_loadVar_cells h0 hcl hl
      refine ⟨u :: vs,?_,h7,h5⟩
      simp only [List.mapM_cons,rv1,Sem.run_bind,hv,asAddr,Sem.run_pure,Result.andThen_ok,h6,h4]
    cases hval:get s.env q <;> rw [hval] at hld hq <;> simp only [aLoad] at hld <;> try cases hld
    case ip cells =>
      obtain ⟨b,off,h6,h7⟩:=CellsAt.of_ip hq
      exact fin h6 h7 hld
    case mp id st row off =>
      split at hld
      case h_2=>cases hld
      rename_i ob hob
      split at hld
      case isFalse=>cases hld
      rename_i hst
      split at hld
      case h_2=>cases hld
      rename_i rr hr
      obtain ⟨b,hb,h6⟩:=hq.mp
      rw [← hst] at h6
      exact fin h6 ((CellsAt.of_obj hs hob hb hr).drop off) hld

theorem iret_run {fn:Func} {l:List IRes} {r:AV} (hs:SatB c bl (get s.env) (hget s.heap) a w) (hc:cRes P fn.results.toList = some l) (hr:iret l s = some r) :
    ∃ v,(results fn a.tmps).run P w = .ok v w ∧ VRel bl (Mut bl c.MF (hget s.heap)) w v r:=by
  unfold iret at hr
  cases hx:ires s l with
  | none=>rw [hx] at hr; cases hr
  | some xs =>
    obtain ⟨vs,h1,h2⟩:=ires_run hs _ l hc xs hx
    have hrun:∀ v,v = (if h:vs.toArray.size = 1 then vs.toArray[0] else .tuple vs.toArray) → (results fn a.tmps).run P w = .ok v w:=fun v hv=>by
      subst hv
      rw [results_eq,Sem.run_bind,Array.mapM_eq_mapM_toList,Sem.run_map,h1]
      rfl
    rw [hx] at hr
    cases xs with
    | nil =>
      cases hr
      cases vs with
      | cons=>exact h2.elim
      | nil=>exact ⟨_,hrun _ rfl,[],by simp,trivial⟩
    | cons x xs =>
      cases xs with
      | nil =>
        cases hr
        cases vs with
        | nil=>exact h2.elim
        | cons v vs =>
          cases vs with
          | cons=>exact h2.2.elim
          | nil=>exact ⟨v,hrun _ (by simp),h2.1.toV⟩
      | cons y ys =>
        cases hr
        have hl:=h2.length
        refine ⟨_,hrun _ rfl,vs,?_,h2⟩
        rw [dif_neg (by simp [hl])]

def Done (l:List IRes) (Post:AV → List (Nat × AObj) → Prop) (e:IX) (s:St):Prop :=
  (∀ j,e ≠ .ext j) ∧ ∃ s1,Wk s s1 ∧ ∃ fs r σ',iret l (frzs fs s1) = some r ∧ (∀ i o,hget σ' i = some o → hget (frzs fs s1).heap i = some o) ∧ Closed r σ' ∧ Post r σ'

theorem fun_soundT {f:FuncId} {F:IFun} {ic:ICode} {args:List AV} {σ:List (Nat × AObj)} {Post:AV → List (Nat × AObj) → Prop} (E:List (Nat × AV)) (hE:∀ p ∈ E,p ∈ (Tabs.T P).env) (hm:P.follows .mixedOrders = true) (hf:compF P f = some F) (hic:erase ic = F.body) (hlen:args.length = F.np)
    (hi:iwp P ic ⟨argEnv 0 args ++ E,σ⟩ (Done F.res Post)):ACalls P f args σ (fun id=>1000 ≤ id ∧ id < 2000) Post:=by
  unfold compF at hf
  split at hf
  · cases hf
  rename_i fn hfn
  split at hf
  · cases hf
  rename_i body hbody
  split at hf
  case h_2=>cases hf
  rename_i b rs hb hrs
  split at hf
  case isFalse=>cases hf
  rename_i hnp
  cases hf
  intro bl MF w cargs hTH hTW hH hMF hargs
  have hal:cargs.length = fn.params.size + fn.nfree:=by rw [hargs.length]; exact hlen
  let c:Ctx:=⟨w,bl,Blocks bl σ,MF,fn.ntmps,Tabs.T P,hTH,fun b hb ⟨id,o,h1,h2⟩=>hTW b hb (.inr ⟨id,o,h1,h2⟩),fun b hb hm=>hTW b hb (.inl hm),hnp.2⟩
  haveI:CT c P:=⟨rfl⟩
  have hs:SatB c bl (get (argEnv 0 args ++ E)) (hget σ) ⟨cargs.toArray ++ Array.replicate (fn.ntmps - cargs.toArray.size) undef,[]⟩ w:=by
    refine ⟨rfl,by simp [c]; omega,fun k=>?_,hH,Stp.refl _ _,fun id o q h1 h2=>.inr ⟨id,o,h1,h2⟩,fun _ _ _=>rfl,hMF⟩
    rw [get_argEnvE]
    simp only [Nat.zero_le,if_true,Nat.sub_zero]
    cases hk:args[k]? with
    | none =>
      simp only
      rcases get_mem (l:=E) (k:=k) with hg | hg
      · rw [hg]; trivial
      · obtain ⟨h1,h2⟩:=(Tabs.T P).rel w (Mut bl MF (hget σ)) hTH hTW _ (hE _ hg)
        have e:tv ⟨cargs.toArray ++ Array.replicate (fn.ntmps - cargs.toArray.size) undef,[]⟩ k = .pointer (some ⟨k - 1000000,0,none⟩):=if_neg (by simp only at h1; omega)
        rw [e]
        exact h2.toC.toG.toV
    | some x =>
      obtain ⟨v,hv,hr⟩:=hargs.get hk
      have hlt:=(List.getElem?_eq_some_iff.1 hv).1
      have:(cargs.toArray ++ Array.replicate (fn.ntmps - cargs.toArray.size) undef).getD k undef = v:=by
        rw [Array.getD_eq_getD_getElem?,Array.getElem?_append_left (by simpa using hlt)]
        simp [hv]
      rw [tv_lo (by have:=hnp.2; omega),this]
      exact hr
  refine calls_of_wp hfn hbody ?_
  refine Code.wp_mono (fun e a' w' hq=>?_) (code_sound (c:=c) hm rfl body b hb ic hic ⟨argEnv 0 args ++ E,σ⟩ _ _ w hi ⟨bl,hs⟩)
  have fin:∀ {s':St} {ex:IX},Done rs Post ex s' → SatS c s' a' w' → a'.defers = [] ∧ ∃ v,(results fn a'.tmps).run P w' = .ok v w' ∧ ∃ u r σ' bl',Ending.returned v = .returned u ∧ Post r σ' ∧ Closed r σ' ∧ HRel bl' (Mut bl' MF (hget σ')) MF w' (hget σ') ∧ VRel bl' (Mut bl' MF (hget σ')) w' u r ∧
      Stp (Blocks bl σ) w w' ∧ (∀ id o b,hget σ' id = some o → bl' id = some b → w.heap.size ≤ b ∨ Blocks bl σ b) ∧ ∀ id,(1000 ≤ id ∧ id < 2000) → bl' id = bl id:=by
    rintro s0 ex ⟨_,s',hwk,fs,r,σ',h1,h2,h3,h4⟩ hs0
    obtain ⟨bl',hs2⟩:=SatS.frzs fs (hwk c a' w' hs0)
    obtain ⟨v,hv1,hv2⟩:=iret_run hs2 hrs h1
    have hs3:SatB c bl' (get (frzs fs s').env) (hget σ') a' w':=hs2.weaken (fun _=>.inr rfl) h2
    refine ⟨hs2.defers,v,hv1,v,r,σ',bl',rfl,h4,h3,hs3.heap,?_,hs3.step,hs3.own,fun id hid=>hs3.stab id hid.1 hid.2⟩
    refine hv2.tr ⟨fun q hq _=>⟨fun hm2=>hq ?_,rfl⟩,fun _ c1 _ fr hb=>⟨c1,fr,hb,rfl⟩⟩ (fun _ _=>rfl)
    rcases hm2 with hm2 | ⟨id,o,h5,h6⟩
    · exact .inl hm2
    · exact .inr ⟨id,o,h2 id o h5,h6⟩
  cases e with
  | normal=>obtain ⟨s',hk,hs'⟩:=hq; exact fin hk hs'
  | ret=>obtain ⟨s',hk,hs'⟩:=hq; exact fin hk hs'
  | exit id=>obtain ⟨s',hk,hs'⟩:=hq; exact absurd rfl (hk.1 id)
  | _=>exact hq.elim

theorem fun_sound {f:FuncId} {F:IFun} {ic:ICode} {args:List AV} {σ:List (Nat × AObj)} {Post:AV → List (Nat × AObj) → Prop} (hm:P.follows .mixedOrders = true) (hf:compF P f = some F) (hic:erase ic = F.body) (hlen:args.length = F.np)
    (hi:iwp P ic ⟨argEnv 0 args,σ⟩ (Done F.res Post)):ACalls P f args σ (fun id=>1000 ≤ id ∧ id < 2000) Post :=
  fun_soundT [] (fun p hp=>by cases hp) hm hf hic hlen (by rw [List.append_nil]; exact hi)

theorem ACalls.mono {f:FuncId} {args:List AV} {σ:List (Nat × AObj)} {Sb Sb':Nat → Prop} {Post Post':AV → List (Nat × AObj) → Prop} (h:ACalls P f args σ Sb Post) (hs:∀ id,Sb' id → Sb id) (hp:∀ r σ',Post r σ' → Post' r σ'):ACalls P f args σ Sb' Post' :=
  fun bl MF w cargs t1 t2 h1 h2 h3=>(h bl MF w cargs t1 t2 h1 h2 h3).mono fun _ _ ⟨v,r,σ',bl',q1,q2,q3,q4,q5,q6,q7,q8⟩=>⟨v,r,σ',bl',q1,hp _ _ q2,q3,q4,q5,q6,q7,fun id hid=>q8 id (hs id hid)⟩

def PDone (l:List IRes) (r:AV) (e:IX) (s:St):Prop:=(∀ j,e ≠ .ext j) ∧ ∃ s1,Wk s s1 ∧ ∃ fs,iret l (frzs fs s1) = some r ∧ idsV r = []

theorem iwp_mono:∀ (x:ICode) (s:St) (K K':IX → St → Prop),(∀ e s,K e s → K' e s) → iwp P x s K → iwp P x s K':=by
  have icallm0:∀ {f:FuncId} {args:List AV} {d:Option Nat} {s:St} {K K':St → Prop},(∀ s,K s → K' s) → icall0 P f args d s K → icall0 P f args d s K':=fun {f args d s K K'} hK h=>by
    rcases h with ⟨args',r,b,h1,h2,h3,h4,h5⟩ | ⟨σ0,Sb,Post,ks,h1,h2,h3,h4⟩
    · exact .inl ⟨args',r,b,h1,h2,h3,h4,hK _ h5⟩
    · exact .inr ⟨σ0,Sb,Post,ks,h1,h2,h3,fun r σ' hp=>by obtain ⟨s',q1,q2,q3⟩:=h4 r σ' hp; exact ⟨s',q1,q2,hK _ q3⟩⟩
  have icallm:∀ {f:FuncId} {args:List AV} {d:Option Nat} {s:St} {K K':St → Prop},(∀ s,K s → K' s) → icall P f args d s K → icall P f args d s K':=fun {f args d s K K'} hK h=>h.imp (icallm0 hK) fun h=>h.imp (fun ⟨fs,h⟩=>⟨fs,icallm0 hK h⟩) fun ⟨s',a',hw,h⟩=>⟨s',a',hw,icallm0 hK h⟩
  have iopm:∀ {o:IOper} {s:St} {K K':St → Prop},(∀ s,K s → K' s) → iop P o s K → iop P o s K':=fun {o s K K'} hK h=>by
    unfold iop at h ⊢
    split at h
    · exact icallm hK h
    · split at h
      · exact ⟨h.1,icallm hK h.2⟩
      · exact h
    · refine ⟨h.1,?_⟩
      have h2:=h.2
      split at h2
      · exact hK _ h2
      · obtain ⟨s',hw,h3⟩:=h2
        refine ⟨s',hw,?_⟩
        unfold opNew at h3 ⊢
        split at h3
        · exact hK _ h3
        · exact h3.elim
    · split at h
      · exact ⟨hK _ h.1,hK _ h.2⟩
      · split at h
        · exact hK _ h
        · exact h.elim
    · by_cases ha:allocs o.op = true
      · rw [if_pos ha] at h ⊢
        refine ⟨h.1,?_⟩
        have h2:=h.2
        split at h2
        · exact hK _ h2
        · exact h2.elim
      · rw [if_neg ha] at h ⊢
        split at h
        · exact hK _ h
        · exact h
  have iopsm:∀ (l:List IOper) (s:St) (K K':St → Prop),(∀ s,K s → K' s) → iops P l s K → iops P l s K':=by
    intro l
    induction l with
    | nil=>intro s K K' hK h; exact hK s h
    | cons o r ih =>
      intro s K K' hK h
      unfold iops at h ⊢
      split at h
      · exact iopm (fun s' hs'=>ih s' K K' hK hs') h
      · split at h
        · exact ⟨fun ht=>iopm (fun s' hs'=>ih s' K K' hK hs') (h.1 ht),fun ht=>ih _ K K' hK (h.2 ht)⟩
        · exact ih _ K K' hK h
        · exact h
  have idopm:∀ {al:List (Nat × Nat)} {i:Nat} {o:IDOper} {hist:List HI} {s:St} {K K':List HI → St → Prop},(∀ x s,K x s → K' x s) → idop P al i o hist s K → idop P al i o hist s K':=fun {al i o hist s K K'} hK h=>by
    unfold idop at h ⊢
    split at h
    · rcases h with ⟨args',r,b,h1,h2,h3,h4,h5,h6,h7,h8⟩ | ⟨k,ob,ob',Sb,r,h1,h2,h3,h4,h5,h6,h7,h8,h9⟩
      · exact .inl ⟨args',r,b,h1,h2,h3,h4,h5,h6,h7,hK _ _ h8⟩
      · exact .inr ⟨k,ob,ob',Sb,r,h1,h2,h3,h4,h5,h6,h7,h8,hK _ _ h9⟩
    · exact h
    · split at h
      · exact ⟨h.1,h.2.1,h.2.2.1,hK _ _ h.2.2.2⟩
      · exact h
  have idopsm:∀ {al:List (Nat × Nat)} (l:List IDOper) (i:Nat) (hist:List HI) (s:St) (K K':St → Prop),(∀ s,K s → K' s) → idops P al i l hist s K → idops P al i l hist s K':=by
    intro al l
    induction l with
    | nil=>intro i hist s K K' hK h; exact hK s h
    | cons o r ih =>
      intro i hist s K K' hK h
      unfold idops at h ⊢
      split at h
      · exact idopm (fun x s' hs'=>ih (i + 1) x s' K K' hK hs') h
      · split at h
        · exact ⟨fun ht=>idopm (fun x s' hs'=>ih (i + 1) x s' K K' hK hs') (h.1 ht),fun ht=>ih _ _ _ K K' hK (h.2 ht)⟩
        · exact ih _ _ _ K K' hK h
        · exact h
  intro x
  induction x with
  | skip=>intro s K K' hK h; exact hK _ _ h
  | ret=>intro s K K' hK h; exact hK _ _ h
  | exit id=>intro s K K' hK h; exact hK _ _ h
  | seq x y ihx ihy =>
    intro s K K' hK h
    refine ihx s _ _ (fun e s' hh=>?_) h
    cases e with
    | nrm=>exact ihy s' K K' hK hh
    | _=>exact hK _ _ hh
  | cut x y ihx ihy =>
    intro s K K' hK h
    refine ihx s _ _ (fun e s' hh=>?_) h
    cases e with
    | nrm=>obtain ⟨s'',h1,h2⟩:=hh; exact ⟨s'',h1,ihy s'' K K' hK h2⟩
    | _=>exact hK _ _ hh
  | cond v t e iht ihe =>
    intro s K K' hK h
    unfold iwp at h ⊢
    split at h
    · exact ⟨fun hb=>iht _ K K' hK (h.1 hb),fun hb=>ihe _ K K' hK (h.2 hb)⟩
    · exact h
  | block id x ih =>
    intro s K K' hK h
    refine ih s _ _ (fun e s' hh=>?_) h
    cases e with
    | ext j =>
      simp only at hh ⊢
      split
      · rename_i hj; rw [if_pos hj] at hh; exact hK _ _ hh
      · rename_i hj; rw [if_neg hj] at hh; exact hK _ _ hh
    | _=>exact hK _ _ hh
  | loop x ih =>
    intro s K K' hK h
    obtain ⟨I,h0,h1⟩:=h
    refine ⟨I,h0,fun n s hI=>ih s _ _ (fun e s' hh=>?_) (h1 n s hI)⟩
    cases e with
    | nrm=>exact hh
    | _=>exact hK _ _ hh
  | reg ops dr=>intro s K K' hK h; exact iopsm ops s _ _ (fun s' hs'=>hK _ _ hs') h
  | draw ops al dr=>intro s K K' hK h; exact idopsm ops 0 [] _ _ _ (fun s' hs'=>hK _ _ hs') h
  | free ops al dr =>
    intro s K K' hK h
    have conjm:∀ {α:Type} {F F':α → Prop} (l:List α),(∀ x,F x → F' x) → conjs l F → conjs l F':=by
      intro α F F' l hF
      induction l with
      | nil=>exact fun _=>trivial
      | cons x l ih =>
        cases l with
        | nil=>exact hF x
        | cons y l=>exact fun h=>⟨hF x h.1,ih h.2⟩
    have frm:∀ (f:Nat) (R:List (Nat × IDOper)) (s:St) (K K':St → Prop),(∀ s,K s → K' s) → ifree P f R s K → ifree P f R s K':=by
      intro f
      induction f with
      | zero=>intro R s K K' hK h; exact hK s h
      | succ f ih=>intro R s K K' hK h; exact conjm _ (fun t ht=>iopsm _ _ _ _ (fun s' hs'=>ih _ s' K K' hK hs') ht) h
    exact frm _ _ _ _ _ (fun s' hs'=>hK _ _ hs') h

theorem pfun_soundT {f:FuncId} {F:IFun} {ic:ICode} {args:List AV} {r:AV} (E:List (Nat × AV)) (hE:∀ p ∈ E,p ∈ (Tabs.T P).env) (hm:P.follows .mixedOrders = true) (hf:compF P f = some F) (hic:erase ic = F.body) (hlen:args.length = F.np) (hi:iwp P ic ⟨argEnv 0 args ++ E,[]⟩ (PDone F.res r)):PCalls P f args r:=by
  refine (fun_soundT (Post:=fun r' σ'=>r' = r ∧ σ' = []) E hE hm hf hic hlen (iwp_mono _ _ _ _ (fun e s ⟨h1,s1,hw,fs,h2,h3⟩=>⟨h1,s1,hw,fs,r,[],h2,fun i o hi=>by simp [hget] at hi,⟨(fun i hi=>by rw [h3] at hi; cases hi),(fun p hp=>by cases hp)⟩,rfl,rfl⟩) hi)).mono (fun _ h=>h.elim) (fun _ _ h=>h)
theorem pfun_sound {f:FuncId} {F:IFun} {ic:ICode} {args:List AV} {r:AV} (hm:P.follows .mixedOrders = true) (hf:compF P f = some F) (hic:erase ic = F.body) (hlen:args.length = F.np) (hi:iwp P ic ⟨argEnv 0 args,[]⟩ (PDone F.res r)):PCalls P f args r:=by
  refine (fun_sound (Post:=fun r' σ'=>r' = r ∧ σ' = []) hm hf hic hlen (iwp_mono _ _ _ _ (fun e s ⟨h1,s1,hw,fs,h2,h3⟩=>⟨h1,s1,hw,fs,r,[],h2,fun i o hi=>by simp [hget] at hi,⟨(fun i hi=>by rw [h3] at hi; cases hi),(fun p hp=>by cases hp)⟩,rfl,rfl⟩) hi)).mono (fun _ h=>h.elim) (fun _ _ h=>h)
end
end Go.Mw
namespace Go.Mw
def mv (d j:Nat):IOper:=⟨some d,.mov (.s j),none⟩
def mt (d j k:Nat):IOper:=⟨some d,.mov (.s j),some (k,true)⟩
def mf (d j k:Nat):IOper:=⟨some d,.mov (.s j),some (k,false)⟩
def o0 (d:Nat) (o:IOp):IOper:=⟨some d,o,none⟩
def ot (d k:Nat) (o:IOp):IOper:=⟨some d,o,some (k,true)⟩
def oF (d k:Nat) (o:IOp):IOper:=⟨some d,o,some (k,false)⟩
theorem mv_e (d j:Nat):mv d j = ⟨some d,.mov (.s j),none⟩:=rfl
theorem mt_e (d j k:Nat):mt d j k = ⟨some d,.mov (.s j),some (k,true)⟩:=rfl
theorem mf_e (d j k:Nat):mf d j k = ⟨some d,.mov (.s j),some (k,false)⟩:=rfl
theorem o0_e (d:Nat) (o:IOp):o0 d o = ⟨some d,o,none⟩:=rfl
theorem ot_e (d k:Nat) (o:IOp):ot d k o = ⟨some d,o,some (k,true)⟩:=rfl
theorem oF_e (d k:Nat) (o:IOp):oF d k o = ⟨some d,o,some (k,false)⟩:=rfl
attribute [go_sem] mv_e mt_e mf_e o0_e ot_e oF_e
end Go.Mw
