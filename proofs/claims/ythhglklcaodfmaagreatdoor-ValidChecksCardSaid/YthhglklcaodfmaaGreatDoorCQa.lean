import Derived.WalkKit
import Derived.Laws.Externs
import Derived.Great.BuildSlice
import Derived.Laws.StructEq
set_option linter.all false
namespace Go.Mw
def bS{p:Prop}(h:p):p:=h
def aI:=@decide_eq_false
def aF:=@decide_eq_true
def dN:=@List.length_append
def an:=@if_neg
def az:=@if_pos
def eS:=@Option.map_eq_some_iff
def bY:=@List.length_map
def i9:=@List.length_cons
def gW:=@List.mem_append
def dx:=@Nat.zero_le
def dt:=@Option.some.injEq
def dX:=@Bool.and_eq_true
def cL:=@Int.toNat_natCast
def Ss:=@List.length_singleton
def iF:=@List.take_of_length_le
def aQ:=@Nat.le_refl
def vk:=@List.append_assoc
def jh:=@List.getElem?_eq_some_iff
def dM:=@Bool.true_and
def OD:=@beq_eq_false_iff_ne
def kS:=@List.getElem?_eq_getElem
def GT:=@Bool.not_false
def Bt:=@Bool.not_true
def ii:=@List.all_eq_true
def lD:=@Bool.false_eq_true
def ol:=@decide_eq_true_eq
def eG:=@List.length_nil
def gC:=@List.nil_append
def dR:=@if_true
def iG:=@List.getElem?_map
def bM:=@List.mem_cons
def cM:=@List.map_cons
def pI:=@Array.getD_eq_getD_getElem?
def fR:=@Option.map_some
def fS:=@List.mem_singleton
def ij:=@if_false
def oG:=@List.cons_append
def kT:=@Array.getElem?_eq_some_iff
def Su:=@List.length_drop
def rN:=@List.take_length
def Sv:=@List.eq_nil_of_length_eq_zero
def kU:=@Nat.lt_or_ge
def vl:=@Option.bind_eq_some_iff
def qB:=@Nat.mul_le_mul_right
def pJ:=@Array.length_toList
def rO:=@List.mem_of_getElem?
def yz:=@Array.getElem?_eq_getElem
def yA:=@List.flatMap_cons
def gD:=@Nat.le_trans
def ab1:=@Nat.add_assoc
def ml:=@List.append_nil
def Fr:=@Bool.not_eq_true'
def jK:=@List.take_zero
def pK:=@List.mem_flatMap
def Az:=@Bool.or_eq_true
def jW:=@Bool.false_or
def J0:=@Array.getElem?_setIfInBounds
def dF:=@Bool.false_and
def lE:=@Nat.add_mul
def Bu:=@Array.getElem?_modify
def nx:=@Bool.true_or
def vm:=@List.length_take
def dY:=@List.map_append
def ny:=@Result.andThen_ok
def mq:=@Sem.run_bind
def eH:=@List.getElem_mem
def cH:=@List.not_mem_nil
def OE:=@List.drop_drop
def eA:=@List.map_nil
def fo:=@List.drop_zero
def Bv:=@Option.isSome_iff_exists
def Fs:=@List.getElem?_cons_succ
def aka:=@List.drop_eq_getElem_cons
def XV:=@List.drop_eq_nil_of_le
def vn:=@Prod.mk.injEq
def ME:=@List.length_pos_iff
def agY:=@Nat.pow_le_pow_right
def J1:=@List.getElem?_drop
def MG:=@Nat.min_eq_left
def MH:=@List.getElem?_append_left
def XW:=@List.take_append_drop
def Fu:=@Int.toNat_zero
def dk:=@Nat.zero_add
def vp:=@List.any_eq_true
def J2:=@List.map_congr_left
def AA:=@Nat.mul_one
def Fv:=@Int.toNat_one
def Sw:=@List.length_eq_zero_iff
def MI:=@List.getElem?_eq_none
def Fw:=@List.getElem?_take
def cG:=@Option.getD_some
def OF:=@List.contains_eq_mem
def XU:=@List.replicate_succ
def Cc:=@Nat.sub_self
def Fq:=@Array.getElem?_push
def MC:=@List.getElem?_range
def Ce:=@Option.some.inj
def HY:=@Array.getElem?_eq_none
def Ay:=@List.getElem?_append_right
def Cf:=@List.all_cons
def HZ:=@Nat.lt_of_lt_of_le
def vj:=@Sem.run_pure
def H0:=@Option.toList_some
def fb:=@List.mem_map
def H1:=@List.take_add_one
def MD:=@List.any_eq_false
def xJ:=@Bool.eq_iff_iff
def Qj:=@List.getElem!_eq_getElem?_getD
inductive AV where
 | bool (b:Bool)
 | int (k:IntKind) (n:Int)
 | str (s:List UInt8)
 | nl
 | sl (st:Nat) (rows:List (List AV))
 | ip (cells:List AV)
 | np
 | nf
 | any
 | ms (id st off len:Nat)
 | mp (id st row off:Nat)
 | mm (id:Nat) (k:Bool)
 | fm (es:List (AV×AV))
 | fn (f:FuncId) (caps:List AV)
 | agg (cells:List AV)
 | tup (vs:List AV)
 deriving Inhabited
def nv:Value->Prop
 | .agg _=>False
 | .tuple _=>False
 | _=>True
def bg{α β:Type}(R:α->β->Prop):List α->List β->Prop
 | [],[]=>True
 | a::l,b::m=>R a b/\bg R l m
 | _,_=>False
def bg.length{α β:Type}{R:α->β->Prop}:∀{l:List α}{m:List β},bg R l m->l.length=m.length
 | [],[],_=>rfl
 | _::_,_::_,h=>by simp[bg.length h.2]
 | [],_::_,h=>h.elim
 | _::_,[],h=>h.elim
def bg.mono{α β:Type}{R R':α->β->Prop}:∀{l:List α}{m:List β},bg R l m->(∀a b,b∈m->R a b->R' a b)->bg R' l m
 | [],[],_,_=>trivial
 | _::_,_::_,h,f=>⟨f _ _ (by simp) h.1,h.2.mono λa b hb=>f a b (by simp[hb])⟩
 | [],_::_,h,_=>h.elim
 | _::_,[],h,_=>h.elim
def bg.get{α β:Type}{R:α->β->Prop}:∀{l:List α}{m:List β},bg R l m->∀{i:Nat}{b:β},m[i]?=some b->∃a,l[i]?=some a/\R a b
 | [],[],_,i,b,h=>by simp at h
 | a::_,c::_,h,0,b,hb=>by
  simp only[List.getElem?_cons_zero,dt]at hb;subst hb;exact⟨a,by simp,h.1⟩
 | _::_,_::_,h,i+1,b,hb=>by
  simp only[Fs]at hb⊢;exact h.2.get hb
 | [],_::_,h,_,_,_=>h.elim
 | _::_,[],h,_,_,_=>h.elim
def bg.append{α β:Type}{R:α->β->Prop}:∀{l l':List α}{m m':List β},bg R l m->bg R l' m'->bg R (l++l') (m++m')
 | [],_,[],_,_,h=>h
 | _::_,_,_::_,_,h,h'=>⟨h.1,h.2.append h'⟩
 | [],_,_::_,_,h,_=>h.elim
 | _::_,_,[],_,h,_=>h.elim
def bg.take{α β:Type}{R:α->β->Prop}:∀{l:List α}{m:List β}(n:Nat),bg R l m->bg R (l.take n) (m.take n)
 | _,_,0,_=>by simp[bg]
 | [],[],_+1,_=>by simp[bg]
 | _::_,_::_,n+1,h=>⟨h.1,h.2.take n⟩
 | [],_::_,_,h=>h.elim
 | _::_,[],_,h=>h.elim
def bg.drop{α β:Type}{R:α->β->Prop}:∀{l:List α}{m:List β}(n:Nat),bg R l m->bg R (l.drop n) (m.drop n)
 | _,_,0,h=>by simpa using h
 | [],[],_+1,_=>by simp[bg]
 | _::_,_::_,n+1,h=>by simpa using h.2.drop n
 | [],_::_,_,h=>h.elim
 | _::_,[],_,h=>h.elim
def bg.of_get{α β:Type}{R:α->β->Prop}:∀{l:List α}{m:List β},l.length=m.length ->
  (∀(i:Nat)(a:α)(b:β),l[i]?=some a->m[i]?=some b->R a b)->bg R l m
 | [],[],_,_=>trivial
 | a::l,b::m,hl,h=>⟨h 0 a b (by simp) (by simp),bg.of_get (by simpa using hl) λi a b ha hb=>h (i+1) a b (by simpa using ha) (by simpa using hb)⟩
 | [],_::_,hl,_=>by simp at hl
 | _::_,[],hl,_=>by simp at hl
def gH(v:Value):AV->Prop
 | .bool b=>v = .bool b
 | .int k n=>v = .int k n
 | .str s=>v = .string ⟨s.toArray⟩
 | _=>False
inductive IRel(M:Nat->Prop)(w:World):Value->AV->Prop where
 | bool (b:Bool):IRel M w (.bool b) (.bool b)
 | int (k:IntKind) (n:Int):IRel M w (.int k n) (.int k n)
 | str (s:List UInt8):IRel M w (.string ⟨s.toArray⟩) (.str s)
 | nl:IRel M w (.slice none 0 0) .nl
 | nls (st:Nat):IRel M w (.slice none 0 0) (.sl st [])
 | np:IRel M w (.pointer none) .np
 | nf:IRel M w .nilFunc .nf
 | any (v:Value) (h:nv v):IRel M w v .any
 | sl0 (st:Nat) (a:Addr) (cap:Nat):IRel M w (.slice (some a) 0 cap) (.sl st [])
 | sl (b off cap st:Nat) (c:Array Value) (t:TypeId) (fr:Nat×Nat) (rows:List (List AV)) (vs:Nat->Nat->Value)
    (hb:w.heap[b]?=some (.cells c t fr)) (hM:¬M b) (hl:rows.length<=cap)
    (hr:∀(i:Nat)(r:List AV),rows[i]?=some r->r.length=st)
    (hv:∀(i j:Nat),i<rows.length->j<st->c[off+i*st+j]?=some (vs i j))
    (hx:∀(i j:Nat)(r:List AV)(x:AV),rows[i]?=some r->r[j]?=some x->IRel M w (vs i j) x) :
    IRel M w (.slice (some ⟨b,off,none⟩) rows.length cap) (.sl st rows)
 | ip (b off:Nat) (c:Array Value) (t:TypeId) (fr:Nat×Nat) (cells:List AV) (vs:Nat->Value)
    (hb:w.heap[b]?=some (.cells c t fr)) (hM:¬M b)
    (hv:∀(j:Nat),j<cells.length->c[off+j]?=some (vs j))
    (hx:∀(j:Nat)(x:AV),cells[j]?=some x->IRel M w (vs j) x) :
    IRel M w (.pointer (some ⟨b,off,none⟩)) (.ip cells)
 | nm:IRel M w (.map none) (.fm [])
 | fm (b:Nat) (es':Array MapEntry) (es:List (AV×AV)) (hb:w.heap[b]?=some (.map es' es'.size)) (hM:¬M b) (hn:∀(i:Nat)(e:MapEntry),es'[i]?=some e->e.born=i)
    (he:bg (λ(e:MapEntry)(p:AV×AV)=>gH e.key p.1/\gH e.val p.2) es'.toList es):IRel M w (.map (some b)) (.fm es)
def IRel.one{M:Nat->Prop}{w:World}{v:Value}{x:AV}(h:IRel M w v x):nv v:=by
 cases h<;>first|trivial|assumption
def bp{w:World}{b:Nat}{o:Obj}(h:w.heap[b]?=some o):b<w.heap.size:=by
 rcases kU b w.heap.size with h'|h'
 .exact h'
 .simp[HY h']at h
def IRel.tr{M M':Nat->Prop}{w w':World}{v:Value}{x:AV}(h:IRel M w v x)
  (hk:∀b,¬M b->b<w.heap.size->¬M' b/\w'.heap[b]? = w.heap[b]?):IRel M' w' v x:=by
 induction h with
 | bool b=>exact .bool b
 | int k n=>exact .int k n
 | str s=>exact .str s
 | nl=>exact .nl
 | nls st=>exact .nls st
 | np=>exact .np
 | nf=>exact .nf
 | any v h=>exact .any v h
 | sl0 st a cap=>exact .sl0 st a cap
 | sl b off cap st c t fr rows vs hb hM hl hr hv hx ih =>
  obtain⟨h1,h2⟩:=hk b hM (bp hb);exact .sl b off cap st c t fr rows vs (h2.trans hb) h1 hl hr hv ih
 | ip b off c t fr cells vs hb hM hv hx ih =>
  obtain⟨h1,h2⟩:=hk b hM (bp hb);exact .ip b off c t fr cells vs (h2.trans hb) h1 hv ih
 | nm=>exact .nm
 | fm b es' es hb hM hn he =>
  obtain⟨h1,h2⟩:=hk b hM (bp hb);exact .fm b es' es (h2.trans hb) h1 hn he
def fB(bl:Nat->Option Nat)(M:Nat->Prop)(w:World)(v:Value)(x:AV):Prop :=
 match x with
 | .ms id st off len=>(v = .slice none 0 0/\off=0/\len=0) \/
   (len=0/\off≠0/\∃a cap,v = .slice (some a) 0 cap) \/
   ∃b cap c t fr,bl id=some b/\v = .slice (some ⟨b,off*st,none⟩) len cap/\len<=cap/\w.heap[b]?=some (.cells c t fr)/\off*st+cap*st<=c.size
 | .mp id st row off=>∃b,bl id=some b/\v = .pointer (some ⟨b,row*st+off,none⟩)
 | .mm id k=>∃b,bl id=some b/\v=if k=true then .map (some b)else .pointer (some ⟨b,0,none⟩)
 | x=>IRel M w v x
def fnI(f:FuncId):FuncId:=if f<4000000 then f else f-4000000
def Zq(f:FuncId):Nat:=if f<4000000 then 0 else 1
def mkI(f:FuncId)(e:Bool):FuncId:=if e=true then f else f+4000000
def cJ(bl:Nat->Option Nat)(M:Nat->Prop)(w:World)(v:Value)(x:AV):Prop :=
 match x with
 | .fn f caps=>∃cs:List Value,v = .func (.func (fnI f)) (cs.take (Zq f)).toArray (cs.drop (Zq f)).toArray/\bg (fB bl M w) cs caps
 | x=>fB bl M w v x
def gq(bl:Nat->Option Nat)(M:Nat->Prop)(w:World)(v:Value)(x:AV):Prop :=
 match x with
 | .agg cells=>∃cs:List Value,v = .agg cs.toArray/\bg (cJ bl M w) cs cells
 | x=>cJ bl M w v x
def bv(bl:Nat->Option Nat)(M:Nat->Prop)(w:World)(v:Value)(x:AV):Prop :=
 match x with
 | .any=>True
 | .tup vs=>∃cs:List Value,v = .tuple cs.toArray/\bg (gq bl M w) cs vs
 | x=>gq bl M w v x
def mP(i:Nat):AV->Bool
 | .ms id _ _ _=>id==i
 | .mp id _ _ _=>id==i
 | .mm id _=>id==i
 | _=>false
def mC(i:Nat):AV->Bool
 | .fn _ caps=>caps.any (mP i)
 | x=>mP i x
def mG(i:Nat):AV->Bool
 | .agg cells=>cells.any (mC i)
 | x=>mC i x
def mV(i:Nat):AV->Bool
 | .tup vs=>vs.any (mG i)
 | x=>mG i x
structure Tr(M M':Nat->Prop)(w w':World):Prop where
 keep:∀b,¬M b->b<w.heap.size->¬M' b/\w'.heap[b]? = w.heap[b]?
 shape:∀(b:Nat)(c:Array Value)(t:TypeId)(fr:Nat×Nat),w.heap[b]?=some (.cells c t fr)->∃(c':Array Value)(fr':Nat×Nat),w'.heap[b]?=some (.cells c' t fr')/\c'.size=c.size
section
variable{bl bl':Nat->Option Nat}{M M':Nat->Prop}{w w':World}{v:Value}{x:AV}
def fB.tr(h:fB bl M w v x)(ht:Tr M M' w w')(hb:∀id,mP id x=true->bl' id=bl id):fB bl' M' w' v x:=by
 cases x<;>simp only[fB]at h⊢ <;> try exact h.tr ht.keep
 case ms id st off len =>
  rcases h with h|h|⟨b,cap,c,t,fr,h1,h2,h3,h4,h5⟩
  .exact .inl h
  .exact .inr (.inl h)
  .obtain⟨c',fr',hc',hs⟩:=ht.shape b c t fr h4;exact .inr (.inr ⟨b,cap,c',t,fr',(hb id (by simp[mP])).trans h1,h2,h3,hc',by omega⟩)
 case mp id st row off =>
  obtain⟨b,h1,h2⟩:=h;exact⟨b,(hb id (by simp[mP])).trans h1,h2⟩
 case mm id k =>
  obtain⟨b,h1,h2⟩:=h;exact⟨b,(hb id (by simp[mP])).trans h1,h2⟩
def cJ.tr(h:cJ bl M w v x)(ht:Tr M M' w w')(hb:∀id,mC id x=true->bl' id=bl id):cJ bl' M' w' v x:=by
 cases x<;>simp only[cJ]at h⊢ <;> try exact fB.tr h ht (λid hi=>hb id (by simpa[mC]using hi))
 case fn f caps =>
  obtain⟨cs,h1,h2⟩:=h;exact⟨cs,h1,h2.mono λa b hm hr=>fB.tr hr ht (λid hi=>hb id (by simp only[mC,vp];exact⟨b,hm,hi⟩))⟩
def gq.tr(h:gq bl M w v x)(ht:Tr M M' w w')(hb:∀id,mG id x=true->bl' id=bl id):gq bl' M' w' v x:=by
 cases x<;>simp only[gq]at h⊢ <;> try exact cJ.tr h ht (λid hi=>hb id (by simpa[mG]using hi))
 case agg cells =>
  obtain⟨cs,h1,h2⟩:=h;exact⟨cs,h1,h2.mono λa b hm hr=>cJ.tr hr ht (λid hi=>hb id (by simp only[mG,vp];exact⟨b,hm,hi⟩))⟩
def bv.tr(h:bv bl M w v x)(ht:Tr M M' w w')(hb:∀id,mV id x=true->bl' id=bl id):bv bl' M' w' v x:=by
 cases x<;>simp only[bv]at h⊢ <;> try exact gq.tr h ht (λid hi=>hb id (by simpa[mV]using hi))
 case tup vs =>
  obtain⟨cs,h1,h2⟩:=h;exact⟨cs,h1,h2.mono λa b hm hr=>gq.tr hr ht (λid hi=>hb id (by simp only[mV,vp];exact⟨b,hm,hi⟩))⟩
def fB.one(h:fB bl M w v x):nv v:=by
 cases x<;>simp only[fB]at h<;>try exact h.one
 case ms id st off len =>
  rcases h with⟨rfl,_⟩|⟨_,_,a,cap,rfl⟩|⟨b,cap,c,t,fr,h1,rfl,h3⟩<;>trivial
 case mp id st row off =>
  obtain⟨b,_,rfl⟩:=h;trivial
 case mm id k =>
  obtain⟨b,_,rfl⟩:=h;cases k<;>trivial
def cJ.one(h:cJ bl M w v x):nv v:=by
 cases x<;>simp only[cJ]at h<;>try exact fB.one h
 case fn f caps=>obtain⟨cs,rfl,_⟩:=h;trivial
def cJ.toV(h:cJ bl M w v x):bv bl M w v x:=by
 cases x<;>try exact h
 case any=>trivial
 case agg cells=>exact(by simp only[cJ,fB]at h;cases h)
 case tup vs=>exact(by simp only[cJ,fB]at h;cases h)
def cJ.toG(h:cJ bl M w v x):gq bl M w v x:=by
 cases x<;>try exact h
 case agg cells=>exact(by simp only[cJ,fB]at h;cases h)
def gq.toV(h:gq bl M w v x):bv bl M w v x:=by
 cases x<;>try exact h
 case any=>trivial
 case tup vs=>exact(by simp only[gq,cJ,fB]at h;cases h)
def IRel.toC(h:IRel M w v x):cJ bl M w v x:=by
 cases x<;>try exact h
 case ms=>cases h
 case mp=>cases h
 case mm=>cases h
 case fn=>cases h
end
class inductive Kd where
 | cells
 | it (s:List UInt8) (pos:Nat)
 | mp (es:List (AV×AV))
instance:Kd:=.cells
structure au where
 t:TypeId
 st:Nat
 rows:List (List AV)
 isRec:Bool
 [k:Kd]
instance:Inhabited au:=⟨⟨0,0,[],false⟩⟩
def Kd.flat:Kd->Bool
 | .cells=>true
 | _=>false
def Kd.of_flat{k:Kd}(h:k.flat=true):k=instKd:=by
 cases k with
 | cells=>rfl
 | it s pos=>cases h
 | mp es=>cases h
def AE(r:Bool)(bl:Nat->Option Nat)(M:Nat->Prop)(w:World)(v:Value)(x:AV):Prop :=
 match r with
 | true=>cJ bl M w v x
 | false=>IRel M w v x
def fQ(c:Array Value)(fr:Nat×Nat):Prop:=fr.1=fr.2\/c.size<=fr.1
def fQ.spec{c:Array Value}{fr:Nat×Nat}(h:fQ c fr):∀j,j<c.size->¬(fr.1<=j/\j<fr.2):=λj hj=>by
 rcases h with h|h<;>omega
def H4:Kd->World->Nat->Prop
 | .cells,_,_=>False
 | .it s pos,w,b=>w.heap[b]?=some (.stringIter ⟨s.toArray⟩ pos)
 | .mp es,w,b=>∃(es':Array MapEntry),w.heap[b]?=some (.map es' es'.size)/\(∀(i:Nat)(e:MapEntry),es'[i]?=some e->e.born=i)/\bg (λ(e:MapEntry)(p:AV×AV)=>gH e.key p.1/\gH e.val p.2) es'.toList es
def H4.tr{k:Kd}{w w':World}{b:Nat}(h:H4 k w b)(hk:w'.heap[b]? = w.heap[b]?):H4 k w' b:=by
 cases k with
 | cells=>exact h
 | it s pos=>exact hk.trans h
 | mp es=>obtain⟨es',h1,h2⟩:=h;exact⟨es',hk.trans h1,h2⟩
def H4.lt{k:Kd}{w:World}{b:Nat}(h:H4 k w b):b<w.heap.size:=by
 cases k with
 | cells=>exact h.elim
 | it s pos=>exact bp h
 | mp es=>obtain⟨es',h1,h2⟩:=h;exact bp h1
def MP(bl:Nat->Option Nat)(M MF:Nat->Prop)(w:World)(o:au)(b:Nat):Prop :=
 ∃c fr,w.heap[b]?=some (.cells c o.t fr)/\fQ c fr/\¬MF b/\(∀(i:Nat)(r:List AV),o.rows[i]?=some r->r.length=o.st)/\o.rows.length*o.st<=c.size /\
  ∀(i j:Nat)(r:List AV)(x:AV),o.rows[i]?=some r->r[j]?=some x->∃v,c[i*o.st+j]?=some v/\AE o.isRec bl M w v x
structure OG(MF:Nat->Prop)(w:World)(o:au)(b:Nat):Prop where
 rows:o.rows=[]
 isRec:o.isRec=false
 free:¬MF b
 rel:H4 o.k w b
def OG.tr{MF:Nat->Prop}{w w':World}{o:au}{b:Nat}(h:OG MF w o b)(hk:w'.heap[b]? = w.heap[b]?):OG MF w' o b:=⟨h.rows,h.isRec,h.free,h.rel.tr hk⟩
def OG.no{MF:Nat->Prop}{w:World}{o:au}{b:Nat}(h:OG MF w o b){i:Nat}{r:List AV}(hr:o.rows[i]?=some r):False:=by
 rw[h.rows]at hr;simp at hr
def OG.ne{MF:Nat->Prop}{w:World}{o:au}{b:Nat}(h:OG MF w o b){c:Array Value}{t:TypeId}{fr:Nat×Nat}(hc:w.heap[b]?=some (.cells c t fr)):False:=by
 have hr:=h.rel;cases hk:o.k with
 | cells=>rw[hk]at hr;exact hr
 | it s pos=>rw[hk]at hr;exact absurd (hc.symm.trans hr) (by simp)
 | mp es=>rw[hk]at hr;obtain⟨es',h1,h2⟩:=hr;exact absurd (hc.symm.trans h1) (by simp)
def OG.noflat{MF:Nat->Prop}{w:World}{o:au}{b:Nat}(h:OG MF w o b)(hf:o.k.flat=true):False:=by
 have hr:=h.rel;cases hk:o.k with
 | cells=>rw[hk]at hr;exact hr
 | it s pos=>rw[hk]at hf;cases hf
 | mp es=>rw[hk]at hf;cases hf
def pk(bl:Nat->Option Nat)(M MF:Nat->Prop)(w:World)(o:au)(b:Nat):Prop:=(o.k=Kd.cells/\MP bl M MF w o b)\/OG MF w o b
def pk.free{bl:Nat->Option Nat}{M MF:Nat->Prop}{w:World}{o:au}{b:Nat}(h:pk bl M MF w o b):¬MF b:=by
 rcases h with⟨_,_,_,_,_,h,_⟩|h
 .exact h
 .exact h.free
def pk.lt{bl:Nat->Option Nat}{M MF:Nat->Prop}{w:World}{o:au}{b:Nat}(h:pk bl M MF w o b):b<w.heap.size:=by
 rcases h with⟨_,_,_,h,_⟩|h
 .exact bp h
 .exact h.rel.lt
def MO(bl:Nat->Option Nat)(M MF:Nat->Prop)(w:World)(h:Nat->Option au):Prop :=
 (∀id o,h id=some o->(o.rows=[]/\o.isRec=false/\bl id=none)\/∃b,bl id=some b/\pk bl M MF w o b) /\
 ∀id id' o o' b,h id=some o->h id'=some o'->bl id=some b->bl id'=some b->id=id'
def bQ(bl:Nat->Option Nat)(MF:Nat->Prop)(h:Nat->Option au)(b:Nat):Prop:=MF b\/∃id o,h id=some o/\bl id=some b
structure jb(W:Nat->Prop)(w w':World):Prop where
 size:w.heap.size<=w'.heap.size
 keep:∀b,b<w.heap.size->¬W b->w'.heap[b]? = w.heap[b]?
 shape:∀(b:Nat)(c:Array Value)(t:TypeId)(fr:Nat×Nat),w.heap[b]?=some (.cells c t fr)->∃(c':Array Value)(fr':Nat×Nat),w'.heap[b]?=some (.cells c' t fr')/\c'.size=c.size
 os:w'.os=w.os
 out:w'.output=w.output
def jb.refl(W:Nat->Prop)(w:World):jb W w w:=⟨aQ _,λ_ _ _=>rfl,λ_ c _ fr h=>⟨c,fr,h,rfl⟩,rfl,rfl⟩
def jb.trans{W X:Nat->Prop}{w w' w'':World}(h:jb W w w')(h':jb X w' w'')(hx:∀b,b<w.heap.size->X b->W b):jb W w w'' where
 size:=gD h.size h'.size
 keep b hb hw:=(h'.keep b (HZ hb h.size) (λhX=>hw (hx b hb hX))).trans (h.keep b hb hw)
 shape b c t fr hb:=by
  obtain⟨c',fr',h1,h2⟩:=h.shape b c t fr hb;obtain⟨c'',fr'',h3,h4⟩:=h'.shape b c' t fr' h1;exact⟨c'',fr'',h3,h4.trans h2⟩
 os:=h'.os.trans h.os
 out:=h'.out.trans h.out
structure SG where
 B:Nat->Prop
 H:World->Prop
 env:List (Nat×AV)
 rel:∀(w:World)(M:Nat->Prop),H w->(∀b,B b->¬M b)->∀p∈env,1000000<=p.1/\IRel M w (.pointer (some ⟨p.1-1000000,0,none⟩)) p.2
 stay:∀w w':World,H w->(∀b,B b->w'.heap[b]? = w.heap[b]?)->H w'
 low:∀w:World,H w->∀b,B b->b<w.heap.size
def SG.no:SG:=⟨λ_=>False,λ_=>True,[],λ_ _ _ _ p hp=>(by cases hp),λ_ _ _ _=>trivial,λ_ _ _ h=>h.elim⟩
class bE(P:Program) where
 T:SG
structure sV where
 w0:World
 bl0:Nat->Option Nat
 W:Nat->Prop
 MF:Nat->Prop
 n:Nat
 T:SG
 tH:T.H w0
 tW:∀b,T.B b->¬W b
 tM:∀b,T.B b->¬MF b
 hn:n<=1000000
class CT(c:sV)(P:Program)[bE P]:Prop where
 eq:c.T=bE.T P
def tv(a:Act)(k:Nat):Value:=if k<1000000 then a.tmps.getD k undef else .pointer (some ⟨k-1000000,0,none⟩)
def Cb{a:Act}{k:Nat}(h:k<1000000):tv a k=a.tmps.getD k undef:=az h
def JV{a:Act}{k:Nat}(h:∀b,tv a k≠.pointer b):k<1000000/\tv a k=a.tmps.getD k undef:=by
 rcases kU k 1000000 with hl|hl
 .exact⟨hl,Cb hl⟩
 .exact absurd (an (by omega)) (h (some ⟨k-1000000,0,none⟩))
structure aT(c:sV)(bl:Nat->Option Nat)(g:Nat->AV)(h:Nat->Option au)(a:Act)(w:World):Prop where
 defers:a.defers=[]
 size:a.tmps.size=c.n
 env:∀k,bv bl (bQ bl c.MF h) w (tv a k) (g k)
 heap:MO bl (bQ bl c.MF h) c.MF w h
 step:jb c.W c.w0 w
 own:∀id o b,h id=some o->bl id=some b->c.w0.heap.size<=b\/c.W b
 stab:∀id,1000<=id->id<2000->bl id=c.bl0 id
 mf:∀b,c.MF b->b<c.w0.heap.size
def fA{α:Type}(f:Nat->α)(k:Nat)(x:α):Nat->α:=λj=>if j=k then x else f j
def cz{α:Type}(f:Nat->α)(k:Nat)(x:α):fA f k x k=x:=by simp[fA]
def cZ{α:Type}(f:Nat->α){k j:Nat}(x:α)(h:j≠k):fA f k x j=f j:=by simp[fA,h]
def Wu(a:Act)(d:Nat)(v:Value)(k:Nat)(hd:d<a.tmps.size):(a.put (some d) v).tmps.getD k undef=if k=d then v else a.tmps.getD k undef:=by
 simp only[Act.put];by_cases h:k=d
 .subst h;simp[pI,hd]
 .have h':¬d=k:=λe=>h e.symm;simp[h,h',pI,J0]
def agJ(a:Act)(d:Nat)(v:Value)(k:Nat)(hd:d<a.tmps.size)(hd':d<1000000):tv (a.put (some d) v) k=if k=d then v else tv a k:=by
 unfold tv;by_cases hk:k<1000000
 .rw[az hk,az hk,Wu a d v k hd]
 .rw[an hk,an hk,an (by omega)]
section
variable{c:sV}{bl:Nat->Option Nat}{g:Nat->AV}{h:Nat->Option au}{a:Act}{w:World}
def aT.put(s:aT c bl g h a w){d:Nat}{v:Value}{x:AV}(hd:d<c.n)(hv:bv bl (bQ bl c.MF h) w v x) :
  aT c bl (fA g d x) h (a.put (some d) v) w where
 defers:=s.defers
 size:=by simpa[Act.put]using s.size
 env k:=by
  rw[agJ a d v k (by rw[s.size];exact hd) (HZ hd c.hn)];by_cases hk:k=d
  .subst hk;simpa[fA]using hv
  .simpa[fA,hk]using s.env k
 heap:=s.heap
 step:=s.step
 own:=s.own
 stab:=s.stab
 mf:=s.mf
def aT.world(s:aT c bl g h a w){w':World}(hh:w'.heap=w.heap)(ho:w'.os=w.os)(hp:w'.output=w.output):aT c bl g h a w':=by
 have ht:Tr (bQ bl c.MF h) (bQ bl c.MF h) w w':=⟨λb hb _=>⟨hb,by rw[hh]⟩,λb c t fr hb=>⟨c,fr,by rw[hh];exact hb,rfl⟩⟩
 refine⟨s.defers,s.size,λk=>(s.env k).tr ht (λ_ _=>rfl),⟨λid o hi=>?_,s.heap.2⟩,?_,s.own,s.stab,s.mf⟩
 .rcases s.heap.1 id o hi with h1|⟨b,h1,⟨hk,c1,fr,h2,h3,h4,h5,h6,h7⟩|hsp⟩
  .exact .inl h1
  rotate_left
  .exact .inr ⟨b,h1,.inr (hsp.tr (by rw[hh]))⟩
  .refine .inr ⟨b,h1,.inl ⟨hk,c1,fr,by rw[hh];exact h2,h3,h4,h5,h6,λi j r x hr hx=>?_⟩⟩;obtain⟨v,hv1,hv2⟩:=h7 i j r x hr hx;refine⟨v,hv1,?_⟩;cases hrec:o.isRec<;>simp only[hrec,AE]at hv2⊢
   .exact hv2.tr ht.keep
   .exact hv2.tr ht (λ_ _=>rfl)
 .exact s.step.trans (X:=λ_=>False) ⟨by rw[hh];exact aQ _,λb _ _=>by rw[hh],λb c t fr hb=>⟨c,fr,by rw[hh];exact hb,rfl⟩,ho,hp⟩ (λ_ _ h=>h.elim)
def aT.weaken(s:aT c bl g h a w){g':Nat->AV}{h':Nat->Option au}(hg:∀k,g' k = .any\/g' k=g k)(hh:∀i o,h' i=some o->h i=some o):aT c bl g' h' a w:=by
 have ht:Tr (bQ bl c.MF h) (bQ bl c.MF h') w w:=⟨λb hb _=>⟨λhm=>hb (by
  rcases hm with hm|⟨id,o,h1,h2⟩
  .exact .inl hm
  .exact .inr ⟨id,o,hh id o h1,h2⟩),rfl⟩,λb c t fr hb=>⟨c,fr,hb,rfl⟩⟩
 refine⟨s.defers,s.size,λk=>?_,⟨λid o hi=>?_,λid id' o o' b h1 h2=>s.heap.2 id id' o o' b (hh _ _ h1) (hh _ _ h2)⟩,s.step,λid o b h1=>s.own id o b (hh _ _ h1),s.stab,s.mf⟩
 .rcases hg k with hk|hk
  .rw[hk];trivial
  .rw[hk];exact(s.env k).tr ht (λ_ _=>rfl)
 .rcases s.heap.1 id o (hh _ _ hi)with h1|⟨b,h1,⟨hk,c1,fr,h2,h3,h4,h5,h6,h7⟩|hsp⟩
  .exact .inl h1
  rotate_left
  .exact .inr ⟨b,h1,.inr hsp⟩
  .refine .inr ⟨b,h1,.inl ⟨hk,c1,fr,h2,h3,h4,h5,h6,λi j r x hr hx=>?_⟩⟩;obtain⟨v,hv1,hv2⟩:=h7 i j r x hr hx;refine⟨v,hv1,?_⟩;cases hrec:o.isRec<;>simp only[hrec,AE]at hv2⊢
   .exact hv2.tr ht.keep
   .exact hv2.tr ht (λ_ _=>rfl)
end
def jU(i:Nat)(x:AV):AV:=if mV i x then .any else x
def rC(i:Nat)(x:AV):AV:=if mC i x then .any else x
def ff(i:Nat)(o:au):au:=if o.isRec then{o with rows:=o.rows.map (λr=>r.map (rC i))}else o
section
variable{c:sV}{bl:Nat->Option Nat}{g:Nat->AV}{h:Nat->Option au}{a:Act}{w w':World}
def bQ.congr{MF:Nat->Prop}{h h':Nat->Option au}(hh:∀j,(h' j).isSome=(h j).isSome)(b:Nat):bQ bl MF h' b↔bQ bl MF h b:=by
 have key:∀{h h':Nat->Option au},(∀j,(h' j).isSome=(h j).isSome)->∀{j o},h' j=some o->∃o',h j=some o':=λhh j o hj=>by
  have:=hh j;rw[hj]at this;exact Bv.1 this.symm
 constructor
 .rintro(hm|⟨j,o,h1,h2⟩)
  .exact .inl hm
  .obtain⟨o',h3⟩:=key hh h1;exact .inr ⟨j,o',h3,h2⟩
 .rintro(hm|⟨j,o,h1,h2⟩)
  .exact .inl hm
  .obtain⟨o',h3⟩:=key (λj=>(hh j).symm) h1;exact .inr ⟨j,o',h3,h2⟩
def Tr.of_iff{M M':Nat->Prop}(h:∀b,M' b↔M b):Tr M M' w w :=
 ⟨λb hb _=>⟨λhm=>hb ((h b).1 hm),rfl⟩,λ_ c _ fr hb=>⟨c,fr,hb,rfl⟩⟩
def AE.tr{r:Bool}{bl bl':Nat->Option Nat}{M M':Nat->Prop}{v:Value}{x:AV}(h:AE r bl M w v x)(ht:Tr M M' w w')(hb:r=true->∀id,mC id x=true->bl' id=bl id):AE r bl' M' w' v x:=by
 cases r
 .exact IRel.tr h ht.keep
 .exact cJ.tr h ht (hb rfl)
def afZ(i:Nat)(o:au):(ff i o).t=o.t:=by unfold ff;split<;>rfl
def C4(i:Nat)(o:au):(ff i o).st=o.st:=by unfold ff;split<;>rfl
def uX(i:Nat)(o:au):(ff i o).isRec=o.isRec:=by unfold ff;split<;>rfl
def afY(i:Nat)(o:au):(ff i o).k=o.k:=by unfold ff;split<;>rfl
def RM{M MF:Nat->Prop}{i:Nat}{o:au}{b:Nat}(hO:MP bl M MF w o b):MP bl M MF w (ff i o) b:=by
 obtain⟨c1,fr,h2,h3,h4,h5,h6,h7⟩:=hO;by_cases hr:o.isRec=true
 .refine⟨c1,fr,by rw[afZ];exact h2,h3,h4,?_,?_,?_⟩
  .intro k r hk;rw[C4];simp only[ff,hr,dR,iG,eS]at hk;obtain⟨r0,h0,rfl⟩:=hk;simpa using h5 k r0 h0
  .rw[C4];simpa[ff,hr]using h6
  .intro k j r x hk hx;rw[C4,uX];simp only[ff,hr,dR,iG,eS]at hk;obtain⟨r0,h0,rfl⟩:=hk;simp only[iG,eS]at hx;obtain⟨x0,hx0,rfl⟩:=hx;obtain⟨v,hv1,hv2⟩:=h7 k j r0 x0 h0 hx0;refine⟨v,hv1,?_⟩;rw[hr]at hv2⊢;unfold rC;split
   .exact IRel.toC (bl:=bl) (.any v (cJ.one (bl:=bl) hv2))
   .exact hv2
 .have e:ff i o=o:=by simp[ff,hr]
  rw[e];exact⟨c1,fr,h2,h3,h4,h5,h6,h7⟩
def aT.purge(s:aT c bl g h a w)(i:Nat):aT c bl (λk=>jU i (g k)) (λj=>(h j).map (ff i)) a w:=by
 have hm:∀b,bQ bl c.MF (λj=>(h j).map (ff i)) b↔bQ bl c.MF h b:=bQ.congr (λj=>by simp);have ht:=Tr.of_iff (w:=w) hm;refine⟨s.defers,s.size,λk=>?_,⟨λid o hi=>?_,λid id' o o' b h1 h2=>?_⟩,s.step,λid o b h1=>?_,s.stab,s.mf⟩
 .show bv _ _ _ _ (jU i (g k));unfold jU;split
  .trivial
  .exact(s.env k).tr ht (λ_ _=>rfl)
 .simp only[eS]at hi;obtain⟨o0,h0,rfl⟩:=hi;rcases s.heap.1 id o0 h0 with h1|⟨b,h1,⟨hk0,hO⟩|hsp⟩
  .refine .inl ⟨?_,by rw[uX];exact h1.2.1,h1.2.2⟩;simp[ff,h1.2.1,h1.1]
  .refine .inr ⟨b,h1,.inl ⟨by rw[afY];exact hk0,?_⟩⟩;obtain⟨c1,fr,h2,h3,h4,h5,h6,h7⟩:=RM (i:=i) hO
   exact⟨c1,fr,h2,h3,h4,h5,h6,λk j r x hk hx=>by
    obtain⟨v,hv1,hv2⟩:=h7 k j r x hk hx;exact⟨v,hv1,hv2.tr ht (λ_ _ _=>rfl)⟩⟩
  .refine .inr ⟨b,h1,.inr ?_⟩;rw[show ff i o0=o0 by simp[ff,hsp.isRec]];exact hsp
 .simp only[eS]at h1 h2;obtain⟨o1,h1,_⟩:=h1;obtain⟨o2,h2,_⟩:=h2;exact s.heap.2 id id' o1 o2 b h1 h2
 .simp only[eS]at h1;obtain⟨o1,h1,_⟩:=h1;exact s.own id o1 b h1
def dG(i:Nat)(g:Nat->AV)(h:Nat->Option au):Prop :=
 (∀k,mV i (g k)=false)/\∀j o,h j=some o->o.isRec=true->∀r∈o.rows,∀x∈r,mC i x=false
def aaC(i:Nat)(x:AV):mC i (rC i x)=false:=by
 unfold rC;split
 .rfl
 .simp_all
def pH(i:Nat)(g:Nat->AV)(h:Nat->Option au):dG i (λk=>jU i (g k)) (λj=>if j=i then none else(h j).map (ff i)):=by
 refine⟨λk=>?_,λj o hj hr r hmr x hmx=>?_⟩
 .show mV i (jU i (g k))=false;unfold jU;split
  .rfl
  .simp_all
 .by_cases hji:j=i
  .simp[hji]at hj
  .simp only[hji,ij,eS]at hj;obtain⟨o0,h0,rfl⟩:=hj;rw[uX]at hr;simp only[ff,hr,dR,fb]at hmr;obtain⟨r0,_,rfl⟩:=hmr;simp only[fb]at hmx;obtain⟨x0,_,rfl⟩:=hmx;exact aaC i x0
def aT.kill(s:aT c bl g h a w)(i:Nat):aT c bl (λk=>jU i (g k)) (λj=>if j=i then none else(h j).map (ff i)) a w :=
 (s.purge i).weaken (λ_=>.inr rfl) (λj o hj=>by
  by_cases hji:j=i
  .simp[hji]at hj
  .simpa[hji]using hj)
def SD(bl:Nat->Option Nat)(M:Nat->Prop)(w:World)(o:au)(cs:Array Value):Prop :=
 (∀(i:Nat)(r:List AV),o.rows[i]?=some r->r.length=o.st)/\o.rows.length*o.st<=cs.size /\
 ∀(i j:Nat)(r:List AV)(x:AV),o.rows[i]?=some r->r[j]?=some x->∃v,cs[i*o.st+j]?=some v/\AE o.isRec bl M w v x
def aT.new(s:aT c bl g h a w){i:Nat}{o:au}{cs:Array Value}{fr:Nat×Nat}(hi:h i=none)(hu:dG i g h)
  (hid:i<1000\/2000<=i) (hw:w'.heap=w.heap.push (.cells cs o.t fr)) (hos:w'.os=w.os) (hout:w'.output=w.output) (uf:fQ cs fr)
  (hc:SD bl (bQ bl c.MF h) w o cs) (hno:o.isRec=true->∀r∈o.rows,∀x∈r,mC i x=false) (hkc:o.k=Kd.cells:=by rfl) :
  aT c (fA bl i (some w.heap.size)) g (fA h i (some o)) a w':=by
 have hbl:∀j,j≠i->fA bl i (some w.heap.size) j=bl j:=λj hj=>cZ _ _ hj;have hlt:∀j oj b,h j=some oj->bl j=some b->b<w.heap.size:=λj oj b h1 h2=>by
  rcases s.heap.1 j oj h1 with h3|⟨b',h3,⟨_,c1,f1,h4,_⟩|hsp⟩
  .rw[h3.2.2]at h2;cases h2
  .rw[h2]at h3;cases h3;exact bp h4
  .rw[h2]at h3;cases h3;exact hsp.rel.lt
 have hmut:∀b,bQ (fA bl i (some w.heap.size)) c.MF (fA h i (some o)) b->bQ bl c.MF h b\/b=w.heap.size:=by
  rintro b (hm|⟨j,oj,h1,h2⟩)
  .exact .inl (.inl hm)
  .by_cases hj:j=i
   .subst hj;rw[cz]at h2;cases h2;exact .inr rfl
   .rw[cZ _ _ hj]at h1 h2;exact .inl (.inr ⟨j,oj,h1,h2⟩)
 have hpush:∀b,b<w.heap.size->w'.heap[b]? = w.heap[b]?:=λb hb=>by
  rw[hw,Fq];simp[Nat.ne_of_lt hb]
 have ht:Tr (bQ bl c.MF h) (bQ (fA bl i (some w.heap.size)) c.MF (fA h i (some o))) w w':=by
  refine⟨λb hb hlt'=>⟨λhm=>?_,hpush b hlt'⟩,λb c1 t f1 hb=>⟨c1,f1,by rw[hpush b (bp hb)];exact hb,rfl⟩⟩;rcases hmut b hm with hm|hm
  .exact hb hm
  .exact absurd hm (Nat.ne_of_lt hlt')
 refine⟨s.defers,s.size,λk=>(s.env k).tr ht (λid hmi=>hbl id (λe=>?_)),⟨λid o1 h1=>?_,λid id' o1 o2 b h1 h2 h3 h4=>?_⟩,?_,λid o1 b h1 h2=>?_,λid h1 h2=>?_,s.mf⟩
 .subst e;rw[hu.1 k]at hmi;cases hmi
 .by_cases hj:id=i
  .subst hj;rw[cz]at h1;cases h1;refine .inr ⟨w.heap.size,cz _ _ _,.inl ⟨hkc,cs,fr,by rw[hw];simp,uf,λhm=>?_,hc.1,hc.2.1,λk j r x hk hx=>?_⟩⟩
   .exact absurd (s.mf _ hm) (Nat.not_lt.2 s.step.size)
   .obtain⟨v,hv1,hv2⟩:=hc.2.2 k j r x hk hx;refine⟨v,hv1,hv2.tr ht (λhr id hmi=>hbl id (λe=>?_))⟩;subst e;rw[hno hr r (rO hk) x (rO hx)]at hmi;cases hmi
  .rw[cZ _ _ hj]at h1;rcases s.heap.1 id o1 h1 with h3|⟨b,h3,⟨hk0,c1,f1,h4,h5,h6,h7,h8,h9⟩|hsp⟩
   .exact .inl ⟨h3.1,h3.2.1,by rw[hbl id hj];exact h3.2.2⟩
   rotate_left
   .exact .inr ⟨b,by rw[hbl id hj];exact h3,.inr (hsp.tr (hpush b hsp.rel.lt))⟩
   .refine .inr ⟨b,by rw[hbl id hj];exact h3,.inl ⟨hk0,c1,f1,by rw[hpush b (bp h4)];exact h4,h5,h6,h7,h8,λk j r x hk hx=>?_⟩⟩;obtain⟨v,hv1,hv2⟩:=h9 k j r x hk hx;refine⟨v,hv1,hv2.tr ht (λhr id' hmi=>hbl id' (λe=>?_))⟩;subst e;rw[hu.2 id o1 h1 hr r (rO hk) x (rO hx)]at hmi;cases hmi
 .by_cases hj:id=i<;>by_cases hj':id'=i
  .rw[hj,hj']
  .subst hj;rw[cz]at h3;cases h3;rw[cZ _ _ hj']at h2 h4;exact absurd (hlt _ _ _ h2 h4) (Nat.lt_irrefl _)
  .subst hj';rw[cz]at h4;cases h4;rw[cZ _ _ hj]at h1 h3;exact absurd (hlt _ _ _ h1 h3) (Nat.lt_irrefl _)
  .rw[cZ _ _ hj]at h1 h3;rw[cZ _ _ hj']at h2 h4;exact s.heap.2 _ _ _ _ _ h1 h2 h3 h4
 .refine s.step.trans (X:=λ_=>False) ⟨by rw[hw];simp,λb hb _=>hpush b hb,ht.shape,hos,hout⟩ (λ_ _ h=>h.elim)
 .by_cases hj:id=i
  .subst hj;rw[cz]at h2;cases h2;exact .inl s.step.size
  .rw[cZ _ _ hj]at h1 h2;exact s.own id o1 b h1 h2
 .rw[hbl id (by omega)];exact s.stab id h1 h2
def aT.new0(s:aT c bl g h a w){i:Nat}{o:au}(hi:h i=none)(hu:dG i g h)(hid:i<1000\/2000<=i)(hrows:o.rows=[])(hrec:o.isRec=false) :
  aT c (fA bl i none) g (fA h i (some o)) a w:=by
 have hbl:∀j,j≠i->fA bl i none j=bl j:=λj hj=>cZ _ _ hj;have hmut:∀b,bQ (fA bl i none) c.MF (fA h i (some o)) b->bQ bl c.MF h b:=by
  rintro b (hm|⟨j,oj,h1,h2⟩)
  .exact .inl hm
  .by_cases hj:j=i
   .subst hj;rw[cz]at h2;cases h2
   .rw[cZ _ _ hj]at h1 h2;exact .inr ⟨j,oj,h1,h2⟩
 have ht:Tr (bQ bl c.MF h) (bQ (fA bl i none) c.MF (fA h i (some o))) w w :=
  ⟨λb hb _=>⟨λhm=>hb (hmut b hm),rfl⟩,λb c1 t f1 hb=>⟨c1,f1,hb,rfl⟩⟩
 refine⟨s.defers,s.size,λk=>(s.env k).tr ht (λid hmi=>hbl id (λe=>?_)),⟨λid o1 h1=>?_,λid id' o1 o2 b h1 h2 h3 h4=>?_⟩,s.step,λid o1 b h1 h2=>?_,λid h1 h2=>?_,s.mf⟩
 .subst e;rw[hu.1 k]at hmi;cases hmi
 .by_cases hj:id=i
  .subst hj;rw[cz]at h1;cases h1;exact .inl ⟨hrows,hrec,cz _ _ _⟩
  .rw[cZ _ _ hj]at h1;rcases s.heap.1 id o1 h1 with h3|⟨b,h3,⟨hk0,c1,f1,h4,h5,h6,h7,h8,h9⟩|hsp⟩
   .exact .inl ⟨h3.1,h3.2.1,by rw[hbl id hj];exact h3.2.2⟩
   rotate_left
   .exact .inr ⟨b,by rw[hbl id hj];exact h3,.inr hsp⟩
   .refine .inr ⟨b,by rw[hbl id hj];exact h3,.inl ⟨hk0,c1,f1,h4,h5,h6,h7,h8,λk j r x hk hx=>?_⟩⟩;obtain⟨v,hv1,hv2⟩:=h9 k j r x hk hx;refine⟨v,hv1,hv2.tr ht (λhr id' hmi=>hbl id' (λe=>?_))⟩;subst e;rw[hu.2 id o1 h1 hr r (rO hk) x (rO hx)]at hmi;cases hmi
 .by_cases hj:id=i
  .subst hj;rw[cz]at h3;cases h3
  .by_cases hj':id'=i
   .subst hj';rw[cz]at h4;cases h4
   .rw[cZ _ _ hj]at h1 h3;rw[cZ _ _ hj']at h2 h4;exact s.heap.2 _ _ _ _ _ h1 h2 h3 h4
 .by_cases hj:id=i
  .subst hj;rw[cz]at h2;cases h2
  .rw[cZ _ _ hj]at h1 h2;exact s.own id o1 b h1 h2
 .rw[hbl id (by omega)];exact s.stab id h1 h2
def aT.writeF(s:aT c bl g h a w){i b:Nat}{o o':au}{c1 c2:Array Value}{fr fr2:Nat×Nat}(hi:h i=some o)(hb:bl i=some b)
  (h1:w.heap[b]?=some (.cells c1 o.t fr)) (h2:w'.heap[b]?=some (.cells c2 o.t fr2)) (uf:fQ c2 fr2) (hsz:c2.size=c1.size) (hsize:w'.heap.size=w.heap.size)
  (hother:∀b',b'≠b->w'.heap[b']? = w.heap[b']?) (hos:w'.os=w.os) (hout:w'.output=w.output) (ht':o'.t=o.t)
  (hc:SD bl (bQ bl c.MF h) w o' c2) (hkc:o'.k=o.k:=by rfl):aT c bl g (fA h i (some o')) a w':=by
 have hm:∀b,bQ bl c.MF (fA h i (some o')) b↔bQ bl c.MF h b:=bQ.congr (λj=>by
  by_cases hj:j=i
  .subst hj;simp[cz,hi]
  .rw[cZ _ _ hj])
 have hmb:bQ bl c.MF h b:=.inr ⟨i,o,hi,hb⟩;have hshape:∀(b':Nat)(c0:Array Value)(t:TypeId)(f0:Nat×Nat),w.heap[b']?=some (.cells c0 t f0)->∃(c':Array Value)(f1:Nat×Nat),w'.heap[b']?=some (.cells c' t f1)/\c'.size=c0.size:=by
  intro b' c0 t f0 hb';by_cases hbb:b'=b
  .subst hbb;rw[h1]at hb';cases hb';exact⟨c2,fr2,h2,hsz⟩
  .exact⟨c0,f0,by rw[hother b' hbb];exact hb',rfl⟩
 have ht:Tr (bQ bl c.MF h) (bQ bl c.MF (fA h i (some o'))) w w' :=
  ⟨λb' hb' _=>⟨λhmm=>hb' ((hm b').1 hmm),hother b' (λe=>hb' (e▸hmb))⟩,hshape⟩
 refine⟨s.defers,s.size,λk=>(s.env k).tr ht (λ_ _=>rfl),⟨λid o1 h3=>?_,λid id' o1 o2 b' h3 h4=>?_⟩,?_,λid o1 b' h3=>?_,s.stab,s.mf⟩
 .by_cases hj:id=i
  .subst hj;rw[cz]at h3;cases h3;have hcell:o.k=Kd.cells/\¬c.MF b:=by
    rcases s.heap.1 id o hi with hn|⟨b',hb',⟨hk0,c0,f0,g4,g5,g6,_⟩|hsp⟩
    .rw[hn.2.2]at hb;cases hb
    .rw[hb]at hb';cases hb';exact⟨hk0,g6⟩
    .rw[hb]at hb';cases hb';refine⟨?_,hsp.free⟩;have hr:=hsp.rel;cases hkk:o.k with
     | cells=>rfl
     | it s pos=>rw[hkk]at hr;have:=hr.symm.trans h1;cases this
     | mp es=>rw[hkk]at hr;obtain⟨es',hr,_⟩:=hr;rw[h1]at hr;cases hr
   refine .inr ⟨b,hb,.inl ⟨hkc.trans hcell.1,c2,fr2,by rw[ht'];exact h2,uf,hcell.2,hc.1,hc.2.1,λk j r x hk hx=>?_⟩⟩;obtain⟨v,hv1,hv2⟩:=hc.2.2 k j r x hk hx;exact⟨v,hv1,hv2.tr ht (λ_ _ _=>rfl)⟩
  .rw[cZ _ _ hj]at h3;rcases s.heap.1 id o1 h3 with g3|⟨b',g3,⟨hk0,c0,f0,g4,g5,g6,g7,g8,g9⟩|hsp⟩
   .exact .inl g3
   rotate_left
   .have hbb:b'≠b:=λe=>hj (s.heap.2 id i o1 o b h3 hi (e▸g3) hb);exact .inr ⟨b',g3,.inr (hsp.tr (hother b' hbb))⟩
   .have hbb:b'≠b:=λe=>hj (s.heap.2 id i o1 o b h3 hi (e▸g3) hb);refine .inr ⟨b',g3,.inl ⟨hk0,c0,f0,by rw[hother b' hbb];exact g4,g5,g6,g7,g8,λk j r x hk hx=>?_⟩⟩;obtain⟨v,hv1,hv2⟩:=g9 k j r x hk hx;exact⟨v,hv1,hv2.tr ht (λ_ _ _=>rfl)⟩
 .have key:∀{j oj},fA h i (some o') j=some oj->∃o0,h j=some o0:=λ{j oj} hj=>by
   by_cases hji:j=i
   .subst hji;exact⟨o,hi⟩
   .rw[cZ _ _ hji]at hj;exact⟨oj,hj⟩
  obtain⟨p,hp⟩:=key h3;obtain⟨q,hq⟩:=key h4;exact s.heap.2 id id' p q b' hp hq
 .refine s.step.trans (X:=λb'=>b'=b) ⟨Nat.le_of_eq hsize.symm,λb' _ hb'=>hother b' hb',hshape,hos,hout⟩ (λb' hlt hb'=>?_);subst hb';rcases s.own i o b' hi hb with h5|h5
  .exact absurd hlt (Nat.not_lt.2 h5)
  .exact h5
 .by_cases hj:id=i
  .subst hj;exact s.own id o b' hi
  .rw[cZ _ _ hj]at h3;exact s.own id o1 b' h3
def aT.write(s:aT c bl g h a w){i b:Nat}{o o':au}{c1 c2:Array Value}{fr:Nat×Nat}(hi:h i=some o)(hb:bl i=some b)
  (h1:w.heap[b]?=some (.cells c1 o.t fr)) (h2:w'.heap[b]?=some (.cells c2 o.t fr)) (hsz:c2.size=c1.size) (hsize:w'.heap.size=w.heap.size)
  (hother:∀b',b'≠b->w'.heap[b']? = w.heap[b']?) (hos:w'.os=w.os) (hout:w'.output=w.output) (ht':o'.t=o.t)
  (hc:SD bl (bQ bl c.MF h) w o' c2) (hkc:o'.k=o.k:=by rfl):aT c bl g (fA h i (some o')) a w':=by
 refine s.writeF hi hb h1 h2 ?_ hsz hsize hother hos hout ht' hc hkc;rcases s.heap.1 i o hi with hn|⟨b',hb',⟨_,c0,f0,g4,g5,_⟩|hsp⟩
 .rw[hn.2.2]at hb;cases hb
 rotate_left
 .rw[hb]at hb';cases hb';exfalso;have hr:=hsp.rel;cases hkk:o.k with
  | cells=>rw[hkk]at hr;exact hr
  | it s pos=>rw[hkk]at hr;have:=hr.symm.trans h1;cases this
  | mp es=>rw[hkk]at hr;obtain⟨es',hr,_⟩:=hr;rw[h1]at hr;cases hr
 .rw[hb]at hb';cases hb';rw[h1]at g4;cases g4;unfold fQ at g5⊢;rw[hsz];exact g5
def qZ(i:Nat)(o:au)(x:AV):AV :=
 match x with
 | .ms id st off len=>if id=i then(if st=o.st/\off+len<=o.rows.length then .sl st ((o.rows.drop off).take len)else .any)else x
 | .mp id st row off=>if id=i then(if st=o.st then(match o.rows[row]? with|some r=>.ip (r.drop off)|none=>.any)else .any)else x
 | .mm id k=>if id=i then(match k,o.k with|true,.mp es=>.fm es|_,_=>.any)else x
 | x=>x
def x2(i:Nat)(o:au)(x:AV):AV :=
 match x with
 | .fn f caps=>.fn f (caps.map (qZ i o))
 | x=>qZ i o x
def DM(i:Nat)(o:au)(x:AV):AV :=
 match x with
 | .agg cells=>.agg (cells.map (x2 i o))
 | x=>x2 i o x
def vN(i:Nat)(o:au)(x:AV):AV :=
 match x with
 | .tup vs=>.tup (vs.map (DM i o))
 | x=>DM i o x
def j5(i:Nat)(o:au)(o1:au):au:=if o1.isRec then{o1 with rows:=o1.rows.map (λr=>r.map (x2 i o))}else o1
def bg.mapRight{α β:Type}{R R':α->β->Prop}{f:β->β}:∀{l:List α}{m:List β},bg R l m->(∀a b,R a b->R' a (f b))->bg R' l (m.map f)
 | [],[],_,_=>trivial
 | _::_,_::_,h,hf=>⟨hf _ _ h.1,h.2.mapRight hf⟩
 | [],_::_,h,_=>h.elim
 | _::_,[],h,_=>h.elim
def DN{M M':Nat->Prop}{MF:Nat->Prop}{i b:Nat}{o:au}{v:Value}{x:AV}(ht:Tr M M' w w)(hM':¬M' b)(hO:(o.rows=[]/\bl i=none)\/(bl i=some b/\pk bl M MF w o b))(hrec:o.isRec=false)
  (hx:fB bl M w v x):fB bl M' w v (qZ i o x):=by
 have same:fB bl M' w v x:=hx.tr ht (λ_ _=>rfl);cases x<;>try exact same
 case ms id st off len =>
  simp only[qZ];split
  case isFalse=>exact same
  rename_i hid;subst hid;have hone:=fB.one hx;split
  case isFalse=>exact IRel.any v hone
  rename_i hcond;obtain⟨rfl,hlen⟩:=hcond;simp only[fB]at hx;rcases hx with⟨rfl,rfl,rfl⟩|⟨rfl,_,a1,cap,rfl⟩|⟨b',cap,c,t,fr,h1,rfl,h3,h4,h5⟩
  .simp only[jK];exact IRel.nls _
  .simp only[jK];show IRel M' w _ _;exact IRel.sl0 _ a1 cap
  .rcases hO with hO|⟨hb,⟨_,c1,f1,g2,g3,g4,g5,g6,g7⟩|hsp⟩
   .rw[hO.2]at h1;cases h1
   rotate_left
   .rw[hb]at h1;cases h1;exact(hsp.ne h4).elim
   .rw[hb]at h1;cases h1;have hlen':((o.rows.drop off).take len).length=len:=by simp;omega
    have key:=IRel.sl (M:=M') (w:=w) b (off*o.st) cap o.st c1 o.t f1 ((o.rows.drop off).take len) (λk j=>(c1[off*o.st+k*o.st+j]?).getD default) g2 hM' (by omega)
     (λk r hk=>by
      have:o.rows[off+k]?=some r:=by
       rw[Fw]at hk;split at hk
       .simpa using hk
       .cases hk
      exact g5 _ _ this)
     (λk j hk hj=>by
      have hk':off+k<o.rows.length:=by omega
      have e1:o.rows[off+k]?=some o.rows[off+k]:=kS hk';have hl:=g5 _ _ e1;have e2:(o.rows[off+k])[j]?=some (o.rows[off+k])[j]:=kS (by omega);obtain⟨u,hu,_⟩:=g7 _ _ _ _ e1 e2;have e3:off*o.st+k*o.st+j=(off+k)*o.st+j:=by rw[lE]
      rw[e3,hu];rfl)
     (λk j r x hk hx=>by
      have hk':o.rows[off+k]?=some r:=by
       rw[Fw]at hk;split at hk
       .simpa using hk
       .cases hk
      obtain⟨u,hu,hr⟩:=g7 _ _ _ _ hk' hx;have e3:off*o.st+k*o.st+j=(off+k)*o.st+j:=by rw[lE]
      simp only[e3,hu,cG];rw[hrec]at hr;exact IRel.tr hr ht.keep)
    rw[hlen']at key;exact key
 case mm id k =>
  simp only[qZ];split
  case isFalse=>exact same
  rename_i hid;subst hid;split
  case h_2=>exact IRel.any v (fB.one hx)
  rename_i es hk;simp only[fB,dR]at hx;obtain⟨b',h1,rfl⟩:=hx;rcases hO with hO|⟨hb,⟨hc,_⟩|hsp⟩
  .rw[hO.2]at h1;cases h1
  .rw[hk]at hc;cases hc
  .rw[hb]at h1;cases h1;have hr:=hsp.rel;rw[hk]at hr;obtain⟨es',q1,q2,q3⟩:=hr;exact IRel.fm b es' es q1 hM' q2 q3
 case mp id st row off =>
  simp only[qZ];split
  case isFalse=>exact same
  rename_i hid;subst hid;have hone:=fB.one hx;split
  case isFalse=>exact IRel.any v hone
  rename_i hst;subst hst;split
  case h_2=>exact IRel.any v hone
  rename_i r hr;simp only[fB]at hx;obtain⟨b',h1,rfl⟩:=hx;rcases hO with hO|⟨hb,⟨_,c1,f1,g2,g3,g4,g5,g6,g7⟩|hsp⟩
  .rw[hO.2]at h1;cases h1
  rotate_left
  .exact(hsp.no hr).elim
  .rw[hb]at h1;cases h1;have cell:∀(j:Nat)(x:AV),(r.drop off)[j]?=some x->∃u,c1[row*o.st+off+j]?=some u/\IRel M' w u x:=λj x hx=>by
    rw[J1]at hx;obtain⟨u,hu,hr'⟩:=g7 _ _ _ _ hr hx;rw[hrec]at hr';exact⟨u,by rw[<-hu];congr 1;omega,IRel.tr hr' ht.keep⟩
   exact IRel.ip b (row*o.st+off) c1 o.t f1 (r.drop off) (λj=>(c1[row*o.st+off+j]?).getD default) g2 hM'
    (λj hj=>by
     obtain⟨u,hu,_⟩:=cell j _ (kS hj);rw[hu];rfl)
    (λj x hx=>by
     obtain⟨u,hu,hr'⟩:=cell j x hx;simp only[hu,cG];exact hr')
end
inductive IV where
 | s (k:Nat)
 | c (x:AV)
 deriving Inhabited
inductive LK where
 | b
 | i
 | s
 deriving Inhabited
inductive KK where
 | i
 | s
 | b
 deriving Inhabited
inductive MK where
 | rng
 | nxt
 | mkm
 | mln
 | mlk (ok:Bool) (kd:KK) (z:AV)
 | mup (kd:KK)
 | mnt (kd:KK) (z:AV)
 | mst
 deriving Inhabited
inductive ln where
 | mov (x:IV)
 | pick (c a b:IV)
 | new (t:TypeId) (cells:List AV)
 | box (t:TypeId) (n:Nat) (x:IV)
 | build (cells:List AV) (parts:List (Nat×Nat×IV))
 | bsl (t:TypeId) (st:Nat) (rows:List (List AV)) (parts:List (Nat×IV))
 | load (n:Option Nat) (p:IV)
 | store (n:Nat) (p x:IV)
 | fadr (off:Nat) (p:IV)
 | fld (off:Nat) (n:Option Nat) (x:IV)
 | iadr (st:Nat) (x i:IV)
 | aadr (st n:Nat) (x i:IV)
 | mnx (mx:Bool) (x y:IV)
 | cpy (st:Nat) (x y:IV)
 | cvm (x:IV)
 | sib (x y:IV)
 | mop (k:MK) (xs:List IV)
 | slc (st:Nat) (x:IV) (lo hi mx:Option IV)
 | len (x:IV)
 | app (t:TypeId) (st:Nat) (x y:IV)
 | slen (x:IV)
 | sslc (x:IV) (lo hi:Option IV)
 | apps (t:TypeId) (x y:IV)
 | bin (op:BinOp) (x y:IV)
 | bbin (op:BinOp) (x y:IV)
 | pbin (op:BinOp) (x y:IV)
 | sbin (op:BinOp) (ls:List LK) (x y:IV)
 | un (op:UnOp) (x:IV)
 | cvi (k:IntKind) (x:IV)
 | cvs (x:IV)
 | cvt (x:IV)
 | cvb (t:TypeId) (x:IV)
 | call (f:FuncId) (args:List IV)
 | callv (f:IV) (args:List IV)
 | ext (x:IV) (i:Nat)
 | nchk (x:IV)
 | mkf (f:FuncId) (caps:List IV)
 | sidx (x i:IV)
 | snl (neg:Bool) (x:IV)
 | mks (t:TypeId) (st:Nat) (zero:List AV) (len cap:IV)
 deriving Inhabited
structure bH where
 dst:Option Nat
 op:ln
 g:Option (Nat×Bool)
 deriving Inhabited
inductive bD where
 | no
 | put (i:Nat) (o:au)
 | new (i:Nat) (o:au)
 | reb (i:Nat) (o:au)
 deriving Inhabited
def val(g:Nat->AV):IV->AV
 | .s k=>g k
 | .c x=>x
def jv:AV->Option (List AV)
 | .agg cs=>some cs
 | .tup _=>none
 | .any=>none
 | x=>some [x]
def vO:AV->Bool
 | .ms ..=>false
 | .mm ..=>false
 | .mp ..=>false
 | .fn ..=>false
 | .agg _=>false
 | .tup _=>false
 | _=>true
def jJ(st:Nat)(h:Nat->Option au):AV->Option (List (List AV))
 | .nl=>some []
 | .sl st' rows=>if st'=st then some rows else none
 | .ms id st' off len=>match h id with
  | some o=>if st'=st/\o.st=st/\o.isRec=false/\off+len<=o.rows.length then some ((o.rows.drop off).take len)else none
  | none=>none
 | _=>none
def abJ:AV->Option (List (List AV))
 | .str s=>some (s.map λb=>[.int .u8 b.toNat])
 | _=>none
def yB(n:Option Nat)(cells:List AV):Option AV :=
 match n with
 | none=>cells[0]?
 | some n=>if n<=cells.length then some (.agg (cells.take n))else none
def mW(n:Option Nat)(p:AV)(h:Nat->Option au):Option AV :=
 match p with
 | .ip cells=>yB n cells
 | .mp id st row off=>match h id with
  | some o=>if o.st=st then(match o.rows[row]? with|some r=>yB n (r.drop off)|none=>none)else none
  | none=>none
 | _=>none
def jw(r:List AV)(off:Nat)(cs:List AV):List AV:=r.take off++cs++r.drop (off+cs.length)
def lq(n:Nat)(p x:AV)(h:Nat->Option au):Option bD :=
 match p,jv x with
 | .mp id st row off,some cs=>match h id with
  | some o=>if o.st=st/\cs.length=n/\(o.isRec||cs.all vO)=true then(match o.rows[row]? with
   | some r=>if off+n<=r.length then some (.put id {o with rows:=o.rows.set row (jw r off cs)})else none
   | none=>none)else none
  | none=>none
 | _,_=>none
def GZ(off:Nat)(p:AV):Option AV :=
 match p with
 | .ip cells=>some (.ip (cells.drop off))
 | .mp id st row o=>some (.mp id st row (o+off))
 | _=>none
def SV(off:Nat)(n:Option Nat)(x:AV):Option AV :=
 match x with
 | .agg cells=>yB n (cells.drop off)
 | _=>none
def BQ(st:Nat)(x i:AV):Option AV :=
 match x,i with
 | .sl st' rows,.int _ n=>if st'=st/\0<=n then(match rows[n.toNat]? with|some r=>some (.ip r)|none=>none)else none
 | .ms id st' off len,.int _ n=>if st'=st/\0<=n/\n<len then some (.mp id st (off+n.toNat) 0)else none
 | _,_=>none
def fj(d:Nat)(x:Option AV):Option Nat :=
 match x with
 | none=>some d
 | some (.int _ n)=>if 0<=n then some n.toNat else none
 | _=>none
def FB(st:Nat)(x:AV)(lo hi mx:Option AV):Option AV :=
 match x with
 | .sl st' rows=>match fj 0 lo,fj rows.length hi,fj rows.length mx with
  | some l,some h,some m=>if st'=st/\l<=h/\h<=m/\m<=rows.length then some (.sl st ((rows.drop l).take (h-l)))else none
  | _,_,_=>none
 | .ms id st' off len=>match fj 0 lo,fj len hi,fj len mx with
  | some l,some h,some m=>if st'=st/\l<=h/\h<=m/\m<=len/\mx=none then some (.ms id st (off+l) (h-l))else none
  | _,_,_=>none
 | .nl=>match fj 0 lo,fj 0 hi,fj 0 mx with
  | some l,some h,some m=>if l=0/\h=0/\m=0 then some .nl else none
  | _,_,_=>none
 | _=>none
def xn(x:AV)(lo hi:Option AV):Option AV :=
 match x with
 | .str s=>match fj 0 lo,fj s.length hi with
  | some l,some h=>if l<=h/\h<=s.length then some (.str ((s.drop l).take (h-l)))else none
  | _,_=>none
 | _=>none
def MU:AV->Option AV
 | .sl _ rows=>some (.int .i64 rows.length)
 | .ms _ _ _ len=>some (.int .i64 len)
 | .nl=>some (.int .i64 0)
 | _=>none
def Ke:AV->Option AV
 | .str s=>some (.int .i64 s.length)
 | _=>none
def qW(d:Nat)(t:TypeId)(st:Nat)(x:AV)(src:Option (List (List AV)))(h:Nat->Option au):Option (AV×bD) :=
 match src with
 | none=>none
 | some ys=>if ys.length<137438953472 then(match x with
  | .nl=>some (.ms d st 0 ys.length,.new d ⟨t,st,ys,false⟩)
  | .ms id st' off len=>match h id with
   | some o=>if st'=st/\o.st=st/\o.t=t/\o.isRec=false/\off=0/\len<=o.rows.length/\len<137438953472/\(id<1000\/2000<=id)/\o.k.flat=true then
     some (.ms id st 0 (len+ys.length),.reb id ⟨t,st,o.rows.take len++ys,false⟩)else none
   | none=>none
  | _=>none)else none
def OH(op:BinOp)(k:IntKind)(a b:Int):Option Int :=
 match op with
 | .and=>some (k.wrap ((BitVec.ofInt k.bits a &&& BitVec.ofInt k.bits b).toNat))
 | .or=>some (k.wrap ((BitVec.ofInt k.bits a ||| BitVec.ofInt k.bits b).toNat))
 | .xor=>some (k.wrap ((BitVec.ofInt k.bits a ^^^ BitVec.ofInt k.bits b).toNat))
 | .andNot=>some (k.wrap ((BitVec.ofInt k.bits a &&& ~~~ (BitVec.ofInt k.bits b)).toNat))
 | _=>none
def ahj(op:BinOp)(k:IntKind)(a b:Int):Option AV :=
 match op with
 | .add=>some (.int k (k.wrap (a+b)))
 | .sub=>some (.int k (k.wrap (a-b)))
 | .mul=>some (.int k (k.wrap (a*b)))
 | .quo=>if b=0 then none else some (.int k (k.wrap (a.tdiv b)))
 | .rem=>if b=0 then none else some (.int k (a.tmod b))
 | .eql=>some (.bool (a==b))
 | .neq=>some (.bool (a != b))
 | .lss=>some (.bool (decide (a<b)))
 | .leq=>some (.bool (decide (a<=b)))
 | .gtr=>some (.bool (decide (a>b)))
 | .geq=>some (.bool (decide (a>=b)))
 | op=>(OH op k a b).map (.int k)
def ahk(op:BinOp)(a b:List UInt8):Option AV :=
 match op with
 | .add=>if a.length+b.length<4611686018427387904 then some (.str (a++b))else none
 | .eql=>some (.bool (a==b))
 | .neq=>some (.bool (!(a==b)))
 | .lss=>some (.bool (Op.bytesLess a b))
 | .leq=>some (.bool (Op.bytesLess a b||a==b))
 | .gtr=>some (.bool (!(Op.bytesLess a b||a==b)))
 | .geq=>some (.bool (!(Op.bytesLess a b)))
 | _=>none
def up(op:BinOp)(x y:AV):Option AV :=
 match op,x,y with
 | .shl,.int k a,.int _ b=>if b<0 then none else some (.int k (k.wrap (a*2^(min b.toNat k.bits))))
 | .shr,.int k a,.int _ b=>if b<0 then none else some (.int k (a.fdiv (2^(min b.toNat k.bits))))
 | op,.int k a,.int k' b=>if k=k' then ahj op k a b else none
 | op,.str a,.str b=>ahk op a b
 | _,_,_=>none
def GY(op:BinOp)(x y:AV):Option AV :=
 match op,x,y with
 | .eql,.bool a,.bool b=>some (.bool (a==b))
 | .neq,.bool a,.bool b=>some (.bool (!(a==b)))
 | _,_,_=>none
def GX(st n:Nat)(x i:AV):Option AV :=
 match x,i with
 | .ip cells,.int _ j=>if 0<=j/\j<n then some (.ip (cells.drop (j.toNat*st)))else none
 | .mp id s row off,.int _ j=>if 0<=j/\j<n then some (.mp id s row (off+j.toNat*st))else none
 | _,_=>none
def Qr(mx:Bool)(x y:AV):Option AV :=
 match x,y with
 | .int k n,.int k' m=>if k=k' then some (.int k (if mx then(if n<m then m else n)else(if m<n then m else n)))else none
 | _,_=>none
def Ci(st:Nat)(x:AV)(src:Option (List (List AV)))(h:Nat->Option au):Option (AV×bD) :=
 match src with
 | none=>none
 | some ys=>match x with
  | .ms id st' off len=>match h id with
   | some o=>if st'=st/\o.st=st/\o.isRec=false/\off+len<=o.rows.length then
     (if ys.length<=len then some (.int .i64 ys.length,.put id {o with rows:=o.rows.take off++ys++o.rows.drop (off+ys.length)})
     else some (.int .i64 len,.put id {o with rows:=o.rows.take off++ys.take len++o.rows.drop (off+len)}))else none
   | none=>none
  | _=>none
def Dp{st:Nat}{x:AV}{src:Option (List (List AV))}{h:Nat->Option au}{v:AV}{e:bD}(hq:Ci st x src h=some (v,e)):∃i o,e = .put i o:=by
 unfold Ci at hq
 repeat' (split at hq)
 all_goals first|(cases hq;done)|(cases hq;exact⟨_,_,rfl⟩)
def Qp(x:AV)(h:Nat->Option au):Option (AV×bD) :=
 match x with
 | .ms id st off len=>match h id with
  | some o=>if st=1/\o.st=1/\o.isRec=false/\0<len then some (.ms id st off len,.put id o)else none
  | none=>none
 | _=>none
def uq{x:AV}{h:Nat->Option au}{v:AV}{e:bD}(hq:Qp x h=some (v,e)):∃id st off len o,x = .ms id st off len/\h id=some o/\st=1/\o.st=1/\o.isRec=false/\0<len/\v = .ms id st off len/\e = .put id o:=by
 unfold Qp at hq;split at hq
 case h_2=>cases hq
 rename_i id st off len;split at hq
 case h_2=>cases hq
 rename_i o ho;split at hq
 case isFalse=>cases hq
 rename_i hc;cases hq;exact⟨id,st,off,len,o,rfl,ho,hc.1,hc.2.1,hc.2.2.1,hc.2.2.2,rfl,rfl⟩
def abF(s:List UInt8)(c:UInt8):Int:=firstIdx ⟨s.toArray⟩ c
def Yr(x y:AV):Option AV :=
 match x,y with
 | .str s,.int .u8 n=>some (.int .i64 (abF s n.toNat.toUInt8))
 | _,_=>none
def U3:AV->Option Bool
 | .np=>some true
 | .mp ..=>some false
 | .ip _=>some false
 | _=>none
def xm(op:BinOp)(x y:AV):Option AV :=
 match op,U3 x,y with
 | .eql,some b,.np=>some (.bool b)
 | .neq,some b,.np=>some (.bool (!b))
 | _,_,_=>none
def lA(l:LK)(x y:AV):Option Bool :=
 match l,x,y with
 | .b,.bool p,.bool q=>some (p==q)
 | .i,.int k p,.int k' q=>if k=k' then some (p==q)else none
 | .s,.str p,.str q=>some (p==q)
 | _,_,_=>none
def lp:List LK->List AV->List AV->Option Bool
 | [],[],[]=>some true
 | l::ls,x::xs,y::ys=>match lA l x y,lp ls xs ys with
  | some p,some q=>some (p&&q)
  | _,_=>none
 | _,_,_=>none
def sv(op:BinOp)(ls:List LK)(x y:AV):Option AV :=
 match op,ls,x,y with
 | .eql,l::ls,.agg xs,.agg ys=>(lp (l::ls) xs ys).map .bool
 | .neq,l::ls,.agg xs,.agg ys=>(lp (l::ls) xs ys).map λb=>.bool (!b)
 | .eql,[],.fn _ _,.nf=>some (.bool false)
 | .neq,[],.fn _ _,.nf=>some (.bool true)
 | .eql,[],.nf,.nf=>some (.bool true)
 | .neq,[],.nf,.nf=>some (.bool false)
 | _,_,_,_=>none
def aUn(op:UnOp)(x:AV):Option AV :=
 match op,x with
 | .neg,.int k n=>some (.int k (k.wrap (0-n)))
 | .xor,.int k n=>(OH .xor k (if k.signed then -1 else k.max) n).map (.int k)
 | .not,.bool b=>some (.bool (!b))
 | _,_=>none
def mw(ρ:IV->AV):List AV->List (Nat×Nat×IV)->Option (List AV)
 | cells,[]=>some cells
 | cells,(off,n,v)::rest=>match jv (ρ v)with
  | some cs=>if cs.length=n/\off+n<=cells.length then mw ρ (jw cells off cs) rest else none
  | none=>none
def mX(ρ:IV->AV)(st:Nat):List (List AV)->List (Nat×IV)->Option (List (List AV))
 | rows,[]=>some rows
 | rows,(i,v)::rest=>match jv (ρ v)with
  | some cs=>if cs.length=st/\i<rows.length/\cs.all vO=true then mX ρ st (rows.set i cs) rest else none
  | none=>none
def qX:List (List AV)->Option (List UInt8)
 | []=>some []
 | [.int .u8 n]::r=>(qX r).map ((UInt8.ofNat n.toNat)::·)
 | _=>none
def TG:AV->Bool
 | .any=>false
 | .fn ..=>false
 | .agg _=>false
 | .tup _=>false
 | _=>true
def Fe:KK->AV->AV->Option Bool
 | .i,.int k a,.int k' b=>if k=k' then some (a==b)else none
 | .s,.str a,.str b=>some (a==b)
 | .b,.bool a,.bool b=>some (a==b)
 | _,_,_=>none
def iR(kd:KK)(key:AV):List (AV×AV)->Option (Option Nat)
 | []=>some none
 | e::r=>match Fe kd key e.1 with
  | some true=>some (some 0)
  | some false=>(iR kd key r).map λq=>q.map (· + 1)
  | none=>none
def pY:AV->Bool
 | .bool _=>true
 | .int _ _=>true
 | .str _=>true
 | _=>false
def ET(kd:KK)(key x:AV)(es:List (AV×AV)):Option (List (AV×AV)) :=
 match iR kd key es with
 | some (some i)=>some (es.modify i λ_=>(key,x))
 | some none=>some (es++[(key,x)])
 | none=>none
def ajC(o:au):Option (List UInt8×Nat) :=
 match o.k with
 | .it s pos=>some (s,pos)
 | _=>none
def zk(o:au):Option (List (AV×AV)) :=
 match o.k with
 | .mp es=>some es
 | _=>none
def Yo(id:Nat)(o:au):Option (AV×bD) :=
 match ajC o with
 | some (s,pos)=>if pos<s.length then
   some (.tup [.bool true,.int .i64 pos,.int .i32 (Utf8.decode ⟨s.toArray⟩ pos).1],.put id {o with k:=.it s (pos+(Utf8.decode ⟨s.toArray⟩ pos).2)})
  else some (.tup [.bool false],.no)
 | none=>none
def zc(ok:Bool)(kd:KK)(z key:AV)(o:au):Option (AV×bD) :=
 match zk o with
 | some es=>match iR kd key es with
  | some (some i)=>match es[i]? with
   | some e=>some (if ok then .tup [e.2,.bool true]else e.2,.no)
   | none=>none
  | some none=>some (if ok then .tup [z,.bool false]else z,.no)
  | none=>none
 | none=>none
def FA(id:Nat)(kd:KK)(key x:AV)(o:au):Option (AV×bD) :=
 match zk o with
 | some es=>if(pY key&&pY x)=true then(ET kd key x es).map λes'=>(.any,.put id {o with k:=.mp es'})else none
 | none=>none
def S4(id:Nat)(kd:KK)(z key:AV)(o:au):Option (AV×bD) :=
 match zk o with
 | some es=>if pY key=true then(match iR kd key es with
  | some (some i)=>match es[i]? with
   | some e=>some (.tup [e.2,.int .i64 i],.put id o)
   | none=>none
  | some none=>some (.tup [z,.int .i64 es.length],.put id {o with k:=.mp (es++[(key,z)])})
  | none=>none)else none
 | none=>none
def Qs(id:Nat)(n:Int)(x:AV)(o:au):Option (AV×bD) :=
 match zk o with
 | some es=>if 0<=n/\n<es.length/\pY x=true then some (.any,.put id {o with k:=.mp (es.modify n.toNat λe=>(e.1,x))})else none
 | none=>none
def nj(d:Nat)(k:MK)(xs:List AV)(h:Nat->Option au):Option (AV×bD) :=
 match k,xs with
 | .rng,[.str s]=>some (.mm d false,.new d (@au.mk 0 0 [] false (.it s 0)))
 | .nxt,[.mm id false]=>(h id).bind (Yo id)
 | .mkm,[]=>some (.mm d true,.new d (@au.mk 0 0 [] false (.mp [])))
 | .mln,[.mm id true]=>(h id).bind λo=>(zk o).map λes=>(.int .i64 es.length,.no)
 | .mlk ok kd z,[.mm id true,key]=>(h id).bind (zc ok kd z key)
 | .mlk ok kd z,[.fm es,key]=>zc ok kd z key (@au.mk 0 0 [] false (.mp es))
 | .mup kd,[.mm id true,key,x]=>(h id).bind (FA id kd key x)
 | .mnt kd z,[.mm id true,key]=>(h id).bind (S4 id kd z key)
 | .mst,[.mm id true,.int .i64 n,x]=>(h id).bind (Qs id n x)
 | _,_=>none
def zd{d:Nat}{k:MK}{xs:List AV}{h:Nat->Option au}{v:AV}{e:bD}(hq:nj d k xs h=some (v,e)) :
  e = .no\/(∃o,e = .new d o/\(k = .rng\/k = .mkm))\/∃id b r o,xs = .mm id b::r/\e = .put id o:=by
 unfold nj at hq;split at hq
 .cases hq;exact .inr (.inl ⟨_,rfl,.inl rfl⟩)
 .simp only[vl]at hq;obtain⟨o,_,h2⟩:=hq;unfold Yo at h2;split at h2
  .split at h2
   .cases h2;exact .inr (.inr ⟨_,_,_,_,rfl,rfl⟩)
   .cases h2;exact .inl rfl
  .cases h2
 .cases hq;exact .inr (.inl ⟨_,rfl,.inr rfl⟩)
 .simp only[vl,eS]at hq;obtain⟨o,_,es,_,h2⟩:=hq;cases h2;exact .inl rfl
 .simp only[vl]at hq;obtain⟨o,_,h2⟩:=hq;unfold zc at h2
  repeat' (split at h2)
  all_goals first|(cases h2;done)|(cases h2;exact .inl rfl)
 .unfold zc at hq
  repeat' (split at hq)
  all_goals first|(cases hq;done)|(cases hq;exact .inl rfl)
 .simp only[vl]at hq;obtain⟨o,_,h2⟩:=hq;unfold FA at h2;split at h2
  .split at h2
   .simp only[eS]at h2;obtain⟨es',_,h2⟩:=h2;cases h2;exact .inr (.inr ⟨_,_,_,_,rfl,rfl⟩)
   .cases h2
  .cases h2
 .simp only[vl]at hq;obtain⟨o,_,h2⟩:=hq;unfold S4 at h2
  repeat' (split at h2)
  all_goals first|(cases h2;done)|(cases h2;exact .inr (.inr ⟨_,_,_,_,rfl,rfl⟩))
 .simp only[vl]at hq;obtain⟨o,_,h2⟩:=hq;unfold Qs at h2
  repeat' (split at h2)
  all_goals first|(cases h2;done)|(cases h2;exact .inr (.inr ⟨_,_,_,_,rfl,rfl⟩))
 .cases hq
def Qv(b:Bool):AV->Option AV
 | .nl=>some (.bool (!b))
 | .sl _ (_::_)=>some (.bool b)
 | .ms _ _ _ (_+1)=>some (.bool b)
 | _=>none
def res(x:Option AV):Option (AV×bD):=x.map λv=>(v,.no)
def cj(d:Nat)(op:ln)(ρ:IV->AV)(h:Nat->Option au):Option (AV×bD) :=
 match op with
 | .mov x=>some (ρ x,.no)
 | .pick c a b=>match ρ c with
  | .bool true=>some (ρ a,.no)
  | .bool false=>some (ρ b,.no)
  | _=>none
 | .new t cells=>some (.mp d cells.length 0 0,.new d ⟨t,cells.length,[cells],true⟩)
 | .box t n x=>match jv (ρ x)with
  | some cs=>if cs.length=n/\(cs.all λy=>!(mC d y))=true then some (.mp d n 0 0,.new d ⟨t,n,[cs],true⟩)else none
  | none=>none
 | .build cells parts=>res ((mw ρ cells parts).map .agg)
 | .bsl t st rows parts=>match mX ρ st rows parts with
  | some rs=>some (.ms d st 0 rs.length,.new d ⟨t,st,rs,false⟩)
  | none=>none
 | .load n p=>res (mW n (ρ p) h)
 | .store n p x=>(lq n (ρ p) (ρ x) h).map λe=>(.any,e)
 | .fadr off p=>res (GZ off (ρ p))
 | .fld off n x=>res (SV off n (ρ x))
 | .iadr st x i=>res (BQ st (ρ x) (ρ i))
 | .aadr st n x i=>res (GX st n (ρ x) (ρ i))
 | .mnx m x y=>res (Qr m (ρ x) (ρ y))
 | .cpy st x y=>Ci st (ρ x) (jJ st h (ρ y)) h
 | .sib x y=>res (Yr (ρ x) (ρ y))
 | .cvm x=>Qp (ρ x) h
 | .mop k xs=>nj d k (xs.map ρ) h
 | .slc st x lo hi mx=>res (FB st (ρ x) (lo.map ρ) (hi.map ρ) (mx.map ρ))
 | .len x=>res (MU (ρ x))
 | .app t st x y=>qW d t st (ρ x) (jJ st h (ρ y)) h
 | .apps t x y=>qW d t 1 (ρ x) (abJ (ρ y)) h
 | .slen x=>res (Ke (ρ x))
 | .sslc x lo hi=>res (xn (ρ x) (lo.map ρ) (hi.map ρ))
 | .bin op x y=>res (up op (ρ x) (ρ y))
 | .bbin op x y=>res (GY op (ρ x) (ρ y))
 | .pbin op x y=>res (xm op (ρ x) (ρ y))
 | .sbin op ls x y=>res (sv op ls (ρ x) (ρ y))
 | .un op x=>res (aUn op (ρ x))
 | .cvi k x=>match ρ x with
  | .int _ n=>some (.int k (k.wrap n),.no)
  | _=>none
 | .cvs x=>match jJ 1 h (ρ x)with
  | some rows=>res ((qX rows).map .str)
  | none=>none
 | .cvb t x=>match ρ x with
  | .str s=>if s.length<1073741824 then some (.ms d 1 0 s.length,.new d ⟨t,1,s.map λb=>[.int .u8 b.toNat],false⟩)else none
  | _=>none
 | .ext x i=>match ρ x with
  | .tup vs=>res (vs[i]?)
  | _=>none
 | .nchk x=>match ρ x with
  | .mp id st row off=>some (.mp id st row off,.no)
  | .ip cells=>some (.ip cells,.no)
  | .fn f caps=>some (.fn f caps,.no)
  | _=>none
 | .mkf f caps=>if(caps.map ρ).all TG=true then some (.fn f (caps.map ρ),.no)else none
 | .cvt x=>match ρ x with
  | .str s=>some (.str s,.no)
  | _=>none
 | .sidx x i=>match ρ x,ρ i with
  | .str s,.int _ n=>if 0<=n then(match s[n.toNat]? with|some b=>some (.int .u8 b.toNat,.no)|none=>none)else none
  | _,_=>none
 | .mks t st zero l cp=>match ρ l,ρ cp with
  | .int .i64 n,.int .i64 m=>if 0<=n/\n<=m/\m<1073741824/\zero.length=st then some (.ms d st 0 n.toNat,.new d ⟨t,st,List.replicate n.toNat zero,false⟩)else none
  | _,_=>none
 | .snl b x=>res (Qv b (ρ x))
 | .call ..=>none
 | .callv ..=>none
def G2:Value->Option AV
 | .bool b=>some (.bool b)
 | .int k n=>some (.int k n)
 | .string s=>some (.str s.data.toList)
 | .slice none 0 0=>some .nl
 | .pointer none=>some .np
 | .nilFunc=>some .nf
 | .map none=>some (.fm [])
 | _=>none
def pm:List Value->Option (List AV)
 | []=>some []
 | v::r=>match G2 v,pm r with
  | some x,some xs=>some (x::xs)
  | _,_=>none
def MX:Value->Option AV
 | .agg cs=>(pm cs.toList).map .agg
 | v=>G2 v
def cV:Operand->Option IV
 | .tmp t=>if t<1000000 then some (.s t)else none
 | .const v=>(MX v).map .c
 | .func f=>if f<4000000 then some (.c (.fn f []))else none
 | .global g=>some (.s (1000000+g))
def TE:List Operand->Option (List IV)
 | []=>some []
 | v::r=>match cV v,TE r with
  | some x,some xs=>some (x::xs)
  | _,_=>none
def vM:Option Operand->Option (Option IV)
 | none=>some none
 | some x=>(cV x).map some
def jo(P:Program)(t:TypeId):Option Nat:=(P.info? t).map (·.size)
def ww(P:Program)(t:TypeId):Option (Option Nat) :=
 match P.underlying t,P.info? t with
 | some (.struct _),some i=>some (some i.size)
 | some (.array _ _),some i=>some (some i.size)
 | some _,some _=>some none
 | _,_=>none
def qz(P:Program)(t:TypeId):Option (List AV) :=
 match P.info? t with
 | some i=>match i.zero with
  | some z=>pm z.cells.toList
  | none=>none
 | none=>none
def JS(P:Program)(fs:Array Field):Option (List (Nat×Nat)):=fs.toList.mapM (λf=>(P.info? f.type).map λi=>(f.offset,i.size))
def AH(places:List (Nat×Nat)):List (Nat×Operand)->Option (List (Nat×Nat×IV))
 | []=>some []
 | (i,x)::r=>match places[i]?,cV x,AH places r with
  | some (off,n),some v,some l=>some ((off,n,v)::l)
  | _,_,_=>none
def G6:List (Nat×Operand)->Option (List (Nat×IV))
 | []=>some []
 | (i,x)::r=>match cV x,G6 r with
  | some v,some l=>some ((i,v)::l)
  | _,_=>none
def Fl(f:TypeId->Option (List LK)):List Field->Nat->Option (List LK)
 | [],_=>some []
 | fd :: r,off=>if fd.offset=off∧fd.name≠"_" then (match f fd.type with
  | some l=>(match Fl f r (off+l.length)with
   | some ls=>some (l++ls)
   | none=>none)
  | none=>none)else none
def qy(P:Program):Nat->TypeId->Option (List LK)
 | 0,_=>none
 | m+1,t=>match P.underlying t with
  | some .bool=>some [.b]
  | some (.int _)=>some [.i]
  | some .string=>some [.s]
  | some (.struct fs)=>if P.stoodInHeld t=true then none else(match Fl (qy P m) fs.toList 0 with
   | some ls=>if ww P t=some (some ls.length)then some ls else none
   | none=>none)
  | _=>none
def Km(P:Program)(t:TypeId)(op:BinOp)(x y:IV):Option ln :=
 match P.underlying t with
 | some .bool=>some (.bbin op x y)
 | some (.int _)=>some (.bin op x y)
 | some .string=>some (.bin op x y)
 | some (.pointer _)=>some (.pbin op x y)
 | some (.func _ _ _)=>some (.sbin op [] x y)
 | some (.struct _)=>if P.eqGuardType P.depth t=true then none else(match qy P 20 t with
  | some (l::ls)=>some (.sbin op (l::ls) x y)
  | _=>none)
 | some (.slice _)=>match op,y with
  | .eql,.c .nl=>some (.snl false x)
  | .neq,.c .nl=>some (.snl true x)
  | _,_=>none
 | _=>none
def Kn(P:Program)(src dst:TypeId)(x:IV):Option ln :=
 match P.underlying src,P.underlying dst with
 | some (.int _),some (.int k)=>some (.cvi k x)
 | some .string,some .string=>some (.cvt x)
 | some (.slice e),some .string=>match P.underlying e with
  | some (.int .u8)=>some (.cvs x)
  | _=>none
 | some .string,some (.slice e)=>match P.underlying e with
  | some (.int .u8)=>some (.cvb e x)
  | _=>none
 | some (.slice _),some (.slice e)=>match src==dst,P.underlying e with
  | true,some (.int .u8)=>some (.cvm x)
  | _,_=>none
 | _,_=>none
def cy(P:Program)(f:FuncId):Bool :=
 match P.funcs[f]? with
 | some fn=>fn.body.isSome&&fn.name != "runtime.NumGoroutine"
 | none=>false
def sw(P:Program)(t:TypeId):Option (TypeId×Nat) :=
 match P.underlying t with
 | some (.slice e)=>match P.info? e,qz P e with
  | some i,some z=>if i.bytes<=512/\1<=i.bytes/\z.length=i.size/\1<=i.size then some (e,i.size)else none
  | _,_=>none
 | _=>none
def aeY(P:Program)(t:TypeId):Option KK :=
 match P.underlying t with
 | some (.int _)=>some .i
 | some .string=>some .s
 | some .bool=>some .b
 | _=>none
def Qc(P:Program)(t:TypeId):Option AV :=
 match P.info? t with
 | some i=>match i.zero with
  | some (.bool b)=>some (.bool b)
  | some (.int k n)=>some (.int k n)
  | some (.string s)=>some (.str s.data.toList)
  | _=>none
 | none=>none
def CH(P:Program)(t:TypeId):Option (KK×AV) :=
 match P.underlying t with
 | some (.map k e)=>match aeY P k,Qc P e with
  | some kd,some z=>some (kd,z)
  | _,_=>none
 | _=>none
def TD(P:Program)(f:FuncId)(args:List Operand):Option ln :=
 match P.funcs[f]? with
 | some fn=>if fn.body.isNone∧fn.name = "internal/bytealg.IndexByteString"∧(Extern.findNext fn).isNone then (match args with
  | [x,y]=>match cV x,cV y with
   | some x,some y=>some (.sib x y)
   | _,_=>none
  | _=>none)else none
 | none=>none
def uu {P:Program} {f:FuncId} {args:List Operand} {op:ln} (h:TD P f args=some op):∃fn x y xv yv,P.funcs[f]? = some fn∧fn.body=none∧fn.name = "internal/bytealg.IndexByteString"∧Extern.findNext fn=none∧args=[x,y]∧cV x=some xv∧cV y=some yv∧op = .sib xv yv:=by
 unfold TD at h;split at h
 case h_2=>cases h
 rename_i fn hf;split at h
 case isFalse=>cases h
 rename_i hn;split at h
 case h_2=>cases h
 rename_i x y;split at h
 case h_2=>cases h
 rename_i xv yv h1 h2;cases h;exact⟨fn,x,y,xv,yv,hf,by simpa using hn.1,hn.2.1,by simpa using hn.2.2,rfl,h1,h2,rfl⟩
def BU(P:Program)(c:Call):Option ln :=
 match c.callee with
 | .value (.func f)=>if cy P f then(TE c.args.toList).map (.call f)else TD P f c.args.toList
 | .value (.tmp t)=>if t<1000000 then(TE c.args.toList).map (.callv (.s t))else none
 | .value _=>none
 | .invoke _ _=>none
 | .builtin .len=>match c.argTypes.toList,c.args.toList with
  | [t],[x]=>match P.underlying t with
   | some (.slice _)=>(cV x).map .len
   | some .string=>(cV x).map .slen
   | some (.map _ _)=>(cV x).map λx=>.mop .mln [x]
   | _=>none
  | _,_=>none
 | .builtin .append=>match c.argTypes.toList,c.args.toList with
  | [t,t'],[x,y]=>match sw P t,P.underlying t',cV x,cV y with
   | some (e,st),some (.slice _),some x,some y=>some (.app e st x y)
   | some (e,st),some .string,some x,some y=>if st=1 then some (.apps e x y)else none
   | _,_,_,_=>none
  | _,_=>none
 | .builtin .min=>match c.args.toList with
  | [x,y]=>match cV x,cV y with
   | some x,some y=>some (.mnx false x y)
   | _,_=>none
  | _=>none
 | .builtin .max=>match c.args.toList with
  | [x,y]=>match cV x,cV y with
   | some x,some y=>some (.mnx true x y)
   | _,_=>none
  | _=>none
 | .builtin .copy=>match c.argTypes.toList,c.args.toList with
  | [t,t'],[x,y]=>match P.underlying t,P.underlying t',cV x,cV y with
   | some (.slice e),some (.slice _),some x,some y=>(jo P e).map λn=>.cpy n x y
   | _,_,_,_=>none
  | _,_=>none
 | .builtin _=>none
def k_(P:Program):Op->Option ln
 | .move x=>(cV x).map .mov
 | .assign x=>(cV x).map .mov
 | .pick c a b=>match cV c,cV a,cV b with
  | some c,some a,some b=>some (.pick c a b)
  | _,_,_=>none
 | .alloc t=>(qz P t).map (.new t)
 | .box t x=>match jo P t,cV x with
  | some n,some x=>some (.box t n x)
  | _,_=>none
 | .build t parts=>match P.underlying t with
  | some (.struct fs)=>match qz P t,JS P fs with
   | some z,some places=>(AH places parts.toList).map (.build z)
   | _,_=>none
  | some (.array _ e)=>match qz P t,P.info? e with
   | some z,some _=>if parts.toList.isEmpty=true then some (.build z [])else none
   | _,_=>none
  | _=>none
 | .buildSlice t len parts=>match P.underlying t with
  | some (.slice e)=>match qz P e,jo P e,G6 parts.toList with
   | some z,some n,some ps=>if z.length=n/\1<=n/\len*n<=16777216 then some (.bsl e n (List.replicate len z) ps)else none
   | _,_,_=>none
  | _=>none
 | .load t a=>match ww P t,cV a with
  | some n,some a=>some (.load n a)
  | _,_=>none
 | .store t a x=>match jo P t,cV a,cV x with
  | some n,some a,some x=>some (.store n a x)
  | _,_,_=>none
 | .nilCheck x=>(cV x).map .nchk
 | .binOp op t x y _=>match cV x,cV y with
  | some x,some y=>Km P t op x y
  | _,_=>none
 | .unOp op _ x=>(cV x).map (.un op)
 | .convert s d x=>match cV x with
  | some x=>Kn P s d x
  | none=>none
 | .makeFunc (.func f) first caps=>if fnI (mkI f first.isEmpty)=f/\Zq (mkI f first.isEmpty)=first.size then(TE (first.toList++caps.toList)).map (.mkf (mkI f first.isEmpty))else none
 | .makeSlice t l c=>match sw P t,cV l,cV c with
  | some (e,st),some l,some c=>(qz P e).map λz=>.mks e st z l c
  | _,_,_=>none
 | .slice t x lo hi mx=>match P.underlying t,cV x,vM lo,vM hi,vM mx with
  | some (.slice e),some x,some lov,some hiv,some mxv=>if(!mx.isSome||hi.isSome)=true then(jo P e).map λn=>.slc n x lov hiv mxv else none
  | some .string,some x,some lo,some hi,some none=>some (.sslc x lo hi)
  | _,_,_,_,_=>none
 | .fieldAddr s x f=>match P.underlying s,cV x with
  | some (.struct fs),some x=>match fs[f]? with
   | some fd=>match jo P fd.type with
    | some (_+1)=>some (.fadr fd.offset x)
    | _=>none
   | none=>none
  | _,_=>none
 | .field t x f=>match P.underlying t,cV x with
  | some (.struct fs),some x=>match fs[f]? with
   | some fd=>(ww P fd.type).map λn=>.fld fd.offset n x
   | none=>none
  | _,_=>none
 | .indexAddr t x i=>match P.underlying t,cV x,cV i with
  | some (.slice e),some x,some i=>(jo P e).map λn=>.iadr n x i
  | some (.array len e),some x,some i=>(jo P e).map λn=>.aadr n len x i
  | _,_,_=>none
 | .index t x i=>match P.underlying t,cV x,cV i with
  | some .string,some x,some i=>some (.sidx x i)
  | _,_,_=>none
 | .extract x i=>(cV x).map λx=>.ext x i
 | .range t x=>match P.underlying t,cV x with
  | some .string,some x=>some (.mop .rng [x])
  | _,_=>none
 | .next it true=>(cV it).map λx=>.mop .nxt [x]
 | .makeMap _ none=>some (.mop .mkm [])
 | .lookup t m k ok=>match CH P t,cV m,cV k with
  | some (kd,z),some m,some k=>some (.mop (.mlk ok kd z) [m,k])
  | _,_,_=>none
 | .mapUpdate t m k x=>match CH P t,cV m,cV k,cV x with
  | some (kd,_),some m,some k,some x=>some (.mop (.mup kd) [m,k,x])
  | _,_,_,_=>none
 | .insert t m k x=>match CH P t,cV m,cV k,cV x with
  | some (kd,_),some m,some k,some x=>some (.mop (.mup kd) [m,k,x])
  | _,_,_,_=>none
 | .mapEntry t m k=>match CH P t,cV m,cV k with
  | some (kd,z),some m,some k=>some (.mop (.mnt kd z) [m,k])
  | _,_,_=>none
 | .entryStore _ m s x=>match cV m,cV s,cV x with
  | some m,some s,some x=>some (.mop .mst [m,s,x])
  | _,_,_=>none
 | .call c=>BU P c
 | _=>none
def oK(P:Program)(n:Nat)(ops:Array Oper)(o:Oper):Option bH :=
 match k_ P o.op with
 | some op=>match (match o.dst with|some d=>decide (d<n)|none=>true),o.guard with
  | true,none=>some ⟨o.dst,op,none⟩
  | true,some (j,b)=>match (ops[j]?).bind (·.dst)with
   | some k=>some ⟨o.dst,op,some (k,b)⟩
   | none=>none
  | false,_=>none
 | none=>none
def bD.env(g:Nat->AV):bD->Nat->AV
 | .reb i _=>λk=>jU i (g k)
 | _=>g
def bD.hp(h:Nat->Option au):bD->Nat->Option au
 | .no=>h
 | .put i o=>fA h i (some o)
 | .new i o=>fA h i (some o)
 | .reb i o=>fA (λj=>(h j).map (ff i)) i (some o)
def bu(P:Program)(c:sV)(o:Oper)(a:Act)(w:World)(g:Nat->AV)(h:Nat->Option au)(x:AV)(e:bD):Prop :=
 ∃r w' bl',((execOp a.eval o).run P w = .ok (.value r) w'\/((execOp a.eval o).run P w = .ok .skip w'/\r=undef)) /\
  aT c bl' (e.env g) (e.hp h) a w'/\bv bl' (bQ bl' c.MF (e.hp h)) w' r x
section
variable{P:Program}{c:sV}{bl:Nat->Option Nat}{g:Nat->AV}{h:Nat->Option au}{a:Act}{w:World}{o:Oper}
def bu.pure(s:aT c bl g h a w){r:Value}{x:AV}(hr:(execOp a.eval o).run P w = .ok (.value r) w)(hv:bv bl (bQ bl c.MF h) w r x):bu P c o a w g h x .no :=
 ⟨r,w,bl,.inl hr,s,hv⟩
def G3{M:Nat->Prop}{v:Value}{x:AV}(hc:G2 v=some x):IRel M w v x:=by
 unfold G2 at hc;split at hc<;>try cases hc
 .exact .bool _
 .exact .int _ _
 .rename_i s;exact .str s.data.toList
 .exact .nl
 .exact .np
 .exact .nf
 .exact .nm
def xU{M:Nat->Prop}:∀{vs:List Value}{xs:List AV},pm vs=some xs->bg (IRel M w) vs xs
 | [],xs,hc=>by simp only[pm,dt]at hc;subst hc;trivial
 | v::r,xs,hc=>by
  simp only[pm]at hc;split at hc
  .rename_i x ys h1 h2;simp only[dt]at hc;subst hc;exact⟨G3 h1,xU h2⟩
  .cases hc
def MY{M:Nat->Prop}{v:Value}{x:AV}(hc:MX v=some x):bv bl M w v x:=by
 unfold MX at hc;split at hc
 .rename_i cs;simp only[eS]at hc;obtain⟨xs,h1,rfl⟩:=hc;exact⟨cs.toList,by simp,(xU h1).mono λ_ _ _ hr=>IRel.toC hr⟩
 .exact(IRel.toC (G3 hc)).toV
def bc(s:aT c bl g h a w){x:Operand}{v:IV}(hc:cV x=some v):bv bl (bQ bl c.MF h) w (a.eval x) (val g v):=by
 cases x with
 | tmp t =>
  simp only[cV]at hc;split at hc
  case isFalse=>cases hc
  rename_i ht;cases hc;have:=s.env t;rw[Cb ht]at this;exact this
 | const u =>
  simp only[cV,eS]at hc;obtain⟨y,h1,rfl⟩:=hc;exact MY h1
 | func f =>
  simp only[cV]at hc;split at hc
  case isFalse=>cases hc
  rename_i ht;cases hc;exact⟨[],by simp[Act.eval,fnI,Zq,ht],trivial⟩
 | global k =>
  simp only[cV,dt]at hc;subst hc;have:=s.env (1000000+k);have e:tv a (1000000+k) = .pointer (some ⟨k,0,none⟩):=by
   unfold tv;rw[an (by omega),show 1000000+k-1000000=k by omega]
  rw[e]at this;exact this
def bv.int{M:Nat->Prop}{v:Value}{k:IntKind}{n:Int}(hv:bv bl M w v (.int k n)):v = .int k n:=by
 simp only[bv,gq,cJ,fB]at hv;cases hv;rfl
def bv.bool{M:Nat->Prop}{v:Value}{b:Bool}(hv:bv bl M w v (.bool b)):v = .bool b:=by
 simp only[bv,gq,cJ,fB]at hv;cases hv;rfl
def bv.str{M:Nat->Prop}{v:Value}{s:List UInt8}(hv:bv bl M w v (.str s)):v = .string ⟨s.toArray⟩:=by
 simp only[bv,gq,cJ,fB]at hv;cases hv;rfl
def bv.np{M:Nat->Prop}{v:Value}(hv:bv bl M w v .np):v = .pointer none:=by
 simp only[bv,gq,cJ,fB]at hv;cases hv;rfl
def bv.nl{M:Nat->Prop}{v:Value}(hv:bv bl M w v .nl):v = .slice none 0 0:=by
 simp only[bv,gq,cJ,fB]at hv;cases hv;rfl
def bv.mp{M:Nat->Prop}{v:Value}{id st row off:Nat}(hv:bv bl M w v (.mp id st row off)):∃b,bl id=some b/\v = .pointer (some ⟨b,row*st+off,none⟩):=hv
def bv.ip{M:Nat->Prop}{v:Value}{cells:List AV}(hv:bv bl M w v (.ip cells)):IRel M w v (.ip cells):=hv
def bv.sl{M:Nat->Prop}{v:Value}{st:Nat}{rows:List (List AV)}(hv:bv bl M w v (.sl st rows)):IRel M w v (.sl st rows):=hv
def u3{M:Nat->Prop}(k:IntKind)(n:Int):bv bl M w (.int k n) (.int k n):=IRel.int k n
def oa{M:Nat->Prop}(b:Bool):bv bl M w (.bool b) (.bool b):=IRel.bool b
def aa_{M:Nat->Prop}(s:List UInt8):bv bl M w (.string ⟨s.toArray⟩) (.str s):=IRel.str s
def We(s:aT c bl g h a w){x:Operand}{v:IV}(ho:o.op = .move x\/o.op = .assign x)(hc:cV x=some v):bu P c o a w g h (val g v) .no:=by
 refine bu.pure s (r:=a.eval x) ?_ (bc s hc);rcases ho with ho|ho<;>simp[execOp,ho]
def aaU(s:aT c bl g h a w){x y z:Operand}{xv yv zv:IV}(ho:o.op = .pick x y z)(hx:cV x=some xv)(hy:cV y=some yv)(hz:cV z=some zv)
  {v:AV} {e:bD} (he:cj 0 (.pick xv yv zv) (val g) h=some (v,e)):bu P c o a w g h v e:=by
 have h1:=bc s hx;simp only[cj]at he;split at he<;>try cases he
 .rename_i hb;rw[hb]at h1;exact bu.pure s (r:=a.eval y) (by simp[execOp,ho,h1.bool,asBool]) (bc s hy)
 .rename_i hb;rw[hb]at h1;exact bu.pure s (r:=a.eval z) (by simp[execOp,ho,h1.bool,asBool]) (bc s hz)
def ok_len(s:aT c bl g h a w){t e:TypeId}{cl:Call}{x:Operand}{xv:IV}(ho:o.op = .call cl)(hcl:cl.callee = .builtin .len)(hat:cl.argTypes = #[t])(har:cl.args = #[x])
  (ht:P.underlying t=some (.slice e)) (hx:cV x=some xv) {v:AV} (he:MU (val g xv)=some v):bu P c o a w g h v .no:=by
 have h1:=bc s hx;have key:∀(ad:Option Addr)(n cap:Nat),a.eval x = .slice ad n cap->v = .int .i64 n->bu P c o a w g h v .no:=λad n cap hv hvv=>by
  subst hvv;exact bu.pure s (r:=.int .i64 n) (by simp[execOp,ho,resolve,hcl,har,hat,invoke,builtin,Builtin.len_,underlying,ht,hv,goInt]) (u3 _ _)
 cases hval:val g xv<;>rw[hval]at he h1<;>simp only[MU,dt]at he<;>try cases he
 case nl=>exact key none 0 0 h1.nl rfl
 case sl st0 rows =>
  generalize a.eval x=u at h1 key;have h2:=h1.sl;cases h2 with
  | nls st=>exact key none 0 0 rfl rfl
  | sl0 st ad cap=>exact key (some ad) 0 cap rfl rfl
  | sl b off cap st c1 t1 fr rows vs hb hM hl hr hv hx=>exact key _ _ _ rfl rfl
 case ms id st off len =>
  rcases h1 with⟨h2,h3,h4⟩|⟨h2,h3,ad,cap,h4⟩|⟨b,cap,c1,t1,fr,h2,h3,h4⟩
  .exact key none 0 0 h2 (by rw[h4])
  .exact key _ 0 cap h4 (by rw[h2])
  .exact key _ _ _ h3 rfl
def aaX(s:aT c bl g h a w){t:TypeId}{cl:Call}{x:Operand}{xv:IV}(ho:o.op = .call cl)(hcl:cl.callee = .builtin .len)(hat:cl.argTypes = #[t])(har:cl.args = #[x])
  (ht:P.underlying t=some .string) (hx:cV x=some xv) {v:AV} (he:Ke (val g xv)=some v):bu P c o a w g h v .no:=by
 have h1:=bc s hx;cases hval:val g xv<;>rw[hval]at he h1<;>simp only[Ke,dt]at he<;>try cases he
 case str st =>
  have hv:=h1.str;refine bu.pure s (r:=.int .i64 st.length) ?_ (u3 _ _);simp[execOp,ho,resolve,hcl,har,hat,invoke,builtin,Builtin.len_,underlying,ht,hv,goInt];rfl
def ai8(s:aT c bl g h a w){t:TypeId}{op:UnOp}{x:Operand}{xv:IV}(ho:o.op = .unOp op t x)(hx:cV x=some xv){v:AV}(he:aUn op (val g xv)=some v):bu P c o a w g h v .no:=by
 have h1:=bc s hx;cases hval:val g xv<;>rw[hval]at he h1<;>cases op<;>simp only[aUn,OH,fR,dt]at he<;>try cases he
 .exact bu.pure s (r:=.bool _) (by simp[execOp,ho,h1.bool,Op.unary]) (oa _)
 .exact bu.pure s (r:=.int _ _) (by simp[execOp,ho,h1.int,Op.unary,Op.intArith]) (u3 _ _)
 .exact bu.pure s (r:=.int _ _) (by simp[execOp,ho,h1.int,Op.unary,Op.intBits]) (u3 _ _)
def afs(s:aT c bl g h a w){sr ds:TypeId}{k k':IntKind}{x:Operand}{xv:IV}(ho:o.op = .convert sr ds x)(h2:P.underlying sr=some (.int k'))(h3:P.underlying ds=some (.int k))(hx:cV x=some xv)
  {n:Int} {kk:IntKind} (he:val g xv = .int kk n):bu P c o a w g h (.int k (k.wrap n)) .no:=by
 have h1:=bc s hx;rw[he]at h1;exact bu.pure s (r:=.int k (k.wrap n)) (by simp[execOp,ho,h1.int,convert,underlying,h2,h3,Conv.intToInt]) (u3 _ _)
def aaN(s:aT c bl g h a w){sr ds:TypeId}{x:Operand}{xv:IV}(ho:o.op = .convert sr ds x)(h2:P.underlying sr=some .string)(h3:P.underlying ds=some .string)(hx:cV x=some xv)
  {st:List UInt8} (he:val g xv = .str st):bu P c o a w g h (val g xv) .no:=by
 have h1:=bc s hx;rw[he]at h1⊢;exact bu.pure s (r:=.string ⟨st.toArray⟩) (by simp[execOp,ho,h1.str,convert,underlying,h2,h3]) (aa_ _)
def afv(s:aT c bl g h a w){x:Operand}{i:Nat}{xv:IV}(ho:o.op = .extract x i)(hx:cV x=some xv){vs:List AV}{v:AV}(he:val g xv = .tup vs)(hi:vs[i]?=some v):bu P c o a w g h v .no:=by
 have h1:=bc s hx;rw[he]at h1;obtain⟨cs,h2,h3⟩:=h1;obtain⟨u,hu,hr⟩:=h3.get hi;exact bu.pure s (r:=u) (by simp[execOp,ho,h2,Instr.extract,hu]) hr.toV
def Jv(s:aT c bl g h a w){x:Operand}{xv:IV}(ho:o.op = .nilCheck x)(hx:cV x=some xv)
  (he:(∃id st row off,val g xv = .mp id st row off)\/(∃cells,val g xv = .ip cells)\/∃f caps,val g xv = .fn f caps):bu P c o a w g h (val g xv) .no:=by
 have h1:=bc s hx;refine bu.pure s (r:=a.eval x) ?_ h1;rcases he with⟨id,st,row,off,he⟩|⟨cells,he⟩|⟨f,caps,he⟩<;>rw[he]at h1
 .obtain⟨b,_,h2⟩:=h1.mp;simp[execOp,ho,h2]
 .generalize hu:a.eval x=u at h1⊢;have h2:=h1.ip;cases h2;simp[execOp,ho,hu]
 .obtain⟨cs,h2,_⟩:=h1;simp[execOp,ho,h2]
def aaW(s:aT c bl g h a w){t:TypeId}{x i:Operand}{xv iv:IV}(ho:o.op = .index t x i)(ht:P.underlying t=some .string)(hx:cV x=some xv)(hi:cV i=some iv)
  {st:List UInt8} {k:IntKind} {n:Int} {b:UInt8} (he:val g xv = .str st) (hi':val g iv = .int k n) (h0:0<=n) (hb:st[n.toNat]?=some b):bu P c o a w g h (.int .u8 b.toNat) .no:=by
 have h1:=bc s hx;have h2:=bc s hi;rw[he]at h1;rw[hi']at h2;refine bu.pure s (r:=.int .u8 b.toNat) ?_ (u3 _ _);have hb':(ByteArray.mk st.toArray)[n.toNat]?=some b:=by
  obtain⟨hlt,hb⟩:=jh.1 hb;have hs:n.toNat<(ByteArray.mk st.toArray).size:=by simpa[ByteArray.size]using hlt
  rw[getElem?_pos (ByteArray.mk st.toArray) n.toNat hs];simp[ByteArray.getElem_eq_getElem_data,hb]
 simp[execOp,ho,h1.str,h2.int,Instr.index,asIntOf,underlying,ht,h0,hb']
def Ia(s:aT c bl g h a w):∀{cs:List Operand}{vs:List IV},TE cs=some vs->bg (bv bl (bQ bl c.MF h) w) (cs.map a.eval) (vs.map (val g))
 | [],vs,hc=>by simp only[TE,dt]at hc;subst hc;trivial
 | x::r,vs,hc=>by
  simp only[TE]at hc;split at hc
  .rename_i v vs' h1 h2;simp only[dt]at hc;subst hc;exact⟨bc s h1,Ia s h2⟩
  .cases hc
def Wb(s:aT c bl g h a w){t t':TypeId}{op:BinOp}{x y:Operand}{xv yv:IV}(ho:o.op = .binOp op t x y t')(hx:cV x=some xv)(hy:cV y=some yv)
  {v:AV} (he:up op (val g xv) (val g yv)=some v):bu P c o a w g h v .no:=by
 have h1:=bc s hx;have h2:=bc s hy;unfold up at he;split at he
 .rename_i k p k2 q e1 e2;rw[e1]at h1;rw[e2]at h2;split at he
  .cases he
  .rename_i hq;cases he;exact bu.pure s (r:=.int k (k.wrap (p*2^(min q.toNat k.bits)))) (by simp[execOp,ho,h1.int,h2.int,eqGuard,binOp,Op.shift,hq]) (u3 _ _)
 .rename_i k p k2 q e1 e2;rw[e1]at h1;rw[e2]at h2;split at he
  .cases he
  .rename_i hq;cases he;exact bu.pure s (r:=.int k (p.fdiv (2^(min q.toNat k.bits)))) (by simp[execOp,ho,h1.int,h2.int,eqGuard,binOp,Op.shift,hq]) (u3 _ _)
 .rename_i opx opy X Y k p k2 q n1 n2 e1 e2;rw[e1]at h1;rw[e2]at h2;split at he
  case isFalse=>cases he
  rename_i hk;subst hk;cases opx<;>simp only[ahj,OH,fR,Option.map_none,dt]at he<;>try cases he
  case quo =>
   split at he
   .cases he
   .rename_i hq;cases he;exact bu.pure s (r:=.int k _) (by simp[execOp,ho,h1.int,h2.int,eqGuard,binOp,Op.intDiv,hq]) (u3 _ _)
  case rem =>
   split at he
   .cases he
   .rename_i hq;cases he;exact bu.pure s (r:=.int k _) (by simp[execOp,ho,h1.int,h2.int,eqGuard,binOp,Op.intDiv,hq]) (u3 _ _)
  all_goals first
   | refine bu.pure s (r:=.int k _) ?_ (u3 _ _)
   | refine bu.pure s (r:=.bool _) ?_ (oa _)
  all_goals first
   | (simp[execOp,ho,h1.int,h2.int,eqGuard,binOp,Op.intArith];done)
   | (simp[execOp,ho,h1.int,h2.int,eqGuard,binOp,Op.intBits];done)
   | (simp[execOp,ho,h1.int,h2.int,eqGuard,binOp,Op.intCmp];done)
   | (simp only[execOp,ho,h1.int,h2.int,eqGuard,binOp];simp only[ne_eq,not_true_eq_false,ij];rfl)
 .rename_i opx opy X Y p q e1 e2;rw[e1]at h1;rw[e2]at h2;have hl:∀u:List UInt8,(ByteArray.mk u.toArray).toList=u:=λu=>by simp
  cases opx<;>simp only[ahk,dt]at he<;>try cases he
  case add =>
   split at he
   case isFalse=>cases he
   rename_i hlen;cases he;refine bu.pure s (r:=.string ⟨(p++q).toArray⟩) ?_ (aa_ _);have hs:¬(((ByteArray.mk p.toArray).size+(ByteArray.mk q.toArray).size:Nat):Int)>IntKind.i64.max:=by
    simp[ByteArray.size,IntKind.max,IntKind.signed,IntKind.bits];omega
   have hs':¬((((ByteArray.mk p.toArray).size:Nat):Int)+((ByteArray.mk q.toArray).size:Nat)>IntKind.i64.max):=by
    simp[ByteArray.size,IntKind.max,IntKind.signed,IntKind.bits];omega
   have happ:(ByteArray.mk p.toArray)++(ByteArray.mk q.toArray)=ByteArray.mk (p++q).toArray:=by
    apply ByteArray.ext;simp
   simp only[execOp,ho,h1.str,h2.str,eqGuard,binOp,Op.stringOp,hs,happ,ij];simp
  all_goals exact bu.pure s (r:=.bool _) (by simp only[execOp,ho,h1.str,h2.str,eqGuard,binOp,Op.stringOp,hl];simp) (oa _)
 .cases he
def ve{t:TypeId}(ht:P.underlying t=some .bool)(p q:Bool):(Op.equal t (.bool p) (.bool q)).run P w = .ok (p==q) w:=by
 have h1:(Op.equalIn (9999+1) t (.bool p) (.bool q)).run P w = .ok (p==q) w:=by unfold Op.equalIn;simp[underlying,ht]
 exact h1
def xE{t e:TypeId}(ht:P.underlying t=some (.pointer e))(ad:Option Addr):(Op.equal t (.pointer ad) (.pointer none)).run P w = .ok ad.isNone w:=by
 have h1:(Op.equalIn (9999+1) t (.pointer ad) (.pointer none)).run P w = .ok ad.isNone w:=by cases ad<;>(unfold Op.equalIn;simp[underlying,ht])
 exact h1
def aaM(s:aT c bl g h a w){t t':TypeId}{op:BinOp}{x y:Operand}{xv yv:IV}(ho:o.op = .binOp op t x y t')(ht:P.underlying t=some .bool)(hx:cV x=some xv)(hy:cV y=some yv)
  {v:AV} (he:GY op (val g xv) (val g yv)=some v):bu P c o a w g h v .no:=by
 have h1:=bc s hx;have h2:=bc s hy;unfold GY at he;split at he
 .rename_i p q e1 e2;rw[e1]at h1;rw[e2]at h2;cases he;exact bu.pure s (r:=.bool _) (by simp[execOp,ho,h1.bool,h2.bool,eqGuard,binOp,ve ht]) (oa _)
 .rename_i p q e1 e2;rw[e1]at h1;rw[e2]at h2;cases he;exact bu.pure s (r:=.bool _) (by simp[execOp,ho,h1.bool,h2.bool,eqGuard,binOp,ve ht]) (oa _)
 .cases he
def aaT(s:aT c bl g h a w){t t' e:TypeId}{op:BinOp}{x y:Operand}{xv yv:IV}(ho:o.op = .binOp op t x y t')(ht:P.underlying t=some (.pointer e))(hx:cV x=some xv)(hy:cV y=some yv)
  {v:AV} (he:xm op (val g xv) (val g yv)=some v):bu P c o a w g h v .no:=by
 have h1:=bc s hx;have h2:=bc s hy;have hp:∀b,U3 (val g xv)=some b->∃ad:Option Addr,a.eval x = .pointer ad/\ad.isNone=b:=λb hb=>by
  cases hval:val g xv<;>rw[hval]at hb h1<;>simp only[U3,dt]at hb<;>try cases hb
  case ip cells =>
   generalize a.eval x=u at h1;have h3:=h1.ip;cases h3;exact⟨_,rfl,rfl⟩
  case np=>exact⟨none,h1.np,rfl⟩
  case mp=>obtain⟨b,_,h3⟩:=h1.mp;exact⟨_,h3,rfl⟩
 unfold xm at he;split at he
 .rename_i b e1 e2;rw[e2]at h2;obtain⟨ad,h3,h4⟩:=hp b e1;cases he;subst h4;exact bu.pure s (r:=.bool _) (by simp only[execOp,ho,h3,h2.np,eqGuard,binOp];simp[xE ht]) (oa _)
 .rename_i b e1 e2;rw[e2]at h2;obtain⟨ad,h3,h4⟩:=hp b e1;cases he;subst h4;exact bu.pure s (r:=.bool _) (by simp only[execOp,ho,h3,h2.np,eqGuard,binOp];simp[xE ht]) (oa _)
 .cases he
def PW{t e:TypeId}{op:BinOp}{b:Bool}{x y:Operand}{t':TypeId}{ad:Option Addr}{n cap:Nat}(ho:o.op = .binOp op t x y t')(ht:P.underlying t=some (.slice e))(hop:(op = .eql/\b=false)\/(op = .neq/\b=true))
  (hx:a.eval x = .slice ad n cap) (hy:a.eval y = .slice none 0 0):(execOp a.eval o).run P w = .ok (.value (.bool (if ad.isNone then !b else b))) w:=by
 have h1:(Op.equal t (.slice ad n cap) (.slice none 0 0)).run P w = .ok ad.isNone w:=by
  have h:∀d:Nat,(Op.equalIn (d+1) t (.slice ad n cap) (.slice none 0 0)).run P w = .ok ad.isNone w:=λd=>by
   cases ad<;>simp[Op.equalIn,run_underlying ht]
  exact h 9999
 rcases hop with⟨rfl,rfl⟩|⟨rfl,rfl⟩<;>cases ad<;>simp[execOp,ho,hx,hy,eqGuard,binOp]at h1⊢ <;> simp[h1]
def NY(s:aT c bl g h a w){t t' e:TypeId}{op:BinOp}{b:Bool}{x y:Operand}{xv:IV}(ho:o.op = .binOp op t x y t')(ht:P.underlying t=some (.slice e))(hop:(op = .eql/\b=false)\/(op = .neq/\b=true))
  (hx:cV x=some xv) (hy:cV y=some (.c .nl)) {v:AV} (he:Qv b (val g xv)=some v):bu P c o a w g h v .no:=by
 have h1:=bc s hx;have h2:a.eval y = .slice none 0 0:=(bc s hy).nl;have hp:∀{ad n cap},a.eval x = .slice ad n cap->v = .bool (if ad.isNone then !b else b)->bu P c o a w g h v .no:=λ{ad n cap} h3 h4=>by
  subst h4;exact bu.pure s (r:=.bool _) (PW ho ht hop h3 h2) (oa _)
 unfold Qv at he;split at he
 .rename_i e1;cases he;rw[e1]at h1;exact hp h1.nl rfl
 .rename_i st r rows e1;cases he;rw[e1]at h1;generalize hu:a.eval x=u at h1;have h3:=h1.sl;cases h3;exact hp hu rfl
 .rename_i id st off len e1;cases he;rw[e1]at h1;obtain⟨_,_,h3⟩|⟨h3,_⟩|⟨b',cap,c1,t1,fr,_,h3,_⟩:=h1
  .cases h3
  .cases h3
  .exact hp h3 rfl
 .cases he
end
def lQ(b off n:Nat):(⟨b,off,none⟩:Addr).add n =⟨b,off+n,none⟩:=by unfold Addr.add;split<;>simp_all
def bU{w:World}{b:Nat}{c:Array Value}{t:TypeId}{fr:Nat×Nat}(hb:w.heap[b]?=some (.cells c t fr))(off:Nat):w.cell? ⟨b,off,none⟩=c[off]?:=by
 simp[World.cell?,hb]
def ga(bl:Nat->Option Nat)(M:Nat->Prop)(w:World)(b off:Nat)(cells:List AV):Prop :=
 ∃c t fr,w.heap[b]?=some (.cells c t fr)/\∀(j:Nat)(x:AV),cells[j]?=some x->∃v,c[off+j]?=some v/\cJ bl M w v x
section
variable{P:Program}{c:sV}{bl:Nat->Option Nat}{g:Nat->AV}{h:Nat->Option au}{a:Act}{w:World}{o:Oper}{M:Nat->Prop}
def ga.drop{b off:Nat}{cells:List AV}(hc:ga bl M w b off cells)(n:Nat):ga bl M w b (off+n) (cells.drop n):=by
 obtain⟨c1,t,fr,h1,h2⟩:=hc;refine⟨c1,t,fr,h1,λj x hx=>?_⟩;rw[J1]at hx;obtain⟨v,h3,h4⟩:=h2 _ _ hx;exact⟨v,by rw[<-h3];congr 1;omega,h4⟩
def ga.vals{b off:Nat}{cells:List AV}(hc:ga bl M w b off cells):∃vs:List Value,bg (cJ bl M w) vs cells/\∀(j:Nat)(v:Value),vs[j]?=some v->w.cell? ⟨b,off+j,none⟩=some v:=by
 obtain⟨c1,t,fr,h1,h2⟩:=hc;have key:∀(cells:List AV)(off:Nat),(∀(j:Nat)(x:AV),cells[j]?=some x->∃v,c1[off+j]?=some v/\cJ bl M w v x) ->
   ∃vs:List Value,bg (cJ bl M w) vs cells/\∀(j:Nat)(v:Value),vs[j]?=some v->c1[off+j]?=some v:=by
  intro cells
  induction cells with
  | nil=>intro off _;exact⟨[],trivial,λj v hv=>by simp at hv⟩
  | cons x r ih =>
   intro off hx;obtain⟨v,hv1,hv2⟩:=hx 0 x (by simp)
   obtain⟨vs,h3,h4⟩:=ih (off+1) (λj y hy=>by
    obtain⟨u,hu1,hu2⟩:=hx (j+1) y (by simpa using hy);exact⟨u,by rw[<-hu1];congr 1;omega,hu2⟩)
   refine⟨v::vs,⟨hv2,h3⟩,λj u hu=>?_⟩;cases j with
   | zero=>simp at hu;subst hu;simpa using hv1
   | succ j =>
    simp at hu;rw[<-h4 j u hu];congr 1;omega
 obtain⟨vs,h3,h4⟩:=key cells off h2;exact⟨vs,h3,λj v hv=>by rw[bU h1];exact h4 j v hv⟩
def ga.of_ip{v:Value}{cells:List AV}(hv:bv bl M w v (.ip cells)):∃b off,v = .pointer (some ⟨b,off,none⟩)/\ga bl M w b off cells:=by
 have h1:=hv.ip;cases h1 with
 | ip b off c1 t fr cells vs hb hM hv hx =>
  refine⟨b,off,rfl,c1,t,fr,hb,λj x hj=>⟨vs j,hv j (jh.1 hj).1,IRel.toC (hx j x hj)⟩⟩
def ga.of_obj(s:aT c bl g h a w){id b:Nat}{ob:au}{row:Nat}{r:List AV}(hi:h id=some ob)(hb:bl id=some b)(hr:ob.rows[row]?=some r):ga bl (bQ bl c.MF h) w b (row*ob.st) r:=by
 rcases s.heap.1 id ob hi with hn|⟨b',h1,⟨_,c1,fr,h2,h3,h4,h5,h6,h7⟩|hsp⟩
 .rw[hn.2.2]at hb;cases hb
 rotate_left
 .exact(hsp.no hr).elim
 .rw[hb]at h1;cases h1;refine⟨c1,ob.t,fr,h2,λj x hx=>?_⟩;obtain⟨v,hv1,hv2⟩:=h7 row j r x hr hx;refine⟨v,hv1,?_⟩;cases hrec:ob.isRec<;>simp only[hrec,AE]at hv2
  .exact IRel.toC hv2
  .exact hv2
def Mu{t:TypeId}{n:Option Nat}(ht:ww P t=some n):(isAgg t).run P w = .ok n.isSome w/\∀m,n=some m->(sizeOf t).run P w = .ok m w:=by
 unfold ww at ht;split at ht<;>(try cases ht)
 .rename_i fs i h1 h2;exact⟨by simp[isAgg,underlying,h1],λm hm=>by cases hm;simp[sizeOf,typeInfo,h2]⟩
 .rename_i k e i h1 h2;exact⟨by simp[isAgg,underlying,h1],λm hm=>by cases hm;simp[sizeOf,typeInfo,h2]⟩
 .rename_i d i h1 h2 n1 n2;refine⟨?_,λm hm=>by cases hm⟩;simp only[isAgg,underlying];simp only[mq,run_program,ny,n2];cases d<;>simp_all
def oW{t:TypeId}{n:Option Nat}(ht:ww P t=some n){b off:Nat}{cells:List AV}(hc:ga bl M w b off cells){x:AV}(hx:yB n cells=some x) :
  ∃r,(loadVar t ⟨b,off,none⟩).run P w = .ok r w/\gq bl M w r x:=by
 obtain⟨h1,h2⟩:=Mu (w:=w) ht;cases n with
 | none =>
  simp only[yB]at hx;obtain⟨c1,t1,fr,h3,h4⟩:=hc;obtain⟨v,hv1,hv2⟩:=h4 0 x hx;refine⟨v,?_,hv2.toG⟩;simp only[loadVar,mq,h1,ny];simp[bU h3,show c1[off]?=some v by simpa using hv1]
 | some m =>
  simp only[yB]at hx;split at hx
  case isFalse=>cases hx
  rename_i hm;cases hx;obtain⟨vs,h3,h4⟩:=hc.vals;have hl:vs.length=cells.length:=h3.length;refine⟨.agg (vs.take m).toArray,?_,vs.take m,rfl,h3.take m⟩
  have hld:=run_loadCells_list (P:=P) (w:=w) ⟨b,off,none⟩ (vs.take m) (λj v hv=>by
   rw[lQ];exact h4 j v (by rw[Fw]at hv;split at hv<;>first|exact hv|cases hv))
  rw[vm,hl,MG hm]at hld;simp only[loadVar,mq,h1,ny,h2 m rfl];simp[h2 m rfl,hld]
def aaR(s:aT c bl g h a w){t:TypeId}{n:Option Nat}{p:Operand}{pv:IV}(ho:o.op = .load t p)(ht:ww P t=some n)(hp:cV p=some pv)
  {x:AV} (he:mW n (val g pv) h=some x):bu P c o a w g h x .no:=by
 have h1:=bc s hp;have fin:∀{b off:Nat}{cells:List AV},a.eval p = .pointer (some ⟨b,off,none⟩)->ga bl (bQ bl c.MF h) w b off cells->yB n cells=some x->bu P c o a w g h x .no:=λhv hc hx=>by
  obtain⟨r,h2,h3⟩:=oW ht hc hx;exact bu.pure s (r:=r) (by simp[execOp,ho,hv,Instr.loadAt,Instr.sureAddr,h2]) h3.toV
 cases hval:val g pv<;>rw[hval]at he h1<;>simp only[mW]at he<;>try cases he
 case ip cells =>
  obtain⟨b,off,h2,h3⟩:=ga.of_ip h1;exact fin h2 h3 he
 case mp id st row off =>
  split at he
  case h_2=>cases he
  rename_i ob hob;split at he
  case isFalse=>cases he
  rename_i hst;split at he
  case h_2=>cases he
  rename_i r hr;obtain⟨b,hb,h2⟩:=h1.mp;rw[<-hst]at h2;exact fin h2 ((ga.of_obj s hob hb hr).drop off) he
def aaO(s:aT c bl g h a w){t:TypeId}{f k n:Nat}{fs:Array Field}{fd:Field}{p:Operand}{pv:IV}(ho:o.op = .fieldAddr t p f)(ht:P.underlying t=some (.struct fs))(hf:fs[f]?=some fd)
  (hn:jo P fd.type=some (n+1)) (hk:fd.offset=k) (hp:cV p=some pv) {x:AV} (he:GZ k (val g pv)=some x):bu P c o a w g h x .no:=by
 have h1:=bc s hp;have hrun:∀{b off:Nat},a.eval p = .pointer (some ⟨b,off,none⟩)->(execOp a.eval o).run P w = .ok (.value (.pointer (some ⟨b,off+k,none⟩))) w:=λ{b off} hv=>by
  unfold jo at hn;simp only[eS]at hn;obtain⟨i,hi1,hi2⟩:=hn;simp[execOp,ho,hv,Instr.fieldAt,underlying,ht,hf,Instr.sureAddr,fieldPlace,sizeOf,typeInfo,hi1,hi2,lQ,hk]
 cases hval:val g pv<;>rw[hval]at he h1<;>simp only[GZ,dt]at he<;>try cases he
 case ip cells =>
  generalize hu:a.eval p=u at h1;have h2:=h1.ip;cases h2 with
  | ip b off c1 t fr cells vs hb hM hv hx =>
   refine bu.pure s (hrun hu) ?_;refine IRel.ip b (off+k) c1 t fr (cells.drop k) (λj=>vs (k+j)) hb hM (λj hj=>?_) (λj x hx'=>?_)
   .rw[<-hv (k+j) (by simp at hj;omega)];congr 1;omega
   .rw[J1]at hx';exact hx _ _ hx'
 case mp id st row off =>
  obtain⟨b,hb,h2⟩:=h1.mp;exact bu.pure s (hrun h2) ⟨b,hb,by congr 3;omega⟩
def og{t:TypeId}{n:Option Nat}(ht:ww P t=some n){cs:List Value}{cells:List AV}(hc:bg (cJ bl M w) cs cells){off:Nat}{x:AV}(hx:yB n (cells.drop off)=some x) :
  ∃r,(part t cs.toArray off).run P w = .ok r w/\gq bl M w r x:=by
 obtain⟨h1,h2⟩:=Mu (w:=w) ht;cases n with
 | none =>
  simp only[yB,J1,Nat.add_zero]at hx;obtain⟨v,hv1,hv2⟩:=hc.get hx;refine⟨v,?_,hv2.toG⟩;simp only[part,mq,h1,ny];simp[hv1]
 | some m =>
  simp only[yB]at hx;split at hx
  case isFalse=>cases hx
  rename_i hm;cases hx;refine⟨.agg ((cs.drop off).take m).toArray,?_,(cs.drop off).take m,rfl,(hc.drop off).take m⟩;simp only[part,mq,h1,ny];simp only[Option.isSome_some,dR,mq,h2 m rfl,ny,vj];congr 2;simp[List.extract_toArray,List.extract_eq_take_drop]
def afw(s:aT c bl g h a w){t:TypeId}{f k:Nat}{n:Option Nat}{fs:Array Field}{fd:Field}{p:Operand}{pv:IV}(ho:o.op = .field t p f)(ht:P.underlying t=some (.struct fs))(hf:fs[f]?=some fd)
  (hn:ww P fd.type=some n) (hk:fd.offset=k) (hp:cV p=some pv) {x:AV} (he:SV k n (val g pv)=some x):bu P c o a w g h x .no:=by
 have h1:=bc s hp;cases hval:val g pv<;>rw[hval]at he h1<;>simp only[SV]at he<;>try cases he
 case agg cells =>
  obtain⟨cs,h2,h3⟩:=h1;obtain⟨r,h4,h5⟩:=og hn h3 he;exact bu.pure s (r:=r) (by simp[execOp,ho,h2,Instr.field,underlying,ht,hf,asAgg,hk,h4]) h5.toV
def aaQ(s:aT c bl g h a w){t e:TypeId}{n:Nat}{x i:Operand}{xv iv:IV}(ho:o.op = .indexAddr t x i)(ht:P.underlying t=some (.slice e))(hn:jo P e=some n)(hx:cV x=some xv)(hi:cV i=some iv)
  {v:AV} (he:BQ n (val g xv) (val g iv)=some v):bu P c o a w g h v .no:=by
 have h1:=bc s hx;have h2:=bc s hi;have hsz:(sizeOf e).run P w = .ok n w:=by
  unfold jo at hn;simp only[eS]at hn;obtain⟨inf,hi1,hi2⟩:=hn;simp[sizeOf,typeInfo,hi1,hi2]
 have hrun:∀{b off len cap:Nat}{k:IntKind}{j:Int},a.eval x = .slice (some ⟨b,off,none⟩) len cap->a.eval i = .int k j->0<=j->j<len ->
   (execOp a.eval o).run P w = .ok (.value (.pointer (some ⟨b,off+j.toNat*n,none⟩))) w:=λhv hj h0 hl=>by
  simp[execOp,ho,hv,hj,Instr.indexAt,asIntOf,underlying,ht,h0,hl,hsz,lQ]
 unfold BQ at he;split at he
 .rename_i st' rows k j e1 e2;rw[e1]at h1;rw[e2]at h2;split at he
  case isFalse=>cases he
  rename_i hcond;obtain⟨rfl,h0⟩:=hcond;split at he
  case h_2=>cases he
  rename_i r hr;cases he;generalize hu:a.eval x=u at h1;have h3:=h1.sl;have hlt:=(jh.1 hr).1;cases h3 with
  | nls=>simp at hlt
  | sl0 st ad cap=>simp at hlt
  | sl b off cap st c1 t1 fr rows vs hb hM hl hrl hv hx' =>
   refine bu.pure s (hrun hu h2.int h0 (by omega)) ?_;have hrl':=hrl _ _ hr;exact IRel.ip b (off+j.toNat*st') c1 t1 fr r (λq=>vs j.toNat q) hb hM (λq hq=>hv _ _ hlt (by omega)) (λq y hy=>hx' _ _ _ _ hr hy)
 .rename_i id st' off len k j e1 e2;rw[e1]at h1;rw[e2]at h2;split at he
  case isFalse=>cases he
  rename_i hcond;obtain⟨rfl,h0,hl⟩:=hcond;cases he;rcases h1 with⟨_,_,h4⟩|⟨h4,_⟩|⟨b,cap,c1,t1,fr,h3,h4,h5⟩
  .omega
  .omega
  .refine bu.pure s (hrun h4 h2.int h0 hl) ⟨b,h3,?_⟩;rw[lE,Nat.add_zero]
 .cases he
def aaL(s:aT c bl g h a w){t e:TypeId}{n len:Nat}{x i:Operand}{xv iv:IV}(ho:o.op = .indexAddr t x i)(ht:P.underlying t=some (.array len e))(hn:jo P e=some n)(hx:cV x=some xv)(hi:cV i=some iv)
  {v:AV} (he:GX n len (val g xv) (val g iv)=some v):bu P c o a w g h v .no:=by
 have h1:=bc s hx;have h2:=bc s hi;have hsz:(sizeOf e).run P w = .ok n w:=by
  unfold jo at hn;simp only[eS]at hn;obtain⟨inf,hi1,hi2⟩:=hn;simp[sizeOf,typeInfo,hi1,hi2]
 have hrun:∀{b off:Nat}{k:IntKind}{j:Int},a.eval x = .pointer (some ⟨b,off,none⟩)->a.eval i = .int k j->0<=j->j<len ->
   (execOp a.eval o).run P w = .ok (.value (.pointer (some ⟨b,off+j.toNat*n,none⟩))) w:=λhv hj h0 hl=>by
  simp[execOp,ho,hv,hj,Instr.indexAt,asIntOf,underlying,ht,h0,hl,hsz,lQ,Instr.sureAddr]
 unfold GX at he;split at he
 .rename_i cells k j e1 e2;rw[e1]at h1;rw[e2]at h2;split at he
  case isFalse=>cases he
  rename_i hcond;cases he;generalize hu:a.eval x=u at h1;have h3:=h1.ip;cases h3 with
  | ip b off c1 t1 fr cells vs hb hM hv hx' =>
   refine bu.pure s (hrun hu h2.int hcond.1 hcond.2) ?_;refine IRel.ip b (off+j.toNat*n) c1 t1 fr (cells.drop (j.toNat*n)) (λq=>vs (j.toNat*n+q)) hb hM (λq hq=>?_) (λq y hy=>?_)
   .rw[<-hv (j.toNat*n+q) (by simp at hq;omega)];congr 1;omega
   .rw[J1]at hy;exact hx' _ _ hy
 .rename_i id st' row off k j e1 e2;rw[e1]at h1;rw[e2]at h2;split at he
  case isFalse=>cases he
  rename_i hcond;cases he;obtain⟨b,hb,h3⟩:=h1.mp;exact bu.pure s (hrun h3 h2.int hcond.1 hcond.2) ⟨b,hb,by congr 3;omega⟩
 .cases he
def Wd(s:aT c bl g h a w){cl:Call}{m:Bool}{x y:Operand}{xv yv:IV}(ho:o.op = .call cl)(hcl:cl.callee = .builtin (if m then .max else .min))(har:cl.args = #[x,y])(hx:cV x=some xv)(hy:cV y=some yv)
  {v:AV} (he:Qr m (val g xv) (val g yv)=some v):bu P c o a w g h v .no:=by
 have h1:=bc s hx;have h2:=bc s hy;unfold Qr at he;split at he
 case h_2=>cases he
 rename_i k n k' q e1 e2;split at he
 case isFalse=>cases he
 rename_i hk;subst hk;cases he;rw[e1]at h1;rw[e2]at h2;have e3:=h1.int;have e4:=h2.int;cases m
 .refine bu.pure s (r:=.int k (if q<n then q else n)) ?_ (u3 _ _);simp[execOp,ho,resolve,hcl,har,invoke,builtin,Builtin.min_,Builtin.min2,e3,e4]
 .refine bu.pure s (r:=.int k (if n<q then q else n)) ?_ (u3 _ _);simp[execOp,ho,resolve,hcl,har,invoke,builtin,Builtin.max_,Builtin.max2,e3,e4]
def xP(s:aT c bl g h a w){d n:Nat}{x:Option Operand}{xv:Option IV}(hx:vM x=some xv)(he:fj d (xv.map (val g))=some n) :
  (x=none/\n=d)\/∃y k,x=some y/\a.eval y = .int k n:=by
 cases x with
 | none=>simp only[vM,dt]at hx;subst hx;simp only[Option.map_none,fj,dt]at he;exact .inl ⟨rfl,he.symm⟩
 | some y =>
  simp only[vM,eS]at hx;obtain⟨yv,hy,rfl⟩:=hx;have h1:=bc s hy;simp only[fR]at he;cases hval:val g yv<;>rw[hval]at he h1<;>simp only[fj]at he<;>try cases he
  case int k m =>
   split at he
   case isFalse=>cases he
   rename_i h0;cases he;refine .inr ⟨y,k,rfl,?_⟩;rw[h1.int];congr 1;omega
def jg{k:IntKind}{n y:Nat}{code:BoundsCode}(h:n<=y):(Instr.sliceBound (.int k n) y code).run P w = .ok n w:=by
 have h2:(n:Int)<=y:=by omega
 simp[Instr.sliceBound,asIntOf,h2]
def iY(s:aT c bl g h a w){isS:Bool}{len cap l hh m:Nat}{lo hi mx:Option Operand}{lov hiv mxv:Option IV}(hlo:vM lo=some lov)(hhi:vM hi=some hiv)(hmx:vM mx=some mxv)
  (h1:fj 0 (lov.map (val g))=some l) (h2:fj len (hiv.map (val g))=some hh) (h3:fj len (mxv.map (val g))=some m) (hl:l<=hh) (hm:hh<=m) (hc:m<=len) (hcap:len<=cap) (hb:mx.isSome=true->hi.isSome=true) :
  ∃m',(Instr.sliceBounds isS len cap (lo.map a.eval) (hi.map a.eval) (mx.map a.eval)).run P w = .ok (l,hh,m') w/\hh<=m'/\m'<=cap:=by
 have a1:=xP s hlo h1;have a2:=xP s hhi h2;have a3:=xP s hmx h3;rcases a3 with⟨rfl,rfl⟩|⟨y3,k3,rfl,e3⟩
 .refine⟨cap,?_,by omega,aQ _⟩;rcases a2 with⟨rfl,rfl⟩|⟨y2,k2,rfl,e2⟩
  .rcases a1 with⟨rfl,rfl⟩|⟨y1,k1,rfl,e1⟩
   .simp[Instr.sliceBounds]
   .simp[Instr.sliceBounds,e1,jg (P:=P) (w:=w) hl]
  .rcases a1 with⟨rfl,rfl⟩|⟨y1,k1,rfl,e1⟩
   .simp[Instr.sliceBounds,e2,jg (P:=P) (w:=w) (show hh<=cap by omega)]
   .simp[Instr.sliceBounds,e2,e1,jg (P:=P) (w:=w) (show hh<=cap by omega),jg (P:=P) (w:=w) hl]
 .refine⟨m,?_,hm,by omega⟩;rcases a2 with⟨rfl,rfl⟩|⟨y2,k2,rfl,e2⟩
  .simp at hb
  .rcases a1 with⟨rfl,rfl⟩|⟨y1,k1,rfl,e1⟩
   .simp[Instr.sliceBounds,e3,e2,jg (P:=P) (w:=w) (show m<=cap by omega),jg (P:=P) (w:=w) hm]
   .simp[Instr.sliceBounds,e3,e2,e1,jg (P:=P) (w:=w) (show m<=cap by omega),jg (P:=P) (w:=w) hm,jg (P:=P) (w:=w) hl]
end
section
variable{P:Program}{c:sV}{bl:Nat->Option Nat}{g:Nat->AV}{h:Nat->Option au}{a:Act}{w:World}{o:Oper}{M:Nat->Prop}
def zV{e:TypeId}{n:Nat}(hn:jo P e=some n):(sizeOf e).run P w = .ok n w:=by
 unfold jo at hn;simp only[eS]at hn;obtain⟨inf,hi1,hi2⟩:=hn;simp[sizeOf,typeInfo,hi1,hi2]
def eu{t e:TypeId}{n:Nat}{x:Operand}{lo hi mx:Option Operand}(ho:o.op = .slice t x lo hi mx)(ht:P.underlying t=some (.slice e))(hn:jo P e=some n){ad:Option Addr}{len cap l hh m:Nat}
  (hx:a.eval x = .slice ad len cap) (hb:(Instr.sliceBounds true len cap (lo.map a.eval) (hi.map a.eval) (mx.map a.eval)).run P w = .ok (l,hh,m) w) :
  (execOp a.eval o).run P w = .ok (.value (.slice (if m=l then ad else ad.map (·.add (l*n))) (hh-l) (m-l))) w:=by
 simp only[execOp,ho,Instr.sliceAt,mq,hx];simp[underlying,ht,Instr.slice,hb,zV (w:=w) hn]
def afI(s:aT c bl g h a w){t e:TypeId}{n:Nat}{x:Operand}{lo hi mx:Option Operand}{xv:IV}{lov hiv mxv:Option IV}(ho:o.op = .slice t x lo hi mx)(ht:P.underlying t=some (.slice e))(hn:jo P e=some n)
  (hx:cV x=some xv) (hlo:vM lo=some lov) (hhi:vM hi=some hiv) (hmx:vM mx=some mxv) (hb:mx.isSome=true->hi.isSome=true)
  {v:AV} (he:FB n (val g xv) (lov.map (val g)) (hiv.map (val g)) (mxv.map (val g))=some v):bu P c o a w g h v .no:=by
 have h1:=bc s hx;cases hval:val g xv<;>rw[hval]at he h1<;>simp only[FB]at he<;>try cases he
 case nl =>
  split at he
  case h_2=>cases he
  rename_i l hh m e1 e2 e3;split at he
  case isFalse=>cases he
  rename_i hcond;obtain⟨rfl,rfl,rfl⟩:=hcond;cases he;obtain⟨m',hr,hm1,hm2⟩:=iY (P:=P) (isS:=true) s hlo hhi hmx e1 e2 e3 (aQ _) (aQ _) (aQ _) (aQ 0) hb;have hm0:m'=0:=by omega
  subst hm0;exact bu.pure s (eu ho ht hn h1.nl hr) (by simp;exact IRel.nl)
 case sl st rows =>
  split at he
  case h_2=>cases he
  rename_i l hh m e1 e2 e3;split at he
  case isFalse=>cases he
  rename_i hcond;obtain⟨rfl,hl1,hl2,hl3⟩:=hcond;cases he;generalize hu:a.eval x=u at h1;have h3:=h1.sl;cases h3 with
  | nls =>
   obtain⟨m',hr,hm1,hm2⟩:=iY (P:=P) (isS:=true) s hlo hhi hmx e1 e2 e3 hl1 hl2 hl3 (aQ _) hb;have hm0:m'=0:=by simpa using hm2
   subst hm0;have hl0:l=0:=by omega
   have hh0:hh=0:=by omega
   subst hl0 hh0;exact bu.pure s (eu ho ht hn hu hr) (by simp;exact IRel.nls _)
  | sl0 st ad cap =>
   obtain⟨m',hr,hm1,hm2⟩:=iY (P:=P) (isS:=true) (cap:=cap) s hlo hhi hmx e1 e2 e3 hl1 hl2 hl3 (dx _) hb;have hl0:l=0:=by simp at hl3;omega
   have hh0:hh=0:=by simp at hl3;omega
   subst hl0 hh0;refine bu.pure s (eu ho ht hn hu hr) ?_;have:(List.drop 0 ([]:List (List AV))).take (0-0)=[]:=by simp
   rw[this];split
   .exact IRel.sl0 _ _ _
   .exact IRel.sl0 _ _ _
  | sl b off cap st c1 t1 fr rows vs hb' hM hl hrl hv hx' =>
   obtain⟨m',hr,hm1,hm2⟩:=iY (P:=P) (isS:=true) (cap:=cap) s hlo hhi hmx e1 e2 e3 hl1 hl2 hl3 hl hb;refine bu.pure s (eu ho ht hn hu hr) ?_;by_cases h0:hh=l
   .subst h0;have hnil:(List.drop hh rows).take (hh-hh)=[]:=by simp
    rw[hnil,Cc];split
    .exact IRel.sl0 _ _ _
    .exact IRel.sl0 _ _ _
   .have hne:m'≠l:=by omega
    rw[an hne];simp only[fR,lQ];have hlen:((rows.drop l).take (hh-l)).length=hh-l:=by simp;omega
    have getr:∀(i:Nat)(r:List AV),((rows.drop l).take (hh-l))[i]?=some r->rows[l+i]?=some r:=λi r hi=>by
     rw[Fw]at hi;split at hi
     .simpa using hi
     .cases hi
    have key:=IRel.sl (M:=bQ bl c.MF h) (w:=w) b (off+l*st) (m'-l) st c1 t1 fr ((rows.drop l).take (hh-l)) (λi j=>vs (l+i) j) hb' hM (by omega) (λi r hi=>hrl _ _ (getr i r hi))
     (λi j hi hj=>by
      rw[<-hv (l+i) j (by omega) hj];congr 1;rw[lE];omega)
     (λi j r y hi hy=>hx' _ _ _ _ (getr i r hi) hy)
    rw[hlen]at key;exact key
 case ms id st off len =>
  split at he
  case h_2=>cases he
  rename_i l hh m e1 e2 e3;split at he
  case isFalse=>cases he
  rename_i hcond;obtain⟨rfl,hl1,hl2,hl3,hmn⟩:=hcond;cases he;have hmxn:mx=none:=by
   cases mx with
   | none=>rfl
   | some y =>
    simp only[vM,eS]at hmx;obtain⟨yv,_,rfl⟩:=hmx;simp at hmn
  rcases h1 with⟨h2,h3,h4⟩|⟨h2,h3,ad,cap,h4⟩|⟨b,cap,c1,t1,fr,h2,h3,h4,h5,h6⟩
  .subst h3 h4;obtain⟨m',hr,hm1,hm2⟩:=iY (P:=P) (isS:=true) s hlo hhi hmx e1 e2 e3 hl1 hl2 hl3 (aQ _) hb;have hm0:m'=0:=by omega
   subst hm0;have hl0:l=0:=by omega
   have hh0:hh=0:=by omega
   subst hl0 hh0;exact bu.pure s (eu ho ht hn h2 hr) (.inl ⟨by simp,by simp,by simp⟩)
  .subst h2;obtain⟨m',hr,hm1,hm2⟩:=iY (P:=P) (isS:=true) (cap:=cap) s hlo hhi hmx e1 e2 e3 hl1 hl2 hl3 (dx _) hb;have hl0:l=0:=by omega
   have hh0:hh=0:=by omega
   subst hl0 hh0;refine bu.pure s (eu ho ht hn h4 hr) (.inr (.inl ⟨by simp,by simpa using h3,?_⟩));split
   .exact⟨_,_,rfl⟩
   .exact⟨_,_,rfl⟩
  .obtain⟨m',hr,hm1,hm2⟩:=iY (P:=P) (isS:=true) (cap:=cap) s hlo hhi hmx e1 e2 e3 hl1 hl2 hl3 h4 hb;refine bu.pure s (eu ho ht hn h3 hr) ?_;by_cases h0:hh=l/\off+l≠0
   .obtain⟨rfl,h0⟩:=h0;refine .inr (.inl ⟨by simp,h0,?_⟩);rw[Cc];split
    .exact⟨_,_,rfl⟩
    .exact⟨_,_,rfl⟩
   .have hcap:(off+l)*st+(m'-l)*st<=c1.size:=by
     have e1:(off+l)*st+(m'-l)*st=off*st+m'*st:=by
      rw[<-lE,<-lE];congr 1;omega
     have e2:m'*st<=cap*st:=qB st hm2;omega
    refine .inr (.inr ⟨b,m'-l,c1,t1,fr,h2,?_,by omega,h5,hcap⟩);have e3:(if m'=l then some (⟨b,off*st,none⟩:Addr)else(some (⟨b,off*st,none⟩:Addr)).map (·.add (l*st)))=some ⟨b,(off+l)*st,none⟩:=by
     split
     .have:l=0:=by omega
      subst this;simp
     .simp only[fR,lQ,lE]
    rw[e3]
def aaY(s:aT c bl g h a w){t:TypeId}{x:Operand}{lo hi:Option Operand}{xv:IV}{lov hiv:Option IV}(ho:o.op = .slice t x lo hi none)(ht:P.underlying t=some .string)
  (hx:cV x=some xv) (hlo:vM lo=some lov) (hhi:vM hi=some hiv) {v:AV} (he:xn (val g xv) (lov.map (val g)) (hiv.map (val g))=some v):bu P c o a w g h v .no:=by
 have h1:=bc s hx;cases hval:val g xv<;>rw[hval]at he h1<;>simp only[xn]at he<;>try cases he
 case str st =>
  split at he
  case h_2=>cases he
  rename_i l hh e1 e2;split at he
  case isFalse=>cases he
  rename_i hcond;cases he;have hsz:(ByteArray.mk st.toArray).size=st.length:=by simp[ByteArray.size]
  obtain⟨m',hr,hm1,hm2⟩:=iY (P:=P) (isS:=false) (cap:=st.length) (mx:=none) (mxv:=none) s hlo hhi rfl e1 e2 rfl hcond.1 hcond.2 (aQ _) (aQ _) (by simp);refine bu.pure s (r:=.string ⟨((st.drop l).take (hh-l)).toArray⟩) ?_ (aa_ _);have hex:(ByteArray.mk st.toArray).extract l hh=ByteArray.mk ((st.drop l).take (hh-l)).toArray:=by
   apply ByteArray.ext;simp[ByteArray.data_extract,List.extract_toArray,List.extract_eq_take_drop]
  simp only[Option.map_none]at hr;simp[execOp,ho,Instr.sliceAt,underlying,ht,Instr.slice,h1.str,hsz,hr,hex]
def vr{bl:Nat->Option Nat}{v:Value}{x:AV}{cs:List AV}(hv:bv bl M w v x)(hc:jv x=some cs):bg (cJ bl M w) v.cells.toList cs:=by
 have key:∀y,cJ bl M w v y->bg (cJ bl M w) v.cells.toList [y]:=λy h1=>by
  have h2:=cJ.one h1;have h3:v.cells = #[v]:=by cases v<;>first|rfl|exact h2.elim
  rw[h3];exact⟨h1,trivial⟩
 cases x with
 | agg cells =>
  simp only[jv,dt]at hc;subst hc;obtain⟨vs,rfl,h2⟩:=hv;simpa[Value.cells]using h2
 | tup vs=>simp[jv]at hc
 | any=>simp[jv]at hc
 | _ =>
  simp only[jv,dt]at hc;subst hc;exact key _ hv
def Hp(vs:List Value):∀(k:Nat)(cs:Array Value)(off:Nat),off+k+vs.length<=cs.size->∀(i:Nat),
  ((vs.zipIdx k).foldl (λ(cs:Array Value)(p:Value×Nat)=>cs.setIfInBounds (off+p.2) p.1) cs)[i]? = if off+k<=i/\i<off+k+vs.length then vs[i-(off+k)]? else cs[i]?:=by
 induction vs with
 | nil=>intro k cs off h i;simp;intro h1 h2;omega
 | cons v r ih =>
  intro k cs off h i;simp only[List.zipIdx_cons,List.foldl_cons,i9]at h⊢;rw[ih (k+1) (cs.setIfInBounds (off+k) v) off (by simp;omega) i,J0];by_cases h1:off+k=i
  .subst h1;rw[an (by omega),az (by omega)];simp;omega
  .by_cases h2:off+k<=i/\i<off+k+(r.length+1)
   .rw[az (by omega),az h2,show i-(off+k)=(i-(off+(k+1)))+1 by omega,Fs]
   .rw[an (by omega),an h2,an h1]
def DL(vs:List Value):∀(k:Nat)(cs:Array Value)(off:Nat),
  ((vs.zipIdx k).foldl (λ(cs:Array Value)(p:Value×Nat)=>cs.setIfInBounds (off+p.2) p.1) cs).size=cs.size:=by
 induction vs with
 | nil=>intro k cs off;simp
 | cons v r ih=>intro k cs off;simp only[List.zipIdx_cons,List.foldl_cons];rw[ih];simp
def Fh(r:List AV)(off:Nat)(cs:List AV)(h:off+cs.length<=r.length)(i:Nat) :
  (jw r off cs)[i]? = if off<=i/\i<off+cs.length then cs[i-off]? else r[i]?:=by
 unfold jw;by_cases h1:i<off
 .rw[an (by omega),vk,MH (by simp;omega),Fw,az h1]
 .by_cases h2:i<off+cs.length
  .rw[az (by omega),MH (by simp;omega),Ay (by simp;omega)];simp[MG (show off<=r.length by omega)]
  .rw[an (by omega),Ay (by simp;omega),J1];congr 1;simp;omega
def xF(r:List AV)(off:Nat)(cs:List AV)(h:off+cs.length<=r.length):(jw r off cs).length=r.length:=by
 unfold jw;simp;omega
def T_{bl:Nat->Option Nat}{cs:Array Value}{cells:List AV}{v:Value}{ys:List AV}{off:Nat}(hc:bg (cJ bl M w) cs.toList cells)(hv:bg (cJ bl M w) v.cells.toList ys)(hl:off+ys.length<=cells.length) :
  bg (cJ bl M w) (v.cells.zipIdx.foldl (λ(cs:Array Value)(p:Value×Nat)=>cs.setIfInBounds (off+p.2) p.1) cs).toList (jw cells off ys):=by
 have e1:=hc.length;have e2:=hv.length;simp only[pJ]at e1 e2;have hf:v.cells.zipIdx.foldl (λ(cs:Array Value)(p:Value×Nat)=>cs.setIfInBounds (off+p.2) p.1) cs=(v.cells.toList.zipIdx 0).foldl (λ(cs:Array Value)(p:Value×Nat)=>cs.setIfInBounds (off+p.2) p.1) cs:=by
  rw[<-Array.foldl_toList,Array.toList_zipIdx]
 rw[hf];refine bg.of_get ?_ ?_
 .rw[xF _ _ _ hl,pJ,DL,e1]
 .intro i x y hx hy;rw[Array.getElem?_toList,Hp _ _ _ _ (by simp;omega)]at hx;rw[Fh _ _ _ hl]at hy;simp only[Nat.add_zero,pJ,e2]at hx;split at hx
  .rename_i h1;rw[az h1]at hy;obtain⟨u,hu,hr⟩:=hv.get hy;rw[hu]at hx;cases hx;exact hr
  .rename_i h1;rw[an h1]at hy;obtain⟨u,hu,hr⟩:=hc.get hy;rw[Array.getElem?_toList,hx]at hu;cases hu;exact hr
end
section
variable{P:Program}{c:sV}{bl:Nat->Option Nat}{g:Nat->AV}{h:Nat->Option au}{a:Act}{w:World}{o:Oper}{M:Nat->Prop}
def lC{t:TypeId}{z:List AV}(hz:qz P t=some z):∃i v,P.info? t=some i/\i.zero=some v/\bg (IRel M w) v.cells.toList z/\pm v.cells.toList=some z:=by
 unfold qz at hz;split at hz
 .rename_i i hi;split at hz
  .rename_i v hv;exact⟨i,v,hi,hv,xU hz,hz⟩
  .cases hz
 .cases hz
def DG(s:aT c bl g h a w){places:List (Nat×Nat)}:∀(parts:List (Nat×Operand))(ps:List (Nat×Nat×IV))(cs:Array Value)(cells out:List AV),AH places parts=some ps ->
  bg (cJ bl (bQ bl c.MF h) w) cs.toList cells->mw (val g) cells ps=some out ->
  ∃cs',Instr.fill (places.toArray[·]?) cs (parts.map λ(i,x)=>(i,a.eval x))=some cs'/\bg (cJ bl (bQ bl c.MF h) w) cs'.toList out
 | [],ps,cs,cells,out,hp,hc,ho=>by
  simp only[AH,dt]at hp;subst hp;simp only[mw,dt]at ho;subst ho;exact⟨cs,rfl,hc⟩
 | (i,x)::r,ps,cs,cells,out,hp,hc,ho=>by
  simp only[AH]at hp;split at hp
  case h_2=>cases hp
  rename_i off n v l h1 h2 h3;cases hp;simp only[mw]at ho;split at ho
  case h_2=>cases ho
  rename_i ys hys;split at ho
  case isFalse=>cases ho
  rename_i hcond;obtain⟨hl1,hl2⟩:=hcond;have hv:=vr (bc s h2) hys;have e1:(a.eval x).cells.size=n:=by have:=hv.length;simp only[pJ]at this;omega
  have e2:cs.size=cells.length:=by have:=hc.length;simpa only[pJ]using this
  obtain⟨cs',h4,h5⟩:=DG s r l _ _ out h3 (T_ hc hv (by omega)) ho;refine⟨cs',?_,h5⟩;simp only[cM,Instr.fill];simp only[List.getElem?_toArray]at h4⊢;rw[h1];have hcond2:¬(decide ((a.eval x).cells.size≠n)||decide (off+(a.eval x).cells.size>cs.size))=true:=by simp;omega
  simp only[hcond2];exact h4
def Wc(s:aT c bl g h a w){t:TypeId}{fs:Array Field}{z:List AV}{places:List (Nat×Nat)}{parts:Array (Nat×Operand)}{ps:List (Nat×Nat×IV)}(ho:o.op = .build t parts)(ht:P.underlying t=some (.struct fs))
  (hz:qz P t=some z) (hpl:JS P fs=some places) (hp:AH places parts.toList=some ps) {out:List AV} (he:mw (val g) z ps=some out):bu P c o a w g h (.agg out) .no:=by
 obtain⟨i,v,h1,h2,h3,_⟩:=lC (M:=bQ bl c.MF h) (w:=w) hz;obtain⟨cs,h4,h5⟩:=DG s parts.toList ps v.cells z out hp (h3.mono λ_ _ _ hr=>IRel.toC hr) he;have hb:P.built t (parts.map λ(i,x)=>(i,a.eval x)).toList=some cs:=by
  unfold JS at hpl;simp only[Program.built,h1,ht,h2,hpl];rw[Array.toList_map];exact h4
 exact bu.pure s (r:=.agg cs) (by simp[execOp,ho,run_build w t _ cs hb]) ⟨cs.toList,by simp,h5⟩
def RF(s:aT c bl g h a w){t e:TypeId}{n:Nat}{ie:TypeInfo}{z:List AV}{parts:Array (Nat×Operand)}(ho:o.op = .build t parts)(ht:P.underlying t=some (.array n e))
  (hz:qz P t=some z) (hie:P.info? e=some ie) (hp:parts.toList=[]):bu P c o a w g h (.agg z) .no:=by
 obtain⟨i,v,h1,h2,h3,_⟩:=lC (M:=bQ bl c.MF h) (w:=w) hz;have hb:P.built t (parts.map λ(i,x)=>(i,a.eval x)).toList=some v.cells:=by
  simp only[Program.built,h1,ht,h2,hie];rw[Array.toList_map,hp];rfl
 exact bu.pure s (r:=.agg v.cells) (by simp[execOp,ho,run_build w t _ v.cells hb]) ⟨v.cells.toList,by simp,h3.mono λ_ _ _ hr=>IRel.toC hr⟩
def Vz{v:Value}{x:AV}(hc:G2 v=some x)(i:Nat):mC i x=false:=by
 unfold G2 at hc;split at hc<;>first|(cases hc;done)|(cases hc;rfl)
def Hy:∀{vs:List Value}{xs:List AV},pm vs=some xs->∀x∈xs,∀i,mC i x=false
 | [],xs,hc=>by simp only[pm,dt]at hc;subst hc;simp
 | v::r,xs,hc=>by
  simp only[pm]at hc;split at hc
  .rename_i x ys h1 h2;simp only[dt]at hc;subst hc;intro y hy i;rcases bM.1 hy with rfl|hy
   .exact Vz h1 i
   .exact Hy h2 y hy i
  .cases hc
def nD(cs:Array Value):fQ cs (0,0):=.inl rfl
def EO(s:aT c bl g h a w){d:Nat}{t:TypeId}{v:Value}{cs:List AV}(hd:h d=none)(hu:dG d g h)(hid:d<1000\/2000<=d)
  (hrun:(execOp a.eval o).run P w = .ok (.value (.pointer (some ⟨w.heap.size,0,none⟩))) (w.alloc (.cells v.cells t)))
  (hc:bg (cJ bl (bQ bl c.MF h) w) v.cells.toList cs) (hno:∀x∈cs,mC d x=false):bu P c o a w g h (.mp d cs.length 0 0) (.new d ⟨t,cs.length,[cs],true⟩):=by
 have e1:=hc.length;simp only[pJ]at e1;have hs:=s.new (i:=d) (o:=⟨t,cs.length,[cs],true⟩) (cs:=v.cells) (fr:=(0,0)) (w':=w.alloc (.cells v.cells t)) hd hu hid rfl rfl rfl (nD _)
  ⟨λi r hr=>by
   cases i with
   | zero=>simp at hr;subst hr;rfl
   | succ i=>simp at hr,by simp[e1],λi j r x hr hx=>by
   cases i with
   | zero =>
    simp at hr;subst hr;obtain⟨u,hu1,hu2⟩:=hc.get hx;exact⟨u,by simpa using hu1,hu2⟩
   | succ i=>simp at hr⟩ (λ_ r hr x hx=>by
   simp at hr;subst hr;exact hno x hx)
 exact⟨_,_,_,.inl hrun,hs,w.heap.size,cz _ _ _,by simp⟩
def afE(s:aT c bl g h a w){d:Nat}{t:TypeId}{z:List AV}(ho:o.op = .alloc t)(hz:qz P t=some z)(hd:h d=none)(hu:dG d g h)(hid:d<1000\/2000<=d) :
  bu P c o a w g h (.mp d z.length 0 0) (.new d ⟨t,z.length,[z],true⟩):=by
 obtain⟨i,v,h1,h2,h3,h4⟩:=lC (M:=bQ bl c.MF h) (w:=w) hz;refine EO (v:=v) s hd hu hid ?_ (h3.mono λ_ _ _ hr=>IRel.toC hr) (λx hx=>Hy h4 x hx d);simp[execOp,ho,Instr.alloc,zeroValue,typeInfo,h1,h2,newVar,newRow]
def afo(s:aT c bl g h a w){d:Nat}{t:TypeId}{x:Operand}{xv:IV}{cs:List AV}(ho:o.op = .box t x)(hx:cV x=some xv)(hc:jv (val g xv)=some cs)(hno:∀y∈cs,mC d y=false)
  (hd:h d=none) (hu:dG d g h) (hid:d<1000\/2000<=d):bu P c o a w g h (.mp d cs.length 0 0) (.new d ⟨t,cs.length,[cs],true⟩):=by
 refine EO (v:=a.eval x) s hd hu hid ?_ (vr (bc s hx) hc) hno;simp[execOp,ho,Instr.box,newVar,newRow]
def H3(M:Nat->Prop)(w:World)(st:Nat)(cs:Array Value)(rows:List (List AV)):Prop :=
 (∀(i:Nat)(r:List AV),rows[i]?=some r->r.length=st)/\cs.size=rows.length*st /\
 ∀(i j:Nat)(r:List AV)(x:AV),rows[i]?=some r->r[j]?=some x->∃v,cs[i*st+j]?=some v/\IRel M w v x
def KL{bl:Nat->Option Nat}{v:Value}{x:AV}(hv:cJ bl M w v x)(hi:vO x=true):IRel M w v x:=by
 cases x<;>first|(simp[vO]at hi;done)|exact hv
def HT{st i j k:Nat}(hj:j<st):(k*st<=i*st+j/\i*st+j<k*st+st)↔i=k:=by
 constructor
 .rintro⟨h1,h2⟩;rcases Nat.lt_trichotomy i k with hlt|heq|hgt
  .have:=qB st (show i+1<=k by omega);rw[lE]at this;omega
  .exact heq
  .have:=qB st (show k+1<=i by omega);rw[lE]at this;omega
 .rintro rfl;omega
def Hi(s:aT c bl g h a w){st:Nat}:∀(parts:List (Nat×Operand))(ps:List (Nat×IV))(cs:Array Value)(rows out:List (List AV)),G6 parts=some ps ->
  H3 (bQ bl c.MF h) w st cs rows->mX (val g) st rows ps=some out ->
  ∃cs',Instr.fill (λi=>some (i*st,st)) cs (parts.map λ(i,x)=>(i,a.eval x))=some cs'/\H3 (bQ bl c.MF h) w st cs' out
 | [],ps,cs,rows,out,hp,hc,ho=>by
  simp only[G6,dt]at hp;subst hp;simp only[mX,dt]at ho;subst ho;exact⟨cs,rfl,hc⟩
 | (k,x)::r,ps,cs,rows,out,hp,hc,ho=>by
  simp only[G6]at hp;split at hp
  case h_2=>cases hp
  rename_i v l h2 h3;cases hp;simp only[mX]at ho;split at ho
  case h_2=>cases ho
  rename_i ys hys;split at ho
  case isFalse=>cases ho
  rename_i hcond;obtain⟨hl1,hl2,himm⟩:=hcond;have hv:=vr (bc s h2) hys;have e1:(a.eval x).cells.size=st:=by have:=hv.length;simp only[pJ]at this;omega
  obtain⟨hr1,hr2,hr3⟩:=hc;have hle:k*st+st<=cs.size:=by
   rw[hr2];have:=qB st (show k+1<=rows.length by omega);rw[lE]at this;omega
  have hfold:(a.eval x).cells.zipIdx.foldl (λ(cs:Array Value)(p:Value×Nat)=>cs.setIfInBounds (k*st+p.2) p.1) cs=((a.eval x).cells.toList.zipIdx 0).foldl (λ(cs:Array Value)(p:Value×Nat)=>cs.setIfInBounds (k*st+p.2) p.1) cs:=by
   rw[<-Array.foldl_toList,Array.toList_zipIdx]
  obtain⟨cs',h4,h5⟩:=Hi s r l ((a.eval x).cells.zipIdx.foldl (λ(cs:Array Value)(p:Value×Nat)=>cs.setIfInBounds (k*st+p.2) p.1) cs) (rows.set k ys) out h3 ⟨λi q hq=>by
    rw[List.getElem?_set]at hq;split at hq
    .cases hq;exact hl1
    .exact hr1 i q hq,by rw[hfold,DL,hr2];simp,λi j q y hq hy=>by
    rw[hfold,Hp _ _ _ _ (by simp;omega)];simp only[Nat.add_zero,pJ,e1];rw[List.getElem?_set]at hq;split at hq
    .rename_i hki;subst hki;cases hq;have hj:j<st:=by rw[<-hl1];exact(jh.1 hy).1
     obtain⟨u,hu,hr⟩:=hv.get hy;refine⟨u,?_,KL hr (ii.1 himm y (rO hy))⟩;rw[az (by omega),show k*st+j-k*st=j by omega];exact hu
    .rename_i hki;have hj:j<st:=by rw[<-hr1 i q hq];exact(jh.1 hy).1
     obtain⟨u,hu,hr⟩:=hr3 i j q y hq hy;refine⟨u,?_,hr⟩;rw[an (λhh=>hki ((HT hj).1 hh).symm)];exact hu⟩ ho
  refine⟨cs',?_,h5⟩;simp only[cM,Instr.fill];have hcond2:¬(decide ((a.eval x).cells.size≠st)||decide (k*st+(a.eval x).cells.size>cs.size))=true:=by simp;omega
  simp only[hcond2];exact h4
def HX{z:Array Value}{zs:List AV}{st len:Nat}(hz:bg (IRel M w) z.toList zs)(hl:zs.length=st)(h0:1<=st) :
  H3 M w st ((Array.range (len*st)).map (z[· % z.size]!)) (List.replicate len zs):=by
 have e1:=hz.length;simp only[pJ]at e1;refine⟨λi r hr=>?_,by simp,λi j r x hr hx=>?_⟩
 .rw[List.getElem?_replicate]at hr;split at hr
  .cases hr;exact hl
  .cases hr
 .rw[List.getElem?_replicate]at hr;split at hr
  case isFalse=>cases hr
  rename_i hi;cases hr;have hj:j<st:=by rw[<-hl];exact(jh.1 hx).1
  obtain⟨u,hu,hr⟩:=hz.get hx;refine⟨u,?_,hr⟩;have hlt:i*st+j<len*st:=by
   have:=qB st (show i+1<=len by omega);rw[lE]at this;omega
  have hmod:(i*st+j)%z.size=j:=by
   rw[show z.size=st by omega,Nat.add_comm,Nat.add_mul_mod_self_right];exact Nat.mod_eq_of_lt hj
  rw[Array.getElem?_map,Array.getElem?_range,az hlt];simp only[fR,hmod];rw[Array.getElem?_toList]at hu;rw[getElem!_pos z j (by omega)];rw[yz (by omega)]at hu;exact hu
def n_(s:aT c bl g h a w){d:Nat}{e:TypeId}{st:Nat}{cs:Array Value}{rows:List (List AV)}{fr:Nat×Nat}{len cap:Nat}{w':World}(hd:h d=none)(hu:dG d g h)(hid:d<1000\/2000<=d)
  (hrun:(execOp a.eval o).run P w = .ok (.value (.slice (some ⟨w.heap.size,0,none⟩) len cap)) w') (hw:w'.heap=w.heap.push (.cells cs e fr)) (hos:w'.os=w.os) (hout:w'.output=w.output) (uf:fQ cs fr)
  (hr1:∀(i:Nat)(r:List AV),rows[i]?=some r->r.length=st) (hr2:rows.length*st<=cs.size) (hlen:len<=cap) (hcap:cap*st<=cs.size)
  (hr3:∀(i j:Nat)(r:List AV)(x:AV),rows[i]?=some r->r[j]?=some x->∃v,cs[i*st+j]?=some v/\IRel (bQ bl c.MF h) w v x) :
  bu P c o a w g h (.ms d st 0 len) (.new d ⟨e,st,rows,false⟩):=by
 have hs:=s.new (i:=d) (o:=⟨e,st,rows,false⟩) (cs:=cs) (fr:=fr) (w':=w') hd hu hid hw hos hout uf ⟨hr1,hr2,hr3⟩ (λhf=>by cases hf);refine⟨_,_,_,.inl hrun,hs,.inr (.inr ⟨w.heap.size,cap,cs,e,fr,cz _ _ _,by simp,hlen,by rw[hw];simp,by simpa using hcap⟩)⟩
def afp(s:aT c bl g h a w){d:Nat}{t e:TypeId}{len n:Nat}{z:List AV}{parts:Array (Nat×Operand)}{ps:List (Nat×IV)}(ho:o.op = .buildSlice t len parts)(ht:P.underlying t=some (.slice e))
  (hz:qz P e=some z) (hn:jo P e=some n) (hp:G6 parts.toList=some ps) (hzl:z.length=n) (h1:1<=n) (h3:len*n<=16777216) {out:List (List AV)} (he:mX (val g) n (List.replicate len z) ps=some out)
  (hd:h d=none) (hu:dG d g h) (hid:d<1000\/2000<=d):bu P c o a w g h (.ms d n 0 out.length) (.new d ⟨e,n,out,false⟩):=by
 obtain⟨i,v,h4,h5,h6,_⟩:=lC (M:=bQ bl c.MF h) (w:=w) hz;have hsz:i.size=n:=by simpa[jo,h4]using hn
 obtain⟨cs,h7,h8,h9,h10⟩:=Hi s parts.toList ps _ _ out hp (HX (len:=len) h6 hzl h1) he;have hlen:out.length=len:=by
  have key:∀(ps:List (Nat×IV))(rows out:List (List AV)),mX (val g) n rows ps=some out->out.length=rows.length:=by
   intro ps
   induction ps with
   | nil=>intro rows out ho;simp only[mX,dt]at ho;rw[ho]
   | cons p r ih =>
    intro rows out ho;obtain⟨k,q⟩:=p;simp only[mX]at ho;split at ho
    .split at ho
     .rw[ih _ _ ho];simp
     .cases ho
    .cases ho
  rw[key _ _ _ he];simp
 rw[hlen];by_cases hl0:len=0
 .subst hl0;simp only[Nat.zero_mul]at h7;have hr0:(Array.range 0).map (v.cells[· % v.cells.size]!) = #[]:=by simp
  have hr1:(Array.range 0).map ((#[]:Array Value)[· % (#[]:Array Value).size]!) = #[]:=by simp
  rw[hr0]at h7;refine n_ (cs:=cs) (fr:=(0,0)) (cap:=0) (w':=w.alloc (.cells cs e)) s hd hu hid ?_ rfl rfl rfl (nD _) h8 (by omega) (aQ _) (by simp) h10;have h7':Instr.fill (λi=>some (i*n,n)) #[] (parts.map λ(i,x)=>(i,a.eval x)).toList=some cs:=by rw[Array.toList_map];exact h7
  have hra:Array.range 0 = #[]:=by simp
  simp only[execOp,ho,Instr.buildSlice,mq,run_underlying ht,ny,zV hn,Nat.zero_mul,hra];simp[hra,h7,newRow]
 have hpos:0<len*n:=Nat.mul_pos (by omega) (by omega);refine n_ (cs:=cs) (fr:=(0,0)) (cap:=len) (w':=w.alloc (.cells cs e)) s hd hu hid ?_ rfl rfl rfl (nD _) h8 (by omega) (aQ _) (by rw[h9,hlen];exact aQ _) h10;have hb:=run_buildSlice (P:=P) w t e len (parts.map λ(i,x)=>(i,a.eval x)) cs i v ht h4 h5 (by rw[hsz];omega) (by rw[hsz];omega) (by rw[hsz,Array.toList_map];exact h7);simp[execOp,ho,hb]
end
section
variable{P:Program}{c:sV}{bl:Nat->Option Nat}{g:Nat->AV}{h:Nat->Option au}{a:Act}{w:World}{o:Oper}{M:Nat->Prop}
def lK(b:Nat):∀(vs:List Value)(off:Nat)(w:World){c1:Array Value}{t:TypeId}{fr:Nat×Nat},w.heap[b]?=some (.cells c1 t fr)->off+vs.length<=c1.size ->
  ∃c2:Array Value,(w.setCells b off vs).heap[b]?=some (.cells c2 t fr)/\c2.size=c1.size/\(∀i:Nat,c2[i]? = if off<=i/\i<off+vs.length then vs[i-off]? else c1[i]?) /\
   (w.setCells b off vs).heap.size=w.heap.size/\(∀b',b'≠b->(w.setCells b off vs).heap[b']? = w.heap[b']?)/\(w.setCells b off vs).os=w.os/\(w.setCells b off vs).output=w.output
 | [],off,w,c1,t,fr,hb,_=>⟨c1,hb,rfl,λi=>by rw[an (by simp only[eG];omega)],rfl,λ_ _=>rfl,rfl,rfl⟩
 | v::r,off,w,c1,t,fr,hb,hl=>by
  simp only[i9]at hl;have hb1:(w.setCell ⟨b,off,none⟩ v).heap[b]?=some (.cells (c1.setIfInBounds off v) t fr):=by
   simp[World.setCell,Bu,hb]
  obtain⟨c2,h1,h2,h3,h4,h5,h6,h7⟩:=lK b r (off+1) (w.setCell ⟨b,off,none⟩ v) hb1 (by simp;omega);refine⟨c2,h1,by rw[h2];simp,λi=>?_,by rw[World.setCells,h4];simp,λb' hb'=>?_,by rw[World.setCells,h6];rfl,by rw[World.setCells,h7];rfl⟩
  .rw[h3 i,J0];simp only[i9];by_cases e1:off=i
   .subst e1;rw[an (by omega),az (by omega)];simp;omega
   .by_cases e2:off<=i/\i<off+(r.length+1)
    .rw[az (by omega),az e2,show i-off=(i-(off+1))+1 by omega,Fs]
    .rw[an (by omega),an e2,an e1]
  .rw[World.setCells,h5 b' hb'];simp[World.setCell,Bu,Ne.symm hb']
def alp{v:Value}(h:nv v):v.oneCell'=true:=by cases v<;>first|rfl|exact h.elim
def mB{b off:Nat}{vs:List Value}{c1:Array Value}{t:TypeId}{fr:Nat×Nat}(hb:w.heap[b]?=some (.cells c1 t fr))(uf:fQ c1 fr)(hl:off+vs.length<=c1.size)(h1:∀v∈vs,nv v) :
  (storeCells ⟨b,off,none⟩ vs).run P w = .ok () (w.setCells b off vs):=by
 have:=run_storeCells_cells (P:=P) b off vs 0 w (λj hj=>by rw[bU hb];simp;omega) (λj hj=>by
  simp only[World.frozen?,hb];have:=uf.spec (off+0+j) (by omega);simp only[Bool.and_eq_false_iff,decide_eq_false_iff_not];omega) (λv hv=>alp (h1 v hv))
 simpa using this
def bg.left{α β:Type}{R:α->β->Prop}{p:α->Prop}:∀{l:List α}{m:List β},bg R l m->(∀a b,R a b->p a)->∀a∈l,p a
 | [],[],_,_=>by simp
 | a::_,_::_,h,f=>λx hx=>by
  rcases bM.1 hx with rfl|hx
  .exact f _ _ h.1
  .exact h.2.left f x hx
 | [],_::_,h,_=>h.elim
 | _::_,[],h,_=>h.elim
def Wg(s:aT c bl g h a w){t:TypeId}{n:Nat}{p x:Operand}{pv xv:IV}(ho:o.op = .store t p x)(hn:jo P t=some n)(hp:cV p=some pv)(hx:cV x=some xv)
  {e:bD} (he:lq n (val g pv) (val g xv) h=some e):bu P c o a w g h .any e:=by
 have h1:=bc s hp;unfold lq at he;split at he
 case h_2=>cases he
 rename_i id st row off cs e1 e2;rw[e1]at h1;split at he
 case h_2=>cases he
 rename_i ob hob;split at he
 case isFalse=>cases he
 rename_i hcond;obtain⟨hst,hlen,himm⟩:=hcond;split at he
 case h_2=>cases he
 rename_i r hr;split at he
 case isFalse=>cases he
 rename_i hfit;cases he;have hv:=vr (bc s hx) e2;have el:=hv.length;simp only[pJ]at el;obtain⟨b,hb,hpv⟩:=h1.mp;rcases s.heap.1 id ob hob with hn0|⟨b',h2,⟨gk,c1,fr,h3,h4,h5,h6,h7,h8⟩|hsp⟩
 .rw[hn0.2.2]at hb;cases hb
 rotate_left
 .exact(hsp.no hr).elim
 rw[hb]at h2;cases h2;have hrl:=h6 _ _ hr;have hrow:row<ob.rows.length:=(jh.1 hr).1;have hspace:row*ob.st+ob.st<=c1.size:=by
  have:=qB ob.st (show row+1<=ob.rows.length by omega);rw[lE]at this;omega
 have hsz:(sizeOf t).run P w = .ok n w:=zV hn;have hrun:(execOp a.eval o).run P w = .ok .skip (w.setCells b (row*st+off) (a.eval x).cells.toList):=by
  have hst':=mB (P:=P) (w:=w) (b:=b) (off:=row*st+off) (vs:=(a.eval x).cells.toList) h3 h4 (by simp only[pJ];rw[<-hst];omega) (hv.left λ_ _ hr=>cJ.one hr);simp[execOp,ho,Instr.storeAt,Instr.sureAddr,hpv,storeVar,hsz,el,hlen,hst']
 obtain⟨c2,g1,g2,g3,g4,g5,g6,g7⟩:=lK b (a.eval x).cells.toList (row*st+off) w h3 (by simp only[pJ];rw[<-hst];omega);simp only[pJ,el,hlen]at g3;have hspl:(jw r off cs).length=r.length:=xF _ _ _ (by omega)
 have hs:=s.write (o':={ob with rows:=ob.rows.set row (jw r off cs)}) hob hb h3 g1 g2 g4 g5 g6 g7 rfl ⟨λi q hq=>by
   simp only at hq⊢;rw[List.getElem?_set]at hq;split at hq
   .cases hq;omega
   .exact h6 i q hq,by simpa[g2]using h7,λi j q y hq hy=>by
   simp only at hq hy⊢;rw[List.getElem?_set]at hq;rw[g3];split at hq
   .rename_i hri;subst hri;cases hq;rw[Fh _ _ _ (by omega)]at hy;by_cases hin:off<=j/\j<off+cs.length
    .rw[az hin]at hy;rw[az (by rw[<-hst];omega)];obtain⟨u,hu,hr'⟩:=hv.get hy;refine⟨u,by rw[<-hu];congr 1;rw[<-hst];omega,?_⟩;cases hrec:ob.isRec with
     | true=>exact hr'
     | false =>
      rw[hrec]at himm;simp only[jW]at himm;exact KL hr' (ii.1 himm y (rO hy))
    .rw[an hin]at hy;rw[an (by rw[<-hst];omega)];exact h8 _ _ _ _ hr hy
   .rename_i hri;have hj:j<ob.st:=by rw[<-h6 i q hq];exact(jh.1 hy).1
    rw[an (λhh=>hri (by
     rw[<-hst]at hh;exact((HT (k:=row) hj).1 ⟨by omega,by omega⟩).symm))]
    exact h8 _ _ _ _ hq hy⟩
 exact⟨undef,_,bl,.inr ⟨hrun,rfl⟩,hs,trivial⟩
def afz(s:aT c bl g h a w){d:Nat}{t e:TypeId}{st:Nat}{z:List AV}{l cp:Operand}{lv cv:IV}(ho:o.op = .makeSlice t l cp)(hap:sw P t=some (e,st))(hz:qz P e=some z)(hl:cV l=some lv)(hcp:cV cp=some cv)
  {n m:Int} (e1:val g lv = .int .i64 n) (e2:val g cv = .int .i64 m) (h0:0<=n) (h1:n<=m) (h2:m<1073741824) (hzl:z.length=st)
  (hd:h d=none) (hu:dG d g h) (hid:d<1000\/2000<=d):bu P c o a w g h (.ms d st 0 n.toNat) (.new d ⟨e,st,List.replicate n.toNat z,false⟩):=by
 unfold sw at hap;split at hap
 case h_2=>cases hap
 rename_i e' ht;split at hap
 case h_2=>cases hap
 rename_i i z' hi hz';split at hap
 case isFalse=>cases hap
 rename_i hcond;obtain⟨hb1,hb2,hb3,hb4⟩:=hcond;cases hap;rw[hz]at hz';cases hz';obtain⟨i',v,h4,h5,h6,_⟩:=lC (M:=bQ bl c.MF h) (w:=w) hz;rw[hi]at h4;cases h4;have r1:=bc s hl;have r2:=bc s hcp;rw[e1]at r1;rw[e2]at r2;have hzr:=HX (len:=m.toNat) h6 rfl (by omega);rw[hb3]at hzr;refine n_ (w':=w.alloc (.cells ((Array.range (m.toNat*i.size)).map (v.cells[· % v.cells.size]!)) e)) (cs:=(Array.range (m.toNat*i.size)).map (v.cells[· % v.cells.size]!)) (fr:=(0,0)) (cap:=m.toNat) s hd hu hid ?_ rfl rfl rfl (nD _) ?_ ?_ (by omega) (by simp) ?_
 .have hwl:IntKind.i64.wrap n=n:=IntWalk.i64_in _ (by omega);have hwm:IntKind.i64.wrap m=m:=IntWalk.i64_in _ (by omega);have hbig:¬((i.bytes:Int)*m>2^48):=by
   have:(i.bytes:Int)*m<=1024*m:=Int.mul_le_mul_of_nonneg_right (by omega) (by omega);omega
  have hbig2:¬(281474976710656:Int)<(i.bytes:Int)*m:=by simpa using hbig
  have hm0:¬m<0:=by omega
  have hn0:¬n<0:=by omega
  have hnm:¬n>m:=by omega
  have hnm':¬m<n:=by omega
  simp only[execOp,ho,r1.int,r2.int];by_cases hz0:m.toNat*i.size=0
  .simp[Instr.makeSlice,underlying,ht,asInt,asIntOf,typeInfo,hi,hwl,hwm,hbig2,hm0,hn0,hnm',sizeOf,hz0,newRow];have hr0:Array.range 0 = #[]:=by simp
   rw[hr0,Array.map_empty,Array.map_empty]
  .simp[Instr.makeSlice,underlying,ht,asInt,asIntOf,typeInfo,hi,hwl,hwm,hbig2,hm0,hn0,hnm',sizeOf,hz0,newRow,zeroValue,h5]
 .intro k r hr;rw[List.getElem?_replicate]at hr;split at hr
  .cases hr;exact hb3
  .cases hr
 .simp only[List.length_replicate,hzr.2.1];exact qB _ (by omega)
 .intro k j r x hr hx;refine hzr.2.2 k j r x ?_ hx;rw[List.getElem?_replicate]at hr⊢;split at hr
  .cases hr;rw[az (by omega)]
  .cases hr
end
section
variable{P:Program}{c:sV}{bl:Nat->Option Nat}{g:Nat->AV}{h:Nat->Option au}{a:Act}{w w':World}{o:Oper}{M:Nat->Prop}
def aT.newS(s:aT c bl g h a w){i:Nat}{o:au}{ob:Obj}(hi:h i=none)(hu:dG i g h)
  (hid:i<1000\/2000<=i) (hw:w'.heap=w.heap.push ob) (hos:w'.os=w.os) (hout:w'.output=w.output) (hrows:o.rows=[]) (hrec:o.isRec=false)
  (hrel:H4 o.k w' w.heap.size) :
  aT c (fA bl i (some w.heap.size)) g (fA h i (some o)) a w':=by
 have hbl:∀j,j≠i->fA bl i (some w.heap.size) j=bl j:=λj hj=>cZ _ _ hj;have hlt:∀j oj b,h j=some oj->bl j=some b->b<w.heap.size:=λj oj b h1 h2=>by
  rcases s.heap.1 j oj h1 with h3|⟨b',h3,hO⟩
  .rw[h3.2.2]at h2;cases h2
  .rw[h2]at h3;cases h3;exact hO.lt
 have hmut:∀b,bQ (fA bl i (some w.heap.size)) c.MF (fA h i (some o)) b->bQ bl c.MF h b\/b=w.heap.size:=by
  rintro b (hm|⟨j,oj,h1,h2⟩)
  .exact .inl (.inl hm)
  .by_cases hj:j=i
   .subst hj;rw[cz]at h2;cases h2;exact .inr rfl
   .rw[cZ _ _ hj]at h1 h2;exact .inl (.inr ⟨j,oj,h1,h2⟩)
 have hpush:∀b,b<w.heap.size->w'.heap[b]? = w.heap[b]?:=λb hb=>by
  rw[hw,Fq];simp[Nat.ne_of_lt hb]
 have ht:Tr (bQ bl c.MF h) (bQ (fA bl i (some w.heap.size)) c.MF (fA h i (some o))) w w':=by
  refine⟨λb hb hlt'=>⟨λhm=>?_,hpush b hlt'⟩,λb c1 t f1 hb=>⟨c1,f1,by rw[hpush b (bp hb)];exact hb,rfl⟩⟩;rcases hmut b hm with hm|hm
  .exact hb hm
  .exact absurd hm (Nat.ne_of_lt hlt')
 refine⟨s.defers,s.size,λk=>(s.env k).tr ht (λid hmi=>hbl id (λe=>?_)),⟨λid o1 h1=>?_,λid id' o1 o2 b h1 h2 h3 h4=>?_⟩,?_,λid o1 b h1 h2=>?_,λid h1 h2=>?_,s.mf⟩
 .subst e;rw[hu.1 k]at hmi;cases hmi
 .by_cases hj:id=i
  .subst hj;rw[cz]at h1;cases h1;refine .inr ⟨w.heap.size,cz _ _ _,.inr ⟨hrows,hrec,λhm=>?_,hrel⟩⟩;exact absurd (s.mf _ hm) (Nat.not_lt.2 s.step.size)
  .rw[cZ _ _ hj]at h1;rcases s.heap.1 id o1 h1 with h3|⟨b,h3,⟨hk0,c1,f1,h4,h5,h6,h7,h8,h9⟩|hsp⟩
   .exact .inl ⟨h3.1,h3.2.1,by rw[hbl id hj];exact h3.2.2⟩
   rotate_left
   .exact .inr ⟨b,by rw[hbl id hj];exact h3,.inr (hsp.tr (hpush b hsp.rel.lt))⟩
   .refine .inr ⟨b,by rw[hbl id hj];exact h3,.inl ⟨hk0,c1,f1,by rw[hpush b (bp h4)];exact h4,h5,h6,h7,h8,λk j r x hk hx=>?_⟩⟩;obtain⟨v,hv1,hv2⟩:=h9 k j r x hk hx;refine⟨v,hv1,hv2.tr ht (λhr id' hmi=>hbl id' (λe=>?_))⟩;subst e;rw[hu.2 id o1 h1 hr r (rO hk) x (rO hx)]at hmi;cases hmi
 .by_cases hj:id=i<;>by_cases hj':id'=i
  .rw[hj,hj']
  .subst hj;rw[cz]at h3;cases h3;rw[cZ _ _ hj']at h2 h4;exact absurd (hlt _ _ _ h2 h4) (Nat.lt_irrefl _)
  .subst hj';rw[cz]at h4;cases h4;rw[cZ _ _ hj]at h1 h3;exact absurd (hlt _ _ _ h1 h3) (Nat.lt_irrefl _)
  .rw[cZ _ _ hj]at h1 h3;rw[cZ _ _ hj']at h2 h4;exact s.heap.2 _ _ _ _ _ h1 h2 h3 h4
 .refine s.step.trans (X:=λ_=>False) ⟨by rw[hw];simp,λb hb _=>hpush b hb,ht.shape,hos,hout⟩ (λ_ _ h=>h.elim)
 .by_cases hj:id=i
  .subst hj;rw[cz]at h2;cases h2;exact .inl s.step.size
  .rw[cZ _ _ hj]at h1 h2;exact s.own id o1 b h1 h2
 .rw[hbl id (by omega)];exact s.stab id h1 h2
def aT.writeS(s:aT c bl g h a w){i b:Nat}{o o':au}(hi:h i=some o)(hb:bl i=some b)(hsp:OG c.MF w o b)
  (hrows:o'.rows=[]) (hrec:o'.isRec=false) (hrel:H4 o'.k w' b) (hsize:w'.heap.size=w.heap.size)
  (hother:∀b',b'≠b->w'.heap[b']? = w.heap[b']?) (hos:w'.os=w.os) (hout:w'.output=w.output):aT c bl g (fA h i (some o')) a w':=by
 have hm:∀b,bQ bl c.MF (fA h i (some o')) b↔bQ bl c.MF h b:=bQ.congr (λj=>by
  by_cases hj:j=i
  .subst hj;simp[cz,hi]
  .rw[cZ _ _ hj])
 have hmb:bQ bl c.MF h b:=.inr ⟨i,o,hi,hb⟩;have hshape:∀(b':Nat)(c0:Array Value)(t:TypeId)(f0:Nat×Nat),w.heap[b']?=some (.cells c0 t f0)->∃(c':Array Value)(f1:Nat×Nat),w'.heap[b']?=some (.cells c' t f1)/\c'.size=c0.size:=by
  intro b' c0 t f0 hb';by_cases hbb:b'=b
  .subst hbb;exact(hsp.ne hb').elim
  .exact⟨c0,f0,by rw[hother b' hbb];exact hb',rfl⟩
 have ht:Tr (bQ bl c.MF h) (bQ bl c.MF (fA h i (some o'))) w w' :=
  ⟨λb' hb' _=>⟨λhmm=>hb' ((hm b').1 hmm),hother b' (λe=>hb' (e▸hmb))⟩,hshape⟩
 refine⟨s.defers,s.size,λk=>(s.env k).tr ht (λ_ _=>rfl),⟨λid o1 h3=>?_,λid id' o1 o2 b' h3 h4=>?_⟩,?_,λid o1 b' h3=>?_,s.stab,s.mf⟩
 .by_cases hj:id=i
  .subst hj;rw[cz]at h3;cases h3;exact .inr ⟨b,hb,.inr ⟨hrows,hrec,hsp.free,hrel⟩⟩
  .rw[cZ _ _ hj]at h3;rcases s.heap.1 id o1 h3 with g3|⟨b',g3,⟨hk0,c0,f0,g4,g5,g6,g7,g8,g9⟩|hsp'⟩
   .exact .inl g3
   rotate_left
   .have hbb:b'≠b:=λe=>hj (s.heap.2 id i o1 o b h3 hi (e▸g3) hb);exact .inr ⟨b',g3,.inr (hsp'.tr (hother b' hbb))⟩
   .have hbb:b'≠b:=λe=>hj (s.heap.2 id i o1 o b h3 hi (e▸g3) hb);refine .inr ⟨b',g3,.inl ⟨hk0,c0,f0,by rw[hother b' hbb];exact g4,g5,g6,g7,g8,λk j r x hk hx=>?_⟩⟩;obtain⟨v,hv1,hv2⟩:=g9 k j r x hk hx;exact⟨v,hv1,hv2.tr ht (λ_ _ _=>rfl)⟩
 .have key:∀{j oj},fA h i (some o') j=some oj->∃o0,h j=some o0:=λ{j oj} hj=>by
   by_cases hji:j=i
   .subst hji;exact⟨o,hi⟩
   .rw[cZ _ _ hji]at hj;exact⟨oj,hj⟩
  obtain⟨p,hp⟩:=key h3;obtain⟨q,hq⟩:=key h4;exact s.heap.2 id id' p q b' hp hq
 .refine s.step.trans (X:=λb'=>b'=b) ⟨Nat.le_of_eq hsize.symm,λb' _ hb'=>hother b' hb',hshape,hos,hout⟩ (λb' hlt hb'=>?_);subst hb';rcases s.own i o b' hi hb with h5|h5
  .exact absurd hlt (Nat.not_lt.2 h5)
  .exact h5
 .by_cases hj:id=i
  .subst hj;exact s.own id o b' hi
  .rw[cZ _ _ hj]at h3;exact s.own id o1 b' h3
def Wa(s:aT c bl g h a w){v:Value}{id:Nat}{k:Bool}{ob:au}(hv:bv bl (bQ bl c.MF h) w v (.mm id k))(hob:h id=some ob)(hk:ob.k≠Kd.cells) :
  ∃b,bl id=some b/\(v=if k=true then .map (some b)else .pointer (some ⟨b,0,none⟩))/\OG c.MF w ob b:=by
 obtain⟨b,h1,h2⟩:=hv;rcases s.heap.1 id ob hob with hn|⟨b',h3,⟨h4,_⟩|hsp⟩
 .rw[hn.2.2]at h1;cases h1
 .exact absurd h4 hk
 .rw[h1]at h3;cases h3;exact⟨b,h1,h2,hsp⟩
def nk{v:Value}{x:AV}(hv:bv bl M w v x)(hf:pY x=true):gH v x:=by
 cases x<;>first|(simp[pY]at hf;done)|skip
 .exact hv.bool
 .exact hv.int
 .exact hv.str
def lU{v:Value}{x:AV}(hv:gH v x):IRel M w v x:=by
 cases x<;>simp only[gH]at hv<;>first|(exact hv.elim)|(subst hv;constructor)
def jE(w:World){b:Nat}(hb:b<w.heap.size)(ob:Obj):({w with heap:=w.heap.setIfInBounds b ob}:World).heap[b]?=some ob/\({w with heap:=w.heap.setIfInBounds b ob}:World).heap.size=w.heap.size /\
  ∀b',b'≠b->({w with heap:=w.heap.setIfInBounds b ob}:World).heap[b']? = w.heap[b']?:=by
 refine⟨by simp[hb],by simp,λb' hb'=>by simp[J0,Ne.symm hb']⟩
def qw{w:World}{r:Nat}{ob:Obj}(hb:w.heap[r]?=some ob)(hn:∀c t fr,ob≠.cells c t fr):(getObj r).run P w = .ok ob w:=by
 cases ob<;>first|(exact absurd rfl (hn _ _ _))|simp[getObj,Sem.run,hb]
def afG(s:aT c bl g h a w){t:TypeId}{x:Operand}{xv:IV}{l:List UInt8}{d:Nat}(ho:o.op = .range t x)(ht:P.underlying t=some .string)(hx:cV x=some xv)(hv:val g xv = .str l)
  (hd:h d=none) (hu:dG d g h) (hid:d<1000\/2000<=d):bu P c o a w g h (.mm d false) (.new d (@au.mk 0 0 [] false (.it l 0))):=by
 have h1:=bc s hx;rw[hv]at h1;have h2:a.eval x = .string ⟨l.toArray⟩:=h1.str;have hs:=s.newS (i:=d) (o:=@au.mk 0 0 [] false (.it l 0)) (ob:=.stringIter ⟨l.toArray⟩ 0) (w':={w with heap:=w.heap.push (.stringIter ⟨l.toArray⟩ 0)}) hd hu hid rfl rfl rfl rfl rfl (by simp[H4]);refine⟨.pointer (some ⟨w.heap.size,0,none⟩),_,_,.inl ?_,hs,w.heap.size,cz _ _ _,by simp⟩;simp[execOp,ho,Instr.range,run_underlying ht,h2,newObj,Sem.run]
def afF(s:aT c bl g h a w){x:Operand}{xv:IV}{id:Nat}{ob:au}{r:AV}{e:bD}(ho:o.op = .next x true)(hx:cV x=some xv)(hv:val g xv = .mm id false)(hob:h id=some ob)(he:Yo id ob=some (r,e)) :
  bu P c o a w g h r e:=by
 unfold Yo ajC at he;cases hk:ob.k with
 | cells=>rw[hk]at he;cases he
 | mp es=>rw[hk]at he;cases he
 | it l pos =>
  rw[hk]at he;simp only at he;have h1:=bc s hx;rw[hv]at h1;obtain⟨b,h2,h3,hsp⟩:=Wa s h1 hob (by rw[hk];intro hh;cases hh);have hr:=hsp.rel;rw[hk]at hr;have hb:w.heap[b]?=some (.stringIter ⟨l.toArray⟩ pos):=hr;have hg:=qw (P:=P) hb (λ_ _ _ hh=>by cases hh);have hsz:(⟨l.toArray⟩:ByteArray).size=l.length:=by simp[ByteArray.size]
  simp only[lD,ij]at h3;split at he
  .rename_i hlt;cases he;obtain⟨q1,q2,q3⟩:=jE w (bp hb) (.stringIter ⟨l.toArray⟩ (pos+(Utf8.decode ⟨l.toArray⟩ pos).2));have hs:=s.writeS (o':={ob with k:=.it l (pos+(Utf8.decode ⟨l.toArray⟩ pos).2)}) hob h2 hsp hsp.rows hsp.isRec q1 q2 q3 rfl rfl;refine⟨.tuple #[.bool true,goInt pos,.int .i32 (Utf8.decode ⟨l.toArray⟩ pos).1],_,_,.inl ?_,hs,[_,_,_],rfl,IRel.bool _,IRel.int _ _,IRel.int _ _,trivial⟩;simp[execOp,ho,Instr.next,h3,hg,hsz,hlt,setObj,Sem.run,hb]
  .rename_i hlt;cases he;exact bu.pure s (r:=.tuple #[.bool false]) (by simp[execOp,ho,Instr.next,h3,hg,hsz,hlt]) ⟨[_],rfl,IRel.bool _,trivial⟩
def afy(s:aT c bl g h a w){t:TypeId}{d:Nat}(ho:o.op = .makeMap t none)
  (hd:h d=none) (hu:dG d g h) (hid:d<1000\/2000<=d):bu P c o a w g h (.mm d true) (.new d (@au.mk 0 0 [] false (.mp []))):=by
 have hs:=s.newS (i:=d) (o:=@au.mk 0 0 [] false (.mp [])) (ob:=.map #[] 0) (w':={w with heap:=w.heap.push (.map #[] 0)}) hd hu hid rfl rfl rfl rfl rfl ⟨#[],by simp,by simp,trivial⟩;refine⟨.map (some w.heap.size),_,_,.inl ?_,hs,w.heap.size,cz _ _ _,by simp⟩;simp[execOp,ho,Instr.makeMap,newObj,Sem.run]
def AD(es':List MapEntry)(es:List (AV×AV)):Prop:=bg (λ(e:MapEntry)(p:AV×AV)=>gH e.key p.1/\gH e.val p.2) es' es
def D8(s:aT c bl g h a w){x:Operand}{xv:IV}{id:Nat}{ob:au}{es:List (AV×AV)}(hx:cV x=some xv)(hv:val g xv = .mm id true)(hob:h id=some ob)(he:zk ob=some es) :
  ∃b es',bl id=some b/\a.eval x = .map (some b)/\OG c.MF w ob b/\w.heap[b]?=some (.map es' es'.size)/\(∀(i:Nat)(e:MapEntry),es'[i]?=some e->e.born=i)/\AD es'.toList es:=by
 unfold zk at he;cases hk:ob.k with
 | cells=>rw[hk]at he;cases he
 | it l pos=>rw[hk]at he;cases he
 | mp es0 =>
  rw[hk]at he;cases he;have h1:=bc s hx;rw[hv]at h1;obtain⟨b,h2,h3,hsp⟩:=Wa s h1 hob (by rw[hk];intro hh;cases hh);have hr:=hsp.rel;rw[hk]at hr;obtain⟨es',h4,h5,h6⟩:=hr;exact⟨b,es',h2,by simpa using h3,hsp,h4,h5,h6⟩
def afB(s:aT c bl g h a w){cl:Call}{t k0 e0:TypeId}{x:Operand}{xv:IV}{id:Nat}{ob:au}{es:List (AV×AV)}(ho:o.op = .call cl)(hcl:cl.callee = .builtin .len)(hat:cl.argTypes = #[t])(har:cl.args = #[x])
  (ht:P.underlying t=some (.map k0 e0)) (hx:cV x=some xv) (hv:val g xv = .mm id true) (hob:h id=some ob) (he:zk ob=some es):bu P c o a w g h (.int .i64 es.length) .no:=by
 obtain⟨b,es',h1,h2,h3,h4,h5,h6⟩:=D8 s hx hv hob he;have hg:=qw (P:=P) h4 (λ_ _ _ hh=>by cases hh);have hl:=h6.length;simp only[pJ]at hl;exact bu.pure s (r:=goInt es'.size) (by simp[execOp,ho,resolve,hcl,har,hat,invoke,builtin,Builtin.len_,run_underlying ht,h2,hg]) (by rw[goInt,hl];exact u3 _ _)
def KKd(kd:KK)(u:TypeDesc):Prop :=
 match kd with
 | .i=>∃k,u = .int k
 | .s=>u = .string
 | .b=>u = .bool
def Rp{t:TypeId}{kd:KK}(hk:aeY P t=some kd):∃u,P.underlying t=some u/\KKd kd u:=by
 unfold aeY at hk;split at hk<;>cases hk
 .rename_i k h1;exact⟨_,h1,k,rfl⟩
 .rename_i h1;exact⟨_,h1,rfl⟩
 .rename_i h1;exact⟨_,h1,rfl⟩
def Xu{kd:KK}{u:TypeDesc}(hu:KKd kd u){key key':Value}{x x':AV}{r:Bool}(h1:bv bl M w key x)(h2:gH key' x')(hs:Fe kd x x'=some r):Instr.sameNow u key key'=some r:=by
 cases kd<;>cases x<;>cases x'<;>simp only[Fe,reduceCtorEq,dt]at hs
 .rename_i k n k' n';split at hs
  case isFalse=>cases hs
  rename_i hk;subst hk;rw[h1.int];cases h2;obtain⟨k0,rfl⟩:=hu;simpa[Instr.sameNow]using hs
 .rw[h1.str];cases h2;cases hu;subst hs;simp only[Instr.sameNow,dt];rename_i l1 l2;change (l1.toArray==l2.toArray)=_;simp
 .rw[h1.bool];cases h2;cases hu;simpa[Instr.sameNow]using hs
def Ua{kd:KK}{u:TypeDesc}(hu:KKd kd u){key:Value}{x:AV}(h1:bv bl M w key x):∀{es':List MapEntry}{es:List (AV×AV)}{r:Option Nat}(i:Nat),AD es' es->iR kd x es=some r ->
  Instr.findNow u key es' i=some (match r with|none=>none|some j=>(es'[j]?).map λe=>(i+j,e.val))/\∀j,r=some j->j<es'.length
 | [],[],r,i,_,hf=>by
  simp only[iR,dt]at hf;subst hf;exact⟨rfl,λj hj=>by cases hj⟩
 | e::es',p::es,r,i,hE,hf=>by
  simp only[iR]at hf;split at hf
  .rename_i hs;cases hf;refine⟨?_,λj hj=>by cases hj;simp⟩;simp[Instr.findNow,Xu hu h1 hE.1.1 hs]
  .rename_i hs;simp only[eS]at hf;obtain⟨q,hq,rfl⟩:=hf;obtain⟨h3,h4⟩:=Ua hu h1 (i+1) hE.2 hq;refine⟨?_,λj hj=>?_⟩
   .simp only[Instr.findNow,Xu hu h1 hE.1.1 hs,h3];cases q with
    | none=>rfl
    | some j=>simp[ab1,Nat.add_comm 1 j]
   .cases q with
    | none=>cases hj
    | some j'=>cases hj;have:=h4 j' rfl;simp;omega
  .cases hf
 | [],_::_,_,_,hE,_=>hE.elim
 | _::_,[],_,_,hE,_=>hE.elim
def yu{t:TypeId}{z:AV}(hz:Qc P t=some z):∃i v,P.info? t=some i/\i.zero=some v/\gH v z:=by
 unfold Qc at hz;split at hz
 .rename_i i hi;split at hz<;>cases hz
  .rename_i b hv;exact⟨i,_,hi,hv,rfl⟩
  .rename_i k n hv;exact⟨i,_,hi,hv,rfl⟩
  .rename_i l hv;exact⟨i,_,hi,hv,by simp[gH]⟩
 .cases hz
def vJ{t:TypeId}{kd:KK}{z:AV}(hz:CH P t=some (kd,z)):∃k e u,P.underlying t=some (.map k e)/\P.underlying k=some u/\KKd kd u/\Qc P e=some z:=by
 unfold CH at hz;split at hz
 .rename_i k e h1;split at hz
  .rename_i kd' z' h2 h3;cases hz;obtain⟨u,h4,h5⟩:=Rp h2;exact⟨k,e,u,h1,h4,h5,h3⟩
  .cases hz
 .cases hz
def dQ{kd:KK}{u:TypeDesc}{t:TypeId}(hu:KKd kd u)(ht:P.underlying t=some u)(b:Bool)(v:Value):(Instr.checkKey b 10000 t v).run P w = .ok () w:=by
 have key:∀n,(Instr.checkKey b (n+1) t v).run P w = .ok () w:=λn=>by
  cases kd
  .obtain⟨k,rfl⟩:=hu;simp only[Instr.checkKey,mq,run_underlying ht,ny];rfl
  .cases hu;simp only[Instr.checkKey,mq,run_underlying ht,ny];rfl
  .cases hu;simp only[Instr.checkKey,mq,run_underlying ht,ny];rfl
 exact key 9999
def iZ{kd:KK}{u:TypeDesc}{t:TypeId}(hu:KKd kd u)(ht:P.underlying t=some u){key:Value}{x:AV}(h1:bv bl M w key x){es':List MapEntry}{es:List (AV×AV)}{r:Option Nat}(hE:AD es' es)(hf:iR kd x es=some r) :
  (Instr.findKey t key es').run P w = .ok (r.bind λj=>(es'[j]?).map λe=>(j,e.val)) w/\∀j,r=some j->j<es'.length:=by
 obtain⟨h2,h3⟩:=Ua hu h1 0 hE hf;refine⟨?_,h3⟩;simp only[dk]at h2;simp only[Instr.findKey,mq,run_underlying ht,ny,h2];cases r<;>rfl
def DF{es':List MapEntry}{es:List (AV×AV)}(hE:AD es' es){j:Nat}(hj:j<es'.length):∃e p,es'[j]?=some e/\es[j]?=some p/\gH e.key p.1/\gH e.val p.2:=by
 have hl:=hE.length;have h1:es[j]?=some (es[j]'(by omega)):=kS _;obtain⟨e,h2,h3⟩:=hE.get h1;exact⟨e,_,h2,h1,h3⟩
def PE(s:aT c bl g h a w){t:TypeId}{x y:Operand}{yv:IV}{ok:Bool}{kd:KK}{z r:AV}{ob:au}{e:bD}(ho:o.op = .lookup t x y ok)(ht:CH P t=some (kd,z))(hy:cV y=some yv)
  (hm:∀es,zk ob=some es->∃b es',a.eval x = .map (some b)/\w.heap[b]?=some (.map es' es'.size)/\AD es'.toList es) (he:zc ok kd z (val g yv) ob=some (r,e)):bu P c o a w g h r e:=by
 obtain⟨k,el,u,q1,q2,q3,q4⟩:=vJ ht;unfold zc at he;split at he
 case h_2=>cases he
 rename_i es hes;obtain⟨b,es',h2,h4,h6⟩:=hm es hes;have hg:=qw (P:=P) h4 (λ_ _ _ hh=>by cases hh);have hk:=bc s hy;split at he
 .rename_i i hf;obtain⟨f1,f2⟩:=iZ (P:=P) q3 q2 hk h6 hf;obtain⟨en,p,e1,e2,e3,e4⟩:=DF h6 (f2 i rfl);rw[e2]at he;simp only[dt,vn]at he;obtain⟨rfl,rfl⟩:=he;simp only[Option.bind_some,e1,fR]at f1;cases ok
  .exact bu.pure s (r:=en.val) (by simp[execOp,ho,Instr.lookup,run_underlying q1,h2,hg,dQ q3 q2,f1]) (IRel.toC (lU e4)).toV
  .exact bu.pure s (r:=.tuple #[en.val,.bool true]) (by simp[execOp,ho,Instr.lookup,run_underlying q1,h2,hg,dQ q3 q2,f1]) ⟨[_,_],rfl,(IRel.toC (lU e4)).toG,IRel.bool _,trivial⟩
 .rename_i hf;obtain⟨f1,f2⟩:=iZ (P:=P) q3 q2 hk h6 hf;simp only[Option.bind_none]at f1;obtain⟨i,zv,z1,z2,z3⟩:=yu q4;have hz:(zeroValue el).run P w = .ok zv w:=by simp[zeroValue,typeInfo,z1,z2]
  simp only[dt,vn]at he;obtain⟨rfl,rfl⟩:=he;cases ok
  .exact bu.pure s (r:=zv) (by simp[execOp,ho,Instr.lookup,run_underlying q1,h2,hg,dQ q3 q2,f1,hz]) (IRel.toC (lU z3)).toV
  .exact bu.pure s (r:=.tuple #[zv,.bool false]) (by simp[execOp,ho,Instr.lookup,run_underlying q1,h2,hg,dQ q3 q2,f1,hz]) ⟨[_,_],rfl,(IRel.toC (lU z3)).toG,IRel.bool _,trivial⟩
 .cases he
def afA(s:aT c bl g h a w){t:TypeId}{x y:Operand}{xv yv:IV}{ok:Bool}{kd:KK}{z r:AV}{id:Nat}{ob:au}{e:bD}(ho:o.op = .lookup t x y ok)(ht:CH P t=some (kd,z))(hx:cV x=some xv)(hy:cV y=some yv)
  (hv:val g xv = .mm id true) (hob:h id=some ob) (he:zc ok kd z (val g yv) ob=some (r,e)):bu P c o a w g h r e :=
 PE s ho ht hy (λes hes=>by
  obtain⟨b,es',h1,h2,h3,h4,h5,h6⟩:=D8 s hx hv hob hes;exact⟨b,es',h2,h4,h6⟩) he
def aaS(s:aT c bl g h a w){t:TypeId}{x y:Operand}{xv yv:IV}{ok:Bool}{kd:KK}{z r:AV}{es:List (AV×AV)}{e:bD}(ho:o.op = .lookup t x y ok)(ht:CH P t=some (kd,z))(hx:cV x=some xv)(hy:cV y=some yv)
  (hv:val g xv = .fm es) (he:zc ok kd z (val g yv) (@au.mk 0 0 [] false (.mp es))=some (r,e)):bu P c o a w g h r e:=by
 have h1:=bc s hx;rw[hv]at h1;have h2:IRel (bQ bl c.MF h) w (a.eval x) (.fm es):=h1;generalize hq:a.eval x=q at h2;cases h2 with
 | fm b es' es hb hM hn he'=>exact PE s ho ht hy (λes1 hes=>by cases hes;exact⟨b,es',hq,hb,he'⟩) he
 | nm =>
  obtain⟨k,el,u,q1,q2,q3,q4⟩:=vJ ht;have hk:=bc s hy;have hE:AD ([]:List MapEntry) []:=trivial;obtain⟨f1,f2⟩:=iZ (P:=P) (es':=[]) (es:=[]) (r:=none) q3 q2 hk hE rfl;simp only[Option.bind_none]at f1;obtain⟨i,zv,z1,z2,z3⟩:=yu q4;have hz:(zeroValue el).run P w = .ok zv w:=by simp[zeroValue,typeInfo,z1,z2]
  simp only[zc,zk,iR,dt,vn]at he;obtain⟨rfl,rfl⟩:=he;cases ok
  .exact bu.pure s (r:=zv) (by simp[execOp,ho,Instr.lookup,run_underlying q1,hq,dQ q3 q2,f1,hz]) (IRel.toC (lU z3)).toV
  .exact bu.pure s (r:=.tuple #[zv,.bool false]) (by simp[execOp,ho,Instr.lookup,run_underlying q1,hq,dQ q3 q2,f1,hz]) ⟨[_,_],rfl,(IRel.toC (lU z3)).toG,IRel.bool _,trivial⟩
def GR{v v':Value}{x:AV}(h1:gH v x)(h2:gH v' x):Instr.sameBits 10000 v v'=true:=by
 cases x<;>simp only[gH]at h1 h2<;>first|(exact h1.elim)|skip
 all_goals
  subst h1;subst h2
  first
   | (simp[Instr.sameBits];done)
   | (rename_i l;show((l.toArray==l.toArray)=true);simp)
def Fj{v v':Value}{x:AV}(h1:gH v x)(h2:gH v' x):(Instr.keyThatStays v v').run P w = .ok v' w:=by
 simp[Instr.keyThatStays,GR h1 h2]
def x1{kd:KK}{x:AV}(hx:pY x=true):∀{es:List (AV×AV)}{j:Nat}{p:AV×AV},iR kd x es=some (some j)->es[j]?=some p->p.1=x
 | [],j,p,hf,_=>by simp[iR]at hf
 | e::es,j,p,hf,hp=>by
  simp only[iR]at hf;split at hf
  .rename_i hs;cases hf;simp at hp;subst hp;cases kd<;>cases x<;>cases h1:e.1<;>rw[h1]at hs<;>simp only[Fe,reduceCtorEq,dt]at hs
   .split at hs
    .rename_i hk;subst hk;simp at hs;rw[hs]
    .cases hs
   .simp at hs;rw[hs]
   .simp at hs;rw[hs]
  .simp only[eS]at hf;obtain⟨q,hq,hj⟩:=hf;cases q with
   | none=>simp at hj
   | some j' =>
    simp at hj;subst hj;exact x1 hx hq (by simpa using hp)
  .cases hf
def uA{es':List MapEntry}{es:List (AV×AV)}(hE:AD es' es){j:Nat}{f:MapEntry->MapEntry}{q:AV×AV->AV×AV}
  (hfq:∀e p,es'[j]?=some e->es[j]?=some p->gH e.key p.1->gH e.val p.2->gH (f e).key (q p).1/\gH (f e).val (q p).2):AD (es'.modify j f) (es.modify j q):=by
 refine bg.of_get (by simpa using hE.length) λi e p h1 h2=>?_;rw[List.getElem?_modify]at h1 h2;simp only[Option.map_eq_map,eS]at h1 h2;obtain⟨e0,h1,rfl⟩:=h1;obtain⟨p0,h2,rfl⟩:=h2;obtain⟨e1,h3,h4⟩:=hE.get h2;rw[h1]at h3;cases h3;by_cases hj:j=i
 .subst hj;simp only[dR];exact hfq e0 p0 h1 h2 h4.1 h4.2
 .simp only[an hj];exact h4
def vB(s:aT c bl g h a w){id b:Nat}{ob:au}{es2:List (AV×AV)}{es':Array MapEntry}(hob:h id=some ob)(h1:bl id=some b)(hsp:OG c.MF w ob b)
  (hb:∀(i:Nat)(e:MapEntry),es'[i]?=some e->e.born=i) (hE:AD es'.toList es2) :
  aT c bl (bD.env g (.put id {ob with k:=.mp es2})) (bD.hp h (.put id {ob with k:=.mp es2})) a {w with heap:=w.heap.setIfInBounds b (.map es' es'.size)}:=by
 obtain⟨q1,q2,q3⟩:=jE w hsp.rel.lt (.map es' es'.size);exact s.writeS (o':={ob with k:=.mp es2}) hob h1 hsp hsp.rows hsp.isRec ⟨es',q1,hb,hE⟩ q2 q3 rfl rfl
def vf{w:World}{r:Nat}{es:Array MapEntry}{n:Nat}{ob:Obj}(hb:w.heap[r]?=some (.map es n)):(setObj r ob).run P w = .ok () {w with heap:=w.heap.setIfInBounds r ob}:=by
 simp[setObj,Sem.run,hb]
def ut{es':Array MapEntry}(hb:∀(i:Nat)(e:MapEntry),es'[i]?=some e->e.born=i){j:Nat}{f:MapEntry->MapEntry}(hf:∀e,(f e).born=e.born):∀(i:Nat)(e:MapEntry),(es'.modify j f)[i]?=some e->e.born=i:=λi e he=>by
 rw[Bu]at he;split at he
 .simp only[eS]at he;obtain⟨e0,h1,rfl⟩:=he;rw[hf];exact hb i e0 h1
 .exact hb i e he
def G1{es':Array MapEntry}(hb:∀(i:Nat)(e:MapEntry),es'[i]?=some e->e.born=i){k v:Value}:∀(i:Nat)(e:MapEntry),(es'.push {key:=k,val:=v,born:=es'.size})[i]?=some e->e.born=i:=λi e he=>by
 rw[Fq]at he;split at he
 .cases he;rename_i h;exact h.symm
 .exact hb i e he
def Hc{es':Array MapEntry}{es:List (AV×AV)}(hE:AD es'.toList es){k v:Value}{n:Nat}{x y:AV}(h1:gH k x)(h2:gH v y):AD (es'.push {key:=k,val:=v,born:=n}).toList (es++[(x,y)]):=by
 rw[Array.toList_push];exact bg.append hE ⟨⟨h1,h2⟩,trivial⟩
def GQ{t:TypeId}{kd:KK}{z:AV}(ht:CH P t=some (kd,z)){m k v:Value}{x y:AV}{b:Nat}{es':Array MapEntry}{es es2:List (AV×AV)}(hm:m = .map (some b))(h4:w.heap[b]?=some (.map es' es'.size))
  (h5:∀(i:Nat)(e:MapEntry),es'[i]?=some e->e.born=i) (h6:AD es'.toList es) (hk:bv bl M w k x) (hv:bv bl M w v y) (fx:pY x=true) (fy:pY y=true) (hp:ET kd x y es=some es2) :
  ∃es2':Array MapEntry,(Instr.mapUpdate t m k v).run P w = .ok () {w with heap:=w.heap.setIfInBounds b (.map es2' es2'.size)}/\(∀(i:Nat)(e:MapEntry),es2'[i]?=some e->e.born=i)/\AD es2'.toList es2:=by
 obtain⟨kt,el,u,q1,q2,q3,q4⟩:=vJ ht;have hg:=qw (P:=P) h4 (λ_ _ _ hh=>by cases hh);unfold ET at hp;split at hp
 .rename_i i hf;obtain⟨f1,f2⟩:=iZ (P:=P) q3 q2 hk h6 hf;obtain⟨en,p,e1,e2,e3,e4⟩:=DF h6 (f2 i rfl);cases hp;simp only[Option.bind_some,e1,fR]at f1;have X3:p.1=x:=x1 fx hf e2;rw[X3]at e3;have hst:=Fj (P:=P) (w:=w) e3 (nk hk fx);have e1':es'[i]?=some en:=by simpa using e1
  refine⟨es'.modify i λe=>{e with key:=k,val:=v},?_,ut h5 (λ_=>rfl),?_⟩
  .simp only[Instr.mapUpdate,mq,run_underlying q1,ny,hm,hg,dQ q3 q2,f1,e1',fR,cG,hst,vf h4,Array.size_modify]
  .rw[Array.toList_modify];exact uA h6 λe p _ _ _ _=>⟨nk hk fx,nk hv fy⟩
 .rename_i hf;obtain⟨f1,f2⟩:=iZ (P:=P) q3 q2 hk h6 hf;cases hp;simp only[Option.bind_none]at f1;refine⟨es'.push {key:=k,val:=v,born:=es'.size},?_,G1 h5,Hc h6 (nk hk fx) (nk hv fy)⟩;simp only[Instr.mapUpdate,mq,run_underlying q1,ny,hm,hg,dQ q3 q2,f1,vf h4,Array.size_push]
 .cases hp
def Wf(s:aT c bl g h a w){t:TypeId}{x y q:Operand}{xv yv qv:IV}{kd:KK}{z r:AV}{id:Nat}{ob:au}{e:bD}(ho:o.op = .mapUpdate t x y q\/o.op = .insert t x y q)(ht:CH P t=some (kd,z))(hx:cV x=some xv)(hy:cV y=some yv)(hq:cV q=some qv)
  (hv:val g xv = .mm id true) (hob:h id=some ob) (he:FA id kd (val g yv) (val g qv) ob=some (r,e)):bu P c o a w g h r e:=by
 unfold FA at he;split at he
 case h_2=>cases he
 rename_i es hes;split at he
 case isFalse=>cases he
 rename_i hfl;simp only[dX]at hfl;simp only[eS]at he;obtain⟨es2,hp,he⟩:=he;cases he;obtain⟨b,es',h1,h2,h3,h4,h5,h6⟩:=D8 s hx hv hob hes;obtain⟨es2',r1,r2,r3⟩:=GQ (P:=P) ht h2 h4 h5 h6 (bc s hy) (bc s hq) hfl.1 hfl.2 hp;refine⟨undef,_,bl,.inr ⟨?_,rfl⟩,vB s hob h1 h3 r2 r3,trivial⟩;rcases ho with ho|ho<;>simp[execOp,ho,r1]
def afC(s:aT c bl g h a w){t:TypeId}{x y:Operand}{xv yv:IV}{kd:KK}{z r:AV}{id:Nat}{ob:au}{e:bD}(ho:o.op = .mapEntry t x y)(ht:CH P t=some (kd,z))(hx:cV x=some xv)(hy:cV y=some yv)
  (hv:val g xv = .mm id true) (hob:h id=some ob) (he:S4 id kd z (val g yv) ob=some (r,e)):bu P c o a w g h r e:=by
 obtain⟨k,el,u,q1,q2,q3,q4⟩:=vJ ht;unfold S4 at he;split at he
 case h_2=>cases he
 rename_i es hes;split at he
 case isFalse=>cases he
 rename_i hfl;obtain⟨b,es',h1,h2,h3,h4,h5,h6⟩:=D8 s hx hv hob hes;have hg:=qw (P:=P) h4 (λ_ _ _ hh=>by cases hh);have hk:=bc s hy;split at he
 .rename_i i hf;obtain⟨f1,f2⟩:=iZ (P:=P) q3 q2 hk h6 hf;obtain⟨en,p,e1,e2,e3,e4⟩:=DF h6 (f2 i rfl);rw[e2]at he;simp only[dt,vn]at he;obtain⟨rfl,rfl⟩:=he;simp only[Option.bind_some,e1,fR]at f1;have X3:p.1=val g yv:=x1 hfl hf e2;have e3':=e3;rw[X3]at e3';have hst:=Fj (P:=P) (w:=w) e3' (nk hk hfl);have e1':es'[i]?=some en:=by simpa using e1
  have hS:=vB (es':=es'.modify i λe=>{e with key:=a.eval y}) (es2:=es) s hob h1 h3 (ut h5 (λ_=>rfl)) (by
   rw[Array.toList_modify]
   have:=uA (q:=λp=>p) (f:=λe=>{e with key:=a.eval y}) (j:=i) h6 λe' p' g1 g2 g3 g4=>⟨by
    rw[e2]at g2;cases g2;show gH (a.eval y) p.1;rw[X3];exact nk hk hfl,g4⟩
   rwa[show es.modify i (λp=>p)=es from List.modify_id _ _]at this)
  have hke:ob.k = .mp es:=by
   unfold zk at hes;split at hes
   .rename_i h;cases hes;exact h
   .cases hes
  have hoe:({ob with k:=.mp es}:au)=ob:=by cases ob;simp_all
  rw[hoe]at hS;refine⟨.tuple #[en.val,goInt en.born],_,bl,.inl ?_,hS,[_,_],rfl,(IRel.toC (lU e4)).toG,?_,trivial⟩
  .simp only[execOp,ho,Instr.mapEntry,mq,run_underlying q1,ny,h2,hg,dQ q3 q2,f1,e1',fR,cG,hst,vf h4,Array.size_modify,vj]
  .rw[h5 i en e1'];exact IRel.int _ _
 .rename_i hf;obtain⟨f1,f2⟩:=iZ (P:=P) q3 q2 hk h6 hf;simp only[Option.bind_none]at f1;obtain⟨i,zv,z1,z2,z3⟩:=yu q4;have hz:∀w,(zeroValue el).run P w = .ok zv w:=λw=>by simp[zeroValue,typeInfo,z1,z2]
  simp only[dt,vn]at he;obtain⟨rfl,rfl⟩:=he;have hS:=vB (es':=es'.push {key:=a.eval y,val:=zv,born:=es'.size}) s hob h1 h3 (G1 h5) (Hc h6 (nk hk hfl) z3);refine⟨.tuple #[zv,goInt es'.size],_,bl,.inl ?_,hS,[_,_],rfl,(IRel.toC (lU z3)).toG,?_,trivial⟩
  .simp only[execOp,ho,Instr.mapEntry,mq,run_underlying q1,ny,h2,hg,dQ q3 q2,f1,hz,vf h4,Array.size_push,vj]
  .have hl:=h6.length;simp only[pJ]at hl;rw[goInt,hl];exact IRel.int _ _
 .cases he
def QY{es':Array MapEntry}(hb:∀(i:Nat)(e:MapEntry),es'[i]?=some e->e.born=i){n:Nat}(hn:n<es'.size):es'.findIdx? (λe=>(e.born:Int)==(n:Int))=some n:=by
 rw[Array.findIdx?_eq_some_iff_getElem];refine⟨hn,?_,λj hj=>?_⟩
 .have:=hb n es'[n] (by simp[hn]);simp[this]
 .have:=hb j (es'[j]'(by omega)) (by simp[show j<es'.size by omega]);simp[this];omega
def afD(s:aT c bl g h a w){t:TypeId}{x y q:Operand}{xv yv qv:IV}{n:Int}{r:AV}{id:Nat}{ob:au}{e:bD}(ho:o.op = .entryStore t x y q)(hx:cV x=some xv)(hy:cV y=some yv)(hq:cV q=some qv)
  (hv:val g xv = .mm id true) (hn:val g yv = .int .i64 n) (hob:h id=some ob) (he:Qs id n (val g qv) ob=some (r,e)):bu P c o a w g h r e:=by
 unfold Qs at he;split at he
 case h_2=>cases he
 rename_i es hes;split at he
 case isFalse=>cases he
 rename_i hcond;obtain⟨c1,c2,c3⟩:=hcond;cases he;obtain⟨b,es',h1,h2,h3,h4,h5,h6⟩:=D8 s hx hv hob hes;have hg:=qw (P:=P) h4 (λ_ _ _ hh=>by cases hh);have hl:=h6.length;simp only[pJ]at hl;have h7:=bc s hy;rw[hn]at h7;have h8:=h7.int;have hfb:=QY h5 (n:=n.toNat) (by omega);rw[show((n.toNat:Nat):Int)=n by omega]at hfb
 have hS:=vB (es':=es'.modify n.toNat λe=>{e with val:=a.eval q}) (es2:=es.modify n.toNat λe=>(e.1,val g qv)) s hob h1 h3 (ut h5 (λ_=>rfl)) (by
  rw[Array.toList_modify];exact uA h6 λe' p' g1 g2 g3 g4=>⟨g3,nk (bc s hq) c3⟩)
 refine⟨undef,_,bl,.inr ⟨?_,rfl⟩,hS,trivial⟩;simp only[execOp,ho,Instr.entryStore,mq,h2,hg,ny,h8,asInt,asIntOf,vj,hfb,vf h4,Array.size_modify]
end
section
variable{P:Program}{c:sV}{bl:Nat->Option Nat}{g:Nat->AV}{h:Nat->Option au}{a:Act}{w:World}{o:Oper}{M:Nat->Prop}
def Ht(n:Nat):∀(k c:Nat),256<=c->c<=2*n->Builtin.growBy n k c<=2*n
 | 0,c,hc,h=>by simpa[Builtin.growBy]using h
 | k+1,c,hc,h=>by
  simp only[Builtin.growBy];split
  .exact h
  .exact Ht n k (c+(c+768)/4) (by omega) (by omega)
def NV{n c:Nat}(h:c<n):Builtin.nextslicecap n c<=2*n:=by
 unfold Builtin.nextslicecap;split
 .omega
 .split
  .omega
  .exact Ht n 4 c (by omega) (by omega)
structure XY(P:Program)(w:World)(st:Nat)(y:Value)(n:Nat)(ys:List Value):Prop where
 len:∀w':World,(Builtin.lenOf y).run P w' = .ok n w'
 vals:∀w':World,w'.heap=w.heap->(Builtin.firstCells st n y).run P w' = .ok ys.toArray w'
def vK(M:Nat->Prop)(w:World)(st:Nat)(ys:List Value)(rows:List (List AV)):Prop :=
 (∀(i:Nat)(r:List AV),rows[i]?=some r->r.length=st)/\ys.length=rows.length*st /\
 ∀(i j:Nat)(r:List AV)(x:AV),rows[i]?=some r->r[j]?=some x->∃v,ys[i*st+j]?=some v/\IRel M w v x
def qu{b off st:Nat}{c1:Array Value}{t:TypeId}{fr:Nat×Nat}{rows:List (List AV)}(hb:w.heap[b]?=some (.cells c1 t fr))
  (hr:∀(i:Nat)(r:List AV),rows[i]?=some r->r.length=st)
  (hx:∀(i j:Nat)(r:List AV)(x:AV),rows[i]?=some r->r[j]?=some x->∃v,c1[off+i*st+j]?=some v/\IRel M w v x) :
  ∃ys:List Value,vK M w st ys rows/\∀w':World,w'.heap=w.heap->(loadCells ⟨b,off,none⟩ (rows.length*st)).run P w' = .ok ys.toArray w':=by
 have hcell:∀k,k<rows.length*st->∃v,c1[off+k]?=some v:=λk hk=>by
  have hst:0<st:=by
   rcases Nat.eq_zero_or_pos st with h0|h0
   .subst h0;simp at hk
   .exact h0
  have hi:k/st<rows.length:=Nat.div_lt_of_lt_mul (by rw[Nat.mul_comm];exact hk);have e1:rows[k/st]?=some rows[k/st]:=kS hi;have hl:=hr _ _ e1;have hj:k%st<st:=Nat.mod_lt _ hst;obtain⟨v,hv,_⟩:=hx _ (k%st) _ _ e1 (kS (by omega));refine⟨v,?_⟩;rw[<-hv];congr 1;have:=Nat.div_add_mod k st;rw[Nat.mul_comm]at this;omega
 refine⟨(List.range (rows.length*st)).map λk=>(c1[off+k]?).getD default,⟨hr,by simp,λi j r x hi hj=>?_⟩,λw' hw=>?_⟩
 .obtain⟨v,hv,hrel⟩:=hx i j r x hi hj;refine⟨v,?_,hrel⟩;have hj':j<st:=by rw[<-hr i r hi];exact(jh.1 hj).1
  have hi':i<rows.length:=(jh.1 hi).1;have hlt:i*st+j<rows.length*st:=by
   have:=qB st (show i+1<=rows.length by omega);rw[lE]at this;omega
  rw[iG,MC hlt];simp only[fR];rw[<-ab1,hv];rfl
 .have hld:=run_loadCells_list (P:=P) (w:=w') ⟨b,off,none⟩ ((List.range (rows.length*st)).map λk=>(c1[off+k]?).getD default) (λj v hv=>by
   rw[iG]at hv;simp only[eS]at hv;obtain⟨k,hk,rfl⟩:=hv;obtain⟨hlt,hk⟩:=jh.1 hk;simp only[List.getElem_range]at hk;subst hk;simp only[List.length_range]at hlt;obtain⟨v,hv⟩:=hcell j hlt;rw[lQ,bU (w:=w') (by rw[hw];exact hb),hv];rfl)
  simpa using hld
def Db(st:Nat):XY P w st (.slice none 0 0) 0 []:=⟨λw'=>by simp[Builtin.lenOf],λw' _=>by simp[Builtin.firstCells]⟩
def kN(st:Nat):vK M w st [] []:=⟨λi r hr=>by simp at hr,by simp,λi j r x hr=>by simp at hr⟩
def vH(st:Nat)(ad:Addr)(cap:Nat):XY P w st (.slice (some ad) 0 cap) 0 []:=⟨λw'=>by simp[Builtin.lenOf],λw' _=>by simp[Builtin.firstCells,loadCells,loadCellsFrom]⟩
def P9(s:aT c bl g h a w){st:Nat}{y:Operand}{yv:IV}(hy:cV y=some yv){rows:List (List AV)}(hr:jJ st h (val g yv)=some rows) :
  ∃ys,XY P w st (a.eval y) rows.length ys/\vK (bQ bl c.MF h) w st ys rows:=by
 have h1:=bc s hy;cases hval:val g yv<;>rw[hval]at hr h1<;>simp only[jJ]at hr<;>try cases hr
 case nl =>
  have:=h1.nl;rw[this];exact⟨[],Db st,kN st⟩
 case sl st' rows' =>
  split at hr
  case isFalse=>cases hr
  rename_i hst;subst hst;cases hr;generalize hu:a.eval y=u at h1;have h2:=h1.sl;cases h2 with
  | nls=>exact⟨[],Db _,kN _⟩
  | sl0 st ad cap=>exact⟨[],vH _ _ _,kN _⟩
  | sl b off cap st c1 t1 fr rows vs hb hM hl hrl hv hx =>
   obtain⟨ys,h3,h4⟩:=qu (P:=P) (M:=bQ bl c.MF h) (off:=off) hb hrl (λi j r x hi hj=>⟨vs i j,hv i j (jh.1 hi).1 (by rw[<-hrl i r hi];exact(jh.1 hj).1),hx i j r x hi hj⟩);exact⟨ys,⟨λw'=>by simp[Builtin.lenOf],λw' hw=>by simp[Builtin.firstCells,h4 w' hw]⟩,h3⟩
 case ms id st' off len =>
  split at hr
  case h_2=>cases hr
  rename_i ob hob;split at hr
  case isFalse=>cases hr
  rename_i hcond;obtain⟨rfl,hst,hrec,hfit⟩:=hcond;cases hr;have hlen:((ob.rows.drop off).take len).length=len:=by simp;omega
  rcases h1 with⟨h2,h3,h4⟩|⟨h2,h3,ad,cap,h4⟩|⟨b,cap,c1,t1,fr,h2,h3,h4,h5,h6⟩
  .subst h3 h4;rw[h2];simp only[jK,eG];exact⟨[],Db _,kN _⟩
  .subst h2;rw[h4];simp only[jK,eG];exact⟨[],vH _ _ _,kN _⟩
  .rcases s.heap.1 id ob hob with hn0|⟨b',g2,⟨_,c2,fr2,g3,g4,g5,g6,g7,g8⟩|hsp⟩
   .rw[hn0.2.2]at h2;cases h2
   rotate_left
   .rw[h2]at g2;cases g2;exact(hsp.ne h5).elim
   rw[h2]at g2;cases g2;have getr:∀(i:Nat)(r:List AV),((ob.rows.drop off).take len)[i]?=some r->ob.rows[off+i]?=some r:=λi r hi=>by
    rw[Fw]at hi;split at hi
    .simpa using hi
    .cases hi
   obtain⟨ys,q3,q4⟩:=qu (P:=P) (M:=bQ bl c.MF h) (w:=w) (off:=off*st') (st:=st') (rows:=(ob.rows.drop off).take len) g3 (λi r hi=>by rw[<-hst];exact g6 _ _ (getr i r hi)) (λi j r x hi hj=>by
    obtain⟨v,hv,hrl⟩:=g8 _ _ _ _ (getr i r hi) hj;rw[hrec]at hrl;refine⟨v,?_,hrl⟩;rw[<-hv,hst,lE])
   rw[hlen]at q4;refine⟨ys,?_,q3⟩;rw[h3,hlen];exact⟨λw'=>by simp[Builtin.lenOf],λw' hw=>by simp[Builtin.firstCells,q4 w' hw]⟩
def XE(s:aT c bl g h a w){y:Operand}{yv:IV}(hy:cV y=some yv){rows:List (List AV)}(hr:abJ (val g yv)=some rows) :
  ∃ys,XY P w 1 (a.eval y) rows.length ys/\vK (bQ bl c.MF h) w 1 ys rows:=by
 have h1:=bc s hy;cases hval:val g yv<;>rw[hval]at hr h1<;>simp only[abJ,dt]at hr<;>try cases hr
 case str st =>
  rw[h1.str];refine⟨st.map λb=>.int .u8 b.toNat,⟨λw'=>by simp[Builtin.lenOf,ByteArray.size],λw' _=>?_⟩,λi r hi=>?_,by simp,λi j r x hi hj=>?_⟩
  .have hex:((ByteArray.mk st.toArray).extract 0 st.length)=ByteArray.mk st.toArray:=by
    apply ByteArray.ext;simp[ByteArray.data_extract]
   simp[Builtin.firstCells,hex]
  .simp only[iG,eS]at hi;obtain⟨b,_,rfl⟩:=hi;rfl
  .simp only[iG,eS]at hi;obtain⟨b,hb,rfl⟩:=hi;cases j with
   | zero=>simp at hj;subst hj;exact⟨.int .u8 b.toNat,by simp[hb],IRel.int _ _⟩
   | succ j=>simp at hj
def xR{t e:TypeId}{st:Nat}(hap:sw P t=some (e,st)):∃i z,P.underlying t=some (.slice e)/\P.info? e=some i/\i.zero=some z/\i.size=st/\i.bytes<=512/\1<=i.bytes/\z.cells.size=st/\1<=st:=by
 unfold sw at hap;split at hap
 case h_2=>cases hap
 rename_i e' ht;split at hap
 case h_2=>cases hap
 rename_i i z' hi hz';split at hap
 case isFalse=>cases hap
 rename_i hcond;obtain⟨hb1,hb2,hb3,hb4⟩:=hcond;cases hap;obtain⟨i',v,h4,h5,h6,_⟩:=lC (M:=λ_=>False) (w:=default) hz';rw[hi]at h4;cases h4;have:=h6.length;simp only[pJ]at this;exact⟨i,v,ht,hi,h5,rfl,hb1,hb2,by omega,hb4⟩
section
variable{t t' e:TypeId}{st:Nat}{cl:Call}{x y:Operand}
def JK(ho:o.op = .call cl)(hcl:cl.callee = .builtin .append)(hat:cl.argTypes = #[t,t'])(har:cl.args = #[x,y])(hap:sw P t=some (e,st))(ht':(∃e',P.underlying t'=some (.slice e'))\/P.underlying t'=some .string)
  {b len cap n:Nat} {ys:List Value} (hx:a.eval x = .slice (some ⟨b,0,none⟩) len cap) (hs:XY P w st (a.eval y) n ys) (hcap:len+n<=cap)
  {c1:Array Value} {t1:TypeId} {fr:Nat×Nat} (hb:w.heap[b]?=some (.cells c1 t1 fr)) (uf:fQ c1 fr) (hl:len*st+ys.length<=c1.size) (h1:∀v∈ys,nv v) :
  (execOp a.eval o).run P w = .ok (.value (.slice (some ⟨b,0,none⟩) (len+n) cap)) (w.setCells b (len*st) ys):=by
 obtain⟨i,z,g1,g2,g3,g4,g5,g6,g7,g8⟩:=xR hap;have hz:(match P.underlying t' with|some (.int _)=>true|_=>false)=false:=by rcases ht' with⟨e',h⟩|h<;>rw[h]
 have hst:=mB (P:=P) hb uf hl h1;rcases ht' with⟨e',ht'⟩|ht' <;>
  simp[execOp,ho,resolve,hcl,har,hat,invoke,builtin,Builtin.append_,underlying,g1,hx,sizeOf,typeInfo,g2,g4,ht',hs.len w,hcap,hs.vals w rfl,lQ,hst]
def zS(ho:o.op = .call cl)(hcl:cl.callee = .builtin .append)(hat:cl.argTypes = #[t,t'])(har:cl.args = #[x,y])(hap:sw P t=some (e,st))(ht':(∃e',P.underlying t'=some (.slice e'))\/P.underlying t'=some .string)
  (hx:a.eval x = .slice none 0 0) {ys:List Value} (hs:XY P w st (a.eval y) 0 ys) :
  (execOp a.eval o).run P w = .ok (.value (.slice none 0 0)) w:=by
 obtain⟨i,z,g1,g2,g3,g4,g5,g6,g7,g8⟩:=xR hap;rcases ht' with⟨e',ht'⟩|ht' <;>
  simp[execOp,ho,resolve,hcl,har,hat,invoke,builtin,Builtin.append_,underlying,g1,hx,sizeOf,typeInfo,g2,g4,ht',hs.len w,hs.vals w rfl]
def zR(ho:o.op = .call cl)(hcl:cl.callee = .builtin .append)(hat:cl.argTypes = #[t,t'])(har:cl.args = #[x,y])(hap:sw P t=some (e,st))(ht':(∃e',P.underlying t'=some (.slice e'))\/P.underlying t'=some .string)
  {base:Option Addr} {len cap n:Nat} {olds ys:List Value} (hx:a.eval x = .slice base len cap) (hs:XY P w st (a.eval y) n ys) (hcap:cap<len+n) (hbig:len+n<274877906944)
  (hold:∀w':World,w'.heap=w.heap->(Builtin.firstCells st len (.slice base len cap)).run P w' = .ok olds.toArray w') :
  ∃(cs:Array Value)(w':World)(cap':Nat),(execOp a.eval o).run P w = .ok (.value (.slice (some ⟨w.heap.size,0,none⟩) (len+n) cap')) w'/\w'.heap=w.heap.push (.cells cs e (0,0))/\w'.os=w.os/\w'.output=w.output /\
   len+n<=cap'/\∃rest:List Value,cs=(olds++ys++rest).toArray/\rest.length=(cap'-(len+n))*st:=by
 obtain⟨i,z,g1,g2,g3,g4,g5,g6,g7,g8⟩:=xR hap;have hmax:¬((len+n:Nat):Int)>IntKind.i64.max:=by simp[IntKind.max,IntKind.signed,IntKind.bits];omega
 have hmax':¬(9223372036854775807:Int)<(len:Int)+(n:Int):=by omega
 have hnc:=NV hcap;have hroom:¬Builtin.nextslicecap (len+n) cap*i.bytes>2^48:=by
  have:Builtin.nextslicecap (len+n) cap*i.bytes<=(2*(len+n))*512:=Nat.mul_le_mul hnc g5;omega
 have hroom':¬281474976710656<Builtin.nextslicecap (len+n) cap*i.bytes:=by simpa using hroom
 have hcap':¬len+n<=cap:=by omega
 have hq:Question.forced (.appendCap (len+n) cap e)=false:=rfl;have hb0:¬i.bytes=0:=by omega
 let cp:=(len+n)+(w.tape w.drawn (.appendCap (len+n) cap e))%(2^63-(len+n))
 refine⟨(olds++ys++(Builtin.zeroCells z.cells (cp-(len+n))).toList).toArray,w.drew.alloc (.cells (olds++ys++(Builtin.zeroCells z.cells (cp-(len+n))).toList).toArray e),cp,?_,rfl,rfl,rfl,Nat.le_add_right _ _,_,rfl,?_⟩
 .have hv:=hs.vals w.drew rfl;have ho':=hold w.drew rfl;rcases ht' with⟨e',ht'⟩|ht' <;>
   simp[execOp,ho,resolve,hcl,har,hat,invoke,builtin,Builtin.append_,underlying,g1,hx,sizeOf,typeInfo,g2,g4,ht',hs.len w,hcap',hmax',hroom',hq,ho',hv,zeroValue,g3,newRow,Question.cut,hb0,cp]
  all_goals
   congr 2;apply Array.toList_inj.1;simp
 .simp[Builtin.zeroCells,g7]
def aT.congr{g':Nat->AV}{h':Nat->Option au}(s:aT c bl g h a w)(hg:∀k,g' k=g k)(hh:∀j,h' j=h j):aT c bl g' h' a w :=
 s.weaken (λk=>.inr (hg k)) (λj o ho=>by rw[<-hh j];exact ho)
def LZ{ys:List Value}{rows:List (List AV)}(hy:vK M w st ys rows):∀v∈ys,nv v:=λv hv=>by
 obtain⟨k,hk⟩:=List.getElem?_of_mem hv;have hlt:k<rows.length*st:=by rw[<-hy.2.1];exact(jh.1 hk).1
 have hst:0<st:=by
  rcases Nat.eq_zero_or_pos st with h0|h0
  .subst h0;simp at hlt
  .exact h0
 have hi:k/st<rows.length:=Nat.div_lt_of_lt_mul (by rw[Nat.mul_comm];exact hlt);have e1:rows[k/st]?=some rows[k/st]:=kS hi;have hl:=hy.1 _ _ e1;have hj:k%st<st:=Nat.mod_lt _ hst;obtain⟨u,hu,hr⟩:=hy.2.2 _ (k%st) _ _ e1 (kS (by omega));have he:k/st*st+k%st=k:=by
  have:=Nat.div_add_mod k st;rw[Nat.mul_comm]at this;exact this
 rw[he,hk]at hu;cases hu;exact hr.one
def B1{olds ys rest:List Value}{rows yrows:List (List AV)}(ho:vK M w st olds rows)(hy:vK M w st ys yrows) :
  (∀(i:Nat)(r:List AV),(rows++yrows)[i]?=some r->r.length=st) /\
  ∀(i j:Nat)(r:List AV)(x:AV),(rows++yrows)[i]?=some r->r[j]?=some x->∃v,(olds++ys++rest).toArray[i*st+j]?=some v/\IRel M w v x:=by
 refine⟨λi r hr=>?_,λi j r x hr hx=>?_⟩
 .rw[List.getElem?_append]at hr;split at hr
  .exact ho.1 _ _ hr
  .exact hy.1 _ _ hr
 .rw[List.getElem?_append]at hr;simp only[List.getElem?_toArray];split at hr
  .rename_i hlt;obtain⟨v,hv,hrel⟩:=ho.2.2 _ _ _ _ hr hx;refine⟨v,?_,hrel⟩;rw[vk,MH (jh.1 hv).1];exact hv
  .rename_i hge;obtain⟨v,hv,hrel⟩:=hy.2.2 _ _ _ _ hr hx;refine⟨v,?_,hrel⟩;have e1:i*st+j=olds.length+((i-rows.length)*st+j):=by
    rw[ho.2.1,<-ab1,<-lE];congr 2;omega
   rw[vk,e1,Ay (by omega),Nat.add_sub_cancel_left,MH (jh.1 hv).1];exact hv
def NW(s:aT c bl g h a w){d:Nat}(ho:o.op = .call cl)(hcl:cl.callee = .builtin .append)(hat:cl.argTypes = #[t,t'])(har:cl.args = #[x,y])(hap:sw P t=some (e,st))(ht':(∃e',P.underlying t'=some (.slice e'))\/P.underlying t'=some .string)
  {xv:IV} (hx:cV x=some xv) (hxv:val g xv = .nl) {yrows:List (List AV)} {ys:List Value} (hs:XY P w st (a.eval y) yrows.length ys) (hy:vK (bQ bl c.MF h) w st ys yrows) (hbig:yrows.length<137438953472)
  (hd:h d=none) (hu:dG d g h) (hid:d<1000\/2000<=d):bu P c o a w g h (.ms d st 0 yrows.length) (.new d ⟨e,st,yrows,false⟩):=by
 have h1:=bc s hx;rw[hxv]at h1;have h2:=h1.nl;by_cases h0:yrows=[]
 .subst h0;have hrun:=zS ho hcl hat har hap ht' h2 hs;refine⟨_,_,_,.inl hrun,s.new0 (i:=d) (o:=⟨e,st,[],false⟩) hd hu hid rfl rfl,.inl ⟨rfl,rfl,rfl⟩⟩
 .have hpos:0<yrows.length:=ME.2 h0;obtain⟨cs,w',cap',h3,h4,h5,h6,h7,rest,rfl,h9⟩:=zR (olds:=[]) (P:=P) ho hcl hat har hap ht' h2 hs (by omega) (by omega) (λw' _=>by simp[Builtin.firstCells]);simp only[dk,gC]at h3 h7 h9;have hg:=B1 (rest:=rest) (kN (M:=bQ bl c.MF h) (w:=w) st) hy;simp only[gC]at hg h4;have hsz:(ys++rest).toArray.size=cap'*st:=by
   simp only[List.size_toArray,dN,hy.2.1,h9];rw[<-lE];congr 1;omega
  exact n_ (rows:=yrows) s hd hu hid h3 h4 h5 h6 (nD _) hg.1 (by rw[hsz];exact qB _ h7) h7 (by rw[hsz];exact aQ _) hg.2
def NX(s:aT c bl g h a w)(ho:o.op = .call cl)(hcl:cl.callee = .builtin .append)(hat:cl.argTypes = #[t,t'])(har:cl.args = #[x,y])(hap:sw P t=some (e,st))(ht':(∃e',P.underlying t'=some (.slice e'))\/P.underlying t'=some .string)
  {xv:IV} (hx:cV x=some xv) {id len:Nat} (hxv:val g xv = .ms id st 0 len) {ob:au} (hob:h id=some ob) (hst:ob.st=st) (hte:ob.t=e) (hrec:ob.isRec=false) (hlen:len<=ob.rows.length) (hid:id<1000\/2000<=id) (hfl:ob.k.flat=true)
  {yrows:List (List AV)} {ys:List Value} (hs:XY P w st (a.eval y) yrows.length ys) (hy:vK (bQ bl c.MF h) w st ys yrows) (hbig:yrows.length<137438953472) (hbig2:len<137438953472) :
  bu P c o a w g h (.ms id st 0 (len+yrows.length)) (.reb id ⟨e,st,ob.rows.take len++yrows,false⟩):=by
 have h1:=bc s hx;rw[hxv]at h1;subst hst hte;have hpur:∀r,ff id ⟨ob.t,ob.st,r,false⟩ =⟨ob.t,ob.st,r,false⟩:=λr=>by simp[ff]
 have grow:∀{base:Option Addr}{cap:Nat}{olds:List Value},a.eval x = .slice base len cap->cap<len+yrows.length->vK (bQ bl c.MF h) w ob.st olds (ob.rows.take len) ->
   (∀w':World,w'.heap=w.heap->(Builtin.firstCells ob.st len (.slice base len cap)).run P w' = .ok olds.toArray w')->bu P c o a w g h (.ms id ob.st 0 (len+yrows.length)) (.reb id ⟨ob.t,ob.st,ob.rows.take len++yrows,false⟩):=by
  intro base cap olds hv hc hold hrun;obtain⟨cs,w',cap',h3,h4,h5,h6,h7,rest,rfl,h9⟩:=zR (P:=P) ho hcl hat har hap ht' hv hs hc (by omega) hrun;have hk:=s.kill id;have hun:=pH id g h
  have hm:∀b,¬bQ bl c.MF h b->b<w.heap.size->¬bQ bl c.MF (λj=>if j=id then none else(h j).map (ff id)) b/\w.heap[b]? = w.heap[b]?:=λb hb _=>⟨λhmm=>hb (by
   rcases hmm with hmm|⟨j,oj,q1,q2⟩
   .exact .inl hmm
   .by_cases hj:j=id
    .simp[hj]at q1
    .simp only[hj,ij,eS]at q1;obtain⟨o0,q1,_⟩:=q1;exact .inr ⟨j,o0,q1,q2⟩),rfl⟩
  have hg:=B1 (rest:=rest) hold hy;have hl1:(ob.rows.take len).length=len:=by simp;omega
  have hsz:(olds++ys++rest).toArray.size=cap'*ob.st:=by
   simp only[List.size_toArray,dN,hy.2.1,h9,hold.2.1,hl1];rw[<-lE,<-lE];congr 1;omega
  have hs2:=hk.new (i:=id) (o:=⟨ob.t,ob.st,ob.rows.take len++yrows,false⟩) (cs:=(olds++ys++rest).toArray) (fr:=(0,0)) (w':=w') (by simp) hun hid h4 h5 h6 (nD _)
   ⟨hg.1,by rw[hsz];simp only[dN,hl1];exact qB _ h7,λi j r x' hr hx'=>by
    obtain⟨v,q1,q2⟩:=hg.2 i j r x' hr hx';exact⟨v,q1,q2.tr hm⟩⟩ (λhf=>by cases hf)
  refine⟨_,_,_,.inl h3,hs2.congr (λ_=>rfl) (λj=>?_),.inr (.inr ⟨w.heap.size,cap',(olds++ys++rest).toArray,ob.t,(0,0),cz _ _ _,by simp,h7,by rw[h4];simp,by rw[hsz];simp⟩)⟩;by_cases hj:j=id
  .subst hj;simp[bD.hp,fA]
  .simp[bD.hp,fA,hj]
 rcases h1 with⟨h2,_,h4⟩|⟨_,h3,_⟩|⟨b,cap,c1,t1,fr,h2,h3,h4,h5,h6⟩
 .subst h4;by_cases h0:yrows=[]
  .subst h0;have hrun:=zS ho hcl hat har hap ht' h2 hs;have hp:=s.purge id;refine⟨_,_,bl,.inl hrun,?_,.inl ⟨rfl,rfl,rfl⟩⟩
   have hm:∀q,bQ bl c.MF (bD.hp h (.reb id ⟨ob.t,ob.st,ob.rows.take 0++[],false⟩)) q↔bQ bl c.MF (λj=>(h j).map (ff id)) q:=bQ.congr (λj=>by
    by_cases hj:j=id
    .subst hj;simp[bD.hp,fA,hob]
    .simp[bD.hp,fA,hj])
   have ht:=Tr.of_iff (w:=w) hm;refine⟨hp.defers,hp.size,λk=>(hp.env k).tr ht (λ_ _=>rfl),⟨λj oj hj=>?_,λj j' oj oj' q q1 q2=>?_⟩,hp.step,λj oj q q1=>?_,hp.stab,hp.mf⟩
   .by_cases hji:j=id
    .subst hji;simp only[bD.hp,fA,dR,dt]at hj;subst hj;rcases s.heap.1 j ob hob with hn|⟨b',g2,⟨_,c2,fr2,g3,g4,g5,g6,g7,g8⟩|hsp⟩
     .exact .inl ⟨by simp,rfl,hn.2.2⟩
     .exact .inr ⟨b',g2,.inl ⟨rfl,c2,fr2,g3,g4,g5,by simp,by simp,by simp⟩⟩
     .exact(hsp.noflat hfl).elim
    .have hj':(h j).map (ff id)=some oj:=by simpa[bD.hp,fA,hji]using hj
     rcases hp.heap.1 j oj hj' with hn|⟨b',g2,⟨gk,c2,fr2,g3,g4,g5,g6,g7,g8⟩|hsp⟩
     .exact .inl hn
     .exact .inr ⟨b',g2,.inl ⟨gk,c2,fr2,g3,g4,g5,g6,g7,λi k r y' q1 q2=>by
       obtain⟨v,q3,q4⟩:=g8 i k r y' q1 q2;exact⟨v,q3,q4.tr ht (λ_ _ _=>rfl)⟩⟩⟩
     .exact .inr ⟨b',g2,.inr hsp⟩
   .have key:∀{j oj},bD.hp h (.reb id ⟨ob.t,ob.st,ob.rows.take 0++[],false⟩) j=some oj->∃o0,(h j).map (ff id)=some o0:=λ{j oj} hj=>by
     by_cases hji:j=id
     .subst hji;exact⟨_,by rw[hob];rfl⟩
     .exact⟨oj,by simpa[bD.hp,fA,hji]using hj⟩
    obtain⟨p1,hp1⟩:=key q1;obtain⟨p2,hp2⟩:=key q2;exact hp.heap.2 j j' p1 p2 q hp1 hp2
   .by_cases hji:j=id
    .subst hji;exact hp.own j (ff j ob) q (by simp[hob])
    .exact hp.own j oj q (by simpa[bD.hp,fA,hji]using q1)
  .have hpos:0<yrows.length:=ME.2 h0;exact grow (olds:=[]) h2 (by omega) (by simpa using kN _) (λw' _=>by simp[Builtin.firstCells])
 .exact(h3 rfl).elim
 .rcases s.heap.1 id ob hob with hn0|⟨b',g2,⟨_,c2,fr2,g3,g4,g5,g6,g7,g8⟩|hsp⟩
  .rw[hn0.2.2]at h2;cases h2
  rotate_left
  .exact(hsp.noflat hfl).elim
  rw[h2]at g2;cases g2;rw[g3]at h5;cases h5;simp only[Nat.zero_mul,dk]at h3 h6;have getr:∀(i:Nat)(r:List AV),(ob.rows.take len)[i]?=some r->ob.rows[i]?=some r/\i<len:=λi r hi=>by
   rw[Fw]at hi;split at hi
   .exact⟨hi,by assumption⟩
   .cases hi
  have hl1:(ob.rows.take len).length=len:=by simp;omega
  by_cases hcap:len+yrows.length<=cap
  ·
   have hfit:len*ob.st+ys.length<=c1.size:=by
    rw[hy.2.1,<-lE];have:=qB ob.st hcap;omega
   have hrun:=JK (P:=P) ho hcl hat har hap ht' h3 hs hcap g3 g4 hfit (LZ hy);obtain⟨c3,q1,q2,q3,q4,q5,q6,q7⟩:=lK b ys (len*ob.st) w g3 hfit
   have hw:=s.write (o':=⟨ob.t,ob.st,ob.rows.take len++yrows,false⟩) (hkc:=(Kd.of_flat hfl).symm) hob h2 g3 q1 q2 q4 q5 q6 q7 rfl ⟨λi r hr=>by
     rw[List.getElem?_append]at hr;split at hr
     .exact g6 _ _ (getr i r hr).1
     .exact hy.1 _ _ hr,by
     simp only[dN,hl1,q2];have:=qB ob.st hcap;omega,λi j r x' hr hx'=>by
     rw[List.getElem?_append]at hr;split at hr
     .rename_i hlt;rw[hl1]at hlt;obtain⟨hr',_⟩:=getr i r hr;have hj:j<ob.st:=by rw[<-g6 i r hr'];exact(jh.1 hx').1
      obtain⟨v,hv,hrel⟩:=g8 _ _ _ _ hr' hx';rw[hrec]at hrel;refine⟨v,?_,hrel⟩;have:i*ob.st+j<len*ob.st:=by
       have:=qB ob.st (show i+1<=len by omega);rw[lE]at this;omega
      simp only;rw[q3,an (by omega)];exact hv
     .rename_i hge;rw[hl1]at hge hr;obtain⟨v,hv,hrel⟩:=hy.2.2 _ _ _ _ hr hx';refine⟨v,?_,hrel⟩;have e1:i*ob.st+j=len*ob.st+((i-len)*ob.st+j):=by
       rw[<-ab1,<-lE];congr 2;omega
      have hlt:=(jh.1 hv).1;simp only;rw[q3,az (by omega),e1,Nat.add_sub_cancel_left];exact hv⟩
   refine⟨_,_,bl,.inl hrun,(hw.purge id).congr (λ_=>rfl) (λj=>?_),.inr (.inr ⟨b,cap,c3,ob.t,fr,h2,by simp,hcap,q1,by rw[q2];simpa using h6⟩)⟩;by_cases hj:j=id
   .subst hj;simp[bD.hp,fA,hpur]
   .simp[bD.hp,fA,hj]
  .obtain⟨olds,hO,hrun⟩:=qu (P:=P) (M:=bQ bl c.MF h) (w:=w) (off:=0) (st:=ob.st) (rows:=ob.rows.take len) g3 (λi r hi=>g6 _ _ (getr i r hi).1) (λi j r x' hi hj=>by
    obtain⟨v,hv,hrel⟩:=g8 _ _ _ _ (getr i r hi).1 hj;rw[hrec]at hrel;exact⟨v,by simpa using hv,hrel⟩)
   rw[hl1]at hrun;exact grow h3 (by omega) hO (λw' hw'=>by simp[Builtin.firstCells,hrun w' hw'])
end
def BT:∀{rows:List (List AV)}{bs:List UInt8}{ys:List Value},qX rows=some bs->vK M w 1 ys rows->∃ns:List Int,ys=ns.map (λn=>Value.int .u8 n)/\bs=ns.map (λn=>UInt8.ofNat n.toNat)
 | [],bs,ys,hb,hy=>by
  simp only[qX,dt]at hb;subst hb;have:=hy.2.1;simp at this;subst this;exact⟨[],rfl,rfl⟩
 | r::rows,bs,ys,hb,hy=>by
  have hl:=hy.2.1;simp only[i9,AA]at hl;cases ys with
  | nil=>simp at hl
  | cons y ys =>
   have hy':vK M w 1 ys rows:=⟨λi q hq=>hy.1 (i+1) q (by simpa using hq),by simpa using hl,λi j q z hq hz=>by
    obtain⟨v,hv,hr⟩:=hy.2.2 (i+1) j q z (by simpa using hq) hz;refine⟨v,?_,hr⟩;rw[show(i+1)*1+j=(i*1+j)+1 by omega,Fs]at hv;exact hv⟩
   unfold qX at hb;split at hb
   .rename_i heq;cases heq
   .rename_i n rest heq;cases heq;simp only[eS]at hb;obtain⟨bs',hb',rfl⟩:=hb;obtain⟨ns,rfl,rfl⟩:=BT hb' hy';obtain⟨v,hv,hr⟩:=hy.2.2 0 0 [.int .u8 n] (.int .u8 n) rfl rfl;simp at hv;subst hv;cases hr;exact⟨n::ns,rfl,rfl⟩
   .cases hb
def afu(s:aT c bl g h a w){sr ds e:TypeId}{x:Operand}{xv:IV}(ho:o.op = .convert sr ds x)(h1:P.underlying sr=some (.slice e))(h2:P.underlying e=some (.int .u8))(h3:P.underlying ds=some .string)(hx:cV x=some xv)
  {rows:List (List AV)} {bs:List UInt8} (hr:jJ 1 h (val g xv)=some rows) (hb:qX rows=some bs):bu P c o a w g h (.str bs) .no:=by
 obtain⟨ys,hs,hy⟩:=P9 (P:=P) s hx hr;obtain⟨ns,rfl,rfl⟩:=BT hb hy;have hv:∃ad n cap,a.eval x = .slice ad n cap:=by
  have hl:=hs.len w;cases hv:a.eval x<;>rw[hv]at hl<;>try (simp[Builtin.lenOf]at hl;done)
  .rename_i st;exfalso;have h4:=bc s hx;rw[hv]at h4;cases hval:val g xv<;>rw[hval]at hr h4<;>simp only[jJ]at hr<;>try cases hr
   .exact absurd h4.nl (by simp)
   .have h5:=h4.sl;cases h5
   .rcases h4 with⟨h5,_⟩|⟨_,_,_,_,h5⟩|⟨_,_,_,_,_,_,h5,_⟩<;>cases h5
  .exact⟨_,_,_,rfl⟩
 obtain⟨ad,n,cap,hv⟩:=hv;refine bu.pure s (r:=.string ⟨(ns.map λn=>UInt8.ofNat n.toNat).toArray⟩) ?_ (aa_ _);have hval:=hs.vals w rfl;have hlen:=hs.len w;rw[hv]at hval hlen;simp only[Builtin.lenOf,vj,Result.ok.injEq,and_true]at hlen;subst hlen;cases ad with
 | none =>
  simp only[Builtin.firstCells,vj,Result.ok.injEq,and_true]at hval;have hn:ns=[]:=by
   have:=congrArg Array.size hval;simp at this;exact Sw.1 this.symm
  subst hn;simp[execOp,ho,hv,run_convert_bytes_string w sr ds e none _ cap h1 h2 h3,Conv.bytesToString]
  try rfl
 | some ad =>
  simp only[Builtin.firstCells,AA]at hval;simp[execOp,ho,hv,run_convert_bytes_string w sr ds e (some ad) _ cap h1 h2 h3,run_bytesToString w ad _ cap ns hval,foldl_push_bytes]
  try rfl
def afx(s:aT c bl g h a w){f f':FuncId}{first caps:Array Operand}{cv:List IV}(ho:o.op = .makeFunc (.func f) first caps)(hf:fnI f'=f/\Zq f'=first.size)(hc:TE (first.toList++caps.toList)=some cv)
  (hp:∀v∈cv,TG (val g v)=true):bu P c o a w g h (.fn f' (cv.map (val g))) .no:=by
 have h1:=Ia s hc;obtain⟨hf1,hf2⟩:=hf
 refine bu.pure s (r:=.func (.func f) (first.map a.eval) (caps.map a.eval)) (by
  simp only[execOp,ho,Instr.makeFunc];rfl) ⟨(first.toList++caps.toList).map a.eval,?_,?_⟩
 .have e1:(first.toList.map a.eval).length=first.size:=by simp
  have e2:first.map a.eval=(first.toList.map a.eval).toArray:=by apply Array.toList_inj.1;simp
  have e3:caps.map a.eval=(caps.toList.map a.eval).toArray:=by apply Array.toList_inj.1;simp
  rw[hf1,hf2,dY,List.take_left' e1,List.drop_left' e1,e2,e3]
 refine h1.mono λu x hm hr=>?_;obtain⟨v,hv,rfl⟩:=fb.1 hm;have e1:=hp v hv;generalize val g v=y at*;cases y<;>first|(simp[TG]at e1;done)|exact hr
end
section
variable{P:Program}{c:sV}{bl:Nat->Option Nat}{g:Nat->AV}{h:Nat->Option au}{a:Act}{w:World}{o:Oper}
def zT(e:TypeId)(st:List UInt8)(w:World):∃cp w',(Conv.stringToBytes e ⟨st.toArray⟩).run P w = .ok (.slice (some ⟨w.heap.size,0,none⟩) st.length cp) w'/\st.length<=cp /\
  w'.heap=w.heap.push (.cells ((st.map λb=>Value.int .u8 b.toNat).toArray++Array.replicate (cp-st.length) (.int .u8 0)) e (cp,cp+1))/\w'.os=w.os/\w'.output=w.output:=by
 have hsize:(ByteArray.mk st.toArray).size=st.length:=by simp[ByteArray.size]
 have hdat:((ByteArray.mk st.toArray).data.map λb=>Value.int .u8 b.toNat)=(st.map λb=>Value.int .u8 b.toNat).toArray:=by simp
 refine⟨st.length+(w.tape w.drawn (.appendCap st.length 0 e))%(2^63-st.length),?_⟩;generalize hcp:st.length+(w.tape w.drawn (.appendCap st.length 0 e))%(2^63-st.length)=cp;have hle:st.length<=cp:=by omega
 have hch:(choose (.appendCap st.length 0 e)).run P w = .ok cp w.drew:=by
  rw[run_choose];simp only[Question.forced,Question.cut,hcp];rfl
 generalize hcs:((st.map λb=>Value.int .u8 b.toNat).toArray++Array.replicate (cp-st.length) (.int .u8 0))=cs;have hcsz:cs.size=cp:=by rw[<-hcs];simp;omega
 refine⟨(w.drew.alloc (.cells cs e)).freeze {block:=w.heap.size,off:=cp} 1,?_,hle,?_,rfl,rfl⟩
 .have hsh:(w.drew.alloc (.cells cs e)).shape? w.heap.size=some (e,cp):=by
   have:(w.drew.alloc (.cells cs e)).heap[w.heap.size]?=some (.cells cs e (0,0)):=by simp[World.alloc,World.drew,-World.alloc_eq,-World.drew_eq]
   unfold World.shape?;rw[this];simp[hcsz]
  unfold Conv.stringToBytes;simp only[hsize,mq,hch,ny,hdat,hcs,newRow,run_newObj,World.size_drew,vj,World.alloc_eq,markStringish,run_shape,hsh,run_freeze]
 .show(if 1=0 then _ else _:World).heap=_;rw[an (by decide)];apply Array.ext_getElem?;intro k;show((w.heap.push (.cells cs e (0,0))).modify w.heap.size _)[k]? = _;rw[Bu,Fq,Fq];by_cases hk:w.heap.size=k
  .subst hk;simp
  .have hk':¬k=w.heap.size:=λe=>hk e.symm;simp[hk,hk']
def afr(s:aT c bl g h a w){d:Nat}{sr ds e:TypeId}{x:Operand}{xv:IV}(ho:o.op = .convert sr ds x)(h1:P.underlying sr=some .string)(h2:P.underlying e=some (.int .u8))(h3:P.underlying ds=some (.slice e))(hx:cV x=some xv)
  {st:List UInt8} (he:val g xv = .str st) (hd:h d=none) (hu:dG d g h) (hid:d<1000\/2000<=d) :
  bu P c o a w g h (.ms d 1 0 st.length) (.new d ⟨e,1,st.map λb=>[.int .u8 b.toNat],false⟩):=by
 have r1:=bc s hx;rw[he]at r1;obtain⟨cp,w',g1,g2,g3,g4,g5⟩:=zT (P:=P) e st w;have hcv:(convert sr ds (.string ⟨st.toArray⟩)).run P w=(Conv.stringToBytes e ⟨st.toArray⟩).run P w:=by
  simp[convert,run_underlying h1,run_underlying h2,run_underlying h3]
 have ak:∀(i:Nat)(b:UInt8),st[i]?=some b->((st.map λb=>Value.int .u8 b.toNat).toArray++Array.replicate (cp-st.length) (.int .u8 0))[i]?=some (.int .u8 b.toNat):=λi b hb=>by
  have hlt:=(jh.1 hb).1;rw[Array.getElem?_append_left (by simpa using hlt)];simp[hb]
 have hsz:((st.map λ(b:UInt8)=>Value.int .u8 b.toNat).toArray++Array.replicate (cp-st.length) (Value.int .u8 0)).size=cp:=by simp;omega
 refine n_ (len:=st.length) (cap:=cp) (w':=w') s hd hu hid ?_ g3 g4 g5 (.inr (by rw[hsz];exact aQ _)) (λi r hi=>?_) (by rw[hsz];simpa using g2) g2 (by rw[hsz];simp) (λi j r y hi hj=>?_)
 .simp only[execOp,ho,r1.str,mq,hcv,g1,ny,vj]
 .simp only[iG,eS]at hi;obtain⟨b,_,rfl⟩:=hi;rfl
 .simp only[iG,eS]at hi;obtain⟨b,hb,rfl⟩:=hi;cases j with
  | zero=>simp at hj;subst hj;exact⟨.int .u8 b.toNat,by simpa using ak i b hb,IRel.int _ _⟩
  | succ j=>simp at hj
def aft(s:aT c bl g h a w){sr ds e0 e:TypeId}{x:Operand}{xv:IV}(ho:o.op = .convert sr ds x)(h0:P.underlying sr=some (.slice e0))(h1:P.underlying ds=some (.slice e))(hsd:(sr==ds)=true)(h2:P.underlying e=some (.int .u8))(hx:cV x=some xv)
  {id st off len:Nat} {ob:au} (hxv:val g xv = .ms id st off len) (hob:h id=some ob) (hst:st=1) (host:ob.st=1) (hrec:ob.isRec=false) (hlen:0<len):bu P c o a w g h (.ms id st off len) (.put id ob):=by
 have r1:=bc s hx;rw[hxv]at r1;rcases r1 with⟨_,_,h4⟩|⟨h4,_,_⟩|⟨b,cap,c0,t0,fr0,q1,q2,q3,q4,q5⟩
 .omega
 .omega
 rcases s.heap.1 id ob hob with hn0|⟨b',g1,⟨gk,c1,fr,g2,g3,g4,g5,g6,g7⟩|hsp⟩
 .rw[hn0.2.2]at q1;cases q1
 rotate_left
 .rw[q1]at g1;cases g1;exact(hsp.ne q4).elim
 rw[q1]at g1;cases g1;have hsh:w.shape? b=some (ob.t,c1.size):=by unfold World.shape?;rw[g2]
 have hb:b<w.heap.size:=bp g2;have hrun:(execOp a.eval o).run P w = .ok (.value (.slice (some ⟨b,off*st,none⟩) len cap)) (w.freeze {block:=b,off:=c1.size} 1):=by
  have hcv:(convert sr ds (.slice (some ⟨b,off*st,none⟩) len cap)).run P w = .ok (.slice (some ⟨b,off*st,none⟩) len cap) (w.freeze {block:=b,off:=c1.size} 1):=by
   simp[convert,run_underlying h0,run_underlying h1,run_underlying h2,hsd,markStringish,run_shape,hsh,run_freeze]
  simp only[execOp,ho,q2,mq,hcv,ny,vj]
 have hheap:(w.freeze {block:=b,off:=c1.size} 1).heap=w.heap.modify b fun
   | .cells c elem (lo,hi)=>.cells c elem (if lo==hi then(c1.size,c1.size+1)else(min lo c1.size,max hi (c1.size+1)))
   | o=>o:=rfl
 have e1:(w.freeze {block:=b,off:=c1.size} 1).heap[b]?=some (.cells c1 ob.t (if fr.1==fr.2 then(c1.size,c1.size+1)else(min fr.1 c1.size,max fr.2 (c1.size+1)))):=by
  rw[hheap,Bu,az rfl,g2];rfl
 have e2:fQ c1 (if fr.1==fr.2 then(c1.size,c1.size+1)else(min fr.1 c1.size,max fr.2 (c1.size+1))):=by
  by_cases hq:fr.1=fr.2
  .rw[az (by simpa using hq)];exact .inr (aQ _)
  .rw[an (by simpa using hq)];rcases g3 with g3|g3
   .exact absurd g3 hq
   .exact .inr (by show c1.size<=min fr.1 c1.size;omega)
 have hs:=s.writeF (o':=ob) hob q1 g2 e1 e2 rfl (by rw[hheap];simp) (λb' hb'=>by
  rw[hheap,Bu,an (λe=>hb' e.symm)]) rfl rfl rfl ⟨g5,g6,g7⟩
 refine⟨_,_,bl,.inl hrun,hs,?_⟩;refine .inr (.inr ⟨b,cap,c1,ob.t,_,q1,rfl,q3,e1,?_⟩);rw[g2]at q4;cases q4;exact q5
def Uc {fn:Func} (h:fn.name = "internal/bytealg.IndexByteString"):Extern.find fn=some Extern.BytealgIndexByte.indexByte:=by
 unfold Extern.find;simp only[h];have h1:(Extern.allGenericRows.lookup "internal/bytealg.IndexByteString").isNone=true:=by decide +kernel
 have h2:(Extern.allTypedRows.lookup "internal/bytealg.IndexByteString").isNone=true:=by decide +kernel
 have h3:Extern.allRows.lookup "internal/bytealg.IndexByteString" = some Extern.BytealgIndexByte.indexByte:=by kernel_rfl
 rw[Option.isNone_iff_eq_none]at h1 h2;rw[h1,h2,h3];rfl
def afH (s:aT c bl g h a w) {cl:Call} {f:FuncId} {fn:Func} {x y:Operand} {xv yv:IV} (ho:o.op = .call cl) (hcl:cl.callee = .value (.func f)) (har:cl.args = #[x,y]) (hf:P.funcs[f]? = some fn) (hb:fn.body=none) (hnm:fn.name = "internal/bytealg.IndexByteString")
  (hnx:Extern.findNext fn=none) (hx:cV x=some xv) (hy:cV y=some yv) {v:AV} (he:Yr (val g xv) (val g yv)=some v):bu P c o a w g h v .no:=by
 have h1:=bc s hx;have h2:=bc s hy;unfold Yr at he;split at he
 case h_2=>cases he
 rename_i st n e1 e2;cases he;rw[e1]at h1;rw[e2]at h2;have e3:=h1.str;have e4:=h2.int;have hrun:=run_callFunc_extern (P:=P) (f:=f) hf (by rw[hnm];decide) (by rw[hb];rfl) hnx (Uc hnm) #[a.eval x,a.eval y] w;rw[e3,e4,run_indexByte_string]at hrun;refine bu.pure s (r:=.int .i64 (abF st n.toNat.toUInt8)) ?_ (u3 _ _);simp[execOp,ho,resolve,hcl,har,Act.eval,Deferred.ofValue,invoke,hrun,e3,e4,Result.andThen,abF]<;>simp_all [Act.eval]
def Dq:∀{ls:List LK}{xs ys:List AV}{r:Bool},lp ls xs ys=some r->xs.length=ls.length/\ys.length=ls.length
 | [],[],[],_,_=>⟨rfl,rfl⟩
 | _::_,[],_,_,h=>by simp[lp]at h
 | _::_,_::_,[],_,h=>by simp[lp]at h
 | [],_::_,_,_,h=>by simp[lp]at h
 | [],[],_::_,_,h=>by simp[lp]at h
 | l::ls,x::xs,y::ys,r,h=>by
  simp only[lp]at h;split at h
  .rename_i p q h1 h2;have:=Dq h2;simp[this.1,this.2]
  .cases h
def Kc:∀(l1 l2:List LK)(xs ys:List AV)(r:Bool),lp (l1++l2) xs ys=some r->∃p q,lp l1 (xs.take l1.length) (ys.take l1.length)=some p/\lp l2 (xs.drop l1.length) (ys.drop l1.length)=some q/\r=(p&&q)
 | [],l2,xs,ys,r,h=>⟨true,r,by simp[lp],by simpa using h,by simp⟩
 | l::l1,l2,[],ys,r,h=>by simp[lp]at h
 | l::l1,l2,x::xs,[],r,h=>by simp[lp]at h
 | l::l1,l2,x::xs,y::ys,r,h=>by
  simp only[oG,lp]at h;split at h
  case h_2=>cases h
  rename_i p q h1 h2;cases h;obtain⟨p',q',h3,h4,rfl⟩:=Kc l1 l2 xs ys q h2;exact⟨p&&p',q',by simp[lp,h1,h3],by simpa using h4,by simp[Bool.and_assoc]⟩
def Ru{x y:AV}{r:Bool}(h:lA .b x y=some r):∃p q,x = .bool p/\y = .bool q/\r=(p==q):=by
 cases x<;>cases y<;>simp only[lA,dt]at h<;>first|exact⟨_,_,rfl,rfl,h.symm⟩|cases h
def Rv{x y:AV}{r:Bool}(h:lA .i x y=some r):∃k p q,x = .int k p/\y = .int k q/\r=(p==q):=by
 cases x<;>cases y<;>simp only[lA]at h<;>first|(split at h;(rename_i hk;subst hk;cases h;exact⟨_,_,_,rfl,rfl,rfl⟩);(cases h))|cases h
def Rw{x y:AV}{r:Bool}(h:lA .s x y=some r):∃p q,x = .str p/\y = .str q/\r=(p==q):=by
 cases x<;>cases y<;>simp only[lA,dt]at h<;>first|exact⟨_,_,rfl,rfl,h.symm⟩|cases h
def Ch(P:Program)(t:TypeId)(x:AV)(xs:List AV):Prop :=
 match P.underlying t with
 | some (.struct _)=>x = .agg xs
 | _=>xs=[x]
def O0{t:TypeId}{ls:List LK}{m:Nat}(ht:qy P m t=some ls){cells:List AV}{off:Nat}(hl:((cells.drop off).take ls.length).length=ls.length) :
  ∃n x,ww P t=some n/\yB n (cells.drop off)=some x/\Ch P t x ((cells.drop off).take ls.length):=by
 have one:∀(l:LK),ls=[l]->(∀fs,P.underlying t≠some (.struct fs))->ww P t=some none->∃n x,ww P t=some n/\yB n (cells.drop off)=some x/\Ch P t x ((cells.drop off).take ls.length):=λl e h1 h2=>by
  subst e;obtain⟨y,r,hc⟩:∃y r,cells.drop off=y::r:=by
   cases hc:cells.drop off with
   | nil=>rw[hc]at hl;simp at hl
   | cons y r=>exact⟨y,r,rfl⟩
  refine⟨none,y,h2,by rw[hc];rfl,?_⟩;unfold Ch;split
  .rename_i fs h3;exact absurd h3 (h1 fs)
  .rw[hc];rfl
 have inf:∀{d:TypeDesc},P.underlying t=some d->∃i,P.info? t=some i:=λ{d} hu=>by
  obtain⟨i,hi⟩:=info_of_underlying hu;exact⟨i,hi⟩
 cases m with
 | zero=>simp[qy]at ht
 | succ m =>
  unfold qy at ht;split at ht
  .rename_i hu;cases ht;obtain⟨i,hi⟩:=inf hu;exact one _ rfl (λfs h=>by rw[hu]at h;cases h) (by simp[ww,hu,hi])
  .rename_i hu;cases ht;obtain⟨i,hi⟩:=inf hu;exact one _ rfl (λfs h=>by rw[hu]at h;cases h) (by simp[ww,hu,hi])
  .rename_i hu;cases ht;obtain⟨i,hi⟩:=inf hu;exact one _ rfl (λfs h=>by rw[hu]at h;cases h) (by simp[ww,hu,hi])
  .rename_i fs hu;split at ht
   .cases ht
   split at ht
   case h_2=>cases ht
   split at ht
   case isFalse=>cases ht
   rename_i hs;cases ht;refine⟨some ls.length,.agg ((cells.drop off).take ls.length),hs,?_,?_⟩
   .rw[yB,az (by rw[vm]at hl;omega)]
   .unfold Ch;rw[hu]
  .cases ht
def ab2(P:Program)(m:Nat):Prop:=∀(t:TypeId)(ls:List LK),qy P m t=some ls->∀(M:Nat->Prop)(bl:Nat->Option Nat)(w:World)(d:Nat)(a b:Value)(x y:AV)(xs ys:List AV)(r:Bool),
 gq bl M w a x->gq bl M w b y->Ch P t x xs->Ch P t y ys->lp ls xs ys=some r->(Op.equalIn (d+m) t a b).run P w = .ok r w
def He{m:Nat}(IH:ab2 P m){M:Nat->Prop}{d:Nat}{A B:List Value}{xs ys:List AV}(hA:bg (cJ bl M w) A xs)(hB:bg (cJ bl M w) B ys):∀(fs:List Field)(off:Nat)(ls:List LK)(r:Bool),
  Fl (qy P m) fs off=some ls->lp ls (xs.drop off) (ys.drop off)=some r->(Op.eqFields (d+m) A.toArray B.toArray fs).run P w = .ok r w
 | [],off,ls,r,h1,h2=>by
  simp only[Fl,dt]at h1;subst h1;obtain⟨e1,e2⟩:=Dq h2;cases hx:xs.drop off with
  | cons=>rw[hx]at e1;simp at e1
  | nil=>cases hy:ys.drop off with
   | cons=>rw[hy]at e2;simp at e2
   | nil =>
    rw[hx,hy]at h2;simp only[lp,dt]at h2;subst h2;simp[Op.eqFields]
 | fd::fs,off,ls,r,h1,h2=>by
  simp only[Fl]at h1;split at h1
  case isFalse=>cases h1
  rename_i hc;obtain⟨ho,hn⟩:=hc;split at h1
  case h_2=>cases h1
  rename_i l hl;split at h1
  case h_2=>cases h1
  rename_i ls' hls;cases h1;obtain⟨p,q,g1,g2,rfl⟩:=Kc l ls' _ _ r h2;obtain⟨e1,e2⟩:=Dq g1;obtain⟨n,x,t1,t2,t3⟩:=O0 hl e1;obtain⟨n',y,t4,t5,t6⟩:=O0 hl e2;obtain⟨u,u1,u2⟩:=og (w:=w) t1 hA t2;obtain⟨v,v1,v2⟩:=og (w:=w) t4 hB t5;have key:=IH fd.type l hl M bl w d u v x y _ _ p u2 v2 t3 t6 g1;rw[OE,OE]at g2;have rest:=He (d:=d) IH hA hB fs (off+l.length) ls' q hls g2;simp only[Op.eqFields,hn,ne_eq,not_false_eq_true,dR,mq,ho,u1,v1,key,ny];cases p
  .simp
  .simpa using rest
def T4:∀m,ab2 P m
 | 0=>λt ls ht=>by simp[qy]at ht
 | m+1=>λt ls ht M bl w d a b x y xs ys r ha hb fx fy h=>by
  have lf:∀(l:LK),ls=[l]->(∀fs,P.underlying t≠some (.struct fs))->∃r',lA l x y=some r'/\r=r':=λl e hn=>by
   subst e;have hx:xs=[x]:=by unfold Ch at fx;split at fx;exact absurd (by assumption) (hn _);exact fx
   have hy:ys=[y]:=by unfold Ch at fy;split at fy;exact absurd (by assumption) (hn _);exact fy
   subst hx;subst hy;simp only[lp]at h;split at h
   .rename_i p q h1 h2;cases h2;cases h;exact⟨p,h1,by simp⟩
   .cases h
  have e0:d+(m+1)=(d+m)+1:=rfl;unfold qy at ht;split at ht
  .rename_i hu;cases ht;obtain⟨r',h1,rfl⟩:=lf .b rfl (λfs h=>by rw[hu]at h;cases h);obtain⟨p,q,rfl,rfl,rfl⟩:=Ru h1;rw[e0,(gq.toV ha).bool,(gq.toV hb).bool];exact run_equalIn_bool' w _ t _ _ hu
  .rename_i k0 hu;cases ht;obtain⟨r',h1,rfl⟩:=lf .i rfl (λfs h=>by rw[hu]at h;cases h);obtain⟨k,p,q,rfl,rfl,rfl⟩:=Rv h1;rw[e0,(gq.toV ha).int,(gq.toV hb).int];exact run_equalIn_int w _ t k k0 _ _ hu
  .rename_i hu;cases ht;obtain⟨r',h1,rfl⟩:=lf .s rfl (λfs h=>by rw[hu]at h;cases h);obtain⟨p,q,rfl,rfl,rfl⟩:=Rw h1;rw[e0,(gq.toV ha).str,(gq.toV hb).str,run_equalIn_string w _ t _ _ hu];simp
  .rename_i fs hu;split at ht
   .cases ht
   rename_i hst;split at ht
   case h_2=>cases ht
   rename_i ls' hls;split at ht
   case isFalse=>cases ht
   cases ht;have hx:x = .agg xs:=by unfold Ch at fx;rw[hu]at fx;exact fx
   have hy:y = .agg ys:=by unfold Ch at fy;rw[hu]at fy;exact fy
   subst hx;subst hy;obtain⟨A,rfl,hA⟩:=ha;obtain⟨B,rfl,hB⟩:=hb;have hfs:P.fieldsOf t=fs:=by simp[Program.fieldsOf,hu]
   rw[e0,run_equalIn_struct w (d+m) t _ _ (by rw[hfs];exact hu) (by simpa using hst),hfs];exact He (T4 m) hA hB fs.toList 0 ls r hls (by simpa using h)
  .cases ht
def aaV(s:aT c bl g h a w){t t':TypeId}{fs:Array Field}{op:BinOp}{x y:Operand}{xv yv:IV}{l:LK}{ls:List LK}(ho:o.op = .binOp op t x y t')(ht:P.underlying t=some (.struct fs))(hg:P.eqGuardType P.depth t=false)(hl:qy P 20 t=some (l::ls))(hx:cV x=some xv)(hy:cV y=some yv)
  {v:AV} (he:sv op (l::ls) (val g xv) (val g yv)=some v):bu P c o a w g h v .no:=by
 have h1:=bc s hx;have h2:=bc s hy;have key:∀xs ys r,val g xv = .agg xs->val g yv = .agg ys->lp (l::ls) xs ys=some r->∃A B,a.eval x = .agg A/\a.eval y = .agg B/\(Op.equalIn 10000 t (.agg A) (.agg B)).run P w = .ok r w:=λxs ys r e1 e2 e3=>by
  rw[e1]at h1;rw[e2]at h2;have k:=T4 (P:=P) 20 t (l::ls) hl (bQ bl c.MF h) bl w 9980 (a.eval x) (a.eval y) (.agg xs) (.agg ys) xs ys r h1 h2 (by unfold Ch;rw[ht]) (by unfold Ch;rw[ht]) e3;obtain⟨A,q1,_⟩:=h1;obtain⟨B,q3,_⟩:=h2;rw[q1,q3]at k;exact⟨_,_,q1,q3,k⟩
 unfold sv at he;split at he<;>first|(cases he;done)|skip
 all_goals first|(rename_i hl _ _;cases hl;done)|skip
 .rename_i l' ls' xs ys hll e1 e2;cases hll;simp only[eS]at he;obtain⟨r,e3,rfl⟩:=he;obtain⟨A,B,q1,q2,q3⟩:=key xs ys r e1 e2 e3;exact bu.pure s (r:=.bool _) (by simp only[execOp,ho,q1,q2,mq,run_eqGuard_agg w _ t _ _ _ _ hg,run_eql_struct,q3,ny];rfl) (oa _)
 .rename_i l' ls' xs ys hll e1 e2;cases hll;simp only[eS]at he;obtain⟨r,e3,rfl⟩:=he;obtain⟨A,B,q1,q2,q3⟩:=key xs ys r e1 e2 e3;exact bu.pure s (r:=.bool _) (by simp only[execOp,ho,q1,q2,mq,run_eqGuard_agg w _ t _ _ _ _ hg,run_neq_struct,q3,ny];rfl) (oa _)
def aaP(s:aT c bl g h a w){t t':TypeId}{ps rs:Array TypeId}{vd:Bool}{op:BinOp}{x y:Operand}{xv yv:IV}(ho:o.op = .binOp op t x y t')(ht:P.underlying t=some (.func ps rs vd))(hx:cV x=some xv)(hy:cV y=some yv)
  {v:AV} (he:sv op [] (val g xv) (val g yv)=some v):bu P c o a w g h v .no:=by
 have h1:=bc s hx;have h2:=bc s hy;have nf:∀{u:Value}{M:Nat->Prop},bv bl M w u .nf->u = .nilFunc:=λhv=>by simp only[bv,gq,cJ,fB]at hv;cases hv;rfl
 have q1:∀f cs1 cs2,(Op.equal t (.func f cs1 cs2) .nilFunc).run P w = .ok false w:=λf cs1 cs2=>by
  have h1:(Op.equalIn (9999+1) t (.func f cs1 cs2) .nilFunc).run P w = .ok false w:=by unfold Op.equalIn;simp[underlying,ht]
  exact h1
 have q2:(Op.equal t .nilFunc .nilFunc).run P w = .ok true w:=by
  have h1:(Op.equalIn (9999+1) t .nilFunc .nilFunc).run P w = .ok true w:=by unfold Op.equalIn;simp[underlying,ht]
  exact h1
 unfold sv at he;split at he<;>first|(cases he;done)|skip
 all_goals first|(rename_i hl _ _;cases hl;done)|skip
 .rename_i f cs e1 e2;rw[e1]at h1;rw[e2]at h2;obtain⟨cs',h3,_⟩:=h1;cases he;exact bu.pure s (r:=.bool _) (by simp only[execOp,ho,h3,nf h2,eqGuard,binOp];simp[q1]) (oa _)
 .rename_i f cs e1 e2;rw[e1]at h1;rw[e2]at h2;obtain⟨cs',h3,_⟩:=h1;cases he;exact bu.pure s (r:=.bool _) (by simp only[execOp,ho,h3,nf h2,eqGuard,binOp];simp[q1]) (oa _)
 .rename_i e1 e2;rw[e1]at h1;rw[e2]at h2;cases he;exact bu.pure s (r:=.bool _) (by simp only[execOp,ho,nf h1,nf h2,eqGuard,binOp];simp[q2]) (oa _)
 .rename_i e1 e2;rw[e1]at h1;rw[e2]at h2;cases he;exact bu.pure s (r:=.bool _) (by simp only[execOp,ho,nf h1,nf h2,eqGuard,binOp];simp[q2]) (oa _)
def abK(s:aT c bl g h a w){st:Nat}{y:Operand}{yv:IV}(hy:cV y=some yv){rows:List (List AV)}(hr:jJ st h (val g yv)=some rows)(k:Nat)(hk:k<=rows.length) :
  ∃ys:List Value,(∀w':World,(Builtin.lenOf (a.eval y)).run P w' = .ok rows.length w')/\(∀w':World,w'.heap=w.heap->(Builtin.firstCells st k (a.eval y)).run P w' = .ok ys.toArray w')/\vK (bQ bl c.MF h) w st ys (rows.take k):=by
 have h1:=bc s hy;have tk:∀{rows:List (List AV)}{i:Nat}{r:List AV},(rows.take k)[i]?=some r->rows[i]?=some r:=λ{rows i r} hi=>by
  rw[Fw]at hi;split at hi
  .exact hi
  .cases hi
 have nil:∀{v:Value},v = .slice none 0 0->∃ys:List Value,(∀w':World,(Builtin.lenOf v).run P w' = .ok ([]:List (List AV)).length w')/\(∀w':World,w'.heap=w.heap->(Builtin.firstCells st k v).run P w' = .ok ys.toArray w')/\vK (bQ bl c.MF h) w st ys (([]:List (List AV)).take k):=λ{v} hv=>by
  subst hv;exact⟨[],(Db (P:=P) (w:=w) st).len,λw' _=>by simp[Builtin.firstCells],by simpa using kN st⟩
 have emp:∀{ad:Addr}{cap:Nat},k=0->∃ys:List Value,(∀w':World,(Builtin.lenOf (.slice (some ad) 0 cap)).run P w' = .ok ([]:List (List AV)).length w')/\(∀w':World,w'.heap=w.heap->(Builtin.firstCells st k (.slice (some ad) 0 cap)).run P w' = .ok ys.toArray w')/\vK (bQ bl c.MF h) w st ys (([]:List (List AV)).take k):=λ{ad cap} hk=>by
  subst hk;exact⟨[],(vH (P:=P) (w:=w) st ad cap).len,(vH (P:=P) (w:=w) st ad cap).vals,by simpa using kN st⟩
 cases hval:val g yv<;>rw[hval]at hr h1<;>simp only[jJ]at hr<;>try cases hr
 case nl=>exact nil h1.nl
 case sl st' rows' =>
  split at hr
  case isFalse=>cases hr
  rename_i hst;subst hst;cases hr;generalize hu:a.eval y=u at h1;have h2:=h1.sl;cases h2 with
  | nls=>exact nil rfl
  | sl0 st ad cap=>exact emp (by simpa using hk)
  | sl b off cap st c1 t1 fr rows vs hb hM hl hrl hv hx =>
   obtain⟨ys,h3,h4⟩:=qu (P:=P) (M:=bQ bl c.MF h) (off:=off) (rows:=rows.take k) hb (λi r hi=>hrl i r (tk hi)) (λi j r x hi hj=>⟨vs i j,hv i j (jh.1 (tk hi)).1 (by rw[<-hrl i r (tk hi)];exact(jh.1 hj).1),hx i j r x (tk hi) hj⟩);rw[vm,MG hk]at h4;exact⟨ys,λw'=>by simp[Builtin.lenOf],λw' hw=>by simp[Builtin.firstCells,h4 w' hw],h3⟩
 case ms id st' off len =>
  split at hr
  case h_2=>cases hr
  rename_i ob hob;split at hr
  case isFalse=>cases hr
  rename_i hcond;obtain⟨rfl,hst,hrec,hfit⟩:=hcond;cases hr;have hlen:((ob.rows.drop off).take len).length=len:=by simp;omega
  rcases h1 with⟨h2,h3,h4⟩|⟨h2,h3,ad,cap,h4⟩|⟨b,cap,c1,t1,fr,h2,h3,h4,h5,h6⟩
  .subst h3 h4;simp only[jK];exact nil h2
  .subst h2;rw[h4];simp only[jK];exact emp (by simpa using hk)
  .rcases s.heap.1 id ob hob with hn0|⟨b',g2,⟨_,c2,fr2,g3,g4,g5,g6,g7,g8⟩|hsp⟩
   .rw[hn0.2.2]at h2;cases h2
   rotate_left
   .rw[h2]at g2;cases g2;exact(hsp.ne h5).elim
   rw[h2]at g2;cases g2;have getr:∀(i:Nat)(r:List AV),(((ob.rows.drop off).take len).take k)[i]?=some r->ob.rows[off+i]?=some r:=λi r hi=>by
    have hi:=tk hi;rw[Fw]at hi;split at hi
    .simpa using hi
    .cases hi
   obtain⟨ys,q3,q4⟩:=qu (P:=P) (M:=bQ bl c.MF h) (w:=w) (off:=off*st') (st:=st') (rows:=((ob.rows.drop off).take len).take k) g3 (λi r hi=>by rw[<-hst];exact g6 _ _ (getr i r hi)) (λi j r x hi hj=>by
    obtain⟨v,hv,hrl⟩:=g8 _ _ _ _ (getr i r hi) hj;rw[hrec]at hrl;refine⟨v,?_,hrl⟩;rw[<-hv,hst,lE])
   rw[vm,MG hk]at q4;refine⟨ys,?_,?_,q3⟩
   .rw[h3,hlen];exact λw'=>by simp[Builtin.lenOf]
   .rw[h3];exact λw' hw=>by simp[Builtin.firstCells,q4 w' hw]
def afq(s:aT c bl g h a w){t t' e:TypeId}{st:Nat}{cl:Call}{x y:Operand}{xv:IV}(ho:o.op = .call cl)(hcl:cl.callee = .builtin .copy)(hat:cl.argTypes = #[t,t'])(har:cl.args = #[x,y])(ht:P.underlying t=some (.slice e))(hn:jo P e=some st)
  (hx:cV x=some xv) {id off len:Nat} (hxv:val g xv = .ms id st off len) {ob:au} (hob:h id=some ob) (hst:ob.st=st) (hrec:ob.isRec=false) (hfit:off+len<=ob.rows.length)
  {yrows:List (List AV)} {ys:List Value} (N:Nat) (hlen:∀w':World,(Builtin.lenOf (a.eval y)).run P w' = .ok N w') (hN:Nat.min N len=yrows.length) (hvals:∀w':World,w'.heap=w.heap->(Builtin.firstCells st yrows.length (a.eval y)).run P w' = .ok ys.toArray w') (hy:(∀(i:Nat)(r:List AV),yrows[i]?=some r->r.length=st)/\ys.length=yrows.length*st /\
   ∀(i j:Nat)(r:List AV)(x:AV),yrows[i]?=some r->r[j]?=some x->∃v,ys[i*st+j]?=some v/\IRel (bQ bl c.MF h) w v x) (hle:yrows.length<=len) :
  bu P c o a w g h (.int .i64 yrows.length) (.put id {ob with rows:=ob.rows.take off++yrows++ob.rows.drop (off+yrows.length)}):=by
 have h1:=bc s hx;rw[hxv]at h1;have hsz:(sizeOf e).run P w = .ok st w:=zV hn;have hund:(underlying t).run P w = .ok (.slice e) w:=by simp[underlying,ht]
 have key:∀(base:Option Addr)(cap:Nat)(w':World),a.eval x = .slice base len cap->(match base with|some ad=>(storeCells ad ys).run P w = .ok () w'|none=>w'=w)->(execOp a.eval o).run P w = .ok (.value (.int .i64 yrows.length)) w':=by
  intro base cap w' hv hstore;have hmin:Nat.min N len=yrows.length:=hN;have e1:=hlen w;have e2:=hvals w rfl;cases base with
  | none=>subst hstore;simp[execOp,ho,resolve,hcl,har,hat,invoke,builtin,Builtin.copy_,hund,hv,e1,hmin,hsz,e2,goInt]
  | some ad=>simp[execOp,ho,resolve,hcl,har,hat,invoke,builtin,Builtin.copy_,hund,hv,e1,hmin,hsz,e2,hstore,goInt]
 subst hst;have empty:yrows=[]->∀base cap,a.eval x = .slice base len cap->bu P c o a w g h (.int .i64 yrows.length) (.put id {ob with rows:=ob.rows.take off++yrows++ob.rows.drop (off+yrows.length)}):=by
  rintro rfl base cap hv;have hys:ys=[]:=Sw.1 (by simpa using hy.2.1);subst hys;have eo:({ob with rows:=ob.rows.take off++[]++ob.rows.drop (off+([]:List (List AV)).length)}:au)=ob:=by simp
  rw[eo];refine⟨_,w,bl,.inl (key base cap w hv ?_),s.congr (λ_=>rfl) (λj=>?_),?_⟩
  .cases base with
   | none=>rfl
   | some ad=>simp[storeCells]
  .by_cases hj:j=id
   .subst hj;simp[bD.hp,fA,hob]
   .simp[bD.hp,fA,hj]
  .exact u3 _ _
 rcases h1 with⟨h2,_,h4⟩|⟨h4,_,ad,cap,h2⟩|⟨b,cap,c0,t0,fr0,h2,h3,h4,h5,h6⟩
 .subst h4;exact empty (Sw.1 (by omega)) _ _ h2
 .subst h4;exact empty (Sw.1 (by omega)) _ _ h2
 rcases s.heap.1 id ob hob with hn0|⟨b',q2,⟨gk,c1,fr,q3,q4,q5,q6,q7,q8⟩|hsp⟩
 .rw[hn0.2.2]at h2;cases h2
 rotate_left
 .rw[h2]at q2;cases q2;exact(hsp.ne h5).elim
 rw[h2]at q2;cases q2;have hspace:off*ob.st+ys.length<=c1.size:=by
  rw[hy.2.1,<-lE];exact gD (qB _ (by omega)) q7
 have hone:∀v∈ys,nv v:=λv hv=>by
  obtain⟨k,hk⟩:=List.getElem?_of_mem hv;have hlt:k<yrows.length*ob.st:=by rw[<-hy.2.1];exact(jh.1 hk).1
  have hpos:0<ob.st:=Nat.pos_of_ne_zero λh0=>by rw[h0]at hlt;omega
  have hi:k/ob.st<yrows.length:=Nat.div_lt_of_lt_mul (by rw[Nat.mul_comm];exact hlt);have hr:=hy.1 _ _ (kS hi);have hj:k%ob.st<(yrows[k/ob.st]).length:=by rw[hr];exact Nat.mod_lt _ hpos
  obtain⟨v',q9,q10⟩:=hy.2.2 _ _ _ _ (kS hi) (kS hj);rw[Nat.mul_comm,Nat.div_add_mod,hk]at q9;cases q9;exact q10.one
 have hst':=mB (P:=P) (w:=w) (b:=b) (off:=off*ob.st) (vs:=ys) q3 q4 hspace hone;obtain⟨c2,g1,g2,g3,g4,g5,g6,g7⟩:=lK b ys (off*ob.st) w q3 hspace;have hl3:(ob.rows.take off++yrows++ob.rows.drop (off+yrows.length)).length=ob.rows.length:=by
  simp only[dN,vm,Su];omega
 have hrow:∀i:Nat,(ob.rows.take off++yrows++ob.rows.drop (off+yrows.length))[i]? = if off<=i/\i<off+yrows.length then yrows[i-off]? else ob.rows[i]?:=λi=>by
  have hlt:(ob.rows.take off).length=off:=by simp;omega
  rcases kU i off with g8|g8
  .rw[an (by omega),vk,MH (by omega),List.getElem?_take_of_lt g8]
  .rcases kU i (off+yrows.length)with g9|g9
   .rw[az ⟨g8,g9⟩,MH (by simp;omega),Ay (by omega),hlt]
   .rw[an (by omega),Ay (by simp;omega),J1];congr 1;simp;omega
 have hs:=s.write (o':={ob with rows:=ob.rows.take off++yrows++ob.rows.drop (off+yrows.length)}) hob h2 q3 g1 g2 g4 g5 g6 g7 rfl ⟨λi q hq=>by
   simp only at hq⊢;rw[hrow]at hq;split at hq
   .exact hy.1 _ _ hq
   .exact q6 _ _ hq,by simp only[hl3];rw[g2];exact q7,λi j q z hq hz=>by
   simp only at hq hz⊢;rw[hrow]at hq;have hj:j<ob.st:=by
    split at hq
    .rw[<-hy.1 _ _ hq];exact(jh.1 hz).1
    .rw[<-q6 _ _ hq];exact(jh.1 hz).1
   have hin:(off*ob.st<=i*ob.st+j/\i*ob.st+j<off*ob.st+ys.length)↔(off<=i/\i<off+yrows.length):=by
    rw[hy.2.1];constructor
    .rintro⟨a1,a2⟩;refine⟨Nat.le_of_not_lt λhlt=>?_,Nat.lt_of_not_le λhle=>?_⟩
     .have:=qB ob.st (show i+1<=off by omega);rw[lE]at this;omega
     .have:=qB ob.st hle;rw[lE]at this;omega
    .rintro⟨a1,a2⟩;have b1:=qB ob.st a1;have b2:=qB ob.st (show i+1<=off+yrows.length by omega);rw[lE,lE]at b2;omega
   rw[g3];split at hq
   .rename_i hc;rw[az (hin.2 hc)];obtain⟨v,w1,w2⟩:=hy.2.2 _ _ _ _ hq hz;refine⟨v,?_,?_⟩
    .rw[<-w1];congr 1;have:=qB ob.st hc.1;rw[Nat.sub_mul];omega
    .rw[hrec];exact w2
   .rename_i hc;rw[an (λhh=>hc (hin.1 hh))];exact q8 _ _ _ _ hq hz⟩
 exact⟨_,_,bl,.inl (key _ _ _ h3 hst'),hs,u3 _ _⟩
end
def gu:ln->Bool
 | .new ..=>true
 | .box ..=>true
 | .bsl ..=>true
 | .app ..=>true
 | .apps ..=>true
 | .cvb ..=>true
 | .mks ..=>true
 | .mop .rng _=>true
 | .mop .mkm _=>true
 | _=>false
section
variable{P:Program}{c:sV}{bl:Nat->Option Nat}{g:Nat->AV}{h:Nat->Option au}{a:Act}{w:World}{o:Oper}
def bW{x:Option AV}{v:AV}{e:bD}(h:res x=some (v,e)):x=some v/\e = .no:=by
 unfold res at h;simp only[eS,vn]at h;obtain⟨y,h1,rfl,rfl⟩:=h;exact⟨h1,rfl⟩
def Qz{α:Type}{x:Array α}{t:α}(h:x.toList=[t]):x = #[t]:=by cases x;simp_all
def H8{α:Type}{x:Array α}{t u:α}(h:x.toList=[t,u]):x = #[t,u]:=by cases x;simp_all
def CZ{f:Nat->au->Option (AV×bD)}{v r:AV}{e:bD}{h:Nat->Option au}(hq:∃id,v = .mm id true/\(h id).bind (f id)=some (r,e)):∃id ob,v = .mm id true/\h id=some ob/\f id ob=some (r,e):=by
 obtain⟨id,h1,h2⟩:=hq;simp only[vl]at h2;obtain⟨ob,h3,h4⟩:=h2;exact⟨id,ob,h1,h3,h4⟩
def MW(s:aT c bl g h a w){op:ln}(hc:k_ P o.op=some op){d:Nat}{x:AV}{e:bD}(he:cj d op (val g) h=some (x,e))
  (hnew:gu op=true->h d=none/\dG d g h/\(d<1000\/2000<=d)):bu P c o a w g h x e:=by
 generalize hoo:o.op=oo at hc;cases oo with
 | move y =>
  simp only[k_,eS]at hc;obtain⟨v,h1,rfl⟩:=hc;simp only[cj,dt,vn]at he;obtain⟨rfl,rfl⟩:=he;exact We s (.inl hoo) h1
 | assign y =>
  simp only[k_,eS]at hc;obtain⟨v,h1,rfl⟩:=hc;simp only[cj,dt,vn]at he;obtain⟨rfl,rfl⟩:=he;exact We s (.inr hoo) h1
 | pick q y z =>
  simp only[k_]at hc;split at hc
  case h_2=>cases hc
  rename_i qv yv zv h1 h2 h3;cases hc;exact aaU s hoo h1 h2 h3 (by simpa[cj]using he)
 | alloc t =>
  simp only[k_,eS]at hc;obtain⟨z,h1,rfl⟩:=hc;simp only[cj,dt,vn]at he;obtain⟨rfl,rfl⟩:=he;obtain⟨n1,n2,n3⟩:=hnew rfl;exact afE s hoo h1 n1 n2 n3
 | box t y =>
  simp only[k_]at hc;split at hc
  case h_2=>cases hc
  rename_i n yv h1 h2;cases hc;simp only[cj]at he;split at he
  case h_2=>cases he
  rename_i cs h3;split at he
  case isFalse=>cases he
  rename_i hcond;obtain⟨rfl,h4⟩:=hcond;cases he;obtain⟨n1,n2,n3⟩:=hnew rfl;exact afo s hoo h2 h3 (λy hy=>by simpa using ii.1 h4 y hy) n1 n2 n3
 | build t parts =>
  simp only[k_]at hc;split at hc
  case h_3=>cases hc
  case h_2 =>
   rename_i n e ht;split at hc
   case h_2=>cases hc
   rename_i z ie h1 h2;split at hc
   case isFalse=>cases hc
   rename_i hp;cases hc;simp only[cj,mw,fR]at he;obtain⟨hz,rfl⟩:=bW he;cases hz;exact RF s hoo ht h1 h2 (by simpa using hp)
  rename_i fs ht;split at hc
  case h_2=>cases hc
  rename_i z places h1 h2;simp only[eS]at hc;obtain⟨ps,h3,rfl⟩:=hc;simp only[cj]at he;obtain⟨hz,rfl⟩:=bW he;simp only[eS]at hz;obtain⟨out,h4,rfl⟩:=hz;exact Wc s hoo ht h1 h2 h3 h4
 | buildSlice t len parts =>
  simp only[k_]at hc;split at hc
  case h_2=>cases hc
  rename_i e' ht;split at hc
  case h_2=>cases hc
  rename_i z n ps h1 h2 h3;split at hc
  case isFalse=>cases hc
  rename_i hcond;obtain⟨h4,h5,h7⟩:=hcond;cases hc;simp only[cj]at he;split at he
  case h_2=>cases he
  rename_i rs h8;cases he;obtain⟨n1,n2,n3⟩:=hnew rfl;exact afp s hoo ht h1 h2 h3 h4 h5 h7 h8 n1 n2 n3
 | load t p =>
  simp only[k_]at hc;split at hc
  case h_2=>cases hc
  rename_i n pv h1 h2;cases hc;simp only[cj]at he;obtain⟨hz,rfl⟩:=bW he;exact aaR s hoo h1 h2 hz
 | store t p y =>
  simp only[k_]at hc;split at hc
  case h_2=>cases hc
  rename_i n pv yv h1 h2 h3;cases hc;simp only[cj,eS,vn]at he;obtain⟨e',h4,rfl,rfl⟩:=he;exact Wg s hoo h1 h2 h3 h4
 | nilCheck y =>
  simp only[k_,eS]at hc;obtain⟨yv,h1,rfl⟩:=hc;simp only[cj]at he;split at he<;>try cases he
  .rename_i id st row off hv;have:=Jv (P:=P) s hoo h1 (.inl ⟨id,st,row,off,hv⟩);rwa[hv]at this
  .rename_i cells hv;have:=Jv (P:=P) s hoo h1 (.inr (.inl ⟨cells,hv⟩));rwa[hv]at this
  .rename_i f caps hv;have:=Jv (P:=P) s hoo h1 (.inr (.inr ⟨f,caps,hv⟩));rwa[hv]at this
 | binOp op' t y z t' =>
  simp only[k_]at hc;split at hc
  case h_2=>cases hc
  rename_i yv zv h1 h2;unfold Km at hc;split at hc
  .cases hc;simp only[cj]at he;obtain⟨hz,rfl⟩:=bW he;exact aaM s hoo (by assumption) h1 h2 (by assumption)
  .cases hc;simp only[cj]at he;obtain⟨hz,rfl⟩:=bW he;exact Wb s hoo h1 h2 (by assumption)
  .cases hc;simp only[cj]at he;obtain⟨hz,rfl⟩:=bW he;exact Wb s hoo h1 h2 (by assumption)
  .cases hc;simp only[cj]at he;obtain⟨hz,rfl⟩:=bW he;exact aaT s hoo (by assumption) h1 h2 (by assumption)
  .cases hc;simp only[cj]at he;obtain⟨hz,rfl⟩:=bW he;exact aaP s hoo (by assumption) h1 h2 (by assumption)
  .split at hc
   .cases hc
   rename_i hg;split at hc
   case h_2=>cases hc
   rename_i l ls hls;cases hc;simp only[cj]at he;obtain⟨hz,rfl⟩:=bW he;exact aaV s hoo (by assumption) (by simpa using hg) hls h1 h2 (by assumption)
  .rename_i e' ht;split at hc
   .cases hc;simp only[cj]at he;obtain⟨hz,rfl⟩:=bW he;exact NY s hoo ht (.inl ⟨rfl,rfl⟩) h1 h2 hz
   .cases hc;simp only[cj]at he;obtain⟨hz,rfl⟩:=bW he;exact NY s hoo ht (.inr ⟨rfl,rfl⟩) h1 h2 hz
   .cases hc
  .cases hc
 | unOp op' t y =>
  simp only[k_,eS]at hc;obtain⟨yv,h1,rfl⟩:=hc;simp only[cj]at he;obtain⟨hz,rfl⟩:=bW he;exact ai8 s hoo h1 hz
 | convert sr ds y =>
  simp only[k_]at hc;split at hc
  case h_2=>cases hc
  rename_i yv h1;unfold Kn at hc;split at hc
  .rename_i k' k h2 h3;cases hc;simp only[cj]at he;split at he
   case h_2=>cases he
   rename_i kk n hv;cases he;exact afs s hoo h2 h3 h1 hv
  .rename_i h2 h3;cases hc;simp only[cj]at he;split at he
   case h_2=>cases he
   rename_i st hv;cases he;have:=aaN (P:=P) s hoo h2 h3 h1 hv;rwa[hv]at this
  .rename_i e' h2 h3;split at hc
   case h_2=>cases hc
   rename_i h4;cases hc;simp only[cj]at he;split at he
   case h_2=>cases he
   rename_i rows h5;obtain⟨hz,rfl⟩:=bW he;simp only[eS]at hz;obtain⟨bs,h6,rfl⟩:=hz;exact afu s hoo h2 h4 h3 h1 h5 h6
  .rename_i e' h2 h3;split at hc
   case h_2=>cases hc
   rename_i h4;cases hc;simp only[cj]at he;split at he
   case h_2=>cases he
   rename_i st hv;split at he
   case isFalse=>cases he
   cases he;obtain⟨n1,n2,n3⟩:=hnew rfl;exact afr s hoo h2 h4 h3 h1 hv n1 n2 n3
  .rename_i e0 e' h2 h3;split at hc
   case h_2=>cases hc
   rename_i hsd h4;cases hc;simp only[cj]at he;obtain⟨id,st,off,len,ob,q1,q2,q3,q4,q5,q6,rfl,rfl⟩:=uq he;exact aft s hoo h2 h3 hsd h4 h1 q1 q2 q3 q4 q5 q6
  .cases hc
 | makeFunc fn first caps =>
  cases fn<;>simp only[k_]at hc<;>try cases hc
  rename_i f;split at hc
  case isFalse=>cases hc
  rename_i hf;simp only[eS]at hc;obtain⟨cv,h1,rfl⟩:=hc;simp only[cj]at he;split at he
  case isFalse=>cases he
  rename_i hall;cases he;exact afx s hoo hf h1 (λv hv=>ii.1 hall (val g v) (fb.2 ⟨v,hv,rfl⟩))
 | makeSlice t l cp =>
  simp only[k_]at hc;split at hc
  case h_2=>cases hc
  rename_i e' st lv cv h1 h2 h3;simp only[eS]at hc;obtain⟨z,h4,rfl⟩:=hc;simp only[cj]at he;split at he
  case h_2=>cases he
  rename_i n m h5 h6;split at he
  case isFalse=>cases he
  rename_i hcond;obtain⟨q1,q2,q3,q4⟩:=hcond;cases he;obtain⟨n1,n2,n3⟩:=hnew rfl;exact afz s hoo h1 h4 h2 h3 h5 h6 q1 q2 q3 q4 n1 n2 n3
 | slice t y lo hi mx =>
  simp only[k_]at hc;split at hc
  .rename_i e' yv lov hiv mxv h1 h2 h3 h4 h5;split at hc
   case isFalse=>cases hc
   rename_i hb;simp only[eS]at hc;obtain⟨n,h6,rfl⟩:=hc;simp only[cj]at he;obtain⟨hz,rfl⟩:=bW he
   exact afI s hoo h1 h6 h2 h3 h4 h5 (by
    intro hm;cases mx<;>simp_all) hz
  .rename_i yv lov hiv h1 h2 h3 h4 h5;cases hc;simp only[cj]at he;obtain⟨hz,rfl⟩:=bW he;have hm:mx=none:=by
    cases mx with
    | none=>rfl
    | some q=>simp[vM]at h5
   subst hm;exact aaY s hoo h1 h2 h3 h4 hz
  .cases hc
 | fieldAddr t y f =>
  simp only[k_]at hc;split at hc
  case h_2=>cases hc
  rename_i fs yv h1 h2;split at hc
  case h_2=>cases hc
  rename_i fd h3;split at hc
  case h_2=>cases hc
  rename_i n h4;cases hc;simp only[cj]at he;obtain⟨hz,rfl⟩:=bW he;exact aaO s hoo h1 h3 h4 rfl h2 hz
 | field t y f =>
  simp only[k_]at hc;split at hc
  case h_2=>cases hc
  rename_i fs yv h1 h2;split at hc
  case h_2=>cases hc
  rename_i fd h3;simp only[eS]at hc;obtain⟨n,h4,rfl⟩:=hc;simp only[cj]at he;obtain⟨hz,rfl⟩:=bW he;exact afw s hoo h1 h3 h4 rfl h2 hz
 | indexAddr t y i =>
  simp only[k_]at hc;split at hc
  case h_3=>cases hc
  case h_1 =>
   rename_i e' yv iv h1 h2 h3;simp only[eS]at hc;obtain⟨n,h4,rfl⟩:=hc;simp only[cj]at he;obtain⟨hz,rfl⟩:=bW he;exact aaQ s hoo h1 h4 h2 h3 hz
  case h_2 =>
   rename_i len e' yv iv h1 h2 h3;simp only[eS]at hc;obtain⟨n,h4,rfl⟩:=hc;simp only[cj]at he;obtain⟨hz,rfl⟩:=bW he;exact aaL s hoo h1 h4 h2 h3 hz
 | index t y i =>
  simp only[k_]at hc;split at hc
  case h_2=>cases hc
  rename_i yv iv h1 h2 h3;cases hc;simp only[cj]at he;split at he
  case h_2=>cases he
  rename_i st k n h4 h5;split at he
  case isFalse=>cases he
  rename_i h0;split at he
  case h_2=>cases he
  rename_i b hb;cases he;exact aaW s hoo h1 h2 h3 h4 h5 h0 hb
 | extract y i =>
  simp only[k_,eS]at hc;obtain⟨yv,h1,rfl⟩:=hc;simp only[cj]at he;split at he
  case h_2=>cases he
  rename_i vs hv;obtain⟨hz,rfl⟩:=bW he;exact afv s hoo h1 hv hz
 | call cl =>
  simp only[k_]at hc;unfold BU at hc;split at hc
  .rename_i f hcl;split at hc
   .simp only[eS]at hc;obtain⟨_,_,rfl⟩:=hc;simp[cj]at he
   .obtain⟨fn,y,z,yv,zv,q1,q2,q3,q4,q5,q6,q7,rfl⟩:=uu hc;simp only[cj]at he;obtain⟨hz,rfl⟩:=bW he;exact afH s hoo hcl (H8 q5) q1 q2 q3 q4 q6 q7 hz
  .split at hc
   .simp only[eS]at hc;obtain⟨_,_,rfl⟩:=hc;simp[cj]at he
   .cases hc
  .cases hc
  .cases hc
  .rename_i hcl;split at hc
   case h_2=>cases hc
   rename_i t y h1 h2;split at hc<;>(try cases hc)<;>simp only[eS]at hc<;>obtain⟨yv,h3,rfl⟩:=hc<;>simp only[cj]at he
   .obtain⟨hz,rfl⟩:=bW he;rename_i e' ht;exact ok_len s hoo hcl (Qz h1) (Qz h2) ht h3 hz
   .obtain⟨hz,rfl⟩:=bW he;rename_i ht;exact aaX s hoo hcl (Qz h1) (Qz h2) ht h3 hz
   .rename_i ht;simp only[cM,eA]at he;cases hv:val g yv<;>rw[hv]at he<;>simp only[nj]at he<;>try cases he
    rename_i id k;cases k<;>simp only[nj]at he<;>try cases he
    simp only[vl,eS]at he;obtain⟨ob,h4,es,h5,h6⟩:=he;cases h6;exact afB s hoo hcl (Qz h1) (Qz h2) ht h3 hv h4 h5
  .rename_i hcl;split at hc
   case h_2=>cases hc
   rename_i t t' y z h1 h2;have fin:∀{e':TypeId}{st:Nat}{yv zv:IV}{src:Option (List (List AV))},sw P t=some (e',st)->((∃e'',P.underlying t'=some (.slice e''))\/P.underlying t'=some .string)->cV y=some yv ->
     (∀rows,src=some rows->∃ys,XY P w st (a.eval z) rows.length ys/\vK (bQ bl c.MF h) w st ys rows)->qW d e' st (val g yv) src h=some (x,e)->h d=none->dG d g h->(d<1000\/2000<=d)->bu P c o a w g h x e:=by
    intro e' st yv zv src hap ht' hy hsrc he n1 n2 n3;unfold qW at he;split at he
    case h_1=>cases he
    rename_i ys;split at he
    case isFalse=>cases he
    rename_i hbig;obtain⟨vs,hs,hyr⟩:=hsrc ys rfl;split at he
    .rename_i hv;cases he;exact NW s hoo hcl (H8 h1) (H8 h2) hap ht' hy hv hs hyr hbig n1 n2 n3
    .rename_i id st' off len hv;split at he
     case h_2=>cases he
     rename_i ob hob;split at he
     case isFalse=>cases he
     rename_i hcond;obtain⟨rfl,q2,q3,q4,rfl,q6,q7,q8,q9⟩:=hcond;cases he;exact NX s hoo hcl (H8 h1) (H8 h2) hap ht' hy hv hob q2 q3 q4 q6 q8 q9 hs hyr hbig q7
    .cases he
   split at hc
   .rename_i e' st e'' yv zv h3 h4 h5 h6;cases hc;simp only[cj]at he;obtain⟨n1,n2,n3⟩:=hnew rfl;exact fin (zv:=zv) h3 (.inl ⟨_,h4⟩) h5 (λrows hr=>P9 s h6 hr) he n1 n2 n3
   .rename_i e' st yv zv h3 h4 h5 h6;split at hc
    case isFalse=>cases hc
    rename_i hst;subst hst;cases hc;simp only[cj]at he;obtain⟨n1,n2,n3⟩:=hnew rfl;exact fin (zv:=zv) h3 (.inr h4) h5 (λrows hr=>XE s h6 hr) he n1 n2 n3
   .cases hc
  .rename_i hcl;split at hc
   case h_2=>cases hc
   rename_i y z h1;split at hc
   case h_2=>cases hc
   rename_i yv zv h2 h3;cases hc;simp only[cj]at he;obtain⟨hz,rfl⟩:=bW he;exact Wd (m:=false) s hoo hcl (H8 h1) h2 h3 hz
  .rename_i hcl;split at hc
   case h_2=>cases hc
   rename_i y z h1;split at hc
   case h_2=>cases hc
   rename_i yv zv h2 h3;cases hc;simp only[cj]at he;obtain⟨hz,rfl⟩:=bW he;exact Wd (m:=true) s hoo hcl (H8 h1) h2 h3 hz
  .rename_i hcl;split at hc
   case h_2=>cases hc
   rename_i t t' y z h1 h2;split at hc
   case h_2=>cases hc
   rename_i e' e'' yv zv h3 h4 h5 h6;simp only[eS]at hc;obtain⟨st,h7,rfl⟩:=hc;simp only[cj]at he;have hcp:∀{src:Option (List (List AV))},Ci st (val g yv) src h=some (x,e)->∃ys id off len ob,src=some ys/\val g yv = .ms id st off len/\h id=some ob/\ob.st=st/\ob.isRec=false/\off+len<=ob.rows.length /\
     ∃k,k=Nat.min ys.length len/\x = .int .i64 k/\e = .put id {ob with rows:=ob.rows.take off++ys.take k++ob.rows.drop (off+k)}:=λ{src} hq=>by
    unfold Ci at hq;cases src with
    | none=>cases hq
    | some ys =>
     simp only at hq;split at hq
     .rename_i id st' off len hv;split at hq
      .rename_i ob hob;split at hq
       .rename_i hcond;obtain⟨rfl,p2,p3,p4⟩:=hcond;split at hq
        .rename_i hle;cases hq;exact⟨ys,id,off,len,ob,rfl,hv,hob,p2,p3,p4,ys.length,(MG hle).symm,rfl,by rw[rN]⟩
        .rename_i hle;cases hq;exact⟨ys,id,off,len,ob,rfl,hv,hob,p2,p3,p4,len,(Nat.min_eq_right (by omega)).symm,rfl,rfl⟩
       .cases hq
      .cases hq
     .cases hq
   obtain⟨ys,id,off,len,ob,hys,hv,hob,p2,p3,p4,k,hk,rfl,rfl⟩:=hcp he;have hk1:k<=ys.length:=by rw[hk];exact Nat.min_le_left _ _
   have hk2:k<=len:=by rw[hk];exact Nat.min_le_right _ _
   obtain⟨vs,hs1,hs2,hyr⟩:=abK (P:=P) s h6 hys k hk1;have hkl:(ys.take k).length=k:=by rw[vm,MG hk1]
   have:=afq s hoo hcl (H8 h1) (H8 h2) h3 h7 h5 hv hob p2 p3 p4 (yrows:=ys.take k) ys.length hs1 (by rw[hkl,hk]) (by rw[hkl];exact hs2) hyr (by rw[hkl];exact hk2);rw[hkl]at this;exact this
  .cases hc
 | range t y =>
  simp only[k_]at hc;split at hc
  case h_2=>cases hc
  rename_i yv h1 h2;cases hc;simp only[cj,cM,eA]at he;cases hv:val g yv<;>rw[hv]at he<;>simp only[nj]at he<;>try cases he
  obtain⟨n1,n2,n3⟩:=hnew rfl;exact afG s hoo h1 h2 hv n1 n2 n3
 | next y b =>
  cases b<;>simp only[k_]at hc
  .cases hc
  simp only[eS]at hc;obtain⟨yv,h1,rfl⟩:=hc;simp only[cj,cM,eA]at he;cases hv:val g yv<;>rw[hv]at he<;>simp only[nj]at he<;>try cases he
  rename_i id k;cases k<;>simp only[nj]at he
  .simp only[vl]at he;obtain⟨ob,h2,h3⟩:=he;exact afF s hoo h1 hv h2 h3
  .cases he
 | makeMap t r =>
  cases r<;>simp only[k_]at hc
  .cases hc;simp only[cj,eA,nj]at he;cases he;obtain⟨n1,n2,n3⟩:=hnew rfl;exact afy s hoo n1 n2 n3
  .cases hc
 | lookup t y z ok =>
  simp only[k_]at hc;split at hc
  case h_2=>cases hc
  rename_i kd zz yv zv h1 h2 h3;cases hc;simp only[cj,cM,eA]at he;by_cases hfm:∃es,val g yv = .fm es
  .obtain⟨es,hfm⟩:=hfm;rw[hfm]at he;exact aaS s hoo h1 h2 h3 hfm he
  obtain⟨id,ob,h4,h5,h6⟩:=CZ (f:=λid ob=>zc ok kd zz (val g zv) ob) (v:=val g yv) (r:=x) (e:=e) (h:=h) (by
   cases hv:val g yv
   case fm es=>exact absurd ⟨es,hv⟩ hfm
   all_goals (rw[hv]at he;simp only[nj]at he)
   all_goals try cases he
   rename_i id k;cases k<;>simp only[nj]at he
   .cases he
   .exact⟨id,rfl,he⟩)
  exact afA s hoo h1 h2 h3 h4 h5 h6
 | mapUpdate t y z q =>
  simp only[k_]at hc;split at hc
  case h_2=>cases hc
  rename_i kd zz yv zv qv h1 h2 h3 h0;cases hc;simp only[cj,cM,eA]at he
  obtain⟨id,ob,h4,h5,h6⟩:=CZ (f:=λid ob=>FA id kd (val g zv) (val g qv) ob) (v:=val g yv) (r:=x) (e:=e) (h:=h) (by
   cases hv:val g yv<;>rw[hv]at he<;>simp only[nj]at he<;>try cases he
   rename_i id k;cases k<;>simp only[nj]at he
   .cases he
   .exact⟨id,rfl,he⟩)
  exact Wf s (.inl hoo) h1 h2 h3 h0 h4 h5 h6
 | insert t y z q =>
  simp only[k_]at hc;split at hc
  case h_2=>cases hc
  rename_i kd zz yv zv qv h1 h2 h3 h0;cases hc;simp only[cj,cM,eA]at he
  obtain⟨id,ob,h4,h5,h6⟩:=CZ (f:=λid ob=>FA id kd (val g zv) (val g qv) ob) (v:=val g yv) (r:=x) (e:=e) (h:=h) (by
   cases hv:val g yv<;>rw[hv]at he<;>simp only[nj]at he<;>try cases he
   rename_i id k;cases k<;>simp only[nj]at he
   .cases he
   .exact⟨id,rfl,he⟩)
  exact Wf s (.inr hoo) h1 h2 h3 h0 h4 h5 h6
 | mapEntry t y z =>
  simp only[k_]at hc;split at hc
  case h_2=>cases hc
  rename_i kd zz yv zv h1 h2 h3;cases hc;simp only[cj,cM,eA]at he
  obtain⟨id,ob,h4,h5,h6⟩:=CZ (f:=λid ob=>S4 id kd zz (val g zv) ob) (v:=val g yv) (r:=x) (e:=e) (h:=h) (by
   cases hv:val g yv<;>rw[hv]at he<;>simp only[nj]at he<;>try cases he
   rename_i id k;cases k<;>simp only[nj]at he
   .cases he
   .exact⟨id,rfl,he⟩)
  exact afC s hoo h1 h2 h3 h4 h5 h6
 | entryStore t y z q =>
  simp only[k_]at hc;split at hc
  case h_2=>cases hc
  rename_i yv zv qv h1 h2 h3;cases hc;simp only[cj,cM,eA]at he;cases hz:val g zv<;>rw[hz]at he<;>cases hv:val g yv<;>rw[hv]at he<;>simp only[nj]at he<;>try cases he
  rename_i kk n id k;cases k<;>cases kk<;>simp only[nj]at he<;>try cases he
  simp only[vl]at he;obtain⟨ob,h5,h6⟩:=he;exact afD s hoo h1 h2 h3 hv hz h5 h6
 | _=>simp[k_]at hc
