import Derived.WalkKit
import Derived.Laws.Externs
import Derived.Great.BuildSlice
import Derived.Laws.StructEq
set_option linter.all false
namespace Go.Mw
def bN{p:Prop}(h:p):p:=h
def aC:=@decide_eq_false
def aw:=@decide_eq_true
def ej:=@List.length_append
def ax:=@if_neg
def aF:=@if_pos
def dc:=@Option.map_eq_some_iff
def bP:=@List.length_map
def j1:=@List.length_cons
def gh:=@List.mem_append
def cR:=@Nat.zero_le
def cI:=@Option.some.injEq
def fQ:=@Bool.and_eq_true
def cY:=@Int.toNat_natCast
def pq:=@List.length_singleton
def gN:=@List.take_of_length_le
def aN:=@Nat.le_refl
def mE:=@List.append_assoc
def gW:=@List.getElem?_eq_some_iff
def gp:=@Bool.true_and
def CV:=@beq_eq_false_iff_ne
def jZ:=@List.getElem?_eq_getElem
def dH:=@Bool.not_false
def di:=@Bool.not_true
def f_:=@List.all_eq_true
def jr:=@Bool.false_eq_true
def tT:=@decide_eq_true_eq
def iN:=@List.length_nil
def iD:=@List.nil_append
def dP:=@if_true
def fR:=@List.getElem?_map
def bp:=@List.mem_cons
def bY:=@List.map_cons
def oI:=@Array.getD_eq_getD_getElem?
def fo:=@Option.map_some
def eF:=@List.mem_singleton
def fS:=@if_false
def tU:=@List.cons_append
def j0:=@Array.getElem?_eq_some_iff
def Rq:=@List.length_drop
def jc:=@List.take_length
def VI:=@List.eq_nil_of_length_eq_zero
def eJ:=@Nat.lt_or_ge
def pZ:=@Option.bind_eq_some_iff
def nv:=@Nat.mul_le_mul_right
def nD:=@Array.length_toList
def nF:=@List.mem_of_getElem?
def lF:=@Array.getElem?_eq_getElem
def jd:=@List.flatMap_cons
def cZ:=@Nat.le_trans
def VJ:=@Nat.add_assoc
def lm:=@List.append_nil
def yO:=@Bool.not_eq_true'
def iO:=@List.take_zero
def oJ:=@List.mem_flatMap
def B4:=@Bool.or_eq_true
def x7:=@Bool.false_or
def FB:=@Array.getElem?_setIfInBounds
def gX:=@Bool.false_and
def iP:=@Nat.add_mul
def yP:=@Array.getElem?_modify
def B5:=@Bool.true_or
def q_:=@List.length_take
def dW:=@List.map_append
def mF:=@Result.andThen_ok
def lp:=@Sem.run_bind
def gO:=@List.getElem_mem
def bZ:=@List.not_mem_nil
def MM:=@List.drop_drop
def eL:=@List.map_nil
def oK:=@List.drop_zero
def FC:=@Option.isSome_iff_exists
def zW:=@List.getElem?_cons_succ
def Z8:=@List.drop_eq_getElem_cons
def MN:=@List.drop_eq_nil_of_le
def sK:=@Prod.mk.injEq
def Jh:=@List.length_pos_iff
def FD:=@List.getElem?_drop
def HP:=@Nat.min_eq_left
def Ji:=@List.getElem?_append_left
def VK:=@List.take_append_drop
def B6:=@Int.toNat_zero
def ga:=@Nat.zero_add
def zX:=@List.any_eq_true
def yQ:=@List.map_congr_left
def x8:=@Nat.mul_one
def B7:=@Int.toNat_one
def FE:=@List.length_eq_zero_iff
def tV:=@List.getElem?_eq_none
def x9:=@List.getElem?_take
def gb:=@Option.getD_some
def Jj:=@List.contains_eq_mem
def Z9:=@List.replicate_succ'
def KG:=@List.replicate_succ
def zx:=@Nat.sub_self
def zy:=@Array.getElem?_push
def B2:=@List.getElem?_range
def zA:=@Option.some.inj
def B3:=@Array.getElem?_eq_none
def zB:=@List.getElem?_append_right
def KH:=@List.all_cons
def DQ:=@Nat.lt_of_lt_of_le
def sJ:=@Sem.run_pure
def uR:=@Option.toList_some
def dN:=@List.mem_map
def uS:=@List.take_add_one
def Rp:=@List.any_eq_false
def DR:=@Bool.eq_iff_iff
def WQ:=@List.getElem!_eq_getElem?_getD
inductive AV where
 | bool (b:Bool)
 | int (k:IntKind) (n:Int)
 | str (s:List UInt8)
 | nl
 | sl (st:Nat) (rows:List (List AV))
 | ip (cells:List AV)
 | np
 | nf
 | any
 | ms (id st off len:Nat)
 | mp (id st row off:Nat)
 | mm (id:Nat) (k:Bool)
 | fm (es:List (AV×AV))
 | fn (f:FuncId) (caps:List AV)
 | agg (cells:List AV)
 | tup (vs:List AV)
 deriving Inhabited
def jU:Value->Prop
 | .agg _=>False
 | .tuple _=>False
 | _=>True
def aR{α β:Type}(R:α->β->Prop):List α->List β->Prop
 | [],[]=>True
 | a::l,b::m=>R a b/\aR R l m
 | _,_=>False
def aR.length{α β:Type}{R:α->β->Prop}:∀{l:List α}{m:List β},aR R l m->l.length=m.length
 | [],[],_=>rfl
 | _::_,_::_,h=>by simp[aR.length h.2]
 | [],_::_,h=>h.elim
 | _::_,[],h=>h.elim
def aR.mono{α β:Type}{R R':α->β->Prop}:∀{l:List α}{m:List β},aR R l m->(∀a b,b∈m->R a b->R' a b)->aR R' l m
 | [],[],_,_=>trivial
 | _::_,_::_,h,f=>⟨f _ _ (by simp) h.1,h.2.mono λa b hb=>f a b (by simp[hb])⟩
 | [],_::_,h,_=>h.elim
 | _::_,[],h,_=>h.elim
def aR.get{α β:Type}{R:α->β->Prop}:∀{l:List α}{m:List β},aR R l m->∀{i:Nat}{b:β},m[i]?=some b->∃a,l[i]?=some a/\R a b
 | [],[],_,i,b,h=>by simp at h
 | a::_,c::_,h,0,b,hb=>by
  simp only[List.getElem?_cons_zero,cI]at hb;subst hb;exact⟨a,by simp,h.1⟩
 | _::_,_::_,h,i+1,b,hb=>by
  simp only[zW]at hb⊢;exact h.2.get hb
 | [],_::_,h,_,_,_=>h.elim
 | _::_,[],h,_,_,_=>h.elim
def aR.append{α β:Type}{R:α->β->Prop}:∀{l l':List α}{m m':List β},aR R l m->aR R l' m'->aR R (l++l') (m++m')
 | [],_,[],_,_,h=>h
 | _::_,_,_::_,_,h,h'=>⟨h.1,h.2.append h'⟩
 | [],_,_::_,_,h,_=>h.elim
 | _::_,_,[],_,h,_=>h.elim
def aR.take{α β:Type}{R:α->β->Prop}:∀{l:List α}{m:List β}(n:Nat),aR R l m->aR R (l.take n) (m.take n)
 | _,_,0,_=>by simp[aR]
 | [],[],_+1,_=>by simp[aR]
 | _::_,_::_,n+1,h=>⟨h.1,h.2.take n⟩
 | [],_::_,_,h=>h.elim
 | _::_,[],_,h=>h.elim
def aR.drop{α β:Type}{R:α->β->Prop}:∀{l:List α}{m:List β}(n:Nat),aR R l m->aR R (l.drop n) (m.drop n)
 | _,_,0,h=>by simpa using h
 | [],[],_+1,_=>by simp[aR]
 | _::_,_::_,n+1,h=>by simpa using h.2.drop n
 | [],_::_,_,h=>h.elim
 | _::_,[],_,h=>h.elim
def aR.of_get{α β:Type}{R:α->β->Prop}:∀{l:List α}{m:List β},l.length=m.length ->
  (∀(i:Nat)(a:α)(b:β),l[i]?=some a->m[i]?=some b->R a b)->aR R l m
 | [],[],_,_=>trivial
 | a::l,b::m,hl,h=>⟨h 0 a b (by simp) (by simp),aR.of_get (by simpa using hl) λi a b ha hb=>h (i+1) a b (by simpa using ha) (by simpa using hb)⟩
 | [],_::_,hl,_=>by simp at hl
 | _::_,[],hl,_=>by simp at hl
def dK(v:Value):AV->Prop
 | .bool b=>v = .bool b
 | .int k n=>v = .int k n
 | .str s=>v = .string ⟨s.toArray⟩
 | _=>False
inductive IRel(M:Nat->Prop)(w:World):Value->AV->Prop where
 | bool (b:Bool):IRel M w (.bool b) (.bool b)
 | int (k:IntKind) (n:Int):IRel M w (.int k n) (.int k n)
 | str (s:List UInt8):IRel M w (.string ⟨s.toArray⟩) (.str s)
 | nl:IRel M w (.slice none 0 0) .nl
 | nls (st:Nat):IRel M w (.slice none 0 0) (.sl st [])
 | np:IRel M w (.pointer none) .np
 | nf:IRel M w .nilFunc .nf
 | any (v:Value) (h:jU v):IRel M w v .any
 | sl0 (st:Nat) (a:Addr) (cap:Nat):IRel M w (.slice (some a) 0 cap) (.sl st [])
 | sl (b off cap st:Nat) (c:Array Value) (t:TypeId) (fr:Nat×Nat) (rows:List (List AV)) (vs:Nat->Nat->Value)
    (hb:w.heap[b]?=some (.cells c t fr)) (hM:¬M b) (hl:rows.length<=cap)
    (hr:∀(i:Nat)(r:List AV),rows[i]?=some r->r.length=st)
    (hv:∀(i j:Nat),i<rows.length->j<st->c[off+i*st+j]?=some (vs i j))
    (hx:∀(i j:Nat)(r:List AV)(x:AV),rows[i]?=some r->r[j]?=some x->IRel M w (vs i j) x) :
    IRel M w (.slice (some ⟨b,off,none⟩) rows.length cap) (.sl st rows)
 | ip (b off:Nat) (c:Array Value) (t:TypeId) (fr:Nat×Nat) (cells:List AV) (vs:Nat->Value)
    (hb:w.heap[b]?=some (.cells c t fr)) (hM:¬M b)
    (hv:∀(j:Nat),j<cells.length->c[off+j]?=some (vs j))
    (hx:∀(j:Nat)(x:AV),cells[j]?=some x->IRel M w (vs j) x) :
    IRel M w (.pointer (some ⟨b,off,none⟩)) (.ip cells)
 | nm:IRel M w (.map none) (.fm [])
 | fm (b:Nat) (es':Array MapEntry) (es:List (AV×AV)) (hb:w.heap[b]?=some (.map es' es'.size)) (hM:¬M b) (hn:∀(i:Nat)(e:MapEntry),es'[i]?=some e->e.born=i)
    (he:aR (λ(e:MapEntry)(p:AV×AV)=>dK e.key p.1/\dK e.val p.2) es'.toList es):IRel M w (.map (some b)) (.fm es)
def IRel.one{M:Nat->Prop}{w:World}{v:Value}{x:AV}(h:IRel M w v x):jU v:=by
 cases h<;>first|trivial|assumption
def aQ{w:World}{b:Nat}{o:Obj}(h:w.heap[b]?=some o):b<w.heap.size:=by
 rcases eJ b w.heap.size with h'|h'
 .exact h'
 .simp[B3 h']at h
def IRel.tr{M M':Nat->Prop}{w w':World}{v:Value}{x:AV}(h:IRel M w v x)
  (hk:∀b,¬M b->b<w.heap.size->¬M' b/\w'.heap[b]? = w.heap[b]?):IRel M' w' v x:=by
 induction h with
 | bool b=>exact .bool b
 | int k n=>exact .int k n
 | str s=>exact .str s
 | nl=>exact .nl
 | nls st=>exact .nls st
 | np=>exact .np
 | nf=>exact .nf
 | any v h=>exact .any v h
 | sl0 st a cap=>exact .sl0 st a cap
 | sl b off cap st c t fr rows vs hb hM hl hr hv hx ih =>
  obtain⟨h1,h2⟩:=hk b hM (aQ hb);exact .sl b off cap st c t fr rows vs (h2.trans hb) h1 hl hr hv ih
 | ip b off c t fr cells vs hb hM hv hx ih =>
  obtain⟨h1,h2⟩:=hk b hM (aQ hb);exact .ip b off c t fr cells vs (h2.trans hb) h1 hv ih
 | nm=>exact .nm
 | fm b es' es hb hM hn he =>
  obtain⟨h1,h2⟩:=hk b hM (aQ hb);exact .fm b es' es (h2.trans hb) h1 hn he
def dS(bl:Nat->Option Nat)(M:Nat->Prop)(w:World)(v:Value)(x:AV):Prop :=
 match x with
 | .ms id st off len=>(v = .slice none 0 0/\off=0/\len=0) \/
   (len=0/\off≠0/\∃a cap,v = .slice (some a) 0 cap/\cap=0) \/
   ∃b cap c t fr,bl id=some b/\v = .slice (some ⟨b,off*st,none⟩) len cap/\len<=cap/\w.heap[b]?=some (.cells c t fr)/\off*st+cap*st<=c.size
 | .mp id st row off=>∃b,bl id=some b/\v = .pointer (some ⟨b,row*st+off,none⟩)
 | .mm id k=>∃b,bl id=some b/\v=if k=true then .map (some b)else .pointer (some ⟨b,0,none⟩)
 | x=>IRel M w v x
def V0(f:FuncId):FuncId:=if f<4000000 then f else f-4000000
def SI(f:FuncId):Nat:=if f<4000000 then 0 else 1
def mkI(f:FuncId)(e:Bool):FuncId:=if e=true then f else f+4000000
def bV(bl:Nat->Option Nat)(M:Nat->Prop)(w:World)(v:Value)(x:AV):Prop :=
 match x with
 | .fn f caps=>∃cs:List Value,v = .func (.func (V0 f)) (cs.take (SI f)).toArray (cs.drop (SI f)).toArray/\aR (dS bl M w) cs caps
 | x=>dS bl M w v x
def eY(bl:Nat->Option Nat)(M:Nat->Prop)(w:World)(v:Value)(x:AV):Prop :=
 match x with
 | .agg cells=>∃cs:List Value,v = .agg cs.toArray/\aR (bV bl M w) cs cells
 | x=>bV bl M w v x
def aY(bl:Nat->Option Nat)(M:Nat->Prop)(w:World)(v:Value)(x:AV):Prop :=
 match x with
 | .any=>True
 | .tup vs=>∃cs:List Value,v = .tuple cs.toArray/\aR (eY bl M w) cs vs
 | x=>eY bl M w v x
def mP(i:Nat):AV->Bool
 | .ms id _ _ _=>id==i
 | .mp id _ _ _=>id==i
 | .mm id _=>id==i
 | _=>false
def mC(i:Nat):AV->Bool
 | .fn _ caps=>caps.any (mP i)
 | x=>mP i x
def mG(i:Nat):AV->Bool
 | .agg cells=>cells.any (mC i)
 | x=>mC i x
def mV(i:Nat):AV->Bool
 | .tup vs=>vs.any (mG i)
 | x=>mG i x
structure Tr(M M':Nat->Prop)(w w':World):Prop where
 keep:∀b,¬M b->b<w.heap.size->¬M' b/\w'.heap[b]? = w.heap[b]?
 shape:∀(b:Nat)(c:Array Value)(t:TypeId)(fr:Nat×Nat),w.heap[b]?=some (.cells c t fr)->∃(c':Array Value)(fr':Nat×Nat),w'.heap[b]?=some (.cells c' t fr')/\c'.size=c.size
section
variable{bl bl':Nat->Option Nat}{M M':Nat->Prop}{w w':World}{v:Value}{x:AV}
def dS.tr(h:dS bl M w v x)(ht:Tr M M' w w')(hb:∀id,mP id x=true->bl' id=bl id):dS bl' M' w' v x:=by
 cases x<;>simp only[dS]at h⊢ <;> try exact h.tr ht.keep
 case ms id st off len =>
  rcases h with h|h|⟨b,cap,c,t,fr,h1,h2,h3,h4,h5⟩
  .exact .inl h
  .exact .inr (.inl h)
  .obtain⟨c',fr',hc',hs⟩:=ht.shape b c t fr h4;exact .inr (.inr ⟨b,cap,c',t,fr',(hb id (by simp[mP])).trans h1,h2,h3,hc',by omega⟩)
 case mp id st row off =>
  obtain⟨b,h1,h2⟩:=h;exact⟨b,(hb id (by simp[mP])).trans h1,h2⟩
 case mm id k =>
  obtain⟨b,h1,h2⟩:=h;exact⟨b,(hb id (by simp[mP])).trans h1,h2⟩
def bV.tr(h:bV bl M w v x)(ht:Tr M M' w w')(hb:∀id,mC id x=true->bl' id=bl id):bV bl' M' w' v x:=by
 cases x<;>simp only[bV]at h⊢ <;> try exact dS.tr h ht (λid hi=>hb id (by simpa[mC]using hi))
 case fn f caps =>
  obtain⟨cs,h1,h2⟩:=h;exact⟨cs,h1,h2.mono λa b hm hr=>dS.tr hr ht (λid hi=>hb id (by simp only[mC,zX];exact⟨b,hm,hi⟩))⟩
def eY.tr(h:eY bl M w v x)(ht:Tr M M' w w')(hb:∀id,mG id x=true->bl' id=bl id):eY bl' M' w' v x:=by
 cases x<;>simp only[eY]at h⊢ <;> try exact bV.tr h ht (λid hi=>hb id (by simpa[mG]using hi))
 case agg cells =>
  obtain⟨cs,h1,h2⟩:=h;exact⟨cs,h1,h2.mono λa b hm hr=>bV.tr hr ht (λid hi=>hb id (by simp only[mG,zX];exact⟨b,hm,hi⟩))⟩
def aY.tr(h:aY bl M w v x)(ht:Tr M M' w w')(hb:∀id,mV id x=true->bl' id=bl id):aY bl' M' w' v x:=by
 cases x<;>simp only[aY]at h⊢ <;> try exact eY.tr h ht (λid hi=>hb id (by simpa[mV]using hi))
 case tup vs =>
  obtain⟨cs,h1,h2⟩:=h;exact⟨cs,h1,h2.mono λa b hm hr=>eY.tr hr ht (λid hi=>hb id (by simp only[mV,zX];exact⟨b,hm,hi⟩))⟩
def dS.one(h:dS bl M w v x):jU v:=by
 cases x<;>simp only[dS]at h<;>try exact h.one
 case ms id st off len =>
  rcases h with⟨rfl,_⟩|⟨_,_,a,cap,rfl,_⟩|⟨b,cap,c,t,fr,h1,rfl,h3⟩<;>trivial
 case mp id st row off =>
  obtain⟨b,_,rfl⟩:=h;trivial
 case mm id k =>
  obtain⟨b,_,rfl⟩:=h;cases k<;>trivial
def bV.one(h:bV bl M w v x):jU v:=by
 cases x<;>simp only[bV]at h<;>try exact dS.one h
 case fn f caps=>obtain⟨cs,rfl,_⟩:=h;trivial
def bV.toV(h:bV bl M w v x):aY bl M w v x:=by
 cases x<;>try exact h
 case any=>trivial
 case agg cells=>exact(by simp only[bV,dS]at h;cases h)
 case tup vs=>exact(by simp only[bV,dS]at h;cases h)
def bV.toG(h:bV bl M w v x):eY bl M w v x:=by
 cases x<;>try exact h
 case agg cells=>exact(by simp only[bV,dS]at h;cases h)
def eY.toV(h:eY bl M w v x):aY bl M w v x:=by
 cases x<;>try exact h
 case any=>trivial
 case tup vs=>exact(by simp only[eY,bV,dS]at h;cases h)
def IRel.toC(h:IRel M w v x):bV bl M w v x:=by
 cases x<;>try exact h
 case ms=>cases h
 case mp=>cases h
 case mm=>cases h
 case fn=>cases h
end
class inductive Kd where
 | cells
 | it (s:List UInt8) (pos:Nat)
 | mp (es:List (AV×AV))
 | mi (left:List (AV×AV)) (last:Option (AV×AV))
instance:Kd:=.cells
structure aj where
 t:TypeId
 st:Nat
 rows:List (List AV)
 isRec:Bool
 [k:Kd]
instance:Inhabited aj:=⟨⟨0,0,[],false⟩⟩
def Kd.flat:Kd->Bool
 | .cells=>true
 | _=>false
def Kd.of_flat{k:Kd}(h:k.flat=true):k=instKd:=by
 cases k with
 | cells=>rfl
 | it s pos=>cases h
 | mp es=>cases h
 | mi l la=>cases h
def jE(r:Bool)(bl:Nat->Option Nat)(M:Nat->Prop)(w:World)(v:Value)(x:AV):Prop :=
 match r with
 | true=>bV bl M w v x
 | false=>IRel M w v x
def eD(c:Array Value)(fr:Nat×Nat):Prop:=fr.1=fr.2\/c.size<=fr.1
def eD.spec{c:Array Value}{fr:Nat×Nat}(h:eD c fr):∀j,j<c.size->¬(fr.1<=j/\j<fr.2):=λj hj=>by
 rcases h with h|h<;>omega
def DV(M:Nat->Prop):Kd->World->Nat->Prop
 | .cells,_,_=>False
 | .it s pos,w,b=>w.heap[b]?=some (.stringIter ⟨s.toArray⟩ pos)
 | .mp es,w,b=>∃(es':Array MapEntry),w.heap[b]?=some (.map es' es'.size)/\(∀(i:Nat)(e:MapEntry),es'[i]?=some e->e.born=i)/\aR (λ(e:MapEntry)(p:AV×AV)=>dK e.key p.1/\dK e.val p.2) es'.toList es
 | .mi l la,w,b=>(l=[]/\la=none/\w.heap[b]?=some (.mapIter none 0 #[] 0))\/∃(m:Nat)(es:Array MapEntry)(seen:Array Nat),w.heap[b]?=some (.mapIter (some m) es.size seen es.size)/\w.heap[m]?=some (.map es es.size)/\¬M m /\
   (∀(i:Nat)(e:MapEntry),es[i]?=some e->e.born=i)/\(∀p,la=some p->∃(j:Nat)(e:MapEntry),seen.back? = some j/\es[j]?=some e/\dK e.key p.1/\dK e.val p.2) /\
   aR (λ(e:MapEntry)(p:AV×AV)=>dK e.key p.1/\dK e.val p.2) (es.filter λe=>!seen.contains e.born).toList l
def DV.tr{M M':Nat->Prop}{k:Kd}{w w':World}{b:Nat}(h:DV M k w b)(hk:w'.heap[b]? = w.heap[b]?)(hM:∀b,¬M b->b<w.heap.size->¬M' b/\w'.heap[b]? = w.heap[b]?):DV M' k w' b:=by
 cases k with
 | cells=>exact h
 | it s pos=>exact hk.trans h
 | mp es=>obtain⟨es',h1,h2⟩:=h;exact⟨es',hk.trans h1,h2⟩
 | mi l la =>
  rcases h with⟨h1,h0,h2⟩|⟨m,es,seen,h1,h2,h3,h4⟩
  .exact .inl ⟨h1,h0,hk.trans h2⟩
  .obtain⟨h5,h6⟩:=hM m h3 (aQ h2);exact .inr ⟨m,es,seen,hk.trans h1,h6.trans h2,h5,h4⟩
def DV.lt{M:Nat->Prop}{k:Kd}{w:World}{b:Nat}(h:DV M k w b):b<w.heap.size:=by
 cases k with
 | cells=>exact h.elim
 | it s pos=>exact aQ h
 | mp es=>obtain⟨es',h1,h2⟩:=h;exact aQ h1
 | mi l la =>
  rcases h with⟨_,_,h⟩|⟨_,_,_,h,_⟩<;>exact aQ h
def HX(bl:Nat->Option Nat)(M MF:Nat->Prop)(w:World)(o:aj)(b:Nat):Prop :=
 ∃c fr,w.heap[b]?=some (.cells c o.t fr)/\eD c fr/\¬MF b/\(∀(i:Nat)(r:List AV),o.rows[i]?=some r->r.length=o.st)/\o.rows.length*o.st<=c.size /\
  ∀(i j:Nat)(r:List AV)(x:AV),o.rows[i]?=some r->r[j]?=some x->∃v,c[i*o.st+j]?=some v/\jE o.isRec bl M w v x
structure FO(M MF:Nat->Prop)(w:World)(o:aj)(b:Nat):Prop where
 rows:o.rows=[]
 isRec:o.isRec=false
 free:¬MF b
 rel:DV M o.k w b
def FO.tr{M M' MF:Nat->Prop}{w w':World}{o:aj}{b:Nat}(h:FO M MF w o b)(hk:w'.heap[b]? = w.heap[b]?)(hM:∀b,¬M b->b<w.heap.size->¬M' b/\w'.heap[b]? = w.heap[b]?):FO M' MF w' o b:=⟨h.rows,h.isRec,h.free,h.rel.tr hk hM⟩
def FO.mono{M M' MF:Nat->Prop}{w:World}{o:aj}{b:Nat}(h:FO M MF w o b)(hM:∀b,M' b->M b):FO M' MF w o b:=h.tr rfl λb hb _=>⟨λh'=>hb (hM b h'),rfl⟩
def FO.no{M MF:Nat->Prop}{w:World}{o:aj}{b:Nat}(h:FO M MF w o b){i:Nat}{r:List AV}(hr:o.rows[i]?=some r):False:=by
 rw[h.rows]at hr;simp at hr
def FO.ne{M MF:Nat->Prop}{w:World}{o:aj}{b:Nat}(h:FO M MF w o b){c:Array Value}{t:TypeId}{fr:Nat×Nat}(hc:w.heap[b]?=some (.cells c t fr)):False:=by
 have hr:=h.rel;cases hk:o.k with
 | cells=>rw[hk]at hr;exact hr
 | it s pos=>rw[hk]at hr;exact absurd (hc.symm.trans hr) (by simp)
 | mp es=>rw[hk]at hr;obtain⟨es',h1,h2⟩:=hr;exact absurd (hc.symm.trans h1) (by simp)
 | mi l la=>rw[hk]at hr;rcases hr with⟨_,_,h1⟩|⟨_,_,_,h1,_⟩<;>exact absurd (hc.symm.trans h1) (by simp)
def FO.noflat{M MF:Nat->Prop}{w:World}{o:aj}{b:Nat}(h:FO M MF w o b)(hf:o.k.flat=true):False:=by
 have hr:=h.rel;cases hk:o.k with
 | cells=>rw[hk]at hr;exact hr
 | it s pos=>rw[hk]at hf;cases hf
 | mp es=>rw[hk]at hf;cases hf
 | mi l la=>rw[hk]at hf;cases hf
def n7(bl:Nat->Option Nat)(M MF:Nat->Prop)(w:World)(o:aj)(b:Nat):Prop:=(o.k=Kd.cells/\HX bl M MF w o b)\/FO M MF w o b
def n7.free{bl:Nat->Option Nat}{M MF:Nat->Prop}{w:World}{o:aj}{b:Nat}(h:n7 bl M MF w o b):¬MF b:=by
 rcases h with⟨_,_,_,_,_,h,_⟩|h
 .exact h
 .exact h.free
def n7.lt{bl:Nat->Option Nat}{M MF:Nat->Prop}{w:World}{o:aj}{b:Nat}(h:n7 bl M MF w o b):b<w.heap.size:=by
 rcases h with⟨_,_,_,h,_⟩|h
 .exact aQ h
 .exact h.rel.lt
def HW(bl:Nat->Option Nat)(M MF:Nat->Prop)(w:World)(h:Nat->Option aj):Prop :=
 (∀id o,h id=some o->(o.rows=[]/\o.isRec=false/\bl id=none)\/∃b,bl id=some b/\n7 bl M MF w o b) /\
 ∀id id' o o' b,h id=some o->h id'=some o'->bl id=some b->bl id'=some b->id=id'
def bz(bl:Nat->Option Nat)(MF:Nat->Prop)(h:Nat->Option aj)(b:Nat):Prop:=MF b\/∃id o,h id=some o/\bl id=some b
structure gR(W:Nat->Prop)(w w':World):Prop where
 size:w.heap.size<=w'.heap.size
 keep:∀b,b<w.heap.size->¬W b->w'.heap[b]? = w.heap[b]?
 shape:∀(b:Nat)(c:Array Value)(t:TypeId)(fr:Nat×Nat),w.heap[b]?=some (.cells c t fr)->∃(c':Array Value)(fr':Nat×Nat),w'.heap[b]?=some (.cells c' t fr')/\c'.size=c.size
 os:w'.os=w.os
 out:w'.output=w.output
def gR.refl(W:Nat->Prop)(w:World):gR W w w:=⟨aN _,λ_ _ _=>rfl,λ_ c _ fr h=>⟨c,fr,h,rfl⟩,rfl,rfl⟩
def gR.trans{W X:Nat->Prop}{w w' w'':World}(h:gR W w w')(h':gR X w' w'')(hx:∀b,b<w.heap.size->X b->W b):gR W w w'' where
 size:=cZ h.size h'.size
 keep b hb hw:=(h'.keep b (DQ hb h.size) (λhX=>hw (hx b hb hX))).trans (h.keep b hb hw)
 shape b c t fr hb:=by
  obtain⟨c',fr',h1,h2⟩:=h.shape b c t fr hb;obtain⟨c'',fr'',h3,h4⟩:=h'.shape b c' t fr' h1;exact⟨c'',fr'',h3,h4.trans h2⟩
 os:=h'.os.trans h.os
 out:=h'.out.trans h.out
structure MT where
 B:Nat->Prop
 H:World->Prop
 env:List (Nat×AV)
 rel:∀(w:World)(M:Nat->Prop),H w->(∀b,B b->¬M b)->∀p∈env,1000000<=p.1/\IRel M w (.pointer (some ⟨p.1-1000000,0,none⟩)) p.2
 stay:∀w w':World,H w->(∀b,B b->w'.heap[b]? = w.heap[b]?)->H w'
 low:∀w:World,H w->∀b,B b->b<w.heap.size
def MT.no:MT:=⟨λ_=>False,λ_=>True,[],λ_ _ _ _ p hp=>(by cases hp),λ_ _ _ _=>trivial,λ_ _ _ h=>h.elim⟩
class ba(P:Program) where
 T:MT
structure qL where
 w0:World
 bl0:Nat->Option Nat
 W:Nat->Prop
 MF:Nat->Prop
 n:Nat
 T:MT
 tH:T.H w0
 tW:∀b,T.B b->¬W b
 tM:∀b,T.B b->¬MF b
 hn:n<=1000000
class CT(c:qL)(P:Program)[ba P]:Prop where
 eq:c.T=ba.T P
def tv(a:Act)(k:Nat):Value:=if k<1000000 then a.tmps.getD k undef else .pointer (some ⟨k-1000000,0,none⟩)
def zw{a:Act}{k:Nat}(h:k<1000000):tv a k=a.tmps.getD k undef:=aF h
def Fx{a:Act}{k:Nat}(h:∀b,tv a k≠.pointer b):k<1000000/\tv a k=a.tmps.getD k undef:=by
 rcases eJ k 1000000 with hl|hl
 .exact⟨hl,zw hl⟩
 .exact absurd (ax (by omega)) (h (some ⟨k-1000000,0,none⟩))
structure aH(c:qL)(bl:Nat->Option Nat)(g:Nat->AV)(h:Nat->Option aj)(a:Act)(w:World):Prop where
 defers:a.defers=[]
 size:a.tmps.size=c.n
 env:∀k,aY bl (bz bl c.MF h) w (tv a k) (g k)
 heap:HW bl (bz bl c.MF h) c.MF w h
 step:gR c.W c.w0 w
 own:∀id o b,h id=some o->bl id=some b->c.w0.heap.size<=b\/c.W b
 stab:∀id,1000<=id->id<2000->bl id=c.bl0 id
 mf:∀b,c.MF b->b<c.w0.heap.size
def dQ{α:Type}(f:Nat->α)(k:Nat)(x:α):Nat->α:=λj=>if j=k then x else f j
def bC{α:Type}(f:Nat->α)(k:Nat)(x:α):dQ f k x k=x:=by simp[dQ]
def bX{α:Type}(f:Nat->α){k j:Nat}(x:α)(h:j≠k):dQ f k x j=f j:=by simp[dQ,h]
def Qr(a:Act)(d:Nat)(v:Value)(k:Nat)(hd:d<a.tmps.size):(a.put (some d) v).tmps.getD k undef=if k=d then v else a.tmps.getD k undef:=by
 simp only[Act.put];by_cases h:k=d
 .subst h;simp[oI,hd]
 .have h':¬d=k:=λe=>h e.symm;simp[h,h',oI,FB]
def Z3(a:Act)(d:Nat)(v:Value)(k:Nat)(hd:d<a.tmps.size)(hd':d<1000000):tv (a.put (some d) v) k=if k=d then v else tv a k:=by
 unfold tv;by_cases hk:k<1000000
 .rw[aF hk,aF hk,Qr a d v k hd]
 .rw[ax hk,ax hk,ax (by omega)]
section
variable{c:qL}{bl:Nat->Option Nat}{g:Nat->AV}{h:Nat->Option aj}{a:Act}{w:World}
def aH.put(s:aH c bl g h a w){d:Nat}{v:Value}{x:AV}(hd:d<c.n)(hv:aY bl (bz bl c.MF h) w v x) :
  aH c bl (dQ g d x) h (a.put (some d) v) w where
 defers:=s.defers
 size:=by simpa[Act.put]using s.size
 env k:=by
  rw[Z3 a d v k (by rw[s.size];exact hd) (DQ hd c.hn)];by_cases hk:k=d
  .subst hk;simpa[dQ]using hv
  .simpa[dQ,hk]using s.env k
 heap:=s.heap
 step:=s.step
 own:=s.own
 stab:=s.stab
 mf:=s.mf
def aH.world(s:aH c bl g h a w){w':World}(hh:w'.heap=w.heap)(ho:w'.os=w.os)(hp:w'.output=w.output):aH c bl g h a w':=by
 have ht:Tr (bz bl c.MF h) (bz bl c.MF h) w w':=⟨λb hb _=>⟨hb,by rw[hh]⟩,λb c t fr hb=>⟨c,fr,by rw[hh];exact hb,rfl⟩⟩
 refine⟨s.defers,s.size,λk=>(s.env k).tr ht (λ_ _=>rfl),⟨λid o hi=>?_,s.heap.2⟩,?_,s.own,s.stab,s.mf⟩
 .rcases s.heap.1 id o hi with h1|⟨b,h1,⟨hk,c1,fr,h2,h3,h4,h5,h6,h7⟩|hsp⟩
  .exact .inl h1
  rotate_left
  .exact .inr ⟨b,h1,.inr (hsp.tr (by rw[hh]) ht.keep)⟩
  .refine .inr ⟨b,h1,.inl ⟨hk,c1,fr,by rw[hh];exact h2,h3,h4,h5,h6,λi j r x hr hx=>?_⟩⟩;obtain⟨v,hv1,hv2⟩:=h7 i j r x hr hx;refine⟨v,hv1,?_⟩;cases hrec:o.isRec<;>simp only[hrec,jE]at hv2⊢
   .exact hv2.tr ht.keep
   .exact hv2.tr ht (λ_ _=>rfl)
 .exact s.step.trans (X:=λ_=>False) ⟨by rw[hh];exact aN _,λb _ _=>by rw[hh],λb c t fr hb=>⟨c,fr,by rw[hh];exact hb,rfl⟩,ho,hp⟩ (λ_ _ h=>h.elim)
def aH.weaken(s:aH c bl g h a w){g':Nat->AV}{h':Nat->Option aj}(hg:∀k,g' k = .any\/g' k=g k)(hh:∀i o,h' i=some o->h i=some o):aH c bl g' h' a w:=by
 have ht:Tr (bz bl c.MF h) (bz bl c.MF h') w w:=⟨λb hb _=>⟨λhm=>hb (by
  rcases hm with hm|⟨id,o,h1,h2⟩
  .exact .inl hm
  .exact .inr ⟨id,o,hh id o h1,h2⟩),rfl⟩,λb c t fr hb=>⟨c,fr,hb,rfl⟩⟩
 refine⟨s.defers,s.size,λk=>?_,⟨λid o hi=>?_,λid id' o o' b h1 h2=>s.heap.2 id id' o o' b (hh _ _ h1) (hh _ _ h2)⟩,s.step,λid o b h1=>s.own id o b (hh _ _ h1),s.stab,s.mf⟩
 .rcases hg k with hk|hk
  .rw[hk];trivial
  .rw[hk];exact(s.env k).tr ht (λ_ _=>rfl)
 .rcases s.heap.1 id o (hh _ _ hi)with h1|⟨b,h1,⟨hk,c1,fr,h2,h3,h4,h5,h6,h7⟩|hsp⟩
  .exact .inl h1
  rotate_left
  .exact .inr ⟨b,h1,.inr (hsp.tr rfl ht.keep)⟩
  .refine .inr ⟨b,h1,.inl ⟨hk,c1,fr,h2,h3,h4,h5,h6,λi j r x hr hx=>?_⟩⟩;obtain⟨v,hv1,hv2⟩:=h7 i j r x hr hx;refine⟨v,hv1,?_⟩;cases hrec:o.isRec<;>simp only[hrec,jE]at hv2⊢
   .exact hv2.tr ht.keep
   .exact hv2.tr ht (λ_ _=>rfl)
end
def i_(i:Nat)(x:AV):AV:=if mV i x then .any else x
def oA(i:Nat)(x:AV):AV:=if mC i x then .any else x
def ee(i:Nat)(o:aj):aj:=if o.isRec then{o with rows:=o.rows.map (λr=>r.map (oA i))}else o
section
variable{c:qL}{bl:Nat->Option Nat}{g:Nat->AV}{h:Nat->Option aj}{a:Act}{w w':World}
def bz.congr{MF:Nat->Prop}{h h':Nat->Option aj}(hh:∀j,(h' j).isSome=(h j).isSome)(b:Nat):bz bl MF h' b↔bz bl MF h b:=by
 have key:∀{h h':Nat->Option aj},(∀j,(h' j).isSome=(h j).isSome)->∀{j o},h' j=some o->∃o',h j=some o':=λhh j o hj=>by
  have:=hh j;rw[hj]at this;exact FC.1 this.symm
 constructor
 .rintro(hm|⟨j,o,h1,h2⟩)
  .exact .inl hm
  .obtain⟨o',h3⟩:=key hh h1;exact .inr ⟨j,o',h3,h2⟩
 .rintro(hm|⟨j,o,h1,h2⟩)
  .exact .inl hm
  .obtain⟨o',h3⟩:=key (λj=>(hh j).symm) h1;exact .inr ⟨j,o',h3,h2⟩
def Tr.of_iff{M M':Nat->Prop}(h:∀b,M' b↔M b):Tr M M' w w :=
 ⟨λb hb _=>⟨λhm=>hb ((h b).1 hm),rfl⟩,λ_ c _ fr hb=>⟨c,fr,hb,rfl⟩⟩
def jE.tr{r:Bool}{bl bl':Nat->Option Nat}{M M':Nat->Prop}{v:Value}{x:AV}(h:jE r bl M w v x)(ht:Tr M M' w w')(hb:r=true->∀id,mC id x=true->bl' id=bl id):jE r bl' M' w' v x:=by
 cases r
 .exact IRel.tr h ht.keep
 .exact bV.tr h ht (hb rfl)
def jE.one{r:Bool}{M:Nat->Prop}{v:Value}{x:AV}(h:jE r bl M w v x):jU v:=by
 cases r
 .exact IRel.one h
 .exact bV.one h
def Zr(i:Nat)(o:aj):(ee i o).t=o.t:=by unfold ee;split<;>rfl
def Ai(i:Nat)(o:aj):(ee i o).st=o.st:=by unfold ee;split<;>rfl
def su(i:Nat)(o:aj):(ee i o).isRec=o.isRec:=by unfold ee;split<;>rfl
def Zq(i:Nat)(o:aj):(ee i o).k=o.k:=by unfold ee;split<;>rfl
def L9{M MF:Nat->Prop}{i:Nat}{o:aj}{b:Nat}(hO:HX bl M MF w o b):HX bl M MF w (ee i o) b:=by
 obtain⟨c1,fr,h2,h3,h4,h5,h6,h7⟩:=hO;by_cases hr:o.isRec=true
 .refine⟨c1,fr,by rw[Zr];exact h2,h3,h4,?_,?_,?_⟩
  .intro k r hk;rw[Ai];simp only[ee,hr,dP,fR,dc]at hk;obtain⟨r0,h0,rfl⟩:=hk;simpa using h5 k r0 h0
  .rw[Ai];simpa[ee,hr]using h6
  .intro k j r x hk hx;rw[Ai,su];simp only[ee,hr,dP,fR,dc]at hk;obtain⟨r0,h0,rfl⟩:=hk;simp only[fR,dc]at hx;obtain⟨x0,hx0,rfl⟩:=hx;obtain⟨v,hv1,hv2⟩:=h7 k j r0 x0 h0 hx0;refine⟨v,hv1,?_⟩;rw[hr]at hv2⊢;unfold oA;split
   .exact IRel.toC (bl:=bl) (.any v (bV.one (bl:=bl) hv2))
   .exact hv2
 .have e:ee i o=o:=by simp[ee,hr]
  rw[e];exact⟨c1,fr,h2,h3,h4,h5,h6,h7⟩
def aH.purge(s:aH c bl g h a w)(i:Nat):aH c bl (λk=>i_ i (g k)) (λj=>(h j).map (ee i)) a w:=by
 have hm:∀b,bz bl c.MF (λj=>(h j).map (ee i)) b↔bz bl c.MF h b:=bz.congr (λj=>by simp);have ht:=Tr.of_iff (w:=w) hm;refine⟨s.defers,s.size,λk=>?_,⟨λid o hi=>?_,λid id' o o' b h1 h2=>?_⟩,s.step,λid o b h1=>?_,s.stab,s.mf⟩
 .show aY _ _ _ _ (i_ i (g k));unfold i_;split
  .trivial
  .exact(s.env k).tr ht (λ_ _=>rfl)
 .simp only[dc]at hi;obtain⟨o0,h0,rfl⟩:=hi;rcases s.heap.1 id o0 h0 with h1|⟨b,h1,⟨hk0,hO⟩|hsp⟩
  .refine .inl ⟨?_,by rw[su];exact h1.2.1,h1.2.2⟩;simp[ee,h1.2.1,h1.1]
  .refine .inr ⟨b,h1,.inl ⟨by rw[Zq];exact hk0,?_⟩⟩;obtain⟨c1,fr,h2,h3,h4,h5,h6,h7⟩:=L9 (i:=i) hO
   exact⟨c1,fr,h2,h3,h4,h5,h6,λk j r x hk hx=>by
    obtain⟨v,hv1,hv2⟩:=h7 k j r x hk hx;exact⟨v,hv1,hv2.tr ht (λ_ _ _=>rfl)⟩⟩
  .refine .inr ⟨b,h1,.inr ?_⟩;rw[show ee i o0=o0 by simp[ee,hsp.isRec]];exact hsp.tr rfl ht.keep
 .simp only[dc]at h1 h2;obtain⟨o1,h1,_⟩:=h1;obtain⟨o2,h2,_⟩:=h2;exact s.heap.2 id id' o1 o2 b h1 h2
 .simp only[dc]at h1;obtain⟨o1,h1,_⟩:=h1;exact s.own id o1 b h1
def cN(i:Nat)(g:Nat->AV)(h:Nat->Option aj):Prop :=
 (∀k,mV i (g k)=false)/\∀j o,h j=some o->o.isRec=true->∀r∈o.rows,∀x∈r,mC i x=false
def T8(i:Nat)(x:AV):mC i (oA i x)=false:=by
 unfold oA;split
 .rfl
 .simp_all
def oE(i:Nat)(g:Nat->AV)(h:Nat->Option aj):cN i (λk=>i_ i (g k)) (λj=>if j=i then none else(h j).map (ee i)):=by
 refine⟨λk=>?_,λj o hj hr r hmr x hmx=>?_⟩
 .show mV i (i_ i (g k))=false;unfold i_;split
  .rfl
  .simp_all
 .by_cases hji:j=i
  .simp[hji]at hj
  .simp only[hji,fS,dc]at hj;obtain⟨o0,h0,rfl⟩:=hj;rw[su]at hr;simp only[ee,hr,dP,dN]at hmr;obtain⟨r0,_,rfl⟩:=hmr;simp only[dN]at hmx;obtain⟨x0,_,rfl⟩:=hmx;exact T8 i x0
def aH.kill(s:aH c bl g h a w)(i:Nat):aH c bl (λk=>i_ i (g k)) (λj=>if j=i then none else(h j).map (ee i)) a w :=
 (s.purge i).weaken (λ_=>.inr rfl) (λj o hj=>by
  by_cases hji:j=i
  .simp[hji]at hj
  .simpa[hji]using hj)
def MR(bl:Nat->Option Nat)(M:Nat->Prop)(w:World)(o:aj)(cs:Array Value):Prop :=
 (∀(i:Nat)(r:List AV),o.rows[i]?=some r->r.length=o.st)/\o.rows.length*o.st<=cs.size /\
 ∀(i j:Nat)(r:List AV)(x:AV),o.rows[i]?=some r->r[j]?=some x->∃v,cs[i*o.st+j]?=some v/\jE o.isRec bl M w v x
def aH.new(s:aH c bl g h a w){i:Nat}{o:aj}{cs:Array Value}{fr:Nat×Nat}(hi:h i=none)(hu:cN i g h)
  (hid:i<1000\/2000<=i) (hw:w'.heap=w.heap.push (.cells cs o.t fr)) (hos:w'.os=w.os) (hout:w'.output=w.output) (uf:eD cs fr)
  (hc:MR bl (bz bl c.MF h) w o cs) (hno:o.isRec=true->∀r∈o.rows,∀x∈r,mC i x=false) (hkc:o.k=Kd.cells:=by rfl) :
  aH c (dQ bl i (some w.heap.size)) g (dQ h i (some o)) a w':=by
 have hbl:∀j,j≠i->dQ bl i (some w.heap.size) j=bl j:=λj hj=>bX _ _ hj;have hlt:∀j oj b,h j=some oj->bl j=some b->b<w.heap.size:=λj oj b h1 h2=>by
  rcases s.heap.1 j oj h1 with h3|⟨b',h3,⟨_,c1,f1,h4,_⟩|hsp⟩
  .rw[h3.2.2]at h2;cases h2
  .rw[h2]at h3;cases h3;exact aQ h4
  .rw[h2]at h3;cases h3;exact hsp.rel.lt
 have hmut:∀b,bz (dQ bl i (some w.heap.size)) c.MF (dQ h i (some o)) b->bz bl c.MF h b\/b=w.heap.size:=by
  rintro b (hm|⟨j,oj,h1,h2⟩)
  .exact .inl (.inl hm)
  .by_cases hj:j=i
   .subst hj;rw[bC]at h2;cases h2;exact .inr rfl
   .rw[bX _ _ hj]at h1 h2;exact .inl (.inr ⟨j,oj,h1,h2⟩)
 have hpush:∀b,b<w.heap.size->w'.heap[b]? = w.heap[b]?:=λb hb=>by
  rw[hw,zy];simp[Nat.ne_of_lt hb]
 have ht:Tr (bz bl c.MF h) (bz (dQ bl i (some w.heap.size)) c.MF (dQ h i (some o))) w w':=by
  refine⟨λb hb hlt'=>⟨λhm=>?_,hpush b hlt'⟩,λb c1 t f1 hb=>⟨c1,f1,by rw[hpush b (aQ hb)];exact hb,rfl⟩⟩;rcases hmut b hm with hm|hm
  .exact hb hm
  .exact absurd hm (Nat.ne_of_lt hlt')
 refine⟨s.defers,s.size,λk=>(s.env k).tr ht (λid hmi=>hbl id (λe=>?_)),⟨λid o1 h1=>?_,λid id' o1 o2 b h1 h2 h3 h4=>?_⟩,?_,λid o1 b h1 h2=>?_,λid h1 h2=>?_,s.mf⟩
 .subst e;rw[hu.1 k]at hmi;cases hmi
 .by_cases hj:id=i
  .subst hj;rw[bC]at h1;cases h1;refine .inr ⟨w.heap.size,bC _ _ _,.inl ⟨hkc,cs,fr,by rw[hw];simp,uf,λhm=>?_,hc.1,hc.2.1,λk j r x hk hx=>?_⟩⟩
   .exact absurd (s.mf _ hm) (Nat.not_lt.2 s.step.size)
   .obtain⟨v,hv1,hv2⟩:=hc.2.2 k j r x hk hx;refine⟨v,hv1,hv2.tr ht (λhr id hmi=>hbl id (λe=>?_))⟩;subst e;rw[hno hr r (nF hk) x (nF hx)]at hmi;cases hmi
  .rw[bX _ _ hj]at h1;rcases s.heap.1 id o1 h1 with h3|⟨b,h3,⟨hk0,c1,f1,h4,h5,h6,h7,h8,h9⟩|hsp⟩
   .exact .inl ⟨h3.1,h3.2.1,by rw[hbl id hj];exact h3.2.2⟩
   rotate_left
   .exact .inr ⟨b,by rw[hbl id hj];exact h3,.inr (hsp.tr (hpush b hsp.rel.lt) ht.keep)⟩
   .refine .inr ⟨b,by rw[hbl id hj];exact h3,.inl ⟨hk0,c1,f1,by rw[hpush b (aQ h4)];exact h4,h5,h6,h7,h8,λk j r x hk hx=>?_⟩⟩;obtain⟨v,hv1,hv2⟩:=h9 k j r x hk hx;refine⟨v,hv1,hv2.tr ht (λhr id' hmi=>hbl id' (λe=>?_))⟩;subst e;rw[hu.2 id o1 h1 hr r (nF hk) x (nF hx)]at hmi;cases hmi
 .by_cases hj:id=i<;>by_cases hj':id'=i
  .rw[hj,hj']
  .subst hj;rw[bC]at h3;cases h3;rw[bX _ _ hj']at h2 h4;exact absurd (hlt _ _ _ h2 h4) (Nat.lt_irrefl _)
  .subst hj';rw[bC]at h4;cases h4;rw[bX _ _ hj]at h1 h3;exact absurd (hlt _ _ _ h1 h3) (Nat.lt_irrefl _)
  .rw[bX _ _ hj]at h1 h3;rw[bX _ _ hj']at h2 h4;exact s.heap.2 _ _ _ _ _ h1 h2 h3 h4
 .refine s.step.trans (X:=λ_=>False) ⟨by rw[hw];simp,λb hb _=>hpush b hb,ht.shape,hos,hout⟩ (λ_ _ h=>h.elim)
 .by_cases hj:id=i
  .subst hj;rw[bC]at h2;cases h2;exact .inl s.step.size
  .rw[bX _ _ hj]at h1 h2;exact s.own id o1 b h1 h2
 .rw[hbl id (by omega)];exact s.stab id h1 h2
def aH.new0(s:aH c bl g h a w){i:Nat}{o:aj}(hi:h i=none)(hu:cN i g h)(hid:i<1000\/2000<=i)(hrows:o.rows=[])(hrec:o.isRec=false) :
  aH c (dQ bl i none) g (dQ h i (some o)) a w:=by
 have hbl:∀j,j≠i->dQ bl i none j=bl j:=λj hj=>bX _ _ hj;have hmut:∀b,bz (dQ bl i none) c.MF (dQ h i (some o)) b->bz bl c.MF h b:=by
  rintro b (hm|⟨j,oj,h1,h2⟩)
  .exact .inl hm
  .by_cases hj:j=i
   .subst hj;rw[bC]at h2;cases h2
   .rw[bX _ _ hj]at h1 h2;exact .inr ⟨j,oj,h1,h2⟩
 have ht:Tr (bz bl c.MF h) (bz (dQ bl i none) c.MF (dQ h i (some o))) w w :=
  ⟨λb hb _=>⟨λhm=>hb (hmut b hm),rfl⟩,λb c1 t f1 hb=>⟨c1,f1,hb,rfl⟩⟩
 refine⟨s.defers,s.size,λk=>(s.env k).tr ht (λid hmi=>hbl id (λe=>?_)),⟨λid o1 h1=>?_,λid id' o1 o2 b h1 h2 h3 h4=>?_⟩,s.step,λid o1 b h1 h2=>?_,λid h1 h2=>?_,s.mf⟩
 .subst e;rw[hu.1 k]at hmi;cases hmi
 .by_cases hj:id=i
  .subst hj;rw[bC]at h1;cases h1;exact .inl ⟨hrows,hrec,bC _ _ _⟩
  .rw[bX _ _ hj]at h1;rcases s.heap.1 id o1 h1 with h3|⟨b,h3,⟨hk0,c1,f1,h4,h5,h6,h7,h8,h9⟩|hsp⟩
   .exact .inl ⟨h3.1,h3.2.1,by rw[hbl id hj];exact h3.2.2⟩
   rotate_left
   .exact .inr ⟨b,by rw[hbl id hj];exact h3,.inr (hsp.tr rfl ht.keep)⟩
   .refine .inr ⟨b,by rw[hbl id hj];exact h3,.inl ⟨hk0,c1,f1,h4,h5,h6,h7,h8,λk j r x hk hx=>?_⟩⟩;obtain⟨v,hv1,hv2⟩:=h9 k j r x hk hx;refine⟨v,hv1,hv2.tr ht (λhr id' hmi=>hbl id' (λe=>?_))⟩;subst e;rw[hu.2 id o1 h1 hr r (nF hk) x (nF hx)]at hmi;cases hmi
 .by_cases hj:id=i
  .subst hj;rw[bC]at h3;cases h3
  .by_cases hj':id'=i
   .subst hj';rw[bC]at h4;cases h4
   .rw[bX _ _ hj]at h1 h3;rw[bX _ _ hj']at h2 h4;exact s.heap.2 _ _ _ _ _ h1 h2 h3 h4
 .by_cases hj:id=i
  .subst hj;rw[bC]at h2;cases h2
  .rw[bX _ _ hj]at h1 h2;exact s.own id o1 b h1 h2
 .rw[hbl id (by omega)];exact s.stab id h1 h2
def aH.writeF(s:aH c bl g h a w){i b:Nat}{o o':aj}{c1 c2:Array Value}{fr fr2:Nat×Nat}(hi:h i=some o)(hb:bl i=some b)
  (h1:w.heap[b]?=some (.cells c1 o.t fr)) (h2:w'.heap[b]?=some (.cells c2 o.t fr2)) (uf:eD c2 fr2) (hsz:c2.size=c1.size) (hsize:w'.heap.size=w.heap.size)
  (hother:∀b',b'≠b->w'.heap[b']? = w.heap[b']?) (hos:w'.os=w.os) (hout:w'.output=w.output) (ht':o'.t=o.t)
  (hc:MR bl (bz bl c.MF h) w o' c2) (hkc:o'.k=o.k:=by rfl):aH c bl g (dQ h i (some o')) a w':=by
 have hm:∀b,bz bl c.MF (dQ h i (some o')) b↔bz bl c.MF h b:=bz.congr (λj=>by
  by_cases hj:j=i
  .subst hj;simp[bC,hi]
  .rw[bX _ _ hj])
 have hmb:bz bl c.MF h b:=.inr ⟨i,o,hi,hb⟩;have hshape:∀(b':Nat)(c0:Array Value)(t:TypeId)(f0:Nat×Nat),w.heap[b']?=some (.cells c0 t f0)->∃(c':Array Value)(f1:Nat×Nat),w'.heap[b']?=some (.cells c' t f1)/\c'.size=c0.size:=by
  intro b' c0 t f0 hb';by_cases hbb:b'=b
  .subst hbb;rw[h1]at hb';cases hb';exact⟨c2,fr2,h2,hsz⟩
  .exact⟨c0,f0,by rw[hother b' hbb];exact hb',rfl⟩
 have ht:Tr (bz bl c.MF h) (bz bl c.MF (dQ h i (some o'))) w w' :=
  ⟨λb' hb' _=>⟨λhmm=>hb' ((hm b').1 hmm),hother b' (λe=>hb' (e▸hmb))⟩,hshape⟩
 refine⟨s.defers,s.size,λk=>(s.env k).tr ht (λ_ _=>rfl),⟨λid o1 h3=>?_,λid id' o1 o2 b' h3 h4=>?_⟩,?_,λid o1 b' h3=>?_,s.stab,s.mf⟩
 .by_cases hj:id=i
  .subst hj;rw[bC]at h3;cases h3;have hcell:o.k=Kd.cells/\¬c.MF b:=by
    rcases s.heap.1 id o hi with hn|⟨b',hb',⟨hk0,c0,f0,g4,g5,g6,_⟩|hsp⟩
    .rw[hn.2.2]at hb;cases hb
    .rw[hb]at hb';cases hb';exact⟨hk0,g6⟩
    .rw[hb]at hb';cases hb';refine⟨?_,hsp.free⟩;have hr:=hsp.rel;cases hkk:o.k with
     | cells=>rfl
     | it s pos=>rw[hkk]at hr;have:=hr.symm.trans h1;cases this
     | mp es=>rw[hkk]at hr;obtain⟨es',hr,_⟩:=hr;rw[h1]at hr;cases hr
     | mi l la=>rw[hkk]at hr;rcases hr with⟨_,_,hr⟩|⟨_,_,_,hr,_⟩<;>(rw[h1]at hr;cases hr)
   refine .inr ⟨b,hb,.inl ⟨hkc.trans hcell.1,c2,fr2,by rw[ht'];exact h2,uf,hcell.2,hc.1,hc.2.1,λk j r x hk hx=>?_⟩⟩;obtain⟨v,hv1,hv2⟩:=hc.2.2 k j r x hk hx;exact⟨v,hv1,hv2.tr ht (λ_ _ _=>rfl)⟩
  .rw[bX _ _ hj]at h3;rcases s.heap.1 id o1 h3 with g3|⟨b',g3,⟨hk0,c0,f0,g4,g5,g6,g7,g8,g9⟩|hsp⟩
   .exact .inl g3
   rotate_left
   .have hbb:b'≠b:=λe=>hj (s.heap.2 id i o1 o b h3 hi (e▸g3) hb);exact .inr ⟨b',g3,.inr (hsp.tr (hother b' hbb) ht.keep)⟩
   .have hbb:b'≠b:=λe=>hj (s.heap.2 id i o1 o b h3 hi (e▸g3) hb);refine .inr ⟨b',g3,.inl ⟨hk0,c0,f0,by rw[hother b' hbb];exact g4,g5,g6,g7,g8,λk j r x hk hx=>?_⟩⟩;obtain⟨v,hv1,hv2⟩:=g9 k j r x hk hx;exact⟨v,hv1,hv2.tr ht (λ_ _ _=>rfl)⟩
 .have key:∀{j oj},dQ h i (some o') j=some oj->∃o0,h j=some o0:=λ{j oj} hj=>by
   by_cases hji:j=i
   .subst hji;exact⟨o,hi⟩
   .rw[bX _ _ hji]at hj;exact⟨oj,hj⟩
  obtain⟨p,hp⟩:=key h3;obtain⟨q,hq⟩:=key h4;exact s.heap.2 id id' p q b' hp hq
 .refine s.step.trans (X:=λb'=>b'=b) ⟨Nat.le_of_eq hsize.symm,λb' _ hb'=>hother b' hb',hshape,hos,hout⟩ (λb' hlt hb'=>?_);subst hb';rcases s.own i o b' hi hb with h5|h5
  .exact absurd hlt (Nat.not_lt.2 h5)
  .exact h5
 .by_cases hj:id=i
  .subst hj;exact s.own id o b' hi
  .rw[bX _ _ hj]at h3;exact s.own id o1 b' h3
def aH.write(s:aH c bl g h a w){i b:Nat}{o o':aj}{c1 c2:Array Value}{fr:Nat×Nat}(hi:h i=some o)(hb:bl i=some b)
  (h1:w.heap[b]?=some (.cells c1 o.t fr)) (h2:w'.heap[b]?=some (.cells c2 o.t fr)) (hsz:c2.size=c1.size) (hsize:w'.heap.size=w.heap.size)
  (hother:∀b',b'≠b->w'.heap[b']? = w.heap[b']?) (hos:w'.os=w.os) (hout:w'.output=w.output) (ht':o'.t=o.t)
  (hc:MR bl (bz bl c.MF h) w o' c2) (hkc:o'.k=o.k:=by rfl):aH c bl g (dQ h i (some o')) a w':=by
 refine s.writeF hi hb h1 h2 ?_ hsz hsize hother hos hout ht' hc hkc;rcases s.heap.1 i o hi with hn|⟨b',hb',⟨_,c0,f0,g4,g5,_⟩|hsp⟩
 .rw[hn.2.2]at hb;cases hb
 rotate_left
 .rw[hb]at hb';cases hb';exfalso;have hr:=hsp.rel;cases hkk:o.k with
  | cells=>rw[hkk]at hr;exact hr
  | it s pos=>rw[hkk]at hr;have:=hr.symm.trans h1;cases this
  | mp es=>rw[hkk]at hr;obtain⟨es',hr,_⟩:=hr;rw[h1]at hr;cases hr
  | mi l la=>rw[hkk]at hr;rcases hr with⟨_,_,hr⟩|⟨_,_,_,hr,_⟩<;>(rw[h1]at hr;cases hr)
 .rw[hb]at hb';cases hb';rw[h1]at g4;cases g4;unfold eD at g5⊢;rw[hsz];exact g5
def pH(i:Nat)(o:aj)(x:AV):AV :=
 match x with
 | .ms id st off len=>if id=i then(if st=o.st/\off+len<=o.rows.length then .sl st ((o.rows.drop off).take len)else .any)else x
 | .mp id st row off=>if id=i then(if st=o.st then(match o.rows[row]? with|some r=>.ip (r.drop off)|none=>.any)else .any)else x
 | .mm id k=>if id=i then(match k,o.k with|true,.mp es=>.fm es|_,_=>.any)else x
 | x=>x
def vg(i:Nat)(o:aj)(x:AV):AV :=
 match x with
 | .fn f caps=>.fn f (caps.map (pH i o))
 | x=>pH i o x
def AU(i:Nat)(o:aj)(x:AV):AV :=
 match x with
 | .agg cells=>.agg (cells.map (vg i o))
 | x=>vg i o x
def s_(i:Nat)(o:aj)(x:AV):AV :=
 match x with
 | .tup vs=>.tup (vs.map (AU i o))
 | x=>AU i o x
def jo(i:Nat)(o:aj)(o1:aj):aj:=if o1.isRec then{o1 with rows:=o1.rows.map (λr=>r.map (vg i o))}else o1
def aR.mapRight{α β:Type}{R R':α->β->Prop}{f:β->β}:∀{l:List α}{m:List β},aR R l m->(∀a b,R a b->R' a (f b))->aR R' l (m.map f)
 | [],[],_,_=>trivial
 | _::_,_::_,h,hf=>⟨hf _ _ h.1,h.2.mapRight hf⟩
 | [],_::_,h,_=>h.elim
 | _::_,[],h,_=>h.elim
def AW{M M':Nat->Prop}{MF:Nat->Prop}{i b:Nat}{o:aj}{v:Value}{x:AV}(ht:Tr M M' w w)(hM':¬M' b)(hO:(o.rows=[]/\bl i=none)\/(bl i=some b/\n7 bl M MF w o b))(hrec:o.isRec=false)
  (hx:dS bl M w v x):dS bl M' w v (pH i o x):=by
 have same:dS bl M' w v x:=hx.tr ht (λ_ _=>rfl);cases x<;>try exact same
 case ms id st off len =>
  simp only[pH];split
  case isFalse=>exact same
  rename_i hid;subst hid;have hone:=dS.one hx;split
  case isFalse=>exact IRel.any v hone
  rename_i hcond;obtain⟨rfl,hlen⟩:=hcond;simp only[dS]at hx;rcases hx with⟨rfl,rfl,rfl⟩|⟨rfl,_,a1,cap,rfl,_⟩|⟨b',cap,c,t,fr,h1,rfl,h3,h4,h5⟩
  .simp only[iO];exact IRel.nls _
  .simp only[iO];show IRel M' w _ _;exact IRel.sl0 _ a1 cap
  .rcases hO with hO|⟨hb,⟨_,c1,f1,g2,g3,g4,g5,g6,g7⟩|hsp⟩
   .rw[hO.2]at h1;cases h1
   rotate_left
   .rw[hb]at h1;cases h1;exact(hsp.ne h4).elim
   .rw[hb]at h1;cases h1;have hlen':((o.rows.drop off).take len).length=len:=by simp;omega
    have key:=IRel.sl (M:=M') (w:=w) b (off*o.st) cap o.st c1 o.t f1 ((o.rows.drop off).take len) (λk j=>(c1[off*o.st+k*o.st+j]?).getD default) g2 hM' (by omega)
     (λk r hk=>by
      have:o.rows[off+k]?=some r:=by
       rw[x9]at hk;split at hk
       .simpa using hk
       .cases hk
      exact g5 _ _ this)
     (λk j hk hj=>by
      have hk':off+k<o.rows.length:=by omega
      have e1:o.rows[off+k]?=some o.rows[off+k]:=jZ hk';have hl:=g5 _ _ e1;have e2:(o.rows[off+k])[j]?=some (o.rows[off+k])[j]:=jZ (by omega);obtain⟨u,hu,_⟩:=g7 _ _ _ _ e1 e2;have e3:off*o.st+k*o.st+j=(off+k)*o.st+j:=by rw[iP]
      rw[e3,hu];rfl)
     (λk j r x hk hx=>by
      have hk':o.rows[off+k]?=some r:=by
       rw[x9]at hk;split at hk
       .simpa using hk
       .cases hk
      obtain⟨u,hu,hr⟩:=g7 _ _ _ _ hk' hx;have e3:off*o.st+k*o.st+j=(off+k)*o.st+j:=by rw[iP]
      simp only[e3,hu,gb];rw[hrec]at hr;exact IRel.tr hr ht.keep)
    rw[hlen']at key;exact key
 case mm id k =>
  simp only[pH];split
  case isFalse=>exact same
  rename_i hid;subst hid;split
  case h_2=>exact IRel.any v (dS.one hx)
  rename_i es hk;simp only[dS,dP]at hx;obtain⟨b',h1,rfl⟩:=hx;rcases hO with hO|⟨hb,⟨hc,_⟩|hsp⟩
  .rw[hO.2]at h1;cases h1
  .rw[hk]at hc;cases hc
  .rw[hb]at h1;cases h1;have hr:=hsp.rel;rw[hk]at hr;obtain⟨es',q1,q2,q3⟩:=hr;exact IRel.fm b es' es q1 hM' q2 q3
 case mp id st row off =>
  simp only[pH];split
  case isFalse=>exact same
  rename_i hid;subst hid;have hone:=dS.one hx;split
  case isFalse=>exact IRel.any v hone
  rename_i hst;subst hst;split
  case h_2=>exact IRel.any v hone
  rename_i r hr;simp only[dS]at hx;obtain⟨b',h1,rfl⟩:=hx;rcases hO with hO|⟨hb,⟨_,c1,f1,g2,g3,g4,g5,g6,g7⟩|hsp⟩
  .rw[hO.2]at h1;cases h1
  rotate_left
  .exact(hsp.no hr).elim
  .rw[hb]at h1;cases h1;have cell:∀(j:Nat)(x:AV),(r.drop off)[j]?=some x->∃u,c1[row*o.st+off+j]?=some u/\IRel M' w u x:=λj x hx=>by
    rw[FD]at hx;obtain⟨u,hu,hr'⟩:=g7 _ _ _ _ hr hx;rw[hrec]at hr';exact⟨u,by rw[<-hu];congr 1;omega,IRel.tr hr' ht.keep⟩
   exact IRel.ip b (row*o.st+off) c1 o.t f1 (r.drop off) (λj=>(c1[row*o.st+off+j]?).getD default) g2 hM'
    (λj hj=>by
     obtain⟨u,hu,_⟩:=cell j _ (jZ hj);rw[hu];rfl)
    (λj x hx=>by
     obtain⟨u,hu,hr'⟩:=cell j x hx;simp only[hu,gb];exact hr')
end
inductive IV where
 | s (k:Nat)
 | c (x:AV)
 deriving Inhabited
inductive LK where
 | b
 | i
 | s
 deriving Inhabited
inductive KK where
 | i
 | s
 | b
 deriving Inhabited
inductive MK where
 | rng
 | nxt
 | rgm
 | nmi
 | ent
 | mkm
 | mln
 | mlk (ok:Bool) (kd:KK) (z:AV)
 | mup (kd:KK)
 | mnt (kd:KK) (z:AV)
 | mst
 deriving Inhabited
inductive lR where
 | mov (x:IV)
 | pick (c a b:IV)
 | new (t:TypeId) (cells:List AV)
 | box (t:TypeId) (n:Nat) (x:IV)
 | build (cells:List AV) (parts:List (Nat×Nat×IV))
 | bsl (t:TypeId) (st:Nat) (rows:List (List AV)) (parts:List (Nat×IV))
 | load (n:Option Nat) (p:IV)
 | store (n:Nat) (p x:IV)
 | fadr (off:Nat) (p:IV)
 | fld (off:Nat) (n:Option Nat) (x:IV)
 | iadr (st:Nat) (x i:IV)
 | aadr (st n:Nat) (x i:IV)
 | mnx (mx:Bool) (x y:IV)
 | cpy (st:Nat) (x y:IV)
 | cvm (x:IV)
 | sib (x y:IV)
 | mop (k:MK) (xs:List IV)
 | slc (st:Nat) (x:IV) (lo hi mx:Option IV)
 | len (x:IV)
 | app (t:TypeId) (st:Nat) (x y:IV)
 | slen (x:IV)
 | sslc (x:IV) (lo hi:Option IV)
 | apps (t:TypeId) (x y:IV)
 | bin (op:BinOp) (x y:IV)
 | bbin (op:BinOp) (x y:IV)
 | pbin (op:BinOp) (x y:IV)
 | sbin (op:BinOp) (ls:List LK) (x y:IV)
 | un (op:UnOp) (x:IV)
 | cvi (k:IntKind) (x:IV)
 | cvs (x:IV)
 | cvt (x:IV)
 | cvb (t:TypeId) (x:IV)
 | call (f:FuncId) (args:List IV)
 | callv (f:IV) (args:List IV)
 | ext (x:IV) (i:Nat)
 | nchk (x:IV)
 | mkf (f:FuncId) (caps:List IV)
 | sidx (x i:IV)
 | snl (neg:Bool) (x:IV)
 | mks (t:TypeId) (st:Nat) (zero:List AV) (len cap:IV)
 deriving Inhabited
structure bj where
 dst:Option Nat
 op:lR
 g:Option (Nat×Bool)
 deriving Inhabited
inductive aW where
 | no
 | put (i:Nat) (o:aj)
 | new (i:Nat) (o:aj)
 | reb (i:Nat) (o:aj)
 deriving Inhabited
def val(g:Nat->AV):IV->AV
 | .s k=>g k
 | .c x=>x
def fX:AV->Option (List AV)
 | .agg cs=>some cs
 | .tup _=>none
 | .any=>none
 | x=>some [x]
def n_:AV->Bool
 | .ms ..=>false
 | .mm ..=>false
 | .mp ..=>false
 | .fn ..=>false
 | .agg _=>false
 | .tup _=>false
 | _=>true
def fk(st:Nat)(h:Nat->Option aj):AV->Option (List (List AV))
 | .nl=>some []
 | .sl st' rows=>if st'=st then some rows else none
 | .ms id st' off len=>match h id with
  | some o=>if st'=st/\o.st=st/\o.isRec=false/\off+len<=o.rows.length then some ((o.rows.drop off).take len)else none
  | none=>none
 | _=>none
def qJ(st:Nat)(h:Nat->Option aj):AV->Option (List (List AV))
 | .ms id st' off len=>match h id with
  | some o=>if st'=st/\o.st=st/\off+len<=o.rows.length then some ((o.rows.drop off).take len)else none
  | none=>none
 | x=>fk st h x
def UY:Option aj->Bool
 | some o=>o.isRec
 | none=>false
def yH(h:Nat->Option aj):AV->Bool
 | .ms id _ _ _=>UY (h id)
 | _=>false
def Kn{st:Nat}{h:Nat->Option aj}{x:AV}{rows:List (List AV)}(hr:fk st h x=some rows):qJ st h x=some rows/\yH h x=false:=by
 cases x<;>try exact⟨hr,rfl⟩
 simp only[fk,qJ,yH]at hr⊢;split at hr
 .rename_i o ho;split at hr
  .rename_i hc;exact⟨by rw[aF ⟨hc.1,hc.2.1,hc.2.2.2⟩];exact hr,by rw[ho];exact hc.2.2.1⟩
  .cases hr
 .cases hr
def E3(i:Nat)(rows:List (List AV)):Bool:=rows.all λr=>r.all λx=>!mC i x
def Vo:AV->Option (List (List AV))
 | .str s=>some (s.map λb=>[.int .u8 b.toNat])
 | _=>none
def ww(n:Option Nat)(cells:List AV):Option AV :=
 match n with
 | none=>cells[0]?
 | some n=>if n<=cells.length then some (.agg (cells.take n))else none
def lS(n:Option Nat)(p:AV)(h:Nat->Option aj):Option AV :=
 match p with
 | .ip cells=>ww n cells
 | .mp id st row off=>match h id with
  | some o=>if o.st=st then(match o.rows[row]? with|some r=>ww n (r.drop off)|none=>none)else none
  | none=>none
 | _=>none
def iC(r:List AV)(off:Nat)(cs:List AV):List AV:=r.take off++cs++r.drop (off+cs.length)
def km(n:Nat)(p x:AV)(h:Nat->Option aj):Option aW :=
 match p,fX x with
 | .mp id st row off,some cs=>match h id with
  | some o=>if o.st=st/\cs.length=n/\(o.isRec||cs.all n_)=true then(match o.rows[row]? with
   | some r=>if off+n<=r.length then some (.put id {o with rows:=o.rows.set row (iC r off cs)})else none
   | none=>none)else none
  | none=>none
 | _,_=>none
def C3(off:Nat)(p:AV):Option AV :=
 match p with
 | .ip cells=>some (.ip (cells.drop off))
 | .mp id st row o=>some (.mp id st row (o+off))
 | _=>none
def M_(off:Nat)(n:Option Nat)(x:AV):Option AV :=
 match x with
 | .agg cells=>ww n (cells.drop off)
 | _=>none
def zd(st:Nat)(x i:AV):Option AV :=
 match x,i with
 | .sl st' rows,.int _ n=>if st'=st/\0<=n then(match rows[n.toNat]? with|some r=>some (.ip r)|none=>none)else none
 | .ms id st' off len,.int _ n=>if st'=st/\0<=n/\n<len then some (.mp id st (off+n.toNat) 0)else none
 | _,_=>none
def eG(d:Nat)(x:Option AV):Option Nat :=
 match x with
 | none=>some d
 | some (.int _ n)=>if 0<=n then some n.toNat else none
 | _=>none
def FT(st:Nat)(x:AV)(lo hi mx:Option AV):Option AV :=
 match x with
 | .sl st' rows=>match eG 0 lo,eG rows.length hi,eG rows.length mx with
  | some l,some h,some m=>if st'=st/\l<=h/\h<=m/\m<=rows.length then some (.sl st ((rows.drop l).take (h-l)))else none
  | _,_,_=>none
 | .ms id st' off len=>match eG 0 lo,eG len hi,eG len mx with
  | some l,some h,some m=>if st'=st/\l<=h/\h<=m/\m<=len/\mx=none then some (.ms id st (off+l) (h-l))else none
  | _,_,_=>none
 | .nl=>match eG 0 lo,eG 0 hi,eG 0 mx with
  | some l,some h,some m=>if l=0/\h=0/\m=0 then some .nl else none
  | _,_,_=>none
 | _=>none
def ze(x:AV)(lo hi:Option AV):Option AV :=
 match x with
 | .str s=>match eG 0 lo,eG s.length hi with
  | some l,some h=>if l<=h/\h<=s.length then some (.str ((s.drop l).take (h-l)))else none
  | _,_=>none
 | _=>none
def H3:AV->Option AV
 | .sl _ rows=>some (.int .i64 rows.length)
 | .ms _ _ _ len=>some (.int .i64 len)
 | .nl=>some (.int .i64 0)
 | _=>none
def FU:AV->Option AV
 | .str s=>some (.int .i64 s.length)
 | _=>none
def pE(d:Nat)(t:TypeId)(st:Nat)(x:AV)(src:Option (List (List AV)))(h:Nat->Option aj):Option (AV×aW) :=
 match src with
 | none=>none
 | some ys=>if ys.length<137438953472 then(match x with
  | .nl=>some (.ms d st 0 ys.length,.new d ⟨t,st,ys,false⟩)
  | .ms id st' off len=>match h id with
   | some o=>if st'=st/\o.st=st/\o.t=t/\o.isRec=false/\off=0/\len<=o.rows.length/\len<137438953472/\(id<1000\/2000<=id)/\o.k.flat=true then
     some (.ms id st 0 (len+ys.length),.reb id ⟨t,st,o.rows.take len++ys,false⟩)else none
   | none=>none
  | _=>none)else none
def uB(d:Nat)(t:TypeId)(st:Nat)(x:AV)(src:Option (List (List AV)))(h:Nat->Option aj):Option (AV×aW) :=
 match src with
 | none=>none
 | some ys=>if ys.length<137438953472/\0<ys.length then(match x with
  | .nl=>some (.ms d st 0 ys.length,.new d ⟨t,st,ys,true⟩)
  | .ms id st' off len=>match h id with
   | some o=>if st'=st/\o.st=st/\o.t=t/\off=0/\len<=o.rows.length/\len<137438953472/\(id<1000\/2000<=id)/\o.k.flat=true/\E3 id (o.rows.take len++ys)=true then
     some (.ms id st 0 (len+ys.length),.reb id ⟨t,st,o.rows.take len++ys,true⟩)else none
   | none=>none
  | _=>none)else none
def Jk(op:BinOp)(k:IntKind)(a b:Int):Option Int :=
 match op with
 | .and=>some (k.wrap ((BitVec.ofInt k.bits a &&& BitVec.ofInt k.bits b).toNat))
 | .or=>some (k.wrap ((BitVec.ofInt k.bits a ||| BitVec.ofInt k.bits b).toNat))
 | .xor=>some (k.wrap ((BitVec.ofInt k.bits a ^^^ BitVec.ofInt k.bits b).toNat))
 | .andNot=>some (k.wrap ((BitVec.ofInt k.bits a &&& ~~~ (BitVec.ofInt k.bits b)).toNat))
 | _=>none
def aaB(op:BinOp)(k:IntKind)(a b:Int):Option AV :=
 match op with
 | .add=>some (.int k (k.wrap (a+b)))
 | .sub=>some (.int k (k.wrap (a-b)))
 | .mul=>some (.int k (k.wrap (a*b)))
 | .quo=>if b=0 then none else some (.int k (k.wrap (a.tdiv b)))
 | .rem=>if b=0 then none else some (.int k (a.tmod b))
 | .eql=>some (.bool (a==b))
 | .neq=>some (.bool (a != b))
 | .lss=>some (.bool (decide (a<b)))
 | .leq=>some (.bool (decide (a<=b)))
 | .gtr=>some (.bool (decide (a>b)))
 | .geq=>some (.bool (decide (a>=b)))
 | op=>(Jk op k a b).map (.int k)
def aaC(op:BinOp)(a b:List UInt8):Option AV :=
 match op with
 | .add=>if a.length+b.length<4611686018427387904 then some (.str (a++b))else none
 | .eql=>some (.bool (a==b))
 | .neq=>some (.bool (!(a==b)))
 | .lss=>some (.bool (Op.bytesLess a b))
 | .leq=>some (.bool (Op.bytesLess a b||a==b))
 | .gtr=>some (.bool (!(Op.bytesLess a b||a==b)))
 | .geq=>some (.bool (!(Op.bytesLess a b)))
 | _=>none
def uW(op:BinOp)(x y:AV):Option AV :=
 match op,x,y with
 | .shl,.int k a,.int _ b=>if b<0 then none else some (.int k (k.wrap (a*2^(min b.toNat k.bits))))
 | .shr,.int k a,.int _ b=>if b<0 then none else some (.int k (a.fdiv (2^(min b.toNat k.bits))))
 | op,.int k a,.int k' b=>if k=k' then aaB op k a b else none
 | op,.str a,.str b=>aaC op a b
 | _,_,_=>none
def C0(op:BinOp)(x y:AV):Option AV :=
 match op,x,y with
 | .eql,.bool a,.bool b=>some (.bool (a==b))
 | .neq,.bool a,.bool b=>some (.bool (!(a==b)))
 | _,_,_=>none
def CZ(st n:Nat)(x i:AV):Option AV :=
 match x,i with
 | .ip cells,.int _ j=>if 0<=j/\j<n then some (.ip (cells.drop (j.toNat*st)))else none
 | .mp id s row off,.int _ j=>if 0<=j/\j<n then some (.mp id s row (off+j.toNat*st))else none
 | _,_=>none
def KP(mx:Bool)(x y:AV):Option AV :=
 match x,y with
 | .int k n,.int k' m=>if k=k' then some (.int k (if mx then(if n<m then m else n)else(if m<n then m else n)))else none
 | _,_=>none
def zD(st:Nat)(x:AV)(src:Option (List (List AV)))(h:Nat->Option aj):Option (AV×aW) :=
 match src with
 | none=>none
 | some ys=>match x with
  | .ms id st' off len=>match h id with
   | some o=>if st'=st/\o.st=st/\o.isRec=false/\off+len<=o.rows.length then
     (if ys.length<=len then some (.int .i64 ys.length,.put id {o with rows:=o.rows.take off++ys++o.rows.drop (off+ys.length)})
     else some (.int .i64 len,.put id {o with rows:=o.rows.take off++ys.take len++o.rows.drop (off+len)}))else none
   | none=>none
  | _=>none
def Av{st:Nat}{x:AV}{src:Option (List (List AV))}{h:Nat->Option aj}{v:AV}{e:aW}(hq:zD st x src h=some (v,e)):∃i o,e = .put i o:=by
 unfold zD at hq
 repeat' (split at hq)
 all_goals first|(cases hq;done)|(cases hq;exact⟨_,_,rfl⟩)
def KN(x:AV)(h:Nat->Option aj):Option (AV×aW) :=
 match x with
 | .ms id st off len=>match h id with
  | some o=>if st=1/\o.st=1/\o.isRec=false/\0<len then some (.ms id st off len,.put id o)else none
  | none=>none
 | _=>none
def rE{x:AV}{h:Nat->Option aj}{v:AV}{e:aW}(hq:KN x h=some (v,e)):∃id st off len o,x = .ms id st off len/\h id=some o/\st=1/\o.st=1/\o.isRec=false/\0<len/\v = .ms id st off len/\e = .put id o:=by
 unfold KN at hq;split at hq
 case h_2=>cases hq
 rename_i id st off len;split at hq
 case h_2=>cases hq
 rename_i o ho;split at hq
 case isFalse=>cases hq
 rename_i hc;cases hq;exact⟨id,st,off,len,o,rfl,ho,hc.1,hc.2.1,hc.2.2.1,hc.2.2.2,rfl,rfl⟩
def Vk(s:List UInt8)(c:UInt8):Int:=firstIdx ⟨s.toArray⟩ c
def RP(x y:AV):Option AV :=
 match x,y with
 | .str s,.int .u8 n=>some (.int .i64 (Vk s n.toNat.toUInt8))
 | _,_=>none
def O0:AV->Option Bool
 | .np=>some true
 | .mp ..=>some false
 | .ip _=>some false
 | _=>none
def uC(op:BinOp)(x y:AV):Option AV :=
 match op,O0 x,y with
 | .eql,some b,.np=>some (.bool b)
 | .neq,some b,.np=>some (.bool (!b))
 | _,_,_=>none
def kE(l:LK)(x y:AV):Option Bool :=
 match l,x,y with
 | .b,.bool p,.bool q=>some (p==q)
 | .i,.int k p,.int k' q=>if k=k' then some (p==q)else none
 | .s,.str p,.str q=>some (p==q)
 | _,_,_=>none
def kj:List LK->List AV->List AV->Option Bool
 | [],[],[]=>some true
 | l::ls,x::xs,y::ys=>match kE l x y,kj ls xs ys with
  | some p,some q=>some (p&&q)
  | _,_=>none
 | _,_,_=>none
def ql(op:BinOp)(ls:List LK)(x y:AV):Option AV :=
 match op,ls,x,y with
 | .eql,l::ls,.agg xs,.agg ys=>(kj (l::ls) xs ys).map .bool
 | .neq,l::ls,.agg xs,.agg ys=>(kj (l::ls) xs ys).map λb=>.bool (!b)
 | .eql,[],.fn _ _,.nf=>some (.bool false)
 | .neq,[],.fn _ _,.nf=>some (.bool true)
 | .eql,[],.nf,.nf=>some (.bool true)
 | .neq,[],.nf,.nf=>some (.bool false)
 | _,_,_,_=>none
def aUn(op:UnOp)(x:AV):Option AV :=
 match op,x with
 | .neg,.int k n=>some (.int k (k.wrap (0-n)))
 | .xor,.int k n=>(Jk .xor k (if k.signed then -1 else k.max) n).map (.int k)
 | .not,.bool b=>some (.bool (!b))
 | _,_=>none
def lu(ρ:IV->AV):List AV->List (Nat×Nat×IV)->Option (List AV)
 | cells,[]=>some cells
 | cells,(off,n,v)::rest=>match fX (ρ v)with
  | some cs=>if cs.length=n/\off+n<=cells.length then lu ρ (iC cells off cs) rest else none
  | none=>none
def oQ(ρ:IV->AV)(st:Nat):List (List AV)->List (Nat×IV)->Option (List (List AV))
 | rows,[]=>some rows
 | rows,(i,v)::rest=>match fX (ρ v)with
  | some cs=>if cs.length=st/\i<rows.length/\cs.all n_=true then oQ ρ st (rows.set i cs) rest else none
  | none=>none
def iV(ρ:IV->AV)(st:Nat):List (List AV)->List (Nat×IV)->Option (List (List AV))
 | rows,[]=>some rows
 | rows,(i,v)::rest=>match fX (ρ v)with
  | some cs=>if cs.length=st/\i<rows.length then iV ρ st (rows.set i cs) rest else none
  | none=>none
def Jl{ρ:IV->AV}{st:Nat}:∀{ps:List (Nat×IV)}{rows out:List (List AV)},oQ ρ st rows ps=some out->iV ρ st rows ps=some out/\((∀r∈rows,∀x∈r,n_ x=true)->∀r∈out,∀x∈r,n_ x=true)
 | [],rows,out,h=>by cases h;exact⟨rfl,_root_.id⟩
 | (i,v)::r,rows,out,h=>by
  simp only[oQ,iV]at h⊢;split at h
  .rename_i cs _;split at h
   .rename_i hc;rw[aF ⟨hc.1,hc.2.1⟩];obtain⟨h1,h2⟩:=Jl h;refine⟨h1,λhr=>h2 λq hq x hx=>?_⟩;rcases List.mem_or_eq_of_mem_set hq with hq|rfl
    .exact hr q hq x hx
    .exact f_.1 hc.2.2 x hx
   .cases h
  .cases h
def Aw{ρ:IV->AV}{st:Nat}:∀{ps:List (Nat×IV)}{rows out:List (List AV)},iV ρ st rows ps=some out->out.length=rows.length
 | [],rows,out,h=>by cases h;rfl
 | (i,v)::r,rows,out,h=>by
  simp only[iV]at h;split at h
  .split at h
   .rw[Aw h,List.length_set]
   .cases h
  .cases h
def mU:List (List AV)->Option (List UInt8)
 | []=>some []
 | [.int .u8 n]::r=>(mU r).map ((UInt8.ofNat n.toNat)::·)
 | _=>none
def NR:AV->Bool
 | .any=>false
 | .fn ..=>false
 | .agg _=>false
 | .tup _=>false
 | _=>true
def xI:KK->AV->AV->Option Bool
 | .i,.int k a,.int k' b=>if k=k' then some (a==b)else none
 | .s,.str a,.str b=>some (a==b)
 | .b,.bool a,.bool b=>some (a==b)
 | _,_,_=>none
def dq(kd:KK)(key:AV):List (AV×AV)->Option (Option Nat)
 | []=>some none
 | e::r=>match xI kd key e.1 with
  | some true=>some (some 0)
  | some false=>(dq kd key r).map λq=>q.map (· + 1)
  | none=>none
def oV:AV->Bool
 | .bool _=>true
 | .int _ _=>true
 | .str _=>true
 | _=>false
def yF(kd:KK)(key x:AV)(es:List (AV×AV)):Option (List (AV×AV)) :=
 match dq kd key es with
 | some (some i)=>some (es.modify i λ_=>(key,x))
 | some none=>some (es++[(key,x)])
 | none=>none
def acn(o:aj):Option (List UInt8×Nat) :=
 match o.k with
 | .it s pos=>some (s,pos)
 | _=>none
def wQ(o:aj):Option (List (AV×AV)) :=
 match o.k with
 | .mp es=>some es
 | _=>none
def TY(o:aj):Option (AV×AV) :=
 match o.k with
 | .mi _ la=>la
 | _=>none
def RM(id:Nat)(o:aj):Option (AV×aW) :=
 match acn o with
 | some (s,pos)=>if pos<s.length then
   some (.tup [.bool true,.int .i64 pos,.int .i32 (Utf8.decode ⟨s.toArray⟩ pos).1],.put id {o with k:=.it s (pos+(Utf8.decode ⟨s.toArray⟩ pos).2)})
  else some (.tup [.bool false],.no)
 | none=>none
def uY(ok:Bool)(kd:KK)(z key:AV)(o:aj):Option (AV×aW) :=
 match wQ o with
 | some es=>match dq kd key es with
  | some (some i)=>match es[i]? with
   | some e=>some (if ok then .tup [e.2,.bool true]else e.2,.no)
   | none=>none
  | some none=>some (if ok then .tup [z,.bool false]else z,.no)
  | none=>none
 | none=>none
def Cb(id:Nat)(kd:KK)(key x:AV)(o:aj):Option (AV×aW) :=
 match wQ o with
 | some es=>if(oV key&&oV x)=true then(yF kd key x es).map λes'=>(.any,.put id {o with k:=.mp es'})else none
 | none=>none
def Nh(id:Nat)(kd:KK)(z key:AV)(o:aj):Option (AV×aW) :=
 match wQ o with
 | some es=>if oV key=true then(match dq kd key es with
  | some (some i)=>match es[i]? with
   | some e=>some (.tup [e.2,.int .i64 i],.put id o)
   | none=>none
  | some none=>some (.tup [z,.int .i64 es.length],.put id {o with k:=.mp (es++[(key,z)])})
  | none=>none)else none
 | none=>none
def KQ(id:Nat)(n:Int)(x:AV)(o:aj):Option (AV×aW) :=
 match wQ o with
 | some es=>if 0<=n/\n<es.length/\oV x=true then some (.any,.put id {o with k:=.mp (es.modify n.toNat λe=>(e.1,x))})else none
 | none=>none
def jn(d:Nat)(k:MK)(xs:List AV)(h:Nat->Option aj):Option (AV×aW) :=
 match k,xs with
 | .rng,[.str s]=>some (.mm d false,.new d (@aj.mk 0 0 [] false (.it s 0)))
 | .nxt,[.mm id false]=>(h id).bind (RM id)
 | .rgm,[.fm es]=>some (.mm d false,.new d (@aj.mk 0 0 [] false (.mi es none)))
 | .ent,[.mm id false]=>(h id).bind λo=>(TY o).map λe=>(.tup [e.1,e.2],.no)
 | .mkm,[]=>some (.mm d true,.new d (@aj.mk 0 0 [] false (.mp [])))
 | .mln,[.mm id true]=>(h id).bind λo=>(wQ o).map λes=>(.int .i64 es.length,.no)
 | .mlk ok kd z,[.mm id true,key]=>(h id).bind (uY ok kd z key)
 | .mlk ok kd z,[.fm es,key]=>uY ok kd z key (@aj.mk 0 0 [] false (.mp es))
 | .mup kd,[.mm id true,key,x]=>(h id).bind (Cb id kd key x)
 | .mnt kd z,[.mm id true,key]=>(h id).bind (Nh id kd z key)
 | .mst,[.mm id true,.int .i64 n,x]=>(h id).bind (KQ id n x)
 | _,_=>none
def wK{d:Nat}{k:MK}{xs:List AV}{h:Nat->Option aj}{v:AV}{e:aW}(hq:jn d k xs h=some (v,e)) :
  e = .no\/(∃o,e = .new d o/\(k = .rng\/k = .mkm\/k = .rgm))\/∃id b r o,xs = .mm id b::r/\e = .put id o:=by
 unfold jn at hq;split at hq
 .cases hq;exact .inr (.inl ⟨_,rfl,.inl rfl⟩)
 .simp only[pZ]at hq;obtain⟨o,_,h2⟩:=hq;unfold RM at h2;split at h2
  .split at h2
   .cases h2;exact .inr (.inr ⟨_,_,_,_,rfl,rfl⟩)
   .cases h2;exact .inl rfl
  .cases h2
 .cases hq;exact .inr (.inl ⟨_,rfl,.inr (.inr rfl)⟩)
 .simp only[pZ,dc]at hq;obtain⟨o,_,es,_,h2⟩:=hq;cases h2;exact .inl rfl
 .cases hq;exact .inr (.inl ⟨_,rfl,.inr (.inl rfl)⟩)
 .simp only[pZ,dc]at hq;obtain⟨o,_,es,_,h2⟩:=hq;cases h2;exact .inl rfl
 .simp only[pZ]at hq;obtain⟨o,_,h2⟩:=hq;unfold uY at h2
  repeat' (split at h2)
  all_goals first|(cases h2;done)|(cases h2;exact .inl rfl)
 .unfold uY at hq
  repeat' (split at hq)
  all_goals first|(cases hq;done)|(cases hq;exact .inl rfl)
 .simp only[pZ]at hq;obtain⟨o,_,h2⟩:=hq;unfold Cb at h2;split at h2
  .split at h2
   .simp only[dc]at h2;obtain⟨es',_,h2⟩:=h2;cases h2;exact .inr (.inr ⟨_,_,_,_,rfl,rfl⟩)
   .cases h2
  .cases h2
 .simp only[pZ]at hq;obtain⟨o,_,h2⟩:=hq;unfold Nh at h2
  repeat' (split at h2)
  all_goals first|(cases h2;done)|(cases h2;exact .inr (.inr ⟨_,_,_,_,rfl,rfl⟩))
 .simp only[pZ]at hq;obtain⟨o,_,h2⟩:=hq;unfold KQ at h2
  repeat' (split at h2)
  all_goals first|(cases h2;done)|(cases h2;exact .inr (.inr ⟨_,_,_,_,rfl,rfl⟩))
 .cases hq
def NL(d:Nat)(t:TypeId)(st:Nat)(x:Option (List (List AV))):Option (AV×aW) :=
 match x with
 | some rs=>some (.ms d st 0 rs.length,.new d ⟨t,st,rs,false⟩)
 | none=>none
def NN(d:Nat)(t:TypeId)(st:Nat)(x:Option (List (List AV))):Option (AV×aW) :=
 match x with
 | some rs=>if E3 d rs=true then some (.ms d st 0 rs.length,.new d ⟨t,st,rs,true⟩)else none
 | none=>none
def D8(d:Nat)(t:TypeId)(st:Nat)(x y:Option (List (List AV))):Option (AV×aW) :=
 match x with
 | some rs=>some (.ms d st 0 rs.length,.new d ⟨t,st,rs,false⟩)
 | none=>NN d t st y
def wL{d:Nat}{t:TypeId}{st:Nat}{x y:Option (List (List AV))}{v:AV}{e:aW}(h:D8 d t st x y=some (v,e)):∃o,e = .new d o:=by
 unfold D8 NN at h
 repeat' (split at h)
 all_goals first|(cases h;done)|(cases h;exact⟨_,rfl⟩)
def KS(b:Bool):AV->Option AV
 | .nl=>some (.bool (!b))
 | .sl _ (_::_)=>some (.bool b)
 | .ms _ _ _ (_+1)=>some (.bool b)
 | _=>none
def res(x:Option AV):Option (AV×aW):=x.map λv=>(v,.no)
def bQ(d:Nat)(op:lR)(ρ:IV->AV)(h:Nat->Option aj):Option (AV×aW) :=
 match op with
 | .mov x=>some (ρ x,.no)
 | .pick c a b=>match ρ c with
  | .bool true=>some (ρ a,.no)
  | .bool false=>some (ρ b,.no)
  | _=>none
 | .new t cells=>some (.mp d cells.length 0 0,.new d ⟨t,cells.length,[cells],true⟩)
 | .box t n x=>match fX (ρ x)with
  | some cs=>if cs.length=n/\(cs.all λy=>!(mC d y))=true then some (.mp d n 0 0,.new d ⟨t,n,[cs],true⟩)else none
  | none=>none
 | .build cells parts=>res ((lu ρ cells parts).map .agg)
 | .bsl t st rows parts=>D8 d t st (oQ ρ st rows parts) (iV ρ st rows parts)
 | .load n p=>res (lS n (ρ p) h)
 | .store n p x=>(km n (ρ p) (ρ x) h).map λe=>(.any,e)
 | .fadr off p=>res (C3 off (ρ p))
 | .fld off n x=>res (M_ off n (ρ x))
 | .iadr st x i=>res (zd st (ρ x) (ρ i))
 | .aadr st n x i=>res (CZ st n (ρ x) (ρ i))
 | .mnx m x y=>res (KP m (ρ x) (ρ y))
 | .cpy st x y=>zD st (ρ x) (fk st h (ρ y)) h
 | .sib x y=>res (RP (ρ x) (ρ y))
 | .cvm x=>KN (ρ x) h
 | .mop k xs=>jn d k (xs.map ρ) h
 | .slc st x lo hi mx=>res (FT st (ρ x) (lo.map ρ) (hi.map ρ) (mx.map ρ))
 | .len x=>res (H3 (ρ x))
 | .app t st x y=>pE d t st (ρ x) (fk st h (ρ y)) h
 | .apps t x y=>pE d t 1 (ρ x) (Vo (ρ y)) h
 | .slen x=>res (FU (ρ x))
 | .sslc x lo hi=>res (ze (ρ x) (lo.map ρ) (hi.map ρ))
 | .bin op x y=>res (uW op (ρ x) (ρ y))
 | .bbin op x y=>res (C0 op (ρ x) (ρ y))
 | .pbin op x y=>res (uC op (ρ x) (ρ y))
 | .sbin op ls x y=>res (ql op ls (ρ x) (ρ y))
 | .un op x=>res (aUn op (ρ x))
 | .cvi k x=>match ρ x with
  | .int _ n=>some (.int k (k.wrap n),.no)
  | _=>none
 | .cvs x=>match fk 1 h (ρ x)with
  | some rows=>res ((mU rows).map .str)
  | none=>none
 | .cvb t x=>match ρ x with
  | .str s=>if s.length<1073741824 then some (.ms d 1 0 s.length,.new d ⟨t,1,s.map λb=>[.int .u8 b.toNat],false⟩)else none
  | _=>none
 | .ext x i=>match ρ x with
  | .tup vs=>res (vs[i]?)
  | _=>none
 | .nchk x=>match ρ x with
  | .mp id st row off=>some (.mp id st row off,.no)
  | .ip cells=>some (.ip cells,.no)
  | .fn f caps=>some (.fn f caps,.no)
  | _=>none
 | .mkf f caps=>if(caps.map ρ).all NR=true then some (.fn f (caps.map ρ),.no)else none
 | .cvt x=>match ρ x with
  | .str s=>some (.str s,.no)
  | _=>none
 | .sidx x i=>match ρ x,ρ i with
  | .str s,.int _ n=>if 0<=n then(match s[n.toNat]? with|some b=>some (.int .u8 b.toNat,.no)|none=>none)else none
  | _,_=>none
 | .mks t st zero l cp=>match ρ l,ρ cp with
  | .int .i64 n,.int .i64 m=>if 0<=n/\n<=m/\m<1073741824/\zero.length=st then some (.ms d st 0 n.toNat,.new d ⟨t,st,List.replicate n.toNat zero,false⟩)else none
  | _,_=>none
 | .snl b x=>res (KS b (ρ x))
 | .call ..=>none
 | .callv ..=>none
def AA:Value->Option AV
 | .bool b=>some (.bool b)
 | .int k n=>some (.int k n)
 | .string s=>some (.str s.data.toList)
 | .slice none 0 0=>some .nl
 | .pointer none=>some .np
 | .nilFunc=>some .nf
 | .map none=>some (.fm [])
 | _=>none
def ku:List Value->Option (List AV)
 | []=>some []
 | v::r=>match AA v,ku r with
  | some x,some xs=>some (x::xs)
  | _,_=>none
def H7:Value->Option AV
 | .agg cs=>(ku cs.toList).map .agg
 | v=>AA v
def cV:Operand->Option IV
 | .tmp t=>if t<1000000 then some (.s t)else none
 | .const v=>(H7 v).map .c
 | .func f=>if f<4000000 then some (.c (.fn f []))else none
 | .global g=>some (.s (1000000+g))
def NP:List Operand->Option (List IV)
 | []=>some []
 | v::r=>match cV v,NP r with
  | some x,some xs=>some (x::xs)
  | _,_=>none
def s8:Option Operand->Option (Option IV)
 | none=>some none
 | some x=>(cV x).map some
def gK(P:Program)(t:TypeId):Option Nat:=(P.info? t).map (·.size)
def tQ(P:Program)(t:TypeId):Option (Option Nat) :=
 match P.underlying t,P.info? t with
 | some (.struct _),some i=>some (some i.size)
 | some (.array _ _),some i=>some (some i.size)
 | some _,some _=>some none
 | _,_=>none
def nX(P:Program)(t:TypeId):Option (List AV) :=
 match P.info? t with
 | some i=>match i.zero with
  | some z=>ku z.cells.toList
  | none=>none
 | none=>none
def Fv(P:Program)(fs:Array Field):Option (List (Nat×Nat)):=fs.toList.mapM (λf=>(P.info? f.type).map λi=>(f.offset,i.size))
def ye(places:List (Nat×Nat)):List (Nat×Operand)->Option (List (Nat×Nat×IV))
 | []=>some []
 | (i,x)::r=>match places[i]?,cV x,ye places r with
  | some (off,n),some v,some l=>some ((off,n,v)::l)
  | _,_,_=>none
def AC:List (Nat×Operand)->Option (List (Nat×IV))
 | []=>some []
 | (i,x)::r=>match cV x,AC r with
  | some v,some l=>some ((i,v)::l)
  | _,_=>none
def BX(f:TypeId->Option (List LK)):List Field->Nat->Option (List LK)
 | [],_=>some []
 | fd :: r,off=>if fd.offset=off∧fd.name≠"_" then (match f fd.type with
  | some l=>(match BX f r (off+l.length)with
   | some ls=>some (l++ls)
   | none=>none)
  | none=>none)else none
def pn(P:Program):Nat->TypeId->Option (List LK)
 | 0,_=>none
 | m+1,t=>match P.underlying t with
  | some .bool=>some [.b]
  | some (.int _)=>some [.i]
  | some .string=>some [.s]
  | some (.struct fs)=>if P.stoodInHeld t=true then none else(match BX (pn P m) fs.toList 0 with
   | some ls=>if tQ P t=some (some ls.length)then some ls else none
   | none=>none)
  | _=>none
def Cc(P:Program)(t:TypeId)(op:BinOp)(x y:IV):Option lR :=
 match P.underlying t with
 | some .bool=>some (.bbin op x y)
 | some (.int _)=>some (.bin op x y)
 | some .string=>some (.bin op x y)
 | some (.pointer _)=>some (.pbin op x y)
 | some (.func _ _ _)=>some (.sbin op [] x y)
 | some (.struct _)=>if P.eqGuardType P.depth t=true then none else(match pn P 20 t with
  | some (l::ls)=>some (.sbin op (l::ls) x y)
  | _=>none)
 | some (.slice _)=>match op,y with
  | .eql,.c .nl=>some (.snl false x)
  | .neq,.c .nl=>some (.snl true x)
  | _,_=>none
 | _=>none
def AB(P:Program)(src dst:TypeId)(x:IV):Option lR :=
 match P.underlying src,P.underlying dst with
 | some (.int _),some (.int k)=>some (.cvi k x)
 | some .string,some .string=>some (.cvt x)
 | some (.slice e),some .string=>match P.underlying e with
  | some (.int .u8)=>some (.cvs x)
  | _=>none
 | some .string,some (.slice e)=>match P.underlying e with
  | some (.int .u8)=>some (.cvb e x)
  | _=>none
 | some (.slice _),some (.slice e)=>match src==dst,P.underlying e with
  | true,some (.int .u8)=>some (.cvm x)
  | _,_=>none
 | _,_=>none
def bM(P:Program)(f:FuncId):Bool :=
 match P.funcs[f]? with
 | some fn=>fn.body.isSome&&fn.name != "runtime.NumGoroutine"
 | none=>false
def nJ(P:Program)(t:TypeId):Option (TypeId×Nat) :=
 match P.underlying t with
 | some (.slice e)=>match P.info? e,nX P e with
  | some i,some z=>if i.bytes<=512/\1<=i.bytes/\z.length=i.size/\1<=i.size then some (e,i.size)else none
  | _,_=>none
 | _=>none
def Yr(P:Program)(t:TypeId):Option KK :=
 match P.underlying t with
 | some (.int _)=>some .i
 | some .string=>some .s
 | some .bool=>some .b
 | _=>none
def KA(P:Program)(t:TypeId):Option AV :=
 match P.info? t with
 | some i=>match i.zero with
  | some (.bool b)=>some (.bool b)
  | some (.int k n)=>some (.int k n)
  | some (.string s)=>some (.str s.data.toList)
  | _=>none
 | none=>none
def zU(P:Program)(t:TypeId):Option (KK×AV) :=
 match P.underlying t with
 | some (.map k e)=>match Yr P k,KA P e with
  | some kd,some z=>some (kd,z)
  | _,_=>none
 | _=>none
def NO(P:Program)(f:FuncId)(args:List Operand):Option lR :=
 match P.funcs[f]? with
 | some fn=>if fn.body.isNone∧fn.name = "internal/bytealg.IndexByteString"∧(Extern.findNext fn).isNone then (match args with
  | [x,y]=>match cV x,cV y with
   | some x,some y=>some (.sib x y)
   | _,_=>none
  | _=>none)else none
 | none=>none
def mX {P:Program} {f:FuncId} {args:List Operand} {op:lR} (h:NO P f args=some op):∃fn x y xv yv,P.funcs[f]? = some fn∧fn.body=none∧fn.name = "internal/bytealg.IndexByteString"∧Extern.findNext fn=none∧args=[x,y]∧cV x=some xv∧cV y=some yv∧op = .sib xv yv:=by
 unfold NO at h;split at h
 case h_2=>cases h
 rename_i fn hf;split at h
 case isFalse=>cases h
 rename_i hn;split at h
 case h_2=>cases h
 rename_i x y;split at h
 case h_2=>cases h
 rename_i xv yv h1 h2;cases h;exact⟨fn,x,y,xv,yv,hf,by simpa using hn.1,hn.2.1,by simpa using hn.2.2,rfl,h1,h2,rfl⟩
def uD(P:Program)(c:Call):Option lR :=
 match c.callee with
 | .value (.func f)=>if bM P f then(NP c.args.toList).map (.call f)else NO P f c.args.toList
 | .value (.tmp t)=>if t<1000000 then(NP c.args.toList).map (.callv (.s t))else none
 | .value _=>none
 | .invoke _ _=>none
 | .builtin .len=>match c.argTypes.toList,c.args.toList with
  | [t],[x]=>match P.underlying t with
   | some (.slice _)=>(cV x).map .len
   | some .string=>(cV x).map .slen
   | some (.map _ _)=>(cV x).map λx=>.mop .mln [x]
   | _=>none
  | _,_=>none
 | .builtin .append=>match c.argTypes.toList,c.args.toList with
  | [t,t'],[x,y]=>match nJ P t,P.underlying t',cV x,cV y with
   | some (e,st),some (.slice _),some x,some y=>some (.app e st x y)
   | some (e,st),some .string,some x,some y=>if st=1 then some (.apps e x y)else none
   | _,_,_,_=>none
  | _,_=>none
 | .builtin .min=>match c.args.toList with
  | [x,y]=>match cV x,cV y with
   | some x,some y=>some (.mnx false x y)
   | _,_=>none
  | _=>none
 | .builtin .max=>match c.args.toList with
  | [x,y]=>match cV x,cV y with
   | some x,some y=>some (.mnx true x y)
   | _,_=>none
  | _=>none
 | .builtin .copy=>match c.argTypes.toList,c.args.toList with
  | [t,t'],[x,y]=>match P.underlying t,P.underlying t',cV x,cV y with
   | some (.slice e),some (.slice _),some x,some y=>(gK P e).map λn=>.cpy n x y
   | _,_,_,_=>none
  | _,_=>none
 | .builtin _=>none
def iH(P:Program):Op->Option lR
 | .move x=>(cV x).map .mov
 | .assign x=>(cV x).map .mov
 | .pick c a b=>match cV c,cV a,cV b with
  | some c,some a,some b=>some (.pick c a b)
  | _,_,_=>none
 | .alloc t=>(nX P t).map (.new t)
 | .box t x=>match gK P t,cV x with
  | some n,some x=>some (.box t n x)
  | _,_=>none
 | .build t parts=>match P.underlying t with
  | some (.struct fs)=>match nX P t,Fv P fs with
   | some z,some places=>(ye places parts.toList).map (.build z)
   | _,_=>none
  | some (.array _ e)=>match nX P t,P.info? e with
   | some z,some _=>if parts.toList.isEmpty=true then some (.build z [])else none
   | _,_=>none
  | _=>none
 | .buildSlice t len parts=>match P.underlying t with
  | some (.slice e)=>match nX P e,gK P e,AC parts.toList with
   | some z,some n,some ps=>if z.length=n/\1<=n/\len*n<=16777216 then some (.bsl e n (List.replicate len z) ps)else none
   | _,_,_=>none
  | _=>none
 | .load t a=>match tQ P t,cV a with
  | some n,some a=>some (.load n a)
  | _,_=>none
 | .store t a x=>match gK P t,cV a,cV x with
  | some n,some a,some x=>some (.store n a x)
  | _,_,_=>none
 | .nilCheck x=>(cV x).map .nchk
 | .binOp op t x y _=>match cV x,cV y with
  | some x,some y=>Cc P t op x y
  | _,_=>none
 | .unOp op _ x=>(cV x).map (.un op)
 | .convert s d x=>match cV x with
  | some x=>AB P s d x
  | none=>none
 | .makeFunc (.func f) first caps=>if V0 (mkI f first.isEmpty)=f/\SI (mkI f first.isEmpty)=first.size then(NP (first.toList++caps.toList)).map (.mkf (mkI f first.isEmpty))else none
 | .makeSlice t l c=>match nJ P t,cV l,cV c with
  | some (e,st),some l,some c=>(nX P e).map λz=>.mks e st z l c
  | _,_,_=>none
 | .slice t x lo hi mx=>match P.underlying t,cV x,s8 lo,s8 hi,s8 mx with
  | some (.slice e),some x,some lov,some hiv,some mxv=>if(!mx.isSome||hi.isSome)=true then(gK P e).map λn=>.slc n x lov hiv mxv else none
  | some .string,some x,some lo,some hi,some none=>some (.sslc x lo hi)
  | _,_,_,_,_=>none
 | .fieldAddr s x f=>match P.underlying s,cV x with
  | some (.struct fs),some x=>match fs[f]? with
   | some fd=>match gK P fd.type with
    | some (_+1)=>some (.fadr fd.offset x)
    | _=>none
   | none=>none
  | _,_=>none
 | .field t x f=>match P.underlying t,cV x with
  | some (.struct fs),some x=>match fs[f]? with
   | some fd=>(tQ P fd.type).map λn=>.fld fd.offset n x
   | none=>none
  | _,_=>none
 | .indexAddr t x i=>match P.underlying t,cV x,cV i with
  | some (.slice e),some x,some i=>(gK P e).map λn=>.iadr n x i
  | some (.array len e),some x,some i=>(gK P e).map λn=>.aadr n len x i
  | _,_,_=>none
 | .index t x i=>match P.underlying t,cV x,cV i with
  | some .string,some x,some i=>some (.sidx x i)
  | _,_,_=>none
 | .extract x i=>(cV x).map λx=>.ext x i
 | .range t x=>match P.underlying t,cV x with
  | some .string,some x=>some (.mop .rng [x])
  | some (.map ..),some x=>some (.mop .rgm [x])
  | _,_=>none
 | .next it true=>(cV it).map λx=>.mop .nxt [x]
 | .next it false=>(cV it).map λx=>.mop .nmi [x]
 | .entry it=>(cV it).map λx=>.mop .ent [x]
 | .makeMap _ none=>some (.mop .mkm [])
 | .lookup t m k ok=>match zU P t,cV m,cV k with
  | some (kd,z),some m,some k=>some (.mop (.mlk ok kd z) [m,k])
  | _,_,_=>none
 | .mapUpdate t m k x=>match zU P t,cV m,cV k,cV x with
  | some (kd,_),some m,some k,some x=>some (.mop (.mup kd) [m,k,x])
  | _,_,_,_=>none
 | .insert t m k x=>match zU P t,cV m,cV k,cV x with
  | some (kd,_),some m,some k,some x=>some (.mop (.mup kd) [m,k,x])
  | _,_,_,_=>none
 | .mapEntry t m k=>match zU P t,cV m,cV k with
  | some (kd,z),some m,some k=>some (.mop (.mnt kd z) [m,k])
  | _,_,_=>none
 | .entryStore _ m s x=>match cV m,cV s,cV x with
  | some m,some s,some x=>some (.mop .mst [m,s,x])
  | _,_,_=>none
 | .call c=>uD P c
 | _=>none
def nN(P:Program)(n:Nat)(ops:Array Oper)(o:Oper):Option bj :=
 match iH P o.op with
 | some op=>match (match o.dst with|some d=>decide (d<n)|none=>true),o.guard with
  | true,none=>some ⟨o.dst,op,none⟩
  | true,some (j,b)=>match (ops[j]?).bind (·.dst)with
   | some k=>some ⟨o.dst,op,some (k,b)⟩
   | none=>none
  | false,_=>none
 | none=>none
def aW.env(g:Nat->AV):aW->Nat->AV
 | .reb i _=>λk=>i_ i (g k)
 | _=>g
def aW.hp(h:Nat->Option aj):aW->Nat->Option aj
 | .no=>h
 | .put i o=>dQ h i (some o)
 | .new i o=>dQ h i (some o)
 | .reb i o=>dQ (λj=>(h j).map (ee i)) i (some o)
def aS(P:Program)(c:qL)(o:Oper)(a:Act)(w:World)(g:Nat->AV)(h:Nat->Option aj)(x:AV)(e:aW):Prop :=
 ∃r w' bl',((execOp a.eval o).run P w = .ok (.value r) w'\/((execOp a.eval o).run P w = .ok .skip w'/\r=undef)) /\
  aH c bl' (e.env g) (e.hp h) a w'/\aY bl' (bz bl' c.MF (e.hp h)) w' r x
section
variable{P:Program}{c:qL}{bl:Nat->Option Nat}{g:Nat->AV}{h:Nat->Option aj}{a:Act}{w:World}{o:Oper}
def aS.pure(s:aH c bl g h a w){r:Value}{x:AV}(hr:(execOp a.eval o).run P w = .ok (.value r) w)(hv:aY bl (bz bl c.MF h) w r x):aS P c o a w g h x .no :=
 ⟨r,w,bl,.inl hr,s,hv⟩
def C6{M:Nat->Prop}{v:Value}{x:AV}(hc:AA v=some x):IRel M w v x:=by
 unfold AA at hc;split at hc<;>try cases hc
 .exact .bool _
 .exact .int _ _
 .rename_i s;exact .str s.data.toList
 .exact .nl
 .exact .np
 .exact .nf
 .exact .nm
def u_{M:Nat->Prop}:∀{vs:List Value}{xs:List AV},ku vs=some xs->aR (IRel M w) vs xs
 | [],xs,hc=>by simp only[ku,cI]at hc;subst hc;trivial
 | v::r,xs,hc=>by
  simp only[ku]at hc;split at hc
  .rename_i x ys h1 h2;simp only[cI]at hc;subst hc;exact⟨C6 h1,u_ h2⟩
  .cases hc
def H8{M:Nat->Prop}{v:Value}{x:AV}(hc:H7 v=some x):aY bl M w v x:=by
 unfold H7 at hc;split at hc
 .rename_i cs;simp only[dc]at hc;obtain⟨xs,h1,rfl⟩:=hc;exact⟨cs.toList,by simp,(u_ h1).mono λ_ _ _ hr=>IRel.toC hr⟩
 .exact(IRel.toC (C6 hc)).toV
def aO(s:aH c bl g h a w){x:Operand}{v:IV}(hc:cV x=some v):aY bl (bz bl c.MF h) w (a.eval x) (val g v):=by
 cases x with
 | tmp t =>
  simp only[cV]at hc;split at hc
  case isFalse=>cases hc
  rename_i ht;cases hc;have:=s.env t;rw[zw ht]at this;exact this
 | const u =>
  simp only[cV,dc]at hc;obtain⟨y,h1,rfl⟩:=hc;exact H8 h1
 | func f =>
  simp only[cV]at hc;split at hc
  case isFalse=>cases hc
  rename_i ht;cases hc;exact⟨[],by simp[Act.eval,V0,SI,ht],trivial⟩
 | global k =>
  simp only[cV,cI]at hc;subst hc;have:=s.env (1000000+k);have e:tv a (1000000+k) = .pointer (some ⟨k,0,none⟩):=by
   unfold tv;rw[ax (by omega),show 1000000+k-1000000=k by omega]
  rw[e]at this;exact this
def aY.int{M:Nat->Prop}{v:Value}{k:IntKind}{n:Int}(hv:aY bl M w v (.int k n)):v = .int k n:=by
 simp only[aY,eY,bV,dS]at hv;cases hv;rfl
def aY.bool{M:Nat->Prop}{v:Value}{b:Bool}(hv:aY bl M w v (.bool b)):v = .bool b:=by
 simp only[aY,eY,bV,dS]at hv;cases hv;rfl
def aY.str{M:Nat->Prop}{v:Value}{s:List UInt8}(hv:aY bl M w v (.str s)):v = .string ⟨s.toArray⟩:=by
 simp only[aY,eY,bV,dS]at hv;cases hv;rfl
def aY.np{M:Nat->Prop}{v:Value}(hv:aY bl M w v .np):v = .pointer none:=by
 simp only[aY,eY,bV,dS]at hv;cases hv;rfl
def aY.nl{M:Nat->Prop}{v:Value}(hv:aY bl M w v .nl):v = .slice none 0 0:=by
 simp only[aY,eY,bV,dS]at hv;cases hv;rfl
def aY.mp{M:Nat->Prop}{v:Value}{id st row off:Nat}(hv:aY bl M w v (.mp id st row off)):∃b,bl id=some b/\v = .pointer (some ⟨b,row*st+off,none⟩):=hv
def aY.ip{M:Nat->Prop}{v:Value}{cells:List AV}(hv:aY bl M w v (.ip cells)):IRel M w v (.ip cells):=hv
def aY.sl{M:Nat->Prop}{v:Value}{st:Nat}{rows:List (List AV)}(hv:aY bl M w v (.sl st rows)):IRel M w v (.sl st rows):=hv
def sy{M:Nat->Prop}(k:IntKind)(n:Int):aY bl M w (.int k n) (.int k n):=IRel.int k n
def nk{M:Nat->Prop}(b:Bool):aY bl M w (.bool b) (.bool b):=IRel.bool b
def UM{M:Nat->Prop}(s:List UInt8):aY bl M w (.string ⟨s.toArray⟩) (.str s):=IRel.str s
def Qg(s:aH c bl g h a w){x:Operand}{v:IV}(ho:o.op = .move x\/o.op = .assign x)(hc:cV x=some v):aS P c o a w g h (val g v) .no:=by
 refine aS.pure s (r:=a.eval x) ?_ (aO s hc);rcases ho with ho|ho<;>simp[execOp,ho]
def Uy(s:aH c bl g h a w){x y z:Operand}{xv yv zv:IV}(ho:o.op = .pick x y z)(hx:cV x=some xv)(hy:cV y=some yv)(hz:cV z=some zv)
  {v:AV} {e:aW} (he:bQ 0 (.pick xv yv zv) (val g) h=some (v,e)):aS P c o a w g h v e:=by
 have h1:=aO s hx;simp only[bQ]at he;split at he<;>try cases he
 .rename_i hb;rw[hb]at h1;exact aS.pure s (r:=a.eval y) (by simp[execOp,ho,h1.bool,asBool]) (aO s hy)
 .rename_i hb;rw[hb]at h1;exact aS.pure s (r:=a.eval z) (by simp[execOp,ho,h1.bool,asBool]) (aO s hz)
def ok_len(s:aH c bl g h a w){t e:TypeId}{cl:Call}{x:Operand}{xv:IV}(ho:o.op = .call cl)(hcl:cl.callee = .builtin .len)(hat:cl.argTypes = #[t])(har:cl.args = #[x])
  (ht:P.underlying t=some (.slice e)) (hx:cV x=some xv) {v:AV} (he:H3 (val g xv)=some v):aS P c o a w g h v .no:=by
 have h1:=aO s hx;have key:∀(ad:Option Addr)(n cap:Nat),a.eval x = .slice ad n cap->v = .int .i64 n->aS P c o a w g h v .no:=λad n cap hv hvv=>by
  subst hvv;exact aS.pure s (r:=.int .i64 n) (by simp[execOp,ho,resolve,hcl,har,hat,invoke,builtin,Builtin.len_,underlying,ht,hv,goInt]) (sy _ _)
 cases hval:val g xv<;>rw[hval]at he h1<;>simp only[H3,cI]at he<;>try cases he
 case nl=>exact key none 0 0 h1.nl rfl
 case sl st0 rows =>
  generalize a.eval x=u at h1 key;have h2:=h1.sl;cases h2 with
  | nls st=>exact key none 0 0 rfl rfl
  | sl0 st ad cap=>exact key (some ad) 0 cap rfl rfl
  | sl b off cap st c1 t1 fr rows vs hb hM hl hr hv hx=>exact key _ _ _ rfl rfl
 case ms id st off len =>
  rcases h1 with⟨h2,h3,h4⟩|⟨h2,h3,ad,cap,h4,h40⟩|⟨b,cap,c1,t1,fr,h2,h3,h4⟩
  .exact key none 0 0 h2 (by rw[h4])
  .exact key _ 0 cap h4 (by rw[h2])
  .exact key _ _ _ h3 rfl
def UB(s:aH c bl g h a w){t:TypeId}{cl:Call}{x:Operand}{xv:IV}(ho:o.op = .call cl)(hcl:cl.callee = .builtin .len)(hat:cl.argTypes = #[t])(har:cl.args = #[x])
  (ht:P.underlying t=some .string) (hx:cV x=some xv) {v:AV} (he:FU (val g xv)=some v):aS P c o a w g h v .no:=by
 have h1:=aO s hx;cases hval:val g xv<;>rw[hval]at he h1<;>simp only[FU,cI]at he<;>try cases he
 case str st =>
  have hv:=h1.str;refine aS.pure s (r:=.int .i64 st.length) ?_ (sy _ _);simp[execOp,ho,resolve,hcl,har,hat,invoke,builtin,Builtin.len_,underlying,ht,hv,goInt];rfl
def acb(s:aH c bl g h a w){t:TypeId}{op:UnOp}{x:Operand}{xv:IV}(ho:o.op = .unOp op t x)(hx:cV x=some xv){v:AV}(he:aUn op (val g xv)=some v):aS P c o a w g h v .no:=by
 have h1:=aO s hx;cases hval:val g xv<;>rw[hval]at he h1<;>cases op<;>simp only[aUn,Jk,fo,cI]at he<;>try cases he
 .exact aS.pure s (r:=.bool _) (by simp[execOp,ho,h1.bool,Op.unary]) (nk _)
 .exact aS.pure s (r:=.int _ _) (by simp[execOp,ho,h1.int,Op.unary,Op.intArith]) (sy _ _)
 .exact aS.pure s (r:=.int _ _) (by simp[execOp,ho,h1.int,Op.unary,Op.intBits]) (sy _ _)
def YV(s:aH c bl g h a w){sr ds:TypeId}{k k':IntKind}{x:Operand}{xv:IV}(ho:o.op = .convert sr ds x)(h2:P.underlying sr=some (.int k'))(h3:P.underlying ds=some (.int k))(hx:cV x=some xv)
  {n:Int} {kk:IntKind} (he:val g xv = .int kk n):aS P c o a w g h (.int k (k.wrap n)) .no:=by
 have h1:=aO s hx;rw[he]at h1;exact aS.pure s (r:=.int k (k.wrap n)) (by simp[execOp,ho,h1.int,convert,underlying,h2,h3,Conv.intToInt]) (sy _ _)
def Ur(s:aH c bl g h a w){sr ds:TypeId}{x:Operand}{xv:IV}(ho:o.op = .convert sr ds x)(h2:P.underlying sr=some .string)(h3:P.underlying ds=some .string)(hx:cV x=some xv)
  {st:List UInt8} (he:val g xv = .str st):aS P c o a w g h (val g xv) .no:=by
 have h1:=aO s hx;rw[he]at h1⊢;exact aS.pure s (r:=.string ⟨st.toArray⟩) (by simp[execOp,ho,h1.str,convert,underlying,h2,h3]) (UM _)
def YZ(s:aH c bl g h a w){x:Operand}{i:Nat}{xv:IV}(ho:o.op = .extract x i)(hx:cV x=some xv){vs:List AV}{v:AV}(he:val g xv = .tup vs)(hi:vs[i]?=some v):aS P c o a w g h v .no:=by
 have h1:=aO s hx;rw[he]at h1;obtain⟨cs,h2,h3⟩:=h1;obtain⟨u,hu,hr⟩:=h3.get hi;exact aS.pure s (r:=u) (by simp[execOp,ho,h2,Instr.extract,hu]) hr.toV
def E_(s:aH c bl g h a w){x:Operand}{xv:IV}(ho:o.op = .nilCheck x)(hx:cV x=some xv)
  (he:(∃id st row off,val g xv = .mp id st row off)\/(∃cells,val g xv = .ip cells)\/∃f caps,val g xv = .fn f caps):aS P c o a w g h (val g xv) .no:=by
 have h1:=aO s hx;refine aS.pure s (r:=a.eval x) ?_ h1;rcases he with⟨id,st,row,off,he⟩|⟨cells,he⟩|⟨f,caps,he⟩<;>rw[he]at h1
 .obtain⟨b,_,h2⟩:=h1.mp;simp[execOp,ho,h2]
 .generalize hu:a.eval x=u at h1⊢;have h2:=h1.ip;cases h2;simp[execOp,ho,hu]
 .obtain⟨cs,h2,_⟩:=h1;simp[execOp,ho,h2]
def UA(s:aH c bl g h a w){t:TypeId}{x i:Operand}{xv iv:IV}(ho:o.op = .index t x i)(ht:P.underlying t=some .string)(hx:cV x=some xv)(hi:cV i=some iv)
  {st:List UInt8} {k:IntKind} {n:Int} {b:UInt8} (he:val g xv = .str st) (hi':val g iv = .int k n) (h0:0<=n) (hb:st[n.toNat]?=some b):aS P c o a w g h (.int .u8 b.toNat) .no:=by
 have h1:=aO s hx;have h2:=aO s hi;rw[he]at h1;rw[hi']at h2;refine aS.pure s (r:=.int .u8 b.toNat) ?_ (sy _ _);have hb':(ByteArray.mk st.toArray)[n.toNat]?=some b:=by
  obtain⟨hlt,hb⟩:=gW.1 hb;have hs:n.toNat<(ByteArray.mk st.toArray).size:=by simpa[ByteArray.size]using hlt
  rw[getElem?_pos (ByteArray.mk st.toArray) n.toNat hs];simp[ByteArray.getElem_eq_getElem_data,hb]
 simp[execOp,ho,h1.str,h2.int,Instr.index,asIntOf,underlying,ht,h0,hb']
def D9(s:aH c bl g h a w):∀{cs:List Operand}{vs:List IV},NP cs=some vs->aR (aY bl (bz bl c.MF h) w) (cs.map a.eval) (vs.map (val g))
 | [],vs,hc=>by simp only[NP,cI]at hc;subst hc;trivial
 | x::r,vs,hc=>by
  simp only[NP]at hc;split at hc
  .rename_i v vs' h1 h2;simp only[cI]at hc;subst hc;exact⟨aO s h1,D9 s h2⟩
  .cases hc
def Qd(s:aH c bl g h a w){t t':TypeId}{op:BinOp}{x y:Operand}{xv yv:IV}(ho:o.op = .binOp op t x y t')(hx:cV x=some xv)(hy:cV y=some yv)
  {v:AV} (he:uW op (val g xv) (val g yv)=some v):aS P c o a w g h v .no:=by
 have h1:=aO s hx;have h2:=aO s hy;unfold uW at he;split at he
 .rename_i k p k2 q e1 e2;rw[e1]at h1;rw[e2]at h2;split at he
  .cases he
  .rename_i hq;cases he;exact aS.pure s (r:=.int k (k.wrap (p*2^(min q.toNat k.bits)))) (by simp[execOp,ho,h1.int,h2.int,eqGuard,binOp,Op.shift,hq]) (sy _ _)
 .rename_i k p k2 q e1 e2;rw[e1]at h1;rw[e2]at h2;split at he
  .cases he
  .rename_i hq;cases he;exact aS.pure s (r:=.int k (p.fdiv (2^(min q.toNat k.bits)))) (by simp[execOp,ho,h1.int,h2.int,eqGuard,binOp,Op.shift,hq]) (sy _ _)
 .rename_i opx opy X Y k p k2 q n1 n2 e1 e2;rw[e1]at h1;rw[e2]at h2;split at he
  case isFalse=>cases he
  rename_i hk;subst hk;cases opx<;>simp only[aaB,Jk,fo,Option.map_none,cI]at he<;>try cases he
  case quo =>
   split at he
   .cases he
   .rename_i hq;cases he;exact aS.pure s (r:=.int k _) (by simp[execOp,ho,h1.int,h2.int,eqGuard,binOp,Op.intDiv,hq]) (sy _ _)
  case rem =>
   split at he
   .cases he
   .rename_i hq;cases he;exact aS.pure s (r:=.int k _) (by simp[execOp,ho,h1.int,h2.int,eqGuard,binOp,Op.intDiv,hq]) (sy _ _)
  all_goals first
   | refine aS.pure s (r:=.int k _) ?_ (sy _ _)
   | refine aS.pure s (r:=.bool _) ?_ (nk _)
  all_goals first
   | (simp[execOp,ho,h1.int,h2.int,eqGuard,binOp,Op.intArith];done)
   | (simp[execOp,ho,h1.int,h2.int,eqGuard,binOp,Op.intBits];done)
   | (simp[execOp,ho,h1.int,h2.int,eqGuard,binOp,Op.intCmp];done)
   | (simp only[execOp,ho,h1.int,h2.int,eqGuard,binOp];simp only[ne_eq,not_true_eq_false,fS];rfl)
 .rename_i opx opy X Y p q e1 e2;rw[e1]at h1;rw[e2]at h2;have hl:∀u:List UInt8,(ByteArray.mk u.toArray).toList=u:=λu=>by simp
  cases opx<;>simp only[aaC,cI]at he<;>try cases he
  case add =>
   split at he
   case isFalse=>cases he
   rename_i hlen;cases he;refine aS.pure s (r:=.string ⟨(p++q).toArray⟩) ?_ (UM _);have hs:¬(((ByteArray.mk p.toArray).size+(ByteArray.mk q.toArray).size:Nat):Int)>IntKind.i64.max:=by
    simp[ByteArray.size,IntKind.max,IntKind.signed,IntKind.bits];omega
   have hs':¬((((ByteArray.mk p.toArray).size:Nat):Int)+((ByteArray.mk q.toArray).size:Nat)>IntKind.i64.max):=by
    simp[ByteArray.size,IntKind.max,IntKind.signed,IntKind.bits];omega
   have happ:(ByteArray.mk p.toArray)++(ByteArray.mk q.toArray)=ByteArray.mk (p++q).toArray:=by
    apply ByteArray.ext;simp
   simp only[execOp,ho,h1.str,h2.str,eqGuard,binOp,Op.stringOp,hs,happ,fS];simp
  all_goals exact aS.pure s (r:=.bool _) (by simp only[execOp,ho,h1.str,h2.str,eqGuard,binOp,Op.stringOp,hl];simp) (nk _)
 .cases he
def sD{t:TypeId}(ht:P.underlying t=some .bool)(p q:Bool):(Op.equal t (.bool p) (.bool q)).run P w = .ok (p==q) w:=by
 have h1:(Op.equalIn (9999+1) t (.bool p) (.bool q)).run P w = .ok (p==q) w:=by unfold Op.equalIn;simp[underlying,ht]
 exact h1
def uN{t e:TypeId}(ht:P.underlying t=some (.pointer e))(ad:Option Addr):(Op.equal t (.pointer ad) (.pointer none)).run P w = .ok ad.isNone w:=by
 have h1:(Op.equalIn (9999+1) t (.pointer ad) (.pointer none)).run P w = .ok ad.isNone w:=by cases ad<;>(unfold Op.equalIn;simp[underlying,ht])
 exact h1
def Uq(s:aH c bl g h a w){t t':TypeId}{op:BinOp}{x y:Operand}{xv yv:IV}(ho:o.op = .binOp op t x y t')(ht:P.underlying t=some .bool)(hx:cV x=some xv)(hy:cV y=some yv)
  {v:AV} (he:C0 op (val g xv) (val g yv)=some v):aS P c o a w g h v .no:=by
 have h1:=aO s hx;have h2:=aO s hy;unfold C0 at he;split at he
 .rename_i p q e1 e2;rw[e1]at h1;rw[e2]at h2;cases he;exact aS.pure s (r:=.bool _) (by simp[execOp,ho,h1.bool,h2.bool,eqGuard,binOp,sD ht]) (nk _)
 .rename_i p q e1 e2;rw[e1]at h1;rw[e2]at h2;cases he;exact aS.pure s (r:=.bool _) (by simp[execOp,ho,h1.bool,h2.bool,eqGuard,binOp,sD ht]) (nk _)
 .cases he
def Ux(s:aH c bl g h a w){t t' e:TypeId}{op:BinOp}{x y:Operand}{xv yv:IV}(ho:o.op = .binOp op t x y t')(ht:P.underlying t=some (.pointer e))(hx:cV x=some xv)(hy:cV y=some yv)
  {v:AV} (he:uC op (val g xv) (val g yv)=some v):aS P c o a w g h v .no:=by
 have h1:=aO s hx;have h2:=aO s hy;have hp:∀b,O0 (val g xv)=some b->∃ad:Option Addr,a.eval x = .pointer ad/\ad.isNone=b:=λb hb=>by
  cases hval:val g xv<;>rw[hval]at hb h1<;>simp only[O0,cI]at hb<;>try cases hb
  case ip cells =>
   generalize a.eval x=u at h1;have h3:=h1.ip;cases h3;exact⟨_,rfl,rfl⟩
  case np=>exact⟨none,h1.np,rfl⟩
  case mp=>obtain⟨b,_,h3⟩:=h1.mp;exact⟨_,h3,rfl⟩
 unfold uC at he;split at he
 .rename_i b e1 e2;rw[e2]at h2;obtain⟨ad,h3,h4⟩:=hp b e1;cases he;subst h4;exact aS.pure s (r:=.bool _) (by simp only[execOp,ho,h3,h2.np,eqGuard,binOp];simp[uN ht]) (nk _)
 .rename_i b e1 e2;rw[e2]at h2;obtain⟨ad,h3,h4⟩:=hp b e1;cases he;subst h4;exact aS.pure s (r:=.bool _) (by simp only[execOp,ho,h3,h2.np,eqGuard,binOp];simp[uN ht]) (nk _)
 .cases he
def Kp{t e:TypeId}{op:BinOp}{b:Bool}{x y:Operand}{t':TypeId}{ad:Option Addr}{n cap:Nat}(ho:o.op = .binOp op t x y t')(ht:P.underlying t=some (.slice e))(hop:(op = .eql/\b=false)\/(op = .neq/\b=true))
  (hx:a.eval x = .slice ad n cap) (hy:a.eval y = .slice none 0 0):(execOp a.eval o).run P w = .ok (.value (.bool (if ad.isNone then !b else b))) w:=by
 have h1:(Op.equal t (.slice ad n cap) (.slice none 0 0)).run P w = .ok ad.isNone w:=by
  have h:∀d:Nat,(Op.equalIn (d+1) t (.slice ad n cap) (.slice none 0 0)).run P w = .ok ad.isNone w:=λd=>by
   cases ad<;>simp[Op.equalIn,run_underlying ht]
  exact h 9999
 rcases hop with⟨rfl,rfl⟩|⟨rfl,rfl⟩<;>cases ad<;>simp[execOp,ho,hx,hy,eqGuard,binOp]at h1⊢ <;> simp[h1]
def IQ(s:aH c bl g h a w){t t' e:TypeId}{op:BinOp}{b:Bool}{x y:Operand}{xv:IV}(ho:o.op = .binOp op t x y t')(ht:P.underlying t=some (.slice e))(hop:(op = .eql/\b=false)\/(op = .neq/\b=true))
  (hx:cV x=some xv) (hy:cV y=some (.c .nl)) {v:AV} (he:KS b (val g xv)=some v):aS P c o a w g h v .no:=by
 have h1:=aO s hx;have h2:a.eval y = .slice none 0 0:=(aO s hy).nl;have hp:∀{ad n cap},a.eval x = .slice ad n cap->v = .bool (if ad.isNone then !b else b)->aS P c o a w g h v .no:=λ{ad n cap} h3 h4=>by
  subst h4;exact aS.pure s (r:=.bool _) (Kp ho ht hop h3 h2) (nk _)
 unfold KS at he;split at he
 .rename_i e1;cases he;rw[e1]at h1;exact hp h1.nl rfl
 .rename_i st r rows e1;cases he;rw[e1]at h1;generalize hu:a.eval x=u at h1;have h3:=h1.sl;cases h3;exact hp hu rfl
 .rename_i id st off len e1;cases he;rw[e1]at h1;obtain⟨_,_,h3⟩|⟨h3,_⟩|⟨b',cap,c1,t1,fr,_,h3,_⟩:=h1
  .cases h3
  .cases h3
  .exact hp h3 rfl
 .cases he
end
def kW(b off n:Nat):(⟨b,off,none⟩:Addr).add n =⟨b,off+n,none⟩:=by unfold Addr.add;split<;>simp_all
def bD{w:World}{b:Nat}{c:Array Value}{t:TypeId}{fr:Nat×Nat}(hb:w.heap[b]?=some (.cells c t fr))(off:Nat):w.cell? ⟨b,off,none⟩=c[off]?:=by
 simp[World.cell?,hb]
def eP(bl:Nat->Option Nat)(M:Nat->Prop)(w:World)(b off:Nat)(cells:List AV):Prop :=
 ∃c t fr,w.heap[b]?=some (.cells c t fr)/\∀(j:Nat)(x:AV),cells[j]?=some x->∃v,c[off+j]?=some v/\bV bl M w v x
section
variable{P:Program}{c:qL}{bl:Nat->Option Nat}{g:Nat->AV}{h:Nat->Option aj}{a:Act}{w:World}{o:Oper}{M:Nat->Prop}
def eP.drop{b off:Nat}{cells:List AV}(hc:eP bl M w b off cells)(n:Nat):eP bl M w b (off+n) (cells.drop n):=by
 obtain⟨c1,t,fr,h1,h2⟩:=hc;refine⟨c1,t,fr,h1,λj x hx=>?_⟩;rw[FD]at hx;obtain⟨v,h3,h4⟩:=h2 _ _ hx;exact⟨v,by rw[<-h3];congr 1;omega,h4⟩
def eP.vals{b off:Nat}{cells:List AV}(hc:eP bl M w b off cells):∃vs:List Value,aR (bV bl M w) vs cells/\∀(j:Nat)(v:Value),vs[j]?=some v->w.cell? ⟨b,off+j,none⟩=some v:=by
 obtain⟨c1,t,fr,h1,h2⟩:=hc;have key:∀(cells:List AV)(off:Nat),(∀(j:Nat)(x:AV),cells[j]?=some x->∃v,c1[off+j]?=some v/\bV bl M w v x) ->
   ∃vs:List Value,aR (bV bl M w) vs cells/\∀(j:Nat)(v:Value),vs[j]?=some v->c1[off+j]?=some v:=by
  intro cells
  induction cells with
  | nil=>intro off _;exact⟨[],trivial,λj v hv=>by simp at hv⟩
  | cons x r ih =>
   intro off hx;obtain⟨v,hv1,hv2⟩:=hx 0 x (by simp)
   obtain⟨vs,h3,h4⟩:=ih (off+1) (λj y hy=>by
    obtain⟨u,hu1,hu2⟩:=hx (j+1) y (by simpa using hy);exact⟨u,by rw[<-hu1];congr 1;omega,hu2⟩)
   refine⟨v::vs,⟨hv2,h3⟩,λj u hu=>?_⟩;cases j with
   | zero=>simp at hu;subst hu;simpa using hv1
   | succ j =>
    simp at hu;rw[<-h4 j u hu];congr 1;omega
 obtain⟨vs,h3,h4⟩:=key cells off h2;exact⟨vs,h3,λj v hv=>by rw[bD h1];exact h4 j v hv⟩
def eP.of_ip{v:Value}{cells:List AV}(hv:aY bl M w v (.ip cells)):∃b off,v = .pointer (some ⟨b,off,none⟩)/\eP bl M w b off cells:=by
 have h1:=hv.ip;cases h1 with
 | ip b off c1 t fr cells vs hb hM hv hx =>
  refine⟨b,off,rfl,c1,t,fr,hb,λj x hj=>⟨vs j,hv j (gW.1 hj).1,IRel.toC (hx j x hj)⟩⟩
def eP.of_obj(s:aH c bl g h a w){id b:Nat}{ob:aj}{row:Nat}{r:List AV}(hi:h id=some ob)(hb:bl id=some b)(hr:ob.rows[row]?=some r):eP bl (bz bl c.MF h) w b (row*ob.st) r:=by
 rcases s.heap.1 id ob hi with hn|⟨b',h1,⟨_,c1,fr,h2,h3,h4,h5,h6,h7⟩|hsp⟩
 .rw[hn.2.2]at hb;cases hb
 rotate_left
 .exact(hsp.no hr).elim
 .rw[hb]at h1;cases h1;refine⟨c1,ob.t,fr,h2,λj x hx=>?_⟩;obtain⟨v,hv1,hv2⟩:=h7 row j r x hr hx;refine⟨v,hv1,?_⟩;cases hrec:ob.isRec<;>simp only[hrec,jE]at hv2
  .exact IRel.toC hv2
  .exact hv2
def HH{t:TypeId}{n:Option Nat}(ht:tQ P t=some n):(isAgg t).run P w = .ok n.isSome w/\∀m,n=some m->(sizeOf t).run P w = .ok m w:=by
 unfold tQ at ht;split at ht<;>(try cases ht)
 .rename_i fs i h1 h2;exact⟨by simp[isAgg,underlying,h1],λm hm=>by cases hm;simp[sizeOf,typeInfo,h2]⟩
 .rename_i k e i h1 h2;exact⟨by simp[isAgg,underlying,h1],λm hm=>by cases hm;simp[sizeOf,typeInfo,h2]⟩
 .rename_i d i h1 h2 n1 n2;refine⟨?_,λm hm=>by cases hm⟩;simp only[isAgg,underlying];simp only[lp,run_program,mF,n2];cases d<;>simp_all
def nV{t:TypeId}{n:Option Nat}(ht:tQ P t=some n){b off:Nat}{cells:List AV}(hc:eP bl M w b off cells){x:AV}(hx:ww n cells=some x) :
  ∃r,(loadVar t ⟨b,off,none⟩).run P w = .ok r w/\eY bl M w r x:=by
 obtain⟨h1,h2⟩:=HH (w:=w) ht;cases n with
 | none =>
  simp only[ww]at hx;obtain⟨c1,t1,fr,h3,h4⟩:=hc;obtain⟨v,hv1,hv2⟩:=h4 0 x hx;refine⟨v,?_,hv2.toG⟩;simp only[loadVar,lp,h1,mF];simp[bD h3,show c1[off]?=some v by simpa using hv1]
 | some m =>
  simp only[ww]at hx;split at hx
  case isFalse=>cases hx
  rename_i hm;cases hx;obtain⟨vs,h3,h4⟩:=hc.vals;have hl:vs.length=cells.length:=h3.length;refine⟨.agg (vs.take m).toArray,?_,vs.take m,rfl,h3.take m⟩
  have hld:=run_loadCells_list (P:=P) (w:=w) ⟨b,off,none⟩ (vs.take m) (λj v hv=>by
   rw[kW];exact h4 j v (by rw[x9]at hv;split at hv<;>first|exact hv|cases hv))
  rw[q_,hl,HP hm]at hld;simp only[loadVar,lp,h1,mF,h2 m rfl];simp[h2 m rfl,hld]
def Uv(s:aH c bl g h a w){t:TypeId}{n:Option Nat}{p:Operand}{pv:IV}(ho:o.op = .load t p)(ht:tQ P t=some n)(hp:cV p=some pv)
  {x:AV} (he:lS n (val g pv) h=some x):aS P c o a w g h x .no:=by
 have h1:=aO s hp;have fin:∀{b off:Nat}{cells:List AV},a.eval p = .pointer (some ⟨b,off,none⟩)->eP bl (bz bl c.MF h) w b off cells->ww n cells=some x->aS P c o a w g h x .no:=λhv hc hx=>by
  obtain⟨r,h2,h3⟩:=nV ht hc hx;exact aS.pure s (r:=r) (by simp[execOp,ho,hv,Instr.loadAt,Instr.sureAddr,h2]) h3.toV
 cases hval:val g pv<;>rw[hval]at he h1<;>simp only[lS]at he<;>try cases he
 case ip cells =>
  obtain⟨b,off,h2,h3⟩:=eP.of_ip h1;exact fin h2 h3 he
 case mp id st row off =>
  split at he
  case h_2=>cases he
  rename_i ob hob;split at he
  case isFalse=>cases he
  rename_i hst;split at he
  case h_2=>cases he
  rename_i r hr;obtain⟨b,hb,h2⟩:=h1.mp;rw[<-hst]at h2;exact fin h2 ((eP.of_obj s hob hb hr).drop off) he
def Us(s:aH c bl g h a w){t:TypeId}{f k n:Nat}{fs:Array Field}{fd:Field}{p:Operand}{pv:IV}(ho:o.op = .fieldAddr t p f)(ht:P.underlying t=some (.struct fs))(hf:fs[f]?=some fd)
  (hn:gK P fd.type=some (n+1)) (hk:fd.offset=k) (hp:cV p=some pv) {x:AV} (he:C3 k (val g pv)=some x):aS P c o a w g h x .no:=by
 have h1:=aO s hp;have hrun:∀{b off:Nat},a.eval p = .pointer (some ⟨b,off,none⟩)->(execOp a.eval o).run P w = .ok (.value (.pointer (some ⟨b,off+k,none⟩))) w:=λ{b off} hv=>by
  unfold gK at hn;simp only[dc]at hn;obtain⟨i,hi1,hi2⟩:=hn;simp[execOp,ho,hv,Instr.fieldAt,underlying,ht,hf,Instr.sureAddr,fieldPlace,sizeOf,typeInfo,hi1,hi2,kW,hk]
 cases hval:val g pv<;>rw[hval]at he h1<;>simp only[C3,cI]at he<;>try cases he
 case ip cells =>
  generalize hu:a.eval p=u at h1;have h2:=h1.ip;cases h2 with
  | ip b off c1 t fr cells vs hb hM hv hx =>
   refine aS.pure s (hrun hu) ?_;refine IRel.ip b (off+k) c1 t fr (cells.drop k) (λj=>vs (k+j)) hb hM (λj hj=>?_) (λj x hx'=>?_)
   .rw[<-hv (k+j) (by simp at hj;omega)];congr 1;omega
   .rw[FD]at hx';exact hx _ _ hx'
 case mp id st row off =>
  obtain⟨b,hb,h2⟩:=h1.mp;exact aS.pure s (hrun h2) ⟨b,hb,by congr 3;omega⟩
def nr{t:TypeId}{n:Option Nat}(ht:tQ P t=some n){cs:List Value}{cells:List AV}(hc:aR (bV bl M w) cs cells){off:Nat}{x:AV}(hx:ww n (cells.drop off)=some x) :
  ∃r,(part t cs.toArray off).run P w = .ok r w/\eY bl M w r x:=by
 obtain⟨h1,h2⟩:=HH (w:=w) ht;cases n with
 | none =>
  simp only[ww,FD,Nat.add_zero]at hx;obtain⟨v,hv1,hv2⟩:=hc.get hx;refine⟨v,?_,hv2.toG⟩;simp only[part,lp,h1,mF];simp[hv1]
 | some m =>
  simp only[ww]at hx;split at hx
  case isFalse=>cases hx
  rename_i hm;cases hx;refine⟨.agg ((cs.drop off).take m).toArray,?_,(cs.drop off).take m,rfl,(hc.drop off).take m⟩;simp only[part,lp,h1,mF];simp only[Option.isSome_some,dP,lp,h2 m rfl,mF,sJ];congr 2;simp[List.extract_toArray,List.extract_eq_take_drop]
def Y0(s:aH c bl g h a w){t:TypeId}{f k:Nat}{n:Option Nat}{fs:Array Field}{fd:Field}{p:Operand}{pv:IV}(ho:o.op = .field t p f)(ht:P.underlying t=some (.struct fs))(hf:fs[f]?=some fd)
  (hn:tQ P fd.type=some n) (hk:fd.offset=k) (hp:cV p=some pv) {x:AV} (he:M_ k n (val g pv)=some x):aS P c o a w g h x .no:=by
 have h1:=aO s hp;cases hval:val g pv<;>rw[hval]at he h1<;>simp only[M_]at he<;>try cases he
 case agg cells =>
  obtain⟨cs,h2,h3⟩:=h1;obtain⟨r,h4,h5⟩:=nr hn h3 he;exact aS.pure s (r:=r) (by simp[execOp,ho,h2,Instr.field,underlying,ht,hf,asAgg,hk,h4]) h5.toV
def Uu(s:aH c bl g h a w){t e:TypeId}{n:Nat}{x i:Operand}{xv iv:IV}(ho:o.op = .indexAddr t x i)(ht:P.underlying t=some (.slice e))(hn:gK P e=some n)(hx:cV x=some xv)(hi:cV i=some iv)
  {v:AV} (he:zd n (val g xv) (val g iv)=some v):aS P c o a w g h v .no:=by
 have h1:=aO s hx;have h2:=aO s hi;have hsz:(sizeOf e).run P w = .ok n w:=by
  unfold gK at hn;simp only[dc]at hn;obtain⟨inf,hi1,hi2⟩:=hn;simp[sizeOf,typeInfo,hi1,hi2]
 have hrun:∀{b off len cap:Nat}{k:IntKind}{j:Int},a.eval x = .slice (some ⟨b,off,none⟩) len cap->a.eval i = .int k j->0<=j->j<len ->
   (execOp a.eval o).run P w = .ok (.value (.pointer (some ⟨b,off+j.toNat*n,none⟩))) w:=λhv hj h0 hl=>by
  simp[execOp,ho,hv,hj,Instr.indexAt,asIntOf,underlying,ht,h0,hl,hsz,kW]
 unfold zd at he;split at he
 .rename_i st' rows k j e1 e2;rw[e1]at h1;rw[e2]at h2;split at he
  case isFalse=>cases he
  rename_i hcond;obtain⟨rfl,h0⟩:=hcond;split at he
  case h_2=>cases he
  rename_i r hr;cases he;generalize hu:a.eval x=u at h1;have h3:=h1.sl;have hlt:=(gW.1 hr).1;cases h3 with
  | nls=>simp at hlt
  | sl0 st ad cap=>simp at hlt
  | sl b off cap st c1 t1 fr rows vs hb hM hl hrl hv hx' =>
   refine aS.pure s (hrun hu h2.int h0 (by omega)) ?_;have hrl':=hrl _ _ hr;exact IRel.ip b (off+j.toNat*st') c1 t1 fr r (λq=>vs j.toNat q) hb hM (λq hq=>hv _ _ hlt (by omega)) (λq y hy=>hx' _ _ _ _ hr hy)
 .rename_i id st' off len k j e1 e2;rw[e1]at h1;rw[e2]at h2;split at he
  case isFalse=>cases he
  rename_i hcond;obtain⟨rfl,h0,hl⟩:=hcond;cases he;rcases h1 with⟨_,_,h4⟩|⟨h4,_⟩|⟨b,cap,c1,t1,fr,h3,h4,h5⟩
  .omega
  .omega
  .refine aS.pure s (hrun h4 h2.int h0 hl) ⟨b,h3,?_⟩;rw[iP,Nat.add_zero]
 .cases he
def Up(s:aH c bl g h a w){t e:TypeId}{n len:Nat}{x i:Operand}{xv iv:IV}(ho:o.op = .indexAddr t x i)(ht:P.underlying t=some (.array len e))(hn:gK P e=some n)(hx:cV x=some xv)(hi:cV i=some iv)
  {v:AV} (he:CZ n len (val g xv) (val g iv)=some v):aS P c o a w g h v .no:=by
 have h1:=aO s hx;have h2:=aO s hi;have hsz:(sizeOf e).run P w = .ok n w:=by
  unfold gK at hn;simp only[dc]at hn;obtain⟨inf,hi1,hi2⟩:=hn;simp[sizeOf,typeInfo,hi1,hi2]
 have hrun:∀{b off:Nat}{k:IntKind}{j:Int},a.eval x = .pointer (some ⟨b,off,none⟩)->a.eval i = .int k j->0<=j->j<len ->
   (execOp a.eval o).run P w = .ok (.value (.pointer (some ⟨b,off+j.toNat*n,none⟩))) w:=λhv hj h0 hl=>by
  simp[execOp,ho,hv,hj,Instr.indexAt,asIntOf,underlying,ht,h0,hl,hsz,kW,Instr.sureAddr]
 unfold CZ at he;split at he
 .rename_i cells k j e1 e2;rw[e1]at h1;rw[e2]at h2;split at he
  case isFalse=>cases he
  rename_i hcond;cases he;generalize hu:a.eval x=u at h1;have h3:=h1.ip;cases h3 with
  | ip b off c1 t1 fr cells vs hb hM hv hx' =>
   refine aS.pure s (hrun hu h2.int hcond.1 hcond.2) ?_;refine IRel.ip b (off+j.toNat*n) c1 t1 fr (cells.drop (j.toNat*n)) (λq=>vs (j.toNat*n+q)) hb hM (λq hq=>?_) (λq y hy=>?_)
   .rw[<-hv (j.toNat*n+q) (by simp at hq;omega)];congr 1;omega
   .rw[FD]at hy;exact hx' _ _ hy
 .rename_i id st' row off k j e1 e2;rw[e1]at h1;rw[e2]at h2;split at he
  case isFalse=>cases he
  rename_i hcond;cases he;obtain⟨b,hb,h3⟩:=h1.mp;exact aS.pure s (hrun h3 h2.int hcond.1 hcond.2) ⟨b,hb,by congr 3;omega⟩
 .cases he
def Qf(s:aH c bl g h a w){cl:Call}{m:Bool}{x y:Operand}{xv yv:IV}(ho:o.op = .call cl)(hcl:cl.callee = .builtin (if m then .max else .min))(har:cl.args = #[x,y])(hx:cV x=some xv)(hy:cV y=some yv)
  {v:AV} (he:KP m (val g xv) (val g yv)=some v):aS P c o a w g h v .no:=by
 have h1:=aO s hx;have h2:=aO s hy;unfold KP at he;split at he
 case h_2=>cases he
 rename_i k n k' q e1 e2;split at he
 case isFalse=>cases he
 rename_i hk;subst hk;cases he;rw[e1]at h1;rw[e2]at h2;have e3:=h1.int;have e4:=h2.int;cases m
 .refine aS.pure s (r:=.int k (if q<n then q else n)) ?_ (sy _ _);simp[execOp,ho,resolve,hcl,har,invoke,builtin,Builtin.min_,Builtin.min2,e3,e4]
 .refine aS.pure s (r:=.int k (if n<q then q else n)) ?_ (sy _ _);simp[execOp,ho,resolve,hcl,har,invoke,builtin,Builtin.max_,Builtin.max2,e3,e4]
def uX(s:aH c bl g h a w){d n:Nat}{x:Option Operand}{xv:Option IV}(hx:s8 x=some xv)(he:eG d (xv.map (val g))=some n) :
  (x=none/\n=d)\/∃y k,x=some y/\a.eval y = .int k n:=by
 cases x with
 | none=>simp only[s8,cI]at hx;subst hx;simp only[Option.map_none,eG,cI]at he;exact .inl ⟨rfl,he.symm⟩
 | some y =>
  simp only[s8,dc]at hx;obtain⟨yv,hy,rfl⟩:=hx;have h1:=aO s hy;simp only[fo]at he;cases hval:val g yv<;>rw[hval]at he h1<;>simp only[eG]at he<;>try cases he
  case int k m =>
   split at he
   case isFalse=>cases he
   rename_i h0;cases he;refine .inr ⟨y,k,rfl,?_⟩;rw[h1.int];congr 1;omega
def gV{k:IntKind}{n y:Nat}{code:BoundsCode}(h:n<=y):(Instr.sliceBound (.int k n) y code).run P w = .ok n w:=by
 have h2:(n:Int)<=y:=by omega
 simp[Instr.sliceBound,asIntOf,h2]
def gI(s:aH c bl g h a w){isS:Bool}{len cap l hh m:Nat}{lo hi mx:Option Operand}{lov hiv mxv:Option IV}(hlo:s8 lo=some lov)(hhi:s8 hi=some hiv)(hmx:s8 mx=some mxv)
  (h1:eG 0 (lov.map (val g))=some l) (h2:eG len (hiv.map (val g))=some hh) (h3:eG len (mxv.map (val g))=some m) (hl:l<=hh) (hm:hh<=m) (hc:m<=len) (hcap:len<=cap) (hb:mx.isSome=true->hi.isSome=true) :
  ∃m',(Instr.sliceBounds isS len cap (lo.map a.eval) (hi.map a.eval) (mx.map a.eval)).run P w = .ok (l,hh,m') w/\hh<=m'/\m'<=cap:=by
 have a1:=uX s hlo h1;have a2:=uX s hhi h2;have a3:=uX s hmx h3;rcases a3 with⟨rfl,rfl⟩|⟨y3,k3,rfl,e3⟩
 .refine⟨cap,?_,by omega,aN _⟩;rcases a2 with⟨rfl,rfl⟩|⟨y2,k2,rfl,e2⟩
  .rcases a1 with⟨rfl,rfl⟩|⟨y1,k1,rfl,e1⟩
   .simp[Instr.sliceBounds]
   .simp[Instr.sliceBounds,e1,gV (P:=P) (w:=w) hl]
  .rcases a1 with⟨rfl,rfl⟩|⟨y1,k1,rfl,e1⟩
   .simp[Instr.sliceBounds,e2,gV (P:=P) (w:=w) (show hh<=cap by omega)]
   .simp[Instr.sliceBounds,e2,e1,gV (P:=P) (w:=w) (show hh<=cap by omega),gV (P:=P) (w:=w) hl]
 .refine⟨m,?_,hm,by omega⟩;rcases a2 with⟨rfl,rfl⟩|⟨y2,k2,rfl,e2⟩
  .simp at hb
  .rcases a1 with⟨rfl,rfl⟩|⟨y1,k1,rfl,e1⟩
   .simp[Instr.sliceBounds,e3,e2,gV (P:=P) (w:=w) (show m<=cap by omega),gV (P:=P) (w:=w) hm]
   .simp[Instr.sliceBounds,e3,e2,e1,gV (P:=P) (w:=w) (show m<=cap by omega),gV (P:=P) (w:=w) hm,gV (P:=P) (w:=w) hl]
end
section
variable{P:Program}{c:qL}{bl:Nat->Option Nat}{g:Nat->AV}{h:Nat->Option aj}{a:Act}{w:World}{o:Oper}{M:Nat->Prop}
def xJ{e:TypeId}{n:Nat}(hn:gK P e=some n):(sizeOf e).run P w = .ok n w:=by
 unfold gK at hn;simp only[dc]at hn;obtain⟨inf,hi1,hi2⟩:=hn;simp[sizeOf,typeInfo,hi1,hi2]
def dw{t e:TypeId}{n:Nat}{x:Operand}{lo hi mx:Option Operand}(ho:o.op = .slice t x lo hi mx)(ht:P.underlying t=some (.slice e))(hn:gK P e=some n){ad:Option Addr}{len cap l hh m:Nat}
  (hx:a.eval x = .slice ad len cap) (hb:(Instr.sliceBounds true len cap (lo.map a.eval) (hi.map a.eval) (mx.map a.eval)).run P w = .ok (l,hh,m) w) :
  (execOp a.eval o).run P w = .ok (.value (.slice (if m=l then ad else ad.map (·.add (l*n))) (hh-l) (m-l))) w:=by
 simp only[execOp,ho,Instr.sliceAt,lp,hx];simp[underlying,ht,Instr.slice,hb,xJ (w:=w) hn]
def Ze(s:aH c bl g h a w){t e:TypeId}{n:Nat}{x:Operand}{lo hi mx:Option Operand}{xv:IV}{lov hiv mxv:Option IV}(ho:o.op = .slice t x lo hi mx)(ht:P.underlying t=some (.slice e))(hn:gK P e=some n)
  (hx:cV x=some xv) (hlo:s8 lo=some lov) (hhi:s8 hi=some hiv) (hmx:s8 mx=some mxv) (hb:mx.isSome=true->hi.isSome=true)
  {v:AV} (he:FT n (val g xv) (lov.map (val g)) (hiv.map (val g)) (mxv.map (val g))=some v):aS P c o a w g h v .no:=by
 have h1:=aO s hx;cases hval:val g xv<;>rw[hval]at he h1<;>simp only[FT]at he<;>try cases he
 case nl =>
  split at he
  case h_2=>cases he
  rename_i l hh m e1 e2 e3;split at he
  case isFalse=>cases he
  rename_i hcond;obtain⟨rfl,rfl,rfl⟩:=hcond;cases he;obtain⟨m',hr,hm1,hm2⟩:=gI (P:=P) (isS:=true) s hlo hhi hmx e1 e2 e3 (aN _) (aN _) (aN _) (aN 0) hb;have hm0:m'=0:=by omega
  subst hm0;exact aS.pure s (dw ho ht hn h1.nl hr) (by simp;exact IRel.nl)
 case sl st rows =>
  split at he
  case h_2=>cases he
  rename_i l hh m e1 e2 e3;split at he
  case isFalse=>cases he
  rename_i hcond;obtain⟨rfl,hl1,hl2,hl3⟩:=hcond;cases he;generalize hu:a.eval x=u at h1;have h3:=h1.sl;cases h3 with
  | nls =>
   obtain⟨m',hr,hm1,hm2⟩:=gI (P:=P) (isS:=true) s hlo hhi hmx e1 e2 e3 hl1 hl2 hl3 (aN _) hb;have hm0:m'=0:=by simpa using hm2
   subst hm0;have hl0:l=0:=by omega
   have hh0:hh=0:=by omega
   subst hl0 hh0;exact aS.pure s (dw ho ht hn hu hr) (by simp;exact IRel.nls _)
  | sl0 st ad cap =>
   obtain⟨m',hr,hm1,hm2⟩:=gI (P:=P) (isS:=true) (cap:=cap) s hlo hhi hmx e1 e2 e3 hl1 hl2 hl3 (cR _) hb;have hl0:l=0:=by simp at hl3;omega
   have hh0:hh=0:=by simp at hl3;omega
   subst hl0 hh0;refine aS.pure s (dw ho ht hn hu hr) ?_;have:(List.drop 0 ([]:List (List AV))).take (0-0)=[]:=by simp
   rw[this];split
   .exact IRel.sl0 _ _ _
   .exact IRel.sl0 _ _ _
  | sl b off cap st c1 t1 fr rows vs hb' hM hl hrl hv hx' =>
   obtain⟨m',hr,hm1,hm2⟩:=gI (P:=P) (isS:=true) (cap:=cap) s hlo hhi hmx e1 e2 e3 hl1 hl2 hl3 hl hb;refine aS.pure s (dw ho ht hn hu hr) ?_;by_cases h0:hh=l
   .subst h0;have hnil:(List.drop hh rows).take (hh-hh)=[]:=by simp
    rw[hnil,zx];split
    .exact IRel.sl0 _ _ _
    .exact IRel.sl0 _ _ _
   .have hne:m'≠l:=by omega
    rw[ax hne];simp only[fo,kW];have hlen:((rows.drop l).take (hh-l)).length=hh-l:=by simp;omega
    have getr:∀(i:Nat)(r:List AV),((rows.drop l).take (hh-l))[i]?=some r->rows[l+i]?=some r:=λi r hi=>by
     rw[x9]at hi;split at hi
     .simpa using hi
     .cases hi
    have key:=IRel.sl (M:=bz bl c.MF h) (w:=w) b (off+l*st) (m'-l) st c1 t1 fr ((rows.drop l).take (hh-l)) (λi j=>vs (l+i) j) hb' hM (by omega) (λi r hi=>hrl _ _ (getr i r hi))
     (λi j hi hj=>by
      rw[<-hv (l+i) j (by omega) hj];congr 1;rw[iP];omega)
     (λi j r y hi hy=>hx' _ _ _ _ (getr i r hi) hy)
    rw[hlen]at key;exact key
 case ms id st off len =>
  split at he
  case h_2=>cases he
  rename_i l hh m e1 e2 e3;split at he
  case isFalse=>cases he
  rename_i hcond;obtain⟨rfl,hl1,hl2,hl3,hmn⟩:=hcond;cases he;have hmxn:mx=none:=by
   cases mx with
   | none=>rfl
   | some y =>
    simp only[s8,dc]at hmx;obtain⟨yv,_,rfl⟩:=hmx;simp at hmn
  rcases h1 with⟨h2,h3,h4⟩|⟨h2,h3,ad,cap,h4,h40⟩|⟨b,cap,c1,t1,fr,h2,h3,h4,h5,h6⟩
  .subst h3 h4;obtain⟨m',hr,hm1,hm2⟩:=gI (P:=P) (isS:=true) s hlo hhi hmx e1 e2 e3 hl1 hl2 hl3 (aN _) hb;have hm0:m'=0:=by omega
   subst hm0;have hl0:l=0:=by omega
   have hh0:hh=0:=by omega
   subst hl0 hh0;exact aS.pure s (dw ho ht hn h2 hr) (.inl ⟨by simp,by simp,by simp⟩)
  .subst h2;obtain⟨m',hr,hm1,hm2⟩:=gI (P:=P) (isS:=true) (cap:=cap) s hlo hhi hmx e1 e2 e3 hl1 hl2 hl3 (cR _) hb;have hl0:l=0:=by omega
   have hh0:hh=0:=by omega
   subst hl0 hh0;refine aS.pure s (dw ho ht hn h4 hr) (.inr (.inl ⟨by simp,by simpa using h3,?_⟩));split
   .exact⟨_,_,rfl,by omega⟩
   .exact⟨_,_,rfl,by omega⟩
  .obtain⟨m',hr,hm1,hm2⟩:=gI (P:=P) (isS:=true) (cap:=cap) s hlo hhi hmx e1 e2 e3 hl1 hl2 hl3 h4 hb;refine aS.pure s (dw ho ht hn h3 hr) ?_;by_cases h0:m'=l/\off+l≠0
   .obtain⟨rfl,h0⟩:=h0;obtain rfl:hh=m':=by omega
    refine .inr (.inl ⟨by simp,h0,?_⟩);rw[zx,aF rfl];exact⟨_,_,rfl,rfl⟩
   .have hcap:(off+l)*st+(m'-l)*st<=c1.size:=by
     have e1:(off+l)*st+(m'-l)*st=off*st+m'*st:=by
      rw[<-iP,<-iP];congr 1;omega
     have e2:m'*st<=cap*st:=nv st hm2;omega
    refine .inr (.inr ⟨b,m'-l,c1,t1,fr,h2,?_,by omega,h5,hcap⟩);have e3:(if m'=l then some (⟨b,off*st,none⟩:Addr)else(some (⟨b,off*st,none⟩:Addr)).map (·.add (l*st)))=some ⟨b,(off+l)*st,none⟩:=by
     split
     .have:l=0:=by omega
      subst this;simp
     .simp only[fo,kW,iP]
    rw[e3]
def UC(s:aH c bl g h a w){t:TypeId}{x:Operand}{lo hi:Option Operand}{xv:IV}{lov hiv:Option IV}(ho:o.op = .slice t x lo hi none)(ht:P.underlying t=some .string)
  (hx:cV x=some xv) (hlo:s8 lo=some lov) (hhi:s8 hi=some hiv) {v:AV} (he:ze (val g xv) (lov.map (val g)) (hiv.map (val g))=some v):aS P c o a w g h v .no:=by
 have h1:=aO s hx;cases hval:val g xv<;>rw[hval]at he h1<;>simp only[ze]at he<;>try cases he
 case str st =>
  split at he
  case h_2=>cases he
  rename_i l hh e1 e2;split at he
  case isFalse=>cases he
  rename_i hcond;cases he;have hsz:(ByteArray.mk st.toArray).size=st.length:=by simp[ByteArray.size]
  obtain⟨m',hr,hm1,hm2⟩:=gI (P:=P) (isS:=false) (cap:=st.length) (mx:=none) (mxv:=none) s hlo hhi rfl e1 e2 rfl hcond.1 hcond.2 (aN _) (aN _) (by simp);refine aS.pure s (r:=.string ⟨((st.drop l).take (hh-l)).toArray⟩) ?_ (UM _);have hex:(ByteArray.mk st.toArray).extract l hh=ByteArray.mk ((st.drop l).take (hh-l)).toArray:=by
   apply ByteArray.ext;simp[ByteArray.data_extract,List.extract_toArray,List.extract_eq_take_drop]
  simp only[Option.map_none]at hr;simp[execOp,ho,Instr.sliceAt,underlying,ht,Instr.slice,h1.str,hsz,hr,hex]
def sM{bl:Nat->Option Nat}{v:Value}{x:AV}{cs:List AV}(hv:aY bl M w v x)(hc:fX x=some cs):aR (bV bl M w) v.cells.toList cs:=by
 have key:∀y,bV bl M w v y->aR (bV bl M w) v.cells.toList [y]:=λy h1=>by
  have h2:=bV.one h1;have h3:v.cells = #[v]:=by cases v<;>first|rfl|exact h2.elim
  rw[h3];exact⟨h1,trivial⟩
 cases x with
 | agg cells =>
  simp only[fX,cI]at hc;subst hc;obtain⟨vs,rfl,h2⟩:=hv;simpa[Value.cells]using h2
 | tup vs=>simp[fX]at hc
 | any=>simp[fX]at hc
 | _ =>
  simp only[fX,cI]at hc;subst hc;exact key _ hv
def Dp(vs:List Value):∀(k:Nat)(cs:Array Value)(off:Nat),off+k+vs.length<=cs.size->∀(i:Nat),
  ((vs.zipIdx k).foldl (λ(cs:Array Value)(p:Value×Nat)=>cs.setIfInBounds (off+p.2) p.1) cs)[i]? = if off+k<=i/\i<off+k+vs.length then vs[i-(off+k)]? else cs[i]?:=by
 induction vs with
 | nil=>intro k cs off h i;simp;intro h1 h2;omega
 | cons v r ih =>
  intro k cs off h i;simp only[List.zipIdx_cons,List.foldl_cons,j1]at h⊢;rw[ih (k+1) (cs.setIfInBounds (off+k) v) off (by simp;omega) i,FB];by_cases h1:off+k=i
  .subst h1;rw[ax (by omega),aF (by omega)];simp;omega
  .by_cases h2:off+k<=i/\i<off+k+(r.length+1)
   .rw[aF (by omega),aF h2,show i-(off+k)=(i-(off+(k+1)))+1 by omega,zW]
   .rw[ax (by omega),ax h2,ax h1]
def AT(vs:List Value):∀(k:Nat)(cs:Array Value)(off:Nat),
  ((vs.zipIdx k).foldl (λ(cs:Array Value)(p:Value×Nat)=>cs.setIfInBounds (off+p.2) p.1) cs).size=cs.size:=by
 induction vs with
 | nil=>intro k cs off;simp
 | cons v r ih=>intro k cs off;simp only[List.zipIdx_cons,List.foldl_cons];rw[ih];simp
def BT(r:List AV)(off:Nat)(cs:List AV)(h:off+cs.length<=r.length)(i:Nat) :
  (iC r off cs)[i]? = if off<=i/\i<off+cs.length then cs[i-off]? else r[i]?:=by
 unfold iC;by_cases h1:i<off
 .rw[ax (by omega),mE,Ji (by simp;omega),x9,aF h1]
 .by_cases h2:i<off+cs.length
  .rw[aF (by omega),Ji (by simp;omega),zB (by simp;omega)];simp[HP (show off<=r.length by omega)]
  .rw[ax (by omega),zB (by simp;omega),FD];congr 1;simp;omega
def uO(r:List AV)(off:Nat)(cs:List AV)(h:off+cs.length<=r.length):(iC r off cs).length=r.length:=by
 unfold iC;simp;omega
def Ob{bl:Nat->Option Nat}{cs:Array Value}{cells:List AV}{v:Value}{ys:List AV}{off:Nat}(hc:aR (bV bl M w) cs.toList cells)(hv:aR (bV bl M w) v.cells.toList ys)(hl:off+ys.length<=cells.length) :
  aR (bV bl M w) (v.cells.zipIdx.foldl (λ(cs:Array Value)(p:Value×Nat)=>cs.setIfInBounds (off+p.2) p.1) cs).toList (iC cells off ys):=by
 have e1:=hc.length;have e2:=hv.length;simp only[nD]at e1 e2;have hf:v.cells.zipIdx.foldl (λ(cs:Array Value)(p:Value×Nat)=>cs.setIfInBounds (off+p.2) p.1) cs=(v.cells.toList.zipIdx 0).foldl (λ(cs:Array Value)(p:Value×Nat)=>cs.setIfInBounds (off+p.2) p.1) cs:=by
  rw[<-Array.foldl_toList,Array.toList_zipIdx]
 rw[hf];refine aR.of_get ?_ ?_
 .rw[uO _ _ _ hl,nD,AT,e1]
 .intro i x y hx hy;rw[Array.getElem?_toList,Dp _ _ _ _ (by simp;omega)]at hx;rw[BT _ _ _ hl]at hy;simp only[Nat.add_zero,nD,e2]at hx;split at hx
  .rename_i h1;rw[aF h1]at hy;obtain⟨u,hu,hr⟩:=hv.get hy;rw[hu]at hx;cases hx;exact hr
  .rename_i h1;rw[ax h1]at hy;obtain⟨u,hu,hr⟩:=hc.get hy;rw[Array.getElem?_toList,hx]at hu;cases hu;exact hr
end
section
variable{P:Program}{c:qL}{bl:Nat->Option Nat}{g:Nat->AV}{h:Nat->Option aj}{a:Act}{w:World}{o:Oper}{M:Nat->Prop}
def jb{t:TypeId}{z:List AV}(hz:nX P t=some z):∃i v,P.info? t=some i/\i.zero=some v/\aR (IRel M w) v.cells.toList z/\ku v.cells.toList=some z:=by
 unfold nX at hz;split at hz
 .rename_i i hi;split at hz
  .rename_i v hv;exact⟨i,v,hi,hv,u_ hz,hz⟩
  .cases hz
 .cases hz
def AO(s:aH c bl g h a w){places:List (Nat×Nat)}:∀(parts:List (Nat×Operand))(ps:List (Nat×Nat×IV))(cs:Array Value)(cells out:List AV),ye places parts=some ps ->
  aR (bV bl (bz bl c.MF h) w) cs.toList cells->lu (val g) cells ps=some out ->
  ∃cs',Instr.fill (places.toArray[·]?) cs (parts.map λ(i,x)=>(i,a.eval x))=some cs'/\aR (bV bl (bz bl c.MF h) w) cs'.toList out
 | [],ps,cs,cells,out,hp,hc,ho=>by
  simp only[ye,cI]at hp;subst hp;simp only[lu,cI]at ho;subst ho;exact⟨cs,rfl,hc⟩
 | (i,x)::r,ps,cs,cells,out,hp,hc,ho=>by
  simp only[ye]at hp;split at hp
  case h_2=>cases hp
  rename_i off n v l h1 h2 h3;cases hp;simp only[lu]at ho;split at ho
  case h_2=>cases ho
  rename_i ys hys;split at ho
  case isFalse=>cases ho
  rename_i hcond;obtain⟨hl1,hl2⟩:=hcond;have hv:=sM (aO s h2) hys;have e1:(a.eval x).cells.size=n:=by have:=hv.length;simp only[nD]at this;omega
  have e2:cs.size=cells.length:=by have:=hc.length;simpa only[nD]using this
  obtain⟨cs',h4,h5⟩:=AO s r l _ _ out h3 (Ob hc hv (by omega)) ho;refine⟨cs',?_,h5⟩;simp only[bY,Instr.fill];simp only[List.getElem?_toArray]at h4⊢;rw[h1];have hcond2:¬(decide ((a.eval x).cells.size≠n)||decide (off+(a.eval x).cells.size>cs.size))=true:=by simp;omega
  simp only[hcond2];exact h4
def Qe(s:aH c bl g h a w){t:TypeId}{fs:Array Field}{z:List AV}{places:List (Nat×Nat)}{parts:Array (Nat×Operand)}{ps:List (Nat×Nat×IV)}(ho:o.op = .build t parts)(ht:P.underlying t=some (.struct fs))
  (hz:nX P t=some z) (hpl:Fv P fs=some places) (hp:ye places parts.toList=some ps) {out:List AV} (he:lu (val g) z ps=some out):aS P c o a w g h (.agg out) .no:=by
 obtain⟨i,v,h1,h2,h3,_⟩:=jb (M:=bz bl c.MF h) (w:=w) hz;obtain⟨cs,h4,h5⟩:=AO s parts.toList ps v.cells z out hp (h3.mono λ_ _ _ hr=>IRel.toC hr) he;have hb:P.built t (parts.map λ(i,x)=>(i,a.eval x)).toList=some cs:=by
  unfold Fv at hpl;simp only[Program.built,h1,ht,h2,hpl];rw[Array.toList_map];exact h4
 exact aS.pure s (r:=.agg cs) (by simp[execOp,ho,run_build w t _ cs hb]) ⟨cs.toList,by simp,h5⟩
def LY(s:aH c bl g h a w){t e:TypeId}{n:Nat}{ie:TypeInfo}{z:List AV}{parts:Array (Nat×Operand)}(ho:o.op = .build t parts)(ht:P.underlying t=some (.array n e))
  (hz:nX P t=some z) (hie:P.info? e=some ie) (hp:parts.toList=[]):aS P c o a w g h (.agg z) .no:=by
 obtain⟨i,v,h1,h2,h3,_⟩:=jb (M:=bz bl c.MF h) (w:=w) hz;have hb:P.built t (parts.map λ(i,x)=>(i,a.eval x)).toList=some v.cells:=by
  simp only[Program.built,h1,ht,h2,hie];rw[Array.toList_map,hp];rfl
 exact aS.pure s (r:=.agg v.cells) (by simp[execOp,ho,run_build w t _ v.cells hb]) ⟨v.cells.toList,by simp,h3.mono λ_ _ _ hr=>IRel.toC hr⟩
def Pt{v:Value}{x:AV}(hc:AA v=some x)(i:Nat):mC i x=false:=by
 unfold AA at hc;split at hc<;>first|(cases hc;done)|(cases hc;rfl)
def Dt:∀{vs:List Value}{xs:List AV},ku vs=some xs->∀x∈xs,∀i,mC i x=false
 | [],xs,hc=>by simp only[ku,cI]at hc;subst hc;simp
 | v::r,xs,hc=>by
  simp only[ku]at hc;split at hc
  .rename_i x ys h1 h2;simp only[cI]at hc;subst hc;intro y hy i;rcases bp.1 hy with rfl|hy
   .exact Pt h1 i
   .exact Dt h2 y hy i
  .cases hc
def mJ(cs:Array Value):eD cs (0,0):=.inl rfl
def BA(s:aH c bl g h a w){d:Nat}{t:TypeId}{v:Value}{cs:List AV}(hd:h d=none)(hu:cN d g h)(hid:d<1000\/2000<=d)
  (hrun:(execOp a.eval o).run P w = .ok (.value (.pointer (some ⟨w.heap.size,0,none⟩))) (w.alloc (.cells v.cells t)))
  (hc:aR (bV bl (bz bl c.MF h) w) v.cells.toList cs) (hno:∀x∈cs,mC d x=false):aS P c o a w g h (.mp d cs.length 0 0) (.new d ⟨t,cs.length,[cs],true⟩):=by
 have e1:=hc.length;simp only[nD]at e1;have hs:=s.new (i:=d) (o:=⟨t,cs.length,[cs],true⟩) (cs:=v.cells) (fr:=(0,0)) (w':=w.alloc (.cells v.cells t)) hd hu hid rfl rfl rfl (mJ _)
  ⟨λi r hr=>by
   cases i with
   | zero=>simp at hr;subst hr;rfl
   | succ i=>simp at hr,by simp[e1],λi j r x hr hx=>by
   cases i with
   | zero =>
    simp at hr;subst hr;obtain⟨u,hu1,hu2⟩:=hc.get hx;exact⟨u,by simpa using hu1,hu2⟩
   | succ i=>simp at hr⟩ (λ_ r hr x hx=>by
   simp at hr;subst hr;exact hno x hx)
 exact⟨_,_,_,.inl hrun,hs,w.heap.size,bC _ _ _,by simp⟩
def Y9(s:aH c bl g h a w){d:Nat}{t:TypeId}{z:List AV}(ho:o.op = .alloc t)(hz:nX P t=some z)(hd:h d=none)(hu:cN d g h)(hid:d<1000\/2000<=d) :
  aS P c o a w g h (.mp d z.length 0 0) (.new d ⟨t,z.length,[z],true⟩):=by
 obtain⟨i,v,h1,h2,h3,h4⟩:=jb (M:=bz bl c.MF h) (w:=w) hz;refine BA (v:=v) s hd hu hid ?_ (h3.mono λ_ _ _ hr=>IRel.toC hr) (λx hx=>Dt h4 x hx d);simp[execOp,ho,Instr.alloc,zeroValue,typeInfo,h1,h2,newVar,newRow]
def YR(s:aH c bl g h a w){d:Nat}{t:TypeId}{x:Operand}{xv:IV}{cs:List AV}(ho:o.op = .box t x)(hx:cV x=some xv)(hc:fX (val g xv)=some cs)(hno:∀y∈cs,mC d y=false)
  (hd:h d=none) (hu:cN d g h) (hid:d<1000\/2000<=d):aS P c o a w g h (.mp d cs.length 0 0) (.new d ⟨t,cs.length,[cs],true⟩):=by
 refine BA (v:=a.eval x) s hd hu hid ?_ (sM (aO s hx) hc) hno;simp[execOp,ho,Instr.box,newVar,newRow]
def DU(R:Value->AV->Prop)(st:Nat)(cs:Array Value)(rows:List (List AV)):Prop :=
 (∀(i:Nat)(r:List AV),rows[i]?=some r->r.length=st)/\cs.size=rows.length*st /\
 ∀(i j:Nat)(r:List AV)(x:AV),rows[i]?=some r->r[j]?=some x->∃v,cs[i*st+j]?=some v/\R v x
def Gs{bl:Nat->Option Nat}{v:Value}{x:AV}(hv:bV bl M w v x)(hi:n_ x=true):IRel M w v x:=by
 cases x<;>first|(simp[n_]at hi;done)|exact hv
def DK{st i j k:Nat}(hj:j<st):(k*st<=i*st+j/\i*st+j<k*st+st)↔i=k:=by
 constructor
 .rintro⟨h1,h2⟩;rcases Nat.lt_trichotomy i k with hlt|heq|hgt
  .have:=nv st (show i+1<=k by omega);rw[iP]at this;omega
  .exact heq
  .have:=nv st (show k+1<=i by omega);rw[iP]at this;omega
 .rintro rfl;omega
def Dj(s:aH c bl g h a w){st:Nat}:∀(parts:List (Nat×Operand))(ps:List (Nat×IV))(cs:Array Value)(rows out:List (List AV)),AC parts=some ps ->
  DU (bV bl (bz bl c.MF h) w) st cs rows->iV (val g) st rows ps=some out ->
  ∃cs',Instr.fill (λi=>some (i*st,st)) cs (parts.map λ(i,x)=>(i,a.eval x))=some cs'/\DU (bV bl (bz bl c.MF h) w) st cs' out
 | [],ps,cs,rows,out,hp,hc,ho=>by
  simp only[AC,cI]at hp;subst hp;simp only[iV,cI]at ho;subst ho;exact⟨cs,rfl,hc⟩
 | (k,x)::r,ps,cs,rows,out,hp,hc,ho=>by
  simp only[AC]at hp;split at hp
  case h_2=>cases hp
  rename_i v l h2 h3;cases hp;simp only[iV]at ho;split at ho
  case h_2=>cases ho
  rename_i ys hys;split at ho
  case isFalse=>cases ho
  rename_i hcond;obtain⟨hl1,hl2⟩:=hcond;have hv:=sM (aO s h2) hys;have e1:(a.eval x).cells.size=st:=by have:=hv.length;simp only[nD]at this;omega
  obtain⟨hr1,hr2,hr3⟩:=hc;have hle:k*st+st<=cs.size:=by
   rw[hr2];have:=nv st (show k+1<=rows.length by omega);rw[iP]at this;omega
  have hfold:(a.eval x).cells.zipIdx.foldl (λ(cs:Array Value)(p:Value×Nat)=>cs.setIfInBounds (k*st+p.2) p.1) cs=((a.eval x).cells.toList.zipIdx 0).foldl (λ(cs:Array Value)(p:Value×Nat)=>cs.setIfInBounds (k*st+p.2) p.1) cs:=by
   rw[<-Array.foldl_toList,Array.toList_zipIdx]
  obtain⟨cs',h4,h5⟩:=Dj s r l ((a.eval x).cells.zipIdx.foldl (λ(cs:Array Value)(p:Value×Nat)=>cs.setIfInBounds (k*st+p.2) p.1) cs) (rows.set k ys) out h3 ⟨λi q hq=>by
    rw[List.getElem?_set]at hq;split at hq
    .cases hq;exact hl1
    .exact hr1 i q hq,by rw[hfold,AT,hr2];simp,λi j q y hq hy=>by
    rw[hfold,Dp _ _ _ _ (by simp;omega)];simp only[Nat.add_zero,nD,e1];rw[List.getElem?_set]at hq;split at hq
    .rename_i hki;subst hki;cases hq;have hj:j<st:=by rw[<-hl1];exact(gW.1 hy).1
     obtain⟨u,hu,hr⟩:=hv.get hy;refine⟨u,?_,hr⟩;rw[aF (by omega),show k*st+j-k*st=j by omega];exact hu
    .rename_i hki;have hj:j<st:=by rw[<-hr1 i q hq];exact(gW.1 hy).1
     obtain⟨u,hu,hr⟩:=hr3 i j q y hq hy;refine⟨u,?_,hr⟩;rw[ax (λhh=>hki ((DK hj).1 hh).symm)];exact hu⟩ ho
  refine⟨cs',?_,h5⟩;simp only[bY,Instr.fill];have hcond2:¬(decide ((a.eval x).cells.size≠st)||decide (k*st+(a.eval x).cells.size>cs.size))=true:=by simp;omega
  simp only[hcond2];exact h4
def DP{z:Array Value}{zs:List AV}{st len:Nat}(hz:aR (IRel M w) z.toList zs)(hl:zs.length=st)(h0:1<=st) :
  DU (IRel M w) st ((Array.range (len*st)).map (z[· % z.size]!)) (List.replicate len zs):=by
 have e1:=hz.length;simp only[nD]at e1;refine⟨λi r hr=>?_,by simp,λi j r x hr hx=>?_⟩
 .rw[List.getElem?_replicate]at hr;split at hr
  .cases hr;exact hl
  .cases hr
 .rw[List.getElem?_replicate]at hr;split at hr
  case isFalse=>cases hr
  rename_i hi;cases hr;have hj:j<st:=by rw[<-hl];exact(gW.1 hx).1
  obtain⟨u,hu,hr⟩:=hz.get hx;refine⟨u,?_,hr⟩;have hlt:i*st+j<len*st:=by
   have:=nv st (show i+1<=len by omega);rw[iP]at this;omega
  have hmod:(i*st+j)%z.size=j:=by
   rw[show z.size=st by omega,Nat.add_comm,Nat.add_mul_mod_self_right];exact Nat.mod_eq_of_lt hj
  rw[Array.getElem?_map,Array.getElem?_range,aF hlt];simp only[fo,hmod];rw[Array.getElem?_toList]at hu;rw[getElem!_pos z j (by omega)];rw[lF (by omega)]at hu;exact hu
def ni(s:aH c bl g h a w){d:Nat}{e:TypeId}{st:Nat}{cs:Array Value}{rows:List (List AV)}{fr:Nat×Nat}{len cap:Nat}{w':World}(hd:h d=none)(hu:cN d g h)(hid:d<1000\/2000<=d)
  (hrun:(execOp a.eval o).run P w = .ok (.value (.slice (some ⟨w.heap.size,0,none⟩) len cap)) w') (hw:w'.heap=w.heap.push (.cells cs e fr)) (hos:w'.os=w.os) (hout:w'.output=w.output) (uf:eD cs fr)
  (hr1:∀(i:Nat)(r:List AV),rows[i]?=some r->r.length=st) (hr2:rows.length*st<=cs.size) (hlen:len<=cap) (hcap:cap*st<=cs.size)
  {q:Bool} (hr3:∀(i j:Nat)(r:List AV)(x:AV),rows[i]?=some r->r[j]?=some x->∃v,cs[i*st+j]?=some v/\jE q bl (bz bl c.MF h) w v x)
  (hno:q=true->∀r∈rows,∀x∈r,mC d x=false) :
  aS P c o a w g h (.ms d st 0 len) (.new d ⟨e,st,rows,q⟩):=by
 have hs:=s.new (i:=d) (o:=⟨e,st,rows,q⟩) (cs:=cs) (fr:=fr) (w':=w') hd hu hid hw hos hout uf ⟨hr1,hr2,hr3⟩ hno;refine⟨_,_,_,.inl hrun,hs,.inr (.inr ⟨w.heap.size,cap,cs,e,fr,bC _ _ _,by simp,hlen,by rw[hw];simp,by simpa using hcap⟩)⟩
def A8:∀{vs:List Value}{xs:List AV},ku vs=some xs->∀x∈xs,n_ x=true
 | [],xs,hc=>by simp only[ku,cI]at hc;subst hc;simp
 | v::r,xs,hc=>by
  simp only[ku]at hc;split at hc
  .rename_i x ys h1 h2;simp only[cI]at hc;subst hc;intro y hy;rcases bp.1 hy with rfl|hy
   .unfold AA at h1;split at h1<;>first|(cases h1;done)|(cases h1;rfl)
   .exact A8 h2 y hy
  .cases hc
def Kh(s:aH c bl g h a w){d:Nat}{t e:TypeId}{len n:Nat}{z:List AV}{parts:Array (Nat×Operand)}{ps:List (Nat×IV)}(ho:o.op = .buildSlice t len parts)(ht:P.underlying t=some (.slice e))
  (hz:nX P e=some z) (hn:gK P e=some n) (hp:AC parts.toList=some ps) (hzl:z.length=n) (h1:1<=n) (h3:len*n<=16777216) {out:List (List AV)} (he:iV (val g) n (List.replicate len z) ps=some out)
  (hd:h d=none) (hu:cN d g h) (hid:d<1000\/2000<=d) {q:Bool} (himm:q=false->∀r∈out,∀x∈r,n_ x=true) (hno:q=true->∀r∈out,∀x∈r,mC d x=false):aS P c o a w g h (.ms d n 0 out.length) (.new d ⟨e,n,out,q⟩):=by
 obtain⟨i,v,h4,h5,h6,_⟩:=jb (M:=bz bl c.MF h) (w:=w) hz;have hsz:i.size=n:=by simpa[gK,h4]using hn
 have hz0:=DP (len:=len) h6 hzl h1;obtain⟨cs,h7,h8,h9,h10⟩:=Dj s parts.toList ps _ _ out hp ⟨hz0.1,hz0.2.1,λi j r x h1 h2=>by obtain⟨u,h3,h4⟩:=hz0.2.2 i j r x h1 h2;exact⟨u,h3,IRel.toC h4⟩⟩ he;have h11:∀(i j:Nat)(r:List AV)(x:AV),out[i]?=some r->r[j]?=some x->∃v,cs[i*n+j]?=some v/\jE q bl (bz bl c.MF h) w v x:=λi j r x h1 h2=>by
  obtain⟨u,h3,h4⟩:=h10 i j r x h1 h2;refine⟨u,h3,?_⟩;cases q
  .exact Gs h4 (himm rfl r (nF h1) x (nF h2))
  .exact h4
 have hlen:out.length=len:=by rw[Aw he];simp
 rw[hlen];by_cases hl0:len=0
 .subst hl0;simp only[Nat.zero_mul]at h7;have hr0:(Array.range 0).map (v.cells[· % v.cells.size]!) = #[]:=by simp
  have hr1:(Array.range 0).map ((#[]:Array Value)[· % (#[]:Array Value).size]!) = #[]:=by simp
  rw[hr0]at h7;refine ni (cs:=cs) (fr:=(0,0)) (cap:=0) (w':=w.alloc (.cells cs e)) s hd hu hid ?_ rfl rfl rfl (mJ _) h8 (by omega) (aN _) (by simp) h11 hno;have h7':Instr.fill (λi=>some (i*n,n)) #[] (parts.map λ(i,x)=>(i,a.eval x)).toList=some cs:=by rw[Array.toList_map];exact h7
  have hra:Array.range 0 = #[]:=by simp
  simp only[execOp,ho,Instr.buildSlice,lp,run_underlying ht,mF,xJ hn,Nat.zero_mul,hra];simp[hra,h7,newRow]
 have hpos:0<len*n:=Nat.mul_pos (by omega) (by omega);refine ni (cs:=cs) (fr:=(0,0)) (cap:=len) (w':=w.alloc (.cells cs e)) s hd hu hid ?_ rfl rfl rfl (mJ _) h8 (by omega) (aN _) (by rw[h9,hlen];exact aN _) h11 hno;have hb:=run_buildSlice (P:=P) w t e len (parts.map λ(i,x)=>(i,a.eval x)) cs i v ht h4 h5 (by rw[hsz];omega) (by rw[hsz];omega) (by rw[hsz,Array.toList_map];exact h7);simp[execOp,ho,hb]
def YS(s:aH c bl g h a w){d:Nat}{t e:TypeId}{len n:Nat}{z:List AV}{parts:Array (Nat×Operand)}{ps:List (Nat×IV)}(ho:o.op = .buildSlice t len parts)(ht:P.underlying t=some (.slice e))
  (hz:nX P e=some z) (hn:gK P e=some n) (hp:AC parts.toList=some ps) (hzl:z.length=n) (h1:1<=n) (h3:len*n<=16777216) {out:List (List AV)} (he:oQ (val g) n (List.replicate len z) ps=some out)
  (hd:h d=none) (hu:cN d g h) (hid:d<1000\/2000<=d):aS P c o a w g h (.ms d n 0 out.length) (.new d ⟨e,n,out,false⟩):=by
 obtain⟨h4,h5⟩:=Jl he;obtain⟨_,_,_,_,_,h6⟩:=jb (M:=bz bl c.MF h) (w:=w) hz;exact Kh s ho ht hz hn hp hzl h1 h3 h4 hd hu hid (q:=false) (λ_=>h5 λr hr=>by obtain⟨_,rfl⟩:=List.mem_replicate.1 hr;exact A8 h6) (λh=>by cases h)
end
section
variable{P:Program}{c:qL}{bl:Nat->Option Nat}{g:Nat->AV}{h:Nat->Option aj}{a:Act}{w:World}{o:Oper}{M:Nat->Prop}
def kN(b:Nat):∀(vs:List Value)(off:Nat)(w:World){c1:Array Value}{t:TypeId}{fr:Nat×Nat},w.heap[b]?=some (.cells c1 t fr)->off+vs.length<=c1.size ->
  ∃c2:Array Value,(w.setCells b off vs).heap[b]?=some (.cells c2 t fr)/\c2.size=c1.size/\(∀i:Nat,c2[i]? = if off<=i/\i<off+vs.length then vs[i-off]? else c1[i]?) /\
   (w.setCells b off vs).heap.size=w.heap.size/\(∀b',b'≠b->(w.setCells b off vs).heap[b']? = w.heap[b']?)/\(w.setCells b off vs).os=w.os/\(w.setCells b off vs).output=w.output
 | [],off,w,c1,t,fr,hb,_=>⟨c1,hb,rfl,λi=>by rw[ax (by simp only[iN];omega)],rfl,λ_ _=>rfl,rfl,rfl⟩
 | v::r,off,w,c1,t,fr,hb,hl=>by
  simp only[j1]at hl;have hb1:(w.setCell ⟨b,off,none⟩ v).heap[b]?=some (.cells (c1.setIfInBounds off v) t fr):=by
   simp[World.setCell,yP,hb]
  obtain⟨c2,h1,h2,h3,h4,h5,h6,h7⟩:=kN b r (off+1) (w.setCell ⟨b,off,none⟩ v) hb1 (by simp;omega);refine⟨c2,h1,by rw[h2];simp,λi=>?_,by rw[World.setCells,h4];simp,λb' hb'=>?_,by rw[World.setCells,h6];rfl,by rw[World.setCells,h7];rfl⟩
  .rw[h3 i,FB];simp only[j1];by_cases e1:off=i
   .subst e1;rw[ax (by omega),aF (by omega)];simp;omega
   .by_cases e2:off<=i/\i<off+(r.length+1)
    .rw[aF (by omega),aF e2,show i-off=(i-(off+1))+1 by omega,zW]
    .rw[ax (by omega),ax e2,ax e1]
  .rw[World.setCells,h5 b' hb'];simp[World.setCell,yP,Ne.symm hb']
def aei{v:Value}(h:jU v):v.oneCell'=true:=by cases v<;>first|rfl|exact h.elim
def lC{b off:Nat}{vs:List Value}{c1:Array Value}{t:TypeId}{fr:Nat×Nat}(hb:w.heap[b]?=some (.cells c1 t fr))(uf:eD c1 fr)(hl:off+vs.length<=c1.size)(h1:∀v∈vs,jU v) :
  (storeCells ⟨b,off,none⟩ vs).run P w = .ok () (w.setCells b off vs):=by
 have:=run_storeCells_cells (P:=P) b off vs 0 w (λj hj=>by rw[bD hb];simp;omega) (λj hj=>by
  simp only[World.frozen?,hb];have:=uf.spec (off+0+j) (by omega);simp only[Bool.and_eq_false_iff,decide_eq_false_iff_not];omega) (λv hv=>aei (h1 v hv))
 simpa using this
def aR.left{α β:Type}{R:α->β->Prop}{p:α->Prop}:∀{l:List α}{m:List β},aR R l m->(∀a b,R a b->p a)->∀a∈l,p a
 | [],[],_,_=>by simp
 | a::_,_::_,h,f=>λx hx=>by
  rcases bp.1 hx with rfl|hx
  .exact f _ _ h.1
  .exact h.2.left f x hx
 | [],_::_,h,_=>h.elim
 | _::_,[],h,_=>h.elim
def Qi(s:aH c bl g h a w){t:TypeId}{n:Nat}{p x:Operand}{pv xv:IV}(ho:o.op = .store t p x)(hn:gK P t=some n)(hp:cV p=some pv)(hx:cV x=some xv)
  {e:aW} (he:km n (val g pv) (val g xv) h=some e):aS P c o a w g h .any e:=by
 have h1:=aO s hp;unfold km at he;split at he
 case h_2=>cases he
 rename_i id st row off cs e1 e2;rw[e1]at h1;split at he
 case h_2=>cases he
 rename_i ob hob;split at he
 case isFalse=>cases he
 rename_i hcond;obtain⟨hst,hlen,himm⟩:=hcond;split at he
 case h_2=>cases he
 rename_i r hr;split at he
 case isFalse=>cases he
 rename_i hfit;cases he;have hv:=sM (aO s hx) e2;have el:=hv.length;simp only[nD]at el;obtain⟨b,hb,hpv⟩:=h1.mp;rcases s.heap.1 id ob hob with hn0|⟨b',h2,⟨gk,c1,fr,h3,h4,h5,h6,h7,h8⟩|hsp⟩
 .rw[hn0.2.2]at hb;cases hb
 rotate_left
 .exact(hsp.no hr).elim
 rw[hb]at h2;cases h2;have hrl:=h6 _ _ hr;have hrow:row<ob.rows.length:=(gW.1 hr).1;have hspace:row*ob.st+ob.st<=c1.size:=by
  have:=nv ob.st (show row+1<=ob.rows.length by omega);rw[iP]at this;omega
 have hsz:(sizeOf t).run P w = .ok n w:=xJ hn;have hrun:(execOp a.eval o).run P w = .ok .skip (w.setCells b (row*st+off) (a.eval x).cells.toList):=by
  have hst':=lC (P:=P) (w:=w) (b:=b) (off:=row*st+off) (vs:=(a.eval x).cells.toList) h3 h4 (by simp only[nD];rw[<-hst];omega) (hv.left λ_ _ hr=>bV.one hr);simp[execOp,ho,Instr.storeAt,Instr.sureAddr,hpv,storeVar,hsz,el,hlen,hst']
 obtain⟨c2,g1,g2,g3,g4,g5,g6,g7⟩:=kN b (a.eval x).cells.toList (row*st+off) w h3 (by simp only[nD];rw[<-hst];omega);simp only[nD,el,hlen]at g3;have hspl:(iC r off cs).length=r.length:=uO _ _ _ (by omega)
 have hs:=s.write (o':={ob with rows:=ob.rows.set row (iC r off cs)}) hob hb h3 g1 g2 g4 g5 g6 g7 rfl ⟨λi q hq=>by
   simp only at hq⊢;rw[List.getElem?_set]at hq;split at hq
   .cases hq;omega
   .exact h6 i q hq,by simpa[g2]using h7,λi j q y hq hy=>by
   simp only at hq hy⊢;rw[List.getElem?_set]at hq;rw[g3];split at hq
   .rename_i hri;subst hri;cases hq;rw[BT _ _ _ (by omega)]at hy;by_cases hin:off<=j/\j<off+cs.length
    .rw[aF hin]at hy;rw[aF (by rw[<-hst];omega)];obtain⟨u,hu,hr'⟩:=hv.get hy;refine⟨u,by rw[<-hu];congr 1;rw[<-hst];omega,?_⟩;cases hrec:ob.isRec with
     | true=>exact hr'
     | false =>
      rw[hrec]at himm;simp only[x7]at himm;exact Gs hr' (f_.1 himm y (nF hy))
    .rw[ax hin]at hy;rw[ax (by rw[<-hst];omega)];exact h8 _ _ _ _ hr hy
   .rename_i hri;have hj:j<ob.st:=by rw[<-h6 i q hq];exact(gW.1 hy).1
    rw[ax (λhh=>hri (by
     rw[<-hst]at hh;exact((DK (k:=row) hj).1 ⟨by omega,by omega⟩).symm))]
    exact h8 _ _ _ _ hq hy⟩
 exact⟨undef,_,bl,.inr ⟨hrun,rfl⟩,hs,trivial⟩
def Y3(s:aH c bl g h a w){d:Nat}{t e:TypeId}{st:Nat}{z:List AV}{l cp:Operand}{lv cv:IV}(ho:o.op = .makeSlice t l cp)(hap:nJ P t=some (e,st))(hz:nX P e=some z)(hl:cV l=some lv)(hcp:cV cp=some cv)
  {n m:Int} (e1:val g lv = .int .i64 n) (e2:val g cv = .int .i64 m) (h0:0<=n) (h1:n<=m) (h2:m<1073741824) (hzl:z.length=st)
  (hd:h d=none) (hu:cN d g h) (hid:d<1000\/2000<=d):aS P c o a w g h (.ms d st 0 n.toNat) (.new d ⟨e,st,List.replicate n.toNat z,false⟩):=by
 unfold nJ at hap;split at hap
 case h_2=>cases hap
 rename_i e' ht;split at hap
 case h_2=>cases hap
 rename_i i z' hi hz';split at hap
 case isFalse=>cases hap
 rename_i hcond;obtain⟨hb1,hb2,hb3,hb4⟩:=hcond;cases hap;rw[hz]at hz';cases hz';obtain⟨i',v,h4,h5,h6,_⟩:=jb (M:=bz bl c.MF h) (w:=w) hz;rw[hi]at h4;cases h4;have r1:=aO s hl;have r2:=aO s hcp;rw[e1]at r1;rw[e2]at r2;have hzr:=DP (len:=m.toNat) h6 rfl (by omega);rw[hb3]at hzr;refine ni (q:=false) (w':=w.alloc (.cells ((Array.range (m.toNat*i.size)).map (v.cells[· % v.cells.size]!)) e)) (cs:=(Array.range (m.toNat*i.size)).map (v.cells[· % v.cells.size]!)) (fr:=(0,0)) (cap:=m.toNat) s hd hu hid ?_ rfl rfl rfl (mJ _) ?_ ?_ (by omega) (by simp) ?_ (λh=>by cases h)
 .have hwl:IntKind.i64.wrap n=n:=IntWalk.i64_in _ (by omega);have hwm:IntKind.i64.wrap m=m:=IntWalk.i64_in _ (by omega);have hbig:¬((i.bytes:Int)*m>2^48):=by
   have:(i.bytes:Int)*m<=1024*m:=Int.mul_le_mul_of_nonneg_right (by omega) (by omega);omega
  have hbig2:¬(281474976710656:Int)<(i.bytes:Int)*m:=by simpa using hbig
  have hm0:¬m<0:=by omega
  have hn0:¬n<0:=by omega
  have hnm:¬n>m:=by omega
  have hnm':¬m<n:=by omega
  simp only[execOp,ho,r1.int,r2.int];by_cases hz0:m.toNat*i.size=0
  .simp[Instr.makeSlice,underlying,ht,asInt,asIntOf,typeInfo,hi,hwl,hwm,hbig2,hm0,hn0,hnm',sizeOf,hz0,newRow];have hr0:Array.range 0 = #[]:=by simp
   rw[hr0,Array.map_empty,Array.map_empty]
  .simp[Instr.makeSlice,underlying,ht,asInt,asIntOf,typeInfo,hi,hwl,hwm,hbig2,hm0,hn0,hnm',sizeOf,hz0,newRow,zeroValue,h5]
 .intro k r hr;rw[List.getElem?_replicate]at hr;split at hr
  .cases hr;exact hb3
  .cases hr
 .simp only[List.length_replicate,hzr.2.1];exact nv _ (by omega)
 .intro k j r x hr hx;refine hzr.2.2 k j r x ?_ hx;rw[List.getElem?_replicate]at hr⊢;split at hr
  .cases hr;rw[aF (by omega)]
  .cases hr
end
section
variable{P:Program}{c:qL}{bl:Nat->Option Nat}{g:Nat->AV}{h:Nat->Option aj}{a:Act}{w w':World}{o:Oper}{M:Nat->Prop}
def aH.newS(s:aH c bl g h a w){i:Nat}{o:aj}{ob:Obj}(hi:h i=none)(hu:cN i g h)
  (hid:i<1000\/2000<=i) (hw:w'.heap=w.heap.push ob) (hos:w'.os=w.os) (hout:w'.output=w.output) (hrows:o.rows=[]) (hrec:o.isRec=false)
  (hrel:DV (bz (dQ bl i (some w.heap.size)) c.MF (dQ h i (some o))) o.k w' w.heap.size) :
  aH c (dQ bl i (some w.heap.size)) g (dQ h i (some o)) a w':=by
 have hbl:∀j,j≠i->dQ bl i (some w.heap.size) j=bl j:=λj hj=>bX _ _ hj;have hlt:∀j oj b,h j=some oj->bl j=some b->b<w.heap.size:=λj oj b h1 h2=>by
  rcases s.heap.1 j oj h1 with h3|⟨b',h3,hO⟩
  .rw[h3.2.2]at h2;cases h2
  .rw[h2]at h3;cases h3;exact hO.lt
 have hmut:∀b,bz (dQ bl i (some w.heap.size)) c.MF (dQ h i (some o)) b->bz bl c.MF h b\/b=w.heap.size:=by
  rintro b (hm|⟨j,oj,h1,h2⟩)
  .exact .inl (.inl hm)
  .by_cases hj:j=i
   .subst hj;rw[bC]at h2;cases h2;exact .inr rfl
   .rw[bX _ _ hj]at h1 h2;exact .inl (.inr ⟨j,oj,h1,h2⟩)
 have hpush:∀b,b<w.heap.size->w'.heap[b]? = w.heap[b]?:=λb hb=>by
  rw[hw,zy];simp[Nat.ne_of_lt hb]
 have ht:Tr (bz bl c.MF h) (bz (dQ bl i (some w.heap.size)) c.MF (dQ h i (some o))) w w':=by
  refine⟨λb hb hlt'=>⟨λhm=>?_,hpush b hlt'⟩,λb c1 t f1 hb=>⟨c1,f1,by rw[hpush b (aQ hb)];exact hb,rfl⟩⟩;rcases hmut b hm with hm|hm
  .exact hb hm
  .exact absurd hm (Nat.ne_of_lt hlt')
 refine⟨s.defers,s.size,λk=>(s.env k).tr ht (λid hmi=>hbl id (λe=>?_)),⟨λid o1 h1=>?_,λid id' o1 o2 b h1 h2 h3 h4=>?_⟩,?_,λid o1 b h1 h2=>?_,λid h1 h2=>?_,s.mf⟩
 .subst e;rw[hu.1 k]at hmi;cases hmi
 .by_cases hj:id=i
  .subst hj;rw[bC]at h1;cases h1;refine .inr ⟨w.heap.size,bC _ _ _,.inr ⟨hrows,hrec,λhm=>?_,hrel⟩⟩;exact absurd (s.mf _ hm) (Nat.not_lt.2 s.step.size)
  .rw[bX _ _ hj]at h1;rcases s.heap.1 id o1 h1 with h3|⟨b,h3,⟨hk0,c1,f1,h4,h5,h6,h7,h8,h9⟩|hsp⟩
   .exact .inl ⟨h3.1,h3.2.1,by rw[hbl id hj];exact h3.2.2⟩
   rotate_left
   .exact .inr ⟨b,by rw[hbl id hj];exact h3,.inr (hsp.tr (hpush b hsp.rel.lt) ht.keep)⟩
   .refine .inr ⟨b,by rw[hbl id hj];exact h3,.inl ⟨hk0,c1,f1,by rw[hpush b (aQ h4)];exact h4,h5,h6,h7,h8,λk j r x hk hx=>?_⟩⟩;obtain⟨v,hv1,hv2⟩:=h9 k j r x hk hx;refine⟨v,hv1,hv2.tr ht (λhr id' hmi=>hbl id' (λe=>?_))⟩;subst e;rw[hu.2 id o1 h1 hr r (nF hk) x (nF hx)]at hmi;cases hmi
 .by_cases hj:id=i<;>by_cases hj':id'=i
  .rw[hj,hj']
  .subst hj;rw[bC]at h3;cases h3;rw[bX _ _ hj']at h2 h4;exact absurd (hlt _ _ _ h2 h4) (Nat.lt_irrefl _)
  .subst hj';rw[bC]at h4;cases h4;rw[bX _ _ hj]at h1 h3;exact absurd (hlt _ _ _ h1 h3) (Nat.lt_irrefl _)
  .rw[bX _ _ hj]at h1 h3;rw[bX _ _ hj']at h2 h4;exact s.heap.2 _ _ _ _ _ h1 h2 h3 h4
 .refine s.step.trans (X:=λ_=>False) ⟨by rw[hw];simp,λb hb _=>hpush b hb,ht.shape,hos,hout⟩ (λ_ _ h=>h.elim)
 .by_cases hj:id=i
  .subst hj;rw[bC]at h2;cases h2;exact .inl s.step.size
  .rw[bX _ _ hj]at h1 h2;exact s.own id o1 b h1 h2
 .rw[hbl id (by omega)];exact s.stab id h1 h2
def aH.writeS(s:aH c bl g h a w){i b:Nat}{o o':aj}(hi:h i=some o)(hb:bl i=some b)(hsp:FO (bz bl c.MF h) c.MF w o b)
  (hrows:o'.rows=[]) (hrec:o'.isRec=false) (hrel:DV (bz bl c.MF (dQ h i (some o'))) o'.k w' b) (hsize:w'.heap.size=w.heap.size)
  (hother:∀b',b'≠b->w'.heap[b']? = w.heap[b']?) (hos:w'.os=w.os) (hout:w'.output=w.output):aH c bl g (dQ h i (some o')) a w':=by
 have hm:∀b,bz bl c.MF (dQ h i (some o')) b↔bz bl c.MF h b:=bz.congr (λj=>by
  by_cases hj:j=i
  .subst hj;simp[bC,hi]
  .rw[bX _ _ hj])
 have hmb:bz bl c.MF h b:=.inr ⟨i,o,hi,hb⟩;have hshape:∀(b':Nat)(c0:Array Value)(t:TypeId)(f0:Nat×Nat),w.heap[b']?=some (.cells c0 t f0)->∃(c':Array Value)(f1:Nat×Nat),w'.heap[b']?=some (.cells c' t f1)/\c'.size=c0.size:=by
  intro b' c0 t f0 hb';by_cases hbb:b'=b
  .subst hbb;exact(hsp.ne hb').elim
  .exact⟨c0,f0,by rw[hother b' hbb];exact hb',rfl⟩
 have ht:Tr (bz bl c.MF h) (bz bl c.MF (dQ h i (some o'))) w w' :=
  ⟨λb' hb' _=>⟨λhmm=>hb' ((hm b').1 hmm),hother b' (λe=>hb' (e▸hmb))⟩,hshape⟩
 refine⟨s.defers,s.size,λk=>(s.env k).tr ht (λ_ _=>rfl),⟨λid o1 h3=>?_,λid id' o1 o2 b' h3 h4=>?_⟩,?_,λid o1 b' h3=>?_,s.stab,s.mf⟩
 .by_cases hj:id=i
  .subst hj;rw[bC]at h3;cases h3;exact .inr ⟨b,hb,.inr ⟨hrows,hrec,hsp.free,hrel⟩⟩
  .rw[bX _ _ hj]at h3;rcases s.heap.1 id o1 h3 with g3|⟨b',g3,⟨hk0,c0,f0,g4,g5,g6,g7,g8,g9⟩|hsp'⟩
   .exact .inl g3
   rotate_left
   .have hbb:b'≠b:=λe=>hj (s.heap.2 id i o1 o b h3 hi (e▸g3) hb);exact .inr ⟨b',g3,.inr (hsp'.tr (hother b' hbb) ht.keep)⟩
   .have hbb:b'≠b:=λe=>hj (s.heap.2 id i o1 o b h3 hi (e▸g3) hb);refine .inr ⟨b',g3,.inl ⟨hk0,c0,f0,by rw[hother b' hbb];exact g4,g5,g6,g7,g8,λk j r x hk hx=>?_⟩⟩;obtain⟨v,hv1,hv2⟩:=g9 k j r x hk hx;exact⟨v,hv1,hv2.tr ht (λ_ _ _=>rfl)⟩
 .have key:∀{j oj},dQ h i (some o') j=some oj->∃o0,h j=some o0:=λ{j oj} hj=>by
   by_cases hji:j=i
   .subst hji;exact⟨o,hi⟩
   .rw[bX _ _ hji]at hj;exact⟨oj,hj⟩
  obtain⟨p,hp⟩:=key h3;obtain⟨q,hq⟩:=key h4;exact s.heap.2 id id' p q b' hp hq
 .refine s.step.trans (X:=λb'=>b'=b) ⟨Nat.le_of_eq hsize.symm,λb' _ hb'=>hother b' hb',hshape,hos,hout⟩ (λb' hlt hb'=>?_);subst hb';rcases s.own i o b' hi hb with h5|h5
  .exact absurd hlt (Nat.not_lt.2 h5)
  .exact h5
 .by_cases hj:id=i
  .subst hj;exact s.own id o b' hi
  .rw[bX _ _ hj]at h3;exact s.own id o1 b' h3
def E8(s:aH c bl g h a w){v:Value}{id:Nat}{k:Bool}{ob:aj}(hv:aY bl (bz bl c.MF h) w v (.mm id k))(hob:h id=some ob)(hk:ob.k≠Kd.cells) :
  ∃b,bl id=some b/\(v=if k=true then .map (some b)else .pointer (some ⟨b,0,none⟩))/\FO (bz bl c.MF h) c.MF w ob b:=by
 obtain⟨b,h1,h2⟩:=hv;rcases s.heap.1 id ob hob with hn|⟨b',h3,⟨h4,_⟩|hsp⟩
 .rw[hn.2.2]at h1;cases h1
 .exact absurd h4 hk
 .rw[h1]at h3;cases h3;exact⟨b,h1,h2,hsp⟩
def mj{v:Value}{x:AV}(hv:aY bl M w v x)(hf:oV x=true):dK v x:=by
 cases x<;>first|(simp[oV]at hf;done)|skip
 .exact hv.bool
 .exact hv.int
 .exact hv.str
def fL{v:Value}{x:AV}(hv:dK v x):IRel M w v x:=by
 cases x<;>simp only[dK]at hv<;>first|(exact hv.elim)|(subst hv;constructor)
def gD(w:World){b:Nat}(hb:b<w.heap.size)(ob:Obj):({w with heap:=w.heap.setIfInBounds b ob}:World).heap[b]?=some ob/\({w with heap:=w.heap.setIfInBounds b ob}:World).heap.size=w.heap.size /\
  ∀b',b'≠b->({w with heap:=w.heap.setIfInBounds b ob}:World).heap[b']? = w.heap[b']?:=by
 refine⟨by simp[hb],by simp,λb' hb'=>by simp[FB,Ne.symm hb']⟩
def fP{w:World}{r:Nat}{ob:Obj}(hb:w.heap[r]?=some ob)(hn:∀c t fr,ob≠.cells c t fr):(getObj r).run P w = .ok ob w:=by
 cases ob<;>first|(exact absurd rfl (hn _ _ _))|simp[getObj,Sem.run,hb]
def Zc(s:aH c bl g h a w){t:TypeId}{x:Operand}{xv:IV}{l:List UInt8}{d:Nat}(ho:o.op = .range t x)(ht:P.underlying t=some .string)(hx:cV x=some xv)(hv:val g xv = .str l)
  (hd:h d=none) (hu:cN d g h) (hid:d<1000\/2000<=d):aS P c o a w g h (.mm d false) (.new d (@aj.mk 0 0 [] false (.it l 0))):=by
 have h1:=aO s hx;rw[hv]at h1;have h2:a.eval x = .string ⟨l.toArray⟩:=h1.str;have hs:=s.newS (i:=d) (o:=@aj.mk 0 0 [] false (.it l 0)) (ob:=.stringIter ⟨l.toArray⟩ 0) (w':={w with heap:=w.heap.push (.stringIter ⟨l.toArray⟩ 0)}) hd hu hid rfl rfl rfl rfl rfl (by simp[DV]);refine⟨.pointer (some ⟨w.heap.size,0,none⟩),_,_,.inl ?_,hs,w.heap.size,bC _ _ _,by simp⟩;simp[execOp,ho,Instr.range,run_underlying ht,h2,newObj,Sem.run]
def Za(s:aH c bl g h a w){x:Operand}{xv:IV}{id:Nat}{ob:aj}{r:AV}{e:aW}(ho:o.op = .next x true)(hx:cV x=some xv)(hv:val g xv = .mm id false)(hob:h id=some ob)(he:RM id ob=some (r,e)) :
  aS P c o a w g h r e:=by
 unfold RM acn at he;cases hk:ob.k with
 | cells=>rw[hk]at he;cases he
 | mp es=>rw[hk]at he;cases he
 | mi l la=>rw[hk]at he;cases he
 | it l pos =>
  rw[hk]at he;simp only at he;have h1:=aO s hx;rw[hv]at h1;obtain⟨b,h2,h3,hsp⟩:=E8 s h1 hob (by rw[hk];intro hh;cases hh);have hr:=hsp.rel;rw[hk]at hr;have hb:w.heap[b]?=some (.stringIter ⟨l.toArray⟩ pos):=hr;have hg:=fP (P:=P) hb (λ_ _ _ hh=>by cases hh);have hsz:(⟨l.toArray⟩:ByteArray).size=l.length:=by simp[ByteArray.size]
  simp only[jr,fS]at h3;split at he
  .rename_i hlt;cases he;obtain⟨q1,q2,q3⟩:=gD w (aQ hb) (.stringIter ⟨l.toArray⟩ (pos+(Utf8.decode ⟨l.toArray⟩ pos).2));have hs:=s.writeS (o':={ob with k:=.it l (pos+(Utf8.decode ⟨l.toArray⟩ pos).2)}) hob h2 hsp hsp.rows hsp.isRec q1 q2 q3 rfl rfl;refine⟨.tuple #[.bool true,goInt pos,.int .i32 (Utf8.decode ⟨l.toArray⟩ pos).1],_,_,.inl ?_,hs,[_,_,_],rfl,IRel.bool _,IRel.int _ _,IRel.int _ _,trivial⟩;simp[execOp,ho,Instr.next,h3,hg,hsz,hlt,setObj,Sem.run,hb]
  .rename_i hlt;cases he;exact aS.pure s (r:=.tuple #[.bool false]) (by simp[execOp,ho,Instr.next,h3,hg,hsz,hlt]) ⟨[_],rfl,IRel.bool _,trivial⟩
def Zb(s:aH c bl g h a w){t k1 k2:TypeId}{x:Operand}{xv:IV}{l:List (AV×AV)}{d:Nat}(ho:o.op = .range t x)(ht:P.underlying t=some (.map k1 k2))(hx:cV x=some xv)(hv:val g xv = .fm l)
  (hd:h d=none) (hu:cN d g h) (hid:d<1000\/2000<=d):aS P c o a w g h (.mm d false) (.new d (@aj.mk 0 0 [] false (.mi l none))):=by
 have h1:=aO s hx;rw[hv]at h1;have h2:IRel (bz bl c.MF h) w (a.eval x) (.fm l):=h1;have key:∀{v:Value},IRel (bz bl c.MF h) w v (.fm l)->(v = .map none/\l=[])\/∃m es,v = .map (some m)/\w.heap[m]?=some (.map es es.size)/\¬bz bl c.MF h m/\(∀(i:Nat)(e:MapEntry),es[i]?=some e->e.born=i)/\aR (λ(e:MapEntry)(p:AV×AV)=>dK e.key p.1/\dK e.val p.2) es.toList l:=λhv=>by
  cases hv with
  | nm=>exact .inl ⟨rfl,rfl⟩
  | fm b es' es hb hM hn he=>exact .inr ⟨b,es',rfl,hb,hM,hn,he⟩
 rcases key h2 with⟨e1,rfl⟩|⟨m,es,e1,e2,e3,e4,e5⟩
 .have hs:=s.newS (i:=d) (o:=@aj.mk 0 0 [] false (.mi [] none)) (ob:=.mapIter none 0 #[] 0) (w':={w with heap:=w.heap.push (.mapIter none 0 #[] 0)}) hd hu hid rfl rfl rfl rfl rfl (.inl ⟨rfl,rfl,by simp⟩);refine⟨.pointer (some ⟨w.heap.size,0,none⟩),_,_,.inl ?_,hs,w.heap.size,bC _ _ _,by simp⟩;simp[execOp,ho,Instr.range,run_underlying ht,e1,newObj,Sem.run]
 .have hlt:=aQ e2;have hs:=s.newS (i:=d) (o:=@aj.mk 0 0 [] false (.mi l none)) (ob:=.mapIter (some m) es.size #[] es.size) (w':={w with heap:=w.heap.push (.mapIter (some m) es.size #[] es.size)}) hd hu hid rfl rfl rfl rfl rfl
   (.inr ⟨m,es,#[],by simp,by simp only[zy,Nat.ne_of_lt hlt,fS];exact e2,λhm=>?_,e4,λ_ q=>(by cases q),by simpa[List.filter_eq_self.2]using e5⟩)
  .refine⟨.pointer (some ⟨w.heap.size,0,none⟩),_,_,.inl ?_,hs,w.heap.size,bC _ _ _,by simp⟩;have hg:=fP (P:=P) e2 (λ_ _ _ hh=>by cases hh);simp[execOp,ho,Instr.range,run_underlying ht,e1,hg,newObj,Sem.run]
  .rcases hm with hm|⟨j,oj,q1,q2⟩
   .exact e3 (.inl hm)
   .by_cases hj:j=d
    .subst hj;rw[bC]at q2;cases q2;exact absurd hlt (Nat.lt_irrefl _)
    .rw[bX _ _ hj]at q1 q2;exact e3 (.inr ⟨j,oj,q1,q2⟩)
def wU{α:Type}(f:α->Nat):∀(L:List α)(i:Nat)(e:α),L[i]?=some e->(L.map f).Nodup->L.filter (λx=>f x != f e)=L.eraseIdx i
 | [],i,e,h,_=>by simp at h
 | a::L,0,e,h,hn=>by
  simp only[List.getElem?_cons_zero,cI]at h;subst h;simp only[bY,List.nodup_cons,dN,not_exists,not_and]at hn;simp only[List.filter_cons,bne_self_eq_false,jr,fS,List.eraseIdx_zero,List.tail_cons];exact List.filter_eq_self.2 λx hx=>bne_iff_ne.2 (hn.1 x hx)
 | a::L,i+1,e,h,hn=>by
  simp only[zW]at h;simp only[bY,List.nodup_cons,dN,not_exists,not_and]at hn;have:(f a != f e)=true:=bne_iff_ne.2 λq=>hn.1 e (nF h) q.symm;simp only[List.filter_cons,this,dP,List.eraseIdx_cons_succ,wU f L i e h hn.2]
def aR.eraseIdx{α β:Type}{R:α->β->Prop}:∀{l:List α}{m:List β}(i:Nat),aR R l m->aR R (l.eraseIdx i) (m.eraseIdx i)
 | [],[],_,_=>by simp[aR]
 | _::_,_::_,0,h=>h.2
 | _::_,_::_,i+1,h=>⟨h.1,h.2.eraseIdx i⟩
 | [],_::_,_,h=>h.elim
 | _::_,[],_,h=>h.elim
def Y_(s:aH c bl g h a w){x:Operand}{xv:IV}{id:Nat}{ob:aj}{l:List (AV×AV)}{la:Option (AV×AV)}(ho:o.op = .next x false)(hx:cV x=some xv)(hv:val g xv = .mm id false)(hob:h id=some ob)(hk:ob.k = .mi l la) :
  (l=[]/\aS P c o a w g h (.tup [.bool false]) .no)\/∃(i:Nat)(e:AV×AV),l[i]?=some e/\aS P c o a w g h (.tup [.bool true,e.1,e.2]) (.put id {ob with k:=.mi (l.eraseIdx i) (some e)}):=by
 have h1:=aO s hx;rw[hv]at h1;obtain⟨b,h2,h3,hsp⟩:=E8 s h1 hob (by rw[hk];intro hh;cases hh);have hr:=hsp.rel;rw[hk]at hr;simp only[jr,fS]at h3;rcases hr with⟨rfl,_,hb⟩|⟨m,es,seen,hb,hm,hM,hn,_,he⟩
 .refine .inl ⟨rfl,aS.pure s (r:=.tuple #[.bool false]) ?_ ⟨[_],rfl,IRel.bool _,trivial⟩⟩;have hg:=fP (P:=P) hb (λ_ _ _ hh=>by cases hh);simp[execOp,ho,Instr.next,h3,hg]
 .have hg:=fP (P:=P) hb (λ_ _ _ hh=>by cases hh);have hg2:=fP (P:=P) hm (λ_ _ _ hh=>by cases hh);have hborn:∀e∈es,e.born<es.size:=λe he=>by
   obtain⟨i,hi,rfl⟩:=Array.mem_iff_getElem.1 he;have:=hn i es[i] (lF hi);omega
  obtain⟨L,hL⟩:∃L,L=es.filter λe=>!seen.contains e.born:=⟨_,rfl⟩
  have hmem:∀e∈L,e∈es:=λe he=>by rw[hL]at he;exact(Array.mem_filter.1 he).1
  have c0':((¬seen = #[]/\¬es = #[])/\∀(i:Nat)(x:i<es.size),es[i].born>=es.size)=False:=eq_false λ⟨⟨_,q1⟩,q2⟩=>by
   have h0:0<es.size:=Array.size_pos_iff.2 q1;have:=q2 0 h0;have:=hborn es[0] (Array.getElem_mem h0);omega
  have c1:es.filter (λa=>decide (a.born<es.size) && !decide (a.born∈seen))=L:=by
   rw[hL];apply Array.toList_inj.1;rw[Array.toList_filter,Array.toList_filter];exact List.filter_congr λe he=>by
    have:=hborn e (Array.mem_toList_iff.1 he);simp[this]
  have cz:(∀(a:MapEntry),a∈es->a.born<es.size->a.born∈seen)↔L = #[]:=by
   rw[hL,Array.filter_eq_empty_iff];simp only[yO,Bool.not_eq_false,Array.contains_iff_mem,Bool.not_eq_true,Bool.not_eq_eq_eq_not,di];exact⟨λh a ha=>h a ha (hborn a ha),λh a ha _=>h a ha⟩
  have c2:es.filter (λa=>decide (a.born>=es.size) && !decide (a.born∈seen)) = #[]:=by
   rw[Array.filter_eq_empty_iff];exact λe he=>by have:=hborn e he;simp;omega
  rw[<-hL]at he;by_cases hz:L = #[]
  .refine .inl ⟨?_,aS.pure s (r:=.tuple #[.bool false]) ?_ ⟨[_],rfl,IRel.bool _,trivial⟩⟩
   .rw[hz]at he;cases l with
    | nil=>rfl
    | cons x r=>exact he.elim
   .simp[execOp,ho,Instr.next,h3,hg,hg2,c0',c1,c2,cz,hz,choose,Sem.run,Question.forced,-ge_iff_le]
  .have hpos:0<L.size:=Array.size_pos_iff.2 hz;have hmb:m≠b:=λe=>hM (e▸.inr ⟨id,ob,hob,h2⟩);have hblt:=aQ hb;have hnd:(L.toList.map MapEntry.born).Nodup:=by
    have h0:(es.toList.map MapEntry.born).Nodup:=by
     have:es.toList.map MapEntry.born=List.range es.size:=by
      apply List.ext_getElem?;intro k;rw[fR,Array.getElem?_toList];by_cases hk:k<es.size
      .rw[lF hk,B2 hk,fo,hn k _ (lF hk)]
      .rw[B3 (by omega),tV (by rw[List.length_range];omega)];rfl
     rw[this];exact List.nodup_range
    rw[hL,Array.toList_filter];exact List.Nodup.sublist (List.Sublist.map _ List.filter_sublist) h0
   have hlast:∀(i:Nat)(hi:i<L.size)(wd:World),wd.heap=w.heap->wd.os=w.os->wd.output=w.output ->
     (execOp a.eval o).run P w = .ok (.value (.tuple #[.bool true,L[i].key,L[i].val])) {wd with heap:=wd.heap.setIfInBounds b (.mapIter (some m) es.size (seen.push L[i].born) es.size)} ->
     ∃(i:Nat)(e:AV×AV),l[i]?=some e/\aS P c o a w g h (.tup [.bool true,e.1,e.2]) (.put id {ob with k:=.mi (l.eraseIdx i) (some e)}):=by
    intro i hi wd e1 e2 e3 hrun;have hll:=he.length;rw[nD]at hll;have hp:l[i]?=some l[i]:=jZ (by omega);obtain⟨x,hx,hr⟩:=he.get hp;rw[Array.getElem?_toList,lF hi]at hx;cases hx;obtain⟨q1,q2,q3⟩:=gD wd (by rw[e1];exact hblt) (.mapIter (some m) es.size (seen.push L[i].born) es.size)
    have hmm:∀b,bz bl c.MF (dQ h id (some {ob with k:=.mi (l.eraseIdx i) (some l[i])})) b↔bz bl c.MF h b:=bz.congr (λj=>by
     by_cases hj:j=id
     .subst hj;simp[bC,hob]
     .rw[bX _ _ hj])
    have hlastE:es[L[i].born]?=some L[i]:=by
     obtain⟨k,hk',e⟩:=Array.mem_iff_getElem.1 (hmem L[i] (Array.getElem_mem hi));have:=hn k L[i] (by rw[<-e];exact lF hk');rw[this,<-e];exact lF hk'
    have hLt:L.toList=es.toList.filter λe=>!seen.contains e.born:=by rw[hL,Array.toList_filter]
    have hfil:(es.filter λe=>!(seen.push L[i].born).contains e.born).toList=L.toList.eraseIdx i:=by
     rw[<-wU MapEntry.born L.toList i L[i] (by rw[Array.getElem?_toList,lF hi]) hnd,hLt,Array.toList_filter,List.filter_filter];exact List.filter_congr λe _=>by
      by_cases q:e.born=L[i].born<;>simp[q,bne]
    have hs:=s.writeS (o':={ob with k:=.mi (l.eraseIdx i) (some l[i])}) (w':={wd with heap:=wd.heap.setIfInBounds b (.mapIter (some m) es.size (seen.push L[i].born) es.size)}) hob h2 hsp hsp.rows hsp.isRec
     (.inr ⟨m,es,seen.push L[i].born,q1,(q3 m hmb).trans (by rw[e1];exact hm),λhmu=>hM ((hmm m).1 hmu),hn,λp hp'=>(by cases hp';exact⟨_,_,Array.back?_push,hlastE,hr.1,hr.2⟩),by rw[hfil];exact he.eraseIdx i⟩) (q2.trans (by rw[e1])) (λb' hb'=>(q3 b' hb').trans (by rw[e1])) e2 e3
    exact⟨i,l[i],hp,_,_,_,.inl hrun,hs,[_,_,_],rfl,IRel.bool _,(IRel.toC (fL hr.1)).toG,(IRel.toC (fL hr.2)).toG,trivial⟩
   refine .inr ?_;by_cases hsz:L.size<=1
   .refine hlast 0 hpos w rfl rfl rfl ?_;simp[execOp,ho,Instr.next,h3,hg,hg2,c0',c1,c2,cz,hz,choose,Sem.run,Question.forced,hsz,lF hpos,setObj,hb,-ge_iff_le]
   .have hlt:w.tape w.drawn (.mapNext L.size)%L.size<L.size:=Nat.mod_lt _ hpos;refine hlast (w.tape w.drawn (.mapNext L.size)%L.size) hlt w.drew rfl rfl rfl ?_;have hb':w.drew.heap[b]?=some (.mapIter (some m) es.size seen es.size):=hb;simp[execOp,ho,Instr.next,h3,hg,hg2,c0',c1,c2,cz,hz,choose,Sem.run,Question.forced,Question.cut,hsz,lF hlt,setObj,hb',-ge_iff_le]
def YY(s:aH c bl g h a w){x:Operand}{xv:IV}{id:Nat}{ob:aj}{e:AV×AV}(ho:o.op = .entry x)(hx:cV x=some xv)(hv:val g xv = .mm id false)(hob:h id=some ob)(he:TY ob=some e) :
  aS P c o a w g h (.tup [e.1,e.2]) .no:=by
 unfold TY at he;split at he
 case h_2=>cases he
 rename_i l la hk;have h1:=aO s hx;rw[hv]at h1;obtain⟨b,h2,h3,hsp⟩:=E8 s h1 hob (by rw[hk];intro hh;cases hh);have hr:=hsp.rel;rw[hk]at hr;simp only[jr,fS]at h3;rcases hr with⟨_,q,_⟩|⟨m,es,seen,hb,hm,hM,hn,hl,_⟩
 .rw[q]at he;cases he
 obtain⟨j,x0,q1,q2,q3,q4⟩:=hl e he;have hg:=fP (P:=P) hb (λ_ _ _ hh=>by cases hh);have hg2:=fP (P:=P) hm (λ_ _ _ hh=>by cases hh);obtain⟨hj,hj2⟩:=j0.1 q2;have hfind:es.find? (λe=>e.born==j)=some x0:=by
  rw[Array.find?_eq_some_iff_getElem];refine⟨by simp[hn j x0 q2],j,hj,hj2,λk hk=>?_⟩;have:=hn k es[k] (lF (by omega));simp only[this,yO,CV,ne_eq];omega
 refine aS.pure s (r:=.tuple #[x0.key,x0.val]) ?_ ⟨[_,_],rfl,(IRel.toC (fL q3)).toG,(IRel.toC (fL q4)).toG,trivial⟩;simp[execOp,ho,Instr.entry,h3,hg,hg2,q1,hfind]
def Y2(s:aH c bl g h a w){t:TypeId}{d:Nat}(ho:o.op = .makeMap t none)
  (hd:h d=none) (hu:cN d g h) (hid:d<1000\/2000<=d):aS P c o a w g h (.mm d true) (.new d (@aj.mk 0 0 [] false (.mp []))):=by
 have hs:=s.newS (i:=d) (o:=@aj.mk 0 0 [] false (.mp [])) (ob:=.map #[] 0) (w':={w with heap:=w.heap.push (.map #[] 0)}) hd hu hid rfl rfl rfl rfl rfl ⟨#[],by simp,by simp,trivial⟩;refine⟨.map (some w.heap.size),_,_,.inl ?_,hs,w.heap.size,bC _ _ _,by simp⟩;simp[execOp,ho,Instr.makeMap,newObj,Sem.run]
def yb(es':List MapEntry)(es:List (AV×AV)):Prop:=aR (λ(e:MapEntry)(p:AV×AV)=>dK e.key p.1/\dK e.val p.2) es' es
def Bf(s:aH c bl g h a w){x:Operand}{xv:IV}{id:Nat}{ob:aj}{es:List (AV×AV)}(hx:cV x=some xv)(hv:val g xv = .mm id true)(hob:h id=some ob)(he:wQ ob=some es) :
  ∃b es',bl id=some b/\a.eval x = .map (some b)/\FO (bz bl c.MF h) c.MF w ob b/\w.heap[b]?=some (.map es' es'.size)/\(∀(i:Nat)(e:MapEntry),es'[i]?=some e->e.born=i)/\yb es'.toList es:=by
 unfold wQ at he;cases hk:ob.k with
 | cells=>rw[hk]at he;cases he
 | it l pos=>rw[hk]at he;cases he
 | mi l la=>rw[hk]at he;cases he
 | mp es0 =>
  rw[hk]at he;cases he;have h1:=aO s hx;rw[hv]at h1;obtain⟨b,h2,h3,hsp⟩:=E8 s h1 hob (by rw[hk];intro hh;cases hh);have hr:=hsp.rel;rw[hk]at hr;obtain⟨es',h4,h5,h6⟩:=hr;exact⟨b,es',h2,by simpa using h3,hsp,h4,h5,h6⟩
def Y6(s:aH c bl g h a w){cl:Call}{t k0 e0:TypeId}{x:Operand}{xv:IV}{id:Nat}{ob:aj}{es:List (AV×AV)}(ho:o.op = .call cl)(hcl:cl.callee = .builtin .len)(hat:cl.argTypes = #[t])(har:cl.args = #[x])
  (ht:P.underlying t=some (.map k0 e0)) (hx:cV x=some xv) (hv:val g xv = .mm id true) (hob:h id=some ob) (he:wQ ob=some es):aS P c o a w g h (.int .i64 es.length) .no:=by
 obtain⟨b,es',h1,h2,h3,h4,h5,h6⟩:=Bf s hx hv hob he;have hg:=fP (P:=P) h4 (λ_ _ _ hh=>by cases hh);have hl:=h6.length;simp only[nD]at hl;exact aS.pure s (r:=goInt es'.size) (by simp[execOp,ho,resolve,hcl,har,hat,invoke,builtin,Builtin.len_,run_underlying ht,h2,hg]) (by rw[goInt,hl];exact sy _ _)
def Z_(kd:KK)(u:TypeDesc):Prop :=
 match kd with
 | .i=>∃k,u = .int k
 | .s=>u = .string
 | .b=>u = .bool
def LG{t:TypeId}{kd:KK}(hk:Yr P t=some kd):∃u,P.underlying t=some u/\Z_ kd u:=by
 unfold Yr at hk;split at hk<;>cases hk
 .rename_i k h1;exact⟨_,h1,k,rfl⟩
 .rename_i h1;exact⟨_,h1,rfl⟩
 .rename_i h1;exact⟨_,h1,rfl⟩
def Q7{kd:KK}{u:TypeDesc}(hu:Z_ kd u){key key':Value}{x x':AV}{r:Bool}(h1:aY bl M w key x)(h2:dK key' x')(hs:xI kd x x'=some r):Instr.sameNow u key key'=some r:=by
 cases kd<;>cases x<;>cases x'<;>simp only[xI,reduceCtorEq,cI]at hs
 .rename_i k n k' n';split at hs
  case isFalse=>cases hs
  rename_i hk;subst hk;rw[h1.int];cases h2;obtain⟨k0,rfl⟩:=hu;simpa[Instr.sameNow]using hs
 .rw[h1.str];cases h2;cases hu;subst hs;simp only[Instr.sameNow,cI];rename_i l1 l2;change (l1.toArray==l2.toArray)=_;simp
 .rw[h1.bool];cases h2;cases hu;simpa[Instr.sameNow]using hs
def Od{kd:KK}{u:TypeDesc}(hu:Z_ kd u){key:Value}{x:AV}(h1:aY bl M w key x):∀{es':List MapEntry}{es:List (AV×AV)}{r:Option Nat}(i:Nat),yb es' es->dq kd x es=some r ->
  Instr.findNow u key es' i=some (match r with|none=>none|some j=>(es'[j]?).map λe=>(i+j,e.val))/\∀j,r=some j->j<es'.length
 | [],[],r,i,_,hf=>by
  simp only[dq,cI]at hf;subst hf;exact⟨rfl,λj hj=>by cases hj⟩
 | e::es',p::es,r,i,hE,hf=>by
  simp only[dq]at hf;split at hf
  .rename_i hs;cases hf;refine⟨?_,λj hj=>by cases hj;simp⟩;simp[Instr.findNow,Q7 hu h1 hE.1.1 hs]
  .rename_i hs;simp only[dc]at hf;obtain⟨q,hq,rfl⟩:=hf;obtain⟨h3,h4⟩:=Od hu h1 (i+1) hE.2 hq;refine⟨?_,λj hj=>?_⟩
   .simp only[Instr.findNow,Q7 hu h1 hE.1.1 hs,h3];cases q with
    | none=>rfl
    | some j=>simp[VJ,Nat.add_comm 1 j]
   .cases q with
    | none=>cases hj
    | some j'=>cases hj;have:=h4 j' rfl;simp;omega
  .cases hf
 | [],_::_,_,_,hE,_=>hE.elim
 | _::_,[],_,_,hE,_=>hE.elim
def vO{t:TypeId}{z:AV}(hz:KA P t=some z):∃i v,P.info? t=some i/\i.zero=some v/\dK v z:=by
 unfold KA at hz;split at hz
 .rename_i i hi;split at hz<;>cases hz
  .rename_i b hv;exact⟨i,_,hi,hv,rfl⟩
  .rename_i k n hv;exact⟨i,_,hi,hv,rfl⟩
  .rename_i l hv;exact⟨i,_,hi,hv,by simp[dK]⟩
 .cases hz
def s6{t:TypeId}{kd:KK}{z:AV}(hz:zU P t=some (kd,z)):∃k e u,P.underlying t=some (.map k e)/\P.underlying k=some u/\Z_ kd u/\KA P e=some z:=by
 unfold zU at hz;split at hz
 .rename_i k e h1;split at hz
  .rename_i kd' z' h2 h3;cases hz;obtain⟨u,h4,h5⟩:=LG h2;exact⟨k,e,u,h1,h4,h5,h3⟩
  .cases hz
 .cases hz
def dg{kd:KK}{u:TypeDesc}{t:TypeId}(hu:Z_ kd u)(ht:P.underlying t=some u)(b:Bool)(v:Value):(Instr.checkKey b 10000 t v).run P w = .ok () w:=by
 have key:∀n,(Instr.checkKey b (n+1) t v).run P w = .ok () w:=λn=>by
  cases kd
  .obtain⟨k,rfl⟩:=hu;simp only[Instr.checkKey,lp,run_underlying ht,mF];rfl
  .cases hu;simp only[Instr.checkKey,lp,run_underlying ht,mF];rfl
  .cases hu;simp only[Instr.checkKey,lp,run_underlying ht,mF];rfl
 exact key 9999
def gJ{kd:KK}{u:TypeDesc}{t:TypeId}(hu:Z_ kd u)(ht:P.underlying t=some u){key:Value}{x:AV}(h1:aY bl M w key x){es':List MapEntry}{es:List (AV×AV)}{r:Option Nat}(hE:yb es' es)(hf:dq kd x es=some r) :
  (Instr.findKey t key es').run P w = .ok (r.bind λj=>(es'[j]?).map λe=>(j,e.val)) w/\∀j,r=some j->j<es'.length:=by
 obtain⟨h2,h3⟩:=Od hu h1 0 hE hf;refine⟨?_,h3⟩;simp only[ga]at h2;simp only[Instr.findKey,lp,run_underlying ht,mF,h2];cases r<;>rfl
def AN{es':List MapEntry}{es:List (AV×AV)}(hE:yb es' es){j:Nat}(hj:j<es'.length):∃e p,es'[j]?=some e/\es[j]?=some p/\dK e.key p.1/\dK e.val p.2:=by
 have hl:=hE.length;have h1:es[j]?=some (es[j]'(by omega)):=jZ _;obtain⟨e,h2,h3⟩:=hE.get h1;exact⟨e,_,h2,h1,h3⟩
def Ki(s:aH c bl g h a w){t:TypeId}{x y:Operand}{yv:IV}{ok:Bool}{kd:KK}{z r:AV}{ob:aj}{e:aW}(ho:o.op = .lookup t x y ok)(ht:zU P t=some (kd,z))(hy:cV y=some yv)
  (hm:∀es,wQ ob=some es->∃b es',a.eval x = .map (some b)/\w.heap[b]?=some (.map es' es'.size)/\yb es'.toList es) (he:uY ok kd z (val g yv) ob=some (r,e)):aS P c o a w g h r e:=by
 obtain⟨k,el,u,q1,q2,q3,q4⟩:=s6 ht;unfold uY at he;split at he
 case h_2=>cases he
 rename_i es hes;obtain⟨b,es',h2,h4,h6⟩:=hm es hes;have hg:=fP (P:=P) h4 (λ_ _ _ hh=>by cases hh);have hk:=aO s hy;split at he
 .rename_i i hf;obtain⟨f1,f2⟩:=gJ (P:=P) q3 q2 hk h6 hf;obtain⟨en,p,e1,e2,e3,e4⟩:=AN h6 (f2 i rfl);rw[e2]at he;simp only[cI,sK]at he;obtain⟨rfl,rfl⟩:=he;simp only[Option.bind_some,e1,fo]at f1;cases ok
  .exact aS.pure s (r:=en.val) (by simp[execOp,ho,Instr.lookup,run_underlying q1,h2,hg,dg q3 q2,f1]) (IRel.toC (fL e4)).toV
  .exact aS.pure s (r:=.tuple #[en.val,.bool true]) (by simp[execOp,ho,Instr.lookup,run_underlying q1,h2,hg,dg q3 q2,f1]) ⟨[_,_],rfl,(IRel.toC (fL e4)).toG,IRel.bool _,trivial⟩
 .rename_i hf;obtain⟨f1,f2⟩:=gJ (P:=P) q3 q2 hk h6 hf;simp only[Option.bind_none]at f1;obtain⟨i,zv,z1,z2,z3⟩:=vO q4;have hz:(zeroValue el).run P w = .ok zv w:=by simp[zeroValue,typeInfo,z1,z2]
  simp only[cI,sK]at he;obtain⟨rfl,rfl⟩:=he;cases ok
  .exact aS.pure s (r:=zv) (by simp[execOp,ho,Instr.lookup,run_underlying q1,h2,hg,dg q3 q2,f1,hz]) (IRel.toC (fL z3)).toV
  .exact aS.pure s (r:=.tuple #[zv,.bool false]) (by simp[execOp,ho,Instr.lookup,run_underlying q1,h2,hg,dg q3 q2,f1,hz]) ⟨[_,_],rfl,(IRel.toC (fL z3)).toG,IRel.bool _,trivial⟩
 .cases he
def Y4(s:aH c bl g h a w){t:TypeId}{x y:Operand}{xv yv:IV}{ok:Bool}{kd:KK}{z r:AV}{id:Nat}{ob:aj}{e:aW}(ho:o.op = .lookup t x y ok)(ht:zU P t=some (kd,z))(hx:cV x=some xv)(hy:cV y=some yv)
  (hv:val g xv = .mm id true) (hob:h id=some ob) (he:uY ok kd z (val g yv) ob=some (r,e)):aS P c o a w g h r e :=
 Ki s ho ht hy (λes hes=>by
  obtain⟨b,es',h1,h2,h3,h4,h5,h6⟩:=Bf s hx hv hob hes;exact⟨b,es',h2,h4,h6⟩) he
def Uw(s:aH c bl g h a w){t:TypeId}{x y:Operand}{xv yv:IV}{ok:Bool}{kd:KK}{z r:AV}{es:List (AV×AV)}{e:aW}(ho:o.op = .lookup t x y ok)(ht:zU P t=some (kd,z))(hx:cV x=some xv)(hy:cV y=some yv)
  (hv:val g xv = .fm es) (he:uY ok kd z (val g yv) (@aj.mk 0 0 [] false (.mp es))=some (r,e)):aS P c o a w g h r e:=by
 have h1:=aO s hx;rw[hv]at h1;have h2:IRel (bz bl c.MF h) w (a.eval x) (.fm es):=h1;generalize hq:a.eval x=q at h2;cases h2 with
 | fm b es' es hb hM hn he'=>exact Ki s ho ht hy (λes1 hes=>by cases hes;exact⟨b,es',hq,hb,he'⟩) he
 | nm =>
  obtain⟨k,el,u,q1,q2,q3,q4⟩:=s6 ht;have hk:=aO s hy;have hE:yb ([]:List MapEntry) []:=trivial;obtain⟨f1,f2⟩:=gJ (P:=P) (es':=[]) (es:=[]) (r:=none) q3 q2 hk hE rfl;simp only[Option.bind_none]at f1;obtain⟨i,zv,z1,z2,z3⟩:=vO q4;have hz:(zeroValue el).run P w = .ok zv w:=by simp[zeroValue,typeInfo,z1,z2]
  simp only[uY,wQ,dq,cI,sK]at he;obtain⟨rfl,rfl⟩:=he;cases ok
  .exact aS.pure s (r:=zv) (by simp[execOp,ho,Instr.lookup,run_underlying q1,hq,dg q3 q2,f1,hz]) (IRel.toC (fL z3)).toV
  .exact aS.pure s (r:=.tuple #[zv,.bool false]) (by simp[execOp,ho,Instr.lookup,run_underlying q1,hq,dg q3 q2,f1,hz]) ⟨[_,_],rfl,(IRel.toC (fL z3)).toG,IRel.bool _,trivial⟩
def CQ{v v':Value}{x:AV}(h1:dK v x)(h2:dK v' x):Instr.sameBits 10000 v v'=true:=by
 cases x<;>simp only[dK]at h1 h2<;>first|(exact h1.elim)|skip
 all_goals
  subst h1;subst h2
  first
   | (simp[Instr.sameBits];done)
   | (rename_i l;show((l.toArray==l.toArray)=true);simp)
def BV{v v':Value}{x:AV}(h1:dK v x)(h2:dK v' x):(Instr.keyThatStays v v').run P w = .ok v' w:=by
 simp[Instr.keyThatStays,CQ h1 h2]
def vf{kd:KK}{x:AV}(hx:oV x=true):∀{es:List (AV×AV)}{j:Nat}{p:AV×AV},dq kd x es=some (some j)->es[j]?=some p->p.1=x
 | [],j,p,hf,_=>by simp[dq]at hf
 | e::es,j,p,hf,hp=>by
  simp only[dq]at hf;split at hf
  .rename_i hs;cases hf;simp at hp;subst hp;cases kd<;>cases x<;>cases h1:e.1<;>rw[h1]at hs<;>simp only[xI,reduceCtorEq,cI]at hs
   .split at hs
    .rename_i hk;subst hk;simp at hs;rw[hs]
    .cases hs
   .simp at hs;rw[hs]
   .simp at hs;rw[hs]
  .simp only[dc]at hf;obtain⟨q,hq,hj⟩:=hf;cases q with
   | none=>simp at hj
   | some j' =>
    simp at hj;subst hj;exact vf hx hq (by simpa using hp)
  .cases hf
def rL{es':List MapEntry}{es:List (AV×AV)}(hE:yb es' es){j:Nat}{f:MapEntry->MapEntry}{q:AV×AV->AV×AV}
  (hfq:∀e p,es'[j]?=some e->es[j]?=some p->dK e.key p.1->dK e.val p.2->dK (f e).key (q p).1/\dK (f e).val (q p).2):yb (es'.modify j f) (es.modify j q):=by
 refine aR.of_get (by simpa using hE.length) λi e p h1 h2=>?_;rw[List.getElem?_modify]at h1 h2;simp only[Option.map_eq_map,dc]at h1 h2;obtain⟨e0,h1,rfl⟩:=h1;obtain⟨p0,h2,rfl⟩:=h2;obtain⟨e1,h3,h4⟩:=hE.get h2;rw[h1]at h3;cases h3;by_cases hj:j=i
 .subst hj;simp only[dP];exact hfq e0 p0 h1 h2 h4.1 h4.2
 .simp only[ax hj];exact h4
def sV(s:aH c bl g h a w){id b:Nat}{ob:aj}{es2:List (AV×AV)}{es':Array MapEntry}(hob:h id=some ob)(h1:bl id=some b)(hsp:FO (bz bl c.MF h) c.MF w ob b)
  (hb:∀(i:Nat)(e:MapEntry),es'[i]?=some e->e.born=i) (hE:yb es'.toList es2) :
  aH c bl (aW.env g (.put id {ob with k:=.mp es2})) (aW.hp h (.put id {ob with k:=.mp es2})) a {w with heap:=w.heap.setIfInBounds b (.map es' es'.size)}:=by
 obtain⟨q1,q2,q3⟩:=gD w hsp.rel.lt (.map es' es'.size);exact s.writeS (o':={ob with k:=.mp es2}) hob h1 hsp hsp.rows hsp.isRec ⟨es',q1,hb,hE⟩ q2 q3 rfl rfl
def sE{w:World}{r:Nat}{es:Array MapEntry}{n:Nat}{ob:Obj}(hb:w.heap[r]?=some (.map es n)):(setObj r ob).run P w = .ok () {w with heap:=w.heap.setIfInBounds r ob}:=by
 simp[setObj,Sem.run,hb]
def rI{es':Array MapEntry}(hb:∀(i:Nat)(e:MapEntry),es'[i]?=some e->e.born=i){j:Nat}{f:MapEntry->MapEntry}(hf:∀e,(f e).born=e.born):∀(i:Nat)(e:MapEntry),(es'.modify j f)[i]?=some e->e.born=i:=λi e he=>by
 rw[yP]at he;split at he
 .simp only[dc]at he;obtain⟨e0,h1,rfl⟩:=he;rw[hf];exact hb i e0 h1
 .exact hb i e he
def C4{es':Array MapEntry}(hb:∀(i:Nat)(e:MapEntry),es'[i]?=some e->e.born=i){k v:Value}:∀(i:Nat)(e:MapEntry),(es'.push {key:=k,val:=v,born:=es'.size})[i]?=some e->e.born=i:=λi e he=>by
 rw[zy]at he;split at he
 .cases he;rename_i h;exact h.symm
 .exact hb i e he
def Dc{es':Array MapEntry}{es:List (AV×AV)}(hE:yb es'.toList es){k v:Value}{n:Nat}{x y:AV}(h1:dK k x)(h2:dK v y):yb (es'.push {key:=k,val:=v,born:=n}).toList (es++[(x,y)]):=by
 rw[Array.toList_push];exact aR.append hE ⟨⟨h1,h2⟩,trivial⟩
def CP{t:TypeId}{kd:KK}{z:AV}(ht:zU P t=some (kd,z)){m k v:Value}{x y:AV}{b:Nat}{es':Array MapEntry}{es es2:List (AV×AV)}(hm:m = .map (some b))(h4:w.heap[b]?=some (.map es' es'.size))
  (h5:∀(i:Nat)(e:MapEntry),es'[i]?=some e->e.born=i) (h6:yb es'.toList es) (hk:aY bl M w k x) (hv:aY bl M w v y) (fx:oV x=true) (fy:oV y=true) (hp:yF kd x y es=some es2) :
  ∃es2':Array MapEntry,(Instr.mapUpdate t m k v).run P w = .ok () {w with heap:=w.heap.setIfInBounds b (.map es2' es2'.size)}/\(∀(i:Nat)(e:MapEntry),es2'[i]?=some e->e.born=i)/\yb es2'.toList es2:=by
 obtain⟨kt,el,u,q1,q2,q3,q4⟩:=s6 ht;have hg:=fP (P:=P) h4 (λ_ _ _ hh=>by cases hh);unfold yF at hp;split at hp
 .rename_i i hf;obtain⟨f1,f2⟩:=gJ (P:=P) q3 q2 hk h6 hf;obtain⟨en,p,e1,e2,e3,e4⟩:=AN h6 (f2 i rfl);cases hp;simp only[Option.bind_some,e1,fo]at f1;have Ru:p.1=x:=vf fx hf e2;rw[Ru]at e3;have hst:=BV (P:=P) (w:=w) e3 (mj hk fx);have e1':es'[i]?=some en:=by simpa using e1
  refine⟨es'.modify i λe=>{e with key:=k,val:=v},?_,rI h5 (λ_=>rfl),?_⟩
  .simp only[Instr.mapUpdate,lp,run_underlying q1,mF,hm,hg,dg q3 q2,f1,e1',fo,gb,hst,sE h4,Array.size_modify]
  .rw[Array.toList_modify];exact rL h6 λe p _ _ _ _=>⟨mj hk fx,mj hv fy⟩
 .rename_i hf;obtain⟨f1,f2⟩:=gJ (P:=P) q3 q2 hk h6 hf;cases hp;simp only[Option.bind_none]at f1;refine⟨es'.push {key:=k,val:=v,born:=es'.size},?_,C4 h5,Dc h6 (mj hk fx) (mj hv fy)⟩;simp only[Instr.mapUpdate,lp,run_underlying q1,mF,hm,hg,dg q3 q2,f1,sE h4,Array.size_push]
 .cases hp
def Qh(s:aH c bl g h a w){t:TypeId}{x y q:Operand}{xv yv qv:IV}{kd:KK}{z r:AV}{id:Nat}{ob:aj}{e:aW}(ho:o.op = .mapUpdate t x y q\/o.op = .insert t x y q)(ht:zU P t=some (kd,z))(hx:cV x=some xv)(hy:cV y=some yv)(hq:cV q=some qv)
  (hv:val g xv = .mm id true) (hob:h id=some ob) (he:Cb id kd (val g yv) (val g qv) ob=some (r,e)):aS P c o a w g h r e:=by
 unfold Cb at he;split at he
 case h_2=>cases he
 rename_i es hes;split at he
 case isFalse=>cases he
 rename_i hfl;simp only[fQ]at hfl;simp only[dc]at he;obtain⟨es2,hp,he⟩:=he;cases he;obtain⟨b,es',h1,h2,h3,h4,h5,h6⟩:=Bf s hx hv hob hes;obtain⟨es2',r1,r2,r3⟩:=CP (P:=P) ht h2 h4 h5 h6 (aO s hy) (aO s hq) hfl.1 hfl.2 hp;refine⟨undef,_,bl,.inr ⟨?_,rfl⟩,sV s hob h1 h3 r2 r3,trivial⟩;rcases ho with ho|ho<;>simp[execOp,ho,r1]
def Y7(s:aH c bl g h a w){t:TypeId}{x y:Operand}{xv yv:IV}{kd:KK}{z r:AV}{id:Nat}{ob:aj}{e:aW}(ho:o.op = .mapEntry t x y)(ht:zU P t=some (kd,z))(hx:cV x=some xv)(hy:cV y=some yv)
  (hv:val g xv = .mm id true) (hob:h id=some ob) (he:Nh id kd z (val g yv) ob=some (r,e)):aS P c o a w g h r e:=by
 obtain⟨k,el,u,q1,q2,q3,q4⟩:=s6 ht;unfold Nh at he;split at he
 case h_2=>cases he
 rename_i es hes;split at he
 case isFalse=>cases he
 rename_i hfl;obtain⟨b,es',h1,h2,h3,h4,h5,h6⟩:=Bf s hx hv hob hes;have hg:=fP (P:=P) h4 (λ_ _ _ hh=>by cases hh);have hk:=aO s hy;split at he
 .rename_i i hf;obtain⟨f1,f2⟩:=gJ (P:=P) q3 q2 hk h6 hf;obtain⟨en,p,e1,e2,e3,e4⟩:=AN h6 (f2 i rfl);rw[e2]at he;simp only[cI,sK]at he;obtain⟨rfl,rfl⟩:=he;simp only[Option.bind_some,e1,fo]at f1;have Ru:p.1=val g yv:=vf hfl hf e2;have e3':=e3;rw[Ru]at e3';have hst:=BV (P:=P) (w:=w) e3' (mj hk hfl);have e1':es'[i]?=some en:=by simpa using e1
  have hS:=sV (es':=es'.modify i λe=>{e with key:=a.eval y}) (es2:=es) s hob h1 h3 (rI h5 (λ_=>rfl)) (by
   rw[Array.toList_modify]
   have:=rL (q:=λp=>p) (f:=λe=>{e with key:=a.eval y}) (j:=i) h6 λe' p' g1 g2 g3 g4=>⟨by
    rw[e2]at g2;cases g2;show dK (a.eval y) p.1;rw[Ru];exact mj hk hfl,g4⟩
   rwa[show es.modify i (λp=>p)=es from List.modify_id _ _]at this)
  have hke:ob.k = .mp es:=by
   unfold wQ at hes;split at hes
   .rename_i h;cases hes;exact h
   .cases hes
  have hoe:({ob with k:=.mp es}:aj)=ob:=by cases ob;simp_all
  rw[hoe]at hS;refine⟨.tuple #[en.val,goInt en.born],_,bl,.inl ?_,hS,[_,_],rfl,(IRel.toC (fL e4)).toG,?_,trivial⟩
  .simp only[execOp,ho,Instr.mapEntry,lp,run_underlying q1,mF,h2,hg,dg q3 q2,f1,e1',fo,gb,hst,sE h4,Array.size_modify,sJ]
  .rw[h5 i en e1'];exact IRel.int _ _
 .rename_i hf;obtain⟨f1,f2⟩:=gJ (P:=P) q3 q2 hk h6 hf;simp only[Option.bind_none]at f1;obtain⟨i,zv,z1,z2,z3⟩:=vO q4;have hz:∀w,(zeroValue el).run P w = .ok zv w:=λw=>by simp[zeroValue,typeInfo,z1,z2]
  simp only[cI,sK]at he;obtain⟨rfl,rfl⟩:=he;have hS:=sV (es':=es'.push {key:=a.eval y,val:=zv,born:=es'.size}) s hob h1 h3 (C4 h5) (Dc h6 (mj hk hfl) z3);refine⟨.tuple #[zv,goInt es'.size],_,bl,.inl ?_,hS,[_,_],rfl,(IRel.toC (fL z3)).toG,?_,trivial⟩
  .simp only[execOp,ho,Instr.mapEntry,lp,run_underlying q1,mF,h2,hg,dg q3 q2,f1,hz,sE h4,Array.size_push,sJ]
  .have hl:=h6.length;simp only[nD]at hl;rw[goInt,hl];exact IRel.int _ _
 .cases he
def Lh{es':Array MapEntry}(hb:∀(i:Nat)(e:MapEntry),es'[i]?=some e->e.born=i){n:Nat}(hn:n<es'.size):es'.findIdx? (λe=>(e.born:Int)==(n:Int))=some n:=by
 rw[Array.findIdx?_eq_some_iff_getElem];refine⟨hn,?_,λj hj=>?_⟩
 .have:=hb n es'[n] (by simp[hn]);simp[this]
 .have:=hb j (es'[j]'(by omega)) (by simp[show j<es'.size by omega]);simp[this];omega
def Y8(s:aH c bl g h a w){t:TypeId}{x y q:Operand}{xv yv qv:IV}{n:Int}{r:AV}{id:Nat}{ob:aj}{e:aW}(ho:o.op = .entryStore t x y q)(hx:cV x=some xv)(hy:cV y=some yv)(hq:cV q=some qv)
  (hv:val g xv = .mm id true) (hn:val g yv = .int .i64 n) (hob:h id=some ob) (he:KQ id n (val g qv) ob=some (r,e)):aS P c o a w g h r e:=by
 unfold KQ at he;split at he
 case h_2=>cases he
 rename_i es hes;split at he
 case isFalse=>cases he
 rename_i hcond;obtain⟨c1,c2,c3⟩:=hcond;cases he;obtain⟨b,es',h1,h2,h3,h4,h5,h6⟩:=Bf s hx hv hob hes;have hg:=fP (P:=P) h4 (λ_ _ _ hh=>by cases hh);have hl:=h6.length;simp only[nD]at hl;have h7:=aO s hy;rw[hn]at h7;have h8:=h7.int;have hfb:=Lh h5 (n:=n.toNat) (by omega);rw[show((n.toNat:Nat):Int)=n by omega]at hfb
 have hS:=sV (es':=es'.modify n.toNat λe=>{e with val:=a.eval q}) (es2:=es.modify n.toNat λe=>(e.1,val g qv)) s hob h1 h3 (rI h5 (λ_=>rfl)) (by
  rw[Array.toList_modify];exact rL h6 λe' p' g1 g2 g3 g4=>⟨g3,mj (aO s hq) c3⟩)
 refine⟨undef,_,bl,.inr ⟨?_,rfl⟩,hS,trivial⟩;simp only[execOp,ho,Instr.entryStore,lp,h2,hg,mF,h8,asInt,asIntOf,sJ,hfb,sE h4,Array.size_modify]
end
section
variable{P:Program}{c:qL}{bl:Nat->Option Nat}{g:Nat->AV}{h:Nat->Option aj}{a:Act}{w:World}{o:Oper}{M:Nat->Prop}
def Dq(n:Nat):∀(k c:Nat),256<=c->c<=2*n->Builtin.growBy n k c<=2*n
 | 0,c,hc,h=>by simpa[Builtin.growBy]using h
 | k+1,c,hc,h=>by
  simp only[Builtin.growBy];split
  .exact h
  .exact Dq n k (c+(c+768)/4) (by omega) (by omega)
def IN{n c:Nat}(h:c<n):Builtin.nextslicecap n c<=2*n:=by
 unfold Builtin.nextslicecap;split
 .omega
 .split
  .omega
  .exact Dq n 4 c (by omega) (by omega)
structure MO(P:Program)(w:World)(st:Nat)(y:Value)(n:Nat)(ys:List Value):Prop where
 len:∀w':World,(Builtin.lenOf y).run P w' = .ok n w'
 vals:∀w':World,w'.heap=w.heap->(Builtin.firstCells st n y).run P w' = .ok ys.toArray w'
def qN(R:Value->AV->Prop)(st:Nat)(ys:List Value)(rows:List (List AV)):Prop :=
 (∀(i:Nat)(r:List AV),rows[i]?=some r->r.length=st)/\ys.length=rows.length*st /\
 ∀(i j:Nat)(r:List AV)(x:AV),rows[i]?=some r->r[j]?=some x->∃v,ys[i*st+j]?=some v/\R v x
def pk{R:Value->AV->Prop}{b off st:Nat}{c1:Array Value}{t:TypeId}{fr:Nat×Nat}{rows:List (List AV)}(hb:w.heap[b]?=some (.cells c1 t fr))
  (hr:∀(i:Nat)(r:List AV),rows[i]?=some r->r.length=st)
  (hx:∀(i j:Nat)(r:List AV)(x:AV),rows[i]?=some r->r[j]?=some x->∃v,c1[off+i*st+j]?=some v/\R v x) :
  ∃ys:List Value,qN R st ys rows/\∀w':World,w'.heap=w.heap->(loadCells ⟨b,off,none⟩ (rows.length*st)).run P w' = .ok ys.toArray w':=by
 have hcell:∀k,k<rows.length*st->∃v,c1[off+k]?=some v:=λk hk=>by
  have hst:0<st:=by
   rcases Nat.eq_zero_or_pos st with h0|h0
   .subst h0;simp at hk
   .exact h0
  have hi:k/st<rows.length:=Nat.div_lt_of_lt_mul (by rw[Nat.mul_comm];exact hk);have e1:rows[k/st]?=some rows[k/st]:=jZ hi;have hl:=hr _ _ e1;have hj:k%st<st:=Nat.mod_lt _ hst;obtain⟨v,hv,_⟩:=hx _ (k%st) _ _ e1 (jZ (by omega));refine⟨v,?_⟩;rw[<-hv];congr 1;have:=Nat.div_add_mod k st;rw[Nat.mul_comm]at this;omega
 refine⟨(List.range (rows.length*st)).map λk=>(c1[off+k]?).getD default,⟨hr,by simp,λi j r x hi hj=>?_⟩,λw' hw=>?_⟩
 .obtain⟨v,hv,hrel⟩:=hx i j r x hi hj;refine⟨v,?_,hrel⟩;have hj':j<st:=by rw[<-hr i r hi];exact(gW.1 hj).1
  have hi':i<rows.length:=(gW.1 hi).1;have hlt:i*st+j<rows.length*st:=by
   have:=nv st (show i+1<=rows.length by omega);rw[iP]at this;omega
  rw[fR,B2 hlt];simp only[fo];rw[<-VJ,hv];rfl
 .have hld:=run_loadCells_list (P:=P) (w:=w') ⟨b,off,none⟩ ((List.range (rows.length*st)).map λk=>(c1[off+k]?).getD default) (λj v hv=>by
   rw[fR]at hv;simp only[dc]at hv;obtain⟨k,hk,rfl⟩:=hv;obtain⟨hlt,hk⟩:=gW.1 hk;simp only[List.getElem_range]at hk;subst hk;simp only[List.length_range]at hlt;obtain⟨v,hv⟩:=hcell j hlt;rw[kW,bD (w:=w') (by rw[hw];exact hb),hv];rfl)
  simpa using hld
def Am(st:Nat):MO P w st (.slice none 0 0) 0 []:=⟨λw'=>by simp[Builtin.lenOf],λw' _=>by simp[Builtin.firstCells]⟩
def iM{R:Value->AV->Prop}(st:Nat):qN R st [] []:=⟨λi r hr=>by simp at hr,by simp,λi j r x hr=>by simp at hr⟩
def sZ(st:Nat)(ad:Addr)(cap:Nat):MO P w st (.slice (some ad) 0 cap) 0 []:=⟨λw'=>by simp[Builtin.lenOf],λw' _=>by simp[Builtin.firstCells,loadCells,loadCellsFrom]⟩
def jE.up{q q':Bool}{v:Value}{x:AV}(h:jE q bl M w v x)(hq:q=true->q'=true):jE q' bl M w v x:=by
 cases q<;>cases q'
 .exact h
 .exact IRel.toC h
 .cases hq rfl
 .exact h
def BU(s:aH c bl g h a w){st:Nat}{y:Operand}{yv:IV}(hy:cV y=some yv){rows:List (List AV)}(hr:qJ st h (val g yv)=some rows){q:Bool}(hq:yH h (val g yv)=true->q=true) :
  ∃ys,MO P w st (a.eval y) rows.length ys/\qN (jE q bl (bz bl c.MF h) w) st ys rows:=by
 have h1:=aO s hy;cases hval:val g yv<;>rw[hval]at hr hq h1<;>simp only[qJ,fk]at hr<;>try cases hr
 case nl =>
  have:=h1.nl;rw[this];exact⟨[],Am st,iM st⟩
 case sl st' rows' =>
  split at hr
  case isFalse=>cases hr
  rename_i hst;subst hst;cases hr;generalize hu:a.eval y=u at h1;have h2:=h1.sl;cases h2 with
  | nls=>exact⟨[],Am _,iM _⟩
  | sl0 st ad cap=>exact⟨[],sZ _ _ _,iM _⟩
  | sl b off cap st c1 t1 fr rows vs hb hM hl hrl hv hx =>
   obtain⟨ys,h3,h4⟩:=pk (P:=P) (R:=jE q bl (bz bl c.MF h) w) (off:=off) hb hrl (λi j r x hi hj=>⟨vs i j,hv i j (gW.1 hi).1 (by rw[<-hrl i r hi];exact(gW.1 hj).1),jE.up (q:=false) (hx i j r x hi hj) (λh=>by cases h)⟩);exact⟨ys,⟨λw'=>by simp[Builtin.lenOf],λw' hw=>by simp[Builtin.firstCells,h4 w' hw]⟩,h3⟩
 case ms id st' off len =>
  split at hr
  case h_2=>cases hr
  rename_i ob hob;split at hr
  case isFalse=>cases hr
  rename_i hcond;obtain⟨rfl,hst,hfit⟩:=hcond;have hq':ob.isRec=true->q=true:=λh=>hq (by simp only[yH,hob,UY];exact h);cases hr;have hlen:((ob.rows.drop off).take len).length=len:=by simp;omega
  rcases h1 with⟨h2,h3,h4⟩|⟨h2,h3,ad,cap,h4,h40⟩|⟨b,cap,c1,t1,fr,h2,h3,h4,h5,h6⟩
  .subst h3 h4;rw[h2];simp only[iO,iN];exact⟨[],Am _,iM _⟩
  .subst h2;rw[h4];simp only[iO,iN];exact⟨[],sZ _ _ _,iM _⟩
  .rcases s.heap.1 id ob hob with hn0|⟨b',g2,⟨_,c2,fr2,g3,g4,g5,g6,g7,g8⟩|hsp⟩
   .rw[hn0.2.2]at h2;cases h2
   rotate_left
   .rw[h2]at g2;cases g2;exact(hsp.ne h5).elim
   rw[h2]at g2;cases g2;have getr:∀(i:Nat)(r:List AV),((ob.rows.drop off).take len)[i]?=some r->ob.rows[off+i]?=some r:=λi r hi=>by
    rw[x9]at hi;split at hi
    .simpa using hi
    .cases hi
   obtain⟨ys,q3,q4⟩:=pk (P:=P) (R:=jE q bl (bz bl c.MF h) w) (w:=w) (off:=off*st') (st:=st') (rows:=(ob.rows.drop off).take len) g3 (λi r hi=>by rw[<-hst];exact g6 _ _ (getr i r hi)) (λi j r x hi hj=>by
    obtain⟨v,hv,hrl⟩:=g8 _ _ _ _ (getr i r hi) hj;refine⟨v,?_,hrl.up hq'⟩;rw[<-hv,hst,iP])
   rw[hlen]at q4;refine⟨ys,?_,q3⟩;rw[h3,hlen];exact⟨λw'=>by simp[Builtin.lenOf],λw' hw=>by simp[Builtin.firstCells,q4 w' hw]⟩
def Fr(s:aH c bl g h a w){st:Nat}{y:Operand}{yv:IV}(hy:cV y=some yv){rows:List (List AV)}(hr:fk st h (val g yv)=some rows) :
  ∃ys,MO P w st (a.eval y) rows.length ys/\qN (IRel (bz bl c.MF h) w) st ys rows :=
 BU (q:=false) s hy (Kn hr).1 (λh=>by rw[(Kn hr).2]at h;exact h)
def Rf(s:aH c bl g h a w){y:Operand}{yv:IV}(hy:cV y=some yv){rows:List (List AV)}(hr:Vo (val g yv)=some rows) :
  ∃ys,MO P w 1 (a.eval y) rows.length ys/\qN (IRel (bz bl c.MF h) w) 1 ys rows:=by
 have h1:=aO s hy;cases hval:val g yv<;>rw[hval]at hr h1<;>simp only[Vo,cI]at hr<;>try cases hr
 case str st =>
  rw[h1.str];refine⟨st.map λb=>.int .u8 b.toNat,⟨λw'=>by simp[Builtin.lenOf,ByteArray.size],λw' _=>?_⟩,λi r hi=>?_,by simp,λi j r x hi hj=>?_⟩
  .have hex:((ByteArray.mk st.toArray).extract 0 st.length)=ByteArray.mk st.toArray:=by
    apply ByteArray.ext;simp[ByteArray.data_extract]
   simp[Builtin.firstCells,hex]
  .simp only[fR,dc]at hi;obtain⟨b,_,rfl⟩:=hi;rfl
  .simp only[fR,dc]at hi;obtain⟨b,hb,rfl⟩:=hi;cases j with
   | zero=>simp at hj;subst hj;exact⟨.int .u8 b.toNat,by simp[hb],IRel.int _ _⟩
   | succ j=>simp at hj
def u9{t e:TypeId}{st:Nat}(hap:nJ P t=some (e,st)):∃i z,P.underlying t=some (.slice e)/\P.info? e=some i/\i.zero=some z/\i.size=st/\i.bytes<=512/\1<=i.bytes/\z.cells.size=st/\1<=st:=by
 unfold nJ at hap;split at hap
 case h_2=>cases hap
 rename_i e' ht;split at hap
 case h_2=>cases hap
 rename_i i z' hi hz';split at hap
 case isFalse=>cases hap
 rename_i hcond;obtain⟨hb1,hb2,hb3,hb4⟩:=hcond;cases hap;obtain⟨i',v,h4,h5,h6,_⟩:=jb (M:=λ_=>False) (w:=default) hz';rw[hi]at h4;cases h4;have:=h6.length;simp only[nD]at this;exact⟨i,v,ht,hi,h5,rfl,hb1,hb2,by omega,hb4⟩
section
variable{t t' e:TypeId}{st:Nat}{cl:Call}{x y:Operand}
def Fl(ho:o.op = .call cl)(hcl:cl.callee = .builtin .append)(hat:cl.argTypes = #[t,t'])(har:cl.args = #[x,y])(hap:nJ P t=some (e,st))(ht':(∃e',P.underlying t'=some (.slice e'))\/P.underlying t'=some .string)
  {b p len cap n:Nat} {ys:List Value} (hx:a.eval x = .slice (some ⟨b,p,none⟩) len cap) (hs:MO P w st (a.eval y) n ys) (hcap:len+n<=cap)
  {c1:Array Value} {t1:TypeId} {fr:Nat×Nat} (hb:w.heap[b]?=some (.cells c1 t1 fr)) (uf:eD c1 fr) (hl:p+len*st+ys.length<=c1.size) (h1:∀v∈ys,jU v) :
  (execOp a.eval o).run P w = .ok (.value (.slice (some ⟨b,p,none⟩) (len+n) cap)) (w.setCells b (p+len*st) ys):=by
 obtain⟨i,z,g1,g2,g3,g4,g5,g6,g7,g8⟩:=u9 hap;have hz:(match P.underlying t' with|some (.int _)=>true|_=>false)=false:=by rcases ht' with⟨e',h⟩|h<;>rw[h]
 have hst:=lC (P:=P) hb uf hl h1;rcases ht' with⟨e',ht'⟩|ht' <;>
  simp[execOp,ho,resolve,hcl,har,hat,invoke,builtin,Builtin.append_,underlying,g1,hx,sizeOf,typeInfo,g2,g4,ht',hs.len w,hcap,hs.vals w rfl,kW,hst]
def xE(ho:o.op = .call cl)(hcl:cl.callee = .builtin .append)(hat:cl.argTypes = #[t,t'])(har:cl.args = #[x,y])(hap:nJ P t=some (e,st))(ht':(∃e',P.underlying t'=some (.slice e'))\/P.underlying t'=some .string)
  {ad:Option Addr} (hx:a.eval x = .slice ad 0 0) {ys:List Value} (hy:ys=[]) (hs:MO P w st (a.eval y) 0 ys) :
  (execOp a.eval o).run P w = .ok (.value (.slice ad 0 0)) w:=by
 obtain⟨i,z,g1,g2,g3,g4,g5,g6,g7,g8⟩:=u9 hap;subst hy;rcases ht' with⟨e',ht'⟩|ht'<;>cases ad <;>
  simp[storeCells,execOp,ho,resolve,hcl,har,hat,invoke,builtin,Builtin.append_,underlying,g1,hx,sizeOf,typeInfo,g2,g4,ht',hs.len w,hs.vals w rfl]
def xD(ho:o.op = .call cl)(hcl:cl.callee = .builtin .append)(hat:cl.argTypes = #[t,t'])(har:cl.args = #[x,y])(hap:nJ P t=some (e,st))(ht':(∃e',P.underlying t'=some (.slice e'))\/P.underlying t'=some .string)
  {base:Option Addr} {len cap n:Nat} {olds ys:List Value} (hx:a.eval x = .slice base len cap) (hs:MO P w st (a.eval y) n ys) (hcap:cap<len+n) (hbig:len+n<274877906944)
  (hold:∀w':World,w'.heap=w.heap->(Builtin.firstCells st len (.slice base len cap)).run P w' = .ok olds.toArray w') :
  ∃(cs:Array Value)(w':World)(cap':Nat),(execOp a.eval o).run P w = .ok (.value (.slice (some ⟨w.heap.size,0,none⟩) (len+n) cap')) w'/\w'.heap=w.heap.push (.cells cs e (0,0))/\w'.os=w.os/\w'.output=w.output /\
   len+n<=cap'/\∃rest:List Value,cs=(olds++ys++rest).toArray/\rest.length=(cap'-(len+n))*st:=by
 obtain⟨i,z,g1,g2,g3,g4,g5,g6,g7,g8⟩:=u9 hap;have hmax:¬((len+n:Nat):Int)>IntKind.i64.max:=by simp[IntKind.max,IntKind.signed,IntKind.bits];omega
 have hmax':¬(9223372036854775807:Int)<(len:Int)+(n:Int):=by omega
 have hnc:=IN hcap;have hroom:¬Builtin.nextslicecap (len+n) cap*i.bytes>2^48:=by
  have:Builtin.nextslicecap (len+n) cap*i.bytes<=(2*(len+n))*512:=Nat.mul_le_mul hnc g5;omega
 have hroom':¬281474976710656<Builtin.nextslicecap (len+n) cap*i.bytes:=by simpa using hroom
 have hcap':¬len+n<=cap:=by omega
 have hq:Question.forced (.appendCap (len+n) cap e)=false:=rfl;have hb0:¬i.bytes=0:=by omega
 let cp:=(len+n)+(w.tape w.drawn (.appendCap (len+n) cap e))%(2^63-(len+n))
 refine⟨(olds++ys++(Builtin.zeroCells z.cells (cp-(len+n))).toList).toArray,w.drew.alloc (.cells (olds++ys++(Builtin.zeroCells z.cells (cp-(len+n))).toList).toArray e),cp,?_,rfl,rfl,rfl,Nat.le_add_right _ _,_,rfl,?_⟩
 .have hv:=hs.vals w.drew rfl;have ho':=hold w.drew rfl;rcases ht' with⟨e',ht'⟩|ht' <;>
   simp[execOp,ho,resolve,hcl,har,hat,invoke,builtin,Builtin.append_,underlying,g1,hx,sizeOf,typeInfo,g2,g4,ht',hs.len w,hcap',hmax',hroom',hq,ho',hv,zeroValue,g3,newRow,Question.cut,hb0,cp]
  all_goals
   congr 2;apply Array.toList_inj.1;simp
 .simp[Builtin.zeroCells,g7]
def aH.congr{g':Nat->AV}{h':Nat->Option aj}(s:aH c bl g h a w)(hg:∀k,g' k=g k)(hh:∀j,h' j=h j):aH c bl g' h' a w :=
 s.weaken (λk=>.inr (hg k)) (λj o ho=>by rw[<-hh j];exact ho)
def Hf{R:Value->AV->Prop}{ys:List Value}{rows:List (List AV)}(hy:qN R st ys rows)(h1:∀v x,R v x->jU v):∀v∈ys,jU v:=λv hv=>by
 obtain⟨k,hk⟩:=List.getElem?_of_mem hv;have hlt:k<rows.length*st:=by rw[<-hy.2.1];exact(gW.1 hk).1
 have hst:0<st:=by
  rcases Nat.eq_zero_or_pos st with h0|h0
  .subst h0;simp at hlt
  .exact h0
 have hi:k/st<rows.length:=Nat.div_lt_of_lt_mul (by rw[Nat.mul_comm];exact hlt);have e1:rows[k/st]?=some rows[k/st]:=jZ hi;have hl:=hy.1 _ _ e1;have hj:k%st<st:=Nat.mod_lt _ hst;obtain⟨u,hu,hr⟩:=hy.2.2 _ (k%st) _ _ e1 (jZ (by omega));have he:k/st*st+k%st=k:=by
  have:=Nat.div_add_mod k st;rw[Nat.mul_comm]at this;exact this
 rw[he,hk]at hu;cases hu;exact h1 _ _ hr
def zm{R:Value->AV->Prop}{olds ys rest:List Value}{rows yrows:List (List AV)}(ho:qN R st olds rows)(hy:qN R st ys yrows) :
  (∀(i:Nat)(r:List AV),(rows++yrows)[i]?=some r->r.length=st) /\
  ∀(i j:Nat)(r:List AV)(x:AV),(rows++yrows)[i]?=some r->r[j]?=some x->∃v,(olds++ys++rest).toArray[i*st+j]?=some v/\R v x:=by
 refine⟨λi r hr=>?_,λi j r x hr hx=>?_⟩
 .rw[List.getElem?_append]at hr;split at hr
  .exact ho.1 _ _ hr
  .exact hy.1 _ _ hr
 .rw[List.getElem?_append]at hr;simp only[List.getElem?_toArray];split at hr
  .rename_i hlt;obtain⟨v,hv,hrel⟩:=ho.2.2 _ _ _ _ hr hx;refine⟨v,?_,hrel⟩;rw[mE,Ji (gW.1 hv).1];exact hv
  .rename_i hge;obtain⟨v,hv,hrel⟩:=hy.2.2 _ _ _ _ hr hx;refine⟨v,?_,hrel⟩;have e1:i*st+j=olds.length+((i-rows.length)*st+j):=by
    rw[ho.2.1,<-VJ,<-iP];congr 2;omega
   rw[mE,e1,zB (by omega),Nat.add_sub_cancel_left,Ji (gW.1 hv).1];exact hv
def L7{i:Nat}{o:aj}(h:o.isRec=true->∀r∈o.rows,∀x∈r,mC i x=false):ee i o=o:=by
 unfold ee;split
 .rename_i hr;have e:o.rows.map (λr=>r.map (oA i))=o.rows:=by
   refine(yQ λr hm=>?_).trans (List.map_id _);refine(yQ λx hx=>?_).trans (List.map_id _);unfold oA;rw[h hr r hm x hx];rfl
  rw[e]
 .rfl
def Bx(s:aH c bl g h a w){d:Nat}(ho:o.op = .call cl)(hcl:cl.callee = .builtin .append)(hat:cl.argTypes = #[t,t'])(har:cl.args = #[x,y])(hap:nJ P t=some (e,st))(ht':(∃e',P.underlying t'=some (.slice e'))\/P.underlying t'=some .string)
  {xv:IV} (hx:cV x=some xv) (hxv:val g xv = .nl) {yrows:List (List AV)} {ys:List Value} (hs:MO P w st (a.eval y) yrows.length ys) {q:Bool} (hy:qN (jE q bl (bz bl c.MF h) w) st ys yrows) (hbig:yrows.length<137438953472)
  (hd:h d=none) (hu:cN d g h) (hid:d<1000\/2000<=d) (hno:q=true->yrows≠[]/\∀r∈yrows,∀x∈r,mC d x=false):aS P c o a w g h (.ms d st 0 yrows.length) (.new d ⟨e,st,yrows,q⟩):=by
 have h1:=aO s hx;rw[hxv]at h1;have h2:=h1.nl;by_cases h0:yrows=[]
 .subst h0;obtain rfl:q=false:=by
   cases q
   .rfl
   .exact absurd rfl (hno rfl).1
  have hrun:=xE ho hcl hat har hap ht' h2 (FE.1 (by have:=hy.2.1;rwa[iN,Nat.zero_mul]at this)) hs;refine⟨_,_,_,.inl hrun,s.new0 (i:=d) (o:=⟨e,st,[],false⟩) hd hu hid rfl rfl,.inl ⟨rfl,rfl,rfl⟩⟩
 .have hpos:0<yrows.length:=Jh.2 h0;obtain⟨cs,w',cap',h3,h4,h5,h6,h7,rest,rfl,h9⟩:=xD (olds:=[]) (P:=P) ho hcl hat har hap ht' h2 hs (by omega) (by omega) (λw' _=>by simp[Builtin.firstCells]);simp only[ga,iD]at h3 h7 h9;have hg:=zm (rest:=rest) (iM st) hy;simp only[iD]at hg h4;have hsz:(ys++rest).toArray.size=cap'*st:=by
   simp only[List.size_toArray,ej,hy.2.1,h9];rw[<-iP];congr 1;omega
  exact ni (rows:=yrows) s hd hu hid h3 h4 h5 h6 (mJ _) hg.1 (by rw[hsz];exact nv _ h7) h7 (by rw[hsz];exact aN _) hg.2 (λhq=>(hno hq).2)
def By(s:aH c bl g h a w)(ho:o.op = .call cl)(hcl:cl.callee = .builtin .append)(hat:cl.argTypes = #[t,t'])(har:cl.args = #[x,y])(hap:nJ P t=some (e,st))(ht':(∃e',P.underlying t'=some (.slice e'))\/P.underlying t'=some .string)
  {xv:IV} (hx:cV x=some xv) {id off len:Nat} (hxv:val g xv = .ms id st off len) {ob:aj} (hob:h id=some ob) (hst:ob.st=st) (hte:ob.t=e) (hlen:off+len<=ob.rows.length) (hid:id<1000\/2000<=id) (hfl:ob.k.flat=true)
  {yrows:List (List AV)} {ys:List Value} (hs:MO P w st (a.eval y) yrows.length ys) {q:Bool} (hq:ob.isRec=true->q=true) (hy:qN (jE q bl (bz bl c.MF h) w) st ys yrows) (hbig:yrows.length<137438953472) (hbig2:len<137438953472)
  (hno:q=true->yrows≠[]/\∀r∈ob.rows.take (off+len)++yrows,∀x∈r,mC id x=false) :
  aS P c o a w g h (.ms id st off (len+yrows.length)) (.reb id ⟨e,st,ob.rows.take (off+len)++yrows,q⟩) \/
  aS P c o a w g h (.ms id st 0 (len+yrows.length)) (.reb id ⟨e,st,(ob.rows.drop off).take len++yrows,q⟩):=by
 have h1:=aO s hx;rw[hxv]at h1;subst hst hte;have sub2:∀r∈(ob.rows.drop off).take len++yrows,r∈ob.rows.take (off+len)++yrows:=λr hr=>by
  rcases gh.1 hr with hr|hr
  .refine List.mem_append_left _ ?_;rw[List.take_drop]at hr;exact List.mem_of_mem_drop hr
  .exact List.mem_append_right _ hr
 have hpur:ee id ⟨ob.t,ob.st,ob.rows.take (off+len)++yrows,q⟩ =⟨ob.t,ob.st,ob.rows.take (off+len)++yrows,q⟩:=L7 λhr=>(hno hr).2;have hl2:((ob.rows.drop off).take len).length=len:=by simp;omega
 have grow:∀{base:Option Addr}{cap:Nat}{olds:List Value},a.eval x = .slice base len cap->cap<len+yrows.length->qN (jE q bl (bz bl c.MF h) w) ob.st olds ((ob.rows.drop off).take len) ->
   (∀w':World,w'.heap=w.heap->(Builtin.firstCells ob.st len (.slice base len cap)).run P w' = .ok olds.toArray w')->aS P c o a w g h (.ms id ob.st 0 (len+yrows.length)) (.reb id ⟨ob.t,ob.st,(ob.rows.drop off).take len++yrows,q⟩):=by
  intro base cap olds hv hc hold hrun;obtain⟨cs,w',cap',h3,h4,h5,h6,h7,rest,rfl,h9⟩:=xD (P:=P) ho hcl hat har hap ht' hv hs hc (by omega) hrun;have hk:=s.kill id;have hun:=oE id g h
  have hm:∀b,¬bz bl c.MF h b->b<w.heap.size->¬bz bl c.MF (λj=>if j=id then none else(h j).map (ee id)) b/\w.heap[b]? = w.heap[b]?:=λb hb _=>⟨λhmm=>hb (by
   rcases hmm with hmm|⟨j,oj,q1,q2⟩
   .exact .inl hmm
   .by_cases hj:j=id
    .simp[hj]at q1
    .simp only[hj,fS,dc]at q1;obtain⟨o0,q1,_⟩:=q1;exact .inr ⟨j,o0,q1,q2⟩),rfl⟩
  have hg:=zm (rest:=rest) hold hy;have hsz:(olds++ys++rest).toArray.size=cap'*ob.st:=by
   simp only[List.size_toArray,ej,hy.2.1,h9,hold.2.1,hl2];rw[<-iP,<-iP];congr 1;omega
  have hs2:=hk.new (i:=id) (o:=⟨ob.t,ob.st,(ob.rows.drop off).take len++yrows,q⟩) (cs:=(olds++ys++rest).toArray) (fr:=(0,0)) (w':=w') (by simp) hun hid h4 h5 h6 (mJ _)
   ⟨hg.1,by rw[hsz];simp only[ej,hl2];exact nv _ h7,λi j r x' hr hx'=>by
    obtain⟨v,q1,q2⟩:=hg.2 i j r x' hr hx';exact⟨v,q1,q2.tr ⟨hm,λ_ c1 _ fr hb=>⟨c1,fr,hb,rfl⟩⟩ (λ_ _ _=>rfl)⟩⟩ (λhf r hr=>(hno hf).2 r (sub2 r hr))
  refine⟨_,_,_,.inl h3,hs2.congr (λ_=>rfl) (λj=>?_),.inr (.inr ⟨w.heap.size,cap',(olds++ys++rest).toArray,ob.t,(0,0),bC _ _ _,by simp,h7,by rw[h4];simp,by rw[hsz];simp⟩)⟩;by_cases hj:j=id
  .subst hj;simp[aW.hp,dQ]
  .simp[aW.hp,dQ,hj]
 have none0:∀{ad:Option Addr},a.eval x = .slice ad 0 0->len=0->yrows=[]->dS bl (bz bl c.MF h) w (.slice ad 0 0) (.ms id ob.st off 0)->aS P c o a w g h (.ms id ob.st off (len+yrows.length)) (.reb id ⟨ob.t,ob.st,ob.rows.take (off+len)++yrows,q⟩):=by
  intro ad h2 hl0 h0 hp0;subst hl0 h0;obtain rfl:q=false:=by
   cases q
   .rfl
   .exact absurd rfl (hno rfl).1
  obtain rfl:ys=[]:=by
   have:=hy.2.1;rw[iN,Nat.zero_mul]at this;exact FE.1 this
  have hrec:ob.isRec=false:=by
   cases hr:ob.isRec
   .rfl
   .exact absurd (hq hr) (by simp)
  have hrun:=xE ho hcl hat har hap ht' h2 rfl hs;simp only[lm,Nat.add_zero]at hpur⊢;have sat:aH c bl g (dQ h id (some ⟨ob.t,ob.st,ob.rows.take off,false⟩)) a w:=by
   rcases s.heap.1 id ob hob with hn|⟨b',g2,⟨gk,c2,fr2,g3,g4,g5,g6,g7,g8⟩|hsp⟩
   .refine s.congr (λ_=>rfl) (λj=>?_);by_cases hj:j=id
    .subst hj;rw[bC,hob];obtain⟨t0,s0,r0,i0⟩:=ob;obtain rfl:r0=[]:=hn.1;obtain rfl:i0=false:=hrec;simp at hfl⊢;exact(Kd.of_flat hfl).symm
    .rw[bX _ _ hj]
   .refine s.writeF (c2:=c2) (fr2:=fr2) (w':=w) hob g2 g3 g3 g4 rfl rfl (λ_ _=>rfl) rfl rfl rfl ⟨λi r hr=>?_,?_,λi j r x' hr hx'=>?_⟩ (Kd.of_flat hfl).symm
    .rw[x9]at hr;split at hr
     .exact g6 _ _ hr
     .cases hr
    .exact cZ (nv _ (by simp;omega)) g7
    .rw[x9]at hr;split at hr
     .obtain⟨v,hv,hrel⟩:=g8 _ _ _ _ hr hx';rw[hrec]at hrel;exact⟨v,hv,hrel⟩
     .cases hr
   .exact(hsp.noflat hfl).elim
  refine⟨_,_,bl,.inl hrun,(sat.purge id).congr (λ_=>rfl) (λj=>?_),hp0⟩;by_cases hj:j=id
  .subst hj;simp[aW.hp,dQ,hpur]
  .simp[aW.hp,dQ,hj]
 rcases h1 with⟨h2,h3,h4⟩|⟨h2,h3,ad,cap,h4,h5⟩|⟨b,cap,c1,t1,fr,h2,h3,h4,h5,h6⟩
 .by_cases h0:yrows=[]
  .exact .inl (none0 h2 h4 h0 (.inl ⟨rfl,h3,rfl⟩))
  .have hpos:0<yrows.length:=Jh.2 h0;subst h4;exact .inr (grow (olds:=[]) h2 (by omega) (by simpa using iM _) (λw' _=>by simp[Builtin.firstCells]))
 .subst h2 h5;by_cases h0:yrows=[]
  .exact .inl (none0 h4 rfl h0 (.inr (.inl ⟨rfl,h3,ad,0,rfl,rfl⟩)))
  .have hpos:0<yrows.length:=Jh.2 h0;exact .inr (grow (olds:=[]) h4 (by omega) (by simpa using iM _) (λw' _=>by simp[Builtin.firstCells,loadCells,loadCellsFrom]))
 .rcases s.heap.1 id ob hob with hn0|⟨b',g2,⟨_,c2,fr2,g3,g4,g5,g6,g7,g8⟩|hsp⟩
  .rw[hn0.2.2]at h2;cases h2
  rotate_left
  .exact(hsp.noflat hfl).elim
  rw[h2]at g2;cases g2;rw[g3]at h5;cases h5;have getr:∀(i:Nat)(r:List AV),(ob.rows.take (off+len))[i]?=some r->ob.rows[i]?=some r/\i<off+len:=λi r hi=>by
   rw[x9]at hi;split at hi
   .exact⟨hi,by assumption⟩
   .cases hi
  have getd:∀(i:Nat)(r:List AV),((ob.rows.drop off).take len)[i]?=some r->ob.rows[off+i]?=some r:=λi r hi=>by
   rw[x9]at hi;split at hi
   .rw[FD]at hi;exact hi
   .cases hi
  have hl1:(ob.rows.take (off+len)).length=off+len:=by simp;omega
  by_cases hcap:len+yrows.length<=cap
  ·
   have hst2:off*ob.st+len*ob.st=(off+len)*ob.st:=(iP ..).symm;have hcp:=nv ob.st hcap;rw[iP]at hcp;have hfit:(off+len)*ob.st+ys.length<=c1.size:=by
    rw[hy.2.1,<-hst2];omega
   have hrun:=Fl (P:=P) ho hcl hat har hap ht' h3 hs hcap g3 g4 (by rw[hst2];exact hfit) (Hf hy λ_ _ h=>h.one);rw[hst2]at hrun;obtain⟨c3,q1,q2,q3,q4,q5,q6,q7⟩:=kN b ys ((off+len)*ob.st) w g3 hfit
   have hw:=s.write (o':=⟨ob.t,ob.st,ob.rows.take (off+len)++yrows,q⟩) (hkc:=(Kd.of_flat hfl).symm) hob h2 g3 q1 q2 q4 q5 q6 q7 rfl ⟨λi r hr=>by
     rw[List.getElem?_append]at hr;split at hr
     .exact g6 _ _ (getr i r hr).1
     .exact hy.1 _ _ hr,by
     simp only[ej,hl1,q2];rw[iP,<-hst2];omega,λi j r x' hr hx'=>by
     rw[List.getElem?_append]at hr;split at hr
     .rename_i hlt;rw[hl1]at hlt;obtain⟨hr',_⟩:=getr i r hr;have hj:j<ob.st:=by rw[<-g6 i r hr'];exact(gW.1 hx').1
      obtain⟨v,hv,hrel⟩:=g8 _ _ _ _ hr' hx';refine⟨v,?_,hrel.up hq⟩;have:i*ob.st+j<(off+len)*ob.st:=by
       have:=nv ob.st (show i+1<=off+len by omega);rw[iP]at this;omega
      simp only;rw[q3,ax (by omega)];exact hv
     .rename_i hge;rw[hl1]at hge hr;obtain⟨v,hv,hrel⟩:=hy.2.2 _ _ _ _ hr hx';refine⟨v,?_,hrel⟩;have e1:i*ob.st+j=(off+len)*ob.st+((i-(off+len))*ob.st+j):=by
       rw[<-VJ,<-iP];congr 2;omega
      have hlt:=(gW.1 hv).1;simp only;rw[q3,aF (by omega),e1,Nat.add_sub_cancel_left];exact hv⟩
   refine .inl ⟨_,_,bl,.inl hrun,(hw.purge id).congr (λ_=>rfl) (λj=>?_),.inr (.inr ⟨b,cap,c3,ob.t,fr,h2,rfl,hcap,q1,by rw[q2];exact h6⟩)⟩;by_cases hj:j=id
   .subst hj;simp[aW.hp,dQ,hpur]
   .simp[aW.hp,dQ,hj]
  .obtain⟨olds,hO,hrun⟩:=pk (P:=P) (R:=jE q bl (bz bl c.MF h) w) (w:=w) (off:=off*ob.st) (st:=ob.st) (rows:=(ob.rows.drop off).take len) g3 (λi r hi=>g6 _ _ (getd i r hi)) (λi j r x' hi hj=>by
    obtain⟨v,hv,hrel⟩:=g8 _ _ _ _ (getd i r hi) hj;exact⟨v,by rw[<-iP];exact hv,hrel.up hq⟩)
   rw[hl2]at hrun;exact .inr (grow h3 (by omega) hO (λw' hw'=>by simp[Builtin.firstCells,hrun w' hw']))
def Bz(s:aH c bl g h a w)(ho:o.op = .call cl)(hcl:cl.callee = .builtin .append)(hat:cl.argTypes = #[t,t'])(har:cl.args = #[x,y])(hap:nJ P t=some (e,st))(ht':(∃e',P.underlying t'=some (.slice e'))\/P.underlying t'=some .string)
  {xv:IV} (hx:cV x=some xv) {id len:Nat} (hxv:val g xv = .ms id st 0 len) {ob:aj} (hob:h id=some ob) (hst:ob.st=st) (hte:ob.t=e) (hlen:len<=ob.rows.length) (hid:id<1000\/2000<=id) (hfl:ob.k.flat=true)
  {yrows:List (List AV)} {ys:List Value} (hs:MO P w st (a.eval y) yrows.length ys) {q:Bool} (hq:ob.isRec=true->q=true) (hy:qN (jE q bl (bz bl c.MF h) w) st ys yrows) (hbig:yrows.length<137438953472) (hbig2:len<137438953472)
  (hno:q=true->yrows≠[]/\∀r∈ob.rows.take len++yrows,∀x∈r,mC id x=false) :
  aS P c o a w g h (.ms id st 0 (len+yrows.length)) (.reb id ⟨e,st,ob.rows.take len++yrows,q⟩):=by
 rcases By s ho hcl hat har hap ht' hx hxv hob hst hte (by rw[ga];exact hlen) hid hfl hs hq hy hbig hbig2 (by rw[ga];exact hno)with h1|h1
 .rw[ga]at h1;exact h1
 .exact h1
end
def zf:∀{rows:List (List AV)}{bs:List UInt8}{ys:List Value},mU rows=some bs->qN (IRel M w) 1 ys rows->∃ns:List Int,ys=ns.map (λn=>Value.int .u8 n)/\bs=ns.map (λn=>UInt8.ofNat n.toNat)
 | [],bs,ys,hb,hy=>by
  simp only[mU,cI]at hb;subst hb;have:=hy.2.1;simp at this;subst this;exact⟨[],rfl,rfl⟩
 | r::rows,bs,ys,hb,hy=>by
  have hl:=hy.2.1;simp only[j1,x8]at hl;cases ys with
  | nil=>simp at hl
  | cons y ys =>
   have hy':qN (IRel M w) 1 ys rows:=⟨λi q hq=>hy.1 (i+1) q (by simpa using hq),by simpa using hl,λi j q z hq hz=>by
    obtain⟨v,hv,hr⟩:=hy.2.2 (i+1) j q z (by simpa using hq) hz;refine⟨v,?_,hr⟩;rw[show(i+1)*1+j=(i*1+j)+1 by omega,zW]at hv;exact hv⟩
   unfold mU at hb;split at hb
   .rename_i heq;cases heq
   .rename_i n rest heq;cases heq;simp only[dc]at hb;obtain⟨bs',hb',rfl⟩:=hb;obtain⟨ns,rfl,rfl⟩:=zf hb' hy';obtain⟨v,hv,hr⟩:=hy.2.2 0 0 [.int .u8 n] (.int .u8 n) rfl rfl;simp at hv;subst hv;cases hr;exact⟨n::ns,rfl,rfl⟩
   .cases hb
def YX(s:aH c bl g h a w){sr ds e:TypeId}{x:Operand}{xv:IV}(ho:o.op = .convert sr ds x)(h1:P.underlying sr=some (.slice e))(h2:P.underlying e=some (.int .u8))(h3:P.underlying ds=some .string)(hx:cV x=some xv)
  {rows:List (List AV)} {bs:List UInt8} (hr:fk 1 h (val g xv)=some rows) (hb:mU rows=some bs):aS P c o a w g h (.str bs) .no:=by
 obtain⟨ys,hs,hy⟩:=Fr (P:=P) s hx hr;obtain⟨ns,rfl,rfl⟩:=zf hb hy;have hv:∃ad n cap,a.eval x = .slice ad n cap:=by
  have hl:=hs.len w;cases hv:a.eval x<;>rw[hv]at hl<;>try (simp[Builtin.lenOf]at hl;done)
  .rename_i st;exfalso;have h4:=aO s hx;rw[hv]at h4;cases hval:val g xv<;>rw[hval]at hr h4<;>simp only[fk]at hr<;>try cases hr
   .exact absurd h4.nl (by simp)
   .have h5:=h4.sl;cases h5
   .rcases h4 with⟨h5,_⟩|⟨_,_,_,_,h5,_⟩|⟨_,_,_,_,_,_,h5,_⟩<;>cases h5
  .exact⟨_,_,_,rfl⟩
 obtain⟨ad,n,cap,hv⟩:=hv;refine aS.pure s (r:=.string ⟨(ns.map λn=>UInt8.ofNat n.toNat).toArray⟩) ?_ (UM _);have hval:=hs.vals w rfl;have hlen:=hs.len w;rw[hv]at hval hlen;simp only[Builtin.lenOf,sJ,Result.ok.injEq,and_true]at hlen;subst hlen;cases ad with
 | none =>
  simp only[Builtin.firstCells,sJ,Result.ok.injEq,and_true]at hval;have hn:ns=[]:=by
   have:=congrArg Array.size hval;simp at this;exact FE.1 this.symm
  subst hn;simp[execOp,ho,hv,run_convert_bytes_string w sr ds e none _ cap h1 h2 h3,Conv.bytesToString]
  try rfl
 | some ad =>
  simp only[Builtin.firstCells,x8]at hval;simp[execOp,ho,hv,run_convert_bytes_string w sr ds e (some ad) _ cap h1 h2 h3,run_bytesToString w ad _ cap ns hval,foldl_push_bytes]
  try rfl
def Y1(s:aH c bl g h a w){f f':FuncId}{first caps:Array Operand}{cv:List IV}(ho:o.op = .makeFunc (.func f) first caps)(hf:V0 f'=f/\SI f'=first.size)(hc:NP (first.toList++caps.toList)=some cv)
  (hp:∀v∈cv,NR (val g v)=true):aS P c o a w g h (.fn f' (cv.map (val g))) .no:=by
 have h1:=D9 s hc;obtain⟨hf1,hf2⟩:=hf
 refine aS.pure s (r:=.func (.func f) (first.map a.eval) (caps.map a.eval)) (by
  simp only[execOp,ho,Instr.makeFunc];rfl) ⟨(first.toList++caps.toList).map a.eval,?_,?_⟩
 .have e1:(first.toList.map a.eval).length=first.size:=by simp
  have e2:first.map a.eval=(first.toList.map a.eval).toArray:=by apply Array.toList_inj.1;simp
  have e3:caps.map a.eval=(caps.toList.map a.eval).toArray:=by apply Array.toList_inj.1;simp
  rw[hf1,hf2,dW,List.take_left' e1,List.drop_left' e1,e2,e3]
 refine h1.mono λu x hm hr=>?_;obtain⟨v,hv,rfl⟩:=dN.1 hm;have e1:=hp v hv;generalize val g v=y at*;cases y<;>first|(simp[NR]at e1;done)|exact hr
end
section
variable{P:Program}{c:qL}{bl:Nat->Option Nat}{g:Nat->AV}{h:Nat->Option aj}{a:Act}{w:World}{o:Oper}
def xF(e:TypeId)(st:List UInt8)(w:World):∃cp w',(Conv.stringToBytes e ⟨st.toArray⟩).run P w = .ok (.slice (some ⟨w.heap.size,0,none⟩) st.length cp) w'/\st.length<=cp /\
  w'.heap=w.heap.push (.cells ((st.map λb=>Value.int .u8 b.toNat).toArray++Array.replicate (cp-st.length) (.int .u8 0)) e (cp,cp+1))/\w'.os=w.os/\w'.output=w.output:=by
 have hsize:(ByteArray.mk st.toArray).size=st.length:=by simp[ByteArray.size]
 have hdat:((ByteArray.mk st.toArray).data.map λb=>Value.int .u8 b.toNat)=(st.map λb=>Value.int .u8 b.toNat).toArray:=by simp
 refine⟨st.length+(w.tape w.drawn (.appendCap st.length 0 e))%(2^63-st.length),?_⟩;generalize hcp:st.length+(w.tape w.drawn (.appendCap st.length 0 e))%(2^63-st.length)=cp;have hle:st.length<=cp:=by omega
 have hch:(choose (.appendCap st.length 0 e)).run P w = .ok cp w.drew:=by
  rw[run_choose];simp only[Question.forced,Question.cut,hcp];rfl
 generalize hcs:((st.map λb=>Value.int .u8 b.toNat).toArray++Array.replicate (cp-st.length) (.int .u8 0))=cs;have hcsz:cs.size=cp:=by rw[<-hcs];simp;omega
 refine⟨(w.drew.alloc (.cells cs e)).freeze {block:=w.heap.size,off:=cp} 1,?_,hle,?_,rfl,rfl⟩
 .have hsh:(w.drew.alloc (.cells cs e)).shape? w.heap.size=some (e,cp):=by
   have:(w.drew.alloc (.cells cs e)).heap[w.heap.size]?=some (.cells cs e (0,0)):=by simp[World.alloc,World.drew,-World.alloc_eq,-World.drew_eq]
   unfold World.shape?;rw[this];simp[hcsz]
  unfold Conv.stringToBytes;simp only[hsize,lp,hch,mF,hdat,hcs,newRow,run_newObj,World.size_drew,sJ,World.alloc_eq,markStringish,run_shape,hsh,run_freeze]
 .show(if 1=0 then _ else _:World).heap=_;rw[ax (by decide)];apply Array.ext_getElem?;intro k;show((w.heap.push (.cells cs e (0,0))).modify w.heap.size _)[k]? = _;rw[yP,zy,zy];by_cases hk:w.heap.size=k
  .subst hk;simp
  .have hk':¬k=w.heap.size:=λe=>hk e.symm;simp[hk,hk']
def YU(s:aH c bl g h a w){d:Nat}{sr ds e:TypeId}{x:Operand}{xv:IV}(ho:o.op = .convert sr ds x)(h1:P.underlying sr=some .string)(h2:P.underlying e=some (.int .u8))(h3:P.underlying ds=some (.slice e))(hx:cV x=some xv)
  {st:List UInt8} (he:val g xv = .str st) (hd:h d=none) (hu:cN d g h) (hid:d<1000\/2000<=d) :
  aS P c o a w g h (.ms d 1 0 st.length) (.new d ⟨e,1,st.map λb=>[.int .u8 b.toNat],false⟩):=by
 have r1:=aO s hx;rw[he]at r1;obtain⟨cp,w',g1,g2,g3,g4,g5⟩:=xF (P:=P) e st w;have hcv:(convert sr ds (.string ⟨st.toArray⟩)).run P w=(Conv.stringToBytes e ⟨st.toArray⟩).run P w:=by
  simp[convert,run_underlying h1,run_underlying h2,run_underlying h3]
 have ae:∀(i:Nat)(b:UInt8),st[i]?=some b->((st.map λb=>Value.int .u8 b.toNat).toArray++Array.replicate (cp-st.length) (.int .u8 0))[i]?=some (.int .u8 b.toNat):=λi b hb=>by
  have hlt:=(gW.1 hb).1;rw[Array.getElem?_append_left (by simpa using hlt)];simp[hb]
 have hsz:((st.map λ(b:UInt8)=>Value.int .u8 b.toNat).toArray++Array.replicate (cp-st.length) (Value.int .u8 0)).size=cp:=by simp;omega
 refine ni (q:=false) (len:=st.length) (cap:=cp) (w':=w') s hd hu hid ?_ g3 g4 g5 (.inr (by rw[hsz];exact aN _)) (λi r hi=>?_) (by rw[hsz];simpa using g2) g2 (by rw[hsz];simp) (λi j r y hi hj=>?_) (λh=>by cases h)
 .simp only[execOp,ho,r1.str,lp,hcv,g1,mF,sJ]
 .simp only[fR,dc]at hi;obtain⟨b,_,rfl⟩:=hi;rfl
 .simp only[fR,dc]at hi;obtain⟨b,hb,rfl⟩:=hi;cases j with
  | zero=>simp at hj;subst hj;exact⟨.int .u8 b.toNat,by simpa using ae i b hb,IRel.int _ _⟩
  | succ j=>simp at hj
def YW(s:aH c bl g h a w){sr ds e0 e:TypeId}{x:Operand}{xv:IV}(ho:o.op = .convert sr ds x)(h0:P.underlying sr=some (.slice e0))(h1:P.underlying ds=some (.slice e))(hsd:(sr==ds)=true)(h2:P.underlying e=some (.int .u8))(hx:cV x=some xv)
  {id st off len:Nat} {ob:aj} (hxv:val g xv = .ms id st off len) (hob:h id=some ob) (hst:st=1) (host:ob.st=1) (hrec:ob.isRec=false) (hlen:0<len):aS P c o a w g h (.ms id st off len) (.put id ob):=by
 have r1:=aO s hx;rw[hxv]at r1;rcases r1 with⟨_,_,h4⟩|⟨h4,_,_⟩|⟨b,cap,c0,t0,fr0,q1,q2,q3,q4,q5⟩
 .omega
 .omega
 rcases s.heap.1 id ob hob with hn0|⟨b',g1,⟨gk,c1,fr,g2,g3,g4,g5,g6,g7⟩|hsp⟩
 .rw[hn0.2.2]at q1;cases q1
 rotate_left
 .rw[q1]at g1;cases g1;exact(hsp.ne q4).elim
 rw[q1]at g1;cases g1;have hsh:w.shape? b=some (ob.t,c1.size):=by unfold World.shape?;rw[g2]
 have hb:b<w.heap.size:=aQ g2;have hrun:(execOp a.eval o).run P w = .ok (.value (.slice (some ⟨b,off*st,none⟩) len cap)) (w.freeze {block:=b,off:=c1.size} 1):=by
  have hcv:(convert sr ds (.slice (some ⟨b,off*st,none⟩) len cap)).run P w = .ok (.slice (some ⟨b,off*st,none⟩) len cap) (w.freeze {block:=b,off:=c1.size} 1):=by
   simp[convert,run_underlying h0,run_underlying h1,run_underlying h2,hsd,markStringish,run_shape,hsh,run_freeze]
  simp only[execOp,ho,q2,lp,hcv,mF,sJ]
 have hheap:(w.freeze {block:=b,off:=c1.size} 1).heap=w.heap.modify b fun
   | .cells c elem (lo,hi)=>.cells c elem (if lo==hi then(c1.size,c1.size+1)else(min lo c1.size,max hi (c1.size+1)))
   | o=>o:=rfl
 have e1:(w.freeze {block:=b,off:=c1.size} 1).heap[b]?=some (.cells c1 ob.t (if fr.1==fr.2 then(c1.size,c1.size+1)else(min fr.1 c1.size,max fr.2 (c1.size+1)))):=by
  rw[hheap,yP,aF rfl,g2];rfl
 have e2:eD c1 (if fr.1==fr.2 then(c1.size,c1.size+1)else(min fr.1 c1.size,max fr.2 (c1.size+1))):=by
  by_cases hq:fr.1=fr.2
  .rw[aF (by simpa using hq)];exact .inr (aN _)
  .rw[ax (by simpa using hq)];rcases g3 with g3|g3
   .exact absurd g3 hq
   .exact .inr (by show c1.size<=min fr.1 c1.size;omega)
 have hs:=s.writeF (o':=ob) hob q1 g2 e1 e2 rfl (by rw[hheap];simp) (λb' hb'=>by
  rw[hheap,yP,ax (λe=>hb' e.symm)]) rfl rfl rfl ⟨g5,g6,g7⟩
 refine⟨_,_,bl,.inl hrun,hs,?_⟩;refine .inr (.inr ⟨b,cap,c1,ob.t,_,q1,rfl,q3,e1,?_⟩);rw[g2]at q4;cases q4;exact q5
def Of {fn:Func} (h:fn.name = "internal/bytealg.IndexByteString"):Extern.find fn=some Extern.BytealgIndexByte.indexByte:=by
 unfold Extern.find;simp only[h];have h1:(Extern.allGenericRows.lookup "internal/bytealg.IndexByteString").isNone=true:=by decide +kernel
 have h2:(Extern.allTypedRows.lookup "internal/bytealg.IndexByteString").isNone=true:=by decide +kernel
 have h3:Extern.allRows.lookup "internal/bytealg.IndexByteString" = some Extern.BytealgIndexByte.indexByte:=by kernel_rfl
 rw[Option.isNone_iff_eq_none]at h1 h2;rw[h1,h2,h3];rfl
def Zd (s:aH c bl g h a w) {cl:Call} {f:FuncId} {fn:Func} {x y:Operand} {xv yv:IV} (ho:o.op = .call cl) (hcl:cl.callee = .value (.func f)) (har:cl.args = #[x,y]) (hf:P.funcs[f]? = some fn) (hb:fn.body=none) (hnm:fn.name = "internal/bytealg.IndexByteString")
  (hnx:Extern.findNext fn=none) (hx:cV x=some xv) (hy:cV y=some yv) {v:AV} (he:RP (val g xv) (val g yv)=some v):aS P c o a w g h v .no:=by
 have h1:=aO s hx;have h2:=aO s hy;unfold RP at he;split at he
 case h_2=>cases he
 rename_i st n e1 e2;cases he;rw[e1]at h1;rw[e2]at h2;have e3:=h1.str;have e4:=h2.int;have hrun:=run_callFunc_extern (P:=P) (f:=f) hf (by rw[hnm];decide) (by rw[hb];rfl) hnx (Of hnm) #[a.eval x,a.eval y] w;rw[e3,e4,run_indexByte_string]at hrun;refine aS.pure s (r:=.int .i64 (Vk st n.toNat.toUInt8)) ?_ (sy _ _);simp[execOp,ho,resolve,hcl,har,Act.eval,Deferred.ofValue,invoke,hrun,e3,e4,Result.andThen,Vk]<;>simp_all [Act.eval]
def Ax:∀{ls:List LK}{xs ys:List AV}{r:Bool},kj ls xs ys=some r->xs.length=ls.length/\ys.length=ls.length
 | [],[],[],_,_=>⟨rfl,rfl⟩
 | _::_,[],_,_,h=>by simp[kj]at h
 | _::_,_::_,[],_,h=>by simp[kj]at h
 | [],_::_,_,_,h=>by simp[kj]at h
 | [],[],_::_,_,h=>by simp[kj]at h
 | l::ls,x::xs,y::ys,r,h=>by
  simp only[kj]at h;split at h
  .rename_i p q h1 h2;have:=Ax h2;simp[this.1,this.2]
  .cases h
def FS:∀(l1 l2:List LK)(xs ys:List AV)(r:Bool),kj (l1++l2) xs ys=some r->∃p q,kj l1 (xs.take l1.length) (ys.take l1.length)=some p/\kj l2 (xs.drop l1.length) (ys.drop l1.length)=some q/\r=(p&&q)
 | [],l2,xs,ys,r,h=>⟨true,r,by simp[kj],by simpa using h,by simp⟩
 | l::l1,l2,[],ys,r,h=>by simp[kj]at h
 | l::l1,l2,x::xs,[],r,h=>by simp[kj]at h
 | l::l1,l2,x::xs,y::ys,r,h=>by
  simp only[tU,kj]at h;split at h
  case h_2=>cases h
  rename_i p q h1 h2;cases h;obtain⟨p',q',h3,h4,rfl⟩:=FS l1 l2 xs ys q h2;exact⟨p&&p',q',by simp[kj,h1,h3],by simpa using h4,by simp[Bool.and_assoc]⟩
def LO{x y:AV}{r:Bool}(h:kE .b x y=some r):∃p q,x = .bool p/\y = .bool q/\r=(p==q):=by
 cases x<;>cases y<;>simp only[kE,cI]at h<;>first|exact⟨_,_,rfl,rfl,h.symm⟩|cases h
def LP{x y:AV}{r:Bool}(h:kE .i x y=some r):∃k p q,x = .int k p/\y = .int k q/\r=(p==q):=by
 cases x<;>cases y<;>simp only[kE]at h<;>first|(split at h;(rename_i hk;subst hk;cases h;exact⟨_,_,_,rfl,rfl,rfl⟩);(cases h))|cases h
def LR{x y:AV}{r:Bool}(h:kE .s x y=some r):∃p q,x = .str p/\y = .str q/\r=(p==q):=by
 cases x<;>cases y<;>simp only[kE,cI]at h<;>first|exact⟨_,_,rfl,rfl,h.symm⟩|cases h
def zC(P:Program)(t:TypeId)(x:AV)(xs:List AV):Prop :=
 match P.underlying t with
 | some (.struct _)=>x = .agg xs
 | _=>xs=[x]
def JI{t:TypeId}{ls:List LK}{m:Nat}(ht:pn P m t=some ls){cells:List AV}{off:Nat}(hl:((cells.drop off).take ls.length).length=ls.length) :
  ∃n x,tQ P t=some n/\ww n (cells.drop off)=some x/\zC P t x ((cells.drop off).take ls.length):=by
 have one:∀(l:LK),ls=[l]->(∀fs,P.underlying t≠some (.struct fs))->tQ P t=some none->∃n x,tQ P t=some n/\ww n (cells.drop off)=some x/\zC P t x ((cells.drop off).take ls.length):=λl e h1 h2=>by
  subst e;obtain⟨y,r,hc⟩:∃y r,cells.drop off=y::r:=by
   cases hc:cells.drop off with
   | nil=>rw[hc]at hl;simp at hl
   | cons y r=>exact⟨y,r,rfl⟩
  refine⟨none,y,h2,by rw[hc];rfl,?_⟩;unfold zC;split
  .rename_i fs h3;exact absurd h3 (h1 fs)
  .rw[hc];rfl
 have inf:∀{d:TypeDesc},P.underlying t=some d->∃i,P.info? t=some i:=λ{d} hu=>by
  obtain⟨i,hi⟩:=info_of_underlying hu;exact⟨i,hi⟩
 cases m with
 | zero=>simp[pn]at ht
 | succ m =>
  unfold pn at ht;split at ht
  .rename_i hu;cases ht;obtain⟨i,hi⟩:=inf hu;exact one _ rfl (λfs h=>by rw[hu]at h;cases h) (by simp[tQ,hu,hi])
  .rename_i hu;cases ht;obtain⟨i,hi⟩:=inf hu;exact one _ rfl (λfs h=>by rw[hu]at h;cases h) (by simp[tQ,hu,hi])
  .rename_i hu;cases ht;obtain⟨i,hi⟩:=inf hu;exact one _ rfl (λfs h=>by rw[hu]at h;cases h) (by simp[tQ,hu,hi])
  .rename_i fs hu;split at ht
   .cases ht
   split at ht
   case h_2=>cases ht
   split at ht
   case isFalse=>cases ht
   rename_i hs;cases ht;refine⟨some ls.length,.agg ((cells.drop off).take ls.length),hs,?_,?_⟩
   .rw[ww,aF (by rw[q_]at hl;omega)]
   .unfold zC;rw[hu]
  .cases ht
def VL(P:Program)(m:Nat):Prop:=∀(t:TypeId)(ls:List LK),pn P m t=some ls->∀(M:Nat->Prop)(bl:Nat->Option Nat)(w:World)(d:Nat)(a b:Value)(x y:AV)(xs ys:List AV)(r:Bool),
 eY bl M w a x->eY bl M w b y->zC P t x xs->zC P t y ys->kj ls xs ys=some r->(Op.equalIn (d+m) t a b).run P w = .ok r w
def De{m:Nat}(IH:VL P m){M:Nat->Prop}{d:Nat}{A B:List Value}{xs ys:List AV}(hA:aR (bV bl M w) A xs)(hB:aR (bV bl M w) B ys):∀(fs:List Field)(off:Nat)(ls:List LK)(r:Bool),
  BX (pn P m) fs off=some ls->kj ls (xs.drop off) (ys.drop off)=some r->(Op.eqFields (d+m) A.toArray B.toArray fs).run P w = .ok r w
 | [],off,ls,r,h1,h2=>by
  simp only[BX,cI]at h1;subst h1;obtain⟨e1,e2⟩:=Ax h2;cases hx:xs.drop off with
  | cons=>rw[hx]at e1;simp at e1
  | nil=>cases hy:ys.drop off with
   | cons=>rw[hy]at e2;simp at e2
   | nil =>
    rw[hx,hy]at h2;simp only[kj,cI]at h2;subst h2;simp[Op.eqFields]
 | fd::fs,off,ls,r,h1,h2=>by
  simp only[BX]at h1;split at h1
  case isFalse=>cases h1
  rename_i hc;obtain⟨ho,hn⟩:=hc;split at h1
  case h_2=>cases h1
  rename_i l hl;split at h1
  case h_2=>cases h1
  rename_i ls' hls;cases h1;obtain⟨p,q,g1,g2,rfl⟩:=FS l ls' _ _ r h2;obtain⟨e1,e2⟩:=Ax g1;obtain⟨n,x,t1,t2,t3⟩:=JI hl e1;obtain⟨n',y,t4,t5,t6⟩:=JI hl e2;obtain⟨u,u1,u2⟩:=nr (w:=w) t1 hA t2;obtain⟨v,v1,v2⟩:=nr (w:=w) t4 hB t5;have key:=IH fd.type l hl M bl w d u v x y _ _ p u2 v2 t3 t6 g1;rw[MM,MM]at g2;have rest:=De (d:=d) IH hA hB fs (off+l.length) ls' q hls g2;simp only[Op.eqFields,hn,ne_eq,not_false_eq_true,dP,lp,ho,u1,v1,key,mF];cases p
  .simp
  .simpa using rest
def N_:∀m,VL P m
 | 0=>λt ls ht=>by simp[pn]at ht
 | m+1=>λt ls ht M bl w d a b x y xs ys r ha hb fx fy h=>by
  have lf:∀(l:LK),ls=[l]->(∀fs,P.underlying t≠some (.struct fs))->∃r',kE l x y=some r'/\r=r':=λl e hn=>by
   subst e;have hx:xs=[x]:=by unfold zC at fx;split at fx;exact absurd (by assumption) (hn _);exact fx
   have hy:ys=[y]:=by unfold zC at fy;split at fy;exact absurd (by assumption) (hn _);exact fy
   subst hx;subst hy;simp only[kj]at h;split at h
   .rename_i p q h1 h2;cases h2;cases h;exact⟨p,h1,by simp⟩
   .cases h
  have e0:d+(m+1)=(d+m)+1:=rfl;unfold pn at ht;split at ht
  .rename_i hu;cases ht;obtain⟨r',h1,rfl⟩:=lf .b rfl (λfs h=>by rw[hu]at h;cases h);obtain⟨p,q,rfl,rfl,rfl⟩:=LO h1;rw[e0,(eY.toV ha).bool,(eY.toV hb).bool];exact run_equalIn_bool' w _ t _ _ hu
  .rename_i k0 hu;cases ht;obtain⟨r',h1,rfl⟩:=lf .i rfl (λfs h=>by rw[hu]at h;cases h);obtain⟨k,p,q,rfl,rfl,rfl⟩:=LP h1;rw[e0,(eY.toV ha).int,(eY.toV hb).int];exact run_equalIn_int w _ t k k0 _ _ hu
  .rename_i hu;cases ht;obtain⟨r',h1,rfl⟩:=lf .s rfl (λfs h=>by rw[hu]at h;cases h);obtain⟨p,q,rfl,rfl,rfl⟩:=LR h1;rw[e0,(eY.toV ha).str,(eY.toV hb).str,run_equalIn_string w _ t _ _ hu];simp
  .rename_i fs hu;split at ht
   .cases ht
   rename_i hst;split at ht
   case h_2=>cases ht
   rename_i ls' hls;split at ht
   case isFalse=>cases ht
   cases ht;have hx:x = .agg xs:=by unfold zC at fx;rw[hu]at fx;exact fx
   have hy:y = .agg ys:=by unfold zC at fy;rw[hu]at fy;exact fy
   subst hx;subst hy;obtain⟨A,rfl,hA⟩:=ha;obtain⟨B,rfl,hB⟩:=hb;have hfs:P.fieldsOf t=fs:=by simp[Program.fieldsOf,hu]
   rw[e0,run_equalIn_struct w (d+m) t _ _ (by rw[hfs];exact hu) (by simpa using hst),hfs];exact De (N_ m) hA hB fs.toList 0 ls r hls (by simpa using h)
  .cases ht
def Uz(s:aH c bl g h a w){t t':TypeId}{fs:Array Field}{op:BinOp}{x y:Operand}{xv yv:IV}{l:LK}{ls:List LK}(ho:o.op = .binOp op t x y t')(ht:P.underlying t=some (.struct fs))(hg:P.eqGuardType P.depth t=false)(hl:pn P 20 t=some (l::ls))(hx:cV x=some xv)(hy:cV y=some yv)
  {v:AV} (he:ql op (l::ls) (val g xv) (val g yv)=some v):aS P c o a w g h v .no:=by
 have h1:=aO s hx;have h2:=aO s hy;have key:∀xs ys r,val g xv = .agg xs->val g yv = .agg ys->kj (l::ls) xs ys=some r->∃A B,a.eval x = .agg A/\a.eval y = .agg B/\(Op.equalIn 10000 t (.agg A) (.agg B)).run P w = .ok r w:=λxs ys r e1 e2 e3=>by
  rw[e1]at h1;rw[e2]at h2;have k:=N_ (P:=P) 20 t (l::ls) hl (bz bl c.MF h) bl w 9980 (a.eval x) (a.eval y) (.agg xs) (.agg ys) xs ys r h1 h2 (by unfold zC;rw[ht]) (by unfold zC;rw[ht]) e3;obtain⟨A,q1,_⟩:=h1;obtain⟨B,q3,_⟩:=h2;rw[q1,q3]at k;exact⟨_,_,q1,q3,k⟩
 unfold ql at he;split at he<;>first|(cases he;done)|skip
 all_goals first|(rename_i hl _ _;cases hl;done)|skip
 .rename_i l' ls' xs ys hll e1 e2;cases hll;simp only[dc]at he;obtain⟨r,e3,rfl⟩:=he;obtain⟨A,B,q1,q2,q3⟩:=key xs ys r e1 e2 e3;exact aS.pure s (r:=.bool _) (by simp only[execOp,ho,q1,q2,lp,run_eqGuard_agg w _ t _ _ _ _ hg,run_eql_struct,q3,mF];rfl) (nk _)
 .rename_i l' ls' xs ys hll e1 e2;cases hll;simp only[dc]at he;obtain⟨r,e3,rfl⟩:=he;obtain⟨A,B,q1,q2,q3⟩:=key xs ys r e1 e2 e3;exact aS.pure s (r:=.bool _) (by simp only[execOp,ho,q1,q2,lp,run_eqGuard_agg w _ t _ _ _ _ hg,run_neq_struct,q3,mF];rfl) (nk _)
def Ut(s:aH c bl g h a w){t t':TypeId}{ps rs:Array TypeId}{vd:Bool}{op:BinOp}{x y:Operand}{xv yv:IV}(ho:o.op = .binOp op t x y t')(ht:P.underlying t=some (.func ps rs vd))(hx:cV x=some xv)(hy:cV y=some yv)
  {v:AV} (he:ql op [] (val g xv) (val g yv)=some v):aS P c o a w g h v .no:=by
 have h1:=aO s hx;have h2:=aO s hy;have nf:∀{u:Value}{M:Nat->Prop},aY bl M w u .nf->u = .nilFunc:=λhv=>by simp only[aY,eY,bV,dS]at hv;cases hv;rfl
 have q1:∀f cs1 cs2,(Op.equal t (.func f cs1 cs2) .nilFunc).run P w = .ok false w:=λf cs1 cs2=>by
  have h1:(Op.equalIn (9999+1) t (.func f cs1 cs2) .nilFunc).run P w = .ok false w:=by unfold Op.equalIn;simp[underlying,ht]
  exact h1
 have q2:(Op.equal t .nilFunc .nilFunc).run P w = .ok true w:=by
  have h1:(Op.equalIn (9999+1) t .nilFunc .nilFunc).run P w = .ok true w:=by unfold Op.equalIn;simp[underlying,ht]
  exact h1
 unfold ql at he;split at he<;>first|(cases he;done)|skip
 all_goals first|(rename_i hl _ _;cases hl;done)|skip
 .rename_i f cs e1 e2;rw[e1]at h1;rw[e2]at h2;obtain⟨cs',h3,_⟩:=h1;cases he;exact aS.pure s (r:=.bool _) (by simp only[execOp,ho,h3,nf h2,eqGuard,binOp];simp[q1]) (nk _)
 .rename_i f cs e1 e2;rw[e1]at h1;rw[e2]at h2;obtain⟨cs',h3,_⟩:=h1;cases he;exact aS.pure s (r:=.bool _) (by simp only[execOp,ho,h3,nf h2,eqGuard,binOp];simp[q1]) (nk _)
 .rename_i e1 e2;rw[e1]at h1;rw[e2]at h2;cases he;exact aS.pure s (r:=.bool _) (by simp only[execOp,ho,nf h1,nf h2,eqGuard,binOp];simp[q2]) (nk _)
 .rename_i e1 e2;rw[e1]at h1;rw[e2]at h2;cases he;exact aS.pure s (r:=.bool _) (by simp only[execOp,ho,nf h1,nf h2,eqGuard,binOp];simp[q2]) (nk _)
def Vp(s:aH c bl g h a w){st:Nat}{y:Operand}{yv:IV}(hy:cV y=some yv){rows:List (List AV)}(hr:fk st h (val g yv)=some rows)(k:Nat)(hk:k<=rows.length) :
  ∃ys:List Value,(∀w':World,(Builtin.lenOf (a.eval y)).run P w' = .ok rows.length w')/\(∀w':World,w'.heap=w.heap->(Builtin.firstCells st k (a.eval y)).run P w' = .ok ys.toArray w')/\qN (IRel (bz bl c.MF h) w) st ys (rows.take k):=by
 have h1:=aO s hy;have tk:∀{rows:List (List AV)}{i:Nat}{r:List AV},(rows.take k)[i]?=some r->rows[i]?=some r:=λ{rows i r} hi=>by
  rw[x9]at hi;split at hi
  .exact hi
  .cases hi
 have nil:∀{v:Value},v = .slice none 0 0->∃ys:List Value,(∀w':World,(Builtin.lenOf v).run P w' = .ok ([]:List (List AV)).length w')/\(∀w':World,w'.heap=w.heap->(Builtin.firstCells st k v).run P w' = .ok ys.toArray w')/\qN (IRel (bz bl c.MF h) w) st ys (([]:List (List AV)).take k):=λ{v} hv=>by
  subst hv;exact⟨[],(Am (P:=P) (w:=w) st).len,λw' _=>by simp[Builtin.firstCells],by simpa using iM st⟩
 have emp:∀{ad:Addr}{cap:Nat},k=0->∃ys:List Value,(∀w':World,(Builtin.lenOf (.slice (some ad) 0 cap)).run P w' = .ok ([]:List (List AV)).length w')/\(∀w':World,w'.heap=w.heap->(Builtin.firstCells st k (.slice (some ad) 0 cap)).run P w' = .ok ys.toArray w')/\qN (IRel (bz bl c.MF h) w) st ys (([]:List (List AV)).take k):=λ{ad cap} hk=>by
  subst hk;exact⟨[],(sZ (P:=P) (w:=w) st ad cap).len,(sZ (P:=P) (w:=w) st ad cap).vals,by simpa using iM st⟩
 cases hval:val g yv<;>rw[hval]at hr h1<;>simp only[fk]at hr<;>try cases hr
 case nl=>exact nil h1.nl
 case sl st' rows' =>
  split at hr
  case isFalse=>cases hr
  rename_i hst;subst hst;cases hr;generalize hu:a.eval y=u at h1;have h2:=h1.sl;cases h2 with
  | nls=>exact nil rfl
  | sl0 st ad cap=>exact emp (by simpa using hk)
  | sl b off cap st c1 t1 fr rows vs hb hM hl hrl hv hx =>
   obtain⟨ys,h3,h4⟩:=pk (P:=P) (R:=IRel (bz bl c.MF h) w) (off:=off) (rows:=rows.take k) hb (λi r hi=>hrl i r (tk hi)) (λi j r x hi hj=>⟨vs i j,hv i j (gW.1 (tk hi)).1 (by rw[<-hrl i r (tk hi)];exact(gW.1 hj).1),hx i j r x (tk hi) hj⟩);rw[q_,HP hk]at h4;exact⟨ys,λw'=>by simp[Builtin.lenOf],λw' hw=>by simp[Builtin.firstCells,h4 w' hw],h3⟩
 case ms id st' off len =>
  split at hr
  case h_2=>cases hr
  rename_i ob hob;split at hr
  case isFalse=>cases hr
  rename_i hcond;obtain⟨rfl,hst,hrec,hfit⟩:=hcond;cases hr;have hlen:((ob.rows.drop off).take len).length=len:=by simp;omega
  rcases h1 with⟨h2,h3,h4⟩|⟨h2,h3,ad,cap,h4,h40⟩|⟨b,cap,c1,t1,fr,h2,h3,h4,h5,h6⟩
  .subst h3 h4;simp only[iO];exact nil h2
  .subst h2;rw[h4];simp only[iO];exact emp (by simpa using hk)
  .rcases s.heap.1 id ob hob with hn0|⟨b',g2,⟨_,c2,fr2,g3,g4,g5,g6,g7,g8⟩|hsp⟩
   .rw[hn0.2.2]at h2;cases h2
   rotate_left
   .rw[h2]at g2;cases g2;exact(hsp.ne h5).elim
   rw[h2]at g2;cases g2;have getr:∀(i:Nat)(r:List AV),(((ob.rows.drop off).take len).take k)[i]?=some r->ob.rows[off+i]?=some r:=λi r hi=>by
    have hi:=tk hi;rw[x9]at hi;split at hi
    .simpa using hi
    .cases hi
   obtain⟨ys,q3,q4⟩:=pk (P:=P) (R:=IRel (bz bl c.MF h) w) (w:=w) (off:=off*st') (st:=st') (rows:=((ob.rows.drop off).take len).take k) g3 (λi r hi=>by rw[<-hst];exact g6 _ _ (getr i r hi)) (λi j r x hi hj=>by
    obtain⟨v,hv,hrl⟩:=g8 _ _ _ _ (getr i r hi) hj;rw[hrec]at hrl;refine⟨v,?_,hrl⟩;rw[<-hv,hst,iP])
   rw[q_,HP hk]at q4;refine⟨ys,?_,?_,q3⟩
   .rw[h3,hlen];exact λw'=>by simp[Builtin.lenOf]
   .rw[h3];exact λw' hw=>by simp[Builtin.firstCells,q4 w' hw]
def YT(s:aH c bl g h a w){t t' e:TypeId}{st:Nat}{cl:Call}{x y:Operand}{xv:IV}(ho:o.op = .call cl)(hcl:cl.callee = .builtin .copy)(hat:cl.argTypes = #[t,t'])(har:cl.args = #[x,y])(ht:P.underlying t=some (.slice e))(hn:gK P e=some st)
  (hx:cV x=some xv) {id off len:Nat} (hxv:val g xv = .ms id st off len) {ob:aj} (hob:h id=some ob) (hst:ob.st=st) (hrec:ob.isRec=false) (hfit:off+len<=ob.rows.length)
  {yrows:List (List AV)} {ys:List Value} (N:Nat) (hlen:∀w':World,(Builtin.lenOf (a.eval y)).run P w' = .ok N w') (hN:Nat.min N len=yrows.length) (hvals:∀w':World,w'.heap=w.heap->(Builtin.firstCells st yrows.length (a.eval y)).run P w' = .ok ys.toArray w') (hy:(∀(i:Nat)(r:List AV),yrows[i]?=some r->r.length=st)/\ys.length=yrows.length*st /\
   ∀(i j:Nat)(r:List AV)(x:AV),yrows[i]?=some r->r[j]?=some x->∃v,ys[i*st+j]?=some v/\IRel (bz bl c.MF h) w v x) (hle:yrows.length<=len) :
  aS P c o a w g h (.int .i64 yrows.length) (.put id {ob with rows:=ob.rows.take off++yrows++ob.rows.drop (off+yrows.length)}):=by
 have h1:=aO s hx;rw[hxv]at h1;have hsz:(sizeOf e).run P w = .ok st w:=xJ hn;have hund:(underlying t).run P w = .ok (.slice e) w:=by simp[underlying,ht]
 have key:∀(base:Option Addr)(cap:Nat)(w':World),a.eval x = .slice base len cap->(match base with|some ad=>(storeCells ad ys).run P w = .ok () w'|none=>w'=w)->(execOp a.eval o).run P w = .ok (.value (.int .i64 yrows.length)) w':=by
  intro base cap w' hv hstore;have hmin:Nat.min N len=yrows.length:=hN;have e1:=hlen w;have e2:=hvals w rfl;cases base with
  | none=>subst hstore;simp[execOp,ho,resolve,hcl,har,hat,invoke,builtin,Builtin.copy_,hund,hv,e1,hmin,hsz,e2,goInt]
  | some ad=>simp[execOp,ho,resolve,hcl,har,hat,invoke,builtin,Builtin.copy_,hund,hv,e1,hmin,hsz,e2,hstore,goInt]
 subst hst;have empty:yrows=[]->∀base cap,a.eval x = .slice base len cap->aS P c o a w g h (.int .i64 yrows.length) (.put id {ob with rows:=ob.rows.take off++yrows++ob.rows.drop (off+yrows.length)}):=by
  rintro rfl base cap hv;have hys:ys=[]:=FE.1 (by simpa using hy.2.1);subst hys;have eo:({ob with rows:=ob.rows.take off++[]++ob.rows.drop (off+([]:List (List AV)).length)}:aj)=ob:=by simp
  rw[eo];refine⟨_,w,bl,.inl (key base cap w hv ?_),s.congr (λ_=>rfl) (λj=>?_),?_⟩
  .cases base with
   | none=>rfl
   | some ad=>simp[storeCells]
  .by_cases hj:j=id
   .subst hj;simp[aW.hp,dQ,hob]
   .simp[aW.hp,dQ,hj]
  .exact sy _ _
 rcases h1 with⟨h2,_,h4⟩|⟨h4,_,ad,cap,h2,_⟩|⟨b,cap,c0,t0,fr0,h2,h3,h4,h5,h6⟩
 .subst h4;exact empty (FE.1 (by omega)) _ _ h2
 .subst h4;exact empty (FE.1 (by omega)) _ _ h2
 rcases s.heap.1 id ob hob with hn0|⟨b',q2,⟨gk,c1,fr,q3,q4,q5,q6,q7,q8⟩|hsp⟩
 .rw[hn0.2.2]at h2;cases h2
 rotate_left
 .rw[h2]at q2;cases q2;exact(hsp.ne h5).elim
 rw[h2]at q2;cases q2;have hspace:off*ob.st+ys.length<=c1.size:=by
  rw[hy.2.1,<-iP];exact cZ (nv _ (by omega)) q7
 have hone:∀v∈ys,jU v:=λv hv=>by
  obtain⟨k,hk⟩:=List.getElem?_of_mem hv;have hlt:k<yrows.length*ob.st:=by rw[<-hy.2.1];exact(gW.1 hk).1
  have hpos:0<ob.st:=Nat.pos_of_ne_zero λh0=>by rw[h0]at hlt;omega
  have hi:k/ob.st<yrows.length:=Nat.div_lt_of_lt_mul (by rw[Nat.mul_comm];exact hlt);have hr:=hy.1 _ _ (jZ hi);have hj:k%ob.st<(yrows[k/ob.st]).length:=by rw[hr];exact Nat.mod_lt _ hpos
  obtain⟨v',q9,q10⟩:=hy.2.2 _ _ _ _ (jZ hi) (jZ hj);rw[Nat.mul_comm,Nat.div_add_mod,hk]at q9;cases q9;exact q10.one
 have hst':=lC (P:=P) (w:=w) (b:=b) (off:=off*ob.st) (vs:=ys) q3 q4 hspace hone;obtain⟨c2,g1,g2,g3,g4,g5,g6,g7⟩:=kN b ys (off*ob.st) w q3 hspace;have hl3:(ob.rows.take off++yrows++ob.rows.drop (off+yrows.length)).length=ob.rows.length:=by
  simp only[ej,q_,Rq];omega
 have hrow:∀i:Nat,(ob.rows.take off++yrows++ob.rows.drop (off+yrows.length))[i]? = if off<=i/\i<off+yrows.length then yrows[i-off]? else ob.rows[i]?:=λi=>by
  have hlt:(ob.rows.take off).length=off:=by simp;omega
  rcases eJ i off with g8|g8
  .rw[ax (by omega),mE,Ji (by omega),List.getElem?_take_of_lt g8]
  .rcases eJ i (off+yrows.length)with g9|g9
   .rw[aF ⟨g8,g9⟩,Ji (by simp;omega),zB (by omega),hlt]
   .rw[ax (by omega),zB (by simp;omega),FD];congr 1;simp;omega
 have hs:=s.write (o':={ob with rows:=ob.rows.take off++yrows++ob.rows.drop (off+yrows.length)}) hob h2 q3 g1 g2 g4 g5 g6 g7 rfl ⟨λi q hq=>by
   simp only at hq⊢;rw[hrow]at hq;split at hq
   .exact hy.1 _ _ hq
   .exact q6 _ _ hq,by simp only[hl3];rw[g2];exact q7,λi j q z hq hz=>by
   simp only at hq hz⊢;rw[hrow]at hq;have hj:j<ob.st:=by
    split at hq
    .rw[<-hy.1 _ _ hq];exact(gW.1 hz).1
    .rw[<-q6 _ _ hq];exact(gW.1 hz).1
   have hin:(off*ob.st<=i*ob.st+j/\i*ob.st+j<off*ob.st+ys.length)↔(off<=i/\i<off+yrows.length):=by
    rw[hy.2.1];constructor
    .rintro⟨a1,a2⟩;refine⟨Nat.le_of_not_lt λhlt=>?_,Nat.lt_of_not_le λhle=>?_⟩
     .have:=nv ob.st (show i+1<=off by omega);rw[iP]at this;omega
     .have:=nv ob.st hle;rw[iP]at this;omega
    .rintro⟨a1,a2⟩;have b1:=nv ob.st a1;have b2:=nv ob.st (show i+1<=off+yrows.length by omega);rw[iP,iP]at b2;omega
   rw[g3];split at hq
   .rename_i hc;rw[aF (hin.2 hc)];obtain⟨v,w1,w2⟩:=hy.2.2 _ _ _ _ hq hz;refine⟨v,?_,?_⟩
    .rw[<-w1];congr 1;have:=nv ob.st hc.1;rw[Nat.sub_mul];omega
    .rw[hrec];exact w2
   .rename_i hc;rw[ax (λhh=>hc (hin.1 hh))];exact q8 _ _ _ _ hq hz⟩
 exact⟨_,_,bl,.inl (key _ _ _ h3 hst'),hs,sy _ _⟩
end
def rG:lR->Bool
 | .new ..=>true
 | .box ..=>true
 | .bsl ..=>true
 | .app ..=>true
 | .apps ..=>true
 | .cvb ..=>true
 | .mks ..=>true
 | .mop .rng _=>true
 | .mop .rgm _=>true
 | .mop .mkm _=>true
 | _=>false
section
variable{P:Program}{c:qL}{bl:Nat->Option Nat}{g:Nat->AV}{h:Nat->Option aj}{a:Act}{w:World}{o:Oper}
def bG{x:Option AV}{v:AV}{e:aW}(h:res x=some (v,e)):x=some v/\e = .no:=by
 unfold res at h;simp only[dc,sK]at h;obtain⟨y,h1,rfl,rfl⟩:=h;exact⟨h1,rfl⟩
def KY{α:Type}{x:Array α}{t:α}(h:x.toList=[t]):x = #[t]:=by cases x;simp_all
def Ay{α:Type}{x:Array α}{t u:α}(h:x.toList=[t,u]):x = #[t,u]:=by cases x;simp_all
def Ag{f:Nat->aj->Option (AV×aW)}{v r:AV}{e:aW}{h:Nat->Option aj}(hq:∃id,v = .mm id true/\(h id).bind (f id)=some (r,e)):∃id ob,v = .mm id true/\h id=some ob/\f id ob=some (r,e):=by
 obtain⟨id,h1,h2⟩:=hq;simp only[pZ]at h2;obtain⟨ob,h3,h4⟩:=h2;exact⟨id,ob,h1,h3,h4⟩
def Dz{i:Nat}{rows:List (List AV)}(h:E3 i rows=true):∀r∈rows,∀x∈r,mC i x=false:=λr hr x hx=>by
 simpa using f_.1 (f_.1 h r hr) x hx
def H5(s:aH c bl g h a w){op:lR}(hc:iH P o.op=some op){d:Nat}{x:AV}{e:aW}(he:bQ d op (val g) h=some (x,e))
  (hnew:rG op=true->h d=none/\cN d g h/\(d<1000\/2000<=d)):aS P c o a w g h x e:=by
 generalize hoo:o.op=oo at hc;cases oo with
 | move y =>
  simp only[iH,dc]at hc;obtain⟨v,h1,rfl⟩:=hc;simp only[bQ,cI,sK]at he;obtain⟨rfl,rfl⟩:=he;exact Qg s (.inl hoo) h1
 | assign y =>
  simp only[iH,dc]at hc;obtain⟨v,h1,rfl⟩:=hc;simp only[bQ,cI,sK]at he;obtain⟨rfl,rfl⟩:=he;exact Qg s (.inr hoo) h1
 | pick q y z =>
  simp only[iH]at hc;split at hc
  case h_2=>cases hc
  rename_i qv yv zv h1 h2 h3;cases hc;exact Uy s hoo h1 h2 h3 (by simpa[bQ]using he)
 | alloc t =>
  simp only[iH,dc]at hc;obtain⟨z,h1,rfl⟩:=hc;simp only[bQ,cI,sK]at he;obtain⟨rfl,rfl⟩:=he;obtain⟨n1,n2,n3⟩:=hnew rfl;exact Y9 s hoo h1 n1 n2 n3
 | box t y =>
  simp only[iH]at hc;split at hc
  case h_2=>cases hc
  rename_i n yv h1 h2;cases hc;simp only[bQ]at he;split at he
  case h_2=>cases he
  rename_i cs h3;split at he
  case isFalse=>cases he
  rename_i hcond;obtain⟨rfl,h4⟩:=hcond;cases he;obtain⟨n1,n2,n3⟩:=hnew rfl;exact YR s hoo h2 h3 (λy hy=>by simpa using f_.1 h4 y hy) n1 n2 n3
 | build t parts =>
  simp only[iH]at hc;split at hc
  case h_3=>cases hc
  case h_2 =>
   rename_i n e ht;split at hc
   case h_2=>cases hc
   rename_i z ie h1 h2;split at hc
   case isFalse=>cases hc
   rename_i hp;cases hc;simp only[bQ,lu,fo]at he;obtain⟨hz,rfl⟩:=bG he;cases hz;exact LY s hoo ht h1 h2 (by simpa using hp)
  rename_i fs ht;split at hc
  case h_2=>cases hc
  rename_i z places h1 h2;simp only[dc]at hc;obtain⟨ps,h3,rfl⟩:=hc;simp only[bQ]at he;obtain⟨hz,rfl⟩:=bG he;simp only[dc]at hz;obtain⟨out,h4,rfl⟩:=hz;exact Qe s hoo ht h1 h2 h3 h4
 | buildSlice t len parts =>
  simp only[iH]at hc;split at hc
  case h_2=>cases hc
  rename_i e' ht;split at hc
  case h_2=>cases hc
  rename_i z n ps h1 h2 h3;split at hc
  case isFalse=>cases hc
  rename_i hcond;obtain⟨h4,h5,h7⟩:=hcond;cases hc;simp only[bQ]at he;obtain⟨n1,n2,n3⟩:=hnew rfl;unfold D8 NN at he;split at he
  .rename_i rs h8;cases he;exact YS s hoo ht h1 h2 h3 h4 h5 h7 h8 n1 n2 n3
  .split at he
   .rename_i rs h8;split at he
    .rename_i hno;cases he;exact Kh s hoo ht h1 h2 h3 h4 h5 h7 h8 n1 n2 n3 (λh=>by cases h) (λ_=>Dz hno)
    .cases he
   .cases he
 | load t p =>
  simp only[iH]at hc;split at hc
  case h_2=>cases hc
  rename_i n pv h1 h2;cases hc;simp only[bQ]at he;obtain⟨hz,rfl⟩:=bG he;exact Uv s hoo h1 h2 hz
 | store t p y =>
  simp only[iH]at hc;split at hc
  case h_2=>cases hc
  rename_i n pv yv h1 h2 h3;cases hc;simp only[bQ,dc,sK]at he;obtain⟨e',h4,rfl,rfl⟩:=he;exact Qi s hoo h1 h2 h3 h4
 | nilCheck y =>
  simp only[iH,dc]at hc;obtain⟨yv,h1,rfl⟩:=hc;simp only[bQ]at he;split at he<;>try cases he
  .rename_i id st row off hv;have:=E_ (P:=P) s hoo h1 (.inl ⟨id,st,row,off,hv⟩);rwa[hv]at this
  .rename_i cells hv;have:=E_ (P:=P) s hoo h1 (.inr (.inl ⟨cells,hv⟩));rwa[hv]at this
  .rename_i f caps hv;have:=E_ (P:=P) s hoo h1 (.inr (.inr ⟨f,caps,hv⟩));rwa[hv]at this
 | binOp op' t y z t' =>
  simp only[iH]at hc;split at hc
  case h_2=>cases hc
  rename_i yv zv h1 h2;unfold Cc at hc;split at hc
  .cases hc;simp only[bQ]at he;obtain⟨hz,rfl⟩:=bG he;exact Uq s hoo (by assumption) h1 h2 (by assumption)
  .cases hc;simp only[bQ]at he;obtain⟨hz,rfl⟩:=bG he;exact Qd s hoo h1 h2 (by assumption)
  .cases hc;simp only[bQ]at he;obtain⟨hz,rfl⟩:=bG he;exact Qd s hoo h1 h2 (by assumption)
  .cases hc;simp only[bQ]at he;obtain⟨hz,rfl⟩:=bG he;exact Ux s hoo (by assumption) h1 h2 (by assumption)
  .cases hc;simp only[bQ]at he;obtain⟨hz,rfl⟩:=bG he;exact Ut s hoo (by assumption) h1 h2 (by assumption)
  .split at hc
   .cases hc
   rename_i hg;split at hc
   case h_2=>cases hc
   rename_i l ls hls;cases hc;simp only[bQ]at he;obtain⟨hz,rfl⟩:=bG he;exact Uz s hoo (by assumption) (by simpa using hg) hls h1 h2 (by assumption)
  .rename_i e' ht;split at hc
   .cases hc;simp only[bQ]at he;obtain⟨hz,rfl⟩:=bG he;exact IQ s hoo ht (.inl ⟨rfl,rfl⟩) h1 h2 hz
   .cases hc;simp only[bQ]at he;obtain⟨hz,rfl⟩:=bG he;exact IQ s hoo ht (.inr ⟨rfl,rfl⟩) h1 h2 hz
   .cases hc
  .cases hc
 | unOp op' t y =>
  simp only[iH,dc]at hc;obtain⟨yv,h1,rfl⟩:=hc;simp only[bQ]at he;obtain⟨hz,rfl⟩:=bG he;exact acb s hoo h1 hz
 | convert sr ds y =>
  simp only[iH]at hc;split at hc
  case h_2=>cases hc
  rename_i yv h1;unfold AB at hc;split at hc
  .rename_i k' k h2 h3;cases hc;simp only[bQ]at he;split at he
   case h_2=>cases he
   rename_i kk n hv;cases he;exact YV s hoo h2 h3 h1 hv
  .rename_i h2 h3;cases hc;simp only[bQ]at he;split at he
   case h_2=>cases he
   rename_i st hv;cases he;have:=Ur (P:=P) s hoo h2 h3 h1 hv;rwa[hv]at this
  .rename_i e' h2 h3;split at hc
   case h_2=>cases hc
   rename_i h4;cases hc;simp only[bQ]at he;split at he
   case h_2=>cases he
   rename_i rows h5;obtain⟨hz,rfl⟩:=bG he;simp only[dc]at hz;obtain⟨bs,h6,rfl⟩:=hz;exact YX s hoo h2 h4 h3 h1 h5 h6
  .rename_i e' h2 h3;split at hc
   case h_2=>cases hc
   rename_i h4;cases hc;simp only[bQ]at he;split at he
   case h_2=>cases he
   rename_i st hv;split at he
   case isFalse=>cases he
   cases he;obtain⟨n1,n2,n3⟩:=hnew rfl;exact YU s hoo h2 h4 h3 h1 hv n1 n2 n3
  .rename_i e0 e' h2 h3;split at hc
   case h_2=>cases hc
   rename_i hsd h4;cases hc;simp only[bQ]at he;obtain⟨id,st,off,len,ob,q1,q2,q3,q4,q5,q6,rfl,rfl⟩:=rE he;exact YW s hoo h2 h3 hsd h4 h1 q1 q2 q3 q4 q5 q6
  .cases hc
 | makeFunc fn first caps =>
  cases fn<;>simp only[iH]at hc<;>try cases hc
  rename_i f;split at hc
  case isFalse=>cases hc
  rename_i hf;simp only[dc]at hc;obtain⟨cv,h1,rfl⟩:=hc;simp only[bQ]at he;split at he
  case isFalse=>cases he
  rename_i hall;cases he;exact Y1 s hoo hf h1 (λv hv=>f_.1 hall (val g v) (dN.2 ⟨v,hv,rfl⟩))
 | makeSlice t l cp =>
  simp only[iH]at hc;split at hc
  case h_2=>cases hc
  rename_i e' st lv cv h1 h2 h3;simp only[dc]at hc;obtain⟨z,h4,rfl⟩:=hc;simp only[bQ]at he;split at he
  case h_2=>cases he
  rename_i n m h5 h6;split at he
  case isFalse=>cases he
  rename_i hcond;obtain⟨q1,q2,q3,q4⟩:=hcond;cases he;obtain⟨n1,n2,n3⟩:=hnew rfl;exact Y3 s hoo h1 h4 h2 h3 h5 h6 q1 q2 q3 q4 n1 n2 n3
 | slice t y lo hi mx =>
  simp only[iH]at hc;split at hc
  .rename_i e' yv lov hiv mxv h1 h2 h3 h4 h5;split at hc
   case isFalse=>cases hc
   rename_i hb;simp only[dc]at hc;obtain⟨n,h6,rfl⟩:=hc;simp only[bQ]at he;obtain⟨hz,rfl⟩:=bG he
   exact Ze s hoo h1 h6 h2 h3 h4 h5 (by
    intro hm;cases mx<;>simp_all) hz
  .rename_i yv lov hiv h1 h2 h3 h4 h5;cases hc;simp only[bQ]at he;obtain⟨hz,rfl⟩:=bG he;have hm:mx=none:=by
    cases mx with
    | none=>rfl
    | some q=>simp[s8]at h5
   subst hm;exact UC s hoo h1 h2 h3 h4 hz
  .cases hc
 | fieldAddr t y f =>
  simp only[iH]at hc;split at hc
  case h_2=>cases hc
  rename_i fs yv h1 h2;split at hc
  case h_2=>cases hc
  rename_i fd h3;split at hc
  case h_2=>cases hc
  rename_i n h4;cases hc;simp only[bQ]at he;obtain⟨hz,rfl⟩:=bG he;exact Us s hoo h1 h3 h4 rfl h2 hz
 | field t y f =>
  simp only[iH]at hc;split at hc
  case h_2=>cases hc
  rename_i fs yv h1 h2;split at hc
  case h_2=>cases hc
  rename_i fd h3;simp only[dc]at hc;obtain⟨n,h4,rfl⟩:=hc;simp only[bQ]at he;obtain⟨hz,rfl⟩:=bG he;exact Y0 s hoo h1 h3 h4 rfl h2 hz
 | indexAddr t y i =>
  simp only[iH]at hc;split at hc
  case h_3=>cases hc
  case h_1 =>
   rename_i e' yv iv h1 h2 h3;simp only[dc]at hc;obtain⟨n,h4,rfl⟩:=hc;simp only[bQ]at he;obtain⟨hz,rfl⟩:=bG he;exact Uu s hoo h1 h4 h2 h3 hz
  case h_2 =>
   rename_i len e' yv iv h1 h2 h3;simp only[dc]at hc;obtain⟨n,h4,rfl⟩:=hc;simp only[bQ]at he;obtain⟨hz,rfl⟩:=bG he;exact Up s hoo h1 h4 h2 h3 hz
 | index t y i =>
  simp only[iH]at hc;split at hc
  case h_2=>cases hc
  rename_i yv iv h1 h2 h3;cases hc;simp only[bQ]at he;split at he
  case h_2=>cases he
  rename_i st k n h4 h5;split at he
  case isFalse=>cases he
  rename_i h0;split at he
  case h_2=>cases he
  rename_i b hb;cases he;exact UA s hoo h1 h2 h3 h4 h5 h0 hb
 | extract y i =>
  simp only[iH,dc]at hc;obtain⟨yv,h1,rfl⟩:=hc;simp only[bQ]at he;split at he
  case h_2=>cases he
  rename_i vs hv;obtain⟨hz,rfl⟩:=bG he;exact YZ s hoo h1 hv hz
 | call cl =>
  simp only[iH]at hc;unfold uD at hc;split at hc
  .rename_i f hcl;split at hc
   .simp only[dc]at hc;obtain⟨_,_,rfl⟩:=hc;simp[bQ]at he
   .obtain⟨fn,y,z,yv,zv,q1,q2,q3,q4,q5,q6,q7,rfl⟩:=mX hc;simp only[bQ]at he;obtain⟨hz,rfl⟩:=bG he;exact Zd s hoo hcl (Ay q5) q1 q2 q3 q4 q6 q7 hz
  .split at hc
   .simp only[dc]at hc;obtain⟨_,_,rfl⟩:=hc;simp[bQ]at he
   .cases hc
  .cases hc
  .cases hc
  .rename_i hcl;split at hc
   case h_2=>cases hc
   rename_i t y h1 h2;split at hc<;>(try cases hc)<;>simp only[dc]at hc<;>obtain⟨yv,h3,rfl⟩:=hc<;>simp only[bQ]at he
   .obtain⟨hz,rfl⟩:=bG he;rename_i e' ht;exact ok_len s hoo hcl (KY h1) (KY h2) ht h3 hz
   .obtain⟨hz,rfl⟩:=bG he;rename_i ht;exact UB s hoo hcl (KY h1) (KY h2) ht h3 hz
   .rename_i ht;simp only[bY,eL]at he;cases hv:val g yv<;>rw[hv]at he<;>simp only[jn]at he<;>try cases he
    rename_i id k;cases k<;>simp only[jn]at he<;>try cases he
    simp only[pZ,dc]at he;obtain⟨ob,h4,es,h5,h6⟩:=he;cases h6;exact Y6 s hoo hcl (KY h1) (KY h2) ht h3 hv h4 h5
  .rename_i hcl;split at hc
   case h_2=>cases hc
   rename_i t t' y z h1 h2;have fin:∀{e':TypeId}{st:Nat}{yv zv:IV}{src:Option (List (List AV))},nJ P t=some (e',st)->((∃e'',P.underlying t'=some (.slice e''))\/P.underlying t'=some .string)->cV y=some yv ->
     (∀rows,src=some rows->∃ys,MO P w st (a.eval z) rows.length ys/\qN (IRel (bz bl c.MF h) w) st ys rows)->pE d e' st (val g yv) src h=some (x,e)->h d=none->cN d g h->(d<1000\/2000<=d)->aS P c o a w g h x e:=by
    intro e' st yv zv src hap ht' hy hsrc he n1 n2 n3;unfold pE at he;split at he
    case h_1=>cases he
    rename_i ys;split at he
    case isFalse=>cases he
    rename_i hbig;obtain⟨vs,hs,hyr⟩:=hsrc ys rfl;split at he
    .rename_i hv;cases he;exact Bx (q:=false) s hoo hcl (Ay h1) (Ay h2) hap ht' hy hv hs hyr hbig n1 n2 n3 (λh=>by cases h)
    .rename_i id st' off len hv;split at he
     case h_2=>cases he
     rename_i ob hob;split at he
     case isFalse=>cases he
     rename_i hcond;obtain⟨rfl,q2,q3,q4,rfl,q6,q7,q8,q9⟩:=hcond;cases he;exact Bz (q:=false) s hoo hcl (Ay h1) (Ay h2) hap ht' hy hv hob q2 q3 q6 q8 q9 hs (λh=>by rw[q4]at h;exact h) hyr hbig q7 (λh=>by cases h)
    .cases he
   split at hc
   .rename_i e' st e'' yv zv h3 h4 h5 h6;cases hc;simp only[bQ]at he;obtain⟨n1,n2,n3⟩:=hnew rfl;exact fin (zv:=zv) h3 (.inl ⟨_,h4⟩) h5 (λrows hr=>Fr s h6 hr) he n1 n2 n3
   .rename_i e' st yv zv h3 h4 h5 h6;split at hc
    case isFalse=>cases hc
    rename_i hst;subst hst;cases hc;simp only[bQ]at he;obtain⟨n1,n2,n3⟩:=hnew rfl;exact fin (zv:=zv) h3 (.inr h4) h5 (λrows hr=>Rf s h6 hr) he n1 n2 n3
   .cases hc
  .rename_i hcl;split at hc
   case h_2=>cases hc
   rename_i y z h1;split at hc
   case h_2=>cases hc
   rename_i yv zv h2 h3;cases hc;simp only[bQ]at he;obtain⟨hz,rfl⟩:=bG he;exact Qf (m:=false) s hoo hcl (Ay h1) h2 h3 hz
  .rename_i hcl;split at hc
   case h_2=>cases hc
   rename_i y z h1;split at hc
   case h_2=>cases hc
   rename_i yv zv h2 h3;cases hc;simp only[bQ]at he;obtain⟨hz,rfl⟩:=bG he;exact Qf (m:=true) s hoo hcl (Ay h1) h2 h3 hz
  .rename_i hcl;split at hc
   case h_2=>cases hc
   rename_i t t' y z h1 h2;split at hc
   case h_2=>cases hc
   rename_i e' e'' yv zv h3 h4 h5 h6;simp only[dc]at hc;obtain⟨st,h7,rfl⟩:=hc;simp only[bQ]at he;have hcp:∀{src:Option (List (List AV))},zD st (val g yv) src h=some (x,e)->∃ys id off len ob,src=some ys/\val g yv = .ms id st off len/\h id=some ob/\ob.st=st/\ob.isRec=false/\off+len<=ob.rows.length /\
     ∃k,k=Nat.min ys.length len/\x = .int .i64 k/\e = .put id {ob with rows:=ob.rows.take off++ys.take k++ob.rows.drop (off+k)}:=λ{src} hq=>by
    unfold zD at hq;cases src with
    | none=>cases hq
    | some ys =>
     simp only at hq;split at hq
     .rename_i id st' off len hv;split at hq
      .rename_i ob hob;split at hq
       .rename_i hcond;obtain⟨rfl,p2,p3,p4⟩:=hcond;split at hq
        .rename_i hle;cases hq;exact⟨ys,id,off,len,ob,rfl,hv,hob,p2,p3,p4,ys.length,(HP hle).symm,rfl,by rw[jc]⟩
        .rename_i hle;cases hq;exact⟨ys,id,off,len,ob,rfl,hv,hob,p2,p3,p4,len,(Nat.min_eq_right (by omega)).symm,rfl,rfl⟩
       .cases hq
      .cases hq
     .cases hq
   obtain⟨ys,id,off,len,ob,hys,hv,hob,p2,p3,p4,k,hk,rfl,rfl⟩:=hcp he;have hk1:k<=ys.length:=by rw[hk];exact Nat.min_le_left _ _
   have hk2:k<=len:=by rw[hk];exact Nat.min_le_right _ _
   obtain⟨vs,hs1,hs2,hyr⟩:=Vp (P:=P) s h6 hys k hk1;have hkl:(ys.take k).length=k:=by rw[q_,HP hk1]
   have:=YT s hoo hcl (Ay h1) (Ay h2) h3 h7 h5 hv hob p2 p3 p4 (yrows:=ys.take k) ys.length hs1 (by rw[hkl,hk]) (by rw[hkl];exact hs2) hyr (by rw[hkl];exact hk2);rw[hkl]at this;exact this
  .cases hc
 | range t y =>
  simp only[iH]at hc;split at hc
  case h_3=>cases hc
  all_goals
   rename_i yv h1 h2;cases hc;simp only[bQ,bY,eL]at he;cases hv:val g yv<;>rw[hv]at he<;>simp only[jn]at he<;>try cases he
   obtain⟨n1,n2,n3⟩:=hnew rfl
  .exact Zc s hoo h1 h2 hv n1 n2 n3
  .exact Zb s hoo h1 h2 hv n1 n2 n3
 | next y b =>
  cases b<;>simp only[iH]at hc
  .simp only[dc]at hc;obtain⟨yv,h1,rfl⟩:=hc;simp only[bQ,bY,eL,jn]at he;cases he
  simp only[dc]at hc;obtain⟨yv,h1,rfl⟩:=hc;simp only[bQ,bY,eL]at he;cases hv:val g yv<;>rw[hv]at he<;>simp only[jn]at he<;>try cases he
  rename_i id k;cases k<;>simp only[jn]at he
  .simp only[pZ]at he;obtain⟨ob,h2,h3⟩:=he;exact Za s hoo h1 hv h2 h3
  .cases he
 | entry y =>
  simp only[iH,dc]at hc;obtain⟨yv,h1,rfl⟩:=hc;simp only[bQ,bY,eL]at he;cases hv:val g yv<;>rw[hv]at he<;>simp only[jn]at he<;>try cases he
  rename_i id k;cases k<;>simp only[jn]at he
  .simp only[pZ,dc]at he;obtain⟨ob,h2,z,h3,h4⟩:=he;cases h4;exact YY s hoo h1 hv h2 h3
  .cases he
 | makeMap t r =>
  cases r<;>simp only[iH]at hc
  .cases hc;simp only[bQ,eL,jn]at he;cases he;obtain⟨n1,n2,n3⟩:=hnew rfl;exact Y2 s hoo n1 n2 n3
  .cases hc
 | lookup t y z ok =>
  simp only[iH]at hc;split at hc
  case h_2=>cases hc
  rename_i kd zz yv zv h1 h2 h3;cases hc;simp only[bQ,bY,eL]at he;by_cases hfm:∃es,val g yv = .fm es
  .obtain⟨es,hfm⟩:=hfm;rw[hfm]at he;exact Uw s hoo h1 h2 h3 hfm he
  obtain⟨id,ob,h4,h5,h6⟩:=Ag (f:=λid ob=>uY ok kd zz (val g zv) ob) (v:=val g yv) (r:=x) (e:=e) (h:=h) (by
   cases hv:val g yv
   case fm es=>exact absurd ⟨es,hv⟩ hfm
   all_goals (rw[hv]at he;simp only[jn]at he)
   all_goals try cases he
   rename_i id k;cases k<;>simp only[jn]at he
   .cases he
   .exact⟨id,rfl,he⟩)
  exact Y4 s hoo h1 h2 h3 h4 h5 h6
 | mapUpdate t y z q =>
  simp only[iH]at hc;split at hc
  case h_2=>cases hc
  rename_i kd zz yv zv qv h1 h2 h3 h0;cases hc;simp only[bQ,bY,eL]at he
  obtain⟨id,ob,h4,h5,h6⟩:=Ag (f:=λid ob=>Cb id kd (val g zv) (val g qv) ob) (v:=val g yv) (r:=x) (e:=e) (h:=h) (by
   cases hv:val g yv<;>rw[hv]at he<;>simp only[jn]at he<;>try cases he
   rename_i id k;cases k<;>simp only[jn]at he
   .cases he
   .exact⟨id,rfl,he⟩)
  exact Qh s (.inl hoo) h1 h2 h3 h0 h4 h5 h6
 | insert t y z q =>
  simp only[iH]at hc;split at hc
  case h_2=>cases hc
  rename_i kd zz yv zv qv h1 h2 h3 h0;cases hc;simp only[bQ,bY,eL]at he
  obtain⟨id,ob,h4,h5,h6⟩:=Ag (f:=λid ob=>Cb id kd (val g zv) (val g qv) ob) (v:=val g yv) (r:=x) (e:=e) (h:=h) (by
   cases hv:val g yv<;>rw[hv]at he<;>simp only[jn]at he<;>try cases he
   rename_i id k;cases k<;>simp only[jn]at he
   .cases he
   .exact⟨id,rfl,he⟩)
  exact Qh s (.inr hoo) h1 h2 h3 h0 h4 h5 h6
 | mapEntry t y z =>
  simp only[iH]at hc;split at hc
  case h_2=>cases hc
  rename_i kd zz yv zv h1 h2 h3;cases hc;simp only[bQ,bY,eL]at he
  obtain⟨id,ob,h4,h5,h6⟩:=Ag (f:=λid ob=>Nh id kd zz (val g zv) ob) (v:=val g yv) (r:=x) (e:=e) (h:=h) (by
   cases hv:val g yv<;>rw[hv]at he<;>simp only[jn]at he<;>try cases he
   rename_i id k;cases k<;>simp only[jn]at he
   .cases he
   .exact⟨id,rfl,he⟩)
  exact Y7 s hoo h1 h2 h3 h4 h5 h6
 | entryStore t y z q =>
  simp only[iH]at hc;split at hc
  case h_2=>cases hc
  rename_i yv zv qv h1 h2 h3;cases hc;simp only[bQ,bY,eL]at he;cases hz:val g zv<;>rw[hz]at he<;>cases hv:val g yv<;>rw[hv]at he<;>simp only[jn]at he<;>try cases he
  rename_i kk n id k;cases k<;>cases kk<;>simp only[jn]at he<;>try cases he
  simp only[pZ]at he;obtain⟨ob,h5,h6⟩:=he;exact Y8 s hoo h1 h2 h3 hv hz h5 h6
 | _=>simp[iH]at hc
