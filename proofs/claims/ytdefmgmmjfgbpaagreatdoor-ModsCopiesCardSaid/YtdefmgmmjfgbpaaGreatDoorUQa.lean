import Derived.WalkKit
import Derived.Laws.Externs
import Derived.Great.BuildSlice
import Derived.Laws.StructEq
set_option linter.all false
namespace Go.Mw
def aN {p:Prop} (h:p):p:=h
def au:=@decide_eq_false
def az:=@decide_eq_true
def wF:=@List.length_append
def aJ:=@if_neg
def bz:=@if_pos
def cj:=@Option.map_eq_some_iff
def dn:=@List.length_map
def pD:=@List.length_cons
def dz:=@List.mem_append
def cq:=@Nat.zero_le
def bH:=@Option.some.injEq
def dZ:=@Bool.and_eq_true
def I6:=@Int.toNat_natCast
def za:=@List.length_singleton
def kv:=@List.take_of_length_le
def bD:=@Nat.le_refl
def vw:=@List.append_assoc
def dE:=@List.getElem?_eq_some_iff
def jv:=@Bool.true_and
def i1:=@beq_eq_false_iff_ne
def eJ:=@List.getElem?_eq_getElem
def bA:=@Bool.not_false
def bv:=@Bool.not_true
def cZ:=@List.all_eq_true
def tT:=@Bool.false_eq_true
def kw:=@decide_eq_true_eq
def lp:=@List.length_nil
def mL:=@List.nil_append
def cX:=@if_true
def d_:=@List.getElem?_map
def bE:=@List.mem_cons
def ee:=@List.map_cons
def i2:=@Array.getD_eq_getD_getElem?
def cK:=@Option.map_some
def eL:=@List.mem_singleton
def fp:=@if_false
def kx:=@List.cons_append
def ky:=@Array.getElem?_eq_some_iff
def vx:=@List.length_drop
def eM:=@List.take_length
def jw:=@List.eq_nil_of_length_eq_zero
def bK:=@Nat.lt_or_ge
def jx:=@Option.bind_eq_some_iff
def iO:=@Nat.mul_le_mul_right
def gW:=@Array.length_toList
def f7:=@List.mem_of_getElem?
def lq:=@Array.getElem?_eq_getElem
def pB:=@List.flatMap_cons
def cE:=@Nat.le_trans
def EM:=@Nat.add_assoc
def mM:=@List.append_nil
def nE:=@Bool.not_eq_true'
def dN:=@List.take_zero
def fc:=@List.mem_flatMap
def pV:=@Bool.or_eq_true
def rV:=@Bool.false_or
def rW:=@Array.getElem?_setIfInBounds
def lr:=@Bool.false_and
def fJ:=@Nat.add_mul
def lu:=@Array.getElem?_modify
def rX:=@Bool.true_or
def vy:=@List.length_take
inductive AV where
 | bool (b:Bool)
 | int (k:IntKind) (n:Int)
 | str (s:List UInt8)
 | nl
 | sl (st:Nat) (rows:List (List AV))
 | ip (cells:List AV)
 | np
 | nf
 | any
 | ms (id st off len:Nat)
 | mp (id st row off:Nat)
 | mm (id:Nat) (k:Bool)
 | fm (es:List (AV×AV))
 | fn (f:FuncId) (caps:List AV)
 | agg (cells:List AV)
 | tup (vs:List AV)
 deriving Inhabited
def fj:Value→Prop
 | .agg _=>False
 | .tuple _=>False
 | _=>True
def aC {α β:Type} (R:α→β→Prop):List α→List β→Prop
 | [],[]=>True
 | a :: l,b :: m=>R a b∧aC R l m
 | _,_=>False
theorem aC.length {α β:Type} {R:α→β→Prop}:∀{l:List α} {m:List β},aC R l m→l.length=m.length
 | [],[],_=>rfl
 | _ :: _,_ :: _,h=>by simp [aC.length h.2]
 | [],_ :: _,h=>h.elim
 | _ :: _,[],h=>h.elim
theorem aC.mono {α β:Type} {R R':α→β→Prop}:∀{l:List α} {m:List β},aC R l m→(∀a b,b∈m→R a b→R' a b)→aC R' l m
 | [],[],_,_=>trivial
 | _ :: _,_ :: _,h,f=>⟨f _ _ (by simp) h.1,h.2.mono fun a b hb=>f a b (by simp [hb])⟩
 | [],_ :: _,h,_=>h.elim
 | _ :: _,[],h,_=>h.elim
theorem aC.get {α β:Type} {R:α→β→Prop}:∀{l:List α} {m:List β},aC R l m→∀{i:Nat} {b:β},m[i]? = some b→∃a,l[i]? = some a∧R a b
 | [],[],_,i,b,h=>by simp at h
 | a :: _,c :: _,h,0,b,hb=>by
  simp only [List.getElem?_cons_zero,bH] at hb
  subst hb
  exact ⟨a,by simp,h.1⟩
 | _ :: _,_ :: _,h,i+1,b,hb=>by
  simp only [List.getElem?_cons_succ] at hb ⊢
  exact h.2.get hb
 | [],_ :: _,h,_,_,_=>h.elim
 | _ :: _,[],h,_,_,_=>h.elim
theorem aC.append {α β:Type} {R:α→β→Prop}:∀{l l':List α} {m m':List β},aC R l m→aC R l' m'→aC R (l++l') (m++m')
 | [],_,[],_,_,h=>h
 | _ :: _,_,_ :: _,_,h,h'=>⟨h.1,h.2.append h'⟩
 | [],_,_ :: _,_,h,_=>h.elim
 | _ :: _,_,[],_,h,_=>h.elim
theorem aC.take {α β:Type} {R:α→β→Prop}:∀{l:List α} {m:List β} (n:Nat),aC R l m→aC R (l.take n) (m.take n)
 | _,_,0,_=>by simp [aC]
 | [],[],_+1,_=>by simp [aC]
 | _ :: _,_ :: _,n+1,h=>⟨h.1,h.2.take n⟩
 | [],_ :: _,_,h=>h.elim
 | _ :: _,[],_,h=>h.elim
theorem aC.drop {α β:Type} {R:α→β→Prop}:∀{l:List α} {m:List β} (n:Nat),aC R l m→aC R (l.drop n) (m.drop n)
 | _,_,0,h=>by simpa using h
 | [],[],_+1,_=>by simp [aC]
 | _ :: _,_ :: _,n+1,h=>by simpa using h.2.drop n
 | [],_ :: _,_,h=>h.elim
 | _ :: _,[],_,h=>h.elim
theorem aC.of_get {α β:Type} {R:α→β→Prop}:∀{l:List α} {m:List β},l.length=m.length →
  (∀(i:Nat) (a:α) (b:β),l[i]? = some a→m[i]? = some b→R a b)→aC R l m
 | [],[],_,_=>trivial
 | a :: l,b :: m,hl,h=>⟨h 0 a b (by simp) (by simp),aC.of_get (by simpa using hl) fun i a b ha hb=>h (i+1) a b (by simpa using ha) (by simpa using hb)⟩
 | [],_ :: _,hl,_=>by simp at hl
 | _ :: _,[],hl,_=>by simp at hl
def dv (v:Value):AV→Prop
 | .bool b=>v = .bool b
 | .int k n=>v = .int k n
 | .str s=>v = .string ⟨s.toArray⟩
 | _=>False
inductive IRel (M:Nat→Prop) (w:World):Value→AV→Prop where
 | bool (b:Bool):IRel M w (.bool b) (.bool b)
 | int (k:IntKind) (n:Int):IRel M w (.int k n) (.int k n)
 | str (s:List UInt8):IRel M w (.string ⟨s.toArray⟩) (.str s)
 | nl:IRel M w (.slice none 0 0) .nl
 | nls (st:Nat):IRel M w (.slice none 0 0) (.sl st [])
 | np:IRel M w (.pointer none) .np
 | nf:IRel M w .nilFunc .nf
 | any (v:Value) (h:fj v):IRel M w v .any
 | sl0 (st:Nat) (a:Addr) (cap:Nat):IRel M w (.slice (some a) 0 cap) (.sl st [])
 | sl (b off cap st:Nat) (c:Array Value) (t:TypeId) (fr:Nat×Nat) (rows:List (List AV)) (vs:Nat→Nat→Value)
   (hb:w.heap[b]? = some (.cells c t fr)) (hM:¬M b) (hl:rows.length≤cap)
   (hr:∀(i:Nat) (r:List AV),rows[i]? = some r→r.length=st)
   (hv:∀(i j:Nat),i<rows.length→j<st→c[off+i * st+j]? = some (vs i j))
   (hx:∀(i j:Nat) (r:List AV) (x:AV),rows[i]? = some r→r[j]? = some x→IRel M w (vs i j) x) :
   IRel M w (.slice (some ⟨b,off,none⟩) rows.length cap) (.sl st rows)
 | ip (b off:Nat) (c:Array Value) (t:TypeId) (fr:Nat×Nat) (cells:List AV) (vs:Nat→Value)
   (hb:w.heap[b]? = some (.cells c t fr)) (hM:¬M b)
   (hv:∀(j:Nat),j<cells.length→c[off+j]? = some (vs j))
   (hx:∀(j:Nat) (x:AV),cells[j]? = some x→IRel M w (vs j) x) :
   IRel M w (.pointer (some ⟨b,off,none⟩)) (.ip cells)
 | nm:IRel M w (.map none) (.fm [])
 | fm (b:Nat) (es':Array MapEntry) (es:List (AV×AV)) (hb:w.heap[b]? = some (.map es' es'.size)) (hM:¬M b) (hn:∀(i:Nat) (e:MapEntry),es'[i]? = some e→e.born=i)
   (he:aC (fun (e:MapEntry) (p:AV×AV)=>dv e.key p.1∧dv e.val p.2) es'.toList es):IRel M w (.map (some b)) (.fm es)
theorem IRel.one {M:Nat→Prop} {w:World} {v:Value} {x:AV} (h:IRel M w v x):fj v:=by
 cases h<;>first | trivial | assumption
theorem aZ {w:World} {b:Nat} {o:Obj} (h:w.heap[b]? = some o):b<w.heap.size:=by
 rcases bK b w.heap.size with h' | h'
 ·exact h'
 ·simp [Array.getElem?_eq_none h'] at h
theorem IRel.tr {M M':Nat→Prop} {w w':World} {v:Value} {x:AV} (h:IRel M w v x)
  (hk:∀b,¬M b→b<w.heap.size→¬M' b∧w'.heap[b]? = w.heap[b]?):IRel M' w' v x:=by
 induction h with
 | bool b=>exact .bool b
 | int k n=>exact .int k n
 | str s=>exact .str s
 | nl=>exact .nl
 | nls st=>exact .nls st
 | np=>exact .np
 | nf=>exact .nf
 | any v h=>exact .any v h
 | sl0 st a cap=>exact .sl0 st a cap
 | sl b off cap st c t fr rows vs hb hM hl hr hv hx ih =>
  obtain ⟨h1,h2⟩:=hk b hM (aZ hb)
  exact .sl b off cap st c t fr rows vs (h2.trans hb) h1 hl hr hv ih
 | ip b off c t fr cells vs hb hM hv hx ih =>
  obtain ⟨h1,h2⟩:=hk b hM (aZ hb)
  exact .ip b off c t fr cells vs (h2.trans hb) h1 hv ih
 | nm=>exact .nm
 | fm b es' es hb hM hn he =>
  obtain ⟨h1,h2⟩:=hk b hM (aZ hb)
  exact .fm b es' es (h2.trans hb) h1 hn he
def cO (bl:Nat→Option Nat) (M:Nat→Prop) (w:World) (v:Value) (x:AV):Prop :=
 match x with
 | .ms id st off len=>(v = .slice none 0 0∧off=0∧len=0) ∨
   (len=0∧off≠0∧∃a cap,v = .slice (some a) 0 cap) ∨
   ∃b cap c t fr,bl id=some b∧v = .slice (some ⟨b,off * st,none⟩) len cap∧len≤cap∧w.heap[b]? = some (.cells c t fr)∧off * st+cap * st≤c.size
 | .mp id st row off=>∃b,bl id=some b∧v = .pointer (some ⟨b,row * st+off,none⟩)
 | .mm id k=>∃b,bl id=some b∧v=if k=true then .map (some b) else .pointer (some ⟨b,0,none⟩)
 | x=>IRel M w v x
def Jg (f:FuncId):FuncId:=if f<4000000 then f else f - 4000000
def Gr (f:FuncId):Nat:=if f<4000000 then 0 else 1
def TV (f:FuncId) (e:Bool):FuncId:=if e=true then f else f+4000000
def bq (bl:Nat→Option Nat) (M:Nat→Prop) (w:World) (v:Value) (x:AV):Prop :=
 match x with
 | .fn f caps=>∃cs:List Value,v = .func (.func (Jg f)) (cs.take (Gr f)).toArray (cs.drop (Gr f)).toArray∧aC (cO bl M w) cs caps
 | x=>cO bl M w v x
def df (bl:Nat→Option Nat) (M:Nat→Prop) (w:World) (v:Value) (x:AV):Prop :=
 match x with
 | .agg cells=>∃cs:List Value,v = .agg cs.toArray∧aC (bq bl M w) cs cells
 | x=>bq bl M w v x
def aO (bl:Nat→Option Nat) (M:Nat→Prop) (w:World) (v:Value) (x:AV):Prop :=
 match x with
 | .any=>True
 | .tup vs=>∃cs:List Value,v = .tuple cs.toArray∧aC (df bl M w) cs vs
 | x=>df bl M w v x
def mP (i:Nat):AV→Bool
 | .ms id _ _ _=>id==i
 | .mp id _ _ _=>id==i
 | .mm id _=>id==i
 | _=>false
def mC (i:Nat):AV→Bool
 | .fn _ caps=>caps.any (mP i)
 | x=>mP i x
def mG (i:Nat):AV→Bool
 | .agg cells=>cells.any (mC i)
 | x=>mC i x
def mV (i:Nat):AV→Bool
 | .tup vs=>vs.any (mG i)
 | x=>mG i x
structure Tr (M M':Nat→Prop) (w w':World):Prop where
 keep:∀b,¬M b→b<w.heap.size→¬M' b∧w'.heap[b]? = w.heap[b]?
 shape:∀(b:Nat) (c:Array Value) (t:TypeId) (fr:Nat×Nat),w.heap[b]? = some (.cells c t fr)→∃(c':Array Value) (fr':Nat×Nat),w'.heap[b]? = some (.cells c' t fr')∧c'.size=c.size
section
variable {bl bl':Nat→Option Nat} {M M':Nat→Prop} {w w':World} {v:Value} {x:AV}
theorem cO.tr (h:cO bl M w v x) (ht:Tr M M' w w') (hb:∀id,mP id x=true→bl' id=bl id):cO bl' M' w' v x:=by
 cases x<;>simp only [cO] at h ⊢ <;> try exact h.tr ht.keep
 case ms id st off len =>
  rcases h with h | h | ⟨b,cap,c,t,fr,h1,h2,h3,h4,h5⟩
  ·exact .inl h
  ·exact .inr (.inl h)
  ·obtain ⟨c',fr',hc',hs⟩:=ht.shape b c t fr h4
   exact .inr (.inr ⟨b,cap,c',t,fr',(hb id (by simp [mP])).trans h1,h2,h3,hc',by omega⟩)
 case mp id st row off =>
  obtain ⟨b,h1,h2⟩:=h
  exact ⟨b,(hb id (by simp [mP])).trans h1,h2⟩
 case mm id k =>
  obtain ⟨b,h1,h2⟩:=h
  exact ⟨b,(hb id (by simp [mP])).trans h1,h2⟩
theorem bq.tr (h:bq bl M w v x) (ht:Tr M M' w w') (hb:∀id,mC id x=true→bl' id=bl id):bq bl' M' w' v x:=by
 cases x<;>simp only [bq] at h ⊢ <;> try exact cO.tr h ht (fun id hi=>hb id (by simpa [mC] using hi))
 case fn f caps =>
  obtain ⟨cs,h1,h2⟩:=h
  exact ⟨cs,h1,h2.mono fun a b hm hr=>cO.tr hr ht (fun id hi=>hb id (by simp only [mC,List.any_eq_true];exact ⟨b,hm,hi⟩))⟩
theorem df.tr (h:df bl M w v x) (ht:Tr M M' w w') (hb:∀id,mG id x=true→bl' id=bl id):df bl' M' w' v x:=by
 cases x<;>simp only [df] at h ⊢ <;> try exact bq.tr h ht (fun id hi=>hb id (by simpa [mG] using hi))
 case agg cells =>
  obtain ⟨cs,h1,h2⟩:=h
  exact ⟨cs,h1,h2.mono fun a b hm hr=>bq.tr hr ht (fun id hi=>hb id (by simp only [mG,List.any_eq_true];exact ⟨b,hm,hi⟩))⟩
theorem aO.tr (h:aO bl M w v x) (ht:Tr M M' w w') (hb:∀id,mV id x=true→bl' id=bl id):aO bl' M' w' v x:=by
 cases x<;>simp only [aO] at h ⊢ <;> try exact df.tr h ht (fun id hi=>hb id (by simpa [mV] using hi))
 case tup vs =>
  obtain ⟨cs,h1,h2⟩:=h
  exact ⟨cs,h1,h2.mono fun a b hm hr=>df.tr hr ht (fun id hi=>hb id (by simp only [mV,List.any_eq_true];exact ⟨b,hm,hi⟩))⟩
theorem cO.one (h:cO bl M w v x):fj v:=by
 cases x<;>simp only [cO] at h<;>try exact h.one
 case ms id st off len =>
  rcases h with ⟨rfl,_⟩ | ⟨_,_,a,cap,rfl⟩ | ⟨b,cap,c,t,fr,h1,rfl,h3⟩<;>trivial
 case mp id st row off =>
  obtain ⟨b,_,rfl⟩:=h
  trivial
 case mm id k =>
  obtain ⟨b,_,rfl⟩:=h
  cases k<;>trivial
theorem bq.one (h:bq bl M w v x):fj v:=by
 cases x<;>simp only [bq] at h<;>try exact cO.one h
 case fn f caps=>obtain ⟨cs,rfl,_⟩:=h;trivial
theorem bq.toV (h:bq bl M w v x):aO bl M w v x:=by
 cases x<;>try exact h
 case any=>trivial
 case agg cells=>exact (by simp only [bq,cO] at h;cases h)
 case tup vs=>exact (by simp only [bq,cO] at h;cases h)
theorem bq.toG (h:bq bl M w v x):df bl M w v x:=by
 cases x<;>try exact h
 case agg cells=>exact (by simp only [bq,cO] at h;cases h)
theorem df.toV (h:df bl M w v x):aO bl M w v x:=by
 cases x<;>try exact h
 case any=>trivial
 case tup vs=>exact (by simp only [df,bq,cO] at h;cases h)
theorem IRel.toC (h:IRel M w v x):bq bl M w v x:=by
 cases x<;>try exact h
 case ms=>cases h
 case mp=>cases h
 case mm=>cases h
 case fn=>cases h
end
class inductive Kd where
 | cells
 | it (s:List UInt8) (pos:Nat)
 | mp (es:List (AV×AV))
instance:Kd:=.cells
structure ac where
 t:TypeId
 st:Nat
 rows:List (List AV)
 isRec:Bool
 [k:Kd]
instance:Inhabited ac:=⟨⟨0,0,[],false⟩⟩
def Kd.flat:Kd→Bool
 | .cells=>true
 | _=>false
theorem Kd.of_flat {k:Kd} (h:k.flat=true):k=instKd:=by
 cases k with
 | cells=>rfl
 | it s pos=>cases h
 | mp es=>cases h
def fP (r:Bool) (bl:Nat→Option Nat) (M:Nat→Prop) (w:World) (v:Value) (x:AV):Prop :=
 match r with
 | true=>bq bl M w v x
 | false=>IRel M w v x
def dY (c:Array Value) (fr:Nat×Nat):Prop:=fr.1=fr.2∨c.size≤fr.1
theorem dY.spec {c:Array Value} {fr:Nat×Nat} (h:dY c fr):∀j,j<c.size→¬(fr.1≤j∧j<fr.2):=fun j hj=>by
 rcases h with h | h<;>omega
def qP:Kd→World→Nat→Prop
 | .cells,_,_=>False
 | .it s pos,w,b=>w.heap[b]? = some (.stringIter ⟨s.toArray⟩ pos)
 | .mp es,w,b=>∃(es':Array MapEntry),w.heap[b]? = some (.map es' es'.size)∧(∀(i:Nat) (e:MapEntry),es'[i]? = some e→e.born=i)∧aC (fun (e:MapEntry) (p:AV×AV)=>dv e.key p.1∧dv e.val p.2) es'.toList es
theorem qP.tr {k:Kd} {w w':World} {b:Nat} (h:qP k w b) (hk:w'.heap[b]? = w.heap[b]?):qP k w' b:=by
 cases k with
 | cells=>exact h
 | it s pos=>exact hk.trans h
 | mp es=>obtain ⟨es',h1,h2⟩:=h;exact ⟨es',hk.trans h1,h2⟩
theorem qP.lt {k:Kd} {w:World} {b:Nat} (h:qP k w b):b<w.heap.size:=by
 cases k with
 | cells=>exact h.elim
 | it s pos=>exact aZ h
 | mp es=>obtain ⟨es',h1,h2⟩:=h;exact aZ h1
def tZ (bl:Nat→Option Nat) (M MF:Nat→Prop) (w:World) (o:ac) (b:Nat):Prop :=
 ∃c fr,w.heap[b]? = some (.cells c o.t fr)∧dY c fr∧¬MF b∧(∀(i:Nat) (r:List AV),o.rows[i]? = some r→r.length=o.st)∧o.rows.length * o.st≤c.size ∧
  ∀(i j:Nat) (r:List AV) (x:AV),o.rows[i]? = some r→r[j]? = some x→∃v,c[i * o.st+j]? = some v∧fP o.isRec bl M w v x
structure vG (MF:Nat→Prop) (w:World) (o:ac) (b:Nat):Prop where
 rows:o.rows=[]
 isRec:o.isRec=false
 free:¬MF b
 rel:qP o.k w b
theorem vG.tr {MF:Nat→Prop} {w w':World} {o:ac} {b:Nat} (h:vG MF w o b) (hk:w'.heap[b]? = w.heap[b]?):vG MF w' o b:=⟨h.rows,h.isRec,h.free,h.rel.tr hk⟩
theorem vG.no {MF:Nat→Prop} {w:World} {o:ac} {b:Nat} (h:vG MF w o b) {i:Nat} {r:List AV} (hr:o.rows[i]? = some r):False:=by
 rw [h.rows] at hr;simp at hr
theorem vG.ne {MF:Nat→Prop} {w:World} {o:ac} {b:Nat} (h:vG MF w o b) {c:Array Value} {t:TypeId} {fr:Nat×Nat} (hc:w.heap[b]? = some (.cells c t fr)):False:=by
 have hr:=h.rel
 cases hk:o.k with
 | cells=>rw [hk] at hr;exact hr
 | it s pos=>rw [hk] at hr;exact absurd (hc.symm.trans hr) (by simp)
 | mp es=>rw [hk] at hr;obtain ⟨es',h1,h2⟩:=hr;exact absurd (hc.symm.trans h1) (by simp)
theorem vG.noflat {MF:Nat→Prop} {w:World} {o:ac} {b:Nat} (h:vG MF w o b) (hf:o.k.flat=true):False:=by
 have hr:=h.rel
 cases hk:o.k with
 | cells=>rw [hk] at hr;exact hr
 | it s pos=>rw [hk] at hf;cases hf
 | mp es=>rw [hk] at hf;cases hf
def gN (bl:Nat→Option Nat) (M MF:Nat→Prop) (w:World) (o:ac) (b:Nat):Prop:=(o.k=Kd.cells∧tZ bl M MF w o b)∨vG MF w o b
theorem gN.free {bl:Nat→Option Nat} {M MF:Nat→Prop} {w:World} {o:ac} {b:Nat} (h:gN bl M MF w o b):¬MF b:=by
 rcases h with ⟨_,_,_,_,_,h,_⟩ | h
 ·exact h
 ·exact h.free
theorem gN.lt {bl:Nat→Option Nat} {M MF:Nat→Prop} {w:World} {o:ac} {b:Nat} (h:gN bl M MF w o b):b<w.heap.size:=by
 rcases h with ⟨_,_,_,h,_⟩ | h
 ·exact aZ h
 ·exact h.rel.lt
def pE (bl:Nat→Option Nat) (M MF:Nat→Prop) (w:World) (h:Nat→Option ac):Prop :=
 (∀id o,h id=some o→(o.rows=[]∧o.isRec=false∧bl id=none)∨∃b,bl id=some b∧gN bl M MF w o b) ∧
 ∀id id' o o' b,h id=some o→h id'=some o'→bl id=some b→bl id'=some b→id=id'
def aT (bl:Nat→Option Nat) (MF:Nat→Prop) (h:Nat→Option ac) (b:Nat):Prop:=MF b∨∃id o,h id=some o∧bl id=some b
structure gD (W:Nat→Prop) (w w':World):Prop where
 size:w.heap.size≤w'.heap.size
 keep:∀b,b<w.heap.size→¬W b→w'.heap[b]? = w.heap[b]?
 shape:∀(b:Nat) (c:Array Value) (t:TypeId) (fr:Nat×Nat),w.heap[b]? = some (.cells c t fr)→∃(c':Array Value) (fr':Nat×Nat),w'.heap[b]? = some (.cells c' t fr')∧c'.size=c.size
 os:w'.os=w.os
 out:w'.output=w.output
theorem gD.refl (W:Nat→Prop) (w:World):gD W w w:=⟨bD _,fun _ _ _=>rfl,fun _ c _ fr h=>⟨c,fr,h,rfl⟩,rfl,rfl⟩
theorem gD.trans {W X:Nat→Prop} {w w' w'':World} (h:gD W w w') (h':gD X w' w'') (hx:∀b,b<w.heap.size→X b→W b):gD W w w'' where
 size:=cE h.size h'.size
 keep b hb hw:=(h'.keep b (Nat.lt_of_lt_of_le hb h.size) (fun hX=>hw (hx b hb hX))).trans (h.keep b hb hw)
 shape b c t fr hb:=by
  obtain ⟨c',fr',h1,h2⟩:=h.shape b c t fr hb
  obtain ⟨c'',fr'',h3,h4⟩:=h'.shape b c' t fr' h1
  exact ⟨c'',fr'',h3,h4.trans h2⟩
 os:=h'.os.trans h.os
 out:=h'.out.trans h.out
structure zV where
 B:Nat→Prop
 H:World→Prop
 env:List (Nat×AV)
 rel:∀(w:World) (M:Nat→Prop),H w→(∀b,B b→¬M b)→∀p∈env,1000000≤p.1∧IRel M w (.pointer (some ⟨p.1 - 1000000,0,none⟩)) p.2
 stay:∀w w':World,H w→(∀b,B b→w'.heap[b]? = w.heap[b]?)→H w'
 low:∀w:World,H w→∀b,B b→b<w.heap.size
def zV.no:zV:=⟨fun _=>False,fun _=>True,[],fun _ _ _ _ p hp=>(by cases hp),fun _ _ _ _=>trivial,fun _ _ _ h=>h.elim⟩
class aS (P:Program) where
 T:zV
structure i3 where
 w0:World
 bl0:Nat→Option Nat
 W:Nat→Prop
 MF:Nat→Prop
 n:Nat
 T:zV
 tH:T.H w0
 tW:∀b,T.B b→¬W b
 tM:∀b,T.B b→¬MF b
 hn:n≤1000000
class CT (c:i3) (P:Program) [aS P]:Prop where
 eq:c.T=aS.T P
def tv (a:Act) (k:Nat):Value:=if k<1000000 then a.tmps.getD k undef else .pointer (some ⟨k - 1000000,0,none⟩)
theorem tL {a:Act} {k:Nat} (h:k<1000000):tv a k=a.tmps.getD k undef:=bz h
theorem rU {a:Act} {k:Nat} (h:∀b,tv a k≠.pointer b):k<1000000∧tv a k=a.tmps.getD k undef:=by
 rcases bK k 1000000 with hl | hl
 ·exact ⟨hl,tL hl⟩
 ·exact absurd (aJ (by omega)) (h (some ⟨k - 1000000,0,none⟩))
structure aB (c:i3) (bl:Nat→Option Nat) (g:Nat→AV) (h:Nat→Option ac) (a:Act) (w:World):Prop where
 defers:a.defers=[]
 size:a.tmps.size=c.n
 env:∀k,aO bl (aT bl c.MF h) w (tv a k) (g k)
 heap:pE bl (aT bl c.MF h) c.MF w h
 step:gD c.W c.w0 w
 own:∀id o b,h id=some o→bl id=some b→c.w0.heap.size≤b∨c.W b
 stab:∀id,1000≤id→id<1267650600228229401496703205376→bl id=c.bl0 id
 mf:∀b,c.MF b→b<c.w0.heap.size
def cJ {α:Type} (f:Nat→α) (k:Nat) (x:α):Nat→α:=fun j=>if j=k then x else f j
theorem bh {α:Type} (f:Nat→α) (k:Nat) (x:α):cJ f k x k=x:=by simp [cJ]
theorem bB {α:Type} (f:Nat→α) {k j:Nat} (x:α) (h:j≠k):cJ f k x j=f j:=by simp [cJ,h]
theorem DY (a:Act) (d:Nat) (v:Value) (k:Nat) (hd:d<a.tmps.size):(a.put (some d) v).tmps.getD k undef=if k=d then v else a.tmps.getD k undef:=by
 simp only [Act.put]
 by_cases h:k=d
 ·subst h;simp [i2,hd]
 ·have h':¬d=k:=fun e=>h e.symm
  simp [h,h',i2,rW]
theorem NE (a:Act) (d:Nat) (v:Value) (k:Nat) (hd:d<a.tmps.size) (hd':d<1000000):tv (a.put (some d) v) k=if k=d then v else tv a k:=by
 unfold tv
 by_cases hk:k<1000000
 ·rw [bz hk,bz hk,DY a d v k hd]
 ·rw [aJ hk,aJ hk,aJ (by omega)]
section
variable {c:i3} {bl:Nat→Option Nat} {g:Nat→AV} {h:Nat→Option ac} {a:Act} {w:World}
theorem aB.put (s:aB c bl g h a w) {d:Nat} {v:Value} {x:AV} (hd:d<c.n) (hv:aO bl (aT bl c.MF h) w v x) :
  aB c bl (cJ g d x) h (a.put (some d) v) w where
 defers:=s.defers
 size:=by simpa [Act.put] using s.size
 env k:=by
  rw [NE a d v k (by rw [s.size];exact hd) (Nat.lt_of_lt_of_le hd c.hn)]
  by_cases hk:k=d
  ·subst hk;simpa [cJ] using hv
  ·simpa [cJ,hk] using s.env k
 heap:=s.heap
 step:=s.step
 own:=s.own
 stab:=s.stab
 mf:=s.mf
theorem aB.world (s:aB c bl g h a w) {w':World} (hh:w'.heap=w.heap) (ho:w'.os=w.os) (hp:w'.output=w.output):aB c bl g h a w':=by
 have ht:Tr (aT bl c.MF h) (aT bl c.MF h) w w':=⟨fun b hb _=>⟨hb,by rw [hh]⟩,fun b c t fr hb=>⟨c,fr,by rw [hh];exact hb,rfl⟩⟩
 refine ⟨s.defers,s.size,fun k=>(s.env k).tr ht (fun _ _=>rfl),⟨fun id o hi=>?_,s.heap.2⟩,?_,s.own,s.stab,s.mf⟩
 ·rcases s.heap.1 id o hi with h1 | ⟨b,h1,⟨hk,c1,fr,h2,h3,h4,h5,h6,h7⟩ | hsp⟩
  ·exact .inl h1
  rotate_left
  ·exact .inr ⟨b,h1,.inr (hsp.tr (by rw [hh]))⟩
  ·refine .inr ⟨b,h1,.inl ⟨hk,c1,fr,by rw [hh];exact h2,h3,h4,h5,h6,fun i j r x hr hx=>?_⟩⟩
   obtain ⟨v,hv1,hv2⟩:=h7 i j r x hr hx
   refine ⟨v,hv1,?_⟩
   cases hrec:o.isRec<;>simp only [hrec,fP] at hv2 ⊢
   ·exact hv2.tr ht.keep
   ·exact hv2.tr ht (fun _ _=>rfl)
 ·exact s.step.trans (X:=fun _=>False) ⟨by rw [hh];exact bD _,fun b _ _=>by rw [hh],fun b c t fr hb=>⟨c,fr,by rw [hh];exact hb,rfl⟩,ho,hp⟩ (fun _ _ h=>h.elim)
theorem aB.weaken (s:aB c bl g h a w) {g':Nat→AV} {h':Nat→Option ac} (hg:∀k,g' k = .any∨g' k=g k) (hh:∀i o,h' i=some o→h i=some o):aB c bl g' h' a w:=by
 have ht:Tr (aT bl c.MF h) (aT bl c.MF h') w w:=⟨fun b hb _=>⟨fun hm=>hb (by
  rcases hm with hm | ⟨id,o,h1,h2⟩
  ·exact .inl hm
  ·exact .inr ⟨id,o,hh id o h1,h2⟩),rfl⟩,fun b c t fr hb=>⟨c,fr,hb,rfl⟩⟩
 refine ⟨s.defers,s.size,fun k=>?_,⟨fun id o hi=>?_,fun id id' o o' b h1 h2=>s.heap.2 id id' o o' b (hh _ _ h1) (hh _ _ h2)⟩,s.step,fun id o b h1=>s.own id o b (hh _ _ h1),s.stab,s.mf⟩
 ·rcases hg k with hk | hk
  ·rw [hk];trivial
  ·rw [hk];exact (s.env k).tr ht (fun _ _=>rfl)
 ·rcases s.heap.1 id o (hh _ _ hi) with h1 | ⟨b,h1,⟨hk,c1,fr,h2,h3,h4,h5,h6,h7⟩ | hsp⟩
  ·exact .inl h1
  rotate_left
  ·exact .inr ⟨b,h1,.inr hsp⟩
  ·refine .inr ⟨b,h1,.inl ⟨hk,c1,fr,h2,h3,h4,h5,h6,fun i j r x hr hx=>?_⟩⟩
   obtain ⟨v,hv1,hv2⟩:=h7 i j r x hr hx
   refine ⟨v,hv1,?_⟩
   cases hrec:o.isRec<;>simp only [hrec,fP] at hv2 ⊢
   ·exact hv2.tr ht.keep
   ·exact hv2.tr ht (fun _ _=>rfl)
end
def fk (i:Nat) (x:AV):AV:=if mV i x then .any else x
def iI (i:Nat) (x:AV):AV:=if mC i x then .any else x
def bV (i:Nat) (o:ac):ac:=if o.isRec then { o with rows:=o.rows.map (fun r=>r.map (iI i)) } else o
section
variable {c:i3} {bl:Nat→Option Nat} {g:Nat→AV} {h:Nat→Option ac} {a:Act} {w w':World}
theorem aT.congr {MF:Nat→Prop} {h h':Nat→Option ac} (hh:∀j,(h' j).isSome=(h j).isSome) (b:Nat):aT bl MF h' b↔aT bl MF h b:=by
 have key:∀{h h':Nat→Option ac},(∀j,(h' j).isSome=(h j).isSome)→∀{j o},h' j=some o→∃o',h j=some o':=fun hh j o hj=>by
  have:=hh j
  rw [hj] at this
  exact Option.isSome_iff_exists.1 this.symm
 constructor
 ·rintro (hm | ⟨j,o,h1,h2⟩)
  ·exact .inl hm
  ·obtain ⟨o',h3⟩:=key hh h1
   exact .inr ⟨j,o',h3,h2⟩
 ·rintro (hm | ⟨j,o,h1,h2⟩)
  ·exact .inl hm
  ·obtain ⟨o',h3⟩:=key (fun j=>(hh j).symm) h1
   exact .inr ⟨j,o',h3,h2⟩
theorem Tr.of_iff {M M':Nat→Prop} (h:∀b,M' b↔M b):Tr M M' w w :=
 ⟨fun b hb _=>⟨fun hm=>hb ((h b).1 hm),rfl⟩,fun _ c _ fr hb=>⟨c,fr,hb,rfl⟩⟩
theorem fP.tr {r:Bool} {bl bl':Nat→Option Nat} {M M':Nat→Prop} {v:Value} {x:AV} (h:fP r bl M w v x) (ht:Tr M M' w w') (hb:r=true→∀id,mC id x=true→bl' id=bl id):fP r bl' M' w' v x:=by
 cases r
 ·exact IRel.tr h ht.keep
 ·exact bq.tr h ht (hb rfl)
theorem fP.one {r:Bool} {M:Nat→Prop} {v:Value} {x:AV} (h:fP r bl M w v x):fj v:=by
 cases r
 ·exact IRel.one h
 ·exact bq.one h
theorem M7 (i:Nat) (o:ac):(bV i o).t=o.t:=by unfold bV;split<;>rfl
theorem nN (i:Nat) (o:ac):(bV i o).st=o.st:=by unfold bV;split<;>rfl
theorem jp (i:Nat) (o:ac):(bV i o).isRec=o.isRec:=by unfold bV;split<;>rfl
theorem M6 (i:Nat) (o:ac):(bV i o).k=o.k:=by unfold bV;split<;>rfl
theorem yJ {M MF:Nat→Prop} {i:Nat} {o:ac} {b:Nat} (hO:tZ bl M MF w o b):tZ bl M MF w (bV i o) b:=by
 obtain ⟨c1,fr,h2,h3,h4,h5,h6,h7⟩:=hO
 by_cases hr:o.isRec=true
 ·refine ⟨c1,fr,by rw [M7];exact h2,h3,h4,?_,?_,?_⟩
  ·intro k r hk
   rw [nN]
   simp only [bV,hr,cX,d_,cj] at hk
   obtain ⟨r0,h0,rfl⟩:=hk
   simpa using h5 k r0 h0
  ·rw [nN];simpa [bV,hr] using h6
  ·intro k j r x hk hx
   rw [nN,jp]
   simp only [bV,hr,cX,d_,cj] at hk
   obtain ⟨r0,h0,rfl⟩:=hk
   simp only [d_,cj] at hx
   obtain ⟨x0,hx0,rfl⟩:=hx
   obtain ⟨v,hv1,hv2⟩:=h7 k j r0 x0 h0 hx0
   refine ⟨v,hv1,?_⟩
   rw [hr] at hv2 ⊢
   unfold iI
   split
   ·exact IRel.toC (bl:=bl) (.any v (bq.one (bl:=bl) hv2))
   ·exact hv2
 ·have e:bV i o=o:=by simp [bV,hr]
  rw [e]
  exact ⟨c1,fr,h2,h3,h4,h5,h6,h7⟩
theorem aB.purge (s:aB c bl g h a w) (i:Nat):aB c bl (fun k=>fk i (g k)) (fun j=>(h j).map (bV i)) a w:=by
 have hm:∀b,aT bl c.MF (fun j=>(h j).map (bV i)) b↔aT bl c.MF h b:=aT.congr (fun j=>by simp)
 have ht:=Tr.of_iff (w:=w) hm
 refine ⟨s.defers,s.size,fun k=>?_,⟨fun id o hi=>?_,fun id id' o o' b h1 h2=>?_⟩,s.step,fun id o b h1=>?_,s.stab,s.mf⟩
 ·show aO _ _ _ _ (fk i (g k))
  unfold fk
  split
  ·trivial
  ·exact (s.env k).tr ht (fun _ _=>rfl)
 ·simp only [cj] at hi
  obtain ⟨o0,h0,rfl⟩:=hi
  rcases s.heap.1 id o0 h0 with h1 | ⟨b,h1,⟨hk0,hO⟩ | hsp⟩
  ·refine .inl ⟨?_,by rw [jp];exact h1.2.1,h1.2.2⟩
   simp [bV,h1.2.1,h1.1]
  ·refine .inr ⟨b,h1,.inl ⟨by rw [M6];exact hk0,?_⟩⟩
   obtain ⟨c1,fr,h2,h3,h4,h5,h6,h7⟩:=yJ (i:=i) hO
   exact ⟨c1,fr,h2,h3,h4,h5,h6,fun k j r x hk hx=>by
    obtain ⟨v,hv1,hv2⟩:=h7 k j r x hk hx
    exact ⟨v,hv1,hv2.tr ht (fun _ _ _=>rfl)⟩⟩
  ·refine .inr ⟨b,h1,.inr ?_⟩
   rw [show bV i o0=o0 by simp [bV,hsp.isRec]]
   exact hsp
 ·simp only [cj] at h1 h2
  obtain ⟨o1,h1,_⟩:=h1
  obtain ⟨o2,h2,_⟩:=h2
  exact s.heap.2 id id' o1 o2 b h1 h2
 ·simp only [cj] at h1
  obtain ⟨o1,h1,_⟩:=h1
  exact s.own id o1 b h1
def bO (i:Nat) (g:Nat→AV) (h:Nat→Option ac):Prop :=
 (∀k,mV i (g k)=false)∧∀j o,h j=some o→o.isRec=true→∀r∈o.rows,∀x∈r,mC i x=false
theorem HM (i:Nat) (x:AV):mC i (iI i x)=false:=by
 unfold iI
 split
 ·rfl
 ·simp_all
theorem gU (i:Nat) (g:Nat→AV) (h:Nat→Option ac):bO i (fun k=>fk i (g k)) (fun j=>if j=i then none else (h j).map (bV i)):=by
 refine ⟨fun k=>?_,fun j o hj hr r hmr x hmx=>?_⟩
 ·show mV i (fk i (g k))=false
  unfold fk
  split
  ·rfl
  ·simp_all
 ·by_cases hji:j=i
  ·simp [hji] at hj
  ·simp only [hji,fp,cj] at hj
   obtain ⟨o0,h0,rfl⟩:=hj
   rw [jp] at hr
   simp only [bV,hr,cX,List.mem_map] at hmr
   obtain ⟨r0,_,rfl⟩:=hmr
   simp only [List.mem_map] at hmx
   obtain ⟨x0,_,rfl⟩:=hmx
   exact HM i x0
theorem aB.kill (s:aB c bl g h a w) (i:Nat):aB c bl (fun k=>fk i (g k)) (fun j=>if j=i then none else (h j).map (bV i)) a w :=
 (s.purge i).weaken (fun _=>.inr rfl) (fun j o hj=>by
  by_cases hji:j=i
  ·simp [hji] at hj
  ·simpa [hji] using hj)
def zd (bl:Nat→Option Nat) (M:Nat→Prop) (w:World) (o:ac) (cs:Array Value):Prop :=
 (∀(i:Nat) (r:List AV),o.rows[i]? = some r→r.length=o.st)∧o.rows.length * o.st≤cs.size ∧
 ∀(i j:Nat) (r:List AV) (x:AV),o.rows[i]? = some r→r[j]? = some x→∃v,cs[i * o.st+j]? = some v∧fP o.isRec bl M w v x
theorem aB.new (s:aB c bl g h a w) {i:Nat} {o:ac} {cs:Array Value} {fr:Nat×Nat} (hi:h i=none) (hu:bO i g h)
  (hid:i<1000∨1267650600228229401496703205376≤i) (hw:w'.heap=w.heap.push (.cells cs o.t fr)) (hos:w'.os=w.os) (hout:w'.output=w.output) (uf:dY cs fr)
  (hc:zd bl (aT bl c.MF h) w o cs) (hno:o.isRec=true→∀r∈o.rows,∀x∈r,mC i x=false) (hkc:o.k=Kd.cells:=by rfl) :
  aB c (cJ bl i (some w.heap.size)) g (cJ h i (some o)) a w':=by
 have hbl:∀j,j≠i→cJ bl i (some w.heap.size) j=bl j:=fun j hj=>bB _ _ hj
 have hlt:∀j oj b,h j=some oj→bl j=some b→b<w.heap.size:=fun j oj b h1 h2=>by
  rcases s.heap.1 j oj h1 with h3 | ⟨b',h3,⟨_,c1,f1,h4,_⟩ | hsp⟩
  ·rw [h3.2.2] at h2;cases h2
  ·rw [h2] at h3;cases h3;exact aZ h4
  ·rw [h2] at h3;cases h3;exact hsp.rel.lt
 have hmut:∀b,aT (cJ bl i (some w.heap.size)) c.MF (cJ h i (some o)) b→aT bl c.MF h b∨b=w.heap.size:=by
  rintro b (hm | ⟨j,oj,h1,h2⟩)
  ·exact .inl (.inl hm)
  ·by_cases hj:j=i
   ·subst hj;rw [bh] at h2;cases h2;exact .inr rfl
   ·rw [bB _ _ hj] at h1 h2;exact .inl (.inr ⟨j,oj,h1,h2⟩)
 have hpush:∀b,b<w.heap.size→w'.heap[b]? = w.heap[b]?:=fun b hb=>by
  rw [hw,Array.getElem?_push];simp [Nat.ne_of_lt hb]
 have ht:Tr (aT bl c.MF h) (aT (cJ bl i (some w.heap.size)) c.MF (cJ h i (some o))) w w':=by
  refine ⟨fun b hb hlt'=>⟨fun hm=>?_,hpush b hlt'⟩,fun b c1 t f1 hb=>⟨c1,f1,by rw [hpush b (aZ hb)];exact hb,rfl⟩⟩
  rcases hmut b hm with hm | hm
  ·exact hb hm
  ·exact absurd hm (Nat.ne_of_lt hlt')
 refine ⟨s.defers,s.size,fun k=>(s.env k).tr ht (fun id hmi=>hbl id (fun e=>?_)),⟨fun id o1 h1=>?_,fun id id' o1 o2 b h1 h2 h3 h4=>?_⟩,?_,fun id o1 b h1 h2=>?_,fun id h1 h2=>?_,s.mf⟩
 ·subst e;rw [hu.1 k] at hmi;cases hmi
 ·by_cases hj:id=i
  ·subst hj
   rw [bh] at h1
   cases h1
   refine .inr ⟨w.heap.size,bh _ _ _,.inl ⟨hkc,cs,fr,by rw [hw];simp,uf,fun hm=>?_,hc.1,hc.2.1,fun k j r x hk hx=>?_⟩⟩
   ·exact absurd (s.mf _ hm) (Nat.not_lt.2 s.step.size)
   ·obtain ⟨v,hv1,hv2⟩:=hc.2.2 k j r x hk hx
    refine ⟨v,hv1,hv2.tr ht (fun hr id hmi=>hbl id (fun e=>?_))⟩
    subst e
    rw [hno hr r (f7 hk) x (f7 hx)] at hmi
    cases hmi
  ·rw [bB _ _ hj] at h1
   rcases s.heap.1 id o1 h1 with h3 | ⟨b,h3,⟨hk0,c1,f1,h4,h5,h6,h7,h8,h9⟩ | hsp⟩
   ·exact .inl ⟨h3.1,h3.2.1,by rw [hbl id hj];exact h3.2.2⟩
   rotate_left
   ·exact .inr ⟨b,by rw [hbl id hj];exact h3,.inr (hsp.tr (hpush b hsp.rel.lt))⟩
   ·refine .inr ⟨b,by rw [hbl id hj];exact h3,.inl ⟨hk0,c1,f1,by rw [hpush b (aZ h4)];exact h4,h5,h6,h7,h8,fun k j r x hk hx=>?_⟩⟩
    obtain ⟨v,hv1,hv2⟩:=h9 k j r x hk hx
    refine ⟨v,hv1,hv2.tr ht (fun hr id' hmi=>hbl id' (fun e=>?_))⟩
    subst e
    rw [hu.2 id o1 h1 hr r (f7 hk) x (f7 hx)] at hmi
    cases hmi
 ·by_cases hj:id=i<;>by_cases hj':id'=i
  ·rw [hj,hj']
  ·subst hj
   rw [bh] at h3
   cases h3
   rw [bB _ _ hj'] at h2 h4
   exact absurd (hlt _ _ _ h2 h4) (Nat.lt_irrefl _)
  ·subst hj'
   rw [bh] at h4
   cases h4
   rw [bB _ _ hj] at h1 h3
   exact absurd (hlt _ _ _ h1 h3) (Nat.lt_irrefl _)
  ·rw [bB _ _ hj] at h1 h3
   rw [bB _ _ hj'] at h2 h4
   exact s.heap.2 _ _ _ _ _ h1 h2 h3 h4
 ·refine s.step.trans (X:=fun _=>False) ⟨by rw [hw];simp,fun b hb _=>hpush b hb,ht.shape,hos,hout⟩ (fun _ _ h=>h.elim)
 ·by_cases hj:id=i
  ·subst hj
   rw [bh] at h2
   cases h2
   exact .inl s.step.size
  ·rw [bB _ _ hj] at h1 h2
   exact s.own id o1 b h1 h2
 ·rw [hbl id (by omega)]
  exact s.stab id h1 h2
theorem aB.new0 (s:aB c bl g h a w) {i:Nat} {o:ac} (hi:h i=none) (hu:bO i g h) (hid:i<1000∨1267650600228229401496703205376≤i) (hrows:o.rows=[]) (hrec:o.isRec=false) :
  aB c (cJ bl i none) g (cJ h i (some o)) a w:=by
 have hbl:∀j,j≠i→cJ bl i none j=bl j:=fun j hj=>bB _ _ hj
 have hmut:∀b,aT (cJ bl i none) c.MF (cJ h i (some o)) b→aT bl c.MF h b:=by
  rintro b (hm | ⟨j,oj,h1,h2⟩)
  ·exact .inl hm
  ·by_cases hj:j=i
   ·subst hj;rw [bh] at h2;cases h2
   ·rw [bB _ _ hj] at h1 h2;exact .inr ⟨j,oj,h1,h2⟩
 have ht:Tr (aT bl c.MF h) (aT (cJ bl i none) c.MF (cJ h i (some o))) w w :=
  ⟨fun b hb _=>⟨fun hm=>hb (hmut b hm),rfl⟩,fun b c1 t f1 hb=>⟨c1,f1,hb,rfl⟩⟩
 refine ⟨s.defers,s.size,fun k=>(s.env k).tr ht (fun id hmi=>hbl id (fun e=>?_)),⟨fun id o1 h1=>?_,fun id id' o1 o2 b h1 h2 h3 h4=>?_⟩,s.step,fun id o1 b h1 h2=>?_,fun id h1 h2=>?_,s.mf⟩
 ·subst e;rw [hu.1 k] at hmi;cases hmi
 ·by_cases hj:id=i
  ·subst hj
   rw [bh] at h1
   cases h1
   exact .inl ⟨hrows,hrec,bh _ _ _⟩
  ·rw [bB _ _ hj] at h1
   rcases s.heap.1 id o1 h1 with h3 | ⟨b,h3,⟨hk0,c1,f1,h4,h5,h6,h7,h8,h9⟩ | hsp⟩
   ·exact .inl ⟨h3.1,h3.2.1,by rw [hbl id hj];exact h3.2.2⟩
   rotate_left
   ·exact .inr ⟨b,by rw [hbl id hj];exact h3,.inr hsp⟩
   ·refine .inr ⟨b,by rw [hbl id hj];exact h3,.inl ⟨hk0,c1,f1,h4,h5,h6,h7,h8,fun k j r x hk hx=>?_⟩⟩
    obtain ⟨v,hv1,hv2⟩:=h9 k j r x hk hx
    refine ⟨v,hv1,hv2.tr ht (fun hr id' hmi=>hbl id' (fun e=>?_))⟩
    subst e
    rw [hu.2 id o1 h1 hr r (f7 hk) x (f7 hx)] at hmi
    cases hmi
 ·by_cases hj:id=i
  ·subst hj;rw [bh] at h3;cases h3
  ·by_cases hj':id'=i
   ·subst hj';rw [bh] at h4;cases h4
   ·rw [bB _ _ hj] at h1 h3
    rw [bB _ _ hj'] at h2 h4
    exact s.heap.2 _ _ _ _ _ h1 h2 h3 h4
 ·by_cases hj:id=i
  ·subst hj;rw [bh] at h2;cases h2
  ·rw [bB _ _ hj] at h1 h2
   exact s.own id o1 b h1 h2
 ·rw [hbl id (by omega)]
  exact s.stab id h1 h2
theorem aB.writeF (s:aB c bl g h a w) {i b:Nat} {o o':ac} {c1 c2:Array Value} {fr fr2:Nat×Nat} (hi:h i=some o) (hb:bl i=some b)
  (h1:w.heap[b]? = some (.cells c1 o.t fr)) (h2:w'.heap[b]? = some (.cells c2 o.t fr2)) (uf:dY c2 fr2) (hsz:c2.size=c1.size) (hsize:w'.heap.size=w.heap.size)
  (hother:∀b',b'≠b→w'.heap[b']? = w.heap[b']?) (hos:w'.os=w.os) (hout:w'.output=w.output) (ht':o'.t=o.t)
  (hc:zd bl (aT bl c.MF h) w o' c2) (hkc:o'.k=o.k:=by rfl):aB c bl g (cJ h i (some o')) a w':=by
 have hm:∀b,aT bl c.MF (cJ h i (some o')) b↔aT bl c.MF h b:=aT.congr (fun j=>by
  by_cases hj:j=i
  ·subst hj;simp [bh,hi]
  ·rw [bB _ _ hj])
 have hmb:aT bl c.MF h b:=.inr ⟨i,o,hi,hb⟩
 have hshape:∀(b':Nat) (c0:Array Value) (t:TypeId) (f0:Nat×Nat),w.heap[b']? = some (.cells c0 t f0)→∃(c':Array Value) (f1:Nat×Nat),w'.heap[b']? = some (.cells c' t f1)∧c'.size=c0.size:=by
  intro b' c0 t f0 hb'
  by_cases hbb:b'=b
  ·subst hbb
   rw [h1] at hb'
   cases hb'
   exact ⟨c2,fr2,h2,hsz⟩
  ·exact ⟨c0,f0,by rw [hother b' hbb];exact hb',rfl⟩
 have ht:Tr (aT bl c.MF h) (aT bl c.MF (cJ h i (some o'))) w w' :=
  ⟨fun b' hb' _=>⟨fun hmm=>hb' ((hm b').1 hmm),hother b' (fun e=>hb' (e▸hmb))⟩,hshape⟩
 refine ⟨s.defers,s.size,fun k=>(s.env k).tr ht (fun _ _=>rfl),⟨fun id o1 h3=>?_,fun id id' o1 o2 b' h3 h4=>?_⟩,?_,fun id o1 b' h3=>?_,s.stab,s.mf⟩
 ·by_cases hj:id=i
  ·subst hj
   rw [bh] at h3
   cases h3
   have hcell:o.k=Kd.cells∧¬c.MF b:=by
    rcases s.heap.1 id o hi with hn | ⟨b',hb',⟨hk0,c0,f0,g4,g5,g6,_⟩ | hsp⟩
    ·rw [hn.2.2] at hb;cases hb
    ·rw [hb] at hb'
     cases hb'
     exact ⟨hk0,g6⟩
    ·rw [hb] at hb'
     cases hb'
     refine ⟨?_,hsp.free⟩
     have hr:=hsp.rel
     cases hkk:o.k with
     | cells=>rfl
     | it s pos=>rw [hkk] at hr;have:=hr.symm.trans h1;cases this
     | mp es=>rw [hkk] at hr;obtain ⟨es',hr,_⟩:=hr;rw [h1] at hr;cases hr
   refine .inr ⟨b,hb,.inl ⟨hkc.trans hcell.1,c2,fr2,by rw [ht'];exact h2,uf,hcell.2,hc.1,hc.2.1,fun k j r x hk hx=>?_⟩⟩
   obtain ⟨v,hv1,hv2⟩:=hc.2.2 k j r x hk hx
   exact ⟨v,hv1,hv2.tr ht (fun _ _ _=>rfl)⟩
  ·rw [bB _ _ hj] at h3
   rcases s.heap.1 id o1 h3 with g3 | ⟨b',g3,⟨hk0,c0,f0,g4,g5,g6,g7,g8,g9⟩ | hsp⟩
   ·exact .inl g3
   rotate_left
   ·have hbb:b'≠b:=fun e=>hj (s.heap.2 id i o1 o b h3 hi (e▸g3) hb)
    exact .inr ⟨b',g3,.inr (hsp.tr (hother b' hbb))⟩
   ·have hbb:b'≠b:=fun e=>hj (s.heap.2 id i o1 o b h3 hi (e▸g3) hb)
    refine .inr ⟨b',g3,.inl ⟨hk0,c0,f0,by rw [hother b' hbb];exact g4,g5,g6,g7,g8,fun k j r x hk hx=>?_⟩⟩
    obtain ⟨v,hv1,hv2⟩:=g9 k j r x hk hx
    exact ⟨v,hv1,hv2.tr ht (fun _ _ _=>rfl)⟩
 ·have key:∀{j oj},cJ h i (some o') j=some oj→∃o0,h j=some o0:=fun {j oj} hj=>by
   by_cases hji:j=i
   ·subst hji;exact ⟨o,hi⟩
   ·rw [bB _ _ hji] at hj;exact ⟨oj,hj⟩
  obtain ⟨p,hp⟩:=key h3
  obtain ⟨q,hq⟩:=key h4
  exact s.heap.2 id id' p q b' hp hq
 ·refine s.step.trans (X:=fun b'=>b'=b) ⟨Nat.le_of_eq hsize.symm,fun b' _ hb'=>hother b' hb',hshape,hos,hout⟩ (fun b' hlt hb'=>?_)
  subst hb'
  rcases s.own i o b' hi hb with h5 | h5
  ·exact absurd hlt (Nat.not_lt.2 h5)
  ·exact h5
 ·by_cases hj:id=i
  ·subst hj;exact s.own id o b' hi
  ·rw [bB _ _ hj] at h3;exact s.own id o1 b' h3
theorem aB.write (s:aB c bl g h a w) {i b:Nat} {o o':ac} {c1 c2:Array Value} {fr:Nat×Nat} (hi:h i=some o) (hb:bl i=some b)
  (h1:w.heap[b]? = some (.cells c1 o.t fr)) (h2:w'.heap[b]? = some (.cells c2 o.t fr)) (hsz:c2.size=c1.size) (hsize:w'.heap.size=w.heap.size)
  (hother:∀b',b'≠b→w'.heap[b']? = w.heap[b']?) (hos:w'.os=w.os) (hout:w'.output=w.output) (ht':o'.t=o.t)
  (hc:zd bl (aT bl c.MF h) w o' c2) (hkc:o'.k=o.k:=by rfl):aB c bl g (cJ h i (some o')) a w':=by
 refine s.writeF hi hb h1 h2 ?_ hsz hsize hother hos hout ht' hc hkc
 rcases s.heap.1 i o hi with hn | ⟨b',hb',⟨_,c0,f0,g4,g5,_⟩ | hsp⟩
 ·rw [hn.2.2] at hb;cases hb
 rotate_left
 ·rw [hb] at hb'
  cases hb'
  exfalso
  have hr:=hsp.rel
  cases hkk:o.k with
  | cells=>rw [hkk] at hr;exact hr
  | it s pos=>rw [hkk] at hr;have:=hr.symm.trans h1;cases this
  | mp es=>rw [hkk] at hr;obtain ⟨es',hr,_⟩:=hr;rw [h1] at hr;cases hr
 ·rw [hb] at hb'
  cases hb'
  rw [h1] at g4
  cases g4
  unfold dY at g5 ⊢
  rw [hsz]
  exact g5
def iZ (i:Nat) (o:ac) (x:AV):AV :=
 match x with
 | .ms id st off len=>if id=i then (if st=o.st∧off+len≤o.rows.length then .sl st ((o.rows.drop off).take len) else .any) else x
 | .mp id st row off=>if id=i then (if st=o.st then (match o.rows[row]? with | some r=>.ip (r.drop off) | none=>.any) else .any) else x
 | .mm id k=>if id=i then (match k,o.k with | true,.mp es=>.fm es | _,_=>.any) else x
 | x=>x
def lF (i:Nat) (o:ac) (x:AV):AV :=
 match x with
 | .fn f caps=>.fn f (caps.map (iZ i o))
 | x=>iZ i o x
def rf (i:Nat) (o:ac) (x:AV):AV :=
 match x with
 | .agg cells=>.agg (cells.map (lF i o))
 | x=>lF i o x
def kJ (i:Nat) (o:ac) (x:AV):AV :=
 match x with
 | .tup vs=>.tup (vs.map (rf i o))
 | x=>rf i o x
def fb (i:Nat) (o:ac) (o1:ac):ac:=if o1.isRec then { o1 with rows:=o1.rows.map (fun r=>r.map (lF i o)) } else o1
theorem aC.mapRight {α β:Type} {R R':α→β→Prop} {f:β→β}:∀{l:List α} {m:List β},aC R l m→(∀a b,R a b→R' a (f b))→aC R' l (m.map f)
 | [],[],_,_=>trivial
 | _ :: _,_ :: _,h,hf=>⟨hf _ _ h.1,h.2.mapRight hf⟩
 | [],_ :: _,h,_=>h.elim
 | _ :: _,[],h,_=>h.elim
theorem oz {M M':Nat→Prop} {MF:Nat→Prop} {i b:Nat} {o:ac} {v:Value} {x:AV} (ht:Tr M M' w w) (hM':¬M' b) (hO:(o.rows=[]∧bl i=none)∨(bl i=some b∧gN bl M MF w o b)) (hrec:o.isRec=false)
  (hx:cO bl M w v x):cO bl M' w v (iZ i o x):=by
 have same:cO bl M' w v x:=hx.tr ht (fun _ _=>rfl)
 cases x<;>try exact same
 case ms id st off len =>
  simp only [iZ]
  split
  case isFalse=>exact same
  rename_i hid
  subst hid
  have hone:=cO.one hx
  split
  case isFalse=>exact IRel.any v hone
  rename_i hcond
  obtain ⟨rfl,hlen⟩:=hcond
  simp only [cO] at hx
  rcases hx with ⟨rfl,rfl,rfl⟩ | ⟨rfl,_,a1,cap,rfl⟩ | ⟨b',cap,c,t,fr,h1,rfl,h3,h4,h5⟩
  ·simp only [dN];exact IRel.nls _
  ·simp only [dN]
   show IRel M' w _ _
   exact IRel.sl0 _ a1 cap
  ·rcases hO with hO | ⟨hb,⟨_,c1,f1,g2,g3,g4,g5,g6,g7⟩ | hsp⟩
   ·rw [hO.2] at h1;cases h1
   rotate_left
   ·rw [hb] at h1;cases h1;exact (hsp.ne h4).elim
   ·rw [hb] at h1
    cases h1
    have hlen':((o.rows.drop off).take len).length=len:=by simp;omega
    have key:=IRel.sl (M:=M') (w:=w) b (off * o.st) cap o.st c1 o.t f1 ((o.rows.drop off).take len) (fun k j=>(c1[off * o.st+k * o.st+j]?).getD default) g2 hM' (by omega)
     (fun k r hk=>by
      have:o.rows[off+k]? = some r:=by
       rw [List.getElem?_take] at hk
       split at hk
       ·simpa using hk
       ·cases hk
      exact g5 _ _ this)
     (fun k j hk hj=>by
      have hk':off+k<o.rows.length:=by omega
      have e1:o.rows[off+k]? = some o.rows[off+k]:=eJ hk'
      have hl:=g5 _ _ e1
      have e2:(o.rows[off+k])[j]? = some (o.rows[off+k])[j]:=eJ (by omega)
      obtain ⟨u,hu,_⟩:=g7 _ _ _ _ e1 e2
      have e3:off * o.st+k * o.st+j=(off+k) * o.st+j:=by rw [fJ]
      rw [e3,hu];rfl)
     (fun k j r x hk hx=>by
      have hk':o.rows[off+k]? = some r:=by
       rw [List.getElem?_take] at hk
       split at hk
       ·simpa using hk
       ·cases hk
      obtain ⟨u,hu,hr⟩:=g7 _ _ _ _ hk' hx
      have e3:off * o.st+k * o.st+j=(off+k) * o.st+j:=by rw [fJ]
      simp only [e3,hu,Option.getD_some]
      rw [hrec] at hr
      exact IRel.tr hr ht.keep)
    rw [hlen'] at key
    exact key
 case mm id k =>
  simp only [iZ]
  split
  case isFalse=>exact same
  rename_i hid
  subst hid
  split
  case h_2=>exact IRel.any v (cO.one hx)
  rename_i es hk
  simp only [cO,cX] at hx
  obtain ⟨b',h1,rfl⟩:=hx
  rcases hO with hO | ⟨hb,⟨hc,_⟩ | hsp⟩
  ·rw [hO.2] at h1;cases h1
  ·rw [hk] at hc;cases hc
  ·rw [hb] at h1
   cases h1
   have hr:=hsp.rel
   rw [hk] at hr
   obtain ⟨es',q1,q2,q3⟩:=hr
   exact IRel.fm b es' es q1 hM' q2 q3
 case mp id st row off =>
  simp only [iZ]
  split
  case isFalse=>exact same
  rename_i hid
  subst hid
  have hone:=cO.one hx
  split
  case isFalse=>exact IRel.any v hone
  rename_i hst
  subst hst
  split
  case h_2=>exact IRel.any v hone
  rename_i r hr
  simp only [cO] at hx
  obtain ⟨b',h1,rfl⟩:=hx
  rcases hO with hO | ⟨hb,⟨_,c1,f1,g2,g3,g4,g5,g6,g7⟩ | hsp⟩
  ·rw [hO.2] at h1;cases h1
  rotate_left
  ·exact (hsp.no hr).elim
  ·rw [hb] at h1
   cases h1
   have cell:∀(j:Nat) (x:AV),(r.drop off)[j]? = some x→∃u,c1[row * o.st+off+j]? = some u∧IRel M' w u x:=fun j x hx=>by
    rw [List.getElem?_drop] at hx
    obtain ⟨u,hu,hr'⟩:=g7 _ _ _ _ hr hx
    rw [hrec] at hr'
    exact ⟨u,by rw [← hu];congr 1;omega,IRel.tr hr' ht.keep⟩
   exact IRel.ip b (row * o.st+off) c1 o.t f1 (r.drop off) (fun j=>(c1[row * o.st+off+j]?).getD default) g2 hM'
    (fun j hj=>by
     obtain ⟨u,hu,_⟩:=cell j _ (eJ hj)
     rw [hu];rfl)
    (fun j x hx=>by
     obtain ⟨u,hu,hr'⟩:=cell j x hx
     simp only [hu,Option.getD_some]
     exact hr')
end
inductive IV where
 | s (k:Nat)
 | c (x:AV)
 deriving Inhabited
inductive LK where
 | b
 | i
 | s
 deriving Inhabited
inductive KK where
 | i
 | s
 | b
 deriving Inhabited
inductive MK where
 | rng
 | nxt
 | mkm
 | mln
 | mlk (ok:Bool) (kd:KK) (z:AV)
 | mup (kd:KK)
 | mnt (kd:KK) (z:AV)
 | mst
 deriving Inhabited
inductive fK where
 | mov (x:IV)
 | pick (c a b:IV)
 | new (t:TypeId) (cells:List AV)
 | box (t:TypeId) (n:Nat) (x:IV)
 | build (cells:List AV) (parts:List (Nat×Nat×IV))
 | bsl (t:TypeId) (st:Nat) (rows:List (List AV)) (parts:List (Nat×IV))
 | load (n:Option Nat) (p:IV)
 | store (n:Nat) (p x:IV)
 | fadr (off:Nat) (p:IV)
 | fld (off:Nat) (n:Option Nat) (x:IV)
 | iadr (st:Nat) (x i:IV)
 | aadr (st n:Nat) (x i:IV)
 | mnx (mx:Bool) (x y:IV)
 | cpy (st:Nat) (x y:IV)
 | cvm (x:IV)
 | sib (x y:IV)
 | mop (k:MK) (xs:List IV)
 | slc (st:Nat) (x:IV) (lo hi mx:Option IV)
 | len (x:IV)
 | app (t:TypeId) (st:Nat) (x y:IV)
 | slen (x:IV)
 | sslc (x:IV) (lo hi:Option IV)
 | apps (t:TypeId) (x y:IV)
 | bin (op:BinOp) (x y:IV)
 | bbin (op:BinOp) (x y:IV)
 | pbin (op:BinOp) (x y:IV)
 | sbin (op:BinOp) (ls:List LK) (x y:IV)
 | un (op:UnOp) (x:IV)
 | cvi (k:IntKind) (x:IV)
 | cvs (x:IV)
 | cvt (x:IV)
 | cvb (t:TypeId) (x:IV)
 | call (f:FuncId) (args:List IV)
 | callv (f:IV) (args:List IV)
 | ext (x:IV) (i:Nat)
 | nchk (x:IV)
 | mkf (f:FuncId) (caps:List IV)
 | sidx (x i:IV)
 | snl (neg:Bool) (x:IV)
 | mks (t:TypeId) (st:Nat) (zero:List AV) (len cap:IV)
 deriving Inhabited
structure aD where
 dst:Option Nat
 op:fK
 g:Option (Nat×Bool)
 deriving Inhabited
inductive aM where
 | no
 | put (i:Nat) (o:ac)
 | new (i:Nat) (o:ac)
 | reb (i:Nat) (o:ac)
 deriving Inhabited
def val (g:Nat→AV):IV→AV
 | .s k=>g k
 | .c x=>x
def dJ:AV→Option (List AV)
 | .agg cs=>some cs
 | .tup _=>none
 | .any=>none
 | x=>some [x]
def db:AV→Bool
 | .ms ..=>false
 | .mm ..=>false
 | .mp ..=>false
 | .fn ..=>false
 | .agg _=>false
 | .tup _=>false
 | _=>true
def dU (st:Nat) (h:Nat→Option ac):AV→Option (List (List AV))
 | .nl=>some []
 | .sl st' rows=>if st'=st then some rows else none
 | .ms id st' off len=>match h id with
  | some o=>if st'=st∧o.st=st∧o.isRec=false∧off+len≤o.rows.length then some ((o.rows.drop off).take len) else none
  | none=>none
 | _=>none
def iV (st:Nat) (h:Nat→Option ac):AV→Option (List (List AV))
 | .ms id st' off len=>match h id with
  | some o=>if st'=st∧o.st=st∧off+len≤o.rows.length then some ((o.rows.drop off).take len) else none
  | none=>none
 | x=>dU st h x
def Ir:Option ac→Bool
 | some o=>o.isRec
 | none=>false
def lT (h:Nat→Option ac):AV→Bool
 | .ms id _ _ _=>Ir (h id)
 | _=>false
theorem wu {st:Nat} {h:Nat→Option ac} {x:AV} {rows:List (List AV)} (hr:dU st h x=some rows):iV st h x=some rows∧lT h x=false:=by
 cases x<;>try exact ⟨hr,rfl⟩
 simp only [dU,iV,lT] at hr ⊢
 split at hr
 ·rename_i o ho
  split at hr
  ·rename_i hc
   exact ⟨by rw [bz ⟨hc.1,hc.2.1,hc.2.2.2⟩];exact hr,by rw [ho];exact hc.2.2.1⟩
  ·cases hr
 ·cases hr
def kW (i:Nat) (rows:List (List AV)):Bool:=rows.all fun r=>r.all fun x=>!mC i x
def EC:AV→Option (List (List AV))
 | .str s=>some (s.map fun b=>[.int .u8 b.toNat])
 | _=>none
def iF (n:Option Nat) (cells:List AV):Option AV :=
 match n with
 | none=>cells[0]?
 | some n=>if n≤cells.length then some (.agg (cells.take n)) else none
def f8 (n:Option Nat) (p:AV) (h:Nat→Option ac):Option AV :=
 match p with
 | .ip cells=>iF n cells
 | .mp id st row off=>match h id with
  | some o=>if o.st=st then (match o.rows[row]? with | some r=>iF n (r.drop off) | none=>none) else none
  | none=>none
 | _=>none
def cH (r:List AV) (off:Nat) (cs:List AV):List AV:=r.take off++cs++r.drop (off+cs.length)
def fD (n:Nat) (p x:AV) (h:Nat→Option ac):Option aM :=
 match p,dJ x with
 | .mp id st row off,some cs=>match h id with
  | some o=>if o.st=st∧cs.length=n∧(o.isRec||cs.all db)=true then (match o.rows[row]? with
   | some r=>if off+n≤r.length then some (.put id { o with rows:=o.rows.set row (cH r off cs) }) else none
   | none=>none) else none
  | none=>none
 | _,_=>none
def pZ (off:Nat) (p:AV):Option AV :=
 match p with
 | .ip cells=>some (.ip (cells.drop off))
 | .mp id st row o=>some (.mp id st row (o+off))
 | _=>none
def Ao (off:Nat) (n:Option Nat) (x:AV):Option AV :=
 match x with
 | .agg cells=>iF n (cells.drop off)
 | _=>none
def mO (st:Nat) (x i:AV):Option AV :=
 match x,i with
 | .sl st' rows,.int _ n=>if st'=st∧0≤n then (match rows[n.toNat]? with | some r=>some (.ip r) | none=>none) else none
 | .ms id st' off len,.int _ n=>if st'=st∧0≤n∧n<len then some (.mp id st (off+n.toNat) 0) else none
 | _,_=>none
def bJ (d:Nat) (x:Option AV):Option Nat :=
 match x with
 | none=>some d
 | some (.int _ n)=>if 0≤n then some n.toNat else none
 | _=>none
def fQ (st:Nat) (x:AV) (lo hi mx:Option AV):Option AV :=
 match x with
 | .sl st' rows=>match bJ 0 lo,bJ rows.length hi,bJ rows.length mx with
  | some l,some h,some m=>if st'=st∧l≤h∧h≤m∧m≤rows.length then some (.sl st ((rows.drop l).take (h - l))) else none
  | _,_,_=>none
 | .ms id st' off len=>match bJ 0 lo,bJ len hi,bJ len mx with
  | some l,some h,some m=>if st'=st∧l≤h∧h≤m∧m≤len∧mx=none then some (.ms id st (off+l) (h - l)) else none
  | _,_,_=>none
 | .nl=>match bJ 0 lo,bJ 0 hi,bJ 0 mx with
  | some l,some h,some m=>if l=0∧h=0∧m=0 then some .nl else none
  | _,_,_=>none
 | _=>none
def iQ (x:AV) (lo hi:Option AV):Option AV :=
 match x with
 | .str s=>match bJ 0 lo,bJ s.length hi with
  | some l,some h=>if l≤h∧h≤s.length then some (.str ((s.drop l).take (h - l))) else none
  | _,_=>none
 | _=>none
def sj:AV→Option AV
 | .sl _ rows=>some (.int .i64 rows.length)
 | .ms _ _ _ len=>some (.int .i64 len)
 | .nl=>some (.int .i64 0)
 | _=>none
def sC:AV→Option AV
 | .str s=>some (.int .i64 s.length)
 | _=>none
def iX (d:Nat) (t:TypeId) (st:Nat) (x:AV) (src:Option (List (List AV))) (h:Nat→Option ac):Option (AV×aM) :=
 match src with
 | none=>none
 | some ys=>if ys.length<137438953472 then (match x with
  | .nl=>some (.ms d st 0 ys.length,.new d ⟨t,st,ys,false⟩)
  | .ms id st' off len=>match h id with
   | some o=>if st'=st∧o.st=st∧o.t=t∧o.isRec=false∧off=0∧len≤o.rows.length∧len<137438953472∧(id<1000∨1267650600228229401496703205376≤id)∧o.k.flat=true then
     some (.ms id st 0 (len+ys.length),.reb id ⟨t,st,o.rows.take len++ys,false⟩) else none
   | none=>none
  | _=>none) else none
def jN (d:Nat) (t:TypeId) (st:Nat) (x:AV) (src:Option (List (List AV))) (h:Nat→Option ac):Option (AV×aM) :=
 match src with
 | none=>none
 | some ys=>if ys.length<137438953472∧0<ys.length then (match x with
  | .nl=>some (.ms d st 0 ys.length,.new d ⟨t,st,ys,true⟩)
  | .ms id st' off len=>match h id with
   | some o=>if st'=st∧o.st=st∧o.t=t∧off=0∧len≤o.rows.length∧len<137438953472∧(id<1000∨1267650600228229401496703205376≤id)∧o.k.flat=true∧kW id (o.rows.take len++ys)=true then
     some (.ms id st 0 (len+ys.length),.reb id ⟨t,st,o.rows.take len++ys,true⟩) else none
   | none=>none
  | _=>none) else none
def vH (op:BinOp) (k:IntKind) (a b:Int):Option Int :=
 match op with
 | .and=>some (k.wrap ((BitVec.ofInt k.bits a &&& BitVec.ofInt k.bits b).toNat))
 | .or=>some (k.wrap ((BitVec.ofInt k.bits a ||| BitVec.ofInt k.bits b).toNat))
 | .xor=>some (k.wrap ((BitVec.ofInt k.bits a ^^^ BitVec.ofInt k.bits b).toNat))
 | .andNot=>some (k.wrap ((BitVec.ofInt k.bits a &&& ~~~ (BitVec.ofInt k.bits b)).toNat))
 | _=>none
def Ob (op:BinOp) (k:IntKind) (a b:Int):Option AV :=
 match op with
 | .add=>some (.int k (k.wrap (a+b)))
 | .sub=>some (.int k (k.wrap (a - b)))
 | .mul=>some (.int k (k.wrap (a * b)))
 | .quo=>if b=0 then none else some (.int k (k.wrap (a.tdiv b)))
 | .rem=>if b=0 then none else some (.int k (a.tmod b))
 | .eql=>some (.bool (a==b))
 | .neq=>some (.bool (a != b))
 | .lss=>some (.bool (decide (a<b)))
 | .leq=>some (.bool (decide (a≤b)))
 | .gtr=>some (.bool (decide (a>b)))
 | .geq=>some (.bool (decide (a≥b)))
 | op=>(vH op k a b).map (.int k)
def Od (op:BinOp) (a b:List UInt8):Option AV :=
 match op with
 | .add=>if a.length+b.length<4611686018427387904 then some (.str (a++b)) else none
 | .eql=>some (.bool (a==b))
 | .neq=>some (.bool (!(a==b)))
 | .lss=>some (.bool (Op.bytesLess a b))
 | .leq=>some (.bool (Op.bytesLess a b||a==b))
 | .gtr=>some (.bool (!(Op.bytesLess a b||a==b)))
 | .geq=>some (.bool (!(Op.bytesLess a b)))
 | _=>none
def fu (op:BinOp) (x y:AV):Option AV :=
 match op,x,y with
 | .shl,.int k a,.int _ b=>if b<0 then none else some (.int k (k.wrap (a * 2 ^ (min b.toNat k.bits))))
 | .shr,.int k a,.int _ b=>if b<0 then none else some (.int k (a.fdiv (2 ^ (min b.toNat k.bits))))
 | op,.int k a,.int k' b=>if k=k' then Ob op k a b else none
 | op,.str a,.str b=>Od op a b
 | _,_,_=>none
def pY (op:BinOp) (x y:AV):Option AV :=
 match op,x,y with
 | .eql,.bool a,.bool b=>some (.bool (a==b))
 | .neq,.bool a,.bool b=>some (.bool (!(a==b)))
 | _,_,_=>none
def pX (st n:Nat) (x i:AV):Option AV :=
 match x,i with
 | .ip cells,.int _ j=>if 0≤j∧j<n then some (.ip (cells.drop (j.toNat * st))) else none
 | .mp id s row off,.int _ j=>if 0≤j∧j<n then some (.mp id s row (off+j.toNat * st)) else none
 | _,_=>none
def sq (mx:Bool) (x y:AV):Option AV :=
 match x,y with
 | .int k n,.int k' m=>if k=k' then some (.int k (if mx then (if n<m then m else n) else (if m<n then m else n))) else none
 | _,_=>none
def nh (st:Nat) (x:AV) (src:Option (List (List AV))) (h:Nat→Option ac):Option (AV×aM) :=
 match src with
 | none=>none
 | some ys=>match x with
  | .ms id st' off len=>match h id with
   | some o=>if st'=st∧o.st=st∧o.isRec=false∧off+len≤o.rows.length then
     (if ys.length≤len then some (.int .i64 ys.length,.put id { o with rows:=o.rows.take off++ys++o.rows.drop (off+ys.length) })
     else some (.int .i64 len,.put id { o with rows:=o.rows.take off++ys.take len++o.rows.drop (off+len) })) else none
   | none=>none
  | _=>none
theorem nY {st:Nat} {x:AV} {src:Option (List (List AV))} {h:Nat→Option ac} {v:AV} {e:aM} (hq:nh st x src h=some (v,e)):∃i o,e = .put i o:=by
 unfold nh at hq
 repeat' (split at hq)
 all_goals first | (cases hq;done) | (cases hq;exact ⟨_,_,rfl⟩)
def qQ (x:AV) (h:Nat→Option ac):Option (AV×aM) :=
 match x with
 | .ms id st off len=>match h id with
  | some o=>if st=1∧o.st=1∧o.isRec=false∧0<len then some (.ms id st off len,.put id o) else none
  | none=>none
 | _=>none
theorem i5 {x:AV} {h:Nat→Option ac} {v:AV} {e:aM} (hq:qQ x h=some (v,e)):∃id st off len o,x = .ms id st off len∧h id=some o∧st=1∧o.st=1∧o.isRec=false∧0<len∧v = .ms id st off len∧e = .put id o:=by
 unfold qQ at hq
 split at hq
 case h_2=>cases hq
 rename_i id st off len
 split at hq
 case h_2=>cases hq
 rename_i o ho
 split at hq
 case isFalse=>cases hq
 rename_i hc
 cases hq
 exact ⟨id,st,off,len,o,rfl,ho,hc.1,hc.2.1,hc.2.2.1,hc.2.2.2,rfl,rfl⟩
def IN (s:List UInt8) (c:UInt8):Int:=firstIdx ⟨s.toArray⟩ c
def AG (x y:AV):Option AV :=
 match x,y with
 | .str s,.int .u8 n=>some (.int .i64 (IN s n.toNat.toUInt8))
 | _,_=>none
def CI:AV→Option Bool
 | .np=>some true
 | .mp ..=>some false
 | .ip _=>some false
 | _=>none
def jO (op:BinOp) (x y:AV):Option AV :=
 match op,CI x,y with
 | .eql,some b,.np=>some (.bool b)
 | .neq,some b,.np=>some (.bool (!b))
 | _,_,_=>none
def fF (l:LK) (x y:AV):Option Bool :=
 match l,x,y with
 | .b,.bool p,.bool q=>some (p==q)
 | .i,.int k p,.int k' q=>if k=k' then some (p==q) else none
 | .s,.str p,.str q=>some (p==q)
 | _,_,_=>none
def fC:List LK→List AV→List AV→Option Bool
 | [],[],[]=>some true
 | l :: ls,x :: xs,y :: ys=>match fF l x y,fC ls xs ys with
  | some p,some q=>some (p&&q)
  | _,_=>none
 | _,_,_=>none
def iP (op:BinOp) (ls:List LK) (x y:AV):Option AV :=
 match op,ls,x,y with
 | .eql,l :: ls,.agg xs,.agg ys=>(fC (l :: ls) xs ys).map .bool
 | .neq,l :: ls,.agg xs,.agg ys=>(fC (l :: ls) xs ys).map fun b=>.bool (!b)
 | .eql,[],.fn _ _,.nf=>some (.bool false)
 | .neq,[],.fn _ _,.nf=>some (.bool true)
 | .eql,[],.nf,.nf=>some (.bool true)
 | .neq,[],.nf,.nf=>some (.bool false)
 | _,_,_,_=>none
def NP (op:UnOp) (x:AV):Option AV :=
 match op,x with
 | .neg,.int k n=>some (.int k (k.wrap (0 - n)))
 | .xor,.int k n=>(vH .xor k (if k.signed then -1 else k.max) n).map (.int k)
 | .not,.bool b=>some (.bool (!b))
 | _,_=>none
def fY (ρ:IV→AV):List AV→List (Nat×Nat×IV)→Option (List AV)
 | cells,[]=>some cells
 | cells,(off,n,v) :: rest=>match dJ (ρ v) with
  | some cs=>if cs.length=n∧off+n≤cells.length then fY ρ (cH cells off cs) rest else none
  | none=>none
def gY (ρ:IV→AV) (st:Nat):List (List AV)→List (Nat×IV)→Option (List (List AV))
 | rows,[]=>some rows
 | rows,(i,v) :: rest=>match dJ (ρ v) with
  | some cs=>if cs.length=st∧i<rows.length∧cs.all db=true then gY ρ st (rows.set i cs) rest else none
  | none=>none
def eQ (ρ:IV→AV) (st:Nat):List (List AV)→List (Nat×IV)→Option (List (List AV))
 | rows,[]=>some rows
 | rows,(i,v) :: rest=>match dJ (ρ v) with
  | some cs=>if cs.length=st∧i<rows.length then eQ ρ st (rows.set i cs) rest else none
  | none=>none
theorem vI {ρ:IV→AV} {st:Nat}:∀{ps:List (Nat×IV)} {rows out:List (List AV)},gY ρ st rows ps=some out→eQ ρ st rows ps=some out∧((∀r∈rows,∀x∈r,db x=true)→∀r∈out,∀x∈r,db x=true)
 | [],rows,out,h=>by cases h;exact ⟨rfl,_root_.id⟩
 | (i,v) :: r,rows,out,h=>by
  simp only [gY,eQ] at h ⊢
  split at h
  ·rename_i cs _
   split at h
   ·rename_i hc
    rw [bz ⟨hc.1,hc.2.1⟩]
    obtain ⟨h1,h2⟩:=vI h
    refine ⟨h1,fun hr=>h2 fun q hq x hx=>?_⟩
    rcases List.mem_or_eq_of_mem_set hq with hq | rfl
    ·exact hr q hq x hx
    ·exact cZ.1 hc.2.2 x hx
   ·cases h
  ·cases h
theorem n8 {ρ:IV→AV} {st:Nat}:∀{ps:List (Nat×IV)} {rows out:List (List AV)},eQ ρ st rows ps=some out→out.length=rows.length
 | [],rows,out,h=>by cases h;rfl
 | (i,v) :: r,rows,out,h=>by
  simp only [eQ] at h
  split at h
  ·split at h
   ·rw [n8 h,List.length_set]
   ·cases h
  ·cases h
def gr:List (List AV)→Option (List UInt8)
 | []=>some []
 | [.int .u8 n] :: r=>(gr r).map ((UInt8.ofNat n.toNat) :: ·)
 | _=>none
def A_:AV→Bool
 | .any=>false
 | .fn ..=>false
 | .agg _=>false
 | .tup _=>false
 | _=>true
def wy:KK→AV→AV→Option Bool
 | .i,.int k a,.int k' b=>if k=k' then some (a==b) else none
 | .s,.str a,.str b=>some (a==b)
 | .b,.bool a,.bool b=>some (a==b)
 | _,_,_=>none
def gF (kd:KK) (key:AV):List (AV×AV)→Option (Option Nat)
 | []=>some none
 | e :: r=>match wy kd key e.1 with
  | some true=>some (some 0)
  | some false=>(gF kd key r).map fun q=>q.map (· + 1)
  | none=>none
def ig:AV→Bool
 | .bool _=>true
 | .int _ _=>true
 | .str _=>true
 | _=>false
def DX (kd:KK) (key x:AV) (es:List (AV×AV)):Option (List (AV×AV)) :=
 match gF kd key es with
 | some (some i)=>some (es.modify i fun _=>(key,x))
 | some none=>some (es++[(key,x)])
 | none=>none
def Nl (o:ac):Option (List UInt8×Nat) :=
 match o.k with
 | .it s pos=>some (s,pos)
 | _=>none
def kG (o:ac):Option (List (AV×AV)) :=
 match o.k with
 | .mp es=>some es
 | _=>none
def qR (id:Nat) (o:ac):Option (AV×aM) :=
 match Nl o with
 | some (s,pos)=>if pos<s.length then
   some (.tup [.bool true,.int .i64 pos,.int .i32 (Utf8.decode ⟨s.toArray⟩ pos).1],.put id { o with k:=.it s (pos+(Utf8.decode ⟨s.toArray⟩ pos).2) })
  else some (.tup [.bool false],.no)
 | none=>none
def j3 (ok:Bool) (kd:KK) (z key:AV) (o:ac):Option (AV×aM) :=
 match kG o with
 | some es=>match gF kd key es with
  | some (some i)=>match es[i]? with
   | some e=>some (if ok then .tup [e.2,.bool true] else e.2,.no)
   | none=>none
  | some none=>some (if ok then .tup [z,.bool false] else z,.no)
  | none=>none
 | none=>none
def nZ (id:Nat) (kd:KK) (key x:AV) (o:ac):Option (AV×aM) :=
 match kG o with
 | some es=>if (ig key&&ig x)=true then (DX kd key x es).map fun es'=>(.any,.put id { o with k:=.mp es' }) else none
 | none=>none
def sn (id:Nat) (kd:KK) (z key:AV) (o:ac):Option (AV×aM) :=
 match kG o with
 | some es=>if ig key=true then (match gF kd key es with
  | some (some i)=>match es[i]? with
   | some e=>some (.tup [e.2,.int .i64 i],.put id o)
   | none=>none
  | some none=>some (.tup [z,.int .i64 es.length],.put id { o with k:=.mp (es++[(key,z)]) })
  | none=>none) else none
 | none=>none
def wW (id:Nat) (n:Int) (x:AV) (o:ac):Option (AV×aM) :=
 match kG o with
 | some es=>if 0≤n∧n<es.length∧ig x=true then some (.any,.put id { o with k:=.mp (es.modify n.toNat fun e=>(e.1,x)) }) else none
 | none=>none
def e_ (d:Nat) (k:MK) (xs:List AV) (h:Nat→Option ac):Option (AV×aM) :=
 match k,xs with
 | .rng,[.str s]=>some (.mm d false,.new d (@ac.mk 0 0 [] false (.it s 0)))
 | .nxt,[.mm id false]=>(h id).bind (qR id)
 | .mkm,[]=>some (.mm d true,.new d (@ac.mk 0 0 [] false (.mp [])))
 | .mln,[.mm id true]=>(h id).bind fun o=>(kG o).map fun es=>(.int .i64 es.length,.no)
 | .mlk ok kd z,[.mm id true,key]=>(h id).bind (j3 ok kd z key)
 | .mlk ok kd z,[.fm es,key]=>j3 ok kd z key (@ac.mk 0 0 [] false (.mp es))
 | .mup kd,[.mm id true,key,x]=>(h id).bind (nZ id kd key x)
 | .mnt kd z,[.mm id true,key]=>(h id).bind (sn id kd z key)
 | .mst,[.mm id true,.int .i64 n,x]=>(h id).bind (wW id n x)
 | _,_=>none
theorem kz {d:Nat} {k:MK} {xs:List AV} {h:Nat→Option ac} {v:AV} {e:aM} (hq:e_ d k xs h=some (v,e)) :
  e = .no∨(∃o,e = .new d o∧(k = .rng∨k = .mkm))∨∃id b r o,xs = .mm id b :: r∧e = .put id o:=by
 unfold e_ at hq
 split at hq
 ·cases hq;exact .inr (.inl ⟨_,rfl,.inl rfl⟩)
 ·simp only [jx] at hq
  obtain ⟨o,_,h2⟩:=hq
  unfold qR at h2
  split at h2
  ·split at h2
   ·cases h2;exact .inr (.inr ⟨_,_,_,_,rfl,rfl⟩)
   ·cases h2;exact .inl rfl
  ·cases h2
 ·cases hq;exact .inr (.inl ⟨_,rfl,.inr rfl⟩)
 ·simp only [jx,cj] at hq
  obtain ⟨o,_,es,_,h2⟩:=hq
  cases h2;exact .inl rfl
 ·simp only [jx] at hq
  obtain ⟨o,_,h2⟩:=hq
  unfold j3 at h2
  repeat' (split at h2)
  all_goals first | (cases h2;done) | (cases h2;exact .inl rfl)
 ·unfold j3 at hq
  repeat' (split at hq)
  all_goals first | (cases hq;done) | (cases hq;exact .inl rfl)
 ·simp only [jx] at hq
  obtain ⟨o,_,h2⟩:=hq
  unfold nZ at h2
  split at h2
  ·split at h2
   ·simp only [cj] at h2
    obtain ⟨es',_,h2⟩:=h2
    cases h2;exact .inr (.inr ⟨_,_,_,_,rfl,rfl⟩)
   ·cases h2
  ·cases h2
 ·simp only [jx] at hq
  obtain ⟨o,_,h2⟩:=hq
  unfold sn at h2
  repeat' (split at h2)
  all_goals first | (cases h2;done) | (cases h2;exact .inr (.inr ⟨_,_,_,_,rfl,rfl⟩))
 ·simp only [jx] at hq
  obtain ⟨o,_,h2⟩:=hq
  unfold wW at h2
  repeat' (split at h2)
  all_goals first | (cases h2;done) | (cases h2;exact .inr (.inr ⟨_,_,_,_,rfl,rfl⟩))
 ·cases hq
def ui (d:Nat) (t:TypeId) (st:Nat) (x:Option (List (List AV))):Option (AV×aM) :=
 match x with
 | some rs=>some (.ms d st 0 rs.length,.new d ⟨t,st,rs,false⟩)
 | none=>none
def A6 (d:Nat) (t:TypeId) (st:Nat) (x:Option (List (List AV))):Option (AV×aM) :=
 match x with
 | some rs=>if kW d rs=true then some (.ms d st 0 rs.length,.new d ⟨t,st,rs,true⟩) else none
 | none=>none
def qW (d:Nat) (t:TypeId) (st:Nat) (x y:Option (List (List AV))):Option (AV×aM) :=
 match x with
 | some rs=>some (.ms d st 0 rs.length,.new d ⟨t,st,rs,false⟩)
 | none=>A6 d t st y
theorem kA {d:Nat} {t:TypeId} {st:Nat} {x y:Option (List (List AV))} {v:AV} {e:aM} (h:qW d t st x y=some (v,e)):∃o,e = .new d o:=by
 unfold qW A6 at h
 repeat' (split at h)
 all_goals first | (cases h;done) | (cases h;exact ⟨_,rfl⟩)
def ue (b:Bool):AV→Option AV
 | .nl=>some (.bool (!b))
 | .sl _ (_ :: _)=>some (.bool b)
 | .ms _ _ _ (_+1)=>some (.bool b)
 | _=>none
def res (x:Option AV):Option (AV×aM):=x.map fun v=>(v,.no)
def ba (d:Nat) (op:fK) (ρ:IV→AV) (h:Nat→Option ac):Option (AV×aM) :=
 match op with
 | .mov x=>some (ρ x,.no)
 | .pick c a b=>match ρ c with
  | .bool true=>some (ρ a,.no)
  | .bool false=>some (ρ b,.no)
  | _=>none
 | .new t cells=>some (.mp d cells.length 0 0,.new d ⟨t,cells.length,[cells],true⟩)
 | .box t n x=>match dJ (ρ x) with
  | some cs=>if cs.length=n∧(cs.all fun y=>!(mC d y))=true then some (.mp d n 0 0,.new d ⟨t,n,[cs],true⟩) else none
  | none=>none
 | .build cells parts=>res ((fY ρ cells parts).map .agg)
 | .bsl t st rows parts=>qW d t st (gY ρ st rows parts) (eQ ρ st rows parts)
 | .load n p=>res (f8 n (ρ p) h)
 | .store n p x=>(fD n (ρ p) (ρ x) h).map fun e=>(.any,e)
 | .fadr off p=>res (pZ off (ρ p))
 | .fld off n x=>res (Ao off n (ρ x))
 | .iadr st x i=>res (mO st (ρ x) (ρ i))
 | .aadr st n x i=>res (pX st n (ρ x) (ρ i))
 | .mnx m x y=>res (sq m (ρ x) (ρ y))
 | .cpy st x y=>nh st (ρ x) (dU st h (ρ y)) h
 | .sib x y=>res (AG (ρ x) (ρ y))
 | .cvm x=>qQ (ρ x) h
 | .mop k xs=>e_ d k (xs.map ρ) h
 | .slc st x lo hi mx=>res (fQ st (ρ x) (lo.map ρ) (hi.map ρ) (mx.map ρ))
 | .len x=>res (sj (ρ x))
 | .app t st x y=>iX d t st (ρ x) (dU st h (ρ y)) h
 | .apps t x y=>iX d t 1 (ρ x) (EC (ρ y)) h
 | .slen x=>res (sC (ρ x))
 | .sslc x lo hi=>res (iQ (ρ x) (lo.map ρ) (hi.map ρ))
 | .bin op x y=>res (fu op (ρ x) (ρ y))
 | .bbin op x y=>res (pY op (ρ x) (ρ y))
 | .pbin op x y=>res (jO op (ρ x) (ρ y))
 | .sbin op ls x y=>res (iP op ls (ρ x) (ρ y))
 | .un op x=>res (NP op (ρ x))
 | .cvi k x=>match ρ x with
  | .int _ n=>some (.int k (k.wrap n),.no)
  | _=>none
 | .cvs x=>match dU 1 h (ρ x) with
  | some rows=>res ((gr rows).map .str)
  | none=>none
 | .cvb t x=>match ρ x with
  | .str s=>if s.length<1073741824 then some (.ms d 1 0 s.length,.new d ⟨t,1,s.map fun b=>[.int .u8 b.toNat],false⟩) else none
  | _=>none
 | .ext x i=>match ρ x with
  | .tup vs=>res (vs[i]?)
  | _=>none
 | .nchk x=>match ρ x with
  | .mp id st row off=>some (.mp id st row off,.no)
  | .ip cells=>some (.ip cells,.no)
  | .fn f caps=>some (.fn f caps,.no)
  | _=>none
 | .mkf f caps=>if (caps.map ρ).all A_=true then some (.fn f (caps.map ρ),.no) else none
 | .cvt x=>match ρ x with
  | .str s=>some (.str s,.no)
  | _=>none
 | .sidx x i=>match ρ x,ρ i with
  | .str s,.int _ n=>if 0≤n then (match s[n.toNat]? with | some b=>some (.int .u8 b.toNat,.no) | none=>none) else none
  | _,_=>none
 | .mks t st zero l cp=>match ρ l,ρ cp with
  | .int .i64 n,.int .i64 m=>if 0≤n∧n≤m∧m<1073741824∧zero.length=st then some (.ms d st 0 n.toNat,.new d ⟨t,st,List.replicate n.toNat zero,false⟩) else none
  | _,_=>none
 | .snl b x=>res (ue b (ρ x))
 | .call ..=>none
 | .callv ..=>none
def oc:Value→Option AV
 | .bool b=>some (.bool b)
 | .int k n=>some (.int k n)
 | .string s=>some (.str s.data.toList)
 | .slice none 0 0=>some .nl
 | .pointer none=>some .np
 | .nilFunc=>some .nf
 | .map none=>some (.fm [])
 | _=>none
def fE:List Value→Option (List AV)
 | []=>some []
 | v :: r=>match oc v,fE r with
  | some x,some xs=>some (x :: xs)
  | _,_=>none
def uj:Value→Option AV
 | .agg cs=>(fE cs.toList).map .agg
 | v=>oc v
def cV:Operand→Option IV
 | .tmp t=>if t<1000000 then some (.s t) else none
 | .const v=>(uj v).map .c
 | .func f=>if f<4000000 then some (.c (.fn f [])) else none
 | .global g=>some (.s (1000000+g))
def A8:List Operand→Option (List IV)
 | []=>some []
 | v :: r=>match cV v,A8 r with
  | some x,some xs=>some (x :: xs)
  | _,_=>none
def jG:Option Operand→Option (Option IV)
 | none=>some none
 | some x=>(cV x).map some
def dX (P:Program) (t:TypeId):Option Nat:=(P.info? t).map (·.size)
def jK (P:Program) (t:TypeId):Option (Option Nat) :=
 match P.underlying t,P.info? t with
 | some (.struct _),some i=>some (some i.size)
 | some (.array _ _),some i=>some (some i.size)
 | some _,some _=>some none
 | _,_=>none
def gK (P:Program) (t:TypeId):Option (List AV) :=
 match P.info? t with
 | some i=>match i.zero with
  | some z=>fE z.cells.toList
  | none=>none
 | none=>none
def rS (P:Program) (fs:Array Field):Option (List (Nat×Nat)):=fs.toList.mapM (fun f=>(P.info? f.type).map fun i=>(f.offset,i.size))
def lA (places:List (Nat×Nat)):List (Nat×Operand)→Option (List (Nat×Nat×IV))
 | []=>some []
 | (i,x) :: r=>match places[i]?,cV x,lA places r with
  | some (off,n),some v,some l=>some ((off,n,v) :: l)
  | _,_,_=>none
def oe:List (Nat×Operand)→Option (List (Nat×IV))
 | []=>some []
 | (i,x) :: r=>match cV x,oe r with
  | some v,some l=>some ((i,v) :: l)
  | _,_=>none
def py (f:TypeId→Option (List LK)):List Field→Nat→Option (List LK)
 | [],_=>some []
 | fd :: r,off=>if fd.offset=off∧fd.name≠"_" then (match f fd.type with
  | some l=>(match py f r (off+l.length) with
   | some ls=>some (l++ls)
   | none=>none)
  | none=>none) else none
def jY (P:Program):Nat→TypeId→Option (List LK)
 | 0,_=>none
 | m+1,t=>match P.underlying t with
  | some .bool=>some [.b]
  | some (.int _)=>some [.i]
  | some .string=>some [.s]
  | some (.struct fs)=>if P.stoodInHeld t=true then none else (match py (jY P m) fs.toList 0 with
   | some ls=>if jK P t=some (some ls.length) then some ls else none
   | none=>none)
  | _=>none
def xk (P:Program) (t:TypeId) (op:BinOp) (x y:IV):Option fK :=
 match P.underlying t with
 | some .bool=>some (.bbin op x y)
 | some (.int _)=>some (.bin op x y)
 | some .string=>some (.bin op x y)
 | some (.pointer _)=>some (.pbin op x y)
 | some (.func _ _ _)=>some (.sbin op [] x y)
 | some (.struct _)=>if P.eqGuardType P.depth t=true then none else (match jY P 20 t with
  | some (l :: ls)=>some (.sbin op (l :: ls) x y)
  | _=>none)
 | some (.slice _)=>match op,y with
  | .eql,.c .nl=>some (.snl false x)
  | .neq,.c .nl=>some (.snl true x)
  | _,_=>none
 | _=>none
def p8 (P:Program) (src dst:TypeId) (x:IV):Option fK :=
 match P.underlying src,P.underlying dst with
 | some (.int _),some (.int k)=>some (.cvi k x)
 | some .string,some .string=>some (.cvt x)
 | some (.slice e),some .string=>match P.underlying e with
  | some (.int .u8)=>some (.cvs x)
  | _=>none
 | some .string,some (.slice e)=>match P.underlying e with
  | some (.int .u8)=>some (.cvb e x)
  | _=>none
 | some (.slice _),some (.slice e)=>match src==dst,P.underlying e with
  | true,some (.int .u8)=>some (.cvm x)
  | _,_=>none
 | _,_=>none
def aY (P:Program) (f:FuncId):Bool :=
 match P.funcs[f]? with
 | some fn=>fn.body.isSome&&fn.name != "runtime.NumGoroutine"
 | none=>false
def gZ (P:Program) (t:TypeId):Option (TypeId×Nat) :=
 match P.underlying t with
 | some (.slice e)=>match P.info? e,gK P e with
  | some i,some z=>if i.bytes≤512∧1≤i.bytes∧z.length=i.size∧1≤i.size then some (e,i.size) else none
  | _,_=>none
 | _=>none
def L8 (P:Program) (t:TypeId):Option KK :=
 match P.underlying t with
 | some (.int _)=>some .i
 | some .string=>some .s
 | some .bool=>some .b
 | _=>none
def wC (P:Program) (t:TypeId):Option AV :=
 match P.info? t with
 | some i=>match i.zero with
  | some (.bool b)=>some (.bool b)
  | some (.int k n)=>some (.int k n)
  | some (.string s)=>some (.str s.data.toList)
  | _=>none
 | none=>none
def nu (P:Program) (t:TypeId):Option (KK×AV) :=
 match P.underlying t with
 | some (.map k e)=>match L8 P k,wC P e with
  | some kd,some z=>some (kd,z)
  | _,_=>none
 | _=>none
def KI (P:Program) (f:FuncId) (args:List Operand):Option fK :=
 match P.funcs[f]? with
 | some fn=>if fn.body.isNone∧fn.name = "internal/bytealg.IndexByteString"∧(Extern.findNext fn).isNone then (match args with
  | [x,y]=>match cV x,cV y with
   | some x,some y=>some (.sib x y)
   | _,_=>none
  | _=>none) else none
 | none=>none
theorem g_ {P:Program} {f:FuncId} {args:List Operand} {op:fK} (h:KI P f args=some op):∃fn x y xv yv,P.funcs[f]? = some fn∧fn.body=none∧fn.name = "internal/bytealg.IndexByteString"∧Extern.findNext fn=none∧args=[x,y]∧cV x=some xv∧cV y=some yv∧op = .sib xv yv:=by
 unfold KI at h
 split at h
 case h_2=>cases h
 rename_i fn hf
 split at h
 case isFalse=>cases h
 rename_i hn
 split at h
 case h_2=>cases h
 rename_i x y
 split at h
 case h_2=>cases h
 rename_i xv yv h1 h2
 cases h
 exact ⟨fn,x,y,xv,yv,hf,by simpa using hn.1,hn.2.1,by simpa using hn.2.2,rfl,h1,h2,rfl⟩
def p6 (P:Program) (c:Call):Option fK :=
 match c.callee with
 | .value (.func f)=>if aY P f then (A8 c.args.toList).map (.call f) else KI P f c.args.toList
 | .value (.tmp t)=>if t<1000000 then (A8 c.args.toList).map (.callv (.s t)) else none
 | .value _=>none
 | .invoke _ _=>none
 | .builtin .len=>match c.argTypes.toList,c.args.toList with
  | [t],[x]=>match P.underlying t with
   | some (.slice _)=>(cV x).map .len
   | some .string=>(cV x).map .slen
   | some (.map _ _)=>(cV x).map fun x=>.mop .mln [x]
   | _=>none
  | _,_=>none
 | .builtin .append=>match c.argTypes.toList,c.args.toList with
  | [t,t'],[x,y]=>match gZ P t,P.underlying t',cV x,cV y with
   | some (e,st),some (.slice _),some x,some y=>some (.app e st x y)
   | some (e,st),some .string,some x,some y=>if st=1 then some (.apps e x y) else none
   | _,_,_,_=>none
  | _,_=>none
 | .builtin .min=>match c.args.toList with
  | [x,y]=>match cV x,cV y with
   | some x,some y=>some (.mnx false x y)
   | _,_=>none
  | _=>none
 | .builtin .max=>match c.args.toList with
  | [x,y]=>match cV x,cV y with
   | some x,some y=>some (.mnx true x y)
   | _,_=>none
  | _=>none
 | .builtin .copy=>match c.argTypes.toList,c.args.toList with
  | [t,t'],[x,y]=>match P.underlying t,P.underlying t',cV x,cV y with
   | some (.slice e),some (.slice _),some x,some y=>(dX P e).map fun n=>.cpy n x y
   | _,_,_,_=>none
  | _,_=>none
 | .builtin _=>none
def gu (P:Program):Op→Option fK
 | .move x=>(cV x).map .mov
 | .assign x=>(cV x).map .mov
 | .pick c a b=>match cV c,cV a,cV b with
  | some c,some a,some b=>some (.pick c a b)
  | _,_,_=>none
 | .alloc t=>(gK P t).map (.new t)
 | .box t x=>match dX P t,cV x with
  | some n,some x=>some (.box t n x)
  | _,_=>none
 | .build t parts=>match P.underlying t with
  | some (.struct fs)=>match gK P t,rS P fs with
   | some z,some places=>(lA places parts.toList).map (.build z)
   | _,_=>none
  | some (.array _ e)=>match gK P t,P.info? e with
   | some z,some _=>if parts.toList.isEmpty=true then some (.build z []) else none
   | _,_=>none
  | _=>none
 | .buildSlice t len parts=>match P.underlying t with
  | some (.slice e)=>match gK P e,dX P e,oe parts.toList with
   | some z,some n,some ps=>if z.length=n∧1≤n∧len * n≤16777216 then some (.bsl e n (List.replicate len z) ps) else none
   | _,_,_=>none
  | _=>none
 | .load t a=>match jK P t,cV a with
  | some n,some a=>some (.load n a)
  | _,_=>none
 | .store t a x=>match dX P t,cV a,cV x with
  | some n,some a,some x=>some (.store n a x)
  | _,_,_=>none
 | .nilCheck x=>(cV x).map .nchk
 | .binOp op t x y _=>match cV x,cV y with
  | some x,some y=>xk P t op x y
  | _,_=>none
 | .unOp op _ x=>(cV x).map (.un op)
 | .convert s d x=>match cV x with
  | some x=>p8 P s d x
  | none=>none
 | .makeFunc (.func f) first caps=>if Jg (TV f first.isEmpty)=f∧Gr (TV f first.isEmpty)=first.size then (A8 (first.toList++caps.toList)).map (.mkf (TV f first.isEmpty)) else none
 | .makeSlice t l c=>match gZ P t,cV l,cV c with
  | some (e,st),some l,some c=>(gK P e).map fun z=>.mks e st z l c
  | _,_,_=>none
 | .slice t x lo hi mx=>match P.underlying t,cV x,jG lo,jG hi,jG mx with
  | some (.slice e),some x,some lov,some hiv,some mxv=>if (!mx.isSome||hi.isSome)=true then (dX P e).map fun n=>.slc n x lov hiv mxv else none
  | some .string,some x,some lo,some hi,some none=>some (.sslc x lo hi)
  | _,_,_,_,_=>none
 | .fieldAddr s x f=>match P.underlying s,cV x with
  | some (.struct fs),some x=>match fs[f]? with
   | some fd=>match dX P fd.type with
    | some (_+1)=>some (.fadr fd.offset x)
    | _=>none
   | none=>none
  | _,_=>none
 | .field t x f=>match P.underlying t,cV x with
  | some (.struct fs),some x=>match fs[f]? with
   | some fd=>(jK P fd.type).map fun n=>.fld fd.offset n x
   | none=>none
  | _,_=>none
 | .indexAddr t x i=>match P.underlying t,cV x,cV i with
  | some (.slice e),some x,some i=>(dX P e).map fun n=>.iadr n x i
  | some (.array len e),some x,some i=>(dX P e).map fun n=>.aadr n len x i
  | _,_,_=>none
 | .index t x i=>match P.underlying t,cV x,cV i with
  | some .string,some x,some i=>some (.sidx x i)
  | _,_,_=>none
 | .extract x i=>(cV x).map fun x=>.ext x i
 | .range t x=>match P.underlying t,cV x with
  | some .string,some x=>some (.mop .rng [x])
  | _,_=>none
 | .next it true=>(cV it).map fun x=>.mop .nxt [x]
 | .makeMap _ none=>some (.mop .mkm [])
 | .lookup t m k ok=>match nu P t,cV m,cV k with
  | some (kd,z),some m,some k=>some (.mop (.mlk ok kd z) [m,k])
  | _,_,_=>none
 | .mapUpdate t m k x=>match nu P t,cV m,cV k,cV x with
  | some (kd,_),some m,some k,some x=>some (.mop (.mup kd) [m,k,x])
  | _,_,_,_=>none
 | .insert t m k x=>match nu P t,cV m,cV k,cV x with
  | some (kd,_),some m,some k,some x=>some (.mop (.mup kd) [m,k,x])
  | _,_,_,_=>none
 | .mapEntry t m k=>match nu P t,cV m,cV k with
  | some (kd,z),some m,some k=>some (.mop (.mnt kd z) [m,k])
  | _,_,_=>none
 | .entryStore _ m s x=>match cV m,cV s,cV x with
  | some m,some s,some x=>some (.mop .mst [m,s,x])
  | _,_,_=>none
 | .call c=>p6 P c
 | _=>none
def jP (P:Program) (n:Nat) (ops:Array Oper) (o:Oper):Option aD :=
 match gu P o.op with
 | some op=>match (match o.dst with | some d=>decide (d<n) | none=>true),o.guard with
  | true,none=>some ⟨o.dst,op,none⟩
  | true,some (j,b)=>match (ops[j]?).bind (·.dst) with
   | some k=>some ⟨o.dst,op,some (k,b)⟩
   | none=>none
  | false,_=>none
 | none=>none
def aM.env (g:Nat→AV):aM→Nat→AV
 | .reb i _=>fun k=>fk i (g k)
 | _=>g
def aM.hp (h:Nat→Option ac):aM→Nat→Option ac
 | .no=>h
 | .put i o=>cJ h i (some o)
 | .new i o=>cJ h i (some o)
 | .reb i o=>cJ (fun j=>(h j).map (bV i)) i (some o)
def aI (P:Program) (c:i3) (o:Oper) (a:Act) (w:World) (g:Nat→AV) (h:Nat→Option ac) (x:AV) (e:aM):Prop :=
 ∃r w' bl',((execOp a.eval o).run P w = .ok (.value r) w'∨((execOp a.eval o).run P w = .ok .skip w'∧r=undef)) ∧
  aB c bl' (e.env g) (e.hp h) a w'∧aO bl' (aT bl' c.MF (e.hp h)) w' r x
section
variable {P:Program} {c:i3} {bl:Nat→Option Nat} {g:Nat→AV} {h:Nat→Option ac} {a:Act} {w:World} {o:Oper}
theorem aI.pure (s:aB c bl g h a w) {r:Value} {x:AV} (hr:(execOp a.eval o).run P w = .ok (.value r) w) (hv:aO bl (aT bl c.MF h) w r x):aI P c o a w g h x .no :=
 ⟨r,w,bl,.inl hr,s,hv⟩
theorem p7 {M:Nat→Prop} {v:Value} {x:AV} (hc:oc v=some x):IRel M w v x:=by
 unfold oc at hc
 split at hc<;>try cases hc
 ·exact .bool _
 ·exact .int _ _
 ·rename_i s;exact .str s.data.toList
 ·exact .nl
 ·exact .np
 ·exact .nf
 ·exact .nm
theorem j7 {M:Nat→Prop}:∀{vs:List Value} {xs:List AV},fE vs=some xs→aC (IRel M w) vs xs
 | [],xs,hc=>by simp only [fE,bH] at hc;subst hc;trivial
 | v :: r,xs,hc=>by
  simp only [fE] at hc
  split at hc
  ·rename_i x ys h1 h2
   simp only [bH] at hc
   subst hc
   exact ⟨p7 h1,j7 h2⟩
  ·cases hc
theorem uk {M:Nat→Prop} {v:Value} {x:AV} (hc:uj v=some x):aO bl M w v x:=by
 unfold uj at hc
 split at hc
 ·rename_i cs
  simp only [cj] at hc
  obtain ⟨xs,h1,rfl⟩:=hc
  exact ⟨cs.toList,by simp,(j7 h1).mono fun _ _ _ hr=>IRel.toC hr⟩
 ·exact (IRel.toC (p7 hc)).toV
theorem aG (s:aB c bl g h a w) {x:Operand} {v:IV} (hc:cV x=some v):aO bl (aT bl c.MF h) w (a.eval x) (val g v):=by
 cases x with
 | tmp t =>
  simp only [cV] at hc
  split at hc
  case isFalse=>cases hc
  rename_i ht
  cases hc
  have:=s.env t
  rw [tL ht] at this
  exact this
 | const u =>
  simp only [cV,cj] at hc
  obtain ⟨y,h1,rfl⟩:=hc
  exact uk h1
 | func f =>
  simp only [cV] at hc
  split at hc
  case isFalse=>cases hc
  rename_i ht
  cases hc
  exact ⟨[],by simp [Act.eval,Jg,Gr,ht],trivial⟩
 | global k =>
  simp only [cV,bH] at hc
  subst hc
  have:=s.env (1000000+k)
  have e:tv a (1000000+k) = .pointer (some ⟨k,0,none⟩):=by
   unfold tv
   rw [aJ (by omega),show 1000000+k - 1000000=k by omega]
  rw [e] at this
  exact this
theorem aO.int {M:Nat→Prop} {v:Value} {k:IntKind} {n:Int} (hv:aO bl M w v (.int k n)):v = .int k n:=by
 simp only [aO,df,bq,cO] at hv;cases hv;rfl
theorem aO.bool {M:Nat→Prop} {v:Value} {b:Bool} (hv:aO bl M w v (.bool b)):v = .bool b:=by
 simp only [aO,df,bq,cO] at hv;cases hv;rfl
theorem aO.str {M:Nat→Prop} {v:Value} {s:List UInt8} (hv:aO bl M w v (.str s)):v = .string ⟨s.toArray⟩:=by
 simp only [aO,df,bq,cO] at hv;cases hv;rfl
theorem aO.np {M:Nat→Prop} {v:Value} (hv:aO bl M w v .np):v = .pointer none:=by
 simp only [aO,df,bq,cO] at hv;cases hv;rfl
theorem aO.nl {M:Nat→Prop} {v:Value} (hv:aO bl M w v .nl):v = .slice none 0 0:=by
 simp only [aO,df,bq,cO] at hv;cases hv;rfl
theorem aO.mp {M:Nat→Prop} {v:Value} {id st row off:Nat} (hv:aO bl M w v (.mp id st row off)):∃b,bl id=some b∧v = .pointer (some ⟨b,row * st+off,none⟩):=hv
theorem aO.ip {M:Nat→Prop} {v:Value} {cells:List AV} (hv:aO bl M w v (.ip cells)):IRel M w v (.ip cells):=hv
theorem aO.sl {M:Nat→Prop} {v:Value} {st:Nat} {rows:List (List AV)} (hv:aO bl M w v (.sl st rows)):IRel M w v (.sl st rows):=hv
theorem jq {M:Nat→Prop} (k:IntKind) (n:Int):aO bl M w (.int k n) (.int k n):=IRel.int k n
theorem gA {M:Nat→Prop} (b:Bool):aO bl M w (.bool b) (.bool b):=IRel.bool b
theorem If {M:Nat→Prop} (s:List UInt8):aO bl M w (.string ⟨s.toArray⟩) (.str s):=IRel.str s
theorem DM (s:aB c bl g h a w) {x:Operand} {v:IV} (ho:o.op = .move x∨o.op = .assign x) (hc:cV x=some v):aI P c o a w g h (val g v) .no:=by
 refine aI.pure s (r:=a.eval x) ?_ (aG s hc)
 rcases ho with ho | ho<;>simp [execOp,ho]
theorem H5 (s:aB c bl g h a w) {x y z:Operand} {xv yv zv:IV} (ho:o.op = .pick x y z) (hx:cV x=some xv) (hy:cV y=some yv) (hz:cV z=some zv)
  {v:AV} {e:aM} (he:ba 0 (.pick xv yv zv) (val g) h=some (v,e)):aI P c o a w g h v e:=by
 have h1:=aG s hx
 simp only [ba] at he
 split at he<;>try cases he
 ·rename_i hb
  rw [hb] at h1
  exact aI.pure s (r:=a.eval y) (by simp [execOp,ho,h1.bool,asBool]) (aG s hy)
 ·rename_i hb
  rw [hb] at h1
  exact aI.pure s (r:=a.eval z) (by simp [execOp,ho,h1.bool,asBool]) (aG s hz)
theorem ok_len (s:aB c bl g h a w) {t e:TypeId} {cl:Call} {x:Operand} {xv:IV} (ho:o.op = .call cl) (hcl:cl.callee = .builtin .len) (hat:cl.argTypes = #[t]) (har:cl.args = #[x])
  (ht:P.underlying t=some (.slice e)) (hx:cV x=some xv) {v:AV} (he:sj (val g xv)=some v):aI P c o a w g h v .no:=by
 have h1:=aG s hx
 have key:∀(ad:Option Addr) (n cap:Nat),a.eval x = .slice ad n cap→v = .int .i64 n→aI P c o a w g h v .no:=fun ad n cap hv hvv=>by
  subst hvv
  exact aI.pure s (r:=.int .i64 n) (by simp [execOp,ho,resolve,hcl,har,hat,invoke,builtin,Builtin.len_,underlying,ht,hv,goInt]) (jq _ _)
 cases hval:val g xv<;>rw [hval] at he h1<;>simp only [sj,bH] at he<;>try cases he
 case nl=>exact key none 0 0 h1.nl rfl
 case sl st0 rows =>
  generalize a.eval x=u at h1 key
  have h2:=h1.sl
  cases h2 with
  | nls st=>exact key none 0 0 rfl rfl
  | sl0 st ad cap=>exact key (some ad) 0 cap rfl rfl
  | sl b off cap st c1 t1 fr rows vs hb hM hl hr hv hx=>exact key _ _ _ rfl rfl
 case ms id st off len =>
  rcases h1 with ⟨h2,h3,h4⟩ | ⟨h2,h3,ad,cap,h4⟩ | ⟨b,cap,c1,t1,fr,h2,h3,h4⟩
  ·exact key none 0 0 h2 (by rw [h4])
  ·exact key _ 0 cap h4 (by rw [h2])
  ·exact key _ _ _ h3 rfl
theorem H8 (s:aB c bl g h a w) {t:TypeId} {cl:Call} {x:Operand} {xv:IV} (ho:o.op = .call cl) (hcl:cl.callee = .builtin .len) (hat:cl.argTypes = #[t]) (har:cl.args = #[x])
  (ht:P.underlying t=some .string) (hx:cV x=some xv) {v:AV} (he:sC (val g xv)=some v):aI P c o a w g h v .no:=by
 have h1:=aG s hx
 cases hval:val g xv<;>rw [hval] at he h1<;>simp only [sC,bH] at he<;>try cases he
 case str st =>
  have hv:=h1.str
  refine aI.pure s (r:=.int .i64 st.length) ?_ (jq _ _)
  simp [execOp,ho,resolve,hcl,har,hat,invoke,builtin,Builtin.len_,underlying,ht,hv,goInt]
  rfl
theorem Q5 (s:aB c bl g h a w) {t:TypeId} {op:UnOp} {x:Operand} {xv:IV} (ho:o.op = .unOp op t x) (hx:cV x=some xv) {v:AV} (he:NP op (val g xv)=some v):aI P c o a w g h v .no:=by
 have h1:=aG s hx
 cases hval:val g xv<;>rw [hval] at he h1<;>cases op<;>simp only [NP,vH,cK,bH] at he<;>try cases he
 ·exact aI.pure s (r:=.bool _) (by simp [execOp,ho,h1.bool,Op.unary]) (gA _)
 ·exact aI.pure s (r:=.int _ _) (by simp [execOp,ho,h1.int,Op.unary,Op.intArith]) (jq _ _)
 ·exact aI.pure s (r:=.int _ _) (by simp [execOp,ho,h1.int,Op.unary,Op.intBits]) (jq _ _)
theorem MI (s:aB c bl g h a w) {sr ds:TypeId} {k k':IntKind} {x:Operand} {xv:IV} (ho:o.op = .convert sr ds x) (h2:P.underlying sr=some (.int k')) (h3:P.underlying ds=some (.int k)) (hx:cV x=some xv)
  {n:Int} {kk:IntKind} (he:val g xv = .int kk n):aI P c o a w g h (.int k (k.wrap n)) .no:=by
 have h1:=aG s hx
 rw [he] at h1
 exact aI.pure s (r:=.int k (k.wrap n)) (by simp [execOp,ho,h1.int,convert,underlying,h2,h3,Conv.intToInt]) (jq _ _)
theorem HY (s:aB c bl g h a w) {sr ds:TypeId} {x:Operand} {xv:IV} (ho:o.op = .convert sr ds x) (h2:P.underlying sr=some .string) (h3:P.underlying ds=some .string) (hx:cV x=some xv)
  {st:List UInt8} (he:val g xv = .str st):aI P c o a w g h (val g xv) .no:=by
 have h1:=aG s hx
 rw [he] at h1 ⊢
 exact aI.pure s (r:=.string ⟨st.toArray⟩) (by simp [execOp,ho,h1.str,convert,underlying,h2,h3]) (If _)
theorem MM (s:aB c bl g h a w) {x:Operand} {i:Nat} {xv:IV} (ho:o.op = .extract x i) (hx:cV x=some xv) {vs:List AV} {v:AV} (he:val g xv = .tup vs) (hi:vs[i]? = some v):aI P c o a w g h v .no:=by
 have h1:=aG s hx
 rw [he] at h1
 obtain ⟨cs,h2,h3⟩:=h1
 obtain ⟨u,hu,hr⟩:=h3.get hi
 exact aI.pure s (r:=u) (by simp [execOp,ho,h2,Instr.extract,hu]) hr.toV
theorem rJ (s:aB c bl g h a w) {x:Operand} {xv:IV} (ho:o.op = .nilCheck x) (hx:cV x=some xv)
  (he:(∃id st row off,val g xv = .mp id st row off)∨(∃cells,val g xv = .ip cells)∨∃f caps,val g xv = .fn f caps):aI P c o a w g h (val g xv) .no:=by
 have h1:=aG s hx
 refine aI.pure s (r:=a.eval x) ?_ h1
 rcases he with ⟨id,st,row,off,he⟩ | ⟨cells,he⟩ | ⟨f,caps,he⟩<;>rw [he] at h1
 ·obtain ⟨b,_,h2⟩:=h1.mp
  simp [execOp,ho,h2]
 ·generalize hu:a.eval x=u at h1 ⊢
  have h2:=h1.ip
  cases h2
  simp [execOp,ho,hu]
 ·obtain ⟨cs,h2,_⟩:=h1
  simp [execOp,ho,h2]
theorem H7 (s:aB c bl g h a w) {t:TypeId} {x i:Operand} {xv iv:IV} (ho:o.op = .index t x i) (ht:P.underlying t=some .string) (hx:cV x=some xv) (hi:cV i=some iv)
  {st:List UInt8} {k:IntKind} {n:Int} {b:UInt8} (he:val g xv = .str st) (hi':val g iv = .int k n) (h0:0≤n) (hb:st[n.toNat]? = some b):aI P c o a w g h (.int .u8 b.toNat) .no:=by
 have h1:=aG s hx
 have h2:=aG s hi
 rw [he] at h1
 rw [hi'] at h2
 refine aI.pure s (r:=.int .u8 b.toNat) ?_ (jq _ _)
 have hb':(ByteArray.mk st.toArray)[n.toNat]? = some b:=by
  obtain ⟨hlt,hb⟩:=dE.1 hb
  have hs:n.toNat<(ByteArray.mk st.toArray).size:=by simpa [ByteArray.size] using hlt
  rw [getElem?_pos (ByteArray.mk st.toArray) n.toNat hs]
  simp [ByteArray.getElem_eq_getElem_data,hb]
 simp [execOp,ho,h1.str,h2.int,Instr.index,asIntOf,underlying,ht,h0,hb']
theorem qY (s:aB c bl g h a w):∀{cs:List Operand} {vs:List IV},A8 cs=some vs→aC (aO bl (aT bl c.MF h) w) (cs.map a.eval) (vs.map (val g))
 | [],vs,hc=>by simp only [A8,bH] at hc;subst hc;trivial
 | x :: r,vs,hc=>by
  simp only [A8] at hc
  split at hc
  ·rename_i v vs' h1 h2
   simp only [bH] at hc
   subst hc
   exact ⟨aG s h1,qY s h2⟩
  ·cases hc
theorem DJ (s:aB c bl g h a w) {t t':TypeId} {op:BinOp} {x y:Operand} {xv yv:IV} (ho:o.op = .binOp op t x y t') (hx:cV x=some xv) (hy:cV y=some yv)
  {v:AV} (he:fu op (val g xv) (val g yv)=some v):aI P c o a w g h v .no:=by
 have h1:=aG s hx
 have h2:=aG s hy
 unfold fu at he
 split at he
 ·rename_i k p k2 q e1 e2
  rw [e1] at h1;rw [e2] at h2
  split at he
  ·cases he
  ·rename_i hq
   cases he
   exact aI.pure s (r:=.int k (k.wrap (p * 2 ^ (min q.toNat k.bits)))) (by simp [execOp,ho,h1.int,h2.int,eqGuard,binOp,Op.shift,hq]) (jq _ _)
 ·rename_i k p k2 q e1 e2
  rw [e1] at h1;rw [e2] at h2
  split at he
  ·cases he
  ·rename_i hq
   cases he
   exact aI.pure s (r:=.int k (p.fdiv (2 ^ (min q.toNat k.bits)))) (by simp [execOp,ho,h1.int,h2.int,eqGuard,binOp,Op.shift,hq]) (jq _ _)
 ·rename_i opx opy X Y k p k2 q n1 n2 e1 e2
  rw [e1] at h1;rw [e2] at h2
  split at he
  case isFalse=>cases he
  rename_i hk
  subst hk
  cases opx<;>simp only [Ob,vH,cK,Option.map_none,bH] at he<;>try cases he
  case quo =>
   split at he
   ·cases he
   ·rename_i hq
    cases he
    exact aI.pure s (r:=.int k _) (by simp [execOp,ho,h1.int,h2.int,eqGuard,binOp,Op.intDiv,hq]) (jq _ _)
  case rem =>
   split at he
   ·cases he
   ·rename_i hq
    cases he
    exact aI.pure s (r:=.int k _) (by simp [execOp,ho,h1.int,h2.int,eqGuard,binOp,Op.intDiv,hq]) (jq _ _)
  all_goals first
   | refine aI.pure s (r:=.int k _) ?_ (jq _ _)
   | refine aI.pure s (r:=.bool _) ?_ (gA _)
  all_goals first
   | (simp [execOp,ho,h1.int,h2.int,eqGuard,binOp,Op.intArith];done)
   | (simp [execOp,ho,h1.int,h2.int,eqGuard,binOp,Op.intBits];done)
   | (simp [execOp,ho,h1.int,h2.int,eqGuard,binOp,Op.intCmp];done)
   | (simp only [execOp,ho,h1.int,h2.int,eqGuard,binOp];simp only [ne_eq,not_true_eq_false,fp];rfl)
 ·rename_i opx opy X Y p q e1 e2
  rw [e1] at h1;rw [e2] at h2
  have hl:∀u:List UInt8,(ByteArray.mk u.toArray).toList=u:=fun u=>by simp
  cases opx<;>simp only [Od,bH] at he<;>try cases he
  case add =>
   split at he
   case isFalse=>cases he
   rename_i hlen
   cases he
   refine aI.pure s (r:=.string ⟨(p++q).toArray⟩) ?_ (If _)
   have hs:¬(((ByteArray.mk p.toArray).size+(ByteArray.mk q.toArray).size:Nat):Int)>IntKind.i64.max:=by
    simp [ByteArray.size,IntKind.max,IntKind.signed,IntKind.bits];omega
   have hs':¬((((ByteArray.mk p.toArray).size:Nat):Int)+((ByteArray.mk q.toArray).size:Nat)>IntKind.i64.max):=by
    simp [ByteArray.size,IntKind.max,IntKind.signed,IntKind.bits];omega
   have happ:(ByteArray.mk p.toArray)++(ByteArray.mk q.toArray)=ByteArray.mk (p++q).toArray:=by
    apply ByteArray.ext;simp
   simp only [execOp,ho,h1.str,h2.str,eqGuard,binOp,Op.stringOp,hs,happ,fp];simp
  all_goals exact aI.pure s (r:=.bool _) (by simp only [execOp,ho,h1.str,h2.str,eqGuard,binOp,Op.stringOp,hl];simp) (gA _)
 ·cases he
theorem jt {t:TypeId} (ht:P.underlying t=some .bool) (p q:Bool):(Op.equal t (.bool p) (.bool q)).run P w = .ok (p==q) w:=by
 have h1:(Op.equalIn (9999+1) t (.bool p) (.bool q)).run P w = .ok (p==q) w:=by unfold Op.equalIn;simp [underlying,ht]
 exact h1
theorem jW {t e:TypeId} (ht:P.underlying t=some (.pointer e)) (ad:Option Addr):(Op.equal t (.pointer ad) (.pointer none)).run P w = .ok ad.isNone w:=by
 have h1:(Op.equalIn (9999+1) t (.pointer ad) (.pointer none)).run P w = .ok ad.isNone w:=by cases ad<;>(unfold Op.equalIn;simp [underlying,ht])
 exact h1
theorem HX (s:aB c bl g h a w) {t t':TypeId} {op:BinOp} {x y:Operand} {xv yv:IV} (ho:o.op = .binOp op t x y t') (ht:P.underlying t=some .bool) (hx:cV x=some xv) (hy:cV y=some yv)
  {v:AV} (he:pY op (val g xv) (val g yv)=some v):aI P c o a w g h v .no:=by
 have h1:=aG s hx
 have h2:=aG s hy
 unfold pY at he
 split at he
 ·rename_i p q e1 e2
  rw [e1] at h1;rw [e2] at h2
  cases he
  exact aI.pure s (r:=.bool _) (by simp [execOp,ho,h1.bool,h2.bool,eqGuard,binOp,jt ht]) (gA _)
 ·rename_i p q e1 e2
  rw [e1] at h1;rw [e2] at h2
  cases he
  exact aI.pure s (r:=.bool _) (by simp [execOp,ho,h1.bool,h2.bool,eqGuard,binOp,jt ht]) (gA _)
 ·cases he
theorem H4 (s:aB c bl g h a w) {t t' e:TypeId} {op:BinOp} {x y:Operand} {xv yv:IV} (ho:o.op = .binOp op t x y t') (ht:P.underlying t=some (.pointer e)) (hx:cV x=some xv) (hy:cV y=some yv)
  {v:AV} (he:jO op (val g xv) (val g yv)=some v):aI P c o a w g h v .no:=by
 have h1:=aG s hx
 have h2:=aG s hy
 have hp:∀b,CI (val g xv)=some b→∃ad:Option Addr,a.eval x = .pointer ad∧ad.isNone=b:=fun b hb=>by
  cases hval:val g xv<;>rw [hval] at hb h1<;>simp only [CI,bH] at hb<;>try cases hb
  case ip cells =>
   generalize a.eval x=u at h1
   have h3:=h1.ip
   cases h3
   exact ⟨_,rfl,rfl⟩
  case np=>exact ⟨none,h1.np,rfl⟩
  case mp=>obtain ⟨b,_,h3⟩:=h1.mp;exact ⟨_,h3,rfl⟩
 unfold jO at he
 split at he
 ·rename_i b e1 e2
  rw [e2] at h2
  obtain ⟨ad,h3,h4⟩:=hp b e1
  cases he
  subst h4
  exact aI.pure s (r:=.bool _) (by simp only [execOp,ho,h3,h2.np,eqGuard,binOp];simp [jW ht]) (gA _)
 ·rename_i b e1 e2
  rw [e2] at h2
  obtain ⟨ad,h3,h4⟩:=hp b e1
  cases he
  subst h4
  exact aI.pure s (r:=.bool _) (by simp only [execOp,ho,h3,h2.np,eqGuard,binOp];simp [jW ht]) (gA _)
 ·cases he
theorem wv {t e:TypeId} {op:BinOp} {b:Bool} {x y:Operand} {t':TypeId} {ad:Option Addr} {n cap:Nat} (ho:o.op = .binOp op t x y t') (ht:P.underlying t=some (.slice e)) (hop:(op = .eql∧b=false)∨(op = .neq∧b=true))
  (hx:a.eval x = .slice ad n cap) (hy:a.eval y = .slice none 0 0):(execOp a.eval o).run P w = .ok (.value (.bool (if ad.isNone then !b else b))) w:=by
 have h1:(Op.equal t (.slice ad n cap) (.slice none 0 0)).run P w = .ok ad.isNone w:=by
  have h:∀d:Nat,(Op.equalIn (d+1) t (.slice ad n cap) (.slice none 0 0)).run P w = .ok ad.isNone w:=fun d=>by
   cases ad<;>simp [Op.equalIn,run_underlying ht]
  exact h 9999
 rcases hop with ⟨rfl,rfl⟩ | ⟨rfl,rfl⟩<;>cases ad<;>simp [execOp,ho,hx,hy,eqGuard,binOp] at h1 ⊢ <;> simp [h1]
theorem uW (s:aB c bl g h a w) {t t' e:TypeId} {op:BinOp} {b:Bool} {x y:Operand} {xv:IV} (ho:o.op = .binOp op t x y t') (ht:P.underlying t=some (.slice e)) (hop:(op = .eql∧b=false)∨(op = .neq∧b=true))
  (hx:cV x=some xv) (hy:cV y=some (.c .nl)) {v:AV} (he:ue b (val g xv)=some v):aI P c o a w g h v .no:=by
 have h1:=aG s hx
 have h2:a.eval y = .slice none 0 0:=(aG s hy).nl
 have hp:∀{ad n cap},a.eval x = .slice ad n cap→v = .bool (if ad.isNone then !b else b)→aI P c o a w g h v .no:=fun {ad n cap} h3 h4=>by
  subst h4
  exact aI.pure s (r:=.bool _) (wv ho ht hop h3 h2) (gA _)
 unfold ue at he
 split at he
 ·rename_i e1
  cases he
  rw [e1] at h1
  exact hp h1.nl rfl
 ·rename_i st r rows e1
  cases he
  rw [e1] at h1
  generalize hu:a.eval x=u at h1
  have h3:=h1.sl
  cases h3
  exact hp hu rfl
 ·rename_i id st off len e1
  cases he
  rw [e1] at h1
  obtain ⟨_,_,h3⟩ | ⟨h3,_⟩ | ⟨b',cap,c1,t1,fr,_,h3,_⟩:=h1
  ·cases h3
  ·cases h3
  ·exact hp h3 rfl
 ·cases he
end
theorem fR (b off n:Nat):(⟨b,off,none⟩:Addr).add n =⟨b,off+n,none⟩:=by unfold Addr.add;split<;>simp_all
theorem dx {w:World} {b:Nat} {c:Array Value} {t:TypeId} {fr:Nat×Nat} (hb:w.heap[b]? = some (.cells c t fr)) (off:Nat):w.cell? ⟨b,off,none⟩=c[off]?:=by
 simp [World.cell?,hb]
def dc (bl:Nat→Option Nat) (M:Nat→Prop) (w:World) (b off:Nat) (cells:List AV):Prop :=
 ∃c t fr,w.heap[b]? = some (.cells c t fr)∧∀(j:Nat) (x:AV),cells[j]? = some x→∃v,c[off+j]? = some v∧bq bl M w v x
section
variable {P:Program} {c:i3} {bl:Nat→Option Nat} {g:Nat→AV} {h:Nat→Option ac} {a:Act} {w:World} {o:Oper} {M:Nat→Prop}
theorem dc.drop {b off:Nat} {cells:List AV} (hc:dc bl M w b off cells) (n:Nat):dc bl M w b (off+n) (cells.drop n):=by
 obtain ⟨c1,t,fr,h1,h2⟩:=hc
 refine ⟨c1,t,fr,h1,fun j x hx=>?_⟩
 rw [List.getElem?_drop] at hx
 obtain ⟨v,h3,h4⟩:=h2 _ _ hx
 exact ⟨v,by rw [← h3];congr 1;omega,h4⟩
theorem dc.vals {b off:Nat} {cells:List AV} (hc:dc bl M w b off cells):∃vs:List Value,aC (bq bl M w) vs cells∧∀(j:Nat) (v:Value),vs[j]? = some v→w.cell? ⟨b,off+j,none⟩=some v:=by
 obtain ⟨c1,t,fr,h1,h2⟩:=hc
 have key:∀(cells:List AV) (off:Nat),(∀(j:Nat) (x:AV),cells[j]? = some x→∃v,c1[off+j]? = some v∧bq bl M w v x) →
   ∃vs:List Value,aC (bq bl M w) vs cells∧∀(j:Nat) (v:Value),vs[j]? = some v→c1[off+j]? = some v:=by
  intro cells
  induction cells with
  | nil=>intro off _;exact ⟨[],trivial,fun j v hv=>by simp at hv⟩
  | cons x r ih =>
   intro off hx
   obtain ⟨v,hv1,hv2⟩:=hx 0 x (by simp)
   obtain ⟨vs,h3,h4⟩:=ih (off+1) (fun j y hy=>by
    obtain ⟨u,hu1,hu2⟩:=hx (j+1) y (by simpa using hy)
    exact ⟨u,by rw [← hu1];congr 1;omega,hu2⟩)
   refine ⟨v :: vs,⟨hv2,h3⟩,fun j u hu=>?_⟩
   cases j with
   | zero=>simp at hu;subst hu;simpa using hv1
   | succ j =>
    simp at hu
    rw [← h4 j u hu]
    congr 1
    omega
 obtain ⟨vs,h3,h4⟩:=key cells off h2
 exact ⟨vs,h3,fun j v hv=>by rw [dx h1];exact h4 j v hv⟩
theorem dc.of_ip {v:Value} {cells:List AV} (hv:aO bl M w v (.ip cells)):∃b off,v = .pointer (some ⟨b,off,none⟩)∧dc bl M w b off cells:=by
 have h1:=hv.ip
 cases h1 with
 | ip b off c1 t fr cells vs hb hM hv hx =>
  refine ⟨b,off,rfl,c1,t,fr,hb,fun j x hj=>⟨vs j,hv j (dE.1 hj).1,IRel.toC (hx j x hj)⟩⟩
theorem dc.of_obj (s:aB c bl g h a w) {id b:Nat} {ob:ac} {row:Nat} {r:List AV} (hi:h id=some ob) (hb:bl id=some b) (hr:ob.rows[row]? = some r):dc bl (aT bl c.MF h) w b (row * ob.st) r:=by
 rcases s.heap.1 id ob hi with hn | ⟨b',h1,⟨_,c1,fr,h2,h3,h4,h5,h6,h7⟩ | hsp⟩
 ·rw [hn.2.2] at hb;cases hb
 rotate_left
 ·exact (hsp.no hr).elim
 ·rw [hb] at h1
  cases h1
  refine ⟨c1,ob.t,fr,h2,fun j x hx=>?_⟩
  obtain ⟨v,hv1,hv2⟩:=h7 row j r x hr hx
  refine ⟨v,hv1,?_⟩
  cases hrec:ob.isRec<;>simp only [hrec,fP] at hv2
  ·exact IRel.toC hv2
  ·exact hv2
theorem tK {t:TypeId} {n:Option Nat} (ht:jK P t=some n):(isAgg t).run P w = .ok n.isSome w∧∀m,n=some m→(sizeOf t).run P w = .ok m w:=by
 unfold jK at ht
 split at ht<;>(try cases ht)
 ·rename_i fs i h1 h2
  exact ⟨by simp [isAgg,underlying,h1],fun m hm=>by cases hm;simp [sizeOf,typeInfo,h2]⟩
 ·rename_i k e i h1 h2
  exact ⟨by simp [isAgg,underlying,h1],fun m hm=>by cases hm;simp [sizeOf,typeInfo,h2]⟩
 ·rename_i d i h1 h2 n1 n2
  refine ⟨?_,fun m hm=>by cases hm⟩
  simp only [isAgg,underlying]
  simp only [Sem.run_bind,run_program,Result.andThen_ok,n2]
  cases d<;>simp_all
theorem gJ {t:TypeId} {n:Option Nat} (ht:jK P t=some n) {b off:Nat} {cells:List AV} (hc:dc bl M w b off cells) {x:AV} (hx:iF n cells=some x) :
  ∃r,(loadVar t ⟨b,off,none⟩).run P w = .ok r w∧df bl M w r x:=by
 obtain ⟨h1,h2⟩:=tK (w:=w) ht
 cases n with
 | none =>
  simp only [iF] at hx
  obtain ⟨c1,t1,fr,h3,h4⟩:=hc
  obtain ⟨v,hv1,hv2⟩:=h4 0 x hx
  refine ⟨v,?_,hv2.toG⟩
  simp only [loadVar,Sem.run_bind,h1,Result.andThen_ok]
  simp [dx h3,show c1[off]? = some v by simpa using hv1]
 | some m =>
  simp only [iF] at hx
  split at hx
  case isFalse=>cases hx
  rename_i hm
  cases hx
  obtain ⟨vs,h3,h4⟩:=hc.vals
  have hl:vs.length=cells.length:=h3.length
  refine ⟨.agg (vs.take m).toArray,?_,vs.take m,rfl,h3.take m⟩
  have hld:=run_loadCells_list (P:=P) (w:=w) ⟨b,off,none⟩ (vs.take m) (fun j v hv=>by
   rw [fR]
   exact h4 j v (by rw [List.getElem?_take] at hv;split at hv<;>first | exact hv | cases hv))
  rw [vy,hl,Nat.min_eq_left hm] at hld
  simp only [loadVar,Sem.run_bind,h1,Result.andThen_ok,h2 m rfl]
  simp [h2 m rfl,hld]
theorem H2 (s:aB c bl g h a w) {t:TypeId} {n:Option Nat} {p:Operand} {pv:IV} (ho:o.op = .load t p) (ht:jK P t=some n) (hp:cV p=some pv)
  {x:AV} (he:f8 n (val g pv) h=some x):aI P c o a w g h x .no:=by
 have h1:=aG s hp
 have fin:∀{b off:Nat} {cells:List AV},a.eval p = .pointer (some ⟨b,off,none⟩)→dc bl (aT bl c.MF h) w b off cells→iF n cells=some x→aI P c o a w g h x .no:=fun hv hc hx=>by
  obtain ⟨r,h2,h3⟩:=gJ ht hc hx
  exact aI.pure s (r:=r) (by simp [execOp,ho,hv,Instr.loadAt,Instr.sureAddr,h2]) h3.toV
 cases hval:val g pv<;>rw [hval] at he h1<;>simp only [f8] at he<;>try cases he
 case ip cells =>
  obtain ⟨b,off,h2,h3⟩:=dc.of_ip h1
  exact fin h2 h3 he
 case mp id st row off =>
  split at he
  case h_2=>cases he
  rename_i ob hob
  split at he
  case isFalse=>cases he
  rename_i hst
  split at he
  case h_2=>cases he
  rename_i r hr
  obtain ⟨b,hb,h2⟩:=h1.mp
  rw [← hst] at h2
  exact fin h2 ((dc.of_obj s hob hb hr).drop off) he
theorem HZ (s:aB c bl g h a w) {t:TypeId} {f k n:Nat} {fs:Array Field} {fd:Field} {p:Operand} {pv:IV} (ho:o.op = .fieldAddr t p f) (ht:P.underlying t=some (.struct fs)) (hf:fs[f]? = some fd)
  (hn:dX P fd.type=some (n+1)) (hk:fd.offset=k) (hp:cV p=some pv) {x:AV} (he:pZ k (val g pv)=some x):aI P c o a w g h x .no:=by
 have h1:=aG s hp
 have hrun:∀{b off:Nat},a.eval p = .pointer (some ⟨b,off,none⟩)→(execOp a.eval o).run P w = .ok (.value (.pointer (some ⟨b,off+k,none⟩))) w:=fun {b off} hv=>by
  unfold dX at hn
  simp only [cj] at hn
  obtain ⟨i,hi1,hi2⟩:=hn
  simp [execOp,ho,hv,Instr.fieldAt,underlying,ht,hf,Instr.sureAddr,fieldPlace,sizeOf,typeInfo,hi1,hi2,fR,hk]
 cases hval:val g pv<;>rw [hval] at he h1<;>simp only [pZ,bH] at he<;>try cases he
 case ip cells =>
  generalize hu:a.eval p=u at h1
  have h2:=h1.ip
  cases h2 with
  | ip b off c1 t fr cells vs hb hM hv hx =>
   refine aI.pure s (hrun hu) ?_
   refine IRel.ip b (off+k) c1 t fr (cells.drop k) (fun j=>vs (k+j)) hb hM (fun j hj=>?_) (fun j x hx'=>?_)
   ·rw [← hv (k+j) (by simp at hj;omega)];congr 1;omega
   ·rw [List.getElem?_drop] at hx';exact hx _ _ hx'
 case mp id st row off =>
  obtain ⟨b,hb,h2⟩:=h1.mp
  exact aI.pure s (hrun h2) ⟨b,hb,by congr 3;omega⟩
theorem gB {t:TypeId} {n:Option Nat} (ht:jK P t=some n) {cs:List Value} {cells:List AV} (hc:aC (bq bl M w) cs cells) {off:Nat} {x:AV} (hx:iF n (cells.drop off)=some x) :
  ∃r,(part t cs.toArray off).run P w = .ok r w∧df bl M w r x:=by
 obtain ⟨h1,h2⟩:=tK (w:=w) ht
 cases n with
 | none =>
  simp only [iF,List.getElem?_drop,Nat.add_zero] at hx
  obtain ⟨v,hv1,hv2⟩:=hc.get hx
  refine ⟨v,?_,hv2.toG⟩
  simp only [part,Sem.run_bind,h1,Result.andThen_ok]
  simp [hv1]
 | some m =>
  simp only [iF] at hx
  split at hx
  case isFalse=>cases hx
  rename_i hm
  cases hx
  refine ⟨.agg ((cs.drop off).take m).toArray,?_,(cs.drop off).take m,rfl,(hc.drop off).take m⟩
  simp only [part,Sem.run_bind,h1,Result.andThen_ok]
  simp only [Option.isSome_some,cX,Sem.run_bind,h2 m rfl,Result.andThen_ok,Sem.run_pure]
  congr 2
  simp [List.extract_toArray,List.extract_eq_take_drop]
theorem MN (s:aB c bl g h a w) {t:TypeId} {f k:Nat} {n:Option Nat} {fs:Array Field} {fd:Field} {p:Operand} {pv:IV} (ho:o.op = .field t p f) (ht:P.underlying t=some (.struct fs)) (hf:fs[f]? = some fd)
  (hn:jK P fd.type=some n) (hk:fd.offset=k) (hp:cV p=some pv) {x:AV} (he:Ao k n (val g pv)=some x):aI P c o a w g h x .no:=by
 have h1:=aG s hp
 cases hval:val g pv<;>rw [hval] at he h1<;>simp only [Ao] at he<;>try cases he
 case agg cells =>
  obtain ⟨cs,h2,h3⟩:=h1
  obtain ⟨r,h4,h5⟩:=gB hn h3 he
  exact aI.pure s (r:=r) (by simp [execOp,ho,h2,Instr.field,underlying,ht,hf,asAgg,hk,h4]) h5.toV
theorem H1 (s:aB c bl g h a w) {t e:TypeId} {n:Nat} {x i:Operand} {xv iv:IV} (ho:o.op = .indexAddr t x i) (ht:P.underlying t=some (.slice e)) (hn:dX P e=some n) (hx:cV x=some xv) (hi:cV i=some iv)
  {v:AV} (he:mO n (val g xv) (val g iv)=some v):aI P c o a w g h v .no:=by
 have h1:=aG s hx
 have h2:=aG s hi
 have hsz:(sizeOf e).run P w = .ok n w:=by
  unfold dX at hn
  simp only [cj] at hn
  obtain ⟨inf,hi1,hi2⟩:=hn
  simp [sizeOf,typeInfo,hi1,hi2]
 have hrun:∀{b off len cap:Nat} {k:IntKind} {j:Int},a.eval x = .slice (some ⟨b,off,none⟩) len cap→a.eval i = .int k j→0≤j→j<len →
   (execOp a.eval o).run P w = .ok (.value (.pointer (some ⟨b,off+j.toNat * n,none⟩))) w:=fun hv hj h0 hl=>by
  simp [execOp,ho,hv,hj,Instr.indexAt,asIntOf,underlying,ht,h0,hl,hsz,fR]
 unfold mO at he
 split at he
 ·rename_i st' rows k j e1 e2
  rw [e1] at h1;rw [e2] at h2
  split at he
  case isFalse=>cases he
  rename_i hcond
  obtain ⟨rfl,h0⟩:=hcond
  split at he
  case h_2=>cases he
  rename_i r hr
  cases he
  generalize hu:a.eval x=u at h1
  have h3:=h1.sl
  have hlt:=(dE.1 hr).1
  cases h3 with
  | nls=>simp at hlt
  | sl0 st ad cap=>simp at hlt
  | sl b off cap st c1 t1 fr rows vs hb hM hl hrl hv hx' =>
   refine aI.pure s (hrun hu h2.int h0 (by omega)) ?_
   have hrl':=hrl _ _ hr
   exact IRel.ip b (off+j.toNat * st') c1 t1 fr r (fun q=>vs j.toNat q) hb hM (fun q hq=>hv _ _ hlt (by omega)) (fun q y hy=>hx' _ _ _ _ hr hy)
 ·rename_i id st' off len k j e1 e2
  rw [e1] at h1;rw [e2] at h2
  split at he
  case isFalse=>cases he
  rename_i hcond
  obtain ⟨rfl,h0,hl⟩:=hcond
  cases he
  rcases h1 with ⟨_,_,h4⟩ | ⟨h4,_⟩ | ⟨b,cap,c1,t1,fr,h3,h4,h5⟩
  ·omega
  ·omega
  ·refine aI.pure s (hrun h4 h2.int h0 hl) ⟨b,h3,?_⟩
   rw [fJ,Nat.add_zero]
 ·cases he
theorem HW (s:aB c bl g h a w) {t e:TypeId} {n len:Nat} {x i:Operand} {xv iv:IV} (ho:o.op = .indexAddr t x i) (ht:P.underlying t=some (.array len e)) (hn:dX P e=some n) (hx:cV x=some xv) (hi:cV i=some iv)
  {v:AV} (he:pX n len (val g xv) (val g iv)=some v):aI P c o a w g h v .no:=by
 have h1:=aG s hx
 have h2:=aG s hi
 have hsz:(sizeOf e).run P w = .ok n w:=by
  unfold dX at hn
  simp only [cj] at hn
  obtain ⟨inf,hi1,hi2⟩:=hn
  simp [sizeOf,typeInfo,hi1,hi2]
 have hrun:∀{b off:Nat} {k:IntKind} {j:Int},a.eval x = .pointer (some ⟨b,off,none⟩)→a.eval i = .int k j→0≤j→j<len →
   (execOp a.eval o).run P w = .ok (.value (.pointer (some ⟨b,off+j.toNat * n,none⟩))) w:=fun hv hj h0 hl=>by
  simp [execOp,ho,hv,hj,Instr.indexAt,asIntOf,underlying,ht,h0,hl,hsz,fR,Instr.sureAddr]
 unfold pX at he
 split at he
 ·rename_i cells k j e1 e2
  rw [e1] at h1;rw [e2] at h2
  split at he
  case isFalse=>cases he
  rename_i hcond
  cases he
  generalize hu:a.eval x=u at h1
  have h3:=h1.ip
  cases h3 with
  | ip b off c1 t1 fr cells vs hb hM hv hx' =>
   refine aI.pure s (hrun hu h2.int hcond.1 hcond.2) ?_
   refine IRel.ip b (off+j.toNat * n) c1 t1 fr (cells.drop (j.toNat * n)) (fun q=>vs (j.toNat * n+q)) hb hM (fun q hq=>?_) (fun q y hy=>?_)
   ·rw [← hv (j.toNat * n+q) (by simp at hq;omega)];congr 1;omega
   ·rw [List.getElem?_drop] at hy;exact hx' _ _ hy
 ·rename_i id st' row off k j e1 e2
  rw [e1] at h1;rw [e2] at h2
  split at he
  case isFalse=>cases he
  rename_i hcond
  cases he
  obtain ⟨b,hb,h3⟩:=h1.mp
  exact aI.pure s (hrun h3 h2.int hcond.1 hcond.2) ⟨b,hb,by congr 3;omega⟩
 ·cases he
theorem DL (s:aB c bl g h a w) {cl:Call} {m:Bool} {x y:Operand} {xv yv:IV} (ho:o.op = .call cl) (hcl:cl.callee = .builtin (if m then .max else .min)) (har:cl.args = #[x,y]) (hx:cV x=some xv) (hy:cV y=some yv)
  {v:AV} (he:sq m (val g xv) (val g yv)=some v):aI P c o a w g h v .no:=by
 have h1:=aG s hx
 have h2:=aG s hy
 unfold sq at he
 split at he
 case h_2=>cases he
 rename_i k n k' q e1 e2
 split at he
 case isFalse=>cases he
 rename_i hk
 subst hk
 cases he
 rw [e1] at h1;rw [e2] at h2
 have e3:=h1.int
 have e4:=h2.int
 cases m
 ·refine aI.pure s (r:=.int k (if q<n then q else n)) ?_ (jq _ _)
  simp [execOp,ho,resolve,hcl,har,invoke,builtin,Builtin.min_,Builtin.min2,e3,e4]
 ·refine aI.pure s (r:=.int k (if n<q then q else n)) ?_ (jq _ _)
  simp [execOp,ho,resolve,hcl,har,invoke,builtin,Builtin.max_,Builtin.max2,e3,e4]
theorem j1 (s:aB c bl g h a w) {d n:Nat} {x:Option Operand} {xv:Option IV} (hx:jG x=some xv) (he:bJ d (xv.map (val g))=some n) :
  (x=none∧n=d)∨∃y k,x=some y∧a.eval y = .int k n:=by
 cases x with
 | none=>simp only [jG,bH] at hx;subst hx;simp only [Option.map_none,bJ,bH] at he;exact .inl ⟨rfl,he.symm⟩
 | some y =>
  simp only [jG,cj] at hx
  obtain ⟨yv,hy,rfl⟩:=hx
  have h1:=aG s hy
  simp only [cK] at he
  cases hval:val g yv<;>rw [hval] at he h1<;>simp only [bJ] at he<;>try cases he
  case int k m =>
   split at he
   case isFalse=>cases he
   rename_i h0
   cases he
   refine .inr ⟨y,k,rfl,?_⟩
   rw [h1.int]
   congr 1
   omega
theorem ep {k:IntKind} {n y:Nat} {code:BoundsCode} (h:n≤y):(Instr.sliceBound (.int k n) y code).run P w = .ok n w:=by
 have h2:(n:Int)≤y:=by omega
 simp [Instr.sliceBound,asIntOf,h2]
theorem dV (s:aB c bl g h a w) {isS:Bool} {len cap l hh m:Nat} {lo hi mx:Option Operand} {lov hiv mxv:Option IV} (hlo:jG lo=some lov) (hhi:jG hi=some hiv) (hmx:jG mx=some mxv)
  (h1:bJ 0 (lov.map (val g))=some l) (h2:bJ len (hiv.map (val g))=some hh) (h3:bJ len (mxv.map (val g))=some m) (hl:l≤hh) (hm:hh≤m) (hc:m≤len) (hcap:len≤cap) (hb:mx.isSome=true→hi.isSome=true) :
  ∃m',(Instr.sliceBounds isS len cap (lo.map a.eval) (hi.map a.eval) (mx.map a.eval)).run P w = .ok (l,hh,m') w∧hh≤m'∧m'≤cap:=by
 have a1:=j1 s hlo h1
 have a2:=j1 s hhi h2
 have a3:=j1 s hmx h3
 rcases a3 with ⟨rfl,rfl⟩ | ⟨y3,k3,rfl,e3⟩
 ·refine ⟨cap,?_,by omega,bD _⟩
  rcases a2 with ⟨rfl,rfl⟩ | ⟨y2,k2,rfl,e2⟩
  ·rcases a1 with ⟨rfl,rfl⟩ | ⟨y1,k1,rfl,e1⟩
   ·simp [Instr.sliceBounds]
   ·simp [Instr.sliceBounds,e1,ep (P:=P) (w:=w) hl]
  ·rcases a1 with ⟨rfl,rfl⟩ | ⟨y1,k1,rfl,e1⟩
   ·simp [Instr.sliceBounds,e2,ep (P:=P) (w:=w) (show hh≤cap by omega)]
   ·simp [Instr.sliceBounds,e2,e1,ep (P:=P) (w:=w) (show hh≤cap by omega),ep (P:=P) (w:=w) hl]
 ·refine ⟨m,?_,hm,by omega⟩
  rcases a2 with ⟨rfl,rfl⟩ | ⟨y2,k2,rfl,e2⟩
  ·simp at hb
  ·rcases a1 with ⟨rfl,rfl⟩ | ⟨y1,k1,rfl,e1⟩
   ·simp [Instr.sliceBounds,e3,e2,ep (P:=P) (w:=w) (show m≤cap by omega),ep (P:=P) (w:=w) hm]
   ·simp [Instr.sliceBounds,e3,e2,e1,ep (P:=P) (w:=w) (show m≤cap by omega),ep (P:=P) (w:=w) hm,ep (P:=P) (w:=w) hl]
end
section
variable {P:Program} {c:i3} {bl:Nat→Option Nat} {g:Nat→AV} {h:Nat→Option ac} {a:Act} {w:World} {o:Oper} {M:Nat→Prop}
theorem lh {e:TypeId} {n:Nat} (hn:dX P e=some n):(sizeOf e).run P w = .ok n w:=by
 unfold dX at hn
 simp only [cj] at hn
 obtain ⟨inf,hi1,hi2⟩:=hn
 simp [sizeOf,typeInfo,hi1,hi2]
theorem cx {t e:TypeId} {n:Nat} {x:Operand} {lo hi mx:Option Operand} (ho:o.op = .slice t x lo hi mx) (ht:P.underlying t=some (.slice e)) (hn:dX P e=some n) {ad:Option Addr} {len cap l hh m:Nat}
  (hx:a.eval x = .slice ad len cap) (hb:(Instr.sliceBounds true len cap (lo.map a.eval) (hi.map a.eval) (mx.map a.eval)).run P w = .ok (l,hh,m) w) :
  (execOp a.eval o).run P w = .ok (.value (.slice (if m=l then ad else ad.map (·.add (l * n))) (hh - l) (m - l))) w:=by
 simp only [execOp,ho,Instr.sliceAt,Sem.run_bind,hx]
 simp [underlying,ht,Instr.slice,hb,lh (w:=w) hn]
theorem MZ (s:aB c bl g h a w) {t e:TypeId} {n:Nat} {x:Operand} {lo hi mx:Option Operand} {xv:IV} {lov hiv mxv:Option IV} (ho:o.op = .slice t x lo hi mx) (ht:P.underlying t=some (.slice e)) (hn:dX P e=some n)
  (hx:cV x=some xv) (hlo:jG lo=some lov) (hhi:jG hi=some hiv) (hmx:jG mx=some mxv) (hb:mx.isSome=true→hi.isSome=true)
  {v:AV} (he:fQ n (val g xv) (lov.map (val g)) (hiv.map (val g)) (mxv.map (val g))=some v):aI P c o a w g h v .no:=by
 have h1:=aG s hx
 cases hval:val g xv<;>rw [hval] at he h1<;>simp only [fQ] at he<;>try cases he
 case nl =>
  split at he
  case h_2=>cases he
  rename_i l hh m e1 e2 e3
  split at he
  case isFalse=>cases he
  rename_i hcond
  obtain ⟨rfl,rfl,rfl⟩:=hcond
  cases he
  obtain ⟨m',hr,hm1,hm2⟩:=dV (P:=P) (isS:=true) s hlo hhi hmx e1 e2 e3 (bD _) (bD _) (bD _) (bD 0) hb
  have hm0:m'=0:=by omega
  subst hm0
  exact aI.pure s (cx ho ht hn h1.nl hr) (by simp;exact IRel.nl)
 case sl st rows =>
  split at he
  case h_2=>cases he
  rename_i l hh m e1 e2 e3
  split at he
  case isFalse=>cases he
  rename_i hcond
  obtain ⟨rfl,hl1,hl2,hl3⟩:=hcond
  cases he
  generalize hu:a.eval x=u at h1
  have h3:=h1.sl
  cases h3 with
  | nls =>
   obtain ⟨m',hr,hm1,hm2⟩:=dV (P:=P) (isS:=true) s hlo hhi hmx e1 e2 e3 hl1 hl2 hl3 (bD _) hb
   have hm0:m'=0:=by simpa using hm2
   subst hm0
   have hl0:l=0:=by omega
   have hh0:hh=0:=by omega
   subst hl0 hh0
   exact aI.pure s (cx ho ht hn hu hr) (by simp;exact IRel.nls _)
  | sl0 st ad cap =>
   obtain ⟨m',hr,hm1,hm2⟩:=dV (P:=P) (isS:=true) (cap:=cap) s hlo hhi hmx e1 e2 e3 hl1 hl2 hl3 (cq _) hb
   have hl0:l=0:=by simp at hl3;omega
   have hh0:hh=0:=by simp at hl3;omega
   subst hl0 hh0
   refine aI.pure s (cx ho ht hn hu hr) ?_
   have:(List.drop 0 ([]:List (List AV))).take (0 - 0)=[]:=by simp
   rw [this]
   split
   ·exact IRel.sl0 _ _ _
   ·exact IRel.sl0 _ _ _
  | sl b off cap st c1 t1 fr rows vs hb' hM hl hrl hv hx' =>
   obtain ⟨m',hr,hm1,hm2⟩:=dV (P:=P) (isS:=true) (cap:=cap) s hlo hhi hmx e1 e2 e3 hl1 hl2 hl3 hl hb
   refine aI.pure s (cx ho ht hn hu hr) ?_
   by_cases h0:hh=l
   ·subst h0
    have hnil:(List.drop hh rows).take (hh - hh)=[]:=by simp
    rw [hnil,Nat.sub_self]
    split
    ·exact IRel.sl0 _ _ _
    ·exact IRel.sl0 _ _ _
   ·have hne:m'≠l:=by omega
    rw [aJ hne]
    simp only [cK,fR]
    have hlen:((rows.drop l).take (hh - l)).length=hh - l:=by simp;omega
    have getr:∀(i:Nat) (r:List AV),((rows.drop l).take (hh - l))[i]? = some r→rows[l+i]? = some r:=fun i r hi=>by
     rw [List.getElem?_take] at hi
     split at hi
     ·simpa using hi
     ·cases hi
    have key:=IRel.sl (M:=aT bl c.MF h) (w:=w) b (off+l * st) (m' - l) st c1 t1 fr ((rows.drop l).take (hh - l)) (fun i j=>vs (l+i) j) hb' hM (by omega) (fun i r hi=>hrl _ _ (getr i r hi))
     (fun i j hi hj=>by
      rw [← hv (l+i) j (by omega) hj]
      congr 1
      rw [fJ]
      omega)
     (fun i j r y hi hy=>hx' _ _ _ _ (getr i r hi) hy)
    rw [hlen] at key
    exact key
 case ms id st off len =>
  split at he
  case h_2=>cases he
  rename_i l hh m e1 e2 e3
  split at he
  case isFalse=>cases he
  rename_i hcond
  obtain ⟨rfl,hl1,hl2,hl3,hmn⟩:=hcond
  cases he
  have hmxn:mx=none:=by
   cases mx with
   | none=>rfl
   | some y =>
    simp only [jG,cj] at hmx
    obtain ⟨yv,_,rfl⟩:=hmx
    simp at hmn
  rcases h1 with ⟨h2,h3,h4⟩ | ⟨h2,h3,ad,cap,h4⟩ | ⟨b,cap,c1,t1,fr,h2,h3,h4,h5,h6⟩
  ·subst h3 h4
   obtain ⟨m',hr,hm1,hm2⟩:=dV (P:=P) (isS:=true) s hlo hhi hmx e1 e2 e3 hl1 hl2 hl3 (bD _) hb
   have hm0:m'=0:=by omega
   subst hm0
   have hl0:l=0:=by omega
   have hh0:hh=0:=by omega
   subst hl0 hh0
   exact aI.pure s (cx ho ht hn h2 hr) (.inl ⟨by simp,by simp,by simp⟩)
  ·subst h2
   obtain ⟨m',hr,hm1,hm2⟩:=dV (P:=P) (isS:=true) (cap:=cap) s hlo hhi hmx e1 e2 e3 hl1 hl2 hl3 (cq _) hb
   have hl0:l=0:=by omega
   have hh0:hh=0:=by omega
   subst hl0 hh0
   refine aI.pure s (cx ho ht hn h4 hr) (.inr (.inl ⟨by simp,by simpa using h3,?_⟩))
   split
   ·exact ⟨_,_,rfl⟩
   ·exact ⟨_,_,rfl⟩
  ·obtain ⟨m',hr,hm1,hm2⟩:=dV (P:=P) (isS:=true) (cap:=cap) s hlo hhi hmx e1 e2 e3 hl1 hl2 hl3 h4 hb
   refine aI.pure s (cx ho ht hn h3 hr) ?_
   by_cases h0:hh=l∧off+l≠0
   ·obtain ⟨rfl,h0⟩:=h0
    refine .inr (.inl ⟨by simp,h0,?_⟩)
    rw [Nat.sub_self]
    split
    ·exact ⟨_,_,rfl⟩
    ·exact ⟨_,_,rfl⟩
   ·have hcap:(off+l) * st+(m' - l) * st≤c1.size:=by
     have e1:(off+l) * st+(m' - l) * st=off * st+m' * st:=by
      rw [← fJ,← fJ];congr 1;omega
     have e2:m' * st≤cap * st:=iO st hm2
     omega
    refine .inr (.inr ⟨b,m' - l,c1,t1,fr,h2,?_,by omega,h5,hcap⟩)
    have e3:(if m'=l then some (⟨b,off * st,none⟩:Addr) else (some (⟨b,off * st,none⟩:Addr)).map (·.add (l * st)))=some ⟨b,(off+l) * st,none⟩:=by
     split
     ·have:l=0:=by omega
      subst this
      simp
     ·simp only [cK,fR,fJ]
    rw [e3]
theorem H9 (s:aB c bl g h a w) {t:TypeId} {x:Operand} {lo hi:Option Operand} {xv:IV} {lov hiv:Option IV} (ho:o.op = .slice t x lo hi none) (ht:P.underlying t=some .string)
  (hx:cV x=some xv) (hlo:jG lo=some lov) (hhi:jG hi=some hiv) {v:AV} (he:iQ (val g xv) (lov.map (val g)) (hiv.map (val g))=some v):aI P c o a w g h v .no:=by
 have h1:=aG s hx
 cases hval:val g xv<;>rw [hval] at he h1<;>simp only [iQ] at he<;>try cases he
 case str st =>
  split at he
  case h_2=>cases he
  rename_i l hh e1 e2
  split at he
  case isFalse=>cases he
  rename_i hcond
  cases he
  have hsz:(ByteArray.mk st.toArray).size=st.length:=by simp [ByteArray.size]
  obtain ⟨m',hr,hm1,hm2⟩:=dV (P:=P) (isS:=false) (cap:=st.length) (mx:=none) (mxv:=none) s hlo hhi rfl e1 e2 rfl hcond.1 hcond.2 (bD _) (bD _) (by simp)
  refine aI.pure s (r:=.string ⟨((st.drop l).take (hh - l)).toArray⟩) ?_ (If _)
  have hex:(ByteArray.mk st.toArray).extract l hh=ByteArray.mk ((st.drop l).take (hh - l)).toArray:=by
   apply ByteArray.ext
   simp [ByteArray.data_extract,List.extract_toArray,List.extract_eq_take_drop]
  simp only [Option.map_none] at hr
  simp [execOp,ho,Instr.sliceAt,underlying,ht,Instr.slice,h1.str,hsz,hr,hex]
theorem jy {bl:Nat→Option Nat} {v:Value} {x:AV} {cs:List AV} (hv:aO bl M w v x) (hc:dJ x=some cs):aC (bq bl M w) v.cells.toList cs:=by
 have key:∀y,bq bl M w v y→aC (bq bl M w) v.cells.toList [y]:=fun y h1=>by
  have h2:=bq.one h1
  have h3:v.cells = #[v]:=by cases v<;>first | rfl | exact h2.elim
  rw [h3]
  exact ⟨h1,trivial⟩
 cases x with
 | agg cells =>
  simp only [dJ,bH] at hc
  subst hc
  obtain ⟨vs,rfl,h2⟩:=hv
  simpa [Value.cells] using h2
 | tup vs=>simp [dJ] at hc
 | any=>simp [dJ] at hc
 | _ =>
  simp only [dJ,bH] at hc
  subst hc
  exact key _ hv
theorem qq (vs:List Value):∀(k:Nat) (cs:Array Value) (off:Nat),off+k+vs.length≤cs.size→∀(i:Nat),
  ((vs.zipIdx k).foldl (fun (cs:Array Value) (p:Value×Nat)=>cs.setIfInBounds (off+p.2) p.1) cs)[i]? = if off+k≤i∧i<off+k+vs.length then vs[i - (off+k)]? else cs[i]?:=by
 induction vs with
 | nil=>intro k cs off h i;simp;intro h1 h2;omega
 | cons v r ih =>
  intro k cs off h i
  simp only [List.zipIdx_cons,List.foldl_cons,pD] at h ⊢
  rw [ih (k+1) (cs.setIfInBounds (off+k) v) off (by simp;omega) i,rW]
  by_cases h1:off+k=i
  ·subst h1
   rw [aJ (by omega),bz (by omega)]
   simp;omega
  ·by_cases h2:off+k≤i∧i<off+k+(r.length+1)
   ·rw [bz (by omega),bz h2,show i - (off+k)=(i - (off+(k+1)))+1 by omega,List.getElem?_cons_succ]
   ·rw [aJ (by omega),aJ h2,aJ h1]
theorem oy (vs:List Value):∀(k:Nat) (cs:Array Value) (off:Nat),
  ((vs.zipIdx k).foldl (fun (cs:Array Value) (p:Value×Nat)=>cs.setIfInBounds (off+p.2) p.1) cs).size=cs.size:=by
 induction vs with
 | nil=>intro k cs off;simp
 | cons v r ih=>intro k cs off;simp only [List.zipIdx_cons,List.foldl_cons];rw [ih];simp
theorem pu (r:List AV) (off:Nat) (cs:List AV) (h:off+cs.length≤r.length) (i:Nat) :
  (cH r off cs)[i]? = if off≤i∧i<off+cs.length then cs[i - off]? else r[i]?:=by
 unfold cH
 by_cases h1:i<off
 ·rw [aJ (by omega),vw,List.getElem?_append_left (by simp;omega),List.getElem?_take,bz h1]
 ·by_cases h2:i<off+cs.length
  ·rw [bz (by omega),List.getElem?_append_left (by simp;omega),List.getElem?_append_right (by simp;omega)]
   simp [Nat.min_eq_left (show off≤r.length by omega)]
  ·rw [aJ (by omega),List.getElem?_append_right (by simp;omega),List.getElem?_drop]
   congr 1
   simp
   omega
theorem jX (r:List AV) (off:Nat) (cs:List AV) (h:off+cs.length≤r.length):(cH r off cs).length=r.length:=by
 unfold cH;simp;omega
theorem BA {bl:Nat→Option Nat} {cs:Array Value} {cells:List AV} {v:Value} {ys:List AV} {off:Nat} (hc:aC (bq bl M w) cs.toList cells) (hv:aC (bq bl M w) v.cells.toList ys) (hl:off+ys.length≤cells.length) :
  aC (bq bl M w) (v.cells.zipIdx.foldl (fun (cs:Array Value) (p:Value×Nat)=>cs.setIfInBounds (off+p.2) p.1) cs).toList (cH cells off ys):=by
 have e1:=hc.length
 have e2:=hv.length
 simp only [gW] at e1 e2
 have hf:v.cells.zipIdx.foldl (fun (cs:Array Value) (p:Value×Nat)=>cs.setIfInBounds (off+p.2) p.1) cs=(v.cells.toList.zipIdx 0).foldl (fun (cs:Array Value) (p:Value×Nat)=>cs.setIfInBounds (off+p.2) p.1) cs:=by
  rw [← Array.foldl_toList,Array.toList_zipIdx]
 rw [hf]
 refine aC.of_get ?_ ?_
 ·rw [jX _ _ _ hl,gW,oy,e1]
 ·intro i x y hx hy
  rw [Array.getElem?_toList,qq _ _ _ _ (by simp;omega)] at hx
  rw [pu _ _ _ hl] at hy
  simp only [Nat.add_zero,gW,e2] at hx
  split at hx
  ·rename_i h1
   rw [bz h1] at hy
   obtain ⟨u,hu,hr⟩:=hv.get hy
   rw [hu] at hx
   cases hx
   exact hr
  ·rename_i h1
   rw [aJ h1] at hy
   obtain ⟨u,hu,hr⟩:=hc.get hy
   rw [Array.getElem?_toList,hx] at hu
   cases hu
   exact hr
end
section
variable {P:Program} {c:i3} {bl:Nat→Option Nat} {g:Nat→AV} {h:Nat→Option ac} {a:Act} {w:World} {o:Oper} {M:Nat→Prop}
theorem eU {t:TypeId} {z:List AV} (hz:gK P t=some z):∃i v,P.info? t=some i∧i.zero=some v∧aC (IRel M w) v.cells.toList z∧fE v.cells.toList=some z:=by
 unfold gK at hz
 split at hz
 ·rename_i i hi
  split at hz
  ·rename_i v hv
   exact ⟨i,v,hi,hv,j7 hz,hz⟩
  ·cases hz
 ·cases hz
theorem ow (s:aB c bl g h a w) {places:List (Nat×Nat)}:∀(parts:List (Nat×Operand)) (ps:List (Nat×Nat×IV)) (cs:Array Value) (cells out:List AV),lA places parts=some ps →
  aC (bq bl (aT bl c.MF h) w) cs.toList cells→fY (val g) cells ps=some out →
  ∃cs',Instr.fill (places.toArray[·]?) cs (parts.map fun (i,x)=>(i,a.eval x))=some cs'∧aC (bq bl (aT bl c.MF h) w) cs'.toList out
 | [],ps,cs,cells,out,hp,hc,ho=>by
  simp only [lA,bH] at hp
  subst hp
  simp only [fY,bH] at ho
  subst ho
  exact ⟨cs,rfl,hc⟩
 | (i,x) :: r,ps,cs,cells,out,hp,hc,ho=>by
  simp only [lA] at hp
  split at hp
  case h_2=>cases hp
  rename_i off n v l h1 h2 h3
  cases hp
  simp only [fY] at ho
  split at ho
  case h_2=>cases ho
  rename_i ys hys
  split at ho
  case isFalse=>cases ho
  rename_i hcond
  obtain ⟨hl1,hl2⟩:=hcond
  have hv:=jy (aG s h2) hys
  have e1:(a.eval x).cells.size=n:=by have:=hv.length;simp only [gW] at this;omega
  have e2:cs.size=cells.length:=by have:=hc.length;simpa only [gW] using this
  obtain ⟨cs',h4,h5⟩:=ow s r l _ _ out h3 (BA hc hv (by omega)) ho
  refine ⟨cs',?_,h5⟩
  simp only [ee,Instr.fill]
  simp only [List.getElem?_toArray] at h4 ⊢
  rw [h1]
  have hcond2:¬(decide ((a.eval x).cells.size≠n)||decide (off+(a.eval x).cells.size>cs.size))=true:=by simp;omega
  simp only [hcond2]
  exact h4
theorem DK (s:aB c bl g h a w) {t:TypeId} {fs:Array Field} {z:List AV} {places:List (Nat×Nat)} {parts:Array (Nat×Operand)} {ps:List (Nat×Nat×IV)} (ho:o.op = .build t parts) (ht:P.underlying t=some (.struct fs))
  (hz:gK P t=some z) (hpl:rS P fs=some places) (hp:lA places parts.toList=some ps) {out:List AV} (he:fY (val g) z ps=some out):aI P c o a w g h (.agg out) .no:=by
 obtain ⟨i,v,h1,h2,h3,_⟩:=eU (M:=aT bl c.MF h) (w:=w) hz
 obtain ⟨cs,h4,h5⟩:=ow s parts.toList ps v.cells z out hp (h3.mono fun _ _ _ hr=>IRel.toC hr) he
 have hb:P.built t (parts.map fun (i,x)=>(i,a.eval x)).toList=some cs:=by
  unfold rS at hpl
  simp only [Program.built,h1,ht,h2,hpl]
  rw [Array.toList_map]
  exact h4
 exact aI.pure s (r:=.agg cs) (by simp [execOp,ho,run_build w t _ cs hb]) ⟨cs.toList,by simp,h5⟩
theorem yy (s:aB c bl g h a w) {t e:TypeId} {n:Nat} {ie:TypeInfo} {z:List AV} {parts:Array (Nat×Operand)} (ho:o.op = .build t parts) (ht:P.underlying t=some (.array n e))
  (hz:gK P t=some z) (hie:P.info? e=some ie) (hp:parts.toList=[]):aI P c o a w g h (.agg z) .no:=by
 obtain ⟨i,v,h1,h2,h3,_⟩:=eU (M:=aT bl c.MF h) (w:=w) hz
 have hb:P.built t (parts.map fun (i,x)=>(i,a.eval x)).toList=some v.cells:=by
  simp only [Program.built,h1,ht,h2,hie]
  rw [Array.toList_map,hp]
  rfl
 exact aI.pure s (r:=.agg v.cells) (by simp [execOp,ho,run_build w t _ v.cells hb]) ⟨v.cells.toList,by simp,h3.mono fun _ _ _ hr=>IRel.toC hr⟩
theorem C4 {v:Value} {x:AV} (hc:oc v=some x) (i:Nat):mC i x=false:=by
 unfold oc at hc
 split at hc<;>first | (cases hc;done) | (cases hc;rfl)
theorem qy:∀{vs:List Value} {xs:List AV},fE vs=some xs→∀x∈xs,∀i,mC i x=false
 | [],xs,hc=>by simp only [fE,bH] at hc;subst hc;simp
 | v :: r,xs,hc=>by
  simp only [fE] at hc
  split at hc
  ·rename_i x ys h1 h2
   simp only [bH] at hc
   subst hc
   intro y hy i
   rcases bE.1 hy with rfl | hy
   ·exact C4 h1 i
   ·exact qy h2 y hy i
  ·cases hc
theorem gp (cs:Array Value):dY cs (0,0):=.inl rfl
theorem o9 (s:aB c bl g h a w) {d:Nat} {t:TypeId} {v:Value} {cs:List AV} (hd:h d=none) (hu:bO d g h) (hid:d<1000∨1267650600228229401496703205376≤d)
  (hrun:(execOp a.eval o).run P w = .ok (.value (.pointer (some ⟨w.heap.size,0,none⟩))) (w.alloc (.cells v.cells t)))
  (hc:aC (bq bl (aT bl c.MF h) w) v.cells.toList cs) (hno:∀x∈cs,mC d x=false):aI P c o a w g h (.mp d cs.length 0 0) (.new d ⟨t,cs.length,[cs],true⟩):=by
 have e1:=hc.length
 simp only [gW] at e1
 have hs:=s.new (i:=d) (o:=⟨t,cs.length,[cs],true⟩) (cs:=v.cells) (fr:=(0,0)) (w':=w.alloc (.cells v.cells t)) hd hu hid rfl rfl rfl (gp _)
  ⟨fun i r hr=>by
   cases i with
   | zero=>simp at hr;subst hr;rfl
   | succ i=>simp at hr,by simp [e1],fun i j r x hr hx=>by
   cases i with
   | zero =>
    simp at hr
    subst hr
    obtain ⟨u,hu1,hu2⟩:=hc.get hx
    exact ⟨u,by simpa using hu1,hu2⟩
   | succ i=>simp at hr⟩ (fun _ r hr x hx=>by
   simp at hr
   subst hr
   exact hno x hx)
 exact ⟨_,_,_,.inl hrun,hs,w.heap.size,bh _ _ _,by simp⟩
theorem MV (s:aB c bl g h a w) {d:Nat} {t:TypeId} {z:List AV} (ho:o.op = .alloc t) (hz:gK P t=some z) (hd:h d=none) (hu:bO d g h) (hid:d<1000∨1267650600228229401496703205376≤d) :
  aI P c o a w g h (.mp d z.length 0 0) (.new d ⟨t,z.length,[z],true⟩):=by
 obtain ⟨i,v,h1,h2,h3,h4⟩:=eU (M:=aT bl c.MF h) (w:=w) hz
 refine o9 (v:=v) s hd hu hid ?_ (h3.mono fun _ _ _ hr=>IRel.toC hr) (fun x hx=>qy h4 x hx d)
 simp [execOp,ho,Instr.alloc,zeroValue,typeInfo,h1,h2,newVar,newRow]
theorem MD (s:aB c bl g h a w) {d:Nat} {t:TypeId} {x:Operand} {xv:IV} {cs:List AV} (ho:o.op = .box t x) (hx:cV x=some xv) (hc:dJ (val g xv)=some cs) (hno:∀y∈cs,mC d y=false)
  (hd:h d=none) (hu:bO d g h) (hid:d<1000∨1267650600228229401496703205376≤d):aI P c o a w g h (.mp d cs.length 0 0) (.new d ⟨t,cs.length,[cs],true⟩):=by
 refine o9 (v:=a.eval x) s hd hu hid ?_ (jy (aG s hx) hc) hno
 simp [execOp,ho,Instr.box,newVar,newRow]
def qO (R:Value→AV→Prop) (st:Nat) (cs:Array Value) (rows:List (List AV)):Prop :=
 (∀(i:Nat) (r:List AV),rows[i]? = some r→r.length=st)∧cs.size=rows.length * st ∧
 ∀(i j:Nat) (r:List AV) (x:AV),rows[i]? = some r→r[j]? = some x→∃v,cs[i * st+j]? = some v∧R v x
theorem sP {bl:Nat→Option Nat} {v:Value} {x:AV} (hv:bq bl M w v x) (hi:db x=true):IRel M w v x:=by
 cases x<;>first | (simp [db] at hi;done) | exact hv
theorem qJ {st i j k:Nat} (hj:j<st):(k * st≤i * st+j∧i * st+j<k * st+st)↔i=k:=by
 constructor
 ·rintro ⟨h1,h2⟩
  rcases Nat.lt_trichotomy i k with hlt | heq | hgt
  ·have:=iO st (show i+1≤k by omega)
   rw [fJ] at this
   omega
  ·exact heq
  ·have:=iO st (show k+1≤i by omega)
   rw [fJ] at this
   omega
 ·rintro rfl
  omega
theorem qk (s:aB c bl g h a w) {st:Nat}:∀(parts:List (Nat×Operand)) (ps:List (Nat×IV)) (cs:Array Value) (rows out:List (List AV)),oe parts=some ps →
  qO (bq bl (aT bl c.MF h) w) st cs rows→eQ (val g) st rows ps=some out →
  ∃cs',Instr.fill (fun i=>some (i * st,st)) cs (parts.map fun (i,x)=>(i,a.eval x))=some cs'∧qO (bq bl (aT bl c.MF h) w) st cs' out
 | [],ps,cs,rows,out,hp,hc,ho=>by
  simp only [oe,bH] at hp
  subst hp
  simp only [eQ,bH] at ho
  subst ho
  exact ⟨cs,rfl,hc⟩
 | (k,x) :: r,ps,cs,rows,out,hp,hc,ho=>by
  simp only [oe] at hp
  split at hp
  case h_2=>cases hp
  rename_i v l h2 h3
  cases hp
  simp only [eQ] at ho
  split at ho
  case h_2=>cases ho
  rename_i ys hys
  split at ho
  case isFalse=>cases ho
  rename_i hcond
  obtain ⟨hl1,hl2⟩:=hcond
  have hv:=jy (aG s h2) hys
  have e1:(a.eval x).cells.size=st:=by have:=hv.length;simp only [gW] at this;omega
  obtain ⟨hr1,hr2,hr3⟩:=hc
  have hle:k * st+st≤cs.size:=by
   rw [hr2]
   have:=iO st (show k+1≤rows.length by omega)
   rw [fJ] at this
   omega
  have hfold:(a.eval x).cells.zipIdx.foldl (fun (cs:Array Value) (p:Value×Nat)=>cs.setIfInBounds (k * st+p.2) p.1) cs=((a.eval x).cells.toList.zipIdx 0).foldl (fun (cs:Array Value) (p:Value×Nat)=>cs.setIfInBounds (k * st+p.2) p.1) cs:=by
   rw [← Array.foldl_toList,Array.toList_zipIdx]
  obtain ⟨cs',h4,h5⟩:=qk s r l ((a.eval x).cells.zipIdx.foldl (fun (cs:Array Value) (p:Value×Nat)=>cs.setIfInBounds (k * st+p.2) p.1) cs) (rows.set k ys) out h3 ⟨fun i q hq=>by
    rw [List.getElem?_set] at hq
    split at hq
    ·cases hq;exact hl1
    ·exact hr1 i q hq,by rw [hfold,oy,hr2];simp,fun i j q y hq hy=>by
    rw [hfold,qq _ _ _ _ (by simp;omega)]
    simp only [Nat.add_zero,gW,e1]
    rw [List.getElem?_set] at hq
    split at hq
    ·rename_i hki
     subst hki
     cases hq
     have hj:j<st:=by rw [← hl1];exact (dE.1 hy).1
     obtain ⟨u,hu,hr⟩:=hv.get hy
     refine ⟨u,?_,hr⟩
     rw [bz (by omega),show k * st+j - k * st=j by omega]
     exact hu
    ·rename_i hki
     have hj:j<st:=by rw [← hr1 i q hq];exact (dE.1 hy).1
     obtain ⟨u,hu,hr⟩:=hr3 i j q y hq hy
     refine ⟨u,?_,hr⟩
     rw [aJ (fun hh=>hki ((qJ hj).1 hh).symm)]
     exact hu⟩ ho
  refine ⟨cs',?_,h5⟩
  simp only [ee,Instr.fill]
  have hcond2:¬(decide ((a.eval x).cells.size≠st)||decide (k * st+(a.eval x).cells.size>cs.size))=true:=by simp;omega
  simp only [hcond2]
  exact h4
theorem qN {z:Array Value} {zs:List AV} {st len:Nat} (hz:aC (IRel M w) z.toList zs) (hl:zs.length=st) (h0:1≤st) :
  qO (IRel M w) st ((Array.range (len * st)).map (z[· % z.size]!)) (List.replicate len zs):=by
 have e1:=hz.length
 simp only [gW] at e1
 refine ⟨fun i r hr=>?_,by simp,fun i j r x hr hx=>?_⟩
 ·rw [List.getElem?_replicate] at hr
  split at hr
  ·cases hr;exact hl
  ·cases hr
 ·rw [List.getElem?_replicate] at hr
  split at hr
  case isFalse=>cases hr
  rename_i hi
  cases hr
  have hj:j<st:=by rw [← hl];exact (dE.1 hx).1
  obtain ⟨u,hu,hr⟩:=hz.get hx
  refine ⟨u,?_,hr⟩
  have hlt:i * st+j<len * st:=by
   have:=iO st (show i+1≤len by omega)
   rw [fJ] at this
   omega
  have hmod:(i * st+j) % z.size=j:=by
   rw [show z.size=st by omega,Nat.add_comm,Nat.add_mul_mod_self_right]
   exact Nat.mod_eq_of_lt hj
  rw [Array.getElem?_map,Array.getElem?_range,bz hlt]
  simp only [cK,hmod]
  rw [Array.getElem?_toList] at hu
  rw [getElem!_pos z j (by omega)]
  rw [lq (by omega)] at hu
  exact hu
theorem gy (s:aB c bl g h a w) {d:Nat} {e:TypeId} {st:Nat} {cs:Array Value} {rows:List (List AV)} {fr:Nat×Nat} {len cap:Nat} {w':World} (hd:h d=none) (hu:bO d g h) (hid:d<1000∨1267650600228229401496703205376≤d)
  (hrun:(execOp a.eval o).run P w = .ok (.value (.slice (some ⟨w.heap.size,0,none⟩) len cap)) w') (hw:w'.heap=w.heap.push (.cells cs e fr)) (hos:w'.os=w.os) (hout:w'.output=w.output) (uf:dY cs fr)
  (hr1:∀(i:Nat) (r:List AV),rows[i]? = some r→r.length=st) (hr2:rows.length * st≤cs.size) (hlen:len≤cap) (hcap:cap * st≤cs.size)
  {q:Bool} (hr3:∀(i j:Nat) (r:List AV) (x:AV),rows[i]? = some r→r[j]? = some x→∃v,cs[i * st+j]? = some v∧fP q bl (aT bl c.MF h) w v x)
  (hno:q=true→∀r∈rows,∀x∈r,mC d x=false) :
  aI P c o a w g h (.ms d st 0 len) (.new d ⟨e,st,rows,q⟩):=by
 have hs:=s.new (i:=d) (o:=⟨e,st,rows,q⟩) (cs:=cs) (fr:=fr) (w':=w') hd hu hid hw hos hout uf ⟨hr1,hr2,hr3⟩ hno
 refine ⟨_,_,_,.inl hrun,hs,.inr (.inr ⟨w.heap.size,cap,cs,e,fr,bh _ _ _,by simp,hlen,by rw [hw];simp,by simpa using hcap⟩)⟩
theorem oM:∀{vs:List Value} {xs:List AV},fE vs=some xs→∀x∈xs,db x=true
 | [],xs,hc=>by simp only [fE,bH] at hc;subst hc;simp
 | v :: r,xs,hc=>by
  simp only [fE] at hc
  split at hc
  ·rename_i x ys h1 h2
   simp only [bH] at hc
   subst hc
   intro y hy
   rcases bE.1 hy with rfl | hy
   ·unfold oc at h1
    split at h1<;>first | (cases h1;done) | (cases h1;rfl)
   ·exact oM h2 y hy
  ·cases hc
theorem wn (s:aB c bl g h a w) {d:Nat} {t e:TypeId} {len n:Nat} {z:List AV} {parts:Array (Nat×Operand)} {ps:List (Nat×IV)} (ho:o.op = .buildSlice t len parts) (ht:P.underlying t=some (.slice e))
  (hz:gK P e=some z) (hn:dX P e=some n) (hp:oe parts.toList=some ps) (hzl:z.length=n) (h1:1≤n) (h3:len * n≤16777216) {out:List (List AV)} (he:eQ (val g) n (List.replicate len z) ps=some out)
  (hd:h d=none) (hu:bO d g h) (hid:d<1000∨1267650600228229401496703205376≤d) {q:Bool} (himm:q=false→∀r∈out,∀x∈r,db x=true) (hno:q=true→∀r∈out,∀x∈r,mC d x=false):aI P c o a w g h (.ms d n 0 out.length) (.new d ⟨e,n,out,q⟩):=by
 obtain ⟨i,v,h4,h5,h6,_⟩:=eU (M:=aT bl c.MF h) (w:=w) hz
 have hsz:i.size=n:=by simpa [dX,h4] using hn
 have hz0:=qN (len:=len) h6 hzl h1
 obtain ⟨cs,h7,h8,h9,h10⟩:=qk s parts.toList ps _ _ out hp ⟨hz0.1,hz0.2.1,fun i j r x h1 h2=>by obtain ⟨u,h3,h4⟩:=hz0.2.2 i j r x h1 h2;exact ⟨u,h3,IRel.toC h4⟩⟩ he
 have h11:∀(i j:Nat) (r:List AV) (x:AV),out[i]? = some r→r[j]? = some x→∃v,cs[i * n+j]? = some v∧fP q bl (aT bl c.MF h) w v x:=fun i j r x h1 h2=>by
  obtain ⟨u,h3,h4⟩:=h10 i j r x h1 h2
  refine ⟨u,h3,?_⟩
  cases q
  ·exact sP h4 (himm rfl r (f7 h1) x (f7 h2))
  ·exact h4
 have hlen:out.length=len:=by rw [n8 he];simp
 rw [hlen]
 by_cases hl0:len=0
 ·subst hl0
  simp only [Nat.zero_mul] at h7
  have hr0:(Array.range 0).map (v.cells[· % v.cells.size]!) = #[]:=by simp
  have hr1:(Array.range 0).map ((#[]:Array Value)[· % (#[]:Array Value).size]!) = #[]:=by simp
  rw [hr0] at h7
  refine gy (cs:=cs) (fr:=(0,0)) (cap:=0) (w':=w.alloc (.cells cs e)) s hd hu hid ?_ rfl rfl rfl (gp _) h8 (by omega) (bD _) (by simp) h11 hno
  have h7':Instr.fill (fun i=>some (i * n,n)) #[] (parts.map fun (i,x)=>(i,a.eval x)).toList=some cs:=by rw [Array.toList_map];exact h7
  have hra:Array.range 0 = #[]:=by simp
  simp only [execOp,ho,Instr.buildSlice,Sem.run_bind,run_underlying ht,Result.andThen_ok,lh hn,Nat.zero_mul,hra]
  simp [hra,h7,newRow]
 have hpos:0<len * n:=Nat.mul_pos (by omega) (by omega)
 refine gy (cs:=cs) (fr:=(0,0)) (cap:=len) (w':=w.alloc (.cells cs e)) s hd hu hid ?_ rfl rfl rfl (gp _) h8 (by omega) (bD _) (by rw [h9,hlen];exact bD _) h11 hno
 have hb:=run_buildSlice (P:=P) w t e len (parts.map fun (i,x)=>(i,a.eval x)) cs i v ht h4 h5 (by rw [hsz];omega) (by rw [hsz];omega) (by rw [hsz,Array.toList_map];exact h7)
 simp [execOp,ho,hb]
theorem ME (s:aB c bl g h a w) {d:Nat} {t e:TypeId} {len n:Nat} {z:List AV} {parts:Array (Nat×Operand)} {ps:List (Nat×IV)} (ho:o.op = .buildSlice t len parts) (ht:P.underlying t=some (.slice e))
  (hz:gK P e=some z) (hn:dX P e=some n) (hp:oe parts.toList=some ps) (hzl:z.length=n) (h1:1≤n) (h3:len * n≤16777216) {out:List (List AV)} (he:gY (val g) n (List.replicate len z) ps=some out)
  (hd:h d=none) (hu:bO d g h) (hid:d<1000∨1267650600228229401496703205376≤d):aI P c o a w g h (.ms d n 0 out.length) (.new d ⟨e,n,out,false⟩):=by
 obtain ⟨h4,h5⟩:=vI he
 obtain ⟨_,_,_,_,_,h6⟩:=eU (M:=aT bl c.MF h) (w:=w) hz
 exact wn s ho ht hz hn hp hzl h1 h3 h4 hd hu hid (q:=false) (fun _=>h5 fun r hr=>by obtain ⟨_,rfl⟩:=List.mem_replicate.1 hr;exact oM h6) (fun h=>by cases h)
end
section
variable {P:Program} {c:i3} {bl:Nat→Option Nat} {g:Nat→AV} {h:Nat→Option ac} {a:Act} {w:World} {o:Oper} {M:Nat→Prop}
theorem fO (b:Nat):∀(vs:List Value) (off:Nat) (w:World) {c1:Array Value} {t:TypeId} {fr:Nat×Nat},w.heap[b]? = some (.cells c1 t fr)→off+vs.length≤c1.size →
  ∃c2:Array Value,(w.setCells b off vs).heap[b]? = some (.cells c2 t fr)∧c2.size=c1.size∧(∀i:Nat,c2[i]? = if off≤i∧i<off+vs.length then vs[i - off]? else c1[i]?) ∧
   (w.setCells b off vs).heap.size=w.heap.size∧(∀b',b'≠b→(w.setCells b off vs).heap[b']? = w.heap[b']?)∧(w.setCells b off vs).os=w.os∧(w.setCells b off vs).output=w.output
 | [],off,w,c1,t,fr,hb,_=>⟨c1,hb,rfl,fun i=>by rw [aJ (by simp only [lp];omega)],rfl,fun _ _=>rfl,rfl,rfl⟩
 | v :: r,off,w,c1,t,fr,hb,hl=>by
  simp only [pD] at hl
  have hb1:(w.setCell ⟨b,off,none⟩ v).heap[b]? = some (.cells (c1.setIfInBounds off v) t fr):=by
   simp [World.setCell,lu,hb]
  obtain ⟨c2,h1,h2,h3,h4,h5,h6,h7⟩:=fO b r (off+1) (w.setCell ⟨b,off,none⟩ v) hb1 (by simp;omega)
  refine ⟨c2,h1,by rw [h2];simp,fun i=>?_,by rw [World.setCells,h4];simp,fun b' hb'=>?_,by rw [World.setCells,h6];rfl,by rw [World.setCells,h7];rfl⟩
  ·rw [h3 i,rW]
   simp only [pD]
   by_cases e1:off=i
   ·subst e1
    rw [aJ (by omega),bz (by omega)]
    simp;omega
   ·by_cases e2:off≤i∧i<off+(r.length+1)
    ·rw [bz (by omega),bz e2,show i - off=(i - (off+1))+1 by omega,List.getElem?_cons_succ]
    ·rw [aJ (by omega),aJ e2,aJ e1]
  ·rw [World.setCells,h5 b' hb']
   simp [World.setCell,lu,Ne.symm hb']
theorem UN {v:Value} (h:fj v):v.oneCell'=true:=by cases v<;>first | rfl | exact h.elim
theorem f6 {b off:Nat} {vs:List Value} {c1:Array Value} {t:TypeId} {fr:Nat×Nat} (hb:w.heap[b]? = some (.cells c1 t fr)) (uf:dY c1 fr) (hl:off+vs.length≤c1.size) (h1:∀v∈vs,fj v) :
  (storeCells ⟨b,off,none⟩ vs).run P w = .ok () (w.setCells b off vs):=by
 have:=run_storeCells_cells (P:=P) b off vs 0 w (fun j hj=>by rw [dx hb];simp;omega) (fun j hj=>by
  simp only [World.frozen?,hb]
  have:=uf.spec (off+0+j) (by omega)
  simp only [Bool.and_eq_false_iff,decide_eq_false_iff_not]
  omega) (fun v hv=>UN (h1 v hv))
 simpa using this
theorem aC.left {α β:Type} {R:α→β→Prop} {p:α→Prop}:∀{l:List α} {m:List β},aC R l m→(∀a b,R a b→p a)→∀a∈l,p a
 | [],[],_,_=>by simp
 | a :: _,_ :: _,h,f=>fun x hx=>by
  rcases bE.1 hx with rfl | hx
  ·exact f _ _ h.1
  ·exact h.2.left f x hx
 | [],_ :: _,h,_=>h.elim
 | _ :: _,[],h,_=>h.elim
theorem DO (s:aB c bl g h a w) {t:TypeId} {n:Nat} {p x:Operand} {pv xv:IV} (ho:o.op = .store t p x) (hn:dX P t=some n) (hp:cV p=some pv) (hx:cV x=some xv)
  {e:aM} (he:fD n (val g pv) (val g xv) h=some e):aI P c o a w g h .any e:=by
 have h1:=aG s hp
 unfold fD at he
 split at he
 case h_2=>cases he
 rename_i id st row off cs e1 e2
 rw [e1] at h1
 split at he
 case h_2=>cases he
 rename_i ob hob
 split at he
 case isFalse=>cases he
 rename_i hcond
 obtain ⟨hst,hlen,himm⟩:=hcond
 split at he
 case h_2=>cases he
 rename_i r hr
 split at he
 case isFalse=>cases he
 rename_i hfit
 cases he
 have hv:=jy (aG s hx) e2
 have el:=hv.length
 simp only [gW] at el
 obtain ⟨b,hb,hpv⟩:=h1.mp
 rcases s.heap.1 id ob hob with hn0 | ⟨b',h2,⟨gk,c1,fr,h3,h4,h5,h6,h7,h8⟩ | hsp⟩
 ·rw [hn0.2.2] at hb;cases hb
 rotate_left
 ·exact (hsp.no hr).elim
 rw [hb] at h2
 cases h2
 have hrl:=h6 _ _ hr
 have hrow:row<ob.rows.length:=(dE.1 hr).1
 have hspace:row * ob.st+ob.st≤c1.size:=by
  have:=iO ob.st (show row+1≤ob.rows.length by omega)
  rw [fJ] at this
  omega
 have hsz:(sizeOf t).run P w = .ok n w:=lh hn
 have hrun:(execOp a.eval o).run P w = .ok .skip (w.setCells b (row * st+off) (a.eval x).cells.toList):=by
  have hst':=f6 (P:=P) (w:=w) (b:=b) (off:=row * st+off) (vs:=(a.eval x).cells.toList) h3 h4 (by simp only [gW];rw [← hst];omega) (hv.left fun _ _ hr=>bq.one hr)
  simp [execOp,ho,Instr.storeAt,Instr.sureAddr,hpv,storeVar,hsz,el,hlen,hst']
 obtain ⟨c2,g1,g2,g3,g4,g5,g6,g7⟩:=fO b (a.eval x).cells.toList (row * st+off) w h3 (by simp only [gW];rw [← hst];omega)
 simp only [gW,el,hlen] at g3
 have hspl:(cH r off cs).length=r.length:=jX _ _ _ (by omega)
 have hs:=s.write (o':={ ob with rows:=ob.rows.set row (cH r off cs) }) hob hb h3 g1 g2 g4 g5 g6 g7 rfl ⟨fun i q hq=>by
   simp only at hq ⊢
   rw [List.getElem?_set] at hq
   split at hq
   ·cases hq;omega
   ·exact h6 i q hq,by simpa [g2] using h7,fun i j q y hq hy=>by
   simp only at hq hy ⊢
   rw [List.getElem?_set] at hq
   rw [g3]
   split at hq
   ·rename_i hri
    subst hri
    cases hq
    rw [pu _ _ _ (by omega)] at hy
    by_cases hin:off≤j∧j<off+cs.length
    ·rw [bz hin] at hy
     rw [bz (by rw [← hst];omega)]
     obtain ⟨u,hu,hr'⟩:=hv.get hy
     refine ⟨u,by rw [← hu];congr 1;rw [← hst];omega,?_⟩
     cases hrec:ob.isRec with
     | true=>exact hr'
     | false =>
      rw [hrec] at himm
      simp only [rV] at himm
      exact sP hr' (cZ.1 himm y (f7 hy))
    ·rw [aJ hin] at hy
     rw [aJ (by rw [← hst];omega)]
     exact h8 _ _ _ _ hr hy
   ·rename_i hri
    have hj:j<ob.st:=by rw [← h6 i q hq];exact (dE.1 hy).1
    rw [aJ (fun hh=>hri (by
     rw [← hst] at hh
     exact ((qJ (k:=row) hj).1 ⟨by omega,by omega⟩).symm))]
    exact h8 _ _ _ _ hq hy⟩
 exact ⟨undef,_,bl,.inr ⟨hrun,rfl⟩,hs,trivial⟩
theorem MQ (s:aB c bl g h a w) {d:Nat} {t e:TypeId} {st:Nat} {z:List AV} {l cp:Operand} {lv cv:IV} (ho:o.op = .makeSlice t l cp) (hap:gZ P t=some (e,st)) (hz:gK P e=some z) (hl:cV l=some lv) (hcp:cV cp=some cv)
  {n m:Int} (e1:val g lv = .int .i64 n) (e2:val g cv = .int .i64 m) (h0:0≤n) (h1:n≤m) (h2:m<1073741824) (hzl:z.length=st)
  (hd:h d=none) (hu:bO d g h) (hid:d<1000∨1267650600228229401496703205376≤d):aI P c o a w g h (.ms d st 0 n.toNat) (.new d ⟨e,st,List.replicate n.toNat z,false⟩):=by
 unfold gZ at hap
 split at hap
 case h_2=>cases hap
 rename_i e' ht
 split at hap
 case h_2=>cases hap
 rename_i i z' hi hz'
 split at hap
 case isFalse=>cases hap
 rename_i hcond
 obtain ⟨hb1,hb2,hb3,hb4⟩:=hcond
 cases hap
 rw [hz] at hz'
 cases hz'
 obtain ⟨i',v,h4,h5,h6,_⟩:=eU (M:=aT bl c.MF h) (w:=w) hz
 rw [hi] at h4
 cases h4
 have r1:=aG s hl
 have r2:=aG s hcp
 rw [e1] at r1
 rw [e2] at r2
 have hzr:=qN (len:=m.toNat) h6 rfl (by omega)
 rw [hb3] at hzr
 refine gy (q:=false) (w':=w.alloc (.cells ((Array.range (m.toNat * i.size)).map (v.cells[· % v.cells.size]!)) e)) (cs:=(Array.range (m.toNat * i.size)).map (v.cells[· % v.cells.size]!)) (fr:=(0,0)) (cap:=m.toNat) s hd hu hid ?_ rfl rfl rfl (gp _) ?_ ?_ (by omega) (by simp) ?_ (fun h=>by cases h)
 ·have hwl:IntKind.i64.wrap n=n:=IntWalk.i64_in _ (by omega)
  have hwm:IntKind.i64.wrap m=m:=IntWalk.i64_in _ (by omega)
  have hbig:¬((i.bytes:Int) * m>2 ^ 48):=by
   have:(i.bytes:Int) * m≤1024 * m:=Int.mul_le_mul_of_nonneg_right (by omega) (by omega)
   omega
  have hbig2:¬(281474976710656:Int)<(i.bytes:Int) * m:=by simpa using hbig
  have hm0:¬m<0:=by omega
  have hn0:¬n<0:=by omega
  have hnm:¬n>m:=by omega
  have hnm':¬m<n:=by omega
  simp only [execOp,ho,r1.int,r2.int]
  by_cases hz0:m.toNat * i.size=0
  ·simp [Instr.makeSlice,underlying,ht,asInt,asIntOf,typeInfo,hi,hwl,hwm,hbig2,hm0,hn0,hnm',sizeOf,hz0,newRow]
   have hr0:Array.range 0 = #[]:=by simp
   rw [hr0,Array.map_empty,Array.map_empty]
  ·simp [Instr.makeSlice,underlying,ht,asInt,asIntOf,typeInfo,hi,hwl,hwm,hbig2,hm0,hn0,hnm',sizeOf,hz0,newRow,zeroValue,h5]
 ·intro k r hr
  rw [List.getElem?_replicate] at hr
  split at hr
  ·cases hr;exact hb3
  ·cases hr
 ·simp only [List.length_replicate,hzr.2.1]
  exact iO _ (by omega)
 ·intro k j r x hr hx
  refine hzr.2.2 k j r x ?_ hx
  rw [List.getElem?_replicate] at hr ⊢
  split at hr
  ·cases hr;rw [bz (by omega)]
  ·cases hr
end
section
variable {P:Program} {c:i3} {bl:Nat→Option Nat} {g:Nat→AV} {h:Nat→Option ac} {a:Act} {w w':World} {o:Oper} {M:Nat→Prop}
theorem aB.newS (s:aB c bl g h a w) {i:Nat} {o:ac} {ob:Obj} (hi:h i=none) (hu:bO i g h)
  (hid:i<1000∨1267650600228229401496703205376≤i) (hw:w'.heap=w.heap.push ob) (hos:w'.os=w.os) (hout:w'.output=w.output) (hrows:o.rows=[]) (hrec:o.isRec=false)
  (hrel:qP o.k w' w.heap.size) :
  aB c (cJ bl i (some w.heap.size)) g (cJ h i (some o)) a w':=by
 have hbl:∀j,j≠i→cJ bl i (some w.heap.size) j=bl j:=fun j hj=>bB _ _ hj
 have hlt:∀j oj b,h j=some oj→bl j=some b→b<w.heap.size:=fun j oj b h1 h2=>by
  rcases s.heap.1 j oj h1 with h3 | ⟨b',h3,hO⟩
  ·rw [h3.2.2] at h2;cases h2
  ·rw [h2] at h3;cases h3;exact hO.lt
 have hmut:∀b,aT (cJ bl i (some w.heap.size)) c.MF (cJ h i (some o)) b→aT bl c.MF h b∨b=w.heap.size:=by
  rintro b (hm | ⟨j,oj,h1,h2⟩)
  ·exact .inl (.inl hm)
  ·by_cases hj:j=i
   ·subst hj;rw [bh] at h2;cases h2;exact .inr rfl
   ·rw [bB _ _ hj] at h1 h2;exact .inl (.inr ⟨j,oj,h1,h2⟩)
 have hpush:∀b,b<w.heap.size→w'.heap[b]? = w.heap[b]?:=fun b hb=>by
  rw [hw,Array.getElem?_push];simp [Nat.ne_of_lt hb]
 have ht:Tr (aT bl c.MF h) (aT (cJ bl i (some w.heap.size)) c.MF (cJ h i (some o))) w w':=by
  refine ⟨fun b hb hlt'=>⟨fun hm=>?_,hpush b hlt'⟩,fun b c1 t f1 hb=>⟨c1,f1,by rw [hpush b (aZ hb)];exact hb,rfl⟩⟩
  rcases hmut b hm with hm | hm
  ·exact hb hm
  ·exact absurd hm (Nat.ne_of_lt hlt')
 refine ⟨s.defers,s.size,fun k=>(s.env k).tr ht (fun id hmi=>hbl id (fun e=>?_)),⟨fun id o1 h1=>?_,fun id id' o1 o2 b h1 h2 h3 h4=>?_⟩,?_,fun id o1 b h1 h2=>?_,fun id h1 h2=>?_,s.mf⟩
 ·subst e;rw [hu.1 k] at hmi;cases hmi
 ·by_cases hj:id=i
  ·subst hj
   rw [bh] at h1
   cases h1
   refine .inr ⟨w.heap.size,bh _ _ _,.inr ⟨hrows,hrec,fun hm=>?_,hrel⟩⟩
   exact absurd (s.mf _ hm) (Nat.not_lt.2 s.step.size)
  ·rw [bB _ _ hj] at h1
   rcases s.heap.1 id o1 h1 with h3 | ⟨b,h3,⟨hk0,c1,f1,h4,h5,h6,h7,h8,h9⟩ | hsp⟩
   ·exact .inl ⟨h3.1,h3.2.1,by rw [hbl id hj];exact h3.2.2⟩
   rotate_left
   ·exact .inr ⟨b,by rw [hbl id hj];exact h3,.inr (hsp.tr (hpush b hsp.rel.lt))⟩
   ·refine .inr ⟨b,by rw [hbl id hj];exact h3,.inl ⟨hk0,c1,f1,by rw [hpush b (aZ h4)];exact h4,h5,h6,h7,h8,fun k j r x hk hx=>?_⟩⟩
    obtain ⟨v,hv1,hv2⟩:=h9 k j r x hk hx
    refine ⟨v,hv1,hv2.tr ht (fun hr id' hmi=>hbl id' (fun e=>?_))⟩
    subst e
    rw [hu.2 id o1 h1 hr r (f7 hk) x (f7 hx)] at hmi
    cases hmi
 ·by_cases hj:id=i<;>by_cases hj':id'=i
  ·rw [hj,hj']
  ·subst hj
   rw [bh] at h3
   cases h3
   rw [bB _ _ hj'] at h2 h4
   exact absurd (hlt _ _ _ h2 h4) (Nat.lt_irrefl _)
  ·subst hj'
   rw [bh] at h4
   cases h4
   rw [bB _ _ hj] at h1 h3
   exact absurd (hlt _ _ _ h1 h3) (Nat.lt_irrefl _)
  ·rw [bB _ _ hj] at h1 h3
   rw [bB _ _ hj'] at h2 h4
   exact s.heap.2 _ _ _ _ _ h1 h2 h3 h4
 ·refine s.step.trans (X:=fun _=>False) ⟨by rw [hw];simp,fun b hb _=>hpush b hb,ht.shape,hos,hout⟩ (fun _ _ h=>h.elim)
 ·by_cases hj:id=i
  ·subst hj
   rw [bh] at h2
   cases h2
   exact .inl s.step.size
  ·rw [bB _ _ hj] at h1 h2
   exact s.own id o1 b h1 h2
 ·rw [hbl id (by omega)]
  exact s.stab id h1 h2
theorem aB.writeS (s:aB c bl g h a w) {i b:Nat} {o o':ac} (hi:h i=some o) (hb:bl i=some b) (hsp:vG c.MF w o b)
  (hrows:o'.rows=[]) (hrec:o'.isRec=false) (hrel:qP o'.k w' b) (hsize:w'.heap.size=w.heap.size)
  (hother:∀b',b'≠b→w'.heap[b']? = w.heap[b']?) (hos:w'.os=w.os) (hout:w'.output=w.output):aB c bl g (cJ h i (some o')) a w':=by
 have hm:∀b,aT bl c.MF (cJ h i (some o')) b↔aT bl c.MF h b:=aT.congr (fun j=>by
  by_cases hj:j=i
  ·subst hj;simp [bh,hi]
  ·rw [bB _ _ hj])
 have hmb:aT bl c.MF h b:=.inr ⟨i,o,hi,hb⟩
 have hshape:∀(b':Nat) (c0:Array Value) (t:TypeId) (f0:Nat×Nat),w.heap[b']? = some (.cells c0 t f0)→∃(c':Array Value) (f1:Nat×Nat),w'.heap[b']? = some (.cells c' t f1)∧c'.size=c0.size:=by
  intro b' c0 t f0 hb'
  by_cases hbb:b'=b
  ·subst hbb
   exact (hsp.ne hb').elim
  ·exact ⟨c0,f0,by rw [hother b' hbb];exact hb',rfl⟩
 have ht:Tr (aT bl c.MF h) (aT bl c.MF (cJ h i (some o'))) w w' :=
  ⟨fun b' hb' _=>⟨fun hmm=>hb' ((hm b').1 hmm),hother b' (fun e=>hb' (e▸hmb))⟩,hshape⟩
 refine ⟨s.defers,s.size,fun k=>(s.env k).tr ht (fun _ _=>rfl),⟨fun id o1 h3=>?_,fun id id' o1 o2 b' h3 h4=>?_⟩,?_,fun id o1 b' h3=>?_,s.stab,s.mf⟩
 ·by_cases hj:id=i
  ·subst hj
   rw [bh] at h3
   cases h3
   exact .inr ⟨b,hb,.inr ⟨hrows,hrec,hsp.free,hrel⟩⟩
  ·rw [bB _ _ hj] at h3
   rcases s.heap.1 id o1 h3 with g3 | ⟨b',g3,⟨hk0,c0,f0,g4,g5,g6,g7,g8,g9⟩ | hsp'⟩
   ·exact .inl g3
   rotate_left
   ·have hbb:b'≠b:=fun e=>hj (s.heap.2 id i o1 o b h3 hi (e▸g3) hb)
    exact .inr ⟨b',g3,.inr (hsp'.tr (hother b' hbb))⟩
   ·have hbb:b'≠b:=fun e=>hj (s.heap.2 id i o1 o b h3 hi (e▸g3) hb)
    refine .inr ⟨b',g3,.inl ⟨hk0,c0,f0,by rw [hother b' hbb];exact g4,g5,g6,g7,g8,fun k j r x hk hx=>?_⟩⟩
    obtain ⟨v,hv1,hv2⟩:=g9 k j r x hk hx
    exact ⟨v,hv1,hv2.tr ht (fun _ _ _=>rfl)⟩
 ·have key:∀{j oj},cJ h i (some o') j=some oj→∃o0,h j=some o0:=fun {j oj} hj=>by
   by_cases hji:j=i
   ·subst hji;exact ⟨o,hi⟩
   ·rw [bB _ _ hji] at hj;exact ⟨oj,hj⟩
  obtain ⟨p,hp⟩:=key h3
  obtain ⟨q,hq⟩:=key h4
  exact s.heap.2 id id' p q b' hp hq
 ·refine s.step.trans (X:=fun b'=>b'=b) ⟨Nat.le_of_eq hsize.symm,fun b' _ hb'=>hother b' hb',hshape,hos,hout⟩ (fun b' hlt hb'=>?_)
  subst hb'
  rcases s.own i o b' hi hb with h5 | h5
  ·exact absurd hlt (Nat.not_lt.2 h5)
  ·exact h5
 ·by_cases hj:id=i
  ·subst hj;exact s.own id o b' hi
  ·rw [bB _ _ hj] at h3;exact s.own id o1 b' h3
theorem DI (s:aB c bl g h a w) {v:Value} {id:Nat} {k:Bool} {ob:ac} (hv:aO bl (aT bl c.MF h) w v (.mm id k)) (hob:h id=some ob) (hk:ob.k≠Kd.cells) :
  ∃b,bl id=some b∧(v=if k=true then .map (some b) else .pointer (some ⟨b,0,none⟩))∧vG c.MF w ob b:=by
 obtain ⟨b,h1,h2⟩:=hv
 rcases s.heap.1 id ob hob with hn | ⟨b',h3,⟨h4,_⟩ | hsp⟩
 ·rw [hn.2.2] at h1;cases h1
 ·exact absurd h4 hk
 ·rw [h1] at h3;cases h3;exact ⟨b,h1,h2,hsp⟩
theorem gg {v:Value} {x:AV} (hv:aO bl M w v x) (hf:ig x=true):dv v x:=by
 cases x<;>first | (simp [ig] at hf;done) | skip
 ·exact hv.bool
 ·exact hv.int
 ·exact hv.str
theorem fT {v:Value} {x:AV} (hv:dv v x):IRel M w v x:=by
 cases x<;>simp only [dv] at hv<;>first | (exact hv.elim) | (subst hv;constructor)
theorem oE (w:World) {b:Nat} (hb:b<w.heap.size) (ob:Obj):({ w with heap:=w.heap.setIfInBounds b ob }:World).heap[b]? = some ob∧({ w with heap:=w.heap.setIfInBounds b ob }:World).heap.size=w.heap.size ∧
  ∀b',b'≠b→({ w with heap:=w.heap.setIfInBounds b ob }:World).heap[b']? = w.heap[b']?:=by
 refine ⟨by simp [hb],by simp,fun b' hb'=>by simp [rW,Ne.symm hb']⟩
theorem ir {w:World} {r:Nat} {ob:Obj} (hb:w.heap[r]? = some ob) (hn:∀c t fr,ob≠.cells c t fr):(getObj r).run P w = .ok ob w:=by
 cases ob<;>first | (exact absurd rfl (hn _ _ _)) | simp [getObj,Sem.run,hb]
theorem MX (s:aB c bl g h a w) {t:TypeId} {x:Operand} {xv:IV} {l:List UInt8} {d:Nat} (ho:o.op = .range t x) (ht:P.underlying t=some .string) (hx:cV x=some xv) (hv:val g xv = .str l)
  (hd:h d=none) (hu:bO d g h) (hid:d<1000∨1267650600228229401496703205376≤d):aI P c o a w g h (.mm d false) (.new d (@ac.mk 0 0 [] false (.it l 0))):=by
 have h1:=aG s hx
 rw [hv] at h1
 have h2:a.eval x = .string ⟨l.toArray⟩:=h1.str
 have hs:=s.newS (i:=d) (o:=@ac.mk 0 0 [] false (.it l 0)) (ob:=.stringIter ⟨l.toArray⟩ 0) (w':={ w with heap:=w.heap.push (.stringIter ⟨l.toArray⟩ 0) }) hd hu hid rfl rfl rfl rfl rfl (by simp [qP])
 refine ⟨.pointer (some ⟨w.heap.size,0,none⟩),_,_,.inl ?_,hs,w.heap.size,bh _ _ _,by simp⟩
 simp [execOp,ho,Instr.range,run_underlying ht,h2,newObj,Sem.run]
theorem MW (s:aB c bl g h a w) {x:Operand} {xv:IV} {id:Nat} {ob:ac} {r:AV} {e:aM} (ho:o.op = .next x true) (hx:cV x=some xv) (hv:val g xv = .mm id false) (hob:h id=some ob) (he:qR id ob=some (r,e)) :
  aI P c o a w g h r e:=by
 unfold qR Nl at he
 cases hk:ob.k with
 | cells=>rw [hk] at he;cases he
 | mp es=>rw [hk] at he;cases he
 | it l pos =>
  rw [hk] at he
  simp only at he
  have h1:=aG s hx
  rw [hv] at h1
  obtain ⟨b,h2,h3,hsp⟩:=DI s h1 hob (by rw [hk];intro hh;cases hh)
  have hr:=hsp.rel
  rw [hk] at hr
  have hb:w.heap[b]? = some (.stringIter ⟨l.toArray⟩ pos):=hr
  have hg:=ir (P:=P) hb (fun _ _ _ hh=>by cases hh)
  have hsz:(⟨l.toArray⟩:ByteArray).size=l.length:=by simp [ByteArray.size]
  simp only [tT,fp] at h3
  split at he
  ·rename_i hlt
   cases he
   obtain ⟨q1,q2,q3⟩:=oE w (aZ hb) (.stringIter ⟨l.toArray⟩ (pos+(Utf8.decode ⟨l.toArray⟩ pos).2))
   have hs:=s.writeS (o':={ ob with k:=.it l (pos+(Utf8.decode ⟨l.toArray⟩ pos).2) }) hob h2 hsp hsp.rows hsp.isRec q1 q2 q3 rfl rfl
   refine ⟨.tuple #[.bool true,goInt pos,.int .i32 (Utf8.decode ⟨l.toArray⟩ pos).1],_,_,.inl ?_,hs,[_,_,_],rfl,IRel.bool _,IRel.int _ _,IRel.int _ _,trivial⟩
   simp [execOp,ho,Instr.next,h3,hg,hsz,hlt,setObj,Sem.run,hb]
  ·rename_i hlt
   cases he
   exact aI.pure s (r:=.tuple #[.bool false]) (by simp [execOp,ho,Instr.next,h3,hg,hsz,hlt]) ⟨[_],rfl,IRel.bool _,trivial⟩
theorem MP (s:aB c bl g h a w) {t:TypeId} {d:Nat} (ho:o.op = .makeMap t none)
  (hd:h d=none) (hu:bO d g h) (hid:d<1000∨1267650600228229401496703205376≤d):aI P c o a w g h (.mm d true) (.new d (@ac.mk 0 0 [] false (.mp []))):=by
 have hs:=s.newS (i:=d) (o:=@ac.mk 0 0 [] false (.mp [])) (ob:=.map #[] 0) (w':={ w with heap:=w.heap.push (.map #[] 0) }) hd hu hid rfl rfl rfl rfl rfl ⟨#[],by simp,by simp,trivial⟩
 refine ⟨.map (some w.heap.size),_,_,.inl ?_,hs,w.heap.size,bh _ _ _,by simp⟩
 simp [execOp,ho,Instr.makeMap,newObj,Sem.run]
def lw (es':List MapEntry) (es:List (AV×AV)):Prop:=aC (fun (e:MapEntry) (p:AV×AV)=>dv e.key p.1∧dv e.val p.2) es' es
theorem oV (s:aB c bl g h a w) {x:Operand} {xv:IV} {id:Nat} {ob:ac} {es:List (AV×AV)} (hx:cV x=some xv) (hv:val g xv = .mm id true) (hob:h id=some ob) (he:kG ob=some es) :
  ∃b es',bl id=some b∧a.eval x = .map (some b)∧vG c.MF w ob b∧w.heap[b]? = some (.map es' es'.size)∧(∀(i:Nat) (e:MapEntry),es'[i]? = some e→e.born=i)∧lw es'.toList es:=by
 unfold kG at he
 cases hk:ob.k with
 | cells=>rw [hk] at he;cases he
 | it l pos=>rw [hk] at he;cases he
 | mp es0 =>
  rw [hk] at he
  cases he
  have h1:=aG s hx
  rw [hv] at h1
  obtain ⟨b,h2,h3,hsp⟩:=DI s h1 hob (by rw [hk];intro hh;cases hh)
  have hr:=hsp.rel
  rw [hk] at hr
  obtain ⟨es',h4,h5,h6⟩:=hr
  exact ⟨b,es',h2,by simpa using h3,hsp,h4,h5,h6⟩
theorem MS (s:aB c bl g h a w) {cl:Call} {t k0 e0:TypeId} {x:Operand} {xv:IV} {id:Nat} {ob:ac} {es:List (AV×AV)} (ho:o.op = .call cl) (hcl:cl.callee = .builtin .len) (hat:cl.argTypes = #[t]) (har:cl.args = #[x])
  (ht:P.underlying t=some (.map k0 e0)) (hx:cV x=some xv) (hv:val g xv = .mm id true) (hob:h id=some ob) (he:kG ob=some es):aI P c o a w g h (.int .i64 es.length) .no:=by
 obtain ⟨b,es',h1,h2,h3,h4,h5,h6⟩:=oV s hx hv hob he
 have hg:=ir (P:=P) h4 (fun _ _ _ hh=>by cases hh)
 have hl:=h6.length
 simp only [gW] at hl
 exact aI.pure s (r:=goInt es'.size) (by simp [execOp,ho,resolve,hcl,har,hat,invoke,builtin,Builtin.len_,run_underlying ht,h2,hg]) (by rw [goInt,hl];exact jq _ _)
def NO (kd:KK) (u:TypeDesc):Prop :=
 match kd with
 | .i=>∃k,u = .int k
 | .s=>u = .string
 | .b=>u = .bool
theorem yh {t:TypeId} {kd:KK} (hk:L8 P t=some kd):∃u,P.underlying t=some u∧NO kd u:=by
 unfold L8 at hk
 split at hk<;>cases hk
 ·rename_i k h1;exact ⟨_,h1,k,rfl⟩
 ·rename_i h1;exact ⟨_,h1,rfl⟩
 ·rename_i h1;exact ⟨_,h1,rfl⟩
theorem Et {kd:KK} {u:TypeDesc} (hu:NO kd u) {key key':Value} {x x':AV} {r:Bool} (h1:aO bl M w key x) (h2:dv key' x') (hs:wy kd x x'=some r):Instr.sameNow u key key'=some r:=by
 cases kd<;>cases x<;>cases x'<;>simp only [wy,reduceCtorEq,bH] at hs
 ·rename_i k n k' n'
  split at hs
  case isFalse=>cases hs
  rename_i hk
  subst hk
  rw [h1.int]
  cases h2
  obtain ⟨k0,rfl⟩:=hu
  simpa [Instr.sameNow] using hs
 ·rw [h1.str]
  cases h2
  cases hu
  subst hs
  simp only [Instr.sameNow,bH]
  rename_i l1 l2
  change (l1.toArray==l2.toArray)=_
  simp
 ·rw [h1.bool]
  cases h2
  cases hu
  simpa [Instr.sameNow] using hs
theorem BB {kd:KK} {u:TypeDesc} (hu:NO kd u) {key:Value} {x:AV} (h1:aO bl M w key x):∀{es':List MapEntry} {es:List (AV×AV)} {r:Option Nat} (i:Nat),lw es' es→gF kd x es=some r →
  Instr.findNow u key es' i=some (match r with | none=>none | some j=>(es'[j]?).map fun e=>(i+j,e.val))∧∀j,r=some j→j<es'.length
 | [],[],r,i,_,hf=>by
  simp only [gF,bH] at hf
  subst hf
  exact ⟨rfl,fun j hj=>by cases hj⟩
 | e :: es',p :: es,r,i,hE,hf=>by
  simp only [gF] at hf
  split at hf
  ·rename_i hs
   cases hf
   refine ⟨?_,fun j hj=>by cases hj;simp⟩
   simp [Instr.findNow,Et hu h1 hE.1.1 hs]
  ·rename_i hs
   simp only [cj] at hf
   obtain ⟨q,hq,rfl⟩:=hf
   obtain ⟨h3,h4⟩:=BB hu h1 (i+1) hE.2 hq
   refine ⟨?_,fun j hj=>?_⟩
   ·simp only [Instr.findNow,Et hu h1 hE.1.1 hs,h3]
    cases q with
    | none=>rfl
    | some j=>simp [EM,Nat.add_comm 1 j]
   ·cases q with
    | none=>cases hj
    | some j'=>cases hj;have:=h4 j' rfl;simp;omega
  ·cases hf
 | [],_ :: _,_,_,hE,_=>hE.elim
 | _ :: _,[],_,_,hE,_=>hE.elim
theorem kl {t:TypeId} {z:AV} (hz:wC P t=some z):∃i v,P.info? t=some i∧i.zero=some v∧dv v z:=by
 unfold wC at hz
 split at hz
 ·rename_i i hi
  split at hz<;>cases hz
  ·rename_i b hv;exact ⟨i,_,hi,hv,rfl⟩
  ·rename_i k n hv;exact ⟨i,_,hi,hv,rfl⟩
  ·rename_i l hv;exact ⟨i,_,hi,hv,by simp [dv]⟩
 ·cases hz
theorem jF {t:TypeId} {kd:KK} {z:AV} (hz:nu P t=some (kd,z)):∃k e u,P.underlying t=some (.map k e)∧P.underlying k=some u∧NO kd u∧wC P e=some z:=by
 unfold nu at hz
 split at hz
 ·rename_i k e h1
  split at hz
  ·rename_i kd' z' h2 h3
   cases hz
   obtain ⟨u,h4,h5⟩:=yh h2
   exact ⟨k,e,u,h1,h4,h5,h3⟩
  ·cases hz
 ·cases hz
theorem cg {kd:KK} {u:TypeDesc} {t:TypeId} (hu:NO kd u) (ht:P.underlying t=some u) (b:Bool) (v:Value):(Instr.checkKey b 10000 t v).run P w = .ok () w:=by
 have key:∀n,(Instr.checkKey b (n+1) t v).run P w = .ok () w:=fun n=>by
  cases kd
  ·obtain ⟨k,rfl⟩:=hu
   simp only [Instr.checkKey,Sem.run_bind,run_underlying ht,Result.andThen_ok]
   rfl
  ·cases hu
   simp only [Instr.checkKey,Sem.run_bind,run_underlying ht,Result.andThen_ok]
   rfl
  ·cases hu
   simp only [Instr.checkKey,Sem.run_bind,run_underlying ht,Result.andThen_ok]
   rfl
 exact key 9999
theorem dW {kd:KK} {u:TypeDesc} {t:TypeId} (hu:NO kd u) (ht:P.underlying t=some u) {key:Value} {x:AV} (h1:aO bl M w key x) {es':List MapEntry} {es:List (AV×AV)} {r:Option Nat} (hE:lw es' es) (hf:gF kd x es=some r) :
  (Instr.findKey t key es').run P w = .ok (r.bind fun j=>(es'[j]?).map fun e=>(j,e.val)) w∧∀j,r=some j→j<es'.length:=by
 obtain ⟨h2,h3⟩:=BB hu h1 0 hE hf
 refine ⟨?_,h3⟩
 simp only [Nat.zero_add] at h2
 simp only [Instr.findKey,Sem.run_bind,run_underlying ht,Result.andThen_ok,h2]
 cases r<;>rfl
theorem ov {es':List MapEntry} {es:List (AV×AV)} (hE:lw es' es) {j:Nat} (hj:j<es'.length):∃e p,es'[j]? = some e∧es[j]? = some p∧dv e.key p.1∧dv e.val p.2:=by
 have hl:=hE.length
 have h1:es[j]? = some (es[j]'(by omega)):=eJ _
 obtain ⟨e,h2,h3⟩:=hE.get h1
 exact ⟨e,_,h2,h1,h3⟩
theorem wo (s:aB c bl g h a w) {t:TypeId} {x y:Operand} {yv:IV} {ok:Bool} {kd:KK} {z r:AV} {ob:ac} {e:aM} (ho:o.op = .lookup t x y ok) (ht:nu P t=some (kd,z)) (hy:cV y=some yv)
  (hm:∀es,kG ob=some es→∃b es',a.eval x = .map (some b)∧w.heap[b]? = some (.map es' es'.size)∧lw es'.toList es) (he:j3 ok kd z (val g yv) ob=some (r,e)):aI P c o a w g h r e:=by
 obtain ⟨k,el,u,q1,q2,q3,q4⟩:=jF ht
 unfold j3 at he
 split at he
 case h_2=>cases he
 rename_i es hes
 obtain ⟨b,es',h2,h4,h6⟩:=hm es hes
 have hg:=ir (P:=P) h4 (fun _ _ _ hh=>by cases hh)
 have hk:=aG s hy
 split at he
 ·rename_i i hf
  obtain ⟨f1,f2⟩:=dW (P:=P) q3 q2 hk h6 hf
  obtain ⟨en,p,e1,e2,e3,e4⟩:=ov h6 (f2 i rfl)
  rw [e2] at he
  simp only [bH,Prod.mk.injEq] at he
  obtain ⟨rfl,rfl⟩:=he
  simp only [Option.bind_some,e1,cK] at f1
  cases ok
  ·exact aI.pure s (r:=en.val) (by simp [execOp,ho,Instr.lookup,run_underlying q1,h2,hg,cg q3 q2,f1]) (IRel.toC (fT e4)).toV
  ·exact aI.pure s (r:=.tuple #[en.val,.bool true]) (by simp [execOp,ho,Instr.lookup,run_underlying q1,h2,hg,cg q3 q2,f1]) ⟨[_,_],rfl,(IRel.toC (fT e4)).toG,IRel.bool _,trivial⟩
 ·rename_i hf
  obtain ⟨f1,f2⟩:=dW (P:=P) q3 q2 hk h6 hf
  simp only [Option.bind_none] at f1
  obtain ⟨i,zv,z1,z2,z3⟩:=kl q4
  have hz:(zeroValue el).run P w = .ok zv w:=by simp [zeroValue,typeInfo,z1,z2]
  simp only [bH,Prod.mk.injEq] at he
  obtain ⟨rfl,rfl⟩:=he
  cases ok
  ·exact aI.pure s (r:=zv) (by simp [execOp,ho,Instr.lookup,run_underlying q1,h2,hg,cg q3 q2,f1,hz]) (IRel.toC (fT z3)).toV
  ·exact aI.pure s (r:=.tuple #[zv,.bool false]) (by simp [execOp,ho,Instr.lookup,run_underlying q1,h2,hg,cg q3 q2,f1,hz]) ⟨[_,_],rfl,(IRel.toC (fT z3)).toG,IRel.bool _,trivial⟩
 ·cases he
theorem MR (s:aB c bl g h a w) {t:TypeId} {x y:Operand} {xv yv:IV} {ok:Bool} {kd:KK} {z r:AV} {id:Nat} {ob:ac} {e:aM} (ho:o.op = .lookup t x y ok) (ht:nu P t=some (kd,z)) (hx:cV x=some xv) (hy:cV y=some yv)
  (hv:val g xv = .mm id true) (hob:h id=some ob) (he:j3 ok kd z (val g yv) ob=some (r,e)):aI P c o a w g h r e :=
 wo s ho ht hy (fun es hes=>by
  obtain ⟨b,es',h1,h2,h3,h4,h5,h6⟩:=oV s hx hv hob hes
  exact ⟨b,es',h2,h4,h6⟩) he
theorem H3 (s:aB c bl g h a w) {t:TypeId} {x y:Operand} {xv yv:IV} {ok:Bool} {kd:KK} {z r:AV} {es:List (AV×AV)} {e:aM} (ho:o.op = .lookup t x y ok) (ht:nu P t=some (kd,z)) (hx:cV x=some xv) (hy:cV y=some yv)
  (hv:val g xv = .fm es) (he:j3 ok kd z (val g yv) (@ac.mk 0 0 [] false (.mp es))=some (r,e)):aI P c o a w g h r e:=by
 have h1:=aG s hx
 rw [hv] at h1
 have h2:IRel (aT bl c.MF h) w (a.eval x) (.fm es):=h1
 generalize hq:a.eval x=q at h2
 cases h2 with
 | fm b es' es hb hM hn he'=>exact wo s ho ht hy (fun es1 hes=>by cases hes;exact ⟨b,es',hq,hb,he'⟩) he
 | nm =>
  obtain ⟨k,el,u,q1,q2,q3,q4⟩:=jF ht
  have hk:=aG s hy
  have hE:lw ([]:List MapEntry) []:=trivial
  obtain ⟨f1,f2⟩:=dW (P:=P) (es':=[]) (es:=[]) (r:=none) q3 q2 hk hE rfl
  simp only [Option.bind_none] at f1
  obtain ⟨i,zv,z1,z2,z3⟩:=kl q4
  have hz:(zeroValue el).run P w = .ok zv w:=by simp [zeroValue,typeInfo,z1,z2]
  simp only [j3,kG,gF,bH,Prod.mk.injEq] at he
  obtain ⟨rfl,rfl⟩:=he
  cases ok
  ·exact aI.pure s (r:=zv) (by simp [execOp,ho,Instr.lookup,run_underlying q1,hq,cg q3 q2,f1,hz]) (IRel.toC (fT z3)).toV
  ·exact aI.pure s (r:=.tuple #[zv,.bool false]) (by simp [execOp,ho,Instr.lookup,run_underlying q1,hq,cg q3 q2,f1,hz]) ⟨[_,_],rfl,(IRel.toC (fT z3)).toG,IRel.bool _,trivial⟩
theorem pS {v v':Value} {x:AV} (h1:dv v x) (h2:dv v' x):Instr.sameBits 10000 v v'=true:=by
 cases x<;>simp only [dv] at h1 h2<;>first | (exact h1.elim) | skip
 all_goals
  subst h1
  subst h2
  first
   | (simp [Instr.sameBits];done)
   | (rename_i l;show ((l.toArray==l.toArray)=true);simp)
theorem px {v v':Value} {x:AV} (h1:dv v x) (h2:dv v' x):(Instr.keyThatStays v v').run P w = .ok v' w:=by
 simp [Instr.keyThatStays,pS h1 h2]
theorem j9 {kd:KK} {x:AV} (hx:ig x=true):∀{es:List (AV×AV)} {j:Nat} {p:AV×AV},gF kd x es=some (some j)→es[j]? = some p→p.1=x
 | [],j,p,hf,_=>by simp [gF] at hf
 | e :: es,j,p,hf,hp=>by
  simp only [gF] at hf
  split at hf
  ·rename_i hs
   cases hf
   simp at hp
   subst hp
   cases kd<;>cases x<;>cases h1:e.1<;>rw [h1] at hs<;>simp only [wy,reduceCtorEq,bH] at hs
   ·split at hs
    ·rename_i hk;subst hk;simp at hs;rw [hs]
    ·cases hs
   ·simp at hs;rw [hs]
   ·simp at hs;rw [hs]
  ·simp only [cj] at hf
   obtain ⟨q,hq,hj⟩:=hf
   cases q with
   | none=>simp at hj
   | some j' =>
    simp at hj
    subst hj
    exact j9 hx hq (by simpa using hp)
  ·cases hf
theorem jc {es':List MapEntry} {es:List (AV×AV)} (hE:lw es' es) {j:Nat} {f:MapEntry→MapEntry} {q:AV×AV→AV×AV}
  (hfq:∀e p,es'[j]? = some e→es[j]? = some p→dv e.key p.1→dv e.val p.2→dv (f e).key (q p).1∧dv (f e).val (q p).2):lw (es'.modify j f) (es.modify j q):=by
 refine aC.of_get (by simpa using hE.length) fun i e p h1 h2=>?_
 rw [List.getElem?_modify] at h1 h2
 simp only [Option.map_eq_map,cj] at h1 h2
 obtain ⟨e0,h1,rfl⟩:=h1
 obtain ⟨p0,h2,rfl⟩:=h2
 obtain ⟨e1,h3,h4⟩:=hE.get h2
 rw [h1] at h3
 cases h3
 by_cases hj:j=i
 ·subst hj
  simp only [cX]
  exact hfq e0 p0 h1 h2 h4.1 h4.2
 ·simp only [aJ hj]
  exact h4
theorem jC (s:aB c bl g h a w) {id b:Nat} {ob:ac} {es2:List (AV×AV)} {es':Array MapEntry} (hob:h id=some ob) (h1:bl id=some b) (hsp:vG c.MF w ob b)
  (hb:∀(i:Nat) (e:MapEntry),es'[i]? = some e→e.born=i) (hE:lw es'.toList es2) :
  aB c bl (aM.env g (.put id { ob with k:=.mp es2 })) (aM.hp h (.put id { ob with k:=.mp es2 })) a { w with heap:=w.heap.setIfInBounds b (.map es' es'.size) }:=by
 obtain ⟨q1,q2,q3⟩:=oE w hsp.rel.lt (.map es' es'.size)
 exact s.writeS (o':={ ob with k:=.mp es2 }) hob h1 hsp hsp.rows hsp.isRec ⟨es',q1,hb,hE⟩ q2 q3 rfl rfl
theorem ju {w:World} {r:Nat} {es:Array MapEntry} {n:Nat} {ob:Obj} (hb:w.heap[r]? = some (.map es n)):(setObj r ob).run P w = .ok () { w with heap:=w.heap.setIfInBounds r ob }:=by
 simp [setObj,Sem.run,hb]
theorem i9 {es':Array MapEntry} (hb:∀(i:Nat) (e:MapEntry),es'[i]? = some e→e.born=i) {j:Nat} {f:MapEntry→MapEntry} (hf:∀e,(f e).born=e.born):∀(i:Nat) (e:MapEntry),(es'.modify j f)[i]? = some e→e.born=i:=fun i e he=>by
 rw [lu] at he
 split at he
 ·simp only [cj] at he
  obtain ⟨e0,h1,rfl⟩:=he
  rw [hf]
  exact hb i e0 h1
 ·exact hb i e he
theorem p5 {es':Array MapEntry} (hb:∀(i:Nat) (e:MapEntry),es'[i]? = some e→e.born=i) {k v:Value}:∀(i:Nat) (e:MapEntry),(es'.push { key:=k,val:=v,born:=es'.size })[i]? = some e→e.born=i:=fun i e he=>by
 rw [Array.getElem?_push] at he
 split at he
 ·cases he;rename_i h;exact h.symm
 ·exact hb i e he
theorem qe {es':Array MapEntry} {es:List (AV×AV)} (hE:lw es'.toList es) {k v:Value} {n:Nat} {x y:AV} (h1:dv k x) (h2:dv v y):lw (es'.push { key:=k,val:=v,born:=n }).toList (es++[(x,y)]):=by
 rw [Array.toList_push]
 exact aC.append hE ⟨⟨h1,h2⟩,trivial⟩
theorem pR {t:TypeId} {kd:KK} {z:AV} (ht:nu P t=some (kd,z)) {m k v:Value} {x y:AV} {b:Nat} {es':Array MapEntry} {es es2:List (AV×AV)} (hm:m = .map (some b)) (h4:w.heap[b]? = some (.map es' es'.size))
  (h5:∀(i:Nat) (e:MapEntry),es'[i]? = some e→e.born=i) (h6:lw es'.toList es) (hk:aO bl M w k x) (hv:aO bl M w v y) (fx:ig x=true) (fy:ig y=true) (hp:DX kd x y es=some es2) :
  ∃es2':Array MapEntry,(Instr.mapUpdate t m k v).run P w = .ok () { w with heap:=w.heap.setIfInBounds b (.map es2' es2'.size) }∧(∀(i:Nat) (e:MapEntry),es2'[i]? = some e→e.born=i)∧lw es2'.toList es2:=by
 obtain ⟨kt,el,u,q1,q2,q3,q4⟩:=jF ht
 have hg:=ir (P:=P) h4 (fun _ _ _ hh=>by cases hh)
 unfold DX at hp
 split at hp
 ·rename_i i hf
  obtain ⟨f1,f2⟩:=dW (P:=P) q3 q2 hk h6 hf
  obtain ⟨en,p,e1,e2,e3,e4⟩:=ov h6 (f2 i rfl)
  cases hp
  simp only [Option.bind_some,e1,cK] at f1
  have PE:p.1=x:=j9 fx hf e2
  rw [PE] at e3
  have hst:=px (P:=P) (w:=w) e3 (gg hk fx)
  have e1':es'[i]? = some en:=by simpa using e1
  refine ⟨es'.modify i fun e=>{ e with key:=k,val:=v },?_,i9 h5 (fun _=>rfl),?_⟩
  ·simp only [Instr.mapUpdate,Sem.run_bind,run_underlying q1,Result.andThen_ok,hm,hg,cg q3 q2,f1,e1',cK,Option.getD_some,hst,ju h4,Array.size_modify]
  ·rw [Array.toList_modify]
   exact jc h6 fun e p _ _ _ _=>⟨gg hk fx,gg hv fy⟩
 ·rename_i hf
  obtain ⟨f1,f2⟩:=dW (P:=P) q3 q2 hk h6 hf
  cases hp
  simp only [Option.bind_none] at f1
  refine ⟨es'.push { key:=k,val:=v,born:=es'.size },?_,p5 h5,qe h6 (gg hk fx) (gg hv fy)⟩
  simp only [Instr.mapUpdate,Sem.run_bind,run_underlying q1,Result.andThen_ok,hm,hg,cg q3 q2,f1,ju h4,Array.size_push]
 ·cases hp
theorem DN (s:aB c bl g h a w) {t:TypeId} {x y q:Operand} {xv yv qv:IV} {kd:KK} {z r:AV} {id:Nat} {ob:ac} {e:aM} (ho:o.op = .mapUpdate t x y q∨o.op = .insert t x y q) (ht:nu P t=some (kd,z)) (hx:cV x=some xv) (hy:cV y=some yv) (hq:cV q=some qv)
  (hv:val g xv = .mm id true) (hob:h id=some ob) (he:nZ id kd (val g yv) (val g qv) ob=some (r,e)):aI P c o a w g h r e:=by
 unfold nZ at he
 split at he
 case h_2=>cases he
 rename_i es hes
 split at he
 case isFalse=>cases he
 rename_i hfl
 simp only [dZ] at hfl
 simp only [cj] at he
 obtain ⟨es2,hp,he⟩:=he
 cases he
 obtain ⟨b,es',h1,h2,h3,h4,h5,h6⟩:=oV s hx hv hob hes
 obtain ⟨es2',r1,r2,r3⟩:=pR (P:=P) ht h2 h4 h5 h6 (aG s hy) (aG s hq) hfl.1 hfl.2 hp
 refine ⟨undef,_,bl,.inr ⟨?_,rfl⟩,jC s hob h1 h3 r2 r3,trivial⟩
 rcases ho with ho | ho<;>simp [execOp,ho,r1]
theorem MT (s:aB c bl g h a w) {t:TypeId} {x y:Operand} {xv yv:IV} {kd:KK} {z r:AV} {id:Nat} {ob:ac} {e:aM} (ho:o.op = .mapEntry t x y) (ht:nu P t=some (kd,z)) (hx:cV x=some xv) (hy:cV y=some yv)
  (hv:val g xv = .mm id true) (hob:h id=some ob) (he:sn id kd z (val g yv) ob=some (r,e)):aI P c o a w g h r e:=by
 obtain ⟨k,el,u,q1,q2,q3,q4⟩:=jF ht
 unfold sn at he
 split at he
 case h_2=>cases he
 rename_i es hes
 split at he
 case isFalse=>cases he
 rename_i hfl
 obtain ⟨b,es',h1,h2,h3,h4,h5,h6⟩:=oV s hx hv hob hes
 have hg:=ir (P:=P) h4 (fun _ _ _ hh=>by cases hh)
 have hk:=aG s hy
 split at he
 ·rename_i i hf
  obtain ⟨f1,f2⟩:=dW (P:=P) q3 q2 hk h6 hf
  obtain ⟨en,p,e1,e2,e3,e4⟩:=ov h6 (f2 i rfl)
  rw [e2] at he
  simp only [bH,Prod.mk.injEq] at he
  obtain ⟨rfl,rfl⟩:=he
  simp only [Option.bind_some,e1,cK] at f1
  have PE:p.1=val g yv:=j9 hfl hf e2
  have e3':=e3
  rw [PE] at e3'
  have hst:=px (P:=P) (w:=w) e3' (gg hk hfl)
  have e1':es'[i]? = some en:=by simpa using e1
  have hS:=jC (es':=es'.modify i fun e=>{ e with key:=a.eval y }) (es2:=es) s hob h1 h3 (i9 h5 (fun _=>rfl)) (by
   rw [Array.toList_modify]
   have:=jc (q:=fun p=>p) (f:=fun e=>{ e with key:=a.eval y }) (j:=i) h6 fun e' p' g1 g2 g3 g4=>⟨by
    rw [e2] at g2
    cases g2
    show dv (a.eval y) p.1
    rw [PE]
    exact gg hk hfl,g4⟩
   rwa [show es.modify i (fun p=>p)=es from List.modify_id _ _] at this)
  have hke:ob.k = .mp es:=by
   unfold kG at hes
   split at hes
   ·rename_i h;cases hes;exact h
   ·cases hes
  have hoe:({ ob with k:=.mp es }:ac)=ob:=by cases ob;simp_all
  rw [hoe] at hS
  refine ⟨.tuple #[en.val,goInt en.born],_,bl,.inl ?_,hS,[_,_],rfl,(IRel.toC (fT e4)).toG,?_,trivial⟩
  ·simp only [execOp,ho,Instr.mapEntry,Sem.run_bind,run_underlying q1,Result.andThen_ok,h2,hg,cg q3 q2,f1,e1',cK,Option.getD_some,hst,ju h4,Array.size_modify,Sem.run_pure]
  ·rw [h5 i en e1']
   exact IRel.int _ _
 ·rename_i hf
  obtain ⟨f1,f2⟩:=dW (P:=P) q3 q2 hk h6 hf
  simp only [Option.bind_none] at f1
  obtain ⟨i,zv,z1,z2,z3⟩:=kl q4
  have hz:∀w,(zeroValue el).run P w = .ok zv w:=fun w=>by simp [zeroValue,typeInfo,z1,z2]
  simp only [bH,Prod.mk.injEq] at he
  obtain ⟨rfl,rfl⟩:=he
  have hS:=jC (es':=es'.push { key:=a.eval y,val:=zv,born:=es'.size }) s hob h1 h3 (p5 h5) (qe h6 (gg hk hfl) z3)
  refine ⟨.tuple #[zv,goInt es'.size],_,bl,.inl ?_,hS,[_,_],rfl,(IRel.toC (fT z3)).toG,?_,trivial⟩
  ·simp only [execOp,ho,Instr.mapEntry,Sem.run_bind,run_underlying q1,Result.andThen_ok,h2,hg,cg q3 q2,f1,hz,ju h4,Array.size_push,Sem.run_pure]
  ·have hl:=h6.length
   simp only [gW] at hl
   rw [goInt,hl]
   exact IRel.int _ _
 ·cases he
theorem xK {es':Array MapEntry} (hb:∀(i:Nat) (e:MapEntry),es'[i]? = some e→e.born=i) {n:Nat} (hn:n<es'.size):es'.findIdx? (fun e=>(e.born:Int)==(n:Int))=some n:=by
 rw [Array.findIdx?_eq_some_iff_getElem]
 refine ⟨hn,?_,fun j hj=>?_⟩
 ·have:=hb n es'[n] (by simp [hn])
  simp [this]
 ·have:=hb j (es'[j]'(by omega)) (by simp [show j<es'.size by omega])
  simp [this]
  omega
theorem MU (s:aB c bl g h a w) {t:TypeId} {x y q:Operand} {xv yv qv:IV} {n:Int} {r:AV} {id:Nat} {ob:ac} {e:aM} (ho:o.op = .entryStore t x y q) (hx:cV x=some xv) (hy:cV y=some yv) (hq:cV q=some qv)
  (hv:val g xv = .mm id true) (hn:val g yv = .int .i64 n) (hob:h id=some ob) (he:wW id n (val g qv) ob=some (r,e)):aI P c o a w g h r e:=by
 unfold wW at he
 split at he
 case h_2=>cases he
 rename_i es hes
 split at he
 case isFalse=>cases he
 rename_i hcond
 obtain ⟨c1,c2,c3⟩:=hcond
 cases he
 obtain ⟨b,es',h1,h2,h3,h4,h5,h6⟩:=oV s hx hv hob hes
 have hg:=ir (P:=P) h4 (fun _ _ _ hh=>by cases hh)
 have hl:=h6.length
 simp only [gW] at hl
 have h7:=aG s hy
 rw [hn] at h7
 have h8:=h7.int
 have hfb:=xK h5 (n:=n.toNat) (by omega)
 rw [show ((n.toNat:Nat):Int)=n by omega] at hfb
 have hS:=jC (es':=es'.modify n.toNat fun e=>{ e with val:=a.eval q }) (es2:=es.modify n.toNat fun e=>(e.1,val g qv)) s hob h1 h3 (i9 h5 (fun _=>rfl)) (by
  rw [Array.toList_modify]
  exact jc h6 fun e' p' g1 g2 g3 g4=>⟨g3,gg (aG s hq) c3⟩)
 refine ⟨undef,_,bl,.inr ⟨?_,rfl⟩,hS,trivial⟩
 simp only [execOp,ho,Instr.entryStore,Sem.run_bind,h2,hg,Result.andThen_ok,h8,asInt,asIntOf,Sem.run_pure,hfb,ju h4,Array.size_modify]
end
section
variable {P:Program} {c:i3} {bl:Nat→Option Nat} {g:Nat→AV} {h:Nat→Option ac} {a:Act} {w:World} {o:Oper} {M:Nat→Prop}
theorem qs (n:Nat):∀(k c:Nat),256≤c→c≤2 * n→Builtin.growBy n k c≤2 * n
 | 0,c,hc,h=>by simpa [Builtin.growBy] using h
 | k+1,c,hc,h=>by
  simp only [Builtin.growBy]
  split
  ·exact h
  ·exact qs n k (c+(c+768) / 4) (by omega) (by omega)
theorem uU {n c:Nat} (h:c<n):Builtin.nextslicecap n c≤2 * n:=by
 unfold Builtin.nextslicecap
 split
 ·omega
 ·split
  ·omega
  ·exact qs n 4 c (by omega) (by omega)
structure zU (P:Program) (w:World) (st:Nat) (y:Value) (n:Nat) (ys:List Value):Prop where
 len:∀w':World,(Builtin.lenOf y).run P w' = .ok n w'
 vals:∀w':World,w'.heap=w.heap→(Builtin.firstCells st n y).run P w' = .ok ys.toArray w'
def gX (R:Value→AV→Prop) (st:Nat) (ys:List Value) (rows:List (List AV)):Prop :=
 (∀(i:Nat) (r:List AV),rows[i]? = some r→r.length=st)∧ys.length=rows.length * st ∧
 ∀(i j:Nat) (r:List AV) (x:AV),rows[i]? = some r→r[j]? = some x→∃v,ys[i * st+j]? = some v∧R v x
theorem gX.mono {R R':Value→AV→Prop} {st:Nat} {ys:List Value} {rows:List (List AV)} (h:gX R st ys rows) (f:∀v x,R v x→R' v x):gX R' st ys rows :=
 ⟨h.1,h.2.1,fun i j r x h1 h2=>by obtain ⟨v,h3,h4⟩:=h.2.2 i j r x h1 h2;exact ⟨v,h3,f _ _ h4⟩⟩
theorem iq {R:Value→AV→Prop} {b off st:Nat} {c1:Array Value} {t:TypeId} {fr:Nat×Nat} {rows:List (List AV)} (hb:w.heap[b]? = some (.cells c1 t fr))
  (hr:∀(i:Nat) (r:List AV),rows[i]? = some r→r.length=st)
  (hx:∀(i j:Nat) (r:List AV) (x:AV),rows[i]? = some r→r[j]? = some x→∃v,c1[off+i * st+j]? = some v∧R v x) :
  ∃ys:List Value,gX R st ys rows∧∀w':World,w'.heap=w.heap→(loadCells ⟨b,off,none⟩ (rows.length * st)).run P w' = .ok ys.toArray w':=by
 have hcell:∀k,k<rows.length * st→∃v,c1[off+k]? = some v:=fun k hk=>by
  have hst:0<st:=by
   rcases Nat.eq_zero_or_pos st with h0 | h0
   ·subst h0;simp at hk
   ·exact h0
  have hi:k / st<rows.length:=Nat.div_lt_of_lt_mul (by rw [Nat.mul_comm];exact hk)
  have e1:rows[k / st]? = some rows[k / st]:=eJ hi
  have hl:=hr _ _ e1
  have hj:k % st<st:=Nat.mod_lt _ hst
  obtain ⟨v,hv,_⟩:=hx _ (k % st) _ _ e1 (eJ (by omega))
  refine ⟨v,?_⟩
  rw [← hv]
  congr 1
  have:=Nat.div_add_mod k st
  rw [Nat.mul_comm] at this
  omega
 refine ⟨(List.range (rows.length * st)).map fun k=>(c1[off+k]?).getD default,⟨hr,by simp,fun i j r x hi hj=>?_⟩,fun w' hw=>?_⟩
 ·obtain ⟨v,hv,hrel⟩:=hx i j r x hi hj
  refine ⟨v,?_,hrel⟩
  have hj':j<st:=by rw [← hr i r hi];exact (dE.1 hj).1
  have hi':i<rows.length:=(dE.1 hi).1
  have hlt:i * st+j<rows.length * st:=by
   have:=iO st (show i+1≤rows.length by omega)
   rw [fJ] at this
   omega
  rw [d_,List.getElem?_range hlt]
  simp only [cK]
  rw [← EM,hv]
  rfl
 ·have hld:=run_loadCells_list (P:=P) (w:=w') ⟨b,off,none⟩ ((List.range (rows.length * st)).map fun k=>(c1[off+k]?).getD default) (fun j v hv=>by
   rw [d_] at hv
   simp only [cj] at hv
   obtain ⟨k,hk,rfl⟩:=hv
   obtain ⟨hlt,hk⟩:=dE.1 hk
   simp only [List.getElem_range] at hk
   subst hk
   simp only [List.length_range] at hlt
   obtain ⟨v,hv⟩:=hcell j hlt
   rw [fR,dx (w:=w') (by rw [hw];exact hb),hv]
   rfl)
  simpa using hld
theorem nP (st:Nat):zU P w st (.slice none 0 0) 0 []:=⟨fun w'=>by simp [Builtin.lenOf],fun w' _=>by simp [Builtin.firstCells]⟩
theorem fo {R:Value→AV→Prop} (st:Nat):gX R st [] []:=⟨fun i r hr=>by simp at hr,by simp,fun i j r x hr=>by simp at hr⟩
theorem jE (st:Nat) (ad:Addr) (cap:Nat):zU P w st (.slice (some ad) 0 cap) 0 []:=⟨fun w'=>by simp [Builtin.lenOf],fun w' _=>by simp [Builtin.firstCells,loadCells,loadCellsFrom]⟩
theorem fP.up {q q':Bool} {v:Value} {x:AV} (h:fP q bl M w v x) (hq:q=true→q'=true):fP q' bl M w v x:=by
 cases q<;>cases q'
 ·exact h
 ·exact IRel.toC h
 ·cases hq rfl
 ·exact h
theorem pw (s:aB c bl g h a w) {st:Nat} {y:Operand} {yv:IV} (hy:cV y=some yv) {rows:List (List AV)} (hr:iV st h (val g yv)=some rows) {q:Bool} (hq:lT h (val g yv)=true→q=true) :
  ∃ys,zU P w st (a.eval y) rows.length ys∧gX (fP q bl (aT bl c.MF h) w) st ys rows:=by
 have h1:=aG s hy
 cases hval:val g yv<;>rw [hval] at hr hq h1<;>simp only [iV,dU] at hr<;>try cases hr
 case nl =>
  have:=h1.nl
  rw [this]
  exact ⟨[],nP st,fo st⟩
 case sl st' rows' =>
  split at hr
  case isFalse=>cases hr
  rename_i hst
  subst hst
  cases hr
  generalize hu:a.eval y=u at h1
  have h2:=h1.sl
  cases h2 with
  | nls=>exact ⟨[],nP _,fo _⟩
  | sl0 st ad cap=>exact ⟨[],jE _ _ _,fo _⟩
  | sl b off cap st c1 t1 fr rows vs hb hM hl hrl hv hx =>
   obtain ⟨ys,h3,h4⟩:=iq (P:=P) (R:=fP q bl (aT bl c.MF h) w) (off:=off) hb hrl (fun i j r x hi hj=>⟨vs i j,hv i j (dE.1 hi).1 (by rw [← hrl i r hi];exact (dE.1 hj).1),fP.up (q:=false) (hx i j r x hi hj) (fun h=>by cases h)⟩)
   exact ⟨ys,⟨fun w'=>by simp [Builtin.lenOf],fun w' hw=>by simp [Builtin.firstCells,h4 w' hw]⟩,h3⟩
 case ms id st' off len =>
  split at hr
  case h_2=>cases hr
  rename_i ob hob
  split at hr
  case isFalse=>cases hr
  rename_i hcond
  obtain ⟨rfl,hst,hfit⟩:=hcond
  have hq':ob.isRec=true→q=true:=fun h=>hq (by simp only [lT,hob,Ir];exact h)
  cases hr
  have hlen:((ob.rows.drop off).take len).length=len:=by simp;omega
  rcases h1 with ⟨h2,h3,h4⟩ | ⟨h2,h3,ad,cap,h4⟩ | ⟨b,cap,c1,t1,fr,h2,h3,h4,h5,h6⟩
  ·subst h3 h4
   rw [h2]
   simp only [dN,lp]
   exact ⟨[],nP _,fo _⟩
  ·subst h2
   rw [h4]
   simp only [dN,lp]
   exact ⟨[],jE _ _ _,fo _⟩
  ·rcases s.heap.1 id ob hob with hn0 | ⟨b',g2,⟨_,c2,fr2,g3,g4,g5,g6,g7,g8⟩ | hsp⟩
   ·rw [hn0.2.2] at h2;cases h2
   rotate_left
   ·rw [h2] at g2;cases g2;exact (hsp.ne h5).elim
   rw [h2] at g2
   cases g2
   have getr:∀(i:Nat) (r:List AV),((ob.rows.drop off).take len)[i]? = some r→ob.rows[off+i]? = some r:=fun i r hi=>by
    rw [List.getElem?_take] at hi
    split at hi
    ·simpa using hi
    ·cases hi
   obtain ⟨ys,q3,q4⟩:=iq (P:=P) (R:=fP q bl (aT bl c.MF h) w) (w:=w) (off:=off * st') (st:=st') (rows:=(ob.rows.drop off).take len) g3 (fun i r hi=>by rw [← hst];exact g6 _ _ (getr i r hi)) (fun i j r x hi hj=>by
    obtain ⟨v,hv,hrl⟩:=g8 _ _ _ _ (getr i r hi) hj
    refine ⟨v,?_,hrl.up hq'⟩
    rw [← hv,hst,fJ])
   rw [hlen] at q4
   refine ⟨ys,?_,q3⟩
   rw [h3,hlen]
   exact ⟨fun w'=>by simp [Builtin.lenOf],fun w' hw=>by simp [Builtin.firstCells,q4 w' hw]⟩
theorem wA (s:aB c bl g h a w) {st:Nat} {y:Operand} {yv:IV} (hy:cV y=some yv) {rows:List (List AV)} (hr:dU st h (val g yv)=some rows) :
  ∃ys,zU P w st (a.eval y) rows.length ys∧gX (IRel (aT bl c.MF h) w) st ys rows :=
 pw (q:=false) s hy (wu hr).1 (fun h=>by rw [(wu hr).2] at h;exact h)
theorem ED (s:aB c bl g h a w) {y:Operand} {yv:IV} (hy:cV y=some yv) {rows:List (List AV)} (hr:EC (val g yv)=some rows) :
  ∃ys,zU P w 1 (a.eval y) rows.length ys∧gX (IRel (aT bl c.MF h) w) 1 ys rows:=by
 have h1:=aG s hy
 cases hval:val g yv<;>rw [hval] at hr h1<;>simp only [EC,bH] at hr<;>try cases hr
 case str st =>
  rw [h1.str]
  refine ⟨st.map fun b=>.int .u8 b.toNat,⟨fun w'=>by simp [Builtin.lenOf,ByteArray.size],fun w' _=>?_⟩,fun i r hi=>?_,by simp,fun i j r x hi hj=>?_⟩
  ·have hex:((ByteArray.mk st.toArray).extract 0 st.length)=ByteArray.mk st.toArray:=by
    apply ByteArray.ext
    simp [ByteArray.data_extract]
   simp [Builtin.firstCells,hex]
  ·simp only [d_,cj] at hi
   obtain ⟨b,_,rfl⟩:=hi
   rfl
  ·simp only [d_,cj] at hi
   obtain ⟨b,hb,rfl⟩:=hi
   cases j with
   | zero=>simp at hj;subst hj;exact ⟨.int .u8 b.toNat,by simp [hb],IRel.int _ _⟩
   | succ j=>simp at hj
theorem j6 {t e:TypeId} {st:Nat} (hap:gZ P t=some (e,st)):∃i z,P.underlying t=some (.slice e)∧P.info? e=some i∧i.zero=some z∧i.size=st∧i.bytes≤512∧1≤i.bytes∧z.cells.size=st∧1≤st:=by
 unfold gZ at hap
 split at hap
 case h_2=>cases hap
 rename_i e' ht
 split at hap
 case h_2=>cases hap
 rename_i i z' hi hz'
 split at hap
 case isFalse=>cases hap
 rename_i hcond
 obtain ⟨hb1,hb2,hb3,hb4⟩:=hcond
 cases hap
 obtain ⟨i',v,h4,h5,h6,_⟩:=eU (M:=fun _=>False) (w:=default) hz'
 rw [hi] at h4
 cases h4
 have:=h6.length
 simp only [gW] at this
 exact ⟨i,v,ht,hi,h5,rfl,hb1,hb2,by omega,hb4⟩
section
variable {t t' e:TypeId} {st:Nat} {cl:Call} {x y:Operand}
theorem rP (ho:o.op = .call cl) (hcl:cl.callee = .builtin .append) (hat:cl.argTypes = #[t,t']) (har:cl.args = #[x,y]) (hap:gZ P t=some (e,st)) (ht':(∃e',P.underlying t'=some (.slice e'))∨P.underlying t'=some .string)
  {b len cap n:Nat} {ys:List Value} (hx:a.eval x = .slice (some ⟨b,0,none⟩) len cap) (hs:zU P w st (a.eval y) n ys) (hcap:len+n≤cap)
  {c1:Array Value} {t1:TypeId} {fr:Nat×Nat} (hb:w.heap[b]? = some (.cells c1 t1 fr)) (uf:dY c1 fr) (hl:len * st+ys.length≤c1.size) (h1:∀v∈ys,fj v) :
  (execOp a.eval o).run P w = .ok (.value (.slice (some ⟨b,0,none⟩) (len+n) cap)) (w.setCells b (len * st) ys):=by
 obtain ⟨i,z,g1,g2,g3,g4,g5,g6,g7,g8⟩:=j6 hap
 have hz:(match P.underlying t' with | some (.int _)=>true | _=>false)=false:=by rcases ht' with ⟨e',h⟩ | h<;>rw [h]
 have hst:=f6 (P:=P) hb uf hl h1
 rcases ht' with ⟨e',ht'⟩ | ht' <;>
  simp [execOp,ho,resolve,hcl,har,hat,invoke,builtin,Builtin.append_,underlying,g1,hx,sizeOf,typeInfo,g2,g4,ht',hs.len w,hcap,hs.vals w rfl,fR,hst]
theorem k7 (ho:o.op = .call cl) (hcl:cl.callee = .builtin .append) (hat:cl.argTypes = #[t,t']) (har:cl.args = #[x,y]) (hap:gZ P t=some (e,st)) (ht':(∃e',P.underlying t'=some (.slice e'))∨P.underlying t'=some .string)
  (hx:a.eval x = .slice none 0 0) {ys:List Value} (hs:zU P w st (a.eval y) 0 ys) :
  (execOp a.eval o).run P w = .ok (.value (.slice none 0 0)) w:=by
 obtain ⟨i,z,g1,g2,g3,g4,g5,g6,g7,g8⟩:=j6 hap
 rcases ht' with ⟨e',ht'⟩ | ht' <;>
  simp [execOp,ho,resolve,hcl,har,hat,invoke,builtin,Builtin.append_,underlying,g1,hx,sizeOf,typeInfo,g2,g4,ht',hs.len w,hs.vals w rfl]
theorem kZ (ho:o.op = .call cl) (hcl:cl.callee = .builtin .append) (hat:cl.argTypes = #[t,t']) (har:cl.args = #[x,y]) (hap:gZ P t=some (e,st)) (ht':(∃e',P.underlying t'=some (.slice e'))∨P.underlying t'=some .string)
  {base:Option Addr} {len cap n:Nat} {olds ys:List Value} (hx:a.eval x = .slice base len cap) (hs:zU P w st (a.eval y) n ys) (hcap:cap<len+n) (hbig:len+n<274877906944)
  (hold:∀w':World,w'.heap=w.heap→(Builtin.firstCells st len (.slice base len cap)).run P w' = .ok olds.toArray w') :
  ∃(cs:Array Value) (w':World) (cap':Nat),(execOp a.eval o).run P w = .ok (.value (.slice (some ⟨w.heap.size,0,none⟩) (len+n) cap')) w'∧w'.heap=w.heap.push (.cells cs e (0,0))∧w'.os=w.os∧w'.output=w.output ∧
   len+n≤cap'∧∃rest:List Value,cs=(olds++ys++rest).toArray∧rest.length=(cap' - (len+n)) * st:=by
 obtain ⟨i,z,g1,g2,g3,g4,g5,g6,g7,g8⟩:=j6 hap
 have hmax:¬((len+n:Nat):Int)>IntKind.i64.max:=by simp [IntKind.max,IntKind.signed,IntKind.bits];omega
 have hmax':¬(9223372036854775807:Int)<(len:Int)+(n:Int):=by omega
 have hnc:=uU hcap
 have hroom:¬Builtin.nextslicecap (len+n) cap * i.bytes>2 ^ 48:=by
  have:Builtin.nextslicecap (len+n) cap * i.bytes≤(2 * (len+n)) * 512:=Nat.mul_le_mul hnc g5
  omega
 have hroom':¬281474976710656<Builtin.nextslicecap (len+n) cap * i.bytes:=by simpa using hroom
 have hcap':¬len+n≤cap:=by omega
 have hq:Question.forced (.appendCap (len+n) cap e)=false:=rfl
 have hb0:¬i.bytes=0:=by omega
 let cp:=(len+n)+(w.tape w.drawn (.appendCap (len+n) cap e)) % (2 ^ 63 - (len+n))
 refine ⟨(olds++ys++(Builtin.zeroCells z.cells (cp - (len+n))).toList).toArray,w.drew.alloc (.cells (olds++ys++(Builtin.zeroCells z.cells (cp - (len+n))).toList).toArray e),cp,?_,rfl,rfl,rfl,Nat.le_add_right _ _,_,rfl,?_⟩
 ·have hv:=hs.vals w.drew rfl
  have ho':=hold w.drew rfl
  rcases ht' with ⟨e',ht'⟩ | ht' <;>
   simp [execOp,ho,resolve,hcl,har,hat,invoke,builtin,Builtin.append_,underlying,g1,hx,sizeOf,typeInfo,g2,g4,ht',hs.len w,hcap',hmax',hroom',hq,ho',hv,zeroValue,g3,newRow,Question.cut,hb0,cp]
  all_goals
   congr 2
   apply Array.toList_inj.1
   simp
 ·simp [Builtin.zeroCells,g7]
theorem aB.congr {g':Nat→AV} {h':Nat→Option ac} (s:aB c bl g h a w) (hg:∀k,g' k=g k) (hh:∀j,h' j=h j):aB c bl g' h' a w :=
 s.weaken (fun k=>.inr (hg k)) (fun j o ho=>by rw [← hh j];exact ho)
theorem s_ {R:Value→AV→Prop} {ys:List Value} {rows:List (List AV)} (hy:gX R st ys rows) (h1:∀v x,R v x→fj v):∀v∈ys,fj v:=fun v hv=>by
 obtain ⟨k,hk⟩:=List.getElem?_of_mem hv
 have hlt:k<rows.length * st:=by rw [← hy.2.1];exact (dE.1 hk).1
 have hst:0<st:=by
  rcases Nat.eq_zero_or_pos st with h0 | h0
  ·subst h0;simp at hlt
  ·exact h0
 have hi:k / st<rows.length:=Nat.div_lt_of_lt_mul (by rw [Nat.mul_comm];exact hlt)
 have e1:rows[k / st]? = some rows[k / st]:=eJ hi
 have hl:=hy.1 _ _ e1
 have hj:k % st<st:=Nat.mod_lt _ hst
 obtain ⟨u,hu,hr⟩:=hy.2.2 _ (k % st) _ _ e1 (eJ (by omega))
 have he:k / st * st+k % st=k:=by
  have:=Nat.div_add_mod k st
  rw [Nat.mul_comm] at this
  exact this
 rw [he,hk] at hu
 cases hu
 exact h1 _ _ hr
theorem mS {R:Value→AV→Prop} {olds ys rest:List Value} {rows yrows:List (List AV)} (ho:gX R st olds rows) (hy:gX R st ys yrows) :
  (∀(i:Nat) (r:List AV),(rows++yrows)[i]? = some r→r.length=st) ∧
  ∀(i j:Nat) (r:List AV) (x:AV),(rows++yrows)[i]? = some r→r[j]? = some x→∃v,(olds++ys++rest).toArray[i * st+j]? = some v∧R v x:=by
 refine ⟨fun i r hr=>?_,fun i j r x hr hx=>?_⟩
 ·rw [List.getElem?_append] at hr
  split at hr
  ·exact ho.1 _ _ hr
  ·exact hy.1 _ _ hr
 ·rw [List.getElem?_append] at hr
  simp only [List.getElem?_toArray]
  split at hr
  ·rename_i hlt
   obtain ⟨v,hv,hrel⟩:=ho.2.2 _ _ _ _ hr hx
   refine ⟨v,?_,hrel⟩
   rw [vw,List.getElem?_append_left (dE.1 hv).1]
   exact hv
  ·rename_i hge
   obtain ⟨v,hv,hrel⟩:=hy.2.2 _ _ _ _ hr hx
   refine ⟨v,?_,hrel⟩
   have e1:i * st+j=olds.length+((i - rows.length) * st+j):=by
    rw [ho.2.1,← EM,← fJ]
    congr 2
    omega
   rw [vw,e1,List.getElem?_append_right (by omega),Nat.add_sub_cancel_left,List.getElem?_append_left (dE.1 hv).1]
   exact hv
theorem yH {i:Nat} {o:ac} (h:o.isRec=true→∀r∈o.rows,∀x∈r,mC i x=false):bV i o=o:=by
 unfold bV
 split
 ·rename_i hr
  have e:o.rows.map (fun r=>r.map (iI i))=o.rows:=by
   refine (List.map_congr_left fun r hm=>?_).trans (List.map_id _)
   refine (List.map_congr_left fun x hx=>?_).trans (List.map_id _)
   unfold iI
   rw [h hr r hm x hx]
   rfl
  rw [e]
 ·rfl
theorem o7 (s:aB c bl g h a w) {d:Nat} (ho:o.op = .call cl) (hcl:cl.callee = .builtin .append) (hat:cl.argTypes = #[t,t']) (har:cl.args = #[x,y]) (hap:gZ P t=some (e,st)) (ht':(∃e',P.underlying t'=some (.slice e'))∨P.underlying t'=some .string)
  {xv:IV} (hx:cV x=some xv) (hxv:val g xv = .nl) {yrows:List (List AV)} {ys:List Value} (hs:zU P w st (a.eval y) yrows.length ys) {q:Bool} (hy:gX (fP q bl (aT bl c.MF h) w) st ys yrows) (hbig:yrows.length<137438953472)
  (hd:h d=none) (hu:bO d g h) (hid:d<1000∨1267650600228229401496703205376≤d) (hno:q=true→yrows≠[]∧∀r∈yrows,∀x∈r,mC d x=false):aI P c o a w g h (.ms d st 0 yrows.length) (.new d ⟨e,st,yrows,q⟩):=by
 have h1:=aG s hx
 rw [hxv] at h1
 have h2:=h1.nl
 by_cases h0:yrows=[]
 ·subst h0
  obtain rfl:q=false:=by
   cases q
   ·rfl
   ·exact absurd rfl (hno rfl).1
  have hrun:=k7 ho hcl hat har hap ht' h2 hs
  refine ⟨_,_,_,.inl hrun,s.new0 (i:=d) (o:=⟨e,st,[],false⟩) hd hu hid rfl rfl,.inl ⟨rfl,rfl,rfl⟩⟩
 ·have hpos:0<yrows.length:=List.length_pos_iff.2 h0
  obtain ⟨cs,w',cap',h3,h4,h5,h6,h7,rest,rfl,h9⟩:=kZ (olds:=[]) (P:=P) ho hcl hat har hap ht' h2 hs (by omega) (by omega) (fun w' _=>by simp [Builtin.firstCells])
  simp only [Nat.zero_add,mL] at h3 h7 h9
  have hg:=mS (rest:=rest) (fo st) hy
  simp only [mL] at hg h4
  have hsz:(ys++rest).toArray.size=cap' * st:=by
   simp only [List.size_toArray,wF,hy.2.1,h9]
   rw [← fJ]
   congr 1
   omega
  exact gy (rows:=yrows) s hd hu hid h3 h4 h5 h6 (gp _) hg.1 (by rw [hsz];exact iO _ h7) h7 (by rw [hsz];exact bD _) hg.2 (fun hq=>(hno hq).2)
theorem o8 (s:aB c bl g h a w) (ho:o.op = .call cl) (hcl:cl.callee = .builtin .append) (hat:cl.argTypes = #[t,t']) (har:cl.args = #[x,y]) (hap:gZ P t=some (e,st)) (ht':(∃e',P.underlying t'=some (.slice e'))∨P.underlying t'=some .string)
  {xv:IV} (hx:cV x=some xv) {id len:Nat} (hxv:val g xv = .ms id st 0 len) {ob:ac} (hob:h id=some ob) (hst:ob.st=st) (hte:ob.t=e) (hlen:len≤ob.rows.length) (hid:id<1000∨1267650600228229401496703205376≤id) (hfl:ob.k.flat=true)
  {yrows:List (List AV)} {ys:List Value} (hs:zU P w st (a.eval y) yrows.length ys) {q:Bool} (hq:ob.isRec=true→q=true) (hy:gX (fP q bl (aT bl c.MF h) w) st ys yrows) (hbig:yrows.length<137438953472) (hbig2:len<137438953472)
  (hno:q=true→ob.rows.take len++yrows≠[]∧∀r∈ob.rows.take len++yrows,∀x∈r,mC id x=false) :
  aI P c o a w g h (.ms id st 0 (len+yrows.length)) (.reb id ⟨e,st,ob.rows.take len++yrows,q⟩):=by
 have h1:=aG s hx
 rw [hxv] at h1
 subst hst hte
 have hpur:bV id ⟨ob.t,ob.st,ob.rows.take len++yrows,q⟩ =⟨ob.t,ob.st,ob.rows.take len++yrows,q⟩:=yH fun hr=>(hno hr).2
 have grow:∀{base:Option Addr} {cap:Nat} {olds:List Value},a.eval x = .slice base len cap→cap<len+yrows.length→gX (fP q bl (aT bl c.MF h) w) ob.st olds (ob.rows.take len) →
   (∀w':World,w'.heap=w.heap→(Builtin.firstCells ob.st len (.slice base len cap)).run P w' = .ok olds.toArray w')→aI P c o a w g h (.ms id ob.st 0 (len+yrows.length)) (.reb id ⟨ob.t,ob.st,ob.rows.take len++yrows,q⟩):=by
  intro base cap olds hv hc hold hrun
  obtain ⟨cs,w',cap',h3,h4,h5,h6,h7,rest,rfl,h9⟩:=kZ (P:=P) ho hcl hat har hap ht' hv hs hc (by omega) hrun
  have hk:=s.kill id
  have hun:=gU id g h
  have hm:∀b,¬aT bl c.MF h b→b<w.heap.size→¬aT bl c.MF (fun j=>if j=id then none else (h j).map (bV id)) b∧w.heap[b]? = w.heap[b]?:=fun b hb _=>⟨fun hmm=>hb (by
   rcases hmm with hmm | ⟨j,oj,q1,q2⟩
   ·exact .inl hmm
   ·by_cases hj:j=id
    ·simp [hj] at q1
    ·simp only [hj,fp,cj] at q1
     obtain ⟨o0,q1,_⟩:=q1
     exact .inr ⟨j,o0,q1,q2⟩),rfl⟩
  have hg:=mS (rest:=rest) hold hy
  have hl1:(ob.rows.take len).length=len:=by simp;omega
  have hsz:(olds++ys++rest).toArray.size=cap' * ob.st:=by
   simp only [List.size_toArray,wF,hy.2.1,h9,hold.2.1,hl1]
   rw [← fJ,← fJ]
   congr 1
   omega
  have hs2:=hk.new (i:=id) (o:=⟨ob.t,ob.st,ob.rows.take len++yrows,q⟩) (cs:=(olds++ys++rest).toArray) (fr:=(0,0)) (w':=w') (by simp) hun hid h4 h5 h6 (gp _)
   ⟨hg.1,by rw [hsz];simp only [wF,hl1];exact iO _ h7,fun i j r x' hr hx'=>by
    obtain ⟨v,q1,q2⟩:=hg.2 i j r x' hr hx'
    exact ⟨v,q1,q2.tr ⟨hm,fun _ c1 _ fr hb=>⟨c1,fr,hb,rfl⟩⟩ (fun _ _ _=>rfl)⟩⟩ (fun hf=>(hno hf).2)
  refine ⟨_,_,_,.inl h3,hs2.congr (fun _=>rfl) (fun j=>?_),.inr (.inr ⟨w.heap.size,cap',(olds++ys++rest).toArray,ob.t,(0,0),bh _ _ _,by simp,h7,by rw [h4];simp,by rw [hsz];simp⟩)⟩
  by_cases hj:j=id
  ·subst hj;simp [aM.hp,cJ]
  ·simp [aM.hp,cJ,hj]
 rcases h1 with ⟨h2,_,h4⟩ | ⟨_,h3,_⟩ | ⟨b,cap,c1,t1,fr,h2,h3,h4,h5,h6⟩
 ·subst h4
  by_cases h0:yrows=[]
  ·subst h0
   obtain rfl:q=false:=by
    cases q
    ·rfl
    ·exact absurd rfl (hno rfl).1
   have hrun:=k7 ho hcl hat har hap ht' h2 hs
   have hp:=s.purge id
   refine ⟨_,_,bl,.inl hrun,?_,.inl ⟨rfl,rfl,rfl⟩⟩
   have hm:∀q,aT bl c.MF (aM.hp h (.reb id ⟨ob.t,ob.st,ob.rows.take 0++[],false⟩)) q↔aT bl c.MF (fun j=>(h j).map (bV id)) q:=aT.congr (fun j=>by
    by_cases hj:j=id
    ·subst hj;simp [aM.hp,cJ,hob]
    ·simp [aM.hp,cJ,hj])
   have ht:=Tr.of_iff (w:=w) hm
   refine ⟨hp.defers,hp.size,fun k=>(hp.env k).tr ht (fun _ _=>rfl),⟨fun j oj hj=>?_,fun j j' oj oj' q q1 q2=>?_⟩,hp.step,fun j oj q q1=>?_,hp.stab,hp.mf⟩
   ·by_cases hji:j=id
    ·subst hji
     simp only [aM.hp,cJ,cX,bH] at hj
     subst hj
     rcases s.heap.1 j ob hob with hn | ⟨b',g2,⟨_,c2,fr2,g3,g4,g5,g6,g7,g8⟩ | hsp⟩
     ·exact .inl ⟨by simp,rfl,hn.2.2⟩
     ·exact .inr ⟨b',g2,.inl ⟨rfl,c2,fr2,g3,g4,g5,by simp,by simp,by simp⟩⟩
     ·exact (hsp.noflat hfl).elim
    ·have hj':(h j).map (bV id)=some oj:=by simpa [aM.hp,cJ,hji] using hj
     rcases hp.heap.1 j oj hj' with hn | ⟨b',g2,⟨gk,c2,fr2,g3,g4,g5,g6,g7,g8⟩ | hsp⟩
     ·exact .inl hn
     ·exact .inr ⟨b',g2,.inl ⟨gk,c2,fr2,g3,g4,g5,g6,g7,fun i k r y' q1 q2=>by
       obtain ⟨v,q3,q4⟩:=g8 i k r y' q1 q2
       exact ⟨v,q3,q4.tr ht (fun _ _ _=>rfl)⟩⟩⟩
     ·exact .inr ⟨b',g2,.inr hsp⟩
   ·have key:∀{j oj},aM.hp h (.reb id ⟨ob.t,ob.st,ob.rows.take 0++[],false⟩) j=some oj→∃o0,(h j).map (bV id)=some o0:=fun {j oj} hj=>by
     by_cases hji:j=id
     ·subst hji;exact ⟨_,by rw [hob];rfl⟩
     ·exact ⟨oj,by simpa [aM.hp,cJ,hji] using hj⟩
    obtain ⟨p1,hp1⟩:=key q1
    obtain ⟨p2,hp2⟩:=key q2
    exact hp.heap.2 j j' p1 p2 q hp1 hp2
   ·by_cases hji:j=id
    ·subst hji;exact hp.own j (bV j ob) q (by simp [hob])
    ·exact hp.own j oj q (by simpa [aM.hp,cJ,hji] using q1)
  ·have hpos:0<yrows.length:=List.length_pos_iff.2 h0
   exact grow (olds:=[]) h2 (by omega) (by simpa using fo _) (fun w' _=>by simp [Builtin.firstCells])
 ·exact (h3 rfl).elim
 ·rcases s.heap.1 id ob hob with hn0 | ⟨b',g2,⟨_,c2,fr2,g3,g4,g5,g6,g7,g8⟩ | hsp⟩
  ·rw [hn0.2.2] at h2;cases h2
  rotate_left
  ·exact (hsp.noflat hfl).elim
  rw [h2] at g2
  cases g2
  rw [g3] at h5
  cases h5
  simp only [Nat.zero_mul,Nat.zero_add] at h3 h6
  have getr:∀(i:Nat) (r:List AV),(ob.rows.take len)[i]? = some r→ob.rows[i]? = some r∧i<len:=fun i r hi=>by
   rw [List.getElem?_take] at hi
   split at hi
   ·exact ⟨hi,by assumption⟩
   ·cases hi
  have hl1:(ob.rows.take len).length=len:=by simp;omega
  by_cases hcap:len+yrows.length≤cap
  ·
   have hfit:len * ob.st+ys.length≤c1.size:=by
    rw [hy.2.1,← fJ]
    have:=iO ob.st hcap
    omega
   have hrun:=rP (P:=P) ho hcl hat har hap ht' h3 hs hcap g3 g4 hfit (s_ hy fun _ _ h=>h.one)
   obtain ⟨c3,q1,q2,q3,q4,q5,q6,q7⟩:=fO b ys (len * ob.st) w g3 hfit
   have hw:=s.write (o':=⟨ob.t,ob.st,ob.rows.take len++yrows,q⟩) (hkc:=(Kd.of_flat hfl).symm) hob h2 g3 q1 q2 q4 q5 q6 q7 rfl ⟨fun i r hr=>by
     rw [List.getElem?_append] at hr
     split at hr
     ·exact g6 _ _ (getr i r hr).1
     ·exact hy.1 _ _ hr,by
     simp only [wF,hl1,q2]
     have:=iO ob.st hcap
     omega,fun i j r x' hr hx'=>by
     rw [List.getElem?_append] at hr
     split at hr
     ·rename_i hlt
      rw [hl1] at hlt
      obtain ⟨hr',_⟩:=getr i r hr
      have hj:j<ob.st:=by rw [← g6 i r hr'];exact (dE.1 hx').1
      obtain ⟨v,hv,hrel⟩:=g8 _ _ _ _ hr' hx'
      refine ⟨v,?_,hrel.up hq⟩
      have:i * ob.st+j<len * ob.st:=by
       have:=iO ob.st (show i+1≤len by omega)
       rw [fJ] at this
       omega
      simp only
      rw [q3,aJ (by omega)]
      exact hv
     ·rename_i hge
      rw [hl1] at hge hr
      obtain ⟨v,hv,hrel⟩:=hy.2.2 _ _ _ _ hr hx'
      refine ⟨v,?_,hrel⟩
      have e1:i * ob.st+j=len * ob.st+((i - len) * ob.st+j):=by
       rw [← EM,← fJ];congr 2;omega
      have hlt:=(dE.1 hv).1
      simp only
      rw [q3,bz (by omega),e1,Nat.add_sub_cancel_left]
      exact hv⟩
   refine ⟨_,_,bl,.inl hrun,(hw.purge id).congr (fun _=>rfl) (fun j=>?_),.inr (.inr ⟨b,cap,c3,ob.t,fr,h2,by simp,hcap,q1,by rw [q2];simpa using h6⟩)⟩
   by_cases hj:j=id
   ·subst hj;simp [aM.hp,cJ,hpur]
   ·simp [aM.hp,cJ,hj]
  ·obtain ⟨olds,hO,hrun⟩:=iq (P:=P) (R:=fP q bl (aT bl c.MF h) w) (w:=w) (off:=0) (st:=ob.st) (rows:=ob.rows.take len) g3 (fun i r hi=>g6 _ _ (getr i r hi).1) (fun i j r x' hi hj=>by
    obtain ⟨v,hv,hrel⟩:=g8 _ _ _ _ (getr i r hi).1 hj
    exact ⟨v,by simpa using hv,hrel.up hq⟩)
   rw [hl1] at hrun
   exact grow h3 (by omega) hO (fun w' hw'=>by simp [Builtin.firstCells,hrun w' hw'])
end
theorem mQ:∀{rows:List (List AV)} {bs:List UInt8} {ys:List Value},gr rows=some bs→gX (IRel M w) 1 ys rows→∃ns:List Int,ys=ns.map (fun n=>Value.int .u8 n)∧bs=ns.map (fun n=>UInt8.ofNat n.toNat)
 | [],bs,ys,hb,hy=>by
  simp only [gr,bH] at hb
  subst hb
  have:=hy.2.1
  simp at this
  subst this
  exact ⟨[],rfl,rfl⟩
 | r :: rows,bs,ys,hb,hy=>by
  have hl:=hy.2.1
  simp only [pD,Nat.mul_one] at hl
  cases ys with
  | nil=>simp at hl
  | cons y ys =>
   have hy':gX (IRel M w) 1 ys rows:=⟨fun i q hq=>hy.1 (i+1) q (by simpa using hq),by simpa using hl,fun i j q z hq hz=>by
    obtain ⟨v,hv,hr⟩:=hy.2.2 (i+1) j q z (by simpa using hq) hz
    refine ⟨v,?_,hr⟩
    rw [show (i+1) * 1+j=(i * 1+j)+1 by omega,List.getElem?_cons_succ] at hv
    exact hv⟩
   unfold gr at hb
   split at hb
   ·rename_i heq;cases heq
   ·rename_i n rest heq
    cases heq
    simp only [cj] at hb
    obtain ⟨bs',hb',rfl⟩:=hb
    obtain ⟨ns,rfl,rfl⟩:=mQ hb' hy'
    obtain ⟨v,hv,hr⟩:=hy.2.2 0 0 [.int .u8 n] (.int .u8 n) rfl rfl
    simp at hv
    subst hv
    cases hr
    exact ⟨n :: ns,rfl,rfl⟩
   ·cases hb
theorem ML (s:aB c bl g h a w) {sr ds e:TypeId} {x:Operand} {xv:IV} (ho:o.op = .convert sr ds x) (h1:P.underlying sr=some (.slice e)) (h2:P.underlying e=some (.int .u8)) (h3:P.underlying ds=some .string) (hx:cV x=some xv)
  {rows:List (List AV)} {bs:List UInt8} (hr:dU 1 h (val g xv)=some rows) (hb:gr rows=some bs):aI P c o a w g h (.str bs) .no:=by
 obtain ⟨ys,hs,hy⟩:=wA (P:=P) s hx hr
 obtain ⟨ns,rfl,rfl⟩:=mQ hb hy
 have hv:∃ad n cap,a.eval x = .slice ad n cap:=by
  have hl:=hs.len w
  cases hv:a.eval x<;>rw [hv] at hl<;>try (simp [Builtin.lenOf] at hl;done)
  ·rename_i st
   exfalso
   have h4:=aG s hx
   rw [hv] at h4
   cases hval:val g xv<;>rw [hval] at hr h4<;>simp only [dU] at hr<;>try cases hr
   ·exact absurd h4.nl (by simp)
   ·have h5:=h4.sl;cases h5
   ·rcases h4 with ⟨h5,_⟩ | ⟨_,_,_,_,h5⟩ | ⟨_,_,_,_,_,_,h5,_⟩<;>cases h5
  ·exact ⟨_,_,_,rfl⟩
 obtain ⟨ad,n,cap,hv⟩:=hv
 refine aI.pure s (r:=.string ⟨(ns.map fun n=>UInt8.ofNat n.toNat).toArray⟩) ?_ (If _)
 have hval:=hs.vals w rfl
 have hlen:=hs.len w
 rw [hv] at hval hlen
 simp only [Builtin.lenOf,Sem.run_pure,Result.ok.injEq,and_true] at hlen
 subst hlen
 cases ad with
 | none =>
  simp only [Builtin.firstCells,Sem.run_pure,Result.ok.injEq,and_true] at hval
  have hn:ns=[]:=by
   have:=congrArg Array.size hval
   simp at this
   exact List.length_eq_zero_iff.1 this.symm
  subst hn
  simp [execOp,ho,hv,run_convert_bytes_string w sr ds e none _ cap h1 h2 h3,Conv.bytesToString]
  try rfl
 | some ad =>
  simp only [Builtin.firstCells,Nat.mul_one] at hval
  simp [execOp,ho,hv,run_convert_bytes_string w sr ds e (some ad) _ cap h1 h2 h3,run_bytesToString w ad _ cap ns hval,foldl_push_bytes]
  try rfl
theorem MO (s:aB c bl g h a w) {f f':FuncId} {first caps:Array Operand} {cv:List IV} (ho:o.op = .makeFunc (.func f) first caps) (hf:Jg f'=f∧Gr f'=first.size) (hc:A8 (first.toList++caps.toList)=some cv)
  (hp:∀v∈cv,A_ (val g v)=true):aI P c o a w g h (.fn f' (cv.map (val g))) .no:=by
 have h1:=qY s hc
 obtain ⟨hf1,hf2⟩:=hf
 refine aI.pure s (r:=.func (.func f) (first.map a.eval) (caps.map a.eval)) (by
  simp only [execOp,ho,Instr.makeFunc]
  rfl) ⟨(first.toList++caps.toList).map a.eval,?_,?_⟩
 ·have e1:(first.toList.map a.eval).length=first.size:=by simp
  have e2:first.map a.eval=(first.toList.map a.eval).toArray:=by apply Array.toList_inj.1;simp
  have e3:caps.map a.eval=(caps.toList.map a.eval).toArray:=by apply Array.toList_inj.1;simp
  rw [hf1,hf2,List.map_append,List.take_left' e1,List.drop_left' e1,e2,e3]
 refine h1.mono fun u x hm hr=>?_
 obtain ⟨v,hv,rfl⟩:=List.mem_map.1 hm
 have e1:=hp v hv
 generalize val g v=y at *
 cases y<;>first | (simp [A_] at e1;done) | exact hr
end
section
variable {P:Program} {c:i3} {bl:Nat→Option Nat} {g:Nat→AV} {h:Nat→Option ac} {a:Act} {w:World} {o:Oper}
theorem k8 (e:TypeId) (st:List UInt8) (w:World):∃cp w',(Conv.stringToBytes e ⟨st.toArray⟩).run P w = .ok (.slice (some ⟨w.heap.size,0,none⟩) st.length cp) w'∧st.length≤cp ∧
  w'.heap=w.heap.push (.cells ((st.map fun b=>Value.int .u8 b.toNat).toArray++Array.replicate (cp - st.length) (.int .u8 0)) e (cp,cp+1))∧w'.os=w.os∧w'.output=w.output:=by
 have hsize:(ByteArray.mk st.toArray).size=st.length:=by simp [ByteArray.size]
 have hdat:((ByteArray.mk st.toArray).data.map fun b=>Value.int .u8 b.toNat)=(st.map fun b=>Value.int .u8 b.toNat).toArray:=by simp
 refine ⟨st.length+(w.tape w.drawn (.appendCap st.length 0 e)) % (2 ^ 63 - st.length),?_⟩
 generalize hcp:st.length+(w.tape w.drawn (.appendCap st.length 0 e)) % (2 ^ 63 - st.length)=cp
 have hle:st.length≤cp:=by omega
 have hch:(choose (.appendCap st.length 0 e)).run P w = .ok cp w.drew:=by
  rw [run_choose]
  simp only [Question.forced,Question.cut,hcp]
  rfl
 generalize hcs:((st.map fun b=>Value.int .u8 b.toNat).toArray++Array.replicate (cp - st.length) (.int .u8 0))=cs
 have hcsz:cs.size=cp:=by rw [← hcs];simp;omega
 refine ⟨(w.drew.alloc (.cells cs e)).freeze { block:=w.heap.size,off:=cp } 1,?_,hle,?_,rfl,rfl⟩
 ·have hsh:(w.drew.alloc (.cells cs e)).shape? w.heap.size=some (e,cp):=by
   have:(w.drew.alloc (.cells cs e)).heap[w.heap.size]? = some (.cells cs e (0,0)):=by simp [World.alloc,World.drew,-World.alloc_eq,-World.drew_eq]
   unfold World.shape?;rw [this];simp [hcsz]
  unfold Conv.stringToBytes
  simp only [hsize,Sem.run_bind,hch,Result.andThen_ok,hdat,hcs,newRow,run_newObj,World.size_drew,Sem.run_pure,World.alloc_eq,markStringish,run_shape,hsh,run_freeze]
 ·show (if 1=0 then _ else _:World).heap=_
  rw [aJ (by decide)]
  apply Array.ext_getElem?
  intro k
  show ((w.heap.push (.cells cs e (0,0))).modify w.heap.size _)[k]? = _
  rw [lu,Array.getElem?_push,Array.getElem?_push]
  by_cases hk:w.heap.size=k
  ·subst hk;simp
  ·have hk':¬k=w.heap.size:=fun e=>hk e.symm
   simp [hk,hk']
theorem MH (s:aB c bl g h a w) {d:Nat} {sr ds e:TypeId} {x:Operand} {xv:IV} (ho:o.op = .convert sr ds x) (h1:P.underlying sr=some .string) (h2:P.underlying e=some (.int .u8)) (h3:P.underlying ds=some (.slice e)) (hx:cV x=some xv)
  {st:List UInt8} (he:val g xv = .str st) (hd:h d=none) (hu:bO d g h) (hid:d<1000∨1267650600228229401496703205376≤d) :
  aI P c o a w g h (.ms d 1 0 st.length) (.new d ⟨e,1,st.map fun b=>[.int .u8 b.toNat],false⟩):=by
 have r1:=aG s hx
 rw [he] at r1
 obtain ⟨cp,w',g1,g2,g3,g4,g5⟩:=k8 (P:=P) e st w
 have hcv:(convert sr ds (.string ⟨st.toArray⟩)).run P w=(Conv.stringToBytes e ⟨st.toArray⟩).run P w:=by
  simp [convert,run_underlying h1,run_underlying h2,run_underlying h3]
 have ab:∀(i:Nat) (b:UInt8),st[i]? = some b→((st.map fun b=>Value.int .u8 b.toNat).toArray++Array.replicate (cp - st.length) (.int .u8 0))[i]? = some (.int .u8 b.toNat):=fun i b hb=>by
  have hlt:=(dE.1 hb).1
  rw [Array.getElem?_append_left (by simpa using hlt)]
  simp [hb]
 have hsz:((st.map fun (b:UInt8)=>Value.int .u8 b.toNat).toArray++Array.replicate (cp - st.length) (Value.int .u8 0)).size=cp:=by simp;omega
 refine gy (q:=false) (len:=st.length) (cap:=cp) (w':=w') s hd hu hid ?_ g3 g4 g5 (.inr (by rw [hsz];exact bD _)) (fun i r hi=>?_) (by rw [hsz];simpa using g2) g2 (by rw [hsz];simp) (fun i j r y hi hj=>?_) (fun h=>by cases h)
 ·simp only [execOp,ho,r1.str,Sem.run_bind,hcv,g1,Result.andThen_ok,Sem.run_pure]
 ·simp only [d_,cj] at hi
  obtain ⟨b,_,rfl⟩:=hi
  rfl
 ·simp only [d_,cj] at hi
  obtain ⟨b,hb,rfl⟩:=hi
  cases j with
  | zero=>simp at hj;subst hj;exact ⟨.int .u8 b.toNat,by simpa using ab i b hb,IRel.int _ _⟩
  | succ j=>simp at hj
theorem MJ (s:aB c bl g h a w) {sr ds e0 e:TypeId} {x:Operand} {xv:IV} (ho:o.op = .convert sr ds x) (h0:P.underlying sr=some (.slice e0)) (h1:P.underlying ds=some (.slice e)) (hsd:(sr==ds)=true) (h2:P.underlying e=some (.int .u8)) (hx:cV x=some xv)
  {id st off len:Nat} {ob:ac} (hxv:val g xv = .ms id st off len) (hob:h id=some ob) (hst:st=1) (host:ob.st=1) (hrec:ob.isRec=false) (hlen:0<len):aI P c o a w g h (.ms id st off len) (.put id ob):=by
 have r1:=aG s hx
 rw [hxv] at r1
 rcases r1 with ⟨_,_,h4⟩ | ⟨h4,_,_⟩ | ⟨b,cap,c0,t0,fr0,q1,q2,q3,q4,q5⟩
 ·omega
 ·omega
 rcases s.heap.1 id ob hob with hn0 | ⟨b',g1,⟨gk,c1,fr,g2,g3,g4,g5,g6,g7⟩ | hsp⟩
 ·rw [hn0.2.2] at q1;cases q1
 rotate_left
 ·rw [q1] at g1;cases g1;exact (hsp.ne q4).elim
 rw [q1] at g1
 cases g1
 have hsh:w.shape? b=some (ob.t,c1.size):=by unfold World.shape?;rw [g2]
 have hb:b<w.heap.size:=aZ g2
 have hrun:(execOp a.eval o).run P w = .ok (.value (.slice (some ⟨b,off * st,none⟩) len cap)) (w.freeze { block:=b,off:=c1.size } 1):=by
  have hcv:(convert sr ds (.slice (some ⟨b,off * st,none⟩) len cap)).run P w = .ok (.slice (some ⟨b,off * st,none⟩) len cap) (w.freeze { block:=b,off:=c1.size } 1):=by
   simp [convert,run_underlying h0,run_underlying h1,run_underlying h2,hsd,markStringish,run_shape,hsh,run_freeze]
  simp only [execOp,ho,q2,Sem.run_bind,hcv,Result.andThen_ok,Sem.run_pure]
 have hheap:(w.freeze { block:=b,off:=c1.size } 1).heap=w.heap.modify b fun
   | .cells c elem (lo,hi)=>.cells c elem (if lo==hi then (c1.size,c1.size+1) else (min lo c1.size,max hi (c1.size+1)))
   | o=>o:=rfl
 have e1:(w.freeze { block:=b,off:=c1.size } 1).heap[b]? = some (.cells c1 ob.t (if fr.1==fr.2 then (c1.size,c1.size+1) else (min fr.1 c1.size,max fr.2 (c1.size+1)))):=by
  rw [hheap,lu,bz rfl,g2]
  rfl
 have e2:dY c1 (if fr.1==fr.2 then (c1.size,c1.size+1) else (min fr.1 c1.size,max fr.2 (c1.size+1))):=by
  by_cases hq:fr.1=fr.2
  ·rw [bz (by simpa using hq)];exact .inr (bD _)
  ·rw [aJ (by simpa using hq)]
   rcases g3 with g3 | g3
   ·exact absurd g3 hq
   ·exact .inr (by show c1.size≤min fr.1 c1.size;omega)
 have hs:=s.writeF (o':=ob) hob q1 g2 e1 e2 rfl (by rw [hheap];simp) (fun b' hb'=>by
  rw [hheap,lu,aJ (fun e=>hb' e.symm)]) rfl rfl rfl ⟨g5,g6,g7⟩
 refine ⟨_,_,bl,.inl hrun,hs,?_⟩
 refine .inr (.inr ⟨b,cap,c1,ob.t,_,q1,rfl,q3,e1,?_⟩)
 rw [g2] at q4
 cases q4
 exact q5
theorem BD {fn:Func} (h:fn.name = "internal/bytealg.IndexByteString"):Extern.find fn=some Extern.BytealgIndexByte.indexByte:=by
 unfold Extern.find
 simp only [h]
 have h1:(Extern.allGenericRows.lookup "internal/bytealg.IndexByteString").isNone=true:=by decide +kernel
 have h2:(Extern.allTypedRows.lookup "internal/bytealg.IndexByteString").isNone=true:=by decide +kernel
 have h3:Extern.allRows.lookup "internal/bytealg.IndexByteString" = some Extern.BytealgIndexByte.indexByte:=by kernel_rfl
 rw [Option.isNone_iff_eq_none] at h1 h2
 rw [h1,h2,h3]
 rfl
theorem MY (s:aB c bl g h a w) {cl:Call} {f:FuncId} {fn:Func} {x y:Operand} {xv yv:IV} (ho:o.op = .call cl) (hcl:cl.callee = .value (.func f)) (har:cl.args = #[x,y]) (hf:P.funcs[f]? = some fn) (hb:fn.body=none) (hnm:fn.name = "internal/bytealg.IndexByteString")
  (hnx:Extern.findNext fn=none) (hx:cV x=some xv) (hy:cV y=some yv) {v:AV} (he:AG (val g xv) (val g yv)=some v):aI P c o a w g h v .no:=by
 have h1:=aG s hx
 have h2:=aG s hy
 unfold AG at he
 split at he
 case h_2=>cases he
 rename_i st n e1 e2
 cases he
 rw [e1] at h1;rw [e2] at h2
 have e3:=h1.str
 have e4:=h2.int
 have hrun:=run_callFunc_extern (P:=P) (f:=f) hf (by rw [hnm];decide) (by rw [hb];rfl) hnx (BD hnm) #[a.eval x,a.eval y] w
 rw [e3,e4,run_indexByte_string] at hrun
 refine aI.pure s (r:=.int .i64 (IN st n.toNat.toUInt8)) ?_ (jq _ _)
 simp [execOp,ho,resolve,hcl,har,Act.eval,Deferred.ofValue,invoke,hrun,e3,e4,Result.andThen,IN]<;>simp_all [Act.eval]
theorem n9:∀{ls:List LK} {xs ys:List AV} {r:Bool},fC ls xs ys=some r→xs.length=ls.length∧ys.length=ls.length
 | [],[],[],_,_=>⟨rfl,rfl⟩
 | _ :: _,[],_,_,h=>by simp [fC] at h
 | _ :: _,_ :: _,[],_,h=>by simp [fC] at h
 | [],_ :: _,_,_,h=>by simp [fC] at h
 | [],[],_ :: _,_,h=>by simp [fC] at h
 | l :: ls,x :: xs,y :: ys,r,h=>by
  simp only [fC] at h
  split at h
  ·rename_i p q h1 h2
   have:=n9 h2
   simp [this.1,this.2]
  ·cases h
theorem sB:∀(l1 l2:List LK) (xs ys:List AV) (r:Bool),fC (l1++l2) xs ys=some r→∃p q,fC l1 (xs.take l1.length) (ys.take l1.length)=some p∧fC l2 (xs.drop l1.length) (ys.drop l1.length)=some q∧r=(p&&q)
 | [],l2,xs,ys,r,h=>⟨true,r,by simp [fC],by simpa using h,by simp⟩
 | l :: l1,l2,[],ys,r,h=>by simp [fC] at h
 | l :: l1,l2,x :: xs,[],r,h=>by simp [fC] at h
 | l :: l1,l2,x :: xs,y :: ys,r,h=>by
  simp only [kx,fC] at h
  split at h
  case h_2=>cases h
  rename_i p q h1 h2
  cases h
  obtain ⟨p',q',h3,h4,rfl⟩:=sB l1 l2 xs ys q h2
  exact ⟨p&&p',q',by simp [fC,h1,h3],by simpa using h4,by simp [Bool.and_assoc]⟩
theorem yk {x y:AV} {r:Bool} (h:fF .b x y=some r):∃p q,x = .bool p∧y = .bool q∧r=(p==q):=by
 cases x<;>cases y<;>simp only [fF,bH] at h<;>first | exact ⟨_,_,rfl,rfl,h.symm⟩ | cases h
theorem yl {x y:AV} {r:Bool} (h:fF .i x y=some r):∃k p q,x = .int k p∧y = .int k q∧r=(p==q):=by
 cases x<;>cases y<;>simp only [fF] at h<;>first | (split at h;(rename_i hk;subst hk;cases h;exact ⟨_,_,_,rfl,rfl,rfl⟩);(cases h)) | cases h
theorem ym {x y:AV} {r:Bool} (h:fF .s x y=some r):∃p q,x = .str p∧y = .str q∧r=(p==q):=by
 cases x<;>cases y<;>simp only [fF,bH] at h<;>first | exact ⟨_,_,rfl,rfl,h.symm⟩ | cases h
def ng (P:Program) (t:TypeId) (x:AV) (xs:List AV):Prop :=
 match P.underlying t with
 | some (.struct _)=>x = .agg xs
 | _=>xs=[x]
theorem vS {t:TypeId} {ls:List LK} {m:Nat} (ht:jY P m t=some ls) {cells:List AV} {off:Nat} (hl:((cells.drop off).take ls.length).length=ls.length) :
  ∃n x,jK P t=some n∧iF n (cells.drop off)=some x∧ng P t x ((cells.drop off).take ls.length):=by
 have one:∀(l:LK),ls=[l]→(∀fs,P.underlying t≠some (.struct fs))→jK P t=some none→∃n x,jK P t=some n∧iF n (cells.drop off)=some x∧ng P t x ((cells.drop off).take ls.length):=fun l e h1 h2=>by
  subst e
  obtain ⟨y,r,hc⟩:∃y r,cells.drop off=y :: r:=by
   cases hc:cells.drop off with
   | nil=>rw [hc] at hl;simp at hl
   | cons y r=>exact ⟨y,r,rfl⟩
  refine ⟨none,y,h2,by rw [hc];rfl,?_⟩
  unfold ng
  split
  ·rename_i fs h3;exact absurd h3 (h1 fs)
  ·rw [hc];rfl
 have inf:∀{d:TypeDesc},P.underlying t=some d→∃i,P.info? t=some i:=fun {d} hu=>by
  obtain ⟨i,hi⟩:=info_of_underlying hu
  exact ⟨i,hi⟩
 cases m with
 | zero=>simp [jY] at ht
 | succ m =>
  unfold jY at ht
  split at ht
  ·rename_i hu;cases ht;obtain ⟨i,hi⟩:=inf hu;exact one _ rfl (fun fs h=>by rw [hu] at h;cases h) (by simp [jK,hu,hi])
  ·rename_i hu;cases ht;obtain ⟨i,hi⟩:=inf hu;exact one _ rfl (fun fs h=>by rw [hu] at h;cases h) (by simp [jK,hu,hi])
  ·rename_i hu;cases ht;obtain ⟨i,hi⟩:=inf hu;exact one _ rfl (fun fs h=>by rw [hu] at h;cases h) (by simp [jK,hu,hi])
  ·rename_i fs hu
   split at ht
   ·cases ht
   split at ht
   case h_2=>cases ht
   split at ht
   case isFalse=>cases ht
   rename_i hs
   cases ht
   refine ⟨some ls.length,.agg ((cells.drop off).take ls.length),hs,?_,?_⟩
   ·rw [iF,bz (by rw [vy] at hl;omega)]
   ·unfold ng;rw [hu]
  ·cases ht
def I7 (P:Program) (m:Nat):Prop:=∀(t:TypeId) (ls:List LK),jY P m t=some ls→∀(M:Nat→Prop) (bl:Nat→Option Nat) (w:World) (d:Nat) (a b:Value) (x y:AV) (xs ys:List AV) (r:Bool),
 df bl M w a x→df bl M w b y→ng P t x xs→ng P t y ys→fC ls xs ys=some r→(Op.equalIn (d+m) t a b).run P w = .ok r w
theorem qg {m:Nat} (IH:I7 P m) {M:Nat→Prop} {d:Nat} {A B:List Value} {xs ys:List AV} (hA:aC (bq bl M w) A xs) (hB:aC (bq bl M w) B ys):∀(fs:List Field) (off:Nat) (ls:List LK) (r:Bool),
  py (jY P m) fs off=some ls→fC ls (xs.drop off) (ys.drop off)=some r→(Op.eqFields (d+m) A.toArray B.toArray fs).run P w = .ok r w
 | [],off,ls,r,h1,h2=>by
  simp only [py,bH] at h1
  subst h1
  obtain ⟨e1,e2⟩:=n9 h2
  cases hx:xs.drop off with
  | cons=>rw [hx] at e1;simp at e1
  | nil=>cases hy:ys.drop off with
   | cons=>rw [hy] at e2;simp at e2
   | nil =>
    rw [hx,hy] at h2
    simp only [fC,bH] at h2
    subst h2
    simp [Op.eqFields]
 | fd :: fs,off,ls,r,h1,h2=>by
  simp only [py] at h1
  split at h1
  case isFalse=>cases h1
  rename_i hc
  obtain ⟨ho,hn⟩:=hc
  split at h1
  case h_2=>cases h1
  rename_i l hl
  split at h1
  case h_2=>cases h1
  rename_i ls' hls
  cases h1
  obtain ⟨p,q,g1,g2,rfl⟩:=sB l ls' _ _ r h2
  obtain ⟨e1,e2⟩:=n9 g1
  obtain ⟨n,x,t1,t2,t3⟩:=vS hl e1
  obtain ⟨n',y,t4,t5,t6⟩:=vS hl e2
  obtain ⟨u,u1,u2⟩:=gB (w:=w) t1 hA t2
  obtain ⟨v,v1,v2⟩:=gB (w:=w) t4 hB t5
  have key:=IH fd.type l hl M bl w d u v x y _ _ p u2 v2 t3 t6 g1
  rw [List.drop_drop,List.drop_drop] at g2
  have rest:=qg (d:=d) IH hA hB fs (off+l.length) ls' q hls g2
  simp only [Op.eqFields,hn,ne_eq,not_false_eq_true,cX,Sem.run_bind,ho,u1,v1,key,Result.andThen_ok]
  cases p
  ·simp
  ·simpa using rest
theorem Bv:∀m,I7 P m
 | 0=>fun t ls ht=>by simp [jY] at ht
 | m+1=>fun t ls ht M bl w d a b x y xs ys r ha hb fx fy h=>by
  have lf:∀(l:LK),ls=[l]→(∀fs,P.underlying t≠some (.struct fs))→∃r',fF l x y=some r'∧r=r':=fun l e hn=>by
   subst e
   have hx:xs=[x]:=by unfold ng at fx;split at fx;exact absurd (by assumption) (hn _);exact fx
   have hy:ys=[y]:=by unfold ng at fy;split at fy;exact absurd (by assumption) (hn _);exact fy
   subst hx;subst hy
   simp only [fC] at h
   split at h
   ·rename_i p q h1 h2
    cases h2;cases h
    exact ⟨p,h1,by simp⟩
   ·cases h
  have e0:d+(m+1)=(d+m)+1:=rfl
  unfold jY at ht
  split at ht
  ·rename_i hu
   cases ht
   obtain ⟨r',h1,rfl⟩:=lf .b rfl (fun fs h=>by rw [hu] at h;cases h)
   obtain ⟨p,q,rfl,rfl,rfl⟩:=yk h1
   rw [e0,(df.toV ha).bool,(df.toV hb).bool]
   exact run_equalIn_bool' w _ t _ _ hu
  ·rename_i k0 hu
   cases ht
   obtain ⟨r',h1,rfl⟩:=lf .i rfl (fun fs h=>by rw [hu] at h;cases h)
   obtain ⟨k,p,q,rfl,rfl,rfl⟩:=yl h1
   rw [e0,(df.toV ha).int,(df.toV hb).int]
   exact run_equalIn_int w _ t k k0 _ _ hu
  ·rename_i hu
   cases ht
   obtain ⟨r',h1,rfl⟩:=lf .s rfl (fun fs h=>by rw [hu] at h;cases h)
   obtain ⟨p,q,rfl,rfl,rfl⟩:=ym h1
   rw [e0,(df.toV ha).str,(df.toV hb).str,run_equalIn_string w _ t _ _ hu]
   simp
  ·rename_i fs hu
   split at ht
   ·cases ht
   rename_i hst
   split at ht
   case h_2=>cases ht
   rename_i ls' hls
   split at ht
   case isFalse=>cases ht
   cases ht
   have hx:x = .agg xs:=by unfold ng at fx;rw [hu] at fx;exact fx
   have hy:y = .agg ys:=by unfold ng at fy;rw [hu] at fy;exact fy
   subst hx;subst hy
   obtain ⟨A,rfl,hA⟩:=ha
   obtain ⟨B,rfl,hB⟩:=hb
   have hfs:P.fieldsOf t=fs:=by simp [Program.fieldsOf,hu]
   rw [e0,run_equalIn_struct w (d+m) t _ _ (by rw [hfs];exact hu) (by simpa using hst),hfs]
   exact qg (Bv m) hA hB fs.toList 0 ls r hls (by simpa using h)
  ·cases ht
theorem H6 (s:aB c bl g h a w) {t t':TypeId} {fs:Array Field} {op:BinOp} {x y:Operand} {xv yv:IV} {l:LK} {ls:List LK} (ho:o.op = .binOp op t x y t') (ht:P.underlying t=some (.struct fs)) (hg:P.eqGuardType P.depth t=false) (hl:jY P 20 t=some (l :: ls)) (hx:cV x=some xv) (hy:cV y=some yv)
  {v:AV} (he:iP op (l :: ls) (val g xv) (val g yv)=some v):aI P c o a w g h v .no:=by
 have h1:=aG s hx
 have h2:=aG s hy
 have key:∀xs ys r,val g xv = .agg xs→val g yv = .agg ys→fC (l :: ls) xs ys=some r→∃A B,a.eval x = .agg A∧a.eval y = .agg B∧(Op.equalIn 10000 t (.agg A) (.agg B)).run P w = .ok r w:=fun xs ys r e1 e2 e3=>by
  rw [e1] at h1;rw [e2] at h2
  have k:=Bv (P:=P) 20 t (l :: ls) hl (aT bl c.MF h) bl w 9980 (a.eval x) (a.eval y) (.agg xs) (.agg ys) xs ys r h1 h2 (by unfold ng;rw [ht]) (by unfold ng;rw [ht]) e3
  obtain ⟨A,q1,_⟩:=h1
  obtain ⟨B,q3,_⟩:=h2
  rw [q1,q3] at k
  exact ⟨_,_,q1,q3,k⟩
 unfold iP at he
 split at he<;>first | (cases he;done) | skip
 all_goals first | (rename_i hl _ _;cases hl;done) | skip
 ·rename_i l' ls' xs ys hll e1 e2
  cases hll
  simp only [cj] at he
  obtain ⟨r,e3,rfl⟩:=he
  obtain ⟨A,B,q1,q2,q3⟩:=key xs ys r e1 e2 e3
  exact aI.pure s (r:=.bool _) (by simp only [execOp,ho,q1,q2,Sem.run_bind,run_eqGuard_agg w _ t _ _ _ _ hg,run_eql_struct,q3,Result.andThen_ok];rfl) (gA _)
 ·rename_i l' ls' xs ys hll e1 e2
  cases hll
  simp only [cj] at he
  obtain ⟨r,e3,rfl⟩:=he
  obtain ⟨A,B,q1,q2,q3⟩:=key xs ys r e1 e2 e3
  exact aI.pure s (r:=.bool _) (by simp only [execOp,ho,q1,q2,Sem.run_bind,run_eqGuard_agg w _ t _ _ _ _ hg,run_neq_struct,q3,Result.andThen_ok];rfl) (gA _)
theorem H0 (s:aB c bl g h a w) {t t':TypeId} {ps rs:Array TypeId} {vd:Bool} {op:BinOp} {x y:Operand} {xv yv:IV} (ho:o.op = .binOp op t x y t') (ht:P.underlying t=some (.func ps rs vd)) (hx:cV x=some xv) (hy:cV y=some yv)
  {v:AV} (he:iP op [] (val g xv) (val g yv)=some v):aI P c o a w g h v .no:=by
 have h1:=aG s hx
 have h2:=aG s hy
 have nf:∀{u:Value} {M:Nat→Prop},aO bl M w u .nf→u = .nilFunc:=fun hv=>by simp only [aO,df,bq,cO] at hv;cases hv;rfl
 have q1:∀f cs1 cs2,(Op.equal t (.func f cs1 cs2) .nilFunc).run P w = .ok false w:=fun f cs1 cs2=>by
  have h1:(Op.equalIn (9999+1) t (.func f cs1 cs2) .nilFunc).run P w = .ok false w:=by unfold Op.equalIn;simp [underlying,ht]
  exact h1
 have q2:(Op.equal t .nilFunc .nilFunc).run P w = .ok true w:=by
  have h1:(Op.equalIn (9999+1) t .nilFunc .nilFunc).run P w = .ok true w:=by unfold Op.equalIn;simp [underlying,ht]
  exact h1
 unfold iP at he
 split at he<;>first | (cases he;done) | skip
 all_goals first | (rename_i hl _ _;cases hl;done) | skip
 ·rename_i f cs e1 e2
  rw [e1] at h1;rw [e2] at h2
  obtain ⟨cs',h3,_⟩:=h1
  cases he
  exact aI.pure s (r:=.bool _) (by simp only [execOp,ho,h3,nf h2,eqGuard,binOp];simp [q1]) (gA _)
 ·rename_i f cs e1 e2
  rw [e1] at h1;rw [e2] at h2
  obtain ⟨cs',h3,_⟩:=h1
  cases he
  exact aI.pure s (r:=.bool _) (by simp only [execOp,ho,h3,nf h2,eqGuard,binOp];simp [q1]) (gA _)
 ·rename_i e1 e2
  rw [e1] at h1;rw [e2] at h2
  cases he
  exact aI.pure s (r:=.bool _) (by simp only [execOp,ho,nf h1,nf h2,eqGuard,binOp];simp [q2]) (gA _)
 ·rename_i e1 e2
  rw [e1] at h1;rw [e2] at h2
  cases he
  exact aI.pure s (r:=.bool _) (by simp only [execOp,ho,nf h1,nf h2,eqGuard,binOp];simp [q2]) (gA _)
theorem IS (s:aB c bl g h a w) {st:Nat} {y:Operand} {yv:IV} (hy:cV y=some yv) {rows:List (List AV)} (hr:dU st h (val g yv)=some rows) (k:Nat) (hk:k≤rows.length) :
  ∃ys:List Value,(∀w':World,(Builtin.lenOf (a.eval y)).run P w' = .ok rows.length w')∧(∀w':World,w'.heap=w.heap→(Builtin.firstCells st k (a.eval y)).run P w' = .ok ys.toArray w')∧gX (IRel (aT bl c.MF h) w) st ys (rows.take k):=by
 have h1:=aG s hy
 have tk:∀{rows:List (List AV)} {i:Nat} {r:List AV},(rows.take k)[i]? = some r→rows[i]? = some r:=fun {rows i r} hi=>by
  rw [List.getElem?_take] at hi
  split at hi
  ·exact hi
  ·cases hi
 have nil:∀{v:Value},v = .slice none 0 0→∃ys:List Value,(∀w':World,(Builtin.lenOf v).run P w' = .ok ([]:List (List AV)).length w')∧(∀w':World,w'.heap=w.heap→(Builtin.firstCells st k v).run P w' = .ok ys.toArray w')∧gX (IRel (aT bl c.MF h) w) st ys (([]:List (List AV)).take k):=fun {v} hv=>by
  subst hv
  exact ⟨[],(nP (P:=P) (w:=w) st).len,fun w' _=>by simp [Builtin.firstCells],by simpa using fo st⟩
 have emp:∀{ad:Addr} {cap:Nat},k=0→∃ys:List Value,(∀w':World,(Builtin.lenOf (.slice (some ad) 0 cap)).run P w' = .ok ([]:List (List AV)).length w')∧(∀w':World,w'.heap=w.heap→(Builtin.firstCells st k (.slice (some ad) 0 cap)).run P w' = .ok ys.toArray w')∧gX (IRel (aT bl c.MF h) w) st ys (([]:List (List AV)).take k):=fun {ad cap} hk=>by
  subst hk
  exact ⟨[],(jE (P:=P) (w:=w) st ad cap).len,(jE (P:=P) (w:=w) st ad cap).vals,by simpa using fo st⟩
 cases hval:val g yv<;>rw [hval] at hr h1<;>simp only [dU] at hr<;>try cases hr
 case nl=>exact nil h1.nl
 case sl st' rows' =>
  split at hr
  case isFalse=>cases hr
  rename_i hst
  subst hst
  cases hr
  generalize hu:a.eval y=u at h1
  have h2:=h1.sl
  cases h2 with
  | nls=>exact nil rfl
  | sl0 st ad cap=>exact emp (by simpa using hk)
  | sl b off cap st c1 t1 fr rows vs hb hM hl hrl hv hx =>
   obtain ⟨ys,h3,h4⟩:=iq (P:=P) (R:=IRel (aT bl c.MF h) w) (off:=off) (rows:=rows.take k) hb (fun i r hi=>hrl i r (tk hi)) (fun i j r x hi hj=>⟨vs i j,hv i j (dE.1 (tk hi)).1 (by rw [← hrl i r (tk hi)];exact (dE.1 hj).1),hx i j r x (tk hi) hj⟩)
   rw [vy,Nat.min_eq_left hk] at h4
   exact ⟨ys,fun w'=>by simp [Builtin.lenOf],fun w' hw=>by simp [Builtin.firstCells,h4 w' hw],h3⟩
 case ms id st' off len =>
  split at hr
  case h_2=>cases hr
  rename_i ob hob
  split at hr
  case isFalse=>cases hr
  rename_i hcond
  obtain ⟨rfl,hst,hrec,hfit⟩:=hcond
  cases hr
  have hlen:((ob.rows.drop off).take len).length=len:=by simp;omega
  rcases h1 with ⟨h2,h3,h4⟩ | ⟨h2,h3,ad,cap,h4⟩ | ⟨b,cap,c1,t1,fr,h2,h3,h4,h5,h6⟩
  ·subst h3 h4
   simp only [dN]
   exact nil h2
  ·subst h2
   rw [h4]
   simp only [dN]
   exact emp (by simpa using hk)
  ·rcases s.heap.1 id ob hob with hn0 | ⟨b',g2,⟨_,c2,fr2,g3,g4,g5,g6,g7,g8⟩ | hsp⟩
   ·rw [hn0.2.2] at h2;cases h2
   rotate_left
   ·rw [h2] at g2;cases g2;exact (hsp.ne h5).elim
   rw [h2] at g2
   cases g2
   have getr:∀(i:Nat) (r:List AV),(((ob.rows.drop off).take len).take k)[i]? = some r→ob.rows[off+i]? = some r:=fun i r hi=>by
    have hi:=tk hi
    rw [List.getElem?_take] at hi
    split at hi
    ·simpa using hi
    ·cases hi
   obtain ⟨ys,q3,q4⟩:=iq (P:=P) (R:=IRel (aT bl c.MF h) w) (w:=w) (off:=off * st') (st:=st') (rows:=((ob.rows.drop off).take len).take k) g3 (fun i r hi=>by rw [← hst];exact g6 _ _ (getr i r hi)) (fun i j r x hi hj=>by
    obtain ⟨v,hv,hrl⟩:=g8 _ _ _ _ (getr i r hi) hj
    rw [hrec] at hrl
    refine ⟨v,?_,hrl⟩
    rw [← hv,hst,fJ])
   rw [vy,Nat.min_eq_left hk] at q4
   refine ⟨ys,?_,?_,q3⟩
   ·rw [h3,hlen]
    exact fun w'=>by simp [Builtin.lenOf]
   ·rw [h3]
    exact fun w' hw=>by simp [Builtin.firstCells,q4 w' hw]
theorem MG (s:aB c bl g h a w) {t t' e:TypeId} {st:Nat} {cl:Call} {x y:Operand} {xv:IV} (ho:o.op = .call cl) (hcl:cl.callee = .builtin .copy) (hat:cl.argTypes = #[t,t']) (har:cl.args = #[x,y]) (ht:P.underlying t=some (.slice e)) (hn:dX P e=some st)
  (hx:cV x=some xv) {id off len:Nat} (hxv:val g xv = .ms id st off len) {ob:ac} (hob:h id=some ob) (hst:ob.st=st) (hrec:ob.isRec=false) (hfit:off+len≤ob.rows.length)
  {yrows:List (List AV)} {ys:List Value} (N:Nat) (hlen:∀w':World,(Builtin.lenOf (a.eval y)).run P w' = .ok N w') (hN:Nat.min N len=yrows.length) (hvals:∀w':World,w'.heap=w.heap→(Builtin.firstCells st yrows.length (a.eval y)).run P w' = .ok ys.toArray w') (hy:(∀(i:Nat) (r:List AV),yrows[i]? = some r→r.length=st)∧ys.length=yrows.length * st ∧
   ∀(i j:Nat) (r:List AV) (x:AV),yrows[i]? = some r→r[j]? = some x→∃v,ys[i * st+j]? = some v∧IRel (aT bl c.MF h) w v x) (hle:yrows.length≤len) :
  aI P c o a w g h (.int .i64 yrows.length) (.put id { ob with rows:=ob.rows.take off++yrows++ob.rows.drop (off+yrows.length) }):=by
 have h1:=aG s hx
 rw [hxv] at h1
 have hsz:(sizeOf e).run P w = .ok st w:=lh hn
 have hund:(underlying t).run P w = .ok (.slice e) w:=by simp [underlying,ht]
 have key:∀(base:Option Addr) (cap:Nat) (w':World),a.eval x = .slice base len cap→(match base with | some ad=>(storeCells ad ys).run P w = .ok () w' | none=>w'=w)→(execOp a.eval o).run P w = .ok (.value (.int .i64 yrows.length)) w':=by
  intro base cap w' hv hstore
  have hmin:Nat.min N len=yrows.length:=hN
  have e1:=hlen w
  have e2:=hvals w rfl
  cases base with
  | none=>subst hstore;simp [execOp,ho,resolve,hcl,har,hat,invoke,builtin,Builtin.copy_,hund,hv,e1,hmin,hsz,e2,goInt]
  | some ad=>simp [execOp,ho,resolve,hcl,har,hat,invoke,builtin,Builtin.copy_,hund,hv,e1,hmin,hsz,e2,hstore,goInt]
 subst hst
 have empty:yrows=[]→∀base cap,a.eval x = .slice base len cap→aI P c o a w g h (.int .i64 yrows.length) (.put id { ob with rows:=ob.rows.take off++yrows++ob.rows.drop (off+yrows.length) }):=by
  rintro rfl base cap hv
  have hys:ys=[]:=List.length_eq_zero_iff.1 (by simpa using hy.2.1)
  subst hys
  have eo:({ ob with rows:=ob.rows.take off++[]++ob.rows.drop (off+([]:List (List AV)).length) }:ac)=ob:=by simp
  rw [eo]
  refine ⟨_,w,bl,.inl (key base cap w hv ?_),s.congr (fun _=>rfl) (fun j=>?_),?_⟩
  ·cases base with
   | none=>rfl
   | some ad=>simp [storeCells]
  ·by_cases hj:j=id
   ·subst hj;simp [aM.hp,cJ,hob]
   ·simp [aM.hp,cJ,hj]
  ·exact jq _ _
 rcases h1 with ⟨h2,_,h4⟩ | ⟨h4,_,ad,cap,h2⟩ | ⟨b,cap,c0,t0,fr0,h2,h3,h4,h5,h6⟩
 ·subst h4
  exact empty (List.length_eq_zero_iff.1 (by omega)) _ _ h2
 ·subst h4
  exact empty (List.length_eq_zero_iff.1 (by omega)) _ _ h2
 rcases s.heap.1 id ob hob with hn0 | ⟨b',q2,⟨gk,c1,fr,q3,q4,q5,q6,q7,q8⟩ | hsp⟩
 ·rw [hn0.2.2] at h2;cases h2
 rotate_left
 ·rw [h2] at q2;cases q2;exact (hsp.ne h5).elim
 rw [h2] at q2
 cases q2
 have hspace:off * ob.st+ys.length≤c1.size:=by
  rw [hy.2.1,← fJ]
  exact cE (iO _ (by omega)) q7
 have hone:∀v∈ys,fj v:=fun v hv=>by
  obtain ⟨k,hk⟩:=List.getElem?_of_mem hv
  have hlt:k<yrows.length * ob.st:=by rw [← hy.2.1];exact (dE.1 hk).1
  have hpos:0<ob.st:=Nat.pos_of_ne_zero fun h0=>by rw [h0] at hlt;omega
  have hi:k / ob.st<yrows.length:=Nat.div_lt_of_lt_mul (by rw [Nat.mul_comm];exact hlt)
  have hr:=hy.1 _ _ (eJ hi)
  have hj:k % ob.st<(yrows[k / ob.st]).length:=by rw [hr];exact Nat.mod_lt _ hpos
  obtain ⟨v',q9,q10⟩:=hy.2.2 _ _ _ _ (eJ hi) (eJ hj)
  rw [Nat.mul_comm,Nat.div_add_mod,hk] at q9
  cases q9
  exact q10.one
 have hst':=f6 (P:=P) (w:=w) (b:=b) (off:=off * ob.st) (vs:=ys) q3 q4 hspace hone
 obtain ⟨c2,g1,g2,g3,g4,g5,g6,g7⟩:=fO b ys (off * ob.st) w q3 hspace
 have hl3:(ob.rows.take off++yrows++ob.rows.drop (off+yrows.length)).length=ob.rows.length:=by
  simp only [wF,vy,vx];omega
 have hrow:∀i:Nat,(ob.rows.take off++yrows++ob.rows.drop (off+yrows.length))[i]? = if off≤i∧i<off+yrows.length then yrows[i - off]? else ob.rows[i]?:=fun i=>by
  have hlt:(ob.rows.take off).length=off:=by simp;omega
  rcases bK i off with g8 | g8
  ·rw [aJ (by omega),vw,List.getElem?_append_left (by omega),List.getElem?_take_of_lt g8]
  ·rcases bK i (off+yrows.length) with g9 | g9
   ·rw [bz ⟨g8,g9⟩,List.getElem?_append_left (by simp;omega),List.getElem?_append_right (by omega),hlt]
   ·rw [aJ (by omega),List.getElem?_append_right (by simp;omega),List.getElem?_drop]
    congr 1
    simp;omega
 have hs:=s.write (o':={ ob with rows:=ob.rows.take off++yrows++ob.rows.drop (off+yrows.length) }) hob h2 q3 g1 g2 g4 g5 g6 g7 rfl ⟨fun i q hq=>by
   simp only at hq ⊢
   rw [hrow] at hq
   split at hq
   ·exact hy.1 _ _ hq
   ·exact q6 _ _ hq,by simp only [hl3];rw [g2];exact q7,fun i j q z hq hz=>by
   simp only at hq hz ⊢
   rw [hrow] at hq
   have hj:j<ob.st:=by
    split at hq
    ·rw [← hy.1 _ _ hq];exact (dE.1 hz).1
    ·rw [← q6 _ _ hq];exact (dE.1 hz).1
   have hin:(off * ob.st≤i * ob.st+j∧i * ob.st+j<off * ob.st+ys.length)↔(off≤i∧i<off+yrows.length):=by
    rw [hy.2.1]
    constructor
    ·rintro ⟨a1,a2⟩
     refine ⟨Nat.le_of_not_lt fun hlt=>?_,Nat.lt_of_not_le fun hle=>?_⟩
     ·have:=iO ob.st (show i+1≤off by omega)
      rw [fJ] at this
      omega
     ·have:=iO ob.st hle
      rw [fJ] at this
      omega
    ·rintro ⟨a1,a2⟩
     have b1:=iO ob.st a1
     have b2:=iO ob.st (show i+1≤off+yrows.length by omega)
     rw [fJ,fJ] at b2
     omega
   rw [g3]
   split at hq
   ·rename_i hc
    rw [bz (hin.2 hc)]
    obtain ⟨v,w1,w2⟩:=hy.2.2 _ _ _ _ hq hz
    refine ⟨v,?_,?_⟩
    ·rw [← w1]
     congr 1
     have:=iO ob.st hc.1
     rw [Nat.sub_mul]
     omega
    ·rw [hrec];exact w2
   ·rename_i hc
    rw [aJ (fun hh=>hc (hin.1 hh))]
    exact q8 _ _ _ _ hq hz⟩
 exact ⟨_,_,bl,.inl (key _ _ _ h3 hst'),hs,jq _ _⟩
end
def i7:fK→Bool
 | .new ..=>true
 | .box ..=>true
 | .bsl ..=>true
 | .app ..=>true
 | .apps ..=>true
 | .cvb ..=>true
 | .mks ..=>true
 | .mop .rng _=>true
 | .mop .mkm _=>true
 | _=>false
section
variable {P:Program} {c:i3} {bl:Nat→Option Nat} {g:Nat→AV} {h:Nat→Option ac} {a:Act} {w:World} {o:Oper}
theorem aW {x:Option AV} {v:AV} {e:aM} (h:res x=some (v,e)):x=some v∧e = .no:=by
 unfold res at h
 simp only [cj,Prod.mk.injEq] at h
 obtain ⟨y,h1,rfl,rfl⟩:=h
 exact ⟨h1,rfl⟩
theorem xd {α:Type} {x:Array α} {t:α} (h:x.toList=[t]):x = #[t]:=by cases x;simp_all
theorem n_ {α:Type} {x:Array α} {t u:α} (h:x.toList=[t,u]):x = #[t,u]:=by cases x;simp_all
theorem nL {f:Nat→ac→Option (AV×aM)} {v r:AV} {e:aM} {h:Nat→Option ac} (hq:∃id,v = .mm id true∧(h id).bind (f id)=some (r,e)):∃id ob,v = .mm id true∧h id=some ob∧f id ob=some (r,e):=by
 obtain ⟨id,h1,h2⟩:=hq
 simp only [jx] at h2
 obtain ⟨ob,h3,h4⟩:=h2
 exact ⟨id,ob,h1,h3,h4⟩
theorem qB {i:Nat} {rows:List (List AV)} (h:kW i rows=true):∀r∈rows,∀x∈r,mC i x=false:=fun r hr x hx=>by
 simpa using cZ.1 (cZ.1 h r hr) x hx
theorem ug (s:aB c bl g h a w) {op:fK} (hc:gu P o.op=some op) {d:Nat} {x:AV} {e:aM} (he:ba d op (val g) h=some (x,e))
  (hnew:i7 op=true→h d=none∧bO d g h∧(d<1000∨1267650600228229401496703205376≤d)):aI P c o a w g h x e:=by
 generalize hoo:o.op=oo at hc
 cases oo with
 | move y =>
  simp only [gu,cj] at hc
  obtain ⟨v,h1,rfl⟩:=hc
  simp only [ba,bH,Prod.mk.injEq] at he
  obtain ⟨rfl,rfl⟩:=he
  exact DM s (.inl hoo) h1
 | assign y =>
  simp only [gu,cj] at hc
  obtain ⟨v,h1,rfl⟩:=hc
  simp only [ba,bH,Prod.mk.injEq] at he
  obtain ⟨rfl,rfl⟩:=he
  exact DM s (.inr hoo) h1
 | pick q y z =>
  simp only [gu] at hc
  split at hc
  case h_2=>cases hc
  rename_i qv yv zv h1 h2 h3
  cases hc
  exact H5 s hoo h1 h2 h3 (by simpa [ba] using he)
 | alloc t =>
  simp only [gu,cj] at hc
  obtain ⟨z,h1,rfl⟩:=hc
  simp only [ba,bH,Prod.mk.injEq] at he
  obtain ⟨rfl,rfl⟩:=he
  obtain ⟨n1,n2,n3⟩:=hnew rfl
  exact MV s hoo h1 n1 n2 n3
 | box t y =>
  simp only [gu] at hc
  split at hc
  case h_2=>cases hc
  rename_i n yv h1 h2
  cases hc
  simp only [ba] at he
  split at he
  case h_2=>cases he
  rename_i cs h3
  split at he
  case isFalse=>cases he
  rename_i hcond
  obtain ⟨rfl,h4⟩:=hcond
  cases he
  obtain ⟨n1,n2,n3⟩:=hnew rfl
  exact MD s hoo h2 h3 (fun y hy=>by simpa using cZ.1 h4 y hy) n1 n2 n3
 | build t parts =>
  simp only [gu] at hc
  split at hc
  case h_3=>cases hc
  case h_2 =>
   rename_i n e ht
   split at hc
   case h_2=>cases hc
   rename_i z ie h1 h2
   split at hc
   case isFalse=>cases hc
   rename_i hp
   cases hc
   simp only [ba,fY,cK] at he
   obtain ⟨hz,rfl⟩:=aW he
   cases hz
   exact yy s hoo ht h1 h2 (by simpa using hp)
  rename_i fs ht
  split at hc
  case h_2=>cases hc
  rename_i z places h1 h2
  simp only [cj] at hc
  obtain ⟨ps,h3,rfl⟩:=hc
  simp only [ba] at he
  obtain ⟨hz,rfl⟩:=aW he
  simp only [cj] at hz
  obtain ⟨out,h4,rfl⟩:=hz
  exact DK s hoo ht h1 h2 h3 h4
 | buildSlice t len parts =>
  simp only [gu] at hc
  split at hc
  case h_2=>cases hc
  rename_i e' ht
  split at hc
  case h_2=>cases hc
  rename_i z n ps h1 h2 h3
  split at hc
  case isFalse=>cases hc
  rename_i hcond
  obtain ⟨h4,h5,h7⟩:=hcond
  cases hc
  simp only [ba] at he
  obtain ⟨n1,n2,n3⟩:=hnew rfl
  unfold qW A6 at he
  split at he
  ·rename_i rs h8
   cases he
   exact ME s hoo ht h1 h2 h3 h4 h5 h7 h8 n1 n2 n3
  ·split at he
   ·rename_i rs h8
    split at he
    ·rename_i hno
     cases he
     exact wn s hoo ht h1 h2 h3 h4 h5 h7 h8 n1 n2 n3 (fun h=>by cases h) (fun _=>qB hno)
    ·cases he
   ·cases he
 | load t p =>
  simp only [gu] at hc
  split at hc
  case h_2=>cases hc
  rename_i n pv h1 h2
  cases hc
  simp only [ba] at he
  obtain ⟨hz,rfl⟩:=aW he
  exact H2 s hoo h1 h2 hz
 | store t p y =>
  simp only [gu] at hc
  split at hc
  case h_2=>cases hc
  rename_i n pv yv h1 h2 h3
  cases hc
  simp only [ba,cj,Prod.mk.injEq] at he
  obtain ⟨e',h4,rfl,rfl⟩:=he
  exact DO s hoo h1 h2 h3 h4
 | nilCheck y =>
  simp only [gu,cj] at hc
  obtain ⟨yv,h1,rfl⟩:=hc
  simp only [ba] at he
  split at he<;>try cases he
  ·rename_i id st row off hv
   have:=rJ (P:=P) s hoo h1 (.inl ⟨id,st,row,off,hv⟩)
   rwa [hv] at this
  ·rename_i cells hv
   have:=rJ (P:=P) s hoo h1 (.inr (.inl ⟨cells,hv⟩))
   rwa [hv] at this
  ·rename_i f caps hv
   have:=rJ (P:=P) s hoo h1 (.inr (.inr ⟨f,caps,hv⟩))
   rwa [hv] at this
 | binOp op' t y z t' =>
  simp only [gu] at hc
  split at hc
  case h_2=>cases hc
  rename_i yv zv h1 h2
  unfold xk at hc
  split at hc
  ·cases hc;simp only [ba] at he;obtain ⟨hz,rfl⟩:=aW he;exact HX s hoo (by assumption) h1 h2 (by assumption)
  ·cases hc;simp only [ba] at he;obtain ⟨hz,rfl⟩:=aW he;exact DJ s hoo h1 h2 (by assumption)
  ·cases hc;simp only [ba] at he;obtain ⟨hz,rfl⟩:=aW he;exact DJ s hoo h1 h2 (by assumption)
  ·cases hc;simp only [ba] at he;obtain ⟨hz,rfl⟩:=aW he;exact H4 s hoo (by assumption) h1 h2 (by assumption)
  ·cases hc;simp only [ba] at he;obtain ⟨hz,rfl⟩:=aW he;exact H0 s hoo (by assumption) h1 h2 (by assumption)
  ·split at hc
   ·cases hc
   rename_i hg
   split at hc
   case h_2=>cases hc
   rename_i l ls hls
   cases hc
   simp only [ba] at he
   obtain ⟨hz,rfl⟩:=aW he
   exact H6 s hoo (by assumption) (by simpa using hg) hls h1 h2 (by assumption)
  ·rename_i e' ht
   split at hc
   ·cases hc;simp only [ba] at he;obtain ⟨hz,rfl⟩:=aW he;exact uW s hoo ht (.inl ⟨rfl,rfl⟩) h1 h2 hz
   ·cases hc;simp only [ba] at he;obtain ⟨hz,rfl⟩:=aW he;exact uW s hoo ht (.inr ⟨rfl,rfl⟩) h1 h2 hz
   ·cases hc
  ·cases hc
 | unOp op' t y =>
  simp only [gu,cj] at hc
  obtain ⟨yv,h1,rfl⟩:=hc
  simp only [ba] at he
  obtain ⟨hz,rfl⟩:=aW he
  exact Q5 s hoo h1 hz
 | convert sr ds y =>
  simp only [gu] at hc
  split at hc
  case h_2=>cases hc
  rename_i yv h1
  unfold p8 at hc
  split at hc
  ·rename_i k' k h2 h3
   cases hc
   simp only [ba] at he
   split at he
   case h_2=>cases he
   rename_i kk n hv
   cases he
   exact MI s hoo h2 h3 h1 hv
  ·rename_i h2 h3
   cases hc
   simp only [ba] at he
   split at he
   case h_2=>cases he
   rename_i st hv
   cases he
   have:=HY (P:=P) s hoo h2 h3 h1 hv
   rwa [hv] at this
  ·rename_i e' h2 h3
   split at hc
   case h_2=>cases hc
   rename_i h4
   cases hc
   simp only [ba] at he
   split at he
   case h_2=>cases he
   rename_i rows h5
   obtain ⟨hz,rfl⟩:=aW he
   simp only [cj] at hz
   obtain ⟨bs,h6,rfl⟩:=hz
   exact ML s hoo h2 h4 h3 h1 h5 h6
  ·rename_i e' h2 h3
   split at hc
   case h_2=>cases hc
   rename_i h4
   cases hc
   simp only [ba] at he
   split at he
   case h_2=>cases he
   rename_i st hv
   split at he
   case isFalse=>cases he
   cases he
   obtain ⟨n1,n2,n3⟩:=hnew rfl
   exact MH s hoo h2 h4 h3 h1 hv n1 n2 n3
  ·rename_i e0 e' h2 h3
   split at hc
   case h_2=>cases hc
   rename_i hsd h4
   cases hc
   simp only [ba] at he
   obtain ⟨id,st,off,len,ob,q1,q2,q3,q4,q5,q6,rfl,rfl⟩:=i5 he
   exact MJ s hoo h2 h3 hsd h4 h1 q1 q2 q3 q4 q5 q6
  ·cases hc
 | makeFunc fn first caps =>
  cases fn<;>simp only [gu] at hc<;>try cases hc
  rename_i f
  split at hc
  case isFalse=>cases hc
  rename_i hf
  simp only [cj] at hc
  obtain ⟨cv,h1,rfl⟩:=hc
  simp only [ba] at he
  split at he
  case isFalse=>cases he
  rename_i hall
  cases he
  exact MO s hoo hf h1 (fun v hv=>cZ.1 hall (val g v) (List.mem_map.2 ⟨v,hv,rfl⟩))
 | makeSlice t l cp =>
  simp only [gu] at hc
  split at hc
  case h_2=>cases hc
  rename_i e' st lv cv h1 h2 h3
  simp only [cj] at hc
  obtain ⟨z,h4,rfl⟩:=hc
  simp only [ba] at he
  split at he
  case h_2=>cases he
  rename_i n m h5 h6
  split at he
  case isFalse=>cases he
  rename_i hcond
  obtain ⟨q1,q2,q3,q4⟩:=hcond
  cases he
  obtain ⟨n1,n2,n3⟩:=hnew rfl
  exact MQ s hoo h1 h4 h2 h3 h5 h6 q1 q2 q3 q4 n1 n2 n3
 | slice t y lo hi mx =>
  simp only [gu] at hc
  split at hc
  ·rename_i e' yv lov hiv mxv h1 h2 h3 h4 h5
   split at hc
   case isFalse=>cases hc
   rename_i hb
   simp only [cj] at hc
   obtain ⟨n,h6,rfl⟩:=hc
   simp only [ba] at he
   obtain ⟨hz,rfl⟩:=aW he
   exact MZ s hoo h1 h6 h2 h3 h4 h5 (by
    intro hm
    cases mx<;>simp_all) hz
  ·rename_i yv lov hiv h1 h2 h3 h4 h5
   cases hc
   simp only [ba] at he
   obtain ⟨hz,rfl⟩:=aW he
   have hm:mx=none:=by
    cases mx with
    | none=>rfl
    | some q=>simp [jG] at h5
   subst hm
   exact H9 s hoo h1 h2 h3 h4 hz
  ·cases hc
 | fieldAddr t y f =>
  simp only [gu] at hc
  split at hc
  case h_2=>cases hc
  rename_i fs yv h1 h2
  split at hc
  case h_2=>cases hc
  rename_i fd h3
  split at hc
  case h_2=>cases hc
  rename_i n h4
  cases hc
  simp only [ba] at he
  obtain ⟨hz,rfl⟩:=aW he
  exact HZ s hoo h1 h3 h4 rfl h2 hz
 | field t y f =>
  simp only [gu] at hc
  split at hc
  case h_2=>cases hc
  rename_i fs yv h1 h2
  split at hc
  case h_2=>cases hc
  rename_i fd h3
  simp only [cj] at hc
  obtain ⟨n,h4,rfl⟩:=hc
  simp only [ba] at he
  obtain ⟨hz,rfl⟩:=aW he
  exact MN s hoo h1 h3 h4 rfl h2 hz
 | indexAddr t y i =>
  simp only [gu] at hc
  split at hc
  case h_3=>cases hc
  case h_1 =>
   rename_i e' yv iv h1 h2 h3
   simp only [cj] at hc
   obtain ⟨n,h4,rfl⟩:=hc
   simp only [ba] at he
   obtain ⟨hz,rfl⟩:=aW he
   exact H1 s hoo h1 h4 h2 h3 hz
  case h_2 =>
   rename_i len e' yv iv h1 h2 h3
   simp only [cj] at hc
   obtain ⟨n,h4,rfl⟩:=hc
   simp only [ba] at he
   obtain ⟨hz,rfl⟩:=aW he
   exact HW s hoo h1 h4 h2 h3 hz
 | index t y i =>
  simp only [gu] at hc
  split at hc
  case h_2=>cases hc
  rename_i yv iv h1 h2 h3
  cases hc
  simp only [ba] at he
  split at he
  case h_2=>cases he
  rename_i st k n h4 h5
  split at he
  case isFalse=>cases he
  rename_i h0
  split at he
  case h_2=>cases he
  rename_i b hb
  cases he
  exact H7 s hoo h1 h2 h3 h4 h5 h0 hb
 | extract y i =>
  simp only [gu,cj] at hc
  obtain ⟨yv,h1,rfl⟩:=hc
  simp only [ba] at he
  split at he
  case h_2=>cases he
  rename_i vs hv
  obtain ⟨hz,rfl⟩:=aW he
  exact MM s hoo h1 hv hz
 | call cl =>
  simp only [gu] at hc
  unfold p6 at hc
  split at hc
  ·rename_i f hcl
   split at hc
   ·simp only [cj] at hc
    obtain ⟨_,_,rfl⟩:=hc
    simp [ba] at he
   ·obtain ⟨fn,y,z,yv,zv,q1,q2,q3,q4,q5,q6,q7,rfl⟩:=g_ hc
    simp only [ba] at he
    obtain ⟨hz,rfl⟩:=aW he
    exact MY s hoo hcl (n_ q5) q1 q2 q3 q4 q6 q7 hz
  ·split at hc
   ·simp only [cj] at hc
    obtain ⟨_,_,rfl⟩:=hc
    simp [ba] at he
   ·cases hc
  ·cases hc
  ·cases hc
  ·rename_i hcl
   split at hc
   case h_2=>cases hc
   rename_i t y h1 h2
   split at hc<;>(try cases hc)<;>simp only [cj] at hc<;>obtain ⟨yv,h3,rfl⟩:=hc<;>simp only [ba] at he
   ·obtain ⟨hz,rfl⟩:=aW he
    rename_i e' ht
    exact ok_len s hoo hcl (xd h1) (xd h2) ht h3 hz
   ·obtain ⟨hz,rfl⟩:=aW he
    rename_i ht
    exact H8 s hoo hcl (xd h1) (xd h2) ht h3 hz
   ·rename_i ht
    simp only [ee,List.map_nil] at he
    cases hv:val g yv<;>rw [hv] at he<;>simp only [e_] at he<;>try cases he
    rename_i id k
    cases k<;>simp only [e_] at he<;>try cases he
    simp only [jx,cj] at he
    obtain ⟨ob,h4,es,h5,h6⟩:=he
    cases h6
    exact MS s hoo hcl (xd h1) (xd h2) ht h3 hv h4 h5
  ·rename_i hcl
   split at hc
   case h_2=>cases hc
   rename_i t t' y z h1 h2
   have fin:∀{e':TypeId} {st:Nat} {yv zv:IV} {src:Option (List (List AV))},gZ P t=some (e',st)→((∃e'',P.underlying t'=some (.slice e''))∨P.underlying t'=some .string)→cV y=some yv →
     (∀rows,src=some rows→∃ys,zU P w st (a.eval z) rows.length ys∧gX (IRel (aT bl c.MF h) w) st ys rows)→iX d e' st (val g yv) src h=some (x,e)→h d=none→bO d g h→(d<1000∨1267650600228229401496703205376≤d)→aI P c o a w g h x e:=by
    intro e' st yv zv src hap ht' hy hsrc he n1 n2 n3
    unfold iX at he
    split at he
    case h_1=>cases he
    rename_i ys
    split at he
    case isFalse=>cases he
    rename_i hbig
    obtain ⟨vs,hs,hyr⟩:=hsrc ys rfl
    split at he
    ·rename_i hv
     cases he
     exact o7 (q:=false) s hoo hcl (n_ h1) (n_ h2) hap ht' hy hv hs hyr hbig n1 n2 n3 (fun h=>by cases h)
    ·rename_i id st' off len hv
     split at he
     case h_2=>cases he
     rename_i ob hob
     split at he
     case isFalse=>cases he
     rename_i hcond
     obtain ⟨rfl,q2,q3,q4,rfl,q6,q7,q8,q9⟩:=hcond
     cases he
     exact o8 (q:=false) s hoo hcl (n_ h1) (n_ h2) hap ht' hy hv hob q2 q3 q6 q8 q9 hs (fun h=>by rw [q4] at h;exact h) hyr hbig q7 (fun h=>by cases h)
    ·cases he
   split at hc
   ·rename_i e' st e'' yv zv h3 h4 h5 h6
    cases hc
    simp only [ba] at he
    obtain ⟨n1,n2,n3⟩:=hnew rfl
    exact fin (zv:=zv) h3 (.inl ⟨_,h4⟩) h5 (fun rows hr=>wA s h6 hr) he n1 n2 n3
   ·rename_i e' st yv zv h3 h4 h5 h6
    split at hc
    case isFalse=>cases hc
    rename_i hst
    subst hst
    cases hc
    simp only [ba] at he
    obtain ⟨n1,n2,n3⟩:=hnew rfl
    exact fin (zv:=zv) h3 (.inr h4) h5 (fun rows hr=>ED s h6 hr) he n1 n2 n3
   ·cases hc
  ·rename_i hcl
   split at hc
   case h_2=>cases hc
   rename_i y z h1
   split at hc
   case h_2=>cases hc
   rename_i yv zv h2 h3
   cases hc
   simp only [ba] at he
   obtain ⟨hz,rfl⟩:=aW he
   exact DL (m:=false) s hoo hcl (n_ h1) h2 h3 hz
  ·rename_i hcl
   split at hc
   case h_2=>cases hc
   rename_i y z h1
   split at hc
   case h_2=>cases hc
   rename_i yv zv h2 h3
   cases hc
   simp only [ba] at he
   obtain ⟨hz,rfl⟩:=aW he
   exact DL (m:=true) s hoo hcl (n_ h1) h2 h3 hz
  ·rename_i hcl
   split at hc
   case h_2=>cases hc
   rename_i t t' y z h1 h2
   split at hc
   case h_2=>cases hc
   rename_i e' e'' yv zv h3 h4 h5 h6
   simp only [cj] at hc
   obtain ⟨st,h7,rfl⟩:=hc
   simp only [ba] at he
   have hcp:∀{src:Option (List (List AV))},nh st (val g yv) src h=some (x,e)→∃ys id off len ob,src=some ys∧val g yv = .ms id st off len∧h id=some ob∧ob.st=st∧ob.isRec=false∧off+len≤ob.rows.length ∧
     ∃k,k=Nat.min ys.length len∧x = .int .i64 k∧e = .put id { ob with rows:=ob.rows.take off++ys.take k++ob.rows.drop (off+k) }:=fun {src} hq=>by
    unfold nh at hq
    cases src with
    | none=>cases hq
    | some ys =>
     simp only at hq
     split at hq
     ·rename_i id st' off len hv
      split at hq
      ·rename_i ob hob
       split at hq
       ·rename_i hcond
        obtain ⟨rfl,p2,p3,p4⟩:=hcond
        split at hq
        ·rename_i hle
         cases hq
         exact ⟨ys,id,off,len,ob,rfl,hv,hob,p2,p3,p4,ys.length,(Nat.min_eq_left hle).symm,rfl,by rw [eM]⟩
        ·rename_i hle
         cases hq
         exact ⟨ys,id,off,len,ob,rfl,hv,hob,p2,p3,p4,len,(Nat.min_eq_right (by omega)).symm,rfl,rfl⟩
       ·cases hq
      ·cases hq
     ·cases hq
   obtain ⟨ys,id,off,len,ob,hys,hv,hob,p2,p3,p4,k,hk,rfl,rfl⟩:=hcp he
   have hk1:k≤ys.length:=by rw [hk];exact Nat.min_le_left _ _
   have hk2:k≤len:=by rw [hk];exact Nat.min_le_right _ _
   obtain ⟨vs,hs1,hs2,hyr⟩:=IS (P:=P) s h6 hys k hk1
   have hkl:(ys.take k).length=k:=by rw [vy,Nat.min_eq_left hk1]
   have:=MG s hoo hcl (n_ h1) (n_ h2) h3 h7 h5 hv hob p2 p3 p4 (yrows:=ys.take k) ys.length hs1 (by rw [hkl,hk]) (by rw [hkl];exact hs2) hyr (by rw [hkl];exact hk2)
   rw [hkl] at this
   exact this
  ·cases hc
 | range t y =>
  simp only [gu] at hc
  split at hc
  case h_2=>cases hc
  rename_i yv h1 h2
  cases hc
  simp only [ba,ee,List.map_nil] at he
  cases hv:val g yv<;>rw [hv] at he<;>simp only [e_] at he<;>try cases he
  obtain ⟨n1,n2,n3⟩:=hnew rfl
  exact MX s hoo h1 h2 hv n1 n2 n3
 | next y b =>
  cases b<;>simp only [gu] at hc
  ·cases hc
  simp only [cj] at hc
  obtain ⟨yv,h1,rfl⟩:=hc
  simp only [ba,ee,List.map_nil] at he
  cases hv:val g yv<;>rw [hv] at he<;>simp only [e_] at he<;>try cases he
  rename_i id k
  cases k<;>simp only [e_] at he
  ·simp only [jx] at he
   obtain ⟨ob,h2,h3⟩:=he
   exact MW s hoo h1 hv h2 h3
  ·cases he
 | makeMap t r =>
  cases r<;>simp only [gu] at hc
  ·cases hc
   simp only [ba,List.map_nil,e_] at he
   cases he
   obtain ⟨n1,n2,n3⟩:=hnew rfl
   exact MP s hoo n1 n2 n3
  ·cases hc
 | lookup t y z ok =>
  simp only [gu] at hc
  split at hc
  case h_2=>cases hc
  rename_i kd zz yv zv h1 h2 h3
  cases hc
  simp only [ba,ee,List.map_nil] at he
  by_cases hfm:∃es,val g yv = .fm es
  ·obtain ⟨es,hfm⟩:=hfm
   rw [hfm] at he
   exact H3 s hoo h1 h2 h3 hfm he
  obtain ⟨id,ob,h4,h5,h6⟩:=nL (f:=fun id ob=>j3 ok kd zz (val g zv) ob) (v:=val g yv) (r:=x) (e:=e) (h:=h) (by
   cases hv:val g yv
   case fm es=>exact absurd ⟨es,hv⟩ hfm
   all_goals (rw [hv] at he;simp only [e_] at he)
   all_goals try cases he
   rename_i id k
   cases k<;>simp only [e_] at he
   ·cases he
   ·exact ⟨id,rfl,he⟩)
  exact MR s hoo h1 h2 h3 h4 h5 h6
 | mapUpdate t y z q =>
  simp only [gu] at hc
  split at hc
  case h_2=>cases hc
  rename_i kd zz yv zv qv h1 h2 h3 h0
  cases hc
  simp only [ba,ee,List.map_nil] at he
  obtain ⟨id,ob,h4,h5,h6⟩:=nL (f:=fun id ob=>nZ id kd (val g zv) (val g qv) ob) (v:=val g yv) (r:=x) (e:=e) (h:=h) (by
   cases hv:val g yv<;>rw [hv] at he<;>simp only [e_] at he<;>try cases he
   rename_i id k
   cases k<;>simp only [e_] at he
   ·cases he
   ·exact ⟨id,rfl,he⟩)
  exact DN s (.inl hoo) h1 h2 h3 h0 h4 h5 h6
 | insert t y z q =>
  simp only [gu] at hc
  split at hc
  case h_2=>cases hc
  rename_i kd zz yv zv qv h1 h2 h3 h0
  cases hc
  simp only [ba,ee,List.map_nil] at he
  obtain ⟨id,ob,h4,h5,h6⟩:=nL (f:=fun id ob=>nZ id kd (val g zv) (val g qv) ob) (v:=val g yv) (r:=x) (e:=e) (h:=h) (by
   cases hv:val g yv<;>rw [hv] at he<;>simp only [e_] at he<;>try cases he
   rename_i id k
   cases k<;>simp only [e_] at he
   ·cases he
   ·exact ⟨id,rfl,he⟩)
  exact DN s (.inr hoo) h1 h2 h3 h0 h4 h5 h6
 | mapEntry t y z =>
  simp only [gu] at hc
  split at hc
  case h_2=>cases hc
  rename_i kd zz yv zv h1 h2 h3
  cases hc
  simp only [ba,ee,List.map_nil] at he
  obtain ⟨id,ob,h4,h5,h6⟩:=nL (f:=fun id ob=>sn id kd zz (val g zv) ob) (v:=val g yv) (r:=x) (e:=e) (h:=h) (by
   cases hv:val g yv<;>rw [hv] at he<;>simp only [e_] at he<;>try cases he
   rename_i id k
   cases k<;>simp only [e_] at he
   ·cases he
   ·exact ⟨id,rfl,he⟩)
  exact MT s hoo h1 h2 h3 h4 h5 h6
 | entryStore t y z q =>
  simp only [gu] at hc
  split at hc
  case h_2=>cases hc
  rename_i yv zv qv h1 h2 h3
  cases hc
  simp only [ba,ee,List.map_nil] at he
  cases hz:val g zv<;>rw [hz] at he<;>cases hv:val g yv<;>rw [hv] at he<;>simp only [e_] at he<;>try cases he
  rename_i kk n id k
  cases k<;>cases kk<;>simp only [e_] at he<;>try cases he
  simp only [jx] at he
  obtain ⟨ob,h5,h6⟩:=he
  exact MU s hoo h1 h2 h3 hv hz h5 h6
 | _=>simp [gu] at hc
end
end Go.Mw