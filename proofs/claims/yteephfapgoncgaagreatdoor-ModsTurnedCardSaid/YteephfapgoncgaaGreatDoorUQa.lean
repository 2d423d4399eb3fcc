import Derived.WalkKit
import Derived.Laws.Externs
import Derived.Great.BuildSlice
import Derived.Laws.StructEq
set_option linter.all false
namespace Go.Mw
def aR {p:Prop} (h:p):p:=h
def az:=@decide_eq_false
def aI:=@decide_eq_true
def ol:=@List.length_append
def aV:=@if_neg
def bz:=@if_pos
def cq:=@Option.map_eq_some_iff
def fz:=@List.length_map
def oh:=@List.length_cons
def dw:=@List.mem_append
def cC:=@Nat.zero_le
def bO:=@Option.some.injEq
def dK:=@Bool.and_eq_true
def gX:=@Int.toNat_natCast
def Kr:=@List.length_singleton
def jw:=@List.take_of_length_le
def aB:=@Nat.le_refl
def tG:=@List.append_assoc
def dL:=@List.getElem?_eq_some_iff
def jc:=@Bool.true_and
def mz:=@beq_eq_false_iff_ne
def fu:=@List.getElem?_eq_getElem
def eu:=@Bool.not_false
def dO:=@Bool.not_true
def de:=@List.all_eq_true
def rZ:=@Bool.false_eq_true
def j6:=@decide_eq_true_eq
def kC:=@List.length_nil
def r5:=@List.nil_append
def fv:=@if_true
def cQ:=@List.getElem?_map
def cj:=@List.mem_cons
def dP:=@List.map_cons
def iP:=@Array.getD_eq_getD_getElem?
def dM:=@Option.map_some
def j7:=@List.mem_singleton
def j8:=@if_false
def r6:=@List.cons_append
def j9:=@Array.getElem?_eq_some_iff
def tI:=@List.length_drop
def bJ:=@List.take_length
def tJ:=@List.eq_nil_of_length_eq_zero
def cB:=@Nat.lt_or_ge
def jd:=@Option.bind_eq_some_iff
def iA:=@Nat.mul_le_mul_right
def gD:=@Array.length_toList
def gE:=@List.mem_of_getElem?
def kD:=@Array.getElem?_eq_getElem
def r7:=@List.flatMap_cons
def gc:=@Nat.le_trans
def FS:=@Nat.add_assoc
def qn:=@List.append_nil
def mA:=@Bool.not_eq_true'
def bE:=@List.take_zero
def gF:=@List.mem_flatMap
def oG:=@Bool.or_eq_true
def qo:=@Bool.false_or
def qp:=@Array.getElem?_setIfInBounds
def kE:=@Bool.false_and
def eU:=@Nat.add_mul
def kF:=@Array.getElem?_modify
def qq:=@Bool.true_or
def r8:=@List.length_take
inductive AV where
 | bool (b:Bool)
 | int (k:IntKind) (n:Int)
 | str (s:List UInt8)
 | nl
 | sl (st:Nat) (rows:List (List AV))
 | ip (cells:List AV)
 | np
 | nf
 | any
 | ms (id st off len:Nat)
 | mp (id st row off:Nat)
 | mm (id:Nat) (k:Bool)
 | fm (es:List (AV×AV))
 | fn (f:FuncId) (caps:List AV)
 | agg (cells:List AV)
 | tup (vs:List AV)
 deriving Inhabited
def eB:Value→Prop
 | .agg _=>False
 | .tuple _=>False
 | _=>True
def aK {α β:Type} (R:α→β→Prop):List α→List β→Prop
 | [],[]=>True
 | a :: l,b :: m=>R a b∧aK R l m
 | _,_=>False
theorem aK.length {α β:Type} {R:α→β→Prop}:∀{l:List α} {m:List β},aK R l m→l.length=m.length
 | [],[],_=>rfl
 | _ :: _,_ :: _,h=>by simp [aK.length h.2]
 | [],_ :: _,h=>h.elim
 | _ :: _,[],h=>h.elim
theorem aK.mono {α β:Type} {R R':α→β→Prop}:∀{l:List α} {m:List β},aK R l m→(∀a b,b∈m→R a b→R' a b)→aK R' l m
 | [],[],_,_=>trivial
 | _ :: _,_ :: _,h,f=>⟨f _ _ (by simp) h.1,h.2.mono fun a b hb=>f a b (by simp [hb])⟩
 | [],_ :: _,h,_=>h.elim
 | _ :: _,[],h,_=>h.elim
theorem aK.get {α β:Type} {R:α→β→Prop}:∀{l:List α} {m:List β},aK R l m→∀{i:Nat} {b:β},m[i]? = some b→∃a,l[i]? = some a∧R a b
 | [],[],_,i,b,h=>by simp at h
 | a :: _,c :: _,h,0,b,hb=>by
  simp only [List.getElem?_cons_zero,bO] at hb
  subst hb
  exact ⟨a,by simp,h.1⟩
 | _ :: _,_ :: _,h,i+1,b,hb=>by
  simp only [List.getElem?_cons_succ] at hb ⊢
  exact h.2.get hb
 | [],_ :: _,h,_,_,_=>h.elim
 | _ :: _,[],h,_,_,_=>h.elim
theorem aK.append {α β:Type} {R:α→β→Prop}:∀{l l':List α} {m m':List β},aK R l m→aK R l' m'→aK R (l++l') (m++m')
 | [],_,[],_,_,h=>h
 | _ :: _,_,_ :: _,_,h,h'=>⟨h.1,h.2.append h'⟩
 | [],_,_ :: _,_,h,_=>h.elim
 | _ :: _,_,[],_,h,_=>h.elim
theorem aK.take {α β:Type} {R:α→β→Prop}:∀{l:List α} {m:List β} (n:Nat),aK R l m→aK R (l.take n) (m.take n)
 | _,_,0,_=>by simp [aK]
 | [],[],_+1,_=>by simp [aK]
 | _ :: _,_ :: _,n+1,h=>⟨h.1,h.2.take n⟩
 | [],_ :: _,_,h=>h.elim
 | _ :: _,[],_,h=>h.elim
theorem aK.drop {α β:Type} {R:α→β→Prop}:∀{l:List α} {m:List β} (n:Nat),aK R l m→aK R (l.drop n) (m.drop n)
 | _,_,0,h=>by simpa using h
 | [],[],_+1,_=>by simp [aK]
 | _ :: _,_ :: _,n+1,h=>by simpa using h.2.drop n
 | [],_ :: _,_,h=>h.elim
 | _ :: _,[],_,h=>h.elim
theorem aK.of_get {α β:Type} {R:α→β→Prop}:∀{l:List α} {m:List β},l.length=m.length →
  (∀(i:Nat) (a:α) (b:β),l[i]? = some a→m[i]? = some b→R a b)→aK R l m
 | [],[],_,_=>trivial
 | a :: l,b :: m,hl,h=>⟨h 0 a b (by simp) (by simp),aK.of_get (by simpa using hl) fun i a b ha hb=>h (i+1) a b (by simpa using ha) (by simpa using hb)⟩
 | [],_ :: _,hl,_=>by simp at hl
 | _ :: _,[],hl,_=>by simp at hl
def dj (v:Value):AV→Prop
 | .bool b=>v = .bool b
 | .int k n=>v = .int k n
 | .str s=>v = .string ⟨s.toArray⟩
 | _=>False
inductive IRel (M:Nat→Prop) (w:World):Value→AV→Prop where
 | bool (b:Bool):IRel M w (.bool b) (.bool b)
 | int (k:IntKind) (n:Int):IRel M w (.int k n) (.int k n)
 | str (s:List UInt8):IRel M w (.string ⟨s.toArray⟩) (.str s)
 | nl:IRel M w (.slice none 0 0) .nl
 | nls (st:Nat):IRel M w (.slice none 0 0) (.sl st [])
 | np:IRel M w (.pointer none) .np
 | nf:IRel M w .nilFunc .nf
 | any (v:Value) (h:eB v):IRel M w v .any
 | sl0 (st:Nat) (a:Addr) (cap:Nat):IRel M w (.slice (some a) 0 cap) (.sl st [])
 | sl (b off cap st:Nat) (c:Array Value) (t:TypeId) (fr:Nat×Nat) (rows:List (List AV)) (vs:Nat→Nat→Value)
   (hb:w.heap[b]? = some (.cells c t fr)) (hM:¬M b) (hl:rows.length≤cap)
   (hr:∀(i:Nat) (r:List AV),rows[i]? = some r→r.length=st)
   (hv:∀(i j:Nat),i<rows.length→j<st→c[off+i * st+j]? = some (vs i j))
   (hx:∀(i j:Nat) (r:List AV) (x:AV),rows[i]? = some r→r[j]? = some x→IRel M w (vs i j) x) :
   IRel M w (.slice (some ⟨b,off,none⟩) rows.length cap) (.sl st rows)
 | ip (b off:Nat) (c:Array Value) (t:TypeId) (fr:Nat×Nat) (cells:List AV) (vs:Nat→Value)
   (hb:w.heap[b]? = some (.cells c t fr)) (hM:¬M b)
   (hv:∀(j:Nat),j<cells.length→c[off+j]? = some (vs j))
   (hx:∀(j:Nat) (x:AV),cells[j]? = some x→IRel M w (vs j) x) :
   IRel M w (.pointer (some ⟨b,off,none⟩)) (.ip cells)
 | nm:IRel M w (.map none) (.fm [])
 | fm (b:Nat) (es':Array MapEntry) (es:List (AV×AV)) (hb:w.heap[b]? = some (.map es' es'.size)) (hM:¬M b) (hn:∀(i:Nat) (e:MapEntry),es'[i]? = some e→e.born=i)
   (he:aK (fun (e:MapEntry) (p:AV×AV)=>dj e.key p.1∧dj e.val p.2) es'.toList es):IRel M w (.map (some b)) (.fm es)
theorem IRel.one {M:Nat→Prop} {w:World} {v:Value} {x:AV} (h:IRel M w v x):eB v:=by
 cases h<;>first | trivial | assumption
theorem be {w:World} {b:Nat} {o:Obj} (h:w.heap[b]? = some o):b<w.heap.size:=by
 rcases cB b w.heap.size with h' | h'
 ·exact h'
 ·simp [Array.getElem?_eq_none h'] at h
theorem IRel.tr {M M':Nat→Prop} {w w':World} {v:Value} {x:AV} (h:IRel M w v x)
  (hk:∀b,¬M b→b<w.heap.size→¬M' b∧w'.heap[b]? = w.heap[b]?):IRel M' w' v x:=by
 induction h with
 | bool b=>exact .bool b
 | int k n=>exact .int k n
 | str s=>exact .str s
 | nl=>exact .nl
 | nls st=>exact .nls st
 | np=>exact .np
 | nf=>exact .nf
 | any v h=>exact .any v h
 | sl0 st a cap=>exact .sl0 st a cap
 | sl b off cap st c t fr rows vs hb hM hl hr hv hx ih =>
  obtain ⟨h1,h2⟩:=hk b hM (be hb)
  exact .sl b off cap st c t fr rows vs (h2.trans hb) h1 hl hr hv ih
 | ip b off c t fr cells vs hb hM hv hx ih =>
  obtain ⟨h1,h2⟩:=hk b hM (be hb)
  exact .ip b off c t fr cells vs (h2.trans hb) h1 hv ih
 | nm=>exact .nm
 | fm b es' es hb hM hn he =>
  obtain ⟨h1,h2⟩:=hk b hM (be hb)
  exact .fm b es' es (h2.trans hb) h1 hn he
def cL (bl:Nat→Option Nat) (M:Nat→Prop) (w:World) (v:Value) (x:AV):Prop :=
 match x with
 | .ms id st off len=>(v = .slice none 0 0∧off=0∧len=0) ∨
   (len=0∧off≠0∧∃a cap,v = .slice (some a) 0 cap) ∨
   ∃b cap c t fr,bl id=some b∧v = .slice (some ⟨b,off * st,none⟩) len cap∧len≤cap∧w.heap[b]? = some (.cells c t fr)∧off * st+cap * st≤c.size
 | .mp id st row off=>∃b,bl id=some b∧v = .pointer (some ⟨b,row * st+off,none⟩)
 | .mm id k=>∃b,bl id=some b∧v=if k=true then .map (some b) else .pointer (some ⟨b,0,none⟩)
 | x=>IRel M w v x
def F1 (f:FuncId):FuncId:=if f<4000000 then f else f - 4000000
def DE (f:FuncId):Nat:=if f<4000000 then 0 else 1
def Qi (f:FuncId) (e:Bool):FuncId:=if e=true then f else f+4000000
def bA (bl:Nat→Option Nat) (M:Nat→Prop) (w:World) (v:Value) (x:AV):Prop :=
 match x with
 | .fn f caps=>∃cs:List Value,v = .func (.func (F1 f)) (cs.take (DE f)).toArray (cs.drop (DE f)).toArray∧aK (cL bl M w) cs caps
 | x=>cL bl M w v x
def cZ (bl:Nat→Option Nat) (M:Nat→Prop) (w:World) (v:Value) (x:AV):Prop :=
 match x with
 | .agg cells=>∃cs:List Value,v = .agg cs.toArray∧aK (bA bl M w) cs cells
 | x=>bA bl M w v x
def aT (bl:Nat→Option Nat) (M:Nat→Prop) (w:World) (v:Value) (x:AV):Prop :=
 match x with
 | .any=>True
 | .tup vs=>∃cs:List Value,v = .tuple cs.toArray∧aK (cZ bl M w) cs vs
 | x=>cZ bl M w v x
def mP (i:Nat):AV→Bool
 | .ms id _ _ _=>id==i
 | .mp id _ _ _=>id==i
 | .mm id _=>id==i
 | _=>false
def mC (i:Nat):AV→Bool
 | .fn _ caps=>caps.any (mP i)
 | x=>mP i x
def mG (i:Nat):AV→Bool
 | .agg cells=>cells.any (mC i)
 | x=>mC i x
def mV (i:Nat):AV→Bool
 | .tup vs=>vs.any (mG i)
 | x=>mG i x
structure Tr (M M':Nat→Prop) (w w':World):Prop where
 keep:∀b,¬M b→b<w.heap.size→¬M' b∧w'.heap[b]? = w.heap[b]?
 shape:∀(b:Nat) (c:Array Value) (t:TypeId) (fr:Nat×Nat),w.heap[b]? = some (.cells c t fr)→∃(c':Array Value) (fr':Nat×Nat),w'.heap[b]? = some (.cells c' t fr')∧c'.size=c.size
section
variable {bl bl':Nat→Option Nat} {M M':Nat→Prop} {w w':World} {v:Value} {x:AV}
theorem cL.tr (h:cL bl M w v x) (ht:Tr M M' w w') (hb:∀id,mP id x=true→bl' id=bl id):cL bl' M' w' v x:=by
 cases x<;>simp only [cL] at h ⊢ <;> try exact h.tr ht.keep
 case ms id st off len =>
  rcases h with h | h | ⟨b,cap,c,t,fr,h1,h2,h3,h4,h5⟩
  ·exact .inl h
  ·exact .inr (.inl h)
  ·obtain ⟨c',fr',hc',hs⟩:=ht.shape b c t fr h4
   exact .inr (.inr ⟨b,cap,c',t,fr',(hb id (by simp [mP])).trans h1,h2,h3,hc',by omega⟩)
 case mp id st row off =>
  obtain ⟨b,h1,h2⟩:=h
  exact ⟨b,(hb id (by simp [mP])).trans h1,h2⟩
 case mm id k =>
  obtain ⟨b,h1,h2⟩:=h
  exact ⟨b,(hb id (by simp [mP])).trans h1,h2⟩
theorem bA.tr (h:bA bl M w v x) (ht:Tr M M' w w') (hb:∀id,mC id x=true→bl' id=bl id):bA bl' M' w' v x:=by
 cases x<;>simp only [bA] at h ⊢ <;> try exact cL.tr h ht (fun id hi=>hb id (by simpa [mC] using hi))
 case fn f caps =>
  obtain ⟨cs,h1,h2⟩:=h
  exact ⟨cs,h1,h2.mono fun a b hm hr=>cL.tr hr ht (fun id hi=>hb id (by simp only [mC,List.any_eq_true];exact ⟨b,hm,hi⟩))⟩
theorem cZ.tr (h:cZ bl M w v x) (ht:Tr M M' w w') (hb:∀id,mG id x=true→bl' id=bl id):cZ bl' M' w' v x:=by
 cases x<;>simp only [cZ] at h ⊢ <;> try exact bA.tr h ht (fun id hi=>hb id (by simpa [mG] using hi))
 case agg cells =>
  obtain ⟨cs,h1,h2⟩:=h
  exact ⟨cs,h1,h2.mono fun a b hm hr=>bA.tr hr ht (fun id hi=>hb id (by simp only [mG,List.any_eq_true];exact ⟨b,hm,hi⟩))⟩
theorem aT.tr (h:aT bl M w v x) (ht:Tr M M' w w') (hb:∀id,mV id x=true→bl' id=bl id):aT bl' M' w' v x:=by
 cases x<;>simp only [aT] at h ⊢ <;> try exact cZ.tr h ht (fun id hi=>hb id (by simpa [mV] using hi))
 case tup vs =>
  obtain ⟨cs,h1,h2⟩:=h
  exact ⟨cs,h1,h2.mono fun a b hm hr=>cZ.tr hr ht (fun id hi=>hb id (by simp only [mV,List.any_eq_true];exact ⟨b,hm,hi⟩))⟩
theorem cL.one (h:cL bl M w v x):eB v:=by
 cases x<;>simp only [cL] at h<;>try exact h.one
 case ms id st off len =>
  rcases h with ⟨rfl,_⟩ | ⟨_,_,a,cap,rfl⟩ | ⟨b,cap,c,t,fr,h1,rfl,h3⟩<;>trivial
 case mp id st row off =>
  obtain ⟨b,_,rfl⟩:=h
  trivial
 case mm id k =>
  obtain ⟨b,_,rfl⟩:=h
  cases k<;>trivial
theorem bA.one (h:bA bl M w v x):eB v:=by
 cases x<;>simp only [bA] at h<;>try exact cL.one h
 case fn f caps=>obtain ⟨cs,rfl,_⟩:=h;trivial
theorem bA.toV (h:bA bl M w v x):aT bl M w v x:=by
 cases x<;>try exact h
 case any=>trivial
 case agg cells=>exact (by simp only [bA,cL] at h;cases h)
 case tup vs=>exact (by simp only [bA,cL] at h;cases h)
theorem bA.toG (h:bA bl M w v x):cZ bl M w v x:=by
 cases x<;>try exact h
 case agg cells=>exact (by simp only [bA,cL] at h;cases h)
theorem cZ.toV (h:cZ bl M w v x):aT bl M w v x:=by
 cases x<;>try exact h
 case any=>trivial
 case tup vs=>exact (by simp only [cZ,bA,cL] at h;cases h)
theorem IRel.toC (h:IRel M w v x):bA bl M w v x:=by
 cases x<;>try exact h
 case ms=>cases h
 case mp=>cases h
 case mm=>cases h
 case fn=>cases h
end
class inductive Kd where
 | cells
 | it (s:List UInt8) (pos:Nat)
 | mp (es:List (AV×AV))
instance:Kd:=.cells
structure ah where
 t:TypeId
 st:Nat
 rows:List (List AV)
 isRec:Bool
 [k:Kd]
instance:Inhabited ah:=⟨⟨0,0,[],false⟩⟩
def Kd.flat:Kd→Bool
 | .cells=>true
 | _=>false
theorem Kd.of_flat {k:Kd} (h:k.flat=true):k=instKd:=by
 cases k with
 | cells=>rfl
 | it s pos=>cases h
 | mp es=>cases h
def e_ (r:Bool) (bl:Nat→Option Nat) (M:Nat→Prop) (w:World) (v:Value) (x:AV):Prop :=
 match r with
 | true=>bA bl M w v x
 | false=>IRel M w v x
def dE (c:Array Value) (fr:Nat×Nat):Prop:=fr.1=fr.2∨c.size≤fr.1
theorem dE.spec {c:Array Value} {fr:Nat×Nat} (h:dE c fr):∀j,j<c.size→¬(fr.1≤j∧j<fr.2):=fun j hj=>by
 rcases h with h | h<;>omega
def py:Kd→World→Nat→Prop
 | .cells,_,_=>False
 | .it s pos,w,b=>w.heap[b]? = some (.stringIter ⟨s.toArray⟩ pos)
 | .mp es,w,b=>∃(es':Array MapEntry),w.heap[b]? = some (.map es' es'.size)∧(∀(i:Nat) (e:MapEntry),es'[i]? = some e→e.born=i)∧aK (fun (e:MapEntry) (p:AV×AV)=>dj e.key p.1∧dj e.val p.2) es'.toList es
theorem py.tr {k:Kd} {w w':World} {b:Nat} (h:py k w b) (hk:w'.heap[b]? = w.heap[b]?):py k w' b:=by
 cases k with
 | cells=>exact h
 | it s pos=>exact hk.trans h
 | mp es=>obtain ⟨es',h1,h2⟩:=h;exact ⟨es',hk.trans h1,h2⟩
theorem py.lt {k:Kd} {w:World} {b:Nat} (h:py k w b):b<w.heap.size:=by
 cases k with
 | cells=>exact h.elim
 | it s pos=>exact be h
 | mp es=>obtain ⟨es',h1,h2⟩:=h;exact be h1
def sd (bl:Nat→Option Nat) (M MF:Nat→Prop) (w:World) (o:ah) (b:Nat):Prop :=
 ∃c fr,w.heap[b]? = some (.cells c o.t fr)∧dE c fr∧¬MF b∧(∀(i:Nat) (r:List AV),o.rows[i]? = some r→r.length=o.st)∧o.rows.length * o.st≤c.size ∧
  ∀(i j:Nat) (r:List AV) (x:AV),o.rows[i]? = some r→r[j]? = some x→∃v,c[i * o.st+j]? = some v∧e_ o.isRec bl M w v x
structure tQ (MF:Nat→Prop) (w:World) (o:ah) (b:Nat):Prop where
 rows:o.rows=[]
 isRec:o.isRec=false
 free:¬MF b
 rel:py o.k w b
theorem tQ.tr {MF:Nat→Prop} {w w':World} {o:ah} {b:Nat} (h:tQ MF w o b) (hk:w'.heap[b]? = w.heap[b]?):tQ MF w' o b:=⟨h.rows,h.isRec,h.free,h.rel.tr hk⟩
theorem tQ.no {MF:Nat→Prop} {w:World} {o:ah} {b:Nat} (h:tQ MF w o b) {i:Nat} {r:List AV} (hr:o.rows[i]? = some r):False:=by
 rw [h.rows] at hr;simp at hr
theorem tQ.ne {MF:Nat→Prop} {w:World} {o:ah} {b:Nat} (h:tQ MF w o b) {c:Array Value} {t:TypeId} {fr:Nat×Nat} (hc:w.heap[b]? = some (.cells c t fr)):False:=by
 have hr:=h.rel
 cases hk:o.k with
 | cells=>rw [hk] at hr;exact hr
 | it s pos=>rw [hk] at hr;exact absurd (hc.symm.trans hr) (by simp)
 | mp es=>rw [hk] at hr;obtain ⟨es',h1,h2⟩:=hr;exact absurd (hc.symm.trans h1) (by simp)
theorem tQ.noflat {MF:Nat→Prop} {w:World} {o:ah} {b:Nat} (h:tQ MF w o b) (hf:o.k.flat=true):False:=by
 have hr:=h.rel
 cases hk:o.k with
 | cells=>rw [hk] at hr;exact hr
 | it s pos=>rw [hk] at hf;cases hf
 | mp es=>rw [hk] at hf;cases hf
def gw (bl:Nat→Option Nat) (M MF:Nat→Prop) (w:World) (o:ah) (b:Nat):Prop:=(o.k=Kd.cells∧sd bl M MF w o b)∨tQ MF w o b
theorem gw.free {bl:Nat→Option Nat} {M MF:Nat→Prop} {w:World} {o:ah} {b:Nat} (h:gw bl M MF w o b):¬MF b:=by
 rcases h with ⟨_,_,_,_,_,h,_⟩ | h
 ·exact h
 ·exact h.free
theorem gw.lt {bl:Nat→Option Nat} {M MF:Nat→Prop} {w:World} {o:ah} {b:Nat} (h:gw bl M MF w o b):b<w.heap.size:=by
 rcases h with ⟨_,_,_,h,_⟩ | h
 ·exact be h
 ·exact h.rel.lt
def sc (bl:Nat→Option Nat) (M MF:Nat→Prop) (w:World) (h:Nat→Option ah):Prop :=
 (∀id o,h id=some o→(o.rows=[]∧o.isRec=false∧bl id=none)∨∃b,bl id=some b∧gw bl M MF w o b) ∧
 ∀id id' o o' b,h id=some o→h id'=some o'→bl id=some b→bl id'=some b→id=id'
def aY (bl:Nat→Option Nat) (MF:Nat→Prop) (h:Nat→Option ah) (b:Nat):Prop:=MF b∨∃id o,h id=some o∧bl id=some b
structure gG (W:Nat→Prop) (w w':World):Prop where
 size:w.heap.size≤w'.heap.size
 keep:∀b,b<w.heap.size→¬W b→w'.heap[b]? = w.heap[b]?
 shape:∀(b:Nat) (c:Array Value) (t:TypeId) (fr:Nat×Nat),w.heap[b]? = some (.cells c t fr)→∃(c':Array Value) (fr':Nat×Nat),w'.heap[b]? = some (.cells c' t fr')∧c'.size=c.size
 os:w'.os=w.os
 out:w'.output=w.output
theorem gG.refl (W:Nat→Prop) (w:World):gG W w w:=⟨aB _,fun _ _ _=>rfl,fun _ c _ fr h=>⟨c,fr,h,rfl⟩,rfl,rfl⟩
theorem gG.trans {W X:Nat→Prop} {w w' w'':World} (h:gG W w w') (h':gG X w' w'') (hx:∀b,b<w.heap.size→X b→W b):gG W w w'' where
 size:=gc h.size h'.size
 keep b hb hw:=(h'.keep b (Nat.lt_of_lt_of_le hb h.size) (fun hX=>hw (hx b hb hX))).trans (h.keep b hb hw)
 shape b c t fr hb:=by
  obtain ⟨c',fr',h1,h2⟩:=h.shape b c t fr hb
  obtain ⟨c'',fr'',h3,h4⟩:=h'.shape b c' t fr' h1
  exact ⟨c'',fr'',h3,h4.trans h2⟩
 os:=h'.os.trans h.os
 out:=h'.out.trans h.out
structure xA where
 B:Nat→Prop
 H:World→Prop
 env:List (Nat×AV)
 rel:∀(w:World) (M:Nat→Prop),H w→(∀b,B b→¬M b)→∀p∈env,1000000≤p.1∧IRel M w (.pointer (some ⟨p.1 - 1000000,0,none⟩)) p.2
 stay:∀w w':World,H w→(∀b,B b→w'.heap[b]? = w.heap[b]?)→H w'
 low:∀w:World,H w→∀b,B b→b<w.heap.size
def xA.no:xA:=⟨fun _=>False,fun _=>True,[],fun _ _ _ _ p hp=>(by cases hp),fun _ _ _ _=>trivial,fun _ _ _ h=>h.elim⟩
class aX (P:Program) where
 T:xA
structure je where
 w0:World
 bl0:Nat→Option Nat
 W:Nat→Prop
 MF:Nat→Prop
 n:Nat
 T:xA
 tH:T.H w0
 tW:∀b,T.B b→¬W b
 tM:∀b,T.B b→¬MF b
 hn:n≤1000000
class CT (c:je) (P:Program) [aX P]:Prop where
 eq:c.T=aX.T P
def tv (a:Act) (k:Nat):Value:=if k<1000000 then a.tmps.getD k undef else .pointer (some ⟨k - 1000000,0,none⟩)
theorem rS {a:Act} {k:Nat} (h:k<1000000):tv a k=a.tmps.getD k undef:=bz h
theorem ql {a:Act} {k:Nat} (h:∀b,tv a k≠.pointer b):k<1000000∧tv a k=a.tmps.getD k undef:=by
 rcases cB k 1000000 with hl | hl
 ·exact ⟨hl,rS hl⟩
 ·exact absurd (aV (by omega)) (h (some ⟨k - 1000000,0,none⟩))
structure aD (c:je) (bl:Nat→Option Nat) (g:Nat→AV) (h:Nat→Option ah) (a:Act) (w:World):Prop where
 defers:a.defers=[]
 size:a.tmps.size=c.n
 env:∀k,aT bl (aY bl c.MF h) w (tv a k) (g k)
 heap:sc bl (aY bl c.MF h) c.MF w h
 step:gG c.W c.w0 w
 own:∀id o b,h id=some o→bl id=some b→c.w0.heap.size≤b∨c.W b
 stab:∀id,1000≤id→id<2000→bl id=c.bl0 id
 mf:∀b,c.MF b→b<c.w0.heap.size
def cI {α:Type} (f:Nat→α) (k:Nat) (x:α):Nat→α:=fun j=>if j=k then x else f j
theorem bo {α:Type} (f:Nat→α) (k:Nat) (x:α):cI f k x k=x:=by simp [cI]
theorem bH {α:Type} (f:Nat→α) {k j:Nat} (x:α) (h:j≠k):cI f k x j=f j:=by simp [cI,h]
theorem By (a:Act) (d:Nat) (v:Value) (k:Nat) (hd:d<a.tmps.size):(a.put (some d) v).tmps.getD k undef=if k=d then v else a.tmps.getD k undef:=by
 simp only [Act.put]
 by_cases h:k=d
 ·subst h;simp [iP,hd]
 ·have h':¬d=k:=fun e=>h e.symm
  simp [h,h',iP,qp]
theorem Kk (a:Act) (d:Nat) (v:Value) (k:Nat) (hd:d<a.tmps.size) (hd':d<1000000):tv (a.put (some d) v) k=if k=d then v else tv a k:=by
 unfold tv
 by_cases hk:k<1000000
 ·rw [bz hk,bz hk,By a d v k hd]
 ·rw [aV hk,aV hk,aV (by omega)]
section
variable {c:je} {bl:Nat→Option Nat} {g:Nat→AV} {h:Nat→Option ah} {a:Act} {w:World}
theorem aD.put (s:aD c bl g h a w) {d:Nat} {v:Value} {x:AV} (hd:d<c.n) (hv:aT bl (aY bl c.MF h) w v x) :
  aD c bl (cI g d x) h (a.put (some d) v) w where
 defers:=s.defers
 size:=by simpa [Act.put] using s.size
 env k:=by
  rw [Kk a d v k (by rw [s.size];exact hd) (Nat.lt_of_lt_of_le hd c.hn)]
  by_cases hk:k=d
  ·subst hk;simpa [cI] using hv
  ·simpa [cI,hk] using s.env k
 heap:=s.heap
 step:=s.step
 own:=s.own
 stab:=s.stab
 mf:=s.mf
theorem aD.world (s:aD c bl g h a w) {w':World} (hh:w'.heap=w.heap) (ho:w'.os=w.os) (hp:w'.output=w.output):aD c bl g h a w':=by
 have ht:Tr (aY bl c.MF h) (aY bl c.MF h) w w':=⟨fun b hb _=>⟨hb,by rw [hh]⟩,fun b c t fr hb=>⟨c,fr,by rw [hh];exact hb,rfl⟩⟩
 refine ⟨s.defers,s.size,fun k=>(s.env k).tr ht (fun _ _=>rfl),⟨fun id o hi=>?_,s.heap.2⟩,?_,s.own,s.stab,s.mf⟩
 ·rcases s.heap.1 id o hi with h1 | ⟨b,h1,⟨hk,c1,fr,h2,h3,h4,h5,h6,h7⟩ | hsp⟩
  ·exact .inl h1
  rotate_left
  ·exact .inr ⟨b,h1,.inr (hsp.tr (by rw [hh]))⟩
  ·refine .inr ⟨b,h1,.inl ⟨hk,c1,fr,by rw [hh];exact h2,h3,h4,h5,h6,fun i j r x hr hx=>?_⟩⟩
   obtain ⟨v,hv1,hv2⟩:=h7 i j r x hr hx
   refine ⟨v,hv1,?_⟩
   cases hrec:o.isRec<;>simp only [hrec,e_] at hv2 ⊢
   ·exact hv2.tr ht.keep
   ·exact hv2.tr ht (fun _ _=>rfl)
 ·exact s.step.trans (X:=fun _=>False) ⟨by rw [hh];exact aB _,fun b _ _=>by rw [hh],fun b c t fr hb=>⟨c,fr,by rw [hh];exact hb,rfl⟩,ho,hp⟩ (fun _ _ h=>h.elim)
theorem aD.weaken (s:aD c bl g h a w) {g':Nat→AV} {h':Nat→Option ah} (hg:∀k,g' k = .any∨g' k=g k) (hh:∀i o,h' i=some o→h i=some o):aD c bl g' h' a w:=by
 have ht:Tr (aY bl c.MF h) (aY bl c.MF h') w w:=⟨fun b hb _=>⟨fun hm=>hb (by
  rcases hm with hm | ⟨id,o,h1,h2⟩
  ·exact .inl hm
  ·exact .inr ⟨id,o,hh id o h1,h2⟩),rfl⟩,fun b c t fr hb=>⟨c,fr,hb,rfl⟩⟩
 refine ⟨s.defers,s.size,fun k=>?_,⟨fun id o hi=>?_,fun id id' o o' b h1 h2=>s.heap.2 id id' o o' b (hh _ _ h1) (hh _ _ h2)⟩,s.step,fun id o b h1=>s.own id o b (hh _ _ h1),s.stab,s.mf⟩
 ·rcases hg k with hk | hk
  ·rw [hk];trivial
  ·rw [hk];exact (s.env k).tr ht (fun _ _=>rfl)
 ·rcases s.heap.1 id o (hh _ _ hi) with h1 | ⟨b,h1,⟨hk,c1,fr,h2,h3,h4,h5,h6,h7⟩ | hsp⟩
  ·exact .inl h1
  rotate_left
  ·exact .inr ⟨b,h1,.inr hsp⟩
  ·refine .inr ⟨b,h1,.inl ⟨hk,c1,fr,h2,h3,h4,h5,h6,fun i j r x hr hx=>?_⟩⟩
   obtain ⟨v,hv1,hv2⟩:=h7 i j r x hr hx
   refine ⟨v,hv1,?_⟩
   cases hrec:o.isRec<;>simp only [hrec,e_] at hv2 ⊢
   ·exact hv2.tr ht.keep
   ·exact hv2.tr ht (fun _ _=>rfl)
end
def eC (i:Nat) (x:AV):AV:=if mV i x then .any else x
def bW (i:Nat) (x:AV):AV:=if mC i x then .any else x
def cH (i:Nat) (o:ah):ah:=if o.isRec then { o with rows:=o.rows.map (fun r=>r.map (bW i)) } else o
section
variable {c:je} {bl:Nat→Option Nat} {g:Nat→AV} {h:Nat→Option ah} {a:Act} {w w':World}
theorem aY.congr {MF:Nat→Prop} {h h':Nat→Option ah} (hh:∀j,(h' j).isSome=(h j).isSome) (b:Nat):aY bl MF h' b↔aY bl MF h b:=by
 have key:∀{h h':Nat→Option ah},(∀j,(h' j).isSome=(h j).isSome)→∀{j o},h' j=some o→∃o',h j=some o':=fun hh j o hj=>by
  have:=hh j
  rw [hj] at this
  exact Option.isSome_iff_exists.1 this.symm
 constructor
 ·rintro (hm | ⟨j,o,h1,h2⟩)
  ·exact .inl hm
  ·obtain ⟨o',h3⟩:=key hh h1
   exact .inr ⟨j,o',h3,h2⟩
 ·rintro (hm | ⟨j,o,h1,h2⟩)
  ·exact .inl hm
  ·obtain ⟨o',h3⟩:=key (fun j=>(hh j).symm) h1
   exact .inr ⟨j,o',h3,h2⟩
theorem Tr.of_iff {M M':Nat→Prop} (h:∀b,M' b↔M b):Tr M M' w w :=
 ⟨fun b hb _=>⟨fun hm=>hb ((h b).1 hm),rfl⟩,fun _ c _ fr hb=>⟨c,fr,hb,rfl⟩⟩
theorem e_.tr {r:Bool} {bl bl':Nat→Option Nat} {M M':Nat→Prop} {v:Value} {x:AV} (h:e_ r bl M w v x) (ht:Tr M M' w w') (hb:r=true→∀id,mC id x=true→bl' id=bl id):e_ r bl' M' w' v x:=by
 cases r
 ·exact IRel.tr h ht.keep
 ·exact bA.tr h ht (hb rfl)
theorem e_.one {r:Bool} {M:Nat→Prop} {v:Value} {x:AV} (h:e_ r bl M w v x):eB v:=by
 cases r
 ·exact IRel.one h
 ·exact bA.one h
theorem JW (i:Nat) (o:ah):(cH i o).t=o.t:=by unfold cH;split<;>rfl
theorem mM (i:Nat) (o:ah):(cH i o).st=o.st:=by unfold cH;split<;>rfl
theorem i5 (i:Nat) (o:ah):(cH i o).isRec=o.isRec:=by unfold cH;split<;>rfl
theorem JV (i:Nat) (o:ah):(cH i o).k=o.k:=by unfold cH;split<;>rfl
theorem wQ {M MF:Nat→Prop} {i:Nat} {o:ah} {b:Nat} (hO:sd bl M MF w o b):sd bl M MF w (cH i o) b:=by
 obtain ⟨c1,fr,h2,h3,h4,h5,h6,h7⟩:=hO
 by_cases hr:o.isRec=true
 ·refine ⟨c1,fr,by rw [JW];exact h2,h3,h4,?_,?_,?_⟩
  ·intro k r hk
   rw [mM]
   simp only [cH,hr,fv,cQ,cq] at hk
   obtain ⟨r0,h0,rfl⟩:=hk
   simpa using h5 k r0 h0
  ·rw [mM];simpa [cH,hr] using h6
  ·intro k j r x hk hx
   rw [mM,i5]
   simp only [cH,hr,fv,cQ,cq] at hk
   obtain ⟨r0,h0,rfl⟩:=hk
   simp only [cQ,cq] at hx
   obtain ⟨x0,hx0,rfl⟩:=hx
   obtain ⟨v,hv1,hv2⟩:=h7 k j r0 x0 h0 hx0
   refine ⟨v,hv1,?_⟩
   rw [hr] at hv2 ⊢
   unfold bW
   split
   ·exact IRel.toC (bl:=bl) (.any v (bA.one (bl:=bl) hv2))
   ·exact hv2
 ·have e:cH i o=o:=by simp [cH,hr]
  rw [e]
  exact ⟨c1,fr,h2,h3,h4,h5,h6,h7⟩
theorem aD.purge (s:aD c bl g h a w) (i:Nat):aD c bl (fun k=>eC i (g k)) (fun j=>(h j).map (cH i)) a w:=by
 have hm:∀b,aY bl c.MF (fun j=>(h j).map (cH i)) b↔aY bl c.MF h b:=aY.congr (fun j=>by simp)
 have ht:=Tr.of_iff (w:=w) hm
 refine ⟨s.defers,s.size,fun k=>?_,⟨fun id o hi=>?_,fun id id' o o' b h1 h2=>?_⟩,s.step,fun id o b h1=>?_,s.stab,s.mf⟩
 ·show aT _ _ _ _ (eC i (g k))
  unfold eC
  split
  ·trivial
  ·exact (s.env k).tr ht (fun _ _=>rfl)
 ·simp only [cq] at hi
  obtain ⟨o0,h0,rfl⟩:=hi
  rcases s.heap.1 id o0 h0 with h1 | ⟨b,h1,⟨hk0,hO⟩ | hsp⟩
  ·refine .inl ⟨?_,by rw [i5];exact h1.2.1,h1.2.2⟩
   simp [cH,h1.2.1,h1.1]
  ·refine .inr ⟨b,h1,.inl ⟨by rw [JV];exact hk0,?_⟩⟩
   obtain ⟨c1,fr,h2,h3,h4,h5,h6,h7⟩:=wQ (i:=i) hO
   exact ⟨c1,fr,h2,h3,h4,h5,h6,fun k j r x hk hx=>by
    obtain ⟨v,hv1,hv2⟩:=h7 k j r x hk hx
    exact ⟨v,hv1,hv2.tr ht (fun _ _ _=>rfl)⟩⟩
  ·refine .inr ⟨b,h1,.inr ?_⟩
   rw [show cH i o0=o0 by simp [cH,hsp.isRec]]
   exact hsp
 ·simp only [cq] at h1 h2
  obtain ⟨o1,h1,_⟩:=h1
  obtain ⟨o2,h2,_⟩:=h2
  exact s.heap.2 id id' o1 o2 b h1 h2
 ·simp only [cq] at h1
  obtain ⟨o1,h1,_⟩:=h1
  exact s.own id o1 b h1
def bP (i:Nat) (g:Nat→AV) (h:Nat→Option ah):Prop :=
 (∀k,mV i (g k)=false)∧∀j o,h j=some o→o.isRec=true→∀r∈o.rows,∀x∈r,mC i x=false
theorem EG (i:Nat) (x:AV):mC i (bW i x)=false:=by
 unfold bW
 split
 ·rfl
 ·simp_all
theorem gB (i:Nat) (g:Nat→AV) (h:Nat→Option ah):bP i (fun k=>eC i (g k)) (fun j=>if j=i then none else (h j).map (cH i)):=by
 refine ⟨fun k=>?_,fun j o hj hr r hmr x hmx=>?_⟩
 ·show mV i (eC i (g k))=false
  unfold eC
  split
  ·rfl
  ·simp_all
 ·by_cases hji:j=i
  ·simp [hji] at hj
  ·simp only [hji,j8,cq] at hj
   obtain ⟨o0,h0,rfl⟩:=hj
   rw [i5] at hr
   simp only [cH,hr,fv,List.mem_map] at hmr
   obtain ⟨r0,_,rfl⟩:=hmr
   simp only [List.mem_map] at hmx
   obtain ⟨x0,_,rfl⟩:=hmx
   exact EG i x0
theorem aD.kill (s:aD c bl g h a w) (i:Nat):aD c bl (fun k=>eC i (g k)) (fun j=>if j=i then none else (h j).map (cH i)) a w :=
 (s.purge i).weaken (fun _=>.inr rfl) (fun j o hj=>by
  by_cases hji:j=i
  ·simp [hji] at hj
  ·simpa [hji] using hj)
def xi (bl:Nat→Option Nat) (M:Nat→Prop) (w:World) (o:ah) (cs:Array Value):Prop :=
 (∀(i:Nat) (r:List AV),o.rows[i]? = some r→r.length=o.st)∧o.rows.length * o.st≤cs.size ∧
 ∀(i j:Nat) (r:List AV) (x:AV),o.rows[i]? = some r→r[j]? = some x→∃v,cs[i * o.st+j]? = some v∧e_ o.isRec bl M w v x
theorem aD.new (s:aD c bl g h a w) {i:Nat} {o:ah} {cs:Array Value} {fr:Nat×Nat} (hi:h i=none) (hu:bP i g h)
  (hid:i<1000∨2000≤i) (hw:w'.heap=w.heap.push (.cells cs o.t fr)) (hos:w'.os=w.os) (hout:w'.output=w.output) (uf:dE cs fr)
  (hc:xi bl (aY bl c.MF h) w o cs) (hno:o.isRec=true→∀r∈o.rows,∀x∈r,mC i x=false) (hkc:o.k=Kd.cells:=by rfl) :
  aD c (cI bl i (some w.heap.size)) g (cI h i (some o)) a w':=by
 have hbl:∀j,j≠i→cI bl i (some w.heap.size) j=bl j:=fun j hj=>bH _ _ hj
 have hlt:∀j oj b,h j=some oj→bl j=some b→b<w.heap.size:=fun j oj b h1 h2=>by
  rcases s.heap.1 j oj h1 with h3 | ⟨b',h3,⟨_,c1,f1,h4,_⟩ | hsp⟩
  ·rw [h3.2.2] at h2;cases h2
  ·rw [h2] at h3;cases h3;exact be h4
  ·rw [h2] at h3;cases h3;exact hsp.rel.lt
 have hmut:∀b,aY (cI bl i (some w.heap.size)) c.MF (cI h i (some o)) b→aY bl c.MF h b∨b=w.heap.size:=by
  rintro b (hm | ⟨j,oj,h1,h2⟩)
  ·exact .inl (.inl hm)
  ·by_cases hj:j=i
   ·subst hj;rw [bo] at h2;cases h2;exact .inr rfl
   ·rw [bH _ _ hj] at h1 h2;exact .inl (.inr ⟨j,oj,h1,h2⟩)
 have hpush:∀b,b<w.heap.size→w'.heap[b]? = w.heap[b]?:=fun b hb=>by
  rw [hw,Array.getElem?_push];simp [Nat.ne_of_lt hb]
 have ht:Tr (aY bl c.MF h) (aY (cI bl i (some w.heap.size)) c.MF (cI h i (some o))) w w':=by
  refine ⟨fun b hb hlt'=>⟨fun hm=>?_,hpush b hlt'⟩,fun b c1 t f1 hb=>⟨c1,f1,by rw [hpush b (be hb)];exact hb,rfl⟩⟩
  rcases hmut b hm with hm | hm
  ·exact hb hm
  ·exact absurd hm (Nat.ne_of_lt hlt')
 refine ⟨s.defers,s.size,fun k=>(s.env k).tr ht (fun id hmi=>hbl id (fun e=>?_)),⟨fun id o1 h1=>?_,fun id id' o1 o2 b h1 h2 h3 h4=>?_⟩,?_,fun id o1 b h1 h2=>?_,fun id h1 h2=>?_,s.mf⟩
 ·subst e;rw [hu.1 k] at hmi;cases hmi
 ·by_cases hj:id=i
  ·subst hj
   rw [bo] at h1
   cases h1
   refine .inr ⟨w.heap.size,bo _ _ _,.inl ⟨hkc,cs,fr,by rw [hw];simp,uf,fun hm=>?_,hc.1,hc.2.1,fun k j r x hk hx=>?_⟩⟩
   ·exact absurd (s.mf _ hm) (Nat.not_lt.2 s.step.size)
   ·obtain ⟨v,hv1,hv2⟩:=hc.2.2 k j r x hk hx
    refine ⟨v,hv1,hv2.tr ht (fun hr id hmi=>hbl id (fun e=>?_))⟩
    subst e
    rw [hno hr r (gE hk) x (gE hx)] at hmi
    cases hmi
  ·rw [bH _ _ hj] at h1
   rcases s.heap.1 id o1 h1 with h3 | ⟨b,h3,⟨hk0,c1,f1,h4,h5,h6,h7,h8,h9⟩ | hsp⟩
   ·exact .inl ⟨h3.1,h3.2.1,by rw [hbl id hj];exact h3.2.2⟩
   rotate_left
   ·exact .inr ⟨b,by rw [hbl id hj];exact h3,.inr (hsp.tr (hpush b hsp.rel.lt))⟩
   ·refine .inr ⟨b,by rw [hbl id hj];exact h3,.inl ⟨hk0,c1,f1,by rw [hpush b (be h4)];exact h4,h5,h6,h7,h8,fun k j r x hk hx=>?_⟩⟩
    obtain ⟨v,hv1,hv2⟩:=h9 k j r x hk hx
    refine ⟨v,hv1,hv2.tr ht (fun hr id' hmi=>hbl id' (fun e=>?_))⟩
    subst e
    rw [hu.2 id o1 h1 hr r (gE hk) x (gE hx)] at hmi
    cases hmi
 ·by_cases hj:id=i<;>by_cases hj':id'=i
  ·rw [hj,hj']
  ·subst hj
   rw [bo] at h3
   cases h3
   rw [bH _ _ hj'] at h2 h4
   exact absurd (hlt _ _ _ h2 h4) (Nat.lt_irrefl _)
  ·subst hj'
   rw [bo] at h4
   cases h4
   rw [bH _ _ hj] at h1 h3
   exact absurd (hlt _ _ _ h1 h3) (Nat.lt_irrefl _)
  ·rw [bH _ _ hj] at h1 h3
   rw [bH _ _ hj'] at h2 h4
   exact s.heap.2 _ _ _ _ _ h1 h2 h3 h4
 ·refine s.step.trans (X:=fun _=>False) ⟨by rw [hw];simp,fun b hb _=>hpush b hb,ht.shape,hos,hout⟩ (fun _ _ h=>h.elim)
 ·by_cases hj:id=i
  ·subst hj
   rw [bo] at h2
   cases h2
   exact .inl s.step.size
  ·rw [bH _ _ hj] at h1 h2
   exact s.own id o1 b h1 h2
 ·rw [hbl id (by omega)]
  exact s.stab id h1 h2
theorem aD.new0 (s:aD c bl g h a w) {i:Nat} {o:ah} (hi:h i=none) (hu:bP i g h) (hid:i<1000∨2000≤i) (hrows:o.rows=[]) (hrec:o.isRec=false) :
  aD c (cI bl i none) g (cI h i (some o)) a w:=by
 have hbl:∀j,j≠i→cI bl i none j=bl j:=fun j hj=>bH _ _ hj
 have hmut:∀b,aY (cI bl i none) c.MF (cI h i (some o)) b→aY bl c.MF h b:=by
  rintro b (hm | ⟨j,oj,h1,h2⟩)
  ·exact .inl hm
  ·by_cases hj:j=i
   ·subst hj;rw [bo] at h2;cases h2
   ·rw [bH _ _ hj] at h1 h2;exact .inr ⟨j,oj,h1,h2⟩
 have ht:Tr (aY bl c.MF h) (aY (cI bl i none) c.MF (cI h i (some o))) w w :=
  ⟨fun b hb _=>⟨fun hm=>hb (hmut b hm),rfl⟩,fun b c1 t f1 hb=>⟨c1,f1,hb,rfl⟩⟩
 refine ⟨s.defers,s.size,fun k=>(s.env k).tr ht (fun id hmi=>hbl id (fun e=>?_)),⟨fun id o1 h1=>?_,fun id id' o1 o2 b h1 h2 h3 h4=>?_⟩,s.step,fun id o1 b h1 h2=>?_,fun id h1 h2=>?_,s.mf⟩
 ·subst e;rw [hu.1 k] at hmi;cases hmi
 ·by_cases hj:id=i
  ·subst hj
   rw [bo] at h1
   cases h1
   exact .inl ⟨hrows,hrec,bo _ _ _⟩
  ·rw [bH _ _ hj] at h1
   rcases s.heap.1 id o1 h1 with h3 | ⟨b,h3,⟨hk0,c1,f1,h4,h5,h6,h7,h8,h9⟩ | hsp⟩
   ·exact .inl ⟨h3.1,h3.2.1,by rw [hbl id hj];exact h3.2.2⟩
   rotate_left
   ·exact .inr ⟨b,by rw [hbl id hj];exact h3,.inr hsp⟩
   ·refine .inr ⟨b,by rw [hbl id hj];exact h3,.inl ⟨hk0,c1,f1,h4,h5,h6,h7,h8,fun k j r x hk hx=>?_⟩⟩
    obtain ⟨v,hv1,hv2⟩:=h9 k j r x hk hx
    refine ⟨v,hv1,hv2.tr ht (fun hr id' hmi=>hbl id' (fun e=>?_))⟩
    subst e
    rw [hu.2 id o1 h1 hr r (gE hk) x (gE hx)] at hmi
    cases hmi
 ·by_cases hj:id=i
  ·subst hj;rw [bo] at h3;cases h3
  ·by_cases hj':id'=i
   ·subst hj';rw [bo] at h4;cases h4
   ·rw [bH _ _ hj] at h1 h3
    rw [bH _ _ hj'] at h2 h4
    exact s.heap.2 _ _ _ _ _ h1 h2 h3 h4
 ·by_cases hj:id=i
  ·subst hj;rw [bo] at h2;cases h2
  ·rw [bH _ _ hj] at h1 h2
   exact s.own id o1 b h1 h2
 ·rw [hbl id (by omega)]
  exact s.stab id h1 h2
theorem aD.writeF (s:aD c bl g h a w) {i b:Nat} {o o':ah} {c1 c2:Array Value} {fr fr2:Nat×Nat} (hi:h i=some o) (hb:bl i=some b)
  (h1:w.heap[b]? = some (.cells c1 o.t fr)) (h2:w'.heap[b]? = some (.cells c2 o.t fr2)) (uf:dE c2 fr2) (hsz:c2.size=c1.size) (hsize:w'.heap.size=w.heap.size)
  (hother:∀b',b'≠b→w'.heap[b']? = w.heap[b']?) (hos:w'.os=w.os) (hout:w'.output=w.output) (ht':o'.t=o.t)
  (hc:xi bl (aY bl c.MF h) w o' c2) (hkc:o'.k=o.k:=by rfl):aD c bl g (cI h i (some o')) a w':=by
 have hm:∀b,aY bl c.MF (cI h i (some o')) b↔aY bl c.MF h b:=aY.congr (fun j=>by
  by_cases hj:j=i
  ·subst hj;simp [bo,hi]
  ·rw [bH _ _ hj])
 have hmb:aY bl c.MF h b:=.inr ⟨i,o,hi,hb⟩
 have hshape:∀(b':Nat) (c0:Array Value) (t:TypeId) (f0:Nat×Nat),w.heap[b']? = some (.cells c0 t f0)→∃(c':Array Value) (f1:Nat×Nat),w'.heap[b']? = some (.cells c' t f1)∧c'.size=c0.size:=by
  intro b' c0 t f0 hb'
  by_cases hbb:b'=b
  ·subst hbb
   rw [h1] at hb'
   cases hb'
   exact ⟨c2,fr2,h2,hsz⟩
  ·exact ⟨c0,f0,by rw [hother b' hbb];exact hb',rfl⟩
 have ht:Tr (aY bl c.MF h) (aY bl c.MF (cI h i (some o'))) w w' :=
  ⟨fun b' hb' _=>⟨fun hmm=>hb' ((hm b').1 hmm),hother b' (fun e=>hb' (e▸hmb))⟩,hshape⟩
 refine ⟨s.defers,s.size,fun k=>(s.env k).tr ht (fun _ _=>rfl),⟨fun id o1 h3=>?_,fun id id' o1 o2 b' h3 h4=>?_⟩,?_,fun id o1 b' h3=>?_,s.stab,s.mf⟩
 ·by_cases hj:id=i
  ·subst hj
   rw [bo] at h3
   cases h3
   have hcell:o.k=Kd.cells∧¬c.MF b:=by
    rcases s.heap.1 id o hi with hn | ⟨b',hb',⟨hk0,c0,f0,g4,g5,g6,_⟩ | hsp⟩
    ·rw [hn.2.2] at hb;cases hb
    ·rw [hb] at hb'
     cases hb'
     exact ⟨hk0,g6⟩
    ·rw [hb] at hb'
     cases hb'
     refine ⟨?_,hsp.free⟩
     have hr:=hsp.rel
     cases hkk:o.k with
     | cells=>rfl
     | it s pos=>rw [hkk] at hr;have:=hr.symm.trans h1;cases this
     | mp es=>rw [hkk] at hr;obtain ⟨es',hr,_⟩:=hr;rw [h1] at hr;cases hr
   refine .inr ⟨b,hb,.inl ⟨hkc.trans hcell.1,c2,fr2,by rw [ht'];exact h2,uf,hcell.2,hc.1,hc.2.1,fun k j r x hk hx=>?_⟩⟩
   obtain ⟨v,hv1,hv2⟩:=hc.2.2 k j r x hk hx
   exact ⟨v,hv1,hv2.tr ht (fun _ _ _=>rfl)⟩
  ·rw [bH _ _ hj] at h3
   rcases s.heap.1 id o1 h3 with g3 | ⟨b',g3,⟨hk0,c0,f0,g4,g5,g6,g7,g8,g9⟩ | hsp⟩
   ·exact .inl g3
   rotate_left
   ·have hbb:b'≠b:=fun e=>hj (s.heap.2 id i o1 o b h3 hi (e▸g3) hb)
    exact .inr ⟨b',g3,.inr (hsp.tr (hother b' hbb))⟩
   ·have hbb:b'≠b:=fun e=>hj (s.heap.2 id i o1 o b h3 hi (e▸g3) hb)
    refine .inr ⟨b',g3,.inl ⟨hk0,c0,f0,by rw [hother b' hbb];exact g4,g5,g6,g7,g8,fun k j r x hk hx=>?_⟩⟩
    obtain ⟨v,hv1,hv2⟩:=g9 k j r x hk hx
    exact ⟨v,hv1,hv2.tr ht (fun _ _ _=>rfl)⟩
 ·have key:∀{j oj},cI h i (some o') j=some oj→∃o0,h j=some o0:=fun {j oj} hj=>by
   by_cases hji:j=i
   ·subst hji;exact ⟨o,hi⟩
   ·rw [bH _ _ hji] at hj;exact ⟨oj,hj⟩
  obtain ⟨p,hp⟩:=key h3
  obtain ⟨q,hq⟩:=key h4
  exact s.heap.2 id id' p q b' hp hq
 ·refine s.step.trans (X:=fun b'=>b'=b) ⟨Nat.le_of_eq hsize.symm,fun b' _ hb'=>hother b' hb',hshape,hos,hout⟩ (fun b' hlt hb'=>?_)
  subst hb'
  rcases s.own i o b' hi hb with h5 | h5
  ·exact absurd hlt (Nat.not_lt.2 h5)
  ·exact h5
 ·by_cases hj:id=i
  ·subst hj;exact s.own id o b' hi
  ·rw [bH _ _ hj] at h3;exact s.own id o1 b' h3
theorem aD.write (s:aD c bl g h a w) {i b:Nat} {o o':ah} {c1 c2:Array Value} {fr:Nat×Nat} (hi:h i=some o) (hb:bl i=some b)
  (h1:w.heap[b]? = some (.cells c1 o.t fr)) (h2:w'.heap[b]? = some (.cells c2 o.t fr)) (hsz:c2.size=c1.size) (hsize:w'.heap.size=w.heap.size)
  (hother:∀b',b'≠b→w'.heap[b']? = w.heap[b']?) (hos:w'.os=w.os) (hout:w'.output=w.output) (ht':o'.t=o.t)
  (hc:xi bl (aY bl c.MF h) w o' c2) (hkc:o'.k=o.k:=by rfl):aD c bl g (cI h i (some o')) a w':=by
 refine s.writeF hi hb h1 h2 ?_ hsz hsize hother hos hout ht' hc hkc
 rcases s.heap.1 i o hi with hn | ⟨b',hb',⟨_,c0,f0,g4,g5,_⟩ | hsp⟩
 ·rw [hn.2.2] at hb;cases hb
 rotate_left
 ·rw [hb] at hb'
  cases hb'
  exfalso
  have hr:=hsp.rel
  cases hkk:o.k with
  | cells=>rw [hkk] at hr;exact hr
  | it s pos=>rw [hkk] at hr;have:=hr.symm.trans h1;cases this
  | mp es=>rw [hkk] at hr;obtain ⟨es',hr,_⟩:=hr;rw [h1] at hr;cases hr
 ·rw [hb] at hb'
  cases hb'
  rw [h1] at g4
  cases g4
  unfold dE at g5 ⊢
  rw [hsz]
  exact g5
def cT (i:Nat) (o:ah) (x:AV):AV :=
 match x with
 | .ms id st off len=>if id=i then (if st=o.st∧off+len≤o.rows.length then .sl st ((o.rows.drop off).take len) else .any) else x
 | .mp id st row off=>if id=i then (if st=o.st then (match o.rows[row]? with | some r=>.ip (r.drop off) | none=>.any) else .any) else x
 | .mm id k=>if id=i then (match k,o.k with | true,.mp es=>.fm es | _,_=>.any) else x
 | x=>x
def ci (i:Nat) (o:ah) (x:AV):AV :=
 match x with
 | .fn f caps=>.fn f (caps.map (cT i o))
 | x=>cT i o x
def pO (i:Nat) (o:ah) (x:AV):AV :=
 match x with
 | .agg cells=>.agg (cells.map (ci i o))
 | x=>ci i o x
def kh (i:Nat) (o:ah) (x:AV):AV :=
 match x with
 | .tup vs=>.tup (vs.map (pO i o))
 | x=>pO i o x
def et (i:Nat) (o:ah) (o1:ah):ah:=if o1.isRec then { o1 with rows:=o1.rows.map (fun r=>r.map (ci i o)) } else o1
theorem aK.mapRight {α β:Type} {R R':α→β→Prop} {f:β→β}:∀{l:List α} {m:List β},aK R l m→(∀a b,R a b→R' a (f b))→aK R' l (m.map f)
 | [],[],_,_=>trivial
 | _ :: _,_ :: _,h,hf=>⟨hf _ _ h.1,h.2.mapRight hf⟩
 | [],_ :: _,h,_=>h.elim
 | _ :: _,[],h,_=>h.elim
theorem nh {M M':Nat→Prop} {MF:Nat→Prop} {i b:Nat} {o:ah} {v:Value} {x:AV} (ht:Tr M M' w w) (hM':¬M' b) (hO:(o.rows=[]∧bl i=none)∨(bl i=some b∧gw bl M MF w o b)) (hrec:o.isRec=false)
  (hx:cL bl M w v x):cL bl M' w v (cT i o x):=by
 have same:cL bl M' w v x:=hx.tr ht (fun _ _=>rfl)
 cases x<;>try exact same
 case ms id st off len =>
  simp only [cT]
  split
  case isFalse=>exact same
  rename_i hid
  subst hid
  have hone:=cL.one hx
  split
  case isFalse=>exact IRel.any v hone
  rename_i hcond
  obtain ⟨rfl,hlen⟩:=hcond
  simp only [cL] at hx
  rcases hx with ⟨rfl,rfl,rfl⟩ | ⟨rfl,_,a1,cap,rfl⟩ | ⟨b',cap,c,t,fr,h1,rfl,h3,h4,h5⟩
  ·simp only [bE];exact IRel.nls _
  ·simp only [bE]
   show IRel M' w _ _
   exact IRel.sl0 _ a1 cap
  ·rcases hO with hO | ⟨hb,⟨_,c1,f1,g2,g3,g4,g5,g6,g7⟩ | hsp⟩
   ·rw [hO.2] at h1;cases h1
   rotate_left
   ·rw [hb] at h1;cases h1;exact (hsp.ne h4).elim
   ·rw [hb] at h1
    cases h1
    have hlen':((o.rows.drop off).take len).length=len:=by simp;omega
    have key:=IRel.sl (M:=M') (w:=w) b (off * o.st) cap o.st c1 o.t f1 ((o.rows.drop off).take len) (fun k j=>(c1[off * o.st+k * o.st+j]?).getD default) g2 hM' (by omega)
     (fun k r hk=>by
      have:o.rows[off+k]? = some r:=by
       rw [List.getElem?_take] at hk
       split at hk
       ·simpa using hk
       ·cases hk
      exact g5 _ _ this)
     (fun k j hk hj=>by
      have hk':off+k<o.rows.length:=by omega
      have e1:o.rows[off+k]? = some o.rows[off+k]:=fu hk'
      have hl:=g5 _ _ e1
      have e2:(o.rows[off+k])[j]? = some (o.rows[off+k])[j]:=fu (by omega)
      obtain ⟨u,hu,_⟩:=g7 _ _ _ _ e1 e2
      have e3:off * o.st+k * o.st+j=(off+k) * o.st+j:=by rw [eU]
      rw [e3,hu];rfl)
     (fun k j r x hk hx=>by
      have hk':o.rows[off+k]? = some r:=by
       rw [List.getElem?_take] at hk
       split at hk
       ·simpa using hk
       ·cases hk
      obtain ⟨u,hu,hr⟩:=g7 _ _ _ _ hk' hx
      have e3:off * o.st+k * o.st+j=(off+k) * o.st+j:=by rw [eU]
      simp only [e3,hu,Option.getD_some]
      rw [hrec] at hr
      exact IRel.tr hr ht.keep)
    rw [hlen'] at key
    exact key
 case mm id k =>
  simp only [cT]
  split
  case isFalse=>exact same
  rename_i hid
  subst hid
  split
  case h_2=>exact IRel.any v (cL.one hx)
  rename_i es hk
  simp only [cL,fv] at hx
  obtain ⟨b',h1,rfl⟩:=hx
  rcases hO with hO | ⟨hb,⟨hc,_⟩ | hsp⟩
  ·rw [hO.2] at h1;cases h1
  ·rw [hk] at hc;cases hc
  ·rw [hb] at h1
   cases h1
   have hr:=hsp.rel
   rw [hk] at hr
   obtain ⟨es',q1,q2,q3⟩:=hr
   exact IRel.fm b es' es q1 hM' q2 q3
 case mp id st row off =>
  simp only [cT]
  split
  case isFalse=>exact same
  rename_i hid
  subst hid
  have hone:=cL.one hx
  split
  case isFalse=>exact IRel.any v hone
  rename_i hst
  subst hst
  split
  case h_2=>exact IRel.any v hone
  rename_i r hr
  simp only [cL] at hx
  obtain ⟨b',h1,rfl⟩:=hx
  rcases hO with hO | ⟨hb,⟨_,c1,f1,g2,g3,g4,g5,g6,g7⟩ | hsp⟩
  ·rw [hO.2] at h1;cases h1
  rotate_left
  ·exact (hsp.no hr).elim
  ·rw [hb] at h1
   cases h1
   have cell:∀(j:Nat) (x:AV),(r.drop off)[j]? = some x→∃u,c1[row * o.st+off+j]? = some u∧IRel M' w u x:=fun j x hx=>by
    rw [List.getElem?_drop] at hx
    obtain ⟨u,hu,hr'⟩:=g7 _ _ _ _ hr hx
    rw [hrec] at hr'
    exact ⟨u,by rw [← hu];congr 1;omega,IRel.tr hr' ht.keep⟩
   exact IRel.ip b (row * o.st+off) c1 o.t f1 (r.drop off) (fun j=>(c1[row * o.st+off+j]?).getD default) g2 hM'
    (fun j hj=>by
     obtain ⟨u,hu,_⟩:=cell j _ (fu hj)
     rw [hu];rfl)
    (fun j x hx=>by
     obtain ⟨u,hu,hr'⟩:=cell j x hx
     simp only [hu,Option.getD_some]
     exact hr')
end
inductive IV where
 | s (k:Nat)
 | c (x:AV)
 deriving Inhabited
inductive LK where
 | b
 | i
 | s
 deriving Inhabited
inductive KK where
 | i
 | s
 | b
 deriving Inhabited
inductive MK where
 | rng
 | nxt
 | mkm
 | mln
 | mlk (ok:Bool) (kd:KK) (z:AV)
 | mup (kd:KK)
 | mnt (kd:KK) (z:AV)
 | mst
 deriving Inhabited
inductive eV where
 | mov (x:IV)
 | pick (c a b:IV)
 | new (t:TypeId) (cells:List AV)
 | box (t:TypeId) (n:Nat) (x:IV)
 | build (cells:List AV) (parts:List (Nat×Nat×IV))
 | bsl (t:TypeId) (st:Nat) (rows:List (List AV)) (parts:List (Nat×IV))
 | load (n:Option Nat) (p:IV)
 | store (n:Nat) (p x:IV)
 | fadr (off:Nat) (p:IV)
 | fld (off:Nat) (n:Option Nat) (x:IV)
 | iadr (st:Nat) (x i:IV)
 | aadr (st n:Nat) (x i:IV)
 | mnx (mx:Bool) (x y:IV)
 | cpy (st:Nat) (x y:IV)
 | cvm (x:IV)
 | sib (x y:IV)
 | mop (k:MK) (xs:List IV)
 | slc (st:Nat) (x:IV) (lo hi mx:Option IV)
 | len (x:IV)
 | app (t:TypeId) (st:Nat) (x y:IV)
 | slen (x:IV)
 | sslc (x:IV) (lo hi:Option IV)
 | apps (t:TypeId) (x y:IV)
 | bin (op:BinOp) (x y:IV)
 | bbin (op:BinOp) (x y:IV)
 | pbin (op:BinOp) (x y:IV)
 | sbin (op:BinOp) (ls:List LK) (x y:IV)
 | un (op:UnOp) (x:IV)
 | cvi (k:IntKind) (x:IV)
 | cvs (x:IV)
 | cvt (x:IV)
 | cvb (t:TypeId) (x:IV)
 | call (f:FuncId) (args:List IV)
 | callv (f:IV) (args:List IV)
 | ext (x:IV) (i:Nat)
 | nchk (x:IV)
 | mkf (f:FuncId) (caps:List IV)
 | sidx (x i:IV)
 | snl (neg:Bool) (x:IV)
 | mks (t:TypeId) (st:Nat) (zero:List AV) (len cap:IV)
 deriving Inhabited
structure aH where
 dst:Option Nat
 op:eV
 g:Option (Nat×Bool)
 deriving Inhabited
inductive aP where
 | no
 | put (i:Nat) (o:ah)
 | new (i:Nat) (o:ah)
 | reb (i:Nat) (o:ah)
 deriving Inhabited
def val (g:Nat→AV):IV→AV
 | .s k=>g k
 | .c x=>x
def du:AV→Option (List AV)
 | .agg cs=>some cs
 | .tup _=>none
 | .any=>none
 | x=>some [x]
def fC:AV→Bool
 | .ms ..=>false
 | .mm ..=>false
 | .mp ..=>false
 | .fn ..=>false
 | .agg _=>false
 | .tup _=>false
 | _=>true
def dv (st:Nat) (h:Nat→Option ah):AV→Option (List (List AV))
 | .nl=>some []
 | .sl st' rows=>if st'=st then some rows else none
 | .ms id st' off len=>match h id with
  | some o=>if st'=st∧o.st=st∧o.isRec=false∧off+len≤o.rows.length then some ((o.rows.drop off).take len) else none
  | none=>none
 | _=>none
def iJ (st:Nat) (h:Nat→Option ah):AV→Option (List (List AV))
 | .ms id st' off len=>match h id with
  | some o=>if st'=st∧o.st=st∧off+len≤o.rows.length then some ((o.rows.drop off).take len) else none
  | none=>none
 | x=>dv st h x
def Fh:Option ah→Bool
 | some o=>o.isRec
 | none=>false
def k7 (h:Nat→Option ah):AV→Bool
 | .ms id _ _ _=>Fh (h id)
 | _=>false
theorem uL {st:Nat} {h:Nat→Option ah} {x:AV} {rows:List (List AV)} (hr:dv st h x=some rows):iJ st h x=some rows∧k7 h x=false:=by
 cases x<;>try exact ⟨hr,rfl⟩
 simp only [dv,iJ,k7] at hr ⊢
 split at hr
 ·rename_i o ho
  split at hr
  ·rename_i hc
   exact ⟨by rw [bz ⟨hc.1,hc.2.1,hc.2.2.2⟩];exact hr,by rw [ho];exact hc.2.2.1⟩
  ·cases hr
 ·cases hr
def i3 (i:Nat) (rows:List (List AV)):Bool:=rows.all fun r=>r.all fun x=>!mC i x
def B2:AV→Option (List (List AV))
 | .str s=>some (s.map fun b=>[.int .u8 b.toNat])
 | _=>none
def gd (n:Option Nat) (cells:List AV):Option AV :=
 match n with
 | none=>cells[0]?
 | some n=>if n≤cells.length then some (.agg (cells.take n)) else none
def fJ (n:Option Nat) (p:AV) (h:Nat→Option ah):Option AV :=
 match p with
 | .ip cells=>gd n cells
 | .mp id st row off=>match h id with
  | some o=>if o.st=st then (match o.rows[row]? with | some r=>gd n (r.drop off) | none=>none) else none
  | none=>none
 | _=>none
def dN (r:List AV) (off:Nat) (cs:List AV):List AV:=r.take off++cs++r.drop (off+cs.length)
def eL (n:Nat) (p x:AV) (h:Nat→Option ah):Option aP :=
 match p,du x with
 | .mp id st row off,some cs=>match h id with
  | some o=>if o.st=st∧cs.length=n∧(o.isRec||cs.all fC)=true then (match o.rows[row]? with
   | some r=>if off+n≤r.length then some (.put id { o with rows:=o.rows.set row (dN r off cs) }) else none
   | none=>none) else none
  | none=>none
 | _,_=>none
def oL (off:Nat) (p:AV):Option AV :=
 match p with
 | .ip cells=>some (.ip (cells.drop off))
 | .mp id st row o=>some (.mp id st row (o+off))
 | _=>none
def xW (off:Nat) (n:Option Nat) (x:AV):Option AV :=
 match x with
 | .agg cells=>gd n (cells.drop off)
 | _=>none
def lM (st:Nat) (x i:AV):Option AV :=
 match x,i with
 | .sl st' rows,.int _ n=>if st'=st∧0≤n then (match rows[n.toNat]? with | some r=>some (.ip r) | none=>none) else none
 | .ms id st' off len,.int _ n=>if st'=st∧0≤n∧n<len then some (.mp id st (off+n.toNat) 0) else none
 | _,_=>none
def bN (d:Nat) (x:Option AV):Option Nat :=
 match x with
 | none=>some d
 | some (.int _ n)=>if 0≤n then some n.toNat else none
 | _=>none
def fb (st:Nat) (x:AV) (lo hi mx:Option AV):Option AV :=
 match x with
 | .sl st' rows=>match bN 0 lo,bN rows.length hi,bN rows.length mx with
  | some l,some h,some m=>if st'=st∧l≤h∧h≤m∧m≤rows.length then some (.sl st ((rows.drop l).take (h - l))) else none
  | _,_,_=>none
 | .ms id st' off len=>match bN 0 lo,bN len hi,bN len mx with
  | some l,some h,some m=>if st'=st∧l≤h∧h≤m∧m≤len∧mx=none then some (.ms id st (off+l) (h - l)) else none
  | _,_,_=>none
 | .nl=>match bN 0 lo,bN 0 hi,bN 0 mx with
  | some l,some h,some m=>if l=0∧h=0∧m=0 then some .nl else none
  | _,_,_=>none
 | _=>none
def iD (x:AV) (lo hi:Option AV):Option AV :=
 match x with
 | .str s=>match bN 0 lo,bN s.length hi with
  | some l,some h=>if l≤h∧h≤s.length then some (.str ((s.drop l).take (h - l))) else none
  | _,_=>none
 | _=>none
def si:AV→Option AV
 | .sl _ rows=>some (.int .i64 rows.length)
 | .ms _ _ _ len=>some (.int .i64 len)
 | .nl=>some (.int .i64 0)
 | _=>none
def qP:AV→Option AV
 | .str s=>some (.int .i64 s.length)
 | _=>none
def g_ (d:Nat) (t:TypeId) (st:Nat) (x:AV) (src:Option (List (List AV))) (h:Nat→Option ah):Option (AV×aP) :=
 match src with
 | none=>none
 | some ys=>if ys.length<137438953472 then (match x with
  | .nl=>some (.ms d st 0 ys.length,.new d ⟨t,st,ys,false⟩)
  | .ms id st' off len=>match h id with
   | some o=>if st'=st∧o.st=st∧o.t=t∧o.isRec=false∧off=0∧len≤o.rows.length∧len<137438953472∧(id<1000∨2000≤id)∧o.k.flat=true then
     some (.ms id st 0 (len+ys.length),.reb id ⟨t,st,o.rows.take len++ys,false⟩) else none
   | none=>none
  | _=>none) else none
def jx (d:Nat) (t:TypeId) (st:Nat) (x:AV) (src:Option (List (List AV))) (h:Nat→Option ah):Option (AV×aP) :=
 match src with
 | none=>none
 | some ys=>if ys.length<137438953472∧0<ys.length then (match x with
  | .nl=>some (.ms d st 0 ys.length,.new d ⟨t,st,ys,true⟩)
  | .ms id st' off len=>match h id with
   | some o=>if st'=st∧o.st=st∧o.t=t∧off=0∧len≤o.rows.length∧len<137438953472∧(id<1000∨2000≤id)∧o.k.flat=true∧i3 id (o.rows.take len++ys)=true then
     some (.ms id st 0 (len+ys.length),.reb id ⟨t,st,o.rows.take len++ys,true⟩) else none
   | none=>none
  | _=>none) else none
def tR (op:BinOp) (k:IntKind) (a b:Int):Option Int :=
 match op with
 | .and=>some (k.wrap ((BitVec.ofInt k.bits a &&& BitVec.ofInt k.bits b).toNat))
 | .or=>some (k.wrap ((BitVec.ofInt k.bits a ||| BitVec.ofInt k.bits b).toNat))
 | .xor=>some (k.wrap ((BitVec.ofInt k.bits a ^^^ BitVec.ofInt k.bits b).toNat))
 | .andNot=>some (k.wrap ((BitVec.ofInt k.bits a &&& ~~~ (BitVec.ofInt k.bits b)).toNat))
 | _=>none
def KH (op:BinOp) (k:IntKind) (a b:Int):Option AV :=
 match op with
 | .add=>some (.int k (k.wrap (a+b)))
 | .sub=>some (.int k (k.wrap (a - b)))
 | .mul=>some (.int k (k.wrap (a * b)))
 | .quo=>if b=0 then none else some (.int k (k.wrap (a.tdiv b)))
 | .rem=>if b=0 then none else some (.int k (a.tmod b))
 | .eql=>some (.bool (a==b))
 | .neq=>some (.bool (a != b))
 | .lss=>some (.bool (decide (a<b)))
 | .leq=>some (.bool (decide (a≤b)))
 | .gtr=>some (.bool (decide (a>b)))
 | .geq=>some (.bool (decide (a≥b)))
 | op=>(tR op k a b).map (.int k)
def KI (op:BinOp) (a b:List UInt8):Option AV :=
 match op with
 | .add=>if a.length+b.length<4611686018427387904 then some (.str (a++b)) else none
 | .eql=>some (.bool (a==b))
 | .neq=>some (.bool (!(a==b)))
 | .lss=>some (.bool (Op.bytesLess a b))
 | .leq=>some (.bool (Op.bytesLess a b||a==b))
 | .gtr=>some (.bool (!(Op.bytesLess a b||a==b)))
 | .geq=>some (.bool (!(Op.bytesLess a b)))
 | _=>none
def eG (op:BinOp) (x y:AV):Option AV :=
 match op,x,y with
 | .shl,.int k a,.int _ b=>if b<0 then none else some (.int k (k.wrap (a * 2 ^ (min b.toNat k.bits))))
 | .shr,.int k a,.int _ b=>if b<0 then none else some (.int k (a.fdiv (2 ^ (min b.toNat k.bits))))
 | op,.int k a,.int k' b=>if k=k' then KH op k a b else none
 | op,.str a,.str b=>KI op a b
 | _,_,_=>none
def oK (op:BinOp) (x y:AV):Option AV :=
 match op,x,y with
 | .eql,.bool a,.bool b=>some (.bool (a==b))
 | .neq,.bool a,.bool b=>some (.bool (!(a==b)))
 | _,_,_=>none
def oJ (st n:Nat) (x i:AV):Option AV :=
 match x,i with
 | .ip cells,.int _ j=>if 0≤j∧j<n then some (.ip (cells.drop (j.toNat * st))) else none
 | .mp id s row off,.int _ j=>if 0≤j∧j<n then some (.mp id s row (off+j.toNat * st)) else none
 | _,_=>none
def qF (mx:Bool) (x y:AV):Option AV :=
 match x,y with
 | .int k n,.int k' m=>if k=k' then some (.int k (if mx then (if n<m then m else n) else (if m<n then m else n))) else none
 | _,_=>none
def lZ (st:Nat) (x:AV) (src:Option (List (List AV))) (h:Nat→Option ah):Option (AV×aP) :=
 match src with
 | none=>none
 | some ys=>match x with
  | .ms id st' off len=>match h id with
   | some o=>if st'=st∧o.st=st∧o.isRec=false∧off+len≤o.rows.length then
     (if ys.length≤len then some (.int .i64 ys.length,.put id { o with rows:=o.rows.take off++ys++o.rows.drop (off+ys.length) })
     else some (.int .i64 len,.put id { o with rows:=o.rows.take off++ys.take len++o.rows.drop (off+len) })) else none
   | none=>none
  | _=>none
theorem mX {st:Nat} {x:AV} {src:Option (List (List AV))} {h:Nat→Option ah} {v:AV} {e:aP} (hq:lZ st x src h=some (v,e)):∃i o,e = .put i o:=by
 unfold lZ at hq
 repeat' (split at hq)
 all_goals first | (cases hq;done) | (cases hq;exact ⟨_,_,rfl⟩)
def pz (x:AV) (h:Nat→Option ah):Option (AV×aP) :=
 match x with
 | .ms id st off len=>match h id with
  | some o=>if st=1∧o.st=1∧o.isRec=false∧0<len then some (.ms id st off len,.put id o) else none
  | none=>none
 | _=>none
theorem iS {x:AV} {h:Nat→Option ah} {v:AV} {e:aP} (hq:pz x h=some (v,e)):∃id st off len o,x = .ms id st off len∧h id=some o∧st=1∧o.st=1∧o.isRec=false∧0<len∧v = .ms id st off len∧e = .put id o:=by
 unfold pz at hq
 split at hq
 case h_2=>cases hq
 rename_i id st off len
 split at hq
 case h_2=>cases hq
 rename_i o ho
 split at hq
 case isFalse=>cases hq
 rename_i hc
 cases hq
 exact ⟨id,st,off,len,o,rfl,ho,hc.1,hc.2.1,hc.2.2.1,hc.2.2.2,rfl,rfl⟩
def Fy (s:List UInt8) (c:UInt8):Int:=firstIdx ⟨s.toArray⟩ c
def yi (x y:AV):Option AV :=
 match x,y with
 | .str s,.int .u8 n=>some (.int .i64 (Fy s n.toNat.toUInt8))
 | _,_=>none
def Al:AV→Option Bool
 | .np=>some true
 | .mp ..=>some false
 | .ip _=>some false
 | _=>none
def jy (op:BinOp) (x y:AV):Option AV :=
 match op,Al x,y with
 | .eql,some b,.np=>some (.bool b)
 | .neq,some b,.np=>some (.bool (!b))
 | _,_,_=>none
def eR (l:LK) (x y:AV):Option Bool :=
 match l,x,y with
 | .b,.bool p,.bool q=>some (p==q)
 | .i,.int k p,.int k' q=>if k=k' then some (p==q) else none
 | .s,.str p,.str q=>some (p==q)
 | _,_,_=>none
def eJ:List LK→List AV→List AV→Option Bool
 | [],[],[]=>some true
 | l :: ls,x :: xs,y :: ys=>match eR l x y,eJ ls xs ys with
  | some p,some q=>some (p&&q)
  | _,_=>none
 | _,_,_=>none
def iB (op:BinOp) (ls:List LK) (x y:AV):Option AV :=
 match op,ls,x,y with
 | .eql,l :: ls,.agg xs,.agg ys=>(eJ (l :: ls) xs ys).map .bool
 | .neq,l :: ls,.agg xs,.agg ys=>(eJ (l :: ls) xs ys).map fun b=>.bool (!b)
 | .eql,[],.fn _ _,.nf=>some (.bool false)
 | .neq,[],.fn _ _,.nf=>some (.bool true)
 | .eql,[],.nf,.nf=>some (.bool true)
 | .neq,[],.nf,.nf=>some (.bool false)
 | _,_,_,_=>none
def Kt (op:UnOp) (x:AV):Option AV :=
 match op,x with
 | .neg,.int k n=>some (.int k (k.wrap (0 - n)))
 | .xor,.int k n=>(tR .xor k (if k.signed then -1 else k.max) n).map (.int k)
 | .not,.bool b=>some (.bool (!b))
 | _,_=>none
def fA (ρ:IV→AV):List AV→List (Nat×Nat×IV)→Option (List AV)
 | cells,[]=>some cells
 | cells,(off,n,v) :: rest=>match du (ρ v) with
  | some cs=>if cs.length=n∧off+n≤cells.length then fA ρ (dN cells off cs) rest else none
  | none=>none
def gJ (ρ:IV→AV) (st:Nat):List (List AV)→List (Nat×IV)→Option (List (List AV))
 | rows,[]=>some rows
 | rows,(i,v) :: rest=>match du (ρ v) with
  | some cs=>if cs.length=st∧i<rows.length∧cs.all fC=true then gJ ρ st (rows.set i cs) rest else none
  | none=>none
def dY (ρ:IV→AV) (st:Nat):List (List AV)→List (Nat×IV)→Option (List (List AV))
 | rows,[]=>some rows
 | rows,(i,v) :: rest=>match du (ρ v) with
  | some cs=>if cs.length=st∧i<rows.length then dY ρ st (rows.set i cs) rest else none
  | none=>none
theorem tS {ρ:IV→AV} {st:Nat}:∀{ps:List (Nat×IV)} {rows out:List (List AV)},gJ ρ st rows ps=some out→dY ρ st rows ps=some out∧((∀r∈rows,∀x∈r,fC x=true)→∀r∈out,∀x∈r,fC x=true)
 | [],rows,out,h=>by cases h;exact ⟨rfl,_root_.id⟩
 | (i,v) :: r,rows,out,h=>by
  simp only [gJ,dY] at h ⊢
  split at h
  ·rename_i cs _
   split at h
   ·rename_i hc
    rw [bz ⟨hc.1,hc.2.1⟩]
    obtain ⟨h1,h2⟩:=tS h
    refine ⟨h1,fun hr=>h2 fun q hq x hx=>?_⟩
    rcases List.mem_or_eq_of_mem_set hq with hq | rfl
    ·exact hr q hq x hx
    ·exact de.1 hc.2.2 x hx
   ·cases h
  ·cases h
theorem mZ {ρ:IV→AV} {st:Nat}:∀{ps:List (Nat×IV)} {rows out:List (List AV)},dY ρ st rows ps=some out→out.length=rows.length
 | [],rows,out,h=>by cases h;rfl
 | (i,v) :: r,rows,out,h=>by
  simp only [dY] at h
  split at h
  ·split at h
   ·rw [mZ h,List.length_set]
   ·cases h
  ·cases h
def fU:List (List AV)→Option (List UInt8)
 | []=>some []
 | [.int .u8 n] :: r=>(fU r).map ((UInt8.ofNat n.toNat) :: ·)
 | _=>none
def yJ:AV→Bool
 | .any=>false
 | .fn ..=>false
 | .agg _=>false
 | .tup _=>false
 | _=>true
def uP:KK→AV→AV→Option Bool
 | .i,.int k a,.int k' b=>if k=k' then some (a==b) else none
 | .s,.str a,.str b=>some (a==b)
 | .b,.bool a,.bool b=>some (a==b)
 | _,_,_=>none
def gg (kd:KK) (key:AV):List (AV×AV)→Option (Option Nat)
 | []=>some none
 | e :: r=>match uP kd key e.1 with
  | some true=>some (some 0)
  | some false=>(gg kd key r).map fun q=>q.map (· + 1)
  | none=>none
def gO:AV→Bool
 | .bool _=>true
 | .int _ _=>true
 | .str _=>true
 | _=>false
def Bx (kd:KK) (key x:AV) (es:List (AV×AV)):Option (List (AV×AV)) :=
 match gg kd key es with
 | some (some i)=>some (es.modify i fun _=>(key,x))
 | some none=>some (es++[(key,x)])
 | none=>none
def J4 (o:ah):Option (List UInt8×Nat) :=
 match o.k with
 | .it s pos=>some (s,pos)
 | _=>none
def ke (o:ah):Option (List (AV×AV)) :=
 match o.k with
 | .mp es=>some es
 | _=>none
def pA (id:Nat) (o:ah):Option (AV×aP) :=
 match J4 o with
 | some (s,pos)=>if pos<s.length then
   some (.tup [.bool true,.int .i64 pos,.int .i32 (Utf8.decode ⟨s.toArray⟩ pos).1],.put id { o with k:=.it s (pos+(Utf8.decode ⟨s.toArray⟩ pos).2) })
  else some (.tup [.bool false],.no)
 | none=>none
def jK (ok:Bool) (kd:KK) (z key:AV) (o:ah):Option (AV×aP) :=
 match ke o with
 | some es=>match gg kd key es with
  | some (some i)=>match es[i]? with
   | some e=>some (if ok then .tup [e.2,.bool true] else e.2,.no)
   | none=>none
  | some none=>some (if ok then .tup [z,.bool false] else z,.no)
  | none=>none
 | none=>none
def mY (id:Nat) (kd:KK) (key x:AV) (o:ah):Option (AV×aP) :=
 match ke o with
 | some es=>if (gO key&&gO x)=true then (Bx kd key x es).map fun es'=>(.any,.put id { o with k:=.mp es' }) else none
 | none=>none
def qE (id:Nat) (kd:KK) (z key:AV) (o:ah):Option (AV×aP) :=
 match ke o with
 | some es=>if gO key=true then (match gg kd key es with
  | some (some i)=>match es[i]? with
   | some e=>some (.tup [e.2,.int .i64 i],.put id o)
   | none=>none
  | some none=>some (.tup [z,.int .i64 es.length],.put id { o with k:=.mp (es++[(key,z)]) })
  | none=>none) else none
 | none=>none
def ve (id:Nat) (n:Int) (x:AV) (o:ah):Option (AV×aP) :=
 match ke o with
 | some es=>if 0≤n∧n<es.length∧gO x=true then some (.any,.put id { o with k:=.mp (es.modify n.toNat fun e=>(e.1,x)) }) else none
 | none=>none
def er (d:Nat) (k:MK) (xs:List AV) (h:Nat→Option ah):Option (AV×aP) :=
 match k,xs with
 | .rng,[.str s]=>some (.mm d false,.new d (@ah.mk 0 0 [] false (.it s 0)))
 | .nxt,[.mm id false]=>(h id).bind (pA id)
 | .mkm,[]=>some (.mm d true,.new d (@ah.mk 0 0 [] false (.mp [])))
 | .mln,[.mm id true]=>(h id).bind fun o=>(ke o).map fun es=>(.int .i64 es.length,.no)
 | .mlk ok kd z,[.mm id true,key]=>(h id).bind (jK ok kd z key)
 | .mlk ok kd z,[.fm es,key]=>jK ok kd z key (@ah.mk 0 0 [] false (.mp es))
 | .mup kd,[.mm id true,key,x]=>(h id).bind (mY id kd key x)
 | .mnt kd z,[.mm id true,key]=>(h id).bind (qE id kd z key)
 | .mst,[.mm id true,.int .i64 n,x]=>(h id).bind (ve id n x)
 | _,_=>none
theorem j_ {d:Nat} {k:MK} {xs:List AV} {h:Nat→Option ah} {v:AV} {e:aP} (hq:er d k xs h=some (v,e)) :
  e = .no∨(∃o,e = .new d o∧(k = .rng∨k = .mkm))∨∃id b r o,xs = .mm id b :: r∧e = .put id o:=by
 unfold er at hq
 split at hq
 ·cases hq;exact .inr (.inl ⟨_,rfl,.inl rfl⟩)
 ·simp only [jd] at hq
  obtain ⟨o,_,h2⟩:=hq
  unfold pA at h2
  split at h2
  ·split at h2
   ·cases h2;exact .inr (.inr ⟨_,_,_,_,rfl,rfl⟩)
   ·cases h2;exact .inl rfl
  ·cases h2
 ·cases hq;exact .inr (.inl ⟨_,rfl,.inr rfl⟩)
 ·simp only [jd,cq] at hq
  obtain ⟨o,_,es,_,h2⟩:=hq
  cases h2;exact .inl rfl
 ·simp only [jd] at hq
  obtain ⟨o,_,h2⟩:=hq
  unfold jK at h2
  repeat' (split at h2)
  all_goals first | (cases h2;done) | (cases h2;exact .inl rfl)
 ·unfold jK at hq
  repeat' (split at hq)
  all_goals first | (cases hq;done) | (cases hq;exact .inl rfl)
 ·simp only [jd] at hq
  obtain ⟨o,_,h2⟩:=hq
  unfold mY at h2
  split at h2
  ·split at h2
   ·simp only [cq] at h2
    obtain ⟨es',_,h2⟩:=h2
    cases h2;exact .inr (.inr ⟨_,_,_,_,rfl,rfl⟩)
   ·cases h2
  ·cases h2
 ·simp only [jd] at hq
  obtain ⟨o,_,h2⟩:=hq
  unfold qE at h2
  repeat' (split at h2)
  all_goals first | (cases h2;done) | (cases h2;exact .inr (.inr ⟨_,_,_,_,rfl,rfl⟩))
 ·simp only [jd] at hq
  obtain ⟨o,_,h2⟩:=hq
  unfold ve at h2
  repeat' (split at h2)
  all_goals first | (cases h2;done) | (cases h2;exact .inr (.inr ⟨_,_,_,_,rfl,rfl⟩))
 ·cases hq
def sq (d:Nat) (t:TypeId) (st:Nat) (x:Option (List (List AV))):Option (AV×aP) :=
 match x with
 | some rs=>some (.ms d st 0 rs.length,.new d ⟨t,st,rs,false⟩)
 | none=>none
def yG (d:Nat) (t:TypeId) (st:Nat) (x:Option (List (List AV))):Option (AV×aP) :=
 match x with
 | some rs=>if i3 d rs=true then some (.ms d st 0 rs.length,.new d ⟨t,st,rs,true⟩) else none
 | none=>none
def pG (d:Nat) (t:TypeId) (st:Nat) (x y:Option (List (List AV))):Option (AV×aP) :=
 match x with
 | some rs=>some (.ms d st 0 rs.length,.new d ⟨t,st,rs,false⟩)
 | none=>yG d t st y
theorem ka {d:Nat} {t:TypeId} {st:Nat} {x y:Option (List (List AV))} {v:AV} {e:aP} (h:pG d t st x y=some (v,e)):∃o,e = .new d o:=by
 unfold pG yG at h
 repeat' (split at h)
 all_goals first | (cases h;done) | (cases h;exact ⟨_,rfl⟩)
def sk (b:Bool):AV→Option AV
 | .nl=>some (.bool (!b))
 | .sl _ (_ :: _)=>some (.bool b)
 | .ms _ _ _ (_+1)=>some (.bool b)
 | _=>none
def res (x:Option AV):Option (AV×aP):=x.map fun v=>(v,.no)
def bh (d:Nat) (op:eV) (ρ:IV→AV) (h:Nat→Option ah):Option (AV×aP) :=
 match op with
 | .mov x=>some (ρ x,.no)
 | .pick c a b=>match ρ c with
  | .bool true=>some (ρ a,.no)
  | .bool false=>some (ρ b,.no)
  | _=>none
 | .new t cells=>some (.mp d cells.length 0 0,.new d ⟨t,cells.length,[cells],true⟩)
 | .box t n x=>match du (ρ x) with
  | some cs=>if cs.length=n∧(cs.all fun y=>!(mC d y))=true then some (.mp d n 0 0,.new d ⟨t,n,[cs],true⟩) else none
  | none=>none
 | .build cells parts=>res ((fA ρ cells parts).map .agg)
 | .bsl t st rows parts=>pG d t st (gJ ρ st rows parts) (dY ρ st rows parts)
 | .load n p=>res (fJ n (ρ p) h)
 | .store n p x=>(eL n (ρ p) (ρ x) h).map fun e=>(.any,e)
 | .fadr off p=>res (oL off (ρ p))
 | .fld off n x=>res (xW off n (ρ x))
 | .iadr st x i=>res (lM st (ρ x) (ρ i))
 | .aadr st n x i=>res (oJ st n (ρ x) (ρ i))
 | .mnx m x y=>res (qF m (ρ x) (ρ y))
 | .cpy st x y=>lZ st (ρ x) (dv st h (ρ y)) h
 | .sib x y=>res (yi (ρ x) (ρ y))
 | .cvm x=>pz (ρ x) h
 | .mop k xs=>er d k (xs.map ρ) h
 | .slc st x lo hi mx=>res (fb st (ρ x) (lo.map ρ) (hi.map ρ) (mx.map ρ))
 | .len x=>res (si (ρ x))
 | .app t st x y=>g_ d t st (ρ x) (dv st h (ρ y)) h
 | .apps t x y=>g_ d t 1 (ρ x) (B2 (ρ y)) h
 | .slen x=>res (qP (ρ x))
 | .sslc x lo hi=>res (iD (ρ x) (lo.map ρ) (hi.map ρ))
 | .bin op x y=>res (eG op (ρ x) (ρ y))
 | .bbin op x y=>res (oK op (ρ x) (ρ y))
 | .pbin op x y=>res (jy op (ρ x) (ρ y))
 | .sbin op ls x y=>res (iB op ls (ρ x) (ρ y))
 | .un op x=>res (Kt op (ρ x))
 | .cvi k x=>match ρ x with
  | .int _ n=>some (.int k (k.wrap n),.no)
  | _=>none
 | .cvs x=>match dv 1 h (ρ x) with
  | some rows=>res ((fU rows).map .str)
  | none=>none
 | .cvb t x=>match ρ x with
  | .str s=>if s.length<1073741824 then some (.ms d 1 0 s.length,.new d ⟨t,1,s.map fun b=>[.int .u8 b.toNat],false⟩) else none
  | _=>none
 | .ext x i=>match ρ x with
  | .tup vs=>res (vs[i]?)
  | _=>none
 | .nchk x=>match ρ x with
  | .mp id st row off=>some (.mp id st row off,.no)
  | .ip cells=>some (.ip cells,.no)
  | .fn f caps=>some (.fn f caps,.no)
  | _=>none
 | .mkf f caps=>if (caps.map ρ).all yJ=true then some (.fn f (caps.map ρ),.no) else none
 | .cvt x=>match ρ x with
  | .str s=>some (.str s,.no)
  | _=>none
 | .sidx x i=>match ρ x,ρ i with
  | .str s,.int _ n=>if 0≤n then (match s[n.toNat]? with | some b=>some (.int .u8 b.toNat,.no) | none=>none) else none
  | _,_=>none
 | .mks t st zero l cp=>match ρ l,ρ cp with
  | .int .i64 n,.int .i64 m=>if 0≤n∧n≤m∧m<1073741824∧zero.length=st then some (.ms d st 0 n.toNat,.new d ⟨t,st,List.replicate n.toNat zero,false⟩) else none
  | _,_=>none
 | .snl b x=>res (sk b (ρ x))
 | .call ..=>none
 | .callv ..=>none
def m3:Value→Option AV
 | .bool b=>some (.bool b)
 | .int k n=>some (.int k n)
 | .string s=>some (.str s.data.toList)
 | .slice none 0 0=>some .nl
 | .pointer none=>some .np
 | .nilFunc=>some .nf
 | .map none=>some (.fm [])
 | _=>none
def eM:List Value→Option (List AV)
 | []=>some []
 | v :: r=>match m3 v,eM r with
  | some x,some xs=>some (x :: xs)
  | _,_=>none
def ss:Value→Option AV
 | .agg cs=>(eM cs.toList).map .agg
 | v=>m3 v
def cV:Operand→Option IV
 | .tmp t=>if t<1000000 then some (.s t) else none
 | .const v=>(ss v).map .c
 | .func f=>if f<4000000 then some (.c (.fn f [])) else none
 | .global g=>some (.s (1000000+g))
def yI:List Operand→Option (List IV)
 | []=>some []
 | v :: r=>match cV v,yI r with
  | some x,some xs=>some (x :: xs)
  | _,_=>none
def jr:Option Operand→Option (Option IV)
 | none=>some none
 | some x=>(cV x).map some
def dD (P:Program) (t:TypeId):Option Nat:=(P.info? t).map (·.size)
def jv (P:Program) (t:TypeId):Option (Option Nat) :=
 match P.underlying t,P.info? t with
 | some (.struct _),some i=>some (some i.size)
 | some (.array _ _),some i=>some (some i.size)
 | some _,some _=>some none
 | _,_=>none
def gp (P:Program) (t:TypeId):Option (List AV) :=
 match P.info? t with
 | some i=>match i.zero with
  | some z=>eM z.cells.toList
  | none=>none
 | none=>none
def qj (P:Program) (fs:Array Field):Option (List (Nat×Nat)):=fs.toList.mapM (fun f=>(P.info? f.type).map fun i=>(f.offset,i.size))
def kI (places:List (Nat×Nat)):List (Nat×Operand)→Option (List (Nat×Nat×IV))
 | []=>some []
 | (i,x) :: r=>match places[i]?,cV x,kI places r with
  | some (off,n),some v,some l=>some ((off,n,v) :: l)
  | _,_,_=>none
def m5:List (Nat×Operand)→Option (List (Nat×IV))
 | []=>some []
 | (i,x) :: r=>match cV x,m5 r with
  | some v,some l=>some ((i,v) :: l)
  | _,_=>none
def oc (f:TypeId→Option (List LK)):List Field→Nat→Option (List LK)
 | [],_=>some []
 | fd :: r,off=>if fd.offset=off∧fd.name≠"_" then (match f fd.type with
  | some l=>(match oc f r (off+l.length) with
   | some ls=>some (l++ls)
   | none=>none)
  | none=>none) else none
def jF (P:Program):Nat→TypeId→Option (List LK)
 | 0,_=>none
 | m+1,t=>match P.underlying t with
  | some .bool=>some [.b]
  | some (.int _)=>some [.i]
  | some .string=>some [.s]
  | some (.struct fs)=>if P.stoodInHeld t=true then none else (match oc (jF P m) fs.toList 0 with
   | some ls=>if jv P t=some (some ls.length) then some ls else none
   | none=>none)
  | _=>none
def vw (P:Program) (t:TypeId) (op:BinOp) (x y:IV):Option eV :=
 match P.underlying t with
 | some .bool=>some (.bbin op x y)
 | some (.int _)=>some (.bin op x y)
 | some .string=>some (.bin op x y)
 | some (.pointer _)=>some (.pbin op x y)
 | some (.func _ _ _)=>some (.sbin op [] x y)
 | some (.struct _)=>if P.eqGuardType P.depth t=true then none else (match jF P 20 t with
  | some (l :: ls)=>some (.sbin op (l :: ls) x y)
  | _=>none)
 | some (.slice _)=>match op,y with
  | .eql,.c .nl=>some (.snl false x)
  | .neq,.c .nl=>some (.snl true x)
  | _,_=>none
 | _=>none
def oP (P:Program) (src dst:TypeId) (x:IV):Option eV :=
 match P.underlying src,P.underlying dst with
 | some (.int _),some (.int k)=>some (.cvi k x)
 | some .string,some .string=>some (.cvt x)
 | some (.slice e),some .string=>match P.underlying e with
  | some (.int .u8)=>some (.cvs x)
  | _=>none
 | some .string,some (.slice e)=>match P.underlying e with
  | some (.int .u8)=>some (.cvb e x)
  | _=>none
 | some (.slice _),some (.slice e)=>match src==dst,P.underlying e with
  | true,some (.int .u8)=>some (.cvm x)
  | _,_=>none
 | _,_=>none
def bc (P:Program) (f:FuncId):Bool :=
 match P.funcs[f]? with
 | some fn=>fn.body.isSome&&fn.name != "runtime.NumGoroutine"
 | none=>false
def gK (P:Program) (t:TypeId):Option (TypeId×Nat) :=
 match P.underlying t with
 | some (.slice e)=>match P.info? e,gp P e with
  | some i,some z=>if i.bytes≤512∧1≤i.bytes∧z.length=i.size∧1≤i.size then some (e,i.size) else none
  | _,_=>none
 | _=>none
def IU (P:Program) (t:TypeId):Option KK :=
 match P.underlying t with
 | some (.int _)=>some .i
 | some .string=>some .s
 | some .bool=>some .b
 | _=>none
def uS (P:Program) (t:TypeId):Option AV :=
 match P.info? t with
 | some i=>match i.zero with
  | some (.bool b)=>some (.bool b)
  | some (.int k n)=>some (.int k n)
  | some (.string s)=>some (.str s.data.toList)
  | _=>none
 | none=>none
def md (P:Program) (t:TypeId):Option (KK×AV) :=
 match P.underlying t with
 | some (.map k e)=>match IU P k,uS P e with
  | some kd,some z=>some (kd,z)
  | _,_=>none
 | _=>none
def HO (P:Program) (f:FuncId) (args:List Operand):Option eV :=
 match P.funcs[f]? with
 | some fn=>if fn.body.isNone∧fn.name = "internal/bytealg.IndexByteString"∧(Extern.findNext fn).isNone then (match args with
  | [x,y]=>match cV x,cV y with
   | some x,some y=>some (.sib x y)
   | _,_=>none
  | _=>none) else none
 | none=>none
theorem gM {P:Program} {f:FuncId} {args:List Operand} {op:eV} (h:HO P f args=some op):∃fn x y xv yv,P.funcs[f]? = some fn∧fn.body=none∧fn.name = "internal/bytealg.IndexByteString"∧Extern.findNext fn=none∧args=[x,y]∧cV x=some xv∧cV y=some yv∧op = .sib xv yv:=by
 unfold HO at h
 split at h
 case h_2=>cases h
 rename_i fn hf
 split at h
 case isFalse=>cases h
 rename_i hn
 split at h
 case h_2=>cases h
 rename_i x y
 split at h
 case h_2=>cases h
 rename_i xv yv h1 h2
 cases h
 exact ⟨fn,x,y,xv,yv,hf,by simpa using hn.1,hn.2.1,by simpa using hn.2.2,rfl,h1,h2,rfl⟩
def oN (P:Program) (c:Call):Option eV :=
 match c.callee with
 | .value (.func f)=>if bc P f then (yI c.args.toList).map (.call f) else HO P f c.args.toList
 | .value (.tmp t)=>if t<1000000 then (yI c.args.toList).map (.callv (.s t)) else none
 | .value _=>none
 | .invoke _ _=>none
 | .builtin .len=>match c.argTypes.toList,c.args.toList with
  | [t],[x]=>match P.underlying t with
   | some (.slice _)=>(cV x).map .len
   | some .string=>(cV x).map .slen
   | some (.map _ _)=>(cV x).map fun x=>.mop .mln [x]
   | _=>none
  | _,_=>none
 | .builtin .append=>match c.argTypes.toList,c.args.toList with
  | [t,t'],[x,y]=>match gK P t,P.underlying t',cV x,cV y with
   | some (e,st),some (.slice _),some x,some y=>some (.app e st x y)
   | some (e,st),some .string,some x,some y=>if st=1 then some (.apps e x y) else none
   | _,_,_,_=>none
  | _,_=>none
 | .builtin .min=>match c.args.toList with
  | [x,y]=>match cV x,cV y with
   | some x,some y=>some (.mnx false x y)
   | _,_=>none
  | _=>none
 | .builtin .max=>match c.args.toList with
  | [x,y]=>match cV x,cV y with
   | some x,some y=>some (.mnx true x y)
   | _,_=>none
  | _=>none
 | .builtin .copy=>match c.argTypes.toList,c.args.toList with
  | [t,t'],[x,y]=>match P.underlying t,P.underlying t',cV x,cV y with
   | some (.slice e),some (.slice _),some x,some y=>(dD P e).map fun n=>.cpy n x y
   | _,_,_,_=>none
  | _,_=>none
 | .builtin _=>none
def fW (P:Program):Op→Option eV
 | .move x=>(cV x).map .mov
 | .assign x=>(cV x).map .mov
 | .pick c a b=>match cV c,cV a,cV b with
  | some c,some a,some b=>some (.pick c a b)
  | _,_,_=>none
 | .alloc t=>(gp P t).map (.new t)
 | .box t x=>match dD P t,cV x with
  | some n,some x=>some (.box t n x)
  | _,_=>none
 | .build t parts=>match P.underlying t with
  | some (.struct fs)=>match gp P t,qj P fs with
   | some z,some places=>(kI places parts.toList).map (.build z)
   | _,_=>none
  | some (.array _ e)=>match gp P t,P.info? e with
   | some z,some _=>if parts.toList.isEmpty=true then some (.build z []) else none
   | _,_=>none
  | _=>none
 | .buildSlice t len parts=>match P.underlying t with
  | some (.slice e)=>match gp P e,dD P e,m5 parts.toList with
   | some z,some n,some ps=>if z.length=n∧1≤n∧len * n≤16777216 then some (.bsl e n (List.replicate len z) ps) else none
   | _,_,_=>none
  | _=>none
 | .load t a=>match jv P t,cV a with
  | some n,some a=>some (.load n a)
  | _,_=>none
 | .store t a x=>match dD P t,cV a,cV x with
  | some n,some a,some x=>some (.store n a x)
  | _,_,_=>none
 | .nilCheck x=>(cV x).map .nchk
 | .binOp op t x y _=>match cV x,cV y with
  | some x,some y=>vw P t op x y
  | _,_=>none
 | .unOp op _ x=>(cV x).map (.un op)
 | .convert s d x=>match cV x with
  | some x=>oP P s d x
  | none=>none
 | .makeFunc (.func f) first caps=>if F1 (Qi f first.isEmpty)=f∧DE (Qi f first.isEmpty)=first.size then (yI (first.toList++caps.toList)).map (.mkf (Qi f first.isEmpty)) else none
 | .makeSlice t l c=>match gK P t,cV l,cV c with
  | some (e,st),some l,some c=>(gp P e).map fun z=>.mks e st z l c
  | _,_,_=>none
 | .slice t x lo hi mx=>match P.underlying t,cV x,jr lo,jr hi,jr mx with
  | some (.slice e),some x,some lov,some hiv,some mxv=>if (!mx.isSome||hi.isSome)=true then (dD P e).map fun n=>.slc n x lov hiv mxv else none
  | some .string,some x,some lo,some hi,some none=>some (.sslc x lo hi)
  | _,_,_,_,_=>none
 | .fieldAddr s x f=>match P.underlying s,cV x with
  | some (.struct fs),some x=>match fs[f]? with
   | some fd=>match dD P fd.type with
    | some (_+1)=>some (.fadr fd.offset x)
    | _=>none
   | none=>none
  | _,_=>none
 | .field t x f=>match P.underlying t,cV x with
  | some (.struct fs),some x=>match fs[f]? with
   | some fd=>(jv P fd.type).map fun n=>.fld fd.offset n x
   | none=>none
  | _,_=>none
 | .indexAddr t x i=>match P.underlying t,cV x,cV i with
  | some (.slice e),some x,some i=>(dD P e).map fun n=>.iadr n x i
  | some (.array len e),some x,some i=>(dD P e).map fun n=>.aadr n len x i
  | _,_,_=>none
 | .index t x i=>match P.underlying t,cV x,cV i with
  | some .string,some x,some i=>some (.sidx x i)
  | _,_,_=>none
 | .extract x i=>(cV x).map fun x=>.ext x i
 | .range t x=>match P.underlying t,cV x with
  | some .string,some x=>some (.mop .rng [x])
  | _,_=>none
 | .next it true=>(cV it).map fun x=>.mop .nxt [x]
 | .makeMap _ none=>some (.mop .mkm [])
 | .lookup t m k ok=>match md P t,cV m,cV k with
  | some (kd,z),some m,some k=>some (.mop (.mlk ok kd z) [m,k])
  | _,_,_=>none
 | .mapUpdate t m k x=>match md P t,cV m,cV k,cV x with
  | some (kd,_),some m,some k,some x=>some (.mop (.mup kd) [m,k,x])
  | _,_,_,_=>none
 | .insert t m k x=>match md P t,cV m,cV k,cV x with
  | some (kd,_),some m,some k,some x=>some (.mop (.mup kd) [m,k,x])
  | _,_,_,_=>none
 | .mapEntry t m k=>match md P t,cV m,cV k with
  | some (kd,z),some m,some k=>some (.mop (.mnt kd z) [m,k])
  | _,_,_=>none
 | .entryStore _ m s x=>match cV m,cV s,cV x with
  | some m,some s,some x=>some (.mop .mst [m,s,x])
  | _,_,_=>none
 | .call c=>oN P c
 | _=>none
def jz (P:Program) (n:Nat) (ops:Array Oper) (o:Oper):Option aH :=
 match fW P o.op with
 | some op=>match (match o.dst with | some d=>decide (d<n) | none=>true),o.guard with
  | true,none=>some ⟨o.dst,op,none⟩
  | true,some (j,b)=>match (ops[j]?).bind (·.dst) with
   | some k=>some ⟨o.dst,op,some (k,b)⟩
   | none=>none
  | false,_=>none
 | none=>none
def aP.env (g:Nat→AV):aP→Nat→AV
 | .reb i _=>fun k=>eC i (g k)
 | _=>g
def aP.hp (h:Nat→Option ah):aP→Nat→Option ah
 | .no=>h
 | .put i o=>cI h i (some o)
 | .new i o=>cI h i (some o)
 | .reb i o=>cI (fun j=>(h j).map (cH i)) i (some o)
def aM (P:Program) (c:je) (o:Oper) (a:Act) (w:World) (g:Nat→AV) (h:Nat→Option ah) (x:AV) (e:aP):Prop :=
 ∃r w' bl',((execOp a.eval o).run P w = .ok (.value r) w'∨((execOp a.eval o).run P w = .ok .skip w'∧r=undef)) ∧
  aD c bl' (e.env g) (e.hp h) a w'∧aT bl' (aY bl' c.MF (e.hp h)) w' r x
section
variable {P:Program} {c:je} {bl:Nat→Option Nat} {g:Nat→AV} {h:Nat→Option ah} {a:Act} {w:World} {o:Oper}
theorem aM.pure (s:aD c bl g h a w) {r:Value} {x:AV} (hr:(execOp a.eval o).run P w = .ok (.value r) w) (hv:aT bl (aY bl c.MF h) w r x):aM P c o a w g h x .no :=
 ⟨r,w,bl,.inl hr,s,hv⟩
theorem oO {M:Nat→Prop} {v:Value} {x:AV} (hc:m3 v=some x):IRel M w v x:=by
 unfold m3 at hc
 split at hc<;>try cases hc
 ·exact .bool _
 ·exact .int _ _
 ·rename_i s;exact .str s.data.toList
 ·exact .nl
 ·exact .np
 ·exact .nf
 ·exact .nm
theorem jN {M:Nat→Prop}:∀{vs:List Value} {xs:List AV},eM vs=some xs→aK (IRel M w) vs xs
 | [],xs,hc=>by simp only [eM,bO] at hc;subst hc;trivial
 | v :: r,xs,hc=>by
  simp only [eM] at hc
  split at hc
  ·rename_i x ys h1 h2
   simp only [bO] at hc
   subst hc
   exact ⟨oO h1,jN h2⟩
  ·cases hc
theorem su {M:Nat→Prop} {v:Value} {x:AV} (hc:ss v=some x):aT bl M w v x:=by
 unfold ss at hc
 split at hc
 ·rename_i cs
  simp only [cq] at hc
  obtain ⟨xs,h1,rfl⟩:=hc
  exact ⟨cs.toList,by simp,(jN h1).mono fun _ _ _ hr=>IRel.toC hr⟩
 ·exact (IRel.toC (oO hc)).toV
theorem aJ (s:aD c bl g h a w) {x:Operand} {v:IV} (hc:cV x=some v):aT bl (aY bl c.MF h) w (a.eval x) (val g v):=by
 cases x with
 | tmp t =>
  simp only [cV] at hc
  split at hc
  case isFalse=>cases hc
  rename_i ht
  cases hc
  have:=s.env t
  rw [rS ht] at this
  exact this
 | const u =>
  simp only [cV,cq] at hc
  obtain ⟨y,h1,rfl⟩:=hc
  exact su h1
 | func f =>
  simp only [cV] at hc
  split at hc
  case isFalse=>cases hc
  rename_i ht
  cases hc
  exact ⟨[],by simp [Act.eval,F1,DE,ht],trivial⟩
 | global k =>
  simp only [cV,bO] at hc
  subst hc
  have:=s.env (1000000+k)
  have e:tv a (1000000+k) = .pointer (some ⟨k,0,none⟩):=by
   unfold tv
   rw [aV (by omega),show 1000000+k - 1000000=k by omega]
  rw [e] at this
  exact this
theorem aT.int {M:Nat→Prop} {v:Value} {k:IntKind} {n:Int} (hv:aT bl M w v (.int k n)):v = .int k n:=by
 simp only [aT,cZ,bA,cL] at hv;cases hv;rfl
theorem aT.bool {M:Nat→Prop} {v:Value} {b:Bool} (hv:aT bl M w v (.bool b)):v = .bool b:=by
 simp only [aT,cZ,bA,cL] at hv;cases hv;rfl
theorem aT.str {M:Nat→Prop} {v:Value} {s:List UInt8} (hv:aT bl M w v (.str s)):v = .string ⟨s.toArray⟩:=by
 simp only [aT,cZ,bA,cL] at hv;cases hv;rfl
theorem aT.np {M:Nat→Prop} {v:Value} (hv:aT bl M w v .np):v = .pointer none:=by
 simp only [aT,cZ,bA,cL] at hv;cases hv;rfl
theorem aT.nl {M:Nat→Prop} {v:Value} (hv:aT bl M w v .nl):v = .slice none 0 0:=by
 simp only [aT,cZ,bA,cL] at hv;cases hv;rfl
theorem aT.mp {M:Nat→Prop} {v:Value} {id st row off:Nat} (hv:aT bl M w v (.mp id st row off)):∃b,bl id=some b∧v = .pointer (some ⟨b,row * st+off,none⟩):=hv
theorem aT.ip {M:Nat→Prop} {v:Value} {cells:List AV} (hv:aT bl M w v (.ip cells)):IRel M w v (.ip cells):=hv
theorem aT.sl {M:Nat→Prop} {v:Value} {st:Nat} {rows:List (List AV)} (hv:aT bl M w v (.sl st rows)):IRel M w v (.sl st rows):=hv
theorem i6 {M:Nat→Prop} (k:IntKind) (n:Int):aT bl M w (.int k n) (.int k n):=IRel.int k n
theorem f7 {M:Nat→Prop} (b:Bool):aT bl M w (.bool b) (.bool b):=IRel.bool b
theorem Fb {M:Nat→Prop} (s:List UInt8):aT bl M w (.string ⟨s.toArray⟩) (.str s):=IRel.str s
theorem Bm (s:aD c bl g h a w) {x:Operand} {v:IV} (ho:o.op = .move x∨o.op = .assign x) (hc:cV x=some v):aM P c o a w g h (val g v) .no:=by
 refine aM.pure s (r:=a.eval x) ?_ (aJ s hc)
 rcases ho with ho | ho<;>simp [execOp,ho]
theorem EZ (s:aD c bl g h a w) {x y z:Operand} {xv yv zv:IV} (ho:o.op = .pick x y z) (hx:cV x=some xv) (hy:cV y=some yv) (hz:cV z=some zv)
  {v:AV} {e:aP} (he:bh 0 (.pick xv yv zv) (val g) h=some (v,e)):aM P c o a w g h v e:=by
 have h1:=aJ s hx
 simp only [bh] at he
 split at he<;>try cases he
 ·rename_i hb
  rw [hb] at h1
  exact aM.pure s (r:=a.eval y) (by simp [execOp,ho,h1.bool,asBool]) (aJ s hy)
 ·rename_i hb
  rw [hb] at h1
  exact aM.pure s (r:=a.eval z) (by simp [execOp,ho,h1.bool,asBool]) (aJ s hz)
theorem ok_len (s:aD c bl g h a w) {t e:TypeId} {cl:Call} {x:Operand} {xv:IV} (ho:o.op = .call cl) (hcl:cl.callee = .builtin .len) (hat:cl.argTypes = #[t]) (har:cl.args = #[x])
  (ht:P.underlying t=some (.slice e)) (hx:cV x=some xv) {v:AV} (he:si (val g xv)=some v):aM P c o a w g h v .no:=by
 have h1:=aJ s hx
 have key:∀(ad:Option Addr) (n cap:Nat),a.eval x = .slice ad n cap→v = .int .i64 n→aM P c o a w g h v .no:=fun ad n cap hv hvv=>by
  subst hvv
  exact aM.pure s (r:=.int .i64 n) (by simp [execOp,ho,resolve,hcl,har,hat,invoke,builtin,Builtin.len_,underlying,ht,hv,goInt]) (i6 _ _)
 cases hval:val g xv<;>rw [hval] at he h1<;>simp only [si,bO] at he<;>try cases he
 case nl=>exact key none 0 0 h1.nl rfl
 case sl st0 rows =>
  generalize a.eval x=u at h1 key
  have h2:=h1.sl
  cases h2 with
  | nls st=>exact key none 0 0 rfl rfl
  | sl0 st ad cap=>exact key (some ad) 0 cap rfl rfl
  | sl b off cap st c1 t1 fr rows vs hb hM hl hr hv hx=>exact key _ _ _ rfl rfl
 case ms id st off len =>
  rcases h1 with ⟨h2,h3,h4⟩ | ⟨h2,h3,ad,cap,h4⟩ | ⟨b,cap,c1,t1,fr,h2,h3,h4⟩
  ·exact key none 0 0 h2 (by rw [h4])
  ·exact key _ 0 cap h4 (by rw [h2])
  ·exact key _ _ _ h3 rfl
theorem E2 (s:aD c bl g h a w) {t:TypeId} {cl:Call} {x:Operand} {xv:IV} (ho:o.op = .call cl) (hcl:cl.callee = .builtin .len) (hat:cl.argTypes = #[t]) (har:cl.args = #[x])
  (ht:P.underlying t=some .string) (hx:cV x=some xv) {v:AV} (he:qP (val g xv)=some v):aM P c o a w g h v .no:=by
 have h1:=aJ s hx
 cases hval:val g xv<;>rw [hval] at he h1<;>simp only [qP,bO] at he<;>try cases he
 case str st =>
  have hv:=h1.str
  refine aM.pure s (r:=.int .i64 st.length) ?_ (i6 _ _)
  simp [execOp,ho,resolve,hcl,har,hat,invoke,builtin,Builtin.len_,underlying,ht,hv,goInt]
  rfl
theorem M1 (s:aD c bl g h a w) {t:TypeId} {op:UnOp} {x:Operand} {xv:IV} (ho:o.op = .unOp op t x) (hx:cV x=some xv) {v:AV} (he:Kt op (val g xv)=some v):aM P c o a w g h v .no:=by
 have h1:=aJ s hx
 cases hval:val g xv<;>rw [hval] at he h1<;>cases op<;>simp only [Kt,tR,dM,bO] at he<;>try cases he
 ·exact aM.pure s (r:=.bool _) (by simp [execOp,ho,h1.bool,Op.unary]) (f7 _)
 ·exact aM.pure s (r:=.int _ _) (by simp [execOp,ho,h1.int,Op.unary,Op.intArith]) (i6 _ _)
 ·exact aM.pure s (r:=.int _ _) (by simp [execOp,ho,h1.int,Op.unary,Op.intBits]) (i6 _ _)
theorem Jy (s:aD c bl g h a w) {sr ds:TypeId} {k k':IntKind} {x:Operand} {xv:IV} (ho:o.op = .convert sr ds x) (h2:P.underlying sr=some (.int k')) (h3:P.underlying ds=some (.int k)) (hx:cV x=some xv)
  {n:Int} {kk:IntKind} (he:val g xv = .int kk n):aM P c o a w g h (.int k (k.wrap n)) .no:=by
 have h1:=aJ s hx
 rw [he] at h1
 exact aM.pure s (r:=.int k (k.wrap n)) (by simp [execOp,ho,h1.int,convert,underlying,h2,h3,Conv.intToInt]) (i6 _ _)
theorem ES (s:aD c bl g h a w) {sr ds:TypeId} {x:Operand} {xv:IV} (ho:o.op = .convert sr ds x) (h2:P.underlying sr=some .string) (h3:P.underlying ds=some .string) (hx:cV x=some xv)
  {st:List UInt8} (he:val g xv = .str st):aM P c o a w g h (val g xv) .no:=by
 have h1:=aJ s hx
 rw [he] at h1 ⊢
 exact aM.pure s (r:=.string ⟨st.toArray⟩) (by simp [execOp,ho,h1.str,convert,underlying,h2,h3]) (Fb _)
theorem JB (s:aD c bl g h a w) {x:Operand} {i:Nat} {xv:IV} (ho:o.op = .extract x i) (hx:cV x=some xv) {vs:List AV} {v:AV} (he:val g xv = .tup vs) (hi:vs[i]? = some v):aM P c o a w g h v .no:=by
 have h1:=aJ s hx
 rw [he] at h1
 obtain ⟨cs,h2,h3⟩:=h1
 obtain ⟨u,hu,hr⟩:=h3.get hi
 exact aM.pure s (r:=u) (by simp [execOp,ho,h2,Instr.extract,hu]) hr.toV
theorem qa (s:aD c bl g h a w) {x:Operand} {xv:IV} (ho:o.op = .nilCheck x) (hx:cV x=some xv)
  (he:(∃id st row off,val g xv = .mp id st row off)∨(∃cells,val g xv = .ip cells)∨∃f caps,val g xv = .fn f caps):aM P c o a w g h (val g xv) .no:=by
 have h1:=aJ s hx
 refine aM.pure s (r:=a.eval x) ?_ h1
 rcases he with ⟨id,st,row,off,he⟩ | ⟨cells,he⟩ | ⟨f,caps,he⟩<;>rw [he] at h1
 ·obtain ⟨b,_,h2⟩:=h1.mp
  simp [execOp,ho,h2]
 ·generalize hu:a.eval x=u at h1 ⊢
  have h2:=h1.ip
  cases h2
  simp [execOp,ho,hu]
 ·obtain ⟨cs,h2,_⟩:=h1
  simp [execOp,ho,h2]
theorem E1 (s:aD c bl g h a w) {t:TypeId} {x i:Operand} {xv iv:IV} (ho:o.op = .index t x i) (ht:P.underlying t=some .string) (hx:cV x=some xv) (hi:cV i=some iv)
  {st:List UInt8} {k:IntKind} {n:Int} {b:UInt8} (he:val g xv = .str st) (hi':val g iv = .int k n) (h0:0≤n) (hb:st[n.toNat]? = some b):aM P c o a w g h (.int .u8 b.toNat) .no:=by
 have h1:=aJ s hx
 have h2:=aJ s hi
 rw [he] at h1
 rw [hi'] at h2
 refine aM.pure s (r:=.int .u8 b.toNat) ?_ (i6 _ _)
 have hb':(ByteArray.mk st.toArray)[n.toNat]? = some b:=by
  obtain ⟨hlt,hb⟩:=dL.1 hb
  have hs:n.toNat<(ByteArray.mk st.toArray).size:=by simpa [ByteArray.size] using hlt
  rw [getElem?_pos (ByteArray.mk st.toArray) n.toNat hs]
  simp [ByteArray.getElem_eq_getElem_data,hb]
 simp [execOp,ho,h1.str,h2.int,Instr.index,asIntOf,underlying,ht,h0,hb']
theorem pI (s:aD c bl g h a w):∀{cs:List Operand} {vs:List IV},yI cs=some vs→aK (aT bl (aY bl c.MF h) w) (cs.map a.eval) (vs.map (val g))
 | [],vs,hc=>by simp only [yI,bO] at hc;subst hc;trivial
 | x :: r,vs,hc=>by
  simp only [yI] at hc
  split at hc
  ·rename_i v vs' h1 h2
   simp only [bO] at hc
   subst hc
   exact ⟨aJ s h1,pI s h2⟩
  ·cases hc
theorem Bi (s:aD c bl g h a w) {t t':TypeId} {op:BinOp} {x y:Operand} {xv yv:IV} (ho:o.op = .binOp op t x y t') (hx:cV x=some xv) (hy:cV y=some yv)
  {v:AV} (he:eG op (val g xv) (val g yv)=some v):aM P c o a w g h v .no:=by
 have h1:=aJ s hx
 have h2:=aJ s hy
 unfold eG at he
 split at he
 ·rename_i k p k2 q e1 e2
  rw [e1] at h1;rw [e2] at h2
  split at he
  ·cases he
  ·rename_i hq
   cases he
   exact aM.pure s (r:=.int k (k.wrap (p * 2 ^ (min q.toNat k.bits)))) (by simp [execOp,ho,h1.int,h2.int,eqGuard,binOp,Op.shift,hq]) (i6 _ _)
 ·rename_i k p k2 q e1 e2
  rw [e1] at h1;rw [e2] at h2
  split at he
  ·cases he
  ·rename_i hq
   cases he
   exact aM.pure s (r:=.int k (p.fdiv (2 ^ (min q.toNat k.bits)))) (by simp [execOp,ho,h1.int,h2.int,eqGuard,binOp,Op.shift,hq]) (i6 _ _)
 ·rename_i opx opy X Y k p k2 q n1 n2 e1 e2
  rw [e1] at h1;rw [e2] at h2
  split at he
  case isFalse=>cases he
  rename_i hk
  subst hk
  cases opx<;>simp only [KH,tR,dM,Option.map_none,bO] at he<;>try cases he
  case quo =>
   split at he
   ·cases he
   ·rename_i hq
    cases he
    exact aM.pure s (r:=.int k _) (by simp [execOp,ho,h1.int,h2.int,eqGuard,binOp,Op.intDiv,hq]) (i6 _ _)
  case rem =>
   split at he
   ·cases he
   ·rename_i hq
    cases he
    exact aM.pure s (r:=.int k _) (by simp [execOp,ho,h1.int,h2.int,eqGuard,binOp,Op.intDiv,hq]) (i6 _ _)
  all_goals first
   | refine aM.pure s (r:=.int k _) ?_ (i6 _ _)
   | refine aM.pure s (r:=.bool _) ?_ (f7 _)
  all_goals first
   | (simp [execOp,ho,h1.int,h2.int,eqGuard,binOp,Op.intArith];done)
   | (simp [execOp,ho,h1.int,h2.int,eqGuard,binOp,Op.intBits];done)
   | (simp [execOp,ho,h1.int,h2.int,eqGuard,binOp,Op.intCmp];done)
   | (simp only [execOp,ho,h1.int,h2.int,eqGuard,binOp];simp only [ne_eq,not_true_eq_false,j8];rfl)
 ·rename_i opx opy X Y p q e1 e2
  rw [e1] at h1;rw [e2] at h2
  have hl:∀u:List UInt8,(ByteArray.mk u.toArray).toList=u:=fun u=>by simp
  cases opx<;>simp only [KI,bO] at he<;>try cases he
  case add =>
   split at he
   case isFalse=>cases he
   rename_i hlen
   cases he
   refine aM.pure s (r:=.string ⟨(p++q).toArray⟩) ?_ (Fb _)
   have hs:¬(((ByteArray.mk p.toArray).size+(ByteArray.mk q.toArray).size:Nat):Int)>IntKind.i64.max:=by
    simp [ByteArray.size,IntKind.max,IntKind.signed,IntKind.bits];omega
   have hs':¬((((ByteArray.mk p.toArray).size:Nat):Int)+((ByteArray.mk q.toArray).size:Nat)>IntKind.i64.max):=by
    simp [ByteArray.size,IntKind.max,IntKind.signed,IntKind.bits];omega
   have happ:(ByteArray.mk p.toArray)++(ByteArray.mk q.toArray)=ByteArray.mk (p++q).toArray:=by
    apply ByteArray.ext;simp
   simp only [execOp,ho,h1.str,h2.str,eqGuard,binOp,Op.stringOp,hs,happ,j8];simp
  all_goals exact aM.pure s (r:=.bool _) (by simp only [execOp,ho,h1.str,h2.str,eqGuard,binOp,Op.stringOp,hl];simp) (f7 _)
 ·cases he
theorem i_ {t:TypeId} (ht:P.underlying t=some .bool) (p q:Bool):(Op.equal t (.bool p) (.bool q)).run P w = .ok (p==q) w:=by
 have h1:(Op.equalIn (9999+1) t (.bool p) (.bool q)).run P w = .ok (p==q) w:=by unfold Op.equalIn;simp [underlying,ht]
 exact h1
theorem jD {t e:TypeId} (ht:P.underlying t=some (.pointer e)) (ad:Option Addr):(Op.equal t (.pointer ad) (.pointer none)).run P w = .ok ad.isNone w:=by
 have h1:(Op.equalIn (9999+1) t (.pointer ad) (.pointer none)).run P w = .ok ad.isNone w:=by cases ad<;>(unfold Op.equalIn;simp [underlying,ht])
 exact h1
theorem ER (s:aD c bl g h a w) {t t':TypeId} {op:BinOp} {x y:Operand} {xv yv:IV} (ho:o.op = .binOp op t x y t') (ht:P.underlying t=some .bool) (hx:cV x=some xv) (hy:cV y=some yv)
  {v:AV} (he:oK op (val g xv) (val g yv)=some v):aM P c o a w g h v .no:=by
 have h1:=aJ s hx
 have h2:=aJ s hy
 unfold oK at he
 split at he
 ·rename_i p q e1 e2
  rw [e1] at h1;rw [e2] at h2
  cases he
  exact aM.pure s (r:=.bool _) (by simp [execOp,ho,h1.bool,h2.bool,eqGuard,binOp,i_ ht]) (f7 _)
 ·rename_i p q e1 e2
  rw [e1] at h1;rw [e2] at h2
  cases he
  exact aM.pure s (r:=.bool _) (by simp [execOp,ho,h1.bool,h2.bool,eqGuard,binOp,i_ ht]) (f7 _)
 ·cases he
theorem EY (s:aD c bl g h a w) {t t' e:TypeId} {op:BinOp} {x y:Operand} {xv yv:IV} (ho:o.op = .binOp op t x y t') (ht:P.underlying t=some (.pointer e)) (hx:cV x=some xv) (hy:cV y=some yv)
  {v:AV} (he:jy op (val g xv) (val g yv)=some v):aM P c o a w g h v .no:=by
 have h1:=aJ s hx
 have h2:=aJ s hy
 have hp:∀b,Al (val g xv)=some b→∃ad:Option Addr,a.eval x = .pointer ad∧ad.isNone=b:=fun b hb=>by
  cases hval:val g xv<;>rw [hval] at hb h1<;>simp only [Al,bO] at hb<;>try cases hb
  case ip cells =>
   generalize a.eval x=u at h1
   have h3:=h1.ip
   cases h3
   exact ⟨_,rfl,rfl⟩
  case np=>exact ⟨none,h1.np,rfl⟩
  case mp=>obtain ⟨b,_,h3⟩:=h1.mp;exact ⟨_,h3,rfl⟩
 unfold jy at he
 split at he
 ·rename_i b e1 e2
  rw [e2] at h2
  obtain ⟨ad,h3,h4⟩:=hp b e1
  cases he
  subst h4
  exact aM.pure s (r:=.bool _) (by simp only [execOp,ho,h3,h2.np,eqGuard,binOp];simp [jD ht]) (f7 _)
 ·rename_i b e1 e2
  rw [e2] at h2
  obtain ⟨ad,h3,h4⟩:=hp b e1
  cases he
  subst h4
  exact aM.pure s (r:=.bool _) (by simp only [execOp,ho,h3,h2.np,eqGuard,binOp];simp [jD ht]) (f7 _)
 ·cases he
theorem uM {t e:TypeId} {op:BinOp} {b:Bool} {x y:Operand} {t':TypeId} {ad:Option Addr} {n cap:Nat} (ho:o.op = .binOp op t x y t') (ht:P.underlying t=some (.slice e)) (hop:(op = .eql∧b=false)∨(op = .neq∧b=true))
  (hx:a.eval x = .slice ad n cap) (hy:a.eval y = .slice none 0 0):(execOp a.eval o).run P w = .ok (.value (.bool (if ad.isNone then !b else b))) w:=by
 have h1:(Op.equal t (.slice ad n cap) (.slice none 0 0)).run P w = .ok ad.isNone w:=by
  have h:∀d:Nat,(Op.equalIn (d+1) t (.slice ad n cap) (.slice none 0 0)).run P w = .ok ad.isNone w:=fun d=>by
   cases ad<;>simp [Op.equalIn,run_underlying ht]
  exact h 9999
 rcases hop with ⟨rfl,rfl⟩ | ⟨rfl,rfl⟩<;>cases ad<;>simp [execOp,ho,hx,hy,eqGuard,binOp] at h1 ⊢ <;> simp [h1]
theorem sZ (s:aD c bl g h a w) {t t' e:TypeId} {op:BinOp} {b:Bool} {x y:Operand} {xv:IV} (ho:o.op = .binOp op t x y t') (ht:P.underlying t=some (.slice e)) (hop:(op = .eql∧b=false)∨(op = .neq∧b=true))
  (hx:cV x=some xv) (hy:cV y=some (.c .nl)) {v:AV} (he:sk b (val g xv)=some v):aM P c o a w g h v .no:=by
 have h1:=aJ s hx
 have h2:a.eval y = .slice none 0 0:=(aJ s hy).nl
 have hp:∀{ad n cap},a.eval x = .slice ad n cap→v = .bool (if ad.isNone then !b else b)→aM P c o a w g h v .no:=fun {ad n cap} h3 h4=>by
  subst h4
  exact aM.pure s (r:=.bool _) (uM ho ht hop h3 h2) (f7 _)
 unfold sk at he
 split at he
 ·rename_i e1
  cases he
  rw [e1] at h1
  exact hp h1.nl rfl
 ·rename_i st r rows e1
  cases he
  rw [e1] at h1
  generalize hu:a.eval x=u at h1
  have h3:=h1.sl
  cases h3
  exact hp hu rfl
 ·rename_i id st off len e1
  cases he
  rw [e1] at h1
  obtain ⟨_,_,h3⟩ | ⟨h3,_⟩ | ⟨b',cap,c1,t1,fr,_,h3,_⟩:=h1
  ·cases h3
  ·cases h3
  ·exact hp h3 rfl
 ·cases he
end
theorem fc (b off n:Nat):(⟨b,off,none⟩:Addr).add n =⟨b,off+n,none⟩:=by unfold Addr.add;split<;>simp_all
theorem dm {w:World} {b:Nat} {c:Array Value} {t:TypeId} {fr:Nat×Nat} (hb:w.heap[b]? = some (.cells c t fr)) (off:Nat):w.cell? ⟨b,off,none⟩=c[off]?:=by
 simp [World.cell?,hb]
def cX (bl:Nat→Option Nat) (M:Nat→Prop) (w:World) (b off:Nat) (cells:List AV):Prop :=
 ∃c t fr,w.heap[b]? = some (.cells c t fr)∧∀(j:Nat) (x:AV),cells[j]? = some x→∃v,c[off+j]? = some v∧bA bl M w v x
section
variable {P:Program} {c:je} {bl:Nat→Option Nat} {g:Nat→AV} {h:Nat→Option ah} {a:Act} {w:World} {o:Oper} {M:Nat→Prop}
theorem cX.drop {b off:Nat} {cells:List AV} (hc:cX bl M w b off cells) (n:Nat):cX bl M w b (off+n) (cells.drop n):=by
 obtain ⟨c1,t,fr,h1,h2⟩:=hc
 refine ⟨c1,t,fr,h1,fun j x hx=>?_⟩
 rw [List.getElem?_drop] at hx
 obtain ⟨v,h3,h4⟩:=h2 _ _ hx
 exact ⟨v,by rw [← h3];congr 1;omega,h4⟩
theorem cX.vals {b off:Nat} {cells:List AV} (hc:cX bl M w b off cells):∃vs:List Value,aK (bA bl M w) vs cells∧∀(j:Nat) (v:Value),vs[j]? = some v→w.cell? ⟨b,off+j,none⟩=some v:=by
 obtain ⟨c1,t,fr,h1,h2⟩:=hc
 have key:∀(cells:List AV) (off:Nat),(∀(j:Nat) (x:AV),cells[j]? = some x→∃v,c1[off+j]? = some v∧bA bl M w v x) →
   ∃vs:List Value,aK (bA bl M w) vs cells∧∀(j:Nat) (v:Value),vs[j]? = some v→c1[off+j]? = some v:=by
  intro cells
  induction cells with
  | nil=>intro off _;exact ⟨[],trivial,fun j v hv=>by simp at hv⟩
  | cons x r ih =>
   intro off hx
   obtain ⟨v,hv1,hv2⟩:=hx 0 x (by simp)
   obtain ⟨vs,h3,h4⟩:=ih (off+1) (fun j y hy=>by
    obtain ⟨u,hu1,hu2⟩:=hx (j+1) y (by simpa using hy)
    exact ⟨u,by rw [← hu1];congr 1;omega,hu2⟩)
   refine ⟨v :: vs,⟨hv2,h3⟩,fun j u hu=>?_⟩
   cases j with
   | zero=>simp at hu;subst hu;simpa using hv1
   | succ j =>
    simp at hu
    rw [← h4 j u hu]
    congr 1
    omega
 obtain ⟨vs,h3,h4⟩:=key cells off h2
 exact ⟨vs,h3,fun j v hv=>by rw [dm h1];exact h4 j v hv⟩
theorem cX.of_ip {v:Value} {cells:List AV} (hv:aT bl M w v (.ip cells)):∃b off,v = .pointer (some ⟨b,off,none⟩)∧cX bl M w b off cells:=by
 have h1:=hv.ip
 cases h1 with
 | ip b off c1 t fr cells vs hb hM hv hx =>
  refine ⟨b,off,rfl,c1,t,fr,hb,fun j x hj=>⟨vs j,hv j (dL.1 hj).1,IRel.toC (hx j x hj)⟩⟩
theorem cX.of_obj (s:aD c bl g h a w) {id b:Nat} {ob:ah} {row:Nat} {r:List AV} (hi:h id=some ob) (hb:bl id=some b) (hr:ob.rows[row]? = some r):cX bl (aY bl c.MF h) w b (row * ob.st) r:=by
 rcases s.heap.1 id ob hi with hn | ⟨b',h1,⟨_,c1,fr,h2,h3,h4,h5,h6,h7⟩ | hsp⟩
 ·rw [hn.2.2] at hb;cases hb
 rotate_left
 ·exact (hsp.no hr).elim
 ·rw [hb] at h1
  cases h1
  refine ⟨c1,ob.t,fr,h2,fun j x hx=>?_⟩
  obtain ⟨v,hv1,hv2⟩:=h7 row j r x hr hx
  refine ⟨v,hv1,?_⟩
  cases hrec:ob.isRec<;>simp only [hrec,e_] at hv2
  ·exact IRel.toC hv2
  ·exact hv2
theorem rR {t:TypeId} {n:Option Nat} (ht:jv P t=some n):(isAgg t).run P w = .ok n.isSome w∧∀m,n=some m→(sizeOf t).run P w = .ok m w:=by
 unfold jv at ht
 split at ht<;>(try cases ht)
 ·rename_i fs i h1 h2
  exact ⟨by simp [isAgg,underlying,h1],fun m hm=>by cases hm;simp [sizeOf,typeInfo,h2]⟩
 ·rename_i k e i h1 h2
  exact ⟨by simp [isAgg,underlying,h1],fun m hm=>by cases hm;simp [sizeOf,typeInfo,h2]⟩
 ·rename_i d i h1 h2 n1 n2
  refine ⟨?_,fun m hm=>by cases hm⟩
  simp only [isAgg,underlying]
  simp only [Sem.run_bind,run_program,Result.andThen_ok,n2]
  cases d<;>simp_all
theorem gn {t:TypeId} {n:Option Nat} (ht:jv P t=some n) {b off:Nat} {cells:List AV} (hc:cX bl M w b off cells) {x:AV} (hx:gd n cells=some x) :
  ∃r,(loadVar t ⟨b,off,none⟩).run P w = .ok r w∧cZ bl M w r x:=by
 obtain ⟨h1,h2⟩:=rR (w:=w) ht
 cases n with
 | none =>
  simp only [gd] at hx
  obtain ⟨c1,t1,fr,h3,h4⟩:=hc
  obtain ⟨v,hv1,hv2⟩:=h4 0 x hx
  refine ⟨v,?_,hv2.toG⟩
  simp only [loadVar,Sem.run_bind,h1,Result.andThen_ok]
  simp [dm h3,show c1[off]? = some v by simpa using hv1]
 | some m =>
  simp only [gd] at hx
  split at hx
  case isFalse=>cases hx
  rename_i hm
  cases hx
  obtain ⟨vs,h3,h4⟩:=hc.vals
  have hl:vs.length=cells.length:=h3.length
  refine ⟨.agg (vs.take m).toArray,?_,vs.take m,rfl,h3.take m⟩
  have hld:=run_loadCells_list (P:=P) (w:=w) ⟨b,off,none⟩ (vs.take m) (fun j v hv=>by
   rw [fc]
   exact h4 j v (by rw [List.getElem?_take] at hv;split at hv<;>first | exact hv | cases hv))
  rw [r8,hl,Nat.min_eq_left hm] at hld
  simp only [loadVar,Sem.run_bind,h1,Result.andThen_ok,h2 m rfl]
  simp [h2 m rfl,hld]
theorem EW (s:aD c bl g h a w) {t:TypeId} {n:Option Nat} {p:Operand} {pv:IV} (ho:o.op = .load t p) (ht:jv P t=some n) (hp:cV p=some pv)
  {x:AV} (he:fJ n (val g pv) h=some x):aM P c o a w g h x .no:=by
 have h1:=aJ s hp
 have fin:∀{b off:Nat} {cells:List AV},a.eval p = .pointer (some ⟨b,off,none⟩)→cX bl (aY bl c.MF h) w b off cells→gd n cells=some x→aM P c o a w g h x .no:=fun hv hc hx=>by
  obtain ⟨r,h2,h3⟩:=gn ht hc hx
  exact aM.pure s (r:=r) (by simp [execOp,ho,hv,Instr.loadAt,Instr.sureAddr,h2]) h3.toV
 cases hval:val g pv<;>rw [hval] at he h1<;>simp only [fJ] at he<;>try cases he
 case ip cells =>
  obtain ⟨b,off,h2,h3⟩:=cX.of_ip h1
  exact fin h2 h3 he
 case mp id st row off =>
  split at he
  case h_2=>cases he
  rename_i ob hob
  split at he
  case isFalse=>cases he
  rename_i hst
  split at he
  case h_2=>cases he
  rename_i r hr
  obtain ⟨b,hb,h2⟩:=h1.mp
  rw [← hst] at h2
  exact fin h2 ((cX.of_obj s hob hb hr).drop off) he
theorem ET (s:aD c bl g h a w) {t:TypeId} {f k n:Nat} {fs:Array Field} {fd:Field} {p:Operand} {pv:IV} (ho:o.op = .fieldAddr t p f) (ht:P.underlying t=some (.struct fs)) (hf:fs[f]? = some fd)
  (hn:dD P fd.type=some (n+1)) (hk:fd.offset=k) (hp:cV p=some pv) {x:AV} (he:oL k (val g pv)=some x):aM P c o a w g h x .no:=by
 have h1:=aJ s hp
 have hrun:∀{b off:Nat},a.eval p = .pointer (some ⟨b,off,none⟩)→(execOp a.eval o).run P w = .ok (.value (.pointer (some ⟨b,off+k,none⟩))) w:=fun {b off} hv=>by
  unfold dD at hn
  simp only [cq] at hn
  obtain ⟨i,hi1,hi2⟩:=hn
  simp [execOp,ho,hv,Instr.fieldAt,underlying,ht,hf,Instr.sureAddr,fieldPlace,sizeOf,typeInfo,hi1,hi2,fc,hk]
 cases hval:val g pv<;>rw [hval] at he h1<;>simp only [oL,bO] at he<;>try cases he
 case ip cells =>
  generalize hu:a.eval p=u at h1
  have h2:=h1.ip
  cases h2 with
  | ip b off c1 t fr cells vs hb hM hv hx =>
   refine aM.pure s (hrun hu) ?_
   refine IRel.ip b (off+k) c1 t fr (cells.drop k) (fun j=>vs (k+j)) hb hM (fun j hj=>?_) (fun j x hx'=>?_)
   ·rw [← hv (k+j) (by simp at hj;omega)];congr 1;omega
   ·rw [List.getElem?_drop] at hx';exact hx _ _ hx'
 case mp id st row off =>
  obtain ⟨b,hb,h2⟩:=h1.mp
  exact aM.pure s (hrun h2) ⟨b,hb,by congr 3;omega⟩
theorem ga {t:TypeId} {n:Option Nat} (ht:jv P t=some n) {cs:List Value} {cells:List AV} (hc:aK (bA bl M w) cs cells) {off:Nat} {x:AV} (hx:gd n (cells.drop off)=some x) :
  ∃r,(part t cs.toArray off).run P w = .ok r w∧cZ bl M w r x:=by
 obtain ⟨h1,h2⟩:=rR (w:=w) ht
 cases n with
 | none =>
  simp only [gd,List.getElem?_drop,Nat.add_zero] at hx
  obtain ⟨v,hv1,hv2⟩:=hc.get hx
  refine ⟨v,?_,hv2.toG⟩
  simp only [part,Sem.run_bind,h1,Result.andThen_ok]
  simp [hv1]
 | some m =>
  simp only [gd] at hx
  split at hx
  case isFalse=>cases hx
  rename_i hm
  cases hx
  refine ⟨.agg ((cs.drop off).take m).toArray,?_,(cs.drop off).take m,rfl,(hc.drop off).take m⟩
  simp only [part,Sem.run_bind,h1,Result.andThen_ok]
  simp only [Option.isSome_some,fv,Sem.run_bind,h2 m rfl,Result.andThen_ok,Sem.run_pure]
  congr 2
  simp [List.extract_toArray,List.extract_eq_take_drop]
theorem JC (s:aD c bl g h a w) {t:TypeId} {f k:Nat} {n:Option Nat} {fs:Array Field} {fd:Field} {p:Operand} {pv:IV} (ho:o.op = .field t p f) (ht:P.underlying t=some (.struct fs)) (hf:fs[f]? = some fd)
  (hn:jv P fd.type=some n) (hk:fd.offset=k) (hp:cV p=some pv) {x:AV} (he:xW k n (val g pv)=some x):aM P c o a w g h x .no:=by
 have h1:=aJ s hp
 cases hval:val g pv<;>rw [hval] at he h1<;>simp only [xW] at he<;>try cases he
 case agg cells =>
  obtain ⟨cs,h2,h3⟩:=h1
  obtain ⟨r,h4,h5⟩:=ga hn h3 he
  exact aM.pure s (r:=r) (by simp [execOp,ho,h2,Instr.field,underlying,ht,hf,asAgg,hk,h4]) h5.toV
theorem EV (s:aD c bl g h a w) {t e:TypeId} {n:Nat} {x i:Operand} {xv iv:IV} (ho:o.op = .indexAddr t x i) (ht:P.underlying t=some (.slice e)) (hn:dD P e=some n) (hx:cV x=some xv) (hi:cV i=some iv)
  {v:AV} (he:lM n (val g xv) (val g iv)=some v):aM P c o a w g h v .no:=by
 have h1:=aJ s hx
 have h2:=aJ s hi
 have hsz:(sizeOf e).run P w = .ok n w:=by
  unfold dD at hn
  simp only [cq] at hn
  obtain ⟨inf,hi1,hi2⟩:=hn
  simp [sizeOf,typeInfo,hi1,hi2]
 have hrun:∀{b off len cap:Nat} {k:IntKind} {j:Int},a.eval x = .slice (some ⟨b,off,none⟩) len cap→a.eval i = .int k j→0≤j→j<len →
   (execOp a.eval o).run P w = .ok (.value (.pointer (some ⟨b,off+j.toNat * n,none⟩))) w:=fun hv hj h0 hl=>by
  simp [execOp,ho,hv,hj,Instr.indexAt,asIntOf,underlying,ht,h0,hl,hsz,fc]
 unfold lM at he
 split at he
 ·rename_i st' rows k j e1 e2
  rw [e1] at h1;rw [e2] at h2
  split at he
  case isFalse=>cases he
  rename_i hcond
  obtain ⟨rfl,h0⟩:=hcond
  split at he
  case h_2=>cases he
  rename_i r hr
  cases he
  generalize hu:a.eval x=u at h1
  have h3:=h1.sl
  have hlt:=(dL.1 hr).1
  cases h3 with
  | nls=>simp at hlt
  | sl0 st ad cap=>simp at hlt
  | sl b off cap st c1 t1 fr rows vs hb hM hl hrl hv hx' =>
   refine aM.pure s (hrun hu h2.int h0 (by omega)) ?_
   have hrl':=hrl _ _ hr
   exact IRel.ip b (off+j.toNat * st') c1 t1 fr r (fun q=>vs j.toNat q) hb hM (fun q hq=>hv _ _ hlt (by omega)) (fun q y hy=>hx' _ _ _ _ hr hy)
 ·rename_i id st' off len k j e1 e2
  rw [e1] at h1;rw [e2] at h2
  split at he
  case isFalse=>cases he
  rename_i hcond
  obtain ⟨rfl,h0,hl⟩:=hcond
  cases he
  rcases h1 with ⟨_,_,h4⟩ | ⟨h4,_⟩ | ⟨b,cap,c1,t1,fr,h3,h4,h5⟩
  ·omega
  ·omega
  ·refine aM.pure s (hrun h4 h2.int h0 hl) ⟨b,h3,?_⟩
   rw [eU,Nat.add_zero]
 ·cases he
theorem EQ (s:aD c bl g h a w) {t e:TypeId} {n len:Nat} {x i:Operand} {xv iv:IV} (ho:o.op = .indexAddr t x i) (ht:P.underlying t=some (.array len e)) (hn:dD P e=some n) (hx:cV x=some xv) (hi:cV i=some iv)
  {v:AV} (he:oJ n len (val g xv) (val g iv)=some v):aM P c o a w g h v .no:=by
 have h1:=aJ s hx
 have h2:=aJ s hi
 have hsz:(sizeOf e).run P w = .ok n w:=by
  unfold dD at hn
  simp only [cq] at hn
  obtain ⟨inf,hi1,hi2⟩:=hn
  simp [sizeOf,typeInfo,hi1,hi2]
 have hrun:∀{b off:Nat} {k:IntKind} {j:Int},a.eval x = .pointer (some ⟨b,off,none⟩)→a.eval i = .int k j→0≤j→j<len →
   (execOp a.eval o).run P w = .ok (.value (.pointer (some ⟨b,off+j.toNat * n,none⟩))) w:=fun hv hj h0 hl=>by
  simp [execOp,ho,hv,hj,Instr.indexAt,asIntOf,underlying,ht,h0,hl,hsz,fc,Instr.sureAddr]
 unfold oJ at he
 split at he
 ·rename_i cells k j e1 e2
  rw [e1] at h1;rw [e2] at h2
  split at he
  case isFalse=>cases he
  rename_i hcond
  cases he
  generalize hu:a.eval x=u at h1
  have h3:=h1.ip
  cases h3 with
  | ip b off c1 t1 fr cells vs hb hM hv hx' =>
   refine aM.pure s (hrun hu h2.int hcond.1 hcond.2) ?_
   refine IRel.ip b (off+j.toNat * n) c1 t1 fr (cells.drop (j.toNat * n)) (fun q=>vs (j.toNat * n+q)) hb hM (fun q hq=>?_) (fun q y hy=>?_)
   ·rw [← hv (j.toNat * n+q) (by simp at hq;omega)];congr 1;omega
   ·rw [List.getElem?_drop] at hy;exact hx' _ _ hy
 ·rename_i id st' row off k j e1 e2
  rw [e1] at h1;rw [e2] at h2
  split at he
  case isFalse=>cases he
  rename_i hcond
  cases he
  obtain ⟨b,hb,h3⟩:=h1.mp
  exact aM.pure s (hrun h3 h2.int hcond.1 hcond.2) ⟨b,hb,by congr 3;omega⟩
 ·cases he
theorem Bl (s:aD c bl g h a w) {cl:Call} {m:Bool} {x y:Operand} {xv yv:IV} (ho:o.op = .call cl) (hcl:cl.callee = .builtin (if m then .max else .min)) (har:cl.args = #[x,y]) (hx:cV x=some xv) (hy:cV y=some yv)
  {v:AV} (he:qF m (val g xv) (val g yv)=some v):aM P c o a w g h v .no:=by
 have h1:=aJ s hx
 have h2:=aJ s hy
 unfold qF at he
 split at he
 case h_2=>cases he
 rename_i k n k' q e1 e2
 split at he
 case isFalse=>cases he
 rename_i hk
 subst hk
 cases he
 rw [e1] at h1;rw [e2] at h2
 have e3:=h1.int
 have e4:=h2.int
 cases m
 ·refine aM.pure s (r:=.int k (if q<n then q else n)) ?_ (i6 _ _)
  simp [execOp,ho,resolve,hcl,har,invoke,builtin,Builtin.min_,Builtin.min2,e3,e4]
 ·refine aM.pure s (r:=.int k (if n<q then q else n)) ?_ (i6 _ _)
  simp [execOp,ho,resolve,hcl,har,invoke,builtin,Builtin.max_,Builtin.max2,e3,e4]
theorem jJ (s:aD c bl g h a w) {d n:Nat} {x:Option Operand} {xv:Option IV} (hx:jr x=some xv) (he:bN d (xv.map (val g))=some n) :
  (x=none∧n=d)∨∃y k,x=some y∧a.eval y = .int k n:=by
 cases x with
 | none=>simp only [jr,bO] at hx;subst hx;simp only [Option.map_none,bN,bO] at he;exact .inl ⟨rfl,he.symm⟩
 | some y =>
  simp only [jr,cq] at hx
  obtain ⟨yv,hy,rfl⟩:=hx
  have h1:=aJ s hy
  simp only [dM] at he
  cases hval:val g yv<;>rw [hval] at he h1<;>simp only [bN] at he<;>try cases he
  case int k m =>
   split at he
   case isFalse=>cases he
   rename_i h0
   cases he
   refine .inr ⟨y,k,rfl,?_⟩
   rw [h1.int]
   congr 1
   omega
theorem dI {k:IntKind} {n y:Nat} {code:BoundsCode} (h:n≤y):(Instr.sliceBound (.int k n) y code).run P w = .ok n w:=by
 have h2:(n:Int)≤y:=by omega
 simp [Instr.sliceBound,asIntOf,h2]
theorem dB (s:aD c bl g h a w) {isS:Bool} {len cap l hh m:Nat} {lo hi mx:Option Operand} {lov hiv mxv:Option IV} (hlo:jr lo=some lov) (hhi:jr hi=some hiv) (hmx:jr mx=some mxv)
  (h1:bN 0 (lov.map (val g))=some l) (h2:bN len (hiv.map (val g))=some hh) (h3:bN len (mxv.map (val g))=some m) (hl:l≤hh) (hm:hh≤m) (hc:m≤len) (hcap:len≤cap) (hb:mx.isSome=true→hi.isSome=true) :
  ∃m',(Instr.sliceBounds isS len cap (lo.map a.eval) (hi.map a.eval) (mx.map a.eval)).run P w = .ok (l,hh,m') w∧hh≤m'∧m'≤cap:=by
 have a1:=jJ s hlo h1
 have a2:=jJ s hhi h2
 have a3:=jJ s hmx h3
 rcases a3 with ⟨rfl,rfl⟩ | ⟨y3,k3,rfl,e3⟩
 ·refine ⟨cap,?_,by omega,aB _⟩
  rcases a2 with ⟨rfl,rfl⟩ | ⟨y2,k2,rfl,e2⟩
  ·rcases a1 with ⟨rfl,rfl⟩ | ⟨y1,k1,rfl,e1⟩
   ·simp [Instr.sliceBounds]
   ·simp [Instr.sliceBounds,e1,dI (P:=P) (w:=w) hl]
  ·rcases a1 with ⟨rfl,rfl⟩ | ⟨y1,k1,rfl,e1⟩
   ·simp [Instr.sliceBounds,e2,dI (P:=P) (w:=w) (show hh≤cap by omega)]
   ·simp [Instr.sliceBounds,e2,e1,dI (P:=P) (w:=w) (show hh≤cap by omega),dI (P:=P) (w:=w) hl]
 ·refine ⟨m,?_,hm,by omega⟩
  rcases a2 with ⟨rfl,rfl⟩ | ⟨y2,k2,rfl,e2⟩
  ·simp at hb
  ·rcases a1 with ⟨rfl,rfl⟩ | ⟨y1,k1,rfl,e1⟩
   ·simp [Instr.sliceBounds,e3,e2,dI (P:=P) (w:=w) (show m≤cap by omega),dI (P:=P) (w:=w) hm]
   ·simp [Instr.sliceBounds,e3,e2,e1,dI (P:=P) (w:=w) (show m≤cap by omega),dI (P:=P) (w:=w) hm,dI (P:=P) (w:=w) hl]
end
section
variable {P:Program} {c:je} {bl:Nat→Option Nat} {g:Nat→AV} {h:Nat→Option ah} {a:Act} {w:World} {o:Oper} {M:Nat→Prop}
theorem ky {e:TypeId} {n:Nat} (hn:dD P e=some n):(sizeOf e).run P w = .ok n w:=by
 unfold dD at hn
 simp only [cq] at hn
 obtain ⟨inf,hi1,hi2⟩:=hn
 simp [sizeOf,typeInfo,hi1,hi2]
theorem cu {t e:TypeId} {n:Nat} {x:Operand} {lo hi mx:Option Operand} (ho:o.op = .slice t x lo hi mx) (ht:P.underlying t=some (.slice e)) (hn:dD P e=some n) {ad:Option Addr} {len cap l hh m:Nat}
  (hx:a.eval x = .slice ad len cap) (hb:(Instr.sliceBounds true len cap (lo.map a.eval) (hi.map a.eval) (mx.map a.eval)).run P w = .ok (l,hh,m) w) :
  (execOp a.eval o).run P w = .ok (.value (.slice (if m=l then ad else ad.map (·.add (l * n))) (hh - l) (m - l))) w:=by
 simp only [execOp,ho,Instr.sliceAt,Sem.run_bind,hx]
 simp [underlying,ht,Instr.slice,hb,ky (w:=w) hn]
theorem JO (s:aD c bl g h a w) {t e:TypeId} {n:Nat} {x:Operand} {lo hi mx:Option Operand} {xv:IV} {lov hiv mxv:Option IV} (ho:o.op = .slice t x lo hi mx) (ht:P.underlying t=some (.slice e)) (hn:dD P e=some n)
  (hx:cV x=some xv) (hlo:jr lo=some lov) (hhi:jr hi=some hiv) (hmx:jr mx=some mxv) (hb:mx.isSome=true→hi.isSome=true)
  {v:AV} (he:fb n (val g xv) (lov.map (val g)) (hiv.map (val g)) (mxv.map (val g))=some v):aM P c o a w g h v .no:=by
 have h1:=aJ s hx
 cases hval:val g xv<;>rw [hval] at he h1<;>simp only [fb] at he<;>try cases he
 case nl =>
  split at he
  case h_2=>cases he
  rename_i l hh m e1 e2 e3
  split at he
  case isFalse=>cases he
  rename_i hcond
  obtain ⟨rfl,rfl,rfl⟩:=hcond
  cases he
  obtain ⟨m',hr,hm1,hm2⟩:=dB (P:=P) (isS:=true) s hlo hhi hmx e1 e2 e3 (aB _) (aB _) (aB _) (aB 0) hb
  have hm0:m'=0:=by omega
  subst hm0
  exact aM.pure s (cu ho ht hn h1.nl hr) (by simp;exact IRel.nl)
 case sl st rows =>
  split at he
  case h_2=>cases he
  rename_i l hh m e1 e2 e3
  split at he
  case isFalse=>cases he
  rename_i hcond
  obtain ⟨rfl,hl1,hl2,hl3⟩:=hcond
  cases he
  generalize hu:a.eval x=u at h1
  have h3:=h1.sl
  cases h3 with
  | nls =>
   obtain ⟨m',hr,hm1,hm2⟩:=dB (P:=P) (isS:=true) s hlo hhi hmx e1 e2 e3 hl1 hl2 hl3 (aB _) hb
   have hm0:m'=0:=by simpa using hm2
   subst hm0
   have hl0:l=0:=by omega
   have hh0:hh=0:=by omega
   subst hl0 hh0
   exact aM.pure s (cu ho ht hn hu hr) (by simp;exact IRel.nls _)
  | sl0 st ad cap =>
   obtain ⟨m',hr,hm1,hm2⟩:=dB (P:=P) (isS:=true) (cap:=cap) s hlo hhi hmx e1 e2 e3 hl1 hl2 hl3 (cC _) hb
   have hl0:l=0:=by simp at hl3;omega
   have hh0:hh=0:=by simp at hl3;omega
   subst hl0 hh0
   refine aM.pure s (cu ho ht hn hu hr) ?_
   have:(List.drop 0 ([]:List (List AV))).take (0 - 0)=[]:=by simp
   rw [this]
   split
   ·exact IRel.sl0 _ _ _
   ·exact IRel.sl0 _ _ _
  | sl b off cap st c1 t1 fr rows vs hb' hM hl hrl hv hx' =>
   obtain ⟨m',hr,hm1,hm2⟩:=dB (P:=P) (isS:=true) (cap:=cap) s hlo hhi hmx e1 e2 e3 hl1 hl2 hl3 hl hb
   refine aM.pure s (cu ho ht hn hu hr) ?_
   by_cases h0:hh=l
   ·subst h0
    have hnil:(List.drop hh rows).take (hh - hh)=[]:=by simp
    rw [hnil,Nat.sub_self]
    split
    ·exact IRel.sl0 _ _ _
    ·exact IRel.sl0 _ _ _
   ·have hne:m'≠l:=by omega
    rw [aV hne]
    simp only [dM,fc]
    have hlen:((rows.drop l).take (hh - l)).length=hh - l:=by simp;omega
    have getr:∀(i:Nat) (r:List AV),((rows.drop l).take (hh - l))[i]? = some r→rows[l+i]? = some r:=fun i r hi=>by
     rw [List.getElem?_take] at hi
     split at hi
     ·simpa using hi
     ·cases hi
    have key:=IRel.sl (M:=aY bl c.MF h) (w:=w) b (off+l * st) (m' - l) st c1 t1 fr ((rows.drop l).take (hh - l)) (fun i j=>vs (l+i) j) hb' hM (by omega) (fun i r hi=>hrl _ _ (getr i r hi))
     (fun i j hi hj=>by
      rw [← hv (l+i) j (by omega) hj]
      congr 1
      rw [eU]
      omega)
     (fun i j r y hi hy=>hx' _ _ _ _ (getr i r hi) hy)
    rw [hlen] at key
    exact key
 case ms id st off len =>
  split at he
  case h_2=>cases he
  rename_i l hh m e1 e2 e3
  split at he
  case isFalse=>cases he
  rename_i hcond
  obtain ⟨rfl,hl1,hl2,hl3,hmn⟩:=hcond
  cases he
  have hmxn:mx=none:=by
   cases mx with
   | none=>rfl
   | some y =>
    simp only [jr,cq] at hmx
    obtain ⟨yv,_,rfl⟩:=hmx
    simp at hmn
  rcases h1 with ⟨h2,h3,h4⟩ | ⟨h2,h3,ad,cap,h4⟩ | ⟨b,cap,c1,t1,fr,h2,h3,h4,h5,h6⟩
  ·subst h3 h4
   obtain ⟨m',hr,hm1,hm2⟩:=dB (P:=P) (isS:=true) s hlo hhi hmx e1 e2 e3 hl1 hl2 hl3 (aB _) hb
   have hm0:m'=0:=by omega
   subst hm0
   have hl0:l=0:=by omega
   have hh0:hh=0:=by omega
   subst hl0 hh0
   exact aM.pure s (cu ho ht hn h2 hr) (.inl ⟨by simp,by simp,by simp⟩)
  ·subst h2
   obtain ⟨m',hr,hm1,hm2⟩:=dB (P:=P) (isS:=true) (cap:=cap) s hlo hhi hmx e1 e2 e3 hl1 hl2 hl3 (cC _) hb
   have hl0:l=0:=by omega
   have hh0:hh=0:=by omega
   subst hl0 hh0
   refine aM.pure s (cu ho ht hn h4 hr) (.inr (.inl ⟨by simp,by simpa using h3,?_⟩))
   split
   ·exact ⟨_,_,rfl⟩
   ·exact ⟨_,_,rfl⟩
  ·obtain ⟨m',hr,hm1,hm2⟩:=dB (P:=P) (isS:=true) (cap:=cap) s hlo hhi hmx e1 e2 e3 hl1 hl2 hl3 h4 hb
   refine aM.pure s (cu ho ht hn h3 hr) ?_
   by_cases h0:hh=l∧off+l≠0
   ·obtain ⟨rfl,h0⟩:=h0
    refine .inr (.inl ⟨by simp,h0,?_⟩)
    rw [Nat.sub_self]
    split
    ·exact ⟨_,_,rfl⟩
    ·exact ⟨_,_,rfl⟩
   ·have hcap:(off+l) * st+(m' - l) * st≤c1.size:=by
     have e1:(off+l) * st+(m' - l) * st=off * st+m' * st:=by
      rw [← eU,← eU];congr 1;omega
     have e2:m' * st≤cap * st:=iA st hm2
     omega
    refine .inr (.inr ⟨b,m' - l,c1,t1,fr,h2,?_,by omega,h5,hcap⟩)
    have e3:(if m'=l then some (⟨b,off * st,none⟩:Addr) else (some (⟨b,off * st,none⟩:Addr)).map (·.add (l * st)))=some ⟨b,(off+l) * st,none⟩:=by
     split
     ·have:l=0:=by omega
      subst this
      simp
     ·simp only [dM,fc,eU]
    rw [e3]
theorem E3 (s:aD c bl g h a w) {t:TypeId} {x:Operand} {lo hi:Option Operand} {xv:IV} {lov hiv:Option IV} (ho:o.op = .slice t x lo hi none) (ht:P.underlying t=some .string)
  (hx:cV x=some xv) (hlo:jr lo=some lov) (hhi:jr hi=some hiv) {v:AV} (he:iD (val g xv) (lov.map (val g)) (hiv.map (val g))=some v):aM P c o a w g h v .no:=by
 have h1:=aJ s hx
 cases hval:val g xv<;>rw [hval] at he h1<;>simp only [iD] at he<;>try cases he
 case str st =>
  split at he
  case h_2=>cases he
  rename_i l hh e1 e2
  split at he
  case isFalse=>cases he
  rename_i hcond
  cases he
  have hsz:(ByteArray.mk st.toArray).size=st.length:=by simp [ByteArray.size]
  obtain ⟨m',hr,hm1,hm2⟩:=dB (P:=P) (isS:=false) (cap:=st.length) (mx:=none) (mxv:=none) s hlo hhi rfl e1 e2 rfl hcond.1 hcond.2 (aB _) (aB _) (by simp)
  refine aM.pure s (r:=.string ⟨((st.drop l).take (hh - l)).toArray⟩) ?_ (Fb _)
  have hex:(ByteArray.mk st.toArray).extract l hh=ByteArray.mk ((st.drop l).take (hh - l)).toArray:=by
   apply ByteArray.ext
   simp [ByteArray.data_extract,List.extract_toArray,List.extract_eq_take_drop]
  simp only [Option.map_none] at hr
  simp [execOp,ho,Instr.sliceAt,underlying,ht,Instr.slice,h1.str,hsz,hr,hex]
theorem jf {bl:Nat→Option Nat} {v:Value} {x:AV} {cs:List AV} (hv:aT bl M w v x) (hc:du x=some cs):aK (bA bl M w) v.cells.toList cs:=by
 have key:∀y,bA bl M w v y→aK (bA bl M w) v.cells.toList [y]:=fun y h1=>by
  have h2:=bA.one h1
  have h3:v.cells = #[v]:=by cases v<;>first | rfl | exact h2.elim
  rw [h3]
  exact ⟨h1,trivial⟩
 cases x with
 | agg cells =>
  simp only [du,bO] at hc
  subst hc
  obtain ⟨vs,rfl,h2⟩:=hv
  simpa [Value.cells] using h2
 | tup vs=>simp [du] at hc
 | any=>simp [du] at hc
 | _ =>
  simp only [du,bO] at hc
  subst hc
  exact key _ hv
theorem o_ (vs:List Value):∀(k:Nat) (cs:Array Value) (off:Nat),off+k+vs.length≤cs.size→∀(i:Nat),
  ((vs.zipIdx k).foldl (fun (cs:Array Value) (p:Value×Nat)=>cs.setIfInBounds (off+p.2) p.1) cs)[i]? = if off+k≤i∧i<off+k+vs.length then vs[i - (off+k)]? else cs[i]?:=by
 induction vs with
 | nil=>intro k cs off h i;simp;intro h1 h2;omega
 | cons v r ih =>
  intro k cs off h i
  simp only [List.zipIdx_cons,List.foldl_cons,oh] at h ⊢
  rw [ih (k+1) (cs.setIfInBounds (off+k) v) off (by simp;omega) i,qp]
  by_cases h1:off+k=i
  ·subst h1
   rw [aV (by omega),bz (by omega)]
   simp;omega
  ·by_cases h2:off+k≤i∧i<off+k+(r.length+1)
   ·rw [bz (by omega),bz h2,show i - (off+k)=(i - (off+(k+1)))+1 by omega,List.getElem?_cons_succ]
   ·rw [aV (by omega),aV h2,aV h1]
theorem ng (vs:List Value):∀(k:Nat) (cs:Array Value) (off:Nat),
  ((vs.zipIdx k).foldl (fun (cs:Array Value) (p:Value×Nat)=>cs.setIfInBounds (off+p.2) p.1) cs).size=cs.size:=by
 induction vs with
 | nil=>intro k cs off;simp
 | cons v r ih=>intro k cs off;simp only [List.zipIdx_cons,List.foldl_cons];rw [ih];simp
theorem n9 (r:List AV) (off:Nat) (cs:List AV) (h:off+cs.length≤r.length) (i:Nat) :
  (dN r off cs)[i]? = if off≤i∧i<off+cs.length then cs[i - off]? else r[i]?:=by
 unfold dN
 by_cases h1:i<off
 ·rw [aV (by omega),tG,List.getElem?_append_left (by simp;omega),List.getElem?_take,bz h1]
 ·by_cases h2:i<off+cs.length
  ·rw [bz (by omega),List.getElem?_append_left (by simp;omega),List.getElem?_append_right (by simp;omega)]
   simp [Nat.min_eq_left (show off≤r.length by omega)]
  ·rw [aV (by omega),List.getElem?_append_right (by simp;omega),List.getElem?_drop]
   congr 1
   simp
   omega
theorem jE (r:List AV) (off:Nat) (cs:List AV) (h:off+cs.length≤r.length):(dN r off cs).length=r.length:=by
 unfold dN;simp;omega
theorem y8 {bl:Nat→Option Nat} {cs:Array Value} {cells:List AV} {v:Value} {ys:List AV} {off:Nat} (hc:aK (bA bl M w) cs.toList cells) (hv:aK (bA bl M w) v.cells.toList ys) (hl:off+ys.length≤cells.length) :
  aK (bA bl M w) (v.cells.zipIdx.foldl (fun (cs:Array Value) (p:Value×Nat)=>cs.setIfInBounds (off+p.2) p.1) cs).toList (dN cells off ys):=by
 have e1:=hc.length
 have e2:=hv.length
 simp only [gD] at e1 e2
 have hf:v.cells.zipIdx.foldl (fun (cs:Array Value) (p:Value×Nat)=>cs.setIfInBounds (off+p.2) p.1) cs=(v.cells.toList.zipIdx 0).foldl (fun (cs:Array Value) (p:Value×Nat)=>cs.setIfInBounds (off+p.2) p.1) cs:=by
  rw [← Array.foldl_toList,Array.toList_zipIdx]
 rw [hf]
 refine aK.of_get ?_ ?_
 ·rw [jE _ _ _ hl,gD,ng,e1]
 ·intro i x y hx hy
  rw [Array.getElem?_toList,o_ _ _ _ _ (by simp;omega)] at hx
  rw [n9 _ _ _ hl] at hy
  simp only [Nat.add_zero,gD,e2] at hx
  split at hx
  ·rename_i h1
   rw [bz h1] at hy
   obtain ⟨u,hu,hr⟩:=hv.get hy
   rw [hu] at hx
   cases hx
   exact hr
  ·rename_i h1
   rw [aV h1] at hy
   obtain ⟨u,hu,hr⟩:=hc.get hy
   rw [Array.getElem?_toList,hx] at hu
   cases hu
   exact hr
end
section
variable {P:Program} {c:je} {bl:Nat→Option Nat} {g:Nat→AV} {h:Nat→Option ah} {a:Act} {w:World} {o:Oper} {M:Nat→Prop}
theorem ei {t:TypeId} {z:List AV} (hz:gp P t=some z):∃i v,P.info? t=some i∧i.zero=some v∧aK (IRel M w) v.cells.toList z∧eM v.cells.toList=some z:=by
 unfold gp at hz
 split at hz
 ·rename_i i hi
  split at hz
  ·rename_i v hv
   exact ⟨i,v,hi,hv,jN hz,hz⟩
  ·cases hz
 ·cases hz
theorem nb (s:aD c bl g h a w) {places:List (Nat×Nat)}:∀(parts:List (Nat×Operand)) (ps:List (Nat×Nat×IV)) (cs:Array Value) (cells out:List AV),kI places parts=some ps →
  aK (bA bl (aY bl c.MF h) w) cs.toList cells→fA (val g) cells ps=some out →
  ∃cs',Instr.fill (places.toArray[·]?) cs (parts.map fun (i,x)=>(i,a.eval x))=some cs'∧aK (bA bl (aY bl c.MF h) w) cs'.toList out
 | [],ps,cs,cells,out,hp,hc,ho=>by
  simp only [kI,bO] at hp
  subst hp
  simp only [fA,bO] at ho
  subst ho
  exact ⟨cs,rfl,hc⟩
 | (i,x) :: r,ps,cs,cells,out,hp,hc,ho=>by
  simp only [kI] at hp
  split at hp
  case h_2=>cases hp
  rename_i off n v l h1 h2 h3
  cases hp
  simp only [fA] at ho
  split at ho
  case h_2=>cases ho
  rename_i ys hys
  split at ho
  case isFalse=>cases ho
  rename_i hcond
  obtain ⟨hl1,hl2⟩:=hcond
  have hv:=jf (aJ s h2) hys
  have e1:(a.eval x).cells.size=n:=by have:=hv.length;simp only [gD] at this;omega
  have e2:cs.size=cells.length:=by have:=hc.length;simpa only [gD] using this
  obtain ⟨cs',h4,h5⟩:=nb s r l _ _ out h3 (y8 hc hv (by omega)) ho
  refine ⟨cs',?_,h5⟩
  simp only [dP,Instr.fill]
  simp only [List.getElem?_toArray] at h4 ⊢
  rw [h1]
  have hcond2:¬(decide ((a.eval x).cells.size≠n)||decide (off+(a.eval x).cells.size>cs.size))=true:=by simp;omega
  simp only [hcond2]
  exact h4
theorem Bj (s:aD c bl g h a w) {t:TypeId} {fs:Array Field} {z:List AV} {places:List (Nat×Nat)} {parts:Array (Nat×Operand)} {ps:List (Nat×Nat×IV)} (ho:o.op = .build t parts) (ht:P.underlying t=some (.struct fs))
  (hz:gp P t=some z) (hpl:qj P fs=some places) (hp:kI places parts.toList=some ps) {out:List AV} (he:fA (val g) z ps=some out):aM P c o a w g h (.agg out) .no:=by
 obtain ⟨i,v,h1,h2,h3,_⟩:=ei (M:=aY bl c.MF h) (w:=w) hz
 obtain ⟨cs,h4,h5⟩:=nb s parts.toList ps v.cells z out hp (h3.mono fun _ _ _ hr=>IRel.toC hr) he
 have hb:P.built t (parts.map fun (i,x)=>(i,a.eval x)).toList=some cs:=by
  unfold qj at hpl
  simp only [Program.built,h1,ht,h2,hpl]
  rw [Array.toList_map]
  exact h4
 exact aM.pure s (r:=.agg cs) (by simp [execOp,ho,run_build w t _ cs hb]) ⟨cs.toList,by simp,h5⟩
theorem wI (s:aD c bl g h a w) {t e:TypeId} {n:Nat} {ie:TypeInfo} {z:List AV} {parts:Array (Nat×Operand)} (ho:o.op = .build t parts) (ht:P.underlying t=some (.array n e))
  (hz:gp P t=some z) (hie:P.info? e=some ie) (hp:parts.toList=[]):aM P c o a w g h (.agg z) .no:=by
 obtain ⟨i,v,h1,h2,h3,_⟩:=ei (M:=aY bl c.MF h) (w:=w) hz
 have hb:P.built t (parts.map fun (i,x)=>(i,a.eval x)).toList=some v.cells:=by
  simp only [Program.built,h1,ht,h2,hie]
  rw [Array.toList_map,hp]
  rfl
 exact aM.pure s (r:=.agg v.cells) (by simp [execOp,ho,run_build w t _ v.cells hb]) ⟨v.cells.toList,by simp,h3.mono fun _ _ _ hr=>IRel.toC hr⟩
theorem Az {v:Value} {x:AV} (hc:m3 v=some x) (i:Nat):mC i x=false:=by
 unfold m3 at hc
 split at hc<;>first | (cases hc;done) | (cases hc;rfl)
theorem pg:∀{vs:List Value} {xs:List AV},eM vs=some xs→∀x∈xs,∀i,mC i x=false
 | [],xs,hc=>by simp only [eM,bO] at hc;subst hc;simp
 | v :: r,xs,hc=>by
  simp only [eM] at hc
  split at hc
  ·rename_i x ys h1 h2
   simp only [bO] at hc
   subst hc
   intro y hy i
   rcases cj.1 hy with rfl | hy
   ·exact Az h1 i
   ·exact pg h2 y hy i
  ·cases hc
theorem fR (cs:Array Value):dE cs (0,0):=.inl rfl
theorem nM (s:aD c bl g h a w) {d:Nat} {t:TypeId} {v:Value} {cs:List AV} (hd:h d=none) (hu:bP d g h) (hid:d<1000∨2000≤d)
  (hrun:(execOp a.eval o).run P w = .ok (.value (.pointer (some ⟨w.heap.size,0,none⟩))) (w.alloc (.cells v.cells t)))
  (hc:aK (bA bl (aY bl c.MF h) w) v.cells.toList cs) (hno:∀x∈cs,mC d x=false):aM P c o a w g h (.mp d cs.length 0 0) (.new d ⟨t,cs.length,[cs],true⟩):=by
 have e1:=hc.length
 simp only [gD] at e1
 have hs:=s.new (i:=d) (o:=⟨t,cs.length,[cs],true⟩) (cs:=v.cells) (fr:=(0,0)) (w':=w.alloc (.cells v.cells t)) hd hu hid rfl rfl rfl (fR _)
  ⟨fun i r hr=>by
   cases i with
   | zero=>simp at hr;subst hr;rfl
   | succ i=>simp at hr,by simp [e1],fun i j r x hr hx=>by
   cases i with
   | zero =>
    simp at hr
    subst hr
    obtain ⟨u,hu1,hu2⟩:=hc.get hx
    exact ⟨u,by simpa using hu1,hu2⟩
   | succ i=>simp at hr⟩ (fun _ r hr x hx=>by
   simp at hr
   subst hr
   exact hno x hx)
 exact ⟨_,_,_,.inl hrun,hs,w.heap.size,bo _ _ _,by simp⟩
theorem JK (s:aD c bl g h a w) {d:Nat} {t:TypeId} {z:List AV} (ho:o.op = .alloc t) (hz:gp P t=some z) (hd:h d=none) (hu:bP d g h) (hid:d<1000∨2000≤d) :
  aM P c o a w g h (.mp d z.length 0 0) (.new d ⟨t,z.length,[z],true⟩):=by
 obtain ⟨i,v,h1,h2,h3,h4⟩:=ei (M:=aY bl c.MF h) (w:=w) hz
 refine nM (v:=v) s hd hu hid ?_ (h3.mono fun _ _ _ hr=>IRel.toC hr) (fun x hx=>pg h4 x hx d)
 simp [execOp,ho,Instr.alloc,zeroValue,typeInfo,h1,h2,newVar,newRow]
theorem Jt (s:aD c bl g h a w) {d:Nat} {t:TypeId} {x:Operand} {xv:IV} {cs:List AV} (ho:o.op = .box t x) (hx:cV x=some xv) (hc:du (val g xv)=some cs) (hno:∀y∈cs,mC d y=false)
  (hd:h d=none) (hu:bP d g h) (hid:d<1000∨2000≤d):aM P c o a w g h (.mp d cs.length 0 0) (.new d ⟨t,cs.length,[cs],true⟩):=by
 refine nM (v:=a.eval x) s hd hu hid ?_ (jf (aJ s hx) hc) hno
 simp [execOp,ho,Instr.box,newVar,newRow]
def px (R:Value→AV→Prop) (st:Nat) (cs:Array Value) (rows:List (List AV)):Prop :=
 (∀(i:Nat) (r:List AV),rows[i]? = some r→r.length=st)∧cs.size=rows.length * st ∧
 ∀(i j:Nat) (r:List AV) (x:AV),rows[i]? = some r→r[j]? = some x→∃v,cs[i * st+j]? = some v∧R v x
theorem rf {bl:Nat→Option Nat} {v:Value} {x:AV} (hv:bA bl M w v x) (hi:fC x=true):IRel M w v x:=by
 cases x<;>first | (simp [fC] at hi;done) | exact hv
theorem pr {st i j k:Nat} (hj:j<st):(k * st≤i * st+j∧i * st+j<k * st+st)↔i=k:=by
 constructor
 ·rintro ⟨h1,h2⟩
  rcases Nat.lt_trichotomy i k with hlt | heq | hgt
  ·have:=iA st (show i+1≤k by omega)
   rw [eU] at this
   omega
  ·exact heq
  ·have:=iA st (show k+1≤i by omega)
   rw [eU] at this
   omega
 ·rintro rfl
  omega
theorem o6 (s:aD c bl g h a w) {st:Nat}:∀(parts:List (Nat×Operand)) (ps:List (Nat×IV)) (cs:Array Value) (rows out:List (List AV)),m5 parts=some ps →
  px (bA bl (aY bl c.MF h) w) st cs rows→dY (val g) st rows ps=some out →
  ∃cs',Instr.fill (fun i=>some (i * st,st)) cs (parts.map fun (i,x)=>(i,a.eval x))=some cs'∧px (bA bl (aY bl c.MF h) w) st cs' out
 | [],ps,cs,rows,out,hp,hc,ho=>by
  simp only [m5,bO] at hp
  subst hp
  simp only [dY,bO] at ho
  subst ho
  exact ⟨cs,rfl,hc⟩
 | (k,x) :: r,ps,cs,rows,out,hp,hc,ho=>by
  simp only [m5] at hp
  split at hp
  case h_2=>cases hp
  rename_i v l h2 h3
  cases hp
  simp only [dY] at ho
  split at ho
  case h_2=>cases ho
  rename_i ys hys
  split at ho
  case isFalse=>cases ho
  rename_i hcond
  obtain ⟨hl1,hl2⟩:=hcond
  have hv:=jf (aJ s h2) hys
  have e1:(a.eval x).cells.size=st:=by have:=hv.length;simp only [gD] at this;omega
  obtain ⟨hr1,hr2,hr3⟩:=hc
  have hle:k * st+st≤cs.size:=by
   rw [hr2]
   have:=iA st (show k+1≤rows.length by omega)
   rw [eU] at this
   omega
  have hfold:(a.eval x).cells.zipIdx.foldl (fun (cs:Array Value) (p:Value×Nat)=>cs.setIfInBounds (k * st+p.2) p.1) cs=((a.eval x).cells.toList.zipIdx 0).foldl (fun (cs:Array Value) (p:Value×Nat)=>cs.setIfInBounds (k * st+p.2) p.1) cs:=by
   rw [← Array.foldl_toList,Array.toList_zipIdx]
  obtain ⟨cs',h4,h5⟩:=o6 s r l ((a.eval x).cells.zipIdx.foldl (fun (cs:Array Value) (p:Value×Nat)=>cs.setIfInBounds (k * st+p.2) p.1) cs) (rows.set k ys) out h3 ⟨fun i q hq=>by
    rw [List.getElem?_set] at hq
    split at hq
    ·cases hq;exact hl1
    ·exact hr1 i q hq,by rw [hfold,ng,hr2];simp,fun i j q y hq hy=>by
    rw [hfold,o_ _ _ _ _ (by simp;omega)]
    simp only [Nat.add_zero,gD,e1]
    rw [List.getElem?_set] at hq
    split at hq
    ·rename_i hki
     subst hki
     cases hq
     have hj:j<st:=by rw [← hl1];exact (dL.1 hy).1
     obtain ⟨u,hu,hr⟩:=hv.get hy
     refine ⟨u,?_,hr⟩
     rw [bz (by omega),show k * st+j - k * st=j by omega]
     exact hu
    ·rename_i hki
     have hj:j<st:=by rw [← hr1 i q hq];exact (dL.1 hy).1
     obtain ⟨u,hu,hr⟩:=hr3 i j q y hq hy
     refine ⟨u,?_,hr⟩
     rw [aV (fun hh=>hki ((pr hj).1 hh).symm)]
     exact hu⟩ ho
  refine ⟨cs',?_,h5⟩
  simp only [dP,Instr.fill]
  have hcond2:¬(decide ((a.eval x).cells.size≠st)||decide (k * st+(a.eval x).cells.size>cs.size))=true:=by simp;omega
  simp only [hcond2]
  exact h4
theorem pw {z:Array Value} {zs:List AV} {st len:Nat} (hz:aK (IRel M w) z.toList zs) (hl:zs.length=st) (h0:1≤st) :
  px (IRel M w) st ((Array.range (len * st)).map (z[· % z.size]!)) (List.replicate len zs):=by
 have e1:=hz.length
 simp only [gD] at e1
 refine ⟨fun i r hr=>?_,by simp,fun i j r x hr hx=>?_⟩
 ·rw [List.getElem?_replicate] at hr
  split at hr
  ·cases hr;exact hl
  ·cases hr
 ·rw [List.getElem?_replicate] at hr
  split at hr
  case isFalse=>cases hr
  rename_i hi
  cases hr
  have hj:j<st:=by rw [← hl];exact (dL.1 hx).1
  obtain ⟨u,hu,hr⟩:=hz.get hx
  refine ⟨u,?_,hr⟩
  have hlt:i * st+j<len * st:=by
   have:=iA st (show i+1≤len by omega)
   rw [eU] at this
   omega
  have hmod:(i * st+j) % z.size=j:=by
   rw [show z.size=st by omega,Nat.add_comm,Nat.add_mul_mod_self_right]
   exact Nat.mod_eq_of_lt hj
  rw [Array.getElem?_map,Array.getElem?_range,bz hlt]
  simp only [dM,hmod]
  rw [Array.getElem?_toList] at hu
  rw [getElem!_pos z j (by omega)]
  rw [kD (by omega)] at hu
  exact hu
theorem f6 (s:aD c bl g h a w) {d:Nat} {e:TypeId} {st:Nat} {cs:Array Value} {rows:List (List AV)} {fr:Nat×Nat} {len cap:Nat} {w':World} (hd:h d=none) (hu:bP d g h) (hid:d<1000∨2000≤d)
  (hrun:(execOp a.eval o).run P w = .ok (.value (.slice (some ⟨w.heap.size,0,none⟩) len cap)) w') (hw:w'.heap=w.heap.push (.cells cs e fr)) (hos:w'.os=w.os) (hout:w'.output=w.output) (uf:dE cs fr)
  (hr1:∀(i:Nat) (r:List AV),rows[i]? = some r→r.length=st) (hr2:rows.length * st≤cs.size) (hlen:len≤cap) (hcap:cap * st≤cs.size)
  {q:Bool} (hr3:∀(i j:Nat) (r:List AV) (x:AV),rows[i]? = some r→r[j]? = some x→∃v,cs[i * st+j]? = some v∧e_ q bl (aY bl c.MF h) w v x)
  (hno:q=true→∀r∈rows,∀x∈r,mC d x=false) :
  aM P c o a w g h (.ms d st 0 len) (.new d ⟨e,st,rows,q⟩):=by
 have hs:=s.new (i:=d) (o:=⟨e,st,rows,q⟩) (cs:=cs) (fr:=fr) (w':=w') hd hu hid hw hos hout uf ⟨hr1,hr2,hr3⟩ hno
 refine ⟨_,_,_,.inl hrun,hs,.inr (.inr ⟨w.heap.size,cap,cs,e,fr,bo _ _ _,by simp,hlen,by rw [hw];simp,by simpa using hcap⟩)⟩
theorem nw:∀{vs:List Value} {xs:List AV},eM vs=some xs→∀x∈xs,fC x=true
 | [],xs,hc=>by simp only [eM,bO] at hc;subst hc;simp
 | v :: r,xs,hc=>by
  simp only [eM] at hc
  split at hc
  ·rename_i x ys h1 h2
   simp only [bO] at hc
   subst hc
   intro y hy
   rcases cj.1 hy with rfl | hy
   ·unfold m3 at h1
    split at h1<;>first | (cases h1;done) | (cases h1;rfl)
   ·exact nw h2 y hy
  ·cases hc
theorem uJ (s:aD c bl g h a w) {d:Nat} {t e:TypeId} {len n:Nat} {z:List AV} {parts:Array (Nat×Operand)} {ps:List (Nat×IV)} (ho:o.op = .buildSlice t len parts) (ht:P.underlying t=some (.slice e))
  (hz:gp P e=some z) (hn:dD P e=some n) (hp:m5 parts.toList=some ps) (hzl:z.length=n) (h1:1≤n) (h3:len * n≤16777216) {out:List (List AV)} (he:dY (val g) n (List.replicate len z) ps=some out)
  (hd:h d=none) (hu:bP d g h) (hid:d<1000∨2000≤d) {q:Bool} (himm:q=false→∀r∈out,∀x∈r,fC x=true) (hno:q=true→∀r∈out,∀x∈r,mC d x=false):aM P c o a w g h (.ms d n 0 out.length) (.new d ⟨e,n,out,q⟩):=by
 obtain ⟨i,v,h4,h5,h6,_⟩:=ei (M:=aY bl c.MF h) (w:=w) hz
 have hsz:i.size=n:=by simpa [dD,h4] using hn
 have hz0:=pw (len:=len) h6 hzl h1
 obtain ⟨cs,h7,h8,h9,h10⟩:=o6 s parts.toList ps _ _ out hp ⟨hz0.1,hz0.2.1,fun i j r x h1 h2=>by obtain ⟨u,h3,h4⟩:=hz0.2.2 i j r x h1 h2;exact ⟨u,h3,IRel.toC h4⟩⟩ he
 have h11:∀(i j:Nat) (r:List AV) (x:AV),out[i]? = some r→r[j]? = some x→∃v,cs[i * n+j]? = some v∧e_ q bl (aY bl c.MF h) w v x:=fun i j r x h1 h2=>by
  obtain ⟨u,h3,h4⟩:=h10 i j r x h1 h2
  refine ⟨u,h3,?_⟩
  cases q
  ·exact rf h4 (himm rfl r (gE h1) x (gE h2))
  ·exact h4
 have hlen:out.length=len:=by rw [mZ he];simp
 rw [hlen]
 by_cases hl0:len=0
 ·subst hl0
  simp only [Nat.zero_mul] at h7
  have hr0:(Array.range 0).map (v.cells[· % v.cells.size]!) = #[]:=by simp
  have hr1:(Array.range 0).map ((#[]:Array Value)[· % (#[]:Array Value).size]!) = #[]:=by simp
  rw [hr0] at h7
  refine f6 (cs:=cs) (fr:=(0,0)) (cap:=0) (w':=w.alloc (.cells cs e)) s hd hu hid ?_ rfl rfl rfl (fR _) h8 (by omega) (aB _) (by simp) h11 hno
  have h7':Instr.fill (fun i=>some (i * n,n)) #[] (parts.map fun (i,x)=>(i,a.eval x)).toList=some cs:=by rw [Array.toList_map];exact h7
  have hra:Array.range 0 = #[]:=by simp
  simp only [execOp,ho,Instr.buildSlice,Sem.run_bind,run_underlying ht,Result.andThen_ok,ky hn,Nat.zero_mul,hra]
  simp [hra,h7,newRow]
 have hpos:0<len * n:=Nat.mul_pos (by omega) (by omega)
 refine f6 (cs:=cs) (fr:=(0,0)) (cap:=len) (w':=w.alloc (.cells cs e)) s hd hu hid ?_ rfl rfl rfl (fR _) h8 (by omega) (aB _) (by rw [h9,hlen];exact aB _) h11 hno
 have hb:=run_buildSlice (P:=P) w t e len (parts.map fun (i,x)=>(i,a.eval x)) cs i v ht h4 h5 (by rw [hsz];omega) (by rw [hsz];omega) (by rw [hsz,Array.toList_map];exact h7)
 simp [execOp,ho,hb]
theorem Ju (s:aD c bl g h a w) {d:Nat} {t e:TypeId} {len n:Nat} {z:List AV} {parts:Array (Nat×Operand)} {ps:List (Nat×IV)} (ho:o.op = .buildSlice t len parts) (ht:P.underlying t=some (.slice e))
  (hz:gp P e=some z) (hn:dD P e=some n) (hp:m5 parts.toList=some ps) (hzl:z.length=n) (h1:1≤n) (h3:len * n≤16777216) {out:List (List AV)} (he:gJ (val g) n (List.replicate len z) ps=some out)
  (hd:h d=none) (hu:bP d g h) (hid:d<1000∨2000≤d):aM P c o a w g h (.ms d n 0 out.length) (.new d ⟨e,n,out,false⟩):=by
 obtain ⟨h4,h5⟩:=tS he
 obtain ⟨_,_,_,_,_,h6⟩:=ei (M:=aY bl c.MF h) (w:=w) hz
 exact uJ s ho ht hz hn hp hzl h1 h3 h4 hd hu hid (q:=false) (fun _=>h5 fun r hr=>by obtain ⟨_,rfl⟩:=List.mem_replicate.1 hr;exact nw h6) (fun h=>by cases h)
end
section
variable {P:Program} {c:je} {bl:Nat→Option Nat} {g:Nat→AV} {h:Nat→Option ah} {a:Act} {w:World} {o:Oper} {M:Nat→Prop}
theorem eZ (b:Nat):∀(vs:List Value) (off:Nat) (w:World) {c1:Array Value} {t:TypeId} {fr:Nat×Nat},w.heap[b]? = some (.cells c1 t fr)→off+vs.length≤c1.size →
  ∃c2:Array Value,(w.setCells b off vs).heap[b]? = some (.cells c2 t fr)∧c2.size=c1.size∧(∀i:Nat,c2[i]? = if off≤i∧i<off+vs.length then vs[i - off]? else c1[i]?) ∧
   (w.setCells b off vs).heap.size=w.heap.size∧(∀b',b'≠b→(w.setCells b off vs).heap[b']? = w.heap[b']?)∧(w.setCells b off vs).os=w.os∧(w.setCells b off vs).output=w.output
 | [],off,w,c1,t,fr,hb,_=>⟨c1,hb,rfl,fun i=>by rw [aV (by simp only [kC];omega)],rfl,fun _ _=>rfl,rfl,rfl⟩
 | v :: r,off,w,c1,t,fr,hb,hl=>by
  simp only [oh] at hl
  have hb1:(w.setCell ⟨b,off,none⟩ v).heap[b]? = some (.cells (c1.setIfInBounds off v) t fr):=by
   simp [World.setCell,kF,hb]
  obtain ⟨c2,h1,h2,h3,h4,h5,h6,h7⟩:=eZ b r (off+1) (w.setCell ⟨b,off,none⟩ v) hb1 (by simp;omega)
  refine ⟨c2,h1,by rw [h2];simp,fun i=>?_,by rw [World.setCells,h4];simp,fun b' hb'=>?_,by rw [World.setCells,h6];rfl,by rw [World.setCells,h7];rfl⟩
  ·rw [h3 i,qp]
   simp only [oh]
   by_cases e1:off=i
   ·subst e1
    rw [aV (by omega),bz (by omega)]
    simp;omega
   ·by_cases e2:off≤i∧i<off+(r.length+1)
    ·rw [bz (by omega),bz e2,show i - off=(i - (off+1))+1 by omega,List.getElem?_cons_succ]
    ·rw [aV (by omega),aV e2,aV e1]
  ·rw [World.setCells,h5 b' hb']
   simp [World.setCell,kF,Ne.symm hb']
theorem Rb {v:Value} (h:eB v):v.oneCell'=true:=by cases v<;>first | rfl | exact h.elim
theorem fF {b off:Nat} {vs:List Value} {c1:Array Value} {t:TypeId} {fr:Nat×Nat} (hb:w.heap[b]? = some (.cells c1 t fr)) (uf:dE c1 fr) (hl:off+vs.length≤c1.size) (h1:∀v∈vs,eB v) :
  (storeCells ⟨b,off,none⟩ vs).run P w = .ok () (w.setCells b off vs):=by
 have:=run_storeCells_cells (P:=P) b off vs 0 w (fun j hj=>by rw [dm hb];simp;omega) (fun j hj=>by
  simp only [World.frozen?,hb]
  have:=uf.spec (off+0+j) (by omega)
  simp only [Bool.and_eq_false_iff,decide_eq_false_iff_not]
  omega) (fun v hv=>Rb (h1 v hv))
 simpa using this
theorem aK.left {α β:Type} {R:α→β→Prop} {p:α→Prop}:∀{l:List α} {m:List β},aK R l m→(∀a b,R a b→p a)→∀a∈l,p a
 | [],[],_,_=>by simp
 | a :: _,_ :: _,h,f=>fun x hx=>by
  rcases cj.1 hx with rfl | hx
  ·exact f _ _ h.1
  ·exact h.2.left f x hx
 | [],_ :: _,h,_=>h.elim
 | _ :: _,[],h,_=>h.elim
theorem Bo (s:aD c bl g h a w) {t:TypeId} {n:Nat} {p x:Operand} {pv xv:IV} (ho:o.op = .store t p x) (hn:dD P t=some n) (hp:cV p=some pv) (hx:cV x=some xv)
  {e:aP} (he:eL n (val g pv) (val g xv) h=some e):aM P c o a w g h .any e:=by
 have h1:=aJ s hp
 unfold eL at he
 split at he
 case h_2=>cases he
 rename_i id st row off cs e1 e2
 rw [e1] at h1
 split at he
 case h_2=>cases he
 rename_i ob hob
 split at he
 case isFalse=>cases he
 rename_i hcond
 obtain ⟨hst,hlen,himm⟩:=hcond
 split at he
 case h_2=>cases he
 rename_i r hr
 split at he
 case isFalse=>cases he
 rename_i hfit
 cases he
 have hv:=jf (aJ s hx) e2
 have el:=hv.length
 simp only [gD] at el
 obtain ⟨b,hb,hpv⟩:=h1.mp
 rcases s.heap.1 id ob hob with hn0 | ⟨b',h2,⟨gk,c1,fr,h3,h4,h5,h6,h7,h8⟩ | hsp⟩
 ·rw [hn0.2.2] at hb;cases hb
 rotate_left
 ·exact (hsp.no hr).elim
 rw [hb] at h2
 cases h2
 have hrl:=h6 _ _ hr
 have hrow:row<ob.rows.length:=(dL.1 hr).1
 have hspace:row * ob.st+ob.st≤c1.size:=by
  have:=iA ob.st (show row+1≤ob.rows.length by omega)
  rw [eU] at this
  omega
 have hsz:(sizeOf t).run P w = .ok n w:=ky hn
 have hrun:(execOp a.eval o).run P w = .ok .skip (w.setCells b (row * st+off) (a.eval x).cells.toList):=by
  have hst':=fF (P:=P) (w:=w) (b:=b) (off:=row * st+off) (vs:=(a.eval x).cells.toList) h3 h4 (by simp only [gD];rw [← hst];omega) (hv.left fun _ _ hr=>bA.one hr)
  simp [execOp,ho,Instr.storeAt,Instr.sureAddr,hpv,storeVar,hsz,el,hlen,hst']
 obtain ⟨c2,g1,g2,g3,g4,g5,g6,g7⟩:=eZ b (a.eval x).cells.toList (row * st+off) w h3 (by simp only [gD];rw [← hst];omega)
 simp only [gD,el,hlen] at g3
 have hspl:(dN r off cs).length=r.length:=jE _ _ _ (by omega)
 have hs:=s.write (o':={ ob with rows:=ob.rows.set row (dN r off cs) }) hob hb h3 g1 g2 g4 g5 g6 g7 rfl ⟨fun i q hq=>by
   simp only at hq ⊢
   rw [List.getElem?_set] at hq
   split at hq
   ·cases hq;omega
   ·exact h6 i q hq,by simpa [g2] using h7,fun i j q y hq hy=>by
   simp only at hq hy ⊢
   rw [List.getElem?_set] at hq
   rw [g3]
   split at hq
   ·rename_i hri
    subst hri
    cases hq
    rw [n9 _ _ _ (by omega)] at hy
    by_cases hin:off≤j∧j<off+cs.length
    ·rw [bz hin] at hy
     rw [bz (by rw [← hst];omega)]
     obtain ⟨u,hu,hr'⟩:=hv.get hy
     refine ⟨u,by rw [← hu];congr 1;rw [← hst];omega,?_⟩
     cases hrec:ob.isRec with
     | true=>exact hr'
     | false =>
      rw [hrec] at himm
      simp only [qo] at himm
      exact rf hr' (de.1 himm y (gE hy))
    ·rw [aV hin] at hy
     rw [aV (by rw [← hst];omega)]
     exact h8 _ _ _ _ hr hy
   ·rename_i hri
    have hj:j<ob.st:=by rw [← h6 i q hq];exact (dL.1 hy).1
    rw [aV (fun hh=>hri (by
     rw [← hst] at hh
     exact ((pr (k:=row) hj).1 ⟨by omega,by omega⟩).symm))]
    exact h8 _ _ _ _ hq hy⟩
 exact ⟨undef,_,bl,.inr ⟨hrun,rfl⟩,hs,trivial⟩
theorem JF (s:aD c bl g h a w) {d:Nat} {t e:TypeId} {st:Nat} {z:List AV} {l cp:Operand} {lv cv:IV} (ho:o.op = .makeSlice t l cp) (hap:gK P t=some (e,st)) (hz:gp P e=some z) (hl:cV l=some lv) (hcp:cV cp=some cv)
  {n m:Int} (e1:val g lv = .int .i64 n) (e2:val g cv = .int .i64 m) (h0:0≤n) (h1:n≤m) (h2:m<1073741824) (hzl:z.length=st)
  (hd:h d=none) (hu:bP d g h) (hid:d<1000∨2000≤d):aM P c o a w g h (.ms d st 0 n.toNat) (.new d ⟨e,st,List.replicate n.toNat z,false⟩):=by
 unfold gK at hap
 split at hap
 case h_2=>cases hap
 rename_i e' ht
 split at hap
 case h_2=>cases hap
 rename_i i z' hi hz'
 split at hap
 case isFalse=>cases hap
 rename_i hcond
 obtain ⟨hb1,hb2,hb3,hb4⟩:=hcond
 cases hap
 rw [hz] at hz'
 cases hz'
 obtain ⟨i',v,h4,h5,h6,_⟩:=ei (M:=aY bl c.MF h) (w:=w) hz
 rw [hi] at h4
 cases h4
 have r1:=aJ s hl
 have r2:=aJ s hcp
 rw [e1] at r1
 rw [e2] at r2
 have hzr:=pw (len:=m.toNat) h6 rfl (by omega)
 rw [hb3] at hzr
 refine f6 (q:=false) (w':=w.alloc (.cells ((Array.range (m.toNat * i.size)).map (v.cells[· % v.cells.size]!)) e)) (cs:=(Array.range (m.toNat * i.size)).map (v.cells[· % v.cells.size]!)) (fr:=(0,0)) (cap:=m.toNat) s hd hu hid ?_ rfl rfl rfl (fR _) ?_ ?_ (by omega) (by simp) ?_ (fun h=>by cases h)
 ·have hwl:IntKind.i64.wrap n=n:=IntWalk.i64_in _ (by omega)
  have hwm:IntKind.i64.wrap m=m:=IntWalk.i64_in _ (by omega)
  have hbig:¬((i.bytes:Int) * m>2 ^ 48):=by
   have:(i.bytes:Int) * m≤1024 * m:=Int.mul_le_mul_of_nonneg_right (by omega) (by omega)
   omega
  have hbig2:¬(281474976710656:Int)<(i.bytes:Int) * m:=by simpa using hbig
  have hm0:¬m<0:=by omega
  have hn0:¬n<0:=by omega
  have hnm:¬n>m:=by omega
  have hnm':¬m<n:=by omega
  simp only [execOp,ho,r1.int,r2.int]
  by_cases hz0:m.toNat * i.size=0
  ·simp [Instr.makeSlice,underlying,ht,asInt,asIntOf,typeInfo,hi,hwl,hwm,hbig2,hm0,hn0,hnm',sizeOf,hz0,newRow]
   have hr0:Array.range 0 = #[]:=by simp
   rw [hr0,Array.map_empty,Array.map_empty]
  ·simp [Instr.makeSlice,underlying,ht,asInt,asIntOf,typeInfo,hi,hwl,hwm,hbig2,hm0,hn0,hnm',sizeOf,hz0,newRow,zeroValue,h5]
 ·intro k r hr
  rw [List.getElem?_replicate] at hr
  split at hr
  ·cases hr;exact hb3
  ·cases hr
 ·simp only [List.length_replicate,hzr.2.1]
  exact iA _ (by omega)
 ·intro k j r x hr hx
  refine hzr.2.2 k j r x ?_ hx
  rw [List.getElem?_replicate] at hr ⊢
  split at hr
  ·cases hr;rw [bz (by omega)]
  ·cases hr
end
section
variable {P:Program} {c:je} {bl:Nat→Option Nat} {g:Nat→AV} {h:Nat→Option ah} {a:Act} {w w':World} {o:Oper} {M:Nat→Prop}
theorem aD.newS (s:aD c bl g h a w) {i:Nat} {o:ah} {ob:Obj} (hi:h i=none) (hu:bP i g h)
  (hid:i<1000∨2000≤i) (hw:w'.heap=w.heap.push ob) (hos:w'.os=w.os) (hout:w'.output=w.output) (hrows:o.rows=[]) (hrec:o.isRec=false)
  (hrel:py o.k w' w.heap.size) :
  aD c (cI bl i (some w.heap.size)) g (cI h i (some o)) a w':=by
 have hbl:∀j,j≠i→cI bl i (some w.heap.size) j=bl j:=fun j hj=>bH _ _ hj
 have hlt:∀j oj b,h j=some oj→bl j=some b→b<w.heap.size:=fun j oj b h1 h2=>by
  rcases s.heap.1 j oj h1 with h3 | ⟨b',h3,hO⟩
  ·rw [h3.2.2] at h2;cases h2
  ·rw [h2] at h3;cases h3;exact hO.lt
 have hmut:∀b,aY (cI bl i (some w.heap.size)) c.MF (cI h i (some o)) b→aY bl c.MF h b∨b=w.heap.size:=by
  rintro b (hm | ⟨j,oj,h1,h2⟩)
  ·exact .inl (.inl hm)
  ·by_cases hj:j=i
   ·subst hj;rw [bo] at h2;cases h2;exact .inr rfl
   ·rw [bH _ _ hj] at h1 h2;exact .inl (.inr ⟨j,oj,h1,h2⟩)
 have hpush:∀b,b<w.heap.size→w'.heap[b]? = w.heap[b]?:=fun b hb=>by
  rw [hw,Array.getElem?_push];simp [Nat.ne_of_lt hb]
 have ht:Tr (aY bl c.MF h) (aY (cI bl i (some w.heap.size)) c.MF (cI h i (some o))) w w':=by
  refine ⟨fun b hb hlt'=>⟨fun hm=>?_,hpush b hlt'⟩,fun b c1 t f1 hb=>⟨c1,f1,by rw [hpush b (be hb)];exact hb,rfl⟩⟩
  rcases hmut b hm with hm | hm
  ·exact hb hm
  ·exact absurd hm (Nat.ne_of_lt hlt')
 refine ⟨s.defers,s.size,fun k=>(s.env k).tr ht (fun id hmi=>hbl id (fun e=>?_)),⟨fun id o1 h1=>?_,fun id id' o1 o2 b h1 h2 h3 h4=>?_⟩,?_,fun id o1 b h1 h2=>?_,fun id h1 h2=>?_,s.mf⟩
 ·subst e;rw [hu.1 k] at hmi;cases hmi
 ·by_cases hj:id=i
  ·subst hj
   rw [bo] at h1
   cases h1
   refine .inr ⟨w.heap.size,bo _ _ _,.inr ⟨hrows,hrec,fun hm=>?_,hrel⟩⟩
   exact absurd (s.mf _ hm) (Nat.not_lt.2 s.step.size)
  ·rw [bH _ _ hj] at h1
   rcases s.heap.1 id o1 h1 with h3 | ⟨b,h3,⟨hk0,c1,f1,h4,h5,h6,h7,h8,h9⟩ | hsp⟩
   ·exact .inl ⟨h3.1,h3.2.1,by rw [hbl id hj];exact h3.2.2⟩
   rotate_left
   ·exact .inr ⟨b,by rw [hbl id hj];exact h3,.inr (hsp.tr (hpush b hsp.rel.lt))⟩
   ·refine .inr ⟨b,by rw [hbl id hj];exact h3,.inl ⟨hk0,c1,f1,by rw [hpush b (be h4)];exact h4,h5,h6,h7,h8,fun k j r x hk hx=>?_⟩⟩
    obtain ⟨v,hv1,hv2⟩:=h9 k j r x hk hx
    refine ⟨v,hv1,hv2.tr ht (fun hr id' hmi=>hbl id' (fun e=>?_))⟩
    subst e
    rw [hu.2 id o1 h1 hr r (gE hk) x (gE hx)] at hmi
    cases hmi
 ·by_cases hj:id=i<;>by_cases hj':id'=i
  ·rw [hj,hj']
  ·subst hj
   rw [bo] at h3
   cases h3
   rw [bH _ _ hj'] at h2 h4
   exact absurd (hlt _ _ _ h2 h4) (Nat.lt_irrefl _)
  ·subst hj'
   rw [bo] at h4
   cases h4
   rw [bH _ _ hj] at h1 h3
   exact absurd (hlt _ _ _ h1 h3) (Nat.lt_irrefl _)
  ·rw [bH _ _ hj] at h1 h3
   rw [bH _ _ hj'] at h2 h4
   exact s.heap.2 _ _ _ _ _ h1 h2 h3 h4
 ·refine s.step.trans (X:=fun _=>False) ⟨by rw [hw];simp,fun b hb _=>hpush b hb,ht.shape,hos,hout⟩ (fun _ _ h=>h.elim)
 ·by_cases hj:id=i
  ·subst hj
   rw [bo] at h2
   cases h2
   exact .inl s.step.size
  ·rw [bH _ _ hj] at h1 h2
   exact s.own id o1 b h1 h2
 ·rw [hbl id (by omega)]
  exact s.stab id h1 h2
theorem aD.writeS (s:aD c bl g h a w) {i b:Nat} {o o':ah} (hi:h i=some o) (hb:bl i=some b) (hsp:tQ c.MF w o b)
  (hrows:o'.rows=[]) (hrec:o'.isRec=false) (hrel:py o'.k w' b) (hsize:w'.heap.size=w.heap.size)
  (hother:∀b',b'≠b→w'.heap[b']? = w.heap[b']?) (hos:w'.os=w.os) (hout:w'.output=w.output):aD c bl g (cI h i (some o')) a w':=by
 have hm:∀b,aY bl c.MF (cI h i (some o')) b↔aY bl c.MF h b:=aY.congr (fun j=>by
  by_cases hj:j=i
  ·subst hj;simp [bo,hi]
  ·rw [bH _ _ hj])
 have hmb:aY bl c.MF h b:=.inr ⟨i,o,hi,hb⟩
 have hshape:∀(b':Nat) (c0:Array Value) (t:TypeId) (f0:Nat×Nat),w.heap[b']? = some (.cells c0 t f0)→∃(c':Array Value) (f1:Nat×Nat),w'.heap[b']? = some (.cells c' t f1)∧c'.size=c0.size:=by
  intro b' c0 t f0 hb'
  by_cases hbb:b'=b
  ·subst hbb
   exact (hsp.ne hb').elim
  ·exact ⟨c0,f0,by rw [hother b' hbb];exact hb',rfl⟩
 have ht:Tr (aY bl c.MF h) (aY bl c.MF (cI h i (some o'))) w w' :=
  ⟨fun b' hb' _=>⟨fun hmm=>hb' ((hm b').1 hmm),hother b' (fun e=>hb' (e▸hmb))⟩,hshape⟩
 refine ⟨s.defers,s.size,fun k=>(s.env k).tr ht (fun _ _=>rfl),⟨fun id o1 h3=>?_,fun id id' o1 o2 b' h3 h4=>?_⟩,?_,fun id o1 b' h3=>?_,s.stab,s.mf⟩
 ·by_cases hj:id=i
  ·subst hj
   rw [bo] at h3
   cases h3
   exact .inr ⟨b,hb,.inr ⟨hrows,hrec,hsp.free,hrel⟩⟩
  ·rw [bH _ _ hj] at h3
   rcases s.heap.1 id o1 h3 with g3 | ⟨b',g3,⟨hk0,c0,f0,g4,g5,g6,g7,g8,g9⟩ | hsp'⟩
   ·exact .inl g3
   rotate_left
   ·have hbb:b'≠b:=fun e=>hj (s.heap.2 id i o1 o b h3 hi (e▸g3) hb)
    exact .inr ⟨b',g3,.inr (hsp'.tr (hother b' hbb))⟩
   ·have hbb:b'≠b:=fun e=>hj (s.heap.2 id i o1 o b h3 hi (e▸g3) hb)
    refine .inr ⟨b',g3,.inl ⟨hk0,c0,f0,by rw [hother b' hbb];exact g4,g5,g6,g7,g8,fun k j r x hk hx=>?_⟩⟩
    obtain ⟨v,hv1,hv2⟩:=g9 k j r x hk hx
    exact ⟨v,hv1,hv2.tr ht (fun _ _ _=>rfl)⟩
 ·have key:∀{j oj},cI h i (some o') j=some oj→∃o0,h j=some o0:=fun {j oj} hj=>by
   by_cases hji:j=i
   ·subst hji;exact ⟨o,hi⟩
   ·rw [bH _ _ hji] at hj;exact ⟨oj,hj⟩
  obtain ⟨p,hp⟩:=key h3
  obtain ⟨q,hq⟩:=key h4
  exact s.heap.2 id id' p q b' hp hq
 ·refine s.step.trans (X:=fun b'=>b'=b) ⟨Nat.le_of_eq hsize.symm,fun b' _ hb'=>hother b' hb',hshape,hos,hout⟩ (fun b' hlt hb'=>?_)
  subst hb'
  rcases s.own i o b' hi hb with h5 | h5
  ·exact absurd hlt (Nat.not_lt.2 h5)
  ·exact h5
 ·by_cases hj:id=i
  ·subst hj;exact s.own id o b' hi
  ·rw [bH _ _ hj] at h3;exact s.own id o1 b' h3
theorem Bh (s:aD c bl g h a w) {v:Value} {id:Nat} {k:Bool} {ob:ah} (hv:aT bl (aY bl c.MF h) w v (.mm id k)) (hob:h id=some ob) (hk:ob.k≠Kd.cells) :
  ∃b,bl id=some b∧(v=if k=true then .map (some b) else .pointer (some ⟨b,0,none⟩))∧tQ c.MF w ob b:=by
 obtain ⟨b,h1,h2⟩:=hv
 rcases s.heap.1 id ob hob with hn | ⟨b',h3,⟨h4,_⟩ | hsp⟩
 ·rw [hn.2.2] at h1;cases h1
 ·exact absurd h4 hk
 ·rw [h1] at h3;cases h3;exact ⟨b,h1,h2,hsp⟩
theorem fM {v:Value} {x:AV} (hv:aT bl M w v x) (hf:gO x=true):dj v x:=by
 cases x<;>first | (simp [gO] at hf;done) | skip
 ·exact hv.bool
 ·exact hv.int
 ·exact hv.str
theorem fg {v:Value} {x:AV} (hv:dj v x):IRel M w v x:=by
 cases x<;>simp only [dj] at hv<;>first | (exact hv.elim) | (subst hv;constructor)
theorem nq (w:World) {b:Nat} (hb:b<w.heap.size) (ob:Obj):({ w with heap:=w.heap.setIfInBounds b ob }:World).heap[b]? = some ob∧({ w with heap:=w.heap.setIfInBounds b ob }:World).heap.size=w.heap.size ∧
  ∀b',b'≠b→({ w with heap:=w.heap.setIfInBounds b ob }:World).heap[b']? = w.heap[b']?:=by
 refine ⟨by simp [hb],by simp,fun b' hb'=>by simp [qp,Ne.symm hb']⟩
theorem gW {w:World} {r:Nat} {ob:Obj} (hb:w.heap[r]? = some ob) (hn:∀c t fr,ob≠.cells c t fr):(getObj r).run P w = .ok ob w:=by
 cases ob<;>first | (exact absurd rfl (hn _ _ _)) | simp [getObj,Sem.run,hb]
theorem JM (s:aD c bl g h a w) {t:TypeId} {x:Operand} {xv:IV} {l:List UInt8} {d:Nat} (ho:o.op = .range t x) (ht:P.underlying t=some .string) (hx:cV x=some xv) (hv:val g xv = .str l)
  (hd:h d=none) (hu:bP d g h) (hid:d<1000∨2000≤d):aM P c o a w g h (.mm d false) (.new d (@ah.mk 0 0 [] false (.it l 0))):=by
 have h1:=aJ s hx
 rw [hv] at h1
 have h2:a.eval x = .string ⟨l.toArray⟩:=h1.str
 have hs:=s.newS (i:=d) (o:=@ah.mk 0 0 [] false (.it l 0)) (ob:=.stringIter ⟨l.toArray⟩ 0) (w':={ w with heap:=w.heap.push (.stringIter ⟨l.toArray⟩ 0) }) hd hu hid rfl rfl rfl rfl rfl (by simp [py])
 refine ⟨.pointer (some ⟨w.heap.size,0,none⟩),_,_,.inl ?_,hs,w.heap.size,bo _ _ _,by simp⟩
 simp [execOp,ho,Instr.range,run_underlying ht,h2,newObj,Sem.run]
theorem JL (s:aD c bl g h a w) {x:Operand} {xv:IV} {id:Nat} {ob:ah} {r:AV} {e:aP} (ho:o.op = .next x true) (hx:cV x=some xv) (hv:val g xv = .mm id false) (hob:h id=some ob) (he:pA id ob=some (r,e)) :
  aM P c o a w g h r e:=by
 unfold pA J4 at he
 cases hk:ob.k with
 | cells=>rw [hk] at he;cases he
 | mp es=>rw [hk] at he;cases he
 | it l pos =>
  rw [hk] at he
  simp only at he
  have h1:=aJ s hx
  rw [hv] at h1
  obtain ⟨b,h2,h3,hsp⟩:=Bh s h1 hob (by rw [hk];intro hh;cases hh)
  have hr:=hsp.rel
  rw [hk] at hr
  have hb:w.heap[b]? = some (.stringIter ⟨l.toArray⟩ pos):=hr
  have hg:=gW (P:=P) hb (fun _ _ _ hh=>by cases hh)
  have hsz:(⟨l.toArray⟩:ByteArray).size=l.length:=by simp [ByteArray.size]
  simp only [rZ,j8] at h3
  split at he
  ·rename_i hlt
   cases he
   obtain ⟨q1,q2,q3⟩:=nq w (be hb) (.stringIter ⟨l.toArray⟩ (pos+(Utf8.decode ⟨l.toArray⟩ pos).2))
   have hs:=s.writeS (o':={ ob with k:=.it l (pos+(Utf8.decode ⟨l.toArray⟩ pos).2) }) hob h2 hsp hsp.rows hsp.isRec q1 q2 q3 rfl rfl
   refine ⟨.tuple #[.bool true,goInt pos,.int .i32 (Utf8.decode ⟨l.toArray⟩ pos).1],_,_,.inl ?_,hs,[_,_,_],rfl,IRel.bool _,IRel.int _ _,IRel.int _ _,trivial⟩
   simp [execOp,ho,Instr.next,h3,hg,hsz,hlt,setObj,Sem.run,hb]
  ·rename_i hlt
   cases he
   exact aM.pure s (r:=.tuple #[.bool false]) (by simp [execOp,ho,Instr.next,h3,hg,hsz,hlt]) ⟨[_],rfl,IRel.bool _,trivial⟩
theorem JE (s:aD c bl g h a w) {t:TypeId} {d:Nat} (ho:o.op = .makeMap t none)
  (hd:h d=none) (hu:bP d g h) (hid:d<1000∨2000≤d):aM P c o a w g h (.mm d true) (.new d (@ah.mk 0 0 [] false (.mp []))):=by
 have hs:=s.newS (i:=d) (o:=@ah.mk 0 0 [] false (.mp [])) (ob:=.map #[] 0) (w':={ w with heap:=w.heap.push (.map #[] 0) }) hd hu hid rfl rfl rfl rfl rfl ⟨#[],by simp,by simp,trivial⟩
 refine ⟨.map (some w.heap.size),_,_,.inl ?_,hs,w.heap.size,bo _ _ _,by simp⟩
 simp [execOp,ho,Instr.makeMap,newObj,Sem.run]
def kG (es':List MapEntry) (es:List (AV×AV)):Prop:=aK (fun (e:MapEntry) (p:AV×AV)=>dj e.key p.1∧dj e.val p.2) es' es
theorem nE (s:aD c bl g h a w) {x:Operand} {xv:IV} {id:Nat} {ob:ah} {es:List (AV×AV)} (hx:cV x=some xv) (hv:val g xv = .mm id true) (hob:h id=some ob) (he:ke ob=some es) :
  ∃b es',bl id=some b∧a.eval x = .map (some b)∧tQ c.MF w ob b∧w.heap[b]? = some (.map es' es'.size)∧(∀(i:Nat) (e:MapEntry),es'[i]? = some e→e.born=i)∧kG es'.toList es:=by
 unfold ke at he
 cases hk:ob.k with
 | cells=>rw [hk] at he;cases he
 | it l pos=>rw [hk] at he;cases he
 | mp es0 =>
  rw [hk] at he
  cases he
  have h1:=aJ s hx
  rw [hv] at h1
  obtain ⟨b,h2,h3,hsp⟩:=Bh s h1 hob (by rw [hk];intro hh;cases hh)
  have hr:=hsp.rel
  rw [hk] at hr
  obtain ⟨es',h4,h5,h6⟩:=hr
  exact ⟨b,es',h2,by simpa using h3,hsp,h4,h5,h6⟩
theorem JH (s:aD c bl g h a w) {cl:Call} {t k0 e0:TypeId} {x:Operand} {xv:IV} {id:Nat} {ob:ah} {es:List (AV×AV)} (ho:o.op = .call cl) (hcl:cl.callee = .builtin .len) (hat:cl.argTypes = #[t]) (har:cl.args = #[x])
  (ht:P.underlying t=some (.map k0 e0)) (hx:cV x=some xv) (hv:val g xv = .mm id true) (hob:h id=some ob) (he:ke ob=some es):aM P c o a w g h (.int .i64 es.length) .no:=by
 obtain ⟨b,es',h1,h2,h3,h4,h5,h6⟩:=nE s hx hv hob he
 have hg:=gW (P:=P) h4 (fun _ _ _ hh=>by cases hh)
 have hl:=h6.length
 simp only [gD] at hl
 exact aM.pure s (r:=goInt es'.size) (by simp [execOp,ho,resolve,hcl,har,hat,invoke,builtin,Builtin.len_,run_underlying ht,h2,hg]) (by rw [goInt,hl];exact i6 _ _)
def Ks (kd:KK) (u:TypeDesc):Prop :=
 match kd with
 | .i=>∃k,u = .int k
 | .s=>u = .string
 | .b=>u = .bool
theorem wz {t:TypeId} {kd:KK} (hk:IU P t=some kd):∃u,P.underlying t=some u∧Ks kd u:=by
 unfold IU at hk
 split at hk<;>cases hk
 ·rename_i k h1;exact ⟨_,h1,k,rfl⟩
 ·rename_i h1;exact ⟨_,h1,rfl⟩
 ·rename_i h1;exact ⟨_,h1,rfl⟩
theorem BW {kd:KK} {u:TypeDesc} (hu:Ks kd u) {key key':Value} {x x':AV} {r:Bool} (h1:aT bl M w key x) (h2:dj key' x') (hs:uP kd x x'=some r):Instr.sameNow u key key'=some r:=by
 cases kd<;>cases x<;>cases x'<;>simp only [uP,reduceCtorEq,bO] at hs
 ·rename_i k n k' n'
  split at hs
  case isFalse=>cases hs
  rename_i hk
  subst hk
  rw [h1.int]
  cases h2
  obtain ⟨k0,rfl⟩:=hu
  simpa [Instr.sameNow] using hs
 ·rw [h1.str]
  cases h2
  cases hu
  subst hs
  simp only [Instr.sameNow,bO]
  rename_i l1 l2
  change (l1.toArray==l2.toArray)=_
  simp
 ·rw [h1.bool]
  cases h2
  cases hu
  simpa [Instr.sameNow] using hs
theorem y9 {kd:KK} {u:TypeDesc} (hu:Ks kd u) {key:Value} {x:AV} (h1:aT bl M w key x):∀{es':List MapEntry} {es:List (AV×AV)} {r:Option Nat} (i:Nat),kG es' es→gg kd x es=some r →
  Instr.findNow u key es' i=some (match r with | none=>none | some j=>(es'[j]?).map fun e=>(i+j,e.val))∧∀j,r=some j→j<es'.length
 | [],[],r,i,_,hf=>by
  simp only [gg,bO] at hf
  subst hf
  exact ⟨rfl,fun j hj=>by cases hj⟩
 | e :: es',p :: es,r,i,hE,hf=>by
  simp only [gg] at hf
  split at hf
  ·rename_i hs
   cases hf
   refine ⟨?_,fun j hj=>by cases hj;simp⟩
   simp [Instr.findNow,BW hu h1 hE.1.1 hs]
  ·rename_i hs
   simp only [cq] at hf
   obtain ⟨q,hq,rfl⟩:=hf
   obtain ⟨h3,h4⟩:=y9 hu h1 (i+1) hE.2 hq
   refine ⟨?_,fun j hj=>?_⟩
   ·simp only [Instr.findNow,BW hu h1 hE.1.1 hs,h3]
    cases q with
    | none=>rfl
    | some j=>simp [FS,Nat.add_comm 1 j]
   ·cases q with
    | none=>cases hj
    | some j'=>cases hj;have:=h4 j' rfl;simp;omega
  ·cases hf
 | [],_ :: _,_,_,hE,_=>hE.elim
 | _ :: _,[],_,_,hE,_=>hE.elim
theorem jZ {t:TypeId} {z:AV} (hz:uS P t=some z):∃i v,P.info? t=some i∧i.zero=some v∧dj v z:=by
 unfold uS at hz
 split at hz
 ·rename_i i hi
  split at hz<;>cases hz
  ·rename_i b hv;exact ⟨i,_,hi,hv,rfl⟩
  ·rename_i k n hv;exact ⟨i,_,hi,hv,rfl⟩
  ·rename_i l hv;exact ⟨i,_,hi,hv,by simp [dj]⟩
 ·cases hz
theorem jq {t:TypeId} {kd:KK} {z:AV} (hz:md P t=some (kd,z)):∃k e u,P.underlying t=some (.map k e)∧P.underlying k=some u∧Ks kd u∧uS P e=some z:=by
 unfold md at hz
 split at hz
 ·rename_i k e h1
  split at hz
  ·rename_i kd' z' h2 h3
   cases hz
   obtain ⟨u,h4,h5⟩:=wz h2
   exact ⟨k,e,u,h1,h4,h5,h3⟩
  ·cases hz
 ·cases hz
theorem cg {kd:KK} {u:TypeDesc} {t:TypeId} (hu:Ks kd u) (ht:P.underlying t=some u) (b:Bool) (v:Value):(Instr.checkKey b 10000 t v).run P w = .ok () w:=by
 have key:∀n,(Instr.checkKey b (n+1) t v).run P w = .ok () w:=fun n=>by
  cases kd
  ·obtain ⟨k,rfl⟩:=hu
   simp only [Instr.checkKey,Sem.run_bind,run_underlying ht,Result.andThen_ok]
   rfl
  ·cases hu
   simp only [Instr.checkKey,Sem.run_bind,run_underlying ht,Result.andThen_ok]
   rfl
  ·cases hu
   simp only [Instr.checkKey,Sem.run_bind,run_underlying ht,Result.andThen_ok]
   rfl
 exact key 9999
theorem dC {kd:KK} {u:TypeDesc} {t:TypeId} (hu:Ks kd u) (ht:P.underlying t=some u) {key:Value} {x:AV} (h1:aT bl M w key x) {es':List MapEntry} {es:List (AV×AV)} {r:Option Nat} (hE:kG es' es) (hf:gg kd x es=some r) :
  (Instr.findKey t key es').run P w = .ok (r.bind fun j=>(es'[j]?).map fun e=>(j,e.val)) w∧∀j,r=some j→j<es'.length:=by
 obtain ⟨h2,h3⟩:=y9 hu h1 0 hE hf
 refine ⟨?_,h3⟩
 simp only [Nat.zero_add] at h2
 simp only [Instr.findKey,Sem.run_bind,run_underlying ht,Result.andThen_ok,h2]
 cases r<;>rfl
theorem na {es':List MapEntry} {es:List (AV×AV)} (hE:kG es' es) {j:Nat} (hj:j<es'.length):∃e p,es'[j]? = some e∧es[j]? = some p∧dj e.key p.1∧dj e.val p.2:=by
 have hl:=hE.length
 have h1:es[j]? = some (es[j]'(by omega)):=fu _
 obtain ⟨e,h2,h3⟩:=hE.get h1
 exact ⟨e,_,h2,h1,h3⟩
theorem uK (s:aD c bl g h a w) {t:TypeId} {x y:Operand} {yv:IV} {ok:Bool} {kd:KK} {z r:AV} {ob:ah} {e:aP} (ho:o.op = .lookup t x y ok) (ht:md P t=some (kd,z)) (hy:cV y=some yv)
  (hm:∀es,ke ob=some es→∃b es',a.eval x = .map (some b)∧w.heap[b]? = some (.map es' es'.size)∧kG es'.toList es) (he:jK ok kd z (val g yv) ob=some (r,e)):aM P c o a w g h r e:=by
 obtain ⟨k,el,u,q1,q2,q3,q4⟩:=jq ht
 unfold jK at he
 split at he
 case h_2=>cases he
 rename_i es hes
 obtain ⟨b,es',h2,h4,h6⟩:=hm es hes
 have hg:=gW (P:=P) h4 (fun _ _ _ hh=>by cases hh)
 have hk:=aJ s hy
 split at he
 ·rename_i i hf
  obtain ⟨f1,f2⟩:=dC (P:=P) q3 q2 hk h6 hf
  obtain ⟨en,p,e1,e2,e3,e4⟩:=na h6 (f2 i rfl)
  rw [e2] at he
  simp only [bO,Prod.mk.injEq] at he
  obtain ⟨rfl,rfl⟩:=he
  simp only [Option.bind_some,e1,dM] at f1
  cases ok
  ·exact aM.pure s (r:=en.val) (by simp [execOp,ho,Instr.lookup,run_underlying q1,h2,hg,cg q3 q2,f1]) (IRel.toC (fg e4)).toV
  ·exact aM.pure s (r:=.tuple #[en.val,.bool true]) (by simp [execOp,ho,Instr.lookup,run_underlying q1,h2,hg,cg q3 q2,f1]) ⟨[_,_],rfl,(IRel.toC (fg e4)).toG,IRel.bool _,trivial⟩
 ·rename_i hf
  obtain ⟨f1,f2⟩:=dC (P:=P) q3 q2 hk h6 hf
  simp only [Option.bind_none] at f1
  obtain ⟨i,zv,z1,z2,z3⟩:=jZ q4
  have hz:(zeroValue el).run P w = .ok zv w:=by simp [zeroValue,typeInfo,z1,z2]
  simp only [bO,Prod.mk.injEq] at he
  obtain ⟨rfl,rfl⟩:=he
  cases ok
  ·exact aM.pure s (r:=zv) (by simp [execOp,ho,Instr.lookup,run_underlying q1,h2,hg,cg q3 q2,f1,hz]) (IRel.toC (fg z3)).toV
  ·exact aM.pure s (r:=.tuple #[zv,.bool false]) (by simp [execOp,ho,Instr.lookup,run_underlying q1,h2,hg,cg q3 q2,f1,hz]) ⟨[_,_],rfl,(IRel.toC (fg z3)).toG,IRel.bool _,trivial⟩
 ·cases he
theorem JG (s:aD c bl g h a w) {t:TypeId} {x y:Operand} {xv yv:IV} {ok:Bool} {kd:KK} {z r:AV} {id:Nat} {ob:ah} {e:aP} (ho:o.op = .lookup t x y ok) (ht:md P t=some (kd,z)) (hx:cV x=some xv) (hy:cV y=some yv)
  (hv:val g xv = .mm id true) (hob:h id=some ob) (he:jK ok kd z (val g yv) ob=some (r,e)):aM P c o a w g h r e :=
 uK s ho ht hy (fun es hes=>by
  obtain ⟨b,es',h1,h2,h3,h4,h5,h6⟩:=nE s hx hv hob hes
  exact ⟨b,es',h2,h4,h6⟩) he
theorem EX (s:aD c bl g h a w) {t:TypeId} {x y:Operand} {xv yv:IV} {ok:Bool} {kd:KK} {z r:AV} {es:List (AV×AV)} {e:aP} (ho:o.op = .lookup t x y ok) (ht:md P t=some (kd,z)) (hx:cV x=some xv) (hy:cV y=some yv)
  (hv:val g xv = .fm es) (he:jK ok kd z (val g yv) (@ah.mk 0 0 [] false (.mp es))=some (r,e)):aM P c o a w g h r e:=by
 have h1:=aJ s hx
 rw [hv] at h1
 have h2:IRel (aY bl c.MF h) w (a.eval x) (.fm es):=h1
 generalize hq:a.eval x=q at h2
 cases h2 with
 | fm b es' es hb hM hn he'=>exact uK s ho ht hy (fun es1 hes=>by cases hes;exact ⟨b,es',hq,hb,he'⟩) he
 | nm =>
  obtain ⟨k,el,u,q1,q2,q3,q4⟩:=jq ht
  have hk:=aJ s hy
  have hE:kG ([]:List MapEntry) []:=trivial
  obtain ⟨f1,f2⟩:=dC (P:=P) (es':=[]) (es:=[]) (r:=none) q3 q2 hk hE rfl
  simp only [Option.bind_none] at f1
  obtain ⟨i,zv,z1,z2,z3⟩:=jZ q4
  have hz:(zeroValue el).run P w = .ok zv w:=by simp [zeroValue,typeInfo,z1,z2]
  simp only [jK,ke,gg,bO,Prod.mk.injEq] at he
  obtain ⟨rfl,rfl⟩:=he
  cases ok
  ·exact aM.pure s (r:=zv) (by simp [execOp,ho,Instr.lookup,run_underlying q1,hq,cg q3 q2,f1,hz]) (IRel.toC (fg z3)).toV
  ·exact aM.pure s (r:=.tuple #[zv,.bool false]) (by simp [execOp,ho,Instr.lookup,run_underlying q1,hq,cg q3 q2,f1,hz]) ⟨[_,_],rfl,(IRel.toC (fg z3)).toG,IRel.bool _,trivial⟩
theorem oD {v v':Value} {x:AV} (h1:dj v x) (h2:dj v' x):Instr.sameBits 10000 v v'=true:=by
 cases x<;>simp only [dj] at h1 h2<;>first | (exact h1.elim) | skip
 all_goals
  subst h1
  subst h2
  first
   | (simp [Instr.sameBits];done)
   | (rename_i l;show ((l.toArray==l.toArray)=true);simp)
theorem oa {v v':Value} {x:AV} (h1:dj v x) (h2:dj v' x):(Instr.keyThatStays v v').run P w = .ok v' w:=by
 simp [Instr.keyThatStays,oD h1 h2]
theorem jQ {kd:KK} {x:AV} (hx:gO x=true):∀{es:List (AV×AV)} {j:Nat} {p:AV×AV},gg kd x es=some (some j)→es[j]? = some p→p.1=x
 | [],j,p,hf,_=>by simp [gg] at hf
 | e :: es,j,p,hf,hp=>by
  simp only [gg] at hf
  split at hf
  ·rename_i hs
   cases hf
   simp at hp
   subst hp
   cases kd<;>cases x<;>cases h1:e.1<;>rw [h1] at hs<;>simp only [uP,reduceCtorEq,bO] at hs
   ·split at hs
    ·rename_i hk;subst hk;simp at hs;rw [hs]
    ·cases hs
   ·simp at hs;rw [hs]
   ·simp at hs;rw [hs]
  ·simp only [cq] at hf
   obtain ⟨q,hq,hj⟩:=hf
   cases q with
   | none=>simp at hj
   | some j' =>
    simp at hj
    subst hj
    exact jQ hx hq (by simpa using hp)
  ·cases hf
theorem iY {es':List MapEntry} {es:List (AV×AV)} (hE:kG es' es) {j:Nat} {f:MapEntry→MapEntry} {q:AV×AV→AV×AV}
  (hfq:∀e p,es'[j]? = some e→es[j]? = some p→dj e.key p.1→dj e.val p.2→dj (f e).key (q p).1∧dj (f e).val (q p).2):kG (es'.modify j f) (es.modify j q):=by
 refine aK.of_get (by simpa using hE.length) fun i e p h1 h2=>?_
 rw [List.getElem?_modify] at h1 h2
 simp only [Option.map_eq_map,cq] at h1 h2
 obtain ⟨e0,h1,rfl⟩:=h1
 obtain ⟨p0,h2,rfl⟩:=h2
 obtain ⟨e1,h3,h4⟩:=hE.get h2
 rw [h1] at h3
 cases h3
 by_cases hj:j=i
 ·subst hj
  simp only [fv]
  exact hfq e0 p0 h1 h2 h4.1 h4.2
 ·simp only [aV hj]
  exact h4
theorem jk (s:aD c bl g h a w) {id b:Nat} {ob:ah} {es2:List (AV×AV)} {es':Array MapEntry} (hob:h id=some ob) (h1:bl id=some b) (hsp:tQ c.MF w ob b)
  (hb:∀(i:Nat) (e:MapEntry),es'[i]? = some e→e.born=i) (hE:kG es'.toList es2) :
  aD c bl (aP.env g (.put id { ob with k:=.mp es2 })) (aP.hp h (.put id { ob with k:=.mp es2 })) a { w with heap:=w.heap.setIfInBounds b (.map es' es'.size) }:=by
 obtain ⟨q1,q2,q3⟩:=nq w hsp.rel.lt (.map es' es'.size)
 exact s.writeS (o':={ ob with k:=.mp es2 }) hob h1 hsp hsp.rows hsp.isRec ⟨es',q1,hb,hE⟩ q2 q3 rfl rfl
theorem ja {w:World} {r:Nat} {es:Array MapEntry} {n:Nat} {ob:Obj} (hb:w.heap[r]? = some (.map es n)):(setObj r ob).run P w = .ok () { w with heap:=w.heap.setIfInBounds r ob }:=by
 simp [setObj,Sem.run,hb]
theorem iV {es':Array MapEntry} (hb:∀(i:Nat) (e:MapEntry),es'[i]? = some e→e.born=i) {j:Nat} {f:MapEntry→MapEntry} (hf:∀e,(f e).born=e.born):∀(i:Nat) (e:MapEntry),(es'.modify j f)[i]? = some e→e.born=i:=fun i e he=>by
 rw [kF] at he
 split at he
 ·simp only [cq] at he
  obtain ⟨e0,h1,rfl⟩:=he
  rw [hf]
  exact hb i e0 h1
 ·exact hb i e he
theorem oM {es':Array MapEntry} (hb:∀(i:Nat) (e:MapEntry),es'[i]? = some e→e.born=i) {k v:Value}:∀(i:Nat) (e:MapEntry),(es'.push { key:=k,val:=v,born:=es'.size })[i]? = some e→e.born=i:=fun i e he=>by
 rw [Array.getElem?_push] at he
 split at he
 ·cases he;rename_i h;exact h.symm
 ·exact hb i e he
theorem oV {es':Array MapEntry} {es:List (AV×AV)} (hE:kG es'.toList es) {k v:Value} {n:Nat} {x y:AV} (h1:dj k x) (h2:dj v y):kG (es'.push { key:=k,val:=v,born:=n }).toList (es++[(x,y)]):=by
 rw [Array.toList_push]
 exact aK.append hE ⟨⟨h1,h2⟩,trivial⟩
theorem oC {t:TypeId} {kd:KK} {z:AV} (ht:md P t=some (kd,z)) {m k v:Value} {x y:AV} {b:Nat} {es':Array MapEntry} {es es2:List (AV×AV)} (hm:m = .map (some b)) (h4:w.heap[b]? = some (.map es' es'.size))
  (h5:∀(i:Nat) (e:MapEntry),es'[i]? = some e→e.born=i) (h6:kG es'.toList es) (hk:aT bl M w k x) (hv:aT bl M w v y) (fx:gO x=true) (fy:gO y=true) (hp:Bx kd x y es=some es2) :
  ∃es2':Array MapEntry,(Instr.mapUpdate t m k v).run P w = .ok () { w with heap:=w.heap.setIfInBounds b (.map es2' es2'.size) }∧(∀(i:Nat) (e:MapEntry),es2'[i]? = some e→e.born=i)∧kG es2'.toList es2:=by
 obtain ⟨kt,el,u,q1,q2,q3,q4⟩:=jq ht
 have hg:=gW (P:=P) h4 (fun _ _ _ hh=>by cases hh)
 unfold Bx at hp
 split at hp
 ·rename_i i hf
  obtain ⟨f1,f2⟩:=dC (P:=P) q3 q2 hk h6 hf
  obtain ⟨en,p,e1,e2,e3,e4⟩:=na h6 (f2 i rfl)
  cases hp
  simp only [Option.bind_some,e1,dM] at f1
  have hpx:p.1=x:=jQ fx hf e2
  rw [hpx] at e3
  have hst:=oa (P:=P) (w:=w) e3 (fM hk fx)
  have e1':es'[i]? = some en:=by simpa using e1
  refine ⟨es'.modify i fun e=>{ e with key:=k,val:=v },?_,iV h5 (fun _=>rfl),?_⟩
  ·simp only [Instr.mapUpdate,Sem.run_bind,run_underlying q1,Result.andThen_ok,hm,hg,cg q3 q2,f1,e1',dM,Option.getD_some,hst,ja h4,Array.size_modify]
  ·rw [Array.toList_modify]
   exact iY h6 fun e p _ _ _ _=>⟨fM hk fx,fM hv fy⟩
 ·rename_i hf
  obtain ⟨f1,f2⟩:=dC (P:=P) q3 q2 hk h6 hf
  cases hp
  simp only [Option.bind_none] at f1
  refine ⟨es'.push { key:=k,val:=v,born:=es'.size },?_,oM h5,oV h6 (fM hk fx) (fM hv fy)⟩
  simp only [Instr.mapUpdate,Sem.run_bind,run_underlying q1,Result.andThen_ok,hm,hg,cg q3 q2,f1,ja h4,Array.size_push]
 ·cases hp
theorem Bn (s:aD c bl g h a w) {t:TypeId} {x y q:Operand} {xv yv qv:IV} {kd:KK} {z r:AV} {id:Nat} {ob:ah} {e:aP} (ho:o.op = .mapUpdate t x y q∨o.op = .insert t x y q) (ht:md P t=some (kd,z)) (hx:cV x=some xv) (hy:cV y=some yv) (hq:cV q=some qv)
  (hv:val g xv = .mm id true) (hob:h id=some ob) (he:mY id kd (val g yv) (val g qv) ob=some (r,e)):aM P c o a w g h r e:=by
 unfold mY at he
 split at he
 case h_2=>cases he
 rename_i es hes
 split at he
 case isFalse=>cases he
 rename_i hfl
 simp only [dK] at hfl
 simp only [cq] at he
 obtain ⟨es2,hp,he⟩:=he
 cases he
 obtain ⟨b,es',h1,h2,h3,h4,h5,h6⟩:=nE s hx hv hob hes
 obtain ⟨es2',r1,r2,r3⟩:=oC (P:=P) ht h2 h4 h5 h6 (aJ s hy) (aJ s hq) hfl.1 hfl.2 hp
 refine ⟨undef,_,bl,.inr ⟨?_,rfl⟩,jk s hob h1 h3 r2 r3,trivial⟩
 rcases ho with ho | ho<;>simp [execOp,ho,r1]
theorem JI (s:aD c bl g h a w) {t:TypeId} {x y:Operand} {xv yv:IV} {kd:KK} {z r:AV} {id:Nat} {ob:ah} {e:aP} (ho:o.op = .mapEntry t x y) (ht:md P t=some (kd,z)) (hx:cV x=some xv) (hy:cV y=some yv)
  (hv:val g xv = .mm id true) (hob:h id=some ob) (he:qE id kd z (val g yv) ob=some (r,e)):aM P c o a w g h r e:=by
 obtain ⟨k,el,u,q1,q2,q3,q4⟩:=jq ht
 unfold qE at he
 split at he
 case h_2=>cases he
 rename_i es hes
 split at he
 case isFalse=>cases he
 rename_i hfl
 obtain ⟨b,es',h1,h2,h3,h4,h5,h6⟩:=nE s hx hv hob hes
 have hg:=gW (P:=P) h4 (fun _ _ _ hh=>by cases hh)
 have hk:=aJ s hy
 split at he
 ·rename_i i hf
  obtain ⟨f1,f2⟩:=dC (P:=P) q3 q2 hk h6 hf
  obtain ⟨en,p,e1,e2,e3,e4⟩:=na h6 (f2 i rfl)
  rw [e2] at he
  simp only [bO,Prod.mk.injEq] at he
  obtain ⟨rfl,rfl⟩:=he
  simp only [Option.bind_some,e1,dM] at f1
  have hpx:p.1=val g yv:=jQ hfl hf e2
  have e3':=e3
  rw [hpx] at e3'
  have hst:=oa (P:=P) (w:=w) e3' (fM hk hfl)
  have e1':es'[i]? = some en:=by simpa using e1
  have hS:=jk (es':=es'.modify i fun e=>{ e with key:=a.eval y }) (es2:=es) s hob h1 h3 (iV h5 (fun _=>rfl)) (by
   rw [Array.toList_modify]
   have:=iY (q:=fun p=>p) (f:=fun e=>{ e with key:=a.eval y }) (j:=i) h6 fun e' p' g1 g2 g3 g4=>⟨by
    rw [e2] at g2
    cases g2
    show dj (a.eval y) p.1
    rw [hpx]
    exact fM hk hfl,g4⟩
   rwa [show es.modify i (fun p=>p)=es from List.modify_id _ _] at this)
  have hke:ob.k = .mp es:=by
   unfold ke at hes
   split at hes
   ·rename_i h;cases hes;exact h
   ·cases hes
  have hoe:({ ob with k:=.mp es }:ah)=ob:=by cases ob;simp_all
  rw [hoe] at hS
  refine ⟨.tuple #[en.val,goInt en.born],_,bl,.inl ?_,hS,[_,_],rfl,(IRel.toC (fg e4)).toG,?_,trivial⟩
  ·simp only [execOp,ho,Instr.mapEntry,Sem.run_bind,run_underlying q1,Result.andThen_ok,h2,hg,cg q3 q2,f1,e1',dM,Option.getD_some,hst,ja h4,Array.size_modify,Sem.run_pure]
  ·rw [h5 i en e1']
   exact IRel.int _ _
 ·rename_i hf
  obtain ⟨f1,f2⟩:=dC (P:=P) q3 q2 hk h6 hf
  simp only [Option.bind_none] at f1
  obtain ⟨i,zv,z1,z2,z3⟩:=jZ q4
  have hz:∀w,(zeroValue el).run P w = .ok zv w:=fun w=>by simp [zeroValue,typeInfo,z1,z2]
  simp only [bO,Prod.mk.injEq] at he
  obtain ⟨rfl,rfl⟩:=he
  have hS:=jk (es':=es'.push { key:=a.eval y,val:=zv,born:=es'.size }) s hob h1 h3 (oM h5) (oV h6 (fM hk hfl) z3)
  refine ⟨.tuple #[zv,goInt es'.size],_,bl,.inl ?_,hS,[_,_],rfl,(IRel.toC (fg z3)).toG,?_,trivial⟩
  ·simp only [execOp,ho,Instr.mapEntry,Sem.run_bind,run_underlying q1,Result.andThen_ok,h2,hg,cg q3 q2,f1,hz,ja h4,Array.size_push,Sem.run_pure]
  ·have hl:=h6.length
   simp only [gD] at hl
   rw [goInt,hl]
   exact IRel.int _ _
 ·cases he
theorem vS {es':Array MapEntry} (hb:∀(i:Nat) (e:MapEntry),es'[i]? = some e→e.born=i) {n:Nat} (hn:n<es'.size):es'.findIdx? (fun e=>(e.born:Int)==(n:Int))=some n:=by
 rw [Array.findIdx?_eq_some_iff_getElem]
 refine ⟨hn,?_,fun j hj=>?_⟩
 ·have:=hb n es'[n] (by simp [hn])
  simp [this]
 ·have:=hb j (es'[j]'(by omega)) (by simp [show j<es'.size by omega])
  simp [this]
  omega
theorem JJ (s:aD c bl g h a w) {t:TypeId} {x y q:Operand} {xv yv qv:IV} {n:Int} {r:AV} {id:Nat} {ob:ah} {e:aP} (ho:o.op = .entryStore t x y q) (hx:cV x=some xv) (hy:cV y=some yv) (hq:cV q=some qv)
  (hv:val g xv = .mm id true) (hn:val g yv = .int .i64 n) (hob:h id=some ob) (he:ve id n (val g qv) ob=some (r,e)):aM P c o a w g h r e:=by
 unfold ve at he
 split at he
 case h_2=>cases he
 rename_i es hes
 split at he
 case isFalse=>cases he
 rename_i hcond
 obtain ⟨c1,c2,c3⟩:=hcond
 cases he
 obtain ⟨b,es',h1,h2,h3,h4,h5,h6⟩:=nE s hx hv hob hes
 have hg:=gW (P:=P) h4 (fun _ _ _ hh=>by cases hh)
 have hl:=h6.length
 simp only [gD] at hl
 have h7:=aJ s hy
 rw [hn] at h7
 have h8:=h7.int
 have hfb:=vS h5 (n:=n.toNat) (by omega)
 rw [show ((n.toNat:Nat):Int)=n by omega] at hfb
 have hS:=jk (es':=es'.modify n.toNat fun e=>{ e with val:=a.eval q }) (es2:=es.modify n.toNat fun e=>(e.1,val g qv)) s hob h1 h3 (iV h5 (fun _=>rfl)) (by
  rw [Array.toList_modify]
  exact iY h6 fun e' p' g1 g2 g3 g4=>⟨g3,fM (aJ s hq) c3⟩)
 refine ⟨undef,_,bl,.inr ⟨?_,rfl⟩,hS,trivial⟩
 simp only [execOp,ho,Instr.entryStore,Sem.run_bind,h2,hg,Result.andThen_ok,h8,asInt,asIntOf,Sem.run_pure,hfb,ja h4,Array.size_modify]
end
section
variable {P:Program} {c:je} {bl:Nat→Option Nat} {g:Nat→AV} {h:Nat→Option ah} {a:Act} {w:World} {o:Oper} {M:Nat→Prop}
theorem pb (n:Nat):∀(k c:Nat),256≤c→c≤2 * n→Builtin.growBy n k c≤2 * n
 | 0,c,hc,h=>by simpa [Builtin.growBy] using h
 | k+1,c,hc,h=>by
  simp only [Builtin.growBy]
  split
  ·exact h
  ·exact pb n k (c+(c+768) / 4) (by omega) (by omega)
theorem sX {n c:Nat} (h:c<n):Builtin.nextslicecap n c≤2 * n:=by
 unfold Builtin.nextslicecap
 split
 ·omega
 ·split
  ·omega
  ·exact pb n 4 c (by omega) (by omega)
structure xz (P:Program) (w:World) (st:Nat) (y:Value) (n:Nat) (ys:List Value):Prop where
 len:∀w':World,(Builtin.lenOf y).run P w' = .ok n w'
 vals:∀w':World,w'.heap=w.heap→(Builtin.firstCells st n y).run P w' = .ok ys.toArray w'
def gI (R:Value→AV→Prop) (st:Nat) (ys:List Value) (rows:List (List AV)):Prop :=
 (∀(i:Nat) (r:List AV),rows[i]? = some r→r.length=st)∧ys.length=rows.length * st ∧
 ∀(i j:Nat) (r:List AV) (x:AV),rows[i]? = some r→r[j]? = some x→∃v,ys[i * st+j]? = some v∧R v x
theorem gI.mono {R R':Value→AV→Prop} {st:Nat} {ys:List Value} {rows:List (List AV)} (h:gI R st ys rows) (f:∀v x,R v x→R' v x):gI R' st ys rows :=
 ⟨h.1,h.2.1,fun i j r x h1 h2=>by obtain ⟨v,h3,h4⟩:=h.2.2 i j r x h1 h2;exact ⟨v,h3,f _ _ h4⟩⟩
theorem gV {R:Value→AV→Prop} {b off st:Nat} {c1:Array Value} {t:TypeId} {fr:Nat×Nat} {rows:List (List AV)} (hb:w.heap[b]? = some (.cells c1 t fr))
  (hr:∀(i:Nat) (r:List AV),rows[i]? = some r→r.length=st)
  (hx:∀(i j:Nat) (r:List AV) (x:AV),rows[i]? = some r→r[j]? = some x→∃v,c1[off+i * st+j]? = some v∧R v x) :
  ∃ys:List Value,gI R st ys rows∧∀w':World,w'.heap=w.heap→(loadCells ⟨b,off,none⟩ (rows.length * st)).run P w' = .ok ys.toArray w':=by
 have hcell:∀k,k<rows.length * st→∃v,c1[off+k]? = some v:=fun k hk=>by
  have hst:0<st:=by
   rcases Nat.eq_zero_or_pos st with h0 | h0
   ·subst h0;simp at hk
   ·exact h0
  have hi:k / st<rows.length:=Nat.div_lt_of_lt_mul (by rw [Nat.mul_comm];exact hk)
  have e1:rows[k / st]? = some rows[k / st]:=fu hi
  have hl:=hr _ _ e1
  have hj:k % st<st:=Nat.mod_lt _ hst
  obtain ⟨v,hv,_⟩:=hx _ (k % st) _ _ e1 (fu (by omega))
  refine ⟨v,?_⟩
  rw [← hv]
  congr 1
  have:=Nat.div_add_mod k st
  rw [Nat.mul_comm] at this
  omega
 refine ⟨(List.range (rows.length * st)).map fun k=>(c1[off+k]?).getD default,⟨hr,by simp,fun i j r x hi hj=>?_⟩,fun w' hw=>?_⟩
 ·obtain ⟨v,hv,hrel⟩:=hx i j r x hi hj
  refine ⟨v,?_,hrel⟩
  have hj':j<st:=by rw [← hr i r hi];exact (dL.1 hj).1
  have hi':i<rows.length:=(dL.1 hi).1
  have hlt:i * st+j<rows.length * st:=by
   have:=iA st (show i+1≤rows.length by omega)
   rw [eU] at this
   omega
  rw [cQ,List.getElem?_range hlt]
  simp only [dM]
  rw [← FS,hv]
  rfl
 ·have hld:=run_loadCells_list (P:=P) (w:=w') ⟨b,off,none⟩ ((List.range (rows.length * st)).map fun k=>(c1[off+k]?).getD default) (fun j v hv=>by
   rw [cQ] at hv
   simp only [cq] at hv
   obtain ⟨k,hk,rfl⟩:=hv
   obtain ⟨hlt,hk⟩:=dL.1 hk
   simp only [List.getElem_range] at hk
   subst hk
   simp only [List.length_range] at hlt
   obtain ⟨v,hv⟩:=hcell j hlt
   rw [fc,dm (w:=w') (by rw [hw];exact hb),hv]
   rfl)
  simpa using hld
theorem mO (st:Nat):xz P w st (.slice none 0 0) 0 []:=⟨fun w'=>by simp [Builtin.lenOf],fun w' _=>by simp [Builtin.firstCells]⟩
theorem eE {R:Value→AV→Prop} (st:Nat):gI R st [] []:=⟨fun i r hr=>by simp at hr,by simp,fun i j r x hr=>by simp at hr⟩
theorem jo (st:Nat) (ad:Addr) (cap:Nat):xz P w st (.slice (some ad) 0 cap) 0 []:=⟨fun w'=>by simp [Builtin.lenOf],fun w' _=>by simp [Builtin.firstCells,loadCells,loadCellsFrom]⟩
theorem e_.up {q q':Bool} {v:Value} {x:AV} (h:e_ q bl M w v x) (hq:q=true→q'=true):e_ q' bl M w v x:=by
 cases q<;>cases q'
 ·exact h
 ·exact IRel.toC h
 ·cases hq rfl
 ·exact h
theorem n_ (s:aD c bl g h a w) {st:Nat} {y:Operand} {yv:IV} (hy:cV y=some yv) {rows:List (List AV)} (hr:iJ st h (val g yv)=some rows) {q:Bool} (hq:k7 h (val g yv)=true→q=true) :
  ∃ys,xz P w st (a.eval y) rows.length ys∧gI (e_ q bl (aY bl c.MF h) w) st ys rows:=by
 have h1:=aJ s hy
 cases hval:val g yv<;>rw [hval] at hr hq h1<;>simp only [iJ,dv] at hr<;>try cases hr
 case nl =>
  have:=h1.nl
  rw [this]
  exact ⟨[],mO st,eE st⟩
 case sl st' rows' =>
  split at hr
  case isFalse=>cases hr
  rename_i hst
  subst hst
  cases hr
  generalize hu:a.eval y=u at h1
  have h2:=h1.sl
  cases h2 with
  | nls=>exact ⟨[],mO _,eE _⟩
  | sl0 st ad cap=>exact ⟨[],jo _ _ _,eE _⟩
  | sl b off cap st c1 t1 fr rows vs hb hM hl hrl hv hx =>
   obtain ⟨ys,h3,h4⟩:=gV (P:=P) (R:=e_ q bl (aY bl c.MF h) w) (off:=off) hb hrl (fun i j r x hi hj=>⟨vs i j,hv i j (dL.1 hi).1 (by rw [← hrl i r hi];exact (dL.1 hj).1),e_.up (q:=false) (hx i j r x hi hj) (fun h=>by cases h)⟩)
   exact ⟨ys,⟨fun w'=>by simp [Builtin.lenOf],fun w' hw=>by simp [Builtin.firstCells,h4 w' hw]⟩,h3⟩
 case ms id st' off len =>
  split at hr
  case h_2=>cases hr
  rename_i ob hob
  split at hr
  case isFalse=>cases hr
  rename_i hcond
  obtain ⟨rfl,hst,hfit⟩:=hcond
  have hq':ob.isRec=true→q=true:=fun h=>hq (by simp only [k7,hob,Fh];exact h)
  cases hr
  have hlen:((ob.rows.drop off).take len).length=len:=by simp;omega
  rcases h1 with ⟨h2,h3,h4⟩ | ⟨h2,h3,ad,cap,h4⟩ | ⟨b,cap,c1,t1,fr,h2,h3,h4,h5,h6⟩
  ·subst h3 h4
   rw [h2]
   simp only [bE,kC]
   exact ⟨[],mO _,eE _⟩
  ·subst h2
   rw [h4]
   simp only [bE,kC]
   exact ⟨[],jo _ _ _,eE _⟩
  ·rcases s.heap.1 id ob hob with hn0 | ⟨b',g2,⟨_,c2,fr2,g3,g4,g5,g6,g7,g8⟩ | hsp⟩
   ·rw [hn0.2.2] at h2;cases h2
   rotate_left
   ·rw [h2] at g2;cases g2;exact (hsp.ne h5).elim
   rw [h2] at g2
   cases g2
   have getr:∀(i:Nat) (r:List AV),((ob.rows.drop off).take len)[i]? = some r→ob.rows[off+i]? = some r:=fun i r hi=>by
    rw [List.getElem?_take] at hi
    split at hi
    ·simpa using hi
    ·cases hi
   obtain ⟨ys,q3,q4⟩:=gV (P:=P) (R:=e_ q bl (aY bl c.MF h) w) (w:=w) (off:=off * st') (st:=st') (rows:=(ob.rows.drop off).take len) g3 (fun i r hi=>by rw [← hst];exact g6 _ _ (getr i r hi)) (fun i j r x hi hj=>by
    obtain ⟨v,hv,hrl⟩:=g8 _ _ _ _ (getr i r hi) hj
    refine ⟨v,?_,hrl.up hq'⟩
    rw [← hv,hst,eU])
   rw [hlen] at q4
   refine ⟨ys,?_,q3⟩
   rw [h3,hlen]
   exact ⟨fun w'=>by simp [Builtin.lenOf],fun w' hw=>by simp [Builtin.firstCells,q4 w' hw]⟩
theorem uR (s:aD c bl g h a w) {st:Nat} {y:Operand} {yv:IV} (hy:cV y=some yv) {rows:List (List AV)} (hr:dv st h (val g yv)=some rows) :
  ∃ys,xz P w st (a.eval y) rows.length ys∧gI (IRel (aY bl c.MF h) w) st ys rows :=
 n_ (q:=false) s hy (uL hr).1 (fun h=>by rw [(uL hr).2] at h;exact h)
theorem B3 (s:aD c bl g h a w) {y:Operand} {yv:IV} (hy:cV y=some yv) {rows:List (List AV)} (hr:B2 (val g yv)=some rows) :
  ∃ys,xz P w 1 (a.eval y) rows.length ys∧gI (IRel (aY bl c.MF h) w) 1 ys rows:=by
 have h1:=aJ s hy
 cases hval:val g yv<;>rw [hval] at hr h1<;>simp only [B2,bO] at hr<;>try cases hr
 case str st =>
  rw [h1.str]
  refine ⟨st.map fun b=>.int .u8 b.toNat,⟨fun w'=>by simp [Builtin.lenOf,ByteArray.size],fun w' _=>?_⟩,fun i r hi=>?_,by simp,fun i j r x hi hj=>?_⟩
  ·have hex:((ByteArray.mk st.toArray).extract 0 st.length)=ByteArray.mk st.toArray:=by
    apply ByteArray.ext
    simp [ByteArray.data_extract]
   simp [Builtin.firstCells,hex]
  ·simp only [cQ,cq] at hi
   obtain ⟨b,_,rfl⟩:=hi
   rfl
  ·simp only [cQ,cq] at hi
   obtain ⟨b,hb,rfl⟩:=hi
   cases j with
   | zero=>simp at hj;subst hj;exact ⟨.int .u8 b.toNat,by simp [hb],IRel.int _ _⟩
   | succ j=>simp at hj
theorem jM {t e:TypeId} {st:Nat} (hap:gK P t=some (e,st)):∃i z,P.underlying t=some (.slice e)∧P.info? e=some i∧i.zero=some z∧i.size=st∧i.bytes≤512∧1≤i.bytes∧z.cells.size=st∧1≤st:=by
 unfold gK at hap
 split at hap
 case h_2=>cases hap
 rename_i e' ht
 split at hap
 case h_2=>cases hap
 rename_i i z' hi hz'
 split at hap
 case isFalse=>cases hap
 rename_i hcond
 obtain ⟨hb1,hb2,hb3,hb4⟩:=hcond
 cases hap
 obtain ⟨i',v,h4,h5,h6,_⟩:=ei (M:=fun _=>False) (w:=default) hz'
 rw [hi] at h4
 cases h4
 have:=h6.length
 simp only [gD] at this
 exact ⟨i,v,ht,hi,h5,rfl,hb1,hb2,by omega,hb4⟩
section
variable {t t' e:TypeId} {st:Nat} {cl:Call} {x y:Operand}
theorem qf (ho:o.op = .call cl) (hcl:cl.callee = .builtin .append) (hat:cl.argTypes = #[t,t']) (har:cl.args = #[x,y]) (hap:gK P t=some (e,st)) (ht':(∃e',P.underlying t'=some (.slice e'))∨P.underlying t'=some .string)
  {b len cap n:Nat} {ys:List Value} (hx:a.eval x = .slice (some ⟨b,0,none⟩) len cap) (hs:xz P w st (a.eval y) n ys) (hcap:len+n≤cap)
  {c1:Array Value} {t1:TypeId} {fr:Nat×Nat} (hb:w.heap[b]? = some (.cells c1 t1 fr)) (uf:dE c1 fr) (hl:len * st+ys.length≤c1.size) (h1:∀v∈ys,eB v) :
  (execOp a.eval o).run P w = .ok (.value (.slice (some ⟨b,0,none⟩) (len+n) cap)) (w.setCells b (len * st) ys):=by
 obtain ⟨i,z,g1,g2,g3,g4,g5,g6,g7,g8⟩:=jM hap
 have hz:(match P.underlying t' with | some (.int _)=>true | _=>false)=false:=by rcases ht' with ⟨e',h⟩ | h<;>rw [h]
 have hst:=fF (P:=P) hb uf hl h1
 rcases ht' with ⟨e',ht'⟩ | ht' <;>
  simp [execOp,ho,resolve,hcl,har,hat,invoke,builtin,Builtin.append_,underlying,g1,hx,sizeOf,typeInfo,g2,g4,ht',hs.len w,hcap,hs.vals w rfl,fc,hst]
theorem kv (ho:o.op = .call cl) (hcl:cl.callee = .builtin .append) (hat:cl.argTypes = #[t,t']) (har:cl.args = #[x,y]) (hap:gK P t=some (e,st)) (ht':(∃e',P.underlying t'=some (.slice e'))∨P.underlying t'=some .string)
  (hx:a.eval x = .slice none 0 0) {ys:List Value} (hs:xz P w st (a.eval y) 0 ys) :
  (execOp a.eval o).run P w = .ok (.value (.slice none 0 0)) w:=by
 obtain ⟨i,z,g1,g2,g3,g4,g5,g6,g7,g8⟩:=jM hap
 rcases ht' with ⟨e',ht'⟩ | ht' <;>
  simp [execOp,ho,resolve,hcl,har,hat,invoke,builtin,Builtin.append_,underlying,g1,hx,sizeOf,typeInfo,g2,g4,ht',hs.len w,hs.vals w rfl]
theorem ku (ho:o.op = .call cl) (hcl:cl.callee = .builtin .append) (hat:cl.argTypes = #[t,t']) (har:cl.args = #[x,y]) (hap:gK P t=some (e,st)) (ht':(∃e',P.underlying t'=some (.slice e'))∨P.underlying t'=some .string)
  {base:Option Addr} {len cap n:Nat} {olds ys:List Value} (hx:a.eval x = .slice base len cap) (hs:xz P w st (a.eval y) n ys) (hcap:cap<len+n) (hbig:len+n<274877906944)
  (hold:∀w':World,w'.heap=w.heap→(Builtin.firstCells st len (.slice base len cap)).run P w' = .ok olds.toArray w') :
  ∃(cs:Array Value) (w':World) (cap':Nat),(execOp a.eval o).run P w = .ok (.value (.slice (some ⟨w.heap.size,0,none⟩) (len+n) cap')) w'∧w'.heap=w.heap.push (.cells cs e (0,0))∧w'.os=w.os∧w'.output=w.output ∧
   len+n≤cap'∧∃rest:List Value,cs=(olds++ys++rest).toArray∧rest.length=(cap' - (len+n)) * st:=by
 obtain ⟨i,z,g1,g2,g3,g4,g5,g6,g7,g8⟩:=jM hap
 have hmax:¬((len+n:Nat):Int)>IntKind.i64.max:=by simp [IntKind.max,IntKind.signed,IntKind.bits];omega
 have hmax':¬(9223372036854775807:Int)<(len:Int)+(n:Int):=by omega
 have hnc:=sX hcap
 have hroom:¬Builtin.nextslicecap (len+n) cap * i.bytes>2 ^ 48:=by
  have:Builtin.nextslicecap (len+n) cap * i.bytes≤(2 * (len+n)) * 512:=Nat.mul_le_mul hnc g5
  omega
 have hroom':¬281474976710656<Builtin.nextslicecap (len+n) cap * i.bytes:=by simpa using hroom
 have hcap':¬len+n≤cap:=by omega
 have hq:Question.forced (.appendCap (len+n) cap e)=false:=rfl
 have hb0:¬i.bytes=0:=by omega
 let cp:=(len+n)+(w.tape w.drawn (.appendCap (len+n) cap e)) % (2 ^ 63 - (len+n))
 refine ⟨(olds++ys++(Builtin.zeroCells z.cells (cp - (len+n))).toList).toArray,w.drew.alloc (.cells (olds++ys++(Builtin.zeroCells z.cells (cp - (len+n))).toList).toArray e),cp,?_,rfl,rfl,rfl,Nat.le_add_right _ _,_,rfl,?_⟩
 ·have hv:=hs.vals w.drew rfl
  have ho':=hold w.drew rfl
  rcases ht' with ⟨e',ht'⟩ | ht' <;>
   simp [execOp,ho,resolve,hcl,har,hat,invoke,builtin,Builtin.append_,underlying,g1,hx,sizeOf,typeInfo,g2,g4,ht',hs.len w,hcap',hmax',hroom',hq,ho',hv,zeroValue,g3,newRow,Question.cut,hb0,cp]
  all_goals
   congr 2
   apply Array.toList_inj.1
   simp
 ·simp [Builtin.zeroCells,g7]
theorem aD.congr {g':Nat→AV} {h':Nat→Option ah} (s:aD c bl g h a w) (hg:∀k,g' k=g k) (hh:∀j,h' j=h j):aD c bl g' h' a w :=
 s.weaken (fun k=>.inr (hg k)) (fun j o ho=>by rw [← hh j];exact ho)
theorem rB {R:Value→AV→Prop} {ys:List Value} {rows:List (List AV)} (hy:gI R st ys rows) (h1:∀v x,R v x→eB v):∀v∈ys,eB v:=fun v hv=>by
 obtain ⟨k,hk⟩:=List.getElem?_of_mem hv
 have hlt:k<rows.length * st:=by rw [← hy.2.1];exact (dL.1 hk).1
 have hst:0<st:=by
  rcases Nat.eq_zero_or_pos st with h0 | h0
  ·subst h0;simp at hlt
  ·exact h0
 have hi:k / st<rows.length:=Nat.div_lt_of_lt_mul (by rw [Nat.mul_comm];exact hlt)
 have e1:rows[k / st]? = some rows[k / st]:=fu hi
 have hl:=hy.1 _ _ e1
 have hj:k % st<st:=Nat.mod_lt _ hst
 obtain ⟨u,hu,hr⟩:=hy.2.2 _ (k % st) _ _ e1 (fu (by omega))
 have he:k / st * st+k % st=k:=by
  have:=Nat.div_add_mod k st
  rw [Nat.mul_comm] at this
  exact this
 rw [he,hk] at hu
 cases hu
 exact h1 _ _ hr
theorem lQ {R:Value→AV→Prop} {olds ys rest:List Value} {rows yrows:List (List AV)} (ho:gI R st olds rows) (hy:gI R st ys yrows) :
  (∀(i:Nat) (r:List AV),(rows++yrows)[i]? = some r→r.length=st) ∧
  ∀(i j:Nat) (r:List AV) (x:AV),(rows++yrows)[i]? = some r→r[j]? = some x→∃v,(olds++ys++rest).toArray[i * st+j]? = some v∧R v x:=by
 refine ⟨fun i r hr=>?_,fun i j r x hr hx=>?_⟩
 ·rw [List.getElem?_append] at hr
  split at hr
  ·exact ho.1 _ _ hr
  ·exact hy.1 _ _ hr
 ·rw [List.getElem?_append] at hr
  simp only [List.getElem?_toArray]
  split at hr
  ·rename_i hlt
   obtain ⟨v,hv,hrel⟩:=ho.2.2 _ _ _ _ hr hx
   refine ⟨v,?_,hrel⟩
   rw [tG,List.getElem?_append_left (dL.1 hv).1]
   exact hv
  ·rename_i hge
   obtain ⟨v,hv,hrel⟩:=hy.2.2 _ _ _ _ hr hx
   refine ⟨v,?_,hrel⟩
   have e1:i * st+j=olds.length+((i - rows.length) * st+j):=by
    rw [ho.2.1,← FS,← eU]
    congr 2
    omega
   rw [tG,e1,List.getElem?_append_right (by omega),Nat.add_sub_cancel_left,List.getElem?_append_left (dL.1 hv).1]
   exact hv
theorem wO {i:Nat} {o:ah} (h:o.isRec=true→∀r∈o.rows,∀x∈r,mC i x=false):cH i o=o:=by
 unfold cH
 split
 ·rename_i hr
  have e:o.rows.map (fun r=>r.map (bW i))=o.rows:=by
   refine (List.map_congr_left fun r hm=>?_).trans (List.map_id _)
   refine (List.map_congr_left fun x hx=>?_).trans (List.map_id _)
   unfold bW
   rw [h hr r hm x hx]
   rfl
  rw [e]
 ·rfl
theorem nK (s:aD c bl g h a w) {d:Nat} (ho:o.op = .call cl) (hcl:cl.callee = .builtin .append) (hat:cl.argTypes = #[t,t']) (har:cl.args = #[x,y]) (hap:gK P t=some (e,st)) (ht':(∃e',P.underlying t'=some (.slice e'))∨P.underlying t'=some .string)
  {xv:IV} (hx:cV x=some xv) (hxv:val g xv = .nl) {yrows:List (List AV)} {ys:List Value} (hs:xz P w st (a.eval y) yrows.length ys) {q:Bool} (hy:gI (e_ q bl (aY bl c.MF h) w) st ys yrows) (hbig:yrows.length<137438953472)
  (hd:h d=none) (hu:bP d g h) (hid:d<1000∨2000≤d) (hno:q=true→yrows≠[]∧∀r∈yrows,∀x∈r,mC d x=false):aM P c o a w g h (.ms d st 0 yrows.length) (.new d ⟨e,st,yrows,q⟩):=by
 have h1:=aJ s hx
 rw [hxv] at h1
 have h2:=h1.nl
 by_cases h0:yrows=[]
 ·subst h0
  obtain rfl:q=false:=by
   cases q
   ·rfl
   ·exact absurd rfl (hno rfl).1
  have hrun:=kv ho hcl hat har hap ht' h2 hs
  refine ⟨_,_,_,.inl hrun,s.new0 (i:=d) (o:=⟨e,st,[],false⟩) hd hu hid rfl rfl,.inl ⟨rfl,rfl,rfl⟩⟩
 ·have hpos:0<yrows.length:=List.length_pos_iff.2 h0
  obtain ⟨cs,w',cap',h3,h4,h5,h6,h7,rest,rfl,h9⟩:=ku (olds:=[]) (P:=P) ho hcl hat har hap ht' h2 hs (by omega) (by omega) (fun w' _=>by simp [Builtin.firstCells])
  simp only [Nat.zero_add,r5] at h3 h7 h9
  have hg:=lQ (rest:=rest) (eE st) hy
  simp only [r5] at hg h4
  have hsz:(ys++rest).toArray.size=cap' * st:=by
   simp only [List.size_toArray,ol,hy.2.1,h9]
   rw [← eU]
   congr 1
   omega
  exact f6 (rows:=yrows) s hd hu hid h3 h4 h5 h6 (fR _) hg.1 (by rw [hsz];exact iA _ h7) h7 (by rw [hsz];exact aB _) hg.2 (fun hq=>(hno hq).2)
theorem nL (s:aD c bl g h a w) (ho:o.op = .call cl) (hcl:cl.callee = .builtin .append) (hat:cl.argTypes = #[t,t']) (har:cl.args = #[x,y]) (hap:gK P t=some (e,st)) (ht':(∃e',P.underlying t'=some (.slice e'))∨P.underlying t'=some .string)
  {xv:IV} (hx:cV x=some xv) {id len:Nat} (hxv:val g xv = .ms id st 0 len) {ob:ah} (hob:h id=some ob) (hst:ob.st=st) (hte:ob.t=e) (hlen:len≤ob.rows.length) (hid:id<1000∨2000≤id) (hfl:ob.k.flat=true)
  {yrows:List (List AV)} {ys:List Value} (hs:xz P w st (a.eval y) yrows.length ys) {q:Bool} (hq:ob.isRec=true→q=true) (hy:gI (e_ q bl (aY bl c.MF h) w) st ys yrows) (hbig:yrows.length<137438953472) (hbig2:len<137438953472)
  (hno:q=true→ob.rows.take len++yrows≠[]∧∀r∈ob.rows.take len++yrows,∀x∈r,mC id x=false) :
  aM P c o a w g h (.ms id st 0 (len+yrows.length)) (.reb id ⟨e,st,ob.rows.take len++yrows,q⟩):=by
 have h1:=aJ s hx
 rw [hxv] at h1
 subst hst hte
 have hpur:cH id ⟨ob.t,ob.st,ob.rows.take len++yrows,q⟩ =⟨ob.t,ob.st,ob.rows.take len++yrows,q⟩:=wO fun hr=>(hno hr).2
 have grow:∀{base:Option Addr} {cap:Nat} {olds:List Value},a.eval x = .slice base len cap→cap<len+yrows.length→gI (e_ q bl (aY bl c.MF h) w) ob.st olds (ob.rows.take len) →
   (∀w':World,w'.heap=w.heap→(Builtin.firstCells ob.st len (.slice base len cap)).run P w' = .ok olds.toArray w')→aM P c o a w g h (.ms id ob.st 0 (len+yrows.length)) (.reb id ⟨ob.t,ob.st,ob.rows.take len++yrows,q⟩):=by
  intro base cap olds hv hc hold hrun
  obtain ⟨cs,w',cap',h3,h4,h5,h6,h7,rest,rfl,h9⟩:=ku (P:=P) ho hcl hat har hap ht' hv hs hc (by omega) hrun
  have hk:=s.kill id
  have hun:=gB id g h
  have hm:∀b,¬aY bl c.MF h b→b<w.heap.size→¬aY bl c.MF (fun j=>if j=id then none else (h j).map (cH id)) b∧w.heap[b]? = w.heap[b]?:=fun b hb _=>⟨fun hmm=>hb (by
   rcases hmm with hmm | ⟨j,oj,q1,q2⟩
   ·exact .inl hmm
   ·by_cases hj:j=id
    ·simp [hj] at q1
    ·simp only [hj,j8,cq] at q1
     obtain ⟨o0,q1,_⟩:=q1
     exact .inr ⟨j,o0,q1,q2⟩),rfl⟩
  have hg:=lQ (rest:=rest) hold hy
  have hl1:(ob.rows.take len).length=len:=by simp;omega
  have hsz:(olds++ys++rest).toArray.size=cap' * ob.st:=by
   simp only [List.size_toArray,ol,hy.2.1,h9,hold.2.1,hl1]
   rw [← eU,← eU]
   congr 1
   omega
  have hs2:=hk.new (i:=id) (o:=⟨ob.t,ob.st,ob.rows.take len++yrows,q⟩) (cs:=(olds++ys++rest).toArray) (fr:=(0,0)) (w':=w') (by simp) hun hid h4 h5 h6 (fR _)
   ⟨hg.1,by rw [hsz];simp only [ol,hl1];exact iA _ h7,fun i j r x' hr hx'=>by
    obtain ⟨v,q1,q2⟩:=hg.2 i j r x' hr hx'
    exact ⟨v,q1,q2.tr ⟨hm,fun _ c1 _ fr hb=>⟨c1,fr,hb,rfl⟩⟩ (fun _ _ _=>rfl)⟩⟩ (fun hf=>(hno hf).2)
  refine ⟨_,_,_,.inl h3,hs2.congr (fun _=>rfl) (fun j=>?_),.inr (.inr ⟨w.heap.size,cap',(olds++ys++rest).toArray,ob.t,(0,0),bo _ _ _,by simp,h7,by rw [h4];simp,by rw [hsz];simp⟩)⟩
  by_cases hj:j=id
  ·subst hj;simp [aP.hp,cI]
  ·simp [aP.hp,cI,hj]
 rcases h1 with ⟨h2,_,h4⟩ | ⟨_,h3,_⟩ | ⟨b,cap,c1,t1,fr,h2,h3,h4,h5,h6⟩
 ·subst h4
  by_cases h0:yrows=[]
  ·subst h0
   obtain rfl:q=false:=by
    cases q
    ·rfl
    ·exact absurd rfl (hno rfl).1
   have hrun:=kv ho hcl hat har hap ht' h2 hs
   have hp:=s.purge id
   refine ⟨_,_,bl,.inl hrun,?_,.inl ⟨rfl,rfl,rfl⟩⟩
   have hm:∀q,aY bl c.MF (aP.hp h (.reb id ⟨ob.t,ob.st,ob.rows.take 0++[],false⟩)) q↔aY bl c.MF (fun j=>(h j).map (cH id)) q:=aY.congr (fun j=>by
    by_cases hj:j=id
    ·subst hj;simp [aP.hp,cI,hob]
    ·simp [aP.hp,cI,hj])
   have ht:=Tr.of_iff (w:=w) hm
   refine ⟨hp.defers,hp.size,fun k=>(hp.env k).tr ht (fun _ _=>rfl),⟨fun j oj hj=>?_,fun j j' oj oj' q q1 q2=>?_⟩,hp.step,fun j oj q q1=>?_,hp.stab,hp.mf⟩
   ·by_cases hji:j=id
    ·subst hji
     simp only [aP.hp,cI,fv,bO] at hj
     subst hj
     rcases s.heap.1 j ob hob with hn | ⟨b',g2,⟨_,c2,fr2,g3,g4,g5,g6,g7,g8⟩ | hsp⟩
     ·exact .inl ⟨by simp,rfl,hn.2.2⟩
     ·exact .inr ⟨b',g2,.inl ⟨rfl,c2,fr2,g3,g4,g5,by simp,by simp,by simp⟩⟩
     ·exact (hsp.noflat hfl).elim
    ·have hj':(h j).map (cH id)=some oj:=by simpa [aP.hp,cI,hji] using hj
     rcases hp.heap.1 j oj hj' with hn | ⟨b',g2,⟨gk,c2,fr2,g3,g4,g5,g6,g7,g8⟩ | hsp⟩
     ·exact .inl hn
     ·exact .inr ⟨b',g2,.inl ⟨gk,c2,fr2,g3,g4,g5,g6,g7,fun i k r y' q1 q2=>by
       obtain ⟨v,q3,q4⟩:=g8 i k r y' q1 q2
       exact ⟨v,q3,q4.tr ht (fun _ _ _=>rfl)⟩⟩⟩
     ·exact .inr ⟨b',g2,.inr hsp⟩
   ·have key:∀{j oj},aP.hp h (.reb id ⟨ob.t,ob.st,ob.rows.take 0++[],false⟩) j=some oj→∃o0,(h j).map (cH id)=some o0:=fun {j oj} hj=>by
     by_cases hji:j=id
     ·subst hji;exact ⟨_,by rw [hob];rfl⟩
     ·exact ⟨oj,by simpa [aP.hp,cI,hji] using hj⟩
    obtain ⟨p1,hp1⟩:=key q1
    obtain ⟨p2,hp2⟩:=key q2
    exact hp.heap.2 j j' p1 p2 q hp1 hp2
   ·by_cases hji:j=id
    ·subst hji;exact hp.own j (cH j ob) q (by simp [hob])
    ·exact hp.own j oj q (by simpa [aP.hp,cI,hji] using q1)
  ·have hpos:0<yrows.length:=List.length_pos_iff.2 h0
   exact grow (olds:=[]) h2 (by omega) (by simpa using eE _) (fun w' _=>by simp [Builtin.firstCells])
 ·exact (h3 rfl).elim
 ·rcases s.heap.1 id ob hob with hn0 | ⟨b',g2,⟨_,c2,fr2,g3,g4,g5,g6,g7,g8⟩ | hsp⟩
  ·rw [hn0.2.2] at h2;cases h2
  rotate_left
  ·exact (hsp.noflat hfl).elim
  rw [h2] at g2
  cases g2
  rw [g3] at h5
  cases h5
  simp only [Nat.zero_mul,Nat.zero_add] at h3 h6
  have getr:∀(i:Nat) (r:List AV),(ob.rows.take len)[i]? = some r→ob.rows[i]? = some r∧i<len:=fun i r hi=>by
   rw [List.getElem?_take] at hi
   split at hi
   ·exact ⟨hi,by assumption⟩
   ·cases hi
  have hl1:(ob.rows.take len).length=len:=by simp;omega
  by_cases hcap:len+yrows.length≤cap
  ·
   have hfit:len * ob.st+ys.length≤c1.size:=by
    rw [hy.2.1,← eU]
    have:=iA ob.st hcap
    omega
   have hrun:=qf (P:=P) ho hcl hat har hap ht' h3 hs hcap g3 g4 hfit (rB hy fun _ _ h=>h.one)
   obtain ⟨c3,q1,q2,q3,q4,q5,q6,q7⟩:=eZ b ys (len * ob.st) w g3 hfit
   have hw:=s.write (o':=⟨ob.t,ob.st,ob.rows.take len++yrows,q⟩) (hkc:=(Kd.of_flat hfl).symm) hob h2 g3 q1 q2 q4 q5 q6 q7 rfl ⟨fun i r hr=>by
     rw [List.getElem?_append] at hr
     split at hr
     ·exact g6 _ _ (getr i r hr).1
     ·exact hy.1 _ _ hr,by
     simp only [ol,hl1,q2]
     have:=iA ob.st hcap
     omega,fun i j r x' hr hx'=>by
     rw [List.getElem?_append] at hr
     split at hr
     ·rename_i hlt
      rw [hl1] at hlt
      obtain ⟨hr',_⟩:=getr i r hr
      have hj:j<ob.st:=by rw [← g6 i r hr'];exact (dL.1 hx').1
      obtain ⟨v,hv,hrel⟩:=g8 _ _ _ _ hr' hx'
      refine ⟨v,?_,hrel.up hq⟩
      have:i * ob.st+j<len * ob.st:=by
       have:=iA ob.st (show i+1≤len by omega)
       rw [eU] at this
       omega
      simp only
      rw [q3,aV (by omega)]
      exact hv
     ·rename_i hge
      rw [hl1] at hge hr
      obtain ⟨v,hv,hrel⟩:=hy.2.2 _ _ _ _ hr hx'
      refine ⟨v,?_,hrel⟩
      have e1:i * ob.st+j=len * ob.st+((i - len) * ob.st+j):=by
       rw [← FS,← eU];congr 2;omega
      have hlt:=(dL.1 hv).1
      simp only
      rw [q3,bz (by omega),e1,Nat.add_sub_cancel_left]
      exact hv⟩
   refine ⟨_,_,bl,.inl hrun,(hw.purge id).congr (fun _=>rfl) (fun j=>?_),.inr (.inr ⟨b,cap,c3,ob.t,fr,h2,by simp,hcap,q1,by rw [q2];simpa using h6⟩)⟩
   by_cases hj:j=id
   ·subst hj;simp [aP.hp,cI,hpur]
   ·simp [aP.hp,cI,hj]
  ·obtain ⟨olds,hO,hrun⟩:=gV (P:=P) (R:=e_ q bl (aY bl c.MF h) w) (w:=w) (off:=0) (st:=ob.st) (rows:=ob.rows.take len) g3 (fun i r hi=>g6 _ _ (getr i r hi).1) (fun i j r x' hi hj=>by
    obtain ⟨v,hv,hrel⟩:=g8 _ _ _ _ (getr i r hi).1 hj
    exact ⟨v,by simpa using hv,hrel.up hq⟩)
   rw [hl1] at hrun
   exact grow h3 (by omega) hO (fun w' hw'=>by simp [Builtin.firstCells,hrun w' hw'])
end
theorem lN:∀{rows:List (List AV)} {bs:List UInt8} {ys:List Value},fU rows=some bs→gI (IRel M w) 1 ys rows→∃ns:List Int,ys=ns.map (fun n=>Value.int .u8 n)∧bs=ns.map (fun n=>UInt8.ofNat n.toNat)
 | [],bs,ys,hb,hy=>by
  simp only [fU,bO] at hb
  subst hb
  have:=hy.2.1
  simp at this
  subst this
  exact ⟨[],rfl,rfl⟩
 | r :: rows,bs,ys,hb,hy=>by
  have hl:=hy.2.1
  simp only [oh,Nat.mul_one] at hl
  cases ys with
  | nil=>simp at hl
  | cons y ys =>
   have hy':gI (IRel M w) 1 ys rows:=⟨fun i q hq=>hy.1 (i+1) q (by simpa using hq),by simpa using hl,fun i j q z hq hz=>by
    obtain ⟨v,hv,hr⟩:=hy.2.2 (i+1) j q z (by simpa using hq) hz
    refine ⟨v,?_,hr⟩
    rw [show (i+1) * 1+j=(i * 1+j)+1 by omega,List.getElem?_cons_succ] at hv
    exact hv⟩
   unfold fU at hb
   split at hb
   ·rename_i heq;cases heq
   ·rename_i n rest heq
    cases heq
    simp only [cq] at hb
    obtain ⟨bs',hb',rfl⟩:=hb
    obtain ⟨ns,rfl,rfl⟩:=lN hb' hy'
    obtain ⟨v,hv,hr⟩:=hy.2.2 0 0 [.int .u8 n] (.int .u8 n) rfl rfl
    simp at hv
    subst hv
    cases hr
    exact ⟨n :: ns,rfl,rfl⟩
   ·cases hb
theorem JA (s:aD c bl g h a w) {sr ds e:TypeId} {x:Operand} {xv:IV} (ho:o.op = .convert sr ds x) (h1:P.underlying sr=some (.slice e)) (h2:P.underlying e=some (.int .u8)) (h3:P.underlying ds=some .string) (hx:cV x=some xv)
  {rows:List (List AV)} {bs:List UInt8} (hr:dv 1 h (val g xv)=some rows) (hb:fU rows=some bs):aM P c o a w g h (.str bs) .no:=by
 obtain ⟨ys,hs,hy⟩:=uR (P:=P) s hx hr
 obtain ⟨ns,rfl,rfl⟩:=lN hb hy
 have hv:∃ad n cap,a.eval x = .slice ad n cap:=by
  have hl:=hs.len w
  cases hv:a.eval x<;>rw [hv] at hl<;>try (simp [Builtin.lenOf] at hl;done)
  ·rename_i st
   exfalso
   have h4:=aJ s hx
   rw [hv] at h4
   cases hval:val g xv<;>rw [hval] at hr h4<;>simp only [dv] at hr<;>try cases hr
   ·exact absurd h4.nl (by simp)
   ·have h5:=h4.sl;cases h5
   ·rcases h4 with ⟨h5,_⟩ | ⟨_,_,_,_,h5⟩ | ⟨_,_,_,_,_,_,h5,_⟩<;>cases h5
  ·exact ⟨_,_,_,rfl⟩
 obtain ⟨ad,n,cap,hv⟩:=hv
 refine aM.pure s (r:=.string ⟨(ns.map fun n=>UInt8.ofNat n.toNat).toArray⟩) ?_ (Fb _)
 have hval:=hs.vals w rfl
 have hlen:=hs.len w
 rw [hv] at hval hlen
 simp only [Builtin.lenOf,Sem.run_pure,Result.ok.injEq,and_true] at hlen
 subst hlen
 cases ad with
 | none =>
  simp only [Builtin.firstCells,Sem.run_pure,Result.ok.injEq,and_true] at hval
  have hn:ns=[]:=by
   have:=congrArg Array.size hval
   simp at this
   exact List.length_eq_zero_iff.1 this.symm
  subst hn
  simp [execOp,ho,hv,run_convert_bytes_string w sr ds e none _ cap h1 h2 h3,Conv.bytesToString]
  try rfl
 | some ad =>
  simp only [Builtin.firstCells,Nat.mul_one] at hval
  simp [execOp,ho,hv,run_convert_bytes_string w sr ds e (some ad) _ cap h1 h2 h3,run_bytesToString w ad _ cap ns hval,foldl_push_bytes]
  try rfl
theorem JD (s:aD c bl g h a w) {f f':FuncId} {first caps:Array Operand} {cv:List IV} (ho:o.op = .makeFunc (.func f) first caps) (hf:F1 f'=f∧DE f'=first.size) (hc:yI (first.toList++caps.toList)=some cv)
  (hp:∀v∈cv,yJ (val g v)=true):aM P c o a w g h (.fn f' (cv.map (val g))) .no:=by
 have h1:=pI s hc
 obtain ⟨hf1,hf2⟩:=hf
 refine aM.pure s (r:=.func (.func f) (first.map a.eval) (caps.map a.eval)) (by
  simp only [execOp,ho,Instr.makeFunc]
  rfl) ⟨(first.toList++caps.toList).map a.eval,?_,?_⟩
 ·have e1:(first.toList.map a.eval).length=first.size:=by simp
  have e2:first.map a.eval=(first.toList.map a.eval).toArray:=by apply Array.toList_inj.1;simp
  have e3:caps.map a.eval=(caps.toList.map a.eval).toArray:=by apply Array.toList_inj.1;simp
  rw [hf1,hf2,List.map_append,List.take_left' e1,List.drop_left' e1,e2,e3]
 refine h1.mono fun u x hm hr=>?_
 obtain ⟨v,hv,rfl⟩:=List.mem_map.1 hm
 have e1:=hp v hv
 generalize val g v=y at *
 cases y<;>first | (simp [yJ] at e1;done) | exact hr
end
section
variable {P:Program} {c:je} {bl:Nat→Option Nat} {g:Nat→AV} {h:Nat→Option ah} {a:Act} {w:World} {o:Oper}
theorem kw (e:TypeId) (st:List UInt8) (w:World):∃cp w',(Conv.stringToBytes e ⟨st.toArray⟩).run P w = .ok (.slice (some ⟨w.heap.size,0,none⟩) st.length cp) w'∧st.length≤cp ∧
  w'.heap=w.heap.push (.cells ((st.map fun b=>Value.int .u8 b.toNat).toArray++Array.replicate (cp - st.length) (.int .u8 0)) e (cp,cp+1))∧w'.os=w.os∧w'.output=w.output:=by
 have hsize:(ByteArray.mk st.toArray).size=st.length:=by simp [ByteArray.size]
 have hdat:((ByteArray.mk st.toArray).data.map fun b=>Value.int .u8 b.toNat)=(st.map fun b=>Value.int .u8 b.toNat).toArray:=by simp
 refine ⟨st.length+(w.tape w.drawn (.appendCap st.length 0 e)) % (2 ^ 63 - st.length),?_⟩
 generalize hcp:st.length+(w.tape w.drawn (.appendCap st.length 0 e)) % (2 ^ 63 - st.length)=cp
 have hle:st.length≤cp:=by omega
 have hch:(choose (.appendCap st.length 0 e)).run P w = .ok cp w.drew:=by
  rw [run_choose]
  simp only [Question.forced,Question.cut,hcp]
  rfl
 generalize hcs:((st.map fun b=>Value.int .u8 b.toNat).toArray++Array.replicate (cp - st.length) (.int .u8 0))=cs
 have hcsz:cs.size=cp:=by rw [← hcs];simp;omega
 refine ⟨(w.drew.alloc (.cells cs e)).freeze { block:=w.heap.size,off:=cp } 1,?_,hle,?_,rfl,rfl⟩
 ·have hsh:(w.drew.alloc (.cells cs e)).shape? w.heap.size=some (e,cp):=by
   have:(w.drew.alloc (.cells cs e)).heap[w.heap.size]? = some (.cells cs e (0,0)):=by simp [World.alloc,World.drew,-World.alloc_eq,-World.drew_eq]
   unfold World.shape?;rw [this];simp [hcsz]
  unfold Conv.stringToBytes
  simp only [hsize,Sem.run_bind,hch,Result.andThen_ok,hdat,hcs,newRow,run_newObj,World.size_drew,Sem.run_pure,World.alloc_eq,markStringish,run_shape,hsh,run_freeze]
 ·show (if 1=0 then _ else _:World).heap=_
  rw [aV (by decide)]
  apply Array.ext_getElem?
  intro k
  show ((w.heap.push (.cells cs e (0,0))).modify w.heap.size _)[k]? = _
  rw [kF,Array.getElem?_push,Array.getElem?_push]
  by_cases hk:w.heap.size=k
  ·subst hk;simp
  ·have hk':¬k=w.heap.size:=fun e=>hk e.symm
   simp [hk,hk']
theorem Jw (s:aD c bl g h a w) {d:Nat} {sr ds e:TypeId} {x:Operand} {xv:IV} (ho:o.op = .convert sr ds x) (h1:P.underlying sr=some .string) (h2:P.underlying e=some (.int .u8)) (h3:P.underlying ds=some (.slice e)) (hx:cV x=some xv)
  {st:List UInt8} (he:val g xv = .str st) (hd:h d=none) (hu:bP d g h) (hid:d<1000∨2000≤d) :
  aM P c o a w g h (.ms d 1 0 st.length) (.new d ⟨e,1,st.map fun b=>[.int .u8 b.toNat],false⟩):=by
 have r1:=aJ s hx
 rw [he] at r1
 obtain ⟨cp,w',g1,g2,g3,g4,g5⟩:=kw (P:=P) e st w
 have hcv:(convert sr ds (.string ⟨st.toArray⟩)).run P w=(Conv.stringToBytes e ⟨st.toArray⟩).run P w:=by
  simp [convert,run_underlying h1,run_underlying h2,run_underlying h3]
 have ae:∀(i:Nat) (b:UInt8),st[i]? = some b→((st.map fun b=>Value.int .u8 b.toNat).toArray++Array.replicate (cp - st.length) (.int .u8 0))[i]? = some (.int .u8 b.toNat):=fun i b hb=>by
  have hlt:=(dL.1 hb).1
  rw [Array.getElem?_append_left (by simpa using hlt)]
  simp [hb]
 have hsz:((st.map fun (b:UInt8)=>Value.int .u8 b.toNat).toArray++Array.replicate (cp - st.length) (Value.int .u8 0)).size=cp:=by simp;omega
 refine f6 (q:=false) (len:=st.length) (cap:=cp) (w':=w') s hd hu hid ?_ g3 g4 g5 (.inr (by rw [hsz];exact aB _)) (fun i r hi=>?_) (by rw [hsz];simpa using g2) g2 (by rw [hsz];simp) (fun i j r y hi hj=>?_) (fun h=>by cases h)
 ·simp only [execOp,ho,r1.str,Sem.run_bind,hcv,g1,Result.andThen_ok,Sem.run_pure]
 ·simp only [cQ,cq] at hi
  obtain ⟨b,_,rfl⟩:=hi
  rfl
 ·simp only [cQ,cq] at hi
  obtain ⟨b,hb,rfl⟩:=hi
  cases j with
  | zero=>simp at hj;subst hj;exact ⟨.int .u8 b.toNat,by simpa using ae i b hb,IRel.int _ _⟩
  | succ j=>simp at hj
theorem Jz (s:aD c bl g h a w) {sr ds e0 e:TypeId} {x:Operand} {xv:IV} (ho:o.op = .convert sr ds x) (h0:P.underlying sr=some (.slice e0)) (h1:P.underlying ds=some (.slice e)) (hsd:(sr==ds)=true) (h2:P.underlying e=some (.int .u8)) (hx:cV x=some xv)
  {id st off len:Nat} {ob:ah} (hxv:val g xv = .ms id st off len) (hob:h id=some ob) (hst:st=1) (host:ob.st=1) (hrec:ob.isRec=false) (hlen:0<len):aM P c o a w g h (.ms id st off len) (.put id ob):=by
 have r1:=aJ s hx
 rw [hxv] at r1
 rcases r1 with ⟨_,_,h4⟩ | ⟨h4,_,_⟩ | ⟨b,cap,c0,t0,fr0,q1,q2,q3,q4,q5⟩
 ·omega
 ·omega
 rcases s.heap.1 id ob hob with hn0 | ⟨b',g1,⟨gk,c1,fr,g2,g3,g4,g5,g6,g7⟩ | hsp⟩
 ·rw [hn0.2.2] at q1;cases q1
 rotate_left
 ·rw [q1] at g1;cases g1;exact (hsp.ne q4).elim
 rw [q1] at g1
 cases g1
 have hsh:w.shape? b=some (ob.t,c1.size):=by unfold World.shape?;rw [g2]
 have hb:b<w.heap.size:=be g2
 have hrun:(execOp a.eval o).run P w = .ok (.value (.slice (some ⟨b,off * st,none⟩) len cap)) (w.freeze { block:=b,off:=c1.size } 1):=by
  have hcv:(convert sr ds (.slice (some ⟨b,off * st,none⟩) len cap)).run P w = .ok (.slice (some ⟨b,off * st,none⟩) len cap) (w.freeze { block:=b,off:=c1.size } 1):=by
   simp [convert,run_underlying h0,run_underlying h1,run_underlying h2,hsd,markStringish,run_shape,hsh,run_freeze]
  simp only [execOp,ho,q2,Sem.run_bind,hcv,Result.andThen_ok,Sem.run_pure]
 have hheap:(w.freeze { block:=b,off:=c1.size } 1).heap=w.heap.modify b fun
   | .cells c elem (lo,hi)=>.cells c elem (if lo==hi then (c1.size,c1.size+1) else (min lo c1.size,max hi (c1.size+1)))
   | o=>o:=rfl
 have e1:(w.freeze { block:=b,off:=c1.size } 1).heap[b]? = some (.cells c1 ob.t (if fr.1==fr.2 then (c1.size,c1.size+1) else (min fr.1 c1.size,max fr.2 (c1.size+1)))):=by
  rw [hheap,kF,bz rfl,g2]
  rfl
 have e2:dE c1 (if fr.1==fr.2 then (c1.size,c1.size+1) else (min fr.1 c1.size,max fr.2 (c1.size+1))):=by
  by_cases hq:fr.1=fr.2
  ·rw [bz (by simpa using hq)];exact .inr (aB _)
  ·rw [aV (by simpa using hq)]
   rcases g3 with g3 | g3
   ·exact absurd g3 hq
   ·exact .inr (by show c1.size≤min fr.1 c1.size;omega)
 have hs:=s.writeF (o':=ob) hob q1 g2 e1 e2 rfl (by rw [hheap];simp) (fun b' hb'=>by
  rw [hheap,kF,aV (fun e=>hb' e.symm)]) rfl rfl rfl ⟨g5,g6,g7⟩
 refine ⟨_,_,bl,.inl hrun,hs,?_⟩
 refine .inr (.inr ⟨b,cap,c1,ob.t,_,q1,rfl,q3,e1,?_⟩)
 rw [g2] at q4
 cases q4
 exact q5
theorem za {fn:Func} (h:fn.name = "internal/bytealg.IndexByteString"):Extern.find fn=some Extern.BytealgIndexByte.indexByte:=by
 unfold Extern.find
 simp only [h]
 have h1:(Extern.allGenericRows.lookup "internal/bytealg.IndexByteString").isNone=true:=by decide +kernel
 have h2:(Extern.allTypedRows.lookup "internal/bytealg.IndexByteString").isNone=true:=by decide +kernel
 have h3:Extern.allRows.lookup "internal/bytealg.IndexByteString" = some Extern.BytealgIndexByte.indexByte:=by kernel_rfl
 rw [Option.isNone_iff_eq_none] at h1 h2
 rw [h1,h2,h3]
 rfl
theorem JN (s:aD c bl g h a w) {cl:Call} {f:FuncId} {fn:Func} {x y:Operand} {xv yv:IV} (ho:o.op = .call cl) (hcl:cl.callee = .value (.func f)) (har:cl.args = #[x,y]) (hf:P.funcs[f]? = some fn) (hb:fn.body=none) (hnm:fn.name = "internal/bytealg.IndexByteString")
  (hnx:Extern.findNext fn=none) (hx:cV x=some xv) (hy:cV y=some yv) {v:AV} (he:yi (val g xv) (val g yv)=some v):aM P c o a w g h v .no:=by
 have h1:=aJ s hx
 have h2:=aJ s hy
 unfold yi at he
 split at he
 case h_2=>cases he
 rename_i st n e1 e2
 cases he
 rw [e1] at h1;rw [e2] at h2
 have e3:=h1.str
 have e4:=h2.int
 have hrun:=run_callFunc_extern (P:=P) (f:=f) hf (by rw [hnm];decide) (by rw [hb];rfl) hnx (za hnm) #[a.eval x,a.eval y] w
 rw [e3,e4,run_indexByte_string] at hrun
 refine aM.pure s (r:=.int .i64 (Fy st n.toNat.toUInt8)) ?_ (i6 _ _)
 simp [execOp,ho,resolve,hcl,har,Act.eval,Deferred.ofValue,invoke,hrun,e3,e4,Result.andThen,Fy]<;>simp_all [Act.eval]
theorem m0:∀{ls:List LK} {xs ys:List AV} {r:Bool},eJ ls xs ys=some r→xs.length=ls.length∧ys.length=ls.length
 | [],[],[],_,_=>⟨rfl,rfl⟩
 | _ :: _,[],_,_,h=>by simp [eJ] at h
 | _ :: _,_ :: _,[],_,h=>by simp [eJ] at h
 | [],_ :: _,_,_,h=>by simp [eJ] at h
 | [],[],_ :: _,_,h=>by simp [eJ] at h
 | l :: ls,x :: xs,y :: ys,r,h=>by
  simp only [eJ] at h
  split at h
  ·rename_i p q h1 h2
   have:=m0 h2
   simp [this.1,this.2]
  ·cases h
theorem qO:∀(l1 l2:List LK) (xs ys:List AV) (r:Bool),eJ (l1++l2) xs ys=some r→∃p q,eJ l1 (xs.take l1.length) (ys.take l1.length)=some p∧eJ l2 (xs.drop l1.length) (ys.drop l1.length)=some q∧r=(p&&q)
 | [],l2,xs,ys,r,h=>⟨true,r,by simp [eJ],by simpa using h,by simp⟩
 | l :: l1,l2,[],ys,r,h=>by simp [eJ] at h
 | l :: l1,l2,x :: xs,[],r,h=>by simp [eJ] at h
 | l :: l1,l2,x :: xs,y :: ys,r,h=>by
  simp only [r6,eJ] at h
  split at h
  case h_2=>cases h
  rename_i p q h1 h2
  cases h
  obtain ⟨p',q',h3,h4,rfl⟩:=qO l1 l2 xs ys q h2
  exact ⟨p&&p',q',by simp [eJ,h1,h3],by simpa using h4,by simp [Bool.and_assoc]⟩
theorem wD {x y:AV} {r:Bool} (h:eR .b x y=some r):∃p q,x = .bool p∧y = .bool q∧r=(p==q):=by
 cases x<;>cases y<;>simp only [eR,bO] at h<;>first | exact ⟨_,_,rfl,rfl,h.symm⟩ | cases h
theorem wE {x y:AV} {r:Bool} (h:eR .i x y=some r):∃k p q,x = .int k p∧y = .int k q∧r=(p==q):=by
 cases x<;>cases y<;>simp only [eR] at h<;>first | (split at h;(rename_i hk;subst hk;cases h;exact ⟨_,_,_,rfl,rfl,rfl⟩);(cases h)) | cases h
theorem wF {x y:AV} {r:Bool} (h:eR .s x y=some r):∃p q,x = .str p∧y = .str q∧r=(p==q):=by
 cases x<;>cases y<;>simp only [eR,bO] at h<;>first | exact ⟨_,_,rfl,rfl,h.symm⟩ | cases h
def lY (P:Program) (t:TypeId) (x:AV) (xs:List AV):Prop :=
 match P.underlying t with
 | some (.struct _)=>x = .agg xs
 | _=>xs=[x]
theorem t_ {t:TypeId} {ls:List LK} {m:Nat} (ht:jF P m t=some ls) {cells:List AV} {off:Nat} (hl:((cells.drop off).take ls.length).length=ls.length) :
  ∃n x,jv P t=some n∧gd n (cells.drop off)=some x∧lY P t x ((cells.drop off).take ls.length):=by
 have one:∀(l:LK),ls=[l]→(∀fs,P.underlying t≠some (.struct fs))→jv P t=some none→∃n x,jv P t=some n∧gd n (cells.drop off)=some x∧lY P t x ((cells.drop off).take ls.length):=fun l e h1 h2=>by
  subst e
  obtain ⟨y,r,hc⟩:∃y r,cells.drop off=y :: r:=by
   cases hc:cells.drop off with
   | nil=>rw [hc] at hl;simp at hl
   | cons y r=>exact ⟨y,r,rfl⟩
  refine ⟨none,y,h2,by rw [hc];rfl,?_⟩
  unfold lY
  split
  ·rename_i fs h3;exact absurd h3 (h1 fs)
  ·rw [hc];rfl
 have inf:∀{d:TypeDesc},P.underlying t=some d→∃i,P.info? t=some i:=fun {d} hu=>by
  obtain ⟨i,hi⟩:=info_of_underlying hu
  exact ⟨i,hi⟩
 cases m with
 | zero=>simp [jF] at ht
 | succ m =>
  unfold jF at ht
  split at ht
  ·rename_i hu;cases ht;obtain ⟨i,hi⟩:=inf hu;exact one _ rfl (fun fs h=>by rw [hu] at h;cases h) (by simp [jv,hu,hi])
  ·rename_i hu;cases ht;obtain ⟨i,hi⟩:=inf hu;exact one _ rfl (fun fs h=>by rw [hu] at h;cases h) (by simp [jv,hu,hi])
  ·rename_i hu;cases ht;obtain ⟨i,hi⟩:=inf hu;exact one _ rfl (fun fs h=>by rw [hu] at h;cases h) (by simp [jv,hu,hi])
  ·rename_i fs hu
   split at ht
   ·cases ht
   split at ht
   case h_2=>cases ht
   split at ht
   case isFalse=>cases ht
   rename_i hs
   cases ht
   refine ⟨some ls.length,.agg ((cells.drop off).take ls.length),hs,?_,?_⟩
   ·rw [gd,bz (by rw [r8] at hl;omega)]
   ·unfold lY;rw [hu]
  ·cases ht
def FT (P:Program) (m:Nat):Prop:=∀(t:TypeId) (ls:List LK),jF P m t=some ls→∀(M:Nat→Prop) (bl:Nat→Option Nat) (w:World) (d:Nat) (a b:Value) (x y:AV) (xs ys:List AV) (r:Bool),
 cZ bl M w a x→cZ bl M w b y→lY P t x xs→lY P t y ys→eJ ls xs ys=some r→(Op.equalIn (d+m) t a b).run P w = .ok r w
theorem oX {m:Nat} (IH:FT P m) {M:Nat→Prop} {d:Nat} {A B:List Value} {xs ys:List AV} (hA:aK (bA bl M w) A xs) (hB:aK (bA bl M w) B ys):∀(fs:List Field) (off:Nat) (ls:List LK) (r:Bool),
  oc (jF P m) fs off=some ls→eJ ls (xs.drop off) (ys.drop off)=some r→(Op.eqFields (d+m) A.toArray B.toArray fs).run P w = .ok r w
 | [],off,ls,r,h1,h2=>by
  simp only [oc,bO] at h1
  subst h1
  obtain ⟨e1,e2⟩:=m0 h2
  cases hx:xs.drop off with
  | cons=>rw [hx] at e1;simp at e1
  | nil=>cases hy:ys.drop off with
   | cons=>rw [hy] at e2;simp at e2
   | nil =>
    rw [hx,hy] at h2
    simp only [eJ,bO] at h2
    subst h2
    simp [Op.eqFields]
 | fd :: fs,off,ls,r,h1,h2=>by
  simp only [oc] at h1
  split at h1
  case isFalse=>cases h1
  rename_i hc
  obtain ⟨ho,hn⟩:=hc
  split at h1
  case h_2=>cases h1
  rename_i l hl
  split at h1
  case h_2=>cases h1
  rename_i ls' hls
  cases h1
  obtain ⟨p,q,g1,g2,rfl⟩:=qO l ls' _ _ r h2
  obtain ⟨e1,e2⟩:=m0 g1
  obtain ⟨n,x,t1,t2,t3⟩:=t_ hl e1
  obtain ⟨n',y,t4,t5,t6⟩:=t_ hl e2
  obtain ⟨u,u1,u2⟩:=ga (w:=w) t1 hA t2
  obtain ⟨v,v1,v2⟩:=ga (w:=w) t4 hB t5
  have key:=IH fd.type l hl M bl w d u v x y _ _ p u2 v2 t3 t6 g1
  rw [List.drop_drop,List.drop_drop] at g2
  have rest:=oX (d:=d) IH hA hB fs (off+l.length) ls' q hls g2
  simp only [Op.eqFields,hn,ne_eq,not_false_eq_true,fv,Sem.run_bind,ho,u1,v1,key,Result.andThen_ok]
  cases p
  ·simp
  ·simpa using rest
theorem yZ:∀m,FT P m
 | 0=>fun t ls ht=>by simp [jF] at ht
 | m+1=>fun t ls ht M bl w d a b x y xs ys r ha hb fx fy h=>by
  have lf:∀(l:LK),ls=[l]→(∀fs,P.underlying t≠some (.struct fs))→∃r',eR l x y=some r'∧r=r':=fun l e hn=>by
   subst e
   have hx:xs=[x]:=by unfold lY at fx;split at fx;exact absurd (by assumption) (hn _);exact fx
   have hy:ys=[y]:=by unfold lY at fy;split at fy;exact absurd (by assumption) (hn _);exact fy
   subst hx;subst hy
   simp only [eJ] at h
   split at h
   ·rename_i p q h1 h2
    cases h2;cases h
    exact ⟨p,h1,by simp⟩
   ·cases h
  have e0:d+(m+1)=(d+m)+1:=rfl
  unfold jF at ht
  split at ht
  ·rename_i hu
   cases ht
   obtain ⟨r',h1,rfl⟩:=lf .b rfl (fun fs h=>by rw [hu] at h;cases h)
   obtain ⟨p,q,rfl,rfl,rfl⟩:=wD h1
   rw [e0,(cZ.toV ha).bool,(cZ.toV hb).bool]
   exact run_equalIn_bool' w _ t _ _ hu
  ·rename_i k0 hu
   cases ht
   obtain ⟨r',h1,rfl⟩:=lf .i rfl (fun fs h=>by rw [hu] at h;cases h)
   obtain ⟨k,p,q,rfl,rfl,rfl⟩:=wE h1
   rw [e0,(cZ.toV ha).int,(cZ.toV hb).int]
   exact run_equalIn_int w _ t k k0 _ _ hu
  ·rename_i hu
   cases ht
   obtain ⟨r',h1,rfl⟩:=lf .s rfl (fun fs h=>by rw [hu] at h;cases h)
   obtain ⟨p,q,rfl,rfl,rfl⟩:=wF h1
   rw [e0,(cZ.toV ha).str,(cZ.toV hb).str,run_equalIn_string w _ t _ _ hu]
   simp
  ·rename_i fs hu
   split at ht
   ·cases ht
   rename_i hst
   split at ht
   case h_2=>cases ht
   rename_i ls' hls
   split at ht
   case isFalse=>cases ht
   cases ht
   have hx:x = .agg xs:=by unfold lY at fx;rw [hu] at fx;exact fx
   have hy:y = .agg ys:=by unfold lY at fy;rw [hu] at fy;exact fy
   subst hx;subst hy
   obtain ⟨A,rfl,hA⟩:=ha
   obtain ⟨B,rfl,hB⟩:=hb
   have hfs:P.fieldsOf t=fs:=by simp [Program.fieldsOf,hu]
   rw [e0,run_equalIn_struct w (d+m) t _ _ (by rw [hfs];exact hu) (by simpa using hst),hfs]
   exact oX (yZ m) hA hB fs.toList 0 ls r hls (by simpa using h)
  ·cases ht
theorem E0 (s:aD c bl g h a w) {t t':TypeId} {fs:Array Field} {op:BinOp} {x y:Operand} {xv yv:IV} {l:LK} {ls:List LK} (ho:o.op = .binOp op t x y t') (ht:P.underlying t=some (.struct fs)) (hg:P.eqGuardType P.depth t=false) (hl:jF P 20 t=some (l :: ls)) (hx:cV x=some xv) (hy:cV y=some yv)
  {v:AV} (he:iB op (l :: ls) (val g xv) (val g yv)=some v):aM P c o a w g h v .no:=by
 have h1:=aJ s hx
 have h2:=aJ s hy
 have key:∀xs ys r,val g xv = .agg xs→val g yv = .agg ys→eJ (l :: ls) xs ys=some r→∃A B,a.eval x = .agg A∧a.eval y = .agg B∧(Op.equalIn 10000 t (.agg A) (.agg B)).run P w = .ok r w:=fun xs ys r e1 e2 e3=>by
  rw [e1] at h1;rw [e2] at h2
  have k:=yZ (P:=P) 20 t (l :: ls) hl (aY bl c.MF h) bl w 9980 (a.eval x) (a.eval y) (.agg xs) (.agg ys) xs ys r h1 h2 (by unfold lY;rw [ht]) (by unfold lY;rw [ht]) e3
  obtain ⟨A,q1,_⟩:=h1
  obtain ⟨B,q3,_⟩:=h2
  rw [q1,q3] at k
  exact ⟨_,_,q1,q3,k⟩
 unfold iB at he
 split at he<;>first | (cases he;done) | skip
 all_goals first | (rename_i hl _ _;cases hl;done) | skip
 ·rename_i l' ls' xs ys hll e1 e2
  cases hll
  simp only [cq] at he
  obtain ⟨r,e3,rfl⟩:=he
  obtain ⟨A,B,q1,q2,q3⟩:=key xs ys r e1 e2 e3
  exact aM.pure s (r:=.bool _) (by simp only [execOp,ho,q1,q2,Sem.run_bind,run_eqGuard_agg w _ t _ _ _ _ hg,run_eql_struct,q3,Result.andThen_ok];rfl) (f7 _)
 ·rename_i l' ls' xs ys hll e1 e2
  cases hll
  simp only [cq] at he
  obtain ⟨r,e3,rfl⟩:=he
  obtain ⟨A,B,q1,q2,q3⟩:=key xs ys r e1 e2 e3
  exact aM.pure s (r:=.bool _) (by simp only [execOp,ho,q1,q2,Sem.run_bind,run_eqGuard_agg w _ t _ _ _ _ hg,run_neq_struct,q3,Result.andThen_ok];rfl) (f7 _)
theorem EU (s:aD c bl g h a w) {t t':TypeId} {ps rs:Array TypeId} {vd:Bool} {op:BinOp} {x y:Operand} {xv yv:IV} (ho:o.op = .binOp op t x y t') (ht:P.underlying t=some (.func ps rs vd)) (hx:cV x=some xv) (hy:cV y=some yv)
  {v:AV} (he:iB op [] (val g xv) (val g yv)=some v):aM P c o a w g h v .no:=by
 have h1:=aJ s hx
 have h2:=aJ s hy
 have nf:∀{u:Value} {M:Nat→Prop},aT bl M w u .nf→u = .nilFunc:=fun hv=>by simp only [aT,cZ,bA,cL] at hv;cases hv;rfl
 have q1:∀f cs1 cs2,(Op.equal t (.func f cs1 cs2) .nilFunc).run P w = .ok false w:=fun f cs1 cs2=>by
  have h1:(Op.equalIn (9999+1) t (.func f cs1 cs2) .nilFunc).run P w = .ok false w:=by unfold Op.equalIn;simp [underlying,ht]
  exact h1
 have q2:(Op.equal t .nilFunc .nilFunc).run P w = .ok true w:=by
  have h1:(Op.equalIn (9999+1) t .nilFunc .nilFunc).run P w = .ok true w:=by unfold Op.equalIn;simp [underlying,ht]
  exact h1
 unfold iB at he
 split at he<;>first | (cases he;done) | skip
 all_goals first | (rename_i hl _ _;cases hl;done) | skip
 ·rename_i f cs e1 e2
  rw [e1] at h1;rw [e2] at h2
  obtain ⟨cs',h3,_⟩:=h1
  cases he
  exact aM.pure s (r:=.bool _) (by simp only [execOp,ho,h3,nf h2,eqGuard,binOp];simp [q1]) (f7 _)
 ·rename_i f cs e1 e2
  rw [e1] at h1;rw [e2] at h2
  obtain ⟨cs',h3,_⟩:=h1
  cases he
  exact aM.pure s (r:=.bool _) (by simp only [execOp,ho,h3,nf h2,eqGuard,binOp];simp [q1]) (f7 _)
 ·rename_i e1 e2
  rw [e1] at h1;rw [e2] at h2
  cases he
  exact aM.pure s (r:=.bool _) (by simp only [execOp,ho,nf h1,nf h2,eqGuard,binOp];simp [q2]) (f7 _)
 ·rename_i e1 e2
  rw [e1] at h1;rw [e2] at h2
  cases he
  exact aM.pure s (r:=.bool _) (by simp only [execOp,ho,nf h1,nf h2,eqGuard,binOp];simp [q2]) (f7 _)
theorem FE (s:aD c bl g h a w) {st:Nat} {y:Operand} {yv:IV} (hy:cV y=some yv) {rows:List (List AV)} (hr:dv st h (val g yv)=some rows) (k:Nat) (hk:k≤rows.length) :
  ∃ys:List Value,(∀w':World,(Builtin.lenOf (a.eval y)).run P w' = .ok rows.length w')∧(∀w':World,w'.heap=w.heap→(Builtin.firstCells st k (a.eval y)).run P w' = .ok ys.toArray w')∧gI (IRel (aY bl c.MF h) w) st ys (rows.take k):=by
 have h1:=aJ s hy
 have tk:∀{rows:List (List AV)} {i:Nat} {r:List AV},(rows.take k)[i]? = some r→rows[i]? = some r:=fun {rows i r} hi=>by
  rw [List.getElem?_take] at hi
  split at hi
  ·exact hi
  ·cases hi
 have nil:∀{v:Value},v = .slice none 0 0→∃ys:List Value,(∀w':World,(Builtin.lenOf v).run P w' = .ok ([]:List (List AV)).length w')∧(∀w':World,w'.heap=w.heap→(Builtin.firstCells st k v).run P w' = .ok ys.toArray w')∧gI (IRel (aY bl c.MF h) w) st ys (([]:List (List AV)).take k):=fun {v} hv=>by
  subst hv
  exact ⟨[],(mO (P:=P) (w:=w) st).len,fun w' _=>by simp [Builtin.firstCells],by simpa using eE st⟩
 have emp:∀{ad:Addr} {cap:Nat},k=0→∃ys:List Value,(∀w':World,(Builtin.lenOf (.slice (some ad) 0 cap)).run P w' = .ok ([]:List (List AV)).length w')∧(∀w':World,w'.heap=w.heap→(Builtin.firstCells st k (.slice (some ad) 0 cap)).run P w' = .ok ys.toArray w')∧gI (IRel (aY bl c.MF h) w) st ys (([]:List (List AV)).take k):=fun {ad cap} hk=>by
  subst hk
  exact ⟨[],(jo (P:=P) (w:=w) st ad cap).len,(jo (P:=P) (w:=w) st ad cap).vals,by simpa using eE st⟩
 cases hval:val g yv<;>rw [hval] at hr h1<;>simp only [dv] at hr<;>try cases hr
 case nl=>exact nil h1.nl
 case sl st' rows' =>
  split at hr
  case isFalse=>cases hr
  rename_i hst
  subst hst
  cases hr
  generalize hu:a.eval y=u at h1
  have h2:=h1.sl
  cases h2 with
  | nls=>exact nil rfl
  | sl0 st ad cap=>exact emp (by simpa using hk)
  | sl b off cap st c1 t1 fr rows vs hb hM hl hrl hv hx =>
   obtain ⟨ys,h3,h4⟩:=gV (P:=P) (R:=IRel (aY bl c.MF h) w) (off:=off) (rows:=rows.take k) hb (fun i r hi=>hrl i r (tk hi)) (fun i j r x hi hj=>⟨vs i j,hv i j (dL.1 (tk hi)).1 (by rw [← hrl i r (tk hi)];exact (dL.1 hj).1),hx i j r x (tk hi) hj⟩)
   rw [r8,Nat.min_eq_left hk] at h4
   exact ⟨ys,fun w'=>by simp [Builtin.lenOf],fun w' hw=>by simp [Builtin.firstCells,h4 w' hw],h3⟩
 case ms id st' off len =>
  split at hr
  case h_2=>cases hr
  rename_i ob hob
  split at hr
  case isFalse=>cases hr
  rename_i hcond
  obtain ⟨rfl,hst,hrec,hfit⟩:=hcond
  cases hr
  have hlen:((ob.rows.drop off).take len).length=len:=by simp;omega
  rcases h1 with ⟨h2,h3,h4⟩ | ⟨h2,h3,ad,cap,h4⟩ | ⟨b,cap,c1,t1,fr,h2,h3,h4,h5,h6⟩
  ·subst h3 h4
   simp only [bE]
   exact nil h2
  ·subst h2
   rw [h4]
   simp only [bE]
   exact emp (by simpa using hk)
  ·rcases s.heap.1 id ob hob with hn0 | ⟨b',g2,⟨_,c2,fr2,g3,g4,g5,g6,g7,g8⟩ | hsp⟩
   ·rw [hn0.2.2] at h2;cases h2
   rotate_left
   ·rw [h2] at g2;cases g2;exact (hsp.ne h5).elim
   rw [h2] at g2
   cases g2
   have getr:∀(i:Nat) (r:List AV),(((ob.rows.drop off).take len).take k)[i]? = some r→ob.rows[off+i]? = some r:=fun i r hi=>by
    have hi:=tk hi
    rw [List.getElem?_take] at hi
    split at hi
    ·simpa using hi
    ·cases hi
   obtain ⟨ys,q3,q4⟩:=gV (P:=P) (R:=IRel (aY bl c.MF h) w) (w:=w) (off:=off * st') (st:=st') (rows:=((ob.rows.drop off).take len).take k) g3 (fun i r hi=>by rw [← hst];exact g6 _ _ (getr i r hi)) (fun i j r x hi hj=>by
    obtain ⟨v,hv,hrl⟩:=g8 _ _ _ _ (getr i r hi) hj
    rw [hrec] at hrl
    refine ⟨v,?_,hrl⟩
    rw [← hv,hst,eU])
   rw [r8,Nat.min_eq_left hk] at q4
   refine ⟨ys,?_,?_,q3⟩
   ·rw [h3,hlen]
    exact fun w'=>by simp [Builtin.lenOf]
   ·rw [h3]
    exact fun w' hw=>by simp [Builtin.firstCells,q4 w' hw]
theorem Jv (s:aD c bl g h a w) {t t' e:TypeId} {st:Nat} {cl:Call} {x y:Operand} {xv:IV} (ho:o.op = .call cl) (hcl:cl.callee = .builtin .copy) (hat:cl.argTypes = #[t,t']) (har:cl.args = #[x,y]) (ht:P.underlying t=some (.slice e)) (hn:dD P e=some st)
  (hx:cV x=some xv) {id off len:Nat} (hxv:val g xv = .ms id st off len) {ob:ah} (hob:h id=some ob) (hst:ob.st=st) (hrec:ob.isRec=false) (hfit:off+len≤ob.rows.length)
  {yrows:List (List AV)} {ys:List Value} (N:Nat) (hlen:∀w':World,(Builtin.lenOf (a.eval y)).run P w' = .ok N w') (hN:Nat.min N len=yrows.length) (hvals:∀w':World,w'.heap=w.heap→(Builtin.firstCells st yrows.length (a.eval y)).run P w' = .ok ys.toArray w') (hy:(∀(i:Nat) (r:List AV),yrows[i]? = some r→r.length=st)∧ys.length=yrows.length * st ∧
   ∀(i j:Nat) (r:List AV) (x:AV),yrows[i]? = some r→r[j]? = some x→∃v,ys[i * st+j]? = some v∧IRel (aY bl c.MF h) w v x) (hle:yrows.length≤len) :
  aM P c o a w g h (.int .i64 yrows.length) (.put id { ob with rows:=ob.rows.take off++yrows++ob.rows.drop (off+yrows.length) }):=by
 have h1:=aJ s hx
 rw [hxv] at h1
 have hsz:(sizeOf e).run P w = .ok st w:=ky hn
 have hund:(underlying t).run P w = .ok (.slice e) w:=by simp [underlying,ht]
 have key:∀(base:Option Addr) (cap:Nat) (w':World),a.eval x = .slice base len cap→(match base with | some ad=>(storeCells ad ys).run P w = .ok () w' | none=>w'=w)→(execOp a.eval o).run P w = .ok (.value (.int .i64 yrows.length)) w':=by
  intro base cap w' hv hstore
  have hmin:Nat.min N len=yrows.length:=hN
  have e1:=hlen w
  have e2:=hvals w rfl
  cases base with
  | none=>subst hstore;simp [execOp,ho,resolve,hcl,har,hat,invoke,builtin,Builtin.copy_,hund,hv,e1,hmin,hsz,e2,goInt]
  | some ad=>simp [execOp,ho,resolve,hcl,har,hat,invoke,builtin,Builtin.copy_,hund,hv,e1,hmin,hsz,e2,hstore,goInt]
 subst hst
 have empty:yrows=[]→∀base cap,a.eval x = .slice base len cap→aM P c o a w g h (.int .i64 yrows.length) (.put id { ob with rows:=ob.rows.take off++yrows++ob.rows.drop (off+yrows.length) }):=by
  rintro rfl base cap hv
  have hys:ys=[]:=List.length_eq_zero_iff.1 (by simpa using hy.2.1)
  subst hys
  have eo:({ ob with rows:=ob.rows.take off++[]++ob.rows.drop (off+([]:List (List AV)).length) }:ah)=ob:=by simp
  rw [eo]
  refine ⟨_,w,bl,.inl (key base cap w hv ?_),s.congr (fun _=>rfl) (fun j=>?_),?_⟩
  ·cases base with
   | none=>rfl
   | some ad=>simp [storeCells]
  ·by_cases hj:j=id
   ·subst hj;simp [aP.hp,cI,hob]
   ·simp [aP.hp,cI,hj]
  ·exact i6 _ _
 rcases h1 with ⟨h2,_,h4⟩ | ⟨h4,_,ad,cap,h2⟩ | ⟨b,cap,c0,t0,fr0,h2,h3,h4,h5,h6⟩
 ·subst h4
  exact empty (List.length_eq_zero_iff.1 (by omega)) _ _ h2
 ·subst h4
  exact empty (List.length_eq_zero_iff.1 (by omega)) _ _ h2
 rcases s.heap.1 id ob hob with hn0 | ⟨b',q2,⟨gk,c1,fr,q3,q4,q5,q6,q7,q8⟩ | hsp⟩
 ·rw [hn0.2.2] at h2;cases h2
 rotate_left
 ·rw [h2] at q2;cases q2;exact (hsp.ne h5).elim
 rw [h2] at q2
 cases q2
 have hspace:off * ob.st+ys.length≤c1.size:=by
  rw [hy.2.1,← eU]
  exact gc (iA _ (by omega)) q7
 have hone:∀v∈ys,eB v:=fun v hv=>by
  obtain ⟨k,hk⟩:=List.getElem?_of_mem hv
  have hlt:k<yrows.length * ob.st:=by rw [← hy.2.1];exact (dL.1 hk).1
  have hpos:0<ob.st:=Nat.pos_of_ne_zero fun h0=>by rw [h0] at hlt;omega
  have hi:k / ob.st<yrows.length:=Nat.div_lt_of_lt_mul (by rw [Nat.mul_comm];exact hlt)
  have hr:=hy.1 _ _ (fu hi)
  have hj:k % ob.st<(yrows[k / ob.st]).length:=by rw [hr];exact Nat.mod_lt _ hpos
  obtain ⟨v',q9,q10⟩:=hy.2.2 _ _ _ _ (fu hi) (fu hj)
  rw [Nat.mul_comm,Nat.div_add_mod,hk] at q9
  cases q9
  exact q10.one
 have hst':=fF (P:=P) (w:=w) (b:=b) (off:=off * ob.st) (vs:=ys) q3 q4 hspace hone
 obtain ⟨c2,g1,g2,g3,g4,g5,g6,g7⟩:=eZ b ys (off * ob.st) w q3 hspace
 have hl3:(ob.rows.take off++yrows++ob.rows.drop (off+yrows.length)).length=ob.rows.length:=by
  simp only [ol,r8,tI];omega
 have hrow:∀i:Nat,(ob.rows.take off++yrows++ob.rows.drop (off+yrows.length))[i]? = if off≤i∧i<off+yrows.length then yrows[i - off]? else ob.rows[i]?:=fun i=>by
  have hlt:(ob.rows.take off).length=off:=by simp;omega
  rcases cB i off with g8 | g8
  ·rw [aV (by omega),tG,List.getElem?_append_left (by omega),List.getElem?_take_of_lt g8]
  ·rcases cB i (off+yrows.length) with g9 | g9
   ·rw [bz ⟨g8,g9⟩,List.getElem?_append_left (by simp;omega),List.getElem?_append_right (by omega),hlt]
   ·rw [aV (by omega),List.getElem?_append_right (by simp;omega),List.getElem?_drop]
    congr 1
    simp;omega
 have hs:=s.write (o':={ ob with rows:=ob.rows.take off++yrows++ob.rows.drop (off+yrows.length) }) hob h2 q3 g1 g2 g4 g5 g6 g7 rfl ⟨fun i q hq=>by
   simp only at hq ⊢
   rw [hrow] at hq
   split at hq
   ·exact hy.1 _ _ hq
   ·exact q6 _ _ hq,by simp only [hl3];rw [g2];exact q7,fun i j q z hq hz=>by
   simp only at hq hz ⊢
   rw [hrow] at hq
   have hj:j<ob.st:=by
    split at hq
    ·rw [← hy.1 _ _ hq];exact (dL.1 hz).1
    ·rw [← q6 _ _ hq];exact (dL.1 hz).1
   have hin:(off * ob.st≤i * ob.st+j∧i * ob.st+j<off * ob.st+ys.length)↔(off≤i∧i<off+yrows.length):=by
    rw [hy.2.1]
    constructor
    ·rintro ⟨a1,a2⟩
     refine ⟨Nat.le_of_not_lt fun hlt=>?_,Nat.lt_of_not_le fun hle=>?_⟩
     ·have:=iA ob.st (show i+1≤off by omega)
      rw [eU] at this
      omega
     ·have:=iA ob.st hle
      rw [eU] at this
      omega
    ·rintro ⟨a1,a2⟩
     have b1:=iA ob.st a1
     have b2:=iA ob.st (show i+1≤off+yrows.length by omega)
     rw [eU,eU] at b2
     omega
   rw [g3]
   split at hq
   ·rename_i hc
    rw [bz (hin.2 hc)]
    obtain ⟨v,w1,w2⟩:=hy.2.2 _ _ _ _ hq hz
    refine ⟨v,?_,?_⟩
    ·rw [← w1]
     congr 1
     have:=iA ob.st hc.1
     rw [Nat.sub_mul]
     omega
    ·rw [hrec];exact w2
   ·rename_i hc
    rw [aV (fun hh=>hc (hin.1 hh))]
    exact q8 _ _ _ _ hq hz⟩
 exact ⟨_,_,bl,.inl (key _ _ _ h3 hst'),hs,i6 _ _⟩
end
def iU:eV→Bool
 | .new ..=>true
 | .box ..=>true
 | .bsl ..=>true
 | .app ..=>true
 | .apps ..=>true
 | .cvb ..=>true
 | .mks ..=>true
 | .mop .rng _=>true
 | .mop .mkm _=>true
 | _=>false
section
variable {P:Program} {c:je} {bl:Nat→Option Nat} {g:Nat→AV} {h:Nat→Option ah} {a:Act} {w:World} {o:Oper}
theorem a_ {x:Option AV} {v:AV} {e:aP} (h:res x=some (v,e)):x=some v∧e = .no:=by
 unfold res at h
 simp only [cq,Prod.mk.injEq] at h
 obtain ⟨y,h1,rfl,rfl⟩:=h
 exact ⟨h1,rfl⟩
theorem vm {α:Type} {x:Array α} {t:α} (h:x.toList=[t]):x = #[t]:=by cases x;simp_all
theorem m1 {α:Type} {x:Array α} {t u:α} (h:x.toList=[t,u]):x = #[t,u]:=by cases x;simp_all
theorem mL {f:Nat→ah→Option (AV×aP)} {v r:AV} {e:aP} {h:Nat→Option ah} (hq:∃id,v = .mm id true∧(h id).bind (f id)=some (r,e)):∃id ob,v = .mm id true∧h id=some ob∧f id ob=some (r,e):=by
 obtain ⟨id,h1,h2⟩:=hq
 simp only [jd] at h2
 obtain ⟨ob,h3,h4⟩:=h2
 exact ⟨id,ob,h1,h3,h4⟩
theorem pj {i:Nat} {rows:List (List AV)} (h:i3 i rows=true):∀r∈rows,∀x∈r,mC i x=false:=fun r hr x hx=>by
 simpa using de.1 (de.1 h r hr) x hx
theorem sm (s:aD c bl g h a w) {op:eV} (hc:fW P o.op=some op) {d:Nat} {x:AV} {e:aP} (he:bh d op (val g) h=some (x,e))
  (hnew:iU op=true→h d=none∧bP d g h∧(d<1000∨2000≤d)):aM P c o a w g h x e:=by
 generalize hoo:o.op=oo at hc
 cases oo with
 | move y =>
  simp only [fW,cq] at hc
  obtain ⟨v,h1,rfl⟩:=hc
  simp only [bh,bO,Prod.mk.injEq] at he
  obtain ⟨rfl,rfl⟩:=he
  exact Bm s (.inl hoo) h1
 | assign y =>
  simp only [fW,cq] at hc
  obtain ⟨v,h1,rfl⟩:=hc
  simp only [bh,bO,Prod.mk.injEq] at he
  obtain ⟨rfl,rfl⟩:=he
  exact Bm s (.inr hoo) h1
 | pick q y z =>
  simp only [fW] at hc
  split at hc
  case h_2=>cases hc
  rename_i qv yv zv h1 h2 h3
  cases hc
  exact EZ s hoo h1 h2 h3 (by simpa [bh] using he)
 | alloc t =>
  simp only [fW,cq] at hc
  obtain ⟨z,h1,rfl⟩:=hc
  simp only [bh,bO,Prod.mk.injEq] at he
  obtain ⟨rfl,rfl⟩:=he
  obtain ⟨n1,n2,n3⟩:=hnew rfl
  exact JK s hoo h1 n1 n2 n3
 | box t y =>
  simp only [fW] at hc
  split at hc
  case h_2=>cases hc
  rename_i n yv h1 h2
  cases hc
  simp only [bh] at he
  split at he
  case h_2=>cases he
  rename_i cs h3
  split at he
  case isFalse=>cases he
  rename_i hcond
  obtain ⟨rfl,h4⟩:=hcond
  cases he
  obtain ⟨n1,n2,n3⟩:=hnew rfl
  exact Jt s hoo h2 h3 (fun y hy=>by simpa using de.1 h4 y hy) n1 n2 n3
 | build t parts =>
  simp only [fW] at hc
  split at hc
  case h_3=>cases hc
  case h_2 =>
   rename_i n e ht
   split at hc
   case h_2=>cases hc
   rename_i z ie h1 h2
   split at hc
   case isFalse=>cases hc
   rename_i hp
   cases hc
   simp only [bh,fA,dM] at he
   obtain ⟨hz,rfl⟩:=a_ he
   cases hz
   exact wI s hoo ht h1 h2 (by simpa using hp)
  rename_i fs ht
  split at hc
  case h_2=>cases hc
  rename_i z places h1 h2
  simp only [cq] at hc
  obtain ⟨ps,h3,rfl⟩:=hc
  simp only [bh] at he
  obtain ⟨hz,rfl⟩:=a_ he
  simp only [cq] at hz
  obtain ⟨out,h4,rfl⟩:=hz
  exact Bj s hoo ht h1 h2 h3 h4
 | buildSlice t len parts =>
  simp only [fW] at hc
  split at hc
  case h_2=>cases hc
  rename_i e' ht
  split at hc
  case h_2=>cases hc
  rename_i z n ps h1 h2 h3
  split at hc
  case isFalse=>cases hc
  rename_i hcond
  obtain ⟨h4,h5,h7⟩:=hcond
  cases hc
  simp only [bh] at he
  obtain ⟨n1,n2,n3⟩:=hnew rfl
  unfold pG yG at he
  split at he
  ·rename_i rs h8
   cases he
   exact Ju s hoo ht h1 h2 h3 h4 h5 h7 h8 n1 n2 n3
  ·split at he
   ·rename_i rs h8
    split at he
    ·rename_i hno
     cases he
     exact uJ s hoo ht h1 h2 h3 h4 h5 h7 h8 n1 n2 n3 (fun h=>by cases h) (fun _=>pj hno)
    ·cases he
   ·cases he
 | load t p =>
  simp only [fW] at hc
  split at hc
  case h_2=>cases hc
  rename_i n pv h1 h2
  cases hc
  simp only [bh] at he
  obtain ⟨hz,rfl⟩:=a_ he
  exact EW s hoo h1 h2 hz
 | store t p y =>
  simp only [fW] at hc
  split at hc
  case h_2=>cases hc
  rename_i n pv yv h1 h2 h3
  cases hc
  simp only [bh,cq,Prod.mk.injEq] at he
  obtain ⟨e',h4,rfl,rfl⟩:=he
  exact Bo s hoo h1 h2 h3 h4
 | nilCheck y =>
  simp only [fW,cq] at hc
  obtain ⟨yv,h1,rfl⟩:=hc
  simp only [bh] at he
  split at he<;>try cases he
  ·rename_i id st row off hv
   have:=qa (P:=P) s hoo h1 (.inl ⟨id,st,row,off,hv⟩)
   rwa [hv] at this
  ·rename_i cells hv
   have:=qa (P:=P) s hoo h1 (.inr (.inl ⟨cells,hv⟩))
   rwa [hv] at this
  ·rename_i f caps hv
   have:=qa (P:=P) s hoo h1 (.inr (.inr ⟨f,caps,hv⟩))
   rwa [hv] at this
 | binOp op' t y z t' =>
  simp only [fW] at hc
  split at hc
  case h_2=>cases hc
  rename_i yv zv h1 h2
  unfold vw at hc
  split at hc
  ·cases hc;simp only [bh] at he;obtain ⟨hz,rfl⟩:=a_ he;exact ER s hoo (by assumption) h1 h2 (by assumption)
  ·cases hc;simp only [bh] at he;obtain ⟨hz,rfl⟩:=a_ he;exact Bi s hoo h1 h2 (by assumption)
  ·cases hc;simp only [bh] at he;obtain ⟨hz,rfl⟩:=a_ he;exact Bi s hoo h1 h2 (by assumption)
  ·cases hc;simp only [bh] at he;obtain ⟨hz,rfl⟩:=a_ he;exact EY s hoo (by assumption) h1 h2 (by assumption)
  ·cases hc;simp only [bh] at he;obtain ⟨hz,rfl⟩:=a_ he;exact EU s hoo (by assumption) h1 h2 (by assumption)
  ·split at hc
   ·cases hc
   rename_i hg
   split at hc
   case h_2=>cases hc
   rename_i l ls hls
   cases hc
   simp only [bh] at he
   obtain ⟨hz,rfl⟩:=a_ he
   exact E0 s hoo (by assumption) (by simpa using hg) hls h1 h2 (by assumption)
  ·rename_i e' ht
   split at hc
   ·cases hc;simp only [bh] at he;obtain ⟨hz,rfl⟩:=a_ he;exact sZ s hoo ht (.inl ⟨rfl,rfl⟩) h1 h2 hz
   ·cases hc;simp only [bh] at he;obtain ⟨hz,rfl⟩:=a_ he;exact sZ s hoo ht (.inr ⟨rfl,rfl⟩) h1 h2 hz
   ·cases hc
  ·cases hc
 | unOp op' t y =>
  simp only [fW,cq] at hc
  obtain ⟨yv,h1,rfl⟩:=hc
  simp only [bh] at he
  obtain ⟨hz,rfl⟩:=a_ he
  exact M1 s hoo h1 hz
 | convert sr ds y =>
  simp only [fW] at hc
  split at hc
  case h_2=>cases hc
  rename_i yv h1
  unfold oP at hc
  split at hc
  ·rename_i k' k h2 h3
   cases hc
   simp only [bh] at he
   split at he
   case h_2=>cases he
   rename_i kk n hv
   cases he
   exact Jy s hoo h2 h3 h1 hv
  ·rename_i h2 h3
   cases hc
   simp only [bh] at he
   split at he
   case h_2=>cases he
   rename_i st hv
   cases he
   have:=ES (P:=P) s hoo h2 h3 h1 hv
   rwa [hv] at this
  ·rename_i e' h2 h3
   split at hc
   case h_2=>cases hc
   rename_i h4
   cases hc
   simp only [bh] at he
   split at he
   case h_2=>cases he
   rename_i rows h5
   obtain ⟨hz,rfl⟩:=a_ he
   simp only [cq] at hz
   obtain ⟨bs,h6,rfl⟩:=hz
   exact JA s hoo h2 h4 h3 h1 h5 h6
  ·rename_i e' h2 h3
   split at hc
   case h_2=>cases hc
   rename_i h4
   cases hc
   simp only [bh] at he
   split at he
   case h_2=>cases he
   rename_i st hv
   split at he
   case isFalse=>cases he
   cases he
   obtain ⟨n1,n2,n3⟩:=hnew rfl
   exact Jw s hoo h2 h4 h3 h1 hv n1 n2 n3
  ·rename_i e0 e' h2 h3
   split at hc
   case h_2=>cases hc
   rename_i hsd h4
   cases hc
   simp only [bh] at he
   obtain ⟨id,st,off,len,ob,q1,q2,q3,q4,q5,q6,rfl,rfl⟩:=iS he
   exact Jz s hoo h2 h3 hsd h4 h1 q1 q2 q3 q4 q5 q6
  ·cases hc
 | makeFunc fn first caps =>
  cases fn<;>simp only [fW] at hc<;>try cases hc
  rename_i f
  split at hc
  case isFalse=>cases hc
  rename_i hf
  simp only [cq] at hc
  obtain ⟨cv,h1,rfl⟩:=hc
  simp only [bh] at he
  split at he
  case isFalse=>cases he
  rename_i hall
  cases he
  exact JD s hoo hf h1 (fun v hv=>de.1 hall (val g v) (List.mem_map.2 ⟨v,hv,rfl⟩))
 | makeSlice t l cp =>
  simp only [fW] at hc
  split at hc
  case h_2=>cases hc
  rename_i e' st lv cv h1 h2 h3
  simp only [cq] at hc
  obtain ⟨z,h4,rfl⟩:=hc
  simp only [bh] at he
  split at he
  case h_2=>cases he
  rename_i n m h5 h6
  split at he
  case isFalse=>cases he
  rename_i hcond
  obtain ⟨q1,q2,q3,q4⟩:=hcond
  cases he
  obtain ⟨n1,n2,n3⟩:=hnew rfl
  exact JF s hoo h1 h4 h2 h3 h5 h6 q1 q2 q3 q4 n1 n2 n3
 | slice t y lo hi mx =>
  simp only [fW] at hc
  split at hc
  ·rename_i e' yv lov hiv mxv h1 h2 h3 h4 h5
   split at hc
   case isFalse=>cases hc
   rename_i hb
   simp only [cq] at hc
   obtain ⟨n,h6,rfl⟩:=hc
   simp only [bh] at he
   obtain ⟨hz,rfl⟩:=a_ he
   exact JO s hoo h1 h6 h2 h3 h4 h5 (by
    intro hm
    cases mx<;>simp_all) hz
  ·rename_i yv lov hiv h1 h2 h3 h4 h5
   cases hc
   simp only [bh] at he
   obtain ⟨hz,rfl⟩:=a_ he
   have hm:mx=none:=by
    cases mx with
    | none=>rfl
    | some q=>simp [jr] at h5
   subst hm
   exact E3 s hoo h1 h2 h3 h4 hz
  ·cases hc
 | fieldAddr t y f =>
  simp only [fW] at hc
  split at hc
  case h_2=>cases hc
  rename_i fs yv h1 h2
  split at hc
  case h_2=>cases hc
  rename_i fd h3
  split at hc
  case h_2=>cases hc
  rename_i n h4
  cases hc
  simp only [bh] at he
  obtain ⟨hz,rfl⟩:=a_ he
  exact ET s hoo h1 h3 h4 rfl h2 hz
 | field t y f =>
  simp only [fW] at hc
  split at hc
  case h_2=>cases hc
  rename_i fs yv h1 h2
  split at hc
  case h_2=>cases hc
  rename_i fd h3
  simp only [cq] at hc
  obtain ⟨n,h4,rfl⟩:=hc
  simp only [bh] at he
  obtain ⟨hz,rfl⟩:=a_ he
  exact JC s hoo h1 h3 h4 rfl h2 hz
 | indexAddr t y i =>
  simp only [fW] at hc
  split at hc
  case h_3=>cases hc
  case h_1 =>
   rename_i e' yv iv h1 h2 h3
   simp only [cq] at hc
   obtain ⟨n,h4,rfl⟩:=hc
   simp only [bh] at he
   obtain ⟨hz,rfl⟩:=a_ he
   exact EV s hoo h1 h4 h2 h3 hz
  case h_2 =>
   rename_i len e' yv iv h1 h2 h3
   simp only [cq] at hc
   obtain ⟨n,h4,rfl⟩:=hc
   simp only [bh] at he
   obtain ⟨hz,rfl⟩:=a_ he
   exact EQ s hoo h1 h4 h2 h3 hz
 | index t y i =>
  simp only [fW] at hc
  split at hc
  case h_2=>cases hc
  rename_i yv iv h1 h2 h3
  cases hc
  simp only [bh] at he
  split at he
  case h_2=>cases he
  rename_i st k n h4 h5
  split at he
  case isFalse=>cases he
  rename_i h0
  split at he
  case h_2=>cases he
  rename_i b hb
  cases he
  exact E1 s hoo h1 h2 h3 h4 h5 h0 hb
 | extract y i =>
  simp only [fW,cq] at hc
  obtain ⟨yv,h1,rfl⟩:=hc
  simp only [bh] at he
  split at he
  case h_2=>cases he
  rename_i vs hv
  obtain ⟨hz,rfl⟩:=a_ he
  exact JB s hoo h1 hv hz
 | call cl =>
  simp only [fW] at hc
  unfold oN at hc
  split at hc
  ·rename_i f hcl
   split at hc
   ·simp only [cq] at hc
    obtain ⟨_,_,rfl⟩:=hc
    simp [bh] at he
   ·obtain ⟨fn,y,z,yv,zv,q1,q2,q3,q4,q5,q6,q7,rfl⟩:=gM hc
    simp only [bh] at he
    obtain ⟨hz,rfl⟩:=a_ he
    exact JN s hoo hcl (m1 q5) q1 q2 q3 q4 q6 q7 hz
  ·split at hc
   ·simp only [cq] at hc
    obtain ⟨_,_,rfl⟩:=hc
    simp [bh] at he
   ·cases hc
  ·cases hc
  ·cases hc
  ·rename_i hcl
   split at hc
   case h_2=>cases hc
   rename_i t y h1 h2
   split at hc<;>(try cases hc)<;>simp only [cq] at hc<;>obtain ⟨yv,h3,rfl⟩:=hc<;>simp only [bh] at he
   ·obtain ⟨hz,rfl⟩:=a_ he
    rename_i e' ht
    exact ok_len s hoo hcl (vm h1) (vm h2) ht h3 hz
   ·obtain ⟨hz,rfl⟩:=a_ he
    rename_i ht
    exact E2 s hoo hcl (vm h1) (vm h2) ht h3 hz
   ·rename_i ht
    simp only [dP,List.map_nil] at he
    cases hv:val g yv<;>rw [hv] at he<;>simp only [er] at he<;>try cases he
    rename_i id k
    cases k<;>simp only [er] at he<;>try cases he
    simp only [jd,cq] at he
    obtain ⟨ob,h4,es,h5,h6⟩:=he
    cases h6
    exact JH s hoo hcl (vm h1) (vm h2) ht h3 hv h4 h5
  ·rename_i hcl
   split at hc
   case h_2=>cases hc
   rename_i t t' y z h1 h2
   have fin:∀{e':TypeId} {st:Nat} {yv zv:IV} {src:Option (List (List AV))},gK P t=some (e',st)→((∃e'',P.underlying t'=some (.slice e''))∨P.underlying t'=some .string)→cV y=some yv →
     (∀rows,src=some rows→∃ys,xz P w st (a.eval z) rows.length ys∧gI (IRel (aY bl c.MF h) w) st ys rows)→g_ d e' st (val g yv) src h=some (x,e)→h d=none→bP d g h→(d<1000∨2000≤d)→aM P c o a w g h x e:=by
    intro e' st yv zv src hap ht' hy hsrc he n1 n2 n3
    unfold g_ at he
    split at he
    case h_1=>cases he
    rename_i ys
    split at he
    case isFalse=>cases he
    rename_i hbig
    obtain ⟨vs,hs,hyr⟩:=hsrc ys rfl
    split at he
    ·rename_i hv
     cases he
     exact nK (q:=false) s hoo hcl (m1 h1) (m1 h2) hap ht' hy hv hs hyr hbig n1 n2 n3 (fun h=>by cases h)
    ·rename_i id st' off len hv
     split at he
     case h_2=>cases he
     rename_i ob hob
     split at he
     case isFalse=>cases he
     rename_i hcond
     obtain ⟨rfl,q2,q3,q4,rfl,q6,q7,q8,q9⟩:=hcond
     cases he
     exact nL (q:=false) s hoo hcl (m1 h1) (m1 h2) hap ht' hy hv hob q2 q3 q6 q8 q9 hs (fun h=>by rw [q4] at h;exact h) hyr hbig q7 (fun h=>by cases h)
    ·cases he
   split at hc
   ·rename_i e' st e'' yv zv h3 h4 h5 h6
    cases hc
    simp only [bh] at he
    obtain ⟨n1,n2,n3⟩:=hnew rfl
    exact fin (zv:=zv) h3 (.inl ⟨_,h4⟩) h5 (fun rows hr=>uR s h6 hr) he n1 n2 n3
   ·rename_i e' st yv zv h3 h4 h5 h6
    split at hc
    case isFalse=>cases hc
    rename_i hst
    subst hst
    cases hc
    simp only [bh] at he
    obtain ⟨n1,n2,n3⟩:=hnew rfl
    exact fin (zv:=zv) h3 (.inr h4) h5 (fun rows hr=>B3 s h6 hr) he n1 n2 n3
   ·cases hc
  ·rename_i hcl
   split at hc
   case h_2=>cases hc
   rename_i y z h1
   split at hc
   case h_2=>cases hc
   rename_i yv zv h2 h3
   cases hc
   simp only [bh] at he
   obtain ⟨hz,rfl⟩:=a_ he
   exact Bl (m:=false) s hoo hcl (m1 h1) h2 h3 hz
  ·rename_i hcl
   split at hc
   case h_2=>cases hc
   rename_i y z h1
   split at hc
   case h_2=>cases hc
   rename_i yv zv h2 h3
   cases hc
   simp only [bh] at he
   obtain ⟨hz,rfl⟩:=a_ he
   exact Bl (m:=true) s hoo hcl (m1 h1) h2 h3 hz
  ·rename_i hcl
   split at hc
   case h_2=>cases hc
   rename_i t t' y z h1 h2
   split at hc
   case h_2=>cases hc
   rename_i e' e'' yv zv h3 h4 h5 h6
   simp only [cq] at hc
   obtain ⟨st,h7,rfl⟩:=hc
   simp only [bh] at he
   have hcp:∀{src:Option (List (List AV))},lZ st (val g yv) src h=some (x,e)→∃ys id off len ob,src=some ys∧val g yv = .ms id st off len∧h id=some ob∧ob.st=st∧ob.isRec=false∧off+len≤ob.rows.length ∧
     ∃k,k=Nat.min ys.length len∧x = .int .i64 k∧e = .put id { ob with rows:=ob.rows.take off++ys.take k++ob.rows.drop (off+k) }:=fun {src} hq=>by
    unfold lZ at hq
    cases src with
    | none=>cases hq
    | some ys =>
     simp only at hq
     split at hq
     ·rename_i id st' off len hv
      split at hq
      ·rename_i ob hob
       split at hq
       ·rename_i hcond
        obtain ⟨rfl,p2,p3,p4⟩:=hcond
        split at hq
        ·rename_i hle
         cases hq
         exact ⟨ys,id,off,len,ob,rfl,hv,hob,p2,p3,p4,ys.length,(Nat.min_eq_left hle).symm,rfl,by rw [bJ]⟩
        ·rename_i hle
         cases hq
         exact ⟨ys,id,off,len,ob,rfl,hv,hob,p2,p3,p4,len,(Nat.min_eq_right (by omega)).symm,rfl,rfl⟩
       ·cases hq
      ·cases hq
     ·cases hq
   obtain ⟨ys,id,off,len,ob,hys,hv,hob,p2,p3,p4,k,hk,rfl,rfl⟩:=hcp he
   have hk1:k≤ys.length:=by rw [hk];exact Nat.min_le_left _ _
   have hk2:k≤len:=by rw [hk];exact Nat.min_le_right _ _
   obtain ⟨vs,hs1,hs2,hyr⟩:=FE (P:=P) s h6 hys k hk1
   have hkl:(ys.take k).length=k:=by rw [r8,Nat.min_eq_left hk1]
   have:=Jv s hoo hcl (m1 h1) (m1 h2) h3 h7 h5 hv hob p2 p3 p4 (yrows:=ys.take k) ys.length hs1 (by rw [hkl,hk]) (by rw [hkl];exact hs2) hyr (by rw [hkl];exact hk2)
   rw [hkl] at this
   exact this
  ·cases hc
 | range t y =>
  simp only [fW] at hc
  split at hc
  case h_2=>cases hc
  rename_i yv h1 h2
  cases hc
  simp only [bh,dP,List.map_nil] at he
  cases hv:val g yv<;>rw [hv] at he<;>simp only [er] at he<;>try cases he
  obtain ⟨n1,n2,n3⟩:=hnew rfl
  exact JM s hoo h1 h2 hv n1 n2 n3
 | next y b =>
  cases b<;>simp only [fW] at hc
  ·cases hc
  simp only [cq] at hc
  obtain ⟨yv,h1,rfl⟩:=hc
  simp only [bh,dP,List.map_nil] at he
  cases hv:val g yv<;>rw [hv] at he<;>simp only [er] at he<;>try cases he
  rename_i id k
  cases k<;>simp only [er] at he
  ·simp only [jd] at he
   obtain ⟨ob,h2,h3⟩:=he
   exact JL s hoo h1 hv h2 h3
  ·cases he
 | makeMap t r =>
  cases r<;>simp only [fW] at hc
  ·cases hc
   simp only [bh,List.map_nil,er] at he
   cases he
   obtain ⟨n1,n2,n3⟩:=hnew rfl
   exact JE s hoo n1 n2 n3
  ·cases hc
 | lookup t y z ok =>
  simp only [fW] at hc
  split at hc
  case h_2=>cases hc
  rename_i kd zz yv zv h1 h2 h3
  cases hc
  simp only [bh,dP,List.map_nil] at he
  by_cases hfm:∃es,val g yv = .fm es
  ·obtain ⟨es,hfm⟩:=hfm
   rw [hfm] at he
   exact EX s hoo h1 h2 h3 hfm he
  obtain ⟨id,ob,h4,h5,h6⟩:=mL (f:=fun id ob=>jK ok kd zz (val g zv) ob) (v:=val g yv) (r:=x) (e:=e) (h:=h) (by
   cases hv:val g yv
   case fm es=>exact absurd ⟨es,hv⟩ hfm
   all_goals (rw [hv] at he;simp only [er] at he)
   all_goals try cases he
   rename_i id k
   cases k<;>simp only [er] at he
   ·cases he
   ·exact ⟨id,rfl,he⟩)
  exact JG s hoo h1 h2 h3 h4 h5 h6
 | mapUpdate t y z q =>
  simp only [fW] at hc
  split at hc
  case h_2=>cases hc
  rename_i kd zz yv zv qv h1 h2 h3 h0
  cases hc
  simp only [bh,dP,List.map_nil] at he
  obtain ⟨id,ob,h4,h5,h6⟩:=mL (f:=fun id ob=>mY id kd (val g zv) (val g qv) ob) (v:=val g yv) (r:=x) (e:=e) (h:=h) (by
   cases hv:val g yv<;>rw [hv] at he<;>simp only [er] at he<;>try cases he
   rename_i id k
   cases k<;>simp only [er] at he
   ·cases he
   ·exact ⟨id,rfl,he⟩)
  exact Bn s (.inl hoo) h1 h2 h3 h0 h4 h5 h6
 | insert t y z q =>
  simp only [fW] at hc
  split at hc
  case h_2=>cases hc
  rename_i kd zz yv zv qv h1 h2 h3 h0
  cases hc
  simp only [bh,dP,List.map_nil] at he
  obtain ⟨id,ob,h4,h5,h6⟩:=mL (f:=fun id ob=>mY id kd (val g zv) (val g qv) ob) (v:=val g yv) (r:=x) (e:=e) (h:=h) (by
   cases hv:val g yv<;>rw [hv] at he<;>simp only [er] at he<;>try cases he
   rename_i id k
   cases k<;>simp only [er] at he
   ·cases he
   ·exact ⟨id,rfl,he⟩)
  exact Bn s (.inr hoo) h1 h2 h3 h0 h4 h5 h6
 | mapEntry t y z =>
  simp only [fW] at hc
  split at hc
  case h_2=>cases hc
  rename_i kd zz yv zv h1 h2 h3
  cases hc
  simp only [bh,dP,List.map_nil] at he
  obtain ⟨id,ob,h4,h5,h6⟩:=mL (f:=fun id ob=>qE id kd zz (val g zv) ob) (v:=val g yv) (r:=x) (e:=e) (h:=h) (by
   cases hv:val g yv<;>rw [hv] at he<;>simp only [er] at he<;>try cases he
   rename_i id k
   cases k<;>simp only [er] at he
   ·cases he
   ·exact ⟨id,rfl,he⟩)
  exact JI s hoo h1 h2 h3 h4 h5 h6
 | entryStore t y z q =>
  simp only [fW] at hc
  split at hc
  case h_2=>cases hc
  rename_i yv zv qv h1 h2 h3
  cases hc
  simp only [bh,dP,List.map_nil] at he
  cases hz:val g zv<;>rw [hz] at he<;>cases hv:val g yv<;>rw [hv] at he<;>simp only [er] at he<;>try cases he
  rename_i kk n id k
  cases k<;>cases kk<;>simp only [er] at he<;>try cases he
  simp only [jd] at he
  obtain ⟨ob,h5,h6⟩:=he
  exact JJ s hoo h1 h2 h3 hv hz h5 h6
 | _=>simp [fW] at hc
end
end Go.Mw