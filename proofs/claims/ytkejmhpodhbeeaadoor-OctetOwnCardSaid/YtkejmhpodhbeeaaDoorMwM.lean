/-
  Code with resolved operations; its weakest precondition over abstract states; regions in the order of the text.
-/
import Derived.Test.YtkejmhpodhbeeaaDoorMwL2
import Derived.Orders
set_option linter.unusedSectionVars false
namespace Go.Mw

structure IDOper where
  o : IOper
  bef : List Nat
  deriving Inhabited

inductive ICode where
  | skip
  | ret
  | exit (id : Nat)
  | seq (x y : ICode)
  | cut (x y : ICode)
  | cond (c : IV) (t e : ICode)
  | block (id : Nat) (x : ICode)
  | loop (x : ICode)
  | reg (ops : List IOper) (dr : List Nat)
  | draw (ops : List IDOper) (al : List (Nat × Nat)) (dr : List Nat)
  deriving Inhabited

inductive IX where
  | nrm
  | ret
  | ext (id : Nat)

/-- A call, met by a contract. 'ks': the names that are bound anew. -/
def icall0 (P : Program) [Tabs P] (f : FuncId) (args : List AV) (d : Option Nat) (s : St) (K : St → Prop) : Prop :=
  (∃ args' r b, PCalls P f args' r ∧ (∀ x ∈ args', idsV x = []) ∧ All2 (coe b (hget s.heap)) args args' ∧ (b = true → flatV r = true) ∧ K (s.put d r)) ∨
  ∃ σ0 Sb Post ks, ACalls P f args σ0 Sb Post ∧ (∀ id o, hget σ0 id = some o → hget s.heap id = some o) ∧
    (∀ r σ', Post r σ' → ∀ id, (hget σ' id).isSome = true → (Sb id ∧ (hget σ0 id).isSome = true) ∨ (id ∈ ks ∧ (id < 1000 ∨ 2000 ≤ id) ∧ ((hget σ0 id).isSome = true ∨ hget s.heap id = none))) ∧
    ∀ r σ', Post r σ' → ∃ s' : St, (∀ k, get s'.env k = purLV ks (get s.env k)) ∧ (∀ j, hget s'.heap j = mrg ks (hget σ0) (hget σ') (hget s.heap) j) ∧ K (s'.put d r)

/-- The same, some arrays being frozen first. -/
def icall (P : Program) [Tabs P] (f : FuncId) (args : List AV) (d : Option Nat) (s : St) (K : St → Prop) : Prop :=
  icall0 P f args d s K ∨ ∃ fs, icall0 P f (args.map (frzVs fs s)) d (frzs fs s) K

def iop (P : Program) [Tabs P] (o : IOper) (s : St) (K : St → Prop) : Prop :=
  match o.op with
  | .call f args => icall P f (args.map (val (get s.env))) o.dst s K
  | .callv f args => match val (get s.env) f with
    | .fn f caps => hasBody P f = true ∧ icall P f (args.map (val (get s.env)) ++ caps) o.dst s K
    | _ => False
  | op => if allocs op then
      (o.dst.getD 0 < 1000 ∧ match aev (o.dst.getD 0) op (val (get (s.kill (o.dst.getD 0)).env)) (hget (s.kill (o.dst.getD 0)).heap) with
      | some (v, e) => K (((s.kill (o.dst.getD 0)).eff e).put o.dst v)
      | none => False)
    else match aev (o.dst.getD 0) op (val (get s.env)) (hget s.heap) with
      | some (v, e) => K ((s.eff e).put o.dst v)
      | none => False

def iops (P : Program) [Tabs P] : List IOper → St → (St → Prop) → Prop
  | [], s, K => K s
  | o :: r, s, K => match o.g with
    | none => iop P o s (fun s' => iops P r s' K)
    | some (k, b) => match get s.env k with
      | .bool t => (t = b → iop P o (s.put (some k) (.bool b)) (fun s' => iops P r s' K)) ∧ (t = !b → iops P r ((s.put (some k) (.bool (!b))).put o.dst (.tup [])) K)
      | .tup [] => iops P r (s.put o.dst (.tup [])) K
      | _ => False

/-- What is kept of an operation of a region whose order is open: the objects that its operands name, those that its result names, the object that it makes or writes, whether that is bound anew. -/
structure HI where
  i : Nat
  op : List Nat
  res : List Nat
  tch : List Nat
  rb : Bool
  wr : Bool

def Eff.isPut : Eff → Bool
  | .put .. => true
  | _ => false
def Eff.tch : Eff → List Nat
  | .no => []
  | .put i _ => [i]
  | .new i _ => [i]
  | .reb i _ => [i]
def Eff.isReb : Eff → Bool
  | .reb .. => true
  | _ => false
def Eff.ids : Eff → List Nat
  | .no => []
  | .put _ o => idsO o
  | .new _ o => idsO o
  | .reb _ o => idsO o

def ivSlots : IV → List Nat
  | .s k => [k]
  | .c _ => []
def ioSlots : Option IV → List Nat
  | some x => ivSlots x
  | none => []

def opSlots (o : IOp) : List Nat :=
  match o with
  | .mov x | .box _ _ x | .load _ x | .fadr _ x | .fld _ _ x | .len x | .slen x | .un _ x | .cvi _ x | .cvs x | .cvt x | .cvb _ x | .ext x _ | .nchk x => ivSlots x
  | .pick c a b => ivSlots c ++ ivSlots a ++ ivSlots b
  | .new _ _ => []
  | .build _ ps => ps.flatMap fun p => ivSlots p.2.2
  | .bsl _ _ _ ps => ps.flatMap fun p => ivSlots p.2
  | .store _ x y | .iadr _ x y | .aadr _ _ x y | .mnx _ x y | .app _ _ x y | .apps _ x y | .bin _ x y | .bbin _ x y | .pbin _ x y | .sidx x y | .mks _ _ _ x y => ivSlots x ++ ivSlots y
  | .slc _ x lo hi mx => ivSlots x ++ ioSlots lo ++ ioSlots hi ++ ioSlots mx
  | .sslc x lo hi => ivSlots x ++ ioSlots lo ++ ioSlots hi
  | .call _ args => args.flatMap ivSlots
  | .callv f args => ivSlots f ++ args.flatMap ivSlots
  | .mkf _ caps => caps.flatMap ivSlots

def operSlots (o : IOper) : List Nat := opSlots o.op ++ (match o.g with | some (k, _) => [k] | none => [])

/-- Two operations of which neither waits for the other do not meet in memory. -/
def meetOk (x y : HI) : Bool :=
  y.tch.all (fun d => !x.op.contains d && !x.tch.contains d) && x.tch.all (fun d => !y.op.contains d) && (!x.rb || x.tch.all fun d => !y.res.contains d) && (!y.rb || y.tch.all fun d => !x.res.contains d) && !(x.rb && y.wr) && !(y.rb && x.wr)

def histOk (bef : List Nat) (x : HI) (hist : List HI) : Bool := hist.all fun y => bef.contains y.i || meetOk x y

/-- What it yields names no object of the region that is made by an operation on which it does not wait. -/
def newOk (al : List (Nat × Nat)) (bef : List Nat) (x : HI) : Bool := al.all fun p => !x.res.contains p.1 || p.2 == x.i || bef.contains p.2

def isAny : AV → Bool
  | .any => true
  | _ => false
/-- No operand is unknown; what is bound anew is named by no other object. -/
def plainOk (o : IOp) (s : St) (e : Eff) : Bool := (opSlots o).all (fun k => !isAny (get s.env k)) && (!e.isReb || e.tch.all fun d => s.heap.all fun p => !(idsO p.2).contains d)

def opIds (o : IOp) (e : List (Nat × AV)) : List Nat := (opSlots o).flatMap fun k => idsV (get e k)

def idop (P : Program) [Tabs P] (al : List (Nat × Nat)) (i : Nat) (o : IDOper) (hist : List HI) (s : St) (K : List HI → St → Prop) : Prop :=
  match o.o.op with
  | .call f args => (∃ args' r b, PCalls P f args' r ∧ (∀ x ∈ args', idsV x = []) ∧ All2 (coe b (hget s.heap)) (args.map (val (get s.env))) args' ∧ (b = true → flatV r = true) ∧ idsV r = [] ∧
      plainOk o.o.op s .no = true ∧ histOk o.bef ⟨i, opIds o.o.op s.env, [], [], false, false⟩ hist = true ∧ K (⟨i, opIds o.o.op s.env, [], [], false, false⟩ :: hist) (s.put o.o.dst r)) ∨
      ∃ k ob ob' Sb r, ACalls P f (args.map (val (get s.env))) [(k, ob)] Sb (fun r' σ' => r' = r ∧ σ' = [(k, ob')]) ∧ Sb k ∧ hget s.heap k = some ob ∧ idsV r = [] ∧ idsO ob' = [] ∧ k ∈ opIds o.o.op s.env ∧
      plainOk o.o.op s (.put k ob') = true ∧ histOk o.bef ⟨i, opIds o.o.op s.env, [], [k], false, true⟩ hist = true ∧ K (⟨i, opIds o.o.op s.env, [], [k], false, true⟩ :: hist) ((s.eff (.put k ob')).put o.o.dst r)
  | .callv _ _ => False
  | op => match aev (o.o.dst.getD 0) op (val (get s.env)) (hget s.heap) with
    | some (v, e) => plainOk o.o.op s e = true ∧ histOk o.bef ⟨i, opIds o.o.op s.env, idsV v ++ e.ids, e.tch, e.isReb, e.isPut⟩ hist = true ∧
        newOk al o.bef ⟨i, opIds o.o.op s.env, idsV v ++ e.ids, e.tch, e.isReb, e.isPut⟩ = true ∧ K (⟨i, opIds o.o.op s.env, idsV v ++ e.ids, e.tch, e.isReb, e.isPut⟩ :: hist) ((s.eff e).put o.o.dst v)
    | none => False

def idops (P : Program) [Tabs P] (al : List (Nat × Nat)) : Nat → List IDOper → List HI → St → (St → Prop) → Prop
  | _, [], _, s, K => K s
  | i, o :: r, hist, s, K => match o.o.g with
    | none => idop P al i o hist s (fun hist' s' => idops P al (i + 1) r hist' s' K)
    | some (k, b) => match get s.env k with
      | .bool t => (t = b → idop P al i o hist (s.put (some k) (.bool b)) (fun hist' s' => idops P al (i + 1) r hist' s' K)) ∧
          (t = !b → idops P al (i + 1) r (⟨i, [], [], [], false, false⟩ :: hist) ((s.put (some k) (.bool (!b))).put o.o.dst (.tup [])) K)
      | .tup [] => idops P al (i + 1) r (⟨i, [], [], [], false, false⟩ :: hist) (s.put o.o.dst (.tup [])) K
      | _ => False

/-- Wherever 's' holds, 's'' does. -/
def Wk (s s' : St) : Prop := ∀ (c : Ctx) (a : Act) (w : World), SatS c s a w → SatS c s' a w

/-- The code without the marks. -/
def erase : ICode → ICode
  | .cut x y => .seq (erase x) (erase y)
  | .seq x y => .seq (erase x) (erase y)
  | .cond c t e => .cond c (erase t) (erase e)
  | .block id x => .block id (erase x)
  | .loop x => .loop (erase x)
  | x => x

/-- What a test has told of its slot. -/
def refine (c : IV) (b : Bool) (s : St) : St :=
  match c with
  | .s k => s.put (some k) (.bool b)
  | .c _ => s

def iwp (P : Program) [Tabs P] : ICode → St → (IX → St → Prop) → Prop
  | .skip, s, K => K .nrm s
  | .ret, s, K => K .ret s
  | .exit id, s, K => K (.ext id) s
  | .seq x y, s, K => iwp P x s fun e s' => match e with
    | .nrm => iwp P y s' K
    | e => K e s'
  | .cut x y, s, K => iwp P x s fun e s' => match e with
    | .nrm => ∃ s'', Wk s' s'' ∧ iwp P y s'' K
    | e => K e s'
  | .cond c t e, s, K => match val (get s.env) c with
    | .bool b => (b = true → iwp P t (refine c true s) K) ∧ (b = false → iwp P e (refine c false s) K)
    | _ => False
  | .block id x, s, K => iwp P x s fun e s' => match e with
    | .ext j => if j = id then K .nrm s' else K (.ext j) s'
    | e => K e s'
  | .loop x, s, K => ∃ I : Nat → St → Prop, (∃ n s', I n s' ∧ Wk s s') ∧ ∀ n s, I n s → iwp P x s fun e s' => match e with
    | .nrm => ∃ m s'', m < n ∧ I m s'' ∧ Wk s' s''
    | e => K e s'
  | .reg ops dr, s, K => iops P ops s fun s' => K .nrm ⟨dels dr s'.env, s'.heap⟩
  | .draw ops al dr, s, K => idops P al 0 ops [] (kills (al.map (·.1)) s) fun s' => K .nrm ⟨dels dr s'.env, s'.heap⟩

/-! ### From the program's code -/

def cOps (P : Program) (n : Nat) (ops : Array Oper) : List Oper → Option (List IOper)
  | [] => some []
  | o :: r => match cOper P n ops o, cOps P n ops r with
    | some x, some xs => some (x :: xs)
    | _, _ => none

/-- The operations on which each waits, all the way. -/
def befs : List Oper → List (List Nat) → List (List Nat)
  | [], acc => acc
  | o :: r, acc => befs r (acc ++ [((o.after.toList.filter (Region.binds .any)).flatMap fun e => e.on :: acc.getD e.on []).eraseDups])

def alIds (l : List IOper) : List Nat := l.filterMap fun o => if allocs o.op then some (o.dst.getD 0) else none

/-- The slots of a code's regions and conditions, one list each. -/
def slotLists : Code → List (List Nat)
  | .region _ ops _ => [ops.toList.flatMap fun o => o.dst.toList ++ o.op.operands.toList.filterMap fun | .tmp t => some t | _ => none]
  | .seq x y => slotLists x ++ slotLists y
  | .cond (.tmp t) x y => [t] :: (slotLists x ++ slotLists y)
  | .cond _ x y => slotLists x ++ slotLists y
  | .block _ x => slotLists x
  | .loop x => slotLists x
  | .scope x => slotLists x
  | _ => []

def inTwo (ls : List (List Nat)) (k : Nat) : Bool := 2 ≤ (ls.filter (·.contains k)).length

def nodupB : List Nat → Bool
  | [] => true
  | x :: r => !r.contains x && nodupB r

def edges (o : Oper) : List Nat := (o.after.toList.filter (Region.binds .any)).map (·.on)

/-- What is held of the orders, by reckoning. -/
def ordOk (ops : List Oper) (bs : List (List Nat)) : Bool :=
  (List.range ops.length).all fun i => match ops[i]? with
    | none => false
    | some o => (edges o).all (fun d => decide (d < i)) && (bs.getD i []).all (fun d => (edges o).contains d || (edges o).any fun m => (bs.getD m []).contains d)

/-- The constants of an operation name no object. -/
def ivConst : IV → Bool
  | .s _ => true
  | .c x => (idsV x).isEmpty
def constOk (op : IOp) : Bool :=
  match op with
  | .load _ x | .cvs x => ivConst x
  | .store _ x y | .app _ _ x y | .apps _ x y => ivConst x && ivConst y
  | .call _ args => args.all ivConst
  | _ => true

/-- Two operations of which neither waits for the other leave each other's slots alone. -/
def apartOk (bs : List (List Nat)) (l : List IOper) : Bool :=
  (List.range l.length).all fun i => (List.range i).all fun j => match l[i]?, l[j]? with
    | some x, some y => (bs.getD i []).contains j ||
        ((match y.dst with | some d => !(operSlots x).contains d && x.dst != some d | none => true) && (match x.dst with | some d => !(operSlots y).contains d | none => true))
    | _, _ => false

def alPairs : Nat → List IOper → List (Nat × Nat)
  | _, [] => []
  | i, o :: r => if allocs o.op then (o.dst.getD 0, i) :: alPairs (i + 1) r else alPairs (i + 1) r

def cDraw (P : Program) (n : Nat) (ops : Array Oper) (dr : List Nat → List Nat) : Option ICode :=
  match cOps P n ops ops.toList with
  | none => none
  | some l =>
    let bs := befs ops.toList []
    if ordOk ops.toList bs && apartOk bs l && (alPairs 0 l).all (fun p => p.1 < 1000) && nodupB ((alPairs 0 l).map (·.1)) && l.all (fun o => constOk o.op) then
      some (.draw (l.zipIdx.map fun p => ⟨p.1, bs.getD p.2 []⟩) (alPairs 0 l) (dr (l.filterMap (·.dst)))) else none

def comp (P : Program) (n : Nat) (sh : List (List Nat)) : Code → Option ICode
  | .skip => some .skip
  | .ret => some .ret
  | .exit id => some (.exit id)
  | .label _ => some .skip
  | .seq x y => match comp P n sh x, comp P n sh y with
    | some x, some y => some (.seq x y)
    | _, _ => none
  | .cond c x y => match cV c, comp P n sh x, comp P n sh y with
    | some c, some x, some y => some (.cond c x y)
    | _, _, _ => none
  | .block id x => (comp P n sh x).map (.block id)
  | .loop x => (comp P n sh x).map .loop
  | .scope x => comp P n sh x
  | .region _ ops false => match cOps P n ops ops.toList with
    | some l => some (.reg l ((l.filterMap (·.dst)).filter fun k => !inTwo sh k))
    | none => none
  | .region _ ops true => cDraw P n ops (·.filter fun k => !inTwo sh k)
  | _ => none

inductive IRes where
  | tmp (k : Nat)
  | cell (k : Nat) (n : Option Nat)
  deriving Inhabited

structure IFun where
  n : Nat
  np : Nat
  res : List IRes
  body : ICode
  deriving Inhabited

def cRes (P : Program) : List ResultVar → Option (List IRes)
  | [] => some []
  | .tmp t :: r => if t < 1000000 then (cRes P r).map (.tmp t :: ·) else none
  | .cell a t :: r => match tAgg P t, cRes P r with
    | some n, some l => if a < 1000000 then some (.cell a n :: l) else none
    | _, _ => none

def resSlots : List ResultVar → List Nat
  | [] => []
  | .tmp t :: r => t :: resSlots r
  | .cell a _ :: r => a :: resSlots r

def compF (P : Program) (f : FuncId) : Option IFun :=
  match P.funcs[f]? with
  | none => none
  | some fn => match fn.body with
    | none => none
    | some body => match comp P fn.ntmps (resSlots fn.results.toList :: slotLists body) body, cRes P fn.results.toList with
      | some b, some rs => if fn.params.size + fn.nfree ≤ fn.ntmps ∧ fn.ntmps ≤ 1000000 then some ⟨fn.ntmps, fn.params.size + fn.nfree, rs, b⟩ else none
      | _, _ => none
end Go.Mw
