/-
  The operations with their types resolved; what each yields on abstract values; and how they are read off the program.
-/
import Derived.Test.YtkejmhpodhbeeaaDoorMwB
namespace Go.Mw

inductive IV where
  | s (k : Nat)
  | c (x : AV)
  deriving Inhabited

inductive IOp where
  | mov (x : IV)
  | pick (c a b : IV)
  | new (t : TypeId) (cells : List AV)
  | box (t : TypeId) (n : Nat) (x : IV)
  | build (cells : List AV) (parts : List (Nat × Nat × IV))
  | bsl (t : TypeId) (st : Nat) (rows : List (List AV)) (parts : List (Nat × IV))
  | load (n : Option Nat) (p : IV)
  | store (n : Nat) (p x : IV)
  | fadr (off : Nat) (p : IV)
  | fld (off : Nat) (n : Option Nat) (x : IV)
  | iadr (st : Nat) (x i : IV)
  | aadr (st n : Nat) (x i : IV)
  | mnx (mx : Bool) (x y : IV)
  | slc (st : Nat) (x : IV) (lo hi mx : Option IV)
  | len (x : IV)
  | app (t : TypeId) (st : Nat) (x y : IV)
  | slen (x : IV)
  | sslc (x : IV) (lo hi : Option IV)
  | apps (t : TypeId) (x y : IV)
  | bin (op : BinOp) (x y : IV)
  | bbin (op : BinOp) (x y : IV)
  | pbin (op : BinOp) (x y : IV)
  | un (op : UnOp) (x : IV)
  | cvi (k : IntKind) (x : IV)
  | cvs (x : IV)
  | cvt (x : IV)
  | cvb (t : TypeId) (x : IV)
  | call (f : FuncId) (args : List IV)
  | callv (f : IV) (args : List IV)
  | ext (x : IV) (i : Nat)
  | nchk (x : IV)
  | mkf (f : FuncId) (caps : List IV)
  | sidx (x i : IV)
  | mks (t : TypeId) (st : Nat) (zero : List AV) (len cap : IV)
  deriving Inhabited

structure IOper where
  dst : Option Nat
  op : IOp
  g : Option (Nat × Bool)
  deriving Inhabited

inductive Eff where
  | no
  | put (i : Nat) (o : AObj)
  | new (i : Nat) (o : AObj)
  | reb (i : Nat) (o : AObj)
  deriving Inhabited

def val (g : Nat → AV) : IV → AV
  | .s k => g k
  | .c x => x

/-- The cells of a value. -/
def cellsA : AV → Option (List AV)
  | .agg cs => some cs
  | .tup _ => none
  | .any => none
  | x => some [x]

def immA : AV → Bool
  | .ms .. => false
  | .mp .. => false
  | .fn .. => false
  | .agg _ => false
  | .tup _ => false
  | _ => true

def rowsA (st : Nat) (h : Nat → Option AObj) : AV → Option (List (List AV))
  | .nl => some []
  | .sl st' rows => if st' = st then some rows else none
  | .ms id st' off len => match h id with
    | some o => if st' = st ∧ o.st = st ∧ o.isRec = false ∧ off + len ≤ o.rows.length then some ((o.rows.drop off).take len) else none
    | none => none
  | _ => none

def srcS : AV → Option (List (List AV))
  | .str s => some (s.map fun b => [.int .u8 b.toNat])
  | _ => none

def ldc (n : Option Nat) (cells : List AV) : Option AV :=
  match n with
  | none => cells[0]?
  | some n => if n ≤ cells.length then some (.agg (cells.take n)) else none

def aLoad (n : Option Nat) (p : AV) (h : Nat → Option AObj) : Option AV :=
  match p with
  | .ip cells => ldc n cells
  | .mp id st row off => match h id with
    | some o => if o.st = st then (match o.rows[row]? with | some r => ldc n (r.drop off) | none => none) else none
    | none => none
  | _ => none

def splice (r : List AV) (off : Nat) (cs : List AV) : List AV := r.take off ++ cs ++ r.drop (off + cs.length)

def aStore (n : Nat) (p x : AV) (h : Nat → Option AObj) : Option Eff :=
  match p, cellsA x with
  | .mp id st row off, some cs => match h id with
    | some o => if o.st = st ∧ cs.length = n ∧ (o.isRec || cs.all immA) = true then (match o.rows[row]? with
      | some r => if off + n ≤ r.length then some (.put id { o with rows := o.rows.set row (splice r off cs) }) else none
      | none => none) else none
    | none => none
  | _, _ => none

def aFadr (off : Nat) (p : AV) : Option AV :=
  match p with
  | .ip cells => some (.ip (cells.drop off))
  | .mp id st row o => some (.mp id st row (o + off))
  | _ => none

def aFld (off : Nat) (n : Option Nat) (x : AV) : Option AV :=
  match x with
  | .agg cells => ldc n (cells.drop off)
  | _ => none

def aIadr (st : Nat) (x i : AV) : Option AV :=
  match x, i with
  | .sl st' rows, .int _ n => if st' = st ∧ 0 ≤ n then (match rows[n.toNat]? with | some r => some (.ip r) | none => none) else none
  | .ms id st' off len, .int _ n => if st' = st ∧ 0 ≤ n ∧ n < len then some (.mp id st (off + n.toNat) 0) else none
  | _, _ => none

def aBound (d : Nat) (x : Option AV) : Option Nat :=
  match x with
  | none => some d
  | some (.int _ n) => if 0 ≤ n then some n.toNat else none
  | _ => none

def aSlc (st : Nat) (x : AV) (lo hi mx : Option AV) : Option AV :=
  match x with
  | .sl st' rows => match aBound 0 lo, aBound rows.length hi, aBound rows.length mx with
    | some l, some h, some m => if st' = st ∧ l ≤ h ∧ h ≤ m ∧ m ≤ rows.length then some (.sl st ((rows.drop l).take (h - l))) else none
    | _, _, _ => none
  | .ms id st' off len => match aBound 0 lo, aBound len hi, aBound len mx with
    | some l, some h, some m => if st' = st ∧ l ≤ h ∧ h ≤ m ∧ m ≤ len ∧ mx = none then some (.ms id st (off + l) (h - l)) else none
    | _, _, _ => none
  | .nl => match aBound 0 lo, aBound 0 hi, aBound 0 mx with
    | some l, some h, some m => if l = 0 ∧ h = 0 ∧ m = 0 then some .nl else none
    | _, _, _ => none
  | _ => none

def aSslc (x : AV) (lo hi : Option AV) : Option AV :=
  match x with
  | .str s => match aBound 0 lo, aBound s.length hi with
    | some l, some h => if l ≤ h ∧ h ≤ s.length then some (.str ((s.drop l).take (h - l))) else none
    | _, _ => none
  | _ => none

def aLen : AV → Option AV
  | .sl _ rows => some (.int .i64 rows.length)
  | .ms _ _ _ len => some (.int .i64 len)
  | .nl => some (.int .i64 0)
  | _ => none
def aSlen : AV → Option AV
  | .str s => some (.int .i64 s.length)
  | _ => none

/-- append: onto nil a new object 'd'; onto an object that is the function's own, from its start. -/
def aApp (d : Nat) (t : TypeId) (st : Nat) (x : AV) (src : Option (List (List AV))) (h : Nat → Option AObj) : Option (AV × Eff) :=
  match src with
  | none => none
  | some ys => if ys.length < 1073741824 then (match x with
    | .nl => some (.ms d st 0 ys.length, .new d ⟨t, st, ys, false⟩)
    | .ms id st' off len => match h id with
      | some o => if st' = st ∧ o.st = st ∧ o.t = t ∧ o.isRec = false ∧ off = 0 ∧ len ≤ o.rows.length ∧ len < 1073741824 ∧ (id < 1000 ∨ 2000 ≤ id) then
          some (.ms id st 0 (len + ys.length), .reb id ⟨t, st, o.rows.take len ++ ys, false⟩) else none
      | none => none
    | _ => none) else none

def aBits (op : BinOp) (k : IntKind) (a b : Int) : Option Int :=
  match op with
  | .and => some (k.wrap ((BitVec.ofInt k.bits a &&& BitVec.ofInt k.bits b).toNat))
  | .or => some (k.wrap ((BitVec.ofInt k.bits a ||| BitVec.ofInt k.bits b).toNat))
  | .xor => some (k.wrap ((BitVec.ofInt k.bits a ^^^ BitVec.ofInt k.bits b).toNat))
  | .andNot => some (k.wrap ((BitVec.ofInt k.bits a &&& ~~~ (BitVec.ofInt k.bits b)).toNat))
  | _ => none

def aInt (op : BinOp) (k : IntKind) (a b : Int) : Option AV :=
  match op with
  | .add => some (.int k (k.wrap (a + b)))
  | .sub => some (.int k (k.wrap (a - b)))
  | .mul => some (.int k (k.wrap (a * b)))
  | .quo => if b = 0 then none else some (.int k (k.wrap (a.tdiv b)))
  | .rem => if b = 0 then none else some (.int k (a.tmod b))
  | .eql => some (.bool (a == b))
  | .neq => some (.bool (a != b))
  | .lss => some (.bool (decide (a < b)))
  | .leq => some (.bool (decide (a ≤ b)))
  | .gtr => some (.bool (decide (a > b)))
  | .geq => some (.bool (decide (a ≥ b)))
  | op => (aBits op k a b).map (.int k)

def aStr (op : BinOp) (a b : List UInt8) : Option AV :=
  match op with
  | .add => if a.length + b.length < 4611686018427387904 then some (.str (a ++ b)) else none
  | .eql => some (.bool (a == b))
  | .neq => some (.bool (!(a == b)))
  | .lss => some (.bool (Op.bytesLess a b))
  | .leq => some (.bool (Op.bytesLess a b || a == b))
  | .gtr => some (.bool (!(Op.bytesLess a b || a == b)))
  | .geq => some (.bool (!(Op.bytesLess a b)))
  | _ => none

def aBin (op : BinOp) (x y : AV) : Option AV :=
  match op, x, y with
  | .shl, .int k a, .int _ b => if b < 0 then none else some (.int k (k.wrap (a * 2 ^ (min b.toNat k.bits))))
  | .shr, .int k a, .int _ b => if b < 0 then none else some (.int k (a.fdiv (2 ^ (min b.toNat k.bits))))
  | op, .int k a, .int k' b => if k = k' then aInt op k a b else none
  | op, .str a, .str b => aStr op a b
  | _, _, _ => none

def aBbin (op : BinOp) (x y : AV) : Option AV :=
  match op, x, y with
  | .eql, .bool a, .bool b => some (.bool (a == b))
  | .neq, .bool a, .bool b => some (.bool (!(a == b)))
  | _, _, _ => none

/-- The address of an element of an array. -/
def aAadr (st n : Nat) (x i : AV) : Option AV :=
  match x, i with
  | .ip cells, .int _ j => if 0 ≤ j ∧ j < n then some (.ip (cells.drop (j.toNat * st))) else none
  | .mp id s row off, .int _ j => if 0 ≤ j ∧ j < n then some (.mp id s row (off + j.toNat * st)) else none
  | _, _ => none
/-- The lesser, or the greater, of two integers. -/
def aMnx (mx : Bool) (x y : AV) : Option AV :=
  match x, y with
  | .int k n, .int k' m => if k = k' then some (.int k (if mx then (if n < m then m else n) else (if m < n then m else n))) else none
  | _, _ => none

def isNil : AV → Option Bool
  | .np => some true
  | .mp .. => some false
  | .ip _ => some false
  | _ => none

/-- Pointers: against nil alone. -/
def aPbin (op : BinOp) (x y : AV) : Option AV :=
  match op, isNil x, y with
  | .eql, some b, .np => some (.bool b)
  | .neq, some b, .np => some (.bool (!b))
  | _, _, _ => none

def aUn (op : UnOp) (x : AV) : Option AV :=
  match op, x with
  | .neg, .int k n => some (.int k (k.wrap (0 - n)))
  | .xor, .int k n => (aBits .xor k (if k.signed then -1 else k.max) n).map (.int k)
  | .not, .bool b => some (.bool (!b))
  | _, _ => none

/-- The parts of a struct laid over its zero cells. -/
def aParts (ρ : IV → AV) : List AV → List (Nat × Nat × IV) → Option (List AV)
  | cells, [] => some cells
  | cells, (off, n, v) :: rest => match cellsA (ρ v) with
    | some cs => if cs.length = n ∧ off + n ≤ cells.length then aParts ρ (splice cells off cs) rest else none
    | none => none

def aRows (ρ : IV → AV) (st : Nat) : List (List AV) → List (Nat × IV) → Option (List (List AV))
  | rows, [] => some rows
  | rows, (i, v) :: rest => match cellsA (ρ v) with
    | some cs => if cs.length = st ∧ i < rows.length ∧ cs.all immA = true then aRows ρ st (rows.set i cs) rest else none
    | none => none

def bytesA : List (List AV) → Option (List UInt8)
  | [] => some []
  | [.int .u8 n] :: r => (bytesA r).map ((UInt8.ofNat n.toNat) :: ·)
  | _ => none

def capA : AV → Bool
  | .any => false
  | .fn .. => false
  | .agg _ => false
  | .tup _ => false
  | _ => true

def res (x : Option AV) : Option (AV × Eff) := x.map fun v => (v, .no)

def aev (d : Nat) (op : IOp) (ρ : IV → AV) (h : Nat → Option AObj) : Option (AV × Eff) :=
  match op with
  | .mov x => some (ρ x, .no)
  | .pick c a b => match ρ c with
    | .bool true => some (ρ a, .no)
    | .bool false => some (ρ b, .no)
    | _ => none
  | .new t cells => some (.mp d cells.length 0 0, .new d ⟨t, cells.length, [cells], true⟩)
  | .box t n x => match cellsA (ρ x) with
    | some cs => if cs.length = n ∧ (cs.all fun y => !(mC d y)) = true then some (.mp d n 0 0, .new d ⟨t, n, [cs], true⟩) else none
    | none => none
  | .build cells parts => res ((aParts ρ cells parts).map .agg)
  | .bsl t st rows parts => match aRows ρ st rows parts with
    | some rs => some (.ms d st 0 rs.length, .new d ⟨t, st, rs, false⟩)
    | none => none
  | .load n p => res (aLoad n (ρ p) h)
  | .store n p x => (aStore n (ρ p) (ρ x) h).map fun e => (.any, e)
  | .fadr off p => res (aFadr off (ρ p))
  | .fld off n x => res (aFld off n (ρ x))
  | .iadr st x i => res (aIadr st (ρ x) (ρ i))
  | .aadr st n x i => res (aAadr st n (ρ x) (ρ i))
  | .mnx m x y => res (aMnx m (ρ x) (ρ y))
  | .slc st x lo hi mx => res (aSlc st (ρ x) (lo.map ρ) (hi.map ρ) (mx.map ρ))
  | .len x => res (aLen (ρ x))
  | .app t st x y => aApp d t st (ρ x) (rowsA st h (ρ y)) h
  | .apps t x y => aApp d t 1 (ρ x) (srcS (ρ y)) h
  | .slen x => res (aSlen (ρ x))
  | .sslc x lo hi => res (aSslc (ρ x) (lo.map ρ) (hi.map ρ))
  | .bin op x y => res (aBin op (ρ x) (ρ y))
  | .bbin op x y => res (aBbin op (ρ x) (ρ y))
  | .pbin op x y => res (aPbin op (ρ x) (ρ y))
  | .un op x => res (aUn op (ρ x))
  | .cvi k x => match ρ x with
    | .int _ n => some (.int k (k.wrap n), .no)
    | _ => none
  | .cvs x => match rowsA 1 h (ρ x) with
    | some rows => res ((bytesA rows).map .str)
    | none => none
  | .cvb t x => match ρ x with
    | .str s => if s.length < 1073741824 then some (.ms d 1 0 s.length, .new d ⟨t, 1, s.map fun b => [.int .u8 b.toNat], false⟩) else none
    | _ => none
  | .ext x i => match ρ x with
    | .tup vs => res (vs[i]?)
    | _ => none
  | .nchk x => match ρ x with
    | .mp id st row off => some (.mp id st row off, .no)
    | .ip cells => some (.ip cells, .no)
    | .fn f caps => some (.fn f caps, .no)
    | _ => none
  | .mkf f caps => if (caps.map ρ).all capA = true then some (.fn f (caps.map ρ), .no) else none
  | .cvt x => match ρ x with
    | .str s => some (.str s, .no)
    | _ => none
  | .sidx x i => match ρ x, ρ i with
    | .str s, .int _ n => if 0 ≤ n then (match s[n.toNat]? with | some b => some (.int .u8 b.toNat, .no) | none => none) else none
    | _, _ => none
  | .mks t st zero l cp => match ρ l, ρ cp with
    | .int .i64 n, .int .i64 m => if 0 ≤ n ∧ n ≤ m ∧ m < 1073741824 ∧ zero.length = st then some (.ms d st 0 n.toNat, .new d ⟨t, st, List.replicate n.toNat zero, false⟩) else none
    | _, _ => none
  | .call .. => none
  | .callv .. => none

/-! ### Reading them off the program -/

def cCell : Value → Option AV
  | .bool b => some (.bool b)
  | .int k n => some (.int k n)
  | .string s => some (.str s.data.toList)
  | .slice none 0 0 => some .nl
  | .pointer none => some .np
  | .nilFunc => some .nf
  | _ => none
def cCells : List Value → Option (List AV)
  | [] => some []
  | v :: r => match cCell v, cCells r with
    | some x, some xs => some (x :: xs)
    | _, _ => none
def cConst : Value → Option AV
  | .agg cs => (cCells cs.toList).map .agg
  | v => cCell v
def cV : Operand → Option IV
  | .tmp t => if t < 1000000 then some (.s t) else none
  | .const v => (cConst v).map .c
  | .func f => some (.c (.fn f []))
  | .global g => some (.s (1000000 + g))
def cVs : List Operand → Option (List IV)
  | [] => some []
  | v :: r => match cV v, cVs r with
    | some x, some xs => some (x :: xs)
    | _, _ => none
def cOpt : Option Operand → Option (Option IV)
  | none => some none
  | some x => (cV x).map some

def tSize (P : Program) (t : TypeId) : Option Nat := (P.info? t).map (·.size)
def tAgg (P : Program) (t : TypeId) : Option (Option Nat) :=
  match P.underlying t, P.info? t with
  | some (.struct _), some i => some (some i.size)
  | some (.array _ _), some i => some (some i.size)
  | some _, some _ => some none
  | _, _ => none
def tZero (P : Program) (t : TypeId) : Option (List AV) :=
  match P.info? t with
  | some i => match i.zero with
    | some z => cCells z.cells.toList
    | none => none
  | none => none

def tPlaces (P : Program) (fs : Array Field) : Option (List (Nat × Nat)) := fs.toList.mapM (fun f => (P.info? f.type).map fun i => (f.offset, i.size))
def cParts (places : List (Nat × Nat)) : List (Nat × Operand) → Option (List (Nat × Nat × IV))
  | [] => some []
  | (i, x) :: r => match places[i]?, cV x, cParts places r with
    | some (off, n), some v, some l => some ((off, n, v) :: l)
    | _, _, _ => none
def cRows : List (Nat × Operand) → Option (List (Nat × IV))
  | [] => some []
  | (i, x) :: r => match cV x, cRows r with
    | some v, some l => some ((i, v) :: l)
    | _, _ => none

def cBin (P : Program) (t : TypeId) (op : BinOp) (x y : IV) : Option IOp :=
  match P.underlying t with
  | some .bool => some (.bbin op x y)
  | some (.int _) => some (.bin op x y)
  | some .string => some (.bin op x y)
  | some (.pointer _) => some (.pbin op x y)
  | _ => none

def cConv (P : Program) (src dst : TypeId) (x : IV) : Option IOp :=
  match P.underlying src, P.underlying dst with
  | some (.int _), some (.int k) => some (.cvi k x)
  | some .string, some .string => some (.cvt x)
  | some (.slice e), some .string => match P.underlying e with
    | some (.int .u8) => some (.cvs x)
    | _ => none
  | some .string, some (.slice e) => match P.underlying e with
    | some (.int .u8) => some (.cvb e x)
    | _ => none
  | _, _ => none

def hasBody (P : Program) (f : FuncId) : Bool :=
  match P.funcs[f]? with
  | some fn => fn.body.isSome && fn.name != "runtime.NumGoroutine"
  | none => false

/-- Slices of such elements can be appended to. -/
def appOk (P : Program) (t : TypeId) : Option (TypeId × Nat) :=
  match P.underlying t with
  | some (.slice e) => match P.info? e, tZero P e with
    | some i, some z => if i.bytes ≤ 1024 ∧ 1 ≤ i.bytes ∧ z.length = i.size ∧ 1 ≤ i.size then some (e, i.size) else none
    | _, _ => none
  | _ => none

def cCall (P : Program) (c : Call) : Option IOp :=
  match c.callee with
  | .value (.func f) => if hasBody P f then (cVs c.args.toList).map (.call f) else none
  | .value (.tmp t) => if t < 1000000 then (cVs c.args.toList).map (.callv (.s t)) else none
  | .value _ => none
  | .invoke _ _ => none
  | .builtin .len => match c.argTypes.toList, c.args.toList with
    | [t], [x] => match P.underlying t with
      | some (.slice _) => (cV x).map .len
      | some .string => (cV x).map .slen
      | _ => none
    | _, _ => none
  | .builtin .append => match c.argTypes.toList, c.args.toList with
    | [t, t'], [x, y] => match appOk P t, P.underlying t', cV x, cV y with
      | some (e, st), some (.slice _), some x, some y => some (.app e st x y)
      | some (e, st), some .string, some x, some y => if st = 1 then some (.apps e x y) else none
      | _, _, _, _ => none
    | _, _ => none
  | .builtin .min => match c.args.toList with
    | [x, y] => match cV x, cV y with
      | some x, some y => some (.mnx false x y)
      | _, _ => none
    | _ => none
  | .builtin .max => match c.args.toList with
    | [x, y] => match cV x, cV y with
      | some x, some y => some (.mnx true x y)
      | _, _ => none
    | _ => none
  | .builtin _ => none

def cOp (P : Program) : Op → Option IOp
  | .move x => (cV x).map .mov
  | .assign x => (cV x).map .mov
  | .pick c a b => match cV c, cV a, cV b with
    | some c, some a, some b => some (.pick c a b)
    | _, _, _ => none
  | .alloc t => (tZero P t).map (.new t)
  | .box t x => match tSize P t, cV x with
    | some n, some x => some (.box t n x)
    | _, _ => none
  | .build t parts => match P.underlying t with
    | some (.struct fs) => match tZero P t, tPlaces P fs with
      | some z, some places => (cParts places parts.toList).map (.build z)
      | _, _ => none
    | _ => none
  | .buildSlice t len parts => match P.underlying t with
    | some (.slice e) => match tZero P e, tSize P e, cRows parts.toList with
      | some z, some n, some ps => if z.length = n ∧ 1 ≤ n ∧ len * n ≤ 16777216 then some (.bsl e n (List.replicate len z) ps) else none
      | _, _, _ => none
    | _ => none
  | .load t a => match tAgg P t, cV a with
    | some n, some a => some (.load n a)
    | _, _ => none
  | .store t a x => match tSize P t, cV a, cV x with
    | some n, some a, some x => some (.store n a x)
    | _, _, _ => none
  | .nilCheck x => (cV x).map .nchk
  | .binOp op t x y _ => match cV x, cV y with
    | some x, some y => cBin P t op x y
    | _, _ => none
  | .unOp op _ x => (cV x).map (.un op)
  | .convert s d x => match cV x with
    | some x => cConv P s d x
    | none => none
  | .makeFunc (.func f) first caps => if first.isEmpty then (cVs caps.toList).map (.mkf f) else none
  | .makeSlice t l c => match appOk P t, cV l, cV c with
    | some (e, st), some l, some c => (tZero P e).map fun z => .mks e st z l c
    | _, _, _ => none
  | .slice t x lo hi mx => match P.underlying t, cV x, cOpt lo, cOpt hi, cOpt mx with
    | some (.slice e), some x, some lov, some hiv, some mxv => if (!mx.isSome || hi.isSome) = true then (tSize P e).map fun n => .slc n x lov hiv mxv else none
    | some .string, some x, some lo, some hi, some none => some (.sslc x lo hi)
    | _, _, _, _, _ => none
  | .fieldAddr s x f => match P.underlying s, cV x with
    | some (.struct fs), some x => match fs[f]? with
      | some fd => match tSize P fd.type with
        | some (_ + 1) => some (.fadr fd.offset x)
        | _ => none
      | none => none
    | _, _ => none
  | .field t x f => match P.underlying t, cV x with
    | some (.struct fs), some x => match fs[f]? with
      | some fd => (tAgg P fd.type).map fun n => .fld fd.offset n x
      | none => none
    | _, _ => none
  | .indexAddr t x i => match P.underlying t, cV x, cV i with
    | some (.slice e), some x, some i => (tSize P e).map fun n => .iadr n x i
    | some (.array len e), some x, some i => (tSize P e).map fun n => .aadr n len x i
    | _, _, _ => none
  | .index t x i => match P.underlying t, cV x, cV i with
    | some .string, some x, some i => some (.sidx x i)
    | _, _, _ => none
  | .extract x i => (cV x).map fun x => .ext x i
  | .call c => cCall P c
  | _ => none

def cOper (P : Program) (n : Nat) (ops : Array Oper) (o : Oper) : Option IOper :=
  match cOp P o.op with
  | some op => match (match o.dst with | some d => decide (d < n) | none => true), o.guard with
    | true, none => some ⟨o.dst, op, none⟩
    | true, some (j, b) => match (ops[j]?).bind (·.dst) with
      | some k => some ⟨o.dst, op, some (k, b)⟩
      | none => none
    | false, _ => none
  | none => none

end Go.Mw
