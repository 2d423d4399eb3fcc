/-
  Values and instructions.
-/
import Derived.Test.YtoikbadfbneahaaGreatDoorQc
import Derived.Test.YtoikbadfbneahaaGreatDoorQe
import Derived.Lib.DecodeN
set_option linter.unusedVariables false
set_option linter.unusedSimpArgs false
set_option linter.unusedSectionVars false
set_option maxRecDepth 100000
set_option linter.unusedVariables false
set_option linter.unusedSimpArgs false
namespace Go.Proofs.YtoikbadfbneahaaGreatDoor
open Go Go.Mw

def vl_ (n:Int):List AV:=[.int .i64 n]
theorem vl_e (n:Int):vl_ n = [.int .i64 n]:=rfl
attribute [go_sem] vl_e
structure Ins where
  op:Int
  a:Int
  b:Int
  n:Int
  k:Int
  v:Int
  x:Int
  ty:List Int
  lb:List Int
def ins_ (i:Ins):AV:=.agg [.int .i64 i.op,.int .i64 i.a,.int .i64 i.b,.int .u64 i.n,.int .i64 i.k,.int .i64 i.v,.int .i64 i.x,.sl 1 (i.ty.map vl_),.sl 1 (i.lb.map vl_)]
theorem ins_e (i:Ins):ins_ i = .agg [.int .i64 i.op,.int .i64 i.a,.int .i64 i.b,.int .u64 i.n,.int .i64 i.k,.int .i64 i.v,.int .i64 i.x,.sl 1 (i.ty.map vl_),.sl 1 (i.lb.map vl_)]:=rfl
def insC (i:Ins):List AV:=[.int .i64 i.op,.int .i64 i.a,.int .i64 i.b,.int .u64 i.n,.int .i64 i.k,.int .i64 i.v,.int .i64 i.x,.sl 1 (i.ty.map vl_),.sl 1 (i.lb.map vl_)]
end Go.Proofs.YtoikbadfbneahaaGreatDoor
set_option linter.unusedSimpArgs false
set_option maxRecDepth 100000
set_option linter.unusedVariables false
namespace Go.Proofs.YtoikbadfbneahaaGreatDoor
open Go Go.Mw

structure Nm where
  i:Int
  s:List UInt8
instance:Inhabited Nm:=⟨⟨0,[]⟩⟩
deriving instance DecidableEq for Nm
structure Lc where
  f:Int
  l:List Nm
instance:Inhabited Lc:=⟨⟨0,[]⟩⟩
deriving instance DecidableEq for Lc
structure Ns where
  m:List UInt8
  fs:List Nm
  ls:List Lc
instance:Inhabited Ns:=⟨⟨[],[],[]⟩⟩
deriving instance DecidableEq for Ns
def nm_ (n:Nm):List AV:=[.int .i64 n.i,.str n.s]
def lc_ (x:Lc):List AV:=[.int .i64 x.f,.sl 2 (x.l.map nm_)]
def nsC (x:Ns):List AV:=[.str x.m,.sl 2 (x.fs.map nm_),.sl 2 (x.ls.map lc_)]
def ns_ (x:Ns):AV:=.agg (nsC x)
theorem nm_e (n:Nm):nm_ n = [.int .i64 n.i,.str n.s]:=rfl
theorem lc_e (x:Lc):lc_ x = [.int .i64 x.f,.sl 2 (x.l.map nm_)]:=rfl
theorem ns_e (x:Ns):ns_ x = .agg [.str x.m,.sl 2 (x.fs.map nm_),.sl 2 (x.ls.map lc_)]:=rfl
attribute [go_sem] nm_e lc_e ns_e
/-! ### What is checked -/
def txt (s:List UInt8):Int:=if uv s = false then 9 else if s.length > 64 then 6 else 0
def txl:List Nm → Int
  | []=>0
  | n :: r=>if txt n.s ≠ 0 then txt n.s else txl r
def txs (l:List Nm) (most:Int):Int:=if (l.length:Int) > most then 6 else txl l
def lcl:List Lc → Int
  | []=>0
  | x :: r=>if txs x.l 72 ≠ 0 then txs x.l 72 else lcl r
def allE (n:Ns):Int:=if txt n.m ≠ 0 then txt n.m else if txs n.fs 64 ≠ 0 then txs n.fs 64 else if (n.ls.length:Int) > 64 then 6 else lcl n.ls
def inR (i:Int):Bool:=decide (0 ≤ i) && decide (i < 4294967296)
def win (l:List Int):Bool:=l.all inR
def ris:List Int → Bool
  | a :: b :: r=>decide (a < b) && ris (b :: r)
  | _=>true
def ixs (l:List Nm):List Int:=l.map Nm.i
def fxs (l:List Lc):List Int:=l.map Lc.f
def rowsI (n:Ns):List (List Int):=ixs n.fs :: fxs n.ls :: n.ls.map fun x=>ixs x.l
def chk (n:Ns):Int:=if allE n ≠ 0 then allE n else if (rowsI n).all win = false then 1 else if (rowsI n).all ris = false then 7 else 0

/-! ### The bytes -/
def encT (s:List UInt8):List UInt8:=putU s.length ++ s
def encN1 (n:Nm):List UInt8:=putU n.i.toNat ++ encT n.s
def encL:List Nm → List UInt8
  | []=>[]
  | n :: r=>encN1 n ++ encL r
def encN (l:List Nm):List UInt8:=putU l.length ++ encL l
def encC:List Lc → List UInt8
  | []=>[]
  | x :: r=>(putU x.f.toNat ++ encN x.l) ++ encC r
def encLs (l:List Lc):List UInt8:=putU l.length ++ encC l
def prt (b:UInt8) (x:List UInt8):List UInt8:=b :: (putU x.length ++ x)
def bytesN (n:Ns):List UInt8:=((if n.m = [] then [] else prt 0 (encT n.m)) ++ (if n.fs = [] then [] else prt 1 (encN n.fs))) ++ (if n.ls = [] then [] else prt 2 (encLs n.ls))
def encA (n:Ns):List UInt8 × Int:=if chk n ≠ 0 then ([],chk n) else (bytesN n,0)

/-! ### Reading -/
def lastI (l:List Nm):Int:=match l.getLast? with
  | some n=>n.i
  | none=>0
def gtE (out:List Nm) (i e:Int):Int:=if e = 0 ∧ out ≠ [] ∧ i ≤ lastI out then 7 else e
def gt:Nat → List UInt8 → Nat → Int → List Nm → List Nm × Nat × Int
  | 0,_,a,e,out=>(out,a,e)
  | k + 1,b,a,e,out=>if e ≠ 0 then (out,a,e) else
    gt k b (rName ((rU true 32 b a 0).2.2 == 0) b (rU true 32 b a 0).2.1 (rU true 32 b a 0).2.2).2.1
      (gtE out (rU true 32 b a 0).1 (rName ((rU true 32 b a 0).2.2 == 0) b (rU true 32 b a 0).2.1 (rU true 32 b a 0).2.2).2.2)
      (out ++ [⟨(rU true 32 b a 0).1,(rName ((rU true 32 b a 0).2.2 == 0) b (rU true 32 b a 0).2.1 (rU true 32 b a 0).2.2).1⟩])
def gtN (b:List UInt8) (a:Nat) (e most:Int):List Nm × Nat × Int:=gt (rCount (e == 0) b a e most).1 b (rCount (e == 0) b a e most).2.1 (rCount (e == 0) b a e most).2.2 []
def lastF (l:List Lc):Int:=match l.getLast? with
  | some n=>n.f
  | none=>0
def gcE (out:List Lc) (i e:Int):Int:=if e = 0 ∧ out ≠ [] ∧ i ≤ lastF out then 7 else e
def gc:Nat → List UInt8 → Nat → Int → List Lc → List Lc × Nat × Int
  | 0,_,a,e,out=>(out,a,e)
  | k + 1,b,a,e,out=>if e ≠ 0 then (out,a,e) else
    gc k b (gtN b (rU true 32 b a 0).2.1 (gcE out (rU true 32 b a 0).1 (rU true 32 b a 0).2.2) 72).2.1 (gtN b (rU true 32 b a 0).2.1 (gcE out (rU true 32 b a 0).1 (rU true 32 b a 0).2.2) 72).2.2
      (out ++ [⟨(rU true 32 b a 0).1,(gtN b (rU true 32 b a 0).2.1 (gcE out (rU true 32 b a 0).1 (rU true 32 b a 0).2.2) 72).1⟩])
def gcN (b:List UInt8) (a:Nat) (e:Int):List Lc × Nat × Int:=gc (rCount (e == 0) b a e 64).1 b (rCount (e == 0) b a e 64).2.1 (rCount (e == 0) b a e 64).2.2 []
def prtN (n:Ns) (id:Nat) (x:List UInt8) (e:Int):Ns × Int :=
  if id = 0 then (⟨(rName (e == 0) x 0 e).1,n.fs,n.ls⟩,rEnd true x (rName (e == 0) x 0 e).2.1 (rName (e == 0) x 0 e).2.2)
  else if id = 1 then (⟨n.m,(gtN x 0 e 64).1,n.ls⟩,rEnd true x (gtN x 0 e 64).2.1 (gtN x 0 e 64).2.2)
  else (⟨n.m,n.fs,(gcN x 0 e).1⟩,rEnd true x (gcN x 0 e).2.1 (gcN x 0 e).2.2)
def sbT (b:List UInt8) (a:Nat):Option (List UInt8) × Nat × Int:=rTake ((rU true 32 b (a + 1) 0).2.2 == 0) b (rU true 32 b (a + 1) 0).2.1 (rU true 32 b (a + 1) 0).2.2 (rU true 32 b (a + 1) 0).1
def dcA:Nat → List UInt8 → Nat → Int → Ns → Ns × Int
  | 0,_,_,_,n=>(n,0)
  | f + 1,b,a,last,n=>if b.length ≤ a then (n,0) else
    if (nth b a).toNat > 2 then (default,4) else if ((nth b a).toNat:Int) ≤ last then (default,7) else
    if (prtN n (nth b a).toNat ((sbT b a).1.getD []) (sbT b a).2.2).2 ≠ 0 then (default,(prtN n (nth b a).toNat ((sbT b a).1.getD []) (sbT b a).2.2).2) else
    dcA f b (sbT b a).2.1 ((nth b a).toNat:Int) (prtN n (nth b a).toNat ((sbT b a).1.getD []) (sbT b a).2.2).1
def decA (b:List UInt8):Ns × Int:=dcA 4 b 0 (-1) default

/-! ### Finding -/
def fnd:List Nm → Int → List UInt8
  | [],_=>[]
  | n :: r,i=>if n.i = i then n.s else fnd r i
end Go.Proofs.YtoikbadfbneahaaGreatDoor
set_option linter.unusedVariables false
set_option maxHeartbeats 8000000
set_option maxRecDepth 100000
namespace Go.Proofs.YtoikbadfbneahaaGreatDoor
open Go Go.Mw

def bn (l:List UInt8) (i:Nat):Nat:=(nth l i).toNat
theorem bn_lt (l:List UInt8) (i:Nat):bn l i < 256:=(nth l i).toNat_lt
def dcd (l:List UInt8):Nat × Nat:=Lib.decodeN l.length (bn l 0) (bn l 1) (bn l 2) (bn l 3)
theorem dcd_asc {l:List UInt8} (h:bn l 0 < 128):dcd l = (bn l 0,1):=by
  unfold dcd Lib.decodeN
  rw [if_pos h]
theorem run1_dec {l:List UInt8} (h0:¬ bn l 0 < 128):run1 l = if (dcd l).2 = 1 then none else some (dcd l).2:=by
  have a0:=bn_lt l 0
  have a1:=bn_lt l 1
  have a2:=bn_lt l 2
  have a3:=bn_lt l 3
  unfold run1 dcd
  change (let x:=Lib.firstT (bn l 0); let lo:=Lib.accLo (x / 16); let hi:=Lib.accHi (x / 16)
    if x % 8 = 2 then (if 2 ≤ l.length ∧ lo ≤ bn l 1 ∧ bn l 1 ≤ hi then some 2 else none)
    else if x % 8 = 3 then (if 3 ≤ l.length ∧ lo ≤ bn l 1 ∧ bn l 1 ≤ hi ∧ 128 ≤ bn l 2 ∧ bn l 2 ≤ 191 then some 3 else none)
    else if x % 8 = 4 then (if 4 ≤ l.length ∧ lo ≤ bn l 1 ∧ bn l 1 ≤ hi ∧ 128 ≤ bn l 2 ∧ bn l 2 ≤ 191 ∧ 128 ≤ bn l 3 ∧ bn l 3 ≤ 191 then some 4 else none)
    else none) = _
  generalize bn l 0 = b0 at *
  generalize bn l 1 = b1 at *
  generalize bn l 2 = b2 at *
  generalize bn l 3 = b3 at *
  generalize l.length = n
  have hc:(b0 < 194 ∧ Lib.firstT b0 = 241) ∨ (194 ≤ b0 ∧ b0 < 224 ∧ Lib.firstT b0 = 2) ∨ (b0 = 224 ∧ Lib.firstT b0 = 19) ∨ ((225 ≤ b0 ∧ b0 < 237 ∨ 238 ≤ b0 ∧ b0 < 240) ∧ Lib.firstT b0 = 3) ∨ (b0 = 237 ∧ Lib.firstT b0 = 35) ∨ (b0 = 240 ∧ Lib.firstT b0 = 52) ∨ (241 ≤ b0 ∧ b0 < 244 ∧ Lib.firstT b0 = 4) ∨ (b0 = 244 ∧ Lib.firstT b0 = 68) ∨ (245 ≤ b0 ∧ Lib.firstT b0 = 241):=by
    unfold Lib.firstT
    rw [if_neg h0]
    repeat' split
    all_goals omega
  rcases hc with ⟨h,e⟩ | ⟨h,h',e⟩ | ⟨h,e⟩ | ⟨h,e⟩ | ⟨h,e⟩ | ⟨h,e⟩ | ⟨h,h',e⟩ | ⟨h,e⟩ | ⟨h,e⟩
  all_goals
    rw [e]
    simp only [Lib.accLo,Lib.accHi,Nat.reduceMod,Nat.reduceDiv,Nat.reduceEqDiff,if_true,if_false]
    unfold Lib.decodeN
    rw [if_neg h0]
    repeat' split
    all_goals first | rfl | (exfalso; omega) | (exfalso; simp_all; omega)
end Go.Proofs.YtoikbadfbneahaaGreatDoor
set_option linter.unusedVariables false
set_option maxHeartbeats 8000000
set_option maxRecDepth 100000
namespace Go.Proofs.YtoikbadfbneahaaGreatDoor
open Go Go.Mw

theorem dcd_w (l:List UInt8):1 ≤ (dcd l).2 ∧ (dcd l).2 ≤ 4:=by
  unfold dcd Lib.decodeN
  repeat' split
  all_goals simp only; omega
def brk (l:List UInt8):Prop:=3 ≤ l.length ∧ bn l 0 = 239 ∧ bn l 1 = 191 ∧ bn l 2 = 189
theorem dcd_brk {l:List UInt8} (h0:¬ bn l 0 < 128):(dcd l).2 = 1 ↔ ((dcd l).1 = 65533 ∧ ¬ brk l):=by
  have a1:=bn_lt l 1
  have a2:=bn_lt l 2
  have a3:=bn_lt l 3
  have a0:=bn_lt l 0
  unfold dcd brk Lib.decodeN
  generalize bn l 0 = b0 at *
  generalize bn l 1 = b1 at *
  generalize bn l 2 = b2 at *
  generalize bn l 3 = b3 at *
  generalize l.length = n
  rw [if_neg h0]
  constructor
  · repeat' split
    all_goals
      intro hh
      first
      | (simp at hh; done)
      | (refine ⟨rfl,?_⟩; omega)
  · repeat' split
    all_goals
      rintro ⟨hh,hb⟩
      first
      | rfl
      | (exfalso; simp only at hh; omega)
def isR (x:Nat):Bool:=decide (x < 55296) || (decide (x > 57343) && decide (x ≤ 1114111))
def ctb (b:Nat):Prop:=¬ (b < 128 ∨ b ≥ 192)
instance (b:Nat):Decidable (ctb b):=by unfold ctb; exact inferInstance
def rn3 (l:List UInt8):Nat × Nat :=
  if bn l 0 < 128 then (bn l 0,1) else
  if 192 ≤ bn l 0 ∧ bn l 0 < 224 then (if 2 ≤ l.length ∧ ctb (bn l 1) ∧ 128 ≤ (bn l 0 - 192) * 64 + bn l 1 - 128 ∧ isR ((bn l 0 - 192) * 64 + bn l 1 - 128) = true then ((bn l 0 - 192) * 64 + bn l 1 - 128,2) else (0,0)) else
  if 224 ≤ bn l 0 ∧ bn l 0 < 240 then (if 3 ≤ l.length ∧ ctb (bn l 1) ∧ ctb (bn l 2) ∧ 2048 ≤ ((bn l 0 - 224) * 64 + bn l 1 - 128) * 64 + bn l 2 - 128 ∧ isR (((bn l 0 - 224) * 64 + bn l 1 - 128) * 64 + bn l 2 - 128) = true then (((bn l 0 - 224) * 64 + bn l 1 - 128) * 64 + bn l 2 - 128,3) else (0,0)) else
  if 240 ≤ bn l 0 ∧ bn l 0 < 248 then (if 4 ≤ l.length ∧ ctb (bn l 1) ∧ ctb (bn l 2) ∧ ctb (bn l 3) ∧ 65536 ≤ (((bn l 0 - 240) * 64 + bn l 1 - 128) * 64 + bn l 2 - 128) * 64 + bn l 3 - 128 ∧ isR ((((bn l 0 - 240) * 64 + bn l 1 - 128) * 64 + bn l 2 - 128) * 64 + bn l 3 - 128) = true then ((((bn l 0 - 240) * 64 + bn l 1 - 128) * 64 + bn l 2 - 128) * 64 + bn l 3 - 128,4) else (0,0)) else (0,0)
theorem rn3_dec {l:List UInt8} (h0:¬ bn l 0 < 128):rn3 l = if (dcd l).2 = 1 then (0,0) else dcd l:=by
  have a1:=bn_lt l 1
  have a2:=bn_lt l 2
  have a3:=bn_lt l 3
  have a0:=bn_lt l 0
  unfold dcd rn3 Lib.decodeN isR ctb
  generalize bn l 0 = b0 at *
  generalize bn l 1 = b1 at *
  generalize bn l 2 = b2 at *
  generalize bn l 3 = b3 at *
  generalize l.length = n
  simp only [Bool.or_eq_true,Bool.and_eq_true,decide_eq_true_eq]
  rw [if_neg h0,if_neg h0]
  repeat' split
  all_goals first | rfl | (exfalso; omega) | (exfalso; simp_all; omega) | (apply Prod.ext <;> simp only <;> omega)
theorem rn3_run {l:List UInt8} (h0:¬ bn l 0 < 128):run1 l = if (rn3 l).2 = 0 then none else some (rn3 l).2:=by
  have hw:=dcd_w l
  rw [run1_dec h0,rn3_dec h0]
  by_cases h:(dcd l).2 = 1
  · rw [if_pos h,if_pos h,if_pos rfl]
  · rw [if_neg h,if_neg h,if_neg (by omega)]
end Go.Proofs.YtoikbadfbneahaaGreatDoor
set_option linter.unusedVariables false
set_option maxHeartbeats 8000000
set_option maxRecDepth 100000
namespace Go.Proofs.YtoikbadfbneahaaGreatDoor
open Go Go.Mw

theorem get_bn (l:List UInt8) (i:Nat):((⟨l.toArray⟩:ByteArray).get! i).toNat = bn l i:=by
  unfold bn nth
  show (l.toArray[i]!).toNat = _
  simp
theorem dec_at (l:List UInt8) (i:Nat):Utf8.decode ⟨l.toArray⟩ i = dcd (l.drop i):=by
  rw [Lib.decode_at]
  unfold dcd
  simp only [get_bn,List.length_drop]
  have h:∀ k,bn (l.drop i) k = bn l (i + k):=fun k=>by unfold bn; rw [nth_drop]
  rw [h,h,h,h,Nat.add_zero]
  rfl
theorem dcd_le {l:List UInt8} (h:0 < l.length) (h1:(dcd l).2 ≠ 1):(dcd l).2 ≤ l.length:=by
  unfold dcd Lib.decodeN at *
  repeat' split at h1
  all_goals first | (exact absurd rfl h1) | skip
  all_goals
    repeat' split
    all_goals simp only at *; omega
theorem uv_dcd {l:List UInt8} (h:0 < l.length) (hg:bn l 0 < 128 ∨ (dcd l).2 ≠ 1):uv l = uv (l.drop (dcd l).2) ∧ (dcd l).2 ≤ l.length:=by
  by_cases h0:bn l 0 < 128
  · rw [dcd_asc h0]
    exact ⟨uv_asc h h0,h⟩
  · have h1:(dcd l).2 ≠ 1:=hg.resolve_left h0
    have hr:=run1_dec h0
    rw [if_neg h1] at hr
    exact ⟨uv_run h h0 hr,dcd_le h h1⟩
theorem uv_dno {l:List UInt8} (h:0 < l.length) (h0:¬ bn l 0 < 128) (h1:(dcd l).2 = 1):uv l = false:=by
  have hr:=run1_dec h0
  rw [if_pos h1] at hr
  exact uv_bad h h0 hr
theorem rnd_bad {l:List UInt8} (h:0 < l.length):((dcd l).1 = 65533 ∧ ¬ brk l) ↔ (¬ bn l 0 < 128 ∧ (dcd l).2 = 1):=by
  constructor
  · rintro ⟨h1,h2⟩
    have h0:¬ bn l 0 < 128:=fun h0=>by
      rw [dcd_asc h0] at h1
      simp only at h1
      omega
    exact ⟨h0,(dcd_brk h0).2 ⟨h1,h2⟩⟩
  · rintro ⟨h0,h1⟩
    exact (dcd_brk h0).1 h1
theorem brk_pre (l:List UInt8):brk l ↔ (3 ≤ l.length ∧ l.take 3 = [239,191,189]):=by
  unfold brk
  constructor
  · rintro ⟨h,h0,h1,h2⟩
    refine ⟨h,?_⟩
    match l,h with
    | a :: b :: c :: r,_ =>
      have e0:a.toNat = 239:=h0
      have e1:b.toNat = 191:=h1
      have e2:c.toNat = 189:=h2
      rw [show a = 239 from UInt8.toNat.inj e0,show b = 191 from UInt8.toNat.inj e1,show c = 189 from UInt8.toNat.inj e2]
      rfl
  · rintro ⟨h,h3⟩
    match l,h,h3 with
    | a :: b :: c :: r,h,h3 =>
      simp only [List.take_succ_cons,List.take_zero,List.cons.injEq,and_true] at h3
      obtain ⟨rfl,rfl,rfl⟩:=h3
      exact ⟨h,rfl,rfl,rfl⟩
end Go.Proofs.YtoikbadfbneahaaGreatDoor
set_option linter.unusedVariables false
set_option maxHeartbeats 8000000
set_option maxRecDepth 100000
namespace Go.Proofs.YtoikbadfbneahaaGreatDoor
open Go Go.Mw

def xk (l:List UInt8) (x:Nat):Nat → Nat
  | 0=>x
  | 1=>x
  | k + 2=>xk l x (k + 1) * 64 + bn l (k + 1) - 128
theorem xk_s {l:List UInt8} {x k:Nat} (h:1 ≤ k):xk l x (k + 1) = xk l x k * 64 + bn l k - 128:=by
  obtain ⟨k,rfl⟩:∃ j,k = j + 1:=⟨k - 1,by omega⟩
  rfl
theorem xk_lt {l:List UInt8} {x:Nat} (hx:x < 32):∀ k,(∀ j,1 ≤ j → j < k + 1 → ctb (bn l j)) → xk l x (k + 1) < 32 * 64 ^ k
  | 0,_=>by simpa [xk] using hx
  | k + 1,h=>by
    have h1:=xk_lt hx k (fun j hj hk=>h j hj (by omega))
    have h2:=h (k + 1) (by omega) (by omega)
    unfold ctb at h2
    show xk l x (k + 1) * 64 + bn l (k + 1) - 128 < _
    rw [Nat.pow_succ]
    omega
noncomputable def r3g (l:List UInt8) (n least x:Nat):Nat × Nat :=
  open scoped Classical in if n ≤ l.length ∧ (∀ j,1 ≤ j → j < n → ctb (bn l j)) ∧ least ≤ xk l x n ∧ isR (xk l x n) = true then (xk l x n,n) else (0,0)
theorem rn3_0 {l:List UInt8} (h:bn l 0 < 128):rn3 l = (bn l 0,1):=by unfold rn3; rw [if_pos h]
theorem rn3_2 {l:List UInt8} (h1:192 ≤ bn l 0) (h2:bn l 0 < 224):rn3 l = r3g l 2 128 (bn l 0 - 192):=by
  unfold rn3 r3g
  rw [if_neg (by omega),if_pos ⟨h1,h2⟩]
  have e:xk l (bn l 0 - 192) 2 = (bn l 0 - 192) * 64 + bn l 1 - 128:=rfl
  rw [e]
  by_cases hc:ctb (bn l 1)
  · have hj:∀ j,1 ≤ j → j < 2 → ctb (bn l j):=fun j a b=>by rw [show j = 1 by omega]; exact hc
    by_cases hh:2 ≤ l.length ∧ 128 ≤ (bn l 0 - 192) * 64 + bn l 1 - 128 ∧ isR ((bn l 0 - 192) * 64 + bn l 1 - 128) = true
    · rw [if_pos ⟨hh.1,hc,hh.2.1,hh.2.2⟩,if_pos ⟨hh.1,hj,hh.2.1,hh.2.2⟩]
    · rw [if_neg (fun q=>hh ⟨q.1,q.2.2.1,q.2.2.2⟩),if_neg (fun q=>hh ⟨q.1,q.2.2.1,q.2.2.2⟩)]
  · rw [if_neg (fun q=>hc q.2.1),if_neg (fun q=>hc (q.2.1 1 (by decide) (by decide)))]
theorem rn3_3 {l:List UInt8} (h1:224 ≤ bn l 0) (h2:bn l 0 < 240):rn3 l = r3g l 3 2048 (bn l 0 - 224):=by
  unfold rn3 r3g
  rw [if_neg (by omega),if_neg (by omega),if_pos ⟨h1,h2⟩]
  have e:xk l (bn l 0 - 224) 3 = ((bn l 0 - 224) * 64 + bn l 1 - 128) * 64 + bn l 2 - 128:=rfl
  rw [e]
  by_cases hc:ctb (bn l 1) ∧ ctb (bn l 2)
  · have hj:∀ j,1 ≤ j → j < 3 → ctb (bn l j):=fun j a b=>by
      rcases (show j = 1 ∨ j = 2 by omega) with rfl | rfl
      · exact hc.1
      · exact hc.2
    by_cases hh:3 ≤ l.length ∧ 2048 ≤ ((bn l 0 - 224) * 64 + bn l 1 - 128) * 64 + bn l 2 - 128 ∧ isR (((bn l 0 - 224) * 64 + bn l 1 - 128) * 64 + bn l 2 - 128) = true
    · rw [if_pos ⟨hh.1,hc.1,hc.2,hh.2.1,hh.2.2⟩,if_pos ⟨hh.1,hj,hh.2.1,hh.2.2⟩]
    · rw [if_neg (fun q=>hh ⟨q.1,q.2.2.2.1,q.2.2.2.2⟩),if_neg (fun q=>hh ⟨q.1,q.2.2.1,q.2.2.2⟩)]
  · rw [if_neg (fun q=>hc ⟨q.2.1,q.2.2.1⟩),if_neg (fun q=>hc ⟨q.2.1 1 (by decide) (by decide),q.2.1 2 (by decide) (by decide)⟩)]
theorem rn3_4 {l:List UInt8} (h1:240 ≤ bn l 0) (h2:bn l 0 < 248):rn3 l = r3g l 4 65536 (bn l 0 - 240):=by
  unfold rn3 r3g
  rw [if_neg (by omega),if_neg (by omega),if_neg (by omega),if_pos ⟨h1,h2⟩]
  have e:xk l (bn l 0 - 240) 4 = (((bn l 0 - 240) * 64 + bn l 1 - 128) * 64 + bn l 2 - 128) * 64 + bn l 3 - 128:=rfl
  rw [e]
  by_cases hc:ctb (bn l 1) ∧ ctb (bn l 2) ∧ ctb (bn l 3)
  · have hj:∀ j,1 ≤ j → j < 4 → ctb (bn l j):=fun j a b=>by
      rcases (show j = 1 ∨ j = 2 ∨ j = 3 by omega) with rfl | rfl | rfl
      · exact hc.1
      · exact hc.2.1
      · exact hc.2.2
    by_cases hh:4 ≤ l.length ∧ 65536 ≤ (((bn l 0 - 240) * 64 + bn l 1 - 128) * 64 + bn l 2 - 128) * 64 + bn l 3 - 128 ∧ isR ((((bn l 0 - 240) * 64 + bn l 1 - 128) * 64 + bn l 2 - 128) * 64 + bn l 3 - 128) = true
    · rw [if_pos ⟨hh.1,hc.1,hc.2.1,hc.2.2,hh.2.1,hh.2.2⟩,if_pos ⟨hh.1,hj,hh.2.1,hh.2.2⟩]
    · rw [if_neg (fun q=>hh ⟨q.1,q.2.2.2.2.1,q.2.2.2.2.2⟩),if_neg (fun q=>hh ⟨q.1,q.2.2.1,q.2.2.2⟩)]
  · rw [if_neg (fun q=>hc ⟨q.2.1,q.2.2.1,q.2.2.2.1⟩),if_neg (fun q=>hc ⟨q.2.1 1 (by decide) (by decide),q.2.1 2 (by decide) (by decide),q.2.1 3 (by decide) (by decide)⟩)]
theorem rn3_n {l:List UInt8} (h1:128 ≤ bn l 0) (h2:bn l 0 < 192 ∨ 248 ≤ bn l 0):rn3 l = (0,0):=by
  unfold rn3
  rw [if_neg (by omega),if_neg (by omega),if_neg (by omega),if_neg (by omega)]
theorem r3g_no {l:List UInt8} {n least x:Nat} (h:¬ (n ≤ l.length ∧ (∀ j,1 ≤ j → j < n → ctb (bn l j)) ∧ least ≤ xk l x n ∧ isR (xk l x n) = true)):r3g l n least x = (0,0):=by
  unfold r3g; rw [if_neg h]
theorem r3g_yes {l:List UInt8} {n least x:Nat} (h:n ≤ l.length ∧ (∀ j,1 ≤ j → j < n → ctb (bn l j)) ∧ least ≤ xk l x n ∧ isR (xk l x n) = true):r3g l n least x = (xk l x n,n):=by
  unfold r3g; rw [if_pos h]
theorem uv_rn3 {l:List UInt8} (h:0 < l.length) (hz:(rn3 l).2 ≠ 0):uv l = uv (l.drop (rn3 l).2) ∧ (rn3 l).2 ≤ l.length:=by
  by_cases h0:bn l 0 < 128
  · rw [rn3_0 h0]
    exact ⟨uv_asc h h0,h⟩
  · have hr:=rn3_run h0
    rw [if_neg hz] at hr
    exact ⟨uv_run h h0 hr,(run1_pos hr).2⟩
theorem uv_rno {l:List UInt8} (h:0 < l.length) (hz:(rn3 l).2 = 0):uv l = false:=by
  have h0:¬ bn l 0 < 128:=fun h0=>by rw [rn3_0 h0] at hz; cases hz
  have hr:=rn3_run h0
  rw [if_pos hz] at hr
  exact uv_bad h h0 hr
end Go.Proofs.YtoikbadfbneahaaGreatDoor
set_option linter.unusedSimpArgs false
set_option maxRecDepth 100000
set_option linter.unusedVariables false
namespace Go.Proofs.YtoikbadfbneahaaGreatDoor
open Go Go.Mw

theorem drop_c {α:Type} [Inhabited α] {l:List α} {i:Nat} (h:i < l.length):l.drop i = nth l i :: l.drop (i + 1):=by
  rw [nth_eq h,List.drop_eq_getElem_cons h]
theorem take_c {α:Type} [Inhabited α] {l:List α} {i:Nat} (h:i < l.length):l.take (i + 1) = l.take i ++ [nth l i]:=by rw [List.take_add_one,nth_some h,Option.toList_some]
theorem txl_at {l:List Nm} {i:Nat} (h:i < l.length):txl (l.drop i) = if txt (nth l i).s ≠ 0 then txt (nth l i).s else txl (l.drop (i + 1)):=by
  rw [drop_c h]; rfl
theorem lcl_at {l:List Lc} {i:Nat} (h:i < l.length):lcl (l.drop i) = if txs (nth l i).l 72 ≠ 0 then txs (nth l i).l 72 else lcl (l.drop (i + 1)):=by
  rw [drop_c h]; rfl
theorem win_at {l:List Int} {i:Nat} (h:i < l.length):win (l.drop i) = (inR (nth l i) && win (l.drop (i + 1))):=by
  unfold win
  rw [drop_c h,List.all_cons]
theorem all_at {α:Type} [Inhabited α] {p:α → Bool} {l:List α} {i:Nat} (h:i < l.length):(l.drop i).all p = (p (nth l i) && (l.drop (i + 1)).all p):=by
  rw [drop_c h,List.all_cons]
theorem ris_at {l:List Int} {k:Nat} (h1:1 ≤ k) (h:k < l.length):ris (l.drop (k - 1)) = (decide (nth l (k - 1) < nth l k) && ris (l.drop k)):=by
  have e1:l.drop (k - 1) = nth l (k - 1) :: l.drop k:=by
    rw [drop_c (by omega),show k - 1 + 1 = k by omega]
  rw [e1,drop_c h]
  rfl
theorem ris_end {l:List Int} {k:Nat} (h:l.length ≤ k):ris (l.drop (k - 1)) = true:=by
  cases hl:l.drop (k - 1) with
  | nil=>rfl
  | cons a r =>
    cases r with
    | nil=>rfl
    | cons b r =>
      have:=congrArg List.length hl
      simp only [List.length_drop,List.length_cons] at this
      omega
theorem fnd_at {l:List Nm} {j:Nat} (h:j < l.length) (i:Int):fnd (l.drop j) i = if (nth l j).i = i then (nth l j).s else fnd (l.drop (j + 1)) i:=by
  rw [drop_c h]; rfl
theorem ixs_tk {l:List Nm} {i:Nat} (h:i < l.length):ixs (l.take (i + 1)) = ixs (l.take i) ++ [(nth l i).i]:=by
  unfold ixs
  rw [take_c h,List.map_append]; rfl
theorem fxs_tk {l:List Lc} {i:Nat} (h:i < l.length):fxs (l.take (i + 1)) = fxs (l.take i) ++ [(nth l i).f]:=by
  unfold fxs
  rw [take_c h,List.map_append]; rfl
theorem drop_end {α:Type} {l:List α} {i:Nat} (h:l.length ≤ i):l.drop i = []:=List.drop_eq_nil_of_le h
end Go.Proofs.YtoikbadfbneahaaGreatDoor
set_option maxRecDepth 100000
set_option maxHeartbeats 8000000
set_option linter.unusedVariables false
set_option linter.unusedSimpArgs false
namespace Go.Proofs.YtoikbadfbneahaaGreatDoor
open Go Go.Mw
-- @U: List.length_map

def hpx (s p:List UInt8):Bool:=decide (p.length ≤ s.length) && (s.take p.length == p)
theorem s_hpx1 (s p:List UInt8) (hs:s.length < 100000000 ∧ p.length < 1000000):PCalls Tryz.prog nX8 [.str s,.str p] (.bool (hpx s p)):=by
  refine pfun_sound (ic:=FX8.body) mixed cX8 rfl rfl ?_
  by_cases h:(s.length:Int) ≥ p.length
  · rw [show hpx s p = (s.take p.length == p) by unfold hpx; rw [decide_eq_true (show p.length ≤ s.length by omega)]; rfl]
    simp only [go_sem,List.length_map,FX8,decide_eq_true h]
    exact ⟨by omega,by exact pdone [] (by simp only [go_sem,List.length_map]) (by first | rfl | simp [go_sem,slv_ids,List.length_map])⟩
  · rw [show hpx s p = false by unfold hpx; rw [decide_eq_false (show ¬ p.length ≤ s.length by omega)]; rfl]
    simp only [go_sem,List.length_map,FX8,decide_eq_false h]
    exact pdone [] (by simp only [go_sem,List.length_map]) (by first | rfl | simp [go_sem,slv_ids,List.length_map])
theorem s_hpx (s p:List UInt8) (hs:s.length < 100000000 ∧ p.length < 1000000):PCalls Tryz.prog nX35 [.str s,.str p] (.bool (hpx s p)):=by
  refine pfun_sound (ic:=FX35.body) mixed cX35 rfl rfl ?_
  simp only [go_sem,List.length_map,FX35]
  refine call_same (s_hpx1 s p hs) (by simp [go_sem,List.length_map]) ?_
  simp only [go_sem,List.length_map]
  exact pdone [] (by simp only [go_sem,List.length_map]) (by first | rfl | simp [go_sem,slv_ids,List.length_map])
theorem hpx_brk (l:List UInt8):hpx l [239,191,189] = true ↔ brk l:=by
  rw [brk_pre]
  unfold hpx
  simp
def r3 (n:Int):List AV:=[.int .i32 n]
theorem r3_e (n:Int):r3 n = [.int .i32 n]:=rfl
attribute [go_sem] r3_e
def noId (v:AV):Prop:=idsV v = []
theorem s_runes (s:List UInt8) (hs:s.length ≤ 1048576):ACalls Tryz.prog nX119 [.str s] [] sb (fun r' σ'=>∃ v:AV,noId v ∧ r' = .tup [v,.bool (uv s)] ∧ σ' = []):=by
  refine fun_sound (ic:=FX119.body) mixed cX119 rfl rfl ?_
  simp only [go_sem,List.length_map,FX119]
  refine loop_rule (fun q:List Int × Nat=>⟨[(8,.mm 8 false),(4,.ms 900 1 0 q.1.length),(0,.str s)],[(900,⟨21,1,q.1.map r3,false⟩),(8,@AObj.mk 0 0 [] false (.it s q.2))]⟩) (fun q=>q.2 ≤ s.length ∧ q.1.length ≤ q.2 ∧ uv s = uv (s.drop q.2)) (fun q=>s.length - q.2) ([],0) ⟨Nat.zero_le _,Nat.zero_le _,rfl⟩ ((Wk.nil _ 4 900 1 21 (by simp only [go_sem,List.length_map]) (.inl (by decide))).trans (Wk.of ?_ ?_)) ?_
  · simp only [go_sem,List.length_map,St.mknil]; try simp [go_sem]
  · simp only [go_sem,List.length_map,St.mknil]; try simp [go_sem]
  rintro ⟨l,p⟩ ⟨h1,h2,h3⟩
  simp only at h1 h2 h3
  have happ:=fun ys=>appO_map 900 21 1 l.length r3 l ys rfl
  by_cases hp:p < s.length
  · have hd:0 < (s.drop p).length:=by simp; omega
    have hb:=rnd_bad hd
    have hw:=dcd_w (s.drop p)
    have hl3:(s.drop p).length = s.length - p:=by simp
    have go:(bn (s.drop p) 0 < 128 ∨ (dcd (s.drop p)).2 ≠ 1) → p + (dcd (s.drop p)).2 ≤ s.length ∧ uv s = uv (s.drop (p + (dcd (s.drop p)).2)):=fun hg=>by
      obtain ⟨q1,q2⟩:=uv_dcd hd hg
      rw [List.drop_drop] at q1
      exact ⟨by omega,h3.trans q1⟩
    by_cases hc:(dcd (s.drop p)).1 = 65533
    · have ct:=s_hpx (s.drop p) [239,191,189] ⟨by omega,by decide⟩
      have hbk:=hpx_brk (s.drop p)
      simp only [go_sem,List.length_map,hp,dec_at,hc,show (((65533:Nat):Int) == 65533) = true from rfl]
      refine ⟨by omega,?_⟩
      refine call_same (ct) (by simp [go_sem,List.length_map]) ?_
      by_cases hx:hpx (s.drop p) [239,191,189] = true
      · have hg:bn (s.drop p) 0 < 128 ∨ (dcd (s.drop p)).2 ≠ 1:=by
          by_cases g0:bn (s.drop p) 0 < 128
          · exact .inl g0
          · exact .inr fun g1=>(hb.2 ⟨g0,g1⟩).2 (hbk.1 hx)
        obtain ⟨q1,q2⟩:=go hg
        simp only [go_sem,List.length_map,hx,happ]
        refine ⟨by omega,klp_n (l ++ [65533],p + (dcd (s.drop p)).2) ⟨q1,show (l ++ [65533]).length ≤ p + (dcd (s.drop p)).2 by simp; omega,q2⟩ (show s.length - (p + (dcd (s.drop p)).2) < s.length - p by omega) (Wk.of ?_ ?_)⟩
        · simp only [go_sem,List.length_map]; try simp
        · simp only [go_sem,List.length_map,dec_at]; try simp [r3_e,dec_at]
      · have hx':hpx (s.drop p) [239,191,189] = false:=by simpa using hx
        obtain ⟨g0,g1⟩:=hb.1 ⟨hc,fun hk=>hx (hbk.2 hk)⟩
        rw [h3,uv_dno hd g0 g1]
        simp only [go_sem,List.length_map,hx']
        exact done [] _ [] (by simp only [go_sem,List.length_map]) trivial rfl ⟨.nl,rfl,rfl,rfl⟩
    · have hg:bn (s.drop p) 0 < 128 ∨ (dcd (s.drop p)).2 ≠ 1:=by
        by_cases g0:bn (s.drop p) 0 < 128
        · exact .inl g0
        · exact .inr fun g1=>hc (hb.2 ⟨g0,g1⟩).1
      obtain ⟨q1,q2⟩:=go hg
      simp only [go_sem,List.length_map,hp,dec_at,show ((((dcd (s.drop p)).1:Nat):Int) == 65533) = false from beq_f (by omega),happ]
      refine ⟨by omega,klp_n (l ++ [((dcd (s.drop p)).1:Int)],p + (dcd (s.drop p)).2) ⟨q1,show (l ++ [((dcd (s.drop p)).1:Int)]).length ≤ p + (dcd (s.drop p)).2 by simp; omega,q2⟩ (show s.length - (p + (dcd (s.drop p)).2) < s.length - p by omega) (Wk.of ?_ ?_)⟩
      · simp only [go_sem,List.length_map]; try simp
      · simp only [go_sem,List.length_map,dec_at]; try simp [r3_e,dec_at]
  · obtain rfl:p = s.length:=by omega
    rw [h3,List.drop_length,uv_nil]
    simp only [go_sem,List.length_map,hp]
    refine done [900] (.tup [.sl 1 (l.map r3),.bool true]) [] ?_ trivial rfl ⟨.sl 1 (l.map r3),rfl,rfl,rfl⟩
    simp only [go_sem,List.length_map,Nat.le_refl]
    rw [List.take_of_length_le (by simp)]
end Go.Proofs.YtoikbadfbneahaaGreatDoor
set_option maxRecDepth 100000
set_option maxHeartbeats 8000000
set_option linter.unusedVariables false
set_option linter.unusedSimpArgs false
namespace Go.Proofs.YtoikbadfbneahaaGreatDoor
open Go Go.Mw
-- @U: List.length_map

def smS (s:List UInt8):Prop:=s.length ≤ 1048576
def smL (l:List Nm):Prop:=∀ n ∈ l,smS n.s
def smN (n:Ns):Prop:=smS n.m ∧ smL n.fs ∧ ∀ x ∈ n.ls,smL x.l
theorem smL_at {l:List Nm} (h:smL l) {i:Nat} (hi:i < l.length):smS (nth l i).s:=by
  rw [nth_eq hi]; exact h _ (List.getElem_mem hi)
theorem s_uval (s:List UInt8) (hs:smS s):PCalls Tryz.prog nX120 [.str s] (.bool (uv s)):=by
  refine pfun_sound (ic:=FX120.body) mixed cX120 rfl rfl ?_
  simp only [go_sem,List.length_map,FX120]
  refine call_pe (s_runes s hs) ?_
  intro v hv
  simp only [go_sem,List.length_map]
  exact pdone [] (by simp only [go_sem,List.length_map]) (by first | rfl | simp [go_sem,slv_ids,List.length_map])
theorem s_text (s:List UInt8) (hs:smS s):PCalls Tryz.prog nX105 [.str s] (.int .i64 (txt s)):=by
  refine pfun_sound (ic:=FX105.body) mixed cX105 rfl rfl ?_
  unfold txt
  simp only [go_sem,List.length_map,FX105]
  refine call_same (s_uval s hs) (by simp [go_sem,List.length_map]) ?_
  cases uv s
  · simp only [go_sem,List.length_map]
    exact pdone [] (by simp only [go_sem,List.length_map]) (by first | rfl | simp [go_sem,slv_ids,List.length_map])
  · by_cases h:s.length > 64
    · simp only [go_sem,List.length_map,decide_eq_true (show (s.length:Int) > 64 by omega)]
      rw [if_pos h]
      exact pdone [] (by simp only [go_sem,List.length_map]) (by first | rfl | simp [go_sem,slv_ids,List.length_map])
    · simp only [go_sem,List.length_map,decide_eq_false (show ¬ (s.length:Int) > 64 by omega)]
      rw [if_neg h]
      exact pdone [] (by simp only [go_sem,List.length_map]) (by first | rfl | simp [go_sem,slv_ids,List.length_map])
theorem s_texts (l:List Nm) (hl:smL l) (most:Int) (hmo:most ≤ 1000):PCalls Tryz.prog nX86 [.sl 2 (l.map nm_),.int .i64 most] (.int .i64 (txs l most)):=by
  refine pfun_sound (ic:=FX86.body) mixed cX86 rfl rfl ?_
  unfold txs
  by_cases hm:(l.length:Int) > most
  · simp only [go_sem,List.length_map,FX86,decide_eq_true hm]
    rw [if_pos hm]
    exact pdone [] (by simp only [go_sem,List.length_map]) (by first | rfl | simp [go_sem,slv_ids,List.length_map])
  · simp only [go_sem,List.length_map,FX86,decide_eq_false hm]
    rw [if_neg hm]
    refine loop_rule (fun i:Nat=>⟨[(14,.int .i64 i),(13,.int .i64 l.length),(12,.sl 2 (l.map nm_))],[]⟩) (fun i=>i ≤ l.length ∧ txl l = txl (l.drop i)) (fun i=>l.length - i) 0 ⟨Nat.zero_le _,rfl⟩ (Wk.of ?_ ?_) ?_
    · simp only [go_sem,List.length_map]; try simp
    · simp only [go_sem,List.length_map]
    rintro i ⟨hi,hx⟩
    by_cases h1:(i:Int) < (l.length:Int)
    · have hi':i < l.length:=by omega
      rw [txl_at hi'] at hx
      have e8:=wi (n:=(i:Int) + 1) (by omega) (by omega)
      have ct:=s_text _ (smL_at hl hi')
      simp only [go_sem,List.length_map,decide_eq_true h1]
      refine ⟨by omega,h1,?_⟩
      refine call_same (ct) (by simp [go_sem,List.length_map]) ?_
      by_cases hz:txt (nth l i).s = 0
      · rw [if_neg (by simp [hz])] at hx
        simp only [go_sem,List.length_map,bne_f hz]
        refine klp_n (i + 1) ⟨show i + 1 ≤ l.length by omega,hx⟩ (show l.length - (i + 1) < l.length - i by omega) (Wk.of ?_ ?_)
        · simp only [go_sem,List.length_map,e8]; try simp
        · simp only [go_sem,List.length_map]
      · rw [if_pos hz] at hx
        rw [hx]
        simp only [go_sem,List.length_map,bne_t hz]
        exact pdone [] (by simp only [go_sem,List.length_map]) (by first | rfl | simp [go_sem,slv_ids,List.length_map])
    · rw [drop_end (by omega)] at hx
      rw [hx]
      simp only [go_sem,List.length_map,decide_eq_false h1]
      exact pdone [] (by simp only [go_sem,List.length_map,txl]) (by first | rfl | simp [go_sem,slv_ids,List.length_map])
theorem s_indexes (l:List Nm) (hl:l.length ≤ 100000000):PCalls Tryz.prog nX64 [.sl 2 (l.map nm_)] (.sl 1 ((ixs l).map vl_)):=by
  refine pfun_sound (ic:=FX64.body) mixed cX64 rfl rfl ?_
  simp only [go_sem,List.length_map,FX64]
  refine loop_rule (fun i:Nat=>⟨[(8,.int .i64 i),(7,.int .i64 l.length),(6,.sl 2 (l.map nm_)),(3,.ms 900 1 0 i)],[(900,⟨3,1,(ixs (l.take i)).map vl_,false⟩)]⟩) (fun i=>i ≤ l.length) (fun i=>l.length - i) 0 (Nat.zero_le _) ((Wk.nil _ 3 900 1 3 (by simp only [go_sem,List.length_map]) (.inl (by decide))).trans (Wk.of ?_ ?_)) ?_
  · simp only [go_sem,List.length_map,St.mknil]; try simp [go_sem]
  · simp only [go_sem,List.length_map,St.mknil,List.take_zero,ixs]; try simp [go_sem]
  intro i hi
  have hil:(ixs (l.take i)).length = i:=by simp [ixs]; omega
  have happ:=fun ys=>appO_map 900 3 1 i vl_ (ixs (l.take i)) ys hil
  by_cases h1:(i:Int) < (l.length:Int)
  · have hi':i < l.length:=by omega
    have e8:=wi (n:=(i:Int) + 1) (by omega) (by omega)
    simp only [go_sem,List.length_map,decide_eq_true h1,happ]
    refine ⟨by omega,h1,by omega,klp_n (i + 1) (show i + 1 ≤ l.length by omega) (show l.length - (i + 1) < l.length - i by omega) (Wk.of ?_ ?_)⟩
    · simp only [go_sem,List.length_map,e8]; try simp
    · simp only [go_sem,List.length_map,ixs_tk hi',List.map_append]; try simp [vl_e]
  · obtain rfl:i = l.length:=by omega
    simp only [go_sem,List.length_map,decide_eq_false h1]
    have hxl:(ixs l).length = l.length:=by simp [ixs]
    refine pdone [900] ?_ rfl
    simp only [go_sem,List.length_map,List.length_map,List.take_length,hxl,Nat.le_refl]
    rw [List.take_of_length_le (by simp [ixs])]
    try rfl
end Go.Proofs.YtoikbadfbneahaaGreatDoor
set_option maxRecDepth 100000
set_option maxHeartbeats 20000000
set_option linter.unusedVariables false
set_option linter.unusedSimpArgs false
namespace Go.Proofs.YtoikbadfbneahaaGreatDoor
open Go Go.Mw
-- @U: List.length_map

def rw_ (r:List Int):List AV:=[.sl 1 (r.map vl_)]
theorem rw_e (r:List Int):rw_ r = [.sl 1 (r.map vl_)]:=rfl
attribute [go_sem] rw_e
def ixl (l:List Lc):List (List Int):=l.map fun x=>ixs x.l
theorem ixl_tk {l:List Lc} {i:Nat} (h:i < l.length):ixl (l.take (i + 1)) = ixl (l.take i) ++ [ixs (nth l i).l]:=by
  unfold ixl
  rw [take_c h,List.map_append]; rfl
theorem rowsI_e (n:Ns):rowsI n = [ixs n.fs,fxs n.ls] ++ ixl n.ls:=rfl
def ixR (n:Ns) (l:List Lc):List (List Int):=[ixs n.fs,fxs n.ls] ++ ixl l
theorem ixR_tk {n:Ns} {l:List Lc} {i:Nat} (h:i < l.length):ixR n (l.take (i + 1)) = ixR n (l.take i) ++ [ixs (nth l i).l]:=by
  unfold ixR
  rw [ixl_tk h,List.append_assoc]
theorem ixR_len (n:Ns) (l:List Lc):(ixR n l).length = 2 + l.length:=by simp [ixR,ixl]; omega
theorem ixR_0 (n:Ns):(ixR n []).map rw_ = [[.sl 1 ((ixs n.fs).map vl_)],[.sl 1 ((fxs n.ls).map vl_)]]:=rfl
def shN (n:Ns):Prop:=n.fs.length ≤ 64 ∧ n.ls.length ≤ 64 ∧ ∀ x ∈ n.ls,x.l.length ≤ 72
theorem lcl_len:∀ {l:List Lc},lcl l = 0 → ∀ x ∈ l,x.l.length ≤ 72
  | [],_,x,hx=>by cases hx
  | y :: r,h,x,hx=>by
    unfold lcl at h
    split at h
    · rename_i hne; exact absurd h hne
    · rename_i hz
      simp only [ne_eq,Decidable.not_not] at hz
      rcases List.mem_cons.1 hx with rfl | hx
      · unfold txs at hz
        split at hz
        · cases hz
        · omega
      · exact lcl_len h x hx
theorem txs_len {l:List Nm} {m:Int} (h:txs l m = 0):(l.length:Int) ≤ m:=by
  unfold txs at h
  split at h
  · cases h
  · omega
theorem s_all (n:Ns) (hn:shN n):PCalls Tryz.prog nX129 [ns_ n] (.sl 1 ((rowsI n).map rw_)):=by
  refine pfun_sound (ic:=FX129.body) mixed cX129 rfl rfl ?_
  obtain ⟨hf,hl,hx⟩:=hn
  simp only [go_sem,List.length_map,FX129]
  refine loop_rule (fun i:Nat=>⟨[(12,.int .i64 i),(11,.int .i64 n.ls.length),(10,.sl 2 (n.ls.map lc_)),(3,.ms 900 1 0 i),(1,.mp 1 3 0 0)],[(900,⟨3,1,(fxs (n.ls.take i)).map vl_,false⟩),(1,⟨25,3,[nsC n],true⟩)]⟩) (fun i=>i ≤ n.ls.length) (fun i=>n.ls.length - i) 0 (Nat.zero_le _) ((Wk.nil _ 3 900 1 3 (by simp only [go_sem,List.length_map]) (.inl (by decide))).trans (Wk.of ?_ ?_)) ?_
  · simp only [go_sem,List.length_map,St.mknil]; try simp [go_sem]
  · simp only [go_sem,List.length_map,St.mknil,List.take_zero,fxs,nsC]; try simp [go_sem]
  intro i hi
  have hil:(fxs (n.ls.take i)).length = i:=by simp [fxs]; omega
  have happ:=fun ys=>appO_map 900 3 1 i vl_ (fxs (n.ls.take i)) ys hil
  by_cases h1:(i:Int) < (n.ls.length:Int)
  · have hi':i < n.ls.length:=by omega
    have e8:=wi (n:=(i:Int) + 1) (by omega) (by omega)
    simp only [go_sem,List.length_map,decide_eq_true h1,happ,nsC]
    refine ⟨by omega,h1,by omega,klp_n (i + 1) (show i + 1 ≤ n.ls.length by omega) (show n.ls.length - (i + 1) < n.ls.length - i by omega) (Wk.of ?_ ?_)⟩
    · simp only [go_sem,List.length_map,e8]; try simp
    · simp only [go_sem,List.length_map,fxs_tk hi',List.map_append,nsC]; try simp [vl_e]
  · obtain rfl:i = n.ls.length:=by omega
    simp only [go_sem,List.length_map,decide_eq_false h1,nsC]
    refine call_same (s_indexes n.fs (by omega)) (by simp [go_sem,List.length_map]) ?_
    simp only [go_sem,List.length_map]
    refine ⟨_,Wk.frzs [900] _,?_⟩
    simp only [opNew_bsl]
    have hxl:(fxs (n.ls.take n.ls.length)).length = n.ls.length:=by simp [fxs]
    simp only [go_sem,List.length_map,hxl,Nat.le_refl]
    refine loop_rule (fun i:Nat=>⟨[(30,.int .i64 i),(29,.int .i64 n.ls.length),(28,.sl 2 (n.ls.map lc_)),(6,.ms 26 1 0 (2 + i))],[(26,⟨82,1,(ixR n (n.ls.take i)).map rw_,false⟩)]⟩) (fun i=>i ≤ n.ls.length) (fun i=>n.ls.length - i) 0 (Nat.zero_le _) (Wk.of ?_ ?_) ?_
    · simp only [go_sem,List.length_map]; try simp
    · simp only [go_sem,List.length_map,List.take_zero,ixR_0,nsC,List.take_length]
      try rw [List.take_of_length_le (by simp [fxs])]
      try trivial
    intro i hi
    have hil:(ixR n (n.ls.take i)).length = 2 + i:=by rw [ixR_len,List.length_take]; omega
    have happ:=fun ys=>appO_map 26 82 1 (2 + i) rw_ (ixR n (n.ls.take i)) ys hil
    by_cases h1:(i:Int) < (n.ls.length:Int)
    · have hi':i < n.ls.length:=by omega
      have e8:=wi (n:=(i:Int) + 1) (by omega) (by omega)
      have hxi:(nth n.ls i).l.length ≤ 72:=hx _ (by rw [nth_eq hi']; exact List.getElem_mem hi')
      have ci:=s_indexes (nth n.ls i).l (by omega)
      simp only [go_sem,List.length_map,decide_eq_true h1]
      refine ⟨by omega,h1,?_⟩
      refine call_same (ci) (by simp [go_sem,List.length_map]) ?_
      simp only [go_sem,List.length_map,happ]
      refine ⟨by omega,klp_n (i + 1) (show i + 1 ≤ n.ls.length by omega) (show n.ls.length - (i + 1) < n.ls.length - i by omega) (Wk.of ?_ ?_)⟩
      · simp only [go_sem,List.length_map,e8]; try simp
        try omega
      · simp only [go_sem,List.length_map,ixR_tk hi',List.map_append]; try simp [rw_e]
    · obtain rfl:i = n.ls.length:=by omega
      simp only [go_sem,List.length_map,decide_eq_false h1]
      rw [show rowsI n = ixR n n.ls from rfl]
      refine pdone [26] ?_ rfl
      rw [List.take_length] at hil
      simp only [go_sem,List.length_map,List.take_length,hil,Nat.le_refl]
      rw [List.take_of_length_le (by rw [List.length_map,hil]; omega)]
      try rfl
theorem s_check (n:Ns) (hn:smN n):PCalls Tryz.prog nX90 [ns_ n] (.int .i64 (chk n)):=by
  refine pfun_sound (ic:=FX90.body) mixed cX90 rfl rfl ?_
  obtain ⟨s1,s2,s3⟩:=hn
  simp only [go_sem,List.length_map,FX90]
  refine call_same (s_text n.m s1) (by simp [go_sem,List.length_map]) ?_
  by_cases h0:txt n.m = 0
  rotate_left
  · rw [show chk n = txt n.m by unfold chk allE; simp [h0]]
    simp only [go_sem,List.length_map,bne_t h0]
    exact pdone [] (by simp only [go_sem,List.length_map]) (by first | rfl | simp [go_sem,slv_ids,List.length_map])
  simp only [go_sem,List.length_map,bne_f h0]
  refine call_same (s_texts n.fs s2 64 (by decide)) (by simp [go_sem,List.length_map]) ?_
  by_cases h1:txs n.fs 64 = 0
  rotate_left
  · rw [show chk n = txs n.fs 64 by unfold chk allE; simp [h0,h1]]
    simp only [go_sem,List.length_map,bne_t h1]
    exact pdone [] (by simp only [go_sem,List.length_map]) (by first | rfl | simp [go_sem,slv_ids,List.length_map])
  by_cases h2:(n.ls.length:Int) > 64
  · rw [show chk n = 6 by unfold chk allE; simp [h0,h1,h2]]
    simp only [go_sem,List.length_map,bne_f h1,decide_eq_true h2]
    exact pdone [] (by simp only [go_sem,List.length_map]) (by first | rfl | simp [go_sem,slv_ids,List.length_map])
  have hfl:=txs_len h1
  simp only [go_sem,List.length_map,bne_f h1,decide_eq_false h2]
  refine loop_rule (fun i:Nat=>⟨[(35,.int .i64 i),(34,.int .i64 n.ls.length),(33,.sl 2 (n.ls.map lc_)),(1,.mp 1 3 0 0)],[(1,⟨25,3,[nsC n],true⟩)]⟩) (fun i=>i ≤ n.ls.length ∧ lcl n.ls = lcl (n.ls.drop i)) (fun i=>n.ls.length - i) 0 ⟨Nat.zero_le _,rfl⟩ (Wk.of ?_ ?_) ?_
  · simp only [go_sem,List.length_map]; try simp
  · simp only [go_sem,List.length_map,nsC]
  rintro i ⟨hi,hx⟩
  by_cases h3:(i:Int) < (n.ls.length:Int)
  · have hi':i < n.ls.length:=by omega
    rw [lcl_at hi'] at hx
    have e8:=wi (n:=(i:Int) + 1) (by omega) (by omega)
    have ct:=s_texts (nth n.ls i).l (s3 _ (by rw [nth_eq hi']; exact List.getElem_mem hi')) 72 (by decide)
    simp only [go_sem,List.length_map,decide_eq_true h3,nsC]
    refine ⟨by omega,h3,?_⟩
    refine call_same (ct) (by simp [go_sem,List.length_map]) ?_
    by_cases hz:txs (nth n.ls i).l 72 = 0
    · rw [if_neg (by simp [hz])] at hx
      simp only [go_sem,List.length_map,bne_f hz]
      refine klp_n (i + 1) ⟨show i + 1 ≤ n.ls.length by omega,hx⟩ (show n.ls.length - (i + 1) < n.ls.length - i by omega) (Wk.of ?_ ?_)
      · simp only [go_sem,List.length_map,e8]; try simp
      · simp only [go_sem,List.length_map,nsC]
    · rw [if_pos hz] at hx
      rw [show chk n = txs (nth n.ls i).l 72 by unfold chk allE; simp [h0,h1,h2,hx,hz]]
      simp only [go_sem,List.length_map,bne_t hz]
      exact pdone [] (by simp only [go_sem,List.length_map]) (by first | rfl | simp [go_sem,slv_ids,List.length_map])
  rw [drop_end (by omega)] at hx
  have hA:allE n = 0:=by unfold allE; simp [h0,h1,h2,hx,lcl]
  have hsh:shN n:=⟨by omega,by omega,lcl_len hx⟩
  have hck:chk n = if (rowsI n).all win = false then 1 else if (rowsI n).all ris = false then 7 else 0:=by unfold chk; simp [hA]
  have hRl:(rowsI n).length ≤ 66:=by rw [rowsI_e]; have:=hsh.2.1; simp [ixl]; omega
  have hRr:∀ r ∈ rowsI n,r.length ≤ 72:=by
    intro r hr
    rw [rowsI_e] at hr
    simp only [List.cons_append,List.nil_append,List.mem_cons,ixl,List.mem_map] at hr
    rcases hr with rfl | rfl | ⟨x,hx,rfl⟩
    · simp [ixs]; have:=hsh.1; omega
    · simp [fxs]; have:=hsh.2.1; omega
    · simp [ixs]; exact hsh.2.2 x hx
  clear hx hA
  simp only [go_sem,List.length_map,decide_eq_false h3,nsC]
  have ca:=s_all n hsh
  refine call_same (ca) (by simp [go_sem,List.length_map]) ?_
  generalize rowsI n = R at *
  simp only [go_sem,List.length_map]
  refine loop_rule (fun j:Nat=>⟨[(50,.int .i64 j),(49,.int .i64 R.length),(48,.sl 1 (R.map rw_)),(8,.sl 1 (R.map rw_))],[]⟩) (fun j=>j ≤ R.length ∧ R.all win = (R.drop j).all win) (fun j=>R.length - j) 0 ⟨Nat.zero_le _,rfl⟩ (Wk.of ?_ ?_) ?_
  · simp only [go_sem,List.length_map]; try simp
  · simp only [go_sem,List.length_map]
  rintro j ⟨hj,hx⟩
  by_cases h4:(j:Int) < (R.length:Int)
  · have hj':j < R.length:=by omega
    rw [all_at hj'] at hx
    have e8:=wi (n:=(j:Int) + 1) (by omega) (by omega)
    have hr:=hRr (nth R j) (by rw [nth_eq hj']; exact List.getElem_mem hj')
    simp only [go_sem,List.length_map,decide_eq_true h4]
    refine ⟨by omega,h4,?_⟩
    refine loop_rule (fun k:Nat=>⟨[(56,.int .i64 k),(55,.int .i64 (nth R j).length),(54,.sl 1 ((nth R j).map vl_)),(50,.int .i64 j),(49,.int .i64 R.length),(48,.sl 1 (R.map rw_)),(8,.sl 1 (R.map rw_))],[]⟩) (fun k=>k ≤ (nth R j).length ∧ win (nth R j) = win ((nth R j).drop k)) (fun k=>(nth R j).length - k) 0 ⟨Nat.zero_le _,rfl⟩ (Wk.of ?_ ?_) ?_
    · simp only [go_sem,List.length_map]; try simp
    · simp only [go_sem,List.length_map]
    generalize nth R j = r at *
    rintro k ⟨hk,hy⟩
    by_cases h5:(k:Int) < (r.length:Int)
    · have hk':k < r.length:=by omega
      rw [win_at hk'] at hy
      have e9:=wi (n:=(k:Int) + 1) (by omega) (by omega)
      by_cases h6:nth r k < 0
      · rw [hck,if_pos (by rw [hx,hy]; simp [inR]; intro h; omega)]
        simp only [go_sem,List.length_map,decide_eq_true h5,decide_eq_true h6]
        refine ⟨by omega,h5,?_⟩
        exact pdone [] (by simp only [go_sem,List.length_map]) (by first | rfl | simp [go_sem,slv_ids,List.length_map])
      · by_cases h7:nth r k ≥ 4294967296
        · rw [hck,if_pos (by rw [hx,hy]; simp [inR]; intro h; omega)]
          simp only [go_sem,List.length_map,decide_eq_true h5,decide_eq_false h6,decide_eq_true h7]
          refine ⟨by omega,h5,?_⟩
          exact pdone [] (by simp only [go_sem,List.length_map]) (by first | rfl | simp [go_sem,slv_ids,List.length_map])
        · rw [show inR (nth r k) = true by simp [inR]; omega,Bool.true_and] at hy
          simp only [go_sem,List.length_map,decide_eq_true h5,decide_eq_false h6,decide_eq_false h7]
          refine ⟨by omega,h5,klp_n (k + 1) ⟨show k + 1 ≤ r.length by omega,hy⟩ (show r.length - (k + 1) < r.length - k by omega) (Wk.of ?_ ?_)⟩
          · simp only [go_sem,List.length_map,e9]; try simp
          · simp only [go_sem,List.length_map]
    · rw [drop_end (by omega),show win [] = true from rfl] at hy
      rw [hy,Bool.true_and] at hx
      simp only [go_sem,List.length_map,decide_eq_false h5]
      refine klp_n (j + 1) ⟨show j + 1 ≤ R.length by omega,hx⟩ (show R.length - (j + 1) < R.length - j by omega) (Wk.of ?_ ?_)
      · simp only [go_sem,List.length_map,e8]; try simp
      · simp only [go_sem,List.length_map]
  rw [drop_end (by omega),List.all_nil] at hx
  rw [hx] at hck
  simp only [Bool.true_eq_false,if_false] at hck
  simp only [go_sem,List.length_map,decide_eq_false h4]
  refine loop_rule (fun j:Nat=>⟨[(70,.int .i64 j),(69,.int .i64 R.length),(68,.sl 1 (R.map rw_))],[]⟩) (fun j=>j ≤ R.length ∧ R.all ris = (R.drop j).all ris) (fun j=>R.length - j) 0 ⟨Nat.zero_le _,rfl⟩ (Wk.of ?_ ?_) ?_
  · simp only [go_sem,List.length_map]; try simp
  · simp only [go_sem,List.length_map]
  clear hx h4 hj
  rintro j ⟨hj,hx⟩
  by_cases h4:(j:Int) < (R.length:Int)
  · have hj':j < R.length:=by omega
    rw [all_at hj'] at hx
    have e8:=wi (n:=(j:Int) + 1) (by omega) (by omega)
    have hr:=hRr (nth R j) (by rw [nth_eq hj']; exact List.getElem_mem hj')
    simp only [go_sem,List.length_map,decide_eq_true h4]
    refine ⟨by omega,h4,?_⟩
    refine loop_rule (fun k:Nat=>⟨[(15,.int .i64 k),(14,.sl 1 ((nth R j).map vl_)),(70,.int .i64 j),(69,.int .i64 R.length),(68,.sl 1 (R.map rw_))],[]⟩) (fun k=>1 ≤ k ∧ k ≤ (nth R j).length + 1 ∧ ris (nth R j) = ris ((nth R j).drop (k - 1))) (fun k=>(nth R j).length + 1 - k) 1 ⟨Nat.le_refl _,by omega,rfl⟩ (Wk.of ?_ ?_) ?_
    · simp only [go_sem,List.length_map]; try simp
    · simp only [go_sem,List.length_map]
    generalize nth R j = r at *
    rintro k ⟨hk1,hk,hy⟩
    by_cases h5:(k:Int) < (r.length:Int)
    · have hk':k < r.length:=by omega
      rw [ris_at hk1 hk'] at hy
      have e9:=wi (n:=(k:Int) + 1) (by omega) (by omega)
      have e7:IntKind.i64.wrap ((k:Int) - 1) = ((k - 1:Nat):Int):=by rw [wi (by omega) (by omega)]; omega
      by_cases h6:nth r k ≤ nth r (k - 1)
      · rw [hck,if_pos (by rw [hx,hy,decide_eq_false (by omega)]; rfl)]
        simp only [go_sem,List.length_map,decide_eq_true h5,e7,decide_eq_true h6]
        refine ⟨by omega,h5,by omega,by omega,?_⟩
        exact pdone [] (by simp only [go_sem,List.length_map]) (by first | rfl | simp [go_sem,slv_ids,List.length_map])
      · rw [decide_eq_true (by omega),Bool.true_and] at hy
        simp only [go_sem,List.length_map,decide_eq_true h5,e7,decide_eq_false h6]
        refine ⟨by omega,h5,by omega,by omega,klp_n (k + 1) ⟨by omega,show k + 1 ≤ r.length + 1 by omega,hy⟩ (show r.length + 1 - (k + 1) < r.length + 1 - k by omega) (Wk.of ?_ ?_)⟩
        · simp only [go_sem,List.length_map,e9]; try simp
        · simp only [go_sem,List.length_map]
    · rw [ris_end (by omega)] at hy
      rw [hy,Bool.true_and] at hx
      simp only [go_sem,List.length_map,decide_eq_false h5]
      refine klp_n (j + 1) ⟨show j + 1 ≤ R.length by omega,hx⟩ (show R.length - (j + 1) < R.length - j by omega) (Wk.of ?_ ?_)
      · simp only [go_sem,List.length_map,e8]; try simp
      · simp only [go_sem,List.length_map]
  rw [drop_end (by omega),List.all_nil] at hx
  rw [hck,hx]
  simp only [go_sem,List.length_map,decide_eq_false h4]
  exact pdone [] (by simp only [go_sem,List.length_map]) (by first | rfl | simp [go_sem,slv_ids,List.length_map])
end Go.Proofs.YtoikbadfbneahaaGreatDoor
set_option linter.unusedSimpArgs false
set_option maxRecDepth 100000
set_option linter.unusedVariables false
namespace Go.Proofs.YtoikbadfbneahaaGreatDoor
open Go Go.Mw

def gdT (s:List UInt8):Prop:=uv s = true ∧ s.length ≤ 64
def gdI (i:Int):Prop:=0 ≤ i ∧ i < 4294967296
def gdM (n:Nm):Prop:=gdI n.i ∧ gdT n.s
def gdL (l:List Nm):Prop:=l.length ≤ 72 ∧ ∀ n ∈ l,gdM n
def gdLc (x:Lc):Prop:=gdI x.f ∧ gdL x.l
def gdN (n:Ns):Prop:=gdT n.m ∧ (n.fs.length ≤ 64 ∧ gdL n.fs) ∧ n.ls.length ≤ 64 ∧ ∀ x ∈ n.ls,gdLc x
theorem txt_ok {s:List UInt8} (h:txt s = 0):gdT s:=by
  unfold txt at h
  split at h
  · cases h
  · split at h
    · cases h
    · exact ⟨by simp_all,by omega⟩
theorem txl_ok:∀ {l:List Nm},txl l = 0 → ∀ n ∈ l,gdT n.s
  | [],_,n,hn=>by cases hn
  | y :: r,h,n,hn=>by
    unfold txl at h
    split at h
    · rename_i hne; exact absurd h hne
    · rename_i hz
      simp only [ne_eq,Decidable.not_not] at hz
      rcases List.mem_cons.1 hn with rfl | hn
      · exact txt_ok hz
      · exact txl_ok h n hn
theorem txs_ok {l:List Nm} {m:Int} (h:txs l m = 0):(l.length:Int) ≤ m ∧ ∀ n ∈ l,gdT n.s:=by
  unfold txs at h
  split at h
  · cases h
  · exact ⟨by omega,txl_ok h⟩
theorem lcl_ok:∀ {l:List Lc},lcl l = 0 → ∀ x ∈ l,txs x.l 72 = 0
  | [],_,x,hx=>by cases hx
  | y :: r,h,x,hx=>by
    unfold lcl at h
    split at h
    · rename_i hne; exact absurd h hne
    · rename_i hz
      simp only [ne_eq,Decidable.not_not] at hz
      rcases List.mem_cons.1 hx with rfl | hx
      · exact hz
      · exact lcl_ok h x hx
theorem win_ok {l:List Int} (h:win l = true):∀ i ∈ l,gdI i:=by
  intro i hi
  have:=List.all_eq_true.1 h i hi
  simp only [inR,Bool.and_eq_true,decide_eq_true_eq] at this
  exact this
theorem chk_ok {n:Ns} (h:chk n = 0):gdN n ∧ (rowsI n).all ris = true:=by
  unfold chk at h
  split at h
  · rename_i hne; exact absurd h hne
  rename_i hA
  simp only [ne_eq,Decidable.not_not] at hA
  split at h
  · cases h
  rename_i hw
  split at h
  · cases h
  rename_i hr
  unfold allE at hA
  split at hA
  · rename_i hne; exact absurd hA hne
  rename_i h0
  split at hA
  · rename_i hne; exact absurd hA hne
  rename_i h1
  split at hA
  · cases hA
  rename_i h2
  simp only [ne_eq,Decidable.not_not] at h0 h1
  have hw':(rowsI n).all win = true:=by simpa using hw
  have hr':(rowsI n).all ris = true:=by simpa using hr
  obtain ⟨q1,q2⟩:=txs_ok h1
  have hin:∀ r ∈ rowsI n,win r = true:=List.all_eq_true.1 hw'
  refine ⟨⟨txt_ok h0,⟨by omega,by omega,fun x hx=>⟨win_ok (hin (ixs n.fs) (by simp [rowsI])) _ (List.mem_map.2 ⟨x,hx,rfl⟩),q2 x hx⟩⟩,by omega,fun x hx=>⟨win_ok (hin (fxs n.ls) (by simp [rowsI])) _ (List.mem_map.2 ⟨x,hx,rfl⟩),?_⟩⟩,hr'⟩
  obtain ⟨p1,p2⟩:=txs_ok (lcl_ok hA x hx)
  exact ⟨by omega,fun y hy=>⟨win_ok (hin (ixs x.l) (by simp only [rowsI,List.mem_cons,List.mem_map]; exact .inr (.inr ⟨x,hx,rfl⟩))) _ (List.mem_map.2 ⟨y,hy,rfl⟩),p2 y hy⟩⟩

/-! ### How long -/
theorem pU {n:Nat} (h:n < 4294967296):(putU n).length ≤ 5:=putU_len (k:=4) (by omega)
theorem encT_len {s:List UInt8} (h:gdT s):(encT s).length ≤ 69:=by
  have:=pU (n:=s.length) (by have:=h.2; omega)
  have:=h.2
  unfold encT
  rw [List.length_append]
  omega
theorem encN1_len {n:Nm} (h:gdM n):(encN1 n).length ≤ 74:=by
  have:=pU (n:=n.i.toNat) (by have:=h.1.2; omega)
  have:=encT_len h.2
  unfold encN1
  rw [List.length_append]
  omega
theorem encL_app:∀ (a b:List Nm),encL (a ++ b) = encL a ++ encL b
  | [],b=>rfl
  | n :: r,b=>by simp only [List.cons_append,encL,encL_app r b,List.append_assoc]
theorem encL_len14:∀ {l:List Nm},(∀ n ∈ l,gdM n) → (encL l).length ≤ 74 * l.length
  | [],_=>Nat.le_refl _
  | n :: r,h=>by
    have h1:=encN1_len (h n (by simp))
    have h2:=encL_len14 (l:=r) fun x hx=>h x (by simp [hx])
    simp only [encL,List.length_append,List.length_cons]
    omega
theorem encL_tk {l:List Nm} {i:Nat} (h:i < l.length):encL (l.take (i + 1)) = encL (l.take i) ++ encN1 (nth l i):=by
  rw [take_c h,encL_app]
  simp [encL]
theorem encL_tlen {l:List Nm} (h:gdL l) (i:Nat):(encL (l.take i)).length ≤ 5328:=by
  have:=encL_len14 (l:=l.take i) fun x hx=>h.2 x (List.mem_of_mem_take hx)
  have:=h.1
  rw [List.length_take] at *
  omega
theorem encN_len {l:List Nm} (h:gdL l):(encN l).length ≤ 5333:=by
  have:=pU (n:=l.length) (by have:=h.1; omega)
  have:=encL_tlen h l.length
  rw [List.take_length] at this
  unfold encN
  rw [List.length_append]
  omega
theorem encC_app:∀ (a b:List Lc),encC (a ++ b) = encC a ++ encC b
  | [],b=>rfl
  | n :: r,b=>by simp only [List.cons_append,encC,encC_app r b,List.append_assoc]
theorem encC_len:∀ {l:List Lc},(∀ n ∈ l,gdLc n) → (encC l).length ≤ 5338 * l.length
  | [],_=>Nat.le_refl _
  | x :: r,h=>by
    have h1:=encN_len (h x (by simp)).2
    have h0:=pU (n:=x.f.toNat) (by have:=(h x (by simp)).1.2; omega)
    have h2:=encC_len (l:=r) fun y hy=>h y (by simp [hy])
    simp only [encC,List.length_append,List.length_cons]
    omega
theorem encC_tk {l:List Lc} {i:Nat} (h:i < l.length):encC (l.take (i + 1)) = encC (l.take i) ++ (putU (nth l i).f.toNat ++ encN (nth l i).l):=by
  rw [take_c h,encC_app]
  simp [encC]
theorem encC_tlen {l:List Lc} (hl:l.length ≤ 64) (h:∀ n ∈ l,gdLc n) (i:Nat):(encC (l.take i)).length ≤ 341632:=by
  have:=encC_len (l:=l.take i) fun x hx=>h x (List.mem_of_mem_take hx)
  rw [List.length_take] at *
  omega
theorem encLs_len {l:List Lc} (hl:l.length ≤ 64) (h:∀ n ∈ l,gdLc n):(encLs l).length ≤ 341637:=by
  have:=pU (n:=l.length) (by omega)
  have:=encC_tlen hl h l.length
  rw [List.take_length] at this
  unfold encLs
  rw [List.length_append]
  omega
theorem prt_len {b:UInt8} {x:List UInt8} (h:x.length < 4294967296):(prt b x).length ≤ x.length + 6:=by
  have:=pU h
  unfold prt
  simp only [List.length_cons,List.length_append]
  omega
theorem bytesN_len {n:Ns} (h:gdN n):(bytesN n).length ≤ 400000:=by
  obtain ⟨h1,⟨h2,h3⟩,h4,h5⟩:=h
  have a1:=encT_len h1
  have a2:=encN_len h3
  have a3:=encLs_len h4 h5
  have b1:=prt_len (b:=0) (x:=encT n.m) (by omega)
  have b2:=prt_len (b:=1) (x:=encN n.fs) (by omega)
  have b3:=prt_len (b:=2) (x:=encLs n.ls) (by omega)
  unfold bytesN
  simp only [List.length_append]
  repeat' split
  all_goals (try simp only [List.length_nil]); omega
theorem gdM_at {l:List Nm} (h:∀ n ∈ l,gdM n) {i:Nat} (hi:i < l.length):gdM (nth l i):=by
  rw [nth_eq hi]; exact h _ (List.getElem_mem hi)
theorem gdLc_at {l:List Lc} (h:∀ n ∈ l,gdLc n) {i:Nat} (hi:i < l.length):gdLc (nth l i):=by
  rw [nth_eq hi]; exact h _ (List.getElem_mem hi)
theorem gdI_nat {i:Int} (h:gdI i):∃ k:Nat,i = (k:Int) ∧ k < 4294967296:=by
  obtain ⟨k,rfl⟩:=Int.eq_ofNat_of_zero_le h.1
  exact ⟨k,rfl,by have:=h.2; omega⟩
end Go.Proofs.YtoikbadfbneahaaGreatDoor
set_option maxRecDepth 100000
set_option maxHeartbeats 20000000
set_option linter.unusedVariables false
set_option linter.unusedSimpArgs false
namespace Go.Proofs.YtoikbadfbneahaaGreatDoor
open Go Go.Mw
-- @U: List.length_map,wo,wa,nr,nsC,wv

def nr (n:Ns):AObj:=⟨25,3,[nsC n],true⟩
def wv:AObj:=⟨61,1,[[.mp 1000 3 0 0]],true⟩
theorem v_u {l:List UInt8} (n:Nat) (hn:n < 4294967296) (hl:l.length < 60000000000):WM nX32 [.int .i64 (n:Int)] true l 0 (.tup []) (l ++ putU n) 0:=by
  have h:=s_wU32 true l 0 (n:Int) hl
  rw [show wU (true && (0:Int) == 0) l 0 (n:Int) = (l ++ putU n,0) by
    unfold wU
    rw [if_pos (show (true && (0:Int) == 0) = true from rfl),if_neg (by omega)]
    rfl] at h
  exact h
theorem v_t {l s:List UInt8} (h:gdT s) (hl:l.length < 10000000):WM nX18 [.str s] true l 0 (.tup []) (l ++ encT s) 0:=by
  have hw:=s_wname true l s 0 ⟨hl,by have:=h.2; omega⟩
  rw [show wN (true && (0:Int) == 0) l 0 s = (l ++ encT s,0) by
    unfold wN encT
    rw [if_pos (show (true && (0:Int) == 0) = true from rfl),if_neg (by rw [h.1]; decide),if_neg (by have:=h.2; omega),List.append_assoc]] at hw
  exact hw
theorem v_put {b:List UInt8} (l:List Nm) (h:gdL l) (hb:b.length < 9000000):WM nX123 [.sl 2 (l.map nm_)] true b 0 (.tup []) (b ++ encN l) 0:=by
  refine fun_sound (ic:=FX123.body) mixed cX123 rfl rfl ?_
  obtain ⟨hl,hg⟩:=h
  simp only [go_sem,List.length_map,wo,wa,nr,nsC,wv,FX123]
  refine call_w [] (k:=1000) (j:=2000) (v_u (l:=b) l.length (by omega) (by omega)) (by decide) (by decide) (by decide) (by decide) (by first | rfl | simp [go_sem,slv_ids,List.length_map,wo,wa,nr,nsC,wv]) (by simp [go_sem,List.length_map,wo,wa,nr,nsC,wv]) (by rfl) (by rfl) (by rfl) ?_
  simp only [go_sem,List.length_map,wo,wa,nr,nsC,wv]
  have hu:=pU (n:=l.length) (by omega)
  refine loop_rule (fun i:Nat=>⟨[(12,.int .i64 i),(11,.int .i64 l.length),(10,.sl 2 (l.map nm_)),(0,.mp 1000 3 0 0)],[(1000,wo 2000 true (b ++ putU l.length ++ encL (l.take i)) 0),(2000,wa (b ++ putU l.length ++ encL (l.take i)))]⟩) (fun i=>i ≤ l.length) (fun i=>l.length - i) 0 (Nat.zero_le _) (Wk.of ?_ ?_) ?_
  · simp only [go_sem,List.length_map,wo,wa,nr,nsC,wv]; try simp
  · simp only [go_sem,List.length_map,wo,wa,nr,nsC,wv,List.take_zero,encL,List.append_nil]
  intro i hi
  have hlen:(b ++ putU l.length ++ encL (l.take i)).length < 9500000:=by
    have:=encL_tlen ⟨hl,hg⟩ i
    simp only [List.length_append]
    omega
  by_cases h1:(i:Int) < (l.length:Int)
  · have hi':i < l.length:=by omega
    have e8:=wi (n:=(i:Int) + 1) (by omega) (by omega)
    obtain ⟨g1,g2⟩:=gdM_at hg hi'
    have hs:encL (l.take (i + 1)) = encL (l.take i) ++ encN1 (nth l i):=encL_tk hi'
    unfold encN1 at hs
    obtain ⟨k,hk,hk2⟩:=gdI_nat g1
    rw [hk,Int.toNat_natCast] at hs
    have hu2:=pU hk2
    have hw:b ++ putU l.length ++ encL (l.take i) ++ putU k ++ encT (nth l i).s = b ++ putU l.length ++ encL (l.take (i + 1)):=by rw [hs]; simp only [List.append_assoc]
    simp only [go_sem,List.length_map,wo,wa,nr,nsC,wv,decide_eq_true h1,hk]
    refine ⟨by omega,h1,?_⟩
    refine call_w [] (k:=1000) (j:=2000) (v_u (l:=b ++ putU l.length ++ encL (l.take i)) k hk2 (by omega)) (by decide) (by decide) (by decide) (by decide) (by first | rfl | simp [go_sem,slv_ids,List.length_map,wo,wa,nr,nsC,wv]) (by simp [go_sem,List.length_map,wo,wa,nr,nsC,wv]) (by rfl) (by rfl) (by rfl) ?_
    simp only [go_sem,List.length_map,wo,wa,nr,nsC,wv]
    refine call_w [] (k:=1000) (j:=2000) (v_t (l:=b ++ putU l.length ++ encL (l.take i) ++ putU k) g2 (by rw [List.length_append]; omega)) (by decide) (by decide) (by decide) (by decide) (by first | rfl | simp [go_sem,slv_ids,List.length_map,wo,wa,nr,nsC,wv]) (by simp [go_sem,List.length_map,wo,wa,nr,nsC,wv]) (by rfl) (by rfl) (by rfl) ?_
    simp only [go_sem,List.length_map,wo,wa,nr,nsC,wv]
    rw [hw]
    refine klp_n (i + 1) (show i + 1 ≤ l.length by omega) (show l.length - (i + 1) < l.length - i by omega) (Wk.of ?_ ?_)
    · simp only [go_sem,List.length_map,wo,wa,nr,nsC,wv,e8]; try simp
    · simp only [go_sem,List.length_map,wo,wa,nr,nsC,wv]; try simp [go_sem,wo,wa]
  · obtain rfl:i = l.length:=by omega
    simp only [go_sem,List.length_map,wo,wa,nr,nsC,wv,decide_eq_false h1]
    rw [List.take_length]
    exact done_n [] _ [(1000,wo 2000 true (b ++ encN l) 0),(2000,wa (b ++ encN l))] (by simp only [go_sem,List.length_map,wo,wa,nr,nsC,wv]) (by simp only [go_sem,List.length_map,wo,wa,nr,nsC,wv,encN,List.append_assoc]) rfl ⟨rfl,rfl⟩
def WC (f:FuncId) (n:Ns) (x:List UInt8):Prop:=ACalls Tryz.prog f [.mp 1000 3 0 0,.mp 1001 3 0 0] [(1000,wo 2000 true [] 0),(2000,wa []),(1001,nr n)] sb (fun r' σ'=>r' = .tup [] ∧ σ' = [(1000,wo 2000 true x 0),(2000,wa x),(1001,nr n)])
theorem wc_1 (n:Ns) (h:gdN n):WC nX56 n (encT n.m):=by
  refine fun_sound (ic:=FX56.body) mixed cX56 rfl rfl ?_
  simp only [go_sem,List.length_map,wo,wa,nr,nsC,wv,FX56,nr,nsC]
  refine call_w [] (k:=1000) (j:=2000) (v_t (l:=[]) h.1 (by decide)) (by decide) (by decide) (by decide) (by decide) (by first | rfl | simp [go_sem,slv_ids,List.length_map,wo,wa,nr,nsC,wv]) (by simp [go_sem,List.length_map,wo,wa,nr,nsC,wv]) (by rfl) (by rfl) (by rfl) ?_
  simp only [go_sem,List.length_map,wo,wa,nr,nsC,wv]
  exact done_n [] _ [(1000,wo 2000 true (encT n.m) 0),(2000,wa (encT n.m)),(1001,nr n)] (by simp only [go_sem,List.length_map,wo,wa,nr,nsC,wv]) (by simp only [go_sem,List.length_map,wo,wa,nr,nsC,wv,nr,nsC]) rfl ⟨rfl,rfl⟩
theorem wc_2 (n:Ns) (h:gdN n):WC nX57 n (encN n.fs):=by
  refine fun_sound (ic:=FX57.body) mixed cX57 rfl rfl ?_
  simp only [go_sem,List.length_map,wo,wa,nr,nsC,wv,FX57,nr,nsC]
  refine call_w [] (k:=1000) (j:=2000) (v_put (b:=[]) n.fs h.2.1.2 (by decide)) (by decide) (by decide) (by decide) (by decide) (by first | rfl | simp [go_sem,slv_ids,List.length_map,wo,wa,nr,nsC,wv]) (by simp [go_sem,List.length_map,wo,wa,nr,nsC,wv]) (by rfl) (by rfl) (by rfl) ?_
  simp only [go_sem,List.length_map,wo,wa,nr,nsC,wv]
  exact done_n [] _ [(1000,wo 2000 true (encN n.fs) 0),(2000,wa (encN n.fs)),(1001,nr n)] (by simp only [go_sem,List.length_map,wo,wa,nr,nsC,wv]) (by simp only [go_sem,List.length_map,wo,wa,nr,nsC,wv,nr,nsC]) rfl ⟨rfl,rfl⟩
theorem wc_3 (n:Ns) (h:gdN n):WC nX55 n (encLs n.ls):=by
  refine fun_sound (ic:=FX55.body) mixed cX55 rfl rfl ?_
  obtain ⟨_,_,hl,hg⟩:=h
  simp only [go_sem,List.length_map,wo,wa,nr,nsC,wv,FX55,nr,nsC]
  refine call_w [] (k:=1000) (j:=2000) (v_u (l:=[]) n.ls.length (by omega) (by decide)) (by decide) (by decide) (by decide) (by decide) (by first | rfl | simp [go_sem,slv_ids,List.length_map,wo,wa,nr,nsC,wv]) (by simp [go_sem,List.length_map,wo,wa,nr,nsC,wv]) (by rfl) (by rfl) (by rfl) ?_
  simp only [go_sem,List.length_map,wo,wa,nr,nsC,wv]
  have hu:=pU (n:=n.ls.length) (by omega)
  refine loop_rule (fun i:Nat=>⟨[(13,.int .i64 i),(12,.int .i64 n.ls.length),(11,.sl 2 (n.ls.map lc_)),(0,.mp 1000 3 0 0)],[(1000,wo 2000 true (putU n.ls.length ++ encC (n.ls.take i)) 0),(2000,wa (putU n.ls.length ++ encC (n.ls.take i))),(1001,nr n)]⟩) (fun i=>i ≤ n.ls.length) (fun i=>n.ls.length - i) 0 (Nat.zero_le _) (Wk.of ?_ ?_) ?_
  · simp only [go_sem,List.length_map,wo,wa,nr,nsC,wv]; try simp
  · simp only [go_sem,List.length_map,wo,wa,nr,nsC,wv,List.take_zero,encC,List.append_nil,nr,nsC]; try simp
  intro i hi
  have hlen:(putU n.ls.length ++ encC (n.ls.take i)).length < 400000:=by
    have:=encC_tlen hl hg i
    simp only [List.length_append]
    omega
  by_cases h1:(i:Int) < (n.ls.length:Int)
  · have hi':i < n.ls.length:=by omega
    have e8:=wi (n:=(i:Int) + 1) (by omega) (by omega)
    obtain ⟨g1,g2⟩:=gdLc_at hg hi'
    have hs:encC (n.ls.take (i + 1)) = encC (n.ls.take i) ++ (putU (nth n.ls i).f.toNat ++ encN (nth n.ls i).l):=encC_tk hi'
    obtain ⟨k,hk,hk2⟩:=gdI_nat g1
    rw [hk,Int.toNat_natCast] at hs
    have hu2:=pU hk2
    have hw:putU n.ls.length ++ encC (n.ls.take i) ++ putU k ++ encN (nth n.ls i).l = putU n.ls.length ++ encC (n.ls.take (i + 1)):=by rw [hs]; simp only [List.append_assoc]
    simp only [go_sem,List.length_map,wo,wa,nr,nsC,wv,decide_eq_true h1,hk]
    refine ⟨by omega,h1,?_⟩
    refine call_w [] (k:=1000) (j:=2000) (v_u (l:=putU n.ls.length ++ encC (n.ls.take i)) k hk2 (by omega)) (by decide) (by decide) (by decide) (by decide) (by first | rfl | simp [go_sem,slv_ids,List.length_map,wo,wa,nr,nsC,wv]) (by simp [go_sem,List.length_map,wo,wa,nr,nsC,wv]) (by rfl) (by rfl) (by rfl) ?_
    simp only [go_sem,List.length_map,wo,wa,nr,nsC,wv]
    refine call_w [] (k:=1000) (j:=2000) (v_put (b:=putU n.ls.length ++ encC (n.ls.take i) ++ putU k) (nth n.ls i).l g2 (by rw [List.length_append]; omega)) (by decide) (by decide) (by decide) (by decide) (by first | rfl | simp [go_sem,slv_ids,List.length_map,wo,wa,nr,nsC,wv]) (by simp [go_sem,List.length_map,wo,wa,nr,nsC,wv]) (by rfl) (by rfl) (by rfl) ?_
    simp only [go_sem,List.length_map,wo,wa,nr,nsC,wv]
    rw [hw]
    refine klp_n (i + 1) (show i + 1 ≤ n.ls.length by omega) (show n.ls.length - (i + 1) < n.ls.length - i by omega) (Wk.of ?_ ?_)
    · simp only [go_sem,List.length_map,wo,wa,nr,nsC,wv,e8]; try simp
    · simp only [go_sem,List.length_map,wo,wa,nr,nsC,wv]; try simp [go_sem,wo,wa]
  · obtain rfl:i = n.ls.length:=by omega
    simp only [go_sem,List.length_map,wo,wa,nr,nsC,wv,decide_eq_false h1]
    rw [List.take_length]
    exact done_n [] _ [(1000,wo 2000 true (encLs n.ls) 0),(2000,wa (encLs n.ls)),(1001,nr n)] (by simp only [go_sem,List.length_map,wo,wa,nr,nsC,wv]) (by simp only [go_sem,List.length_map,wo,wa,nr,nsC,wv,encLs]) rfl ⟨rfl,rfl⟩
theorem s_sub14 {f:FuncId} (hb:hasBody Tryz.prog f = true) {n:Ns} {x:List UInt8} (h:WC f n x) (hx:x.length < 400000) (id:UInt8) {l:List UInt8} (hl:l.length < 1000000) :
    ACalls Tryz.prog nX51 [.int .u8 id.toNat,.fn f [.mp 1002 3 0 0],.mp 1001 1 0 0] [(1000,wo 2000 true l 0),(2000,wa l),(1001,wv),(1002,nr n)] sb
      (fun r' σ'=>r' = .tup [] ∧ σ' = [(1000,wo 2000 true (l ++ prt id x) 0),(2000,wa (l ++ prt id x)),(1001,wv),(1002,nr n)]):=by
  refine fun_sound (ic:=FX51.body) mixed cX51 rfl rfl ?_
  have cy:=s_wbyte true l id 0 (by omega)
  rw [show wB (true && (0:Int) == 0) l [id] = l ++ [id] from rfl] at cy
  have cp:=s_wpart true (l ++ [id]) 0 (by simp; omega) true x 0 (by omega)
  rw [show wP (true && (0:Int) == 0) (l ++ [id]) 0 true x 0 = (l ++ prt id x,0) by simp [wP,wB,prt]] at cp
  simp only [go_sem,List.length_map,wo,wa,nr,nsC,wv,FX51,wv]
  refine call_wnew 904 905 (by decide) (by decide) (by decide) (by simp only [go_sem,List.length_map,wo,wa,nr,nsC,wv]) (by simp only [go_sem,List.length_map,wo,wa,nr,nsC,wv]) ?_
  simp only [go_sem,List.length_map,wo,wa,nr,nsC,wv]
  refine ⟨hb,?_⟩
  refine call_obj (σ2:=[(904,wo 905 true [] 0),(905,wa []),(1002,nr n)]) (r3:=.tup []) (σ3:=[(904,wo 905 true x 0),(905,wa x),(1002,nr n)]) h [(1000,904),(2000,905),(1001,1002)] [905] rfl rfl rfl rfl ?_ ?_ ?_ ?_
  · simp only [go_sem,List.length_map,wo,wa,nr,nsC,wv]; simp
  · simp only [go_sem,List.length_map,wo,wa,nr,nsC,wv]; simp [sb,bw,swp,hget]
  · simp only [go_sem,List.length_map,wo,wa,nr,nsC,wv]; simp [hget]
  simp only [go_sem,List.length_map,wo,wa,nr,nsC,wv]
  refine call_w [] (k:=1000) (j:=2000) (cy) (by decide) (by decide) (by decide) (by decide) (by first | rfl | simp [go_sem,slv_ids,List.length_map,wo,wa,nr,nsC,wv]) (by simp [go_sem,List.length_map,wo,wa,nr,nsC,wv]) (by rfl) (by rfl) (by rfl) ?_
  simp only [go_sem,List.length_map,wo,wa,nr,nsC,wv]
  refine call_obj (σ2:=[(1000,wo 2000 true (l ++ [id]) 0),(2000,wa (l ++ [id])),(904,wo 905 true x 0),(905,wa x)]) (r3:=.tup []) (σ3:=[(1000,wo 2000 true (l ++ prt id x) 0),(2000,wa (l ++ prt id x)),(904,wo 905 true x 0),(905,wa x)]) cp [(1001,904),(2001,905)] [2000,905] rfl rfl rfl rfl ?_ ?_ ?_ ?_
  · simp only [go_sem,List.length_map,wo,wa,nr,nsC,wv]; simp
  · simp only [go_sem,List.length_map,wo,wa,nr,nsC,wv]; simp [sb,bw,swp,hget]
  · simp only [go_sem,List.length_map,wo,wa,nr,nsC,wv]; simp [hget]
  simp only [go_sem,List.length_map,wo,wa,nr,nsC,wv]
  exact done_n [] _ [(1000,wo 2000 true (l ++ prt id x) 0),(2000,wa (l ++ prt id x)),(1001,wv),(1002,nr n)] (by simp only [go_sem,List.length_map,wo,wa,nr,nsC,wv]) (by simp only [go_sem,List.length_map,wo,wa,nr,nsC,wv,wv,nr,nsC]) rfl ⟨rfl,rfl⟩
end Go.Proofs.YtoikbadfbneahaaGreatDoor
