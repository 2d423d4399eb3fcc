/-
  Chapter 9 in plain Lean: the blocks around each instruction.
-/
import Derived.Test.YtlmnepdibhdpaaaMwX
namespace Go.Proofs.Ytlmnepdibhdpaaa
open Go Go.Mw

/-- A slice of integers that may be nil. -/
def sv : Option (List Int) → AV
  | none => .nl
  | some l => .sl 1 (l.map ri)
theorem sv_m (d : Nat) (x : Option (List Int)) : mC d (sv x) = false := by cases x <;> rfl
theorem sv_i (x : Option (List Int)) : immA (sv x) = true := by cases x <;> rfl
theorem sv_c (x : Option (List Int)) : idsC (sv x) = [] := by cases x <;> rfl

structure Ins where
  op : Int
  a : Int
  b : Int
  n : Int
  bk : Int
  bv : Int
  bi : Int
  ty : Option (List Int)
  lb : Option (List Int)
  deriving Inhabited

def Ins.row (x : Ins) : List AV := [.int .i64 x.op, .int .i64 x.a, .int .i64 x.b, .int .u64 x.n, .int .i64 x.bk, .int .i64 x.bv, .int .i64 x.bi, sv x.ty, sv x.lb]
theorem row_e (x : Ins) : x.row = [.int .i64 x.op, .int .i64 x.a, .int .i64 x.b, .int .u64 x.n, .int .i64 x.bk, .int .i64 x.bv, .int .i64 x.bi, sv x.ty, sv x.lb] := rfl

theorem row_ld (x : Ins) : ldc none x.row = some (.int .i64 x.op) := rfl
theorem row_ld9 (x : Ins) : ldc (some 9) x.row = some (.agg x.row) := rfl
theorem row_len (x : Ins) : x.row.length = 9 := rfl
theorem row_any (d : Nat) (x : Ins) : x.row.any (mC d) = false := by obtain ⟨op, a, b, n, bk, bv, bi, ty, lb⟩ := x; cases ty <;> cases lb <;> rfl
theorem row_not (d : Nat) (x : Ins) : (x.row.all fun y => !(mC d y)) = true := by obtain ⟨op, a, b, n, bk, bv, bi, ty, lb⟩ := x; cases ty <;> cases lb <;> rfl
theorem row_all (x : Ins) : x.row.all immA = true := by obtain ⟨op, a, b, n, bk, bv, bi, ty, lb⟩ := x; cases ty <;> cases lb <;> rfl
theorem row_pur (d : Nat) (x : Ins) : x.row.map (purC d) = x.row := by obtain ⟨op, a, b, n, bk, bv, bi, ty, lb⟩ := x; cases ty <;> cases lb <;> rfl
theorem row_ids (x : Ins) : x.row.flatMap idsC = [] := by obtain ⟨op, a, b, n, bk, bv, bi, ty, lb⟩ := x; cases ty <;> cases lb <;> rfl
attribute [go_sem high] row_any row_not row_all row_pur row_ids
attribute [go_sem high] row_ld row_ld9 row_len

def bg (op : Int) : Bool := op == 2 || op == 3 || op == 4
def stp (l : List Int) (i : Nat) (op : Int) : List Int := if bg op then l ++ [(i : Int)] else if op == 11 then l.dropLast else l
/-- The blocks around the instruction 'i'. -/
def rnd (B : List Ins) : Nat → List Int
  | 0 => [-1]
  | i + 1 => stp (rnd B i) i (nth B i).op
def hd (B : List Ins) (i : Nat) : Int := nth (rnd B i) ((rnd B i).length - 1)
/-- The block at 'h' has an else before 'i'. -/
def els (B : List Ins) (h : Int) (i : Nat) : Bool := (List.range i).any fun j => decide (h < j) && (nth B j).op == 5 && decide (0 < (rnd B j).length) && hd B j == h
def badElse (B : List Ins) (i : Nat) : Bool := (nth B i).op == 5 && (decide (hd B i < 0) || (nth B (hd B i).toNat).op != 4 || els B (hd B i) i)
def err (B : List Ins) (i : Nat) : Int := if (rnd B i).length = 0 then 16 else if badElse B i then 16 else if bg (nth B i).op && decide (32 ≤ (rnd B i).length) then 6 else 0
def chkF (B : List Ins) : Nat → Nat → Int × Int
  | _, 0 => if 0 < (rnd B B.length).length then (B.length, 3) else (0, 0)
  | i, k + 1 => if err B i ≠ 0 then (i, err B i) else chkF B (i + 1) k
/-- The first error and its place. -/
def chk (B : List Ins) : Int × Int := chkF B 0 B.length

def endsA (B : List Ins) : Nat → List Int
  | 0 => List.replicate B.length (-1)
  | i + 1 => if (nth B i).op == 11 && decide (0 ≤ hd B i) then (endsA B i).set (hd B i).toNat i else endsA B i
def elsesA (B : List Ins) : Nat → List Int
  | 0 => List.replicate B.length (-1)
  | i + 1 => if (nth B i).op == 5 then (elsesA B i).set (hd B i).toNat i else elsesA B i
def depthsA (B : List Ins) (i : Nat) : List Int := (List.range i).map fun j => ((rnd B j).length : Int)
def headsA (B : List Ins) (i : Nat) : List Int := (List.range i).map fun j => hd B j

theorem rnd_len (B : List Ins) : ∀ i, (rnd B i).length ≤ i + 1
  | 0 => by simp [rnd]
  | i + 1 => by
    have := rnd_len B i
    simp only [rnd, stp]
    split
    · simp; omega
    · split
      · simp; omega
      · omega
theorem endsA_len (B : List Ins) : ∀ i, (endsA B i).length = B.length
  | 0 => by simp [endsA]
  | i + 1 => by simp only [endsA]; split <;> simp [endsA_len B i]
theorem elsesA_len (B : List Ins) : ∀ i, (elsesA B i).length = B.length
  | 0 => by simp [elsesA]
  | i + 1 => by simp only [elsesA]; split <;> simp [elsesA_len B i]
end Go.Proofs.Ytlmnepdibhdpaaa
