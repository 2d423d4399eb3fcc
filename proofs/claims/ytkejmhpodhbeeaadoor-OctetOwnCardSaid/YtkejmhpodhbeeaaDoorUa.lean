/-
  unicode/utf8, walks: word.
-/
import Derived.Test.YtkejmhpodhbeeaaDoorU0
set_option linter.unusedSimpArgs false
set_option maxRecDepth 100000
set_option maxHeartbeats 4000000
namespace Go.Proofs.YtkejmhpodhbeeaaDoor
open Go Go.Mw

theorem c64 (b : UInt8) : IntKind.u64.wrap (b.toNat : Int) = (b.toNat : Int) := by
  have := b.toNat_lt
  rw [w_u64]; omega
theorem wrd_or (l : List UInt8) : b_or .u64 (b_or .u64 (b_or .u64 (b_or .u64 (b_or .u64 (b_or .u64 (b_or .u64 ((nth l 0).toNat : Int) (b_shl .u64 ((nth l 1).toNat : Int) 8)) (b_shl .u64 ((nth l 2).toNat : Int) 16)) (b_shl .u64 ((nth l 3).toNat : Int) 24)) (b_shl .u64 ((nth l 4).toNat : Int) 32)) (b_shl .u64 ((nth l 5).toNat : Int) 40)) (b_shl .u64 ((nth l 6).toNat : Int) 48)) (b_shl .u64 ((nth l 7).toNat : Int) 56) = ((wrd l : Nat) : Int) := by
  have h0 := (nth l 0).toNat_lt; have h1 := (nth l 1).toNat_lt; have h2 := (nth l 2).toNat_lt; have h3 := (nth l 3).toNat_lt
  have h4 := (nth l 4).toNat_lt; have h5 := (nth l 5).toNat_lt; have h6 := (nth l 6).toNat_lt; have h7 := (nth l 7).toNat_lt
  have e1 : b_or .u64 (((nth l 0).toNat : Nat) : Int) (b_shl .u64 ((nth l 1).toNat : Int) 8) = (((nth l 0).toNat + (nth l 1).toNat * 256 : Nat) : Int) := or_sh (s := 8) 256 (by decide) (by decide) (by omega) h1
  have e2 : b_or .u64 (((nth l 0).toNat + (nth l 1).toNat * 256 : Nat) : Int) (b_shl .u64 ((nth l 2).toNat : Int) 16) = (((nth l 0).toNat + (nth l 1).toNat * 256 + (nth l 2).toNat * 65536 : Nat) : Int) := or_sh (s := 16) 65536 (by decide) (by decide) (by omega) h2
  have e3 : b_or .u64 (((nth l 0).toNat + (nth l 1).toNat * 256 + (nth l 2).toNat * 65536 : Nat) : Int) (b_shl .u64 ((nth l 3).toNat : Int) 24) = (((nth l 0).toNat + (nth l 1).toNat * 256 + (nth l 2).toNat * 65536 + (nth l 3).toNat * 16777216 : Nat) : Int) := or_sh (s := 24) 16777216 (by decide) (by decide) (by omega) h3
  have e4 : b_or .u64 (((nth l 0).toNat + (nth l 1).toNat * 256 + (nth l 2).toNat * 65536 + (nth l 3).toNat * 16777216 : Nat) : Int) (b_shl .u64 ((nth l 4).toNat : Int) 32) = (((nth l 0).toNat + (nth l 1).toNat * 256 + (nth l 2).toNat * 65536 + (nth l 3).toNat * 16777216 + (nth l 4).toNat * 4294967296 : Nat) : Int) := or_sh (s := 32) 4294967296 (by decide) (by decide) (by omega) h4
  have e5 : b_or .u64 (((nth l 0).toNat + (nth l 1).toNat * 256 + (nth l 2).toNat * 65536 + (nth l 3).toNat * 16777216 + (nth l 4).toNat * 4294967296 : Nat) : Int) (b_shl .u64 ((nth l 5).toNat : Int) 40) = (((nth l 0).toNat + (nth l 1).toNat * 256 + (nth l 2).toNat * 65536 + (nth l 3).toNat * 16777216 + (nth l 4).toNat * 4294967296 + (nth l 5).toNat * 1099511627776 : Nat) : Int) := or_sh (s := 40) 1099511627776 (by decide) (by decide) (by omega) h5
  have e6 : b_or .u64 (((nth l 0).toNat + (nth l 1).toNat * 256 + (nth l 2).toNat * 65536 + (nth l 3).toNat * 16777216 + (nth l 4).toNat * 4294967296 + (nth l 5).toNat * 1099511627776 : Nat) : Int) (b_shl .u64 ((nth l 6).toNat : Int) 48) = (((nth l 0).toNat + (nth l 1).toNat * 256 + (nth l 2).toNat * 65536 + (nth l 3).toNat * 16777216 + (nth l 4).toNat * 4294967296 + (nth l 5).toNat * 1099511627776 + (nth l 6).toNat * 281474976710656 : Nat) : Int) := or_sh (s := 48) 281474976710656 (by decide) (by decide) (by omega) h6
  have e7 : b_or .u64 (((nth l 0).toNat + (nth l 1).toNat * 256 + (nth l 2).toNat * 65536 + (nth l 3).toNat * 16777216 + (nth l 4).toNat * 4294967296 + (nth l 5).toNat * 1099511627776 + (nth l 6).toNat * 281474976710656 : Nat) : Int) (b_shl .u64 ((nth l 7).toNat : Int) 56) = (((nth l 0).toNat + (nth l 1).toNat * 256 + (nth l 2).toNat * 65536 + (nth l 3).toNat * 16777216 + (nth l 4).toNat * 4294967296 + (nth l 5).toNat * 1099511627776 + (nth l 6).toNat * 281474976710656 + (nth l 7).toNat * 72057594037927936 : Nat) : Int) := or_sh (s := 56) 72057594037927936 (by decide) (by decide) (by omega) h7
  rw [e1, e2, e3, e4, e5, e6, e7]
  rfl
theorem s_wordS (l : List UInt8) (h : 8 ≤ l.length) : PCalls Tryd.prog n_utf8_word_string [.str l] (.int .u64 (wrd l)) := by
  refine pfun_sound (ic := F_utf8_word_string.body) mixed c_utf8_word_string rfl rfl ?_
  simp only [F_utf8_word_string, go_sem, ↓reduceIte, Nat.reduceEqDiff, Nat.reduceLT, reduceCtorEq, Nat.reduceAdd, Nat.zero_add, decide_eq_true_eq, decide_eq_false_iff_not, Nat.reduceLeDiff, Nat.reduceBEq, Nat.reduceBNe, beq_self_eq_true, Int.reduceNeg, Int.reduceToNat, Nat.lt_add_one, c64]
  refine ⟨by omega, by omega, by omega, by omega, by omega, by omega, by omega, by omega, by omega, by omega, by omega, by omega, by omega, by omega, by omega, by omega, by omega, by omega, by omega, by omega, by omega, by omega, by omega, ?_⟩
  exact pdone [] (by simp only [go_sem, ↓reduceIte, Nat.reduceEqDiff, Nat.reduceLT, reduceCtorEq, Nat.reduceAdd, Nat.zero_add, decide_eq_true_eq, decide_eq_false_iff_not, Nat.reduceLeDiff, Nat.reduceBEq, Nat.reduceBNe, beq_self_eq_true, Int.reduceNeg, Int.reduceToNat, Nat.lt_add_one, wrd_or]) rfl
theorem s_wordB (l : List UInt8) (h : 8 ≤ l.length) : PCalls Tryd.prog n_utf8_word_byte [.sl 1 (l.map by_)] (.int .u64 (wrd l)) := by
  refine pfun_sound (ic := F_utf8_word_byte.body) mixed c_utf8_word_byte rfl rfl ?_
  simp only [F_utf8_word_byte, go_sem, ↓reduceIte, Nat.reduceEqDiff, Nat.reduceLT, reduceCtorEq, Nat.reduceAdd, Nat.zero_add, decide_eq_true_eq, decide_eq_false_iff_not, Nat.reduceLeDiff, Nat.reduceBEq, Nat.reduceBNe, beq_self_eq_true, Int.reduceNeg, Int.reduceToNat, Nat.lt_add_one, c64]
  refine ⟨by omega, by omega, by omega, by omega, by omega, by omega, by omega, by omega, by omega, by omega, by omega, by omega, by omega, by omega, by omega, by omega, by omega, by omega, by omega, by omega, by omega, by omega, by omega, ?_⟩
  exact pdone [] (by simp only [go_sem, ↓reduceIte, Nat.reduceEqDiff, Nat.reduceLT, reduceCtorEq, Nat.reduceAdd, Nat.zero_add, decide_eq_true_eq, decide_eq_false_iff_not, Nat.reduceLeDiff, Nat.reduceBEq, Nat.reduceBNe, beq_self_eq_true, Int.reduceNeg, Int.reduceToNat, Nat.lt_add_one, wrd_or]) rfl
end Go.Proofs.YtkejmhpodhbeeaaDoor
