/-
  Chapter 14,walks: the laws NamesecFinds,NamesecReads.
-/
import Derived.Test.YtoikbadfbneahaaGreatDoorQl
import Derived.Test.YtoikbadfbneahaaGreatDoorQj
set_option linter.unusedVariables false
set_option linter.unusedSimpArgs false
set_option linter.unusedSectionVars false
set_option maxRecDepth 100000
set_option maxHeartbeats 40000000
set_option linter.unusedVariables false
set_option linter.unusedSimpArgs false
namespace Go.Proofs.YtoikbadfbneahaaGreatDoor
open Go Go.Mw
-- @U: List.length_map

theorem gtN_len {b:List UInt8}:∀ {k:Nat} {a:Nat} {e:Int} {out:List Nm},(gt k b a e out).1.length ≤ out.length + k
  | 0,_,_,out=>Nat.le_refl _
  | k + 1,a,e,out=>by
    rw [gt]
    split
    · simp only; omega
    · refine Nat.le_trans gtN_len ?_
      simp only [List.length_append,List.length_singleton]; omega
theorem gtN_ln (b:List UInt8) (a:Nat) (e most:Int):(gtN b a e most).1.length ≤ 4294967296:=by
  have h:=gtN_len (b:=b) (k:=(rCount (e == 0) b a e most).1) (a:=(rCount (e == 0) b a e most).2.1) (e:=(rCount (e == 0) b a e most).2.2) (out:=[])
  have:=rCount_lt (e == 0) b a e most
  simp only [List.length_nil,Nat.zero_add] at h
  unfold gtN
  omega
theorem gc_ln {b:List UInt8}:∀ {k:Nat} {a:Nat} {e:Int} {out:List Lc},(∀ x ∈ out,x.l.length ≤ 4294967296) → (gc k b a e out).1.length ≤ out.length + k ∧ ∀ x ∈ (gc k b a e out).1,x.l.length ≤ 4294967296
  | 0,_,_,out,h=>⟨Nat.le_refl _,h⟩
  | k + 1,a,e,out,h=>by
    rw [gc]
    split
    · exact ⟨by simp only; omega,h⟩
    · have h2:=gc_ln (b:=b) (k:=k) (a:=(gtN b (rU true 32 b a 0).2.1 (gcE out (rU true 32 b a 0).1 (rU true 32 b a 0).2.2) 72).2.1) (e:=(gtN b (rU true 32 b a 0).2.1 (gcE out (rU true 32 b a 0).1 (rU true 32 b a 0).2.2) 72).2.2)
        (out:=out ++ [⟨(rU true 32 b a 0).1,(gtN b (rU true 32 b a 0).2.1 (gcE out (rU true 32 b a 0).1 (rU true 32 b a 0).2.2) 72).1⟩]) (fun x hx=>by
          rcases List.mem_append.1 hx with hx | hx
          · exact h x hx
          · simp only [List.mem_singleton] at hx
            subst hx
            exact gtN_ln _ _ _ _)
      refine ⟨Nat.le_trans h2.1 (by simp only [List.length_append,List.length_singleton]; omega),h2.2⟩
theorem prtN_ln {n:Ns} (h:lnN n) (id:Nat) (x:List UInt8) (e:Int):lnN (prtN n id x e).1:=by
  unfold prtN
  split
  · exact h
  · split
    · exact ⟨Nat.le_trans (gtN_ln _ _ _ _) (by decide),h.2⟩
    · have h2:=gc_ln (b:=x) (k:=(rCount (e == 0) x 0 e 64).1) (a:=(rCount (e == 0) x 0 e 64).2.1) (e:=(rCount (e == 0) x 0 e 64).2.2) (out:=[]) (fun x hx=>by cases hx)
      have:=rCount_lt (e == 0) x 0 e 64
      refine ⟨h.1,?_,fun y hy=>Nat.le_trans (h2.2 y hy) (by decide)⟩
      have h3:=h2.1
      simp only [List.length_nil,Nat.zero_add] at h3
      show (gcN x 0 e).1.length ≤ _
      unfold gcN
      omega
theorem lnN_0:lnN default:=⟨by decide,by decide,fun x h=>by cases h⟩
theorem dcA_ln:∀ (f:Nat) {b:List UInt8} {a:Nat} {l:Int} {n:Ns},lnN n → lnN (dcA f b a l n).1
  | 0,_,_,_,_,h=>h
  | f + 1,b,a,l,n,h=>by
    rw [dcA]
    repeat' split
    · exact h
    · exact lnN_0
    · exact lnN_0
    · exact lnN_0
    · exact dcA_ln f (prtN_ln h _ _ _)
theorem decA_ln (b:List UInt8):lnN (decA b).1:=dcA_ln _ lnN_0
end Go.Proofs.YtoikbadfbneahaaGreatDoor
