/-
  Chapter 14,walks: the reference's UTF-8; what it checks of names.
-/
import Derived.Test.YtoaagdbbbojpmaaGreatDoorQh
import Derived.Test.YtoaagdbbbojpmaaGreatDoorQg
set_option linter.unusedVariables false
set_option linter.unusedSimpArgs false
set_option linter.unusedSectionVars false
set_option maxRecDepth 100000
set_option maxHeartbeats 40000000
set_option linter.unusedVariables false
set_option linter.unusedSimpArgs false
namespace Go.Proofs.YtoaagdbbbojpmaaGreatDoor
open Go Go.Mw
-- @U: List.length_map

end Go.Proofs.YtoaagdbbbojpmaaGreatDoor
set_option maxRecDepth 100000
set_option maxHeartbeats 20000000
set_option linter.unusedVariables false
set_option linter.unusedSimpArgs false
namespace Go.Proofs.YtoaagdbbbojpmaaGreatDoor
open Go Go.Mw
-- @U: List.length_map

end Go.Proofs.YtoaagdbbbojpmaaGreatDoor
set_option maxRecDepth 100000
set_option maxHeartbeats 40000000
set_option linter.unusedVariables false
set_option linter.unusedSimpArgs false
namespace Go.Proofs.YtoaagdbbbojpmaaGreatDoor
open Go Go.Mw
-- @U: List.length_map,mdC_e,ftC_e,imC_e,tbC_e,lmC_e,cdC_e,exC_e,elC_e,daC_e,cuC_e,inL_e,fa_,faO

end Go.Proofs.YtoaagdbbbojpmaaGreatDoor
set_option maxRecDepth 100000
set_option maxHeartbeats 40000000
set_option linter.unusedVariables false
set_option linter.unusedSimpArgs false
namespace Go.Proofs.YtoaagdbbbojpmaaGreatDoor
open Go Go.Mw
-- @U: List.length_map,mdC_e,ftC_e,imC_e,tbC_e,lmC_e,cdC_e,exC_e,elC_e,daC_e,cuC_e,inL_e,fa_,faO

def exF (m:Md):Fa:=gr (fun i x=>atF 7 i (exE x)) 0 m.exs (lgF 7 m.exs.length 64)
end Go.Proofs.YtoaagdbbbojpmaaGreatDoor
set_option maxRecDepth 100000
set_option maxHeartbeats 40000000
set_option linter.unusedVariables false
set_option linter.unusedSimpArgs false
namespace Go.Proofs.YtoaagdbbbojpmaaGreatDoor
open Go Go.Mw
-- @U: List.length_map,mdC_e,ftC_e,imC_e,tbC_e,lmC_e,cdC_e,exC_e,elC_e,daC_e,cuC_e,inL_e,fa_,faO

def csF (m:Md):Fa:=gr (fun i x=>atF 11 i (cuE x)) 0 m.cs (lgF 11 m.cs.length 8)
end Go.Proofs.YtoaagdbbbojpmaaGreatDoor
set_option maxRecDepth 100000
set_option maxHeartbeats 40000000
set_option linter.unusedVariables false
set_option linter.unusedSimpArgs false
namespace Go.Proofs.YtoaagdbbbojpmaaGreatDoor
open Go Go.Mw
-- @U: List.length_map,mdC_e,ftC_e,imC_e,tbC_e,lmC_e,cdC_e,exC_e,elC_e,daC_e,cuC_e,inL_e,fa_,faO

end Go.Proofs.YtoaagdbbbojpmaaGreatDoor
set_option maxRecDepth 100000
set_option maxHeartbeats 40000000
set_option linter.unusedVariables false
set_option linter.unusedSimpArgs false
namespace Go.Proofs.YtoaagdbbbojpmaaGreatDoor
open Go Go.Mw
-- @U: List.length_map,mdC_e,ftC_e,imC_e,tbC_e,lmC_e,cdC_e,exC_e,elC_e,daC_e,cuC_e,inL_e,fa_,faO

def imF (m:Md):Fa:=gr (fun i x=>atF 2 i (imE x)) 0 m.ims (lgF 2 m.ims.length 32)
end Go.Proofs.YtoaagdbbbojpmaaGreatDoor
set_option maxRecDepth 100000
set_option maxHeartbeats 40000000
set_option linter.unusedVariables false
set_option linter.unusedSimpArgs false
namespace Go.Proofs.YtoaagdbbbojpmaaGreatDoor
open Go Go.Mw
-- @U: List.length_map,mdC_e,ftC_e,imC_e,tbC_e,lmC_e,cdC_e,exC_e,elC_e,daC_e,cuC_e,inL_e,fa_,faO

def daR (P:Ins → Bool) (i:Nat) (x:Da):Fa:=if x.mo ≠ 0 ∧ (x.mo ≠ 1 ∨ x.me ≠ 0 ∨ x.o.length > 0) then atF 10 i 1 else if inR x.me = false then atF 10 i 11 else if x.b.length > 4096 then atF 10 i 6 else rwF P 10 i x.o
def dsF (P:Ins → Bool) (m:Md):Fa:=gr (daR P) 0 m.ds (lgF 10 m.ds.length 16)
end Go.Proofs.YtoaagdbbbojpmaaGreatDoor
set_option maxRecDepth 100000
set_option maxHeartbeats 40000000
set_option linter.unusedVariables false
set_option linter.unusedSimpArgs false
namespace Go.Proofs.YtoaagdbbbojpmaaGreatDoor
open Go Go.Mw
-- @U: List.length_map,mdC_e,ftC_e,imC_e,tbC_e,lmC_e,cdC_e,exC_e,elC_e,daC_e,cuC_e,inL_e,fa_,faO

def boF (P:Ins → Bool) (m:Md):Fa:=gr (fun i x=>rwF P 12 i x.b) 0 m.fs (lm0)
end Go.Proofs.YtoaagdbbbojpmaaGreatDoor
set_option maxRecDepth 100000
set_option maxHeartbeats 40000000
set_option linter.unusedVariables false
set_option linter.unusedSimpArgs false
namespace Go.Proofs.YtoaagdbbbojpmaaGreatDoor
open Go Go.Mw
-- @U: List.length_map,mdC_e,ftC_e,imC_e,tbC_e,lmC_e,cdC_e,exC_e,elC_e,daC_e,cuC_e,inL_e,fa_,faO

def elB (x:El):Int:=if x.mo < 0 ∨ x.mo > 2 ∨ (x.mo ≠ 0 ∧ (x.tb ≠ 0 ∨ x.o.length > 0)) then 1 else if inR x.tb = false then 11 else if rfB x.ty = false then 12 else if x.it.length > 256 then 6 else 0
def elR (P:Ins → Bool) (i:Nat) (x:El):Fa:=gr (fun _ l=>rwF P 9 i l) 0 x.it (if elB x = 0 then rwF P 9 i x.o else atF 9 i (elB x))
end Go.Proofs.YtoaagdbbbojpmaaGreatDoor
set_option maxRecDepth 100000
set_option maxHeartbeats 40000000
set_option linter.unusedVariables false
set_option linter.unusedSimpArgs false
namespace Go.Proofs.YtoaagdbbbojpmaaGreatDoor
open Go Go.Mw
-- @U: elO,List.length_map,mdC_e,ftC_e,imC_e,tbC_e,lmC_e,cdC_e,exC_e,elC_e,daC_e,cuC_e,inL_e,fa_,faO

def elF (P:Ins → Bool) (m:Md):Fa:=gr (elR P) 0 m.els (lgF 9 m.els.length 16)
end Go.Proofs.YtoaagdbbbojpmaaGreatDoor
set_option maxRecDepth 100000
set_option maxHeartbeats 4000000
set_option linter.unusedVariables false
set_option linter.unusedSimpArgs false
namespace Go.Proofs.YtoaagdbbbojpmaaGreatDoor
open Go Go.Mw

theorem fail_lm0 (n i l e:Int):failA lm0 n i l e = if e = 0 then lm0 else ⟨n,i,l,e⟩:=by
  unfold failA
  by_cases h:e = 0
  · rw [if_pos h,if_neg (fun q=>q.2 h)]
  · rw [if_neg h,if_pos ⟨rfl,h⟩]
theorem fail_ft (n i l e:Int):(failA lm0 n i l e).c = 0 → failA lm0 n i l e = lm0:=by
  rw [fail_lm0]
  split
  · exact fun _=>rfl
  · rename_i h; exact fun q=>absurd q h
theorem go_gr {α:Type} {n:Int} {f:α → Int × Int} {g:Nat → α → Fa} (hg:∀ (i:Nat) (x:α),failA lm0 n i (f x).1 (f x).2 = g i x):∀ (l:List α) (i:Nat) (F:Fa),(F.c = 0 → F = lm0) → goA n i (l.map f) F = gr g i l F ∧ ((gr g i l F).c = 0 → gr g i l F = lm0)
  | [],i,F,h=>⟨rfl,h⟩
  | x :: l,i,F,h=>by
    rw [List.map_cons,goA,gr]
    by_cases hF:F.c = 0
    · rw [if_neg (by simp [hF]),if_neg (by simp [hF]),h hF,hg]
      exact go_gr hg l (i + 1) _ (by rw [← hg]; exact fail_ft _ _ _ _)
    · rw [if_pos hF,if_pos hF]; exact ⟨rfl,h⟩
def fsF (E X:Fa):Fa:=if E.c ≠ 0 then E else X
theorem fsF_assoc (a b c:Fa):fsF (fsF a b) c = fsF a (fsF b c):=by
  unfold fsF
  by_cases h:a.c = 0 <;> simp [h]
theorem fsF_ft {a b:Fa} (ha:a.c = 0 → a = lm0) (hb:b.c = 0 → b = lm0):(fsF a b).c = 0 → fsF a b = lm0:=by
  unfold fsF
  by_cases h:a.c = 0
  · rw [if_neg (by simp [h])]; exact hb
  · rw [if_pos h]; exact ha
theorem part_gr {α:Type} {n most imp:Int} {f:α → Int × Int} {g:Nat → α → Fa} (hg:∀ (i:Nat) (x:α),failA lm0 n i (f x).1 (f x).2 = g i x) (l:List α) (h1:0 ≤ imp ∧ imp ≤ 1048576) (h3:l.length ≤ 1048576) (h4:0 ≤ most ∧ most ≤ 1048576) (E:Fa) (hE:E.c = 0 → E = lm0) :
    partA n most imp (l.map f) E = fsF E (gr g 0 l (lgF n l.length (most - imp))) ∧ ((gr g 0 l (lgF n l.length (most - imp))).c = 0 → gr g 0 l (lgF n l.length (most - imp)) = lm0):=by
  have z:=go_gr hg l 0 (lgF n l.length (most - imp)) lg_0
  refine ⟨?_,z.2⟩
  unfold partA
  rw [List.length_map,wi (by omega) (by omega),wi (by omega) (by omega)]
  unfold fsF
  by_cases h:E.c = 0
  · rw [if_neg (show ¬ E.c ≠ 0 by simp [h]),hE h,← z.1]
    congr 1
    unfold lgF
    by_cases q:(l.length:Int) + imp > most
    · rw [if_pos q,if_pos (show (l.length:Int) > most - imp by omega),fail_lm0,if_neg (by decide)]
      congr 1
      by_cases w:0 < most - imp
      · rw [if_pos w,if_neg (by omega)]
      · rw [if_neg w]
        by_cases w2:most - imp < 0
        · rw [if_pos w2]
        · rw [if_neg w2]; omega
    · rw [if_neg q,if_neg (show ¬ (l.length:Int) > most - imp by omega)]
  · rw [if_pos h,show (if (l.length:Int) + imp > most then failA E n (if 0 < most - imp then most - imp else 0) 0 6 else E) = E by
      split
      · unfold failA; rw [if_neg (fun q=>h q.1)]
      · rfl]
    exact goA_no E h
theorem at_fail (n:Int) (i:Nat) (e:Int):failA lm0 n i 0 e = atF n i e:=by rw [fail_lm0]; rfl
theorem rw_fail (P:Ins → Bool) (n:Int) (i:Nat) (l:List Ins):failA lm0 n i (rowE P l).1 (rowE P l).2 = rwF P n i l:=by rw [fail_lm0]; rfl
theorem gd_item (P:Ins → Bool) (i:Nat) (x:Gd):failA lm0 6 i (gdE P x).1 (gdE P x).2 = if vlB x.g.v = false then atF 6 i 12 else rwF P 6 i x.i:=by
  unfold gdE glE
  cases v:vlB x.g.v
  · rw [if_pos rfl,if_pos (by decide),if_pos rfl]; exact at_fail 6 i 12
  · rw [if_neg (by decide),if_neg (by decide)]; exact rw_fail P 6 i x.i
theorem da_item (P:Ins → Bool) (i:Nat) (x:Da):failA lm0 10 i (daE P x).1 (daE P x).2 = daR P i x:=by
  unfold daE daR
  split
  · exact at_fail 10 i 1
  split
  · exact at_fail 10 i 11
  split
  · exact at_fail 10 i 6
  · exact rw_fail P 10 i x.o
theorem rows_gr (P:Ins → Bool) (i:Nat):∀ (l:List (List Ins)) (j:Nat) (F:Fa),(F.c = 0 → F = lm0) → gr (fun _ r=>rwF P 9 i r) j l F = fsF F (failA lm0 9 i (rowsF P l).1 (rowsF P l).2)
  | [],j,F,h=>by
    rw [gr]
    unfold fsF
    by_cases q:F.c = 0
    · rw [if_neg (by simp [q]),h q]; rfl
    · rw [if_pos q]
  | x :: l,j,F,h=>by
    rw [gr]
    unfold fsF
    by_cases q:F.c = 0
    · rw [if_neg (by simp [q]),if_neg (by simp [q]),rows_gr P i l (j + 1) _ (by rw [← rw_fail]; exact fail_ft _ _ _ _)]
      rw [rowsF]
      unfold fsF
      rw [← rw_fail,fail_lm0]
      by_cases w:(rowE P x).2 = 0
      · rw [if_pos w,if_neg (show ¬ lm0.c ≠ 0 by decide),if_neg (by simp [w])]
      · rw [if_neg w,if_pos (show (⟨9,(i:Int),(rowE P x).1,(rowE P x).2⟩:Fa).c ≠ 0 from w),if_pos w,fail_lm0,if_neg w]
    · rw [if_pos q,if_pos q]
theorem el_item (P:Ins → Bool) (i:Nat) (x:El):failA lm0 9 i (elE P x).1 (elE P x).2 = elR P i x:=by
  unfold elE elR elB
  split
  · rw [if_neg (by decide),rows_gr P i _ _ _ at_0,at_fail]; rfl
  split
  · rw [if_neg (by decide),rows_gr P i _ _ _ at_0,at_fail]; rfl
  split
  · rw [if_neg (by decide),rows_gr P i _ _ _ at_0,at_fail]; rfl
  split
  · rw [if_neg (by decide),rows_gr P i _ _ _ at_0,at_fail]; rfl
  · rw [if_pos rfl,rows_gr P i _ _ _ (by rw [← rw_fail]; exact fail_ft _ _ _ _),rowsF]
    unfold fsF
    rw [← rw_fail]
    by_cases w:(rowE P x.o).2 = 0
    · rw [if_neg (show ¬ (rowE P x.o).2 ≠ 0 by simp [w]),fail_lm0 9 i (rowE P x.o).1 (rowE P x.o).2,if_pos w,if_neg (show ¬ lm0.c ≠ 0 by decide)]
    · rw [if_pos w,if_pos (show (failA lm0 9 i (rowE P x.o).1 (rowE P x.o).2).c ≠ 0 by rw [fail_lm0,if_neg w]; exact w)]
def fstF:List Fa → Fa
  | []=>lm0
  | F :: r=>if F.c ≠ 0 then F else fstF r
theorem fst_fsF (F:Fa) (r:List Fa):fstF (F :: r) = fsF F (fstF r):=rfl
def refA (P:Ins → Bool) (m:Md):Fa:=fstF [tyF m,imF m,cdF m,tbF m,mmF m,gdF P m,exF m,stF m,elF P m,dsF P m,csF m,boF P m]
theorem lim_eq (P:Ins → Bool) (m:Md) (h:smM m):limA P m = refA P m:=by
  have hc:∀ k,(0:Int) ≤ (cnI k m.ims:Nat) ∧ ((cnI k m.ims:Nat):Int) ≤ 1048576:=fun k=>⟨by omega,by have:=Nat.le_trans (cnI_le k m.ims) h.ims; omega⟩
  have z0:(0:Int) ≤ 0 ∧ (0:Int) ≤ 1048576:=by decide
  have ft0:lm0.c = 0 → lm0 = lm0:=fun _=>rfl
  obtain ⟨e1,t1⟩:=part_gr (n:=1) (most:=64) (imp:=0) (g:=fun i x=>atF 1 i (fnE x)) (f:=fun x=>(0,fnE x)) (fun i x=>at_fail 1 i _) m.ts z0 h.ts.1 (by decide) lm0 ft0
  have e1':lm1 m = tyF m:=e1
  have t1':(lm1 m).c = 0 → lm1 m = lm0:=by rw [e1']; exact t1
  obtain ⟨e2,t2⟩:=part_gr (n:=2) (most:=32) (imp:=0) (g:=fun i x=>atF 2 i (imE x)) (f:=fun x=>(0,imE x)) (fun i x=>at_fail 2 i _) m.ims z0 h.ims (by decide) (lm1 m) t1'
  have e2':lm2 m = fsF (lm1 m) (imF m):=e2
  have t2':=fsF_ft t1' t2
  rw [show fsF (lm1 m) _ = lm2 m from e2.symm] at t2'
  obtain ⟨e3,t3⟩:=part_gr (n:=3) (most:=64) (g:=fun i x=>atF 3 i (cdE x)) (f:=fun x=>(0,cdE x)) (fun i x=>at_fail 3 i _) m.fs (hc 0) h.fs.1 (by decide) (lm2 m) t2'
  have e3':lm3 m = fsF (lm2 m) (cdF m):=e3
  have t3':=fsF_ft t2' t3
  rw [show fsF (lm2 m) _ = lm3 m from e3.symm] at t3'
  obtain ⟨e4,t4⟩:=part_gr (n:=4) (most:=4) (g:=fun i x=>atF 4 i (tbE x)) (f:=fun x=>(0,tbE x)) (fun i x=>at_fail 4 i _) m.tbs (hc 1) h.tbs (by decide) (lm3 m) t3'
  have e4':lm4 m = fsF (lm3 m) (tbF m):=e4
  have t4':=fsF_ft t3' t4
  rw [show fsF (lm3 m) _ = lm4 m from e4.symm] at t4'
  obtain ⟨e5,t5⟩:=part_gr (n:=5) (most:=2) (g:=fun i x=>atF 5 i (mmE x)) (f:=fun x=>(0,mmE x)) (fun i x=>at_fail 5 i _) m.ms (hc 2) h.ms (by decide) (lm4 m) t4'
  have e5':lm5 m = fsF (lm4 m) (mmF m):=e5
  have t5':=fsF_ft t4' t5
  rw [show fsF (lm4 m) _ = lm5 m from e5.symm] at t5'
  obtain ⟨e6,t6⟩:=part_gr (n:=6) (most:=32) (g:=fun i x=>if vlB x.g.v = false then atF 6 i 12 else rwF P 6 i x.i) (f:=gdE P) (gd_item P) m.gs (hc 3) h.gs.1 (by decide) (lm5 m) t5'
  have e6':lm6 P m = fsF (lm5 m) (gdF P m):=e6
  have t6':=fsF_ft t5' t6
  rw [show fsF (lm5 m) _ = lm6 P m from e6.symm] at t6'
  obtain ⟨e7,t7⟩:=part_gr (n:=7) (most:=64) (imp:=0) (g:=fun i x=>atF 7 i (exE x)) (f:=fun x=>(0,exE x)) (fun i x=>at_fail 7 i _) m.exs z0 h.exs (by decide) (lm6 P m) t6'
  have e7':lm7 P m = fsF (lm6 P m) (exF m):=e7
  have t7':=fsF_ft t6' t7
  rw [show fsF (lm6 P m) _ = lm7 P m from e7.symm] at t7'
  have e8':lm8 P m = fsF (lm7 P m) (stF m):=by
    unfold lm8 stF fsF
    by_cases q:(lm7 P m).c = 0
    · rw [if_neg (show ¬ (lm7 P m).c ≠ 0 by simp [q])]
      split
      · rw [t7' q]; exact at_fail 8 0 11
      · exact t7' q
    · rw [if_pos q]
      split
      · unfold failA; rw [if_neg (fun w=>q w.1)]
      · rfl
  have t8':(lm8 P m).c = 0 → lm8 P m = lm0:=by
    rw [e8']
    refine fsF_ft t7' ?_
    unfold stF
    split
    · exact at_0
    · exact ft0
  obtain ⟨e9,t9⟩:=part_gr (n:=9) (most:=16) (imp:=0) (g:=elR P) (f:=elE P) (el_item P) m.els z0 h.els.1 (by decide) (lm8 P m) t8'
  have e9':lm9 P m = fsF (lm8 P m) (elF P m):=e9
  have t9':=fsF_ft t8' t9
  rw [show fsF (lm8 P m) _ = lm9 P m from e9.symm] at t9'
  obtain ⟨e10,t10⟩:=part_gr (n:=10) (most:=16) (imp:=0) (g:=daR P) (f:=daE P) (da_item P) m.ds z0 h.ds.1 (by decide) (lm9 P m) t9'
  have e10':lm10 P m = fsF (lm9 P m) (dsF P m):=e10
  have t10':=fsF_ft t9' t10
  rw [show fsF (lm9 P m) _ = lm10 P m from e10.symm] at t10'
  obtain ⟨e11,t11⟩:=part_gr (n:=11) (most:=8) (imp:=0) (g:=fun i x=>atF 11 i (cuE x)) (f:=fun x=>(0,cuE x)) (fun i x=>at_fail 11 i _) m.cs z0 h.cs.1 (by decide) (lm10 P m) t10'
  have e11':lm11 P m = fsF (lm10 P m) (csF m):=e11
  have t11':=fsF_ft t10' t11
  rw [show fsF (lm10 P m) _ = lm11 P m from e11.symm] at t11'
  have hfl:=h.fs.1
  obtain ⟨e12,t12⟩:=part_gr (n:=12) (most:=(m.fs.length:Int)) (imp:=0) (g:=fun i x=>rwF P 12 i x.b) (f:=fun x=>rowE P x.b) (fun i x=>rw_fail P 12 i x.b) m.fs z0 h.fs.1 (by omega) (lm11 P m) t11'
  rw [show lgF 12 m.fs.length ((m.fs.length:Int) - 0) = lm0 by unfold lgF; rw [if_neg (by omega)]] at e12 t12
  have e12':limA P m = fsF (lm11 P m) (boF P m):=by
    unfold limA
    by_cases q:(lm11 P m).c = 0
    · rw [if_pos q]; exact e12
    · rw [if_neg q]; unfold fsF; rw [if_pos q]
  have t12':fsF (boF P m) lm0 = boF P m:=by
    unfold fsF
    by_cases q:(boF P m).c = 0
    · rw [if_neg (by simp [q])]; exact (t12 q).symm
    · rw [if_pos q]
  rw [e12',e11',e10',e9',e8',e7',e6',e5',e4',e3',e2',e1']
  unfold refA
  simp only [fst_fsF,fsF_assoc]
  rw [show fstF [] = lm0 from rfl,t12']
end Go.Proofs.YtoaagdbbbojpmaaGreatDoor
set_option maxRecDepth 100000
set_option maxHeartbeats 40000000
set_option linter.unusedVariables false
set_option linter.unusedSimpArgs false
namespace Go.Proofs.YtoaagdbbbojpmaaGreatDoor
open Go Go.Mw
-- @U: List.length_map,mdC_e,fa_,faO,faR_e

instance:Inhabited Fa:=⟨lm0⟩
end Go.Proofs.YtoaagdbbbojpmaaGreatDoor
set_option maxRecDepth 100000
set_option maxHeartbeats 20000000
set_option linter.unusedVariables false
set_option linter.unusedSimpArgs false
namespace Go.Proofs.YtoaagdbbbojpmaaGreatDoor
open Go Go.Mw
-- @U: List.length_map

end Go.Proofs.YtoaagdbbbojpmaaGreatDoor
set_option maxRecDepth 100000
set_option maxHeartbeats 40000000
set_option linter.unusedVariables false
set_option linter.unusedSimpArgs false
namespace Go.Proofs.YtoaagdbbbojpmaaGreatDoor
open Go Go.Mw
-- @U: List.length_map,mdC_e

end Go.Proofs.YtoaagdbbbojpmaaGreatDoor
set_option maxRecDepth 100000
set_option maxHeartbeats 40000000
set_option linter.unusedVariables false
set_option linter.unusedSimpArgs false
namespace Go.Proofs.YtoaagdbbbojpmaaGreatDoor
open Go Go.Mw
-- @U: List.length_map,mdC_e

end Go.Proofs.YtoaagdbbbojpmaaGreatDoor
set_option maxRecDepth 100000
set_option linter.unusedVariables false
set_option linter.unusedSimpArgs false
namespace Go.Proofs.YtoaagdbbbojpmaaGreatDoor
open Go Go.Mw

theorem fst_z:∀ l:List Fa,fstF l = lm0 ↔ ∀ F ∈ l,F.c = 0
  | []=>by simp [fstF]
  | F :: r=>by
    rw [fstF,List.forall_mem_cons,← fst_z r]
    by_cases h:F.c = 0
    · rw [if_neg (by simp [h])]
      exact ⟨fun q=>⟨h,q⟩,fun q=>q.2⟩
    · rw [if_pos h]
      exact ⟨fun q=>absurd (by rw [q]; rfl) h,fun q=>absurd q.1 h⟩
theorem gr_z {α:Type} [Inhabited α] {g:Nat → α → Fa}:∀ (l:List α) (i:Nat) (F:Fa),(gr g i l F).c = 0 ↔ F.c = 0 ∧ ∀ k,k < l.length → (g (i + k) (nth l k)).c = 0
  | [],i,F=>by simp [gr]
  | x :: l,i,F=>by
    rw [gr]
    by_cases h:F.c = 0
    · rw [if_neg (by simp [h]),gr_z l (i + 1) (g i x)]
      constructor
      · rintro ⟨h1,h2⟩
        refine ⟨h,fun k hk=>?_⟩
        cases k with
        | zero=>exact h1
        | succ k=>have:=h2 k (by simpa using hk); rw [show i + (k + 1) = i + 1 + k by omega]; exact this
      · rintro ⟨_,h2⟩
        exact ⟨h2 0 (by simp),fun k hk=>by have:=h2 (k + 1) (by simpa using hk); rw [show i + (k + 1) = i + 1 + k by omega] at this; exact this⟩
    · rw [if_pos h]
      exact ⟨fun q=>absurd q h,fun q=>absurd q.1 h⟩
theorem nth_tkl {α:Type} [Inhabited α] {l:List α} {n k:Nat} (h:k < (l.take n).length):nth (l.take n) k = nth l k:=by
  have h2:k < l.length:=by rw [List.length_take] at h; omega
  rw [nth_eq h,nth_eq h2,List.getElem_take]
theorem take_z {α:Type} [Inhabited α] {g:Nat → α → Fa} {p most:Int} {l:List α} (n:Nat) (h:(gr g 0 l (lgF p l.length most)).c = 0):(gr g 0 (l.take n) (lgF p (l.take n).length most)).c = 0:=by
  rw [gr_z] at h ⊢
  refine ⟨?_,fun k hk=>?_⟩
  · have h1:=h.1
    unfold lgF at h1 ⊢
    by_cases q:(l.length:Int) > most
    · rw [if_pos q] at h1; cases h1
    · rw [if_neg (by rw [List.length_take]; omega)]; rfl
  · rw [nth_tkl hk]
    exact h.2 k (by rw [List.length_take] at hk; omega)
theorem rowF_z {P:Ins → Bool}:∀ (l:List Ins) (i:Nat),(rowF P i l).2 = 0 → ∀ x ∈ l,P x = true
  | [],i,h,x,hx=>by cases hx
  | y :: l,i,h,x,hx=>by
    rw [rowF] at h
    by_cases q:P y = false
    · rw [if_pos q] at h; cases h
    rw [if_neg q] at h
    by_cases q2:y.lb.length > 64
    · rw [if_pos q2] at h; cases h
    rw [if_neg q2] at h
    rcases List.mem_cons.1 hx with rfl | hx
    · simpa using q
    · exact rowF_z l (i + 1) h x hx
theorem rw_z {P:Ins → Bool} {p i:Int} {l:List Ins} (h:(rwF P p i l).c = 0):∀ x ∈ l,P x = true:=by
  unfold rwF at h
  by_cases q:(rowE P l).2 = 0
  · unfold rowE at q
    by_cases q2:l.length > 2048
    · rw [if_pos q2] at q; cases q
    · rw [if_neg q2] at q; exact rowF_z l 0 q
  · rw [if_neg q] at h; exact absurd h q
def fewer (m:Md) (a b c:Nat):Md:={ m with exs:=m.exs.take a,ds:=m.ds.take b,cs:=m.cs.take c }
theorem few_lim {P:Ins → Bool} {m:Md} (hm:smM m) (h:limA P m = lm0) (a b c:Nat) (hn:smM (fewer m a b c)):limA P (fewer m a b c) = lm0:=by
  rw [lim_eq P m hm] at h
  rw [lim_eq P _ hn]
  unfold refA at h ⊢
  rw [fst_z] at h ⊢
  simp only [List.forall_mem_cons] at h ⊢
  obtain ⟨h1,h2,h3,h4,h5,h6,h7,h8,h9,h10,h11,h12,h13⟩:=h
  exact ⟨h1,h2,h3,h4,h5,h6,take_z a h7,h8,h9,take_z b h10,take_z c h11,h12,h13⟩
theorem plain_lim {P:Ins → Bool} {m:Md} (hm:smM m) (h:limA P m = lm0) {i k:Nat} (hi:i < m.fs.length) (hk:k < (nth m.fs i).b.length):P (nth (nth m.fs i).b k) = true:=by
  rw [lim_eq P m hm] at h
  unfold refA at h
  rw [fst_z] at h
  have hb:=h (boF P m) (by simp)
  unfold boF at hb
  rw [gr_z] at hb
  have:=hb.2 i hi
  exact rw_z this _ (by rw [nth_eq hk]; exact List.getElem_mem hk)
end Go.Proofs.YtoaagdbbbojpmaaGreatDoor
