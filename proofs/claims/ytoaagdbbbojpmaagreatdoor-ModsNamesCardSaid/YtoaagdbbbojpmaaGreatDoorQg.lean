/-
  Chapter 7,walks: the program's Limits.
-/
import Derived.Test.YtoaagdbbbojpmaaGreatDoorQf
import Derived.Test.YtoaagdbbbojpmaaGreatDoorQe
set_option linter.unusedVariables false
set_option linter.unusedSimpArgs false
set_option linter.unusedSectionVars false
set_option maxRecDepth 100000
set_option maxHeartbeats 40000000
set_option linter.unusedVariables false
set_option linter.unusedSimpArgs false
namespace Go.Proofs.YtoaagdbbbojpmaaGreatDoor
open Go Go.Mw
-- @U: List.length_map,mdC_e,imC_e,ck,ctO

def lm0:Fa:=⟨0,0,0,0⟩
def lm1 (m:Md):Fa:=partA 1 64 0 (m.ts.map (fun x=>(0,fnE x))) lm0
def lm2 (m:Md):Fa:=partA 2 32 0 (m.ims.map (fun x=>(0,imE x))) (lm1 m)
def lm3 (m:Md):Fa:=partA 3 64 (cnI 0 m.ims:Nat) (m.fs.map (fun x=>(0,cdE x))) (lm2 m)
def lm4 (m:Md):Fa:=partA 4 4 (cnI 1 m.ims:Nat) (m.tbs.map (fun x=>(0,tbE x))) (lm3 m)
def lm5 (m:Md):Fa:=partA 5 2 (cnI 2 m.ims:Nat) (m.ms.map (fun x=>(0,mmE x))) (lm4 m)
def lm6 (P:Ins → Bool) (m:Md):Fa:=partA 6 32 (cnI 3 m.ims:Nat) (m.gs.map (gdE P)) (lm5 m)
def lm7 (P:Ins → Bool) (m:Md):Fa:=partA 7 64 0 (m.exs.map (fun x=>(0,exE x))) (lm6 P m)
def lm8 (P:Ins → Bool) (m:Md):Fa:=if m.hs = true ∧ inR m.st = false then failA (lm7 P m) 8 0 0 11 else lm7 P m
def lm9 (P:Ins → Bool) (m:Md):Fa:=partA 9 16 0 (m.els.map (elE P)) (lm8 P m)
def lm10 (P:Ins → Bool) (m:Md):Fa:=partA 10 16 0 (m.ds.map (daE P)) (lm9 P m)
def lm11 (P:Ins → Bool) (m:Md):Fa:=partA 11 8 0 (m.cs.map (fun x=>(0,cuE x))) (lm10 P m)
def limA (P:Ins → Bool) (m:Md):Fa:=if (lm11 P m).c = 0 then partA 12 (m.fs.length:Int) 0 (m.fs.map (fun x=>rowE P x.b)) (lm11 P m) else lm11 P m
attribute [local go_sem] List.length_map mdC_e imC_e ck ctO
theorem m_limits (P:Ins → Bool) (m:Md) (h:smM m) (hP:∀ y,smI y → PCalls Tryz.prog nX73 [ins_ y] (.bool (P y))):PCalls Tryz.prog nX87 [md_ m] (.agg [.int .i64 (limA P m).p,.int .i64 (limA P m).i,.int .i64 (limA P m).l,.int .i64 (limA P m).c]):=by
  refine pfun_sound (ic:=FX87.body) mixed cX87 rfl rfl ?_
  have c1:CM nX42 [.int .i64 1,.sl 2 (m.ts.map ftC),.int .i64 64,.int .i64 0,.fn nX59 []] lm0 (lm1 m):=m_partFt (by kernel_rfl) (fun x=>(0,fnE x)) m.ts (by have:=h.ts.1; omega) (fun x hx i=>k_1 i x (h.ts.2 x hx)) 1 64 0 lm0
  have c2:CM nX20 [.int .i64 2,.sl 13 (m.ims.map imC),.int .i64 32,.int .i64 0,.fn nX60 []] (lm1 m) (lm2 m):=m_partIm (by kernel_rfl) (fun x=>(0,imE x)) m.ims (by have:=h.ims; omega) (fun x hx i=>k_2 i x) 2 32 0 (lm1 m)
  have c3:CM nX39 [.int .i64 3,.sl 3 (m.fs.map cdC),.int .i64 64,.int .i64 (cnI 0 m.ims:Nat),.fn nX61 []] (lm2 m) (lm3 m):=m_partCd (by kernel_rfl) (fun x=>(0,cdE x)) m.fs (by have:=h.fs.1; omega) (fun x hx i=>k_3 i x (h.fs.2 x hx)) 3 64 (cnI 0 m.ims:Nat) (lm2 m)
  have c4:CM nX32 [.int .i64 4,.sl 4 (m.tbs.map tbC),.int .i64 4,.int .i64 (cnI 1 m.ims:Nat),.fn nX62 []] (lm3 m) (lm4 m):=m_partTb (by kernel_rfl) (fun x=>(0,tbE x)) m.tbs (by have:=h.tbs; omega) (fun x hx i=>k_4 i x) 4 4 (cnI 1 m.ims:Nat) (lm3 m)
  have c5:CM nX21 [.int .i64 5,.sl 3 (m.ms.map lmC),.int .i64 2,.int .i64 (cnI 2 m.ims:Nat),.fn nX63 []] (lm4 m) (lm5 m):=m_partLm (by kernel_rfl) (fun x=>(0,mmE x)) m.ms (by have:=h.ms; omega) (fun x hx i=>k_5 i x) 5 2 (cnI 2 m.ims:Nat) (lm4 m)
  have c6:CM nX9 [.int .i64 6,.sl 3 (m.gs.map gdC),.int .i64 32,.int .i64 (cnI 3 m.ims:Nat),.fn nX64 []] (lm5 m) (lm6 P m):=m_partGd (by kernel_rfl) (gdE P) m.gs (by have:=h.gs.1; omega) (fun x hx i=>k_6 P i x (h.gs.2 x hx) hP) 6 32 (cnI 3 m.ims:Nat) (lm5 m)
  have c7:CM nX19 [.int .i64 7,.sl 3 (m.exs.map exC),.int .i64 64,.int .i64 0,.fn nX65 []] (lm6 P m) (lm7 P m):=m_partEx (by kernel_rfl) (fun x=>(0,exE x)) m.exs (by have:=h.exs; omega) (fun x hx i=>k_7 i x) 7 64 0 (lm6 P m)
  have c9:CM nX41 [.int .i64 9,.sl 5 (m.els.map elC),.int .i64 16,.int .i64 0,.fn nX66 []] (lm8 P m) (lm9 P m):=m_partEl (by kernel_rfl) (elE P) m.els (by have:=h.els.1; omega) (fun x hx i=>k_8 P i x (h.els.2 x hx) hP) 9 16 0 (lm8 P m)
  have c10:CM nX40 [.int .i64 10,.sl 4 (m.ds.map daC),.int .i64 16,.int .i64 0,.fn nX67 []] (lm9 P m) (lm10 P m):=m_partDa (by kernel_rfl) (daE P) m.ds (by have:=h.ds.1; omega) (fun x hx i=>k_9 P i x (h.ds.2 x hx) hP) 10 16 0 (lm9 P m)
  have c11:CM nX18 [.int .i64 11,.sl 3 (m.cs.map cuC),.int .i64 8,.int .i64 0,.fn nX55 []] (lm10 P m) (lm11 P m):=m_partCu (by kernel_rfl) (fun x=>(0,cuE x)) m.cs (by have:=h.cs.1; omega) (fun x hx i=>k_10 i x) 11 8 0 (lm10 P m)
  have c8:=m_index m.st
  have c12:CM nX39 [.int .i64 12,.sl 3 (m.fs.map cdC),.int .i64 (m.fs.length:Int),.int .i64 0,.fn nX56 []] (lm11 P m) (partA 12 (m.fs.length:Int) 0 (m.fs.map (fun x=>rowE P x.b)) (lm11 P m)):=m_partCd (by kernel_rfl) (fun x=>rowE P x.b) m.fs (by have:=h.fs.1; omega) (fun x hx i=>k_11 P i x (h.fs.2 x hx) hP) 12 (m.fs.length:Int) 0 (lm11 P m)
  simp only [go_sem,FX87,md_]
  refine loop_rule (fun j:Nat=>⟨[(13,.int .i64 j),(12,.int .i64 m.ims.length),(11,.sl 13 (m.ims.map imC)),(3,.mp 8 4 0 0),(4,.mp 4 4 0 0),(2,.mp 2 4 0 0),(1,.mp 1 12 0 0)],[(8,ck lm0),(4,ctO m j),(2,⟨40,4,[[.int .i64 0,.int .i64 0,.int .i64 0,.int .i64 0]],true⟩),(1,⟨33,12,[mdC m],true⟩)]⟩) (fun j=>j ≤ m.ims.length) (fun j=>m.ims.length - j) 0 (Nat.zero_le _) (Wk.of ?_ ?_) ?_
  · simp only [go_sem]; try simp
  · simp only [go_sem,List.take_zero,cnI,lm0]; try simp
  intro j hj
  by_cases h1:(j:Int) < (m.ims.length:Int)
  · have hj':j < m.ims.length:=by omega
    have hil:=h.ims
    have e8:=i_bd hj' (by omega)
    have t:=fun k=>cnI_tk (k:=k) hj'
    have hle:=fun k=>Nat.le_trans (cnI_le k (m.ims.take j)) (by rw [List.length_take]; omega:(m.ims.take j).length ≤ m.ims.length)
    have w:=fun k:Int=>(by have:=hle k; rw [wi (by omega) (by omega)]; omega:IntKind.i64.wrap ((cnI k (m.ims.take j):Int) + 1) = ((cnI k (m.ims.take j) + 1:Nat):Int))
    by_cases q0:(nth m.ims j).k = 0
    · simp only [go_sem,decide_eq_true h1,q0,show decide ((0:Int) ≥ 0) = true from rfl,show decide ((0:Int) ≤ 3) = true from rfl,Nat.mul_one,Int.toNat_zero,Int.toNat_one,Int.reduceToNat,Nat.reduceMul,Nat.reduceAdd]
      refine ⟨by omega,h1,⟨by omega,by omega⟩,⟨by omega,by omega⟩,klp_n (j + 1) (show j + 1 ≤ m.ims.length by omega) (show m.ims.length - (j + 1) < m.ims.length - j by omega) (Wk.of ?_ ?_)⟩
      · simp only [go_sem,e8]; try simp
      · simp only [go_sem]; try simp [t,q0,w]
    by_cases q1:(nth m.ims j).k = 1
    · simp only [go_sem,decide_eq_true h1,q1,show decide ((1:Int) ≥ 0) = true from rfl,show decide ((1:Int) ≤ 3) = true from rfl,Nat.mul_one,Int.toNat_zero,Int.toNat_one,Int.reduceToNat,Nat.reduceMul,Nat.reduceAdd]
      refine ⟨by omega,h1,⟨by omega,by omega⟩,⟨by omega,by omega⟩,klp_n (j + 1) (show j + 1 ≤ m.ims.length by omega) (show m.ims.length - (j + 1) < m.ims.length - j by omega) (Wk.of ?_ ?_)⟩
      · simp only [go_sem,e8]; try simp
      · simp only [go_sem]; try simp [t,q1,w]
    by_cases q2:(nth m.ims j).k = 2
    · simp only [go_sem,decide_eq_true h1,q2,show decide ((2:Int) ≥ 0) = true from rfl,show decide ((2:Int) ≤ 3) = true from rfl,Nat.mul_one,Int.toNat_zero,Int.toNat_one,Int.reduceToNat,Nat.reduceMul,Nat.reduceAdd]
      refine ⟨by omega,h1,⟨by omega,by omega⟩,⟨by omega,by omega⟩,klp_n (j + 1) (show j + 1 ≤ m.ims.length by omega) (show m.ims.length - (j + 1) < m.ims.length - j by omega) (Wk.of ?_ ?_)⟩
      · simp only [go_sem,e8]; try simp
      · simp only [go_sem]; try simp [t,q2,w]
    by_cases q3:(nth m.ims j).k = 3
    · simp only [go_sem,decide_eq_true h1,q3,show decide ((3:Int) ≥ 0) = true from rfl,show decide ((3:Int) ≤ 3) = true from rfl,Nat.mul_one,Int.toNat_zero,Int.toNat_one,Int.reduceToNat,Nat.reduceMul,Nat.reduceAdd]
      refine ⟨by omega,h1,⟨by omega,by omega⟩,⟨by omega,by omega⟩,klp_n (j + 1) (show j + 1 ≤ m.ims.length by omega) (show m.ims.length - (j + 1) < m.ims.length - j by omega) (Wk.of ?_ ?_)⟩
      · simp only [go_sem,e8]; try simp
      · simp only [go_sem]; try simp [t,q3,w]
    by_cases q5:(nth m.ims j).k ≥ 0
    · simp only [go_sem,decide_eq_true h1,decide_eq_true q5,decide_eq_false (show ¬ (nth m.ims j).k ≤ 3 by omega)]
      refine ⟨by omega,h1,klp_n (j + 1) (show j + 1 ≤ m.ims.length by omega) (show m.ims.length - (j + 1) < m.ims.length - j by omega) (Wk.of ?_ ?_)⟩
      · simp only [go_sem,e8]; try simp
      · simp only [go_sem]; try simp [t,q0,q1,q2,q3]
    · simp only [go_sem,decide_eq_true h1,decide_eq_false q5]
      refine ⟨by omega,h1,klp_n (j + 1) (show j + 1 ≤ m.ims.length by omega) (show m.ims.length - (j + 1) < m.ims.length - j by omega) (Wk.of ?_ ?_)⟩
      · simp only [go_sem,e8]; try simp
      · simp only [go_sem]; try simp [t,q0,q1,q2,q3]
  obtain rfl:j = m.ims.length:=by omega
  simp only [go_sem,decide_eq_false h1,List.take_length]
  refine call_m (c1) ⟨by decide,by decide⟩ (by first | rfl | exact slv_ids _) (by simp [go_sem]) rfl rfl (by rfl) ?_
  simp only [go_sem,Nat.mul_one,Int.toNat_zero,Int.toNat_one,Int.reduceToNat,Nat.reduceMul,Nat.reduceAdd]
  refine call_m (c2) ⟨by decide,by decide⟩ (by first | rfl | exact slv_ids _) (by simp [go_sem]) rfl rfl (by rfl) ?_
  simp only [go_sem,Nat.mul_one,Int.toNat_zero,Int.toNat_one,Int.reduceToNat,Nat.reduceMul,Nat.reduceAdd]
  refine ⟨⟨by omega,by omega⟩,?_⟩
  refine call_m (c3) ⟨by decide,by decide⟩ (by first | rfl | exact slv_ids _) (by simp [go_sem]) rfl rfl (by rfl) ?_
  simp only [go_sem,Nat.mul_one,Int.toNat_zero,Int.toNat_one,Int.reduceToNat,Nat.reduceMul,Nat.reduceAdd]
  refine ⟨⟨by omega,by omega⟩,?_⟩
  refine call_m (c4) ⟨by decide,by decide⟩ (by first | rfl | exact slv_ids _) (by simp [go_sem]) rfl rfl (by rfl) ?_
  simp only [go_sem,Nat.mul_one,Int.toNat_zero,Int.toNat_one,Int.reduceToNat,Nat.reduceMul,Nat.reduceAdd]
  refine ⟨⟨by omega,by omega⟩,?_⟩
  refine call_m (c5) ⟨by decide,by decide⟩ (by first | rfl | exact slv_ids _) (by simp [go_sem]) rfl rfl (by rfl) ?_
  simp only [go_sem,Nat.mul_one,Int.toNat_zero,Int.toNat_one,Int.reduceToNat,Nat.reduceMul,Nat.reduceAdd]
  refine ⟨⟨by omega,by omega⟩,?_⟩
  refine call_m (c6) ⟨by decide,by decide⟩ (by first | rfl | exact slv_ids _) (by simp [go_sem]) rfl rfl (by rfl) ?_
  simp only [go_sem,Nat.mul_one,Int.toNat_zero,Int.toNat_one,Int.reduceToNat,Nat.reduceMul,Nat.reduceAdd]
  refine call_m (c7) ⟨by decide,by decide⟩ (by first | rfl | exact slv_ids _) (by simp [go_sem]) rfl rfl (by rfl) ?_
  simp only [go_sem,Nat.mul_one,Int.toNat_zero,Int.toNat_one,Int.reduceToNat,Nat.reduceMul,Nat.reduceAdd]
  cases hh:m.hs
  · rw [show lm8 P m = lm7 P m by unfold lm8; rw [hh,if_neg (by simp)]] at c9
    simp only [go_sem,hh]
    refine call_m (c9) ⟨by decide,by decide⟩ (by first | rfl | exact slv_ids _) (by simp [go_sem]) rfl rfl (by rfl) ?_
    simp only [go_sem]
    refine call_m (c10) ⟨by decide,by decide⟩ (by first | rfl | exact slv_ids _) (by simp [go_sem]) rfl rfl (by rfl) ?_
    simp only [go_sem]
    refine call_m (c11) ⟨by decide,by decide⟩ (by first | rfl | exact slv_ids _) (by simp [go_sem]) rfl rfl (by rfl) ?_
    simp only [go_sem]
    unfold limA
    by_cases z:(lm11 P m).c = 0
    · rw [if_pos z]
      simp only [go_sem,beq_t z]
      refine call_m (c12) ⟨by decide,by decide⟩ (by first | rfl | exact slv_ids _) (by simp [go_sem]) rfl rfl (by rfl) ?_
      simp only [go_sem]
      exact pdone [] (by simp only [go_sem]) (by first | rfl | simp [go_sem,slv_ids])
    · rw [if_neg z]
      simp only [go_sem,beq_f z]
      exact pdone [] (by simp only [go_sem]) (by first | rfl | simp [go_sem,slv_ids])
  simp only [go_sem,hh]
  refine call_same (c8) (by simp [go_sem]) ?_
  cases hi:inR m.st
  · have cf:=m_fail (lm7 P m) 8 0 0 11
    rw [show failA (lm7 P m) 8 0 0 11 = lm8 P m by unfold lm8; rw [hh,hi,if_pos ⟨rfl,rfl⟩]] at cf
    simp only [go_sem]
    refine call_m (cf) ⟨by decide,by decide⟩ (by first | rfl | exact slv_ids _) (by simp [go_sem]) rfl rfl (by rfl) ?_
    simp only [go_sem]
    refine call_m (c9) ⟨by decide,by decide⟩ (by first | rfl | exact slv_ids _) (by simp [go_sem]) rfl rfl (by rfl) ?_
    simp only [go_sem]
    refine call_m (c10) ⟨by decide,by decide⟩ (by first | rfl | exact slv_ids _) (by simp [go_sem]) rfl rfl (by rfl) ?_
    simp only [go_sem]
    refine call_m (c11) ⟨by decide,by decide⟩ (by first | rfl | exact slv_ids _) (by simp [go_sem]) rfl rfl (by rfl) ?_
    simp only [go_sem]
    unfold limA
    by_cases z:(lm11 P m).c = 0
    · rw [if_pos z]
      simp only [go_sem,beq_t z]
      refine call_m (c12) ⟨by decide,by decide⟩ (by first | rfl | exact slv_ids _) (by simp [go_sem]) rfl rfl (by rfl) ?_
      simp only [go_sem]
      exact pdone [] (by simp only [go_sem]) (by first | rfl | simp [go_sem,slv_ids])
    · rw [if_neg z]
      simp only [go_sem,beq_f z]
      exact pdone [] (by simp only [go_sem]) (by first | rfl | simp [go_sem,slv_ids])
  · rw [show lm8 P m = lm7 P m by unfold lm8; rw [hi,if_neg (by simp)]] at c9
    simp only [go_sem]
    refine call_m (c9) ⟨by decide,by decide⟩ (by first | rfl | exact slv_ids _) (by simp [go_sem]) rfl rfl (by rfl) ?_
    simp only [go_sem]
    refine call_m (c10) ⟨by decide,by decide⟩ (by first | rfl | exact slv_ids _) (by simp [go_sem]) rfl rfl (by rfl) ?_
    simp only [go_sem]
    refine call_m (c11) ⟨by decide,by decide⟩ (by first | rfl | exact slv_ids _) (by simp [go_sem]) rfl rfl (by rfl) ?_
    simp only [go_sem]
    unfold limA
    by_cases z:(lm11 P m).c = 0
    · rw [if_pos z]
      simp only [go_sem,beq_t z]
      refine call_m (c12) ⟨by decide,by decide⟩ (by first | rfl | exact slv_ids _) (by simp [go_sem]) rfl rfl (by rfl) ?_
      simp only [go_sem]
      exact pdone [] (by simp only [go_sem]) (by first | rfl | simp [go_sem,slv_ids])
    · rw [if_neg z]
      simp only [go_sem,beq_f z]
      exact pdone [] (by simp only [go_sem]) (by first | rfl | simp [go_sem,slv_ids])
end Go.Proofs.YtoaagdbbbojpmaaGreatDoor
set_option maxRecDepth 100000
set_option maxHeartbeats 40000000
set_option linter.unusedVariables false
set_option linter.unusedSimpArgs false
namespace Go.Proofs.YtoaagdbbbojpmaaGreatDoor
open Go Go.Mw
-- @U: List.length_map,mdC_e,cdC_e,gdC_e,elC_e,daC_e,inL_e

def sml (n:Int) (l:List Nat):Int:=l.foldl (fun (n:Int) (k:Nat)=>IntKind.i64.wrap (n + (k:Int))) n
theorem sml_tk {α:Type} [Inhabited α] (g:α → Nat) {l:List α} {i:Nat} (h:i < l.length) (n:Int):sml n ((l.take (i + 1)).map g) = IntKind.i64.wrap (sml n ((l.take i).map g) + (g (nth l i):Int)):=by
  rw [take_c h]; simp [sml]
def elS (n:Int) (l:List El):Int:=l.foldl (fun n x=>sml (IntKind.i64.wrap (n + (x.o.length:Int))) (x.it.map List.length)) n
theorem elS_tk {l:List El} {i:Nat} (h:i < l.length) (n:Int):elS n (l.take (i + 1)) = sml (IntKind.i64.wrap (elS n (l.take i) + ((nth l i).o.length:Int))) ((nth l i).it.map List.length):=by
  rw [take_c h]; simp [elS]
def ins1 (m:Md):Int:=sml 0 (m.fs.map fun x=>x.b.length)
def ins2 (m:Md):Int:=sml (ins1 m) (m.gs.map fun x=>x.i.length)
def ins3 (m:Md):Int:=elS (ins2 m) m.els
def insA (m:Md):Int:=sml (ins3 m) (m.ds.map fun x=>x.o.length)
attribute [local go_sem] List.length_map mdC_e cdC_e gdC_e elC_e daC_e inL_e
theorem m_instrs (m:Md) (h:smM m):PCalls Tryz.prog nX86 [md_ m] (.int .i64 (insA m)):=by
  refine pfun_sound (ic:=FX86.body) mixed cX86 rfl rfl ?_
  simp only [go_sem,FX86,md_]
  refine loop_rule (fun i:Nat=>⟨[(17,.int .i64 (i:Nat)),(16,.int .i64 m.fs.length),(15,.sl 3 (m.fs.map cdC)),(3,.int .i64 (sml 0 ((m.fs.take i).map fun x=>x.b.length))),(1,.mp 1 12 0 0)],[(1,⟨33,12,[mdC m],true⟩)]⟩) (fun i=>i ≤ m.fs.length) (fun i=>m.fs.length - i) 0 (Nat.zero_le _) (Wk.of ?_ ?_) ?_
  · simp only [go_sem,List.take_zero,List.map_nil,sml,List.foldl_nil]; try simp
  · simp only [go_sem]
  intro i hi
  by_cases h1:(i:Int) < (m.fs.length:Int)
  · have hi':i < m.fs.length:=by omega
    have e8:=i_bd hi' (by have:=h.fs.1; omega)
    have ht:=sml_tk (fun x:Cd=>x.b.length) hi' 0
    simp only [go_sem,decide_eq_true h1]
    refine ⟨by omega,h1,klp_n (i + 1) (show i + 1 ≤ m.fs.length by omega) (show m.fs.length - (i + 1) < m.fs.length - i by omega) (Wk.of ?_ ?_)⟩
    · simp only [go_sem,e8,ht]; try simp
    · simp only [go_sem]
  obtain rfl:i = m.fs.length:=by omega
  rw [List.take_length,show sml 0 (m.fs.map fun x=>x.b.length) = ins1 m from rfl]
  simp only [go_sem,decide_eq_false h1]
  clear hi h1
  refine loop_rule (fun i:Nat=>⟨[(30,.int .i64 (i:Nat)),(29,.int .i64 m.gs.length),(28,.sl 3 (m.gs.map gdC)),(3,.int .i64 (sml (ins1 m) ((m.gs.take i).map fun x=>x.i.length))),(1,.mp 1 12 0 0)],[(1,⟨33,12,[mdC m],true⟩)]⟩) (fun i=>i ≤ m.gs.length) (fun i=>m.gs.length - i) 0 (Nat.zero_le _) (Wk.of ?_ ?_) ?_
  · simp only [go_sem,List.take_zero,List.map_nil,sml,List.foldl_nil]; try simp
  · simp only [go_sem]
  intro i hi
  by_cases h1:(i:Int) < (m.gs.length:Int)
  · have hi':i < m.gs.length:=by omega
    have e8:=i_bd hi' (by have:=h.gs.1; omega)
    have ht:=sml_tk (fun x:Gd=>x.i.length) hi' (ins1 m)
    simp only [go_sem,decide_eq_true h1]
    refine ⟨by omega,h1,klp_n (i + 1) (show i + 1 ≤ m.gs.length by omega) (show m.gs.length - (i + 1) < m.gs.length - i by omega) (Wk.of ?_ ?_)⟩
    · simp only [go_sem,e8,ht]; try simp
    · simp only [go_sem]
  obtain rfl:i = m.gs.length:=by omega
  rw [List.take_length,show sml (ins1 m) (m.gs.map fun x=>x.i.length) = ins2 m from rfl]
  simp only [go_sem,decide_eq_false h1]
  clear hi h1
  refine loop_rule (fun i:Nat=>⟨[(43,.int .i64 (i:Nat)),(42,.int .i64 m.els.length),(41,.sl 5 (m.els.map elC)),(3,.int .i64 (elS (ins2 m) (m.els.take i))),(1,.mp 1 12 0 0)],[(1,⟨33,12,[mdC m],true⟩)]⟩) (fun i=>i ≤ m.els.length) (fun i=>m.els.length - i) 0 (Nat.zero_le _) (Wk.of ?_ ?_) ?_
  · simp only [go_sem,List.take_zero,elS,List.foldl_nil]; try simp
  · simp only [go_sem]
  intro i hi
  by_cases h1:(i:Int) < (m.els.length:Int)
  · have hi':i < m.els.length:=by omega
    have e8:=i_bd hi' (by have:=h.els.1; omega)
    have ht:=elS_tk hi' (ins2 m)
    have hit:=(h.els.2 (nth m.els i) (by rw [nth_eq hi']; exact List.getElem_mem hi')).2.1
    simp only [go_sem,decide_eq_true h1]
    refine ⟨by omega,h1,?_⟩
    refine loop_rule (fun q:Nat=>⟨[(55,.int .i64 (q:Nat)),(54,.int .i64 (nth m.els i).it.length),(53,.sl 1 ((nth m.els i).it.map inL_)),(3,.int .i64 (sml (IntKind.i64.wrap (elS (ins2 m) (m.els.take i) + ((nth m.els i).o.length:Int))) (((nth m.els i).it.take q).map List.length))),(43,.int .i64 i),(42,.int .i64 m.els.length),(41,.sl 5 (m.els.map elC)),(1,.mp 1 12 0 0)],[(1,⟨33,12,[mdC m],true⟩)]⟩) (fun q=>q ≤ (nth m.els i).it.length) (fun q=>(nth m.els i).it.length - q) 0 (Nat.zero_le _) (Wk.of ?_ ?_) ?_
    · simp only [go_sem,List.take_zero,List.map_nil,sml,List.foldl_nil]; try simp
    · simp only [go_sem]
    intro q hq
    by_cases q1:(q:Int) < ((nth m.els i).it.length:Int)
    · have hq':q < (nth m.els i).it.length:=by omega
      have e9:=i_bd hq' (by omega)
      have hu:=sml_tk List.length hq' (IntKind.i64.wrap (elS (ins2 m) (m.els.take i) + ((nth m.els i).o.length:Int)))
      simp only [go_sem,decide_eq_true q1]
      refine ⟨by omega,q1,klp_n (q + 1) (show q + 1 ≤ (nth m.els i).it.length by omega) (show (nth m.els i).it.length - (q + 1) < (nth m.els i).it.length - q by omega) (Wk.of ?_ ?_)⟩
      · simp only [go_sem,e9,hu]; try simp
      · simp only [go_sem]
    obtain rfl:q = (nth m.els i).it.length:=by omega
    rw [List.take_length,← ht]
    simp only [go_sem,decide_eq_false q1]
    refine klp_n (i + 1) (show i + 1 ≤ m.els.length by omega) (show m.els.length - (i + 1) < m.els.length - i by omega) (Wk.of ?_ ?_)
    · simp only [go_sem,e8]; try simp
    · simp only [go_sem]
  obtain rfl:i = m.els.length:=by omega
  rw [List.take_length,show elS (ins2 m) m.els = ins3 m from rfl]
  simp only [go_sem,decide_eq_false h1]
  clear hi h1
  refine loop_rule (fun i:Nat=>⟨[(68,.int .i64 (i:Nat)),(67,.int .i64 m.ds.length),(66,.sl 4 (m.ds.map daC)),(3,.int .i64 (sml (ins3 m) ((m.ds.take i).map fun x=>x.o.length))),(1,.mp 1 12 0 0)],[(1,⟨33,12,[mdC m],true⟩)]⟩) (fun i=>i ≤ m.ds.length) (fun i=>m.ds.length - i) 0 (Nat.zero_le _) (Wk.of ?_ ?_) ?_
  · simp only [go_sem,List.take_zero,List.map_nil,sml,List.foldl_nil]; try simp
  · simp only [go_sem]
  intro i hi
  by_cases h1:(i:Int) < (m.ds.length:Int)
  · have hi':i < m.ds.length:=by omega
    have e8:=i_bd hi' (by have:=h.ds.1; omega)
    have ht:=sml_tk (fun x:Da=>x.o.length) hi' (ins3 m)
    simp only [go_sem,decide_eq_true h1]
    refine ⟨by omega,h1,klp_n (i + 1) (show i + 1 ≤ m.ds.length by omega) (show m.ds.length - (i + 1) < m.ds.length - i by omega) (Wk.of ?_ ?_)⟩
    · simp only [go_sem,e8,ht]; try simp
    · simp only [go_sem]
  obtain rfl:i = m.ds.length:=by omega
  rw [List.take_length,show sml (ins3 m) (m.ds.map fun x=>x.o.length) = insA m from rfl]
  simp only [go_sem,decide_eq_false h1]
  clear hi h1
  exact pdone [] (by simp only [go_sem]) (by first | rfl | simp [go_sem,slv_ids])
end Go.Proofs.YtoaagdbbbojpmaaGreatDoor
set_option maxRecDepth 100000
set_option maxHeartbeats 40000000
set_option linter.unusedVariables false
set_option linter.unusedSimpArgs false
namespace Go.Proofs.YtoaagdbbbojpmaaGreatDoor
open Go Go.Mw
-- @U: List.length_map,ftC_e,imC_e,cdC_e,tbC_e,lmC_e,gdC_e,exC_e,daC_e,cuC_e,elC_e,inL_e,insC

attribute [local go_sem] List.length_map ftC_e imC_e cdC_e tbC_e lmC_e gdC_e exC_e daC_e cuC_e elC_e inL_e insC
theorem m_sameFt {f:FuncId} (hb:hasBody Tryz.prog f = true) (a b:List Ft) (ha:a.length ≤ 9223372036854775807) (hf:∀ x ∈ a,∀ y,PCalls Tryz.prog f [.agg (ftC x),.agg (ftC y)] (.bool (decide (x = y)))):PCalls Tryz.prog nX46 [.sl 2 (a.map ftC),.sl 2 (b.map ftC),.fn f []] (.bool (decide (a = b))):=by
  refine pfun_sound (ic:=FX46.body) mixed cX46 rfl rfl ?_
  by_cases hl:(a.length:Int) = (b.length:Int)
  rotate_left
  · rw [decide_eq_false (fun h=>hl (by rw [h]))]
    simp only [go_sem,FX46,bne_t hl]
    exact pdone [] (by simp only [go_sem]) (by first | rfl | simp [go_sem,slv_ids])
  simp only [go_sem,FX46,bne_f hl]
  refine loop_rule (fun j:Nat=>⟨[(15,.int .i64 j),(14,.int .i64 a.length),(0,.sl 2 (a.map ftC)),(1,.sl 2 (b.map ftC)),(2,.fn f [])],[]⟩) (fun j=>j ≤ a.length ∧ ∀ k,k < j → nth a k = nth b k) (fun j=>a.length - j) 0 ⟨Nat.zero_le _,fun k hk=>by omega⟩ (Wk.of ?_ ?_) ?_
  · simp only [go_sem,hl]; try simp
  · simp only [go_sem]
  rintro j ⟨hj,hx⟩
  by_cases h1:(j:Int) < (a.length:Int)
  rotate_left
  · rw [decide_eq_true (ext_nt (by omega) fun k hk=>hx k (by omega))]
    simp only [go_sem,decide_eq_false h1]
    exact pdone [] (by simp only [go_sem]) (by first | rfl | simp [go_sem,slv_ids])
  have hj':j < a.length:=by omega
  have hjb:(j:Int) < (b.length:Int):=by omega
  have e8:=i_bd hj' (by omega)
  have cc:=at_in hf hj' (nth b j)
  try simp only [ftC_e,imC_e,cdC_e,tbC_e,lmC_e,gdC_e,exC_e,daC_e,cuC_e,elC_e,inL_e,insC,ins_e] at cc
  by_cases h2:nth a j = nth b j
  · rw [decide_eq_true h2] at cc
    simp only [go_sem,decide_eq_true h1]
    refine ⟨by omega,h1,by omega,hjb,?_⟩
    refine ⟨hb,?_⟩
    refine call_same (cc) (by simp [go_sem]) ?_
    simp only [go_sem]
    refine klp_n (j + 1) ⟨show j + 1 ≤ a.length by omega,fun k hk=>?_⟩ (show a.length - (j + 1) < a.length - j by omega) (Wk.of ?_ ?_)
    · rcases Nat.lt_or_ge k j with h | h
      · exact hx k h
      · rw [show k = j by omega]; exact h2
    · simp only [go_sem,e8]; try simp
    · simp only [go_sem]
  · rw [decide_eq_false h2] at cc
    rw [decide_eq_false (fun e=>h2 (by rw [e]))]
    simp only [go_sem,decide_eq_true h1]
    refine ⟨by omega,h1,by omega,hjb,?_⟩
    refine ⟨hb,?_⟩
    refine call_same (cc) (by simp [go_sem]) ?_
    simp only [go_sem]
    exact pdone [] (by simp only [go_sem]) (by first | rfl | simp [go_sem,slv_ids])
theorem m_sameIm {f:FuncId} (hb:hasBody Tryz.prog f = true) (a b:List Im) (ha:a.length ≤ 9223372036854775807) (hf:∀ x ∈ a,∀ y,PCalls Tryz.prog f [.agg (imC x),.agg (imC y)] (.bool (decide (x = y)))):PCalls Tryz.prog nX25 [.sl 13 (a.map imC),.sl 13 (b.map imC),.fn f []] (.bool (decide (a = b))):=by
  refine pfun_sound (ic:=FX25.body) mixed cX25 rfl rfl ?_
  by_cases hl:(a.length:Int) = (b.length:Int)
  rotate_left
  · rw [decide_eq_false (fun h=>hl (by rw [h]))]
    simp only [go_sem,FX25,bne_t hl]
    exact pdone [] (by simp only [go_sem]) (by first | rfl | simp [go_sem,slv_ids])
  simp only [go_sem,FX25,bne_f hl]
  refine loop_rule (fun j:Nat=>⟨[(15,.int .i64 j),(14,.int .i64 a.length),(0,.sl 13 (a.map imC)),(1,.sl 13 (b.map imC)),(2,.fn f [])],[]⟩) (fun j=>j ≤ a.length ∧ ∀ k,k < j → nth a k = nth b k) (fun j=>a.length - j) 0 ⟨Nat.zero_le _,fun k hk=>by omega⟩ (Wk.of ?_ ?_) ?_
  · simp only [go_sem,hl]; try simp
  · simp only [go_sem]
  rintro j ⟨hj,hx⟩
  by_cases h1:(j:Int) < (a.length:Int)
  rotate_left
  · rw [decide_eq_true (ext_nt (by omega) fun k hk=>hx k (by omega))]
    simp only [go_sem,decide_eq_false h1]
    exact pdone [] (by simp only [go_sem]) (by first | rfl | simp [go_sem,slv_ids])
  have hj':j < a.length:=by omega
  have hjb:(j:Int) < (b.length:Int):=by omega
  have e8:=i_bd hj' (by omega)
  have cc:=at_in hf hj' (nth b j)
  try simp only [ftC_e,imC_e,cdC_e,tbC_e,lmC_e,gdC_e,exC_e,daC_e,cuC_e,elC_e,inL_e,insC,ins_e] at cc
  by_cases h2:nth a j = nth b j
  · rw [decide_eq_true h2] at cc
    simp only [go_sem,decide_eq_true h1]
    refine ⟨by omega,h1,by omega,hjb,?_⟩
    refine ⟨hb,?_⟩
    refine call_same (cc) (by simp [go_sem]) ?_
    simp only [go_sem]
    refine klp_n (j + 1) ⟨show j + 1 ≤ a.length by omega,fun k hk=>?_⟩ (show a.length - (j + 1) < a.length - j by omega) (Wk.of ?_ ?_)
    · rcases Nat.lt_or_ge k j with h | h
      · exact hx k h
      · rw [show k = j by omega]; exact h2
    · simp only [go_sem,e8]; try simp
    · simp only [go_sem]
  · rw [decide_eq_false h2] at cc
    rw [decide_eq_false (fun e=>h2 (by rw [e]))]
    simp only [go_sem,decide_eq_true h1]
    refine ⟨by omega,h1,by omega,hjb,?_⟩
    refine ⟨hb,?_⟩
    refine call_same (cc) (by simp [go_sem]) ?_
    simp only [go_sem]
    exact pdone [] (by simp only [go_sem]) (by first | rfl | simp [go_sem,slv_ids])
theorem m_sameCd {f:FuncId} (hb:hasBody Tryz.prog f = true) (a b:List Cd) (ha:a.length ≤ 9223372036854775807) (hf:∀ x ∈ a,∀ y,PCalls Tryz.prog f [.agg (cdC x),.agg (cdC y)] (.bool (decide (x = y)))):PCalls Tryz.prog nX43 [.sl 3 (a.map cdC),.sl 3 (b.map cdC),.fn f []] (.bool (decide (a = b))):=by
  refine pfun_sound (ic:=FX43.body) mixed cX43 rfl rfl ?_
  by_cases hl:(a.length:Int) = (b.length:Int)
  rotate_left
  · rw [decide_eq_false (fun h=>hl (by rw [h]))]
    simp only [go_sem,FX43,bne_t hl]
    exact pdone [] (by simp only [go_sem]) (by first | rfl | simp [go_sem,slv_ids])
  simp only [go_sem,FX43,bne_f hl]
  refine loop_rule (fun j:Nat=>⟨[(15,.int .i64 j),(14,.int .i64 a.length),(0,.sl 3 (a.map cdC)),(1,.sl 3 (b.map cdC)),(2,.fn f [])],[]⟩) (fun j=>j ≤ a.length ∧ ∀ k,k < j → nth a k = nth b k) (fun j=>a.length - j) 0 ⟨Nat.zero_le _,fun k hk=>by omega⟩ (Wk.of ?_ ?_) ?_
  · simp only [go_sem,hl]; try simp
  · simp only [go_sem]
  rintro j ⟨hj,hx⟩
  by_cases h1:(j:Int) < (a.length:Int)
  rotate_left
  · rw [decide_eq_true (ext_nt (by omega) fun k hk=>hx k (by omega))]
    simp only [go_sem,decide_eq_false h1]
    exact pdone [] (by simp only [go_sem]) (by first | rfl | simp [go_sem,slv_ids])
  have hj':j < a.length:=by omega
  have hjb:(j:Int) < (b.length:Int):=by omega
  have e8:=i_bd hj' (by omega)
  have cc:=at_in hf hj' (nth b j)
  try simp only [ftC_e,imC_e,cdC_e,tbC_e,lmC_e,gdC_e,exC_e,daC_e,cuC_e,elC_e,inL_e,insC,ins_e] at cc
  by_cases h2:nth a j = nth b j
  · rw [decide_eq_true h2] at cc
    simp only [go_sem,decide_eq_true h1]
    refine ⟨by omega,h1,by omega,hjb,?_⟩
    refine ⟨hb,?_⟩
    refine call_same (cc) (by simp [go_sem]) ?_
    simp only [go_sem]
    refine klp_n (j + 1) ⟨show j + 1 ≤ a.length by omega,fun k hk=>?_⟩ (show a.length - (j + 1) < a.length - j by omega) (Wk.of ?_ ?_)
    · rcases Nat.lt_or_ge k j with h | h
      · exact hx k h
      · rw [show k = j by omega]; exact h2
    · simp only [go_sem,e8]; try simp
    · simp only [go_sem]
  · rw [decide_eq_false h2] at cc
    rw [decide_eq_false (fun e=>h2 (by rw [e]))]
    simp only [go_sem,decide_eq_true h1]
    refine ⟨by omega,h1,by omega,hjb,?_⟩
    refine ⟨hb,?_⟩
    refine call_same (cc) (by simp [go_sem]) ?_
    simp only [go_sem]
    exact pdone [] (by simp only [go_sem]) (by first | rfl | simp [go_sem,slv_ids])
theorem m_sameTb {f:FuncId} (hb:hasBody Tryz.prog f = true) (a b:List Tb) (ha:a.length ≤ 9223372036854775807) (hf:∀ x ∈ a,∀ y,PCalls Tryz.prog f [.agg (tbC x),.agg (tbC y)] (.bool (decide (x = y)))):PCalls Tryz.prog nX34 [.sl 4 (a.map tbC),.sl 4 (b.map tbC),.fn f []] (.bool (decide (a = b))):=by
  refine pfun_sound (ic:=FX34.body) mixed cX34 rfl rfl ?_
  by_cases hl:(a.length:Int) = (b.length:Int)
  rotate_left
  · rw [decide_eq_false (fun h=>hl (by rw [h]))]
    simp only [go_sem,FX34,bne_t hl]
    exact pdone [] (by simp only [go_sem]) (by first | rfl | simp [go_sem,slv_ids])
  simp only [go_sem,FX34,bne_f hl]
  refine loop_rule (fun j:Nat=>⟨[(15,.int .i64 j),(14,.int .i64 a.length),(0,.sl 4 (a.map tbC)),(1,.sl 4 (b.map tbC)),(2,.fn f [])],[]⟩) (fun j=>j ≤ a.length ∧ ∀ k,k < j → nth a k = nth b k) (fun j=>a.length - j) 0 ⟨Nat.zero_le _,fun k hk=>by omega⟩ (Wk.of ?_ ?_) ?_
  · simp only [go_sem,hl]; try simp
  · simp only [go_sem]
  rintro j ⟨hj,hx⟩
  by_cases h1:(j:Int) < (a.length:Int)
  rotate_left
  · rw [decide_eq_true (ext_nt (by omega) fun k hk=>hx k (by omega))]
    simp only [go_sem,decide_eq_false h1]
    exact pdone [] (by simp only [go_sem]) (by first | rfl | simp [go_sem,slv_ids])
  have hj':j < a.length:=by omega
  have hjb:(j:Int) < (b.length:Int):=by omega
  have e8:=i_bd hj' (by omega)
  have cc:=at_in hf hj' (nth b j)
  try simp only [ftC_e,imC_e,cdC_e,tbC_e,lmC_e,gdC_e,exC_e,daC_e,cuC_e,elC_e,inL_e,insC,ins_e] at cc
  by_cases h2:nth a j = nth b j
  · rw [decide_eq_true h2] at cc
    simp only [go_sem,decide_eq_true h1]
    refine ⟨by omega,h1,by omega,hjb,?_⟩
    refine ⟨hb,?_⟩
    refine call_same (cc) (by simp [go_sem]) ?_
    simp only [go_sem]
    refine klp_n (j + 1) ⟨show j + 1 ≤ a.length by omega,fun k hk=>?_⟩ (show a.length - (j + 1) < a.length - j by omega) (Wk.of ?_ ?_)
    · rcases Nat.lt_or_ge k j with h | h
      · exact hx k h
      · rw [show k = j by omega]; exact h2
    · simp only [go_sem,e8]; try simp
    · simp only [go_sem]
  · rw [decide_eq_false h2] at cc
    rw [decide_eq_false (fun e=>h2 (by rw [e]))]
    simp only [go_sem,decide_eq_true h1]
    refine ⟨by omega,h1,by omega,hjb,?_⟩
    refine ⟨hb,?_⟩
    refine call_same (cc) (by simp [go_sem]) ?_
    simp only [go_sem]
    exact pdone [] (by simp only [go_sem]) (by first | rfl | simp [go_sem,slv_ids])
theorem m_sameLm {f:FuncId} (hb:hasBody Tryz.prog f = true) (a b:List Lm) (ha:a.length ≤ 9223372036854775807) (hf:∀ x ∈ a,∀ y,PCalls Tryz.prog f [.agg (lmC x),.agg (lmC y)] (.bool (decide (x = y)))):PCalls Tryz.prog nX26 [.sl 3 (a.map lmC),.sl 3 (b.map lmC),.fn f []] (.bool (decide (a = b))):=by
  refine pfun_sound (ic:=FX26.body) mixed cX26 rfl rfl ?_
  by_cases hl:(a.length:Int) = (b.length:Int)
  rotate_left
  · rw [decide_eq_false (fun h=>hl (by rw [h]))]
    simp only [go_sem,FX26,bne_t hl]
    exact pdone [] (by simp only [go_sem]) (by first | rfl | simp [go_sem,slv_ids])
  simp only [go_sem,FX26,bne_f hl]
  refine loop_rule (fun j:Nat=>⟨[(15,.int .i64 j),(14,.int .i64 a.length),(0,.sl 3 (a.map lmC)),(1,.sl 3 (b.map lmC)),(2,.fn f [])],[]⟩) (fun j=>j ≤ a.length ∧ ∀ k,k < j → nth a k = nth b k) (fun j=>a.length - j) 0 ⟨Nat.zero_le _,fun k hk=>by omega⟩ (Wk.of ?_ ?_) ?_
  · simp only [go_sem,hl]; try simp
  · simp only [go_sem]
  rintro j ⟨hj,hx⟩
  by_cases h1:(j:Int) < (a.length:Int)
  rotate_left
  · rw [decide_eq_true (ext_nt (by omega) fun k hk=>hx k (by omega))]
    simp only [go_sem,decide_eq_false h1]
    exact pdone [] (by simp only [go_sem]) (by first | rfl | simp [go_sem,slv_ids])
  have hj':j < a.length:=by omega
  have hjb:(j:Int) < (b.length:Int):=by omega
  have e8:=i_bd hj' (by omega)
  have cc:=at_in hf hj' (nth b j)
  try simp only [ftC_e,imC_e,cdC_e,tbC_e,lmC_e,gdC_e,exC_e,daC_e,cuC_e,elC_e,inL_e,insC,ins_e] at cc
  by_cases h2:nth a j = nth b j
  · rw [decide_eq_true h2] at cc
    simp only [go_sem,decide_eq_true h1]
    refine ⟨by omega,h1,by omega,hjb,?_⟩
    refine ⟨hb,?_⟩
    refine call_same (cc) (by simp [go_sem]) ?_
    simp only [go_sem]
    refine klp_n (j + 1) ⟨show j + 1 ≤ a.length by omega,fun k hk=>?_⟩ (show a.length - (j + 1) < a.length - j by omega) (Wk.of ?_ ?_)
    · rcases Nat.lt_or_ge k j with h | h
      · exact hx k h
      · rw [show k = j by omega]; exact h2
    · simp only [go_sem,e8]; try simp
    · simp only [go_sem]
  · rw [decide_eq_false h2] at cc
    rw [decide_eq_false (fun e=>h2 (by rw [e]))]
    simp only [go_sem,decide_eq_true h1]
    refine ⟨by omega,h1,by omega,hjb,?_⟩
    refine ⟨hb,?_⟩
    refine call_same (cc) (by simp [go_sem]) ?_
    simp only [go_sem]
    exact pdone [] (by simp only [go_sem]) (by first | rfl | simp [go_sem,slv_ids])
theorem m_sameGd {f:FuncId} (hb:hasBody Tryz.prog f = true) (a b:List Gd) (ha:a.length ≤ 9223372036854775807) (hf:∀ x ∈ a,∀ y,PCalls Tryz.prog f [.agg (gdC x),.agg (gdC y)] (.bool (decide (x = y)))):PCalls Tryz.prog nX10 [.sl 3 (a.map gdC),.sl 3 (b.map gdC),.fn f []] (.bool (decide (a = b))):=by
  refine pfun_sound (ic:=FX10.body) mixed cX10 rfl rfl ?_
  by_cases hl:(a.length:Int) = (b.length:Int)
  rotate_left
  · rw [decide_eq_false (fun h=>hl (by rw [h]))]
    simp only [go_sem,FX10,bne_t hl]
    exact pdone [] (by simp only [go_sem]) (by first | rfl | simp [go_sem,slv_ids])
  simp only [go_sem,FX10,bne_f hl]
  refine loop_rule (fun j:Nat=>⟨[(15,.int .i64 j),(14,.int .i64 a.length),(0,.sl 3 (a.map gdC)),(1,.sl 3 (b.map gdC)),(2,.fn f [])],[]⟩) (fun j=>j ≤ a.length ∧ ∀ k,k < j → nth a k = nth b k) (fun j=>a.length - j) 0 ⟨Nat.zero_le _,fun k hk=>by omega⟩ (Wk.of ?_ ?_) ?_
  · simp only [go_sem,hl]; try simp
  · simp only [go_sem]
  rintro j ⟨hj,hx⟩
  by_cases h1:(j:Int) < (a.length:Int)
  rotate_left
  · rw [decide_eq_true (ext_nt (by omega) fun k hk=>hx k (by omega))]
    simp only [go_sem,decide_eq_false h1]
    exact pdone [] (by simp only [go_sem]) (by first | rfl | simp [go_sem,slv_ids])
  have hj':j < a.length:=by omega
  have hjb:(j:Int) < (b.length:Int):=by omega
  have e8:=i_bd hj' (by omega)
  have cc:=at_in hf hj' (nth b j)
  try simp only [ftC_e,imC_e,cdC_e,tbC_e,lmC_e,gdC_e,exC_e,daC_e,cuC_e,elC_e,inL_e,insC,ins_e] at cc
  by_cases h2:nth a j = nth b j
  · rw [decide_eq_true h2] at cc
    simp only [go_sem,decide_eq_true h1]
    refine ⟨by omega,h1,by omega,hjb,?_⟩
    refine ⟨hb,?_⟩
    refine call_same (cc) (by simp [go_sem]) ?_
    simp only [go_sem]
    refine klp_n (j + 1) ⟨show j + 1 ≤ a.length by omega,fun k hk=>?_⟩ (show a.length - (j + 1) < a.length - j by omega) (Wk.of ?_ ?_)
    · rcases Nat.lt_or_ge k j with h | h
      · exact hx k h
      · rw [show k = j by omega]; exact h2
    · simp only [go_sem,e8]; try simp
    · simp only [go_sem]
  · rw [decide_eq_false h2] at cc
    rw [decide_eq_false (fun e=>h2 (by rw [e]))]
    simp only [go_sem,decide_eq_true h1]
    refine ⟨by omega,h1,by omega,hjb,?_⟩
    refine ⟨hb,?_⟩
    refine call_same (cc) (by simp [go_sem]) ?_
    simp only [go_sem]
    exact pdone [] (by simp only [go_sem]) (by first | rfl | simp [go_sem,slv_ids])
theorem m_sameEx {f:FuncId} (hb:hasBody Tryz.prog f = true) (a b:List Ex) (ha:a.length ≤ 9223372036854775807) (hf:∀ x ∈ a,∀ y,PCalls Tryz.prog f [.agg (exC x),.agg (exC y)] (.bool (decide (x = y)))):PCalls Tryz.prog nX24 [.sl 3 (a.map exC),.sl 3 (b.map exC),.fn f []] (.bool (decide (a = b))):=by
  refine pfun_sound (ic:=FX24.body) mixed cX24 rfl rfl ?_
  by_cases hl:(a.length:Int) = (b.length:Int)
  rotate_left
  · rw [decide_eq_false (fun h=>hl (by rw [h]))]
    simp only [go_sem,FX24,bne_t hl]
    exact pdone [] (by simp only [go_sem]) (by first | rfl | simp [go_sem,slv_ids])
  simp only [go_sem,FX24,bne_f hl]
  refine loop_rule (fun j:Nat=>⟨[(15,.int .i64 j),(14,.int .i64 a.length),(0,.sl 3 (a.map exC)),(1,.sl 3 (b.map exC)),(2,.fn f [])],[]⟩) (fun j=>j ≤ a.length ∧ ∀ k,k < j → nth a k = nth b k) (fun j=>a.length - j) 0 ⟨Nat.zero_le _,fun k hk=>by omega⟩ (Wk.of ?_ ?_) ?_
  · simp only [go_sem,hl]; try simp
  · simp only [go_sem]
  rintro j ⟨hj,hx⟩
  by_cases h1:(j:Int) < (a.length:Int)
  rotate_left
  · rw [decide_eq_true (ext_nt (by omega) fun k hk=>hx k (by omega))]
    simp only [go_sem,decide_eq_false h1]
    exact pdone [] (by simp only [go_sem]) (by first | rfl | simp [go_sem,slv_ids])
  have hj':j < a.length:=by omega
  have hjb:(j:Int) < (b.length:Int):=by omega
  have e8:=i_bd hj' (by omega)
  have cc:=at_in hf hj' (nth b j)
  try simp only [ftC_e,imC_e,cdC_e,tbC_e,lmC_e,gdC_e,exC_e,daC_e,cuC_e,elC_e,inL_e,insC,ins_e] at cc
  by_cases h2:nth a j = nth b j
  · rw [decide_eq_true h2] at cc
    simp only [go_sem,decide_eq_true h1]
    refine ⟨by omega,h1,by omega,hjb,?_⟩
    refine ⟨hb,?_⟩
    refine call_same (cc) (by simp [go_sem]) ?_
    simp only [go_sem]
    refine klp_n (j + 1) ⟨show j + 1 ≤ a.length by omega,fun k hk=>?_⟩ (show a.length - (j + 1) < a.length - j by omega) (Wk.of ?_ ?_)
    · rcases Nat.lt_or_ge k j with h | h
      · exact hx k h
      · rw [show k = j by omega]; exact h2
    · simp only [go_sem,e8]; try simp
    · simp only [go_sem]
  · rw [decide_eq_false h2] at cc
    rw [decide_eq_false (fun e=>h2 (by rw [e]))]
    simp only [go_sem,decide_eq_true h1]
    refine ⟨by omega,h1,by omega,hjb,?_⟩
    refine ⟨hb,?_⟩
    refine call_same (cc) (by simp [go_sem]) ?_
    simp only [go_sem]
    exact pdone [] (by simp only [go_sem]) (by first | rfl | simp [go_sem,slv_ids])
theorem m_sameEl {f:FuncId} (hb:hasBody Tryz.prog f = true) (a b:List El) (ha:a.length ≤ 9223372036854775807) (hf:∀ x ∈ a,∀ y,PCalls Tryz.prog f [.agg (elC x),.agg (elC y)] (.bool (decide (x = y)))):PCalls Tryz.prog nX45 [.sl 5 (a.map elC),.sl 5 (b.map elC),.fn f []] (.bool (decide (a = b))):=by
  refine pfun_sound (ic:=FX45.body) mixed cX45 rfl rfl ?_
  by_cases hl:(a.length:Int) = (b.length:Int)
  rotate_left
  · rw [decide_eq_false (fun h=>hl (by rw [h]))]
    simp only [go_sem,FX45,bne_t hl]
    exact pdone [] (by simp only [go_sem]) (by first | rfl | simp [go_sem,slv_ids])
  simp only [go_sem,FX45,bne_f hl]
  refine loop_rule (fun j:Nat=>⟨[(15,.int .i64 j),(14,.int .i64 a.length),(0,.sl 5 (a.map elC)),(1,.sl 5 (b.map elC)),(2,.fn f [])],[]⟩) (fun j=>j ≤ a.length ∧ ∀ k,k < j → nth a k = nth b k) (fun j=>a.length - j) 0 ⟨Nat.zero_le _,fun k hk=>by omega⟩ (Wk.of ?_ ?_) ?_
  · simp only [go_sem,hl]; try simp
  · simp only [go_sem]
  rintro j ⟨hj,hx⟩
  by_cases h1:(j:Int) < (a.length:Int)
  rotate_left
  · rw [decide_eq_true (ext_nt (by omega) fun k hk=>hx k (by omega))]
    simp only [go_sem,decide_eq_false h1]
    exact pdone [] (by simp only [go_sem]) (by first | rfl | simp [go_sem,slv_ids])
  have hj':j < a.length:=by omega
  have hjb:(j:Int) < (b.length:Int):=by omega
  have e8:=i_bd hj' (by omega)
  have cc:=at_in hf hj' (nth b j)
  try simp only [ftC_e,imC_e,cdC_e,tbC_e,lmC_e,gdC_e,exC_e,daC_e,cuC_e,elC_e,inL_e,insC,ins_e] at cc
  by_cases h2:nth a j = nth b j
  · rw [decide_eq_true h2] at cc
    simp only [go_sem,decide_eq_true h1]
    refine ⟨by omega,h1,by omega,hjb,?_⟩
    refine ⟨hb,?_⟩
    refine call_same (cc) (by simp [go_sem]) ?_
    simp only [go_sem]
    refine klp_n (j + 1) ⟨show j + 1 ≤ a.length by omega,fun k hk=>?_⟩ (show a.length - (j + 1) < a.length - j by omega) (Wk.of ?_ ?_)
    · rcases Nat.lt_or_ge k j with h | h
      · exact hx k h
      · rw [show k = j by omega]; exact h2
    · simp only [go_sem,e8]; try simp
    · simp only [go_sem]
  · rw [decide_eq_false h2] at cc
    rw [decide_eq_false (fun e=>h2 (by rw [e]))]
    simp only [go_sem,decide_eq_true h1]
    refine ⟨by omega,h1,by omega,hjb,?_⟩
    refine ⟨hb,?_⟩
    refine call_same (cc) (by simp [go_sem]) ?_
    simp only [go_sem]
    exact pdone [] (by simp only [go_sem]) (by first | rfl | simp [go_sem,slv_ids])
theorem m_sameDa {f:FuncId} (hb:hasBody Tryz.prog f = true) (a b:List Da) (ha:a.length ≤ 9223372036854775807) (hf:∀ x ∈ a,∀ y,PCalls Tryz.prog f [.agg (daC x),.agg (daC y)] (.bool (decide (x = y)))):PCalls Tryz.prog nX44 [.sl 4 (a.map daC),.sl 4 (b.map daC),.fn f []] (.bool (decide (a = b))):=by
  refine pfun_sound (ic:=FX44.body) mixed cX44 rfl rfl ?_
  by_cases hl:(a.length:Int) = (b.length:Int)
  rotate_left
  · rw [decide_eq_false (fun h=>hl (by rw [h]))]
    simp only [go_sem,FX44,bne_t hl]
    exact pdone [] (by simp only [go_sem]) (by first | rfl | simp [go_sem,slv_ids])
  simp only [go_sem,FX44,bne_f hl]
  refine loop_rule (fun j:Nat=>⟨[(15,.int .i64 j),(14,.int .i64 a.length),(0,.sl 4 (a.map daC)),(1,.sl 4 (b.map daC)),(2,.fn f [])],[]⟩) (fun j=>j ≤ a.length ∧ ∀ k,k < j → nth a k = nth b k) (fun j=>a.length - j) 0 ⟨Nat.zero_le _,fun k hk=>by omega⟩ (Wk.of ?_ ?_) ?_
  · simp only [go_sem,hl]; try simp
  · simp only [go_sem]
  rintro j ⟨hj,hx⟩
  by_cases h1:(j:Int) < (a.length:Int)
  rotate_left
  · rw [decide_eq_true (ext_nt (by omega) fun k hk=>hx k (by omega))]
    simp only [go_sem,decide_eq_false h1]
    exact pdone [] (by simp only [go_sem]) (by first | rfl | simp [go_sem,slv_ids])
  have hj':j < a.length:=by omega
  have hjb:(j:Int) < (b.length:Int):=by omega
  have e8:=i_bd hj' (by omega)
  have cc:=at_in hf hj' (nth b j)
  try simp only [ftC_e,imC_e,cdC_e,tbC_e,lmC_e,gdC_e,exC_e,daC_e,cuC_e,elC_e,inL_e,insC,ins_e] at cc
  by_cases h2:nth a j = nth b j
  · rw [decide_eq_true h2] at cc
    simp only [go_sem,decide_eq_true h1]
    refine ⟨by omega,h1,by omega,hjb,?_⟩
    refine ⟨hb,?_⟩
    refine call_same (cc) (by simp [go_sem]) ?_
    simp only [go_sem]
    refine klp_n (j + 1) ⟨show j + 1 ≤ a.length by omega,fun k hk=>?_⟩ (show a.length - (j + 1) < a.length - j by omega) (Wk.of ?_ ?_)
    · rcases Nat.lt_or_ge k j with h | h
      · exact hx k h
      · rw [show k = j by omega]; exact h2
    · simp only [go_sem,e8]; try simp
    · simp only [go_sem]
  · rw [decide_eq_false h2] at cc
    rw [decide_eq_false (fun e=>h2 (by rw [e]))]
    simp only [go_sem,decide_eq_true h1]
    refine ⟨by omega,h1,by omega,hjb,?_⟩
    refine ⟨hb,?_⟩
    refine call_same (cc) (by simp [go_sem]) ?_
    simp only [go_sem]
    exact pdone [] (by simp only [go_sem]) (by first | rfl | simp [go_sem,slv_ids])
theorem m_sameCu {f:FuncId} (hb:hasBody Tryz.prog f = true) (a b:List Cu) (ha:a.length ≤ 9223372036854775807) (hf:∀ x ∈ a,∀ y,PCalls Tryz.prog f [.agg (cuC x),.agg (cuC y)] (.bool (decide (x = y)))):PCalls Tryz.prog nX23 [.sl 3 (a.map cuC),.sl 3 (b.map cuC),.fn f []] (.bool (decide (a = b))):=by
  refine pfun_sound (ic:=FX23.body) mixed cX23 rfl rfl ?_
  by_cases hl:(a.length:Int) = (b.length:Int)
  rotate_left
  · rw [decide_eq_false (fun h=>hl (by rw [h]))]
    simp only [go_sem,FX23,bne_t hl]
    exact pdone [] (by simp only [go_sem]) (by first | rfl | simp [go_sem,slv_ids])
  simp only [go_sem,FX23,bne_f hl]
  refine loop_rule (fun j:Nat=>⟨[(15,.int .i64 j),(14,.int .i64 a.length),(0,.sl 3 (a.map cuC)),(1,.sl 3 (b.map cuC)),(2,.fn f [])],[]⟩) (fun j=>j ≤ a.length ∧ ∀ k,k < j → nth a k = nth b k) (fun j=>a.length - j) 0 ⟨Nat.zero_le _,fun k hk=>by omega⟩ (Wk.of ?_ ?_) ?_
  · simp only [go_sem,hl]; try simp
  · simp only [go_sem]
  rintro j ⟨hj,hx⟩
  by_cases h1:(j:Int) < (a.length:Int)
  rotate_left
  · rw [decide_eq_true (ext_nt (by omega) fun k hk=>hx k (by omega))]
    simp only [go_sem,decide_eq_false h1]
    exact pdone [] (by simp only [go_sem]) (by first | rfl | simp [go_sem,slv_ids])
  have hj':j < a.length:=by omega
  have hjb:(j:Int) < (b.length:Int):=by omega
  have e8:=i_bd hj' (by omega)
  have cc:=at_in hf hj' (nth b j)
  try simp only [ftC_e,imC_e,cdC_e,tbC_e,lmC_e,gdC_e,exC_e,daC_e,cuC_e,elC_e,inL_e,insC,ins_e] at cc
  by_cases h2:nth a j = nth b j
  · rw [decide_eq_true h2] at cc
    simp only [go_sem,decide_eq_true h1]
    refine ⟨by omega,h1,by omega,hjb,?_⟩
    refine ⟨hb,?_⟩
    refine call_same (cc) (by simp [go_sem]) ?_
    simp only [go_sem]
    refine klp_n (j + 1) ⟨show j + 1 ≤ a.length by omega,fun k hk=>?_⟩ (show a.length - (j + 1) < a.length - j by omega) (Wk.of ?_ ?_)
    · rcases Nat.lt_or_ge k j with h | h
      · exact hx k h
      · rw [show k = j by omega]; exact h2
    · simp only [go_sem,e8]; try simp
    · simp only [go_sem]
  · rw [decide_eq_false h2] at cc
    rw [decide_eq_false (fun e=>h2 (by rw [e]))]
    simp only [go_sem,decide_eq_true h1]
    refine ⟨by omega,h1,by omega,hjb,?_⟩
    refine ⟨hb,?_⟩
    refine call_same (cc) (by simp [go_sem]) ?_
    simp only [go_sem]
    exact pdone [] (by simp only [go_sem]) (by first | rfl | simp [go_sem,slv_ids])
theorem m_sameIns {f:FuncId} (hb:hasBody Tryz.prog f = true) (a b:List Ins) (ha:a.length ≤ 9223372036854775807) (hf:∀ x ∈ a,∀ y,PCalls Tryz.prog f [.agg (insC x),.agg (insC y)] (.bool (decide (x = y)))):PCalls Tryz.prog nX33 [.sl 9 (a.map insC),.sl 9 (b.map insC),.fn f []] (.bool (decide (a = b))):=by
  refine pfun_sound (ic:=FX33.body) mixed cX33 rfl rfl ?_
  by_cases hl:(a.length:Int) = (b.length:Int)
  rotate_left
  · rw [decide_eq_false (fun h=>hl (by rw [h]))]
    simp only [go_sem,FX33,bne_t hl]
    exact pdone [] (by simp only [go_sem]) (by first | rfl | simp [go_sem,slv_ids])
  simp only [go_sem,FX33,bne_f hl]
  refine loop_rule (fun j:Nat=>⟨[(15,.int .i64 j),(14,.int .i64 a.length),(0,.sl 9 (a.map insC)),(1,.sl 9 (b.map insC)),(2,.fn f [])],[]⟩) (fun j=>j ≤ a.length ∧ ∀ k,k < j → nth a k = nth b k) (fun j=>a.length - j) 0 ⟨Nat.zero_le _,fun k hk=>by omega⟩ (Wk.of ?_ ?_) ?_
  · simp only [go_sem,hl]; try simp
  · simp only [go_sem]
  rintro j ⟨hj,hx⟩
  by_cases h1:(j:Int) < (a.length:Int)
  rotate_left
  · rw [decide_eq_true (ext_nt (by omega) fun k hk=>hx k (by omega))]
    simp only [go_sem,decide_eq_false h1]
    exact pdone [] (by simp only [go_sem]) (by first | rfl | simp [go_sem,slv_ids])
  have hj':j < a.length:=by omega
  have hjb:(j:Int) < (b.length:Int):=by omega
  have e8:=i_bd hj' (by omega)
  have cc:=at_in hf hj' (nth b j)
  try simp only [ftC_e,imC_e,cdC_e,tbC_e,lmC_e,gdC_e,exC_e,daC_e,cuC_e,elC_e,inL_e,insC,ins_e] at cc
  by_cases h2:nth a j = nth b j
  · rw [decide_eq_true h2] at cc
    simp only [go_sem,decide_eq_true h1]
    refine ⟨by omega,h1,by omega,hjb,?_⟩
    refine ⟨hb,?_⟩
    refine call_same (cc) (by simp [go_sem]) ?_
    simp only [go_sem]
    refine klp_n (j + 1) ⟨show j + 1 ≤ a.length by omega,fun k hk=>?_⟩ (show a.length - (j + 1) < a.length - j by omega) (Wk.of ?_ ?_)
    · rcases Nat.lt_or_ge k j with h | h
      · exact hx k h
      · rw [show k = j by omega]; exact h2
    · simp only [go_sem,e8]; try simp
    · simp only [go_sem]
  · rw [decide_eq_false h2] at cc
    rw [decide_eq_false (fun e=>h2 (by rw [e]))]
    simp only [go_sem,decide_eq_true h1]
    refine ⟨by omega,h1,by omega,hjb,?_⟩
    refine ⟨hb,?_⟩
    refine call_same (cc) (by simp [go_sem]) ?_
    simp only [go_sem]
    exact pdone [] (by simp only [go_sem]) (by first | rfl | simp [go_sem,slv_ids])
theorem m_sameLs {f:FuncId} (hb:hasBody Tryz.prog f = true) (a b:List (List Ins)) (ha:a.length ≤ 9223372036854775807) (hf:∀ x ∈ a,∀ y,PCalls Tryz.prog f [.sl 9 (x.map insC),.sl 9 (y.map insC)] (.bool (decide (x = y)))):PCalls Tryz.prog nX22 [.sl 1 (a.map inL_),.sl 1 (b.map inL_),.fn f []] (.bool (decide (a = b))):=by
  refine pfun_sound (ic:=FX22.body) mixed cX22 rfl rfl ?_
  by_cases hl:(a.length:Int) = (b.length:Int)
  rotate_left
  · rw [decide_eq_false (fun h=>hl (by rw [h]))]
    simp only [go_sem,FX22,bne_t hl]
    exact pdone [] (by simp only [go_sem]) (by first | rfl | simp [go_sem,slv_ids])
  simp only [go_sem,FX22,bne_f hl]
  refine loop_rule (fun j:Nat=>⟨[(15,.int .i64 j),(14,.int .i64 a.length),(0,.sl 1 (a.map inL_)),(1,.sl 1 (b.map inL_)),(2,.fn f [])],[]⟩) (fun j=>j ≤ a.length ∧ ∀ k,k < j → nth a k = nth b k) (fun j=>a.length - j) 0 ⟨Nat.zero_le _,fun k hk=>by omega⟩ (Wk.of ?_ ?_) ?_
  · simp only [go_sem,hl]; try simp
  · simp only [go_sem]
  rintro j ⟨hj,hx⟩
  by_cases h1:(j:Int) < (a.length:Int)
  rotate_left
  · rw [decide_eq_true (ext_nt (by omega) fun k hk=>hx k (by omega))]
    simp only [go_sem,decide_eq_false h1]
    exact pdone [] (by simp only [go_sem]) (by first | rfl | simp [go_sem,slv_ids])
  have hj':j < a.length:=by omega
  have hjb:(j:Int) < (b.length:Int):=by omega
  have e8:=i_bd hj' (by omega)
  have cc:=at_in hf hj' (nth b j)
  try simp only [ftC_e,imC_e,cdC_e,tbC_e,lmC_e,gdC_e,exC_e,daC_e,cuC_e,elC_e,inL_e,insC,ins_e] at cc
  by_cases h2:nth a j = nth b j
  · rw [decide_eq_true h2] at cc
    simp only [go_sem,decide_eq_true h1]
    refine ⟨by omega,h1,by omega,hjb,?_⟩
    refine ⟨hb,?_⟩
    refine call_same (cc) (by simp [go_sem]) ?_
    simp only [go_sem]
    refine klp_n (j + 1) ⟨show j + 1 ≤ a.length by omega,fun k hk=>?_⟩ (show a.length - (j + 1) < a.length - j by omega) (Wk.of ?_ ?_)
    · rcases Nat.lt_or_ge k j with h | h
      · exact hx k h
      · rw [show k = j by omega]; exact h2
    · simp only [go_sem,e8]; try simp
    · simp only [go_sem]
  · rw [decide_eq_false h2] at cc
    rw [decide_eq_false (fun e=>h2 (by rw [e]))]
    simp only [go_sem,decide_eq_true h1]
    refine ⟨by omega,h1,by omega,hjb,?_⟩
    refine ⟨hb,?_⟩
    refine call_same (cc) (by simp [go_sem]) ?_
    simp only [go_sem]
    exact pdone [] (by simp only [go_sem]) (by first | rfl | simp [go_sem,slv_ids])
theorem m_eqIm (x y:Im):PCalls Tryz.prog nX13 [.agg (imC x),.agg (imC y)] (.bool (decide (x = y))):=by
  refine pfun_sound (ic:=FX13.body) mixed cX13 rfl rfl ?_
  simp only [go_sem,FX13,im_eq]
  exact pdone [] (by simp only [go_sem]) (by first | rfl | simp [go_sem,slv_ids])
theorem m_eqTb (x y:Tb):PCalls Tryz.prog nX17 [.agg (tbC x),.agg (tbC y)] (.bool (decide (x = y))):=by
  refine pfun_sound (ic:=FX17.body) mixed cX17 rfl rfl ?_
  simp only [go_sem,FX17,tb_eq]
  exact pdone [] (by simp only [go_sem]) (by first | rfl | simp [go_sem,slv_ids])
theorem m_eqLm (x y:Lm):PCalls Tryz.prog nX14 [.agg (lmC x),.agg (lmC y)] (.bool (decide (x = y))):=by
  refine pfun_sound (ic:=FX14.body) mixed cX14 rfl rfl ?_
  simp only [go_sem,FX14,lm_eq]
  exact pdone [] (by simp only [go_sem]) (by first | rfl | simp [go_sem,slv_ids])
theorem m_eqEx (x y:Ex):PCalls Tryz.prog nX12 [.agg (exC x),.agg (exC y)] (.bool (decide (x = y))):=by
  refine pfun_sound (ic:=FX12.body) mixed cX12 rfl rfl ?_
  simp only [go_sem,FX12,ex_eq]
  exact pdone [] (by simp only [go_sem]) (by first | rfl | simp [go_sem,slv_ids])
end Go.Proofs.YtoaagdbbbojpmaaGreatDoor
set_option maxRecDepth 100000
set_option maxHeartbeats 40000000
set_option linter.unusedVariables false
set_option linter.unusedSimpArgs false
namespace Go.Proofs.YtoaagdbbbojpmaaGreatDoor
open Go Go.Mw
-- @U: List.length_map,mdC_e,tbC_e,lmC_e

def SameP (a b:Md):Prop:=a.hs = b.hs ∧ (a.hs = true → a.st = b.st) ∧ a.ts = b.ts ∧ a.ims = b.ims ∧ a.fs = b.fs ∧ (a.tbs = b.tbs ∧ a.ms = b.ms) ∧ a.gs = b.gs ∧ a.exs = b.exs ∧ a.els = b.els ∧ a.ds = b.ds ∧ a.cs = b.cs
instance (a b:Md):Decidable (SameP a b):=by unfold SameP; exact inferInstance
theorem SameP_refl (a:Md):SameP a a:=⟨rfl,fun _=>rfl,rfl,rfl,rfl,⟨rfl,rfl⟩,rfl,rfl,rfl,rfl,rfl⟩
end Go.Proofs.YtoaagdbbbojpmaaGreatDoor
set_option maxRecDepth 100000
set_option maxHeartbeats 40000000
set_option linter.unusedVariables false
set_option linter.unusedSimpArgs false
namespace Go.Proofs.YtoaagdbbbojpmaaGreatDoor
open Go Go.Mw
-- @U: List.length_map,ftC_e,imC_e,cdC_e,tbC_e,lmC_e,gdC_e,exC_e,daC_e,cuC_e,elC_e,inL_e,insC,ins_e,mdC_e

attribute [local go_sem] List.length_map ftC_e imC_e cdC_e tbC_e lmC_e gdC_e exC_e daC_e cuC_e elC_e inL_e insC ins_e mdC_e
theorem m_eq1 (a b:List Int) (ha:a.length ≤ 9223372036854775807):PCalls Tryz.prog nX29 [.sl 1 (a.map vl_),.sl 1 (b.map vl_)] (.bool (a == b)):=by
  refine pfun_sound (ic:=FX29.body) mixed cX29 rfl rfl ?_
  by_cases hl:(a.length:Int) = b.length
  · simp only [go_sem,FX29,hl,bne_self_eq_false]
    refine loop_rule (fun i:Nat=>⟨[(0,.sl 1 (a.map vl_)),(1,.sl 1 (b.map vl_)),(12,.int .i64 a.length),(13,.int .i64 i)],[]⟩) (fun i=>i ≤ a.length ∧ ∀ k,k < i → nth a k = nth b k) (fun i=>a.length - i) 0 ⟨Nat.zero_le _,fun k hk=>absurd hk (Nat.not_lt_zero k)⟩ (Wk.of ?_ ?_) ?_
    · simp only [go_sem,hl]; try simp
    · simp only [go_sem]
    rintro i ⟨hi,hk⟩
    by_cases h1:(i:Int) < (a.length:Int)
    · have e8:=wi (n:=(i:Int) + 1) (by omega) (by omega)
      simp only [go_sem,decide_eq_true h1]
      refine ⟨by omega,h1,by omega,by omega,fun h2=>?_,fun h2=>klp_n (i + 1) ⟨by omega,fun k hk2=>?_⟩ (show a.length - (i + 1) < a.length - i by omega) (Wk.of ?_ ?_)⟩
      · have r:(a == b) = false:=by
          rw [beq_eq_false_iff_ne]
          intro e
          rw [e] at h2
          simp at h2
        rw [r]
        exact pdone [] (by rfl) rfl
      · rcases Nat.lt_or_ge k i with h4 | h4
        · exact hk k h4
        · obtain rfl:k = i:=by omega
          simpa using h2
      · simp only [go_sem,e8]
        try simp
      · simp only [go_sem]
    · have r:a = b:=nth_eqI (by omega) (fun k hk2=>hk k (by omega))
      have r2:(a == b) = true:=by rw [r]; exact beq_self_eq_true b
      simp only [go_sem,decide_eq_false h1]
      rw [r2]
      exact pdone [] (by rfl) rfl
  · have r:(a == b) = false:=by
      rw [beq_eq_false_iff_ne]
      intro e; rw [e] at hl; exact hl rfl
    have b1:((a.length:Int) != (b.length:Int)) = true:=by simpa using hl
    simp only [go_sem,FX29,b1]
    rw [r]
    exact pdone [] (by rfl) rfl
theorem m_eq2 (a b:List Int) (ha:a.length ≤ 9223372036854775807):PCalls Tryz.prog nX7 [.sl 1 (a.map vl_),.sl 1 (b.map vl_)] (.bool (a == b)):=by
  refine pfun_sound (ic:=FX7.body) mixed cX7 rfl rfl ?_
  by_cases hl:(a.length:Int) = b.length
  · simp only [go_sem,FX7,hl,bne_self_eq_false]
    refine loop_rule (fun i:Nat=>⟨[(0,.sl 1 (a.map vl_)),(1,.sl 1 (b.map vl_)),(12,.int .i64 a.length),(13,.int .i64 i)],[]⟩) (fun i=>i ≤ a.length ∧ ∀ k,k < i → nth a k = nth b k) (fun i=>a.length - i) 0 ⟨Nat.zero_le _,fun k hk=>absurd hk (Nat.not_lt_zero k)⟩ (Wk.of ?_ ?_) ?_
    · simp only [go_sem,hl]; try simp
    · simp only [go_sem]
    rintro i ⟨hi,hk⟩
    by_cases h1:(i:Int) < (a.length:Int)
    · have e8:=wi (n:=(i:Int) + 1) (by omega) (by omega)
      simp only [go_sem,decide_eq_true h1]
      refine ⟨by omega,h1,by omega,by omega,fun h2=>?_,fun h2=>klp_n (i + 1) ⟨by omega,fun k hk2=>?_⟩ (show a.length - (i + 1) < a.length - i by omega) (Wk.of ?_ ?_)⟩
      · have r:(a == b) = false:=by
          rw [beq_eq_false_iff_ne]
          intro e
          rw [e] at h2
          simp at h2
        rw [r]
        exact pdone [] (by rfl) rfl
      · rcases Nat.lt_or_ge k i with h4 | h4
        · exact hk k h4
        · obtain rfl:k = i:=by omega
          simpa using h2
      · simp only [go_sem,e8]
        try simp
      · simp only [go_sem]
    · have r:a = b:=nth_eqI (by omega) (fun k hk2=>hk k (by omega))
      have r2:(a == b) = true:=by rw [r]; exact beq_self_eq_true b
      simp only [go_sem,decide_eq_false h1]
      rw [r2]
      exact pdone [] (by rfl) rfl
  · have r:(a == b) = false:=by
      rw [beq_eq_false_iff_ne]
      intro e; rw [e] at hl; exact hl rfl
    have b1:((a.length:Int) != (b.length:Int)) = true:=by simpa using hl
    simp only [go_sem,FX7,b1]
    rw [r]
    exact pdone [] (by rfl) rfl
theorem m_sameO (x y:Ins) (h1:x.ty.length ≤ 9223372036854775807) (h2:x.lb.length ≤ 9223372036854775807):PCalls Tryz.prog nX99 [ins_ x,ins_ y] (.bool (sI x y)):=by
  refine pfun_sound (ic:=FX99.body) mixed cX99 rfl rfl ?_
  have a1:=m_eq2 x.ty y.ty (by omega)
  have a2:=m_eq1 x.lb y.lb (by omega)
  have ft:∀ b:Bool,(true && b) = b:=fun _=>rfl
  have ff:∀ b:Bool,(false && b) = false:=fun _=>rfl
  unfold sI
  simp only [go_sem,FX99]
  refine ⟨fun c1=>⟨fun c2=>⟨fun c3=>⟨fun c4=>⟨fun c5=>?_,fun c5=>?_⟩,fun c4=>?_⟩,fun c3=>?_⟩,fun c2=>?_⟩,fun c1=>?_⟩
  · rw [c1,c2,c3,c4,c5,ft,ft,ft,ft,ft]
    refine call_same (a1) (by simp [go_sem]) ?_
    cases c6:x.ty == y.ty
    · simp only [go_sem]
      exact pdone [] (by rfl) rfl
    · simp only [go_sem,ft]
      refine call_same (a2) (by simp [go_sem]) ?_
      simp only [go_sem]
      exact pdone [] (by rfl) rfl
  · rw [c1,c2,c3,c4,c5]
    exact pdone [] (by rfl) rfl
  · rw [c1,c2,c3,c4]
    exact pdone [] (by rfl) rfl
  · rw [c1,c2,c3]
    exact pdone [] (by rfl) rfl
  · rw [c1,c2]
    exact pdone [] (by rfl) rfl
  · rw [c1]
    exact pdone [] (by rfl) rfl
theorem m_op (x y:Ins) (h:smI x):PCalls Tryz.prog nX99 [.agg (insC x),.agg (insC y)] (.bool (decide (x = y))):=by
  rw [← sI_eq]
  exact m_sameO x y (by have:=h.1; omega) (by have:=h.2; omega)
theorem m_rows (a b:List Ins) (h:smIs a):PCalls Tryz.prog nX115 [.sl 9 (a.map insC),.sl 9 (b.map insC)] (.bool (decide (a = b))):=by
  refine pfun_sound (ic:=FX115.body) mixed cX115 rfl rfl ?_
  have c:=m_sameIns (f:=nX99) (by kernel_rfl) a b (by have:=h.1; omega) (fun x hx y=>m_op x y (h.2 x hx))
  simp only [go_sem,FX115]
  refine call_same (c) (by simp [go_sem]) ?_
  simp only [go_sem]
  exact pdone [] (by simp only [go_sem]) (by first | rfl | simp [go_sem,slv_ids])
theorem m_vals (a b:List Int) (ha:a.length ≤ 9223372036854775807):PCalls Tryz.prog nX48 [.sl 1 (a.map vl_),.sl 1 (b.map vl_)] (.bool (decide (a = b))):=by
  refine pfun_sound (ic:=FX48.body) mixed cX48 rfl rfl ?_
  by_cases hl:(a.length:Int) = (b.length:Int)
  rotate_left
  · rw [decide_eq_false (fun h=>hl (by rw [h]))]
    simp only [go_sem,FX48,bne_t hl]
    exact pdone [] (by simp only [go_sem]) (by first | rfl | simp [go_sem,slv_ids])
  simp only [go_sem,FX48,bne_f hl]
  refine loop_rule (fun j:Nat=>⟨[(14,.int .i64 j),(13,.int .i64 a.length),(12,.sl 1 (a.map vl_)),(1,.sl 1 (b.map vl_))],[]⟩) (fun j=>j ≤ a.length ∧ ∀ k,k < j → nth a k = nth b k) (fun j=>a.length - j) 0 ⟨Nat.zero_le _,fun k hk=>by omega⟩ (Wk.of ?_ ?_) ?_
  · simp only [go_sem,hl]; try simp
  · simp only [go_sem]
  rintro j ⟨hj,hx⟩
  by_cases h1:(j:Int) < (a.length:Int)
  rotate_left
  · rw [decide_eq_true (ext_nt (by omega) fun k hk=>hx k (by omega))]
    simp only [go_sem,decide_eq_false h1]
    exact pdone [] (by simp only [go_sem]) (by first | rfl | simp [go_sem,slv_ids])
  have hj':j < a.length:=by omega
  have hjb:(j:Int) < (b.length:Int):=by omega
  have e8:=i_bd hj' (by omega)
  by_cases h2:nth a j = nth b j
  · simp only [go_sem,decide_eq_true h1,bne_f h2]
    refine ⟨by omega,h1,by omega,hjb,klp_n (j + 1) ⟨show j + 1 ≤ a.length by omega,fun k hk=>?_⟩ (show a.length - (j + 1) < a.length - j by omega) (Wk.of ?_ ?_)⟩
    · rcases Nat.lt_or_ge k j with h | h
      · exact hx k h
      · rw [show k = j by omega]; exact h2
    · simp only [go_sem,e8]; try simp
    · simp only [go_sem]
  · rw [decide_eq_false (fun e=>h2 (by rw [e]))]
    simp only [go_sem,decide_eq_true h1,bne_t h2]
    refine ⟨by omega,h1,by omega,hjb,?_⟩
    exact pdone [] (by simp only [go_sem]) (by first | rfl | simp [go_sem,slv_ids])
theorem m_svals (a b:List Int) (ha:a.length ≤ 9223372036854775807):PCalls Tryz.prog nX58 [.sl 1 (a.map vl_),.sl 1 (b.map vl_)] (.bool (decide (a = b))):=by
  refine pfun_sound (ic:=FX58.body) mixed cX58 rfl rfl ?_
  simp only [go_sem,FX58]
  refine call_same (m_vals a b ha) (by simp [go_sem]) ?_
  simp only [go_sem]
  exact pdone [] (by simp only [go_sem]) (by first | rfl | simp [go_sem,slv_ids])
theorem m_ft (x y:Ft) (h:smF x):PCalls Tryz.prog nX106 [.agg (ftC x),.agg (ftC y)] (.bool (decide (x = y))):=by
  refine pfun_sound (ic:=FX106.body) mixed cX106 rfl rfl ?_
  have d0:=m_vals x.ps y.ps h.1
  have d1:=m_vals x.rs y.rs h.2
  by_cases c0:x.ps = y.ps
  rotate_left
  · rw [decide_eq_false (fun e=>c0 (by rw [e]))]
    rw [decide_eq_false c0] at d0
    simp only [go_sem,FX106]
    refine call_same (d0) (by simp [go_sem]) ?_
    simp only [go_sem,ins_e]
    exact pdone [] (by simp only [go_sem]) (by first | rfl | simp [go_sem,slv_ids])
  rw [decide_eq_true c0] at d0
  by_cases c1:x.rs = y.rs
  rotate_left
  · rw [decide_eq_false (fun e=>c1 (by rw [e]))]
    rw [decide_eq_false c1] at d1
    simp only [go_sem,FX106]
    refine call_same (d0) (by simp [go_sem]) ?_
    simp only [go_sem,ins_e]
    refine call_same (d1) (by simp [go_sem]) ?_
    simp only [go_sem,ins_e]
    exact pdone [] (by simp only [go_sem]) (by first | rfl | simp [go_sem,slv_ids])
  rw [decide_eq_true c1] at d1
  rw [decide_eq_true (show x = y by obtain ⟨x0,x1⟩:=x; obtain ⟨y0,y1⟩:=y; simp only at c0 c1; simp only [c0,c1])]
  simp only [go_sem,FX106]
  refine call_same (d0) (by simp [go_sem]) ?_
  simp only [go_sem,ins_e]
  refine call_same (d1) (by simp [go_sem]) ?_
  simp only [go_sem,ins_e]
  exact pdone [] (by simp only [go_sem]) (by first | rfl | simp [go_sem,slv_ids])
theorem m_cd (x y:Cd) (h:smCd x):PCalls Tryz.prog nX88 [.agg (cdC x),.agg (cdC y)] (.bool (decide (x = y))):=by
  refine pfun_sound (ic:=FX88.body) mixed cX88 rfl rfl ?_
  have d1:=m_svals x.lo y.lo h.1
  have d2:=m_rows x.b y.b h.2
  by_cases c0:x.t = y.t
  rotate_left
  · rw [decide_eq_false (fun e=>c0 (by rw [e]))]
    simp only [go_sem,FX88,beq_f c0]
    exact pdone [] (by simp only [go_sem]) (by first | rfl | simp [go_sem,slv_ids])
  by_cases c1:x.lo = y.lo
  rotate_left
  · rw [decide_eq_false (fun e=>c1 (by rw [e]))]
    rw [decide_eq_false c1] at d1
    simp only [go_sem,FX88,beq_t c0]
    refine call_same (d1) (by simp [go_sem]) ?_
    simp only [go_sem,beq_t c0]
    exact pdone [] (by simp only [go_sem]) (by first | rfl | simp [go_sem,slv_ids])
  rw [decide_eq_true c1] at d1
  by_cases c2:x.b = y.b
  rotate_left
  · rw [decide_eq_false (fun e=>c2 (by rw [e]))]
    rw [decide_eq_false c2] at d2
    simp only [go_sem,FX88,beq_t c0]
    refine call_same (d1) (by simp [go_sem]) ?_
    simp only [go_sem,beq_t c0]
    refine call_same (d2) (by simp [go_sem]) ?_
    simp only [go_sem,beq_t c0]
    exact pdone [] (by simp only [go_sem]) (by first | rfl | simp [go_sem,slv_ids])
  rw [decide_eq_true c2] at d2
  rw [decide_eq_true (show x = y by obtain ⟨x0,x1,x2⟩:=x; obtain ⟨y0,y1,y2⟩:=y; simp only at c0 c1 c2; simp only [c0,c1,c2])]
  simp only [go_sem,FX88,beq_t c0]
  refine call_same (d1) (by simp [go_sem]) ?_
  simp only [go_sem,beq_t c0]
  refine call_same (d2) (by simp [go_sem]) ?_
  simp only [go_sem,beq_t c0]
  exact pdone [] (by simp only [go_sem]) (by first | rfl | simp [go_sem,slv_ids])
theorem m_gd (x y:Gd) (h:smGd x):PCalls Tryz.prog nX89 [.agg (gdC x),.agg (gdC y)] (.bool (decide (x = y))):=by
  refine pfun_sound (ic:=FX89.body) mixed cX89 rfl rfl ?_
  have d1:=m_rows x.i y.i h
  by_cases c0:x.g = y.g
  rotate_left
  · rw [decide_eq_false (fun e=>c0 (by rw [e]))]
    simp only [go_sem,FX89,gl_eq,decide_eq_false c0]
    exact pdone [] (by simp only [go_sem]) (by first | rfl | simp [go_sem,slv_ids])
  by_cases c1:x.i = y.i
  rotate_left
  · rw [decide_eq_false (fun e=>c1 (by rw [e]))]
    rw [decide_eq_false c1] at d1
    simp only [go_sem,FX89,gl_eq,decide_eq_true c0]
    refine call_same (d1) (by simp [go_sem]) ?_
    simp only [go_sem,gl_eq,decide_eq_true c0]
    exact pdone [] (by simp only [go_sem]) (by first | rfl | simp [go_sem,slv_ids])
  rw [decide_eq_true c1] at d1
  rw [decide_eq_true (show x = y by obtain ⟨x0,x1⟩:=x; obtain ⟨y0,y1⟩:=y; simp only at c0 c1; simp only [c0,c1])]
  simp only [go_sem,FX89,gl_eq,decide_eq_true c0]
  refine call_same (d1) (by simp [go_sem]) ?_
  simp only [go_sem,gl_eq,decide_eq_true c0]
  exact pdone [] (by simp only [go_sem]) (by first | rfl | simp [go_sem,slv_ids])
theorem m_el (x y:El) (h:smEl x):PCalls Tryz.prog nX90 [.agg (elC x),.agg (elC y)] (.bool (decide (x = y))):=by
  refine pfun_sound (ic:=FX90.body) mixed cX90 rfl rfl ?_
  have d3:=m_rows x.o y.o h.1
  have d4:=m_sameLs (f:=nX115) (by kernel_rfl) x.it y.it (by have:=h.2.1; omega) (fun l hl k=>m_rows l k (h.2.2 l hl))
  by_cases c0:x.mo = y.mo
  rotate_left
  · rw [decide_eq_false (fun e=>c0 (by rw [e]))]
    simp only [go_sem,FX90,beq_f c0]
    exact pdone [] (by simp only [go_sem]) (by first | rfl | simp [go_sem,slv_ids])
  by_cases c1:x.tb = y.tb
  rotate_left
  · rw [decide_eq_false (fun e=>c1 (by rw [e]))]
    simp only [go_sem,FX90,beq_t c0,beq_f c1]
    exact pdone [] (by simp only [go_sem]) (by first | rfl | simp [go_sem,slv_ids])
  by_cases c2:x.ty = y.ty
  rotate_left
  · rw [decide_eq_false (fun e=>c2 (by rw [e]))]
    simp only [go_sem,FX90,beq_t c0,beq_t c1,beq_f c2]
    exact pdone [] (by simp only [go_sem]) (by first | rfl | simp [go_sem,slv_ids])
  by_cases c3:x.o = y.o
  rotate_left
  · rw [decide_eq_false (fun e=>c3 (by rw [e]))]
    rw [decide_eq_false c3] at d3
    simp only [go_sem,FX90,beq_t c0,beq_t c1,beq_t c2]
    refine call_same (d3) (by simp [go_sem]) ?_
    simp only [go_sem,beq_t c0,beq_t c1,beq_t c2]
    exact pdone [] (by simp only [go_sem]) (by first | rfl | simp [go_sem,slv_ids])
  rw [decide_eq_true c3] at d3
  by_cases c4:x.it = y.it
  rotate_left
  · rw [decide_eq_false (fun e=>c4 (by rw [e]))]
    rw [decide_eq_false c4] at d4
    simp only [go_sem,FX90,beq_t c0,beq_t c1,beq_t c2]
    refine call_same (d3) (by simp [go_sem]) ?_
    simp only [go_sem,beq_t c0,beq_t c1,beq_t c2]
    refine call_same (d4) (by simp [go_sem]) ?_
    simp only [go_sem,beq_t c0,beq_t c1,beq_t c2]
    exact pdone [] (by simp only [go_sem]) (by first | rfl | simp [go_sem,slv_ids])
  rw [decide_eq_true c4] at d4
  rw [decide_eq_true (show x = y by obtain ⟨x0,x1,x2,x3,x4⟩:=x; obtain ⟨y0,y1,y2,y3,y4⟩:=y; simp only at c0 c1 c2 c3 c4; simp only [c0,c1,c2,c3,c4])]
  simp only [go_sem,FX90,beq_t c0,beq_t c1,beq_t c2]
  refine call_same (d3) (by simp [go_sem]) ?_
  simp only [go_sem,beq_t c0,beq_t c1,beq_t c2]
  refine call_same (d4) (by simp [go_sem]) ?_
  simp only [go_sem,beq_t c0,beq_t c1,beq_t c2]
  exact pdone [] (by simp only [go_sem]) (by first | rfl | simp [go_sem,slv_ids])
theorem m_da (x y:Da) (h:smDa x):PCalls Tryz.prog nX91 [.agg (daC x),.agg (daC y)] (.bool (decide (x = y))):=by
  refine pfun_sound (ic:=FX91.body) mixed cX91 rfl rfl ?_
  have d2:=m_rows x.o y.o h.1
  by_cases c0:x.mo = y.mo
  rotate_left
  · rw [decide_eq_false (fun e=>c0 (by rw [e]))]
    simp only [go_sem,FX91,beq_f c0]
    exact pdone [] (by simp only [go_sem]) (by first | rfl | simp [go_sem,slv_ids])
  by_cases c1:x.me = y.me
  rotate_left
  · rw [decide_eq_false (fun e=>c1 (by rw [e]))]
    simp only [go_sem,FX91,beq_t c0,beq_f c1]
    exact pdone [] (by simp only [go_sem]) (by first | rfl | simp [go_sem,slv_ids])
  by_cases c2:x.o = y.o
  rotate_left
  · rw [decide_eq_false (fun e=>c2 (by rw [e]))]
    rw [decide_eq_false c2] at d2
    simp only [go_sem,FX91,beq_t c0,beq_t c1]
    refine call_same (d2) (by simp [go_sem]) ?_
    simp only [go_sem,beq_t c0,beq_t c1]
    exact pdone [] (by simp only [go_sem]) (by first | rfl | simp [go_sem,slv_ids])
  rw [decide_eq_true c2] at d2
  by_cases c3:x.b = y.b
  rotate_left
  · rw [decide_eq_false (fun e=>c3 (by rw [e]))]
    simp only [go_sem,FX91,beq_t c0,beq_t c1,bytes_by,Option.map_some,bst c3]
    refine call_same (d2) (by simp [go_sem]) ?_
    simp only [go_sem,beq_t c0,beq_t c1,bytes_by,Option.map_some,bst c3]
    exact pdone [] (by simp only [go_sem]) (by first | rfl | simp [go_sem,slv_ids])
  rw [decide_eq_true (show x = y by obtain ⟨x0,x1,x2,x3⟩:=x; obtain ⟨y0,y1,y2,y3⟩:=y; simp only at c0 c1 c2 c3; simp only [c0,c1,c2,c3])]
  simp only [go_sem,FX91,beq_t c0,beq_t c1,bytes_by,Option.map_some,bsf c3]
  refine call_same (d2) (by simp [go_sem]) ?_
  simp only [go_sem,beq_t c0,beq_t c1,bytes_by,Option.map_some,bsf c3]
  exact pdone [] (by simp only [go_sem]) (by first | rfl | simp [go_sem,slv_ids])
theorem m_cu (x y:Cu):PCalls Tryz.prog nX92 [.agg (cuC x),.agg (cuC y)] (.bool (decide (x = y))):=by
  refine pfun_sound (ic:=FX92.body) mixed cX92 rfl rfl ?_
  by_cases c0:x.af = y.af
  rotate_left
  · rw [decide_eq_false (fun e=>c0 (by rw [e]))]
    simp only [go_sem,FX92,beq_f c0]
    exact pdone [] (by simp only [go_sem]) (by first | rfl | simp [go_sem,slv_ids])
  by_cases c1:x.n = y.n
  rotate_left
  · rw [decide_eq_false (fun e=>c1 (by rw [e]))]
    simp only [go_sem,FX92,beq_t c0,bst c1]
    exact pdone [] (by simp only [go_sem]) (by first | rfl | simp [go_sem,slv_ids])
  by_cases c2:x.b = y.b
  rotate_left
  · rw [decide_eq_false (fun e=>c2 (by rw [e]))]
    simp only [go_sem,FX92,beq_t c0,bsf c1,bytes_by,Option.map_some,bst c2]
    exact pdone [] (by simp only [go_sem]) (by first | rfl | simp [go_sem,slv_ids])
  rw [decide_eq_true (show x = y by obtain ⟨x0,x1,x2⟩:=x; obtain ⟨y0,y1,y2⟩:=y; simp only at c0 c1 c2; simp only [c0,c1,c2])]
  simp only [go_sem,FX92,beq_t c0,bsf c1,bytes_by,Option.map_some,bsf c2]
  exact pdone [] (by simp only [go_sem]) (by first | rfl | simp [go_sem,slv_ids])
end Go.Proofs.YtoaagdbbbojpmaaGreatDoor
