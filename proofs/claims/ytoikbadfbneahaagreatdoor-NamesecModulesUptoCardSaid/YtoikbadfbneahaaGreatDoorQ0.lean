/-
  Chapter 7,walks: the reference's Same of instructions (printed by tools/gm3.py).
-/
import Derived.Test.YtoikbadfbneahaaGreatDoorQk
import Derived.Test.YtoikbadfbneahaaGreatDoorQf
set_option linter.unusedVariables false
set_option linter.unusedSimpArgs false
set_option linter.unusedSectionVars false
set_option maxRecDepth 100000
set_option maxHeartbeats 40000000
set_option linter.unusedVariables false
set_option linter.unusedSimpArgs false
namespace Go.Proofs.YtoikbadfbneahaaGreatDoor
open Go Go.Mw
-- @U: ins_e,vl_e,List.length_map

deriving instance DecidableEq for Ins,Ft,Lm,Gl,Im,Cd,Tb,Gd,Ex,El,Da,Cu,Md
theorem nth_eqI {a b:List Int} (hl:a.length = b.length) (h:∀ k,k < a.length → nth a k = nth b k):a = b:=by
  apply List.ext_getElem hl
  intro i h1 h2
  have:=h i h1
  rwa [nth_eq h1,nth_eq h2] at this
def sI (x y:Ins):Bool:=(x.op == y.op) && ((x.a == y.a) && ((x.b == y.b) && ((x.n == y.n) && (((x.k == y.k) && ((x.v == y.v) && (x.x == y.x))) && ((x.ty == y.ty) && (x.lb == y.lb))))))
theorem r_sameI (x y:Ins) (h1:x.ty.length ≤ 9223372036854775807) (h2:x.lb.length ≤ 9223372036854775807):PCalls Tryz.prog nX100 [ins_ x,ins_ y] (.bool (sI x y)):=by
  refine pfun_sound (ic:=FX100.body) mixed cX100 rfl rfl ?_
  have ft:∀ b:Bool,(true && b) = b:=fun _=>rfl
  have ff:∀ b:Bool,(false && b) = false:=fun _=>rfl
  have nt:∀ {a b:Int},(a != b) = true → (a == b) = false:=fun h=>by simpa using h
  have nf:∀ {a b:Int},(a != b) = false → (a == b) = true:=fun h=>by simpa using h
  have lt:∀ {a b:List Int},((a.length:Int) != (b.length:Int)) = true → (a == b) = false:=fun {a b} h=>by
    rw [beq_eq_false_iff_ne]
    intro e; rw [e] at h; simp at h
  have lf:∀ {a b:List Int},((a.length:Int) != (b.length:Int)) = false → a.length = b.length:=fun {a b} h=>by
    have h2:¬ ((a.length:Int) ≠ (b.length:Int)):=by simpa using h
    omega
  have nb:∀ {b:Bool},(!b) = true → b = false:=fun {b} h=>by cases b <;> first | rfl | cases h
  have nc:∀ {b:Bool},(!b) = false → b = true:=fun {b} h=>by cases b <;> first | rfl | cases h
  unfold sI
  simp only [go_sem,ins_e,vl_e,List.length_map,FX100]
  refine ⟨fun c1=>?_,fun c1=>⟨fun c2=>?_,fun c2=>⟨fun c3=>?_,fun c3=>⟨fun c4=>?_,fun c4=>⟨fun c5=>?_,fun c5=>⟨fun c6=>?_,fun c6=>⟨fun c7=>?_,fun c7=>?_⟩⟩⟩⟩⟩⟩⟩
  · rw [nt c1]
    exact pdone [] (by rfl) rfl
  · rw [nf c1,nt c2]
    exact pdone [] (by rfl) rfl
  · rw [nf c1,nf c2,nt c3]
    exact pdone [] (by rfl) rfl
  · rw [nf c1,nf c2,nf c3,nt c4]
    exact pdone [] (by rfl) rfl
  · rw [nf c1,nf c2,nf c3,nf c4,nb c5]
    exact pdone [] (by rfl) rfl
  · rw [nf c1,nf c2,nf c3,nf c4,nc c5,lt c6]
    exact pdone [] (by rfl) rfl
  · rw [nf c1,nf c2,nf c3,nf c4,nc c5,lt c7,Bool.and_false]
    exact pdone [] (by rfl) rfl
  rw [nf c1,nf c2,nf c3,nf c4,nc c5,ft,ft,ft,ft,ft]
  replace c6:=lf c6
  replace c7:=lf c7
  refine loop_rule (fun i:Nat=>⟨[(2,.mp 2 9 0 0),(3,.mp 3 9 0 0),(5,.int .i64 i)],[(3,⟨221,9,[[.int .i64 y.op,.int .i64 y.a,.int .i64 y.b,.int .u64 y.n,.int .i64 y.k,.int .i64 y.v,.int .i64 y.x,.sl 1 (y.ty.map vl_),.sl 1 (y.lb.map vl_)]],true⟩),(2,⟨221,9,[[.int .i64 x.op,.int .i64 x.a,.int .i64 x.b,.int .u64 x.n,.int .i64 x.k,.int .i64 x.v,.int .i64 x.x,.sl 1 (x.ty.map vl_),.sl 1 (x.lb.map vl_)]],true⟩)]⟩) (fun i=>i ≤ x.ty.length ∧ ∀ k,k < i → nth x.ty k = nth y.ty k) (fun i=>x.ty.length - i) 0 ⟨Nat.zero_le _,fun k hk=>absurd hk (Nat.not_lt_zero k)⟩ (Wk.of ?_ ?_) ?_
  · simp only [go_sem,ins_e,vl_e,List.length_map]; try simp
  · simp only [go_sem,ins_e,vl_e,List.length_map]
  rintro i ⟨hi,hk⟩
  by_cases q1:(i:Int) < (x.ty.length:Int)
  · have e8:=wi (n:=(i:Int) + 1) (by omega) (by omega)
    simp only [go_sem,ins_e,vl_e,List.length_map,decide_eq_true q1]
    refine ⟨by omega,q1,by omega,by omega,fun g2=>?_,fun g2=>klp_n (i + 1) ⟨by omega,fun k hk9=>?_⟩ (show x.ty.length - (i + 1) < x.ty.length - i by omega) (Wk.of ?_ ?_)⟩
    · have r:(x.ty == y.ty) = false:=by
        rw [beq_eq_false_iff_ne]
        intro e
        rw [e] at g2
        simp at g2
      rw [r,ff]
      exact pdone [] (by rfl) rfl
    · rcases Nat.lt_or_ge k i with h4 | h4
      · exact hk k h4
      · obtain rfl:k = i:=by omega
        simpa using g2
    · simp only [go_sem,ins_e,vl_e,List.length_map,e8]
      try simp
    · simp only [go_sem,ins_e,vl_e,List.length_map]
  · have r:(x.ty == y.ty) = true:=by rw [nth_eqI c6 (fun k hk2=>hk k (by omega))]; exact beq_self_eq_true _
    rw [r,ft]
    simp only [go_sem,ins_e,vl_e,List.length_map,decide_eq_false q1]
    refine loop_rule (fun i:Nat=>⟨[(2,.mp 2 9 0 0),(3,.mp 3 9 0 0),(6,.int .i64 i)],[(3,⟨221,9,[[.int .i64 y.op,.int .i64 y.a,.int .i64 y.b,.int .u64 y.n,.int .i64 y.k,.int .i64 y.v,.int .i64 y.x,.sl 1 (y.ty.map vl_),.sl 1 (y.lb.map vl_)]],true⟩),(2,⟨221,9,[[.int .i64 x.op,.int .i64 x.a,.int .i64 x.b,.int .u64 x.n,.int .i64 x.k,.int .i64 x.v,.int .i64 x.x,.sl 1 (x.ty.map vl_),.sl 1 (x.lb.map vl_)]],true⟩)]⟩) (fun i=>i ≤ x.lb.length ∧ ∀ k,k < i → nth x.lb k = nth y.lb k) (fun i=>x.lb.length - i) 0 ⟨Nat.zero_le _,fun k hk=>absurd hk (Nat.not_lt_zero k)⟩ (Wk.of ?_ ?_) ?_
    · simp only [go_sem,ins_e,vl_e,List.length_map]; try simp
    · simp only [go_sem,ins_e,vl_e,List.length_map]
    rintro j ⟨hj,hk2⟩
    by_cases q2:(j:Int) < (x.lb.length:Int)
    · have e9:=wi (n:=(j:Int) + 1) (by omega) (by omega)
      simp only [go_sem,ins_e,vl_e,List.length_map,decide_eq_true q2]
      refine ⟨by omega,q2,by omega,by omega,fun g2=>?_,fun g2=>klp_n (j + 1) ⟨by omega,fun k hk9=>?_⟩ (show x.lb.length - (j + 1) < x.lb.length - j by omega) (Wk.of ?_ ?_)⟩
      · have r:(x.lb == y.lb) = false:=by
          rw [beq_eq_false_iff_ne]
          intro e
          rw [e] at g2
          simp at g2
        rw [r]
        exact pdone [] (by rfl) rfl
      · rcases Nat.lt_or_ge k j with h4 | h4
        · exact hk2 k h4
        · obtain rfl:k = j:=by omega
          simpa using g2
      · simp only [go_sem,ins_e,vl_e,List.length_map,e9]
        try simp
      · simp only [go_sem,ins_e,vl_e,List.length_map]
    · have r:(x.lb == y.lb) = true:=by rw [nth_eqI c7 (fun k hk3=>hk2 k (by omega))]; exact beq_self_eq_true _
      rw [r]
      simp only [go_sem,ins_e,vl_e,List.length_map,decide_eq_false q2]
      exact pdone [] (by rfl) rfl
theorem sI_eq (x y:Ins):sI x y = decide (x = y):=by
  obtain ⟨a1,a2,a3,a4,a5,a6,a7,a8,a9⟩:=x
  obtain ⟨b1,b2,b3,b4,b5,b6,b7,b8,b9⟩:=y
  unfold sI
  by_cases h1:a1 = b1 <;> by_cases h2:a2 = b2 <;> by_cases h3:a3 = b3 <;> by_cases h4:a4 = b4 <;> by_cases h5:a5 = b5 <;> by_cases h6:a6 = b6 <;> by_cases h7:a7 = b7 <;> by_cases h8:a8 = b8 <;> by_cases h9:a9 = b9 <;> simp [h1,h2,h3,h4,h5,h6,h7,h8,h9]
theorem r_sameD (x y:Ins) (h:smI x):PCalls Tryz.prog nX100 [ins_ x,ins_ y] (.bool (decide (x = y))):=by
  rw [← sI_eq]
  exact r_sameI x y (by have:=h.1; omega) (by have:=h.2; omega)
theorem i_bd {j n:Nat} (h:j < n) (hn:n ≤ 9223372036854775807):IntKind.i64.wrap ((j:Int) + 1) = (j:Int) + 1:=wi (by omega) (by omega)
theorem ext_nt {α:Type} [Inhabited α] {a b:List α} (hl:a.length = b.length) (h:∀ k,k < a.length → nth a k = nth b k):a = b:=by
  apply List.ext_getElem hl
  intro i h1 h2
  have:=h i h1
  rwa [nth_eq h1,nth_eq h2] at this
end Go.Proofs.YtoikbadfbneahaaGreatDoor
set_option maxRecDepth 100000
set_option maxHeartbeats 40000000
set_option linter.unusedVariables false
set_option linter.unusedSimpArgs false
namespace Go.Proofs.YtoikbadfbneahaaGreatDoor
open Go Go.Mw
-- @U: List.length_map,ftC_e,imC_e,cdC_e,tbC_e,lmC_e,gdC_e,exC_e,daC_e,cuC_e,ins_e,insC

theorem im_eq {x y:Im}:((x.m == y.m) && ((x.n == y.n) && ((x.k == y.k) && ((x.f == y.f) && ((x.te == y.te) && ((x.tl.mn == y.tl.mn) && ((x.tl.mx == y.tl.mx) && ((x.tl.hs == y.tl.hs) && ((x.me.mn == y.me.mn) && ((x.me.mx == y.me.mx) && ((x.me.hs == y.me.hs) && ((x.g.v == y.g.v) && (x.g.mu == y.g.mu))))))))))))) = decide (x = y):=by
  obtain ⟨a1,a2,a3,a4,a5,⟨a6,a7,a8⟩,⟨a9,a10,a11⟩,⟨a12,a13⟩⟩:=x
  obtain ⟨b1,b2,b3,b4,b5,⟨b6,b7,b8⟩,⟨b9,b10,b11⟩,⟨b12,b13⟩⟩:=y
  rw [Bool.eq_iff_iff]
  simp only [Bool.and_eq_true,beq_iff_eq,decide_eq_true_eq,Im.mk.injEq,Lm.mk.injEq,Gl.mk.injEq,and_assoc]
theorem lm_eq {x y:Lm}:((x.mn == y.mn) && ((x.mx == y.mx) && (x.hs == y.hs))) = decide (x = y):=by
  obtain ⟨a1,a2,a3⟩:=x
  obtain ⟨b1,b2,b3⟩:=y
  rw [Bool.eq_iff_iff]
  simp only [Bool.and_eq_true,beq_iff_eq,decide_eq_true_eq,Lm.mk.injEq,and_assoc]
theorem tb_eq {x y:Tb}:((x.e == y.e) && ((x.l.mn == y.l.mn) && ((x.l.mx == y.l.mx) && (x.l.hs == y.l.hs)))) = decide (x = y):=by
  obtain ⟨a1,⟨a2,a3,a4⟩⟩:=x
  obtain ⟨b1,⟨b2,b3,b4⟩⟩:=y
  rw [Bool.eq_iff_iff]
  simp only [Bool.and_eq_true,beq_iff_eq,decide_eq_true_eq,Tb.mk.injEq,Lm.mk.injEq,and_assoc]
theorem ex_eq {x y:Ex}:((x.n == y.n) && ((x.k == y.k) && (x.i == y.i))) = decide (x = y):=by
  obtain ⟨a1,a2,a3⟩:=x
  obtain ⟨b1,b2,b3⟩:=y
  rw [Bool.eq_iff_iff]
  simp only [Bool.and_eq_true,beq_iff_eq,decide_eq_true_eq,Ex.mk.injEq,and_assoc]
theorem gl_eq {x y:Gl}:((x.v == y.v) && (x.mu == y.mu)) = decide (x = y):=by
  obtain ⟨a1,a2⟩:=x
  obtain ⟨b1,b2⟩:=y
  rw [Bool.eq_iff_iff]
  simp only [Bool.and_eq_true,beq_iff_eq,decide_eq_true_eq,Gl.mk.injEq]
theorem r_sameall (a b:List Ins) (ha:a.length ≤ 1048576 ∧ ∀ x ∈ a,smI x):PCalls Tryz.prog nX62 [.sl 9 (a.map insC),.sl 9 (b.map insC)] (.bool (decide (a = b))):=by
  refine pfun_sound (ic:=FX62.body) mixed cX62 rfl rfl ?_
  by_cases hl:(a.length:Int) = (b.length:Int)
  rotate_left
  · rw [decide_eq_false (fun h=>hl (by rw [h]))]
    simp only [go_sem,List.length_map,ftC_e,imC_e,cdC_e,tbC_e,lmC_e,gdC_e,exC_e,daC_e,cuC_e,ins_e,insC,FX62,bne_t hl]
    exact pdone [] (by simp only [go_sem,List.length_map,ftC_e,imC_e,cdC_e,tbC_e,lmC_e,gdC_e,exC_e,daC_e,cuC_e,ins_e,insC]) (by first | rfl | simp [go_sem,slv_ids,List.length_map,ftC_e,imC_e,cdC_e,tbC_e,lmC_e,gdC_e,exC_e,daC_e,cuC_e,ins_e,insC])
  simp only [go_sem,List.length_map,ftC_e,imC_e,cdC_e,tbC_e,lmC_e,gdC_e,exC_e,daC_e,cuC_e,ins_e,insC,FX62,bne_f hl]
  refine loop_rule (fun j:Nat=>⟨[(5,.int .i64 j),(0,.sl 9 (a.map insC)),(1,.sl 9 (b.map insC))],[]⟩) (fun j=>j ≤ a.length ∧ ∀ k,k < j → nth a k = nth b k) (fun j=>a.length - j) 0 ⟨Nat.zero_le _,fun k hk=>by omega⟩ (Wk.of ?_ ?_) ?_
  · simp only [go_sem,List.length_map,ftC_e,imC_e,cdC_e,tbC_e,lmC_e,gdC_e,exC_e,daC_e,cuC_e,ins_e,insC]; try simp
  · simp only [go_sem,List.length_map,ftC_e,imC_e,cdC_e,tbC_e,lmC_e,gdC_e,exC_e,daC_e,cuC_e,ins_e,insC]
  rintro j ⟨hj,hx⟩
  by_cases h1:(j:Int) < (a.length:Int)
  rotate_left
  · rw [decide_eq_true (ext_nt (by omega) fun k hk=>hx k (by omega))]
    simp only [go_sem,List.length_map,ftC_e,imC_e,cdC_e,tbC_e,lmC_e,gdC_e,exC_e,daC_e,cuC_e,ins_e,insC,decide_eq_false h1]
    exact pdone [] (by simp only [go_sem,List.length_map,ftC_e,imC_e,cdC_e,tbC_e,lmC_e,gdC_e,exC_e,daC_e,cuC_e,ins_e,insC]) (by first | rfl | simp [go_sem,slv_ids,List.length_map,ftC_e,imC_e,cdC_e,tbC_e,lmC_e,gdC_e,exC_e,daC_e,cuC_e,ins_e,insC])
  have hj':j < a.length:=by omega
  have hjb:(j:Int) < (b.length:Int):=by omega
  have e8:=i_bd hj' (by omega)
  obtain ⟨ha,hs⟩:=ha
  have hX:=at_in hs hj'
  clear hs
  have neq:nth a j ≠ nth b j → decide (a = b) = false:=fun h=>decide_eq_false (fun e=>h (by rw [e]))
  have cc:=r_sameD (nth a j) (nth b j) hX
  try simp only [ins_e,ftC_e] at cc
  by_cases h2:nth a j = nth b j
  · rw [decide_eq_true h2] at cc
    simp only [go_sem,List.length_map,ftC_e,imC_e,cdC_e,tbC_e,lmC_e,gdC_e,exC_e,daC_e,cuC_e,ins_e,insC,decide_eq_true h1]
    refine ⟨by omega,h1,by omega,hjb,?_⟩
    refine call_same (cc) (by simp [go_sem,List.length_map,ftC_e,imC_e,cdC_e,tbC_e,lmC_e,gdC_e,exC_e,daC_e,cuC_e,ins_e,insC]) ?_
    simp only [go_sem,List.length_map,ftC_e,imC_e,cdC_e,tbC_e,lmC_e,gdC_e,exC_e,daC_e,cuC_e,ins_e,insC]
    refine klp_n (j + 1) ⟨show j + 1 ≤ a.length by omega,fun k hk=>?_⟩ (show a.length - (j + 1) < a.length - j by omega) (Wk.of ?_ ?_)
    · rcases Nat.lt_or_ge k j with h | h
      · exact hx k h
      · rw [show k = j by omega]; exact h2
    · simp only [go_sem,List.length_map,ftC_e,imC_e,cdC_e,tbC_e,lmC_e,gdC_e,exC_e,daC_e,cuC_e,ins_e,insC,e8]; try simp
    · simp only [go_sem,List.length_map,ftC_e,imC_e,cdC_e,tbC_e,lmC_e,gdC_e,exC_e,daC_e,cuC_e,ins_e,insC]
  · rw [decide_eq_false h2] at cc
    rw [neq h2]
    simp only [go_sem,List.length_map,ftC_e,imC_e,cdC_e,tbC_e,lmC_e,gdC_e,exC_e,daC_e,cuC_e,ins_e,insC,decide_eq_true h1]
    refine ⟨by omega,h1,by omega,hjb,?_⟩
    refine call_same (cc) (by simp [go_sem,List.length_map,ftC_e,imC_e,cdC_e,tbC_e,lmC_e,gdC_e,exC_e,daC_e,cuC_e,ins_e,insC]) ?_
    simp only [go_sem,List.length_map,ftC_e,imC_e,cdC_e,tbC_e,lmC_e,gdC_e,exC_e,daC_e,cuC_e,ins_e,insC]
    exact pdone [] (by simp only [go_sem,List.length_map,ftC_e,imC_e,cdC_e,tbC_e,lmC_e,gdC_e,exC_e,daC_e,cuC_e,ins_e,insC]) (by first | rfl | simp [go_sem,slv_ids,List.length_map,ftC_e,imC_e,cdC_e,tbC_e,lmC_e,gdC_e,exC_e,daC_e,cuC_e,ins_e,insC])
theorem r_vals (a b:List Int) (ha:a.length ≤ 1048576):PCalls Tryz.prog nX52 [.sl 1 (a.map vl_),.sl 1 (b.map vl_)] (.bool (decide (a = b))):=by
  refine pfun_sound (ic:=FX52.body) mixed cX52 rfl rfl ?_
  by_cases hl:(a.length:Int) = (b.length:Int)
  rotate_left
  · rw [decide_eq_false (fun h=>hl (by rw [h]))]
    simp only [go_sem,List.length_map,ftC_e,imC_e,cdC_e,tbC_e,lmC_e,gdC_e,exC_e,daC_e,cuC_e,ins_e,insC,FX52,bne_t hl]
    exact pdone [] (by simp only [go_sem,List.length_map,ftC_e,imC_e,cdC_e,tbC_e,lmC_e,gdC_e,exC_e,daC_e,cuC_e,ins_e,insC]) (by first | rfl | simp [go_sem,slv_ids,List.length_map,ftC_e,imC_e,cdC_e,tbC_e,lmC_e,gdC_e,exC_e,daC_e,cuC_e,ins_e,insC])
  simp only [go_sem,List.length_map,ftC_e,imC_e,cdC_e,tbC_e,lmC_e,gdC_e,exC_e,daC_e,cuC_e,ins_e,insC,FX52,bne_f hl]
  refine loop_rule (fun j:Nat=>⟨[(5,.int .i64 j),(0,.sl 1 (a.map vl_)),(1,.sl 1 (b.map vl_))],[]⟩) (fun j=>j ≤ a.length ∧ ∀ k,k < j → nth a k = nth b k) (fun j=>a.length - j) 0 ⟨Nat.zero_le _,fun k hk=>by omega⟩ (Wk.of ?_ ?_) ?_
  · simp only [go_sem,List.length_map,ftC_e,imC_e,cdC_e,tbC_e,lmC_e,gdC_e,exC_e,daC_e,cuC_e,ins_e,insC]; try simp
  · simp only [go_sem,List.length_map,ftC_e,imC_e,cdC_e,tbC_e,lmC_e,gdC_e,exC_e,daC_e,cuC_e,ins_e,insC]
  rintro j ⟨hj,hx⟩
  by_cases h1:(j:Int) < (a.length:Int)
  rotate_left
  · rw [decide_eq_true (ext_nt (by omega) fun k hk=>hx k (by omega))]
    simp only [go_sem,List.length_map,ftC_e,imC_e,cdC_e,tbC_e,lmC_e,gdC_e,exC_e,daC_e,cuC_e,ins_e,insC,decide_eq_false h1]
    exact pdone [] (by simp only [go_sem,List.length_map,ftC_e,imC_e,cdC_e,tbC_e,lmC_e,gdC_e,exC_e,daC_e,cuC_e,ins_e,insC]) (by first | rfl | simp [go_sem,slv_ids,List.length_map,ftC_e,imC_e,cdC_e,tbC_e,lmC_e,gdC_e,exC_e,daC_e,cuC_e,ins_e,insC])
  have hj':j < a.length:=by omega
  have hjb:(j:Int) < (b.length:Int):=by omega
  have e8:=i_bd hj' (by omega)
  have neq:nth a j ≠ nth b j → decide (a = b) = false:=fun h=>decide_eq_false (fun e=>h (by rw [e]))
  by_cases h2:nth a j = nth b j
  · simp only [go_sem,List.length_map,ftC_e,imC_e,cdC_e,tbC_e,lmC_e,gdC_e,exC_e,daC_e,cuC_e,ins_e,insC,decide_eq_true h1,bne_f h2]
    refine ⟨by omega,h1,by omega,hjb,klp_n (j + 1) ⟨show j + 1 ≤ a.length by omega,fun k hk=>?_⟩ (show a.length - (j + 1) < a.length - j by omega) (Wk.of ?_ ?_)⟩
    · rcases Nat.lt_or_ge k j with h | h
      · exact hx k h
      · rw [show k = j by omega]; exact h2
    · simp only [go_sem,List.length_map,ftC_e,imC_e,cdC_e,tbC_e,lmC_e,gdC_e,exC_e,daC_e,cuC_e,ins_e,insC,e8]; try simp
    · simp only [go_sem,List.length_map,ftC_e,imC_e,cdC_e,tbC_e,lmC_e,gdC_e,exC_e,daC_e,cuC_e,ins_e,insC]
  · rw [neq h2]
    simp only [go_sem,List.length_map,ftC_e,imC_e,cdC_e,tbC_e,lmC_e,gdC_e,exC_e,daC_e,cuC_e,ins_e,insC,decide_eq_true h1,bne_t h2]
    refine ⟨by omega,h1,by omega,hjb,?_⟩
    exact pdone [] (by simp only [go_sem,List.length_map,ftC_e,imC_e,cdC_e,tbC_e,lmC_e,gdC_e,exC_e,daC_e,cuC_e,ins_e,insC]) (by first | rfl | simp [go_sem,slv_ids,List.length_map,ftC_e,imC_e,cdC_e,tbC_e,lmC_e,gdC_e,exC_e,daC_e,cuC_e,ins_e,insC])
theorem r_ft (x y:Ft) (h:smF x):PCalls Tryz.prog nX94 [.agg (ftC x),.agg (ftC y)] (.bool (decide (x = y))):=by
  refine pfun_sound (ic:=FX94.body) mixed cX94 rfl rfl ?_
  have d1:=r_vals x.ps y.ps h.1
  have d2:=r_vals x.rs y.rs h.2
  by_cases c1:x.ps = y.ps
  rotate_left
  · rw [decide_eq_false c1] at d1
    rw [decide_eq_false (fun e=>c1 (by rw [e]))]
    simp only [go_sem,List.length_map,ftC_e,imC_e,cdC_e,tbC_e,lmC_e,gdC_e,exC_e,daC_e,cuC_e,ins_e,insC,FX94]
    refine call_same (d1) (by simp [go_sem,List.length_map,ftC_e,imC_e,cdC_e,tbC_e,lmC_e,gdC_e,exC_e,daC_e,cuC_e,ins_e,insC]) ?_
    simp only [go_sem,List.length_map,ftC_e,imC_e,cdC_e,tbC_e,lmC_e,gdC_e,exC_e,daC_e,cuC_e,ins_e,insC]
    exact pdone [] (by simp only [go_sem,List.length_map,ftC_e,imC_e,cdC_e,tbC_e,lmC_e,gdC_e,exC_e,daC_e,cuC_e,ins_e,insC]) (by first | rfl | simp [go_sem,slv_ids,List.length_map,ftC_e,imC_e,cdC_e,tbC_e,lmC_e,gdC_e,exC_e,daC_e,cuC_e,ins_e,insC])
  rw [decide_eq_true c1] at d1
  by_cases c2:x.rs = y.rs
  rotate_left
  · rw [decide_eq_false c2] at d2
    rw [decide_eq_false (fun e=>c2 (by rw [e]))]
    simp only [go_sem,List.length_map,ftC_e,imC_e,cdC_e,tbC_e,lmC_e,gdC_e,exC_e,daC_e,cuC_e,ins_e,insC,FX94]
    refine call_same (d1) (by simp [go_sem,List.length_map,ftC_e,imC_e,cdC_e,tbC_e,lmC_e,gdC_e,exC_e,daC_e,cuC_e,ins_e,insC]) ?_
    simp only [go_sem,List.length_map,ftC_e,imC_e,cdC_e,tbC_e,lmC_e,gdC_e,exC_e,daC_e,cuC_e,ins_e,insC]
    refine call_same (d2) (by simp [go_sem,List.length_map,ftC_e,imC_e,cdC_e,tbC_e,lmC_e,gdC_e,exC_e,daC_e,cuC_e,ins_e,insC]) ?_
    simp only [go_sem,List.length_map,ftC_e,imC_e,cdC_e,tbC_e,lmC_e,gdC_e,exC_e,daC_e,cuC_e,ins_e,insC]
    exact pdone [] (by simp only [go_sem,List.length_map,ftC_e,imC_e,cdC_e,tbC_e,lmC_e,gdC_e,exC_e,daC_e,cuC_e,ins_e,insC]) (by first | rfl | simp [go_sem,slv_ids,List.length_map,ftC_e,imC_e,cdC_e,tbC_e,lmC_e,gdC_e,exC_e,daC_e,cuC_e,ins_e,insC])
  rw [decide_eq_true c2] at d2
  rw [decide_eq_true (show x = y by obtain ⟨a1,a2⟩:=x; obtain ⟨b1,b2⟩:=y; simp only at c1 c2; rw [c1,c2])]
  simp only [go_sem,List.length_map,ftC_e,imC_e,cdC_e,tbC_e,lmC_e,gdC_e,exC_e,daC_e,cuC_e,ins_e,insC,FX94]
  refine call_same (d1) (by simp [go_sem,List.length_map,ftC_e,imC_e,cdC_e,tbC_e,lmC_e,gdC_e,exC_e,daC_e,cuC_e,ins_e,insC]) ?_
  simp only [go_sem,List.length_map,ftC_e,imC_e,cdC_e,tbC_e,lmC_e,gdC_e,exC_e,daC_e,cuC_e,ins_e,insC]
  refine call_same (d2) (by simp [go_sem,List.length_map,ftC_e,imC_e,cdC_e,tbC_e,lmC_e,gdC_e,exC_e,daC_e,cuC_e,ins_e,insC]) ?_
  simp only [go_sem,List.length_map,ftC_e,imC_e,cdC_e,tbC_e,lmC_e,gdC_e,exC_e,daC_e,cuC_e,ins_e,insC]
  exact pdone [] (by simp only [go_sem,List.length_map,ftC_e,imC_e,cdC_e,tbC_e,lmC_e,gdC_e,exC_e,daC_e,cuC_e,ins_e,insC]) (by first | rfl | simp [go_sem,slv_ids,List.length_map,ftC_e,imC_e,cdC_e,tbC_e,lmC_e,gdC_e,exC_e,daC_e,cuC_e,ins_e,insC])
theorem r_types (a b:List Ft) (ha:a.length ≤ 1048576 ∧ ∀ x ∈ a,smF x):PCalls Tryz.prog nX50 [.sl 2 (a.map ftC),.sl 2 (b.map ftC)] (.bool (decide (a = b))):=by
  refine pfun_sound (ic:=FX50.body) mixed cX50 rfl rfl ?_
  by_cases hl:(a.length:Int) = (b.length:Int)
  rotate_left
  · rw [decide_eq_false (fun h=>hl (by rw [h]))]
    simp only [go_sem,List.length_map,ftC_e,imC_e,cdC_e,tbC_e,lmC_e,gdC_e,exC_e,daC_e,cuC_e,ins_e,insC,FX50,bne_t hl]
    exact pdone [] (by simp only [go_sem,List.length_map,ftC_e,imC_e,cdC_e,tbC_e,lmC_e,gdC_e,exC_e,daC_e,cuC_e,ins_e,insC]) (by first | rfl | simp [go_sem,slv_ids,List.length_map,ftC_e,imC_e,cdC_e,tbC_e,lmC_e,gdC_e,exC_e,daC_e,cuC_e,ins_e,insC])
  simp only [go_sem,List.length_map,ftC_e,imC_e,cdC_e,tbC_e,lmC_e,gdC_e,exC_e,daC_e,cuC_e,ins_e,insC,FX50,bne_f hl]
  refine loop_rule (fun j:Nat=>⟨[(5,.int .i64 j),(0,.sl 2 (a.map ftC)),(1,.sl 2 (b.map ftC))],[]⟩) (fun j=>j ≤ a.length ∧ ∀ k,k < j → nth a k = nth b k) (fun j=>a.length - j) 0 ⟨Nat.zero_le _,fun k hk=>by omega⟩ (Wk.of ?_ ?_) ?_
  · simp only [go_sem,List.length_map,ftC_e,imC_e,cdC_e,tbC_e,lmC_e,gdC_e,exC_e,daC_e,cuC_e,ins_e,insC]; try simp
  · simp only [go_sem,List.length_map,ftC_e,imC_e,cdC_e,tbC_e,lmC_e,gdC_e,exC_e,daC_e,cuC_e,ins_e,insC]
  rintro j ⟨hj,hx⟩
  by_cases h1:(j:Int) < (a.length:Int)
  rotate_left
  · rw [decide_eq_true (ext_nt (by omega) fun k hk=>hx k (by omega))]
    simp only [go_sem,List.length_map,ftC_e,imC_e,cdC_e,tbC_e,lmC_e,gdC_e,exC_e,daC_e,cuC_e,ins_e,insC,decide_eq_false h1]
    exact pdone [] (by simp only [go_sem,List.length_map,ftC_e,imC_e,cdC_e,tbC_e,lmC_e,gdC_e,exC_e,daC_e,cuC_e,ins_e,insC]) (by first | rfl | simp [go_sem,slv_ids,List.length_map,ftC_e,imC_e,cdC_e,tbC_e,lmC_e,gdC_e,exC_e,daC_e,cuC_e,ins_e,insC])
  have hj':j < a.length:=by omega
  have hjb:(j:Int) < (b.length:Int):=by omega
  have e8:=i_bd hj' (by omega)
  obtain ⟨ha,hs⟩:=ha
  have hX:=at_in hs hj'
  clear hs
  have neq:nth a j ≠ nth b j → decide (a = b) = false:=fun h=>decide_eq_false (fun e=>h (by rw [e]))
  have cc:=r_ft (nth a j) (nth b j) hX
  try simp only [ins_e,ftC_e] at cc
  by_cases h2:nth a j = nth b j
  · rw [decide_eq_true h2] at cc
    simp only [go_sem,List.length_map,ftC_e,imC_e,cdC_e,tbC_e,lmC_e,gdC_e,exC_e,daC_e,cuC_e,ins_e,insC,decide_eq_true h1]
    refine ⟨by omega,h1,by omega,hjb,?_⟩
    refine call_same (cc) (by simp [go_sem,List.length_map,ftC_e,imC_e,cdC_e,tbC_e,lmC_e,gdC_e,exC_e,daC_e,cuC_e,ins_e,insC]) ?_
    simp only [go_sem,List.length_map,ftC_e,imC_e,cdC_e,tbC_e,lmC_e,gdC_e,exC_e,daC_e,cuC_e,ins_e,insC]
    refine klp_n (j + 1) ⟨show j + 1 ≤ a.length by omega,fun k hk=>?_⟩ (show a.length - (j + 1) < a.length - j by omega) (Wk.of ?_ ?_)
    · rcases Nat.lt_or_ge k j with h | h
      · exact hx k h
      · rw [show k = j by omega]; exact h2
    · simp only [go_sem,List.length_map,ftC_e,imC_e,cdC_e,tbC_e,lmC_e,gdC_e,exC_e,daC_e,cuC_e,ins_e,insC,e8]; try simp
    · simp only [go_sem,List.length_map,ftC_e,imC_e,cdC_e,tbC_e,lmC_e,gdC_e,exC_e,daC_e,cuC_e,ins_e,insC]
  · rw [decide_eq_false h2] at cc
    rw [neq h2]
    simp only [go_sem,List.length_map,ftC_e,imC_e,cdC_e,tbC_e,lmC_e,gdC_e,exC_e,daC_e,cuC_e,ins_e,insC,decide_eq_true h1]
    refine ⟨by omega,h1,by omega,hjb,?_⟩
    refine call_same (cc) (by simp [go_sem,List.length_map,ftC_e,imC_e,cdC_e,tbC_e,lmC_e,gdC_e,exC_e,daC_e,cuC_e,ins_e,insC]) ?_
    simp only [go_sem,List.length_map,ftC_e,imC_e,cdC_e,tbC_e,lmC_e,gdC_e,exC_e,daC_e,cuC_e,ins_e,insC]
    exact pdone [] (by simp only [go_sem,List.length_map,ftC_e,imC_e,cdC_e,tbC_e,lmC_e,gdC_e,exC_e,daC_e,cuC_e,ins_e,insC]) (by first | rfl | simp [go_sem,slv_ids,List.length_map,ftC_e,imC_e,cdC_e,tbC_e,lmC_e,gdC_e,exC_e,daC_e,cuC_e,ins_e,insC])
theorem r_imps (a b:List Im) (ha:a.length ≤ 1048576):PCalls Tryz.prog nX39 [.sl 13 (a.map imC),.sl 13 (b.map imC)] (.bool (decide (a = b))):=by
  refine pfun_sound (ic:=FX39.body) mixed cX39 rfl rfl ?_
  by_cases hl:(a.length:Int) = (b.length:Int)
  rotate_left
  · rw [decide_eq_false (fun h=>hl (by rw [h]))]
    simp only [go_sem,List.length_map,ftC_e,imC_e,cdC_e,tbC_e,lmC_e,gdC_e,exC_e,daC_e,cuC_e,ins_e,insC,FX39,bne_t hl]
    exact pdone [] (by simp only [go_sem,List.length_map,ftC_e,imC_e,cdC_e,tbC_e,lmC_e,gdC_e,exC_e,daC_e,cuC_e,ins_e,insC]) (by first | rfl | simp [go_sem,slv_ids,List.length_map,ftC_e,imC_e,cdC_e,tbC_e,lmC_e,gdC_e,exC_e,daC_e,cuC_e,ins_e,insC])
  simp only [go_sem,List.length_map,ftC_e,imC_e,cdC_e,tbC_e,lmC_e,gdC_e,exC_e,daC_e,cuC_e,ins_e,insC,FX39,bne_f hl]
  refine loop_rule (fun j:Nat=>⟨[(5,.int .i64 j),(0,.sl 13 (a.map imC)),(1,.sl 13 (b.map imC))],[]⟩) (fun j=>j ≤ a.length ∧ ∀ k,k < j → nth a k = nth b k) (fun j=>a.length - j) 0 ⟨Nat.zero_le _,fun k hk=>by omega⟩ (Wk.of ?_ ?_) ?_
  · simp only [go_sem,List.length_map,ftC_e,imC_e,cdC_e,tbC_e,lmC_e,gdC_e,exC_e,daC_e,cuC_e,ins_e,insC]; try simp
  · simp only [go_sem,List.length_map,ftC_e,imC_e,cdC_e,tbC_e,lmC_e,gdC_e,exC_e,daC_e,cuC_e,ins_e,insC]
  rintro j ⟨hj,hx⟩
  by_cases h1:(j:Int) < (a.length:Int)
  rotate_left
  · rw [decide_eq_true (ext_nt (by omega) fun k hk=>hx k (by omega))]
    simp only [go_sem,List.length_map,ftC_e,imC_e,cdC_e,tbC_e,lmC_e,gdC_e,exC_e,daC_e,cuC_e,ins_e,insC,decide_eq_false h1]
    exact pdone [] (by simp only [go_sem,List.length_map,ftC_e,imC_e,cdC_e,tbC_e,lmC_e,gdC_e,exC_e,daC_e,cuC_e,ins_e,insC]) (by first | rfl | simp [go_sem,slv_ids,List.length_map,ftC_e,imC_e,cdC_e,tbC_e,lmC_e,gdC_e,exC_e,daC_e,cuC_e,ins_e,insC])
  have hj':j < a.length:=by omega
  have hjb:(j:Int) < (b.length:Int):=by omega
  have e8:=i_bd hj' (by omega)
  have neq:nth a j ≠ nth b j → decide (a = b) = false:=fun h=>decide_eq_false (fun e=>h (by rw [e]))
  by_cases h2:nth a j = nth b j
  · simp only [go_sem,List.length_map,ftC_e,imC_e,cdC_e,tbC_e,lmC_e,gdC_e,exC_e,daC_e,cuC_e,ins_e,insC,decide_eq_true h1,im_eq,decide_eq_true h2,Bool.not_true]
    refine ⟨by omega,h1,by omega,hjb,klp_n (j + 1) ⟨show j + 1 ≤ a.length by omega,fun k hk=>?_⟩ (show a.length - (j + 1) < a.length - j by omega) (Wk.of ?_ ?_)⟩
    · rcases Nat.lt_or_ge k j with h | h
      · exact hx k h
      · rw [show k = j by omega]; exact h2
    · simp only [go_sem,List.length_map,ftC_e,imC_e,cdC_e,tbC_e,lmC_e,gdC_e,exC_e,daC_e,cuC_e,ins_e,insC,e8]; try simp
    · simp only [go_sem,List.length_map,ftC_e,imC_e,cdC_e,tbC_e,lmC_e,gdC_e,exC_e,daC_e,cuC_e,ins_e,insC]
  · rw [neq h2]
    simp only [go_sem,List.length_map,ftC_e,imC_e,cdC_e,tbC_e,lmC_e,gdC_e,exC_e,daC_e,cuC_e,ins_e,insC,decide_eq_true h1,im_eq,decide_eq_false h2,Bool.not_false]
    refine ⟨by omega,h1,by omega,hjb,?_⟩
    exact pdone [] (by simp only [go_sem,List.length_map,ftC_e,imC_e,cdC_e,tbC_e,lmC_e,gdC_e,exC_e,daC_e,cuC_e,ins_e,insC]) (by first | rfl | simp [go_sem,slv_ids,List.length_map,ftC_e,imC_e,cdC_e,tbC_e,lmC_e,gdC_e,exC_e,daC_e,cuC_e,ins_e,insC])
theorem r_exps (a b:List Ex) (ha:a.length ≤ 1048576):PCalls Tryz.prog nX36 [.sl 3 (a.map exC),.sl 3 (b.map exC)] (.bool (decide (a = b))):=by
  refine pfun_sound (ic:=FX36.body) mixed cX36 rfl rfl ?_
  by_cases hl:(a.length:Int) = (b.length:Int)
  rotate_left
  · rw [decide_eq_false (fun h=>hl (by rw [h]))]
    simp only [go_sem,List.length_map,ftC_e,imC_e,cdC_e,tbC_e,lmC_e,gdC_e,exC_e,daC_e,cuC_e,ins_e,insC,FX36,bne_t hl]
    exact pdone [] (by simp only [go_sem,List.length_map,ftC_e,imC_e,cdC_e,tbC_e,lmC_e,gdC_e,exC_e,daC_e,cuC_e,ins_e,insC]) (by first | rfl | simp [go_sem,slv_ids,List.length_map,ftC_e,imC_e,cdC_e,tbC_e,lmC_e,gdC_e,exC_e,daC_e,cuC_e,ins_e,insC])
  simp only [go_sem,List.length_map,ftC_e,imC_e,cdC_e,tbC_e,lmC_e,gdC_e,exC_e,daC_e,cuC_e,ins_e,insC,FX36,bne_f hl]
  refine loop_rule (fun j:Nat=>⟨[(5,.int .i64 j),(0,.sl 3 (a.map exC)),(1,.sl 3 (b.map exC))],[]⟩) (fun j=>j ≤ a.length ∧ ∀ k,k < j → nth a k = nth b k) (fun j=>a.length - j) 0 ⟨Nat.zero_le _,fun k hk=>by omega⟩ (Wk.of ?_ ?_) ?_
  · simp only [go_sem,List.length_map,ftC_e,imC_e,cdC_e,tbC_e,lmC_e,gdC_e,exC_e,daC_e,cuC_e,ins_e,insC]; try simp
  · simp only [go_sem,List.length_map,ftC_e,imC_e,cdC_e,tbC_e,lmC_e,gdC_e,exC_e,daC_e,cuC_e,ins_e,insC]
  rintro j ⟨hj,hx⟩
  by_cases h1:(j:Int) < (a.length:Int)
  rotate_left
  · rw [decide_eq_true (ext_nt (by omega) fun k hk=>hx k (by omega))]
    simp only [go_sem,List.length_map,ftC_e,imC_e,cdC_e,tbC_e,lmC_e,gdC_e,exC_e,daC_e,cuC_e,ins_e,insC,decide_eq_false h1]
    exact pdone [] (by simp only [go_sem,List.length_map,ftC_e,imC_e,cdC_e,tbC_e,lmC_e,gdC_e,exC_e,daC_e,cuC_e,ins_e,insC]) (by first | rfl | simp [go_sem,slv_ids,List.length_map,ftC_e,imC_e,cdC_e,tbC_e,lmC_e,gdC_e,exC_e,daC_e,cuC_e,ins_e,insC])
  have hj':j < a.length:=by omega
  have hjb:(j:Int) < (b.length:Int):=by omega
  have e8:=i_bd hj' (by omega)
  have neq:nth a j ≠ nth b j → decide (a = b) = false:=fun h=>decide_eq_false (fun e=>h (by rw [e]))
  by_cases h2:nth a j = nth b j
  · simp only [go_sem,List.length_map,ftC_e,imC_e,cdC_e,tbC_e,lmC_e,gdC_e,exC_e,daC_e,cuC_e,ins_e,insC,decide_eq_true h1,ex_eq,decide_eq_true h2,Bool.not_true]
    refine ⟨by omega,h1,by omega,hjb,klp_n (j + 1) ⟨show j + 1 ≤ a.length by omega,fun k hk=>?_⟩ (show a.length - (j + 1) < a.length - j by omega) (Wk.of ?_ ?_)⟩
    · rcases Nat.lt_or_ge k j with h | h
      · exact hx k h
      · rw [show k = j by omega]; exact h2
    · simp only [go_sem,List.length_map,ftC_e,imC_e,cdC_e,tbC_e,lmC_e,gdC_e,exC_e,daC_e,cuC_e,ins_e,insC,e8]; try simp
    · simp only [go_sem,List.length_map,ftC_e,imC_e,cdC_e,tbC_e,lmC_e,gdC_e,exC_e,daC_e,cuC_e,ins_e,insC]
  · rw [neq h2]
    simp only [go_sem,List.length_map,ftC_e,imC_e,cdC_e,tbC_e,lmC_e,gdC_e,exC_e,daC_e,cuC_e,ins_e,insC,decide_eq_true h1,ex_eq,decide_eq_false h2,Bool.not_false]
    refine ⟨by omega,h1,by omega,hjb,?_⟩
    exact pdone [] (by simp only [go_sem,List.length_map,ftC_e,imC_e,cdC_e,tbC_e,lmC_e,gdC_e,exC_e,daC_e,cuC_e,ins_e,insC]) (by first | rfl | simp [go_sem,slv_ids,List.length_map,ftC_e,imC_e,cdC_e,tbC_e,lmC_e,gdC_e,exC_e,daC_e,cuC_e,ins_e,insC])
end Go.Proofs.YtoikbadfbneahaaGreatDoor
