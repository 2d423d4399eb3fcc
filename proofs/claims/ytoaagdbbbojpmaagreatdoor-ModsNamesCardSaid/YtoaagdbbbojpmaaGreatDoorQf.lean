/-
  Chapter 7,walks: the program records the first fault; part[T] (printed by tools/gmi.py).
-/
import Derived.Test.YtoaagdbbbojpmaaGreatDoorQe
set_option linter.unusedVariables false
set_option linter.unusedSimpArgs false
set_option linter.unusedSectionVars false
set_option maxRecDepth 100000
set_option maxHeartbeats 40000000
set_option linter.unusedVariables false
set_option linter.unusedSimpArgs false
namespace Go.Proofs.YtoaagdbbbojpmaaGreatDoor
open Go Go.Mw
-- @U: List.length_map,ck,ftC_e,imC_e,cdC_e,tbC_e,lmC_e,gdC_e,exC_e,daC_e,cuC_e,elC_e,inL_e,insC

structure Fa where
  p:Int
  i:Int
  l:Int
  c:Int
def ck (F:Fa):AObj:=⟨126,4,[[.int .i64 F.p,.int .i64 F.i,.int .i64 F.l,.int .i64 F.c]],true⟩
def failA (F:Fa) (p i l e:Int):Fa:=if F.c = 0 ∧ e ≠ 0 then ⟨p,i,l,e⟩ else F
def CM (f:FuncId) (rest:List AV) (F F':Fa):Prop:=ACalls Tryz.prog f (.mp 1000 4 0 0 :: rest) [(1000,ck F)] (fun id=>1000 ≤ id ∧ id < 2000) (fun r' σ'=>r' = .tup [] ∧ σ' = [(1000,ck F')])
attribute [local go_sem] List.length_map ck ftC_e imC_e cdC_e tbC_e lmC_e gdC_e exC_e daC_e cuC_e elC_e inL_e insC
theorem m_fail (F:Fa) (p i l e:Int):CM nX49 [.int .i64 p,.int .i64 i,.int .i64 l,.int .i64 e] F (failA F p i l e):=by
  refine fun_sound (ic:=FX49.body) mixed cX49 rfl rfl ?_
  unfold failA
  by_cases h1:F.c = 0
  · by_cases h2:e = 0
    · rw [if_neg (by simp [h2])]
      simp only [go_sem,FX49,beq_t h1,bne_f h2]
      exact done_n [] _ [(1000,ck F)] (by simp only [go_sem]) (by simp only [go_sem]) rfl ⟨rfl,rfl⟩
    · rw [if_pos ⟨h1,h2⟩]
      simp only [go_sem,FX49,beq_t h1,bne_t h2]
      exact done_n [] _ [(1000,ck ⟨p,i,l,e⟩)] (by simp only [go_sem]) (by simp only [go_sem]) rfl ⟨rfl,rfl⟩
  · rw [if_neg (fun q=>h1 q.1)]
    simp only [go_sem,FX49,beq_f h1]
    exact done_n [] _ [(1000,ck F)] (by simp only [go_sem]) (by simp only [go_sem]) rfl ⟨rfl,rfl⟩
theorem nth_map {α β:Type} [Inhabited α] [Inhabited β] {f:α → β} {l:List α} {i:Nat} (h:i < l.length):nth (l.map f) i = f (nth l i):=by
  rw [nth_eq (by simpa using h),nth_eq h,List.getElem_map]
def goA (n:Int):Nat → List (Int × Int) → Fa → Fa
  | _,[],F=>F
  | i,r :: l,F=>if F.c ≠ 0 then F else goA n (i + 1) l (failA F n i r.1 r.2)
def partA (n most imp:Int) (res:List (Int × Int)) (F:Fa):Fa :=
  goA n 0 res (if IntKind.i64.wrap ((res.length:Int) + imp) > most then failA F n (if 0 < IntKind.i64.wrap (most - imp) then IntKind.i64.wrap (most - imp) else 0) 0 6 else F)
theorem goA_at {n:Int} {l:List (Int × Int)} {i:Nat} (h:i < l.length) (F:Fa) (hF:F.c = 0):goA n i (l.drop i) F = goA n (i + 1) (l.drop (i + 1)) (failA F n i (nth l i).1 (nth l i).2):=by
  rw [drop_c h,goA,if_neg (by simp [hF])]
theorem goA_no {n:Int} {l:List (Int × Int)} {i:Nat} (F:Fa) (hF:F.c ≠ 0):goA n i l F = F:=by
  cases l with
  | nil=>rfl
  | cons r l=>rw [goA,if_pos hF]
theorem m_partFt {f:FuncId} (hb:hasBody Tryz.prog f = true) (g:Ft → Int × Int) (a:List Ft) (ha:a.length ≤ 9223372036854775807) (hf:∀ x ∈ a,∀ i:Int,PCalls Tryz.prog f [.int .i64 i,.agg (ftC x)] (.tup [.int .i64 (g x).1,.int .i64 (g x).2])) (n most imp:Int) (F:Fa) :
    CM nX42 [.int .i64 n,.sl 2 (a.map ftC),.int .i64 most,.int .i64 imp,.fn f []] F (partA n most imp (a.map g) F):=by
  refine fun_sound (ic:=FX42.body) mixed cX42 rfl rfl ?_
  obtain ⟨G,hG⟩:∃ G,partA n most imp (a.map g) F = G:=⟨_,rfl⟩
  rw [hG]
  unfold partA at hG
  rw [List.length_map] at hG
  have loop:∀ F0:Fa,goA n 0 (a.map g) F0 = G → ∀ j,j ≤ a.length → True:=fun _ _ _ _=>trivial
  clear loop
  by_cases hw:IntKind.i64.wrap ((a.length:Int) + imp) > most
  · rw [if_pos hw] at hG
    simp only [go_sem,FX42,decide_eq_true hw]
    refine call_m (m_fail F n (if 0 < IntKind.i64.wrap (most - imp) then IntKind.i64.wrap (most - imp) else 0) 0 6) ⟨by decide,by decide⟩ (by first | rfl | exact slv_ids _) (by simp [go_sem]) rfl rfl (by rfl) ?_
    simp only [go_sem]
    refine loop_rule (fun q:Nat × Fa=>⟨[(31,.int .i64 q.1),(30,.int .i64 a.length),(29,.sl 2 (a.map ftC)),(0,.mp 1000 4 0 0),(1,.int .i64 n),(5,.fn f [])],[(1000,ck q.2)]⟩) (fun q=>q.1 ≤ a.length ∧ G = goA n q.1 ((a.map g).drop q.1) q.2) (fun q=>a.length - q.1) (0,failA F n (if 0 < IntKind.i64.wrap (most - imp) then IntKind.i64.wrap (most - imp) else 0) 0 6) ⟨Nat.zero_le _,hG.symm⟩ (Wk.of ?_ ?_) ?_
    · simp only [go_sem]; try simp
    · simp only [go_sem]
    rintro ⟨j,E⟩ ⟨hj,hx⟩
    simp only at hj hx
    by_cases h1:(j:Int) < (a.length:Int)
    rotate_left
    · rw [drop_end (by rw [List.length_map]; omega)] at hx
      obtain rfl:G = E:=hx
      simp only [go_sem,decide_eq_false h1]
      exact done_n [] _ [(1000,ck G)] (by simp only [go_sem]) (by simp only [go_sem]) rfl ⟨rfl,rfl⟩
    have hj':j < a.length:=by omega
    have e8:=i_bd hj' (by omega)
    have cc:=at_in hf hj' (j:Int)
    by_cases hE:E.c = 0
    rotate_left
    · rw [goA_no E hE] at hx
      obtain rfl:G = E:=hx
      simp only [go_sem,decide_eq_true h1,bne_t hE]
      refine ⟨by omega,h1,?_⟩
      exact done [] (.tup []) [(1000,ck G)] (by simp only [go_sem]) (by simp only [go_sem]) rfl ⟨rfl,rfl⟩
    rw [goA_at (by rw [List.length_map]; exact hj') E hE,nth_map hj'] at hx
    try simp only [ftC_e,imC_e,cdC_e,tbC_e,lmC_e,gdC_e,exC_e,daC_e,cuC_e,elC_e,inL_e,insC] at cc
    simp only [go_sem,decide_eq_true h1,bne_f hE]
    refine ⟨by omega,h1,?_⟩
    refine ⟨hb,?_⟩
    refine call_same (cc) (by simp [go_sem]) ?_
    simp only [go_sem]
    refine call_m (m_fail E n j (g (nth a j)).1 (g (nth a j)).2) ⟨by decide,by decide⟩ (by first | rfl | exact slv_ids _) (by simp [go_sem]) rfl rfl (by rfl) ?_
    simp only [go_sem]
    refine klp_n (j + 1,failA E n j (g (nth a j)).1 (g (nth a j)).2) ⟨show j + 1 ≤ a.length by omega,hx⟩ (show a.length - (j + 1) < a.length - j by omega) (Wk.of ?_ ?_)
    · simp only [go_sem,e8]; try simp
    · simp only [go_sem]
  · rw [if_neg hw] at hG
    simp only [go_sem,FX42,decide_eq_false hw]
    refine loop_rule (fun q:Nat × Fa=>⟨[(31,.int .i64 q.1),(30,.int .i64 a.length),(29,.sl 2 (a.map ftC)),(0,.mp 1000 4 0 0),(1,.int .i64 n),(5,.fn f [])],[(1000,ck q.2)]⟩) (fun q=>q.1 ≤ a.length ∧ G = goA n q.1 ((a.map g).drop q.1) q.2) (fun q=>a.length - q.1) (0,F) ⟨Nat.zero_le _,hG.symm⟩ (Wk.of ?_ ?_) ?_
    · simp only [go_sem]; try simp
    · simp only [go_sem]
    rintro ⟨j,E⟩ ⟨hj,hx⟩
    simp only at hj hx
    by_cases h1:(j:Int) < (a.length:Int)
    rotate_left
    · rw [drop_end (by rw [List.length_map]; omega)] at hx
      obtain rfl:G = E:=hx
      simp only [go_sem,decide_eq_false h1]
      exact done_n [] _ [(1000,ck G)] (by simp only [go_sem]) (by simp only [go_sem]) rfl ⟨rfl,rfl⟩
    have hj':j < a.length:=by omega
    have e8:=i_bd hj' (by omega)
    have cc:=at_in hf hj' (j:Int)
    by_cases hE:E.c = 0
    rotate_left
    · rw [goA_no E hE] at hx
      obtain rfl:G = E:=hx
      simp only [go_sem,decide_eq_true h1,bne_t hE]
      refine ⟨by omega,h1,?_⟩
      exact done [] (.tup []) [(1000,ck G)] (by simp only [go_sem]) (by simp only [go_sem]) rfl ⟨rfl,rfl⟩
    rw [goA_at (by rw [List.length_map]; exact hj') E hE,nth_map hj'] at hx
    try simp only [ftC_e,imC_e,cdC_e,tbC_e,lmC_e,gdC_e,exC_e,daC_e,cuC_e,elC_e,inL_e,insC] at cc
    simp only [go_sem,decide_eq_true h1,bne_f hE]
    refine ⟨by omega,h1,?_⟩
    refine ⟨hb,?_⟩
    refine call_same (cc) (by simp [go_sem]) ?_
    simp only [go_sem]
    refine call_m (m_fail E n j (g (nth a j)).1 (g (nth a j)).2) ⟨by decide,by decide⟩ (by first | rfl | exact slv_ids _) (by simp [go_sem]) rfl rfl (by rfl) ?_
    simp only [go_sem]
    refine klp_n (j + 1,failA E n j (g (nth a j)).1 (g (nth a j)).2) ⟨show j + 1 ≤ a.length by omega,hx⟩ (show a.length - (j + 1) < a.length - j by omega) (Wk.of ?_ ?_)
    · simp only [go_sem,e8]; try simp
    · simp only [go_sem]
theorem m_partIm {f:FuncId} (hb:hasBody Tryz.prog f = true) (g:Im → Int × Int) (a:List Im) (ha:a.length ≤ 9223372036854775807) (hf:∀ x ∈ a,∀ i:Int,PCalls Tryz.prog f [.int .i64 i,.agg (imC x)] (.tup [.int .i64 (g x).1,.int .i64 (g x).2])) (n most imp:Int) (F:Fa) :
    CM nX20 [.int .i64 n,.sl 13 (a.map imC),.int .i64 most,.int .i64 imp,.fn f []] F (partA n most imp (a.map g) F):=by
  refine fun_sound (ic:=FX20.body) mixed cX20 rfl rfl ?_
  obtain ⟨G,hG⟩:∃ G,partA n most imp (a.map g) F = G:=⟨_,rfl⟩
  rw [hG]
  unfold partA at hG
  rw [List.length_map] at hG
  have loop:∀ F0:Fa,goA n 0 (a.map g) F0 = G → ∀ j,j ≤ a.length → True:=fun _ _ _ _=>trivial
  clear loop
  by_cases hw:IntKind.i64.wrap ((a.length:Int) + imp) > most
  · rw [if_pos hw] at hG
    simp only [go_sem,FX20,decide_eq_true hw]
    refine call_m (m_fail F n (if 0 < IntKind.i64.wrap (most - imp) then IntKind.i64.wrap (most - imp) else 0) 0 6) ⟨by decide,by decide⟩ (by first | rfl | exact slv_ids _) (by simp [go_sem]) rfl rfl (by rfl) ?_
    simp only [go_sem]
    refine loop_rule (fun q:Nat × Fa=>⟨[(31,.int .i64 q.1),(30,.int .i64 a.length),(29,.sl 13 (a.map imC)),(0,.mp 1000 4 0 0),(1,.int .i64 n),(5,.fn f [])],[(1000,ck q.2)]⟩) (fun q=>q.1 ≤ a.length ∧ G = goA n q.1 ((a.map g).drop q.1) q.2) (fun q=>a.length - q.1) (0,failA F n (if 0 < IntKind.i64.wrap (most - imp) then IntKind.i64.wrap (most - imp) else 0) 0 6) ⟨Nat.zero_le _,hG.symm⟩ (Wk.of ?_ ?_) ?_
    · simp only [go_sem]; try simp
    · simp only [go_sem]
    rintro ⟨j,E⟩ ⟨hj,hx⟩
    simp only at hj hx
    by_cases h1:(j:Int) < (a.length:Int)
    rotate_left
    · rw [drop_end (by rw [List.length_map]; omega)] at hx
      obtain rfl:G = E:=hx
      simp only [go_sem,decide_eq_false h1]
      exact done_n [] _ [(1000,ck G)] (by simp only [go_sem]) (by simp only [go_sem]) rfl ⟨rfl,rfl⟩
    have hj':j < a.length:=by omega
    have e8:=i_bd hj' (by omega)
    have cc:=at_in hf hj' (j:Int)
    by_cases hE:E.c = 0
    rotate_left
    · rw [goA_no E hE] at hx
      obtain rfl:G = E:=hx
      simp only [go_sem,decide_eq_true h1,bne_t hE]
      refine ⟨by omega,h1,?_⟩
      exact done [] (.tup []) [(1000,ck G)] (by simp only [go_sem]) (by simp only [go_sem]) rfl ⟨rfl,rfl⟩
    rw [goA_at (by rw [List.length_map]; exact hj') E hE,nth_map hj'] at hx
    try simp only [ftC_e,imC_e,cdC_e,tbC_e,lmC_e,gdC_e,exC_e,daC_e,cuC_e,elC_e,inL_e,insC] at cc
    simp only [go_sem,decide_eq_true h1,bne_f hE]
    refine ⟨by omega,h1,?_⟩
    refine ⟨hb,?_⟩
    refine call_same (cc) (by simp [go_sem]) ?_
    simp only [go_sem]
    refine call_m (m_fail E n j (g (nth a j)).1 (g (nth a j)).2) ⟨by decide,by decide⟩ (by first | rfl | exact slv_ids _) (by simp [go_sem]) rfl rfl (by rfl) ?_
    simp only [go_sem]
    refine klp_n (j + 1,failA E n j (g (nth a j)).1 (g (nth a j)).2) ⟨show j + 1 ≤ a.length by omega,hx⟩ (show a.length - (j + 1) < a.length - j by omega) (Wk.of ?_ ?_)
    · simp only [go_sem,e8]; try simp
    · simp only [go_sem]
  · rw [if_neg hw] at hG
    simp only [go_sem,FX20,decide_eq_false hw]
    refine loop_rule (fun q:Nat × Fa=>⟨[(31,.int .i64 q.1),(30,.int .i64 a.length),(29,.sl 13 (a.map imC)),(0,.mp 1000 4 0 0),(1,.int .i64 n),(5,.fn f [])],[(1000,ck q.2)]⟩) (fun q=>q.1 ≤ a.length ∧ G = goA n q.1 ((a.map g).drop q.1) q.2) (fun q=>a.length - q.1) (0,F) ⟨Nat.zero_le _,hG.symm⟩ (Wk.of ?_ ?_) ?_
    · simp only [go_sem]; try simp
    · simp only [go_sem]
    rintro ⟨j,E⟩ ⟨hj,hx⟩
    simp only at hj hx
    by_cases h1:(j:Int) < (a.length:Int)
    rotate_left
    · rw [drop_end (by rw [List.length_map]; omega)] at hx
      obtain rfl:G = E:=hx
      simp only [go_sem,decide_eq_false h1]
      exact done_n [] _ [(1000,ck G)] (by simp only [go_sem]) (by simp only [go_sem]) rfl ⟨rfl,rfl⟩
    have hj':j < a.length:=by omega
    have e8:=i_bd hj' (by omega)
    have cc:=at_in hf hj' (j:Int)
    by_cases hE:E.c = 0
    rotate_left
    · rw [goA_no E hE] at hx
      obtain rfl:G = E:=hx
      simp only [go_sem,decide_eq_true h1,bne_t hE]
      refine ⟨by omega,h1,?_⟩
      exact done [] (.tup []) [(1000,ck G)] (by simp only [go_sem]) (by simp only [go_sem]) rfl ⟨rfl,rfl⟩
    rw [goA_at (by rw [List.length_map]; exact hj') E hE,nth_map hj'] at hx
    try simp only [ftC_e,imC_e,cdC_e,tbC_e,lmC_e,gdC_e,exC_e,daC_e,cuC_e,elC_e,inL_e,insC] at cc
    simp only [go_sem,decide_eq_true h1,bne_f hE]
    refine ⟨by omega,h1,?_⟩
    refine ⟨hb,?_⟩
    refine call_same (cc) (by simp [go_sem]) ?_
    simp only [go_sem]
    refine call_m (m_fail E n j (g (nth a j)).1 (g (nth a j)).2) ⟨by decide,by decide⟩ (by first | rfl | exact slv_ids _) (by simp [go_sem]) rfl rfl (by rfl) ?_
    simp only [go_sem]
    refine klp_n (j + 1,failA E n j (g (nth a j)).1 (g (nth a j)).2) ⟨show j + 1 ≤ a.length by omega,hx⟩ (show a.length - (j + 1) < a.length - j by omega) (Wk.of ?_ ?_)
    · simp only [go_sem,e8]; try simp
    · simp only [go_sem]
theorem m_partCd {f:FuncId} (hb:hasBody Tryz.prog f = true) (g:Cd → Int × Int) (a:List Cd) (ha:a.length ≤ 9223372036854775807) (hf:∀ x ∈ a,∀ i:Int,PCalls Tryz.prog f [.int .i64 i,.agg (cdC x)] (.tup [.int .i64 (g x).1,.int .i64 (g x).2])) (n most imp:Int) (F:Fa) :
    CM nX39 [.int .i64 n,.sl 3 (a.map cdC),.int .i64 most,.int .i64 imp,.fn f []] F (partA n most imp (a.map g) F):=by
  refine fun_sound (ic:=FX39.body) mixed cX39 rfl rfl ?_
  obtain ⟨G,hG⟩:∃ G,partA n most imp (a.map g) F = G:=⟨_,rfl⟩
  rw [hG]
  unfold partA at hG
  rw [List.length_map] at hG
  have loop:∀ F0:Fa,goA n 0 (a.map g) F0 = G → ∀ j,j ≤ a.length → True:=fun _ _ _ _=>trivial
  clear loop
  by_cases hw:IntKind.i64.wrap ((a.length:Int) + imp) > most
  · rw [if_pos hw] at hG
    simp only [go_sem,FX39,decide_eq_true hw]
    refine call_m (m_fail F n (if 0 < IntKind.i64.wrap (most - imp) then IntKind.i64.wrap (most - imp) else 0) 0 6) ⟨by decide,by decide⟩ (by first | rfl | exact slv_ids _) (by simp [go_sem]) rfl rfl (by rfl) ?_
    simp only [go_sem]
    refine loop_rule (fun q:Nat × Fa=>⟨[(31,.int .i64 q.1),(30,.int .i64 a.length),(29,.sl 3 (a.map cdC)),(0,.mp 1000 4 0 0),(1,.int .i64 n),(5,.fn f [])],[(1000,ck q.2)]⟩) (fun q=>q.1 ≤ a.length ∧ G = goA n q.1 ((a.map g).drop q.1) q.2) (fun q=>a.length - q.1) (0,failA F n (if 0 < IntKind.i64.wrap (most - imp) then IntKind.i64.wrap (most - imp) else 0) 0 6) ⟨Nat.zero_le _,hG.symm⟩ (Wk.of ?_ ?_) ?_
    · simp only [go_sem]; try simp
    · simp only [go_sem]
    rintro ⟨j,E⟩ ⟨hj,hx⟩
    simp only at hj hx
    by_cases h1:(j:Int) < (a.length:Int)
    rotate_left
    · rw [drop_end (by rw [List.length_map]; omega)] at hx
      obtain rfl:G = E:=hx
      simp only [go_sem,decide_eq_false h1]
      exact done_n [] _ [(1000,ck G)] (by simp only [go_sem]) (by simp only [go_sem]) rfl ⟨rfl,rfl⟩
    have hj':j < a.length:=by omega
    have e8:=i_bd hj' (by omega)
    have cc:=at_in hf hj' (j:Int)
    by_cases hE:E.c = 0
    rotate_left
    · rw [goA_no E hE] at hx
      obtain rfl:G = E:=hx
      simp only [go_sem,decide_eq_true h1,bne_t hE]
      refine ⟨by omega,h1,?_⟩
      exact done [] (.tup []) [(1000,ck G)] (by simp only [go_sem]) (by simp only [go_sem]) rfl ⟨rfl,rfl⟩
    rw [goA_at (by rw [List.length_map]; exact hj') E hE,nth_map hj'] at hx
    try simp only [ftC_e,imC_e,cdC_e,tbC_e,lmC_e,gdC_e,exC_e,daC_e,cuC_e,elC_e,inL_e,insC] at cc
    simp only [go_sem,decide_eq_true h1,bne_f hE]
    refine ⟨by omega,h1,?_⟩
    refine ⟨hb,?_⟩
    refine call_same (cc) (by simp [go_sem]) ?_
    simp only [go_sem]
    refine call_m (m_fail E n j (g (nth a j)).1 (g (nth a j)).2) ⟨by decide,by decide⟩ (by first | rfl | exact slv_ids _) (by simp [go_sem]) rfl rfl (by rfl) ?_
    simp only [go_sem]
    refine klp_n (j + 1,failA E n j (g (nth a j)).1 (g (nth a j)).2) ⟨show j + 1 ≤ a.length by omega,hx⟩ (show a.length - (j + 1) < a.length - j by omega) (Wk.of ?_ ?_)
    · simp only [go_sem,e8]; try simp
    · simp only [go_sem]
  · rw [if_neg hw] at hG
    simp only [go_sem,FX39,decide_eq_false hw]
    refine loop_rule (fun q:Nat × Fa=>⟨[(31,.int .i64 q.1),(30,.int .i64 a.length),(29,.sl 3 (a.map cdC)),(0,.mp 1000 4 0 0),(1,.int .i64 n),(5,.fn f [])],[(1000,ck q.2)]⟩) (fun q=>q.1 ≤ a.length ∧ G = goA n q.1 ((a.map g).drop q.1) q.2) (fun q=>a.length - q.1) (0,F) ⟨Nat.zero_le _,hG.symm⟩ (Wk.of ?_ ?_) ?_
    · simp only [go_sem]; try simp
    · simp only [go_sem]
    rintro ⟨j,E⟩ ⟨hj,hx⟩
    simp only at hj hx
    by_cases h1:(j:Int) < (a.length:Int)
    rotate_left
    · rw [drop_end (by rw [List.length_map]; omega)] at hx
      obtain rfl:G = E:=hx
      simp only [go_sem,decide_eq_false h1]
      exact done_n [] _ [(1000,ck G)] (by simp only [go_sem]) (by simp only [go_sem]) rfl ⟨rfl,rfl⟩
    have hj':j < a.length:=by omega
    have e8:=i_bd hj' (by omega)
    have cc:=at_in hf hj' (j:Int)
    by_cases hE:E.c = 0
    rotate_left
    · rw [goA_no E hE] at hx
      obtain rfl:G = E:=hx
      simp only [go_sem,decide_eq_true h1,bne_t hE]
      refine ⟨by omega,h1,?_⟩
      exact done [] (.tup []) [(1000,ck G)] (by simp only [go_sem]) (by simp only [go_sem]) rfl ⟨rfl,rfl⟩
    rw [goA_at (by rw [List.length_map]; exact hj') E hE,nth_map hj'] at hx
    try simp only [ftC_e,imC_e,cdC_e,tbC_e,lmC_e,gdC_e,exC_e,daC_e,cuC_e,elC_e,inL_e,insC] at cc
    simp only [go_sem,decide_eq_true h1,bne_f hE]
    refine ⟨by omega,h1,?_⟩
    refine ⟨hb,?_⟩
    refine call_same (cc) (by simp [go_sem]) ?_
    simp only [go_sem]
    refine call_m (m_fail E n j (g (nth a j)).1 (g (nth a j)).2) ⟨by decide,by decide⟩ (by first | rfl | exact slv_ids _) (by simp [go_sem]) rfl rfl (by rfl) ?_
    simp only [go_sem]
    refine klp_n (j + 1,failA E n j (g (nth a j)).1 (g (nth a j)).2) ⟨show j + 1 ≤ a.length by omega,hx⟩ (show a.length - (j + 1) < a.length - j by omega) (Wk.of ?_ ?_)
    · simp only [go_sem,e8]; try simp
    · simp only [go_sem]
theorem m_partTb {f:FuncId} (hb:hasBody Tryz.prog f = true) (g:Tb → Int × Int) (a:List Tb) (ha:a.length ≤ 9223372036854775807) (hf:∀ x ∈ a,∀ i:Int,PCalls Tryz.prog f [.int .i64 i,.agg (tbC x)] (.tup [.int .i64 (g x).1,.int .i64 (g x).2])) (n most imp:Int) (F:Fa) :
    CM nX32 [.int .i64 n,.sl 4 (a.map tbC),.int .i64 most,.int .i64 imp,.fn f []] F (partA n most imp (a.map g) F):=by
  refine fun_sound (ic:=FX32.body) mixed cX32 rfl rfl ?_
  obtain ⟨G,hG⟩:∃ G,partA n most imp (a.map g) F = G:=⟨_,rfl⟩
  rw [hG]
  unfold partA at hG
  rw [List.length_map] at hG
  have loop:∀ F0:Fa,goA n 0 (a.map g) F0 = G → ∀ j,j ≤ a.length → True:=fun _ _ _ _=>trivial
  clear loop
  by_cases hw:IntKind.i64.wrap ((a.length:Int) + imp) > most
  · rw [if_pos hw] at hG
    simp only [go_sem,FX32,decide_eq_true hw]
    refine call_m (m_fail F n (if 0 < IntKind.i64.wrap (most - imp) then IntKind.i64.wrap (most - imp) else 0) 0 6) ⟨by decide,by decide⟩ (by first | rfl | exact slv_ids _) (by simp [go_sem]) rfl rfl (by rfl) ?_
    simp only [go_sem]
    refine loop_rule (fun q:Nat × Fa=>⟨[(31,.int .i64 q.1),(30,.int .i64 a.length),(29,.sl 4 (a.map tbC)),(0,.mp 1000 4 0 0),(1,.int .i64 n),(5,.fn f [])],[(1000,ck q.2)]⟩) (fun q=>q.1 ≤ a.length ∧ G = goA n q.1 ((a.map g).drop q.1) q.2) (fun q=>a.length - q.1) (0,failA F n (if 0 < IntKind.i64.wrap (most - imp) then IntKind.i64.wrap (most - imp) else 0) 0 6) ⟨Nat.zero_le _,hG.symm⟩ (Wk.of ?_ ?_) ?_
    · simp only [go_sem]; try simp
    · simp only [go_sem]
    rintro ⟨j,E⟩ ⟨hj,hx⟩
    simp only at hj hx
    by_cases h1:(j:Int) < (a.length:Int)
    rotate_left
    · rw [drop_end (by rw [List.length_map]; omega)] at hx
      obtain rfl:G = E:=hx
      simp only [go_sem,decide_eq_false h1]
      exact done_n [] _ [(1000,ck G)] (by simp only [go_sem]) (by simp only [go_sem]) rfl ⟨rfl,rfl⟩
    have hj':j < a.length:=by omega
    have e8:=i_bd hj' (by omega)
    have cc:=at_in hf hj' (j:Int)
    by_cases hE:E.c = 0
    rotate_left
    · rw [goA_no E hE] at hx
      obtain rfl:G = E:=hx
      simp only [go_sem,decide_eq_true h1,bne_t hE]
      refine ⟨by omega,h1,?_⟩
      exact done [] (.tup []) [(1000,ck G)] (by simp only [go_sem]) (by simp only [go_sem]) rfl ⟨rfl,rfl⟩
    rw [goA_at (by rw [List.length_map]; exact hj') E hE,nth_map hj'] at hx
    try simp only [ftC_e,imC_e,cdC_e,tbC_e,lmC_e,gdC_e,exC_e,daC_e,cuC_e,elC_e,inL_e,insC] at cc
    simp only [go_sem,decide_eq_true h1,bne_f hE]
    refine ⟨by omega,h1,?_⟩
    refine ⟨hb,?_⟩
    refine call_same (cc) (by simp [go_sem]) ?_
    simp only [go_sem]
    refine call_m (m_fail E n j (g (nth a j)).1 (g (nth a j)).2) ⟨by decide,by decide⟩ (by first | rfl | exact slv_ids _) (by simp [go_sem]) rfl rfl (by rfl) ?_
    simp only [go_sem]
    refine klp_n (j + 1,failA E n j (g (nth a j)).1 (g (nth a j)).2) ⟨show j + 1 ≤ a.length by omega,hx⟩ (show a.length - (j + 1) < a.length - j by omega) (Wk.of ?_ ?_)
    · simp only [go_sem,e8]; try simp
    · simp only [go_sem]
  · rw [if_neg hw] at hG
    simp only [go_sem,FX32,decide_eq_false hw]
    refine loop_rule (fun q:Nat × Fa=>⟨[(31,.int .i64 q.1),(30,.int .i64 a.length),(29,.sl 4 (a.map tbC)),(0,.mp 1000 4 0 0),(1,.int .i64 n),(5,.fn f [])],[(1000,ck q.2)]⟩) (fun q=>q.1 ≤ a.length ∧ G = goA n q.1 ((a.map g).drop q.1) q.2) (fun q=>a.length - q.1) (0,F) ⟨Nat.zero_le _,hG.symm⟩ (Wk.of ?_ ?_) ?_
    · simp only [go_sem]; try simp
    · simp only [go_sem]
    rintro ⟨j,E⟩ ⟨hj,hx⟩
    simp only at hj hx
    by_cases h1:(j:Int) < (a.length:Int)
    rotate_left
    · rw [drop_end (by rw [List.length_map]; omega)] at hx
      obtain rfl:G = E:=hx
      simp only [go_sem,decide_eq_false h1]
      exact done_n [] _ [(1000,ck G)] (by simp only [go_sem]) (by simp only [go_sem]) rfl ⟨rfl,rfl⟩
    have hj':j < a.length:=by omega
    have e8:=i_bd hj' (by omega)
    have cc:=at_in hf hj' (j:Int)
    by_cases hE:E.c = 0
    rotate_left
    · rw [goA_no E hE] at hx
      obtain rfl:G = E:=hx
      simp only [go_sem,decide_eq_true h1,bne_t hE]
      refine ⟨by omega,h1,?_⟩
      exact done [] (.tup []) [(1000,ck G)] (by simp only [go_sem]) (by simp only [go_sem]) rfl ⟨rfl,rfl⟩
    rw [goA_at (by rw [List.length_map]; exact hj') E hE,nth_map hj'] at hx
    try simp only [ftC_e,imC_e,cdC_e,tbC_e,lmC_e,gdC_e,exC_e,daC_e,cuC_e,elC_e,inL_e,insC] at cc
    simp only [go_sem,decide_eq_true h1,bne_f hE]
    refine ⟨by omega,h1,?_⟩
    refine ⟨hb,?_⟩
    refine call_same (cc) (by simp [go_sem]) ?_
    simp only [go_sem]
    refine call_m (m_fail E n j (g (nth a j)).1 (g (nth a j)).2) ⟨by decide,by decide⟩ (by first | rfl | exact slv_ids _) (by simp [go_sem]) rfl rfl (by rfl) ?_
    simp only [go_sem]
    refine klp_n (j + 1,failA E n j (g (nth a j)).1 (g (nth a j)).2) ⟨show j + 1 ≤ a.length by omega,hx⟩ (show a.length - (j + 1) < a.length - j by omega) (Wk.of ?_ ?_)
    · simp only [go_sem,e8]; try simp
    · simp only [go_sem]
theorem m_partLm {f:FuncId} (hb:hasBody Tryz.prog f = true) (g:Lm → Int × Int) (a:List Lm) (ha:a.length ≤ 9223372036854775807) (hf:∀ x ∈ a,∀ i:Int,PCalls Tryz.prog f [.int .i64 i,.agg (lmC x)] (.tup [.int .i64 (g x).1,.int .i64 (g x).2])) (n most imp:Int) (F:Fa) :
    CM nX21 [.int .i64 n,.sl 3 (a.map lmC),.int .i64 most,.int .i64 imp,.fn f []] F (partA n most imp (a.map g) F):=by
  refine fun_sound (ic:=FX21.body) mixed cX21 rfl rfl ?_
  obtain ⟨G,hG⟩:∃ G,partA n most imp (a.map g) F = G:=⟨_,rfl⟩
  rw [hG]
  unfold partA at hG
  rw [List.length_map] at hG
  have loop:∀ F0:Fa,goA n 0 (a.map g) F0 = G → ∀ j,j ≤ a.length → True:=fun _ _ _ _=>trivial
  clear loop
  by_cases hw:IntKind.i64.wrap ((a.length:Int) + imp) > most
  · rw [if_pos hw] at hG
    simp only [go_sem,FX21,decide_eq_true hw]
    refine call_m (m_fail F n (if 0 < IntKind.i64.wrap (most - imp) then IntKind.i64.wrap (most - imp) else 0) 0 6) ⟨by decide,by decide⟩ (by first | rfl | exact slv_ids _) (by simp [go_sem]) rfl rfl (by rfl) ?_
    simp only [go_sem]
    refine loop_rule (fun q:Nat × Fa=>⟨[(31,.int .i64 q.1),(30,.int .i64 a.length),(29,.sl 3 (a.map lmC)),(0,.mp 1000 4 0 0),(1,.int .i64 n),(5,.fn f [])],[(1000,ck q.2)]⟩) (fun q=>q.1 ≤ a.length ∧ G = goA n q.1 ((a.map g).drop q.1) q.2) (fun q=>a.length - q.1) (0,failA F n (if 0 < IntKind.i64.wrap (most - imp) then IntKind.i64.wrap (most - imp) else 0) 0 6) ⟨Nat.zero_le _,hG.symm⟩ (Wk.of ?_ ?_) ?_
    · simp only [go_sem]; try simp
    · simp only [go_sem]
    rintro ⟨j,E⟩ ⟨hj,hx⟩
    simp only at hj hx
    by_cases h1:(j:Int) < (a.length:Int)
    rotate_left
    · rw [drop_end (by rw [List.length_map]; omega)] at hx
      obtain rfl:G = E:=hx
      simp only [go_sem,decide_eq_false h1]
      exact done_n [] _ [(1000,ck G)] (by simp only [go_sem]) (by simp only [go_sem]) rfl ⟨rfl,rfl⟩
    have hj':j < a.length:=by omega
    have e8:=i_bd hj' (by omega)
    have cc:=at_in hf hj' (j:Int)
    by_cases hE:E.c = 0
    rotate_left
    · rw [goA_no E hE] at hx
      obtain rfl:G = E:=hx
      simp only [go_sem,decide_eq_true h1,bne_t hE]
      refine ⟨by omega,h1,?_⟩
      exact done [] (.tup []) [(1000,ck G)] (by simp only [go_sem]) (by simp only [go_sem]) rfl ⟨rfl,rfl⟩
    rw [goA_at (by rw [List.length_map]; exact hj') E hE,nth_map hj'] at hx
    try simp only [ftC_e,imC_e,cdC_e,tbC_e,lmC_e,gdC_e,exC_e,daC_e,cuC_e,elC_e,inL_e,insC] at cc
    simp only [go_sem,decide_eq_true h1,bne_f hE]
    refine ⟨by omega,h1,?_⟩
    refine ⟨hb,?_⟩
    refine call_same (cc) (by simp [go_sem]) ?_
    simp only [go_sem]
    refine call_m (m_fail E n j (g (nth a j)).1 (g (nth a j)).2) ⟨by decide,by decide⟩ (by first | rfl | exact slv_ids _) (by simp [go_sem]) rfl rfl (by rfl) ?_
    simp only [go_sem]
    refine klp_n (j + 1,failA E n j (g (nth a j)).1 (g (nth a j)).2) ⟨show j + 1 ≤ a.length by omega,hx⟩ (show a.length - (j + 1) < a.length - j by omega) (Wk.of ?_ ?_)
    · simp only [go_sem,e8]; try simp
    · simp only [go_sem]
  · rw [if_neg hw] at hG
    simp only [go_sem,FX21,decide_eq_false hw]
    refine loop_rule (fun q:Nat × Fa=>⟨[(31,.int .i64 q.1),(30,.int .i64 a.length),(29,.sl 3 (a.map lmC)),(0,.mp 1000 4 0 0),(1,.int .i64 n),(5,.fn f [])],[(1000,ck q.2)]⟩) (fun q=>q.1 ≤ a.length ∧ G = goA n q.1 ((a.map g).drop q.1) q.2) (fun q=>a.length - q.1) (0,F) ⟨Nat.zero_le _,hG.symm⟩ (Wk.of ?_ ?_) ?_
    · simp only [go_sem]; try simp
    · simp only [go_sem]
    rintro ⟨j,E⟩ ⟨hj,hx⟩
    simp only at hj hx
    by_cases h1:(j:Int) < (a.length:Int)
    rotate_left
    · rw [drop_end (by rw [List.length_map]; omega)] at hx
      obtain rfl:G = E:=hx
      simp only [go_sem,decide_eq_false h1]
      exact done_n [] _ [(1000,ck G)] (by simp only [go_sem]) (by simp only [go_sem]) rfl ⟨rfl,rfl⟩
    have hj':j < a.length:=by omega
    have e8:=i_bd hj' (by omega)
    have cc:=at_in hf hj' (j:Int)
    by_cases hE:E.c = 0
    rotate_left
    · rw [goA_no E hE] at hx
      obtain rfl:G = E:=hx
      simp only [go_sem,decide_eq_true h1,bne_t hE]
      refine ⟨by omega,h1,?_⟩
      exact done [] (.tup []) [(1000,ck G)] (by simp only [go_sem]) (by simp only [go_sem]) rfl ⟨rfl,rfl⟩
    rw [goA_at (by rw [List.length_map]; exact hj') E hE,nth_map hj'] at hx
    try simp only [ftC_e,imC_e,cdC_e,tbC_e,lmC_e,gdC_e,exC_e,daC_e,cuC_e,elC_e,inL_e,insC] at cc
    simp only [go_sem,decide_eq_true h1,bne_f hE]
    refine ⟨by omega,h1,?_⟩
    refine ⟨hb,?_⟩
    refine call_same (cc) (by simp [go_sem]) ?_
    simp only [go_sem]
    refine call_m (m_fail E n j (g (nth a j)).1 (g (nth a j)).2) ⟨by decide,by decide⟩ (by first | rfl | exact slv_ids _) (by simp [go_sem]) rfl rfl (by rfl) ?_
    simp only [go_sem]
    refine klp_n (j + 1,failA E n j (g (nth a j)).1 (g (nth a j)).2) ⟨show j + 1 ≤ a.length by omega,hx⟩ (show a.length - (j + 1) < a.length - j by omega) (Wk.of ?_ ?_)
    · simp only [go_sem,e8]; try simp
    · simp only [go_sem]
theorem m_partGd {f:FuncId} (hb:hasBody Tryz.prog f = true) (g:Gd → Int × Int) (a:List Gd) (ha:a.length ≤ 9223372036854775807) (hf:∀ x ∈ a,∀ i:Int,PCalls Tryz.prog f [.int .i64 i,.agg (gdC x)] (.tup [.int .i64 (g x).1,.int .i64 (g x).2])) (n most imp:Int) (F:Fa) :
    CM nX9 [.int .i64 n,.sl 3 (a.map gdC),.int .i64 most,.int .i64 imp,.fn f []] F (partA n most imp (a.map g) F):=by
  refine fun_sound (ic:=FX9.body) mixed cX9 rfl rfl ?_
  obtain ⟨G,hG⟩:∃ G,partA n most imp (a.map g) F = G:=⟨_,rfl⟩
  rw [hG]
  unfold partA at hG
  rw [List.length_map] at hG
  have loop:∀ F0:Fa,goA n 0 (a.map g) F0 = G → ∀ j,j ≤ a.length → True:=fun _ _ _ _=>trivial
  clear loop
  by_cases hw:IntKind.i64.wrap ((a.length:Int) + imp) > most
  · rw [if_pos hw] at hG
    simp only [go_sem,FX9,decide_eq_true hw]
    refine call_m (m_fail F n (if 0 < IntKind.i64.wrap (most - imp) then IntKind.i64.wrap (most - imp) else 0) 0 6) ⟨by decide,by decide⟩ (by first | rfl | exact slv_ids _) (by simp [go_sem]) rfl rfl (by rfl) ?_
    simp only [go_sem]
    refine loop_rule (fun q:Nat × Fa=>⟨[(31,.int .i64 q.1),(30,.int .i64 a.length),(29,.sl 3 (a.map gdC)),(0,.mp 1000 4 0 0),(1,.int .i64 n),(5,.fn f [])],[(1000,ck q.2)]⟩) (fun q=>q.1 ≤ a.length ∧ G = goA n q.1 ((a.map g).drop q.1) q.2) (fun q=>a.length - q.1) (0,failA F n (if 0 < IntKind.i64.wrap (most - imp) then IntKind.i64.wrap (most - imp) else 0) 0 6) ⟨Nat.zero_le _,hG.symm⟩ (Wk.of ?_ ?_) ?_
    · simp only [go_sem]; try simp
    · simp only [go_sem]
    rintro ⟨j,E⟩ ⟨hj,hx⟩
    simp only at hj hx
    by_cases h1:(j:Int) < (a.length:Int)
    rotate_left
    · rw [drop_end (by rw [List.length_map]; omega)] at hx
      obtain rfl:G = E:=hx
      simp only [go_sem,decide_eq_false h1]
      exact done_n [] _ [(1000,ck G)] (by simp only [go_sem]) (by simp only [go_sem]) rfl ⟨rfl,rfl⟩
    have hj':j < a.length:=by omega
    have e8:=i_bd hj' (by omega)
    have cc:=at_in hf hj' (j:Int)
    by_cases hE:E.c = 0
    rotate_left
    · rw [goA_no E hE] at hx
      obtain rfl:G = E:=hx
      simp only [go_sem,decide_eq_true h1,bne_t hE]
      refine ⟨by omega,h1,?_⟩
      exact done [] (.tup []) [(1000,ck G)] (by simp only [go_sem]) (by simp only [go_sem]) rfl ⟨rfl,rfl⟩
    rw [goA_at (by rw [List.length_map]; exact hj') E hE,nth_map hj'] at hx
    try simp only [ftC_e,imC_e,cdC_e,tbC_e,lmC_e,gdC_e,exC_e,daC_e,cuC_e,elC_e,inL_e,insC] at cc
    simp only [go_sem,decide_eq_true h1,bne_f hE]
    refine ⟨by omega,h1,?_⟩
    refine ⟨hb,?_⟩
    refine call_same (cc) (by simp [go_sem]) ?_
    simp only [go_sem]
    refine call_m (m_fail E n j (g (nth a j)).1 (g (nth a j)).2) ⟨by decide,by decide⟩ (by first | rfl | exact slv_ids _) (by simp [go_sem]) rfl rfl (by rfl) ?_
    simp only [go_sem]
    refine klp_n (j + 1,failA E n j (g (nth a j)).1 (g (nth a j)).2) ⟨show j + 1 ≤ a.length by omega,hx⟩ (show a.length - (j + 1) < a.length - j by omega) (Wk.of ?_ ?_)
    · simp only [go_sem,e8]; try simp
    · simp only [go_sem]
  · rw [if_neg hw] at hG
    simp only [go_sem,FX9,decide_eq_false hw]
    refine loop_rule (fun q:Nat × Fa=>⟨[(31,.int .i64 q.1),(30,.int .i64 a.length),(29,.sl 3 (a.map gdC)),(0,.mp 1000 4 0 0),(1,.int .i64 n),(5,.fn f [])],[(1000,ck q.2)]⟩) (fun q=>q.1 ≤ a.length ∧ G = goA n q.1 ((a.map g).drop q.1) q.2) (fun q=>a.length - q.1) (0,F) ⟨Nat.zero_le _,hG.symm⟩ (Wk.of ?_ ?_) ?_
    · simp only [go_sem]; try simp
    · simp only [go_sem]
    rintro ⟨j,E⟩ ⟨hj,hx⟩
    simp only at hj hx
    by_cases h1:(j:Int) < (a.length:Int)
    rotate_left
    · rw [drop_end (by rw [List.length_map]; omega)] at hx
      obtain rfl:G = E:=hx
      simp only [go_sem,decide_eq_false h1]
      exact done_n [] _ [(1000,ck G)] (by simp only [go_sem]) (by simp only [go_sem]) rfl ⟨rfl,rfl⟩
    have hj':j < a.length:=by omega
    have e8:=i_bd hj' (by omega)
    have cc:=at_in hf hj' (j:Int)
    by_cases hE:E.c = 0
    rotate_left
    · rw [goA_no E hE] at hx
      obtain rfl:G = E:=hx
      simp only [go_sem,decide_eq_true h1,bne_t hE]
      refine ⟨by omega,h1,?_⟩
      exact done [] (.tup []) [(1000,ck G)] (by simp only [go_sem]) (by simp only [go_sem]) rfl ⟨rfl,rfl⟩
    rw [goA_at (by rw [List.length_map]; exact hj') E hE,nth_map hj'] at hx
    try simp only [ftC_e,imC_e,cdC_e,tbC_e,lmC_e,gdC_e,exC_e,daC_e,cuC_e,elC_e,inL_e,insC] at cc
    simp only [go_sem,decide_eq_true h1,bne_f hE]
    refine ⟨by omega,h1,?_⟩
    refine ⟨hb,?_⟩
    refine call_same (cc) (by simp [go_sem]) ?_
    simp only [go_sem]
    refine call_m (m_fail E n j (g (nth a j)).1 (g (nth a j)).2) ⟨by decide,by decide⟩ (by first | rfl | exact slv_ids _) (by simp [go_sem]) rfl rfl (by rfl) ?_
    simp only [go_sem]
    refine klp_n (j + 1,failA E n j (g (nth a j)).1 (g (nth a j)).2) ⟨show j + 1 ≤ a.length by omega,hx⟩ (show a.length - (j + 1) < a.length - j by omega) (Wk.of ?_ ?_)
    · simp only [go_sem,e8]; try simp
    · simp only [go_sem]
theorem m_partEx {f:FuncId} (hb:hasBody Tryz.prog f = true) (g:Ex → Int × Int) (a:List Ex) (ha:a.length ≤ 9223372036854775807) (hf:∀ x ∈ a,∀ i:Int,PCalls Tryz.prog f [.int .i64 i,.agg (exC x)] (.tup [.int .i64 (g x).1,.int .i64 (g x).2])) (n most imp:Int) (F:Fa) :
    CM nX19 [.int .i64 n,.sl 3 (a.map exC),.int .i64 most,.int .i64 imp,.fn f []] F (partA n most imp (a.map g) F):=by
  refine fun_sound (ic:=FX19.body) mixed cX19 rfl rfl ?_
  obtain ⟨G,hG⟩:∃ G,partA n most imp (a.map g) F = G:=⟨_,rfl⟩
  rw [hG]
  unfold partA at hG
  rw [List.length_map] at hG
  have loop:∀ F0:Fa,goA n 0 (a.map g) F0 = G → ∀ j,j ≤ a.length → True:=fun _ _ _ _=>trivial
  clear loop
  by_cases hw:IntKind.i64.wrap ((a.length:Int) + imp) > most
  · rw [if_pos hw] at hG
    simp only [go_sem,FX19,decide_eq_true hw]
    refine call_m (m_fail F n (if 0 < IntKind.i64.wrap (most - imp) then IntKind.i64.wrap (most - imp) else 0) 0 6) ⟨by decide,by decide⟩ (by first | rfl | exact slv_ids _) (by simp [go_sem]) rfl rfl (by rfl) ?_
    simp only [go_sem]
    refine loop_rule (fun q:Nat × Fa=>⟨[(31,.int .i64 q.1),(30,.int .i64 a.length),(29,.sl 3 (a.map exC)),(0,.mp 1000 4 0 0),(1,.int .i64 n),(5,.fn f [])],[(1000,ck q.2)]⟩) (fun q=>q.1 ≤ a.length ∧ G = goA n q.1 ((a.map g).drop q.1) q.2) (fun q=>a.length - q.1) (0,failA F n (if 0 < IntKind.i64.wrap (most - imp) then IntKind.i64.wrap (most - imp) else 0) 0 6) ⟨Nat.zero_le _,hG.symm⟩ (Wk.of ?_ ?_) ?_
    · simp only [go_sem]; try simp
    · simp only [go_sem]
    rintro ⟨j,E⟩ ⟨hj,hx⟩
    simp only at hj hx
    by_cases h1:(j:Int) < (a.length:Int)
    rotate_left
    · rw [drop_end (by rw [List.length_map]; omega)] at hx
      obtain rfl:G = E:=hx
      simp only [go_sem,decide_eq_false h1]
      exact done_n [] _ [(1000,ck G)] (by simp only [go_sem]) (by simp only [go_sem]) rfl ⟨rfl,rfl⟩
    have hj':j < a.length:=by omega
    have e8:=i_bd hj' (by omega)
    have cc:=at_in hf hj' (j:Int)
    by_cases hE:E.c = 0
    rotate_left
    · rw [goA_no E hE] at hx
      obtain rfl:G = E:=hx
      simp only [go_sem,decide_eq_true h1,bne_t hE]
      refine ⟨by omega,h1,?_⟩
      exact done [] (.tup []) [(1000,ck G)] (by simp only [go_sem]) (by simp only [go_sem]) rfl ⟨rfl,rfl⟩
    rw [goA_at (by rw [List.length_map]; exact hj') E hE,nth_map hj'] at hx
    try simp only [ftC_e,imC_e,cdC_e,tbC_e,lmC_e,gdC_e,exC_e,daC_e,cuC_e,elC_e,inL_e,insC] at cc
    simp only [go_sem,decide_eq_true h1,bne_f hE]
    refine ⟨by omega,h1,?_⟩
    refine ⟨hb,?_⟩
    refine call_same (cc) (by simp [go_sem]) ?_
    simp only [go_sem]
    refine call_m (m_fail E n j (g (nth a j)).1 (g (nth a j)).2) ⟨by decide,by decide⟩ (by first | rfl | exact slv_ids _) (by simp [go_sem]) rfl rfl (by rfl) ?_
    simp only [go_sem]
    refine klp_n (j + 1,failA E n j (g (nth a j)).1 (g (nth a j)).2) ⟨show j + 1 ≤ a.length by omega,hx⟩ (show a.length - (j + 1) < a.length - j by omega) (Wk.of ?_ ?_)
    · simp only [go_sem,e8]; try simp
    · simp only [go_sem]
  · rw [if_neg hw] at hG
    simp only [go_sem,FX19,decide_eq_false hw]
    refine loop_rule (fun q:Nat × Fa=>⟨[(31,.int .i64 q.1),(30,.int .i64 a.length),(29,.sl 3 (a.map exC)),(0,.mp 1000 4 0 0),(1,.int .i64 n),(5,.fn f [])],[(1000,ck q.2)]⟩) (fun q=>q.1 ≤ a.length ∧ G = goA n q.1 ((a.map g).drop q.1) q.2) (fun q=>a.length - q.1) (0,F) ⟨Nat.zero_le _,hG.symm⟩ (Wk.of ?_ ?_) ?_
    · simp only [go_sem]; try simp
    · simp only [go_sem]
    rintro ⟨j,E⟩ ⟨hj,hx⟩
    simp only at hj hx
    by_cases h1:(j:Int) < (a.length:Int)
    rotate_left
    · rw [drop_end (by rw [List.length_map]; omega)] at hx
      obtain rfl:G = E:=hx
      simp only [go_sem,decide_eq_false h1]
      exact done_n [] _ [(1000,ck G)] (by simp only [go_sem]) (by simp only [go_sem]) rfl ⟨rfl,rfl⟩
    have hj':j < a.length:=by omega
    have e8:=i_bd hj' (by omega)
    have cc:=at_in hf hj' (j:Int)
    by_cases hE:E.c = 0
    rotate_left
    · rw [goA_no E hE] at hx
      obtain rfl:G = E:=hx
      simp only [go_sem,decide_eq_true h1,bne_t hE]
      refine ⟨by omega,h1,?_⟩
      exact done [] (.tup []) [(1000,ck G)] (by simp only [go_sem]) (by simp only [go_sem]) rfl ⟨rfl,rfl⟩
    rw [goA_at (by rw [List.length_map]; exact hj') E hE,nth_map hj'] at hx
    try simp only [ftC_e,imC_e,cdC_e,tbC_e,lmC_e,gdC_e,exC_e,daC_e,cuC_e,elC_e,inL_e,insC] at cc
    simp only [go_sem,decide_eq_true h1,bne_f hE]
    refine ⟨by omega,h1,?_⟩
    refine ⟨hb,?_⟩
    refine call_same (cc) (by simp [go_sem]) ?_
    simp only [go_sem]
    refine call_m (m_fail E n j (g (nth a j)).1 (g (nth a j)).2) ⟨by decide,by decide⟩ (by first | rfl | exact slv_ids _) (by simp [go_sem]) rfl rfl (by rfl) ?_
    simp only [go_sem]
    refine klp_n (j + 1,failA E n j (g (nth a j)).1 (g (nth a j)).2) ⟨show j + 1 ≤ a.length by omega,hx⟩ (show a.length - (j + 1) < a.length - j by omega) (Wk.of ?_ ?_)
    · simp only [go_sem,e8]; try simp
    · simp only [go_sem]
theorem m_partEl {f:FuncId} (hb:hasBody Tryz.prog f = true) (g:El → Int × Int) (a:List El) (ha:a.length ≤ 9223372036854775807) (hf:∀ x ∈ a,∀ i:Int,PCalls Tryz.prog f [.int .i64 i,.agg (elC x)] (.tup [.int .i64 (g x).1,.int .i64 (g x).2])) (n most imp:Int) (F:Fa) :
    CM nX41 [.int .i64 n,.sl 5 (a.map elC),.int .i64 most,.int .i64 imp,.fn f []] F (partA n most imp (a.map g) F):=by
  refine fun_sound (ic:=FX41.body) mixed cX41 rfl rfl ?_
  obtain ⟨G,hG⟩:∃ G,partA n most imp (a.map g) F = G:=⟨_,rfl⟩
  rw [hG]
  unfold partA at hG
  rw [List.length_map] at hG
  have loop:∀ F0:Fa,goA n 0 (a.map g) F0 = G → ∀ j,j ≤ a.length → True:=fun _ _ _ _=>trivial
  clear loop
  by_cases hw:IntKind.i64.wrap ((a.length:Int) + imp) > most
  · rw [if_pos hw] at hG
    simp only [go_sem,FX41,decide_eq_true hw]
    refine call_m (m_fail F n (if 0 < IntKind.i64.wrap (most - imp) then IntKind.i64.wrap (most - imp) else 0) 0 6) ⟨by decide,by decide⟩ (by first | rfl | exact slv_ids _) (by simp [go_sem]) rfl rfl (by rfl) ?_
    simp only [go_sem]
    refine loop_rule (fun q:Nat × Fa=>⟨[(31,.int .i64 q.1),(30,.int .i64 a.length),(29,.sl 5 (a.map elC)),(0,.mp 1000 4 0 0),(1,.int .i64 n),(5,.fn f [])],[(1000,ck q.2)]⟩) (fun q=>q.1 ≤ a.length ∧ G = goA n q.1 ((a.map g).drop q.1) q.2) (fun q=>a.length - q.1) (0,failA F n (if 0 < IntKind.i64.wrap (most - imp) then IntKind.i64.wrap (most - imp) else 0) 0 6) ⟨Nat.zero_le _,hG.symm⟩ (Wk.of ?_ ?_) ?_
    · simp only [go_sem]; try simp
    · simp only [go_sem]
    rintro ⟨j,E⟩ ⟨hj,hx⟩
    simp only at hj hx
    by_cases h1:(j:Int) < (a.length:Int)
    rotate_left
    · rw [drop_end (by rw [List.length_map]; omega)] at hx
      obtain rfl:G = E:=hx
      simp only [go_sem,decide_eq_false h1]
      exact done_n [] _ [(1000,ck G)] (by simp only [go_sem]) (by simp only [go_sem]) rfl ⟨rfl,rfl⟩
    have hj':j < a.length:=by omega
    have e8:=i_bd hj' (by omega)
    have cc:=at_in hf hj' (j:Int)
    by_cases hE:E.c = 0
    rotate_left
    · rw [goA_no E hE] at hx
      obtain rfl:G = E:=hx
      simp only [go_sem,decide_eq_true h1,bne_t hE]
      refine ⟨by omega,h1,?_⟩
      exact done [] (.tup []) [(1000,ck G)] (by simp only [go_sem]) (by simp only [go_sem]) rfl ⟨rfl,rfl⟩
    rw [goA_at (by rw [List.length_map]; exact hj') E hE,nth_map hj'] at hx
    try simp only [ftC_e,imC_e,cdC_e,tbC_e,lmC_e,gdC_e,exC_e,daC_e,cuC_e,elC_e,inL_e,insC] at cc
    simp only [go_sem,decide_eq_true h1,bne_f hE]
    refine ⟨by omega,h1,?_⟩
    refine ⟨hb,?_⟩
    refine call_same (cc) (by simp [go_sem]) ?_
    simp only [go_sem]
    refine call_m (m_fail E n j (g (nth a j)).1 (g (nth a j)).2) ⟨by decide,by decide⟩ (by first | rfl | exact slv_ids _) (by simp [go_sem]) rfl rfl (by rfl) ?_
    simp only [go_sem]
    refine klp_n (j + 1,failA E n j (g (nth a j)).1 (g (nth a j)).2) ⟨show j + 1 ≤ a.length by omega,hx⟩ (show a.length - (j + 1) < a.length - j by omega) (Wk.of ?_ ?_)
    · simp only [go_sem,e8]; try simp
    · simp only [go_sem]
  · rw [if_neg hw] at hG
    simp only [go_sem,FX41,decide_eq_false hw]
    refine loop_rule (fun q:Nat × Fa=>⟨[(31,.int .i64 q.1),(30,.int .i64 a.length),(29,.sl 5 (a.map elC)),(0,.mp 1000 4 0 0),(1,.int .i64 n),(5,.fn f [])],[(1000,ck q.2)]⟩) (fun q=>q.1 ≤ a.length ∧ G = goA n q.1 ((a.map g).drop q.1) q.2) (fun q=>a.length - q.1) (0,F) ⟨Nat.zero_le _,hG.symm⟩ (Wk.of ?_ ?_) ?_
    · simp only [go_sem]; try simp
    · simp only [go_sem]
    rintro ⟨j,E⟩ ⟨hj,hx⟩
    simp only at hj hx
    by_cases h1:(j:Int) < (a.length:Int)
    rotate_left
    · rw [drop_end (by rw [List.length_map]; omega)] at hx
      obtain rfl:G = E:=hx
      simp only [go_sem,decide_eq_false h1]
      exact done_n [] _ [(1000,ck G)] (by simp only [go_sem]) (by simp only [go_sem]) rfl ⟨rfl,rfl⟩
    have hj':j < a.length:=by omega
    have e8:=i_bd hj' (by omega)
    have cc:=at_in hf hj' (j:Int)
    by_cases hE:E.c = 0
    rotate_left
    · rw [goA_no E hE] at hx
      obtain rfl:G = E:=hx
      simp only [go_sem,decide_eq_true h1,bne_t hE]
      refine ⟨by omega,h1,?_⟩
      exact done [] (.tup []) [(1000,ck G)] (by simp only [go_sem]) (by simp only [go_sem]) rfl ⟨rfl,rfl⟩
    rw [goA_at (by rw [List.length_map]; exact hj') E hE,nth_map hj'] at hx
    try simp only [ftC_e,imC_e,cdC_e,tbC_e,lmC_e,gdC_e,exC_e,daC_e,cuC_e,elC_e,inL_e,insC] at cc
    simp only [go_sem,decide_eq_true h1,bne_f hE]
    refine ⟨by omega,h1,?_⟩
    refine ⟨hb,?_⟩
    refine call_same (cc) (by simp [go_sem]) ?_
    simp only [go_sem]
    refine call_m (m_fail E n j (g (nth a j)).1 (g (nth a j)).2) ⟨by decide,by decide⟩ (by first | rfl | exact slv_ids _) (by simp [go_sem]) rfl rfl (by rfl) ?_
    simp only [go_sem]
    refine klp_n (j + 1,failA E n j (g (nth a j)).1 (g (nth a j)).2) ⟨show j + 1 ≤ a.length by omega,hx⟩ (show a.length - (j + 1) < a.length - j by omega) (Wk.of ?_ ?_)
    · simp only [go_sem,e8]; try simp
    · simp only [go_sem]
theorem m_partDa {f:FuncId} (hb:hasBody Tryz.prog f = true) (g:Da → Int × Int) (a:List Da) (ha:a.length ≤ 9223372036854775807) (hf:∀ x ∈ a,∀ i:Int,PCalls Tryz.prog f [.int .i64 i,.agg (daC x)] (.tup [.int .i64 (g x).1,.int .i64 (g x).2])) (n most imp:Int) (F:Fa) :
    CM nX40 [.int .i64 n,.sl 4 (a.map daC),.int .i64 most,.int .i64 imp,.fn f []] F (partA n most imp (a.map g) F):=by
  refine fun_sound (ic:=FX40.body) mixed cX40 rfl rfl ?_
  obtain ⟨G,hG⟩:∃ G,partA n most imp (a.map g) F = G:=⟨_,rfl⟩
  rw [hG]
  unfold partA at hG
  rw [List.length_map] at hG
  have loop:∀ F0:Fa,goA n 0 (a.map g) F0 = G → ∀ j,j ≤ a.length → True:=fun _ _ _ _=>trivial
  clear loop
  by_cases hw:IntKind.i64.wrap ((a.length:Int) + imp) > most
  · rw [if_pos hw] at hG
    simp only [go_sem,FX40,decide_eq_true hw]
    refine call_m (m_fail F n (if 0 < IntKind.i64.wrap (most - imp) then IntKind.i64.wrap (most - imp) else 0) 0 6) ⟨by decide,by decide⟩ (by first | rfl | exact slv_ids _) (by simp [go_sem]) rfl rfl (by rfl) ?_
    simp only [go_sem]
    refine loop_rule (fun q:Nat × Fa=>⟨[(31,.int .i64 q.1),(30,.int .i64 a.length),(29,.sl 4 (a.map daC)),(0,.mp 1000 4 0 0),(1,.int .i64 n),(5,.fn f [])],[(1000,ck q.2)]⟩) (fun q=>q.1 ≤ a.length ∧ G = goA n q.1 ((a.map g).drop q.1) q.2) (fun q=>a.length - q.1) (0,failA F n (if 0 < IntKind.i64.wrap (most - imp) then IntKind.i64.wrap (most - imp) else 0) 0 6) ⟨Nat.zero_le _,hG.symm⟩ (Wk.of ?_ ?_) ?_
    · simp only [go_sem]; try simp
    · simp only [go_sem]
    rintro ⟨j,E⟩ ⟨hj,hx⟩
    simp only at hj hx
    by_cases h1:(j:Int) < (a.length:Int)
    rotate_left
    · rw [drop_end (by rw [List.length_map]; omega)] at hx
      obtain rfl:G = E:=hx
      simp only [go_sem,decide_eq_false h1]
      exact done_n [] _ [(1000,ck G)] (by simp only [go_sem]) (by simp only [go_sem]) rfl ⟨rfl,rfl⟩
    have hj':j < a.length:=by omega
    have e8:=i_bd hj' (by omega)
    have cc:=at_in hf hj' (j:Int)
    by_cases hE:E.c = 0
    rotate_left
    · rw [goA_no E hE] at hx
      obtain rfl:G = E:=hx
      simp only [go_sem,decide_eq_true h1,bne_t hE]
      refine ⟨by omega,h1,?_⟩
      exact done [] (.tup []) [(1000,ck G)] (by simp only [go_sem]) (by simp only [go_sem]) rfl ⟨rfl,rfl⟩
    rw [goA_at (by rw [List.length_map]; exact hj') E hE,nth_map hj'] at hx
    try simp only [ftC_e,imC_e,cdC_e,tbC_e,lmC_e,gdC_e,exC_e,daC_e,cuC_e,elC_e,inL_e,insC] at cc
    simp only [go_sem,decide_eq_true h1,bne_f hE]
    refine ⟨by omega,h1,?_⟩
    refine ⟨hb,?_⟩
    refine call_same (cc) (by simp [go_sem]) ?_
    simp only [go_sem]
    refine call_m (m_fail E n j (g (nth a j)).1 (g (nth a j)).2) ⟨by decide,by decide⟩ (by first | rfl | exact slv_ids _) (by simp [go_sem]) rfl rfl (by rfl) ?_
    simp only [go_sem]
    refine klp_n (j + 1,failA E n j (g (nth a j)).1 (g (nth a j)).2) ⟨show j + 1 ≤ a.length by omega,hx⟩ (show a.length - (j + 1) < a.length - j by omega) (Wk.of ?_ ?_)
    · simp only [go_sem,e8]; try simp
    · simp only [go_sem]
  · rw [if_neg hw] at hG
    simp only [go_sem,FX40,decide_eq_false hw]
    refine loop_rule (fun q:Nat × Fa=>⟨[(31,.int .i64 q.1),(30,.int .i64 a.length),(29,.sl 4 (a.map daC)),(0,.mp 1000 4 0 0),(1,.int .i64 n),(5,.fn f [])],[(1000,ck q.2)]⟩) (fun q=>q.1 ≤ a.length ∧ G = goA n q.1 ((a.map g).drop q.1) q.2) (fun q=>a.length - q.1) (0,F) ⟨Nat.zero_le _,hG.symm⟩ (Wk.of ?_ ?_) ?_
    · simp only [go_sem]; try simp
    · simp only [go_sem]
    rintro ⟨j,E⟩ ⟨hj,hx⟩
    simp only at hj hx
    by_cases h1:(j:Int) < (a.length:Int)
    rotate_left
    · rw [drop_end (by rw [List.length_map]; omega)] at hx
      obtain rfl:G = E:=hx
      simp only [go_sem,decide_eq_false h1]
      exact done_n [] _ [(1000,ck G)] (by simp only [go_sem]) (by simp only [go_sem]) rfl ⟨rfl,rfl⟩
    have hj':j < a.length:=by omega
    have e8:=i_bd hj' (by omega)
    have cc:=at_in hf hj' (j:Int)
    by_cases hE:E.c = 0
    rotate_left
    · rw [goA_no E hE] at hx
      obtain rfl:G = E:=hx
      simp only [go_sem,decide_eq_true h1,bne_t hE]
      refine ⟨by omega,h1,?_⟩
      exact done [] (.tup []) [(1000,ck G)] (by simp only [go_sem]) (by simp only [go_sem]) rfl ⟨rfl,rfl⟩
    rw [goA_at (by rw [List.length_map]; exact hj') E hE,nth_map hj'] at hx
    try simp only [ftC_e,imC_e,cdC_e,tbC_e,lmC_e,gdC_e,exC_e,daC_e,cuC_e,elC_e,inL_e,insC] at cc
    simp only [go_sem,decide_eq_true h1,bne_f hE]
    refine ⟨by omega,h1,?_⟩
    refine ⟨hb,?_⟩
    refine call_same (cc) (by simp [go_sem]) ?_
    simp only [go_sem]
    refine call_m (m_fail E n j (g (nth a j)).1 (g (nth a j)).2) ⟨by decide,by decide⟩ (by first | rfl | exact slv_ids _) (by simp [go_sem]) rfl rfl (by rfl) ?_
    simp only [go_sem]
    refine klp_n (j + 1,failA E n j (g (nth a j)).1 (g (nth a j)).2) ⟨show j + 1 ≤ a.length by omega,hx⟩ (show a.length - (j + 1) < a.length - j by omega) (Wk.of ?_ ?_)
    · simp only [go_sem,e8]; try simp
    · simp only [go_sem]
theorem m_partCu {f:FuncId} (hb:hasBody Tryz.prog f = true) (g:Cu → Int × Int) (a:List Cu) (ha:a.length ≤ 9223372036854775807) (hf:∀ x ∈ a,∀ i:Int,PCalls Tryz.prog f [.int .i64 i,.agg (cuC x)] (.tup [.int .i64 (g x).1,.int .i64 (g x).2])) (n most imp:Int) (F:Fa) :
    CM nX18 [.int .i64 n,.sl 3 (a.map cuC),.int .i64 most,.int .i64 imp,.fn f []] F (partA n most imp (a.map g) F):=by
  refine fun_sound (ic:=FX18.body) mixed cX18 rfl rfl ?_
  obtain ⟨G,hG⟩:∃ G,partA n most imp (a.map g) F = G:=⟨_,rfl⟩
  rw [hG]
  unfold partA at hG
  rw [List.length_map] at hG
  have loop:∀ F0:Fa,goA n 0 (a.map g) F0 = G → ∀ j,j ≤ a.length → True:=fun _ _ _ _=>trivial
  clear loop
  by_cases hw:IntKind.i64.wrap ((a.length:Int) + imp) > most
  · rw [if_pos hw] at hG
    simp only [go_sem,FX18,decide_eq_true hw]
    refine call_m (m_fail F n (if 0 < IntKind.i64.wrap (most - imp) then IntKind.i64.wrap (most - imp) else 0) 0 6) ⟨by decide,by decide⟩ (by first | rfl | exact slv_ids _) (by simp [go_sem]) rfl rfl (by rfl) ?_
    simp only [go_sem]
    refine loop_rule (fun q:Nat × Fa=>⟨[(31,.int .i64 q.1),(30,.int .i64 a.length),(29,.sl 3 (a.map cuC)),(0,.mp 1000 4 0 0),(1,.int .i64 n),(5,.fn f [])],[(1000,ck q.2)]⟩) (fun q=>q.1 ≤ a.length ∧ G = goA n q.1 ((a.map g).drop q.1) q.2) (fun q=>a.length - q.1) (0,failA F n (if 0 < IntKind.i64.wrap (most - imp) then IntKind.i64.wrap (most - imp) else 0) 0 6) ⟨Nat.zero_le _,hG.symm⟩ (Wk.of ?_ ?_) ?_
    · simp only [go_sem]; try simp
    · simp only [go_sem]
    rintro ⟨j,E⟩ ⟨hj,hx⟩
    simp only at hj hx
    by_cases h1:(j:Int) < (a.length:Int)
    rotate_left
    · rw [drop_end (by rw [List.length_map]; omega)] at hx
      obtain rfl:G = E:=hx
      simp only [go_sem,decide_eq_false h1]
      exact done_n [] _ [(1000,ck G)] (by simp only [go_sem]) (by simp only [go_sem]) rfl ⟨rfl,rfl⟩
    have hj':j < a.length:=by omega
    have e8:=i_bd hj' (by omega)
    have cc:=at_in hf hj' (j:Int)
    by_cases hE:E.c = 0
    rotate_left
    · rw [goA_no E hE] at hx
      obtain rfl:G = E:=hx
      simp only [go_sem,decide_eq_true h1,bne_t hE]
      refine ⟨by omega,h1,?_⟩
      exact done [] (.tup []) [(1000,ck G)] (by simp only [go_sem]) (by simp only [go_sem]) rfl ⟨rfl,rfl⟩
    rw [goA_at (by rw [List.length_map]; exact hj') E hE,nth_map hj'] at hx
    try simp only [ftC_e,imC_e,cdC_e,tbC_e,lmC_e,gdC_e,exC_e,daC_e,cuC_e,elC_e,inL_e,insC] at cc
    simp only [go_sem,decide_eq_true h1,bne_f hE]
    refine ⟨by omega,h1,?_⟩
    refine ⟨hb,?_⟩
    refine call_same (cc) (by simp [go_sem]) ?_
    simp only [go_sem]
    refine call_m (m_fail E n j (g (nth a j)).1 (g (nth a j)).2) ⟨by decide,by decide⟩ (by first | rfl | exact slv_ids _) (by simp [go_sem]) rfl rfl (by rfl) ?_
    simp only [go_sem]
    refine klp_n (j + 1,failA E n j (g (nth a j)).1 (g (nth a j)).2) ⟨show j + 1 ≤ a.length by omega,hx⟩ (show a.length - (j + 1) < a.length - j by omega) (Wk.of ?_ ?_)
    · simp only [go_sem,e8]; try simp
    · simp only [go_sem]
  · rw [if_neg hw] at hG
    simp only [go_sem,FX18,decide_eq_false hw]
    refine loop_rule (fun q:Nat × Fa=>⟨[(31,.int .i64 q.1),(30,.int .i64 a.length),(29,.sl 3 (a.map cuC)),(0,.mp 1000 4 0 0),(1,.int .i64 n),(5,.fn f [])],[(1000,ck q.2)]⟩) (fun q=>q.1 ≤ a.length ∧ G = goA n q.1 ((a.map g).drop q.1) q.2) (fun q=>a.length - q.1) (0,F) ⟨Nat.zero_le _,hG.symm⟩ (Wk.of ?_ ?_) ?_
    · simp only [go_sem]; try simp
    · simp only [go_sem]
    rintro ⟨j,E⟩ ⟨hj,hx⟩
    simp only at hj hx
    by_cases h1:(j:Int) < (a.length:Int)
    rotate_left
    · rw [drop_end (by rw [List.length_map]; omega)] at hx
      obtain rfl:G = E:=hx
      simp only [go_sem,decide_eq_false h1]
      exact done_n [] _ [(1000,ck G)] (by simp only [go_sem]) (by simp only [go_sem]) rfl ⟨rfl,rfl⟩
    have hj':j < a.length:=by omega
    have e8:=i_bd hj' (by omega)
    have cc:=at_in hf hj' (j:Int)
    by_cases hE:E.c = 0
    rotate_left
    · rw [goA_no E hE] at hx
      obtain rfl:G = E:=hx
      simp only [go_sem,decide_eq_true h1,bne_t hE]
      refine ⟨by omega,h1,?_⟩
      exact done [] (.tup []) [(1000,ck G)] (by simp only [go_sem]) (by simp only [go_sem]) rfl ⟨rfl,rfl⟩
    rw [goA_at (by rw [List.length_map]; exact hj') E hE,nth_map hj'] at hx
    try simp only [ftC_e,imC_e,cdC_e,tbC_e,lmC_e,gdC_e,exC_e,daC_e,cuC_e,elC_e,inL_e,insC] at cc
    simp only [go_sem,decide_eq_true h1,bne_f hE]
    refine ⟨by omega,h1,?_⟩
    refine ⟨hb,?_⟩
    refine call_same (cc) (by simp [go_sem]) ?_
    simp only [go_sem]
    refine call_m (m_fail E n j (g (nth a j)).1 (g (nth a j)).2) ⟨by decide,by decide⟩ (by first | rfl | exact slv_ids _) (by simp [go_sem]) rfl rfl (by rfl) ?_
    simp only [go_sem]
    refine klp_n (j + 1,failA E n j (g (nth a j)).1 (g (nth a j)).2) ⟨show j + 1 ≤ a.length by omega,hx⟩ (show a.length - (j + 1) < a.length - j by omega) (Wk.of ?_ ?_)
    · simp only [go_sem,e8]; try simp
    · simp only [go_sem]
end Go.Proofs.YtoaagdbbbojpmaaGreatDoor
set_option maxRecDepth 100000
set_option maxHeartbeats 40000000
set_option linter.unusedVariables false
set_option linter.unusedSimpArgs false
namespace Go.Proofs.YtoaagdbbbojpmaaGreatDoor
open Go Go.Mw
-- @U: List.length_map,ftC_e,imC_e,cdC_e,tbC_e,lmC_e,gdC_e,exC_e,daC_e,cuC_e,elC_e,ins_e,insC

attribute [local go_sem] List.length_map ftC_e imC_e cdC_e tbC_e lmC_e gdC_e exC_e daC_e cuC_e elC_e ins_e insC
theorem m_lims (l:Lm) (most:Int):PCalls Tryz.prog nX78 [.agg (lmC l),.int .i64 most] (.bool (lmB l most)):=by
  refine pfun_sound (ic:=FX78.body) mixed cX78 rfl rfl ?_
  unfold lmB
  by_cases q1:l.mn < 0
  · rw [if_pos (.inl q1)]
    simp only [go_sem,FX78,decide_eq_true q1]
    exact pdone [] (by simp only [go_sem]) (by first | rfl | simp [go_sem,slv_ids])
  by_cases q2:l.mn > most
  · rw [if_pos (.inr q2)]
    simp only [go_sem,FX78,decide_eq_false q1,decide_eq_true q2]
    exact pdone [] (by simp only [go_sem]) (by first | rfl | simp [go_sem,slv_ids])
  rw [if_neg (by omega)]
  cases hh:l.hs
  · rw [if_pos rfl]
    simp only [go_sem,FX78,decide_eq_false q1,decide_eq_false q2,hh]
    exact pdone [] (by simp only [go_sem]) (by first | rfl | simp [go_sem,slv_ids])
  · rw [if_neg (by decide)]
    by_cases q3:l.mn ≤ l.mx
    · simp only [go_sem,FX78,decide_eq_false q1,decide_eq_false q2,hh,decide_eq_true q3]
      exact pdone [] (by simp only [go_sem,Bool.true_and]) (by first | rfl | simp [go_sem,slv_ids])
    · simp only [go_sem,FX78,decide_eq_false q1,decide_eq_false q2,hh,decide_eq_false q3]
      exact pdone [] (by simp only [go_sem,Bool.false_and]) (by first | rfl | simp [go_sem,slv_ids])
theorem m_table (x:Tb):PCalls Tryz.prog nX104 [.agg (tbC x)] (.int .i64 (tbE x)):=by
  refine pfun_sound (ic:=FX104.body) mixed cX104 rfl rfl ?_
  have c1:=m_ref x.e
  have c2:=m_lims x.l 1024
  unfold tbE
  simp only [go_sem,FX104]
  refine call_same (c1) (by simp [go_sem]) ?_
  cases rfB x.e
  · simp only [go_sem]
    exact pdone [] (by simp only [go_sem]; try rfl) (by rfl)
  · simp only [go_sem]
    refine call_same (c2) (by simp [go_sem]) ?_
    cases lmB x.l 1024
    · simp only [go_sem]
      exact pdone [] (by simp only [go_sem]; try rfl) (by rfl)
    · simp only [go_sem]
      exact pdone [] (by simp only [go_sem]; try rfl) (by rfl)
theorem m_mem (l:Lm):PCalls Tryz.prog nX97 [.agg (lmC l)] (.int .i64 (mmE l)):=by
  refine pfun_sound (ic:=FX97.body) mixed cX97 rfl rfl ?_
  have c2:=m_lims l 256
  unfold mmE
  simp only [go_sem,FX97]
  refine call_same (c2) (by simp [go_sem]) ?_
  cases lmB l 256
  · simp only [go_sem]
    exact pdone [] (by simp only [go_sem]; try rfl) (by rfl)
  · simp only [go_sem]
    exact pdone [] (by simp only [go_sem]; try rfl) (by rfl)
theorem m_glob (g:Gl):PCalls Tryz.prog nX96 [.agg [.int .i64 g.v,.bool g.mu]] (.int .i64 (glE g)):=by
  refine pfun_sound (ic:=FX96.body) mixed cX96 rfl rfl ?_
  have c2:=m_val g.v
  unfold glE
  simp only [go_sem,FX96]
  refine call_same (c2) (by simp [go_sem]) ?_
  cases vlB g.v
  · simp only [go_sem]
    exact pdone [] (by simp only [go_sem]; try rfl) (by rfl)
  · simp only [go_sem]
    exact pdone [] (by simp only [go_sem]; try rfl) (by rfl)
theorem m_name (s:List UInt8):PCalls Tryz.prog nX114 [.str s] (.int .i64 (nmE s)):=by
  refine pfun_sound (ic:=FX114.body) mixed cX114 rfl rfl ?_
  unfold nmE
  by_cases q1:(s.length:Int) > 64
  · rw [if_pos (by omega)]
    simp only [go_sem,FX114,decide_eq_true q1]
    exact pdone [] (by simp only [go_sem]) (by first | rfl | simp [go_sem,slv_ids])
  rw [if_neg (by omega)]
  simp only [go_sem,FX114,decide_eq_false q1]
  refine call_same (s_uvS s (by omega)) (by simp [go_sem]) ?_
  cases uv s
  · simp only [go_sem]
    exact pdone [] (by simp only [go_sem]; try rfl) (by rfl)
  · simp only [go_sem]
    exact pdone [] (by simp only [go_sem]; try rfl) (by rfl)
def cdE (x:Cd):Int:=if inR x.t = false then 11 else if x.lo.length > 64 then 6 else if vlsB x.lo = false then 12 else 0
theorem m_code (x:Cd) (h:smCd x):PCalls Tryz.prog nX111 [.agg (cdC x)] (.int .i64 (cdE x)):=by
  refine pfun_sound (ic:=FX111.body) mixed cX111 rfl rfl ?_
  have c1:=m_index x.t
  have c2:=m_valsL x.lo (by have:=h.1; omega)
  unfold cdE
  simp only [go_sem,FX111]
  refine call_same (c1) (by simp [go_sem]) ?_
  cases inR x.t
  · simp only [go_sem]
    exact pdone [] (by simp only [go_sem]; try rfl) (by rfl)
  rw [if_neg (by decide)]
  by_cases q1:(x.lo.length:Int) > 64
  · rw [if_pos (by omega)]
    simp only [go_sem,decide_eq_true q1]
    exact pdone [] (by simp only [go_sem]) (by first | rfl | simp [go_sem,slv_ids])
  rw [if_neg (by omega)]
  simp only [go_sem,decide_eq_false q1]
  refine call_same (c2) (by simp [go_sem]) ?_
  cases vlsB x.lo
  · simp only [go_sem]
    exact pdone [] (by simp only [go_sem]; try rfl) (by rfl)
  · simp only [go_sem]
    exact pdone [] (by simp only [go_sem]; try rfl) (by rfl)
def exE (x:Ex):Int:=if nmE x.n ≠ 0 then nmE x.n else if x.k < 0 ∨ x.k > 3 then 1 else if inR x.i = false then 11 else 0
theorem m_export (x:Ex):PCalls Tryz.prog nX95 [.agg (exC x)] (.int .i64 (exE x)):=by
  refine pfun_sound (ic:=FX95.body) mixed cX95 rfl rfl ?_
  have c1:=m_name x.n
  have c2:=m_index x.i
  unfold exE
  simp only [go_sem,FX95]
  refine call_same (c1) (by simp [go_sem]) ?_
  by_cases q0:nmE x.n = 0
  rotate_left
  · rw [if_pos q0]
    simp only [go_sem,bne_t q0]
    exact pdone [] (by simp only [go_sem]) (by first | rfl | simp [go_sem,slv_ids])
  rw [if_neg (by simp [q0])]
  by_cases q1:x.k < 0
  · rw [if_pos (.inl q1)]
    simp only [go_sem,bne_f q0,decide_eq_true q1]
    exact pdone [] (by simp only [go_sem]) (by first | rfl | simp [go_sem,slv_ids])
  by_cases q2:x.k > 3
  · rw [if_pos (.inr q2)]
    simp only [go_sem,bne_f q0,decide_eq_false q1,decide_eq_true q2]
    exact pdone [] (by simp only [go_sem]) (by first | rfl | simp [go_sem,slv_ids])
  rw [if_neg (by omega)]
  simp only [go_sem,bne_f q0,decide_eq_false q1,decide_eq_false q2]
  refine call_same (c2) (by simp [go_sem]) ?_
  cases inR x.i
  · simp only [go_sem]
    exact pdone [] (by simp only [go_sem]; try rfl) (by rfl)
  · simp only [go_sem]
    exact pdone [] (by simp only [go_sem]; try rfl) (by rfl)
theorem rowF_at {P:Ins → Bool} {l:List Ins} {i:Nat} (h:i < l.length):rowF P i (l.drop i) = if P (nth l i) = false then ((i:Int),10) else if (nth l i).lb.length > 64 then ((i:Int),6) else rowF P (i + 1) (l.drop (i + 1)):=by
  rw [drop_c h,rowF]
theorem m_row (P:Ins → Bool) (l:List Ins) (hl:smIs l) (hP:∀ x ∈ l,PCalls Tryz.prog nX73 [ins_ x] (.bool (P x))):PCalls Tryz.prog nX121 [.sl 9 (l.map insC)] (.tup [.int .i64 (rowE P l).1,.int .i64 (rowE P l).2]):=by
  refine pfun_sound (ic:=FX121.body) mixed cX121 rfl rfl ?_
  unfold rowE
  by_cases q1:(l.length:Int) > 2048
  · rw [if_pos (by omega)]
    simp only [go_sem,FX121,decide_eq_true q1]
    exact pdone [] (by simp only [go_sem]) (by first | rfl | simp [go_sem,slv_ids])
  rw [if_neg (by omega)]
  obtain ⟨G,hG⟩:∃ G,rowF P 0 l = G:=⟨_,rfl⟩
  rw [hG]
  simp only [go_sem,FX121,decide_eq_false q1]
  refine loop_rule (fun j:Nat=>⟨[(11,.int .i64 j),(10,.int .i64 l.length),(9,.sl 9 (l.map insC))],[]⟩) (fun j=>j ≤ l.length ∧ G = rowF P j (l.drop j)) (fun j=>l.length - j) 0 ⟨Nat.zero_le _,hG.symm⟩ (Wk.of ?_ ?_) ?_
  · simp only [go_sem]; try simp
  · simp only [go_sem]
  rintro j ⟨hj,hx⟩
  by_cases h1:(j:Int) < (l.length:Int)
  rotate_left
  · rw [drop_end (by omega)] at hx
    obtain rfl:G = (0,0):=hx
    simp only [go_sem,decide_eq_false h1]
    exact pdone [] (by simp only [go_sem]) (by first | rfl | simp [go_sem,slv_ids])
  have hj':j < l.length:=by omega
  have e8:=i_bd hj' (by have:=hl.1; omega)
  have cc:=at_in hP hj'
  simp only [ins_e] at cc
  rw [rowF_at hj'] at hx
  cases hp:P (nth l j)
  · rw [hp] at cc hx
    obtain rfl:G = ((j:Int),10):=hx
    simp only [go_sem,decide_eq_true h1]
    refine ⟨by omega,h1,?_⟩
    refine call_same (cc) (by simp [go_sem]) ?_
    simp only [go_sem]
    exact pdone [] (by simp only [go_sem]) (by first | rfl | simp [go_sem,slv_ids])
  rw [hp] at cc hx
  rw [if_neg (by decide)] at hx
  by_cases q2:((nth l j).lb.length:Int) > 64
  · rw [if_pos (by omega)] at hx
    subst hx
    simp only [go_sem,decide_eq_true h1]
    refine ⟨by omega,h1,?_⟩
    refine call_same (cc) (by simp [go_sem]) ?_
    simp only [go_sem,decide_eq_true q2]
    exact pdone [] (by simp only [go_sem]) (by first | rfl | simp [go_sem,slv_ids])
  rw [if_neg (by omega)] at hx
  simp only [go_sem,decide_eq_true h1]
  refine ⟨by omega,h1,?_⟩
  refine call_same (cc) (by simp [go_sem]) ?_
  simp only [go_sem,decide_eq_false q2]
  refine klp_n (j + 1) ⟨show j + 1 ≤ l.length by omega,hx⟩ (show l.length - (j + 1) < l.length - j by omega) (Wk.of ?_ ?_)
  · simp only [go_sem,e8]; try simp
  · simp only [go_sem]
end Go.Proofs.YtoaagdbbbojpmaaGreatDoor
set_option maxRecDepth 100000
set_option maxHeartbeats 40000000
set_option linter.unusedVariables false
set_option linter.unusedSimpArgs false
namespace Go.Proofs.YtoaagdbbbojpmaaGreatDoor
open Go Go.Mw
-- @U: List.length_map,ftC_e,imC_e,cdC_e,tbC_e,lmC_e,gdC_e,exC_e,daC_e,cuC_e,elC_e,ins_e,insC

def cuE (x:Cu):Int:=if nmE x.n ≠ 0 then nmE x.n else if x.b.length > 4096 then 6 else if x.af < 0 ∨ x.af > 12 then 1 else 0
attribute [local go_sem] List.length_map ftC_e imC_e cdC_e tbC_e lmC_e gdC_e exC_e daC_e cuC_e elC_e ins_e insC
theorem m_custom (x:Cu):PCalls Tryz.prog nX94 [.agg (cuC x)] (.int .i64 (cuE x)):=by
  refine pfun_sound (ic:=FX94.body) mixed cX94 rfl rfl ?_
  have c1:=m_name x.n
  unfold cuE
  simp only [go_sem,FX94]
  refine call_same (c1) (by simp [go_sem]) ?_
  by_cases q0:nmE x.n = 0
  rotate_left
  · rw [if_pos q0]
    simp only [go_sem,bne_t q0]
    exact pdone [] (by simp only [go_sem]) (by first | rfl | simp [go_sem,slv_ids])
  rw [if_neg (by simp [q0])]
  by_cases q1:(x.b.length:Int) > 4096
  · rw [if_pos (by omega)]
    simp only [go_sem,bne_f q0,decide_eq_true q1]
    exact pdone [] (by simp only [go_sem]) (by first | rfl | simp [go_sem,slv_ids])
  rw [if_neg (by omega)]
  by_cases q2:x.af < 0
  · rw [if_pos (.inl q2)]
    simp only [go_sem,bne_f q0,decide_eq_false q1,decide_eq_true q2]
    exact pdone [] (by simp only [go_sem]) (by first | rfl | simp [go_sem,slv_ids])
  by_cases q3:x.af > 12
  · rw [if_pos (.inr q3)]
    simp only [go_sem,bne_f q0,decide_eq_false q1,decide_eq_false q2,decide_eq_true q3]
    exact pdone [] (by simp only [go_sem]) (by first | rfl | simp [go_sem,slv_ids])
  rw [if_neg (by omega)]
  simp only [go_sem,bne_f q0,decide_eq_false q1,decide_eq_false q2,decide_eq_false q3]
  exact pdone [] (by simp only [go_sem]) (by first | rfl | simp [go_sem,slv_ids])
def daE (P:Ins → Bool) (x:Da):Int × Int:=if x.mo ≠ 0 ∧ (x.mo ≠ 1 ∨ x.me ≠ 0 ∨ x.o.length > 0) then (0,1) else if inR x.me = false then (0,11) else if x.b.length > 4096 then (0,6) else rowE P x.o
theorem m_data (P:Ins → Bool) (x:Da) (h:smDa x) (hP:∀ y ∈ x.o,PCalls Tryz.prog nX73 [ins_ y] (.bool (P y))):PCalls Tryz.prog nX112 [.agg (daC x)] (.tup [.int .i64 (daE P x).1,.int .i64 (daE P x).2]):=by
  refine pfun_sound (ic:=FX112.body) mixed cX112 rfl rfl ?_
  have c1:=m_index x.me
  have c2:=m_row P x.o h.1 hP
  unfold daE
  by_cases q1:x.mo = 0
  · rw [if_neg (fun q=>q.1 q1)]
    simp only [go_sem,FX112,bne_f q1]
    refine call_same (c1) (by simp [go_sem]) ?_
    cases inR x.me
    · simp only [go_sem]
      exact pdone [] (by simp only [go_sem]; try rfl) (by rfl)
    rw [if_neg (by decide)]
    by_cases q5:(x.b.length:Int) > 4096
    · rw [if_pos (by omega)]
      simp only [go_sem,decide_eq_true q5]
      exact pdone [] (by simp only [go_sem]; try rfl) (by rfl)
    rw [if_neg (by omega)]
    simp only [go_sem,decide_eq_false q5]
    refine call_same (c2) (by simp [go_sem]) ?_
    simp only [go_sem]
    exact pdone [] (by simp only [go_sem]) (by first | rfl | simp [go_sem,slv_ids])
  by_cases q2:x.mo = 1
  rotate_left
  · rw [if_pos ⟨q1,.inl q2⟩]
    simp only [go_sem,FX112,bne_t q1,bne_t q2]
    exact pdone [] (by simp only [go_sem]; try rfl) (by rfl)
  by_cases q3:x.me = 0
  rotate_left
  · rw [if_pos ⟨q1,.inr (.inl q3)⟩]
    simp only [go_sem,FX112,bne_t q1,bne_f q2,bne_t q3]
    exact pdone [] (by simp only [go_sem]; try rfl) (by rfl)
  by_cases q4:(x.o.length:Int) > 0
  · rw [if_pos ⟨q1,.inr (.inr (by omega))⟩]
    simp only [go_sem,FX112,bne_t q1,bne_f q2,bne_f q3,decide_eq_true q4]
    exact pdone [] (by simp only [go_sem]; try rfl) (by rfl)
  rw [if_neg (fun q=>by rcases q.2 with z | z | z; exact z q2; exact z q3; omega)]
  simp only [go_sem,FX112,bne_t q1,bne_f q2,bne_f q3,decide_eq_false q4]
  refine call_same (c1) (by simp [go_sem]) ?_
  cases inR x.me
  · simp only [go_sem]
    exact pdone [] (by simp only [go_sem]; try rfl) (by rfl)
  rw [if_neg (by decide)]
  by_cases q5:(x.b.length:Int) > 4096
  · rw [if_pos (by omega)]
    simp only [go_sem,decide_eq_true q5]
    exact pdone [] (by simp only [go_sem]; try rfl) (by rfl)
  rw [if_neg (by omega)]
  simp only [go_sem,decide_eq_false q5]
  refine call_same (c2) (by simp [go_sem]) ?_
  simp only [go_sem]
  exact pdone [] (by simp only [go_sem]) (by first | rfl | simp [go_sem,slv_ids])
def bareA (x:Im):Im:=if x.k = 0 then ⟨x.m,x.n,x.k,x.f,0,⟨0,0,false⟩,⟨0,0,false⟩,⟨0,false⟩⟩ else if x.k = 1 then ⟨x.m,x.n,x.k,0,x.te,x.tl,⟨0,0,false⟩,⟨0,false⟩⟩ else if x.k = 2 then ⟨x.m,x.n,x.k,0,0,⟨0,0,false⟩,x.me,⟨0,false⟩⟩ else if x.k = 3 then ⟨x.m,x.n,x.k,0,0,⟨0,0,false⟩,⟨0,0,false⟩,x.g⟩ else ⟨x.m,x.n,x.k,0,0,⟨0,0,false⟩,⟨0,0,false⟩,⟨0,false⟩⟩
theorem m_bare (x:Im):PCalls Tryz.prog nX109 [.agg (imC x)] (.agg (imC (bareA x))):=by
  refine pfun_sound (ic:=FX109.body) mixed cX109 rfl rfl ?_
  unfold bareA
  by_cases q0:x.k = 0
  · rw [if_pos q0]
    simp only [go_sem,FX109,beq_t q0]
    exact pdone [] (by simp only [go_sem]; try rfl) (by rfl)
  rw [if_neg q0]
  by_cases q1:x.k = 1
  · rw [if_pos q1]
    simp only [go_sem,FX109,beq_f q0,beq_t q1]
    exact pdone [] (by simp only [go_sem]; try rfl) (by rfl)
  rw [if_neg q1]
  by_cases q2:x.k = 2
  · rw [if_pos q2]
    simp only [go_sem,FX109,beq_f q0,beq_f q1,beq_t q2]
    exact pdone [] (by simp only [go_sem]; try rfl) (by rfl)
  rw [if_neg q2]
  by_cases q3:x.k = 3
  · rw [if_pos q3]
    simp only [go_sem,FX109,beq_f q0,beq_f q1,beq_f q2,beq_t q3]
    exact pdone [] (by simp only [go_sem]; try rfl) (by rfl)
  rw [if_neg q3]
  simp only [go_sem,FX109,beq_f q0,beq_f q1,beq_f q2,beq_f q3]
  exact pdone [] (by simp only [go_sem]; try rfl) (by rfl)
end Go.Proofs.YtoaagdbbbojpmaaGreatDoor
set_option maxRecDepth 100000
set_option maxHeartbeats 40000000
set_option linter.unusedVariables false
set_option linter.unusedSimpArgs false
namespace Go.Proofs.YtoaagdbbbojpmaaGreatDoor
open Go Go.Mw
-- @U: List.length_map,ftC_e,imC_e,cdC_e,tbC_e,lmC_e,gdC_e,exC_e,daC_e,cuC_e,elC_e,inL_e,ins_e,insC

def imE (x:Im):Int:=if nmE x.m ≠ 0 then nmE x.m else if nmE x.n ≠ 0 then nmE x.n else if x.k < 0 ∨ x.k > 3 ∨ bareA x ≠ x then 1 else if x.k = 1 then tbE ⟨x.te,x.tl⟩ else if x.k = 2 then mmE x.me else if x.k = 3 then glE x.g else if inR x.f = false then 11 else 0
attribute [local go_sem] List.length_map ftC_e imC_e cdC_e tbC_e lmC_e gdC_e exC_e daC_e cuC_e elC_e inL_e ins_e insC
theorem m_imp (x:Im):PCalls Tryz.prog nX71 [.agg (imC x)] (.int .i64 (imE x)):=by
  refine pfun_sound (ic:=FX71.body) mixed cX71 rfl rfl ?_
  have c1:=m_name x.m
  have c2:=m_name x.n
  have c3:=m_bare x
  have c4:=m_table ⟨x.te,x.tl⟩
  have c5:=m_mem x.me
  have c6:=m_glob x.g
  have c7:=m_index x.f
  simp only [imC_e] at c3
  unfold imE
  simp only [go_sem,FX71]
  refine call_same (c1) (by simp [go_sem]) ?_
  by_cases q0:nmE x.m = 0
  rotate_left
  · rw [if_pos q0]
    simp only [go_sem,bne_t q0]
    exact pdone [] (by simp only [go_sem]) (by first | rfl | simp [go_sem,slv_ids])
  rw [if_neg (by simp [q0])]
  simp only [go_sem,bne_f q0]
  refine call_same (c2) (by simp [go_sem]) ?_
  by_cases q1:nmE x.n = 0
  rotate_left
  · rw [if_pos q1]
    simp only [go_sem,bne_t q1]
    exact pdone [] (by simp only [go_sem]) (by first | rfl | simp [go_sem,slv_ids])
  rw [if_neg (by simp [q1])]
  by_cases q2:x.k < 0
  · rw [if_pos (.inl q2)]
    simp only [go_sem,bne_f q1,decide_eq_true q2]
    exact pdone [] (by simp only [go_sem]) (by first | rfl | simp [go_sem,slv_ids])
  by_cases q3:x.k > 3
  · rw [if_pos (.inr (.inl q3))]
    simp only [go_sem,bne_f q1,decide_eq_false q2,decide_eq_true q3]
    exact pdone [] (by simp only [go_sem]) (by first | rfl | simp [go_sem,slv_ids])
  simp only [go_sem,bne_f q1,decide_eq_false q2,decide_eq_false q3]
  refine dcall_same c3 (by simp [go_sem]) rfl ?_
  by_cases q4:bareA x = x
  rotate_left
  · rw [if_pos (.inr (.inr q4))]
    simp only [go_sem,im_eq,decide_eq_false q4,Bool.not_false]
    exact pdone [] (by simp only [go_sem]) (by first | rfl | simp [go_sem,slv_ids])
  rw [if_neg (fun q=>by rcases q with z | z | z; exact q2 z; exact q3 z; exact z q4)]
  by_cases k1:x.k = 1
  · rw [if_pos k1]
    simp only [go_sem,im_eq,decide_eq_true q4,Bool.not_true,beq_t k1]
    refine call_same (c4) (by simp [go_sem]) ?_
    simp only [go_sem]
    exact pdone [] (by simp only [go_sem]) (by first | rfl | simp [go_sem,slv_ids])
  rw [if_neg k1]
  by_cases k2:x.k = 2
  · rw [if_pos k2]
    simp only [go_sem,im_eq,decide_eq_true q4,Bool.not_true,beq_f k1,beq_t k2]
    refine call_same (c5) (by simp [go_sem]) ?_
    simp only [go_sem]
    exact pdone [] (by simp only [go_sem]) (by first | rfl | simp [go_sem,slv_ids])
  rw [if_neg k2]
  by_cases k3:x.k = 3
  · rw [if_pos k3]
    simp only [go_sem,im_eq,decide_eq_true q4,Bool.not_true,beq_f k1,beq_f k2,beq_t k3]
    refine call_same (c6) (by simp [go_sem]) ?_
    simp only [go_sem]
    exact pdone [] (by simp only [go_sem]) (by first | rfl | simp [go_sem,slv_ids])
  rw [if_neg k3]
  simp only [go_sem,im_eq,decide_eq_true q4,Bool.not_true,beq_f k1,beq_f k2,beq_f k3]
  refine call_same (c7) (by simp [go_sem]) ?_
  cases inR x.f
  · simp only [go_sem]
    exact pdone [] (by simp only [go_sem]; try rfl) (by rfl)
  · simp only [go_sem]
    exact pdone [] (by simp only [go_sem]; try rfl) (by rfl)
def rowsF (P:Ins → Bool):List (List Ins) → Int × Int
  | []=>(0,0)
  | l :: r=>if (rowE P l).2 ≠ 0 then rowE P l else rowsF P r
theorem rowsF_at {P:Ins → Bool} {l:List (List Ins)} {i:Nat} (h:i < l.length):rowsF P (l.drop i) = if (rowE P (nth l i)).2 ≠ 0 then rowE P (nth l i) else rowsF P (l.drop (i + 1)):=by
  rw [drop_c h]; rfl
def elE (P:Ins → Bool) (x:El):Int × Int :=
  if x.mo < 0 ∨ x.mo > 2 ∨ (x.mo ≠ 0 ∧ (x.tb ≠ 0 ∨ x.o.length > 0)) then (0,1) else if inR x.tb = false then (0,11) else if rfB x.ty = false then (0,12) else if x.it.length > 256 then (0,6) else rowsF P (x.o :: x.it)
theorem m_elem (P:Ins → Bool) (x:El) (h:smEl x) (hP:∀ y,smI y → PCalls Tryz.prog nX73 [ins_ y] (.bool (P y))):PCalls Tryz.prog nX113 [.agg (elC x)] (.tup [.int .i64 (elE P x).1,.int .i64 (elE P x).2]):=by
  refine pfun_sound (ic:=FX113.body) mixed cX113 rfl rfl ?_
  have c1:=m_index x.tb
  have c2:=m_ref x.ty
  have hR:∀ l ∈ x.o :: x.it,PCalls Tryz.prog nX121 [.sl 9 (l.map insC)] (.tup [.int .i64 (rowE P l).1,.int .i64 (rowE P l).2]):=fun l hl=>by
    rcases List.mem_cons.1 hl with rfl | hl
    · exact m_row P _ h.1 fun y hy=>hP y (h.1.2 y hy)
    · exact m_row P l (h.2.2 l hl) fun y hy=>hP y ((h.2.2 l hl).2 y hy)
  have hil:=h.2.1
  unfold elE
  by_cases q1:x.mo < 0
  · rw [if_pos (.inl q1)]
    simp only [go_sem,FX113,decide_eq_true q1]
    exact pdone [] (by simp only [go_sem]; try rfl) (by rfl)
  by_cases q2:x.mo > 2
  · rw [if_pos (.inr (.inl q2))]
    simp only [go_sem,FX113,decide_eq_false q1,decide_eq_true q2]
    exact pdone [] (by simp only [go_sem]; try rfl) (by rfl)
  by_cases q3:x.mo = 0
  · rw [if_neg (fun q=>by rcases q with z | z | z; exact q1 z; exact q2 z; exact z.1 q3)]
    simp only [go_sem,FX113,decide_eq_false q1,decide_eq_false q2,bne_f q3]
    refine call_same (c1) (by simp [go_sem]) ?_
    cases inR x.tb
    · simp only [go_sem]
      exact pdone [] (by simp only [go_sem]; try rfl) (by rfl)
    rw [if_neg (by decide)]
    simp only [go_sem]
    refine call_same (c2) (by simp [go_sem]) ?_
    cases rfB x.ty
    · simp only [go_sem]
      exact pdone [] (by simp only [go_sem]; try rfl) (by rfl)
    rw [if_neg (by decide)]
    by_cases q5:(x.it.length:Int) > 256
    · rw [if_pos (by omega)]
      simp only [go_sem,decide_eq_true q5]
      exact pdone [] (by simp only [go_sem]; try rfl) (by rfl)
    rw [if_neg (by omega)]
    obtain ⟨G,hG⟩:∃ G,rowsF P (x.o :: x.it) = G:=⟨_,rfl⟩
    rw [hG]
    have happ:=fun ys=>appO_map 50 50 1 1 inL_ [x.o] ys rfl
    have hlen:(x.o :: x.it).length = 1 + x.it.length:=by rw [List.length_cons]; omega
    simp only [List.map_cons,List.map_nil,inL_e] at happ
    simp only [go_sem,decide_eq_false q5,happ]
    refine ⟨by omega,?_⟩
    generalize hL:x.o :: x.it = L at *
    refine loop_rule (fun j:Nat=>⟨[(55,.int .i64 j),(54,.int .i64 ((1 + x.it.length:Nat):Int)),(53,.ms 50 1 0 (1 + x.it.length))],[(50,⟨50,1,L.map inL_,false⟩)]⟩) (fun j=>j ≤ L.length ∧ G = rowsF P (L.drop j)) (fun j=>L.length - j) 0 ⟨Nat.zero_le _,hG.symm⟩ (Wk.of ?_ ?_) ?_
    · simp only [go_sem]; try simp
    · rw [← hL]
      simp only [go_sem]; try simp [inL_e]
    rintro j ⟨hj,hx⟩
    by_cases h1:(j:Int) < ((1 + x.it.length:Nat):Int)
    rotate_left
    · rw [drop_end (by omega)] at hx
      obtain rfl:G = (0,0):=hx
      simp only [go_sem,decide_eq_false h1]
      exact pdone [] (by simp only [go_sem]) (by first | rfl | simp [go_sem,slv_ids])
    have hj':j < L.length:=by omega
    have hj2:j < 1 + x.it.length:=by omega
    have e8:=i_bd hj' (by omega)
    rw [rowsF_at hj'] at hx
    have cc:=at_in hR hj'
    by_cases hz:(rowE P (nth L j)).2 = 0
    rotate_left
    · rw [if_pos hz] at hx
      subst hx
      simp only [go_sem,decide_eq_true h1,hj2,hlen]
      refine ⟨by omega,?_⟩
      refine call_same (cc) (by simp [go_sem]) ?_
      simp only [go_sem,bne_t hz]
      exact pdone [] (by simp only [go_sem]) (by first | rfl | simp [go_sem,slv_ids])
    rw [if_neg (by simp [hz])] at hx
    simp only [go_sem,decide_eq_true h1,hj2,hlen]
    refine ⟨by omega,?_⟩
    refine call_same (cc) (by simp [go_sem]) ?_
    simp only [go_sem,bne_f hz]
    refine klp_n (j + 1) ⟨show j + 1 ≤ 1 + x.it.length by omega,hx⟩ (show 1 + x.it.length - (j + 1) < 1 + x.it.length - j by omega) (Wk.of ?_ ?_)
    · simp only [go_sem,e8]; try simp
    · simp only [go_sem]; try simp [inL_e]
  by_cases q4:x.tb = 0
  rotate_left
  · rw [if_pos (.inr (.inr ⟨q3,.inl q4⟩))]
    simp only [go_sem,FX113,decide_eq_false q1,decide_eq_false q2,bne_t q3,bne_t q4]
    exact pdone [] (by simp only [go_sem]; try rfl) (by rfl)
  by_cases q6:(x.o.length:Int) > 0
  · rw [if_pos (.inr (.inr ⟨q3,.inr (by omega)⟩))]
    simp only [go_sem,FX113,decide_eq_false q1,decide_eq_false q2,bne_t q3,bne_f q4,decide_eq_true q6]
    exact pdone [] (by simp only [go_sem]; try rfl) (by rfl)
  rw [if_neg (fun q=>by rcases q with z | z | z; exact q1 z; exact q2 z; rcases z.2 with y | y; exact y q4; omega)]
  simp only [go_sem,FX113,decide_eq_false q1,decide_eq_false q2,bne_t q3,bne_f q4,decide_eq_false q6]
  refine call_same (c1) (by simp [go_sem]) ?_
  cases inR x.tb
  · simp only [go_sem]
    exact pdone [] (by simp only [go_sem]; try rfl) (by rfl)
  rw [if_neg (by decide)]
  simp only [go_sem]
  refine call_same (c2) (by simp [go_sem]) ?_
  cases rfB x.ty
  · simp only [go_sem]
    exact pdone [] (by simp only [go_sem]; try rfl) (by rfl)
  rw [if_neg (by decide)]
  by_cases q5:(x.it.length:Int) > 256
  · rw [if_pos (by omega)]
    simp only [go_sem,decide_eq_true q5]
    exact pdone [] (by simp only [go_sem]; try rfl) (by rfl)
  rw [if_neg (by omega)]
  obtain ⟨G,hG⟩:∃ G,rowsF P (x.o :: x.it) = G:=⟨_,rfl⟩
  rw [hG]
  have happ:=fun ys=>appO_map 50 50 1 1 inL_ [x.o] ys rfl
  have hlen:(x.o :: x.it).length = 1 + x.it.length:=by rw [List.length_cons]; omega
  simp only [List.map_cons,List.map_nil,inL_e] at happ
  simp only [go_sem,decide_eq_false q5,happ]
  refine ⟨by omega,?_⟩
  generalize hL:x.o :: x.it = L at *
  refine loop_rule (fun j:Nat=>⟨[(55,.int .i64 j),(54,.int .i64 ((1 + x.it.length:Nat):Int)),(53,.ms 50 1 0 (1 + x.it.length))],[(50,⟨50,1,L.map inL_,false⟩)]⟩) (fun j=>j ≤ L.length ∧ G = rowsF P (L.drop j)) (fun j=>L.length - j) 0 ⟨Nat.zero_le _,hG.symm⟩ (Wk.of ?_ ?_) ?_
  · simp only [go_sem]; try simp
  · rw [← hL]
    simp only [go_sem]; try simp [inL_e]
  rintro j ⟨hj,hx⟩
  by_cases h1:(j:Int) < ((1 + x.it.length:Nat):Int)
  rotate_left
  · rw [drop_end (by omega)] at hx
    obtain rfl:G = (0,0):=hx
    simp only [go_sem,decide_eq_false h1]
    exact pdone [] (by simp only [go_sem]) (by first | rfl | simp [go_sem,slv_ids])
  have hj':j < L.length:=by omega
  have hj2:j < 1 + x.it.length:=by omega
  have e8:=i_bd hj' (by omega)
  rw [rowsF_at hj'] at hx
  have cc:=at_in hR hj'
  by_cases hz:(rowE P (nth L j)).2 = 0
  rotate_left
  · rw [if_pos hz] at hx
    subst hx
    simp only [go_sem,decide_eq_true h1,hj2,hlen]
    refine ⟨by omega,?_⟩
    refine call_same (cc) (by simp [go_sem]) ?_
    simp only [go_sem,bne_t hz]
    exact pdone [] (by simp only [go_sem]) (by first | rfl | simp [go_sem,slv_ids])
  rw [if_neg (by simp [hz])] at hx
  simp only [go_sem,decide_eq_true h1,hj2,hlen]
  refine ⟨by omega,?_⟩
  refine call_same (cc) (by simp [go_sem]) ?_
  simp only [go_sem,bne_f hz]
  refine klp_n (j + 1) ⟨show j + 1 ≤ 1 + x.it.length by omega,hx⟩ (show 1 + x.it.length - (j + 1) < 1 + x.it.length - j by omega) (Wk.of ?_ ?_)
  · simp only [go_sem,e8]; try simp
  · simp only [go_sem]; try simp [inL_e]
end Go.Proofs.YtoaagdbbbojpmaaGreatDoor
set_option maxRecDepth 100000
set_option maxHeartbeats 40000000
set_option linter.unusedVariables false
set_option linter.unusedSimpArgs false
namespace Go.Proofs.YtoaagdbbbojpmaaGreatDoor
open Go Go.Mw
-- @U: List.length_map,ftC_e,imC_e,cdC_e,tbC_e,lmC_e,gdC_e,exC_e,daC_e,cuC_e,elC_e,insC

attribute [local go_sem] List.length_map ftC_e imC_e cdC_e tbC_e lmC_e gdC_e exC_e daC_e cuC_e elC_e insC
theorem k_1 (i:Int) (x:Ft) (h:smF x):PCalls Tryz.prog nX59 [.int .i64 i,.agg (ftC x)] (.tup [.int .i64 0,.int .i64 (fnE x)]):=by
  refine pfun_sound (ic:=FX59.body) mixed cX59 rfl rfl ?_
  have c:=m_fun x h
  try simp only [ftC_e,imC_e,cdC_e,tbC_e,lmC_e,exC_e,cuC_e] at c
  simp only [go_sem,FX59]
  refine call_same (c) (by simp [go_sem]) ?_
  simp only [go_sem]
  exact pdone [] (by simp only [go_sem]) (by first | rfl | simp [go_sem,slv_ids])
theorem k_2 (i:Int) (x:Im):PCalls Tryz.prog nX60 [.int .i64 i,.agg (imC x)] (.tup [.int .i64 0,.int .i64 (imE x)]):=by
  refine pfun_sound (ic:=FX60.body) mixed cX60 rfl rfl ?_
  have c:=m_imp x
  try simp only [ftC_e,imC_e,cdC_e,tbC_e,lmC_e,exC_e,cuC_e] at c
  simp only [go_sem,FX60]
  refine call_same (c) (by simp [go_sem]) ?_
  simp only [go_sem]
  exact pdone [] (by simp only [go_sem]) (by first | rfl | simp [go_sem,slv_ids])
theorem k_3 (i:Int) (x:Cd) (h:smCd x):PCalls Tryz.prog nX61 [.int .i64 i,.agg (cdC x)] (.tup [.int .i64 0,.int .i64 (cdE x)]):=by
  refine pfun_sound (ic:=FX61.body) mixed cX61 rfl rfl ?_
  have c:=m_code x h
  try simp only [ftC_e,imC_e,cdC_e,tbC_e,lmC_e,exC_e,cuC_e] at c
  simp only [go_sem,FX61]
  refine call_same (c) (by simp [go_sem]) ?_
  simp only [go_sem]
  exact pdone [] (by simp only [go_sem]) (by first | rfl | simp [go_sem,slv_ids])
theorem k_4 (i:Int) (x:Tb):PCalls Tryz.prog nX62 [.int .i64 i,.agg (tbC x)] (.tup [.int .i64 0,.int .i64 (tbE x)]):=by
  refine pfun_sound (ic:=FX62.body) mixed cX62 rfl rfl ?_
  have c:=m_table x
  try simp only [ftC_e,imC_e,cdC_e,tbC_e,lmC_e,exC_e,cuC_e] at c
  simp only [go_sem,FX62]
  refine call_same (c) (by simp [go_sem]) ?_
  simp only [go_sem]
  exact pdone [] (by simp only [go_sem]) (by first | rfl | simp [go_sem,slv_ids])
theorem k_5 (i:Int) (x:Lm):PCalls Tryz.prog nX63 [.int .i64 i,.agg (lmC x)] (.tup [.int .i64 0,.int .i64 (mmE x)]):=by
  refine pfun_sound (ic:=FX63.body) mixed cX63 rfl rfl ?_
  have c:=m_mem x
  try simp only [ftC_e,imC_e,cdC_e,tbC_e,lmC_e,exC_e,cuC_e] at c
  simp only [go_sem,FX63]
  refine call_same (c) (by simp [go_sem]) ?_
  simp only [go_sem]
  exact pdone [] (by simp only [go_sem]) (by first | rfl | simp [go_sem,slv_ids])
theorem k_7 (i:Int) (x:Ex):PCalls Tryz.prog nX65 [.int .i64 i,.agg (exC x)] (.tup [.int .i64 0,.int .i64 (exE x)]):=by
  refine pfun_sound (ic:=FX65.body) mixed cX65 rfl rfl ?_
  have c:=m_export x
  try simp only [ftC_e,imC_e,cdC_e,tbC_e,lmC_e,exC_e,cuC_e] at c
  simp only [go_sem,FX65]
  refine call_same (c) (by simp [go_sem]) ?_
  simp only [go_sem]
  exact pdone [] (by simp only [go_sem]) (by first | rfl | simp [go_sem,slv_ids])
theorem k_10 (i:Int) (x:Cu):PCalls Tryz.prog nX55 [.int .i64 i,.agg (cuC x)] (.tup [.int .i64 0,.int .i64 (cuE x)]):=by
  refine pfun_sound (ic:=FX55.body) mixed cX55 rfl rfl ?_
  have c:=m_custom x
  try simp only [ftC_e,imC_e,cdC_e,tbC_e,lmC_e,exC_e,cuC_e] at c
  simp only [go_sem,FX55]
  refine call_same (c) (by simp [go_sem]) ?_
  simp only [go_sem]
  exact pdone [] (by simp only [go_sem]) (by first | rfl | simp [go_sem,slv_ids])
theorem k_8 (P:Ins → Bool) (i:Int) (x:El) (h:smEl x) (hP:∀ y,smI y → PCalls Tryz.prog nX73 [ins_ y] (.bool (P y))):PCalls Tryz.prog nX66 [.int .i64 i,.agg (elC x)] (.tup [.int .i64 (elE P x).1,.int .i64 (elE P x).2]):=by
  refine pfun_sound (ic:=FX66.body) mixed cX66 rfl rfl ?_
  have c:=m_elem P x h hP
  try simp only [elC_e,daC_e] at c
  simp only [go_sem,FX66]
  refine call_same (c) (by simp [go_sem]) ?_
  simp only [go_sem]
  exact pdone [] (by simp only [go_sem]) (by first | rfl | simp [go_sem,slv_ids])
theorem k_9 (P:Ins → Bool) (i:Int) (x:Da) (h:smDa x) (hP:∀ y,smI y → PCalls Tryz.prog nX73 [ins_ y] (.bool (P y))):PCalls Tryz.prog nX67 [.int .i64 i,.agg (daC x)] (.tup [.int .i64 (daE P x).1,.int .i64 (daE P x).2]):=by
  refine pfun_sound (ic:=FX67.body) mixed cX67 rfl rfl ?_
  have c:=m_data P x h fun y hy=>hP y (h.1.2 y hy)
  try simp only [elC_e,daC_e] at c
  simp only [go_sem,FX67]
  refine call_same (c) (by simp [go_sem]) ?_
  simp only [go_sem]
  exact pdone [] (by simp only [go_sem]) (by first | rfl | simp [go_sem,slv_ids])
theorem k_11 (P:Ins → Bool) (i:Int) (x:Cd) (h:smCd x) (hP:∀ y,smI y → PCalls Tryz.prog nX73 [ins_ y] (.bool (P y))):PCalls Tryz.prog nX56 [.int .i64 i,.agg (cdC x)] (.tup [.int .i64 (rowE P x.b).1,.int .i64 (rowE P x.b).2]):=by
  refine pfun_sound (ic:=FX56.body) mixed cX56 rfl rfl ?_
  have c:=m_row P x.b h.2 fun y hy=>hP y (h.2.2 y hy)
  try simp only [elC_e,daC_e] at c
  simp only [go_sem,FX56]
  refine call_same (c) (by simp [go_sem]) ?_
  simp only [go_sem]
  exact pdone [] (by simp only [go_sem]) (by first | rfl | simp [go_sem,slv_ids])
def gdE (P:Ins → Bool) (x:Gd):Int × Int:=if glE x.g ≠ 0 then (0,glE x.g) else rowE P x.i
theorem k_6 (P:Ins → Bool) (i:Int) (x:Gd) (h:smGd x) (hP:∀ y,smI y → PCalls Tryz.prog nX73 [ins_ y] (.bool (P y))):PCalls Tryz.prog nX64 [.int .i64 i,.agg (gdC x)] (.tup [.int .i64 (gdE P x).1,.int .i64 (gdE P x).2]):=by
  refine pfun_sound (ic:=FX64.body) mixed cX64 rfl rfl ?_
  have c:=m_glob x.g
  have d:=m_row P x.i h fun y hy=>hP y (h.2 y hy)
  unfold gdE
  simp only [go_sem,FX64]
  refine call_same (c) (by simp [go_sem]) ?_
  by_cases q:glE x.g = 0
  · rw [if_neg (by simp [q])]
    simp only [go_sem,bne_f q]
    refine call_same (d) (by simp [go_sem]) ?_
    simp only [go_sem]
    exact pdone [] (by simp only [go_sem]) (by first | rfl | simp [go_sem,slv_ids])
  · rw [if_pos q]
    simp only [go_sem,bne_t q]
    exact pdone [] (by simp only [go_sem]) (by first | rfl | simp [go_sem,slv_ids])
def cnI (k:Int) (l:List Im):Nat:=(l.filter fun x=>x.k == k).length
theorem cnI_tk {k:Int} {l:List Im} {i:Nat} (h:i < l.length):cnI k (l.take (i + 1)) = cnI k (l.take i) + (if (nth l i).k = k then 1 else 0):=by
  unfold cnI
  rw [take_c h,List.filter_append,List.length_append]
  by_cases q:(nth l i).k = k <;> simp [q]
theorem cnI_le (k:Int) (l:List Im):cnI k l ≤ l.length:=List.length_filter_le _ _
def ctO (m:Md) (i:Nat):AObj:=⟨127,4,[[.int .i64 (cnI 0 (m.ims.take i):Nat),.int .i64 (cnI 1 (m.ims.take i):Nat),.int .i64 (cnI 2 (m.ims.take i):Nat),.int .i64 (cnI 3 (m.ims.take i):Nat)]],true⟩
end Go.Proofs.YtoaagdbbbojpmaaGreatDoor
