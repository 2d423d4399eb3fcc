/-
  Chapter 14,walks: names found,names compared.
-/
import Derived.Test.YtoikbadfbneahaaGreatDoorQf
import Derived.Test.YtoikbadfbneahaaGreatDoorQg
import Derived.Test.YtoikbadfbneahaaGreatDoorQh
import Derived.Test.YtoikbadfbneahaaGreatDoorQk
set_option linter.unusedVariables false
set_option linter.unusedSimpArgs false
set_option linter.unusedSectionVars false
set_option maxRecDepth 100000
set_option maxHeartbeats 20000000
set_option linter.unusedVariables false
set_option linter.unusedSimpArgs false
namespace Go.Proofs.YtoikbadfbneahaaGreatDoor
open Go Go.Mw
-- @U: List.length_map

theorem ext_nth {α:Type} [Inhabited α] {a b:List α} (hl:a.length = b.length) (h:∀ k,k < a.length → nth a k = nth b k):a = b:=by
  apply List.ext_getElem hl
  intro i h1 h2
  have:=h i h1
  rwa [nth_eq h1,nth_eq h2] at this
theorem i_bound {i n:Nat} (h:i < n) (hn:n ≤ 9223372036854775807):IntKind.i64.wrap ((i:Int) + 1) = (i:Int) + 1:=wi (by omega) (by omega)
theorem s_find14 (l:List Nm) (hl:l.length ≤ 9223372036854775807) (i:Int):PCalls Tryz.prog nX93 [.sl 2 (l.map nm_),.int .i64 i] (.str (fnd l i)):=by
  refine pfun_sound (ic:=FX93.body) mixed cX93 rfl rfl ?_
  simp only [go_sem,List.length_map,FX93]
  refine loop_rule (fun j:Nat=>⟨[(9,.int .i64 j),(8,.int .i64 l.length),(7,.sl 2 (l.map nm_)),(1,.int .i64 i)],[]⟩) (fun j=>j ≤ l.length ∧ fnd l i = fnd (l.drop j) i) (fun j=>l.length - j) 0 ⟨Nat.zero_le _,rfl⟩ (Wk.of ?_ ?_) ?_
  · simp only [go_sem,List.length_map]; try simp
  · simp only [go_sem,List.length_map]
  rintro j ⟨hj,hx⟩
  by_cases h1:(j:Int) < (l.length:Int)
  · have hj':j < l.length:=by omega
    rw [fnd_at hj'] at hx
    have e8:=i_bound hj' hl
    by_cases h2:(nth l j).i = i
    · rw [if_pos h2] at hx
      rw [hx]
      simp only [go_sem,List.length_map,decide_eq_true h1,h2]
      refine ⟨by omega,h1,?_⟩
      exact pdone [] (by simp only [go_sem,List.length_map]) (by first | rfl | simp [go_sem,slv_ids,List.length_map])
    · rw [if_neg h2] at hx
      simp only [go_sem,List.length_map,decide_eq_true h1,beq_f h2]
      refine ⟨by omega,h1,klp_n (j + 1) ⟨show j + 1 ≤ l.length by omega,hx⟩ (show l.length - (j + 1) < l.length - j by omega) (Wk.of ?_ ?_)⟩
      · simp only [go_sem,List.length_map,e8]; try simp
      · simp only [go_sem,List.length_map]
  · rw [drop_end (by omega)] at hx
    rw [hx]
    simp only [go_sem,List.length_map,decide_eq_false h1]
    exact pdone [] (by simp only [go_sem,List.length_map,fnd]) (by first | rfl | simp [go_sem,slv_ids,List.length_map])
def lnN (n:Ns):Prop:=n.fs.length ≤ 9223372036854775807 ∧ n.ls.length ≤ 9223372036854775807 ∧ ∀ x ∈ n.ls,x.l.length ≤ 9223372036854775807
theorem lnN_at {n:Ns} (h:lnN n) {i:Nat} (hi:i < n.ls.length):(nth n.ls i).l.length ≤ 9223372036854775807:=by
  rw [nth_eq hi]; exact h.2.2 _ (List.getElem_mem hi)
theorem s_func14 (n:Ns) (hn:lnN n) (i:Int):PCalls Tryz.prog nX103 [ns_ n,.int .i64 i] (.str (fnd n.fs i)):=by
  refine pfun_sound (ic:=FX103.body) mixed cX103 rfl rfl ?_
  simp only [go_sem,List.length_map,FX103]
  refine call_same (s_find14 n.fs hn.1 i) (by simp [go_sem,List.length_map]) ?_
  simp only [go_sem,List.length_map]
  exact pdone [] (by simp only [go_sem,List.length_map]) (by first | rfl | simp [go_sem,slv_ids,List.length_map])
/-! ### Compared -/
theorem nm_eq {x y:Nm}:((x.i == y.i) && (x.s == y.s)) = decide (x = y):=by
  obtain ⟨a,b⟩:=x
  obtain ⟨c,d⟩:=y
  by_cases h:a = c <;> by_cases g:b = d <;> simp [h,g]
theorem u_names14 (a b:List Nm) (ha:a.length ≤ 9223372036854775807):PCalls Tryz.prog nX85 [.sl 2 (a.map nm_),.sl 2 (b.map nm_)] (.bool (decide (a = b))):=by
  refine pfun_sound (ic:=FX85.body) mixed cX85 rfl rfl ?_
  by_cases hl:(a.length:Int) = (b.length:Int)
  rotate_left
  · rw [decide_eq_false (fun h=>hl (by rw [h]))]
    simp only [go_sem,List.length_map,FX85,bne_t hl]
    exact pdone [] (by simp only [go_sem,List.length_map]) (by first | rfl | simp [go_sem,slv_ids,List.length_map])
  simp only [go_sem,List.length_map,FX85,bne_f hl]
  refine loop_rule (fun j:Nat=>⟨[(5,.int .i64 j),(0,.sl 2 (a.map nm_)),(1,.sl 2 (b.map nm_))],[]⟩) (fun j=>j ≤ a.length ∧ ∀ k,k < j → nth a k = nth b k) (fun j=>a.length - j) 0 ⟨Nat.zero_le _,fun k hk=>by omega⟩ (Wk.of ?_ ?_) ?_
  · simp only [go_sem,List.length_map]; try simp
  · simp only [go_sem,List.length_map]
  rintro j ⟨hj,hx⟩
  by_cases h1:(j:Int) < (a.length:Int)
  · have hj':j < a.length:=by omega
    have hjb:(j:Int) < (b.length:Int):=by omega
    have e8:=i_bound hj' ha
    by_cases h2:nth a j = nth b j
    · simp only [go_sem,List.length_map,decide_eq_true h1,nm_eq,h2,decide_eq_true (rfl:nth b j = nth b j)]
      refine ⟨by omega,h1,by omega,hjb,klp_n (j + 1) ⟨show j + 1 ≤ a.length by omega,fun k hk=>?_⟩ (show a.length - (j + 1) < a.length - j by omega) (Wk.of ?_ ?_)⟩
      · rcases Nat.lt_or_ge k j with h | h
        · exact hx k h
        · rw [show k = j by omega]; exact h2
      · simp only [go_sem,List.length_map,e8]; try simp
      · simp only [go_sem,List.length_map]
    · rw [decide_eq_false (fun h=>h2 (by rw [h]))]
      simp only [go_sem,List.length_map,decide_eq_true h1,nm_eq,decide_eq_false h2]
      refine ⟨by omega,h1,by omega,hjb,?_⟩
      exact pdone [] (by simp only [go_sem,List.length_map]) (by first | rfl | simp [go_sem,slv_ids,List.length_map])
  · rw [decide_eq_true (ext_nth (by omega) fun k hk=>hx k (by omega))]
    simp only [go_sem,List.length_map,decide_eq_false h1]
    exact pdone [] (by simp only [go_sem,List.length_map]) (by first | rfl | simp [go_sem,slv_ids,List.length_map])
theorem u_samenames (a b:Ns) (ha:lnN a) (hb:lnN b):PCalls Tryz.prog nX47 [ns_ a,ns_ b] (.bool (decide (a = b))):=by
  refine pfun_sound (ic:=FX47.body) mixed cX47 rfl rfl ?_
  have c1:=u_names14 a.fs b.fs ha.1
  by_cases h1:a.m = b.m
  rotate_left
  · rw [decide_eq_false (fun h=>h1 (by rw [h]))]
    simp only [go_sem,List.length_map,FX47,show (a.m == b.m) = false by simpa using h1]
    exact pdone [] (by simp only [go_sem,List.length_map]) (by first | rfl | simp [go_sem,slv_ids,List.length_map])
  by_cases h2:a.fs = b.fs
  rotate_left
  · rw [decide_eq_false (fun h=>h2 (by rw [h]))]
    rw [decide_eq_false h2] at c1
    simp only [go_sem,List.length_map,FX47,show (a.m == b.m) = true by simpa using h1]
    refine call_same (c1) (by simp [go_sem,List.length_map]) ?_
    simp only [go_sem,List.length_map]
    exact pdone [] (by simp only [go_sem,List.length_map]) (by first | rfl | simp [go_sem,slv_ids,List.length_map])
  rw [decide_eq_true h2] at c1
  by_cases hl:(a.ls.length:Int) = (b.ls.length:Int)
  rotate_left
  · rw [decide_eq_false (fun h=>hl (by rw [h]))]
    simp only [go_sem,List.length_map,FX47,show (a.m == b.m) = true by simpa using h1]
    refine call_same (c1) (by simp [go_sem,List.length_map]) ?_
    simp only [go_sem,List.length_map,bne_t hl]
    exact pdone [] (by simp only [go_sem,List.length_map]) (by first | rfl | simp [go_sem,slv_ids,List.length_map])
  simp only [go_sem,List.length_map,FX47,show (a.m == b.m) = true by simpa using h1]
  refine call_same (c1) (by simp [go_sem,List.length_map]) ?_
  simp only [go_sem,List.length_map,bne_f hl]
  refine loop_rule (fun j:Nat=>⟨[(5,.int .i64 j),(2,.mp 2 3 0 0),(3,.mp 3 3 0 0)],[(2,⟨25,3,[nsC a],true⟩),(3,⟨25,3,[nsC b],true⟩)]⟩) (fun j=>j ≤ a.ls.length ∧ ∀ k,k < j → nth a.ls k = nth b.ls k) (fun j=>a.ls.length - j) 0 ⟨Nat.zero_le _,fun k hk=>by omega⟩ (Wk.of ?_ ?_) ?_
  · simp only [go_sem,List.length_map]; try simp
  · simp only [go_sem,List.length_map,nsC]
  rintro j ⟨hj,hx⟩
  by_cases h3:(j:Int) < (a.ls.length:Int)
  · have hj':j < a.ls.length:=by omega
    have hjb:(j:Int) < (b.ls.length:Int):=by omega
    have e8:=i_bound hj' ha.2.1
    have c2:=u_names14 (nth a.ls j).l (nth b.ls j).l (lnN_at ha hj')
    by_cases h4:(nth a.ls j).f = (nth b.ls j).f
    · by_cases h5:(nth a.ls j).l = (nth b.ls j).l
      · rw [decide_eq_true h5] at c2
        simp only [go_sem,List.length_map,decide_eq_true h3,nsC,bne_f h4]
        refine ⟨by omega,h3,by omega,hjb,by omega,h3,by omega,hjb,?_⟩
        refine call_same (c2) (by simp [go_sem,List.length_map]) ?_
        simp only [go_sem,List.length_map]
        refine klp_n (j + 1) ⟨show j + 1 ≤ a.ls.length by omega,fun k hk=>?_⟩ (show a.ls.length - (j + 1) < a.ls.length - j by omega) (Wk.of ?_ ?_)
        · rcases Nat.lt_or_ge k j with h | h
          · exact hx k h
          · rw [show k = j by omega]
            generalize nth a.ls j = x at *
            generalize nth b.ls j = y at *
            obtain ⟨x1,x2⟩:=x
            obtain ⟨y1,y2⟩:=y
            simp only at h4 h5
            rw [h4,h5]
        · simp only [go_sem,List.length_map,e8]; try simp
        · simp only [go_sem,List.length_map,nsC]
      · rw [decide_eq_false (fun h=>h5 (by rw [h]))]
        rw [decide_eq_false h5] at c2
        simp only [go_sem,List.length_map,decide_eq_true h3,nsC,bne_f h4]
        refine ⟨by omega,h3,by omega,hjb,by omega,h3,by omega,hjb,?_⟩
        refine call_same (c2) (by simp [go_sem,List.length_map]) ?_
        simp only [go_sem,List.length_map]
        exact pdone [] (by simp only [go_sem,List.length_map]) (by first | rfl | simp [go_sem,slv_ids,List.length_map])
    · rw [decide_eq_false (fun h=>h4 (by rw [h]))]
      simp only [go_sem,List.length_map,decide_eq_true h3,nsC,bne_t h4]
      refine ⟨by omega,h3,by omega,hjb,?_⟩
      exact pdone [] (by simp only [go_sem,List.length_map]) (by first | rfl | simp [go_sem,slv_ids,List.length_map])
  · have h6:a.ls = b.ls:=ext_nth (by omega) fun k hk=>hx k (by omega)
    rw [decide_eq_true (show a = b by
      obtain ⟨a1,a2,a3⟩:=a
      obtain ⟨b1,b2,b3⟩:=b
      simp only at h1 h2 h6
      rw [h1,h2,h6])]
    simp only [go_sem,List.length_map,decide_eq_false h3,nsC]
    exact pdone [] (by simp only [go_sem,List.length_map]) (by first | rfl | simp [go_sem,slv_ids,List.length_map])
end Go.Proofs.YtoikbadfbneahaaGreatDoor
set_option maxRecDepth 100000
set_option maxHeartbeats 40000000
set_option linter.unusedVariables false
set_option linter.unusedSimpArgs false
namespace Go.Proofs.YtoikbadfbneahaaGreatDoor
open Go Go.Mw
-- @U: List.length_map

def fw14:List Lc → Nat → Int → Int
  | [],_,a=>a
  | _ :: _,0,a=>a
  | x :: r,k + 1,a=>if a ≤ 400 then fw14 r k (IntKind.i64.wrap (a + (x.l.length:Int))) else a
def few14 (n:Ns):Bool:=decide ((n.ls.length:Int) ≤ 90) && decide (fw14 n.ls 100 (IntKind.i64.wrap ((n.fs.length:Int) + (n.m.length:Int))) ≤ 400)
theorem s_few14 (n:Ns):PCalls Tryz.prog nX131 [ns_ n] (.bool (few14 n)):=by
  refine pfun_sound (ic:=FX131.body) mixed cX131 rfl rfl ?_
  simp only [go_sem,List.length_map,FX131]
  unfold few14
  generalize hA:IntKind.i64.wrap ((n.fs.length:Int) + (n.m.length:Int)) = A
  refine loop_rule (fun q:Nat × Int=>⟨[(4,.int .i64 q.1),(3,.int .i64 q.2),(1,.mp 1 3 0 0)],[(1,⟨25,3,[nsC n],true⟩)]⟩) (fun q=>q.1 ≤ n.ls.length ∧ q.1 ≤ 100 ∧ fw14 (n.ls.drop q.1) (100 - q.1) q.2 = fw14 n.ls 100 A) (fun q=>n.ls.length - q.1) (0,A) ⟨Nat.zero_le _,Nat.zero_le _,rfl⟩ (Wk.of ?_ ?_) ?_
  · simp only [go_sem,List.length_map,hA]; try simp
  · simp only [go_sem,List.length_map,nsC]
  rintro ⟨i,a⟩ ⟨hi,h100,hf⟩
  simp only at hi h100 hf
  by_cases h1:(i:Int) < (n.ls.length:Int)
  · by_cases h2:(i:Int) < 100
    · have hi':i < n.ls.length:=by omega
      by_cases h3:a ≤ 400
      · have e8:=wi (n:=(i:Int) + 1) (by omega) (by omega)
        rw [drop_c hi',show 100 - i = (100 - (i + 1)) + 1 by omega,fw14,if_pos h3] at hf
        simp only [go_sem,List.length_map,decide_eq_true h1,decide_eq_true h2,decide_eq_true h3,nsC]
        refine ⟨by omega,h1,?_⟩
        refine klp_n (i + 1,IntKind.i64.wrap (a + ((nth n.ls i).l.length:Int))) ⟨show i + 1 ≤ n.ls.length by omega,show i + 1 ≤ 100 by omega,hf⟩ (show n.ls.length - (i + 1) < n.ls.length - i by omega) (Wk.of ?_ ?_)
        · simp only [go_sem,List.length_map,e8]; try simp
        · simp only [go_sem,List.length_map,nsC]
      · rw [drop_c hi',show 100 - i = (100 - (i + 1)) + 1 by omega,fw14,if_neg h3] at hf
        rw [← hf,decide_eq_false h3,Bool.and_false]
        cases h4:decide ((n.ls.length:Int) ≤ 90)
        · simp only [go_sem,List.length_map,decide_eq_true h1,decide_eq_true h2,decide_eq_false h3,h4,nsC]
          exact pdone [] (by simp only [go_sem,List.length_map]) (by first | rfl | simp [go_sem,slv_ids,List.length_map])
        · simp only [go_sem,List.length_map,decide_eq_true h1,decide_eq_true h2,decide_eq_false h3,h4,nsC]
          exact pdone [] (by simp only [go_sem,List.length_map]) (by first | rfl | simp [go_sem,slv_ids,List.length_map])
    · rw [decide_eq_false (show ¬ ((n.ls.length:Int) ≤ 90) by omega),Bool.false_and]
      simp only [go_sem,List.length_map,decide_eq_true h1,decide_eq_false h2,decide_eq_false (show ¬ ((n.ls.length:Int) ≤ 90) by omega),nsC]
      exact pdone [] (by simp only [go_sem,List.length_map]) (by first | rfl | simp [go_sem,slv_ids,List.length_map])
  · rw [drop_end (by omega),fw14] at hf
    rw [← hf]
    cases h4:decide ((n.ls.length:Int) ≤ 90)
    · simp only [go_sem,List.length_map,decide_eq_false h1,h4,nsC]
      exact pdone [] (by simp only [go_sem,List.length_map,Bool.false_and]) (by first | rfl | simp [go_sem,slv_ids,List.length_map])
    · cases h5:decide (a ≤ 400)
      · simp only [go_sem,List.length_map,decide_eq_false h1,h4,h5,nsC]
        exact pdone [] (by simp only [go_sem,List.length_map,Bool.and_false]) (by first | rfl | simp [go_sem,slv_ids,List.length_map])
      · simp only [go_sem,List.length_map,decide_eq_false h1,h4,h5,nsC]
        exact pdone [] (by simp only [go_sem,List.length_map,Bool.true_and]) (by first | rfl | simp [go_sem,slv_ids,List.length_map])
def nmB:List UInt8:=[110,97,109,101]
def ofA:List Cu → Ns × Bool × Int
  | []=>(default,false,0)
  | c :: r=>if c.n = nmB then ((decA c.b).1,true,(decA c.b).2) else ofA r
theorem ofA_at {l:List Cu} {i:Nat} (h:i < l.length):ofA (l.drop i) = if (nth l i).n = nmB then ((decA (nth l i).b).1,true,(decA (nth l i).b).2) else ofA (l.drop (i + 1)):=by
  rw [drop_c h]; rfl
theorem s_of14 (m:Md) (h:m.cs.length ≤ 9223372036854775807) (hb:∀ c ∈ m.cs,c.b.length < 1000000000):PCalls Tryz.prog nX134 [md_ m] (.tup [ns_ (ofA m.cs).1,.bool (ofA m.cs).2.1,.int .i64 (ofA m.cs).2.2]):=by
  refine pfun_sound (ic:=FX134.body) mixed cX134 rfl rfl ?_
  obtain ⟨G,hG⟩:∃ G,ofA m.cs = G:=⟨_,rfl⟩
  rw [hG]
  simp only [go_sem,List.length_map,FX134,md_,mdC_e]
  refine loop_rule (fun j:Nat=>⟨[(12,.int .i64 j),(11,.int .i64 m.cs.length),(10,.sl 3 (m.cs.map cuC)),(2,.mp 2 3 0 0)],[(2,⟨25,3,[[.str [],.nl,.nl]],true⟩)]⟩) (fun j=>j ≤ m.cs.length ∧ G = ofA (m.cs.drop j)) (fun j=>m.cs.length - j) 0 ⟨Nat.zero_le _,hG.symm⟩ (Wk.of ?_ ?_) ?_
  · simp only [go_sem,List.length_map]; try simp
  · simp only [go_sem,List.length_map]
  rintro j ⟨hj,hx⟩
  by_cases h1:(j:Int) < (m.cs.length:Int)
  · have hj':j < m.cs.length:=by omega
    rw [ofA_at hj'] at hx
    have e8:=wi (n:=(j:Int) + 1) (by omega) (by omega)
    by_cases h2:(nth m.cs j).n = nmB
    · rw [if_pos h2] at hx
      subst hx
      have cd:=v_decode (nth m.cs j).b (at_in hb hj')
      simp only [go_sem,List.length_map,decide_eq_true h1,cuC_e,h2,nmB]
      refine ⟨by omega,h1,?_⟩
      refine call_same (cd) (by simp [go_sem,List.length_map]) ?_
      simp only [go_sem,List.length_map]
      exact pdone [] (by simp only [go_sem,List.length_map]) (by first | rfl | simp [go_sem,slv_ids,List.length_map])
    · rw [if_neg h2] at hx
      simp only [go_sem,List.length_map,decide_eq_true h1,cuC_e,show ((nth m.cs j).n == [110,97,109,101]) = false by simpa [nmB] using h2]
      refine ⟨by omega,h1,klp_n (j + 1) ⟨show j + 1 ≤ m.cs.length by omega,hx⟩ (show m.cs.length - (j + 1) < m.cs.length - j by omega) (Wk.of ?_ ?_)⟩
      · simp only [go_sem,List.length_map,e8]; try simp
      · simp only [go_sem,List.length_map]
  · rw [drop_end (by omega)] at hx
    subst hx
    simp only [go_sem,List.length_map,decide_eq_false h1]
    exact wpdone (Wk.nlm _ 2 (r':=nsC default) (by rfl) nsC_0) [] (by first | rfl | simp only [go_sem,List.length_map,nsC]) rfl
end Go.Proofs.YtoikbadfbneahaaGreatDoor
set_option maxRecDepth 100000
set_option maxHeartbeats 40000000
set_option linter.unusedVariables false
set_option linter.unusedSimpArgs false
namespace Go.Proofs.YtoikbadfbneahaaGreatDoor
open Go Go.Mw
-- @U: List.length_map,mdC_e,cuC_e

def fB (p:Bool × Int):List AV:=[.bool p.1,.int .i64 p.2]
theorem fB_e (p:Bool × Int):fB p = [.bool p.1,.int .i64 p.2]:=rfl
def lsL (m:Md):List (Bool × Int):=[(decide ((m.ds.length:Int) > 0),12),(decide ((m.fs.length:Int) > 0),11),(decide ((m.els.length:Int) > 0),9),(m.hs,8),(decide ((m.exs.length:Int) > 0),7),(decide ((m.gs.length:Int) > 0),6),(decide ((m.ms.length:Int) > 0),5),(decide ((m.tbs.length:Int) > 0),4),(decide ((m.ims.length:Int) > 0),2),(decide ((m.ts.length:Int) > 0),1)]
def lstN:List (Bool × Int) → Int
  | []=>0
  | p :: r=>if p.1 = true then p.2 else lstN r
def lastM (m:Md):Int:=lstN (lsL m)
theorem lstN_at {l:List (Bool × Int)} {i:Nat} (h:i < l.length):lstN (l.drop i) = if (nth l i).1 = true then (nth l i).2 else lstN (l.drop (i + 1)):=by
  rw [drop_c h]; rfl
theorem s_last14 (m:Md):PCalls Tryz.prog nX114 [md_ m] (.int .i64 (lastM m)):=by
  refine pfun_sound (ic:=FX114.body) mixed cX114 rfl rfl ?_
  simp only [go_sem,List.length_map,mdC_e,cuC_e,FX114,md_,mdC_e]
  have hL:(lsL m).length = 10:=rfl
  refine loop_rule (fun j:Nat=>⟨[(55,.int .i64 j),(54,.int .i64 10),(53,.ms 53 2 0 10)],[(53,⟨174,2,(lsL m).map fB,false⟩)]⟩) (fun j=>j ≤ 10 ∧ lastM m = lstN ((lsL m).drop j)) (fun j=>10 - j) 0 ⟨Nat.zero_le _,rfl⟩ (Wk.of ?_ ?_) ?_
  · simp only [go_sem,List.length_map,mdC_e,cuC_e]; try simp
  · simp only [go_sem,List.length_map,mdC_e,cuC_e,lsL]; try simp [fB_e]
  rintro j ⟨hj,hx⟩
  generalize lsL m = L at *
  by_cases h1:(j:Int) < 10
  · have hj':j < L.length:=by omega
    have hj2:j < 10:=by omega
    rw [lstN_at hj'] at hx
    have e8:=wi (n:=(j:Int) + 1) (by omega) (by omega)
    cases hb:(nth L j).1
    · rw [hb,if_neg (by decide)] at hx
      simp only [go_sem,List.length_map,mdC_e,cuC_e,decide_eq_true h1,fB_e,hb,hj2,hL]
      refine ⟨by omega,klp_n (j + 1) ⟨show j + 1 ≤ 10 by omega,hx⟩ (show 10 - (j + 1) < 10 - j by omega) (Wk.of ?_ ?_)⟩
      · simp only [go_sem,List.length_map,mdC_e,cuC_e,e8]; try simp
      · simp only [go_sem,List.length_map,mdC_e,cuC_e]
    · rw [hb,if_pos rfl] at hx
      rw [hx]
      simp only [go_sem,List.length_map,mdC_e,cuC_e,decide_eq_true h1,fB_e,hb,hj2,hL]
      refine ⟨by omega,?_⟩
      exact pdone [] (by simp only [go_sem,List.length_map,mdC_e,cuC_e]) (by first | rfl | simp [go_sem,slv_ids,List.length_map,mdC_e,cuC_e])
  · rw [drop_end (by omega)] at hx
    rw [hx]
    simp only [go_sem,List.length_map,mdC_e,cuC_e,decide_eq_false h1]
    exact pdone [] (by simp only [go_sem,List.length_map,mdC_e,cuC_e,lstN]) (by first | rfl | simp [go_sem,slv_ids,List.length_map,mdC_e,cuC_e])
def flt (l:List Cu):List Cu:=l.filter fun c=>!(c.n == nmB)
theorem flt_tk {l:List Cu} {i:Nat} (h:i < l.length):flt (l.take (i + 1)) = flt (l.take i) ++ (if (nth l i).n = nmB then [] else [nth l i]):=by
  unfold flt
  rw [take_c h,List.filter_append]
  congr 1
  by_cases h:(nth l i).n = nmB
  · rw [if_pos h]; simp [h]
  · rw [if_neg h]; simp [h]
theorem flt_len (l:List Cu):(flt l).length ≤ l.length:=List.length_filter_le _ _
def withA (m:Md) (n:Ns):Md × Int :=
  if (encA n).2 ≠ 0 then (default,(encA n).2) else
  if (encA n).1.length = 0 then ({ m with cs:=flt m.cs },0) else
  if (encA n).1.length > 4096 ∨ (flt m.cs).length ≥ 8 then (default,6) else ({ m with cs:=flt m.cs ++ [⟨lastM m,nmB,(encA n).1⟩] },0)
theorem mdC_0:nlm [.nl,.nl,.nl,.nl,.nl,.nl,.nl,.bool false,.int .i64 0,.nl,.nl,.nl] (mdC default) :=
  ⟨.inr ⟨rfl,.inl ⟨2,rfl⟩⟩,.inr ⟨rfl,.inl ⟨13,rfl⟩⟩,.inr ⟨rfl,.inl ⟨3,rfl⟩⟩,.inr ⟨rfl,.inl ⟨4,rfl⟩⟩,.inr ⟨rfl,.inl ⟨3,rfl⟩⟩,.inr ⟨rfl,.inl ⟨3,rfl⟩⟩,.inr ⟨rfl,.inl ⟨3,rfl⟩⟩,.inl rfl,.inl rfl,.inr ⟨rfl,.inl ⟨5,rfl⟩⟩,.inr ⟨rfl,.inl ⟨4,rfl⟩⟩,.inr ⟨rfl,.inl ⟨3,rfl⟩⟩,trivial⟩
theorem s_with14 (m:Md) (n:Ns) (hm:smM m) (hn:smN n):PCalls Tryz.prog nX97 [md_ m,ns_ n] (.tup [md_ (withA m n).1,.int .i64 (withA m n).2]):=by
  refine pfun_sound (ic:=FX97.body) mixed cX97 rfl rfl ?_
  have ce:=s_encode n hn
  have cp:=s_copy7 m hm
  have cl:=s_last14 m
  simp only [ns_e] at ce
  simp only [md_,mdC_e] at cp cl
  unfold withA
  generalize encA n = E at *
  obtain ⟨b,e⟩:=E
  simp only at ce ⊢
  by_cases he:e = 0
  rotate_left
  · rw [if_pos he]
    simp only [go_sem,List.length_map,mdC_e,cuC_e,FX97,md_,mdC_e]
    refine call_same (ce) (by simp [go_sem,List.length_map,mdC_e,cuC_e]) ?_
    simp only [go_sem,List.length_map,mdC_e,cuC_e,bne_t he]
    exact wpdone (Wk.nlm _ 4 (r':=mdC default) (by rfl) mdC_0) [] (by first | rfl | simp only [go_sem,List.length_map,mdC_e,cuC_e,mdC_e]) rfl
  subst he
  rw [if_neg (by decide)]
  simp only [go_sem,List.length_map,mdC_e,cuC_e,FX97,md_,mdC_e]
  refine call_same (ce) (by simp [go_sem,List.length_map,mdC_e,cuC_e]) ?_
  simp only [go_sem,List.length_map,mdC_e,cuC_e]
  refine call_same (cp) (by simp [go_sem,List.length_map,mdC_e,cuC_e]) ?_
  simp only [go_sem,List.length_map,mdC_e,cuC_e]
  refine loop_rule (fun i:Nat=>⟨[(26,.int .i64 i),(25,.int .i64 m.cs.length),(24,.sl 3 (m.cs.map cuC)),(9,.ms 900 3 0 (flt (m.cs.take i)).length),(6,.sl 1 (b.map by_)),(8,.mp 8 12 0 0),(2,.mp 2 12 0 0),(4,.mp 4 12 0 0)],[(900,⟨60,3,(flt (m.cs.take i)).map cuC,false⟩),(8,⟨44,12,[mdC m],true⟩),(2,⟨44,12,[mdC m],true⟩),(4,⟨44,12,[[.nl,.nl,.nl,.nl,.nl,.nl,.nl,.bool false,.int .i64 0,.nl,.nl,.nl]],true⟩)]⟩) (fun i=>i ≤ m.cs.length) (fun i=>m.cs.length - i) 0 (Nat.zero_le _) ((Wk.nil _ 9 900 3 60 (by simp only [go_sem,List.length_map,mdC_e,cuC_e]) (.inl (by decide))).trans (Wk.of ?_ ?_)) ?_
  · simp only [go_sem,List.length_map,mdC_e,cuC_e,St.mknil,List.take_zero,flt,List.filter_nil]; try simp [go_sem]
  · simp only [go_sem,List.length_map,mdC_e,cuC_e,St.mknil,List.take_zero,flt,List.filter_nil,mdC_e]; try simp [go_sem]
  intro i hi
  have hcl:=hm.cs.1
  have hfl:=flt_len (m.cs.take i)
  rw [List.length_take] at hfl
  have happ:=fun ys=>appO_map 900 60 3 (flt (m.cs.take i)).length cuC (flt (m.cs.take i)) ys rfl
  by_cases h1:(i:Int) < (m.cs.length:Int)
  · have hi':i < m.cs.length:=by omega
    have e8:=wi (n:=(i:Int) + 1) (by omega) (by omega)
    have ht:=flt_tk hi'
    by_cases h2:(nth m.cs i).n = nmB
    · rw [if_pos h2,List.append_nil] at ht
      simp only [go_sem,List.length_map,mdC_e,cuC_e,decide_eq_true h1,cuC_e,h2,nmB]
      refine ⟨by omega,h1,klp_n (i + 1) (show i + 1 ≤ m.cs.length by omega) (show m.cs.length - (i + 1) < m.cs.length - i by omega) (Wk.of ?_ ?_)⟩
      · simp only [go_sem,List.length_map,mdC_e,cuC_e,e8,ht]; try simp
      · simp only [go_sem,List.length_map,mdC_e,cuC_e,ht]; try simp
    · rw [if_neg h2] at ht
      simp only [go_sem,List.length_map,mdC_e,cuC_e,decide_eq_true h1,show ((nth m.cs i).n == [110,97,109,101]) = false by simpa [nmB] using h2,happ]
      refine ⟨by omega,h1,by omega,klp_n (i + 1) (show i + 1 ≤ m.cs.length by omega) (show m.cs.length - (i + 1) < m.cs.length - i by omega) (Wk.of ?_ ?_)⟩
      · simp only [go_sem,List.length_map,mdC_e,cuC_e,e8,ht,List.length_append,List.length_singleton]; try simp
      · simp only [go_sem,List.length_map,mdC_e,cuC_e,ht,List.map_append]; try simp [cuC_e]
  · obtain rfl:i = m.cs.length:=by omega
    rw [List.take_length] at *
    by_cases hb0:b.length = 0
    · rw [if_pos hb0]
      simp only [go_sem,List.length_map,mdC_e,cuC_e,decide_eq_false h1,List.take_length,decide_eq_false (show ¬ (b.length:Int) > 0 by omega)]
      refine pdone [900] ?_ rfl
      simp only [go_sem,List.length_map,mdC_e,cuC_e,Nat.le_refl,md_]
      rw [List.take_of_length_le (by simp)]
    rw [if_neg hb0]
    have hbp:(b.length:Int) > 0:=by omega
    by_cases hb1:(b.length:Int) > 4096
    · rw [if_pos (.inl (by omega))]
      simp only [go_sem,List.length_map,mdC_e,cuC_e,decide_eq_false h1,List.take_length,decide_eq_true hbp,decide_eq_true hb1]
      exact wpdone (Wk.nlm _ 4 (r':=mdC default) (by rfl) mdC_0) [] (by first | rfl | simp only [go_sem,List.length_map,mdC_e,cuC_e,md_]) rfl
    by_cases hb2:((flt m.cs).length:Int) ≥ 8
    · rw [if_pos (.inr (by omega))]
      simp only [go_sem,List.length_map,mdC_e,cuC_e,decide_eq_false h1,List.take_length,decide_eq_true hbp,decide_eq_false hb1,decide_eq_true hb2]
      exact wpdone (Wk.nlm _ 4 (r':=mdC default) (by rfl) mdC_0) [] (by first | rfl | simp only [go_sem,List.length_map,mdC_e,cuC_e,md_]) rfl
    rw [if_neg (by omega)]
    simp only [go_sem,List.length_map,mdC_e,cuC_e,decide_eq_false h1,List.take_length,decide_eq_true hbp,decide_eq_false hb1,decide_eq_false hb2]
    refine call_same (cl) (by simp [go_sem,List.length_map,mdC_e,cuC_e]) ?_
    simp only [go_sem,List.length_map,mdC_e,cuC_e,happ]
    refine ⟨by omega,pdone [900] ?_ rfl⟩
    simp only [go_sem,List.length_map,mdC_e,cuC_e,md_,List.length_append,List.length_singleton,List.map_append,nmB]
    rw [if_pos (by simp),List.take_of_length_le (by simp)]
    try rfl
end Go.Proofs.YtoikbadfbneahaaGreatDoor
set_option maxRecDepth 100000
set_option maxHeartbeats 40000000
set_option linter.unusedVariables false
set_option linter.unusedSimpArgs false
namespace Go.Proofs.YtoikbadfbneahaaGreatDoor
open Go Go.Mw
-- @U: List.length_map,mdC_e,cuC_e,md_

def exN:Ns:=⟨[109],[],[]⟩
theorem ex_enc:encA exN = ([0,2,1,109],0):=by
  have h:chk exN = 0:=by decide +kernel
  unfold encA
  rw [if_neg (by simp [h])]
  simp [bytesN,exN,prt,encT,putU_lo]
theorem ex_dec:decA [1,4,1,3,1,102] = (⟨[],[⟨3,[102]⟩],[]⟩,0):=by decide +kernel
theorem ex_with:withA default exN = ({ (default:Md) with cs:=[⟨0,nmB,[0,2,1,109]⟩] },0):=by
  unfold withA
  simp only [ex_enc]
  rw [if_neg (by decide),if_neg (by decide),if_neg (by decide)]
  rfl
theorem smM_0:smM default:=⟨⟨by decide,fun x h=>by cases h⟩,by decide,⟨by decide,fun x h=>by cases h⟩,by decide,by decide,⟨by decide,fun x h=>by cases h⟩,by decide,⟨by decide,fun x h=>by cases h⟩,⟨by decide,fun x h=>by cases h⟩,⟨by decide,fun x h=>by cases h⟩⟩
theorem smN_ex:smN exN:=⟨by unfold smS exN; decide,⟨fun x h=>(by cases h),fun x h=>(by cases h)⟩⟩
theorem s_alive14:PCalls Tryz.prog nX82 [] (.bool true):=by
  refine pfun_sound (ic:=FX82.body) mixed cX82 rfl rfl ?_
  have c1:=s_encode exN smN_ex
  have c2:=v_decode [1,4,1,3,1,102] (by decide)
  have c3:=s_with14 default exN smM_0 smN_ex
  have c4:=s_func14 ⟨[],[⟨3,[102]⟩],[]⟩ ⟨by decide,by decide,fun x h=>by cases h⟩ 3
  rw [ex_enc] at c1
  rw [ex_dec] at c2
  rw [ex_with] at c3
  rw [show fnd [⟨3,[102]⟩] 3 = [102] from rfl] at c4
  simp only [go_sem,List.length_map,mdC_e,cuC_e,md_,FX82]
  refine call_nl [ns_ exN] ⟨.inr (.inr ⟨_,_,rfl,rfl,.inl rfl,.inr ⟨rfl,2,rfl⟩,.inr ⟨rfl,2,rfl⟩,trivial⟩),trivial⟩ ?_
  refine call_same (c1) (by simp [go_sem,List.length_map,mdC_e,cuC_e,md_]) ?_
  simp only [go_sem,List.length_map,mdC_e,cuC_e,md_]
  refine call_frz [15] ?_ c2 (by simp [go_sem]) ?_
  · simp only [go_sem,List.length_map,mdC_e,cuC_e,md_,Nat.le_refl]
    try rfl
  simp only [go_sem,List.length_map,mdC_e,cuC_e,md_]
  refine call_nl [md_ default,ns_ exN] ⟨.inr (.inr ⟨_,_,rfl,rfl,.inr ⟨rfl,2,rfl⟩,.inr ⟨rfl,13,rfl⟩,.inr ⟨rfl,3,rfl⟩,.inr ⟨rfl,4,rfl⟩,.inr ⟨rfl,3,rfl⟩,.inr ⟨rfl,3,rfl⟩,.inr ⟨rfl,3,rfl⟩,.inl rfl,.inl rfl,.inr ⟨rfl,5,rfl⟩,.inr ⟨rfl,4,rfl⟩,.inr ⟨rfl,3,rfl⟩,trivial⟩),.inr (.inr ⟨_,_,rfl,rfl,.inl rfl,.inr ⟨rfl,2,rfl⟩,.inr ⟨rfl,2,rfl⟩,trivial⟩),trivial⟩ ?_
  refine call_same (c3) (by simp [go_sem,List.length_map,mdC_e,cuC_e,md_]) ?_
  simp only [go_sem,List.length_map,mdC_e,cuC_e,md_,show ([UInt8.ofNat (UInt8.toNat 0),UInt8.ofNat (UInt8.toNat 2),UInt8.ofNat (UInt8.toNat 1),UInt8.ofNat (UInt8.toNat 109)] == ([0,2,1,109]:List UInt8)) = true from rfl]
  refine call_same (c4) (by simp [go_sem,List.length_map,mdC_e,cuC_e,md_]) ?_
  have hi:∀ r:List AV,aIadr 3 (.sl 3 [r]) (.int .i64 0) = some (.ip r):=fun r=>rfl
  simp only [go_sem,List.length_map,mdC_e,cuC_e,md_,show (((1:Nat):Int) == 1) = true from rfl,nmB,hi,show (([110,97,109,101]:List UInt8) == [110,97,109,101]) = true from rfl,show (([102]:List UInt8) == [102]) = true from rfl]
  exact pdone [] (by simp only [go_sem,List.length_map,mdC_e,cuC_e,md_]) (by first | rfl | simp [go_sem,slv_ids,List.length_map,mdC_e,cuC_e,md_])
end Go.Proofs.YtoikbadfbneahaaGreatDoor
