/-
  Modules in plain Lean.
-/
import Derived.Test.YtoikbadfbneahaaGreatDoorQf
import Derived.Test.YtoikbadfbneahaaGreatDoorQe
set_option linter.unusedVariables false
set_option linter.unusedSimpArgs false
set_option linter.unusedSectionVars false
set_option linter.unusedSimpArgs false
set_option maxRecDepth 100000
set_option linter.unusedVariables false
namespace Go.Proofs.YtoikbadfbneahaaGreatDoor
open Go Go.Mw

structure Ft where
  ps:List Int
  rs:List Int
structure Lm where
  mn:Int
  mx:Int
  hs:Bool
structure Gl where
  v:Int
  mu:Bool
structure Im where
  m:List UInt8
  n:List UInt8
  k:Int
  f:Int
  te:Int
  tl:Lm
  me:Lm
  g:Gl
structure Cd where
  t:Int
  lo:List Int
  b:List Ins
structure Tb where
  e:Int
  l:Lm
structure Gd where
  g:Gl
  i:List Ins
structure Ex where
  n:List UInt8
  k:Int
  i:Int
structure El where
  mo:Int
  tb:Int
  o:List Ins
  ty:Int
  it:List (List Ins)
structure Da where
  mo:Int
  me:Int
  o:List Ins
  b:List UInt8
structure Cu where
  af:Int
  n:List UInt8
  b:List UInt8
structure Md where
  ts:List Ft
  ims:List Im
  fs:List Cd
  tbs:List Tb
  ms:List Lm
  gs:List Gd
  exs:List Ex
  hs:Bool
  st:Int
  els:List El
  ds:List Da
  cs:List Cu
instance:Inhabited Ft:=⟨⟨[],[]⟩⟩
instance:Inhabited Lm:=⟨⟨0,0,false⟩⟩
instance:Inhabited Gl:=⟨⟨0,false⟩⟩
instance:Inhabited Im:=⟨⟨[],[],0,0,0,default,default,default⟩⟩
instance:Inhabited Cd:=⟨⟨0,[],[]⟩⟩
instance:Inhabited Tb:=⟨⟨0,default⟩⟩
instance:Inhabited Gd:=⟨⟨default,[]⟩⟩
instance:Inhabited Ex:=⟨⟨[],0,0⟩⟩
instance:Inhabited El:=⟨⟨0,0,[],0,[]⟩⟩
instance:Inhabited Da:=⟨⟨0,0,[],[]⟩⟩
instance:Inhabited Cu:=⟨⟨0,[],[]⟩⟩
instance:Inhabited Md:=⟨⟨[],[],[],[],[],[],[],false,0,[],[],[]⟩⟩
def ftC (x:Ft):List AV:=[.sl 1 (x.ps.map vl_),.sl 1 (x.rs.map vl_)]
def lmC (x:Lm):List AV:=[.int .i64 x.mn,.int .i64 x.mx,.bool x.hs]
def imC (x:Im):List AV:=[.str x.m,.str x.n,.int .i64 x.k,.int .i64 x.f,.int .i64 x.te,.int .i64 x.tl.mn,.int .i64 x.tl.mx,.bool x.tl.hs,.int .i64 x.me.mn,.int .i64 x.me.mx,.bool x.me.hs,.int .i64 x.g.v,.bool x.g.mu]
def cdC (x:Cd):List AV:=[.int .i64 x.t,.sl 1 (x.lo.map vl_),.sl 9 (x.b.map insC)]
def tbC (x:Tb):List AV:=[.int .i64 x.e,.int .i64 x.l.mn,.int .i64 x.l.mx,.bool x.l.hs]
def gdC (x:Gd):List AV:=[.int .i64 x.g.v,.bool x.g.mu,.sl 9 (x.i.map insC)]
def exC (x:Ex):List AV:=[.str x.n,.int .i64 x.k,.int .i64 x.i]
def inL_ (l:List Ins):List AV:=[.sl 9 (l.map insC)]
def elC (x:El):List AV:=[.int .i64 x.mo,.int .i64 x.tb,.sl 9 (x.o.map insC),.int .i64 x.ty,.sl 1 (x.it.map inL_)]
def daC (x:Da):List AV:=[.int .i64 x.mo,.int .i64 x.me,.sl 9 (x.o.map insC),.sl 1 (x.b.map by_)]
def cuC (x:Cu):List AV:=[.int .i64 x.af,.str x.n,.sl 1 (x.b.map by_)]
def mdC (x:Md):List AV:=[.sl 2 (x.ts.map ftC),.sl 13 (x.ims.map imC),.sl 3 (x.fs.map cdC),.sl 4 (x.tbs.map tbC),.sl 3 (x.ms.map lmC),.sl 3 (x.gs.map gdC),.sl 3 (x.exs.map exC),.bool x.hs,.int .i64 x.st,.sl 5 (x.els.map elC),.sl 4 (x.ds.map daC),.sl 3 (x.cs.map cuC)]
theorem ftC_e (x:Ft):ftC x = [.sl 1 (x.ps.map vl_),.sl 1 (x.rs.map vl_)]:=rfl
theorem lmC_e (x:Lm):lmC x = [.int .i64 x.mn,.int .i64 x.mx,.bool x.hs]:=rfl
theorem imC_e (x:Im):imC x = [.str x.m,.str x.n,.int .i64 x.k,.int .i64 x.f,.int .i64 x.te,.int .i64 x.tl.mn,.int .i64 x.tl.mx,.bool x.tl.hs,.int .i64 x.me.mn,.int .i64 x.me.mx,.bool x.me.hs,.int .i64 x.g.v,.bool x.g.mu]:=rfl
theorem cdC_e (x:Cd):cdC x = [.int .i64 x.t,.sl 1 (x.lo.map vl_),.sl 9 (x.b.map insC)]:=rfl
theorem tbC_e (x:Tb):tbC x = [.int .i64 x.e,.int .i64 x.l.mn,.int .i64 x.l.mx,.bool x.l.hs]:=rfl
theorem gdC_e (x:Gd):gdC x = [.int .i64 x.g.v,.bool x.g.mu,.sl 9 (x.i.map insC)]:=rfl
theorem exC_e (x:Ex):exC x = [.str x.n,.int .i64 x.k,.int .i64 x.i]:=rfl
theorem inL_e (l:List Ins):inL_ l = [.sl 9 (l.map insC)]:=rfl
theorem elC_e (x:El):elC x = [.int .i64 x.mo,.int .i64 x.tb,.sl 9 (x.o.map insC),.int .i64 x.ty,.sl 1 (x.it.map inL_)]:=rfl
theorem daC_e (x:Da):daC x = [.int .i64 x.mo,.int .i64 x.me,.sl 9 (x.o.map insC),.sl 1 (x.b.map by_)]:=rfl
theorem cuC_e (x:Cu):cuC x = [.int .i64 x.af,.str x.n,.sl 1 (x.b.map by_)]:=rfl
theorem mdC_e (x:Md):mdC x = [.sl 2 (x.ts.map ftC),.sl 13 (x.ims.map imC),.sl 3 (x.fs.map cdC),.sl 4 (x.tbs.map tbC),.sl 3 (x.ms.map lmC),.sl 3 (x.gs.map gdC),.sl 3 (x.exs.map exC),.bool x.hs,.int .i64 x.st,.sl 5 (x.els.map elC),.sl 4 (x.ds.map daC),.sl 3 (x.cs.map cuC)]:=rfl
def md_ (x:Md):AV:=.agg (mdC x)
end Go.Proofs.YtoikbadfbneahaaGreatDoor
set_option maxRecDepth 100000
set_option maxHeartbeats 40000000
set_option linter.unusedVariables false
set_option linter.unusedSimpArgs false
namespace Go.Proofs.YtoikbadfbneahaaGreatDoor
open Go Go.Mw
-- @U: List.length_map

theorem app_00 (id:Nat) (t:TypeId) (st:Nat) (ys:List (List AV)):appO id t st 0 0 ys (some ⟨t,st,[],false⟩) =
    if ys.length < 137438953472 ∧ (0:Nat) < 137438953472 ∧ (id < 1000 ∨ 2000 ≤ id) then some (.ms id st 0 (0 + ys.length),.reb id ⟨t,st,ys,false⟩) else none:=by
  have h:=appO_map id t st 0 (fun _:Unit=>([]:List AV)) [] ys rfl
  simpa using h
def smI (x:Ins):Prop:=x.ty.length ≤ 1048576 ∧ x.lb.length ≤ 1048576
def smIs (l:List Ins):Prop:=l.length ≤ 1048576 ∧ ∀ x ∈ l,smI x
def smF (x:Ft):Prop:=x.ps.length ≤ 1048576 ∧ x.rs.length ≤ 1048576
def smCd (x:Cd):Prop:=x.lo.length ≤ 1048576 ∧ smIs x.b
def smGd (x:Gd):Prop:=smIs x.i
def smEl (x:El):Prop:=smIs x.o ∧ x.it.length ≤ 1048576 ∧ ∀ l ∈ x.it,smIs l
def smDa (x:Da):Prop:=smIs x.o ∧ x.b.length ≤ 1048576
def smCu (x:Cu):Prop:=x.b.length ≤ 1048576
structure smM (m:Md):Prop where
  ts:m.ts.length ≤ 1048576 ∧ ∀ x ∈ m.ts,smF x
  ims:m.ims.length ≤ 1048576
  fs:m.fs.length ≤ 1048576 ∧ ∀ x ∈ m.fs,smCd x
  tbs:m.tbs.length ≤ 1048576
  ms:m.ms.length ≤ 1048576
  gs:m.gs.length ≤ 1048576 ∧ ∀ x ∈ m.gs,smGd x
  exs:m.exs.length ≤ 1048576
  els:m.els.length ≤ 1048576 ∧ ∀ x ∈ m.els,smEl x
  ds:m.ds.length ≤ 1048576 ∧ ∀ x ∈ m.ds,smDa x
  cs:m.cs.length ≤ 1048576 ∧ ∀ x ∈ m.cs,smCu x
theorem at_in {α:Type} [Inhabited α] {p:α → Prop} {l:List α} (h:∀ x ∈ l,p x) {i:Nat} (hi:i < l.length):p (nth l i):=by
  rw [nth_eq hi]; exact h _ (List.getElem_mem hi)
theorem tk_nth {α:Type} [Inhabited α] {l:List α} {i:Nat} (h:i < l.length):l.take (i + 1) = l.take i ++ [nth l i]:=by rw [List.take_add_one,nth_some h,Option.toList_some]
instance:Inhabited Ins:=⟨⟨0,0,0,0,0,0,0,[],[]⟩⟩

theorem cl_val (rows:List (List AV)) (h:rows.length ≤ 1048576):PCalls Tryz.prog nX4 [.sl 1 rows] (.sl 1 rows):=by
  refine pfun_sound (ic:=FX4.body) mixed cX4 rfl rfl ?_
  have ha:=app_00 5 87 1 rows
  simp only [go_sem,List.length_map,FX4]
  refine snlK_sl _ _ _ _ ⟨?_,fun h0=>?_⟩
  · simp only [go_sem,List.length_map,ha]
    refine ⟨by omega,pdone [5] ?_ rfl⟩
    simp only [go_sem,List.length_map,Nat.le_refl]
    rw [List.take_length]
  · subst h0
    simp only [go_sem,List.length_map]
    exact wpdone (Wk.nls _ 2 1 (by simp only [go_sem,List.length_map])) [] (by first | rfl | simp only [go_sem,List.length_map]) rfl

theorem cl_imp (rows:List (List AV)) (h:rows.length ≤ 1048576):PCalls Tryz.prog nX1 [.sl 13 rows] (.sl 13 rows):=by
  refine pfun_sound (ic:=FX1.body) mixed cX1 rfl rfl ?_
  have ha:=app_00 5 149 13 rows
  simp only [go_sem,List.length_map,FX1]
  refine snlK_sl _ _ _ _ ⟨?_,fun h0=>?_⟩
  · simp only [go_sem,List.length_map,ha]
    refine ⟨by omega,pdone [5] ?_ rfl⟩
    simp only [go_sem,List.length_map,Nat.le_refl]
    rw [List.take_length]
  · subst h0
    simp only [go_sem,List.length_map]
    exact wpdone (Wk.nls _ 2 13 (by simp only [go_sem,List.length_map])) [] (by first | rfl | simp only [go_sem,List.length_map]) rfl

theorem cl_tab (rows:List (List AV)) (h:rows.length ≤ 1048576):PCalls Tryz.prog nX3 [.sl 4 rows] (.sl 4 rows):=by
  refine pfun_sound (ic:=FX3.body) mixed cX3 rfl rfl ?_
  have ha:=app_00 5 145 4 rows
  simp only [go_sem,List.length_map,FX3]
  refine snlK_sl _ _ _ _ ⟨?_,fun h0=>?_⟩
  · simp only [go_sem,List.length_map,ha]
    refine ⟨by omega,pdone [5] ?_ rfl⟩
    simp only [go_sem,List.length_map,Nat.le_refl]
    rw [List.take_length]
  · subst h0
    simp only [go_sem,List.length_map]
    exact wpdone (Wk.nls _ 2 4 (by simp only [go_sem,List.length_map])) [] (by first | rfl | simp only [go_sem,List.length_map]) rfl

theorem cl_lim (rows:List (List AV)) (h:rows.length ≤ 1048576):PCalls Tryz.prog nX0 [.sl 3 rows] (.sl 3 rows):=by
  refine pfun_sound (ic:=FX0.body) mixed cX0 rfl rfl ?_
  have ha:=app_00 5 143 3 rows
  simp only [go_sem,List.length_map,FX0]
  refine snlK_sl _ _ _ _ ⟨?_,fun h0=>?_⟩
  · simp only [go_sem,List.length_map,ha]
    refine ⟨by omega,pdone [5] ?_ rfl⟩
    simp only [go_sem,List.length_map,Nat.le_refl]
    rw [List.take_length]
  · subst h0
    simp only [go_sem,List.length_map]
    exact wpdone (Wk.nls _ 2 3 (by simp only [go_sem,List.length_map])) [] (by first | rfl | simp only [go_sem,List.length_map]) rfl

theorem cl_exp (rows:List (List AV)) (h:rows.length ≤ 1048576):PCalls Tryz.prog nX2 [.sl 3 rows] (.sl 3 rows):=by
  refine pfun_sound (ic:=FX2.body) mixed cX2 rfl rfl ?_
  have ha:=app_00 5 154 3 rows
  simp only [go_sem,List.length_map,FX2]
  refine snlK_sl _ _ _ _ ⟨?_,fun h0=>?_⟩
  · simp only [go_sem,List.length_map,ha]
    refine ⟨by omega,pdone [5] ?_ rfl⟩
    simp only [go_sem,List.length_map,Nat.le_refl]
    rw [List.take_length]
  · subst h0
    simp only [go_sem,List.length_map]
    exact wpdone (Wk.nls _ 2 3 (by simp only [go_sem,List.length_map])) [] (by first | rfl | simp only [go_sem,List.length_map]) rfl

theorem cl_byt (rows:List (List AV)) (h:rows.length ≤ 1048576):PCalls Tryz.prog nX6 [.sl 1 rows] (.sl 1 rows):=by
  refine pfun_sound (ic:=FX6.body) mixed cX6 rfl rfl ?_
  have ha:=app_00 5 5 1 rows
  simp only [go_sem,List.length_map,FX6]
  refine snlK_sl _ _ _ _ ⟨?_,fun h0=>?_⟩
  · simp only [go_sem,List.length_map,ha]
    refine ⟨by omega,pdone [5] ?_ rfl⟩
    simp only [go_sem,List.length_map,Nat.le_refl]
    rw [List.take_length]
  · subst h0
    simp only [go_sem,List.length_map]
    exact wpdone (Wk.nls _ 2 1 (by simp only [go_sem,List.length_map])) [] (by first | rfl | simp only [go_sem,List.length_map]) rfl

theorem cl_int (rows:List (List AV)) (h:rows.length ≤ 1048576):PCalls Tryz.prog nX12 [.sl 1 rows] (.sl 1 rows):=by
  refine pfun_sound (ic:=FX12.body) mixed cX12 rfl rfl ?_
  have ha:=app_00 5 3 1 rows
  simp only [go_sem,List.length_map,FX12]
  refine snlK_sl _ _ _ _ ⟨?_,fun h0=>?_⟩
  · simp only [go_sem,List.length_map,ha]
    refine ⟨by omega,pdone [5] ?_ rfl⟩
    simp only [go_sem,List.length_map,Nat.le_refl]
    rw [List.take_length]
  · subst h0
    simp only [go_sem,List.length_map]
    exact wpdone (Wk.nls _ 2 1 (by simp only [go_sem,List.length_map])) [] (by first | rfl | simp only [go_sem,List.length_map]) rfl

theorem co_1 (x:Ft) (h:smF x):PCalls Tryz.prog nX81 [.agg (ftC x)] (.agg (ftC x)):=by
  refine pfun_sound (ic:=FX81.body) mixed cX81 rfl rfl ?_
  simp only [go_sem,List.length_map,FX81,ftC_e]
  refine dcall_same (cl_val (x.ps.map vl_) (by rw [List.length_map]; exact h.1)) (by simp [go_sem]) rfl ?_
  simp only [go_sem,List.length_map]
  refine call_same (cl_val (x.rs.map vl_) (by rw [List.length_map]; exact h.2)) (by simp [go_sem,List.length_map]) ?_
  simp only [go_sem,List.length_map]
  exact pdone [] (by simp only [go_sem,List.length_map,ftC_e]) (by first | rfl | simp [go_sem,slv_ids,List.length_map])

theorem co_b (x:Ins) (h:smI x):PCalls Tryz.prog nX83 [.agg (insC x)] (.agg (insC x)):=by
  refine pfun_sound (ic:=FX83.body) mixed cX83 rfl rfl ?_
  simp only [go_sem,List.length_map,FX83,insC]
  refine dcall_same (cl_val (x.ty.map vl_) (by rw [List.length_map]; exact h.1)) (by simp [go_sem]) rfl ?_
  simp only [go_sem,List.length_map]
  refine dcall_same (cl_int (x.lb.map vl_) (by rw [List.length_map]; exact h.2)) (by simp [go_sem]) rfl ?_
  simp only [go_sem,List.length_map]
  exact pdone [] (by simp only [go_sem,List.length_map,insC]) (by first | rfl | simp [go_sem,slv_ids,List.length_map])

theorem ea_ins (l:List (Ins)) (hl:l.length ≤ 1048576) (hx:∀ x ∈ l,smI x):PCalls Tryz.prog nX14 [.sl 9 (l.map insC),.fn nX83 []] (.sl 9 (l.map insC)):=by
  refine pfun_sound (ic:=FX14.body) mixed cX14 rfl rfl ?_
  simp only [go_sem,List.length_map,FX14]
  refine loop_rule (fun i:Nat=>⟨[(10,.int .i64 i),(9,.int .i64 l.length),(8,.sl 9 (l.map insC)),(5,.ms 900 9 0 i),(1,.fn nX83 [])],[(900,⟨221,9,(l.take i).map insC,false⟩)]⟩) (fun i=>i ≤ l.length) (fun i=>l.length - i) 0 (Nat.zero_le _) ((Wk.nil _ 5 900 9 221 (by simp only [go_sem,List.length_map]) (.inl (by decide))).trans (Wk.of ?_ ?_)) ?_
  · simp only [go_sem,List.length_map,St.mknil]; try simp [go_sem]
  · simp only [go_sem,List.length_map,St.mknil,List.take_zero]; try simp [go_sem]
  intro i hi
  have hil:(l.take i).length = i:=by simp; omega
  have happ:=fun ys=>appO_map 900 221 9 i insC (l.take i) ys hil
  by_cases h1:(i:Int) < (l.length:Int)
  · have hi':i < l.length:=by omega
    have e8:=wi (n:=(i:Int) + 1) (by omega) (by omega)
    have cc:=co_b (nth l i) (at_in hx hi')
    try simp only [insC] at cc
    simp only [go_sem,List.length_map,decide_eq_true h1,insC]
    refine ⟨by omega,h1,by kernel_rfl,?_⟩
    refine call_same (cc) (by simp [go_sem,List.length_map]) ?_
    simp only [go_sem,List.length_map,happ]
    refine ⟨by omega,klp_n (i + 1) (show i + 1 ≤ l.length by omega) (show l.length - (i + 1) < l.length - i by omega) (Wk.of ?_ ?_)⟩
    · simp only [go_sem,List.length_map,e8]; try simp
    · simp only [go_sem,List.length_map,tk_nth hi',List.map_append]; try simp [insC]
  · obtain rfl:i = l.length:=by omega
    simp only [go_sem,List.length_map,decide_eq_false h1]
    refine pdone [900] ?_ rfl
    simp only [go_sem,List.length_map,List.take_length,Nat.le_refl]
    rw [List.take_of_length_le (by simp)]

theorem s_body7 (l:List Ins) (h:smIs l):PCalls Tryz.prog nX130 [.sl 9 (l.map insC)] (.sl 9 (l.map insC)):=by
  refine pfun_sound (ic:=FX130.body) mixed cX130 rfl rfl ?_
  simp only [go_sem,List.length_map,FX130]
  refine call_same (ea_ins l h.1 h.2) (by simp [go_sem,List.length_map]) ?_
  simp only [go_sem,List.length_map]
  exact pdone [] (by simp only [go_sem,List.length_map]) (by first | rfl | simp [go_sem,slv_ids,List.length_map])

theorem ea_lins (l:List (List Ins)) (hl:l.length ≤ 1048576) (hx:∀ x ∈ l,smIs x):PCalls Tryz.prog nX9 [.sl 1 (l.map inL_),.fn nX130 []] (.sl 1 (l.map inL_)):=by
  refine pfun_sound (ic:=FX9.body) mixed cX9 rfl rfl ?_
  simp only [go_sem,List.length_map,FX9]
  refine loop_rule (fun i:Nat=>⟨[(10,.int .i64 i),(9,.int .i64 l.length),(8,.sl 1 (l.map inL_)),(5,.ms 900 1 0 i),(1,.fn nX130 [])],[(900,⟨86,1,(l.take i).map inL_,false⟩)]⟩) (fun i=>i ≤ l.length) (fun i=>l.length - i) 0 (Nat.zero_le _) ((Wk.nil _ 5 900 1 86 (by simp only [go_sem,List.length_map]) (.inl (by decide))).trans (Wk.of ?_ ?_)) ?_
  · simp only [go_sem,List.length_map,St.mknil]; try simp [go_sem]
  · simp only [go_sem,List.length_map,St.mknil,List.take_zero]; try simp [go_sem]
  intro i hi
  have hil:(l.take i).length = i:=by simp; omega
  have happ:=fun ys=>appO_map 900 86 1 i inL_ (l.take i) ys hil
  by_cases h1:(i:Int) < (l.length:Int)
  · have hi':i < l.length:=by omega
    have e8:=wi (n:=(i:Int) + 1) (by omega) (by omega)
    have cc:=s_body7 (nth l i) (at_in hx hi')
    try simp only [inL_e] at cc
    simp only [go_sem,List.length_map,decide_eq_true h1,inL_e]
    refine ⟨by omega,h1,by kernel_rfl,?_⟩
    refine call_same (cc) (by simp [go_sem,List.length_map]) ?_
    simp only [go_sem,List.length_map,happ]
    refine ⟨by omega,klp_n (i + 1) (show i + 1 ≤ l.length by omega) (show l.length - (i + 1) < l.length - i by omega) (Wk.of ?_ ?_)⟩
    · simp only [go_sem,List.length_map,e8]; try simp
    · simp only [go_sem,List.length_map,tk_nth hi',List.map_append]; try simp [inL_e]
  · obtain rfl:i = l.length:=by omega
    simp only [go_sem,List.length_map,decide_eq_false h1]
    refine pdone [900] ?_ rfl
    simp only [go_sem,List.length_map,List.take_length,Nat.le_refl]
    rw [List.take_of_length_le (by simp)]

theorem ea_func (l:List (Ft)) (hl:l.length ≤ 1048576) (hx:∀ x ∈ l,smF x):PCalls Tryz.prog nX27 [.sl 2 (l.map ftC),.fn nX81 []] (.sl 2 (l.map ftC)):=by
  refine pfun_sound (ic:=FX27.body) mixed cX27 rfl rfl ?_
  simp only [go_sem,List.length_map,FX27]
  refine loop_rule (fun i:Nat=>⟨[(10,.int .i64 i),(9,.int .i64 l.length),(8,.sl 2 (l.map ftC)),(5,.ms 900 2 0 i),(1,.fn nX81 [])],[(900,⟨137,2,(l.take i).map ftC,false⟩)]⟩) (fun i=>i ≤ l.length) (fun i=>l.length - i) 0 (Nat.zero_le _) ((Wk.nil _ 5 900 2 137 (by simp only [go_sem,List.length_map]) (.inl (by decide))).trans (Wk.of ?_ ?_)) ?_
  · simp only [go_sem,List.length_map,St.mknil]; try simp [go_sem]
  · simp only [go_sem,List.length_map,St.mknil,List.take_zero]; try simp [go_sem]
  intro i hi
  have hil:(l.take i).length = i:=by simp; omega
  have happ:=fun ys=>appO_map 900 137 2 i ftC (l.take i) ys hil
  by_cases h1:(i:Int) < (l.length:Int)
  · have hi':i < l.length:=by omega
    have e8:=wi (n:=(i:Int) + 1) (by omega) (by omega)
    have cc:=co_1 (nth l i) (at_in hx hi')
    try simp only [ftC_e] at cc
    simp only [go_sem,List.length_map,decide_eq_true h1,ftC_e]
    refine ⟨by omega,h1,by kernel_rfl,?_⟩
    refine call_same (cc) (by simp [go_sem,List.length_map]) ?_
    simp only [go_sem,List.length_map,happ]
    refine ⟨by omega,klp_n (i + 1) (show i + 1 ≤ l.length by omega) (show l.length - (i + 1) < l.length - i by omega) (Wk.of ?_ ?_)⟩
    · simp only [go_sem,List.length_map,e8]; try simp
    · simp only [go_sem,List.length_map,tk_nth hi',List.map_append]; try simp [ftC_e]
  · obtain rfl:i = l.length:=by omega
    simp only [go_sem,List.length_map,decide_eq_false h1]
    refine pdone [900] ?_ rfl
    simp only [go_sem,List.length_map,List.take_length,Nat.le_refl]
    rw [List.take_of_length_le (by simp)]

theorem co_2 (x:Cd) (h:smCd x):PCalls Tryz.prog nX77 [.agg (cdC x)] (.agg (cdC x)):=by
  refine pfun_sound (ic:=FX77.body) mixed cX77 rfl rfl ?_
  simp only [go_sem,List.length_map,FX77,cdC_e]
  refine dcall_same (cl_val (x.lo.map vl_) (by rw [List.length_map]; exact h.1)) (by simp [go_sem]) rfl ?_
  simp only [go_sem,List.length_map]
  refine dcall_same (s_body7 x.b h.2) (by simp [go_sem]) rfl ?_
  simp only [go_sem,List.length_map]
  exact pdone [] (by simp only [go_sem,List.length_map,cdC_e]) (by first | rfl | simp [go_sem,slv_ids,List.length_map])

theorem ea_code (l:List (Cd)) (hl:l.length ≤ 1048576) (hx:∀ x ∈ l,smCd x):PCalls Tryz.prog nX30 [.sl 3 (l.map cdC),.fn nX77 []] (.sl 3 (l.map cdC)):=by
  refine pfun_sound (ic:=FX30.body) mixed cX30 rfl rfl ?_
  simp only [go_sem,List.length_map,FX30]
  refine loop_rule (fun i:Nat=>⟨[(10,.int .i64 i),(9,.int .i64 l.length),(8,.sl 3 (l.map cdC)),(5,.ms 900 3 0 i),(1,.fn nX77 [])],[(900,⟨157,3,(l.take i).map cdC,false⟩)]⟩) (fun i=>i ≤ l.length) (fun i=>l.length - i) 0 (Nat.zero_le _) ((Wk.nil _ 5 900 3 157 (by simp only [go_sem,List.length_map]) (.inl (by decide))).trans (Wk.of ?_ ?_)) ?_
  · simp only [go_sem,List.length_map,St.mknil]; try simp [go_sem]
  · simp only [go_sem,List.length_map,St.mknil,List.take_zero]; try simp [go_sem]
  intro i hi
  have hil:(l.take i).length = i:=by simp; omega
  have happ:=fun ys=>appO_map 900 157 3 i cdC (l.take i) ys hil
  by_cases h1:(i:Int) < (l.length:Int)
  · have hi':i < l.length:=by omega
    have e8:=wi (n:=(i:Int) + 1) (by omega) (by omega)
    have cc:=co_2 (nth l i) (at_in hx hi')
    try simp only [cdC_e] at cc
    simp only [go_sem,List.length_map,decide_eq_true h1,cdC_e]
    refine ⟨by omega,h1,by kernel_rfl,?_⟩
    refine call_same (cc) (by simp [go_sem,List.length_map]) ?_
    simp only [go_sem,List.length_map,happ]
    refine ⟨by omega,klp_n (i + 1) (show i + 1 ≤ l.length by omega) (show l.length - (i + 1) < l.length - i by omega) (Wk.of ?_ ?_)⟩
    · simp only [go_sem,List.length_map,e8]; try simp
    · simp only [go_sem,List.length_map,tk_nth hi',List.map_append]; try simp [cdC_e]
  · obtain rfl:i = l.length:=by omega
    simp only [go_sem,List.length_map,decide_eq_false h1]
    refine pdone [900] ?_ rfl
    simp only [go_sem,List.length_map,List.take_length,Nat.le_refl]
    rw [List.take_of_length_le (by simp)]

theorem co_3 (x:Gd) (h:smGd x):PCalls Tryz.prog nX88 [.agg (gdC x)] (.agg (gdC x)):=by
  refine pfun_sound (ic:=FX88.body) mixed cX88 rfl rfl ?_
  simp only [go_sem,List.length_map,FX88,gdC_e]
  refine dcall_same (s_body7 x.i h) (by simp [go_sem]) rfl ?_
  simp only [go_sem,List.length_map]
  exact pdone [] (by simp only [go_sem,List.length_map,gdC_e]) (by first | rfl | simp [go_sem,slv_ids,List.length_map])

theorem ea_glob (l:List (Gd)) (hl:l.length ≤ 1048576) (hx:∀ x ∈ l,smGd x):PCalls Tryz.prog nX5 [.sl 3 (l.map gdC),.fn nX88 []] (.sl 3 (l.map gdC)):=by
  refine pfun_sound (ic:=FX5.body) mixed cX5 rfl rfl ?_
  simp only [go_sem,List.length_map,FX5]
  refine loop_rule (fun i:Nat=>⟨[(10,.int .i64 i),(9,.int .i64 l.length),(8,.sl 3 (l.map gdC)),(5,.ms 900 3 0 i),(1,.fn nX88 [])],[(900,⟨162,3,(l.take i).map gdC,false⟩)]⟩) (fun i=>i ≤ l.length) (fun i=>l.length - i) 0 (Nat.zero_le _) ((Wk.nil _ 5 900 3 162 (by simp only [go_sem,List.length_map]) (.inl (by decide))).trans (Wk.of ?_ ?_)) ?_
  · simp only [go_sem,List.length_map,St.mknil]; try simp [go_sem]
  · simp only [go_sem,List.length_map,St.mknil,List.take_zero]; try simp [go_sem]
  intro i hi
  have hil:(l.take i).length = i:=by simp; omega
  have happ:=fun ys=>appO_map 900 162 3 i gdC (l.take i) ys hil
  by_cases h1:(i:Int) < (l.length:Int)
  · have hi':i < l.length:=by omega
    have e8:=wi (n:=(i:Int) + 1) (by omega) (by omega)
    have cc:=co_3 (nth l i) (at_in hx hi')
    try simp only [gdC_e] at cc
    simp only [go_sem,List.length_map,decide_eq_true h1,gdC_e]
    refine ⟨by omega,h1,by kernel_rfl,?_⟩
    refine call_same (cc) (by simp [go_sem,List.length_map]) ?_
    simp only [go_sem,List.length_map,happ]
    refine ⟨by omega,klp_n (i + 1) (show i + 1 ≤ l.length by omega) (show l.length - (i + 1) < l.length - i by omega) (Wk.of ?_ ?_)⟩
    · simp only [go_sem,List.length_map,e8]; try simp
    · simp only [go_sem,List.length_map,tk_nth hi',List.map_append]; try simp [gdC_e]
  · obtain rfl:i = l.length:=by omega
    simp only [go_sem,List.length_map,decide_eq_false h1]
    refine pdone [900] ?_ rfl
    simp only [go_sem,List.length_map,List.take_length,Nat.le_refl]
    rw [List.take_of_length_le (by simp)]

theorem co_4 (x:El) (h:smEl x):PCalls Tryz.prog nX87 [.agg (elC x)] (.agg (elC x)):=by
  refine pfun_sound (ic:=FX87.body) mixed cX87 rfl rfl ?_
  simp only [go_sem,List.length_map,FX87,elC_e]
  refine dcall_same (s_body7 x.o h.1) (by simp [go_sem]) rfl ?_
  simp only [go_sem,List.length_map]
  refine dcall_same (ea_lins x.it h.2.1 h.2.2) (by simp [go_sem]) rfl ?_
  simp only [go_sem,List.length_map]
  exact pdone [] (by simp only [go_sem,List.length_map,elC_e]) (by first | rfl | simp [go_sem,slv_ids,List.length_map])

theorem ea_elem (l:List (El)) (hl:l.length ≤ 1048576) (hx:∀ x ∈ l,smEl x):PCalls Tryz.prog nX31 [.sl 5 (l.map elC),.fn nX87 []] (.sl 5 (l.map elC)):=by
  refine pfun_sound (ic:=FX31.body) mixed cX31 rfl rfl ?_
  simp only [go_sem,List.length_map,FX31]
  refine loop_rule (fun i:Nat=>⟨[(10,.int .i64 i),(9,.int .i64 l.length),(8,.sl 5 (l.map elC)),(5,.ms 900 5 0 i),(1,.fn nX87 [])],[(900,⟨90,5,(l.take i).map elC,false⟩)]⟩) (fun i=>i ≤ l.length) (fun i=>l.length - i) 0 (Nat.zero_le _) ((Wk.nil _ 5 900 5 90 (by simp only [go_sem,List.length_map]) (.inl (by decide))).trans (Wk.of ?_ ?_)) ?_
  · simp only [go_sem,List.length_map,St.mknil]; try simp [go_sem]
  · simp only [go_sem,List.length_map,St.mknil,List.take_zero]; try simp [go_sem]
  intro i hi
  have hil:(l.take i).length = i:=by simp; omega
  have happ:=fun ys=>appO_map 900 90 5 i elC (l.take i) ys hil
  by_cases h1:(i:Int) < (l.length:Int)
  · have hi':i < l.length:=by omega
    have e8:=wi (n:=(i:Int) + 1) (by omega) (by omega)
    have cc:=co_4 (nth l i) (at_in hx hi')
    try simp only [elC_e] at cc
    simp only [go_sem,List.length_map,decide_eq_true h1,elC_e]
    refine ⟨by omega,h1,by kernel_rfl,?_⟩
    refine call_same (cc) (by simp [go_sem,List.length_map]) ?_
    simp only [go_sem,List.length_map,happ]
    refine ⟨by omega,klp_n (i + 1) (show i + 1 ≤ l.length by omega) (show l.length - (i + 1) < l.length - i by omega) (Wk.of ?_ ?_)⟩
    · simp only [go_sem,List.length_map,e8]; try simp
    · simp only [go_sem,List.length_map,tk_nth hi',List.map_append]; try simp [elC_e]
  · obtain rfl:i = l.length:=by omega
    simp only [go_sem,List.length_map,decide_eq_false h1]
    refine pdone [900] ?_ rfl
    simp only [go_sem,List.length_map,List.take_length,Nat.le_refl]
    rw [List.take_of_length_le (by simp)]

theorem co_5 (x:Da) (h:smDa x):PCalls Tryz.prog nX91 [.agg (daC x)] (.agg (daC x)):=by
  refine pfun_sound (ic:=FX91.body) mixed cX91 rfl rfl ?_
  simp only [go_sem,List.length_map,FX91,daC_e]
  refine dcall_same (s_body7 x.o h.1) (by simp [go_sem]) rfl ?_
  simp only [go_sem,List.length_map]
  refine dcall_same (cl_byt (x.b.map by_) (by rw [List.length_map]; exact h.2)) (by simp [go_sem]) rfl ?_
  simp only [go_sem,List.length_map]
  exact pdone [] (by simp only [go_sem,List.length_map,daC_e]) (by first | rfl | simp [go_sem,slv_ids,List.length_map])

theorem ea_data (l:List (Da)) (hl:l.length ≤ 1048576) (hx:∀ x ∈ l,smDa x):PCalls Tryz.prog nX24 [.sl 4 (l.map daC),.fn nX91 []] (.sl 4 (l.map daC)):=by
  refine pfun_sound (ic:=FX24.body) mixed cX24 rfl rfl ?_
  simp only [go_sem,List.length_map,FX24]
  refine loop_rule (fun i:Nat=>⟨[(10,.int .i64 i),(9,.int .i64 l.length),(8,.sl 4 (l.map daC)),(5,.ms 900 4 0 i),(1,.fn nX91 [])],[(900,⟨169,4,(l.take i).map daC,false⟩)]⟩) (fun i=>i ≤ l.length) (fun i=>l.length - i) 0 (Nat.zero_le _) ((Wk.nil _ 5 900 4 169 (by simp only [go_sem,List.length_map]) (.inl (by decide))).trans (Wk.of ?_ ?_)) ?_
  · simp only [go_sem,List.length_map,St.mknil]; try simp [go_sem]
  · simp only [go_sem,List.length_map,St.mknil,List.take_zero]; try simp [go_sem]
  intro i hi
  have hil:(l.take i).length = i:=by simp; omega
  have happ:=fun ys=>appO_map 900 169 4 i daC (l.take i) ys hil
  by_cases h1:(i:Int) < (l.length:Int)
  · have hi':i < l.length:=by omega
    have e8:=wi (n:=(i:Int) + 1) (by omega) (by omega)
    have cc:=co_5 (nth l i) (at_in hx hi')
    try simp only [daC_e] at cc
    simp only [go_sem,List.length_map,decide_eq_true h1,daC_e]
    refine ⟨by omega,h1,by kernel_rfl,?_⟩
    refine call_same (cc) (by simp [go_sem,List.length_map]) ?_
    simp only [go_sem,List.length_map,happ]
    refine ⟨by omega,klp_n (i + 1) (show i + 1 ≤ l.length by omega) (show l.length - (i + 1) < l.length - i by omega) (Wk.of ?_ ?_)⟩
    · simp only [go_sem,List.length_map,e8]; try simp
    · simp only [go_sem,List.length_map,tk_nth hi',List.map_append]; try simp [daC_e]
  · obtain rfl:i = l.length:=by omega
    simp only [go_sem,List.length_map,decide_eq_false h1]
    refine pdone [900] ?_ rfl
    simp only [go_sem,List.length_map,List.take_length,Nat.le_refl]
    rw [List.take_of_length_le (by simp)]

theorem co_6 (x:Cu) (h:smCu x):PCalls Tryz.prog nX92 [.agg (cuC x)] (.agg (cuC x)):=by
  refine pfun_sound (ic:=FX92.body) mixed cX92 rfl rfl ?_
  simp only [go_sem,List.length_map,FX92,cuC_e]
  refine call_same (cl_byt (x.b.map by_) (by rw [List.length_map]; exact h)) (by simp [go_sem,List.length_map]) ?_
  simp only [go_sem,List.length_map]
  exact pdone [] (by simp only [go_sem,List.length_map,cuC_e]) (by first | rfl | simp [go_sem,slv_ids,List.length_map])

theorem ea_cust (l:List (Cu)) (hl:l.length ≤ 1048576) (hx:∀ x ∈ l,smCu x):PCalls Tryz.prog nX10 [.sl 3 (l.map cuC),.fn nX92 []] (.sl 3 (l.map cuC)):=by
  refine pfun_sound (ic:=FX10.body) mixed cX10 rfl rfl ?_
  simp only [go_sem,List.length_map,FX10]
  refine loop_rule (fun i:Nat=>⟨[(10,.int .i64 i),(9,.int .i64 l.length),(8,.sl 3 (l.map cuC)),(5,.ms 900 3 0 i),(1,.fn nX92 [])],[(900,⟨60,3,(l.take i).map cuC,false⟩)]⟩) (fun i=>i ≤ l.length) (fun i=>l.length - i) 0 (Nat.zero_le _) ((Wk.nil _ 5 900 3 60 (by simp only [go_sem,List.length_map]) (.inl (by decide))).trans (Wk.of ?_ ?_)) ?_
  · simp only [go_sem,List.length_map,St.mknil]; try simp [go_sem]
  · simp only [go_sem,List.length_map,St.mknil,List.take_zero]; try simp [go_sem]
  intro i hi
  have hil:(l.take i).length = i:=by simp; omega
  have happ:=fun ys=>appO_map 900 60 3 i cuC (l.take i) ys hil
  by_cases h1:(i:Int) < (l.length:Int)
  · have hi':i < l.length:=by omega
    have e8:=wi (n:=(i:Int) + 1) (by omega) (by omega)
    have cc:=co_6 (nth l i) (at_in hx hi')
    try simp only [cuC_e] at cc
    simp only [go_sem,List.length_map,decide_eq_true h1,cuC_e]
    refine ⟨by omega,h1,by kernel_rfl,?_⟩
    refine call_same (cc) (by simp [go_sem,List.length_map]) ?_
    simp only [go_sem,List.length_map,happ]
    refine ⟨by omega,klp_n (i + 1) (show i + 1 ≤ l.length by omega) (show l.length - (i + 1) < l.length - i by omega) (Wk.of ?_ ?_)⟩
    · simp only [go_sem,List.length_map,e8]; try simp
    · simp only [go_sem,List.length_map,tk_nth hi',List.map_append]; try simp [cuC_e]
  · obtain rfl:i = l.length:=by omega
    simp only [go_sem,List.length_map,decide_eq_false h1]
    refine pdone [900] ?_ rfl
    simp only [go_sem,List.length_map,List.take_length,Nat.le_refl]
    rw [List.take_of_length_le (by simp)]

theorem s_copy7 (m:Md) (h:smM m):PCalls Tryz.prog nX127 [md_ m] (md_ m):=by
  refine pfun_sound (ic:=FX127.body) mixed cX127 rfl rfl ?_
  have c1:=ea_func m.ts h.ts.1 h.ts.2
  have c2:=ea_code m.fs h.fs.1 h.fs.2
  have c3:=ea_glob m.gs h.gs.1 h.gs.2
  have c4:=ea_elem m.els h.els.1 h.els.2
  have c5:=ea_data m.ds h.ds.1 h.ds.2
  have c6:=ea_cust m.cs h.cs.1 h.cs.2
  simp only [go_sem,List.length_map,FX127,md_,mdC_e]
  refine call_same (c1) (by simp [go_sem,List.length_map]) ?_
  simp only [go_sem,List.length_map]
  refine dcall_same (cl_imp (m.ims.map imC) (by rw [List.length_map]; exact h.ims)) (by simp [go_sem]) rfl ?_
  simp only [go_sem,List.length_map]
  refine dcall_same (cl_tab (m.tbs.map tbC) (by rw [List.length_map]; exact h.tbs)) (by simp [go_sem]) rfl ?_
  simp only [go_sem,List.length_map]
  refine dcall_same (cl_lim (m.ms.map lmC) (by rw [List.length_map]; exact h.ms)) (by simp [go_sem]) rfl ?_
  simp only [go_sem,List.length_map]
  refine dcall_same (cl_exp (m.exs.map exC) (by rw [List.length_map]; exact h.exs)) (by simp [go_sem]) rfl ?_
  simp only [go_sem,List.length_map]
  refine call_same (c2) (by simp [go_sem,List.length_map]) ?_
  simp only [go_sem,List.length_map]
  refine call_same (c3) (by simp [go_sem,List.length_map]) ?_
  simp only [go_sem,List.length_map]
  refine call_same (c4) (by simp [go_sem,List.length_map]) ?_
  simp only [go_sem,List.length_map]
  refine call_same (c5) (by simp [go_sem,List.length_map]) ?_
  simp only [go_sem,List.length_map]
  refine call_same (c6) (by simp [go_sem,List.length_map]) ?_
  simp only [go_sem,List.length_map]
  exact pdone [] (by simp only [go_sem,List.length_map,md_,mdC_e]) (by first | rfl | simp [go_sem,slv_ids,List.length_map])
end Go.Proofs.YtoikbadfbneahaaGreatDoor
