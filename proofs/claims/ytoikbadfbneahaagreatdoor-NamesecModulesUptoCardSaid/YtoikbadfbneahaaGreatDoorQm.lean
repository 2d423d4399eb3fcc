/-
  The tables of unicode/utf8,as the rows list them.
-/
import Derived.Test.YtoikbadfbneahaaGreatDoorCards
import Derived.Test.YtoikbadfbneahaaGreatDoorTie
import Derived.Test.YtoikbadfbneahaaGreatDoorQe
import Derived.WalkKit
import Derived.ProofKit
import Derived.OpenShut
import Derived.Deep.DeepHandedRow
import Derived.Lib.LaidU8T
import Derived.Test.YtoikbadfbneahaaGreatDoorQk
import Derived.Test.YtoikbadfbneahaaGreatDoorQc
import Derived.Test.YtoikbadfbneahaaGreatDoorQf
set_option linter.unusedVariables false
set_option linter.unusedSimpArgs false
set_option linter.unusedSectionVars false
set_option maxRecDepth 100000
set_option linter.unusedVariables false
namespace Go.Proofs.YtoikbadfbneahaaGreatDoor
open Go Go.Mw
open Go.ChangeShapes Go.WideShapes Go.ChangeAt Go.RowKit

theorem own:ownKnob Tryz.prog.godebug = none:=by kernel_rfl
theorem laidOut:laidOutB Tryz.prog = true:=by kernel_rfl
def ren:Go.Shelf.Ren:=⟨fun x=>x,fun t=>if t = 119 then 208 else if t = 138 then 210 else if t = 139 then 211 else 5,fun g=>if g = 3 then 0 else 1⟩
theorem u8t:U8Types Tryz.prog ren:=⟨by kernel_rfl,by kernel_rfl,by kernel_rfl,by kernel_rfl⟩
theorem u8x:U8Extra Tryz.prog ren:=⟨by kernel_rfl,by kernel_rfl,by kernel_rfl,by kernel_rfl,by kernel_rfl,by kernel_rfl,by kernel_rfl⟩
theorem accD:(Rows.laid_unicode_utf8_acceptRanges:DataW Unit) = Lib.acceptData:=by kernel_rfl
theorem fstD:Rows.laid_unicode_utf8_first = Lib.firstData:=by kernel_rfl
theorem tabs_of {W:World} (h:laidMetH Tryz.prog Rows.namesecChecksRow.laid W):Lib.Utf8Tabs 0 1 W:=by
  have h1:=Lib.laidMet.reads h (.head _)
  have h2:=Lib.laidMet.reads h (.tail _ (.head _))
  rw [accD] at h1
  rw [fstD] at h2
  exact utf8Tabs_of_readsT u8t u8x h2 h1

def lay (cs:List Value):Obj → Obj
  | .cells _ t frozen=>.cells cs.toArray t frozen
  | o=>o
noncomputable def laidWorld (os:Os):World :=
  { World.holding Tryz.prog os ⟨#[],#[],[]⟩ with heap:=((World.holding Tryz.prog os ⟨#[],#[],[]⟩).heap.modify 0 (lay ((List.range 256).map fun c=>Value.int .u8 (Lib.firstT c)))).modify 1 (lay ((List.range 32).map fun i=>Value.int .u8 (if i % 2 = 0 then Lib.accLo (i / 2) else Lib.accHi (i / 2)))) }
end Go.Proofs.YtoikbadfbneahaaGreatDoor
set_option maxRecDepth 100000
set_option maxHeartbeats 4000000
set_option linter.unusedVariables false
set_option linter.unusedSimpArgs false
namespace Go.Proofs.YtoikbadfbneahaaGreatDoor
open Go Go.Mw
open Go.ChangeShapes Go.WideShapes Go.ChangeAt Go.RowKit

def bL {α:Type} (p:Nat → α → Prop) (B:Nat) (l:List α):Prop:=l.length ≤ B ∧ ∀ a ∈ l,p B a
def El1 {α:Type} (τ:Ty) (f:α → List AV) (p:Nat → α → Prop):Prop:=∀ r,τ.ok r → ∃ a,All2 Nd r (f a) ∧ p maxLen a ∧ ∀ B,τ.bd B r → p B a
theorem rowsN {α:Type} {τ:Ty} {f:α → List AV} {p:Nat → α → Prop} (h:El1 τ f p):∀ {rows:List (List AV)},(∀ r ∈ rows,τ.ok r) → ∃ l:List α,All2 (All2 Nd) rows (l.map f) ∧ (∀ a ∈ l,p maxLen a) ∧ ∀ B,(∀ r ∈ rows,τ.bd B r) → ∀ a ∈ l,p B a
  | [],_=>⟨[],trivial,(fun a h=>by cases h),(fun _ _ a h=>by cases h)⟩
  | r :: rows,hr=>by
    obtain ⟨a,h1,h2,h3⟩:=h r (hr r (by simp))
    obtain ⟨l,g1,g2,g3⟩:=rowsN h (rows:=rows) fun r hr'=>hr r (by simp [hr'])
    refine ⟨a :: l,⟨h1,g1⟩,fun b hb=>?_,fun B hB b hb=>?_⟩
    · rcases List.mem_cons.1 hb with rfl | hb
      · exact h2
      · exact g2 b hb
    · rcases List.mem_cons.1 hb with rfl | hb
      · exact h3 B (hB r (by simp))
      · exact g3 B (fun r hr'=>hB r (by simp [hr'])) b hb
theorem ndRows {st:Nat} {rows rows':List (List AV)} (h:All2 (All2 Nd) rows rows'):Nd (.sl st rows) (.sl st rows'):=by
  refine .sl st _ _ h.length (fun i r r' h1 h2=>?_) (fun i j r r' x y h1 h2 h3 h4=>?_)
  · obtain ⟨a,e1,e2⟩:=h.get h2
    obtain rfl:=Option.some.inj (h1.symm.trans e1)
    exact e2.length
  · obtain ⟨a,e1,e2⟩:=h.get h2
    obtain rfl:=Option.some.inj (h1.symm.trans e1)
    obtain ⟨b,e3,e4⟩:=e2.get h4
    obtain rfl:=Option.some.inj (h3.symm.trans e3)
    exact e4
theorem slN {α:Type} {τ:Ty} {f:α → List AV} {p:Nat → α → Prop} (h:El1 τ f p) {r:List AV} (hr:(Ty.sl τ).ok r):∃ x l,r = [x] ∧ Nd x (.sl τ.n (l.map f)) ∧ bL p maxLen l ∧ ∀ B,(Ty.sl τ).bd B [x] → bL p B l:=by
  rcases hr with rfl | ⟨rows,rfl,h2,h3⟩
  · exact ⟨_,[],rfl,.nl _,⟨Nat.zero_le _,fun a h=>by cases h⟩,fun B _=>⟨Nat.zero_le _,fun a h=>by cases h⟩⟩
  · obtain ⟨l,g1,g2,g3⟩:=rowsN h h3
    have hl:=g1.length
    rw [List.length_map] at hl
    refine ⟨_,l,rfl,ndRows g1,⟨by omega,g2⟩,fun B hB=>?_⟩
    obtain ⟨q1,q2⟩:=hB _ _ rfl
    exact ⟨by omega,g3 B q2⟩
theorem u8_wf7 {n:Int} (h:(Lit.int .u8 n).wf = true):0 ≤ n ∧ n ≤ 255:=by simpa [Lit.wf,IntKind.min,IntKind.max,IntKind.signed,IntKind.bits] using h
theorem u64_wf7 {n:Int} (h:(Lit.int .u64 n).wf = true):0 ≤ n ∧ n < 18446744073709551616:=by
  have:0 ≤ n ∧ n ≤ 18446744073709551615:=by simpa [Lit.wf,IntKind.min,IntKind.max,IntKind.signed,IntKind.bits] using h
  omega
def noB {α:Type} (_:Nat) (_:α):Prop:=True
theorem el_vl:El1 (.int .i64) vl_ noB:=fun r h=>by
  obtain ⟨n,rfl,_⟩:=h
  exact ⟨n,⟨.rfl _,trivial⟩,trivial,fun _ _=>trivial⟩
theorem el_by:El1 (.int .u8) by_ noB:=fun r h=>by
  obtain ⟨n,rfl,hw⟩:=h
  have hn:=u8_wf7 hw
  refine ⟨UInt8.ofNat n.toNat,?_,trivial,fun _ _=>trivial⟩
  rw [by_of (by omega),show ((n.toNat:Nat):Int) = n by omega]
  exact ⟨.rfl _,trivial⟩

-- names
def tyIns:Ty:=.cons (.int .i64) (.cons (.int .i64) (.cons (.int .i64) (.cons (.int .u64) (.cons (.cons (.int .i64) (.cons (.int .i64) (.cons (.int .i64) .nil))) (.cons (.sl (.int .i64)) (.cons (.sl (.int .i64)) .nil))))))
def bIns (B:Nat) (x:Ins):Prop:=(0 ≤ x.n ∧ x.n < 18446744073709551616) ∧ bL noB B x.ty ∧ bL noB B x.lb
theorem el_Ins:El1 tyIns insC bIns:=fun r h=>by
  obtain ⟨_,_,rfl,⟨op,rfl,w_op⟩,_,_,rfl,⟨a,rfl,w_a⟩,_,_,rfl,⟨b,rfl,w_b⟩,_,_,rfl,⟨n,rfl,w_n⟩,_,_,rfl,⟨_,_,rfl,⟨k,rfl,w_k⟩,_,_,rfl,⟨v,rfl,w_v⟩,_,_,rfl,⟨z,rfl,w_z⟩,rfl⟩,_,_,rfl,h_ty,_,_,rfl,h_lb,rfl⟩:=h
  obtain ⟨x_ty,l_ty,rfl,d_ty,m_ty,b_ty⟩:=slN el_vl h_ty
  obtain ⟨x_lb,l_lb,rfl,d_lb,m_lb,b_lb⟩:=slN el_vl h_lb
  exact ⟨⟨op,a,b,n,k,v,z,l_ty,l_lb⟩,⟨.rfl _,.rfl _,.rfl _,.rfl _,.rfl _,.rfl _,.rfl _,d_ty,d_lb,trivial⟩,⟨u64_wf7 w_n,m_ty,m_lb⟩,fun B hB=>⟨u64_wf7 w_n,b_ty B hB.2.2.2.2.2.1,b_lb B hB.2.2.2.2.2.2.1⟩⟩

def tyFun:Ty:=.cons (.sl (.int .i64)) (.cons (.sl (.int .i64)) .nil)
def bFun (B:Nat) (x:Ft):Prop:=bL noB B x.ps ∧ bL noB B x.rs
theorem el_Fun:El1 tyFun ftC bFun:=fun r h=>by
  obtain ⟨_,_,rfl,h_ps,_,_,rfl,h_rs,rfl⟩:=h
  obtain ⟨x_ps,l_ps,rfl,d_ps,m_ps,b_ps⟩:=slN el_vl h_ps
  obtain ⟨x_rs,l_rs,rfl,d_rs,m_rs,b_rs⟩:=slN el_vl h_rs
  exact ⟨⟨l_ps,l_rs⟩,⟨d_ps,d_rs,trivial⟩,⟨m_ps,m_rs⟩,fun B hB=>⟨b_ps B hB.1,b_rs B hB.2.1⟩⟩

def tyLim:Ty:=.cons (.int .i64) (.cons (.int .i64) (.cons .bool .nil))
def bLim (B:Nat) (x:Lm):Prop:=True
theorem el_Lim:El1 tyLim lmC bLim:=fun r h=>by
  obtain ⟨_,_,rfl,⟨mn,rfl,w_mn⟩,_,_,rfl,⟨mx,rfl,w_mx⟩,_,_,rfl,⟨hs,rfl⟩,rfl⟩:=h
  exact ⟨⟨mn,mx,hs⟩,⟨.rfl _,.rfl _,.rfl _,trivial⟩,trivial,fun B hB=>trivial⟩

def tyTab:Ty:=.cons (.int .i64) (.cons (.cons (.int .i64) (.cons (.int .i64) (.cons .bool .nil))) .nil)
def bTab (B:Nat) (x:Tb):Prop:=True
theorem el_Tab:El1 tyTab tbC bTab:=fun r h=>by
  obtain ⟨_,_,rfl,⟨e,rfl,w_e⟩,_,_,rfl,⟨_,_,rfl,⟨mn,rfl,w_mn⟩,_,_,rfl,⟨mx,rfl,w_mx⟩,_,_,rfl,⟨hs,rfl⟩,rfl⟩,rfl⟩:=h
  exact ⟨⟨e,⟨mn,mx,hs⟩⟩,⟨.rfl _,.rfl _,.rfl _,.rfl _,trivial⟩,trivial,fun B hB=>trivial⟩

def tyImp:Ty:=.cons .str (.cons .str (.cons (.int .i64) (.cons (.int .i64) (.cons (.cons (.int .i64) (.cons (.cons (.int .i64) (.cons (.int .i64) (.cons .bool .nil))) .nil)) (.cons (.cons (.int .i64) (.cons (.int .i64) (.cons .bool .nil))) (.cons (.cons (.int .i64) (.cons .bool .nil)) .nil))))))
def bImp (B:Nat) (x:Im):Prop:=x.m.length ≤ B ∧ x.n.length ≤ B
theorem el_Imp:El1 tyImp imC bImp:=fun r h=>by
  obtain ⟨_,_,rfl,⟨m,rfl,w_m⟩,_,_,rfl,⟨n,rfl,w_n⟩,_,_,rfl,⟨k,rfl,w_k⟩,_,_,rfl,⟨f,rfl,w_f⟩,_,_,rfl,⟨_,_,rfl,⟨te,rfl,w_te⟩,_,_,rfl,⟨_,_,rfl,⟨tmn,rfl,w_tmn⟩,_,_,rfl,⟨tmx,rfl,w_tmx⟩,_,_,rfl,⟨ths,rfl⟩,rfl⟩,rfl⟩,_,_,rfl,⟨_,_,rfl,⟨qmn,rfl,w_qmn⟩,_,_,rfl,⟨qmx,rfl,w_qmx⟩,_,_,rfl,⟨qhs,rfl⟩,rfl⟩,_,_,rfl,⟨_,_,rfl,⟨gv,rfl,w_gv⟩,_,_,rfl,⟨gmu,rfl⟩,rfl⟩,rfl⟩:=h
  exact ⟨⟨m,n,k,f,te,⟨tmn,tmx,ths⟩,⟨qmn,qmx,qhs⟩,⟨gv,gmu⟩⟩,⟨.rfl _,.rfl _,.rfl _,.rfl _,.rfl _,.rfl _,.rfl _,.rfl _,.rfl _,.rfl _,.rfl _,.rfl _,.rfl _,trivial⟩,⟨w_m,w_n⟩,fun B hB=>⟨hB.1 _ rfl,hB.2.1 _ rfl⟩⟩

def tyCod:Ty:=.cons (.int .i64) (.cons (.sl (.int .i64)) (.cons (.sl tyIns) .nil))
def bCod (B:Nat) (x:Cd):Prop:=bL noB B x.lo ∧ bL bIns B x.b
theorem el_Cod:El1 tyCod cdC bCod:=fun r h=>by
  obtain ⟨_,_,rfl,⟨t,rfl,w_t⟩,_,_,rfl,h_lo,_,_,rfl,h_b,rfl⟩:=h
  obtain ⟨x_lo,l_lo,rfl,d_lo,m_lo,b_lo⟩:=slN el_vl h_lo
  obtain ⟨x_b,l_b,rfl,d_b,m_b,b_b⟩:=slN el_Ins h_b
  exact ⟨⟨t,l_lo,l_b⟩,⟨.rfl _,d_lo,d_b,trivial⟩,⟨m_lo,m_b⟩,fun B hB=>⟨b_lo B hB.2.1,b_b B hB.2.2.1⟩⟩

def tyGlo:Ty:=.cons (.cons (.int .i64) (.cons .bool .nil)) (.cons (.sl tyIns) .nil)
def bGlo (B:Nat) (x:Gd):Prop:=bL bIns B x.i
theorem el_Glo:El1 tyGlo gdC bGlo:=fun r h=>by
  obtain ⟨_,_,rfl,⟨_,_,rfl,⟨v,rfl,w_v⟩,_,_,rfl,⟨mu,rfl⟩,rfl⟩,_,_,rfl,h_i,rfl⟩:=h
  obtain ⟨x_i,l_i,rfl,d_i,m_i,b_i⟩:=slN el_Ins h_i
  exact ⟨⟨⟨v,mu⟩,l_i⟩,⟨.rfl _,.rfl _,d_i,trivial⟩,m_i,fun B hB=>b_i B hB.2.1⟩

def tyExp:Ty:=.cons .str (.cons (.int .i64) (.cons (.int .i64) .nil))
def bExp (B:Nat) (x:Ex):Prop:=x.n.length ≤ B
theorem el_Exp:El1 tyExp exC bExp:=fun r h=>by
  obtain ⟨_,_,rfl,⟨n,rfl,w_n⟩,_,_,rfl,⟨k,rfl,w_k⟩,_,_,rfl,⟨i,rfl,w_i⟩,rfl⟩:=h
  exact ⟨⟨n,k,i⟩,⟨.rfl _,.rfl _,.rfl _,trivial⟩,w_n,fun B hB=>hB.1 _ rfl⟩

theorem el_InsL:El1 (.sl tyIns) inL_ (bL bIns):=fun r h=>by
  obtain ⟨x,l,rfl,d,m,b⟩:=slN el_Ins h
  exact ⟨l,⟨d,trivial⟩,m,fun B hB=>b B hB⟩

def tyEle:Ty:=.cons (.int .i64) (.cons (.int .i64) (.cons (.sl tyIns) (.cons (.int .i64) (.cons (.sl (.sl tyIns)) .nil))))
def bEle (B:Nat) (x:El):Prop:=bL bIns B x.o ∧ bL (bL bIns) B x.it
theorem el_Ele:El1 tyEle elC bEle:=fun r h=>by
  obtain ⟨_,_,rfl,⟨mo,rfl,w_mo⟩,_,_,rfl,⟨tb,rfl,w_tb⟩,_,_,rfl,h_o,_,_,rfl,⟨ty,rfl,w_ty⟩,_,_,rfl,h_it,rfl⟩:=h
  obtain ⟨x_o,l_o,rfl,d_o,m_o,b_o⟩:=slN el_Ins h_o
  obtain ⟨x_it,l_it,rfl,d_it,m_it,b_it⟩:=slN el_InsL h_it
  exact ⟨⟨mo,tb,l_o,ty,l_it⟩,⟨.rfl _,.rfl _,d_o,.rfl _,d_it,trivial⟩,⟨m_o,m_it⟩,fun B hB=>⟨b_o B hB.2.2.1,b_it B hB.2.2.2.2.1⟩⟩

def tyDat:Ty:=.cons (.int .i64) (.cons (.int .i64) (.cons (.sl tyIns) (.cons (.sl (.int .u8)) .nil)))
def bDat (B:Nat) (x:Da):Prop:=bL bIns B x.o ∧ bL noB B x.b
theorem el_Dat:El1 tyDat daC bDat:=fun r h=>by
  obtain ⟨_,_,rfl,⟨mo,rfl,w_mo⟩,_,_,rfl,⟨me,rfl,w_me⟩,_,_,rfl,h_o,_,_,rfl,h_b,rfl⟩:=h
  obtain ⟨x_o,l_o,rfl,d_o,m_o,b_o⟩:=slN el_Ins h_o
  obtain ⟨x_b,l_b,rfl,d_b,m_b,b_b⟩:=slN el_by h_b
  exact ⟨⟨mo,me,l_o,l_b⟩,⟨.rfl _,.rfl _,d_o,d_b,trivial⟩,⟨m_o,m_b⟩,fun B hB=>⟨b_o B hB.2.2.1,b_b B hB.2.2.2.1⟩⟩

def tyCus:Ty:=.cons (.int .i64) (.cons .str (.cons (.sl (.int .u8)) .nil))
def bCus (B:Nat) (x:Cu):Prop:=x.n.length ≤ B ∧ bL noB B x.b
theorem el_Cus:El1 tyCus cuC bCus:=fun r h=>by
  obtain ⟨_,_,rfl,⟨af,rfl,w_af⟩,_,_,rfl,⟨n,rfl,w_n⟩,_,_,rfl,h_b,rfl⟩:=h
  obtain ⟨x_b,l_b,rfl,d_b,m_b,b_b⟩:=slN el_by h_b
  exact ⟨⟨af,n,l_b⟩,⟨.rfl _,.rfl _,d_b,trivial⟩,⟨w_n,m_b⟩,fun B hB=>⟨hB.2.1 _ rfl,b_b B hB.2.2.1⟩⟩

def tyMod:Ty:=.cons (.sl tyFun) (.cons (.sl tyImp) (.cons (.sl tyCod) (.cons (.sl tyTab) (.cons (.sl tyLim) (.cons (.sl tyGlo) (.cons (.sl tyExp) (.cons .bool (.cons (.int .i64) (.cons (.sl tyEle) (.cons (.sl tyDat) (.cons (.sl tyCus) .nil)))))))))))
def bMod (B:Nat) (x:Md):Prop:=bL bFun B x.ts ∧ bL bImp B x.ims ∧ bL bCod B x.fs ∧ bL bTab B x.tbs ∧ bL bLim B x.ms ∧ bL bGlo B x.gs ∧ bL bExp B x.exs ∧ bL bEle B x.els ∧ bL bDat B x.ds ∧ bL bCus B x.cs
theorem el_Mod:El1 tyMod mdC bMod:=fun r h=>by
  obtain ⟨_,_,rfl,h_ts,_,_,rfl,h_ims,_,_,rfl,h_fs,_,_,rfl,h_tbs,_,_,rfl,h_ms,_,_,rfl,h_gs,_,_,rfl,h_exs,_,_,rfl,⟨hs,rfl⟩,_,_,rfl,⟨st,rfl,w_st⟩,_,_,rfl,h_els,_,_,rfl,h_ds,_,_,rfl,h_cs,rfl⟩:=h
  obtain ⟨x_ts,l_ts,rfl,d_ts,m_ts,b_ts⟩:=slN el_Fun h_ts
  obtain ⟨x_ims,l_ims,rfl,d_ims,m_ims,b_ims⟩:=slN el_Imp h_ims
  obtain ⟨x_fs,l_fs,rfl,d_fs,m_fs,b_fs⟩:=slN el_Cod h_fs
  obtain ⟨x_tbs,l_tbs,rfl,d_tbs,m_tbs,b_tbs⟩:=slN el_Tab h_tbs
  obtain ⟨x_ms,l_ms,rfl,d_ms,m_ms,b_ms⟩:=slN el_Lim h_ms
  obtain ⟨x_gs,l_gs,rfl,d_gs,m_gs,b_gs⟩:=slN el_Glo h_gs
  obtain ⟨x_exs,l_exs,rfl,d_exs,m_exs,b_exs⟩:=slN el_Exp h_exs
  obtain ⟨x_els,l_els,rfl,d_els,m_els,b_els⟩:=slN el_Ele h_els
  obtain ⟨x_ds,l_ds,rfl,d_ds,m_ds,b_ds⟩:=slN el_Dat h_ds
  obtain ⟨x_cs,l_cs,rfl,d_cs,m_cs,b_cs⟩:=slN el_Cus h_cs
  exact ⟨⟨l_ts,l_ims,l_fs,l_tbs,l_ms,l_gs,l_exs,hs,st,l_els,l_ds,l_cs⟩,⟨d_ts,d_ims,d_fs,d_tbs,d_ms,d_gs,d_exs,.rfl _,.rfl _,d_els,d_ds,d_cs,trivial⟩,⟨m_ts,m_ims,m_fs,m_tbs,m_ms,m_gs,m_exs,m_els,m_ds,m_cs⟩,fun B hB=>⟨b_ts B hB.1,b_ims B hB.2.1,b_fs B hB.2.2.1,b_tbs B hB.2.2.2.1,b_ms B hB.2.2.2.2.1,b_gs B hB.2.2.2.2.2.1,b_exs B hB.2.2.2.2.2.2.1,b_els B hB.2.2.2.2.2.2.2.2.2.1,b_ds B hB.2.2.2.2.2.2.2.2.2.2.1,b_cs B hB.2.2.2.2.2.2.2.2.2.2.2.1⟩⟩

theorem recV {α:Type} {τ:Ty} {f:α → List AV} {p:Nat → α → Prop} (h:El1 τ f p) (hr:τ.isRec = true) {x:AV} (hx:τ.okV x):∃ a,nld x (.agg (f a)) ∧ p maxLen a ∧ ∀ B,τ.bdV B x → p B a:=by
  unfold Ty.okV at hx
  rw [hr] at hx
  obtain ⟨xs,rfl,hx⟩:=hx
  obtain ⟨a,h1,h2,h3⟩:=h xs hx
  refine ⟨a,.inr ⟨_,_,rfl,rfl,h1⟩,h2,fun B hB=>h3 B ?_⟩
  unfold Ty.bdV at hB
  rw [hr] at hB
  exact hB _ rfl
theorem ok_2 {τ τ1:Ty} {xs:List AV} (h:All2 Ty.okV [τ,τ1] xs):∃ x y,xs = [x,y] ∧ τ.okV x ∧ τ1.okV y:=by
  match xs,h with
  | [x,y],h=>exact ⟨x,y,rfl,h.1,h.2.1⟩
theorem tyM44:tyOf Tryz.prog 9 44 = some tyMod:=by kernel_rfl
end Go.Proofs.YtoikbadfbneahaaGreatDoor
set_option maxRecDepth 100000
set_option maxHeartbeats 4000000
set_option linter.unusedVariables false
namespace Go.Proofs.YtoikbadfbneahaaGreatDoor
open Go Go.Mw
open Go.ChangeShapes Go.WideShapes Go.ChangeAt Go.RowKit

def tyNm:Ty:=.cons (.int .i64) (.cons .str .nil)
def bNm (B:Nat) (n:Nm):Prop:=n.s.length ≤ B
theorem el_Nm:El1 tyNm nm_ bNm:=fun r h=>by
  obtain ⟨_,_,rfl,⟨i,rfl,w_i⟩,_,_,rfl,⟨s,rfl,w_s⟩,rfl⟩:=h
  exact ⟨⟨i,s⟩,⟨.rfl _,.rfl _,trivial⟩,w_s,fun B hB=>hB.2.1 _ rfl⟩
def tyLc:Ty:=.cons (.int .i64) (.cons (.sl tyNm) .nil)
def bLc (B:Nat) (x:Lc):Prop:=bL bNm B x.l
theorem el_Lc:El1 tyLc lc_ bLc:=fun r h=>by
  obtain ⟨_,_,rfl,⟨i,rfl,w_i⟩,_,_,rfl,h_l,rfl⟩:=h
  obtain ⟨x,l,rfl,d,m,b⟩:=slN el_Nm h_l
  exact ⟨⟨i,l⟩,⟨.rfl _,d,trivial⟩,m,fun B hB=>b B hB.2.1⟩
def tyNs:Ty:=.cons .str (.cons (.sl tyNm) (.cons (.sl tyLc) .nil))
def bNs (B:Nat) (n:Ns):Prop:=n.m.length ≤ B ∧ bL bNm B n.fs ∧ bL bLc B n.ls
theorem el_Ns:El1 tyNs nsC bNs:=fun r h=>by
  obtain ⟨_,_,rfl,⟨s,rfl,w_s⟩,_,_,rfl,h_f,_,_,rfl,h_l,rfl⟩:=h
  obtain ⟨x,l,rfl,d,m,b⟩:=slN el_Nm h_f
  obtain ⟨x2,l2,rfl,d2,m2,b2⟩:=slN el_Lc h_l
  exact ⟨⟨s,l,l2⟩,⟨.rfl _,d,d2,trivial⟩,⟨w_s,m,m2⟩,fun B hB=>⟨hB.1 _ rfl,b B hB.2.1,b2 B hB.2.2.1⟩⟩
theorem tyM25:tyOf Tryz.prog 9 25 = some tyNs:=by kernel_rfl
theorem blk_part {H:Type} {d:DataW H} {l:List (DataW H)} (h:d ∈ l):Rows.uptoBulk d ≤ Rows.uptoBulkAll l:=by
  induction l with
  | nil=>cases h
  | cons x r ih =>
    simp only [Rows.uptoBulkAll]
    cases List.mem_cons.1 h with
    | inl e=>subst e; omega
    | inr e=>have:=ih e; omega
theorem blk_one {H:Type} (d:DataW H):1 ≤ Rows.uptoBulk d:=by
  cases d with
  | lit l=>cases l <;> simp [Rows.uptoBulk]
  | nil=>simp [Rows.uptoBulk]
  | ptr d=>simp [Rows.uptoBulk]
  | slice elems spare=>simp [Rows.uptoBulk]
  | agg parts=>simp [Rows.uptoBulk]
  | iface t d=>simp [Rows.uptoBulk]
  | map entries=>simp [Rows.uptoBulk]
  | held h=>simp [Rows.uptoBulk]
theorem blk_len {H:Type} (l:List (DataW H)):l.length ≤ Rows.uptoBulkAll l:=by
  induction l with
  | nil=>simp [Rows.uptoBulkAll]
  | cons x r ih=>have:=blk_one x; simp only [Rows.uptoBulkAll,List.length_cons]; omega
def bk14 (H:Type):Bk H where
  f:=Rows.uptoBulk
  str l:=by simp [Rows.uptoBulk]
  sl es sp:=by have:=blk_len es; simp only [Rows.uptoBulk]; omega
  sle es sp d hd:=by have:=blk_part hd; simp only [Rows.uptoBulk]; omega
  ag ps d hd:=by have:=blk_part hd; simp only [Rows.uptoBulk]; omega
theorem bk_small {H:Type} {ds:List (DataW H)} (h:Rows.uptoSmall H ds = true):∀ d ∈ ds,(bk14 H).f d ≤ 1048576:=fun d hd=>Nat.le_trans (blk_part hd) (of_decide_eq_true h)
end Go.Proofs.YtoikbadfbneahaaGreatDoor
