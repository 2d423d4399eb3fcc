import Derived.Test.YtjndcljjbpeljaaGreatDoorPQy
set_option linter.all false
set_option maxRecDepth 100000
namespace Go.Proofs.YtjndcljjbpeljaaGreatDoor
open Go Go.Mw
open Go.ChangeShapes Go.WideShapes Go.ChangeAt Go.RowKit
theorem AH (xs:List AV) (h:aU Ty.okV [vN,Gi] xs) (hb:aU (Ty.bdV 1048576) [vN,Gi] xs):ae Tryz.prog 3 xs (.bool true):=by
 obtain ⟨x,y,rfl,h0,h1⟩:=ZT h
 obtain ⟨m,hm,_,bm⟩:=Vp N0 rfl h0
 obtain ⟨n,hn,_,bn⟩:=Vp Ta rfl h1
 exact vX (A7 m n (bm _ hb.1) (bn _ hb.2.1)) ⟨hm,hn,trivial⟩
theorem nv:∀t∈[33,37],Tryz.prog.readableRec t=true∧t<Tryz.prog.types.size:=by
 intro t ht
 simp only [eH,List.not_mem_nil,or_false] at ht
 rcases ht with rfl | rfl
 all_goals exact ⟨by kernel_rfl,of_decide_eq_true (by kernel_rfl)⟩
theorem jZ (H:Type) (enc:TypeId×Value→H) (W:World) (base:Nat) (args:Array Value) (ds gs:List (DataW H)) (before:List MemPlace)
  (hval:∀(j:Nat) t v,Tryz.f3.params[j]? = some t→args[j]? = some v→Value.okWide Tryz.prog W .any base t v)
  (hW:DataW.Whole enc Tryz.prog Tryz.f3.params.toList Rows.namesecPlainSpec.vars false W args.toList ds gs before) (hL:laidMetH Tryz.prog Rows.namesecPlainUptoRow.laid W) (hk:Rows.uptoSmall H (ds++gs)=true) :
  Calls Tryz.prog 3 args W fun e W'=>∃v,e = .returned v∧Rows.namesecPlainSpec.post enc Tryz.prog Tryz.f3 false true false false W args v W':=by
 refine qJ (Rl H) (B:=1048576) (s:=Rows.namesecPlainSpec) (f:=Tryz.f3) (tb:=4) [vN,Gi] ?_ Jh ?_ rfl ?_ (by kernel_rfl) (by kernel_rfl) (AH) W base args ds gs before (KC hL) hval hW (fun d hd=>Dl hk d (List.mem_append_left _ hd))
 ·rw [Tryz.params3];exact ⟨VP,VQ,trivial⟩
 ·rw [Tryz.params3];exact nv
 ·intro ds h
  match ds,h with
  | [d0,d1],_=>exact ⟨rfl,rfl,rfl⟩
theorem mj (os:Os):laidMet Tryz.prog Rows.namesecPlainUptoRow.laid ((nj os).forCall (fun _ _=>0) ⟨#[],#[.agg #[.slice none 0 0,.slice none 0 0,.slice none 0 0,.slice none 0 0,.slice none 0 0,.slice none 0 0,.slice none 0 0,.bool false,.int .i64 0,.slice none 0 0,.slice none 0 0,.slice none 0 0],.agg #[.string ⟨#[]⟩,.slice none 0 0,.slice none 0 0]],[]⟩).memory :=
 laidMet_of_run' 8 (by kernel_rfl) (by kernel_rfl)
theorem lT (os:Os) {H:Type} (enc:TypeId×Value→H):∃places,DataW.whole enc Tryz.prog ((nj os).forCall (fun _ _=>0) ⟨#[],#[.agg #[.slice none 0 0,.slice none 0 0,.slice none 0 0,.slice none 0 0,.slice none 0 0,.slice none 0 0,.slice none 0 0,.bool false,.int .i64 0,.slice none 0 0,.slice none 0 0,.slice none 0 0],.agg #[.string ⟨#[]⟩,.slice none 0 0,.slice none 0 0]],[]⟩).memory Tryz.f3.params.toList Rows.namesecPlainSpec.vars false #[.agg #[.slice none 0 0,.slice none 0 0,.slice none 0 0,.slice none 0 0,.slice none 0 0,.slice none 0 0,.slice none 0 0,.bool false,.int .i64 0,.slice none 0 0,.slice none 0 0,.slice none 0 0],.agg #[.string ⟨#[]⟩,.slice none 0 0,.slice none 0 0]].toList 8=some ([.agg [.nil,.nil,.nil,.nil,.nil,.nil,.nil,.lit (.bool false),.lit (.int .i64 0),.nil,.nil,.nil],.agg [.lit (.string []),.nil,.nil]],[],places) :=
 ⟨[],by kernel_rfl⟩
theorem k7 (os:Os) (started:os.Started) (H:Type) (enc:TypeId×Value→H) (F:Stop.Interp) :
  ReturnsInHanded {} Tryz.checked os 3 .any ((Rows.OpenSpec.upto Rows.namesecPlainSpec).preRow enc Tryz.prog Tryz.f3 Rows.namesecPlainUptoRow.domain false Rows.namesecPlainUptoRow.laid) (((Rows.OpenSpec.upto Rows.namesecPlainSpec).at F).post enc Tryz.prog Tryz.f3 false true false false):=by
 obtain ⟨places,hx⟩:=lT os enc
 refine returnsInHanded_of_row (C:=Tryz.checked) (s:=Rows.OpenSpec.upto Rows.namesecPlainSpec) own started (by kernel_rfl) Tryz.func3
  (witness_row_at (enc:=enc) (C:=Tryz.checked) false (nj os) #[.agg #[.slice none 0 0,.slice none 0 0,.slice none 0 0,.slice none 0 0,.slice none 0 0,.slice none 0 0,.slice none 0 0,.bool false,.int .i64 0,.slice none 0 0,.slice none 0 0,.slice none 0 0],.agg #[.string ⟨#[]⟩,.slice none 0 0,.slice none 0 0]] rfl (by kernel_rfl) (by kernel_rfl) (by kernel_rfl)
   (OpenSpec.preRow_of_cond 8 hx (by kernel_rfl) (fun k hk=>by cases hk;kernel_rfl) (by kernel_rfl) (mj os))) ?_
 intro W base args ds gs before hval hW _ hcond _ hL _ _
 exact jZ H enc W base args ds gs before hval hW hL (hcond _ rfl)
theorem mQ:Rows.NamesecPlainUptoSaid :=
 OpenClaim.holds_of_cond 3 Tryz.f3 rfl rfl rfl rfl rfl rfl rfl ⟨rfl,rfl,rfl,rfl,rfl⟩ rfl rfl rfl rfl rfl (by kernel_rfl) Tryz.func3 (by kernel_rfl)
  (of_decide_eq_true (by kernel_rfl)) (by unfold Func.isWrapper;first | (rw [aK (by decide +kernel)];kernel_rfl) | (rw [aD (by decide +kernel)];exact ⟨rfl,rfl⟩))
  (fun os started H enc _ F=>by rw [OpenClaim.pre_eq_preRow];exact k7 os started H enc F)
theorem lQ (f:FuncId) (fn:Func) (hf:Tryz.pinned.checked.prog.funcNamed Rows.namesecPlainUptoRow.func=some f) (hfn:Tryz.pinned.checked.prog.funcs[f]? = some fn) :
  false=Tryz.pinned.checked.prog.looks []∧∀(j:Nat) t,fn.params[j]? = some t→Tryz.pinned.checked.prog.wantsStandIn t=false:=by
 obtain rfl:f=3:=Option.some.inj ((show Tryz.prog.funcNamed Rows.namesecPlainUptoRow.func=some 3 by kernel_rfl).symm.trans hf) |>.symm
 obtain rfl:fn=Tryz.f3:=(Option.some.inj (Tryz.func3.symm.trans hfn)).symm
 refine ⟨by kernel_rfl,fun j t ht=>?_⟩
 rw [Tryz.params3] at ht
 have hm:=Array.mem_of_getElem? ht
 simp only [List.mem_toArray,eH,List.not_mem_nil,or_false] at hm
 rcases hm with rfl | rfl
 ·exact (show Tryz.prog.wantsStandIn 33=false by kernel_rfl)
 ·exact (show Tryz.prog.wantsStandIn 37=false by kernel_rfl)
theorem namesecPlainUpto_holds:Rows.NamesecPlainUptoCardSaid :=
 Claim7.holds_tied_plain_at .later [] _ _ _ _ mQ (fun _ h=>by cases h) (by kernel_rfl) (fun _ h=>by cases h) namesecPlainUpto_row_tie rfl ⟨rfl,rfl⟩ (by kernel_rfl) rfl lQ (by kernel_rfl)
end Go.Proofs.YtjndcljjbpeljaaGreatDoor