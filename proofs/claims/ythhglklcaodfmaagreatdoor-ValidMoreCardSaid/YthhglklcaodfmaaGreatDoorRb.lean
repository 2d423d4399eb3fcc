import Derived.Test.YthhglklcaodfmaaGreatDoorQs
set_option linter.all false
set_option maxRecDepth 100000
namespace Go.Proofs.YthhglklcaodfmaaGreatDoor
open Go Go.Mw
open Go.ChangeShapes Go.WideShapes Go.ChangeAt Go.RowKit
theorem Lx (xs:List AV) (h:aH Ty.okV [gL] xs) (hb:aH (Ty.bdV reachBytes) [gL] xs):aj Tryz.prog 7 xs (.bool true):=by
 obtain ⟨x,rfl,h0⟩:=UM h
 obtain ⟨g0,_⟩:=hb
 obtain ⟨m,hm,_,bm⟩:=LO tw rfl h0
 replace bm:=bm _ g0
 exact cW (V6 m (AS (by decide) bm)) ⟨hm,trivial⟩
theorem vW:∀t∈[33],Tryz.prog.readableRec t=true∧t<Tryz.prog.types.size:=by
 intro t ht
 simp only [bc,List.not_mem_nil,or_false] at ht
 rcases ht with rfl
 all_goals exact ⟨by kernel_rfl,of_decide_eq_true (by kernel_rfl)⟩
theorem ml (H:Type) (enc:TypeId×Value→H) (W:World) (base:Nat) (args:Array Value) (ds gs:List (DataW H)) (before:List MemPlace)
  (hval:∀(j:Nat) t v,Tryz.f7.params[j]? = some t→args[j]? = some v→Value.okWide Tryz.prog W .any base t v)
  (hW:DataW.Whole enc Tryz.prog Tryz.f7.params.toList Rows.validMoreSpec.vars false W args.toList ds gs before) (hw:(DataW.weightsEach Tryz.prog (Tryz.f7.params.toList++(OpenSpec.ofChange Rows.validMoreSpec).bare.plain.varTypes Tryz.prog) (ds++gs)).all (·≤reachBytes)=true) (hL:laidMetH Tryz.prog Rows.validMoreRow.laid W) (hS:W.ShapedOpen Tryz.prog) :
  Calls Tryz.prog 7 args W fun e W'=>∃v,e = .returned v∧Rows.validMoreSpec.post enc Tryz.prog Tryz.f7 false true false false W args v W':=by
 refine eW (B:=reachBytes) (s:=Rows.validMoreSpec) (f:=Tryz.f7) (tb:=4) [gL] ?_ nG ?_ rfl ?_ (by kernel_rfl) (by kernel_rfl) (Lx) W base args ds gs before (n_ hL hS) hval hW (k9 hw)
 ·rw [Tryz.params7];exact ⟨⟨AU,by kernel_rfl⟩,trivial⟩
 ·rw [Tryz.params7];exact vW
 ·intro ds h
  match ds,h with
  | [d0],_=>exact ⟨rfl,rfl,rfl⟩
theorem tZ (os:Os):laidMet Tryz.prog Rows.validMoreRow.laid ((cB os).forCall (fun _ _=>0) ⟨#[],#[.agg #[.slice none 0 0,.slice none 0 0,.slice none 0 0,.slice none 0 0,.slice none 0 0,.slice none 0 0,.slice none 0 0,.bool false,.int .i64 0,.slice none 0 0,.slice none 0 0,.slice none 0 0]],[]⟩).memory :=
 laidMet_laidAll _ (by kernel_rfl) (by kernel_rfl)
theorem qN (os:Os) {H:Type} (enc:TypeId×Value→H):∃places,DataW.whole enc Tryz.prog ((cB os).forCall (fun _ _=>0) ⟨#[],#[.agg #[.slice none 0 0,.slice none 0 0,.slice none 0 0,.slice none 0 0,.slice none 0 0,.slice none 0 0,.slice none 0 0,.bool false,.int .i64 0,.slice none 0 0,.slice none 0 0,.slice none 0 0]],[]⟩).memory Tryz.f7.params.toList Rows.validMoreSpec.vars false #[.agg #[.slice none 0 0,.slice none 0 0,.slice none 0 0,.slice none 0 0,.slice none 0 0,.slice none 0 0,.slice none 0 0,.bool false,.int .i64 0,.slice none 0 0,.slice none 0 0,.slice none 0 0]].toList 8=some ([.agg [.nil,.nil,.nil,.nil,.nil,.nil,.nil,.lit (.bool false),.lit (.int .i64 0),.nil,.nil,.nil]],[],places) :=
 ⟨[],by kernel_rfl⟩
theorem oT (os:Os) (started:os.Started) (H:Type) (enc:TypeId×Value→H) (F:Stop.Interp) :
  ReturnsInHanded {} Tryz.checked os 7 .any ((OpenSpec.ofChange Rows.validMoreSpec).preRow enc Tryz.prog Tryz.f7 Rows.validMoreRow.domain false Rows.validMoreRow.laid) (((OpenSpec.ofChange Rows.validMoreSpec).at F).post enc Tryz.prog Tryz.f7 false true false false):=by
 obtain ⟨places,hx⟩:=qN os enc
 refine returnsInHanded_of_row (C:=Tryz.checked) (s:=OpenSpec.ofChange Rows.validMoreSpec) own started (by kernel_rfl) Tryz.func7
  (witness_row_atRef (enc:=enc) (C:=Tryz.checked) false (cB os) #[.agg #[.slice none 0 0,.slice none 0 0,.slice none 0 0,.slice none 0 0,.slice none 0 0,.slice none 0 0,.slice none 0 0,.bool false,.int .i64 0,.slice none 0 0,.slice none 0 0,.slice none 0 0]] (World.laidAll_os _ _ _) (by kernel_rfl) (by kernel_rfl) (by kernel_rfl)
   (OpenSpec.preRow_of_cond 8 hx (by kernel_rfl) (fun k hk=>by cases hk) (by kernel_rfl) (tZ os))) ?_
 intro W base args ds gs before hval hW _ _ hw hL hS _
 exact ml H enc W base args ds gs before hval hW hw hL hS
theorem u_:(Rows.validMoreRow.wf (OpenSpec.ofChange Rows.validMoreSpec))=true:=by kernel_rfl
theorem va:(laidOutB Tryz.prog)=true:=by kernel_rfl
theorem vb:(mapsRowed Tryz.prog)=true:=by kernel_rfl
theorem vc:(Tryz.f7.params.all (Tryz.prog.readableRec ·))=true:=by kernel_rfl
theorem ve:(namedTie Tryz.prog Rows.validMoreRow.named Rows.validMoreSpec.vars)=true:=by kernel_rfl
theorem vf:((Rows.validMoreRow.stops==[]))=true:=by kernel_rfl
theorem vg:((Tryz.prog.stops==[]))=true:=by kernel_rfl
theorem vh:((Rows.validMoreRow.knobs==[]))=true:=by kernel_rfl
theorem vi:((Tryz.prog.stopKnobs==[]))=true:=by kernel_rfl
theorem rI:((Rows.validMoreRow.inPlace==Tryz.prog.inPlace 7))=true:=by kernel_rfl
theorem rJ:((Rows.validMoreRow.unfollowed==Tryz.prog.unfollowed 7))=true:=by kernel_rfl
theorem rK:((Rows.validMoreRow.recurses==Tryz.prog.recurses 7))=true:=by kernel_rfl
theorem rL:((Rows.validMoreRow.named==Tryz.prog.varsNamed 7))=true:=by kernel_rfl
theorem rM:((Rows.validMoreRow.maps==(Tryz.f7.params.toList++Rows.validMoreSpec.plain.varTypes Tryz.prog).any (Tryz.prog.mapsRec ·)))=true:=by kernel_rfl
theorem rN:((Rows.validMoreRow.ifaces==(Tryz.f7.params.toList++Rows.validMoreSpec.plain.varTypes Tryz.prog).any (Tryz.prog.ifacesRec ·)))=true:=by kernel_rfl
theorem rO:((Rows.validMoreRow.mapsOut==Tryz.prog.mapsAmong Tryz.f7.resultTypes.toList))=true:=by kernel_rfl
theorem rP:((Rows.validMoreRow.loops==(Tryz.f7.params.toList++Rows.validMoreSpec.plain.varTypes Tryz.prog).any (Tryz.prog.loopsFrom ·)))=true:=by kernel_rfl
theorem rQ:((Rows.validMoreRow.wideKeys==(Tryz.f7.params.toList++Rows.validMoreSpec.plain.varTypes Tryz.prog++Tryz.f7.resultTypes.toList).any (Tryz.prog.wideKeysFrom ·)))=true:=by kernel_rfl
theorem rR:(Rows.validMoreSpec.vars.all (Tryz.prog.varReadable ·))=true:=by kernel_rfl
theorem rS:(Tryz.f7.resultTypes.all (fun t=>Tryz.prog.readableRec t&&decide (t<Tryz.prog.types.size)))=true:=by kernel_rfl
theorem rT:((Rows.validMoreRow.ifacesOut==Tryz.f7.resultTypes.toList.any (Tryz.prog.ifacesRec ·)))=true:=by kernel_rfl
theorem rU:((Rows.validMoreRow.loopsOut==Tryz.f7.resultTypes.toList.any (Tryz.prog.loopsFrom ·)))=true:=by kernel_rfl
theorem rV:((Rows.validMoreRow.plainKeys==Tryz.prog.plainKeys))=true:=by kernel_rfl
theorem rW:(Rows.validMoreRow.shortTexts.isNone)=true:=by kernel_rfl
theorem rX:(Tryz.prog.stopsHeard)=true:=by kernel_rfl
theorem rY:(Tryz.prog.mayEnter)=true:=by kernel_rfl
theorem rZ:((Rows.validMoreRow.lifted==Tryz.prog.liftsFinal))=true:=by kernel_rfl
theorem r_:((Tryz.prog.make==some Rows.validMoreRow.make))=true:=by kernel_rfl
theorem sa:((Rows.validMoreRow.kinds==(if Rows.validMoreRow.domain.isEmpty then [] else Tryz.f7.params.toList.map fun t=>match Tryz.prog.underlying t with | some (.int k)=>some k | _=>none)))=true:=by kernel_rfl
theorem sb:((Rows.validMoreRow.pinned==Rows.validMoreRow.pinnedBy))=true:=by kernel_rfl
theorem sc:((Rows.validMoreRow.veiled==(Tryz.f7.params.toList++Rows.validMoreSpec.plain.varTypes Tryz.prog++Tryz.f7.resultTypes.toList).any (Tryz.prog.veiledRec ·)))=true:=by kernel_rfl
theorem sd:(Rows.validMoreRow.veiledFits Tryz.prog Tryz.f7.params.toList (Tryz.f7.params.toList++Rows.validMoreSpec.plain.varTypes Tryz.prog++Tryz.f7.resultTypes.toList))=true:=by kernel_rfl
theorem aE {a b:Bool} (h:a=true) (g:b=true):(a&&b)=true:=by rw [h,g];rfl
theorem oI:joinedFacts Tryz.prog 7 Tryz.f7 Rows.validMoreSpec Rows.validMoreRow=true :=
 aE (aE (aE (aE (aE (aE (aE (aE (aE (aE (aE (aE (aE (aE (aE (aE (aE (aE (aE (aE (aE (aE (aE (aE (aE (aE (aE (aE (aE (aE (aE u_ va) vb) vc) ve) vf) vg) vh) vi) rI) rJ) rK) rL) rM) rN) rO) rP) rQ) rR) rS) rT) rU) rV) rW) rX) rY) rZ) r_) sa) sb) sc) sd
theorem uI:Rows.ValidMoreSaid :=
 OpenClaim.holds_of_cond 7 Tryz.f7 rfl rfl rfl rfl rfl rfl rfl ⟨rfl,rfl,rfl,rfl,rfl⟩ rfl rfl rfl rfl rfl (by kernel_rfl) Tryz.func7 oI
  (of_decide_eq_true (by kernel_rfl)) (by unfold Func.isWrapper;first | (rw [av (by decide +kernel)];kernel_rfl) | (rw [ar (by decide +kernel)];exact ⟨rfl,rfl⟩))
  (fun os started H enc _ F=>by rw [OpenClaim.pre_eq_preRow];exact oT os started H enc F)
theorem qK (f:FuncId) (fn:Func) (hf:Tryz.pinned.checked.prog.funcNamed Rows.validMoreRow.func=some f) (hfn:Tryz.pinned.checked.prog.funcs[f]? = some fn) :
  false=Tryz.pinned.checked.prog.looks []∧∀(j:Nat) t,fn.params[j]? = some t→Tryz.pinned.checked.prog.wantsStandIn t=false:=by
 obtain rfl:f=7:=Option.some.inj ((show Tryz.prog.funcNamed Rows.validMoreRow.func=some 7 by kernel_rfl).symm.trans hf) |>.symm
 obtain rfl:fn=Tryz.f7:=(Option.some.inj (Tryz.func7.symm.trans hfn)).symm
 refine ⟨by kernel_rfl,fun j t ht=>?_⟩
 rw [Tryz.params7] at ht
 have hm:=Array.mem_of_getElem? ht
 simp only [List.mem_toArray,bc,List.not_mem_nil,or_false] at hm
 rcases hm with rfl
 ·exact (show Tryz.prog.wantsStandIn 33=false by kernel_rfl)
theorem validMore_holds:Rows.ValidMoreCardSaid :=
 Claim7.holds_tied_plain_at .later [] _ _ _ _ uI (fun _ h=>by cases h) (by kernel_rfl) (fun _ h=>by cases h) validMore_row_tie rfl ⟨rfl,rfl⟩ (by kernel_rfl) rfl qK (nz I8 _ rfl)
end Go.Proofs.YthhglklcaodfmaaGreatDoor