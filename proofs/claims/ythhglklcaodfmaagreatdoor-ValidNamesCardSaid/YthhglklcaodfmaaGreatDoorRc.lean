import Derived.Test.YthhglklcaodfmaaGreatDoorQs
set_option linter.all false
set_option maxRecDepth 100000
namespace Go.Proofs.YthhglklcaodfmaaGreatDoor
open Go Go.Mw
open Go.ChangeShapes Go.WideShapes Go.ChangeAt Go.RowKit
theorem FB (xs:List AV) (h:aH Ty.okV [gL] xs) (hb:aH (Ty.bdV reachBytes) [gL] xs):aj Tryz.prog 5 xs (.bool true):=by
 obtain ⟨x,rfl,h0⟩:=UM h
 obtain ⟨g0,_⟩:=hb
 obtain ⟨m,hm,_,bm⟩:=LO tw rfl h0
 replace bm:=bm _ g0
 exact cW (Qz m (AS (by decide) bm)) ⟨hm,trivial⟩
theorem ug:∀t∈[33],Tryz.prog.readableRec t=true∧t<Tryz.prog.types.size:=by
 intro t ht
 simp only [bc,List.not_mem_nil,or_false] at ht
 rcases ht with rfl
 all_goals exact ⟨by kernel_rfl,of_decide_eq_true (by kernel_rfl)⟩
theorem lD (H:Type) (enc:TypeId×Value→H) (W:World) (base:Nat) (args:Array Value) (ds gs:List (DataW H)) (before:List MemPlace)
  (hval:∀(j:Nat) t v,Tryz.f5.params[j]? = some t→args[j]? = some v→Value.okWide Tryz.prog W .any base t v)
  (hW:DataW.Whole enc Tryz.prog Tryz.f5.params.toList Rows.validNamesSpec.vars false W args.toList ds gs before) (hw:(DataW.weightsEach Tryz.prog (Tryz.f5.params.toList++(OpenSpec.ofChange Rows.validNamesSpec).bare.plain.varTypes Tryz.prog) (ds++gs)).all (·≤reachBytes)=true) (hL:laidMetH Tryz.prog Rows.validNamesRow.laid W) (hS:W.ShapedOpen Tryz.prog) :
  Calls Tryz.prog 5 args W fun e W'=>∃v,e = .returned v∧Rows.validNamesSpec.post enc Tryz.prog Tryz.f5 false true false false W args v W':=by
 refine eW (B:=reachBytes) (s:=Rows.validNamesSpec) (f:=Tryz.f5) (tb:=4) [gL] ?_ nG ?_ rfl ?_ (by kernel_rfl) (by kernel_rfl) (FB) W base args ds gs before (n_ hL hS) hval hW (k9 hw)
 ·rw [Tryz.params5];exact ⟨⟨AU,by kernel_rfl⟩,trivial⟩
 ·rw [Tryz.params5];exact ug
 ·intro ds h
  match ds,h with
  | [d0],_=>exact ⟨rfl,rfl,rfl⟩
theorem qD (os:Os):laidMet Tryz.prog Rows.validNamesRow.laid ((cB os).forCall (fun _ _=>0) ⟨#[],#[.agg #[.slice none 0 0,.slice none 0 0,.slice none 0 0,.slice none 0 0,.slice none 0 0,.slice none 0 0,.slice none 0 0,.bool false,.int .i64 0,.slice none 0 0,.slice none 0 0,.slice none 0 0]],[]⟩).memory :=
 laidMet_laidAll _ (by kernel_rfl) (by kernel_rfl)
theorem o_ (os:Os) {H:Type} (enc:TypeId×Value→H):∃places,DataW.whole enc Tryz.prog ((cB os).forCall (fun _ _=>0) ⟨#[],#[.agg #[.slice none 0 0,.slice none 0 0,.slice none 0 0,.slice none 0 0,.slice none 0 0,.slice none 0 0,.slice none 0 0,.bool false,.int .i64 0,.slice none 0 0,.slice none 0 0,.slice none 0 0]],[]⟩).memory Tryz.f5.params.toList Rows.validNamesSpec.vars false #[.agg #[.slice none 0 0,.slice none 0 0,.slice none 0 0,.slice none 0 0,.slice none 0 0,.slice none 0 0,.slice none 0 0,.bool false,.int .i64 0,.slice none 0 0,.slice none 0 0,.slice none 0 0]].toList 8=some ([.agg [.nil,.nil,.nil,.nil,.nil,.nil,.nil,.lit (.bool false),.lit (.int .i64 0),.nil,.nil,.nil]],[],places) :=
 ⟨[],by kernel_rfl⟩
theorem nI (os:Os) (started:os.Started) (H:Type) (enc:TypeId×Value→H) (F:Stop.Interp) :
  ReturnsInHanded {} Tryz.checked os 5 .any ((OpenSpec.ofChange Rows.validNamesSpec).preRow enc Tryz.prog Tryz.f5 Rows.validNamesRow.domain false Rows.validNamesRow.laid) (((OpenSpec.ofChange Rows.validNamesSpec).at F).post enc Tryz.prog Tryz.f5 false true false false):=by
 obtain ⟨places,hx⟩:=o_ os enc
 refine returnsInHanded_of_row (C:=Tryz.checked) (s:=OpenSpec.ofChange Rows.validNamesSpec) own started (by kernel_rfl) Tryz.func5
  (witness_row_atRef (enc:=enc) (C:=Tryz.checked) false (cB os) #[.agg #[.slice none 0 0,.slice none 0 0,.slice none 0 0,.slice none 0 0,.slice none 0 0,.slice none 0 0,.slice none 0 0,.bool false,.int .i64 0,.slice none 0 0,.slice none 0 0,.slice none 0 0]] (World.laidAll_os _ _ _) (by kernel_rfl) (by kernel_rfl) (by kernel_rfl)
   (OpenSpec.preRow_of_cond 8 hx (by kernel_rfl) (fun k hk=>by cases hk) (by kernel_rfl) (qD os))) ?_
 intro W base args ds gs before hval hW _ _ hw hL hS _
 exact lD H enc W base args ds gs before hval hW hw hL hS
theorem sf:(Rows.validNamesRow.wf (OpenSpec.ofChange Rows.validNamesSpec))=true:=by kernel_rfl
theorem sg:(laidOutB Tryz.prog)=true:=by kernel_rfl
theorem si:(mapsRowed Tryz.prog)=true:=by kernel_rfl
theorem sj:(Tryz.f5.params.all (Tryz.prog.readableRec ·))=true:=by kernel_rfl
theorem sn:(namedTie Tryz.prog Rows.validNamesRow.named Rows.validNamesSpec.vars)=true:=by kernel_rfl
theorem sq:((Rows.validNamesRow.stops==[]))=true:=by kernel_rfl
theorem ss:((Tryz.prog.stops==[]))=true:=by kernel_rfl
theorem su:((Rows.validNamesRow.knobs==[]))=true:=by kernel_rfl
theorem sv:((Tryz.prog.stopKnobs==[]))=true:=by kernel_rfl
theorem pJ:((Rows.validNamesRow.inPlace==Tryz.prog.inPlace 5))=true:=by kernel_rfl
theorem pK:((Rows.validNamesRow.unfollowed==Tryz.prog.unfollowed 5))=true:=by kernel_rfl
theorem pL:((Rows.validNamesRow.recurses==Tryz.prog.recurses 5))=true:=by kernel_rfl
theorem pM:((Rows.validNamesRow.named==Tryz.prog.varsNamed 5))=true:=by kernel_rfl
theorem pN:((Rows.validNamesRow.maps==(Tryz.f5.params.toList++Rows.validNamesSpec.plain.varTypes Tryz.prog).any (Tryz.prog.mapsRec ·)))=true:=by kernel_rfl
theorem pO:((Rows.validNamesRow.ifaces==(Tryz.f5.params.toList++Rows.validNamesSpec.plain.varTypes Tryz.prog).any (Tryz.prog.ifacesRec ·)))=true:=by kernel_rfl
theorem pP:((Rows.validNamesRow.mapsOut==Tryz.prog.mapsAmong Tryz.f5.resultTypes.toList))=true:=by kernel_rfl
theorem pQ:((Rows.validNamesRow.loops==(Tryz.f5.params.toList++Rows.validNamesSpec.plain.varTypes Tryz.prog).any (Tryz.prog.loopsFrom ·)))=true:=by kernel_rfl
theorem pR:((Rows.validNamesRow.wideKeys==(Tryz.f5.params.toList++Rows.validNamesSpec.plain.varTypes Tryz.prog++Tryz.f5.resultTypes.toList).any (Tryz.prog.wideKeysFrom ·)))=true:=by kernel_rfl
theorem pS:(Rows.validNamesSpec.vars.all (Tryz.prog.varReadable ·))=true:=by kernel_rfl
theorem pU:(Tryz.f5.resultTypes.all (fun t=>Tryz.prog.readableRec t&&decide (t<Tryz.prog.types.size)))=true:=by kernel_rfl
theorem pV:((Rows.validNamesRow.ifacesOut==Tryz.f5.resultTypes.toList.any (Tryz.prog.ifacesRec ·)))=true:=by kernel_rfl
theorem pW:((Rows.validNamesRow.loopsOut==Tryz.f5.resultTypes.toList.any (Tryz.prog.loopsFrom ·)))=true:=by kernel_rfl
theorem pX:((Rows.validNamesRow.plainKeys==Tryz.prog.plainKeys))=true:=by kernel_rfl
theorem pY:(Rows.validNamesRow.shortTexts.isNone)=true:=by kernel_rfl
theorem pZ:(Tryz.prog.stopsHeard)=true:=by kernel_rfl
theorem p5:(Tryz.prog.mayEnter)=true:=by kernel_rfl
theorem p6:((Rows.validNamesRow.lifted==Tryz.prog.liftsFinal))=true:=by kernel_rfl
theorem p7:((Tryz.prog.make==some Rows.validNamesRow.make))=true:=by kernel_rfl
theorem p8:((Rows.validNamesRow.kinds==(if Rows.validNamesRow.domain.isEmpty then [] else Tryz.f5.params.toList.map fun t=>match Tryz.prog.underlying t with | some (.int k)=>some k | _=>none)))=true:=by kernel_rfl
theorem p9:((Rows.validNamesRow.pinned==Rows.validNamesRow.pinnedBy))=true:=by kernel_rfl
theorem p_:((Rows.validNamesRow.veiled==(Tryz.f5.params.toList++Rows.validNamesSpec.plain.varTypes Tryz.prog++Tryz.f5.resultTypes.toList).any (Tryz.prog.veiledRec ·)))=true:=by kernel_rfl
theorem qa:(Rows.validNamesRow.veiledFits Tryz.prog Tryz.f5.params.toList (Tryz.f5.params.toList++Rows.validNamesSpec.plain.varTypes Tryz.prog++Tryz.f5.resultTypes.toList))=true:=by kernel_rfl
theorem aE {a b:Bool} (h:a=true) (g:b=true):(a&&b)=true:=by rw [h,g];rfl
theorem nh:joinedFacts Tryz.prog 5 Tryz.f5 Rows.validNamesSpec Rows.validNamesRow=true :=
 aE (aE (aE (aE (aE (aE (aE (aE (aE (aE (aE (aE (aE (aE (aE (aE (aE (aE (aE (aE (aE (aE (aE (aE (aE (aE (aE (aE (aE (aE (aE sf sg) si) sj) sn) sq) ss) su) sv) pJ) pK) pL) pM) pN) pO) pP) pQ) pR) pS) pU) pV) pW) pX) pY) pZ) p5) p6) p7) p8) p9) p_) qa
theorem qQ:Rows.ValidNamesSaid :=
 OpenClaim.holds_of_cond 5 Tryz.f5 rfl rfl rfl rfl rfl rfl rfl ⟨rfl,rfl,rfl,rfl,rfl⟩ rfl rfl rfl rfl rfl (by kernel_rfl) Tryz.func5 nh
  (of_decide_eq_true (by kernel_rfl)) (by unfold Func.isWrapper;first | (rw [av (by decide +kernel)];kernel_rfl) | (rw [ar (by decide +kernel)];exact ⟨rfl,rfl⟩))
  (fun os started H enc _ F=>by rw [OpenClaim.pre_eq_preRow];exact nI os started H enc F)
theorem o8 (f:FuncId) (fn:Func) (hf:Tryz.pinned.checked.prog.funcNamed Rows.validNamesRow.func=some f) (hfn:Tryz.pinned.checked.prog.funcs[f]? = some fn) :
  false=Tryz.pinned.checked.prog.looks []∧∀(j:Nat) t,fn.params[j]? = some t→Tryz.pinned.checked.prog.wantsStandIn t=false:=by
 obtain rfl:f=5:=Option.some.inj ((show Tryz.prog.funcNamed Rows.validNamesRow.func=some 5 by kernel_rfl).symm.trans hf) |>.symm
 obtain rfl:fn=Tryz.f5:=(Option.some.inj (Tryz.func5.symm.trans hfn)).symm
 refine ⟨by kernel_rfl,fun j t ht=>?_⟩
 rw [Tryz.params5] at ht
 have hm:=Array.mem_of_getElem? ht
 simp only [List.mem_toArray,bc,List.not_mem_nil,or_false] at hm
 rcases hm with rfl
 ·exact (show Tryz.prog.wantsStandIn 33=false by kernel_rfl)
theorem validNames_holds:Rows.ValidNamesCardSaid :=
 Claim7.holds_tied_plain_at .later [] _ _ _ _ qQ (fun _ h=>by cases h) (by kernel_rfl) (fun _ h=>by cases h) validNames_row_tie rfl ⟨rfl,rfl⟩ (by kernel_rfl) rfl o8 (nz I8 _ rfl)
end Go.Proofs.YthhglklcaodfmaaGreatDoor