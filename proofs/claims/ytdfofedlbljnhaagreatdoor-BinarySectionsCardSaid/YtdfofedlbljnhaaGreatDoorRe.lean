import Derived.Test.YtdfofedlbljnhaaGreatDoorQv
set_option linter.all false
set_option maxRecDepth 100000
namespace Go.Proofs.YtdfofedlbljnhaaGreatDoor
open Go Go.Mw
open Go.ChangeShapes Go.WideShapes Go.ChangeAt Go.RowKit
theorem Um (xs:List AV) (h:aS Ty.okV [my] xs) (hb:aS (Ty.bdV reachBytes) [my] xs):ao Tryz.prog 7 xs (.bool true):=by
 obtain ⟨x,rfl,h0⟩:=acH h
 obtain ⟨g0,_⟩:=hb
 obtain ⟨m,hm,_,bm⟩:=UK DV rfl h0
 replace bm:=bm _ g0
 exact jl (VB m (La (by decide) bm) (EU bm)) ⟨hm,trivial⟩
theorem xr:∀t∈[33],Tryz.prog.readableRec t=true∧t<Tryz.prog.types.size:=by
 intro t ht
 simp only [dc,List.not_mem_nil,or_false] at ht
 rcases ht with rfl
 all_goals exact ⟨by kernel_rfl,of_decide_eq_true (by kernel_rfl)⟩
theorem qI (H:Type) (enc:TypeId×Value→H) (W:World) (base:Nat) (args:Array Value) (ds gs:List (DataW H)) (before:List MemPlace)
  (hval:∀(j:Nat) t v,Tryz.f7.params[j]? = some t→args[j]? = some v→Value.okWide Tryz.prog W .any base t v)
  (hW:DataW.Whole enc Tryz.prog Tryz.f7.params.toList Rows.binarySectionsSpec.vars false W args.toList ds gs before) (hw:(DataW.weightsEach Tryz.prog (Tryz.f7.params.toList++(OpenSpec.ofChange Rows.binarySectionsSpec).bare.plain.varTypes Tryz.prog) (ds++gs)).all (·≤reachBytes)=true) (hL:laidMetH Tryz.prog Rows.binarySectionsRow.laid W) (hS:W.ShapedOpen Tryz.prog) :
  Calls Tryz.prog 7 args W fun e W'=>∃v,e = .returned v∧Rows.binarySectionsSpec.post enc Tryz.prog Tryz.f7 false true false false W args v W':=by
 refine i9 (B:=reachBytes) (s:=Rows.binarySectionsSpec) (f:=Tryz.f7) (tb:=4) [my] ?_ yh ?_ rfl ?_ (by kernel_rfl) (by kernel_rfl) (Um) W base args ds gs before (y7 hL hS) hval hW (uI hw)
 ·rw [Tryz.params7];exact ⟨⟨Lh,by kernel_rfl⟩,trivial⟩
 ·rw [Tryz.params7];exact xr
 ·intro ds h
  match ds,h with
  | [d0],_=>exact ⟨rfl,rfl,rfl⟩
theorem vJ (os:Os):laidMet Tryz.prog Rows.binarySectionsRow.laid ((dk os).forCall (fun _ _=>0) ⟨#[],#[.agg #[.slice none 0 0,.slice none 0 0,.slice none 0 0,.slice none 0 0,.slice none 0 0,.slice none 0 0,.slice none 0 0,.bool false,.int .i64 0,.slice none 0 0,.slice none 0 0,.slice none 0 0]],[]⟩).memory :=
 laidMet_laidAll _ (by kernel_rfl) (by kernel_rfl)
theorem ux (os:Os) {H:Type} (enc:TypeId×Value→H):∃places,DataW.whole enc Tryz.prog ((dk os).forCall (fun _ _=>0) ⟨#[],#[.agg #[.slice none 0 0,.slice none 0 0,.slice none 0 0,.slice none 0 0,.slice none 0 0,.slice none 0 0,.slice none 0 0,.bool false,.int .i64 0,.slice none 0 0,.slice none 0 0,.slice none 0 0]],[]⟩).memory Tryz.f7.params.toList Rows.binarySectionsSpec.vars false #[.agg #[.slice none 0 0,.slice none 0 0,.slice none 0 0,.slice none 0 0,.slice none 0 0,.slice none 0 0,.slice none 0 0,.bool false,.int .i64 0,.slice none 0 0,.slice none 0 0,.slice none 0 0]].toList 8=some ([.agg [.nil,.nil,.nil,.nil,.nil,.nil,.nil,.lit (.bool false),.lit (.int .i64 0),.nil,.nil,.nil]],[],places) :=
 ⟨[],by kernel_rfl⟩
theorem sT (os:Os) (started:os.Started) (H:Type) (enc:TypeId×Value→H) (F:Stop.Interp) :
  ReturnsInHanded {} Tryz.checked os 7 .any ((OpenSpec.ofChange Rows.binarySectionsSpec).preRow enc Tryz.prog Tryz.f7 Rows.binarySectionsRow.domain false Rows.binarySectionsRow.laid) (((OpenSpec.ofChange Rows.binarySectionsSpec).at F).post enc Tryz.prog Tryz.f7 false true false false):=by
 obtain ⟨places,hx⟩:=ux os enc
 refine returnsInHanded_of_row (C:=Tryz.checked) (s:=OpenSpec.ofChange Rows.binarySectionsSpec) own started (by kernel_rfl) Tryz.func7
  (witness_row_atRef (enc:=enc) (C:=Tryz.checked) false (dk os) #[.agg #[.slice none 0 0,.slice none 0 0,.slice none 0 0,.slice none 0 0,.slice none 0 0,.slice none 0 0,.slice none 0 0,.bool false,.int .i64 0,.slice none 0 0,.slice none 0 0,.slice none 0 0]] (World.laidAll_os _ _ _) (by kernel_rfl) (by kernel_rfl) (by kernel_rfl)
   (OpenSpec.preRow_of_cond 8 hx (by kernel_rfl) (fun k hk=>by cases hk) (by kernel_rfl) (vJ os))) ?_
 intro W base args ds gs before hval hW _ _ hw hL hS _
 exact qI H enc W base args ds gs before hval hW hw hL hS
theorem wb:(Rows.binarySectionsRow.wf (OpenSpec.ofChange Rows.binarySectionsSpec))=true:=by kernel_rfl
theorem wc:(laidOutB Tryz.prog)=true:=by kernel_rfl
theorem wd:(mapsRowed Tryz.prog)=true:=by kernel_rfl
theorem we:(Tryz.f7.params.all (Tryz.prog.readableRec ·))=true:=by kernel_rfl
theorem wg:(namedTie Tryz.prog Rows.binarySectionsRow.named Rows.binarySectionsSpec.vars)=true:=by kernel_rfl
theorem wh:((Rows.binarySectionsRow.stops==[]))=true:=by kernel_rfl
theorem wj:((Tryz.prog.stops==[]))=true:=by kernel_rfl
theorem wk:((Rows.binarySectionsRow.knobs==[]))=true:=by kernel_rfl
theorem wl:((Tryz.prog.stopKnobs==[]))=true:=by kernel_rfl
theorem uJ:((Rows.binarySectionsRow.inPlace==Tryz.prog.inPlace 7))=true:=by kernel_rfl
theorem uK:((Rows.binarySectionsRow.unfollowed==Tryz.prog.unfollowed 7))=true:=by kernel_rfl
theorem uL:((Rows.binarySectionsRow.recurses==Tryz.prog.recurses 7))=true:=by kernel_rfl
theorem uM:((Rows.binarySectionsRow.named==Tryz.prog.varsNamed 7))=true:=by kernel_rfl
theorem uN:((Rows.binarySectionsRow.maps==(Tryz.f7.params.toList++Rows.binarySectionsSpec.plain.varTypes Tryz.prog).any (Tryz.prog.mapsRec ·)))=true:=by kernel_rfl
theorem uO:((Rows.binarySectionsRow.ifaces==(Tryz.f7.params.toList++Rows.binarySectionsSpec.plain.varTypes Tryz.prog).any (Tryz.prog.ifacesRec ·)))=true:=by kernel_rfl
theorem uP:((Rows.binarySectionsRow.mapsOut==Tryz.prog.mapsAmong Tryz.f7.resultTypes.toList))=true:=by kernel_rfl
theorem uQ:((Rows.binarySectionsRow.loops==(Tryz.f7.params.toList++Rows.binarySectionsSpec.plain.varTypes Tryz.prog).any (Tryz.prog.loopsFrom ·)))=true:=by kernel_rfl
theorem uS:((Rows.binarySectionsRow.wideKeys==(Tryz.f7.params.toList++Rows.binarySectionsSpec.plain.varTypes Tryz.prog++Tryz.f7.resultTypes.toList).any (Tryz.prog.wideKeysFrom ·)))=true:=by kernel_rfl
theorem uT:(Rows.binarySectionsSpec.vars.all (Tryz.prog.varReadable ·))=true:=by kernel_rfl
theorem uU:(Tryz.f7.resultTypes.all (fun t=>Tryz.prog.readableRec t&&decide (t<Tryz.prog.types.size)))=true:=by kernel_rfl
theorem uV:((Rows.binarySectionsRow.ifacesOut==Tryz.f7.resultTypes.toList.any (Tryz.prog.ifacesRec ·)))=true:=by kernel_rfl
theorem uW:((Rows.binarySectionsRow.loopsOut==Tryz.f7.resultTypes.toList.any (Tryz.prog.loopsFrom ·)))=true:=by kernel_rfl
theorem uX:((Rows.binarySectionsRow.plainKeys==Tryz.prog.plainKeys))=true:=by kernel_rfl
theorem uY:(Rows.binarySectionsRow.shortTexts.isNone)=true:=by kernel_rfl
theorem uZ:(Tryz.prog.stopsHeard)=true:=by kernel_rfl
theorem u5:(Tryz.prog.mayEnter)=true:=by kernel_rfl
theorem u6:((Rows.binarySectionsRow.lifted==Tryz.prog.liftsFinal))=true:=by kernel_rfl
theorem u7:((Tryz.prog.make==some Rows.binarySectionsRow.make))=true:=by kernel_rfl
theorem u9:((Rows.binarySectionsRow.kinds==(if Rows.binarySectionsRow.domain.isEmpty then [] else Tryz.f7.params.toList.map fun t=>match Tryz.prog.underlying t with | some (.int k)=>some k | _=>none)))=true:=by kernel_rfl
theorem u_:((Rows.binarySectionsRow.pinned==Rows.binarySectionsRow.pinnedBy))=true:=by kernel_rfl
theorem va:((Rows.binarySectionsRow.veiled==(Tryz.f7.params.toList++Rows.binarySectionsSpec.plain.varTypes Tryz.prog++Tryz.f7.resultTypes.toList).any (Tryz.prog.veiledRec ·)))=true:=by kernel_rfl
theorem vb:(Rows.binarySectionsRow.veiledFits Tryz.prog Tryz.f7.params.toList (Tryz.f7.params.toList++Rows.binarySectionsSpec.plain.varTypes Tryz.prog++Tryz.f7.resultTypes.toList))=true:=by kernel_rfl
theorem aI {a b:Bool} (h:a=true) (g:b=true):(a&&b)=true:=by rw [h,g];rfl
theorem sP:joinedFacts Tryz.prog 7 Tryz.f7 Rows.binarySectionsSpec Rows.binarySectionsRow=true :=
 aI (aI (aI (aI (aI (aI (aI (aI (aI (aI (aI (aI (aI (aI (aI (aI (aI (aI (aI (aI (aI (aI (aI (aI (aI (aI (aI (aI (aI (aI (aI wb wc) wd) we) wg) wh) wj) wk) wl) uJ) uK) uL) uM) uN) uO) uP) uQ) uS) uT) uU) uV) uW) uX) uY) uZ) u5) u6) u7) u9) u_) va) vb
theorem v8:Rows.BinarySectionsSaid :=
 OpenClaim.holds_of_cond 7 Tryz.f7 rfl rfl rfl rfl rfl rfl rfl ⟨rfl,rfl,rfl,rfl,rfl⟩ rfl rfl rfl rfl rfl (by kernel_rfl) Tryz.func7 sP
  (of_decide_eq_true (by kernel_rfl)) (by unfold Func.isWrapper;first | (rw [ap (by decide +kernel)];kernel_rfl) | (rw [ah (by decide +kernel)];exact ⟨rfl,rfl⟩))
  (fun os started H enc _ F=>by rw [OpenClaim.pre_eq_preRow];exact sT os started H enc F)
theorem uo (f:FuncId) (fn:Func) (hf:Tryz.pinned.checked.prog.funcNamed Rows.binarySectionsRow.func=some f) (hfn:Tryz.pinned.checked.prog.funcs[f]? = some fn) :
  false=Tryz.pinned.checked.prog.looks []∧∀(j:Nat) t,fn.params[j]? = some t→Tryz.pinned.checked.prog.wantsStandIn t=false:=by
 obtain rfl:f=7:=Option.some.inj ((show Tryz.prog.funcNamed Rows.binarySectionsRow.func=some 7 by kernel_rfl).symm.trans hf) |>.symm
 obtain rfl:fn=Tryz.f7:=(Option.some.inj (Tryz.func7.symm.trans hfn)).symm
 refine ⟨by kernel_rfl,fun j t ht=>?_⟩
 rw [Tryz.params7] at ht
 have hm:=Array.mem_of_getElem? ht
 simp only [List.mem_toArray,dc,List.not_mem_nil,or_false] at hm
 rcases hm with rfl
 ·exact (show Tryz.prog.wantsStandIn 33=false by kernel_rfl)
theorem binarySections_holds:Rows.BinarySectionsCardSaid :=
 Claim7.holds_tied_plain_at .later [] _ _ _ _ v8 (fun _ h=>by cases h) (by kernel_rfl) (fun _ h=>by cases h) binarySections_row_tie rfl ⟨rfl,rfl⟩ (by kernel_rfl) rfl uo (ye Sq _ rfl)
end Go.Proofs.YtdfofedlbljnhaaGreatDoor