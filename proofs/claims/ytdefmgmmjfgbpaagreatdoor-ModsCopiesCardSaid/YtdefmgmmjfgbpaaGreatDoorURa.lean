import Derived.Test.YtdefmgmmjfgbpaaGreatDoorUQl
set_option linter.all false
set_option maxRecDepth 100000
namespace Go.Proofs.YtdefmgmmjfgbpaaGreatDoor
open Go Go.Mw
open Go.ChangeShapes Go.WideShapes Go.ChangeAt Go.RowKit
theorem uY (xs:List AV) (h:aC Ty.okV [tN] xs) (hb:aC (Ty.bdV reachBytes) [tN] xs):ak Tryz.prog 3 xs (.bool true):=by
 obtain ⟨x,rfl,h0⟩:=UM h
 obtain ⟨g0,_⟩:=hb
 obtain ⟨m,hm,_,bm⟩:=UV Le rfl h0
 replace bm:=bm _ g0
 exact eP (yX m (AX (by decide) bm)) ⟨hm,trivial⟩
theorem oW:∀t∈[33],Tryz.prog.readableRec t=true∧t<Tryz.prog.types.size:=by
 intro t ht
 simp only [bE,List.not_mem_nil,or_false] at ht
 rcases ht with rfl
 all_goals exact ⟨by kernel_rfl,of_decide_eq_true (by kernel_rfl)⟩
theorem jH (H:Type) (enc:TypeId×Value→H) (W:World) (base:Nat) (args:Array Value) (ds gs:List (DataW H)) (before:List MemPlace)
  (hval:∀(j:Nat) t v,Tryz.f3.params[j]? = some t→args[j]? = some v→Value.okWide Tryz.prog W .any base t v)
  (hW:DataW.Whole enc Tryz.prog Tryz.f3.params.toList Rows.modsCopiesSpec.vars false W args.toList ds gs before) (hw:(DataW.weightsEach Tryz.prog (Tryz.f3.params.toList++(OpenSpec.ofChange Rows.modsCopiesSpec).bare.plain.varTypes Tryz.prog) (ds++gs)).all (·≤reachBytes)=true) (hL:laidMetH Tryz.prog Rows.modsCopiesRow.laid W) (hS:W.ShapedOpen Tryz.prog) :
  Calls Tryz.prog 3 args W fun e W'=>∃v,e = .returned v∧Rows.modsCopiesSpec.post enc Tryz.prog Tryz.f3 false true false false W args v W':=by
 refine pM (B:=reachBytes) (s:=Rows.modsCopiesSpec) (f:=Tryz.f3) (tb:=4) [tN] ?_ HB ?_ rfl ?_ (by kernel_rfl) (by kernel_rfl) (uY) W base args ds gs before (IZ hL hS) hval hW (EK hw)
 ·rw [Tryz.params3];exact ⟨⟨Ro,by kernel_rfl⟩,trivial⟩
 ·rw [Tryz.params3];exact oW
 ·intro ds h
  match ds,h with
  | [d0],_=>exact ⟨rfl,rfl,rfl⟩
theorem nq (os:Os):laidMet Tryz.prog Rows.modsCopiesRow.laid ((lL os).forCall (fun _ _=>0) ⟨#[],#[.agg #[.slice none 0 0,.slice none 0 0,.slice none 0 0,.slice none 0 0,.slice none 0 0,.slice none 0 0,.slice none 0 0,.bool false,.int .i64 0,.slice none 0 0,.slice none 0 0,.slice none 0 0]],[]⟩).memory :=
 laidMet_laidAll _ (by kernel_rfl) (by kernel_rfl)
theorem lR (os:Os) {H:Type} (enc:TypeId×Value→H):∃places,DataW.whole enc Tryz.prog ((lL os).forCall (fun _ _=>0) ⟨#[],#[.agg #[.slice none 0 0,.slice none 0 0,.slice none 0 0,.slice none 0 0,.slice none 0 0,.slice none 0 0,.slice none 0 0,.bool false,.int .i64 0,.slice none 0 0,.slice none 0 0,.slice none 0 0]],[]⟩).memory Tryz.f3.params.toList Rows.modsCopiesSpec.vars false #[.agg #[.slice none 0 0,.slice none 0 0,.slice none 0 0,.slice none 0 0,.slice none 0 0,.slice none 0 0,.slice none 0 0,.bool false,.int .i64 0,.slice none 0 0,.slice none 0 0,.slice none 0 0]].toList 8=some ([.agg [.nil,.nil,.nil,.nil,.nil,.nil,.nil,.lit (.bool false),.lit (.int .i64 0),.nil,.nil,.nil]],[],places) :=
 ⟨[],by kernel_rfl⟩
theorem kS (os:Os) (started:os.Started) (H:Type) (enc:TypeId×Value→H) (F:Stop.Interp) :
  ReturnsInHanded {} Tryz.checked os 3 .any ((OpenSpec.ofChange Rows.modsCopiesSpec).preRow enc Tryz.prog Tryz.f3 Rows.modsCopiesRow.domain false Rows.modsCopiesRow.laid) (((OpenSpec.ofChange Rows.modsCopiesSpec).at F).post enc Tryz.prog Tryz.f3 false true false false):=by
 obtain ⟨places,hx⟩:=lR os enc
 refine returnsInHanded_of_row (C:=Tryz.checked) (s:=OpenSpec.ofChange Rows.modsCopiesSpec) own started (by kernel_rfl) Tryz.func3
  (witness_row_atRef (enc:=enc) (C:=Tryz.checked) false (lL os) #[.agg #[.slice none 0 0,.slice none 0 0,.slice none 0 0,.slice none 0 0,.slice none 0 0,.slice none 0 0,.slice none 0 0,.bool false,.int .i64 0,.slice none 0 0,.slice none 0 0,.slice none 0 0]] (World.laidAll_os _ _ _) (by kernel_rfl) (by kernel_rfl) (by kernel_rfl)
   (OpenSpec.preRow_of_cond 8 hx (by kernel_rfl) (fun k hk=>by cases hk) (by kernel_rfl) (nq os))) ?_
 intro W base args ds gs before hval hW _ _ hw hL hS _
 exact jH H enc W base args ds gs before hval hW hw hL hS
theorem nv:(Rows.modsCopiesRow.wf (OpenSpec.ofChange Rows.modsCopiesSpec))=true:=by kernel_rfl
theorem nw:(laidOutB Tryz.prog)=true:=by kernel_rfl
theorem nx:(mapsRowed Tryz.prog)=true:=by kernel_rfl
theorem ny:(Tryz.f3.params.all (Tryz.prog.readableRec ·))=true:=by kernel_rfl
theorem nz:(namedTie Tryz.prog Rows.modsCopiesRow.named Rows.modsCopiesSpec.vars)=true:=by kernel_rfl
theorem nA:((Rows.modsCopiesRow.stops==[]))=true:=by kernel_rfl
theorem nB:((Tryz.prog.stops==[]))=true:=by kernel_rfl
theorem nC:((Rows.modsCopiesRow.knobs==[]))=true:=by kernel_rfl
theorem nD:((Tryz.prog.stopKnobs==[]))=true:=by kernel_rfl
theorem lY:((Rows.modsCopiesRow.inPlace==Tryz.prog.inPlace 3))=true:=by kernel_rfl
theorem lZ:((Rows.modsCopiesRow.unfollowed==Tryz.prog.unfollowed 3))=true:=by kernel_rfl
theorem l_:((Rows.modsCopiesRow.recurses==Tryz.prog.recurses 3))=true:=by kernel_rfl
theorem ma:((Rows.modsCopiesRow.named==Tryz.prog.varsNamed 3))=true:=by kernel_rfl
theorem mb:((Rows.modsCopiesRow.maps==(Tryz.f3.params.toList++Rows.modsCopiesSpec.plain.varTypes Tryz.prog).any (Tryz.prog.mapsRec ·)))=true:=by kernel_rfl
theorem md:((Rows.modsCopiesRow.ifaces==(Tryz.f3.params.toList++Rows.modsCopiesSpec.plain.varTypes Tryz.prog).any (Tryz.prog.ifacesRec ·)))=true:=by kernel_rfl
theorem mg:((Rows.modsCopiesRow.mapsOut==Tryz.prog.mapsAmong Tryz.f3.resultTypes.toList))=true:=by kernel_rfl
theorem mh:((Rows.modsCopiesRow.loops==(Tryz.f3.params.toList++Rows.modsCopiesSpec.plain.varTypes Tryz.prog).any (Tryz.prog.loopsFrom ·)))=true:=by kernel_rfl
theorem mi:((Rows.modsCopiesRow.wideKeys==(Tryz.f3.params.toList++Rows.modsCopiesSpec.plain.varTypes Tryz.prog++Tryz.f3.resultTypes.toList).any (Tryz.prog.wideKeysFrom ·)))=true:=by kernel_rfl
theorem mj:(Rows.modsCopiesSpec.vars.all (Tryz.prog.varReadable ·))=true:=by kernel_rfl
theorem ml:(Tryz.f3.resultTypes.all (fun t=>Tryz.prog.readableRec t&&decide (t<Tryz.prog.types.size)))=true:=by kernel_rfl
theorem mq:((Rows.modsCopiesRow.ifacesOut==Tryz.f3.resultTypes.toList.any (Tryz.prog.ifacesRec ·)))=true:=by kernel_rfl
theorem mr:((Rows.modsCopiesRow.loopsOut==Tryz.f3.resultTypes.toList.any (Tryz.prog.loopsFrom ·)))=true:=by kernel_rfl
theorem mw:((Rows.modsCopiesRow.plainKeys==Tryz.prog.plainKeys))=true:=by kernel_rfl
theorem my:(Rows.modsCopiesRow.shortTexts.isNone)=true:=by kernel_rfl
theorem mz:(Tryz.prog.stopsHeard)=true:=by kernel_rfl
theorem mA:(Tryz.prog.mayEnter)=true:=by kernel_rfl
theorem mD:((Rows.modsCopiesRow.lifted==Tryz.prog.liftsFinal))=true:=by kernel_rfl
theorem mE:((Tryz.prog.make==some Rows.modsCopiesRow.make))=true:=by kernel_rfl
theorem mF:((Rows.modsCopiesRow.kinds==(if Rows.modsCopiesRow.domain.isEmpty then [] else Tryz.f3.params.toList.map fun t=>match Tryz.prog.underlying t with | some (.int k)=>some k | _=>none)))=true:=by kernel_rfl
theorem mH:((Rows.modsCopiesRow.pinned==Rows.modsCopiesRow.pinnedBy))=true:=by kernel_rfl
theorem mJ:((Rows.modsCopiesRow.veiled==(Tryz.f3.params.toList++Rows.modsCopiesSpec.plain.varTypes Tryz.prog++Tryz.f3.resultTypes.toList).any (Tryz.prog.veiledRec ·)))=true:=by kernel_rfl
theorem mK:(Rows.modsCopiesRow.veiledFits Tryz.prog Tryz.f3.params.toList (Tryz.f3.params.toList++Rows.modsCopiesSpec.plain.varTypes Tryz.prog++Tryz.f3.resultTypes.toList))=true:=by kernel_rfl
theorem eR {a b:Bool} (h:a=true) (g:b=true):(a&&b)=true:=by rw [h,g];rfl
theorem kC:joinedFacts Tryz.prog 3 Tryz.f3 Rows.modsCopiesSpec Rows.modsCopiesRow=true :=
 eR (eR (eR (eR (eR (eR (eR (eR (eR (eR (eR (eR (eR (eR (eR (eR (eR (eR (eR (eR (eR (eR (eR (eR (eR (eR (eR (eR (eR (eR (eR nv nw) nx) ny) nz) nA) nB) nC) nD) lY) lZ) l_) ma) mb) md) mg) mh) mi) mj) ml) mq) mr) mw) my) mz) mA) mD) mE) mF) mH) mJ) mK
theorem nr:Rows.ModsCopiesSaid :=
 OpenClaim.holds_of_cond 3 Tryz.f3 rfl rfl rfl rfl rfl rfl rfl ⟨rfl,rfl,rfl,rfl,rfl⟩ rfl rfl rfl rfl rfl (by kernel_rfl) Tryz.func3 kC
  (of_decide_eq_true (by kernel_rfl)) (by unfold Func.isWrapper;first | (rw [bz (by decide +kernel)];kernel_rfl) | (rw [aJ (by decide +kernel)];exact ⟨rfl,rfl⟩))
  (fun os started H enc _ F=>by rw [OpenClaim.pre_eq_preRow];exact kS os started H enc F)
theorem lP (f:FuncId) (fn:Func) (hf:Tryz.pinned.checked.prog.funcNamed Rows.modsCopiesRow.func=some f) (hfn:Tryz.pinned.checked.prog.funcs[f]? = some fn) :
  false=Tryz.pinned.checked.prog.looks []∧∀(j:Nat) t,fn.params[j]? = some t→Tryz.pinned.checked.prog.wantsStandIn t=false:=by
 obtain rfl:f=3:=Option.some.inj ((show Tryz.prog.funcNamed Rows.modsCopiesRow.func=some 3 by kernel_rfl).symm.trans hf) |>.symm
 obtain rfl:fn=Tryz.f3:=(Option.some.inj (Tryz.func3.symm.trans hfn)).symm
 refine ⟨by kernel_rfl,fun j t ht=>?_⟩
 rw [Tryz.params3] at ht
 have hm:=Array.mem_of_getElem? ht
 simp only [List.mem_toArray,bE,List.not_mem_nil,or_false] at hm
 rcases hm with rfl
 ·exact (show Tryz.prog.wantsStandIn 33=false by kernel_rfl)
theorem modsCopies_holds:Rows.ModsCopiesCardSaid :=
 Claim7.holds_tied_plain_at .later [] _ _ _ _ nr (fun _ h=>by cases h) (by kernel_rfl) (fun _ h=>by cases h) modsCopies_row_tie rfl ⟨rfl,rfl⟩ (by kernel_rfl) rfl lP (by kernel_rfl)
end Go.Proofs.YtdefmgmmjfgbpaaGreatDoor