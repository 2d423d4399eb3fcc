import Derived.Test.YtdfofedlbljnhaaGreatDoorQv
set_option linter.all false
set_option maxRecDepth 100000
namespace Go.Proofs.YtdfofedlbljnhaaGreatDoor
open Go Go.Mw
open Go.ChangeShapes Go.WideShapes Go.ChangeAt Go.RowKit
theorem YM (xs:List AV) (h:aS Ty.okV [my,.int .i64] xs) (hb:aS (Ty.bdV reachBytes) [my,.int .i64] xs):ao Tryz.prog 8 xs (.bool true):=by
 obtain ⟨x,y,rfl,h0,h1⟩:=aga h
 obtain ⟨g0,g1,_⟩:=hb
 obtain ⟨m,hm,_,bm⟩:=UK DV rfl h0
 replace bm:=bm _ g0
 obtain ⟨n,rfl,_⟩:=aiv h1
 exact jl (ZC m n (La (by decide) bm) (EU bm)) ⟨hm,.inl (.rfl _),trivial⟩
theorem FY:∀t∈[33,3],Tryz.prog.readableRec t=true∧t<Tryz.prog.types.size:=by
 intro t ht
 simp only [dc,List.not_mem_nil,or_false] at ht
 rcases ht with rfl | rfl
 all_goals exact ⟨by kernel_rfl,of_decide_eq_true (by kernel_rfl)⟩
theorem xe (H:Type) (enc:TypeId×Value→H) (W:World) (base:Nat) (args:Array Value) (ds gs:List (DataW H)) (before:List MemPlace)
  (hval:∀(j:Nat) t v,Tryz.f8.params[j]? = some t→args[j]? = some v→Value.okWide Tryz.prog W .any base t v)
  (hW:DataW.Whole enc Tryz.prog Tryz.f8.params.toList Rows.binaryCutSpec.vars false W args.toList ds gs before) (hw:(DataW.weightsEach Tryz.prog (Tryz.f8.params.toList++(OpenSpec.ofChange Rows.binaryCutSpec).bare.plain.varTypes Tryz.prog) (ds++gs)).all (·≤reachBytes)=true) (hL:laidMetH Tryz.prog Rows.binaryCutRow.laid W) (hS:W.ShapedOpen Tryz.prog) :
  Calls Tryz.prog 8 args W fun e W'=>∃v,e = .returned v∧Rows.binaryCutSpec.post enc Tryz.prog Tryz.f8 false true false false W args v W':=by
 refine i9 (B:=reachBytes) (s:=Rows.binaryCutSpec) (f:=Tryz.f8) (tb:=4) [my,.int .i64] ?_ yh ?_ rfl ?_ (by kernel_rfl) (by kernel_rfl) (YM) W base args ds gs before (y7 hL hS) hval hW (uI hw)
 ·rw [Tryz.params8];exact ⟨⟨Lh,by kernel_rfl⟩,⟨ajN,by kernel_rfl⟩,trivial⟩
 ·rw [Tryz.params8];exact FY
 ·intro ds h
  match ds,h with
  | [d0,d1],_=>exact ⟨rfl,rfl,rfl⟩
theorem En (os:Os):laidMet Tryz.prog Rows.binaryCutRow.laid ((dk os).forCall (fun _ _=>0) ⟨#[],#[.agg #[.slice none 0 0,.slice none 0 0,.slice none 0 0,.slice none 0 0,.slice none 0 0,.slice none 0 0,.slice none 0 0,.bool false,.int .i64 0,.slice none 0 0,.slice none 0 0,.slice none 0 0],.int .i64 0],[]⟩).memory :=
 laidMet_laidAll _ (by kernel_rfl) (by kernel_rfl)
theorem Cp (os:Os) {H:Type} (enc:TypeId×Value→H):∃places,DataW.whole enc Tryz.prog ((dk os).forCall (fun _ _=>0) ⟨#[],#[.agg #[.slice none 0 0,.slice none 0 0,.slice none 0 0,.slice none 0 0,.slice none 0 0,.slice none 0 0,.slice none 0 0,.bool false,.int .i64 0,.slice none 0 0,.slice none 0 0,.slice none 0 0],.int .i64 0],[]⟩).memory Tryz.f8.params.toList Rows.binaryCutSpec.vars false #[.agg #[.slice none 0 0,.slice none 0 0,.slice none 0 0,.slice none 0 0,.slice none 0 0,.slice none 0 0,.slice none 0 0,.bool false,.int .i64 0,.slice none 0 0,.slice none 0 0,.slice none 0 0],.int .i64 0].toList 8=some ([.agg [.nil,.nil,.nil,.nil,.nil,.nil,.nil,.lit (.bool false),.lit (.int .i64 0),.nil,.nil,.nil],.lit (.int .i64 0)],[],places) :=
 ⟨[],by kernel_rfl⟩
theorem zZ (os:Os) (started:os.Started) (H:Type) (enc:TypeId×Value→H) (F:Stop.Interp) :
  ReturnsInHanded {} Tryz.checked os 8 .any ((OpenSpec.ofChange Rows.binaryCutSpec).preRow enc Tryz.prog Tryz.f8 Rows.binaryCutRow.domain false Rows.binaryCutRow.laid) (((OpenSpec.ofChange Rows.binaryCutSpec).at F).post enc Tryz.prog Tryz.f8 false true false false):=by
 obtain ⟨places,hx⟩:=Cp os enc
 refine returnsInHanded_of_row (C:=Tryz.checked) (s:=OpenSpec.ofChange Rows.binaryCutSpec) own started (by kernel_rfl) Tryz.func8
  (witness_row_atRef (enc:=enc) (C:=Tryz.checked) false (dk os) #[.agg #[.slice none 0 0,.slice none 0 0,.slice none 0 0,.slice none 0 0,.slice none 0 0,.slice none 0 0,.slice none 0 0,.bool false,.int .i64 0,.slice none 0 0,.slice none 0 0,.slice none 0 0],.int .i64 0] (World.laidAll_os _ _ _) (by kernel_rfl) (by kernel_rfl) (by kernel_rfl)
   (OpenSpec.preRow_of_cond 8 hx (by kernel_rfl) (fun k hk=>by cases hk) (by kernel_rfl) (En os))) ?_
 intro W base args ds gs before hval hW _ _ hw hL hS _
 exact xe H enc W base args ds gs before hval hW hw hL hS
theorem Fw:(Rows.binaryCutRow.wf (OpenSpec.ofChange Rows.binaryCutSpec))=true:=by kernel_rfl
theorem Fx:(laidOutB Tryz.prog)=true:=by kernel_rfl
theorem Fy:(mapsRowed Tryz.prog)=true:=by kernel_rfl
theorem Fz:(Tryz.f8.params.all (Tryz.prog.readableRec ·))=true:=by kernel_rfl
theorem FA:(namedTie Tryz.prog Rows.binaryCutRow.named Rows.binaryCutSpec.vars)=true:=by kernel_rfl
theorem FB:((Rows.binaryCutRow.stops==[]))=true:=by kernel_rfl
theorem FC:((Tryz.prog.stops==[]))=true:=by kernel_rfl
theorem FD:((Rows.binaryCutRow.knobs==[]))=true:=by kernel_rfl
theorem FE:((Tryz.prog.stopKnobs==[]))=true:=by kernel_rfl
theorem CD:((Rows.binaryCutRow.inPlace==Tryz.prog.inPlace 8))=true:=by kernel_rfl
theorem CE:((Rows.binaryCutRow.unfollowed==Tryz.prog.unfollowed 8))=true:=by kernel_rfl
theorem CF:((Rows.binaryCutRow.recurses==Tryz.prog.recurses 8))=true:=by kernel_rfl
theorem CG:((Rows.binaryCutRow.named==Tryz.prog.varsNamed 8))=true:=by kernel_rfl
theorem CH:((Rows.binaryCutRow.maps==(Tryz.f8.params.toList++Rows.binaryCutSpec.plain.varTypes Tryz.prog).any (Tryz.prog.mapsRec ·)))=true:=by kernel_rfl
theorem CI:((Rows.binaryCutRow.ifaces==(Tryz.f8.params.toList++Rows.binaryCutSpec.plain.varTypes Tryz.prog).any (Tryz.prog.ifacesRec ·)))=true:=by kernel_rfl
theorem CJ:((Rows.binaryCutRow.mapsOut==Tryz.prog.mapsAmong Tryz.f8.resultTypes.toList))=true:=by kernel_rfl
theorem CK:((Rows.binaryCutRow.loops==(Tryz.f8.params.toList++Rows.binaryCutSpec.plain.varTypes Tryz.prog).any (Tryz.prog.loopsFrom ·)))=true:=by kernel_rfl
theorem CN:((Rows.binaryCutRow.wideKeys==(Tryz.f8.params.toList++Rows.binaryCutSpec.plain.varTypes Tryz.prog++Tryz.f8.resultTypes.toList).any (Tryz.prog.wideKeysFrom ·)))=true:=by kernel_rfl
theorem CO:(Rows.binaryCutSpec.vars.all (Tryz.prog.varReadable ·))=true:=by kernel_rfl
theorem CP:(Tryz.f8.resultTypes.all (fun t=>Tryz.prog.readableRec t&&decide (t<Tryz.prog.types.size)))=true:=by kernel_rfl
theorem CQ:((Rows.binaryCutRow.ifacesOut==Tryz.f8.resultTypes.toList.any (Tryz.prog.ifacesRec ·)))=true:=by kernel_rfl
theorem CR:((Rows.binaryCutRow.loopsOut==Tryz.f8.resultTypes.toList.any (Tryz.prog.loopsFrom ·)))=true:=by kernel_rfl
theorem CS:((Rows.binaryCutRow.plainKeys==Tryz.prog.plainKeys))=true:=by kernel_rfl
theorem CU:(Rows.binaryCutRow.shortTexts.isNone)=true:=by kernel_rfl
theorem CV:(Tryz.prog.stopsHeard)=true:=by kernel_rfl
theorem CW:(Tryz.prog.mayEnter)=true:=by kernel_rfl
theorem CX:((Rows.binaryCutRow.lifted==Tryz.prog.liftsFinal))=true:=by kernel_rfl
theorem CY:((Tryz.prog.make==some Rows.binaryCutRow.make))=true:=by kernel_rfl
theorem CZ:((Rows.binaryCutRow.kinds==(if Rows.binaryCutRow.domain.isEmpty then [] else Tryz.f8.params.toList.map fun t=>match Tryz.prog.underlying t with | some (.int k)=>some k | _=>none)))=true:=by kernel_rfl
theorem C0:((Rows.binaryCutRow.pinned==Rows.binaryCutRow.pinnedBy))=true:=by kernel_rfl
theorem C_:((Rows.binaryCutRow.veiled==(Tryz.f8.params.toList++Rows.binaryCutSpec.plain.varTypes Tryz.prog++Tryz.f8.resultTypes.toList).any (Tryz.prog.veiledRec ·)))=true:=by kernel_rfl
theorem Db:(Rows.binaryCutRow.veiledFits Tryz.prog Tryz.f8.params.toList (Tryz.f8.params.toList++Rows.binaryCutSpec.plain.varTypes Tryz.prog++Tryz.f8.resultTypes.toList))=true:=by kernel_rfl
theorem aI {a b:Bool} (h:a=true) (g:b=true):(a&&b)=true:=by rw [h,g];rfl
theorem zJ:joinedFacts Tryz.prog 8 Tryz.f8 Rows.binaryCutSpec Rows.binaryCutRow=true :=
 aI (aI (aI (aI (aI (aI (aI (aI (aI (aI (aI (aI (aI (aI (aI (aI (aI (aI (aI (aI (aI (aI (aI (aI (aI (aI (aI (aI (aI (aI (aI Fw Fx) Fy) Fz) FA) FB) FC) FD) FE) CD) CE) CF) CG) CH) CI) CJ) CK) CN) CO) CP) CQ) CR) CS) CU) CV) CW) CX) CY) CZ) C0) C_) Db
theorem Fh:Rows.BinaryCutSaid :=
 OpenClaim.holds_of_cond 8 Tryz.f8 rfl rfl rfl rfl rfl rfl rfl ⟨rfl,rfl,rfl,rfl,rfl⟩ rfl rfl rfl rfl rfl (by kernel_rfl) Tryz.func8 zJ
  (of_decide_eq_true (by kernel_rfl)) (by unfold Func.isWrapper;first | (rw [ap (by decide +kernel)];kernel_rfl) | (rw [ah (by decide +kernel)];exact ⟨rfl,rfl⟩))
  (fun os started H enc _ F=>by rw [OpenClaim.pre_eq_preRow];exact zZ os started H enc F)
theorem Cl (f:FuncId) (fn:Func) (hf:Tryz.pinned.checked.prog.funcNamed Rows.binaryCutRow.func=some f) (hfn:Tryz.pinned.checked.prog.funcs[f]? = some fn) :
  false=Tryz.pinned.checked.prog.looks []∧∀(j:Nat) t,fn.params[j]? = some t→Tryz.pinned.checked.prog.wantsStandIn t=false:=by
 obtain rfl:f=8:=Option.some.inj ((show Tryz.prog.funcNamed Rows.binaryCutRow.func=some 8 by kernel_rfl).symm.trans hf) |>.symm
 obtain rfl:fn=Tryz.f8:=(Option.some.inj (Tryz.func8.symm.trans hfn)).symm
 refine ⟨by kernel_rfl,fun j t ht=>?_⟩
 rw [Tryz.params8] at ht
 have hm:=Array.mem_of_getElem? ht
 simp only [List.mem_toArray,dc,List.not_mem_nil,or_false] at hm
 rcases hm with rfl | rfl
 ·exact (show Tryz.prog.wantsStandIn 33=false by kernel_rfl)
 ·exact (show Tryz.prog.wantsStandIn 3=false by kernel_rfl)
theorem binaryCut_holds:Rows.BinaryCutCardSaid :=
 Claim7.holds_tied_plain_at .later [] _ _ _ _ Fh (fun _ h=>by cases h) (by kernel_rfl) (fun _ h=>by cases h) binaryCut_row_tie rfl ⟨rfl,rfl⟩ (by kernel_rfl) rfl Cl (ye Sq _ rfl)
end Go.Proofs.YtdfofedlbljnhaaGreatDoor