import Derived.Test.YtdfofedlbljnhaaGreatDoorQv
set_option linter.all false
set_option maxRecDepth 100000
namespace Go.Proofs.YtdfofedlbljnhaaGreatDoor
open Go Go.Mw
open Go.ChangeShapes Go.WideShapes Go.ChangeAt Go.RowKit
theorem Uk (xs:List AV) (h:aS Ty.okV [my] xs) (hb:aS (Ty.bdV reachBytes) [my] xs):ao Tryz.prog 4 xs (.bool true):=by
 obtain ⟨x,rfl,h0⟩:=acH h
 obtain ⟨g0,_⟩:=hb
 obtain ⟨m,hm,_,bm⟩:=UK DV rfl h0
 replace bm:=bm _ g0
 exact jl (Vy m (La (by decide) bm) (EU bm)) ⟨hm,trivial⟩
theorem Eu:∀t∈[33],Tryz.prog.readableRec t=true∧t<Tryz.prog.types.size:=by
 intro t ht
 simp only [dc,List.not_mem_nil,or_false] at ht
 rcases ht with rfl
 all_goals exact ⟨by kernel_rfl,of_decide_eq_true (by kernel_rfl)⟩
theorem vG (H:Type) (enc:TypeId×Value→H) (W:World) (base:Nat) (args:Array Value) (ds gs:List (DataW H)) (before:List MemPlace)
  (hval:∀(j:Nat) t v,Tryz.f4.params[j]? = some t→args[j]? = some v→Value.okWide Tryz.prog W .any base t v)
  (hW:DataW.Whole enc Tryz.prog Tryz.f4.params.toList Rows.binaryBackSpec.vars false W args.toList ds gs before) (hw:(DataW.weightsEach Tryz.prog (Tryz.f4.params.toList++(OpenSpec.ofChange Rows.binaryBackSpec).bare.plain.varTypes Tryz.prog) (ds++gs)).all (·≤reachBytes)=true) (hL:laidMetH Tryz.prog Rows.binaryBackRow.laid W) (hS:W.ShapedOpen Tryz.prog) :
  Calls Tryz.prog 4 args W fun e W'=>∃v,e = .returned v∧Rows.binaryBackSpec.post enc Tryz.prog Tryz.f4 false true false false W args v W':=by
 refine i9 (B:=reachBytes) (s:=Rows.binaryBackSpec) (f:=Tryz.f4) (tb:=4) [my] ?_ yh ?_ rfl ?_ (by kernel_rfl) (by kernel_rfl) (Uk) W base args ds gs before (y7 hL hS) hval hW (uI hw)
 ·rw [Tryz.params4];exact ⟨⟨Lh,by kernel_rfl⟩,trivial⟩
 ·rw [Tryz.params4];exact Eu
 ·intro ds h
  match ds,h with
  | [d0],_=>exact ⟨rfl,rfl,rfl⟩
theorem B6 (os:Os):laidMet Tryz.prog Rows.binaryBackRow.laid ((dk os).forCall (fun _ _=>0) ⟨#[],#[.agg #[.slice none 0 0,.slice none 0 0,.slice none 0 0,.slice none 0 0,.slice none 0 0,.slice none 0 0,.slice none 0 0,.bool false,.int .i64 0,.slice none 0 0,.slice none 0 0,.slice none 0 0]],[]⟩).memory :=
 laidMet_laidAll _ (by kernel_rfl) (by kernel_rfl)
theorem Am (os:Os) {H:Type} (enc:TypeId×Value→H):∃places,DataW.whole enc Tryz.prog ((dk os).forCall (fun _ _=>0) ⟨#[],#[.agg #[.slice none 0 0,.slice none 0 0,.slice none 0 0,.slice none 0 0,.slice none 0 0,.slice none 0 0,.slice none 0 0,.bool false,.int .i64 0,.slice none 0 0,.slice none 0 0,.slice none 0 0]],[]⟩).memory Tryz.f4.params.toList Rows.binaryBackSpec.vars false #[.agg #[.slice none 0 0,.slice none 0 0,.slice none 0 0,.slice none 0 0,.slice none 0 0,.slice none 0 0,.slice none 0 0,.bool false,.int .i64 0,.slice none 0 0,.slice none 0 0,.slice none 0 0]].toList 8=some ([.agg [.nil,.nil,.nil,.nil,.nil,.nil,.nil,.lit (.bool false),.lit (.int .i64 0),.nil,.nil,.nil]],[],places) :=
 ⟨[],by kernel_rfl⟩
theorem yj (os:Os) (started:os.Started) (H:Type) (enc:TypeId×Value→H) (F:Stop.Interp) :
  ReturnsInHanded {} Tryz.checked os 4 .any ((OpenSpec.ofChange Rows.binaryBackSpec).preRow enc Tryz.prog Tryz.f4 Rows.binaryBackRow.domain false Rows.binaryBackRow.laid) (((OpenSpec.ofChange Rows.binaryBackSpec).at F).post enc Tryz.prog Tryz.f4 false true false false):=by
 obtain ⟨places,hx⟩:=Am os enc
 refine returnsInHanded_of_row (C:=Tryz.checked) (s:=OpenSpec.ofChange Rows.binaryBackSpec) own started (by kernel_rfl) Tryz.func4
  (witness_row_atRef (enc:=enc) (C:=Tryz.checked) false (dk os) #[.agg #[.slice none 0 0,.slice none 0 0,.slice none 0 0,.slice none 0 0,.slice none 0 0,.slice none 0 0,.slice none 0 0,.bool false,.int .i64 0,.slice none 0 0,.slice none 0 0,.slice none 0 0]] (World.laidAll_os _ _ _) (by kernel_rfl) (by kernel_rfl) (by kernel_rfl)
   (OpenSpec.preRow_of_cond 8 hx (by kernel_rfl) (fun k hk=>by cases hk) (by kernel_rfl) (B6 os))) ?_
 intro W base args ds gs before hval hW _ _ hw hL hS _
 exact vG H enc W base args ds gs before hval hW hw hL hS
theorem Ct:(Rows.binaryBackRow.wf (OpenSpec.ofChange Rows.binaryBackSpec))=true:=by kernel_rfl
theorem Cv:(laidOutB Tryz.prog)=true:=by kernel_rfl
theorem Cw:(mapsRowed Tryz.prog)=true:=by kernel_rfl
theorem Cx:(Tryz.f4.params.all (Tryz.prog.readableRec ·))=true:=by kernel_rfl
theorem Cy:(namedTie Tryz.prog Rows.binaryBackRow.named Rows.binaryBackSpec.vars)=true:=by kernel_rfl
theorem Cz:((Rows.binaryBackRow.stops==[]))=true:=by kernel_rfl
theorem CA:((Tryz.prog.stops==[]))=true:=by kernel_rfl
theorem CB:((Rows.binaryBackRow.knobs==[]))=true:=by kernel_rfl
theorem CC:((Tryz.prog.stopKnobs==[]))=true:=by kernel_rfl
theorem AG:((Rows.binaryBackRow.inPlace==Tryz.prog.inPlace 4))=true:=by kernel_rfl
theorem AH:((Rows.binaryBackRow.unfollowed==Tryz.prog.unfollowed 4))=true:=by kernel_rfl
theorem AI:((Rows.binaryBackRow.recurses==Tryz.prog.recurses 4))=true:=by kernel_rfl
theorem AJ:((Rows.binaryBackRow.named==Tryz.prog.varsNamed 4))=true:=by kernel_rfl
theorem AK:((Rows.binaryBackRow.maps==(Tryz.f4.params.toList++Rows.binaryBackSpec.plain.varTypes Tryz.prog).any (Tryz.prog.mapsRec ·)))=true:=by kernel_rfl
theorem AL:((Rows.binaryBackRow.ifaces==(Tryz.f4.params.toList++Rows.binaryBackSpec.plain.varTypes Tryz.prog).any (Tryz.prog.ifacesRec ·)))=true:=by kernel_rfl
theorem AM:((Rows.binaryBackRow.mapsOut==Tryz.prog.mapsAmong Tryz.f4.resultTypes.toList))=true:=by kernel_rfl
theorem AN:((Rows.binaryBackRow.loops==(Tryz.f4.params.toList++Rows.binaryBackSpec.plain.varTypes Tryz.prog).any (Tryz.prog.loopsFrom ·)))=true:=by kernel_rfl
theorem AO:((Rows.binaryBackRow.wideKeys==(Tryz.f4.params.toList++Rows.binaryBackSpec.plain.varTypes Tryz.prog++Tryz.f4.resultTypes.toList).any (Tryz.prog.wideKeysFrom ·)))=true:=by kernel_rfl
theorem AP:(Rows.binaryBackSpec.vars.all (Tryz.prog.varReadable ·))=true:=by kernel_rfl
theorem AQ:(Tryz.f4.resultTypes.all (fun t=>Tryz.prog.readableRec t&&decide (t<Tryz.prog.types.size)))=true:=by kernel_rfl
theorem AR:((Rows.binaryBackRow.ifacesOut==Tryz.f4.resultTypes.toList.any (Tryz.prog.ifacesRec ·)))=true:=by kernel_rfl
theorem AS:((Rows.binaryBackRow.loopsOut==Tryz.f4.resultTypes.toList.any (Tryz.prog.loopsFrom ·)))=true:=by kernel_rfl
theorem AT:((Rows.binaryBackRow.plainKeys==Tryz.prog.plainKeys))=true:=by kernel_rfl
theorem AU:(Rows.binaryBackRow.shortTexts.isNone)=true:=by kernel_rfl
theorem AW:(Tryz.prog.stopsHeard)=true:=by kernel_rfl
theorem AX:(Tryz.prog.mayEnter)=true:=by kernel_rfl
theorem AY:((Rows.binaryBackRow.lifted==Tryz.prog.liftsFinal))=true:=by kernel_rfl
theorem AZ:((Tryz.prog.make==some Rows.binaryBackRow.make))=true:=by kernel_rfl
theorem A0:((Rows.binaryBackRow.kinds==(if Rows.binaryBackRow.domain.isEmpty then [] else Tryz.f4.params.toList.map fun t=>match Tryz.prog.underlying t with | some (.int k)=>some k | _=>none)))=true:=by kernel_rfl
theorem A3:((Rows.binaryBackRow.pinned==Rows.binaryBackRow.pinnedBy))=true:=by kernel_rfl
theorem A4:((Rows.binaryBackRow.veiled==(Tryz.f4.params.toList++Rows.binaryBackSpec.plain.varTypes Tryz.prog++Tryz.f4.resultTypes.toList).any (Tryz.prog.veiledRec ·)))=true:=by kernel_rfl
theorem A5:(Rows.binaryBackRow.veiledFits Tryz.prog Tryz.f4.params.toList (Tryz.f4.params.toList++Rows.binaryBackSpec.plain.varTypes Tryz.prog++Tryz.f4.resultTypes.toList))=true:=by kernel_rfl
theorem aI {a b:Bool} (h:a=true) (g:b=true):(a&&b)=true:=by rw [h,g];rfl
theorem x6:joinedFacts Tryz.prog 4 Tryz.f4 Rows.binaryBackSpec Rows.binaryBackRow=true :=
 aI (aI (aI (aI (aI (aI (aI (aI (aI (aI (aI (aI (aI (aI (aI (aI (aI (aI (aI (aI (aI (aI (aI (aI (aI (aI (aI (aI (aI (aI (aI Ct Cv) Cw) Cx) Cy) Cz) CA) CB) CC) AG) AH) AI) AJ) AK) AL) AM) AN) AO) AP) AQ) AR) AS) AT) AU) AW) AX) AY) AZ) A0) A3) A4) A5
theorem Cr:Rows.BinaryBackSaid :=
 OpenClaim.holds_of_cond 4 Tryz.f4 rfl rfl rfl rfl rfl rfl rfl ⟨rfl,rfl,rfl,rfl,rfl⟩ rfl rfl rfl rfl rfl (by kernel_rfl) Tryz.func4 x6
  (of_decide_eq_true (by kernel_rfl)) (by unfold Func.isWrapper;first | (rw [ap (by decide +kernel)];kernel_rfl) | (rw [ah (by decide +kernel)];exact ⟨rfl,rfl⟩))
  (fun os started H enc _ F=>by rw [OpenClaim.pre_eq_preRow];exact yj os started H enc F)
theorem Ak (f:FuncId) (fn:Func) (hf:Tryz.pinned.checked.prog.funcNamed Rows.binaryBackRow.func=some f) (hfn:Tryz.pinned.checked.prog.funcs[f]? = some fn) :
  false=Tryz.pinned.checked.prog.looks []∧∀(j:Nat) t,fn.params[j]? = some t→Tryz.pinned.checked.prog.wantsStandIn t=false:=by
 obtain rfl:f=4:=Option.some.inj ((show Tryz.prog.funcNamed Rows.binaryBackRow.func=some 4 by kernel_rfl).symm.trans hf) |>.symm
 obtain rfl:fn=Tryz.f4:=(Option.some.inj (Tryz.func4.symm.trans hfn)).symm
 refine ⟨by kernel_rfl,fun j t ht=>?_⟩
 rw [Tryz.params4] at ht
 have hm:=Array.mem_of_getElem? ht
 simp only [List.mem_toArray,dc,List.not_mem_nil,or_false] at hm
 rcases hm with rfl
 ·exact (show Tryz.prog.wantsStandIn 33=false by kernel_rfl)
theorem binaryBack_holds:Rows.BinaryBackCardSaid :=
 Claim7.holds_tied_plain_at .later [] _ _ _ _ Cr (fun _ h=>by cases h) (by kernel_rfl) (fun _ h=>by cases h) binaryBack_row_tie rfl ⟨rfl,rfl⟩ (by kernel_rfl) rfl Ak (ye Sq _ rfl)
end Go.Proofs.YtdfofedlbljnhaaGreatDoor