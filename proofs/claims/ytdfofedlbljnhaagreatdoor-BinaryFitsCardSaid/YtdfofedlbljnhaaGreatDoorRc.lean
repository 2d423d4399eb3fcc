import Derived.Test.YtdfofedlbljnhaaGreatDoorQv
set_option linter.all false
set_option maxRecDepth 100000
namespace Go.Proofs.YtdfofedlbljnhaaGreatDoor
open Go Go.Mw
open Go.ChangeShapes Go.WideShapes Go.ChangeAt Go.RowKit
theorem Ul (xs:List AV) (h:aS Ty.okV [my,my] xs) (hb:aS (Ty.bdV reachBytes) [my,my] xs):ao Tryz.prog 6 xs (.bool true):=by
 obtain ⟨x,y,rfl,h0,h1⟩:=aga h
 obtain ⟨g0,g1,_⟩:=hb
 obtain ⟨m,hm,_,bm⟩:=UK DV rfl h0
 replace bm:=bm _ g0
 obtain ⟨n,hn,_,bn⟩:=UK DV rfl h1
 replace bn:=bn _ g1
 exact jl (Vz m n (La (by decide) bm) (EU bm) (La (by decide) bn) (EU bn)) ⟨hm,hn,trivial⟩
theorem Ev:∀t∈[33,33],Tryz.prog.readableRec t=true∧t<Tryz.prog.types.size:=by
 intro t ht
 simp only [dc,List.not_mem_nil,or_false] at ht
 rcases ht with rfl | rfl
 all_goals exact ⟨by kernel_rfl,of_decide_eq_true (by kernel_rfl)⟩
theorem vH (H:Type) (enc:TypeId×Value→H) (W:World) (base:Nat) (args:Array Value) (ds gs:List (DataW H)) (before:List MemPlace)
  (hval:∀(j:Nat) t v,Tryz.f6.params[j]? = some t→args[j]? = some v→Value.okWide Tryz.prog W .any base t v)
  (hW:DataW.Whole enc Tryz.prog Tryz.f6.params.toList Rows.binaryFitsSpec.vars false W args.toList ds gs before) (hw:(DataW.weightsEach Tryz.prog (Tryz.f6.params.toList++(OpenSpec.ofChange Rows.binaryFitsSpec).bare.plain.varTypes Tryz.prog) (ds++gs)).all (·≤reachBytes)=true) (hL:laidMetH Tryz.prog Rows.binaryFitsRow.laid W) (hS:W.ShapedOpen Tryz.prog) :
  Calls Tryz.prog 6 args W fun e W'=>∃v,e = .returned v∧Rows.binaryFitsSpec.post enc Tryz.prog Tryz.f6 false true false false W args v W':=by
 refine i9 (B:=reachBytes) (s:=Rows.binaryFitsSpec) (f:=Tryz.f6) (tb:=4) [my,my] ?_ yh ?_ rfl ?_ (by kernel_rfl) (by kernel_rfl) (Ul) W base args ds gs before (y7 hL hS) hval hW (uI hw)
 ·rw [Tryz.params6];exact ⟨⟨Lh,by kernel_rfl⟩,⟨Lh,by kernel_rfl⟩,trivial⟩
 ·rw [Tryz.params6];exact Ev
 ·intro ds h
  match ds,h with
  | [d0,d1],_=>exact ⟨rfl,rfl,rfl⟩
theorem B7 (os:Os):laidMet Tryz.prog Rows.binaryFitsRow.laid ((dk os).forCall (fun _ _=>0) ⟨#[],#[.agg #[.slice none 0 0,.slice none 0 0,.slice none 0 0,.slice none 0 0,.slice none 0 0,.slice none 0 0,.slice none 0 0,.bool false,.int .i64 0,.slice none 0 0,.slice none 0 0,.slice none 0 0],.agg #[.slice none 0 0,.slice none 0 0,.slice none 0 0,.slice none 0 0,.slice none 0 0,.slice none 0 0,.slice none 0 0,.bool false,.int .i64 0,.slice none 0 0,.slice none 0 0,.slice none 0 0]],[]⟩).memory :=
 laidMet_laidAll _ (by kernel_rfl) (by kernel_rfl)
theorem An (os:Os) {H:Type} (enc:TypeId×Value→H):∃places,DataW.whole enc Tryz.prog ((dk os).forCall (fun _ _=>0) ⟨#[],#[.agg #[.slice none 0 0,.slice none 0 0,.slice none 0 0,.slice none 0 0,.slice none 0 0,.slice none 0 0,.slice none 0 0,.bool false,.int .i64 0,.slice none 0 0,.slice none 0 0,.slice none 0 0],.agg #[.slice none 0 0,.slice none 0 0,.slice none 0 0,.slice none 0 0,.slice none 0 0,.slice none 0 0,.slice none 0 0,.bool false,.int .i64 0,.slice none 0 0,.slice none 0 0,.slice none 0 0]],[]⟩).memory Tryz.f6.params.toList Rows.binaryFitsSpec.vars false #[.agg #[.slice none 0 0,.slice none 0 0,.slice none 0 0,.slice none 0 0,.slice none 0 0,.slice none 0 0,.slice none 0 0,.bool false,.int .i64 0,.slice none 0 0,.slice none 0 0,.slice none 0 0],.agg #[.slice none 0 0,.slice none 0 0,.slice none 0 0,.slice none 0 0,.slice none 0 0,.slice none 0 0,.slice none 0 0,.bool false,.int .i64 0,.slice none 0 0,.slice none 0 0,.slice none 0 0]].toList 8=some ([.agg [.nil,.nil,.nil,.nil,.nil,.nil,.nil,.lit (.bool false),.lit (.int .i64 0),.nil,.nil,.nil],.agg [.nil,.nil,.nil,.nil,.nil,.nil,.nil,.lit (.bool false),.lit (.int .i64 0),.nil,.nil,.nil]],[],places) :=
 ⟨[],by kernel_rfl⟩
theorem yk (os:Os) (started:os.Started) (H:Type) (enc:TypeId×Value→H) (F:Stop.Interp) :
  ReturnsInHanded {} Tryz.checked os 6 .any ((OpenSpec.ofChange Rows.binaryFitsSpec).preRow enc Tryz.prog Tryz.f6 Rows.binaryFitsRow.domain false Rows.binaryFitsRow.laid) (((OpenSpec.ofChange Rows.binaryFitsSpec).at F).post enc Tryz.prog Tryz.f6 false true false false):=by
 obtain ⟨places,hx⟩:=An os enc
 refine returnsInHanded_of_row (C:=Tryz.checked) (s:=OpenSpec.ofChange Rows.binaryFitsSpec) own started (by kernel_rfl) Tryz.func6
  (witness_row_atRef (enc:=enc) (C:=Tryz.checked) false (dk os) #[.agg #[.slice none 0 0,.slice none 0 0,.slice none 0 0,.slice none 0 0,.slice none 0 0,.slice none 0 0,.slice none 0 0,.bool false,.int .i64 0,.slice none 0 0,.slice none 0 0,.slice none 0 0],.agg #[.slice none 0 0,.slice none 0 0,.slice none 0 0,.slice none 0 0,.slice none 0 0,.slice none 0 0,.slice none 0 0,.bool false,.int .i64 0,.slice none 0 0,.slice none 0 0,.slice none 0 0]] (World.laidAll_os _ _ _) (by kernel_rfl) (by kernel_rfl) (by kernel_rfl)
   (OpenSpec.preRow_of_cond 8 hx (by kernel_rfl) (fun k hk=>by cases hk) (by kernel_rfl) (B7 os))) ?_
 intro W base args ds gs before hval hW _ _ hw hL hS _
 exact vH H enc W base args ds gs before hval hW hw hL hS
theorem Dd:(Rows.binaryFitsRow.wf (OpenSpec.ofChange Rows.binaryFitsSpec))=true:=by kernel_rfl
theorem De:(laidOutB Tryz.prog)=true:=by kernel_rfl
theorem Df:(mapsRowed Tryz.prog)=true:=by kernel_rfl
theorem Dg:(Tryz.f6.params.all (Tryz.prog.readableRec ·))=true:=by kernel_rfl
theorem Dh:(namedTie Tryz.prog Rows.binaryFitsRow.named Rows.binaryFitsSpec.vars)=true:=by kernel_rfl
theorem Di:((Rows.binaryFitsRow.stops==[]))=true:=by kernel_rfl
theorem Dj:((Tryz.prog.stops==[]))=true:=by kernel_rfl
theorem Dk:((Rows.binaryFitsRow.knobs==[]))=true:=by kernel_rfl
theorem Dl:((Tryz.prog.stopKnobs==[]))=true:=by kernel_rfl
theorem A6:((Rows.binaryFitsRow.inPlace==Tryz.prog.inPlace 6))=true:=by kernel_rfl
theorem A7:((Rows.binaryFitsRow.unfollowed==Tryz.prog.unfollowed 6))=true:=by kernel_rfl
theorem A8:((Rows.binaryFitsRow.recurses==Tryz.prog.recurses 6))=true:=by kernel_rfl
theorem A9:((Rows.binaryFitsRow.named==Tryz.prog.varsNamed 6))=true:=by kernel_rfl
theorem A_:((Rows.binaryFitsRow.maps==(Tryz.f6.params.toList++Rows.binaryFitsSpec.plain.varTypes Tryz.prog).any (Tryz.prog.mapsRec ·)))=true:=by kernel_rfl
theorem Ba:((Rows.binaryFitsRow.ifaces==(Tryz.f6.params.toList++Rows.binaryFitsSpec.plain.varTypes Tryz.prog).any (Tryz.prog.ifacesRec ·)))=true:=by kernel_rfl
theorem Bb:((Rows.binaryFitsRow.mapsOut==Tryz.prog.mapsAmong Tryz.f6.resultTypes.toList))=true:=by kernel_rfl
theorem Bc:((Rows.binaryFitsRow.loops==(Tryz.f6.params.toList++Rows.binaryFitsSpec.plain.varTypes Tryz.prog).any (Tryz.prog.loopsFrom ·)))=true:=by kernel_rfl
theorem Bd:((Rows.binaryFitsRow.wideKeys==(Tryz.f6.params.toList++Rows.binaryFitsSpec.plain.varTypes Tryz.prog++Tryz.f6.resultTypes.toList).any (Tryz.prog.wideKeysFrom ·)))=true:=by kernel_rfl
theorem Be:(Rows.binaryFitsSpec.vars.all (Tryz.prog.varReadable ·))=true:=by kernel_rfl
theorem Bf:(Tryz.f6.resultTypes.all (fun t=>Tryz.prog.readableRec t&&decide (t<Tryz.prog.types.size)))=true:=by kernel_rfl
theorem Bg:((Rows.binaryFitsRow.ifacesOut==Tryz.f6.resultTypes.toList.any (Tryz.prog.ifacesRec ·)))=true:=by kernel_rfl
theorem Bh:((Rows.binaryFitsRow.loopsOut==Tryz.f6.resultTypes.toList.any (Tryz.prog.loopsFrom ·)))=true:=by kernel_rfl
theorem Bi:((Rows.binaryFitsRow.plainKeys==Tryz.prog.plainKeys))=true:=by kernel_rfl
theorem Bj:(Rows.binaryFitsRow.shortTexts.isNone)=true:=by kernel_rfl
theorem Bl:(Tryz.prog.stopsHeard)=true:=by kernel_rfl
theorem Bm:(Tryz.prog.mayEnter)=true:=by kernel_rfl
theorem Bn:((Rows.binaryFitsRow.lifted==Tryz.prog.liftsFinal))=true:=by kernel_rfl
theorem Bo:((Tryz.prog.make==some Rows.binaryFitsRow.make))=true:=by kernel_rfl
theorem Bp:((Rows.binaryFitsRow.kinds==(if Rows.binaryFitsRow.domain.isEmpty then [] else Tryz.f6.params.toList.map fun t=>match Tryz.prog.underlying t with | some (.int k)=>some k | _=>none)))=true:=by kernel_rfl
theorem Bq:((Rows.binaryFitsRow.pinned==Rows.binaryFitsRow.pinnedBy))=true:=by kernel_rfl
theorem Br:((Rows.binaryFitsRow.veiled==(Tryz.f6.params.toList++Rows.binaryFitsSpec.plain.varTypes Tryz.prog++Tryz.f6.resultTypes.toList).any (Tryz.prog.veiledRec ·)))=true:=by kernel_rfl
theorem Bs:(Rows.binaryFitsRow.veiledFits Tryz.prog Tryz.f6.params.toList (Tryz.f6.params.toList++Rows.binaryFitsSpec.plain.varTypes Tryz.prog++Tryz.f6.resultTypes.toList))=true:=by kernel_rfl
theorem aI {a b:Bool} (h:a=true) (g:b=true):(a&&b)=true:=by rw [h,g];rfl
theorem x7:joinedFacts Tryz.prog 6 Tryz.f6 Rows.binaryFitsSpec Rows.binaryFitsRow=true :=
 aI (aI (aI (aI (aI (aI (aI (aI (aI (aI (aI (aI (aI (aI (aI (aI (aI (aI (aI (aI (aI (aI (aI (aI (aI (aI (aI (aI (aI (aI (aI Dd De) Df) Dg) Dh) Di) Dj) Dk) Dl) A6) A7) A8) A9) A_) Ba) Bb) Bc) Bd) Be) Bf) Bg) Bh) Bi) Bj) Bl) Bm) Bn) Bo) Bp) Bq) Br) Bs
theorem Cs:Rows.BinaryFitsSaid :=
 OpenClaim.holds_of_cond 6 Tryz.f6 rfl rfl rfl rfl rfl rfl rfl ⟨rfl,rfl,rfl,rfl,rfl⟩ rfl rfl rfl rfl rfl (by kernel_rfl) Tryz.func6 x7
  (of_decide_eq_true (by kernel_rfl)) (by unfold Func.isWrapper;first | (rw [ap (by decide +kernel)];kernel_rfl) | (rw [ah (by decide +kernel)];exact ⟨rfl,rfl⟩))
  (fun os started H enc _ F=>by rw [OpenClaim.pre_eq_preRow];exact yk os started H enc F)
theorem Al (f:FuncId) (fn:Func) (hf:Tryz.pinned.checked.prog.funcNamed Rows.binaryFitsRow.func=some f) (hfn:Tryz.pinned.checked.prog.funcs[f]? = some fn) :
  false=Tryz.pinned.checked.prog.looks []∧∀(j:Nat) t,fn.params[j]? = some t→Tryz.pinned.checked.prog.wantsStandIn t=false:=by
 obtain rfl:f=6:=Option.some.inj ((show Tryz.prog.funcNamed Rows.binaryFitsRow.func=some 6 by kernel_rfl).symm.trans hf) |>.symm
 obtain rfl:fn=Tryz.f6:=(Option.some.inj (Tryz.func6.symm.trans hfn)).symm
 refine ⟨by kernel_rfl,fun j t ht=>?_⟩
 rw [Tryz.params6] at ht
 have hm:=Array.mem_of_getElem? ht
 simp only [List.mem_toArray,dc,List.not_mem_nil,or_false] at hm
 rcases hm with rfl | rfl
 ·exact (show Tryz.prog.wantsStandIn 33=false by kernel_rfl)
 ·exact (show Tryz.prog.wantsStandIn 33=false by kernel_rfl)
theorem binaryFits_holds:Rows.BinaryFitsCardSaid :=
 Claim7.holds_tied_plain_at .later [] _ _ _ _ Cs (fun _ h=>by cases h) (by kernel_rfl) (fun _ h=>by cases h) binaryFits_row_tie rfl ⟨rfl,rfl⟩ (by kernel_rfl) rfl Al (ye Sq _ rfl)
end Go.Proofs.YtdfofedlbljnhaaGreatDoor