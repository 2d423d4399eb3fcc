import Derived.Test.YthhglklcaodfmaaGreatDoorQs
set_option linter.all false
set_option maxRecDepth 100000
namespace Go.Proofs.YthhglklcaodfmaaGreatDoor
open Go Go.Mw
open Go.ChangeShapes Go.WideShapes Go.ChangeAt Go.RowKit
theorem FA (xs:List AV) (h:aH Ty.okV [gL,.sl (.int .u8)] xs) (hb:aH (Ty.bdV reachBytes) [gL,.sl (.int .u8)] xs):aj Tryz.prog 4 xs (.bool true):=by
 obtain ⟨x,y,rfl,h0,h1⟩:=aa0 h
 obtain ⟨g0,g1,_⟩:=hb
 obtain ⟨m,hm,_,bm⟩:=LO tw rfl h0
 replace bm:=bm _ g0
 obtain ⟨n,hn,bn,_⟩:=afZ IS h1
 exact cW (Qy m n (AS (by decide) bm)) ⟨hm,hn,trivial⟩
theorem ue:∀t∈[33,40],Tryz.prog.readableRec t=true∧t<Tryz.prog.types.size:=by
 intro t ht
 simp only [bc,List.not_mem_nil,or_false] at ht
 rcases ht with rfl | rfl
 all_goals exact ⟨by kernel_rfl,of_decide_eq_true (by kernel_rfl)⟩
theorem lC (H:Type) (enc:TypeId×Value→H) (W:World) (base:Nat) (args:Array Value) (ds gs:List (DataW H)) (before:List MemPlace)
  (hval:∀(j:Nat) t v,Tryz.f4.params[j]? = some t→args[j]? = some v→Value.okWide Tryz.prog W .any base t v)
  (hW:DataW.Whole enc Tryz.prog Tryz.f4.params.toList Rows.validBytesSpec.vars false W args.toList ds gs before) (hw:(DataW.weightsEach Tryz.prog (Tryz.f4.params.toList++(OpenSpec.ofChange Rows.validBytesSpec).bare.plain.varTypes Tryz.prog) (ds++gs)).all (·≤reachBytes)=true) (hL:laidMetH Tryz.prog Rows.validBytesRow.laid W) (hS:W.ShapedOpen Tryz.prog) :
  Calls Tryz.prog 4 args W fun e W'=>∃v,e = .returned v∧Rows.validBytesSpec.post enc Tryz.prog Tryz.f4 false true false false W args v W':=by
 refine eW (B:=reachBytes) (s:=Rows.validBytesSpec) (f:=Tryz.f4) (tb:=4) [gL,.sl (.int .u8)] ?_ nG ?_ rfl ?_ (by kernel_rfl) (by kernel_rfl) (FA) W base args ds gs before (n_ hL hS) hval hW (k9 hw)
 ·rw [Tryz.params4];exact ⟨⟨AU,by kernel_rfl⟩,⟨abz,by kernel_rfl⟩,trivial⟩
 ·rw [Tryz.params4];exact ue
 ·intro ds h
  match ds,h with
  | [d0,d1],_=>exact ⟨rfl,rfl,rfl⟩
theorem qB (os:Os):laidMet Tryz.prog Rows.validBytesRow.laid ((cB os).forCall (fun _ _=>0) ⟨#[],#[.agg #[.slice none 0 0,.slice none 0 0,.slice none 0 0,.slice none 0 0,.slice none 0 0,.slice none 0 0,.slice none 0 0,.bool false,.int .i64 0,.slice none 0 0,.slice none 0 0,.slice none 0 0],.slice none 0 0],[]⟩).memory :=
 laidMet_laidAll _ (by kernel_rfl) (by kernel_rfl)
theorem o9 (os:Os) {H:Type} (enc:TypeId×Value→H):∃places,DataW.whole enc Tryz.prog ((cB os).forCall (fun _ _=>0) ⟨#[],#[.agg #[.slice none 0 0,.slice none 0 0,.slice none 0 0,.slice none 0 0,.slice none 0 0,.slice none 0 0,.slice none 0 0,.bool false,.int .i64 0,.slice none 0 0,.slice none 0 0,.slice none 0 0],.slice none 0 0],[]⟩).memory Tryz.f4.params.toList Rows.validBytesSpec.vars false #[.agg #[.slice none 0 0,.slice none 0 0,.slice none 0 0,.slice none 0 0,.slice none 0 0,.slice none 0 0,.slice none 0 0,.bool false,.int .i64 0,.slice none 0 0,.slice none 0 0,.slice none 0 0],.slice none 0 0].toList 8=some ([.agg [.nil,.nil,.nil,.nil,.nil,.nil,.nil,.lit (.bool false),.lit (.int .i64 0),.nil,.nil,.nil],.nil],[],places) :=
 ⟨[],by kernel_rfl⟩
theorem nH (os:Os) (started:os.Started) (H:Type) (enc:TypeId×Value→H) (F:Stop.Interp) :
  ReturnsInHanded {} Tryz.checked os 4 .any ((OpenSpec.ofChange Rows.validBytesSpec).preRow enc Tryz.prog Tryz.f4 Rows.validBytesRow.domain false Rows.validBytesRow.laid) (((OpenSpec.ofChange Rows.validBytesSpec).at F).post enc Tryz.prog Tryz.f4 false true false false):=by
 obtain ⟨places,hx⟩:=o9 os enc
 refine returnsInHanded_of_row (C:=Tryz.checked) (s:=OpenSpec.ofChange Rows.validBytesSpec) own started (by kernel_rfl) Tryz.func4
  (witness_row_atRef (enc:=enc) (C:=Tryz.checked) false (cB os) #[.agg #[.slice none 0 0,.slice none 0 0,.slice none 0 0,.slice none 0 0,.slice none 0 0,.slice none 0 0,.slice none 0 0,.bool false,.int .i64 0,.slice none 0 0,.slice none 0 0,.slice none 0 0],.slice none 0 0] (World.laidAll_os _ _ _) (by kernel_rfl) (by kernel_rfl) (by kernel_rfl)
   (OpenSpec.preRow_of_cond 8 hx (by kernel_rfl) (fun k hk=>by cases hk) (by kernel_rfl) (qB os))) ?_
 intro W base args ds gs before hval hW _ _ hw hL hS _
 exact lC H enc W base args ds gs before hval hW hw hL hS
theorem qU:(Rows.validBytesRow.wf (OpenSpec.ofChange Rows.validBytesSpec))=true:=by kernel_rfl
theorem qV:(laidOutB Tryz.prog)=true:=by kernel_rfl
theorem qW:(mapsRowed Tryz.prog)=true:=by kernel_rfl
theorem qX:(Tryz.f4.params.all (Tryz.prog.readableRec ·))=true:=by kernel_rfl
theorem qY:(namedTie Tryz.prog Rows.validBytesRow.named Rows.validBytesSpec.vars)=true:=by kernel_rfl
theorem qZ:((Rows.validBytesRow.stops==[]))=true:=by kernel_rfl
theorem q_:((Tryz.prog.stops==[]))=true:=by kernel_rfl
theorem ra:((Rows.validBytesRow.knobs==[]))=true:=by kernel_rfl
theorem rc:((Tryz.prog.stopKnobs==[]))=true:=by kernel_rfl
theorem pi:((Rows.validBytesRow.inPlace==Tryz.prog.inPlace 4))=true:=by kernel_rfl
theorem pj:((Rows.validBytesRow.unfollowed==Tryz.prog.unfollowed 4))=true:=by kernel_rfl
theorem pk:((Rows.validBytesRow.recurses==Tryz.prog.recurses 4))=true:=by kernel_rfl
theorem pl:((Rows.validBytesRow.named==Tryz.prog.varsNamed 4))=true:=by kernel_rfl
theorem pm:((Rows.validBytesRow.maps==(Tryz.f4.params.toList++Rows.validBytesSpec.plain.varTypes Tryz.prog).any (Tryz.prog.mapsRec ·)))=true:=by kernel_rfl
theorem pn:((Rows.validBytesRow.ifaces==(Tryz.f4.params.toList++Rows.validBytesSpec.plain.varTypes Tryz.prog).any (Tryz.prog.ifacesRec ·)))=true:=by kernel_rfl
theorem pp:((Rows.validBytesRow.mapsOut==Tryz.prog.mapsAmong Tryz.f4.resultTypes.toList))=true:=by kernel_rfl
theorem pq:((Rows.validBytesRow.loops==(Tryz.f4.params.toList++Rows.validBytesSpec.plain.varTypes Tryz.prog).any (Tryz.prog.loopsFrom ·)))=true:=by kernel_rfl
theorem pr:((Rows.validBytesRow.wideKeys==(Tryz.f4.params.toList++Rows.validBytesSpec.plain.varTypes Tryz.prog++Tryz.f4.resultTypes.toList).any (Tryz.prog.wideKeysFrom ·)))=true:=by kernel_rfl
theorem pt:(Rows.validBytesSpec.vars.all (Tryz.prog.varReadable ·))=true:=by kernel_rfl
theorem pu:(Tryz.f4.resultTypes.all (fun t=>Tryz.prog.readableRec t&&decide (t<Tryz.prog.types.size)))=true:=by kernel_rfl
theorem pw:((Rows.validBytesRow.ifacesOut==Tryz.f4.resultTypes.toList.any (Tryz.prog.ifacesRec ·)))=true:=by kernel_rfl
theorem px:((Rows.validBytesRow.loopsOut==Tryz.f4.resultTypes.toList.any (Tryz.prog.loopsFrom ·)))=true:=by kernel_rfl
theorem py:((Rows.validBytesRow.plainKeys==Tryz.prog.plainKeys))=true:=by kernel_rfl
theorem pz:(Rows.validBytesRow.shortTexts.isNone)=true:=by kernel_rfl
theorem pA:(Tryz.prog.stopsHeard)=true:=by kernel_rfl
theorem pB:(Tryz.prog.mayEnter)=true:=by kernel_rfl
theorem pC:((Rows.validBytesRow.lifted==Tryz.prog.liftsFinal))=true:=by kernel_rfl
theorem pD:((Tryz.prog.make==some Rows.validBytesRow.make))=true:=by kernel_rfl
theorem pE:((Rows.validBytesRow.kinds==(if Rows.validBytesRow.domain.isEmpty then [] else Tryz.f4.params.toList.map fun t=>match Tryz.prog.underlying t with | some (.int k)=>some k | _=>none)))=true:=by kernel_rfl
theorem pG:((Rows.validBytesRow.pinned==Rows.validBytesRow.pinnedBy))=true:=by kernel_rfl
theorem pH:((Rows.validBytesRow.veiled==(Tryz.f4.params.toList++Rows.validBytesSpec.plain.varTypes Tryz.prog++Tryz.f4.resultTypes.toList).any (Tryz.prog.veiledRec ·)))=true:=by kernel_rfl
theorem pI:(Rows.validBytesRow.veiledFits Tryz.prog Tryz.f4.params.toList (Tryz.f4.params.toList++Rows.validBytesSpec.plain.varTypes Tryz.prog++Tryz.f4.resultTypes.toList))=true:=by kernel_rfl
theorem aE {a b:Bool} (h:a=true) (g:b=true):(a&&b)=true:=by rw [h,g];rfl
theorem ng:joinedFacts Tryz.prog 4 Tryz.f4 Rows.validBytesSpec Rows.validBytesRow=true :=
 aE (aE (aE (aE (aE (aE (aE (aE (aE (aE (aE (aE (aE (aE (aE (aE (aE (aE (aE (aE (aE (aE (aE (aE (aE (aE (aE (aE (aE (aE (aE qU qV) qW) qX) qY) qZ) q_) ra) rc) pi) pj) pk) pl) pm) pn) pp) pq) pr) pt) pu) pw) px) py) pz) pA) pB) pC) pD) pE) pG) pH) pI
theorem qP:Rows.ValidBytesSaid :=
 OpenClaim.holds_of_cond 4 Tryz.f4 rfl rfl rfl rfl rfl rfl rfl ⟨rfl,rfl,rfl,rfl,rfl⟩ rfl rfl rfl rfl rfl (by kernel_rfl) Tryz.func4 ng
  (of_decide_eq_true (by kernel_rfl)) (by unfold Func.isWrapper;first | (rw [av (by decide +kernel)];kernel_rfl) | (rw [ar (by decide +kernel)];exact ⟨rfl,rfl⟩))
  (fun os started H enc _ F=>by rw [OpenClaim.pre_eq_preRow];exact nH os started H enc F)
theorem o3 (f:FuncId) (fn:Func) (hf:Tryz.pinned.checked.prog.funcNamed Rows.validBytesRow.func=some f) (hfn:Tryz.pinned.checked.prog.funcs[f]? = some fn) :
  false=Tryz.pinned.checked.prog.looks []∧∀(j:Nat) t,fn.params[j]? = some t→Tryz.pinned.checked.prog.wantsStandIn t=false:=by
 obtain rfl:f=4:=Option.some.inj ((show Tryz.prog.funcNamed Rows.validBytesRow.func=some 4 by kernel_rfl).symm.trans hf) |>.symm
 obtain rfl:fn=Tryz.f4:=(Option.some.inj (Tryz.func4.symm.trans hfn)).symm
 refine ⟨by kernel_rfl,fun j t ht=>?_⟩
 rw [Tryz.params4] at ht
 have hm:=Array.mem_of_getElem? ht
 simp only [List.mem_toArray,bc,List.not_mem_nil,or_false] at hm
 rcases hm with rfl | rfl
 ·exact (show Tryz.prog.wantsStandIn 33=false by kernel_rfl)
 ·exact (show Tryz.prog.wantsStandIn 40=false by kernel_rfl)
theorem validBytes_holds:Rows.ValidBytesCardSaid :=
 Claim7.holds_tied_plain_at .later [] _ _ _ _ qP (fun _ h=>by cases h) (by kernel_rfl) (fun _ h=>by cases h) validBytes_row_tie rfl ⟨rfl,rfl⟩ (by kernel_rfl) rfl o3 (nz I8 _ rfl)
end Go.Proofs.YthhglklcaodfmaaGreatDoor