import Derived.Test.YthhglklcaodfmaaGreatDoorQs
set_option linter.all false
set_option maxRecDepth 100000
namespace Go.Proofs.YthhglklcaodfmaaGreatDoor
open Go Go.Mw
open Go.ChangeShapes Go.WideShapes Go.ChangeAt Go.RowKit
theorem PV (xs:List AV) (h:aH Ty.okV [gL,.int .i64] xs) (hb:aH (Ty.bdV reachBytes) [gL,.int .i64] xs):aj Tryz.prog 8 xs (.bool true):=by
 obtain ⟨x,y,rfl,h0,h1⟩:=aa0 h
 obtain ⟨g0,g1,_⟩:=hb
 obtain ⟨m,hm,_,bm⟩:=LO tw rfl h0
 replace bm:=bm _ g0
 obtain ⟨n,rfl,_⟩:=aej h1
 exact cW (abD m n (AS (by decide) bm)) ⟨hm,.inl (.rfl _),trivial⟩
theorem yn:∀t∈[33,3],Tryz.prog.readableRec t=true∧t<Tryz.prog.types.size:=by
 intro t ht
 simp only [bc,List.not_mem_nil,or_false] at ht
 rcases ht with rfl | rfl
 all_goals exact ⟨by kernel_rfl,of_decide_eq_true (by kernel_rfl)⟩
theorem nj (H:Type) (enc:TypeId×Value→H) (W:World) (base:Nat) (args:Array Value) (ds gs:List (DataW H)) (before:List MemPlace)
  (hval:∀(j:Nat) t v,Tryz.f8.params[j]? = some t→args[j]? = some v→Value.okWide Tryz.prog W .any base t v)
  (hW:DataW.Whole enc Tryz.prog Tryz.f8.params.toList Rows.validOneSpec.vars false W args.toList ds gs before) (hw:(DataW.weightsEach Tryz.prog (Tryz.f8.params.toList++(OpenSpec.ofChange Rows.validOneSpec).bare.plain.varTypes Tryz.prog) (ds++gs)).all (·≤reachBytes)=true) (hL:laidMetH Tryz.prog Rows.validOneRow.laid W) (hS:W.ShapedOpen Tryz.prog) :
  Calls Tryz.prog 8 args W fun e W'=>∃v,e = .returned v∧Rows.validOneSpec.post enc Tryz.prog Tryz.f8 false true false false W args v W':=by
 refine eW (B:=reachBytes) (s:=Rows.validOneSpec) (f:=Tryz.f8) (tb:=4) [gL,.int .i64] ?_ nG ?_ rfl ?_ (by kernel_rfl) (by kernel_rfl) (PV) W base args ds gs before (n_ hL hS) hval hW (k9 hw)
 ·rw [Tryz.params8];exact ⟨⟨AU,by kernel_rfl⟩,⟨af_,by kernel_rfl⟩,trivial⟩
 ·rw [Tryz.params8];exact yn
 ·intro ds h
  match ds,h with
  | [d0,d1],_=>exact ⟨rfl,rfl,rfl⟩
theorem vT (os:Os):laidMet Tryz.prog Rows.validOneRow.laid ((cB os).forCall (fun _ _=>0) ⟨#[],#[.agg #[.slice none 0 0,.slice none 0 0,.slice none 0 0,.slice none 0 0,.slice none 0 0,.slice none 0 0,.slice none 0 0,.bool false,.int .i64 0,.slice none 0 0,.slice none 0 0,.slice none 0 0],.int .i64 0],[]⟩).memory :=
 laidMet_laidAll _ (by kernel_rfl) (by kernel_rfl)
theorem ut (os:Os) {H:Type} (enc:TypeId×Value→H):∃places,DataW.whole enc Tryz.prog ((cB os).forCall (fun _ _=>0) ⟨#[],#[.agg #[.slice none 0 0,.slice none 0 0,.slice none 0 0,.slice none 0 0,.slice none 0 0,.slice none 0 0,.slice none 0 0,.bool false,.int .i64 0,.slice none 0 0,.slice none 0 0,.slice none 0 0],.int .i64 0],[]⟩).memory Tryz.f8.params.toList Rows.validOneSpec.vars false #[.agg #[.slice none 0 0,.slice none 0 0,.slice none 0 0,.slice none 0 0,.slice none 0 0,.slice none 0 0,.slice none 0 0,.bool false,.int .i64 0,.slice none 0 0,.slice none 0 0,.slice none 0 0],.int .i64 0].toList 8=some ([.agg [.nil,.nil,.nil,.nil,.nil,.nil,.nil,.lit (.bool false),.lit (.int .i64 0),.nil,.nil,.nil],.lit (.int .i64 0)],[],places) :=
 ⟨[],by kernel_rfl⟩
theorem qE (os:Os) (started:os.Started) (H:Type) (enc:TypeId×Value→H) (F:Stop.Interp) :
  ReturnsInHanded {} Tryz.checked os 8 .any ((OpenSpec.ofChange Rows.validOneSpec).preRow enc Tryz.prog Tryz.f8 Rows.validOneRow.domain false Rows.validOneRow.laid) (((OpenSpec.ofChange Rows.validOneSpec).at F).post enc Tryz.prog Tryz.f8 false true false false):=by
 obtain ⟨places,hx⟩:=ut os enc
 refine returnsInHanded_of_row (C:=Tryz.checked) (s:=OpenSpec.ofChange Rows.validOneSpec) own started (by kernel_rfl) Tryz.func8
  (witness_row_atRef (enc:=enc) (C:=Tryz.checked) false (cB os) #[.agg #[.slice none 0 0,.slice none 0 0,.slice none 0 0,.slice none 0 0,.slice none 0 0,.slice none 0 0,.slice none 0 0,.bool false,.int .i64 0,.slice none 0 0,.slice none 0 0,.slice none 0 0],.int .i64 0] (World.laidAll_os _ _ _) (by kernel_rfl) (by kernel_rfl) (by kernel_rfl)
   (OpenSpec.preRow_of_cond 8 hx (by kernel_rfl) (fun k hk=>by cases hk) (by kernel_rfl) (vT os))) ?_
 intro W base args ds gs before hval hW _ _ hw hL hS _
 exact nj H enc W base args ds gs before hval hW hw hL hS
theorem wk:(Rows.validOneRow.wf (OpenSpec.ofChange Rows.validOneSpec))=true:=by kernel_rfl
theorem wl:(laidOutB Tryz.prog)=true:=by kernel_rfl
theorem wn:(mapsRowed Tryz.prog)=true:=by kernel_rfl
theorem wo:(Tryz.f8.params.all (Tryz.prog.readableRec ·))=true:=by kernel_rfl
theorem wq:(namedTie Tryz.prog Rows.validOneRow.named Rows.validOneSpec.vars)=true:=by kernel_rfl
theorem wt:((Rows.validOneRow.stops==[]))=true:=by kernel_rfl
theorem wu:((Tryz.prog.stops==[]))=true:=by kernel_rfl
theorem wv:((Rows.validOneRow.knobs==[]))=true:=by kernel_rfl
theorem ww:((Tryz.prog.stopKnobs==[]))=true:=by kernel_rfl
theorem vj:((Rows.validOneRow.inPlace==Tryz.prog.inPlace 8))=true:=by kernel_rfl
theorem vk:((Rows.validOneRow.unfollowed==Tryz.prog.unfollowed 8))=true:=by kernel_rfl
theorem vl:((Rows.validOneRow.recurses==Tryz.prog.recurses 8))=true:=by kernel_rfl
theorem vm:((Rows.validOneRow.named==Tryz.prog.varsNamed 8))=true:=by kernel_rfl
theorem vn:((Rows.validOneRow.maps==(Tryz.f8.params.toList++Rows.validOneSpec.plain.varTypes Tryz.prog).any (Tryz.prog.mapsRec ·)))=true:=by kernel_rfl
theorem vp:((Rows.validOneRow.ifaces==(Tryz.f8.params.toList++Rows.validOneSpec.plain.varTypes Tryz.prog).any (Tryz.prog.ifacesRec ·)))=true:=by kernel_rfl
theorem vr:((Rows.validOneRow.mapsOut==Tryz.prog.mapsAmong Tryz.f8.resultTypes.toList))=true:=by kernel_rfl
theorem vt:((Rows.validOneRow.loops==(Tryz.f8.params.toList++Rows.validOneSpec.plain.varTypes Tryz.prog).any (Tryz.prog.loopsFrom ·)))=true:=by kernel_rfl
theorem vu:((Rows.validOneRow.wideKeys==(Tryz.f8.params.toList++Rows.validOneSpec.plain.varTypes Tryz.prog++Tryz.f8.resultTypes.toList).any (Tryz.prog.wideKeysFrom ·)))=true:=by kernel_rfl
theorem vw:(Rows.validOneSpec.vars.all (Tryz.prog.varReadable ·))=true:=by kernel_rfl
theorem vx:(Tryz.f8.resultTypes.all (fun t=>Tryz.prog.readableRec t&&decide (t<Tryz.prog.types.size)))=true:=by kernel_rfl
theorem vy:((Rows.validOneRow.ifacesOut==Tryz.f8.resultTypes.toList.any (Tryz.prog.ifacesRec ·)))=true:=by kernel_rfl
theorem vz:((Rows.validOneRow.loopsOut==Tryz.f8.resultTypes.toList.any (Tryz.prog.loopsFrom ·)))=true:=by kernel_rfl
theorem vA:((Rows.validOneRow.plainKeys==Tryz.prog.plainKeys))=true:=by kernel_rfl
theorem vB:(Rows.validOneRow.shortTexts.isNone)=true:=by kernel_rfl
theorem vC:(Tryz.prog.stopsHeard)=true:=by kernel_rfl
theorem vD:(Tryz.prog.mayEnter)=true:=by kernel_rfl
theorem vE:((Rows.validOneRow.lifted==Tryz.prog.liftsFinal))=true:=by kernel_rfl
theorem vF:((Tryz.prog.make==some Rows.validOneRow.make))=true:=by kernel_rfl
theorem vG:((Rows.validOneRow.kinds==(if Rows.validOneRow.domain.isEmpty then [] else Tryz.f8.params.toList.map fun t=>match Tryz.prog.underlying t with | some (.int k)=>some k | _=>none)))=true:=by kernel_rfl
theorem vH:((Rows.validOneRow.pinned==Rows.validOneRow.pinnedBy))=true:=by kernel_rfl
theorem vI:((Rows.validOneRow.veiled==(Tryz.f8.params.toList++Rows.validOneSpec.plain.varTypes Tryz.prog++Tryz.f8.resultTypes.toList).any (Tryz.prog.veiledRec ·)))=true:=by kernel_rfl
theorem vJ:(Rows.validOneRow.veiledFits Tryz.prog Tryz.f8.params.toList (Tryz.f8.params.toList++Rows.validOneSpec.plain.varTypes Tryz.prog++Tryz.f8.resultTypes.toList))=true:=by kernel_rfl
theorem aE {a b:Bool} (h:a=true) (g:b=true):(a&&b)=true:=by rw [h,g];rfl
theorem qy:joinedFacts Tryz.prog 8 Tryz.f8 Rows.validOneSpec Rows.validOneRow=true :=
 aE (aE (aE (aE (aE (aE (aE (aE (aE (aE (aE (aE (aE (aE (aE (aE (aE (aE (aE (aE (aE (aE (aE (aE (aE (aE (aE (aE (aE (aE (aE wk wl) wn) wo) wq) wt) wu) wv) ww) vj) vk) vl) vm) vn) vp) vr) vt) vu) vw) vx) vy) vz) vA) vB) vC) vD) vE) vF) vG) vH) vI) vJ
theorem wc:Rows.ValidOneSaid :=
 OpenClaim.holds_of_cond 8 Tryz.f8 rfl rfl rfl rfl rfl rfl rfl ⟨rfl,rfl,rfl,rfl,rfl⟩ rfl rfl rfl rfl rfl (by kernel_rfl) Tryz.func8 qy
  (of_decide_eq_true (by kernel_rfl)) (by unfold Func.isWrapper;first | (rw [av (by decide +kernel)];kernel_rfl) | (rw [ar (by decide +kernel)];exact ⟨rfl,rfl⟩))
  (fun os started H enc _ F=>by rw [OpenClaim.pre_eq_preRow];exact qE os started H enc F)
theorem uo (f:FuncId) (fn:Func) (hf:Tryz.pinned.checked.prog.funcNamed Rows.validOneRow.func=some f) (hfn:Tryz.pinned.checked.prog.funcs[f]? = some fn) :
  false=Tryz.pinned.checked.prog.looks []∧∀(j:Nat) t,fn.params[j]? = some t→Tryz.pinned.checked.prog.wantsStandIn t=false:=by
 obtain rfl:f=8:=Option.some.inj ((show Tryz.prog.funcNamed Rows.validOneRow.func=some 8 by kernel_rfl).symm.trans hf) |>.symm
 obtain rfl:fn=Tryz.f8:=(Option.some.inj (Tryz.func8.symm.trans hfn)).symm
 refine ⟨by kernel_rfl,fun j t ht=>?_⟩
 rw [Tryz.params8] at ht
 have hm:=Array.mem_of_getElem? ht
 simp only [List.mem_toArray,bc,List.not_mem_nil,or_false] at hm
 rcases hm with rfl | rfl
 ·exact (show Tryz.prog.wantsStandIn 33=false by kernel_rfl)
 ·exact (show Tryz.prog.wantsStandIn 3=false by kernel_rfl)
theorem validOne_holds:Rows.ValidOneCardSaid :=
 Claim7.holds_tied_plain_at .later [] _ _ _ _ wc (fun _ h=>by cases h) (by kernel_rfl) (fun _ h=>by cases h) validOne_row_tie rfl ⟨rfl,rfl⟩ (by kernel_rfl) rfl uo (nz I8 _ rfl)
end Go.Proofs.YthhglklcaodfmaaGreatDoor