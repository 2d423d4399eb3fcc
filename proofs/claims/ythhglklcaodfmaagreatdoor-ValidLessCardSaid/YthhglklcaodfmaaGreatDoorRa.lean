import Derived.Test.YthhglklcaodfmaaGreatDoorQs
set_option linter.all false
set_option maxRecDepth 100000
namespace Go.Proofs.YthhglklcaodfmaaGreatDoor
open Go Go.Mw
open Go.ChangeShapes Go.WideShapes Go.ChangeAt Go.RowKit
theorem Lw (xs:List AV) (h:aH Ty.okV [gL] xs) (hb:aH (Ty.bdV reachBytes) [gL] xs):aj Tryz.prog 6 xs (.bool true):=by
 obtain ⟨x,rfl,h0⟩:=UM h
 obtain ⟨g0,_⟩:=hb
 obtain ⟨m,hm,_,bm⟩:=LO tw rfl h0
 replace bm:=bm _ g0
 exact cW (V5 m (AS (by decide) bm)) ⟨hm,trivial⟩
theorem vV:∀t∈[33],Tryz.prog.readableRec t=true∧t<Tryz.prog.types.size:=by
 intro t ht
 simp only [bc,List.not_mem_nil,or_false] at ht
 rcases ht with rfl
 all_goals exact ⟨by kernel_rfl,of_decide_eq_true (by kernel_rfl)⟩
theorem mj (H:Type) (enc:TypeId×Value→H) (W:World) (base:Nat) (args:Array Value) (ds gs:List (DataW H)) (before:List MemPlace)
  (hval:∀(j:Nat) t v,Tryz.f6.params[j]? = some t→args[j]? = some v→Value.okWide Tryz.prog W .any base t v)
  (hW:DataW.Whole enc Tryz.prog Tryz.f6.params.toList Rows.validLessSpec.vars false W args.toList ds gs before) (hw:(DataW.weightsEach Tryz.prog (Tryz.f6.params.toList++(OpenSpec.ofChange Rows.validLessSpec).bare.plain.varTypes Tryz.prog) (ds++gs)).all (·≤reachBytes)=true) (hL:laidMetH Tryz.prog Rows.validLessRow.laid W) (hS:W.ShapedOpen Tryz.prog) :
  Calls Tryz.prog 6 args W fun e W'=>∃v,e = .returned v∧Rows.validLessSpec.post enc Tryz.prog Tryz.f6 false true false false W args v W':=by
 refine eW (B:=reachBytes) (s:=Rows.validLessSpec) (f:=Tryz.f6) (tb:=4) [gL] ?_ nG ?_ rfl ?_ (by kernel_rfl) (by kernel_rfl) (Lw) W base args ds gs before (n_ hL hS) hval hW (k9 hw)
 ·rw [Tryz.params6];exact ⟨⟨AU,by kernel_rfl⟩,trivial⟩
 ·rw [Tryz.params6];exact vV
 ·intro ds h
  match ds,h with
  | [d0],_=>exact ⟨rfl,rfl,rfl⟩
theorem tY (os:Os):laidMet Tryz.prog Rows.validLessRow.laid ((cB os).forCall (fun _ _=>0) ⟨#[],#[.agg #[.slice none 0 0,.slice none 0 0,.slice none 0 0,.slice none 0 0,.slice none 0 0,.slice none 0 0,.slice none 0 0,.bool false,.int .i64 0,.slice none 0 0,.slice none 0 0,.slice none 0 0]],[]⟩).memory :=
 laidMet_laidAll _ (by kernel_rfl) (by kernel_rfl)
theorem qM (os:Os) {H:Type} (enc:TypeId×Value→H):∃places,DataW.whole enc Tryz.prog ((cB os).forCall (fun _ _=>0) ⟨#[],#[.agg #[.slice none 0 0,.slice none 0 0,.slice none 0 0,.slice none 0 0,.slice none 0 0,.slice none 0 0,.slice none 0 0,.bool false,.int .i64 0,.slice none 0 0,.slice none 0 0,.slice none 0 0]],[]⟩).memory Tryz.f6.params.toList Rows.validLessSpec.vars false #[.agg #[.slice none 0 0,.slice none 0 0,.slice none 0 0,.slice none 0 0,.slice none 0 0,.slice none 0 0,.slice none 0 0,.bool false,.int .i64 0,.slice none 0 0,.slice none 0 0,.slice none 0 0]].toList 8=some ([.agg [.nil,.nil,.nil,.nil,.nil,.nil,.nil,.lit (.bool false),.lit (.int .i64 0),.nil,.nil,.nil]],[],places) :=
 ⟨[],by kernel_rfl⟩
theorem oS (os:Os) (started:os.Started) (H:Type) (enc:TypeId×Value→H) (F:Stop.Interp) :
  ReturnsInHanded {} Tryz.checked os 6 .any ((OpenSpec.ofChange Rows.validLessSpec).preRow enc Tryz.prog Tryz.f6 Rows.validLessRow.domain false Rows.validLessRow.laid) (((OpenSpec.ofChange Rows.validLessSpec).at F).post enc Tryz.prog Tryz.f6 false true false false):=by
 obtain ⟨places,hx⟩:=qM os enc
 refine returnsInHanded_of_row (C:=Tryz.checked) (s:=OpenSpec.ofChange Rows.validLessSpec) own started (by kernel_rfl) Tryz.func6
  (witness_row_atRef (enc:=enc) (C:=Tryz.checked) false (cB os) #[.agg #[.slice none 0 0,.slice none 0 0,.slice none 0 0,.slice none 0 0,.slice none 0 0,.slice none 0 0,.slice none 0 0,.bool false,.int .i64 0,.slice none 0 0,.slice none 0 0,.slice none 0 0]] (World.laidAll_os _ _ _) (by kernel_rfl) (by kernel_rfl) (by kernel_rfl)
   (OpenSpec.preRow_of_cond 8 hx (by kernel_rfl) (fun k hk=>by cases hk) (by kernel_rfl) (tY os))) ?_
 intro W base args ds gs before hval hW _ _ hw hL hS _
 exact mj H enc W base args ds gs before hval hW hw hL hS
theorem uT:(Rows.validLessRow.wf (OpenSpec.ofChange Rows.validLessSpec))=true:=by kernel_rfl
theorem uU:(laidOutB Tryz.prog)=true:=by kernel_rfl
theorem uV:(mapsRowed Tryz.prog)=true:=by kernel_rfl
theorem uW:(Tryz.f6.params.all (Tryz.prog.readableRec ·))=true:=by kernel_rfl
theorem uX:(namedTie Tryz.prog Rows.validLessRow.named Rows.validLessSpec.vars)=true:=by kernel_rfl
theorem uY:((Rows.validLessRow.stops==[]))=true:=by kernel_rfl
theorem uZ:((Tryz.prog.stops==[]))=true:=by kernel_rfl
theorem u3:((Rows.validLessRow.knobs==[]))=true:=by kernel_rfl
theorem u9:((Tryz.prog.stopKnobs==[]))=true:=by kernel_rfl
theorem rd:((Rows.validLessRow.inPlace==Tryz.prog.inPlace 6))=true:=by kernel_rfl
theorem re:((Rows.validLessRow.unfollowed==Tryz.prog.unfollowed 6))=true:=by kernel_rfl
theorem rf:((Rows.validLessRow.recurses==Tryz.prog.recurses 6))=true:=by kernel_rfl
theorem rg:((Rows.validLessRow.named==Tryz.prog.varsNamed 6))=true:=by kernel_rfl
theorem rh:((Rows.validLessRow.maps==(Tryz.f6.params.toList++Rows.validLessSpec.plain.varTypes Tryz.prog).any (Tryz.prog.mapsRec ·)))=true:=by kernel_rfl
theorem rj:((Rows.validLessRow.ifaces==(Tryz.f6.params.toList++Rows.validLessSpec.plain.varTypes Tryz.prog).any (Tryz.prog.ifacesRec ·)))=true:=by kernel_rfl
theorem rk:((Rows.validLessRow.mapsOut==Tryz.prog.mapsAmong Tryz.f6.resultTypes.toList))=true:=by kernel_rfl
theorem rl:((Rows.validLessRow.loops==(Tryz.f6.params.toList++Rows.validLessSpec.plain.varTypes Tryz.prog).any (Tryz.prog.loopsFrom ·)))=true:=by kernel_rfl
theorem rn:((Rows.validLessRow.wideKeys==(Tryz.f6.params.toList++Rows.validLessSpec.plain.varTypes Tryz.prog++Tryz.f6.resultTypes.toList).any (Tryz.prog.wideKeysFrom ·)))=true:=by kernel_rfl
theorem ro:(Rows.validLessSpec.vars.all (Tryz.prog.varReadable ·))=true:=by kernel_rfl
theorem rp:(Tryz.f6.resultTypes.all (fun t=>Tryz.prog.readableRec t&&decide (t<Tryz.prog.types.size)))=true:=by kernel_rfl
theorem rq:((Rows.validLessRow.ifacesOut==Tryz.f6.resultTypes.toList.any (Tryz.prog.ifacesRec ·)))=true:=by kernel_rfl
theorem rx:((Rows.validLessRow.loopsOut==Tryz.f6.resultTypes.toList.any (Tryz.prog.loopsFrom ·)))=true:=by kernel_rfl
theorem ry:((Rows.validLessRow.plainKeys==Tryz.prog.plainKeys))=true:=by kernel_rfl
theorem rz:(Rows.validLessRow.shortTexts.isNone)=true:=by kernel_rfl
theorem rA:(Tryz.prog.stopsHeard)=true:=by kernel_rfl
theorem rB:(Tryz.prog.mayEnter)=true:=by kernel_rfl
theorem rC:((Rows.validLessRow.lifted==Tryz.prog.liftsFinal))=true:=by kernel_rfl
theorem rD:((Tryz.prog.make==some Rows.validLessRow.make))=true:=by kernel_rfl
theorem rE:((Rows.validLessRow.kinds==(if Rows.validLessRow.domain.isEmpty then [] else Tryz.f6.params.toList.map fun t=>match Tryz.prog.underlying t with | some (.int k)=>some k | _=>none)))=true:=by kernel_rfl
theorem rF:((Rows.validLessRow.pinned==Rows.validLessRow.pinnedBy))=true:=by kernel_rfl
theorem rG:((Rows.validLessRow.veiled==(Tryz.f6.params.toList++Rows.validLessSpec.plain.varTypes Tryz.prog++Tryz.f6.resultTypes.toList).any (Tryz.prog.veiledRec ·)))=true:=by kernel_rfl
theorem rH:(Rows.validLessRow.veiledFits Tryz.prog Tryz.f6.params.toList (Tryz.f6.params.toList++Rows.validLessSpec.plain.varTypes Tryz.prog++Tryz.f6.resultTypes.toList))=true:=by kernel_rfl
theorem aE {a b:Bool} (h:a=true) (g:b=true):(a&&b)=true:=by rw [h,g];rfl
theorem oG:joinedFacts Tryz.prog 6 Tryz.f6 Rows.validLessSpec Rows.validLessRow=true :=
 aE (aE (aE (aE (aE (aE (aE (aE (aE (aE (aE (aE (aE (aE (aE (aE (aE (aE (aE (aE (aE (aE (aE (aE (aE (aE (aE (aE (aE (aE (aE uT uU) uV) uW) uX) uY) uZ) u3) u9) rd) re) rf) rg) rh) rj) rk) rl) rn) ro) rp) rq) rx) ry) rz) rA) rB) rC) rD) rE) rF) rG) rH
theorem uH:Rows.ValidLessSaid :=
 OpenClaim.holds_of_cond 6 Tryz.f6 rfl rfl rfl rfl rfl rfl rfl ⟨rfl,rfl,rfl,rfl,rfl⟩ rfl rfl rfl rfl rfl (by kernel_rfl) Tryz.func6 oG
  (of_decide_eq_true (by kernel_rfl)) (by unfold Func.isWrapper;first | (rw [av (by decide +kernel)];kernel_rfl) | (rw [ar (by decide +kernel)];exact ⟨rfl,rfl⟩))
  (fun os started H enc _ F=>by rw [OpenClaim.pre_eq_preRow];exact oS os started H enc F)
theorem qJ (f:FuncId) (fn:Func) (hf:Tryz.pinned.checked.prog.funcNamed Rows.validLessRow.func=some f) (hfn:Tryz.pinned.checked.prog.funcs[f]? = some fn) :
  false=Tryz.pinned.checked.prog.looks []∧∀(j:Nat) t,fn.params[j]? = some t→Tryz.pinned.checked.prog.wantsStandIn t=false:=by
 obtain rfl:f=6:=Option.some.inj ((show Tryz.prog.funcNamed Rows.validLessRow.func=some 6 by kernel_rfl).symm.trans hf) |>.symm
 obtain rfl:fn=Tryz.f6:=(Option.some.inj (Tryz.func6.symm.trans hfn)).symm
 refine ⟨by kernel_rfl,fun j t ht=>?_⟩
 rw [Tryz.params6] at ht
 have hm:=Array.mem_of_getElem? ht
 simp only [List.mem_toArray,bc,List.not_mem_nil,or_false] at hm
 rcases hm with rfl
 ·exact (show Tryz.prog.wantsStandIn 33=false by kernel_rfl)
theorem validLess_holds:Rows.ValidLessCardSaid :=
 Claim7.holds_tied_plain_at .later [] _ _ _ _ uH (fun _ h=>by cases h) (by kernel_rfl) (fun _ h=>by cases h) validLess_row_tie rfl ⟨rfl,rfl⟩ (by kernel_rfl) rfl qJ (nz I8 _ rfl)
end Go.Proofs.YthhglklcaodfmaaGreatDoor