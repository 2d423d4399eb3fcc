import Derived.Test.YteephfapgoncgaaGreatDoorUQj
set_option linter.all false
set_option maxRecDepth 100000
namespace Go.Proofs.YteephfapgoncgaaGreatDoor
open Go Go.Mw
open Go.ChangeShapes Go.WideShapes Go.ChangeAt Go.RowKit
theorem FM {n:Int} (h:(Lit.int .u16 n).wf=true):0≤n∧n≤65535:=by simpa [Lit.wf,IntKind.min,IntKind.max,IntKind.signed,IntKind.bits] using h
theorem LH {k:IntKind} {x:AV} (h:(Ty.int k).okV x):∃n,x = .int k n∧(Lit.int k n).wf=true:=by
 obtain ⟨n,h1,h2⟩:=h
 simp only [List.cons.injEq,and_true] at h1
 exact ⟨n,h1,h2⟩
theorem RC:iO Tryz.prog 9 5=some (.int .u8):=by kernel_rfl
theorem Nr:iO Tryz.prog 9 44=some (.int .u16):=by kernel_rfl
theorem s6 (xs:List AV) (h:aK Ty.okV [rT,.int .u8,.int .u16] xs) (hb:aK (Ty.bdV reachBytes) [rT,.int .u8,.int .u16] xs):aj Tryz.prog 4 xs (.bool true):=by
 obtain ⟨x,y,z,rfl,h0,h1,h2⟩:=Ra h
 obtain ⟨g0,_⟩:=hb
 obtain ⟨m,hm,_,bm⟩:=Rh Ik rfl h0
 replace bm:=bm _ g0
 obtain ⟨w,rfl,hw⟩:=LH h1
 obtain ⟨a,rfl,ha⟩:=LH h2
 exact dX (w8 m (De (by decide) bm) w a (B7 hw) (FM ha)) ⟨hm,.inl (.rfl _),.inl (.rfl _),trivial⟩
theorem nF:∀t∈[33,5,44],Tryz.prog.readableRec t=true∧t<Tryz.prog.types.size:=by
 intro t ht
 simp only [cj,List.not_mem_nil,or_false] at ht
 rcases ht with rfl | rfl | rfl
 all_goals exact ⟨by kernel_rfl,of_decide_eq_true (by kernel_rfl)⟩
theorem js (H:Type) (enc:TypeId×Value→H) (W:World) (base:Nat) (args:Array Value) (ds gs:List (DataW H)) (before:List MemPlace)
  (hval:∀(j:Nat) t v,Tryz.f4.params[j]? = some t→args[j]? = some v→Value.okWide Tryz.prog W .any base t v)
  (hW:DataW.Whole enc Tryz.prog Tryz.f4.params.toList Rows.modsTurnedSpec.vars false W args.toList ds gs before) (hw:(DataW.weightsEach Tryz.prog (Tryz.f4.params.toList++(OpenSpec.ofChange Rows.modsTurnedSpec).bare.plain.varTypes Tryz.prog) (ds++gs)).all (·≤reachBytes)=true) (hL:laidMetH Tryz.prog Rows.modsTurnedRow.laid W) (hS:W.ShapedOpen Tryz.prog) :
  Calls Tryz.prog 4 args W fun e W'=>∃v,e = .returned v∧Rows.modsTurnedSpec.post enc Tryz.prog Tryz.f4 false true false false W args v W':=by
 refine oy (B:=reachBytes) (s:=Rows.modsTurnedSpec) (f:=Tryz.f4) (tb:=4) [rT,.int .u8,.int .u16] ?_ Eu ?_ rfl ?_ (by kernel_rfl) (by kernel_rfl) (s6) W base args ds gs before (FJ hL hS) hval hW (B9 hw)
 ·rw [Tryz.params4];exact ⟨⟨Nq,by kernel_rfl⟩,⟨RC,by kernel_rfl⟩,⟨Nr,by kernel_rfl⟩,trivial⟩
 ·rw [Tryz.params4];exact nF
 ·intro ds h
  match ds,h with
  | [d0,d1,d2],_=>exact ⟨rfl,rfl,rfl⟩
theorem mb (os:Os):laidMet Tryz.prog Rows.modsTurnedRow.laid ((kT os).forCall (fun _ _=>0) ⟨#[],#[.agg #[.slice none 0 0,.slice none 0 0,.slice none 0 0,.slice none 0 0,.slice none 0 0,.slice none 0 0,.slice none 0 0,.bool false,.int .i64 0,.slice none 0 0,.slice none 0 0,.slice none 0 0],.int .u8 0,.int .u16 0],[]⟩).memory :=
 laidMet_laidAll _ (by kernel_rfl) (by kernel_rfl)
theorem kZ (os:Os) {H:Type} (enc:TypeId×Value→H):∃places,DataW.whole enc Tryz.prog ((kT os).forCall (fun _ _=>0) ⟨#[],#[.agg #[.slice none 0 0,.slice none 0 0,.slice none 0 0,.slice none 0 0,.slice none 0 0,.slice none 0 0,.slice none 0 0,.bool false,.int .i64 0,.slice none 0 0,.slice none 0 0,.slice none 0 0],.int .u8 0,.int .u16 0],[]⟩).memory Tryz.f4.params.toList Rows.modsTurnedSpec.vars false #[.agg #[.slice none 0 0,.slice none 0 0,.slice none 0 0,.slice none 0 0,.slice none 0 0,.slice none 0 0,.slice none 0 0,.bool false,.int .i64 0,.slice none 0 0,.slice none 0 0,.slice none 0 0],.int .u8 0,.int .u16 0].toList 8=some ([.agg [.nil,.nil,.nil,.nil,.nil,.nil,.nil,.lit (.bool false),.lit (.int .i64 0),.nil,.nil,.nil],.lit (.int .u8 0),.lit (.int .u16 0)],[],places) :=
 ⟨[],by kernel_rfl⟩
theorem kj (os:Os) (started:os.Started) (H:Type) (enc:TypeId×Value→H) (F:Stop.Interp) :
  ReturnsInHanded {} Tryz.checked os 4 .any ((OpenSpec.ofChange Rows.modsTurnedSpec).preRow enc Tryz.prog Tryz.f4 Rows.modsTurnedRow.domain false Rows.modsTurnedRow.laid) (((OpenSpec.ofChange Rows.modsTurnedSpec).at F).post enc Tryz.prog Tryz.f4 false true false false):=by
 obtain ⟨places,hx⟩:=kZ os enc
 refine returnsInHanded_of_row (C:=Tryz.checked) (s:=OpenSpec.ofChange Rows.modsTurnedSpec) own started (by kernel_rfl) Tryz.func4
  (witness_row_atRef (enc:=enc) (C:=Tryz.checked) false (kT os) #[.agg #[.slice none 0 0,.slice none 0 0,.slice none 0 0,.slice none 0 0,.slice none 0 0,.slice none 0 0,.slice none 0 0,.bool false,.int .i64 0,.slice none 0 0,.slice none 0 0,.slice none 0 0],.int .u8 0,.int .u16 0] (World.laidAll_os _ _ _) (by kernel_rfl) (by kernel_rfl) (by kernel_rfl)
   (OpenSpec.preRow_of_cond 8 hx (by kernel_rfl) (fun k hk=>by cases hk) (by kernel_rfl) (mb os))) ?_
 intro W base args ds gs before hval hW _ _ hw hL hS _
 exact js H enc W base args ds gs before hval hW hw hL hS
theorem mg:(Rows.modsTurnedRow.wf (OpenSpec.ofChange Rows.modsTurnedSpec))=true:=by kernel_rfl
theorem mh:(laidOutB Tryz.prog)=true:=by kernel_rfl
theorem mi:(mapsRowed Tryz.prog)=true:=by kernel_rfl
theorem mj:(Tryz.f4.params.all (Tryz.prog.readableRec ·))=true:=by kernel_rfl
theorem ml:(namedTie Tryz.prog Rows.modsTurnedRow.named Rows.modsTurnedSpec.vars)=true:=by kernel_rfl
theorem mq:((Rows.modsTurnedRow.stops==[]))=true:=by kernel_rfl
theorem mr:((Tryz.prog.stops==[]))=true:=by kernel_rfl
theorem mw:((Rows.modsTurnedRow.knobs==[]))=true:=by kernel_rfl
theorem my:((Tryz.prog.stopKnobs==[]))=true:=by kernel_rfl
theorem lh:((Rows.modsTurnedRow.inPlace==Tryz.prog.inPlace 4))=true:=by kernel_rfl
theorem li:((Rows.modsTurnedRow.unfollowed==Tryz.prog.unfollowed 4))=true:=by kernel_rfl
theorem lj:((Rows.modsTurnedRow.recurses==Tryz.prog.recurses 4))=true:=by kernel_rfl
theorem lk:((Rows.modsTurnedRow.named==Tryz.prog.varsNamed 4))=true:=by kernel_rfl
theorem lm:((Rows.modsTurnedRow.maps==(Tryz.f4.params.toList++Rows.modsTurnedSpec.plain.varTypes Tryz.prog).any (Tryz.prog.mapsRec ·)))=true:=by kernel_rfl
theorem lp:((Rows.modsTurnedRow.ifaces==(Tryz.f4.params.toList++Rows.modsTurnedSpec.plain.varTypes Tryz.prog).any (Tryz.prog.ifacesRec ·)))=true:=by kernel_rfl
theorem lq:((Rows.modsTurnedRow.mapsOut==Tryz.prog.mapsAmong Tryz.f4.resultTypes.toList))=true:=by kernel_rfl
theorem lr:((Rows.modsTurnedRow.loops==(Tryz.f4.params.toList++Rows.modsTurnedSpec.plain.varTypes Tryz.prog).any (Tryz.prog.loopsFrom ·)))=true:=by kernel_rfl
theorem lu:((Rows.modsTurnedRow.wideKeys==(Tryz.f4.params.toList++Rows.modsTurnedSpec.plain.varTypes Tryz.prog++Tryz.f4.resultTypes.toList).any (Tryz.prog.wideKeysFrom ·)))=true:=by kernel_rfl
theorem lw:(Rows.modsTurnedSpec.vars.all (Tryz.prog.varReadable ·))=true:=by kernel_rfl
theorem ly:(Tryz.f4.resultTypes.all (fun t=>Tryz.prog.readableRec t&&decide (t<Tryz.prog.types.size)))=true:=by kernel_rfl
theorem lz:((Rows.modsTurnedRow.ifacesOut==Tryz.f4.resultTypes.toList.any (Tryz.prog.ifacesRec ·)))=true:=by kernel_rfl
theorem lA:((Rows.modsTurnedRow.loopsOut==Tryz.f4.resultTypes.toList.any (Tryz.prog.loopsFrom ·)))=true:=by kernel_rfl
theorem lB:((Rows.modsTurnedRow.plainKeys==Tryz.prog.plainKeys))=true:=by kernel_rfl
theorem lC:(Rows.modsTurnedRow.shortTexts.isNone)=true:=by kernel_rfl
theorem lD:(Tryz.prog.stopsHeard)=true:=by kernel_rfl
theorem lE:(Tryz.prog.mayEnter)=true:=by kernel_rfl
theorem lF:((Rows.modsTurnedRow.lifted==Tryz.prog.liftsFinal))=true:=by kernel_rfl
theorem lG:((Tryz.prog.make==some Rows.modsTurnedRow.make))=true:=by kernel_rfl
theorem lH:((Rows.modsTurnedRow.kinds==(if Rows.modsTurnedRow.domain.isEmpty then [] else Tryz.f4.params.toList.map fun t=>match Tryz.prog.underlying t with | some (.int k)=>some k | _=>none)))=true:=by kernel_rfl
theorem lI:((Rows.modsTurnedRow.pinned==Rows.modsTurnedRow.pinnedBy))=true:=by kernel_rfl
theorem lJ:((Rows.modsTurnedRow.veiled==(Tryz.f4.params.toList++Rows.modsTurnedSpec.plain.varTypes Tryz.prog++Tryz.f4.resultTypes.toList).any (Tryz.prog.veiledRec ·)))=true:=by kernel_rfl
theorem lK:(Rows.modsTurnedRow.veiledFits Tryz.prog Tryz.f4.params.toList (Tryz.f4.params.toList++Rows.modsTurnedSpec.plain.varTypes Tryz.prog++Tryz.f4.resultTypes.toList))=true:=by kernel_rfl
theorem dZ {a b:Bool} (h:a=true) (g:b=true):(a&&b)=true:=by rw [h,g];rfl
theorem kc:joinedFacts Tryz.prog 4 Tryz.f4 Rows.modsTurnedSpec Rows.modsTurnedRow=true :=
 dZ (dZ (dZ (dZ (dZ (dZ (dZ (dZ (dZ (dZ (dZ (dZ (dZ (dZ (dZ (dZ (dZ (dZ (dZ (dZ (dZ (dZ (dZ (dZ (dZ (dZ (dZ (dZ (dZ (dZ (dZ mg mh) mi) mj) ml) mq) mr) mw) my) lh) li) lj) lk) lm) lp) lq) lr) lu) lw) ly) lz) lA) lB) lC) lD) lE) lF) lG) lH) lI) lJ) lK
theorem mc:Rows.ModsTurnedSaid :=
 OpenClaim.holds_of_cond 4 Tryz.f4 rfl rfl rfl rfl rfl rfl rfl ⟨rfl,rfl,rfl,rfl,rfl⟩ rfl rfl rfl rfl rfl (by kernel_rfl) Tryz.func4 kc
  (of_decide_eq_true (by kernel_rfl)) (by unfold Func.isWrapper;first | (rw [bz (by decide +kernel)];kernel_rfl) | (rw [aV (by decide +kernel)];exact ⟨rfl,rfl⟩))
  (fun os started H enc _ F=>by rw [OpenClaim.pre_eq_preRow];exact kj os started H enc F)
theorem kW (f:FuncId) (fn:Func) (hf:Tryz.pinned.checked.prog.funcNamed Rows.modsTurnedRow.func=some f) (hfn:Tryz.pinned.checked.prog.funcs[f]? = some fn) :
  false=Tryz.pinned.checked.prog.looks []∧∀(j:Nat) t,fn.params[j]? = some t→Tryz.pinned.checked.prog.wantsStandIn t=false:=by
 obtain rfl:f=4:=Option.some.inj ((show Tryz.prog.funcNamed Rows.modsTurnedRow.func=some 4 by kernel_rfl).symm.trans hf) |>.symm
 obtain rfl:fn=Tryz.f4:=(Option.some.inj (Tryz.func4.symm.trans hfn)).symm
 refine ⟨by kernel_rfl,fun j t ht=>?_⟩
 rw [Tryz.params4] at ht
 have hm:=Array.mem_of_getElem? ht
 simp only [List.mem_toArray,cj,List.not_mem_nil,or_false] at hm
 rcases hm with rfl | rfl | rfl
 ·exact (show Tryz.prog.wantsStandIn 33=false by kernel_rfl)
 ·exact (show Tryz.prog.wantsStandIn 5=false by kernel_rfl)
 ·exact (show Tryz.prog.wantsStandIn 44=false by kernel_rfl)
theorem modsTurned_holds:Rows.ModsTurnedCardSaid :=
 Claim7.holds_tied_plain_at .later [] _ _ _ _ mc (fun _ h=>by cases h) (by kernel_rfl) (fun _ h=>by cases h) modsTurned_row_tie rfl ⟨rfl,rfl⟩ (by kernel_rfl) rfl kW (by kernel_rfl)
end Go.Proofs.YteephfapgoncgaaGreatDoor