import Derived.Test.YtdfofedlbljnhaaGreatDoorQv
set_option linter.all false
set_option maxRecDepth 100000
namespace Go.Proofs.YtdfofedlbljnhaaGreatDoor
open Go Go.Mw
open Go.ChangeShapes Go.WideShapes Go.ChangeAt Go.RowKit
theorem PZ (xs:List AV) (h:aS Ty.okV [.sl (.int .u8)] xs) (hb:aS (Ty.bdV reachBytes) [.sl (.int .u8)] xs):ao Tryz.prog 5 xs (.bool true):=by
 obtain ⟨x,rfl,h0⟩:=acH h
 obtain ⟨g0,_⟩:=hb
 obtain ⟨m,hm,bm,_⟩:=ajE RT h0
 exact jl (Qj m (gz bm.1 Km)) ⟨hm,trivial⟩
theorem B8:∀t∈[36],Tryz.prog.readableRec t=true∧t<Tryz.prog.types.size:=by
 intro t ht
 simp only [dc,List.not_mem_nil,or_false] at ht
 rcases ht with rfl
 all_goals exact ⟨by kernel_rfl,of_decide_eq_true (by kernel_rfl)⟩
theorem tS (H:Type) (enc:TypeId×Value→H) (W:World) (base:Nat) (args:Array Value) (ds gs:List (DataW H)) (before:List MemPlace)
  (hval:∀(j:Nat) t v,Tryz.f5.params[j]? = some t→args[j]? = some v→Value.okWide Tryz.prog W .any base t v)
  (hW:DataW.Whole enc Tryz.prog Tryz.f5.params.toList Rows.binaryAgainSpec.vars false W args.toList ds gs before) (hw:(DataW.weightsEach Tryz.prog (Tryz.f5.params.toList++(OpenSpec.ofChange Rows.binaryAgainSpec).bare.plain.varTypes Tryz.prog) (ds++gs)).all (·≤reachBytes)=true) (hL:laidMetH Tryz.prog Rows.binaryAgainRow.laid W) (hS:W.ShapedOpen Tryz.prog) :
  Calls Tryz.prog 5 args W fun e W'=>∃v,e = .returned v∧Rows.binaryAgainSpec.post enc Tryz.prog Tryz.f5 false true false false W args v W':=by
 refine i9 (B:=reachBytes) (s:=Rows.binaryAgainSpec) (f:=Tryz.f5) (tb:=4) [.sl (.int .u8)] ?_ yh ?_ rfl ?_ (by kernel_rfl) (by kernel_rfl) (PZ) W base args ds gs before (y7 hL hS) hval hW (uI hw)
 ·rw [Tryz.params5];exact ⟨⟨ahn,by kernel_rfl⟩,trivial⟩
 ·rw [Tryz.params5];exact B8
 ·intro ds h
  match ds,h with
  | [d0],_=>exact ⟨rfl,rfl,rfl⟩
theorem zY (os:Os):laidMet Tryz.prog Rows.binaryAgainRow.laid ((dk os).forCall (fun _ _=>0) ⟨#[],#[.slice none 0 0],[]⟩).memory :=
 laidMet_laidAll _ (by kernel_rfl) (by kernel_rfl)
theorem yN (os:Os) {H:Type} (enc:TypeId×Value→H):∃places,DataW.whole enc Tryz.prog ((dk os).forCall (fun _ _=>0) ⟨#[],#[.slice none 0 0],[]⟩).memory Tryz.f5.params.toList Rows.binaryAgainSpec.vars false #[.slice none 0 0].toList 8=some ([.nil],[],places) :=
 ⟨[],by kernel_rfl⟩
theorem xo (os:Os) (started:os.Started) (H:Type) (enc:TypeId×Value→H) (F:Stop.Interp) :
  ReturnsInHanded {} Tryz.checked os 5 .any ((OpenSpec.ofChange Rows.binaryAgainSpec).preRow enc Tryz.prog Tryz.f5 Rows.binaryAgainRow.domain false Rows.binaryAgainRow.laid) (((OpenSpec.ofChange Rows.binaryAgainSpec).at F).post enc Tryz.prog Tryz.f5 false true false false):=by
 obtain ⟨places,hx⟩:=yN os enc
 refine returnsInHanded_of_row (C:=Tryz.checked) (s:=OpenSpec.ofChange Rows.binaryAgainSpec) own started (by kernel_rfl) Tryz.func5
  (witness_row_atRef (enc:=enc) (C:=Tryz.checked) false (dk os) #[.slice none 0 0] (World.laidAll_os _ _ _) (by kernel_rfl) (by kernel_rfl) (by kernel_rfl)
   (OpenSpec.preRow_of_cond 8 hx (by kernel_rfl) (fun k hk=>by cases hk) (by kernel_rfl) (zY os))) ?_
 intro W base args ds gs before hval hW _ _ hw hL hS _
 exact tS H enc W base args ds gs before hval hW hw hL hS
theorem Ax:(Rows.binaryAgainRow.wf (OpenSpec.ofChange Rows.binaryAgainSpec))=true:=by kernel_rfl
theorem Ay:(laidOutB Tryz.prog)=true:=by kernel_rfl
theorem Az:(mapsRowed Tryz.prog)=true:=by kernel_rfl
theorem AA:(Tryz.f5.params.all (Tryz.prog.readableRec ·))=true:=by kernel_rfl
theorem AB:(namedTie Tryz.prog Rows.binaryAgainRow.named Rows.binaryAgainSpec.vars)=true:=by kernel_rfl
theorem AC:((Rows.binaryAgainRow.stops==[]))=true:=by kernel_rfl
theorem AD:((Tryz.prog.stops==[]))=true:=by kernel_rfl
theorem AE:((Rows.binaryAgainRow.knobs==[]))=true:=by kernel_rfl
theorem AF:((Tryz.prog.stopKnobs==[]))=true:=by kernel_rfl
theorem za:((Rows.binaryAgainRow.inPlace==Tryz.prog.inPlace 5))=true:=by kernel_rfl
theorem zb:((Rows.binaryAgainRow.unfollowed==Tryz.prog.unfollowed 5))=true:=by kernel_rfl
theorem zc:((Rows.binaryAgainRow.recurses==Tryz.prog.recurses 5))=true:=by kernel_rfl
theorem zd:((Rows.binaryAgainRow.named==Tryz.prog.varsNamed 5))=true:=by kernel_rfl
theorem ze:((Rows.binaryAgainRow.maps==(Tryz.f5.params.toList++Rows.binaryAgainSpec.plain.varTypes Tryz.prog).any (Tryz.prog.mapsRec ·)))=true:=by kernel_rfl
theorem zf:((Rows.binaryAgainRow.ifaces==(Tryz.f5.params.toList++Rows.binaryAgainSpec.plain.varTypes Tryz.prog).any (Tryz.prog.ifacesRec ·)))=true:=by kernel_rfl
theorem zg:((Rows.binaryAgainRow.mapsOut==Tryz.prog.mapsAmong Tryz.f5.resultTypes.toList))=true:=by kernel_rfl
theorem zh:((Rows.binaryAgainRow.loops==(Tryz.f5.params.toList++Rows.binaryAgainSpec.plain.varTypes Tryz.prog).any (Tryz.prog.loopsFrom ·)))=true:=by kernel_rfl
theorem zi:((Rows.binaryAgainRow.wideKeys==(Tryz.f5.params.toList++Rows.binaryAgainSpec.plain.varTypes Tryz.prog++Tryz.f5.resultTypes.toList).any (Tryz.prog.wideKeysFrom ·)))=true:=by kernel_rfl
theorem zj:(Rows.binaryAgainSpec.vars.all (Tryz.prog.varReadable ·))=true:=by kernel_rfl
theorem zk:(Tryz.f5.resultTypes.all (fun t=>Tryz.prog.readableRec t&&decide (t<Tryz.prog.types.size)))=true:=by kernel_rfl
theorem zl:((Rows.binaryAgainRow.ifacesOut==Tryz.f5.resultTypes.toList.any (Tryz.prog.ifacesRec ·)))=true:=by kernel_rfl
theorem zm:((Rows.binaryAgainRow.loopsOut==Tryz.f5.resultTypes.toList.any (Tryz.prog.loopsFrom ·)))=true:=by kernel_rfl
theorem zn:((Rows.binaryAgainRow.plainKeys==Tryz.prog.plainKeys))=true:=by kernel_rfl
theorem zo:(Rows.binaryAgainRow.shortTexts.isNone)=true:=by kernel_rfl
theorem zp:(Tryz.prog.stopsHeard)=true:=by kernel_rfl
theorem zq:(Tryz.prog.mayEnter)=true:=by kernel_rfl
theorem zr:((Rows.binaryAgainRow.lifted==Tryz.prog.liftsFinal))=true:=by kernel_rfl
theorem zt:((Tryz.prog.make==some Rows.binaryAgainRow.make))=true:=by kernel_rfl
theorem zu:((Rows.binaryAgainRow.kinds==(if Rows.binaryAgainRow.domain.isEmpty then [] else Tryz.f5.params.toList.map fun t=>match Tryz.prog.underlying t with | some (.int k)=>some k | _=>none)))=true:=by kernel_rfl
theorem zw:((Rows.binaryAgainRow.pinned==Rows.binaryAgainRow.pinnedBy))=true:=by kernel_rfl
theorem zx:((Rows.binaryAgainRow.veiled==(Tryz.f5.params.toList++Rows.binaryAgainSpec.plain.varTypes Tryz.prog++Tryz.f5.resultTypes.toList).any (Tryz.prog.veiledRec ·)))=true:=by kernel_rfl
theorem zy:(Rows.binaryAgainRow.veiledFits Tryz.prog Tryz.f5.params.toList (Tryz.f5.params.toList++Rows.binaryAgainSpec.plain.varTypes Tryz.prog++Tryz.f5.resultTypes.toList))=true:=by kernel_rfl
theorem aI {a b:Bool} (h:a=true) (g:b=true):(a&&b)=true:=by rw [h,g];rfl
theorem xd:joinedFacts Tryz.prog 5 Tryz.f5 Rows.binaryAgainSpec Rows.binaryAgainRow=true :=
 aI (aI (aI (aI (aI (aI (aI (aI (aI (aI (aI (aI (aI (aI (aI (aI (aI (aI (aI (aI (aI (aI (aI (aI (aI (aI (aI (aI (aI (aI (aI Ax Ay) Az) AA) AB) AC) AD) AE) AF) za) zb) zc) zd) ze) zf) zg) zh) zi) zj) zk) zl) zm) zn) zo) zp) zq) zr) zt) zu) zw) zx) zy
theorem As:Rows.BinaryAgainSaid :=
 OpenClaim.holds_of_cond 5 Tryz.f5 rfl rfl rfl rfl rfl rfl rfl ⟨rfl,rfl,rfl,rfl,rfl⟩ rfl rfl rfl rfl rfl (by kernel_rfl) Tryz.func5 xd
  (of_decide_eq_true (by kernel_rfl)) (by unfold Func.isWrapper;first | (rw [ap (by decide +kernel)];kernel_rfl) | (rw [ah (by decide +kernel)];exact ⟨rfl,rfl⟩))
  (fun os started H enc _ F=>by rw [OpenClaim.pre_eq_preRow];exact xo os started H enc F)
theorem yE (f:FuncId) (fn:Func) (hf:Tryz.pinned.checked.prog.funcNamed Rows.binaryAgainRow.func=some f) (hfn:Tryz.pinned.checked.prog.funcs[f]? = some fn) :
  false=Tryz.pinned.checked.prog.looks []∧∀(j:Nat) t,fn.params[j]? = some t→Tryz.pinned.checked.prog.wantsStandIn t=false:=by
 obtain rfl:f=5:=Option.some.inj ((show Tryz.prog.funcNamed Rows.binaryAgainRow.func=some 5 by kernel_rfl).symm.trans hf) |>.symm
 obtain rfl:fn=Tryz.f5:=(Option.some.inj (Tryz.func5.symm.trans hfn)).symm
 refine ⟨by kernel_rfl,fun j t ht=>?_⟩
 rw [Tryz.params5] at ht
 have hm:=Array.mem_of_getElem? ht
 simp only [List.mem_toArray,dc,List.not_mem_nil,or_false] at hm
 rcases hm with rfl
 ·exact (show Tryz.prog.wantsStandIn 36=false by kernel_rfl)
theorem binaryAgain_holds:Rows.BinaryAgainCardSaid :=
 Claim7.holds_tied_plain_at .later [] _ _ _ _ As (fun _ h=>by cases h) (by kernel_rfl) (fun _ h=>by cases h) binaryAgain_row_tie rfl ⟨rfl,rfl⟩ (by kernel_rfl) rfl yE (ye Sq _ rfl)
end Go.Proofs.YtdfofedlbljnhaaGreatDoor