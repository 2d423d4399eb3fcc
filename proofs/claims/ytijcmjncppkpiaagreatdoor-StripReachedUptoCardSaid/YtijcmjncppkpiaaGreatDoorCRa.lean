import Derived.Test.YtijcmjncppkpiaaGreatDoorCQt
set_option linter.all false
set_option maxRecDepth 100000
namespace Go.Proofs.YtijcmjncppkpiaaGreatDoor
open Go Go.Mw
open Go.ChangeShapes Go.WideShapes Go.ChangeAt Go.RowKit
def Hh(xs:List AV)(h:aR Ty.okV [HJ] xs)(hb:aR (Ty.bdV 1048576) [HJ] xs):ah pg 3 xs (.bool true):=by
 obtain⟨x,rfl,h0⟩:=aeh h;obtain⟨m,hm,_,bm⟩:=aeq XQ rfl h0;exact pD (HM m (bm _ hb.1)) ⟨hm,trivial⟩
def yu:∀t∈[33],pg.readableRec t=true/\t<pg.types.size:=by
 intro t ht;simp only[bp,bZ,or_false]at ht;rcases ht with rfl
 all_goals exact⟨by kernel_rfl,of_decide_eq_true (by kernel_rfl)⟩
def qO(H:Type)(enc:TypeId×Value->H)(W:World)(base:Nat)(args:Array Value)(ds gs:List (DataW H))(before:List MemPlace)
  (hval:∀(j:Nat) t v,Tryz.f3.params[j]?=some t->args[j]?=some v->Value.okWide pg W .any base t v)
  (hW:DataW.Whole enc pg Tryz.f3.params.toList Rows.stripReachedSpec.vars false W args.toList ds gs before) (hL:laidMetH pg Rows.stripReachedUptoRow.laid W) (hS:W.ShapedOpen pg) (hk:Rows.uptoSmall H (ds++gs)=true) :
  Calls pg 3 args W λe W'=>∃v,e = .returned v/\Rows.stripReachedSpec.post enc pg Tryz.f3 false true false false W args v W':=by
 refine Cg (aaU H) (B:=1048576) (s:=Rows.stripReachedSpec) (f:=Tryz.f3) (tb:=4) [HJ] ?_ TO ?_ rfl ?_ (by kernel_rfl) (by kernel_rfl) (Hh) W base args ds gs before (Vw hL hS) hval hW (λd hd=>NK hk d (List.mem_append_left _ hd))
 .rw[Tryz.params3];exact⟨acO,trivial⟩
 .rw[Tryz.params3];exact yu
 .intro ds h
  match ds,h with
  | [d0],_=>exact⟨rfl,rfl,rfl⟩
def w8(os:Os):laidMet pg Rows.stripReachedUptoRow.laid ((yq os).forCall (λ_ _=>0) ⟨#[],#[.agg #[.slice none 0 0,.slice none 0 0,.slice none 0 0,.slice none 0 0,.slice none 0 0,.slice none 0 0,.slice none 0 0,.bool false,.int .i64 0,.slice none 0 0,.slice none 0 0,.slice none 0 0]],[]⟩).memory :=
 laidMet_laidAll _ (by kernel_rfl) (by kernel_rfl)
def vI(os:Os){H:Type}(enc:TypeId×Value->H):∃places,DataW.whole enc pg ((yq os).forCall (λ_ _=>0) ⟨#[],#[.agg #[.slice none 0 0,.slice none 0 0,.slice none 0 0,.slice none 0 0,.slice none 0 0,.slice none 0 0,.slice none 0 0,.bool false,.int .i64 0,.slice none 0 0,.slice none 0 0,.slice none 0 0]],[]⟩).memory Tryz.f3.params.toList Rows.stripReachedSpec.vars false #[.agg #[.slice none 0 0,.slice none 0 0,.slice none 0 0,.slice none 0 0,.slice none 0 0,.slice none 0 0,.slice none 0 0,.bool false,.int .i64 0,.slice none 0 0,.slice none 0 0,.slice none 0 0]].toList 8=some ([.agg [.nil,.nil,.nil,.nil,.nil,.nil,.nil,.lit (.bool false),.lit (.int .i64 0),.nil,.nil,.nil]],[],places) :=
 ⟨[],by kernel_rfl⟩
def tf(os:Os)(started:os.Started)(H:Type)(enc:TypeId×Value->H)(F:Stop.Interp) :
  ReturnsInHanded {} Tryz.checked os 3 .any ((Rows.OpenSpec.upto Rows.stripReachedSpec).preRow enc pg Tryz.f3 Rows.stripReachedUptoRow.domain false Rows.stripReachedUptoRow.laid) (((Rows.OpenSpec.upto Rows.stripReachedSpec).at F).post enc pg Tryz.f3 false true false false):=by
 obtain⟨places,hx⟩:=vI os enc;refine returnsInHanded_of_row (C:=Tryz.checked) (s:=Rows.OpenSpec.upto Rows.stripReachedSpec) own started (by kernel_rfl) Tryz.func3
  (witness_row_atRef (enc:=enc) (C:=Tryz.checked) false (yq os) #[.agg #[.slice none 0 0,.slice none 0 0,.slice none 0 0,.slice none 0 0,.slice none 0 0,.slice none 0 0,.slice none 0 0,.bool false,.int .i64 0,.slice none 0 0,.slice none 0 0,.slice none 0 0]] (World.laidAll_os _ _ _) (by kernel_rfl) (by kernel_rfl) (by kernel_rfl)
   (OpenSpec.preRow_of_cond 8 hx (by kernel_rfl) (λk hk=>by cases hk;kernel_rfl) (by kernel_rfl) (w8 os))) ?_
 intro W base args ds gs before hval hW _ hcond _ hL hS _;exact qO H enc W base args ds gs before hval hW hL hS (hcond _ rfl)
def xQ:(Rows.stripReachedUptoRow.wf (OpenSpec.ofChange Rows.stripReachedSpec))=true:=by kernel_rfl
def xR:(laidOutB pg)=true:=by kernel_rfl
def xT:(mapsRowed pg)=true:=by kernel_rfl
def xU:(Tryz.f3.params.all (pg.readableRec ·))=true:=by kernel_rfl
def xV:(namedTie pg Rows.stripReachedUptoRow.named Rows.stripReachedSpec.vars)=true:=by kernel_rfl
def xW:((Rows.stripReachedUptoRow.stops==[]))=true:=by kernel_rfl
def xX:((pg.stops==[]))=true:=by kernel_rfl
def xY:((Rows.stripReachedUptoRow.knobs==[]))=true:=by kernel_rfl
def xZ:((pg.stopKnobs==[]))=true:=by kernel_rfl
def vQ:((Rows.stripReachedUptoRow.inPlace==pg.inPlace 3))=true:=by kernel_rfl
def vR:((Rows.stripReachedUptoRow.unfollowed==pg.unfollowed 3))=true:=by kernel_rfl
def vS:((Rows.stripReachedUptoRow.recurses==pg.recurses 3))=true:=by kernel_rfl
def vT:((Rows.stripReachedUptoRow.named==pg.varsNamed 3))=true:=by kernel_rfl
def vU:((Rows.stripReachedUptoRow.maps==(Tryz.f3.params.toList++Rows.stripReachedSpec.plain.varTypes pg).any (pg.mapsRec ·)))=true:=by kernel_rfl
def vV:((Rows.stripReachedUptoRow.ifaces==(Tryz.f3.params.toList++Rows.stripReachedSpec.plain.varTypes pg).any (pg.ifacesRec ·)))=true:=by kernel_rfl
def vW:((Rows.stripReachedUptoRow.mapsOut==pg.mapsAmong Tryz.f3.resultTypes.toList))=true:=by kernel_rfl
def vX:((Rows.stripReachedUptoRow.loops==(Tryz.f3.params.toList++Rows.stripReachedSpec.plain.varTypes pg).any (pg.loopsFrom ·)))=true:=by kernel_rfl
def vY:((Rows.stripReachedUptoRow.wideKeys==(Tryz.f3.params.toList++Rows.stripReachedSpec.plain.varTypes pg++Tryz.f3.resultTypes.toList).any (pg.wideKeysFrom ·)))=true:=by kernel_rfl
def vZ:(Rows.stripReachedSpec.vars.all (pg.varReadable ·))=true:=by kernel_rfl
def v8:(Tryz.f3.resultTypes.all (λt=>pg.readableRec t&&decide (t<pg.types.size)))=true:=by kernel_rfl
def v_:((Rows.stripReachedUptoRow.ifacesOut==Tryz.f3.resultTypes.toList.any (pg.ifacesRec ·)))=true:=by kernel_rfl
def wb:((Rows.stripReachedUptoRow.loopsOut==Tryz.f3.resultTypes.toList.any (pg.loopsFrom ·)))=true:=by kernel_rfl
def wc:((Rows.stripReachedUptoRow.plainKeys==pg.plainKeys))=true:=by kernel_rfl
def we:(Rows.stripReachedUptoRow.shortTexts.isNone)=true:=by kernel_rfl
def wg:(pg.stopsHeard)=true:=by kernel_rfl
def wh:(pg.mayEnter)=true:=by kernel_rfl
def wj:((Rows.stripReachedUptoRow.lifted==pg.liftsFinal))=true:=by kernel_rfl
def wk:((pg.make==some Rows.stripReachedUptoRow.make))=true:=by kernel_rfl
def wn:((Rows.stripReachedUptoRow.kinds==(if Rows.stripReachedUptoRow.domain.isEmpty then[]else Tryz.f3.params.toList.map λt=>match pg.underlying t with|some (.int k)=>some k|_=>none)))=true:=by kernel_rfl
def wq:((Rows.stripReachedUptoRow.pinned==Rows.stripReachedUptoRow.pinnedBy))=true:=by kernel_rfl
def wu:((Rows.stripReachedUptoRow.veiled==(Tryz.f3.params.toList++Rows.stripReachedSpec.plain.varTypes pg++Tryz.f3.resultTypes.toList).any (pg.veiledRec ·)))=true:=by kernel_rfl
def wv:(Rows.stripReachedUptoRow.veiledFits pg Tryz.f3.params.toList (Tryz.f3.params.toList++Rows.stripReachedSpec.plain.varTypes pg++Tryz.f3.resultTypes.toList))=true:=by kernel_rfl
def iW{a b:Bool}(h:a=true)(g:b=true):(a&&b)=true:=by rw[h,g];rfl
def s9:joinedFacts pg 3 Tryz.f3 Rows.stripReachedSpec Rows.stripReachedUptoRow=true :=
 iW (iW (iW (iW (iW (iW (iW (iW (iW (iW (iW (iW (iW (iW (iW (iW (iW (iW (iW (iW (iW (iW (iW (iW (iW (iW (iW (iW (iW (iW (iW xQ xR) xT) xU) xV) xW) xX) xY) xZ) vQ) vR) vS) vT) vU) vV) vW) vX) vY) vZ) v8) v_) wb) wc) we) wg) wh) wj) wk) wn) wq) wu) wv
def xH:Rows.StripReachedUptoSaid :=
 OpenClaim.holds_of_cond 3 Tryz.f3 rfl rfl rfl rfl rfl rfl rfl ⟨rfl,rfl,rfl,rfl,rfl⟩ rfl rfl rfl rfl rfl (by kernel_rfl) Tryz.func3 s9
  (of_decide_eq_true (by kernel_rfl)) (by unfold Func.isWrapper;first|(rw[aF (by decide +kernel)];kernel_rfl)|(rw[ax (by decide +kernel)];exact⟨rfl,rfl⟩))
  (λos started H enc _ F=>by rw[OpenClaim.pre_eq_preRow];exact tf os started H enc F)
def vE(f:FuncId)(fn:Func)(hf:Tryz.pinned.checked.prog.funcNamed Rows.stripReachedUptoRow.func=some f)(hfn:Tryz.pinned.checked.prog.funcs[f]?=some fn) :
  false=Tryz.pinned.checked.prog.looks []/\∀(j:Nat) t,fn.params[j]?=some t->Tryz.pinned.checked.prog.wantsStandIn t=false:=by
 obtain rfl:f=3:=zA ((show pg.funcNamed Rows.stripReachedUptoRow.func=some 3 by kernel_rfl).symm.trans hf) |>.symm;obtain rfl:fn=Tryz.f3:=(zA (Tryz.func3.symm.trans hfn)).symm;refine⟨by kernel_rfl,λj t ht=>?_⟩;rw[Tryz.params3]at ht;have hm:=Array.mem_of_getElem? ht;simp only[List.mem_toArray,bp,bZ,or_false]at hm;rcases hm with rfl
 .exact(show pg.wantsStandIn 33=false by kernel_rfl)
theorem stripReachedUpto_holds:Rows.StripReachedUptoCardSaid :=
 Claim7.holds_tied_plain_at .later [] _ _ _ _ xH (λ_ h=>by cases h) (by kernel_rfl) (λ_ h=>by cases h) stripReachedUpto_row_tie rfl ⟨rfl,rfl⟩ (by kernel_rfl) rfl vE (SP adZ _ rfl)
