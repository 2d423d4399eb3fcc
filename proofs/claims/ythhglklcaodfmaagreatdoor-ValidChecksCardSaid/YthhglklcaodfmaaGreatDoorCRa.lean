import Derived.Test.YthhglklcaodfmaaGreatDoorCQw
set_option linter.all false
set_option maxRecDepth 100000
namespace Go.Proofs.YthhglklcaodfmaaGreatDoor
open Go Go.Mw
open Go.ChangeShapes Go.WideShapes Go.ChangeAt Go.RowKit
def N1(xs:List AV)(h:bg Ty.okV [My] xs)(hb:bg (Ty.bdV reachBytes) [My] xs):aj pg 3 xs (.bool true):=by
 obtain⟨x,rfl,h0⟩:=alo h;obtain⟨g0,_⟩:=hb;obtain⟨m,hm,_,bm⟩:=alu aee rfl h0;replace bm:=bm _ g0;exact nN (XR m (ajU (by decide) bm)) ⟨hm,trivial⟩
def Co:∀t∈[33],pg.readableRec t=true/\t<pg.types.size:=by
 intro t ht;simp only[bM,cH,or_false]at ht;rcases ht with rfl
 all_goals exact⟨by kernel_rfl,of_decide_eq_true (by kernel_rfl)⟩
def ux(H:Type)(enc:TypeId×Value->H)(W:World)(base:Nat)(args:Array Value)(ds gs:List (DataW H))(before:List MemPlace)
  (hval:∀(j:Nat) t v,Tryz.f3.params[j]?=some t->args[j]?=some v->Value.okWide pg W .any base t v)
  (hW:DataW.Whole enc pg Tryz.f3.params.toList Rows.validChecksSpec.vars false W args.toList ds gs before) (hw:(DataW.weightsEach pg (Tryz.f3.params.toList++(OpenSpec.ofChange Rows.validChecksSpec).bare.plain.varTypes pg) (ds++gs)).all (·<=reachBytes)=true) (hL:laidMetH pg Rows.validChecksRow.laid W) (hS:W.ShapedOpen pg) :
  Calls pg 3 args W λe W'=>∃v,e = .returned v/\Rows.validChecksSpec.post enc pg Tryz.f3 false true false false W args v W':=by
 refine FI (B:=reachBytes) (s:=Rows.validChecksSpec) (f:=Tryz.f3) (tb:=4) [My] ?_ aao ?_ rfl ?_ (by kernel_rfl) (by kernel_rfl) (N1) W base args ds gs before (abQ hL hS) hval hW (XQ hw)
 .rw[Tryz.params3];exact⟨⟨aj4,by kernel_rfl⟩,trivial⟩
 .rw[Tryz.params3];exact Co
 .intro ds h
  match ds,h with
  | [d0],_=>exact⟨rfl,rfl,rfl⟩
def AR(os:Os):laidMet pg Rows.validChecksRow.laid ((AQ os).forCall (λ_ _=>0) ⟨#[],#[.agg #[.slice none 0 0,.slice none 0 0,.slice none 0 0,.slice none 0 0,.slice none 0 0,.slice none 0 0,.slice none 0 0,.bool false,.int .i64 0,.slice none 0 0,.slice none 0 0,.slice none 0 0]],[]⟩).memory :=
 laidMet_laidAll _ (by kernel_rfl) (by kernel_rfl)
def zP(os:Os){H:Type}(enc:TypeId×Value->H):∃places,DataW.whole enc pg ((AQ os).forCall (λ_ _=>0) ⟨#[],#[.agg #[.slice none 0 0,.slice none 0 0,.slice none 0 0,.slice none 0 0,.slice none 0 0,.slice none 0 0,.slice none 0 0,.bool false,.int .i64 0,.slice none 0 0,.slice none 0 0,.slice none 0 0]],[]⟩).memory Tryz.f3.params.toList Rows.validChecksSpec.vars false #[.agg #[.slice none 0 0,.slice none 0 0,.slice none 0 0,.slice none 0 0,.slice none 0 0,.slice none 0 0,.slice none 0 0,.bool false,.int .i64 0,.slice none 0 0,.slice none 0 0,.slice none 0 0]].toList 8=some ([.agg [.nil,.nil,.nil,.nil,.nil,.nil,.nil,.lit (.bool false),.lit (.int .i64 0),.nil,.nil,.nil]],[],places) :=
 ⟨[],by kernel_rfl⟩
def x9(os:Os)(started:os.Started)(H:Type)(enc:TypeId×Value->H)(F:Stop.Interp) :
  ReturnsInHanded {} Tryz.checked os 3 .any ((OpenSpec.ofChange Rows.validChecksSpec).preRow enc pg Tryz.f3 Rows.validChecksRow.domain false Rows.validChecksRow.laid) (((OpenSpec.ofChange Rows.validChecksSpec).at F).post enc pg Tryz.f3 false true false false):=by
 obtain⟨places,hx⟩:=zP os enc;refine returnsInHanded_of_row (C:=Tryz.checked) (s:=OpenSpec.ofChange Rows.validChecksSpec) own started (by kernel_rfl) Tryz.func3
  (witness_row_atRef (enc:=enc) (C:=Tryz.checked) false (AQ os) #[.agg #[.slice none 0 0,.slice none 0 0,.slice none 0 0,.slice none 0 0,.slice none 0 0,.slice none 0 0,.slice none 0 0,.bool false,.int .i64 0,.slice none 0 0,.slice none 0 0,.slice none 0 0]] (World.laidAll_os _ _ _) (by kernel_rfl) (by kernel_rfl) (by kernel_rfl)
   (OpenSpec.preRow_of_cond 8 hx (by kernel_rfl) (λk hk=>by cases hk) (by kernel_rfl) (AR os))) ?_
 intro W base args ds gs before hval hW _ _ hw hL hS _;exact ux H enc W base args ds gs before hval hW hw hL hS
def Bj:(Rows.validChecksRow.wf (OpenSpec.ofChange Rows.validChecksSpec))=true:=by kernel_rfl
def Bl:(laidOutB pg)=true:=by kernel_rfl
def Bm:(mapsRowed pg)=true:=by kernel_rfl
def Bn:(Tryz.f3.params.all (pg.readableRec ·))=true:=by kernel_rfl
def Bo:(namedTie pg Rows.validChecksRow.named Rows.validChecksSpec.vars)=true:=by kernel_rfl
def Bp:((Rows.validChecksRow.stops==[]))=true:=by kernel_rfl
def Bq:((pg.stops==[]))=true:=by kernel_rfl
def Br:((Rows.validChecksRow.knobs==[]))=true:=by kernel_rfl
def Bs:((pg.stopKnobs==[]))=true:=by kernel_rfl
def Ab:((Rows.validChecksRow.inPlace==pg.inPlace 3))=true:=by kernel_rfl
def Ac:((Rows.validChecksRow.unfollowed==pg.unfollowed 3))=true:=by kernel_rfl
def Ad:((Rows.validChecksRow.recurses==pg.recurses 3))=true:=by kernel_rfl
def Ae:((Rows.validChecksRow.named==pg.varsNamed 3))=true:=by kernel_rfl
def Af:((Rows.validChecksRow.maps==(Tryz.f3.params.toList++Rows.validChecksSpec.plain.varTypes pg).any (pg.mapsRec ·)))=true:=by kernel_rfl
def Ag:((Rows.validChecksRow.ifaces==(Tryz.f3.params.toList++Rows.validChecksSpec.plain.varTypes pg).any (pg.ifacesRec ·)))=true:=by kernel_rfl
def Ah:((Rows.validChecksRow.mapsOut==pg.mapsAmong Tryz.f3.resultTypes.toList))=true:=by kernel_rfl
def Ai:((Rows.validChecksRow.loops==(Tryz.f3.params.toList++Rows.validChecksSpec.plain.varTypes pg).any (pg.loopsFrom ·)))=true:=by kernel_rfl
def Aj:((Rows.validChecksRow.wideKeys==(Tryz.f3.params.toList++Rows.validChecksSpec.plain.varTypes pg++Tryz.f3.resultTypes.toList).any (pg.wideKeysFrom ·)))=true:=by kernel_rfl
def Ak:(Rows.validChecksSpec.vars.all (pg.varReadable ·))=true:=by kernel_rfl
def Al:(Tryz.f3.resultTypes.all (λt=>pg.readableRec t&&decide (t<pg.types.size)))=true:=by kernel_rfl
def Am:((Rows.validChecksRow.ifacesOut==Tryz.f3.resultTypes.toList.any (pg.ifacesRec ·)))=true:=by kernel_rfl
def An:((Rows.validChecksRow.loopsOut==Tryz.f3.resultTypes.toList.any (pg.loopsFrom ·)))=true:=by kernel_rfl
def Ao:((Rows.validChecksRow.plainKeys==pg.plainKeys))=true:=by kernel_rfl
def Ap:(Rows.validChecksRow.shortTexts.isNone)=true:=by kernel_rfl
def Aq:(pg.stopsHeard)=true:=by kernel_rfl
def Ar:(pg.mayEnter)=true:=by kernel_rfl
def As:((Rows.validChecksRow.lifted==pg.liftsFinal))=true:=by kernel_rfl
def At:((pg.make==some Rows.validChecksRow.make))=true:=by kernel_rfl
def Au:((Rows.validChecksRow.kinds==(if Rows.validChecksRow.domain.isEmpty then[]else Tryz.f3.params.toList.map λt=>match pg.underlying t with|some (.int k)=>some k|_=>none)))=true:=by kernel_rfl
def Av:((Rows.validChecksRow.pinned==Rows.validChecksRow.pinnedBy))=true:=by kernel_rfl
def Aw:((Rows.validChecksRow.veiled==(Tryz.f3.params.toList++Rows.validChecksSpec.plain.varTypes pg++Tryz.f3.resultTypes.toList).any (pg.veiledRec ·)))=true:=by kernel_rfl
def Ax:(Rows.validChecksRow.veiledFits pg Tryz.f3.params.toList (Tryz.f3.params.toList++Rows.validChecksSpec.plain.varTypes pg++Tryz.f3.resultTypes.toList))=true:=by kernel_rfl
def jP{a b:Bool}(h:a=true)(g:b=true):(a&&b)=true:=by rw[h,g];rfl
def xW:joinedFacts pg 3 Tryz.f3 Rows.validChecksSpec Rows.validChecksRow=true :=
 jP (jP (jP (jP (jP (jP (jP (jP (jP (jP (jP (jP (jP (jP (jP (jP (jP (jP (jP (jP (jP (jP (jP (jP (jP (jP (jP (jP (jP (jP (jP Bj Bl) Bm) Bn) Bo) Bp) Bq) Br) Bs) Ab) Ac) Ad) Ae) Af) Ag) Ah) Ai) Aj) Ak) Al) Am) An) Ao) Ap) Aq) Ar) As) At) Au) Av) Aw) Ax
def Bf:Rows.ValidChecksSaid :=
 OpenClaim.holds_of_cond 3 Tryz.f3 rfl rfl rfl rfl rfl rfl rfl ⟨rfl,rfl,rfl,rfl,rfl⟩ rfl rfl rfl rfl rfl (by kernel_rfl) Tryz.func3 xW
  (of_decide_eq_true (by kernel_rfl)) (by unfold Func.isWrapper;first|(rw[az (by decide +kernel)];kernel_rfl)|(rw[an (by decide +kernel)];exact⟨rfl,rfl⟩))
  (λos started H enc _ F=>by rw[OpenClaim.pre_eq_preRow];exact x9 os started H enc F)
def zL(f:FuncId)(fn:Func)(hf:Tryz.pinned.checked.prog.funcNamed Rows.validChecksRow.func=some f)(hfn:Tryz.pinned.checked.prog.funcs[f]?=some fn) :
  false=Tryz.pinned.checked.prog.looks []/\∀(j:Nat) t,fn.params[j]?=some t->Tryz.pinned.checked.prog.wantsStandIn t=false:=by
 obtain rfl:f=3:=Ce ((show pg.funcNamed Rows.validChecksRow.func=some 3 by kernel_rfl).symm.trans hf) |>.symm;obtain rfl:fn=Tryz.f3:=(Ce (Tryz.func3.symm.trans hfn)).symm;refine⟨by kernel_rfl,λj t ht=>?_⟩;rw[Tryz.params3]at ht;have hm:=Array.mem_of_getElem? ht;simp only[List.mem_toArray,bM,cH,or_false]at hm;rcases hm with rfl
 .exact(show pg.wantsStandIn 33=false by kernel_rfl)
theorem validChecks_holds:Rows.ValidChecksCardSaid :=
 Claim7.holds_tied_plain_at .later [] _ _ _ _ Bf (λ_ h=>by cases h) (by kernel_rfl) (λ_ h=>by cases h) validChecks_row_tie rfl ⟨rfl,rfl⟩ (by kernel_rfl) rfl zL (ZA ak5 _ rfl)
