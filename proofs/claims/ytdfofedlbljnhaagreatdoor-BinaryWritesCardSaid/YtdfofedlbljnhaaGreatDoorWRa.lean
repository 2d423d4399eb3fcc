import Derived.Test.YtdfofedlbljnhaaGreatDoorWQw
set_option linter.all false
set_option maxRecDepth 100000
namespace Go.Proofs.YtdfofedlbljnhaaGreatDoor
open Go Go.Mw
open Go.ChangeShapes Go.WideShapes Go.ChangeAt Go.RowKit
def Mk(xs:List AV)(h:bg Ty.okV [K1] xs)(hb:bg (Ty.bdV reachBytes) [K1] xs):ac pg 3 xs (.bool true):=by
 obtain⟨x,rfl,h0⟩:=aip h;obtain⟨g0,_⟩:=hb;obtain⟨m,hm,_,bm⟩:=aiI aa_ rfl h0;replace bm:=bm _ g0;exact xD (M1 m (agT (by decide) bm) (ab6 bm)) ⟨hm,trivial⟩
def Al:∀t∈[33],pg.readableRec t=true/\t<pg.types.size:=by
 intro t ht;simp only[eA,wH,or_false]at ht;rcases ht with rfl
 all_goals exact⟨by kernel_rfl,of_decide_eq_true (by kernel_rfl)⟩
def tD(H:Type)(enc:TypeId×Value->H)(W:World)(base:Nat)(args:Array Value)(ds gs:List (DataW H))(before:List MemPlace)
  (hval:∀(j:Nat) t v,Tryz.f3.params[j]?=some t->args[j]?=some v->Value.okWide pg W .any base t v)
  (hW:DataW.Whole enc pg Tryz.f3.params.toList Rows.binaryWritesSpec.vars false W args.toList ds gs before) (hw:(DataW.weightsEach pg (Tryz.f3.params.toList++(OpenSpec.ofChange Rows.binaryWritesSpec).bare.plain.varTypes pg) (ds++gs)).all (·<=reachBytes)=true) (hL:laidMetH pg Rows.binaryWritesRow.laid W) (hS:W.ShapedOpen pg) :
  Calls pg 3 args W λe W'=>∃v,e = .returned v/\Rows.binaryWritesSpec.post enc pg Tryz.f3 false true false false W args v W':=by
 refine ER (B:=reachBytes) (s:=Rows.binaryWritesSpec) (f:=Tryz.f3) (tb:=4) [K1] ?_ Xo ?_ rfl ?_ (by kernel_rfl) (by kernel_rfl) (Mk) W base args ds gs before (Y6 hL hS) hval hW (Vi hw)
 .rw[Tryz.params3];exact⟨⟨ag0,by kernel_rfl⟩,trivial⟩
 .rw[Tryz.params3];exact Al
 .intro ds h
  match ds,h with
  | [d0],_=>exact⟨rfl,rfl,rfl⟩
def za(os:Os):laidMet pg Rows.binaryWritesRow.laid ((Ak os).forCall (λ_ _=>0) ⟨#[],#[.agg #[.slice none 0 0,.slice none 0 0,.slice none 0 0,.slice none 0 0,.slice none 0 0,.slice none 0 0,.slice none 0 0,.bool false,.int .i64 0,.slice none 0 0,.slice none 0 0,.slice none 0 0]],[]⟩).memory :=
 laidMet_laidAll _ (by kernel_rfl) (by kernel_rfl)
def x8(os:Os){H:Type}(enc:TypeId×Value->H):∃places,DataW.whole enc pg ((Ak os).forCall (λ_ _=>0) ⟨#[],#[.agg #[.slice none 0 0,.slice none 0 0,.slice none 0 0,.slice none 0 0,.slice none 0 0,.slice none 0 0,.slice none 0 0,.bool false,.int .i64 0,.slice none 0 0,.slice none 0 0,.slice none 0 0]],[]⟩).memory Tryz.f3.params.toList Rows.binaryWritesSpec.vars false #[.agg #[.slice none 0 0,.slice none 0 0,.slice none 0 0,.slice none 0 0,.slice none 0 0,.slice none 0 0,.slice none 0 0,.bool false,.int .i64 0,.slice none 0 0,.slice none 0 0,.slice none 0 0]].toList 8=some ([.agg [.nil,.nil,.nil,.nil,.nil,.nil,.nil,.lit (.bool false),.lit (.int .i64 0),.nil,.nil,.nil]],[],places) :=
 ⟨[],by kernel_rfl⟩
def wb(os:Os)(started:os.Started)(H:Type)(enc:TypeId×Value->H)(F:Stop.Interp) :
  ReturnsInHanded {} Tryz.checked os 3 .any ((OpenSpec.ofChange Rows.binaryWritesSpec).preRow enc pg Tryz.f3 Rows.binaryWritesRow.domain false Rows.binaryWritesRow.laid) (((OpenSpec.ofChange Rows.binaryWritesSpec).at F).post enc pg Tryz.f3 false true false false):=by
 obtain⟨places,hx⟩:=x8 os enc;refine returnsInHanded_of_row (C:=Tryz.checked) (s:=OpenSpec.ofChange Rows.binaryWritesSpec) own started (by kernel_rfl) Tryz.func3
  (witness_row_atRef (enc:=enc) (C:=Tryz.checked) false (Ak os) #[.agg #[.slice none 0 0,.slice none 0 0,.slice none 0 0,.slice none 0 0,.slice none 0 0,.slice none 0 0,.slice none 0 0,.bool false,.int .i64 0,.slice none 0 0,.slice none 0 0,.slice none 0 0]] (World.laidAll_os _ _ _) (by kernel_rfl) (by kernel_rfl) (by kernel_rfl)
   (OpenSpec.preRow_of_cond 8 hx (by kernel_rfl) (λk hk=>by cases hk) (by kernel_rfl) (za os))) ?_
 intro W base args ds gs before hval hW _ _ hw hL hS _;exact tD H enc W base args ds gs before hval hW hw hL hS
def zK:(Rows.binaryWritesRow.wf (OpenSpec.ofChange Rows.binaryWritesSpec))=true:=by kernel_rfl
def zL:(laidOutB pg)=true:=by kernel_rfl
def zM:(mapsRowed pg)=true:=by kernel_rfl
def zN:(Tryz.f3.params.all (pg.readableRec ·))=true:=by kernel_rfl
def zO:(namedTie pg Rows.binaryWritesRow.named Rows.binaryWritesSpec.vars)=true:=by kernel_rfl
def zP:((Rows.binaryWritesRow.stops==[]))=true:=by kernel_rfl
def zQ:((pg.stops==[]))=true:=by kernel_rfl
def zR:((Rows.binaryWritesRow.knobs==[]))=true:=by kernel_rfl
def zS:((pg.stopKnobs==[]))=true:=by kernel_rfl
def yc:((Rows.binaryWritesRow.inPlace==pg.inPlace 3))=true:=by kernel_rfl
def yd:((Rows.binaryWritesRow.unfollowed==pg.unfollowed 3))=true:=by kernel_rfl
def ye:((Rows.binaryWritesRow.recurses==pg.recurses 3))=true:=by kernel_rfl
def yf:((Rows.binaryWritesRow.named==pg.varsNamed 3))=true:=by kernel_rfl
def yg:((Rows.binaryWritesRow.maps==(Tryz.f3.params.toList++Rows.binaryWritesSpec.plain.varTypes pg).any (pg.mapsRec ·)))=true:=by kernel_rfl
def yh:((Rows.binaryWritesRow.ifaces==(Tryz.f3.params.toList++Rows.binaryWritesSpec.plain.varTypes pg).any (pg.ifacesRec ·)))=true:=by kernel_rfl
def yi:((Rows.binaryWritesRow.mapsOut==pg.mapsAmong Tryz.f3.resultTypes.toList))=true:=by kernel_rfl
def yj:((Rows.binaryWritesRow.loops==(Tryz.f3.params.toList++Rows.binaryWritesSpec.plain.varTypes pg).any (pg.loopsFrom ·)))=true:=by kernel_rfl
def yk:((Rows.binaryWritesRow.wideKeys==(Tryz.f3.params.toList++Rows.binaryWritesSpec.plain.varTypes pg++Tryz.f3.resultTypes.toList).any (pg.wideKeysFrom ·)))=true:=by kernel_rfl
def yl:(Rows.binaryWritesSpec.vars.all (pg.varReadable ·))=true:=by kernel_rfl
def ym:(Tryz.f3.resultTypes.all (λt=>pg.readableRec t&&decide (t<pg.types.size)))=true:=by kernel_rfl
def yn:((Rows.binaryWritesRow.ifacesOut==Tryz.f3.resultTypes.toList.any (pg.ifacesRec ·)))=true:=by kernel_rfl
def yo:((Rows.binaryWritesRow.loopsOut==Tryz.f3.resultTypes.toList.any (pg.loopsFrom ·)))=true:=by kernel_rfl
def yp:((Rows.binaryWritesRow.plainKeys==pg.plainKeys))=true:=by kernel_rfl
def yq:(Rows.binaryWritesRow.shortTexts.isNone)=true:=by kernel_rfl
def yr:(pg.stopsHeard)=true:=by kernel_rfl
def yt:(pg.mayEnter)=true:=by kernel_rfl
def yu:((Rows.binaryWritesRow.lifted==pg.liftsFinal))=true:=by kernel_rfl
def yw:((pg.make==some Rows.binaryWritesRow.make))=true:=by kernel_rfl
def yx:((Rows.binaryWritesRow.kinds==(if Rows.binaryWritesRow.domain.isEmpty then[]else Tryz.f3.params.toList.map λt=>match pg.underlying t with|some (.int k)=>some k|_=>none)))=true:=by kernel_rfl
def yy:((Rows.binaryWritesRow.pinned==Rows.binaryWritesRow.pinnedBy))=true:=by kernel_rfl
def yz:((Rows.binaryWritesRow.veiled==(Tryz.f3.params.toList++Rows.binaryWritesSpec.plain.varTypes pg++Tryz.f3.resultTypes.toList).any (pg.veiledRec ·)))=true:=by kernel_rfl
def yA:(Rows.binaryWritesRow.veiledFits pg Tryz.f3.params.toList (Tryz.f3.params.toList++Rows.binaryWritesSpec.plain.varTypes pg++Tryz.f3.resultTypes.toList))=true:=by kernel_rfl
def jf{a b:Bool}(h:a=true)(g:b=true):(a&&b)=true:=by rw[h,g];rfl
def v8:joinedFacts pg 3 Tryz.f3 Rows.binaryWritesSpec Rows.binaryWritesRow=true :=
 jf (jf (jf (jf (jf (jf (jf (jf (jf (jf (jf (jf (jf (jf (jf (jf (jf (jf (jf (jf (jf (jf (jf (jf (jf (jf (jf (jf (jf (jf (jf zK zL) zM) zN) zO) zP) zQ) zR) zS) yc) yd) ye) yf) yg) yh) yi) yj) yk) yl) ym) yn) yo) yp) yq) yr) yt) yu) yw) yx) yy) yz) yA
def zD:Rows.BinaryWritesSaid :=
 OpenClaim.holds_of_cond 3 Tryz.f3 rfl rfl rfl rfl rfl rfl rfl ⟨rfl,rfl,rfl,rfl,rfl⟩ rfl rfl rfl rfl rfl (by kernel_rfl) Tryz.func3 v8
  (of_decide_eq_true (by kernel_rfl)) (by unfold Func.isWrapper;first|(rw[aF (by decide +kernel)];kernel_rfl)|(rw[au (by decide +kernel)];exact⟨rfl,rfl⟩))
  (λos started H enc _ F=>by rw[OpenClaim.pre_eq_preRow];exact wb os started H enc F)
def x4(f:FuncId)(fn:Func)(hf:Tryz.pinned.checked.prog.funcNamed Rows.binaryWritesRow.func=some f)(hfn:Tryz.pinned.checked.prog.funcs[f]?=some fn) :
  false=Tryz.pinned.checked.prog.looks []/\∀(j:Nat) t,fn.params[j]?=some t->Tryz.pinned.checked.prog.wantsStandIn t=false:=by
 obtain rfl:f=3:=Er ((show pg.funcNamed Rows.binaryWritesRow.func=some 3 by kernel_rfl).symm.trans hf) |>.symm;obtain rfl:fn=Tryz.f3:=(Er (Tryz.func3.symm.trans hfn)).symm;refine⟨by kernel_rfl,λj t ht=>?_⟩;rw[Tryz.params3]at ht;have hm:=Array.mem_of_getElem? ht;simp only[List.mem_toArray,eA,wH,or_false]at hm;rcases hm with rfl
 .exact(show pg.wantsStandIn 33=false by kernel_rfl)
theorem binaryWrites_holds:Rows.BinaryWritesCardSaid :=
 Claim7.holds_tied_plain_at .later [] _ _ _ _ zD (λ_ h=>by cases h) (by kernel_rfl) (λ_ h=>by cases h) binaryWrites_row_tie rfl ⟨rfl,rfl⟩ (by kernel_rfl) rfl x4 (WJ ah6 _ rfl)
