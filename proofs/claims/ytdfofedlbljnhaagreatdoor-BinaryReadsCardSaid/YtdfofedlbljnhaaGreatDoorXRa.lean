import Derived.Test.YtdfofedlbljnhaaGreatDoorXQw
set_option linter.all false
set_option maxRecDepth 100000
namespace Go.Proofs.YtdfofedlbljnhaaGreatDoor
open Go Go.Mw
open Go.ChangeShapes Go.WideShapes Go.ChangeAt Go.RowKit
def Pu(xs:List AV)(h:aZ Ty.okV [.sl (.int .u8)] xs)(hb:aZ (Ty.bdV reachBytes) [.sl (.int .u8)] xs):aj pg 9 xs (.bool true):=by
 obtain⟨x,rfl,h0⟩:=aic h;obtain⟨g0,_⟩:=hb;obtain⟨m,hm,bm,_⟩:=aiQ aeM h0;exact r7 (PY m (m8 bm.1 Jh)) ⟨hm,trivial⟩
def BD:∀t∈[36],pg.readableRec t=true/\t<pg.types.size:=by
 intro t ht;simp only[dQ,tN,or_false]at ht;rcases ht with rfl
 all_goals exact⟨by kernel_rfl,of_decide_eq_true (by kernel_rfl)⟩
def uC(H:Type)(enc:TypeId×Value->H)(W:World)(base:Nat)(args:Array Value)(ds gs:List (DataW H))(before:List MemPlace)
  (hval:∀(j:Nat) t v,Tryz.f9.params[j]?=some t->args[j]?=some v->Value.okWide pg W .any base t v)
  (hW:DataW.Whole enc pg Tryz.f9.params.toList Rows.binaryReadsSpec.vars false W args.toList ds gs before) (hw:(DataW.weightsEach pg (Tryz.f9.params.toList++(OpenSpec.ofChange Rows.binaryReadsSpec).bare.plain.varTypes pg) (ds++gs)).all (·<=reachBytes)=true) (hL:laidMetH pg Rows.binaryReadsRow.laid W) (hS:W.ShapedOpen pg) :
  Calls pg 9 args W λe W'=>∃v,e = .returned v/\Rows.binaryReadsSpec.post enc pg Tryz.f9 false true false false W args v W':=by
 refine EG (B:=reachBytes) (s:=Rows.binaryReadsSpec) (f:=Tryz.f9) (tb:=4) [.sl (.int .u8)] ?_ Xo ?_ rfl ?_ (by kernel_rfl) (by kernel_rfl) (Pu) W base args ds gs before (Zd hL hS) hval hW (Vp hw)
 .rw[Tryz.params9];exact⟨⟨agE,by kernel_rfl⟩,trivial⟩
 .rw[Tryz.params9];exact BD
 .intro ds h
  match ds,h with
  | [d0],_=>exact⟨rfl,rfl,rfl⟩
def zZ(os:Os):laidMet pg Rows.binaryReadsRow.laid ((zY os).forCall (λ_ _=>0) ⟨#[],#[.slice none 0 0],[]⟩).memory :=
 laidMet_laidAll _ (by kernel_rfl) (by kernel_rfl)
def yR(os:Os){H:Type}(enc:TypeId×Value->H):∃places,DataW.whole enc pg ((zY os).forCall (λ_ _=>0) ⟨#[],#[.slice none 0 0],[]⟩).memory Tryz.f9.params.toList Rows.binaryReadsSpec.vars false #[.slice none 0 0].toList 8=some ([.nil],[],places) :=
 ⟨[],by kernel_rfl⟩
def xq(os:Os)(started:os.Started)(H:Type)(enc:TypeId×Value->H)(F:Stop.Interp) :
  ReturnsInHanded {} Tryz.checked os 9 .any ((OpenSpec.ofChange Rows.binaryReadsSpec).preRow enc pg Tryz.f9 Rows.binaryReadsRow.domain false Rows.binaryReadsRow.laid) (((OpenSpec.ofChange Rows.binaryReadsSpec).at F).post enc pg Tryz.f9 false true false false):=by
 obtain⟨places,hx⟩:=yR os enc;refine returnsInHanded_of_row (C:=Tryz.checked) (s:=OpenSpec.ofChange Rows.binaryReadsSpec) own started (by kernel_rfl) Tryz.func9
  (witness_row_atRef (enc:=enc) (C:=Tryz.checked) false (zY os) #[.slice none 0 0] (World.laidAll_os _ _ _) (by kernel_rfl) (by kernel_rfl) (by kernel_rfl)
   (OpenSpec.preRow_of_cond 8 hx (by kernel_rfl) (λk hk=>by cases hk) (by kernel_rfl) (zZ os))) ?_
 intro W base args ds gs before hval hW _ _ hw hL hS _;exact uC H enc W base args ds gs before hval hW hw hL hS
def Ay:(Rows.binaryReadsRow.wf (OpenSpec.ofChange Rows.binaryReadsSpec))=true:=by kernel_rfl
def Az:(laidOutB pg)=true:=by kernel_rfl
def AA:(mapsRowed pg)=true:=by kernel_rfl
def AB:(Tryz.f9.params.all (pg.readableRec ·))=true:=by kernel_rfl
def AC:(namedTie pg Rows.binaryReadsRow.named Rows.binaryReadsSpec.vars)=true:=by kernel_rfl
def AD:((Rows.binaryReadsRow.stops==[]))=true:=by kernel_rfl
def AE:((pg.stops==[]))=true:=by kernel_rfl
def AF:((Rows.binaryReadsRow.knobs==[]))=true:=by kernel_rfl
def AG:((pg.stopKnobs==[]))=true:=by kernel_rfl
def zb:((Rows.binaryReadsRow.inPlace==pg.inPlace 9))=true:=by kernel_rfl
def zc:((Rows.binaryReadsRow.unfollowed==pg.unfollowed 9))=true:=by kernel_rfl
def zd:((Rows.binaryReadsRow.recurses==pg.recurses 9))=true:=by kernel_rfl
def ze:((Rows.binaryReadsRow.named==pg.varsNamed 9))=true:=by kernel_rfl
def zf:((Rows.binaryReadsRow.maps==(Tryz.f9.params.toList++Rows.binaryReadsSpec.plain.varTypes pg).any (pg.mapsRec ·)))=true:=by kernel_rfl
def zg:((Rows.binaryReadsRow.ifaces==(Tryz.f9.params.toList++Rows.binaryReadsSpec.plain.varTypes pg).any (pg.ifacesRec ·)))=true:=by kernel_rfl
def zh:((Rows.binaryReadsRow.mapsOut==pg.mapsAmong Tryz.f9.resultTypes.toList))=true:=by kernel_rfl
def zi:((Rows.binaryReadsRow.loops==(Tryz.f9.params.toList++Rows.binaryReadsSpec.plain.varTypes pg).any (pg.loopsFrom ·)))=true:=by kernel_rfl
def zj:((Rows.binaryReadsRow.wideKeys==(Tryz.f9.params.toList++Rows.binaryReadsSpec.plain.varTypes pg++Tryz.f9.resultTypes.toList).any (pg.wideKeysFrom ·)))=true:=by kernel_rfl
def zk:(Rows.binaryReadsSpec.vars.all (pg.varReadable ·))=true:=by kernel_rfl
def zl:(Tryz.f9.resultTypes.all (λt=>pg.readableRec t&&decide (t<pg.types.size)))=true:=by kernel_rfl
def zm:((Rows.binaryReadsRow.ifacesOut==Tryz.f9.resultTypes.toList.any (pg.ifacesRec ·)))=true:=by kernel_rfl
def zn:((Rows.binaryReadsRow.loopsOut==Tryz.f9.resultTypes.toList.any (pg.loopsFrom ·)))=true:=by kernel_rfl
def zo:((Rows.binaryReadsRow.plainKeys==pg.plainKeys))=true:=by kernel_rfl
def zp:(Rows.binaryReadsRow.shortTexts.isNone)=true:=by kernel_rfl
def zq:(pg.stopsHeard)=true:=by kernel_rfl
def zr:(pg.mayEnter)=true:=by kernel_rfl
def zt:((Rows.binaryReadsRow.lifted==pg.liftsFinal))=true:=by kernel_rfl
def zu:((pg.make==some Rows.binaryReadsRow.make))=true:=by kernel_rfl
def zw:((Rows.binaryReadsRow.kinds==(if Rows.binaryReadsRow.domain.isEmpty then[]else Tryz.f9.params.toList.map λt=>match pg.underlying t with|some (.int k)=>some k|_=>none)))=true:=by kernel_rfl
def zx:((Rows.binaryReadsRow.pinned==Rows.binaryReadsRow.pinnedBy))=true:=by kernel_rfl
def zy:((Rows.binaryReadsRow.veiled==(Tryz.f9.params.toList++Rows.binaryReadsSpec.plain.varTypes pg++Tryz.f9.resultTypes.toList).any (pg.veiledRec ·)))=true:=by kernel_rfl
def zA:(Rows.binaryReadsRow.veiledFits pg Tryz.f9.params.toList (Tryz.f9.params.toList++Rows.binaryReadsSpec.plain.varTypes pg++Tryz.f9.resultTypes.toList))=true:=by kernel_rfl
def jk{a b:Bool}(h:a=true)(g:b=true):(a&&b)=true:=by rw[h,g];rfl
def xj:joinedFacts pg 9 Tryz.f9 Rows.binaryReadsSpec Rows.binaryReadsRow=true :=
 jk (jk (jk (jk (jk (jk (jk (jk (jk (jk (jk (jk (jk (jk (jk (jk (jk (jk (jk (jk (jk (jk (jk (jk (jk (jk (jk (jk (jk (jk (jk Ay Az) AA) AB) AC) AD) AE) AF) AG) zb) zc) zd) ze) zf) zg) zh) zi) zj) zk) zl) zm) zn) zo) zp) zq) zr) zt) zu) zw) zx) zy) zA
def As:Rows.BinaryReadsSaid :=
 OpenClaim.holds_of_cond 9 Tryz.f9 rfl rfl rfl rfl rfl rfl rfl ⟨rfl,rfl,rfl,rfl,rfl⟩ rfl rfl rfl rfl rfl (by kernel_rfl) Tryz.func9 xj
  (of_decide_eq_true (by kernel_rfl)) (by unfold Func.isWrapper;first|(rw[au (by decide +kernel)];kernel_rfl)|(rw[ak (by decide +kernel)];exact⟨rfl,rfl⟩))
  (λos started H enc _ F=>by rw[OpenClaim.pre_eq_preRow];exact xq os started H enc F)
def yM(f:FuncId)(fn:Func)(hf:Tryz.pinned.checked.prog.funcNamed Rows.binaryReadsRow.func=some f)(hfn:Tryz.pinned.checked.prog.funcs[f]?=some fn) :
  false=Tryz.pinned.checked.prog.looks []/\∀(j:Nat) t,fn.params[j]?=some t->Tryz.pinned.checked.prog.wantsStandIn t=false:=by
 obtain rfl:f=9:=zB ((show pg.funcNamed Rows.binaryReadsRow.func=some 9 by kernel_rfl).symm.trans hf) |>.symm;obtain rfl:fn=Tryz.f9:=(zB (Tryz.func9.symm.trans hfn)).symm;refine⟨by kernel_rfl,λj t ht=>?_⟩;rw[Tryz.params9]at ht;have hm:=Array.mem_of_getElem? ht;simp only[List.mem_toArray,dQ,tN,or_false]at hm;rcases hm with rfl
 .exact(show pg.wantsStandIn 36=false by kernel_rfl)
theorem binaryReads_holds:Rows.BinaryReadsCardSaid :=
 Claim7.holds_tied_plain_at .later [] _ _ _ _ As (λ_ h=>by cases h) (by kernel_rfl) (λ_ h=>by cases h) binaryReads_row_tie rfl ⟨rfl,rfl⟩ (by kernel_rfl) rfl yM (WH ahQ _ rfl)
