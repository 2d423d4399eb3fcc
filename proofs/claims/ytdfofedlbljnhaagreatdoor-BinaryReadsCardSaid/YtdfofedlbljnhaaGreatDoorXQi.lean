import Derived.Test.YtdfofedlbljnhaaGreatDoorXQb
import Derived.Test.YtdfofedlbljnhaaGreatDoorProg
import Derived.KernelRfl
noncomputable section
set_option linter.all false
set_option maxRecDepth 100000
set_option maxHeartbeats 4000000
namespace Go.Proofs.YtdfofedlbljnhaaGreatDoor
open Go Go.Mw
abbrev Af:=List UInt8
abbrev pg:Program:=Tryz.prog
def s9:pg.follows .mixedOrders=true:=by kernel_rfl
def NY:Array Func:=⟨[Bt none ""]++[Bt none ""]++[Bt none ""]++List.replicate 324 (Bt (some .skip) "")++[Bt none ""]++List.replicate 44 (Bt (some .skip) "")++[Bt none ""]++List.replicate 7 (Bt (some .skip) "")⟩
abbrev pl:Program:=⟨Tryz.progTables,NY⟩
def I1:(List.range 380).all (λf=>!bK pl f||bK pg f)=true:=by kernel_rfl
def hE0:(List.range 380).all (λf=>!eFn pl f)=true:=by kernel_rfl
def D6:NY.size=380:=by kernel_rfl
def nB(f:Nat)(h:bK pl f=true):bK pg f=true:=by
 by_cases hf:f<380
 .have:=fk.1 I1 f (List.mem_range.2 hf);rw[h]at this;simpa using this
 .unfold bK at h;rw[show pl.funcs[f]? = none from Gs (by show NY.size<=f;rw[D6];omega)]at h;cases h
def nE(f:Nat):eFn pl f=false:=by
 by_cases hf:f<380
 .have:=fk.1 hE0 f (List.mem_range.2 hf);simpa using this
 .unfold eFn;rw[show pl.funcs[f]? = none from Gs (by show NY.size<=f;rw[D6];omega)]
def aea(fn:Func)(f:FuncId)(F:ax):Prop:=lK pg f=some F
def ahB{f:FuncId}{fn:Func}{body:Code}{n np:Nat}{sh:List (List Nat)}{rs:List nS}{b:bI}(h1:Tryz.funcs[f]?=some fn)(h2:fn.body=some body)(h3:fn.ntmps=n)(h4:fn.params.size+fn.nfree=np)
  (h5:uY fn.results.toList::ej body=sh) (h6:zM pl fn.results.toList=some rs) (h7:comp pl n sh body=some b) (h8:np<=n/\n<=1000000):aea fn f ⟨n,np,rs,b⟩:=ahl nB nE h1 h2 h3 h4 h5 h6 h7 h8
def aX(fn:Func)(f:FuncId){F:ax} (h:aea fn f F:=by
 apply ahB rfl rfl
 iterate 4 (conv=>lhs;cbv)
 repeat' first|exact aex|exact ahn|exact aeu|exact ahm|apply aho|apply aet rfl|apply aaO|apply aew|apply aaQ
 all_goals first|decide|(conv=>lhs;cbv)):ax:=F
attribute[go_sem] aX
def cF(F:ax){f:FuncId}(h:lK pg f=some F:=by kernel_rfl):lK pg f=some F:=h
