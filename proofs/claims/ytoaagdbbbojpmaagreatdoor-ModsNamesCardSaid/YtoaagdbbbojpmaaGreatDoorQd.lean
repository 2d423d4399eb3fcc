/-
  Chapter 5 in plain Lean: the table of opcodes.
-/
import Derived.Test.YtoaagdbbbojpmaaGreatDoorQi
import Derived.Test.YtoaagdbbbojpmaaGreatDoorQc
import Derived.Shelf.Unicode.DecodeSlow
import Derived.Shelf.Strings.Search3
import Derived.Shelf.Strings.Fields
import Derived.Shelf.Abstract
import Derived.WalkKit
import Derived.OwnWalkIn
import Derived.TacticsInMore
import Derived.LoopNIn
import Derived.LoopIn
set_option linter.unusedVariables false
set_option linter.unusedSimpArgs false
set_option linter.unusedSectionVars false
set_option maxRecDepth 100000
set_option linter.unusedVariables false
namespace Go.Proofs.YtoaagdbbbojpmaaGreatDoor
open Go Go.Mw

structure Hr where
  f:Int
  h:List UInt8
  t:List UInt8
structure Oc where
  op:Int
  nm:List UInt8
  im:Int
def hr_ (r:Hr):List AV:=[.int .i64 r.f,.str r.h,.str r.t]
instance:Inhabited Hr:=⟨⟨0,[],[]⟩⟩
instance:Inhabited Oc:=⟨⟨0,[],0⟩⟩
def HR:List Hr:=[⟨0,[],[117,110,114,101,97,99,104,97,98,108,101,32,110,111,112,32,98,108,111,99,107,32,108,111,111,112,32,105,102,32,101,108,115,101]⟩,
  ⟨11,[],[101,110,100,32,98,114,32,98,114,95,105,102,32,98,114,95,116,97,98,108,101,32,114,101,116,117,114,110,32,99,97,108,108,32,99,97,108,108,95,105,110,100,105,114,101,99,116]⟩,
  ⟨26,[],[100,114,111,112,32,115,101,108,101,99,116,32,115,101,108,101,99,116]⟩,
  ⟨32,[108,111,99,97,108,46],[103,101,116,32,115,101,116,32,116,101,101]⟩,
  ⟨35,[103,108,111,98,97,108,46],[103,101,116,32,115,101,116]⟩,
  ⟨37,[116,97,98,108,101,46],[103,101,116,32,115,101,116]⟩,
  ⟨40,[],[105,51,50,46,108,111,97,100,32,105,54,52,46,108,111,97,100]⟩,
  ⟨44,[105,51,50,46],[108,111,97,100,56,95,115,32,108,111,97,100,56,95,117,32,108,111,97,100,49,54,95,115,32,108,111,97,100,49,54,95,117]⟩,
  ⟨48,[105,54,52,46],[108,111,97,100,56,95,115,32,108,111,97,100,56,95,117,32,108,111,97,100,49,54,95,115,32,108,111,97,100,49,54,95,117,32,108,111,97,100,51,50,95,115,32,108,111,97,100,51,50,95,117]⟩,
  ⟨54,[],[105,51,50,46,115,116,111,114,101,32,105,54,52,46,115,116,111,114,101]⟩,
  ⟨58,[105,51,50,46],[115,116,111,114,101,56,32,115,116,111,114,101,49,54]⟩,
  ⟨60,[105,54,52,46],[115,116,111,114,101,56,32,115,116,111,114,101,49,54,32,115,116,111,114,101,51,50]⟩,
  ⟨63,[109,101,109,111,114,121,46],[115,105,122,101,32,103,114,111,119]⟩,
  ⟨65,[],[105,51,50,46,99,111,110,115,116,32,105,54,52,46,99,111,110,115,116]⟩,
  ⟨69,[105,51,50,46],[101,113,122,32,101,113,32,110,101,32,108,116,95,115,32,108,116,95,117,32,103,116,95,115,32,103,116,95,117,32,108,101,95,115,32,108,101,95,117,32,103,101,95,115,32,103,101,95,117]⟩,
  ⟨80,[105,54,52,46],[101,113,122,32,101,113,32,110,101,32,108,116,95,115,32,108,116,95,117,32,103,116,95,115,32,103,116,95,117,32,108,101,95,115,32,108,101,95,117,32,103,101,95,115,32,103,101,95,117]⟩,
  ⟨103,[105,51,50,46],[99,108,122,32,99,116,122,32,112,111,112,99,110,116,32,97,100,100,32,115,117,98,32,109,117,108,32,100,105,118,95,115,32,100,105,118,95,117,32,114,101,109,95,115,32,114,101,109,95,117,32,97,110,100,32,111,114,32,120,111,114,32,115,104,108,32,115,104,114,95,115,32,115,104,114,95,117,32,114,111,116,108,32,114,111,116,114]⟩,
  ⟨121,[105,54,52,46],[99,108,122,32,99,116,122,32,112,111,112,99,110,116,32,97,100,100,32,115,117,98,32,109,117,108,32,100,105,118,95,115,32,100,105,118,95,117,32,114,101,109,95,115,32,114,101,109,95,117,32,97,110,100,32,111,114,32,120,111,114,32,115,104,108,32,115,104,114,95,115,32,115,104,114,95,117,32,114,111,116,108,32,114,111,116,114]⟩,
  ⟨167,[],[105,51,50,46,119,114,97,112,95,105,54,52]⟩,
  ⟨172,[105,54,52,46],[101,120,116,101,110,100,95,105,51,50,95,115,32,101,120,116,101,110,100,95,105,51,50,95,117]⟩,
  ⟨192,[105,51,50,46],[101,120,116,101,110,100,56,95,115,32,101,120,116,101,110,100,49,54,95,115]⟩,
  ⟨194,[105,54,52,46],[101,120,116,101,110,100,56,95,115,32,101,120,116,101,110,100,49,54,95,115,32,101,120,116,101,110,100,51,50,95,115]⟩,
  ⟨208,[114,101,102,46],[110,117,108,108,32,105,115,95,110,117,108,108,32,102,117,110,99]⟩,
  ⟨64520,[],[109,101,109,111,114,121,46,105,110,105,116,32,100,97,116,97,46,100,114,111,112,32,109,101,109,111,114,121,46,99,111,112,121,32,109,101,109,111,114,121,46,102,105,108,108,32,116,97,98,108,101,46,105,110,105,116,32,101,108,101,109,46,100,114,111,112,32,116,97,98,108,101,46,99,111,112,121,32,116,97,98,108,101,46,103,114,111,119,32,116,97,98,108,101,46,115,105,122,101,32,116,97,98,108,101,46,102,105,108,108]⟩]
def OC:List Oc:=[⟨0,[117,110,114,101,97,99,104,97,98,108,101],0⟩,
  ⟨1,[110,111,112],0⟩,
  ⟨2,[98,108,111,99,107],1⟩,
  ⟨3,[108,111,111,112],1⟩,
  ⟨4,[105,102],1⟩,
  ⟨5,[101,108,115,101],0⟩,
  ⟨11,[101,110,100],0⟩,
  ⟨12,[98,114],2⟩,
  ⟨13,[98,114,95,105,102],2⟩,
  ⟨14,[98,114,95,116,97,98,108,101],3⟩,
  ⟨15,[114,101,116,117,114,110],0⟩,
  ⟨16,[99,97,108,108],4⟩,
  ⟨17,[99,97,108,108,95,105,110,100,105,114,101,99,116],5⟩,
  ⟨26,[100,114,111,112],0⟩,
  ⟨27,[115,101,108,101,99,116],0⟩,
  ⟨28,[115,101,108,101,99,116],6⟩,
  ⟨32,[108,111,99,97,108,46,103,101,116],7⟩,
  ⟨33,[108,111,99,97,108,46,115,101,116],7⟩,
  ⟨34,[108,111,99,97,108,46,116,101,101],7⟩,
  ⟨35,[103,108,111,98,97,108,46,103,101,116],8⟩,
  ⟨36,[103,108,111,98,97,108,46,115,101,116],8⟩,
  ⟨37,[116,97,98,108,101,46,103,101,116],9⟩,
  ⟨38,[116,97,98,108,101,46,115,101,116],9⟩,
  ⟨40,[105,51,50,46,108,111,97,100],17⟩,
  ⟨41,[105,54,52,46,108,111,97,100],17⟩,
  ⟨44,[105,51,50,46,108,111,97,100,56,95,115],17⟩,
  ⟨45,[105,51,50,46,108,111,97,100,56,95,117],17⟩,
  ⟨46,[105,51,50,46,108,111,97,100,49,54,95,115],17⟩,
  ⟨47,[105,51,50,46,108,111,97,100,49,54,95,117],17⟩,
  ⟨48,[105,54,52,46,108,111,97,100,56,95,115],17⟩,
  ⟨49,[105,54,52,46,108,111,97,100,56,95,117],17⟩,
  ⟨50,[105,54,52,46,108,111,97,100,49,54,95,115],17⟩,
  ⟨51,[105,54,52,46,108,111,97,100,49,54,95,117],17⟩,
  ⟨52,[105,54,52,46,108,111,97,100,51,50,95,115],17⟩,
  ⟨53,[105,54,52,46,108,111,97,100,51,50,95,117],17⟩,
  ⟨54,[105,51,50,46,115,116,111,114,101],17⟩,
  ⟨55,[105,54,52,46,115,116,111,114,101],17⟩,
  ⟨58,[105,51,50,46,115,116,111,114,101,56],17⟩,
  ⟨59,[105,51,50,46,115,116,111,114,101,49,54],17⟩,
  ⟨60,[105,54,52,46,115,116,111,114,101,56],17⟩,
  ⟨61,[105,54,52,46,115,116,111,114,101,49,54],17⟩,
  ⟨62,[105,54,52,46,115,116,111,114,101,51,50],17⟩,
  ⟨63,[109,101,109,111,114,121,46,115,105,122,101],13⟩,
  ⟨64,[109,101,109,111,114,121,46,103,114,111,119],13⟩,
  ⟨65,[105,51,50,46,99,111,110,115,116],18⟩,
  ⟨66,[105,54,52,46,99,111,110,115,116],19⟩,
  ⟨69,[105,51,50,46,101,113,122],0⟩,
  ⟨70,[105,51,50,46,101,113],0⟩,
  ⟨71,[105,51,50,46,110,101],0⟩,
  ⟨72,[105,51,50,46,108,116,95,115],0⟩,
  ⟨73,[105,51,50,46,108,116,95,117],0⟩,
  ⟨74,[105,51,50,46,103,116,95,115],0⟩,
  ⟨75,[105,51,50,46,103,116,95,117],0⟩,
  ⟨76,[105,51,50,46,108,101,95,115],0⟩,
  ⟨77,[105,51,50,46,108,101,95,117],0⟩,
  ⟨78,[105,51,50,46,103,101,95,115],0⟩,
  ⟨79,[105,51,50,46,103,101,95,117],0⟩,
  ⟨80,[105,54,52,46,101,113,122],0⟩,
  ⟨81,[105,54,52,46,101,113],0⟩,
  ⟨82,[105,54,52,46,110,101],0⟩,
  ⟨83,[105,54,52,46,108,116,95,115],0⟩,
  ⟨84,[105,54,52,46,108,116,95,117],0⟩,
  ⟨85,[105,54,52,46,103,116,95,115],0⟩,
  ⟨86,[105,54,52,46,103,116,95,117],0⟩,
  ⟨87,[105,54,52,46,108,101,95,115],0⟩,
  ⟨88,[105,54,52,46,108,101,95,117],0⟩,
  ⟨89,[105,54,52,46,103,101,95,115],0⟩,
  ⟨90,[105,54,52,46,103,101,95,117],0⟩,
  ⟨103,[105,51,50,46,99,108,122],0⟩,
  ⟨104,[105,51,50,46,99,116,122],0⟩,
  ⟨105,[105,51,50,46,112,111,112,99,110,116],0⟩,
  ⟨106,[105,51,50,46,97,100,100],0⟩,
  ⟨107,[105,51,50,46,115,117,98],0⟩,
  ⟨108,[105,51,50,46,109,117,108],0⟩,
  ⟨109,[105,51,50,46,100,105,118,95,115],0⟩,
  ⟨110,[105,51,50,46,100,105,118,95,117],0⟩,
  ⟨111,[105,51,50,46,114,101,109,95,115],0⟩,
  ⟨112,[105,51,50,46,114,101,109,95,117],0⟩,
  ⟨113,[105,51,50,46,97,110,100],0⟩,
  ⟨114,[105,51,50,46,111,114],0⟩,
  ⟨115,[105,51,50,46,120,111,114],0⟩,
  ⟨116,[105,51,50,46,115,104,108],0⟩,
  ⟨117,[105,51,50,46,115,104,114,95,115],0⟩,
  ⟨118,[105,51,50,46,115,104,114,95,117],0⟩,
  ⟨119,[105,51,50,46,114,111,116,108],0⟩,
  ⟨120,[105,51,50,46,114,111,116,114],0⟩,
  ⟨121,[105,54,52,46,99,108,122],0⟩,
  ⟨122,[105,54,52,46,99,116,122],0⟩,
  ⟨123,[105,54,52,46,112,111,112,99,110,116],0⟩,
  ⟨124,[105,54,52,46,97,100,100],0⟩,
  ⟨125,[105,54,52,46,115,117,98],0⟩,
  ⟨126,[105,54,52,46,109,117,108],0⟩,
  ⟨127,[105,54,52,46,100,105,118,95,115],0⟩,
  ⟨128,[105,54,52,46,100,105,118,95,117],0⟩,
  ⟨129,[105,54,52,46,114,101,109,95,115],0⟩,
  ⟨130,[105,54,52,46,114,101,109,95,117],0⟩,
  ⟨131,[105,54,52,46,97,110,100],0⟩,
  ⟨132,[105,54,52,46,111,114],0⟩,
  ⟨133,[105,54,52,46,120,111,114],0⟩,
  ⟨134,[105,54,52,46,115,104,108],0⟩,
  ⟨135,[105,54,52,46,115,104,114,95,115],0⟩,
  ⟨136,[105,54,52,46,115,104,114,95,117],0⟩,
  ⟨137,[105,54,52,46,114,111,116,108],0⟩,
  ⟨138,[105,54,52,46,114,111,116,114],0⟩,
  ⟨167,[105,51,50,46,119,114,97,112,95,105,54,52],0⟩,
  ⟨172,[105,54,52,46,101,120,116,101,110,100,95,105,51,50,95,115],0⟩,
  ⟨173,[105,54,52,46,101,120,116,101,110,100,95,105,51,50,95,117],0⟩,
  ⟨192,[105,51,50,46,101,120,116,101,110,100,56,95,115],0⟩,
  ⟨193,[105,51,50,46,101,120,116,101,110,100,49,54,95,115],0⟩,
  ⟨194,[105,54,52,46,101,120,116,101,110,100,56,95,115],0⟩,
  ⟨195,[105,54,52,46,101,120,116,101,110,100,49,54,95,115],0⟩,
  ⟨196,[105,54,52,46,101,120,116,101,110,100,51,50,95,115],0⟩,
  ⟨208,[114,101,102,46,110,117,108,108],20⟩,
  ⟨209,[114,101,102,46,105,115,95,110,117,108,108],0⟩,
  ⟨210,[114,101,102,46,102,117,110,99],4⟩,
  ⟨64520,[109,101,109,111,114,121,46,105,110,105,116],15⟩,
  ⟨64521,[100,97,116,97,46,100,114,111,112],16⟩,
  ⟨64522,[109,101,109,111,114,121,46,99,111,112,121],14⟩,
  ⟨64523,[109,101,109,111,114,121,46,102,105,108,108],13⟩,
  ⟨64524,[116,97,98,108,101,46,105,110,105,116],11⟩,
  ⟨64525,[101,108,101,109,46,100,114,111,112],12⟩,
  ⟨64526,[116,97,98,108,101,46,99,111,112,121],10⟩,
  ⟨64527,[116,97,98,108,101,46,103,114,111,119],9⟩,
  ⟨64528,[116,97,98,108,101,46,115,105,122,101],9⟩,
  ⟨64529,[116,97,98,108,101,46,102,105,108,108],9⟩]
def wdA:List UInt8 → List UInt8 → List (List UInt8)
  | [],w=>if w = [] then [] else [w]
  | c :: r,w=>if c = 32 then (if w = [] then wdA r [] else w :: wdA r []) else wdA r (w ++ [c])
def wds (s:List UInt8):List (List UInt8):=wdA s []
def exR (f:Int) (h:List UInt8):Nat → List (List UInt8) → List (Int × List UInt8)
  | _,[]=>[]
  | k,s :: r=>(f + (k:Int),h ++ s) :: exR f h (k + 1) r
def EN:List (Int × List UInt8):=OC.map fun o=>(o.op,o.nm)
theorem EN_HR:EN = HR.flatMap fun r=>exR r.f r.h 0 (wds r.t):=by decide +kernel
end Go.Proofs.YtoaagdbbbojpmaaGreatDoor
set_option linter.unusedVariables false
namespace Go.Proofs.YtoaagdbbbojpmaaGreatDoor
open Go Go.Mw

def tab0:List AV:=(List.range 256).map fun c=>.int .u8 (Lib.firstT c)
def tab1:List AV:=(List.range 32).map fun i=>.int .u8 (if i % 2 = 0 then Lib.accLo (i / 2) else Lib.accHi (i / 2))

theorem cell_some {w:World} {b off:Nat} {v:Value} (h:w.cell? ⟨b,off,none⟩ = some v):∃ c t fr,w.heap[b]? = some (.cells c t fr) ∧ c[off]? = some v:=by
  unfold World.cell? at h
  simp only at h
  split at h
  · rename_i c t fr hb
    exact ⟨c,t,fr,hb,h⟩
  · cases h

theorem ip_of_cells {w:World} {M:Nat → Prop} {b n:Nat} {f:Nat → Int} (hn:0 < n) (h:∀ j,j < n → w.cell? ⟨b,j,none⟩ = some (.int .u8 (f j))) (hM:¬ M b) :
    IRel M w (.pointer (some ⟨b,0,none⟩)) (.ip ((List.range n).map fun j=>.int .u8 (f j))):=by
  obtain ⟨c,t,fr,hb,_⟩:=cell_some (h 0 hn)
  refine .ip b 0 c t fr _ (fun j=>.int .u8 (f j)) hb hM (fun j hj=>?_) (fun j x hx=>?_)
  · simp at hj
    obtain ⟨c',t',fr',hb',hc⟩:=cell_some (h j hj)
    rw [hb] at hb'
    cases hb'
    simpa using hc
  · simp only [List.getElem?_map,Option.map_eq_some_iff,List.getElem?_range] at hx
    obtain ⟨q,hq,rfl⟩:=hx
    rw [List.getElem?_range] at hq
    cases hq
    exact .int _ _
    have:=(List.getElem?_eq_some_iff.1 hq).1
    simpa using this

def spT (c:Nat):Value:=.int .u8 (if Lib.isSp (UInt8.ofNat c) then 1 else 0)
theorem cell_block {w w':World} {b off:Nat} {v:Value} (h:w'.heap[b]? = w.heap[b]?) (hc:w.cell? ⟨b,off,none⟩ = some v):w'.cell? ⟨b,off,none⟩ = some v:=by
  rw [World.cell?_of_block (w:=w) h]; exact hc
theorem cell_lt {w:World} {b off:Nat} {v:Value} (h:w.cell? ⟨b,off,none⟩ = some v):b < w.heap.size:=by
  obtain ⟨c,t,fr,h1,_⟩:=cell_some h
  exact (Array.getElem?_eq_some_iff.1 h1).1
noncomputable def tabs:TabT where
  B b:=(b = 0 ∨ b = 1) ∨ (b = 2 ∨ b = 3)
  H w:=Lib.Utf8Tabs 0 1 w ∧ (∀ c,c < 256 → w.cell? ⟨2,c,none⟩ = some (spT c)) ∧ ∃ m,w.cell? ⟨3,0,none⟩ = some (.int .i64 m)
  env:=[(1000000 + 0,.ip tab0),(1000000 + 1,.ip tab1)]
  rel w M h hM p hp:=by
    simp only [List.mem_cons,List.not_mem_nil,or_false] at hp
    rcases hp with rfl | rfl
    · exact ⟨by decide,ip_of_cells (by decide) (fun j hj=>h.1.1 j hj) (hM 0 (.inl (.inl rfl)))⟩
    · refine ⟨by decide,ip_of_cells (by decide) (fun j hj=>?_) (hM 1 (.inl (.inr rfl)))⟩
      obtain ⟨h1,h2⟩:=h.1.2 (j / 2) (by omega)
      by_cases h0:j % 2 = 0
      · rw [if_pos h0]
        rw [show 2 * (j / 2) = j by omega] at h1
        exact h1
      · rw [if_neg h0]
        rw [show 2 * (j / 2) + 1 = j by omega] at h2
        exact h2
  stay w w' h hk:=⟨⟨fun c hc=>cell_block (hk _ (.inl (.inl rfl))) (h.1.1 c hc),fun i hi=>⟨cell_block (hk _ (.inl (.inr rfl))) (h.1.2 i hi).1,cell_block (hk _ (.inl (.inr rfl))) (h.1.2 i hi).2⟩⟩,
    fun c hc=>cell_block (hk 2 (.inr (.inl rfl))) (h.2.1 c hc),by obtain ⟨m,hm⟩:=h.2.2; exact ⟨m,cell_block (hk 3 (.inr (.inr rfl))) hm⟩⟩
  low w h b hb:=by
    rcases hb with (rfl | rfl) | (rfl | rfl)
    · exact cell_lt (h.1.1 0 (by decide))
    · exact cell_lt (h.1.2 0 (by decide)).1
    · exact cell_lt (h.2.1 0 (by decide))
    · obtain ⟨m,hm⟩:=h.2.2; exact cell_lt hm

noncomputable instance:Tabs Tryz.prog:=⟨tabs⟩
end Go.Proofs.YtoaagdbbbojpmaaGreatDoor
set_option maxRecDepth 100000
set_option linter.unusedVariables false
set_option linter.unusedSimpArgs false
namespace Go.Proofs.YtoaagdbbbojpmaaGreatDoor
open Go Go.Mw Go.Shelf

def ren144:Go.Shelf.Ren:=⟨fun | 144=>199 | 143=>202 | 219=>207 | 217=>210 | 225=>211 | 224=>212 | 267=>213 | 266=>215 | 314=>216 | n=>n,fun | 9=>9 | 4=>4 | 3=>3 | 5=>5 | 46=>232 | 146=>263 | 51=>260 | n=>n,fun | 1=>3 | n=>n⟩
theorem lays144:Go.Proofs.Lays.n144 Tryz.prog ren144:={
  mixed:=by kernel_rfl
  f143:=Tryz.func202.trans (congrArg some (by kernel_rfl))
  f144:=Tryz.func199.trans (congrArg some (by kernel_rfl))
  f217:=Tryz.func210.trans (congrArg some (by kernel_rfl))
  f219:=Tryz.func207.trans (congrArg some (by kernel_rfl))
  f224:=Tryz.func212.trans (congrArg some (by kernel_rfl))
  f225:=Tryz.func211.trans (congrArg some (by kernel_rfl))
  f266:=Tryz.func215.trans (congrArg some (by kernel_rfl))
  f267:=Tryz.func213.trans (congrArg some (by kernel_rfl))
  f314:=Tryz.func216.trans (congrArg some (by kernel_rfl))
  t3:=Tryz.underlying3
  a3:=Tryz.isAgg3
  z3:=Tryz.sizeOf3
  v3:=Tryz.zeroValue3
  t4:=Tryz.underlying4
  a4:=Tryz.isAgg4
  z4:=Tryz.sizeOf4
  v4:=Tryz.zeroValue4
  t5:=Tryz.underlying5
  a5:=Tryz.isAgg5
  z5:=Tryz.sizeOf5
  v5:=Tryz.zeroValue5
  t9:=Tryz.underlying9
  a9:=Tryz.isAgg9
  z9:=Tryz.sizeOf9
  v9:=Tryz.zeroValue9
  t46:=Tryz.underlying232
  a46:=Tryz.isAgg232
  z46:=Tryz.sizeOf232
  v46:=Tryz.zeroValue232
  t51:=Tryz.underlying260
  a51:=Tryz.isAgg260
  z51:=Tryz.sizeOf260
  v51:=Tryz.zeroValue260
  t146:=Tryz.underlying263
  a146:=Tryz.isAgg263
  z146:=Tryz.sizeOf263
  v146:=Tryz.zeroValue263
  g1:=by kernel_rfl }
def ren157:Go.Shelf.Ren:=⟨fun | 157=>205 | 229=>208 | 199=>209 | 261=>214 | 311=>217 | 312=>218 | n=>n,fun | 9=>9 | 31=>238 | 3=>3 | 5=>5 | 4=>4 | 119=>228 | 0=>0 | 40=>254 | 152=>257 | 21=>21 | 154=>259 | 51=>260 | 141=>262 | 196=>268 | 193=>265 | 198=>270 | 49=>44 | 194=>266 | 201=>273 | 226=>275 | 46=>232 | 227=>276 | n=>n,fun | 0=>2 | 6=>4 | n=>n⟩
theorem lays157:Go.Proofs.Lays.n157 Tryz.prog ren157:={
  mixed:=by kernel_rfl
  f157:=Tryz.func205.trans (congrArg some (by kernel_rfl))
  f199:=Tryz.func209.trans (congrArg some (by kernel_rfl))
  f229:=Tryz.func208.trans (congrArg some (by kernel_rfl))
  f261:=Tryz.func214.trans (congrArg some (by kernel_rfl))
  f311:=Tryz.func217.trans (congrArg some (by kernel_rfl))
  f312:=Tryz.func218.trans (congrArg some (by kernel_rfl))
  t0:=Tryz.underlying0
  a0:=Tryz.isAgg0
  z0:=Tryz.sizeOf0
  v0:=Tryz.zeroValue0
  t3:=Tryz.underlying3
  a3:=Tryz.isAgg3
  z3:=Tryz.sizeOf3
  v3:=Tryz.zeroValue3
  t4:=Tryz.underlying4
  a4:=Tryz.isAgg4
  z4:=Tryz.sizeOf4
  v4:=Tryz.zeroValue4
  t5:=Tryz.underlying5
  a5:=Tryz.isAgg5
  z5:=Tryz.sizeOf5
  v5:=Tryz.zeroValue5
  t9:=Tryz.underlying9
  a9:=Tryz.isAgg9
  z9:=Tryz.sizeOf9
  v9:=Tryz.zeroValue9
  t21:=Tryz.underlying21
  a21:=Tryz.isAgg21
  z21:=Tryz.sizeOf21
  v21:=Tryz.zeroValue21
  t31:=Tryz.underlying238
  a31:=Tryz.isAgg238
  z31:=Tryz.sizeOf238
  v31:=Tryz.zeroValue238
  t40:=Tryz.underlying254
  a40:=Tryz.isAgg254
  z40:=Tryz.sizeOf254
  v40:=Tryz.zeroValue254
  t46:=Tryz.underlying232
  a46:=Tryz.isAgg232
  z46:=Tryz.sizeOf232
  v46:=Tryz.zeroValue232
  t49:=Tryz.underlying44
  a49:=Tryz.isAgg44
  z49:=Tryz.sizeOf44
  v49:=Tryz.zeroValue44
  t51:=Tryz.underlying260
  a51:=Tryz.isAgg260
  z51:=Tryz.sizeOf260
  v51:=Tryz.zeroValue260
  t119:=Tryz.underlying228
  a119:=Tryz.isAgg228
  z119:=Tryz.sizeOf228
  t141:=Tryz.underlying262
  a141:=Tryz.isAgg262
  z141:=Tryz.sizeOf262
  v141:=Tryz.zeroValue262
  t152:=Tryz.underlying257
  a152:=Tryz.isAgg257
  z152:=Tryz.sizeOf257
  v152:=Tryz.zeroValue257
  t154:=Tryz.underlying259
  a154:=Tryz.isAgg259
  z154:=Tryz.sizeOf259
  v154:=Tryz.zeroValue259
  t193:=Tryz.underlying265
  a193:=Tryz.isAgg265
  z193:=Tryz.sizeOf265
  v193:=Tryz.zeroValue265
  t194:=Tryz.underlying266
  a194:=Tryz.isAgg266
  z194:=Tryz.sizeOf266
  v194:=Tryz.zeroValue266
  t196:=Tryz.underlying268
  a196:=Tryz.isAgg268
  z196:=Tryz.sizeOf268
  v196:=Tryz.zeroValue268
  t198:=Tryz.underlying270
  a198:=Tryz.isAgg270
  z198:=Tryz.sizeOf270
  v198:=Tryz.zeroValue270
  t201:=Tryz.underlying273
  a201:=Tryz.isAgg273
  z201:=Tryz.sizeOf273
  v201:=Tryz.zeroValue273
  t226:=Tryz.underlying275
  a226:=Tryz.isAgg275
  z226:=Tryz.sizeOf275
  v226:=Tryz.zeroValue275
  t227:=Tryz.underlying276
  a227:=Tryz.isAgg276
  z227:=Tryz.sizeOf276
  v227:=Tryz.zeroValue276
  g0:=by kernel_rfl
  g6:=by kernel_rfl }

theorem s_contains (s sub:List UInt8) (hs:s.length < 4294967281):PCalls Tryz.prog n_strings_Contains [.str s,.str sub] (.bool (Lib.contains s sub)):=by
  refine PCalls.of (fun w bl M cargs hH hM ha=>?_) rfl
  match cargs,ha with
  | [a,b],⟨h1,h2,_⟩ =>
    obtain rfl:=h1.str
    obtain rfl:=h2.str
    obtain ⟨m,hm⟩:=hH.2.2
    refine (Any.strings_Contains lays144 ⟨s.toArray⟩ ⟨sub.toArray⟩ m w (by simpa [ByteArray.size] using hs) hm).mono ?_
    rintro e w' ⟨rfl,rfl⟩
    exact ⟨_,rfl,Stp.refl _ _,IRel.bool _⟩
theorem fields_run (s:List UInt8) (hs:s.length < 4294967281) (ha:∀ b ∈ s,b.toNat < 128) (w:World) (hH:(Tabs.T Tryz.prog).H w) :
    Calls Tryz.prog n_strings_Fields #[.string ⟨s.toArray⟩] w fun e w'=>e = .returned (.slice (some ⟨w.heap.size,0,none⟩) (Lib.fields s).length (Lib.fields s).length) ∧ w' = w.alloc (.cells ((Lib.fields s).map fun l=>Value.string ⟨l.toArray⟩).toArray 9):=by
  have h:=Any.strings_Fields_core lays157 (by kernel_rfl) ⟨s.toArray⟩ w (by simpa [ByteArray.size] using hs) (fun j b hb=>ha b (List.mem_of_getElem? (by simpa using hb))) (fun c hc=>hH.2.1 c hc)
  exact h
/-! ### The program's rows -/
theorem s_rows5:PCalls Tryz.prog nX100 [] (.sl 3 (HR.map hr_)):=by
  refine pfun_sound (ic:=FX100.body) mixed cX100 rfl rfl ?_
  simp only [go_sem,FX100]
  exact pdone [25] (by rfl) rfl
theorem s_named5:PCalls Tryz.prog nX77 [] (.fn 203 []):=by
  refine pfun_sound (ic:=FX77.body) mixed cX77 rfl rfl ?_
  simp only [go_sem,FX77]
  exact pdone [] (by simp only [go_sem]) (by first | rfl | simp [go_sem,slv_ids])
end Go.Proofs.YtoaagdbbbojpmaaGreatDoor
set_option maxRecDepth 100000
set_option maxHeartbeats 4000000
set_option linter.unusedVariables false
set_option linter.unusedSimpArgs false
namespace Go.Proofs.YtoaagdbbbojpmaaGreatDoor
open Go Go.Mw Go.RowKit Go.Shelf
attribute [local go_sem] Oper.semAt_some
def encE (x:Int × List UInt8):Array Value:=#[.int .i64 x.1,.string ⟨x.2.toArray⟩]
theorem rows_cells {M:Nat → Prop} {w:World} {v:Value} (h:VRel (fun _=>none) M w v (.sl 3 (HR.map hr_))):∃ b off cap,v = .slice (some ⟨b,off,none⟩) 24 cap ∧ ¬ M b ∧ ∃ c t fr,w.heap[b]? = some (.cells c t fr) ∧
    ∀ i,i < 24 → c[off + i * 3]? = some (.int .i64 (nth HR i).f) ∧ c[off + i * 3 + 1]? = some (.string ⟨(nth HR i).h.toArray⟩) ∧ c[off + i * 3 + 2]? = some (.string ⟨(nth HR i).t.toArray⟩):=by
  have h1:IRel M w v (.sl 3 (HR.map hr_)):=h
  have hlen:(HR.map hr_).length = 24:=by rfl
  generalize hr:HR.map hr_ = rows at h1 hlen
  cases h1 with
  | nls=>simp at hlen
  | sl0=>simp at hlen
  | sl b off cap st c t fr rows vs hb hM hl hr1 hv hx =>
    refine ⟨b,off,cap,by rw [hlen],hM,c,t,fr,hb,fun i hi=>?_⟩
    have hrow:rows[i]? = some (hr_ (nth HR i)):=by
      rw [← hr,List.getElem?_map,nth_some (by rw [← hlen,← hr] at hi; simpa using hi)]
      rfl
    have key:∀ j x,(hr_ (nth HR i))[j]? = some x → j < 3 → ∃ u,c[off + i * 3 + j]? = some u ∧ IRel M w u x:=fun j x hj hj3=>⟨_,hv i j (by omega) hj3,hx i j _ _ hrow hj⟩
    obtain ⟨u0,a0,b0⟩:=key 0 (.int .i64 (nth HR i).f) rfl (by omega)
    obtain ⟨u1,a1,b1⟩:=key 1 (.str (nth HR i).h) rfl (by omega)
    obtain ⟨u2,a2,b2⟩:=key 2 (.str (nth HR i).t) rfl (by omega)
    cases b0; cases b1; cases b2
    exact ⟨a0,a1,a2⟩
def preK (k:Nat):List (Int × List UInt8):=(HR.take k).flatMap fun r=>exR r.f r.h 0 (Lib.fields r.t)
theorem HR_ok (k:Nat) (h:k < 24):(nth HR k).t.length < 4294967281 ∧ ∀ b ∈ (nth HR k).t,b.toNat < 128:=by
  have:∀ r ∈ HR,r.t.length < 4294967281 ∧ ∀ b ∈ r.t,b.toNat < 128:=by decide +kernel
  exact this _ (by rw [nth_eq (by exact h)]; exact List.getElem_mem _)
theorem HR_ok2 (k:Nat) (h:k < 24):(nth HR k).h.length < 1000 ∧ 0 ≤ (nth HR k).f ∧ (nth HR k).f < 100000 ∧ (Lib.fields (nth HR k).t).length < 1000 ∧ ∀ s ∈ Lib.fields (nth HR k).t,s.length < 1000:=by
  have:∀ r ∈ HR,r.h.length < 1000 ∧ 0 ≤ r.f ∧ r.f < 100000 ∧ (Lib.fields r.t).length < 1000 ∧ ∀ s ∈ Lib.fields r.t,s.length < 1000:=by decide +kernel
  exact this _ (by rw [nth_eq (by exact h)]; exact List.getElem_mem _)
theorem exR_len (f:Int) (h:List UInt8):∀ (l:List (List UInt8)) (k:Nat),(exR f h k l).length = l.length
  | [],_=>rfl
  | _ :: l,k=>by simp [exR,exR_len f h l]
theorem exR_get (f:Int) (h:List UInt8):∀ (l:List (List UInt8)) (k j:Nat),j < l.length → (exR f h k l)[j]? = some (f + ((k + j:Nat):Int),h ++ nth l j)
  | [],_,j,hj=>by simp at hj
  | s :: l,k,0,_=>rfl
  | s :: l,k,j + 1,hj=>by
    have:=exR_get f h l (k + 1) j (by simpa using hj)
    simp only [exR,List.getElem?_cons_succ]
    rw [this,show k + 1 + j = k + (j + 1) by omega]
    rfl
theorem exR_take {f:Int} {h:List UInt8} {l:List (List UInt8)} {j:Nat} (hj:j < l.length):(exR f h 0 l).take (j + 1) = (exR f h 0 l).take j ++ [(f + (j:Int),h ++ nth l j)]:=by
  rw [List.take_add_one,exR_get f h l 0 j hj,Option.toList_some,Nat.zero_add]
theorem preK_step {k:Nat} (h:k < 24):preK (k + 1) = preK k ++ exR (nth HR k).f (nth HR k).h 0 (Lib.fields (nth HR k).t):=by
  unfold preK
  rw [List.take_add_one,nth_some (show k < HR.length from h),Option.toList_some,List.flatMap_append,List.flatMap_singleton]
theorem preK_pre {k:Nat} (h:k ≤ 24):preK k <+: preK 24:=by
  have e:HR.take 24 = HR.take k ++ (HR.take 24).drop k:=by
    rw [show HR.take k = (HR.take 24).take k by rw [List.take_take,Nat.min_eq_left h]]; exact (List.take_append_drop k _).symm
  unfold preK
  rw [e,List.flatMap_append]
  exact List.prefix_append _ _
theorem preK_all:preK 24 = HR.flatMap fun r=>exR r.f r.h 0 (wds r.t):=by decide +kernel
theorem named1 (n:Nat) (w:World):SeqM n Tryz.prog 203 #[] encE EN w:=by
  intro l J Jx W hH hW hJ hJx hY h0
  refine callsIn_of_wp Tryz.func203 rfl trivial ?_ rfl
  have hE:preK 24 = EN:=by rw [EN_HR]; exact preK_all
  have cr:=PCalls.run s_rows5 W hH (cargs:=[]) trivial
  simp only [Tryz.ntmps203,List.size_toArray,List.length_cons,List.length_nil,Nat.reduceAdd,Nat.reduceSub,Array.replicate_succ,Array.replicate_zero,List.push_toArray,List.append_toArray,List.nil_append,List.cons_append]
  gi_wp2
  refine ⟨trivial,fun h=>(by cases h),(callsIn_wide.2 cr).mono ?_⟩
  rintro e W1 ⟨v,rfl,hv,hst⟩
  obtain ⟨b,off,cap,rfl,hnb,c,t,fr,hb,hc⟩:=rows_cells hv
  gi_wp2
  gi_loopw [8] (fun i wr=>∃ k:Nat,k ≤ 24 ∧ i = .int .i64 k ∧ J (preK k) wr ∧ W.heap.size ≤ wr.heap.size ∧ wr.heap[b]? = some (.cells c t fr) ∧ (Tabs.T Tryz.prog).H wr) (fun i _=>24 - (intOf i).toNat)
  case atStart=>exact ⟨0,by omega,rfl,hJ _ _ _ h0 hst,hst.size,hb,(Tabs.T Tryz.prog).stay _ _ hH fun q hq=>hst.keep q ((Tabs.T Tryz.prog).low _ hH q hq) (fun h=>h)⟩
  case round =>
    obtain ⟨k,hk,rfl,hJk,hsz,hbk,hHk⟩:=hrel
    rename World=>wo1
    by_cases hlt:k < 24
    · have c0:wo1.cell? ⟨b,off + k * 3,none⟩ = some (.int .i64 (nth HR k).f):=(cell_of hbk _).trans (hc k hlt).1
      have c1:wo1.cell? ⟨b,off + k * 3 + 1,none⟩ = some (.string ⟨(nth HR k).h.toArray⟩):=(cell_of hbk _).trans (hc k hlt).2.1
      have c2:wo1.cell? ⟨b,off + k * 3 + 2,none⟩ = some (.string ⟨(nth HR k).t.toArray⟩):=(cell_of hbk _).trans (hc k hlt).2.2
      have hsA:=Stp.ofAlloc wo1 (.cells #[.int .i64 (nth HR k).f,.string ⟨(nth HR k).h.toArray⟩,.string ⟨(nth HR k).t.toArray⟩] 251)
      have hHA:=(Tabs.T Tryz.prog).stay _ _ hHk fun q hq=>hsA.keep q ((Tabs.T Tryz.prog).low _ hHk q hq) (fun h=>h)
      obtain ⟨hl,ha⟩:=HR_ok k hlt
      obtain ⟨hh,hf0,hf1,hfl,hfs⟩:=HR_ok2 k hlt
      have cf:=fields_run (nth HR k).t hl ha _ hHA
      generalize hF:Lib.fields (nth HR k).t = fl at cf hfl hfs
      gi_wp2
      refine ⟨trivial,fun h=>(by cases h),(callsIn_wide.2 cf).mono ?_⟩
      rintro e W2 ⟨rfl,rfl⟩
      gi_wp2
      gi_loopw [16] (fun i wr2=>∃ j:Nat,j ≤ fl.length ∧ i = .int .i64 j ∧ J (preK k ++ (exR (nth HR k).f (nth HR k).h 0 fl).take j) wr2 ∧ W.heap.size ≤ wr2.heap.size ∧ wr2.heap[b]? = some (.cells c t fr) ∧
          wr2.heap[wo1.heap.size]? = some (.cells #[.int .i64 (nth HR k).f,.string ⟨(nth HR k).h.toArray⟩,.string ⟨(nth HR k).t.toArray⟩] 251) ∧ wr2.heap[wo1.heap.size + 1]? = some (.cells (fl.map fun l=>Value.string ⟨l.toArray⟩).toArray 9) ∧ (Tabs.T Tryz.prog).H wr2) (fun i _=>fl.length - (intOf i).toNat)
      case atStart =>
        have hsF:=hsA.one (Stp.ofAlloc _ (.cells (fl.map fun l=>Value.string ⟨l.toArray⟩).toArray 9))
        refine ⟨0,Nat.zero_le _,rfl,?_,by simp; omega,?_,?_,?_,?_⟩
        · rw [List.take_zero,List.append_nil]; exact hJ _ _ _ hJk hsF
        · rw [hsF.keep b (lt_of_heap hbk) (fun h=>h)]; exact hbk
        · exact (Below.heap_alloc _ _ _ (by simp)).trans (World.alloc_heap_new _ _)
        · have:=World.alloc_heap_new (wo1.alloc (.cells #[.int .i64 (nth HR k).f,.string ⟨(nth HR k).h.toArray⟩,.string ⟨(nth HR k).t.toArray⟩] 251)) (.cells (fl.map fun l=>Value.string ⟨l.toArray⟩).toArray 9)
          rwa [World.size_alloc] at this
        · exact (Tabs.T Tryz.prog).stay _ _ hHk fun q hq=>hsF.keep q ((Tabs.T Tryz.prog).low _ hHk q hq) (fun h=>h)
      case round =>
        obtain ⟨j,hj,rfl,hJj,hsz2,hb2,hx2,hs2,hH2⟩:=hrel
        by_cases hlt2:j < fl.length
        · have d0:wr.cell? ⟨wo1.heap.size,0,none⟩ = some (.int .i64 (nth HR k).f):=cell_of hx2 _
          have d1:wr.cell? ⟨wo1.heap.size,1,none⟩ = some (.string ⟨(nth HR k).h.toArray⟩):=cell_of hx2 _
          have d3:wr.cell? ⟨wo1.heap.size + 1,j,none⟩ = some (.string ⟨(nth fl j).toArray⟩):=(cell_of hs2 _).trans (by rw [List.getElem?_toArray,List.getElem?_map,nth_some hlt2]; rfl)
          have hss:=hfs (nth fl j) (by rw [nth_eq hlt2]; exact List.getElem_mem _)
          have hcat:¬ 9223372036854775807 < (nth HR k).h.length + (nth fl j).length:=by omega
          have hpre:(preK k ++ (exR (nth HR k).f (nth HR k).h 0 fl).take j) ++ [((nth HR k).f + (j:Int),(nth HR k).h ++ nth fl j)] <+: EN:=by
            rw [List.append_assoc,← exR_take hlt2,← hE,← hF]
            refine List.IsPrefix.trans ?_ (preK_pre (show k + 1 ≤ 24 by omega))
            rw [preK_step hlt]
            exact (List.prefix_append_right_inj _).2 (List.take_prefix _ _)
          obtain ⟨fn,tmps,assign,body,hy,hR⟩:=hY _ _ wr hJj hpre
          have hw:wrap64 ((nth HR k).f + (j:Int)) = (nth HR k).f + (j:Int):=IntWalk.wrap64_in _ (by omega)
          have hc2:(ByteArray.mk (nth HR k).h.toArray ++ ByteArray.mk (nth fl j).toArray) = ByteArray.mk ((nth HR k).h ++ nth fl j).toArray:=by apply ByteArray.ext; simp
          have hy2:(Instr.yield l #[.int .i64 ((nth HR k).f + (j:Int)),.string (ByteArray.mk ((nth HR k).h ++ nth fl j).toArray)]).run Tryz.prog wr = .ok (.round l fn tmps assign body) wr:=hy
          gi_wp2
          refine ⟨fun h=>(by cases h),hR.mono ?_⟩
          rintro e W3 (⟨rfl,hJ3,hk3⟩ | ⟨rfl,hJx3⟩)
          · gi_wp2
            go_roundw
            case rel =>
              refine ⟨j + 1,by omega,by simp,?_,Nat.le_trans hsz2 hk3.1,?_,hk3.2.1 _ _ _ _ hsz hx2,hk3.2.1 _ _ _ _ (by omega) hs2,(Tabs.T Tryz.prog).stay _ _ hH2 fun q hq=>hk3.2.2 q hq⟩
              · rw [exR_take hlt2,← List.append_assoc]; exact hJ3
              · by_cases hbw:W.heap.size ≤ b
                · exact hk3.2.1 _ _ _ _ hbw hb2
                · rw [hk3.2.2 b (Classical.byContradiction fun hn=>hnb ⟨by omega,hn⟩)]; exact hb2
            case measure=>simp [intOf]; omega
          · gi_wp2
            refine bodyPost_ret (results_none rfl _ _ _) rfl ?_
            exact ⟨⟨_,rfl⟩,.inr ⟨_,hpre,hJx3⟩⟩
        · obtain rfl:j = fl.length:=by omega
          gi_wp2
          refine ⟨⟨k + 1,by omega,by simp,?_,hsz2,hb2,hH2⟩,by simp [intOf]; omega⟩
          rw [preK_step hlt,hF]
          rw [List.take_of_length_le (by rw [exR_len]; exact Nat.le_refl _)] at hJj
          exact hJj
    · obtain rfl:k = 24:=by omega
      gi_wp2
      go_end0
      exact ⟨⟨_,rfl⟩,.inl (hE ▸ hJk)⟩
end Go.Proofs.YtoaagdbbbojpmaaGreatDoor
set_option maxRecDepth 100000
set_option maxHeartbeats 4000000
set_option linter.unusedVariables false
set_option linter.unusedSimpArgs false
namespace Go.Proofs.YtoaagdbbbojpmaaGreatDoor
open Go Go.Mw Go.RowKit Go.Shelf
attribute [local go_sem] Oper.semAt_some
def nameOf (op:Int):List UInt8:=match EN.find? (fun p=>p.1 == op) with
  | some p=>p.2
  | none=>[]
theorem find_pre {α:Type} {f:α → Bool} {l pre:List α} {x:α} (h:pre ++ [x] <+: l) (hn:∀ p ∈ pre,f p = false) (hx:f x = true):l.find? f = some x:=by
  obtain ⟨r,rfl⟩:=h
  rw [List.append_assoc,List.find?_append,List.find?_eq_none.2 (fun p hp=>by rw [hn p hp]; decide)]
  simp [hx]
theorem stp_putObj {w W:World} {l:Nat} {o o':Obj} (h:Stp No w W) (hl:w.heap.size ≤ l) (hc:W.heap[l]? = some o) (ho:o.isCells = false):Stp No w (W.putObj l o') where
  size:=Nat.le_trans h.size (grownBy_putObj' W l o').size
  keep b hb _:=by rw [World.putObj_heap_other (by omega)]; exact h.keep b hb (fun h=>h)
  shape b c t fr hb:=by
    obtain ⟨c',fr',h1,h2⟩:=h.shape b c t fr hb
    exact ⟨c',fr',by rw [World.putObj_heap_other (by have:=lt_of_heap hb; omega)]; exact h1,h2⟩
  os:=(grownBy_putObj' W l o').os.trans h.os
  out:=(grownBy_putObj' W l o').output.trans h.out
theorem stp_setCell {w W:World} {a:Addr} {v:Value} (h:Stp No w W) (hl:w.heap.size ≤ a.block):Stp No w (W.setCell a v) where
  size:=by simpa [World.setCell] using h.size
  keep b hb _:=by
    have:b ≠ a.block:=by omega
    simp only [World.setCell,Array.getElem?_modify,if_neg (Ne.symm this)]
    exact h.keep b hb (fun h=>h)
  shape b c t fr hb:=by
    obtain ⟨c',fr',h1,h2⟩:=h.shape b c t fr hb
    have:b ≠ a.block:=by have:=lt_of_heap hb; omega
    exact ⟨c',fr',by simp only [World.setCell,Array.getElem?_modify,if_neg (Ne.symm this)]; exact h1,h2⟩
  os:=h.os
  out:=h.out
theorem fn_val {bl:Nat → Option Nat} {M:Nat → Prop} {w:World} {v:Value} {f:FuncId} (h:VRel bl M w v (.fn f [])):v = .func (.func f) #[] #[]:=by
  obtain ⟨cs,rfl,h⟩:=h
  cases cs with
  | nil=>rfl
  | cons=>exact h.elim
theorem results_cell1 {fn:Func} {t:Tmp} {ty:TypeId} (h:fn.results = #[.cell t ty]) (tmps:Array Value) (P:Program) (w:World) {b:Nat} {v:Value} (ha:tmps.getD t undef = .pointer (some ⟨b,0,none⟩)) (hagg:(isAgg ty).run P w = .ok false w)
    (hc:w.cell? ⟨b,0,none⟩ = some v):(results fn tmps).run P w = .ok v w:=by
  simp only [Array.getD_eq_getD_getElem?] at ha
  have hc':w.cell? { block:=b,off:=0 } = some v:=hc
  simp [results,h,ha,asAddr,loadVar,hagg,hc']
theorem s_name5 (op:Int):PCalls Tryz.prog 190 [.int .i64 op] (.str (nameOf op)):=by
  refine PCalls.of (fun w bl M cargs hH hM ha=>?_) rfl
  match cargs,ha with
  | [a],⟨h1,_⟩ =>
  obtain rfl:=h1.int
  refine (callsIn_wide (n:=3)).1 ?_
  refine callsIn_of_wp_marks Tryz.func190 rfl trivial ?_ rfl
  have hs1:=(Stp.ofAlloc w (.cells #[.int .i64 op] 54)).one (Stp.ofAlloc _ (.cells #[.string ⟨#[]⟩] 9))
  have hH1:=(Tabs.T Tryz.prog).stay _ _ hH fun q hq=>hs1.keep q ((Tabs.T Tryz.prog).low _ hH q hq) (fun h=>h)
  have cn:=PCalls.run s_named5 _ hH1 (cargs:=[]) trivial
  simp only [Tryz.ntmps190,List.size_toArray,List.length_cons,List.length_nil,Nat.reduceAdd,Nat.reduceSub,Array.replicate_succ,Array.replicate_zero,List.push_toArray,List.append_toArray,List.nil_append,List.cons_append]
  gi_wp2
  refine ⟨trivial,(callsIn_wide.2 cn).mono ?_⟩
  rintro e W1 ⟨v,rfl,hv,hst⟩
  obtain rfl:=fn_val hv
  have hsW:=hs1.one hst
  have hHW:=(Tabs.T Tryz.prog).stay _ _ hH fun q hq=>hsW.keep q ((Tabs.T Tryz.prog).low _ hH q hq) (fun h=>h)
  have hb0:W1.heap[w.heap.size]? = some (.cells #[.int .i64 op] 54):=by
    rw [hst.keep _ (by simp <;> omega) (fun h=>h)]; exact (Below.heap_alloc _ _ _ (by simp)).trans (World.alloc_heap_new _ _)
  have hb1:W1.heap[w.heap.size + 1]? = some (.cells #[.string ⟨#[]⟩] 9):=by
    rw [hst.keep _ (by simp) (fun h=>h)]
    have:=World.alloc_heap_new (w.alloc (.cells #[.int .i64 op] 54)) (.cells #[.string ⟨#[]⟩] 9)
    rwa [World.size_alloc] at this
  have hz:w.heap.size + 2 ≤ W1.heap.size:=by have:=hst.size; simpa using this
  clear cn hst hs1 hH1 hv
  gi_wp2
  refine wpIn_rngM (α:=Int × List UInt8) (encs:=encE) (E:=EN) (by decide) hHW (gf:=203) (lb:=#[]) rfl (enters_of Tryz.func203 (by kernel_rfl) rfl) (named1 _ W1) (Stp.refl _ _) (fun _=>rfl)
    (fun pre W=>Stp No w W ∧ W.heap[w.heap.size]? = some (.cells #[.int .i64 op] 54) ∧ W.heap[w.heap.size + 1]? = some (.cells #[.string ⟨#[]⟩] 9) ∧ ∀ p ∈ pre,(p.1 == op) = false)
    (fun c pre W=>c = .ret ∧ Stp No w W ∧ W.heap[w.heap.size + 1]? = some (.cells #[.string ⟨(nameOf op).toArray⟩] 9))
    (fun s A B h hs=>⟨h.1.one hs,(hs.keep _ (lt_of_heap h.2.1) (fun h=>h)).trans h.2.1,(hs.keep _ (lt_of_heap h.2.2.1) (fun h=>h)).trans h.2.2.1,h.2.2.2⟩)
    (fun c s A B h hs=>⟨h.1,h.2.1.one hs,(hs.keep _ (lt_of_heap h.2.2) (fun h=>h)).trans h.2.2⟩)
    (fun s W l o o' h hl hc ho=>⟨stp_putObj h.1 (by omega) hc ho,by rw [World.putObj_heap_other (by omega)]; exact h.2.1,by rw [World.putObj_heap_other (by omega)]; exact h.2.2.1,h.2.2.2⟩)
    (fun c s W l o o' h hl hc ho=>⟨h.1,stp_putObj h.2.1 (by omega) hc ho,by rw [World.putObj_heap_other (by omega)]; exact h.2.2⟩)
    ⟨hsW,hb0,hb1,fun p hp=>absurd hp List.not_mem_nil⟩
    (fun x=>{ tmps:=#[.int .i64 op,.pointer (some ⟨w.heap.size,0,none⟩),.pointer (some ⟨w.heap.size + 1,0,none⟩),.int .i64 x.1,.string ⟨x.2.toArray⟩,.func (.func 203) #[] #[],.int .i64 x.1,.string ⟨x.2.toArray⟩,undef,undef,undef,undef],defers:=[] }) ?assign ?body ?done ?stop
  case assign =>
    intro l x W K hK
    simp only [encE]
    gi_wp2
    exact hK
  case body =>
    rintro l pre x W ⟨hS,hB0,hB1,hP⟩ hpre
    have d0:W.cell? ⟨w.heap.size,0,none⟩ = some (.int .i64 op):=cell_of hB0 _
    have d1:W.cell? ⟨w.heap.size + 1,0,none⟩ = some (.string ⟨#[]⟩):=cell_of hB1 _
    have f1:W.frozen? ⟨w.heap.size + 1,0,none⟩ = false:=by simp [World.frozen?,hB1]
    by_cases hx:x.1 = op
    · have hn:nameOf op = x.2:=by
        unfold nameOf
        rw [find_pre hpre hP (by simpa using hx)]
      gi_wp2
      refine ⟨KeepsOthers.setCell _ _ _,rfl,stp_setCell hS (by simp),?_⟩
      rw [hn]
      simp [World.setCell,Array.getElem?_modify,hB1]
    · gi_wp2
      refine ⟨⟨Nat.le_refl _,fun _ _ h _=>h⟩,KpM.refl _ _,hS,hB0,hB1,fun p hp=>?_⟩
      rcases List.mem_append.1 hp with hp | hp
      · exact hP p hp
      · rw [List.mem_singleton.1 hp]; simpa using hx
  case done =>
    rintro D W hD ⟨hS,hB0,hB1,hP⟩ hK
    have d1:W.cell? ⟨w.heap.size + 1,0,none⟩ = some (.string ⟨#[]⟩):=cell_of hB1 _
    have f1:W.frozen? ⟨w.heap.size + 1,0,none⟩ = false:=by simp [World.frozen?,hB1]
    have hn:nameOf op = []:=by
      unfold nameOf
      rw [List.find?_eq_none.2 (fun p hp=>by rw [hP p hp]; decide)]
    gi_wp2
    have hD2:(W.setCell ⟨w.heap.size + 1,0,none⟩ (.string ⟨#[]⟩)).heap[D]? = some (.deferred (some [])):=by
      simp only [World.setCell,Array.getElem?_modify,if_neg (show ¬ w.heap.size + 1 = D by omega)]; exact hK
    have hB3:(W.setCell ⟨w.heap.size + 1,0,none⟩ (.string ⟨#[]⟩)).heap[w.heap.size + 1]? = some (.cells #[.string ⟨#[]⟩] 9):=by
      simp [World.setCell,Array.getElem?_modify,hB1]
    have hS2:=stp_putObj (stp_setCell hS (a:=⟨w.heap.size + 1,0,none⟩) (v:=.string ⟨#[]⟩) (by simp)) (by omega) hD2 rfl (o':=.deferred none)
    refine ⟨by simp,.inl ⟨_,_,rfl,run_takeDeferred hD2,?_⟩⟩
    have hB4:((W.setCell ⟨w.heap.size + 1,0,none⟩ (.string ⟨#[]⟩)).putObj D (.deferred none)).heap[w.heap.size + 1]? = some (.cells #[.string ⟨#[]⟩] 9):=by rw [World.putObj_heap_other (by omega)]; exact hB3
    refine ⟨_,results_cell1 rfl _ _ _ rfl (Tryz.isAgg9 _) (cell_of hB4 _),_,rfl,hS2,?_⟩
    rw [hn]
    exact IRel.str _
  case stop =>
    rintro D c pre W hD hp ⟨rfl,hS,hB1⟩ hK
    gi_wp2
    have hS2:=stp_putObj hS (by omega) hK rfl (o':=.deferred none)
    refine ⟨by simp,.inl ⟨_,_,rfl,run_takeDeferred hK,?_⟩⟩
    have hB4:(W.putObj D (.deferred none)).heap[w.heap.size + 1]? = some (.cells #[.string ⟨(nameOf op).toArray⟩] 9):=by rw [World.putObj_heap_other (by omega)]; exact hB1
    exact ⟨_,results_cell1 rfl _ _ _ rfl (Tryz.isAgg9 _) (cell_of hB4 _),_,rfl,hS2,IRel.str _⟩
theorem heap_set {W:World} {b off:Nat} {c:Array Value} {t:TypeId} {fr:Nat × Nat} {v:Value} (h:W.heap[b]? = some (.cells c t fr)):(W.setCell ⟨b,off,none⟩ v).heap[b]? = some (.cells (c.setIfInBounds off v) t fr):=by
  simp [World.setCell,Array.getElem?_modify,h]
end Go.Proofs.YtoaagdbbbojpmaaGreatDoor
set_option maxRecDepth 100000
set_option maxHeartbeats 4000000
set_option linter.unusedVariables false
set_option linter.unusedSimpArgs false
namespace Go.Proofs.YtoaagdbbbojpmaaGreatDoor
open Go Go.Mw
-- @U: oc_e

def st_ (s:List UInt8):List AV:=[.str s]
theorem st_e (s:List UInt8):st_ s = [.str s]:=rfl
attribute [go_sem] st_e
end Go.Proofs.YtoaagdbbbojpmaaGreatDoor
set_option maxRecDepth 100000
set_option maxHeartbeats 4000000
set_option linter.unusedVariables false
set_option linter.unusedSimpArgs false
namespace Go.Proofs.YtoaagdbbbojpmaaGreatDoor
open Go Go.Mw
-- @U: oc_e

def rowOf (op:Int):Option Oc:=OC.find? (fun o=>o.op == op)
def rNm (op:Int):List UInt8:=((rowOf op).getD default).nm
def rIm (op:Int):Int:=((rowOf op).getD default).im
def rKn (op:Int):Bool:=(rowOf op).isSome
def wthn (s p:List UInt8):Bool:=(List.range (s.length + 1)).any fun i=>decide (i + p.length ≤ s.length) && ((s.drop i).take p.length == p)
def wR (s:List UInt8):Int:=if wthn s [100,56] = true then 1 else if wthn s [101,56] = true then 1 else if wthn s [100,49,54] = true then 2 else if wthn s [101,49,54] = true then 2 else
  if wthn s [100,51,50] = true then 4 else if wthn s [101,51,50] = true then 4 else if (s.drop 1).take 2 = [51,50] then 4 else 8
def widR (op:Int):Int:=if rIm op ≠ 17 then 0 else wR (rNm op)
def aliR (w:Int):Int:=if w = 2 then 1 else if w = 4 then 2 else if w = 8 then 3 else 0
def free (op:Int):Bool:=op == 1 || (op == 2 || (op == 3 || (op == 5 || op == 11)))
def costR (op:Int):Int:=if free op = true then 0 else if rKn op = true then 1 else 0
end Go.Proofs.YtoaagdbbbojpmaaGreatDoor
set_option maxRecDepth 100000
set_option maxHeartbeats 4000000
set_option linter.unusedVariables false
set_option linter.unusedSimpArgs false
namespace Go.Proofs.YtoaagdbbbojpmaaGreatDoor
open Go Go.Mw

theorem name_all {p:Int → List UInt8 → Bool} (h:EN.all (fun x=>p x.1 x.2) = true) (op:Int):nameOf op = [] ∨ p op (nameOf op) = true:=by
  unfold nameOf
  cases hr:EN.find? (fun x=>x.1 == op) with
  | none=>exact .inl rfl
  | some o =>
    have h1:=List.all_eq_true.1 h o (List.mem_of_find?_eq_some hr)
    have h2:=List.find?_some hr
    simp only [beq_iff_eq] at h2
    rw [h2] at h1
    exact .inr h1
theorem nameOf_len (op:Int):(nameOf op).length < 1000:=by
  rcases name_all (p:=fun _ s=>decide (s.length < 1000)) (by decide +kernel) op with h | h
  · rw [h]; decide
  · exact of_decide_eq_true h
def acB (op:Int):Bool:=decide (op ≥ 40) && (decide (op ≤ 62) && !(nameOf op == []))
theorem acB_len (op:Int) (h:acB op = true):5 ≤ (nameOf op).length:=by
  simp only [acB,Bool.and_eq_true,decide_eq_true_eq,Bool.not_eq_true',beq_eq_false_iff_ne,ne_eq] at h
  rcases name_all (p:=fun k s=>decide (40 ≤ k → k ≤ 62 → 5 ≤ s.length)) (by decide +kernel) op with h1 | h1
  · exact absurd h1 h.2.2
  · exact (of_decide_eq_true h1) h.1 h.2.1
theorem s_known5 (op:Int):PCalls Tryz.prog nX72 [.int .i64 op] (.bool (!(nameOf op == []))):=by
  refine pfun_sound (ic:=FX72.body) mixed cX72 rfl rfl ?_
  simp only [go_sem,FX72]
  refine call_same (s_name5 op) (by simp [go_sem]) ?_
  simp only [go_sem]
  exact pdone [] (by simp only [go_sem]) (by first | rfl | simp [go_sem,slv_ids])
theorem s_access (op:Int):PCalls Tryz.prog nX69 [.int .i64 op] (.bool (acB op)):=by
  refine pfun_sound (ic:=FX69.body) mixed cX69 rfl rfl ?_
  unfold acB
  by_cases h1:op ≥ 40
  · by_cases h2:op ≤ 62
    · simp only [go_sem,FX69,decide_eq_true h1,decide_eq_true h2,Bool.true_and]
      refine call_same (s_known5 op) (by simp [go_sem]) ?_
      simp only [go_sem]
      exact pdone [] (by simp only [go_sem]) (by first | rfl | simp [go_sem,slv_ids])
    · simp only [go_sem,FX69,decide_eq_true h1,decide_eq_false h2,Bool.true_and,Bool.false_and]
      exact pdone [] (by simp only [go_sem]) (by first | rfl | simp [go_sem,slv_ids])
  · simp only [go_sem,FX69,decide_eq_false h1,Bool.false_and]
    exact pdone [] (by simp only [go_sem]) (by first | rfl | simp [go_sem,slv_ids])
def wNm (s:List UInt8):Int:=if Lib.contains (s.drop 4) [56] = true then 1 else if Lib.contains (s.drop 4) [49,54] = true then 2 else if Lib.contains (s.drop 4) [51,50] = true then 4 else if s.take 3 = [105,51,50] then 4 else 8
def widP (op:Int):Int:=if acB op = true then wNm (nameOf op) else 0
theorem s_width5 (op:Int):PCalls Tryz.prog nX74 [.int .i64 op] (.int .i64 (widP op)):=by
  refine pfun_sound (ic:=FX74.body) mixed cX74 rfl rfl ?_
  simp only [go_sem,FX74]
  refine call_same (s_access op) (by simp [go_sem]) ?_
  cases hac:acB op
  · have r:widP op = 0:=by rw [widP,hac]; rfl
    rw [r]
    simp only [go_sem]
    exact pdone [] (by rfl) rfl
  · have r:widP op = wNm (nameOf op):=by rw [widP,hac]; rfl
    have hl:=nameOf_len op
    have hl2:=acB_len op hac
    rw [r]
    simp only [go_sem]
    refine call_same (s_name5 op) (by simp [go_sem]) ?_
    simp only [go_sem]
    generalize nameOf op = s at hl hl2
    obtain ⟨Inv,hInv⟩:∃ Inv:Nat → Prop,Inv = fun i=>i ≤ 3 ∧ (0 < i → Lib.contains (s.drop 4) [56] = false) ∧ (1 < i → Lib.contains (s.drop 4) [49,54] = false) ∧ (2 < i → Lib.contains (s.drop 4) [51,50] = false):=⟨_,rfl⟩
    refine loop_rule (fun i:Nat=>⟨[(11,.ms 11 1 0 3),(12,.int .i64 3),(13,.int .i64 i),(3,.str s),(2,.int .i64 0)],[(11,⟨3,1,[[.int .i64 8],[.int .i64 16],[.int .i64 32]],false⟩)]⟩) Inv (fun i=>3 - i) 0 (by rw [hInv]; exact ⟨by decide,fun h=>absurd h (by decide),fun h=>absurd h (by decide),fun h=>absurd h (by decide)⟩) (Wk.of ?_ ?_) ?_
    · simp only [go_sem]; try simp
    · simp only [go_sem]; try simp
    intro i hInv1
    rw [hInv] at hInv1
    obtain ⟨hi,h1,h2,h3⟩:=hInv1
    have hd:(s.drop 4).length < 4294967281:=by simp; omega
    have e4:(s.drop 4).take (s.length - 4) = s.drop 4:=List.take_of_length_le (by simp)
    have hl4:4 ≤ s.length:=by omega
    have c0:((0:Nat):Int) = 0:=rfl
    have c1:((1:Nat):Int) = 1:=rfl
    have c2:((2:Nat):Int) = 2:=rfl
    have c3:((3:Nat):Int) = 3:=rfl
    have ld:∀ k:Nat,ldO none 1 k 0 (some ⟨3,1,[[.int .i64 8],[.int .i64 16],[.int .i64 32]],false⟩) = (match k with | 0=>some (.int .i64 8) | 1=>some (.int .i64 16) | 2=>some (.int .i64 32) | _=>none):=fun k=>by
      rcases k with _ | _ | _ | k <;> rfl
    have ls:∀ k:Nat,ldO none 1 k 0 (some ⟨9,1,[[.str [56]],[.str [49,54]],[.str [51,50]]],false⟩) = (match k with | 0=>some (.str [56]) | 1=>some (.str [49,54]) | 2=>some (.str [51,50]) | _=>none):=fun k=>by
      rcases k with _ | _ | _ | k <;> rfl
    have q0:IntKind.i64.wrap ((8:Int).tdiv 16) = 0:=by decide
    have q1:IntKind.i64.wrap ((16:Int).tdiv 16) = 1:=by decide
    have q2:IntKind.i64.wrap ((32:Int).tdiv 16) = 2:=by decide
    have p0:IntKind.i64.wrap ((8:Int).tdiv 8) = 1:=by decide
    have p1:IntKind.i64.wrap ((16:Int).tdiv 8) = 2:=by decide
    have p2:IntKind.i64.wrap ((32:Int).tdiv 8) = 4:=by decide
    have s0:IntKind.i64.wrap ((0:Int) + 1) = 1:=by decide
    have s1:IntKind.i64.wrap ((1:Int) + 1) = 2:=by decide
    have s2:IntKind.i64.wrap ((2:Int) + 1) = 3:=by decide
    have t0:(0:Int).toNat = 0:=rfl
    have t1:(1:Int).toNat = 1:=rfl
    have t2:(2:Int).toNat = 2:=rfl
    unfold wNm
    rcases (show i = 0 ∨ i = 1 ∨ i = 2 ∨ i = 3 by omega) with rfl | rfl | rfl | rfl
    · simp only [go_sem,hl4,e4,c0,c1,c2,c3,decide_eq_true (show (0:Int) < 3 by decide),ld,ls,q0,q1,q2,t0,t1,t2]
      refine ⟨⟨by decide,by decide⟩,⟨by decide,by omega⟩,by decide,⟨by decide,by decide⟩,?_⟩
      refine call_same (s_contains (s.drop 4) [56] hd) (by simp [go_sem]) ?_
      cases hc:Lib.contains (s.drop 4) [56]
      · simp only [go_sem]
        refine klp_n 1 (by rw [hInv]; exact ⟨by decide,fun _=>hc,fun h=>absurd h (by decide),fun h=>absurd h (by decide)⟩) (show 3 - 1 < 3 - 0 by decide) (Wk.of ?_ ?_)
        · simp only [go_sem,s0,s1,s2,c0,c1,c2,c3]
          try simp
        · simp only [go_sem]
      · simp only [go_sem,p0,p1,p2]
        exact ⟨by decide,by exact pdone [] (by rfl) rfl⟩
    · rw [h1 (by decide)]
      simp only [go_sem,hl4,e4,c0,c1,c2,c3,decide_eq_true (show (1:Int) < 3 by decide),ld,ls,q0,q1,q2,t0,t1,t2]
      refine ⟨⟨by decide,by decide⟩,⟨by decide,by omega⟩,by decide,⟨by decide,by decide⟩,?_⟩
      refine call_same (s_contains (s.drop 4) [49,54] hd) (by simp [go_sem]) ?_
      cases hc:Lib.contains (s.drop 4) [49,54]
      · simp only [go_sem]
        refine klp_n 2 (by rw [hInv]; exact ⟨by decide,fun _=>h1 (by decide),fun _=>hc,fun h=>absurd h (by decide)⟩) (show 3 - 2 < 3 - 1 by decide) (Wk.of ?_ ?_)
        · simp only [go_sem,s0,s1,s2,c0,c1,c2,c3]
          try simp
        · simp only [go_sem]
      · simp only [go_sem,p0,p1,p2]
        exact ⟨by decide,by exact pdone [] (by rfl) rfl⟩
    · rw [h1 (by decide)]
      rw [h2 (by decide)]
      simp only [go_sem,hl4,e4,c0,c1,c2,c3,decide_eq_true (show (2:Int) < 3 by decide),ld,ls,q0,q1,q2,t0,t1,t2]
      refine ⟨⟨by decide,by decide⟩,⟨by decide,by omega⟩,by decide,⟨by decide,by decide⟩,?_⟩
      refine call_same (s_contains (s.drop 4) [51,50] hd) (by simp [go_sem]) ?_
      cases hc:Lib.contains (s.drop 4) [51,50]
      · simp only [go_sem]
        refine klp_n 3 (by rw [hInv]; exact ⟨by decide,fun _=>h1 (by decide),fun _=>h2 (by decide),fun _=>hc⟩) (show 3 - 3 < 3 - 2 by decide) (Wk.of ?_ ?_)
        · simp only [go_sem,s0,s1,s2,c0,c1,c2,c3]
          try simp
        · simp only [go_sem]
      · simp only [go_sem,p0,p1,p2]
        exact ⟨by decide,by exact pdone [] (by rfl) rfl⟩
    · rw [h1 (by decide),h2 (by decide),h3 (by decide)]
      have e5:((3:Int)).toNat = 3:=rfl
      simp only [go_sem,c3,decide_eq_false (show ¬ (3:Int) < 3 by decide),List.drop_zero,e5]
      refine ⟨by omega,fun h=>?_,fun h=>?_⟩
      · rw [if_pos (by simpa using h)]
        exact pdone [] (by rfl) rfl
      · rw [if_neg (by simpa using h)]
        exact pdone [] (by rfl) rfl
def aliP (w:Int):Int:=if w = 1 then 0 else if w = 2 then 1 else if w = 4 then 2 else if w = 8 then 3 else 0
def stoT:List (Int × Int):=[(37,9),(38,9),(64528,9),(64527,9),(64529,9),(64526,10),(64524,11),(64525,12),(63,13),(64,13),(64523,13),(64522,14),(64520,15),(64521,16)]
def stoP (op:Int):Int:=match stoT.find? (fun p=>p.1 == op) with
  | some p=>p.2
  | none=>0
theorem s_stored5 (op:Int):PCalls Tryz.prog nX70 [.int .i64 op] (.int .i64 (stoP op)):=by
  refine pfun_sound (ic:=FX70.body) mixed cX70 rfl rfl ?_
  by_cases h0:op = 37
  · subst h0
    simp only [go_sem,FX70]
    exact pdone [] (by rfl) rfl
  by_cases h1:op = 38
  · subst h1
    simp only [go_sem,FX70]
    exact pdone [] (by rfl) rfl
  by_cases h2:op = 64528
  · subst h2
    simp only [go_sem,FX70]
    exact pdone [] (by rfl) rfl
  by_cases h3:op = 64527
  · subst h3
    simp only [go_sem,FX70]
    exact pdone [] (by rfl) rfl
  by_cases h4:op = 64529
  · subst h4
    simp only [go_sem,FX70]
    exact pdone [] (by rfl) rfl
  by_cases h5:op = 64526
  · subst h5
    simp only [go_sem,FX70]
    exact pdone [] (by rfl) rfl
  by_cases h6:op = 64524
  · subst h6
    simp only [go_sem,FX70]
    exact pdone [] (by rfl) rfl
  by_cases h7:op = 64525
  · subst h7
    simp only [go_sem,FX70]
    exact pdone [] (by rfl) rfl
  by_cases h8:op = 63
  · subst h8
    simp only [go_sem,FX70]
    exact pdone [] (by rfl) rfl
  by_cases h9:op = 64
  · subst h9
    simp only [go_sem,FX70]
    exact pdone [] (by rfl) rfl
  by_cases h10:op = 64523
  · subst h10
    simp only [go_sem,FX70]
    exact pdone [] (by rfl) rfl
  by_cases h11:op = 64522
  · subst h11
    simp only [go_sem,FX70]
    exact pdone [] (by rfl) rfl
  by_cases h12:op = 64520
  · subst h12
    simp only [go_sem,FX70]
    exact pdone [] (by rfl) rfl
  by_cases h13:op = 64521
  · subst h13
    simp only [go_sem,FX70]
    exact pdone [] (by rfl) rfl
  have r:stoP op = 0:=by
    simp only [stoP,stoT,List.find?_cons,List.find?_nil,beq_f (fun e:(37:Int) = op=>h0 e.symm),beq_f (fun e:(38:Int) = op=>h1 e.symm),beq_f (fun e:(64528:Int) = op=>h2 e.symm),beq_f (fun e:(64527:Int) = op=>h3 e.symm),beq_f (fun e:(64529:Int) = op=>h4 e.symm),beq_f (fun e:(64526:Int) = op=>h5 e.symm),beq_f (fun e:(64524:Int) = op=>h6 e.symm),beq_f (fun e:(64525:Int) = op=>h7 e.symm),beq_f (fun e:(63:Int) = op=>h8 e.symm),beq_f (fun e:(64:Int) = op=>h9 e.symm),beq_f (fun e:(64523:Int) = op=>h10 e.symm),beq_f (fun e:(64522:Int) = op=>h11 e.symm),beq_f (fun e:(64520:Int) = op=>h12 e.symm),beq_f (fun e:(64521:Int) = op=>h13 e.symm)]
  rw [r]
  simp only [go_sem,FX70,beq_f h0,beq_f h1,beq_f h2,beq_f h3,beq_f h4,beq_f h5,beq_f h6,beq_f h7,beq_f h8,beq_f h9,beq_f h10,beq_f h11,beq_f h12,beq_f h13]
  exact pdone [] (by rfl) rfl
def immT:List (Int × Int):=[(2,1),(3,1),(4,1),(12,2),(13,2),(14,3),(16,4),(210,4),(17,5),(28,6),(32,7),(33,7),(34,7),(35,8),(36,8),(65,18),(66,19),(208,20)]
def immP (op:Int):Int:=match immT.find? (fun p=>p.1 == op) with
  | some p=>p.2
  | none=>if widP op > 0 then 17 else stoP op
theorem s_of5 (op:Int):PCalls Tryz.prog nX117 [.int .i64 op] (.int .i64 (immP op)):=by
  refine pfun_sound (ic:=FX117.body) mixed cX117 rfl rfl ?_
  by_cases h0:op = 2
  · subst h0
    simp only [go_sem,FX117]
    exact pdone [] (by rfl) rfl
  by_cases h1:op = 3
  · subst h1
    simp only [go_sem,FX117]
    exact pdone [] (by rfl) rfl
  by_cases h2:op = 4
  · subst h2
    simp only [go_sem,FX117]
    exact pdone [] (by rfl) rfl
  by_cases h3:op = 12
  · subst h3
    simp only [go_sem,FX117]
    exact pdone [] (by rfl) rfl
  by_cases h4:op = 13
  · subst h4
    simp only [go_sem,FX117]
    exact pdone [] (by rfl) rfl
  by_cases h5:op = 14
  · subst h5
    simp only [go_sem,FX117]
    exact pdone [] (by rfl) rfl
  by_cases h6:op = 16
  · subst h6
    simp only [go_sem,FX117]
    exact pdone [] (by rfl) rfl
  by_cases h7:op = 210
  · subst h7
    simp only [go_sem,FX117]
    exact pdone [] (by rfl) rfl
  by_cases h8:op = 17
  · subst h8
    simp only [go_sem,FX117]
    exact pdone [] (by rfl) rfl
  by_cases h9:op = 28
  · subst h9
    simp only [go_sem,FX117]
    exact pdone [] (by rfl) rfl
  by_cases h10:op = 32
  · subst h10
    simp only [go_sem,FX117]
    exact pdone [] (by rfl) rfl
  by_cases h11:op = 33
  · subst h11
    simp only [go_sem,FX117]
    exact pdone [] (by rfl) rfl
  by_cases h12:op = 34
  · subst h12
    simp only [go_sem,FX117]
    exact pdone [] (by rfl) rfl
  by_cases h13:op = 35
  · subst h13
    simp only [go_sem,FX117]
    exact pdone [] (by rfl) rfl
  by_cases h14:op = 36
  · subst h14
    simp only [go_sem,FX117]
    exact pdone [] (by rfl) rfl
  by_cases h15:op = 65
  · subst h15
    simp only [go_sem,FX117]
    exact pdone [] (by rfl) rfl
  by_cases h16:op = 66
  · subst h16
    simp only [go_sem,FX117]
    exact pdone [] (by rfl) rfl
  by_cases h17:op = 208
  · subst h17
    simp only [go_sem,FX117]
    exact pdone [] (by rfl) rfl
  have r:immP op = if widP op > 0 then 17 else stoP op:=by
    simp only [immP,immT,List.find?_cons,List.find?_nil,beq_f (fun e:(2:Int) = op=>h0 e.symm),beq_f (fun e:(3:Int) = op=>h1 e.symm),beq_f (fun e:(4:Int) = op=>h2 e.symm),beq_f (fun e:(12:Int) = op=>h3 e.symm),beq_f (fun e:(13:Int) = op=>h4 e.symm),beq_f (fun e:(14:Int) = op=>h5 e.symm),beq_f (fun e:(16:Int) = op=>h6 e.symm),beq_f (fun e:(210:Int) = op=>h7 e.symm),beq_f (fun e:(17:Int) = op=>h8 e.symm),beq_f (fun e:(28:Int) = op=>h9 e.symm),beq_f (fun e:(32:Int) = op=>h10 e.symm),beq_f (fun e:(33:Int) = op=>h11 e.symm),beq_f (fun e:(34:Int) = op=>h12 e.symm),beq_f (fun e:(35:Int) = op=>h13 e.symm),beq_f (fun e:(36:Int) = op=>h14 e.symm),beq_f (fun e:(65:Int) = op=>h15 e.symm),beq_f (fun e:(66:Int) = op=>h16 e.symm),beq_f (fun e:(208:Int) = op=>h17 e.symm)]
  rw [r]
  simp only [go_sem,FX117,beq_f h0,beq_f h1,beq_f h2,beq_f h3,beq_f h4,beq_f h5,beq_f h6,beq_f h7,beq_f h8,beq_f h9,beq_f h10,beq_f h11,beq_f h12,beq_f h13,beq_f h14,beq_f h15,beq_f h16,beq_f h17]
  refine call_same (s_width5 op) (by simp [go_sem]) ?_
  by_cases hw:widP op > 0
  · simp only [go_sem,decide_eq_true hw,if_pos hw]
    exact pdone [] (by rfl) rfl
  · simp only [go_sem,decide_eq_false hw,if_neg hw]
    refine call_same (s_stored5 op) (by simp [go_sem]) ?_
    simp only [go_sem]
    exact pdone [] (by rfl) rfl
def costP (op:Int):Int:=if free op = true then 0 else if nameOf op = [] then 0 else 1
end Go.Proofs.YtoaagdbbbojpmaaGreatDoor
set_option maxRecDepth 100000
set_option linter.unusedVariables false
set_option linter.unusedSimpArgs false
namespace Go.Proofs.YtoaagdbbbojpmaaGreatDoor
open Go Go.Mw

def vl_ (n:Int):List AV:=[.int .i64 n]
theorem vl_e (n:Int):vl_ n = [.int .i64 n]:=rfl
attribute [go_sem] vl_e
structure Ins where
  op:Int
  a:Int
  b:Int
  n:Int
  k:Int
  v:Int
  x:Int
  ty:List Int
  lb:List Int
def ins_ (i:Ins):AV:=.agg [.int .i64 i.op,.int .i64 i.a,.int .i64 i.b,.int .u64 i.n,.int .i64 i.k,.int .i64 i.v,.int .i64 i.x,.sl 1 (i.ty.map vl_),.sl 1 (i.lb.map vl_)]
theorem ins_e (i:Ins):ins_ i = .agg [.int .i64 i.op,.int .i64 i.a,.int .i64 i.b,.int .u64 i.n,.int .i64 i.k,.int .i64 i.v,.int .i64 i.x,.sl 1 (i.ty.map vl_),.sl 1 (i.lb.map vl_)]:=rfl
def insC (i:Ins):List AV:=[.int .i64 i.op,.int .i64 i.a,.int .i64 i.b,.int .u64 i.n,.int .i64 i.k,.int .i64 i.v,.int .i64 i.x,.sl 1 (i.ty.map vl_),.sl 1 (i.lb.map vl_)]
end Go.Proofs.YtoaagdbbbojpmaaGreatDoor
set_option maxRecDepth 100000
set_option maxHeartbeats 4000000
set_option linter.unusedVariables false
set_option linter.unusedSimpArgs false
namespace Go.Proofs.YtoaagdbbbojpmaaGreatDoor
open Go Go.Mw

def useT:List (Int × Bool × Bool × Bool):=[(2,true,false,false),(3,true,false,false),(4,true,false,false),(7,true,false,false),(8,true,false,false),(9,true,false,false),(12,true,false,false),(16,true,false,false),(20,true,false,false),(5,true,true,false),(10,true,true,false),(11,true,true,false),(14,true,true,false),(15,true,true,false),(13,false,true,false),(17,true,true,true),(18,false,false,true),(19,false,false,true)]
def usd (i:Int):Bool × Bool × Bool:=match useT.find? (fun p=>p.1 == i) with
  | some p=>p.2
  | none=>(false,false,false)
theorem s_used (i:Int):PCalls Tryz.prog nX101 [.int .i64 i] (.tup [.bool (usd i).1,.bool (usd i).2.1,.bool (usd i).2.2]):=by
  refine pfun_sound (ic:=FX101.body) mixed cX101 rfl rfl ?_
  by_cases h0:i = 2
  · subst h0
    simp only [go_sem,FX101]
    exact pdone [] (by rfl) rfl
  by_cases h1:i = 3
  · subst h1
    simp only [go_sem,FX101]
    exact pdone [] (by rfl) rfl
  by_cases h2:i = 4
  · subst h2
    simp only [go_sem,FX101]
    exact pdone [] (by rfl) rfl
  by_cases h3:i = 7
  · subst h3
    simp only [go_sem,FX101]
    exact pdone [] (by rfl) rfl
  by_cases h4:i = 8
  · subst h4
    simp only [go_sem,FX101]
    exact pdone [] (by rfl) rfl
  by_cases h5:i = 9
  · subst h5
    simp only [go_sem,FX101]
    exact pdone [] (by rfl) rfl
  by_cases h6:i = 12
  · subst h6
    simp only [go_sem,FX101]
    exact pdone [] (by rfl) rfl
  by_cases h7:i = 16
  · subst h7
    simp only [go_sem,FX101]
    exact pdone [] (by rfl) rfl
  by_cases h8:i = 20
  · subst h8
    simp only [go_sem,FX101]
    exact pdone [] (by rfl) rfl
  by_cases h9:i = 5
  · subst h9
    simp only [go_sem,FX101]
    exact pdone [] (by rfl) rfl
  by_cases h10:i = 10
  · subst h10
    simp only [go_sem,FX101]
    exact pdone [] (by rfl) rfl
  by_cases h11:i = 11
  · subst h11
    simp only [go_sem,FX101]
    exact pdone [] (by rfl) rfl
  by_cases h12:i = 14
  · subst h12
    simp only [go_sem,FX101]
    exact pdone [] (by rfl) rfl
  by_cases h13:i = 15
  · subst h13
    simp only [go_sem,FX101]
    exact pdone [] (by rfl) rfl
  by_cases h14:i = 13
  · subst h14
    simp only [go_sem,FX101]
    exact pdone [] (by rfl) rfl
  by_cases h15:i = 17
  · subst h15
    simp only [go_sem,FX101]
    exact pdone [] (by rfl) rfl
  by_cases h16:i = 18
  · subst h16
    simp only [go_sem,FX101]
    exact pdone [] (by rfl) rfl
  by_cases h17:i = 19
  · subst h17
    simp only [go_sem,FX101]
    exact pdone [] (by rfl) rfl
  have r:usd i = (false,false,false):=by
    simp only [usd,useT,List.find?_cons,List.find?_nil,beq_f (fun e:(2:Int) = i=>h0 e.symm),beq_f (fun e:(3:Int) = i=>h1 e.symm),beq_f (fun e:(4:Int) = i=>h2 e.symm),beq_f (fun e:(7:Int) = i=>h3 e.symm),beq_f (fun e:(8:Int) = i=>h4 e.symm),beq_f (fun e:(9:Int) = i=>h5 e.symm),beq_f (fun e:(12:Int) = i=>h6 e.symm),beq_f (fun e:(16:Int) = i=>h7 e.symm),beq_f (fun e:(20:Int) = i=>h8 e.symm),beq_f (fun e:(5:Int) = i=>h9 e.symm),beq_f (fun e:(10:Int) = i=>h10 e.symm),beq_f (fun e:(11:Int) = i=>h11 e.symm),beq_f (fun e:(14:Int) = i=>h12 e.symm),beq_f (fun e:(15:Int) = i=>h13 e.symm),beq_f (fun e:(13:Int) = i=>h14 e.symm),beq_f (fun e:(17:Int) = i=>h15 e.symm),beq_f (fun e:(18:Int) = i=>h16 e.symm),beq_f (fun e:(19:Int) = i=>h17 e.symm)]
  rw [r]
  simp only [go_sem,FX101,beq_f h0,beq_f h1,beq_f h2,beq_f h3,beq_f h4,beq_f h5,beq_f h6,beq_f h7,beq_f h8,beq_f h9,beq_f h10,beq_f h11,beq_f h12,beq_f h13,beq_f h14,beq_f h15,beq_f h16,beq_f h17]
  exact pdone [] (by rfl) rfl
theorem s_index (n:Int):PCalls Tryz.prog nX76 [.int .i64 n] (.bool (decide (n ≥ 0) && decide (n < 4294967296))):=by
  refine pfun_sound (ic:=FX76.body) mixed cX76 rfl rfl ?_
  by_cases h:n ≥ 0
  · simp only [go_sem,FX76,decide_eq_true h,Bool.true_and]
    exact pdone [] (by simp only [go_sem]) (by first | rfl | simp [go_sem,slv_ids])
  · simp only [go_sem,FX76,decide_eq_false h,Bool.false_and]
    exact pdone [] (by simp only [go_sem]) (by first | rfl | simp [go_sem,slv_ids])
end Go.Proofs.YtoaagdbbbojpmaaGreatDoor
set_option maxRecDepth 100000
set_option maxHeartbeats 8000000
set_option linter.unusedVariables false
set_option linter.unusedSimpArgs false
namespace Go.Proofs.YtoaagdbbbojpmaaGreatDoor
open Go Go.Mw
-- @U: vl_e,List.length_map

def ixB (n:Int):Bool:=decide (n ≥ 0) && decide (n < 4294967296)
def vaB (n:Int):Bool:=decide (n ≥ 1) && decide (n ≤ 4)
def blB (k v z:Int):Bool:=if k = 0 then (v == 0) && (z == 0) else if k = 1 then vaB v && (z == 0) else if k = 2 then (v == 0) && ixB z else false
theorem s_ix (n:Int):PCalls Tryz.prog nX76 [.int .i64 n] (.bool (ixB n)):=s_index n
attribute [local go_sem] vl_e List.length_map
theorem s_va (n:Int):PCalls Tryz.prog nX105 [.int .i64 n] (.bool (vaB n)):=by
  refine pfun_sound (ic:=FX105.body) mixed cX105 rfl rfl ?_
  unfold vaB
  by_cases h:n ≥ 1
  · simp only [go_sem,FX105,decide_eq_true h,Bool.true_and]
    exact pdone [] (by simp only [go_sem]) (by first | rfl | simp [go_sem,slv_ids])
  · simp only [go_sem,FX105,decide_eq_false h,Bool.false_and]
    exact pdone [] (by simp only [go_sem]) (by first | rfl | simp [go_sem,slv_ids])
theorem nt_ {a b:Int} (h:(a != b) = true):(a == b) = false:=by simpa using h
theorem nf_ {a b:Int} (h:(a != b) = false):(a == b) = true:=by simpa using h
theorem nb_ {b:Bool} (h:(!b) = true):b = false:=by cases b <;> first | rfl | cases h
theorem nc_ {b:Bool} (h:(!b) = false):b = true:=by cases b <;> first | rfl | cases h
theorem s_block5 (k v z:Int):PCalls Tryz.prog nX75 [.agg [.int .i64 k,.int .i64 v,.int .i64 z]] (.bool (blB k v z)):=by
  refine pfun_sound (ic:=FX75.body) mixed cX75 rfl rfl ?_
  unfold blB
  by_cases h0:k = 0
  · subst h0
    rw [if_pos rfl]
    simp only [go_sem,FX75]
    exact pdone [] (by rfl) rfl
  by_cases h1:k = 1
  · subst h1
    rw [if_neg h0,if_pos rfl]
    simp only [go_sem,FX75]
    refine call_same (s_va v) (by simp [go_sem]) ?_
    cases vaB v
    · simp only [go_sem]
      exact pdone [] (by rfl) rfl
    · simp only [go_sem]
      exact pdone [] (by rfl) rfl
  by_cases h2:k = 2
  · subst h2
    rw [if_neg h0,if_neg h1,if_pos rfl]
    simp only [go_sem,FX75]
    refine ⟨fun h=>?_,fun h=>?_⟩
    · refine call_same (s_ix z) (by simp [go_sem]) ?_
      rw [h]
      simp only [go_sem]
      exact pdone [] (by rfl) rfl
    · rw [h]
      exact pdone [] (by rfl) rfl
  rw [if_neg h0,if_neg h1,if_neg h2]
  simp only [go_sem,FX75,beq_f h0,beq_f h1,beq_f h2]
  exact pdone [] (by rfl) rfl
theorem all_nth {f:Int → Bool} {l:List Int} (h:∀ k,k < l.length → f (nth l k) = true):l.all f = true:=by
  rw [List.all_eq_true]
  intro x hx
  obtain ⟨k,hk,rfl⟩:=List.mem_iff_getElem.1 hx
  have:=h k hk
  rwa [nth_eq hk] at this
theorem all_not {f:Int → Bool} {l:List Int} {k:Nat} (hk:k < l.length) (h:f (nth l k) = false):l.all f = false:=by
  rw [List.all_eq_false]
  exact ⟨nth l k,by rw [nth_eq hk]; exact List.getElem_mem hk,by rw [h]; decide⟩
end Go.Proofs.YtoaagdbbbojpmaaGreatDoor
set_option maxRecDepth 100000
set_option maxHeartbeats 20000000
set_option linter.unusedVariables false
set_option linter.unusedSimpArgs false
namespace Go.Proofs.YtoaagdbbbojpmaaGreatDoor
open Go Go.Mw
-- @U: vl_e,List.length_map,ins_e

def finP (i:Int) (x:Ins):Bool :=
  if i = 1 then blB x.k x.v x.x else if i = 6 then ((x.ty.length:Int) == 1) && vaB (nth x.ty 0) else if i = 17 then decide (x.a ≤ 63) else if i = 20 then (x.a == 3) || (x.a == 4) else x.lb.all ixB
def plP (i:Int) (kn:Bool) (u:Bool × Bool × Bool) (x:Ins):Bool :=
  kn && ((u.1 || (x.a == 0)) && ((u.2.1 || (x.b == 0)) && ((u.2.2 || (x.n == 0)) && (ixB x.a && (ixB x.b &&
  (((i == 19) || !decide (x.n ≥ 4294967296)) && (((i == 1) || ((x.k == 0) && ((x.v == 0) && (x.x == 0)))) && (((i == 6) || !decide ((x.ty.length:Int) > 0)) && (((i == 3) || !decide ((x.lb.length:Int) > 0)) && finP i x)))))))))
def CL:List (Bool × Bool × Bool × Bool × Bool × Bool × Bool × Bool × Bool) :=
  [(false,false,false,true,false,false,false,false,false),
   (true,false,false,false,true,false,false,false,false),
   (false,false,false,false,false,true,false,false,false),
   (true,true,true,false,false,false,true,false,false),
   (false,false,true,false,false,false,false,true,false),
   (true,false,false,false,false,false,false,false,true),
   (true,false,false,false,false,false,false,false,false),
   (true,true,false,false,false,false,false,false,false),
   (false,true,false,false,false,false,false,false,false),
   (false,false,true,false,false,false,false,false,false),
   (false,false,false,false,false,false,false,false,false)]
theorem cls (i:Int) (hi:0 ≤ i ∧ i ≤ 20):((usd i).1,(usd i).2.1,(usd i).2.2,(i == 1),(i == 3),(i == 6),(i == 17),(i == 19),(i == 20)) ∈ CL:=by
  obtain ⟨h1,h2⟩:=hi
  obtain ⟨n,rfl⟩:=Int.eq_ofNat_of_zero_le h1
  have hn:n ≤ 20:=by omega
  clear h1 h2
  have:∀ n:Fin 21,((usd (n.val:Nat)).1,(usd (n.val:Nat)).2.1,(usd (n.val:Nat)).2.2,(((n.val:Nat):Int) == 1),(((n.val:Nat):Int) == 3),(((n.val:Nat):Int) == 6),(((n.val:Nat):Int) == 17),(((n.val:Nat):Int) == 19),(((n.val:Nat):Int) == 20)) ∈ CL:=by decide +kernel
  exact this ⟨n,by omega⟩
attribute [local go_sem] vl_e List.length_map ins_e
theorem s_plain5 (x:Ins) (i:Int) (hi:0 ≤ i ∧ i ≤ 20) (him:immP x.op = i) (hl:x.lb.length ≤ 9223372036854775807):PCalls Tryz.prog nX73 [ins_ x] (.bool (plP i (!(nameOf x.op == [])) (usd i) x)):=by
  refine pfun_sound (ic:=FX73.body) mixed cX73 rfl rfl ?_
  have a1:=s_of5 x.op
  rw [him] at a1
  have a2:=s_used i
  have a3:=s_known5 x.op
  have hc:=cls i hi
  unfold plP
  generalize (usd i).1 = ua at hc a2
  generalize (usd i).2.1 = ub at hc a2
  generalize (usd i).2.2 = un at hc a2
  generalize h1:(i == 1) = k1 at hc
  generalize h3:(i == 3) = k3 at hc
  generalize h6:(i == 6) = k6 at hc
  generalize h17:(i == 17) = k17 at hc
  generalize h19:(i == 19) = k19 at hc
  generalize h20:(i == 20) = k20 at hc
  simp only [CL,List.mem_cons,List.not_mem_nil,or_false,Prod.mk.injEq] at hc
  rcases hc with ⟨rfl,rfl,rfl,rfl,rfl,rfl,rfl,rfl,rfl⟩ | ⟨rfl,rfl,rfl,rfl,rfl,rfl,rfl,rfl,rfl⟩ | ⟨rfl,rfl,rfl,rfl,rfl,rfl,rfl,rfl,rfl⟩ | ⟨rfl,rfl,rfl,rfl,rfl,rfl,rfl,rfl,rfl⟩ | ⟨rfl,rfl,rfl,rfl,rfl,rfl,rfl,rfl,rfl⟩ | ⟨rfl,rfl,rfl,rfl,rfl,rfl,rfl,rfl,rfl⟩ | ⟨rfl,rfl,rfl,rfl,rfl,rfl,rfl,rfl,rfl⟩ | ⟨rfl,rfl,rfl,rfl,rfl,rfl,rfl,rfl,rfl⟩ | ⟨rfl,rfl,rfl,rfl,rfl,rfl,rfl,rfl,rfl⟩ | ⟨rfl,rfl,rfl,rfl,rfl,rfl,rfl,rfl,rfl⟩ | ⟨rfl,rfl,rfl,rfl,rfl,rfl,rfl,rfl,rfl⟩
  all_goals
    have d1:(i != 1) = !(i == 1):=rfl
    have d3:(i != 3) = !(i == 3):=rfl
    have d6:(i != 6) = !(i == 6):=rfl
    have d19:(i != 19) = !(i == 19):=rfl
    rw [h1] at d1
    rw [h3] at d3
    rw [h6] at d6
    rw [h19] at d19
    simp only [h1,h3,h6,h19,Bool.true_or,Bool.false_or,Bool.true_and]
    simp only [go_sem,FX73]
    refine call_same (a1) (by simp [go_sem]) ?_
    simp only [go_sem]
    refine call_same (a2) (by simp [go_sem]) ?_
    simp only [go_sem]
    refine call_same (a3) (by simp [go_sem]) ?_
    cases hk:!(nameOf x.op == [])
    · simp only [go_sem]
      exact pdone [] (by rfl) rfl
    rw [Bool.true_and]
    simp only [go_sem]
    iterate 3 (first | (refine ⟨fun h=>?_,fun h=>?_⟩
                        · rw [nt_ h,Bool.false_and]
                          exact pdone [] (by rfl) rfl
                        rw [nf_ h,Bool.true_and]) | skip)
    refine call_same (s_ix x.a) (by simp [go_sem]) ?_
    cases hA:ixB x.a
    · rw [Bool.false_and]
      simp only [go_sem]
      exact pdone [] (by rfl) rfl
    rw [Bool.true_and]
    simp only [go_sem]
    refine call_same (s_ix x.b) (by simp [go_sem]) ?_
    cases hB:ixB x.b
    · rw [Bool.false_and]
      simp only [go_sem]
      exact pdone [] (by rfl) rfl
    rw [Bool.true_and]
    simp only [go_sem,d1,d3,d6,d19,h1,h6,h17,h20,Bool.not_true,Bool.not_false]
    iterate 4 (first | (refine ⟨fun h=>?_,fun h=>?_⟩
                        · (first | rw [decide_eq_true h,Bool.not_true,Bool.false_and] | rw [nb_ h,Bool.false_and])
                          exact pdone [] (by rfl) rfl
                        (first | rw [decide_eq_false h,Bool.not_false,Bool.true_and] | rw [nc_ h,Bool.true_and])) | skip)
  · have r:finP i x = blB x.k x.v x.x:=by rw [finP,if_pos (eq_of_beq h1)]
    rw [r]
    refine call_same (s_block5 x.k x.v x.x) (by simp [go_sem]) ?_
    simp only [go_sem]
    exact pdone [] (by rfl) rfl
  rotate_left
  · have r:finP i x = (((x.ty.length:Int) == 1) && vaB (nth x.ty 0)):=by rw [finP,if_neg (ne_of_beq_false h1),if_pos (eq_of_beq h6)]
    rw [r]
    refine ⟨fun h=>⟨by decide,?_,?_⟩,fun h=>?_⟩
    · have:=eq_of_beq h
      omega
    · rw [h,Bool.true_and]
      refine call_same (s_va (nth x.ty 0)) (by simp [go_sem]) ?_
      simp only [go_sem]
      exact pdone [] (by rfl) rfl
    · rw [h,Bool.false_and]
      exact pdone [] (by rfl) rfl
  · have r:finP i x = decide (x.a ≤ 63):=by rw [finP,if_neg (ne_of_beq_false h1),if_neg (ne_of_beq_false h6),if_pos (eq_of_beq h17)]
    rw [r]
    exact pdone [] (by rfl) rfl
  rotate_left
  · have r:finP i x = ((x.a == 3) || (x.a == 4)):=by rw [finP,if_neg (ne_of_beq_false h1),if_neg (ne_of_beq_false h6),if_neg (ne_of_beq_false h17),if_pos (eq_of_beq h20)]
    rw [r]
    refine ⟨fun h=>?_,fun h=>?_⟩
    · rw [h,Bool.true_or]
      exact pdone [] (by rfl) rfl
    · rw [h,Bool.false_or]
      exact pdone [] (by rfl) rfl
  all_goals
    have r:finP i x = x.lb.all ixB:=by rw [finP,if_neg (ne_of_beq_false h1),if_neg (ne_of_beq_false h6),if_neg (ne_of_beq_false h17),if_neg (ne_of_beq_false h20)]
    rw [r]
    refine loop_rule (fun i:Nat=>⟨[(133,.sl 1 (x.lb.map vl_)),(134,.int .i64 x.lb.length),(135,.int .i64 i)],[]⟩) (fun i=>i ≤ x.lb.length ∧ ∀ k,k < i → ixB (nth x.lb k) = true) (fun i=>x.lb.length - i) 0 ⟨Nat.zero_le _,fun k hk=>absurd hk (Nat.not_lt_zero k)⟩ (Wk.of ?_ ?_) ?_
    · simp only [go_sem]; try simp
    · trivial
    rintro j ⟨hj,hk⟩
    by_cases q1:(j:Int) < (x.lb.length:Int)
    · have e8:=wi (n:=(j:Int) + 1) (by omega) (by omega)
      simp only [go_sem,decide_eq_true q1]
      refine ⟨by omega,q1,?_⟩
      refine call_same (s_ix (nth x.lb j)) (by simp [go_sem]) ?_
      cases q2:ixB (nth x.lb j)
      · rw [all_not (by omega) q2]
        simp only [go_sem]
        exact pdone [] (by rfl) rfl
      · simp only [go_sem]
        refine klp_n (j + 1) ⟨by omega,fun k hk2=>?_⟩ (show x.lb.length - (j + 1) < x.lb.length - j by omega) (Wk.of ?_ ?_)
        · rcases Nat.lt_or_ge k j with h4 | h4
          · exact hk k h4
          · obtain rfl:k = j:=by omega
            exact q2
        · simp only [go_sem,e8]
          try simp
        · simp only [go_sem]
    · rw [all_nth (fun k hk2=>hk k (by omega))]
      simp only [go_sem,decide_eq_false q1]
      exact pdone [] (by rfl) rfl
end Go.Proofs.YtoaagdbbbojpmaaGreatDoor
set_option maxRecDepth 100000
set_option maxHeartbeats 40000000
set_option linter.unusedVariables false
set_option linter.unusedSimpArgs false
namespace Go.Proofs.YtoaagdbbbojpmaaGreatDoor
open Go Go.Mw
-- @U: vl_e,List.length_map,ins_e

def rfin (i:Int) (x:Ins):Bool :=
  if i = 0 then (x.a == 0) && ((x.b == 0) && (x.n == 0)) else
  if i = 1 then (x.a == 0) && ((x.b == 0) && ((x.n == 0) && blB x.k x.v x.x)) else
  if i = 3 then ixB x.a && ((x.b == 0) && ((x.n == 0) && x.lb.all ixB)) else
  if i = 6 then (x.a == 0) && ((x.b == 0) && ((x.n == 0) && (((x.ty.length:Int) == 1) && vaB (nth x.ty 0)))) else
  if i = 13 then (x.a == 0) && (ixB x.b && (x.n == 0)) else
  if i = 17 then decide (x.a ≥ 0) && (decide (x.a ≤ 63) && (ixB x.b && decide (x.n < 4294967296))) else
  if i = 18 then (x.a == 0) && ((x.b == 0) && decide (x.n < 4294967296)) else
  if i = 19 then (x.a == 0) && (x.b == 0) else
  if i = 20 then ((x.a == 3) || (x.a == 4)) && ((x.b == 0) && (x.n == 0)) else
  if i = 5 ∨ i = 10 ∨ i = 11 ∨ i = 14 ∨ i = 15 then ixB x.a && (ixB x.b && (x.n == 0)) else
  ixB x.a && ((x.b == 0) && (x.n == 0))
def plR (i:Int) (kn:Bool) (x:Ins):Bool :=
  kn && (((i == 1) || ((x.k == 0) && ((x.v == 0) && (x.x == 0)))) && (((i == 3) || !decide ((x.lb.length:Int) > 0)) && (((i == 6) || !decide ((x.ty.length:Int) > 0)) && rfin i x)))
end Go.Proofs.YtoaagdbbbojpmaaGreatDoor
set_option maxRecDepth 100000
set_option maxHeartbeats 4000000
set_option linter.unusedVariables false
set_option linter.unusedSimpArgs false
namespace Go.Proofs.YtoaagdbbbojpmaaGreatDoor
open Go Go.Mw

theorem row_name (op:Int):nameOf op = rNm op:=by
  have h:∀ l:List Oc,(match (l.map fun o=>(o.op,o.nm)).find? (fun x=>x.1 == op) with | some o=>o.2 | none=>[]) = ((l.find? (fun o=>o.op == op)).getD default).nm:=by
    intro l
    induction l with
    | nil=>rfl
    | cons a l ih =>
      simp only [List.map_cons,List.find?_cons]
      cases ha:a.op == op
      · exact ih
      · rfl
  exact h OC
theorem row_none {op:Int} (h:rowOf op = none):rNm op = [] ∧ rIm op = 0 ∧ rKn op = false:=by
  simp only [rNm,rIm,rKn,h]
  exact ⟨rfl,rfl,rfl⟩
theorem row_in {p:Int → Bool} (h:OC.all (fun o=>p o.op) = true) {op:Int} (hr:rowOf op ≠ none):p op = true:=by
  cases hf:rowOf op with
  | none=>exact absurd hf hr
  | some o =>
    have h1:=List.all_eq_true.1 h o (List.mem_of_find?_eq_some hf)
    have h2:=List.find?_some hf
    simp only [beq_iff_eq] at h2
    rw [h2] at h1
    exact h1
theorem tells (op:Int):(!(nameOf op == [])) = rKn op ∧ nameOf op = rNm op ∧ immP op = rIm op ∧ widP op = widR op ∧ aliP (widP op) = aliR (widR op) ∧ costP op = costR op:=by
  by_cases h:rowOf op = none
  · obtain ⟨h1,h2,h3⟩:=row_none h
    have hn:nameOf op = []:=by rw [row_name,h1]
    have hw:widP op = 0:=by
      have:acB op = false:=by simp [acB,hn]
      rw [widP,this]; rfl
    have hw2:widR op = 0:=by rw [widR,h2]; rfl
    have hi:immP op = 0:=by
      have ht:∀ (l:List (Int × Int)),l.all (fun p=>(rowOf p.1).isSome) = true → l.find? (fun p=>p.1 == op) = none:=by
        intro l hl
        rw [List.find?_eq_none]
        intro p hp hq
        have:=List.all_eq_true.1 hl p hp
        simp only [beq_iff_eq] at hq
        rw [hq,h] at this
        cases this
      have hs:stoP op = 0:=by rw [stoP,ht stoT (by decide +kernel)]
      rw [immP,ht immT (by decide +kernel),hw,hs]; rfl
    refine ⟨by rw [hn,h3]; rfl,row_name op,by rw [hi,h2],by rw [hw,hw2],by rw [hw,hw2]; rfl,?_⟩
    rw [costP,costR,hn,h3]; rfl
  · have:=row_in (p:=fun op=>(!(nameOf op == [])) == rKn op && immP op == rIm op && widP op == widR op && aliP (widP op) == aliR (widR op) && costP op == costR op) (by decide +kernel) h
    simp only [Bool.and_eq_true,beq_iff_eq] at this
    obtain ⟨⟨⟨⟨h1,h2⟩,h3⟩,h4⟩,h5⟩:=this
    exact ⟨h1,row_name op,h2,h3,h4,h5⟩
end Go.Proofs.YtoaagdbbbojpmaaGreatDoor
set_option maxRecDepth 100000
set_option maxHeartbeats 8000000
set_option linter.unusedVariables false
set_option linter.unusedSimpArgs false
namespace Go.Proofs.YtoaagdbbbojpmaaGreatDoor
open Go Go.Mw
-- @U: vl_e,List.length_map,ins_e

theorem pl_eq (i:Int) (hi:0 ≤ i ∧ i ≤ 20) (kn:Bool) (x:Ins) (hn:0 ≤ x.n):plP i kn (usd i) x = plR i kn x:=by
  obtain ⟨op,a,b,n,k,v,z,ty,lb⟩:=x
  replace hn:0 ≤ n:=hn
  have hal:¬ ((lb.length:Int) > 0) → lb.all ixB = true:=fun h=>by
    cases lb with
    | nil=>rfl
    | cons y l=>simp at h
  unfold plP plR finP rfin
  simp only
  generalize lb.all ixB = al at hal
  generalize (lb.length:Int) = ll at hal
  generalize vaB (nth ty 0) = vv
  generalize (ty.length:Int) = tl
  generalize blB k v z = bb
  generalize ((k == 0) && ((v == 0) && (z == 0))) = kk
  have ea:a = 0 → ixB a = true:=fun h=>by subst h; decide
  have eb:b = 0 → ixB b = true:=fun h=>by subst h; decide
  have ec:a = 3 ∨ a = 4 → ixB a = true:=fun h=>by rcases h with rfl | rfl <;> decide
  have ed:ixB a = true ∧ a ≤ 63 ↔ a ≥ 0 ∧ a ≤ 63:=by
    simp only [ixB,Bool.and_eq_true,decide_eq_true_eq]
    omega
  generalize ixB a = xa at ea ec ed
  generalize ixB b = xb at eb
  rcases (show i = 0 ∨ i = 1 ∨ i = 2 ∨ i = 3 ∨ i = 4 ∨ i = 5 ∨ i = 6 ∨ i = 7 ∨ i = 8 ∨ i = 9 ∨ i = 10 ∨ i = 11 ∨ i = 12 ∨ i = 13 ∨ i = 14 ∨ i = 15 ∨ i = 16 ∨ i = 17 ∨ i = 18 ∨ i = 19 ∨ i = 20 by omega) with rfl | rfl | rfl | rfl | rfl | rfl | rfl | rfl | rfl | rfl | rfl | rfl | rfl | rfl | rfl | rfl | rfl | rfl | rfl | rfl | rfl
  all_goals
    simp only [usd,useT,List.find?_cons,List.find?_nil,Int.reduceBEq,Int.reduceEq,if_true,if_false,Bool.true_or,Bool.false_or,Bool.true_and,Bool.false_and,false_or,or_false,or_true,true_or,or_self]
    rw [Bool.eq_iff_iff]
    simp only [Bool.and_eq_true,Bool.or_eq_true,beq_iff_eq,decide_eq_true_eq,Bool.not_eq_true',decide_eq_false_iff_not]
    grind
theorem imm_rng (op:Int):0 ≤ rIm op ∧ rIm op ≤ 20:=by
  by_cases h:rowOf op = none
  · rw [(row_none h).2.1]; decide
  · have:=row_in (p:=fun op=>decide (0 ≤ rIm op) && decide (rIm op ≤ 20)) (by decide +kernel) h
    simpa using this
end Go.Proofs.YtoaagdbbbojpmaaGreatDoor
set_option linter.unusedVariables false
namespace Go.Proofs.YtoaagdbbbojpmaaGreatDoor
open Go Go.Mw

def by_ (b:UInt8):List AV:=[.int .u8 b.toNat]
theorem by_e (b:UInt8):by_ b = [.int .u8 b.toNat]:=rfl
attribute [go_sem] by_e
def mst (bits:Nat):Nat:=(bits + 6) / 7
end Go.Proofs.YtoaagdbbbojpmaaGreatDoor
set_option linter.unusedSimpArgs false
set_option maxRecDepth 100000
set_option linter.unusedVariables false
namespace Go.Proofs.YtoaagdbbbojpmaaGreatDoor
open Go Go.Mw

structure Ft where
  ps:List Int
  rs:List Int
structure Lm where
  mn:Int
  mx:Int
  hs:Bool
structure Gl where
  v:Int
  mu:Bool
structure Im where
  m:List UInt8
  n:List UInt8
  k:Int
  f:Int
  te:Int
  tl:Lm
  me:Lm
  g:Gl
structure Cd where
  t:Int
  lo:List Int
  b:List Ins
structure Tb where
  e:Int
  l:Lm
structure Gd where
  g:Gl
  i:List Ins
structure Ex where
  n:List UInt8
  k:Int
  i:Int
structure El where
  mo:Int
  tb:Int
  o:List Ins
  ty:Int
  it:List (List Ins)
structure Da where
  mo:Int
  me:Int
  o:List Ins
  b:List UInt8
structure Cu where
  af:Int
  n:List UInt8
  b:List UInt8
structure Md where
  ts:List Ft
  ims:List Im
  fs:List Cd
  tbs:List Tb
  ms:List Lm
  gs:List Gd
  exs:List Ex
  hs:Bool
  st:Int
  els:List El
  ds:List Da
  cs:List Cu
instance:Inhabited Ft:=⟨⟨[],[]⟩⟩
instance:Inhabited Lm:=⟨⟨0,0,false⟩⟩
instance:Inhabited Gl:=⟨⟨0,false⟩⟩
instance:Inhabited Im:=⟨⟨[],[],0,0,0,default,default,default⟩⟩
instance:Inhabited Cd:=⟨⟨0,[],[]⟩⟩
instance:Inhabited Tb:=⟨⟨0,default⟩⟩
instance:Inhabited Gd:=⟨⟨default,[]⟩⟩
instance:Inhabited Ex:=⟨⟨[],0,0⟩⟩
instance:Inhabited El:=⟨⟨0,0,[],0,[]⟩⟩
instance:Inhabited Da:=⟨⟨0,0,[],[]⟩⟩
instance:Inhabited Cu:=⟨⟨0,[],[]⟩⟩
instance:Inhabited Md:=⟨⟨[],[],[],[],[],[],[],false,0,[],[],[]⟩⟩
def ftC (x:Ft):List AV:=[.sl 1 (x.ps.map vl_),.sl 1 (x.rs.map vl_)]
def lmC (x:Lm):List AV:=[.int .i64 x.mn,.int .i64 x.mx,.bool x.hs]
def imC (x:Im):List AV:=[.str x.m,.str x.n,.int .i64 x.k,.int .i64 x.f,.int .i64 x.te,.int .i64 x.tl.mn,.int .i64 x.tl.mx,.bool x.tl.hs,.int .i64 x.me.mn,.int .i64 x.me.mx,.bool x.me.hs,.int .i64 x.g.v,.bool x.g.mu]
def cdC (x:Cd):List AV:=[.int .i64 x.t,.sl 1 (x.lo.map vl_),.sl 9 (x.b.map insC)]
def tbC (x:Tb):List AV:=[.int .i64 x.e,.int .i64 x.l.mn,.int .i64 x.l.mx,.bool x.l.hs]
def gdC (x:Gd):List AV:=[.int .i64 x.g.v,.bool x.g.mu,.sl 9 (x.i.map insC)]
def exC (x:Ex):List AV:=[.str x.n,.int .i64 x.k,.int .i64 x.i]
def inL_ (l:List Ins):List AV:=[.sl 9 (l.map insC)]
def elC (x:El):List AV:=[.int .i64 x.mo,.int .i64 x.tb,.sl 9 (x.o.map insC),.int .i64 x.ty,.sl 1 (x.it.map inL_)]
def daC (x:Da):List AV:=[.int .i64 x.mo,.int .i64 x.me,.sl 9 (x.o.map insC),.sl 1 (x.b.map by_)]
def cuC (x:Cu):List AV:=[.int .i64 x.af,.str x.n,.sl 1 (x.b.map by_)]
def mdC (x:Md):List AV:=[.sl 2 (x.ts.map ftC),.sl 13 (x.ims.map imC),.sl 3 (x.fs.map cdC),.sl 4 (x.tbs.map tbC),.sl 3 (x.ms.map lmC),.sl 3 (x.gs.map gdC),.sl 3 (x.exs.map exC),.bool x.hs,.int .i64 x.st,.sl 5 (x.els.map elC),.sl 4 (x.ds.map daC),.sl 3 (x.cs.map cuC)]
theorem ftC_e (x:Ft):ftC x = [.sl 1 (x.ps.map vl_),.sl 1 (x.rs.map vl_)]:=rfl
theorem lmC_e (x:Lm):lmC x = [.int .i64 x.mn,.int .i64 x.mx,.bool x.hs]:=rfl
theorem imC_e (x:Im):imC x = [.str x.m,.str x.n,.int .i64 x.k,.int .i64 x.f,.int .i64 x.te,.int .i64 x.tl.mn,.int .i64 x.tl.mx,.bool x.tl.hs,.int .i64 x.me.mn,.int .i64 x.me.mx,.bool x.me.hs,.int .i64 x.g.v,.bool x.g.mu]:=rfl
theorem cdC_e (x:Cd):cdC x = [.int .i64 x.t,.sl 1 (x.lo.map vl_),.sl 9 (x.b.map insC)]:=rfl
theorem tbC_e (x:Tb):tbC x = [.int .i64 x.e,.int .i64 x.l.mn,.int .i64 x.l.mx,.bool x.l.hs]:=rfl
theorem gdC_e (x:Gd):gdC x = [.int .i64 x.g.v,.bool x.g.mu,.sl 9 (x.i.map insC)]:=rfl
theorem exC_e (x:Ex):exC x = [.str x.n,.int .i64 x.k,.int .i64 x.i]:=rfl
theorem inL_e (l:List Ins):inL_ l = [.sl 9 (l.map insC)]:=rfl
theorem elC_e (x:El):elC x = [.int .i64 x.mo,.int .i64 x.tb,.sl 9 (x.o.map insC),.int .i64 x.ty,.sl 1 (x.it.map inL_)]:=rfl
theorem daC_e (x:Da):daC x = [.int .i64 x.mo,.int .i64 x.me,.sl 9 (x.o.map insC),.sl 1 (x.b.map by_)]:=rfl
theorem cuC_e (x:Cu):cuC x = [.int .i64 x.af,.str x.n,.sl 1 (x.b.map by_)]:=rfl
theorem mdC_e (x:Md):mdC x = [.sl 2 (x.ts.map ftC),.sl 13 (x.ims.map imC),.sl 3 (x.fs.map cdC),.sl 4 (x.tbs.map tbC),.sl 3 (x.ms.map lmC),.sl 3 (x.gs.map gdC),.sl 3 (x.exs.map exC),.bool x.hs,.int .i64 x.st,.sl 5 (x.els.map elC),.sl 4 (x.ds.map daC),.sl 3 (x.cs.map cuC)]:=rfl
def md_ (x:Md):AV:=.agg (mdC x)
end Go.Proofs.YtoaagdbbbojpmaaGreatDoor
set_option maxRecDepth 100000
set_option maxHeartbeats 40000000
set_option linter.unusedVariables false
set_option linter.unusedSimpArgs false
namespace Go.Proofs.YtoaagdbbbojpmaaGreatDoor
open Go Go.Mw
-- @U: List.length_map

theorem app_00 (id:Nat) (t:TypeId) (st:Nat) (ys:List (List AV)):appO id t st 0 0 ys (some ⟨t,st,[],false⟩) =
    if ys.length < 137438953472 ∧ (0:Nat) < 137438953472 ∧ (id < 1000 ∨ 2000 ≤ id) then some (.ms id st 0 (0 + ys.length),.reb id ⟨t,st,ys,false⟩) else none:=by
  have h:=appO_map id t st 0 (fun _:Unit=>([]:List AV)) [] ys rfl
  simpa using h
def cpI (x:Ins):Prop:=x.ty.length ≤ 1048576 ∧ x.lb.length ≤ 1048576 ∧ 0 ≤ x.n
def cpIs (l:List Ins):Prop:=l.length ≤ 1048576 ∧ ∀ x ∈ l,cpI x
def cpF (x:Ft):Prop:=x.ps.length ≤ 1048576 ∧ x.rs.length ≤ 1048576
def cpCd (x:Cd):Prop:=x.lo.length ≤ 1048576 ∧ cpIs x.b
def cpGd (x:Gd):Prop:=cpIs x.i
def cpEl (x:El):Prop:=cpIs x.o ∧ x.it.length ≤ 1048576 ∧ ∀ l ∈ x.it,cpIs l
def cpDa (x:Da):Prop:=cpIs x.o ∧ x.b.length ≤ 1048576
def cpCu (x:Cu):Prop:=x.b.length ≤ 1048576
structure cpM (m:Md):Prop where
  ts:m.ts.length ≤ 1048576 ∧ ∀ x ∈ m.ts,cpF x
  ims:m.ims.length ≤ 1048576
  fs:m.fs.length ≤ 1048576 ∧ ∀ x ∈ m.fs,cpCd x
  tbs:m.tbs.length ≤ 1048576
  ms:m.ms.length ≤ 1048576
  gs:m.gs.length ≤ 1048576 ∧ ∀ x ∈ m.gs,cpGd x
  exs:m.exs.length ≤ 1048576
  els:m.els.length ≤ 1048576 ∧ ∀ x ∈ m.els,cpEl x
  ds:m.ds.length ≤ 1048576 ∧ ∀ x ∈ m.ds,cpDa x
  cs:m.cs.length ≤ 1048576 ∧ ∀ x ∈ m.cs,cpCu x
def smI (x:Ins):Prop:=x.ty.length ≤ 9223372036854775807 ∧ x.lb.length ≤ 9223372036854775807 ∧ 0 ≤ x.n
def smIs (l:List Ins):Prop:=l.length ≤ 9223372036854775807 ∧ ∀ x ∈ l,smI x
def smF (x:Ft):Prop:=x.ps.length ≤ 9223372036854775807 ∧ x.rs.length ≤ 9223372036854775807
def smCd (x:Cd):Prop:=x.lo.length ≤ 9223372036854775807 ∧ smIs x.b
def smGd (x:Gd):Prop:=smIs x.i
def smEl (x:El):Prop:=smIs x.o ∧ x.it.length ≤ 1048576 ∧ ∀ l ∈ x.it,smIs l
def smDa (x:Da):Prop:=smIs x.o ∧ x.b.length ≤ 9223372036854775807
def smCu (x:Cu):Prop:=x.b.length ≤ 9223372036854775807
structure smM (m:Md):Prop where
  ts:m.ts.length ≤ 1048576 ∧ ∀ x ∈ m.ts,smF x
  ims:m.ims.length ≤ 1048576
  fs:m.fs.length ≤ 1048576 ∧ ∀ x ∈ m.fs,smCd x
  tbs:m.tbs.length ≤ 1048576
  ms:m.ms.length ≤ 1048576
  gs:m.gs.length ≤ 1048576 ∧ ∀ x ∈ m.gs,smGd x
  exs:m.exs.length ≤ 1048576
  els:m.els.length ≤ 1048576 ∧ ∀ x ∈ m.els,smEl x
  ds:m.ds.length ≤ 1048576 ∧ ∀ x ∈ m.ds,smDa x
  cs:m.cs.length ≤ 1048576 ∧ ∀ x ∈ m.cs,smCu x
theorem at_in {α:Type} [Inhabited α] {p:α → Prop} {l:List α} (h:∀ x ∈ l,p x) {i:Nat} (hi:i < l.length):p (nth l i):=by
  rw [nth_eq hi]; exact h _ (List.getElem_mem hi)
theorem tk_nth {α:Type} [Inhabited α] {l:List α} {i:Nat} (h:i < l.length):l.take (i + 1) = l.take i ++ [nth l i]:=by rw [List.take_add_one,nth_some h,Option.toList_some]
instance:Inhabited Ins:=⟨⟨0,0,0,0,0,0,0,[],[]⟩⟩

attribute [local go_sem] List.length_map
theorem cl_val (rows:List (List AV)) (h:rows.length ≤ 1048576):PCalls Tryz.prog nX6 [.sl 1 rows] (.sl 1 rows):=by
  refine pfun_sound (ic:=FX6.body) mixed cX6 rfl rfl ?_
  have ha:=app_00 5 56 1 rows
  simp only [go_sem,FX6]
  refine snlK_sl _ _ _ _ ⟨?_,fun h0=>?_⟩
  · simp only [go_sem,ha]
    refine ⟨by omega,pdone [5] ?_ rfl⟩
    simp only [go_sem,Nat.le_refl]
    rw [List.take_length]
  · subst h0
    simp only [go_sem]
    exact wpdone (Wk.nls _ 2 1 (by simp only [go_sem])) [] (by first | rfl | simp only [go_sem]) rfl

theorem cl_imp (rows:List (List AV)) (h:rows.length ≤ 1048576):PCalls Tryz.prog nX2 [.sl 13 rows] (.sl 13 rows):=by
  refine pfun_sound (ic:=FX2.body) mixed cX2 rfl rfl ?_
  have ha:=app_00 5 80 13 rows
  simp only [go_sem,FX2]
  refine snlK_sl _ _ _ _ ⟨?_,fun h0=>?_⟩
  · simp only [go_sem,ha]
    refine ⟨by omega,pdone [5] ?_ rfl⟩
    simp only [go_sem,Nat.le_refl]
    rw [List.take_length]
  · subst h0
    simp only [go_sem]
    exact wpdone (Wk.nls _ 2 13 (by simp only [go_sem])) [] (by first | rfl | simp only [go_sem]) rfl

theorem cl_tab (rows:List (List AV)) (h:rows.length ≤ 1048576):PCalls Tryz.prog nX4 [.sl 4 rows] (.sl 4 rows):=by
  refine pfun_sound (ic:=FX4.body) mixed cX4 rfl rfl ?_
  have ha:=app_00 5 76 4 rows
  simp only [go_sem,FX4]
  refine snlK_sl _ _ _ _ ⟨?_,fun h0=>?_⟩
  · simp only [go_sem,ha]
    refine ⟨by omega,pdone [5] ?_ rfl⟩
    simp only [go_sem,Nat.le_refl]
    rw [List.take_length]
  · subst h0
    simp only [go_sem]
    exact wpdone (Wk.nls _ 2 4 (by simp only [go_sem])) [] (by first | rfl | simp only [go_sem]) rfl

theorem cl_lim (rows:List (List AV)) (h:rows.length ≤ 1048576):PCalls Tryz.prog nX3 [.sl 3 rows] (.sl 3 rows):=by
  refine pfun_sound (ic:=FX3.body) mixed cX3 rfl rfl ?_
  have ha:=app_00 5 74 3 rows
  simp only [go_sem,FX3]
  refine snlK_sl _ _ _ _ ⟨?_,fun h0=>?_⟩
  · simp only [go_sem,ha]
    refine ⟨by omega,pdone [5] ?_ rfl⟩
    simp only [go_sem,Nat.le_refl]
    rw [List.take_length]
  · subst h0
    simp only [go_sem]
    exact wpdone (Wk.nls _ 2 3 (by simp only [go_sem])) [] (by first | rfl | simp only [go_sem]) rfl

theorem cl_exp (rows:List (List AV)) (h:rows.length ≤ 1048576):PCalls Tryz.prog nX1 [.sl 3 rows] (.sl 3 rows):=by
  refine pfun_sound (ic:=FX1.body) mixed cX1 rfl rfl ?_
  have ha:=app_00 5 84 3 rows
  simp only [go_sem,FX1]
  refine snlK_sl _ _ _ _ ⟨?_,fun h0=>?_⟩
  · simp only [go_sem,ha]
    refine ⟨by omega,pdone [5] ?_ rfl⟩
    simp only [go_sem,Nat.le_refl]
    rw [List.take_length]
  · subst h0
    simp only [go_sem]
    exact wpdone (Wk.nls _ 2 3 (by simp only [go_sem])) [] (by first | rfl | simp only [go_sem]) rfl

theorem cl_byt (rows:List (List AV)) (h:rows.length ≤ 1048576):PCalls Tryz.prog nX11 [.sl 1 rows] (.sl 1 rows):=by
  refine pfun_sound (ic:=FX11.body) mixed cX11 rfl rfl ?_
  have ha:=app_00 5 5 1 rows
  simp only [go_sem,FX11]
  refine snlK_sl _ _ _ _ ⟨?_,fun h0=>?_⟩
  · simp only [go_sem,ha]
    refine ⟨by omega,pdone [5] ?_ rfl⟩
    simp only [go_sem,Nat.le_refl]
    rw [List.take_length]
  · subst h0
    simp only [go_sem]
    exact wpdone (Wk.nls _ 2 1 (by simp only [go_sem])) [] (by first | rfl | simp only [go_sem]) rfl

theorem cl_int (rows:List (List AV)) (h:rows.length ≤ 1048576):PCalls Tryz.prog nX28 [.sl 1 rows] (.sl 1 rows):=by
  refine pfun_sound (ic:=FX28.body) mixed cX28 rfl rfl ?_
  have ha:=app_00 5 3 1 rows
  simp only [go_sem,FX28]
  refine snlK_sl _ _ _ _ ⟨?_,fun h0=>?_⟩
  · simp only [go_sem,ha]
    refine ⟨by omega,pdone [5] ?_ rfl⟩
    simp only [go_sem,Nat.le_refl]
    rw [List.take_length]
  · subst h0
    simp only [go_sem]
    exact wpdone (Wk.nls _ 2 1 (by simp only [go_sem])) [] (by first | rfl | simp only [go_sem]) rfl

theorem co_1 (x:Ft) (h:cpF x):PCalls Tryz.prog nX80 [.agg (ftC x)] (.agg (ftC x)):=by
  refine pfun_sound (ic:=FX80.body) mixed cX80 rfl rfl ?_
  simp only [go_sem,FX80,ftC_e]
  refine dcall_same (cl_val (x.ps.map vl_) (by rw [List.length_map]; exact h.1)) (by simp [go_sem]) rfl ?_
  simp only [go_sem]
  refine call_same (cl_val (x.rs.map vl_) (by rw [List.length_map]; exact h.2)) (by simp [go_sem]) ?_
  simp only [go_sem]
  exact pdone [] (by simp only [go_sem,ftC_e]) (by first | rfl | simp [go_sem,slv_ids])

theorem co_b (x:Ins) (h:cpI x):PCalls Tryz.prog nX93 [.agg (insC x)] (.agg (insC x)):=by
  refine pfun_sound (ic:=FX93.body) mixed cX93 rfl rfl ?_
  simp only [go_sem,FX93,insC]
  refine dcall_same (cl_val (x.ty.map vl_) (by rw [List.length_map]; exact h.1)) (by simp [go_sem]) rfl ?_
  simp only [go_sem]
  refine dcall_same (cl_int (x.lb.map vl_) (by rw [List.length_map]; exact h.2.1)) (by simp [go_sem]) rfl ?_
  simp only [go_sem]
  exact pdone [] (by simp only [go_sem,insC]) (by first | rfl | simp [go_sem,slv_ids])

theorem ea_ins (l:List (Ins)) (hl:l.length ≤ 1048576) (hx:∀ x ∈ l,cpI x):PCalls Tryz.prog nX30 [.sl 9 (l.map insC),.fn nX93 []] (.sl 9 (l.map insC)):=by
  refine pfun_sound (ic:=FX30.body) mixed cX30 rfl rfl ?_
  simp only [go_sem,FX30]
  refine loop_rule (fun i:Nat=>⟨[(10,.int .i64 i),(9,.int .i64 l.length),(8,.sl 9 (l.map insC)),(5,.ms 900 9 0 i),(1,.fn nX93 [])],[(900,⟨61,9,(l.take i).map insC,false⟩)]⟩) (fun i=>i ≤ l.length) (fun i=>l.length - i) 0 (Nat.zero_le _) ((Wk.nil _ 5 900 9 61 (by simp only [go_sem]) (.inl (by decide))).trans (Wk.of ?_ ?_)) ?_
  · simp only [go_sem,St.mknil]; try simp [go_sem]
  · simp only [go_sem,St.mknil,List.take_zero]; try simp [go_sem]
  intro i hi
  have hil:(l.take i).length = i:=by simp; omega
  have happ:=fun ys=>appO_map 900 61 9 i insC (l.take i) ys hil
  by_cases h1:(i:Int) < (l.length:Int)
  · have hi':i < l.length:=by omega
    have e8:=wi (n:=(i:Int) + 1) (by omega) (by omega)
    have cc:=co_b (nth l i) (at_in hx hi')
    try simp only [insC] at cc
    simp only [go_sem,decide_eq_true h1,insC]
    refine ⟨by omega,h1,by kernel_rfl,?_⟩
    refine call_same (cc) (by simp [go_sem]) ?_
    simp only [go_sem,happ]
    refine ⟨by omega,klp_n (i + 1) (show i + 1 ≤ l.length by omega) (show l.length - (i + 1) < l.length - i by omega) (Wk.of ?_ ?_)⟩
    · simp only [go_sem,e8]; try simp
    · simp only [go_sem,tk_nth hi',List.map_append]; try simp [insC]
  · obtain rfl:i = l.length:=by omega
    simp only [go_sem,decide_eq_false h1]
    refine pdone [900] ?_ rfl
    simp only [go_sem,List.take_length,Nat.le_refl]
    rw [List.take_of_length_le (by simp)]

theorem s_body7 (l:List Ins) (h:cpIs l):PCalls Tryz.prog nX110 [.sl 9 (l.map insC)] (.sl 9 (l.map insC)):=by
  refine pfun_sound (ic:=FX110.body) mixed cX110 rfl rfl ?_
  simp only [go_sem,FX110]
  refine call_same (ea_ins l h.1 h.2) (by simp [go_sem]) ?_
  simp only [go_sem]
  exact pdone [] (by simp only [go_sem]) (by first | rfl | simp [go_sem,slv_ids])

theorem ea_lins (l:List (List Ins)) (hl:l.length ≤ 1048576) (hx:∀ x ∈ l,cpIs x):PCalls Tryz.prog nX15 [.sl 1 (l.map inL_),.fn nX110 []] (.sl 1 (l.map inL_)):=by
  refine pfun_sound (ic:=FX15.body) mixed cX15 rfl rfl ?_
  simp only [go_sem,FX15]
  refine loop_rule (fun i:Nat=>⟨[(10,.int .i64 i),(9,.int .i64 l.length),(8,.sl 1 (l.map inL_)),(5,.ms 900 1 0 i),(1,.fn nX110 [])],[(900,⟨50,1,(l.take i).map inL_,false⟩)]⟩) (fun i=>i ≤ l.length) (fun i=>l.length - i) 0 (Nat.zero_le _) ((Wk.nil _ 5 900 1 50 (by simp only [go_sem]) (.inl (by decide))).trans (Wk.of ?_ ?_)) ?_
  · simp only [go_sem,St.mknil]; try simp [go_sem]
  · simp only [go_sem,St.mknil,List.take_zero]; try simp [go_sem]
  intro i hi
  have hil:(l.take i).length = i:=by simp; omega
  have happ:=fun ys=>appO_map 900 50 1 i inL_ (l.take i) ys hil
  by_cases h1:(i:Int) < (l.length:Int)
  · have hi':i < l.length:=by omega
    have e8:=wi (n:=(i:Int) + 1) (by omega) (by omega)
    have cc:=s_body7 (nth l i) (at_in hx hi')
    try simp only [inL_e] at cc
    simp only [go_sem,decide_eq_true h1,inL_e]
    refine ⟨by omega,h1,by kernel_rfl,?_⟩
    refine call_same (cc) (by simp [go_sem]) ?_
    simp only [go_sem,happ]
    refine ⟨by omega,klp_n (i + 1) (show i + 1 ≤ l.length by omega) (show l.length - (i + 1) < l.length - i by omega) (Wk.of ?_ ?_)⟩
    · simp only [go_sem,e8]; try simp
    · simp only [go_sem,tk_nth hi',List.map_append]; try simp [inL_e]
  · obtain rfl:i = l.length:=by omega
    simp only [go_sem,decide_eq_false h1]
    refine pdone [900] ?_ rfl
    simp only [go_sem,List.take_length,Nat.le_refl]
    rw [List.take_of_length_le (by simp)]

theorem ea_func (l:List (Ft)) (hl:l.length ≤ 1048576) (hx:∀ x ∈ l,cpF x):PCalls Tryz.prog nX38 [.sl 2 (l.map ftC),.fn nX80 []] (.sl 2 (l.map ftC)):=by
  refine pfun_sound (ic:=FX38.body) mixed cX38 rfl rfl ?_
  simp only [go_sem,FX38]
  refine loop_rule (fun i:Nat=>⟨[(10,.int .i64 i),(9,.int .i64 l.length),(8,.sl 2 (l.map ftC)),(5,.ms 900 2 0 i),(1,.fn nX80 [])],[(900,⟨71,2,(l.take i).map ftC,false⟩)]⟩) (fun i=>i ≤ l.length) (fun i=>l.length - i) 0 (Nat.zero_le _) ((Wk.nil _ 5 900 2 71 (by simp only [go_sem]) (.inl (by decide))).trans (Wk.of ?_ ?_)) ?_
  · simp only [go_sem,St.mknil]; try simp [go_sem]
  · simp only [go_sem,St.mknil,List.take_zero]; try simp [go_sem]
  intro i hi
  have hil:(l.take i).length = i:=by simp; omega
  have happ:=fun ys=>appO_map 900 71 2 i ftC (l.take i) ys hil
  by_cases h1:(i:Int) < (l.length:Int)
  · have hi':i < l.length:=by omega
    have e8:=wi (n:=(i:Int) + 1) (by omega) (by omega)
    have cc:=co_1 (nth l i) (at_in hx hi')
    try simp only [ftC_e] at cc
    simp only [go_sem,decide_eq_true h1,ftC_e]
    refine ⟨by omega,h1,by kernel_rfl,?_⟩
    refine call_same (cc) (by simp [go_sem]) ?_
    simp only [go_sem,happ]
    refine ⟨by omega,klp_n (i + 1) (show i + 1 ≤ l.length by omega) (show l.length - (i + 1) < l.length - i by omega) (Wk.of ?_ ?_)⟩
    · simp only [go_sem,e8]; try simp
    · simp only [go_sem,tk_nth hi',List.map_append]; try simp [ftC_e]
  · obtain rfl:i = l.length:=by omega
    simp only [go_sem,decide_eq_false h1]
    refine pdone [900] ?_ rfl
    simp only [go_sem,List.take_length,Nat.le_refl]
    rw [List.take_of_length_le (by simp)]

theorem co_2 (x:Cd) (h:cpCd x):PCalls Tryz.prog nX81 [.agg (cdC x)] (.agg (cdC x)):=by
  refine pfun_sound (ic:=FX81.body) mixed cX81 rfl rfl ?_
  simp only [go_sem,FX81,cdC_e]
  refine dcall_same (cl_val (x.lo.map vl_) (by rw [List.length_map]; exact h.1)) (by simp [go_sem]) rfl ?_
  simp only [go_sem]
  refine dcall_same (s_body7 x.b h.2) (by simp [go_sem]) rfl ?_
  simp only [go_sem]
  exact pdone [] (by simp only [go_sem,cdC_e]) (by first | rfl | simp [go_sem,slv_ids])

theorem ea_code (l:List (Cd)) (hl:l.length ≤ 1048576) (hx:∀ x ∈ l,cpCd x):PCalls Tryz.prog nX35 [.sl 3 (l.map cdC),.fn nX81 []] (.sl 3 (l.map cdC)):=by
  refine pfun_sound (ic:=FX35.body) mixed cX35 rfl rfl ?_
  simp only [go_sem,FX35]
  refine loop_rule (fun i:Nat=>⟨[(10,.int .i64 i),(9,.int .i64 l.length),(8,.sl 3 (l.map cdC)),(5,.ms 900 3 0 i),(1,.fn nX81 [])],[(900,⟨52,3,(l.take i).map cdC,false⟩)]⟩) (fun i=>i ≤ l.length) (fun i=>l.length - i) 0 (Nat.zero_le _) ((Wk.nil _ 5 900 3 52 (by simp only [go_sem]) (.inl (by decide))).trans (Wk.of ?_ ?_)) ?_
  · simp only [go_sem,St.mknil]; try simp [go_sem]
  · simp only [go_sem,St.mknil,List.take_zero]; try simp [go_sem]
  intro i hi
  have hil:(l.take i).length = i:=by simp; omega
  have happ:=fun ys=>appO_map 900 52 3 i cdC (l.take i) ys hil
  by_cases h1:(i:Int) < (l.length:Int)
  · have hi':i < l.length:=by omega
    have e8:=wi (n:=(i:Int) + 1) (by omega) (by omega)
    have cc:=co_2 (nth l i) (at_in hx hi')
    try simp only [cdC_e] at cc
    simp only [go_sem,decide_eq_true h1,cdC_e]
    refine ⟨by omega,h1,by kernel_rfl,?_⟩
    refine call_same (cc) (by simp [go_sem]) ?_
    simp only [go_sem,happ]
    refine ⟨by omega,klp_n (i + 1) (show i + 1 ≤ l.length by omega) (show l.length - (i + 1) < l.length - i by omega) (Wk.of ?_ ?_)⟩
    · simp only [go_sem,e8]; try simp
    · simp only [go_sem,tk_nth hi',List.map_append]; try simp [cdC_e]
  · obtain rfl:i = l.length:=by omega
    simp only [go_sem,decide_eq_false h1]
    refine pdone [900] ?_ rfl
    simp only [go_sem,List.take_length,Nat.le_refl]
    rw [List.take_of_length_le (by simp)]

theorem co_3 (x:Gd) (h:cpGd x):PCalls Tryz.prog nX82 [.agg (gdC x)] (.agg (gdC x)):=by
  refine pfun_sound (ic:=FX82.body) mixed cX82 rfl rfl ?_
  simp only [go_sem,FX82,gdC_e]
  refine dcall_same (s_body7 x.i h) (by simp [go_sem]) rfl ?_
  simp only [go_sem]
  exact pdone [] (by simp only [go_sem,gdC_e]) (by first | rfl | simp [go_sem,slv_ids])

theorem ea_glob (l:List (Gd)) (hl:l.length ≤ 1048576) (hx:∀ x ∈ l,cpGd x):PCalls Tryz.prog nX8 [.sl 3 (l.map gdC),.fn nX82 []] (.sl 3 (l.map gdC)):=by
  refine pfun_sound (ic:=FX8.body) mixed cX8 rfl rfl ?_
  simp only [go_sem,FX8]
  refine loop_rule (fun i:Nat=>⟨[(10,.int .i64 i),(9,.int .i64 l.length),(8,.sl 3 (l.map gdC)),(5,.ms 900 3 0 i),(1,.fn nX82 [])],[(900,⟨82,3,(l.take i).map gdC,false⟩)]⟩) (fun i=>i ≤ l.length) (fun i=>l.length - i) 0 (Nat.zero_le _) ((Wk.nil _ 5 900 3 82 (by simp only [go_sem]) (.inl (by decide))).trans (Wk.of ?_ ?_)) ?_
  · simp only [go_sem,St.mknil]; try simp [go_sem]
  · simp only [go_sem,St.mknil,List.take_zero]; try simp [go_sem]
  intro i hi
  have hil:(l.take i).length = i:=by simp; omega
  have happ:=fun ys=>appO_map 900 82 3 i gdC (l.take i) ys hil
  by_cases h1:(i:Int) < (l.length:Int)
  · have hi':i < l.length:=by omega
    have e8:=wi (n:=(i:Int) + 1) (by omega) (by omega)
    have cc:=co_3 (nth l i) (at_in hx hi')
    try simp only [gdC_e] at cc
    simp only [go_sem,decide_eq_true h1,gdC_e]
    refine ⟨by omega,h1,by kernel_rfl,?_⟩
    refine call_same (cc) (by simp [go_sem]) ?_
    simp only [go_sem,happ]
    refine ⟨by omega,klp_n (i + 1) (show i + 1 ≤ l.length by omega) (show l.length - (i + 1) < l.length - i by omega) (Wk.of ?_ ?_)⟩
    · simp only [go_sem,e8]; try simp
    · simp only [go_sem,tk_nth hi',List.map_append]; try simp [gdC_e]
  · obtain rfl:i = l.length:=by omega
    simp only [go_sem,decide_eq_false h1]
    refine pdone [900] ?_ rfl
    simp only [go_sem,List.take_length,Nat.le_refl]
    rw [List.take_of_length_le (by simp)]

theorem co_4 (x:El) (h:cpEl x):PCalls Tryz.prog nX83 [.agg (elC x)] (.agg (elC x)):=by
  refine pfun_sound (ic:=FX83.body) mixed cX83 rfl rfl ?_
  simp only [go_sem,FX83,elC_e]
  refine dcall_same (s_body7 x.o h.1) (by simp [go_sem]) rfl ?_
  simp only [go_sem]
  refine dcall_same (ea_lins x.it h.2.1 h.2.2) (by simp [go_sem]) rfl ?_
  simp only [go_sem]
  exact pdone [] (by simp only [go_sem,elC_e]) (by first | rfl | simp [go_sem,slv_ids])

theorem ea_elem (l:List (El)) (hl:l.length ≤ 1048576) (hx:∀ x ∈ l,cpEl x):PCalls Tryz.prog nX37 [.sl 5 (l.map elC),.fn nX83 []] (.sl 5 (l.map elC)):=by
  refine pfun_sound (ic:=FX37.body) mixed cX37 rfl rfl ?_
  simp only [go_sem,FX37]
  refine loop_rule (fun i:Nat=>⟨[(10,.int .i64 i),(9,.int .i64 l.length),(8,.sl 5 (l.map elC)),(5,.ms 900 5 0 i),(1,.fn nX83 [])],[(900,⟨86,5,(l.take i).map elC,false⟩)]⟩) (fun i=>i ≤ l.length) (fun i=>l.length - i) 0 (Nat.zero_le _) ((Wk.nil _ 5 900 5 86 (by simp only [go_sem]) (.inl (by decide))).trans (Wk.of ?_ ?_)) ?_
  · simp only [go_sem,St.mknil]; try simp [go_sem]
  · simp only [go_sem,St.mknil,List.take_zero]; try simp [go_sem]
  intro i hi
  have hil:(l.take i).length = i:=by simp; omega
  have happ:=fun ys=>appO_map 900 86 5 i elC (l.take i) ys hil
  by_cases h1:(i:Int) < (l.length:Int)
  · have hi':i < l.length:=by omega
    have e8:=wi (n:=(i:Int) + 1) (by omega) (by omega)
    have cc:=co_4 (nth l i) (at_in hx hi')
    try simp only [elC_e] at cc
    simp only [go_sem,decide_eq_true h1,elC_e]
    refine ⟨by omega,h1,by kernel_rfl,?_⟩
    refine call_same (cc) (by simp [go_sem]) ?_
    simp only [go_sem,happ]
    refine ⟨by omega,klp_n (i + 1) (show i + 1 ≤ l.length by omega) (show l.length - (i + 1) < l.length - i by omega) (Wk.of ?_ ?_)⟩
    · simp only [go_sem,e8]; try simp
    · simp only [go_sem,tk_nth hi',List.map_append]; try simp [elC_e]
  · obtain rfl:i = l.length:=by omega
    simp only [go_sem,decide_eq_false h1]
    refine pdone [900] ?_ rfl
    simp only [go_sem,List.take_length,Nat.le_refl]
    rw [List.take_of_length_le (by simp)]

theorem co_5 (x:Da) (h:cpDa x):PCalls Tryz.prog nX84 [.agg (daC x)] (.agg (daC x)):=by
  refine pfun_sound (ic:=FX84.body) mixed cX84 rfl rfl ?_
  simp only [go_sem,FX84,daC_e]
  refine dcall_same (s_body7 x.o h.1) (by simp [go_sem]) rfl ?_
  simp only [go_sem]
  refine dcall_same (cl_byt (x.b.map by_) (by rw [List.length_map]; exact h.2)) (by simp [go_sem]) rfl ?_
  simp only [go_sem]
  exact pdone [] (by simp only [go_sem,daC_e]) (by first | rfl | simp [go_sem,slv_ids])

theorem ea_data (l:List (Da)) (hl:l.length ≤ 1048576) (hx:∀ x ∈ l,cpDa x):PCalls Tryz.prog nX36 [.sl 4 (l.map daC),.fn nX84 []] (.sl 4 (l.map daC)):=by
  refine pfun_sound (ic:=FX36.body) mixed cX36 rfl rfl ?_
  simp only [go_sem,FX36]
  refine loop_rule (fun i:Nat=>⟨[(10,.int .i64 i),(9,.int .i64 l.length),(8,.sl 4 (l.map daC)),(5,.ms 900 4 0 i),(1,.fn nX84 [])],[(900,⟨89,4,(l.take i).map daC,false⟩)]⟩) (fun i=>i ≤ l.length) (fun i=>l.length - i) 0 (Nat.zero_le _) ((Wk.nil _ 5 900 4 89 (by simp only [go_sem]) (.inl (by decide))).trans (Wk.of ?_ ?_)) ?_
  · simp only [go_sem,St.mknil]; try simp [go_sem]
  · simp only [go_sem,St.mknil,List.take_zero]; try simp [go_sem]
  intro i hi
  have hil:(l.take i).length = i:=by simp; omega
  have happ:=fun ys=>appO_map 900 89 4 i daC (l.take i) ys hil
  by_cases h1:(i:Int) < (l.length:Int)
  · have hi':i < l.length:=by omega
    have e8:=wi (n:=(i:Int) + 1) (by omega) (by omega)
    have cc:=co_5 (nth l i) (at_in hx hi')
    try simp only [daC_e] at cc
    simp only [go_sem,decide_eq_true h1,daC_e]
    refine ⟨by omega,h1,by kernel_rfl,?_⟩
    refine call_same (cc) (by simp [go_sem]) ?_
    simp only [go_sem,happ]
    refine ⟨by omega,klp_n (i + 1) (show i + 1 ≤ l.length by omega) (show l.length - (i + 1) < l.length - i by omega) (Wk.of ?_ ?_)⟩
    · simp only [go_sem,e8]; try simp
    · simp only [go_sem,tk_nth hi',List.map_append]; try simp [daC_e]
  · obtain rfl:i = l.length:=by omega
    simp only [go_sem,decide_eq_false h1]
    refine pdone [900] ?_ rfl
    simp only [go_sem,List.take_length,Nat.le_refl]
    rw [List.take_of_length_le (by simp)]

theorem co_6 (x:Cu) (h:cpCu x):PCalls Tryz.prog nX85 [.agg (cuC x)] (.agg (cuC x)):=by
  refine pfun_sound (ic:=FX85.body) mixed cX85 rfl rfl ?_
  simp only [go_sem,FX85,cuC_e]
  refine call_same (cl_byt (x.b.map by_) (by rw [List.length_map]; exact h)) (by simp [go_sem]) ?_
  simp only [go_sem]
  exact pdone [] (by simp only [go_sem,cuC_e]) (by first | rfl | simp [go_sem,slv_ids])

theorem ea_cust (l:List (Cu)) (hl:l.length ≤ 1048576) (hx:∀ x ∈ l,cpCu x):PCalls Tryz.prog nX16 [.sl 3 (l.map cuC),.fn nX85 []] (.sl 3 (l.map cuC)):=by
  refine pfun_sound (ic:=FX16.body) mixed cX16 rfl rfl ?_
  simp only [go_sem,FX16]
  refine loop_rule (fun i:Nat=>⟨[(10,.int .i64 i),(9,.int .i64 l.length),(8,.sl 3 (l.map cuC)),(5,.ms 900 3 0 i),(1,.fn nX85 [])],[(900,⟨91,3,(l.take i).map cuC,false⟩)]⟩) (fun i=>i ≤ l.length) (fun i=>l.length - i) 0 (Nat.zero_le _) ((Wk.nil _ 5 900 3 91 (by simp only [go_sem]) (.inl (by decide))).trans (Wk.of ?_ ?_)) ?_
  · simp only [go_sem,St.mknil]; try simp [go_sem]
  · simp only [go_sem,St.mknil,List.take_zero]; try simp [go_sem]
  intro i hi
  have hil:(l.take i).length = i:=by simp; omega
  have happ:=fun ys=>appO_map 900 91 3 i cuC (l.take i) ys hil
  by_cases h1:(i:Int) < (l.length:Int)
  · have hi':i < l.length:=by omega
    have e8:=wi (n:=(i:Int) + 1) (by omega) (by omega)
    have cc:=co_6 (nth l i) (at_in hx hi')
    try simp only [cuC_e] at cc
    simp only [go_sem,decide_eq_true h1,cuC_e]
    refine ⟨by omega,h1,by kernel_rfl,?_⟩
    refine call_same (cc) (by simp [go_sem]) ?_
    simp only [go_sem,happ]
    refine ⟨by omega,klp_n (i + 1) (show i + 1 ≤ l.length by omega) (show l.length - (i + 1) < l.length - i by omega) (Wk.of ?_ ?_)⟩
    · simp only [go_sem,e8]; try simp
    · simp only [go_sem,tk_nth hi',List.map_append]; try simp [cuC_e]
  · obtain rfl:i = l.length:=by omega
    simp only [go_sem,decide_eq_false h1]
    refine pdone [900] ?_ rfl
    simp only [go_sem,List.take_length,Nat.le_refl]
    rw [List.take_of_length_le (by simp)]

theorem s_copy7 (m:Md) (h:cpM m):PCalls Tryz.prog nX107 [md_ m] (md_ m):=by
  refine pfun_sound (ic:=FX107.body) mixed cX107 rfl rfl ?_
  have c1:=ea_func m.ts h.ts.1 h.ts.2
  have c2:=ea_code m.fs h.fs.1 h.fs.2
  have c3:=ea_glob m.gs h.gs.1 h.gs.2
  have c4:=ea_elem m.els h.els.1 h.els.2
  have c5:=ea_data m.ds h.ds.1 h.ds.2
  have c6:=ea_cust m.cs h.cs.1 h.cs.2
  simp only [go_sem,FX107,md_,mdC_e]
  refine call_same (c1) (by simp [go_sem]) ?_
  simp only [go_sem]
  refine dcall_same (cl_imp (m.ims.map imC) (by rw [List.length_map]; exact h.ims)) (by simp [go_sem]) rfl ?_
  simp only [go_sem]
  refine dcall_same (cl_tab (m.tbs.map tbC) (by rw [List.length_map]; exact h.tbs)) (by simp [go_sem]) rfl ?_
  simp only [go_sem]
  refine dcall_same (cl_lim (m.ms.map lmC) (by rw [List.length_map]; exact h.ms)) (by simp [go_sem]) rfl ?_
  simp only [go_sem]
  refine dcall_same (cl_exp (m.exs.map exC) (by rw [List.length_map]; exact h.exs)) (by simp [go_sem]) rfl ?_
  simp only [go_sem]
  refine call_same (c2) (by simp [go_sem]) ?_
  simp only [go_sem]
  refine call_same (c3) (by simp [go_sem]) ?_
  simp only [go_sem]
  refine call_same (c4) (by simp [go_sem]) ?_
  simp only [go_sem]
  refine call_same (c5) (by simp [go_sem]) ?_
  simp only [go_sem]
  refine call_same (c6) (by simp [go_sem]) ?_
  simp only [go_sem]
  exact pdone [] (by simp only [go_sem,md_,mdC_e]) (by first | rfl | simp [go_sem,slv_ids])
end Go.Proofs.YtoaagdbbbojpmaaGreatDoor
set_option maxRecDepth 100000
set_option maxHeartbeats 4000000
set_option linter.unusedVariables false
set_option linter.unusedSimpArgs false
namespace Go.Proofs.YtoaagdbbbojpmaaGreatDoor
open Go Go.Mw

def plB (x:Ins):Bool:=plR (rIm x.op) (rKn x.op) x
theorem s_plB (x:Ins) (h:smI x):PCalls Tryz.prog nX73 [ins_ x] (.bool (plB x)):=by
  obtain ⟨h1,h2,h3⟩:=h
  obtain ⟨t1,_,t3,_⟩:=tells x.op
  have c:=s_plain5 x (rIm x.op) (imm_rng x.op) t3 (by omega)
  rw [t1,pl_eq (rIm x.op) (imm_rng x.op) (rKn x.op) x h3] at c
  exact c
end Go.Proofs.YtoaagdbbbojpmaaGreatDoor
set_option linter.unusedVariables false
namespace Go.Proofs.YtoaagdbbbojpmaaGreatDoor
open Go Go.Mw

theorem w_u8 (n:Int):IntKind.u8.wrap n = n % 256:=by simp [IntKind.wrap,IntKind.bits,IntKind.signed]
theorem w_u64 (n:Int):IntKind.u64.wrap n = n % 18446744073709551616:=by simp [IntKind.wrap,IntKind.bits,IntKind.signed]
theorem w_i64 (n:Int):IntKind.i64.wrap n = (n + 9223372036854775808) % 18446744073709551616 - 9223372036854775808:=by
  simp [IntKind.wrap,IntKind.bits,IntKind.signed]
  split <;> omega
theorem bv_nat (k:Nat) (a:Nat):BitVec.ofInt k (a:Int) = BitVec.ofNat k a:=BitVec.ofInt_natCast k a
theorem or_nat {k a b:Nat} (ha:a < 2 ^ k) (hb:b < 2 ^ k):(BitVec.ofInt k (a:Int) ||| BitVec.ofInt k (b:Int)).toNat = a ||| b:=by
  rw [bv_nat,bv_nat,BitVec.toNat_or,BitVec.toNat_ofNat,BitVec.toNat_ofNat,Nat.mod_eq_of_lt ha,Nat.mod_eq_of_lt hb]
theorem and_nat {k a b:Nat} (ha:a < 2 ^ k) (hb:b < 2 ^ k):(BitVec.ofInt k (a:Int) &&& BitVec.ofInt k (b:Int)).toNat = a &&& b:=by
  rw [bv_nat,bv_nat,BitVec.toNat_and,BitVec.toNat_ofNat,BitVec.toNat_ofNat,Nat.mod_eq_of_lt ha,Nat.mod_eq_of_lt hb]

theorem shl64 {y s:Nat} (hs:s < 64):b_shl .u64 (y:Int) (s:Int) = ((y * 2 ^ s % 18446744073709551616:Nat):Int):=by
  unfold b_shl
  rw [Int.toNat_natCast,show min s IntKind.u64.bits = s from Nat.min_eq_left (by show s ≤ 64; omega),w_u64,Int.natCast_emod (_ * _),Int.natCast_mul,Int.natCast_pow]
  rfl
theorem or_shift {n y s:Nat} (hs:s < 64) (hn:n < 2 ^ s):b_or .u64 (n:Int) (((y * 2 ^ s) % 18446744073709551616:Nat):Int) = (((n + y * 2 ^ s) % 18446744073709551616:Nat):Int):=by
  have hp:2 ^ s ≤ 2 ^ 63:=Nat.pow_le_pow_right (by decide) (by omega)
  have e64:18446744073709551616 = 2 ^ s * 2 ^ (64 - s):=by rw [← Nat.pow_add,show s + (64 - s) = 64 by omega]
  have hm:(y * 2 ^ s) % 18446744073709551616 = 2 ^ s * (y % 2 ^ (64 - s)):=by rw [e64,Nat.mul_comm y,Nat.mul_mod_mul_left]
  have hlt:y % 2 ^ (64 - s) < 2 ^ (64 - s):=Nat.mod_lt _ (Nat.two_pow_pos _)
  have hsum:2 ^ s * (y % 2 ^ (64 - s)) + n < 18446744073709551616:=by
    rw [e64]
    have h1:2 ^ s * (y % 2 ^ (64 - s) + 1) ≤ 2 ^ s * 2 ^ (64 - s):=Nat.mul_le_mul_left _ hlt
    rw [Nat.mul_add,Nat.mul_one] at h1
    omega
  have h1:(BitVec.ofInt 64 (n:Int) ||| BitVec.ofInt 64 (((y * 2 ^ s) % 18446744073709551616:Nat):Int)).toNat = n ||| ((y * 2 ^ s) % 18446744073709551616) :=
    or_nat (by omega) (Nat.mod_lt _ (by decide))
  show IntKind.u64.wrap ((BitVec.ofInt 64 (n:Int) ||| BitVec.ofInt 64 (((y * 2 ^ s) % 18446744073709551616:Nat):Int)).toNat) = _
  rw [h1,hm,Nat.or_comm,← Nat.two_pow_add_eq_or_of_lt hn,w_u64]
  have h2:(n + y * 2 ^ s) % 18446744073709551616 = 2 ^ s * (y % 2 ^ (64 - s)) + n:=by
    rw [Nat.add_mod,hm,Nat.mod_eq_of_lt (show n < 18446744073709551616 by omega),Nat.mod_eq_of_lt (by omega)]
    omega
  rw [h2]
  omega

end Go.Proofs.YtoaagdbbbojpmaaGreatDoor
set_option linter.unusedVariables false
namespace Go.Proofs.YtoaagdbbbojpmaaGreatDoor
open Go Go.Mw

theorem shr_nat (k:IntKind) {x s:Nat} (hs:s ≤ k.bits):b_shr k (x:Int) (s:Int) = ((x / 2 ^ s:Nat):Int):=by
  unfold b_shr
  rw [Int.toNat_natCast,Nat.min_eq_left hs,Int.fdiv_eq_ediv_of_nonneg _ (by exact Int.le_of_lt (Int.pow_pos (by decide)))]
  rw [Int.natCast_ediv,Int.natCast_pow]
  rfl
end Go.Proofs.YtoaagdbbbojpmaaGreatDoor
set_option linter.unusedVariables false
namespace Go.Proofs.YtoaagdbbbojpmaaGreatDoor
open Go Go.Mw

theorem ofNat_toNat {n:Nat} (h:n < 256):(UInt8.ofNat n).toNat = n:=by simp [UInt8.toNat_ofNat',Nat.mod_eq_of_lt h]
end Go.Proofs.YtoaagdbbbojpmaaGreatDoor
