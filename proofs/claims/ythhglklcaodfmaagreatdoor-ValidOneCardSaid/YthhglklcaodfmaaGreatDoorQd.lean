import Derived.Test.YthhglklcaodfmaaGreatDoorQc
import Derived.Test.YthhglklcaodfmaaGreatDoorQi
import Derived.Shelf.Unicode.DecodeSlow
import Derived.Shelf.Strings.Search3
import Derived.Shelf.Strings.Fields
import Derived.Test.YthhglklcaodfmaaGreatDoorCards
import Derived.Test.YthhglklcaodfmaaGreatDoorTie
import Derived.Deep.DeepHandedRow
import Derived.Deep.DeepWitnessRowRef
import Derived.Lib.LaidTab
import Derived.Lib.LaidU8T
import Derived.Shelf.Vars
import Derived.Lay
import Derived.Lib.ValidAsc
set_option linter.all false
set_option maxRecDepth 100000
set_option maxHeartbeats 40000000
namespace Go.Proofs.YthhglklcaodfmaaGreatDoor
open Go Go.Mw
def af7:List AV:=(List.range 256).map fun c=>.int .u8 (Lib.firstT c)
def af8:List AV:=(List.range 32).map fun i=>.int .u8 (if i % 2=0 then Lib.accLo (i / 2) else Lib.accHi (i / 2))
theorem oE {w:World} {b off:Nat} {v:Value} (h:w.cell? ⟨b,off,none⟩=some v):∃c t fr,w.heap[b]? = some (.cells c t fr)∧c[off]? = some v:=by
 unfold World.cell? at h
 simp only at h
 split at h
 ·rename_i c t fr hb
  exact ⟨c,t,fr,hb,h⟩
 ·cases h
theorem qk {w:World} {M:Nat→Prop} {b n:Nat} {f:Nat→Int} (hn:0<n) (h:∀j,j<n→w.cell? ⟨b,j,none⟩=some (.int .u8 (f j))) (hM:¬M b) :
  IRel M w (.pointer (some ⟨b,0,none⟩)) (.ip ((List.range n).map fun j=>.int .u8 (f j))):=by
 obtain ⟨c,t,fr,hb,_⟩:=oE (h 0 hn)
 refine .ip b 0 c t fr _ (fun j=>.int .u8 (f j)) hb hM (fun j hj=>?_) (fun j x hx=>?_)
 ·simp at hj
  obtain ⟨c',t',fr',hb',hc⟩:=oE (h j hj)
  rw [hb] at hb'
  cases hb'
  simpa using hc
 ·simp only [db,cJ,List.getElem?_range] at hx
  obtain ⟨q,hq,rfl⟩:=hx
  rw [List.getElem?_range] at hq
  cases hq
  exact .int _ _
  have:=(dW.1 hq).1
  simpa using this
def spT (c:Nat):Value:=.int .u8 (if Lib.isSp (UInt8.ofNat c) then 1 else 0)
theorem iB {w w':World} {b off:Nat} {v:Value} (h:w'.heap[b]? = w.heap[b]?) (hc:w.cell? ⟨b,off,none⟩=some v):w'.cell? ⟨b,off,none⟩=some v:=by
 rw [World.cell?_of_block (w:=w) h];exact hc
theorem sy {w:World} {b off:Nat} {v:Value} (h:w.cell? ⟨b,off,none⟩=some v):b<w.heap.size:=by
 obtain ⟨c,t,fr,h1,_⟩:=oE h
 exact (f9.1 h1).1
noncomputable def af9:Hn where
 B b:=(b=0∨b=1)∨(b=2∨b=3)
 H w:=Lib.Utf8Tabs 0 1 w∧(∀c,c<256→w.cell? ⟨2,c,none⟩=some (spT c))∧∃m,w.cell? ⟨3,0,none⟩=some (.int .i64 m)
 env:=[(1000000+0,.ip af7),(1000000+1,.ip af8)]
 rel w M h hM p hp:=by
  simp only [bc,List.not_mem_nil,or_false] at hp
  rcases hp with rfl | rfl
  ·exact ⟨by decide,qk (by decide) (fun j hj=>h.1.1 j hj) (hM 0 (.inl (.inl rfl)))⟩
  ·refine ⟨by decide,qk (by decide) (fun j hj=>?_) (hM 1 (.inl (.inr rfl)))⟩
   obtain ⟨h1,h2⟩:=h.1.2 (j / 2) (by omega)
   by_cases h0:j % 2=0
   ·rw [av h0]
    rw [show 2 * (j / 2)=j by omega] at h1
    exact h1
   ·rw [ar h0]
    rw [show 2 * (j / 2)+1=j by omega] at h2
    exact h2
 stay w w' h hk:=⟨⟨fun c hc=>iB (hk _ (.inl (.inl rfl))) (h.1.1 c hc),fun i hi=>⟨iB (hk _ (.inl (.inr rfl))) (h.1.2 i hi).1,iB (hk _ (.inl (.inr rfl))) (h.1.2 i hi).2⟩⟩,
  fun c hc=>iB (hk 2 (.inr (.inl rfl))) (h.2.1 c hc),by obtain ⟨m,hm⟩:=h.2.2;exact ⟨m,iB (hk 3 (.inr (.inr rfl))) hm⟩⟩
 low w h b hb:=by
  rcases hb with (rfl | rfl) | (rfl | rfl)
  ·exact sy (h.1.1 0 (by decide))
  ·exact sy (h.1.2 0 (by decide)).1
  ·exact sy (h.2.1 0 (by decide))
  ·obtain ⟨m,hm⟩:=h.2.2;exact sy hm
noncomputable instance:aV Tryz.prog:=⟨af9⟩
open Go.ChangeShapes Go.WideShapes Go.ChangeAt Go.RowKit
theorem own:ownKnob Tryz.prog.godebug=none:=by kernel_rfl
theorem nG:laidOutB Tryz.prog=true:=by kernel_rfl
abbrev Dp:List (String×DataW Unit):=[("unicode/utf8.acceptRanges",Rows.laid_unicode_utf8_acceptRanges),("unicode.White_Space",Rows.laid_unicode_White_Space),("strings.asciiSpace",Rows.laid_strings_asciiSpace),("unicode/utf8.first",Rows.laid_unicode_utf8_first)]
def spL:List Int:=(List.range 256).map fun c=>if Lib.isSp (UInt8.ofNat c) then 1 else 0
theorem spD:(Rows.laid_strings_asciiSpace:DataW Unit)=Lib.tabData .u8 spL:=by kernel_rfl
theorem gSp:Tryz.prog.globalNamed "strings.asciiSpace" = some 2:=by kernel_rfl
theorem tSp:(Tryz.prog.globals[2]?).map (·.type)=some 246:=by kernel_rfl
theorem uSp:Tryz.prog.underlying 246=some (.array 256 5):=by kernel_rfl
theorem uU8:Tryz.prog.underlying 5=some (.int .u8):=by kernel_rfl
theorem cU8:Tryz.prog.cellsOf 5=1:=by kernel_rfl
theorem cSp:Tryz.prog.cellsOf 246=256:=by kernel_rfl
theorem abu {W:World} (h:laidMetH Tryz.prog Dp W):Lib.TabIs Tryz.prog W "strings.asciiSpace" .u8 spL:=by
 have h2:=Lib.laidMet.reads h (.tail _ (.tail _ (.head _)))
 rw [spD] at h2
 obtain ⟨g',t',cs,fuel,p,hg',ht',hvar,hd⟩:=h2
 obtain rfl:=Option.some.inj (gSp.symm.trans hg')
 obtain rfl:=Option.some.inj (tSp.symm.trans ht')
 unfold Lib.TabIs
 rw [hvar,← Lib.cells_of_tab uSp uU8 cU8 cSp hd]
def ren:Go.Shelf.Ren:=⟨fun x=>x,fun t=>if t=119 then 246 else if t=138 then 248 else if t=139 then 249 else 5,fun g=>if g=3 then 0 else 1⟩
theorem u8t:U8Types Tryz.prog ren:=⟨by kernel_rfl,by kernel_rfl,by kernel_rfl,by kernel_rfl⟩
theorem u8x:U8Extra Tryz.prog ren:=⟨by kernel_rfl,by kernel_rfl,by kernel_rfl,by kernel_rfl,by kernel_rfl,by kernel_rfl,by kernel_rfl⟩
theorem acd:(Rows.laid_unicode_utf8_acceptRanges:DataW Unit)=Lib.acceptData:=by kernel_rfl
theorem ad5:Rows.laid_unicode_utf8_first=Lib.firstData:=by kernel_rfl
theorem VY {W:World} (h:laidMetH Tryz.prog Dp W):Lib.Utf8Tabs 0 1 W:=by
 have h1:=Lib.laidMet.reads h (.head _)
 have h2:=Lib.laidMet.reads h (.tail _ (.tail _ (.tail _ (.head _))))
 rw [acd] at h1
 rw [ad5] at h2
 exact utf8Tabs_of_readsT u8t u8x h2 h1
theorem VM (c:Nat) (hc:c<256):Value.int .u8 (spL.getD c 0)=spT c:=by
 simp [spL,spT,List.getD,hc]
theorem n_ {W:World} (h:laidMetH Tryz.prog Dp W) (hs:W.ShapedOpen Tryz.prog):(aV.T Tryz.prog).H W :=
 ⟨VY h,fun c hc=>by rw [(abu h).cell gSp c (by simpa [spL] using hc),VM c hc],
 Go.Proofs.cell_of_shapedOpen_int (g:=3) (t:=3) (k:=.i64) (zero:=#[.int .i64 0]) hs (of_decide_eq_true (by kernel_rfl)) (by kernel_rfl) rfl (by kernel_rfl) (by kernel_rfl) (by kernel_rfl)⟩
noncomputable abbrev cB (os:Os):World:=World.laidAll Tryz.prog os Dp
theorem nz {P:Program} (h:∀fn∈P.funcs.toList,fn.goes=false) (c:OpenClaim) (hs:c.start = .entering):false=c.goesBy P:=by
 have k1:∀f:FuncId,(P.funcs[f]?).any Func.goes=false:=fun f=>by
  cases hf:P.funcs[f]? with
  | none=>rfl
  | some fn=>exact h fn (by
    obtain ⟨h1,rfl⟩:=f9.1 hf
    exact Array.getElem_mem_toList h1)
 have key:∀f:FuncId,P.goes f=false:=fun f=>by
  unfold Program.goes
  have e1:(P.closure f).any (fun g=>(P.funcs[g]?).any Func.goes)=false:=List.any_eq_false.2 fun g _=>by rw [k1 g];decide
  have e2:P.funcs.any Func.goes=false:=by
   rw [← Array.any_toList]
   exact List.any_eq_false.2 fun fn hfn=>by rw [h fn hfn];decide
  rw [e1,e2,Bool.and_false,Bool.or_false]
 unfold OpenClaim.goesBy Program.goesAt Program.goesFrom
 rw [hs]
 cases P.funcNamed c.func with
 | none=>rfl
 | some f=>simp only [Option.any_some,key,Bool.or_false]
theorem Iy {α:Type} {p:α→Bool} (n:Nat):∀(k:Nat) (l:List α),(∀i,i<k→((l.drop (i * n)).take n).all p=true)→l.length≤k * n→∀x∈l,p x=true
 | 0,l,_,hl,x,hx=>by
  have:l=[]:=QE (by omega)
  subst this;cases hx
 | k+1,l,h,hl,x,hx=>by
  have h0:=h 0 (by omega)
  rw [Nat.zero_mul,List.drop_zero] at h0
  have ih:=Iy n k (l.drop n) (fun i hi=>by
   have:=h (i+1) (by omega)
   rw [List.drop_drop,show n+i * n=(i+1) * n by rw [Nat.succ_mul,Nat.add_comm]]
   exact this) (by rw [MN];rw [Nat.succ_mul] at hl;omega)
  rcases dL.1 (by rw [List.take_append_drop n l];exact hx) with q | q
  ·exact eA.1 h0 x q
  ·exact ih x q
theorem ad8:((Tryz.prog.funcs.toList.drop (0 * 40)).take 40).all (fun fn=>!fn.goes)=true:=by kernel_rfl
theorem ad9:((Tryz.prog.funcs.toList.drop (1 * 40)).take 40).all (fun fn=>!fn.goes)=true:=by kernel_rfl
theorem ad_:((Tryz.prog.funcs.toList.drop (2 * 40)).take 40).all (fun fn=>!fn.goes)=true:=by kernel_rfl
theorem aea:((Tryz.prog.funcs.toList.drop (3 * 40)).take 40).all (fun fn=>!fn.goes)=true:=by kernel_rfl
theorem aeb:((Tryz.prog.funcs.toList.drop (4 * 40)).take 40).all (fun fn=>!fn.goes)=true:=by kernel_rfl
theorem aec:((Tryz.prog.funcs.toList.drop (5 * 40)).take 40).all (fun fn=>!fn.goes)=true:=by kernel_rfl
theorem aed:((Tryz.prog.funcs.toList.drop (6 * 40)).take 40).all (fun fn=>!fn.goes)=true:=by kernel_rfl
theorem aee:((Tryz.prog.funcs.toList.drop (7 * 40)).take 40).all (fun fn=>!fn.goes)=true:=by kernel_rfl
theorem aef:((Tryz.prog.funcs.toList.drop (8 * 40)).take 40).all (fun fn=>!fn.goes)=true:=by kernel_rfl
theorem aeg:((Tryz.prog.funcs.toList.drop (9 * 40)).take 40).all (fun fn=>!fn.goes)=true:=by kernel_rfl
theorem YG:((Tryz.prog.funcs.toList.drop (10 * 40)).take 40).all (fun fn=>!fn.goes)=true:=by kernel_rfl
theorem I8:∀fn∈Tryz.prog.funcs.toList,fn.goes=false:=fun fn h=>by
 have:=Iy 40 11 Tryz.prog.funcs.toList (p:=fun fn=>!fn.goes) (fun i hi=>by
  rcases (show i=0∨i=1∨i=2∨i=3∨i=4∨i=5∨i=6∨i=7∨i=8∨i=9∨i=10 by omega) with rfl | rfl | rfl | rfl | rfl | rfl | rfl | rfl | rfl | rfl | rfl
  ·exact ad8
  ·exact ad9
  ·exact ad_
  ·exact aea
  ·exact aeb
  ·exact aec
  ·exact aed
  ·exact aee
  ·exact aef
  ·exact aeg
  ·exact YG) (of_decide_eq_true (by kernel_rfl)) fn h
 simpa using this
def CS (b:UInt8):List AV:=[.int .u8 b.toNat]
theorem WU (b:UInt8):CS b=[.int .u8 b.toNat]:=rfl
attribute [go_sem] WU
def mst (bits:Nat):Nat:=(bits+6) / 7
theorem abC (n:Int):IntKind.i64.wrap n=(n+9223372036854775808) % 18446744073709551616 - 9223372036854775808:=by
 simp [IntKind.wrap,IntKind.bits,IntKind.signed]
 split<;>omega
theorem Ax {n:Nat} (h:n<256):(UInt8.ofNat n).toNat=n:=by simp [UInt8.toNat_ofNat',Nat.mod_eq_of_lt h]
theorem WV {n:Nat} (h:n<256):CS (UInt8.ofNat n)=[.int .u8 n]:=by rw [WU,Ax h]
def bp (n:Int):List AV:=[.int .i64 n]
theorem ez (n:Int):bp n=[.int .i64 n]:=rfl
attribute [go_sem] ez
structure bv where
 op:Int
 a:Int
 b:Int
 n:Int
 k:Int
 v:Int
 x:Int
 ty:List Int
 lb:List Int
def iE (i:bv):AV:=.agg [.int .i64 i.op,.int .i64 i.a,.int .i64 i.b,.int .u64 i.n,.int .i64 i.k,.int .i64 i.v,.int .i64 i.x,.sl 1 (i.ty.map bp),.sl 1 (i.lb.map bp)]
theorem dB (i:bv):iE i = .agg [.int .i64 i.op,.int .i64 i.a,.int .i64 i.b,.int .u64 i.n,.int .i64 i.k,.int .i64 i.v,.int .i64 i.x,.sl 1 (i.ty.map bp),.sl 1 (i.lb.map bp)]:=rfl
def cD (i:bv):List AV:=[.int .i64 i.op,.int .i64 i.a,.int .i64 i.b,.int .u64 i.n,.int .i64 i.k,.int .i64 i.v,.int .i64 i.x,.sl 1 (i.ty.map bp),.sl 1 (i.lb.map bp)]
instance:Inhabited bv:=⟨⟨0,0,0,0,0,0,0,[],[]⟩⟩
structure Ft where
 ps:List Int
 rs:List Int
structure Lm where
 mn:Int
 mx:Int
 hs:Bool
structure Gl where
 v:Int
 mu:Bool
structure Im where
 m:List UInt8
 n:List UInt8
 k:Int
 f:Int
 te:Int
 tl:Lm
 me:Lm
 g:Gl
structure Cd where
 t:Int
 lo:List Int
 b:List bv
structure Tb where
 e:Int
 l:Lm
structure Gd where
 g:Gl
 i:List bv
structure Ex where
 n:List UInt8
 k:Int
 i:Int
structure El where
 mo:Int
 tb:Int
 o:List bv
 ty:Int
 it:List (List bv)
structure Da where
 mo:Int
 me:Int
 o:List bv
 b:List UInt8
structure Cu where
 af:Int
 n:List UInt8
 b:List UInt8
structure Md where
 ts:List Ft
 ims:List Im
 fs:List Cd
 tbs:List Tb
 ms:List Lm
 gs:List Gd
 exs:List Ex
 hs:Bool
 st:Int
 els:List El
 ds:List Da
 cs:List Cu
instance:Inhabited Ft:=⟨⟨[],[]⟩⟩
instance:Inhabited Lm:=⟨⟨0,0,false⟩⟩
instance:Inhabited Gl:=⟨⟨0,false⟩⟩
instance:Inhabited Im:=⟨⟨[],[],0,0,0,default,default,default⟩⟩
instance:Inhabited Cd:=⟨⟨0,[],[]⟩⟩
instance:Inhabited Tb:=⟨⟨0,default⟩⟩
instance:Inhabited Gd:=⟨⟨default,[]⟩⟩
instance:Inhabited Ex:=⟨⟨[],0,0⟩⟩
instance:Inhabited El:=⟨⟨0,0,[],0,[]⟩⟩
instance:Inhabited Da:=⟨⟨0,0,[],[]⟩⟩
instance:Inhabited Cu:=⟨⟨0,[],[]⟩⟩
instance:Inhabited Md:=⟨⟨[],[],[],[],[],[],[],false,0,[],[],[]⟩⟩
def jp (x:Ft):List AV:=[.sl 1 (x.ps.map bp),.sl 1 (x.rs.map bp)]
def nJ (x:Lm):List AV:=[.int .i64 x.mn,.int .i64 x.mx,.bool x.hs]
def Dc (x:Gl):List AV:=[.int .i64 x.v,.bool x.mu]
def tR (x:Im):List AV:=[.str x.m,.str x.n,.int .i64 x.k,.int .i64 x.f,.int .i64 x.te,.int .i64 x.tl.mn,.int .i64 x.tl.mx,.bool x.tl.hs,.int .i64 x.me.mn,.int .i64 x.me.mx,.bool x.me.hs,.int .i64 x.g.v,.bool x.g.mu]
def lB (x:Cd):List AV:=[.int .i64 x.t,.sl 1 (x.lo.map bp),.sl 9 (x.b.map cD)]
def ow (x:Tb):List AV:=[.int .i64 x.e,.int .i64 x.l.mn,.int .i64 x.l.mx,.bool x.l.hs]
def BD (x:Gd):List AV:=[.int .i64 x.g.v,.bool x.g.mu,.sl 9 (x.i.map cD)]
def A7 (x:Ex):List AV:=[.str x.n,.int .i64 x.k,.int .i64 x.i]
def tS (l:List bv):List AV:=[.sl 9 (l.map cD)]
def wU (x:El):List AV:=[.int .i64 x.mo,.int .i64 x.tb,.sl 9 (x.o.map cD),.int .i64 x.ty,.sl 1 (x.it.map tS)]
def x5 (x:Da):List AV:=[.int .i64 x.mo,.int .i64 x.me,.sl 9 (x.o.map cD),.sl 1 (x.b.map CS)]
def zK (x:Cu):List AV:=[.int .i64 x.af,.str x.n,.sl 1 (x.b.map CS)]
def qF (x:Md):List AV:=[.sl 2 (x.ts.map jp),.sl 13 (x.ims.map tR),.sl 3 (x.fs.map lB),.sl 4 (x.tbs.map ow),.sl 3 (x.ms.map nJ),.sl 3 (x.gs.map BD),.sl 3 (x.exs.map A7),.bool x.hs,.int .i64 x.st,.sl 5 (x.els.map wU),.sl 4 (x.ds.map x5),.sl 3 (x.cs.map zK)]
theorem aY (x:Ft):jp x=[.sl 1 (x.ps.map bp),.sl 1 (x.rs.map bp)]:=rfl
theorem b_ (x:Lm):nJ x=[.int .i64 x.mn,.int .i64 x.mx,.bool x.hs]:=rfl
theorem cw (x:Im):tR x=[.str x.m,.str x.n,.int .i64 x.k,.int .i64 x.f,.int .i64 x.te,.int .i64 x.tl.mn,.int .i64 x.tl.mx,.bool x.tl.hs,.int .i64 x.me.mn,.int .i64 x.me.mx,.bool x.me.hs,.int .i64 x.g.v,.bool x.g.mu]:=rfl
theorem df (x:Cd):lB x=[.int .i64 x.t,.sl 1 (x.lo.map bp),.sl 9 (x.b.map cD)]:=rfl
theorem bO (x:Tb):ow x=[.int .i64 x.e,.int .i64 x.l.mn,.int .i64 x.l.mx,.bool x.l.hs]:=rfl
theorem kK (x:Gd):BD x=[.int .i64 x.g.v,.bool x.g.mu,.sl 9 (x.i.map cD)]:=rfl
theorem dy (x:Ex):A7 x=[.str x.n,.int .i64 x.k,.int .i64 x.i]:=rfl
theorem eV (l:List bv):tS l=[.sl 9 (l.map cD)]:=rfl
theorem eS (x:El):wU x=[.int .i64 x.mo,.int .i64 x.tb,.sl 9 (x.o.map cD),.int .i64 x.ty,.sl 1 (x.it.map tS)]:=rfl
theorem eB (x:Da):x5 x=[.int .i64 x.mo,.int .i64 x.me,.sl 9 (x.o.map cD),.sl 1 (x.b.map CS)]:=rfl
theorem dx (x:Cu):zK x=[.int .i64 x.af,.str x.n,.sl 1 (x.b.map CS)]:=rfl
theorem bM (x:Md):qF x=[.sl 2 (x.ts.map jp),.sl 13 (x.ims.map tR),.sl 3 (x.fs.map lB),.sl 4 (x.tbs.map ow),.sl 3 (x.ms.map nJ),.sl 3 (x.gs.map BD),.sl 3 (x.exs.map A7),.bool x.hs,.int .i64 x.st,.sl 5 (x.els.map wU),.sl 4 (x.ds.map x5),.sl 3 (x.cs.map zK)]:=rfl
def gY (x:Md):AV:=.agg (qF x)
def bL {α:Type} (p:Nat→α→Prop) (B:Nat) (l:List α):Prop:=l.length≤B∧∀a∈l,p B a
def xP {α:Type} (τ:Ty) (f:α→List AV) (p:Nat→α→Prop):Prop:=∀r,τ.ok r→∃a,aH Nd r (f a)∧p maxLen a∧∀B,τ.bd B r→p B a
theorem Rk {α:Type} {τ:Ty} {f:α→List AV} {p:Nat→α→Prop} (h:xP τ f p):∀{rows:List (List AV)},(∀r∈rows,τ.ok r)→∃l:List α,aH (aH Nd) rows (l.map f)∧(∀a∈l,p maxLen a)∧∀B,(∀r∈rows,τ.bd B r)→∀a∈l,p B a
 | [],_=>⟨[],trivial,(fun a h=>by cases h),(fun _ _ a h=>by cases h)⟩
 | r :: rows,hr=>by
  obtain ⟨a,h1,h2,h3⟩:=h r (hr r (by simp))
  obtain ⟨l,g1,g2,g3⟩:=Rk h (rows:=rows) fun r hr'=>hr r (by simp [hr'])
  refine ⟨a :: l,⟨h1,g1⟩,fun b hb=>?_,fun B hB b hb=>?_⟩
  ·rcases bc.1 hb with rfl | hb
   ·exact h2
   ·exact g2 b hb
  ·rcases bc.1 hb with rfl | hb
   ·exact h3 B (hB r (by simp))
   ·exact g3 B (fun r hr'=>hB r (by simp [hr'])) b hb
theorem jU {st:Nat} {rows rows':List (List AV)} (h:aH (aH Nd) rows rows'):Nd (.sl st rows) (.sl st rows'):=by
 refine .sl st _ _ h.length (fun i r r' h1 h2=>?_) (fun i j r r' x y h1 h2 h3 h4=>?_)
 ·obtain ⟨a,e1,e2⟩:=h.get h2
  obtain rfl:=Option.some.inj (h1.symm.trans e1)
  exact e2.length
 ·obtain ⟨a,e1,e2⟩:=h.get h2
  obtain rfl:=Option.some.inj (h1.symm.trans e1)
  obtain ⟨b,e3,e4⟩:=e2.get h4
  obtain rfl:=Option.some.inj (h3.symm.trans e3)
  exact e4
theorem sK {α:Type} {τ:Ty} {f:α→List AV} {p:Nat→α→Prop} (h:xP τ f p) {r:List AV} (hr:(Ty.sl τ).ok r):∃x l,r=[x]∧Nd x (.sl τ.n (l.map f))∧bL p maxLen l∧∀B,(Ty.sl τ).bd B [x]→bL p B l:=by
 rcases hr with rfl | ⟨rows,rfl,h2,h3⟩
 ·exact ⟨_,[],rfl,.nl _,⟨ef _,fun a h=>by cases h⟩,fun B _=>⟨ef _,fun a h=>by cases h⟩⟩
 ·obtain ⟨l,g1,g2,g3⟩:=Rk h h3
  have hl:=g1.length
  rw [bT] at hl
  refine ⟨_,l,rfl,jU g1,⟨by omega,g2⟩,fun B hB=>?_⟩
  obtain ⟨q1,q2⟩:=hB _ _ rfl
  exact ⟨by omega,g3 B q2⟩
theorem afZ {α:Type} {τ:Ty} {f:α→List AV} {p:Nat→α→Prop} (h:xP τ f p) {x:AV} (hx:(Ty.sl τ).okV x):∃l,Rf x (.sl τ.n (l.map f))∧bL p maxLen l∧∀B,(Ty.sl τ).bdV B x→bL p B l:=by
 obtain ⟨y,l,h1,h2,h3,h4⟩:=sK h (r:=[x]) hx
 simp only [List.cons.injEq,and_true] at h1
 subst h1
 exact ⟨l,.inl h2,h3,fun B hB=>h4 B hB⟩
theorem VZ {n:Int} (h:(Lit.int .u8 n).wf=true):0≤n∧n≤255:=by simpa [Lit.wf,IntKind.min,IntKind.max,IntKind.signed,IntKind.bits] using h
theorem Ol {n:Int} (h:(Lit.int .i64 n).wf=true):YO n:=by
 have:-9223372036854775808≤n∧n≤9223372036854775807:=by simpa [Lit.wf,IntKind.min,IntKind.max,IntKind.signed,IntKind.bits] using h
 unfold YO
 omega
theorem DW {n:Int} (h:(Lit.int .u64 n).wf=true):0≤n∧n<18446744073709551616:=by
 have:0≤n∧n≤18446744073709551615:=by simpa [Lit.wf,IntKind.min,IntKind.max,IntKind.signed,IntKind.bits] using h
 omega
def PC {α:Type} (_:Nat) (_:α):Prop:=True
theorem zM:xP (.int .i64) bp PC:=fun r h=>by
 obtain ⟨n,rfl,_⟩:=h
 exact ⟨n,⟨.rfl _,trivial⟩,trivial,fun _ _=>trivial⟩
theorem IS:xP (.int .u8) CS PC:=fun r h=>by
 obtain ⟨n,rfl,hw⟩:=h
 have hn:=VZ hw
 refine ⟨UInt8.ofNat n.toNat,?_,trivial,fun _ _=>trivial⟩
 rw [WV (by omega),show ((n.toNat:Nat):Int)=n by omega]
 exact ⟨.rfl _,trivial⟩
def uR:Ty:=.cons (.int .i64) (.cons (.int .i64) (.cons (.int .i64) (.cons (.int .u64) (.cons (.cons (.int .i64) (.cons (.int .i64) (.cons (.int .i64) .nil))) (.cons (.sl (.int .i64)) (.cons (.sl (.int .i64)) .nil))))))
def zE (B:Nat) (x:bv):Prop:=(0≤x.n∧x.n<18446744073709551616)∧bL PC B x.ty∧bL PC B x.lb
theorem tu:xP uR cD zE:=fun r h=>by
 obtain ⟨_,_,rfl,⟨op,rfl,w_op⟩,_,_,rfl,⟨a,rfl,w_a⟩,_,_,rfl,⟨b,rfl,w_b⟩,_,_,rfl,⟨n,rfl,w_n⟩,_,_,rfl,⟨_,_,rfl,⟨k,rfl,w_k⟩,_,_,rfl,⟨v,rfl,w_v⟩,_,_,rfl,⟨z,rfl,w_z⟩,rfl⟩,_,_,rfl,h_ty,_,_,rfl,h_lb,rfl⟩:=h
 obtain ⟨x_ty,l_ty,rfl,d_ty,m_ty,b_ty⟩:=sK zM h_ty
 obtain ⟨x_lb,l_lb,rfl,d_lb,m_lb,b_lb⟩:=sK zM h_lb
 exact ⟨⟨op,a,b,n,k,v,z,l_ty,l_lb⟩,⟨.rfl _,.rfl _,.rfl _,.rfl _,.rfl _,.rfl _,.rfl _,d_ty,d_lb,trivial⟩,⟨DW w_n,m_ty,m_lb⟩,fun B hB=>⟨DW w_n,b_ty B hB.2.2.2.2.2.1,b_lb B hB.2.2.2.2.2.2.1⟩⟩
def RA:Ty:=.cons (.sl (.int .i64)) (.cons (.sl (.int .i64)) .nil)
def WH (B:Nat) (x:Ft):Prop:=bL PC B x.ps∧bL PC B x.rs
theorem TE:xP RA jp WH:=fun r h=>by
 obtain ⟨_,_,rfl,h_ps,_,_,rfl,h_rs,rfl⟩:=h
 obtain ⟨x_ps,l_ps,rfl,d_ps,m_ps,b_ps⟩:=sK zM h_ps
 obtain ⟨x_rs,l_rs,rfl,d_rs,m_rs,b_rs⟩:=sK zM h_rs
 exact ⟨⟨l_ps,l_rs⟩,⟨d_ps,d_rs,trivial⟩,⟨m_ps,m_rs⟩,fun B hB=>⟨b_ps B hB.1,b_rs B hB.2.1⟩⟩
def RE:Ty:=.cons (.int .i64) (.cons (.int .i64) (.cons .bool .nil))
def WK (B:Nat) (x:Lm):Prop:=True
theorem TH:xP RE nJ WK:=fun r h=>by
 obtain ⟨_,_,rfl,⟨mn,rfl,w_mn⟩,_,_,rfl,⟨mx,rfl,w_mx⟩,_,_,rfl,⟨hs,rfl⟩,rfl⟩:=h
 exact ⟨⟨mn,mx,hs⟩,⟨.rfl _,.rfl _,.rfl _,trivial⟩,trivial,fun B hB=>trivial⟩
def RF:Ty:=.cons (.int .i64) (.cons (.cons (.int .i64) (.cons (.int .i64) (.cons .bool .nil))) .nil)
def WM (B:Nat) (x:Tb):Prop:=True
theorem TI:xP RF ow WM:=fun r h=>by
 obtain ⟨_,_,rfl,⟨e,rfl,w_e⟩,_,_,rfl,⟨_,_,rfl,⟨mn,rfl,w_mn⟩,_,_,rfl,⟨mx,rfl,w_mx⟩,_,_,rfl,⟨hs,rfl⟩,rfl⟩,rfl⟩:=h
 exact ⟨⟨e,⟨mn,mx,hs⟩⟩,⟨.rfl _,.rfl _,.rfl _,.rfl _,trivial⟩,trivial,fun B hB=>trivial⟩
def RC:Ty:=.cons .str (.cons .str (.cons (.int .i64) (.cons (.int .i64) (.cons (.cons (.int .i64) (.cons (.cons (.int .i64) (.cons (.int .i64) (.cons .bool .nil))) .nil)) (.cons (.cons (.int .i64) (.cons (.int .i64) (.cons .bool .nil))) (.cons (.cons (.int .i64) (.cons .bool .nil)) .nil))))))
def WJ (B:Nat) (x:Im):Prop:=x.m.length≤B∧x.n.length≤B
theorem TG:xP RC tR WJ:=fun r h=>by
 obtain ⟨_,_,rfl,⟨m,rfl,w_m⟩,_,_,rfl,⟨n,rfl,w_n⟩,_,_,rfl,⟨k,rfl,w_k⟩,_,_,rfl,⟨f,rfl,w_f⟩,_,_,rfl,⟨_,_,rfl,⟨te,rfl,w_te⟩,_,_,rfl,⟨_,_,rfl,⟨tmn,rfl,w_tmn⟩,_,_,rfl,⟨tmx,rfl,w_tmx⟩,_,_,rfl,⟨ths,rfl⟩,rfl⟩,rfl⟩,_,_,rfl,⟨_,_,rfl,⟨qmn,rfl,w_qmn⟩,_,_,rfl,⟨qmx,rfl,w_qmx⟩,_,_,rfl,⟨qhs,rfl⟩,rfl⟩,_,_,rfl,⟨_,_,rfl,⟨gv,rfl,w_gv⟩,_,_,rfl,⟨gmu,rfl⟩,rfl⟩,rfl⟩:=h
 exact ⟨⟨m,n,k,f,te,⟨tmn,tmx,ths⟩,⟨qmn,qmx,qhs⟩,⟨gv,gmu⟩⟩,⟨.rfl _,.rfl _,.rfl _,.rfl _,.rfl _,.rfl _,.rfl _,.rfl _,.rfl _,.rfl _,.rfl _,.rfl _,.rfl _,trivial⟩,⟨w_m,w_n⟩,fun B hB=>⟨hB.1 _ rfl,hB.2.1 _ rfl⟩⟩
def Rv:Ty:=.cons (.int .i64) (.cons (.sl (.int .i64)) (.cons (.sl uR) .nil))
def WC (B:Nat) (x:Cd):Prop:=bL PC B x.lo∧bL zE B x.b
theorem Tz:xP Rv lB WC:=fun r h=>by
 obtain ⟨_,_,rfl,⟨t,rfl,w_t⟩,_,_,rfl,h_lo,_,_,rfl,h_b,rfl⟩:=h
 obtain ⟨x_lo,l_lo,rfl,d_lo,m_lo,b_lo⟩:=sK zM h_lo
 obtain ⟨x_b,l_b,rfl,d_b,m_b,b_b⟩:=sK tu h_b
 exact ⟨⟨t,l_lo,l_b⟩,⟨.rfl _,d_lo,d_b,trivial⟩,⟨m_lo,m_b⟩,fun B hB=>⟨b_lo B hB.2.1,b_b B hB.2.2.1⟩⟩
def RB:Ty:=.cons (.cons (.int .i64) (.cons .bool .nil)) (.cons (.sl uR) .nil)
def WI (B:Nat) (x:Gd):Prop:=bL zE B x.i
theorem TF:xP RB BD WI:=fun r h=>by
 obtain ⟨_,_,rfl,⟨_,_,rfl,⟨v,rfl,w_v⟩,_,_,rfl,⟨mu,rfl⟩,rfl⟩,_,_,rfl,h_i,rfl⟩:=h
 obtain ⟨x_i,l_i,rfl,d_i,m_i,b_i⟩:=sK tu h_i
 exact ⟨⟨⟨v,mu⟩,l_i⟩,⟨.rfl _,.rfl _,d_i,trivial⟩,m_i,fun B hB=>b_i B hB.2.1⟩
def Rz:Ty:=.cons .str (.cons (.int .i64) (.cons (.int .i64) .nil))
def WG (B:Nat) (x:Ex):Prop:=x.n.length≤B
theorem TD:xP Rz A7 WG:=fun r h=>by
 obtain ⟨_,_,rfl,⟨n,rfl,w_n⟩,_,_,rfl,⟨k,rfl,w_k⟩,_,_,rfl,⟨i,rfl,w_i⟩,rfl⟩:=h
 exact ⟨⟨n,k,i⟩,⟨.rfl _,.rfl _,.rfl _,trivial⟩,w_n,fun B hB=>hB.1 _ rfl⟩
theorem N8:xP (.sl uR) tS (bL zE):=fun r h=>by
 obtain ⟨x,l,rfl,d,m,b⟩:=sK tu h
 exact ⟨l,⟨d,trivial⟩,m,fun B hB=>b B hB⟩
def Ry:Ty:=.cons (.int .i64) (.cons (.int .i64) (.cons (.sl uR) (.cons (.int .i64) (.cons (.sl (.sl uR)) .nil))))
def WF (B:Nat) (x:El):Prop:=bL zE B x.o∧bL (bL zE) B x.it
theorem TC:xP Ry wU WF:=fun r h=>by
 obtain ⟨_,_,rfl,⟨mo,rfl,w_mo⟩,_,_,rfl,⟨tb,rfl,w_tb⟩,_,_,rfl,h_o,_,_,rfl,⟨ty,rfl,w_ty⟩,_,_,rfl,h_it,rfl⟩:=h
 obtain ⟨x_o,l_o,rfl,d_o,m_o,b_o⟩:=sK tu h_o
 obtain ⟨x_it,l_it,rfl,d_it,m_it,b_it⟩:=sK N8 h_it
 exact ⟨⟨mo,tb,l_o,ty,l_it⟩,⟨.rfl _,.rfl _,d_o,.rfl _,d_it,trivial⟩,⟨m_o,m_it⟩,fun B hB=>⟨b_o B hB.2.2.1,b_it B hB.2.2.2.2.1⟩⟩
def Rx:Ty:=.cons (.int .i64) (.cons (.int .i64) (.cons (.sl uR) (.cons (.sl (.int .u8)) .nil)))
def WE (B:Nat) (x:Da):Prop:=bL zE B x.o∧bL PC B x.b
theorem TB:xP Rx x5 WE:=fun r h=>by
 obtain ⟨_,_,rfl,⟨mo,rfl,w_mo⟩,_,_,rfl,⟨me,rfl,w_me⟩,_,_,rfl,h_o,_,_,rfl,h_b,rfl⟩:=h
 obtain ⟨x_o,l_o,rfl,d_o,m_o,b_o⟩:=sK tu h_o
 obtain ⟨x_b,l_b,rfl,d_b,m_b,b_b⟩:=sK IS h_b
 exact ⟨⟨mo,me,l_o,l_b⟩,⟨.rfl _,.rfl _,d_o,d_b,trivial⟩,⟨m_o,m_b⟩,fun B hB=>⟨b_o B hB.2.2.1,b_b B hB.2.2.2.1⟩⟩
def Rw:Ty:=.cons (.int .i64) (.cons .str (.cons (.sl (.int .u8)) .nil))
def WD (B:Nat) (x:Cu):Prop:=x.n.length≤B∧bL PC B x.b
theorem TA:xP Rw zK WD:=fun r h=>by
 obtain ⟨_,_,rfl,⟨af,rfl,w_af⟩,_,_,rfl,⟨n,rfl,w_n⟩,_,_,rfl,h_b,rfl⟩:=h
 obtain ⟨x_b,l_b,rfl,d_b,m_b,b_b⟩:=sK IS h_b
 exact ⟨⟨af,n,l_b⟩,⟨.rfl _,.rfl _,d_b,trivial⟩,⟨w_n,m_b⟩,fun B hB=>⟨hB.2.1 _ rfl,b_b B hB.2.2.1⟩⟩
def gL:Ty:=.cons (.sl RA) (.cons (.sl RC) (.cons (.sl Rv) (.cons (.sl RF) (.cons (.sl RE) (.cons (.sl RB) (.cons (.sl Rz) (.cons .bool (.cons (.int .i64) (.cons (.sl Ry) (.cons (.sl Rx) (.cons (.sl Rw) .nil)))))))))))
def WL (B:Nat) (x:Md):Prop:=bL WH B x.ts∧bL WJ B x.ims∧bL WC B x.fs∧bL WM B x.tbs∧bL WK B x.ms∧bL WI B x.gs∧bL WG B x.exs∧bL WF B x.els∧bL WE B x.ds∧bL WD B x.cs
theorem tw:xP gL qF WL:=fun r h=>by
 obtain ⟨_,_,rfl,h_ts,_,_,rfl,h_ims,_,_,rfl,h_fs,_,_,rfl,h_tbs,_,_,rfl,h_ms,_,_,rfl,h_gs,_,_,rfl,h_exs,_,_,rfl,⟨hs,rfl⟩,_,_,rfl,⟨st,rfl,w_st⟩,_,_,rfl,h_els,_,_,rfl,h_ds,_,_,rfl,h_cs,rfl⟩:=h
 obtain ⟨x_ts,l_ts,rfl,d_ts,m_ts,b_ts⟩:=sK TE h_ts
 obtain ⟨x_ims,l_ims,rfl,d_ims,m_ims,b_ims⟩:=sK TG h_ims
 obtain ⟨x_fs,l_fs,rfl,d_fs,m_fs,b_fs⟩:=sK Tz h_fs
 obtain ⟨x_tbs,l_tbs,rfl,d_tbs,m_tbs,b_tbs⟩:=sK TI h_tbs
 obtain ⟨x_ms,l_ms,rfl,d_ms,m_ms,b_ms⟩:=sK TH h_ms
 obtain ⟨x_gs,l_gs,rfl,d_gs,m_gs,b_gs⟩:=sK TF h_gs
 obtain ⟨x_exs,l_exs,rfl,d_exs,m_exs,b_exs⟩:=sK TD h_exs
 obtain ⟨x_els,l_els,rfl,d_els,m_els,b_els⟩:=sK TC h_els
 obtain ⟨x_ds,l_ds,rfl,d_ds,m_ds,b_ds⟩:=sK TB h_ds
 obtain ⟨x_cs,l_cs,rfl,d_cs,m_cs,b_cs⟩:=sK TA h_cs
 exact ⟨⟨l_ts,l_ims,l_fs,l_tbs,l_ms,l_gs,l_exs,hs,st,l_els,l_ds,l_cs⟩,⟨d_ts,d_ims,d_fs,d_tbs,d_ms,d_gs,d_exs,.rfl _,.rfl _,d_els,d_ds,d_cs,trivial⟩,⟨m_ts,m_ims,m_fs,m_tbs,m_ms,m_gs,m_exs,m_els,m_ds,m_cs⟩,fun B hB=>⟨b_ts B hB.1,b_ims B hB.2.1,b_fs B hB.2.2.1,b_tbs B hB.2.2.2.1,b_ms B hB.2.2.2.2.1,b_gs B hB.2.2.2.2.2.1,b_exs B hB.2.2.2.2.2.2.1,b_els B hB.2.2.2.2.2.2.2.2.2.1,b_ds B hB.2.2.2.2.2.2.2.2.2.2.1,b_cs B hB.2.2.2.2.2.2.2.2.2.2.2.1⟩⟩
theorem LO {α:Type} {τ:Ty} {f:α→List AV} {p:Nat→α→Prop} (h:xP τ f p) (hr:τ.isRec=true) {x:AV} (hx:τ.okV x):∃a,Rf x (.agg (f a))∧p maxLen a∧∀B,τ.bdV B x→p B a:=by
 unfold Ty.okV at hx
 rw [hr] at hx
 obtain ⟨xs,rfl,hx⟩:=hx
 obtain ⟨a,h1,h2,h3⟩:=h xs hx
 refine ⟨a,.inr ⟨_,_,rfl,rfl,h1⟩,h2,fun B hB=>h3 B ?_⟩
 unfold Ty.bdV at hB
 rw [hr] at hB
 exact hB _ rfl
theorem aej {x:AV} (h:(Ty.int .i64).okV x):∃n,x = .int .i64 n∧YO n:=by
 obtain ⟨n,h1,h2⟩:=h
 simp only [List.cons.injEq,and_true] at h1
 exact ⟨n,h1,Ol h2⟩
theorem UM {τ:Ty} {xs:List AV} (h:aH Ty.okV [τ] xs):∃x,xs=[x]∧τ.okV x:=by
 match xs,h with
 | [x],h=>exact ⟨x,rfl,h.1⟩
theorem aa0 {τ τ1:Ty} {xs:List AV} (h:aH Ty.okV [τ,τ1] xs):∃x y,xs=[x,y]∧τ.okV x∧τ1.okV y:=by
 match xs,h with
 | [x,y],h=>exact ⟨x,y,rfl,h.1,h.2.1⟩
theorem abz:km Tryz.prog 9 40=some (.sl (.int .u8)):=by kernel_rfl
theorem af_:km Tryz.prog 9 3=some (.int .i64):=by kernel_rfl
theorem AU:km Tryz.prog 9 33=some gL:=by kernel_rfl
section
theorem Tc (id:Nat) (t:TypeId) (st:Nat) (ys:List (List AV)):s8 id t st 0 0 ys (some ⟨t,st,[],false⟩) =
  if ys.length<137438953472∧(0:Nat)<137438953472∧(id<1000∨2000≤id) then some (.ms id st 0 (0+ys.length),.reb id ⟨t,st,ys,false⟩) else none:=by
 have h:=eQ id t st 0 (fun _:Unit=>([]:List AV)) [] ys rfl
 simpa using h
def cpI (x:bv):Prop:=x.ty.length≤1048576∧x.lb.length≤1048576∧0≤x.n
def IC (l:List bv):Prop:=l.length≤1048576∧∀x∈l,cpI x
def cpF (x:Ft):Prop:=x.ps.length≤1048576∧x.rs.length≤1048576
def adW (x:Cd):Prop:=x.lo.length≤1048576∧IC x.b
def ad0 (x:Gd):Prop:=IC x.i
def adZ (x:El):Prop:=IC x.o∧x.it.length≤1048576∧∀l∈x.it,IC l
def adY (x:Da):Prop:=IC x.o∧x.b.length≤1048576
def adX (x:Cu):Prop:=x.b.length≤1048576
structure cpM (m:Md):Prop where
 ts:m.ts.length≤1048576∧∀x∈m.ts,cpF x
 ims:m.ims.length≤1048576
 fs:m.fs.length≤1048576∧∀x∈m.fs,adW x
 tbs:m.tbs.length≤1048576
 ms:m.ms.length≤1048576
 gs:m.gs.length≤1048576∧∀x∈m.gs,ad0 x
 exs:m.exs.length≤1048576
 els:m.els.length≤1048576∧∀x∈m.els,adZ x
 ds:m.ds.length≤1048576∧∀x∈m.ds,adY x
 cs:m.cs.length≤1048576∧∀x∈m.cs,adX x
def DQ (x:bv):Prop:=x.ty.length≤9223372036854775807∧x.lb.length≤9223372036854775807∧0≤x.n
def Ca (l:List bv):Prop:=l.length≤9223372036854775807∧∀x∈l,DQ x
def smF (x:Ft):Prop:=x.ps.length≤9223372036854775807∧x.rs.length≤9223372036854775807
def Qj (x:Cd):Prop:=x.lo.length≤9223372036854775807∧Ca x.b
def abp (x:Gd):Prop:=Ca x.i
def VG (x:El):Prop:=Ca x.o∧x.it.length≤140737488355328∧∀l∈x.it,Ca l
def VF (x:Da):Prop:=Ca x.o∧x.b.length≤9223372036854775807
def af1 (x:Cu):Prop:=x.b.length≤9223372036854775807
structure ol (m:Md):Prop where
 ts:m.ts.length≤140737488355328∧∀x∈m.ts,smF x
 ims:m.ims.length≤140737488355328
 fs:m.fs.length≤140737488355328∧∀x∈m.fs,Qj x
 tbs:m.tbs.length≤140737488355328
 ms:m.ms.length≤140737488355328
 gs:m.gs.length≤140737488355328∧∀x∈m.gs,abp x
 exs:m.exs.length≤140737488355328
 els:m.els.length≤140737488355328∧∀x∈m.els,VG x
 ds:m.ds.length≤140737488355328∧∀x∈m.ds,VF x
 cs:m.cs.length≤140737488355328∧∀x∈m.cs,af1 x
theorem CO {α:Type} [Inhabited α] {p:α→Prop} {l:List α} (h:∀x∈l,p x) {i:Nat} (hi:i<l.length):p (au l i):=by
 rw [aX hi];exact h _ (List.getElem_mem hi)
theorem Cl {α:Type} [Inhabited α] {l:List α} {i:Nat} (h:i<l.length):l.take (i+1)=l.take i++[au l i]:=by rw [List.take_add_one,di h,Option.toList_some]
attribute [local go_sem] bT
theorem jd (rows:List (List AV)) (h:rows.length≤1048576):aj Tryz.prog nX3 [.sl 1 rows] (.sl 1 rows):=by
 refine ac (ic:=FX3.body) ap cX3 rfl rfl ?_
 have ha:=Tc 5 48 1 rows
 simp only [go_sem,FX3]
 refine Qm _ _ _ _ ⟨?_,fun h0=>?_⟩
 ·simp only [go_sem,ha]
  refine ⟨by omega,aN [5] ?_ rfl⟩
  simp only [go_sem,aO]
  rw [og]
 ·subst h0
  simp only [go_sem]
  exact iQ (Wk.nls _ 2 1 (by simp only [go_sem])) [] (by first | rfl | simp only [go_sem]) rfl
end
def uv (l:List UInt8):Bool:=Lib.validD l
end Go.Proofs.YthhglklcaodfmaaGreatDoor