import Derived.Test.YtdefmgmmjfgbpaaGreatDoorUQc
import Derived.Test.YtdefmgmmjfgbpaaGreatDoorUQi
import Derived.Shelf.Unicode.DecodeSlow
import Derived.Shelf.Strings.Search3
import Derived.Shelf.Strings.Fields
import Derived.Test.YtdefmgmmjfgbpaaGreatDoorCards
import Derived.Test.YtdefmgmmjfgbpaaGreatDoorTie
import Derived.Deep.DeepHandedRow
import Derived.Deep.DeepWitnessRowRef
import Derived.Lib.LaidTab
import Derived.Lib.LaidU8T
import Derived.Shelf.Vars
import Derived.Lay
set_option linter.all false
set_option maxRecDepth 100000
set_option maxHeartbeats 40000000
namespace Go.Proofs.YtdefmgmmjfgbpaaGreatDoor
open Go Go.Mw
def rT:List AV:=(List.range 256).map fun c=>.int .u8 (Lib.firstT c)
def km:List AV:=(List.range 32).map fun i=>.int .u8 (if i % 2=0 then Lib.accLo (i / 2) else Lib.accHi (i / 2))
theorem lC {w:World} {b off:Nat} {v:Value} (h:w.cell? ⟨b,off,none⟩=some v):∃c t fr,w.heap[b]? = some (.cells c t fr)∧c[off]? = some v:=by
 unfold World.cell? at h
 simp only at h
 split at h
 ·rename_i c t fr hb
  exact ⟨c,t,fr,hb,h⟩
 ·cases h
theorem mX {w:World} {M:Nat→Prop} {b n:Nat} {f:Nat→Int} (hn:0<n) (h:∀j,j<n→w.cell? ⟨b,j,none⟩=some (.int .u8 (f j))) (hM:¬M b) :
  IRel M w (.pointer (some ⟨b,0,none⟩)) (.ip ((List.range n).map fun j=>.int .u8 (f j))):=by
 obtain ⟨c,t,fr,hb,_⟩:=lC (h 0 hn)
 refine .ip b 0 c t fr _ (fun j=>.int .u8 (f j)) hb hM (fun j hj=>?_) (fun j x hx=>?_)
 ·simp at hj
  obtain ⟨c',t',fr',hb',hc⟩:=lC (h j hj)
  rw [hb] at hb'
  cases hb'
  simpa using hc
 ·simp only [d_,cj,List.getElem?_range] at hx
  obtain ⟨q,hq,rfl⟩:=hx
  rw [List.getElem?_range] at hq
  cases hq
  exact .int _ _
  have:=(dE.1 hq).1
  simpa using this
def U9 (c:Nat):Value:=.int .u8 (if Lib.isSp (UInt8.ofNat c) then 1 else 0)
theorem gw {w w':World} {b off:Nat} {v:Value} (h:w'.heap[b]? = w.heap[b]?) (hc:w.cell? ⟨b,off,none⟩=some v):w'.cell? ⟨b,off,none⟩=some v:=by
 rw [World.cell?_of_block (w:=w) h];exact hc
theorem nH {w:World} {b off:Nat} {v:Value} (h:w.cell? ⟨b,off,none⟩=some v):b<w.heap.size:=by
 obtain ⟨c,t,fr,h1,_⟩:=lC h
 exact (ky.1 h1).1
noncomputable def Vc:zV where
 B b:=(b=0∨b=1)∨(b=2∨b=3)
 H w:=Lib.Utf8Tabs 0 1 w∧(∀c,c<256→w.cell? ⟨2,c,none⟩=some (U9 c))∧∃m,w.cell? ⟨3,0,none⟩=some (.int .i64 m)
 env:=[(1000000+0,.ip rT),(1000000+1,.ip km)]
 rel w M h hM p hp:=by
  simp only [bE,List.not_mem_nil,or_false] at hp
  rcases hp with rfl | rfl
  ·exact ⟨by decide,mX (by decide) (fun j hj=>h.1.1 j hj) (hM 0 (.inl (.inl rfl)))⟩
  ·refine ⟨by decide,mX (by decide) (fun j hj=>?_) (hM 1 (.inl (.inr rfl)))⟩
   obtain ⟨h1,h2⟩:=h.1.2 (j / 2) (by omega)
   by_cases h0:j % 2=0
   ·rw [bz h0]
    rw [show 2 * (j / 2)=j by omega] at h1
    exact h1
   ·rw [aJ h0]
    rw [show 2 * (j / 2)+1=j by omega] at h2
    exact h2
 stay w w' h hk:=⟨⟨fun c hc=>gw (hk _ (.inl (.inl rfl))) (h.1.1 c hc),fun i hi=>⟨gw (hk _ (.inl (.inr rfl))) (h.1.2 i hi).1,gw (hk _ (.inl (.inr rfl))) (h.1.2 i hi).2⟩⟩,
  fun c hc=>gw (hk 2 (.inr (.inl rfl))) (h.2.1 c hc),by obtain ⟨m,hm⟩:=h.2.2;exact ⟨m,gw (hk 3 (.inr (.inr rfl))) hm⟩⟩
 low w h b hb:=by
  rcases hb with (rfl | rfl) | (rfl | rfl)
  ·exact nH (h.1.1 0 (by decide))
  ·exact nH (h.1.2 0 (by decide)).1
  ·exact nH (h.2.1 0 (by decide))
  ·obtain ⟨m,hm⟩:=h.2.2;exact nH hm
noncomputable instance:aS Tryz.prog:=⟨Vc⟩
open Go.ChangeShapes Go.WideShapes Go.ChangeAt Go.RowKit
theorem own:ownKnob Tryz.prog.godebug=none:=by kernel_rfl
theorem HB:laidOutB Tryz.prog=true:=by kernel_rfl
abbrev wa:List (String×DataW Unit):=[("unicode/utf8.acceptRanges",Rows.laid_unicode_utf8_acceptRanges),("unicode.White_Space",Rows.laid_unicode_White_Space),("strings.asciiSpace",Rows.laid_strings_asciiSpace),("unicode/utf8.first",Rows.laid_unicode_utf8_first)]
def Rj:List Int:=(List.range 256).map fun c=>if Lib.isSp (UInt8.ofNat c) then 1 else 0
theorem V4:(Rows.laid_strings_asciiSpace:DataW Unit)=Lib.tabData .u8 Rj:=by kernel_rfl
theorem Vq:Tryz.prog.globalNamed "strings.asciiSpace" = some 2:=by kernel_rfl
theorem V6:(Tryz.prog.globals[2]?).map (·.type)=some 193:=by kernel_rfl
theorem V9:Tryz.prog.underlying 193=some (.array 256 5):=by kernel_rfl
theorem V_:Tryz.prog.underlying 5=some (.int .u8):=by kernel_rfl
theorem VF:Tryz.prog.cellsOf 5=1:=by kernel_rfl
theorem VE:Tryz.prog.cellsOf 193=256:=by kernel_rfl
theorem Rk {W:World} (h:laidMetH Tryz.prog wa W):Lib.TabIs Tryz.prog W "strings.asciiSpace" .u8 Rj:=by
 have h2:=Lib.laidMet.reads h (.tail _ (.tail _ (.head _)))
 rw [V4] at h2
 obtain ⟨g',t',cs,fuel,p,hg',ht',hvar,hd⟩:=h2
 obtain rfl:=Option.some.inj (Vq.symm.trans hg')
 obtain rfl:=Option.some.inj (V6.symm.trans ht')
 unfold Lib.TabIs
 rw [hvar,← Lib.cells_of_tab V9 V_ VF VE hd]
def ren:Go.Shelf.Ren:=⟨fun x=>x,fun t=>if t=119 then 193 else if t=138 then 195 else if t=139 then 196 else 5,fun g=>if g=3 then 0 else 1⟩
theorem V7:U8Types Tryz.prog ren:=⟨by kernel_rfl,by kernel_rfl,by kernel_rfl,by kernel_rfl⟩
theorem V8:U8Extra Tryz.prog ren:=⟨by kernel_rfl,by kernel_rfl,by kernel_rfl,by kernel_rfl,by kernel_rfl,by kernel_rfl,by kernel_rfl⟩
theorem RY:(Rows.laid_unicode_utf8_acceptRanges:DataW Unit)=Lib.acceptData:=by kernel_rfl
theorem Tx:Rows.laid_unicode_utf8_first=Lib.firstData:=by kernel_rfl
theorem NF {W:World} (h:laidMetH Tryz.prog wa W):Lib.Utf8Tabs 0 1 W:=by
 have h1:=Lib.laidMet.reads h (.head _)
 have h2:=Lib.laidMet.reads h (.tail _ (.tail _ (.tail _ (.head _))))
 rw [RY] at h1
 rw [Tx] at h2
 exact utf8Tabs_of_readsT V7 V8 h2 h1
theorem Nv (c:Nat) (hc:c<256):Value.int .u8 (Rj.getD c 0)=U9 c:=by
 simp [Rj,U9,List.getD,hc]
theorem IZ {W:World} (h:laidMetH Tryz.prog wa W) (hs:W.ShapedOpen Tryz.prog):(aS.T Tryz.prog).H W :=
 ⟨NF h,fun c hc=>by rw [(Rk h).cell Vq c (by simpa [Rj] using hc),Nv c hc],
 Go.Proofs.cell_of_shapedOpen_int (g:=3) (t:=3) (k:=.i64) (zero:=#[.int .i64 0]) hs (of_decide_eq_true (by kernel_rfl)) (by kernel_rfl) rfl (by kernel_rfl) (by kernel_rfl) (by kernel_rfl)⟩
noncomputable abbrev lL (os:Os):World:=World.laidAll Tryz.prog os wa
def ni (b:UInt8):List AV:=[.int .u8 b.toNat]
theorem Ot (b:UInt8):ni b=[.int .u8 b.toNat]:=rfl
attribute [go_sem] Ot
def mst (bits:Nat):Nat:=(bits+6) / 7
theorem Vf (n:Int):IntKind.u8.wrap n=n % 256:=by simp [IntKind.wrap,IntKind.bits,IntKind.signed]
theorem tQ (n:Int):IntKind.u64.wrap n=n % 18446744073709551616:=by simp [IntKind.wrap,IntKind.bits,IntKind.signed]
theorem Rs (n:Int):IntKind.i64.wrap n=(n+9223372036854775808) % 18446744073709551616 - 9223372036854775808:=by
 simp [IntKind.wrap,IntKind.bits,IntKind.signed]
 split<;>omega
theorem qX (k:Nat) (a:Nat):BitVec.ofInt k (a:Int)=BitVec.ofNat k a:=BitVec.ofInt_natCast k a
theorem DR {k a b:Nat} (ha:a<2 ^ k) (hb:b<2 ^ k):(BitVec.ofInt k (a:Int) ||| BitVec.ofInt k (b:Int)).toNat=a ||| b:=by
 rw [qX,qX,BitVec.toNat_or,BitVec.toNat_ofNat,BitVec.toNat_ofNat,Nat.mod_eq_of_lt ha,Nat.mod_eq_of_lt hb]
theorem vJ {k a b:Nat} (ha:a<2 ^ k) (hb:b<2 ^ k):(BitVec.ofInt k (a:Int) &&& BitVec.ofInt k (b:Int)).toNat=a &&& b:=by
 rw [qX,qX,BitVec.toNat_and,BitVec.toNat_ofNat,BitVec.toNat_ofNat,Nat.mod_eq_of_lt ha,Nat.mod_eq_of_lt hb]
theorem Rh {y s:Nat} (hs:s<64):fz .u64 (y:Int) (s:Int)=((y * 2 ^ s % 18446744073709551616:Nat):Int):=by
 unfold fz
 rw [I6,show min s IntKind.u64.bits=s from Nat.min_eq_left (by show s≤64;omega),tQ,Int.natCast_emod (_ * _),Int.natCast_mul,Int.natCast_pow]
 rfl
theorem DS {n y s:Nat} (hs:s<64) (hn:n<2 ^ s):iY .u64 (n:Int) (((y * 2 ^ s) % 18446744073709551616:Nat):Int)=(((n+y * 2 ^ s) % 18446744073709551616:Nat):Int):=by
 have hp:2 ^ s≤2 ^ 63:=Nat.pow_le_pow_right (by decide) (by omega)
 have e64:18446744073709551616=2 ^ s * 2 ^ (64 - s):=by rw [← Nat.pow_add,show s+(64 - s)=64 by omega]
 have hm:(y * 2 ^ s) % 18446744073709551616=2 ^ s * (y % 2 ^ (64 - s)):=by rw [e64,Nat.mul_comm y,Nat.mul_mod_mul_left]
 have hlt:y % 2 ^ (64 - s)<2 ^ (64 - s):=Nat.mod_lt _ (Nat.two_pow_pos _)
 have hsum:2 ^ s * (y % 2 ^ (64 - s))+n<18446744073709551616:=by
  rw [e64]
  have h1:2 ^ s * (y % 2 ^ (64 - s)+1)≤2 ^ s * 2 ^ (64 - s):=Nat.mul_le_mul_left _ hlt
  rw [Nat.mul_add,Nat.mul_one] at h1
  omega
 have h1:(BitVec.ofInt 64 (n:Int) ||| BitVec.ofInt 64 (((y * 2 ^ s) % 18446744073709551616:Nat):Int)).toNat=n ||| ((y * 2 ^ s) % 18446744073709551616) :=
  DR (by omega) (Nat.mod_lt _ (by decide))
 show IntKind.u64.wrap ((BitVec.ofInt 64 (n:Int) ||| BitVec.ofInt 64 (((y * 2 ^ s) % 18446744073709551616:Nat):Int)).toNat)=_
 rw [h1,hm,Nat.or_comm,← Nat.two_pow_add_eq_or_of_lt hn,tQ]
 have h2:(n+y * 2 ^ s) % 18446744073709551616=2 ^ s * (y % 2 ^ (64 - s))+n:=by
  rw [Nat.add_mod,hm,Nat.mod_eq_of_lt (show n<18446744073709551616 by omega),Nat.mod_eq_of_lt (by omega)]
  omega
 rw [h2]
 omega
theorem IM (k:IntKind) {x s:Nat} (hs:s≤k.bits):vL k (x:Int) (s:Int)=((x / 2 ^ s:Nat):Int):=by
 unfold vL
 rw [I6,Nat.min_eq_left hs,Int.fdiv_eq_ediv_of_nonneg _ (by exact Int.le_of_lt (Int.pow_pos (by decide)))]
 rw [Int.natCast_ediv,Int.natCast_pow]
 rfl
theorem ofNat_toNat {n:Nat} (h:n<256):(UInt8.ofNat n).toNat=n:=by simp [UInt8.toNat_ofNat',Nat.mod_eq_of_lt h]
theorem Ou {n:Nat} (h:n<256):ni (UInt8.ofNat n)=[.int .u8 n]:=by rw [Ot,ofNat_toNat h]
def dI (n:Int):List AV:=[.int .i64 n]
theorem I2 (n:Int):dI n=[.int .i64 n]:=rfl
attribute [go_sem] I2
structure cN where
 op:Int
 a:Int
 b:Int
 n:Int
 k:Int
 v:Int
 x:Int
 ty:List Int
 lb:List Int
def jk (i:cN):AV:=.agg [.int .i64 i.op,.int .i64 i.a,.int .i64 i.b,.int .u64 i.n,.int .i64 i.k,.int .i64 i.v,.int .i64 i.x,.sl 1 (i.ty.map dI),.sl 1 (i.lb.map dI)]
theorem c_ (i:cN):jk i = .agg [.int .i64 i.op,.int .i64 i.a,.int .i64 i.b,.int .u64 i.n,.int .i64 i.k,.int .i64 i.v,.int .i64 i.x,.sl 1 (i.ty.map dI),.sl 1 (i.lb.map dI)]:=rfl
def aU (i:cN):List AV:=[.int .i64 i.op,.int .i64 i.a,.int .i64 i.b,.int .u64 i.n,.int .i64 i.k,.int .i64 i.v,.int .i64 i.x,.sl 1 (i.ty.map dI),.sl 1 (i.lb.map dI)]
instance:Inhabited cN:=⟨⟨0,0,0,0,0,0,0,[],[]⟩⟩
structure Ft where
 ps:List Int
 rs:List Int
structure Lm where
 mn:Int
 mx:Int
 hs:Bool
structure Gl where
 v:Int
 mu:Bool
structure Im where
 m:List UInt8
 n:List UInt8
 k:Int
 f:Int
 te:Int
 tl:Lm
 me:Lm
 g:Gl
structure Cd where
 t:Int
 lo:List Int
 b:List cN
structure Tb where
 e:Int
 l:Lm
structure Gd where
 g:Gl
 i:List cN
structure Ex where
 n:List UInt8
 k:Int
 i:Int
structure El where
 mo:Int
 tb:Int
 o:List cN
 ty:Int
 it:List (List cN)
structure Da where
 mo:Int
 me:Int
 o:List cN
 b:List UInt8
structure Cu where
 af:Int
 n:List UInt8
 b:List UInt8
structure Md where
 ts:List Ft
 ims:List Im
 fs:List Cd
 tbs:List Tb
 ms:List Lm
 gs:List Gd
 exs:List Ex
 hs:Bool
 st:Int
 els:List El
 ds:List Da
 cs:List Cu
instance:Inhabited Ft:=⟨⟨[],[]⟩⟩
instance:Inhabited Lm:=⟨⟨0,0,false⟩⟩
instance:Inhabited Gl:=⟨⟨0,false⟩⟩
instance:Inhabited Im:=⟨⟨[],[],0,0,0,default,default,default⟩⟩
instance:Inhabited Cd:=⟨⟨0,[],[]⟩⟩
instance:Inhabited Tb:=⟨⟨0,default⟩⟩
instance:Inhabited Gd:=⟨⟨default,[]⟩⟩
instance:Inhabited Ex:=⟨⟨[],0,0⟩⟩
instance:Inhabited El:=⟨⟨0,0,[],0,[]⟩⟩
instance:Inhabited Da:=⟨⟨0,0,[],[]⟩⟩
instance:Inhabited Cu:=⟨⟨0,[],[]⟩⟩
instance:Inhabited Md:=⟨⟨[],[],[],[],[],[],[],false,0,[],[],[]⟩⟩
def dF (x:Ft):List AV:=[.sl 1 (x.ps.map dI),.sl 1 (x.rs.map dI)]
def eu (x:Lm):List AV:=[.int .i64 x.mn,.int .i64 x.mx,.bool x.hs]
def dy (x:Im):List AV:=[.str x.m,.str x.n,.int .i64 x.k,.int .i64 x.f,.int .i64 x.te,.int .i64 x.tl.mn,.int .i64 x.tl.mx,.bool x.tl.hs,.int .i64 x.me.mn,.int .i64 x.me.mx,.bool x.me.hs,.int .i64 x.g.v,.bool x.g.mu]
def dK (x:Cd):List AV:=[.int .i64 x.t,.sl 1 (x.lo.map dI),.sl 9 (x.b.map aU)]
def ez (x:Tb):List AV:=[.int .i64 x.e,.int .i64 x.l.mn,.int .i64 x.l.mx,.bool x.l.hs]
def ej (x:Gd):List AV:=[.int .i64 x.g.v,.bool x.g.mu,.sl 9 (x.i.map aU)]
def ei (x:Ex):List AV:=[.str x.n,.int .i64 x.k,.int .i64 x.i]
def cU (l:List cN):List AV:=[.sl 9 (l.map aU)]
def dL (x:El):List AV:=[.int .i64 x.mo,.int .i64 x.tb,.sl 9 (x.o.map aU),.int .i64 x.ty,.sl 1 (x.it.map cU)]
def et (x:Da):List AV:=[.int .i64 x.mo,.int .i64 x.me,.sl 9 (x.o.map aU),.sl 1 (x.b.map ni)]
def eB (x:Cu):List AV:=[.int .i64 x.af,.str x.n,.sl 1 (x.b.map ni)]
def kU (x:Md):List AV:=[.sl 2 (x.ts.map dF),.sl 13 (x.ims.map dy),.sl 3 (x.fs.map dK),.sl 4 (x.tbs.map ez),.sl 3 (x.ms.map eu),.sl 3 (x.gs.map ej),.sl 3 (x.exs.map ei),.bool x.hs,.int .i64 x.st,.sl 5 (x.els.map dL),.sl 4 (x.ds.map et),.sl 3 (x.cs.map eB)]
theorem bM (x:Ft):dF x=[.sl 1 (x.ps.map dI),.sl 1 (x.rs.map dI)]:=rfl
theorem cG (x:Lm):eu x=[.int .i64 x.mn,.int .i64 x.mx,.bool x.hs]:=rfl
theorem cm (x:Im):dy x=[.str x.m,.str x.n,.int .i64 x.k,.int .i64 x.f,.int .i64 x.te,.int .i64 x.tl.mn,.int .i64 x.tl.mx,.bool x.tl.hs,.int .i64 x.me.mn,.int .i64 x.me.mx,.bool x.me.hs,.int .i64 x.g.v,.bool x.g.mu]:=rfl
theorem bP (x:Cd):dK x=[.int .i64 x.t,.sl 1 (x.lo.map dI),.sl 9 (x.b.map aU)]:=rfl
theorem cI (x:Tb):ez x=[.int .i64 x.e,.int .i64 x.l.mn,.int .i64 x.l.mx,.bool x.l.hs]:=rfl
theorem cz (x:Gd):ej x=[.int .i64 x.g.v,.bool x.g.mu,.sl 9 (x.i.map aU)]:=rfl
theorem cF (x:Ex):ei x=[.str x.n,.int .i64 x.k,.int .i64 x.i]:=rfl
theorem bN (l:List cN):cU l=[.sl 9 (l.map aU)]:=rfl
theorem bW (x:El):dL x=[.int .i64 x.mo,.int .i64 x.tb,.sl 9 (x.o.map aU),.int .i64 x.ty,.sl 1 (x.it.map cU)]:=rfl
theorem ce (x:Da):et x=[.int .i64 x.mo,.int .i64 x.me,.sl 9 (x.o.map aU),.sl 1 (x.b.map ni)]:=rfl
theorem bR (x:Cu):eB x=[.int .i64 x.af,.str x.n,.sl 1 (x.b.map ni)]:=rfl
theorem f_ (x:Md):kU x=[.sl 2 (x.ts.map dF),.sl 13 (x.ims.map dy),.sl 3 (x.fs.map dK),.sl 4 (x.tbs.map ez),.sl 3 (x.ms.map eu),.sl 3 (x.gs.map ej),.sl 3 (x.exs.map ei),.bool x.hs,.int .i64 x.st,.sl 5 (x.els.map dL),.sl 4 (x.ds.map et),.sl 3 (x.cs.map eB)]:=rfl
def cP (x:Md):AV:=.agg (kU x)
def bL {α:Type} (p:Nat→α→Prop) (B:Nat) (l:List α):Prop:=l.length≤B∧∀a∈l,p B a
def rY {α:Type} (τ:Ty) (f:α→List AV) (p:Nat→α→Prop):Prop:=∀r,τ.ok r→∃a,aC Nd r (f a)∧p maxLen a∧∀B,τ.bd B r→p B a
theorem JC {α:Type} {τ:Ty} {f:α→List AV} {p:Nat→α→Prop} (h:rY τ f p):∀{rows:List (List AV)},(∀r∈rows,τ.ok r)→∃l:List α,aC (aC Nd) rows (l.map f)∧(∀a∈l,p maxLen a)∧∀B,(∀r∈rows,τ.bd B r)→∀a∈l,p B a
 | [],_=>⟨[],trivial,(fun a h=>by cases h),(fun _ _ a h=>by cases h)⟩
 | r :: rows,hr=>by
  obtain ⟨a,h1,h2,h3⟩:=h r (hr r (by simp))
  obtain ⟨l,g1,g2,g3⟩:=JC h (rows:=rows) fun r hr'=>hr r (by simp [hr'])
  refine ⟨a :: l,⟨h1,g1⟩,fun b hb=>?_,fun B hB b hb=>?_⟩
  ·rcases bE.1 hb with rfl | hb
   ·exact h2
   ·exact g2 b hb
  ·rcases bE.1 hb with rfl | hb
   ·exact h3 B (hB r (by simp))
   ·exact g3 B (fun r hr'=>hB r (by simp [hr'])) b hb
theorem oZ {st:Nat} {rows rows':List (List AV)} (h:aC (aC Nd) rows rows'):Nd (.sl st rows) (.sl st rows'):=by
 refine .sl st _ _ h.length (fun i r r' h1 h2=>?_) (fun i j r r' x y h1 h2 h3 h4=>?_)
 ·obtain ⟨a,e1,e2⟩:=h.get h2
  obtain rfl:=Option.some.inj (h1.symm.trans e1)
  exact e2.length
 ·obtain ⟨a,e1,e2⟩:=h.get h2
  obtain rfl:=Option.some.inj (h1.symm.trans e1)
  obtain ⟨b,e3,e4⟩:=e2.get h4
  obtain rfl:=Option.some.inj (h3.symm.trans e3)
  exact e4
theorem pr {α:Type} {τ:Ty} {f:α→List AV} {p:Nat→α→Prop} (h:rY τ f p) {r:List AV} (hr:(Ty.sl τ).ok r):∃x l,r=[x]∧Nd x (.sl τ.n (l.map f))∧bL p maxLen l∧∀B,(Ty.sl τ).bd B [x]→bL p B l:=by
 rcases hr with rfl | ⟨rows,rfl,h2,h3⟩
 ·exact ⟨_,[],rfl,.nl _,⟨cq _,fun a h=>by cases h⟩,fun B _=>⟨cq _,fun a h=>by cases h⟩⟩
 ·obtain ⟨l,g1,g2,g3⟩:=JC h h3
  have hl:=g1.length
  rw [dn] at hl
  refine ⟨_,l,rfl,oZ g1,⟨by omega,g2⟩,fun B hB=>?_⟩
  obtain ⟨q1,q2⟩:=hB _ _ rfl
  exact ⟨by omega,g3 B q2⟩
theorem NG {n:Int} (h:(Lit.int .u8 n).wf=true):0≤n∧n≤255:=by simpa [Lit.wf,IntKind.min,IntKind.max,IntKind.signed,IntKind.bits] using h
theorem wD {n:Int} (h:(Lit.int .u64 n).wf=true):0≤n∧n<18446744073709551616:=by
 have:0≤n∧n≤18446744073709551615:=by simpa [Lit.wf,IntKind.min,IntKind.max,IntKind.signed,IntKind.bits] using h
 omega
def DF {α:Type} (_:Nat) (_:α):Prop:=True
theorem sG:rY (.int .i64) dI DF:=fun r h=>by
 obtain ⟨n,rfl,_⟩:=h
 exact ⟨n,⟨.rfl _,trivial⟩,trivial,fun _ _=>trivial⟩
theorem Je:rY (.int .u8) ni DF:=fun r h=>by
 obtain ⟨n,rfl,hw⟩:=h
 have hn:=NG hw
 refine ⟨UInt8.ofNat n.toNat,?_,trivial,fun _ _=>trivial⟩
 rw [Ou (by omega),show ((n.toNat:Nat):Int)=n by omega]
 exact ⟨.rfl _,trivial⟩
def pA:Ty:=.cons (.int .i64) (.cons (.int .i64) (.cons (.int .i64) (.cons (.int .u64) (.cons (.cons (.int .i64) (.cons (.int .i64) (.cons (.int .i64) .nil))) (.cons (.sl (.int .i64)) (.cons (.sl (.int .i64)) .nil))))))
def pI (B:Nat) (x:cN):Prop:=(0≤x.n∧x.n<18446744073709551616)∧bL DF B x.ty∧bL DF B x.lb
theorem ou:rY pA aU pI:=fun r h=>by
 obtain ⟨_,_,rfl,⟨op,rfl,w_op⟩,_,_,rfl,⟨a,rfl,w_a⟩,_,_,rfl,⟨b,rfl,w_b⟩,_,_,rfl,⟨n,rfl,w_n⟩,_,_,rfl,⟨_,_,rfl,⟨k,rfl,w_k⟩,_,_,rfl,⟨v,rfl,w_v⟩,_,_,rfl,⟨z,rfl,w_z⟩,rfl⟩,_,_,rfl,h_ty,_,_,rfl,h_lb,rfl⟩:=h
 obtain ⟨x_ty,l_ty,rfl,d_ty,m_ty,b_ty⟩:=pr sG h_ty
 obtain ⟨x_lb,l_lb,rfl,d_lb,m_lb,b_lb⟩:=pr sG h_lb
 exact ⟨⟨op,a,b,n,k,v,z,l_ty,l_lb⟩,⟨.rfl _,.rfl _,.rfl _,.rfl _,.rfl _,.rfl _,.rfl _,d_ty,d_lb,trivial⟩,⟨wD w_n,m_ty,m_lb⟩,fun B hB=>⟨wD w_n,b_ty B hB.2.2.2.2.2.1,b_lb B hB.2.2.2.2.2.2.1⟩⟩
def JM:Ty:=.cons (.sl (.int .i64)) (.cons (.sl (.int .i64)) .nil)
def On (B:Nat) (x:Ft):Prop:=bL DF B x.ps∧bL DF B x.rs
theorem K9:rY JM dF On:=fun r h=>by
 obtain ⟨_,_,rfl,h_ps,_,_,rfl,h_rs,rfl⟩:=h
 obtain ⟨x_ps,l_ps,rfl,d_ps,m_ps,b_ps⟩:=pr sG h_ps
 obtain ⟨x_rs,l_rs,rfl,d_rs,m_rs,b_rs⟩:=pr sG h_rs
 exact ⟨⟨l_ps,l_rs⟩,⟨d_ps,d_rs,trivial⟩,⟨m_ps,m_rs⟩,fun B hB=>⟨b_ps B hB.1,b_rs B hB.2.1⟩⟩
def JP:Ty:=.cons (.int .i64) (.cons (.int .i64) (.cons .bool .nil))
def Oq (B:Nat) (x:Lm):Prop:=True
theorem Lb:rY JP eu Oq:=fun r h=>by
 obtain ⟨_,_,rfl,⟨mn,rfl,w_mn⟩,_,_,rfl,⟨mx,rfl,w_mx⟩,_,_,rfl,⟨hs,rfl⟩,rfl⟩:=h
 exact ⟨⟨mn,mx,hs⟩,⟨.rfl _,.rfl _,.rfl _,trivial⟩,trivial,fun B hB=>trivial⟩
def JQ:Ty:=.cons (.int .i64) (.cons (.cons (.int .i64) (.cons (.int .i64) (.cons .bool .nil))) .nil)
def Or (B:Nat) (x:Tb):Prop:=True
theorem Lf:rY JQ ez Or:=fun r h=>by
 obtain ⟨_,_,rfl,⟨e,rfl,w_e⟩,_,_,rfl,⟨_,_,rfl,⟨mn,rfl,w_mn⟩,_,_,rfl,⟨mx,rfl,w_mx⟩,_,_,rfl,⟨hs,rfl⟩,rfl⟩,rfl⟩:=h
 exact ⟨⟨e,⟨mn,mx,hs⟩⟩,⟨.rfl _,.rfl _,.rfl _,.rfl _,trivial⟩,trivial,fun B hB=>trivial⟩
def JO:Ty:=.cons .str (.cons .str (.cons (.int .i64) (.cons (.int .i64) (.cons (.cons (.int .i64) (.cons (.cons (.int .i64) (.cons (.int .i64) (.cons .bool .nil))) .nil)) (.cons (.cons (.int .i64) (.cons (.int .i64) (.cons .bool .nil))) (.cons (.cons (.int .i64) (.cons .bool .nil)) .nil))))))
def FY (B:Nat) (x:Im):Prop:=x.m.length≤B∧x.n.length≤B
theorem La:rY JO dy FY:=fun r h=>by
 obtain ⟨_,_,rfl,⟨m,rfl,w_m⟩,_,_,rfl,⟨n,rfl,w_n⟩,_,_,rfl,⟨k,rfl,w_k⟩,_,_,rfl,⟨f,rfl,w_f⟩,_,_,rfl,⟨_,_,rfl,⟨te,rfl,w_te⟩,_,_,rfl,⟨_,_,rfl,⟨tmn,rfl,w_tmn⟩,_,_,rfl,⟨tmx,rfl,w_tmx⟩,_,_,rfl,⟨ths,rfl⟩,rfl⟩,rfl⟩,_,_,rfl,⟨_,_,rfl,⟨qmn,rfl,w_qmn⟩,_,_,rfl,⟨qmx,rfl,w_qmx⟩,_,_,rfl,⟨qhs,rfl⟩,rfl⟩,_,_,rfl,⟨_,_,rfl,⟨gv,rfl,w_gv⟩,_,_,rfl,⟨gmu,rfl⟩,rfl⟩,rfl⟩:=h
 exact ⟨⟨m,n,k,f,te,⟨tmn,tmx,ths⟩,⟨qmn,qmx,qhs⟩,⟨gv,gmu⟩⟩,⟨.rfl _,.rfl _,.rfl _,.rfl _,.rfl _,.rfl _,.rfl _,.rfl _,.rfl _,.rfl _,.rfl _,.rfl _,.rfl _,trivial⟩,⟨w_m,w_n⟩,fun B hB=>⟨hB.1 _ rfl,hB.2.1 _ rfl⟩⟩
def JH:Ty:=.cons (.int .i64) (.cons (.sl (.int .i64)) (.cons (.sl pA) .nil))
def Oi (B:Nat) (x:Cd):Prop:=bL DF B x.lo∧bL pI B x.b
theorem K4:rY JH dK Oi:=fun r h=>by
 obtain ⟨_,_,rfl,⟨t,rfl,w_t⟩,_,_,rfl,h_lo,_,_,rfl,h_b,rfl⟩:=h
 obtain ⟨x_lo,l_lo,rfl,d_lo,m_lo,b_lo⟩:=pr sG h_lo
 obtain ⟨x_b,l_b,rfl,d_b,m_b,b_b⟩:=pr ou h_b
 exact ⟨⟨t,l_lo,l_b⟩,⟨.rfl _,d_lo,d_b,trivial⟩,⟨m_lo,m_b⟩,fun B hB=>⟨b_lo B hB.2.1,b_b B hB.2.2.1⟩⟩
def JN:Ty:=.cons (.cons (.int .i64) (.cons .bool .nil)) (.cons (.sl pA) .nil)
def Oo (B:Nat) (x:Gd):Prop:=bL pI B x.i
theorem K_:rY JN ej Oo:=fun r h=>by
 obtain ⟨_,_,rfl,⟨_,_,rfl,⟨v,rfl,w_v⟩,_,_,rfl,⟨mu,rfl⟩,rfl⟩,_,_,rfl,h_i,rfl⟩:=h
 obtain ⟨x_i,l_i,rfl,d_i,m_i,b_i⟩:=pr ou h_i
 exact ⟨⟨⟨v,mu⟩,l_i⟩,⟨.rfl _,.rfl _,d_i,trivial⟩,m_i,fun B hB=>b_i B hB.2.1⟩
def JL:Ty:=.cons .str (.cons (.int .i64) (.cons (.int .i64) .nil))
def Om (B:Nat) (x:Ex):Prop:=x.n.length≤B
theorem K8:rY JL ei Om:=fun r h=>by
 obtain ⟨_,_,rfl,⟨n,rfl,w_n⟩,_,_,rfl,⟨k,rfl,w_k⟩,_,_,rfl,⟨i,rfl,w_i⟩,rfl⟩:=h
 exact ⟨⟨n,k,i⟩,⟨.rfl _,.rfl _,.rfl _,trivial⟩,w_n,fun B hB=>hB.1 _ rfl⟩
theorem Gj:rY (.sl pA) cU (bL pI):=fun r h=>by
 obtain ⟨x,l,rfl,d,m,b⟩:=pr ou h
 exact ⟨l,⟨d,trivial⟩,m,fun B hB=>b B hB⟩
def JK:Ty:=.cons (.int .i64) (.cons (.int .i64) (.cons (.sl pA) (.cons (.int .i64) (.cons (.sl (.sl pA)) .nil))))
def Ol (B:Nat) (x:El):Prop:=bL pI B x.o∧bL (bL pI) B x.it
theorem K7:rY JK dL Ol:=fun r h=>by
 obtain ⟨_,_,rfl,⟨mo,rfl,w_mo⟩,_,_,rfl,⟨tb,rfl,w_tb⟩,_,_,rfl,h_o,_,_,rfl,⟨ty,rfl,w_ty⟩,_,_,rfl,h_it,rfl⟩:=h
 obtain ⟨x_o,l_o,rfl,d_o,m_o,b_o⟩:=pr ou h_o
 obtain ⟨x_it,l_it,rfl,d_it,m_it,b_it⟩:=pr Gj h_it
 exact ⟨⟨mo,tb,l_o,ty,l_it⟩,⟨.rfl _,.rfl _,d_o,.rfl _,d_it,trivial⟩,⟨m_o,m_it⟩,fun B hB=>⟨b_o B hB.2.2.1,b_it B hB.2.2.2.2.1⟩⟩
def JJ:Ty:=.cons (.int .i64) (.cons (.int .i64) (.cons (.sl pA) (.cons (.sl (.int .u8)) .nil)))
def Ok (B:Nat) (x:Da):Prop:=bL pI B x.o∧bL DF B x.b
theorem K6:rY JJ et Ok:=fun r h=>by
 obtain ⟨_,_,rfl,⟨mo,rfl,w_mo⟩,_,_,rfl,⟨me,rfl,w_me⟩,_,_,rfl,h_o,_,_,rfl,h_b,rfl⟩:=h
 obtain ⟨x_o,l_o,rfl,d_o,m_o,b_o⟩:=pr ou h_o
 obtain ⟨x_b,l_b,rfl,d_b,m_b,b_b⟩:=pr Je h_b
 exact ⟨⟨mo,me,l_o,l_b⟩,⟨.rfl _,.rfl _,d_o,d_b,trivial⟩,⟨m_o,m_b⟩,fun B hB=>⟨b_o B hB.2.2.1,b_b B hB.2.2.2.1⟩⟩
def JI:Ty:=.cons (.int .i64) (.cons .str (.cons (.sl (.int .u8)) .nil))
def Oj (B:Nat) (x:Cu):Prop:=x.n.length≤B∧bL DF B x.b
theorem K5:rY JI eB Oj:=fun r h=>by
 obtain ⟨_,_,rfl,⟨af,rfl,w_af⟩,_,_,rfl,⟨n,rfl,w_n⟩,_,_,rfl,h_b,rfl⟩:=h
 obtain ⟨x_b,l_b,rfl,d_b,m_b,b_b⟩:=pr Je h_b
 exact ⟨⟨af,n,l_b⟩,⟨.rfl _,.rfl _,d_b,trivial⟩,⟨w_n,m_b⟩,fun B hB=>⟨hB.2.1 _ rfl,b_b B hB.2.2.1⟩⟩
def tN:Ty:=.cons (.sl JM) (.cons (.sl JO) (.cons (.sl JH) (.cons (.sl JQ) (.cons (.sl JP) (.cons (.sl JN) (.cons (.sl JL) (.cons .bool (.cons (.int .i64) (.cons (.sl JK) (.cons (.sl JJ) (.cons (.sl JI) .nil)))))))))))
def AW (B:Nat) (x:Md):Prop:=bL On B x.ts∧bL FY B x.ims∧bL Oi B x.fs∧bL Or B x.tbs∧bL Oq B x.ms∧bL Oo B x.gs∧bL Om B x.exs∧bL Ol B x.els∧bL Ok B x.ds∧bL Oj B x.cs
theorem Le:rY tN kU AW:=fun r h=>by
 obtain ⟨_,_,rfl,h_ts,_,_,rfl,h_ims,_,_,rfl,h_fs,_,_,rfl,h_tbs,_,_,rfl,h_ms,_,_,rfl,h_gs,_,_,rfl,h_exs,_,_,rfl,⟨hs,rfl⟩,_,_,rfl,⟨st,rfl,w_st⟩,_,_,rfl,h_els,_,_,rfl,h_ds,_,_,rfl,h_cs,rfl⟩:=h
 obtain ⟨x_ts,l_ts,rfl,d_ts,m_ts,b_ts⟩:=pr K9 h_ts
 obtain ⟨x_ims,l_ims,rfl,d_ims,m_ims,b_ims⟩:=pr La h_ims
 obtain ⟨x_fs,l_fs,rfl,d_fs,m_fs,b_fs⟩:=pr K4 h_fs
 obtain ⟨x_tbs,l_tbs,rfl,d_tbs,m_tbs,b_tbs⟩:=pr Lf h_tbs
 obtain ⟨x_ms,l_ms,rfl,d_ms,m_ms,b_ms⟩:=pr Lb h_ms
 obtain ⟨x_gs,l_gs,rfl,d_gs,m_gs,b_gs⟩:=pr K_ h_gs
 obtain ⟨x_exs,l_exs,rfl,d_exs,m_exs,b_exs⟩:=pr K8 h_exs
 obtain ⟨x_els,l_els,rfl,d_els,m_els,b_els⟩:=pr K7 h_els
 obtain ⟨x_ds,l_ds,rfl,d_ds,m_ds,b_ds⟩:=pr K6 h_ds
 obtain ⟨x_cs,l_cs,rfl,d_cs,m_cs,b_cs⟩:=pr K5 h_cs
 exact ⟨⟨l_ts,l_ims,l_fs,l_tbs,l_ms,l_gs,l_exs,hs,st,l_els,l_ds,l_cs⟩,⟨d_ts,d_ims,d_fs,d_tbs,d_ms,d_gs,d_exs,.rfl _,.rfl _,d_els,d_ds,d_cs,trivial⟩,⟨m_ts,m_ims,m_fs,m_tbs,m_ms,m_gs,m_exs,m_els,m_ds,m_cs⟩,fun B hB=>⟨b_ts B hB.1,b_ims B hB.2.1,b_fs B hB.2.2.1,b_tbs B hB.2.2.2.1,b_ms B hB.2.2.2.2.1,b_gs B hB.2.2.2.2.2.1,b_exs B hB.2.2.2.2.2.2.1,b_els B hB.2.2.2.2.2.2.2.2.2.1,b_ds B hB.2.2.2.2.2.2.2.2.2.2.1,b_cs B hB.2.2.2.2.2.2.2.2.2.2.2.1⟩⟩
theorem UV {α:Type} {τ:Ty} {f:α→List AV} {p:Nat→α→Prop} (h:rY τ f p) (hr:τ.isRec=true) {x:AV} (hx:τ.okV x):∃a,My x (.agg (f a))∧p maxLen a∧∀B,τ.bdV B x→p B a:=by
 unfold Ty.okV at hx
 rw [hr] at hx
 obtain ⟨xs,rfl,hx⟩:=hx
 obtain ⟨a,h1,h2,h3⟩:=h xs hx
 refine ⟨a,.inr ⟨_,_,rfl,rfl,h1⟩,h2,fun B hB=>h3 B ?_⟩
 unfold Ty.bdV at hB
 rw [hr] at hB
 exact hB _ rfl
theorem UM {τ:Ty} {xs:List AV} (h:aC Ty.okV [τ] xs):∃x,xs=[x]∧τ.okV x:=by
 match xs,h with
 | [x],h=>exact ⟨x,rfl,h.1⟩
theorem Ro:jL Tryz.prog 9 33=some tN:=by kernel_rfl
section
theorem ct (id:Nat) (t:TypeId) (st:Nat) (ys:List (List AV)):xc id t st 0 0 ys (some ⟨t,st,[],false⟩) =
  if ys.length<137438953472∧(0:Nat)<137438953472∧(id<1000∨1267650600228229401496703205376≤id) then some (.ms id st 0 (0+ys.length),.reb id ⟨t,st,ys,false⟩) else none:=by
 have h:=br id t st 0 (fun _:Unit=>([]:List AV)) [] ys rfl
 simpa using h
def Pj (x:cN):Prop:=x.ty.length≤1048576∧x.lb.length≤1048576∧0≤x.n
def lD (l:List cN):Prop:=l.length≤1048576∧∀x∈l,Pj x
def Pi (x:Ft):Prop:=x.ps.length≤1048576∧x.rs.length≤1048576
def Bg (x:Cd):Prop:=x.lo.length≤1048576∧lD x.b
def Bl (x:Gd):Prop:=lD x.i
def Bj (x:El):Prop:=lD x.o∧x.it.length≤1048576∧∀l∈x.it,lD l
def Bi (x:Da):Prop:=lD x.o∧x.b.length≤1048576
def Bh (x:Cu):Prop:=x.b.length≤1048576
structure KU (m:Md):Prop where
 ts:m.ts.length≤1048576∧∀x∈m.ts,Pi x
 ims:m.ims.length≤1048576
 fs:m.fs.length≤1048576∧∀x∈m.fs,Bg x
 tbs:m.tbs.length≤1048576
 ms:m.ms.length≤1048576
 gs:m.gs.length≤1048576∧∀x∈m.gs,Bl x
 exs:m.exs.length≤1048576
 els:m.els.length≤1048576∧∀x∈m.els,Bj x
 ds:m.ds.length≤1048576∧∀x∈m.ds,Bi x
 cs:m.cs.length≤1048576∧∀x∈m.cs,Bh x
def EA (x:cN):Prop:=x.ty.length≤9223372036854775807∧x.lb.length≤9223372036854775807∧0≤x.n
def tI (l:List cN):Prop:=l.length≤9223372036854775807∧∀x∈l,EA x
def NY (x:Ft):Prop:=x.ps.length≤9223372036854775807∧x.rs.length≤9223372036854775807
def yS (x:Cd):Prop:=x.lo.length≤9223372036854775807∧tI x.b
def IP (x:Gd):Prop:=tI x.i
def Ez (x:El):Prop:=tI x.o∧x.it.length≤140737488355328∧∀l∈x.it,tI l
def Ey (x:Da):Prop:=tI x.o∧x.b.length≤9223372036854775807
def U6 (x:Cu):Prop:=x.b.length≤9223372036854775807
structure Nr (m:Md):Prop where
 ts:m.ts.length≤140737488355328∧∀x∈m.ts,NY x
 ims:m.ims.length≤140737488355328
 fs:m.fs.length≤140737488355328∧∀x∈m.fs,yS x
 tbs:m.tbs.length≤140737488355328
 ms:m.ms.length≤140737488355328
 gs:m.gs.length≤140737488355328∧∀x∈m.gs,IP x
 exs:m.exs.length≤140737488355328
 els:m.els.length≤140737488355328∧∀x∈m.els,Ez x
 ds:m.ds.length≤140737488355328∧∀x∈m.ds,Ey x
 cs:m.cs.length≤140737488355328∧∀x∈m.cs,U6 x
theorem aX {α:Type} [Inhabited α] {p:α→Prop} {l:List α} (h:∀x∈l,p x) {i:Nat} (hi:i<l.length):p (aj l i):=by
 rw [cw hi];exact h _ (List.getElem_mem hi)
theorem eA {α:Type} [Inhabited α] {l:List α} {i:Nat} (h:i<l.length):l.take (i+1)=l.take i++[aj l i]:=by rw [List.take_add_one,dj h,Option.toList_some]
attribute [local go_sem] dn
theorem qZ (rows:List (List AV)) (h:rows.length≤1048576):ak Tryz.prog Ur [.sl 1 rows] (.sl 1 rows):=by
 refine ah (ic:=N6.body) ap Vl rfl rfl ?_
 have ha:=ct 5 49 1 rows
 simp only [go_sem,N6]
 refine dM _ _ _ _ ⟨?_,fun h0=>?_⟩
 ·simp only [go_sem,ha]
  refine ⟨by omega,aL [5] ?_ rfl⟩
  simp only [go_sem,bD]
  rw [eM]
 ·subst h0
  simp only [go_sem]
  exact kr (Wk.nls _ 2 1 (by simp only [go_sem])) [] (by first | rfl | simp only [go_sem]) rfl
theorem KO (rows:List (List AV)) (h:rows.length≤1048576):ak Tryz.prog Vu [.sl 13 rows] (.sl 13 rows):=by
 refine ah (ic:=N3.body) ap Vi rfl rfl ?_
 have ha:=ct 5 57 13 rows
 simp only [go_sem,N3]
 refine dM _ _ _ _ ⟨?_,fun h0=>?_⟩
 ·simp only [go_sem,ha]
  refine ⟨by omega,aL [5] ?_ rfl⟩
  simp only [go_sem,bD]
  rw [eM]
 ·subst h0
  simp only [go_sem]
  exact kr (Wk.nls _ 2 13 (by simp only [go_sem])) [] (by first | rfl | simp only [go_sem]) rfl
theorem KR (rows:List (List AV)) (h:rows.length≤1048576):ak Tryz.prog Vw [.sl 4 rows] (.sl 4 rows):=by
 refine ah (ic:=N5.body) ap Vk rfl rfl ?_
 have ha:=ct 5 53 4 rows
 simp only [go_sem,N5]
 refine dM _ _ _ _ ⟨?_,fun h0=>?_⟩
 ·simp only [go_sem,ha]
  refine ⟨by omega,aL [5] ?_ rfl⟩
  simp only [go_sem,bD]
  rw [eM]
 ·subst h0
  simp only [go_sem]
  exact kr (Wk.nls _ 2 4 (by simp only [go_sem])) [] (by first | rfl | simp only [go_sem]) rfl
theorem KQ (rows:List (List AV)) (h:rows.length≤1048576):ak Tryz.prog Vv [.sl 3 rows] (.sl 3 rows):=by
 refine ah (ic:=N4.body) ap Vj rfl rfl ?_
 have ha:=ct 5 51 3 rows
 simp only [go_sem,N4]
 refine dM _ _ _ _ ⟨?_,fun h0=>?_⟩
 ·simp only [go_sem,ha]
  refine ⟨by omega,aL [5] ?_ rfl⟩
  simp only [go_sem,bD]
  rw [eM]
 ·subst h0
  simp only [go_sem]
  exact kr (Wk.nls _ 2 3 (by simp only [go_sem])) [] (by first | rfl | simp only [go_sem]) rfl
theorem KN (rows:List (List AV)) (h:rows.length≤1048576):ak Tryz.prog Vt [.sl 3 rows] (.sl 3 rows):=by
 refine ah (ic:=N2.body) ap Vh rfl rfl ?_
 have ha:=ct 5 64 3 rows
 simp only [go_sem,N2]
 refine dM _ _ _ _ ⟨?_,fun h0=>?_⟩
 ·simp only [go_sem,ha]
  refine ⟨by omega,aL [5] ?_ rfl⟩
  simp only [go_sem,bD]
  rw [eM]
 ·subst h0
  simp only [go_sem]
  exact kr (Wk.nls _ 2 3 (by simp only [go_sem])) [] (by first | rfl | simp only [go_sem]) rfl
theorem Ba (rows:List (List AV)) (h:rows.length≤1048576):ak Tryz.prog Mr [.sl 1 rows] (.sl 1 rows):=by
 refine ah (ic:=zm.body) ap OF rfl rfl ?_
 have ha:=ct 5 5 1 rows
 simp only [go_sem,zm]
 refine dM _ _ _ _ ⟨?_,fun h0=>?_⟩
 ·simp only [go_sem,ha]
  refine ⟨by omega,aL [5] ?_ rfl⟩
  simp only [go_sem,bD]
  rw [eM]
 ·subst h0
  simp only [go_sem]
  exact kr (Wk.nls _ 2 1 (by simp only [go_sem])) [] (by first | rfl | simp only [go_sem]) rfl
theorem KP (rows:List (List AV)) (h:rows.length≤1048576):ak Tryz.prog QA [.sl 1 rows] (.sl 1 rows):=by
 refine ah (ic:=zC.body) ap O6 rfl rfl ?_
 have ha:=ct 5 3 1 rows
 simp only [go_sem,zC]
 refine dM _ _ _ _ ⟨?_,fun h0=>?_⟩
 ·simp only [go_sem,ha]
  refine ⟨by omega,aL [5] ?_ rfl⟩
  simp only [go_sem,bD]
  rw [eM]
 ·subst h0
  simp only [go_sem]
  exact kr (Wk.nls _ 2 1 (by simp only [go_sem])) [] (by first | rfl | simp only [go_sem]) rfl
theorem Tm (x:Ft) (h:Pi x):ak Tryz.prog yq [.agg (dF x)] (.agg (dF x)):=by
 refine ah (ic:=zM.body) ap Pb rfl rfl ?_
 simp only [go_sem,zM,bM]
 refine aQ (qZ (x.ps.map dI) (by rw [dn];exact h.1)) (by simp [go_sem]) rfl ?_
 simp only [go_sem]
 refine aa (qZ (x.rs.map dI) (by rw [dn];exact h.2)) ?_
 simp only [go_sem]
 exact aL [] (by simp only [go_sem,bM]) (by first | rfl | simp [go_sem,b_])
theorem Tt (x:cN) (h:Pj x):ak Tryz.prog qz [.agg (aU x)] (.agg (aU x)):=by
 refine ah (ic:=r6.body) ap Jb rfl rfl ?_
 simp only [go_sem,r6,aU]
 refine aQ (qZ (x.ty.map dI) (by rw [dn];exact h.1)) (by simp [go_sem]) rfl ?_
 simp only [go_sem]
 refine aQ (KP (x.lb.map dI) (by rw [dn];exact h.2.1)) (by simp [go_sem]) rfl ?_
 simp only [go_sem]
 exact aL [] (by simp only [go_sem,aU]) (by first | rfl | simp [go_sem,b_])
theorem K0 (l:List (cN)) (hl:l.length≤1048576) (hx:∀x∈l,Pj x):ak Tryz.prog QB [.sl 9 (l.map aU),.fn qz []] (.sl 9 (l.map aU)):=by
 refine ah (ic:=zD.body) ap O7 rfl rfl ?_
 simp only [go_sem,zD]
 refine an (fun i:Nat=>⟨[(10,.int .i64 i),(9,.int .i64 l.length),(8,.sl 9 (l.map aU)),(5,.ms 900 9 0 i),(1,.fn qz [])],[(900,⟨79,9,(l.take i).map aU,false⟩)]⟩) (fun i=>i≤l.length) (fun i=>l.length - i) 0 (cq _) ((Wk.nil _ 5 900 9 79 (by simp only [go_sem]) (.inl (by decide))).trans (Wk.of ?_ ?_)) ?_
 ·simp only [go_sem,St.mknil];try simp [go_sem]
 ·simp only [go_sem,St.mknil,dN];try simp [go_sem]
 intro i hi
 have hil:(l.take i).length=i:=by simp;omega
 have happ:=fun ys=>br 900 79 9 i aU (l.take i) ys hil
 by_cases h1:(i:Int)<(l.length:Int)
 ·have hi':i<l.length:=by omega
  have e8:=wi (n:=(i:Int)+1) (by omega) (by omega)
  have cc:=Tt (aj l i) (aX hx hi')
  try simp only [aU] at cc
  simp only [go_sem,az h1,aU]
  refine ⟨by omega,h1,by kernel_rfl,?_⟩
  refine aa (cc) ?_
  simp only [go_sem,happ]
  refine ⟨by omega,aA (i+1) (show i+1≤l.length by omega) (show l.length - (i+1)<l.length - i by omega) (Wk.of ?_ ?_)⟩
  ·simp only [go_sem,e8];try simp
  ·simp only [go_sem,eA hi',List.map_append];try simp [aU]
 ·obtain rfl:i=l.length:=by omega
  simp only [go_sem,au h1]
  refine aL [900] ?_ rfl
  simp only [go_sem,eM,bD]
  rw [kv (by simp)]
theorem k9 (l:List cN) (h:lD l):ak Tryz.prog qA [.sl 9 (l.map aU)] (.sl 9 (l.map aU)):=by
 refine ah (ic:=sa.body) ap Jd rfl rfl ?_
 simp only [go_sem,sa]
 refine aa (K0 l h.1 h.2) ?_
 simp only [go_sem]
 exact ae
theorem Ge (l:List (List cN)) (hl:l.length≤1048576) (hx:∀x∈l,lD x):ak Tryz.prog Qt [.sl 1 (l.map cU),.fn qA []] (.sl 1 (l.map cU)):=by
 refine ah (ic:=zA.body) ap O4 rfl rfl ?_
 simp only [go_sem,zA]
 refine an (fun i:Nat=>⟨[(10,.int .i64 i),(9,.int .i64 l.length),(8,.sl 1 (l.map cU)),(5,.ms 900 1 0 i),(1,.fn qA [])],[(900,⟨58,1,(l.take i).map cU,false⟩)]⟩) (fun i=>i≤l.length) (fun i=>l.length - i) 0 (cq _) ((Wk.nil _ 5 900 1 58 (by simp only [go_sem]) (.inl (by decide))).trans (Wk.of ?_ ?_)) ?_
 ·simp only [go_sem,St.mknil];try simp [go_sem]
 ·simp only [go_sem,St.mknil,dN];try simp [go_sem]
 intro i hi
 have hil:(l.take i).length=i:=by simp;omega
 have happ:=fun ys=>br 900 58 1 i cU (l.take i) ys hil
 by_cases h1:(i:Int)<(l.length:Int)
 ·have hi':i<l.length:=by omega
  have e8:=wi (n:=(i:Int)+1) (by omega) (by omega)
  have cc:=k9 (aj l i) (aX hx hi')
  try simp only [bN] at cc
  simp only [go_sem,az h1,bN]
  refine ⟨by omega,h1,by kernel_rfl,?_⟩
  refine aa (cc) ?_
  simp only [go_sem,happ]
  refine ⟨by omega,aA (i+1) (show i+1≤l.length by omega) (show l.length - (i+1)<l.length - i by omega) (Wk.of ?_ ?_)⟩
  ·simp only [go_sem,e8];try simp
  ·simp only [go_sem,eA hi',List.map_append];try simp [bN]
 ·obtain rfl:i=l.length:=by omega
  simp only [go_sem,au h1]
  refine aL [900] ?_ rfl
  simp only [go_sem,eM,bD]
  rw [kv (by simp)]
theorem Gb (l:List (Ft)) (hl:l.length≤1048576) (hx:∀x∈l,Pi x):ak Tryz.prog QG [.sl 2 (l.map dF),.fn yq []] (.sl 2 (l.map dF)):=by
 refine ah (ic:=zH.body) ap Pa rfl rfl ?_
 simp only [go_sem,zH]
 refine an (fun i:Nat=>⟨[(10,.int .i64 i),(9,.int .i64 l.length),(8,.sl 2 (l.map dF)),(5,.ms 900 2 0 i),(1,.fn yq [])],[(900,⟨47,2,(l.take i).map dF,false⟩)]⟩) (fun i=>i≤l.length) (fun i=>l.length - i) 0 (cq _) ((Wk.nil _ 5 900 2 47 (by simp only [go_sem]) (.inl (by decide))).trans (Wk.of ?_ ?_)) ?_
 ·simp only [go_sem,St.mknil];try simp [go_sem]
 ·simp only [go_sem,St.mknil,dN];try simp [go_sem]
 intro i hi
 have hil:(l.take i).length=i:=by simp;omega
 have happ:=fun ys=>br 900 47 2 i dF (l.take i) ys hil
 by_cases h1:(i:Int)<(l.length:Int)
 ·have hi':i<l.length:=by omega
  have e8:=wi (n:=(i:Int)+1) (by omega) (by omega)
  have cc:=Tm (aj l i) (aX hx hi')
  try simp only [bM] at cc
  simp only [go_sem,az h1,bM]
  refine ⟨by omega,h1,by kernel_rfl,?_⟩
  refine aa (cc) ?_
  simp only [go_sem,happ]
  refine ⟨by omega,aA (i+1) (show i+1≤l.length by omega) (show l.length - (i+1)<l.length - i by omega) (Wk.of ?_ ?_)⟩
  ·simp only [go_sem,e8];try simp
  ·simp only [go_sem,eA hi',List.map_append];try simp [bM]
 ·obtain rfl:i=l.length:=by omega
  simp only [go_sem,au h1]
  refine aL [900] ?_ rfl
  simp only [go_sem,eM,bD]
  rw [kv (by simp)]
theorem Tn (x:Cd) (h:Bg x):ak Tryz.prog yr [.agg (dK x)] (.agg (dK x)):=by
 refine ah (ic:=zN.body) ap Pc rfl rfl ?_
 simp only [go_sem,zN,bP]
 refine aQ (qZ (x.lo.map dI) (by rw [dn];exact h.1)) (by simp [go_sem]) rfl ?_
 simp only [go_sem]
 refine aQ (k9 x.b h.2) (by simp [go_sem]) rfl ?_
 simp only [go_sem]
 exact aL [] (by simp only [go_sem,bP]) (by first | rfl | simp [go_sem,b_])
theorem F8 (l:List (Cd)) (hl:l.length≤1048576) (hx:∀x∈l,Bg x):ak Tryz.prog QD [.sl 3 (l.map dK),.fn yr []] (.sl 3 (l.map dK)):=by
 refine ah (ic:=zE.body) ap O8 rfl rfl ?_
 simp only [go_sem,zE]
 refine an (fun i:Nat=>⟨[(10,.int .i64 i),(9,.int .i64 l.length),(8,.sl 3 (l.map dK)),(5,.ms 900 3 0 i),(1,.fn yr [])],[(900,⟨60,3,(l.take i).map dK,false⟩)]⟩) (fun i=>i≤l.length) (fun i=>l.length - i) 0 (cq _) ((Wk.nil _ 5 900 3 60 (by simp only [go_sem]) (.inl (by decide))).trans (Wk.of ?_ ?_)) ?_
 ·simp only [go_sem,St.mknil];try simp [go_sem]
 ·simp only [go_sem,St.mknil,dN];try simp [go_sem]
 intro i hi
 have hil:(l.take i).length=i:=by simp;omega
 have happ:=fun ys=>br 900 60 3 i dK (l.take i) ys hil
 by_cases h1:(i:Int)<(l.length:Int)
 ·have hi':i<l.length:=by omega
  have e8:=wi (n:=(i:Int)+1) (by omega) (by omega)
  have cc:=Tn (aj l i) (aX hx hi')
  try simp only [bP] at cc
  simp only [go_sem,az h1,bP]
  refine ⟨by omega,h1,by kernel_rfl,?_⟩
  refine aa (cc) ?_
  simp only [go_sem,happ]
  refine ⟨by omega,aA (i+1) (show i+1≤l.length by omega) (show l.length - (i+1)<l.length - i by omega) (Wk.of ?_ ?_)⟩
  ·simp only [go_sem,e8];try simp
  ·simp only [go_sem,eA hi',List.map_append];try simp [bP]
 ·obtain rfl:i=l.length:=by omega
  simp only [go_sem,au h1]
  refine aL [900] ?_ rfl
  simp only [go_sem,eM,bD]
  rw [kv (by simp)]
theorem To (x:Gd) (h:Bl x):ak Tryz.prog yt [.agg (ej x)] (.agg (ej x)):=by
 refine ah (ic:=zO.body) ap Pd rfl rfl ?_
 simp only [go_sem,zO,cz]
 refine aQ (k9 x.i h) (by simp [go_sem]) rfl ?_
 simp only [go_sem]
 exact aL [] (by simp only [go_sem,cz]) (by first | rfl | simp [go_sem,b_])
theorem Gc (l:List (Gd)) (hl:l.length≤1048576) (hx:∀x∈l,Bl x):ak Tryz.prog Vy [.sl 3 (l.map ej),.fn yt []] (.sl 3 (l.map ej)):=by
 refine ah (ic:=N7.body) ap Vm rfl rfl ?_
 simp only [go_sem,N7]
 refine an (fun i:Nat=>⟨[(10,.int .i64 i),(9,.int .i64 l.length),(8,.sl 3 (l.map ej)),(5,.ms 900 3 0 i),(1,.fn yt [])],[(900,⟨62,3,(l.take i).map ej,false⟩)]⟩) (fun i=>i≤l.length) (fun i=>l.length - i) 0 (cq _) ((Wk.nil _ 5 900 3 62 (by simp only [go_sem]) (.inl (by decide))).trans (Wk.of ?_ ?_)) ?_
 ·simp only [go_sem,St.mknil];try simp [go_sem]
 ·simp only [go_sem,St.mknil,dN];try simp [go_sem]
 intro i hi
 have hil:(l.take i).length=i:=by simp;omega
 have happ:=fun ys=>br 900 62 3 i ej (l.take i) ys hil
 by_cases h1:(i:Int)<(l.length:Int)
 ·have hi':i<l.length:=by omega
  have e8:=wi (n:=(i:Int)+1) (by omega) (by omega)
  have cc:=To (aj l i) (aX hx hi')
  try simp only [cz] at cc
  simp only [go_sem,az h1,cz]
  refine ⟨by omega,h1,by kernel_rfl,?_⟩
  refine aa (cc) ?_
  simp only [go_sem,happ]
  refine ⟨by omega,aA (i+1) (show i+1≤l.length by omega) (show l.length - (i+1)<l.length - i by omega) (Wk.of ?_ ?_)⟩
  ·simp only [go_sem,e8];try simp
  ·simp only [go_sem,eA hi',List.map_append];try simp [cz]
 ·obtain rfl:i=l.length:=by omega
  simp only [go_sem,au h1]
  refine aL [900] ?_ rfl
  simp only [go_sem,eM,bD]
  rw [kv (by simp)]
theorem Tp (x:El) (h:Bj x):ak Tryz.prog yu [.agg (dL x)] (.agg (dL x)):=by
 refine ah (ic:=zP.body) ap Pe rfl rfl ?_
 simp only [go_sem,zP,bW]
 refine aQ (k9 x.o h.1) (by simp [go_sem]) rfl ?_
 simp only [go_sem]
 refine aQ (Ge x.it h.2.1 h.2.2) (by simp [go_sem]) rfl ?_
 simp only [go_sem]
 exact aL [] (by simp only [go_sem,bW]) (by first | rfl | simp [go_sem,b_])
theorem Ga (l:List (El)) (hl:l.length≤1048576) (hx:∀x∈l,Bj x):ak Tryz.prog QF [.sl 5 (l.map dL),.fn yu []] (.sl 5 (l.map dL)):=by
 refine ah (ic:=zG.body) ap O_ rfl rfl ?_
 simp only [go_sem,zG]
 refine an (fun i:Nat=>⟨[(10,.int .i64 i),(9,.int .i64 l.length),(8,.sl 5 (l.map dL)),(5,.ms 900 5 0 i),(1,.fn yu [])],[(900,⟨66,5,(l.take i).map dL,false⟩)]⟩) (fun i=>i≤l.length) (fun i=>l.length - i) 0 (cq _) ((Wk.nil _ 5 900 5 66 (by simp only [go_sem]) (.inl (by decide))).trans (Wk.of ?_ ?_)) ?_
 ·simp only [go_sem,St.mknil];try simp [go_sem]
 ·simp only [go_sem,St.mknil,dN];try simp [go_sem]
 intro i hi
 have hil:(l.take i).length=i:=by simp;omega
 have happ:=fun ys=>br 900 66 5 i dL (l.take i) ys hil
 by_cases h1:(i:Int)<(l.length:Int)
 ·have hi':i<l.length:=by omega
  have e8:=wi (n:=(i:Int)+1) (by omega) (by omega)
  have cc:=Tp (aj l i) (aX hx hi')
  try simp only [bW] at cc
  simp only [go_sem,az h1,bW]
  refine ⟨by omega,h1,by kernel_rfl,?_⟩
  refine aa (cc) ?_
  simp only [go_sem,happ]
  refine ⟨by omega,aA (i+1) (show i+1≤l.length by omega) (show l.length - (i+1)<l.length - i by omega) (Wk.of ?_ ?_)⟩
  ·simp only [go_sem,e8];try simp
  ·simp only [go_sem,eA hi',List.map_append];try simp [bW]
 ·obtain rfl:i=l.length:=by omega
  simp only [go_sem,au h1]
  refine aL [900] ?_ rfl
  simp only [go_sem,eM,bD]
  rw [kv (by simp)]
theorem Tq (x:Da) (h:Bi x):ak Tryz.prog yw [.agg (et x)] (.agg (et x)):=by
 refine ah (ic:=zQ.body) ap Pf rfl rfl ?_
 simp only [go_sem,zQ,ce]
 refine aQ (k9 x.o h.1) (by simp [go_sem]) rfl ?_
 simp only [go_sem]
 refine aQ (Ba (x.b.map ni) (by rw [dn];exact h.2)) (by simp [go_sem]) rfl ?_
 simp only [go_sem]
 exact aL [] (by simp only [go_sem,ce]) (by first | rfl | simp [go_sem,b_])
theorem F_ (l:List (Da)) (hl:l.length≤1048576) (hx:∀x∈l,Bi x):ak Tryz.prog QE [.sl 4 (l.map et),.fn yw []] (.sl 4 (l.map et)):=by
 refine ah (ic:=zF.body) ap O9 rfl rfl ?_
 simp only [go_sem,zF]
 refine an (fun i:Nat=>⟨[(10,.int .i64 i),(9,.int .i64 l.length),(8,.sl 4 (l.map et)),(5,.ms 900 4 0 i),(1,.fn yw [])],[(900,⟨69,4,(l.take i).map et,false⟩)]⟩) (fun i=>i≤l.length) (fun i=>l.length - i) 0 (cq _) ((Wk.nil _ 5 900 4 69 (by simp only [go_sem]) (.inl (by decide))).trans (Wk.of ?_ ?_)) ?_
 ·simp only [go_sem,St.mknil];try simp [go_sem]
 ·simp only [go_sem,St.mknil,dN];try simp [go_sem]
 intro i hi
 have hil:(l.take i).length=i:=by simp;omega
 have happ:=fun ys=>br 900 69 4 i et (l.take i) ys hil
 by_cases h1:(i:Int)<(l.length:Int)
 ·have hi':i<l.length:=by omega
  have e8:=wi (n:=(i:Int)+1) (by omega) (by omega)
  have cc:=Tq (aj l i) (aX hx hi')
  try simp only [ce] at cc
  simp only [go_sem,az h1,ce]
  refine ⟨by omega,h1,by kernel_rfl,?_⟩
  refine aa (cc) ?_
  simp only [go_sem,happ]
  refine ⟨by omega,aA (i+1) (show i+1≤l.length by omega) (show l.length - (i+1)<l.length - i by omega) (Wk.of ?_ ?_)⟩
  ·simp only [go_sem,e8];try simp
  ·simp only [go_sem,eA hi',List.map_append];try simp [ce]
 ·obtain rfl:i=l.length:=by omega
  simp only [go_sem,au h1]
  refine aL [900] ?_ rfl
  simp only [go_sem,eM,bD]
  rw [kv (by simp)]
theorem Ts (x:Cu) (h:Bh x):ak Tryz.prog yx [.agg (eB x)] (.agg (eB x)):=by
 refine ah (ic:=zR.body) ap Pg rfl rfl ?_
 simp only [go_sem,zR,bR]
 refine aa (Ba (x.b.map ni) (by rw [dn];exact h)) ?_
 simp only [go_sem]
 exact aL [] (by simp only [go_sem,bR]) (by first | rfl | simp [go_sem,b_])
theorem F9 (l:List (Cu)) (hl:l.length≤1048576) (hx:∀x∈l,Bh x):ak Tryz.prog Qu [.sl 3 (l.map eB),.fn yx []] (.sl 3 (l.map eB)):=by
 refine ah (ic:=zB.body) ap O5 rfl rfl ?_
 simp only [go_sem,zB]
 refine an (fun i:Nat=>⟨[(10,.int .i64 i),(9,.int .i64 l.length),(8,.sl 3 (l.map eB)),(5,.ms 900 3 0 i),(1,.fn yx [])],[(900,⟨71,3,(l.take i).map eB,false⟩)]⟩) (fun i=>i≤l.length) (fun i=>l.length - i) 0 (cq _) ((Wk.nil _ 5 900 3 71 (by simp only [go_sem]) (.inl (by decide))).trans (Wk.of ?_ ?_)) ?_
 ·simp only [go_sem,St.mknil];try simp [go_sem]
 ·simp only [go_sem,St.mknil,dN];try simp [go_sem]
 intro i hi
 have hil:(l.take i).length=i:=by simp;omega
 have happ:=fun ys=>br 900 71 3 i eB (l.take i) ys hil
 by_cases h1:(i:Int)<(l.length:Int)
 ·have hi':i<l.length:=by omega
  have e8:=wi (n:=(i:Int)+1) (by omega) (by omega)
  have cc:=Ts (aj l i) (aX hx hi')
  try simp only [bR] at cc
  simp only [go_sem,az h1,bR]
  refine ⟨by omega,h1,by kernel_rfl,?_⟩
  refine aa (cc) ?_
  simp only [go_sem,happ]
  refine ⟨by omega,aA (i+1) (show i+1≤l.length by omega) (show l.length - (i+1)<l.length - i by omega) (Wk.of ?_ ?_)⟩
  ·simp only [go_sem,e8];try simp
  ·simp only [go_sem,eA hi',List.map_append];try simp [bR]
 ·obtain rfl:i=l.length:=by omega
  simp only [go_sem,au h1]
  refine aL [900] ?_ rfl
  simp only [go_sem,eM,bD]
  rw [kv (by simp)]
theorem ww (m:Md) (h:KU m):ak Tryz.prog Dy [cP m] (cP m):=by
 refine ah (ic:=r_.body) ap Jc rfl rfl ?_
 have c1:=Gb m.ts h.ts.1 h.ts.2
 have c2:=F8 m.fs h.fs.1 h.fs.2
 have c3:=Gc m.gs h.gs.1 h.gs.2
 have c4:=Ga m.els h.els.1 h.els.2
 have c5:=F_ m.ds h.ds.1 h.ds.2
 have c6:=F9 m.cs h.cs.1 h.cs.2
 simp only [go_sem,r_,cP,f_]
 refine aa (c1) ?_
 simp only [go_sem]
 refine aQ (KO (m.ims.map dy) (by rw [dn];exact h.ims)) (by simp [go_sem]) rfl ?_
 simp only [go_sem]
 refine aQ (KR (m.tbs.map ez) (by rw [dn];exact h.tbs)) (by simp [go_sem]) rfl ?_
 simp only [go_sem]
 refine aQ (KQ (m.ms.map eu) (by rw [dn];exact h.ms)) (by simp [go_sem]) rfl ?_
 simp only [go_sem]
 refine aQ (KN (m.exs.map ei) (by rw [dn];exact h.exs)) (by simp [go_sem]) rfl ?_
 simp only [go_sem]
 refine aa (c2) ?_
 simp only [go_sem]
 refine aa (c3) ?_
 simp only [go_sem]
 refine aa (c4) ?_
 simp only [go_sem]
 refine aa (c5) ?_
 simp only [go_sem]
 refine aa (c6) ?_
 simp only [go_sem]
 exact aL [] (by simp only [go_sem,cP,f_]) (by first | rfl | simp [go_sem,b_])
end
inductive CK where
 | i (k:IntKind)
 | b
 | s
 | l (T:TypeId) (st:Nat)
def gn (t:TypeId):List CK :=
 if t=49∨t=3 then [.i .i64]
 else if t=5 then [.i .u8]
 else if t=79 then [.i .i64,.i .i64,.i .i64,.i .u64,.i .i64,.i .i64,.i .i64,.l 49 1,.l 3 1]
 else if t=58 then [.l 79 9]
 else if t=47 then [.l 49 1,.l 49 1]
 else if t=57 then [.s,.s,.i .i64,.i .i64,.i .i64,.i .i64,.i .i64,.b,.i .i64,.i .i64,.b,.i .i64,.b]
 else if t=60 then [.i .i64,.l 49 1,.l 79 9]
 else if t=53 then [.i .i64,.i .i64,.i .i64,.b]
 else if t=51 then [.i .i64,.i .i64,.b]
 else if t=62 then [.i .i64,.b,.l 79 9]
 else if t=64 then [.s,.i .i64,.i .i64]
 else if t=66 then [.i .i64,.i .i64,.l 79 9,.i .i64,.l 58 1]
 else if t=69 then [.i .i64,.i .i64,.l 79 9,.l 5 1]
 else if t=71 then [.i .i64,.s,.l 5 1]
 else []
def cb (G:Nat→Option ac) (T:TypeId) (st:Nat) (x:AV):Prop:=x = .nl∨x = .sl st []∨∃j rows q,1000≤j∧x = .ms j st 0 rows.length∧G j=some ⟨T,st,rows,q⟩
def f9 (G:Nat→Option ac):CK→AV→Prop
 | .i k,x=>∃n,x = .int k n
 | .b,x=>∃b,x = .bool b
 | .s,x=>∃s,x = .str s
 | .l T st,x=>cb G T st x
def cB (G:Nat→Option ac) (ks:List CK) (r:List AV):Prop:=aC (f9 G) ks r
structure tU (G:Nat→Option ac) (t:TypeId) (st:Nat) (rows:List (List AV)) (q:Bool):Prop where
 len:rows.length≤1048576
 st:st=(gn t).length
 row:∀r∈rows,cB G (gn t) r
 fl:q=false→∀r∈rows,∀x∈r,db x=true
 its:t=58→rows≠[]→q=true
def wK (G:Nat→Option ac):Prop:=∀j t st rows q,G j=some ⟨t,st,rows,q⟩→tU G t st rows q
def cA (G G':Nat→Option ac):Prop:=∀j t st rows q,G j=some ⟨t,st,rows,q⟩→∃rows',G' j=some ⟨t,st,rows',q⟩∧rows'.length=rows.length
theorem cA.refl (G:Nat→Option ac):cA G G:=fun j t st rows q h=>⟨rows,h,rfl⟩
theorem cA.trans {A B C:Nat→Option ac} (h:cA A B) (h':cA B C):cA A C:=fun j t st rows q h1=>by
 obtain ⟨r1,h2,h3⟩:=h j t st rows q h1
 obtain ⟨r2,h4,h5⟩:=h' j t st r1 q h2
 exact ⟨r2,h4,h5.trans h3⟩
theorem cb.same {G G':Nat→Option ac} (h:cA G G') {T:TypeId} {st:Nat} {x:AV} (hx:cb G T st x):cb G' T st x:=by
 rcases hx with h1 | h1 | ⟨j,rows,q,h1,rfl,h3⟩
 ·exact .inl h1
 ·exact .inr (.inl h1)
 ·obtain ⟨r,h4,h5⟩:=h j T st rows q h3
  exact .inr (.inr ⟨j,r,q,h1,by rw [h5],h4⟩)
theorem f9.same {G G':Nat→Option ac} (h:cA G G') {k:CK} {x:AV} (hx:f9 G k x):f9 G' k x:=by
 cases k<;>first | exact hx | exact cb.same h hx
theorem cB.same {G G':Nat→Option ac} (h:cA G G') {ks:List CK} {r:List AV} (hx:cB G ks r):cB G' ks r:=hx.mono fun _ _ _ h1=>h1.same h
theorem tU.same {G G':Nat→Option ac} (h:cA G G') {t:TypeId} {st:Nat} {rows:List (List AV)} {q:Bool} (hx:tU G t st rows q):tU G' t st rows q :=
 ⟨hx.len,hx.st,fun r hr=>(hx.row r hr).same h,hx.fl,hx.its⟩
theorem oC {k:Nat}:∀{G:List (Nat×ac)} (_:∀p∈G,1000≤p.1) (_:k<1000),dh G k=G
 | [],_,_=>rfl
 | (j,o) :: G,h,hk=>by
  have:=h (j,o) List.mem_cons_self
  simp only at this
  rw [dh,aJ (by omega),oC (fun p hp=>h p (List.mem_cons_of_mem _ hp)) hk]
theorem dS {k:Nat} {o:ac} (h:∀i∈bo o,1000≤i) (hk:k<1000):bV k o=o:=by
 refine wq fun hi=>?_
 have:=h k hi
 omega
theorem pb {k:Nat}:∀{G:List (Nat×ac)} (_:∀p∈G,∀i∈bo p.2,1000≤i) (_:k<1000),jo k G=G
 | [],_,_=>rfl
 | (j,o) :: G,h,hk=>by
  rw [jo,dS (h (j,o) List.mem_cons_self) hk,pb (fun p hp=>h p (List.mem_cons_of_mem _ hp)) hk]
theorem oD:∀{G:List (Nat×ac)} {j:Nat} {p:Nat×ac},p∈dh G j→p∈G
 | [],_,_,h=>h
 | (i,o) :: G,j,p,h=>by
  simp only [dh] at h
  split at h
  ·exact List.mem_cons_of_mem _ (oD h)
  ·rcases bE.1 h with h | h
   ·exact h▸List.mem_cons_self
   ·exact List.mem_cons_of_mem _ (oD h)
theorem bg:∀{G:List (Nat×ac)} {j i:Nat},ab (dh G j) i=if i=j then none else ab G i
 | [],_,_=>by simp [dh,ab]
 | (k,o) :: G,j,i=>by
  simp only [dh]
  split
  ·rename_i h
   subst h
   rw [bg]
   simp only [ab]
   by_cases h:i=k
   ·rw [bz h,bz h]
   ·rw [aJ h,aJ h,aJ (Ne.symm h)]
  ·rename_i h
   simp only [ab,bg]
   by_cases h2:k=i
   ·subst h2;simp [h]
   ·simp [h2]
theorem kO {p:Nat×ac}:∀{G:List (Nat×ac)},p∈G→(ab G p.1).isSome=true
 | (k,o) :: G,h=>by
  simp only [ab]
  split
  ·rfl
  ·rcases bE.1 h with rfl | h
   ·rename_i hn;exact absurd rfl hn
   ·exact kO h
theorem f9.ids {G:Nat→Option ac} {k:CK} {x:AV} (h:f9 G k x):∀i∈be x,1000≤i∧(G i).isSome=true:=fun i hi=>by
 cases k with
 | i k=>obtain ⟨n,rfl⟩:=h;cases hi
 | b=>obtain ⟨n,rfl⟩:=h;cases hi
 | s=>obtain ⟨n,rfl⟩:=h;cases hi
 | l T st =>
  rcases h with rfl | rfl | ⟨j,rows,q,h1,rfl,h3⟩
  ·cases hi
  ·cases hi
  ·simp only [be,bt,eL] at hi
   subst hi
   exact ⟨h1,by rw [h3];rfl⟩
theorem aC.mem {α β:Type} {R:α→β→Prop}:∀{l:List α} {m:List β},aC R l m→∀b∈m,∃a,R a b
 | [],[],_,_,h=>by cases h
 | a :: l,b :: m,h,x,hx=>by
  rcases bE.1 hx with rfl | hx
  ·exact ⟨a,h.1⟩
  ·exact aC.mem h.2 x hx
 | [],_ :: _,h,_,_=>h.elim
 | _ :: _,[],h,_,_=>h.elim
theorem tU.ids {G:Nat→Option ac} {t:TypeId} {st:Nat} {rows:List (List AV)} {q:Bool} (h:tU G t st rows q):∀i∈bo ⟨t,st,rows,q⟩,1000≤i∧(G i).isSome=true:=fun i hi=>by
 unfold bo at hi
 split at hi
 ·obtain ⟨r,h1,h2⟩:=fc.1 hi
  obtain ⟨x,h3,h4⟩:=fc.1 h2
  obtain ⟨k,hk⟩:=aC.mem (h.row r h1) x h3
  exact hk.ids i h4
 ·cases hi
structure dp (G:List (Nat×ac)):Prop where
 nm:∀p∈G,1000≤p.1
 typ:wK (ab G)
 cl:∀p∈G,∀i∈bo p.2,(ab G i).isSome=true
structure gc (L:TypeId→Bool) (G G':List (Nat×ac)):Prop where
 same:cA (ab G) (ab G')
 dom:∀i,(ab G' i).isSome=true→(ab G i).isSome=true
 hi:∀i o,ab G i=some o→L o.t=false→ab G' i=some o
theorem gc.refl {L:TypeId→Bool} (G:List (Nat×ac)):gc L G G:=⟨cA.refl _,fun _ h=>h,fun _ _ h _=>h⟩
theorem gc.trans {L:TypeId→Bool} {A B C:List (Nat×ac)} (h:gc L A B) (h':gc L B C):gc L A C:=⟨h.same.trans h'.same,fun i hi=>h.dom i (h'.dom i hi),fun i o h1 h2=>h'.hi i o (h.hi i o h1 h2) h2⟩
def zb (t:TypeId):Bool:=t==49||t==3||t==5||t==79
theorem dp.big {G:List (Nat×ac)} (h:dp G) {i:Nat} (hi:(ab G i).isSome=true):1000≤i:=by
 obtain ⟨o,ho⟩:=Option.isSome_iff_exists.1 hi
 exact h.nm _ (aR ho)
theorem dp.kill {G:List (Nat×ac)} (h:dp G):∀k,k<1000→jo k (dh G k)=G:=fun k hk=>by
 rw [oC h.nm hk,pb (fun p hp i hi=>h.big (h.cl p hp i hi)) hk]
theorem dp.del {G:List (Nat×ac)} (h:dp G):∀k,k<1000→dh G k=G:=fun k hk=>oC h.nm hk
theorem dp.pur {G:List (Nat×ac)} (h:dp G):∀k,k<1000→jo k G=G:=fun k hk=>pb (fun p hp i hi=>h.big (h.cl p hp i hi)) hk
theorem dp.row {G:List (Nat×ac)} (h:dp G) {j:Nat} {t:TypeId} {st:Nat} {rows:List (List AV)} {q:Bool} (hg:ab G j=some ⟨t,st,rows,q⟩) {i:Nat} (hi:i<rows.length):∃r,rows[i]? = some r∧cB (ab G) (gn t) r :=
 ⟨rows[i],eJ hi,(h.typ _ _ _ _ _ hg).row _ (List.getElem_mem hi)⟩
section
variable {G:List (Nat×ac)} {j:Nat} {t:TypeId} {st:Nat} {rows rows':List (List AV)} {q:Bool}
theorem tj {L:TypeId→Bool} (hL:L t=true) (hg:ab G j=some ⟨t,st,rows,q⟩) (hl:rows'.length=rows.length):gc L G ((j,⟨t,st,rows',q⟩) :: dh G j):=by
 refine ⟨fun i t1 st1 r1 q1 h=>?_,fun i hi=>?_,fun i o h h2=>?_⟩
 all_goals simp only [ab,bg] at *
 ·by_cases e:j=i
  ·subst e
   rw [hg] at h
   cases h
   exact ⟨rows',by simp,hl⟩
  ·rw [aJ e,aJ (Ne.symm e)]
   exact ⟨r1,h,rfl⟩
 ·by_cases e:j=i
  ·subst e
   rw [hg];rfl
  ·rwa [aJ e,aJ (Ne.symm e)] at hi
 ·by_cases e:j=i
  ·subst e
   rw [hg] at h
   cases h
   rw [hL] at h2
   cases h2
  ·rw [aJ e,aJ (Ne.symm e)]
   exact h
theorem dp.put (hF:dp G) (hg:ab G j=some ⟨t,st,rows,q⟩) (hl:rows'.length=rows.length) (hs:tU (ab G) t st rows' q):dp ((j,⟨t,st,rows',q⟩) :: dh G j):=by
 have hsm:=tj (L:=fun _=>true) (rows':=rows') rfl hg hl
 have hd:∀{i},(ab G i).isSome=true→(ab ((j,⟨t,st,rows',q⟩) :: dh G j) i).isSome=true:=fun {i} h=>by
  simp only [ab,bg]
  by_cases e:j=i
  ·rw [bz e];rfl
  ·rw [aJ e,aJ (Ne.symm e)];exact h
 refine ⟨fun p hp=>?_,fun i t1 st1 r1 q1 h=>?_,fun p hp i h=>?_⟩
 ·exact hF.big (hsm.dom _ (kO hp))
 ·have h0:=h
  simp only [ab,bg] at h
  by_cases e:j=i
  ·rw [bz e] at h
   cases h
   exact hs.same hsm.same
  ·rw [aJ e,aJ (Ne.symm e)] at h
   exact (hF.typ i t1 st1 r1 q1 h).same hsm.same
 ·rcases bE.1 hp with rfl | hp
  ·exact hd (hs.ids i h).2
  ·exact hd (hF.cl p (oD hp) i h)
theorem dp.set {L:TypeId→Bool} (hL:L t=true) (hF:dp G) (hg:ab G j=some ⟨t,st,rows,q⟩) (i:Nat) (r:List AV) (hr:cB (ab G) (gn t) r) (hi:q=true∨r.all db=true):dp ((j,⟨t,st,rows.set i r,q⟩) :: dh G j)∧gc L G ((j,⟨t,st,rows.set i r,q⟩) :: dh G j):=by
 have hs:=hF.typ _ _ _ _ _ hg
 refine ⟨hF.put hg (List.length_set ..) ⟨by rw [List.length_set];exact hs.len,hs.st,fun r' h'=>?_,fun h1 r' h' x hx=>?_,fun h1 h2=>hs.its h1 fun h3=>h2 (by rw [h3];rfl)⟩,tj hL hg (List.length_set ..)⟩
 ·rcases List.mem_or_eq_of_mem_set h' with h' | rfl
  ·exact hs.row _ h'
  ·exact hr
 ·rcases List.mem_or_eq_of_mem_set h' with h' | rfl
  ·exact hs.fl h1 _ h' x hx
  ·rcases hi with hi | hi
   ·rw [h1] at hi;cases hi
   ·exact cZ.1 hi x hx
end
def bF:AV→Nat
 | .ms _ _ _ n=>n
 | .sl _ rows=>rows.length
 | _=>0
theorem cb.len {G:Nat→Option ac} {T:TypeId} {st:Nat} {x:AV} (h:cb G T st x):sj x=some (.int .i64 (bF x)):=by
 rcases h with rfl | rfl | ⟨j,rows,q,h1,rfl,h3⟩<;>rfl
theorem cb.at {G:Nat→Option ac} {T:TypeId} {st:Nat} {x:AV} (h:cb G T st x) {i:Nat} (hi:i<bF x):∃j rows q,1000≤j∧x = .ms j st 0 rows.length∧G j=some ⟨T,st,rows,q⟩∧i<rows.length:=by
 rcases h with rfl | rfl | ⟨j,rows,q,h1,rfl,h3⟩
 ·cases hi
 ·cases hi
 ·exact ⟨j,rows,q,h1,rfl,h3,hi⟩
theorem cb.lim {G:List (Nat×ac)} (hF:dp G) {T:TypeId} {st:Nat} {x:AV} (h:cb (ab G) T st x):bF x≤1048576:=by
 rcases h with rfl | rfl | ⟨j,rows,q,h1,rfl,h3⟩
 ·exact cq _
 ·exact cq _
 ·exact (hF.typ _ _ _ _ _ h3).len
theorem cb.no {G:Nat→Option ac} {T:TypeId} {st:Nat} {x:AV} (h:cb G T st x):∀k,k<1000→mC k x=false:=fun k hk=>by
 rcases h with rfl | rfl | ⟨j,rows,q,h1,rfl,h3⟩
 ·rfl
 ·rfl
 ·simp only [mC,mP,i1,ne_eq]
  omega
def uy (G:List (Nat×ac)) (r:AV) (σ':List (Nat×ac)):Prop:=r = .tup []∧dp σ'∧gc zb G σ'
theorem cB.one {G:Nat→Option ac} {k:CK} {r:List AV} (h:cB G [k] r):∃x,f9 G k x∧r=[x]:=by
 match r,h with
 | [x],h=>exact ⟨x,h.1,rfl⟩
theorem cB.cons {G:Nat→Option ac} {k:CK} {ks:List CK}:∀{r:List AV},cB G (k :: ks) r→∃x r',r=x :: r'∧f9 G k x∧cB G ks r'
 | x :: r',h=>⟨x,r',rfl,h.1,h.2⟩
theorem cB.nil {G:Nat→Option ac}:∀{r:List AV},cB G [] r→r=[]
 | [],_=>rfl
theorem cB.ins {G:Nat→Option ac} {r:List AV} (h:cB G (gn 79) r):∃op a b n k v w ty lb,r=[.int .i64 op,.int .i64 a,.int .i64 b,.int .u64 n,.int .i64 k,.int .i64 v,.int .i64 w,ty,lb]∧cb G 49 1 ty∧cb G 3 1 lb:=by
 have e:gn 79=[.i .i64,.i .i64,.i .i64,.i .u64,.i .i64,.i .i64,.i .i64,.l 49 1,.l 3 1]:=by rfl
 rw [e] at h
 obtain ⟨_,_,rfl,⟨op,rfl⟩,g1⟩:=h.cons
 obtain ⟨_,_,rfl,⟨a,rfl⟩,g2⟩:=g1.cons
 obtain ⟨_,_,rfl,⟨b,rfl⟩,g3⟩:=g2.cons
 obtain ⟨_,_,rfl,⟨n,rfl⟩,g4⟩:=g3.cons
 obtain ⟨_,_,rfl,⟨k,rfl⟩,g5⟩:=g4.cons
 obtain ⟨_,_,rfl,⟨v,rfl⟩,g6⟩:=g5.cons
 obtain ⟨_,_,rfl,⟨w,rfl⟩,g7⟩:=g6.cons
 obtain ⟨ty,_,rfl,h8,g8⟩:=g7.cons
 obtain ⟨lb,_,rfl,h9,g9⟩:=g8.cons
 cases g9.nil
 exact ⟨op,a,b,n,k,v,w,ty,lb,rfl,h8,h9⟩
theorem nR {j n st row:Nat} {t:TypeId} {rows:List (List AV)} {q:Bool} {r cs:List AV} (hr:rows[row]? = some r) (hl:r.length=n) (hc:cs.length=n) (hi:cs.all db=true) :
  m8 j n st row 0 (some ⟨t,st,rows,q⟩) (some cs)=some (.put j ⟨t,st,rows.set row cs,q⟩):=by
 have hsp:cH r 0 cs=cs:=by simp [cH,List.drop_eq_nil_of_le (by omega:r.length≤cs.length)]
 simp [m8,hr,hl,hc,hi,hsp]
theorem cB.get {G:Nat→Option ac} {k:CK}:∀{ks:List CK} {r:List AV} {off:Nat},cB G ks r→ks[off]? = some k→∃x,r[off]? = some x∧f9 G k x
 | k0 :: ks,x :: r,0,h,hk=>by
  simp only [List.getElem?_cons_zero,bH] at hk
  subst hk
  exact ⟨x,rfl,h.1⟩
 | k0 :: ks,x :: r,off+1,h,hk=>cB.get (off:=off) (ks:=ks) (r:=r) h.2 (by simpa using hk)
 | [],_,_,_,hk=>by simp at hk
 | _ :: _,[],_,h,_=>h.elim
theorem tJ {x y:AV}:∀{r:List AV} {off:Nat},r[off]? = some y→cH r off [x]=r.set off x
 | _ :: r,0,_=>rfl
 | z :: r,off+1,h=>by
  have:=tJ (x:=x) (y:=y) (r:=r) (off:=off) (by simpa using h)
  simp only [cH,za,List.take_succ_cons,kx,List.set_cons_succ] at this ⊢
  rw [← this,show off+1+1=(off+1)+1 from rfl,List.drop_succ_cons]
 | [],_,h=>by simp at h
theorem cB.set {G:Nat→Option ac} {k:CK} {x:AV}:∀{ks:List CK} {r:List AV} {off:Nat},cB G ks r→ks[off]? = some k→f9 G k x→cB G ks (r.set off x)
 | k0 :: ks,y :: r,0,h,hk,hx=>by
  simp only [List.getElem?_cons_zero,bH] at hk
  subst hk
  exact ⟨hx,h.2⟩
 | k0 :: ks,y :: r,off+1,h,hk,hx=>⟨h.1,cB.set (off:=off) (ks:=ks) (r:=r) h.2 (by simpa using hk) hx⟩
 | [],_,_,_,hk,_=>by simp at hk
 | _ :: _,[],_,h,_,_=>h.elim
theorem fA {st i off:Nat} {t:TypeId} {rows:List (List AV)} {q:Bool} {r:List AV} {x:AV} (hr:rows[i]? = some r) (hx:r[off]? = some x):pN none st i off (some ⟨t,st,rows,q⟩)=some x:=by
 simp only [pN,hr,iF,cX,List.getElem?_drop,Nat.add_zero,hx]
theorem m_ {j st i off:Nat} {t:TypeId} {rows:List (List AV)} {q:Bool} {r:List AV} {x y:AV} (hr:rows[i]? = some r) (hy:r[off]? = some y) (hx:q=true∨db x=true):m8 j 1 st i off (some ⟨t,st,rows,q⟩) (some [x])=some (.put j ⟨t,st,rows.set i (r.set off x),q⟩):=by
 have hl:off+1≤r.length:=(dE.1 hy).1
 have hq:(q||[x].all db)=true:=by rcases hx with rfl | h<;>simp [*]
 simp only [m8,za,true_and,hq,cX,hr,hl,tJ hy]
theorem dp.setc {L:TypeId→Bool} {G:List (Nat×ac)} {j:Nat} {t:TypeId} {st:Nat} {rows:List (List AV)} {q:Bool} (hL:L t=true) (hF:dp G) (hg:ab G j=some ⟨t,st,rows,q⟩) {i off:Nat} {r:List AV} {k:CK} {x:AV} (hr:rows[i]? = some r) (hk:(gn t)[off]? = some k) (hx:f9 (ab G) k x) (hi:q=true∨db x=true) :
  dp ((j,⟨t,st,rows.set i (r.set off x),q⟩) :: dh G j)∧gc L G ((j,⟨t,st,rows.set i (r.set off x),q⟩) :: dh G j):=by
 have hs:=hF.typ _ _ _ _ _ hg
 have hrm:=f7 hr
 refine dp.set hL hF hg i _ ((hs.row r hrm).set hk hx) ?_
 cases q with
 | true=>exact .inl rfl
 | false =>
  refine .inr (cZ.2 fun y hy=>?_)
  rcases List.mem_or_eq_of_mem_set hy with hy | rfl
  ·exact hs.fl rfl r hrm y hy
  ·exact hi.resolve_left (by simp)
theorem dp.len {G:List (Nat×ac)} (hF:dp G) {j:Nat} {t:TypeId} {st:Nat} {rows:List (List AV)} {q:Bool} (hg:ab G j=some ⟨t,st,rows,q⟩) {i:Nat} {r:List AV} (hr:rows[i]? = some r):r.length=(gn t).length:=by
 exact ((hF.typ _ _ _ _ _ hg).row r (f7 hr)).length.symm
theorem oI {G:List (Nat×ac)} {j i:Nat} {o:ac} (h:j≠i):ab ((j,o) :: dh G j) i=ab G i:=by
 simp only [ab,bg,aJ h,aJ (Ne.symm h)]
theorem fG {j:Nat} (hj:1000≤j):∀k,k<1000→(k=j)=False:=fun k h=>eq_false (by omega)
theorem ey {j:Nat} (hj:1000≤j):∀k,k<1000→(j=k)=False:=fun k h=>eq_false (by omega)
section
attribute [local go_sem] dn
theorem IJ (G0:List (Nat×ac)) (hF0:dp G0) (x y:AV) (hx:cb (ab G0) 49 1 x) (hy:cb (ab G0) 5 1 y):aE Tryz.prog Jo [x,y] G0 sb (uy G0):=by
 refine aP (ic:=zn.body) ap OG rfl rfl ?_
 have hk0:=hF0.kill
 have lx:=hx.len
 have ly:=hy.len
 have bx:=hx.lim hF0
 have bY:=hy.lim hF0
 simp only [go_sem,zn,hk0,lx,ly]
 refine an (fun q:Nat×List (Nat×ac)=>⟨[(4,.int .i64 q.1),(0,x),(1,y)],q.2⟩) (fun q=>q.1≤bF x∧dp q.2∧gc zb G0 q.2) (fun q=>bF x - q.1) (0,G0) ⟨cq _,hF0,gc.refl _⟩ (Wk.of2 ?_ (fun _ _ h=>h)) ?_
 ·simp only [go_sem];try simp
 rintro ⟨i,G⟩ ⟨hi,hF,hS⟩
 simp only at hi hF hS
 have hk:=hF.kill
 by_cases h1:(i:Int)<(bF x:Int)
 ·obtain ⟨j,rows,q,hj,rfl,hg,hil⟩:=(hx.same hS.same).at (i:=i) (by omega)
  obtain ⟨r,hr,hrk⟩:=hF.row hg hil
  obtain ⟨_,⟨n,rfl⟩,rfl⟩:=cB.one hrk
  have e8:=wi (n:=(i:Int)+1) (by omega) (by omega)
  have hjk:=ey hj
  have hl:pN none 1 i 0 (some ⟨49,1,rows,q⟩)=iF none [.int .i64 n]:=by simp [pN,hr]
  have hs:∀x,m8 j 1 1 i 0 (some ⟨49,1,rows,q⟩) (some [.int .i64 x])=some (.put j ⟨49,1,rows.set i [.int .i64 x],q⟩):=fun x=>by simp [m8,hr,db,cH]
  have h2:(i:Int)<(rows.length:Int):=h1
  simp only [go_sem,az h2,hjk,hk,hg,hl,hs,bF]
  refine ⟨⟨by omega,by omega⟩,⟨by omega,by omega⟩,?_⟩
  simp only [go_sem,e8]
  obtain ⟨f1,f2⟩:=dp.set (L:=zb) rfl hF hg i [.int .i64 (IntKind.i64.wrap (n+1))] ⟨⟨_,rfl⟩,trivial⟩ (.inr rfl)
  refine aA (i+1,_) ⟨(show i+1≤rows.length by omega),f1,hS.trans f2⟩ (show rows.length - (i+1)<rows.length - i by omega) (Wk.of2 ?_ (fun _ _ h=>h))
  ·simp only [go_sem];try simp
 ·obtain rfl:i=bF x:=by omega
  simp only [go_sem,au h1,lx,ly,hk]
  refine an (fun q:Nat×List (Nat×ac)=>⟨[(5,.int .i64 q.1),(1,y)],q.2⟩) (fun q=>q.1≤bF y∧dp q.2∧gc zb G0 q.2) (fun q=>bF y - q.1) (0,G) ⟨cq _,hF,hS⟩ (Wk.of2 ?_ (fun _ _ h=>h)) ?_
  ·simp only [go_sem];try simp
  clear hS hF hk G
  rintro ⟨i,G⟩ ⟨hi,hF,hS⟩
  simp only at hi hF hS
  have hk:=hF.kill
  by_cases h1:(i:Int)<(bF y:Int)
  ·obtain ⟨j,rows,q,hj,rfl,hg,hil⟩:=(hy.same hS.same).at (i:=i) (by omega)
   obtain ⟨r,hr,hrk⟩:=hF.row hg hil
   obtain ⟨_,⟨n,rfl⟩,rfl⟩:=cB.one hrk
   have e8:=wi (n:=(i:Int)+1) (by omega) (by omega)
   have hjk:=ey hj
   have hl:pN none 1 i 0 (some ⟨5,1,rows,q⟩)=iF none [.int .u8 n]:=by simp [pN,hr]
   have hs:∀x,m8 j 1 1 i 0 (some ⟨5,1,rows,q⟩) (some [.int .u8 x])=some (.put j ⟨5,1,rows.set i [.int .u8 x],q⟩):=fun x=>by simp [m8,hr,db,cH]
   have h2:(i:Int)<(rows.length:Int):=h1
   simp only [go_sem,az h2,hjk,hk,hg,hl,hs,bF]
   refine ⟨⟨by omega,by omega⟩,⟨by omega,by omega⟩,?_⟩
   simp only [go_sem,e8]
   obtain ⟨f1,f2⟩:=dp.set (L:=zb) rfl hF hg i [.int .u8 (gE .u8 n 1)] ⟨⟨_,rfl⟩,trivial⟩ (.inr rfl)
   refine aA (i+1,_) ⟨(show i+1≤rows.length by omega),f1,hS.trans f2⟩ (show rows.length - (i+1)<rows.length - i by omega) (Wk.of2 ?_ (fun _ _ h=>h))
   ·simp only [go_sem];try simp
  ·obtain rfl:i=bF y:=by omega
   simp only [go_sem,au h1,ly,hk]
   exact eX (fun _ h=>by cases h) (.tup []) _ rfl (fun _ _ h=>h) ⟨fun i hi=>(by cases hi),hF.cl⟩ ⟨rfl,hF,hS⟩
end
section
theorem JB {G:Nat→Option ac}:cB G (gn 79) [.int .i64 (-1),.int .i64 0,.int .i64 0,.int .u64 0,.int .i64 0,.int .i64 0,.int .i64 0,.nl,.nl]:=by
 have e:gn 79=[.i .i64,.i .i64,.i .i64,.i .u64,.i .i64,.i .i64,.i .i64,.l 49 1,.l 3 1]:=by rfl
 rw [e]
 exact ⟨⟨_,rfl⟩,⟨_,rfl⟩,⟨_,rfl⟩,⟨_,rfl⟩,⟨_,rfl⟩,⟨_,rfl⟩,⟨_,rfl⟩,.inl rfl,.inl rfl,trivial⟩
attribute [local go_sem] dn
theorem IK (G0:List (Nat×ac)) (hF0:dp G0) (x:AV) (hx:cb (ab G0) 79 9 x):aE Tryz.prog Jp [x] G0 sb (uy G0):=by
 refine aP (ic:=zo.body) ap OH rfl rfl ?_
 have hk0:=hF0.kill
 have lx:=hx.len
 have bx:=hx.lim hF0
 simp only [go_sem,zo,hk0]
 refine an (fun q:Nat×List (Nat×ac)=>⟨[(2,.int .i64 q.1),(0,x)],q.2⟩) (fun q=>q.1≤bF x∧dp q.2∧gc zb G0 q.2) (fun q=>bF x - q.1) (0,G0) ⟨cq _,hF0,gc.refl _⟩ (Wk.of2 ?_ (fun _ _ h=>h)) ?_
 ·simp only [go_sem];try simp
 rintro ⟨i,G⟩ ⟨hi,hF,hS⟩
 simp only at hi hF hS
 have hk:=hF.kill
 by_cases h1:(i:Int)<(bF x:Int)
 ·obtain ⟨j,rows,q,hj,rfl,hg,hil⟩:=(hx.same hS.same).at (i:=i) (by omega)
  obtain ⟨r,hr,hrk⟩:=hF.row hg hil
  obtain ⟨op,a,b,n,kk,v,w,ty,lb,rfl,hty,hlb⟩:=hrk.ins
  have e8:=wi (n:=(i:Int)+1) (by omega) (by omega)
  have h2:(i:Int)<(rows.length:Int):=h1
  have hjk:=ey hj
  have b1:(0≤(i:Int)∧(i:Int)<(rows.length:Int))=True:=eq_true ⟨by omega,h2⟩
  have l7:pN none 9 i 7 (some ⟨79,9,rows,q⟩)=some ty:=by simp [pN,hr,iF]
  have l8:pN none 9 i 8 (some ⟨79,9,rows,q⟩)=some lb:=by simp [pN,hr,iF]
  have lty:=hty.len
  have llb:=hlb.len
  have bty:=hty.lim hF
  have blb:=hlb.lim hF
  simp only [go_sem,az h2,hjk,hk,hg]
  refine an (fun q:Nat×List (Nat×ac)=>⟨[(3,.int .i64 q.1),(2,.int .i64 i),(0,.ms j 9 0 rows.length)],q.2⟩) (fun p=>p.1≤bF ty∧dp p.2∧gc zb G p.2∧ab p.2 j=some ⟨79,9,rows,q⟩) (fun q=>bF ty - q.1) (0,G) ⟨cq _,hF,gc.refl _,hg⟩ (Wk.of2 ?_ (fun _ _ h=>h)) ?_
  ·simp only [go_sem];try simp
  rintro ⟨k,G1⟩ ⟨hi1,hF1,hS1,hg1⟩
  simp only at hi1 hF1 hS1 hg1
  have hk1:=hF1.kill
  by_cases h3:(k:Int)<(bF ty:Int)
  ·obtain ⟨j2,rows2,q2,hj2,rfl,hg2,hil2⟩:=(hty.same hS1.same).at (i:=k) (by omega)
   obtain ⟨r2,hr2,hrk2⟩:=hF1.row hg2 hil2
   obtain ⟨_,⟨n2,rfl⟩,rfl⟩:=cB.one hrk2
   have e9:=wi (n:=(k:Int)+1) (by omega) (by omega)
   have hjk2:=ey hj2
   have h4:(k:Int)<(rows2.length:Int):=h3
   have b2:(0≤(k:Int)∧(k:Int)<(rows2.length:Int))=True:=eq_true ⟨by omega,h4⟩
   have hne:j2≠j:=fun e=>by subst e;rw [hg1] at hg2;cases hg2
   have hl:pN none 1 k 0 (some ⟨49,1,rows2,q2⟩)=iF none [.int .i64 n2]:=by simp [pN,hr2]
   have hs:∀x,m8 j2 1 1 k 0 (some ⟨49,1,rows2,q2⟩) (some [.int .i64 x])=some (.put j2 ⟨49,1,rows2.set k [.int .i64 x],q2⟩):=fun x=>by simp [m8,hr2,db,cH]
   simp only [go_sem,az h4,hjk,hjk2,hk1,hg1,hg2,hl,hs,l7,l8,b1,b2,true_and,e9]
   obtain ⟨f1,f2⟩:=dp.set (L:=zb) rfl hF1 hg2 k [.int .i64 (IntKind.i64.wrap (n2+1))] ⟨⟨_,rfl⟩,trivial⟩ (.inr rfl)
   refine aA (k+1,_) ⟨(show k+1≤rows2.length by omega),f1,hS1.trans f2,(oI hne).trans hg1⟩ (show rows2.length - (k+1)<rows2.length - k by omega) (Wk.of2 ?_ (fun _ _ h=>h))
   ·simp only [go_sem];try simp
  obtain rfl:k=bF ty:=by omega
  simp only [go_sem,au h3,hjk,hk1,hg1,l7,l8,lty,b1,true_and]
  refine an (fun q:Nat×List (Nat×ac)=>⟨[(4,.int .i64 q.1),(2,.int .i64 i),(0,.ms j 9 0 rows.length)],q.2⟩) (fun p=>p.1≤bF lb∧dp p.2∧gc zb G p.2∧ab p.2 j=some ⟨79,9,rows,q⟩) (fun q=>bF lb - q.1) (0,G1) ⟨cq _,hF1,hS1,hg1⟩ (Wk.of2 ?_ (fun _ _ h=>h)) ?_
  ·simp only [go_sem];try simp
  clear h3 hi1 hk1
  rintro ⟨k,G2⟩ ⟨hi2,hF2,hS2,hg2'⟩
  simp only at hi2 hF2 hS2 hg2'
  have hk2:=hF2.kill
  by_cases h3:(k:Int)<(bF lb:Int)
  ·obtain ⟨j2,rows2,q2,hj2,rfl,hg2,hil2⟩:=(hlb.same hS2.same).at (i:=k) (by omega)
   obtain ⟨r2,hr2,hrk2⟩:=hF2.row hg2 hil2
   obtain ⟨_,⟨n2,rfl⟩,rfl⟩:=cB.one hrk2
   have e9:=wi (n:=(k:Int)+1) (by omega) (by omega)
   have hjk2:=ey hj2
   have h4:(k:Int)<(rows2.length:Int):=h3
   have b2:(0≤(k:Int)∧(k:Int)<(rows2.length:Int))=True:=eq_true ⟨by omega,h4⟩
   have hne:j2≠j:=fun e=>by subst e;rw [hg2'] at hg2;cases hg2
   have hl:pN none 1 k 0 (some ⟨3,1,rows2,q2⟩)=iF none [.int .i64 n2]:=by simp [pN,hr2]
   have hs:∀x,m8 j2 1 1 k 0 (some ⟨3,1,rows2,q2⟩) (some [.int .i64 x])=some (.put j2 ⟨3,1,rows2.set k [.int .i64 x],q2⟩):=fun x=>by simp [m8,hr2,db,cH]
   simp only [go_sem,az h4,hjk,hjk2,hk2,hg2',hg2,hl,hs,l7,l8,b1,b2,true_and,e9]
   obtain ⟨f1,f2⟩:=dp.set (L:=zb) rfl hF2 hg2 k [.int .i64 (IntKind.i64.wrap (n2+1))] ⟨⟨_,rfl⟩,trivial⟩ (.inr rfl)
   refine aA (k+1,_) ⟨(show k+1≤rows2.length by omega),f1,hS2.trans f2,(oI hne).trans hg2'⟩ (show rows2.length - (k+1)<rows2.length - k by omega) (Wk.of2 ?_ (fun _ _ h=>h))
   ·simp only [go_sem];try simp
  obtain rfl:k=bF lb:=by omega
  simp only [go_sem,au h3,hjk,hk2,hg2',l7,l8,llb,b1,true_and]
  have hso:=nR (t:=79) (j:=j) (n:=9) (st:=9) (q:=q) hr rfl (cs:=[.int .i64 (-1),.int .i64 0,.int .i64 0,.int .u64 0,.int .i64 0,.int .i64 0,.int .i64 0,.nl,.nl]) rfl rfl
  obtain ⟨f1,f2⟩:=dp.set (L:=zb) rfl hF2 hg2' i [.int .i64 (-1),.int .i64 0,.int .i64 0,.int .u64 0,.int .i64 0,.int .i64 0,.int .i64 0,.nl,.nl] JB (.inr rfl)
  simp only [go_sem,hso,e8]
  refine aA (i+1,_) ⟨(show i+1≤rows.length by omega),f1,(hS.trans hS2).trans f2⟩ (show rows.length - (i+1)<rows.length - i by omega) (Wk.of2 ?_ (fun _ _ h=>h))
  ·simp only [go_sem];try simp
 ·obtain rfl:i=bF x:=by omega
  simp only [go_sem,au h1,lx,hk]
  exact eX (fun _ h=>by cases h) (.tup []) _ rfl (fun _ _ h=>h) ⟨fun i hi=>(by cases hi),hF.cl⟩ ⟨rfl,hF,hS⟩
end
def ru (x:Nat):Nat:=if x<1000 then x else if x<1267650600228229401496703205376 then x+1267650600228229401496703205376 - 1000 else if x<1267650600228229401496703205376+1267650600228229401496703205376 - 1000 then x+1000 - 1267650600228229401496703205376 else x
theorem fB (x:Nat):ru (ru x)=x:=by
 unfold ru
 repeat' split
 all_goals omega
theorem Ei {x:Nat} (h:1000≤x):1000≤ru x:=by
 unfold ru
 repeat' split
 all_goals omega
def up (x:Nat):Prop:=1267650600228229401496703205376≤x∧x<1267650600228229401496703205376+1267650600228229401496703205376 - 1000
theorem JD {x:Nat} (h:up x):1000≤ru x∧ru x<1267650600228229401496703205376:=by
 unfold up at h
 unfold ru
 repeat' split
 all_goals omega
theorem oU {α:Type} {f:α→α} (h:∀x,f (f x)=x) (l:List α):(l.map f).map f=l:=by
 rw [List.map_map]
 conv=>rhs;rw [← List.map_id l]
 exact List.map_congr_left fun x _=>h x
section
variable {ρ:Nat→Nat} (h2:∀i,ρ (ρ i)=i)
include h2
theorem Nj (x:AV):gT ρ (gT ρ x)=x:=by cases x<;>simp [gT,h2]
theorem Ng (x:AV):cQ ρ (cQ ρ x)=x:=by
 cases x with
 | fn f caps=>simp only [cQ,oU (Nj h2)]
 | _=>first | rfl | simp only [cQ,gT,h2]
theorem Nh (o:ac):dD ρ (dD ρ o)=o:=by
 obtain ⟨t,st,rows,q⟩:=o
 cases q with
 | false=>rfl
 | true=>simp only [dD,cX,oU (fun r=>oU (Ng h2) r)];rfl
theorem D6:∀G:List (Nat×ac),cS ρ (cS ρ G)=G
 | []=>rfl
 | (i,o) :: G=>by simp only [cS,h2,Nh h2,D6 G]
end
theorem tq {ρ:Nat→Nat} {x:AV} (h:db x=true):cQ ρ x=x:=by cases x<;>first | rfl | (simp [db] at h)
theorem u7 {ρ:Nat→Nat} {G:Nat→Option ac} {t:TypeId} {st:Nat} {rows:List (List AV)} {q:Bool} (h:tU G t st rows q):dD ρ ⟨t,st,rows,q⟩ =⟨t,st,rows.map (fun r=>r.map (cQ ρ)),q⟩:=by
 cases q with
 | true=>rfl
 | false =>
  have e:rows.map (fun r=>r.map (cQ ρ))=rows:=by
   conv=>rhs;rw [← List.map_id rows]
   refine List.map_congr_left fun r hr=>?_
   conv=>rhs;rw [id,← List.map_id r]
   exact List.map_congr_left fun x hx=>tq (h.fl rfl r hr x hx)
  rw [e]
  rfl
theorem ws {ρ:Nat→Nat} {x:AV} (h:∀i∈bt x,ρ i=i):gT ρ x=x:=by
 cases x with
 | ms id st off len=>rw [gT,h id (List.mem_singleton_self _)]
 | mp id st row off=>rw [gT,h id (List.mem_singleton_self _)]
 | mm id k=>rw [gT,h id (List.mem_singleton_self _)]
 | _=>rfl
theorem kT {α:Type} {f:α→α} {g:α→List Nat} {ρ:Nat→Nat} (hf:∀x,(∀i∈g x,ρ i=i)→f x=x) {l:List α} (h:∀i∈l.flatMap g,ρ i=i):l.map f=l:=by
 conv=>rhs;rw [← List.map_id l]
 exact List.map_congr_left fun x hx=>hf x fun i hi=>h i (fc.2 ⟨x,hx,hi⟩)
theorem rM {ρ:Nat→Nat} {x:AV} (h:∀i∈be x,ρ i=i):cQ ρ x=x:=by
 cases x with
 | fn f caps=>simp only [cQ,kT (fun x=>ws) (by simpa only [be] using h)]
 | _=>exact ws (by simpa only [be] using h)
theorem renV_id {ρ:Nat→Nat} {x:AV} (h:∀i∈ax x,ρ i=i):Mw.renV ρ x=x:=by
 have hG:∀x,(∀i∈bU x,ρ i=i)→gh ρ x=x:=fun x h=>by
  cases x with
  | agg cells=>simp only [gh,kT (fun x=>rM) (by simpa only [bU] using h)]
  | _=>exact rM (by simpa only [bU] using h)
 cases x with
 | tup vs=>simp only [Mw.renV,kT hG (by simpa only [ax] using h)]
 | _=>exact hG _ (by simpa only [ax] using h)
theorem iJ {ρ:Nat→Nat} {o:ac} (h:∀i∈bo o,ρ i=i):dD ρ o=o:=by
 unfold dD
 split
 ·rename_i hr
  simp only [bo,hr,cX] at h
  rw [kT (fun r=>kT fun x=>rM) h]
 ·rfl
section
variable {G:List (Nat×ac)}
theorem Gu (i:Nat):ab (cS ru G) (ru i)=(ab G i).map (dD ru):=by rw [cC fB fB,fB]
theorem cb.ren (hT:wK (ab G)) {T:TypeId} {st:Nat} {x:AV} (h:cb (ab G) T st x):cb (ab (cS ru G)) T st (cQ ru x):=by
 rcases h with rfl | rfl | ⟨j,rows,q,h1,rfl,h3⟩
 ·exact .inl rfl
 ·exact .inr (.inl rfl)
 ·refine .inr (.inr ⟨ru j,rows.map (fun r=>r.map (cQ ru)),q,Ei h1,by rw [dn];rfl,?_⟩)
  rw [Gu,h3,cK,u7 (hT _ _ _ _ _ h3)]
theorem f9.ren (hT:wK (ab G)) {k:CK} {x:AV} (h:f9 (ab G) k x):f9 (ab (cS ru G)) k (cQ ru x):=by
 cases k with
 | i k=>obtain ⟨n,rfl⟩:=h;exact ⟨n,rfl⟩
 | b=>obtain ⟨n,rfl⟩:=h;exact ⟨n,rfl⟩
 | s=>obtain ⟨n,rfl⟩:=h;exact ⟨n,rfl⟩
 | l T st=>exact cb.ren hT h
theorem cB.ren (hT:wK (ab G)) {ks:List CK}:∀{r:List AV},cB (ab G) ks r→cB (ab (cS ru G)) ks (r.map (cQ ru)):=by
 induction ks with
 | nil =>
  intro r h
  cases h.nil
  exact trivial
 | cons k ks ih =>
  intro r h
  obtain ⟨x,r',rfl,h1,h2⟩:=h.cons
  exact ⟨h1.ren hT,ih h2⟩
theorem tU.ren (hT:wK (ab G)) {t:TypeId} {st:Nat} {rows:List (List AV)} {q:Bool} (h:tU (ab G) t st rows q):tU (ab (cS ru G)) t st (rows.map (fun r=>r.map (cQ ru))) q:=by
 refine ⟨by rw [dn];exact h.len,h.st,fun r hr=>?_,fun hq r hr x hx=>?_,fun h1 h2=>h.its h1 fun e=>h2 (by rw [e];rfl)⟩
 ·obtain ⟨r0,h0,rfl⟩:=List.mem_map.1 hr
  exact (h.row r0 h0).ren hT
 ·obtain ⟨r0,h0,rfl⟩:=List.mem_map.1 hr
  obtain ⟨y,hy,rfl⟩:=List.mem_map.1 hx
  rw [tq (h.fl hq r0 h0 y hy)]
  exact h.fl hq r0 h0 y hy
theorem mT (hT:wK (ab G)) {j:Nat} {t:TypeId} {st:Nat} {rows:List (List AV)} {q:Bool} (h:ab (cS ru G) j=some ⟨t,st,rows,q⟩):∃rows0,ab G (ru j)=some ⟨t,st,rows0,q⟩∧rows=rows0.map (fun r=>r.map (cQ ru)):=by
 rw [cC fB fB] at h
 cases hg:ab G (ru j) with
 | none=>rw [hg] at h;cases h
 | some o =>
  rw [hg,cK] at h
  obtain ⟨rows0,rfl⟩:∃rows0,o =⟨t,st,rows0,q⟩:=by
   match o,h with
   | @ac.mk t0 st0 rows0 q0 k0,h=>cases q0<;>(cases h;exact ⟨_,rfl⟩)
  refine ⟨rows0,rfl,?_⟩
  rw [u7 (hT _ _ _ _ _ hg)] at h
  cases h
  rfl
theorem dp.ren (h:dp G):dp (cS ru G):=by
 refine ⟨fun p hp=>?_,fun j t st rows q hg=>?_,?_⟩
 ·obtain ⟨q,h1,rfl⟩:=oY hp
  exact Ei (h.nm q h1)
 ·obtain ⟨rows0,h1,rfl⟩:=mT h.typ hg
  exact (h.typ _ _ _ _ _ h1).ren h.typ
 ·exact (fX.ren fB fB (r:=.nl) ⟨fun i hi=>(by cases hi),h.cl⟩).2
theorem gc.ren {L:TypeId→Bool} {A B:List (Nat×ac)} (hA:dp A) (hB:dp B) (h:gc L A B):gc L (cS ru A) (cS ru B):=by
 refine ⟨fun j t st rows q hg=>?_,fun i hi=>?_,fun i o hg hl=>?_⟩
 ·obtain ⟨rows0,h1,rfl⟩:=mT hA.typ hg
  obtain ⟨rows1,h2,h3⟩:=h.same _ _ _ _ _ h1
  refine ⟨rows1.map (fun r=>r.map (cQ ru)),?_,by simp [h3]⟩
  rw [cC fB fB,h2,cK,u7 (hB.typ _ _ _ _ _ h2)]
 ·rw [cC fB fB,Option.isSome_map] at hi ⊢
  exact h.dom _ hi
 ·rw [cC fB fB] at hg ⊢
  cases h1:ab A (ru i) with
  | none=>rw [h1] at hg;cases hg
  | some o0 =>
   rw [h1] at hg
   cases hg
   have:o0.t=(dD ru o0).t:=by unfold dD;split<;>rfl
   rw [h.hi _ _ h1 (by rw [this];exact hl)]
   rfl
end
theorem dp.new {G:List (Nat×ac)} (hF:dp G) {N:Nat} (hN:1000≤N) (hn:ab G N=none) {t:TypeId} {st:Nat} {rows:List (List AV)} {q:Bool} (hs:tU (ab G) t st rows q):dp ((N,⟨t,st,rows,q⟩) :: G)∧cA (ab G) (ab ((N,⟨t,st,rows,q⟩) :: G)):=by
 have key:∀{i o},ab G i=some o→ab ((N,⟨t,st,rows,q⟩) :: G) i=some o:=fun {i o} h=>by
  simp only [ab]
  rw [aJ (fun e=>by subst e;rw [hn] at h;cases h)]
  exact h
 have hsm:cA (ab G) (ab ((N,⟨t,st,rows,q⟩) :: G)):=fun j t st r q h=>⟨r,key h,rfl⟩
 have hk2:∀{i},(ab G i).isSome=true→(ab ((N,⟨t,st,rows,q⟩) :: G) i).isSome=true:=fun {i} h=>by
  obtain ⟨o,ho⟩:=Option.isSome_iff_exists.1 h
  rw [key ho];rfl
 refine ⟨⟨fun p hp=>?_,fun j t1 st1 r1 q1 h=>?_,fun p hp i hi=>?_⟩,hsm⟩
 ·rcases bE.1 hp with rfl | hp
  ·exact hN
  ·exact hF.nm p hp
 ·simp only [ab] at h
  split at h
  ·cases h
   exact hs.same hsm
  ·exact (hF.typ _ _ _ _ _ h).same hsm
 ·rcases bE.1 hp with rfl | hp
  ·exact hk2 (hs.ids i hi).2
  ·exact hk2 (hF.cl p hp i hi)
theorem uH {G:List (Nat×ac)} {R:ac} {jj N k:Nat} {t:TypeId} {rows:List (List AV)} {o2:ac} (hG:∀p∈G,1000≤p.1∧p.1<N) (hcl:∀p∈G,∀i∈bo p.2,(ab G i).isSome=true)
  (hR:∀i∈bo R,1000≤i∧i<N) (h2:bo o2=[]) (hg:ab G jj=some ⟨t,1,rows,true⟩) (hN:1000≤N) (id:Nat) (o:ac) (h:ab ((1,R) :: (jj,⟨t,1,rows.set k [.ms N 9 0 1],true⟩) :: dh ((N,o2) :: G) jj) id=some o) :
  ab (cS (fw [(207,N)]) ((jj,⟨t,1,rows.set k [.ms 207 9 0 1],true⟩) :: (207,o2) :: (1,R) :: dh G jj)) id=some o:=by
 have hb:∀x,x≠207→x≠N→bw [(207,N)] x=x:=fun x h1 h2=>by show cM 207 N x=x;unfold cM;rw [aJ h1,aJ h2]
 have hf:∀x,1000≤x→x<N→fw [(207,N)] x=x:=fun x h1 h2=>by show cM 207 N x=x;unfold cM;rw [aJ (by omega),aJ (by omega)]
 have hbN:bw [(207,N)] N=207:=by show cM 207 N N=207;unfold cM;rw [aJ (by omega),bz rfl]
 have hnm:∀{i o},ab G i=some o→1000≤i∧i<N:=fun h=>hG _ (aR h)
 have hid:∀{i o},ab G i=some o→∀x∈bo o,fw [(207,N)] x=x:=fun {i o} h x hx=>by
  obtain ⟨o',ho'⟩:=Option.isSome_iff_exists.1 (hcl _ (aR h) x hx)
  exact hf x (hnm ho').1 (hnm ho').2
 have hj:=hnm hg
 rw [cC (oa _) (sN _)]
 by_cases e1:id=1
 ·subst e1
  rw [hb 1 (by decide) (by omega)]
  simp only [ab,cX] at h ⊢
  cases h
  rw [aJ (by omega),aJ (by decide),cK,iJ (fun x hx=>hf x (hR x hx).1 (hR x hx).2)]
 by_cases e2:id=jj
 ·subst e2
  rw [hb id (by omega) (by omega)]
  simp only [ab,aJ (Ne.symm e1),cX] at h ⊢
  cases h
  have hrow:=iJ (hid hg)
  simp only [dD,cX] at hrow
  have hrow2:=congrArg ac.rows hrow
  simp only at hrow2
  simp only [cK,dD,cX,List.map_set,hrow2]
  simp only [ee,List.map_nil,cQ,gT,fw,cM,cX]
 by_cases e3:id=N
 ·subst e3
  rw [hbN]
  simp only [ab,dh,bg,aJ (Ne.symm e1),aJ (Ne.symm e2),aJ e2,cX] at h ⊢
  cases h
  rw [aJ (by omega),cK,iJ (fun x hx=>by rw [h2] at hx;cases hx)]
 simp only [ab,aJ (Ne.symm e1),aJ (Ne.symm e2),bg,aJ e2,aJ (Ne.symm e3)] at h
 have hi:=hnm h
 rw [hb id (by omega) e3]
 simp only [ab,aJ (Ne.symm e1),aJ (Ne.symm e2),bg,aJ e2,h]
 rw [aJ (by omega),cK,iJ (hid h)]
theorem cb.renV {G:Nat→Option ac} {T:TypeId} {st:Nat} {x:AV} (h:cb G T st x):Mw.renV ru x=cQ ru x:=by
 rcases h with rfl | rfl | ⟨j,rows,q,h1,rfl,h3⟩<;>rfl
theorem vQ {G:List (Nat×ac)} (hF:dp G) {r:AV} {σ':List (Nat×ac)}:(∃r0 σ0,uy (cS ru G) r0 σ0∧r=Mw.renV ru r0∧σ'=cS ru σ0)→uy G r σ':=by
 rintro ⟨r0,σ0,⟨rfl,h2,h3⟩,rfl,rfl⟩
 refine ⟨rfl,h2.ren,?_⟩
 have h4:=h3.ren hF.ren h2
 rwa [D6 fB] at h4
theorem lc (G:List (Nat×ac)) (hF:dp G) (x:AV) (hx:cb (ab G) 79 9 x):aE Tryz.prog Jp [x] G up (uy G) :=
 ((IK (cS ru G) hF.ren (cQ ru x) (hx.ren hF.typ)).ren ru ru fB fB (args2:=[x]) (σ2:=G) (by rw [ee,hx.renV];rfl) rfl).mono (fun id h=>JD h) (fun r σ' h=>vQ hF h)
theorem k_ (G:List (Nat×ac)) (hF:dp G) (x y:AV) (hx:cb (ab G) 49 1 x) (hy:cb (ab G) 5 1 y):aE Tryz.prog Jo [x,y] G up (uy G) :=
 ((IJ (cS ru G) hF.ren (cQ ru x) (cQ ru y) (hx.ren hF.typ) (hy.ren hF.typ)).ren ru ru fB fB (args2:=[x,y]) (σ2:=G) (by rw [ee,ee,hx.renV,hy.renV];rfl) rfl).mono (fun id h=>JD h) (fun r σ' h=>vQ hF h)
section
structure GI (G0 G:List (Nat×ac)) (B:Nat):Prop where
 fam:dp G
 same:cA (ab G0) (ab G)
 bd:∀p∈G,1267650600228229401496703205376≤p.1∧p.1<B
theorem GI.stay {L:TypeId→Bool} {G0 G G':List (Nat×ac)} {B:Nat} (h:GI G0 G B) (hF:dp G') (hS:gc L G G'):GI G0 G' B :=
 ⟨hF,h.same.trans hS.same,fun p hp=>by
  obtain ⟨o,ho⟩:=Option.isSome_iff_exists.1 (hS.dom _ (kO hp))
  exact h.bd (p.1,o) (aR ho)⟩
theorem GI.up {G0 G:List (Nat×ac)} {B:Nat} (h:GI G0 G B) (hB:B≤1267650600228229401496703205376+1267650600228229401496703205376 - 1000):∀p∈G,YtdefmgmmjfgbpaaGreatDoor.up p.1:=fun p hp=>⟨(h.bd p hp).1,Nat.lt_of_lt_of_le (h.bd p hp).2 hB⟩
theorem GI.grow {G0 G:List (Nat×ac)} {B B':Nat} (h:GI G0 G B) (hB:B≤B'):GI G0 G B':=⟨h.fam,h.same,fun p hp=>⟨(h.bd p hp).1,Nat.lt_of_lt_of_le (h.bd p hp).2 hB⟩⟩
theorem GI.put {L:TypeId→Bool} {G0 GB G4:List (Nat×ac)} {N:Nat} {o:ac} (h:GI G0 GB N) (hN:1267650600228229401496703205376≤N) (f2:cA (ab GB) (ab ((N,o) :: GB))) (f3:dp G4) (f4:gc L ((N,o) :: GB) G4):GI G0 G4 (N+1) :=
 ⟨f3,h.same.trans (f2.trans f4.same),fun p hp=>by
  have h1:=f4.dom _ (kO hp)
  simp only [ab] at h1
  split at h1
  ·omega
  ·obtain ⟨o',ho⟩:=Option.isSome_iff_exists.1 h1
   have h2:=h.bd (p.1,o') (aR ho)
   simp only at h2
   omega⟩
theorem fL {f:FuncId} {args:List AV} {G0 G:List (Nat×ac)} {B:Nat} {R:ac} {d:Option Nat} {env:List (Nat×AV)} {K:St→Prop}
  (h:aE Tryz.prog f args G up (uy G)) (hI:GI G0 G B) (hB:B≤1267650600228229401496703205376+1267650600228229401496703205376 - 1000)
  (hk:∀G',GI G0 G' B→gc zb G G'→K ((St.mk env ((1,R) :: G')).put d (.tup []))):dB Tryz.prog f args d ⟨env,(1,R) :: G⟩ K:=by
 refine p_ (E:=[(1,R)]) h (fun p hp=>hI.up hB p hp) (fun p hp q hq=>?_) (fun r σ' hp=>hp.2.2.dom) (fun r σ' hp=>?_)
 ·have:=(hI.bd q hq).1
  simp only [eL] at hp
  subst hp
  simp only
  omega
 ·obtain ⟨rfl,h1,h2⟩:=hp
  exact hk σ' (hI.stay h1 h2) h2
theorem cb.bd {G0:List (Nat×ac)} {T:TypeId} {st:Nat} {x:AV} (h:cb (ab G0) T st x) (hB0:∀p∈G0,1267650600228229401496703205376≤p.1∧p.1<1267650600228229401496703205376+1237940039285380274899124224):∀i∈be x,1000≤i∧i<1267650600228229401496703205376+1237940039285380274899124224:=fun i hi=>by
 obtain ⟨h1,h2⟩:=f9.ids (k:=.l T st) h i hi
 obtain ⟨o,ho⟩:=Option.isSome_iff_exists.1 h2
 exact ⟨h1,(hB0 _ (aR ho)).2⟩
theorem eF {R o:ac} {G:List (Nat×ac)} {j:Nat} (hj:1000≤j) (i:Nat) (o':ac) (h:ab ((1,R) :: (j,o) :: dh G j) i=some o'):ab ((j,o) :: (1,R) :: dh G j) i=some o':=by
 simp only [ab] at h ⊢
 by_cases e:1=i
 ·subst e
  rw [aJ (by omega)]
  simpa using h
 ·rwa [aJ e] at h ⊢
attribute [local go_sem] dn
theorem tE (G0:List (Nat×ac)) (hF0:dp G0) (hB0:∀p∈G0,1267650600228229401496703205376≤p.1∧p.1<1267650600228229401496703205376+1237940039285380274899124224) (a0 a1 a2 a3 a4 a5 a6 a9 a10 a11:AV) (a7:Bool) (a8:Int) (h0:cb (ab G0) 47 2 a0) (h1:cb (ab G0) 57 13 a1) (h2:cb (ab G0) 60 3 a2) (h3:cb (ab G0) 53 4 a3) (h4:cb (ab G0) 51 3 a4) (h5:cb (ab G0) 62 3 a5) (h6:cb (ab G0) 64 3 a6) (h9:cb (ab G0) 66 5 a9) (h10:cb (ab G0) 69 4 a10) (h11:cb (ab G0) 71 3 a11) :
  aE Tryz.prog Uq [.agg [a0,a1,a2,a3,a4,a5,a6,.bool a7,.int .i64 a8,a9,a10,a11]] G0 sb (fun r σ'=>r = .tup []∧σ'=[]):=by
 refine aP (ic:=JZ.body) ap SN rfl rfl ?_
 have hk0:=hF0.kill
 have l0:=h0.len
 have z0:=h0.lim hF0
 have m0:=h0.no
 have l1:=h1.len
 have z1:=h1.lim hF0
 have m1:=h1.no
 have l2:=h2.len
 have z2:=h2.lim hF0
 have m2:=h2.no
 have l3:=h3.len
 have z3:=h3.lim hF0
 have m3:=h3.no
 have l4:=h4.len
 have z4:=h4.lim hF0
 have m4:=h4.no
 have l5:=h5.len
 have z5:=h5.lim hF0
 have m5:=h5.no
 have l6:=h6.len
 have z6:=h6.lim hF0
 have m6:=h6.no
 have l9:=h9.len
 have z9:=h9.lim hF0
 have m9:=h9.no
 have l10:=h10.len
 have z10:=h10.lim hF0
 have m10:=h10.no
 have l11:=h11.len
 have z11:=h11.lim hF0
 have m11:=h11.no
 have hids:∀i∈bo (⟨33,12,[[a0,a1,a2,a3,a4,a5,a6,.bool a7,.int .i64 a8,a9,a10,a11]],true⟩),1000≤i∧i<1267650600228229401496703205376+1237940039285380274899124224:=by
  intro i hi
  simp only [bo,cX,pB,List.flatMap_nil,mM,dz] at hi
  rcases hi with hi | hi | hi | hi | hi | hi | hi | hi | hi | hi | hi | hi
  all_goals first | (cases hi;done) | exact cb.bd (by assumption) hB0 i hi
 have hall:(List.all [a0,a1,a2,a3,a4,a5,a6,.bool a7,.int .i64 a8,a9,a10,a11] fun y=>!(mC 1 y))=true:=by simp only [List.all_cons,List.all_nil,↓m0,↓m1,↓m2,↓m3,↓m4,↓m5,↓m6,↓m9,↓m10,↓m11,bA,Bool.and_true,Nat.reduceLT];rfl
 have hI:GI G0 G0 (1267650600228229401496703205376+1237940039285380274899124224):=⟨hF0,cA.refl _,hB0⟩
 simp only [go_sem,JZ,hF0.pur,hF0.del,↓hall,↓m0,↓m1,↓m2,↓m3,↓m4,↓m5,↓m6,↓m9,↓m10,↓m11]
 refine an (fun q:Nat×List (Nat×ac)=>⟨[(2,.int .i64 q.1),(1,.mp 1 12 0 0)],(1,⟨33,12,[[a0,a1,a2,a3,a4,a5,a6,.bool a7,.int .i64 a8,a9,a10,a11]],true⟩) :: q.2⟩) (fun q=>q.1≤bF a0∧GI G0 q.2 (1267650600228229401496703205376+1237940039285380274899124224)) (fun q=>bF a0 - q.1) (0,G0) ⟨cq _,hI⟩ (Wk.of2 ?_ (fun _ _ h=>h)) ?_
 ·simp only [go_sem];try simp
 rintro ⟨i,G1_⟩ ⟨hi1,hI1⟩
 simp only at hi1 hI1
 have hk1:=hI1.fam.kill
 by_cases h1':(i:Int)<(bF a0:Int)
 ·obtain ⟨j,rows,q,hj,rfl,hg,hil⟩:=(h0.same hI1.same).at (i:=i) (by omega)
  have hd:(i:Int)<(rows.length:Int):=h1'
  have e8:=wi (n:=(i:Int)+1) (by omega) (by omega)
  have b1:(0≤(i:Int)∧(i:Int)<(rows.length:Int))=True:=eq_true ⟨by omega,hd⟩
  have hjk:=ey hj
  have hjk':=fG hj
  obtain ⟨r,hr,hrk⟩:=hI1.fam.row hg hil
  obtain ⟨x1,hc1,hx1⟩:=hrk.get (off:=0) (by rfl)
  have ld1:=fA (st:=2) (t:=47) (q:=q) hr hc1
  simp only [go_sem,az hd,hjk,hjk',b1,true_and,hk1,hg,ld1]
  refine fL (k_ G1_ hI1.fam x1 .nl (cb.same (cA.refl _) hx1) (.inl rfl)) hI1 (by decide) fun G1' hI1' hS1=>?_
  have hk1':=hI1'.fam.kill
  have hg1:=hS1.hi _ _ hg rfl
  simp only [go_sem]
  obtain ⟨x2,hc2,hx2⟩:=hrk.get (off:=1) (by rfl)
  have ld2:=fA (st:=2) (t:=47) (q:=q) hr hc2
  simp only [go_sem,az hd,hjk,hjk',b1,true_and,hk1',hg1,ld2]
  refine fL (k_ G1' hI1'.fam x2 .nl (cb.same hS1.same hx2) (.inl rfl)) hI1' (by decide) fun G2' hI2' hS2=>?_
  have hk2':=hI2'.fam.kill
  have hg2:=hS2.hi _ _ hg1 rfl
  simp only [go_sem]
  have hlr:r.length=2:=hI2'.fam.len hg2 hr
  have hso:=nR (t:=47) (j:=j) (n:=2) (st:=2) (q:=q) hr hlr (cs:=[.nl,.nl]) rfl rfl
  obtain ⟨f1,f2⟩:=dp.set (L:=fun _=>true) rfl hI2'.fam hg2 i [.nl,.nl] (show cB _ (gn 47) _ from ⟨.inl rfl,.inl rfl,trivial⟩) (.inr rfl)
  simp only [go_sem,az hd,hjk,hjk',b1,true_and,hk2',hg2,hso,e8]
  refine aA (i+1,_) ⟨(show i+1≤rows.length by omega),hI2'.stay f1 f2⟩ (show rows.length - (i+1)<rows.length - i by omega) (Wk.of2 ?_ (eF hj))
  ·simp only [go_sem];try simp
 obtain rfl:i=bF a0:=by omega
 simp only [go_sem,au h1',l0,hk1]
 refine an (fun q:Nat×List (Nat×ac)=>⟨[(3,.int .i64 q.1),(1,.mp 1 12 0 0)],(1,⟨33,12,[[a0,a1,a2,a3,a4,a5,a6,.bool a7,.int .i64 a8,a9,a10,a11]],true⟩) :: q.2⟩) (fun q=>q.1≤bF a1∧GI G0 q.2 (1267650600228229401496703205376+1237940039285380274899124224)) (fun q=>bF a1 - q.1) (0,G1_) ⟨cq _,hI1⟩ (Wk.of2 ?_ (fun _ _ h=>h)) ?_
 ·simp only [go_sem];try simp
 rintro ⟨i,G2_⟩ ⟨hi2,hI2⟩
 simp only at hi2 hI2
 have hk2:=hI2.fam.kill
 by_cases h2':(i:Int)<(bF a1:Int)
 ·obtain ⟨j,rows,q,hj,rfl,hg,hil⟩:=(h1.same hI2.same).at (i:=i) (by omega)
  have hd:(i:Int)<(rows.length:Int):=h2'
  have e8:=wi (n:=(i:Int)+1) (by omega) (by omega)
  have b1:(0≤(i:Int)∧(i:Int)<(rows.length:Int))=True:=eq_true ⟨by omega,hd⟩
  have hjk:=ey hj
  have hjk':=fG hj
  obtain ⟨r,hr,hrk⟩:=hI2.fam.row hg hil
  have hlr:r.length=13:=hI2.fam.len hg hr
  have hso:=nR (t:=57) (j:=j) (n:=13) (st:=13) (q:=q) hr hlr (cs:=[.str [],.str [],.int .i64 (-1),.int .i64 0,.int .i64 0,.int .i64 0,.int .i64 0,.bool false,.int .i64 0,.int .i64 0,.bool false,.int .i64 0,.bool false]) rfl rfl
  obtain ⟨f1,f2⟩:=dp.set (L:=fun _=>true) rfl hI2.fam hg i [.str [],.str [],.int .i64 (-1),.int .i64 0,.int .i64 0,.int .i64 0,.int .i64 0,.bool false,.int .i64 0,.int .i64 0,.bool false,.int .i64 0,.bool false] (show cB _ (gn 57) _ from ⟨⟨_,rfl⟩,⟨_,rfl⟩,⟨_,rfl⟩,⟨_,rfl⟩,⟨_,rfl⟩,⟨_,rfl⟩,⟨_,rfl⟩,⟨_,rfl⟩,⟨_,rfl⟩,⟨_,rfl⟩,⟨_,rfl⟩,⟨_,rfl⟩,⟨_,rfl⟩,trivial⟩) (.inr rfl)
  simp only [go_sem,az hd,hjk,hjk',b1,true_and,hk2,hg,hso,e8]
  refine aA (i+1,_) ⟨(show i+1≤rows.length by omega),hI2.stay f1 f2⟩ (show rows.length - (i+1)<rows.length - i by omega) (Wk.of2 ?_ (eF hj))
  ·simp only [go_sem];try simp
 obtain rfl:i=bF a1:=by omega
 simp only [go_sem,au h2',l1,hk2]
 refine an (fun q:Nat×List (Nat×ac)=>⟨[(4,.int .i64 q.1),(1,.mp 1 12 0 0)],(1,⟨33,12,[[a0,a1,a2,a3,a4,a5,a6,.bool a7,.int .i64 a8,a9,a10,a11]],true⟩) :: q.2⟩) (fun q=>q.1≤bF a2∧GI G0 q.2 (1267650600228229401496703205376+1237940039285380274899124224)) (fun q=>bF a2 - q.1) (0,G2_) ⟨cq _,hI2⟩ (Wk.of2 ?_ (fun _ _ h=>h)) ?_
 ·simp only [go_sem];try simp
 rintro ⟨i,G3_⟩ ⟨hi3,hI3⟩
 simp only at hi3 hI3
 have hk3:=hI3.fam.kill
 by_cases h3':(i:Int)<(bF a2:Int)
 ·obtain ⟨j,rows,q,hj,rfl,hg,hil⟩:=(h2.same hI3.same).at (i:=i) (by omega)
  have hd:(i:Int)<(rows.length:Int):=h3'
  have e8:=wi (n:=(i:Int)+1) (by omega) (by omega)
  have b1:(0≤(i:Int)∧(i:Int)<(rows.length:Int))=True:=eq_true ⟨by omega,hd⟩
  have hjk:=ey hj
  have hjk':=fG hj
  obtain ⟨r,hr,hrk⟩:=hI3.fam.row hg hil
  obtain ⟨x1,hc1,hx1⟩:=hrk.get (off:=1) (by rfl)
  have ld1:=fA (st:=3) (t:=60) (q:=q) hr hc1
  simp only [go_sem,az hd,hjk,hjk',b1,true_and,hk3,hg,ld1]
  refine fL (k_ G3_ hI3.fam x1 .nl (cb.same (cA.refl _) hx1) (.inl rfl)) hI3 (by decide) fun G1' hI1' hS1=>?_
  have hk1':=hI1'.fam.kill
  have hg1:=hS1.hi _ _ hg rfl
  simp only [go_sem]
  obtain ⟨x2,hc2,hx2⟩:=hrk.get (off:=2) (by rfl)
  have ld2:=fA (st:=3) (t:=60) (q:=q) hr hc2
  simp only [go_sem,az hd,hjk,hjk',b1,true_and,hk1',hg1,ld2]
  refine fL (lc G1' hI1'.fam x2 (cb.same hS1.same hx2)) hI1' (by decide) fun G2' hI2' hS2=>?_
  have hk2':=hI2'.fam.kill
  have hg2:=hS2.hi _ _ hg1 rfl
  simp only [go_sem]
  have hlr:r.length=3:=hI2'.fam.len hg2 hr
  have hso:=nR (t:=60) (j:=j) (n:=3) (st:=3) (q:=q) hr hlr (cs:=[.int .i64 (-1),.nl,.nl]) rfl rfl
  obtain ⟨f1,f2⟩:=dp.set (L:=fun _=>true) rfl hI2'.fam hg2 i [.int .i64 (-1),.nl,.nl] (show cB _ (gn 60) _ from ⟨⟨_,rfl⟩,.inl rfl,.inl rfl,trivial⟩) (.inr rfl)
  simp only [go_sem,az hd,hjk,hjk',b1,true_and,hk2',hg2,hso,e8]
  refine aA (i+1,_) ⟨(show i+1≤rows.length by omega),hI2'.stay f1 f2⟩ (show rows.length - (i+1)<rows.length - i by omega) (Wk.of2 ?_ (eF hj))
  ·simp only [go_sem];try simp
 obtain rfl:i=bF a2:=by omega
 simp only [go_sem,au h3',l2,hk3]
 refine an (fun q:Nat×List (Nat×ac)=>⟨[(5,.int .i64 q.1),(1,.mp 1 12 0 0)],(1,⟨33,12,[[a0,a1,a2,a3,a4,a5,a6,.bool a7,.int .i64 a8,a9,a10,a11]],true⟩) :: q.2⟩) (fun q=>q.1≤bF a3∧GI G0 q.2 (1267650600228229401496703205376+1237940039285380274899124224)) (fun q=>bF a3 - q.1) (0,G3_) ⟨cq _,hI3⟩ (Wk.of2 ?_ (fun _ _ h=>h)) ?_
 ·simp only [go_sem];try simp
 rintro ⟨i,G4_⟩ ⟨hi4,hI4⟩
 simp only at hi4 hI4
 have hk4:=hI4.fam.kill
 by_cases h4':(i:Int)<(bF a3:Int)
 ·obtain ⟨j,rows,q,hj,rfl,hg,hil⟩:=(h3.same hI4.same).at (i:=i) (by omega)
  have hd:(i:Int)<(rows.length:Int):=h4'
  have e8:=wi (n:=(i:Int)+1) (by omega) (by omega)
  have b1:(0≤(i:Int)∧(i:Int)<(rows.length:Int))=True:=eq_true ⟨by omega,hd⟩
  have hjk:=ey hj
  have hjk':=fG hj
  obtain ⟨r,hr,hrk⟩:=hI4.fam.row hg hil
  obtain ⟨_,hc,⟨n,rfl⟩⟩:=hrk.get (off:=1) (by rfl)
  have ld:=fA (st:=4) (t:=53) (q:=q) hr hc
  have hso:=m_ (j:=j) (st:=4) (t:=53) (q:=q) (x:=.int .i64 (gE .i64 n 1)) hr hc (.inr rfl)
  obtain ⟨f1,f2⟩:=dp.setc (L:=fun _=>true) rfl hI4.fam hg (i:=i) (off:=1) (k:=.i .i64) (x:=.int .i64 (gE .i64 n 1)) hr (by rfl) ⟨_,rfl⟩ (.inr rfl)
  simp only [go_sem,az hd,hjk,hjk',b1,true_and,hk4,hg,ld,hso,e8]
  refine aA (i+1,_) ⟨(show i+1≤rows.length by omega),hI4.stay f1 f2⟩ (show rows.length - (i+1)<rows.length - i by omega) (Wk.of2 ?_ (eF hj))
  ·simp only [go_sem];try simp
 obtain rfl:i=bF a3:=by omega
 simp only [go_sem,au h4',l3,hk4]
 refine an (fun q:Nat×List (Nat×ac)=>⟨[(6,.int .i64 q.1),(1,.mp 1 12 0 0)],(1,⟨33,12,[[a0,a1,a2,a3,a4,a5,a6,.bool a7,.int .i64 a8,a9,a10,a11]],true⟩) :: q.2⟩) (fun q=>q.1≤bF a4∧GI G0 q.2 (1267650600228229401496703205376+1237940039285380274899124224)) (fun q=>bF a4 - q.1) (0,G4_) ⟨cq _,hI4⟩ (Wk.of2 ?_ (fun _ _ h=>h)) ?_
 ·simp only [go_sem];try simp
 rintro ⟨i,G5_⟩ ⟨hi5,hI5⟩
 simp only at hi5 hI5
 have hk5:=hI5.fam.kill
 by_cases h5':(i:Int)<(bF a4:Int)
 ·obtain ⟨j,rows,q,hj,rfl,hg,hil⟩:=(h4.same hI5.same).at (i:=i) (by omega)
  have hd:(i:Int)<(rows.length:Int):=h5'
  have e8:=wi (n:=(i:Int)+1) (by omega) (by omega)
  have b1:(0≤(i:Int)∧(i:Int)<(rows.length:Int))=True:=eq_true ⟨by omega,hd⟩
  have hjk:=ey hj
  have hjk':=fG hj
  obtain ⟨r,hr,hrk⟩:=hI5.fam.row hg hil
  obtain ⟨_,hc,⟨n,rfl⟩⟩:=hrk.get (off:=0) (by rfl)
  have ld:=fA (st:=3) (t:=51) (q:=q) hr hc
  have hso:=m_ (j:=j) (st:=3) (t:=51) (q:=q) (x:=.int .i64 (gE .i64 n 1)) hr hc (.inr rfl)
  obtain ⟨f1,f2⟩:=dp.setc (L:=fun _=>true) rfl hI5.fam hg (i:=i) (off:=0) (k:=.i .i64) (x:=.int .i64 (gE .i64 n 1)) hr (by rfl) ⟨_,rfl⟩ (.inr rfl)
  simp only [go_sem,az hd,hjk,hjk',b1,true_and,hk5,hg,ld,hso,e8]
  refine aA (i+1,_) ⟨(show i+1≤rows.length by omega),hI5.stay f1 f2⟩ (show rows.length - (i+1)<rows.length - i by omega) (Wk.of2 ?_ (eF hj))
  ·simp only [go_sem];try simp
 obtain rfl:i=bF a4:=by omega
 simp only [go_sem,au h5',l4,hk5]
 refine an (fun q:Nat×List (Nat×ac)=>⟨[(7,.int .i64 q.1),(1,.mp 1 12 0 0)],(1,⟨33,12,[[a0,a1,a2,a3,a4,a5,a6,.bool a7,.int .i64 a8,a9,a10,a11]],true⟩) :: q.2⟩) (fun q=>q.1≤bF a5∧GI G0 q.2 (1267650600228229401496703205376+1237940039285380274899124224)) (fun q=>bF a5 - q.1) (0,G5_) ⟨cq _,hI5⟩ (Wk.of2 ?_ (fun _ _ h=>h)) ?_
 ·simp only [go_sem];try simp
 rintro ⟨i,G6_⟩ ⟨hi6,hI6⟩
 simp only at hi6 hI6
 have hk6:=hI6.fam.kill
 by_cases h6':(i:Int)<(bF a5:Int)
 ·obtain ⟨j,rows,q,hj,rfl,hg,hil⟩:=(h5.same hI6.same).at (i:=i) (by omega)
  have hd:(i:Int)<(rows.length:Int):=h6'
  have e8:=wi (n:=(i:Int)+1) (by omega) (by omega)
  have b1:(0≤(i:Int)∧(i:Int)<(rows.length:Int))=True:=eq_true ⟨by omega,hd⟩
  have hjk:=ey hj
  have hjk':=fG hj
  obtain ⟨r,hr,hrk⟩:=hI6.fam.row hg hil
  obtain ⟨x1,hc1,hx1⟩:=hrk.get (off:=2) (by rfl)
  have ld1:=fA (st:=3) (t:=62) (q:=q) hr hc1
  simp only [go_sem,az hd,hjk,hjk',b1,true_and,hk6,hg,ld1]
  refine fL (lc G6_ hI6.fam x1 (cb.same (cA.refl _) hx1)) hI6 (by decide) fun G1' hI1' hS1=>?_
  have hk1':=hI1'.fam.kill
  have hg1:=hS1.hi _ _ hg rfl
  simp only [go_sem]
  obtain ⟨_,hc,⟨n,rfl⟩⟩:=hrk.get (off:=1) (by rfl)
  have ld:=fA (st:=3) (t:=62) (q:=q) hr hc
  have hso:=m_ (j:=j) (st:=3) (t:=62) (q:=q) (x:=.bool (!n)) hr hc (.inr rfl)
  obtain ⟨f1,f2⟩:=dp.setc (L:=fun _=>true) rfl hI1'.fam hg1 (i:=i) (off:=1) (k:=.b) (x:=.bool (!n)) hr (by rfl) ⟨_,rfl⟩ (.inr rfl)
  simp only [go_sem,az hd,hjk,hjk',b1,true_and,hk1',hg1,ld,hso,e8]
  refine aA (i+1,_) ⟨(show i+1≤rows.length by omega),hI1'.stay f1 f2⟩ (show rows.length - (i+1)<rows.length - i by omega) (Wk.of2 ?_ (eF hj))
  ·simp only [go_sem];try simp
 obtain rfl:i=bF a5:=by omega
 simp only [go_sem,au h6',l5,hk6]
 refine an (fun q:Nat×List (Nat×ac)=>⟨[(8,.int .i64 q.1),(1,.mp 1 12 0 0)],(1,⟨33,12,[[a0,a1,a2,a3,a4,a5,a6,.bool a7,.int .i64 a8,a9,a10,a11]],true⟩) :: q.2⟩) (fun q=>q.1≤bF a6∧GI G0 q.2 (1267650600228229401496703205376+1237940039285380274899124224)) (fun q=>bF a6 - q.1) (0,G6_) ⟨cq _,hI6⟩ (Wk.of2 ?_ (fun _ _ h=>h)) ?_
 ·simp only [go_sem];try simp
 rintro ⟨i,G7_⟩ ⟨hi7,hI7⟩
 simp only at hi7 hI7
 have hk7:=hI7.fam.kill
 by_cases h7':(i:Int)<(bF a6:Int)
 ·obtain ⟨j,rows,q,hj,rfl,hg,hil⟩:=(h6.same hI7.same).at (i:=i) (by omega)
  have hd:(i:Int)<(rows.length:Int):=h7'
  have e8:=wi (n:=(i:Int)+1) (by omega) (by omega)
  have b1:(0≤(i:Int)∧(i:Int)<(rows.length:Int))=True:=eq_true ⟨by omega,hd⟩
  have hjk:=ey hj
  have hjk':=fG hj
  obtain ⟨r,hr,hrk⟩:=hI7.fam.row hg hil
  obtain ⟨_,hc,⟨n,rfl⟩⟩:=hrk.get (off:=2) (by rfl)
  have ld:=fA (st:=3) (t:=64) (q:=q) hr hc
  have hso:=m_ (j:=j) (st:=3) (t:=64) (q:=q) (x:=.int .i64 (gE .i64 n 1)) hr hc (.inr rfl)
  obtain ⟨f1,f2⟩:=dp.setc (L:=fun _=>true) rfl hI7.fam hg (i:=i) (off:=2) (k:=.i .i64) (x:=.int .i64 (gE .i64 n 1)) hr (by rfl) ⟨_,rfl⟩ (.inr rfl)
  simp only [go_sem,az hd,hjk,hjk',b1,true_and,hk7,hg,ld,hso,e8]
  refine aA (i+1,_) ⟨(show i+1≤rows.length by omega),hI7.stay f1 f2⟩ (show rows.length - (i+1)<rows.length - i by omega) (Wk.of2 ?_ (eF hj))
  ·simp only [go_sem];try simp
 obtain rfl:i=bF a6:=by omega
 simp only [go_sem,au h7',l6,hk7]
 refine an (fun q:Nat×List (Nat×ac)=>⟨[(9,.int .i64 q.1),(1,.mp 1 12 0 0)],(1,⟨33,12,[[a0,a1,a2,a3,a4,a5,a6,.bool a7,.int .i64 a8,a9,a10,a11]],true⟩) :: q.2⟩) (fun q=>q.1≤bF a9∧GI G0 q.2 (1267650600228229401496703205376+1237940039285380274899124224+q.1 * 1048577)) (fun q=>bF a9 - q.1) (0,G7_) ⟨cq _,hI7.grow (by omega)⟩ (Wk.of2 ?_ (fun _ _ h=>h)) ?_
 ·simp only [go_sem];try simp
 rintro ⟨i,G8_⟩ ⟨hi8,hI8⟩
 simp only at hi8 hI8
 have hk8:=hI8.fam.kill
 by_cases h8':(i:Int)<(bF a9:Int)
 ·obtain ⟨j,rows,q,hj,rfl,hg,hil⟩:=(h9.same hI8.same).at (i:=i) (by omega)
  have hd:(i:Int)<(rows.length:Int):=h8'
  have e8:=wi (n:=(i:Int)+1) (by omega) (by omega)
  have b1:(0≤(i:Int)∧(i:Int)<(rows.length:Int))=True:=eq_true ⟨by omega,hd⟩
  have hjk:=ey hj
  have hjk':=fG hj
  obtain ⟨r,hr,hrk⟩:=hI8.fam.row hg hil
  have hB:1267650600228229401496703205376+1237940039285380274899124224+i * 1048577+1048577≤1267650600228229401496703205376+1267650600228229401496703205376 - 1000:=by omega
  obtain ⟨x1,hc1,hx1⟩:=hrk.get (off:=2) (by rfl)
  have ld1:=fA (st:=5) (t:=66) (q:=q) hr hc1
  simp only [go_sem,az hd,hjk,hjk',b1,true_and,hk8,hg,ld1]
  refine fL (lc G8_ hI8.fam x1 (cb.same (cA.refl _) hx1)) hI8 (by omega) fun G1' hI1' hS1=>?_
  have hk1':=hI1'.fam.kill
  have hg1:=hS1.hi _ _ hg rfl
  simp only [go_sem]
  obtain ⟨y,hcy,hy⟩:=hrk.get (off:=4) (by rfl)
  have hy:cb _ 58 1 y:=hy
  have ldy:=fA (st:=5) (t:=66) (q:=q) hr hcy
  have ly:=hy.len
  have zy:=hy.lim hI8.fam
  have hy1:=hy.same hS1.same
  refine an (fun q:Nat×List (Nat×ac)=>⟨[(10,.int .i64 q.1),(9,.int .i64 i),(1,.mp 1 12 0 0)],(1,⟨33,12,[[a0,a1,a2,a3,a4,a5,a6,.bool a7,.int .i64 a8,(.ms j 5 0 rows.length),a10,a11]],true⟩) :: q.2⟩) (fun p=>p.1≤bF y∧GI G0 p.2 (1267650600228229401496703205376+1237940039285380274899124224+i * 1048577+p.1)∧cA (ab G1') (ab p.2)∧ab p.2 j=some ⟨66,5,rows,q⟩) (fun q=>bF y - q.1) (0,G1') ⟨cq _,hI1'.grow (by omega),cA.refl _,hg1⟩ (Wk.of2 ?_ (fun _ _ h=>h)) ?_
  ·simp only [go_sem];try simp
  rintro ⟨k,GA⟩ ⟨hki,hIA,hSA,hgA⟩
  simp only at hki hIA hSA hgA
  have hkA:=hIA.fam.kill
  by_cases h3:(k:Int)<(bF y:Int)
  ·obtain ⟨jj,rI,qI,hjj,rfl,hgI,hil2⟩:=(hy1.same hSA).at (i:=k) (by omega)
   have h4:(k:Int)<(rI.length:Int):=h3
   have b2:(0≤(k:Int)∧(k:Int)<(rI.length:Int))=True:=eq_true ⟨by omega,h4⟩
   obtain ⟨rr,hrr,hrrk⟩:=hIA.fam.row hgI hil2
   obtain ⟨z,hz,rfl⟩:=cB.one hrrk
   have ldz:=fA (st:=1) (t:=58) (q:=qI) (off:=0) (x:=z) hrr rfl
   have hqI:qI=true:=(hIA.fam.typ _ _ _ _ _ hgI).its rfl (fun e=>by rw [e] at hil2;cases hil2)
   subst hqI
   have e9:=wi (n:=(k:Int)+1) (by omega) (by omega)
   have hjjk:=ey hjj
   have hjjk':=fG hjj
   simp only [go_sem,az h4,hjk,hjk',hjjk,hjjk',b1,b2,true_and,hkA,hgA,hgI,ldy,ldz]
   refine fL (lc GA hIA.fam z hz) hIA (by omega) fun GB hIB hSB=>?_
   have hgB:=hSB.hi _ _ hgA rfl
   have hgJ:=hSB.hi _ _ hgI rfl
   have hjb:∀k,k<1000→(jj==k)=false:=fun k hk=>by simp only [i1,ne_eq];omega
   have hpr:∀k,k<1000→bV k ⟨33,12,[[a0,a1,a2,a3,a4,a5,a6,.bool a7,.int .i64 a8,(.ms j 5 0 rows.length),a10,a11]],true⟩ =⟨33,12,[[a0,a1,a2,a3,a4,a5,a6,.bool a7,.int .i64 a8,(.ms j 5 0 rows.length),a10,a11]],true⟩:=fun k hk=>dS (fun x hx=>(hids x hx).1) hk
   have hso:=m_ (j:=jj) (st:=1) (t:=58) (q:=true) (i:=k) (off:=0) (x:=.ms 207 9 0 1) hrr rfl (.inl rfl)
   simp only [go_sem,hjk,hjk',hjjk,hjjk',b1,b2,true_and,hIB.fam.pur,hIB.fam.del,hgB,hgJ,ldy,hjb,↓hpr,hso,e9]
   obtain ⟨N,hN⟩:∃N,N=1267650600228229401496703205376+1237940039285380274899124224+i * 1048577+k:=⟨_,rfl⟩
   rw [← hN] at hIB
   have hn:ab GB N=none:=by
    cases h:ab GB N with
    | none=>rfl
    | some o=>exact absurd (hIB.bd _ (aR h)).2 (Nat.lt_irrefl _)
   obtain ⟨f1,f2⟩:=hIB.fam.new (N:=N) (by omega) hn (t:=79) (st:=9) (rows:=[[.int .i64 (-1),.int .i64 0,.int .i64 0,.int .u64 0,.int .i64 0,.int .i64 0,.int .i64 0,.nl,.nl]]) (q:=false) ⟨by decide,by rfl,fun r hr=>by rw [eL.1 hr];exact JB,fun _ r hr x hx=>by rw [eL.1 hr] at hx;exact cZ.1 (show List.all [.int .i64 (-1),.int .i64 0,.int .i64 0,.int .u64 0,.int .i64 0,.int .i64 0,.int .i64 0,.nl,.nl] db=true from rfl) x hx,fun h=>by cases h⟩
   have hNj:N≠jj:=fun e=>by rw [e,hgJ] at hn;cases hn
   have hNj':N≠j:=fun e=>by rw [e,hgB] at hn;cases hn
   have hjj':jj≠j:=fun e=>by rw [e,hgB] at hgJ;cases hgJ
   obtain ⟨f3,f4⟩:=dp.setc (L:=fun _=>true) rfl f1 (j:=jj) (t:=58) (st:=1) (rows:=rI) (q:=true) (by simp only [ab,aJ hNj];exact hgJ) (i:=k) (off:=0) (k:=.l 79 9) (x:=.ms N 9 0 1) hrr (by rfl) (.inr (.inr ⟨N,[[.int .i64 (-1),.int .i64 0,.int .i64 0,.int .u64 0,.int .i64 0,.int .i64 0,.int .i64 0,.nl,.nl]],false,by omega,rfl,by simp only [ab,cX]⟩)) (.inl rfl)
   refine aA (k+1,_) ⟨(show k+1≤rI.length by omega),by rw [← EM,← hN];exact hIB.put (by omega) f2 f3 f4,(hSA.trans hSB.same).trans (f2.trans f4.same),(oI hjj').trans (by simp only [ab,aJ hNj'];exact hgB)⟩ (show rI.length - (k+1)<rI.length - k by omega) ((Wk.ren _ [(207,N)] (fun x h1 h2=>?_)).trans (Wk.of2 ?_ (uH (fun p hp=>⟨cE (by decide) (hIB.bd p hp).1,(hIB.bd p hp).2⟩) hIB.fam.cl (fun x hx=>⟨(hids x hx).1,Nat.lt_of_lt_of_le (hids x hx).2 (by omega)⟩) rfl hgJ (by omega))))
   ·show cM 207 N x=x
    unfold cM
    rw [aJ (by omega),aJ (by omega)]
   ·have hs1:cM 207 N 1=1:=by
     unfold cM
     rw [aJ (by decide),aJ (by omega)]
    simp only [Mf,kK]
    simp only [go_sem,renV,gh,cQ,gT,fw,hs1]
    try simp
  obtain rfl:k=bF y:=by omega
  simp only [go_sem,au h3,hjk,hjk',b1,true_and,hkA,hgA,ldy,ly]
  obtain ⟨_,hc,⟨n,rfl⟩⟩:=hrk.get (off:=0) (by rfl)
  have ld:=fA (st:=5) (t:=66) (q:=q) hr hc
  have hso:=m_ (j:=j) (st:=5) (t:=66) (q:=q) (x:=.int .i64 (gE .i64 n 1)) hr hc (.inr rfl)
  obtain ⟨f1,f2⟩:=dp.setc (L:=fun _=>true) rfl hIA.fam hgA (i:=i) (off:=0) (k:=.i .i64) (x:=.int .i64 (gE .i64 n 1)) hr (by rfl) ⟨_,rfl⟩ (.inr rfl)
  simp only [go_sem,az hd,hjk,hjk',b1,true_and,hkA,hgA,ld,hso,e8]
  refine aA (i+1,_) ⟨(show i+1≤rows.length by omega),(hIA.stay f1 f2).grow (by show _≤1267650600228229401496703205376+1237940039285380274899124224+(i+1) * 1048577;omega)⟩ (show rows.length - (i+1)<rows.length - i by omega) (Wk.of2 ?_ (eF hj))
  ·simp only [go_sem];try simp
 obtain rfl:i=bF a9:=by omega
 simp only [go_sem,au h8',l9,hk8]
 refine an (fun q:Nat×List (Nat×ac)=>⟨[(11,.int .i64 q.1),(1,.mp 1 12 0 0)],(1,⟨33,12,[[a0,a1,a2,a3,a4,a5,a6,.bool a7,.int .i64 a8,a9,a10,a11]],true⟩) :: q.2⟩) (fun q=>q.1≤bF a10∧GI G0 q.2 (1267650600228229401496703205376+1237940039285380274899124224+1048577 * 1048577)) (fun q=>bF a10 - q.1) (0,G8_) ⟨cq _,hI8.grow (by omega)⟩ (Wk.of2 ?_ (fun _ _ h=>h)) ?_
 ·simp only [go_sem];try simp
 rintro ⟨i,G9_⟩ ⟨hi9,hI9⟩
 simp only at hi9 hI9
 have hk9:=hI9.fam.kill
 by_cases h9':(i:Int)<(bF a10:Int)
 ·obtain ⟨j,rows,q,hj,rfl,hg,hil⟩:=(h10.same hI9.same).at (i:=i) (by omega)
  have hd:(i:Int)<(rows.length:Int):=h9'
  have e8:=wi (n:=(i:Int)+1) (by omega) (by omega)
  have b1:(0≤(i:Int)∧(i:Int)<(rows.length:Int))=True:=eq_true ⟨by omega,hd⟩
  have hjk:=ey hj
  have hjk':=fG hj
  obtain ⟨r,hr,hrk⟩:=hI9.fam.row hg hil
  obtain ⟨x1,hc1,hx1⟩:=hrk.get (off:=2) (by rfl)
  have ld1:=fA (st:=4) (t:=69) (q:=q) hr hc1
  simp only [go_sem,az hd,hjk,hjk',b1,true_and,hk9,hg,ld1]
  refine fL (lc G9_ hI9.fam x1 (cb.same (cA.refl _) hx1)) hI9 (by decide) fun G1' hI1' hS1=>?_
  have hk1':=hI1'.fam.kill
  have hg1:=hS1.hi _ _ hg rfl
  simp only [go_sem]
  obtain ⟨x2,hc2,hx2⟩:=hrk.get (off:=3) (by rfl)
  have ld2:=fA (st:=4) (t:=69) (q:=q) hr hc2
  simp only [go_sem,az hd,hjk,hjk',b1,true_and,hk1',hg1,ld2]
  refine fL (k_ G1' hI1'.fam .nl x2 (.inl rfl) (cb.same hS1.same hx2)) hI1' (by decide) fun G2' hI2' hS2=>?_
  have hk2':=hI2'.fam.kill
  have hg2:=hS2.hi _ _ hg1 rfl
  simp only [go_sem]
  obtain ⟨_,hc,⟨n,rfl⟩⟩:=hrk.get (off:=0) (by rfl)
  have ld:=fA (st:=4) (t:=69) (q:=q) hr hc
  have hso:=m_ (j:=j) (st:=4) (t:=69) (q:=q) (x:=.int .i64 (gE .i64 n 1)) hr hc (.inr rfl)
  obtain ⟨f1,f2⟩:=dp.setc (L:=fun _=>true) rfl hI2'.fam hg2 (i:=i) (off:=0) (k:=.i .i64) (x:=.int .i64 (gE .i64 n 1)) hr (by rfl) ⟨_,rfl⟩ (.inr rfl)
  simp only [go_sem,az hd,hjk,hjk',b1,true_and,hk2',hg2,ld,hso,e8]
  refine aA (i+1,_) ⟨(show i+1≤rows.length by omega),hI2'.stay f1 f2⟩ (show rows.length - (i+1)<rows.length - i by omega) (Wk.of2 ?_ (eF hj))
  ·simp only [go_sem];try simp
 obtain rfl:i=bF a10:=by omega
 simp only [go_sem,au h9',l10,hk9]
 refine an (fun q:Nat×List (Nat×ac)=>⟨[(12,.int .i64 q.1),(1,.mp 1 12 0 0)],(1,⟨33,12,[[a0,a1,a2,a3,a4,a5,a6,.bool a7,.int .i64 a8,a9,a10,a11]],true⟩) :: q.2⟩) (fun q=>q.1≤bF a11∧GI G0 q.2 (1267650600228229401496703205376+1237940039285380274899124224+1048577 * 1048577)) (fun q=>bF a11 - q.1) (0,G9_) ⟨cq _,hI9⟩ (Wk.of2 ?_ (fun _ _ h=>h)) ?_
 ·simp only [go_sem];try simp
 rintro ⟨i,G10_⟩ ⟨hi10,hI10⟩
 simp only at hi10 hI10
 have hk10:=hI10.fam.kill
 by_cases h10':(i:Int)<(bF a11:Int)
 ·obtain ⟨j,rows,q,hj,rfl,hg,hil⟩:=(h11.same hI10.same).at (i:=i) (by omega)
  have hd:(i:Int)<(rows.length:Int):=h10'
  have e8:=wi (n:=(i:Int)+1) (by omega) (by omega)
  have b1:(0≤(i:Int)∧(i:Int)<(rows.length:Int))=True:=eq_true ⟨by omega,hd⟩
  have hjk:=ey hj
  have hjk':=fG hj
  obtain ⟨r,hr,hrk⟩:=hI10.fam.row hg hil
  obtain ⟨x1,hc1,hx1⟩:=hrk.get (off:=2) (by rfl)
  have ld1:=fA (st:=3) (t:=71) (q:=q) hr hc1
  simp only [go_sem,az hd,hjk,hjk',b1,true_and,hk10,hg,ld1]
  refine fL (k_ G10_ hI10.fam .nl x1 (.inl rfl) (cb.same (cA.refl _) hx1)) hI10 (by decide) fun G1' hI1' hS1=>?_
  have hk1':=hI1'.fam.kill
  have hg1:=hS1.hi _ _ hg rfl
  simp only [go_sem]
  obtain ⟨_,hc,⟨n,rfl⟩⟩:=hrk.get (off:=0) (by rfl)
  have ld:=fA (st:=3) (t:=71) (q:=q) hr hc
  have hso:=m_ (j:=j) (st:=3) (t:=71) (q:=q) (x:=.int .i64 (gE .i64 n 1)) hr hc (.inr rfl)
  obtain ⟨f1,f2⟩:=dp.setc (L:=fun _=>true) rfl hI1'.fam hg1 (i:=i) (off:=0) (k:=.i .i64) (x:=.int .i64 (gE .i64 n 1)) hr (by rfl) ⟨_,rfl⟩ (.inr rfl)
  simp only [go_sem,az hd,hjk,hjk',b1,true_and,hk1',hg1,ld,hso,e8]
  refine aA (i+1,_) ⟨(show i+1≤rows.length by omega),hI1'.stay f1 f2⟩ (show rows.length - (i+1)<rows.length - i by omega) (Wk.of2 ?_ (eF hj))
  ·simp only [go_sem];try simp
 obtain rfl:i=bF a11:=by omega
 simp only [go_sem,au h10',l11,hk10]
 exact eX (fun _ h=>by cases h) (.tup []) [] rfl (fun _ _ h=>by cases h) ⟨fun i hi=>(by cases hi),fun p hp=>(by cases hp)⟩ ⟨rfl,rfl⟩
end
section
theorem eO.wk {l:List iw} {Post:AV→List (Nat×ac)→Prop} {e:IX} {s s':St} (h:Wk s s') (hd:eO l Post e s'):eO l Post e s:=by
 obtain ⟨h1,s1,h2,h3⟩:=hd
 exact ⟨h1,s1,h.trans h2,h3⟩
attribute [local go_sem] dn
theorem CS (rows:List (List AV)) (h:rows.length≤1048576):aE Tryz.prog Ur [.sl 1 rows] [] sb (fun r σ'=>r = .ms 5 1 0 rows.length∧σ'=[(5,⟨49,1,rows,false⟩)]):=by
 refine aP (ic:=N6.body) ap Vl rfl rfl ?_
 have ha:=ct 5 49 1 rows
 simp only [go_sem,N6]
 refine dM _ _ _ _ ⟨?_,fun h0=>?_⟩
 ·simp only [go_sem,ha]
  refine ⟨by omega,?_⟩
  refine done [] (.ms 5 1 0 rows.length) [(5,⟨49,1,rows,false⟩)] ?_ ?_ (by rfl) ⟨rfl,rfl⟩
  ·simp only [go_sem];try simp
  ·simp only [go_sem];try simp
 ·subst h0
  simp only [go_sem]
  refine eO.wk (Wk.nil _ 2 5 1 49 (by simp only [go_sem]) (.inl (by decide))) ?_
  refine done [] (.ms 5 1 0 0) [(5,⟨49,1,[],false⟩)] ?_ ?_ (by rfl) ⟨rfl,rfl⟩
  ·simp only [go_sem,St.mknil];try simp [go_sem]
  ·simp only [go_sem,St.mknil];try simp [go_sem]
theorem LU (rows:List (List AV)) (h:rows.length≤1048576):aE Tryz.prog QA [.sl 1 rows] [] sb (fun r σ'=>r = .ms 5 1 0 rows.length∧σ'=[(5,⟨3,1,rows,false⟩)]):=by
 refine aP (ic:=zC.body) ap O6 rfl rfl ?_
 have ha:=ct 5 3 1 rows
 simp only [go_sem,zC]
 refine dM _ _ _ _ ⟨?_,fun h0=>?_⟩
 ·simp only [go_sem,ha]
  refine ⟨by omega,?_⟩
  refine done [] (.ms 5 1 0 rows.length) [(5,⟨3,1,rows,false⟩)] ?_ ?_ (by rfl) ⟨rfl,rfl⟩
  ·simp only [go_sem];try simp
  ·simp only [go_sem];try simp
 ·subst h0
  simp only [go_sem]
  refine eO.wk (Wk.nil _ 2 5 1 3 (by simp only [go_sem]) (.inl (by decide))) ?_
  refine done [] (.ms 5 1 0 0) [(5,⟨3,1,[],false⟩)] ?_ ?_ (by rfl) ⟨rfl,rfl⟩
  ·simp only [go_sem,St.mknil];try simp [go_sem]
  ·simp only [go_sem,St.mknil];try simp [go_sem]
theorem LR (rows:List (List AV)) (h:rows.length≤1048576):aE Tryz.prog Mr [.sl 1 rows] [] sb (fun r σ'=>r = .ms 5 1 0 rows.length∧σ'=[(5,⟨5,1,rows,false⟩)]):=by
 refine aP (ic:=zm.body) ap OF rfl rfl ?_
 have ha:=ct 5 5 1 rows
 simp only [go_sem,zm]
 refine dM _ _ _ _ ⟨?_,fun h0=>?_⟩
 ·simp only [go_sem,ha]
  refine ⟨by omega,?_⟩
  refine done [] (.ms 5 1 0 rows.length) [(5,⟨5,1,rows,false⟩)] ?_ ?_ (by rfl) ⟨rfl,rfl⟩
  ·simp only [go_sem];try simp
  ·simp only [go_sem];try simp
 ·subst h0
  simp only [go_sem]
  refine eO.wk (Wk.nil _ 2 5 1 5 (by simp only [go_sem]) (.inl (by decide))) ?_
  refine done [] (.ms 5 1 0 0) [(5,⟨5,1,[],false⟩)] ?_ ?_ (by rfl) ⟨rfl,rfl⟩
  ·simp only [go_sem,St.mknil];try simp [go_sem]
  ·simp only [go_sem,St.mknil];try simp [go_sem]
theorem LT (rows:List (List AV)) (h:rows.length≤1048576):aE Tryz.prog Vu [.sl 13 rows] [] sb (fun r σ'=>r = .ms 5 13 0 rows.length∧σ'=[(5,⟨57,13,rows,false⟩)]):=by
 refine aP (ic:=N3.body) ap Vi rfl rfl ?_
 have ha:=ct 5 57 13 rows
 simp only [go_sem,N3]
 refine dM _ _ _ _ ⟨?_,fun h0=>?_⟩
 ·simp only [go_sem,ha]
  refine ⟨by omega,?_⟩
  refine done [] (.ms 5 13 0 rows.length) [(5,⟨57,13,rows,false⟩)] ?_ ?_ (by rfl) ⟨rfl,rfl⟩
  ·simp only [go_sem];try simp
  ·simp only [go_sem];try simp
 ·subst h0
  simp only [go_sem]
  refine eO.wk (Wk.nil _ 2 5 13 57 (by simp only [go_sem]) (.inl (by decide))) ?_
  refine done [] (.ms 5 13 0 0) [(5,⟨57,13,[],false⟩)] ?_ ?_ (by rfl) ⟨rfl,rfl⟩
  ·simp only [go_sem,St.mknil];try simp [go_sem]
  ·simp only [go_sem,St.mknil];try simp [go_sem]
theorem LW (rows:List (List AV)) (h:rows.length≤1048576):aE Tryz.prog Vw [.sl 4 rows] [] sb (fun r σ'=>r = .ms 5 4 0 rows.length∧σ'=[(5,⟨53,4,rows,false⟩)]):=by
 refine aP (ic:=N5.body) ap Vk rfl rfl ?_
 have ha:=ct 5 53 4 rows
 simp only [go_sem,N5]
 refine dM _ _ _ _ ⟨?_,fun h0=>?_⟩
 ·simp only [go_sem,ha]
  refine ⟨by omega,?_⟩
  refine done [] (.ms 5 4 0 rows.length) [(5,⟨53,4,rows,false⟩)] ?_ ?_ (by rfl) ⟨rfl,rfl⟩
  ·simp only [go_sem];try simp
  ·simp only [go_sem];try simp
 ·subst h0
  simp only [go_sem]
  refine eO.wk (Wk.nil _ 2 5 4 53 (by simp only [go_sem]) (.inl (by decide))) ?_
  refine done [] (.ms 5 4 0 0) [(5,⟨53,4,[],false⟩)] ?_ ?_ (by rfl) ⟨rfl,rfl⟩
  ·simp only [go_sem,St.mknil];try simp [go_sem]
  ·simp only [go_sem,St.mknil];try simp [go_sem]
theorem LV (rows:List (List AV)) (h:rows.length≤1048576):aE Tryz.prog Vv [.sl 3 rows] [] sb (fun r σ'=>r = .ms 5 3 0 rows.length∧σ'=[(5,⟨51,3,rows,false⟩)]):=by
 refine aP (ic:=N4.body) ap Vj rfl rfl ?_
 have ha:=ct 5 51 3 rows
 simp only [go_sem,N4]
 refine dM _ _ _ _ ⟨?_,fun h0=>?_⟩
 ·simp only [go_sem,ha]
  refine ⟨by omega,?_⟩
  refine done [] (.ms 5 3 0 rows.length) [(5,⟨51,3,rows,false⟩)] ?_ ?_ (by rfl) ⟨rfl,rfl⟩
  ·simp only [go_sem];try simp
  ·simp only [go_sem];try simp
 ·subst h0
  simp only [go_sem]
  refine eO.wk (Wk.nil _ 2 5 3 51 (by simp only [go_sem]) (.inl (by decide))) ?_
  refine done [] (.ms 5 3 0 0) [(5,⟨51,3,[],false⟩)] ?_ ?_ (by rfl) ⟨rfl,rfl⟩
  ·simp only [go_sem,St.mknil];try simp [go_sem]
  ·simp only [go_sem,St.mknil];try simp [go_sem]
theorem LS (rows:List (List AV)) (h:rows.length≤1048576):aE Tryz.prog Vt [.sl 3 rows] [] sb (fun r σ'=>r = .ms 5 3 0 rows.length∧σ'=[(5,⟨64,3,rows,false⟩)]):=by
 refine aP (ic:=N2.body) ap Vh rfl rfl ?_
 have ha:=ct 5 64 3 rows
 simp only [go_sem,N2]
 refine dM _ _ _ _ ⟨?_,fun h0=>?_⟩
 ·simp only [go_sem,ha]
  refine ⟨by omega,?_⟩
  refine done [] (.ms 5 3 0 rows.length) [(5,⟨64,3,rows,false⟩)] ?_ ?_ (by rfl) ⟨rfl,rfl⟩
  ·simp only [go_sem];try simp
  ·simp only [go_sem];try simp
 ·subst h0
  simp only [go_sem]
  refine eO.wk (Wk.nil _ 2 5 3 64 (by simp only [go_sem]) (.inl (by decide))) ?_
  refine done [] (.ms 5 3 0 0) [(5,⟨64,3,[],false⟩)] ?_ ?_ (by rfl) ⟨rfl,rfl⟩
  ·simp only [go_sem,St.mknil];try simp [go_sem]
  ·simp only [go_sem,St.mknil];try simp [go_sem]
end
section
theorem dT (ρ:Nat→Nat) (i s o l:Nat):cQ ρ (.ms i s o l) = .ms (ρ i) s o l:=rfl
theorem pd (ρ:Nat→Nat) (i s o l:Nat):cQ ρ (.mp i s o l) = .mp (ρ i) s o l:=rfl
theorem tu (ρ:Nat→Nat) (s:Nat) (l:List (List AV)):cQ ρ (.sl s l) = .sl s l:=rfl
theorem lU (ρ:Nat→Nat) (k:IntKind) (n:Int):cQ ρ (.int k n) = .int k n:=rfl
theorem u6 (ρ:Nat→Nat) (b:Bool):cQ ρ (.bool b) = .bool b:=rfl
theorem jS (a b i:Nat):fw [(a,b)] i=if i=a then b else if i=b then a else i:=rfl
theorem Pv (a b c d i:Nat):fw [(a,b),(c,d)] i=fw [(c,d)] (fw [(a,b)] i):=rfl
structure iW (b n:Nat) (ks:List CK) (ys cs:List AV) (G:List (Nat×ac)):Prop where
 fam:dp G
 nm:∀p∈G,b≤p.1∧p.1<b+n
 row:cB (ab G) ks cs
 rep:aC (Rep (ab G)) cs ys
structure gC (b n:Nat) (T:TypeId) (st:Nat) (y r:AV) (G:List (Nat×ac)):Prop where
 fam:dp G
 nm:∀p∈G,b≤p.1∧p.1<b+n
 ok:cb (ab G) T st r
 rep:Rep (ab G) r y
theorem cB.ids {G:Nat→Option ac} {ks:List CK} {cs:List AV} (h:cB G ks cs):∀x∈cs,∀i∈be x,1000≤i∧(G i).isSome=true:=fun x hx i hi=>by
 obtain ⟨k,hk⟩:=aC.mem h x hx
 exact hk.ids i hi
theorem iW.cl {b n:Nat} {ks:List CK} {ys cs:List AV} {G:List (Nat×ac)} (h:iW b n ks ys cs G):fX (.agg cs) G :=
 ⟨fun i hi=>by
  obtain ⟨x,h1,h2⟩:=fc.1 hi
  exact (h.row.ids x h1 i h2).2,h.fam.cl⟩
theorem gC.cl {b n:Nat} {T:TypeId} {st:Nat} {y r:AV} {G:List (Nat×ac)} (h:gC b n T st y r G):fX r G :=
 ⟨fun i hi=>by
  rcases h.ok with h1 | h1 | ⟨j,rows,q,h1,h2,h3⟩
  ·rw [h1] at hi;cases hi
  ·rw [h1] at hi;cases hi
  ·rw [h2] at hi
   have:i=j:=eL.1 hi
   rw [this,h3]
   rfl,h.fam.cl⟩
theorem dp.nil:dp []:=⟨fun _ h=>(by cases h),fun _ _ _ _ _ h=>(by cases h),fun _ h=>(by cases h)⟩
def cY (rows:List (List AV)):Prop:=∀r∈rows,∀x∈r,db x=true∧iS x=false
theorem cA.none (G:Nat→Option ac):cA (fun _=>none) G:=fun _ _ _ _ _ h=>(by cases h)
theorem tU.flat {G:Nat→Option ac} {t:TypeId} {st:Nat} {rows:List (List AV)} (hl:rows.length≤1048576) (hs:st=(gn t).length) (hr:∀r∈rows,cB (fun _=>none) (gn t) r) (hf:cY rows) (ht:t≠58):tU G t st rows false :=
 ⟨hl,hs,fun r h=>(hr r h).same (cA.none G),fun _ r h x hx=>(hf r h x hx).1,fun h=>absurd h ht⟩
theorem kX {G:Nat→Option ac} {id st:Nat} {t:TypeId} {q:Bool} {rows:List (List AV)} (hG:G id=some ⟨t,st,rows,q⟩) (hf:cY rows):Rep G (.ms id st 0 rows.length) (.sl st rows) :=
 .ms id st t q rows rows hG rfl (fun i r' r h1 h2=>by rw [h1] at h2;cases h2;rfl) (fun i j r' r x y h1 h2 h3 h4=>by
  rw [h1] at h2
  cases h2
  rw [h3] at h4
  cases h4
  have:=hf r' (f7 h1) x (f7 h3)
  exact .imm x this.1 this.2)
theorem nJ (l:List Int):cY (l.map dI):=fun r hr x hx=>by
 obtain ⟨n,_,rfl⟩:=List.mem_map.1 hr
 rw [eL.1 hx]
 exact ⟨rfl,rfl⟩
theorem Gq (l:List UInt8):cY (l.map ni):=fun r hr x hx=>by
 obtain ⟨n,_,rfl⟩:=List.mem_map.1 hr
 rw [eL.1 hx]
 exact ⟨rfl,rfl⟩
theorem ka {A B:List (Nat×ac)} {j:Nat} {o:ac} (h:ab A j=some o):ab (A++B) j=some o:=by rw [eE,h]
theorem pt {G:List (Nat×ac)} {N:Nat} {T:TypeId} {st:Nat} {rows:List (List AV)} {q:Bool} (hN:1000≤N):cb (ab ((N,⟨T,st,rows,q⟩) :: G)) T st (.ms N st 0 rows.length):=.inr (.inr ⟨N,rows,q,hN,rfl,by simp only [ab,cX]⟩)
theorem dp.vl {G:List (Nat×ac)} (hF:dp G) {N:Nat} (hN:1000≤N) (hn:ab G N=none) (t:TypeId) (ht:t=49∨t=3) (l:List Int) (hl:l.length≤1048576):dp ((N,⟨t,1,l.map dI,false⟩) :: G)∧cA (ab G) (ab ((N,⟨t,1,l.map dI,false⟩) :: G)):=by
 refine hF.new hN hn (.flat (by rw [dn];exact hl) ?_ (fun r hr=>?_) (nJ l) ?_)
 ·rcases ht with rfl | rfl<;>rfl
 ·obtain ⟨n,_,rfl⟩:=List.mem_map.1 hr
  rcases ht with rfl | rfl<;>exact ⟨⟨_,rfl⟩,trivial⟩
 ·rcases ht with rfl | rfl<;>decide
theorem wt {G:List (Nat×ac)} {N:Nat} {o:ac} (hn:ab G N=none) {x y:AV} (h:Rep (ab G) x y):Rep (ab ((N,o) :: G)) x y:=h.mono fun id o' h1=>by
 simp only [ab]
 rw [aJ (fun e=>by subst e;rw [hn] at h1;cases h1)]
 exact h1
attribute [local go_sem] dn
theorem LM (x:cN) (h:Pj x) (b:Nat) (hb:1267650600228229401496703205376≤b):aE Tryz.prog qz [.agg (aU x)] [] sb (fun r G=>∃cs,r = .agg cs∧iW b 2 (gn 79) (aU x) cs G):=by
 refine aP (ic:=r6.body) ap Jb rfl rfl ?_
 simp only [go_sem,r6,aU]
 refine gl (CS (x.ty.map dI) (by rw [dn];exact h.1)) rfl (by simp [go_sem]) ?_
 simp only [go_sem]
 refine gl (LU (x.lb.map dI) (by rw [dn];exact h.2.1)) rfl (by simp [go_sem]) ?_
 simp only [go_sem]
 have nb:=ey (j:=b) (by omega)
 have nb':=fG (j:=b) (by omega)
 have nc:=ey (j:=b+1) (by omega)
 have nc':=fG (j:=b+1) (by omega)
 have n1:(b=b+1)=False:=eq_false (by omega)
 have n2:(b+1=b)=False:=eq_false (by omega)
 refine eO.wk ((Wk.ren _ [(5,b),(8,b+1)] (fun k h1 h2=>?_)).trans (Wk.of (s':=⟨[(2,.mp 2 9 0 0)],[(b+1,⟨3,1,x.lb.map dI,false⟩),(b,⟨49,1,x.ty.map dI,false⟩),(2,⟨79,9,[[.int .i64 x.op,.int .i64 x.a,.int .i64 x.b,.int .u64 x.n,.int .i64 x.k,.int .i64 x.v,.int .i64 x.x,.ms b 1 0 x.ty.length,.ms (b+1) 1 0 x.lb.length]],true⟩)]⟩) ?_ ?_)) ?_
 ·show cM 5 b (cM 8 (b+1) k)=k
  unfold cM
  rw [aJ (by omega:¬k=8),aJ (by omega:¬k=b+1),aJ (by omega),aJ (by omega)]
 ·simp only [go_sem,jI,renV,gh,pd,dT,lU,tu,jS,Pv,nb,nb',nc,nc']
  try simp
 ·simp only [go_sem,cS,dD,ee,List.map_nil,pd,dT,lU,tu,jS,Pv,nb,nb',nc,nc',n1,n2]
  try simp
 obtain ⟨f1,g1⟩:=dp.nil.vl (N:=b) (by omega) rfl 49 (.inl rfl) x.ty h.1
 obtain ⟨f2,g2⟩:=f1.vl (N:=b+1) (by omega) (by simp [ab]) 3 (.inr rfl) x.lb h.2.1
 rw [show x.ty.length=(x.ty.map dI).length from (dn ..).symm,show x.lb.length=(x.lb.map dI).length from (dn ..).symm]
 have out:iW b 2 (gn 79) (aU x) [.int .i64 x.op,.int .i64 x.a,.int .i64 x.b,.int .u64 x.n,.int .i64 x.k,.int .i64 x.v,.int .i64 x.x,.ms b 1 0 (x.ty.map dI).length,.ms (b+1) 1 0 (x.lb.map dI).length] [(b+1,⟨3,1,x.lb.map dI,false⟩),(b,⟨49,1,x.ty.map dI,false⟩)]:=by
  refine ⟨f2,fun p hp=>?_,?_,?_⟩
  ·simp only [bE,List.not_mem_nil,or_false] at hp
   rcases hp with rfl | rfl<;>exact ⟨by simp,by simp⟩
  ·exact ⟨⟨_,rfl⟩,⟨_,rfl⟩,⟨_,rfl⟩,⟨_,rfl⟩,⟨_,rfl⟩,⟨_,rfl⟩,⟨_,rfl⟩,(pt (by omega)).same g2,pt (by omega),trivial⟩
  ·exact ⟨.imm _ rfl rfl,.imm _ rfl rfl,.imm _ rfl rfl,.imm _ rfl rfl,.imm _ rfl rfl,.imm _ rfl rfl,.imm _ rfl rfl,wt (by simp [ab]) (kX (t:=49) (q:=false) (by simp only [ab,cX]) (nJ _)),kX (t:=3) (q:=false) (by simp only [ab,cX]) (nJ _),trivial⟩
 exact eX (fun _ h=>by cases h) (.agg _) _ (by simp only [go_sem,nb,nc]) (fun j o h=>ka (B:=[(2,_)]) h) out.cl ⟨_,rfl,out⟩
end
section
theorem oJ {A B:List (Nat×ac)} (hd:∀p∈A,∀q∈B,p.1≠q.1) {j:Nat} {o:ac} (h:ab B j=some o):ab (A++B) j=some o:=by
 rw [eE]
 cases ha:ab A j with
 | none=>exact h
 | some o'=>exact absurd rfl (hd (j,o') (aR ha) (j,o) (aR h))
theorem dp.app {A B:List (Nat×ac)} (hA:dp A) (hB:dp B) (hd:∀p∈A,∀q∈B,p.1≠q.1):dp (A++B)∧cA (ab A) (ab (A++B))∧cA (ab B) (ab (A++B)):=by
 have s1:cA (ab A) (ab (A++B)):=fun j t st r q h=>⟨r,ka h,rfl⟩
 have s2:cA (ab B) (ab (A++B)):=fun j t st r q h=>⟨r,oJ hd h,rfl⟩
 refine ⟨⟨fun p hp=>?_,fun j t st r q h=>?_,fun p hp i hi=>?_⟩,s1,s2⟩
 ·rcases dz.1 hp with hp | hp
  ·exact hA.nm p hp
  ·exact hB.nm p hp
 ·rw [eE] at h
  cases ha:ab A j with
  | none=>rw [ha] at h;exact (hB.typ _ _ _ _ _ h).same s2
  | some o=>rw [ha] at h;cases h;exact (hA.typ _ _ _ _ _ ha).same s1
 ·rcases dz.1 hp with hp | hp
  ·obtain ⟨o,ho⟩:=Option.isSome_iff_exists.1 (hA.cl p hp i hi)
   rw [ka ho];rfl
  ·obtain ⟨o,ho⟩:=Option.isSome_iff_exists.1 (hB.cl p hp i hi)
   rw [oJ hd ho];rfl
theorem Jl {x:AV} (h:∀i∈be x,1000≤i):∀k,k<1000→mC k x=false:=fun k hk=>by
 cases hm:mC k x with
 | false=>rfl
 | true=>have:=h k (iG hm);omega
theorem j5 {G:Nat→Option ac} {ks:List CK} {cs:List AV} (h:cB G ks cs):∀k,k<1000→cs.any (mC k)=false:=fun k hk=>List.any_eq_false.2 fun x hx=>by rw [Jl (fun i hi=>(h.ids x hx i hi).1) k hk];decide
theorem dd {G:Nat→Option ac} {ks:List CK} {R:List (List AV)} (h:∀r∈R,cB G ks r):∀k,k<1000→kW k R=true:=fun k hk=>cZ.2 fun r hr=>cZ.2 fun x hx=>by rw [Jl (fun i hi=>((h r hr).ids x hx i hi).1) k hk];rfl
theorem th {G:Nat→Option ac} {ks:List CK} {cs:List AV} (h:cB G ks cs) {t:TypeId} {st:Nat} {q:Bool}:∀k,k<1000→bV k ⟨t,st,[cs],q⟩ =⟨t,st,[cs],q⟩:=fun k hk=>dS (fun x hx=>by
 unfold bo at hx
 split at hx
 ·simp only [pB,List.flatMap_nil,mM] at hx
  obtain ⟨y,h1,h2⟩:=fc.1 hx
  exact (h.ids y h1 x h2).1
 ·cases hx) hk
section
variable {α:Type} {b N:Nat} {ks:List CK} {C:α→List AV} {l:List α}
structure EI (b N:Nat) (ks:List CK) (C:α→List AV) (l:List α) (i:Nat) (R:List (List AV)) (G:List (Nat×ac)):Prop where
 fam:dp G
 nm:∀p∈G,b+1≤p.1∧p.1<b+1+N * i
 len:R.length=i
 row:∀r∈R,cB (ab G) ks r
 rep:∀(k:Nat) (r:List AV) (x:α),R[k]? = some r→l[k]? = some x→aC (Rep (ab G)) r (C x)
theorem EI.ids {i:Nat} {R:List (List AV)} {G:List (Nat×ac)} (h:EI b N ks C l i R G) {t:TypeId} {st:Nat} {q:Bool}:∀x∈bo ⟨t,st,R,q⟩,b+1≤x∧x<b+1+N * i:=fun x hx=>by
 unfold bo at hx
 split at hx
 ·obtain ⟨r,h1,h2⟩:=fc.1 hx
  obtain ⟨y,h3,h4⟩:=fc.1 h2
  obtain ⟨o,ho⟩:=Option.isSome_iff_exists.1 ((h.row r h1).ids y h3 x h4).2
  exact h.nm _ (aR ho)
 ·cases hx
theorem EI.bel {i:Nat} {R:List (List AV)} {G:List (Nat×ac)} (h:EI b N ks C l i R G):∀p∈G,p.1<b+1+N * i∧i8 (b+1+N * i) p.2:=fun p hp=>⟨(h.nm p hp).2,fun x hx=>by
 obtain ⟨o,ho⟩:=Option.isSome_iff_exists.1 (h.fam.cl p hp x hx)
 exact (h.nm _ (aR ho)).2⟩
theorem EI.zero:EI b N ks C l 0 [] []:=⟨dp.nil,fun _ h=>(by cases h),rfl,fun _ h=>(by cases h),fun k r x h=>(by cases h)⟩
theorem EI.step {i:Nat} {R:List (List AV)} {G G':List (Nat×ac)} {cs:List AV} {x:α} (h:EI b N ks C l i R G) (hx:l[i]? = some x) (ho:iW (b+1+N * i) N ks (C x) cs G'):EI b N ks C l (i+1) (R++[cs]) (G++G'):=by
 have hd:∀p∈G,∀q∈G',p.1≠q.1:=fun p hp q hq=>by
  have:=(h.nm p hp).2
  have:=(ho.nm q hq).1
  omega
 obtain ⟨f,s1,s2⟩:=h.fam.app ho.fam hd
 have e:N * (i+1)=N * i+N:=Nat.mul_succ N i
 refine ⟨f,fun p hp=>?_,by simp [h.len],fun r hr=>?_,fun k r y hr hy=>?_⟩
 ·rcases dz.1 hp with hp | hp
  ·have:=h.nm p hp;omega
  ·have:=ho.nm p hp;omega
 ·rcases dz.1 hr with hr | hr
  ·exact (h.row r hr).same s1
  ·rw [eL.1 hr];exact ho.row.same s2
 ·rw [List.getElem?_append] at hr
  split at hr
  ·exact (h.rep k r y hr hy).mono fun _ _ _ g=>g.mono fun _ _ g2=>ka g2
  ·rename_i hk
   have hk2:k=i:=by
    have:=(dE.1 hr).1
    simp only [za,h.len] at this hk
    omega
   subst hk2
   rw [hx] at hy
   cases hy
   simp only [h.len,Nat.sub_self,List.getElem?_cons_zero,bH] at hr
   subst hr
   exact ho.rep.mono fun _ _ _ g=>g.mono fun _ _ g2=>oJ hd g2
theorem EI.done {T st:Nat} {R:List (List AV)} {G:List (Nat×ac)} {q:Bool} (h:EI b N (gn T) C l l.length R G) (hb:1000≤b) (hl:l.length≤1048576) (hst:st=(gn T).length) (hq:q=false→R=[]):gC b (1+N * l.length) T st (.sl st (l.map C)) (.ms b st 0 R.length) ((b,⟨T,st,R,q⟩) :: G):=by
 have hn:ab G b=none:=by
  cases hg:ab G b with
  | none=>rfl
  | some o=>have:=(h.nm _ (aR hg)).1;simp only at this;omega
 obtain ⟨f,s⟩:=h.fam.new (N:=b) hb hn (t:=T) (st:=st) (rows:=R) (q:=q) ⟨by rw [h.len];exact hl,hst,h.row,fun hf r hr x hx=>(by rw [hq hf] at hr;cases hr),fun _ hr=>(by
  cases q with
  | true=>rfl
  | false=>exact absurd (hq rfl) hr)⟩
 refine ⟨f,fun p hp=>?_,pt hb,?_⟩
 ·rcases bE.1 hp with rfl | hp
  ·exact ⟨bD _,by show b<_;omega⟩
  ·have:=h.nm p hp;omega
 ·refine .ms b st T q R (l.map C) (by simp only [ab,cX]) (by rw [h.len];exact (dn ..).symm) (fun i r' r h1 h2=>?_) (fun i j r' r x y h1 h2 h3 h4=>?_)
  all_goals
   rw [d_] at h2
   obtain ⟨z,hz,rfl⟩:=cj.1 h2
   have hr:=h.rep i r' z h1 hz
  ·exact hr.length
  ·obtain ⟨x',hx',hr'⟩:=hr.get h4
   rw [h3] at hx'
   cases hx'
   exact wt hn hr'
theorem rN {ρ:Nat→Nat}:∀{G:List (Nat×ac)},(∀p∈G,ρ p.1=p.1∧∀i∈bo p.2,ρ i=i)→cS ρ G=G
 | [],_=>rfl
 | (k,o) :: G,h=>by
  have h1:=h (k,o) List.mem_cons_self
  simp only at h1
  rw [cS,h1.1,iJ h1.2,rN fun p hp=>h p (List.mem_cons_of_mem _ hp)]
theorem EI.name {i:Nat} {R:List (List AV)} {G:List (Nat×ac)} (h:EI b N ks C l i R G) (hb:1267650600228229401496703205376≤b) {T st:Nat} {q:Bool} (env:List (Nat×AV)):Wk ⟨env,(900,⟨T,st,R,q⟩) :: G⟩ ⟨jI (fw [(900,b)]) env,(b,⟨T,st,R,q⟩) :: G⟩:=by
 have hf:∀x,b+1≤x→fw [(900,b)] x=x:=fun x hx=>by
  show cM 900 b x=x
  unfold cM
  rw [aJ (by omega),aJ (by omega)]
 have hw:=Wk.ren ⟨env,(900,⟨T,st,R,q⟩) :: G⟩ [(900,b)] (fun x h1 h2=>by
  show cM 900 b x=x
  unfold cM
  rw [aJ (by omega),aJ (by omega)])
 simp only [cS] at hw
 rw [iJ (fun x hx=>hf x (h.ids x hx).1),rN (fun p hp=>⟨hf _ (h.nm p hp).1,fun x hx=>(by
  obtain ⟨o,ho⟩:=Option.isSome_iff_exists.1 (h.fam.cl p hp x hx)
  exact hf x (h.nm _ (aR ho)).1)⟩),show fw [(900,b)] 900=b from by show cM 900 b 900=b;unfold cM;rw [bz rfl]] at hw
 exact hw
end
theorem eG {G:List (Nat×ac)} {o a c:ac} (hF:dp G) {j:Nat} {o':ac} (h:ab ((900,o) :: G) j=some o'):ab ((900,o) :: (18,a) :: (7,c) :: G) j=some o':=by
 simp only [ab] at h ⊢
 split
 ·rename_i e;rwa [bz e] at h
 ·rename_i e
  rw [aJ e] at h
  have:=hF.big (by rw [h];rfl)
  rw [aJ (by omega),aJ (by omega)]
  exact h
theorem Ri {G:List (Nat×ac)} {o a:ac} (hF:dp G) {j:Nat} {o':ac} (h:ab ((900,o) :: G) j=some o'):ab ((900,o) :: (18,a) :: G) j=some o':=by
 simp only [ab] at h ⊢
 split
 ·rename_i e;rwa [bz e] at h
 ·rename_i e
  rw [aJ e] at h
  have:=hF.big (by rw [h];rfl)
  rw [aJ (by omega)]
  exact h
theorem pp {o1 o2:ac} {H:List (Nat×ac)} {j:Nat} {o':ac} (h:ab ((900,o1) :: H) j=some o'):ab ((900,o1) :: (900,o2) :: H) j=some o':=by
 simp only [ab] at h ⊢
 split
 ·rename_i e;rwa [bz e] at h
 ·rename_i e;rwa [aJ e] at h
attribute [local go_sem] dn
theorem L0 (l:List (cN)) (hl:l.length≤1048576) (hx:∀x∈l,Pj x) (b:Nat) (hb:1267650600228229401496703205376≤b):aE Tryz.prog QB [.sl 9 (l.map aU),.fn qz []] [] sb (fun r G=>r = .ms b 9 0 l.length∧gC b (1+2 * l.length) 79 9 (.sl 9 (l.map aU)) r G):=by
 refine aP (ic:=zD.body) ap O7 rfl rfl ?_
 simp only [go_sem,zD]
 refine an (fun q:Nat×List (List AV)×List (Nat×ac)=>⟨[(10,.int .i64 q.1),(9,.int .i64 l.length),(8,.sl 9 (l.map aU)),(5,.ms 900 9 0 q.1),(1,.fn qz [])],(900,⟨79,9,q.2.1,decide (0<q.1)⟩) :: q.2.2⟩) (fun q=>q.1≤l.length∧EI b 2 (gn 79) aU l q.1 q.2.1 q.2.2) (fun q=>l.length - q.1) (0,[],[]) ⟨cq _,EI.zero⟩ ((Wk.nil _ 5 900 9 79 (by simp only [go_sem]) (.inl (by decide))).trans (Wk.of ?_ ?_)) ?_
 ·simp only [go_sem,St.mknil];try simp [go_sem]
 ·simp only [go_sem,St.mknil];try simp [go_sem]
 rintro ⟨i,R,G⟩ ⟨hi,hE⟩
 simp only at hi hE
 by_cases h1:(i:Int)<(l.length:Int)
 ·have hi':i<l.length:=by omega
  have e8:=wi (n:=(i:Int)+1) (by omega) (by omega)
  obtain ⟨fl,hfl⟩:∃fl,decide (0<i)=fl:=⟨_,rfl⟩
  rw [hfl]
  have hp9:∀k,k<1000→bV k ⟨79,9,R,fl⟩ =⟨79,9,R,fl⟩:=fun k hk=>dS (fun x hx=>cE (by omega) (hE.ids x hx).1) hk
  have cc:=LM (aj l i) (aX hx hi') (b+1+2 * i) (by omega)
  try simp only [aU] at cc
  simp only [go_sem,az h1,aU,hE.fam.pur,hE.fam.del,↓hp9]
  refine ⟨by omega,h1,by kernel_rfl,?_⟩
  refine bn (b+1+2 * i) 2 cc (by omega) (fun r σ' ⟨cs,_,ho⟩=>ho.nm) ?_ ?_ ?_
  ·simp [fv,ax,bU,be,bt];try omega
  ·intro p hp
   rcases bE.1 hp with rfl | hp
   ·exact ⟨by show 7<_;omega,fun x hx=>by simp [bo,be,bt] at hx⟩
   rcases bE.1 hp with rfl | hp
   ·exact ⟨by show 900<_;omega,fun x hx=>(hE.ids x hx).2⟩
   ·exact hE.bel p hp
  rintro _ G' ⟨cs,rfl,hO⟩
  have hE2:=hE.step (x:=aj l i) (dj hi') hO
  have hcl:cs.length=9:=hO.row.length.symm
  have han:=j5 hO.row
  have hp8:=th hO.row (t:=79) (st:=9) (q:=true)
  have hno:=dd hE2.row 900 (by decide)
  have hn1:=dd (R:=[cs]) (fun r hr=>by rw [eL.1 hr];exact hO.row) 18 (by decide)
  have happ:=eW 900 79 9 i R [cs] hE.len
  have happR:=dO 900 79 9 i R [cs] fl hE.len
  by_cases him:cs.all db=true
  ·cases fl
   all_goals
    simp only [go_sem,him,hcl,↓han,hE2.fam.pur,hE2.fam.del,↓hp9,happ,happR,hno,e8]
    refine ⟨by omega,aA (i+1,R++[cs],G++G') ⟨(show i+1≤l.length by omega),hE2⟩ (show l.length - (i+1)<l.length - i by omega) ?_⟩
    first
     | exact Wk.of2 (by simp only [go_sem];try simp) (fun j o h=>eG hE2.fam (by rw [← show decide (0<i+1)=true from by simp];exact h))
     | exact (Wk.flag _ 900 true (by rfl) (fun _=>by simp) (fun h=>by cases h)).trans (Wk.of2 (by simp only [go_sem];try simp) (fun j o h=>pp (eG hE2.fam (by rw [← show decide (0<i+1)=true from by simp];exact h))))
  ·simp only [go_sem,him,hcl,↓han,and_false,fp]
   refine ⟨_,Wk.refl _,?_⟩
   simp only [dG]
   cases fl
   all_goals
    simp only [go_sem,him,hcl,↓han,and_false,fp,hE2.fam.pur,hE2.fam.del,↓hp9,↓hp8,↓hn1,happ,happR,hno,e8]
    refine ⟨by omega,aA (i+1,R++[cs],G++G') ⟨(show i+1≤l.length by omega),hE2⟩ (show l.length - (i+1)<l.length - i by omega) ?_⟩
    exact Wk.of2 (by simp only [go_sem];try simp) (fun j o h=>eG hE2.fam (by rw [← show decide (0<i+1)=true from by simp];exact h))
 ·obtain rfl:i=l.length:=by omega
  have hout:=hE.done (T:=79) (st:=9) (q:=decide (0<l.length)) (by omega) hl (by rfl) (fun h=>jw (by rw [hE.len];simp at h;rw [h];rfl))
  rw [hE.len] at hout
  simp only [go_sem,au h1]
  refine eO.wk (hE.name hb _) (eX (fun _ h=>by cases h) (.ms b 9 0 l.length) _ ?_ (fun j o h=>h) hout.cl ⟨rfl,hout⟩)
  simp only [go_sem,jI,renV,gh,dT,jS]
end
section
def ja (ns:List Nat):aK→aK
 | .seq x y=>if ns.contains (vV x)=true then .cut (dQ (vV x) x) (ja ns y) else .seq (ja ns x) (ja ns y)
 | x=>x
theorem kF (n:List Nat) (x y:aK):ja n (.seq x y)=if n.contains (vV x)=true then .cut (dQ (vV x) x) (ja n y) else .seq (ja n x) (ja n y):=aN rfl
theorem kD (n:List Nat) (ops:List aD) (dr:List Nat):ja n (.reg ops dr) = .reg ops dr:=aN rfl
theorem kE (n:List Nat):ja n .ret = .ret:=aN rfl
theorem jz (n:List Nat) (ops:List av) (al:List (Nat×Nat)) (dr:List Nat):ja n (.draw ops al dr) = .draw ops al dr:=aN rfl
theorem xy (n:List Nat) (c:IV) (x y:aK):ja n (.cond c x y) = .cond c x y:=aN rfl
attribute [local go_sem] kL jf jg kM kN jd ij je kF kD kE jz
theorem gC.mono {b n n':Nat} {T:TypeId} {st:Nat} {y r:AV} {G:List (Nat×ac)} (h:gC b n T st y r G) (hn:n≤n'):gC b n' T st y r G:=⟨h.fam,fun p hp=>⟨(h.nm p hp).1,by have:=(h.nm p hp).2;omega⟩,h.ok,h.rep⟩
theorem gC.flat {b:Nat} (hb:1000≤b) {T:TypeId} {st:Nat} {rows:List (List AV)} (hl:rows.length≤1048576) (hs:st=(gn T).length) (hr:∀r∈rows,cB (fun _=>none) (gn T) r) (hf:cY rows) (ht:T≠58):gC b 1 T st (.sl st rows) (.ms b st 0 rows.length) [(b,⟨T,st,rows,false⟩)]:=by
 obtain ⟨f,s⟩:=dp.nil.new (N:=b) hb rfl (tU.flat hl hs hr hf ht)
 exact ⟨f,fun p hp=>by rw [eL.1 hp];exact ⟨bD _,Nat.lt_succ_self _⟩,pt hb,kX (t:=T) (q:=false) (by simp only [ab,cX]) hf⟩
theorem gC.vl {b:Nat} (hb:1000≤b) (l:List Int) (hl:l.length≤1048576):gC b 1 49 1 (.sl 1 (l.map dI)) (.ms b 1 0 l.length) [(b,⟨49,1,l.map dI,false⟩)]:=by
 have:=gC.flat (T:=49) (st:=1) (rows:=l.map dI) hb (by rw [dn];exact hl) (by rfl) (fun r hr=>by obtain ⟨n,_,rfl⟩:=List.mem_map.1 hr;exact ⟨⟨_,rfl⟩,trivial⟩) (nJ l) (by decide)
 rwa [dn] at this
theorem gC.by {b:Nat} (hb:1000≤b) (l:List UInt8) (hl:l.length≤1048576):gC b 1 5 1 (.sl 1 (l.map ni)) (.ms b 1 0 l.length) [(b,⟨5,1,l.map ni,false⟩)]:=by
 have:=gC.flat (T:=5) (st:=1) (rows:=l.map ni) hb (by rw [dn];exact hl) (by rfl) (fun r hr=>by obtain ⟨n,_,rfl⟩:=List.mem_map.1 hr;exact ⟨⟨_,rfl⟩,trivial⟩) (Gq l) (by decide)
 rwa [dn] at this
theorem kf {f:FuncId} {args:List AV} {st n:Nat} {o:ac} (h:aE Tryz.prog f args [] sb (fun r σ'=>r = .ms 5 st 0 n∧σ'=[(5,o)])) (ho:bo o=[]) (hid:∀x∈args,ax x=[]) (b:Nat) (hb:1267650600228229401496703205376≤b) :
  aE Tryz.prog f args [] sb (fun r σ'=>r = .ms b st 0 n∧σ'=[(b,o)]):=by
 have hs:=iL 5 b
 refine (h.ren (cM 5 b) (cM 5 b) hs hs (args2:=args) (σ2:=[]) ?_ rfl).mono (fun id hi=>?_) fun r σ'=>?_
 ·conv=>rhs;rw [← List.map_id args]
  exact List.map_congr_left fun x hx=>YtdefmgmmjfgbpaaGreatDoor.renV_id fun i hi=>by rw [hid x hx] at hi;cases hi
 ·show sb (cM 5 b id)
  unfold sb at hi ⊢
  unfold cM
  rw [aJ (by omega),aJ (by omega)]
  exact hi
 ·rintro ⟨_,_,⟨rfl,rfl⟩,rfl,rfl⟩
  refine ⟨?_,?_⟩
  ·show AV.ms (cM 5 b 5) st 0 n=_
   simp [cM]
  ·show [(cM 5 b 5,dD (cM 5 b) o)]=_
   rw [iJ (fun i hi=>by rw [ho] at hi;cases hi)]
   simp [cM]
theorem gC.two {b n1 n2:Nat} {T1 T2:TypeId} {s1 s2:Nat} {y1 y2 r1 r2:AV} {G1 G2:List (Nat×ac)} (h1:gC b n1 T1 s1 y1 r1 G1) (h2:gC (b+n1) n2 T2 s2 y2 r2 G2) :
  dp (G1++G2)∧(∀p∈G1++G2,b≤p.1∧p.1<b+(n1+n2))∧(cb (ab (G1++G2)) T1 s1 r1∧Rep (ab (G1++G2)) r1 y1)∧cb (ab (G1++G2)) T2 s2 r2∧Rep (ab (G1++G2)) r2 y2:=by
 have hd:∀p∈G1,∀q∈G2,p.1≠q.1:=fun p hp q hq=>by
  have:=(h1.nm p hp).2
  have:=(h2.nm q hq).1
  omega
 obtain ⟨f,e1,e2⟩:=h1.fam.app h2.fam hd
 refine ⟨f,fun p hp=>?_,⟨h1.ok.same e1,h1.rep.mono fun _ _ g=>ka g⟩,h2.ok.same e2,h2.rep.mono fun _ _ g=>oJ hd g⟩
 rcases dz.1 hp with hp | hp
 ·have:=h1.nm p hp;omega
 ·have:=h2.nm p hp;omega
theorem pq {H:List (Nat×ac)} {r1 r2:ac} (hH:∀p∈H,1000≤p.1) {j:Nat} {o:ac} (h:ab ((2,r2) :: H) j=some o):ab ((2,r2) :: (1,r1) :: H) j=some o:=by
 simp only [ab] at h ⊢
 split
 ·rename_i e;rwa [bz e] at h
 ·rename_i e
  rw [aJ e] at h
  have:=hH _ (aR h)
  simp only at this
  rw [aJ (by omega)]
  exact h
theorem iB {H:List (Nat×ac)} {r2:ac} (hH:∀p∈H,1000≤p.1) {j:Nat} {o:ac} (h:ab H j=some o):ab ((2,r2) :: H) j=some o:=by
 have:=hH _ (aR h)
 simp only at this
 simp only [ab]
 rw [aJ (by omega)]
 exact h
theorem gC.lo {b n:Nat} (hb:1000≤b) {T:TypeId} {st:Nat} {y r:AV} {G:List (Nat×ac)} (h:gC b n T st y r G):∀p∈G,1000≤p.1:=fun p hp=>cE hb (h.nm p hp).1
theorem gC.bel {b n c:Nat} {T:TypeId} {st:Nat} {y r:AV} {G:List (Nat×ac)} (h:gC b n T st y r G) (hc:b+n≤c):∀p∈G,p.1<c∧i8 c p.2:=fun p hp=>⟨Nat.lt_of_lt_of_le (h.nm p hp).2 hc,fun x hx=>by
 obtain ⟨o,ho⟩:=Option.isSome_iff_exists.1 (h.fam.cl p hp x hx)
 exact Nat.lt_of_lt_of_le (h.nm _ (aR ho)).2 hc⟩
attribute [local go_sem] dn
theorem kQ (l:List cN) (h:lD l) (b:Nat) (hb:1267650600228229401496703205376≤b):aE Tryz.prog qA [.sl 9 (l.map aU)] [] sb (fun r G=>r = .ms b 9 0 l.length∧gC b 2097153 79 9 (.sl 9 (l.map aU)) (.ms b 9 0 l.length) G):=by
 refine aP (ic:=sa.body) ap Jd rfl rfl ?_
 simp only [go_sem,sa]
 refine bn b (1+2 * l.length) (L0 l h.1 h.2 b hb) hb (fun r σ' ho=>ho.2.nm) ?_ ?_ ?_
 ·simp [fv,ax,bU,be,bt];try omega
 ·intro p hp;cases hp
 rintro _ G ⟨rfl,hO⟩
 simp only [go_sem]
 exact eX (fun _ h=>by cases h) (.ms b 9 0 l.length) G (by simp only [go_sem]) (fun j o h=>h) hO.cl ⟨rfl,hO.mono (by have:=h.1;omega)⟩
theorem Hk (x:Gd) (h:Bl x) (b:Nat) (hb:1267650600228229401496703205376≤b):aE Tryz.prog yt [.agg (ej x)] [] sb (fun r G=>∃cs,r = .agg cs∧iW b 2097153 (gn 62) (ej x) cs G):=by
 refine aP (ic:=ja [3] zO.body) ap Pd rfl rfl ?_
 simp only [go_sem,zO,cz]
 refine fe (fun G:List (Nat×ac)=>⟨[(2,.mp 2 3 0 0),(4,.agg [.int .i64 x.g.v,.bool x.g.mu]),(7,.ms b 9 0 x.i.length)],(2,⟨62,3,[[.int .i64 0,.bool false,.nl]],true⟩) :: G⟩) (fun G=>gC b 2097153 79 9 (.sl 9 (x.i.map aU)) (.ms b 9 0 x.i.length) G) ?_ ?_
 ·simp only [go_sem]
  repeat' (first
   | refine And.intro ?_ ?_
   | (refine bn (b) 2097153 (kQ x.i h (b) (by omega)) (by omega) (fun r σ' ho=>ho.2.nm) (by simp [fv,ax,bU,be,bt];try omega) (by simp [i8,bo,be,bt];try omega) ?_;rintro _ G ⟨rfl,hO⟩;simp only [go_sem])
   | exact kR G hO (Wk.of2 (by simp only [go_sem];try simp) (fun j o h=>pq (hO.lo (by omega)) h))
   | omega)
 ·rintro G hO
  simp only [go_sem,hO.fam.del]
  have out:iW b 2097153 (gn 62) (ej x) [.int .i64 x.g.v,.bool x.g.mu,.ms b 9 0 x.i.length] G:=⟨hO.fam,hO.nm,⟨⟨_,rfl⟩,⟨_,rfl⟩,hO.ok,trivial⟩,⟨.imm _ rfl rfl,.imm _ rfl rfl,hO.rep,trivial⟩⟩
  exact eX (fun _ h=>by cases h) (.agg _) G (by simp only [go_sem]) (fun j o h=>iB (hO.lo (by omega)) h) out.cl ⟨_,rfl,out⟩
theorem uQ (l:List Int) (hl:l.length≤1048576) (b:Nat) (hb:1267650600228229401496703205376≤b):aE Tryz.prog Ur [.sl 1 (l.map dI)] [] sb (fun r σ'=>r = .ms b 1 0 l.length∧σ'=[(b,⟨49,1,l.map dI,false⟩)]):=by
 have:=kf (CS (l.map dI) (by rw [dn];exact hl)) rfl (by simp [ax,bU,be,bt]) b hb
 rwa [dn] at this
theorem CW (l:List UInt8) (hl:l.length≤1048576) (b:Nat) (hb:1267650600228229401496703205376≤b):aE Tryz.prog Mr [.sl 1 (l.map ni)] [] sb (fun r σ'=>r = .ms b 1 0 l.length∧σ'=[(b,⟨5,1,l.map ni,false⟩)]):=by
 have:=kf (LR (l.map ni) (by rw [dn];exact hl)) rfl (by simp [ax,bU,be,bt]) b hb
 rwa [dn] at this
theorem Hv (l:List (List cN)) (hl:l.length≤1048576) (hx:∀x∈l,lD x) (b:Nat) (hb:1267650600228229401496703205376≤b):aE Tryz.prog Qt [.sl 1 (l.map cU),.fn qA []] [] sb (fun r G=>r = .ms b 1 0 l.length∧gC b (1+2097153 * l.length) 58 1 (.sl 1 (l.map cU)) (.ms b 1 0 l.length) G):=by
 refine aP (ic:=zA.body) ap O4 rfl rfl ?_
 simp only [go_sem,zA]
 refine an (fun q:Nat×List (List AV)×List (Nat×ac)=>⟨[(10,.int .i64 q.1),(9,.int .i64 l.length),(8,.sl 1 (l.map cU)),(5,.ms 900 1 0 q.1),(1,.fn qA [])],(900,⟨58,1,q.2.1,decide (0<q.1)⟩) :: q.2.2⟩) (fun q=>q.1≤l.length∧EI b 2097153 (gn 58) cU l q.1 q.2.1 q.2.2) (fun q=>l.length - q.1) (0,[],[]) ⟨cq _,EI.zero⟩ ((Wk.nil _ 5 900 1 58 (by simp only [go_sem]) (.inl (by decide))).trans (Wk.of ?_ ?_)) ?_
 ·simp only [go_sem,St.mknil];try simp [go_sem]
 ·simp only [go_sem,St.mknil];try simp [go_sem]
 rintro ⟨i,R,G⟩ ⟨hi,hE⟩
 simp only at hi hE
 by_cases h1:(i:Int)<(l.length:Int)
 ·have hi':i<l.length:=by omega
  have e8:=wi (n:=(i:Int)+1) (by omega) (by omega)
  obtain ⟨fl,hfl⟩:∃fl,decide (0<i)=fl:=⟨_,rfl⟩
  rw [hfl]
  have hp9:∀k,k<1000→bV k ⟨58,1,R,fl⟩ =⟨58,1,R,fl⟩:=fun k hk=>dS (fun x hx=>cE (by omega) (hE.ids x hx).1) hk
  simp only [go_sem,az h1,bN,hE.fam.pur,hE.fam.del,↓hp9]
  refine ⟨by omega,h1,by kernel_rfl,?_⟩
  obtain ⟨N,hN⟩:∃N,N=b+1+2097153 * i:=⟨_,rfl⟩
  refine bn N 2097153 (kQ (aj l i) (aX hx hi') N (by omega)) (by omega) (fun r σ' ho=>ho.2.nm) ?_ ?_ ?_
  ·simp [fv,ax,bU,be,bt];try omega
  ·intro p hp
   rcases bE.1 hp with rfl | hp
   ·exact ⟨by show 900<_;omega,fun x hx=>hN▸(hE.ids x hx).2⟩
   ·exact hN▸hE.bel p hp
  rintro _ G' ⟨rfl,hO⟩
  have hR:iW (b+1+2097153 * i) 2097153 (gn 58) (cU (aj l i)) [.ms N 9 0 (aj l i).length] G':=hN▸⟨hO.fam,hO.nm,⟨hO.ok,trivial⟩,⟨hO.rep,trivial⟩⟩
  have hE2:=hE.step (x:=aj l i) (dj hi') hR
  have hno:=dd hE2.row 900 (by decide)
  have hn1:=dd (R:=[[AV.ms N 9 0 (aj l i).length]]) (fun r hr=>by rw [eL.1 hr];exact hR.row) 18 (by decide)
  have happR:=dO 900 58 1 i R [[AV.ms N 9 0 (aj l i).length]] fl hE.len
  have hp8:=th hR.row (t:=58) (st:=1) (q:=true)
  have nb:∀k,k<1000→(N==k)=false:=fun k hk=>by simp only [i1,ne_eq];omega
  simp only [go_sem,nb]
  refine ⟨_,Wk.refl _,?_⟩
  simp only [dG]
  cases fl
  all_goals
   simp only [go_sem,nb,hE2.fam.pur,hE2.fam.del,↓hp9,↓hp8,↓hn1,happR,hno,e8]
   refine ⟨by omega,aA (i+1,R++[[.ms N 9 0 (aj l i).length]],G++G') ⟨(show i+1≤l.length by omega),hE2⟩ (show l.length - (i+1)<l.length - i by omega) ?_⟩
   exact Wk.of2 (by simp only [go_sem];try simp) (fun j o h=>Ri hE2.fam (by rw [← show decide (0<i+1)=true from by simp];exact h))
 ·obtain rfl:i=l.length:=by omega
  have hout:=hE.done (T:=58) (st:=1) (q:=decide (0<l.length)) (by omega) hl (by rfl) (fun h=>jw (by rw [hE.len];simp at h;rw [h];rfl))
  rw [hE.len] at hout
  simp only [go_sem,au h1]
  refine eO.wk (hE.name hb _) (eX (fun _ h=>by cases h) (.ms b 1 0 l.length) _ ?_ (fun j o h=>h) hout.cl ⟨rfl,hout⟩)
  simp only [go_sem,jI,renV,gh,dT,jS]
theorem Hj (x:Ft) (h:Pi x) (b:Nat) (hb:1267650600228229401496703205376≤b):aE Tryz.prog yq [.agg (dF x)] [] sb (fun r G=>∃cs,r = .agg cs∧iW b 2 (gn 47) (dF x) cs G):=by
 refine aP (ic:=ja [3] zM.body) ap Pb rfl rfl ?_
 simp only [go_sem,zM,bM]
 refine fe (fun _:Unit=>⟨[(2,.mp 2 2 0 0),(5,.ms b 1 0 x.ps.length),(7,.sl 1 (x.rs.map dI))],(2,⟨47,2,[[.nl,.nl]],true⟩) :: [(b,⟨49,1,x.ps.map dI,false⟩)]⟩) (fun _=>True) ?_ ?_
 ·simp only [go_sem]
  repeat' (first
   | refine And.intro ?_ ?_
   | (refine bn (b) 1 (uQ x.ps h.1 b hb) (by omega) (fun r σ' ho=>by rw [ho.2];simp) (by simp [fv,ax,bU,be,bt];try omega) (by simp [i8,bo,be,bt];try omega) ?_;rintro _ _ ⟨rfl,rfl⟩;simp only [go_sem])
   | exact kR () trivial (Wk.of2 (by simp only [go_sem];try simp) (fun j o h=>pq (fun p hp=>by rw [eL.1 hp];show 1000≤b;omega) h))
   | omega)
 ·intro _ _
  have o1:=gC.vl (b:=b) (by omega) x.ps h.1
  have o2:=gC.vl (b:=b+1) (by omega) x.rs h.2
  obtain ⟨f,hn,⟨k1,p1⟩,k2,p2⟩:=o1.two o2
  have nb:=ey (j:=b) (by omega)
  have nc:=ey (j:=b+1) (by omega)
  simp only [go_sem]
  refine bn (b+1) 1 (uQ x.rs h.2 (b+1) (by omega)) (by omega) (fun r σ' ho=>by rw [ho.2];simp) (by simp [fv,ax,bU,be,bt];try omega) (by simp [i8,bo,be,bt];try omega) ?_
  rintro _ _ ⟨rfl,rfl⟩
  simp only [go_sem,nb,nc]
  have out:iW b 2 (gn 47) (dF x) [.ms b 1 0 x.ps.length,.ms (b+1) 1 0 x.rs.length] _:=⟨f,hn,⟨k1,k2,trivial⟩,⟨p1,p2,trivial⟩⟩
  exact eX (fun _ h=>by cases h) (.agg _) _ (by simp only [go_sem]) (fun j o h=>iB (fun p hp=>cE (by omega) (hn p hp).1) h) out.cl ⟨_,rfl,out⟩
theorem Hg (x:Cu) (h:Bh x) (b:Nat) (hb:1267650600228229401496703205376≤b):aE Tryz.prog yx [.agg (eB x)] [] sb (fun r G=>∃cs,r = .agg cs∧iW b 1 (gn 71) (eB x) cs G):=by
 refine aP (ic:=zR.body) ap Pg rfl rfl ?_
 have o1:=gC.by (b:=b) (by omega) x.b h
 have nb:=ey (j:=b) (by omega)
 simp only [go_sem,zR,bR]
 refine bn b 1 (CW x.b h b hb) (by omega) (fun r σ' ho=>by rw [ho.2];simp) (by simp [fv,ax,bU,be,bt];try omega) (by simp [i8,bo,be,bt];try omega) ?_
 rintro _ _ ⟨rfl,rfl⟩
 simp only [go_sem,nb]
 have out:iW b 1 (gn 71) (eB x) [.int .i64 x.af,.str x.n,.ms b 1 0 x.b.length] _:=⟨o1.fam,o1.nm,⟨⟨_,rfl⟩,⟨_,rfl⟩,o1.ok,trivial⟩,⟨.imm _ rfl rfl,.imm _ rfl rfl,o1.rep,trivial⟩⟩
 refine eO.wk (Wk.of2 (s':=⟨[(2,.mp 2 3 0 0)],(2,⟨71,3,[[.int .i64 x.af,.str x.n,.ms b 1 0 x.b.length]],true⟩) :: [(b,⟨5,1,x.b.map ni,false⟩)]⟩) (by simp only [go_sem];try simp) (fun j o h=>pq (o1.lo (by omega)) h)) ?_
 exact eX (fun _ h=>by cases h) (.agg _) _ (by simp only [go_sem]) (fun j o h=>iB (o1.lo (by omega)) h) out.cl ⟨_,rfl,out⟩
end
end Go.Proofs.YtdefmgmmjfgbpaaGreatDoor