import Derived.Test.YteephfapgoncgaaGreatDoorUQc
import Derived.Test.YteephfapgoncgaaGreatDoorUQi
import Derived.Shelf.Unicode.DecodeSlow
import Derived.Shelf.Strings.Search3
import Derived.Shelf.Strings.Fields
import Derived.Test.YteephfapgoncgaaGreatDoorCards
import Derived.Test.YteephfapgoncgaaGreatDoorTie
import Derived.Deep.DeepHandedRow
import Derived.Deep.DeepWitnessRowRef
import Derived.Lib.LaidTab
import Derived.Lib.LaidU8T
import Derived.Shelf.Vars
import Derived.Lay
set_option linter.all false
set_option maxRecDepth 100000
set_option maxHeartbeats 40000000
namespace Go.Proofs.YteephfapgoncgaaGreatDoor
open Go Go.Mw
def qk:List AV:=(List.range 256).map fun c=>.int .u8 (Lib.firstT c)
def j0:List AV:=(List.range 32).map fun i=>.int .u8 (if i % 2=0 then Lib.accLo (i / 2) else Lib.accHi (i / 2))
theorem kK {w:World} {b off:Nat} {v:Value} (h:w.cell? ⟨b,off,none⟩=some v):∃c t fr,w.heap[b]? = some (.cells c t fr)∧c[off]? = some v:=by
 unfold World.cell? at h
 simp only at h
 split at h
 ·rename_i c t fr hb
  exact ⟨c,t,fr,hb,h⟩
 ·cases h
theorem lT {w:World} {M:Nat→Prop} {b n:Nat} {f:Nat→Int} (hn:0<n) (h:∀j,j<n→w.cell? ⟨b,j,none⟩=some (.int .u8 (f j))) (hM:¬M b) :
  IRel M w (.pointer (some ⟨b,0,none⟩)) (.ip ((List.range n).map fun j=>.int .u8 (f j))):=by
 obtain ⟨c,t,fr,hb,_⟩:=kK (h 0 hn)
 refine .ip b 0 c t fr _ (fun j=>.int .u8 (f j)) hb hM (fun j hj=>?_) (fun j x hx=>?_)
 ·simp at hj
  obtain ⟨c',t',fr',hb',hc⟩:=kK (h j hj)
  rw [hb] at hb'
  cases hb'
  simpa using hc
 ·simp only [cQ,cq,List.getElem?_range] at hx
  obtain ⟨q,hq,rfl⟩:=hx
  rw [List.getElem?_range] at hq
  cases hq
  exact .int _ _
  have:=(dL.1 hq).1
  simpa using this
def Ru (c:Nat):Value:=.int .u8 (if Lib.isSp (UInt8.ofNat c) then 1 else 0)
theorem fX {w w':World} {b off:Nat} {v:Value} (h:w'.heap[b]? = w.heap[b]?) (hc:w.cell? ⟨b,off,none⟩=some v):w'.cell? ⟨b,off,none⟩=some v:=by
 rw [World.cell?_of_block (w:=w) h];exact hc
theorem mF {w:World} {b off:Nat} {v:Value} (h:w.cell? ⟨b,off,none⟩=some v):b<w.heap.size:=by
 obtain ⟨c,t,fr,h1,_⟩:=kK h
 exact (j9.1 h1).1
noncomputable def RA:xA where
 B b:=(b=0∨b=1)∨(b=2∨b=3)
 H w:=Lib.Utf8Tabs 0 1 w∧(∀c,c<256→w.cell? ⟨2,c,none⟩=some (Ru c))∧∃m,w.cell? ⟨3,0,none⟩=some (.int .i64 m)
 env:=[(1000000+0,.ip qk),(1000000+1,.ip j0)]
 rel w M h hM p hp:=by
  simp only [cj,List.not_mem_nil,or_false] at hp
  rcases hp with rfl | rfl
  ·exact ⟨by decide,lT (by decide) (fun j hj=>h.1.1 j hj) (hM 0 (.inl (.inl rfl)))⟩
  ·refine ⟨by decide,lT (by decide) (fun j hj=>?_) (hM 1 (.inl (.inr rfl)))⟩
   obtain ⟨h1,h2⟩:=h.1.2 (j / 2) (by omega)
   by_cases h0:j % 2=0
   ·rw [bz h0]
    rw [show 2 * (j / 2)=j by omega] at h1
    exact h1
   ·rw [aV h0]
    rw [show 2 * (j / 2)+1=j by omega] at h2
    exact h2
 stay w w' h hk:=⟨⟨fun c hc=>fX (hk _ (.inl (.inl rfl))) (h.1.1 c hc),fun i hi=>⟨fX (hk _ (.inl (.inr rfl))) (h.1.2 i hi).1,fX (hk _ (.inl (.inr rfl))) (h.1.2 i hi).2⟩⟩,
  fun c hc=>fX (hk 2 (.inr (.inl rfl))) (h.2.1 c hc),by obtain ⟨m,hm⟩:=h.2.2;exact ⟨m,fX (hk 3 (.inr (.inr rfl))) hm⟩⟩
 low w h b hb:=by
  rcases hb with (rfl | rfl) | (rfl | rfl)
  ·exact mF (h.1.1 0 (by decide))
  ·exact mF (h.1.2 0 (by decide)).1
  ·exact mF (h.2.1 0 (by decide))
  ·obtain ⟨m,hm⟩:=h.2.2;exact mF hm
noncomputable instance:aX Tryz.prog:=⟨RA⟩
open Go.ChangeShapes Go.WideShapes Go.ChangeAt Go.RowKit
theorem own:ownKnob Tryz.prog.godebug=none:=by kernel_rfl
theorem Eu:laidOutB Tryz.prog=true:=by kernel_rfl
abbrev ut:List (String×DataW Unit):=[("unicode/utf8.acceptRanges",Rows.laid_unicode_utf8_acceptRanges),("unicode.White_Space",Rows.laid_unicode_White_Space),("strings.asciiSpace",Rows.laid_strings_asciiSpace),("unicode/utf8.first",Rows.laid_unicode_utf8_first)]
def Ni:List Int:=(List.range 256).map fun c=>if Lib.isSp (UInt8.ofNat c) then 1 else 0
theorem Sx:(Rows.laid_strings_asciiSpace:DataW Unit)=Lib.tabData .u8 Ni:=by kernel_rfl
theorem RL:Tryz.prog.globalNamed "strings.asciiSpace" = some 2:=by kernel_rfl
theorem Sz:(Tryz.prog.globals[2]?).map (·.type)=some 197:=by kernel_rfl
theorem SM:Tryz.prog.underlying 197=some (.array 256 5):=by kernel_rfl
theorem SN:Tryz.prog.underlying 5=some (.int .u8):=by kernel_rfl
theorem RW:Tryz.prog.cellsOf 5=1:=by kernel_rfl
theorem RV:Tryz.prog.cellsOf 197=256:=by kernel_rfl
theorem Nj {W:World} (h:laidMetH Tryz.prog ut W):Lib.TabIs Tryz.prog W "strings.asciiSpace" .u8 Ni:=by
 have h2:=Lib.laidMet.reads h (.tail _ (.tail _ (.head _)))
 rw [Sx] at h2
 obtain ⟨g',t',cs,fuel,p,hg',ht',hvar,hd⟩:=h2
 obtain rfl:=Option.some.inj (RL.symm.trans hg')
 obtain rfl:=Option.some.inj (Sz.symm.trans ht')
 unfold Lib.TabIs
 rw [hvar,← Lib.cells_of_tab SM SN RW RV hd]
def ren:Go.Shelf.Ren:=⟨fun x=>x,fun t=>if t=119 then 197 else if t=138 then 199 else if t=139 then 200 else 5,fun g=>if g=3 then 0 else 1⟩
theorem SK:U8Types Tryz.prog ren:=⟨by kernel_rfl,by kernel_rfl,by kernel_rfl,by kernel_rfl⟩
theorem SL:U8Extra Tryz.prog ren:=⟨by kernel_rfl,by kernel_rfl,by kernel_rfl,by kernel_rfl,by kernel_rfl,by kernel_rfl,by kernel_rfl⟩
theorem N8:(Rows.laid_unicode_utf8_acceptRanges:DataW Unit)=Lib.acceptData:=by kernel_rfl
theorem PX:Rows.laid_unicode_utf8_first=Lib.firstData:=by kernel_rfl
theorem Kl {W:World} (h:laidMetH Tryz.prog ut W):Lib.Utf8Tabs 0 1 W:=by
 have h1:=Lib.laidMet.reads h (.head _)
 have h2:=Lib.laidMet.reads h (.tail _ (.tail _ (.tail _ (.head _))))
 rw [N8] at h1
 rw [PX] at h2
 exact utf8Tabs_of_readsT SK SL h2 h1
theorem Ka (c:Nat) (hc:c<256):Value.int .u8 (Ni.getD c 0)=Ru c:=by
 simp [Ni,Ru,List.getD,hc]
theorem FJ {W:World} (h:laidMetH Tryz.prog ut W) (hs:W.ShapedOpen Tryz.prog):(aX.T Tryz.prog).H W :=
 ⟨Kl h,fun c hc=>by rw [(Nj h).cell RL c (by simpa [Ni] using hc),Ka c hc],
 Go.Proofs.cell_of_shapedOpen_int (g:=3) (t:=3) (k:=.i64) (zero:=#[.int .i64 0]) hs (of_decide_eq_true (by kernel_rfl)) (by kernel_rfl) rfl (by kernel_rfl) (by kernel_rfl) (by kernel_rfl)⟩
noncomputable abbrev kT (os:Os):World:=World.laidAll Tryz.prog os ut
def m2 (b:UInt8):List AV:=[.int .u8 b.toNat]
theorem KY (b:UInt8):m2 b=[.int .u8 b.toNat]:=rfl
attribute [go_sem] KY
def mst (bits:Nat):Nat:=(bits+6) / 7
theorem RG (n:Int):IntKind.u8.wrap n=n % 256:=by simp [IntKind.wrap,IntKind.bits,IntKind.signed]
theorem rW (n:Int):IntKind.u64.wrap n=n % 18446744073709551616:=by simp [IntKind.wrap,IntKind.bits,IntKind.signed]
theorem Nv (n:Int):IntKind.i64.wrap n=(n+9223372036854775808) % 18446744073709551616 - 9223372036854775808:=by
 simp [IntKind.wrap,IntKind.bits,IntKind.signed]
 split<;>omega
theorem pH (k:Nat) (a:Nat):BitVec.ofInt k (a:Int)=BitVec.ofNat k a:=BitVec.ofInt_natCast k a
theorem Br {k a b:Nat} (ha:a<2 ^ k) (hb:b<2 ^ k):(BitVec.ofInt k (a:Int) ||| BitVec.ofInt k (b:Int)).toNat=a ||| b:=by
 rw [pH,pH,BitVec.toNat_or,BitVec.toNat_ofNat,BitVec.toNat_ofNat,Nat.mod_eq_of_lt ha,Nat.mod_eq_of_lt hb]
theorem tT {k a b:Nat} (ha:a<2 ^ k) (hb:b<2 ^ k):(BitVec.ofInt k (a:Int) &&& BitVec.ofInt k (b:Int)).toNat=a &&& b:=by
 rw [pH,pH,BitVec.toNat_and,BitVec.toNat_ofNat,BitVec.toNat_ofNat,Nat.mod_eq_of_lt ha,Nat.mod_eq_of_lt hb]
theorem Nh {y s:Nat} (hs:s<64):eH .u64 (y:Int) (s:Int)=((y * 2 ^ s % 18446744073709551616:Nat):Int):=by
 unfold eH
 rw [gX,show min s IntKind.u64.bits=s from Nat.min_eq_left (by show s≤64;omega),rW,Int.natCast_emod (_ * _),Int.natCast_mul,Int.natCast_pow]
 rfl
theorem Bs {n y s:Nat} (hs:s<64) (hn:n<2 ^ s):iM .u64 (n:Int) (((y * 2 ^ s) % 18446744073709551616:Nat):Int)=(((n+y * 2 ^ s) % 18446744073709551616:Nat):Int):=by
 have hp:2 ^ s≤2 ^ 63:=Nat.pow_le_pow_right (by decide) (by omega)
 have e64:18446744073709551616=2 ^ s * 2 ^ (64 - s):=by rw [← Nat.pow_add,show s+(64 - s)=64 by omega]
 have hm:(y * 2 ^ s) % 18446744073709551616=2 ^ s * (y % 2 ^ (64 - s)):=by rw [e64,Nat.mul_comm y,Nat.mul_mod_mul_left]
 have hlt:y % 2 ^ (64 - s)<2 ^ (64 - s):=Nat.mod_lt _ (Nat.two_pow_pos _)
 have hsum:2 ^ s * (y % 2 ^ (64 - s))+n<18446744073709551616:=by
  rw [e64]
  have h1:2 ^ s * (y % 2 ^ (64 - s)+1)≤2 ^ s * 2 ^ (64 - s):=Nat.mul_le_mul_left _ hlt
  rw [Nat.mul_add,Nat.mul_one] at h1
  omega
 have h1:(BitVec.ofInt 64 (n:Int) ||| BitVec.ofInt 64 (((y * 2 ^ s) % 18446744073709551616:Nat):Int)).toNat=n ||| ((y * 2 ^ s) % 18446744073709551616) :=
  Br (by omega) (Nat.mod_lt _ (by decide))
 show IntKind.u64.wrap ((BitVec.ofInt 64 (n:Int) ||| BitVec.ofInt 64 (((y * 2 ^ s) % 18446744073709551616:Nat):Int)).toNat)=_
 rw [h1,hm,Nat.or_comm,← Nat.two_pow_add_eq_or_of_lt hn,rW]
 have h2:(n+y * 2 ^ s) % 18446744073709551616=2 ^ s * (y % 2 ^ (64 - s))+n:=by
  rw [Nat.add_mod,hm,Nat.mod_eq_of_lt (show n<18446744073709551616 by omega),Nat.mod_eq_of_lt (by omega)]
  omega
 rw [h2]
 omega
theorem Fx (k:IntKind) {x s:Nat} (hs:s≤k.bits):tV k (x:Int) (s:Int)=((x / 2 ^ s:Nat):Int):=by
 unfold tV
 rw [gX,Nat.min_eq_left hs,Int.fdiv_eq_ediv_of_nonneg _ (by exact Int.le_of_lt (Int.pow_pos (by decide)))]
 rw [Int.natCast_ediv,Int.natCast_pow]
 rfl
theorem ofNat_toNat {n:Nat} (h:n<256):(UInt8.ofNat n).toNat=n:=by simp [UInt8.toNat_ofNat',Nat.mod_eq_of_lt h]
theorem KZ {n:Nat} (h:n<256):m2 (UInt8.ofNat n)=[.int .u8 n]:=by rw [KY,ofNat_toNat h]
def dF (n:Int):List AV:=[.int .i64 n]
theorem FO (n:Int):dF n=[.int .i64 n]:=rfl
attribute [go_sem] FO
structure cS where
 op:Int
 a:Int
 b:Int
 n:Int
 k:Int
 v:Int
 x:Int
 ty:List Int
 lb:List Int
def kR (i:cS):AV:=.agg [.int .i64 i.op,.int .i64 i.a,.int .i64 i.b,.int .u64 i.n,.int .i64 i.k,.int .i64 i.v,.int .i64 i.x,.sl 1 (i.ty.map dF),.sl 1 (i.lb.map dF)]
theorem dc (i:cS):kR i = .agg [.int .i64 i.op,.int .i64 i.a,.int .i64 i.b,.int .u64 i.n,.int .i64 i.k,.int .i64 i.v,.int .i64 i.x,.sl 1 (i.ty.map dF),.sl 1 (i.lb.map dF)]:=rfl
def aW (i:cS):List AV:=[.int .i64 i.op,.int .i64 i.a,.int .i64 i.b,.int .u64 i.n,.int .i64 i.k,.int .i64 i.v,.int .i64 i.x,.sl 1 (i.ty.map dF),.sl 1 (i.lb.map dF)]
instance:Inhabited cS:=⟨⟨0,0,0,0,0,0,0,[],[]⟩⟩
structure Ft where
 ps:List Int
 rs:List Int
structure Lm where
 mn:Int
 mx:Int
 hs:Bool
structure Gl where
 v:Int
 mu:Bool
structure Im where
 m:List UInt8
 n:List UInt8
 k:Int
 f:Int
 te:Int
 tl:Lm
 me:Lm
 g:Gl
structure Cd where
 t:Int
 lo:List Int
 b:List cS
structure Tb where
 e:Int
 l:Lm
structure Gd where
 g:Gl
 i:List cS
structure Ex where
 n:List UInt8
 k:Int
 i:Int
structure El where
 mo:Int
 tb:Int
 o:List cS
 ty:Int
 it:List (List cS)
structure Da where
 mo:Int
 me:Int
 o:List cS
 b:List UInt8
structure Cu where
 af:Int
 n:List UInt8
 b:List UInt8
structure Md where
 ts:List Ft
 ims:List Im
 fs:List Cd
 tbs:List Tb
 ms:List Lm
 gs:List Gd
 exs:List Ex
 hs:Bool
 st:Int
 els:List El
 ds:List Da
 cs:List Cu
instance:Inhabited Ft:=⟨⟨[],[]⟩⟩
instance:Inhabited Lm:=⟨⟨0,0,false⟩⟩
instance:Inhabited Gl:=⟨⟨0,false⟩⟩
instance:Inhabited Im:=⟨⟨[],[],0,0,0,default,default,default⟩⟩
instance:Inhabited Cd:=⟨⟨0,[],[]⟩⟩
instance:Inhabited Tb:=⟨⟨0,default⟩⟩
instance:Inhabited Gd:=⟨⟨default,[]⟩⟩
instance:Inhabited Ex:=⟨⟨[],0,0⟩⟩
instance:Inhabited El:=⟨⟨0,0,[],0,[]⟩⟩
instance:Inhabited Da:=⟨⟨0,0,[],[]⟩⟩
instance:Inhabited Cu:=⟨⟨0,[],[]⟩⟩
instance:Inhabited Md:=⟨⟨[],[],[],[],[],[],[],false,0,[],[],[]⟩⟩
def bQ (x:Ft):List AV:=[.sl 1 (x.ps.map dF),.sl 1 (x.rs.map dF)]
def dA (x:Lm):List AV:=[.int .i64 x.mn,.int .i64 x.mx,.bool x.hs]
def cW (x:Im):List AV:=[.str x.m,.str x.n,.int .i64 x.k,.int .i64 x.f,.int .i64 x.te,.int .i64 x.tl.mn,.int .i64 x.tl.mx,.bool x.tl.hs,.int .i64 x.me.mn,.int .i64 x.me.mx,.bool x.me.hs,.int .i64 x.g.v,.bool x.g.mu]
def bF (x:Cd):List AV:=[.int .i64 x.t,.sl 1 (x.lo.map dF),.sl 9 (x.b.map aW)]
def dG (x:Tb):List AV:=[.int .i64 x.e,.int .i64 x.l.mn,.int .i64 x.l.mx,.bool x.l.hs]
def df (x:Gd):List AV:=[.int .i64 x.g.v,.bool x.g.mu,.sl 9 (x.i.map aW)]
def dU (x:Ex):List AV:=[.str x.n,.int .i64 x.k,.int .i64 x.i]
def bY (l:List cS):List AV:=[.sl 9 (l.map aW)]
def cb (x:El):List AV:=[.int .i64 x.mo,.int .i64 x.tb,.sl 9 (x.o.map aW),.int .i64 x.ty,.sl 1 (x.it.map bY)]
def cM (x:Da):List AV:=[.int .i64 x.mo,.int .i64 x.me,.sl 9 (x.o.map aW),.sl 1 (x.b.map m2)]
def eW (x:Cu):List AV:=[.int .i64 x.af,.str x.n,.sl 1 (x.b.map m2)]
def dQ (x:Md):List AV:=[.sl 2 (x.ts.map bQ),.sl 13 (x.ims.map cW),.sl 3 (x.fs.map bF),.sl 4 (x.tbs.map dG),.sl 3 (x.ms.map dA),.sl 3 (x.gs.map df),.sl 3 (x.exs.map dU),.bool x.hs,.int .i64 x.st,.sl 5 (x.els.map cb),.sl 4 (x.ds.map cM),.sl 3 (x.cs.map eW)]
theorem bq (x:Ft):bQ x=[.sl 1 (x.ps.map dF),.sl 1 (x.rs.map dF)]:=rfl
theorem cz (x:Lm):dA x=[.int .i64 x.mn,.int .i64 x.mx,.bool x.hs]:=rfl
theorem ce (x:Im):cW x=[.str x.m,.str x.n,.int .i64 x.k,.int .i64 x.f,.int .i64 x.te,.int .i64 x.tl.mn,.int .i64 x.tl.mx,.bool x.tl.hs,.int .i64 x.me.mn,.int .i64 x.me.mx,.bool x.me.hs,.int .i64 x.g.v,.bool x.g.mu]:=rfl
theorem bj (x:Cd):bF x=[.int .i64 x.t,.sl 1 (x.lo.map dF),.sl 9 (x.b.map aW)]:=rfl
theorem cA (x:Tb):dG x=[.int .i64 x.e,.int .i64 x.l.mn,.int .i64 x.l.mx,.bool x.l.hs]:=rfl
theorem bK (x:Gd):df x=[.int .i64 x.g.v,.bool x.g.mu,.sl 9 (x.i.map aW)]:=rfl
theorem cy (x:Ex):dU x=[.str x.n,.int .i64 x.k,.int .i64 x.i]:=rfl
theorem bn (l:List cS):bY l=[.sl 9 (l.map aW)]:=rfl
theorem aQ (x:El):cb x=[.int .i64 x.mo,.int .i64 x.tb,.sl 9 (x.o.map aW),.int .i64 x.ty,.sl 1 (x.it.map bY)]:=rfl
theorem bB (x:Da):cM x=[.int .i64 x.mo,.int .i64 x.me,.sl 9 (x.o.map aW),.sl 1 (x.b.map m2)]:=rfl
theorem bv (x:Cu):eW x=[.int .i64 x.af,.str x.n,.sl 1 (x.b.map m2)]:=rfl
theorem fZ (x:Md):dQ x=[.sl 2 (x.ts.map bQ),.sl 13 (x.ims.map cW),.sl 3 (x.fs.map bF),.sl 4 (x.tbs.map dG),.sl 3 (x.ms.map dA),.sl 3 (x.gs.map df),.sl 3 (x.exs.map dU),.bool x.hs,.int .i64 x.st,.sl 5 (x.els.map cb),.sl 4 (x.ds.map cM),.sl 3 (x.cs.map eW)]:=rfl
def cE (x:Md):AV:=.agg (dQ x)
def bL {α:Type} (p:Nat→α→Prop) (B:Nat) (l:List α):Prop:=l.length≤B∧∀a∈l,p B a
def qr {α:Type} (τ:Ty) (f:α→List AV) (p:Nat→α→Prop):Prop:=∀r,τ.ok r→∃a,aK Nd r (f a)∧p maxLen a∧∀B,τ.bd B r→p B a
theorem Gi {α:Type} {τ:Ty} {f:α→List AV} {p:Nat→α→Prop} (h:qr τ f p):∀{rows:List (List AV)},(∀r∈rows,τ.ok r)→∃l:List α,aK (aK Nd) rows (l.map f)∧(∀a∈l,p maxLen a)∧∀B,(∀r∈rows,τ.bd B r)→∀a∈l,p B a
 | [],_=>⟨[],trivial,(fun a h=>by cases h),(fun _ _ a h=>by cases h)⟩
 | r :: rows,hr=>by
  obtain ⟨a,h1,h2,h3⟩:=h r (hr r (by simp))
  obtain ⟨l,g1,g2,g3⟩:=Gi h (rows:=rows) fun r hr'=>hr r (by simp [hr'])
  refine ⟨a :: l,⟨h1,g1⟩,fun b hb=>?_,fun B hB b hb=>?_⟩
  ·rcases cj.1 hb with rfl | hb
   ·exact h2
   ·exact g2 b hb
  ·rcases cj.1 hb with rfl | hb
   ·exact h3 B (hB r (by simp))
   ·exact g3 B (fun r hr'=>hB r (by simp [hr'])) b hb
theorem nH {st:Nat} {rows rows':List (List AV)} (h:aK (aK Nd) rows rows'):Nd (.sl st rows) (.sl st rows'):=by
 refine .sl st _ _ h.length (fun i r r' h1 h2=>?_) (fun i j r r' x y h1 h2 h3 h4=>?_)
 ·obtain ⟨a,e1,e2⟩:=h.get h2
  obtain rfl:=Option.some.inj (h1.symm.trans e1)
  exact e2.length
 ·obtain ⟨a,e1,e2⟩:=h.get h2
  obtain rfl:=Option.some.inj (h1.symm.trans e1)
  obtain ⟨b,e3,e4⟩:=e2.get h4
  obtain rfl:=Option.some.inj (h3.symm.trans e3)
  exact e4
theorem n8 {α:Type} {τ:Ty} {f:α→List AV} {p:Nat→α→Prop} (h:qr τ f p) {r:List AV} (hr:(Ty.sl τ).ok r):∃x l,r=[x]∧Nd x (.sl τ.n (l.map f))∧bL p maxLen l∧∀B,(Ty.sl τ).bd B [x]→bL p B l:=by
 rcases hr with rfl | ⟨rows,rfl,h2,h3⟩
 ·exact ⟨_,[],rfl,.nl _,⟨cC _,fun a h=>by cases h⟩,fun B _=>⟨cC _,fun a h=>by cases h⟩⟩
 ·obtain ⟨l,g1,g2,g3⟩:=Gi h h3
  have hl:=g1.length
  rw [fz] at hl
  refine ⟨_,l,rfl,nH g1,⟨by omega,g2⟩,fun B hB=>?_⟩
  obtain ⟨q1,q2⟩:=hB _ _ rfl
  exact ⟨by omega,g3 B q2⟩
theorem B7 {n:Int} (h:(Lit.int .u8 n).wf=true):0≤n∧n≤255:=by simpa [Lit.wf,IntKind.min,IntKind.max,IntKind.signed,IntKind.bits] using h
theorem uT {n:Int} (h:(Lit.int .u64 n).wf=true):0≤n∧n<18446744073709551616:=by
 have:0≤n∧n≤18446744073709551615:=by simpa [Lit.wf,IntKind.min,IntKind.max,IntKind.signed,IntKind.bits] using h
 omega
def Be {α:Type} (_:Nat) (_:α):Prop:=True
theorem qU:qr (.int .i64) dF Be:=fun r h=>by
 obtain ⟨n,rfl,_⟩:=h
 exact ⟨n,⟨.rfl _,trivial⟩,trivial,fun _ _=>trivial⟩
theorem FY:qr (.int .u8) m2 Be:=fun r h=>by
 obtain ⟨n,rfl,hw⟩:=h
 have hn:=B7 hw
 refine ⟨UInt8.ofNat n.toNat,?_,trivial,fun _ _=>trivial⟩
 rw [KZ (by omega),show ((n.toNat:Nat):Int)=n by omega]
 exact ⟨.rfl _,trivial⟩
def oe:Ty:=.cons (.int .i64) (.cons (.int .i64) (.cons (.int .i64) (.cons (.int .u64) (.cons (.cons (.int .i64) (.cons (.int .i64) (.cons (.int .i64) .nil))) (.cons (.sl (.int .i64)) (.cons (.sl (.int .i64)) .nil))))))
def ou (B:Nat) (x:cS):Prop:=(0≤x.n∧x.n<18446744073709551616)∧bL Be B x.ty∧bL Be B x.lb
theorem m_:qr oe aW ou:=fun r h=>by
 obtain ⟨_,_,rfl,⟨op,rfl,w_op⟩,_,_,rfl,⟨a,rfl,w_a⟩,_,_,rfl,⟨b,rfl,w_b⟩,_,_,rfl,⟨n,rfl,w_n⟩,_,_,rfl,⟨_,_,rfl,⟨k,rfl,w_k⟩,_,_,rfl,⟨v,rfl,w_v⟩,_,_,rfl,⟨z,rfl,w_z⟩,rfl⟩,_,_,rfl,h_ty,_,_,rfl,h_lb,rfl⟩:=h
 obtain ⟨x_ty,l_ty,rfl,d_ty,m_ty,b_ty⟩:=n8 qU h_ty
 obtain ⟨x_lb,l_lb,rfl,d_lb,m_lb,b_lb⟩:=n8 qU h_lb
 exact ⟨⟨op,a,b,n,k,v,z,l_ty,l_lb⟩,⟨.rfl _,.rfl _,.rfl _,.rfl _,.rfl _,.rfl _,.rfl _,d_ty,d_lb,trivial⟩,⟨uT w_n,m_ty,m_lb⟩,fun B hB=>⟨uT w_n,b_ty B hB.2.2.2.2.2.1,b_lb B hB.2.2.2.2.2.2.1⟩⟩
def Gu:Ty:=.cons (.sl (.int .i64)) (.cons (.sl (.int .i64)) .nil)
def KT (B:Nat) (x:Ft):Prop:=bL Be B x.ps∧bL Be B x.rs
theorem Ig:qr Gu bQ KT:=fun r h=>by
 obtain ⟨_,_,rfl,h_ps,_,_,rfl,h_rs,rfl⟩:=h
 obtain ⟨x_ps,l_ps,rfl,d_ps,m_ps,b_ps⟩:=n8 qU h_ps
 obtain ⟨x_rs,l_rs,rfl,d_rs,m_rs,b_rs⟩:=n8 qU h_rs
 exact ⟨⟨l_ps,l_rs⟩,⟨d_ps,d_rs,trivial⟩,⟨m_ps,m_rs⟩,fun B hB=>⟨b_ps B hB.1,b_rs B hB.2.1⟩⟩
def Gx:Ty:=.cons (.int .i64) (.cons (.int .i64) (.cons .bool .nil))
def KV (B:Nat) (x:Lm):Prop:=True
theorem Ij:qr Gx dA KV:=fun r h=>by
 obtain ⟨_,_,rfl,⟨mn,rfl,w_mn⟩,_,_,rfl,⟨mx,rfl,w_mx⟩,_,_,rfl,⟨hs,rfl⟩,rfl⟩:=h
 exact ⟨⟨mn,mx,hs⟩,⟨.rfl _,.rfl _,.rfl _,trivial⟩,trivial,fun B hB=>trivial⟩
def Gy:Ty:=.cons (.int .i64) (.cons (.cons (.int .i64) (.cons (.int .i64) (.cons .bool .nil))) .nil)
def KW (B:Nat) (x:Tb):Prop:=True
theorem Il:qr Gy dG KW:=fun r h=>by
 obtain ⟨_,_,rfl,⟨e,rfl,w_e⟩,_,_,rfl,⟨_,_,rfl,⟨mn,rfl,w_mn⟩,_,_,rfl,⟨mx,rfl,w_mx⟩,_,_,rfl,⟨hs,rfl⟩,rfl⟩,rfl⟩:=h
 exact ⟨⟨e,⟨mn,mx,hs⟩⟩,⟨.rfl _,.rfl _,.rfl _,.rfl _,trivial⟩,trivial,fun B hB=>trivial⟩
def Gw:Ty:=.cons .str (.cons .str (.cons (.int .i64) (.cons (.int .i64) (.cons (.cons (.int .i64) (.cons (.cons (.int .i64) (.cons (.int .i64) (.cons .bool .nil))) .nil)) (.cons (.cons (.int .i64) (.cons (.int .i64) (.cons .bool .nil))) (.cons (.cons (.int .i64) (.cons .bool .nil)) .nil))))))
def Dd (B:Nat) (x:Im):Prop:=x.m.length≤B∧x.n.length≤B
theorem Ii:qr Gw cW Dd:=fun r h=>by
 obtain ⟨_,_,rfl,⟨m,rfl,w_m⟩,_,_,rfl,⟨n,rfl,w_n⟩,_,_,rfl,⟨k,rfl,w_k⟩,_,_,rfl,⟨f,rfl,w_f⟩,_,_,rfl,⟨_,_,rfl,⟨te,rfl,w_te⟩,_,_,rfl,⟨_,_,rfl,⟨tmn,rfl,w_tmn⟩,_,_,rfl,⟨tmx,rfl,w_tmx⟩,_,_,rfl,⟨ths,rfl⟩,rfl⟩,rfl⟩,_,_,rfl,⟨_,_,rfl,⟨qmn,rfl,w_qmn⟩,_,_,rfl,⟨qmx,rfl,w_qmx⟩,_,_,rfl,⟨qhs,rfl⟩,rfl⟩,_,_,rfl,⟨_,_,rfl,⟨gv,rfl,w_gv⟩,_,_,rfl,⟨gmu,rfl⟩,rfl⟩,rfl⟩:=h
 exact ⟨⟨m,n,k,f,te,⟨tmn,tmx,ths⟩,⟨qmn,qmx,qhs⟩,⟨gv,gmu⟩⟩,⟨.rfl _,.rfl _,.rfl _,.rfl _,.rfl _,.rfl _,.rfl _,.rfl _,.rfl _,.rfl _,.rfl _,.rfl _,.rfl _,trivial⟩,⟨w_m,w_n⟩,fun B hB=>⟨hB.1 _ rfl,hB.2.1 _ rfl⟩⟩
def Gp:Ty:=.cons (.int .i64) (.cons (.sl (.int .i64)) (.cons (.sl oe) .nil))
def KO (B:Nat) (x:Cd):Prop:=bL Be B x.lo∧bL ou B x.b
theorem Ib:qr Gp bF KO:=fun r h=>by
 obtain ⟨_,_,rfl,⟨t,rfl,w_t⟩,_,_,rfl,h_lo,_,_,rfl,h_b,rfl⟩:=h
 obtain ⟨x_lo,l_lo,rfl,d_lo,m_lo,b_lo⟩:=n8 qU h_lo
 obtain ⟨x_b,l_b,rfl,d_b,m_b,b_b⟩:=n8 m_ h_b
 exact ⟨⟨t,l_lo,l_b⟩,⟨.rfl _,d_lo,d_b,trivial⟩,⟨m_lo,m_b⟩,fun B hB=>⟨b_lo B hB.2.1,b_b B hB.2.2.1⟩⟩
def Gv:Ty:=.cons (.cons (.int .i64) (.cons .bool .nil)) (.cons (.sl oe) .nil)
def KU (B:Nat) (x:Gd):Prop:=bL ou B x.i
theorem Ih:qr Gv df KU:=fun r h=>by
 obtain ⟨_,_,rfl,⟨_,_,rfl,⟨v,rfl,w_v⟩,_,_,rfl,⟨mu,rfl⟩,rfl⟩,_,_,rfl,h_i,rfl⟩:=h
 obtain ⟨x_i,l_i,rfl,d_i,m_i,b_i⟩:=n8 m_ h_i
 exact ⟨⟨⟨v,mu⟩,l_i⟩,⟨.rfl _,.rfl _,d_i,trivial⟩,m_i,fun B hB=>b_i B hB.2.1⟩
def Gt:Ty:=.cons .str (.cons (.int .i64) (.cons (.int .i64) .nil))
def KS (B:Nat) (x:Ex):Prop:=x.n.length≤B
theorem If:qr Gt dU KS:=fun r h=>by
 obtain ⟨_,_,rfl,⟨n,rfl,w_n⟩,_,_,rfl,⟨k,rfl,w_k⟩,_,_,rfl,⟨i,rfl,w_i⟩,rfl⟩:=h
 exact ⟨⟨n,k,i⟩,⟨.rfl _,.rfl _,.rfl _,trivial⟩,w_n,fun B hB=>hB.1 _ rfl⟩
theorem Dz:qr (.sl oe) bY (bL ou):=fun r h=>by
 obtain ⟨x,l,rfl,d,m,b⟩:=n8 m_ h
 exact ⟨l,⟨d,trivial⟩,m,fun B hB=>b B hB⟩
def Gs:Ty:=.cons (.int .i64) (.cons (.int .i64) (.cons (.sl oe) (.cons (.int .i64) (.cons (.sl (.sl oe)) .nil))))
def KR (B:Nat) (x:El):Prop:=bL ou B x.o∧bL (bL ou) B x.it
theorem Ie:qr Gs cb KR:=fun r h=>by
 obtain ⟨_,_,rfl,⟨mo,rfl,w_mo⟩,_,_,rfl,⟨tb,rfl,w_tb⟩,_,_,rfl,h_o,_,_,rfl,⟨ty,rfl,w_ty⟩,_,_,rfl,h_it,rfl⟩:=h
 obtain ⟨x_o,l_o,rfl,d_o,m_o,b_o⟩:=n8 m_ h_o
 obtain ⟨x_it,l_it,rfl,d_it,m_it,b_it⟩:=n8 Dz h_it
 exact ⟨⟨mo,tb,l_o,ty,l_it⟩,⟨.rfl _,.rfl _,d_o,.rfl _,d_it,trivial⟩,⟨m_o,m_it⟩,fun B hB=>⟨b_o B hB.2.2.1,b_it B hB.2.2.2.2.1⟩⟩
def Gr:Ty:=.cons (.int .i64) (.cons (.int .i64) (.cons (.sl oe) (.cons (.sl (.int .u8)) .nil)))
def KQ (B:Nat) (x:Da):Prop:=bL ou B x.o∧bL Be B x.b
theorem Id:qr Gr cM KQ:=fun r h=>by
 obtain ⟨_,_,rfl,⟨mo,rfl,w_mo⟩,_,_,rfl,⟨me,rfl,w_me⟩,_,_,rfl,h_o,_,_,rfl,h_b,rfl⟩:=h
 obtain ⟨x_o,l_o,rfl,d_o,m_o,b_o⟩:=n8 m_ h_o
 obtain ⟨x_b,l_b,rfl,d_b,m_b,b_b⟩:=n8 FY h_b
 exact ⟨⟨mo,me,l_o,l_b⟩,⟨.rfl _,.rfl _,d_o,d_b,trivial⟩,⟨m_o,m_b⟩,fun B hB=>⟨b_o B hB.2.2.1,b_b B hB.2.2.2.1⟩⟩
def Gq:Ty:=.cons (.int .i64) (.cons .str (.cons (.sl (.int .u8)) .nil))
def KP (B:Nat) (x:Cu):Prop:=x.n.length≤B∧bL Be B x.b
theorem Ic:qr Gq eW KP:=fun r h=>by
 obtain ⟨_,_,rfl,⟨af,rfl,w_af⟩,_,_,rfl,⟨n,rfl,w_n⟩,_,_,rfl,h_b,rfl⟩:=h
 obtain ⟨x_b,l_b,rfl,d_b,m_b,b_b⟩:=n8 FY h_b
 exact ⟨⟨af,n,l_b⟩,⟨.rfl _,.rfl _,d_b,trivial⟩,⟨w_n,m_b⟩,fun B hB=>⟨hB.2.1 _ rfl,b_b B hB.2.2.1⟩⟩
def rT:Ty:=.cons (.sl Gu) (.cons (.sl Gw) (.cons (.sl Gp) (.cons (.sl Gy) (.cons (.sl Gx) (.cons (.sl Gv) (.cons (.sl Gt) (.cons .bool (.cons (.int .i64) (.cons (.sl Gs) (.cons (.sl Gr) (.cons (.sl Gq) .nil)))))))))))
def iL (B:Nat) (x:Md):Prop:=bL KT B x.ts∧bL Dd B x.ims∧bL KO B x.fs∧bL KW B x.tbs∧bL KV B x.ms∧bL KU B x.gs∧bL KS B x.exs∧bL KR B x.els∧bL KQ B x.ds∧bL KP B x.cs
theorem Ik:qr rT dQ iL:=fun r h=>by
 obtain ⟨_,_,rfl,h_ts,_,_,rfl,h_ims,_,_,rfl,h_fs,_,_,rfl,h_tbs,_,_,rfl,h_ms,_,_,rfl,h_gs,_,_,rfl,h_exs,_,_,rfl,⟨hs,rfl⟩,_,_,rfl,⟨st,rfl,w_st⟩,_,_,rfl,h_els,_,_,rfl,h_ds,_,_,rfl,h_cs,rfl⟩:=h
 obtain ⟨x_ts,l_ts,rfl,d_ts,m_ts,b_ts⟩:=n8 Ig h_ts
 obtain ⟨x_ims,l_ims,rfl,d_ims,m_ims,b_ims⟩:=n8 Ii h_ims
 obtain ⟨x_fs,l_fs,rfl,d_fs,m_fs,b_fs⟩:=n8 Ib h_fs
 obtain ⟨x_tbs,l_tbs,rfl,d_tbs,m_tbs,b_tbs⟩:=n8 Il h_tbs
 obtain ⟨x_ms,l_ms,rfl,d_ms,m_ms,b_ms⟩:=n8 Ij h_ms
 obtain ⟨x_gs,l_gs,rfl,d_gs,m_gs,b_gs⟩:=n8 Ih h_gs
 obtain ⟨x_exs,l_exs,rfl,d_exs,m_exs,b_exs⟩:=n8 If h_exs
 obtain ⟨x_els,l_els,rfl,d_els,m_els,b_els⟩:=n8 Ie h_els
 obtain ⟨x_ds,l_ds,rfl,d_ds,m_ds,b_ds⟩:=n8 Id h_ds
 obtain ⟨x_cs,l_cs,rfl,d_cs,m_cs,b_cs⟩:=n8 Ic h_cs
 exact ⟨⟨l_ts,l_ims,l_fs,l_tbs,l_ms,l_gs,l_exs,hs,st,l_els,l_ds,l_cs⟩,⟨d_ts,d_ims,d_fs,d_tbs,d_ms,d_gs,d_exs,.rfl _,.rfl _,d_els,d_ds,d_cs,trivial⟩,⟨m_ts,m_ims,m_fs,m_tbs,m_ms,m_gs,m_exs,m_els,m_ds,m_cs⟩,fun B hB=>⟨b_ts B hB.1,b_ims B hB.2.1,b_fs B hB.2.2.1,b_tbs B hB.2.2.2.1,b_ms B hB.2.2.2.2.1,b_gs B hB.2.2.2.2.2.1,b_exs B hB.2.2.2.2.2.2.1,b_els B hB.2.2.2.2.2.2.2.2.2.1,b_ds B hB.2.2.2.2.2.2.2.2.2.2.1,b_cs B hB.2.2.2.2.2.2.2.2.2.2.2.1⟩⟩
theorem Rh {α:Type} {τ:Ty} {f:α→List AV} {p:Nat→α→Prop} (h:qr τ f p) (hr:τ.isRec=true) {x:AV} (hx:τ.okV x):∃a,Jq x (.agg (f a))∧p maxLen a∧∀B,τ.bdV B x→p B a:=by
 unfold Ty.okV at hx
 rw [hr] at hx
 obtain ⟨xs,rfl,hx⟩:=hx
 obtain ⟨a,h1,h2,h3⟩:=h xs hx
 refine ⟨a,.inr ⟨_,_,rfl,rfl,h1⟩,h2,fun B hB=>h3 B ?_⟩
 unfold Ty.bdV at hB
 rw [hr] at hB
 exact hB _ rfl
theorem Ra {τ τ1 τ2:Ty} {xs:List AV} (h:aK Ty.okV [τ,τ1,τ2] xs):∃x y z,xs=[x,y,z]∧τ.okV x∧τ1.okV y∧τ2.okV z:=by
 match xs,h with
 | [x,y,z],h=>exact ⟨x,y,z,rfl,h.1,h.2.1,h.2.2.1⟩
theorem Nq:iO Tryz.prog 9 33=some rT:=by kernel_rfl
section
theorem aG (id:Nat) (t:TypeId) (st:Nat) (ys:List (List AV)):vl id t st 0 0 ys (some ⟨t,st,[],false⟩) =
  if ys.length<137438953472∧(0:Nat)<137438953472∧(id<1000∨2000≤id) then some (.ms id st 0 (0+ys.length),.reb id ⟨t,st,ys,false⟩) else none:=by
 have h:=aA id t st 0 (fun _:Unit=>([]:List AV)) [] ys rfl
 simpa using h
def PT (x:cS):Prop:=x.ty.length≤1048576∧x.lb.length≤1048576∧0≤x.n
def l_ (l:List cS):Prop:=l.length≤1048576∧∀x∈l,PT x
def PS (x:Ft):Prop:=x.ps.length≤1048576∧x.rs.length≤1048576
def HZ (x:Cd):Prop:=x.lo.length≤1048576∧l_ x.b
def H3 (x:Gd):Prop:=l_ x.i
def H2 (x:El):Prop:=l_ x.o∧x.it.length≤1048576∧∀l∈x.it,l_ l
def H1 (x:Da):Prop:=l_ x.o∧x.b.length≤1048576
def H0 (x:Cu):Prop:=x.b.length≤1048576
structure mH (m:Md):Prop where
 ts:m.ts.length≤1048576∧∀x∈m.ts,PS x
 ims:m.ims.length≤1048576
 fs:m.fs.length≤1048576∧∀x∈m.fs,HZ x
 tbs:m.tbs.length≤1048576
 ms:m.ms.length≤1048576
 gs:m.gs.length≤1048576∧∀x∈m.gs,H3 x
 exs:m.exs.length≤1048576
 els:m.els.length≤1048576∧∀x∈m.els,H2 x
 ds:m.ds.length≤1048576∧∀x∈m.ds,H1 x
 cs:m.cs.length≤1048576∧∀x∈m.cs,H0 x
def FB (x:cS):Prop:=x.ty.length≤9223372036854775807∧x.lb.length≤9223372036854775807∧0≤x.n
def qg (l:List cS):Prop:=l.length≤9223372036854775807∧∀x∈l,FB x
def NN (x:Ft):Prop:=x.ps.length≤9223372036854775807∧x.rs.length≤9223372036854775807
def B0 (x:Cd):Prop:=x.lo.length≤9223372036854775807∧qg x.b
def J8 (x:Gd):Prop:=qg x.i
def FA (x:El):Prop:=qg x.o∧x.it.length≤140737488355328∧∀l∈x.it,qg l
def Fz (x:Da):Prop:=qg x.o∧x.b.length≤9223372036854775807
def Rr (x:Cu):Prop:=x.b.length≤9223372036854775807
structure Gk (m:Md):Prop where
 ts:m.ts.length≤140737488355328∧∀x∈m.ts,NN x
 ims:m.ims.length≤140737488355328
 fs:m.fs.length≤140737488355328∧∀x∈m.fs,B0 x
 tbs:m.tbs.length≤140737488355328
 ms:m.ms.length≤140737488355328
 gs:m.gs.length≤140737488355328∧∀x∈m.gs,J8 x
 exs:m.exs.length≤140737488355328
 els:m.els.length≤140737488355328∧∀x∈m.els,FA x
 ds:m.ds.length≤140737488355328∧∀x∈m.ds,Fz x
 cs:m.cs.length≤140737488355328∧∀x∈m.cs,Rr x
theorem aO {α:Type} [Inhabited α] {p:α→Prop} {l:List α} (h:∀x∈l,p x) {i:Nat} (hi:i<l.length):p (ac l i):=by
 rw [bD hi];exact h _ (List.getElem_mem hi)
theorem aU {α:Type} [Inhabited α] {l:List α} {i:Nat} (h:i<l.length):l.take (i+1)=l.take i++[ac l i]:=by rw [List.take_add_one,cO h,Option.toList_some]
attribute [local go_sem] fz
theorem pJ (rows:List (List AV)) (h:rows.length≤1048576):aj Tryz.prog Sn [.sl 1 rows] (.sl 1 rows):=by
 refine ab (ic:=N3.body) aq R3 rfl rfl ?_
 have ha:=aG 5 53 1 rows
 simp only [go_sem,N3]
 refine ir _ _ _ _ ⟨?_,fun h0=>?_⟩
 ·simp only [go_sem,ha]
  refine ⟨by omega,aE [5] ?_ rfl⟩
  simp only [go_sem,aB]
  rw [bJ]
 ·subst h0
  simp only [go_sem]
  exact eT (Wk.nls _ 2 1 (by simp only [go_sem])) [] (by first | rfl | simp only [go_sem]) rfl
theorem HT (rows:List (List AV)) (h:rows.length≤1048576):aj Tryz.prog Sk [.sl 13 rows] (.sl 13 rows):=by
 refine ab (ic:=NS.body) aq RZ rfl rfl ?_
 have ha:=aG 5 61 13 rows
 simp only [go_sem,NS]
 refine ir _ _ _ _ ⟨?_,fun h0=>?_⟩
 ·simp only [go_sem,ha]
  refine ⟨by omega,aE [5] ?_ rfl⟩
  simp only [go_sem,aB]
  rw [bJ]
 ·subst h0
  simp only [go_sem]
  exact eT (Wk.nls _ 2 13 (by simp only [go_sem])) [] (by first | rfl | simp only [go_sem]) rfl
theorem HW (rows:List (List AV)) (h:rows.length≤1048576):aj Tryz.prog Sm [.sl 4 rows] (.sl 4 rows):=by
 refine ab (ic:=N0.body) aq R1 rfl rfl ?_
 have ha:=aG 5 57 4 rows
 simp only [go_sem,N0]
 refine ir _ _ _ _ ⟨?_,fun h0=>?_⟩
 ·simp only [go_sem,ha]
  refine ⟨by omega,aE [5] ?_ rfl⟩
  simp only [go_sem,aB]
  rw [bJ]
 ·subst h0
  simp only [go_sem]
  exact eT (Wk.nls _ 2 4 (by simp only [go_sem])) [] (by first | rfl | simp only [go_sem]) rfl
theorem HV (rows:List (List AV)) (h:rows.length≤1048576):aj Tryz.prog Sl [.sl 3 rows] (.sl 3 rows):=by
 refine ab (ic:=NV.body) aq R0 rfl rfl ?_
 have ha:=aG 5 55 3 rows
 simp only [go_sem,NV]
 refine ir _ _ _ _ ⟨?_,fun h0=>?_⟩
 ·simp only [go_sem,ha]
  refine ⟨by omega,aE [5] ?_ rfl⟩
  simp only [go_sem,aB]
  rw [bJ]
 ·subst h0
  simp only [go_sem]
  exact eT (Wk.nls _ 2 3 (by simp only [go_sem])) [] (by first | rfl | simp only [go_sem]) rfl
theorem HS (rows:List (List AV)) (h:rows.length≤1048576):aj Tryz.prog Sj [.sl 3 rows] (.sl 3 rows):=by
 refine ab (ic:=NP.body) aq RY rfl rfl ?_
 have ha:=aG 5 68 3 rows
 simp only [go_sem,NP]
 refine ir _ _ _ _ ⟨?_,fun h0=>?_⟩
 ·simp only [go_sem,ha]
  refine ⟨by omega,aE [5] ?_ rfl⟩
  simp only [go_sem,aB]
  rw [bJ]
 ·subst h0
  simp only [go_sem]
  exact eT (Wk.nls _ 2 3 (by simp only [go_sem])) [] (by first | rfl | simp only [go_sem]) rfl
theorem yK (rows:List (List AV)) (h:rows.length≤1048576):aj Tryz.prog Qm [.sl 1 rows] (.sl 1 rows):=by
 refine ab (ic:=GA.body) aq Oj rfl rfl ?_
 have ha:=aG 5 5 1 rows
 simp only [go_sem,GA]
 refine ir _ _ _ _ ⟨?_,fun h0=>?_⟩
 ·simp only [go_sem,ha]
  refine ⟨by omega,aE [5] ?_ rfl⟩
  simp only [go_sem,aB]
  rw [bJ]
 ·subst h0
  simp only [go_sem]
  exact eT (Wk.nls _ 2 1 (by simp only [go_sem])) [] (by first | rfl | simp only [go_sem]) rfl
theorem HU (rows:List (List AV)) (h:rows.length≤1048576):aj Tryz.prog Qu [.sl 1 rows] (.sl 1 rows):=by
 refine ab (ic:=GH.body) aq OB rfl rfl ?_
 have ha:=aG 5 3 1 rows
 simp only [go_sem,GH]
 refine ir _ _ _ _ ⟨?_,fun h0=>?_⟩
 ·simp only [go_sem,ha]
  refine ⟨by omega,aE [5] ?_ rfl⟩
  simp only [go_sem,aB]
  rw [bJ]
 ·subst h0
  simp only [go_sem]
  exact eT (Wk.nls _ 2 1 (by simp only [go_sem])) [] (by first | rfl | simp only [go_sem]) rfl
theorem PL (x:Ft) (h:PS x):aj Tryz.prog Jg [.agg (bQ x)] (.agg (bQ x)):=by
 refine ab (ic:=G8.body) aq Pn rfl rfl ?_
 simp only [go_sem,G8,bq]
 refine ar (pJ (x.ps.map dF) (by rw [fz];exact h.1)) (by simp [go_sem]) rfl ?_
 simp only [go_sem]
 refine aa (pJ (x.rs.map dF) (by rw [fz];exact h.2)) ?_
 simp only [go_sem]
 exact aE [] (by simp only [go_sem,bq]) (by first | rfl | simp [go_sem,ca])
theorem PR (x:cS) (h:PT x):aj Tryz.prog Jn [.agg (aW x)] (.agg (aW x)):=by
 refine ab (ic:=Hf.body) aq PA rfl rfl ?_
 simp only [go_sem,Hf,aW]
 refine ar (pJ (x.ty.map dF) (by rw [fz];exact h.1)) (by simp [go_sem]) rfl ?_
 simp only [go_sem]
 refine ar (HU (x.lb.map dF) (by rw [fz];exact h.2.1)) (by simp [go_sem]) rfl ?_
 simp only [go_sem]
 exact aE [] (by simp only [go_sem,aW]) (by first | rfl | simp [go_sem,ca])
theorem H8 (l:List (cS)) (hl:l.length≤1048576) (hx:∀x∈l,PT x):aj Tryz.prog Qw [.sl 9 (l.map aW),.fn Jn []] (.sl 9 (l.map aW)):=by
 refine ab (ic:=GI.body) aq OE rfl rfl ?_
 simp only [go_sem,GI]
 refine an (fun i:Nat=>⟨[(10,.int .i64 i),(9,.int .i64 l.length),(8,.sl 9 (l.map aW)),(5,.ms 900 9 0 i),(1,.fn Jn [])],[(900,⟨83,9,(l.take i).map aW,false⟩)]⟩) (fun i=>i≤l.length) (fun i=>l.length - i) 0 (cC _) ((Wk.nil _ 5 900 9 83 (by simp only [go_sem]) (.inl (by decide))).trans (Wk.of ?_ ?_)) ?_
 ·simp only [go_sem,St.mknil];try simp [go_sem]
 ·simp only [go_sem,St.mknil,bE];try simp [go_sem]
 intro i hi
 have hil:(l.take i).length=i:=by simp;omega
 have happ:=fun ys=>aA 900 83 9 i aW (l.take i) ys hil
 by_cases h1:(i:Int)<(l.length:Int)
 ·have hi':i<l.length:=by omega
  have e8:=wi (n:=(i:Int)+1) (by omega) (by omega)
  have cc:=PR (ac l i) (aO hx hi')
  try simp only [aW] at cc
  simp only [go_sem,aI h1,aW]
  refine ⟨by omega,h1,by kernel_rfl,?_⟩
  refine aa (cc) ?_
  simp only [go_sem,happ]
  refine ⟨by omega,aC (i+1) (show i+1≤l.length by omega) (show l.length - (i+1)<l.length - i by omega) (Wk.of ?_ ?_)⟩
  ·simp only [go_sem,e8];try simp
  ·simp only [go_sem,aU hi',List.map_append];try simp [aW]
 ·obtain rfl:i=l.length:=by omega
  simp only [go_sem,az h1]
  refine aE [900] ?_ rfl
  simp only [go_sem,bJ,aB]
  rw [jw (by simp)]
theorem kx (l:List cS) (h:l_ l):aj Tryz.prog A7 [.sl 9 (l.map aW)] (.sl 9 (l.map aW)):=by
 refine ab (ic:=xl.body) aq K6 rfl rfl ?_
 simp only [go_sem,xl]
 refine aa (H8 l h.1 h.2) ?_
 simp only [go_sem]
 exact ak
theorem Du (l:List (List cS)) (hl:l.length≤1048576) (hx:∀x∈l,l_ x):aj Tryz.prog Qn [.sl 1 (l.map bY),.fn A7 []] (.sl 1 (l.map bY)):=by
 refine ab (ic:=GE.body) aq On rfl rfl ?_
 simp only [go_sem,GE]
 refine an (fun i:Nat=>⟨[(10,.int .i64 i),(9,.int .i64 l.length),(8,.sl 1 (l.map bY)),(5,.ms 900 1 0 i),(1,.fn A7 [])],[(900,⟨62,1,(l.take i).map bY,false⟩)]⟩) (fun i=>i≤l.length) (fun i=>l.length - i) 0 (cC _) ((Wk.nil _ 5 900 1 62 (by simp only [go_sem]) (.inl (by decide))).trans (Wk.of ?_ ?_)) ?_
 ·simp only [go_sem,St.mknil];try simp [go_sem]
 ·simp only [go_sem,St.mknil,bE];try simp [go_sem]
 intro i hi
 have hil:(l.take i).length=i:=by simp;omega
 have happ:=fun ys=>aA 900 62 1 i bY (l.take i) ys hil
 by_cases h1:(i:Int)<(l.length:Int)
 ·have hi':i<l.length:=by omega
  have e8:=wi (n:=(i:Int)+1) (by omega) (by omega)
  have cc:=kx (ac l i) (aO hx hi')
  try simp only [bn] at cc
  simp only [go_sem,aI h1,bn]
  refine ⟨by omega,h1,by kernel_rfl,?_⟩
  refine aa (cc) ?_
  simp only [go_sem,happ]
  refine ⟨by omega,aC (i+1) (show i+1≤l.length by omega) (show l.length - (i+1)<l.length - i by omega) (Wk.of ?_ ?_)⟩
  ·simp only [go_sem,e8];try simp
  ·simp only [go_sem,aU hi',List.map_append];try simp [bn]
 ·obtain rfl:i=l.length:=by omega
  simp only [go_sem,az h1]
  refine aE [900] ?_ rfl
  simp only [go_sem,bJ,aB]
  rw [jw (by simp)]
theorem Ds (l:List (Ft)) (hl:l.length≤1048576) (hx:∀x∈l,PS x):aj Tryz.prog QC [.sl 2 (l.map bQ),.fn Jg []] (.sl 2 (l.map bQ)):=by
 refine ab (ic:=GM.body) aq OL rfl rfl ?_
 simp only [go_sem,GM]
 refine an (fun i:Nat=>⟨[(10,.int .i64 i),(9,.int .i64 l.length),(8,.sl 2 (l.map bQ)),(5,.ms 900 2 0 i),(1,.fn Jg [])],[(900,⟨51,2,(l.take i).map bQ,false⟩)]⟩) (fun i=>i≤l.length) (fun i=>l.length - i) 0 (cC _) ((Wk.nil _ 5 900 2 51 (by simp only [go_sem]) (.inl (by decide))).trans (Wk.of ?_ ?_)) ?_
 ·simp only [go_sem,St.mknil];try simp [go_sem]
 ·simp only [go_sem,St.mknil,bE];try simp [go_sem]
 intro i hi
 have hil:(l.take i).length=i:=by simp;omega
 have happ:=fun ys=>aA 900 51 2 i bQ (l.take i) ys hil
 by_cases h1:(i:Int)<(l.length:Int)
 ·have hi':i<l.length:=by omega
  have e8:=wi (n:=(i:Int)+1) (by omega) (by omega)
  have cc:=PL (ac l i) (aO hx hi')
  try simp only [bq] at cc
  simp only [go_sem,aI h1,bq]
  refine ⟨by omega,h1,by kernel_rfl,?_⟩
  refine aa (cc) ?_
  simp only [go_sem,happ]
  refine ⟨by omega,aC (i+1) (show i+1≤l.length by omega) (show l.length - (i+1)<l.length - i by omega) (Wk.of ?_ ?_)⟩
  ·simp only [go_sem,e8];try simp
  ·simp only [go_sem,aU hi',List.map_append];try simp [bq]
 ·obtain rfl:i=l.length:=by omega
  simp only [go_sem,az h1]
  refine aE [900] ?_ rfl
  simp only [go_sem,bJ,aB]
  rw [jw (by simp)]
theorem PM (x:Cd) (h:HZ x):aj Tryz.prog Jh [.agg (bF x)] (.agg (bF x)):=by
 refine ab (ic:=G9.body) aq Po rfl rfl ?_
 simp only [go_sem,G9,bj]
 refine ar (pJ (x.lo.map dF) (by rw [fz];exact h.1)) (by simp [go_sem]) rfl ?_
 simp only [go_sem]
 refine ar (kx x.b h.2) (by simp [go_sem]) rfl ?_
 simp only [go_sem]
 exact aE [] (by simp only [go_sem,bj]) (by first | rfl | simp [go_sem,ca])
theorem Do (l:List (Cd)) (hl:l.length≤1048576) (hx:∀x∈l,HZ x):aj Tryz.prog Qz [.sl 3 (l.map bF),.fn Jh []] (.sl 3 (l.map bF)):=by
 refine ab (ic:=GJ.body) aq OI rfl rfl ?_
 simp only [go_sem,GJ]
 refine an (fun i:Nat=>⟨[(10,.int .i64 i),(9,.int .i64 l.length),(8,.sl 3 (l.map bF)),(5,.ms 900 3 0 i),(1,.fn Jh [])],[(900,⟨64,3,(l.take i).map bF,false⟩)]⟩) (fun i=>i≤l.length) (fun i=>l.length - i) 0 (cC _) ((Wk.nil _ 5 900 3 64 (by simp only [go_sem]) (.inl (by decide))).trans (Wk.of ?_ ?_)) ?_
 ·simp only [go_sem,St.mknil];try simp [go_sem]
 ·simp only [go_sem,St.mknil,bE];try simp [go_sem]
 intro i hi
 have hil:(l.take i).length=i:=by simp;omega
 have happ:=fun ys=>aA 900 64 3 i bF (l.take i) ys hil
 by_cases h1:(i:Int)<(l.length:Int)
 ·have hi':i<l.length:=by omega
  have e8:=wi (n:=(i:Int)+1) (by omega) (by omega)
  have cc:=PM (ac l i) (aO hx hi')
  try simp only [bj] at cc
  simp only [go_sem,aI h1,bj]
  refine ⟨by omega,h1,by kernel_rfl,?_⟩
  refine aa (cc) ?_
  simp only [go_sem,happ]
  refine ⟨by omega,aC (i+1) (show i+1≤l.length by omega) (show l.length - (i+1)<l.length - i by omega) (Wk.of ?_ ?_)⟩
  ·simp only [go_sem,e8];try simp
  ·simp only [go_sem,aU hi',List.map_append];try simp [bj]
 ·obtain rfl:i=l.length:=by omega
  simp only [go_sem,az h1]
  refine aE [900] ?_ rfl
  simp only [go_sem,bJ,aB]
  rw [jw (by simp)]
theorem PN (x:Gd) (h:H3 x):aj Tryz.prog Ji [.agg (df x)] (.agg (df x)):=by
 refine ab (ic:=G_.body) aq Pp rfl rfl ?_
 simp only [go_sem,G_,bK]
 refine ar (kx x.i h) (by simp [go_sem]) rfl ?_
 simp only [go_sem]
 exact aE [] (by simp only [go_sem,bK]) (by first | rfl | simp [go_sem,ca])
theorem Dt (l:List (Gd)) (hl:l.length≤1048576) (hx:∀x∈l,H3 x):aj Tryz.prog Sp [.sl 3 (l.map df),.fn Ji []] (.sl 3 (l.map df)):=by
 refine ab (ic:=N4.body) aq R5 rfl rfl ?_
 simp only [go_sem,N4]
 refine an (fun i:Nat=>⟨[(10,.int .i64 i),(9,.int .i64 l.length),(8,.sl 3 (l.map df)),(5,.ms 900 3 0 i),(1,.fn Ji [])],[(900,⟨66,3,(l.take i).map df,false⟩)]⟩) (fun i=>i≤l.length) (fun i=>l.length - i) 0 (cC _) ((Wk.nil _ 5 900 3 66 (by simp only [go_sem]) (.inl (by decide))).trans (Wk.of ?_ ?_)) ?_
 ·simp only [go_sem,St.mknil];try simp [go_sem]
 ·simp only [go_sem,St.mknil,bE];try simp [go_sem]
 intro i hi
 have hil:(l.take i).length=i:=by simp;omega
 have happ:=fun ys=>aA 900 66 3 i df (l.take i) ys hil
 by_cases h1:(i:Int)<(l.length:Int)
 ·have hi':i<l.length:=by omega
  have e8:=wi (n:=(i:Int)+1) (by omega) (by omega)
  have cc:=PN (ac l i) (aO hx hi')
  try simp only [bK] at cc
  simp only [go_sem,aI h1,bK]
  refine ⟨by omega,h1,by kernel_rfl,?_⟩
  refine aa (cc) ?_
  simp only [go_sem,happ]
  refine ⟨by omega,aC (i+1) (show i+1≤l.length by omega) (show l.length - (i+1)<l.length - i by omega) (Wk.of ?_ ?_)⟩
  ·simp only [go_sem,e8];try simp
  ·simp only [go_sem,aU hi',List.map_append];try simp [bK]
 ·obtain rfl:i=l.length:=by omega
  simp only [go_sem,az h1]
  refine aE [900] ?_ rfl
  simp only [go_sem,bJ,aB]
  rw [jw (by simp)]
theorem PO (x:El) (h:H2 x):aj Tryz.prog Jj [.agg (cb x)] (.agg (cb x)):=by
 refine ab (ic:=Ha.body) aq Pq rfl rfl ?_
 simp only [go_sem,Ha,aQ]
 refine ar (kx x.o h.1) (by simp [go_sem]) rfl ?_
 simp only [go_sem]
 refine ar (Du x.it h.2.1 h.2.2) (by simp [go_sem]) rfl ?_
 simp only [go_sem]
 exact aE [] (by simp only [go_sem,aQ]) (by first | rfl | simp [go_sem,ca])
theorem Dr (l:List (El)) (hl:l.length≤1048576) (hx:∀x∈l,H2 x):aj Tryz.prog QB [.sl 5 (l.map cb),.fn Jj []] (.sl 5 (l.map cb)):=by
 refine ab (ic:=GL.body) aq OK rfl rfl ?_
 simp only [go_sem,GL]
 refine an (fun i:Nat=>⟨[(10,.int .i64 i),(9,.int .i64 l.length),(8,.sl 5 (l.map cb)),(5,.ms 900 5 0 i),(1,.fn Jj [])],[(900,⟨70,5,(l.take i).map cb,false⟩)]⟩) (fun i=>i≤l.length) (fun i=>l.length - i) 0 (cC _) ((Wk.nil _ 5 900 5 70 (by simp only [go_sem]) (.inl (by decide))).trans (Wk.of ?_ ?_)) ?_
 ·simp only [go_sem,St.mknil];try simp [go_sem]
 ·simp only [go_sem,St.mknil,bE];try simp [go_sem]
 intro i hi
 have hil:(l.take i).length=i:=by simp;omega
 have happ:=fun ys=>aA 900 70 5 i cb (l.take i) ys hil
 by_cases h1:(i:Int)<(l.length:Int)
 ·have hi':i<l.length:=by omega
  have e8:=wi (n:=(i:Int)+1) (by omega) (by omega)
  have cc:=PO (ac l i) (aO hx hi')
  try simp only [aQ] at cc
  simp only [go_sem,aI h1,aQ]
  refine ⟨by omega,h1,by kernel_rfl,?_⟩
  refine aa (cc) ?_
  simp only [go_sem,happ]
  refine ⟨by omega,aC (i+1) (show i+1≤l.length by omega) (show l.length - (i+1)<l.length - i by omega) (Wk.of ?_ ?_)⟩
  ·simp only [go_sem,e8];try simp
  ·simp only [go_sem,aU hi',List.map_append];try simp [aQ]
 ·obtain rfl:i=l.length:=by omega
  simp only [go_sem,az h1]
  refine aE [900] ?_ rfl
  simp only [go_sem,bJ,aB]
  rw [jw (by simp)]
theorem PP (x:Da) (h:H1 x):aj Tryz.prog Jk [.agg (cM x)] (.agg (cM x)):=by
 refine ab (ic:=Hb.body) aq Pr rfl rfl ?_
 simp only [go_sem,Hb,bB]
 refine ar (kx x.o h.1) (by simp [go_sem]) rfl ?_
 simp only [go_sem]
 refine ar (yK (x.b.map m2) (by rw [fz];exact h.2)) (by simp [go_sem]) rfl ?_
 simp only [go_sem]
 exact aE [] (by simp only [go_sem,bB]) (by first | rfl | simp [go_sem,ca])
theorem Dq (l:List (Da)) (hl:l.length≤1048576) (hx:∀x∈l,H1 x):aj Tryz.prog QA [.sl 4 (l.map cM),.fn Jk []] (.sl 4 (l.map cM)):=by
 refine ab (ic:=GK.body) aq OJ rfl rfl ?_
 simp only [go_sem,GK]
 refine an (fun i:Nat=>⟨[(10,.int .i64 i),(9,.int .i64 l.length),(8,.sl 4 (l.map cM)),(5,.ms 900 4 0 i),(1,.fn Jk [])],[(900,⟨73,4,(l.take i).map cM,false⟩)]⟩) (fun i=>i≤l.length) (fun i=>l.length - i) 0 (cC _) ((Wk.nil _ 5 900 4 73 (by simp only [go_sem]) (.inl (by decide))).trans (Wk.of ?_ ?_)) ?_
 ·simp only [go_sem,St.mknil];try simp [go_sem]
 ·simp only [go_sem,St.mknil,bE];try simp [go_sem]
 intro i hi
 have hil:(l.take i).length=i:=by simp;omega
 have happ:=fun ys=>aA 900 73 4 i cM (l.take i) ys hil
 by_cases h1:(i:Int)<(l.length:Int)
 ·have hi':i<l.length:=by omega
  have e8:=wi (n:=(i:Int)+1) (by omega) (by omega)
  have cc:=PP (ac l i) (aO hx hi')
  try simp only [bB] at cc
  simp only [go_sem,aI h1,bB]
  refine ⟨by omega,h1,by kernel_rfl,?_⟩
  refine aa (cc) ?_
  simp only [go_sem,happ]
  refine ⟨by omega,aC (i+1) (show i+1≤l.length by omega) (show l.length - (i+1)<l.length - i by omega) (Wk.of ?_ ?_)⟩
  ·simp only [go_sem,e8];try simp
  ·simp only [go_sem,aU hi',List.map_append];try simp [bB]
 ·obtain rfl:i=l.length:=by omega
  simp only [go_sem,az h1]
  refine aE [900] ?_ rfl
  simp only [go_sem,bJ,aB]
  rw [jw (by simp)]
theorem PQ (x:Cu) (h:H0 x):aj Tryz.prog Jl [.agg (eW x)] (.agg (eW x)):=by
 refine ab (ic:=Hc.body) aq Ps rfl rfl ?_
 simp only [go_sem,Hc,bv]
 refine aa (yK (x.b.map m2) (by rw [fz];exact h)) ?_
 simp only [go_sem]
 exact aE [] (by simp only [go_sem,bv]) (by first | rfl | simp [go_sem,ca])
theorem Dp (l:List (Cu)) (hl:l.length≤1048576) (hx:∀x∈l,H0 x):aj Tryz.prog Qo [.sl 3 (l.map eW),.fn Jl []] (.sl 3 (l.map eW)):=by
 refine ab (ic:=GF.body) aq Oo rfl rfl ?_
 simp only [go_sem,GF]
 refine an (fun i:Nat=>⟨[(10,.int .i64 i),(9,.int .i64 l.length),(8,.sl 3 (l.map eW)),(5,.ms 900 3 0 i),(1,.fn Jl [])],[(900,⟨75,3,(l.take i).map eW,false⟩)]⟩) (fun i=>i≤l.length) (fun i=>l.length - i) 0 (cC _) ((Wk.nil _ 5 900 3 75 (by simp only [go_sem]) (.inl (by decide))).trans (Wk.of ?_ ?_)) ?_
 ·simp only [go_sem,St.mknil];try simp [go_sem]
 ·simp only [go_sem,St.mknil,bE];try simp [go_sem]
 intro i hi
 have hil:(l.take i).length=i:=by simp;omega
 have happ:=fun ys=>aA 900 75 3 i eW (l.take i) ys hil
 by_cases h1:(i:Int)<(l.length:Int)
 ·have hi':i<l.length:=by omega
  have e8:=wi (n:=(i:Int)+1) (by omega) (by omega)
  have cc:=PQ (ac l i) (aO hx hi')
  try simp only [bv] at cc
  simp only [go_sem,aI h1,bv]
  refine ⟨by omega,h1,by kernel_rfl,?_⟩
  refine aa (cc) ?_
  simp only [go_sem,happ]
  refine ⟨by omega,aC (i+1) (show i+1≤l.length by omega) (show l.length - (i+1)<l.length - i by omega) (Wk.of ?_ ?_)⟩
  ·simp only [go_sem,e8];try simp
  ·simp only [go_sem,aU hi',List.map_append];try simp [bv]
 ·obtain rfl:i=l.length:=by omega
  simp only [go_sem,az h1]
  refine aE [900] ?_ rfl
  simp only [go_sem,bJ,aB]
  rw [jw (by simp)]
theorem Fq (m:Md) (h:mH m):aj Tryz.prog F9 [cE m] (cE m):=by
 refine ab (ic:=xk.body) aq K3 rfl rfl ?_
 have c1:=Ds m.ts h.ts.1 h.ts.2
 have c2:=Do m.fs h.fs.1 h.fs.2
 have c3:=Dt m.gs h.gs.1 h.gs.2
 have c4:=Dr m.els h.els.1 h.els.2
 have c5:=Dq m.ds h.ds.1 h.ds.2
 have c6:=Dp m.cs h.cs.1 h.cs.2
 simp only [go_sem,xk,cE,fZ]
 refine aa (c1) ?_
 simp only [go_sem]
 refine ar (HT (m.ims.map cW) (by rw [fz];exact h.ims)) (by simp [go_sem]) rfl ?_
 simp only [go_sem]
 refine ar (HW (m.tbs.map dG) (by rw [fz];exact h.tbs)) (by simp [go_sem]) rfl ?_
 simp only [go_sem]
 refine ar (HV (m.ms.map dA) (by rw [fz];exact h.ms)) (by simp [go_sem]) rfl ?_
 simp only [go_sem]
 refine ar (HS (m.exs.map dU) (by rw [fz];exact h.exs)) (by simp [go_sem]) rfl ?_
 simp only [go_sem]
 refine aa (c2) ?_
 simp only [go_sem]
 refine aa (c3) ?_
 simp only [go_sem]
 refine aa (c4) ?_
 simp only [go_sem]
 refine aa (c5) ?_
 simp only [go_sem]
 refine aa (c6) ?_
 simp only [go_sem]
 exact aE [] (by simp only [go_sem,cE,fZ]) (by first | rfl | simp [go_sem,ca])
end
section
theorem ap {α β:Type} (f:α→β) (l:List α):List.take l.length (l.map f)=l.map f:=jw (by simp)
abbrev J5 (l:List cS) (i:Nat):St:=⟨[(4,.int .i64 i),(3,.ms 900 9 0 i),(0,.sl 9 (l.map aW))],[(900,⟨83,9,(l.take i).map aW,false⟩)]⟩
attribute [local go_sem] fz
theorem rK (l:List cS) (h:l_ l) {K:IX→St→Prop} (hK:K .ret ⟨[(2,.ms 900 9 0 l.length)],[(900,⟨83,9,l.map aW,false⟩)]⟩)
  (hm:∀s s',Wk s s'→K .ret s'→K .ret s):fD Tryz.prog oI.body ⟨fB 0 [.sl 9 (l.map aW)],[]⟩ K:=by
 obtain ⟨hl,hx⟩:=h
 simp only [go_sem,oI]
 refine an (J5 l) (fun i=>i≤l.length) (fun i=>l.length - i) 0 (cC _) ((Wk.nil _ 3 900 9 83 (by simp only [go_sem]) (.inl (by decide))).trans (Wk.of ?_ ?_)) ?_
 ·simp only [go_sem,St.mknil];try simp [go_sem]
 ·simp only [go_sem,St.mknil,bE];try simp [go_sem]
 intro i hi
 have hil:(l.take i).length=i:=by simp;omega
 have happ:=fun ys=>aA 900 83 9 i aW (l.take i) ys hil
 have a16:=fun ys=>aG 16 53 1 ys
 have a24:=fun ys=>aG 24 3 1 ys
 by_cases h1:(i:Int)<(l.length:Int)
 ·have hi':i<l.length:=by omega
  have e8:=wi (n:=(i:Int)+1) (by omega) (by omega)
  obtain ⟨x1,x2,x3⟩:=aO hx hi'
  simp only [go_sem,aI h1,aW,a16,a24]
  refine ⟨by omega,h1,by omega,h1,by omega,by omega,h1,by omega,_,Wk.frzs [16,24] _,?_⟩
  simp only [pl]
  simp only [go_sem,aB,ap,happ]
  refine ⟨by omega,aC (i+1) (show i+1≤l.length by omega) (show l.length - (i+1)<l.length - i by omega) (Wk.of ?_ ?_)⟩
  ·simp only [go_sem,e8];try simp
  ·simp only [go_sem,aU hi',List.map_append];try simp [aW]
 ·obtain rfl:i=l.length:=by omega
  simp only [go_sem,az h1]
  refine hm _ _ (Wk.of ?_ ?_) hK
  ·simp only [go_sem];try simp
  ·simp only [go_sem,bJ];try simp
theorem JZ (l:List cS) (h:l_ l):br Tryz.prog Ga [.sl 9 (l.map aW)] [] sb (fun r' σ'=>r' = .ms 900 9 0 l.length∧σ'=[(900,⟨83,9,l.map aW,false⟩)]):=by
 refine c_ (ic:=oI.body) aq FX rfl rfl ?_
 exact rK l h (Nw (Wk.refl _) [] (.ms 900 9 0 l.length) [(900,⟨83,9,l.map aW,false⟩)] (by rfl) ⟨rfl,trivial⟩ rfl ⟨rfl,rfl⟩) fun s s' hw ⟨h1,s1,h2,h3⟩=>⟨h1,s1,hw.trans h2,h3⟩
theorem bX (l:List cS) (h:l_ l):aj Tryz.prog Ga [.sl 9 (l.map aW)] (.sl 9 (l.map aW)):=by
 refine ab (ic:=oI.body) aq FX rfl rfl ?_
 refine rK l h (aE [900] ?_ rfl) fun s s' hw ⟨h1,s1,h2,h3⟩=>⟨h1,s1,hw.trans h2,h3⟩
 simp only [go_sem,oI,aB,ap]
end
end Go.Proofs.YteephfapgoncgaaGreatDoor