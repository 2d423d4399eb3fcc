import Derived.Test.YtjndcljjbpeljaaGreatDoorPQc
import Derived.Test.YtjndcljjbpeljaaGreatDoorPQi
import Derived.Shelf.Unicode.DecodeSlow
import Derived.Test.YtjndcljjbpeljaaGreatDoorCards
import Derived.Test.YtjndcljjbpeljaaGreatDoorTie
import Derived.Deep.DeepHandedRow
import Derived.Lib.LaidU8T
import Derived.Lib.ValidAsc
import Derived.Shelf.Unicode.ValidAny
set_option linter.all false
set_option maxRecDepth 100000
set_option maxHeartbeats 8000000
namespace Go.Proofs.YtjndcljjbpeljaaGreatDoor
open Go Go.Mw
def aae:List AV:=(List.range 256).map fun c=>.int .u8 (Lib.firstT c)
def aaf:List AV:=(List.range 32).map fun i=>.int .u8 (if i % 2=0 then Lib.accLo (i / 2) else Lib.accHi (i / 2))
theorem m6 {w:World} {b off:Nat} {v:Value} (h:w.cell? ⟨b,off,none⟩=some v):∃c t fr,w.heap[b]? = some (.cells c t fr)∧c[off]? = some v:=by
 unfold World.cell? at h
 simp only at h
 split at h
 ·rename_i c t fr hb
  exact ⟨c,t,fr,hb,h⟩
 ·cases h
theorem nX {w:World} {M:Nat→Prop} {b n:Nat} {f:Nat→Int} (hn:0<n) (h:∀j,j<n→w.cell? ⟨b,j,none⟩=some (.int .u8 (f j))) (hM:¬M b) :
  IRel M w (.pointer (some ⟨b,0,none⟩)) (.ip ((List.range n).map fun j=>.int .u8 (f j))):=by
 obtain ⟨c,t,fr,hb,_⟩:=m6 (h 0 hn)
 refine .ip b 0 c t fr _ (fun j=>.int .u8 (f j)) hb hM (fun j hj=>?_) (fun j x hx=>?_)
 ·simp at hj
  obtain ⟨c',t',fr',hb',hc⟩:=m6 (h j hj)
  rw [hb] at hb'
  cases hb'
  simpa using hc
 ·simp only [gw,c9,List.getElem?_range] at hx
  obtain ⟨q,hq,rfl⟩:=hx
  rw [List.getElem?_range] at hq
  cases hq
  exact .int _ _
  have:=(eV.1 hq).1
  simpa using this
noncomputable def aag:Cv where
 B b:=b=0∨b=1
 H w:=Lib.Utf8Tabs 0 1 w
 env:=[(1000000,.ip aae),(1000001,.ip aaf)]
 rel w M h hM p hp:=by
  simp only [eH,List.not_mem_nil,or_false] at hp
  rcases hp with rfl | rfl
  ·exact ⟨by decide,nX (by decide) (fun j hj=>h.1 j hj) (hM 0 (.inl rfl))⟩
  ·refine ⟨by decide,nX (by decide) (fun j hj=>?_) (hM 1 (.inr rfl))⟩
   obtain ⟨h1,h2⟩:=h.2 (j / 2) (by omega)
   by_cases h0:j % 2=0
   ·rw [aK h0]
    rw [show 2 * (j / 2)=j by omega] at h1
    exact h1
   ·rw [aD h0]
    rw [show 2 * (j / 2)+1=j by omega] at h2
    exact h2
 stay w w' h hk:=by
  have key:∀{b off:Nat} {v:Value},(b=0∨b=1)→w.cell? ⟨b,off,none⟩=some v→w'.cell? ⟨b,off,none⟩=some v:=fun {b off v} hb hc=>by
   rw [World.cell?_of_block (w:=w) (hk b hb)]
   exact hc
  exact ⟨fun c hc=>key (.inl rfl) (h.1 c hc),fun i hi=>⟨key (.inr rfl) (h.2 i hi).1,key (.inr rfl) (h.2 i hi).2⟩⟩
 low w h b hb:=by
  have key:∀{b off:Nat} {v:Value},w.cell? ⟨b,off,none⟩=some v→b<w.heap.size:=fun {b off v} hc=>by
   obtain ⟨c,t,fr,h1,_⟩:=m6 hc
   exact (qu.1 h1).1
  rcases hb with rfl | rfl
  ·exact key (h.1 0 (by decide))
  ·exact key (h.2 0 (by decide)).1
noncomputable instance:bU Tryz.prog:=⟨aag⟩
open Go.ChangeShapes Go.WideShapes Go.ChangeAt Go.RowKit
theorem own:ownKnob Tryz.prog.godebug=none:=by kernel_rfl
theorem Jh:laidOutB Tryz.prog=true:=by kernel_rfl
def ren:Go.Shelf.Ren:=⟨fun x=>x,fun t=>if t=119 then 222 else if t=138 then 224 else if t=139 then 225 else 5,fun g=>if g=3 then 0 else 1⟩
theorem u8t:U8Types Tryz.prog ren:=⟨by kernel_rfl,by kernel_rfl,by kernel_rfl,by kernel_rfl⟩
theorem u8x:U8Extra Tryz.prog ren:=⟨by kernel_rfl,by kernel_rfl,by kernel_rfl,by kernel_rfl,by kernel_rfl,by kernel_rfl,by kernel_rfl⟩
theorem Wu:(Rows.laid_unicode_utf8_acceptRanges:DataW Unit)=Lib.acceptData:=by kernel_rfl
theorem Yl:Rows.laid_unicode_utf8_first=Lib.firstData:=by kernel_rfl
theorem KC {W:World} (h:laidMetH Tryz.prog Rows.namesecPlainRow.laid W):Lib.Utf8Tabs 0 1 W:=by
 have h1:=Lib.laidMet.reads h (.head _)
 have h2:=Lib.laidMet.reads h (.tail _ (.head _))
 rw [Wu] at h1
 rw [Yl] at h2
 exact utf8Tabs_of_readsT u8t u8x h2 h1
def lay (cs:List Value):Obj→Obj
 | .cells _ t frozen=>.cells cs.toArray t frozen
 | o=>o
noncomputable def nj (os:Os):World :=
 { World.holding Tryz.prog os ⟨#[],#[],[]⟩ with heap:=((World.holding Tryz.prog os ⟨#[],#[],[]⟩).heap.modify 0 (lay ((List.range 256).map fun c=>Value.int .u8 (Lib.firstT c)))).modify 1 (lay ((List.range 32).map fun i=>Value.int .u8 (if i % 2=0 then Lib.accLo (i / 2) else Lib.accHi (i / 2)))) }
def dJ (b:UInt8):List AV:=[.int .u8 b.toNat]
theorem Rp (b:UInt8):dJ b=[.int .u8 b.toNat]:=rfl
attribute [go_sem] Rp
def ub (b:List UInt8):Nat→Nat→Int×Nat
 | 0,_=>(4,0)
 | f+1,i=>if i≥b.length then (3,0) else if 128≤(ah b i).toNat then ub b f (i+1) else (0,i)
def mst (bits:Nat):Nat:=(bits+6) / 7
def lM (b:List UInt8) (bits:Nat):Int:=(ub b (mst bits) 0).1
def dk (b:List UInt8) (bits:Nat):Nat:=(ub b (mst bits) 0).2
def wh (bits i:Nat):Nat:=if i+1=mst bits then bits - 7 * i else 7
def iW:List UInt8→Nat
 | []=>0
 | b :: r=>b.toNat % 128+128 * iW r
theorem u0 (b:List UInt8):∀f i,i≤b.length→((ub b f i).1=0∧(ub b f i).2<b.length∧i≤(ub b f i).2∧(ub b f i).2<i+f∧(ah b (ub b f i).2).toNat<128)∨((ub b f i).1=3∨(ub b f i).1=4)∧(ub b f i).2=0
 | 0,i,_=>.inr ⟨.inr rfl,rfl⟩
 | f+1,i,hi=>by
  simp only [ub]
  by_cases h1:i≥b.length
  ·rw [aK h1];exact .inr ⟨.inl rfl,rfl⟩
  ·rw [aD h1]
   by_cases h2:128≤(ah b i).toNat
   ·rw [aK h2]
    rcases u0 b f (i+1) (by omega) with ⟨g1,g2,g3,g4,g5⟩ | h
    ·exact .inl ⟨g1,g2,by omega,by omega,g5⟩
    ·exact .inr h
   ·rw [aD h2];exact .inl ⟨rfl,by simp;omega,by simp,by simp,by simp;omega⟩
theorem nq (b:List UInt8) (bits:Nat):(lM b bits=0∧dk b bits<b.length∧dk b bits<mst bits∧(ah b (dk b bits)).toNat<128)∨(lM b bits=3∨lM b bits=4)∧dk b bits=0:=by
 rcases u0 b (mst bits) 0 (cE _) with ⟨g1,g2,g3,g4,g5⟩ | h
 ·exact .inl ⟨g1,g2,by rw [Nat.zero_add] at g4;exact g4,g5⟩
 ·exact .inr h
theorem qt (n:Int):IntKind.u8.wrap n=n % 256:=by simp [IntKind.wrap,IntKind.bits,IntKind.signed]
theorem sn (n:Int):IntKind.u64.wrap n=n % 18446744073709551616:=by simp [IntKind.wrap,IntKind.bits,IntKind.signed]
theorem GA (n:Int):IntKind.i64.wrap n=(n+9223372036854775808) % 18446744073709551616 - 9223372036854775808:=by
 simp [IntKind.wrap,IntKind.bits,IntKind.signed]
 split<;>omega
theorem VX (n:Int):IntKind.i32.wrap n=(n+2147483648) % 4294967296 - 2147483648:=by
 simp [IntKind.wrap,IntKind.bits,IntKind.signed]
 split<;>omega
theorem sK (k:Nat) (a:Nat):BitVec.ofInt k (a:Int)=BitVec.ofNat k a:=BitVec.ofInt_natCast k a
theorem Fd {k a b:Nat} (ha:a<2 ^ k) (hb:b<2 ^ k):(BitVec.ofInt k (a:Int) ||| BitVec.ofInt k (b:Int)).toNat=a ||| b:=by
 rw [sK,sK,BitVec.toNat_or,BitVec.toNat_ofNat,BitVec.toNat_ofNat,Nat.mod_eq_of_lt ha,Nat.mod_eq_of_lt hb]
theorem HL {k a b:Nat} (ha:a<2 ^ k) (hb:b<2 ^ k):(BitVec.ofInt k (a:Int) &&& BitVec.ofInt k (b:Int)).toNat=a &&& b:=by
 rw [sK,sK,BitVec.toNat_and,BitVec.toNat_ofNat,BitVec.toNat_ofNat,Nat.mod_eq_of_lt ha,Nat.mod_eq_of_lt hb]
theorem Nr {x:Nat} (hx:x<256):Di .u8 (x:Int) 127=((x % 128:Nat):Int):=by
 have:(BitVec.ofInt 8 (x:Int) &&& BitVec.ofInt 8 ((127:Nat):Int)).toNat=x &&& 127:=HL hx (by decide)
 show IntKind.u8.wrap ((BitVec.ofInt 8 (x:Int) &&& BitVec.ofInt 8 ((127:Nat):Int)).toNat)=_
 rw [this,show (127:Nat)=2 ^ 7 - 1 from rfl,Nat.and_two_pow_sub_one_eq_mod,qt]
 omega
set_option maxRecDepth 100000 in
theorem Pw {x:Nat} (hx:x<256):x ||| 128=x % 128+128:=by
 have key:∀y:Fin 256,y.val ||| 128=y.val % 128+128:=by decide
 exact key ⟨x,hx⟩
theorem U5 {x:Nat} (hx:x<256):Nu .u8 (x:Int) 128=((x % 128+128:Nat):Int):=by
 have:(BitVec.ofInt 8 (x:Int) ||| BitVec.ofInt 8 ((128:Nat):Int)).toNat=x ||| 128:=Fd hx (by decide)
 show IntKind.u8.wrap ((BitVec.ofInt 8 (x:Int) ||| BitVec.ofInt 8 ((128:Nat):Int)).toNat)=_
 rw [this,Pw hx,qt]
 omega
theorem VD {y s:Nat} (hs:s<64):Dj .u64 (y:Int) (s:Int)=((y * 2 ^ s % 18446744073709551616:Nat):Int):=by
 unfold Dj
 rw [ib,show min s IntKind.u64.bits=s from Nat.min_eq_left (by show s≤64;omega),sn,Int.natCast_emod (_ * _),Int.natCast_mul,Int.natCast_pow]
 rfl
theorem Fe {n y s:Nat} (hs:s<64) (hn:n<2 ^ s):Nu .u64 (n:Int) (((y * 2 ^ s) % 18446744073709551616:Nat):Int)=(((n+y * 2 ^ s) % 18446744073709551616:Nat):Int):=by
 have hp:2 ^ s≤2 ^ 63:=Nat.pow_le_pow_right (by decide) (by omega)
 have e64:18446744073709551616=2 ^ s * 2 ^ (64 - s):=by rw [← Nat.pow_add,show s+(64 - s)=64 by omega]
 have hm:(y * 2 ^ s) % 18446744073709551616=2 ^ s * (y % 2 ^ (64 - s)):=by rw [e64,Nat.mul_comm y,Nat.mul_mod_mul_left]
 have hlt:y % 2 ^ (64 - s)<2 ^ (64 - s):=Nat.mod_lt _ (Nat.two_pow_pos _)
 have hsum:2 ^ s * (y % 2 ^ (64 - s))+n<18446744073709551616:=by
  rw [e64]
  have h1:2 ^ s * (y % 2 ^ (64 - s)+1)≤2 ^ s * 2 ^ (64 - s):=Nat.mul_le_mul_left _ hlt
  rw [Nat.mul_add,Nat.mul_one] at h1
  omega
 have h1:(BitVec.ofInt 64 (n:Int) ||| BitVec.ofInt 64 (((y * 2 ^ s) % 18446744073709551616:Nat):Int)).toNat=n ||| ((y * 2 ^ s) % 18446744073709551616) :=
  Fd (by omega) (Nat.mod_lt _ (by decide))
 show IntKind.u64.wrap ((BitVec.ofInt 64 (n:Int) ||| BitVec.ofInt 64 (((y * 2 ^ s) % 18446744073709551616:Nat):Int)).toNat)=_
 rw [h1,hm,Nat.or_comm,← Nat.two_pow_add_eq_or_of_lt hn,sn]
 have h2:(n+y * 2 ^ s) % 18446744073709551616=2 ^ s * (y % 2 ^ (64 - s))+n:=by
  rw [Nat.add_mod,hm,Nat.mod_eq_of_lt (show n<18446744073709551616 by omega),Nat.mod_eq_of_lt (by omega)]
  omega
 rw [h2]
 omega
theorem Gq (l m:List UInt8):iW (l++m)=iW l+128 ^ l.length * iW m:=by
 induction l with
 | nil=>simp [iW]
 | cons b l ih =>
  simp only [kM,iW,ih,aQ,Nat.pow_succ,Nat.mul_add]
  rw [Nat.mul_comm (128 ^ l.length) 128,Nat.mul_assoc]
  omega
theorem KM (l:List UInt8):iW l<128 ^ l.length:=by
 induction l with
 | nil=>simp [iW]
 | cons b l ih =>
  simp only [iW,aQ,Nat.pow_succ]
  have:=Nat.mod_lt b.toNat (show 128>0 by decide)
  omega
theorem sm {b:List UInt8} {i:Nat} (h:i<b.length):iW (b.take (i+1))=iW (b.take i)+(ah b i).toNat % 128 * 2 ^ (7 * i):=by
 rw [List.take_add_one,jg h,Option.toList_some,Gq]
 simp only [iW,Nat.mul_zero,Nat.add_zero,lh,Nat.min_eq_left (Nat.le_of_lt h)]
 rw [show (128:Nat)=2 ^ 7 from rfl,← Nat.pow_mul,Nat.mul_comm (2 ^ (7 * i))]
theorem jO {b:List UInt8} {i:Nat} (h:i≤b.length):iW (b.take i)<2 ^ (7 * i):=by
 have:=KM (b.take i)
 rw [lh,Nat.min_eq_left h,show (128:Nat)=2 ^ 7 from rfl,← Nat.pow_mul] at this
 exact this
theorem y_ (k:IntKind) {x s:Nat} (hs:s≤k.bits):re k (x:Int) (s:Int)=((x / 2 ^ s:Nat):Int):=by
 unfold re
 rw [ib,Nat.min_eq_left hs,Int.fdiv_eq_ediv_of_nonneg _ (by exact Int.le_of_lt (Int.pow_pos (by decide)))]
 rw [Int.natCast_ediv,Int.natCast_pow]
 rfl
def e_ (b:List UInt8) (bits:Nat):Nat×Nat×Int :=
 if lM b bits≠0 then (0,0,lM b bits) else
 if (ah b (dk b bits)).toNat / 2 ^ wh bits (dk b bits)≠0 then (0,0,4) else
 (iW (b.take (dk b bits+1)) % 18446744073709551616,dk b bits+1,0)
theorem NG {bits i:Nat} (h:1≤bits∧bits≤64) (hi:i<mst bits):1≤wh bits i∧wh bits i≤7:=by
 unfold wh mst at *
 split<;>omega
theorem OY {bits:Nat} (h:1≤bits∧bits≤64):mst bits≤10:=by unfold mst;omega
def aA (n:Nat):List UInt8:=if n<128 then [UInt8.ofNat n] else UInt8.ofNat (n % 128+128) :: aA (n / 128)
termination_by n
decreasing_by omega
def fq (n:Int):List UInt8:=if -64≤n∧n≤63 then [UInt8.ofNat (n % 128).toNat] else UInt8.ofNat ((n % 128).toNat+128) :: fq (n / 128)
termination_by n.natAbs
decreasing_by omega
theorem kS {n:Nat} (h:n<128):aA n=[UInt8.ofNat n]:=by rw [aA,aK h]
theorem oK {n:Nat} (h:¬n<128):aA n=UInt8.ofNat (n % 128+128) :: aA (n / 128):=by rw [aA,aD h]
theorem tD {n:Int} (h:-64≤n∧n≤63):fq n=[UInt8.ofNat (n % 128).toNat]:=by rw [fq,aK h]
theorem yN {n:Int} (h:¬(-64≤n∧n≤63)):fq n=UInt8.ofNat ((n % 128).toNat+128) :: fq (n / 128):=by rw [fq,aD h]
theorem ofNat_toNat {n:Nat} (h:n<256):(UInt8.ofNat n).toNat=n:=by simp [UInt8.toNat_ofNat',Nat.mod_eq_of_lt h]
theorem o9 {n:Nat} (h:n<256):dJ (UInt8.ofNat n)=[.int .u8 n]:=by rw [Rp,ofNat_toNat h]
theorem gV {k:Nat}:∀{n:Nat},n<128 ^ (k+1)→(aA n).length≤k+1:=by
 induction k with
 | zero=>intro n h;rw [kS (by simpa using h)];simp
 | succ k ih =>
  intro n h
  by_cases h1:n<128
  ·rw [kS h1];simp
  ·rw [oK h1]
   have:=ih (n:=n / 128) (by rw [Nat.pow_succ] at h;omega)
   simp;omega
theorem Fl (n:Nat):0<(aA n).length:=by
 by_cases h1:n<128
 ·rw [kS h1];simp
 ·rw [oK h1];simp
def gD (n:Int):List AV:=[.int .i64 n]
theorem jr (n:Int):gD n=[.int .i64 n]:=rfl
attribute [go_sem] jr
structure bz where
 op:Int
 a:Int
 b:Int
 n:Int
 k:Int
 v:Int
 x:Int
 ty:List Int
 lb:List Int
def jF (i:bz):AV:=.agg [.int .i64 i.op,.int .i64 i.a,.int .i64 i.b,.int .u64 i.n,.int .i64 i.k,.int .i64 i.v,.int .i64 i.x,.sl 1 (i.ty.map gD),.sl 1 (i.lb.map gD)]
theorem dE (i:bz):jF i = .agg [.int .i64 i.op,.int .i64 i.a,.int .i64 i.b,.int .u64 i.n,.int .i64 i.k,.int .i64 i.v,.int .i64 i.x,.sl 1 (i.ty.map gD),.sl 1 (i.lb.map gD)]:=rfl
def bG (i:bz):List AV:=[.int .i64 i.op,.int .i64 i.a,.int .i64 i.b,.int .u64 i.n,.int .i64 i.k,.int .i64 i.v,.int .i64 i.x,.sl 1 (i.ty.map gD),.sl 1 (i.lb.map gD)]
instance:Inhabited bz:=⟨⟨0,0,0,0,0,0,0,[],[]⟩⟩
structure Ft where
 ps:List Int
 rs:List Int
structure Lm where
 mn:Int
 mx:Int
 hs:Bool
structure Gl where
 v:Int
 mu:Bool
structure Im where
 m:List UInt8
 n:List UInt8
 k:Int
 f:Int
 te:Int
 tl:Lm
 me:Lm
 g:Gl
structure Cd where
 t:Int
 lo:List Int
 b:List bz
structure Tb where
 e:Int
 l:Lm
structure Gd where
 g:Gl
 i:List bz
structure Ex where
 n:List UInt8
 k:Int
 i:Int
structure El where
 mo:Int
 tb:Int
 o:List bz
 ty:Int
 it:List (List bz)
structure Da where
 mo:Int
 me:Int
 o:List bz
 b:List UInt8
structure Cu where
 af:Int
 n:List UInt8
 b:List UInt8
structure Md where
 ts:List Ft
 ims:List Im
 fs:List Cd
 tbs:List Tb
 ms:List Lm
 gs:List Gd
 exs:List Ex
 hs:Bool
 st:Int
 els:List El
 ds:List Da
 cs:List Cu
instance:Inhabited Ft:=⟨⟨[],[]⟩⟩
instance:Inhabited Lm:=⟨⟨0,0,false⟩⟩
instance:Inhabited Gl:=⟨⟨0,false⟩⟩
instance:Inhabited Im:=⟨⟨[],[],0,0,0,default,default,default⟩⟩
instance:Inhabited Cd:=⟨⟨0,[],[]⟩⟩
instance:Inhabited Tb:=⟨⟨0,default⟩⟩
instance:Inhabited Gd:=⟨⟨default,[]⟩⟩
instance:Inhabited Ex:=⟨⟨[],0,0⟩⟩
instance:Inhabited El:=⟨⟨0,0,[],0,[]⟩⟩
instance:Inhabited Da:=⟨⟨0,0,[],[]⟩⟩
instance:Inhabited Cu:=⟨⟨0,[],[]⟩⟩
instance:Inhabited Md:=⟨⟨[],[],[],[],[],[],[],false,0,[],[],[]⟩⟩
def t_ (x:Ft):List AV:=[.sl 1 (x.ps.map gD),.sl 1 (x.rs.map gD)]
def Jm (x:Lm):List AV:=[.int .i64 x.mn,.int .i64 x.mx,.bool x.hs]
def Tl (x:Gl):List AV:=[.int .i64 x.v,.bool x.mu]
def Ed (x:Im):List AV:=[.str x.m,.str x.n,.int .i64 x.k,.int .i64 x.f,.int .i64 x.te,.int .i64 x.tl.mn,.int .i64 x.tl.mx,.bool x.tl.hs,.int .i64 x.me.mn,.int .i64 x.me.mx,.bool x.me.hs,.int .i64 x.g.v,.bool x.g.mu]
def tX (x:Cd):List AV:=[.int .i64 x.t,.sl 1 (x.lo.map gD),.sl 9 (x.b.map bG)]
def Qg (x:Tb):List AV:=[.int .i64 x.e,.int .i64 x.l.mn,.int .i64 x.l.mx,.bool x.l.hs]
def ua (x:Gd):List AV:=[.int .i64 x.g.v,.bool x.g.mu,.sl 9 (x.i.map bG)]
def Bc (x:Ex):List AV:=[.str x.n,.int .i64 x.k,.int .i64 x.i]
def jE (l:List bz):List AV:=[.sl 9 (l.map bG)]
def l0 (x:El):List AV:=[.int .i64 x.mo,.int .i64 x.tb,.sl 9 (x.o.map bG),.int .i64 x.ty,.sl 1 (x.it.map jE)]
def vR (x:Da):List AV:=[.int .i64 x.mo,.int .i64 x.me,.sl 9 (x.o.map bG),.sl 1 (x.b.map dJ)]
def t8 (x:Cu):List AV:=[.int .i64 x.af,.str x.n,.sl 1 (x.b.map dJ)]
def gH (x:Md):List AV:=[.sl 2 (x.ts.map t_),.sl 13 (x.ims.map Ed),.sl 3 (x.fs.map tX),.sl 4 (x.tbs.map Qg),.sl 3 (x.ms.map Jm),.sl 3 (x.gs.map ua),.sl 3 (x.exs.map Bc),.bool x.hs,.int .i64 x.st,.sl 5 (x.els.map l0),.sl 4 (x.ds.map vR),.sl 3 (x.cs.map t8)]
theorem dp (x:Ft):t_ x=[.sl 1 (x.ps.map gD),.sl 1 (x.rs.map gD)]:=rfl
theorem c_ (x:Lm):Jm x=[.int .i64 x.mn,.int .i64 x.mx,.bool x.hs]:=rfl
theorem dz (x:Im):Ed x=[.str x.m,.str x.n,.int .i64 x.k,.int .i64 x.f,.int .i64 x.te,.int .i64 x.tl.mn,.int .i64 x.tl.mx,.bool x.tl.hs,.int .i64 x.me.mn,.int .i64 x.me.mx,.bool x.me.hs,.int .i64 x.g.v,.bool x.g.mu]:=rfl
theorem cH (x:Cd):tX x=[.int .i64 x.t,.sl 1 (x.lo.map gD),.sl 9 (x.b.map bG)]:=rfl
theorem dO (x:Tb):Qg x=[.int .i64 x.e,.int .i64 x.l.mn,.int .i64 x.l.mx,.bool x.l.hs]:=rfl
theorem mh (x:Gd):ua x=[.int .i64 x.g.v,.bool x.g.mu,.sl 9 (x.i.map bG)]:=rfl
theorem jV (x:Ex):Bc x=[.str x.n,.int .i64 x.k,.int .i64 x.i]:=rfl
theorem jc (l:List bz):jE l=[.sl 9 (l.map bG)]:=rfl
theorem a_ (x:El):l0 x=[.int .i64 x.mo,.int .i64 x.tb,.sl 9 (x.o.map bG),.int .i64 x.ty,.sl 1 (x.it.map jE)]:=rfl
theorem d_ (x:Da):vR x=[.int .i64 x.mo,.int .i64 x.me,.sl 9 (x.o.map bG),.sl 1 (x.b.map dJ)]:=rfl
theorem dU (x:Cu):t8 x=[.int .i64 x.af,.str x.n,.sl 1 (x.b.map dJ)]:=rfl
theorem aV (x:Md):gH x=[.sl 2 (x.ts.map t_),.sl 13 (x.ims.map Ed),.sl 3 (x.fs.map tX),.sl 4 (x.tbs.map Qg),.sl 3 (x.ms.map Jm),.sl 3 (x.gs.map ua),.sl 3 (x.exs.map Bc),.bool x.hs,.int .i64 x.st,.sl 5 (x.els.map l0),.sl 4 (x.ds.map vR),.sl 3 (x.cs.map t8)]:=rfl
def bJ (x:Md):AV:=.agg (gH x)
def bL {α:Type} (p:Nat→α→Prop) (B:Nat) (l:List α):Prop:=l.length≤B∧∀a∈l,p B a
def qy {α:Type} (τ:Ty) (f:α→List AV) (p:Nat→α→Prop):Prop:=∀r,τ.ok r→∃a,aU Nd r (f a)∧p maxLen a∧∀B,τ.bd B r→p B a
theorem LF {α:Type} {τ:Ty} {f:α→List AV} {p:Nat→α→Prop} (h:qy τ f p):∀{rows:List (List AV)},(∀r∈rows,τ.ok r)→∃l:List α,aU (aU Nd) rows (l.map f)∧(∀a∈l,p maxLen a)∧∀B,(∀r∈rows,τ.bd B r)→∀a∈l,p B a
 | [],_=>⟨[],trivial,(fun a h=>by cases h),(fun _ _ a h=>by cases h)⟩
 | r :: rows,hr=>by
  obtain ⟨a,h1,h2,h3⟩:=h r (hr r (by simp))
  obtain ⟨l,g1,g2,g3⟩:=LF h (rows:=rows) fun r hr'=>hr r (by simp [hr'])
  refine ⟨a :: l,⟨h1,g1⟩,fun b hb=>?_,fun B hB b hb=>?_⟩
  ·rcases eH.1 hb with rfl | hb
   ·exact h2
   ·exact g2 b hb
  ·rcases eH.1 hb with rfl | hb
   ·exact h3 B (hB r (by simp))
   ·exact g3 B (fun r hr'=>hB r (by simp [hr'])) b hb
theorem O3 {st:Nat} {rows rows':List (List AV)} (h:aU (aU Nd) rows rows'):Nd (.sl st rows) (.sl st rows'):=by
 refine .sl st _ _ h.length (fun i r r' h1 h2=>?_) (fun i j r r' x y h1 h2 h3 h4=>?_)
 ·obtain ⟨a,e1,e2⟩:=h.get h2
  obtain rfl:=Option.some.inj (h1.symm.trans e1)
  exact e2.length
 ·obtain ⟨a,e1,e2⟩:=h.get h2
  obtain rfl:=Option.some.inj (h1.symm.trans e1)
  obtain ⟨b,e3,e4⟩:=e2.get h4
  obtain rfl:=Option.some.inj (h3.symm.trans e3)
  exact e4
theorem oa {α:Type} {τ:Ty} {f:α→List AV} {p:Nat→α→Prop} (h:qy τ f p) {r:List AV} (hr:(Ty.sl τ).ok r):∃x l,r=[x]∧Nd x (.sl τ.n (l.map f))∧bL p maxLen l∧∀B,(Ty.sl τ).bd B [x]→bL p B l:=by
 rcases hr with rfl | ⟨rows,rfl,h2,h3⟩
 ·exact ⟨_,[],rfl,.nl _,⟨cE _,fun a h=>by cases h⟩,fun B _=>⟨cE _,fun a h=>by cases h⟩⟩
 ·obtain ⟨l,g1,g2,g3⟩:=LF h h3
  have hl:=g1.length
  rw [cY] at hl
  refine ⟨_,l,rfl,O3 g1,⟨by omega,g2⟩,fun B hB=>?_⟩
  obtain ⟨q1,q2⟩:=hB _ _ rfl
  exact ⟨by omega,g3 B q2⟩
theorem Qn {n:Int} (h:(Lit.int .u8 n).wf=true):0≤n∧n≤255:=by simpa [Lit.wf,IntKind.min,IntKind.max,IntKind.signed,IntKind.bits] using h
theorem ze {n:Int} (h:(Lit.int .u64 n).wf=true):0≤n∧n<18446744073709551616:=by
 have:0≤n∧n≤18446744073709551615:=by simpa [Lit.wf,IntKind.min,IntKind.max,IntKind.signed,IntKind.bits] using h
 omega
def Jy {α:Type} (_:Nat) (_:α):Prop:=True
theorem uF:qy (.int .i64) gD Jy:=fun r h=>by
 obtain ⟨n,rfl,_⟩:=h
 exact ⟨n,⟨.rfl _,trivial⟩,trivial,fun _ _=>trivial⟩
theorem K4:qy (.int .u8) dJ Jy:=fun r h=>by
 obtain ⟨n,rfl,hw⟩:=h
 have hn:=Qn hw
 refine ⟨UInt8.ofNat n.toNat,?_,trivial,fun _ _=>trivial⟩
 rw [o9 (by omega),show ((n.toNat:Nat):Int)=n by omega]
 exact ⟨.rfl _,trivial⟩
def qr:Ty:=.cons (.int .i64) (.cons (.int .i64) (.cons (.int .i64) (.cons (.int .u64) (.cons (.cons (.int .i64) (.cons (.int .i64) (.cons (.int .i64) .nil))) (.cons (.sl (.int .i64)) (.cons (.sl (.int .i64)) .nil))))))
def sJ (B:Nat) (x:bz):Prop:=(0≤x.n∧x.n<18446744073709551616)∧bL Jy B x.ty∧bL Jy B x.lb
theorem pf:qy qr bG sJ:=fun r h=>by
 obtain ⟨_,_,rfl,⟨op,rfl,w_op⟩,_,_,rfl,⟨a,rfl,w_a⟩,_,_,rfl,⟨b,rfl,w_b⟩,_,_,rfl,⟨n,rfl,w_n⟩,_,_,rfl,⟨_,_,rfl,⟨k,rfl,w_k⟩,_,_,rfl,⟨v,rfl,w_v⟩,_,_,rfl,⟨z,rfl,w_z⟩,rfl⟩,_,_,rfl,h_ty,_,_,rfl,h_lb,rfl⟩:=h
 obtain ⟨x_ty,l_ty,rfl,d_ty,m_ty,b_ty⟩:=oa uF h_ty
 obtain ⟨x_lb,l_lb,rfl,d_lb,m_lb,b_lb⟩:=oa uF h_lb
 exact ⟨⟨op,a,b,n,k,v,z,l_ty,l_lb⟩,⟨.rfl _,.rfl _,.rfl _,.rfl _,.rfl _,.rfl _,.rfl _,d_ty,d_lb,trivial⟩,⟨ze w_n,m_ty,m_lb⟩,fun B hB=>⟨ze w_n,b_ty B hB.2.2.2.2.2.1,b_lb B hB.2.2.2.2.2.2.1⟩⟩
def LS:Ty:=.cons (.sl (.int .i64)) (.cons (.sl (.int .i64)) .nil)
def Rf (B:Nat) (x:Ft):Prop:=bL Jy B x.ps∧bL Jy B x.rs
theorem NW:qy LS t_ Rf:=fun r h=>by
 obtain ⟨_,_,rfl,h_ps,_,_,rfl,h_rs,rfl⟩:=h
 obtain ⟨x_ps,l_ps,rfl,d_ps,m_ps,b_ps⟩:=oa uF h_ps
 obtain ⟨x_rs,l_rs,rfl,d_rs,m_rs,b_rs⟩:=oa uF h_rs
 exact ⟨⟨l_ps,l_rs⟩,⟨d_ps,d_rs,trivial⟩,⟨m_ps,m_rs⟩,fun B hB=>⟨b_ps B hB.1,b_rs B hB.2.1⟩⟩
def LV:Ty:=.cons (.int .i64) (.cons (.int .i64) (.cons .bool .nil))
def Ri (B:Nat) (x:Lm):Prop:=True
theorem NZ:qy LV Jm Ri:=fun r h=>by
 obtain ⟨_,_,rfl,⟨mn,rfl,w_mn⟩,_,_,rfl,⟨mx,rfl,w_mx⟩,_,_,rfl,⟨hs,rfl⟩,rfl⟩:=h
 exact ⟨⟨mn,mx,hs⟩,⟨.rfl _,.rfl _,.rfl _,trivial⟩,trivial,fun B hB=>trivial⟩
def LW:Ty:=.cons (.int .i64) (.cons (.cons (.int .i64) (.cons (.int .i64) (.cons .bool .nil))) .nil)
def Rj (B:Nat) (x:Tb):Prop:=True
theorem N1:qy LW Qg Rj:=fun r h=>by
 obtain ⟨_,_,rfl,⟨e,rfl,w_e⟩,_,_,rfl,⟨_,_,rfl,⟨mn,rfl,w_mn⟩,_,_,rfl,⟨mx,rfl,w_mx⟩,_,_,rfl,⟨hs,rfl⟩,rfl⟩,rfl⟩:=h
 exact ⟨⟨e,⟨mn,mx,hs⟩⟩,⟨.rfl _,.rfl _,.rfl _,.rfl _,trivial⟩,trivial,fun B hB=>trivial⟩
def LU:Ty:=.cons .str (.cons .str (.cons (.int .i64) (.cons (.int .i64) (.cons (.cons (.int .i64) (.cons (.cons (.int .i64) (.cons (.int .i64) (.cons .bool .nil))) .nil)) (.cons (.cons (.int .i64) (.cons (.int .i64) (.cons .bool .nil))) (.cons (.cons (.int .i64) (.cons .bool .nil)) .nil))))))
def Rh (B:Nat) (x:Im):Prop:=x.m.length≤B∧x.n.length≤B
theorem NY:qy LU Ed Rh:=fun r h=>by
 obtain ⟨_,_,rfl,⟨m,rfl,w_m⟩,_,_,rfl,⟨n,rfl,w_n⟩,_,_,rfl,⟨k,rfl,w_k⟩,_,_,rfl,⟨f,rfl,w_f⟩,_,_,rfl,⟨_,_,rfl,⟨te,rfl,w_te⟩,_,_,rfl,⟨_,_,rfl,⟨tmn,rfl,w_tmn⟩,_,_,rfl,⟨tmx,rfl,w_tmx⟩,_,_,rfl,⟨ths,rfl⟩,rfl⟩,rfl⟩,_,_,rfl,⟨_,_,rfl,⟨qmn,rfl,w_qmn⟩,_,_,rfl,⟨qmx,rfl,w_qmx⟩,_,_,rfl,⟨qhs,rfl⟩,rfl⟩,_,_,rfl,⟨_,_,rfl,⟨gv,rfl,w_gv⟩,_,_,rfl,⟨gmu,rfl⟩,rfl⟩,rfl⟩:=h
 exact ⟨⟨m,n,k,f,te,⟨tmn,tmx,ths⟩,⟨qmn,qmx,qhs⟩,⟨gv,gmu⟩⟩,⟨.rfl _,.rfl _,.rfl _,.rfl _,.rfl _,.rfl _,.rfl _,.rfl _,.rfl _,.rfl _,.rfl _,.rfl _,.rfl _,trivial⟩,⟨w_m,w_n⟩,fun B hB=>⟨hB.1 _ rfl,hB.2.1 _ rfl⟩⟩
def LM:Ty:=.cons (.int .i64) (.cons (.sl (.int .i64)) (.cons (.sl qr) .nil))
def Q_ (B:Nat) (x:Cd):Prop:=bL Jy B x.lo∧bL sJ B x.b
theorem NR:qy LM tX Q_:=fun r h=>by
 obtain ⟨_,_,rfl,⟨t,rfl,w_t⟩,_,_,rfl,h_lo,_,_,rfl,h_b,rfl⟩:=h
 obtain ⟨x_lo,l_lo,rfl,d_lo,m_lo,b_lo⟩:=oa uF h_lo
 obtain ⟨x_b,l_b,rfl,d_b,m_b,b_b⟩:=oa pf h_b
 exact ⟨⟨t,l_lo,l_b⟩,⟨.rfl _,d_lo,d_b,trivial⟩,⟨m_lo,m_b⟩,fun B hB=>⟨b_lo B hB.2.1,b_b B hB.2.2.1⟩⟩
def LT:Ty:=.cons (.cons (.int .i64) (.cons .bool .nil)) (.cons (.sl qr) .nil)
def Rg (B:Nat) (x:Gd):Prop:=bL sJ B x.i
theorem NX:qy LT ua Rg:=fun r h=>by
 obtain ⟨_,_,rfl,⟨_,_,rfl,⟨v,rfl,w_v⟩,_,_,rfl,⟨mu,rfl⟩,rfl⟩,_,_,rfl,h_i,rfl⟩:=h
 obtain ⟨x_i,l_i,rfl,d_i,m_i,b_i⟩:=oa pf h_i
 exact ⟨⟨⟨v,mu⟩,l_i⟩,⟨.rfl _,.rfl _,d_i,trivial⟩,m_i,fun B hB=>b_i B hB.2.1⟩
def LR:Ty:=.cons .str (.cons (.int .i64) (.cons (.int .i64) .nil))
def Re (B:Nat) (x:Ex):Prop:=x.n.length≤B
theorem NV:qy LR Bc Re:=fun r h=>by
 obtain ⟨_,_,rfl,⟨n,rfl,w_n⟩,_,_,rfl,⟨k,rfl,w_k⟩,_,_,rfl,⟨i,rfl,w_i⟩,rfl⟩:=h
 exact ⟨⟨n,k,i⟩,⟨.rfl _,.rfl _,.rfl _,trivial⟩,w_n,fun B hB=>hB.1 _ rfl⟩
theorem Ig:qy (.sl qr) jE (bL sJ):=fun r h=>by
 obtain ⟨x,l,rfl,d,m,b⟩:=oa pf h
 exact ⟨l,⟨d,trivial⟩,m,fun B hB=>b B hB⟩
def LP:Ty:=.cons (.int .i64) (.cons (.int .i64) (.cons (.sl qr) (.cons (.int .i64) (.cons (.sl (.sl qr)) .nil))))
def Rc (B:Nat) (x:El):Prop:=bL sJ B x.o∧bL (bL sJ) B x.it
theorem NU:qy LP l0 Rc:=fun r h=>by
 obtain ⟨_,_,rfl,⟨mo,rfl,w_mo⟩,_,_,rfl,⟨tb,rfl,w_tb⟩,_,_,rfl,h_o,_,_,rfl,⟨ty,rfl,w_ty⟩,_,_,rfl,h_it,rfl⟩:=h
 obtain ⟨x_o,l_o,rfl,d_o,m_o,b_o⟩:=oa pf h_o
 obtain ⟨x_it,l_it,rfl,d_it,m_it,b_it⟩:=oa Ig h_it
 exact ⟨⟨mo,tb,l_o,ty,l_it⟩,⟨.rfl _,.rfl _,d_o,.rfl _,d_it,trivial⟩,⟨m_o,m_it⟩,fun B hB=>⟨b_o B hB.2.2.1,b_it B hB.2.2.2.2.1⟩⟩
def LO:Ty:=.cons (.int .i64) (.cons (.int .i64) (.cons (.sl qr) (.cons (.sl (.int .u8)) .nil)))
def Rb (B:Nat) (x:Da):Prop:=bL sJ B x.o∧bL Jy B x.b
theorem NT:qy LO vR Rb:=fun r h=>by
 obtain ⟨_,_,rfl,⟨mo,rfl,w_mo⟩,_,_,rfl,⟨me,rfl,w_me⟩,_,_,rfl,h_o,_,_,rfl,h_b,rfl⟩:=h
 obtain ⟨x_o,l_o,rfl,d_o,m_o,b_o⟩:=oa pf h_o
 obtain ⟨x_b,l_b,rfl,d_b,m_b,b_b⟩:=oa K4 h_b
 exact ⟨⟨mo,me,l_o,l_b⟩,⟨.rfl _,.rfl _,d_o,d_b,trivial⟩,⟨m_o,m_b⟩,fun B hB=>⟨b_o B hB.2.2.1,b_b B hB.2.2.2.1⟩⟩
def LN:Ty:=.cons (.int .i64) (.cons .str (.cons (.sl (.int .u8)) .nil))
def Ra (B:Nat) (x:Cu):Prop:=x.n.length≤B∧bL Jy B x.b
theorem NS:qy LN t8 Ra:=fun r h=>by
 obtain ⟨_,_,rfl,⟨af,rfl,w_af⟩,_,_,rfl,⟨n,rfl,w_n⟩,_,_,rfl,h_b,rfl⟩:=h
 obtain ⟨x_b,l_b,rfl,d_b,m_b,b_b⟩:=oa K4 h_b
 exact ⟨⟨af,n,l_b⟩,⟨.rfl _,.rfl _,d_b,trivial⟩,⟨w_n,m_b⟩,fun B hB=>⟨hB.2.1 _ rfl,b_b B hB.2.2.1⟩⟩
def vN:Ty:=.cons (.sl LS) (.cons (.sl LU) (.cons (.sl LM) (.cons (.sl LW) (.cons (.sl LV) (.cons (.sl LT) (.cons (.sl LR) (.cons .bool (.cons (.int .i64) (.cons (.sl LP) (.cons (.sl LO) (.cons (.sl LN) .nil)))))))))))
def Dh (B:Nat) (x:Md):Prop:=bL Rf B x.ts∧bL Rh B x.ims∧bL Q_ B x.fs∧bL Rj B x.tbs∧bL Ri B x.ms∧bL Rg B x.gs∧bL Re B x.exs∧bL Rc B x.els∧bL Rb B x.ds∧bL Ra B x.cs
theorem N0:qy vN gH Dh:=fun r h=>by
 obtain ⟨_,_,rfl,h_ts,_,_,rfl,h_ims,_,_,rfl,h_fs,_,_,rfl,h_tbs,_,_,rfl,h_ms,_,_,rfl,h_gs,_,_,rfl,h_exs,_,_,rfl,⟨hs,rfl⟩,_,_,rfl,⟨st,rfl,w_st⟩,_,_,rfl,h_els,_,_,rfl,h_ds,_,_,rfl,h_cs,rfl⟩:=h
 obtain ⟨x_ts,l_ts,rfl,d_ts,m_ts,b_ts⟩:=oa NW h_ts
 obtain ⟨x_ims,l_ims,rfl,d_ims,m_ims,b_ims⟩:=oa NY h_ims
 obtain ⟨x_fs,l_fs,rfl,d_fs,m_fs,b_fs⟩:=oa NR h_fs
 obtain ⟨x_tbs,l_tbs,rfl,d_tbs,m_tbs,b_tbs⟩:=oa N1 h_tbs
 obtain ⟨x_ms,l_ms,rfl,d_ms,m_ms,b_ms⟩:=oa NZ h_ms
 obtain ⟨x_gs,l_gs,rfl,d_gs,m_gs,b_gs⟩:=oa NX h_gs
 obtain ⟨x_exs,l_exs,rfl,d_exs,m_exs,b_exs⟩:=oa NV h_exs
 obtain ⟨x_els,l_els,rfl,d_els,m_els,b_els⟩:=oa NU h_els
 obtain ⟨x_ds,l_ds,rfl,d_ds,m_ds,b_ds⟩:=oa NT h_ds
 obtain ⟨x_cs,l_cs,rfl,d_cs,m_cs,b_cs⟩:=oa NS h_cs
 exact ⟨⟨l_ts,l_ims,l_fs,l_tbs,l_ms,l_gs,l_exs,hs,st,l_els,l_ds,l_cs⟩,⟨d_ts,d_ims,d_fs,d_tbs,d_ms,d_gs,d_exs,.rfl _,.rfl _,d_els,d_ds,d_cs,trivial⟩,⟨m_ts,m_ims,m_fs,m_tbs,m_ms,m_gs,m_exs,m_els,m_ds,m_cs⟩,fun B hB=>⟨b_ts B hB.1,b_ims B hB.2.1,b_fs B hB.2.2.1,b_tbs B hB.2.2.2.1,b_ms B hB.2.2.2.2.1,b_gs B hB.2.2.2.2.2.1,b_exs B hB.2.2.2.2.2.2.1,b_els B hB.2.2.2.2.2.2.2.2.2.1,b_ds B hB.2.2.2.2.2.2.2.2.2.2.1,b_cs B hB.2.2.2.2.2.2.2.2.2.2.2.1⟩⟩
theorem Vp {α:Type} {τ:Ty} {f:α→List AV} {p:Nat→α→Prop} (h:qy τ f p) (hr:τ.isRec=true) {x:AV} (hx:τ.okV x):∃a,Wc x (.agg (f a))∧p maxLen a∧∀B,τ.bdV B x→p B a:=by
 unfold Ty.okV at hx
 rw [hr] at hx
 obtain ⟨xs,rfl,hx⟩:=hx
 obtain ⟨a,h1,h2,h3⟩:=h xs hx
 refine ⟨a,.inr ⟨_,_,rfl,rfl,h1⟩,h2,fun B hB=>h3 B ?_⟩
 unfold Ty.bdV at hB
 rw [hr] at hB
 exact hB _ rfl
theorem ZT {τ τ1:Ty} {xs:List AV} (h:aU Ty.okV [τ,τ1] xs):∃x y,xs=[x,y]∧τ.okV x∧τ1.okV y:=by
 match xs,h with
 | [x,y],h=>exact ⟨x,y,rfl,h.1,h.2.1⟩
theorem VP:kJ Tryz.prog 9 33=some vN:=by kernel_rfl
theorem P1 (n:Nat) (hn:n<18446744073709551616):ae Tryz.prog UN [.nl,.int .u64 n] (.sl 1 ((aA n).map dJ)):=by
 refine ab (ic:=Cf.body) aq SN rfl rfl ?_
 simp only [Cf,go_sem]
 have a0:l8 6 5 1 0 0 [] (some ⟨5,1,[],false⟩)=some (.ms 6 1 0 0,.reb 6 ⟨5,1,[],false⟩):=rfl
 simp only [go_sem,a0]
 refine an (fun q:List UInt8×Nat=>⟨[(5,.ms 6 1 0 q.1.length),(1,.int .u64 q.2)],[(6,⟨5,1,q.1.map dJ,false⟩)]⟩) (fun q=>q.1++aA q.2=aA n∧q.2≤n) (fun q=>q.2) ([],n) ⟨rfl,bj _⟩ (Wk.of ?_ ?_) ?_
 ·simp [go_sem]
 ·simp [go_sem]
 rintro ⟨acc,m⟩ ⟨hq,hm⟩
 replace hq:acc++aA m=aA n:=hq
 replace hm:m≤n:=hm
 have hlen:acc.length+(aA m).length≤10:=by
  have:=gV (k:=9) (n:=n) (by omega)
  rw [← hq] at this
  simpa using this
 have w1:IntKind.u8.wrap (m:Int)=((m % 256:Nat):Int):=by rw [qt];omega
 have happ:=fun ys=>bu 6 5 1 acc.length dJ acc ys rfl
 by_cases h1:m<128
 ·have d1:decide ((m:Int)≥128)=false:=by simp;omega
  simp only [go_sem,d1,w1,happ]
  refine ⟨by omega,au [6] ?_ rfl⟩
  have e1:m % 256=m:=by omega
  simp only [go_sem,w1,← hq,kS h1,List.map_append,o9 (show m<256 by omega),e1]
  simp
  exact dS (by simp)
 ·have d1:decide ((m:Int)≥128)=true:=by simp;omega
  have w2:=U5 (x:=m % 256) (by omega)
  have e1:m % 256 % 128=m % 128:=by omega
  have w3:re .u64 (m:Int) 7=((m / 128:Nat):Int):=y_ .u64 (x:=m) (s:=7) (by decide)
  simp only [go_sem,d1,w1,w2,e1,happ]
  refine ⟨by omega,by decide,aC (acc++[UInt8.ofNat (m % 128+128)],m / 128) ⟨by rw [dB,← hq,oK h1];rfl,by omega⟩ (show m / 128<m by omega) (Wk.of ?_ ?_)⟩
  ·simp only [go_sem,w3,aJ,jP]
  ·simp only [go_sem,List.map_append,o9 (show m % 128+128<256 by omega)]
theorem IG (n:Int):re .i64 n 7=n / 128:=by
 unfold re
 rw [show min (7:Int).toNat IntKind.i64.bits=7 from rfl,Int.fdiv_eq_ediv_of_nonneg _ (by decide)]
 rfl
theorem HK (n:Int):Di .i64 n 127=n % 128:=by
 have key:(BitVec.ofInt 64 n &&& BitVec.ofInt 64 127).toNat=(n % 128).toNat:=by
  have h1:(BitVec.ofInt 64 n).toNat=(n % 18446744073709551616).toNat:=by simp [BitVec.toNat_ofInt]
  have h2:(BitVec.ofInt 64 127).toNat=2 ^ 7 - 1:=by decide
  rw [BitVec.toNat_and,h1,h2,Nat.and_two_pow_sub_one_eq_mod]
  omega
 show IntKind.i64.wrap ((BitVec.ofInt 64 n &&& BitVec.ofInt 64 127).toNat)=_
 rw [key,GA]
 omega
theorem p7 {k:Nat}:∀{n:Int},-(64 * 128 ^ k:Int)≤n→n<64 * 128 ^ k→(fq n).length≤k+1:=by
 induction k with
 | zero=>intro n h1 h2;rw [tD (by omega)];simp
 | succ k ih =>
  intro n h1 h2
  by_cases h:-64≤n∧n≤63
  ·rw [tD h];simp
  ·rw [yN h]
   rw [Int.pow_succ] at h1 h2
   generalize (128:Int) ^ k=p at *
   have:=ih (n:=n / 128) (by omega) (by omega)
   simp;omega
def uv (l:List UInt8):Bool:=Lib.validD l
theorem Gk:uv []=true:=rfl
open Go.Shelf
def PV:Go.Shelf.Ren:=⟨fun | 196=>113 | 259=>154 | n=>n,fun | 9=>9 | 4=>4 | 3=>3 | 5=>5 | 12=>12 | 119=>222 | 0=>0 | 46=>226 | 139=>225 | 138=>224 | 53=>182 | n=>n,fun | 3=>0 | 4=>1 | n=>n⟩
theorem Ji:Go.Proofs.Lays.n196 Tryz.prog PV:={
 mixed:=by kernel_rfl
 f196:=Tryz.func113.trans (congrArg some (by kernel_rfl))
 f259:=Tryz.func154.trans (congrArg some (by kernel_rfl))
 t0:=Tryz.underlying0
 a0:=Tryz.isAgg0
 z0:=Tryz.sizeOf0
 v0:=Tryz.zeroValue0
 t3:=Tryz.underlying3
 a3:=Tryz.isAgg3
 z3:=Tryz.sizeOf3
 v3:=Tryz.zeroValue3
 t4:=Tryz.underlying4
 a4:=Tryz.isAgg4
 z4:=Tryz.sizeOf4
 v4:=Tryz.zeroValue4
 t5:=Tryz.underlying5
 a5:=Tryz.isAgg5
 z5:=Tryz.sizeOf5
 v5:=Tryz.zeroValue5
 t9:=Tryz.underlying9
 a9:=Tryz.isAgg9
 z9:=Tryz.sizeOf9
 v9:=Tryz.zeroValue9
 t12:=Tryz.underlying12
 a12:=Tryz.isAgg12
 z12:=Tryz.sizeOf12
 v12:=Tryz.zeroValue12
 t46:=Tryz.underlying226
 a46:=Tryz.isAgg226
 z46:=Tryz.sizeOf226
 v46:=Tryz.zeroValue226
 t53:=Tryz.underlying182
 a53:=Tryz.isAgg182
 z53:=Tryz.sizeOf182
 v53:=Tryz.zeroValue182
 t119:=Tryz.underlying222
 a119:=Tryz.isAgg222
 z119:=Tryz.sizeOf222
 t138:=Tryz.underlying224
 a138:=Tryz.isAgg224
 z138:=Tryz.sizeOf224
 v138:=Tryz.zeroValue224
 t139:=Tryz.underlying225
 a139:=Tryz.isAgg225
 z139:=Tryz.sizeOf225
 v139:=Tryz.zeroValue225
 g3:=by kernel_rfl
 g4:=by kernel_rfl }
theorem FT (s:List UInt8) (hs:s.length<1000000000):ae Tryz.prog lO [.str s] (.bool (uv s)):=by
 refine ae.of (fun w bl M cargs hH hM ha=>?_) rfl
 match cargs,ha with
 | [a],⟨h1,_⟩ =>
  obtain rfl:=h1.str
  refine (Any.utf8_ValidString Ji ⟨s.toArray⟩ w (by simp [ByteArray.size];omega) hH).mono ?_
  rintro e w' ⟨rfl,hb⟩
  exact ⟨_,rfl,⟨hb.size,fun b h _=>hb.block b h,fun b c t fr h=>⟨c,fr,(hb.block b (cj h)).trans h,rfl⟩,hb.os,hb.output⟩,IRel.bool _⟩
def FW:Option (List UInt8)→AV
 | none=>.nl
 | some l=>.sl 1 (l.map dJ)
theorem ac (o:Option (List UInt8)):aP (FW o)=[]:=by cases o<;>rfl
theorem FX:FW none = .nl:=rfl
theorem dN (l:List UInt8):FW (some l) = .sl 1 (l.map dJ):=rfl
attribute [go_sem] FX dN
def b_ (ok:Bool) (b:List UInt8) (a:Nat) (e n:Int):Option (List UInt8)×Nat×Int :=
 if ok=true then (if n<0 then (none,a,1) else if n>(b.length:Int) - a then (none,a,3) else (some ((b.drop a).take n.toNat),a+n.toNat,e)) else (none,a,e)
def lq (ok:Bool) (b:List UInt8) (a:Nat) (e:Int):UInt8×Nat×Int :=
 if ok=true then (if (b.length:Int) - a<1 then (0,a,3) else (ah b a,a+1,e)) else (0,a,e)
def rU (ok:Bool) (bits:Nat) (b:List UInt8) (a:Nat) (e:Int):Nat×Nat×Int :=
 if ok=true then (if (e_ (b.drop a) bits).2.2≠0 then (0,a,(e_ (b.drop a) bits).2.2) else ((e_ (b.drop a) bits).1,a+(e_ (b.drop a) bits).2.1,e)) else (0,a,e)
def bH (ok:Bool) (b:List UInt8) (a:Nat) (e most:Int):Nat×Nat×Int :=
 if ok=true then (if (rU true 32 b a e).2.2=0∧((rU true 32 b a e).1:Int)>most then (0,a,6) else rU true 32 b a e) else (0,a,e)
theorem H5 (b:List UInt8) (bits:Nat) (h:1≤bits∧bits≤64):(e_ b bits).1<2 ^ bits:=by
 have hp:=Nat.two_pow_pos bits
 unfold e_
 split
 ·exact hp
 split
 ·exact hp
 rename_i h1 h2
 rcases nq b bits with ⟨g1,g2,g3,g4⟩ | ⟨g1,g2⟩
 ·refine Nat.lt_of_le_of_lt (Nat.mod_le _ _) ?_
  by_cases hq:dk b bits+1=mst bits
  ·rw [sm g2]
   have hv:=jO (b:=b) (i:=dk b bits) (Nat.le_of_lt g2)
   have h3:(ah b (dk b bits)).toNat / 2 ^ (bits - 7 * dk b bits)=0:=by
    have:=Classical.not_not.1 h2
    rw [wh,aK hq] at this
    exact this
   have h4:(ah b (dk b bits)).toNat<2 ^ (bits - 7 * dk b bits):=by
    rcases Nat.div_eq_zero_iff.1 h3 with h | h
    ·exact absurd h (Nat.pos_iff_ne_zero.1 (Nat.two_pow_pos _))
    ·exact h
   have h5:7 * dk b bits≤bits:=by unfold mst at hq;omega
   have e:2 ^ bits=2 ^ (bits - 7 * dk b bits) * 2 ^ (7 * dk b bits):=by rw [← Nat.pow_add,Nat.sub_add_cancel h5]
   rw [e]
   have h6:(ah b (dk b bits)).toNat % 128+1≤2 ^ (bits - 7 * dk b bits):=Nat.lt_of_le_of_lt (Nat.mod_le _ _) h4
   have h7:=jt (2 ^ (7 * dk b bits)) h6
   rw [fL,Nat.one_mul] at h7
   omega
  ·have hv:=jO (b:=b) (i:=dk b bits+1) (by omega)
   have h5:7 * (dk b bits+1)≤bits:=by unfold mst at *;omega
   exact Nat.lt_of_lt_of_le hv (Nat.pow_le_pow_right (by decide) h5)
 ·rcases g1 with g1 | g1<;>rw [g1] at h1<;>exact absurd (by decide) h1
theorem Dz (b:List UInt8) (bits:Nat):(e_ b bits).2.1≤b.length:=by
 unfold e_
 split
 ·exact cE _
 split
 ·exact cE _
 rename_i h1 h2
 rcases nq b bits with ⟨g1,g2,g3,g4⟩ | ⟨g1,g2⟩
 ·exact g2
 ·rcases g1 with g1 | g1<;>rw [g1] at h1<;>exact absurd (by decide) h1
theorem yP {ok:Bool} {b:List UInt8} {a:Nat} {e n:Int} (h:a≤b.length):(b_ ok b a e n).2.1≤b.length:=by
 unfold b_
 repeat' split
 all_goals first | exact h | (simp only;omega)
theorem Fn {ok:Bool} {bits:Nat} {b:List UInt8} {a:Nat} {e:Int} (h:a≤b.length):(rU ok bits b a e).2.1≤b.length:=by
 have:=Dz (b.drop a) bits
 simp only [lW] at this
 unfold rU
 repeat' split
 all_goals first | exact h | (simp only;omega)
theorem vt (ok:Bool) (b:List UInt8) (a:Nat) (e:Int):(rU ok 32 b a e).1<4294967296:=by
 have:=H5 (b.drop a) 32 (by decide)
 unfold rU
 repeat' split
 all_goals first | exact this | exact (by decide:(0:Nat)<4294967296)
end Go.Proofs.YtjndcljjbpeljaaGreatDoor