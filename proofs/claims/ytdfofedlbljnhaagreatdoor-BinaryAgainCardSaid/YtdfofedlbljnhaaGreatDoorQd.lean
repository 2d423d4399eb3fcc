import Derived.Test.YtdfofedlbljnhaaGreatDoorQc
import Derived.Test.YtdfofedlbljnhaaGreatDoorQi0
import Derived.Test.YtdfofedlbljnhaaGreatDoorQi1
import Derived.Test.YtdfofedlbljnhaaGreatDoorQi2
import Derived.Test.YtdfofedlbljnhaaGreatDoorQi3
import Derived.Test.YtdfofedlbljnhaaGreatDoorQi4
import Derived.Test.YtdfofedlbljnhaaGreatDoorQi5
import Derived.Shelf.Unicode.DecodeSlow
import Derived.Shelf.Strings.Search3
import Derived.Shelf.Strings.Fields
import Derived.Test.YtdfofedlbljnhaaGreatDoorCards
import Derived.Test.YtdfofedlbljnhaaGreatDoorTie
import Derived.Deep.DeepHandedRow
import Derived.Deep.DeepWitnessRowRef
import Derived.Lib.LaidTab
import Derived.Lib.LaidU8T
import Derived.Shelf.Vars
import Derived.Lay
set_option linter.all false
set_option maxRecDepth 100000
set_option maxHeartbeats 40000000
namespace Go.Proofs.YtdfofedlbljnhaaGreatDoor
open Go Go.Mw
def Jg:List AV:=(List.range 256).map fun c=>.int .u8 (Lib.firstT c)
def xI:List AV:=(List.range 32).map fun i=>.int .u8 (if i % 2=0 then Lib.accLo (i / 2) else Lib.accHi (i / 2))
theorem zI {w:World} {b off:Nat} {v:Value} (h:w.cell? ⟨b,off,none⟩=some v):∃c t fr,w.heap[b]? = some (.cells c t fr)∧c[off]? = some v:=by
 unfold World.cell? at h
 simp only at h
 split at h
 ·rename_i c t fr hb
  exact ⟨c,t,fr,hb,h⟩
 ·cases h
theorem BI {w:World} {M:Nat→Prop} {b n:Nat} {f:Nat→Int} (hn:0<n) (h:∀j,j<n→w.cell? ⟨b,j,none⟩=some (.int .u8 (f j))) (hM:¬M b) :
  IRel M w (.pointer (some ⟨b,0,none⟩)) (.ip ((List.range n).map fun j=>.int .u8 (f j))):=by
 obtain ⟨c,t,fr,hb,_⟩:=zI (h 0 hn)
 refine .ip b 0 c t fr _ (fun j=>.int .u8 (f j)) hb hM (fun j hj=>?_) (fun j x hx=>?_)
 ·simp at hj
  obtain ⟨c',t',fr',hb',hc⟩:=zI (h j hj)
  rw [hb] at hb'
  cases hb'
  simpa using hc
 ·simp only [jy,dR,List.getElem?_range] at hx
  obtain ⟨q,hq,rfl⟩:=hx
  rw [List.getElem?_range] at hq
  cases hq
  exact .int _ _
  have:=(jx.1 hq).1
  simpa using this
def spT (c:Nat):Value:=.int .u8 (if Lib.isSp (UInt8.ofNat c) then 1 else 0)
theorem oI {w w':World} {b off:Nat} {v:Value} (h:w'.heap[b]? = w.heap[b]?) (hc:w.cell? ⟨b,off,none⟩=some v):w'.cell? ⟨b,off,none⟩=some v:=by
 rw [World.cell?_of_block (w:=w) h];exact hc
theorem Do {w:World} {b off:Nat} {v:Value} (h:w.cell? ⟨b,off,none⟩=some v):b<w.heap.size:=by
 obtain ⟨c,t,fr,h1,_⟩:=zI h
 exact (wn.1 h1).1
noncomputable def ajK:QF where
 B b:=(b=0∨b=1)∨(b=3∨b=2)
 H w:=Lib.Utf8Tabs 0 1 w∧(∀c,c<256→w.cell? ⟨3,c,none⟩=some (spT c))∧∃m,w.cell? ⟨2,0,none⟩=some (.int .i64 m)
 env:=[(1000000+0,.ip Jg),(1000000+1,.ip xI)]
 rel w M h hM p hp:=by
  simp only [dc,List.not_mem_nil,or_false] at hp
  rcases hp with rfl | rfl
  ·exact ⟨by decide,BI (by decide) (fun j hj=>h.1.1 j hj) (hM 0 (.inl (.inl rfl)))⟩
  ·refine ⟨by decide,BI (by decide) (fun j hj=>?_) (hM 1 (.inl (.inr rfl)))⟩
   obtain ⟨h1,h2⟩:=h.1.2 (j / 2) (by omega)
   by_cases h0:j % 2=0
   ·rw [ap h0]
    rw [show 2 * (j / 2)=j by omega] at h1
    exact h1
   ·rw [ah h0]
    rw [show 2 * (j / 2)+1=j by omega] at h2
    exact h2
 stay w w' h hk:=⟨⟨fun c hc=>oI (hk _ (.inl (.inl rfl))) (h.1.1 c hc),fun i hi=>⟨oI (hk _ (.inl (.inr rfl))) (h.1.2 i hi).1,oI (hk _ (.inl (.inr rfl))) (h.1.2 i hi).2⟩⟩,
  fun c hc=>oI (hk 3 (.inr (.inl rfl))) (h.2.1 c hc),by obtain ⟨m,hm⟩:=h.2.2;exact ⟨m,oI (hk 2 (.inr (.inr rfl))) hm⟩⟩
 low w h b hb:=by
  rcases hb with (rfl | rfl) | (rfl | rfl)
  ·exact Do (h.1.1 0 (by decide))
  ·exact Do (h.1.2 0 (by decide)).1
  ·exact Do (h.2.1 0 (by decide))
  ·obtain ⟨m,hm⟩:=h.2.2;exact Do hm
noncomputable instance:bJ Tryz.prog:=⟨ajK⟩
theorem aL (F:az) {f:FuncId} {args:List AV} {r:AV} (hi:kD pg F.body ⟨kU 0 args,[]⟩ (Bz F.res r)) (hf:lN pg f=some F:=by kernel_rfl) (he:dn F.body=F.body:=by rfl) (hl:args.length=F.np:=by rfl):ao pg f args r:=Ms ue hf he hl hi
theorem bF (F:az) {f:FuncId} {args:List AV} {σ:List (Nat×ak)} {Post:AV→List (Nat×ak)→Prop} (hi:kD pg F.body ⟨kU 0 args,σ⟩ (nG F.res Post)) (hf:lN pg f=some F:=by kernel_rfl) (he:dn F.body=F.body:=by rfl) (hl:args.length=F.np:=by rfl):aX pg f args σ (fun id=>1000≤id∧id<2000) Post:=jJ ue hf he hl hi
open Go.ChangeShapes Go.WideShapes Go.ChangeAt Go.RowKit
theorem own:ownKnob Tryz.prog.godebug=none:=by kernel_rfl
theorem yh:laidOutB Tryz.prog=true:=by kernel_rfl
abbrev NO:List (String×DataW Unit):=[("unicode/utf8.acceptRanges",Rows.laid_unicode_utf8_acceptRanges),("unicode.White_Space",Rows.laid_unicode_White_Space),("strings.asciiSpace",Rows.laid_strings_asciiSpace),("unicode/utf8.first",Rows.laid_unicode_utf8_first)]
def spL:List Int:=(List.range 256).map fun c=>if Lib.isSp (UInt8.ofNat c) then 1 else 0
theorem spD:(Rows.laid_strings_asciiSpace:DataW Unit)=Lib.tabData .u8 spL:=by kernel_rfl
theorem gSp:Tryz.prog.globalNamed "strings.asciiSpace" = some 3:=by kernel_rfl
theorem tSp:(Tryz.prog.globals[3]?).map (·.type)=some 325:=by kernel_rfl
theorem uSp:Tryz.prog.underlying 325=some (.array 256 5):=by kernel_rfl
theorem uU8:Tryz.prog.underlying 5=some (.int .u8):=by kernel_rfl
theorem cU8:Tryz.prog.cellsOf 5=1:=by kernel_rfl
theorem cSp:Tryz.prog.cellsOf 325=256:=by kernel_rfl
theorem ahj {W:World} (h:laidMetH Tryz.prog NO W):Lib.TabIs Tryz.prog W "strings.asciiSpace" .u8 spL:=by
 have h2:=Lib.laidMet.reads h (.tail _ (.tail _ (.head _)))
 rw [spD] at h2
 obtain ⟨g',t',cs,fuel,p,hg',ht',hvar,hd⟩:=h2
 obtain rfl:=Option.some.inj (gSp.symm.trans hg')
 obtain rfl:=Option.some.inj (tSp.symm.trans ht')
 unfold Lib.TabIs
 rw [hvar,← Lib.cells_of_tab uSp uU8 cU8 cSp hd]
def ren:Go.Shelf.Ren:=⟨fun x=>x,fun t=>if t=119 then 325 else if t=138 then 327 else if t=139 then 328 else 5,fun g=>if g=3 then 0 else 1⟩
theorem u8t:U8Types Tryz.prog ren:=⟨by kernel_rfl,by kernel_rfl,by kernel_rfl,by kernel_rfl⟩
theorem u8x:U8Extra Tryz.prog ren:=⟨by kernel_rfl,by kernel_rfl,by kernel_rfl,by kernel_rfl,by kernel_rfl,by kernel_rfl,by kernel_rfl⟩
theorem ahV:(Rows.laid_unicode_utf8_acceptRanges:DataW Unit)=Lib.acceptData:=by kernel_rfl
theorem aih:Rows.laid_unicode_utf8_first=Lib.firstData:=by kernel_rfl
theorem aef {W:World} (h:laidMetH Tryz.prog NO W):Lib.Utf8Tabs 0 1 W:=by
 have h1:=Lib.laidMet.reads h (.head _)
 have h2:=Lib.laidMet.reads h (.tail _ (.tail _ (.tail _ (.head _))))
 rw [ahV] at h1
 rw [aih] at h2
 exact utf8Tabs_of_readsT u8t u8x h2 h1
theorem ad0 (c:Nat) (hc:c<256):Value.int .u8 (spL.getD c 0)=spT c:=by
 simp [spL,spT,List.getD,hc]
theorem y7 {W:World} (h:laidMetH Tryz.prog NO W) (hs:W.ShapedOpen Tryz.prog):(bJ.T Tryz.prog).H W :=
 ⟨aef h,fun c hc=>by rw [(ahj h).cell gSp c (by simpa [spL] using hc),ad0 c hc],
 Go.Proofs.cell_of_shapedOpen_int (g:=2) (t:=3) (k:=.i64) (zero:=#[.int .i64 0]) hs (of_decide_eq_true (by kernel_rfl)) (by kernel_rfl) rfl (by kernel_rfl) (by kernel_rfl) (by kernel_rfl)⟩
noncomputable abbrev dk (os:Os):World:=World.laidAll Tryz.prog os NO
theorem ye {P:Program} (h:∀fn∈P.funcs.toList,fn.goes=false) (c:OpenClaim) (hs:c.start = .entering):false=c.goesBy P:=by
 have k1:∀f:FuncId,(P.funcs[f]?).any Func.goes=false:=fun f=>by
  cases hf:P.funcs[f]? with
  | none=>rfl
  | some fn=>exact h fn (by
    obtain ⟨h1,rfl⟩:=wn.1 hf
    exact Array.getElem_mem_toList h1)
 have key:∀f:FuncId,P.goes f=false:=fun f=>by
  unfold Program.goes
  have e1:(P.closure f).any (fun g=>(P.funcs[g]?).any Func.goes)=false:=List.any_eq_false.2 fun g _=>by rw [k1 g];decide
  have e2:P.funcs.any Func.goes=false:=by
   rw [← Array.any_toList]
   exact List.any_eq_false.2 fun fn hfn=>by rw [h fn hfn];decide
  rw [e1,e2,Bool.and_false,Bool.or_false]
 unfold OpenClaim.goesBy Program.goesAt Program.goesFrom
 rw [hs]
 cases P.funcNamed c.func with
 | none=>rfl
 | some f=>simp only [Option.any_some,key,Bool.or_false]
theorem Ru {α:Type} {p:α→Bool} (n:Nat):∀(k:Nat) (l:List α),(∀i,i<k→((l.drop (i * n)).take n).all p=true)→l.length≤k * n→∀x∈l,p x=true
 | 0,l,_,hl,x,hx=>by
  have:l=[]:=sc (by omega)
  subst this;cases hx
 | k+1,l,h,hl,x,hx=>by
  have h0:=h 0 (by omega)
  rw [Nat.zero_mul,List.drop_zero] at h0
  have ih:=Ru n k (l.drop n) (fun i hi=>by
   have:=h (i+1) (by omega)
   rw [List.drop_drop,show n+i * n=(i+1) * n by rw [Nat.succ_mul,Nat.add_comm]]
   exact this) (by rw [iE];rw [Nat.succ_mul] at hl;omega)
  rcases fA.1 (by rw [List.take_append_drop n l];exact hx) with q | q
  ·exact fg.1 h0 x q
  ·exact ih x q
theorem aik:((Tryz.prog.funcs.toList.drop (0 * 40)).take 40).all (fun fn=>!fn.goes)=true:=by kernel_rfl
theorem ail:((Tryz.prog.funcs.toList.drop (1 * 40)).take 40).all (fun fn=>!fn.goes)=true:=by kernel_rfl
theorem aim:((Tryz.prog.funcs.toList.drop (2 * 40)).take 40).all (fun fn=>!fn.goes)=true:=by kernel_rfl
theorem ain:((Tryz.prog.funcs.toList.drop (3 * 40)).take 40).all (fun fn=>!fn.goes)=true:=by kernel_rfl
theorem aio:((Tryz.prog.funcs.toList.drop (4 * 40)).take 40).all (fun fn=>!fn.goes)=true:=by kernel_rfl
theorem aip:((Tryz.prog.funcs.toList.drop (5 * 40)).take 40).all (fun fn=>!fn.goes)=true:=by kernel_rfl
theorem aiq:((Tryz.prog.funcs.toList.drop (6 * 40)).take 40).all (fun fn=>!fn.goes)=true:=by kernel_rfl
theorem air:((Tryz.prog.funcs.toList.drop (7 * 40)).take 40).all (fun fn=>!fn.goes)=true:=by kernel_rfl
theorem ais:((Tryz.prog.funcs.toList.drop (8 * 40)).take 40).all (fun fn=>!fn.goes)=true:=by kernel_rfl
theorem ait:((Tryz.prog.funcs.toList.drop (9 * 40)).take 40).all (fun fn=>!fn.goes)=true:=by kernel_rfl
theorem afI:((Tryz.prog.funcs.toList.drop (10 * 40)).take 40).all (fun fn=>!fn.goes)=true:=by kernel_rfl
theorem Sq:∀fn∈Tryz.prog.funcs.toList,fn.goes=false:=fun fn h=>by
 have:=Ru 40 11 Tryz.prog.funcs.toList (p:=fun fn=>!fn.goes) (fun i hi=>by
  rcases (show i=0∨i=1∨i=2∨i=3∨i=4∨i=5∨i=6∨i=7∨i=8∨i=9∨i=10 by omega) with rfl | rfl | rfl | rfl | rfl | rfl | rfl | rfl | rfl | rfl | rfl
  ·exact aik
  ·exact ail
  ·exact aim
  ·exact ain
  ·exact aio
  ·exact aip
  ·exact aiq
  ·exact air
  ·exact ais
  ·exact ait
  ·exact afI) (of_decide_eq_true (by kernel_rfl)) fn h
 simpa using this
def i5 (b:UInt8):List AV:=[.int .u8 b.toNat]
theorem afg (b:UInt8):i5 b=[.int .u8 b.toNat]:=rfl
attribute [go_sem] afg
def z6 (b:List UInt8):Nat→Nat→Int×Nat
 | 0,_=>(4,0)
 | f+1,i=>if i≥b.length then (3,0) else if 128≤(ac b i).toNat then z6 b f (i+1) else (0,i)
def mst (bits:Nat):Nat:=(bits+6) / 7
def jO (b:List UInt8) (bits:Nat):Int:=(z6 b (mst bits) 0).1
def bZ (b:List UInt8) (bits:Nat):Nat:=(z6 b (mst bits) 0).2
def vi (bits i:Nat):Nat:=if i+1=mst bits then bits - 7 * i else 7
def dL:List UInt8→Nat
 | []=>0
 | b :: r=>b.toNat % 128+128 * dL r
theorem Kf (b:List UInt8):∀f i,i≤b.length→((z6 b f i).1=0∧(z6 b f i).2<b.length∧i≤(z6 b f i).2∧(z6 b f i).2<i+f∧(ac b (z6 b f i).2).toNat<128)∨((z6 b f i).1=3∨(z6 b f i).1=4)∧(z6 b f i).2=0
 | 0,i,_=>.inr ⟨.inr rfl,rfl⟩
 | f+1,i,hi=>by
  simp only [z6]
  by_cases h1:i≥b.length
  ·rw [ap h1];exact .inr ⟨.inl rfl,rfl⟩
  ·rw [ah h1]
   by_cases h2:128≤(ac b i).toNat
   ·rw [ap h2]
    rcases Kf b f (i+1) (by omega) with ⟨g1,g2,g3,g4,g5⟩ | h
    ·exact .inl ⟨g1,g2,by omega,by omega,g5⟩
    ·exact .inr h
   ·rw [ah h2];exact .inl ⟨rfl,by simp;omega,by simp,by simp,by simp;omega⟩
theorem iu (b:List UInt8) (bits:Nat):(jO b bits=0∧bZ b bits<b.length∧bZ b bits<mst bits∧(ac b (bZ b bits)).toNat<128)∨(jO b bits=3∨jO b bits=4)∧bZ b bits=0:=by
 rcases Kf b (mst bits) 0 (cX _) with ⟨g1,g2,g3,g4,g5⟩ | h
 ·exact .inl ⟨g1,g2,by rw [Nat.zero_add] at g4;exact g4,g5⟩
 ·exact .inr h
theorem Fv (n:Int):IntKind.u8.wrap n=n % 256:=by simp [IntKind.wrap,IntKind.bits,IntKind.signed]
theorem aaN (n:Int):IntKind.u32.wrap n=n % 4294967296:=by simp [IntKind.wrap,IntKind.bits,IntKind.signed]
theorem rf (n:Int):IntKind.u64.wrap n=n % 18446744073709551616:=by simp [IntKind.wrap,IntKind.bits,IntKind.signed]
theorem wV (n:Int):IntKind.i64.wrap n=(n+9223372036854775808) % 18446744073709551616 - 9223372036854775808:=by
 simp [IntKind.wrap,IntKind.bits,IntKind.signed]
 split<;>omega
theorem VA (n:Int):IntKind.i32.wrap n=(n+2147483648) % 4294967296 - 2147483648:=by
 simp [IntKind.wrap,IntKind.bits,IntKind.signed]
 split<;>omega
theorem HJ (k:Nat) (a:Nat):BitVec.ofInt k (a:Int)=BitVec.ofNat k a:=BitVec.ofInt_natCast k a
theorem Mp {k a b:Nat} (ha:a<2 ^ k) (hb:b<2 ^ k):(BitVec.ofInt k (a:Int) ||| BitVec.ofInt k (b:Int)).toNat=a ||| b:=by
 rw [HJ,HJ,BitVec.toNat_or,BitVec.toNat_ofNat,BitVec.toNat_ofNat,Nat.mod_eq_of_lt ha,Nat.mod_eq_of_lt hb]
theorem xX {k a b:Nat} (ha:a<2 ^ k) (hb:b<2 ^ k):(BitVec.ofInt k (a:Int) &&& BitVec.ofInt k (b:Int)).toNat=a &&& b:=by
 rw [HJ,HJ,BitVec.toNat_and,BitVec.toNat_ofNat,BitVec.toNat_ofNat,Nat.mod_eq_of_lt ha,Nat.mod_eq_of_lt hb]
theorem Ro {x:Nat} (hx:x<256):bO .u8 (x:Int) 127=((x % 128:Nat):Int):=by
 have:(BitVec.ofInt 8 (x:Int) &&& BitVec.ofInt 8 ((127:Nat):Int)).toNat=x &&& 127:=xX hx (by decide)
 show IntKind.u8.wrap ((BitVec.ofInt 8 (x:Int) &&& BitVec.ofInt 8 ((127:Nat):Int)).toNat)=_
 rw [this,show (127:Nat)=2 ^ 7 - 1 from rfl,Nat.and_two_pow_sub_one_eq_mod,Fv]
 omega
set_option maxRecDepth 100000 in
theorem ac6 {x:Nat} (hx:x<256):x ||| 128=x % 128+128:=by
 have key:∀y:Fin 256,y.val ||| 128=y.val % 128+128:=by decide
 exact key ⟨x,hx⟩
theorem aao {x:Nat} (hx:x<256):qE .u8 (x:Int) 128=((x % 128+128:Nat):Int):=by
 have:(BitVec.ofInt 8 (x:Int) ||| BitVec.ofInt 8 ((128:Nat):Int)).toNat=x ||| 128:=Mp hx (by decide)
 show IntKind.u8.wrap ((BitVec.ofInt 8 (x:Int) ||| BitVec.ofInt 8 ((128:Nat):Int)).toNat)=_
 rw [this,ac6 hx,Fv]
 omega
theorem Oq {y s:Nat} (hs:s<64):jF .u64 (y:Int) (s:Int)=((y * 2 ^ s % 18446744073709551616:Nat):Int):=by
 unfold jF
 rw [ce,show min s IntKind.u64.bits=s from Nat.min_eq_left (by show s≤64;omega),rf,Int.natCast_emod (_ * _),Int.natCast_mul,Int.natCast_pow]
 rfl
theorem yC {n y s:Nat} (hs:s<64) (hn:n<2 ^ s):qE .u64 (n:Int) (((y * 2 ^ s) % 18446744073709551616:Nat):Int)=(((n+y * 2 ^ s) % 18446744073709551616:Nat):Int):=by
 have hp:2 ^ s≤2 ^ 63:=Nat.pow_le_pow_right (by decide) (by omega)
 have e64:18446744073709551616=2 ^ s * 2 ^ (64 - s):=by rw [← Nat.pow_add,show s+(64 - s)=64 by omega]
 have hm:(y * 2 ^ s) % 18446744073709551616=2 ^ s * (y % 2 ^ (64 - s)):=by rw [e64,Nat.mul_comm y,Nat.mul_mod_mul_left]
 have hlt:y % 2 ^ (64 - s)<2 ^ (64 - s):=Nat.mod_lt _ (Nat.two_pow_pos _)
 have hsum:2 ^ s * (y % 2 ^ (64 - s))+n<18446744073709551616:=by
  rw [e64]
  have h1:2 ^ s * (y % 2 ^ (64 - s)+1)≤2 ^ s * 2 ^ (64 - s):=Nat.mul_le_mul_left _ hlt
  rw [Nat.mul_add,Nat.mul_one] at h1
  omega
 have h1:(BitVec.ofInt 64 (n:Int) ||| BitVec.ofInt 64 (((y * 2 ^ s) % 18446744073709551616:Nat):Int)).toNat=n ||| ((y * 2 ^ s) % 18446744073709551616) :=
  Mp (by omega) (Nat.mod_lt _ (by decide))
 show IntKind.u64.wrap ((BitVec.ofInt 64 (n:Int) ||| BitVec.ofInt 64 (((y * 2 ^ s) % 18446744073709551616:Nat):Int)).toNat)=_
 rw [h1,hm,Nat.or_comm,← Nat.two_pow_add_eq_or_of_lt hn,rf]
 have h2:(n+y * 2 ^ s) % 18446744073709551616=2 ^ s * (y % 2 ^ (64 - s))+n:=by
  rw [Nat.add_mod,hm,Nat.mod_eq_of_lt (show n<18446744073709551616 by omega),Nat.mod_eq_of_lt (by omega)]
  omega
 rw [h2]
 omega
theorem Vx (l m:List UInt8):dL (l++m)=dL l+128 ^ l.length * dL m:=by
 induction l with
 | nil=>simp [dL]
 | cons b l ih =>
  simp only [jR,dL,ih,eA,Nat.pow_succ,Nat.mul_add]
  rw [Nat.mul_comm (128 ^ l.length) 128,Nat.mul_assoc]
  omega
theorem Ji (l:List UInt8):dL l<128 ^ l.length:=by
 induction l with
 | nil=>simp [dL]
 | cons b l ih =>
  simp only [dL,eA,Nat.pow_succ]
  have:=Nat.mod_lt b.toNat (show 128>0 by decide)
  omega
theorem Aw {b:List UInt8} {i:Nat} (h:i<b.length):dL (b.take (i+1))=dL (b.take i)+(ac b i).toNat % 128 * 2 ^ (7 * i):=by
 rw [List.take_add_one,oY h,Option.toList_some,Vx]
 simp only [dL,Nat.mul_zero,Nat.add_zero,pm,Nat.min_eq_left (Nat.le_of_lt h)]
 rw [show (128:Nat)=2 ^ 7 from rfl,← Nat.pow_mul,Nat.mul_comm (2 ^ (7 * i))]
theorem kz {b:List UInt8} {i:Nat} (h:i≤b.length):dL (b.take i)<2 ^ (7 * i):=by
 have:=Ji (b.take i)
 rw [pm,Nat.min_eq_left h,show (128:Nat)=2 ^ 7 from rfl,← Nat.pow_mul] at this
 exact this
theorem yY (k:IntKind) {x s:Nat} (hs:s≤k.bits):BB k (x:Int) (s:Int)=((x / 2 ^ s:Nat):Int):=by
 unfold BB
 rw [ce,Nat.min_eq_left hs,Int.fdiv_eq_ediv_of_nonneg _ (by exact Int.le_of_lt (Int.pow_pos (by decide)))]
 rw [Int.natCast_ediv,Int.natCast_pow]
 rfl
set_option maxRecDepth 100000 in
theorem abe {x:Nat} (hx:x<256):(x &&& 64 != 0)=decide (64≤x % 128):=by
 have key:∀y:Fin 256,(y.val &&& 64 != 0)=decide (64≤y.val % 128):=by decide
 exact key ⟨x,hx⟩
theorem Na {x:Nat} (hx:x<256):(bO .u8 (x:Int) 64 != 0)=decide (64≤x % 128):=by
 have:(BitVec.ofInt 8 (x:Int) &&& BitVec.ofInt 8 ((64:Nat):Int)).toNat=x &&& 64:=xX hx (by decide)
 have e:bO .u8 (x:Int) 64=((x &&& 64:Nat):Int):=by
  show IntKind.u8.wrap ((BitVec.ofInt 8 (x:Int) &&& BitVec.ofInt 8 ((64:Nat):Int)).toNat)=_
  rw [this,Fv]
  have:x &&& 64≤64:=Nat.and_le_right
  omega
 rw [e,← abe hx]
 by_cases h:x &&& 64=0
 ·simp [h]
 ·have h1:((x &&& 64:Nat):Int)≠0:=by omega
  simp only [bne,gy.2 h1,gy.2 h]
def dZ (b:List UInt8) (bits:Nat):Nat×Nat×Int :=
 if jO b bits≠0 then (0,0,jO b bits) else
 if (ac b (bZ b bits)).toNat / 2 ^ vi bits (bZ b bits)≠0 then (0,0,4) else
 (dL (b.take (bZ b bits+1)) % 18446744073709551616,bZ b bits+1,0)
def I9 (b:List UInt8) (i:Nat):Int:=IntKind.i64.wrap ((dL (b.take (i+1)):Int) - (if 64≤(ac b i).toNat % 128 then 2 ^ (7 * (i+1)) else 0))
def eV (b:List UInt8) (bits:Nat):Int×Nat×Int :=
 if jO b bits≠0 then (0,0,jO b bits) else
 if (ac b (bZ b bits)).toNat / 2 ^ (vi bits (bZ b bits) - 1)≠0∧(ac b (bZ b bits)).toNat / 2 ^ (vi bits (bZ b bits) - 1)≠127 / 2 ^ (vi bits (bZ b bits) - 1) then (0,0,4) else
 (I9 b (bZ b bits),bZ b bits+1,0)
theorem HM {bits i:Nat} (h:1≤bits∧bits≤64) (hi:i<mst bits):1≤vi bits i∧vi bits i≤7:=by
 unfold vi mst at *
 split<;>omega
theorem TK {bits:Nat} (h:1≤bits∧bits≤64):mst bits≤10:=by unfold mst;omega
theorem vm {a b:Int} (h:a % 18446744073709551616=b % 18446744073709551616):IntKind.i64.wrap a=IntKind.i64.wrap b:=by
 rw [wV,wV];omega
def aq (n:Nat):List UInt8:=if n<128 then [UInt8.ofNat n] else UInt8.ofNat (n % 128+128) :: aq (n / 128)
termination_by n
decreasing_by omega
def br (n:Int):List UInt8:=if -64≤n∧n≤63 then [UInt8.ofNat (n % 128).toNat] else UInt8.ofNat ((n % 128).toNat+128) :: br (n / 128)
termination_by n.natAbs
decreasing_by omega
theorem rY {n:Nat} (h:n<128):aq n=[UInt8.ofNat n]:=by rw [aq,ap h]
theorem vx {n:Nat} (h:¬n<128):aq n=UInt8.ofNat (n % 128+128) :: aq (n / 128):=by rw [aq,ah h]
theorem ku {n:Int} (h:-64≤n∧n≤63):br n=[UInt8.ofNat (n % 128).toNat]:=by rw [br,ap h]
theorem vw {n:Int} (h:¬(-64≤n∧n≤63)):br n=UInt8.ofNat ((n % 128).toNat+128) :: br (n / 128):=by rw [br,ah h]
theorem ofNat_toNat {n:Nat} (h:n<256):(UInt8.ofNat n).toNat=n:=by simp [UInt8.toNat_ofNat',Nat.mod_eq_of_lt h]
theorem JF {n:Nat} (h:n<256):i5 (UInt8.ofNat n)=[.int .u8 n]:=by rw [afg,ofNat_toNat h]
theorem kv {k:Nat}:∀{n:Nat},n<128 ^ (k+1)→(aq n).length≤k+1:=by
 induction k with
 | zero=>intro n h;rw [rY (by simpa using h)];simp
 | succ k ih =>
  intro n h
  by_cases h1:n<128
  ·rw [rY h1];simp
  ·rw [vx h1]
   have:=ih (n:=n / 128) (by rw [Nat.pow_succ] at h;omega)
   simp;omega
theorem kw (n:Nat):0<(aq n).length:=by
 by_cases h1:n<128
 ·rw [rY h1];simp
 ·rw [vx h1];simp
def mA (n:Int):List AV:=[.int .i64 n]
theorem d_ (n:Int):mA n=[.int .i64 n]:=rfl
attribute [go_sem] d_
structure aZ where
 op:Int
 a:Int
 b:Int
 n:Int
 k:Int
 v:Int
 x:Int
 ty:List Int
 lb:List Int
def dJ (i:aZ):AV:=.agg [.int .i64 i.op,.int .i64 i.a,.int .i64 i.b,.int .u64 i.n,.int .i64 i.k,.int .i64 i.v,.int .i64 i.x,.sl 1 (i.ty.map mA),.sl 1 (i.lb.map mA)]
theorem dE (i:aZ):dJ i = .agg [.int .i64 i.op,.int .i64 i.a,.int .i64 i.b,.int .u64 i.n,.int .i64 i.k,.int .i64 i.v,.int .i64 i.x,.sl 1 (i.ty.map mA),.sl 1 (i.lb.map mA)]:=rfl
def aW (i:aZ):List AV:=[.int .i64 i.op,.int .i64 i.a,.int .i64 i.b,.int .u64 i.n,.int .i64 i.k,.int .i64 i.v,.int .i64 i.x,.sl 1 (i.ty.map mA),.sl 1 (i.lb.map mA)]
instance:Inhabited aZ:=⟨⟨0,0,0,0,0,0,0,[],[]⟩⟩
structure Ft where
 ps:List Int
 rs:List Int
structure Lm where
 mn:Int
 mx:Int
 hs:Bool
structure Gl where
 v:Int
 mu:Bool
structure Im where
 m:List UInt8
 n:List UInt8
 k:Int
 f:Int
 te:Int
 tl:Lm
 me:Lm
 g:Gl
structure Cd where
 t:Int
 lo:List Int
 b:List aZ
structure Tb where
 e:Int
 l:Lm
structure Gd where
 g:Gl
 i:List aZ
structure Ex where
 n:List UInt8
 k:Int
 i:Int
structure El where
 mo:Int
 tb:Int
 o:List aZ
 ty:Int
 it:List (List aZ)
structure Da where
 mo:Int
 me:Int
 o:List aZ
 b:List UInt8
structure Cu where
 af:Int
 n:List UInt8
 b:List UInt8
structure Md where
 ts:List Ft
 ims:List Im
 fs:List Cd
 tbs:List Tb
 ms:List Lm
 gs:List Gd
 exs:List Ex
 hs:Bool
 st:Int
 els:List El
 ds:List Da
 cs:List Cu
instance:Inhabited Ft:=⟨⟨[],[]⟩⟩
instance:Inhabited Lm:=⟨⟨0,0,false⟩⟩
instance:Inhabited Gl:=⟨⟨0,false⟩⟩
instance:Inhabited Im:=⟨⟨[],[],0,0,0,default,default,default⟩⟩
instance:Inhabited Cd:=⟨⟨0,[],[]⟩⟩
instance:Inhabited Tb:=⟨⟨0,default⟩⟩
instance:Inhabited Gd:=⟨⟨default,[]⟩⟩
instance:Inhabited Ex:=⟨⟨[],0,0⟩⟩
instance:Inhabited El:=⟨⟨0,0,[],0,[]⟩⟩
instance:Inhabited Da:=⟨⟨0,0,[],[]⟩⟩
instance:Inhabited Cu:=⟨⟨0,[],[]⟩⟩
instance:Inhabited Md:=⟨⟨[],[],[],[],[],[],[],false,0,[],[],[]⟩⟩
def rK (x:Ft):List AV:=[.sl 1 (x.ps.map mA),.sl 1 (x.rs.map mA)]
def ry (x:Lm):List AV:=[.int .i64 x.mn,.int .i64 x.mx,.bool x.hs]
def NB (x:Gl):List AV:=[.int .i64 x.v,.bool x.mu]
def tg (x:Im):List AV:=[.str x.m,.str x.n,.int .i64 x.k,.int .i64 x.f,.int .i64 x.te,.int .i64 x.tl.mn,.int .i64 x.tl.mx,.bool x.tl.hs,.int .i64 x.me.mn,.int .i64 x.me.mx,.bool x.me.hs,.int .i64 x.g.v,.bool x.g.mu]
def qf (x:Cd):List AV:=[.int .i64 x.t,.sl 1 (x.lo.map mA),.sl 9 (x.b.map aW)]
def xR (x:Tb):List AV:=[.int .i64 x.e,.int .i64 x.l.mn,.int .i64 x.l.mx,.bool x.l.hs]
def yd (x:Gd):List AV:=[.int .i64 x.g.v,.bool x.g.mu,.sl 9 (x.i.map aW)]
def xN (x:Ex):List AV:=[.str x.n,.int .i64 x.k,.int .i64 x.i]
def oU (l:List aZ):List AV:=[.sl 9 (l.map aW)]
def gP (x:El):List AV:=[.int .i64 x.mo,.int .i64 x.tb,.sl 9 (x.o.map aW),.int .i64 x.ty,.sl 1 (x.it.map oU)]
def lO (x:Da):List AV:=[.int .i64 x.mo,.int .i64 x.me,.sl 9 (x.o.map aW),.sl 1 (x.b.map i5)]
def zK (x:Cu):List AV:=[.int .i64 x.af,.str x.n,.sl 1 (x.b.map i5)]
def G3 (x:Md):List AV:=[.sl 2 (x.ts.map rK),.sl 13 (x.ims.map tg),.sl 3 (x.fs.map qf),.sl 4 (x.tbs.map xR),.sl 3 (x.ms.map ry),.sl 3 (x.gs.map yd),.sl 3 (x.exs.map xN),.bool x.hs,.int .i64 x.st,.sl 5 (x.els.map gP),.sl 4 (x.ds.map lO),.sl 3 (x.cs.map zK)]
theorem dw (x:Ft):rK x=[.sl 1 (x.ps.map mA),.sl 1 (x.rs.map mA)]:=rfl
theorem db (x:Lm):ry x=[.int .i64 x.mn,.int .i64 x.mx,.bool x.hs]:=rfl
theorem dd (x:Im):tg x=[.str x.m,.str x.n,.int .i64 x.k,.int .i64 x.f,.int .i64 x.te,.int .i64 x.tl.mn,.int .i64 x.tl.mx,.bool x.tl.hs,.int .i64 x.me.mn,.int .i64 x.me.mx,.bool x.me.hs,.int .i64 x.g.v,.bool x.g.mu]:=rfl
theorem dY (x:Cd):qf x=[.int .i64 x.t,.sl 1 (x.lo.map mA),.sl 9 (x.b.map aW)]:=rfl
theorem dt (x:Tb):xR x=[.int .i64 x.e,.int .i64 x.l.mn,.int .i64 x.l.mx,.bool x.l.hs]:=rfl
theorem sA (x:Gd):yd x=[.int .i64 x.g.v,.bool x.g.mu,.sl 9 (x.i.map aW)]:=rfl
theorem fS (x:Ex):xN x=[.str x.n,.int .i64 x.k,.int .i64 x.i]:=rfl
theorem iH (l:List aZ):oU l=[.sl 9 (l.map aW)]:=rfl
theorem eW (x:El):gP x=[.int .i64 x.mo,.int .i64 x.tb,.sl 9 (x.o.map aW),.int .i64 x.ty,.sl 1 (x.it.map oU)]:=rfl
theorem fR (x:Da):lO x=[.int .i64 x.mo,.int .i64 x.me,.sl 9 (x.o.map aW),.sl 1 (x.b.map i5)]:=rfl
theorem fp (x:Cu):zK x=[.int .i64 x.af,.str x.n,.sl 1 (x.b.map i5)]:=rfl
theorem bC (x:Md):G3 x=[.sl 2 (x.ts.map rK),.sl 13 (x.ims.map tg),.sl 3 (x.fs.map qf),.sl 4 (x.tbs.map xR),.sl 3 (x.ms.map ry),.sl 3 (x.gs.map yd),.sl 3 (x.exs.map xN),.bool x.hs,.int .i64 x.st,.sl 5 (x.els.map gP),.sl 4 (x.ds.map lO),.sl 3 (x.cs.map zK)]:=rfl
def dH (x:Md):AV:=.agg (G3 x)
def bL {α:Type} (p:Nat→α→Prop) (B:Nat) (l:List α):Prop:=l.length≤B∧∀a∈l,p B a
def Hu {α:Type} (τ:Ty) (f:α→List AV) (p:Nat→α→Prop):Prop:=∀r,τ.ok r→∃a,aS Nd r (f a)∧p maxLen a∧∀B,τ.bd B r→p B a
theorem aaw {α:Type} {τ:Ty} {f:α→List AV} {p:Nat→α→Prop} (h:Hu τ f p):∀{rows:List (List AV)},(∀r∈rows,τ.ok r)→∃l:List α,aS (aS Nd) rows (l.map f)∧(∀a∈l,p maxLen a)∧∀B,(∀r∈rows,τ.bd B r)→∀a∈l,p B a
 | [],_=>⟨[],trivial,(fun a h=>by cases h),(fun _ _ a h=>by cases h)⟩
 | r :: rows,hr=>by
  obtain ⟨a,h1,h2,h3⟩:=h r (hr r (by simp))
  obtain ⟨l,g1,g2,g3⟩:=aaw h (rows:=rows) fun r hr'=>hr r (by simp [hr'])
  refine ⟨a :: l,⟨h1,g1⟩,fun b hb=>?_,fun B hB b hb=>?_⟩
  ·rcases dc.1 hb with rfl | hb
   ·exact h2
   ·exact g2 b hb
  ·rcases dc.1 hb with rfl | hb
   ·exact h3 B (hB r (by simp))
   ·exact g3 B (fun r hr'=>hB r (by simp [hr'])) b hb
theorem ID {st:Nat} {rows rows':List (List AV)} (h:aS (aS Nd) rows rows'):Nd (.sl st rows) (.sl st rows'):=by
 refine .sl st _ _ h.length (fun i r r' h1 h2=>?_) (fun i j r r' x y h1 h2 h3 h4=>?_)
 ·obtain ⟨a,e1,e2⟩:=h.get h2
  obtain rfl:=Option.some.inj (h1.symm.trans e1)
  exact e2.length
 ·obtain ⟨a,e1,e2⟩:=h.get h2
  obtain rfl:=Option.some.inj (h1.symm.trans e1)
  obtain ⟨b,e3,e4⟩:=e2.get h4
  obtain rfl:=Option.some.inj (h3.symm.trans e3)
  exact e4
theorem DE {α:Type} {τ:Ty} {f:α→List AV} {p:Nat→α→Prop} (h:Hu τ f p) {r:List AV} (hr:(Ty.sl τ).ok r):∃x l,r=[x]∧Nd x (.sl τ.n (l.map f))∧bL p maxLen l∧∀B,(Ty.sl τ).bd B [x]→bL p B l:=by
 rcases hr with rfl | ⟨rows,rfl,h2,h3⟩
 ·exact ⟨_,[],rfl,.nl _,⟨cX _,fun a h=>by cases h⟩,fun B _=>⟨cX _,fun a h=>by cases h⟩⟩
 ·obtain ⟨l,g1,g2,g3⟩:=aaw h h3
  have hl:=g1.length
  rw [di] at hl
  refine ⟨_,l,rfl,ID g1,⟨by omega,g2⟩,fun B hB=>?_⟩
  obtain ⟨q1,q2⟩:=hB _ _ rfl
  exact ⟨by omega,g3 B q2⟩
theorem ajE {α:Type} {τ:Ty} {f:α→List AV} {p:Nat→α→Prop} (h:Hu τ f p) {x:AV} (hx:(Ty.sl τ).okV x):∃l,nld x (.sl τ.n (l.map f))∧bL p maxLen l∧∀B,(Ty.sl τ).bdV B x→bL p B l:=by
 obtain ⟨y,l,h1,h2,h3,h4⟩:=DE h (r:=[x]) hx
 simp only [List.cons.injEq,and_true] at h1
 subst h1
 exact ⟨l,.inl h2,h3,fun B hB=>h4 B hB⟩
theorem aeg {n:Int} (h:(Lit.int .u8 n).wf=true):0≤n∧n≤255:=by simpa [Lit.wf,IntKind.min,IntKind.max,IntKind.signed,IntKind.bits] using h
def Ya {α:Type} (_:Nat) (_:α):Prop:=True
theorem RT:Hu (.int .u8) i5 Ya:=fun r h=>by
 obtain ⟨n,rfl,hw⟩:=h
 have hn:=aeg hw
 refine ⟨UInt8.ofNat n.toNat,?_,trivial,fun _ _=>trivial⟩
 rw [JF (by omega),show ((n.toNat:Nat):Int)=n by omega]
 exact ⟨.rfl _,trivial⟩
theorem acH {τ:Ty} {xs:List AV} (h:aS Ty.okV [τ] xs):∃x,xs=[x]∧τ.okV x:=by
 match xs,h with
 | [x],h=>exact ⟨x,rfl,h.1⟩
theorem ahn:ta pg 9 36=some (.sl (.int .u8)):=by kernel_rfl
def cpI (x:aZ):Prop:=x.ty.length≤1048576∧x.lb.length≤1048576∧0≤x.n
def Rz (l:List aZ):Prop:=l.length≤1048576∧∀x∈l,cpI x
def cpF (x:Ft):Prop:=x.ps.length≤1048576∧x.rs.length≤1048576
def ah6 (x:Cd):Prop:=x.lo.length≤1048576∧Rz x.b
def ah_ (x:Gd):Prop:=Rz x.i
def ah9 (x:El):Prop:=Rz x.o∧x.it.length≤1048576∧∀l∈x.it,Rz l
def ah8 (x:Da):Prop:=Rz x.o∧x.b.length≤1048576
def ah7 (x:Cu):Prop:=x.b.length≤1048576
structure cpM (m:Md):Prop where
 ts:m.ts.length≤1048576∧∀x∈m.ts,cpF x
 ims:m.ims.length≤1048576
 fs:m.fs.length≤1048576∧∀x∈m.fs,ah6 x
 tbs:m.tbs.length≤1048576
 ms:m.ms.length≤1048576
 gs:m.gs.length≤1048576∧∀x∈m.gs,ah_ x
 exs:m.exs.length≤1048576
 els:m.els.length≤1048576∧∀x∈m.els,ah9 x
 ds:m.ds.length≤1048576∧∀x∈m.ds,ah8 x
 cs:m.cs.length≤1048576∧∀x∈m.cs,ah7 x
def VR (x:aZ):Prop:=x.ty.length≤9223372036854775807∧x.lb.length≤9223372036854775807∧0≤x.n
def K_ (l:List aZ):Prop:=l.length≤9223372036854775807∧∀x∈l,VR x
def smF (x:Ft):Prop:=x.ps.length≤9223372036854775807∧x.rs.length≤9223372036854775807
def Vd (x:Cd):Prop:=x.lo.length≤9223372036854775807∧K_ x.b
def adW (x:Gd):Prop:=K_ x.i
def Zn (x:El):Prop:=K_ x.o∧x.it.length≤140737488355328∧∀l∈x.it,K_ l
def Zm (x:Da):Prop:=K_ x.o∧x.b.length≤9223372036854775807
def ajF (x:Cu):Prop:=x.b.length≤9223372036854775807
structure Gi (m:Md):Prop where
 ts:m.ts.length≤140737488355328∧∀x∈m.ts,smF x
 ims:m.ims.length≤140737488355328
 fs:m.fs.length≤140737488355328∧∀x∈m.fs,Vd x
 tbs:m.tbs.length≤140737488355328
 ms:m.ms.length≤140737488355328
 gs:m.gs.length≤140737488355328∧∀x∈m.gs,adW x
 exs:m.exs.length≤140737488355328
 els:m.els.length≤140737488355328∧∀x∈m.els,Zn x
 ds:m.ds.length≤140737488355328∧∀x∈m.ds,Zm x
 cs:m.cs.length≤140737488355328∧∀x∈m.cs,ajF x
theorem eT {α:Type} [Inhabited α] {p:α→Prop} {l:List α} (h:∀x∈l,p x) {i:Nat} (hi:i<l.length):p (ac l i):=by
 rw [bp hi];exact h _ (List.getElem_mem hi)
theorem xJ {α:Type} [Inhabited α] {l:List α} {i:Nat} (h:i<l.length):l.take (i+1)=l.take i++[ac l i]:=by rw [List.take_add_one,oY h,Option.toList_some]
theorem adC (n:Nat) (hn:n<18446744073709551616):ao pg Ma [.nl,.int .u64 n] (.sl 1 ((aq n).map i5)):=by
 refine aL DK ?_
 simp only [DK,go_sem]
 have a0:zE 6 5 1 0 0 [] (some ⟨5,1,[],false⟩)=some (.ms 6 1 0 0,.reb 6 ⟨5,1,[],false⟩):=rfl
 simp only [go_sem,a0]
 refine aw (fun q:List UInt8×Nat=>⟨[(5,.ms 6 1 0 q.1.length),(1,.int .u64 q.2)],[(6,⟨5,1,q.1.map i5,false⟩)]⟩) (fun q=>q.1++aq q.2=aq n∧q.2≤n) (fun q=>q.2) ([],n) ⟨rfl,bt _⟩ (Wk.of ?_ ?_) ?_
 ·simp [go_sem]
 ·simp [go_sem]
 rintro ⟨acc,m⟩ ⟨hq,hm⟩
 replace hq:acc++aq m=aq n:=hq
 replace hm:m≤n:=hm
 have hlen:acc.length+(aq m).length≤10:=by
  have:=kv (k:=9) (n:=n) (by omega)
  rw [← hq] at this
  simpa using this
 have w1:IntKind.u8.wrap (m:Int)=((m % 256:Nat):Int):=by rw [Fv];omega
 have happ:=fun ys=>cZ 6 5 1 acc.length i5 acc ys rfl
 by_cases h1:m<128
 ·have d1:decide ((m:Int)≥128)=false:=by simp;omega
  simp only [go_sem,d1,w1,happ]
  refine ⟨by omega,aJ [6] ?_ rfl⟩
  have e1:m % 256=m:=by omega
  simp only [go_sem,w1,← hq,rY h1,List.map_append,JF (show m<256 by omega),e1]
  simp
  exact fL (by simp)
 ·have d1:decide ((m:Int)≥128)=true:=by simp;omega
  have w2:=aao (x:=m % 256) (by omega)
  have e1:m % 256 % 128=m % 128:=by omega
  have w3:BB .u64 (m:Int) 7=((m / 128:Nat):Int):=yY .u64 (x:=m) (s:=7) (by decide)
  simp only [go_sem,d1,w1,w2,e1,happ]
  refine ⟨by omega,by decide,aG (acc++[UInt8.ofNat (m % 128+128)],m / 128) ⟨by rw [du,← hq,vx h1];rfl,by omega⟩ (show m / 128<m by omega) (Wk.of ?_ ?_)⟩
  ·simp only [go_sem,w3,bE,cM]
  ·simp only [go_sem,List.map_append,JF (show m % 128+128<256 by omega)]
theorem Xf (n:Int):BB .i64 n 7=n / 128:=by
 unfold BB
 rw [show min (7:Int).toNat IntKind.i64.bits=7 from rfl,Int.fdiv_eq_ediv_of_nonneg _ (by decide)]
 rfl
theorem ut {k:Nat}:∀{n:Int},-(64 * 128 ^ k:Int)≤n→n<64 * 128 ^ k→(br n).length≤k+1:=by
 induction k with
 | zero=>intro n h1 h2;rw [ku (by omega)];simp
 | succ k ih =>
  intro n h1 h2
  by_cases h:-64≤n∧n≤63
  ·rw [ku h];simp
  ·rw [vw h]
   rw [Int.pow_succ] at h1 h2
   generalize (128:Int) ^ k=p at *
   have:=ih (n:=n / 128) (by omega) (by omega)
   simp;omega
theorem MG (n:Int) (hn:-9223372036854775808≤n∧n<9223372036854775808):ao pg L_ [.nl,.int .i64 n] (.sl 1 ((br n).map i5)):=by
 refine aL DJ ?_
 have a0:zE 6 5 1 0 0 [] (some ⟨5,1,[],false⟩)=some (.ms 6 1 0 0,.reb 6 ⟨5,1,[],false⟩):=rfl
 simp only [DJ,go_sem,a0]
 refine aw (fun q:List UInt8×Int=>⟨[(5,.ms 6 1 0 q.1.length),(1,.int .i64 q.2)],[(6,⟨5,1,q.1.map i5,false⟩)]⟩) (fun q=>q.1++br q.2=br n∧-9223372036854775808≤q.2∧q.2<9223372036854775808) (fun q=>q.2.natAbs) ([],n) ⟨rfl,hn⟩ (Wk.of ?_ ?_) ?_
 ·simp [go_sem]
 ·simp [go_sem]
 rintro ⟨acc,m⟩ ⟨hq,hm⟩
 replace hq:acc++br m=br n:=hq
 replace hm:-9223372036854775808≤m∧m<9223372036854775808:=hm
 have hlen:acc.length+(br m).length≤10:=by
  have:=ut (k:=9) (n:=n) (by omega) (by omega)
  rw [← hq] at this
  simpa using this
 have w1:IntKind.u8.wrap (m:Int)=(((m % 256).toNat:Nat):Int):=by rw [Fv];omega
 have happ:=fun ys=>cZ 6 5 1 acc.length i5 acc ys rfl
 have e1:(m % 256).toNat % 128=(m % 128).toNat:=by omega
 by_cases h1:-64≤m∧m≤63
 ·have d1:decide (m < -64)=false:=by simp;omega
  have d2:decide (m>63)=false:=by simp;omega
  have w2:=Ro (x:=(m % 256).toNat) (by omega)
  simp only [go_sem,d1,d2,w1,w2,e1,happ]
  refine ⟨by omega,aJ [6] ?_ rfl⟩
  simp only [go_sem,← hq,ku h1,List.map_append,JF (show (m % 128).toNat<256 by omega),cM]
  simp
  exact fL (by simp)
 ·have w2:=aao (x:=(m % 256).toNat) (by omega)
  have w3:=Xf m
  have fin:∀s:St,leE s.env [(5,.ms 6 1 0 (acc.length+1)),(1,.int .i64 (m / 128))]→VN s.heap [(6,⟨5,1,acc.map i5++[[.int .u8 (((m % 128).toNat+128:Nat):Int)]],false⟩)] →
    ∀K,klp (fun q:List UInt8×Int=>⟨[(5,.ms 6 1 0 q.1.length),(1,.int .i64 q.2)],[(6,⟨5,1,q.1.map i5,false⟩)]⟩) (fun q=>q.1++br q.2=br n∧-9223372036854775808≤q.2∧q.2<9223372036854775808) (fun q=>q.2.natAbs) (acc,m) K .nrm s:=fun s hs1 hs2 K=>by
   refine aG (acc++[UInt8.ofNat ((m % 128).toNat+128)],m / 128) ⟨by rw [du,← hq,vw h1];rfl,by show _≤m / 128;omega,by show m / 128<_;omega⟩ (show (m / 128).natAbs<m.natAbs by omega) (Wk.of ?_ ?_)
   ·simpa only [bE,cM] using hs1
   ·simpa only [List.map_append,ej,List.map_nil,JF (show (m % 128).toNat+128<256 by omega)] using hs2
  by_cases h2:m < -64
  ·have d1:decide (m < -64)=true:=by simp;omega
   simp only [go_sem,d1,w1,w2,e1,happ]
   refine ⟨by omega,by decide,fin _ ?_ ?_ _⟩
   ·simp only [go_sem,w3]
   ·simp only [go_sem]
  ·have d1:decide (m < -64)=false:=by simp;omega
   have d2:decide (m>63)=true:=by simp;omega
   simp only [go_sem,d1,d2,w1,w2,e1,happ]
   refine ⟨by omega,by decide,fin _ ?_ ?_ _⟩
   ·simp only [go_sem,w3]
   ·simp only [go_sem]
theorem EZ {n y s:Nat} (p:Nat) (hp:2 ^ s=p) (hs:s≤56) (hn:n<p) (hy:y<256):qE .u64 (n:Int) (jF .u64 (y:Int) (s:Int))=((n+y * p:Nat):Int):=by
 subst hp
 rw [Oq (by omega),yC (by omega) hn]
 have h1:2 ^ s≤2 ^ 56:=Nat.pow_le_pow_right (by decide) hs
 have h2:y * 2 ^ s≤255 * 2 ^ 56:=Nat.mul_le_mul (by omega) h1
 rw [Nat.mod_eq_of_lt (by omega)]
def qo (l:List UInt8):Nat:=(ac l 0).toNat+(ac l 1).toNat * 256+(ac l 2).toNat * 65536+(ac l 3).toNat * 16777216+(ac l 4).toNat * 4294967296+(ac l 5).toNat * 1099511627776+(ac l 6).toNat * 281474976710656+(ac l 7).toNat * 72057594037927936
theorem xM (l:List UInt8):qo l<18446744073709551616:=by
 have h0:=(ac l 0).toNat_lt;have h1:=(ac l 1).toNat_lt;have h2:=(ac l 2).toNat_lt;have h3:=(ac l 3).toNat_lt
 have h4:=(ac l 4).toNat_lt;have h5:=(ac l 5).toNat_lt;have h6:=(ac l 6).toNat_lt;have h7:=(ac l 7).toNat_lt
 unfold qo
 omega
def hiB:Nat:=9259542123273814144
theorem tY {w:Nat} (h:w &&& 9259542123273814144=0) {k:Nat} (hk:(9259542123273814144:Nat).testBit k=true):w / 2 ^ k % 2=0:=by
 have h1:(w &&& 9259542123273814144).testBit k=false:=by rw [h];simp
 rw [Nat.testBit_and,hk,Bool.and_true] at h1
 rw [Nat.testBit_eq_decide_div_mod_eq] at h1
 simp at h1
 omega
theorem p_ {w p low b high:Nat} (hp:0<p) (hl:low<p) (hb:b<256) (e:w=low+p * (b+256 * high)) (h:w / (p * 128) % 2=0):b<128:=by
 have h1:w / p=b+256 * high:=by rw [e,Nat.add_mul_div_left _ _ hp,Nat.div_eq_of_lt hl,Nat.zero_add]
 rw [← Nat.div_div_eq_div_mul,h1] at h
 omega
theorem ZF {l:List UInt8} (h:qo l &&& 9259542123273814144=0):∀i,i<8→(ac l i).toNat<128:=by
 have h0:=(ac l 0).toNat_lt;have h1:=(ac l 1).toNat_lt;have h2:=(ac l 2).toNat_lt;have h3:=(ac l 3).toNat_lt
 have h4:=(ac l 4).toNat_lt;have h5:=(ac l 5).toNat_lt;have h6:=(ac l 6).toNat_lt;have h7:=(ac l 7).toNat_lt
 have g0:(ac l 0).toNat<128:=p_ (w:=qo l) (p:=1) (low:=0) (high:=0+(ac l 1).toNat * 1+(ac l 2).toNat * 256+(ac l 3).toNat * 65536+(ac l 4).toNat * 16777216+(ac l 5).toNat * 4294967296+(ac l 6).toNat * 1099511627776+(ac l 7).toNat * 281474976710656) (by decide) (by omega) h0 (by unfold qo;omega) (tY h (k:=7) (by decide))
 have g1:(ac l 1).toNat<128:=p_ (w:=qo l) (p:=256) (low:=0+(ac l 0).toNat * 1) (high:=0+(ac l 2).toNat * 1+(ac l 3).toNat * 256+(ac l 4).toNat * 65536+(ac l 5).toNat * 16777216+(ac l 6).toNat * 4294967296+(ac l 7).toNat * 1099511627776) (by decide) (by omega) h1 (by unfold qo;omega) (tY h (k:=15) (by decide))
 have g2:(ac l 2).toNat<128:=p_ (w:=qo l) (p:=65536) (low:=0+(ac l 0).toNat * 1+(ac l 1).toNat * 256) (high:=0+(ac l 3).toNat * 1+(ac l 4).toNat * 256+(ac l 5).toNat * 65536+(ac l 6).toNat * 16777216+(ac l 7).toNat * 4294967296) (by decide) (by omega) h2 (by unfold qo;omega) (tY h (k:=23) (by decide))
 have g3:(ac l 3).toNat<128:=p_ (w:=qo l) (p:=16777216) (low:=0+(ac l 0).toNat * 1+(ac l 1).toNat * 256+(ac l 2).toNat * 65536) (high:=0+(ac l 4).toNat * 1+(ac l 5).toNat * 256+(ac l 6).toNat * 65536+(ac l 7).toNat * 16777216) (by decide) (by omega) h3 (by unfold qo;omega) (tY h (k:=31) (by decide))
 have g4:(ac l 4).toNat<128:=p_ (w:=qo l) (p:=4294967296) (low:=0+(ac l 0).toNat * 1+(ac l 1).toNat * 256+(ac l 2).toNat * 65536+(ac l 3).toNat * 16777216) (high:=0+(ac l 5).toNat * 1+(ac l 6).toNat * 256+(ac l 7).toNat * 65536) (by decide) (by omega) h4 (by unfold qo;omega) (tY h (k:=39) (by decide))
 have g5:(ac l 5).toNat<128:=p_ (w:=qo l) (p:=1099511627776) (low:=0+(ac l 0).toNat * 1+(ac l 1).toNat * 256+(ac l 2).toNat * 65536+(ac l 3).toNat * 16777216+(ac l 4).toNat * 4294967296) (high:=0+(ac l 6).toNat * 1+(ac l 7).toNat * 256) (by decide) (by omega) h5 (by unfold qo;omega) (tY h (k:=47) (by decide))
 have g6:(ac l 6).toNat<128:=p_ (w:=qo l) (p:=281474976710656) (low:=0+(ac l 0).toNat * 1+(ac l 1).toNat * 256+(ac l 2).toNat * 65536+(ac l 3).toNat * 16777216+(ac l 4).toNat * 4294967296+(ac l 5).toNat * 1099511627776) (high:=0+(ac l 7).toNat * 1) (by decide) (by omega) h6 (by unfold qo;omega) (tY h (k:=55) (by decide))
 have g7:(ac l 7).toNat<128:=p_ (w:=qo l) (p:=72057594037927936) (low:=0+(ac l 0).toNat * 1+(ac l 1).toNat * 256+(ac l 2).toNat * 65536+(ac l 3).toNat * 16777216+(ac l 4).toNat * 4294967296+(ac l 5).toNat * 1099511627776+(ac l 6).toNat * 281474976710656) (high:=0) (by decide) (by omega) h7 (by unfold qo;omega) (tY h (k:=63) (by decide))
 intro i hi
 have e:i=0∨i=1∨i=2∨i=3∨i=4∨i=5∨i=6∨i=7:=by omega
 rcases e with rfl | rfl | rfl | rfl | rfl | rfl | rfl | rfl<;>assumption
theorem pX {a b h:Nat} (hh:(a ||| b) &&& h=0):a &&& h=0∧b &&& h=0:=by
 rw [Nat.and_or_distrib_right] at hh
 exact ⟨Nat.eq_zero_of_le_zero (by rw [← hh];exact Nat.left_le_or),Nat.eq_zero_of_le_zero (by rw [← hh];exact Nat.right_le_or)⟩
theorem Lz {a:Nat} (ha:a<18446744073709551616):bO .u64 (a:Int) 9259542123273814144=((a &&& 9259542123273814144:Nat):Int):=by
 have h:(BitVec.ofInt 64 (a:Int) &&& BitVec.ofInt 64 ((9259542123273814144:Nat):Int)).toNat=a &&& 9259542123273814144:=xX ha (by decide)
 show IntKind.u64.wrap ((BitVec.ofInt 64 (a:Int) &&& BitVec.ofInt 64 ((9259542123273814144:Nat):Int)).toNat)=_
 rw [h,rf]
 have:a &&& 9259542123273814144≤a:=Nat.and_le_left
 omega
theorem Yz {a b:Nat} (ha:a<18446744073709551616) (hb:b<18446744073709551616):qE .u64 (a:Int) (b:Int)=((a ||| b:Nat):Int)∧a ||| b<18446744073709551616:=by
 have h:(BitVec.ofInt 64 (a:Int) ||| BitVec.ofInt 64 (b:Int)).toNat=a ||| b:=Mp ha hb
 have hl:a ||| b<2 ^ 64:=Nat.or_lt_two_pow ha hb
 refine ⟨?_,hl⟩
 show IntKind.u64.wrap ((BitVec.ofInt 64 (a:Int) ||| BitVec.ofInt 64 (b:Int)).toNat)=_
 rw [h,rf]
 omega
def v7 (l:List UInt8):Option Nat :=
 let x:=Lib.firstT (ac l 0).toNat
 let lo:=Lib.accLo (x / 16)
 let hi:=Lib.accHi (x / 16)
 if x % 8=2 then (if 2≤l.length∧lo≤(ac l 1).toNat∧(ac l 1).toNat≤hi then some 2 else none)
 else if x % 8=3 then (if 3≤l.length∧lo≤(ac l 1).toNat∧(ac l 1).toNat≤hi∧128≤(ac l 2).toNat∧(ac l 2).toNat≤191 then some 3 else none)
 else if x % 8=4 then (if 4≤l.length∧lo≤(ac l 1).toNat∧(ac l 1).toNat≤hi∧128≤(ac l 2).toNat∧(ac l 2).toNat≤191∧128≤(ac l 3).toNat∧(ac l 3).toNat≤191 then some 4 else none)
 else none
def ZA:Nat→List UInt8→Bool
 | 0,_=>true
 | _+1,[]=>true
 | f+1,b :: r=>if b.toNat<128 then ZA f r else match v7 (b :: r) with
  | some k=>ZA f ((b :: r).drop k)
  | none=>false
def uv (l:List UInt8):Bool:=ZA l.length l
theorem Fc {l:List UInt8} {k:Nat} (h:v7 l=some k):2≤k∧k≤l.length:=by
 unfold v7 at h
 simp only at h
 repeat' split at h
 all_goals first | (cases h;done) | (cases h;rename_i hh;exact ⟨by omega,hh.1⟩)
theorem xK:∀(f g:Nat) (l:List UInt8),l.length≤f→l.length≤g→ZA f l=ZA g l
 | 0,0,_,_,_=>rfl
 | 0,g+1,l,h,_=>by
  have:l=[]:=sc (by omega)
  subst this;rfl
 | f+1,0,l,_,h=>by
  have:l=[]:=sc (by omega)
  subst this;rfl
 | f+1,g+1,[],_,_=>rfl
 | f+1,g+1,b :: r,h1,h2=>by
  simp only [eA] at h1 h2
  simp only [ZA]
  split
  ·exact xK f g r (by omega) (by omega)
  ·cases hk:v7 (b :: r) with
   | none=>rfl
   | some k =>
    have:=Fc hk
    exact xK f g _ (by simp only [iE,eA];omega) (by simp only [iE,eA];omega)
theorem aej:uv []=true:=rfl
theorem Vw {l:List UInt8} (hl:0<l.length) (h:(ac l 0).toNat<128):uv l=uv (l.drop 1):=by
 cases l with
 | nil=>simp at hl
 | cons b r =>
  have h':b.toNat<128:=h
  simp only [uv,eA,ZA,List.drop_succ_cons,List.drop_zero]
  rw [ap h']
theorem aek {l:List UInt8} {k:Nat} (hl:0<l.length) (h:¬(ac l 0).toNat<128) (hk:v7 l=some k):uv l=uv (l.drop k):=by
 have hp:=Fc hk
 cases l with
 | nil=>simp at hl
 | cons b r =>
  have h':¬b.toNat<128:=h
  simp only [uv,eA,ZA]
  rw [ah h',hk]
  exact xK _ _ _ (by simp only [iE,eA];omega) (bt _)
theorem aei {l:List UInt8} (hl:0<l.length) (h:¬(ac l 0).toNat<128) (hk:v7 l=none):uv l=false:=by
 cases l with
 | nil=>simp at hl
 | cons b r =>
  have h':¬b.toNat<128:=h
  simp only [uv,eA,ZA]
  rw [ah h',hk]
theorem OF {l:List UInt8}:∀k,k≤l.length→(∀i,i<k→(ac l i).toNat<128)→uv l=uv (l.drop k)
 | 0,_,_=>rfl
 | k+1,hk,h=>by
  rw [OF k (by omega) (fun i hi=>h i (by omega)),Vw (by simp;omega) (by rw [KE];exact h k (by omega)),List.drop_drop]
theorem r_ {l:List UInt8} (hl:8≤l.length) (h:qo l &&& 9259542123273814144=0):uv l=uv (l.drop 8):=OF 8 hl (ZF h)
theorem c64 (b:UInt8):IntKind.u64.wrap (b.toNat:Int)=(b.toNat:Int):=by
 have:=b.toNat_lt
 rw [rf];omega
theorem aeq (l:List UInt8):qE .u64 (qE .u64 (qE .u64 (qE .u64 (qE .u64 (qE .u64 (qE .u64 ((ac l 0).toNat:Int) (jF .u64 ((ac l 1).toNat:Int) 8)) (jF .u64 ((ac l 2).toNat:Int) 16)) (jF .u64 ((ac l 3).toNat:Int) 24)) (jF .u64 ((ac l 4).toNat:Int) 32)) (jF .u64 ((ac l 5).toNat:Int) 40)) (jF .u64 ((ac l 6).toNat:Int) 48)) (jF .u64 ((ac l 7).toNat:Int) 56)=((qo l:Nat):Int):=by
 have h0:=(ac l 0).toNat_lt;have h1:=(ac l 1).toNat_lt;have h2:=(ac l 2).toNat_lt;have h3:=(ac l 3).toNat_lt
 have h4:=(ac l 4).toNat_lt;have h5:=(ac l 5).toNat_lt;have h6:=(ac l 6).toNat_lt;have h7:=(ac l 7).toNat_lt
 have e1:qE .u64 (((ac l 0).toNat:Nat):Int) (jF .u64 ((ac l 1).toNat:Int) 8)=(((ac l 0).toNat+(ac l 1).toNat * 256:Nat):Int):=EZ (s:=8) 256 (by decide) (by decide) (by omega) h1
 have e2:qE .u64 (((ac l 0).toNat+(ac l 1).toNat * 256:Nat):Int) (jF .u64 ((ac l 2).toNat:Int) 16)=(((ac l 0).toNat+(ac l 1).toNat * 256+(ac l 2).toNat * 65536:Nat):Int):=EZ (s:=16) 65536 (by decide) (by decide) (by omega) h2
 have e3:qE .u64 (((ac l 0).toNat+(ac l 1).toNat * 256+(ac l 2).toNat * 65536:Nat):Int) (jF .u64 ((ac l 3).toNat:Int) 24)=(((ac l 0).toNat+(ac l 1).toNat * 256+(ac l 2).toNat * 65536+(ac l 3).toNat * 16777216:Nat):Int):=EZ (s:=24) 16777216 (by decide) (by decide) (by omega) h3
 have e4:qE .u64 (((ac l 0).toNat+(ac l 1).toNat * 256+(ac l 2).toNat * 65536+(ac l 3).toNat * 16777216:Nat):Int) (jF .u64 ((ac l 4).toNat:Int) 32)=(((ac l 0).toNat+(ac l 1).toNat * 256+(ac l 2).toNat * 65536+(ac l 3).toNat * 16777216+(ac l 4).toNat * 4294967296:Nat):Int):=EZ (s:=32) 4294967296 (by decide) (by decide) (by omega) h4
 have e5:qE .u64 (((ac l 0).toNat+(ac l 1).toNat * 256+(ac l 2).toNat * 65536+(ac l 3).toNat * 16777216+(ac l 4).toNat * 4294967296:Nat):Int) (jF .u64 ((ac l 5).toNat:Int) 40)=(((ac l 0).toNat+(ac l 1).toNat * 256+(ac l 2).toNat * 65536+(ac l 3).toNat * 16777216+(ac l 4).toNat * 4294967296+(ac l 5).toNat * 1099511627776:Nat):Int):=EZ (s:=40) 1099511627776 (by decide) (by decide) (by omega) h5
 have e6:qE .u64 (((ac l 0).toNat+(ac l 1).toNat * 256+(ac l 2).toNat * 65536+(ac l 3).toNat * 16777216+(ac l 4).toNat * 4294967296+(ac l 5).toNat * 1099511627776:Nat):Int) (jF .u64 ((ac l 6).toNat:Int) 48)=(((ac l 0).toNat+(ac l 1).toNat * 256+(ac l 2).toNat * 65536+(ac l 3).toNat * 16777216+(ac l 4).toNat * 4294967296+(ac l 5).toNat * 1099511627776+(ac l 6).toNat * 281474976710656:Nat):Int):=EZ (s:=48) 281474976710656 (by decide) (by decide) (by omega) h6
 have e7:qE .u64 (((ac l 0).toNat+(ac l 1).toNat * 256+(ac l 2).toNat * 65536+(ac l 3).toNat * 16777216+(ac l 4).toNat * 4294967296+(ac l 5).toNat * 1099511627776+(ac l 6).toNat * 281474976710656:Nat):Int) (jF .u64 ((ac l 7).toNat:Int) 56)=(((ac l 0).toNat+(ac l 1).toNat * 256+(ac l 2).toNat * 65536+(ac l 3).toNat * 16777216+(ac l 4).toNat * 4294967296+(ac l 5).toNat * 1099511627776+(ac l 6).toNat * 281474976710656+(ac l 7).toNat * 72057594037927936:Nat):Int):=EZ (s:=56) 72057594037927936 (by decide) (by decide) (by omega) h7
 rw [e1,e2,e3,e4,e5,e6,e7]
 rfl
theorem iC (l:List UInt8) (h:8≤l.length):ao pg xB [.str l] (.int .u64 (qo l)):=by
 refine aL oE ?_
 simp only [oE,go_sem,c64]
 refine ⟨by omega,by omega,by omega,by omega,by omega,by omega,by omega,by omega,by omega,by omega,by omega,by omega,by omega,by omega,by omega,by omega,by omega,by omega,by omega,by omega,by omega,by omega,by omega,?_⟩
 exact aJ [] (by simp only [go_sem,aeq]) rfl
end Go.Proofs.YtdfofedlbljnhaaGreatDoor