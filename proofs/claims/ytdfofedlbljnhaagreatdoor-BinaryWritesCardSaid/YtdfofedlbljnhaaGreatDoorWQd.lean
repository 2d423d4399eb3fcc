import Derived.Test.YtdfofedlbljnhaaGreatDoorWQc
import Derived.Test.YtdfofedlbljnhaaGreatDoorWQi0
import Derived.Test.YtdfofedlbljnhaaGreatDoorWQi1
import Derived.Test.YtdfofedlbljnhaaGreatDoorWQi2
import Derived.Test.YtdfofedlbljnhaaGreatDoorWQi3
import Derived.Test.YtdfofedlbljnhaaGreatDoorWQi4
import Derived.Test.YtdfofedlbljnhaaGreatDoorWQi5
import Derived.Test.YtdfofedlbljnhaaGreatDoorWQi6
import Derived.Test.YtdfofedlbljnhaaGreatDoorWQi7
import Derived.Test.YtdfofedlbljnhaaGreatDoorWQi8
import Derived.Shelf.Unicode.DecodeSlow
import Derived.Shelf.Strings.Search3
import Derived.Shelf.Strings.Fields
import Derived.Test.YtdfofedlbljnhaaGreatDoorCards
import Derived.Test.YtdfofedlbljnhaaGreatDoorTie
import Derived.Deep.DeepHandedRow
import Derived.Deep.DeepWitnessRowRef
import Derived.Lib.LaidTab
import Derived.Lib.LaidU8T
import Derived.Shelf.Vars
import Derived.Lay
import Derived.Lib.ValidAsc
noncomputable section
set_option linter.all false
set_option maxRecDepth 100000
set_option maxHeartbeats 40000000
namespace Go.Proofs.YtdfofedlbljnhaaGreatDoor
open Go Go.Mw
def aiY:List AV:=(List.range 256).map λc=>.int .u8 (Lib.firstT c)
def aiZ:List AV:=(List.range 32).map λi=>.int .u8 (if i%2=0 then Lib.accLo (i/2)else Lib.accHi (i/2))
def z8{w:World}{b off:Nat}{v:Value}(h:w.cell? ⟨b,off,none⟩=some v):∃c t fr,w.heap[b]?=some (.cells c t fr)/\c[off]?=some v:=by
 unfold World.cell? at h;simp only at h;split at h
 .rename_i c t fr hb;exact⟨c,t,fr,hb,h⟩
 .cases h
def A6{w:World}{M:Nat->Prop}{b n:Nat}{f:Nat->Int}(hn:0<n)(h:∀j,j<n->w.cell? ⟨b,j,none⟩=some (.int .u8 (f j)))(hM:¬M b) :
  IRel M w (.pointer (some ⟨b,0,none⟩)) (.ip ((List.range n).map λj=>.int .u8 (f j))):=by
 obtain⟨c,t,fr,hb,_⟩:=z8 (h 0 hn);refine .ip b 0 c t fr _ (λj=>.int .u8 (f j)) hb hM (λj hj=>?_) (λj x hx=>?_)
 .simp at hj;obtain⟨c',t',fr',hb',hc⟩:=z8 (h j hj);rw[hb]at hb';cases hb';simpa using hc
 .simp only[ky,dV,OK]at hx;obtain⟨q,hq,rfl⟩:=hx;rw[OK]at hq;cases hq;exact .int _ _;have:=(jp.1 hq).1;simpa using this
def spT(c:Nat):Value:=.int .u8 (if Lib.isSp (UInt8.ofNat c)then 1 else 0)
def oV{w w':World}{b off:Nat}{v:Value}(h:w'.heap[b]? = w.heap[b]?)(hc:w.cell? ⟨b,off,none⟩=some v):w'.cell? ⟨b,off,none⟩=some v:=by
 rw[World.cell?_of_block (w:=w) h];exact hc
def B4{w:World}{b off:Nat}{v:Value}(h:w.cell? ⟨b,off,none⟩=some v):b<w.heap.size:=by
 obtain⟨c,t,fr,h1,_⟩:=z8 h;exact(wF.1 h1).1
def ai0:QQ where
 B b:=(b=0\/b=1)\/(b=3\/b=2)
 H w:=Lib.Utf8Tabs 0 1 w/\(∀c,c<256->w.cell? ⟨3,c,none⟩=some (spT c))/\∃m,w.cell? ⟨2,0,none⟩=some (.int .i64 m)
 env:=[(1000000+0,.ip aiY),(1000000+1,.ip aiZ)]
 rel w M h hM p hp:=by
  simp only[eA,wH,or_false]at hp;rcases hp with rfl|rfl
  .exact⟨by decide,A6 (by decide) (λj hj=>h.1.1 j hj) (hM 0 (.inl (.inl rfl)))⟩
  .refine⟨by decide,A6 (by decide) (λj hj=>?_) (hM 1 (.inl (.inr rfl)))⟩;obtain⟨h1,h2⟩:=h.1.2 (j/2) (by omega);by_cases h0:j%2=0
   .rw[aF h0];rw[show 2*(j/2)=j by omega]at h1;exact h1
   .rw[au h0];rw[show 2*(j/2)+1=j by omega]at h2;exact h2
 stay w w' h hk:=⟨⟨λc hc=>oV (hk _ (.inl (.inl rfl))) (h.1.1 c hc),λi hi=>⟨oV (hk _ (.inl (.inr rfl))) (h.1.2 i hi).1,oV (hk _ (.inl (.inr rfl))) (h.1.2 i hi).2⟩⟩,
  λc hc=>oV (hk 3 (.inr (.inl rfl))) (h.2.1 c hc),by obtain⟨m,hm⟩:=h.2.2;exact⟨m,oV (hk 2 (.inr (.inr rfl))) hm⟩⟩
 low w h b hb:=by
  rcases hb with(rfl|rfl)|(rfl|rfl)
  .exact B4 (h.1.1 0 (by decide))
  .exact B4 (h.1.2 0 (by decide)).1
  .exact B4 (h.2.1 0 (by decide))
  .obtain⟨m,hm⟩:=h.2.2;exact B4 hm
instance:bO Tryz.prog:=⟨ai0⟩
def aD(F:aB){f:FuncId}{args:List AV}{r:AV}(hi:jD pg F.body ⟨mQ 0 args,[]⟩ (AS F.res r))(hf:ny pg f=some F:=by kernel_rfl)(he:dB F.body=F.body:=by rfl)(hl:args.length=F.np:=by rfl):ac pg f args r:=Ml u6 hf he hl hi
def bT(F:aB){f:FuncId}{args:List AV}{σ:List (Nat×ao)}{Post:AV->List (Nat×ao)->Prop}(hi:jD pg F.body ⟨mQ 0 args,σ⟩ (mD F.res Post))(hf:ny pg f=some F:=by kernel_rfl)(he:dB F.body=F.body:=by rfl)(hl:args.length=F.np:=by rfl):aX pg f args σ (λid=>1000<=id/\id<2000) Post:=jy u6 hf he hl hi
open Go.ChangeShapes Go.WideShapes Go.ChangeAt Go.RowKit
def own:ownKnob Tryz.prog.godebug=none:=by kernel_rfl
def Xo:laidOutB Tryz.prog=true:=by kernel_rfl
abbrev NQ:List (String×DataW Unit):=[("unicode/utf8.acceptRanges",Rows.laid_unicode_utf8_acceptRanges),("unicode.White_Space",Rows.laid_unicode_White_Space),("strings.asciiSpace",Rows.laid_strings_asciiSpace),("unicode/utf8.first",Rows.laid_unicode_utf8_first)]
def spL:List Int:=(List.range 256).map λc=>if Lib.isSp (UInt8.ofNat c)then 1 else 0
def spD:(Rows.laid_strings_asciiSpace:DataW Unit)=Lib.tabData .u8 spL:=by kernel_rfl
def gSp:Tryz.prog.globalNamed "strings.asciiSpace" = some 3:=by kernel_rfl
def tSp:(Tryz.prog.globals[3]?).map (·.type)=some 325:=by kernel_rfl
def uSp:Tryz.prog.underlying 325=some (.array 256 5):=by kernel_rfl
def uU8:Tryz.prog.underlying 5=some (.int .u8):=by kernel_rfl
def cU8:Tryz.prog.cellsOf 5=1:=by kernel_rfl
def cSp:Tryz.prog.cellsOf 325=256:=by kernel_rfl
def agW {W:World} (h:laidMetH Tryz.prog NQ W):Lib.TabIs Tryz.prog W "strings.asciiSpace" .u8 spL:=by
 have h2:=Lib.laidMet.reads h (.tail _ (.tail _ (.head _)));rw[spD]at h2;obtain⟨g',t',cs,fuel,p,hg',ht',hvar,hd⟩:=h2;obtain rfl:=Er (gSp.symm.trans hg');obtain rfl:=Er (tSp.symm.trans ht');unfold Lib.TabIs;rw[hvar,<-Lib.cells_of_tab uSp uU8 cU8 cSp hd]
def ren:Go.Shelf.Ren:=⟨λx=>x,λt=>if t=119 then 325 else if t=138 then 327 else if t=139 then 328 else 5,λg=>if g=3 then 0 else 1⟩
def u8t:U8Types Tryz.prog ren:=⟨by kernel_rfl,by kernel_rfl,by kernel_rfl,by kernel_rfl⟩
def u8x:U8Extra Tryz.prog ren:=⟨by kernel_rfl,by kernel_rfl,by kernel_rfl,by kernel_rfl,by kernel_rfl,by kernel_rfl,by kernel_rfl⟩
def ahB:(Rows.laid_unicode_utf8_acceptRanges:DataW Unit)=Lib.acceptData:=by kernel_rfl
def ahT:Rows.laid_unicode_utf8_first=Lib.firstData:=by kernel_rfl
def adE{W:World}(h:laidMetH Tryz.prog NQ W):Lib.Utf8Tabs 0 1 W:=by
 have h1:=Lib.laidMet.reads h (.head _);have h2:=Lib.laidMet.reads h (.tail _ (.tail _ (.tail _ (.head _))));rw[ahB]at h1;rw[ahT]at h2;exact utf8Tabs_of_readsT u8t u8x h2 h1
def adr(c:Nat)(hc:c<256):Value.int .u8 (spL.getD c 0)=spT c:=by
 simp[spL,spT,List.getD,hc]
def Y6{W:World}(h:laidMetH Tryz.prog NQ W)(hs:W.ShapedOpen Tryz.prog):(bO.T Tryz.prog).H W :=
 ⟨adE h,λc hc=>by rw[(agW h).cell gSp c (by simpa[spL]using hc),adr c hc],
 Go.Proofs.cell_of_shapedOpen_int (g:=2) (t:=3) (k:=.i64) (zero:=#[.int .i64 0]) hs (of_decide_eq_true (by kernel_rfl)) (by kernel_rfl) rfl (by kernel_rfl) (by kernel_rfl) (by kernel_rfl)⟩
abbrev Ak(os:Os):World:=World.laidAll Tryz.prog os NQ
def WJ{P:Program}(h:∀fn∈P.funcs.toList,fn.goes=false)(c:OpenClaim)(hs:c.start = .entering):false=c.goesBy P:=by
 have k1:∀f:FuncId,(P.funcs[f]?).any Func.goes=false:=λf=>by
  cases hf:P.funcs[f]? with
  | none=>rfl
  | some fn=>exact h fn (by
    obtain⟨h1,rfl⟩:=wF.1 hf;exact Array.getElem_mem_toList h1)
 have key:∀f:FuncId,P.goes f=false:=λf=>by
  unfold Program.goes;have e1:(P.closure f).any (λg=>(P.funcs[g]?).any Func.goes)=false:=vB.2 λg _=>by rw[k1 g];decide
  have e2:P.funcs.any Func.goes=false:=by
   rw[<-Array.any_toList];exact vB.2 λfn hfn=>by rw[h fn hfn];decide
  rw[e1,e2,Bool.and_false,Bool.or_false]
 unfold OpenClaim.goesBy Program.goesAt Program.goesFrom;rw[hs];cases P.funcNamed c.func with
 | none=>rfl
 | some f=>simp only[Option.any_some,key,Bool.or_false]
def RJ{α:Type}{p:α->Bool}(n:Nat):∀(k:Nat)(l:List α),(∀i,i<k->((l.drop (i*n)).take n).all p=true)->l.length<=k*n->∀x∈l,p x=true
 | 0,l,_,hl,x,hx=>by
  have:l=[]:=zU (by omega);subst this;cases hx
 | k+1,l,h,hl,x,hx=>by
  have h0:=h 0 (by omega);rw[Nat.zero_mul,M8]at h0
  have ih:=RJ n k (l.drop n) (λi hi=>by
   have:=h (i+1) (by omega);rw[Ev,show n+i*n=(i+1)*n by rw[Nat.succ_mul,Nat.add_comm]];exact this) (by rw[jJ];rw[Nat.succ_mul]at hl;omega)
  rcases f9.1 (by rw[IS n l];exact hx)with q|q
  .exact fz.1 h0 x q
  .exact ih x q
def ahW:((Tryz.prog.funcs.toList.drop (0*40)).take 40).all (λfn=>!fn.goes)=true:=by kernel_rfl
def ahX:((Tryz.prog.funcs.toList.drop (1*40)).take 40).all (λfn=>!fn.goes)=true:=by kernel_rfl
def ahY:((Tryz.prog.funcs.toList.drop (2*40)).take 40).all (λfn=>!fn.goes)=true:=by kernel_rfl
def ahZ:((Tryz.prog.funcs.toList.drop (3*40)).take 40).all (λfn=>!fn.goes)=true:=by kernel_rfl
def ah0:((Tryz.prog.funcs.toList.drop (4*40)).take 40).all (λfn=>!fn.goes)=true:=by kernel_rfl
def ah1:((Tryz.prog.funcs.toList.drop (5*40)).take 40).all (λfn=>!fn.goes)=true:=by kernel_rfl
def ah2:((Tryz.prog.funcs.toList.drop (6*40)).take 40).all (λfn=>!fn.goes)=true:=by kernel_rfl
def ah3:((Tryz.prog.funcs.toList.drop (7*40)).take 40).all (λfn=>!fn.goes)=true:=by kernel_rfl
def ah4:((Tryz.prog.funcs.toList.drop (8*40)).take 40).all (λfn=>!fn.goes)=true:=by kernel_rfl
def ah5:((Tryz.prog.funcs.toList.drop (9*40)).take 40).all (λfn=>!fn.goes)=true:=by kernel_rfl
def afj:((Tryz.prog.funcs.toList.drop (10*40)).take 40).all (λfn=>!fn.goes)=true:=by kernel_rfl
def ah6:∀fn∈Tryz.prog.funcs.toList,fn.goes=false:=λfn h=>by
 have:=RJ 40 11 Tryz.prog.funcs.toList (p:=λfn=>!fn.goes) (λi hi=>by
  rcases(show i=0\/i=1\/i=2\/i=3\/i=4\/i=5\/i=6\/i=7\/i=8\/i=9\/i=10 by omega)with rfl|rfl|rfl|rfl|rfl|rfl|rfl|rfl|rfl|rfl|rfl
  .exact ahW
  .exact ahX
  .exact ahY
  .exact ahZ
  .exact ah0
  .exact ah1
  .exact ah2
  .exact ah3
  .exact ah4
  .exact ah5
  .exact afj) (of_decide_eq_true (by kernel_rfl)) fn h
 simpa using this
def dY(b:UInt8):List AV:=[.int .u8 b.toNat]
def aeS(b:UInt8):dY b=[.int .u8 b.toNat]:=rfl
attribute[go_sem] aeS
def I1(b:List UInt8):Nat->Nat->Int×Nat
 | 0,_=>(4,0)
 | f+1,i=>if i>=b.length then(3,0)else if 128<=(ah b i).toNat then I1 b f (i+1)else(0,i)
def mst(bits:Nat):Nat:=(bits+6)/7
def qq(b:List UInt8)(bits:Nat):Int:=(I1 b (mst bits) 0).1
def dG(b:List UInt8)(bits:Nat):Nat:=(I1 b (mst bits) 0).2
def G8(bits i:Nat):Nat:=if i+1=mst bits then bits-7*i else 7
def iu:List UInt8->Nat
 | []=>0
 | b::r=>b.toNat%128+128*iu r
def JO(b:List UInt8):∀f i,i<=b.length->((I1 b f i).1=0/\(I1 b f i).2<b.length/\i<=(I1 b f i).2/\(I1 b f i).2<i+f/\(ah b (I1 b f i).2).toNat<128)\/((I1 b f i).1=3\/(I1 b f i).1=4)/\(I1 b f i).2=0
 | 0,i,_=>.inr ⟨.inr rfl,rfl⟩
 | f+1,i,hi=>by
  simp only[I1];by_cases h1:i>=b.length
  .rw[aF h1];exact .inr ⟨.inl rfl,rfl⟩
  .rw[au h1];by_cases h2:128<=(ah b i).toNat
   .rw[aF h2];rcases JO b f (i+1) (by omega)with⟨g1,g2,g3,g4,g5⟩|h
    .exact .inl ⟨g1,g2,by omega,by omega,g5⟩
    .exact .inr h
   .rw[au h2];exact .inl ⟨rfl,by simp;omega,by simp,by simp,by simp;omega⟩
def re(b:List UInt8)(bits:Nat):(qq b bits=0/\dG b bits<b.length/\dG b bits<mst bits/\(ah b (dG b bits)).toNat<128)\/(qq b bits=3\/qq b bits=4)/\dG b bits=0:=by
 rcases JO b (mst bits) 0 (cQ _)with⟨g1,g2,g3,g4,g5⟩|h
 .exact .inl ⟨g1,g2,by rw[AJ]at g4;exact g4,g5⟩
 .exact .inr h
def vy(n:Int):IntKind.u8.wrap n=n%256:=by simp[IntKind.wrap,IntKind.bits,IntKind.signed]
def En(n:Int):IntKind.u64.wrap n=n%18446744073709551616:=by simp[IntKind.wrap,IntKind.bits,IntKind.signed]
def Em(n:Int):IntKind.i64.wrap n=(n+9223372036854775808)%18446744073709551616-9223372036854775808:=by
 simp[IntKind.wrap,IntKind.bits,IntKind.signed];split<;>omega
def ag8(n:Int):IntKind.i32.wrap n=(n+2147483648)%4294967296-2147483648:=by
 simp[IntKind.wrap,IntKind.bits,IntKind.signed];split<;>omega
def G5(k:Nat)(a:Nat):BitVec.ofInt k (a:Int)=BitVec.ofNat k a:=BitVec.ofInt_natCast k a
def T7{k a b:Nat}(ha:a<2^k)(hb:b<2^k):(BitVec.ofInt k (a:Int) ||| BitVec.ofInt k (b:Int)).toNat=a ||| b:=by
 rw[G5,G5,BitVec.toNat_or,BitVec.toNat_ofNat,BitVec.toNat_ofNat,Ew ha,Ew hb]
def G0{k a b:Nat}(ha:a<2^k)(hb:b<2^k):(BitVec.ofInt k (a:Int) &&& BitVec.ofInt k (b:Int)).toNat=a &&& b:=by
 rw[G5,G5,BitVec.toNat_and,BitVec.toNat_ofNat,BitVec.toNat_ofNat,Ew ha,Ew hb]
def RA{x:Nat}(hx:x<256):bU .u8 (x:Int) 127=((x%128:Nat):Int):=by
 have:(BitVec.ofInt 8 (x:Int) &&& BitVec.ofInt 8 ((127:Nat):Int)).toNat=x &&& 127:=G0 hx (by decide);show IntKind.u8.wrap ((BitVec.ofInt 8 (x:Int) &&& BitVec.ofInt 8 ((127:Nat):Int)).toNat)=_;rw[this,show(127:Nat)=2^7-1 from rfl,Nat.and_two_pow_sub_one_eq_mod,vy];omega
set_option maxRecDepth 100000 in
def acz{x:Nat}(hx:x<256):x ||| 128=x%128+128:=by
 have key:∀y:Fin 256,y.val ||| 128=y.val%128+128:=by decide
 exact key ⟨x,hx⟩
def ZN{x:Nat}(hx:x<256):We .u8 (x:Int) 128=((x%128+128:Nat):Int):=by
 have:(BitVec.ofInt 8 (x:Int) ||| BitVec.ofInt 8 ((128:Nat):Int)).toNat=x ||| 128:=T7 hx (by decide);show IntKind.u8.wrap ((BitVec.ofInt 8 (x:Int) ||| BitVec.ofInt 8 ((128:Nat):Int)).toNat)=_;rw[this,acz hx,vy];omega
def U0{y s:Nat}(hs:s<64):Jf .u64 (y:Int) (s:Int)=((y*2^s%18446744073709551616:Nat):Int):=by
 unfold Jf;rw[mz,show min s IntKind.u64.bits=s from IR (by show s<=64;omega),En,Int.natCast_emod (_*_),Int.natCast_mul,Int.natCast_pow];rfl
def DN{n y s:Nat}(hs:s<64)(hn:n<2^s):We .u64 (n:Int) (((y*2^s)%18446744073709551616:Nat):Int)=(((n+y*2^s)%18446744073709551616:Nat):Int):=by
 have hp:2^s<=2^63:=K9 (by decide) (by omega);have e64:18446744073709551616=2^s*2^(64-s):=by rw[<-Nat.pow_add,show s+(64-s)=64 by omega]
 have hm:(y*2^s)%18446744073709551616=2^s*(y%2^(64-s)):=by rw[e64,Nat.mul_comm y,Nat.mul_mod_mul_left]
 have hlt:y%2^(64-s)<2^(64-s):=Nat.mod_lt _ (Nat.two_pow_pos _);have hsum:2^s*(y%2^(64-s))+n<18446744073709551616:=by
  rw[e64];have h1:2^s*(y%2^(64-s)+1)<=2^s*2^(64-s):=Nat.mul_le_mul_left _ hlt;rw[Nat.mul_add,zW]at h1;omega
 have h1:(BitVec.ofInt 64 (n:Int) ||| BitVec.ofInt 64 (((y*2^s)%18446744073709551616:Nat):Int)).toNat=n ||| ((y*2^s)%18446744073709551616) :=
  T7 (by omega) (Nat.mod_lt _ (by decide))
 show IntKind.u64.wrap ((BitVec.ofInt 64 (n:Int) ||| BitVec.ofInt 64 (((y*2^s)%18446744073709551616:Nat):Int)).toNat)=_;rw[h1,hm,Nat.or_comm,<-Nat.two_pow_add_eq_or_of_lt hn,En];have h2:(n+y*2^s)%18446744073709551616=2^s*(y%2^(64-s))+n:=by
  rw[Nat.add_mod,hm,Ew (show n<18446744073709551616 by omega),Ew (by omega)];omega
 rw[h2];omega
def Vh(l m:List UInt8):iu (l++m)=iu l+128^l.length*iu m:=by
 induction l with
 | nil=>simp[iu]
 | cons b l ih =>
  simp only[k7,iu,ih,aT,Nat.pow_succ,Nat.mul_add];rw[Nat.mul_comm (128^l.length) 128,Nat.mul_assoc];omega
def Zb(l:List UInt8):iu l<128^l.length:=by
 induction l with
 | nil=>simp[iu]
 | cons b l ih =>
  simp only[iu,aT,Nat.pow_succ];have:=Nat.mod_lt b.toNat (show 128>0 by decide);omega
def GL{b:List UInt8}{i:Nat}(h:i<b.length):iu (b.take (i+1))=iu (b.take i)+(ah b i).toNat%128*2^(7*i):=by
 rw[Eu,pd h,Et,Vh];simp only[iu,Nat.mul_zero,Nat.add_zero,pA,IR (Nat.le_of_lt h)];rw[show(128:Nat)=2^7 from rfl,<-Nat.pow_mul,Nat.mul_comm (2^(7*i))]
def ou{b:List UInt8}{i:Nat}(h:i<=b.length):iu (b.take i)<2^(7*i):=by
 have:=Zb (b.take i);rw[pA,IR h,show(128:Nat)=2^7 from rfl,<-Nat.pow_mul]at this;exact this
def Ch(k:IntKind){x s:Nat}(hs:s<=k.bits):Cx k (x:Int) (s:Int)=((x/2^s:Nat):Int):=by
 unfold Cx;rw[mz,IR hs,Int.fdiv_eq_ediv_of_nonneg _ (by exact Int.le_of_lt (Int.pow_pos (by decide)))];rw[Int.natCast_ediv,Int.natCast_pow];rfl
set_option maxRecDepth 100000 in
def aaM{x:Nat}(hx:x<256):(x &&& 64 != 0)=decide (64<=x%128):=by
 have key:∀y:Fin 256,(y.val &&& 64 != 0)=decide (64<=y.val%128):=by decide
 exact key ⟨x,hx⟩
def Nl{x:Nat}(hx:x<256):(bU .u8 (x:Int) 64 != 0)=decide (64<=x%128):=by
 have:(BitVec.ofInt 8 (x:Int) &&& BitVec.ofInt 8 ((64:Nat):Int)).toNat=x &&& 64:=G0 hx (by decide);have e:bU .u8 (x:Int) 64=((x &&& 64:Nat):Int):=by
  show IntKind.u8.wrap ((BitVec.ofInt 8 (x:Int) &&& BitVec.ofInt 8 ((64:Nat):Int)).toNat)=_;rw[this,vy];have:x &&& 64<=64:=Nat.and_le_right;omega
 rw[e,<-aaM hx];by_cases h:x &&& 64=0
 .simp[h]
 .have h1:((x &&& 64:Nat):Int)≠0:=by omega
  simp only[bne,iS.2 h1,iS.2 h]
def jh(b:List UInt8)(bits:Nat):Nat×Nat×Int :=
 if qq b bits≠0 then(0,0,qq b bits)else
 if(ah b (dG b bits)).toNat/2^G8 bits (dG b bits)≠0 then(0,0,4)else
 (iu (b.take (dG b bits+1))%18446744073709551616,dG b bits+1,0)
def MM(b:List UInt8)(i:Nat):Int:=IntKind.i64.wrap ((iu (b.take (i+1)):Int)-(if 64<=(ah b i).toNat%128 then 2^(7*(i+1))else 0))
def iK(b:List UInt8)(bits:Nat):Int×Nat×Int :=
 if qq b bits≠0 then(0,0,qq b bits)else
 if(ah b (dG b bits)).toNat/2^(G8 bits (dG b bits)-1)≠0/\(ah b (dG b bits)).toNat/2^(G8 bits (dG b bits)-1)≠127/2^(G8 bits (dG b bits)-1)then(0,0,4)else
 (MM b (dG b bits),dG b bits+1,0)
def RL{bits i:Nat}(h:1<=bits/\bits<=64)(hi:i<mst bits):1<=G8 bits i/\G8 bits i<=7:=by
 unfold G8 mst at*;split<;>omega
def TG{bits:Nat}(h:1<=bits/\bits<=64):mst bits<=10:=by unfold mst;omega
def vL{a b:Int}(h:a%18446744073709551616=b%18446744073709551616):IntKind.i64.wrap a=IntKind.i64.wrap b:=by
 rw[Em,Em];omega
def ay(n:Nat):List UInt8:=if n<128 then[UInt8.ofNat n]else UInt8.ofNat (n%128+128)::ay (n/128)
termination_by n
decreasing_by omega
def ej(n:Int):List UInt8:=if -64<=n/\n<=63 then[UInt8.ofNat (n%128).toNat]else UInt8.ofNat ((n%128).toNat+128)::ej (n/128)
termination_by n.natAbs
decreasing_by omega
def zp{n:Nat}(h:n<128):ay n=[UInt8.ofNat n]:=by rw[ay,aF h]
def Cb{n:Nat}(h:¬n<128):ay n=UInt8.ofNat (n%128+128)::ay (n/128):=by rw[ay,au h]
def Ca{n:Int}(h:-64<=n/\n<=63):ej n=[UInt8.ofNat (n%128).toNat]:=by rw[ej,aF h]
def In{n:Int}(h:¬(-64<=n/\n<=63)):ej n=UInt8.ofNat ((n%128).toNat+128)::ej (n/128):=by rw[ej,au h]
def ofNat_toNat{n:Nat}(h:n<256):(UInt8.ofNat n).toNat=n:=by simp[UInt8.toNat_ofNat',Ew h]
def yY{n:Nat}(h:n<256):dY (UInt8.ofNat n)=[.int .u8 n]:=by rw[aeS,ofNat_toNat h]
def rA{k:Nat}:∀{n:Nat},n<128^(k+1)->(ay n).length<=k+1:=by
 induction k with
 | zero=>intro n h;rw[zp (by simpa using h)];simp
 | succ k ih =>
  intro n h;by_cases h1:n<128
  .rw[zp h1];simp
  .rw[Cb h1];have:=ih (n:=n/128) (by rw[Nat.pow_succ]at h;omega);simp;omega
def Um(n:Nat):0<(ay n).length:=by
 by_cases h1:n<128
 .rw[zp h1];simp
 .rw[Cb h1];simp
def oE(n:Int):List AV:=[.int .i64 n]
def dm(n:Int):oE n=[.int .i64 n]:=rfl
attribute[go_sem] dm
structure bj where
 op:Int
 a:Int
 b:Int
 n:Int
 k:Int
 v:Int
 x:Int
 ty:List Int
 lb:List Int
def di(i:bj):AV:=.agg [.int .i64 i.op,.int .i64 i.a,.int .i64 i.b,.int .u64 i.n,.int .i64 i.k,.int .i64 i.v,.int .i64 i.x,.sl 1 (i.ty.map oE),.sl 1 (i.lb.map oE)]
def cL(i:bj):di i = .agg [.int .i64 i.op,.int .i64 i.a,.int .i64 i.b,.int .u64 i.n,.int .i64 i.k,.int .i64 i.v,.int .i64 i.x,.sl 1 (i.ty.map oE),.sl 1 (i.lb.map oE)]:=rfl
def aS(i:bj):List AV:=[.int .i64 i.op,.int .i64 i.a,.int .i64 i.b,.int .u64 i.n,.int .i64 i.k,.int .i64 i.v,.int .i64 i.x,.sl 1 (i.ty.map oE),.sl 1 (i.lb.map oE)]
instance:Inhabited bj:=⟨⟨0,0,0,0,0,0,0,[],[]⟩⟩
structure Ft where
 ps:List Int
 rs:List Int
structure Lm where
 mn:Int
 mx:Int
 hs:Bool
structure Gl where
 v:Int
 mu:Bool
structure Im where
 m:List UInt8
 n:List UInt8
 k:Int
 f:Int
 te:Int
 tl:Lm
 me:Lm
 g:Gl
structure Cd where
 t:Int
 lo:List Int
 b:List bj
structure Tb where
 e:Int
 l:Lm
structure Gd where
 g:Gl
 i:List bj
structure Ex where
 n:List UInt8
 k:Int
 i:Int
structure El where
 mo:Int
 tb:Int
 o:List bj
 ty:Int
 it:List (List bj)
structure Da where
 mo:Int
 me:Int
 o:List bj
 b:List UInt8
structure Cu where
 af:Int
 n:List UInt8
 b:List UInt8
structure Md where
 ts:List Ft
 ims:List Im
 fs:List Cd
 tbs:List Tb
 ms:List Lm
 gs:List Gd
 exs:List Ex
 hs:Bool
 st:Int
 els:List El
 ds:List Da
 cs:List Cu
instance:Inhabited Ft:=⟨⟨[],[]⟩⟩
instance:Inhabited Lm:=⟨⟨0,0,false⟩⟩
instance:Inhabited Gl:=⟨⟨0,false⟩⟩
instance:Inhabited Im:=⟨⟨[],[],0,0,0,default,default,default⟩⟩
instance:Inhabited Cd:=⟨⟨0,[],[]⟩⟩
instance:Inhabited Tb:=⟨⟨0,default⟩⟩
instance:Inhabited Gd:=⟨⟨default,[]⟩⟩
instance:Inhabited Ex:=⟨⟨[],0,0⟩⟩
instance:Inhabited El:=⟨⟨0,0,[],0,[]⟩⟩
instance:Inhabited Da:=⟨⟨0,0,[],[]⟩⟩
instance:Inhabited Cu:=⟨⟨0,[],[]⟩⟩
instance:Inhabited Md:=⟨⟨[],[],[],[],[],[],[],false,0,[],[],[]⟩⟩
def vK(x:Ft):List AV:=[.sl 1 (x.ps.map oE),.sl 1 (x.rs.map oE)]
def p7(x:Lm):List AV:=[.int .i64 x.mn,.int .i64 x.mx,.bool x.hs]
def Hm(x:Gl):List AV:=[.int .i64 x.v,.bool x.mu]
def vM(x:Im):List AV:=[.str x.m,.str x.n,.int .i64 x.k,.int .i64 x.f,.int .i64 x.te,.int .i64 x.tl.mn,.int .i64 x.tl.mx,.bool x.tl.hs,.int .i64 x.me.mn,.int .i64 x.me.mx,.bool x.me.hs,.int .i64 x.g.v,.bool x.g.mu]
def qB(x:Cd):List AV:=[.int .i64 x.t,.sl 1 (x.lo.map oE),.sl 9 (x.b.map aS)]
def xx(x:Tb):List AV:=[.int .i64 x.e,.int .i64 x.l.mn,.int .i64 x.l.mx,.bool x.l.hs]
def zX(x:Gd):List AV:=[.int .i64 x.g.v,.bool x.g.mu,.sl 9 (x.i.map aS)]
def y6(x:Ex):List AV:=[.str x.n,.int .i64 x.k,.int .i64 x.i]
def jY(l:List bj):List AV:=[.sl 9 (l.map aS)]
def fR(x:El):List AV:=[.int .i64 x.mo,.int .i64 x.tb,.sl 9 (x.o.map aS),.int .i64 x.ty,.sl 1 (x.it.map jY)]
def nz(x:Da):List AV:=[.int .i64 x.mo,.int .i64 x.me,.sl 9 (x.o.map aS),.sl 1 (x.b.map dY)]
def CB(x:Cu):List AV:=[.int .i64 x.af,.str x.n,.sl 1 (x.b.map dY)]
def nZ(x:Md):List AV:=[.sl 2 (x.ts.map vK),.sl 13 (x.ims.map vM),.sl 3 (x.fs.map qB),.sl 4 (x.tbs.map xx),.sl 3 (x.ms.map p7),.sl 3 (x.gs.map zX),.sl 3 (x.exs.map y6),.bool x.hs,.int .i64 x.st,.sl 5 (x.els.map fR),.sl 4 (x.ds.map nz),.sl 3 (x.cs.map CB)]
def du(x:Ft):vK x=[.sl 1 (x.ps.map oE),.sl 1 (x.rs.map oE)]:=rfl
def cC(x:Lm):p7 x=[.int .i64 x.mn,.int .i64 x.mx,.bool x.hs]:=rfl
def cP(x:Im):vM x=[.str x.m,.str x.n,.int .i64 x.k,.int .i64 x.f,.int .i64 x.te,.int .i64 x.tl.mn,.int .i64 x.tl.mx,.bool x.tl.hs,.int .i64 x.me.mn,.int .i64 x.me.mx,.bool x.me.hs,.int .i64 x.g.v,.bool x.g.mu]:=rfl
def cK(x:Cd):qB x=[.int .i64 x.t,.sl 1 (x.lo.map oE),.sl 9 (x.b.map aS)]:=rfl
def df(x:Tb):xx x=[.int .i64 x.e,.int .i64 x.l.mn,.int .i64 x.l.mx,.bool x.l.hs]:=rfl
def s8(x:Gd):zX x=[.int .i64 x.g.v,.bool x.g.mu,.sl 9 (x.i.map aS)]:=rfl
def fU(x:Ex):y6 x=[.str x.n,.int .i64 x.k,.int .i64 x.i]:=rfl
def iz(l:List bj):jY l=[.sl 9 (l.map aS)]:=rfl
def bh(x:El):fR x=[.int .i64 x.mo,.int .i64 x.tb,.sl 9 (x.o.map aS),.int .i64 x.ty,.sl 1 (x.it.map jY)]:=rfl
def ef(x:Da):nz x=[.int .i64 x.mo,.int .i64 x.me,.sl 9 (x.o.map aS),.sl 1 (x.b.map dY)]:=rfl
def eS(x:Cu):CB x=[.int .i64 x.af,.str x.n,.sl 1 (x.b.map dY)]:=rfl
def bC(x:Md):nZ x=[.sl 2 (x.ts.map vK),.sl 13 (x.ims.map vM),.sl 3 (x.fs.map qB),.sl 4 (x.tbs.map xx),.sl 3 (x.ms.map p7),.sl 3 (x.gs.map zX),.sl 3 (x.exs.map y6),.bool x.hs,.int .i64 x.st,.sl 5 (x.els.map fR),.sl 4 (x.ds.map nz),.sl 3 (x.cs.map CB)]:=rfl
def cY(x:Md):AV:=.agg (nZ x)
def bL{α:Type}(p:Nat->α->Prop)(B:Nat)(l:List α):Prop:=l.length<=B/\∀a∈l,p B a
def IU{α:Type}(τ:Ty)(f:α->List AV)(p:Nat->α->Prop):Prop:=∀r,τ.ok r->∃a,bg Nd r (f a)/\p maxLen a/\∀B,τ.bd B r->p B a
def Z1{α:Type}{τ:Ty}{f:α->List AV}{p:Nat->α->Prop}(h:IU τ f p):∀{rows:List (List AV)},(∀r∈rows,τ.ok r)->∃l:List α,bg (bg Nd) rows (l.map f)/\(∀a∈l,p maxLen a)/\∀B,(∀r∈rows,τ.bd B r)->∀a∈l,p B a
 | [],_=>⟨[],trivial,(λa h=>by cases h),(λ_ _ a h=>by cases h)⟩
 | r::rows,hr=>by
  obtain⟨a,h1,h2,h3⟩:=h r (hr r (by simp));obtain⟨l,g1,g2,g3⟩:=Z1 h (rows:=rows) λr hr'=>hr r (by simp[hr']);refine⟨a::l,⟨h1,g1⟩,λb hb=>?_,λB hB b hb=>?_⟩
  .rcases eA.1 hb with rfl|hb
   .exact h2
   .exact g2 b hb
  .rcases eA.1 hb with rfl|hb
   .exact h3 B (hB r (by simp))
   .exact g3 B (λr hr'=>hB r (by simp[hr'])) b hb
def H2{st:Nat}{rows rows':List (List AV)}(h:bg (bg Nd) rows rows'):Nd (.sl st rows) (.sl st rows'):=by
 refine .sl st _ _ h.length (λi r r' h1 h2=>?_) (λi j r r' x y h1 h2 h3 h4=>?_)
 .obtain⟨a,e1,e2⟩:=h.get h2;obtain rfl:=Er (h1.symm.trans e1);exact e2.length
 .obtain⟨a,e1,e2⟩:=h.get h2;obtain rfl:=Er (h1.symm.trans e1);obtain⟨b,e3,e4⟩:=e2.get h4;obtain rfl:=Er (h3.symm.trans e3);exact e4
def D_{α:Type}{τ:Ty}{f:α->List AV}{p:Nat->α->Prop}(h:IU τ f p){r:List AV}(hr:(Ty.sl τ).ok r):∃x l,r=[x]/\Nd x (.sl τ.n (l.map f))/\bL p maxLen l/\∀B,(Ty.sl τ).bd B [x]->bL p B l:=by
 rcases hr with rfl|⟨rows,rfl,h2,h3⟩
 .exact⟨_,[],rfl,.nl _,⟨cQ _,λa h=>by cases h⟩,λB _=>⟨cQ _,λa h=>by cases h⟩⟩
 .obtain⟨l,g1,g2,g3⟩:=Z1 h h3;have hl:=g1.length;rw[cU]at hl;refine⟨_,l,rfl,H2 g1,⟨by omega,g2⟩,λB hB=>?_⟩;obtain⟨q1,q2⟩:=hB _ _ rfl;exact⟨by omega,g3 B q2⟩
def adF{n:Int}(h:(Lit.int .u8 n).wf=true):0<=n/\n<=255:=by simpa[Lit.wf,IntKind.min,IntKind.max,IntKind.signed,IntKind.bits]using h
def OH{n:Int}(h:(Lit.int .u64 n).wf=true):0<=n/\n<18446744073709551616:=by
 have:0<=n/\n<=18446744073709551615:=by simpa[Lit.wf,IntKind.min,IntKind.max,IntKind.signed,IntKind.bits]using h
 omega
def XP{α:Type}(_:Nat)(_:α):Prop:=True
def Jo:IU (.int .i64) oE XP:=λr h=>by
 obtain⟨n,rfl,_⟩:=h;exact⟨n,⟨.rfl _,trivial⟩,trivial,λ_ _=>trivial⟩
def Zr:IU (.int .u8) dY XP:=λr h=>by
 obtain⟨n,rfl,hw⟩:=h;have hn:=adF hw;refine⟨UInt8.ofNat n.toNat,?_,trivial,λ_ _=>trivial⟩;rw[yY (by omega),show((n.toNat:Nat):Int)=n by omega];exact⟨.rfl _,trivial⟩
def Ek:Ty:=.cons (.int .i64) (.cons (.int .i64) (.cons (.int .i64) (.cons (.int .u64) (.cons (.cons (.int .i64) (.cons (.int .i64) (.cons (.int .i64) .nil))) (.cons (.sl (.int .i64)) (.cons (.sl (.int .i64)) .nil))))))
def G2(B:Nat)(x:bj):Prop:=(0<=x.n/\x.n<18446744073709551616)/\bL XP B x.ty/\bL XP B x.lb
def CC:IU Ek aS G2:=λr h=>by
 obtain⟨_,_,rfl,⟨op,rfl,w_op⟩,_,_,rfl,⟨a,rfl,w_a⟩,_,_,rfl,⟨b,rfl,w_b⟩,_,_,rfl,⟨n,rfl,w_n⟩,_,_,rfl,⟨_,_,rfl,⟨k,rfl,w_k⟩,_,_,rfl,⟨v,rfl,w_v⟩,_,_,rfl,⟨z,rfl,w_z⟩,rfl⟩,_,_,rfl,h_ty,_,_,rfl,h_lb,rfl⟩:=h;obtain⟨x_ty,l_ty,rfl,d_ty,m_ty,b_ty⟩:=D_ Jo h_ty;obtain⟨x_lb,l_lb,rfl,d_lb,m_lb,b_lb⟩:=D_ Jo h_lb;exact⟨⟨op,a,b,n,k,v,z,l_ty,l_lb⟩,⟨.rfl _,.rfl _,.rfl _,.rfl _,.rfl _,.rfl _,.rfl _,d_ty,d_lb,trivial⟩,⟨OH w_n,m_ty,m_lb⟩,λB hB=>⟨OH w_n,b_ty B hB.2.2.2.2.2.1,b_lb B hB.2.2.2.2.2.2.1⟩⟩
def Z9:Ty:=.cons (.sl (.int .i64)) (.cons (.sl (.int .i64)) .nil)
def aeK(B:Nat)(x:Ft):Prop:=bL XP B x.ps/\bL XP B x.rs
def aa6:IU Z9 vK aeK:=λr h=>by
 obtain⟨_,_,rfl,h_ps,_,_,rfl,h_rs,rfl⟩:=h;obtain⟨x_ps,l_ps,rfl,d_ps,m_ps,b_ps⟩:=D_ Jo h_ps;obtain⟨x_rs,l_rs,rfl,d_rs,m_rs,b_rs⟩:=D_ Jo h_rs;exact⟨⟨l_ps,l_rs⟩,⟨d_ps,d_rs,trivial⟩,⟨m_ps,m_rs⟩,λB hB=>⟨b_ps B hB.1,b_rs B hB.2.1⟩⟩
def aab:Ty:=.cons (.int .i64) (.cons (.int .i64) (.cons .bool .nil))
def aeN(B:Nat)(x:Lm):Prop:=True
def aa9:IU aab p7 aeN:=λr h=>by
 obtain⟨_,_,rfl,⟨mn,rfl,w_mn⟩,_,_,rfl,⟨mx,rfl,w_mx⟩,_,_,rfl,⟨hs,rfl⟩,rfl⟩:=h;exact⟨⟨mn,mx,hs⟩,⟨.rfl _,.rfl _,.rfl _,trivial⟩,trivial,λB hB=>trivial⟩
def aac:Ty:=.cons (.int .i64) (.cons (.cons (.int .i64) (.cons (.int .i64) (.cons .bool .nil))) .nil)
def aeO(B:Nat)(x:Tb):Prop:=True
def aba:IU aac xx aeO:=λr h=>by
 obtain⟨_,_,rfl,⟨e,rfl,w_e⟩,_,_,rfl,⟨_,_,rfl,⟨mn,rfl,w_mn⟩,_,_,rfl,⟨mx,rfl,w_mx⟩,_,_,rfl,⟨hs,rfl⟩,rfl⟩,rfl⟩:=h;exact⟨⟨e,⟨mn,mx,hs⟩⟩,⟨.rfl _,.rfl _,.rfl _,.rfl _,trivial⟩,trivial,λB hB=>trivial⟩
def aaa:Ty:=.cons .str (.cons .str (.cons (.int .i64) (.cons (.int .i64) (.cons (.cons (.int .i64) (.cons (.cons (.int .i64) (.cons (.int .i64) (.cons .bool .nil))) .nil)) (.cons (.cons (.int .i64) (.cons (.int .i64) (.cons .bool .nil))) (.cons (.cons (.int .i64) (.cons .bool .nil)) .nil))))))
def aeM(B:Nat)(x:Im):Prop:=x.m.length<=B/\x.n.length<=B
def aa8:IU aaa vM aeM:=λr h=>by
 obtain⟨_,_,rfl,⟨m,rfl,w_m⟩,_,_,rfl,⟨n,rfl,w_n⟩,_,_,rfl,⟨k,rfl,w_k⟩,_,_,rfl,⟨f,rfl,w_f⟩,_,_,rfl,⟨_,_,rfl,⟨te,rfl,w_te⟩,_,_,rfl,⟨_,_,rfl,⟨tmn,rfl,w_tmn⟩,_,_,rfl,⟨tmx,rfl,w_tmx⟩,_,_,rfl,⟨ths,rfl⟩,rfl⟩,rfl⟩,_,_,rfl,⟨_,_,rfl,⟨qmn,rfl,w_qmn⟩,_,_,rfl,⟨qmx,rfl,w_qmx⟩,_,_,rfl,⟨qhs,rfl⟩,rfl⟩,_,_,rfl,⟨_,_,rfl,⟨gv,rfl,w_gv⟩,_,_,rfl,⟨gmu,rfl⟩,rfl⟩,rfl⟩:=h;exact⟨⟨m,n,k,f,te,⟨tmn,tmx,ths⟩,⟨qmn,qmx,qhs⟩,⟨gv,gmu⟩⟩,⟨.rfl _,.rfl _,.rfl _,.rfl _,.rfl _,.rfl _,.rfl _,.rfl _,.rfl _,.rfl _,.rfl _,.rfl _,.rfl _,trivial⟩,⟨w_m,w_n⟩,λB hB=>⟨hB.1 _ rfl,hB.2.1 _ rfl⟩⟩
def Z4:Ty:=.cons (.int .i64) (.cons (.sl (.int .i64)) (.cons (.sl Ek) .nil))
def aeF(B:Nat)(x:Cd):Prop:=bL XP B x.lo/\bL G2 B x.b
def aa1:IU Z4 qB aeF:=λr h=>by
 obtain⟨_,_,rfl,⟨t,rfl,w_t⟩,_,_,rfl,h_lo,_,_,rfl,h_b,rfl⟩:=h;obtain⟨x_lo,l_lo,rfl,d_lo,m_lo,b_lo⟩:=D_ Jo h_lo;obtain⟨x_b,l_b,rfl,d_b,m_b,b_b⟩:=D_ CC h_b;exact⟨⟨t,l_lo,l_b⟩,⟨.rfl _,d_lo,d_b,trivial⟩,⟨m_lo,m_b⟩,λB hB=>⟨b_lo B hB.2.1,b_b B hB.2.2.1⟩⟩
def Z_:Ty:=.cons (.cons (.int .i64) (.cons .bool .nil)) (.cons (.sl Ek) .nil)
def aeL(B:Nat)(x:Gd):Prop:=bL G2 B x.i
def aa7:IU Z_ zX aeL:=λr h=>by
 obtain⟨_,_,rfl,⟨_,_,rfl,⟨v,rfl,w_v⟩,_,_,rfl,⟨mu,rfl⟩,rfl⟩,_,_,rfl,h_i,rfl⟩:=h;obtain⟨x_i,l_i,rfl,d_i,m_i,b_i⟩:=D_ CC h_i;exact⟨⟨⟨v,mu⟩,l_i⟩,⟨.rfl _,.rfl _,d_i,trivial⟩,m_i,λB hB=>b_i B hB.2.1⟩
def Z8:Ty:=.cons .str (.cons (.int .i64) (.cons (.int .i64) .nil))
def aeJ(B:Nat)(x:Ex):Prop:=x.n.length<=B
def aa5:IU Z8 y6 aeJ:=λr h=>by
 obtain⟨_,_,rfl,⟨n,rfl,w_n⟩,_,_,rfl,⟨k,rfl,w_k⟩,_,_,rfl,⟨i,rfl,w_i⟩,rfl⟩:=h;exact⟨⟨n,k,i⟩,⟨.rfl _,.rfl _,.rfl _,trivial⟩,w_n,λB hB=>hB.1 _ rfl⟩
def Wx:IU (.sl Ek) jY (bL G2):=λr h=>by
 obtain⟨x,l,rfl,d,m,b⟩:=D_ CC h;exact⟨l,⟨d,trivial⟩,m,λB hB=>b B hB⟩
def Z7:Ty:=.cons (.int .i64) (.cons (.int .i64) (.cons (.sl Ek) (.cons (.int .i64) (.cons (.sl (.sl Ek)) .nil))))
def aeI(B:Nat)(x:El):Prop:=bL G2 B x.o/\bL (bL G2) B x.it
def aa4:IU Z7 fR aeI:=λr h=>by
 obtain⟨_,_,rfl,⟨mo,rfl,w_mo⟩,_,_,rfl,⟨tb,rfl,w_tb⟩,_,_,rfl,h_o,_,_,rfl,⟨ty,rfl,w_ty⟩,_,_,rfl,h_it,rfl⟩:=h;obtain⟨x_o,l_o,rfl,d_o,m_o,b_o⟩:=D_ CC h_o;obtain⟨x_it,l_it,rfl,d_it,m_it,b_it⟩:=D_ Wx h_it;exact⟨⟨mo,tb,l_o,ty,l_it⟩,⟨.rfl _,.rfl _,d_o,.rfl _,d_it,trivial⟩,⟨m_o,m_it⟩,λB hB=>⟨b_o B hB.2.2.1,b_it B hB.2.2.2.2.1⟩⟩
def Z6:Ty:=.cons (.int .i64) (.cons (.int .i64) (.cons (.sl Ek) (.cons (.sl (.int .u8)) .nil)))
def aeH(B:Nat)(x:Da):Prop:=bL G2 B x.o/\bL XP B x.b
def aa3:IU Z6 nz aeH:=λr h=>by
 obtain⟨_,_,rfl,⟨mo,rfl,w_mo⟩,_,_,rfl,⟨me,rfl,w_me⟩,_,_,rfl,h_o,_,_,rfl,h_b,rfl⟩:=h;obtain⟨x_o,l_o,rfl,d_o,m_o,b_o⟩:=D_ CC h_o;obtain⟨x_b,l_b,rfl,d_b,m_b,b_b⟩:=D_ Zr h_b;exact⟨⟨mo,me,l_o,l_b⟩,⟨.rfl _,.rfl _,d_o,d_b,trivial⟩,⟨m_o,m_b⟩,λB hB=>⟨b_o B hB.2.2.1,b_b B hB.2.2.2.1⟩⟩
def Z5:Ty:=.cons (.int .i64) (.cons .str (.cons (.sl (.int .u8)) .nil))
def aeG(B:Nat)(x:Cu):Prop:=x.n.length<=B/\bL XP B x.b
def aa2:IU Z5 CB aeG:=λr h=>by
 obtain⟨_,_,rfl,⟨af,rfl,w_af⟩,_,_,rfl,⟨n,rfl,w_n⟩,_,_,rfl,h_b,rfl⟩:=h;obtain⟨x_b,l_b,rfl,d_b,m_b,b_b⟩:=D_ Zr h_b;exact⟨⟨af,n,l_b⟩,⟨.rfl _,.rfl _,d_b,trivial⟩,⟨w_n,m_b⟩,λB hB=>⟨hB.2.1 _ rfl,b_b B hB.2.2.1⟩⟩
def K1:Ty:=.cons (.sl Z9) (.cons (.sl aaa) (.cons (.sl Z4) (.cons (.sl aac) (.cons (.sl aab) (.cons (.sl Z_) (.cons (.sl Z8) (.cons .bool (.cons (.int .i64) (.cons (.sl Z7) (.cons (.sl Z6) (.cons (.sl Z5) .nil)))))))))))
def aaO(B:Nat)(x:Md):Prop:=bL aeK B x.ts/\bL aeM B x.ims/\bL aeF B x.fs/\bL aeO B x.tbs/\bL aeN B x.ms/\bL aeL B x.gs/\bL aeJ B x.exs/\bL aeI B x.els/\bL aeH B x.ds/\bL aeG B x.cs
def aa_:IU K1 nZ aaO:=λr h=>by
 obtain⟨_,_,rfl,h_ts,_,_,rfl,h_ims,_,_,rfl,h_fs,_,_,rfl,h_tbs,_,_,rfl,h_ms,_,_,rfl,h_gs,_,_,rfl,h_exs,_,_,rfl,⟨hs,rfl⟩,_,_,rfl,⟨st,rfl,w_st⟩,_,_,rfl,h_els,_,_,rfl,h_ds,_,_,rfl,h_cs,rfl⟩:=h;obtain⟨x_ts,l_ts,rfl,d_ts,m_ts,b_ts⟩:=D_ aa6 h_ts;obtain⟨x_ims,l_ims,rfl,d_ims,m_ims,b_ims⟩:=D_ aa8 h_ims;obtain⟨x_fs,l_fs,rfl,d_fs,m_fs,b_fs⟩:=D_ aa1 h_fs;obtain⟨x_tbs,l_tbs,rfl,d_tbs,m_tbs,b_tbs⟩:=D_ aba h_tbs;obtain⟨x_ms,l_ms,rfl,d_ms,m_ms,b_ms⟩:=D_ aa9 h_ms;obtain⟨x_gs,l_gs,rfl,d_gs,m_gs,b_gs⟩:=D_ aa7 h_gs;obtain⟨x_exs,l_exs,rfl,d_exs,m_exs,b_exs⟩:=D_ aa5 h_exs;obtain⟨x_els,l_els,rfl,d_els,m_els,b_els⟩:=D_ aa4 h_els;obtain⟨x_ds,l_ds,rfl,d_ds,m_ds,b_ds⟩:=D_ aa3 h_ds;obtain⟨x_cs,l_cs,rfl,d_cs,m_cs,b_cs⟩:=D_ aa2 h_cs;exact⟨⟨l_ts,l_ims,l_fs,l_tbs,l_ms,l_gs,l_exs,hs,st,l_els,l_ds,l_cs⟩,⟨d_ts,d_ims,d_fs,d_tbs,d_ms,d_gs,d_exs,.rfl _,.rfl _,d_els,d_ds,d_cs,trivial⟩,⟨m_ts,m_ims,m_fs,m_tbs,m_ms,m_gs,m_exs,m_els,m_ds,m_cs⟩,λB hB=>⟨b_ts B hB.1,b_ims B hB.2.1,b_fs B hB.2.2.1,b_tbs B hB.2.2.2.1,b_ms B hB.2.2.2.2.1,b_gs B hB.2.2.2.2.2.1,b_exs B hB.2.2.2.2.2.2.1,b_els B hB.2.2.2.2.2.2.2.2.2.1,b_ds B hB.2.2.2.2.2.2.2.2.2.2.1,b_cs B hB.2.2.2.2.2.2.2.2.2.2.2.1⟩⟩
def aiI{α:Type}{τ:Ty}{f:α->List AV}{p:Nat->α->Prop}(h:IU τ f p)(hr:τ.isRec=true){x:AV}(hx:τ.okV x):∃a,nld x (.agg (f a))/\p maxLen a/\∀B,τ.bdV B x->p B a:=by
 unfold Ty.okV at hx;rw[hr]at hx;obtain⟨xs,rfl,hx⟩:=hx;obtain⟨a,h1,h2,h3⟩:=h xs hx;refine⟨a,.inr ⟨_,_,rfl,rfl,h1⟩,h2,λB hB=>h3 B ?_⟩;unfold Ty.bdV at hB;rw[hr]at hB;exact hB _ rfl
def aip{τ:Ty}{xs:List AV}(h:bg Ty.okV [τ] xs):∃x,xs=[x]/\τ.okV x:=by
 match xs,h with
 | [x],h=>exact⟨x,rfl,h.1⟩
def ag0:wC pg 9 33=some K1:=by kernel_rfl
def cpI(x:bj):Prop:=x.ty.length<=1048576/\x.lb.length<=1048576/\0<=x.n
def RQ(l:List bj):Prop:=l.length<=1048576/\∀x∈l,cpI x
def cpF(x:Ft):Prop:=x.ps.length<=1048576/\x.rs.length<=1048576
def ahK(x:Cd):Prop:=x.lo.length<=1048576/\RQ x.b
def ahO(x:Gd):Prop:=RQ x.i
def ahN(x:El):Prop:=RQ x.o/\x.it.length<=1048576/\∀l∈x.it,RQ l
def ahM(x:Da):Prop:=RQ x.o/\x.b.length<=1048576
def ahL(x:Cu):Prop:=x.b.length<=1048576
structure cpM(m:Md):Prop where
 ts:m.ts.length<=1048576/\∀x∈m.ts,cpF x
 ims:m.ims.length<=1048576
 fs:m.fs.length<=1048576/\∀x∈m.fs,ahK x
 tbs:m.tbs.length<=1048576
 ms:m.ms.length<=1048576
 gs:m.gs.length<=1048576/\∀x∈m.gs,ahO x
 exs:m.exs.length<=1048576
 els:m.els.length<=1048576/\∀x∈m.els,ahN x
 ds:m.ds.length<=1048576/\∀x∈m.ds,ahM x
 cs:m.cs.length<=1048576/\∀x∈m.cs,ahL x
def Ow(x:bj):Prop:=x.ty.length<=9223372036854775807/\x.lb.length<=9223372036854775807/\0<=x.n
def KV(l:List bj):Prop:=l.length<=9223372036854775807/\∀x∈l,Ow x
def smF(x:Ft):Prop:=x.ps.length<=9223372036854775807/\x.rs.length<=9223372036854775807
def YZ(x:Cd):Prop:=x.lo.length<=9223372036854775807/\KV x.b
def agS(x:Gd):Prop:=KV x.i
def adn(x:El):Prop:=KV x.o/\x.it.length<=140737488355328/\∀l∈x.it,KV l
def adm(x:Da):Prop:=KV x.o/\x.b.length<=9223372036854775807
def aiS(x:Cu):Prop:=x.b.length<=9223372036854775807
structure BZ(m:Md):Prop where
 ts:m.ts.length<=140737488355328/\∀x∈m.ts,smF x
 ims:m.ims.length<=140737488355328
 fs:m.fs.length<=140737488355328/\∀x∈m.fs,YZ x
 tbs:m.tbs.length<=140737488355328
 ms:m.ms.length<=140737488355328
 gs:m.gs.length<=140737488355328/\∀x∈m.gs,agS x
 exs:m.exs.length<=140737488355328
 els:m.els.length<=140737488355328/\∀x∈m.els,adn x
 ds:m.ds.length<=140737488355328/\∀x∈m.ds,adm x
 cs:m.cs.length<=140737488355328/\∀x∈m.cs,aiS x
def bN{α:Type}[Inhabited α]{p:α->Prop}{l:List α}(h:∀x∈l,p x){i:Nat}(hi:i<l.length):p (ah l i):=by
 rw[bD hi];exact h _ (na hi)
def su{α:Type}[Inhabited α]{l:List α}{i:Nat}(h:i<l.length):l.take (i+1)=l.take i++[ah l i]:=by rw[Eu,pd h,Et]
def ac3(n:Nat)(hn:n<18446744073709551616):ac pg L0 [.nl,.int .u64 n] (.sl 1 ((ay n).map dY)):=by
 refine aD Co ?_;simp only[Co,go_sem];have a0:tC 6 5 1 0 0 [] (some ⟨5,1,[],false⟩)=some (.ms 6 1 0 0,.reb 6 ⟨5,1,[],false⟩):=rfl;simp only[go_sem,a0];refine an (λq:List UInt8×Nat=>⟨[(5,.ms 6 1 0 q.1.length),(1,.int .u64 q.2)],[(6,⟨5,1,q.1.map dY,false⟩)]⟩) (λq=>q.1++ay q.2=ay n/\q.2<=n) (λq=>q.2) ([],n) ⟨rfl,bG _⟩ (Wk.of ?_ ?_) ?_
 .simp[go_sem]
 .simp[go_sem]
 rintro⟨acc,m⟩ ⟨hq,hm⟩;replace hq:acc++ay m=ay n:=hq;replace hm:m<=n:=hm;have hlen:acc.length+(ay m).length<=10:=by
  have:=rA (k:=9) (n:=n) (by omega);rw[<-hq]at this;simpa using this
 have w1:IntKind.u8.wrap (m:Int)=((m%256:Nat):Int):=by rw[vy];omega
 have happ:=λys=>bX 6 5 1 acc.length dY acc ys rfl;by_cases h1:m<128
 .have d1:decide ((m:Int)>=128)=false:=by simp;omega
  simp only[go_sem,d1,w1,happ];refine⟨by omega,aq [6] ?_ rfl⟩;have e1:m%256=m:=by omega
  simp only[go_sem,w1,<-hq,zp h1,kr,yY (show m<256 by omega),e1];simp;exact dQ (by simp)
 .have d1:decide ((m:Int)>=128)=true:=by simp;omega
  have w2:=ZN (x:=m%256) (by omega);have e1:m%256%128=m%128:=by omega
  have w3:Cx .u64 (m:Int) 7=((m/128:Nat):Int):=Ch .u64 (x:=m) (s:=7) (by decide);simp only[go_sem,d1,w1,w2,e1,happ];refine⟨by omega,by decide,aE (acc++[UInt8.ofNat (m%128+128)],m/128) ⟨by rw[eU,<-hq,Cb h1];rfl,by omega⟩ (show m/128<m by omega) (Wk.of ?_ ?_)⟩
  .simp only[go_sem,w3,aJ,jI]
  .simp only[go_sem,kr,yY (show m%128+128<256 by omega)]
def NI(n:Int):Cx .i64 n 7=n/128:=by
 unfold Cx;rw[show min (7:Int).toNat IntKind.i64.bits=7 from rfl,Int.fdiv_eq_ediv_of_nonneg _ (by decide)];rfl
def V9(n:Int):bU .i64 n 127=n%128:=by
 have key:(BitVec.ofInt 64 n &&& BitVec.ofInt 64 127).toNat=(n%128).toNat:=by
  have h1:(BitVec.ofInt 64 n).toNat=(n%18446744073709551616).toNat:=by simp[BitVec.toNat_ofInt]
  have h2:(BitVec.ofInt 64 127).toNat=2^7-1:=by decide
  rw[BitVec.toNat_and,h1,h2,Nat.and_two_pow_sub_one_eq_mod];omega
 show IntKind.i64.wrap ((BitVec.ofInt 64 n &&& BitVec.ofInt 64 127).toNat)=_;rw[key,Em];omega
def zo{k:Nat}:∀{n:Int},-(64*128^k:Int)<=n->n<64*128^k->(ej n).length<=k+1:=by
 induction k with
 | zero=>intro n h1 h2;rw[Ca (by omega)];simp
 | succ k ih =>
  intro n h1 h2;by_cases h:-64<=n/\n<=63
  .rw[Ca h];simp
  .rw[In h];rw[Int.pow_succ]at h1 h2;generalize (128:Int)^k=p at*;have:=ih (n:=n/128) (by omega) (by omega);simp;omega
def MB(n:Int)(hn:-9223372036854775808<=n/\n<9223372036854775808):ac pg LZ [.nl,.int .i64 n] (.sl 1 ((ej n).map dY)):=by
 refine aD Cn ?_;have a0:tC 6 5 1 0 0 [] (some ⟨5,1,[],false⟩)=some (.ms 6 1 0 0,.reb 6 ⟨5,1,[],false⟩):=rfl;simp only[Cn,go_sem,a0];refine an (λq:List UInt8×Int=>⟨[(5,.ms 6 1 0 q.1.length),(1,.int .i64 q.2)],[(6,⟨5,1,q.1.map dY,false⟩)]⟩) (λq=>q.1++ej q.2=ej n/\-9223372036854775808<=q.2/\q.2<9223372036854775808) (λq=>q.2.natAbs) ([],n) ⟨rfl,hn⟩ (Wk.of ?_ ?_) ?_
 .simp[go_sem]
 .simp[go_sem]
 rintro⟨acc,m⟩ ⟨hq,hm⟩;replace hq:acc++ej m=ej n:=hq;replace hm:-9223372036854775808<=m/\m<9223372036854775808:=hm;have hlen:acc.length+(ej m).length<=10:=by
  have:=zo (k:=9) (n:=n) (by omega) (by omega);rw[<-hq]at this;simpa using this
 have w1:IntKind.u8.wrap (m:Int)=(((m%256).toNat:Nat):Int):=by rw[vy];omega
 have happ:=λys=>bX 6 5 1 acc.length dY acc ys rfl;have e1:(m%256).toNat%128=(m%128).toNat:=by omega
 by_cases h1:-64<=m/\m<=63
 .have d1:decide (m < -64)=false:=by simp;omega
  have d2:decide (m>63)=false:=by simp;omega
  have w2:=RA (x:=(m%256).toNat) (by omega);simp only[go_sem,d1,d2,w1,w2,e1,happ];refine⟨by omega,aq [6] ?_ rfl⟩;simp only[go_sem,<-hq,Ca h1,kr,yY (show(m%128).toNat<256 by omega),jI];simp;exact dQ (by simp)
 .have w2:=ZN (x:=(m%256).toNat) (by omega);have w3:=NI m;have fin:∀s:St,leE s.env [(5,.ms 6 1 0 (acc.length+1)),(1,.int .i64 (m/128))]->QF s.heap [(6,⟨5,1,acc.map dY++[[.int .u8 (((m%128).toNat+128:Nat):Int)]],false⟩)] ->
    ∀K,Xk (λq:List UInt8×Int=>⟨[(5,.ms 6 1 0 q.1.length),(1,.int .i64 q.2)],[(6,⟨5,1,q.1.map dY,false⟩)]⟩) (λq=>q.1++ej q.2=ej n/\-9223372036854775808<=q.2/\q.2<9223372036854775808) (λq=>q.2.natAbs) (acc,m) K .nrm s:=λs hs1 hs2 K=>by
   refine aE (acc++[UInt8.ofNat ((m%128).toNat+128)],m/128) ⟨by rw[eU,<-hq,In h1];rfl,by show _<=m/128;omega,by show m/128<_;omega⟩ (show(m/128).natAbs<m.natAbs by omega) (Wk.of ?_ ?_)
   .simpa only[aJ,jI]using hs1
   .simpa only[kr,eR,k9,yY (show(m%128).toNat+128<256 by omega)]using hs2
  by_cases h2:m < -64
  .have d1:decide (m < -64)=true:=by simp;omega
   simp only[go_sem,d1,w1,w2,e1,happ];refine⟨by omega,by decide,fin _ ?_ ?_ _⟩
   .simp only[go_sem,w3]
   .simp only[go_sem]
  .have d1:decide (m < -64)=false:=by simp;omega
   have d2:decide (m>63)=true:=by simp;omega
   simp only[go_sem,d1,d2,w1,w2,e1,happ];refine⟨by omega,by decide,fin _ ?_ ?_ _⟩
   .simp only[go_sem,w3]
   .simp only[go_sem]
def uv(l:List UInt8):Bool:=Lib.validD l
def adK:uv []=true:=rfl
