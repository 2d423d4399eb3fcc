import Derived.Test.YtdfofedlbljnhaaGreatDoorXQc
import Derived.Test.YtdfofedlbljnhaaGreatDoorXQi0
import Derived.Test.YtdfofedlbljnhaaGreatDoorXQi1
import Derived.Test.YtdfofedlbljnhaaGreatDoorXQi2
import Derived.Test.YtdfofedlbljnhaaGreatDoorXQi3
import Derived.Test.YtdfofedlbljnhaaGreatDoorXQi4
import Derived.Test.YtdfofedlbljnhaaGreatDoorXQi5
import Derived.Shelf.Unicode.DecodeSlow
import Derived.Shelf.Strings.Search3
import Derived.Shelf.Strings.Fields
import Derived.Test.YtdfofedlbljnhaaGreatDoorCards
import Derived.Test.YtdfofedlbljnhaaGreatDoorTie
import Derived.Deep.DeepHandedRow
import Derived.Deep.DeepWitnessRowRef
import Derived.Lib.LaidTab
import Derived.Lib.LaidU8T
import Derived.Shelf.Vars
import Derived.Lay
import Derived.Lib.ValidAsc
noncomputable section
set_option linter.all false
set_option maxRecDepth 100000
set_option maxHeartbeats 40000000
namespace Go.Proofs.YtdfofedlbljnhaaGreatDoor
open Go Go.Mw
def H8:List AV:=(List.range 256).map λc=>.int .u8 (Lib.firstT c)
def xL:List AV:=(List.range 32).map λi=>.int .u8 (if i%2=0 then Lib.accLo (i/2)else Lib.accHi (i/2))
def zN{w:World}{b off:Nat}{v:Value}(h:w.cell? ⟨b,off,none⟩=some v):∃c t fr,w.heap[b]?=some (.cells c t fr)/\c[off]?=some v:=by
 unfold World.cell? at h;simp only at h;split at h
 .rename_i c t fr hb;exact⟨c,t,fr,hb,h⟩
 .cases h
def Ba{w:World}{M:Nat->Prop}{b n:Nat}{f:Nat->Int}(hn:0<n)(h:∀j,j<n->w.cell? ⟨b,j,none⟩=some (.int .u8 (f j)))(hM:¬M b) :
  IRel M w (.pointer (some ⟨b,0,none⟩)) (.ip ((List.range n).map λj=>.int .u8 (f j))):=by
 obtain⟨c,t,fr,hb,_⟩:=zN (h 0 hn);refine .ip b 0 c t fr _ (λj=>.int .u8 (f j)) hb hM (λj hj=>?_) (λj x hx=>?_)
 .simp at hj;obtain⟨c',t',fr',hb',hc⟩:=zN (h j hj);rw[hb]at hb';cases hb';simpa using hc
 .simp only[jt,dU,Ef]at hx;obtain⟨q,hq,rfl⟩:=hx;rw[Ef]at hq;cases hq;exact .int _ _;have:=(js.1 hq).1;simpa using this
def spT(c:Nat):Value:=.int .u8 (if Lib.isSp (UInt8.ofNat c)then 1 else 0)
def oW{w w':World}{b off:Nat}{v:Value}(h:w'.heap[b]? = w.heap[b]?)(hc:w.cell? ⟨b,off,none⟩=some v):w'.cell? ⟨b,off,none⟩=some v:=by
 rw[World.cell?_of_block (w:=w) h];exact hc
def B9{w:World}{b off:Nat}{v:Value}(h:w.cell? ⟨b,off,none⟩=some v):b<w.heap.size:=by
 obtain⟨c,t,fr,h1,_⟩:=zN h;exact(vW.1 h1).1
def aiV:Qn where
 B b:=(b=0\/b=1)\/(b=3\/b=2)
 H w:=Lib.Utf8Tabs 0 1 w/\(∀c,c<256->w.cell? ⟨3,c,none⟩=some (spT c))/\∃m,w.cell? ⟨2,0,none⟩=some (.int .i64 m)
 env:=[(1000000+0,.ip H8),(1000000+1,.ip xL)]
 rel w M h hM p hp:=by
  simp only[dQ,tN,or_false]at hp;rcases hp with rfl|rfl
  .exact⟨by decide,Ba (by decide) (λj hj=>h.1.1 j hj) (hM 0 (.inl (.inl rfl)))⟩
  .refine⟨by decide,Ba (by decide) (λj hj=>?_) (hM 1 (.inl (.inr rfl)))⟩;obtain⟨h1,h2⟩:=h.1.2 (j/2) (by omega);by_cases h0:j%2=0
   .rw[au h0];rw[show 2*(j/2)=j by omega]at h1;exact h1
   .rw[ak h0];rw[show 2*(j/2)+1=j by omega]at h2;exact h2
 stay w w' h hk:=⟨⟨λc hc=>oW (hk _ (.inl (.inl rfl))) (h.1.1 c hc),λi hi=>⟨oW (hk _ (.inl (.inr rfl))) (h.1.2 i hi).1,oW (hk _ (.inl (.inr rfl))) (h.1.2 i hi).2⟩⟩,
  λc hc=>oW (hk 3 (.inr (.inl rfl))) (h.2.1 c hc),by obtain⟨m,hm⟩:=h.2.2;exact⟨m,oW (hk 2 (.inr (.inr rfl))) hm⟩⟩
 low w h b hb:=by
  rcases hb with(rfl|rfl)|(rfl|rfl)
  .exact B9 (h.1.1 0 (by decide))
  .exact B9 (h.1.2 0 (by decide)).1
  .exact B9 (h.2.1 0 (by decide))
  .obtain⟨m,hm⟩:=h.2.2;exact B9 hm
instance:bJ Tryz.prog:=⟨aiV⟩
def aC(F:ax){f:FuncId}{args:List AV}{r:AV}(hi:jL pg F.body ⟨kL 0 args,[]⟩ (AY F.res r))(hf:lK pg f=some F:=by kernel_rfl)(he:dv F.body=F.body:=by rfl)(hl:args.length=F.np:=by rfl):aj pg f args r:=LE s9 hf he hl hi
def bA(F:ax){f:FuncId}{args:List AV}{σ:List (Nat×ao)}{Post:AV->List (Nat×ao)->Prop}(hi:jL pg F.body ⟨kL 0 args,σ⟩ (mz F.res Post))(hf:lK pg f=some F:=by kernel_rfl)(he:dv F.body=F.body:=by rfl)(hl:args.length=F.np:=by rfl):aQ pg f args σ (λid=>1000<=id/\id<2000) Post:=jB s9 hf he hl hi
open Go.ChangeShapes Go.WideShapes Go.ChangeAt Go.RowKit
def own:ownKnob Tryz.prog.godebug=none:=by kernel_rfl
def Xo:laidOutB Tryz.prog=true:=by kernel_rfl
abbrev M5:List (String×DataW Unit):=[("unicode/utf8.acceptRanges",Rows.laid_unicode_utf8_acceptRanges),("unicode.White_Space",Rows.laid_unicode_White_Space),("strings.asciiSpace",Rows.laid_strings_asciiSpace),("unicode/utf8.first",Rows.laid_unicode_utf8_first)]
def spL:List Int:=(List.range 256).map λc=>if Lib.isSp (UInt8.ofNat c)then 1 else 0
def spD:(Rows.laid_strings_asciiSpace:DataW Unit)=Lib.tabData .u8 spL:=by kernel_rfl
def gSp:Tryz.prog.globalNamed "strings.asciiSpace" = some 3:=by kernel_rfl
def tSp:(Tryz.prog.globals[3]?).map (·.type)=some 325:=by kernel_rfl
def uSp:Tryz.prog.underlying 325=some (.array 256 5):=by kernel_rfl
def uU8:Tryz.prog.underlying 5=some (.int .u8):=by kernel_rfl
def cU8:Tryz.prog.cellsOf 5=1:=by kernel_rfl
def cSp:Tryz.prog.cellsOf 325=256:=by kernel_rfl
def agB {W:World} (h:laidMetH Tryz.prog M5 W):Lib.TabIs Tryz.prog W "strings.asciiSpace" .u8 spL:=by
 have h2:=Lib.laidMet.reads h (.tail _ (.tail _ (.head _)));rw[spD]at h2;obtain⟨g',t',cs,fuel,p,hg',ht',hvar,hd⟩:=h2;obtain rfl:=zB (gSp.symm.trans hg');obtain rfl:=zB (tSp.symm.trans ht');unfold Lib.TabIs;rw[hvar,<-Lib.cells_of_tab uSp uU8 cU8 cSp hd]
def ren:Go.Shelf.Ren:=⟨λx=>x,λt=>if t=119 then 325 else if t=138 then 327 else if t=139 then 328 else 5,λg=>if g=3 then 0 else 1⟩
def u8t:U8Types Tryz.prog ren:=⟨by kernel_rfl,by kernel_rfl,by kernel_rfl,by kernel_rfl⟩
def u8x:U8Extra Tryz.prog ren:=⟨by kernel_rfl,by kernel_rfl,by kernel_rfl,by kernel_rfl,by kernel_rfl,by kernel_rfl,by kernel_rfl⟩
def ahg:(Rows.laid_unicode_utf8_acceptRanges:DataW Unit)=Lib.acceptData:=by kernel_rfl
def ahD:Rows.laid_unicode_utf8_first=Lib.firstData:=by kernel_rfl
def adB{W:World}(h:laidMetH Tryz.prog M5 W):Lib.Utf8Tabs 0 1 W:=by
 have h1:=Lib.laidMet.reads h (.head _);have h2:=Lib.laidMet.reads h (.tail _ (.tail _ (.tail _ (.head _))));rw[ahg]at h1;rw[ahD]at h2;exact utf8Tabs_of_readsT u8t u8x h2 h1
def ado(c:Nat)(hc:c<256):Value.int .u8 (spL.getD c 0)=spT c:=by
 simp[spL,spT,List.getD,hc]
def Zd{W:World}(h:laidMetH Tryz.prog M5 W)(hs:W.ShapedOpen Tryz.prog):(bJ.T Tryz.prog).H W :=
 ⟨adB h,λc hc=>by rw[(agB h).cell gSp c (by simpa[spL]using hc),ado c hc],
 Go.Proofs.cell_of_shapedOpen_int (g:=2) (t:=3) (k:=.i64) (zero:=#[.int .i64 0]) hs (of_decide_eq_true (by kernel_rfl)) (by kernel_rfl) rfl (by kernel_rfl) (by kernel_rfl) (by kernel_rfl)⟩
abbrev zY(os:Os):World:=World.laidAll Tryz.prog os M5
def WH{P:Program}(h:∀fn∈P.funcs.toList,fn.goes=false)(c:OpenClaim)(hs:c.start = .entering):false=c.goesBy P:=by
 have k1:∀f:FuncId,(P.funcs[f]?).any Func.goes=false:=λf=>by
  cases hf:P.funcs[f]? with
  | none=>rfl
  | some fn=>exact h fn (by
    obtain⟨h1,rfl⟩:=vW.1 hf;exact Array.getElem_mem_toList h1)
 have key:∀f:FuncId,P.goes f=false:=λf=>by
  unfold Program.goes;have e1:(P.closure f).any (λg=>(P.funcs[g]?).any Func.goes)=false:=zC.2 λg _=>by rw[k1 g];decide
  have e2:P.funcs.any Func.goes=false:=by
   rw[<-Array.any_toList];exact zC.2 λfn hfn=>by rw[h fn hfn];decide
  rw[e1,e2,Bool.and_false,Bool.or_false]
 unfold OpenClaim.goesBy Program.goesAt Program.goesFrom;rw[hs];cases P.funcNamed c.func with
 | none=>rfl
 | some f=>simp only[Option.any_some,key,Bool.or_false]
def Rg{α:Type}{p:α->Bool}(n:Nat):∀(k:Nat)(l:List α),(∀i,i<k->((l.drop (i*n)).take n).all p=true)->l.length<=k*n->∀x∈l,p x=true
 | 0,l,_,hl,x,hx=>by
  have:l=[]:=B0 (by omega);subst this;cases hx
 | k+1,l,h,hl,x,hx=>by
  have h0:=h 0 (by omega);rw[Nat.zero_mul,vX]at h0
  have ih:=Rg n k (l.drop n) (λi hi=>by
   have:=h (i+1) (by omega);rw[AH,show n+i*n=(i+1)*n by rw[Nat.succ_mul,Nat.add_comm]];exact this) (by rw[jK];rw[Nat.succ_mul]at hl;omega)
  rcases f7.1 (by rw[Ku n l];exact hx)with q|q
  .exact fk.1 h0 x q
  .exact ih x q
def ahG:((Tryz.prog.funcs.toList.drop (0*40)).take 40).all (λfn=>!fn.goes)=true:=by kernel_rfl
def ahH:((Tryz.prog.funcs.toList.drop (1*40)).take 40).all (λfn=>!fn.goes)=true:=by kernel_rfl
def ahI:((Tryz.prog.funcs.toList.drop (2*40)).take 40).all (λfn=>!fn.goes)=true:=by kernel_rfl
def ahJ:((Tryz.prog.funcs.toList.drop (3*40)).take 40).all (λfn=>!fn.goes)=true:=by kernel_rfl
def ahK:((Tryz.prog.funcs.toList.drop (4*40)).take 40).all (λfn=>!fn.goes)=true:=by kernel_rfl
def ahL:((Tryz.prog.funcs.toList.drop (5*40)).take 40).all (λfn=>!fn.goes)=true:=by kernel_rfl
def ahM:((Tryz.prog.funcs.toList.drop (6*40)).take 40).all (λfn=>!fn.goes)=true:=by kernel_rfl
def ahN:((Tryz.prog.funcs.toList.drop (7*40)).take 40).all (λfn=>!fn.goes)=true:=by kernel_rfl
def ahO:((Tryz.prog.funcs.toList.drop (8*40)).take 40).all (λfn=>!fn.goes)=true:=by kernel_rfl
def ahP:((Tryz.prog.funcs.toList.drop (9*40)).take 40).all (λfn=>!fn.goes)=true:=by kernel_rfl
def ae0:((Tryz.prog.funcs.toList.drop (10*40)).take 40).all (λfn=>!fn.goes)=true:=by kernel_rfl
def ahQ:∀fn∈Tryz.prog.funcs.toList,fn.goes=false:=λfn h=>by
 have:=Rg 40 11 Tryz.prog.funcs.toList (p:=λfn=>!fn.goes) (λi hi=>by
  rcases(show i=0\/i=1\/i=2\/i=3\/i=4\/i=5\/i=6\/i=7\/i=8\/i=9\/i=10 by omega)with rfl|rfl|rfl|rfl|rfl|rfl|rfl|rfl|rfl|rfl|rfl
  .exact ahG
  .exact ahH
  .exact ahI
  .exact ahJ
  .exact ahK
  .exact ahL
  .exact ahM
  .exact ahN
  .exact ahO
  .exact ahP
  .exact ae0) (of_decide_eq_true (by kernel_rfl)) fn h
 simpa using this
def de(b:UInt8):List AV:=[.int .u8 b.toNat]
def aes(b:UInt8):de b=[.int .u8 b.toNat]:=rfl
attribute[go_sem] aes
def Bc(b:Af):Nat->Nat->Int×Nat
 | 0,_=>(4,0)
 | f+1,i=>if i>=b.length then(3,0)else if 128<=(ac b i).toNat then Bc b f (i+1)else(0,i)
def mst(bits:Nat):Nat:=(bits+6)/7
def gP(b:Af)(bits:Nat):Int:=(Bc b (mst bits) 0).1
def cx(b:Af)(bits:Nat):Nat:=(Bc b (mst bits) 0).2
def uB(bits i:Nat):Nat:=if i+1=mst bits then bits-7*i else 7
def cY:Af->Nat
 | []=>0
 | b::r=>b.toNat%128+128*cY r
def I_(b:Af):∀f i,i<=b.length->((Bc b f i).1=0/\(Bc b f i).2<b.length/\i<=(Bc b f i).2/\(Bc b f i).2<i+f/\(ac b (Bc b f i).2).toNat<128)\/((Bc b f i).1=3\/(Bc b f i).1=4)/\(Bc b f i).2=0
 | 0,i,_=>.inr ⟨.inr rfl,rfl⟩
 | f+1,i,hi=>by
  simp only[Bc];by_cases h1:i>=b.length
  .rw[au h1];exact .inr ⟨.inl rfl,rfl⟩
  .rw[ak h1];by_cases h2:128<=(ac b i).toNat
   .rw[au h2];rcases I_ b f (i+1) (by omega)with⟨g1,g2,g3,g4,g5⟩|h
    .exact .inl ⟨g1,g2,by omega,by omega,g5⟩
    .exact .inr h
   .rw[ak h2];exact .inl ⟨rfl,by simp;omega,by simp,by simp,by simp;omega⟩
def fY(b:Af)(bits:Nat):(gP b bits=0/\cx b bits<b.length/\cx b bits<mst bits/\(ac b (cx b bits)).toNat<128)\/(gP b bits=3\/gP b bits=4)/\cx b bits=0:=by
 rcases I_ b (mst bits) 0 (cm _)with⟨g1,g2,g3,g4,g5⟩|h
 .exact .inl ⟨g1,g2,by rw[zE]at g4;exact g4,g5⟩
 .exact .inr h
def rH(n:Int):IntKind.u8.wrap n=n%256:=by simp[IntKind.wrap,IntKind.bits,IntKind.signed]
def aai(n:Int):IntKind.u32.wrap n=n%4294967296:=by simp[IntKind.wrap,IntKind.bits,IntKind.signed]
def mq(n:Int):IntKind.u64.wrap n=n%18446744073709551616:=by simp[IntKind.wrap,IntKind.bits,IntKind.signed]
def u_(n:Int):IntKind.i64.wrap n=(n+9223372036854775808)%18446744073709551616-9223372036854775808:=by
 simp[IntKind.wrap,IntKind.bits,IntKind.signed];split<;>omega
def aah(n:Int):IntKind.i32.wrap n=(n+2147483648)%4294967296-2147483648:=by
 simp[IntKind.wrap,IntKind.bits,IntKind.signed];split<;>omega
def GD(k:Nat)(a:Nat):BitVec.ofInt k (a:Int)=BitVec.ofNat k a:=BitVec.ofInt_natCast k a
def LB{k a b:Nat}(ha:a<2^k)(hb:b<2^k):(BitVec.ofInt k (a:Int) ||| BitVec.ofInt k (b:Int)).toNat=a ||| b:=by
 rw[GD,GD,BitVec.toNat_or,BitVec.toNat_ofNat,BitVec.toNat_ofNat,AI ha,AI hb]
def yb{k a b:Nat}(ha:a<2^k)(hb:b<2^k):(BitVec.ofInt k (a:Int) &&& BitVec.ofInt k (b:Int)).toNat=a &&& b:=by
 rw[GD,GD,BitVec.toNat_and,BitVec.toNat_ofNat,BitVec.toNat_ofNat,AI ha,AI hb]
def Q9{x:Nat}(hx:x<256):bO .u8 (x:Int) 127=((x%128:Nat):Int):=by
 have:(BitVec.ofInt 8 (x:Int) &&& BitVec.ofInt 8 ((127:Nat):Int)).toNat=x &&& 127:=yb hx (by decide);show IntKind.u8.wrap ((BitVec.ofInt 8 (x:Int) &&& BitVec.ofInt 8 ((127:Nat):Int)).toNat)=_;rw[this,show(127:Nat)=2^7-1 from rfl,Nat.and_two_pow_sub_one_eq_mod,rH];omega
set_option maxRecDepth 100000 in
def acl{x:Nat}(hx:x<256):x ||| 128=x%128+128:=by
 have key:∀y:Fin 256,y.val ||| 128=y.val%128+128:=by decide
 exact key ⟨x,hx⟩
def ZV{x:Nat}(hx:x<256):qT .u8 (x:Int) 128=((x%128+128:Nat):Int):=by
 have:(BitVec.ofInt 8 (x:Int) ||| BitVec.ofInt 8 ((128:Nat):Int)).toNat=x ||| 128:=LB hx (by decide);show IntKind.u8.wrap ((BitVec.ofInt 8 (x:Int) ||| BitVec.ofInt 8 ((128:Nat):Int)).toNat)=_;rw[this,acl hx,rH];omega
def NR{y s:Nat}(hs:s<64):ib .u64 (y:Int) (s:Int)=((y*2^s%18446744073709551616:Nat):Int):=by
 unfold ib;rw[eB,show min s IntKind.u64.bits=s from B4 (by show s<=64;omega),mq,Int.natCast_emod (_*_),Int.natCast_mul,Int.natCast_pow];rfl
def yL{n y s:Nat}(hs:s<64)(hn:n<2^s):qT .u64 (n:Int) (((y*2^s)%18446744073709551616:Nat):Int)=(((n+y*2^s)%18446744073709551616:Nat):Int):=by
 have hp:2^s<=2^63:=Ig (by decide) (by omega);have e64:18446744073709551616=2^s*2^(64-s):=by rw[<-Nat.pow_add,show s+(64-s)=64 by omega]
 have hm:(y*2^s)%18446744073709551616=2^s*(y%2^(64-s)):=by rw[e64,Nat.mul_comm y,Nat.mul_mod_mul_left]
 have hlt:y%2^(64-s)<2^(64-s):=Nat.mod_lt _ (Nat.two_pow_pos _);have hsum:2^s*(y%2^(64-s))+n<18446744073709551616:=by
  rw[e64];have h1:2^s*(y%2^(64-s)+1)<=2^s*2^(64-s):=Nat.mul_le_mul_left _ hlt;rw[Nat.mul_add,xQ]at h1;omega
 have h1:(BitVec.ofInt 64 (n:Int) ||| BitVec.ofInt 64 (((y*2^s)%18446744073709551616:Nat):Int)).toNat=n ||| ((y*2^s)%18446744073709551616) :=
  LB (by omega) (Nat.mod_lt _ (by decide))
 show IntKind.u64.wrap ((BitVec.ofInt 64 (n:Int) ||| BitVec.ofInt 64 (((y*2^s)%18446744073709551616:Nat):Int)).toNat)=_;rw[h1,hm,Nat.or_comm,<-Nat.two_pow_add_eq_or_of_lt hn,mq];have h2:(n+y*2^s)%18446744073709551616=2^s*(y%2^(64-s))+n:=by
  rw[Nat.add_mod,hm,AI (show n<18446744073709551616 by omega),AI (by omega)];omega
 rw[h2];omega
def Vn(l m:Af):cY (l++m)=cY l+128^l.length*cY m:=by
 induction l with
 | nil=>simp[cY]
 | cons b l ih =>
  simp only[mr,cY,ih,i0,Nat.pow_succ,Nat.mul_add];rw[Nat.mul_comm (128^l.length) 128,Nat.mul_assoc];omega
def H_(l:Af):cY l<128^l.length:=by
 induction l with
 | nil=>simp[cY]
 | cons b l ih =>
  simp only[cY,i0,Nat.pow_succ];have:=Nat.mod_lt b.toNat (show 128>0 by decide);omega
def Ax{b:Af}{i:Nat}(h:i<b.length):cY (b.take (i+1))=cY (b.take i)+(ac b i).toNat%128*2^(7*i):=by
 rw[Ei,pf h,Eh,Vn];simp only[cY,Nat.mul_zero,Nat.add_zero,qD,B4 (Nat.le_of_lt h)];rw[show(128:Nat)=2^7 from rfl,<-Nat.pow_mul,Nat.mul_comm (2^(7*i))]
def kr{b:Af}{i:Nat}(h:i<=b.length):cY (b.take i)<2^(7*i):=by
 have:=H_ (b.take i);rw[qD,B4 h,show(128:Nat)=2^7 from rfl,<-Nat.pow_mul]at this;exact this
def sw(k:IntKind){x s:Nat}(hs:s<=k.bits):A0 k (x:Int) (s:Int)=((x/2^s:Nat):Int):=by
 unfold A0;rw[eB,B4 hs,Int.fdiv_eq_ediv_of_nonneg _ (by exact Int.le_of_lt (Int.pow_pos (by decide)))];rw[Int.natCast_ediv,Int.natCast_pow];rfl
set_option maxRecDepth 100000 in
def aaL{x:Nat}(hx:x<256):(x &&& 64 != 0)=decide (64<=x%128):=by
 have key:∀y:Fin 256,(y.val &&& 64 != 0)=decide (64<=y.val%128):=by decide
 exact key ⟨x,hx⟩
def ME{x:Nat}(hx:x<256):(bO .u8 (x:Int) 64 != 0)=decide (64<=x%128):=by
 have:(BitVec.ofInt 8 (x:Int) &&& BitVec.ofInt 8 ((64:Nat):Int)).toNat=x &&& 64:=yb hx (by decide);have e:bO .u8 (x:Int) 64=((x &&& 64:Nat):Int):=by
  show IntKind.u8.wrap ((BitVec.ofInt 8 (x:Int) &&& BitVec.ofInt 8 ((64:Nat):Int)).toNat)=_;rw[this,rH];have:x &&& 64<=64:=Nat.and_le_right;omega
 rw[e,<-aaL hx];by_cases h:x &&& 64=0
 .simp[h]
 .have h1:((x &&& 64:Nat):Int)≠0:=by omega
  simp only[bne,fK.2 h1,fK.2 h]
def dm(b:Af)(bits:Nat):Nat×Nat×Int :=
 if gP b bits≠0 then(0,0,gP b bits)else
 if(ac b (cx b bits)).toNat/2^uB bits (cx b bits)≠0 then(0,0,4)else
 (cY (b.take (cx b bits+1))%18446744073709551616,cx b bits+1,0)
def Bq(b:Af)(i:Nat):Int:=IntKind.i64.wrap ((cY (b.take (i+1)):Int)-(if 64<=(ac b i).toNat%128 then 2^(7*(i+1))else 0))
def di(b:Af)(bits:Nat):Int×Nat×Int :=
 if gP b bits≠0 then(0,0,gP b bits)else
 if(ac b (cx b bits)).toNat/2^(uB bits (cx b bits)-1)≠0/\(ac b (cx b bits)).toNat/2^(uB bits (cx b bits)-1)≠127/2^(uB bits (cx b bits)-1)then(0,0,4)else
 (Bq b (cx b bits),cx b bits+1,0)
def KT{bits i:Nat}(h:1<=bits/\bits<=64)(hi:i<mst bits):1<=uB bits i/\uB bits i<=7:=by
 unfold uB mst at*;split<;>omega
def G6{bits:Nat}(h:1<=bits/\bits<=64):mst bits<=10:=by unfold mst;omega
def rf{a b:Int}(h:a%18446744073709551616=b%18446744073709551616):IntKind.i64.wrap a=IntKind.i64.wrap b:=by
 rw[u_,u_];omega
def aD(n:Nat):Af:=if n<128 then[UInt8.ofNat n]else UInt8.ofNat (n%128+128)::aD (n/128)
termination_by n
decreasing_by omega
def gQ(n:Int):Af:=if -64<=n/\n<=63 then[UInt8.ofNat (n%128).toNat]else UInt8.ofNat ((n%128).toNat+128)::gQ (n/128)
termination_by n.natAbs
decreasing_by omega
def Ck{n:Nat}(h:n<128):aD n=[UInt8.ofNat n]:=by rw[aD,au h]
def HS{n:Nat}(h:¬n<128):aD n=UInt8.ofNat (n%128+128)::aD (n/128):=by rw[aD,ak h]
def yO{n:Int}(h:-64<=n/\n<=63):gQ n=[UInt8.ofNat (n%128).toNat]:=by rw[gQ,au h]
def HQ{n:Int}(h:¬(-64<=n/\n<=63)):gQ n=UInt8.ofNat ((n%128).toNat+128)::gQ (n/128):=by rw[gQ,ak h]
def ofNat_toNat{n:Nat}(h:n<256):(UInt8.ofNat n).toNat=n:=by simp[UInt8.toNat_ofNat',AI h]
def IC{n:Nat}(h:n<256):de (UInt8.ofNat n)=[.int .u8 n]:=by rw[aes,ofNat_toNat h]
def mi{k:Nat}:∀{n:Nat},n<128^(k+1)->(aD n).length<=k+1:=by
 induction k with
 | zero=>intro n h;rw[Ck (by simpa using h)];simp
 | succ k ih =>
  intro n h;by_cases h1:n<128
  .rw[Ck h1];simp
  .rw[HS h1];have:=ih (n:=n/128) (by rw[Nat.pow_succ]at h;omega);simp;omega
def DL(n:Nat):0<(aD n).length:=by
 by_cases h1:n<128
 .rw[Ck h1];simp
 .rw[HS h1];simp
def jM(n:Int):List AV:=[.int .i64 n]
def ce(n:Int):jM n=[.int .i64 n]:=rfl
attribute[go_sem] ce
structure be where
 op:Int
 a:Int
 b:Int
 n:Int
 k:Int
 v:Int
 x:Int
 ty:List Int
 lb:List Int
def bn(i:be):AV:=.agg [.int .i64 i.op,.int .i64 i.a,.int .i64 i.b,.int .u64 i.n,.int .i64 i.k,.int .i64 i.v,.int .i64 i.x,.sl 1 (i.ty.map jM),.sl 1 (i.lb.map jM)]
def dw(i:be):bn i = .agg [.int .i64 i.op,.int .i64 i.a,.int .i64 i.b,.int .u64 i.n,.int .i64 i.k,.int .i64 i.v,.int .i64 i.x,.sl 1 (i.ty.map jM),.sl 1 (i.lb.map jM)]:=rfl
def az(i:be):List AV:=[.int .i64 i.op,.int .i64 i.a,.int .i64 i.b,.int .u64 i.n,.int .i64 i.k,.int .i64 i.v,.int .i64 i.x,.sl 1 (i.ty.map jM),.sl 1 (i.lb.map jM)]
instance:Inhabited be:=⟨⟨0,0,0,0,0,0,0,[],[]⟩⟩
structure Ft where
 ps:List Int
 rs:List Int
structure Lm where
 mn:Int
 mx:Int
 hs:Bool
structure Gl where
 v:Int
 mu:Bool
structure Im where
 m:Af
 n:Af
 k:Int
 f:Int
 te:Int
 tl:Lm
 me:Lm
 g:Gl
structure Cd where
 t:Int
 lo:List Int
 b:List be
structure Tb where
 e:Int
 l:Lm
structure Gd where
 g:Gl
 i:List be
structure Ex where
 n:Af
 k:Int
 i:Int
structure El where
 mo:Int
 tb:Int
 o:List be
 ty:Int
 it:List (List be)
structure Da where
 mo:Int
 me:Int
 o:List be
 b:Af
structure Cu where
 af:Int
 n:Af
 b:Af
structure Md where
 ts:List Ft
 ims:List Im
 fs:List Cd
 tbs:List Tb
 ms:List Lm
 gs:List Gd
 exs:List Ex
 hs:Bool
 st:Int
 els:List El
 ds:List Da
 cs:List Cu
instance:Inhabited Ft:=⟨⟨[],[]⟩⟩
instance:Inhabited Lm:=⟨⟨0,0,false⟩⟩
instance:Inhabited Gl:=⟨⟨0,false⟩⟩
instance:Inhabited Im:=⟨⟨[],[],0,0,0,default,default,default⟩⟩
instance:Inhabited Cd:=⟨⟨0,[],[]⟩⟩
instance:Inhabited Tb:=⟨⟨0,default⟩⟩
instance:Inhabited Gd:=⟨⟨default,[]⟩⟩
instance:Inhabited Ex:=⟨⟨[],0,0⟩⟩
instance:Inhabited El:=⟨⟨0,0,[],0,[]⟩⟩
instance:Inhabited Da:=⟨⟨0,0,[],[]⟩⟩
instance:Inhabited Cu:=⟨⟨0,[],[]⟩⟩
instance:Inhabited Md:=⟨⟨[],[],[],[],[],[],[],false,0,[],[],[]⟩⟩
def my(x:Ft):List AV:=[.sl 1 (x.ps.map jM),.sl 1 (x.rs.map jM)]
def j7(x:Lm):List AV:=[.int .i64 x.mn,.int .i64 x.mx,.bool x.hs]
def Ek(x:Gl):List AV:=[.int .i64 x.v,.bool x.mu]
def pw(x:Im):List AV:=[.str x.m,.str x.n,.int .i64 x.k,.int .i64 x.f,.int .i64 x.te,.int .i64 x.tl.mn,.int .i64 x.tl.mx,.bool x.tl.hs,.int .i64 x.me.mn,.int .i64 x.me.mx,.bool x.me.hs,.int .i64 x.g.v,.bool x.g.mu]
def kM(x:Cd):List AV:=[.int .i64 x.t,.sl 1 (x.lo.map jM),.sl 9 (x.b.map az)]
def rM(x:Tb):List AV:=[.int .i64 x.e,.int .i64 x.l.mn,.int .i64 x.l.mx,.bool x.l.hs]
def wF(x:Gd):List AV:=[.int .i64 x.g.v,.bool x.g.mu,.sl 9 (x.i.map az)]
def vx(x:Ex):List AV:=[.str x.n,.int .i64 x.k,.int .i64 x.i]
def lQ(l:List be):List AV:=[.sl 9 (l.map az)]
def eF(x:El):List AV:=[.int .i64 x.mo,.int .i64 x.tb,.sl 9 (x.o.map az),.int .i64 x.ty,.sl 1 (x.it.map lQ)]
def iz(x:Da):List AV:=[.int .i64 x.mo,.int .i64 x.me,.sl 9 (x.o.map az),.sl 1 (x.b.map de)]
def yf(x:Cu):List AV:=[.int .i64 x.af,.str x.n,.sl 1 (x.b.map de)]
def vl(x:Md):List AV:=[.sl 2 (x.ts.map my),.sl 13 (x.ims.map pw),.sl 3 (x.fs.map kM),.sl 4 (x.tbs.map rM),.sl 3 (x.ms.map j7),.sl 3 (x.gs.map wF),.sl 3 (x.exs.map vx),.bool x.hs,.int .i64 x.st,.sl 5 (x.els.map eF),.sl 4 (x.ds.map iz),.sl 3 (x.cs.map yf)]
def dC(x:Ft):my x=[.sl 1 (x.ps.map jM),.sl 1 (x.rs.map jM)]:=rfl
def dc(x:Lm):j7 x=[.int .i64 x.mn,.int .i64 x.mx,.bool x.hs]:=rfl
def dg(x:Im):pw x=[.str x.m,.str x.n,.int .i64 x.k,.int .i64 x.f,.int .i64 x.te,.int .i64 x.tl.mn,.int .i64 x.tl.mx,.bool x.tl.hs,.int .i64 x.me.mn,.int .i64 x.me.mx,.bool x.me.hs,.int .i64 x.g.v,.bool x.g.mu]:=rfl
def df(x:Cd):kM x=[.int .i64 x.t,.sl 1 (x.lo.map jM),.sl 9 (x.b.map az)]:=rfl
def dA(x:Tb):rM x=[.int .i64 x.e,.int .i64 x.l.mn,.int .i64 x.l.mx,.bool x.l.hs]:=rfl
def s8(x:Gd):wF x=[.int .i64 x.g.v,.bool x.g.mu,.sl 9 (x.i.map az)]:=rfl
def fR(x:Ex):vx x=[.str x.n,.int .i64 x.k,.int .i64 x.i]:=rfl
def iG(l:List be):lQ l=[.sl 9 (l.map az)]:=rfl
def eX(x:El):eF x=[.int .i64 x.mo,.int .i64 x.tb,.sl 9 (x.o.map az),.int .i64 x.ty,.sl 1 (x.it.map lQ)]:=rfl
def fQ(x:Da):iz x=[.int .i64 x.mo,.int .i64 x.me,.sl 9 (x.o.map az),.sl 1 (x.b.map de)]:=rfl
def fv(x:Cu):yf x=[.int .i64 x.af,.str x.n,.sl 1 (x.b.map de)]:=rfl
def b_(x:Md):vl x=[.sl 2 (x.ts.map my),.sl 13 (x.ims.map pw),.sl 3 (x.fs.map kM),.sl 4 (x.tbs.map rM),.sl 3 (x.ms.map j7),.sl 3 (x.gs.map wF),.sl 3 (x.exs.map vx),.bool x.hs,.int .i64 x.st,.sl 5 (x.els.map eF),.sl 4 (x.ds.map iz),.sl 3 (x.cs.map yf)]:=rfl
def gy(x:Md):AV:=.agg (vl x)
def bL{α:Type}(p:Nat->α->Prop)(B:Nat)(l:List α):Prop:=l.length<=B/\∀a∈l,p B a
def El1{α:Type}(τ:Ty)(f:α->List AV)(p:Nat->α->Prop):Prop:=∀r,τ.ok r->∃a,aZ Nd r (f a)/\p maxLen a/\∀B,τ.bd B r->p B a
def Z8{α:Type}{τ:Ty}{f:α->List AV}{p:Nat->α->Prop}(h:El1 τ f p):∀{rows:List (List AV)},(∀r∈rows,τ.ok r)->∃l:List α,aZ (aZ Nd) rows (l.map f)/\(∀a∈l,p maxLen a)/\∀B,(∀r∈rows,τ.bd B r)->∀a∈l,p B a
 | [],_=>⟨[],trivial,(λa h=>by cases h),(λ_ _ a h=>by cases h)⟩
 | r::rows,hr=>by
  obtain⟨a,h1,h2,h3⟩:=h r (hr r (by simp));obtain⟨l,g1,g2,g3⟩:=Z8 h (rows:=rows) λr hr'=>hr r (by simp[hr']);refine⟨a::l,⟨h1,g1⟩,λb hb=>?_,λB hB b hb=>?_⟩
  .rcases dQ.1 hb with rfl|hb
   .exact h2
   .exact g2 b hb
  .rcases dQ.1 hb with rfl|hb
   .exact h3 B (hB r (by simp))
   .exact g3 B (λr hr'=>hB r (by simp[hr'])) b hb
def Ht{st:Nat}{rows rows':List (List AV)}(h:aZ (aZ Nd) rows rows'):Nd (.sl st rows) (.sl st rows'):=by
 refine .sl st _ _ h.length (λi r r' h1 h2=>?_) (λi j r r' x y h1 h2 h3 h4=>?_)
 .obtain⟨a,e1,e2⟩:=h.get h2;obtain rfl:=zB (h1.symm.trans e1);exact e2.length
 .obtain⟨a,e1,e2⟩:=h.get h2;obtain rfl:=zB (h1.symm.trans e1);obtain⟨b,e3,e4⟩:=e2.get h4;obtain rfl:=zB (h3.symm.trans e3);exact e4
def slN{α:Type}{τ:Ty}{f:α->List AV}{p:Nat->α->Prop}(h:El1 τ f p){r:List AV}(hr:(Ty.sl τ).ok r):∃x l,r=[x]/\Nd x (.sl τ.n (l.map f))/\bL p maxLen l/\∀B,(Ty.sl τ).bd B [x]->bL p B l:=by
 rcases hr with rfl|⟨rows,rfl,h2,h3⟩
 .exact⟨_,[],rfl,.nl _,⟨cm _,λa h=>by cases h⟩,λB _=>⟨cm _,λa h=>by cases h⟩⟩
 .obtain⟨l,g1,g2,g3⟩:=Z8 h h3;have hl:=g1.length;rw[bZ]at hl;refine⟨_,l,rfl,Ht g1,⟨by omega,g2⟩,λB hB=>?_⟩;obtain⟨q1,q2⟩:=hB _ _ rfl;exact⟨by omega,g3 B q2⟩
def aiQ{α:Type}{τ:Ty}{f:α->List AV}{p:Nat->α->Prop}(h:El1 τ f p){x:AV}(hx:(Ty.sl τ).okV x):∃l,nld x (.sl τ.n (l.map f))/\bL p maxLen l/\∀B,(Ty.sl τ).bdV B x->bL p B l:=by
 obtain⟨y,l,h1,h2,h3,h4⟩:=slN h (r:=[x]) hx;simp only[List.cons.injEq,and_true]at h1;subst h1;exact⟨l,.inl h2,h3,λB hB=>h4 B hB⟩
def adC{n:Int}(h:(Lit.int .u8 n).wf=true):0<=n/\n<=255:=by simpa[Lit.wf,IntKind.min,IntKind.max,IntKind.signed,IntKind.bits]using h
def noB{α:Type}(_:Nat)(_:α):Prop:=True
def aeM:El1 (.int .u8) de noB:=λr h=>by
 obtain⟨n,rfl,hw⟩:=h;have hn:=adC hw;refine⟨UInt8.ofNat n.toNat,?_,trivial,λ_ _=>trivial⟩;rw[IC (by omega),show((n.toNat:Nat):Int)=n by omega];exact⟨.rfl _,trivial⟩
def aic{τ:Ty}{xs:List AV}(h:aZ Ty.okV [τ] xs):∃x,xs=[x]/\τ.okV x:=by
 match xs,h with
 | [x],h=>exact⟨x,rfl,h.1⟩
def agE:vV pg 9 36=some (.sl (.int .u8)):=by kernel_rfl
def cpI(x:be):Prop:=x.ty.length<=1048576/\x.lb.length<=1048576/\0<=x.n
def Rk(l:List be):Prop:=l.length<=1048576/\∀x∈l,cpI x
def cpF(x:Ft):Prop:=x.ps.length<=1048576/\x.rs.length<=1048576
def ahr(x:Cd):Prop:=x.lo.length<=1048576/\Rk x.b
def ahv(x:Gd):Prop:=Rk x.i
def ahu(x:El):Prop:=Rk x.o/\x.it.length<=1048576/\∀l∈x.it,Rk l
def aht(x:Da):Prop:=Rk x.o/\x.b.length<=1048576
def ahs(x:Cu):Prop:=x.b.length<=1048576
structure cpM(m:Md):Prop where
 ts:m.ts.length<=1048576/\∀x∈m.ts,cpF x
 ims:m.ims.length<=1048576
 fs:m.fs.length<=1048576/\∀x∈m.fs,ahr x
 tbs:m.tbs.length<=1048576
 ms:m.ms.length<=1048576
 gs:m.gs.length<=1048576/\∀x∈m.gs,ahv x
 exs:m.exs.length<=1048576
 els:m.els.length<=1048576/\∀x∈m.els,ahu x
 ds:m.ds.length<=1048576/\∀x∈m.ds,aht x
 cs:m.cs.length<=1048576/\∀x∈m.cs,ahs x
def VC(x:be):Prop:=x.ty.length<=9223372036854775807/\x.lb.length<=9223372036854775807/\0<=x.n
def L_(l:List be):Prop:=l.length<=9223372036854775807/\∀x∈l,VC x
def smF(x:Ft):Prop:=x.ps.length<=9223372036854775807/\x.rs.length<=9223372036854775807
def U3(x:Cd):Prop:=x.lo.length<=9223372036854775807/\L_ x.b
def adk(x:Gd):Prop:=L_ x.i
def Y6(x:El):Prop:=L_ x.o/\x.it.length<=140737488355328/\∀l∈x.it,L_ l
def Y5(x:Da):Prop:=L_ x.o/\x.b.length<=9223372036854775807
def aiR(x:Cu):Prop:=x.b.length<=9223372036854775807
structure U4(m:Md):Prop where
 ts:m.ts.length<=140737488355328/\∀x∈m.ts,smF x
 ims:m.ims.length<=140737488355328
 fs:m.fs.length<=140737488355328/\∀x∈m.fs,U3 x
 tbs:m.tbs.length<=140737488355328
 ms:m.ms.length<=140737488355328
 gs:m.gs.length<=140737488355328/\∀x∈m.gs,adk x
 exs:m.exs.length<=140737488355328
 els:m.els.length<=140737488355328/\∀x∈m.els,Y6 x
 ds:m.ds.length<=140737488355328/\∀x∈m.ds,Y5 x
 cs:m.cs.length<=140737488355328/\∀x∈m.cs,aiR x
def eV{α:Type}[Inhabited α]{p:α->Prop}{l:List α}(h:∀x∈l,p x){i:Nat}(hi:i<l.length):p (ac l i):=by
 rw[bv hi];exact h _ (tL hi)
def D_{α:Type}[Inhabited α]{l:List α}{i:Nat}(h:i<l.length):l.take (i+1)=l.take i++[ac l i]:=by rw[Ei,pf h,Eh]
def ac1(n:Nat)(hn:n<18446744073709551616):aj pg 192 [.nl,.int .u64 n] (.sl 1 ((aD n).map de)):=by
 refine aC Ct ?_;simp only[Ct,go_sem];have a0:xf 6 5 1 0 0 [] (some ⟨5,1,[],false⟩)=some (.ms 6 1 0 0,.reb 6 ⟨5,1,[],false⟩):=rfl;simp only[go_sem,a0];refine aq (λq:Af×Nat=>⟨[(5,.ms 6 1 0 q.1.length),(1,.int .u64 q.2)],[(6,⟨5,1,q.1.map de,false⟩)]⟩) (λq=>q.1++aD q.2=aD n/\q.2<=n) (λq=>q.2) ([],n) ⟨rfl,a_ _⟩ (Wk.of ?_ ?_) ?_
 .simp[go_sem]
 .simp[go_sem]
 rintro⟨acc,m⟩ ⟨hq,hm⟩;replace hq:acc++aD m=aD n:=hq;replace hm:m<=n:=hm;have hlen:acc.length+(aD m).length<=10:=by
  have:=mi (k:=9) (n:=n) (by omega);rw[<-hq]at this;simpa using this
 have w1:IntKind.u8.wrap (m:Int)=((m%256:Nat):Int):=by rw[rH];omega
 have happ:=λys=>bq 6 5 1 acc.length de acc ys rfl;by_cases h1:m<128
 .have d1:decide ((m:Int)>=128)=false:=by simp;omega
  simp only[go_sem,d1,w1,happ];refine⟨by omega,aB [6] ?_ rfl⟩;have e1:m%256=m:=by omega
  simp only[go_sem,w1,<-hq,Ck h1,oz,IC (show m<256 by omega),e1];simp;exact cI (by simp)
 .have d1:decide ((m:Int)>=128)=true:=by simp;omega
  have w2:=ZV (x:=m%256) (by omega);have e1:m%256%128=m%128:=by omega
  have w3:A0 .u64 (m:Int) 7=((m/128:Nat):Int):=sw .u64 (x:=m) (s:=7) (by decide);simp only[go_sem,d1,w1,w2,e1,happ];refine⟨by omega,by decide,aF (acc++[UInt8.ofNat (m%128+128)],m/128) ⟨by rw[xP,<-hq,HS h1];rfl,by omega⟩ (show m/128<m by omega) (Wk.of ?_ ?_)⟩
  .simp only[go_sem,w3,cP,dK]
  .simp only[go_sem,oz,IC (show m%128+128<256 by omega)]
def WJ(n:Int):A0 .i64 n 7=n/128:=by
 unfold A0;rw[show min (7:Int).toNat IntKind.i64.bits=7 from rfl,Int.fdiv_eq_ediv_of_nonneg _ (by decide)];rfl
def yN{k:Nat}:∀{n:Int},-(64*128^k:Int)<=n->n<64*128^k->(gQ n).length<=k+1:=by
 induction k with
 | zero=>intro n h1 h2;rw[yO (by omega)];simp
 | succ k ih =>
  intro n h1 h2;by_cases h:-64<=n/\n<=63
  .rw[yO h];simp
  .rw[HQ h];rw[Int.pow_succ]at h1 h2;generalize (128:Int)^k=p at*;have:=ih (n:=n/128) (by omega) (by omega);simp;omega
def L1(n:Int)(hn:-9223372036854775808<=n/\n<9223372036854775808):aj pg 313 [.nl,.int .i64 n] (.sl 1 ((gQ n).map de)):=by
 refine aC Cs ?_;have a0:xf 6 5 1 0 0 [] (some ⟨5,1,[],false⟩)=some (.ms 6 1 0 0,.reb 6 ⟨5,1,[],false⟩):=rfl;simp only[Cs,go_sem,a0];refine aq (λq:Af×Int=>⟨[(5,.ms 6 1 0 q.1.length),(1,.int .i64 q.2)],[(6,⟨5,1,q.1.map de,false⟩)]⟩) (λq=>q.1++gQ q.2=gQ n/\-9223372036854775808<=q.2/\q.2<9223372036854775808) (λq=>q.2.natAbs) ([],n) ⟨rfl,hn⟩ (Wk.of ?_ ?_) ?_
 .simp[go_sem]
 .simp[go_sem]
 rintro⟨acc,m⟩ ⟨hq,hm⟩;replace hq:acc++gQ m=gQ n:=hq;replace hm:-9223372036854775808<=m/\m<9223372036854775808:=hm;have hlen:acc.length+(gQ m).length<=10:=by
  have:=yN (k:=9) (n:=n) (by omega) (by omega);rw[<-hq]at this;simpa using this
 have w1:IntKind.u8.wrap (m:Int)=(((m%256).toNat:Nat):Int):=by rw[rH];omega
 have happ:=λys=>bq 6 5 1 acc.length de acc ys rfl;have e1:(m%256).toNat%128=(m%128).toNat:=by omega
 by_cases h1:-64<=m/\m<=63
 .have d1:decide (m < -64)=false:=by simp;omega
  have d2:decide (m>63)=false:=by simp;omega
  have w2:=Q9 (x:=(m%256).toNat) (by omega);simp only[go_sem,d1,d2,w1,w2,e1,happ];refine⟨by omega,aB [6] ?_ rfl⟩;simp only[go_sem,<-hq,yO h1,oz,IC (show(m%128).toNat<256 by omega),dK];simp;exact cI (by simp)
 .have w2:=ZV (x:=(m%256).toNat) (by omega);have w3:=WJ m;have fin:∀s:St,leE s.env [(5,.ms 6 1 0 (acc.length+1)),(1,.int .i64 (m/128))]->SV s.heap [(6,⟨5,1,acc.map de++[[.int .u8 (((m%128).toNat+128:Nat):Int)]],false⟩)] ->
    ∀K,ZN (λq:Af×Int=>⟨[(5,.ms 6 1 0 q.1.length),(1,.int .i64 q.2)],[(6,⟨5,1,q.1.map de,false⟩)]⟩) (λq=>q.1++gQ q.2=gQ n/\-9223372036854775808<=q.2/\q.2<9223372036854775808) (λq=>q.2.natAbs) (acc,m) K .nrm s:=λs hs1 hs2 K=>by
   refine aF (acc++[UInt8.ofNat ((m%128).toNat+128)],m/128) ⟨by rw[xP,<-hq,HQ h1];rfl,by show _<=m/128;omega,by show m/128<_;omega⟩ (show(m/128).natAbs<m.natAbs by omega) (Wk.of ?_ ?_)
   .simpa only[cP,dK]using hs1
   .simpa only[oz,eG,qF,IC (show(m%128).toNat+128<256 by omega)]using hs2
  by_cases h2:m < -64
  .have d1:decide (m < -64)=true:=by simp;omega
   simp only[go_sem,d1,w1,w2,e1,happ];refine⟨by omega,by decide,fin _ ?_ ?_ _⟩
   .simp only[go_sem,w3]
   .simp only[go_sem]
  .have d1:decide (m < -64)=false:=by simp;omega
   have d2:decide (m>63)=true:=by simp;omega
   simp only[go_sem,d1,d2,w1,w2,e1,happ];refine⟨by omega,by decide,fin _ ?_ ?_ _⟩
   .simp only[go_sem,w3]
   .simp only[go_sem]
def DG{n y s:Nat}(p:Nat)(hp:2^s=p)(hs:s<=56)(hn:n<p)(hy:y<256):qT .u64 (n:Int) (ib .u64 (y:Int) (s:Int))=((n+y*p:Nat):Int):=by
 subst hp;rw[NR (by omega),yL (by omega) hn];have h1:2^s<=2^56:=Ig (by decide) hs;have h2:y*2^s<=255*2^56:=Nat.mul_le_mul (by omega) h1;rw[AI (by omega)]
def zI(l:Af):Nat:=(ac l 0).toNat+(ac l 1).toNat*256+(ac l 2).toNat*65536+(ac l 3).toNat*16777216+(ac l 4).toNat*4294967296+(ac l 5).toNat*1099511627776+(ac l 6).toNat*281474976710656+(ac l 7).toNat*72057594037927936
def xO(l:Af):zI l<18446744073709551616:=by
 have h0:=(ac l 0).toNat_lt;have h1:=(ac l 1).toNat_lt;have h2:=(ac l 2).toNat_lt;have h3:=(ac l 3).toNat_lt;have h4:=(ac l 4).toNat_lt;have h5:=(ac l 5).toNat_lt;have h6:=(ac l 6).toNat_lt;have h7:=(ac l 7).toNat_lt;unfold zI;omega
def qf{a b h:Nat}(hh:(a ||| b) &&& h=0):a &&& h=0/\b &&& h=0:=by
 rw[Nat.and_or_distrib_right]at hh;exact⟨Nat.eq_zero_of_le_zero (by rw[<-hh];exact Nat.left_le_or),Nat.eq_zero_of_le_zero (by rw[<-hh];exact Nat.right_le_or)⟩
def KN{a:Nat}(ha:a<18446744073709551616):bO .u64 (a:Int) 9259542123273814144=((a &&& 9259542123273814144:Nat):Int):=by
 have h:(BitVec.ofInt 64 (a:Int) &&& BitVec.ofInt 64 ((9259542123273814144:Nat):Int)).toNat=a &&& 9259542123273814144:=yb ha (by decide);show IntKind.u64.wrap ((BitVec.ofInt 64 (a:Int) &&& BitVec.ofInt 64 ((9259542123273814144:Nat):Int)).toNat)=_;rw[h,mq];have:a &&& 9259542123273814144<=a:=Nat.and_le_left;omega
def Yc{a b:Nat}(ha:a<18446744073709551616)(hb:b<18446744073709551616):qT .u64 (a:Int) (b:Int)=((a ||| b:Nat):Int)/\a ||| b<18446744073709551616:=by
 have h:(BitVec.ofInt 64 (a:Int) ||| BitVec.ofInt 64 (b:Int)).toNat=a ||| b:=LB ha hb;have hl:a ||| b<2^64:=Nat.or_lt_two_pow ha hb;refine⟨?_,hl⟩;show IntKind.u64.wrap ((BitVec.ofInt 64 (a:Int) ||| BitVec.ofInt 64 (b:Int)).toNat)=_;rw[h,mq];omega
def vT(l:Af):Option Nat:=Lib.checkN l.length (ac l 1).toNat (ac l 2).toNat (ac l 3).toNat (Lib.firstT (ac l 0).toNat%8) (Lib.accLo (Lib.firstT (ac l 0).toNat/16)) (Lib.accHi (Lib.firstT (ac l 0).toNat/16))
def uv(l:Af):Bool:=Lib.validD l
def UJ{l:Af}{k:Nat}(h:vT l=some k):2<=k/\k<=l.length:=by
 unfold vT Lib.checkN at h
 repeat' split at h
 all_goals first|(cases h;done)|(cases h;omega)
def adG:uv []=true:=rfl
def adE{l:Af}(hl:0<l.length)(h:(ac l 0).toNat<128):uv l=uv (l.drop 1):=by
 match l,hl with
 | b::r,_=>exact Lib.validD_cons b r h
def MX(l:Af)(i:Nat):(⟨l.toArray⟩:ByteArray).get! i=ac l i:=by
 unfold ac;show l.toArray[i]! = _;simp
def dcL(l:Af):Lib.decodeL l=Lib.decodeN l.length (ac l 0).toNat (ac l 1).toNat (ac l 2).toNat (ac l 3).toNat:=by
 have h:=Lib.decode_at ⟨l.toArray⟩ 0;simp only[MX,zE,Nat.sub_zero]at h;exact h
def Vl{l:Af}(hl:0<l.length)(h:¬(ac l 0).toNat<128):(vT l=none/\uv l=false)\/∃k,vT l=some k/\uv l=uv (l.drop k):=by
 have h1:=Lib.validD_step l (List.length_pos_iff.1 hl);rcases Lib.check_decode l.length (ac l 0).toNat (ac l 1).toNat (ac l 2).toNat (ac l 3).toNat hl (by omega) (ac l 0).toNat_lt (ac l 1).toNat_lt (ac l 2).toNat_lt (ac l 3).toNat_lt with⟨c1,c2⟩|⟨k,c0,c1,c2⟩<;>rw[<-dcL]at c2
 .exact .inl ⟨c1,h1.trans (by rw[c2];rfl)⟩
 .exact .inr ⟨k,c1,h1.trans (by rw[ak (λq=>by omega),c2];rfl)⟩
def adH{l:Af}{k:Nat}(hl:0<l.length)(h:¬(ac l 0).toNat<128)(hk:vT l=some k):uv l=uv (l.drop k):=by
 rcases Vl hl h with⟨c1,_⟩|⟨j,c1,c2⟩
 .rw[c1]at hk;cases hk
 .rw[c1]at hk;cases hk;exact c2
def adF{l:Af}(hl:0<l.length)(h:¬(ac l 0).toNat<128)(hk:vT l=none):uv l=false:=by
 rcases Vl hl h with⟨_,c⟩|⟨j,c1,_⟩
 .exact c
 .rw[c1]at hk;cases hk
def sy{l:Af}(hl:8<=l.length)(h:zI l &&& 9259542123273814144=0):uv l=uv (l.drop 8):=by
 refine Lib.validD_ascii 8 l ((Lib.word_asc ⟨l.toArray⟩ (by simpa[ByteArray.size]using hl)).1 ?_);simp only[MX];have e:Lib.leNat [ac l 0,ac l 1,ac l 2,ac l 3,ac l 4,ac l 5,ac l 6,ac l 7]=zI l:=by
  unfold zI;simp only[Lib.leNat];omega
 rw[e];exact h
def c64(b:UInt8):IntKind.u64.wrap (b.toNat:Int)=(b.toNat:Int):=by
 have:=b.toNat_lt;rw[mq];omega
def adL(l:Af):qT .u64 (qT .u64 (qT .u64 (qT .u64 (qT .u64 (qT .u64 (qT .u64 ((ac l 0).toNat:Int) (ib .u64 ((ac l 1).toNat:Int) 8)) (ib .u64 ((ac l 2).toNat:Int) 16)) (ib .u64 ((ac l 3).toNat:Int) 24)) (ib .u64 ((ac l 4).toNat:Int) 32)) (ib .u64 ((ac l 5).toNat:Int) 40)) (ib .u64 ((ac l 6).toNat:Int) 48)) (ib .u64 ((ac l 7).toNat:Int) 56)=((zI l:Nat):Int):=by
 have h0:=(ac l 0).toNat_lt;have h1:=(ac l 1).toNat_lt;have h2:=(ac l 2).toNat_lt;have h3:=(ac l 3).toNat_lt;have h4:=(ac l 4).toNat_lt;have h5:=(ac l 5).toNat_lt;have h6:=(ac l 6).toNat_lt;have h7:=(ac l 7).toNat_lt;have e1:qT .u64 (((ac l 0).toNat:Nat):Int) (ib .u64 ((ac l 1).toNat:Int) 8)=(((ac l 0).toNat+(ac l 1).toNat*256:Nat):Int):=DG (s:=8) 256 (by decide) (by decide) (by omega) h1;have e2:qT .u64 (((ac l 0).toNat+(ac l 1).toNat*256:Nat):Int) (ib .u64 ((ac l 2).toNat:Int) 16)=(((ac l 0).toNat+(ac l 1).toNat*256+(ac l 2).toNat*65536:Nat):Int):=DG (s:=16) 65536 (by decide) (by decide) (by omega) h2;have e3:qT .u64 (((ac l 0).toNat+(ac l 1).toNat*256+(ac l 2).toNat*65536:Nat):Int) (ib .u64 ((ac l 3).toNat:Int) 24)=(((ac l 0).toNat+(ac l 1).toNat*256+(ac l 2).toNat*65536+(ac l 3).toNat*16777216:Nat):Int):=DG (s:=24) 16777216 (by decide) (by decide) (by omega) h3;have e4:qT .u64 (((ac l 0).toNat+(ac l 1).toNat*256+(ac l 2).toNat*65536+(ac l 3).toNat*16777216:Nat):Int) (ib .u64 ((ac l 4).toNat:Int) 32)=(((ac l 0).toNat+(ac l 1).toNat*256+(ac l 2).toNat*65536+(ac l 3).toNat*16777216+(ac l 4).toNat*4294967296:Nat):Int):=DG (s:=32) 4294967296 (by decide) (by decide) (by omega) h4;have e5:qT .u64 (((ac l 0).toNat+(ac l 1).toNat*256+(ac l 2).toNat*65536+(ac l 3).toNat*16777216+(ac l 4).toNat*4294967296:Nat):Int) (ib .u64 ((ac l 5).toNat:Int) 40)=(((ac l 0).toNat+(ac l 1).toNat*256+(ac l 2).toNat*65536+(ac l 3).toNat*16777216+(ac l 4).toNat*4294967296+(ac l 5).toNat*1099511627776:Nat):Int):=DG (s:=40) 1099511627776 (by decide) (by decide) (by omega) h5;have e6:qT .u64 (((ac l 0).toNat+(ac l 1).toNat*256+(ac l 2).toNat*65536+(ac l 3).toNat*16777216+(ac l 4).toNat*4294967296+(ac l 5).toNat*1099511627776:Nat):Int) (ib .u64 ((ac l 6).toNat:Int) 48)=(((ac l 0).toNat+(ac l 1).toNat*256+(ac l 2).toNat*65536+(ac l 3).toNat*16777216+(ac l 4).toNat*4294967296+(ac l 5).toNat*1099511627776+(ac l 6).toNat*281474976710656:Nat):Int):=DG (s:=48) 281474976710656 (by decide) (by decide) (by omega) h6;have e7:qT .u64 (((ac l 0).toNat+(ac l 1).toNat*256+(ac l 2).toNat*65536+(ac l 3).toNat*16777216+(ac l 4).toNat*4294967296+(ac l 5).toNat*1099511627776+(ac l 6).toNat*281474976710656:Nat):Int) (ib .u64 ((ac l 7).toNat:Int) 56)=(((ac l 0).toNat+(ac l 1).toNat*256+(ac l 2).toNat*65536+(ac l 3).toNat*16777216+(ac l 4).toNat*4294967296+(ac l 5).toNat*1099511627776+(ac l 6).toNat*281474976710656+(ac l 7).toNat*72057594037927936:Nat):Int):=DG (s:=56) 72057594037927936 (by decide) (by decide) (by omega) h7;rw[e1,e2,e3,e4,e5,e6,e7];rfl
def iE(l:Af)(h:8<=l.length):aj pg 334 [.sl 1 (l.map de)] (.int .u64 (zI l)):=by
 refine aC FX1 ?_;simp only[FX1,go_sem,c64];refine⟨by omega,by omega,by omega,by omega,by omega,by omega,by omega,by omega,by omega,by omega,by omega,by omega,by omega,by omega,by omega,by omega,by omega,by omega,by omega,by omega,by omega,by omega,by omega,?_⟩;exact aB [] (by simp only[go_sem,adL]) rfl
