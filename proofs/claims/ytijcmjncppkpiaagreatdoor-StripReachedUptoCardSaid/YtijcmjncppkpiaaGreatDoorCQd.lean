import Derived.Test.YtijcmjncppkpiaaGreatDoorCQc
import Derived.Test.YtijcmjncppkpiaaGreatDoorCQi0
import Derived.Test.YtijcmjncppkpiaaGreatDoorCQi1
import Derived.Test.YtijcmjncppkpiaaGreatDoorCQi2
import Derived.Test.YtijcmjncppkpiaaGreatDoorCQi3
import Derived.Test.YtijcmjncppkpiaaGreatDoorCQi4
import Derived.Test.YtijcmjncppkpiaaGreatDoorCQi5
import Derived.Shelf.Unicode.DecodeSlow
import Derived.Shelf.Strings.Search3
import Derived.Shelf.Strings.Fields
import Derived.Test.YtijcmjncppkpiaaGreatDoorCards
import Derived.Test.YtijcmjncppkpiaaGreatDoorTie
import Derived.Deep.DeepHandedRow
import Derived.Deep.DeepWitnessRowRef
import Derived.Lib.LaidTab
import Derived.Lib.LaidU8T
import Derived.Shelf.Vars
import Derived.Lay
import Derived.Lib.ValidAsc
import Derived.Shelf.Unicode.ValidAny
noncomputable section
set_option linter.all false
set_option maxRecDepth 100000
set_option maxHeartbeats 8000000
namespace Go.Proofs.YtijcmjncppkpiaaGreatDoor
open Go Go.Mw
def aeI:List AV:=(List.range 256).map λc=>.int .u8 (Lib.firstT c)
def aeJ:List AV:=(List.range 32).map λi=>.int .u8 (if i%2=0 then Lib.accLo (i/2)else Lib.accHi (i/2))
def yh{w:World}{b off:Nat}{v:Value}(h:w.cell? ⟨b,off,none⟩=some v):∃c t fr,w.heap[b]?=some (.cells c t fr)/\c[off]?=some v:=by
 unfold World.cell? at h;simp only at h;split at h
 .rename_i c t fr hb;exact⟨c,t,fr,hb,h⟩
 .cases h
def zo{w:World}{M:Nat->Prop}{b n:Nat}{f:Nat->Int}(hn:0<n)(h:∀j,j<n->w.cell? ⟨b,j,none⟩=some (.int .u8 (f j)))(hM:¬M b) :
  IRel M w (.pointer (some ⟨b,0,none⟩)) (.ip ((List.range n).map λj=>.int .u8 (f j))):=by
 obtain⟨c,t,fr,hb,_⟩:=yh (h 0 hn);refine .ip b 0 c t fr _ (λj=>.int .u8 (f j)) hb hM (λj hj=>?_) (λj x hx=>?_)
 .simp at hj;obtain⟨c',t',fr',hb',hc⟩:=yh (h j hj);rw[hb]at hb';cases hb';simpa using hc
 .simp only[fR,dc,B2]at hx;obtain⟨q,hq,rfl⟩:=hx;rw[B2]at hq;cases hq;exact .int _ _;have:=(gW.1 hq).1;simpa using this
def spT(c:Nat):Value:=.int .u8 (if Lib.isSp (UInt8.ofNat c)then 1 else 0)
def mZ{w w':World}{b off:Nat}{v:Value}(h:w'.heap[b]? = w.heap[b]?)(hc:w.cell? ⟨b,off,none⟩=some v):w'.cell? ⟨b,off,none⟩=some v:=by
 rw[World.cell?_of_block (w:=w) h];exact hc
def z8{w:World}{b off:Nat}{v:Value}(h:w.cell? ⟨b,off,none⟩=some v):b<w.heap.size:=by
 obtain⟨c,t,fr,h1,_⟩:=yh h;exact(j0.1 h1).1
def aeK:MT where
 B b:=(b=0\/b=1)\/(b=2\/b=3)
 H w:=Lib.Utf8Tabs 0 1 w/\(∀c,c<256->w.cell? ⟨2,c,none⟩=some (spT c))/\∃m,w.cell? ⟨3,0,none⟩=some (.int .i64 m)
 env:=[(1000000+0,.ip aeI),(1000000+1,.ip aeJ)]
 rel w M h hM p hp:=by
  simp only[bp,bZ,or_false]at hp;rcases hp with rfl|rfl
  .exact⟨by decide,zo (by decide) (λj hj=>h.1.1 j hj) (hM 0 (.inl (.inl rfl)))⟩
  .refine⟨by decide,zo (by decide) (λj hj=>?_) (hM 1 (.inl (.inr rfl)))⟩;obtain⟨h1,h2⟩:=h.1.2 (j/2) (by omega);by_cases h0:j%2=0
   .rw[aF h0];rw[show 2*(j/2)=j by omega]at h1;exact h1
   .rw[ax h0];rw[show 2*(j/2)+1=j by omega]at h2;exact h2
 stay w w' h hk:=⟨⟨λc hc=>mZ (hk _ (.inl (.inl rfl))) (h.1.1 c hc),λi hi=>⟨mZ (hk _ (.inl (.inr rfl))) (h.1.2 i hi).1,mZ (hk _ (.inl (.inr rfl))) (h.1.2 i hi).2⟩⟩,
  λc hc=>mZ (hk 2 (.inr (.inl rfl))) (h.2.1 c hc),by obtain⟨m,hm⟩:=h.2.2;exact⟨m,mZ (hk 3 (.inr (.inr rfl))) hm⟩⟩
 low w h b hb:=by
  rcases hb with(rfl|rfl)|(rfl|rfl)
  .exact z8 (h.1.1 0 (by decide))
  .exact z8 (h.1.2 0 (by decide)).1
  .exact z8 (h.2.1 0 (by decide))
  .obtain⟨m,hm⟩:=h.2.2;exact z8 hm
instance:ba Tryz.prog:=⟨aeK⟩
def au(F:av){f:FuncId}{args:List AV}{r:AV}(hi:lz pg F.body ⟨fW 0 args,[]⟩ (At F.res r))(hf:qm pg f=some F:=by kernel_rfl)(he:dp F.body=F.body:=by rfl)(hl:args.length=F.np:=by rfl):ah pg f args r:=vD nR hf he hl hi
def dj(F:av){f:FuncId}{args:List AV}{σ:List (Nat×aj)}{Post:AV->List (Nat×aj)->Prop}(hi:lz pg F.body ⟨fW 0 args,σ⟩ (B_ F.res Post))(hf:qm pg f=some F:=by kernel_rfl)(he:dp F.body=F.body:=by rfl)(hl:args.length=F.np:=by rfl):aZ pg f args σ (λid=>1000<=id/\id<2000) Post:=kB nR hf he hl hi
open Go.ChangeShapes Go.WideShapes Go.ChangeAt Go.RowKit
def own:ownKnob Tryz.prog.godebug=none:=by kernel_rfl
def TO:laidOutB Tryz.prog=true:=by kernel_rfl
abbrev J1:List (String×DataW Unit):=[("unicode/utf8.acceptRanges",Rows.laid_unicode_utf8_acceptRanges),("unicode.White_Space",Rows.laid_unicode_White_Space),("strings.asciiSpace",Rows.laid_strings_asciiSpace),("unicode/utf8.first",Rows.laid_unicode_utf8_first)]
def spL:List Int:=(List.range 256).map λc=>if Lib.isSp (UInt8.ofNat c)then 1 else 0
def spD:(Rows.laid_strings_asciiSpace:DataW Unit)=Lib.tabData .u8 spL:=by kernel_rfl
def gSp:Tryz.prog.globalNamed "strings.asciiSpace" = some 2:=by kernel_rfl
def tSp:(Tryz.prog.globals[2]?).map (·.type)=some 335:=by kernel_rfl
def uSp:Tryz.prog.underlying 335=some (.array 256 5):=by kernel_rfl
def uU8:Tryz.prog.underlying 5=some (.int .u8):=by kernel_rfl
def cU8:Tryz.prog.cellsOf 5=1:=by kernel_rfl
def cSp:Tryz.prog.cellsOf 335=256:=by kernel_rfl
def acJ {W:World} (h:laidMetH Tryz.prog J1 W):Lib.TabIs Tryz.prog W "strings.asciiSpace" .u8 spL:=by
 have h2:=Lib.laidMet.reads h (.tail _ (.tail _ (.head _)));rw[spD]at h2;obtain⟨g',t',cs,fuel,p,hg',ht',hvar,hd⟩:=h2;obtain rfl:=zA (gSp.symm.trans hg');obtain rfl:=zA (tSp.symm.trans ht');unfold Lib.TabIs;rw[hvar,<-Lib.cells_of_tab uSp uU8 cU8 cSp hd]
def ren:Go.Shelf.Ren:=⟨λx=>x,λt=>if t=119 then 335 else if t=138 then 337 else if t=139 then 338 else 5,λg=>if g=3 then 0 else 1⟩
def u8t:U8Types Tryz.prog ren:=⟨by kernel_rfl,by kernel_rfl,by kernel_rfl,by kernel_rfl⟩
def u8x:U8Extra Tryz.prog ren:=⟨by kernel_rfl,by kernel_rfl,by kernel_rfl,by kernel_rfl,by kernel_rfl,by kernel_rfl,by kernel_rfl⟩
def adn:(Rows.laid_unicode_utf8_acceptRanges:DataW Unit)=Lib.acceptData:=by kernel_rfl
def adM:Rows.laid_unicode_utf8_first=Lib.firstData:=by kernel_rfl
def Z4{W:World}(h:laidMetH Tryz.prog J1 W):Lib.Utf8Tabs 0 1 W:=by
 have h1:=Lib.laidMet.reads h (.head _);have h2:=Lib.laidMet.reads h (.tail _ (.tail _ (.tail _ (.head _))));rw[adn]at h1;rw[adM]at h2;exact utf8Tabs_of_readsT u8t u8x h2 h1
def ZR(c:Nat)(hc:c<256):Value.int .u8 (spL.getD c 0)=spT c:=by
 simp[spL,spT,List.getD,hc]
def Vw{W:World}(h:laidMetH Tryz.prog J1 W)(hs:W.ShapedOpen Tryz.prog):(ba.T Tryz.prog).H W :=
 ⟨Z4 h,λc hc=>by rw[(acJ h).cell gSp c (by simpa[spL]using hc),ZR c hc],
 Go.Proofs.cell_of_shapedOpen_int (g:=3) (t:=3) (k:=.i64) (zero:=#[.int .i64 0]) hs (of_decide_eq_true (by kernel_rfl)) (by kernel_rfl) rfl (by kernel_rfl) (by kernel_rfl) (by kernel_rfl)⟩
abbrev yq(os:Os):World:=World.laidAll Tryz.prog os J1
def SP{P:Program}(h:∀fn∈P.funcs.toList,fn.goes=false)(c:OpenClaim)(hs:c.start = .entering):false=c.goesBy P:=by
 have k1:∀f:FuncId,(P.funcs[f]?).any Func.goes=false:=λf=>by
  cases hf:P.funcs[f]? with
  | none=>rfl
  | some fn=>exact h fn (by
    obtain⟨h1,rfl⟩:=j0.1 hf;exact Array.getElem_mem_toList h1)
 have key:∀f:FuncId,P.goes f=false:=λf=>by
  unfold Program.goes;have e1:(P.closure f).any (λg=>(P.funcs[g]?).any Func.goes)=false:=Rp.2 λg _=>by rw[k1 g];decide
  have e2:P.funcs.any Func.goes=false:=by
   rw[<-Array.any_toList];exact Rp.2 λfn hfn=>by rw[h fn hfn];decide
  rw[e1,e2,Bool.and_false,Bool.or_false]
 unfold OpenClaim.goesBy Program.goesAt Program.goesFrom;rw[hs];cases P.funcNamed c.func with
 | none=>rfl
 | some f=>simp only[Option.any_some,key,Bool.or_false]
def NS{α:Type}{p:α->Bool}(n:Nat):∀(k:Nat)(l:List α),(∀i,i<k->((l.drop (i*n)).take n).all p=true)->l.length<=k*n->∀x∈l,p x=true
 | 0,l,_,hl,x,hx=>by
  have:l=[]:=VI (by omega);subst this;cases hx
 | k+1,l,h,hl,x,hx=>by
  have h0:=h 0 (by omega);rw[Nat.zero_mul,oK]at h0
  have ih:=NS n k (l.drop n) (λi hi=>by
   have:=h (i+1) (by omega);rw[MM,show n+i*n=(i+1)*n by rw[Nat.succ_mul,Nat.add_comm]];exact this) (by rw[Rq];rw[Nat.succ_mul]at hl;omega)
  rcases gh.1 (by rw[VK n l];exact hx)with q|q
  .exact f_.1 h0 x q
  .exact ih x q
def adP:((Tryz.prog.funcs.toList.drop (0*40)).take 40).all (λfn=>!fn.goes)=true:=by kernel_rfl
def adQ:((Tryz.prog.funcs.toList.drop (1*40)).take 40).all (λfn=>!fn.goes)=true:=by kernel_rfl
def adR:((Tryz.prog.funcs.toList.drop (2*40)).take 40).all (λfn=>!fn.goes)=true:=by kernel_rfl
def adS:((Tryz.prog.funcs.toList.drop (3*40)).take 40).all (λfn=>!fn.goes)=true:=by kernel_rfl
def adT:((Tryz.prog.funcs.toList.drop (4*40)).take 40).all (λfn=>!fn.goes)=true:=by kernel_rfl
def adU:((Tryz.prog.funcs.toList.drop (5*40)).take 40).all (λfn=>!fn.goes)=true:=by kernel_rfl
def adV:((Tryz.prog.funcs.toList.drop (6*40)).take 40).all (λfn=>!fn.goes)=true:=by kernel_rfl
def adW:((Tryz.prog.funcs.toList.drop (7*40)).take 40).all (λfn=>!fn.goes)=true:=by kernel_rfl
def adX:((Tryz.prog.funcs.toList.drop (8*40)).take 40).all (λfn=>!fn.goes)=true:=by kernel_rfl
def adY:((Tryz.prog.funcs.toList.drop (9*40)).take 40).all (λfn=>!fn.goes)=true:=by kernel_rfl
def abu:((Tryz.prog.funcs.toList.drop (10*40)).take 40).all (λfn=>!fn.goes)=true:=by kernel_rfl
def abv:((Tryz.prog.funcs.toList.drop (11*40)).take 40).all (λfn=>!fn.goes)=true:=by kernel_rfl
def abw:((Tryz.prog.funcs.toList.drop (12*40)).take 40).all (λfn=>!fn.goes)=true:=by kernel_rfl
def abx:((Tryz.prog.funcs.toList.drop (13*40)).take 40).all (λfn=>!fn.goes)=true:=by kernel_rfl
def adZ:∀fn∈Tryz.prog.funcs.toList,fn.goes=false:=λfn h=>by
 have:=NS 40 14 Tryz.prog.funcs.toList (p:=λfn=>!fn.goes) (λi hi=>by
  rcases(show i=0\/i=1\/i=2\/i=3\/i=4\/i=5\/i=6\/i=7\/i=8\/i=9\/i=10\/i=11\/i=12\/i=13 by omega)with rfl|rfl|rfl|rfl|rfl|rfl|rfl|rfl|rfl|rfl|rfl|rfl|rfl|rfl
  .exact adP
  .exact adQ
  .exact adR
  .exact adS
  .exact adT
  .exact adU
  .exact adV
  .exact adW
  .exact adX
  .exact adY
  .exact abu
  .exact abv
  .exact abw
  .exact abx) (of_decide_eq_true (by kernel_rfl)) fn h
 simpa using this
def FZ(b:UInt8):List AV:=[.int .u8 b.toNat]
def aaY(b:UInt8):FZ b=[.int .u8 b.toNat]:=rfl
attribute[go_sem] aaY
def mst(bits:Nat):Nat:=(bits+6)/7
def acS(n:Int):IntKind.i64.wrap n=(n+9223372036854775808)%18446744073709551616-9223372036854775808:=by
 simp[IntKind.wrap,IntKind.bits,IntKind.signed];split<;>omega
def ofNat_toNat{n:Nat}(h:n<256):(UInt8.ofNat n).toNat=n:=by simp[UInt8.toNat_ofNat',Nat.mod_eq_of_lt h]
def aaZ{n:Nat}(h:n<256):FZ (UInt8.ofNat n)=[.int .u8 n]:=by rw[aaY,ofNat_toNat h]
def bg(n:Int):List AV:=[.int .i64 n]
def eE(n:Int):bg n=[.int .i64 n]:=rfl
attribute[go_sem] eE
structure a_ where
 op:Int
 a:Int
 b:Int
 n:Int
 k:Int
 v:Int
 x:Int
 ty:List Int
 lb:List Int
def kD(i:a_):AV:=.agg [.int .i64 i.op,.int .i64 i.a,.int .i64 i.b,.int .u64 i.n,.int .i64 i.k,.int .i64 i.v,.int .i64 i.x,.sl 1 (i.ty.map bg),.sl 1 (i.lb.map bg)]
def dt(i:a_):kD i = .agg [.int .i64 i.op,.int .i64 i.a,.int .i64 i.b,.int .u64 i.n,.int .i64 i.k,.int .i64 i.v,.int .i64 i.x,.sl 1 (i.ty.map bg),.sl 1 (i.lb.map bg)]:=rfl
def bH(i:a_):List AV:=[.int .i64 i.op,.int .i64 i.a,.int .i64 i.b,.int .u64 i.n,.int .i64 i.k,.int .i64 i.v,.int .i64 i.x,.sl 1 (i.ty.map bg),.sl 1 (i.lb.map bg)]
instance:Inhabited a_:=⟨⟨0,0,0,0,0,0,0,[],[]⟩⟩
structure Ft where
 ps:List Int
 rs:List Int
structure Lm where
 mn:Int
 mx:Int
 hs:Bool
structure Gl where
 v:Int
 mu:Bool
structure Im where
 m:List UInt8
 n:List UInt8
 k:Int
 f:Int
 te:Int
 tl:Lm
 me:Lm
 g:Gl
structure Cd where
 t:Int
 lo:List Int
 b:List a_
structure Tb where
 e:Int
 l:Lm
structure Gd where
 g:Gl
 i:List a_
structure Ex where
 n:List UInt8
 k:Int
 i:Int
structure El where
 mo:Int
 tb:Int
 o:List a_
 ty:Int
 it:List (List a_)
structure Da where
 mo:Int
 me:Int
 o:List a_
 b:List UInt8
structure Cu where
 af:Int
 n:List UInt8
 b:List UInt8
structure Md where
 ts:List Ft
 ims:List Im
 fs:List Cd
 tbs:List Tb
 ms:List Lm
 gs:List Gd
 exs:List Ex
 hs:Bool
 st:Int
 els:List El
 ds:List Da
 cs:List Cu
instance:Inhabited Ft:=⟨⟨[],[]⟩⟩
instance:Inhabited Lm:=⟨⟨0,0,false⟩⟩
instance:Inhabited Gl:=⟨⟨0,false⟩⟩
instance:Inhabited Im:=⟨⟨[],[],0,0,0,default,default,default⟩⟩
instance:Inhabited Cd:=⟨⟨0,[],[]⟩⟩
instance:Inhabited Tb:=⟨⟨0,default⟩⟩
instance:Inhabited Gd:=⟨⟨default,[]⟩⟩
instance:Inhabited Ex:=⟨⟨[],0,0⟩⟩
instance:Inhabited El:=⟨⟨0,0,[],0,[]⟩⟩
instance:Inhabited Da:=⟨⟨0,0,[],[]⟩⟩
instance:Inhabited Cu:=⟨⟨0,[],[]⟩⟩
instance:Inhabited Md:=⟨⟨[],[],[],[],[],[],[],false,0,[],[],[]⟩⟩
def kz(x:Ft):List AV:=[.sl 1 (x.ps.map bg),.sl 1 (x.rs.map bg)]
def w_(x:Lm):List AV:=[.int .i64 x.mn,.int .i64 x.mx,.bool x.hs]
def JO(x:Gl):List AV:=[.int .i64 x.v,.bool x.mu]
def Ae(x:Im):List AV:=[.str x.m,.str x.n,.int .i64 x.k,.int .i64 x.f,.int .i64 x.te,.int .i64 x.tl.mn,.int .i64 x.tl.mx,.bool x.tl.hs,.int .i64 x.me.mn,.int .i64 x.me.mx,.bool x.me.hs,.int .i64 x.g.v,.bool x.g.mu]
def pt(x:Cd):List AV:=[.int .i64 x.t,.sl 1 (x.lo.map bg),.sl 9 (x.b.map bH)]
def ya(x:Tb):List AV:=[.int .i64 x.e,.int .i64 x.l.mn,.int .i64 x.l.mx,.bool x.l.hs]
def zk(x:Gd):List AV:=[.int .i64 x.g.v,.bool x.g.mu,.sl 9 (x.i.map bH)]
def x_(x:Ex):List AV:=[.str x.n,.int .i64 x.k,.int .i64 x.i]
def oX(l:List a_):List AV:=[.sl 9 (l.map bH)]
def rK(x:El):List AV:=[.int .i64 x.mo,.int .i64 x.tb,.sl 9 (x.o.map bH),.int .i64 x.ty,.sl 1 (x.it.map oX)]
def z_(x:Da):List AV:=[.int .i64 x.mo,.int .i64 x.me,.sl 9 (x.o.map bH),.sl 1 (x.b.map FZ)]
def wO(x:Cu):List AV:=[.int .i64 x.af,.str x.n,.sl 1 (x.b.map FZ)]
def mI(x:Md):List AV:=[.sl 2 (x.ts.map kz),.sl 13 (x.ims.map Ae),.sl 3 (x.fs.map pt),.sl 4 (x.tbs.map ya),.sl 3 (x.ms.map w_),.sl 3 (x.gs.map zk),.sl 3 (x.exs.map x_),.bool x.hs,.int .i64 x.st,.sl 5 (x.els.map rK),.sl 4 (x.ds.map z_),.sl 3 (x.cs.map wO)]
def aU(x:Ft):kz x=[.sl 1 (x.ps.map bg),.sl 1 (x.rs.map bg)]:=rfl
def cC(x:Lm):w_ x=[.int .i64 x.mn,.int .i64 x.mx,.bool x.hs]:=rfl
def cQ(x:Im):Ae x=[.str x.m,.str x.n,.int .i64 x.k,.int .i64 x.f,.int .i64 x.te,.int .i64 x.tl.mn,.int .i64 x.tl.mx,.bool x.tl.hs,.int .i64 x.me.mn,.int .i64 x.me.mx,.bool x.me.hs,.int .i64 x.g.v,.bool x.g.mu]:=rfl
def cj(x:Cd):pt x=[.int .i64 x.t,.sl 1 (x.lo.map bg),.sl 9 (x.b.map bH)]:=rfl
def bT(x:Tb):ya x=[.int .i64 x.e,.int .i64 x.l.mn,.int .i64 x.l.mx,.bool x.l.hs]:=rfl
def gC(x:Gd):zk x=[.int .i64 x.g.v,.bool x.g.mu,.sl 9 (x.i.map bH)]:=rfl
def df(x:Ex):x_ x=[.str x.n,.int .i64 x.k,.int .i64 x.i]:=rfl
def ez(l:List a_):oX l=[.sl 9 (l.map bH)]:=rfl
def dn(x:El):rK x=[.int .i64 x.mo,.int .i64 x.tb,.sl 9 (x.o.map bH),.int .i64 x.ty,.sl 1 (x.it.map oX)]:=rfl
def fa(x:Da):z_ x=[.int .i64 x.mo,.int .i64 x.me,.sl 9 (x.o.map bH),.sl 1 (x.b.map FZ)]:=rfl
def dA(x:Cu):wO x=[.int .i64 x.af,.str x.n,.sl 1 (x.b.map FZ)]:=rfl
def bn(x:Md):mI x=[.sl 2 (x.ts.map kz),.sl 13 (x.ims.map Ae),.sl 3 (x.fs.map pt),.sl 4 (x.tbs.map ya),.sl 3 (x.ms.map w_),.sl 3 (x.gs.map zk),.sl 3 (x.exs.map x_),.bool x.hs,.int .i64 x.st,.sl 5 (x.els.map rK),.sl 4 (x.ds.map z_),.sl 3 (x.cs.map wO)]:=rfl
def da(x:Md):AV:=.agg (mI x)
def bL{α:Type}(p:Nat->α->Prop)(B:Nat)(l:List α):Prop:=l.length<=B/\∀a∈l,p B a
def FG{α:Type}(τ:Ty)(f:α->List AV)(p:Nat->α->Prop):Prop:=∀r,τ.ok r->∃a,aR Nd r (f a)/\p maxLen a/\∀B,τ.bd B r->p B a
def Wr{α:Type}{τ:Ty}{f:α->List AV}{p:Nat->α->Prop}(h:FG τ f p):∀{rows:List (List AV)},(∀r∈rows,τ.ok r)->∃l:List α,aR (aR Nd) rows (l.map f)/\(∀a∈l,p maxLen a)/\∀B,(∀r∈rows,τ.bd B r)->∀a∈l,p B a
 | [],_=>⟨[],trivial,(λa h=>by cases h),(λ_ _ a h=>by cases h)⟩
 | r::rows,hr=>by
  obtain⟨a,h1,h2,h3⟩:=h r (hr r (by simp));obtain⟨l,g1,g2,g3⟩:=Wr h (rows:=rows) λr hr'=>hr r (by simp[hr']);refine⟨a::l,⟨h1,g1⟩,λb hb=>?_,λB hB b hb=>?_⟩
  .rcases bp.1 hb with rfl|hb
   .exact h2
   .exact g2 b hb
  .rcases bp.1 hb with rfl|hb
   .exact h3 B (hB r (by simp))
   .exact g3 B (λr hr'=>hB r (by simp[hr'])) b hb
def EU{st:Nat}{rows rows':List (List AV)}(h:aR (aR Nd) rows rows'):Nd (.sl st rows) (.sl st rows'):=by
 refine .sl st _ _ h.length (λi r r' h1 h2=>?_) (λi j r r' x y h1 h2 h3 h4=>?_)
 .obtain⟨a,e1,e2⟩:=h.get h2;obtain rfl:=zA (h1.symm.trans e1);exact e2.length
 .obtain⟨a,e1,e2⟩:=h.get h2;obtain rfl:=zA (h1.symm.trans e1);obtain⟨b,e3,e4⟩:=e2.get h4;obtain rfl:=zA (h3.symm.trans e3);exact e4
def BR{α:Type}{τ:Ty}{f:α->List AV}{p:Nat->α->Prop}(h:FG τ f p){r:List AV}(hr:(Ty.sl τ).ok r):∃x l,r=[x]/\Nd x (.sl τ.n (l.map f))/\bL p maxLen l/\∀B,(Ty.sl τ).bd B [x]->bL p B l:=by
 rcases hr with rfl|⟨rows,rfl,h2,h3⟩
 .exact⟨_,[],rfl,.nl _,⟨cR _,λa h=>by cases h⟩,λB _=>⟨cR _,λa h=>by cases h⟩⟩
 .obtain⟨l,g1,g2,g3⟩:=Wr h h3;have hl:=g1.length;rw[bP]at hl;refine⟨_,l,rfl,EU g1,⟨by omega,g2⟩,λB hB=>?_⟩;obtain⟨q1,q2⟩:=hB _ _ rfl;exact⟨by omega,g3 B q2⟩
def Z5{n:Int}(h:(Lit.int .u8 n).wf=true):0<=n/\n<=255:=by simpa[Lit.wf,IntKind.min,IntKind.max,IntKind.signed,IntKind.bits]using h
def KD{n:Int}(h:(Lit.int .u64 n).wf=true):0<=n/\n<18446744073709551616:=by
 have:0<=n/\n<=18446744073709551615:=by simpa[Lit.wf,IntKind.min,IntKind.max,IntKind.signed,IntKind.bits]using h
 omega
def Uf{α:Type}(_:Nat)(_:α):Prop:=True
def F8:FG (.int .i64) bg Uf:=λr h=>by
 obtain⟨n,rfl,_⟩:=h;exact⟨n,⟨.rfl _,trivial⟩,trivial,λ_ _=>trivial⟩
def VW:FG (.int .u8) FZ Uf:=λr h=>by
 obtain⟨n,rfl,hw⟩:=h;have hn:=Z5 hw;refine⟨UInt8.ofNat n.toNat,?_,trivial,λ_ _=>trivial⟩;rw[aaZ (by omega),show((n.toNat:Nat):Int)=n by omega];exact⟨.rfl _,trivial⟩
def BZ:Ty:=.cons (.int .i64) (.cons (.int .i64) (.cons (.int .i64) (.cons (.int .u64) (.cons (.cons (.int .i64) (.cons (.int .i64) (.cons (.int .i64) .nil))) (.cons (.sl (.int .i64)) (.cons (.sl (.int .i64)) .nil))))))
def D1(B:Nat)(x:a_):Prop:=(0<=x.n/\x.n<18446744073709551616)/\bL Uf B x.ty/\bL Uf B x.lb
def AM:FG BZ bH D1:=λr h=>by
 obtain⟨_,_,rfl,⟨op,rfl,w_op⟩,_,_,rfl,⟨a,rfl,w_a⟩,_,_,rfl,⟨b,rfl,w_b⟩,_,_,rfl,⟨n,rfl,w_n⟩,_,_,rfl,⟨_,_,rfl,⟨k,rfl,w_k⟩,_,_,rfl,⟨v,rfl,w_v⟩,_,_,rfl,⟨z,rfl,w_z⟩,rfl⟩,_,_,rfl,h_ty,_,_,rfl,h_lb,rfl⟩:=h;obtain⟨x_ty,l_ty,rfl,d_ty,m_ty,b_ty⟩:=BR F8 h_ty;obtain⟨x_lb,l_lb,rfl,d_lb,m_lb,b_lb⟩:=BR F8 h_lb;exact⟨⟨op,a,b,n,k,v,z,l_ty,l_lb⟩,⟨.rfl _,.rfl _,.rfl _,.rfl _,.rfl _,.rfl _,.rfl _,d_ty,d_lb,trivial⟩,⟨KD w_n,m_ty,m_lb⟩,λB hB=>⟨KD w_n,b_ty B hB.2.2.2.2.2.1,b_lb B hB.2.2.2.2.2.2.1⟩⟩
def WI:Ty:=.cons (.sl (.int .i64)) (.cons (.sl (.int .i64)) .nil)
def aaM(B:Nat)(x:Ft):Prop:=bL Uf B x.ps/\bL Uf B x.rs
def XM:FG WI kz aaM:=λr h=>by
 obtain⟨_,_,rfl,h_ps,_,_,rfl,h_rs,rfl⟩:=h;obtain⟨x_ps,l_ps,rfl,d_ps,m_ps,b_ps⟩:=BR F8 h_ps;obtain⟨x_rs,l_rs,rfl,d_rs,m_rs,b_rs⟩:=BR F8 h_rs;exact⟨⟨l_ps,l_rs⟩,⟨d_ps,d_rs,trivial⟩,⟨m_ps,m_rs⟩,λB hB=>⟨b_ps B hB.1,b_rs B hB.2.1⟩⟩
def WL:Ty:=.cons (.int .i64) (.cons (.int .i64) (.cons .bool .nil))
def aaP(B:Nat)(x:Lm):Prop:=True
def XP:FG WL w_ aaP:=λr h=>by
 obtain⟨_,_,rfl,⟨mn,rfl,w_mn⟩,_,_,rfl,⟨mx,rfl,w_mx⟩,_,_,rfl,⟨hs,rfl⟩,rfl⟩:=h;exact⟨⟨mn,mx,hs⟩,⟨.rfl _,.rfl _,.rfl _,trivial⟩,trivial,λB hB=>trivial⟩
def WM:Ty:=.cons (.int .i64) (.cons (.cons (.int .i64) (.cons (.int .i64) (.cons .bool .nil))) .nil)
def aaQ(B:Nat)(x:Tb):Prop:=True
def XR:FG WM ya aaQ:=λr h=>by
 obtain⟨_,_,rfl,⟨e,rfl,w_e⟩,_,_,rfl,⟨_,_,rfl,⟨mn,rfl,w_mn⟩,_,_,rfl,⟨mx,rfl,w_mx⟩,_,_,rfl,⟨hs,rfl⟩,rfl⟩,rfl⟩:=h;exact⟨⟨e,⟨mn,mx,hs⟩⟩,⟨.rfl _,.rfl _,.rfl _,.rfl _,trivial⟩,trivial,λB hB=>trivial⟩
def WK:Ty:=.cons .str (.cons .str (.cons (.int .i64) (.cons (.int .i64) (.cons (.cons (.int .i64) (.cons (.cons (.int .i64) (.cons (.int .i64) (.cons .bool .nil))) .nil)) (.cons (.cons (.int .i64) (.cons (.int .i64) (.cons .bool .nil))) (.cons (.cons (.int .i64) (.cons .bool .nil)) .nil))))))
def aaO(B:Nat)(x:Im):Prop:=x.m.length<=B/\x.n.length<=B
def XO:FG WK Ae aaO:=λr h=>by
 obtain⟨_,_,rfl,⟨m,rfl,w_m⟩,_,_,rfl,⟨n,rfl,w_n⟩,_,_,rfl,⟨k,rfl,w_k⟩,_,_,rfl,⟨f,rfl,w_f⟩,_,_,rfl,⟨_,_,rfl,⟨te,rfl,w_te⟩,_,_,rfl,⟨_,_,rfl,⟨tmn,rfl,w_tmn⟩,_,_,rfl,⟨tmx,rfl,w_tmx⟩,_,_,rfl,⟨ths,rfl⟩,rfl⟩,rfl⟩,_,_,rfl,⟨_,_,rfl,⟨qmn,rfl,w_qmn⟩,_,_,rfl,⟨qmx,rfl,w_qmx⟩,_,_,rfl,⟨qhs,rfl⟩,rfl⟩,_,_,rfl,⟨_,_,rfl,⟨gv,rfl,w_gv⟩,_,_,rfl,⟨gmu,rfl⟩,rfl⟩,rfl⟩:=h;exact⟨⟨m,n,k,f,te,⟨tmn,tmx,ths⟩,⟨qmn,qmx,qhs⟩,⟨gv,gmu⟩⟩,⟨.rfl _,.rfl _,.rfl _,.rfl _,.rfl _,.rfl _,.rfl _,.rfl _,.rfl _,.rfl _,.rfl _,.rfl _,.rfl _,trivial⟩,⟨w_m,w_n⟩,λB hB=>⟨hB.1 _ rfl,hB.2.1 _ rfl⟩⟩
def WD:Ty:=.cons (.int .i64) (.cons (.sl (.int .i64)) (.cons (.sl BZ) .nil))
def aaH(B:Nat)(x:Cd):Prop:=bL Uf B x.lo/\bL D1 B x.b
def XH:FG WD pt aaH:=λr h=>by
 obtain⟨_,_,rfl,⟨t,rfl,w_t⟩,_,_,rfl,h_lo,_,_,rfl,h_b,rfl⟩:=h;obtain⟨x_lo,l_lo,rfl,d_lo,m_lo,b_lo⟩:=BR F8 h_lo;obtain⟨x_b,l_b,rfl,d_b,m_b,b_b⟩:=BR AM h_b;exact⟨⟨t,l_lo,l_b⟩,⟨.rfl _,d_lo,d_b,trivial⟩,⟨m_lo,m_b⟩,λB hB=>⟨b_lo B hB.2.1,b_b B hB.2.2.1⟩⟩
def WJ:Ty:=.cons (.cons (.int .i64) (.cons .bool .nil)) (.cons (.sl BZ) .nil)
def aaN(B:Nat)(x:Gd):Prop:=bL D1 B x.i
def XN:FG WJ zk aaN:=λr h=>by
 obtain⟨_,_,rfl,⟨_,_,rfl,⟨v,rfl,w_v⟩,_,_,rfl,⟨mu,rfl⟩,rfl⟩,_,_,rfl,h_i,rfl⟩:=h;obtain⟨x_i,l_i,rfl,d_i,m_i,b_i⟩:=BR AM h_i;exact⟨⟨⟨v,mu⟩,l_i⟩,⟨.rfl _,.rfl _,d_i,trivial⟩,m_i,λB hB=>b_i B hB.2.1⟩
def WH:Ty:=.cons .str (.cons (.int .i64) (.cons (.int .i64) .nil))
def aaL(B:Nat)(x:Ex):Prop:=x.n.length<=B
def XL:FG WH x_ aaL:=λr h=>by
 obtain⟨_,_,rfl,⟨n,rfl,w_n⟩,_,_,rfl,⟨k,rfl,w_k⟩,_,_,rfl,⟨i,rfl,w_i⟩,rfl⟩:=h;exact⟨⟨n,k,i⟩,⟨.rfl _,.rfl _,.rfl _,trivial⟩,w_n,λB hB=>hB.1 _ rfl⟩
def SC:FG (.sl BZ) oX (bL D1):=λr h=>by
 obtain⟨x,l,rfl,d,m,b⟩:=BR AM h;exact⟨l,⟨d,trivial⟩,m,λB hB=>b B hB⟩
def WG:Ty:=.cons (.int .i64) (.cons (.int .i64) (.cons (.sl BZ) (.cons (.int .i64) (.cons (.sl (.sl BZ)) .nil))))
def aaK(B:Nat)(x:El):Prop:=bL D1 B x.o/\bL (bL D1) B x.it
def XK:FG WG rK aaK:=λr h=>by
 obtain⟨_,_,rfl,⟨mo,rfl,w_mo⟩,_,_,rfl,⟨tb,rfl,w_tb⟩,_,_,rfl,h_o,_,_,rfl,⟨ty,rfl,w_ty⟩,_,_,rfl,h_it,rfl⟩:=h;obtain⟨x_o,l_o,rfl,d_o,m_o,b_o⟩:=BR AM h_o;obtain⟨x_it,l_it,rfl,d_it,m_it,b_it⟩:=BR SC h_it;exact⟨⟨mo,tb,l_o,ty,l_it⟩,⟨.rfl _,.rfl _,d_o,.rfl _,d_it,trivial⟩,⟨m_o,m_it⟩,λB hB=>⟨b_o B hB.2.2.1,b_it B hB.2.2.2.2.1⟩⟩
def WF:Ty:=.cons (.int .i64) (.cons (.int .i64) (.cons (.sl BZ) (.cons (.sl (.int .u8)) .nil)))
def aaJ(B:Nat)(x:Da):Prop:=bL D1 B x.o/\bL Uf B x.b
def XJ:FG WF z_ aaJ:=λr h=>by
 obtain⟨_,_,rfl,⟨mo,rfl,w_mo⟩,_,_,rfl,⟨me,rfl,w_me⟩,_,_,rfl,h_o,_,_,rfl,h_b,rfl⟩:=h;obtain⟨x_o,l_o,rfl,d_o,m_o,b_o⟩:=BR AM h_o;obtain⟨x_b,l_b,rfl,d_b,m_b,b_b⟩:=BR VW h_b;exact⟨⟨mo,me,l_o,l_b⟩,⟨.rfl _,.rfl _,d_o,d_b,trivial⟩,⟨m_o,m_b⟩,λB hB=>⟨b_o B hB.2.2.1,b_b B hB.2.2.2.1⟩⟩
def WE:Ty:=.cons (.int .i64) (.cons .str (.cons (.sl (.int .u8)) .nil))
def aaI(B:Nat)(x:Cu):Prop:=x.n.length<=B/\bL Uf B x.b
def XI:FG WE wO aaI:=λr h=>by
 obtain⟨_,_,rfl,⟨af,rfl,w_af⟩,_,_,rfl,⟨n,rfl,w_n⟩,_,_,rfl,h_b,rfl⟩:=h;obtain⟨x_b,l_b,rfl,d_b,m_b,b_b⟩:=BR VW h_b;exact⟨⟨af,n,l_b⟩,⟨.rfl _,.rfl _,d_b,trivial⟩,⟨w_n,m_b⟩,λB hB=>⟨hB.2.1 _ rfl,b_b B hB.2.2.1⟩⟩
def HJ:Ty:=.cons (.sl WI) (.cons (.sl WK) (.cons (.sl WD) (.cons (.sl WM) (.cons (.sl WL) (.cons (.sl WJ) (.cons (.sl WH) (.cons .bool (.cons (.int .i64) (.cons (.sl WG) (.cons (.sl WF) (.cons (.sl WE) .nil)))))))))))
def NG(B:Nat)(x:Md):Prop:=bL aaM B x.ts/\bL aaO B x.ims/\bL aaH B x.fs/\bL aaQ B x.tbs/\bL aaP B x.ms/\bL aaN B x.gs/\bL aaL B x.exs/\bL aaK B x.els/\bL aaJ B x.ds/\bL aaI B x.cs
def XQ:FG HJ mI NG:=λr h=>by
 obtain⟨_,_,rfl,h_ts,_,_,rfl,h_ims,_,_,rfl,h_fs,_,_,rfl,h_tbs,_,_,rfl,h_ms,_,_,rfl,h_gs,_,_,rfl,h_exs,_,_,rfl,⟨hs,rfl⟩,_,_,rfl,⟨st,rfl,w_st⟩,_,_,rfl,h_els,_,_,rfl,h_ds,_,_,rfl,h_cs,rfl⟩:=h;obtain⟨x_ts,l_ts,rfl,d_ts,m_ts,b_ts⟩:=BR XM h_ts;obtain⟨x_ims,l_ims,rfl,d_ims,m_ims,b_ims⟩:=BR XO h_ims;obtain⟨x_fs,l_fs,rfl,d_fs,m_fs,b_fs⟩:=BR XH h_fs;obtain⟨x_tbs,l_tbs,rfl,d_tbs,m_tbs,b_tbs⟩:=BR XR h_tbs;obtain⟨x_ms,l_ms,rfl,d_ms,m_ms,b_ms⟩:=BR XP h_ms;obtain⟨x_gs,l_gs,rfl,d_gs,m_gs,b_gs⟩:=BR XN h_gs;obtain⟨x_exs,l_exs,rfl,d_exs,m_exs,b_exs⟩:=BR XL h_exs;obtain⟨x_els,l_els,rfl,d_els,m_els,b_els⟩:=BR XK h_els;obtain⟨x_ds,l_ds,rfl,d_ds,m_ds,b_ds⟩:=BR XJ h_ds;obtain⟨x_cs,l_cs,rfl,d_cs,m_cs,b_cs⟩:=BR XI h_cs;exact⟨⟨l_ts,l_ims,l_fs,l_tbs,l_ms,l_gs,l_exs,hs,st,l_els,l_ds,l_cs⟩,⟨d_ts,d_ims,d_fs,d_tbs,d_ms,d_gs,d_exs,.rfl _,.rfl _,d_els,d_ds,d_cs,trivial⟩,⟨m_ts,m_ims,m_fs,m_tbs,m_ms,m_gs,m_exs,m_els,m_ds,m_cs⟩,λB hB=>⟨b_ts B hB.1,b_ims B hB.2.1,b_fs B hB.2.2.1,b_tbs B hB.2.2.2.1,b_ms B hB.2.2.2.2.1,b_gs B hB.2.2.2.2.2.1,b_exs B hB.2.2.2.2.2.2.1,b_els B hB.2.2.2.2.2.2.2.2.2.1,b_ds B hB.2.2.2.2.2.2.2.2.2.2.1,b_cs B hB.2.2.2.2.2.2.2.2.2.2.2.1⟩⟩
def aeq{α:Type}{τ:Ty}{f:α->List AV}{p:Nat->α->Prop}(h:FG τ f p)(hr:τ.isRec=true){x:AV}(hx:τ.okV x):∃a,nld x (.agg (f a))/\p maxLen a/\∀B,τ.bdV B x->p B a:=by
 unfold Ty.okV at hx;rw[hr]at hx;obtain⟨xs,rfl,hx⟩:=hx;obtain⟨a,h1,h2,h3⟩:=h xs hx;refine⟨a,.inr ⟨_,_,rfl,rfl,h1⟩,h2,λB hB=>h3 B ?_⟩;unfold Ty.bdV at hB;rw[hr]at hB;exact hB _ rfl
def aeh{τ:Ty}{xs:List AV}(h:aR Ty.okV [τ] xs):∃x,xs=[x]/\τ.okV x:=by
 match xs,h with
 | [x],h=>exact⟨x,rfl,h.1⟩
def acO:tR pg 9 33=some HJ:=by kernel_rfl
def uv(l:List UInt8):Bool:=Lib.validD l
open Go.Shelf
def ZC:Go.Shelf.Ren:=⟨λ|196=>229|259=>298|n=>n,λ|9=>9|4=>4|3=>3|5=>5|12=>12|119=>335|0=>0|46=>339|139=>338|138=>337|53=>84|n=>n,λ|3=>0|4=>1|n=>n⟩
def TR:Go.Proofs.Lays.n196 pg ZC:={
 mixed:=by kernel_rfl
 f196:=Tryz.func229.trans (congrArg some (by kernel_rfl))
 f259:=Tryz.func298.trans (congrArg some (by kernel_rfl))
 t0:=Tryz.underlying0
 a0:=Tryz.isAgg0
 z0:=Tryz.sizeOf0
 v0:=Tryz.zeroValue0
 t3:=Tryz.underlying3
 a3:=Tryz.isAgg3
 z3:=Tryz.sizeOf3
 v3:=Tryz.zeroValue3
 t4:=Tryz.underlying4
 a4:=Tryz.isAgg4
 z4:=Tryz.sizeOf4
 v4:=Tryz.zeroValue4
 t5:=Tryz.underlying5
 a5:=Tryz.isAgg5
 z5:=Tryz.sizeOf5
 v5:=Tryz.zeroValue5
 t9:=Tryz.underlying9
 a9:=Tryz.isAgg9
 z9:=Tryz.sizeOf9
 v9:=Tryz.zeroValue9
 t12:=Tryz.underlying12
 a12:=Tryz.isAgg12
 z12:=Tryz.sizeOf12
 v12:=Tryz.zeroValue12
 t46:=Tryz.underlying339
 a46:=Tryz.isAgg339
 z46:=Tryz.sizeOf339
 v46:=Tryz.zeroValue339
 t53:=Tryz.underlying84
 a53:=Tryz.isAgg84
 z53:=Tryz.sizeOf84
 v53:=Tryz.zeroValue84
 t119:=Tryz.underlying335
 a119:=Tryz.isAgg335
 z119:=Tryz.sizeOf335
 t138:=Tryz.underlying337
 a138:=Tryz.isAgg337
 z138:=Tryz.sizeOf337
 v138:=Tryz.zeroValue337
 t139:=Tryz.underlying338
 a139:=Tryz.isAgg338
 z139:=Tryz.sizeOf338
 v139:=Tryz.zeroValue338
 g3:=by kernel_rfl
 g4:=by kernel_rfl}
def acA(s:List UInt8)(hs:s.length<1000000000):ah pg vy [.str s] (.bool (uv s)):=by
 refine ah.of (λw bl M cargs hH hM ha=>?_) rfl
 match cargs,ha with
 | [a],⟨h1,_⟩ =>
  obtain rfl:=h1.str;refine(Any.utf8_ValidString TR ⟨s.toArray⟩ w (by simp[ByteArray.size];omega) hH.1).mono ?_;rintro e w' ⟨rfl,hb⟩;exact⟨_,rfl,⟨hb.size,λb h _=>hb.block b h,λb c t fr h=>⟨c,fr,(hb.block b (aQ h)).trans h,rfl⟩,hb.os,hb.output⟩,IRel.bool _⟩
def slv:Option (List UInt8)->AV
 | none=>.nl
 | some l=>.sl 1 (l.map FZ)
def bv(o:Option (List UInt8)):aI (slv o)=[]:=by cases o<;>rfl
def Q_:slv none = .nl:=rfl
def Ra(l:List UInt8):slv (some l) = .sl 1 (l.map FZ):=rfl
attribute[go_sem] Q_ Ra
