import Derived.Test.YthhglklcaodfmaaGreatDoorCQc
import Derived.Test.YthhglklcaodfmaaGreatDoorCQi0
import Derived.Test.YthhglklcaodfmaaGreatDoorCQi1
import Derived.Test.YthhglklcaodfmaaGreatDoorCQi2
import Derived.Test.YthhglklcaodfmaaGreatDoorCQi3
import Derived.Test.YthhglklcaodfmaaGreatDoorCQi4
import Derived.Test.YthhglklcaodfmaaGreatDoorCQi5
import Derived.Shelf.Unicode.DecodeSlow
import Derived.Shelf.Strings.Search3
import Derived.Shelf.Strings.Fields
import Derived.Test.YthhglklcaodfmaaGreatDoorCards
import Derived.Test.YthhglklcaodfmaaGreatDoorTie
import Derived.Deep.DeepHandedRow
import Derived.Deep.DeepWitnessRowRef
import Derived.Lib.LaidTab
import Derived.Lib.LaidU8T
import Derived.Shelf.Vars
import Derived.Lay
import Derived.Lib.ValidAsc
noncomputable section
set_option linter.all false
set_option maxRecDepth 100000
set_option maxHeartbeats 40000000
namespace Go.Proofs.YthhglklcaodfmaaGreatDoor
open Go Go.Mw
def alN:List AV:=(List.range 256).map λc=>.int .u8 (Lib.firstT c)
def alO:List AV:=(List.range 32).map λi=>.int .u8 (if i%2=0 then Lib.accLo (i/2)else Lib.accHi (i/2))
def AK{w:World}{b off:Nat}{v:Value}(h:w.cell? ⟨b,off,none⟩=some v):∃c t fr,w.heap[b]?=some (.cells c t fr)/\c[off]?=some v:=by
 unfold World.cell? at h;simp only at h;split at h
 .rename_i c t fr hb;exact⟨c,t,fr,hb,h⟩
 .cases h
def B3{w:World}{M:Nat->Prop}{b n:Nat}{f:Nat->Int}(hn:0<n)(h:∀j,j<n->w.cell? ⟨b,j,none⟩=some (.int .u8 (f j)))(hM:¬M b) :
  IRel M w (.pointer (some ⟨b,0,none⟩)) (.ip ((List.range n).map λj=>.int .u8 (f j))):=by
 obtain⟨c,t,fr,hb,_⟩:=AK (h 0 hn);refine .ip b 0 c t fr _ (λj=>.int .u8 (f j)) hb hM (λj hj=>?_) (λj x hx=>?_)
 .simp at hj;obtain⟨c',t',fr',hb',hc⟩:=AK (h j hj);rw[hb]at hb';cases hb';simpa using hc
 .simp only[iG,eS,MC]at hx;obtain⟨q,hq,rfl⟩:=hx;rw[MC]at hq;cases hq;exact .int _ _;have:=(jh.1 hq).1;simpa using this
def spT(c:Nat):Value:=.int .u8 (if Lib.isSp (UInt8.ofNat c)then 1 else 0)
def nO{w w':World}{b off:Nat}{v:Value}(h:w'.heap[b]? = w.heap[b]?)(hc:w.cell? ⟨b,off,none⟩=some v):w'.cell? ⟨b,off,none⟩=some v:=by
 rw[World.cell?_of_block (w:=w) h];exact hc
def CP{w:World}{b off:Nat}{v:Value}(h:w.cell? ⟨b,off,none⟩=some v):b<w.heap.size:=by
 obtain⟨c,t,fr,h1,_⟩:=AK h;exact(kT.1 h1).1
def alP:SG where
 B b:=(b=0\/b=1)\/(b=2\/b=3)
 H w:=Lib.Utf8Tabs 0 1 w/\(∀c,c<256->w.cell? ⟨2,c,none⟩=some (spT c))/\∃m,w.cell? ⟨3,0,none⟩=some (.int .i64 m)
 env:=[(1000000+0,.ip alN),(1000000+1,.ip alO)]
 rel w M h hM p hp:=by
  simp only[bM,cH,or_false]at hp;rcases hp with rfl|rfl
  .exact⟨by decide,B3 (by decide) (λj hj=>h.1.1 j hj) (hM 0 (.inl (.inl rfl)))⟩
  .refine⟨by decide,B3 (by decide) (λj hj=>?_) (hM 1 (.inl (.inr rfl)))⟩;obtain⟨h1,h2⟩:=h.1.2 (j/2) (by omega);by_cases h0:j%2=0
   .rw[az h0];rw[show 2*(j/2)=j by omega]at h1;exact h1
   .rw[an h0];rw[show 2*(j/2)+1=j by omega]at h2;exact h2
 stay w w' h hk:=⟨⟨λc hc=>nO (hk _ (.inl (.inl rfl))) (h.1.1 c hc),λi hi=>⟨nO (hk _ (.inl (.inr rfl))) (h.1.2 i hi).1,nO (hk _ (.inl (.inr rfl))) (h.1.2 i hi).2⟩⟩,
  λc hc=>nO (hk 2 (.inr (.inl rfl))) (h.2.1 c hc),by obtain⟨m,hm⟩:=h.2.2;exact⟨m,nO (hk 3 (.inr (.inr rfl))) hm⟩⟩
 low w h b hb:=by
  rcases hb with(rfl|rfl)|(rfl|rfl)
  .exact CP (h.1.1 0 (by decide))
  .exact CP (h.1.2 0 (by decide)).1
  .exact CP (h.2.1 0 (by decide))
  .obtain⟨m,hm⟩:=h.2.2;exact CP hm
instance:bE Tryz.prog:=⟨alP⟩
def ao(F:aB){f:FuncId}{args:List AV}{r:AV}(hi:lz pg F.body ⟨ir 0 args,[]⟩ (GW F.res r))(hf:sz pg f=some F:=by kernel_rfl)(he:d_ F.body=F.body:=by rfl)(hl:args.length=F.np:=by rfl):aj pg f args r:=cE fD hf he hl hi
def b_(F:aB){f:FuncId}{args:List AV}{σ:List (Nat×au)}{Post:AV->List (Nat×au)->Prop}(hi:lz pg F.body ⟨ir 0 args,σ⟩ (Fy F.res Post))(hf:sz pg f=some F:=by kernel_rfl)(he:d_ F.body=F.body:=by rfl)(hl:args.length=F.np:=by rfl):bA pg f args σ (λid=>1000<=id/\id<2000) Post:=lx fD hf he hl hi
open Go.ChangeShapes Go.WideShapes Go.ChangeAt Go.RowKit
def own:ownKnob Tryz.prog.godebug=none:=by kernel_rfl
def aao:laidOutB Tryz.prog=true:=by kernel_rfl
abbrev Pn:List (String×DataW Unit):=[("unicode/utf8.acceptRanges",Rows.laid_unicode_utf8_acceptRanges),("unicode.White_Space",Rows.laid_unicode_White_Space),("strings.asciiSpace",Rows.laid_strings_asciiSpace),("unicode/utf8.first",Rows.laid_unicode_utf8_first)]
def spL:List Int:=(List.range 256).map λc=>if Lib.isSp (UInt8.ofNat c)then 1 else 0
def spD:(Rows.laid_strings_asciiSpace:DataW Unit)=Lib.tabData .u8 spL:=by kernel_rfl
def gSp:Tryz.prog.globalNamed "strings.asciiSpace" = some 2:=by kernel_rfl
def tSp:(Tryz.prog.globals[2]?).map (·.type)=some 246:=by kernel_rfl
def uSp:Tryz.prog.underlying 246=some (.array 256 5):=by kernel_rfl
def uU8:Tryz.prog.underlying 5=some (.int .u8):=by kernel_rfl
def cU8:Tryz.prog.cellsOf 5=1:=by kernel_rfl
def cSp:Tryz.prog.cellsOf 246=256:=by kernel_rfl
def ajZ {W:World} (h:laidMetH Tryz.prog Pn W):Lib.TabIs Tryz.prog W "strings.asciiSpace" .u8 spL:=by
 have h2:=Lib.laidMet.reads h (.tail _ (.tail _ (.head _)));rw[spD]at h2;obtain⟨g',t',cs,fuel,p,hg',ht',hvar,hd⟩:=h2;obtain rfl:=Ce (gSp.symm.trans hg');obtain rfl:=Ce (tSp.symm.trans ht');unfold Lib.TabIs;rw[hvar,<-Lib.cells_of_tab uSp uU8 cU8 cSp hd]
def ren:Go.Shelf.Ren:=⟨λx=>x,λt=>if t=119 then 246 else if t=138 then 248 else if t=139 then 249 else 5,λg=>if g=3 then 0 else 1⟩
def u8t:U8Types Tryz.prog ren:=⟨by kernel_rfl,by kernel_rfl,by kernel_rfl,by kernel_rfl⟩
def u8x:U8Extra Tryz.prog ren:=⟨by kernel_rfl,by kernel_rfl,by kernel_rfl,by kernel_rfl,by kernel_rfl,by kernel_rfl,by kernel_rfl⟩
def akw:(Rows.laid_unicode_utf8_acceptRanges:DataW Unit)=Lib.acceptData:=by kernel_rfl
def akS:Rows.laid_unicode_utf8_first=Lib.firstData:=by kernel_rfl
def agK{W:World}(h:laidMetH Tryz.prog Pn W):Lib.Utf8Tabs 0 1 W:=by
 have h1:=Lib.laidMet.reads h (.head _);have h2:=Lib.laidMet.reads h (.tail _ (.tail _ (.tail _ (.head _))));rw[akw]at h1;rw[akS]at h2;exact utf8Tabs_of_readsT u8t u8x h2 h1
def agA(c:Nat)(hc:c<256):Value.int .u8 (spL.getD c 0)=spT c:=by
 simp[spL,spT,List.getD,hc]
def abQ{W:World}(h:laidMetH Tryz.prog Pn W)(hs:W.ShapedOpen Tryz.prog):(bE.T Tryz.prog).H W :=
 ⟨agK h,λc hc=>by rw[(ajZ h).cell gSp c (by simpa[spL]using hc),agA c hc],
 Go.Proofs.cell_of_shapedOpen_int (g:=3) (t:=3) (k:=.i64) (zero:=#[.int .i64 0]) hs (of_decide_eq_true (by kernel_rfl)) (by kernel_rfl) rfl (by kernel_rfl) (by kernel_rfl) (by kernel_rfl)⟩
abbrev AQ(os:Os):World:=World.laidAll Tryz.prog os Pn
def ZA{P:Program}(h:∀fn∈P.funcs.toList,fn.goes=false)(c:OpenClaim)(hs:c.start = .entering):false=c.goesBy P:=by
 have k1:∀f:FuncId,(P.funcs[f]?).any Func.goes=false:=λf=>by
  cases hf:P.funcs[f]? with
  | none=>rfl
  | some fn=>exact h fn (by
    obtain⟨h1,rfl⟩:=kT.1 hf;exact Array.getElem_mem_toList h1)
 have key:∀f:FuncId,P.goes f=false:=λf=>by
  unfold Program.goes;have e1:(P.closure f).any (λg=>(P.funcs[g]?).any Func.goes)=false:=MD.2 λg _=>by rw[k1 g];decide
  have e2:P.funcs.any Func.goes=false:=by
   rw[<-Array.any_toList];exact MD.2 λfn hfn=>by rw[h fn hfn];decide
  rw[e1,e2,Bool.and_false,Bool.or_false]
 unfold OpenClaim.goesBy Program.goesAt Program.goesFrom;rw[hs];cases P.funcNamed c.func with
 | none=>rfl
 | some f=>simp only[Option.any_some,key,Bool.or_false]
def TI{α:Type}{p:α->Bool}(n:Nat):∀(k:Nat)(l:List α),(∀i,i<k->((l.drop (i*n)).take n).all p=true)->l.length<=k*n->∀x∈l,p x=true
 | 0,l,_,hl,x,hx=>by
  have:l=[]:=Sv (by omega);subst this;cases hx
 | k+1,l,h,hl,x,hx=>by
  have h0:=h 0 (by omega);rw[Nat.zero_mul,fo]at h0
  have ih:=TI n k (l.drop n) (λi hi=>by
   have:=h (i+1) (by omega);rw[OE,show n+i*n=(i+1)*n by rw[Nat.succ_mul,Nat.add_comm]];exact this) (by rw[Su];rw[Nat.succ_mul]at hl;omega)
  rcases gW.1 (by rw[XW n l];exact hx)with q|q
  .exact ii.1 h0 x q
  .exact ih x q
def akV:((Tryz.prog.funcs.toList.drop (0*40)).take 40).all (λfn=>!fn.goes)=true:=by kernel_rfl
def akW:((Tryz.prog.funcs.toList.drop (1*40)).take 40).all (λfn=>!fn.goes)=true:=by kernel_rfl
def akX:((Tryz.prog.funcs.toList.drop (2*40)).take 40).all (λfn=>!fn.goes)=true:=by kernel_rfl
def akY:((Tryz.prog.funcs.toList.drop (3*40)).take 40).all (λfn=>!fn.goes)=true:=by kernel_rfl
def akZ:((Tryz.prog.funcs.toList.drop (4*40)).take 40).all (λfn=>!fn.goes)=true:=by kernel_rfl
def ak0:((Tryz.prog.funcs.toList.drop (5*40)).take 40).all (λfn=>!fn.goes)=true:=by kernel_rfl
def ak1:((Tryz.prog.funcs.toList.drop (6*40)).take 40).all (λfn=>!fn.goes)=true:=by kernel_rfl
def ak2:((Tryz.prog.funcs.toList.drop (7*40)).take 40).all (λfn=>!fn.goes)=true:=by kernel_rfl
def ak3:((Tryz.prog.funcs.toList.drop (8*40)).take 40).all (λfn=>!fn.goes)=true:=by kernel_rfl
def ak4:((Tryz.prog.funcs.toList.drop (9*40)).take 40).all (λfn=>!fn.goes)=true:=by kernel_rfl
def ail:((Tryz.prog.funcs.toList.drop (10*40)).take 40).all (λfn=>!fn.goes)=true:=by kernel_rfl
def ak5:∀fn∈Tryz.prog.funcs.toList,fn.goes=false:=λfn h=>by
 have:=TI 40 11 Tryz.prog.funcs.toList (p:=λfn=>!fn.goes) (λi hi=>by
  rcases(show i=0\/i=1\/i=2\/i=3\/i=4\/i=5\/i=6\/i=7\/i=8\/i=9\/i=10 by omega)with rfl|rfl|rfl|rfl|rfl|rfl|rfl|rfl|rfl|rfl|rfl
  .exact akV
  .exact akW
  .exact akX
  .exact akY
  .exact akZ
  .exact ak0
  .exact ak1
  .exact ak2
  .exact ak3
  .exact ak4
  .exact ail) (of_decide_eq_true (by kernel_rfl)) fn h
 simpa using this
def TC(b:UInt8):List AV:=[.int .u8 b.toNat]
def ahP(b:UInt8):TC b=[.int .u8 b.toNat]:=rfl
attribute[go_sem] ahP
def mst(bits:Nat):Nat:=(bits+6)/7
def aj9(n:Int):IntKind.i64.wrap n=(n+9223372036854775808)%18446744073709551616-9223372036854775808:=by
 simp[IntKind.wrap,IntKind.bits,IntKind.signed];split<;>omega
def LX{n:Nat}(h:n<256):(UInt8.ofNat n).toNat=n:=by simp[UInt8.toNat_ofNat',Nat.mod_eq_of_lt h]
def ahQ{n:Nat}(h:n<256):TC (UInt8.ofNat n)=[.int .u8 n]:=by rw[ahP,LX h]
def aS(n:Int):List AV:=[.int .i64 n]
def fg(n:Int):aS n=[.int .i64 n]:=rfl
attribute[go_sem] fg
structure bj where
 op:Int
 a:Int
 b:Int
 n:Int
 k:Int
 v:Int
 x:Int
 ty:List Int
 lb:List Int
def fN(i:bj):AV:=.agg [.int .i64 i.op,.int .i64 i.a,.int .i64 i.b,.int .u64 i.n,.int .i64 i.k,.int .i64 i.v,.int .i64 i.x,.sl 1 (i.ty.map aS),.sl 1 (i.lb.map aS)]
def bV(i:bj):fN i = .agg [.int .i64 i.op,.int .i64 i.a,.int .i64 i.b,.int .u64 i.n,.int .i64 i.k,.int .i64 i.v,.int .i64 i.x,.sl 1 (i.ty.map aS),.sl 1 (i.lb.map aS)]:=rfl
def cQ(i:bj):List AV:=[.int .i64 i.op,.int .i64 i.a,.int .i64 i.b,.int .u64 i.n,.int .i64 i.k,.int .i64 i.v,.int .i64 i.x,.sl 1 (i.ty.map aS),.sl 1 (i.lb.map aS)]
instance:Inhabited bj:=⟨⟨0,0,0,0,0,0,0,[],[]⟩⟩
structure Ft where
 ps:List Int
 rs:List Int
structure Lm where
 mn:Int
 mx:Int
 hs:Bool
structure Gl where
 v:Int
 mu:Bool
structure Im where
 m:List UInt8
 n:List UInt8
 k:Int
 f:Int
 te:Int
 tl:Lm
 me:Lm
 g:Gl
structure Cd where
 t:Int
 lo:List Int
 b:List bj
structure Tb where
 e:Int
 l:Lm
structure Gd where
 g:Gl
 i:List bj
structure Ex where
 n:List UInt8
 k:Int
 i:Int
structure El where
 mo:Int
 tb:Int
 o:List bj
 ty:Int
 it:List (List bj)
structure Da where
 mo:Int
 me:Int
 o:List bj
 b:List UInt8
structure Cu where
 af:Int
 n:List UInt8
 b:List UInt8
structure Md where
 ts:List Ft
 ims:List Im
 fs:List Cd
 tbs:List Tb
 ms:List Lm
 gs:List Gd
 exs:List Ex
 hs:Bool
 st:Int
 els:List El
 ds:List Da
 cs:List Cu
instance:Inhabited Ft:=⟨⟨[],[]⟩⟩
instance:Inhabited Lm:=⟨⟨0,0,false⟩⟩
instance:Inhabited Gl:=⟨⟨0,false⟩⟩
instance:Inhabited Im:=⟨⟨[],[],0,0,0,default,default,default⟩⟩
instance:Inhabited Cd:=⟨⟨0,[],[]⟩⟩
instance:Inhabited Tb:=⟨⟨0,default⟩⟩
instance:Inhabited Gd:=⟨⟨default,[]⟩⟩
instance:Inhabited Ex:=⟨⟨[],0,0⟩⟩
instance:Inhabited El:=⟨⟨0,0,[],0,[]⟩⟩
instance:Inhabited Da:=⟨⟨0,0,[],[]⟩⟩
instance:Inhabited Cu:=⟨⟨0,[],[]⟩⟩
instance:Inhabited Md:=⟨⟨[],[],[],[],[],[],[],false,0,[],[],[]⟩⟩
def pt(x:Ft):List AV:=[.sl 1 (x.ps.map aS),.sl 1 (x.rs.map aS)]
def B5(x:Lm):List AV:=[.int .i64 x.mn,.int .i64 x.mx,.bool x.hs]
def Nq(x:Gl):List AV:=[.int .i64 x.v,.bool x.mu]
def KH(x:Im):List AV:=[.str x.m,.str x.n,.int .i64 x.k,.int .i64 x.f,.int .i64 x.te,.int .i64 x.tl.mn,.int .i64 x.tl.mx,.bool x.tl.hs,.int .i64 x.me.mn,.int .i64 x.me.mx,.bool x.me.hs,.int .i64 x.g.v,.bool x.g.mu]
def Sx(x:Cd):List AV:=[.int .i64 x.t,.sl 1 (x.lo.map aS),.sl 9 (x.b.map cQ)]
def Dd(x:Tb):List AV:=[.int .i64 x.e,.int .i64 x.l.mn,.int .i64 x.l.mx,.bool x.l.hs]
def Zx(x:Gd):List AV:=[.int .i64 x.g.v,.bool x.g.mu,.sl 9 (x.i.map cQ)]
def T5(x:Ex):List AV:=[.str x.n,.int .i64 x.k,.int .i64 x.i]
def DW(l:List bj):List AV:=[.sl 9 (l.map cQ)]
def Kq(x:El):List AV:=[.int .i64 x.mo,.int .i64 x.tb,.sl 9 (x.o.map cQ),.int .i64 x.ty,.sl 1 (x.it.map DW)]
def Za(x:Da):List AV:=[.int .i64 x.mo,.int .i64 x.me,.sl 9 (x.o.map cQ),.sl 1 (x.b.map TC)]
def Y_(x:Cu):List AV:=[.int .i64 x.af,.str x.n,.sl 1 (x.b.map TC)]
def nX(x:Md):List AV:=[.sl 2 (x.ts.map pt),.sl 13 (x.ims.map KH),.sl 3 (x.fs.map Sx),.sl 4 (x.tbs.map Dd),.sl 3 (x.ms.map B5),.sl 3 (x.gs.map Zx),.sl 3 (x.exs.map T5),.bool x.hs,.int .i64 x.st,.sl 5 (x.els.map Kq),.sl 4 (x.ds.map Za),.sl 3 (x.cs.map Y_)]
def aW(x:Ft):pt x=[.sl 1 (x.ps.map aS),.sl 1 (x.rs.map aS)]:=rfl
def cX(x:Lm):B5 x=[.int .i64 x.mn,.int .i64 x.mx,.bool x.hs]:=rfl
def du(x:Im):KH x=[.str x.m,.str x.n,.int .i64 x.k,.int .i64 x.f,.int .i64 x.te,.int .i64 x.tl.mn,.int .i64 x.tl.mx,.bool x.tl.hs,.int .i64 x.me.mn,.int .i64 x.me.mx,.bool x.me.hs,.int .i64 x.g.v,.bool x.g.mu]:=rfl
def eY(x:Cd):Sx x=[.int .i64 x.t,.sl 1 (x.lo.map aS),.sl 9 (x.b.map cQ)]:=rfl
def bT(x:Tb):Dd x=[.int .i64 x.e,.int .i64 x.l.mn,.int .i64 x.l.mx,.bool x.l.hs]:=rfl
def nP(x:Gd):Zx x=[.int .i64 x.g.v,.bool x.g.mu,.sl 9 (x.i.map cQ)]:=rfl
def fM(x:Ex):T5 x=[.str x.n,.int .i64 x.k,.int .i64 x.i]:=rfl
def iB(l:List bj):DW l=[.sl 9 (l.map cQ)]:=rfl
def fZ(x:El):Kq x=[.int .i64 x.mo,.int .i64 x.tb,.sl 9 (x.o.map cQ),.int .i64 x.ty,.sl 1 (x.it.map DW)]:=rfl
def iQ(x:Da):Za x=[.int .i64 x.mo,.int .i64 x.me,.sl 9 (x.o.map cQ),.sl 1 (x.b.map TC)]:=rfl
def fY(x:Cu):Y_ x=[.int .i64 x.af,.str x.n,.sl 1 (x.b.map TC)]:=rfl
def aM(x:Md):nX x=[.sl 2 (x.ts.map pt),.sl 13 (x.ims.map KH),.sl 3 (x.fs.map Sx),.sl 4 (x.tbs.map Dd),.sl 3 (x.ms.map B5),.sl 3 (x.gs.map Zx),.sl 3 (x.exs.map T5),.bool x.hs,.int .i64 x.st,.sl 5 (x.els.map Kq),.sl 4 (x.ds.map Za),.sl 3 (x.cs.map Y_)]:=rfl
def ba(x:Md):AV:=.agg (nX x)
def bL{α:Type}(p:Nat->α->Prop)(B:Nat)(l:List α):Prop:=l.length<=B/\∀a∈l,p B a
def J3{α:Type}(τ:Ty)(f:α->List AV)(p:Nat->α->Prop):Prop:=∀r,τ.ok r->∃a,bg Nd r (f a)/\p maxLen a/\∀B,τ.bd B r->p B a
def acU{α:Type}{τ:Ty}{f:α->List AV}{p:Nat->α->Prop}(h:J3 τ f p):∀{rows:List (List AV)},(∀r∈rows,τ.ok r)->∃l:List α,bg (bg Nd) rows (l.map f)/\(∀a∈l,p maxLen a)/\∀B,(∀r∈rows,τ.bd B r)->∀a∈l,p B a
 | [],_=>⟨[],trivial,(λa h=>by cases h),(λ_ _ a h=>by cases h)⟩
 | r::rows,hr=>by
  obtain⟨a,h1,h2,h3⟩:=h r (hr r (by simp));obtain⟨l,g1,g2,g3⟩:=acU h (rows:=rows) λr hr'=>hr r (by simp[hr']);refine⟨a::l,⟨h1,g1⟩,λb hb=>?_,λB hB b hb=>?_⟩
  .rcases bM.1 hb with rfl|hb
   .exact h2
   .exact g2 b hb
  .rcases bM.1 hb with rfl|hb
   .exact h3 B (hB r (by simp))
   .exact g3 B (λr hr'=>hB r (by simp[hr'])) b hb
def A6{st:Nat}{rows rows':List (List AV)}(h:bg (bg Nd) rows rows'):Nd (.sl st rows) (.sl st rows'):=by
 refine .sl st _ _ h.length (λi r r' h1 h2=>?_) (λi j r r' x y h1 h2 h3 h4=>?_)
 .obtain⟨a,e1,e2⟩:=h.get h2;obtain rfl:=Ce (h1.symm.trans e1);exact e2.length
 .obtain⟨a,e1,e2⟩:=h.get h2;obtain rfl:=Ce (h1.symm.trans e1);obtain⟨b,e3,e4⟩:=e2.get h4;obtain rfl:=Ce (h3.symm.trans e3);exact e4
def Ff{α:Type}{τ:Ty}{f:α->List AV}{p:Nat->α->Prop}(h:J3 τ f p){r:List AV}(hr:(Ty.sl τ).ok r):∃x l,r=[x]/\Nd x (.sl τ.n (l.map f))/\bL p maxLen l/\∀B,(Ty.sl τ).bd B [x]->bL p B l:=by
 rcases hr with rfl|⟨rows,rfl,h2,h3⟩
 .exact⟨_,[],rfl,.nl _,⟨dx _,λa h=>by cases h⟩,λB _=>⟨dx _,λa h=>by cases h⟩⟩
 .obtain⟨l,g1,g2,g3⟩:=acU h h3;have hl:=g1.length;rw[bY]at hl;refine⟨_,l,rfl,A6 g1,⟨by omega,g2⟩,λB hB=>?_⟩;obtain⟨q1,q2⟩:=hB _ _ rfl;exact⟨by omega,g3 B q2⟩
def agL{n:Int}(h:(Lit.int .u8 n).wf=true):0<=n/\n<=255:=by simpa[Lit.wf,IntKind.min,IntKind.max,IntKind.signed,IntKind.bits]using h
def Qf{n:Int}(h:(Lit.int .u64 n).wf=true):0<=n/\n<18446744073709551616:=by
 have:0<=n/\n<=18446744073709551615:=by simpa[Lit.wf,IntKind.min,IntKind.max,IntKind.signed,IntKind.bits]using h
 omega
def noB{α:Type}(_:Nat)(_:α):Prop:=True
def Kr:J3 (.int .i64) aS noB:=λr h=>by
 obtain⟨n,rfl,_⟩:=h;exact⟨n,⟨.rfl _,trivial⟩,trivial,λ_ _=>trivial⟩
def acf:J3 (.int .u8) TC noB:=λr h=>by
 obtain⟨n,rfl,hw⟩:=h;have hn:=agL hw;refine⟨UInt8.ofNat n.toNat,?_,trivial,λ_ _=>trivial⟩;rw[ahQ (by omega),show((n.toNat:Nat):Int)=n by omega];exact⟨.rfl _,trivial⟩
def Fo:Ty:=.cons (.int .i64) (.cons (.int .i64) (.cons (.int .i64) (.cons (.int .u64) (.cons (.cons (.int .i64) (.cons (.int .i64) (.cons (.int .i64) .nil))) (.cons (.sl (.int .i64)) (.cons (.sl (.int .i64)) .nil))))))
def Ki(B:Nat)(x:bj):Prop:=(0<=x.n/\x.n<18446744073709551616)/\bL noB B x.ty/\bL noB B x.lb
def DE:J3 Fo cQ Ki:=λr h=>by
 obtain⟨_,_,rfl,⟨op,rfl,w_op⟩,_,_,rfl,⟨a,rfl,w_a⟩,_,_,rfl,⟨b,rfl,w_b⟩,_,_,rfl,⟨n,rfl,w_n⟩,_,_,rfl,⟨_,_,rfl,⟨k,rfl,w_k⟩,_,_,rfl,⟨v,rfl,w_v⟩,_,_,rfl,⟨z,rfl,w_z⟩,rfl⟩,_,_,rfl,h_ty,_,_,rfl,h_lb,rfl⟩:=h;obtain⟨x_ty,l_ty,rfl,d_ty,m_ty,b_ty⟩:=Ff Kr h_ty;obtain⟨x_lb,l_lb,rfl,d_lb,m_lb,b_lb⟩:=Ff Kr h_lb;exact⟨⟨op,a,b,n,k,v,z,l_ty,l_lb⟩,⟨.rfl _,.rfl _,.rfl _,.rfl _,.rfl _,.rfl _,.rfl _,d_ty,d_lb,trivial⟩,⟨Qf w_n,m_ty,m_lb⟩,λB hB=>⟨Qf w_n,b_ty B hB.2.2.2.2.2.1,b_lb B hB.2.2.2.2.2.2.1⟩⟩
def adb:Ty:=.cons (.sl (.int .i64)) (.cons (.sl (.int .i64)) .nil)
def ahw(B:Nat)(x:Ft):Prop:=bL noB B x.ps/\bL noB B x.rs
def aea:J3 adb pt ahw:=λr h=>by
 obtain⟨_,_,rfl,h_ps,_,_,rfl,h_rs,rfl⟩:=h;obtain⟨x_ps,l_ps,rfl,d_ps,m_ps,b_ps⟩:=Ff Kr h_ps;obtain⟨x_rs,l_rs,rfl,d_rs,m_rs,b_rs⟩:=Ff Kr h_rs;exact⟨⟨l_ps,l_rs⟩,⟨d_ps,d_rs,trivial⟩,⟨m_ps,m_rs⟩,λB hB=>⟨b_ps B hB.1,b_rs B hB.2.1⟩⟩
def adf:Ty:=.cons (.int .i64) (.cons (.int .i64) (.cons .bool .nil))
def ahz(B:Nat)(x:Lm):Prop:=True
def aed:J3 adf B5 ahz:=λr h=>by
 obtain⟨_,_,rfl,⟨mn,rfl,w_mn⟩,_,_,rfl,⟨mx,rfl,w_mx⟩,_,_,rfl,⟨hs,rfl⟩,rfl⟩:=h;exact⟨⟨mn,mx,hs⟩,⟨.rfl _,.rfl _,.rfl _,trivial⟩,trivial,λB hB=>trivial⟩
def adg:Ty:=.cons (.int .i64) (.cons (.cons (.int .i64) (.cons (.int .i64) (.cons .bool .nil))) .nil)
def ahB(B:Nat)(x:Tb):Prop:=True
def aef:J3 adg Dd ahB:=λr h=>by
 obtain⟨_,_,rfl,⟨e,rfl,w_e⟩,_,_,rfl,⟨_,_,rfl,⟨mn,rfl,w_mn⟩,_,_,rfl,⟨mx,rfl,w_mx⟩,_,_,rfl,⟨hs,rfl⟩,rfl⟩,rfl⟩:=h;exact⟨⟨e,⟨mn,mx,hs⟩⟩,⟨.rfl _,.rfl _,.rfl _,.rfl _,trivial⟩,trivial,λB hB=>trivial⟩
def ade:Ty:=.cons .str (.cons .str (.cons (.int .i64) (.cons (.int .i64) (.cons (.cons (.int .i64) (.cons (.cons (.int .i64) (.cons (.int .i64) (.cons .bool .nil))) .nil)) (.cons (.cons (.int .i64) (.cons (.int .i64) (.cons .bool .nil))) (.cons (.cons (.int .i64) (.cons .bool .nil)) .nil))))))
def ahy(B:Nat)(x:Im):Prop:=x.m.length<=B/\x.n.length<=B
def aec:J3 ade KH ahy:=λr h=>by
 obtain⟨_,_,rfl,⟨m,rfl,w_m⟩,_,_,rfl,⟨n,rfl,w_n⟩,_,_,rfl,⟨k,rfl,w_k⟩,_,_,rfl,⟨f,rfl,w_f⟩,_,_,rfl,⟨_,_,rfl,⟨te,rfl,w_te⟩,_,_,rfl,⟨_,_,rfl,⟨tmn,rfl,w_tmn⟩,_,_,rfl,⟨tmx,rfl,w_tmx⟩,_,_,rfl,⟨ths,rfl⟩,rfl⟩,rfl⟩,_,_,rfl,⟨_,_,rfl,⟨qmn,rfl,w_qmn⟩,_,_,rfl,⟨qmx,rfl,w_qmx⟩,_,_,rfl,⟨qhs,rfl⟩,rfl⟩,_,_,rfl,⟨_,_,rfl,⟨gv,rfl,w_gv⟩,_,_,rfl,⟨gmu,rfl⟩,rfl⟩,rfl⟩:=h;exact⟨⟨m,n,k,f,te,⟨tmn,tmx,ths⟩,⟨qmn,qmx,qhs⟩,⟨gv,gmu⟩⟩,⟨.rfl _,.rfl _,.rfl _,.rfl _,.rfl _,.rfl _,.rfl _,.rfl _,.rfl _,.rfl _,.rfl _,.rfl _,.rfl _,trivial⟩,⟨w_m,w_n⟩,λB hB=>⟨hB.1 _ rfl,hB.2.1 _ rfl⟩⟩
def ac7:Ty:=.cons (.int .i64) (.cons (.sl (.int .i64)) (.cons (.sl Fo) .nil))
def ahr(B:Nat)(x:Cd):Prop:=bL noB B x.lo/\bL Ki B x.b
def ad6:J3 ac7 Sx ahr:=λr h=>by
 obtain⟨_,_,rfl,⟨t,rfl,w_t⟩,_,_,rfl,h_lo,_,_,rfl,h_b,rfl⟩:=h;obtain⟨x_lo,l_lo,rfl,d_lo,m_lo,b_lo⟩:=Ff Kr h_lo;obtain⟨x_b,l_b,rfl,d_b,m_b,b_b⟩:=Ff DE h_b;exact⟨⟨t,l_lo,l_b⟩,⟨.rfl _,d_lo,d_b,trivial⟩,⟨m_lo,m_b⟩,λB hB=>⟨b_lo B hB.2.1,b_b B hB.2.2.1⟩⟩
def adc:Ty:=.cons (.cons (.int .i64) (.cons .bool .nil)) (.cons (.sl Fo) .nil)
def ahx(B:Nat)(x:Gd):Prop:=bL Ki B x.i
def aeb:J3 adc Zx ahx:=λr h=>by
 obtain⟨_,_,rfl,⟨_,_,rfl,⟨v,rfl,w_v⟩,_,_,rfl,⟨mu,rfl⟩,rfl⟩,_,_,rfl,h_i,rfl⟩:=h;obtain⟨x_i,l_i,rfl,d_i,m_i,b_i⟩:=Ff DE h_i;exact⟨⟨⟨v,mu⟩,l_i⟩,⟨.rfl _,.rfl _,d_i,trivial⟩,m_i,λB hB=>b_i B hB.2.1⟩
def ada:Ty:=.cons .str (.cons (.int .i64) (.cons (.int .i64) .nil))
def ahv(B:Nat)(x:Ex):Prop:=x.n.length<=B
def ad_:J3 ada T5 ahv:=λr h=>by
 obtain⟨_,_,rfl,⟨n,rfl,w_n⟩,_,_,rfl,⟨k,rfl,w_k⟩,_,_,rfl,⟨i,rfl,w_i⟩,rfl⟩:=h;exact⟨⟨n,k,i⟩,⟨.rfl _,.rfl _,.rfl _,trivial⟩,w_n,λB hB=>hB.1 _ rfl⟩
def Zh:J3 (.sl Fo) DW (bL Ki):=λr h=>by
 obtain⟨x,l,rfl,d,m,b⟩:=Ff DE h;exact⟨l,⟨d,trivial⟩,m,λB hB=>b B hB⟩
def ac_:Ty:=.cons (.int .i64) (.cons (.int .i64) (.cons (.sl Fo) (.cons (.int .i64) (.cons (.sl (.sl Fo)) .nil))))
def ahu(B:Nat)(x:El):Prop:=bL Ki B x.o/\bL (bL Ki) B x.it
def ad9:J3 ac_ Kq ahu:=λr h=>by
 obtain⟨_,_,rfl,⟨mo,rfl,w_mo⟩,_,_,rfl,⟨tb,rfl,w_tb⟩,_,_,rfl,h_o,_,_,rfl,⟨ty,rfl,w_ty⟩,_,_,rfl,h_it,rfl⟩:=h;obtain⟨x_o,l_o,rfl,d_o,m_o,b_o⟩:=Ff DE h_o;obtain⟨x_it,l_it,rfl,d_it,m_it,b_it⟩:=Ff Zh h_it;exact⟨⟨mo,tb,l_o,ty,l_it⟩,⟨.rfl _,.rfl _,d_o,.rfl _,d_it,trivial⟩,⟨m_o,m_it⟩,λB hB=>⟨b_o B hB.2.2.1,b_it B hB.2.2.2.2.1⟩⟩
def ac9:Ty:=.cons (.int .i64) (.cons (.int .i64) (.cons (.sl Fo) (.cons (.sl (.int .u8)) .nil)))
def aht(B:Nat)(x:Da):Prop:=bL Ki B x.o/\bL noB B x.b
def ad8:J3 ac9 Za aht:=λr h=>by
 obtain⟨_,_,rfl,⟨mo,rfl,w_mo⟩,_,_,rfl,⟨me,rfl,w_me⟩,_,_,rfl,h_o,_,_,rfl,h_b,rfl⟩:=h;obtain⟨x_o,l_o,rfl,d_o,m_o,b_o⟩:=Ff DE h_o;obtain⟨x_b,l_b,rfl,d_b,m_b,b_b⟩:=Ff acf h_b;exact⟨⟨mo,me,l_o,l_b⟩,⟨.rfl _,.rfl _,d_o,d_b,trivial⟩,⟨m_o,m_b⟩,λB hB=>⟨b_o B hB.2.2.1,b_b B hB.2.2.2.1⟩⟩
def ac8:Ty:=.cons (.int .i64) (.cons .str (.cons (.sl (.int .u8)) .nil))
def ahs(B:Nat)(x:Cu):Prop:=x.n.length<=B/\bL noB B x.b
def ad7:J3 ac8 Y_ ahs:=λr h=>by
 obtain⟨_,_,rfl,⟨af,rfl,w_af⟩,_,_,rfl,⟨n,rfl,w_n⟩,_,_,rfl,h_b,rfl⟩:=h;obtain⟨x_b,l_b,rfl,d_b,m_b,b_b⟩:=Ff acf h_b;exact⟨⟨af,n,l_b⟩,⟨.rfl _,.rfl _,d_b,trivial⟩,⟨w_n,m_b⟩,λB hB=>⟨hB.2.1 _ rfl,b_b B hB.2.2.1⟩⟩
def My:Ty:=.cons (.sl adb) (.cons (.sl ade) (.cons (.sl ac7) (.cons (.sl adg) (.cons (.sl adf) (.cons (.sl adc) (.cons (.sl ada) (.cons .bool (.cons (.int .i64) (.cons (.sl ac_) (.cons (.sl ac9) (.cons (.sl ac8) .nil)))))))))))
def ahA(B:Nat)(x:Md):Prop:=bL ahw B x.ts/\bL ahy B x.ims/\bL ahr B x.fs/\bL ahB B x.tbs/\bL ahz B x.ms/\bL ahx B x.gs/\bL ahv B x.exs/\bL ahu B x.els/\bL aht B x.ds/\bL ahs B x.cs
def aee:J3 My nX ahA:=λr h=>by
 obtain⟨_,_,rfl,h_ts,_,_,rfl,h_ims,_,_,rfl,h_fs,_,_,rfl,h_tbs,_,_,rfl,h_ms,_,_,rfl,h_gs,_,_,rfl,h_exs,_,_,rfl,⟨hs,rfl⟩,_,_,rfl,⟨st,rfl,w_st⟩,_,_,rfl,h_els,_,_,rfl,h_ds,_,_,rfl,h_cs,rfl⟩:=h;obtain⟨x_ts,l_ts,rfl,d_ts,m_ts,b_ts⟩:=Ff aea h_ts;obtain⟨x_ims,l_ims,rfl,d_ims,m_ims,b_ims⟩:=Ff aec h_ims;obtain⟨x_fs,l_fs,rfl,d_fs,m_fs,b_fs⟩:=Ff ad6 h_fs;obtain⟨x_tbs,l_tbs,rfl,d_tbs,m_tbs,b_tbs⟩:=Ff aef h_tbs;obtain⟨x_ms,l_ms,rfl,d_ms,m_ms,b_ms⟩:=Ff aed h_ms;obtain⟨x_gs,l_gs,rfl,d_gs,m_gs,b_gs⟩:=Ff aeb h_gs;obtain⟨x_exs,l_exs,rfl,d_exs,m_exs,b_exs⟩:=Ff ad_ h_exs;obtain⟨x_els,l_els,rfl,d_els,m_els,b_els⟩:=Ff ad9 h_els;obtain⟨x_ds,l_ds,rfl,d_ds,m_ds,b_ds⟩:=Ff ad8 h_ds;obtain⟨x_cs,l_cs,rfl,d_cs,m_cs,b_cs⟩:=Ff ad7 h_cs;exact⟨⟨l_ts,l_ims,l_fs,l_tbs,l_ms,l_gs,l_exs,hs,st,l_els,l_ds,l_cs⟩,⟨d_ts,d_ims,d_fs,d_tbs,d_ms,d_gs,d_exs,.rfl _,.rfl _,d_els,d_ds,d_cs,trivial⟩,⟨m_ts,m_ims,m_fs,m_tbs,m_ms,m_gs,m_exs,m_els,m_ds,m_cs⟩,λB hB=>⟨b_ts B hB.1,b_ims B hB.2.1,b_fs B hB.2.2.1,b_tbs B hB.2.2.2.1,b_ms B hB.2.2.2.2.1,b_gs B hB.2.2.2.2.2.1,b_exs B hB.2.2.2.2.2.2.1,b_els B hB.2.2.2.2.2.2.2.2.2.1,b_ds B hB.2.2.2.2.2.2.2.2.2.2.1,b_cs B hB.2.2.2.2.2.2.2.2.2.2.2.1⟩⟩
def alu{α:Type}{τ:Ty}{f:α->List AV}{p:Nat->α->Prop}(h:J3 τ f p)(hr:τ.isRec=true){x:AV}(hx:τ.okV x):∃a,nld x (.agg (f a))/\p maxLen a/\∀B,τ.bdV B x->p B a:=by
 unfold Ty.okV at hx;rw[hr]at hx;obtain⟨xs,rfl,hx⟩:=hx;obtain⟨a,h1,h2,h3⟩:=h xs hx;refine⟨a,.inr ⟨_,_,rfl,rfl,h1⟩,h2,λB hB=>h3 B ?_⟩;unfold Ty.bdV at hB;rw[hr]at hB;exact hB _ rfl
def alo{τ:Ty}{xs:List AV}(h:bg Ty.okV [τ] xs):∃x,xs=[x]/\τ.okV x:=by
 match xs,h with
 | [x],h=>exact⟨x,rfl,h.1⟩
def aj4:wy pg 9 33=some My:=by kernel_rfl
section
def adE(id:Nat)(t:TypeId)(st:Nat)(ys:List (List AV)):AF id t st 0 0 ys (some ⟨t,st,[],false⟩) =
  if ys.length<137438953472/\(0:Nat)<137438953472/\(id<1000\/2000<=id)then some (.ms id st 0 (0+ys.length),.reb id ⟨t,st,ys,false⟩)else none:=by
 have h:=cC id t st 0 (λ_:Unit=>([]:List AV)) [] ys rfl;simpa using h
def cpI(x:bj):Prop:=x.ty.length<=1048576/\x.lb.length<=1048576/\0<=x.n
def TP(l:List bj):Prop:=l.length<=1048576/\∀x∈l,cpI x
def cpF(x:Ft):Prop:=x.ps.length<=1048576/\x.rs.length<=1048576
def akG(x:Cd):Prop:=x.lo.length<=1048576/\TP x.b
def akK(x:Gd):Prop:=TP x.i
def akJ(x:El):Prop:=TP x.o/\x.it.length<=1048576/\∀l∈x.it,TP l
def akI(x:Da):Prop:=TP x.o/\x.b.length<=1048576
def akH(x:Cu):Prop:=x.b.length<=1048576
structure cpM(m:Md):Prop where
 ts:m.ts.length<=1048576/\∀x∈m.ts,cpF x
 ims:m.ims.length<=1048576
 fs:m.fs.length<=1048576/\∀x∈m.fs,akG x
 tbs:m.tbs.length<=1048576
 ms:m.ms.length<=1048576
 gs:m.gs.length<=1048576/\∀x∈m.gs,akK x
 exs:m.exs.length<=1048576
 els:m.els.length<=1048576/\∀x∈m.els,akJ x
 ds:m.ds.length<=1048576/\∀x∈m.ds,akI x
 cs:m.cs.length<=1048576/\∀x∈m.cs,akH x
def C_(x:bj):Prop:=x.ty.length<=9223372036854775807/\x.lb.length<=9223372036854775807/\0<=x.n
def Mr(l:List bj):Prop:=l.length<=9223372036854775807/\∀x∈l,C_ x
def smF(x:Ft):Prop:=x.ps.length<=9223372036854775807/\x.rs.length<=9223372036854775807
def abG(x:Cd):Prop:=x.lo.length<=9223372036854775807/\Mr x.b
def ajT(x:Gd):Prop:=Mr x.i
def agw(x:El):Prop:=Mr x.o/\x.it.length<=140737488355328/\∀l∈x.it,Mr l
def agv(x:Da):Prop:=Mr x.o/\x.b.length<=9223372036854775807
def alI(x:Cu):Prop:=x.b.length<=9223372036854775807
structure yD(m:Md):Prop where
 ts:m.ts.length<=140737488355328/\∀x∈m.ts,smF x
 ims:m.ims.length<=140737488355328
 fs:m.fs.length<=140737488355328/\∀x∈m.fs,abG x
 tbs:m.tbs.length<=140737488355328
 ms:m.ms.length<=140737488355328
 gs:m.gs.length<=140737488355328/\∀x∈m.gs,ajT x
 exs:m.exs.length<=140737488355328
 els:m.els.length<=140737488355328/\∀x∈m.els,agw x
 ds:m.ds.length<=140737488355328/\∀x∈m.ds,agv x
 cs:m.cs.length<=140737488355328/\∀x∈m.cs,alI x
def pU{α:Type}[Inhabited α]{p:α->Prop}{l:List α}(h:∀x∈l,p x){i:Nat}(hi:i<l.length):p (av l i):=by
 rw[aY hi];exact h _ (eH hi)
def JT{α:Type}[Inhabited α]{l:List α}{i:Nat}(h:i<l.length):l.take (i+1)=l.take i++[av l i]:=by rw[H1,md h,H0]
attribute[local go_sem] bY
def pp(rows:List (List AV))(h:rows.length<=1048576):aj pg kP [.sl 1 rows] (.sl 1 rows):=by
 refine ao fX ?_;have ha:=adE 5 48 1 rows;simp only[go_sem,fX];refine abI _ _ _ _ ⟨?_,λh0=>?_⟩
 .simp only[go_sem,ha];refine⟨by omega,aq [5] ?_ rfl⟩;simp only[go_sem,aQ];rw[rN]
 .subst h0;simp only[go_sem];exact dB (Wk.nls _ 2 1 (by simp only[go_sem])) [] (by first|rfl|simp only[go_sem]) rfl
end
def uv(l:List UInt8):Bool:=Lib.validD l
def agQ:uv []=true:=rfl
