import Derived.Test.YtijcmjncppkpiaaGreatDoorCQh
set_option linter.all false
set_option maxRecDepth 100000
set_option maxHeartbeats 40000000
namespace Go.Proofs.YtijcmjncppkpiaaGreatDoor
section
open Go Go.Mw Go.RowKit Go.Shelf
attribute[local go_sem] Oper.semAt_some
def bB(op:Int):List UInt8:=match EN.find? (λp=>p.1==op)with
 | some p=>p.2
 | none=>[]
def Oe{α:Type}{f:α->Bool}{l dB:List α}{x:α}(h:dB++[x] <+: l)(hn:∀p∈dB,f p=false)(hx:f x=true):l.find? f=some x:=by
 obtain⟨r,rfl⟩:=h;rw[mE,List.find?_append,List.find?_eq_none.2 (λp hp=>by rw[hn p hp];decide)];simp[hx]
def ja{w W:World}{l:Nat}{o o':Obj}(h:gR No w W)(hl:w.heap.size<=l)(hc:W.heap[l]?=some o)(ho:o.isCells=false):gR No w (W.putObj l o') where
 size:=cZ h.size (grownBy_putObj' W l o').size
 keep b hb _:=by rw[World.putObj_heap_other (by omega)];exact h.keep b hb (λh=>h)
 shape b c t fr hb:=by
  obtain⟨c',fr',h1,h2⟩:=h.shape b c t fr hb;exact⟨c',fr',by rw[World.putObj_heap_other (by have:=aQ hb;omega)];exact h1,h2⟩
 os:=(grownBy_putObj' W l o').os.trans h.os
 out:=(grownBy_putObj' W l o').output.trans h.out
def eB{w W:World}{a:Addr}{v:Value}(h:gR No w W)(hl:w.heap.size<=a.block):gR No w (W.setCell a v) where
 size:=by simpa[World.setCell]using h.size
 keep b hb _:=by
  have:b≠a.block:=by omega
  simp only[World.setCell,yP,ax (Ne.symm this)];exact h.keep b hb (λh=>h)
 shape b c t fr hb:=by
  obtain⟨c',fr',h1,h2⟩:=h.shape b c t fr hb;have:b≠a.block:=by have:=aQ hb;omega
  exact⟨c',fr',by simp only[World.setCell,yP,ax (Ne.symm this)];exact h1,h2⟩
 os:=h.os
 out:=h.out
def XW{bl:Nat->Option Nat}{M:Nat->Prop}{w:World}{v:Value}{f:FuncId}(h:aY bl M w v (.fn f []))(hf:decide (f<4000000)=true:=by rfl):v = .func (.func f) #[] #[]:=by
 obtain⟨cs,rfl,h⟩:=h;have h1:V0 f=f:=aF (of_decide_eq_true hf);cases cs with
 | nil=>rw[h1];simp
 | cons=>exact h.elim
def uL{fn:Func}{t:Tmp}{ty:TypeId}(h:fn.results = #[.cell t ty])(tmps:Array Value)(P:Program)(w:World){b:Nat}{v:Value}(ha:tmps.getD t undef = .pointer (some ⟨b,0,none⟩))(hagg:(isAgg ty).run P w = .ok false w)
  (hc:w.cell? ⟨b,0,none⟩=some v):(results fn tmps).run P w = .ok v w:=by
 simp only[oI]at ha;have hc':w.cell? {block:=b,off:=0}=some v:=hc;simp[results,h,ha,asAddr,loadVar,hagg,hc']
def Al(op:Int):ah pg 360 [.int .i64 op] (.str (bB op)):=by
 refine ah.of (λw bl M cargs hH hM ha=>?_) rfl
 match cargs,ha with
 | [a],⟨h1,_⟩ =>
 obtain rfl:=h1.int;refine(callsIn_wide (n:=3)).1 ?_;refine callsIn_of_wp_marks Tryz.func360 rfl trivial ?_ rfl;have hs1:=(gR.ofAlloc w (.cells #[.int .i64 op] 83)).one (gR.ofAlloc _ (.cells #[.string ⟨#[]⟩] 9));have hH1:=(ba.T pg).stay _ _ hH λq hq=>hs1.keep q ((ba.T pg).low _ hH q hq) (λh=>h);have cn:=ah.run QW _ hH1 (cargs:=[]) trivial;simp only[Tryz.ntmps360,List.size_toArray,j1,iN,Nat.reduceAdd,Nat.reduceSub,Array.replicate_succ,Array.replicate_zero,List.push_toArray,List.append_toArray,iD,tU]
 gi_wp2
 refine⟨trivial,(callsIn_wide.2 cn).mono ?_⟩;rintro e W1 ⟨v,rfl,hv,hst⟩;obtain rfl:=XW hv;have hsW:=hs1.one hst;have hHW:=(ba.T pg).stay _ _ hH λq hq=>hsW.keep q ((ba.T pg).low _ hH q hq) (λh=>h);have hb0:W1.heap[w.heap.size]?=some (.cells #[.int .i64 op] 83):=by
  rw[hst.keep _ (by simp<;>omega) (λh=>h)];exact(Below.heap_alloc _ _ _ (by simp)).trans (World.alloc_heap_new _ _)
 have hb1:W1.heap[w.heap.size+1]?=some (.cells #[.string ⟨#[]⟩] 9):=by
  rw[hst.keep _ (by simp) (λh=>h)];have:=World.alloc_heap_new (w.alloc (.cells #[.int .i64 op] 83)) (.cells #[.string ⟨#[]⟩] 9);rwa[World.size_alloc]at this
 have hz:w.heap.size+2<=W1.heap.size:=by have:=hst.size;simpa using this
 clear cn hst hs1 hH1 hv
 gi_wp2
 refine MH (α:=Int×List UInt8) (encs:=XT) (E:=EN) (by decide) hHW (gf:=443) (lb:=#[]) rfl (enters_of Tryz.func443 (by kernel_rfl) rfl) (YM _ W1) (gR.refl _ _) (λ_=>rfl)
  (λdB W=>gR No w W/\W.heap[w.heap.size]?=some (.cells #[.int .i64 op] 83)/\W.heap[w.heap.size+1]?=some (.cells #[.string ⟨#[]⟩] 9)/\∀p∈dB,(p.1==op)=false)
  (λc dB W=>c = .ret/\gR No w W/\W.heap[w.heap.size+1]?=some (.cells #[.string ⟨(bB op).toArray⟩] 9))
  (λs A B h hs=>⟨h.1.one hs,(hs.keep _ (aQ h.2.1) (λh=>h)).trans h.2.1,(hs.keep _ (aQ h.2.2.1) (λh=>h)).trans h.2.2.1,h.2.2.2⟩)
  (λc s A B h hs=>⟨h.1,h.2.1.one hs,(hs.keep _ (aQ h.2.2) (λh=>h)).trans h.2.2⟩)
  (λs W l o o' h hl hc ho=>⟨ja h.1 (by omega) hc ho,by rw[World.putObj_heap_other (by omega)];exact h.2.1,by rw[World.putObj_heap_other (by omega)];exact h.2.2.1,h.2.2.2⟩)
  (λc s W l o o' h hl hc ho=>⟨h.1,ja h.2.1 (by omega) hc ho,by rw[World.putObj_heap_other (by omega)];exact h.2.2⟩)
  ⟨hsW,hb0,hb1,λp hp=>absurd hp bZ⟩
  (λx=>{tmps:=#[.int .i64 op,.pointer (some ⟨w.heap.size,0,none⟩),.pointer (some ⟨w.heap.size+1,0,none⟩),.int .i64 x.1,.string ⟨x.2.toArray⟩,.func (.func 443) #[] #[],.int .i64 x.1,.string ⟨x.2.toArray⟩,undef,undef,undef,undef],defers:=[]}) ?assign ?body ?done ?stop
 case assign =>
  intro l x W K hK;simp only[XT]
  gi_wp2
  exact hK
 case body =>
  rintro l dB x W ⟨hS,hB0,hB1,hP⟩ hpre;have d0:W.cell? ⟨w.heap.size,0,none⟩=some (.int .i64 op):=bD hB0 _;have d1:W.cell? ⟨w.heap.size+1,0,none⟩=some (.string ⟨#[]⟩):=bD hB1 _;have f1:W.frozen? ⟨w.heap.size+1,0,none⟩=false:=by simp[World.frozen?,hB1]
  by_cases hx:x.1=op
  .have hn:bB op=x.2:=by
    unfold bB;rw[Oe hpre hP (by simpa using hx)]
   gi_wp2
   refine⟨KeepsOthers.setCell _ _ _,rfl,eB hS (by simp),?_⟩;rw[hn];simp[World.setCell,yP,hB1]
  .gi_wp2
   refine⟨⟨aN _,λ_ _ h _=>h⟩,zY.refl _ _,hS,hB0,hB1,λp hp=>?_⟩;rcases gh.1 hp with hp|hp
   .exact hP p hp
   .rw[eF.1 hp];simpa using hx
 case done =>
  rintro D W hD ⟨hS,hB0,hB1,hP⟩ hK;have d1:W.cell? ⟨w.heap.size+1,0,none⟩=some (.string ⟨#[]⟩):=bD hB1 _;have f1:W.frozen? ⟨w.heap.size+1,0,none⟩=false:=by simp[World.frozen?,hB1]
  have hn:bB op=[]:=by
   unfold bB;rw[List.find?_eq_none.2 (λp hp=>by rw[hP p hp];decide)]
  gi_wp2
  have hD2:(W.setCell ⟨w.heap.size+1,0,none⟩ (.string ⟨#[]⟩)).heap[D]?=some (.deferred (some [])):=by
   simp only[World.setCell,yP,ax (show ¬w.heap.size+1=D by omega)];exact hK
  have hB3:(W.setCell ⟨w.heap.size+1,0,none⟩ (.string ⟨#[]⟩)).heap[w.heap.size+1]?=some (.cells #[.string ⟨#[]⟩] 9):=by
   simp[World.setCell,yP,hB1]
  have hS2:=ja (eB hS (a:=⟨w.heap.size+1,0,none⟩) (v:=.string ⟨#[]⟩) (by simp)) (by omega) hD2 rfl (o':=.deferred none);refine⟨by simp,.inl ⟨_,_,rfl,run_takeDeferred hD2,?_⟩⟩;have hB4:((W.setCell ⟨w.heap.size+1,0,none⟩ (.string ⟨#[]⟩)).putObj D (.deferred none)).heap[w.heap.size+1]?=some (.cells #[.string ⟨#[]⟩] 9):=by rw[World.putObj_heap_other (by omega)];exact hB3
  refine⟨_,uL rfl _ _ _ rfl (Tryz.isAgg9 _) (bD hB4 _),_,rfl,hS2,?_⟩;rw[hn];exact IRel.str _
 case stop =>
  rintro D c dB W hD hp ⟨rfl,hS,hB1⟩ hK
  gi_wp2
  have hS2:=ja hS (by omega) hK rfl (o':=.deferred none);refine⟨by simp,.inl ⟨_,_,rfl,run_takeDeferred hK,?_⟩⟩;have hB4:(W.putObj D (.deferred none)).heap[w.heap.size+1]?=some (.cells #[.string ⟨(bB op).toArray⟩] 9):=by rw[World.putObj_heap_other (by omega)];exact hB1
  exact⟨_,uL rfl _ _ _ rfl (Tryz.isAgg9 _) (bD hB4 _),_,rfl,hS2,IRel.str _⟩
def gD{W:World}{b off:Nat}{c:Array Value}{t:TypeId}{fr:Nat×Nat}{v:Value}(h:W.heap[b]?=some (.cells c t fr)):(W.setCell ⟨b,off,none⟩ v).heap[b]?=some (.cells (c.setIfInBounds off v) t fr):=by
 simp[World.setCell,yP,h]
def dL{W:World}{b b' off:Nat}{v:Value}(h:b≠b'):(W.setCell ⟨b,off,none⟩ v).heap[b']? = W.heap[b']?:=by
 simp[World.setCell,yP,h]
def CN{fn:Func}{t t2:Tmp}{ty ty2:TypeId}(h:fn.results = #[.cell t ty,.cell t2 ty2])(tmps:Array Value)(P:Program)(w:World){b b2:Nat}{v v2:Value}(ha:tmps.getD t undef = .pointer (some ⟨b,0,none⟩))(hagg:(isAgg ty).run P w = .ok false w)
  (hc:w.cell? ⟨b,0,none⟩=some v) (ha2:tmps.getD t2 undef = .pointer (some ⟨b2,0,none⟩)) (hagg2:(isAgg ty2).run P w = .ok false w) (hc2:w.cell? ⟨b2,0,none⟩=some v2):(results fn tmps).run P w = .ok (.tuple #[v,v2]) w:=by
 simp only[oI]at ha ha2;have hc':w.cell? {block:=b,off:=0}=some v:=hc;have hc2':w.cell? {block:=b2,off:=0}=some v2:=hc2;simp[results,h,ha,asAddr,loadVar,hagg,hc',ha2,hagg2,hc2']
end
section
open Go Go.Mw
attribute[local go_sem] ab_
def st_(s:List UInt8):List AV:=[.str s]
def aeG(s:List UInt8):st_ s=[.str s]:=rfl
attribute[go_sem] aeG
end
section
open Go Go.Mw
def xC(op:Int):Option Oc:=OC.find? (λo=>o.op==op)
def rNm(op:Int):List UInt8:=((xC op).getD default).nm
def L_(op:Int):Int:=((xC op).getD default).im
def Wp(op:Int):Bool:=(xC op).isSome
attribute[local go_sem] ab_
def MJ(s p:List UInt8):Bool:=(List.range (s.length+1)).any λi=>decide (i+p.length<=s.length)&&((s.drop i).take p.length==p)
def wR(s:List UInt8):Int:=if MJ s [100,56]=true then 1 else if MJ s [101,56]=true then 1 else if MJ s [100,49,54]=true then 2 else if MJ s [101,49,54]=true then 2 else
 if MJ s [100,51,50]=true then 4 else if MJ s [101,51,50]=true then 4 else if(s.drop 1).take 2=[51,50]then 4 else 8
def ME(op:Int):Int:=if L_ op≠17 then 0 else wR (rNm op)
def aaF(w:Int):Int:=if w=2 then 1 else if w=4 then 2 else if w=8 then 3 else 0
def free(op:Int):Bool:=op==1||(op==2||(op==3||(op==5||op==11)))
def N0(op:Int):Int:=if free op=true then 0 else if Wp op=true then 1 else 0
end
open Go Go.Mw
def G3{p:Int->List UInt8->Bool}(h:EN.all (λx=>p x.1 x.2)=true)(op:Int):bB op=[]\/p op (bB op)=true:=by
 unfold bB;cases hr:EN.find? (λx=>x.1==op)with
 | none=>exact .inl rfl
 | some o =>
  have h1:=f_.1 h o (List.mem_of_find?_eq_some hr);have h2:=List.find?_some hr;simp only[beq_iff_eq]at h2;rw[h2]at h1;exact .inr h1
def Bu(op:Int):(bB op).length<1000:=by
 rcases G3 (p:=λ_ s=>decide (s.length<1000)) (by decide +kernel) op with h|h
 .rw[h];decide
 .exact of_decide_eq_true h
def VO(op:Int):Bool:=decide (op>=40)&&(decide (op<=62) && !(bB op==[]))
def RU(op:Int)(h:VO op=true):5<=(bB op).length:=by
 simp only[VO,fQ,tT,yO,CV,ne_eq]at h;rcases G3 (p:=λk s=>decide (40<=k->k<=62->5<=s.length)) (by decide +kernel) op with h1|h1
 .exact absurd h1 h.2.2
 .exact(of_decide_eq_true h1) h.1 h.2.1
def Hy(op:Int):ah pg Bn [.int .i64 op] (.bool (!(bB op==[]))):=by
 refine au rn ?_;simp only[go_sem,rn];refine aa (Al op) ?_;exact ac
def acy(s p:List UInt8)(hs:s.length<1000000/\p.length<1000000):ah pg pd [.str s,.str p] (.bool (decide (p.length<=s.length)&&(s.take p.length==p))):=by
 refine au eV ?_;by_cases h:(s.length:Int)>=(p.length:Int)
 .simp only[go_sem,eV,aw h,aw (show p.length<=s.length by omega)];exact⟨by omega,by exact ac⟩
 .simp only[go_sem,eV,aC h,aC (show ¬p.length<=s.length by omega)];exact ac
def Ad(s p:List UInt8):Bool:=decide (p.length<=s.length)&&(s.take p.length==p)
def Fn(s p:List UInt8)(hs:s.length<1000000/\p.length<1000000):ah pg tP [.str s,.str p] (.bool (Ad s p)):=by
 refine au lQ ?_;simp only[go_sem,lQ];refine aa (acy s p hs) ?_;exact an
def QL(op:Int):ah pg zJ [.int .i64 op] (.bool (VO op)):=by
 refine au iR ?_;unfold VO;by_cases h1:op>=40
 .by_cases h2:op<=62
  .simp only[go_sem,iR,aw h1,aw h2,gp];refine aa (Hy op) ?_;exact ac
  .simp only[go_sem,iR,aw h1,aC h2,gp,gX];exact ac
 .simp only[go_sem,iR,aC h1,gX];exact ac
def wNm(s:List UInt8):Int:=if Lib.contains (s.drop 4) [56]=true then 1 else if Lib.contains (s.drop 4) [49,54]=true then 2 else if Lib.contains (s.drop 4) [51,50]=true then 4 else if s.take 3=[105,51,50]then 4 else 8
def mD(op:Int):Int:=if VO op=true then wNm (bB op)else 0
def HD(op:Int):ah pg Bo [.int .i64 op] (.int .i64 (mD op)):=by
 refine au rq ?_;simp only[go_sem,rq];refine ak (QL op) ?_;cases hac:VO op
 .have r:mD op=0:=by rw[mD,hac];rfl
  rw[r];simp only[go_sem];exact an
 .have r:mD op=wNm (bB op):=by rw[mD,hac];rfl
  have hl:=Bu op;have hl2:=RU op hac;rw[r];simp only[go_sem];refine aa (Al op) ?_;generalize bB op=s at hl hl2;obtain⟨Inv,hInv⟩:∃Inv:Nat->Prop,Inv=λi=>i<=3/\(0<i->Lib.contains (s.drop 4) [56]=false)/\(1<i->Lib.contains (s.drop 4) [49,54]=false)/\(2<i->Lib.contains (s.drop 4) [51,50]=false):=⟨_,rfl⟩
  refine ao (λi:Nat=>⟨[(11,.ms 11 1 0 3),(12,.int .i64 3),(13,.int .i64 i),(3,.str s),(2,.int .i64 0)],[(11,⟨3,1,[[.int .i64 8],[.int .i64 16],[.int .i64 32]],false⟩)]⟩) Inv (λi=>3-i) 0 (by rw[hInv];exact⟨by decide,λh=>absurd h (by decide),λh=>absurd h (by decide),λh=>absurd h (by decide)⟩) (Wk.of ?_ ?_) ?_
  .simp only[go_sem];try simp
  .simp only[go_sem];try simp
  intro i hInv1;rw[hInv]at hInv1;obtain⟨hi,h1,h2,h3⟩:=hInv1;have hd:(s.drop 4).length<4294967281:=by simp;omega
  have e4:(s.drop 4).take (s.length-4)=s.drop 4:=gN (by simp);have hl4:4<=s.length:=by omega
  have c0:((0:Nat):Int)=0:=rfl;have c1:((1:Nat):Int)=1:=rfl;have c2:((2:Nat):Int)=2:=rfl;have c3:((3:Nat):Int)=3:=rfl;have ld:∀k:Nat,Yy none 1 k 0 (some ⟨3,1,[[.int .i64 8],[.int .i64 16],[.int .i64 32]],false⟩)=(match k with|0=>some (.int .i64 8)|1=>some (.int .i64 16)|2=>some (.int .i64 32)|_=>none):=λk=>by
   rcases k with _|_|_|k<;>rfl
  have ls:∀k:Nat,Yy none 1 k 0 (some ⟨9,1,[[.str [56]],[.str [49,54]],[.str [51,50]]],false⟩)=(match k with|0=>some (.str [56])|1=>some (.str [49,54])|2=>some (.str [51,50])|_=>none):=λk=>by
   rcases k with _|_|_|k<;>rfl
  have q0:IntKind.i64.wrap ((8:Int).tdiv 16)=0:=by decide
  have q1:IntKind.i64.wrap ((16:Int).tdiv 16)=1:=by decide
  have q2:IntKind.i64.wrap ((32:Int).tdiv 16)=2:=by decide
  have p0:IntKind.i64.wrap ((8:Int).tdiv 8)=1:=by decide
  have p1:IntKind.i64.wrap ((16:Int).tdiv 8)=2:=by decide
  have p2:IntKind.i64.wrap ((32:Int).tdiv 8)=4:=by decide
  have s0:IntKind.i64.wrap ((0:Int)+1)=1:=by decide
  have s1:IntKind.i64.wrap ((1:Int)+1)=2:=by decide
  have s2:IntKind.i64.wrap ((2:Int)+1)=3:=by decide
  have t0:(0:Int).toNat=0:=rfl;have t1:(1:Int).toNat=1:=rfl;have t2:(2:Int).toNat=2:=rfl;unfold wNm;rcases(show i=0\/i=1\/i=2\/i=3 by omega)with rfl|rfl|rfl|rfl
  .simp only[go_sem,hl4,e4,c0,c1,c2,c3,aw (show(0:Int)<3 by decide),ld,ls,q0,q1,q2,t0,t1,t2];refine⟨⟨by decide,by decide⟩,⟨by decide,by omega⟩,by decide,⟨by decide,by decide⟩,?_⟩;refine ak (vJ (s.drop 4) [56] hd) ?_;cases hc:Lib.contains (s.drop 4) [56]
   .simp only[go_sem];refine ay 1 (by rw[hInv];exact⟨by decide,λ_=>hc,λh=>absurd h (by decide),λh=>absurd h (by decide)⟩) (show 3-1<3-0 by decide) (Wk.of ?_ ?_)
    .simp only[go_sem,s0,s1,s2,c0,c1,c2,c3]
     try simp
    .simp only[go_sem]
   .simp only[go_sem,p0,p1,p2];exact⟨by decide,by exact an⟩
  .rw[h1 (by decide)];simp only[go_sem,hl4,e4,c0,c1,c2,c3,aw (show(1:Int)<3 by decide),ld,ls,q0,q1,q2,t0,t1,t2];refine⟨⟨by decide,by decide⟩,⟨by decide,by omega⟩,by decide,⟨by decide,by decide⟩,?_⟩;refine ak (vJ (s.drop 4) [49,54] hd) ?_;cases hc:Lib.contains (s.drop 4) [49,54]
   .simp only[go_sem];refine ay 2 (by rw[hInv];exact⟨by decide,λ_=>h1 (by decide),λ_=>hc,λh=>absurd h (by decide)⟩) (show 3-2<3-1 by decide) (Wk.of ?_ ?_)
    .simp only[go_sem,s0,s1,s2,c0,c1,c2,c3]
     try simp
    .simp only[go_sem]
   .simp only[go_sem,p0,p1,p2];exact⟨by decide,by exact an⟩
  .rw[h1 (by decide)];rw[h2 (by decide)];simp only[go_sem,hl4,e4,c0,c1,c2,c3,aw (show(2:Int)<3 by decide),ld,ls,q0,q1,q2,t0,t1,t2];refine⟨⟨by decide,by decide⟩,⟨by decide,by omega⟩,by decide,⟨by decide,by decide⟩,?_⟩;refine ak (vJ (s.drop 4) [51,50] hd) ?_;cases hc:Lib.contains (s.drop 4) [51,50]
   .simp only[go_sem];refine ay 3 (by rw[hInv];exact⟨by decide,λ_=>h1 (by decide),λ_=>h2 (by decide),λ_=>hc⟩) (show 3-3<3-2 by decide) (Wk.of ?_ ?_)
    .simp only[go_sem,s0,s1,s2,c0,c1,c2,c3]
     try simp
    .simp only[go_sem]
   .simp only[go_sem,p0,p1,p2];exact⟨by decide,by exact an⟩
  .rw[h1 (by decide),h2 (by decide),h3 (by decide)];have e5:((3:Int)).toNat=3:=rfl;simp only[go_sem,c3,aC (show ¬(3:Int)<3 by decide),oK,e5];refine⟨by omega,λh=>?_,λh=>?_⟩
   .rw[aF (by simpa using h)];exact an
   .rw[ax (by simpa using h)];exact an
def oS(w:Int):Int:=if w=1 then 0 else if w=2 then 1 else if w=4 then 2 else if w=8 then 3 else 0
def Jf(op:Int):mD op=0\/mD op=1\/mD op=2\/mD op=4\/mD op=8:=by
 unfold mD wNm
 repeat' split
 all_goals simp
def QM(op:Int):ah pg Bm [.int .i64 op] (.int .i64 (oS (mD op))):=by
 refine au rl ?_;simp only[go_sem,rl];refine ak (HD op) ?_;have hw:=Jf op;generalize mD op=w at hw;simp only[go_sem];refine ao (λq:Nat×Nat=>⟨[(3,.int .i64 (q.2:Nat)),(4,.int .i64 (q.1:Nat)),(2,.int .i64 0)],[]⟩) (λq=>(q.1<=1/\oS w=(q.2:Nat))\/(q.1=2/\oS w=((q.2+1:Nat):Int))\/(q.1=4/\oS w=((q.2+2:Nat):Int))\/(q.1=8/\oS w=((q.2+3:Nat):Int))) (λq=>q.1) (w.toNat,0) ?_ (Wk.of ?_ ?_) ?_
 .rcases hw with rfl|rfl|rfl|rfl|rfl
  .exact .inl ⟨by decide,rfl⟩
  .exact .inl ⟨by decide,rfl⟩
  .exact .inr (.inl ⟨rfl,rfl⟩)
  .exact .inr (.inr (.inl ⟨rfl,rfl⟩))
  .exact .inr (.inr (.inr ⟨rfl,rfl⟩))
 .have e0:((w.toNat:Nat):Int)=w:=by omega
  simp only[go_sem,e0];try simp
 .simp only[go_sem]
 rintro⟨a,n⟩ hq;replace hq:(a<=1/\oS w=(n:Nat))\/(a=2/\oS w=((n+1:Nat):Int))\/(a=4/\oS w=((n+2:Nat):Int))\/(a=8/\oS w=((n+3:Nat):Int)):=hq;have hb:oS w<=3:=by unfold oS;repeat' split<;>omega
 by_cases h1:(a:Int)>1
 .have e8:IntKind.i64.wrap ((n:Int)+1)=((n+1:Nat):Int):=by rw[wi (by omega) (by omega)];omega
  have e9:IntKind.i64.wrap ((a:Int).tdiv 2)=((a/2:Nat):Int):=by
   rw[wi (by rcases hq with h|h|h|h<;>(obtain⟨h,_⟩:=h;try subst h)<;>first|omega|decide) (by rcases hq with h|h|h|h<;>(obtain⟨h,_⟩:=h;try subst h)<;>first|omega|decide)];exact Int.ofNat_tdiv a 2
  simp only[go_sem,aw h1,e8,e9];refine⟨by decide,ay (a/2,n+1) ?_ (show a/2<a by omega) (Wk.of ?_ ?_)⟩
  .show(a/2<=1/\oS w=((n+1:Nat):Int))\/(a/2=2/\oS w=((n+1+1:Nat):Int))\/(a/2=4/\oS w=((n+1+2:Nat):Int))\/(a/2=8/\oS w=((n+1+3:Nat):Int));omega
  .simp only[go_sem]
   try simp
  .simp only[go_sem]
 .have r:oS w=(n:Nat):=by omega
  simp only[go_sem,aC h1];rw[r];exact ac
def ZX:List (Int×Int):=[(37,9),(38,9),(64528,9),(64527,9),(64529,9),(64526,10),(64524,11),(64525,12),(63,13),(64,13),(64523,13),(64522,14),(64520,15),(64521,16)]
def Jb(op:Int):Int:=match ZX.find? (λp=>p.1==op)with
 | some p=>p.2
 | none=>0
def Mx(op:Int):ah pg zM [.int .i64 op] (.int .i64 (Jb op)):=by
 refine au bu ?_;by_cases h0:op=37
 .subst h0;simp only[go_sem,bu];exact an
 by_cases h1:op=38
 .subst h1;simp only[go_sem,bu];exact an
 by_cases h2:op=64528
 .subst h2;simp only[go_sem,bu];exact an
 by_cases h3:op=64527
 .subst h3;simp only[go_sem,bu];exact an
 by_cases h4:op=64529
 .subst h4;simp only[go_sem,bu];exact an
 by_cases h5:op=64526
 .subst h5;simp only[go_sem,bu];exact an
 by_cases h6:op=64524
 .subst h6;simp only[go_sem,bu];exact an
 by_cases h7:op=64525
 .subst h7;simp only[go_sem,bu];exact an
 by_cases h8:op=63
 .subst h8;simp only[go_sem,bu];exact an
 by_cases h9:op=64
 .subst h9;simp only[go_sem,bu];exact an
 by_cases h10:op=64523
 .subst h10;simp only[go_sem,bu];exact an
 by_cases h11:op=64522
 .subst h11;simp only[go_sem,bu];exact an
 by_cases h12:op=64520
 .subst h12;simp only[go_sem,bu];exact an
 by_cases h13:op=64521
 .subst h13;simp only[go_sem,bu];exact an
 have r:Jb op=0:=by
  simp only[Jb,ZX,List.find?_cons,List.find?_nil,ab (λe:(37:Int)=op=>h0 e.symm),ab (λe:(38:Int)=op=>h1 e.symm),ab (λe:(64528:Int)=op=>h2 e.symm),ab (λe:(64527:Int)=op=>h3 e.symm),ab (λe:(64529:Int)=op=>h4 e.symm),ab (λe:(64526:Int)=op=>h5 e.symm),ab (λe:(64524:Int)=op=>h6 e.symm),ab (λe:(64525:Int)=op=>h7 e.symm),ab (λe:(63:Int)=op=>h8 e.symm),ab (λe:(64:Int)=op=>h9 e.symm),ab (λe:(64523:Int)=op=>h10 e.symm),ab (λe:(64522:Int)=op=>h11 e.symm),ab (λe:(64520:Int)=op=>h12 e.symm),ab (λe:(64521:Int)=op=>h13 e.symm)]
 rw[r];simp only[go_sem,bu,ab h0,ab h1,ab h2,ab h3,ab h4,ab h5,ab h6,ab h7,ab h8,ab h9,ab h10,ab h11,ab h12,ab h13];exact an
def Yc:List (Int×Int):=[(2,1),(3,1),(4,1),(12,2),(13,2),(14,3),(16,4),(210,4),(17,5),(28,6),(32,7),(33,7),(34,7),(35,8),(36,8),(65,18),(66,19),(208,20)]
def gF(op:Int):Int:=match Yc.find? (λp=>p.1==op)with
 | some p=>p.2
 | none=>if mD op>0 then 17 else Jb op
def QY(op:Int):ah pg GU [.int .i64 op] (.int .i64 (gF op)):=by
 refine au bI ?_;by_cases h0:op=2
 .subst h0;simp only[go_sem,bI];exact an
 by_cases h1:op=3
 .subst h1;simp only[go_sem,bI];exact an
 by_cases h2:op=4
 .subst h2;simp only[go_sem,bI];exact an
 by_cases h3:op=12
 .subst h3;simp only[go_sem,bI];exact an
 by_cases h4:op=13
 .subst h4;simp only[go_sem,bI];exact an
 by_cases h5:op=14
 .subst h5;simp only[go_sem,bI];exact an
 by_cases h6:op=16
 .subst h6;simp only[go_sem,bI];exact an
 by_cases h7:op=210
 .subst h7;simp only[go_sem,bI];exact an
 by_cases h8:op=17
 .subst h8;simp only[go_sem,bI];exact an
 by_cases h9:op=28
 .subst h9;simp only[go_sem,bI];exact an
 by_cases h10:op=32
 .subst h10;simp only[go_sem,bI];exact an
 by_cases h11:op=33
 .subst h11;simp only[go_sem,bI];exact an
 by_cases h12:op=34
 .subst h12;simp only[go_sem,bI];exact an
 by_cases h13:op=35
 .subst h13;simp only[go_sem,bI];exact an
 by_cases h14:op=36
 .subst h14;simp only[go_sem,bI];exact an
 by_cases h15:op=65
 .subst h15;simp only[go_sem,bI];exact an
 by_cases h16:op=66
 .subst h16;simp only[go_sem,bI];exact an
 by_cases h17:op=208
 .subst h17;simp only[go_sem,bI];exact an
 have r:gF op=if mD op>0 then 17 else Jb op:=by
  simp only[gF,Yc,List.find?_cons,List.find?_nil,ab (λe:(2:Int)=op=>h0 e.symm),ab (λe:(3:Int)=op=>h1 e.symm),ab (λe:(4:Int)=op=>h2 e.symm),ab (λe:(12:Int)=op=>h3 e.symm),ab (λe:(13:Int)=op=>h4 e.symm),ab (λe:(14:Int)=op=>h5 e.symm),ab (λe:(16:Int)=op=>h6 e.symm),ab (λe:(210:Int)=op=>h7 e.symm),ab (λe:(17:Int)=op=>h8 e.symm),ab (λe:(28:Int)=op=>h9 e.symm),ab (λe:(32:Int)=op=>h10 e.symm),ab (λe:(33:Int)=op=>h11 e.symm),ab (λe:(34:Int)=op=>h12 e.symm),ab (λe:(35:Int)=op=>h13 e.symm),ab (λe:(36:Int)=op=>h14 e.symm),ab (λe:(65:Int)=op=>h15 e.symm),ab (λe:(66:Int)=op=>h16 e.symm),ab (λe:(208:Int)=op=>h17 e.symm)]
 rw[r];simp only[go_sem,bI,ab h0,ab h1,ab h2,ab h3,ab h4,ab h5,ab h6,ab h7,ab h8,ab h9,ab h10,ab h11,ab h12,ab h13,ab h14,ab h15,ab h16,ab h17];refine ak (HD op) ?_;by_cases hw:mD op>0
 .simp only[go_sem,aw hw,aF hw];exact an
 .simp only[go_sem,aC hw,ax hw];refine aa (Mx op) ?_;exact an
def NZ(op:Int):Int:=if free op=true then 0 else if bB op=[]then 0 else 1
def j4(a b:List Int):ah pg GV [.sl 1 (a.map bg),.sl 1 (b.map bg)] (.agg [.sl 1 (a.map bg),.sl 1 (b.map bg)]):=by
 refine au y_ ?_;simp only[go_sem,y_];exact ac
def QO(s:List UInt8)(hs:s.length<1000000):ah pg zK [.str s] (.int .i64 (if Ad s [105,54,52]=true then 2 else 1)):=by
 refine au qe ?_;simp only[go_sem,qe];refine ak (Fn s [105,54,52] ⟨hs,by decide⟩) ?_;cases Ad s [105,54,52]
 .simp only[go_sem];exact an
 .simp only[go_sem];exact an
def Z6:List (Int×Bool×Bool×Bool):=[(2,true,false,false),(3,true,false,false),(4,true,false,false),(7,true,false,false),(8,true,false,false),(9,true,false,false),(12,true,false,false),(16,true,false,false),(20,true,false,false),(5,true,true,false),(10,true,true,false),(11,true,true,false),(14,true,true,false),(15,true,true,false),(13,false,true,false),(17,true,true,true),(18,false,false,true),(19,false,false,true)]
def HL(i:Int):Bool×Bool×Bool:=match Z6.find? (λp=>p.1==i)with
 | some p=>p.2
 | none=>(false,false,false)
def ZN(i:Int):ah pg Cs [.int .i64 i] (.tup [.bool (HL i).1,.bool (HL i).2.1,.bool (HL i).2.2]):=by
 refine au bh ?_;by_cases h0:i=2
 .subst h0;simp only[go_sem,bh];exact an
 by_cases h1:i=3
 .subst h1;simp only[go_sem,bh];exact an
 by_cases h2:i=4
 .subst h2;simp only[go_sem,bh];exact an
 by_cases h3:i=7
 .subst h3;simp only[go_sem,bh];exact an
 by_cases h4:i=8
 .subst h4;simp only[go_sem,bh];exact an
 by_cases h5:i=9
 .subst h5;simp only[go_sem,bh];exact an
 by_cases h6:i=12
 .subst h6;simp only[go_sem,bh];exact an
 by_cases h7:i=16
 .subst h7;simp only[go_sem,bh];exact an
 by_cases h8:i=20
 .subst h8;simp only[go_sem,bh];exact an
 by_cases h9:i=5
 .subst h9;simp only[go_sem,bh];exact an
 by_cases h10:i=10
 .subst h10;simp only[go_sem,bh];exact an
 by_cases h11:i=11
 .subst h11;simp only[go_sem,bh];exact an
 by_cases h12:i=14
 .subst h12;simp only[go_sem,bh];exact an
 by_cases h13:i=15
 .subst h13;simp only[go_sem,bh];exact an
 by_cases h14:i=13
 .subst h14;simp only[go_sem,bh];exact an
 by_cases h15:i=17
 .subst h15;simp only[go_sem,bh];exact an
 by_cases h16:i=18
 .subst h16;simp only[go_sem,bh];exact an
 by_cases h17:i=19
 .subst h17;simp only[go_sem,bh];exact an
 have r:HL i=(false,false,false):=by
  simp only[HL,Z6,List.find?_cons,List.find?_nil,ab (λe:(2:Int)=i=>h0 e.symm),ab (λe:(3:Int)=i=>h1 e.symm),ab (λe:(4:Int)=i=>h2 e.symm),ab (λe:(7:Int)=i=>h3 e.symm),ab (λe:(8:Int)=i=>h4 e.symm),ab (λe:(9:Int)=i=>h5 e.symm),ab (λe:(12:Int)=i=>h6 e.symm),ab (λe:(16:Int)=i=>h7 e.symm),ab (λe:(20:Int)=i=>h8 e.symm),ab (λe:(5:Int)=i=>h9 e.symm),ab (λe:(10:Int)=i=>h10 e.symm),ab (λe:(11:Int)=i=>h11 e.symm),ab (λe:(14:Int)=i=>h12 e.symm),ab (λe:(15:Int)=i=>h13 e.symm),ab (λe:(13:Int)=i=>h14 e.symm),ab (λe:(17:Int)=i=>h15 e.symm),ab (λe:(18:Int)=i=>h16 e.symm),ab (λe:(19:Int)=i=>h17 e.symm)]
 rw[r];simp only[go_sem,bh,ab h0,ab h1,ab h2,ab h3,ab h4,ab h5,ab h6,ab h7,ab h8,ab h9,ab h10,ab h11,ab h12,ab h13,ab h14,ab h15,ab h16,ab h17];exact an
def Vc(n:Int):ah pg sg [.int .i64 n] (.bool (decide (n>=0)&&decide (n<4294967296))):=by
 refine au mQ ?_;by_cases h:n>=0
 .simp only[go_sem,mQ,aw h,gp];exact ac
 .simp only[go_sem,mQ,aC h,gX];exact ac
section
def wY(n:Int):Bool:=decide (n>=0)&&decide (n<4294967296)
def WN(n:Int):Bool:=decide (n>=1)&&decide (n<=4)
def blB(k v z:Int):Bool:=if k=0 then(v==0)&&(z==0)else if k=1 then WN v&&(z==0)else if k=2 then(v==0)&&wY z else false
def Vd(n:Int):ah pg sg [.int .i64 n] (.bool (wY n)):=Vc n
attribute[local go_sem] eE bP
def acC(n:Int):ah pg EH [.int .i64 n] (.bool (WN n)):=by
 refine au pA ?_;unfold WN;by_cases h:n>=1
 .simp only[go_sem,pA,aw h,gp];exact ac
 .simp only[go_sem,pA,aC h,gX];exact ac
def nt_{a b:Int}(h:(a != b)=true):(a==b)=false:=by simpa using h
def nf_{a b:Int}(h:(a != b)=false):(a==b)=true:=by simpa using h
def nb_{b:Bool}(h:(!b)=true):b=false:=by cases b<;>first|rfl|cases h
def nc_{b:Bool}(h:(!b)=false):b=true:=by cases b<;>first|rfl|cases h
def QP(k v z:Int):ah pg Bp [.agg [.int .i64 k,.int .i64 v,.int .i64 z]] (.bool (blB k v z)):=by
 refine au gw ?_;unfold blB;by_cases h0:k=0
 .subst h0;rw[aF rfl];simp only[go_sem,gw];exact an
 by_cases h1:k=1
 .subst h1;rw[ax h0,aF rfl];simp only[go_sem,gw];refine ak (acC v) ?_;cases WN v
  .simp only[go_sem];exact an
  .simp only[go_sem];exact an
 by_cases h2:k=2
 .subst h2;rw[ax h0,ax h1,aF rfl];simp only[go_sem,gw];refine⟨λh=>?_,λh=>?_⟩
  .refine ak (Vd z) ?_;rw[h];simp only[go_sem];exact an
  .rw[h];exact an
 rw[ax h0,ax h1,ax h2];simp only[go_sem,gw,ab h0,ab h1,ab h2];exact an
def R_{f:Int->Bool}{l:List Int}(h:∀k,k<l.length->f (ap l k)=true):l.all f=true:=by
 rw[f_];intro x hx;obtain⟨k,hk,rfl⟩:=List.mem_iff_getElem.1 hx;have:=h k hk;rwa[aV hk]at this
def R9{f:Int->Bool}{l:List Int}{k:Nat}(hk:k<l.length)(h:f (ap l k)=false):l.all f=false:=by
 rw[List.all_eq_false];exact⟨ap l k,by rw[aV hk];exact gO hk,by rw[h];decide⟩
end
section
def wV(i:Int)(x:a_):Bool :=
 if i=1 then blB x.k x.v x.x else if i=6 then((x.ty.length:Int)==1)&&WN (ap x.ty 0)else if i=17 then decide (x.a<=63)else if i=20 then(x.a==3)||(x.a==4)else x.lb.all wY
def plP(i:Int)(kn:Bool)(u:Bool×Bool×Bool)(x:a_):Bool :=
 kn&&((u.1||(x.a==0))&&((u.2.1||(x.b==0))&&((u.2.2||(x.n==0))&&(wY x.a&&(wY x.b &&
 (((i==19) || !decide (x.n>=4294967296))&&(((i==1)||((x.k==0)&&((x.v==0)&&(x.x==0))))&&(((i==6) || !decide ((x.ty.length:Int)>0))&&(((i==3) || !decide ((x.lb.length:Int)>0))&&wV i x)))))))))
def CL:List (Bool×Bool×Bool×Bool×Bool×Bool×Bool×Bool×Bool) :=
 [(false,false,false,true,false,false,false,false,false),
  (true,false,false,false,true,false,false,false,false),
  (false,false,false,false,false,true,false,false,false),
  (true,true,true,false,false,false,true,false,false),
  (false,false,true,false,false,false,false,true,false),
  (true,false,false,false,false,false,false,false,true),
  (true,false,false,false,false,false,false,false,false),
  (true,true,false,false,false,false,false,false,false),
  (false,true,false,false,false,false,false,false,false),
  (false,false,true,false,false,false,false,false,false),
  (false,false,false,false,false,false,false,false,false)]
def cls(i:Int)(hi:0<=i/\i<=20):((HL i).1,(HL i).2.1,(HL i).2.2,(i==1),(i==3),(i==6),(i==17),(i==19),(i==20))∈CL:=by
 obtain⟨h1,h2⟩:=hi;obtain⟨n,rfl⟩:=Int.eq_ofNat_of_zero_le h1;have hn:n<=20:=by omega
 clear h1 h2;have:∀n:Fin 21,((HL (n.val:Nat)).1,(HL (n.val:Nat)).2.1,(HL (n.val:Nat)).2.2,(((n.val:Nat):Int)==1),(((n.val:Nat):Int)==3),(((n.val:Nat):Int)==6),(((n.val:Nat):Int)==17),(((n.val:Nat):Int)==19),(((n.val:Nat):Int)==20))∈CL:=by decide +kernel
 exact this ⟨n,by omega⟩
attribute[local go_sem] eE bP dt
def QZ(x:a_)(i:Int)(hi:0<=i/\i<=20)(him:gF x.op=i)(hl:x.lb.length<=9223372036854775807):ah pg cL [kD x] (.bool (plP i (!(bB x.op==[])) (HL i) x)):=by
 refine au rp ?_;have a1:=QY x.op;rw[him]at a1;have a2:=ZN i;have a3:=Hy x.op;have hc:=cls i hi;unfold plP;generalize (HL i).1=ua at hc a2;generalize (HL i).2.1=ub at hc a2;generalize (HL i).2.2=un at hc a2;generalize h1:(i==1)=k1 at hc;generalize h3:(i==3)=k3 at hc;generalize h6:(i==6)=k6 at hc;generalize h17:(i==17)=k17 at hc;generalize h19:(i==19)=k19 at hc;generalize h20:(i==20)=k20 at hc;simp only[CL,bp,bZ,or_false,sK]at hc;rcases hc with⟨rfl,rfl,rfl,rfl,rfl,rfl,rfl,rfl,rfl⟩|⟨rfl,rfl,rfl,rfl,rfl,rfl,rfl,rfl,rfl⟩|⟨rfl,rfl,rfl,rfl,rfl,rfl,rfl,rfl,rfl⟩|⟨rfl,rfl,rfl,rfl,rfl,rfl,rfl,rfl,rfl⟩|⟨rfl,rfl,rfl,rfl,rfl,rfl,rfl,rfl,rfl⟩|⟨rfl,rfl,rfl,rfl,rfl,rfl,rfl,rfl,rfl⟩|⟨rfl,rfl,rfl,rfl,rfl,rfl,rfl,rfl,rfl⟩|⟨rfl,rfl,rfl,rfl,rfl,rfl,rfl,rfl,rfl⟩|⟨rfl,rfl,rfl,rfl,rfl,rfl,rfl,rfl,rfl⟩|⟨rfl,rfl,rfl,rfl,rfl,rfl,rfl,rfl,rfl⟩|⟨rfl,rfl,rfl,rfl,rfl,rfl,rfl,rfl,rfl⟩
 all_goals
  have d1:(i != 1) = !(i==1):=rfl;have d3:(i != 3) = !(i==3):=rfl;have d6:(i != 6) = !(i==6):=rfl;have d19:(i != 19) = !(i==19):=rfl;rw[h1]at d1;rw[h3]at d3;rw[h6]at d6;rw[h19]at d19;simp only[h1,h3,h6,h19,B5,x7,gp];simp only[go_sem,rp];refine aa (a1) ?_;refine aa (a2) ?_;refine ak (a3) ?_;cases hk:!(bB x.op==[])
  .simp only[go_sem];exact an
  rw[gp];simp only[go_sem]
  iterate 3 (first|(refine⟨λh=>?_,λh=>?_⟩
                    .rw[nt_ h,gX];exact an
                    rw[nf_ h,gp])|skip)
  refine ak (Vd x.a) ?_;cases hA:wY x.a
  .rw[gX];simp only[go_sem];exact an
  rw[gp];simp only[go_sem];refine ak (Vd x.b) ?_;cases hB:wY x.b
  .rw[gX];simp only[go_sem];exact an
  rw[gp];simp only[go_sem,d1,d3,d6,d19,h1,h6,h17,h20,di,dH]
  iterate 4 (first|(refine⟨λh=>?_,λh=>?_⟩
                    ·(first|rw[aw h,di,gX]|rw[nb_ h,gX])
                     exact an
                    (first|rw[aC h,dH,gp]|rw[nc_ h,gp]))|skip)
 .have r:wV i x=blB x.k x.v x.x:=by rw[wV,aF (eq_of_beq h1)]
  rw[r];refine aa (QP x.k x.v x.x) ?_;exact an
 rotate_left
 .have r:wV i x=(((x.ty.length:Int)==1)&&WN (ap x.ty 0)):=by rw[wV,ax (ne_of_beq_false h1),aF (eq_of_beq h6)]
  rw[r];refine⟨λh=>⟨by decide,?_,?_⟩,λh=>?_⟩
  .have:=eq_of_beq h;omega
  .rw[h,gp];refine aa (acC (ap x.ty 0)) ?_;exact an
  .rw[h,gX];exact an
 .have r:wV i x=decide (x.a<=63):=by rw[wV,ax (ne_of_beq_false h1),ax (ne_of_beq_false h6),aF (eq_of_beq h17)]
  rw[r];exact an
 rotate_left
 .have r:wV i x=((x.a==3)||(x.a==4)):=by rw[wV,ax (ne_of_beq_false h1),ax (ne_of_beq_false h6),ax (ne_of_beq_false h17),aF (eq_of_beq h20)]
  rw[r];refine⟨λh=>?_,λh=>?_⟩
  .rw[h,B5];exact an
  .rw[h,x7];exact an
 all_goals
  have r:wV i x=x.lb.all wY:=by rw[wV,ax (ne_of_beq_false h1),ax (ne_of_beq_false h6),ax (ne_of_beq_false h17),ax (ne_of_beq_false h20)]
  rw[r];refine ao (λi:Nat=>⟨[(133,.sl 1 (x.lb.map bg)),(134,.int .i64 x.lb.length),(135,.int .i64 i)],[]⟩) (λi=>i<=x.lb.length/\∀k,k<i->wY (ap x.lb k)=true) (λi=>x.lb.length-i) 0 ⟨cR _,λk hk=>absurd hk (Nat.not_lt_zero k)⟩ (Wk.of ?_ ?_) ?_
  .simp only[go_sem];try simp
  .trivial
  rintro j ⟨hj,hk⟩;by_cases q1:(j:Int)<(x.lb.length:Int)
  .have e8:=wi (n:=(j:Int)+1) (by omega) (by omega);simp only[go_sem,aw q1];refine⟨by omega,q1,?_⟩;refine ak (Vd (ap x.lb j)) ?_;cases q2:wY (ap x.lb j)
   .rw[R9 (by omega) q2];simp only[go_sem];exact an
   .simp only[go_sem];refine ay (j+1) ⟨by omega,λk hk2=>?_⟩ (show x.lb.length-(j+1)<x.lb.length-j by omega) (Wk.of ?_ ?_)
    .rcases eJ k j with h4|h4
     .exact hk k h4
     .obtain rfl:k=j:=by omega
      exact q2
    .simp only[go_sem,e8]
     try simp
    .simp only[go_sem]
  .rw[R_ (λk hk2=>hk k (by omega))];simp only[go_sem,aC q1];exact an
end
section
def acm(i:Int)(x:a_):Bool :=
 if i=0 then(x.a==0)&&((x.b==0)&&(x.n==0))else
 if i=1 then(x.a==0)&&((x.b==0)&&((x.n==0)&&blB x.k x.v x.x))else
 if i=3 then wY x.a&&((x.b==0)&&((x.n==0)&&x.lb.all wY))else
 if i=6 then(x.a==0)&&((x.b==0)&&((x.n==0)&&(((x.ty.length:Int)==1)&&WN (ap x.ty 0))))else
 if i=13 then(x.a==0)&&(wY x.b&&(x.n==0))else
 if i=17 then decide (x.a>=0)&&(decide (x.a<=63)&&(wY x.b&&decide (x.n<4294967296)))else
 if i=18 then(x.a==0)&&((x.b==0)&&decide (x.n<4294967296))else
 if i=19 then(x.a==0)&&(x.b==0)else
 if i=20 then((x.a==3)||(x.a==4))&&((x.b==0)&&(x.n==0))else
 if i=5\/i=10\/i=11\/i=14\/i=15 then wY x.a&&(wY x.b&&(x.n==0))else
 wY x.a&&((x.b==0)&&(x.n==0))
def plR(i:Int)(kn:Bool)(x:a_):Bool :=
 kn&&(((i==1)||((x.k==0)&&((x.v==0)&&(x.x==0))))&&(((i==3) || !decide ((x.lb.length:Int)>0))&&(((i==6) || !decide ((x.ty.length:Int)>0))&&acm i x)))
attribute[local go_sem] eE bP dt
end
def BL(op:Int):bB op=rNm op:=by
 have h:∀l:List Oc,(match (l.map λo=>(o.op,o.nm)).find? (λx=>x.1==op)with|some o=>o.2|none=>[])=((l.find? (λo=>o.op==op)).getD default).nm:=by
  intro l
  induction l with
  | nil=>rfl
  | cons a l ih =>
   simp only[bY,List.find?_cons];cases ha:a.op==op
   .exact ih
   .rfl
 exact h OC
def Hu{op:Int}(h:xC op=none):rNm op=[]/\L_ op=0/\Wp op=false:=by
 simp only[rNm,L_,Wp,h];exact⟨rfl,rfl,rfl⟩
def QE{p:Int->Bool}(h:OC.all (λo=>p o.op)=true){op:Int}(hr:xC op≠none):p op=true:=by
 cases hf:xC op with
 | none=>exact absurd hf hr
 | some o =>
  have h1:=f_.1 h o (List.mem_of_find?_eq_some hf);have h2:=List.find?_some hf;simp only[beq_iff_eq]at h2;rw[h2]at h1;exact h1
def WA(op:Int):(!(bB op==[]))=Wp op/\bB op=rNm op/\gF op=L_ op/\mD op=ME op/\oS (mD op)=aaF (ME op)/\NZ op=N0 op:=by
 by_cases h:xC op=none
 .obtain⟨h1,h2,h3⟩:=Hu h;have hn:bB op=[]:=by rw[BL,h1]
  have hw:mD op=0:=by
   have:VO op=false:=by simp[VO,hn]
   rw[mD,this];rfl
  have hw2:ME op=0:=by rw[ME,h2];rfl
  have hi:gF op=0:=by
   have ht:∀(l:List (Int×Int)),l.all (λp=>(xC p.1).isSome)=true->l.find? (λp=>p.1==op)=none:=by
    intro l hl;rw[List.find?_eq_none];intro p hp hq;have:=f_.1 hl p hp;simp only[beq_iff_eq]at hq;rw[hq,h]at this;cases this
   have hs:Jb op=0:=by rw[Jb,ht ZX (by decide +kernel)]
   rw[gF,ht Yc (by decide +kernel),hw,hs];rfl
  refine⟨by rw[hn,h3];rfl,BL op,by rw[hi,h2],by rw[hw,hw2],by rw[hw,hw2];rfl,?_⟩;rw[NZ,N0,hn,h3];rfl
 .have:=QE (p:=λop=>(!(bB op==[]))==Wp op&&gF op==L_ op&&mD op==ME op&&oS (mD op)==aaF (ME op)&&NZ op==N0 op) (by decide +kernel) h;simp only[fQ,beq_iff_eq]at this;obtain⟨⟨⟨⟨h1,h2⟩,h3⟩,h4⟩,h5⟩:=this;exact⟨h1,BL op,h2,h3,h4,h5⟩
def Wo(i:Int)(hi:0<=i/\i<=20)(kn:Bool)(x:a_)(hn:0<=x.n):plP i kn (HL i) x=plR i kn x:=by
 obtain⟨op,a,b,n,k,v,z,ty,lb⟩:=x;replace hn:0<=n:=hn;have hal:¬((lb.length:Int)>0)->lb.all wY=true:=λh=>by
  cases lb with
  | nil=>rfl
  | cons y l=>simp at h
 unfold plP plR wV acm;simp only;generalize lb.all wY=al at hal;generalize (lb.length:Int)=ll at hal;generalize WN (ap ty 0)=vv;generalize (ty.length:Int)=tl;generalize blB k v z=bb;generalize ((k==0)&&((v==0)&&(z==0)))=kk;have ea:a=0->wY a=true:=λh=>by subst h;decide
 have eb:b=0->wY b=true:=λh=>by subst h;decide
 have ec:a=3\/a=4->wY a=true:=λh=>by rcases h with rfl|rfl<;>decide
 have ed:wY a=true/\a<=63↔a>=0/\a<=63:=by
  simp only[wY,fQ,tT];omega
 generalize wY a=xa at ea ec ed;generalize wY b=xb at eb;rcases(show i=0\/i=1\/i=2\/i=3\/i=4\/i=5\/i=6\/i=7\/i=8\/i=9\/i=10\/i=11\/i=12\/i=13\/i=14\/i=15\/i=16\/i=17\/i=18\/i=19\/i=20 by omega)with rfl|rfl|rfl|rfl|rfl|rfl|rfl|rfl|rfl|rfl|rfl|rfl|rfl|rfl|rfl|rfl|rfl|rfl|rfl|rfl|rfl
 all_goals
  simp only[HL,Z6,List.find?_cons,List.find?_nil,Int.reduceBEq,Int.reduceEq,dP,fS,B5,x7,gp,gX,false_or,or_false,or_true,true_or,or_self];rw[DR];simp only[fQ,B4,beq_iff_eq,tT,yO,decide_eq_false_iff_not]
  grind
def Em(op:Int):0<=L_ op/\L_ op<=20:=by
 by_cases h:xC op=none
 .rw[(Hu h).2.1];decide
 .have:=QE (p:=λop=>decide (0<=L_ op)&&decide (L_ op<=20)) (by decide +kernel) h;simpa using this
def B9(x:a_):Bool:=plR (L_ x.op) (Wp x.op) x
def Ww(x:a_)(h:I4 x):ah pg cL [kD x] (.bool (B9 x)):=by
 obtain⟨h1,h2,h3⟩:=h;obtain⟨t1,_,t3,_⟩:=WA x.op;have c:=QZ x (L_ x.op) (Em x.op) t3 (by omega);rw[t1,Wo (L_ x.op) (Em x.op) (Wp x.op) x h3]at c;exact c
