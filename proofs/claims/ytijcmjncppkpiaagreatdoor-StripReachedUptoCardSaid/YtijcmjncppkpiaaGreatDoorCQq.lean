import Derived.Test.YtijcmjncppkpiaaGreatDoorCQp
import Derived.Shelf.RegionOpen
set_option linter.all false
set_option maxRecDepth 100000
set_option maxHeartbeats 40000000
namespace Go.Proofs.YtijcmjncppkpiaaGreatDoor
open Go Go.Mw Go.RowKit Go.Shelf
def adj(S:Sk)(l:List Int)(w:World)(a:Act)(W:World):Prop :=
 a.defers=[]/\a.tmps.size=54/\gR No w W/\(ba.T pg).H W/\∃(bl:Nat->Option Nat)(M:Nat->Prop)(b2 b4 b5 b6 b7:Nat),
  (∀b,M b->w.heap.size<=b)/\(∀b,M b->b<W.heap.size)/\IRel M W (a.tmps.getD 1 undef) (.sl 1 (l.map bg)) /\
  C8 bl M a W 2 316 (FK S) b2/\C8 bl M a W 4 3 (.int .i64 0) b4/\C8 bl M a W 5 97 (.int .i64 0) b5/\C8 bl M a W 6 3 (.int .i64 S.all.length) b6 /\
  C8 bl M a W 7 451 (.ip [.int .i64 ((bW S.u).length:Int),.bool S.t.lo]) b7/\b6≠b2/\b6≠b4/\b6≠b5/\b6≠b7/\b4≠b5/\b4≠b2/\b4≠b7/\b5≠b2/\b5≠b7
def Pn(S:Sk)(l:List Int)(hb:S.u.length<1000000)(w:World)(bl:Nat->Option Nat)(M:Nat->Prop)(cargs:List Value)(hH:(ba.T pg).H w)(ha:aR (aY bl M w) cargs [FK S,.sl 1 (l.map bg)]) :
  lc0.wp pg (λe a W=>e = .normal/\lc1.wp pg (λe a W=>e = .normal/\adj S l w a W) a W) ⟨cargs.toArray++Array.replicate (54-cargs.toArray.size) undef,[]⟩ w:=by
 have hal:cargs.length=2:=ha.length;have no:∀b,¬bz (λ_=>none) No (ae ([]:List (Nat×aj))) b:=λb h=>h.elim (λh=>h) λ⟨id,o,h1,h2⟩=>by cases h2
 let c:qL:=⟨w,λ_=>none,No,No,54,ba.T pg,hH,λb hb h=>h,λb hb h=>h,by decide⟩
 haveI:CT c pg:=⟨rfl⟩
 have hs:aH c (λ_=>none) (get (fW 0 [FK S,.sl 1 (l.map bg)])) (ae ([]:List (Nat×aj))) ⟨cargs.toArray++Array.replicate (54-cargs.toArray.size) undef,[]⟩ w:=by
  refine⟨rfl,by simp[c];omega,λk=>?_,⟨λid o h=>(by cases h),λid id' o o' b h=>(by cases h)⟩,gR.refl _ _,λid o q h1 h2=>(by cases h1),λ_ _ _=>rfl,λ_ h=>h.elim⟩;rw[AZ];simp only[cR,dP,Nat.sub_zero];cases hk:([FK S,.sl 1 (l.map bg)]:List AV)[k]? with
  | none=>trivial
  | some x =>
   obtain⟨v,hv,hr⟩:=ha.get hk;have hlt:=(gW.1 hv).1;have e:(cargs.toArray++Array.replicate (54-cargs.toArray.size) undef).getD k undef=v:=by
    rw[oI,Array.getElem?_append_left (by simpa using hlt)];simp[hv]
   rw[zw (by omega),e];have hx:∀id,mV id x=false:=by
    intro id
    match k,hk with
    | 0,hk=>cases hk;rfl
    | 1,hk=>cases hk;rfl
   exact hr.tr ⟨λb _ _=>⟨no b,rfl⟩,λb c t fr h=>⟨c,fr,h,rfl⟩⟩ (λid hi=>by rw[hx]at hi;cases hi)
 refine Code.wp_mono (λe a w1 hq=>?_) (vc (c:=c) nR rfl _ Pi abK Pi rfl ⟨fW 0 [FK S,.sl 1 (l.map bg)],[]⟩ _ _ w (Po S l hb) ⟨_,hs⟩);have hq:e = .normal/\∃s,lz pg LJ s (V_ S l)/\cG c s a w1:=by
  cases e with
  | normal=>obtain⟨s,⟨_,h⟩,h2⟩:=hq;exact⟨rfl,s,h,h2⟩
  | ret=>obtain⟨s,h,_⟩:=hq;cases h.1
  | exit id=>obtain⟨s,h,_⟩:=hq;cases h.1
  | _=>exact hq.elim
 obtain⟨rfl,s,hi,hs1⟩:=hq;refine⟨rfl,?_⟩;refine Code.wp_mono (λe a' w' hq=>?_) (vc (c:=c) nR rfl _ LJ abL LJ rfl s _ _ w1 hi hs1);cases e with
 | normal =>
  obtain⟨s,⟨_,h1,⟨h2,o2⟩,⟨h4,o4⟩,⟨h5,o5⟩,⟨h6,o6⟩,h7,o7⟩,bl',hs'⟩:=hq;refine⟨rfl,hs'.defers,hs'.size,hs'.step,(ba.T pg).stay _ _ hH λq hq=>hs'.step.keep q ((ba.T pg).low _ hH q hq) (λh=>h),?_⟩;obtain⟨b2,e2,f2⟩:=AE hs' h2 o2;obtain⟨b4,e4,f4⟩:=AE hs' h4 o4;obtain⟨b5,e5,f5⟩:=AE hs' h5 o5;obtain⟨b6,e6,f6⟩:=AE hs' h6 o6;obtain⟨b7,e7,f7⟩:=AE hs' h7 o7;have ne:∀{i j:Nat}{o o':aj}{p q:Nat},i≠j->ae s.heap i=some o->ae s.heap j=some o'->bl' i=some p->bl' j=some q->p≠q:=λhij ho ho' hp hq e=>hij (hs'.heap.2 _ _ _ _ _ ho ho' hp (e▸hq));have hr1:=hs'.env 1;rw[h1,zw (by omega)]at hr1;refine⟨bl',bz bl' No (ae s.heap),b2,b4,b5,b6,b7,?_,?_,hr1,f2,f4,f5,f6,f7,ne (by decide) o6 o2 e6 e2,ne (by decide) o6 o4 e6 e4,ne (by decide) o6 o5 e6 e5,ne (by decide) o6 o7 e6 e7,ne (by decide) o4 o5 e4 e5,ne (by decide) o4 o2 e4 e2,ne (by decide) o4 o7 e4 e7,ne (by decide) o5 o2 e5 e2,ne (by decide) o5 o7 e5 e7⟩;rintro b (hb|⟨id,o,h1,h2⟩)
  .exact hb.elim
  .exact(hs'.own _ _ _ h1 h2).elim (λh=>h) (λh=>h.elim)
  rintro b (hb|⟨id,o,h1,h2⟩)
  .exact hb.elim
  .rcases hs'.heap.1 id o h1 with⟨_,_,h3⟩|⟨b',hb',hO⟩
   .rw[h2]at h3;cases h3
   .rw[h2]at hb';cases hb';exact hO.lt
 | ret=>obtain⟨s,h,_⟩:=hq;cases h.1
 | exit id=>obtain⟨s,h,_⟩:=hq;cases h.1
 | _=>exact hq.elim
def Se(x:Nat->Value):((List.range 54).map x).toArray = #[x 0,x 1,x 2,x 3,x 4,x 5,x 6,x 7,x 8,x 9,x 10,x 11,x 12,x 13,x 14,x 15,x 16,x 17,x 18,x 19,x 20,x 21,x 22,x 23,x 24,x 25,x 26,x 27,x 28,x 29,x 30,x 31,x 32,x 33,x 34,x 35,x 36,x 37,x 38,x 39,x 40,x 41,x 42,x 43,x 44,x 45,x 46,x 47,x 48,x 49,x 50,x 51,x 52,x 53]:=by rfl
def Sf(a:Array Value)(n:Nat)(h:a.size=n):a=((List.range n).map λk=>a.getD k undef).toArray:=by
 subst h;apply Array.ext
 .simp
 .intro i h1 h2;have e:a.getD i undef=a[i]:=by rw[oI,lF h1];rfl
  have e2:(List.map (λk=>a.getD k undef) (List.range a.size)).toArray[i]=(List.map (λk=>a.getD k undef) (List.range a.size))[i]'(by simpa using h1):=rfl;rw[e2,List.getElem_map,List.getElem_range,e]
def aaG(a:Array Value)(h:a.size=54):∃x:Nat->Value,(∀k,x k=a.getD k undef)/\a = #[x 0,x 1,x 2,x 3,x 4,x 5,x 6,x 7,x 8,x 9,x 10,x 11,x 12,x 13,x 14,x 15,x 16,x 17,x 18,x 19,x 20,x 21,x 22,x 23,x 24,x 25,x 26,x 27,x 28,x 29,x 30,x 31,x 32,x 33,x 34,x 35,x 36,x 37,x 38,x 39,x 40,x 41,x 42,x 43,x 44,x 45,x 46,x 47,x 48,x 49,x 50,x 51,x 52,x 53] :=
 ⟨λk=>a.getD k undef,λ_=>rfl,(Sf a 54 h).trans (Se _)⟩
section
attribute[local go_sem] Oper.semAt_some
def acp{M:Nat->Prop}{f:FuncId}{args:List AV}{r:AV}(h:ah pg f args r)(w:World)(hH:(ba.T pg).H w)(hB:∀b,(ba.T pg).B b->¬M b)(hM:∀b,M b->b<w.heap.size){cargs:List Value}(ha:aR (aY (λ_=>none) M w) cargs args) :
  Calls pg f cargs.toArray w λe w'=>∃v,e = .returned v/\aY (λ_=>none) M w' v r/\gR No w w':=by
 have hm:∀(bl:Nat->Option Nat) b,bz bl M (ae []) b↔M b:=λbl b=>gQ _ b
 refine(h (λ_=>none) M w cargs hH (λb hb hm'=>hB b hb ((hm _ b).1 hm')) ⟨λid o hi=>by simp[ae]at hi,λid id' o o' b hi=>by simp[ae]at hi⟩ hM
  (ha.mono λ_ _ _ hr=>hr.tr (Tr.of_iff (λb=>hm _ b)) (λ_ _=>rfl))).mono λe w' hh=>?_
 obtain⟨v,r',σ',bl',rfl,⟨rfl,rfl⟩,hcl,_,hv,hst,_,_⟩:=hh;refine⟨v,rfl,hv.tr (Tr.of_iff (λb=>(hm _ b).symm)) (λid hid=>?_),⟨hst.size,λb hb _=>hst.keep b hb (λhx=>by obtain⟨id,o,hi,_⟩:=hx;simp[ae]at hi),hst.shape,hst.os,hst.out⟩⟩;have:=hcl.1 id (oe hid);simp[ae]at this
def Fu(A:World):gR No A A.drew:=⟨aN _,λ_ _ _=>rfl,λb c t fr h=>⟨c,fr,h,rfl⟩,rfl,rfl⟩
def EqH(a b:Nat):Prop:=a=b
def AX{w:World}{b:Nat}{c:Array Value}{t:TypeId}{fr:Nat×Nat}{i:Nat}{v:Value}(h:w.heap[b]?=some (.cells c t fr))(u:eD c fr)(hi:c[i]?=some v):w.frozen? ⟨b,i,none⟩=false:=by
 have:=u.spec i (j0.1 hi).1;obtain⟨lo,hi'⟩:=fr;simp only[World.frozen?,h];simp only at this;simpa using this
def Q9{cc:Array Value}{i:Nat}{v:Value}(h:cc[i]?=some v):cc.setIfInBounds i v=cc:=by
 apply Array.ext
 .simp
 .intro j h1 h2;rw[Array.getElem_setIfInBounds];split
  .rename_i e;subst e;obtain⟨h3,h4⟩:=j0.1 h;exact h4.symm
  .rfl
def Gy{w A:World}{M0:Nat->Prop}{tmps:Array Value}{D b4 b5:Nat}{r e:Int}{c4 c5:Array Value}{fr4 fr5:Nat×Nat}{p:Int×Int}(hp:p=(r,e))(h4:tmps.getD 4 undef = .pointer (some ⟨b4,0,none⟩))(h5:tmps.getD 5 undef = .pointer (some ⟨b5,0,none⟩))
  (hS:gR No w A) (hD:w.heap.size<=D) (hK:A.heap[D]?=some (.deferred (some []))) (g4:A.heap[b4]?=some (.cells c4 3 fr4)) (i4:c4[0]?=some (.int .i64 r)) (g5:A.heap[b5]?=some (.cells c5 97 fr5)) (i5:c5[0]?=some (.int .i64 e)) :
  bodyPostM Fence.wide 3 pg Tryz.f418 (λe w'=>∃v,e = .returned v/\gR No w w'/\aY (λ_=>none) M0 w' v (.tup [.int .i64 p.1,.int .i64 p.2])) .ret {tmps:=tmps,defers:=[{target:=.collected D,args:=#[]}]} A:=by
 subst hp;have hS2:=ja hS hD hK rfl (o':=.deferred none);refine⟨by simp,.inl ⟨_,_,rfl,run_takeDeferred hK,?_⟩⟩;have n4:b4≠D:=λh=>by rw[h,hK]at g4;cases g4
 have n5:b5≠D:=λh=>by rw[h,hK]at g5;cases g5
 have k4:(A.putObj D (.deferred none)).heap[b4]?=some (.cells c4 3 fr4):=by rw[World.putObj_heap_other n4];exact g4
 have k5:(A.putObj D (.deferred none)).heap[b5]?=some (.cells c5 97 fr5):=by rw[World.putObj_heap_other n5];exact g5
 exact⟨_,CN rfl _ _ _ h4 (Tryz.isAgg3 _) ((bD k4 _).trans i4) h5 (Tryz.isAgg97 _) ((bD k5 _).trans i5),_,rfl,hS2,[_,_],rfl,IRel.int _ _,IRel.int _ _,trivial⟩
def QT(S:Sk)(l:List Int)(hb:S.u.length<1000000)(hall:S.all.length<1000000)(hl:l.length<1000000) :
  ah pg 418 [FK S,.sl 1 (l.map bg)] (.tup [.int .i64 (Eu S l).1,.int .i64 (Eu S l).2]):=by
 refine ah.of (λw bl0 M0 cargs hH hM ha=>?_) rfl;refine(callsIn_wide (n:=3)).1 ?_;refine callsIn_of_wp_marks Tryz.func418 rfl trivial ?_ rfl;refine wpIn_seq (wpIn_mono (wpIn_wide.2 (Pn S l hb w bl0 M0 cargs hH ha)) ?_);rintro e a0 W0 ⟨rfl,h1⟩;refine wpIn_seq (wpIn_mono (wpIn_wide.2 h1) ?_);rintro e a W ⟨rfl,hd,hsz,hS,hW,bl,M,b2,b4,b5,b6,b7,hMw,hMl,hr1,⟨t2,m2,c2⟩,⟨t4,m4,c4⟩,⟨t5,m5,c5⟩,⟨t6,m6,c6⟩,⟨t7,m7,c7⟩,n62,n64,n65,n67,n45,n42,n47,n52,n57⟩;clear h1;obtain⟨x,hx,hta⟩:=aaG a.tmps hsz;obtain rfl:a =⟨#[x 0,x 1,x 2,x 3,x 4,x 5,x 6,x 7,x 8,x 9,x 10,x 11,x 12,x 13,x 14,x 15,x 16,x 17,x 18,x 19,x 20,x 21,x 22,x 23,x 24,x 25,x 26,x 27,x 28,x 29,x 30,x 31,x 32,x 33,x 34,x 35,x 36,x 37,x 38,x 39,x 40,x 41,x 42,x 43,x 44,x 45,x 46,x 47,x 48,x 49,x 50,x 51,x 52,x 53],[]⟩:=by cases a;cases hd;cases hta;rfl
 rw[zw (by omega),<-hx]at t2 t4 t5 t6 t7;rw[<-hx]at hr1;have hTM:∀b,(ba.T pg).B b->¬M b:=λb hb hm=>absurd ((ba.T pg).low _ hH b hb) (by have:=hMw b hm;omega);have cb:=acp (ZH (l.map bg)) W hW hTM hMl (cargs:=[x 1]) ⟨hr1.toC.toV,trivial⟩;clear hx hsz hd
 gi_wp2
 refine⟨trivial,(callsIn_wide.2 cb).mono ?_⟩;rintro e W1 ⟨v,rfl,hv,hst⟩;have st:∀{A B:World},(ba.T pg).H A->gR No A B->(ba.T pg).H B:=λh hs=>(ba.T pg).stay _ _ h λq hq=>hs.keep q ((ba.T pg).low _ h q hq) (λh=>h);have hW1:=st hW hst;obtain⟨cs,hvf,hcs⟩:=hv
 match cs,hcs with
 | [p],⟨hp,_⟩ =>
 obtain rfl:v = .func (.func 468) #[] #[p]:=hvf;cases (hp:IRel M W1 p (.ip [.sl 1 (l.map bg)]))with
 | ip pb po cp tp fp cells vs hpb hpM hpv Ru =>
 have hs0:=Ru 0 _ rfl;have hsc:=hpv 0 (Nat.zero_lt_succ _);obtain⟨B,hBe⟩:∃B:Nat->Prop,B=λb=>¬M b/\b<W1.heap.size:=⟨_,rfl⟩
 have hBs:∀b,B b->b<W1.heap.size:=λb hb=>by rw[hBe]at hb;exact hb.2
 have hsF:slF (vs 0) l B W1:=by
  obtain⟨pa,cap,e,h⟩:=acF hs0;refine⟨pa,cap,e,λh0=>?_⟩;obtain⟨b,off,c,t,fr,h1,h2,h3,h4⟩:=h h0;exact⟨b,off,c,t,fr,h1,by rw[hBe];exact⟨h2,aQ h3⟩,h3,h4⟩
 have hsq:=λn=>aaS n l hl W1 B (vs 0) pb po (by rw[hBe];exact⟨hpM,aQ hpb⟩) hBs hpb hsc hsF
 gi_wp2
 obtain⟨cc4,fr4,v4,g4,u4,i4,r4⟩:=c4;obtain⟨cc5,fr5,v5,g5,u5,i5,r5⟩:=c5;obtain⟨cc6,fr6,v6,g6,u6,i6,r6⟩:=c6;obtain⟨cc7,fr7,v7,g7,u7,i7,r7⟩:=c7;obtain⟨cc2,fr2,v2,g2,u2,i2,r2⟩:=c2;have kp:∀{b:Nat}{o:Obj},W.heap[b]?=some o->W1.heap[b]?=some o:=λh=>(hst.keep _ (aQ h) (λh=>h)).trans h;have hS1:=hS.one hst;have hz:w.heap.size<=W.heap.size:=hS.size;have hz1:W.heap.size<=W1.heap.size:=hst.size;have m4w:=hMw _ m4;have m5w:=hMw _ m5;have m6w:=hMw _ m6;have l4:=hMl _ m4;have l5:=hMl _ m5;have l6:=hMl _ m6;have nB:∀{b:Nat},M b->∀b',B b'->b'≠b:=λhm b' hb' e=>by rw[hBe]at hb';exact hb'.1 (e▸hm)
 refine MG (α:=Int×Int) (encs:=XS) (E:=NI l) (B:=B) (by decide) hW1 hBs (gf:=468) (lb:=#[.pointer (some ⟨pb,po,none⟩)]) rfl (enters_of Tryz.func468 (by kernel_rfl) rfl) (hsq _) (gR.refl _ _) (λ_=>rfl)
  (λdB A=>gR No w A/\W1.heap.size<=A.heap.size/\∃ts q,S.t.l.reverse=q++ts/\nj S.t.lo S.t.l.reverse l.reverse=nj S.t.lo ts (l.reverse.drop dB.length) /\
   A.heap[b6]?=some (.cells (cc6.setIfInBounds 0 (.int .i64 (((bW S.u).length+ts.length:Nat):Int))) 3 fr6)/\∀b,b<W1.heap.size->b≠b6->A.heap[b]? = W1.heap[b]?)
  (λc dB A=>c = .ret/\gR No w A/\W1.heap.size<=A.heap.size/\(nj S.t.lo S.t.l.reverse l.reverse).1=none/\A.heap[b4]?=some (.cells (cc4.setIfInBounds 0 (.int .i64 0)) 3 fr4) /\
   A.heap[b5]?=some (.cells (cc5.setIfInBounds 0 (.int .i64 (nj S.t.lo S.t.l.reverse l.reverse).2)) 97 fr5))
  ?hI ?hIx ?hIp ?hIxp ?h0
  (λy=>{tmps:=#[x 0,x 1,.pointer (some ⟨b2,0,none⟩),x 3,.pointer (some ⟨b4,0,none⟩),.pointer (some ⟨b5,0,none⟩),.pointer (some ⟨b6,0,none⟩),.pointer (some ⟨b7,0,none⟩),x 8,.int .i64 y.2,x 10,x 11,x 12,x 13,x 14,x 15,x 16,x 17,x 1,.func (.func 468) #[] #[.pointer (some ⟨pb,po,none⟩)],.int .i64 y.1,.int .i64 y.2,x 22,x 23,x 24,x 25,x 26,x 27,x 28,x 29,x 30,x 31,x 32,x 33,x 34,x 35,x 36,x 37,x 38,x 39,x 40,x 41,x 42,x 43,x 44,x 45,x 46,x 47,x 48,x 49,x 50,x 51,x 52,x 53],defers:=[]}) ?assign ?body ?done ?stop
 case hI =>
  rintro s A B' ⟨h1,h2,ts,q,h3,h4,h5,h6⟩ hs;exact⟨h1.one hs,cZ h2 hs.size,ts,q,h3,h4,(hs.keep _ (aQ h5) (λh=>h)).trans h5,λb hb hn=>(hs.keep _ (by omega) (λh=>h)).trans (h6 b hb hn)⟩
 case hIx =>
  rintro c s A B' ⟨h1,h2,h3,h4,h5,h6⟩ hs;exact⟨h1,h2.one hs,cZ h3 hs.size,h4,(hs.keep _ (aQ h5) (λh=>h)).trans h5,(hs.keep _ (aQ h6) (λh=>h)).trans h6⟩
 case hIp =>
  rintro s A k o o' ⟨h1,h2,ts,q,h3,h4,h5,h6⟩ hk hko ho;exact⟨ja h1 (by omega) hko ho,cZ h2 (grownBy_putObj' A k o').size,ts,q,h3,h4,by rw[World.putObj_heap_other (by have:=hMl _ m6;omega)];exact h5,λb hb hn=>by rw[World.putObj_heap_other (by omega)];exact h6 b hb hn⟩
 case hIxp =>
  rintro c s A k o o' ⟨h1,h2,h3,h4,h5,h6⟩ hk hko ho;exact⟨h1,ja h2 (by omega) hko ho,cZ h3 (grownBy_putObj' A k o').size,h4,by rw[World.putObj_heap_other (by have:=hMl _ m4;omega)];exact h5,by rw[World.putObj_heap_other (by have:=hMl _ m5;omega)];exact h6⟩
 case h0 =>
  refine⟨hS1,aN _,S.t.l.reverse,[],rfl,by rw[iN,oK],?_,λ_ _ _=>rfl⟩;have e:v6 = .int .i64 (((bW S.u).length+S.t.l.reverse.length:Nat):Int):=by
   have:=(r6:IRel M W v6 (.int .i64 S.all.length))
   cases this;rw[List.length_reverse,mT,ej]
  rw[<-e,Q9 i6];exact kp g6
 case assign =>
  intro l' y A K hK;simp only[XS]
  gi_wp2
  exact hK
 case body =>
  rintro l' dB y A ⟨h1,h2,ts,q,h3,h4,h5,h6⟩ hpre;have hk:dB.length<l.length:=by have:=hpre.length_le;rw[D2,ej,pq]at this;omega
  have hy:y.2=ap l (l.length-1-dB.length):=by
   have e:=NJ l hk;obtain⟨r,hr⟩:=hpre;rw[<-hr,mE,zB (aN _),zx]at e;cases e;rfl
  have hdr:l.reverse.drop dB.length=y.2::l.reverse.drop (dB.length+1):=by
   rw[Z8 (by simpa using hk),List.getElem_reverse,hy,aV (by omega)]
  rw[hdr]at h4;clear hy hdr;have g4':=(h6 b4 (by omega) (Ne.symm n64)).trans (kp g4);have g5':=(h6 b5 (by omega) (Ne.symm n65)).trans (kp g5);have j6:(cc6.setIfInBounds 0 (.int .i64 (((bW S.u).length+ts.length:Nat):Int)))[0]?=some (.int .i64 (((bW S.u).length+ts.length:Nat):Int)):=by rw[Array.getElem?_setIfInBounds_self_of_lt];exact(j0.1 i6).1
  have d6:A.cell? ⟨b6,0,none⟩=some (.int .i64 (((bW S.u).length+ts.length:Nat):Int)):=(bD h5 _).trans j6;have hA:∀{b:Nat}{o:Obj},¬M b->W.heap[b]?=some o->A.heap[b]?=some o:=λhm h=>(h6 _ (by have:=aQ h;omega) (λe=>hm (by rw[e];exact m6))).trans (kp h);have hA2:∀{b:Nat}{o:Obj},b6≠b->W.heap[b]?=some o->A.heap[b]?=some o:=λhm h=>(h6 _ (by have:=aQ h;omega) (Ne.symm hm)).trans (kp h);cases (r7:IRel M W v7 (.ip [.int .i64 ((bW S.u).length:Int),.bool S.t.lo]))with
  | ip bq oq cq tq fq cells7 vq hqb hqM hqv hqx =>
  cases (r2:IRel M W v2 (.ip [.sl 1 (S.all.map bg),.sl 2 ((cw (S.t::S.u)).map DE),.bool S.ov]))with
  | ip bs os cs2 ts2 fs2 cells2 vs2 hsb hsM hsv hsx =>
  have q0:=hqv 0 (by simp);have q1:=hqv 1 (by simp);have s0:=hsv 0 (by simp);have e0:vq 0 = .int .i64 ((bW S.u).length:Int):=by have:=hqx 0 _ rfl;generalize vq 0=u at this;cases this;rfl
  have e1:vq 1 = .bool S.t.lo:=by have:=hqx 1 _ rfl;generalize vq 1=u at this;cases this;rfl
  obtain⟨ps,cps,es,hsl⟩:=acF (hsx 0 _ rfl);rw[e0]at q0;rw[e1]at q1;rw[es]at s0;have d7:A.cell? ⟨b7,0,none⟩=some (.pointer (some ⟨bq,oq,none⟩)):=(bD (hA2 n67 g7) _).trans i7;have dq0:A.cell? ⟨bq,oq,none⟩=some (.int .i64 ((bW S.u).length:Int)):=(bD (hA hqM hqb) _).trans q0;have dq1:A.cell? ⟨bq,oq+1,none⟩=some (.bool S.t.lo):=(bD (hA hqM hqb) _).trans q1;have d2:A.cell? ⟨b2,0,none⟩=some (.pointer (some ⟨bs,os,none⟩)):=(bD (hA2 n62 g2) _).trans i2;have ds:A.cell? ⟨bs,os,none⟩=some (.slice ps S.all.length cps):=(bD (hA hsM hsb) _).trans s0;have hmx:pg.follows .mixedOrders=true:=by kernel_rfl
  have D6:A.drew.cell? ⟨b6,0,none⟩=some (.int .i64 (((bW S.u).length+ts.length:Nat):Int)):=d6;have D7:A.drew.cell? ⟨b7,0,none⟩=some (.pointer (some ⟨bq,oq,none⟩)):=d7;have Q0:A.drew.cell? ⟨bq,oq,none⟩=some (.int .i64 ((bW S.u).length:Int)):=dq0;have Q1:A.drew.cell? ⟨bq,oq+1,none⟩=some (.bool S.t.lo):=dq1;cases ts with
  | nil =>
   have D6:A.drew.cell? ⟨b6,0,none⟩=some (.int .i64 ((bW S.u).length:Int)):=D6;clear hst Ru hpv hpb nB hsq hBs hBe hsF cb hqv hqx hsv hsx d6 d7 dq0 dq1 d2 ds q0 q1 s0 e0 e1;cases hlo:S.t.lo with
   | true =>
    rw[hlo]at Q1 h4
    gi_wp2
    gi_region_with_o (skip)
    all_goals
     gi_wp2
     refine⟨⟨aN _,λ_ _ h _=>h⟩,zY.refl _ _,by first|exact h1|exact h1.one (Fu A),h2,[],q,h3,?_,h5,h6⟩;rw[h4,ej];rfl
   | false =>
    rw[hlo]at Q1 h4;have hP:nj false S.t.l.reverse l.reverse=(none,13):=h4;have d4:A.cell? ⟨b4,0,none⟩=some v4:=(bD g4' _).trans i4;have f4:=AX g4' u4 i4;have g5'':(A.setCell ⟨b4,0,none⟩ (.int .i64 0)).heap[b5]?=some (.cells cc5 97 fr5):=by rw[dL n45];exact g5'
    have d5:(A.setCell ⟨b4,0,none⟩ (.int .i64 0)).cell? ⟨b5,0,none⟩=some v5:=(bD g5'' _).trans i5;have f5:=AX g5'' u5 i5;have D4:A.drew.cell? ⟨b4,0,none⟩=some v4:=d4;have F4:A.drew.frozen? ⟨b4,0,none⟩=false:=f4;have D5:(A.drew.setCell ⟨b4,0,none⟩ (.int .i64 0)).cell? ⟨b5,0,none⟩=some v5:=d5;have F5:(A.drew.setCell ⟨b4,0,none⟩ (.int .i64 0)).frozen? ⟨b5,0,none⟩=false:=f5;have hX:gR No w ((A.setCell ⟨b4,0,none⟩ (.int .i64 0)).setCell ⟨b5,0,none⟩ (.int .i64 13)):=eB (eB h1 (by exact m4w)) (by exact m5w);have hY:KeepsOthers A ((A.setCell ⟨b4,0,none⟩ (.int .i64 0)).setCell ⟨b5,0,none⟩ (.int .i64 13)):=(KeepsOthers.setCell _ _ _).trans (KeepsOthers.setCell _ _ _);have hZ:W1.heap.size<=((A.setCell ⟨b4,0,none⟩ (.int .i64 0)).setCell ⟨b5,0,none⟩ (.int .i64 13)).heap.size:=by simpa[World.setCell]using h2
    gi_wp2
    gi_region_with_o (skip)
    all_goals
     gi_wp2
     refine⟨⟨hY.size,hY.same⟩,rfl,by first|exact hX|exact hX.one (Fu _),hZ,by rw[hP],(dL (Ne.symm n45)).trans (gD g4'),?_⟩;rw[hP];exact gD g5''
  | cons t ts =>
   have hlen:(bW S.u).length+ts.length<S.all.length:=by
    have e:=congrArg List.length h3;rw[List.length_reverse,ej,j1]at e;rw[mT,ej];omega
   have hat:ap S.all ((bW S.u).length+ts.length)=t:=by
    have e:S.t.l=ts.reverse++t::q.reverse:=by rw[<-List.reverse_reverse S.t.l,h3];simp
    have e2:S.all[(bW S.u).length+ts.length]?=some t:=by
     rw[mT,zB (by omega),e,zB (by simp)];simp
    rw[dV hlen]at e2;exact zA e2
   obtain⟨bt,ot,ct,tt,ft,rfl,htM,htb,htc⟩:=hsl (by omega);have c1:=htc _ hlen;rw[hat]at c1;have hne:¬((((bW S.u).length+(t::ts).length:Nat):Int)=((bW S.u).length:Int)):=by rw[j1];omega
   have hw:wrap64 ((((bW S.u).length+(t::ts).length:Nat):Int)-1)=(((bW S.u).length+ts.length:Nat):Int):=by rw[IntWalk.wrap64_in _ (by rw[j1];omega),j1];omega
   have f6:=AX h5 (by simpa[eD]using u6) j6;clear hst Ru hpv hpb hsq hsF cb hqv hqx hsv hsx d6 d7 dq0 dq1 q0 q1 s0 e0 e1;generalize hN:(((bW S.u).length+(t::ts).length:Nat):Int)=N at*;have F6:A.drew.frozen? ⟨b6,0,none⟩=false:=f6;obtain⟨K,hK⟩:∃K:Nat,EqH K ((bW S.u).length+ts.length):=⟨_,rfl⟩
   rw[<-(hK:K=_)]at hw hat hlen c1;have k6:(A.setCell ⟨b6,0,none⟩ (.int .i64 (K:Int))).heap[b6]?=some (.cells (cc6.setIfInBounds 0 (.int .i64 (K:Int))) 3 fr6):=by rw[gD h5];simp
   have kA:∀{b:Nat}{o:Obj},b6≠b->A.heap[b]?=some o->(A.setCell ⟨b6,0,none⟩ (.int .i64 (K:Int))).heap[b]?=some o:=λhn h=>by rw[dL hn];exact h
   have E6:(A.setCell ⟨b6,0,none⟩ (.int .i64 (K:Int))).drew.drew.cell? ⟨b6,0,none⟩=some (.int .i64 (K:Int)):=(bD k6 _).trans (by rw[Array.getElem?_setIfInBounds_self_of_lt];exact(j0.1 i6).1);have E2:(A.setCell ⟨b6,0,none⟩ (.int .i64 (K:Int))).drew.drew.cell? ⟨b2,0,none⟩=some (.pointer (some ⟨bs,os,none⟩)):=(bD (kA n62 (hA2 n62 g2)) _).trans i2;have nM:∀{b:Nat},¬M b->b6≠b:=λh e=>h (by rw[<-e];exact m6);have Es:(A.setCell ⟨b6,0,none⟩ (.int .i64 (K:Int))).drew.drew.cell? ⟨bs,os,none⟩=some (.slice (some ⟨bt,ot,none⟩) S.all.length cps) :=
    (bD (kA (nM hsM) (hA hsM hsb)) os).trans ((bD (hA hsM hsb) os).symm.trans ds)
   have Et:(A.setCell ⟨b6,0,none⟩ (.int .i64 (K:Int))).drew.drew.cell? ⟨bt,ot+K,none⟩=some (.int .i64 t):=(bD (kA (nM htM) (hA htM htb)) _).trans c1;have G4:=kA n64 g4';have G5:=kA n65 g5';refine wpIn_block (wpIn_seq (wpIn_mono (Q:=λe a B=>e = .normal/\B=A.drew/\∃z22 z23 z24 z25 z26 z27:Value,a =⟨#[x 0,x 1,.pointer (some ⟨b2,0,none⟩),x 3,.pointer (some ⟨b4,0,none⟩),.pointer (some ⟨b5,0,none⟩),.pointer (some ⟨b6,0,none⟩),.pointer (some ⟨b7,0,none⟩),x 8,.int .i64 y.2,x 10,x 11,x 12,x 13,x 14,x 15,x 16,x 17,x 1,.func (.func 468) #[] #[.pointer (some ⟨pb,po,none⟩)],.int .i64 y.1,.int .i64 y.2,z22,z23,z24,z25,z26,z27,x 28,x 29,x 30,x 31,x 32,x 33,x 34,x 35,x 36,x 37,x 38,x 39,x 40,x 41,x 42,x 43,x 44,x 45,x 46,x 47,x 48,x 49,x 50,x 51,x 52,x 53],[]⟩) ?r4 ?k4))
   case r4 =>
    gi_wp2
    gi_region_with_o (skip)
    all_goals
     gi_wp2
   rintro e a B ⟨rfl,rfl,z22,z23,z24,z25,z26,z27,rfl⟩;refine wpIn_seq (wpIn_mono (Q:=λe a B=>e = .normal/\B=(A.drew.setCell ⟨b6,0,none⟩ (.int .i64 (K:Int)))/\∃z22 z23 z24 z25 z26 z27 z33 z34:Value,a =⟨#[x 0,x 1,.pointer (some ⟨b2,0,none⟩),x 3,.pointer (some ⟨b4,0,none⟩),.pointer (some ⟨b5,0,none⟩),.pointer (some ⟨b6,0,none⟩),.pointer (some ⟨b7,0,none⟩),x 8,.int .i64 y.2,x 10,x 11,x 12,x 13,x 14,x 15,x 16,x 17,x 1,.func (.func 468) #[] #[.pointer (some ⟨pb,po,none⟩)],.int .i64 y.1,.int .i64 y.2,z22,z23,z24,z25,z26,z27,x 28,x 29,x 30,x 31,x 32,z33,z34,x 35,x 36,x 37,x 38,x 39,x 40,x 41,x 42,x 43,x 44,x 45,x 46,x 47,x 48,x 49,x 50,x 51,x 52,x 53],[]⟩) ?r7 ?k7)
   case r7 =>
    gi_wp2
   rintro e a B ⟨rfl,rfl,z22,z23,z24,z25,z26,z27,z33,z34,rfl⟩;refine wpIn_seq (wpIn_mono (Q:=λe a B=>e = .normal/\B=(A.drew.setCell ⟨b6,0,none⟩ (.int .i64 (K:Int))).drew/\∃z22 z23 z24 z25 z26 z27 z33 z34 z35 z36 z37 z38 z39 z40 z41:Value,a =⟨#[x 0,x 1,.pointer (some ⟨b2,0,none⟩),x 3,.pointer (some ⟨b4,0,none⟩),.pointer (some ⟨b5,0,none⟩),.pointer (some ⟨b6,0,none⟩),.pointer (some ⟨b7,0,none⟩),x 8,.int .i64 y.2,.int .i64 t,x 11,x 12,x 13,x 14,x 15,x 16,x 17,x 1,.func (.func 468) #[] #[.pointer (some ⟨pb,po,none⟩)],.int .i64 y.1,.int .i64 y.2,z22,z23,z24,z25,z26,z27,x 28,x 29,x 30,x 31,x 32,z33,z34,z35,z36,z37,z38,z39,z40,z41,x 42,x 43,x 44,x 45,x 46,x 47,x 48,x 49,x 50,x 51,x 52,x 53],[]⟩) ?r8 ?k8)
   case r8 =>
    gi_wp2
    gi_region_with_o (skip)
    all_goals
     gi_wp2
   rintro e a B ⟨rfl,rfl,z22,z23,z24,z25,z26,z27,z33,z34,z35,z36,z37,z38,z39,z40,z41,rfl⟩;obtain⟨X,hX⟩:∃X:World,X=(A.drew.setCell ⟨b6,0,none⟩ (.int .i64 (K:Int))).drew:=⟨_,rfl⟩
   rw[<-hX];have x6:X.heap[b6]?=some (.cells (cc6.setIfInBounds 0 (.int .i64 (K:Int))) 3 fr6):=by rw[hX];exact k6
   have xA:∀{b:Nat},b6≠b->X.heap[b]? = A.heap[b]?:=λhn=>by rw[hX];exact dL hn
   have xz:A.heap.size=X.heap.size:=by rw[hX];exact(show(A.drew.setCell ⟨b6,0,none⟩ (.int .i64 (K:Int))).heap.size=A.drew.heap.size by simp only[World.setCell,Array.size_modify]).symm
   have xS:gR No w X:=by rw[hX];exact(eB (h1.one (Fu A)) (by exact m6w)).one (Fu _)
   have xK:KeepsOthers A X:=⟨by omega,λk o h1 h2=>by rw[hX];exact(KeepsOthers.setCell A.drew ⟨b6,0,none⟩ (.int .i64 (K:Int))).same k o h1 h2⟩
   have X4:=(xA n64).trans g4';have X5:=(xA n65).trans g5';have hP:nj S.t.lo S.t.l.reverse l.reverse=if t≠y.2/\t≠0/\y.2≠0 then(none,12)else nj S.t.lo ts (l.reverse.drop (dB.length+1)):=h4
   by_cases hq:t≠y.2/\t≠0/\y.2≠0
   .rw[aF hq]at hP;obtain⟨q1,q2,q3⟩:=hq;have D4:X.cell? ⟨b4,0,none⟩=some v4:=(bD X4 _).trans i4;have F4:=AX X4 u4 i4;have Y5:(X.setCell ⟨b4,0,none⟩ (.int .i64 0)).heap[b5]?=some (.cells cc5 97 fr5):=by rw[dL n45];exact X5
    have D5:(X.setCell ⟨b4,0,none⟩ (.int .i64 0)).cell? ⟨b5,0,none⟩=some v5:=(bD Y5 _).trans i5;have F5:=AX Y5 u5 i5;have hX2:gR No w ((X.setCell ⟨b4,0,none⟩ (.int .i64 0)).setCell ⟨b5,0,none⟩ (.int .i64 12)):=eB (eB xS (by exact m4w)) (by exact m5w);have hY:KeepsOthers A ((X.setCell ⟨b4,0,none⟩ (.int .i64 0)).setCell ⟨b5,0,none⟩ (.int .i64 12)):=(xK.trans (KeepsOthers.setCell _ _ _)).trans (KeepsOthers.setCell _ _ _);have hZ:W1.heap.size<=((X.setCell ⟨b4,0,none⟩ (.int .i64 0)).setCell ⟨b5,0,none⟩ (.int .i64 12)).heap.size:=cZ (by omega) ((KeepsOthers.setCell X ⟨b4,0,none⟩ (.int .i64 0)).trans (KeepsOthers.setCell _ _ _)).size;clear hX h3 hBe h4 hBs x6 xS xK xz xA h6 k6 kA E6 E2 Es Et D6 D7 Q0 Q1 hne hw hat hlen c1 htc hsl hN hK h5 G4 G5
    gi_wp2
    .refine⟨⟨hY.size,hY.same⟩,rfl,hX2,hZ,by rw[hP],(dL (Ne.symm n45)).trans (gD X4),?_⟩;rw[hP];exact gD Y5
    .rename_i hh;exact absurd hh (by simp[q1,q2,q3])
   .rw[ax hq]at hP
    have hI:ownPostK (zY B W1.heap.size) (λdB A=>gR No w A/\W1.heap.size<=A.heap.size/\∃ts q,S.t.l.reverse=q++ts/\nj S.t.lo S.t.l.reverse l.reverse=nj S.t.lo ts (l.reverse.drop dB.length) /\
      A.heap[b6]?=some (.cells (cc6.setIfInBounds 0 (.int .i64 (((bW S.u).length+ts.length:Nat):Int))) 3 fr6)/\∀b,b<W1.heap.size->b≠b6->A.heap[b]? = W1.heap[b]?)
      (λc dB A=>c = .ret/\gR No w A/\W1.heap.size<=A.heap.size/\(nj S.t.lo S.t.l.reverse l.reverse).1=none/\A.heap[b4]?=some (.cells (cc4.setIfInBounds 0 (.int .i64 0)) 3 fr4) /\
       A.heap[b5]?=some (.cells (cc5.setIfInBounds 0 (.int .i64 (nj S.t.lo S.t.l.reverse l.reverse).2)) 97 fr5)) (dB++[y]) A .normal ⟨#[],[]⟩ X:=by
     refine⟨⟨xK.size,xK.same⟩,⟨by omega,λb c t fr hb hc=>?_,λb hb=>xA (Ne.symm (nB m6 b hb))⟩,xS,by omega,ts,q++[t],by rw[h3];simp,by rw[hP,ej];rfl,?_,λb hb hn=>?_⟩
     .exact(xA (by omega)).trans hc
     .rw[<-(hK:K=_)];exact x6
     .exact(xA (Ne.symm hn)).trans (h6 b hb hn)
    clear hX h3 hBe h4 hBs x6 xS xK xz xA h6 k6 kA E6 E2 Es Et D6 D7 Q0 Q1 hne hw hat hlen c1 htc hsl hN hK h5 G4 G5 hP;by_cases q1:t=y.2
    .gi_wp2
     exact hI
    by_cases q2:t=0
    .gi_wp2
     exact hI
    by_cases q3:y.2=0
    .gi_wp2
     exact hI
    exact absurd ⟨q1,q2,q3⟩ hq
 case done =>
  rintro D A hD ⟨h1,h2,ts,q,h3,h4,h5,h6⟩ hK;have e:nj S.t.lo S.t.l.reverse l.reverse=(some ts,0):=by
   rw[h4,D2,<-List.length_reverse,List.drop_length];cases ts<;>rfl
  have eN:Eu S l=((((bW S.u).length+ts.length:Nat):Int),0):=by unfold Eu Sk.left;rw[e]
  have g4':=(h6 b4 (by have:=hMl _ m4;omega) (Ne.symm n64)).trans (kp g4);have g5':=(h6 b5 (by have:=hMl _ m5;omega) (Ne.symm n65)).trans (kp g5);have d6:A.cell? ⟨b6,0,none⟩=some (.int .i64 (((bW S.u).length+ts.length:Nat):Int)):=(bD h5 _).trans (by rw[Array.getElem?_setIfInBounds_self_of_lt];exact(j0.1 i6).1);generalize hN:((((bW S.u).length+ts.length:Nat):Int))=N at*;have d4:A.cell? ⟨b4,0,none⟩=some v4:=(bD g4' _).trans i4;have f4:=AX g4' u4 i4;have g5'':(A.setCell ⟨b4,0,none⟩ (.int .i64 N)).heap[b5]?=some (.cells cc5 97 fr5):=by rw[dL n45];exact g5'
  have d5:(A.setCell ⟨b4,0,none⟩ (.int .i64 N)).cell? ⟨b5,0,none⟩=some v5:=(bD g5'' _).trans i5;have f5:=AX g5'' u5 i5;clear h6 kp hst Ru hpv hpb hTM nB hsq hBs hBe hsF cb g2 g4 g5 g6 g7 hMw hMl
  gi_wp2
  refine Gy eN rfl rfl (eB (eB h1 (by exact m4w)) (by exact m5w)) (by omega) ?_ ((dL (Ne.symm n45)).trans (gD g4')) ?_ (gD g5'') ?_
  .rw[dL (by omega),dL (by omega)];exact hK
  .rw[Array.getElem?_setIfInBounds_self_of_lt];exact(j0.1 i4).1
  .rw[Array.getElem?_setIfInBounds_self_of_lt];exact(j0.1 i5).1
 case stop =>
  rintro D c dB A hD hp ⟨rfl,h1,h2,h3,h4,h5⟩ hK
  gi_wp2
  refine Gy (r:=0) (e:=(nj S.t.lo S.t.l.reverse l.reverse).2) ?_ rfl rfl h1 (by omega) hK h4 ?_ h5 ?_
  .unfold Eu Sk.left;obtain⟨o,e⟩:∃o,nj S.t.lo S.t.l.reverse l.reverse=o:=⟨_,rfl⟩
   rw[e]at h3⊢;obtain⟨o1,o2⟩:=o;cases h3;rfl
  .rw[Array.getElem?_setIfInBounds_self_of_lt];exact(j0.1 i4).1
  .rw[Array.getElem?_setIfInBounds_self_of_lt];exact(j0.1 i5).1
end
section
def fH(m:Md)(s:Sp)(F:Fa):aj:=⟨169,17,[mI m++[qZ s,.int .i64 F.p,.int .i64 F.i,.int .i64 F.l,.int .i64 F.c]],true⟩
def zp(m:Md)(s:Sp)(F:Fa):fH m s F =⟨169,17,[mI m++[qZ s,.int .i64 F.p,.int .i64 F.i,.int .i64 F.l,.int .i64 F.c]],true⟩:=rfl
def CR:List (Int×Int)->Nat
 | []=>0
 | r::l=>if r.2≠0 then 1 else CR l+1
def Ao(g:FuncId)(ag:Nat->List AV)(m:Md)(s:Sp)(E:Nat->List (Nat×aj))(res:List (Int×Int)):Prop :=
 ∀i,i<res.length->(∀j,j<i->(ap res j).2=0)->∀F:Fa,F.c=0->aZ pg g (ag i) ((1000,fH m s F)::E i) Ku (λr' σ'=>r' = .tup [.int .i64 (ap res i).1,.int .i64 (ap res i).2]/\σ'=(1000,fH m s F)::E (i+1))
structure okE(E:Nat->List (Nat×aj)):Prop where
 g:∀i,∀p∈E i,ae (E i) p.1=some p.2
 n:∀i,∀p∈E i,p.1≠1000/\(Ku p.1\/p.1=2000)
 k:∀i j,∀p∈E i,(ae (E j) p.1).isSome=true
def m3{k:Nat}{o:aj}:∀{l X:List (Nat×aj)},ae l k=some o->ae (l++X) k=some o
 | [],X,h=>by cases h
 | (j,p)::l,X,h=>by
  simp only[ae,tU]at h⊢;split
  .rename_i hj;rw[aF hj]at h;exact h
  .rename_i hj;rw[ax hj]at h;exact m3 h
def ym{k j:Nat}(hk:¬k=j):∀l:List (Nat×aj),ae (ny l k) j=ae l j
 | []=>rfl
 | (a,o)::l=>by
  simp only[ny,ae];by_cases h:a=k
  .rw[aF h,ax (λq=>hk (by rw[<-h,q])),ym hk l]
  .rw[ax h];simp only[ae,ym hk l]
def aby{n:Int}{l:List (Int×Int)}{i:Nat}(h:i<l.length)(F:Fa)(hF:F.c=0):kH n i (l.drop i) F=kH n (i+1) (l.drop (i+1)) (lU F n i (ap l i).1 (ap l i).2):=Ok h F hF
def X0{n:Int}{l:List (Int×Int)}{i:Nat}(F:Fa)(hF:F.c≠0):kH n i l F=F:=by
 cases l with
 | nil=>rfl
 | cons r l=>rw[kH,aF hF]
attribute[-go_sem] wS in
attribute[local go_sem] bP zp bn bc aD
def Bb{f g:FuncId}{caps:List AV}{ag:Nat->List AV}{m:Md}{s:Sp}{E:Nat->List (Nat×aj)}{res:List (Int×Int)}(hf:Ao g ag m s E res)(hE:okE E)(hfc:∀(i:Nat)(d:Option Nat)(w:St)(K:St->Prop),cB pg g (ag i) d w K->JG pg (.fn f caps) [.int .i64 i] d w K)(hcl:∀i F,Rr (.tup []) ((1000,fH m s F)::E i)=true)(hcp:caps.any (mP 2000)=false)(hr:res.length<=1000000)(part:Int)(F:Fa) :
  aZ pg dd [.mp 1000 17 0 0,.int .i64 part,.int .i64 res.length,.fn f caps] ((1000,fH m s F)::E 0) Ku (λr' σ'=>r' = .tup []/\σ'=(1000,fH m s (kH part 0 res F))::E (if F.c≠0 then 0 else CR res)):=by
 refine dj mN ?_;obtain⟨T,hT⟩:∃T,kH part 0 res F=T:=⟨_,rfl⟩
 obtain⟨J,hJ⟩:∃J,(if F.c≠0 then 0 else CR res)=J:=⟨_,rfl⟩
 rw[hT,hJ];simp only[go_sem,mN];refine ao (λq:Nat×Fa=>⟨[(8,.int .i64 q.1),(3,.fn f caps),(2,.int .i64 res.length),(1,.int .i64 part),(0,.mp 1000 17 0 0)],(1000,fH m s q.2)::E q.1⟩)
  (λq=>q.1<=res.length/\kH part q.1 (res.drop q.1) q.2=T/\(if q.2.c≠0 then q.1 else q.1+CR (res.drop q.1))=J/\(q.2.c=0->∀j,j<q.1->(ap res j).2=0)) (λq=>res.length-q.1+(if q.2.c≠0 then 0 else 1)) (0,F) ⟨cR _,hT,by rw[<-hJ];simp,λ_ j hj=>absurd hj (Nat.not_lt_zero j)⟩ (Wk.le ?_ ?_) ?_
 .intro p hp;simp only[bp,bZ,or_false]at hp;rcases hp with rfl|rfl|rfl|rfl|rfl<;>rfl
 .intro p hp;rcases bp.1 hp with rfl|hp
  .rfl
  .show(if 1000=p.1 then _ else ae (E 0) p.1)=_;rw[ax (λq=>(hE.n 0 p hp).1 q.symm)];exact hE.g 0 p hp
 rintro⟨i,G⟩ ⟨hi,hx,hy,hz⟩;dsimp only at hi hx hy hz;by_cases h1:(i:Int)<(res.length:Int);rotate_left
 .simp only[go_sem,aC h1];have hie:i=res.length:=by omega
  have e1:G=T:=by rw[hie,cu (aN _)]at hx;exact hx
  have e2:i=J:=by
   rw[hie,cu (aN _)]at hy;rw[<-hy,hie];split<;>rfl
  subst e1 e2;exact⟨(λ_ h=>by cases h),_,Wk.refl _,[],.tup [],_,rfl,(λi o hi=>by simp only[go_sem,zp]at hi⊢;exact hi),kx (by have:=hcl i G;simp only[go_sem]at this⊢;exact this),⟨rfl,rfl⟩⟩
 have hi':i<res.length:=by omega
 by_cases h2:G.c=0;rotate_left
 .simp only[go_sem,aw h1,ab h2];have e1:G=T:=by rw[X0 G h2]at hx;exact hx
  have e2:i=J:=by rw[aF h2]at hy;exact hy
  subst e1 e2;exact⟨(λ_ h=>by cases h),_,Wk.refl _,[],.tup [],_,rfl,(λi o hi=>by simp only[go_sem,zp]at hi⊢;exact hi),kx (by have:=hcl i G;simp only[go_sem]at this⊢;exact this),⟨rfl,rfl⟩⟩
 have e8:=cA hi' (by omega);rw[aby hi' G h2]at hx;have hfi:=hf i hi' (hz h2) G h2;have hE1:=hE;simp only[go_sem,aw h1,aK h2];refine hfc i _ _ _ ?_;have hn1000:∀k,∀p∈E k,¬(1000=p.1):=λk p hp q=>(hE.n k p hp).1 q.symm;have hgE:∀k,∀p∈E k,∀o:aj,ae ((1000,o)::E k) p.1=some p.2:=λk p hp o=>by
  show(if 1000=p.1 then _ else ae (E k) p.1)=_;rw[ax (hn1000 k p hp)];exact hE.g k p hp
 have hkE:∀k j,∀p∈E k,∀o:aj,(ae ((1000,o)::E j) p.1).isSome=true:=λk j p hp o=>by
  show(if 1000=p.1 then _ else ae (E j) p.1).isSome=true;rw[ax (hn1000 k p hp)];exact hE.k k j p hp
 refine gz hfi [2000] (λp hp=>?_) (λp hp=>?_) (λp hp=>?_) ?_
 .rcases bp.1 hp with rfl|hp
  .rfl
  .exact hgE i p hp _
 .rcases bp.1 hp with rfl|hp
  .exact .inl ⟨⟨show 1000<=1000 by decide,show 1000<2000 by decide⟩,rfl⟩
  .rcases(hE.n (i+1) p hp).2 with q|q
   .exact .inl ⟨q,hkE (i+1) i p hp _⟩
   .exact .inr ⟨by rw[q];simp,by rw[q];exact .inr (by decide),.inl (hkE (i+1) i p hp _)⟩
 .rcases bp.1 hp with rfl|hp
  .rfl
  .exact hkE i (i+1) p hp _
 have hcp':mP 2000 (.fn f caps)=false:=rfl;generalize jX [2000] _=X;generalize hR:ap res i=R at hx hy;have hst:CR (res.drop i)=if R.2≠0 then 1 else CR (res.drop (i+1))+1:=by rw[cH hi',CR,hR]
 rw[ax (λq=>q h2),hst]at hy;by_cases h3:R.2=0
 .rw[ax (λq=>q h3)]at hy;have hfa:lU G part i R.1 R.2=G:=by unfold lU;rw[ax (λq=>q.2 h3)]
  rw[hfa]at hx;simp only[go_sem,hcp,ar h3,hR]
  refine ay (i+1,G) ⟨show i+1<=res.length by omega,hx,by rw[ax (λq=>q h2)];rw[<-hy];show i+1+CR (res.drop (i+1))=_;omega,λ_ j hj=>by
   by_cases hji:j=i
   .rw[hji,hR];exact h3
   .exact hz h2 j (by have hj:j<i+1:=hj;omega)⟩ (by show res.length-(i+1)+_<res.length-i+_;rw[ax (λq=>q h2)];omega) (Wk.le ?_ ?_)
  .intro p hp;simp only[bp,bZ,or_false]at hp;rcases hp with rfl|rfl|rfl|rfl|rfl
   all_goals
    simp only[go_sem,e8]
    try simp
  .intro p hp;rcases bp.1 hp with rfl|hp
   .simp only[go_sem]
   .show(if 1000=p.1 then _ else ae (E (i+1)++X) p.1)=_;rw[ax (hn1000 (i+1) p hp)];exact m3 (hE.g (i+1) p hp)
 rw[aF h3]at hy;have hfa:lU G part i R.1 R.2 =⟨part,i,R.1,R.2⟩:=by unfold lU;rw[aF ⟨h2,h3⟩]
 rw[hfa]at hx;simp only[go_sem,hcp,aG h3,hR];refine ay (i+1,⟨part,i,R.1,R.2⟩) ⟨show i+1<=res.length by omega,hx,by rw[aF h3];rw[<-hy],λq=>absurd q h3⟩ (by show res.length-(i+1)+_<res.length-i+_;rw[aF h3,ax (λq=>q h2)];omega) (Wk.le ?_ ?_)
 .intro p hp;simp only[bp,bZ,or_false]at hp;rcases hp with rfl|rfl|rfl|rfl|rfl
  all_goals
   simp only[go_sem,e8]
   try simp
 .intro p hp;rcases bp.1 hp with rfl|hp
  .simp only[go_sem]
  .show(if 1000=p.1 then _ else ae (ny (E (i+1)++X) 1000) p.1)=_;rw[ax (hn1000 (i+1) p hp),ym (hn1000 (i+1) p hp)];exact m3 (hE.g (i+1) p hp)
end
section
attribute[local go_sem] bP aU cC bT rO dt bH
def QX(op:Int):ah pg zH [.int .i64 op] (.int .i64 (ss op)):=by
 refine au c_ ?_;unfold ss;by_cases h1:op=106
 .subst h1;simp only[go_sem,c_];exact an
 by_cases h2:op=107
 .subst h2;simp only[go_sem,c_];exact an
 by_cases h3:op=108
 .subst h3;simp only[go_sem,c_];exact an
 rw[ax (by omega)];by_cases h4:op=124
 .subst h4;simp only[go_sem,c_];exact an
 by_cases h5:op=125
 .subst h5;simp only[go_sem,c_];exact an
 by_cases h6:op=126
 .subst h6;simp only[go_sem,c_];exact an
 rw[ax (by omega)];simp only[go_sem,c_,ab h1,ab h2,ab h3,ab h4,ab h5,ab h6];exact an
def ZJ(s:Sp)(x:a_)(gl:Int):ah pg Ci [qZ s,kD x,.int .i64 gl] (.tup [.int .i64 (rQ s x gl).1,.int .i64 (rQ s x gl).2]):=by
 refine au cK ?_;have cf:=BO s;have cd:=BM s x.a;have cg:=DL s x.a;simp only[bc,aD,rO]at cf cd cg;obtain⟨T,hT⟩:∃T,rQ s x gl=T:=⟨_,rfl⟩
 rw[hT];unfold rQ at hT;by_cases h1:x.op=65
 .rw[aF h1]at hT;subst hT;simp only[go_sem,cK,bc,aD,aK h1];exact an
 rw[ax h1]at hT;by_cases h2:x.op=66
 .rw[aF h2]at hT;subst hT;simp only[go_sem,cK,bc,aD,ab h1,aK h2];exact an
 rw[ax h2]at hT;by_cases h3:x.op=208
 .rw[aF h3]at hT;subst hT;simp only[go_sem,cK,bc,aD,ab h1,ab h2,aK h3];exact an
 rw[ax h3]at hT;by_cases h4:x.op=210
 .rw[aF h4]at hT;by_cases g1:x.a<0
  .rw[aF (.inl g1)]at hT;subst hT;simp only[go_sem,cK,bc,aD,ab h1,ab h2,ab h3,aK h4,aw g1];exact an
  simp only[go_sem,cK,bc,aD,ab h1,ab h2,ab h3,aK h4,aC g1];refine aL cf (by simp[go_sem]) rfl ?_;by_cases g2:x.a>=s.fs.length
  .rw[aF (.inr g2)]at hT;subst hT;simp only[go_sem,aw g2];exact an
  rw[ax (by rintro(q|q);exact g1 q;exact g2 q)]at hT;simp only[go_sem,aC g2];refine ak (cd) ?_;cases hd:s.dec x.a
  .rw[aF hd]at hT;subst hT;simp only[go_sem];exact an
  .rw[ax (by rw[hd];decide)]at hT;subst hT;simp only[go_sem];exact an
 rw[ax h4]at hT;by_cases h5:x.op=35
 .rw[aF h5]at hT;generalize d9 s.gs x.a=q at cg hT;cases q with
  | none =>
   dsimp only at hT;subst hT;simp only[go_sem,cK,bc,aD,ab h1,ab h2,ab h3,ab h4,aK h5];refine ak (cg) ?_;simp only[go_sem,Option.isSome_none];exact an
  | some g =>
   dsimp only at hT;by_cases g2:x.a>=gl
   .rw[aF (.inl g2)]at hT;subst hT;simp only[go_sem,cK,bc,aD,ab h1,ab h2,ab h3,ab h4,aK h5];refine ak (cg) ?_;simp only[go_sem,Option.isSome_some,gb,aw g2];exact an
   cases g3:g.mu
   .rw[ax (by rintro(q|q);exact g2 q;rw[g3]at q;cases q)]at hT;subst hT;simp only[go_sem,cK,bc,aD,ab h1,ab h2,ab h3,ab h4,aK h5];refine ak (cg) ?_;simp only[go_sem,Option.isSome_some,gb,aC g2,g3];exact an
   .rw[aF (.inr g3)]at hT;subst hT;simp only[go_sem,cK,bc,aD,ab h1,ab h2,ab h3,ab h4,aK h5];refine ak (cg) ?_;simp only[go_sem,Option.isSome_some,gb,aC g2,g3];exact an
 rw[ax h5]at hT;subst hT;simp only[go_sem,cK,bc,aD,ab h1,ab h2,ab h3,ab h4,ab h5];exact an
def Le(l:List a_)(i:Nat)(k:List Int)(want:Int):Int×Int:=if i+1<l.length then(((i+1:Nat):Int),16)else match k with
   | []=>((i:Int),13)
   | a::k'=>if a≠want then((i:Int),12)else if k'≠[]then((i:Int),14)else(0,0)
def Kg{k:List Int}{p:Nat}(h:p<k.length):ap k.reverse (k.length-1-p)=ap k p:=by
 rw[aV (by simp;omega),aV h,List.getElem_reverse];congr 1;omega
def Kl{n:Nat}(h0:0<n)(h:n<1000000000):IntKind.i64.wrap ((n:Int)-1)=((n-1:Nat):Int):=by rw[wi (by omega) (by omega)];omega
def ZI(l:List a_)(i:Nat)(k:List Int)(want:Int)(hl:l.length<=1000000)(hi:i<l.length)(hk:k.length<=1000000):ah pg EC [.sl 9 (l.map bH),.int .i64 i,.sl 1 (k.reverse.map bg),.int .i64 want] (.tup [.int .i64 (Le l i k want).1,.int .i64 (Le l i k want).2]):=by
 refine au gP ?_;have w1:IntKind.i64.wrap ((i:Int)+1)=((i+1:Nat):Int):=by rw[wi (by omega) (by omega)];omega
 obtain⟨T,hT⟩:∃T,Le l i k want=T:=⟨_,rfl⟩
 rw[hT];unfold Le at hT;by_cases h1:((i+1:Nat):Int)<(l.length:Int)
 .rw[aF (by omega)]at hT;subst hT;simp only[go_sem,gP,w1,aw h1];exact an
 rw[ax (by omega)]at hT;cases k with
 | nil =>
  dsimp only at hT;subst hT;simp only[go_sem,gP,w1,aC h1,List.reverse_nil,show(((0:Nat):Int)==0)=true from rfl];exact an
 | cons a k' =>
  dsimp only at hT;have hr0:=Kg (k:=a::k') (p:=0) (by simp);have hl2:(a::k').reverse.length=k'.length+1:=by simp
  have hr:ap (a::k').reverse (k'.length+1-1)=a:=hr0;generalize (a::k').reverse=kr at hr hl2;obtain⟨n,hn⟩:∃n,k'.length+1=n:=⟨_,rfl⟩
  rw[hn]at hl2 hr;have hz:((n:Int)==0)=false:=ab (by omega);have hw:=Kl (n:=n) (by omega) (by simp only[j1]at hk;omega);by_cases h2:a=want;rotate_left
  .rw[aF h2]at hT;subst hT;simp only[go_sem,gP,w1,aC h1,hl2,hz,hw,cY,hr];refine⟨by omega,by omega,?_⟩;simp only[go_sem,aG h2];exact an
  rw[ax (λq=>q h2)]at hT;by_cases h3:(n:Int)>1
  .rw[aF (by intro q;rw[q]at hn;simp at hn;omega)]at hT;subst hT;simp only[go_sem,gP,w1,aC h1,hl2,hz,hw,cY,hr,ar h2,aw h3];refine⟨by omega,by omega,?_⟩;exact an
  .rw[ax (by intro q;apply q;exact VI (by omega))]at hT;subst hT;simp only[go_sem,gP,w1,aC h1,hl2,hz,hw,cY,hr,ar h2,aC h3];refine⟨by omega,by omega,?_⟩;exact an
def Xl(s:Sp)(want gl:Int){l:List a_}{j:Nat}(h:j<l.length)(k:List Int):wN s want gl j (l.drop j) k =
  if ss (ap l j).op≠0 then(match k with
   | a::b::k'=>if a≠ss (ap l j).op\/b≠ss (ap l j).op then((j:Int),12)else wN s want gl (j+1) (l.drop (j+1)) (b::k')
   | [a]=>if a≠ss (ap l j).op then((j:Int),12)else((j:Int),13)
   | []=>((j:Int),13))else
  if(ap l j).op=11 then Le l j k want else
  if(rQ s (ap l j) gl).2≠0 then((j:Int),(rQ s (ap l j) gl).2)else wN s want gl (j+1) (l.drop (j+1)) ((rQ s (ap l j) gl).1::k):=by
 have he:(l.drop (j+1)≠[])↔j+1<l.length:=by
  rw[Ne,List.drop_eq_nil_iff];omega
 rw[cH h,wN.eq_def];dsimp only;unfold Le;by_cases h1:j+1<l.length
 .simp only[he.2 h1,h1,dP,ne_eq,not_false_eq_true];rcases k with _|⟨a,_|⟨b,k'⟩⟩<;>rfl
 .have:l.drop (j+1)=[]:=MN (by omega);rw[this];simp only[h1,ne_eq,not_true_eq_false,fS];rcases k with _|⟨a,_|⟨b,k'⟩⟩<;>rfl
def QR(s:Sp)(l:List a_)(want gl:Int)(hl:l.length<=1000000):ah pg Bi [qZ s,.sl 9 (l.map bH),.int .i64 want,.int .i64 gl] (.tup [.int .i64 (wN s want gl 0 l []).1,.int .i64 (wN s want gl 0 l []).2]):=by
 refine au rd ?_;obtain⟨T,hT⟩:∃T,wN s want gl 0 l []=T:=⟨_,rfl⟩
 rw[hT];simp only[go_sem,rd,bc,aD];refine ao (λq:Nat×List Int=>⟨[(22,.int .i64 q.1),(21,.int .i64 l.length),(20,.sl 9 (l.map bH)),(10,.ms 900 1 0 q.2.length),(3,.int .i64 gl),(2,.int .i64 want),(1,.sl 9 (l.map bH)),(0,qZ s)],[(900,⟨71,1,q.2.reverse.map bg,false⟩)]⟩)
  (λq=>q.1<=l.length/\q.2.length<=q.1/\wN s want gl q.1 (l.drop q.1) q.2=T) (λq=>l.length-q.1) (0,[]) ⟨cR _,aN _,hT⟩ ((Wk.nil _ 10 900 1 71 (by simp only[go_sem]) (by decide)).trans (Wk.of ?_ ?_)) ?_
 .simp only[go_sem,St.mknil,bc,aD];try simp
 .simp only[go_sem,St.mknil];try rfl
 rintro⟨j,k⟩ ⟨hj,hk,hx⟩;dsimp only at hj hk hx;by_cases h1:(j:Int)<(l.length:Int);rotate_left
 .have hje:j=l.length:=by omega
  rw[hje,cu (aN _)]at hx;simp only[wN]at hx;subst hx;simp only[go_sem,aC h1,bc,aD];exact an
 have hj':j<l.length:=by omega
 have e8:=cA hj' (by omega);have cn:=QX (ap l j).op;have cl:=ZJ s (ap l j) gl;have ce:=ZI l j k want hl hj' (by omega);rw[Xl s want gl hj']at hx;simp only[bc,aD,dt]at cl;generalize hX:ap l j=X at cn cl hx;generalize ss X.op=t at cn hx;by_cases h2:t=0;rotate_left
 .rw[aF h2]at hx;simp only[go_sem,aw h1,bc,aD,hX];refine⟨by omega,h1,?_⟩;refine ak (cn) ?_;simp only[go_sem,aG h2];refine ao (λp:Nat=>⟨[(32,.int .i64 p),(13,.int .i64 t),(11,.int .i64 j),(22,.int .i64 j),(21,.int .i64 l.length),(20,.sl 9 (l.map bH)),(10,.ms 900 1 0 k.length),(3,.int .i64 gl),(2,.int .i64 want),(1,.sl 9 (l.map bH)),(0,qZ s)],[(900,⟨71,1,k.reverse.map bg,false⟩)]⟩)
   (λp=>p<=2/\(1<=p->∃r,k=t::r)/\(2<=p->∃r,k=t::t::r)) (λp=>2-p) 0 ⟨by omega,(λh=>by omega),(λh=>by omega)⟩ (Wk.of ?_ ?_) ?_
  .simp only[go_sem,bc,aD];try simp
  .simp only[go_sem];try rfl
  intro p hh;obtain⟨hp,hp1,hp2⟩:p<=2/\(1<=p->∃r,k=t::r)/\(2<=p->∃r,k=t::t::r):=hh;by_cases h3:(p:Int)<2
  .have w1:IntKind.i64.wrap ((k.length:Int)-1)=(k.length:Int)-1:=wi (by omega) (by omega);have w2:IntKind.i64.wrap ((k.length:Int)-1-p)=(k.length:Int)-1-p:=wi (by omega) (by omega);have e9:IntKind.i64.wrap ((p:Int)+1)=((p+1:Nat):Int):=by rw[wi (by omega) (by omega)];omega
   by_cases h4:(k.length:Int)-1-p<0
   .have hT2:T=((j:Int),13):=by
     rw[<-hx];cases k with
     | nil=>rfl
     | cons a r =>
      cases r with
      | nil =>
       have hp':1<=p:=by simp at h4;omega
       obtain⟨r',hr'⟩:=hp1 hp';cases hr';simp
      | cons b r=>simp at h4;omega
    subst hT2;simp only[go_sem,aw h3,w1,w2,aw h4];exact an
   have hpk:p<k.length:=by omega
   have w3:(k.length:Int)-1-p=((k.length-1-p:Nat):Int):=by omega
   have hn:=Kg hpk;have hkr:k.reverse.length=k.length:=List.length_reverse;simp only[go_sem,aw h3,w1,w2,aC h4];rw[w3];simp only[go_sem,cY,ga,hn];by_cases h5:ap k p=t;rotate_left
   .have hT2:T=((j:Int),12):=by
     rw[<-hx];cases k with
     | nil=>simp at hpk
     | cons a r =>
      cases r with
      | nil =>
       have:p=0:=by simp at hpk;omega
       subst this;have h5:¬a=t:=h5;simp[h5]
      | cons b r =>
       rcases(show p=0\/p=1 by omega)with rfl|rfl
       .have h5:¬a=t:=h5;simp[h5]
       .have h5:¬b=t:=h5;simp[h5]
    subst hT2;simp only[go_sem,aG h5];refine⟨by omega,by omega,?_⟩;exact an
   simp only[go_sem,ar h5,e9];refine⟨by omega,by omega,?_⟩;refine ay (p+1) ⟨show p+1<=2 by omega,λ_=>?_,λh6=>?_⟩ (show 2-(p+1)<2-p by omega) (Wk.of ?_ ?_)
   .by_cases hp0:p=0
    .subst hp0;cases k with
     | nil=>simp at hpk
     | cons a r=>exact⟨r,by rw[show a=t from h5]⟩
    .exact hp1 (by omega)
   .have hp0:p=1:=by omega
    subst hp0;obtain⟨r,hr⟩:=hp1 (by omega);subst hr;cases r with
    | nil=>simp at hpk
    | cons b r=>exact⟨r,by rw[show b=t from h5]⟩
   .simp only[go_sem,bc,aD];try simp
   .simp only[go_sem];try rfl
  have hpe:p=2:=by omega
  obtain⟨r,hr⟩:=hp2 (by omega);subst hr;have hx:wN s want gl (j+1) (l.drop (j+1)) (t::r)=T:=by
   rw[<-hx];simp
  have htk:List.take (r.length+1) ((t::t::r).reverse.map bg)=(t::r).reverse.map bg:=by
   rw[List.reverse_cons,dW,List.take_append_of_le_length (by simp),gN (by simp)]
  have hw:=Kl (n:=r.length+1+1) (by omega) (by simp only[j1]at hk;omega);simp only[go_sem,aC h3,hw,cY,ga];refine⟨⟨by omega,by omega⟩,?_⟩;refine ay (j+1,t::r) ⟨show j+1<=l.length by omega,show r.length+1<=j+1 by simp only[j1]at hk;omega,hx⟩ (show l.length-(j+1)<l.length-j by omega) ((Wk.trunc _ 900 (r.length+1) (by rfl)).trans (Wk.of ?_ ?_))
  .simp only[go_sem,e8,bc,aD];try simp
  .simp only[go_sem,htk];try rfl
 rw[ax (λq=>q h2)]at hx;simp only[go_sem,aw h1,bc,aD,hX];refine⟨by omega,h1,?_⟩;refine ak (cn) ?_;by_cases h3:X.op=11
 .rw[aF h3]at hx;subst hx;simp only[go_sem,ar h2,aK h3];refine bA (eZ.frzs [900] _ _) ?_;simp only[go_sem,show k.length=(k.reverse).length from List.length_reverse.symm,aN,lD,oK,ga];refine aa (ce) ?_;exact ac
 rw[ax h3]at hx;generalize rQ s X gl=R at cl hx;obtain⟨v,e⟩:=R;dsimp only at cl hx;by_cases h4:e=0;rotate_left
 .rw[aF h4]at hx;subst hx;simp only[go_sem,ar h2,ab h3];refine ak (cl) ?_;simp only[go_sem,aG h4];exact an
 rw[ax (λq=>q h4)]at hx;have ha:=bR 900 71 1 k.length bg k.reverse [[.int .i64 v]] List.length_reverse;simp only[go_sem,ar h2,ab h3];refine ak (cl) ?_;simp only[go_sem,ar h4,ha,sB];refine⟨by omega,?_⟩;refine ay (j+1,v::k) ⟨show j+1<=l.length by omega,show k.length+1<=j+1 by omega,hx⟩ (show l.length-(j+1)<l.length-j by omega) (Wk.of ?_ ?_)
 .simp only[go_sem,e8,bc,aD];try simp
 .simp only[go_sem];try simp[bg]
end
section
def Gh:(default:Ft).ps=[]:=rfl
def Gi:(default:Ft).rs=[]:=rfl
def FV:∀l:List AV,aR nla l l
 | []=>trivial
 | _::l=>⟨.inl rfl,FV l⟩
def eZ.nil1(s:St)(l:List AV):eZ s (.nl::l) s (.sl 1 []::l):=eZ.nla ⟨.inr (.inl ⟨rfl,1,rfl⟩),FV l⟩
def eZ.nil2(s:St)(x:AV):eZ s [x,.nl] s [x,.sl 1 []]:=eZ.nla ⟨.inl rfl,.inr (.inl ⟨rfl,1,rfl⟩),trivial⟩
attribute[local go_sem] bP aU cC bT rO dt Gh Gi
def Kr(b:Bool)(x y:Int):ah pg EL [.bool b,.int .i64 x,.int .i64 y] (.int .i64 (yc b x y)):=by
 refine au md ?_;unfold yc;cases b
 .simp only[go_sem,md];exact an
 by_cases h:x=y
 .rw[ax (by decide),ax (λq=>q h)];simp only[go_sem,md,ar h];exact an
 .rw[ax (by decide),aF h];simp only[go_sem,md,aG h];exact an
def Fo(t:Int):ah pg IJ [.int .i64 t] (.bool (Ht t)):=by
 refine au uU ?_;unfold Ht;by_cases h:t=3
 .subst h;simp only[go_sem,uU];exact an
 .rw[ab h,x7];simp only[go_sem,uU,ab h];exact ac
def ab3(e:Int)(bl:Nat->Option Nat)(M:Nat->Prop)(w:World)(v:Value)(h:aY bl M w v (.tup [.agg [.nl,.nl],.int .i64 e])):aY bl M w v (.tup [.agg [.sl 1 [],.sl 1 []],.int .i64 e]):=by
 obtain⟨cs,rfl,h⟩:=h;refine⟨cs,rfl,?_⟩
 match cs,h with
 | [c,d],⟨h1,h2,_⟩=>exact⟨EX (bl:=bl) (M:=M) (w:=w) (v:=c) (x:=.agg [.nl,.nl]) (y:=.agg [.sl 1 [],.sl 1 []]) (.inr (.inr ⟨_,_,rfl,rfl,.inr ⟨rfl,1,rfl⟩,.inr ⟨rfl,1,rfl⟩,trivial⟩)) h1,h2,trivial⟩
def jY(e:Int):ah pg EQ [.int .i64 e] (.tup [.agg [.sl 1 [],.sl 1 []],.int .i64 e]):=by
 refine mS (r:=.tup [.agg [.nl,.nl],.int .i64 e]) ?_ (ab3 e) rfl;refine au wG ?_;simp only[go_sem,wG];exact ac
def nW(p r:List (List AV)):ah pg LT [.sl 1 p,.sl 1 r] (.tup [.agg [.sl 1 p,.sl 1 r],.int .i64 0]):=by
 refine au CX ?_;simp only[go_sem,CX];exact ac
def B0(s:Sp):Prop:=∀x∈s.ts,x.ps.length<=1000000/\x.rs.length<=1000000
def CO(r:Ft×Int):AV:=.tup [.agg (kz r.1),.int .i64 r.2]
def fnA(s:Sp)(x:a_):Ft×Int:=match s.fn x.a with
  | none=>(default,11)
  | some f=>if x.op=16 then(f,0)else if s.dec x.a=false then(default,22)else(⟨[],[3]⟩,0)
def HA(s:Sp)(x:a_)(h:B0 s):ah pg zP [qZ s,kD x] (CO (fnA s x)):=by
 refine au fJ ?_;have c1:=QK s x.a h;have c2:=BM s x.a;have w1:=jY 11;have w2:=jY 22;have w3:=nW [] [bg 3];unfold fnA CO;generalize s.fn x.a=q at c1⊢;cases q with
 | none =>
  simp only[bc,aD,aU]at c1;simp only[go_sem,fJ,bc,aD];refine ak (c1) ?_;simp only[go_sem,Option.isSome_none];refine aa (w1) ?_;exact ac
 | some f =>
  simp only[bc,aD,aU,gb]at c1;by_cases h1:x.op=16
  .simp only[go_sem,fJ,bc,aD];refine ak (c1) ?_;simp only[go_sem,Option.isSome_some,aK h1,aF h1];exact ac
  cases h2:s.dec x.a
  .rw[h2]at c2;simp only[bc,aD,aU]at c2;simp only[go_sem,fJ,bc,aD];refine ak (c1) ?_;simp only[go_sem,Option.isSome_some,ab h1,ax h1];refine aa (c2) ?_;refine aa (w2) ?_;exact ac
  .rw[h2]at c2;simp only[bc,aD,aU]at c2;simp only[go_sem,fJ,bc,aD];refine ak (c1) ?_;simp only[go_sem,Option.isSome_some,ab h1,ax h1];refine aa (c2) ?_;refine bA ((eZ.nil1 _ _).trans (eZ.frzs [35] _ _)) ?_;simp only[go_sem];refine aa (w3) ?_;exact ac
def lcA(lo:List Int)(x:a_):Ft×Int:=if x.a>=lo.length then(default,11)else
  if x.op=32 then(⟨[],[ap lo x.a.toNat]⟩,0)else if x.op=33 then(⟨[ap lo x.a.toNat],[]⟩,0)else(⟨[ap lo x.a.toNat],[ap lo x.a.toNat]⟩,0)
def Q2(lo:List Int)(x:a_)(h0:0<=x.a)(h:lo.length<=9000000):ah pg EM [.sl 1 (lo.map bg),kD x] (CO (lcA lo x)):=by
 refine au pB ?_;have w1:=jY 11;unfold lcA CO;by_cases h1:x.a>=lo.length
 .rw[aF h1];simp only[go_sem,pB,aw h1];refine aa (w1) ?_;exact ac
 obtain⟨n,hn⟩:∃n:Nat,x.a=(n:Int):=⟨x.a.toNat,by omega⟩
 have hn':n<lo.length:=by omega
 rw[ax h1,hn,cY];have h1':¬((n:Int)>=lo.length):=by omega
 have w2:=nW [] [bg (ap lo n)];have w3:=nW [bg (ap lo n)] [];have w4:=nW [bg (ap lo n)] [bg (ap lo n)];simp only[go_sem,pB,hn,aC h1',cY,ga];refine⟨by omega,?_⟩;by_cases h2:x.op=32
 .rw[aF h2];simp only[go_sem,aK h2];refine⟨by omega,?_⟩;refine bA ((eZ.nil1 _ _).trans (eZ.frzs [25] _ _)) ?_;simp only[go_sem];refine aa (w2) ?_;exact ac
 by_cases h3:x.op=33
 .rw[ax h2,aF h3];simp only[go_sem,ab h2,aK h3];refine⟨by omega,?_⟩;refine bA ((eZ.nil2 _ _).trans (eZ.frzs [32] _ _)) ?_;simp only[go_sem];refine aa (w3) ?_;exact ac
 .rw[ax h2,ax h3];simp only[go_sem,ab h2,ab h3];refine⟨by omega,?_⟩;refine bA (eZ.frzs [37,39] _ _) ?_;simp only[go_sem];refine aa (w4) ?_;exact ac
def glA(s:Sp)(x:a_):Ft×Int:=match d9 s.gs x.a with
  | none=>(default,11)
  | some g=>if x.op=35 then(⟨[],[g.v]⟩,0)else if g.mu=false then(default,18)else(⟨[g.v],[]⟩,0)
def Ms(s:Sp)(x:a_):ah pg Cz [qZ s,kD x] (CO (glA s x)):=by
 refine au iF ?_;have c1:=DL s x.a;have w1:=jY 11;have w2:=jY 18;unfold glA CO;generalize d9 s.gs x.a=q at c1⊢;cases q with
 | none =>
  simp only[bc,aD,rO]at c1;simp only[go_sem,iF,bc,aD];refine ak (c1) ?_;simp only[go_sem,Option.isSome_none];refine aa (w1) ?_;exact ac
 | some g =>
  simp only[bc,aD,rO,gb]at c1;have w3:=nW [] [bg g.v];have w4:=nW [bg g.v] [];by_cases h1:x.op=35
  .simp only[go_sem,iF,bc,aD];refine ak (c1) ?_;simp only[go_sem,Option.isSome_some,aK h1,aF h1];refine bA ((eZ.nil1 _ _).trans (eZ.frzs [27] _ _)) ?_;simp only[go_sem];refine aa (w3) ?_;exact ac
  cases h2:g.mu
  .simp only[go_sem,iF,bc,aD];refine ak (c1) ?_;simp only[go_sem,Option.isSome_some,ab h1,ax h1,h2];refine aa (w2) ?_;exact ac
  .simp only[go_sem,iF,bc,aD];refine ak (c1) ?_;simp only[go_sem,Option.isSome_some,ab h1,ax h1,h2];refine bA ((eZ.nil2 _ _).trans (eZ.frzs [40] _ _)) ?_;simp only[go_sem];refine aa (w4) ?_;exact ac
def tbA(s:Sp)(x:a_):Ft×Int:=match d9 s.tb x.a with
  | none=>(default,11)
  | some t=>if x.op=37 then(⟨[1],[t.e]⟩,0)else if x.op=38 then(⟨[1,t.e],[]⟩,0)else if x.op=64527 then(⟨[t.e,1],[1]⟩,0)else if x.op=64529 then(⟨[1,t.e,1],[]⟩,0)else(⟨[],[1]⟩,0)
def Mu(s:Sp)(x:a_):ah pg CA [qZ s,kD x] (CO (tbA s x)):=by
 refine au n6 ?_;have c1:=sF s x.a;have w1:=jY 11;unfold tbA CO;generalize d9 s.tb x.a=q at c1⊢;cases q with
 | none =>
  simp only[bc,aD,bT]at c1;simp only[go_sem,n6,bc,aD];refine ak (c1) ?_;simp only[go_sem,Option.isSome_none];refine aa (w1) ?_;exact ac
 | some t =>
  simp only[bc,aD,bT,gb]at c1;simp only[go_sem,n6,bc,aD];refine ak (c1) ?_;simp only[go_sem,Option.isSome_some];by_cases h0:x.op=37
  .have w3:=nW [bg 1] [bg t.e];rw[aF h0];simp only[go_sem,aK h0];refine bA (eZ.frzs [24,27] _ _) ?_;simp only[go_sem];refine aa (w3) ?_;exact ac
  by_cases h1:x.op=38
  .have w3:=nW [bg 1,bg t.e] [];rw[ax h0,aF h1];simp only[go_sem,ab h0,aK h1];refine bA ((eZ.nil2 _ _).trans (eZ.frzs [35] _ _)) ?_;simp only[go_sem];refine aa (w3) ?_;exact ac
  by_cases h2:x.op=64527
  .have w3:=nW [bg t.e,bg 1] [bg 1];rw[ax h0,ax h1,aF h2];simp only[go_sem,ab h0,ab h1,aK h2];refine bA (eZ.frzs [43,44] _ _) ?_;simp only[go_sem];refine aa (w3) ?_;exact ac
  by_cases h3:x.op=64529
  .have w3:=nW [bg 1,bg t.e,bg 1] [];rw[ax h0,ax h1,ax h2,aF h3];simp only[go_sem,ab h0,ab h1,ab h2,aK h3];refine bA ((eZ.nil2 _ _).trans (eZ.frzs [52] _ _)) ?_;simp only[go_sem];refine aa (w3) ?_;exact ac
  have w3:=nW [] [bg 1];rw[ax h0,ax h1,ax h2,ax h3];simp only[go_sem,ab h0,ab h1,ab h2,ab h3];refine bA ((eZ.nil1 _ _).trans (eZ.frzs [56] _ _)) ?_;simp only[go_sem];refine aa (w3) ?_;exact ac
def Mv(s:Sp)(x:a_):ah pg CB [qZ s,kD x] (.int .i64 (pX s x)):=by
 refine au cU ?_;have co:=QY x.op;have ca:=QM x.op;have ta:=sF s x.a;have tb:=sF s x.b;have ea:=Vi s x.a;have ma:=Q5 s x.a;have mb:=Q5 s x.b;have cd:=QV s;have c1:=Kr ((d9 s.tb x.a).isSome&&(d9 s.tb x.b).isSome) ((d9 s.tb x.a).getD default).e ((d9 s.tb x.b).getD default).e;have c2:=Kr ((d9 s.el x.a).isSome&&(d9 s.tb x.b).isSome) ((d9 s.el x.a).getD 0) ((d9 s.tb x.b).getD default).e;unfold pX;generalize oS (mD x.op)=wi at ca⊢;generalize gF x.op=im at co⊢;generalize yc ((d9 s.tb x.a).isSome&&(d9 s.tb x.b).isSome) ((d9 s.tb x.a).getD default).e ((d9 s.tb x.b).getD default).e=k1 at c1⊢;generalize yc ((d9 s.el x.a).isSome&&(d9 s.tb x.b).isSome) ((d9 s.el x.a).getD 0) ((d9 s.tb x.b).getD default).e=k2 at c2⊢;generalize hbta:(d9 s.tb x.a).isSome=bta at*;generalize hbtb:(d9 s.tb x.b).isSome=btb at*;generalize hbea:(d9 s.el x.a).isSome=bea at*;generalize hbma:(d9 s.ms x.a).isSome=bma at*;generalize hbmb:(d9 s.ms x.b).isSome=bmb at*;generalize ((d9 s.tb x.a).getD default)=vta at*;generalize ((d9 s.tb x.b).getD default)=vtb at*;generalize ((d9 s.el x.a).getD 0)=vea at*;generalize ((d9 s.ms x.a).getD default)=vma at*;generalize ((d9 s.ms x.b).getD default)=vmb at*;simp only[bc,aD,bT,cC]at ta tb ea ma mb cd;by_cases q0:im=10
 .rw[aF q0];simp only[go_sem,cU,bc,aD];refine ak (co) ?_;simp only[go_sem,aK q0];refine aa (ta) ?_;refine ak (tb) ?_;cases bta
  .simp only[go_sem];refine aa (c1) ?_;exact ac
  .simp only[go_sem];refine aa (c1) ?_;exact ac
 by_cases q1:im=11
 .rw[ax q0,aF q1];simp only[go_sem,cU,bc,aD];refine ak (co) ?_;simp only[go_sem,ab q0,aK q1];refine aa (ea) ?_;refine ak (tb) ?_;cases bea
  .simp only[go_sem];refine aa (c2) ?_;exact ac
  .simp only[go_sem];refine aa (c2) ?_;exact ac
 by_cases q2:im=12
 .rw[ax q0,ax q1,aF q2];simp only[go_sem,cU,bc,aD];refine ak (co) ?_;simp only[go_sem,ab q0,ab q1,aK q2];refine ak (ea) ?_;cases bea
  .simp only[go_sem];exact aE [] (by simp only[go_sem,pp]) (by first|rfl|simp[go_sem,bv])
  .simp only[go_sem];exact aE [] (by simp only[go_sem,pp]) (by first|rfl|simp[go_sem,bv])
 by_cases q3:im=16
 .rw[ax q0,ax q1,ax q2,aF q3];simp only[go_sem,cU,bc,aD];refine ak (co) ?_;simp only[go_sem,ab q0,ab q1,ab q2,aK q3];refine aL cd (by simp[go_sem]) rfl ?_;cases hq:decide (x.a<s.ds)
  .simp only[go_sem,hq];exact aE [] (by simp only[go_sem,pp]) (by first|rfl|simp[go_sem,bv])
  .simp only[go_sem,hq];exact aE [] (by simp only[go_sem,pp]) (by first|rfl|simp[go_sem,bv])
 by_cases q4:im=15
 .rw[ax q0,ax q1,ax q2,ax q3,aF q4];simp only[go_sem,cU,bc,aD];refine ak (co) ?_;simp only[go_sem,ab q0,ab q1,ab q2,ab q3,aK q4];refine ak (mb) ?_;cases bmb
  .simp only[go_sem];exact aE [] (by simp only[go_sem,pp,gX]) (by first|rfl|simp[go_sem,bv])
  .simp only[go_sem];refine aL cd (by simp[go_sem]) rfl ?_;cases hq:decide (x.a<s.ds)
   .simp only[go_sem,hq];exact aE [] (by simp only[go_sem,pp,gp,jr,fS]) (by first|rfl|simp[go_sem,bv])
   .simp only[go_sem,hq];exact aE [] (by simp only[go_sem,pp,gp,dP]) (by first|rfl|simp[go_sem,bv])
 by_cases q5:im=14
 .rw[ax q0,ax q1,ax q2,ax q3,ax q4,aF q5];simp only[go_sem,cU,bc,aD];refine ak (co) ?_;simp only[go_sem,ab q0,ab q1,ab q2,ab q3,ab q4,aK q5];refine ak (ma) ?_;cases bma
  .simp only[go_sem];exact ac
  .simp only[go_sem];refine ak (mb) ?_;cases bmb
   .simp only[go_sem];exact aE [] (by simp only[go_sem,pp]) (by first|rfl|simp[go_sem,bv])
   .simp only[go_sem];exact aE [] (by simp only[go_sem,pp]) (by first|rfl|simp[go_sem,bv])
 by_cases q6:im=13
 .rw[ax q0,ax q1,ax q2,ax q3,ax q4,ax q5,aF q6];simp only[go_sem,cU,bc,aD];refine ak (co) ?_;simp only[go_sem,ab q0,ab q1,ab q2,ab q3,ab q4,ab q5,aK q6];refine ak (mb) ?_;cases bmb
  .simp only[go_sem];exact aE [] (by simp only[go_sem,pp]) (by first|rfl|simp[go_sem,bv])
  .simp only[go_sem];exact aE [] (by simp only[go_sem,pp]) (by first|rfl|simp[go_sem,bv])
 by_cases q7:im=17
 .rw[ax q0,ax q1,ax q2,ax q3,ax q4,ax q5,ax q6,aF q7];simp only[go_sem,cU,bc,aD];refine ak (co) ?_;simp only[go_sem,ab q0,ab q1,ab q2,ab q3,ab q4,ab q5,ab q6,aK q7];refine ak (mb) ?_;cases bmb
  .simp only[go_sem];refine aa (mb) ?_;exact aE [] (by simp only[go_sem,pp,false_and,fS]) (by first|rfl|simp[go_sem,bv])
  .simp only[go_sem];refine aL ca (by simp[go_sem]) rfl ?_;cases hq:decide (x.a>wi)
   .have hq':¬x.a>wi:=of_decide_eq_false hq;simp only[go_sem,hq];refine aa (mb) ?_;exact aE [] (by simp only[go_sem,pp,true_and,ax hq']) (by first|rfl|simp[go_sem,bv])
   .have hq':x.a>wi:=of_decide_eq_true hq;simp only[go_sem,hq];exact aE [] (by simp only[go_sem,pp,true_and,aF hq']) (by first|rfl|simp[go_sem,bv])
 rw[ax q0,ax q1,ax q2,ax q3,ax q4,ax q5,ax q6,ax q7];simp only[go_sem,cU,bc,aD];refine ak (co) ?_;simp only[go_sem,ab q0,ab q1,ab q2,ab q3,ab q4,ab q5,ab q6,ab q7];exact ac
end
section
def inA(s:Sp)(x:a_):Ft×Int:=match s.ty x.a,d9 s.tb x.b with
  | some f,some t=>if t.e≠3 then(default,12)else(⟨f.ps++[1],f.rs⟩,0)
  | _,_=>(default,11)
attribute[local go_sem] bP aU cC bT rO dt Gh Gi
def HB(s:Sp)(x:a_)(h:B0 s):ah pg zQ [qZ s,kD x] (CO (inA s x)):=by
 refine vD (ic:=iI 41 lr.body) nR (cF lr) rfl rfl ?_;have c1:=U8 s x.a h;have c2:=sF s x.b;have w1:=jY 11;have w2:=jY 12;have hb:=Vz h x.a;unfold inA CO;generalize s.ty x.a=q at c1 hb⊢;generalize d9 s.tb x.b=r at c2⊢;simp only[bc,aD,bT]at c1 c2;simp only[go_sem,lr,bc,aD];refine gz c1 [905] (λp hp=>by cases hp) ?_ (λp hp=>by cases hp) ?_
 .intro p hp;simp only[eF]at hp;subst hp;exact .inr ⟨by simp,.inl (show 905<1000 by decide),.inr (by rfl)⟩
 simp only[go_sem];refine ak (c2) ?_;cases q with
 | none =>
  simp only[go_sem,Option.isSome_none];refine aa (w1) ?_;exact ac
 | some f =>
  simp only[gb]at hb;cases r with
  | none =>
   simp only[go_sem,Option.isSome_none,Option.isSome_some];refine aa (w1) ?_;exact ac
  | some t =>
   simp only[gb];by_cases q1:t.e=3
   .rw[ax (λz=>z q1)];have w3:=nW ((f.ps++[1]).map bg) (f.rs.map bg);simp only[go_sem,Option.isSome_some,gb,ar q1];have ha:=bR 905 71 1 f.ps.length bg f.ps [[.int .i64 1]] rfl;simp only[go_sem,ha,sB]
    repeat' (first|refine⟨by omega,?_⟩|refine And.intro ?_ ?_)
    all_goals
     refine bA (eZ.frzs [905] _ _) ?_;have et:(f.ps.map bg++[[AV.int .i64 1]]).take (f.ps.length+1)=(f.ps++[1]).map bg:=by
      rw[gN (by simp)];simp[bg]
     simp only[go_sem,aN,oK,ga,ej,j1,iN,et];refine aa (w3) ?_;exact ac
   .rw[aF q1];simp only[go_sem,Option.isSome_some,gb,aG q1];refine aa (w2) ?_;exact ac
end
section
def HK(s:Sp)(lo:List Int)(x:a_):oD s lo x=if gF x.op=4 then fnA s x else if gF x.op=5 then inA s x else
 if gF x.op=6 then(⟨[ap x.ty 0,ap x.ty 0,1],[ap x.ty 0]⟩,0)else if gF x.op=7 then lcA lo x else if gF x.op=8 then glA s x else if gF x.op=9 then tbA s x else
 if gF x.op=20 then(⟨[],[x.a]⟩,0)else if pX s x≠0 then(default,pX s x)else(⟨(vL x.op).1,(vL x.op).2.1⟩,0):=rfl
def aez(p q:List Int):DM p q = .agg [.sl 1 (p.map bg),.sl 1 (q.map bg)]:=rfl
attribute[local go_sem] bP aU cC bT rO dt Gh Gi
def Q3(s:Sp)(lo:List Int)(x:a_)(h:B0 s)(hx:I4 x)(ha:0<=x.a)(hl:lo.length<=9000000)(ht:gF x.op=6->0<x.ty.length):ah pg EP [qZ s,.sl 1 (lo.map bg),kD x] (CO (oD s lo x)):=by
 refine au dC ?_;have co:=QY x.op;have c4:=HA s x h;have c5:=HB s x h;have c7:=Q2 lo x ha hl;have c8:=Ms s x;have c9:=Mu s x;have cT:=Mv s x;have w6:=nW [bg (ap x.ty 0),bg (ap x.ty 0),bg 1] [bg (ap x.ty 0)];have w20:=nW [] [bg x.a];have cs:=ZM x.op;rw[HK];generalize gF x.op=im at co ht⊢;generalize fnA s x=y4 at c4⊢;generalize inA s x=y5 at c5⊢;generalize lcA lo x=y7 at c7⊢;generalize glA s x=y8 at c8⊢;generalize tbA s x=y9 at c9⊢;generalize pX s x=yT at cT⊢;have wT:=jY yT;simp only[CO,bc,aD,dt,aU,aez]at c4 c5 c7 c8 c9 cT cs;by_cases q4:im=4
 .rw[aF q4];simp only[go_sem,dC,CO,bc,aD];refine ak (co) ?_;simp only[go_sem,aK q4];refine aa (c4) ?_;exact ac
 by_cases q5:im=5
 .rw[ax q4,aF q5];simp only[go_sem,dC,CO,bc,aD];refine ak (co) ?_;simp only[go_sem,ab q4,aK q5];refine aa (c5) ?_;exact ac
 by_cases q6:im=6
 .rw[ax q4,ax q5,aF q6];have ht':=ht q6;simp only[go_sem,dC,CO,bc,aD];refine ak (co) ?_;simp only[go_sem,ab q4,ab q5,aK q6];refine⟨by omega,by omega,by omega,by omega,by omega,by omega,?_⟩;refine bA (eZ.frzs [38,43] _ _) ?_;simp only[go_sem];refine aa (w6) ?_;exact ac
 by_cases q7:im=7
 .rw[ax q4,ax q5,ax q6,aF q7];simp only[go_sem,dC,CO,bc,aD];refine ak (co) ?_;simp only[go_sem,ab q4,ab q5,ab q6,aK q7];refine aa (c7) ?_;exact ac
 by_cases q8:im=8
 .rw[ax q4,ax q5,ax q6,ax q7,aF q8];simp only[go_sem,dC,CO,bc,aD];refine ak (co) ?_;simp only[go_sem,ab q4,ab q5,ab q6,ab q7,aK q8];refine aa (c8) ?_;exact ac
 by_cases q9:im=9
 .rw[ax q4,ax q5,ax q6,ax q7,ax q8,aF q9];simp only[go_sem,dC,CO,bc,aD];refine ak (co) ?_;simp only[go_sem,ab q4,ab q5,ab q6,ab q7,ab q8,aK q9];refine aa (c9) ?_;exact ac
 by_cases q20:im=20
 .rw[ax q4,ax q5,ax q6,ax q7,ax q8,ax q9,aF q20];simp only[go_sem,dC,CO,bc,aD];refine ak (co) ?_;simp only[go_sem,ab q4,ab q5,ab q6,ab q7,ab q8,ab q9,aK q20];refine bA ((eZ.nil1 _ _).trans (eZ.frzs [72] _ _)) ?_;simp only[go_sem];refine aa (w20) ?_;exact ac
 rw[ax q4,ax q5,ax q6,ax q7,ax q8,ax q9,ax q20];simp only[go_sem,dC,CO,bc,aD];refine ak (co) ?_;simp only[go_sem,ab q4,ab q5,ab q6,ab q7,ab q8,ab q9,ab q20];refine ak (cT) ?_;by_cases e:yT=0
 .rw[ax (λz=>z e)];simp only[go_sem,ar e];refine aa (cs) ?_;exact ac
 .rw[aF e];simp only[go_sem,aG e];refine aa (wT) ?_;exact ac
end
section
def LkC(f:FuncId)(rest:List AV)(m:Md)(s:Sp)(F:Fa)(r:AV):Prop:=aZ pg f (.mp 1000 17 0 0::rest) [(1000,fH m s F)] Ku (λr' σ'=>r'=r/\σ'=[(1000,fH m s F)])
def sQ:aj:=⟨167,1,[[.mp 1000 17 0 0]],true⟩
def Gw:sQ =⟨167,1,[[.mp 1000 17 0 0]],true⟩:=rfl
def kG{f:FuncId}{rest:List AV}{m:Md}{s:Sp}{F:Fa}{r:AV}(h:LkC f rest m s F r){args:List AV}{d:Option Nat}{w:St}{K:St->Prop}(ha:args = .mp 1000 17 0 0::rest)(h1:ae w.heap 1000=some (fH m s F))
  (hk:K ((St.mk w.env ((1000,fH m s F)::w.heap)).put d r)):cB pg f args d w K:=by
 subst ha;refine gz h [] (λp hp=>?_) (λp hp=>?_) (λp hp=>?_) hk
 .rw[eF.1 hp];exact h1
 .rw[eF.1 hp];exact .inl ⟨⟨show 1000<=1000 by decide,show 1000<2000 by decide⟩,rfl⟩
 .rw[eF.1 hp];rfl
attribute[local go_sem] bP zp bn bc aD aU bT Gw tU iD
def JW(m:Md)(s:Sp)(F:Fa)(k i:Int):LkC tF [.int .i64 k,.int .i64 i] m s F (.bool (vP s k i)):=by
 refine dj cE ?_;have c0:=BO s;have c1:=Mo s;have c2:=Ve s;have c3:=I1 s;simp only[bc,aD]at c0 c1 c2 c3;have hd:∀n:Int,(decide (0<=i)&&decide (i<n))=(decide (i>=0)&&decide (i<n)):=λ_=>rfl;unfold vP;by_cases h0:k=0
 .rw[aF h0,hd];simp only[go_sem,cE,aK h0];refine ak (c0) ?_;cases h:decide (i>=0)
  .simp only[go_sem,h];exact done [] _ [(1000,fH m s F)] (by simp only[go_sem,h,gX]) (by simp only[go_sem]) rfl ⟨rfl,rfl⟩
  .simp only[go_sem,h];exact done [] _ [(1000,fH m s F)] (by simp only[go_sem,h,gp]) (by simp only[go_sem]) rfl ⟨rfl,rfl⟩
 by_cases h1:k=1
 .rw[ax h0,aF h1,hd];simp only[go_sem,cE,ab h0,aK h1];refine ak (c1) ?_;cases h:decide (i>=0)
  .simp only[go_sem,h];exact done [] _ [(1000,fH m s F)] (by simp only[go_sem,h,gX]) (by simp only[go_sem]) rfl ⟨rfl,rfl⟩
  .simp only[go_sem,h];exact done [] _ [(1000,fH m s F)] (by simp only[go_sem,h,gp]) (by simp only[go_sem]) rfl ⟨rfl,rfl⟩
 by_cases h2:k=2
 .rw[ax h0,ax h1,aF h2,hd];simp only[go_sem,cE,ab h0,ab h1,aK h2];refine ak (c2) ?_;cases h:decide (i>=0)
  .simp only[go_sem,h];exact done [] _ [(1000,fH m s F)] (by simp only[go_sem,h,gX]) (by simp only[go_sem]) rfl ⟨rfl,rfl⟩
  .simp only[go_sem,h];exact done [] _ [(1000,fH m s F)] (by simp only[go_sem,h,gp]) (by simp only[go_sem]) rfl ⟨rfl,rfl⟩
 by_cases h3:k=3
 .rw[ax h0,ax h1,ax h2,aF h3,hd];simp only[go_sem,cE,ab h0,ab h1,ab h2,aK h3];refine ak (c3) ?_;cases h:decide (i>=0)
  .simp only[go_sem,h];exact done [] _ [(1000,fH m s F)] (by simp only[go_sem,h,gX]) (by simp only[go_sem]) rfl ⟨rfl,rfl⟩
  .simp only[go_sem,h];exact done [] _ [(1000,fH m s F)] (by simp only[go_sem,h,gp]) (by simp only[go_sem]) rfl ⟨rfl,rfl⟩
 rw[ax h0,ax h1,ax h2,ax h3,hd];by_cases g:i>=0
 .simp only[go_sem,cE,ab h0,ab h1,ab h2,ab h3,aw g];exact done [] _ [(1000,fH m s F)] (by simp only[go_sem,aw g,gp]) (by simp only[go_sem]) rfl ⟨rfl,rfl⟩
 .simp only[go_sem,cE,ab h0,ab h1,ab h2,ab h3,aC g];exact done [] _ [(1000,fH m s F)] (by simp only[go_sem,aC g,gX]) (by simp only[go_sem]) rfl ⟨rfl,rfl⟩
def JX(m:Md)(s:Sp)(F:Fa)(i:Int)(h:B0 s):LkC tG [.int .i64 i] m s F (.tup [.int .i64 (CS s i).1,.int .i64 (CS s i).2]):=by
 refine dj ir ?_;have c0:=Fm s i h;simp only[bc,aD,aU]at c0;unfold CS;cases hq:(s.ty i).isSome
 .rw[hq]at c0;rw[ax (by decide)];simp only[go_sem,ir];refine aa (c0) ?_;exact aM [] _ [(1000,fH m s F)] ⟨rfl,rfl⟩
 .rw[hq]at c0;rw[aF rfl];simp only[go_sem,ir];refine aa (c0) ?_;exact aM [] _ [(1000,fH m s F)] ⟨rfl,rfl⟩
def wZ(m:Md)(s:Sp)(F:Fa)(l:List a_)(want:Int)(hl:l.length<=1000000):LkC pO [.sl 9 (l.map bH),.int .i64 want] m s F (.tup [.int .i64 (jk s l want).1,.int .i64 (jk s l want).2]):=by
 refine dj jt ?_;have c0:=BN s 3;have c1:=QR s l want (oY 3 s.im) hl;simp only[bc,aD]at c0 c1;unfold jk;generalize wN s want (oY 3 s.im) 0 l []=R at c1⊢;simp only[go_sem,jt];refine aL c0 (by simp[go_sem]) rfl ?_;simp only[go_sem];refine aa (c1) ?_;exact aM [] _ [(1000,fH m s F)] ⟨rfl,rfl⟩
def eC(i:Nat):List (Nat×aj):=[(1001,sQ)]
def MP(i:Nat):List AV:=[.int .i64 i,.mp 1001 1 0 0]
def abf:okE eC:=⟨(λi p hp=>by rw[eF.1 hp];rfl),(λi p hp=>by rw[eF.1 hp];exact⟨by decide,.inl ⟨show 1000<=1001 by decide,show 1001<2000 by decide⟩⟩),(λi j p hp=>by rw[eF.1 hp];rfl)⟩
def ph{α β:Type}[Inhabited α][Inhabited β](f:α->β){l:List α}{i:Nat}(h:i<l.length):ap (l.map f) i=f (ap l i):=by
 rw[aV (by simpa using h),aV h,List.getElem_map]
def N8(m:Md)(s:Sp)(h:B0 s)(hb:m.ims.length<=1000000):Ao qU MP m s eC (m.ims.map (MD s)):=by
 intro i hi _ F hF;rw[bP]at hi;rw[ph _ hi];refine dj fV ?_;generalize hX:ap m.ims i=X;have kt:=JX m s F X.f h;have hi2:(i:Int)<(m.ims.length:Int):=by omega
 unfold MD;by_cases h0:X.k=0
 .rw[ax (λq=>q h0)];generalize CS s X.f=R at kt⊢;simp only[go_sem,fV,MP,eC,cY,hX,cQ,ar h0];refine⟨by omega,hi2,by omega,hi2,?_⟩;refine kG kt (by simp only[go_sem]) (by simp only[go_sem]) ?_;simp only[go_sem];exact aM [] _ [(1000,fH m s F),(1001,sQ)] ⟨rfl,rfl⟩
 .rw[aF h0];simp only[go_sem,fV,MP,eC,cY,hX,cQ,aG h0];refine⟨by omega,hi2,?_⟩;exact aM [] _ [(1000,fH m s F),(1001,sQ)] ⟨rfl,rfl⟩
def N9(m:Md)(s:Sp)(h:B0 s)(hb:m.fs.length<=1000000):Ao qV MP m s eC (m.fs.map λf=>CS s f.t):=by
 intro i hi _ F hF;rw[bP]at hi;rw[ph _ hi];refine dj j9 ?_;generalize hX:ap m.fs i=X;have kt:=JX m s F X.t h;have hi2:(i:Int)<(m.fs.length:Int):=by omega
 generalize CS s X.t=R at kt⊢;simp only[go_sem,j9,MP,eC,cY,hX,cj];refine⟨by omega,hi2,?_⟩;refine kG kt (by simp only[go_sem]) (by simp only[go_sem]) ?_;simp only[go_sem];exact aM [] _ [(1000,fH m s F),(1001,sQ)] ⟨rfl,rfl⟩
