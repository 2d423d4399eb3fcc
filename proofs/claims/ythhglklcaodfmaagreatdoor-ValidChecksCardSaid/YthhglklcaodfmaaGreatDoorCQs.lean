import Derived.Test.YthhglklcaodfmaaGreatDoorCQr
import Derived.Shelf.RegionOpen
set_option linter.all false
set_option maxRecDepth 100000
set_option maxHeartbeats 40000000
namespace Go.Proofs.YthhglklcaodfmaaGreatDoor
open Go Go.Mw Go.RowKit Go.Shelf
def akr(S:Sk)(l:List Int)(w:World)(a:Act)(W:World):Prop :=
 a.defers=[]/\a.tmps.size=54/\jb No w W/\(bE.T pg).H W/\∃(bl:Nat->Option Nat)(M:Nat->Prop)(b2 b4 b5 b6 b7:Nat),
  (∀b,M b->w.heap.size<=b)/\(∀b,M b->b<W.heap.size)/\IRel M W (a.tmps.getD 1 undef) (.sl 1 (l.map aS)) /\
  G8 bl M a W 2 176 (J6 S) b2/\G8 bl M a W 4 3 (.int .i64 0) b4/\G8 bl M a W 5 36 (.int .i64 0) b5/\G8 bl M a W 6 3 (.int .i64 S.all.length) b6 /\
  G8 bl M a W 7 306 (.ip [.int .i64 ((bI S.u).length:Int),.bool S.t.lo]) b7/\b6≠b2/\b6≠b4/\b6≠b5/\b6≠b7/\b4≠b5/\b4≠b2/\b4≠b7/\b5≠b2/\b5≠b7
def Vq(S:Sk)(l:List Int)(hb:S.u.length<1000000)(w:World)(bl:Nat->Option Nat)(M:Nat->Prop)(cargs:List Value)(hH:(bE.T pg).H w)(ha:bg (bv bl M w) cargs [J6 S,.sl 1 (l.map aS)]) :
  lc0.wp pg (λe a W=>e = .normal/\lc1.wp pg (λe a W=>e = .normal/\akr S l w a W) a W) ⟨cargs.toArray++Array.replicate (54-cargs.toArray.size) undef,[]⟩ w:=by
 have hal:cargs.length=2:=ha.length;have no:∀b,¬bQ (λ_=>none) No (ak ([]:List (Nat×au))) b:=λb h=>h.elim (λh=>h) λ⟨id,o,h1,h2⟩=>by cases h2
 let c:sV:=⟨w,λ_=>none,No,No,54,bE.T pg,hH,λb hb h=>h,λb hb h=>h,by decide⟩
 haveI:CT c pg:=⟨rfl⟩
 have hs:aT c (λ_=>none) (get (ir 0 [J6 S,.sl 1 (l.map aS)])) (ak ([]:List (Nat×au))) ⟨cargs.toArray++Array.replicate (54-cargs.toArray.size) undef,[]⟩ w:=by
  refine⟨rfl,by simp[c];omega,λk=>?_,⟨λid o h=>(by cases h),λid id' o o' b h=>(by cases h)⟩,jb.refl _ _,λid o q h1 h2=>(by cases h1),λ_ _ _=>rfl,λ_ h=>h.elim⟩;rw[DP];simp only[dx,dR,Nat.sub_zero];cases hk:([J6 S,.sl 1 (l.map aS)]:List AV)[k]? with
  | none=>trivial
  | some x =>
   obtain⟨v,hv,hr⟩:=ha.get hk;have hlt:=(jh.1 hv).1;have e:(cargs.toArray++Array.replicate (54-cargs.toArray.size) undef).getD k undef=v:=by
    rw[pI,Array.getElem?_append_left (by simpa using hlt)];simp[hv]
   rw[Cb (by omega),e];have hx:∀id,mV id x=false:=by
    intro id
    match k,hk with
    | 0,hk=>cases hk;rfl
    | 1,hk=>cases hk;rfl
   exact hr.tr ⟨λb _ _=>⟨no b,rfl⟩,λb c t fr h=>⟨c,fr,h,rfl⟩⟩ (λid hi=>by rw[hx]at hi;cases hi)
 refine Code.wp_mono (λe a w1 hq=>?_) (xX (c:=c) fD rfl _ Vm aiw Vm rfl ⟨ir 0 [J6 S,.sl 1 (l.map aS)],[]⟩ _ _ w (Vr S l hb) ⟨_,hs⟩);have hq:e = .normal/\∃s,lz pg Rr s (acF S l)/\dd c s a w1:=by
  cases e with
  | normal=>obtain⟨s,⟨_,h⟩,h2⟩:=hq;exact⟨rfl,s,h,h2⟩
  | ret=>obtain⟨s,h,_⟩:=hq;cases h.1
  | exit id=>obtain⟨s,h,_⟩:=hq;cases h.1
  | _=>exact hq.elim
 obtain⟨rfl,s,hi,hs1⟩:=hq;refine⟨rfl,?_⟩;refine Code.wp_mono (λe a' w' hq=>?_) (xX (c:=c) fD rfl _ Rr aix Rr rfl s _ _ w1 hi hs1);cases e with
 | normal =>
  obtain⟨s,⟨_,h1,⟨h2,o2⟩,⟨h4,o4⟩,⟨h5,o5⟩,⟨h6,o6⟩,h7,o7⟩,bl',hs'⟩:=hq;refine⟨rfl,hs'.defers,hs'.size,hs'.step,(bE.T pg).stay _ _ hH λq hq=>hs'.step.keep q ((bE.T pg).low _ hH q hq) (λh=>h),?_⟩;obtain⟨b2,e2,f2⟩:=Dx hs' h2 o2;obtain⟨b4,e4,f4⟩:=Dx hs' h4 o4;obtain⟨b5,e5,f5⟩:=Dx hs' h5 o5;obtain⟨b6,e6,f6⟩:=Dx hs' h6 o6;obtain⟨b7,e7,f7⟩:=Dx hs' h7 o7;have ne:∀{i j:Nat}{o o':au}{p q:Nat},i≠j->ak s.heap i=some o->ak s.heap j=some o'->bl' i=some p->bl' j=some q->p≠q:=λhij ho ho' hp hq e=>hij (hs'.heap.2 _ _ _ _ _ ho ho' hp (e▸hq));have hr1:=hs'.env 1;rw[h1,Cb (by omega)]at hr1;refine⟨bl',bQ bl' No (ak s.heap),b2,b4,b5,b6,b7,?_,?_,hr1,f2,f4,f5,f6,f7,ne (by decide) o6 o2 e6 e2,ne (by decide) o6 o4 e6 e4,ne (by decide) o6 o5 e6 e5,ne (by decide) o6 o7 e6 e7,ne (by decide) o4 o5 e4 e5,ne (by decide) o4 o2 e4 e2,ne (by decide) o4 o7 e4 e7,ne (by decide) o5 o2 e5 e2,ne (by decide) o5 o7 e5 e7⟩;rintro b (hb|⟨id,o,h1,h2⟩)
  .exact hb.elim
  .exact(hs'.own _ _ _ h1 h2).elim (λh=>h) (λh=>h.elim)
  rintro b (hb|⟨id,o,h1,h2⟩)
  .exact hb.elim
  .rcases hs'.heap.1 id o h1 with⟨_,_,h3⟩|⟨b',hb',hO⟩
   .rw[h2]at h3;cases h3
   .rw[h2]at hb';cases hb';exact hO.lt
 | ret=>obtain⟨s,h,_⟩:=hq;cases h.1
 | exit id=>obtain⟨s,h,_⟩:=hq;cases h.1
 | _=>exact hq.elim
def YS(x:Nat->Value):((List.range 54).map x).toArray = #[x 0,x 1,x 2,x 3,x 4,x 5,x 6,x 7,x 8,x 9,x 10,x 11,x 12,x 13,x 14,x 15,x 16,x 17,x 18,x 19,x 20,x 21,x 22,x 23,x 24,x 25,x 26,x 27,x 28,x 29,x 30,x 31,x 32,x 33,x 34,x 35,x 36,x 37,x 38,x 39,x 40,x 41,x 42,x 43,x 44,x 45,x 46,x 47,x 48,x 49,x 50,x 51,x 52,x 53]:=by rfl
def YT(a:Array Value)(n:Nat)(h:a.size=n):a=((List.range n).map λk=>a.getD k undef).toArray:=by
 subst h;apply Array.ext
 .simp
 .intro i h1 h2;have e:a.getD i undef=a[i]:=by rw[pI,yz h1];rfl
  have e2:(List.map (λk=>a.getD k undef) (List.range a.size)).toArray[i]=(List.map (λk=>a.getD k undef) (List.range a.size))[i]'(by simpa using h1):=rfl;rw[e2,List.getElem_map,List.getElem_range,e]
def ahp(a:Array Value)(h:a.size=54):∃x:Nat->Value,(∀k,x k=a.getD k undef)/\a = #[x 0,x 1,x 2,x 3,x 4,x 5,x 6,x 7,x 8,x 9,x 10,x 11,x 12,x 13,x 14,x 15,x 16,x 17,x 18,x 19,x 20,x 21,x 22,x 23,x 24,x 25,x 26,x 27,x 28,x 29,x 30,x 31,x 32,x 33,x 34,x 35,x 36,x 37,x 38,x 39,x 40,x 41,x 42,x 43,x 44,x 45,x 46,x 47,x 48,x 49,x 50,x 51,x 52,x 53] :=
 ⟨λk=>a.getD k undef,λ_=>rfl,(YT a 54 h).trans (YS _)⟩
section
attribute[local go_sem] Oper.semAt_some
def ajD{M:Nat->Prop}{f:FuncId}{args:List AV}{r:AV}(h:aj pg f args r)(w:World)(hH:(bE.T pg).H w)(hB:∀b,(bE.T pg).B b->¬M b)(hM:∀b,M b->b<w.heap.size){cargs:List Value}(ha:bg (bv (λ_=>none) M w) cargs args) :
  Calls pg f cargs.toArray w λe w'=>∃v,e = .returned v/\bv (λ_=>none) M w' v r/\jb No w w':=by
 have hm:∀(bl:Nat->Option Nat) b,bQ bl M (ak []) b↔M b:=λbl b=>ja _ b
 refine(h (λ_=>none) M w cargs hH (λb hb hm'=>hB b hb ((hm _ b).1 hm')) ⟨λid o hi=>by simp[ak]at hi,λid id' o o' b hi=>by simp[ak]at hi⟩ hM
  (ha.mono λ_ _ _ hr=>hr.tr (Tr.of_iff (λb=>hm _ b)) (λ_ _=>rfl))).mono λe w' hh=>?_
 obtain⟨v,r',σ',bl',rfl,⟨rfl,rfl⟩,hcl,_,hv,hst,_,_⟩:=hh;refine⟨v,rfl,hv.tr (Tr.of_iff (λb=>(hm _ b).symm)) (λid hid=>?_),⟨hst.size,λb hb _=>hst.keep b hb (λhx=>by obtain⟨id,o,hi,_⟩:=hx;simp[ak]at hi),hst.shape,hst.os,hst.out⟩⟩;have:=hcl.1 id (py hid);simp[ak]at this
def JR(A:World):jb No A A.drew:=⟨aQ _,λ_ _ _=>rfl,λb c t fr h=>⟨c,fr,h,rfl⟩,rfl,rfl⟩
def EqH(a b:Nat):Prop:=a=b
def DO{w:World}{b:Nat}{c:Array Value}{t:TypeId}{fr:Nat×Nat}{i:Nat}{v:Value}(h:w.heap[b]?=some (.cells c t fr))(u:fQ c fr)(hi:c[i]?=some v):w.frozen? ⟨b,i,none⟩=false:=by
 have:=u.spec i (kT.1 hi).1;obtain⟨lo,hi'⟩:=fr;simp only[World.frozen?,h];simp only at this;simpa using this
def Xw{cc:Array Value}{i:Nat}{v:Value}(h:cc[i]?=some v):cc.setIfInBounds i v=cc:=by
 apply Array.ext
 .simp
 .intro j h1 h2;rw[Array.getElem_setIfInBounds];split
  .rename_i e;subst e;obtain⟨h3,h4⟩:=kT.1 h;exact h4.symm
  .rfl
def KR{w A:World}{M0:Nat->Prop}{tmps:Array Value}{D b4 b5:Nat}{r e:Int}{c4 c5:Array Value}{fr4 fr5:Nat×Nat}{p:Int×Int}(hp:p=(r,e))(h4:tmps.getD 4 undef = .pointer (some ⟨b4,0,none⟩))(h5:tmps.getD 5 undef = .pointer (some ⟨b5,0,none⟩))
  (hS:jb No w A) (hD:w.heap.size<=D) (hK:A.heap[D]?=some (.deferred (some []))) (g4:A.heap[b4]?=some (.cells c4 3 fr4)) (i4:c4[0]?=some (.int .i64 r)) (g5:A.heap[b5]?=some (.cells c5 36 fr5)) (i5:c5[0]?=some (.int .i64 e)) :
  bodyPostM Fence.wide 3 pg Tryz.f262 (λe w'=>∃v,e = .returned v/\jb No w w'/\bv (λ_=>none) M0 w' v (.tup [.int .i64 p.1,.int .i64 p.2])) .ret {tmps:=tmps,defers:=[{target:=.collected D,args:=#[]}]} A:=by
 subst hp;have hS2:=jV hS hD hK rfl (o':=.deferred none);refine⟨by simp,.inl ⟨_,_,rfl,run_takeDeferred hK,?_⟩⟩;have n4:b4≠D:=λh=>by rw[h,hK]at g4;cases g4
 have n5:b5≠D:=λh=>by rw[h,hK]at g5;cases g5
 have k4:(A.putObj D (.deferred none)).heap[b4]?=some (.cells c4 3 fr4):=by rw[World.putObj_heap_other n4];exact g4
 have k5:(A.putObj D (.deferred none)).heap[b5]?=some (.cells c5 36 fr5):=by rw[World.putObj_heap_other n5];exact g5
 exact⟨_,GP rfl _ _ _ h4 (Tryz.isAgg3 _) ((bU k4 _).trans i4) h5 (Tryz.isAgg36 _) ((bU k5 _).trans i5),_,rfl,hS2,[_,_],rfl,IRel.int _ _,IRel.int _ _,trivial⟩
def agq(S:Sk)(l:List Int)(hb:S.u.length<1000000)(hall:S.all.length<1000000)(hl:l.length<1000000) :
  aj pg 262 [J6 S,.sl 1 (l.map aS)] (.tup [.int .i64 (Is S l).1,.int .i64 (Is S l).2]):=by
 refine aj.of (λw bl0 M0 cargs hH hM ha=>?_) rfl;refine(callsIn_wide (n:=3)).1 ?_;refine callsIn_of_wp_marks Tryz.func262 rfl trivial ?_ rfl;refine wpIn_seq (wpIn_mono (wpIn_wide.2 (Vq S l hb w bl0 M0 cargs hH ha)) ?_);rintro e a0 W0 ⟨rfl,h1⟩;refine wpIn_seq (wpIn_mono (wpIn_wide.2 h1) ?_);rintro e a W ⟨rfl,hd,hsz,hS,hW,bl,M,b2,b4,b5,b6,b7,hMw,hMl,hr1,⟨t2,m2,c2⟩,⟨t4,m4,c4⟩,⟨t5,m5,c5⟩,⟨t6,m6,c6⟩,⟨t7,m7,c7⟩,n62,n64,n65,n67,n45,n42,n47,n52,n57⟩;clear h1;obtain⟨x,hx,hta⟩:=ahp a.tmps hsz;obtain rfl:a =⟨#[x 0,x 1,x 2,x 3,x 4,x 5,x 6,x 7,x 8,x 9,x 10,x 11,x 12,x 13,x 14,x 15,x 16,x 17,x 18,x 19,x 20,x 21,x 22,x 23,x 24,x 25,x 26,x 27,x 28,x 29,x 30,x 31,x 32,x 33,x 34,x 35,x 36,x 37,x 38,x 39,x 40,x 41,x 42,x 43,x 44,x 45,x 46,x 47,x 48,x 49,x 50,x 51,x 52,x 53],[]⟩:=by cases a;cases hd;cases hta;rfl
 rw[Cb (by omega),<-hx]at t2 t4 t5 t6 t7;rw[<-hx]at hr1;have hTM:∀b,(bE.T pg).B b->¬M b:=λb hb hm=>absurd ((bE.T pg).low _ hH b hb) (by have:=hMw b hm;omega);have cb:=ajD (agn (l.map aS)) W hW hTM hMl (cargs:=[x 1]) ⟨hr1.toC.toV,trivial⟩;clear hx hsz hd
 gi_wp2
 refine⟨trivial,(callsIn_wide.2 cb).mono ?_⟩;rintro e W1 ⟨v,rfl,hv,hst⟩;have st:∀{A B:World},(bE.T pg).H A->jb No A B->(bE.T pg).H B:=λh hs=>(bE.T pg).stay _ _ h λq hq=>hs.keep q ((bE.T pg).low _ h q hq) (λh=>h);have hW1:=st hW hst;obtain⟨cs,hvf,hcs⟩:=hv
 match cs,hcs with
 | [p],⟨hp,_⟩ =>
 obtain rfl:v = .func (.func 315) #[] #[p]:=hvf;cases (hp:IRel M W1 p (.ip [.sl 1 (l.map aS)]))with
 | ip pb po cp tp fp cells vs hpb hpM hpv X3 =>
 have hs0:=X3 0 _ rfl;have hsc:=hpv 0 (Nat.zero_lt_succ _);obtain⟨B,hBe⟩:∃B:Nat->Prop,B=λb=>¬M b/\b<W1.heap.size:=⟨_,rfl⟩
 have hBs:∀b,B b->b<W1.heap.size:=λb hb=>by rw[hBe]at hb;exact hb.2
 have hsF:slF (vs 0) l B W1:=by
  obtain⟨pa,cap,e,h⟩:=ajS hs0;refine⟨pa,cap,e,λh0=>?_⟩;obtain⟨b,off,c,t,fr,h1,h2,h3,h4⟩:=h h0;exact⟨b,off,c,t,fr,h1,by rw[hBe];exact⟨h2,bp h3⟩,h3,h4⟩
 have hsq:=λn=>ahD n l hl W1 B (vs 0) pb po (by rw[hBe];exact⟨hpM,bp hpb⟩) hBs hpb hsc hsF
 gi_wp2
 obtain⟨cc4,fr4,v4,g4,u4,i4,r4⟩:=c4;obtain⟨cc5,fr5,v5,g5,u5,i5,r5⟩:=c5;obtain⟨cc6,fr6,v6,g6,u6,i6,r6⟩:=c6;obtain⟨cc7,fr7,v7,g7,u7,i7,r7⟩:=c7;obtain⟨cc2,fr2,v2,g2,u2,i2,r2⟩:=c2;have kp:∀{b:Nat}{o:Obj},W.heap[b]?=some o->W1.heap[b]?=some o:=λh=>(hst.keep _ (bp h) (λh=>h)).trans h;have hS1:=hS.one hst;have hz:w.heap.size<=W.heap.size:=hS.size;have hz1:W.heap.size<=W1.heap.size:=hst.size;have m4w:=hMw _ m4;have m5w:=hMw _ m5;have m6w:=hMw _ m6;have l4:=hMl _ m4;have l5:=hMl _ m5;have l6:=hMl _ m6;have nB:∀{b:Nat},M b->∀b',B b'->b'≠b:=λhm b' hb' e=>by rw[hBe]at hb';exact hb'.1 (e▸hm)
 refine So (α:=Int×Int) (encs:=aeg) (E:=Tx l) (B:=B) (by decide) hW1 hBs (gf:=315) (lb:=#[.pointer (some ⟨pb,po,none⟩)]) rfl (enters_of Tryz.func315 (by kernel_rfl) rfl) (hsq _) (jb.refl _ _) (λ_=>rfl)
  (λib A=>jb No w A/\W1.heap.size<=A.heap.size/\∃ts q,S.t.l.reverse=q++ts/\dP S.t.lo S.t.l.reverse l.reverse=dP S.t.lo ts (l.reverse.drop ib.length) /\
   A.heap[b6]?=some (.cells (cc6.setIfInBounds 0 (.int .i64 (((bI S.u).length+ts.length:Nat):Int))) 3 fr6)/\∀b,b<W1.heap.size->b≠b6->A.heap[b]? = W1.heap[b]?)
  (λc ib A=>c = .ret/\jb No w A/\W1.heap.size<=A.heap.size/\(dP S.t.lo S.t.l.reverse l.reverse).1=none/\A.heap[b4]?=some (.cells (cc4.setIfInBounds 0 (.int .i64 0)) 3 fr4) /\
   A.heap[b5]?=some (.cells (cc5.setIfInBounds 0 (.int .i64 (dP S.t.lo S.t.l.reverse l.reverse).2)) 36 fr5))
  ?hI ?hIx ?hIp ?hIxp ?h0
  (λy=>{tmps:=#[x 0,x 1,.pointer (some ⟨b2,0,none⟩),x 3,.pointer (some ⟨b4,0,none⟩),.pointer (some ⟨b5,0,none⟩),.pointer (some ⟨b6,0,none⟩),.pointer (some ⟨b7,0,none⟩),x 8,.int .i64 y.2,x 10,x 11,x 12,x 13,x 14,x 15,x 16,x 17,x 1,.func (.func 315) #[] #[.pointer (some ⟨pb,po,none⟩)],.int .i64 y.1,.int .i64 y.2,x 22,x 23,x 24,x 25,x 26,x 27,x 28,x 29,x 30,x 31,x 32,x 33,x 34,x 35,x 36,x 37,x 38,x 39,x 40,x 41,x 42,x 43,x 44,x 45,x 46,x 47,x 48,x 49,x 50,x 51,x 52,x 53],defers:=[]}) ?assign ?body ?done ?stop
 case hI =>
  rintro s A B' ⟨h1,h2,ts,q,h3,h4,h5,h6⟩ hs;exact⟨h1.one hs,gD h2 hs.size,ts,q,h3,h4,(hs.keep _ (bp h5) (λh=>h)).trans h5,λb hb hn=>(hs.keep _ (by omega) (λh=>h)).trans (h6 b hb hn)⟩
 case hIx =>
  rintro c s A B' ⟨h1,h2,h3,h4,h5,h6⟩ hs;exact⟨h1,h2.one hs,gD h3 hs.size,h4,(hs.keep _ (bp h5) (λh=>h)).trans h5,(hs.keep _ (bp h6) (λh=>h)).trans h6⟩
 case hIp =>
  rintro s A k o o' ⟨h1,h2,ts,q,h3,h4,h5,h6⟩ hk hko ho;exact⟨jV h1 (by omega) hko ho,gD h2 (grownBy_putObj' A k o').size,ts,q,h3,h4,by rw[World.putObj_heap_other (by have:=hMl _ m6;omega)];exact h5,λb hb hn=>by rw[World.putObj_heap_other (by omega)];exact h6 b hb hn⟩
 case hIxp =>
  rintro c s A k o o' ⟨h1,h2,h3,h4,h5,h6⟩ hk hko ho;exact⟨h1,jV h2 (by omega) hko ho,gD h3 (grownBy_putObj' A k o').size,h4,by rw[World.putObj_heap_other (by have:=hMl _ m4;omega)];exact h5,by rw[World.putObj_heap_other (by have:=hMl _ m5;omega)];exact h6⟩
 case h0 =>
  refine⟨hS1,aQ _,S.t.l.reverse,[],rfl,by rw[eG,fo],?_,λ_ _ _=>rfl⟩;have e:v6 = .int .i64 (((bI S.u).length+S.t.l.reverse.length:Nat):Int):=by
   have:=(r6:IRel M W v6 (.int .i64 S.all.length))
   cases this;rw[List.length_reverse,jj,dN]
  rw[<-e,Xw i6];exact kp g6
 case assign =>
  intro l' y A K hK;simp only[aeg]
  gi_wp2
  exact hK
 case body =>
  rintro l' ib y A ⟨h1,h2,ts,q,h3,h4,h5,h6⟩ hpre;have hk:ib.length<l.length:=by have:=hpre.length_le;rw[H_,dN,Ss]at this;omega
  have hy:y.2=av l (l.length-1-ib.length):=by
   have e:=Tz l hk;obtain⟨r,hr⟩:=hpre;rw[<-hr,vk,Ay (aQ _),Cc]at e;cases e;rfl
  have hdr:l.reverse.drop ib.length=y.2::l.reverse.drop (ib.length+1):=by
   rw[aka (by simpa using hk),List.getElem_reverse,hy,aY (by omega)]
  rw[hdr]at h4;clear hy hdr;have g4':=(h6 b4 (by omega) (Ne.symm n64)).trans (kp g4);have g5':=(h6 b5 (by omega) (Ne.symm n65)).trans (kp g5);have j6:(cc6.setIfInBounds 0 (.int .i64 (((bI S.u).length+ts.length:Nat):Int)))[0]?=some (.int .i64 (((bI S.u).length+ts.length:Nat):Int)):=by rw[Array.getElem?_setIfInBounds_self_of_lt];exact(kT.1 i6).1
  have d6:A.cell? ⟨b6,0,none⟩=some (.int .i64 (((bI S.u).length+ts.length:Nat):Int)):=(bU h5 _).trans j6;have hA:∀{b:Nat}{o:Obj},¬M b->W.heap[b]?=some o->A.heap[b]?=some o:=λhm h=>(h6 _ (by have:=bp h;omega) (λe=>hm (by rw[e];exact m6))).trans (kp h);have hA2:∀{b:Nat}{o:Obj},b6≠b->W.heap[b]?=some o->A.heap[b]?=some o:=λhm h=>(h6 _ (by have:=bp h;omega) (Ne.symm hm)).trans (kp h);cases (r7:IRel M W v7 (.ip [.int .i64 ((bI S.u).length:Int),.bool S.t.lo]))with
  | ip bq oq cq tq fq cells7 vq hqb hqM hqv hqx =>
  cases (r2:IRel M W v2 (.ip [.sl 1 (S.all.map aS),.sl 2 ((cu (S.t::S.u)).map HH),.bool S.ov]))with
  | ip bs os cs2 ts2 fs2 cells2 vs2 hsb hsM hsv hsx =>
  have q0:=hqv 0 (by simp);have q1:=hqv 1 (by simp);have s0:=hsv 0 (by simp);have e0:vq 0 = .int .i64 ((bI S.u).length:Int):=by have:=hqx 0 _ rfl;generalize vq 0=u at this;cases this;rfl
  have e1:vq 1 = .bool S.t.lo:=by have:=hqx 1 _ rfl;generalize vq 1=u at this;cases this;rfl
  obtain⟨ps,cps,es,hsl⟩:=ajS (hsx 0 _ rfl);rw[e0]at q0;rw[e1]at q1;rw[es]at s0;have d7:A.cell? ⟨b7,0,none⟩=some (.pointer (some ⟨bq,oq,none⟩)):=(bU (hA2 n67 g7) _).trans i7;have dq0:A.cell? ⟨bq,oq,none⟩=some (.int .i64 ((bI S.u).length:Int)):=(bU (hA hqM hqb) _).trans q0;have dq1:A.cell? ⟨bq,oq+1,none⟩=some (.bool S.t.lo):=(bU (hA hqM hqb) _).trans q1;have d2:A.cell? ⟨b2,0,none⟩=some (.pointer (some ⟨bs,os,none⟩)):=(bU (hA2 n62 g2) _).trans i2;have ds:A.cell? ⟨bs,os,none⟩=some (.slice ps S.all.length cps):=(bU (hA hsM hsb) _).trans s0;have hmx:pg.follows .mixedOrders=true:=by kernel_rfl
  have D6:A.drew.cell? ⟨b6,0,none⟩=some (.int .i64 (((bI S.u).length+ts.length:Nat):Int)):=d6;have D7:A.drew.cell? ⟨b7,0,none⟩=some (.pointer (some ⟨bq,oq,none⟩)):=d7;have Q0:A.drew.cell? ⟨bq,oq,none⟩=some (.int .i64 ((bI S.u).length:Int)):=dq0;have Q1:A.drew.cell? ⟨bq,oq+1,none⟩=some (.bool S.t.lo):=dq1;cases ts with
  | nil =>
   have D6:A.drew.cell? ⟨b6,0,none⟩=some (.int .i64 ((bI S.u).length:Int)):=D6;clear hst X3 hpv hpb nB hsq hBs hBe hsF cb hqv hqx hsv hsx d6 d7 dq0 dq1 d2 ds q0 q1 s0 e0 e1;cases hlo:S.t.lo with
   | true =>
    rw[hlo]at Q1 h4
    gi_wp2
    gi_region_with_o (skip)
    all_goals
     gi_wp2
     refine⟨⟨aQ _,λ_ _ h _=>h⟩,CK.refl _ _,by first|exact h1|exact h1.one (JR A),h2,[],q,h3,?_,h5,h6⟩;rw[h4,dN];rfl
   | false =>
    rw[hlo]at Q1 h4;have hP:dP false S.t.l.reverse l.reverse=(none,13):=h4;have d4:A.cell? ⟨b4,0,none⟩=some v4:=(bU g4' _).trans i4;have f4:=DO g4' u4 i4;have g5'':(A.setCell ⟨b4,0,none⟩ (.int .i64 0)).heap[b5]?=some (.cells cc5 36 fr5):=by rw[eZ n45];exact g5'
    have d5:(A.setCell ⟨b4,0,none⟩ (.int .i64 0)).cell? ⟨b5,0,none⟩=some v5:=(bU g5'' _).trans i5;have f5:=DO g5'' u5 i5;have D4:A.drew.cell? ⟨b4,0,none⟩=some v4:=d4;have F4:A.drew.frozen? ⟨b4,0,none⟩=false:=f4;have D5:(A.drew.setCell ⟨b4,0,none⟩ (.int .i64 0)).cell? ⟨b5,0,none⟩=some v5:=d5;have F5:(A.drew.setCell ⟨b4,0,none⟩ (.int .i64 0)).frozen? ⟨b5,0,none⟩=false:=f5;have hX:jb No w ((A.setCell ⟨b4,0,none⟩ (.int .i64 0)).setCell ⟨b5,0,none⟩ (.int .i64 13)):=fP (fP h1 (by exact m4w)) (by exact m5w);have hY:KeepsOthers A ((A.setCell ⟨b4,0,none⟩ (.int .i64 0)).setCell ⟨b5,0,none⟩ (.int .i64 13)):=(KeepsOthers.setCell _ _ _).trans (KeepsOthers.setCell _ _ _);have hZ:W1.heap.size<=((A.setCell ⟨b4,0,none⟩ (.int .i64 0)).setCell ⟨b5,0,none⟩ (.int .i64 13)).heap.size:=by simpa[World.setCell]using h2
    gi_wp2
    gi_region_with_o (skip)
    all_goals
     gi_wp2
     refine⟨⟨hY.size,hY.same⟩,rfl,by first|exact hX|exact hX.one (JR _),hZ,by rw[hP],(eZ (Ne.symm n45)).trans (jE g4'),?_⟩;rw[hP];exact jE g5''
  | cons t ts =>
   have hlen:(bI S.u).length+ts.length<S.all.length:=by
    have e:=congrArg List.length h3;rw[List.length_reverse,dN,i9]at e;rw[jj,dN];omega
   have hat:av S.all ((bI S.u).length+ts.length)=t:=by
    have e:S.t.l=ts.reverse++t::q.reverse:=by rw[<-List.reverse_reverse S.t.l,h3];simp
    have e2:S.all[(bI S.u).length+ts.length]?=some t:=by
     rw[jj,Ay (by omega),e,Ay (by simp)];simp
    rw[md hlen]at e2;exact Ce e2
   obtain⟨bt,ot,ct,tt,ft,rfl,htM,htb,htc⟩:=hsl (by omega);have c1:=htc _ hlen;rw[hat]at c1;have hne:¬((((bI S.u).length+(t::ts).length:Nat):Int)=((bI S.u).length:Int)):=by rw[i9];omega
   have hw:wrap64 ((((bI S.u).length+(t::ts).length:Nat):Int)-1)=(((bI S.u).length+ts.length:Nat):Int):=by rw[IntWalk.wrap64_in _ (by rw[i9];omega),i9];omega
   have f6:=DO h5 (by simpa[fQ]using u6) j6;clear hst X3 hpv hpb hsq hsF cb hqv hqx hsv hsx d6 d7 dq0 dq1 q0 q1 s0 e0 e1;generalize hN:(((bI S.u).length+(t::ts).length:Nat):Int)=N at*;have F6:A.drew.frozen? ⟨b6,0,none⟩=false:=f6;obtain⟨K,hK⟩:∃K:Nat,EqH K ((bI S.u).length+ts.length):=⟨_,rfl⟩
   rw[<-(hK:K=_)]at hw hat hlen c1;have k6:(A.setCell ⟨b6,0,none⟩ (.int .i64 (K:Int))).heap[b6]?=some (.cells (cc6.setIfInBounds 0 (.int .i64 (K:Int))) 3 fr6):=by rw[jE h5];simp
   have kA:∀{b:Nat}{o:Obj},b6≠b->A.heap[b]?=some o->(A.setCell ⟨b6,0,none⟩ (.int .i64 (K:Int))).heap[b]?=some o:=λhn h=>by rw[eZ hn];exact h
   have E6:(A.setCell ⟨b6,0,none⟩ (.int .i64 (K:Int))).drew.drew.cell? ⟨b6,0,none⟩=some (.int .i64 (K:Int)):=(bU k6 _).trans (by rw[Array.getElem?_setIfInBounds_self_of_lt];exact(kT.1 i6).1);have E2:(A.setCell ⟨b6,0,none⟩ (.int .i64 (K:Int))).drew.drew.cell? ⟨b2,0,none⟩=some (.pointer (some ⟨bs,os,none⟩)):=(bU (kA n62 (hA2 n62 g2)) _).trans i2;have nM:∀{b:Nat},¬M b->b6≠b:=λh e=>h (by rw[<-e];exact m6);have Es:(A.setCell ⟨b6,0,none⟩ (.int .i64 (K:Int))).drew.drew.cell? ⟨bs,os,none⟩=some (.slice (some ⟨bt,ot,none⟩) S.all.length cps) :=
    (bU (kA (nM hsM) (hA hsM hsb)) os).trans ((bU (hA hsM hsb) os).symm.trans ds)
   have Et:(A.setCell ⟨b6,0,none⟩ (.int .i64 (K:Int))).drew.drew.cell? ⟨bt,ot+K,none⟩=some (.int .i64 t):=(bU (kA (nM htM) (hA htM htb)) _).trans c1;have G4:=kA n64 g4';have G5:=kA n65 g5';refine wpIn_block (wpIn_seq (wpIn_mono (Q:=λe a B=>e = .normal/\B=A.drew/\∃z22 z23 z24 z25 z26 z27:Value,a =⟨#[x 0,x 1,.pointer (some ⟨b2,0,none⟩),x 3,.pointer (some ⟨b4,0,none⟩),.pointer (some ⟨b5,0,none⟩),.pointer (some ⟨b6,0,none⟩),.pointer (some ⟨b7,0,none⟩),x 8,.int .i64 y.2,x 10,x 11,x 12,x 13,x 14,x 15,x 16,x 17,x 1,.func (.func 315) #[] #[.pointer (some ⟨pb,po,none⟩)],.int .i64 y.1,.int .i64 y.2,z22,z23,z24,z25,z26,z27,x 28,x 29,x 30,x 31,x 32,x 33,x 34,x 35,x 36,x 37,x 38,x 39,x 40,x 41,x 42,x 43,x 44,x 45,x 46,x 47,x 48,x 49,x 50,x 51,x 52,x 53],[]⟩) ?r4 ?k4))
   case r4 =>
    gi_wp2
    gi_region_with_o (skip)
    all_goals
     gi_wp2
   rintro e a B ⟨rfl,rfl,z22,z23,z24,z25,z26,z27,rfl⟩;refine wpIn_seq (wpIn_mono (Q:=λe a B=>e = .normal/\B=(A.drew.setCell ⟨b6,0,none⟩ (.int .i64 (K:Int)))/\∃z22 z23 z24 z25 z26 z27 z33 z34:Value,a =⟨#[x 0,x 1,.pointer (some ⟨b2,0,none⟩),x 3,.pointer (some ⟨b4,0,none⟩),.pointer (some ⟨b5,0,none⟩),.pointer (some ⟨b6,0,none⟩),.pointer (some ⟨b7,0,none⟩),x 8,.int .i64 y.2,x 10,x 11,x 12,x 13,x 14,x 15,x 16,x 17,x 1,.func (.func 315) #[] #[.pointer (some ⟨pb,po,none⟩)],.int .i64 y.1,.int .i64 y.2,z22,z23,z24,z25,z26,z27,x 28,x 29,x 30,x 31,x 32,z33,z34,x 35,x 36,x 37,x 38,x 39,x 40,x 41,x 42,x 43,x 44,x 45,x 46,x 47,x 48,x 49,x 50,x 51,x 52,x 53],[]⟩) ?r7 ?k7)
   case r7 =>
    gi_wp2
   rintro e a B ⟨rfl,rfl,z22,z23,z24,z25,z26,z27,z33,z34,rfl⟩;refine wpIn_seq (wpIn_mono (Q:=λe a B=>e = .normal/\B=(A.drew.setCell ⟨b6,0,none⟩ (.int .i64 (K:Int))).drew/\∃z22 z23 z24 z25 z26 z27 z33 z34 z35 z36 z37 z38 z39 z40 z41:Value,a =⟨#[x 0,x 1,.pointer (some ⟨b2,0,none⟩),x 3,.pointer (some ⟨b4,0,none⟩),.pointer (some ⟨b5,0,none⟩),.pointer (some ⟨b6,0,none⟩),.pointer (some ⟨b7,0,none⟩),x 8,.int .i64 y.2,.int .i64 t,x 11,x 12,x 13,x 14,x 15,x 16,x 17,x 1,.func (.func 315) #[] #[.pointer (some ⟨pb,po,none⟩)],.int .i64 y.1,.int .i64 y.2,z22,z23,z24,z25,z26,z27,x 28,x 29,x 30,x 31,x 32,z33,z34,z35,z36,z37,z38,z39,z40,z41,x 42,x 43,x 44,x 45,x 46,x 47,x 48,x 49,x 50,x 51,x 52,x 53],[]⟩) ?r8 ?k8)
   case r8 =>
    gi_wp2
    gi_region_with_o (skip)
    all_goals
     gi_wp2
   rintro e a B ⟨rfl,rfl,z22,z23,z24,z25,z26,z27,z33,z34,z35,z36,z37,z38,z39,z40,z41,rfl⟩;obtain⟨X,hX⟩:∃X:World,X=(A.drew.setCell ⟨b6,0,none⟩ (.int .i64 (K:Int))).drew:=⟨_,rfl⟩
   rw[<-hX];have x6:X.heap[b6]?=some (.cells (cc6.setIfInBounds 0 (.int .i64 (K:Int))) 3 fr6):=by rw[hX];exact k6
   have xA:∀{b:Nat},b6≠b->X.heap[b]? = A.heap[b]?:=λhn=>by rw[hX];exact eZ hn
   have xz:A.heap.size=X.heap.size:=by rw[hX];exact(show(A.drew.setCell ⟨b6,0,none⟩ (.int .i64 (K:Int))).heap.size=A.drew.heap.size by simp only[World.setCell,Array.size_modify]).symm
   have xS:jb No w X:=by rw[hX];exact(fP (h1.one (JR A)) (by exact m6w)).one (JR _)
   have xK:KeepsOthers A X:=⟨by omega,λk o h1 h2=>by rw[hX];exact(KeepsOthers.setCell A.drew ⟨b6,0,none⟩ (.int .i64 (K:Int))).same k o h1 h2⟩
   have X4:=(xA n64).trans g4';have X5:=(xA n65).trans g5';have hP:dP S.t.lo S.t.l.reverse l.reverse=if t≠y.2/\t≠0/\y.2≠0 then(none,12)else dP S.t.lo ts (l.reverse.drop (ib.length+1)):=h4
   by_cases hq:t≠y.2/\t≠0/\y.2≠0
   .rw[az hq]at hP;obtain⟨q1,q2,q3⟩:=hq;have D4:X.cell? ⟨b4,0,none⟩=some v4:=(bU X4 _).trans i4;have F4:=DO X4 u4 i4;have Y5:(X.setCell ⟨b4,0,none⟩ (.int .i64 0)).heap[b5]?=some (.cells cc5 36 fr5):=by rw[eZ n45];exact X5
    have D5:(X.setCell ⟨b4,0,none⟩ (.int .i64 0)).cell? ⟨b5,0,none⟩=some v5:=(bU Y5 _).trans i5;have F5:=DO Y5 u5 i5;have hX2:jb No w ((X.setCell ⟨b4,0,none⟩ (.int .i64 0)).setCell ⟨b5,0,none⟩ (.int .i64 12)):=fP (fP xS (by exact m4w)) (by exact m5w);have hY:KeepsOthers A ((X.setCell ⟨b4,0,none⟩ (.int .i64 0)).setCell ⟨b5,0,none⟩ (.int .i64 12)):=(xK.trans (KeepsOthers.setCell _ _ _)).trans (KeepsOthers.setCell _ _ _);have hZ:W1.heap.size<=((X.setCell ⟨b4,0,none⟩ (.int .i64 0)).setCell ⟨b5,0,none⟩ (.int .i64 12)).heap.size:=gD (by omega) ((KeepsOthers.setCell X ⟨b4,0,none⟩ (.int .i64 0)).trans (KeepsOthers.setCell _ _ _)).size;clear hX h3 hBe h4 hBs x6 xS xK xz xA h6 k6 kA E6 E2 Es Et D6 D7 Q0 Q1 hne hw hat hlen c1 htc hsl hN hK h5 G4 G5
    gi_wp2
    .refine⟨⟨hY.size,hY.same⟩,rfl,hX2,hZ,by rw[hP],(eZ (Ne.symm n45)).trans (jE X4),?_⟩;rw[hP];exact jE Y5
    .rename_i hh;exact absurd hh (by simp[q1,q2,q3])
   .rw[an hq]at hP
    have hI:ownPostK (CK B W1.heap.size) (λib A=>jb No w A/\W1.heap.size<=A.heap.size/\∃ts q,S.t.l.reverse=q++ts/\dP S.t.lo S.t.l.reverse l.reverse=dP S.t.lo ts (l.reverse.drop ib.length) /\
      A.heap[b6]?=some (.cells (cc6.setIfInBounds 0 (.int .i64 (((bI S.u).length+ts.length:Nat):Int))) 3 fr6)/\∀b,b<W1.heap.size->b≠b6->A.heap[b]? = W1.heap[b]?)
      (λc ib A=>c = .ret/\jb No w A/\W1.heap.size<=A.heap.size/\(dP S.t.lo S.t.l.reverse l.reverse).1=none/\A.heap[b4]?=some (.cells (cc4.setIfInBounds 0 (.int .i64 0)) 3 fr4) /\
       A.heap[b5]?=some (.cells (cc5.setIfInBounds 0 (.int .i64 (dP S.t.lo S.t.l.reverse l.reverse).2)) 36 fr5)) (ib++[y]) A .normal ⟨#[],[]⟩ X:=by
     refine⟨⟨xK.size,xK.same⟩,⟨by omega,λb c t fr hb hc=>?_,λb hb=>xA (Ne.symm (nB m6 b hb))⟩,xS,by omega,ts,q++[t],by rw[h3];simp,by rw[hP,dN];rfl,?_,λb hb hn=>?_⟩
     .exact(xA (by omega)).trans hc
     .rw[<-(hK:K=_)];exact x6
     .exact(xA (Ne.symm hn)).trans (h6 b hb hn)
    clear hX h3 hBe h4 hBs x6 xS xK xz xA h6 k6 kA E6 E2 Es Et D6 D7 Q0 Q1 hne hw hat hlen c1 htc hsl hN hK h5 G4 G5 hP;by_cases q1:t=y.2
    .gi_wp2
     exact hI
    by_cases q2:t=0
    .gi_wp2
     exact hI
    by_cases q3:y.2=0
    .gi_wp2
     exact hI
    exact absurd ⟨q1,q2,q3⟩ hq
 case done =>
  rintro D A hD ⟨h1,h2,ts,q,h3,h4,h5,h6⟩ hK;have e:dP S.t.lo S.t.l.reverse l.reverse=(some ts,0):=by
   rw[h4,H_,<-List.length_reverse,List.drop_length];cases ts<;>rfl
  have eN:Is S l=((((bI S.u).length+ts.length:Nat):Int),0):=by unfold Is Sk.left;rw[e]
  have g4':=(h6 b4 (by have:=hMl _ m4;omega) (Ne.symm n64)).trans (kp g4);have g5':=(h6 b5 (by have:=hMl _ m5;omega) (Ne.symm n65)).trans (kp g5);have d6:A.cell? ⟨b6,0,none⟩=some (.int .i64 (((bI S.u).length+ts.length:Nat):Int)):=(bU h5 _).trans (by rw[Array.getElem?_setIfInBounds_self_of_lt];exact(kT.1 i6).1);generalize hN:((((bI S.u).length+ts.length:Nat):Int))=N at*;have d4:A.cell? ⟨b4,0,none⟩=some v4:=(bU g4' _).trans i4;have f4:=DO g4' u4 i4;have g5'':(A.setCell ⟨b4,0,none⟩ (.int .i64 N)).heap[b5]?=some (.cells cc5 36 fr5):=by rw[eZ n45];exact g5'
  have d5:(A.setCell ⟨b4,0,none⟩ (.int .i64 N)).cell? ⟨b5,0,none⟩=some v5:=(bU g5'' _).trans i5;have f5:=DO g5'' u5 i5;clear h6 kp hst X3 hpv hpb hTM nB hsq hBs hBe hsF cb g2 g4 g5 g6 g7 hMw hMl
  gi_wp2
  refine KR eN rfl rfl (fP (fP h1 (by exact m4w)) (by exact m5w)) (by omega) ?_ ((eZ (Ne.symm n45)).trans (jE g4')) ?_ (jE g5'') ?_
  .rw[eZ (by omega),eZ (by omega)];exact hK
  .rw[Array.getElem?_setIfInBounds_self_of_lt];exact(kT.1 i4).1
  .rw[Array.getElem?_setIfInBounds_self_of_lt];exact(kT.1 i5).1
 case stop =>
  rintro D c ib A hD hp ⟨rfl,h1,h2,h3,h4,h5⟩ hK
  gi_wp2
  refine KR (r:=0) (e:=(dP S.t.lo S.t.l.reverse l.reverse).2) ?_ rfl rfl h1 (by omega) hK h4 ?_ h5 ?_
  .unfold Is Sk.left;obtain⟨o,e⟩:∃o,dP S.t.lo S.t.l.reverse l.reverse=o:=⟨_,rfl⟩
   rw[e]at h3⊢;obtain⟨o1,o2⟩:=o;cases h3;rfl
  .rw[Array.getElem?_setIfInBounds_self_of_lt];exact(kT.1 i4).1
  .rw[Array.getElem?_setIfInBounds_self_of_lt];exact(kT.1 i5).1
end
def KQ:fK:=λS l h1 h2 h3=>JO (agq S l h1 h2 h3) rfl (λx hx=>by
 rw[fS.1 hx];rfl)
def Dh(m:Md)(hm:yD m):aj pg pE [ba m] (.agg [.int .i64 (kO m).p,.int .i64 (kO m).i,.int .i64 (kO m).l,.int .i64 (kO m).c]):=abv KQ m hm
def aj6(m:Md)(hm:yD m):aj pg yk [ba m] (.bool ((kO m).c==0)):=alC KQ m hm
section
def JP(n:Int)(l:List Nat):Int:=l.foldl (λ(n:Int)(k:Nat)=>IntKind.i64.wrap (n+(k:Int))) n
def JQ{α:Type}[Inhabited α](g:α->Nat){l:List α}{i:Nat}(h:i<l.length)(n:Int):JP n ((l.take (i+1)).map g)=IntKind.i64.wrap (JP n ((l.take i).map g)+(g (av l i):Int)):=by
 rw[Fm h];simp[JP]
def Zg(n:Int)(l:List El):Int:=l.foldl (λn x=>JP (IntKind.i64.wrap (n+(x.o.length:Int))) (x.it.map List.length)) n
def ad5{l:List El}{i:Nat}(h:i<l.length)(n:Int):Zg n (l.take (i+1))=JP (IntKind.i64.wrap (Zg n (l.take i)+((av l i).o.length:Int))) ((av l i).it.map List.length):=by
 rw[Fm h];simp[Zg]
def UM(m:Md):Int:=JP 0 (m.fs.map λx=>x.b.length)
def NC(m:Md):Int:=JP (UM m) (m.gs.map λx=>x.i.length)
def UN(m:Md):Int:=Zg (NC m) m.els
def ZK(m:Md):Int:=JP (UN m) (m.ds.map λx=>x.o.length)
attribute[local go_sem] bY aM eY nP fZ iQ iB
def WB(m:Md)(h:yD m):aj pg Ep [ba m] (.int .i64 (ZK m)):=by
 refine ao tT ?_;simp only[go_sem,tT,ba];refine aA (λi:Nat=>⟨[(4,.int .i64 (i:Nat)),(3,.int .i64 (JP 0 ((m.fs.take i).map λx=>x.b.length))),(1,.mp 1 12 0 0)],[(1,⟨33,12,[nX m],true⟩)]⟩) (λi=>i<=m.fs.length) (λi=>m.fs.length-i) 0 (dx _) (Wk.of ?_ ?_) ?_
 .simp only[go_sem,jK,eA,JP,List.foldl_nil];try simp
 .simp only[go_sem]
 intro i hi;by_cases h1:(i:Int)<(m.fs.length:Int)
 .have hi':i<m.fs.length:=by omega
  have e8:=cK hi' (by have:=h.fs.1;omega);have ht:=JQ (λx:Cd=>x.b.length) hi' 0;simp only[go_sem,aF h1];refine⟨by omega,h1,aH (i+1) (show i+1<=m.fs.length by omega) (show m.fs.length-(i+1)<m.fs.length-i by omega) (Wk.of ?_ ?_)⟩
  .simp only[go_sem,e8,ht];try simp
  .simp only[go_sem]
 obtain rfl:i=m.fs.length:=by omega
 rw[rN,show JP 0 (m.fs.map λx=>x.b.length)=UM m from rfl];simp only[go_sem,aI h1];clear hi h1;refine aA (λi:Nat=>⟨[(5,.int .i64 (i:Nat)),(3,.int .i64 (JP (UM m) ((m.gs.take i).map λx=>x.i.length))),(1,.mp 1 12 0 0)],[(1,⟨33,12,[nX m],true⟩)]⟩) (λi=>i<=m.gs.length) (λi=>m.gs.length-i) 0 (dx _) (Wk.of ?_ ?_) ?_
 .simp only[go_sem,jK,eA,JP,List.foldl_nil];try simp
 .simp only[go_sem]
 intro i hi;by_cases h1:(i:Int)<(m.gs.length:Int)
 .have hi':i<m.gs.length:=by omega
  have e8:=cK hi' (by have:=h.gs.1;omega);have ht:=JQ (λx:Gd=>x.i.length) hi' (UM m);simp only[go_sem,aF h1];refine⟨by omega,h1,aH (i+1) (show i+1<=m.gs.length by omega) (show m.gs.length-(i+1)<m.gs.length-i by omega) (Wk.of ?_ ?_)⟩
  .simp only[go_sem,e8,ht];try simp
  .simp only[go_sem]
 obtain rfl:i=m.gs.length:=by omega
 rw[rN,show JP (UM m) (m.gs.map λx=>x.i.length)=NC m from rfl];simp only[go_sem,aI h1];clear hi h1;refine aA (λi:Nat=>⟨[(6,.int .i64 (i:Nat)),(3,.int .i64 (Zg (NC m) (m.els.take i))),(1,.mp 1 12 0 0)],[(1,⟨33,12,[nX m],true⟩)]⟩) (λi=>i<=m.els.length) (λi=>m.els.length-i) 0 (dx _) (Wk.of ?_ ?_) ?_
 .simp only[go_sem,jK,Zg,List.foldl_nil];try simp
 .simp only[go_sem]
 intro i hi;by_cases h1:(i:Int)<(m.els.length:Int)
 .have hi':i<m.els.length:=by omega
  have e8:=cK hi' (by have:=h.els.1;omega);have ht:=ad5 hi' (NC m);have hit:=(h.els.2 (av m.els i) (by rw[aY hi'];exact eH hi')).2.1;simp only[go_sem,aF h1];refine⟨by omega,h1,?_⟩;refine aA (λq:Nat=>⟨[(7,.int .i64 (q:Nat)),(3,.int .i64 (JP (IntKind.i64.wrap (Zg (NC m) (m.els.take i)+((av m.els i).o.length:Int))) (((av m.els i).it.take q).map List.length))),(6,.int .i64 i),(1,.mp 1 12 0 0)],[(1,⟨33,12,[nX m],true⟩)]⟩) (λq=>q<=(av m.els i).it.length) (λq=>(av m.els i).it.length-q) 0 (dx _) (Wk.of ?_ ?_) ?_
  .simp only[go_sem,jK,eA,JP,List.foldl_nil];try simp
  .simp only[go_sem]
  intro q hq;by_cases q1:(q:Int)<((av m.els i).it.length:Int)
  .have hq':q<(av m.els i).it.length:=by omega
   have e9:=cK hq' (by omega);have hu:=JQ List.length hq' (IntKind.i64.wrap (Zg (NC m) (m.els.take i)+((av m.els i).o.length:Int)));simp only[go_sem,aF q1];refine⟨by omega,h1,by omega,h1,by omega,q1,aH (q+1) (show q+1<=(av m.els i).it.length by omega) (show(av m.els i).it.length-(q+1)<(av m.els i).it.length-q by omega) (Wk.of ?_ ?_)⟩
   .simp only[go_sem,e9,hu];try simp
   .simp only[go_sem]
  obtain rfl:q=(av m.els i).it.length:=by omega
  rw[rN,<-ht];simp only[go_sem,aI q1];refine⟨by omega,h1,?_⟩;refine aH (i+1) (show i+1<=m.els.length by omega) (show m.els.length-(i+1)<m.els.length-i by omega) (Wk.of ?_ ?_)
  .simp only[go_sem,e8];try simp
  .simp only[go_sem]
 obtain rfl:i=m.els.length:=by omega
 rw[rN,show Zg (NC m) m.els=UN m from rfl];simp only[go_sem,aI h1];clear hi h1;refine aA (λi:Nat=>⟨[(8,.int .i64 (i:Nat)),(3,.int .i64 (JP (UN m) ((m.ds.take i).map λx=>x.o.length))),(1,.mp 1 12 0 0)],[(1,⟨33,12,[nX m],true⟩)]⟩) (λi=>i<=m.ds.length) (λi=>m.ds.length-i) 0 (dx _) (Wk.of ?_ ?_) ?_
 .simp only[go_sem,jK,eA,JP,List.foldl_nil];try simp
 .simp only[go_sem]
 intro i hi;by_cases h1:(i:Int)<(m.ds.length:Int)
 .have hi':i<m.ds.length:=by omega
  have e8:=cK hi' (by have:=h.ds.1;omega);have ht:=JQ (λx:Da=>x.o.length) hi' (UN m);simp only[go_sem,aF h1];refine⟨by omega,h1,aH (i+1) (show i+1<=m.ds.length by omega) (show m.ds.length-(i+1)<m.ds.length-i by omega) (Wk.of ?_ ?_)⟩
  .simp only[go_sem,e8,ht];try simp
  .simp only[go_sem]
 obtain rfl:i=m.ds.length:=by omega
 rw[rN,show JP (UN m) (m.ds.map λx=>x.o.length)=ZK m from rfl];simp only[go_sem,aI h1];clear hi h1;exact ah
end
section
def ln8(m:Md):Nat:=m.ts.length+m.ims.length+m.fs.length+m.exs.length+m.els.length+m.ds.length+m.cs.length+m.gs.length
def agx(m:Md):Bool:=decide (ZK m<=600)&&decide ((ln8 m:Int)<=300)
attribute[local go_sem] bY aM
def abW{m:Md}(h:yD m):aj pg FN [ba m] (.bool (agx m)):=by
 refine ao wB ?_;have c:=WB m h;simp only[ba,aM]at c;simp only[go_sem,wB,ba];refine ae (c) ?_;unfold agx;by_cases q:ZK m<=600;rotate_left
 .rw[aI q];simp only[go_sem,aI q];exact ah
 rw[aF q];have b1:=h.ts.1;have b2:=h.ims;have b3:=h.fs.1;have b4:=h.exs;have b5:=h.els.1;have b6:=h.ds.1;have b7:=h.cs.1;have b8:=h.gs.1;have w1:=wi (n:=(m.ts.length:Int)+m.ims.length) (by omega) (by omega);have w2:=wi (n:=(m.ts.length:Int)+m.ims.length+m.fs.length) (by omega) (by omega);have w3:=wi (n:=(m.ts.length:Int)+m.ims.length+m.fs.length+m.exs.length) (by omega) (by omega);have w4:=wi (n:=(m.ts.length:Int)+m.ims.length+m.fs.length+m.exs.length+m.els.length) (by omega) (by omega);have w5:=wi (n:=(m.ts.length:Int)+m.ims.length+m.fs.length+m.exs.length+m.els.length+m.ds.length) (by omega) (by omega);have w6:=wi (n:=(m.ts.length:Int)+m.ims.length+m.fs.length+m.exs.length+m.els.length+m.ds.length+m.cs.length) (by omega) (by omega);have w7:=wi (n:=(m.ts.length:Int)+m.ims.length+m.fs.length+m.exs.length+m.els.length+m.ds.length+m.cs.length+m.gs.length) (by omega) (by omega);have e:(ln8 m:Int)=(m.ts.length:Int)+m.ims.length+m.fs.length+m.exs.length+m.els.length+m.ds.length+m.cs.length+m.gs.length:=by unfold ln8;omega
 rw[e];simp only[go_sem,aF q,w1,w2,w3,w4,w5,w6,w7];exact ah
def Fg{B:Nat}(hB:B<=140737488355328){l:List bj}(h:bL Ki B l):Mr l:=⟨by have:=h.1;omega,λx hx=>⟨by have:=(h.2 x hx).2.1.1;omega,by have:=(h.2 x hx).2.2.1;omega,(h.2 x hx).1.1⟩⟩
def ajU{B:Nat}(hB:B<=140737488355328){m:Md}(hm:ahA B m):yD m:=by
 obtain⟨b1,b2,b3,b4,b5,b6,b7,b8,b9,b10⟩:=hm;exact⟨⟨gD b1.1 hB,λx hx=>⟨by have:=(b1.2 x hx).1.1;omega,by have:=(b1.2 x hx).2.1;omega⟩⟩,gD b2.1 hB,⟨gD b3.1 hB,λx hx=>⟨by have:=(b3.2 x hx).1.1;omega,Fg hB (b3.2 x hx).2⟩⟩,gD b4.1 hB,gD b5.1 hB,⟨gD b6.1 hB,λx hx=>Fg hB (b6.2 x hx)⟩,gD b7.1 hB,⟨gD b8.1 hB,λx hx=>⟨Fg hB (b8.2 x hx).1,gD (b8.2 x hx).2.1 hB,λl hl=>Fg hB ((b8.2 x hx).2.2 l hl)⟩⟩,⟨gD b9.1 hB,λx hx=>⟨Fg hB (b9.2 x hx).1,by have:=(b9.2 x hx).2.1;omega⟩⟩,⟨gD b10.1 hB,λx hx=>by have:=(b10.2 x hx).2.1;show x.b.length<=_;omega⟩⟩
def exT:List Ft:=[⟨[],[1]⟩]
def QU:Md:=⟨exT,[],[⟨0,[],[⟨66,0,0,1,0,0,0,[],[]⟩,⟨11,0,0,0,0,0,0,[],[]⟩]⟩],[],[],[],[],false,0,[],[],[]⟩
def QV:Md:=⟨exT,[],[⟨0,[],[⟨65,0,0,1,0,0,0,[],[]⟩,⟨11,0,0,0,0,0,0,[],[]⟩]⟩],[],[],[],[⟨[120],0,0⟩,⟨[120],0,7⟩],false,0,[],[],[]⟩
def T0:Md:=⟨[],[],[],[],[],[],[],false,0,[],[],[]⟩
def akD:kO QU =⟨12,0,1,12⟩:=by kernel_rfl
def akE:kO QV =⟨7,1,0,21⟩:=by kernel_rfl
def ahY:kO T0 =⟨0,0,0,0⟩:=by kernel_rfl
def rw0:List AV:=[.nl,.nl,.nl,.nl,.nl,.nl,.nl,.bool false,.int .i64 0,.nl,.nl,.nl]
def rwI(op n:Int):List AV:=[.int .i64 op,.int .i64 0,.int .i64 0,.int .u64 n,.int .i64 0,.int .i64 0,.int .i64 0,.nl,.nl]
def rwA:List AV:=[.sl 2 [[.nl,.sl 1 [[.int .i64 1]]]],.nl,.sl 3 [[.int .i64 0,.nl,.sl 9 [rwI 66 1,rwI 11 0]]],.nl,.nl,.nl,.nl,.bool false,.int .i64 0,.nl,.nl,.nl]
def rwB:List AV:=[.sl 2 [[.nl,.sl 1 [[.int .i64 1]]]],.nl,.sl 3 [[.int .i64 0,.nl,.sl 9 [rwI 65 1,rwI 11 0]]],.nl,.nl,.nl,.sl 3 [[.str [120],.int .i64 0,.int .i64 0],[.str [120],.int .i64 0,.int .i64 7]],.bool false,.int .i64 0,.nl,.nl,.nl]
def aiY(op n:Int):bg Nd (rwI op n) (cQ ⟨op,0,0,n,0,0,0,[],[]⟩):=⟨.rfl _,.rfl _,.rfl _,.rfl _,.rfl _,.rfl _,.rfl _,.nl _,.nl _,trivial⟩
def aiX(op n op' n':Int):Nd (.sl 9 [rwI op n,rwI op' n']) (.sl 9 [cQ ⟨op,0,0,n,0,0,0,[],[]⟩,cQ ⟨op',0,0,n',0,0,0,[],[]⟩]):=A6 ⟨aiY _ _,aiY _ _,trivial⟩
def acI:nld (.agg rw0) (ba T0):=.inr ⟨_,_,rfl,rfl,.nl _,.nl _,.nl _,.nl _,.nl _,.nl _,.nl _,.rfl _,.rfl _,.nl _,.nl _,.nl _,trivial⟩
def aiZ:nld (.agg rwA) (ba QU):=.inr ⟨_,_,rfl,rfl,A6 ⟨⟨.nl _,.rfl _,trivial⟩,trivial⟩,.nl _,A6 ⟨⟨.rfl _,.nl _,aiX _ _ _ _,trivial⟩,trivial⟩,.nl _,.nl _,.nl _,.nl _,.rfl _,.rfl _,.nl _,.nl _,.nl _,trivial⟩
def ai0:nld (.agg rwB) (ba QV):=.inr ⟨_,_,rfl,rfl,A6 ⟨⟨.nl _,.rfl _,trivial⟩,trivial⟩,.nl _,A6 ⟨⟨.rfl _,.nl _,aiX _ _ _ _,trivial⟩,trivial⟩,.nl _,.nl _,.nl _,.rfl _,.rfl _,.rfl _,.nl _,.nl _,.nl _,trivial⟩
def acZ:yD T0:=⟨⟨by decide,λx h=>by cases h⟩,by decide,⟨by decide,λx h=>by cases h⟩,by decide,by decide,⟨by decide,λx h=>by cases h⟩,by decide,⟨by decide,λx h=>by cases h⟩,⟨by decide,λx h=>by cases h⟩,⟨by decide,λx h=>by cases h⟩⟩
def ac0(op n op' n':Int)(h:0<=n)(h':0<=n'):∀y∈[(⟨op,0,0,n,0,0,0,[],[]⟩:bj),⟨op',0,0,n',0,0,0,[],[]⟩],C_ y:=λy hy=>by
 simp only[bM,cH,or_false]at hy;rcases hy with rfl|rfl
 .exact⟨by simp,by simp,h⟩
 .exact⟨by simp,by simp,h'⟩
def ajV:yD QU:=⟨⟨by decide,λx hx=>by
  simp only[QU,exT,fS]at hx;subst hx;exact⟨by decide,by decide⟩⟩,by decide,⟨by decide,λx hx=>by
  simp only[QU,fS]at hx;subst hx;exact⟨by decide,by decide,ac0 _ _ _ _ (by decide) (by decide)⟩⟩,by decide,by decide,⟨by decide,λx h=>by cases h⟩,by decide,⟨by decide,λx h=>by cases h⟩,⟨by decide,λx h=>by cases h⟩,⟨by decide,λx h=>by cases h⟩⟩
def ajW:yD QV:=⟨⟨by decide,λx hx=>by
  simp only[QV,exT,fS]at hx;subst hx;exact⟨by decide,by decide⟩⟩,by decide,⟨by decide,λx hx=>by
  simp only[QV,fS]at hx;subst hx;exact⟨by decide,by decide,ac0 _ _ _ _ (by decide) (by decide)⟩⟩,by decide,by decide,⟨by decide,λx h=>by cases h⟩,by decide,⟨by decide,λx h=>by cases h⟩,⟨by decide,λx h=>by cases h⟩,⟨by decide,λx h=>by cases h⟩⟩
def R3:aj pg FM [] (.bool true):=by
 refine ao wA ?_;have c0:=Dh T0 acZ;rw[ahY]at c0;replace c0:=nN (xs:=[.agg rw0]) c0 ⟨acI,trivial⟩;have k0:=aj6 T0 acZ;rw[ahY]at k0;replace k0:=nN (xs:=[.agg rw0]) k0 ⟨acI,trivial⟩;have ca:=Dh QU ajV;rw[akD]at ca;replace ca:=nN (xs:=[.agg rwA]) ca ⟨aiZ,trivial⟩;have cb:=Dh QV ajW;rw[akE]at cb;replace cb:=nN (xs:=[.agg rwB]) cb ⟨ai0,trivial⟩;simp only[rw0]at c0 k0;simp only[rwA,rwI]at ca;simp only[rwB,rwI]at cb;simp only[go_sem,wA];refine⟨_,Wk.frzs [4] _,?_⟩;simp only[Bb];simp only[go_sem,aQ,List.take_succ_cons,jK];refine⟨_,Wk.frzs [10,6] _,?_⟩;simp only[Bb];simp only[go_sem,aQ,List.take_succ_cons,jK];refine bR [12] ?_ ca (by simp[go_sem]) ?_
 .simp only[go_sem,aQ,List.take_succ_cons,jK]
  try rfl
 simp only[go_sem];refine⟨_,Wk.frzs [18] _,?_⟩;simp only[Bb];simp only[go_sem,aQ,List.take_succ_cons,jK];refine bR [20,23] ?_ cb (by simp[go_sem]) ?_
 .simp only[go_sem,aQ,List.take_succ_cons,jK]
  try rfl
 simp only[go_sem];refine aa (k0) ?_;refine aa (c0) ?_;exact ah
end
section
def H7(id:Nat)(t:TypeId)(st:Nat){α:Type}(f:α->List AV)(l:List α)(h:l.length<137438953472)(hid:id<1000):AF id t st 0 0 (l.map f) (some ⟨t,st,[],false⟩)=some (.ms id st 0 l.length,.reb id ⟨t,st,l.map f,false⟩):=by
 have:=AG id t st 0 [] (l.map f) rfl;rw[this,az ⟨by rw[bY];exact h,by decide,.inl hid⟩,bY,dk,gC]
def YQ(id:Nat)(t:TypeId)(st:Nat){α:Type}(f:α->List AV)(l:List α)(r:List AV)(h:l.length<137438953472)(hid:id<1000):AF id t st 0 l.length [r] (some ⟨t,st,l.map f,false⟩)=some (.ms id st 0 (l.length+1),.reb id ⟨t,st,l.map f++[r],false⟩):=by
 rw[AG _ _ _ _ _ _ (bY f),az ⟨by simp,h,.inl hid⟩];rfl
def JU{α:Type}(f:α->List AV)(l:List α)(r:List AV):(l.map f++[r]).take (l.length+1)=l.map f++[r]:=iF (by simp)
attribute[local go_sem] bY aM
end
section
def yC(S:Sk):List Int:=(cu (S.t::S.u)).map (·.1)
def vP(S:Sk):List Bool:=(cu (S.t::S.u)).map (·.2)
def E5(S:Sk)(mo:Int):List AV:=[.sl 1 (S.all.map aS),.sl 1 ((yC S).map aS),.sl 1 ((vP S).map rt),.int .i64 mo]
def dh(S:Sk)(mo:Int):E5 S mo=[.sl 1 (S.all.map aS),.sl 1 ((yC S).map aS),.sl 1 ((vP S).map rt),.int .i64 mo]:=rfl
def IA(S:Sk):(yC S).length=S.u.length+1:=by unfold yC;rw[bY,ES]
def CY(S:Sk):(vP S).length=S.u.length+1:=by unfold vP;rw[bY,ES]
def VU(S:Sk):av (yC S) S.u.length=((bI S.u).length:Int):=by
 unfold yC;rw[cu,dY];exact iX _ _ (by rw[bY,dw])
def Vw(S:Sk):av (vP S) S.u.length=S.t.lo:=by
 unfold vP;rw[cu,dY];exact iX _ _ (by rw[bY,dw])
def wr1{n:Nat}(h:n<1000000000):IntKind.i64.wrap (((n+1:Nat):Int)-1)=(n:Int):=by rw[wi (by omega) (by omega)];omega
def YO{α β:Type}(f:α->β)(a b:List α):(a.map f++b.map f).take (a.length+b.length)=a.map f++b.map f:=iF (by simp)
def Kg{α β:Type}(f:α->β)(a:List α)(x:β):(a.map f++[x]).take (a.length+1)=a.map f++[x]:=iF (by simp)
attribute[local go_sem] bY dh fg
def Oe(S:Sk)(mo:Int)(hb:S.u.length<1000000):aj pg I1 [.agg (E5 S mo)] (.int .i64 ((bI S.u).length:Int)):=by
 refine ao yQ ?_;have hl:=IA S;have hn:=VU S;have hw:=wr1 (n:=S.u.length) (by omega);simp only[go_sem,yQ,hl,hw,cL,hn];refine⟨by omega,by omega,?_⟩;exact ah
def ajl(S:Sk)(mo:Int)(hb:S.u.length<1000000):aj pg Gv [.agg (E5 S mo)] (.bool S.t.lo):=by
 refine ao xd ?_;have hl:=CY S;have hn:=Vw S;have hw:=wr1 (n:=S.u.length) (by omega);simp only[go_sem,xd,hl,hw,cL,hn];refine⟨by omega,by omega,?_⟩;exact ah
def aga(S:Sk)(mo:Int):aj pg I3 [.agg (E5 S mo)] (.bool (decide (mo>256))):=by
 refine ao yS ?_;simp only[go_sem,yS];exact ah
def alv(S:Sk)(r:List Int):yC {S with t:=⟨r,S.t.lo⟩}=yC S/\vP {S with t:=⟨r,S.t.lo⟩}=vP S:=⟨rfl,rfl⟩
def HO(S:Sk)(mo:Int)(hu:S.u.length<1000000)(hl:S.all.length<1000000):aj pg Lo [.agg (E5 S mo)] (.tup [.agg (E5 S.pop.2.2 mo),.int .i64 S.pop.1,.int .i64 S.pop.2.1]):=by
 refine ao BH ?_;have cm:=Oe S mo hu;have cl:=ajl S mo hu;have ha:S.all.length=(bI S.u).length+S.t.l.length:=by rw[jj,dN]
 simp only[dh]at cm cl;obtain⟨R,hR⟩:∃R,S.t.l.reverse=R:=⟨_,rfl⟩
 unfold Sk.pop;rw[hR];have hlR:S.t.l=R.reverse:=by rw[<-hR,List.reverse_reverse]
 simp only[go_sem,BH];refine ae (cm) ?_;cases R with
 | nil =>
  have hz:S.t.l.length=0:=by rw[hlR];rfl
  simp only[go_sem,aI (show ¬(S.all.length:Int)>((bI S.u).length:Int)by omega)];refine ae (cl) ?_;cases hlo:S.t.lo
  .simp only[go_sem];exact aq [] (by simp only[go_sem,lD,ij];try rfl) (by rfl)
  .simp only[go_sem];exact aq [] (by simp only[go_sem,dR];try rfl) (by rfl)
 | cons x r =>
  have hz:S.t.l.length=r.length+1:=by rw[hlR];simp
  have hall:S.all=(bI S.u++r.reverse)++[x]:=by rw[jj,hlR];simp
  have hal:S.all.length=(bI S.u++r.reverse).length+1:=by rw[hall,dN];rfl
  have hw:=wr1 (n:=(bI S.u++r.reverse).length) (by omega);have e2:Sk.all {S with t:=⟨r.reverse,S.t.lo⟩}=bI S.u++r.reverse:=rfl;obtain⟨m1,m2⟩:=alv S r.reverse;have hn:av S.all (bI S.u++r.reverse).length=x:=by rw[hall];exact iX _ _ rfl
  have htk:(S.all.map aS).take (bI S.u++r.reverse).length=(bI S.u++r.reverse).map aS:=by rw[hall,dY,List.take_append_of_le_length (by simp),iF (by simp)]
  generalize bI S.u++r.reverse=L at*;have hgt:(L.length+1:Nat)>(bI S.u).length:=by omega
  simp only[go_sem,hal,hw,cL,hn,aF (show((L.length+1:Nat):Int)>((bI S.u).length:Int)by omega)];refine⟨by omega,by omega,⟨by omega,by omega⟩,?_⟩;exact aq [] (by simp only[go_sem,m1,m2,e2,List.map_take,htk]) (by rfl)
def D_(mo:Int)(n:Nat):Int:=if mo<(n:Int)then(n:Int)else mo
def wt(S:Sk)(ts:List Int):Sk:={S with t:=⟨ts.reverse,S.t.lo⟩}
def alZ(S:Sk):wt S S.t.l.reverse=S:=by unfold wt;rw[List.reverse_reverse]
def agW(S:Sk):(wt S []).pop=if S.t.lo=true then(0,0,wt S [])else(0,13,wt S []):=rfl
def ab0(S:Sk)(t:Int)(r:List Int):(wt S (t::r)).pop=(t,0,wt S r):=by
 unfold Sk.pop wt;simp only[List.reverse_reverse]
def agV{S:Sk}{ts:List Int}(h:ts.length<=S.t.l.length):(wt S ts).all.length<=S.all.length:=by
 rw[jj,jj];show(bI S.u++ts.reverse).length<=_;simp only[dN,List.length_reverse];omega
def xH(S:Sk):Option (List Int)×Int->Int×Sk
 | (some r,_)=>(0,wt S r)
 | (none,e)=>(e,S)
def yy(S:Sk)(l:List Int):S.want l=xH S (dP S.t.lo S.t.l.reverse l.reverse):=by
 unfold Sk.want Sk.left xH;rfl
def EP:∀(lo:Bool)(ts ws:List Int),(dP lo ts ws).1=none->(dP lo ts ws).2≠0
 | lo,ts,[],h=>by cases ts<;>cases h
 | lo,[],w::ws,h=>by
  rw[dP]at h⊢;split
  .rename_i q;rw[az q]at h;exact EP lo [] ws h
  .exact(by decide:(13:Int)≠0)
 | lo,t::ts,w::ws,h=>by
  rw[dP]at h⊢;split
  .exact(by decide:(12:Int)≠0)
  .rename_i q;rw[an q]at h;exact EP lo ts ws h
def N5:∀(lo:Bool)(ts ws r:List Int),(dP lo ts ws).1=some r->r.length<=ts.length
 | lo,ts,[],r,h=>by
  have:(dP lo ts []).1=some ts:=by cases ts<;>rfl
  rw[this]at h;cases h;exact aQ _
 | lo,[],w::ws,r,h=>by
  rw[dP]at h;split at h
  .exact N5 lo [] ws r h
  .cases h
 | lo,t::ts,w::ws,r,h=>by
  rw[dP]at h;split at h
  .cases h
  .exact Nat.le_succ_of_le (N5 lo ts ws r h)
def Jy(ts:List Int)(lo:Bool):dP lo ts []=(some ts,0):=by cases ts<;>rfl
def N4{lo:Bool}{t w:Int}{ts ws:List Int}:dP lo (t::ts) (w::ws)=if t≠w/\t≠0/\w≠0 then(none,12)else dP lo ts ws:=rfl
def N6{lo:Bool}{w:Int}{ws:List Int}:dP lo [] (w::ws)=if lo=true then dP lo [] ws else(none,13):=rfl
def j4(S:Sk)(mo:Int)(l:List Int)(q:Nat×List Int):St:=⟨[(7,.int .i64 ((q.1:Int)-1)),(1,.sl 1 (l.map aS)),(2,.mp 2 4 0 0),(4,.mp 4 4 0 0),(6,.mp 6 4 0 0)],[(2,⟨233,4,[E5 (wt S q.2) mo],true⟩),(4,⟨233,4,[[.nl,.nl,.nl,.int .i64 0]],true⟩),(6,⟨233,4,[E5 S mo],true⟩)]⟩
def yq(S:Sk)(mo:Int)(l:List Int)(hu:S.u.length<1000000)(hl:S.all.length<1000000)(hll:l.length<1000000):aj pg I6 [.agg (E5 S mo),.sl 1 (l.map aS)] (.tup [.agg (E5 (S.want l).2 mo),.int .i64 (S.want l).1]):=by
 refine ao yV ?_;rw[yy];obtain⟨R,hR⟩:∃R,dP S.t.lo S.t.l.reverse l.reverse=R:=⟨_,rfl⟩
 rw[hR];simp only[go_sem,yV];refine aA (j4 S mo l) (λq=>q.1<=l.length/\q.2.length<=S.t.l.length/\dP S.t.lo q.2 (l.take q.1).reverse=R) (λq=>q.1) (l.length,S.t.l.reverse) ⟨aQ _,by simp,by simp only[rN];exact hR⟩ (Wk.of ?_ ?_) ?_
 .have w:=wi (n:=(l.length:Int)-1) (by omega) (by omega);simp only[go_sem,j4,w];try simp
 .simp only[go_sem,j4,alZ];try simp
 rintro⟨j,ts⟩ ⟨hj,ht,hP⟩;simp only at hj ht hP;cases j with
 | zero =>
  rw[jK,List.reverse_nil,Jy]at hP;subst hP;simp only[go_sem,j4,xH,show decide (((0:Nat):Int)-1>=0)=false from rfl];exact aq [] (by simp only[go_sem];try rfl) (by rfl)
 | succ j =>
  have hj':j<l.length:=by omega
  have hr:(l.take (j+1)).reverse=av l j::(l.take j).reverse:=by rw[Fm hj',List.reverse_append];rfl
  rw[hr]at hP;have hsub:IntKind.i64.wrap ((j:Int)-1)=(j:Int)-1:=wi (by omega) (by omega);have hjj:(((j+1:Nat):Int)-1)=(j:Int):=by omega
  have hlen:=agV ht;have cp:=HO (wt S ts) mo hu (by omega);simp only[dh]at cp;have hge:decide ((j:Int)>=0)=true:=aF (by omega);cases ts with
  | nil =>
   rw[N6]at hP;rw[agW]at cp;cases hlo:S.t.lo
   .rw[hlo,an (by decide)]at hP;rw[hlo,an (by decide)]at cp;simp only at cp;subst hP;simp only[go_sem,j4,xH,hjj,hge];refine aa (cp) ?_;exact aq [] (by simp only[go_sem];try rfl) (by rfl)
   .rw[hlo,az rfl]at hP;rw[hlo,az rfl]at cp;simp only at cp;simp only[go_sem,j4,hjj,hge];refine ae (cp) ?_;by_cases q:(0:Int)=av l j
    .simp only[go_sem,ay q,cL];refine⟨by omega,by omega,aH (j,[]) ⟨by show j<=l.length;omega,ht,hP⟩ (show j<j+1 by omega) (Wk.of ?_ ?_)⟩
     .simp only[go_sem,j4,hsub];try simp
     .simp only[go_sem,j4];try simp
    .simp only[go_sem,aE q,cL];refine⟨by omega,by omega,aH (j,[]) ⟨by show j<=l.length;omega,ht,hP⟩ (show j<j+1 by omega) (Wk.of ?_ ?_)⟩
     .simp only[go_sem,j4,hsub];try simp
     .simp only[go_sem,j4];try simp
  | cons t r =>
   rw[N4]at hP;rw[ab0]at cp;simp only at cp;have hrl:r.length<=S.t.l.length:=by have:(t::r).length=r.length+1:=rfl;omega
   by_cases q1:t=av l j
   .rw[an (λz=>z.1 q1)]at hP;simp only[go_sem,j4,hjj,hge];refine ae (cp) ?_;simp only[go_sem,ay q1,cL];refine⟨by omega,by omega,aH (j,r) ⟨by show j<=l.length;omega,hrl,hP⟩ (show j<j+1 by omega) (Wk.of ?_ ?_)⟩
    .simp only[go_sem,j4,hsub];try simp
    .simp only[go_sem,j4];try simp
   by_cases q2:t=0
   .rw[an (λz=>z.2.1 q2)]at hP;simp only[go_sem,j4,hjj,hge];refine ae (cp) ?_;simp only[go_sem,aE q1,ay q2,cL];refine⟨by omega,by omega,aH (j,r) ⟨by show j<=l.length;omega,hrl,hP⟩ (show j<j+1 by omega) (Wk.of ?_ ?_)⟩
    .simp only[go_sem,j4,hsub];try simp
    .simp only[go_sem,j4];try simp
   by_cases q3:av l j=0
   .rw[an (λz=>z.2.2 q3)]at hP;simp only[go_sem,j4,hjj,hge];refine ae (cp) ?_;simp only[go_sem,aE q1,aE q2,ay q3,cL];refine⟨by omega,by omega,by omega,by omega,aH (j,r) ⟨by show j<=l.length;omega,hrl,hP⟩ (show j<j+1 by omega) (Wk.of ?_ ?_)⟩
    .simp only[go_sem,j4,hsub];try simp
    .simp only[go_sem,j4];try simp
   rw[az ⟨q1,q2,q3⟩]at hP;subst hP;simp only[go_sem,j4,xH,hjj,hge];refine ae (cp) ?_;simp only[go_sem,aE q1,aE q2,aE q3,cL];refine⟨by omega,by omega,by omega,by omega,?_⟩;exact aq [] (by simp only[go_sem];try rfl) (by rfl)
def pG(S:Sk)(mo:Int)(l:List Int)(hl:S.all.length<1000000)(hll:l.length<1000000):aj pg I4 [.agg (E5 S mo),.sl 1 (l.map aS)] (.agg (E5 (S.push l) (D_ mo (S.all.length+l.length)))):=by
 refine ao yU ?_;have ha:=cC 9 48 1 S.all.length aS S.all (l.map aS) rfl;have e1:(S.push l).all=S.all++l:=dW S l;have e2:yC (S.push l)=yC S:=rfl;have e3:vP (S.push l)=vP S:=rfl;simp only[go_sem,yU,ha];refine⟨by omega,⟨by omega,by omega⟩,?_⟩;exact aq [9] (by simp only[go_sem,e1,e2,e3,D_,dN,fo,aQ,dk,YO,dY]) (by rfl)
def EW(S:Sk)(mo:Int)(hu:S.u.length<1000000)(hl:S.all.length<1000000):aj pg I2 [.agg (E5 S mo)] (.agg (E5 S.opn mo)):=by
 refine ao yR ?_;have ha:=cC 8 3 1 (yC S).length aS (yC S) [[.int .i64 S.all.length]] rfl;have hb:=cC 18 4 1 (vP S).length rt (vP S) [[.bool false]] rfl;have l1:=IA S;have l2:=CY S;have e1:S.opn.all=S.all:=oS S;have e2:yC S.opn=yC S++[(S.all.length:Int)]:=by simp only[yC,Sk.opn,cu,dY,cM,eA];rfl
 have e3:vP S.opn=vP S++[false]:=by simp only[vP,Sk.opn,cu,dY,cM,eA]
 simp only[go_sem,yR,ha,hb,i9,eG];refine⟨by omega,by omega,by omega,by omega,?_⟩;exact aq [8,18] (by simp only[go_sem,e1,e2,e3,dN,i9,eG,fo,aQ,dk,Kg,dY,cM,eA,abr]) (by rfl)
def ajn:aj pg Ln [] (.agg (E5 ⟨⟨[],false⟩,[],false⟩ 0)):=by
 refine ao BG ?_;simp only[go_sem,BG];refine dB ((Wk.frzs [1,2] _).trans (Wk.nlh _ 0 (r:=[.nl,.sl 1 [[.int .i64 0]],.sl 1 [[.bool false]],.int .i64 0]) (r':=[.sl 1 [],.sl 1 [[.int .i64 0]],.sl 1 [[.bool false]],.int .i64 0]) (by rfl) ⟨.inr ⟨rfl,1,rfl⟩,.inl rfl,.inl rfl,.inl rfl,trivial⟩)) [] (by rfl) rfl
def RU(S:Sk)(mo:Int)(hu:S.u.length<1000000)(hl:S.all.length<1000000):aj pg Gu [.agg (E5 S mo)] (.agg (E5 S.loose mo)):=by
 refine ao xc ?_;have cm:=Oe S mo hu;simp only[dh]at cm;have hal:S.all.length=(bI S.u).length+S.t.l.length:=by rw[jj,dN]
 have l2:=CY S;have hw:=wr1 (n:=S.u.length) (by omega);obtain⟨lo0,hlo⟩:∃l,vP S=l++[S.t.lo]/\l.length=S.u.length:=⟨(cu S.u).map (·.2),by simp only[vP,cu,dY,cM,eA],by rw[bY,dw]⟩
 have hb:=cC 18 4 1 lo0.length rt lo0 [[.bool true]] rfl;have e1:S.loose.all=bI S.u:=ml _;have e2:yC S.loose=yC S:=by simp only[yC,Sk.loose,cu,dY,cM,eA]
 have e3:vP S.loose=lo0++[true]:=by
  have h1:vP S.loose=(cu S.u).map (·.2)++[true]:=by simp only[vP,Sk.loose,cu,dY,cM,eA]
  have h2:vP S=(cu S.u).map (·.2)++[S.t.lo]:=by simp only[vP,cu,dY,cM,eA]
  rw[h1,List.append_inj_left' (h2.symm.trans hlo.1) rfl]
 have hcast:IntKind.i64.wrap ((bI S.u).length:Int)=((bI S.u).length:Int):=wi (by omega) (by omega);simp only[go_sem,xc];refine ax cm (by simp[go_sem]) rfl ?_;have t1:(vP S).take S.u.length=lo0:=by rw[hlo.1,<-hlo.2,List.take_left'];rfl
 have t2:S.all.take (bI S.u).length=bI S.u:=by rw[jj,List.take_left'];rfl
 have hl0:=hlo.2;simp only[go_sem,l2,hw,cL,t1,t2,hb,i9,eG];refine⟨⟨by omega,by omega⟩,⟨by omega,by omega⟩,by omega,by omega,?_⟩;exact aq [18] (by simp only[go_sem,e1,e2,e3,dN,i9,eG,fo,aQ,dk,Kg,dY,cM,eA,abr]) (by rfl)
def On(S:Sk)(l:List Int):S.shut l=match dP S.t.lo S.t.l.reverse l.reverse with
  | (none,e)=>(e,S)
  | (some (_::_),_)=>(14,S)
  | (some [],_)=>match S.u with
   | []=>(0,{S with t:=⟨[],false⟩})
   | g::r=>(0,{S with t:=g,u:=r}):=rfl
def WO(S:Sk)(mo:Int)(l:List Int)(hu:S.u.length<1000000)(hl:S.all.length<1000000)(hll:l.length<1000000):aj pg I5 [.agg (E5 S mo),.sl 1 (l.map aS)] (.tup [.agg (E5 (S.shut l).2 mo),.int .i64 (S.shut l).1]):=by
 refine ao qO ?_;have cw:=yq S mo l hu hl hll;rw[On];rw[yy]at cw;have hpe:(dP S.t.lo S.t.l.reverse l.reverse).1=none->(dP S.t.lo S.t.l.reverse l.reverse).2≠0:=EP _ _ _;have hpl:∀r,(dP S.t.lo S.t.l.reverse l.reverse).1=some r->r.length<=S.t.l.length:=λr h=>by simpa using N5 _ _ _ r h
 obtain⟨R,hR⟩:∃R,dP S.t.lo S.t.l.reverse l.reverse=R:=⟨_,rfl⟩
 rw[hR]at cw hpe hpl⊢;obtain⟨o,e⟩:=R;cases o with
 | none =>
  have hpe:=hpe rfl;simp only[xH,dh]at cw hpe⊢;simp only[go_sem,qO];refine ae (cw) ?_;simp only[go_sem,aE hpe];exact ah
 | some r =>
  have hrl:=hpl r rfl;have cm:=Oe (wt S r) mo hu;simp only[xH,dh]at cw cm;have hlen:(wt S r).all.length=(bI S.u).length+r.length:=by rw[jj];show(bI S.u++r.reverse).length=_;simp
  have hcu:(wt S r).u=S.u:=rfl;rw[hcu]at cm;have l1:(yC (wt S r)).length=S.u.length+1:=IA _;have l2:(vP (wt S r)).length=S.u.length+1:=CY _;have hw:=wr1 (n:=S.u.length) (by omega);simp only[go_sem,qO];refine aa (cw) ?_;refine ax cm (by simp[go_sem]) rfl ?_;cases r with
  | cons x r =>
   simp only;obtain⟨n,hn⟩:∃n,(x::r).length=n+1:=⟨r.length,rfl⟩
   rw[hn]at hlen;simp only[go_sem,hlen,aF (show(((bI S.u).length+(n+1):Nat):Int)>((bI S.u).length:Int)by omega)];exact ah
  | nil =>
   simp only;replace hlen:(wt S []).all.length=(bI S.u).length:=by rw[hlen];rfl
   have hk:(yC (wt S []))=yC S:=rfl;have hk2:(vP (wt S []))=vP S:=rfl;have ha:(wt S []).all=bI S.u:=ml _;cases hS:S.u with
   | nil =>
    rw[hS]at hw l1 l2 ha hlen;simp only[eG]at hw l1 l2;rw[ha];simp only[go_sem,hlen,aI (show ¬(((bI ([]:List Sg)).length:Nat):Int)>((bI ([]:List Sg)).length:Int)by omega),l1,l2,hw,show((((0:Nat):Int))==0)=true from rfl];have m1:yC (wt S [])=[0]:=by simp only[yC,wt,hS,cu,gC,cM,eA];rfl
    have m2:yC ⟨⟨[],false⟩,[],S.ov⟩=[0]:=rfl;have m3:vP ⟨⟨[],false⟩,[],S.ov⟩=[false]:=rfl;have m4:Sk.all ⟨⟨[],false⟩,[],S.ov⟩=bI []:=rfl;exact aq [32] (by simp only[go_sem,m1,m2,m3,m4,cM,eA,abr,aQ,fo,List.take_succ_cons,jK]) (by rfl)
   | cons g u =>
    rw[hS]at hw l1 l2 ha hlen;simp only[i9]at hw l1 l2;rw[ha];simp only[go_sem,hlen,aI (show ¬(((bI (g::u)).length:Nat):Int)>((bI (g::u)).length:Int)by omega),l1,l2,hw,show((((u.length+1:Nat):Int))==0)=false from ac (by omega),cL];have m1:(yC (wt S [])).take (u.length+1)=yC ⟨g,u,S.ov⟩:=by
     have:yC (wt S [])=(cu (g::u)).map (·.1)++[((bI (g::u)).length:Int)]:=by simp only[yC,wt,hS];rw[cu,dY];rfl
     rw[this,List.take_left' (by rw[bY,dw];rfl)];rfl
    have m2:(vP (wt S [])).take (u.length+1)=vP ⟨g,u,S.ov⟩:=by
     have:vP (wt S [])=(cu (g::u)).map (·.2)++[S.t.lo]:=by simp only[vP,wt,hS];rw[cu,dY];rfl
     rw[this,List.take_left' (by rw[bY,dw];rfl)];rfl
    have m4:Sk.all ⟨g,u,S.ov⟩=bI (g::u):=rfl;refine⟨⟨by omega,by omega⟩,⟨by omega,by omega⟩,?_⟩;exact aq [] (by simp only[go_sem,m1,m2,m4]) (by rfl)
