import Derived.Test.YthhglklcaodfmaaGreatDoorCQh
import Derived.Shelf.Abstract
import Derived.OwnWalkIn
import Derived.TacticsInMore
import Derived.LoopNIn
import Derived.LoopIn
set_option linter.all false
set_option maxRecDepth 100000
set_option maxHeartbeats 20000000
namespace Go.Proofs.YthhglklcaodfmaaGreatDoor
section
open Go Go.Mw Go.RowKit Go.Shelf
attribute[local go_sem] Oper.semAt_some
def aeh(x:Int×List UInt8):Array Value:=#[.int .i64 x.1,.string ⟨x.2.toArray⟩]
def Oi{M:Nat->Prop}{w:World}{v:Value}(h:bv (λ_=>none) M w v (.sl 3 (HR.map hr_))):∃b off cap,v = .slice (some ⟨b,off,none⟩) 24 cap/\¬M b/\∃c t fr,w.heap[b]?=some (.cells c t fr) /\
  ∀i,i<24->c[off+i*3]?=some (.int .i64 (av HR i).f)/\c[off+i*3+1]?=some (.string ⟨(av HR i).h.toArray⟩)/\c[off+i*3+2]?=some (.string ⟨(av HR i).t.toArray⟩):=by
 have h1:IRel M w v (.sl 3 (HR.map hr_)):=h;have hlen:(HR.map hr_).length=24:=by rfl
 generalize hr:HR.map hr_=rows at h1 hlen;cases h1 with
 | nls=>simp at hlen
 | sl0=>simp at hlen
 | sl b off cap st c t fr rows vs hb hM hl hr1 hv hx =>
  refine⟨b,off,cap,by rw[hlen],hM,c,t,fr,hb,λi hi=>?_⟩;have hrow:rows[i]?=some (hr_ (av HR i)):=by
   rw[<-hr,iG,md (by rw[<-hlen,<-hr]at hi;simpa using hi)];rfl
  have key:∀j x,(hr_ (av HR i))[j]?=some x->j<3->∃u,c[off+i*3+j]?=some u/\IRel M w u x:=λj x hj hj3=>⟨_,hv i j (by omega) hj3,hx i j _ _ hrow hj⟩
  obtain⟨u0,a0,b0⟩:=key 0 (.int .i64 (av HR i).f) rfl (by omega);obtain⟨u1,a1,b1⟩:=key 1 (.str (av HR i).h) rfl (by omega);obtain⟨u2,a2,b2⟩:=key 2 (.str (av HR i).t) rfl (by omega);cases b0;cases b1;cases b2;exact⟨a0,a1,a2⟩
def ER(k:Nat):List (Int×List UInt8):=(HR.take k).flatMap λr=>QX r.f r.h 0 (Lib.fields r.t)
def ahd(k:Nat)(h:k<24):(av HR k).t.length<4294967281/\∀b∈(av HR k).t,b.toNat<128:=by
 have:∀r∈HR,r.t.length<4294967281/\∀b∈r.t,b.toNat<128:=by decide +kernel
 exact this _ (by rw[aY (by exact h)];exact eH _)
def adj(k:Nat)(h:k<24):(av HR k).h.length<1000/\0<=(av HR k).f/\(av HR k).f<100000/\(Lib.fields (av HR k).t).length<1000/\∀s∈Lib.fields (av HR k).t,s.length<1000:=by
 have:∀r∈HR,r.h.length<1000/\0<=r.f/\r.f<100000/\(Lib.fields r.t).length<1000/\∀s∈Lib.fields r.t,s.length<1000:=by decide +kernel
 exact this _ (by rw[aY (by exact h)];exact eH _)
def OV(f:Int)(h:List UInt8):∀(l:List (List UInt8))(k:Nat),(QX f h k l).length=l.length
 | [],_=>rfl
 | _::l,k=>by simp[QX,OV f h l]
def OU(f:Int)(h:List UInt8):∀(l:List (List UInt8))(k j:Nat),j<l.length->(QX f h k l)[j]?=some (f+((k+j:Nat):Int),h++av l j)
 | [],_,j,hj=>by simp at hj
 | s::l,k,0,_=>rfl
 | s::l,k,j+1,hj=>by
  have:=OU f h l (k+1) j (by simpa using hj);simp only[QX,Fs];rw[this,show k+1+j=k+(j+1)by omega];rfl
def Kt{f:Int}{h:List UInt8}{l:List (List UInt8)}{j:Nat}(hj:j<l.length):(QX f h 0 l).take (j+1)=(QX f h 0 l).take j++[(f+(j:Int),h++av l j)]:=by
 rw[H1,OU f h l 0 j hj,H0,dk]
def HG{k:Nat}(h:k<24):ER (k+1)=ER k++QX (av HR k).f (av HR k).h 0 (Lib.fields (av HR k).t):=by
 unfold ER;rw[H1,md (show k<HR.length from h),H0,List.flatMap_append,List.flatMap_singleton]
def Wo{k:Nat}(h:k<=24):ER k <+: ER 24:=by
 have e:HR.take 24=HR.take k++(HR.take 24).drop k:=by
  rw[show HR.take k=(HR.take 24).take k by rw[List.take_take,MG h]];exact(XW k _).symm
 unfold ER;rw[e,List.flatMap_append];exact List.prefix_append _ _
def Wn:ER 24=HR.flatMap λr=>QX r.f r.h 0 (wds r.t):=by decide +kernel
def afj(n:Nat)(w:World):ahh n pg 289 #[] aeh EN w:=by
 intro l J Jx W hH hW hJ hJx hY h0;refine callsIn_of_wp Tryz.func289 rfl trivial ?_ rfl;have hE:ER 24=EN:=by rw[ahb];exact Wn
 have cr:=aj.run abB W hH (cargs:=[]) trivial;simp only[Tryz.ntmps289,List.size_toArray,i9,eG,Nat.reduceAdd,Nat.reduceSub,Array.replicate_succ,Array.replicate_zero,List.push_toArray,List.append_toArray,gC,oG]
 gi_wp2
 refine⟨trivial,λh=>(by cases h),(callsIn_wide.2 cr).mono ?_⟩;rintro e W1 ⟨v,rfl,hv,hst⟩;obtain⟨b,off,cap,rfl,hnb,c,t,fr,hb,hc⟩:=Oi hv
 gi_wp2
 gi_loopw [8] (λi wr=>∃k:Nat,k<=24/\i = .int .i64 k/\J (ER k) wr/\W.heap.size<=wr.heap.size/\wr.heap[b]?=some (.cells c t fr)/\(bE.T pg).H wr) (λi _=>24-(intOf i).toNat)
 case atStart=>exact⟨0,by omega,rfl,hJ _ _ _ h0 hst,hst.size,hb,(bE.T pg).stay _ _ hH λq hq=>hst.keep q ((bE.T pg).low _ hH q hq) (λh=>h)⟩
 case round =>
  obtain⟨k,hk,rfl,hJk,hsz,hbk,hHk⟩:=hrel
  rename World=>wo1
  by_cases hlt:k<24
  .have c0:wo1.cell? ⟨b,off+k*3,none⟩=some (.int .i64 (av HR k).f):=(bU hbk _).trans (hc k hlt).1;have c1:wo1.cell? ⟨b,off+k*3+1,none⟩=some (.string ⟨(av HR k).h.toArray⟩):=(bU hbk _).trans (hc k hlt).2.1;have c2:wo1.cell? ⟨b,off+k*3+2,none⟩=some (.string ⟨(av HR k).t.toArray⟩):=(bU hbk _).trans (hc k hlt).2.2;have hsA:=jb.ofAlloc wo1 (.cells #[.int .i64 (av HR k).f,.string ⟨(av HR k).h.toArray⟩,.string ⟨(av HR k).t.toArray⟩] 341);have hHA:=(bE.T pg).stay _ _ hHk λq hq=>hsA.keep q ((bE.T pg).low _ hHk q hq) (λh=>h);obtain⟨hl,ha⟩:=ahd k hlt;obtain⟨hh,hf0,hf1,hfl,hfs⟩:=adj k hlt;have cf:=Ni (av HR k).t hl ha _ hHA;generalize hF:Lib.fields (av HR k).t=fl at cf hfl hfs
   gi_wp2
   refine⟨trivial,λh=>(by cases h),(callsIn_wide.2 cf).mono ?_⟩;rintro e W2 ⟨rfl,rfl⟩
   gi_wp2
   gi_loopw [16] (λi wr2=>∃j:Nat,j<=fl.length/\i = .int .i64 j/\J (ER k++(QX (av HR k).f (av HR k).h 0 fl).take j) wr2/\W.heap.size<=wr2.heap.size/\wr2.heap[b]?=some (.cells c t fr) /\
     wr2.heap[wo1.heap.size]?=some (.cells #[.int .i64 (av HR k).f,.string ⟨(av HR k).h.toArray⟩,.string ⟨(av HR k).t.toArray⟩] 341)/\wr2.heap[wo1.heap.size+1]?=some (.cells (fl.map λl=>Value.string ⟨l.toArray⟩).toArray 9)/\(bE.T pg).H wr2) (λi _=>fl.length-(intOf i).toNat)
   case atStart =>
    have hsF:=hsA.one (jb.ofAlloc _ (.cells (fl.map λl=>Value.string ⟨l.toArray⟩).toArray 9));refine⟨0,dx _,rfl,?_,by simp;omega,?_,?_,?_,?_⟩
    .rw[jK,ml];exact hJ _ _ _ hJk hsF
    .rw[hsF.keep b (bp hbk) (λh=>h)];exact hbk
    .exact(Below.heap_alloc _ _ _ (by simp)).trans (World.alloc_heap_new _ _)
    .have:=World.alloc_heap_new (wo1.alloc (.cells #[.int .i64 (av HR k).f,.string ⟨(av HR k).h.toArray⟩,.string ⟨(av HR k).t.toArray⟩] 341)) (.cells (fl.map λl=>Value.string ⟨l.toArray⟩).toArray 9);rwa[World.size_alloc]at this
    .exact(bE.T pg).stay _ _ hHk λq hq=>hsF.keep q ((bE.T pg).low _ hHk q hq) (λh=>h)
   case round =>
    obtain⟨j,hj,rfl,hJj,hsz2,hb2,hx2,hs2,hH2⟩:=hrel;by_cases hlt2:j<fl.length
    .have d0:wr.cell? ⟨wo1.heap.size,0,none⟩=some (.int .i64 (av HR k).f):=bU hx2 _;have d1:wr.cell? ⟨wo1.heap.size,1,none⟩=some (.string ⟨(av HR k).h.toArray⟩):=bU hx2 _;have d3:wr.cell? ⟨wo1.heap.size+1,j,none⟩=some (.string ⟨(av fl j).toArray⟩):=(bU hs2 _).trans (by rw[List.getElem?_toArray,iG,md hlt2];rfl);have hss:=hfs (av fl j) (by rw[aY hlt2];exact eH _);have hcat:¬9223372036854775807<(av HR k).h.length+(av fl j).length:=by omega
     have hpre:(ER k++(QX (av HR k).f (av HR k).h 0 fl).take j)++[((av HR k).f+(j:Int),(av HR k).h++av fl j)] <+: EN:=by
      rw[vk,<-Kt hlt2,<-hE,<-hF];refine List.IsPrefix.trans ?_ (Wo (show k+1<=24 by omega));rw[HG hlt];exact(List.prefix_append_right_inj _).2 (List.take_prefix _ _)
     obtain⟨fn,tmps,assign,body,hy,hR⟩:=hY _ _ wr hJj hpre;have hw:wrap64 ((av HR k).f+(j:Int))=(av HR k).f+(j:Int):=IntWalk.wrap64_in _ (by omega);have hc2:(ByteArray.mk (av HR k).h.toArray++ByteArray.mk (av fl j).toArray)=ByteArray.mk ((av HR k).h++av fl j).toArray:=by apply ByteArray.ext;simp
     have hy2:(Instr.yield l #[.int .i64 ((av HR k).f+(j:Int)),.string (ByteArray.mk ((av HR k).h++av fl j).toArray)]).run pg wr = .ok (.round l fn tmps assign body) wr:=hy
     gi_wp2
     refine⟨λh=>(by cases h),hR.mono ?_⟩;rintro e W3 (⟨rfl,hJ3,hk3⟩|⟨rfl,hJx3⟩)
     .gi_wp2
      go_roundw
      case rel =>
       refine⟨j+1,by omega,by simp,?_,gD hsz2 hk3.1,?_,hk3.2.1 _ _ _ _ hsz hx2,hk3.2.1 _ _ _ _ (by omega) hs2,(bE.T pg).stay _ _ hH2 λq hq=>hk3.2.2 q hq⟩
       .rw[Kt hlt2,<-vk];exact hJ3
       .by_cases hbw:W.heap.size<=b
        .exact hk3.2.1 _ _ _ _ hbw hb2
        .rw[hk3.2.2 b (Classical.byContradiction λhn=>hnb ⟨by omega,hn⟩)];exact hb2
      case measure=>simp[intOf];omega
     .gi_wp2
      refine bodyPost_ret (results_none rfl _ _ _) rfl ?_;exact⟨⟨_,rfl⟩,.inr ⟨_,hpre,hJx3⟩⟩
    .obtain rfl:j=fl.length:=by omega
     gi_wp2
     refine⟨⟨k+1,by omega,by simp,?_,hsz2,hb2,hH2⟩,by simp[intOf];omega⟩;rw[HG hlt,hF];rw[iF (by rw[OV];exact aQ _)]at hJj;exact hJj
  .obtain rfl:k=24:=by omega
   gi_wp2
   go_end0
   exact⟨⟨_,rfl⟩,.inl (hE▸hJk)⟩
end
section
open Go Go.Mw Go.RowKit Go.Shelf
attribute[local go_sem] Oper.semAt_some
def bP(op:Int):List UInt8:=match EN.find? (λp=>p.1==op)with
 | some p=>p.2
 | none=>[]
def Ub{α:Type}{f:α->Bool}{l ib:List α}{x:α}(h:ib++[x] <+: l)(hn:∀p∈ib,f p=false)(hx:f x=true):l.find? f=some x:=by
 obtain⟨r,rfl⟩:=h;rw[vk,List.find?_append,List.find?_eq_none.2 (λp hp=>by rw[hn p hp];decide)];simp[hx]
def jV{w W:World}{l:Nat}{o o':Obj}(h:jb No w W)(hl:w.heap.size<=l)(hc:W.heap[l]?=some o)(ho:o.isCells=false):jb No w (W.putObj l o') where
 size:=gD h.size (grownBy_putObj' W l o').size
 keep b hb _:=by rw[World.putObj_heap_other (by omega)];exact h.keep b hb (λh=>h)
 shape b c t fr hb:=by
  obtain⟨c',fr',h1,h2⟩:=h.shape b c t fr hb;exact⟨c',fr',by rw[World.putObj_heap_other (by have:=bp hb;omega)];exact h1,h2⟩
 os:=(grownBy_putObj' W l o').os.trans h.os
 out:=(grownBy_putObj' W l o').output.trans h.out
def fP{w W:World}{a:Addr}{v:Value}(h:jb No w W)(hl:w.heap.size<=a.block):jb No w (W.setCell a v) where
 size:=by simpa[World.setCell]using h.size
 keep b hb _:=by
  have:b≠a.block:=by omega
  simp only[World.setCell,Bu,an (Ne.symm this)];exact h.keep b hb (λh=>h)
 shape b c t fr hb:=by
  obtain⟨c',fr',h1,h2⟩:=h.shape b c t fr hb;have:b≠a.block:=by have:=bp hb;omega
  exact⟨c',fr',by simp only[World.setCell,Bu,an (Ne.symm this)];exact h1,h2⟩
 os:=h.os
 out:=h.out
def aen{bl:Nat->Option Nat}{M:Nat->Prop}{w:World}{v:Value}{f:FuncId}(h:bv bl M w v (.fn f []))(hf:decide (f<4000000)=true:=by rfl):v = .func (.func f) #[] #[]:=by
 obtain⟨cs,rfl,h⟩:=h;have h1:fnI f=f:=az (of_decide_eq_true hf);cases cs with
 | nil=>rw[h1];simp
 | cons=>exact h.elim
def xD{fn:Func}{t:Tmp}{ty:TypeId}(h:fn.results = #[.cell t ty])(tmps:Array Value)(P:Program)(w:World){b:Nat}{v:Value}(ha:tmps.getD t undef = .pointer (some ⟨b,0,none⟩))(hagg:(isAgg ty).run P w = .ok false w)
  (hc:w.cell? ⟨b,0,none⟩=some v):(results fn tmps).run P w = .ok v w:=by
 simp only[pI]at ha;have hc':w.cell? {block:=b,off:=0}=some v:=hc;simp[results,h,ha,asAddr,loadVar,hagg,hc']
def C9(op:Int):aj pg 205 [.int .i64 op] (.str (bP op)):=by
 refine aj.of (λw bl M cargs hH hM ha=>?_) rfl
 match cargs,ha with
 | [a],⟨h1,_⟩ =>
 obtain rfl:=h1.int;refine(callsIn_wide (n:=3)).1 ?_;refine callsIn_of_wp_marks Tryz.func205 rfl trivial ?_ rfl;have hs1:=(jb.ofAlloc w (.cells #[.int .i64 op] 60)).one (jb.ofAlloc _ (.cells #[.string ⟨#[]⟩] 9));have hH1:=(bE.T pg).stay _ _ hH λq hq=>hs1.keep q ((bE.T pg).low _ hH q hq) (λh=>h);have cn:=aj.run Xn _ hH1 (cargs:=[]) trivial;simp only[Tryz.ntmps205,List.size_toArray,i9,eG,Nat.reduceAdd,Nat.reduceSub,Array.replicate_succ,Array.replicate_zero,List.push_toArray,List.append_toArray,gC,oG]
 gi_wp2
 refine⟨trivial,(callsIn_wide.2 cn).mono ?_⟩;rintro e W1 ⟨v,rfl,hv,hst⟩;obtain rfl:=aen hv;have hsW:=hs1.one hst;have hHW:=(bE.T pg).stay _ _ hH λq hq=>hsW.keep q ((bE.T pg).low _ hH q hq) (λh=>h);have hb0:W1.heap[w.heap.size]?=some (.cells #[.int .i64 op] 60):=by
  rw[hst.keep _ (by simp<;>omega) (λh=>h)];exact(Below.heap_alloc _ _ _ (by simp)).trans (World.alloc_heap_new _ _)
 have hb1:W1.heap[w.heap.size+1]?=some (.cells #[.string ⟨#[]⟩] 9):=by
  rw[hst.keep _ (by simp) (λh=>h)];have:=World.alloc_heap_new (w.alloc (.cells #[.int .i64 op] 60)) (.cells #[.string ⟨#[]⟩] 9);rwa[World.size_alloc]at this
 have hz:w.heap.size+2<=W1.heap.size:=by have:=hst.size;simpa using this
 clear cn hst hs1 hH1 hv
 gi_wp2
 refine Sq (α:=Int×List UInt8) (encs:=aeh) (E:=EN) (by decide) hHW (gf:=289) (lb:=#[]) rfl (enters_of Tryz.func289 (by kernel_rfl) rfl) (afj _ W1) (jb.refl _ _) (λ_=>rfl)
  (λib W=>jb No w W/\W.heap[w.heap.size]?=some (.cells #[.int .i64 op] 60)/\W.heap[w.heap.size+1]?=some (.cells #[.string ⟨#[]⟩] 9)/\∀p∈ib,(p.1==op)=false)
  (λc ib W=>c = .ret/\jb No w W/\W.heap[w.heap.size+1]?=some (.cells #[.string ⟨(bP op).toArray⟩] 9))
  (λs A B h hs=>⟨h.1.one hs,(hs.keep _ (bp h.2.1) (λh=>h)).trans h.2.1,(hs.keep _ (bp h.2.2.1) (λh=>h)).trans h.2.2.1,h.2.2.2⟩)
  (λc s A B h hs=>⟨h.1,h.2.1.one hs,(hs.keep _ (bp h.2.2) (λh=>h)).trans h.2.2⟩)
  (λs W l o o' h hl hc ho=>⟨jV h.1 (by omega) hc ho,by rw[World.putObj_heap_other (by omega)];exact h.2.1,by rw[World.putObj_heap_other (by omega)];exact h.2.2.1,h.2.2.2⟩)
  (λc s W l o o' h hl hc ho=>⟨h.1,jV h.2.1 (by omega) hc ho,by rw[World.putObj_heap_other (by omega)];exact h.2.2⟩)
  ⟨hsW,hb0,hb1,λp hp=>absurd hp cH⟩
  (λx=>{tmps:=#[.int .i64 op,.pointer (some ⟨w.heap.size,0,none⟩),.pointer (some ⟨w.heap.size+1,0,none⟩),.int .i64 x.1,.string ⟨x.2.toArray⟩,.func (.func 289) #[] #[],.int .i64 x.1,.string ⟨x.2.toArray⟩,undef,undef,undef,undef],defers:=[]}) ?assign ?body ?done ?stop
 case assign =>
  intro l x W K hK;simp only[aeh]
  gi_wp2
  exact hK
 case body =>
  rintro l ib x W ⟨hS,hB0,hB1,hP⟩ hpre;have d0:W.cell? ⟨w.heap.size,0,none⟩=some (.int .i64 op):=bU hB0 _;have d1:W.cell? ⟨w.heap.size+1,0,none⟩=some (.string ⟨#[]⟩):=bU hB1 _;have f1:W.frozen? ⟨w.heap.size+1,0,none⟩=false:=by simp[World.frozen?,hB1]
  by_cases hx:x.1=op
  .have hn:bP op=x.2:=by
    unfold bP;rw[Ub hpre hP (by simpa using hx)]
   gi_wp2
   refine⟨KeepsOthers.setCell _ _ _,rfl,fP hS (by simp),?_⟩;rw[hn];simp[World.setCell,Bu,hB1]
  .gi_wp2
   refine⟨⟨aQ _,λ_ _ h _=>h⟩,CK.refl _ _,hS,hB0,hB1,λp hp=>?_⟩;rcases gW.1 hp with hp|hp
   .exact hP p hp
   .rw[fS.1 hp];simpa using hx
 case done =>
  rintro D W hD ⟨hS,hB0,hB1,hP⟩ hK;have d1:W.cell? ⟨w.heap.size+1,0,none⟩=some (.string ⟨#[]⟩):=bU hB1 _;have f1:W.frozen? ⟨w.heap.size+1,0,none⟩=false:=by simp[World.frozen?,hB1]
  have hn:bP op=[]:=by
   unfold bP;rw[List.find?_eq_none.2 (λp hp=>by rw[hP p hp];decide)]
  gi_wp2
  have hD2:(W.setCell ⟨w.heap.size+1,0,none⟩ (.string ⟨#[]⟩)).heap[D]?=some (.deferred (some [])):=by
   simp only[World.setCell,Bu,an (show ¬w.heap.size+1=D by omega)];exact hK
  have hB3:(W.setCell ⟨w.heap.size+1,0,none⟩ (.string ⟨#[]⟩)).heap[w.heap.size+1]?=some (.cells #[.string ⟨#[]⟩] 9):=by
   simp[World.setCell,Bu,hB1]
  have hS2:=jV (fP hS (a:=⟨w.heap.size+1,0,none⟩) (v:=.string ⟨#[]⟩) (by simp)) (by omega) hD2 rfl (o':=.deferred none);refine⟨by simp,.inl ⟨_,_,rfl,run_takeDeferred hD2,?_⟩⟩;have hB4:((W.setCell ⟨w.heap.size+1,0,none⟩ (.string ⟨#[]⟩)).putObj D (.deferred none)).heap[w.heap.size+1]?=some (.cells #[.string ⟨#[]⟩] 9):=by rw[World.putObj_heap_other (by omega)];exact hB3
  refine⟨_,xD rfl _ _ _ rfl (Tryz.isAgg9 _) (bU hB4 _),_,rfl,hS2,?_⟩;rw[hn];exact IRel.str _
 case stop =>
  rintro D c ib W hD hp ⟨rfl,hS,hB1⟩ hK
  gi_wp2
  have hS2:=jV hS (by omega) hK rfl (o':=.deferred none);refine⟨by simp,.inl ⟨_,_,rfl,run_takeDeferred hK,?_⟩⟩;have hB4:(W.putObj D (.deferred none)).heap[w.heap.size+1]?=some (.cells #[.string ⟨(bP op).toArray⟩] 9):=by rw[World.putObj_heap_other (by omega)];exact hB1
  exact⟨_,xD rfl _ _ _ rfl (Tryz.isAgg9 _) (bU hB4 _),_,rfl,hS2,IRel.str _⟩
def jE{W:World}{b off:Nat}{c:Array Value}{t:TypeId}{fr:Nat×Nat}{v:Value}(h:W.heap[b]?=some (.cells c t fr)):(W.setCell ⟨b,off,none⟩ v).heap[b]?=some (.cells (c.setIfInBounds off v) t fr):=by
 simp[World.setCell,Bu,h]
def eZ{W:World}{b b' off:Nat}{v:Value}(h:b≠b'):(W.setCell ⟨b,off,none⟩ v).heap[b']? = W.heap[b']?:=by
 simp[World.setCell,Bu,h]
def GP{fn:Func}{t t2:Tmp}{ty ty2:TypeId}(h:fn.results = #[.cell t ty,.cell t2 ty2])(tmps:Array Value)(P:Program)(w:World){b b2:Nat}{v v2:Value}(ha:tmps.getD t undef = .pointer (some ⟨b,0,none⟩))(hagg:(isAgg ty).run P w = .ok false w)
  (hc:w.cell? ⟨b,0,none⟩=some v) (ha2:tmps.getD t2 undef = .pointer (some ⟨b2,0,none⟩)) (hagg2:(isAgg ty2).run P w = .ok false w) (hc2:w.cell? ⟨b2,0,none⟩=some v2):(results fn tmps).run P w = .ok (.tuple #[v,v2]) w:=by
 simp only[pI]at ha ha2;have hc':w.cell? {block:=b,off:=0}=some v:=hc;have hc2':w.cell? {block:=b2,off:=0}=some v2:=hc2;simp[results,h,ha,asAddr,loadVar,hagg,hc',ha2,hagg2,hc2']
end
section
open Go Go.Mw
attribute[local go_sem] ai6
def RP:bA pg Cx [] [] sb (λr' σ'=>r' = .ms 24 3 0 23/\σ'=[(24,⟨320,3,Cn.map GN,false⟩)]):=by
 refine b_ r_ ?_;simp only[go_sem,r_];exact done [] _ [(24,⟨320,3,Cn.map GN,false⟩)] (by rfl) (by simp only[go_sem];rfl) rfl ⟨rfl,rfl⟩
def Ww:aj pg Ej [] (.sl 3 (Dr.map GN)):=by
 refine ao tK ?_;simp only[go_sem,tK];exact aq [24] (by rfl) rfl
def aji:aj pg K_ [] (.sl 3 (aei.map GN)):=by
 refine ao BC ?_;simp only[go_sem,BC];exact aq [14] (by rfl) rfl
def Qa(s:List UInt8):List AV:=[.str s]
def alL(s:List UInt8):Qa s=[.str s]:=rfl
attribute[go_sem] alL
def EV:aj pg AU [] (.sl 1 (M4.map Qa)):=by
 refine ao pO ?_;simp only[go_sem,pO];exact aq [1] (by rfl) rfl
def WQ:aj pg IN [] (.sl 1 (Oy.map Qa)):=by
 refine ao yK ?_;simp only[go_sem,yK];exact aq [1] (by rfl) rfl
def Ju(f:Int)(t:List UInt8):∀(l:List (List UInt8))(k:Nat),(LU f t k l).length=l.length
 | [],_=>rfl
 | _::l,k=>by simp[LU,Ju f t l]
def PD(f:Int)(t:List UInt8):∀(l:List (List UInt8))(k j:Nat),j<l.length->(LU f t k l)[j]?=some ⟨f+((k+j:Nat):Int),t++[46]++av l j,0⟩
 | [],_,j,hj=>by simp at hj
 | s::l,k,0,_=>rfl
 | s::l,k,j+1,hj=>by
  have:=PD f t l (k+1) j (by simpa using hj);simp only[LU,Fs];rw[this,show k+1+j=k+(j+1)by omega];rfl
def V_{f:Int}{t:List UInt8}{l:List (List UInt8)}{j:Nat}(hj:j<l.length):(LU f t 0 l).take (j+1)=(LU f t 0 l).take j++[⟨f+(j:Int),t++[46]++av l j,0⟩]:=by
 rw[H1,PD f t l 0 j hj,H0,dk]
def nC(f:Int)(t:List UInt8)(l:List (List UInt8))(hf:0<=f/\f<1000000)(ht:t.length<1000)(hl:l.length<1000)(hs:∀s∈l,s.length<1000):aj pg ej [.int .i64 f,.str t,.sl 1 (l.map Qa)] (.sl 3 ((LU f t 0 l).map GN)):=by
 refine ao sa ?_;simp only[go_sem,sa];refine aA (λi:Nat=>⟨[(7,.ms 900 3 0 i),(8,.int .i64 i),(0,.int .i64 f),(1,.str t),(2,.sl 1 (l.map Qa))],[(900,⟨320,3,((LU f t 0 l).take i).map GN,false⟩)]⟩) (λi=>i<=l.length) (λi=>l.length-i) 0 (dx _) ((Wk.nil _ 7 900 3 320 (by simp only[go_sem]) (.inl (by decide))).trans (Wk.of ?_ ?_)) ?_
 .simp only[go_sem,St.mknil];try simp[go_sem]
 .simp only[go_sem,St.mknil];try simp[go_sem]
 intro i hi;have e8:=wi (n:=(i:Int)+1) (by omega) (by omega);by_cases h1:(i:Int)<(l.length:Int)
 .have hi':i<l.length:=by omega
  have hsi:=hs (av l i) (by rw[aY hi'];exact eH _);have e9:=wi (n:=f+(i:Int)) (by omega) (by omega);have hlen:((LU f t 0 l).take i).length=i:=by rw[vm,Ju];omega
  have happ:=λys=>cC 900 320 3 i GN ((LU f t 0 l).take i) ys hlen;simp only[go_sem,aF h1,happ,e9];refine⟨by omega,by omega,h1,by simp;omega,by omega,aH (i+1) (by omega) (show l.length-(i+1)<l.length-i by omega) (Wk.of ?_ ?_)⟩
  .simp only[go_sem,e8]
   try simp
  .simp only[go_sem];rw[V_ hi',dY];rfl
 .obtain rfl:i=l.length:=by omega
  simp only[go_sem,aI h1];have hlen:=Ju f t l 0;rw[iF (by omega)];refine aq [900] ?_ rfl;simp only[go_sem,bY,hlen,aQ];rw[iF (by rw[bY];omega)]
def FC:List Oc:=LU 69 [105,51,50] 0 M4
def Ic:List Oc:=LU 80 [105,54,52] 0 M4
def Mx:List Oc:=LU 103 [105,51,50] 0 Oy
def Ox:List Oc:=LU 121 [105,54,52] 0 Oy
def wrp:List Oc:=[⟨167,[105,51,50,46,119,114,97,112,95,105,54,52],0⟩,⟨172,[105,54,52,46,101,120,116,101,110,100,95,105,51,50,95,115],0⟩,⟨173,[105,54,52,46,101,120,116,101,110,100,95,105,51,50,95,117],0⟩]
def T6:List (List UInt8):=[[101,120,116,101,110,100,56,95,115],[101,120,116,101,110,100,49,54,95,115]]
def Zk:List (List UInt8):=[[101,120,116,101,110,100,56,95,115],[101,120,116,101,110,100,49,54,95,115],[101,120,116,101,110,100,51,50,95,115]]
def T7:List Oc:=LU 192 [105,51,50] 0 T6
def Zl:List Oc:=LU 194 [105,54,52] 0 Zk
def SF:((((((((Cn++Dr)++FC)++Ic)++Mx)++Ox)++wrp)++T7)++Zl)++aei=OC:=by rfl
def abj:aj pg IM [] (.sl 3 (OC.map GN)):=by
 refine ao yJ ?_;have ap:=λ(L:List Oc)(n:Nat)(h:L.length=n) ys=>cC 901 320 3 n GN L ys h;have n1:aj pg ej [.int .i64 69,.str [105,51,50],.sl 1 (M4.map Qa)] (.sl 3 (FC.map GN)):=nC 69 [105,51,50] M4 (by decide) (by decide) (by decide) (by decide +kernel);have n2:aj pg ej [.int .i64 80,.str [105,54,52],.sl 1 (M4.map Qa)] (.sl 3 (Ic.map GN)):=nC 80 [105,54,52] M4 (by decide) (by decide) (by decide) (by decide +kernel);have n3:aj pg ej [.int .i64 103,.str [105,51,50],.sl 1 (Oy.map Qa)] (.sl 3 (Mx.map GN)):=nC 103 [105,51,50] Oy (by decide) (by decide) (by decide) (by decide +kernel);have n4:aj pg ej [.int .i64 121,.str [105,54,52],.sl 1 (Oy.map Qa)] (.sl 3 (Ox.map GN)):=nC 121 [105,54,52] Oy (by decide) (by decide) (by decide) (by decide +kernel);have n5:aj pg ej [.int .i64 192,.str [105,51,50],.sl 1 (T6.map Qa)] (.sl 3 (T7.map GN)):=nC 192 [105,51,50] T6 (by decide) (by decide) (by decide) (by decide +kernel);have n6:aj pg ej [.int .i64 194,.str [105,54,52],.sl 1 (Zk.map Qa)] (.sl 3 (Zl.map GN)):=nC 194 [105,54,52] Zk (by decide) (by decide) (by decide) (by decide +kernel);have e1:(T6.map Qa)=[[.str [101,120,116,101,110,100,56,95,115]],[.str [101,120,116,101,110,100,49,54,95,115]]]:=rfl;have e2:(Zk.map Qa)=[[.str [101,120,116,101,110,100,56,95,115]],[.str [101,120,116,101,110,100,49,54,95,115]],[.str [101,120,116,101,110,100,51,50,95,115]]]:=rfl;rw[e1]at n5;rw[e2]at n6;have ew:[[AV.int .i64 167,.str [105,51,50,46,119,114,97,112,95,105,54,52],.int .i64 0],[.int .i64 172,.str [105,54,52,46,101,120,116,101,110,100,95,105,51,50,95,115],.int .i64 0],[.int .i64 173,.str [105,54,52,46,101,120,116,101,110,100,95,105,51,50,95,117],.int .i64 0]]=wrp.map GN:=rfl;simp only[go_sem,yJ];refine QF RP rfl (by simp) 901 (by decide) (by simp only[go_sem]) ?_;simp only[go_sem];refine ae (Ww) ?_;have la:Dr.length=23:=rfl;have l1:FC.length=11:=rfl;have l2:Ic.length=11:=rfl;have l3:Mx.length=18:=rfl;have l4:Ox.length=18:=rfl;have lw:wrp.length=3:=rfl;have l5:T7.length=2:=rfl;have l6:Zl.length=3:=rfl;have le:aei.length=13:=rfl;simp only[go_sem,ap Cn 23 rfl,<-dY,bY,la,true_and];refine aa (EV) ?_;refine ae (n1) ?_;simp only[go_sem,ap (Cn++Dr) 46 rfl,<-dY,bY,l1,true_and];refine aa (EV) ?_;refine ae (n2) ?_;simp only[go_sem,ap ((Cn++Dr)++FC) 57 rfl,<-dY,bY,l2,true_and];refine aa (WQ) ?_;refine ae (n3) ?_;simp only[go_sem,ap (((Cn++Dr)++FC)++Ic) 68 rfl,<-dY,bY,l3,true_and];refine aa (WQ) ?_;refine ae (n4) ?_;have er:Og 3 0 3 (some ⟨320,3,wrp.map GN,false⟩)=some (wrp.map GN):=rfl;have es1:[[AV.str [101,120,116,101,110,100,56,95,115]],[.str [101,120,116,101,110,100,49,54,95,115]]]=T6.map Qa:=rfl;simp only[go_sem,ap ((((Cn++Dr)++FC)++Ic)++Mx) 86 rfl,ap (((((Cn++Dr)++FC)++Ic)++Mx)++Ox) 104 rfl,ew,er,<-dY,bY,l4,lw,true_and];refine bR [28] ?_ n5 (by simp[go_sem]) ?_
 .simp only[go_sem,aQ]
 simp only[go_sem,ap ((((((Cn++Dr)++FC)++Ic)++Mx)++Ox)++wrp) 107 rfl,<-dY,bY,l5,true_and];refine bR [32] ?_ n6 (by simp[go_sem]) ?_
 .simp only[go_sem,aQ]
 simp only[go_sem,ap (((((((Cn++Dr)++FC)++Ic)++Mx)++Ox)++wrp)++T7) 109 rfl,<-dY,bY,l6,true_and];refine ae (aji) ?_;simp only[go_sem,ap ((((((((Cn++Dr)++FC)++Ic)++Mx)++Ox)++wrp)++T7)++Zl) 112 rfl,<-dY,bY,le,true_and,SF];refine aq [901] ?_ rfl;have lo:OC.length=125:=rfl;simp only[go_sem,bY,lo,aQ];rw[iF (by rw[bY];exact aQ _)]
end
section
open Go Go.Mw
def OZ{α:Type}[Inhabited α]{f:α->Bool}:∀{l:List α}{i:Nat},i<l.length->(∀k,k<i->f (av l k)=false)->f (av l i)=true->l.find? f=some (av l i)
 | [],i,h,_,_=>by simp at h
 | a::l,0,_,_,h=>by
  have h':f a=true:=h;rw[List.find?_cons_of_pos h'];rfl
 | a::l,i+1,hi,hk,h=>by
  have h0:f a=false:=hk 0 (by omega);rw[List.find?_cons_of_neg (by rw[h0];decide)];exact OZ (l:=l) (by simpa using hi) (λk hk2=>hk (k+1) (by omega)) h
def Zp{α:Type}[Inhabited α]{f:α->Bool}{l:List α}(h:∀k,k<l.length->f (av l k)=false):l.find? f=none:=by
 rw[List.find?_eq_none];intro x hx;obtain⟨k,hk,rfl⟩:=List.mem_iff_getElem.1 hx;have:=h k hk;rw[aY hk]at this;rw[this];decide
def oe(op:Int):Option Oc:=OC.find? (λo=>o.op==op)
def AC(op:Int):List UInt8:=((oe op).getD default).nm
def GO(op:Int):Int:=((oe op).getD default).im
def J5(op:Int):Bool:=(oe op).isSome
def adk:OC.length=125:=rfl
attribute[local go_sem] ai6
def JE(op:Int):aj pg IL [.int .i64 op] (.tup [.agg (GN ((oe op).getD default)),.bool (J5 op)]):=by
 refine ao yI ?_;have hOL:=adk;simp only[go_sem,yI];refine aa (abj) ?_;refine aA (λi:Nat=>⟨[(4,.sl 3 (OC.map GN)),(5,.int .i64 i),(0,.int .i64 op),(2,.mp 2 3 0 0),(3,.bool false)],[(2,⟨320,3,[[.int .i64 0,.str [],.int .i64 0]],true⟩)]⟩) (λi=>i<=OC.length/\∀k,k<i->((av OC k).op==op)=false) (λi=>OC.length-i) 0 ⟨dx _,λk hk=>absurd hk (Nat.not_lt_zero k)⟩ (Wk.of ?_ ?_) ?_
 .simp only[go_sem];try simp
 .simp only[go_sem]
 rintro i ⟨hi,hk⟩;have e8:=wi (n:=(i:Int)+1) (by omega) (by omega);by_cases h1:(i:Int)<(OC.length:Int)
 .have hi':i<OC.length:=by omega
  by_cases h2:(av OC i).op=op
  .have r:oe op=some (av OC i):=OZ hi' hk (by simpa using h2);simp only[go_sem,aF h1,aD h2];refine⟨by omega,h1,by omega,h1,?_⟩;have rk:J5 op=true:=by rw[J5,r];rfl
   rw[rk,r];exact ah
  .simp only[go_sem,aF h1,ac h2];refine⟨by omega,h1,aH (i+1) ⟨by omega,λk hk2=>?_⟩ (show OC.length-(i+1)<OC.length-i by omega) (Wk.of ?_ ?_)⟩
   .rcases kU k i with h4|h4
    .exact hk k h4
    .obtain rfl:k=i:=by omega
     exact ac h2
   .simp only[go_sem,e8]
    try simp
   .simp only[go_sem]
 .have r:oe op=none:=Zp λk hk2=>hk k (by omega);have rk:J5 op=false:=by rw[J5,r];rfl
  simp only[go_sem,aI h1];rw[rk,r];exact aw
def abh(op:Int):aj pg FZ [.int .i64 op] (.bool (J5 op)):=by
 refine ao wM ?_;simp only[go_sem,wM];refine aa (JE op) ?_;exact ah
def PO(op:Int):aj pg IK [.int .i64 op] (.str (AC op)):=by
 refine ao yH ?_;simp only[go_sem,yH];refine aa (JE op) ?_;exact aw
def Mb(op:Int):aj pg NP [.int .i64 op] (.int .i64 (GO op)):=by
 refine ao Dm ?_;simp only[go_sem,Dm];refine aa (JE op) ?_;exact aw
def mH(s p:List UInt8):Bool:=(List.range (s.length+1)).any λi=>decide (i+p.length<=s.length)&&((s.drop i).take p.length==p)
def mg(s p:List UInt8)(hs:s.length<1000000)(hp:p.length<1000000):aj pg Em [.str s,.str p] (.bool (mH s p)):=by
 refine ao tP ?_;simp only[go_sem,tP];refine aA (λi:Nat=>⟨[(5,.int .i64 i),(0,.str s),(1,.str p),(4,.bool false)],[]⟩) (λi=>i<=s.length+1/\∀k,k<i->k+p.length<=s.length->((s.drop k).take p.length==p)=false) (λi=>s.length+1-i) 0 ⟨dx _,λk hk=>absurd hk (Nat.not_lt_zero k)⟩ (Wk.of ?_ ?_) ?_
 .simp only[go_sem];try simp
 .simp only[go_sem]
 rintro i ⟨hi,hk⟩;have e8:=wi (n:=(i:Int)+1) (by omega) (by omega);have e9:IntKind.i64.wrap ((i:Int)+(p.length:Int))=((i+p.length:Nat):Int):=by rw[wi (by omega) (by omega)];omega
 by_cases h1:((i+p.length:Nat):Int)<=(s.length:Int)
 .have e10:(((i+p.length:Nat):Int)-(i:Int)).toNat=p.length:=by omega
  simp only[go_sem,e9,aF h1,e10];refine⟨⟨by omega,by omega,h1⟩,λh2=>?_,λh2=>?_⟩
  .have r:mH s p=true:=by
    rw[mH,vp];exact⟨i,List.mem_range.2 (by omega),by rw[h2,aF (by omega)];rfl⟩
   rw[r];exact ah
  .refine aH (i+1) ⟨by omega,λk hk2 hk3=>?_⟩ (show s.length+1-(i+1)<s.length+1-i by omega) (Wk.of ?_ ?_)
   .rcases kU k i with h4|h4
    .exact hk k h4 hk3
    .obtain rfl:k=i:=by omega
     exact h2
   .simp only[go_sem,e8]
    try simp
   .simp only[go_sem]
 .have r:mH s p=false:=by
   rw[mH,MD];intro k hk2;by_cases h4:k+p.length<=s.length
   .rw[hk k (by omega) h4];simp
   .simp[h4]
  rw[r];simp only[go_sem,e9,aI h1];exact ah
def PT{p:Oc->Bool}(h:OC.all p=true){op:Int}(hd:p default=true):p ((oe op).getD default)=true:=by
 cases hr:oe op with
 | none=>exact hd
 | some o=>exact ii.1 h o (List.mem_of_find?_eq_some hr)
def PN(op:Int):(AC op).length<1000:=by
 have:=PT (p:=λo=>decide (o.nm.length<1000)) (by decide +kernel) (op:=op) (by decide);simpa[AC]using this
def af4(op:Int)(h:GO op=17):4<=(AC op).length:=by
 have:=PT (p:=λo=>decide (o.im=17->4<=o.nm.length)) (by decide +kernel) (op:=op) (by decide);exact(of_decide_eq_true this) h
def wR(s:List UInt8):Int:=if mH s [100,56]=true then 1 else if mH s [101,56]=true then 1 else if mH s [100,49,54]=true then 2 else if mH s [101,49,54]=true then 2 else
 if mH s [100,51,50]=true then 4 else if mH s [101,51,50]=true then 4 else if(s.drop 1).take 2=[51,50]then 4 else 8
def Bi(op:Int):Int:=if GO op≠17 then 0 else wR (AC op)
def abn(op:Int):aj pg F_ [.int .i64 op] (.int .i64 (Bi op)):=by
 refine ao wO ?_;have hl:=PN op;simp only[go_sem,wO];refine aa (PO op) ?_;refine ae (Mb op) ?_;by_cases h:GO op=17
 .have h3:=af4 op h;have r:Bi op=wR (AC op):=by rw[Bi,an (by simpa using h)]
  rw[r];simp only[go_sem,ay h];generalize AC op=s at hl h3;unfold wR;refine ae (mg s [100,56] (by omega) (by decide)) ?_;cases w1:mH s [100,56]
  .simp only[go_sem];refine ae (mg s [101,56] (by omega) (by decide)) ?_;cases w2:mH s [101,56]
   .simp only[go_sem];refine ae (mg s [100,49,54] (by omega) (by decide)) ?_;cases w3:mH s [100,49,54]
    .simp only[go_sem];refine ae (mg s [101,49,54] (by omega) (by decide)) ?_;cases w4:mH s [101,49,54]
     .simp only[go_sem];refine ae (mg s [100,51,50] (by omega) (by decide)) ?_;cases w5:mH s [100,51,50]
      .simp only[go_sem];refine ae (mg s [101,51,50] (by omega) (by decide)) ?_;cases w6:mH s [101,51,50]
       .simp only[go_sem];have e2:((3:Int)-1).toNat=2:=rfl;refine⟨by omega,λh=>?_,λh=>?_⟩
        .rw[e2]at h;rw[az (by simpa using h)];exact ah
        .rw[e2]at h;rw[an (by simpa using h)];exact ah
       .simp only[go_sem];exact ah
      .simp only[go_sem];exact ah
     .simp only[go_sem];exact ah
    .simp only[go_sem];exact ah
   .simp only[go_sem];exact ah
  .simp only[go_sem];exact ah
 .have r:Bi op=0:=by rw[Bi,az h]
  rw[r];simp only[go_sem,aE h];exact ah
def Tu(w:Int):Int:=if w=2 then 1 else if w=4 then 2 else if w=8 then 3 else 0
def abb(op:Int):aj pg FY [.int .i64 op] (.int .i64 (Tu (Bi op))):=by
 refine ao wL ?_;simp only[go_sem,wL];refine ae (abn op) ?_;generalize Bi op=w;by_cases h0:w=2
 .subst h0;simp only[go_sem];exact aw
 by_cases h1:w=4
 .subst h1;simp only[go_sem];exact aw
 by_cases h2:w=8
 .subst h2;simp only[go_sem];exact aw
 have r:Tu w=0:=by rw[Tu,an h0,an h1,an h2]
 rw[r];simp only[go_sem,ac h0,ac h1,ac h2];exact aw
def free(op:Int):Bool:=op==1||(op==2||(op==3||(op==5||op==11)))
def TO(op:Int):Int:=if free op=true then 0 else if J5 op=true then 1 else 0
end
open Go Go.Mw
def LD{p:Int->List UInt8->Bool}(h:EN.all (λx=>p x.1 x.2)=true)(op:Int):bP op=[]\/p op (bP op)=true:=by
 unfold bP;cases hr:EN.find? (λx=>x.1==op)with
 | none=>exact .inl rfl
 | some o =>
  have h1:=ii.1 h o (List.mem_of_find?_eq_some hr);have h2:=List.find?_some hr;simp only[beq_iff_eq]at h2;rw[h2]at h1;exact .inr h1
def EH(op:Int):(bP op).length<1000:=by
 rcases LD (p:=λ_ s=>decide (s.length<1000)) (by decide +kernel) op with h|h
 .rw[h];decide
 .exact of_decide_eq_true h
def acB(op:Int):Bool:=decide (op>=40)&&(decide (op<=62) && !(bP op==[]))
def Yw(op:Int)(h:acB op=true):5<=(bP op).length:=by
 simp only[acB,dX,ol,Fr,OD,ne_eq]at h;rcases LD (p:=λk s=>decide (40<=k->k<=62->5<=s.length)) (by decide +kernel) op with h1|h1
 .exact absurd h1 h.2.2
 .exact(of_decide_eq_true h1) h.1 h.2.1
def Mk(op:Int):aj pg Ef [.int .i64 op] (.bool (!(bP op==[]))):=by
 refine ao tF ?_;simp only[go_sem,tF];refine aa (C9 op) ?_;exact ah
def ajL(s p:List UInt8)(hs:s.length<1000000/\p.length<1000000):aj pg qk [.str s,.str p] (.bool (decide (p.length<=s.length)&&(s.take p.length==p))):=by
 refine ao gn ?_;by_cases h:(s.length:Int)>=(p.length:Int)
 .simp only[go_sem,gn,aF h,aF (show p.length<=s.length by omega)];exact⟨by omega,by exact ah⟩
 .simp only[go_sem,gn,aI h,aI (show ¬p.length<=s.length by omega)];exact ah
def CV(s p:List UInt8):Bool:=decide (p.length<=s.length)&&(s.take p.length==p)
def JM(s p:List UInt8)(hs:s.length<1000000/\p.length<1000000):aj pg wu [.str s,.str p] (.bool (CV s p)):=by
 refine ao mU ?_;simp only[go_sem,mU];refine aa (ajL s p hs) ?_;exact aw
def Xd(op:Int):aj pg Cr [.int .i64 op] (.bool (acB op)):=by
 refine ao jM ?_;unfold acB;by_cases h1:op>=40
 .by_cases h2:op<=62
  .simp only[go_sem,jM,aF h1,aF h2,dM];refine aa (Mk op) ?_;exact ah
  .simp only[go_sem,jM,aF h1,aI h2,dM,dF];exact ah
 .simp only[go_sem,jM,aI h1,dF];exact ah
def wNm(s:List UInt8):Int:=if Lib.contains (s.drop 4) [56]=true then 1 else if Lib.contains (s.drop 4) [49,54]=true then 2 else if Lib.contains (s.drop 4) [51,50]=true then 4 else if s.take 3=[105,51,50]then 4 else 8
def mj(op:Int):Int:=if acB op=true then wNm (bP op)else 0
def Mo(op:Int):aj pg Eg [.int .i64 op] (.int .i64 (mj op)):=by
 refine ao tI ?_;simp only[go_sem,tI];refine ae (Xd op) ?_;cases hac:acB op
 .have r:mj op=0:=by rw[mj,hac];rfl
  rw[r];simp only[go_sem];exact aw
 .have r:mj op=wNm (bP op):=by rw[mj,hac];rfl
  have hl:=EH op;have hl2:=Yw op hac;rw[r];simp only[go_sem];refine aa (C9 op) ?_;generalize bP op=s at hl hl2;obtain⟨Inv,hInv⟩:∃Inv:Nat->Prop,Inv=λi=>i<=3/\(0<i->Lib.contains (s.drop 4) [56]=false)/\(1<i->Lib.contains (s.drop 4) [49,54]=false)/\(2<i->Lib.contains (s.drop 4) [51,50]=false):=⟨_,rfl⟩
  refine aA (λi:Nat=>⟨[(11,.ms 11 1 0 3),(12,.int .i64 3),(13,.int .i64 i),(3,.str s),(2,.int .i64 0)],[(11,⟨3,1,[[.int .i64 8],[.int .i64 16],[.int .i64 32]],false⟩)]⟩) Inv (λi=>3-i) 0 (by rw[hInv];exact⟨by decide,λh=>absurd h (by decide),λh=>absurd h (by decide),λh=>absurd h (by decide)⟩) (Wk.of ?_ ?_) ?_
  .simp only[go_sem];try simp
  .simp only[go_sem];try simp
  intro i hInv1;rw[hInv]at hInv1;obtain⟨hi,h1,h2,h3⟩:=hInv1;have hd:(s.drop 4).length<4294967281:=by simp;omega
  have e4:(s.drop 4).take (s.length-4)=s.drop 4:=iF (by simp);have hl4:4<=s.length:=by omega
  have c0:((0:Nat):Int)=0:=rfl;have c1:((1:Nat):Int)=1:=rfl;have c2:((2:Nat):Int)=2:=rfl;have c3:((3:Nat):Int)=3:=rfl;have ld:∀k:Nat,ldO none 1 k 0 (some ⟨3,1,[[.int .i64 8],[.int .i64 16],[.int .i64 32]],false⟩)=(match k with|0=>some (.int .i64 8)|1=>some (.int .i64 16)|2=>some (.int .i64 32)|_=>none):=λk=>by
   rcases k with _|_|_|k<;>rfl
  have ls:∀k:Nat,ldO none 1 k 0 (some ⟨9,1,[[.str [56]],[.str [49,54]],[.str [51,50]]],false⟩)=(match k with|0=>some (.str [56])|1=>some (.str [49,54])|2=>some (.str [51,50])|_=>none):=λk=>by
   rcases k with _|_|_|k<;>rfl
  have q0:IntKind.i64.wrap ((8:Int).tdiv 16)=0:=by decide
  have q1:IntKind.i64.wrap ((16:Int).tdiv 16)=1:=by decide
  have q2:IntKind.i64.wrap ((32:Int).tdiv 16)=2:=by decide
  have p0:IntKind.i64.wrap ((8:Int).tdiv 8)=1:=by decide
  have p1:IntKind.i64.wrap ((16:Int).tdiv 8)=2:=by decide
  have p2:IntKind.i64.wrap ((32:Int).tdiv 8)=4:=by decide
  have s0:IntKind.i64.wrap ((0:Int)+1)=1:=by decide
  have s1:IntKind.i64.wrap ((1:Int)+1)=2:=by decide
  have s2:IntKind.i64.wrap ((2:Int)+1)=3:=by decide
  have t0:(0:Int).toNat=0:=rfl;have t1:(1:Int).toNat=1:=rfl;have t2:(2:Int).toNat=2:=rfl;unfold wNm;rcases(show i=0\/i=1\/i=2\/i=3 by omega)with rfl|rfl|rfl|rfl
  .simp only[go_sem,hl4,e4,c0,c1,c2,c3,aF (show(0:Int)<3 by decide),ld,ls,q0,q1,q2,t0,t1,t2];refine⟨⟨by decide,by decide⟩,⟨by decide,by omega⟩,by decide,⟨by decide,by decide⟩,?_⟩;refine ae (yt (s.drop 4) [56] hd) ?_;cases hc:Lib.contains (s.drop 4) [56]
   .simp only[go_sem];refine aH 1 (by rw[hInv];exact⟨by decide,λ_=>hc,λh=>absurd h (by decide),λh=>absurd h (by decide)⟩) (show 3-1<3-0 by decide) (Wk.of ?_ ?_)
    .simp only[go_sem,s0,s1,s2,c0,c1,c2,c3]
     try simp
    .simp only[go_sem]
   .simp only[go_sem,p0,p1,p2];exact⟨by decide,by exact aw⟩
  .rw[h1 (by decide)];simp only[go_sem,hl4,e4,c0,c1,c2,c3,aF (show(1:Int)<3 by decide),ld,ls,q0,q1,q2,t0,t1,t2];refine⟨⟨by decide,by decide⟩,⟨by decide,by omega⟩,by decide,⟨by decide,by decide⟩,?_⟩;refine ae (yt (s.drop 4) [49,54] hd) ?_;cases hc:Lib.contains (s.drop 4) [49,54]
   .simp only[go_sem];refine aH 2 (by rw[hInv];exact⟨by decide,λ_=>h1 (by decide),λ_=>hc,λh=>absurd h (by decide)⟩) (show 3-2<3-1 by decide) (Wk.of ?_ ?_)
    .simp only[go_sem,s0,s1,s2,c0,c1,c2,c3]
     try simp
    .simp only[go_sem]
   .simp only[go_sem,p0,p1,p2];exact⟨by decide,by exact aw⟩
  .rw[h1 (by decide)];rw[h2 (by decide)];simp only[go_sem,hl4,e4,c0,c1,c2,c3,aF (show(2:Int)<3 by decide),ld,ls,q0,q1,q2,t0,t1,t2];refine⟨⟨by decide,by decide⟩,⟨by decide,by omega⟩,by decide,⟨by decide,by decide⟩,?_⟩;refine ae (yt (s.drop 4) [51,50] hd) ?_;cases hc:Lib.contains (s.drop 4) [51,50]
   .simp only[go_sem];refine aH 3 (by rw[hInv];exact⟨by decide,λ_=>h1 (by decide),λ_=>h2 (by decide),λ_=>hc⟩) (show 3-3<3-2 by decide) (Wk.of ?_ ?_)
    .simp only[go_sem,s0,s1,s2,c0,c1,c2,c3]
     try simp
    .simp only[go_sem]
   .simp only[go_sem,p0,p1,p2];exact⟨by decide,by exact aw⟩
  .rw[h1 (by decide),h2 (by decide),h3 (by decide)];have e5:((3:Int)).toNat=3:=rfl;simp only[go_sem,c3,aI (show ¬(3:Int)<3 by decide),fo,e5];refine⟨by omega,λh=>?_,λh=>?_⟩
   .rw[az (by simpa using h)];exact aw
   .rw[an (by simpa using h)];exact aw
def oy(w:Int):Int:=if w=1 then 0 else if w=2 then 1 else if w=4 then 2 else if w=8 then 3 else 0
def OA(op:Int):mj op=0\/mj op=1\/mj op=2\/mj op=4\/mj op=8:=by
 unfold mj wNm
 repeat' split
 all_goals simp
def Xe(op:Int):aj pg Ee [.int .i64 op] (.int .i64 (oy (mj op))):=by
 refine ao tE ?_;simp only[go_sem,tE];refine ae (Mo op) ?_;have hw:=OA op;generalize mj op=w at hw;simp only[go_sem];refine aA (λq:Nat×Nat=>⟨[(3,.int .i64 (q.2:Nat)),(4,.int .i64 (q.1:Nat)),(2,.int .i64 0)],[]⟩) (λq=>(q.1<=1/\oy w=(q.2:Nat))\/(q.1=2/\oy w=((q.2+1:Nat):Int))\/(q.1=4/\oy w=((q.2+2:Nat):Int))\/(q.1=8/\oy w=((q.2+3:Nat):Int))) (λq=>q.1) (w.toNat,0) ?_ (Wk.of ?_ ?_) ?_
 .rcases hw with rfl|rfl|rfl|rfl|rfl
  .exact .inl ⟨by decide,rfl⟩
  .exact .inl ⟨by decide,rfl⟩
  .exact .inr (.inl ⟨rfl,rfl⟩)
  .exact .inr (.inr (.inl ⟨rfl,rfl⟩))
  .exact .inr (.inr (.inr ⟨rfl,rfl⟩))
 .have e0:((w.toNat:Nat):Int)=w:=by omega
  simp only[go_sem,e0];try simp
 .simp only[go_sem]
 rintro⟨a,n⟩ hq;replace hq:(a<=1/\oy w=(n:Nat))\/(a=2/\oy w=((n+1:Nat):Int))\/(a=4/\oy w=((n+2:Nat):Int))\/(a=8/\oy w=((n+3:Nat):Int)):=hq;have hb:oy w<=3:=by unfold oy;repeat' split<;>omega
 by_cases h1:(a:Int)>1
 .have e8:IntKind.i64.wrap ((n:Int)+1)=((n+1:Nat):Int):=by rw[wi (by omega) (by omega)];omega
  have e9:IntKind.i64.wrap ((a:Int).tdiv 2)=((a/2:Nat):Int):=by
   rw[wi (by rcases hq with h|h|h|h<;>(obtain⟨h,_⟩:=h;try subst h)<;>first|omega|decide) (by rcases hq with h|h|h|h<;>(obtain⟨h,_⟩:=h;try subst h)<;>first|omega|decide)];exact Int.ofNat_tdiv a 2
  simp only[go_sem,aF h1,e8,e9];refine⟨by decide,aH (a/2,n+1) ?_ (show a/2<a by omega) (Wk.of ?_ ?_)⟩
  .show(a/2<=1/\oy w=((n+1:Nat):Int))\/(a/2=2/\oy w=((n+1+1:Nat):Int))\/(a/2=4/\oy w=((n+1+2:Nat):Int))\/(a/2=8/\oy w=((n+1+3:Nat):Int));omega
  .simp only[go_sem]
   try simp
  .simp only[go_sem]
 .have r:oy w=(n:Nat):=by omega
  simp only[go_sem,aI h1];rw[r];exact ah
def agE:List (Int×Int):=[(37,9),(38,9),(64528,9),(64527,9),(64529,9),(64526,10),(64524,11),(64525,12),(63,13),(64,13),(64523,13),(64522,14),(64520,15),(64521,16)]
def Ov(op:Int):Int:=match agE.find? (λp=>p.1==op)with
 | some p=>p.2
 | none=>0
def Sa(op:Int):aj pg Cw [.int .i64 op] (.int .i64 (Ov op)):=by
 refine ao bK ?_;by_cases h0:op=37
 .subst h0;simp only[go_sem,bK];exact aw
 by_cases h1:op=38
 .subst h1;simp only[go_sem,bK];exact aw
 by_cases h2:op=64528
 .subst h2;simp only[go_sem,bK];exact aw
 by_cases h3:op=64527
 .subst h3;simp only[go_sem,bK];exact aw
 by_cases h4:op=64529
 .subst h4;simp only[go_sem,bK];exact aw
 by_cases h5:op=64526
 .subst h5;simp only[go_sem,bK];exact aw
 by_cases h6:op=64524
 .subst h6;simp only[go_sem,bK];exact aw
 by_cases h7:op=64525
 .subst h7;simp only[go_sem,bK];exact aw
 by_cases h8:op=63
 .subst h8;simp only[go_sem,bK];exact aw
 by_cases h9:op=64
 .subst h9;simp only[go_sem,bK];exact aw
 by_cases h10:op=64523
 .subst h10;simp only[go_sem,bK];exact aw
 by_cases h11:op=64522
 .subst h11;simp only[go_sem,bK];exact aw
 by_cases h12:op=64520
 .subst h12;simp only[go_sem,bK];exact aw
 by_cases h13:op=64521
 .subst h13;simp only[go_sem,bK];exact aw
 have r:Ov op=0:=by
  simp only[Ov,agE,List.find?_cons,List.find?_nil,ac (λe:(37:Int)=op=>h0 e.symm),ac (λe:(38:Int)=op=>h1 e.symm),ac (λe:(64528:Int)=op=>h2 e.symm),ac (λe:(64527:Int)=op=>h3 e.symm),ac (λe:(64529:Int)=op=>h4 e.symm),ac (λe:(64526:Int)=op=>h5 e.symm),ac (λe:(64524:Int)=op=>h6 e.symm),ac (λe:(64525:Int)=op=>h7 e.symm),ac (λe:(63:Int)=op=>h8 e.symm),ac (λe:(64:Int)=op=>h9 e.symm),ac (λe:(64523:Int)=op=>h10 e.symm),ac (λe:(64522:Int)=op=>h11 e.symm),ac (λe:(64520:Int)=op=>h12 e.symm),ac (λe:(64521:Int)=op=>h13 e.symm)]
 rw[r];simp only[go_sem,bK,ac h0,ac h1,ac h2,ac h3,ac h4,ac h5,ac h6,ac h7,ac h8,ac h9,ac h10,ac h11,ac h12,ac h13];exact aw
def aeG:List (Int×Int):=[(2,1),(3,1),(4,1),(12,2),(13,2),(14,3),(16,4),(210,4),(17,5),(28,6),(32,7),(33,7),(34,7),(35,8),(36,8),(65,18),(66,19),(208,20)]
def bN(op:Int):Int:=match aeG.find? (λp=>p.1==op)with
 | some p=>p.2
 | none=>if mj op>0 then 17 else Ov op
def Xp(op:Int):aj pg K8 [.int .i64 op] (.int .i64 (bN op)):=by
 refine ao bX ?_;by_cases h0:op=2
 .subst h0;simp only[go_sem,bX];exact aw
 by_cases h1:op=3
 .subst h1;simp only[go_sem,bX];exact aw
 by_cases h2:op=4
 .subst h2;simp only[go_sem,bX];exact aw
 by_cases h3:op=12
 .subst h3;simp only[go_sem,bX];exact aw
 by_cases h4:op=13
 .subst h4;simp only[go_sem,bX];exact aw
 by_cases h5:op=14
 .subst h5;simp only[go_sem,bX];exact aw
 by_cases h6:op=16
 .subst h6;simp only[go_sem,bX];exact aw
 by_cases h7:op=210
 .subst h7;simp only[go_sem,bX];exact aw
 by_cases h8:op=17
 .subst h8;simp only[go_sem,bX];exact aw
 by_cases h9:op=28
 .subst h9;simp only[go_sem,bX];exact aw
 by_cases h10:op=32
 .subst h10;simp only[go_sem,bX];exact aw
 by_cases h11:op=33
 .subst h11;simp only[go_sem,bX];exact aw
 by_cases h12:op=34
 .subst h12;simp only[go_sem,bX];exact aw
 by_cases h13:op=35
 .subst h13;simp only[go_sem,bX];exact aw
 by_cases h14:op=36
 .subst h14;simp only[go_sem,bX];exact aw
 by_cases h15:op=65
 .subst h15;simp only[go_sem,bX];exact aw
 by_cases h16:op=66
 .subst h16;simp only[go_sem,bX];exact aw
 by_cases h17:op=208
 .subst h17;simp only[go_sem,bX];exact aw
 have r:bN op=if mj op>0 then 17 else Ov op:=by
  simp only[bN,aeG,List.find?_cons,List.find?_nil,ac (λe:(2:Int)=op=>h0 e.symm),ac (λe:(3:Int)=op=>h1 e.symm),ac (λe:(4:Int)=op=>h2 e.symm),ac (λe:(12:Int)=op=>h3 e.symm),ac (λe:(13:Int)=op=>h4 e.symm),ac (λe:(14:Int)=op=>h5 e.symm),ac (λe:(16:Int)=op=>h6 e.symm),ac (λe:(210:Int)=op=>h7 e.symm),ac (λe:(17:Int)=op=>h8 e.symm),ac (λe:(28:Int)=op=>h9 e.symm),ac (λe:(32:Int)=op=>h10 e.symm),ac (λe:(33:Int)=op=>h11 e.symm),ac (λe:(34:Int)=op=>h12 e.symm),ac (λe:(35:Int)=op=>h13 e.symm),ac (λe:(36:Int)=op=>h14 e.symm),ac (λe:(65:Int)=op=>h15 e.symm),ac (λe:(66:Int)=op=>h16 e.symm),ac (λe:(208:Int)=op=>h17 e.symm)]
 rw[r];simp only[go_sem,bX,ac h0,ac h1,ac h2,ac h3,ac h4,ac h5,ac h6,ac h7,ac h8,ac h9,ac h10,ac h11,ac h12,ac h13,ac h14,ac h15,ac h16,ac h17];refine ae (Mo op) ?_;by_cases hw:mj op>0
 .simp only[go_sem,aF hw,az hw];exact aw
 .simp only[go_sem,aI hw,an hw];refine aa (Sa op) ?_;exact aw
def TN(op:Int):Int:=if free op=true then 0 else if bP op=[]then 0 else 1
def kQ(a b:List Int):aj pg K9 [.sl 1 (a.map aS),.sl 1 (b.map aS)] (.agg [.sl 1 (a.map aS),.sl 1 (b.map aS)]):=by
 refine ao BB ?_;simp only[go_sem,BB];exact ah
def Xg(s:List UInt8)(hs:s.length<1000000):aj pg Cs [.str s] (.int .i64 (if CV s [105,54,52]=true then 2 else 1)):=by
 refine ao rY ?_;simp only[go_sem,rY];refine ae (JM s [105,54,52] ⟨hs,by decide⟩) ?_;cases CV s [105,54,52]
 .simp only[go_sem];exact aw
 .simp only[go_sem];exact aw
def agO:List (Int×Bool×Bool×Bool):=[(2,true,false,false),(3,true,false,false),(4,true,false,false),(7,true,false,false),(8,true,false,false),(9,true,false,false),(12,true,false,false),(16,true,false,false),(20,true,false,false),(5,true,true,false),(10,true,true,false),(11,true,true,false),(14,true,true,false),(15,true,true,false),(13,false,true,false),(17,true,true,true),(18,false,false,true),(19,false,false,true)]
def Mz(i:Int):Bool×Bool×Bool:=match agO.find? (λp=>p.1==i)with
 | some p=>p.2
 | none=>(false,false,false)
def agu(i:Int):aj pg FU [.int .i64 i] (.tup [.bool (Mz i).1,.bool (Mz i).2.1,.bool (Mz i).2.2]):=by
 refine ao bG ?_;by_cases h0:i=2
 .subst h0;simp only[go_sem,bG];exact aw
 by_cases h1:i=3
 .subst h1;simp only[go_sem,bG];exact aw
 by_cases h2:i=4
 .subst h2;simp only[go_sem,bG];exact aw
 by_cases h3:i=7
 .subst h3;simp only[go_sem,bG];exact aw
 by_cases h4:i=8
 .subst h4;simp only[go_sem,bG];exact aw
 by_cases h5:i=9
 .subst h5;simp only[go_sem,bG];exact aw
 by_cases h6:i=12
 .subst h6;simp only[go_sem,bG];exact aw
 by_cases h7:i=16
 .subst h7;simp only[go_sem,bG];exact aw
 by_cases h8:i=20
 .subst h8;simp only[go_sem,bG];exact aw
 by_cases h9:i=5
 .subst h9;simp only[go_sem,bG];exact aw
 by_cases h10:i=10
 .subst h10;simp only[go_sem,bG];exact aw
 by_cases h11:i=11
 .subst h11;simp only[go_sem,bG];exact aw
 by_cases h12:i=14
 .subst h12;simp only[go_sem,bG];exact aw
 by_cases h13:i=15
 .subst h13;simp only[go_sem,bG];exact aw
 by_cases h14:i=13
 .subst h14;simp only[go_sem,bG];exact aw
 by_cases h15:i=17
 .subst h15;simp only[go_sem,bG];exact aw
 by_cases h16:i=18
 .subst h16;simp only[go_sem,bG];exact aw
 by_cases h17:i=19
 .subst h17;simp only[go_sem,bG];exact aw
 have r:Mz i=(false,false,false):=by
  simp only[Mz,agO,List.find?_cons,List.find?_nil,ac (λe:(2:Int)=i=>h0 e.symm),ac (λe:(3:Int)=i=>h1 e.symm),ac (λe:(4:Int)=i=>h2 e.symm),ac (λe:(7:Int)=i=>h3 e.symm),ac (λe:(8:Int)=i=>h4 e.symm),ac (λe:(9:Int)=i=>h5 e.symm),ac (λe:(12:Int)=i=>h6 e.symm),ac (λe:(16:Int)=i=>h7 e.symm),ac (λe:(20:Int)=i=>h8 e.symm),ac (λe:(5:Int)=i=>h9 e.symm),ac (λe:(10:Int)=i=>h10 e.symm),ac (λe:(11:Int)=i=>h11 e.symm),ac (λe:(14:Int)=i=>h12 e.symm),ac (λe:(15:Int)=i=>h13 e.symm),ac (λe:(13:Int)=i=>h14 e.symm),ac (λe:(17:Int)=i=>h15 e.symm),ac (λe:(18:Int)=i=>h16 e.symm),ac (λe:(19:Int)=i=>h17 e.symm)]
 rw[r];simp only[go_sem,bG,ac h0,ac h1,ac h2,ac h3,ac h4,ac h5,ac h6,ac h7,ac h8,ac h9,ac h10,ac h11,ac h12,ac h13,ac h14,ac h15,ac h16,ac h17];exact aw
def abx(n:Int):aj pg uO [.int .i64 n] (.bool (decide (n>=0)&&decide (n<4294967296))):=by
 refine ao nJ ?_;by_cases h:n>=0
 .simp only[go_sem,nJ,aF h,dM];exact ah
 .simp only[go_sem,nJ,aI h,dF];exact ah
section
def qE(n:Int):Bool:=decide (n>=0)&&decide (n<4294967296)
def XP(n:Int):Bool:=decide (n>=1)&&decide (n<=4)
def blB(k v z:Int):Bool:=if k=0 then(v==0)&&(z==0)else if k=1 then XP v&&(z==0)else if k=2 then(v==0)&&qE z else false
def aby(n:Int):aj pg uO [.int .i64 n] (.bool (qE n)):=abx n
attribute[local go_sem] fg bY
def abg(n:Int):aj pg Gb [.int .i64 n] (.bool (qE n)):=by
 refine ao oZ ?_;unfold qE;by_cases h:n>=0
 .simp only[go_sem,oZ,aF h,dM];exact ah
 .simp only[go_sem,oZ,aI h,dF];exact ah
def ajO(n:Int):aj pg IJ [.int .i64 n] (.bool (XP n)):=by
 refine ao qL ?_;unfold XP;by_cases h:n>=1
 .simp only[go_sem,qL,aF h,dM];exact ah
 .simp only[go_sem,qL,aI h,dF];exact ah
def ajr(n:Int):aj pg Lb [.int .i64 n] (.bool (XP n)):=by
 refine ao tO ?_;unfold XP;by_cases h:n>=1
 .simp only[go_sem,tO,aF h,dM];exact ah
 .simp only[go_sem,tO,aI h,dF];exact ah
def nt_{a b:Int}(h:(a != b)=true):(a==b)=false:=by simpa using h
def nf_{a b:Int}(h:(a != b)=false):(a==b)=true:=by simpa using h
def nb_{b:Bool}(h:(!b)=true):b=false:=by cases b<;>first|rfl|cases h
def nc_{b:Bool}(h:(!b)=false):b=true:=by cases b<;>first|rfl|cases h
def Xh(k v z:Int):aj pg Eh [.agg [.int .i64 k,.int .i64 v,.int .i64 z]] (.bool (blB k v z)):=by
 refine ao iJ ?_;unfold blB;by_cases h0:k=0
 .subst h0;rw[az rfl];simp only[go_sem,iJ];exact aw
 by_cases h1:k=1
 .subst h1;rw[an h0,az rfl];simp only[go_sem,iJ];refine ae (ajO v) ?_;cases XP v
  .simp only[go_sem];exact aw
  .simp only[go_sem];exact aw
 by_cases h2:k=2
 .subst h2;rw[an h0,an h1,az rfl];simp only[go_sem,iJ];refine⟨λh=>?_,λh=>?_⟩
  .refine ae (aby z) ?_;rw[h];simp only[go_sem];exact aw
  .rw[h];exact aw
 rw[an h0,an h1,an h2];simp only[go_sem,iJ,ac h0,ac h1,ac h2];exact aw
def Wx(k v z:Int):aj pg Ga [.agg [.int .i64 k,.int .i64 v,.int .i64 z]] (.bool (blB k v z)):=by
 refine ao jy ?_;unfold blB;by_cases h0:k=0
 .subst h0;rw[az rfl];simp only[go_sem,jy];refine⟨λh=>?_,λh=>?_⟩
  .rw[h];exact aw
  .rw[h];exact aw
 by_cases h1:k=1
 .subst h1;rw[an h0,az rfl];simp only[go_sem,jy];refine ae (ajr v) ?_;cases XP v
  .simp only[go_sem];exact aw
  .simp only[go_sem];exact aw
 by_cases h2:k=2
 .subst h2;rw[an h0,an h1,az rfl];simp only[go_sem,jy];refine⟨λh=>?_,λh=>?_⟩
  .refine ae (abg z) ?_;rw[h];simp only[go_sem];exact aw
  .rw[h];exact aw
 rw[an h0,an h1,an h2];simp only[go_sem,jy,ac h0,ac h1,ac h2];exact aw
def OJ{f:Int->Bool}{l:List Int}(h:∀k,k<l.length->f (av l k)=true):l.all f=true:=by
 rw[ii];intro x hx;obtain⟨k,hk,rfl⟩:=List.mem_iff_getElem.1 hx;have:=h k hk;rwa[aY hk]at this
def OI{f:Int->Bool}{l:List Int}{k:Nat}(hk:k<l.length)(h:f (av l k)=false):l.all f=false:=by
 rw[List.all_eq_false];exact⟨av l k,by rw[aY hk];exact eH hk,by rw[h];decide⟩
def RT(l:List Int)(hl:l.length<=9223372036854775807):aj pg Ek [.sl 1 (l.map aS)] (.bool (l.all qE)):=by
 refine ao tL ?_;simp only[go_sem,tL];refine aA (λi:Nat=>⟨[(0,.sl 1 (l.map aS)),(3,.int .i64 i)],[]⟩) (λi=>i<=l.length/\∀k,k<i->qE (av l k)=true) (λi=>l.length-i) 0 ⟨dx _,λk hk=>absurd hk (Nat.not_lt_zero k)⟩ (Wk.of ?_ ?_) ?_
 .simp only[go_sem];try simp
 .simp only[go_sem]
 rintro i ⟨hi,hk⟩;by_cases h1:(i:Int)<(l.length:Int)
 .have e8:=wi (n:=(i:Int)+1) (by omega) (by omega);simp only[go_sem,aF h1];refine⟨by omega,h1,?_⟩;refine ae (abg (av l i)) ?_;cases h2:qE (av l i)
  .rw[OI (by omega) h2];simp only[go_sem];exact aw
  .simp only[go_sem];refine aH (i+1) ⟨by omega,λk hk2=>?_⟩ (show l.length-(i+1)<l.length-i by omega) (Wk.of ?_ ?_)
   .rcases kU k i with h4|h4
    .exact hk k h4
    .obtain rfl:k=i:=by omega
     exact h2
   .simp only[go_sem,e8]
    try simp
   .simp only[go_sem]
 .rw[OJ (λk hk2=>hk k (by omega))];simp only[go_sem,aI h1];exact aw
end
section
def xZ(i:Int)(x:bj):Bool :=
 if i=1 then blB x.k x.v x.x else if i=6 then((x.ty.length:Int)==1)&&XP (av x.ty 0)else if i=17 then decide (x.a<=63)else if i=20 then(x.a==3)||(x.a==4)else x.lb.all qE
def plP(i:Int)(kn:Bool)(u:Bool×Bool×Bool)(x:bj):Bool :=
 kn&&((u.1||(x.a==0))&&((u.2.1||(x.b==0))&&((u.2.2||(x.n==0))&&(qE x.a&&(qE x.b &&
 (((i==19) || !decide (x.n>=4294967296))&&(((i==1)||((x.k==0)&&((x.v==0)&&(x.x==0))))&&(((i==6) || !decide ((x.ty.length:Int)>0))&&(((i==3) || !decide ((x.lb.length:Int)>0))&&xZ i x)))))))))
def CL:List (Bool×Bool×Bool×Bool×Bool×Bool×Bool×Bool×Bool) :=
 [(false,false,false,true,false,false,false,false,false),
  (true,false,false,false,true,false,false,false,false),
  (false,false,false,false,false,true,false,false,false),
  (true,true,true,false,false,false,true,false,false),
  (false,false,true,false,false,false,false,true,false),
  (true,false,false,false,false,false,false,false,true),
  (true,false,false,false,false,false,false,false,false),
  (true,true,false,false,false,false,false,false,false),
  (false,true,false,false,false,false,false,false,false),
  (false,false,true,false,false,false,false,false,false),
  (false,false,false,false,false,false,false,false,false)]
def cls(i:Int)(hi:0<=i/\i<=20):((Mz i).1,(Mz i).2.1,(Mz i).2.2,(i==1),(i==3),(i==6),(i==17),(i==19),(i==20))∈CL:=by
 obtain⟨h1,h2⟩:=hi;obtain⟨n,rfl⟩:=Int.eq_ofNat_of_zero_le h1;have hn:n<=20:=by omega
 clear h1 h2;have:∀n:Fin 21,((Mz (n.val:Nat)).1,(Mz (n.val:Nat)).2.1,(Mz (n.val:Nat)).2.2,(((n.val:Nat):Int)==1),(((n.val:Nat):Int)==3),(((n.val:Nat):Int)==6),(((n.val:Nat):Int)==17),(((n.val:Nat):Int)==19),(((n.val:Nat):Int)==20))∈CL:=by decide +kernel
 exact this ⟨n,by omega⟩
attribute[local go_sem] fg bY bV
def Xq(x:bj)(i:Int)(hi:0<=i/\i<=20)(him:bN x.op=i)(hl:x.lb.length<=9223372036854775807):aj pg dg [fN x] (.bool (plP i (!(bP x.op==[])) (Mz i) x)):=by
 refine ao tG ?_;have a1:=Xp x.op;rw[him]at a1;have a2:=agu i;have a3:=Mk x.op;have hc:=cls i hi;unfold plP;generalize (Mz i).1=ua at hc a2;generalize (Mz i).2.1=ub at hc a2;generalize (Mz i).2.2=un at hc a2;generalize h1:(i==1)=k1 at hc;generalize h3:(i==3)=k3 at hc;generalize h6:(i==6)=k6 at hc;generalize h17:(i==17)=k17 at hc;generalize h19:(i==19)=k19 at hc;generalize h20:(i==20)=k20 at hc;simp only[CL,bM,cH,or_false,vn]at hc;rcases hc with⟨rfl,rfl,rfl,rfl,rfl,rfl,rfl,rfl,rfl⟩|⟨rfl,rfl,rfl,rfl,rfl,rfl,rfl,rfl,rfl⟩|⟨rfl,rfl,rfl,rfl,rfl,rfl,rfl,rfl,rfl⟩|⟨rfl,rfl,rfl,rfl,rfl,rfl,rfl,rfl,rfl⟩|⟨rfl,rfl,rfl,rfl,rfl,rfl,rfl,rfl,rfl⟩|⟨rfl,rfl,rfl,rfl,rfl,rfl,rfl,rfl,rfl⟩|⟨rfl,rfl,rfl,rfl,rfl,rfl,rfl,rfl,rfl⟩|⟨rfl,rfl,rfl,rfl,rfl,rfl,rfl,rfl,rfl⟩|⟨rfl,rfl,rfl,rfl,rfl,rfl,rfl,rfl,rfl⟩|⟨rfl,rfl,rfl,rfl,rfl,rfl,rfl,rfl,rfl⟩|⟨rfl,rfl,rfl,rfl,rfl,rfl,rfl,rfl,rfl⟩
 all_goals
  have d1:(i != 1) = !(i==1):=rfl;have d3:(i != 3) = !(i==3):=rfl;have d6:(i != 6) = !(i==6):=rfl;have d19:(i != 19) = !(i==19):=rfl;rw[h1]at d1;rw[h3]at d3;rw[h6]at d6;rw[h19]at d19;simp only[h1,h3,h6,h19,nx,jW,dM];simp only[go_sem,tG];refine aa (a1) ?_;refine aa (a2) ?_;refine ae (a3) ?_;cases hk:!(bP x.op==[])
  .simp only[go_sem];exact aw
  rw[dM];simp only[go_sem]
  iterate 3 (first|(refine⟨λh=>?_,λh=>?_⟩
                    .rw[nt_ h,dF];exact aw
                    rw[nf_ h,dM])|skip)
  refine ae (aby x.a) ?_;cases hA:qE x.a
  .rw[dF];simp only[go_sem];exact aw
  rw[dM];simp only[go_sem];refine ae (aby x.b) ?_;cases hB:qE x.b
  .rw[dF];simp only[go_sem];exact aw
  rw[dM];simp only[go_sem,d1,d3,d6,d19,h1,h6,h17,h20,Bt,GT]
  iterate 4 (first|(refine⟨λh=>?_,λh=>?_⟩
                    ·(first|rw[aF h,Bt,dF]|rw[nb_ h,dF])
                     exact aw
                    (first|rw[aI h,GT,dM]|rw[nc_ h,dM]))|skip)
 .have r:xZ i x=blB x.k x.v x.x:=by rw[xZ,az (eq_of_beq h1)]
  rw[r];refine aa (Xh x.k x.v x.x) ?_;exact aw
 rotate_left
 .have r:xZ i x=(((x.ty.length:Int)==1)&&XP (av x.ty 0)):=by rw[xZ,an (ne_of_beq_false h1),az (eq_of_beq h6)]
  rw[r];refine⟨λh=>⟨by decide,?_,?_⟩,λh=>?_⟩
  .have:=eq_of_beq h;omega
  .rw[h,dM];refine aa (ajO (av x.ty 0)) ?_;exact aw
  .rw[h,dF];exact aw
 .have r:xZ i x=decide (x.a<=63):=by rw[xZ,an (ne_of_beq_false h1),an (ne_of_beq_false h6),az (eq_of_beq h17)]
  rw[r];exact aw
 rotate_left
 .have r:xZ i x=((x.a==3)||(x.a==4)):=by rw[xZ,an (ne_of_beq_false h1),an (ne_of_beq_false h6),an (ne_of_beq_false h17),az (eq_of_beq h20)]
  rw[r];refine⟨λh=>?_,λh=>?_⟩
  .rw[h,nx];exact aw
  .rw[h,jW];exact aw
 all_goals
  have r:xZ i x=x.lb.all qE:=by rw[xZ,an (ne_of_beq_false h1),an (ne_of_beq_false h6),an (ne_of_beq_false h17),an (ne_of_beq_false h20)]
  rw[r];refine aA (λi:Nat=>⟨[(133,.sl 1 (x.lb.map aS)),(134,.int .i64 x.lb.length),(135,.int .i64 i)],[]⟩) (λi=>i<=x.lb.length/\∀k,k<i->qE (av x.lb k)=true) (λi=>x.lb.length-i) 0 ⟨dx _,λk hk=>absurd hk (Nat.not_lt_zero k)⟩ (Wk.of ?_ ?_) ?_
  .simp only[go_sem];try simp
  .trivial
  rintro j ⟨hj,hk⟩;by_cases q1:(j:Int)<(x.lb.length:Int)
  .have e8:=wi (n:=(j:Int)+1) (by omega) (by omega);simp only[go_sem,aF q1];refine⟨by omega,q1,?_⟩;refine ae (aby (av x.lb j)) ?_;cases q2:qE (av x.lb j)
   .rw[OI (by omega) q2];simp only[go_sem];exact aw
   .simp only[go_sem];refine aH (j+1) ⟨by omega,λk hk2=>?_⟩ (show x.lb.length-(j+1)<x.lb.length-j by omega) (Wk.of ?_ ?_)
    .rcases kU k j with h4|h4
     .exact hk k h4
     .obtain rfl:k=j:=by omega
      exact q2
    .simp only[go_sem,e8]
     try simp
    .simp only[go_sem]
  .rw[OJ (λk hk2=>hk k (by omega))];simp only[go_sem,aI q1];exact aw
