import Derived.Test.YthhglklcaodfmaaGreatDoorQh
import Derived.Shelf.Abstract
import Derived.OwnWalkIn
import Derived.TacticsInMore
import Derived.LoopNIn
import Derived.LoopIn
set_option linter.all false
set_option maxRecDepth 100000
set_option maxHeartbeats 20000000
namespace Go.Proofs.YthhglklcaodfmaaGreatDoor
section
open Go Go.Mw Go.RowKit Go.Shelf
attribute [local go_sem] Oper.semAt_some
def TL (x:Int×List UInt8):Array Value:=#[.int .i64 x.1,.string ⟨x.2.toArray⟩]
theorem B6 {M:Nat→Prop} {w:World} {v:Value} (h:aR (fun _=>none) M w v (.sl 3 (HR.map T1))):∃b off cap,v = .slice (some ⟨b,off,none⟩) 24 cap∧¬M b∧∃c t fr,w.heap[b]? = some (.cells c t fr) ∧
  ∀i,i<24→c[off+i * 3]? = some (.int .i64 (au HR i).f)∧c[off+i * 3+1]? = some (.string ⟨(au HR i).h.toArray⟩)∧c[off+i * 3+2]? = some (.string ⟨(au HR i).t.toArray⟩):=by
 have h1:IRel M w v (.sl 3 (HR.map T1)):=h
 have hlen:(HR.map T1).length=24:=by rfl
 generalize hr:HR.map T1=rows at h1 hlen
 cases h1 with
 | nls=>simp at hlen
 | sl0=>simp at hlen
 | sl b off cap st c t fr rows vs hb hM hl hr1 hv hx =>
  refine ⟨b,off,cap,by rw [hlen],hM,c,t,fr,hb,fun i hi=>?_⟩
  have hrow:rows[i]? = some (T1 (au HR i)):=by
   rw [← hr,db,di (by rw [← hlen,← hr] at hi;simpa using hi)]
   rfl
  have key:∀j x,(T1 (au HR i))[j]? = some x→j<3→∃u,c[off+i * 3+j]? = some u∧IRel M w u x:=fun j x hj hj3=>⟨_,hv i j (by omega) hj3,hx i j _ _ hrow hj⟩
  obtain ⟨u0,a0,b0⟩:=key 0 (.int .i64 (au HR i).f) rfl (by omega)
  obtain ⟨u1,a1,b1⟩:=key 1 (.str (au HR i).h) rfl (by omega)
  obtain ⟨u2,a2,b2⟩:=key 2 (.str (au HR i).t) rfl (by omega)
  cases b0;cases b1;cases b2
  exact ⟨a0,a1,a2⟩
def up (k:Nat):List (Int×List UInt8):=(HR.take k).flatMap fun r=>EL r.f r.h 0 (Lib.fields r.t)
theorem Wp (k:Nat) (h:k<24):(au HR k).t.length<4294967281∧∀b∈(au HR k).t,b.toNat<128:=by
 have:∀r∈HR,r.t.length<4294967281∧∀b∈r.t,b.toNat<128:=by decide +kernel
 exact this _ (by rw [aX (by exact h)];exact List.getElem_mem _)
theorem SH (k:Nat) (h:k<24):(au HR k).h.length<1000∧0≤(au HR k).f∧(au HR k).f<100000∧(Lib.fields (au HR k).t).length<1000∧∀s∈Lib.fields (au HR k).t,s.length<1000:=by
 have:∀r∈HR,r.h.length<1000∧0≤r.f∧r.f<100000∧(Lib.fields r.t).length<1000∧∀s∈Lib.fields r.t,s.length<1000:=by decide +kernel
 exact this _ (by rw [aX (by exact h)];exact List.getElem_mem _)
theorem CZ (f:Int) (h:List UInt8):∀(l:List (List UInt8)) (k:Nat),(EL f h k l).length=l.length
 | [],_=>rfl
 | _ :: l,k=>by simp [EL,CZ f h l]
theorem CY (f:Int) (h:List UInt8):∀(l:List (List UInt8)) (k j:Nat),j<l.length→(EL f h k l)[j]? = some (f+((k+j:Nat):Int),h++au l j)
 | [],_,j,hj=>by simp at hj
 | s :: l,k,0,_=>rfl
 | s :: l,k,j+1,hj=>by
  have:=CY f h l (k+1) j (by simpa using hj)
  simp only [EL,List.getElem?_cons_succ]
  rw [this,show k+1+j=k+(j+1) by omega]
  rfl
theorem zO {f:Int} {h:List UInt8} {l:List (List UInt8)} {j:Nat} (hj:j<l.length):(EL f h 0 l).take (j+1)=(EL f h 0 l).take j++[(f+(j:Int),h++au l j)]:=by
 rw [List.take_add_one,CY f h l 0 j hj,Option.toList_some,Nat.zero_add]
theorem xx {k:Nat} (h:k<24):up (k+1)=up k++EL (au HR k).f (au HR k).h 0 (Lib.fields (au HR k).t):=by
 unfold up
 rw [List.take_add_one,di (show k<HR.length from h),Option.toList_some,List.flatMap_append,List.flatMap_singleton]
theorem LD {k:Nat} (h:k≤24):up k <+: up 24:=by
 have e:HR.take 24=HR.take k++(HR.take 24).drop k:=by
  rw [show HR.take k=(HR.take 24).take k by rw [List.take_take,Nat.min_eq_left h]];exact (List.take_append_drop k _).symm
 unfold up
 rw [e,List.flatMap_append]
 exact List.prefix_append _ _
theorem LC:up 24=HR.flatMap fun r=>EL r.f r.h 0 (wds r.t):=by decide +kernel
theorem UF (n:Nat) (w:World):Wt n Tryz.prog 289 #[] TL EN w:=by
 intro l J Jx W hH hW hJ hJx hY h0
 refine callsIn_of_wp Tryz.func289 rfl trivial ?_ rfl
 have hE:up 24=EN:=by rw [Wo];exact LC
 have cr:=aj.run Qf W hH (cargs:=[]) trivial
 simp only [Tryz.ntmps289,List.size_toArray,iw,fZ,Nat.reduceAdd,Nat.reduceSub,Array.replicate_succ,Array.replicate_zero,List.push_toArray,List.append_toArray,e_,lc]
 gi_wp2
 refine ⟨trivial,fun h=>(by cases h),(callsIn_wide.2 cr).mono ?_⟩
 rintro e W1 ⟨v,rfl,hv,hst⟩
 obtain ⟨b,off,cap,rfl,hnb,c,t,fr,hb,hc⟩:=B6 hv
 gi_wp2
 gi_loopw [8] (fun i wr=>∃k:Nat,k≤24∧i = .int .i64 k∧J (up k) wr∧W.heap.size≤wr.heap.size∧wr.heap[b]? = some (.cells c t fr)∧(aV.T Tryz.prog).H wr) (fun i _=>24 - (intOf i).toNat)
 case atStart=>exact ⟨0,by omega,rfl,hJ _ _ _ h0 hst,hst.size,hb,(aV.T Tryz.prog).stay _ _ hH fun q hq=>hst.keep q ((aV.T Tryz.prog).low _ hH q hq) (fun h=>h)⟩
 case round =>
  obtain ⟨k,hk,rfl,hJk,hsz,hbk,hHk⟩:=hrel
  rename World=>wo1
  by_cases hlt:k<24
  ·have c0:wo1.cell? ⟨b,off+k * 3,none⟩=some (.int .i64 (au HR k).f):=(bg hbk _).trans (hc k hlt).1
   have c1:wo1.cell? ⟨b,off+k * 3+1,none⟩=some (.string ⟨(au HR k).h.toArray⟩):=(bg hbk _).trans (hc k hlt).2.1
   have c2:wo1.cell? ⟨b,off+k * 3+2,none⟩=some (.string ⟨(au HR k).t.toArray⟩):=(bg hbk _).trans (hc k hlt).2.2
   have hsA:=ek.ofAlloc wo1 (.cells #[.int .i64 (au HR k).f,.string ⟨(au HR k).h.toArray⟩,.string ⟨(au HR k).t.toArray⟩] 341)
   have hHA:=(aV.T Tryz.prog).stay _ _ hHk fun q hq=>hsA.keep q ((aV.T Tryz.prog).low _ hHk q hq) (fun h=>h)
   obtain ⟨hl,ha⟩:=Wp k hlt
   obtain ⟨hh,hf0,hf1,hfl,hfs⟩:=SH k hlt
   have cf:=Bv (au HR k).t hl ha _ hHA
   generalize hF:Lib.fields (au HR k).t=fl at cf hfl hfs
   gi_wp2
   refine ⟨trivial,fun h=>(by cases h),(callsIn_wide.2 cf).mono ?_⟩
   rintro e W2 ⟨rfl,rfl⟩
   gi_wp2
   gi_loopw [16] (fun i wr2=>∃j:Nat,j≤fl.length∧i = .int .i64 j∧J (up k++(EL (au HR k).f (au HR k).h 0 fl).take j) wr2∧W.heap.size≤wr2.heap.size∧wr2.heap[b]? = some (.cells c t fr) ∧
     wr2.heap[wo1.heap.size]? = some (.cells #[.int .i64 (au HR k).f,.string ⟨(au HR k).h.toArray⟩,.string ⟨(au HR k).t.toArray⟩] 341)∧wr2.heap[wo1.heap.size+1]? = some (.cells (fl.map fun l=>Value.string ⟨l.toArray⟩).toArray 9)∧(aV.T Tryz.prog).H wr2) (fun i _=>fl.length - (intOf i).toNat)
   case atStart =>
    have hsF:=hsA.one (ek.ofAlloc _ (.cells (fl.map fun l=>Value.string ⟨l.toArray⟩).toArray 9))
    refine ⟨0,ef _,rfl,?_,by simp;omega,?_,?_,?_,?_⟩
    ·rw [gN,jJ];exact hJ _ _ _ hJk hsF
    ·rw [hsF.keep b (aP hbk) (fun h=>h)];exact hbk
    ·exact (Below.heap_alloc _ _ _ (by simp)).trans (World.alloc_heap_new _ _)
    ·have:=World.alloc_heap_new (wo1.alloc (.cells #[.int .i64 (au HR k).f,.string ⟨(au HR k).h.toArray⟩,.string ⟨(au HR k).t.toArray⟩] 341)) (.cells (fl.map fun l=>Value.string ⟨l.toArray⟩).toArray 9)
     rwa [World.size_alloc] at this
    ·exact (aV.T Tryz.prog).stay _ _ hHk fun q hq=>hsF.keep q ((aV.T Tryz.prog).low _ hHk q hq) (fun h=>h)
   case round =>
    obtain ⟨j,hj,rfl,hJj,hsz2,hb2,hx2,hs2,hH2⟩:=hrel
    by_cases hlt2:j<fl.length
    ·have d0:wr.cell? ⟨wo1.heap.size,0,none⟩=some (.int .i64 (au HR k).f):=bg hx2 _
     have d1:wr.cell? ⟨wo1.heap.size,1,none⟩=some (.string ⟨(au HR k).h.toArray⟩):=bg hx2 _
     have d3:wr.cell? ⟨wo1.heap.size+1,j,none⟩=some (.string ⟨(au fl j).toArray⟩):=(bg hs2 _).trans (by rw [List.getElem?_toArray,db,di hlt2];rfl)
     have hss:=hfs (au fl j) (by rw [aX hlt2];exact List.getElem_mem _)
     have hcat:¬9223372036854775807<(au HR k).h.length+(au fl j).length:=by omega
     have hpre:(up k++(EL (au HR k).f (au HR k).h 0 fl).take j)++[((au HR k).f+(j:Int),(au HR k).h++au fl j)] <+: EN:=by
      rw [oe,← zO hlt2,← hE,← hF]
      refine List.IsPrefix.trans ?_ (LD (show k+1≤24 by omega))
      rw [xx hlt]
      exact (List.prefix_append_right_inj _).2 (List.take_prefix _ _)
     obtain ⟨fn,tmps,assign,body,hy,hR⟩:=hY _ _ wr hJj hpre
     have hw:wrap64 ((au HR k).f+(j:Int))=(au HR k).f+(j:Int):=IntWalk.wrap64_in _ (by omega)
     have hc2:(ByteArray.mk (au HR k).h.toArray++ByteArray.mk (au fl j).toArray)=ByteArray.mk ((au HR k).h++au fl j).toArray:=by apply ByteArray.ext;simp
     have hy2:(Instr.yield l #[.int .i64 ((au HR k).f+(j:Int)),.string (ByteArray.mk ((au HR k).h++au fl j).toArray)]).run Tryz.prog wr = .ok (.round l fn tmps assign body) wr:=hy
     gi_wp2
     refine ⟨fun h=>(by cases h),hR.mono ?_⟩
     rintro e W3 (⟨rfl,hJ3,hk3⟩ | ⟨rfl,hJx3⟩)
     ·gi_wp2
      go_roundw
      case rel =>
       refine ⟨j+1,by omega,by simp,?_,eJ hsz2 hk3.1,?_,hk3.2.1 _ _ _ _ hsz hx2,hk3.2.1 _ _ _ _ (by omega) hs2,(aV.T Tryz.prog).stay _ _ hH2 fun q hq=>hk3.2.2 q hq⟩
       ·rw [zO hlt2,← oe];exact hJ3
       ·by_cases hbw:W.heap.size≤b
        ·exact hk3.2.1 _ _ _ _ hbw hb2
        ·rw [hk3.2.2 b (Classical.byContradiction fun hn=>hnb ⟨by omega,hn⟩)];exact hb2
      case measure=>simp [intOf];omega
     ·gi_wp2
      refine bodyPost_ret (results_none rfl _ _ _) rfl ?_
      exact ⟨⟨_,rfl⟩,.inr ⟨_,hpre,hJx3⟩⟩
    ·obtain rfl:j=fl.length:=by omega
     gi_wp2
     refine ⟨⟨k+1,by omega,by simp,?_,hsz2,hb2,hH2⟩,by simp [intOf];omega⟩
     rw [xx hlt,hF]
     rw [iq (by rw [CZ];exact aO _)] at hJj
     exact hJj
  ·obtain rfl:k=24:=by omega
   gi_wp2
   go_end0
   exact ⟨⟨_,rfl⟩,.inl (hE▸hJk)⟩
end
section
open Go Go.Mw Go.RowKit Go.Shelf
attribute [local go_sem] Oper.semAt_some
def ba (op:Int):List UInt8:=match EN.find? (fun p=>p.1==op) with
 | some p=>p.2
 | none=>[]
theorem I0 {α:Type} {f:α→Bool} {l dK:List α} {x:α} (h:dK++[x] <+: l) (hn:∀p∈dK,f p=false) (hx:f x=true):l.find? f=some x:=by
 obtain ⟨r,rfl⟩:=h
 rw [oe,List.find?_append,List.find?_eq_none.2 (fun p hp=>by rw [hn p hp];decide)]
 simp [hx]
theorem fh {w W:World} {l:Nat} {o o':Obj} (h:ek No w W) (hl:w.heap.size≤l) (hc:W.heap[l]? = some o) (ho:o.isCells=false):ek No w (W.putObj l o') where
 size:=eJ h.size (grownBy_putObj' W l o').size
 keep b hb _:=by rw [World.putObj_heap_other (by omega)];exact h.keep b hb (fun h=>h)
 shape b c t fr hb:=by
  obtain ⟨c',fr',h1,h2⟩:=h.shape b c t fr hb
  exact ⟨c',fr',by rw [World.putObj_heap_other (by have:=aP hb;omega)];exact h1,h2⟩
 os:=(grownBy_putObj' W l o').os.trans h.os
 out:=(grownBy_putObj' W l o').output.trans h.out
theorem dj {w W:World} {a:Addr} {v:Value} (h:ek No w W) (hl:w.heap.size≤a.block):ek No w (W.setCell a v) where
 size:=by simpa [World.setCell] using h.size
 keep b hb _:=by
  have:b≠a.block:=by omega
  simp only [World.setCell,m9,ar (Ne.symm this)]
  exact h.keep b hb (fun h=>h)
 shape b c t fr hb:=by
  obtain ⟨c',fr',h1,h2⟩:=h.shape b c t fr hb
  have:b≠a.block:=by have:=aP hb;omega
  exact ⟨c',fr',by simp only [World.setCell,m9,ar (Ne.symm this)];exact h1,h2⟩
 os:=h.os
 out:=h.out
theorem TO {bl:Nat→Option Nat} {M:Nat→Prop} {w:World} {v:Value} {f:FuncId} (h:aR bl M w v (.fn f [])) (hf:decide (f<4000000)=true:=by rfl):v = .func (.func f) #[] #[]:=by
 obtain ⟨cs,rfl,h⟩:=h
 have h1:QU f=f:=av (of_decide_eq_true hf)
 cases cs with
 | nil=>rw [h1];simp
 | cons=>exact h.elim
theorem lR {fn:Func} {t:Tmp} {ty:TypeId} (h:fn.results = #[.cell t ty]) (tmps:Array Value) (P:Program) (w:World) {b:Nat} {v:Value} (ha:tmps.getD t undef = .pointer (some ⟨b,0,none⟩)) (hagg:(isAgg ty).run P w = .ok false w)
  (hc:w.cell? ⟨b,0,none⟩=some v):(results fn tmps).run P w = .ok v w:=by
 simp only [jm] at ha
 have hc':w.cell? { block:=b,off:=0 }=some v:=hc
 simp [results,h,ha,asAddr,loadVar,hagg,hc']
theorem sJ (op:Int):aj Tryz.prog 205 [.int .i64 op] (.str (ba op)):=by
 refine aj.of (fun w bl M cargs hH hM ha=>?_) rfl
 match cargs,ha with
 | [a],⟨h1,_⟩ =>
 obtain rfl:=h1.int
 refine (callsIn_wide (n:=3)).1 ?_
 refine callsIn_of_wp_marks Tryz.func205 rfl trivial ?_ rfl
 have hs1:=(ek.ofAlloc w (.cells #[.int .i64 op] 60)).one (ek.ofAlloc _ (.cells #[.string ⟨#[]⟩] 9))
 have hH1:=(aV.T Tryz.prog).stay _ _ hH fun q hq=>hs1.keep q ((aV.T Tryz.prog).low _ hH q hq) (fun h=>h)
 have cn:=aj.run Mf _ hH1 (cargs:=[]) trivial
 simp only [Tryz.ntmps205,List.size_toArray,iw,fZ,Nat.reduceAdd,Nat.reduceSub,Array.replicate_succ,Array.replicate_zero,List.push_toArray,List.append_toArray,e_,lc]
 gi_wp2
 refine ⟨trivial,(callsIn_wide.2 cn).mono ?_⟩
 rintro e W1 ⟨v,rfl,hv,hst⟩
 obtain rfl:=TO hv
 have hsW:=hs1.one hst
 have hHW:=(aV.T Tryz.prog).stay _ _ hH fun q hq=>hsW.keep q ((aV.T Tryz.prog).low _ hH q hq) (fun h=>h)
 have hb0:W1.heap[w.heap.size]? = some (.cells #[.int .i64 op] 60):=by
  rw [hst.keep _ (by simp<;>omega) (fun h=>h)];exact (Below.heap_alloc _ _ _ (by simp)).trans (World.alloc_heap_new _ _)
 have hb1:W1.heap[w.heap.size+1]? = some (.cells #[.string ⟨#[]⟩] 9):=by
  rw [hst.keep _ (by simp) (fun h=>h)]
  have:=World.alloc_heap_new (w.alloc (.cells #[.int .i64 op] 60)) (.cells #[.string ⟨#[]⟩] 9)
  rwa [World.size_alloc] at this
 have hz:w.heap.size+2≤W1.heap.size:=by have:=hst.size;simpa using this
 clear cn hst hs1 hH1 hv
 gi_wp2
 refine Gh (α:=Int×List UInt8) (encs:=TL) (E:=EN) (by decide) hHW (gf:=289) (lb:=#[]) rfl (enters_of Tryz.func289 (by kernel_rfl) rfl) (UF _ W1) (ek.refl _ _) (fun _=>rfl)
  (fun dK W=>ek No w W∧W.heap[w.heap.size]? = some (.cells #[.int .i64 op] 60)∧W.heap[w.heap.size+1]? = some (.cells #[.string ⟨#[]⟩] 9)∧∀p∈dK,(p.1==op)=false)
  (fun c dK W=>c = .ret∧ek No w W∧W.heap[w.heap.size+1]? = some (.cells #[.string ⟨(ba op).toArray⟩] 9))
  (fun s A B h hs=>⟨h.1.one hs,(hs.keep _ (aP h.2.1) (fun h=>h)).trans h.2.1,(hs.keep _ (aP h.2.2.1) (fun h=>h)).trans h.2.2.1,h.2.2.2⟩)
  (fun c s A B h hs=>⟨h.1,h.2.1.one hs,(hs.keep _ (aP h.2.2) (fun h=>h)).trans h.2.2⟩)
  (fun s W l o o' h hl hc ho=>⟨fh h.1 (by omega) hc ho,by rw [World.putObj_heap_other (by omega)];exact h.2.1,by rw [World.putObj_heap_other (by omega)];exact h.2.2.1,h.2.2.2⟩)
  (fun c s W l o o' h hl hc ho=>⟨h.1,fh h.2.1 (by omega) hc ho,by rw [World.putObj_heap_other (by omega)];exact h.2.2⟩)
  ⟨hsW,hb0,hb1,fun p hp=>absurd hp List.not_mem_nil⟩
  (fun x=>{ tmps:=#[.int .i64 op,.pointer (some ⟨w.heap.size,0,none⟩),.pointer (some ⟨w.heap.size+1,0,none⟩),.int .i64 x.1,.string ⟨x.2.toArray⟩,.func (.func 289) #[] #[],.int .i64 x.1,.string ⟨x.2.toArray⟩,undef,undef,undef,undef],defers:=[] }) ?assign ?body ?done ?stop
 case assign =>
  intro l x W K hK
  simp only [TL]
  gi_wp2
  exact hK
 case body =>
  rintro l dK x W ⟨hS,hB0,hB1,hP⟩ hpre
  have d0:W.cell? ⟨w.heap.size,0,none⟩=some (.int .i64 op):=bg hB0 _
  have d1:W.cell? ⟨w.heap.size+1,0,none⟩=some (.string ⟨#[]⟩):=bg hB1 _
  have f1:W.frozen? ⟨w.heap.size+1,0,none⟩=false:=by simp [World.frozen?,hB1]
  by_cases hx:x.1=op
  ·have hn:ba op=x.2:=by
    unfold ba
    rw [I0 hpre hP (by simpa using hx)]
   gi_wp2
   refine ⟨KeepsOthers.setCell _ _ _,rfl,dj hS (by simp),?_⟩
   rw [hn]
   simp [World.setCell,m9,hB1]
  ·gi_wp2
   refine ⟨⟨aO _,fun _ _ h _=>h⟩,sx.refl _ _,hS,hB0,hB1,fun p hp=>?_⟩
   rcases dL.1 hp with hp | hp
   ·exact hP p hp
   ·rw [du.1 hp];simpa using hx
 case done =>
  rintro D W hD ⟨hS,hB0,hB1,hP⟩ hK
  have d1:W.cell? ⟨w.heap.size+1,0,none⟩=some (.string ⟨#[]⟩):=bg hB1 _
  have f1:W.frozen? ⟨w.heap.size+1,0,none⟩=false:=by simp [World.frozen?,hB1]
  have hn:ba op=[]:=by
   unfold ba
   rw [List.find?_eq_none.2 (fun p hp=>by rw [hP p hp];decide)]
  gi_wp2
  have hD2:(W.setCell ⟨w.heap.size+1,0,none⟩ (.string ⟨#[]⟩)).heap[D]? = some (.deferred (some [])):=by
   simp only [World.setCell,m9,ar (show ¬w.heap.size+1=D by omega)];exact hK
  have hB3:(W.setCell ⟨w.heap.size+1,0,none⟩ (.string ⟨#[]⟩)).heap[w.heap.size+1]? = some (.cells #[.string ⟨#[]⟩] 9):=by
   simp [World.setCell,m9,hB1]
  have hS2:=fh (dj hS (a:=⟨w.heap.size+1,0,none⟩) (v:=.string ⟨#[]⟩) (by simp)) (by omega) hD2 rfl (o':=.deferred none)
  refine ⟨by simp,.inl ⟨_,_,rfl,run_takeDeferred hD2,?_⟩⟩
  have hB4:((W.setCell ⟨w.heap.size+1,0,none⟩ (.string ⟨#[]⟩)).putObj D (.deferred none)).heap[w.heap.size+1]? = some (.cells #[.string ⟨#[]⟩] 9):=by rw [World.putObj_heap_other (by omega)];exact hB3
  refine ⟨_,lR rfl _ _ _ rfl (Tryz.isAgg9 _) (bg hB4 _),_,rfl,hS2,?_⟩
  rw [hn]
  exact IRel.str _
 case stop =>
  rintro D c dK W hD hp ⟨rfl,hS,hB1⟩ hK
  gi_wp2
  have hS2:=fh hS (by omega) hK rfl (o':=.deferred none)
  refine ⟨by simp,.inl ⟨_,_,rfl,run_takeDeferred hK,?_⟩⟩
  have hB4:(W.putObj D (.deferred none)).heap[w.heap.size+1]? = some (.cells #[.string ⟨(ba op).toArray⟩] 9):=by rw [World.putObj_heap_other (by omega)];exact hB1
  exact ⟨_,lR rfl _ _ _ rfl (Tryz.isAgg9 _) (bg hB4 _),_,rfl,hS2,IRel.str _⟩
theorem eT {W:World} {b off:Nat} {c:Array Value} {t:TypeId} {fr:Nat×Nat} {v:Value} (h:W.heap[b]? = some (.cells c t fr)):(W.setCell ⟨b,off,none⟩ v).heap[b]? = some (.cells (c.setIfInBounds off v) t fr):=by
 simp [World.setCell,m9,h]
theorem cQ {W:World} {b b' off:Nat} {v:Value} (h:b≠b'):(W.setCell ⟨b,off,none⟩ v).heap[b']? = W.heap[b']?:=by
 simp [World.setCell,m9,h]
theorem v_ {fn:Func} {t t2:Tmp} {ty ty2:TypeId} (h:fn.results = #[.cell t ty,.cell t2 ty2]) (tmps:Array Value) (P:Program) (w:World) {b b2:Nat} {v v2:Value} (ha:tmps.getD t undef = .pointer (some ⟨b,0,none⟩)) (hagg:(isAgg ty).run P w = .ok false w)
  (hc:w.cell? ⟨b,0,none⟩=some v) (ha2:tmps.getD t2 undef = .pointer (some ⟨b2,0,none⟩)) (hagg2:(isAgg ty2).run P w = .ok false w) (hc2:w.cell? ⟨b2,0,none⟩=some v2):(results fn tmps).run P w = .ok (.tuple #[v,v2]) w:=by
 simp only [jm] at ha ha2
 have hc':w.cell? { block:=b,off:=0 }=some v:=hc
 have hc2':w.cell? { block:=b2,off:=0 }=some v2:=hc2
 simp [results,h,ha,asAddr,loadVar,hagg,hc',ha2,hagg2,hc2']
end
section
open Go Go.Mw
attribute [local go_sem] aaY
def st_ (s:List UInt8):List AV:=[.str s]
theorem af5 (s:List UInt8):st_ s=[.str s]:=rfl
attribute [go_sem] af5
end
section
open Go Go.Mw
def nT (op:Int):Option Oc:=OC.find? (fun o=>o.op==op)
def rNm (op:Int):List UInt8:=((nT op).getD default).nm
def FL (op:Int):Int:=((nT op).getD default).im
def Rj (op:Int):Bool:=(nT op).isSome
attribute [local go_sem] aaY
def Gj (s p:List UInt8):Bool:=(List.range (s.length+1)).any fun i=>decide (i+p.length≤s.length)&&((s.drop i).take p.length==p)
def wR (s:List UInt8):Int:=if Gj s [100,56]=true then 1 else if Gj s [101,56]=true then 1 else if Gj s [100,49,54]=true then 2 else if Gj s [101,49,54]=true then 2 else
 if Gj s [100,51,50]=true then 4 else if Gj s [101,51,50]=true then 4 else if (s.drop 1).take 2=[51,50] then 4 else 8
def Gb (op:Int):Int:=if FL op≠17 then 0 else wR (rNm op)
def Wz (w:Int):Int:=if w=2 then 1 else if w=4 then 2 else if w=8 then 3 else 0
def free (op:Int):Bool:=op==1||(op==2||(op==3||(op==5||op==11)))
def IB (op:Int):Int:=if free op=true then 0 else if Rj op=true then 1 else 0
end
open Go Go.Mw
theorem Ap {p:Int→List UInt8→Bool} (h:EN.all (fun x=>p x.1 x.2)=true) (op:Int):ba op=[]∨p op (ba op)=true:=by
 unfold ba
 cases hr:EN.find? (fun x=>x.1==op) with
 | none=>exact .inl rfl
 | some o =>
  have h1:=eA.1 h o (List.mem_of_find?_eq_some hr)
  have h2:=List.find?_some hr
  simp only [beq_iff_eq] at h2
  rw [h2] at h1
  exact .inr h1
theorem uh (op:Int):(ba op).length<1000:=by
 rcases Ap (p:=fun _ s=>decide (s.length<1000)) (by decide +kernel) op with h | h
 ·rw [h];decide
 ·exact of_decide_eq_true h
def QK (op:Int):Bool:=decide (op≥40)&&(decide (op≤62) && !(ba op==[]))
theorem Nv (op:Int) (h:QK op=true):5≤(ba op).length:=by
 simp only [QK,dV,qc,vL,QD,ne_eq] at h
 rcases Ap (p:=fun k s=>decide (40≤k→k≤62→5≤s.length)) (by decide +kernel) op with h1 | h1
 ·exact absurd h1 h.2.2
 ·exact (of_decide_eq_true h1) h.1 h.2.1
theorem AL (op:Int):aj Tryz.prog Zt [.int .i64 op] (.bool (!(ba op==[]))):=by
 refine ac (ic:=Gy.body) ap W8 rfl rfl ?_
 simp only [go_sem,Gy]
 refine aa (sJ op) ?_
 simp only [go_sem]
 exact ak
theorem abi (s p:List UInt8) (hs:s.length<1000000∧p.length<1000000):aj Tryz.prog aeB [.str s,.str p] (.bool (decide (p.length≤s.length)&&(s.take p.length==p))):=by
 refine ac (ic:=MY.body) ap acs rfl rfl ?_
 by_cases h:(s.length:Int)≥(p.length:Int)
 ·simp only [go_sem,MY,bH h,bH (show p.length≤s.length by omega)]
  exact ⟨by omega,by exact ak⟩
 ·simp only [go_sem,MY,bF h,bF (show ¬p.length≤s.length by omega)]
  exact ak
def sD (s p:List UInt8):Bool:=decide (p.length≤s.length)&&(s.take p.length==p)
theorem yN (s p:List UInt8) (hs:s.length<1000000∧p.length<1000000):aj Tryz.prog afc [.str s,.str p] (.bool (sD s p)):=by
 refine ac (ic:=Sd.body) ap adi rfl rfl ?_
 simp only [go_sem,Sd]
 refine aa (abi s p hs) ?_
 simp only [go_sem]
 exact an
theorem L5 (op:Int):aj Tryz.prog aft [.int .i64 op] (.bool (QK op)):=by
 refine ac (ic:=Hl.body) ap adN rfl rfl ?_
 unfold QK
 by_cases h1:op≥40
 ·by_cases h2:op≤62
  ·simp only [go_sem,Hl,bH h1,bH h2,fV]
   refine aa (AL op) ?_
   simp only [go_sem]
   exact ak
  ·simp only [go_sem,Hl,bH h1,bF h2,fV,gp]
   exact ak
 ·simp only [go_sem,Hl,bF h1,gp]
  exact ak
def wNm (s:List UInt8):Int:=if Lib.contains (s.drop 4) [56]=true then 1 else if Lib.contains (s.drop 4) [49,54]=true then 2 else if Lib.contains (s.drop 4) [51,50]=true then 4 else if s.take 3=[105,51,50] then 4 else 8
def ik (op:Int):Int:=if QK op=true then wNm (ba op) else 0
theorem AP (op:Int):aj Tryz.prog Zu [.int .i64 op] (.int .i64 (ik op)):=by
 refine ac (ic:=GB.body) ap W_ rfl rfl ?_
 simp only [go_sem,GB]
 refine aa (L5 op) ?_
 cases hac:QK op
 ·have r:ik op=0:=by rw [ik,hac];rfl
  rw [r]
  simp only [go_sem]
  exact an
 ·have r:ik op=wNm (ba op):=by rw [ik,hac];rfl
  have hl:=uh op
  have hl2:=Nv op hac
  rw [r]
  simp only [go_sem]
  refine aa (sJ op) ?_
  simp only [go_sem]
  generalize ba op=s at hl hl2
  obtain ⟨Inv,hInv⟩:∃Inv:Nat→Prop,Inv=fun i=>i≤3∧(0<i→Lib.contains (s.drop 4) [56]=false)∧(1<i→Lib.contains (s.drop 4) [49,54]=false)∧(2<i→Lib.contains (s.drop 4) [51,50]=false):=⟨_,rfl⟩
  refine aJ (fun i:Nat=>⟨[(11,.ms 11 1 0 3),(12,.int .i64 3),(13,.int .i64 i),(3,.str s),(2,.int .i64 0)],[(11,⟨3,1,[[.int .i64 8],[.int .i64 16],[.int .i64 32]],false⟩)]⟩) Inv (fun i=>3 - i) 0 (by rw [hInv];exact ⟨by decide,fun h=>absurd h (by decide),fun h=>absurd h (by decide),fun h=>absurd h (by decide)⟩) (Wk.of ?_ ?_) ?_
  ·simp only [go_sem];try simp
  ·simp only [go_sem];try simp
  intro i hInv1
  rw [hInv] at hInv1
  obtain ⟨hi,h1,h2,h3⟩:=hInv1
  have hd:(s.drop 4).length<4294967281:=by simp;omega
  have e4:(s.drop 4).take (s.length - 4)=s.drop 4:=iq (by simp)
  have hl4:4≤s.length:=by omega
  have c0:((0:Nat):Int)=0:=rfl
  have c1:((1:Nat):Int)=1:=rfl
  have c2:((2:Nat):Int)=2:=rfl
  have c3:((3:Nat):Int)=3:=rfl
  have ld:∀k:Nat,Uo none 1 k 0 (some ⟨3,1,[[.int .i64 8],[.int .i64 16],[.int .i64 32]],false⟩)=(match k with | 0=>some (.int .i64 8) | 1=>some (.int .i64 16) | 2=>some (.int .i64 32) | _=>none):=fun k=>by
   rcases k with _ | _ | _ | k<;>rfl
  have ls:∀k:Nat,Uo none 1 k 0 (some ⟨9,1,[[.str [56]],[.str [49,54]],[.str [51,50]]],false⟩)=(match k with | 0=>some (.str [56]) | 1=>some (.str [49,54]) | 2=>some (.str [51,50]) | _=>none):=fun k=>by
   rcases k with _ | _ | _ | k<;>rfl
  have q0:IntKind.i64.wrap ((8:Int).tdiv 16)=0:=by decide
  have q1:IntKind.i64.wrap ((16:Int).tdiv 16)=1:=by decide
  have q2:IntKind.i64.wrap ((32:Int).tdiv 16)=2:=by decide
  have p0:IntKind.i64.wrap ((8:Int).tdiv 8)=1:=by decide
  have p1:IntKind.i64.wrap ((16:Int).tdiv 8)=2:=by decide
  have p2:IntKind.i64.wrap ((32:Int).tdiv 8)=4:=by decide
  have s0:IntKind.i64.wrap ((0:Int)+1)=1:=by decide
  have s1:IntKind.i64.wrap ((1:Int)+1)=2:=by decide
  have s2:IntKind.i64.wrap ((2:Int)+1)=3:=by decide
  have t0:(0:Int).toNat=0:=rfl
  have t1:(1:Int).toNat=1:=rfl
  have t2:(2:Int).toNat=2:=rfl
  unfold wNm
  rcases (show i=0∨i=1∨i=2∨i=3 by omega) with rfl | rfl | rfl | rfl
  ·simp only [go_sem,hl4,e4,c0,c1,c2,c3,bH (show (0:Int)<3 by decide),ld,ls,q0,q1,q2,t0,t1,t2]
   refine ⟨⟨by decide,by decide⟩,⟨by decide,by omega⟩,by decide,⟨by decide,by decide⟩,?_⟩
   refine aa (mX (s.drop 4) [56] hd) ?_
   cases hc:Lib.contains (s.drop 4) [56]
   ·simp only [go_sem]
    refine bA 1 (by rw [hInv];exact ⟨by decide,fun _=>hc,fun h=>absurd h (by decide),fun h=>absurd h (by decide)⟩) (show 3 - 1<3 - 0 by decide) (Wk.of ?_ ?_)
    ·simp only [go_sem,s0,s1,s2,c0,c1,c2,c3]
     try simp
    ·simp only [go_sem]
   ·simp only [go_sem,p0,p1,p2]
    exact ⟨by decide,by exact an⟩
  ·rw [h1 (by decide)]
   simp only [go_sem,hl4,e4,c0,c1,c2,c3,bH (show (1:Int)<3 by decide),ld,ls,q0,q1,q2,t0,t1,t2]
   refine ⟨⟨by decide,by decide⟩,⟨by decide,by omega⟩,by decide,⟨by decide,by decide⟩,?_⟩
   refine aa (mX (s.drop 4) [49,54] hd) ?_
   cases hc:Lib.contains (s.drop 4) [49,54]
   ·simp only [go_sem]
    refine bA 2 (by rw [hInv];exact ⟨by decide,fun _=>h1 (by decide),fun _=>hc,fun h=>absurd h (by decide)⟩) (show 3 - 2<3 - 1 by decide) (Wk.of ?_ ?_)
    ·simp only [go_sem,s0,s1,s2,c0,c1,c2,c3]
     try simp
    ·simp only [go_sem]
   ·simp only [go_sem,p0,p1,p2]
    exact ⟨by decide,by exact an⟩
  ·rw [h1 (by decide)]
   rw [h2 (by decide)]
   simp only [go_sem,hl4,e4,c0,c1,c2,c3,bH (show (2:Int)<3 by decide),ld,ls,q0,q1,q2,t0,t1,t2]
   refine ⟨⟨by decide,by decide⟩,⟨by decide,by omega⟩,by decide,⟨by decide,by decide⟩,?_⟩
   refine aa (mX (s.drop 4) [51,50] hd) ?_
   cases hc:Lib.contains (s.drop 4) [51,50]
   ·simp only [go_sem]
    refine bA 3 (by rw [hInv];exact ⟨by decide,fun _=>h1 (by decide),fun _=>h2 (by decide),fun _=>hc⟩) (show 3 - 3<3 - 2 by decide) (Wk.of ?_ ?_)
    ·simp only [go_sem,s0,s1,s2,c0,c1,c2,c3]
     try simp
    ·simp only [go_sem]
   ·simp only [go_sem,p0,p1,p2]
    exact ⟨by decide,by exact an⟩
  ·rw [h1 (by decide),h2 (by decide),h3 (by decide)]
   have e5:((3:Int)).toNat=3:=rfl
   simp only [go_sem,c3,bF (show ¬(3:Int)<3 by decide),List.drop_zero,e5]
   refine ⟨by omega,fun h=>?_,fun h=>?_⟩
   ·rw [av (by simpa using h)]
    exact an
   ·rw [ar (by simpa using h)]
    exact an
def jr (w:Int):Int:=if w=1 then 0 else if w=2 then 1 else if w=4 then 2 else if w=8 then 3 else 0
theorem Cp (op:Int):ik op=0∨ik op=1∨ik op=2∨ik op=4∨ik op=8:=by
 unfold ik wNm
 repeat' split
 all_goals simp
theorem L6 (op:Int):aj Tryz.prog Zs [.int .i64 op] (.int .i64 (jr (ik op))):=by
 refine ac (ic:=Gx.body) ap W7 rfl rfl ?_
 simp only [go_sem,Gx]
 refine aa (AP op) ?_
 have hw:=Cp op
 generalize ik op=w at hw
 simp only [go_sem]
 refine aJ (fun q:Nat×Nat=>⟨[(3,.int .i64 (q.2:Nat)),(4,.int .i64 (q.1:Nat)),(2,.int .i64 0)],[]⟩) (fun q=>(q.1≤1∧jr w=(q.2:Nat))∨(q.1=2∧jr w=((q.2+1:Nat):Int))∨(q.1=4∧jr w=((q.2+2:Nat):Int))∨(q.1=8∧jr w=((q.2+3:Nat):Int))) (fun q=>q.1) (w.toNat,0) ?_ (Wk.of ?_ ?_) ?_
 ·rcases hw with rfl | rfl | rfl | rfl | rfl
  ·exact .inl ⟨by decide,rfl⟩
  ·exact .inl ⟨by decide,rfl⟩
  ·exact .inr (.inl ⟨rfl,rfl⟩)
  ·exact .inr (.inr (.inl ⟨rfl,rfl⟩))
  ·exact .inr (.inr (.inr ⟨rfl,rfl⟩))
 ·have e0:((w.toNat:Nat):Int)=w:=by omega
  simp only [go_sem,e0];try simp
 ·simp only [go_sem]
 rintro ⟨a,n⟩ hq
 replace hq:(a≤1∧jr w=(n:Nat))∨(a=2∧jr w=((n+1:Nat):Int))∨(a=4∧jr w=((n+2:Nat):Int))∨(a=8∧jr w=((n+3:Nat):Int)):=hq
 have hb:jr w≤3:=by unfold jr;repeat' split<;>omega
 by_cases h1:(a:Int)>1
 ·have e8:IntKind.i64.wrap ((n:Int)+1)=((n+1:Nat):Int):=by rw [wi (by omega) (by omega)];omega
  have e9:IntKind.i64.wrap ((a:Int).tdiv 2)=((a / 2:Nat):Int):=by
   rw [wi (by rcases hq with h | h | h | h<;>(obtain ⟨h,_⟩:=h;try subst h)<;>first | omega | decide) (by rcases hq with h | h | h | h<;>(obtain ⟨h,_⟩:=h;try subst h)<;>first | omega | decide)]
   exact Int.ofNat_tdiv a 2
  simp only [go_sem,bH h1,e8,e9]
  refine ⟨by decide,bA (a / 2,n+1) ?_ (show a / 2<a by omega) (Wk.of ?_ ?_)⟩
  ·show (a / 2≤1∧jr w=((n+1:Nat):Int))∨(a / 2=2∧jr w=((n+1+1:Nat):Int))∨(a / 2=4∧jr w=((n+1+2:Nat):Int))∨(a / 2=8∧jr w=((n+1+3:Nat):Int))
   omega
  ·simp only [go_sem]
   try simp
  ·simp only [go_sem]
 ·have r:jr w=(n:Nat):=by omega
  simp only [go_sem,bF h1]
  rw [r]
  exact ak
def VS:List (Int×Int):=[(37,9),(38,9),(64528,9),(64527,9),(64529,9),(64526,10),(64524,11),(64525,12),(63,13),(64,13),(64523,13),(64522,14),(64520,15),(64521,16)]
def Ci (op:Int):Int:=match VS.find? (fun p=>p.1==op) with
 | some p=>p.2
 | none=>0
theorem FY (op:Int):aj Tryz.prog Zn [.int .i64 op] (.int .i64 (Ci op)):=by
 refine ac (ic:=gA.body) ap WW rfl rfl ?_
 by_cases h0:op=37
 ·subst h0
  simp only [go_sem,gA]
  exact an
 by_cases h1:op=38
 ·subst h1
  simp only [go_sem,gA]
  exact an
 by_cases h2:op=64528
 ·subst h2
  simp only [go_sem,gA]
  exact an
 by_cases h3:op=64527
 ·subst h3
  simp only [go_sem,gA]
  exact an
 by_cases h4:op=64529
 ·subst h4
  simp only [go_sem,gA]
  exact an
 by_cases h5:op=64526
 ·subst h5
  simp only [go_sem,gA]
  exact an
 by_cases h6:op=64524
 ·subst h6
  simp only [go_sem,gA]
  exact an
 by_cases h7:op=64525
 ·subst h7
  simp only [go_sem,gA]
  exact an
 by_cases h8:op=63
 ·subst h8
  simp only [go_sem,gA]
  exact an
 by_cases h9:op=64
 ·subst h9
  simp only [go_sem,gA]
  exact an
 by_cases h10:op=64523
 ·subst h10
  simp only [go_sem,gA]
  exact an
 by_cases h11:op=64522
 ·subst h11
  simp only [go_sem,gA]
  exact an
 by_cases h12:op=64520
 ·subst h12
  simp only [go_sem,gA]
  exact an
 by_cases h13:op=64521
 ·subst h13
  simp only [go_sem,gA]
  exact an
 have r:Ci op=0:=by
  simp only [Ci,VS,List.find?_cons,List.find?_nil,ab (fun e:(37:Int)=op=>h0 e.symm),ab (fun e:(38:Int)=op=>h1 e.symm),ab (fun e:(64528:Int)=op=>h2 e.symm),ab (fun e:(64527:Int)=op=>h3 e.symm),ab (fun e:(64529:Int)=op=>h4 e.symm),ab (fun e:(64526:Int)=op=>h5 e.symm),ab (fun e:(64524:Int)=op=>h6 e.symm),ab (fun e:(64525:Int)=op=>h7 e.symm),ab (fun e:(63:Int)=op=>h8 e.symm),ab (fun e:(64:Int)=op=>h9 e.symm),ab (fun e:(64523:Int)=op=>h10 e.symm),ab (fun e:(64522:Int)=op=>h11 e.symm),ab (fun e:(64520:Int)=op=>h12 e.symm),ab (fun e:(64521:Int)=op=>h13 e.symm)]
 rw [r]
 simp only [go_sem,gA,ab h0,ab h1,ab h2,ab h3,ab h4,ab h5,ab h6,ab h7,ab h8,ab h9,ab h10,ab h11,ab h12,ab h13]
 exact an
def T2:List (Int×Int):=[(2,1),(3,1),(4,1),(12,2),(13,2),(14,3),(16,4),(210,4),(17,5),(28,6),(32,7),(33,7),(34,7),(35,8),(36,8),(65,18),(66,19),(208,20)]
def cX (op:Int):Int:=match T2.find? (fun p=>p.1==op) with
 | some p=>p.2
 | none=>if ik op>0 then 17 else Ci op
theorem Mh (op:Int):aj Tryz.prog aaa [.int .i64 op] (.int .i64 (cX op)):=by
 refine ac (ic:=eP.body) ap XU rfl rfl ?_
 by_cases h0:op=2
 ·subst h0
  simp only [go_sem,eP]
  exact an
 by_cases h1:op=3
 ·subst h1
  simp only [go_sem,eP]
  exact an
 by_cases h2:op=4
 ·subst h2
  simp only [go_sem,eP]
  exact an
 by_cases h3:op=12
 ·subst h3
  simp only [go_sem,eP]
  exact an
 by_cases h4:op=13
 ·subst h4
  simp only [go_sem,eP]
  exact an
 by_cases h5:op=14
 ·subst h5
  simp only [go_sem,eP]
  exact an
 by_cases h6:op=16
 ·subst h6
  simp only [go_sem,eP]
  exact an
 by_cases h7:op=210
 ·subst h7
  simp only [go_sem,eP]
  exact an
 by_cases h8:op=17
 ·subst h8
  simp only [go_sem,eP]
  exact an
 by_cases h9:op=28
 ·subst h9
  simp only [go_sem,eP]
  exact an
 by_cases h10:op=32
 ·subst h10
  simp only [go_sem,eP]
  exact an
 by_cases h11:op=33
 ·subst h11
  simp only [go_sem,eP]
  exact an
 by_cases h12:op=34
 ·subst h12
  simp only [go_sem,eP]
  exact an
 by_cases h13:op=35
 ·subst h13
  simp only [go_sem,eP]
  exact an
 by_cases h14:op=36
 ·subst h14
  simp only [go_sem,eP]
  exact an
 by_cases h15:op=65
 ·subst h15
  simp only [go_sem,eP]
  exact an
 by_cases h16:op=66
 ·subst h16
  simp only [go_sem,eP]
  exact an
 by_cases h17:op=208
 ·subst h17
  simp only [go_sem,eP]
  exact an
 have r:cX op=if ik op>0 then 17 else Ci op:=by
  simp only [cX,T2,List.find?_cons,List.find?_nil,ab (fun e:(2:Int)=op=>h0 e.symm),ab (fun e:(3:Int)=op=>h1 e.symm),ab (fun e:(4:Int)=op=>h2 e.symm),ab (fun e:(12:Int)=op=>h3 e.symm),ab (fun e:(13:Int)=op=>h4 e.symm),ab (fun e:(14:Int)=op=>h5 e.symm),ab (fun e:(16:Int)=op=>h6 e.symm),ab (fun e:(210:Int)=op=>h7 e.symm),ab (fun e:(17:Int)=op=>h8 e.symm),ab (fun e:(28:Int)=op=>h9 e.symm),ab (fun e:(32:Int)=op=>h10 e.symm),ab (fun e:(33:Int)=op=>h11 e.symm),ab (fun e:(34:Int)=op=>h12 e.symm),ab (fun e:(35:Int)=op=>h13 e.symm),ab (fun e:(36:Int)=op=>h14 e.symm),ab (fun e:(65:Int)=op=>h15 e.symm),ab (fun e:(66:Int)=op=>h16 e.symm),ab (fun e:(208:Int)=op=>h17 e.symm)]
 rw [r]
 simp only [go_sem,eP,ab h0,ab h1,ab h2,ab h3,ab h4,ab h5,ab h6,ab h7,ab h8,ab h9,ab h10,ab h11,ab h12,ab h13,ab h14,ab h15,ab h16,ab h17]
 refine aa (AP op) ?_
 by_cases hw:ik op>0
 ·simp only [go_sem,bH hw,av hw]
  exact an
 ·simp only [go_sem,bF hw,ar hw]
  refine aa (FY op) ?_
  simp only [go_sem]
  exact an
def IA (op:Int):Int:=if free op=true then 0 else if ba op=[] then 0 else 1
theorem fY (a b:List Int):aj Tryz.prog aab [.sl 1 (a.map bp),.sl 1 (b.map bp)] (.agg [.sl 1 (a.map bp),.sl 1 (b.map bp)]):=by
 refine ac (ic:=G1.body) ap XV rfl rfl ?_
 simp only [go_sem,G1]
 exact ak
theorem L8 (s:List UInt8) (hs:s.length<1000000):aj Tryz.prog afu [.str s] (.int .i64 (if sD s [105,54,52]=true then 2 else 1)):=by
 refine ac (ic:=SF.body) ap adO rfl rfl ?_
 simp only [go_sem,SF]
 refine aa (yN s [105,54,52] ⟨hs,by decide⟩) ?_
 cases sD s [105,54,52]
 ·simp only [go_sem]
  exact an
 ·simp only [go_sem]
  exact an
def V4:List (Int×Bool×Bool×Bool):=[(2,true,false,false),(3,true,false,false),(4,true,false,false),(7,true,false,false),(8,true,false,false),(9,true,false,false),(12,true,false,false),(16,true,false,false),(20,true,false,false),(5,true,true,false),(10,true,true,false),(11,true,true,false),(14,true,true,false),(15,true,true,false),(13,false,true,false),(17,true,true,true),(18,false,false,true),(19,false,false,true)]
def AX (i:Int):Bool×Bool×Bool:=match V4.find? (fun p=>p.1==i) with
 | some p=>p.2
 | none=>(false,false,false)
theorem VE (i:Int):aj Tryz.prog ZK [.int .i64 i] (.tup [.bool (AX i).1,.bool (AX i).2.1,.bool (AX i).2.2]):=by
 refine ac (ic:=eO.body) ap Xr rfl rfl ?_
 by_cases h0:i=2
 ·subst h0
  simp only [go_sem,eO]
  exact an
 by_cases h1:i=3
 ·subst h1
  simp only [go_sem,eO]
  exact an
 by_cases h2:i=4
 ·subst h2
  simp only [go_sem,eO]
  exact an
 by_cases h3:i=7
 ·subst h3
  simp only [go_sem,eO]
  exact an
 by_cases h4:i=8
 ·subst h4
  simp only [go_sem,eO]
  exact an
 by_cases h5:i=9
 ·subst h5
  simp only [go_sem,eO]
  exact an
 by_cases h6:i=12
 ·subst h6
  simp only [go_sem,eO]
  exact an
 by_cases h7:i=16
 ·subst h7
  simp only [go_sem,eO]
  exact an
 by_cases h8:i=20
 ·subst h8
  simp only [go_sem,eO]
  exact an
 by_cases h9:i=5
 ·subst h9
  simp only [go_sem,eO]
  exact an
 by_cases h10:i=10
 ·subst h10
  simp only [go_sem,eO]
  exact an
 by_cases h11:i=11
 ·subst h11
  simp only [go_sem,eO]
  exact an
 by_cases h12:i=14
 ·subst h12
  simp only [go_sem,eO]
  exact an
 by_cases h13:i=15
 ·subst h13
  simp only [go_sem,eO]
  exact an
 by_cases h14:i=13
 ·subst h14
  simp only [go_sem,eO]
  exact an
 by_cases h15:i=17
 ·subst h15
  simp only [go_sem,eO]
  exact an
 by_cases h16:i=18
 ·subst h16
  simp only [go_sem,eO]
  exact an
 by_cases h17:i=19
 ·subst h17
  simp only [go_sem,eO]
  exact an
 have r:AX i=(false,false,false):=by
  simp only [AX,V4,List.find?_cons,List.find?_nil,ab (fun e:(2:Int)=i=>h0 e.symm),ab (fun e:(3:Int)=i=>h1 e.symm),ab (fun e:(4:Int)=i=>h2 e.symm),ab (fun e:(7:Int)=i=>h3 e.symm),ab (fun e:(8:Int)=i=>h4 e.symm),ab (fun e:(9:Int)=i=>h5 e.symm),ab (fun e:(12:Int)=i=>h6 e.symm),ab (fun e:(16:Int)=i=>h7 e.symm),ab (fun e:(20:Int)=i=>h8 e.symm),ab (fun e:(5:Int)=i=>h9 e.symm),ab (fun e:(10:Int)=i=>h10 e.symm),ab (fun e:(11:Int)=i=>h11 e.symm),ab (fun e:(14:Int)=i=>h12 e.symm),ab (fun e:(15:Int)=i=>h13 e.symm),ab (fun e:(13:Int)=i=>h14 e.symm),ab (fun e:(17:Int)=i=>h15 e.symm),ab (fun e:(18:Int)=i=>h16 e.symm),ab (fun e:(19:Int)=i=>h17 e.symm)]
 rw [r]
 simp only [go_sem,eO,ab h0,ab h1,ab h2,ab h3,ab h4,ab h5,ab h6,ab h7,ab h8,ab h9,ab h10,ab h11,ab h12,ab h13,ab h14,ab h15,ab h16,ab h17]
 exact an
theorem Qb (n:Int):aj Tryz.prog Ra [.int .i64 n] (.bool (decide (n≥0)&&decide (n<4294967296))):=by
 refine ac (ic:=Cy.body) ap Xb rfl rfl ?_
 by_cases h:n≥0
 ·simp only [go_sem,Cy,bH h,fV]
  exact ak
 ·simp only [go_sem,Cy,bF h,gp]
  exact ak
section
def nC (n:Int):Bool:=decide (n≥0)&&decide (n<4294967296)
def RJ (n:Int):Bool:=decide (n≥1)&&decide (n≤4)
def V_ (k v z:Int):Bool:=if k=0 then (v==0)&&(z==0) else if k=1 then RJ v&&(z==0) else if k=2 then (v==0)&&nC z else false
theorem Qc (n:Int):aj Tryz.prog Ra [.int .i64 n] (.bool (nC n)):=Qb n
attribute [local go_sem] ez bT
theorem abl (n:Int):aj Tryz.prog ZV [.int .i64 n] (.bool (RJ n)):=by
 refine ac (ic:=CB.body) ap XC rfl rfl ?_
 unfold RJ
 by_cases h:n≥1
 ·simp only [go_sem,CB,bH h,fV]
  exact ak
 ·simp only [go_sem,CB,bF h,gp]
  exact ak
theorem nt_ {a b:Int} (h:(a != b)=true):(a==b)=false:=by simpa using h
theorem nf_ {a b:Int} (h:(a != b)=false):(a==b)=true:=by simpa using h
theorem nb_ {b:Bool} (h:(!b)=true):b=false:=by cases b<;>first | rfl | cases h
theorem nc_ {b:Bool} (h:(!b)=false):b=true:=by cases b<;>first | rfl | cases h
theorem L9 (k v z:Int):aj Tryz.prog Zv [.agg [.int .i64 k,.int .i64 v,.int .i64 z]] (.bool (V_ k v z)):=by
 refine ac (ic:=wA.body) ap Xa rfl rfl ?_
 unfold V_
 by_cases h0:k=0
 ·subst h0
  rw [av rfl]
  simp only [go_sem,wA]
  exact an
 by_cases h1:k=1
 ·subst h1
  rw [ar h0,av rfl]
  simp only [go_sem,wA]
  refine aa (abl v) ?_
  cases RJ v
  ·simp only [go_sem]
   exact an
  ·simp only [go_sem]
   exact an
 by_cases h2:k=2
 ·subst h2
  rw [ar h0,ar h1,av rfl]
  simp only [go_sem,wA]
  refine ⟨fun h=>?_,fun h=>?_⟩
  ·refine aa (Qc z) ?_
   rw [h]
   simp only [go_sem]
   exact an
  ·rw [h]
   exact an
 rw [ar h0,ar h1,ar h2]
 simp only [go_sem,wA,ab h0,ab h1,ab h2]
 exact an
theorem NM {f:Int→Bool} {l:List Int} (h:∀k,k<l.length→f (au l k)=true):l.all f=true:=by
 rw [eA]
 intro x hx
 obtain ⟨k,hk,rfl⟩:=List.mem_iff_getElem.1 hx
 have:=h k hk
 rwa [aX hk] at this
theorem NL {f:Int→Bool} {l:List Int} {k:Nat} (hk:k<l.length) (h:f (au l k)=false):l.all f=false:=by
 rw [List.all_eq_false]
 exact ⟨au l k,by rw [aX hk];exact List.getElem_mem hk,by rw [h];decide⟩
end
section
def nu (i:Int) (x:bv):Bool :=
 if i=1 then V_ x.k x.v x.x else if i=6 then ((x.ty.length:Int)==1)&&RJ (au x.ty 0) else if i=17 then decide (x.a≤63) else if i=20 then (x.a==3)||(x.a==4) else x.lb.all nC
def plP (i:Int) (kn:Bool) (u:Bool×Bool×Bool) (x:bv):Bool :=
 kn&&((u.1||(x.a==0))&&((u.2.1||(x.b==0))&&((u.2.2||(x.n==0))&&(nC x.a&&(nC x.b &&
 (((i==19) || !decide (x.n≥4294967296))&&(((i==1)||((x.k==0)&&((x.v==0)&&(x.x==0))))&&(((i==6) || !decide ((x.ty.length:Int)>0))&&(((i==3) || !decide ((x.lb.length:Int)>0))&&nu i x)))))))))
def CL:List (Bool×Bool×Bool×Bool×Bool×Bool×Bool×Bool×Bool) :=
 [(false,false,false,true,false,false,false,false,false),
  (true,false,false,false,true,false,false,false,false),
  (false,false,false,false,false,true,false,false,false),
  (true,true,true,false,false,false,true,false,false),
  (false,false,true,false,false,false,false,true,false),
  (true,false,false,false,false,false,false,false,true),
  (true,false,false,false,false,false,false,false,false),
  (true,true,false,false,false,false,false,false,false),
  (false,true,false,false,false,false,false,false,false),
  (false,false,true,false,false,false,false,false,false),
  (false,false,false,false,false,false,false,false,false)]
theorem cls (i:Int) (hi:0≤i∧i≤20):((AX i).1,(AX i).2.1,(AX i).2.2,(i==1),(i==3),(i==6),(i==17),(i==19),(i==20))∈CL:=by
 obtain ⟨h1,h2⟩:=hi
 obtain ⟨n,rfl⟩:=Int.eq_ofNat_of_zero_le h1
 have hn:n≤20:=by omega
 clear h1 h2
 have:∀n:Fin 21,((AX (n.val:Nat)).1,(AX (n.val:Nat)).2.1,(AX (n.val:Nat)).2.2,(((n.val:Nat):Int)==1),(((n.val:Nat):Int)==3),(((n.val:Nat):Int)==6),(((n.val:Nat):Int)==17),(((n.val:Nat):Int)==19),(((n.val:Nat):Int)==20))∈CL:=by decide +kernel
 exact this ⟨n,by omega⟩
attribute [local go_sem] ez bT dB
theorem Mi (x:bv) (i:Int) (hi:0≤i∧i≤20) (him:cX x.op=i) (hl:x.lb.length≤9223372036854775807):aj Tryz.prog lP [iE x] (.bool (plP i (!(ba x.op==[])) (AX i) x)):=by
 refine ac (ic:=Gz.body) ap W9 rfl rfl ?_
 have a1:=Mh x.op
 rw [him] at a1
 have a2:=VE i
 have a3:=AL x.op
 have hc:=cls i hi
 unfold plP
 generalize (AX i).1=ua at hc a2
 generalize (AX i).2.1=ub at hc a2
 generalize (AX i).2.2=un at hc a2
 generalize h1:(i==1)=k1 at hc
 generalize h3:(i==3)=k3 at hc
 generalize h6:(i==6)=k6 at hc
 generalize h17:(i==17)=k17 at hc
 generalize h19:(i==19)=k19 at hc
 generalize h20:(i==20)=k20 at hc
 simp only [CL,bc,List.not_mem_nil,or_false,Prod.mk.injEq] at hc
 rcases hc with ⟨rfl,rfl,rfl,rfl,rfl,rfl,rfl,rfl,rfl⟩ | ⟨rfl,rfl,rfl,rfl,rfl,rfl,rfl,rfl,rfl⟩ | ⟨rfl,rfl,rfl,rfl,rfl,rfl,rfl,rfl,rfl⟩ | ⟨rfl,rfl,rfl,rfl,rfl,rfl,rfl,rfl,rfl⟩ | ⟨rfl,rfl,rfl,rfl,rfl,rfl,rfl,rfl,rfl⟩ | ⟨rfl,rfl,rfl,rfl,rfl,rfl,rfl,rfl,rfl⟩ | ⟨rfl,rfl,rfl,rfl,rfl,rfl,rfl,rfl,rfl⟩ | ⟨rfl,rfl,rfl,rfl,rfl,rfl,rfl,rfl,rfl⟩ | ⟨rfl,rfl,rfl,rfl,rfl,rfl,rfl,rfl,rfl⟩ | ⟨rfl,rfl,rfl,rfl,rfl,rfl,rfl,rfl,rfl⟩ | ⟨rfl,rfl,rfl,rfl,rfl,rfl,rfl,rfl,rfl⟩
 all_goals
  have d1:(i != 1) = !(i==1):=rfl
  have d3:(i != 3) = !(i==3):=rfl
  have d6:(i != 6) = !(i==6):=rfl
  have d19:(i != 19) = !(i==19):=rfl
  rw [h1] at d1
  rw [h3] at d3
  rw [h6] at d6
  rw [h19] at d19
  simp only [h1,h3,h6,h19,vM,oh,fV]
  simp only [go_sem,Gz]
  refine aa (a1) ?_
  simp only [go_sem]
  refine aa (a2) ?_
  simp only [go_sem]
  refine aa (a3) ?_
  cases hk:!(ba x.op==[])
  ·simp only [go_sem]
   exact an
  rw [fV]
  simp only [go_sem]
  iterate 3 (first | (refine ⟨fun h=>?_,fun h=>?_⟩
                      ·rw [nt_ h,gp]
                       exact an
                      rw [nf_ h,fV]) | skip)
  refine aa (Qc x.a) ?_
  cases hA:nC x.a
  ·rw [gp]
   simp only [go_sem]
   exact an
  rw [fV]
  simp only [go_sem]
  refine aa (Qc x.b) ?_
  cases hB:nC x.b
  ·rw [gp]
   simp only [go_sem]
   exact an
  rw [fV]
  simp only [go_sem,d1,d3,d6,d19,h1,h6,h17,h20,A6,MM]
  iterate 4 (first | (refine ⟨fun h=>?_,fun h=>?_⟩
                      ·(first | rw [bH h,A6,gp] | rw [nb_ h,gp])
                       exact an
                      (first | rw [bF h,MM,fV] | rw [nc_ h,fV])) | skip)
 ·have r:nu i x=V_ x.k x.v x.x:=by rw [nu,av (eq_of_beq h1)]
  rw [r]
  refine aa (L9 x.k x.v x.x) ?_
  simp only [go_sem]
  exact an
 rotate_left
 ·have r:nu i x=(((x.ty.length:Int)==1)&&RJ (au x.ty 0)):=by rw [nu,ar (ne_of_beq_false h1),av (eq_of_beq h6)]
  rw [r]
  refine ⟨fun h=>⟨by decide,?_,?_⟩,fun h=>?_⟩
  ·have:=eq_of_beq h
   omega
  ·rw [h,fV]
   refine aa (abl (au x.ty 0)) ?_
   simp only [go_sem]
   exact an
  ·rw [h,gp]
   exact an
 ·have r:nu i x=decide (x.a≤63):=by rw [nu,ar (ne_of_beq_false h1),ar (ne_of_beq_false h6),av (eq_of_beq h17)]
  rw [r]
  exact an
 rotate_left
 ·have r:nu i x=((x.a==3)||(x.a==4)):=by rw [nu,ar (ne_of_beq_false h1),ar (ne_of_beq_false h6),ar (ne_of_beq_false h17),av (eq_of_beq h20)]
  rw [r]
  refine ⟨fun h=>?_,fun h=>?_⟩
  ·rw [h,vM]
   exact an
  ·rw [h,oh]
   exact an
 all_goals
  have r:nu i x=x.lb.all nC:=by rw [nu,ar (ne_of_beq_false h1),ar (ne_of_beq_false h6),ar (ne_of_beq_false h17),ar (ne_of_beq_false h20)]
  rw [r]
  refine aJ (fun i:Nat=>⟨[(133,.sl 1 (x.lb.map bp)),(134,.int .i64 x.lb.length),(135,.int .i64 i)],[]⟩) (fun i=>i≤x.lb.length∧∀k,k<i→nC (au x.lb k)=true) (fun i=>x.lb.length - i) 0 ⟨ef _,fun k hk=>absurd hk (Nat.not_lt_zero k)⟩ (Wk.of ?_ ?_) ?_
  ·simp only [go_sem];try simp
  ·trivial
  rintro j ⟨hj,hk⟩
  by_cases q1:(j:Int)<(x.lb.length:Int)
  ·have e8:=wi (n:=(j:Int)+1) (by omega) (by omega)
   simp only [go_sem,bH q1]
   refine ⟨by omega,q1,?_⟩
   refine aa (Qc (au x.lb j)) ?_
   cases q2:nC (au x.lb j)
   ·rw [NL (by omega) q2]
    simp only [go_sem]
    exact an
   ·simp only [go_sem]
    refine bA (j+1) ⟨by omega,fun k hk2=>?_⟩ (show x.lb.length - (j+1)<x.lb.length - j by omega) (Wk.of ?_ ?_)
    ·rcases jn k j with h4 | h4
     ·exact hk k h4
     ·obtain rfl:k=j:=by omega
      exact q2
    ·simp only [go_sem,e8]
     try simp
    ·simp only [go_sem]
  ·rw [NM (fun k hk2=>hk k (by omega))]
   simp only [go_sem,bF q1]
   exact an
end
end Go.Proofs.YthhglklcaodfmaaGreatDoor