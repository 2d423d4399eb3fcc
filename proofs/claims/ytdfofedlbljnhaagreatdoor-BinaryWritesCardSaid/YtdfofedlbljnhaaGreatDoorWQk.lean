import Derived.Test.YtdfofedlbljnhaaGreatDoorWQj
import Derived.Shelf.Abstract
import Derived.OwnWalkIn
import Derived.TacticsInMore
import Derived.LoopNIn
import Derived.LoopIn
set_option linter.all false
set_option maxRecDepth 100000
set_option maxHeartbeats 40000000
namespace Go.Proofs.YtdfofedlbljnhaaGreatDoor
section
open Go Go.Mw
def Wg(P:bj->Bool)(m:Md):Fa:=gr (λi x=>BY P 12 i x.b) 0 m.fs (eB)
attribute[local go_sem] cU bC du cP df cC cK fU bh ef eS iz gc ql
def Uu(P:bj->Bool)(m:Md)(h:BZ m)(hP:∀y,Ow y->ac pg dq [di y] (.bool (P y))):ac pg Dp [cY m] (gc (Wg P m)):=by
 refine aD ux ?_;obtain⟨G,hG⟩:∃G,Wg P m=G:=⟨_,rfl⟩
 rw[hG];have hts:=h.fs;simp only[go_sem,ux,cY];refine an (λq:Nat×Fa=>⟨[(4,.int .i64 q.1),(1,.mp 1 12 0 0),(3,.mp 3 4 0 0),(2,.mp 2 4 0 0)],[(3,ql q.2),(2,ql eB),(1,⟨33,12,[nZ m],true⟩)]⟩) (λq=>q.1<=m.fs.length/\G=gr (λi x=>BY P 12 i x.b) q.1 (m.fs.drop q.1) q.2) (λq=>m.fs.length-q.1) (0,eB) ⟨cQ _,hG.symm⟩ (Wk.of ?_ ?_) ?_
 .simp only[go_sem];try simp[eB]
 .simp only[go_sem];try simp[eB]
 rintro⟨j,E⟩ ⟨hj,hx⟩;simp only at hj hx;by_cases h1:(j:Int)<(m.fs.length:Int);rotate_left
 .rw[dc (by omega)]at hx;obtain rfl:G=E:=hx;simp only[go_sem,aM h1];exact aq [] (by simp only[go_sem];try rfl) (by rfl)
 have hj':j<m.fs.length:=by omega
 have e8:=dv hj' (by omega);have cn:=eP E;simp only[gc]at cn;by_cases hE:E.c=0;rotate_left
 .rw[qZ E hE]at hx;obtain rfl:G=E:=hx;rw[aw hE]at cn;simp only[go_sem,aL h1];refine aa (cn) ?_;exact aq [] (by simp only[go_sem];try rfl) (by rfl)
 rw[be hE]at cn;rw[qY hj' E hE]at hx;have sx:=bN hts.2 hj';have cr:=AC P 12 j (ah m.fs j).b sx.2 (λy hy=>hP y (sx.2.2 y hy));simp only[gc]at cr;simp only[go_sem,aL h1];refine aa (cn) ?_;refine⟨by omega,h1,?_⟩;refine aa (cr) ?_;refine aE (j+1,BY P 12 j (ah m.fs j).b) ⟨show j+1<=m.fs.length by omega,hx⟩ (show m.fs.length-(j+1)<m.fs.length-j by omega) (Wk.of ?_ ?_)
 .simp only[go_sem,e8];try simp
 .simp only[go_sem]
end
section
open Go Go.Mw
def LB(x:El):Int:=if x.mo<0\/x.mo>2\/(x.mo≠0/\(x.tb≠0\/x.o.length>0))then 1 else if nX x.tb=false then 11 else if Cf x.ty=false then 12 else if x.it.length>256 then 6 else 0
attribute[local go_sem] cU bC du cP df cC cK fU bh ef eS iz gc ql
def YB(x:El):ac pg HO [.agg (fR x)] (.int .i64 (LB x)):=by
 refine aD fG ?_;have c1:=rC x.tb;have c2:=UB x.ty;unfold LB;by_cases q1:x.mo<0
 .rw[aF (.inl q1)];simp only[go_sem,fG,aL q1];exact aq [] (by simp only[go_sem];try rfl) (by rfl)
 by_cases q2:x.mo>2
 .rw[aF (.inr (.inl q2))];simp only[go_sem,fG,aM q1,aL q2];exact aq [] (by simp only[go_sem];try rfl) (by rfl)
 by_cases q3:x.mo=0
 .rw[au (λq=>by rcases q with z|z|z;exact q1 z;exact q2 z;exact z.1 q3)];simp only[go_sem,fG,aM q1,aM q2,bB q3];refine aj (c1) ?_;cases v:nX x.tb
  .simp only[go_sem];exact aq [] (by simp only[go_sem];try rfl) (by rfl)
  rw[au (by decide)];simp only[go_sem];refine aj (c2) ?_;cases Cf x.ty
  .simp only[go_sem];exact aq [] (by simp only[go_sem];try rfl) (by rfl)
  rw[au (by decide)];by_cases q5:(x.it.length:Int)>256
  .rw[aF (by omega)];simp only[go_sem,aL q5];exact aq [] (by simp only[go_sem];try rfl) (by rfl)
  rw[au (by omega)];simp only[go_sem,aM q5];exact aq [] (by simp only[go_sem];try rfl) (by rfl)
 by_cases q4:x.tb=0;rotate_left
 .rw[aF (.inr (.inr ⟨q3,.inl q4⟩))];simp only[go_sem,fG,aM q1,aM q2,bv q3,bv q4];exact aq [] (by simp only[go_sem];try rfl) (by rfl)
 by_cases q6:(x.o.length:Int)>0
 .rw[aF (.inr (.inr ⟨q3,.inr (by omega)⟩))];simp only[go_sem,fG,aM q1,aM q2,bv q3,bB q4,aL q6];exact aq [] (by simp only[go_sem];try rfl) (by rfl)
 rw[au (λq=>by rcases q with z|z|z;exact q1 z;exact q2 z;rcases z.2 with y|y;exact y q4;omega)];simp only[go_sem,fG,aM q1,aM q2,bv q3,bB q4,aM q6];refine aj (c1) ?_;cases v:nX x.tb
 .simp only[go_sem];exact aq [] (by simp only[go_sem];try rfl) (by rfl)
 rw[au (by decide)];simp only[go_sem];refine aj (c2) ?_;cases Cf x.ty
 .simp only[go_sem];exact aq [] (by simp only[go_sem];try rfl) (by rfl)
 rw[au (by decide)];by_cases q5:(x.it.length:Int)>256
 .rw[aF (by omega)];simp only[go_sem,aL q5];exact aq [] (by simp only[go_sem];try rfl) (by rfl)
 rw[au (by omega)];simp only[go_sem,aM q5];exact aq [] (by simp only[go_sem];try rfl) (by rfl)
def Ww(P:bj->Bool)(i:Nat)(x:El):Fa:=gr (λ_ l=>BY P 9 i l) 0 x.it (if LB x=0 then BY P 9 i x.o else ek 9 i (LB x))
end
section
open Go Go.Mw
def elO(x:El):ao:=⟨112,5,[fR x],true⟩
def elF(P:bj->Bool)(m:Md):Fa:=gr (Ww P) 0 m.els (uZ 9 m.els.length 16)
attribute[local go_sem] elO cU bC du cP df cC cK fU bh ef eS iz gc ql
def agn(P:bj->Bool)(m:Md)(h:BZ m)(hP:∀y,Ow y->ac pg dq [di y] (.bool (P y))):ac pg E_ [cY m] (gc (elF P m)):=by
 refine aD w_ ?_;obtain⟨G,hG⟩:∃G,elF P m=G:=⟨_,rfl⟩
 rw[hG];have hts:=h.els;have c0:=qw 9 m.els.length 16;simp only[gc]at c0;simp only[go_sem,w_,cY];refine aa (c0) ?_;refine an (λq:Nat×Fa=>⟨[(4,.int .i64 q.1),(1,.mp 1 12 0 0),(3,.mp 3 4 0 0),(2,.mp 2 4 0 0)],[(3,ql q.2),(2,ql eB),(1,⟨33,12,[nZ m],true⟩)]⟩) (λq=>q.1<=m.els.length/\G=gr (Ww P) q.1 (m.els.drop q.1) q.2) (λq=>m.els.length-q.1) (0,uZ 9 m.els.length 16) ⟨cQ _,hG.symm⟩ (Wk.of ?_ ?_) ?_
 .simp only[go_sem];try simp[eB]
 .simp only[go_sem];try simp[eB]
 rintro⟨j,E⟩ ⟨hj,hx⟩;simp only at hj hx;by_cases h1:(j:Int)<(m.els.length:Int);rotate_left
 .rw[dc (by omega)]at hx;obtain rfl:G=E:=hx;simp only[go_sem,aM h1];exact aq [] (by simp only[go_sem];try rfl) (by rfl)
 have hj':j<m.els.length:=by omega
 have e8:=dv hj' (by omega);have cn:=eP E;simp only[gc]at cn;by_cases hE:E.c=0;rotate_left
 .rw[qZ E hE]at hx;obtain rfl:G=E:=hx;rw[aw hE]at cn;simp only[go_sem,aL h1];refine aa (cn) ?_;exact aq [] (by simp only[go_sem];try rfl) (by rfl)
 rw[be hE]at cn;rw[qY hj' E hE]at hx;have sx:=bN hts.2 hj';have c1:=YB (ah m.els j);have a1:=rB 9 j (LB (ah m.els j));have n1:=eP (ek 9 j (LB (ah m.els j)));have cr:=AC P 9 j (ah m.els j).o sx.1 (λy hy=>hP y (sx.1.2 y hy));simp only[gc]at a1 n1 cr;simp only[bh]at c1;obtain⟨D,hD⟩:∃D,Ww P j (ah m.els j)=D:=⟨_,rfl⟩
 rw[hD]at hx;unfold Ww at hD;simp only[go_sem,aL h1];refine aa (cn) ?_;refine⟨by omega,h1,?_⟩;refine aa (c1) ?_;refine aj (a1) ?_;by_cases e0:LB (ah m.els j)=0
 .rw[aF e0]at hD;rw[be (show(ek 9 j (LB (ah m.els j))).c=0 by rw[Bu];exact e0)]at n1;simp only[go_sem];refine aa (n1) ?_;refine aa (cr) ?_;refine an (λq:Nat×Fa=>⟨[(6,.int .i64 q.1),(4,.int .i64 j),(5,.mp 5 5 0 0),(1,.mp 1 12 0 0),(3,.mp 3 4 0 0),(2,.mp 2 4 0 0)],[(5,elO (ah m.els j)),(3,ql q.2),(2,ql eB),(1,⟨33,12,[nZ m],true⟩)]⟩) (λq=>q.1<=(ah m.els j).it.length/\D=gr (λ_ l=>BY P 9 j l) q.1 ((ah m.els j).it.drop q.1) q.2) (λq=>(ah m.els j).it.length-q.1) (0,BY P 9 j (ah m.els j).o) ⟨cQ _,hD.symm⟩ (Wk.of ?_ ?_) ?_
  .simp only[go_sem];try simp[eB]
  .simp only[go_sem];try simp[eB]
  rintro⟨k,E2⟩ ⟨hk,hy⟩;simp only at hk hy;by_cases g1:(k:Int)<((ah m.els j).it.length:Int);rotate_left
  .rw[dc (by omega)]at hy;obtain rfl:D=E2:=hy;simp only[go_sem,aM g1];refine aE (j+1,D) ⟨show j+1<=m.els.length by omega,hx⟩ (show m.els.length-(j+1)<m.els.length-j by omega) (Wk.of ?_ ?_)
   .simp only[go_sem,e8];try simp
   .simp only[go_sem]
  have hk':k<(ah m.els j).it.length:=by omega
  have e9:=dv hk' (by have:=sx.2.1;omega);have cn2:=eP E2;simp only[gc]at cn2;by_cases hE2:E2.c=0;rotate_left
  .rw[qZ E2 hE2]at hy;obtain rfl:D=E2:=hy;rw[aw hE2]at cn2;simp only[go_sem,aL g1];refine aa (cn2) ?_;refine aE (j+1,D) ⟨show j+1<=m.els.length by omega,hx⟩ (show m.els.length-(j+1)<m.els.length-j by omega) (Wk.of ?_ ?_)
   .simp only[go_sem,e8];try simp
   .simp only[go_sem]
  rw[be hE2]at cn2;rw[qY hk' E2 hE2]at hy;have sy:=bN sx.2.2 hk';have cr2:=AC P 9 j (ah (ah m.els j).it k) sy (λy hy=>hP y (sy.2 y hy));simp only[gc]at cr2;simp only[go_sem,aL g1];refine aa (cn2) ?_;refine⟨by omega,g1,?_⟩;refine aa (cr2) ?_;refine aE (k+1,BY P 9 j (ah (ah m.els j).it k)) ⟨show k+1<=(ah m.els j).it.length by omega,hy⟩ (show(ah m.els j).it.length-(k+1)<(ah m.els j).it.length-k by omega) (Wk.of ?_ ?_)
  .simp only[go_sem,e9];try simp
  .simp only[go_sem]
 .rw[au e0]at hD;rw[aw (show(ek 9 j (LB (ah m.els j))).c≠0 by rw[Bu];exact e0)]at n1;simp only[go_sem];refine aa (n1) ?_;refine an (λq:Nat×Fa=>⟨[(6,.int .i64 q.1),(4,.int .i64 j),(5,.mp 5 5 0 0),(1,.mp 1 12 0 0),(3,.mp 3 4 0 0),(2,.mp 2 4 0 0)],[(5,elO (ah m.els j)),(3,ql q.2),(2,ql eB),(1,⟨33,12,[nZ m],true⟩)]⟩) (λq=>q.1<=(ah m.els j).it.length/\D=gr (λ_ l=>BY P 9 j l) q.1 ((ah m.els j).it.drop q.1) q.2) (λq=>(ah m.els j).it.length-q.1) (0,ek 9 j (LB (ah m.els j))) ⟨cQ _,hD.symm⟩ (Wk.of ?_ ?_) ?_
  .simp only[go_sem];try simp[eB]
  .simp only[go_sem];try simp[eB]
  rintro⟨k,E2⟩ ⟨hk,hy⟩;simp only at hk hy;by_cases g1:(k:Int)<((ah m.els j).it.length:Int);rotate_left
  .rw[dc (by omega)]at hy;obtain rfl:D=E2:=hy;simp only[go_sem,aM g1];refine aE (j+1,D) ⟨show j+1<=m.els.length by omega,hx⟩ (show m.els.length-(j+1)<m.els.length-j by omega) (Wk.of ?_ ?_)
   .simp only[go_sem,e8];try simp
   .simp only[go_sem]
  have hk':k<(ah m.els j).it.length:=by omega
  have e9:=dv hk' (by have:=sx.2.1;omega);have cn2:=eP E2;simp only[gc]at cn2;by_cases hE2:E2.c=0;rotate_left
  .rw[qZ E2 hE2]at hy;obtain rfl:D=E2:=hy;rw[aw hE2]at cn2;simp only[go_sem,aL g1];refine aa (cn2) ?_;refine aE (j+1,D) ⟨show j+1<=m.els.length by omega,hx⟩ (show m.els.length-(j+1)<m.els.length-j by omega) (Wk.of ?_ ?_)
   .simp only[go_sem,e8];try simp
   .simp only[go_sem]
  rw[be hE2]at cn2;rw[qY hk' E2 hE2]at hy;have sy:=bN sx.2.2 hk';have cr2:=AC P 9 j (ah (ah m.els j).it k) sy (λy hy=>hP y (sy.2 y hy));simp only[gc]at cr2;simp only[go_sem,aL g1];refine aa (cn2) ?_;refine⟨by omega,g1,?_⟩;refine aa (cr2) ?_;refine aE (k+1,BY P 9 j (ah (ah m.els j).it k)) ⟨show k+1<=(ah m.els j).it.length by omega,hy⟩ (show(ah m.els j).it.length-(k+1)<(ah m.els j).it.length-k by omega) (Wk.of ?_ ?_)
  .simp only[go_sem,e9];try simp
  .simp only[go_sem]
end
open Go Go.Mw
def lW(n i l e:Int):fV eB n i l e=if e=0 then eB else⟨n,i,l,e⟩:=by
 unfold fV;by_cases h:e=0
 .rw[aF h,au (λq=>q.2 h)]
 .rw[au h,aF ⟨rfl,h⟩]
def Hg(n i l e:Int):(fV eB n i l e).c=0->fV eB n i l e=eB:=by
 rw[lW];split
 .exact λ_=>rfl
 .rename_i h;exact λq=>absurd q h
def ZB{α:Type}{n:Int}{f:α->Int×Int}{g:Nat->α->Fa}(hg:∀(i:Nat)(x:α),fV eB n i (f x).1 (f x).2=g i x):∀(l:List α)(i:Nat)(F:Fa),(F.c=0->F=eB)->Vr n i (l.map f) F=gr g i l F/\((gr g i l F).c=0->gr g i l F=eB)
 | [],i,F,h=>⟨rfl,h⟩
 | x::l,i,F,h=>by
  rw[eR,Vr,gr];by_cases hF:F.c=0
  .rw[au (by simp[hF]),au (by simp[hF]),h hF,hg];exact ZB hg l (i+1) _ (by rw[<-hg];exact Hg _ _ _ _)
  .rw[aF hF,aF hF];exact⟨rfl,h⟩
def rP(E X:Fa):Fa:=if E.c≠0 then E else X
def Pn(a b c:Fa):rP (rP a b) c=rP a (rP b c):=by
 unfold rP;by_cases h:a.c=0<;>simp[h]
def qm{a b:Fa}(ha:a.c=0->a=eB)(hb:b.c=0->b=eB):(rP a b).c=0->rP a b=eB:=by
 unfold rP;by_cases h:a.c=0
 .rw[au (by simp[h])];exact hb
 .rw[aF h];exact ha
def ki{α:Type}{n most imp:Int}{f:α->Int×Int}{g:Nat->α->Fa}(hg:∀(i:Nat)(x:α),fV eB n i (f x).1 (f x).2=g i x)(l:List α)(h1:0<=imp/\imp<=140737488355328)(h3:l.length<=140737488355328)(h4:0<=most/\most<=140737488355328)(E:Fa)(hE:E.c=0->E=eB) :
  fu n most imp (l.map f) E=rP E (gr g 0 l (uZ n l.length (most-imp)))/\((gr g 0 l (uZ n l.length (most-imp))).c=0->gr g 0 l (uZ n l.length (most-imp))=eB):=by
 have z:=ZB hg l 0 (uZ n l.length (most-imp)) abQ;refine⟨?_,z.2⟩;unfold fu;rw[cU,wi (by omega) (by omega),wi (by omega) (by omega)];unfold rP;by_cases h:E.c=0
 .rw[au (show ¬E.c≠0 by simp[h]),hE h,<-z.1];congr 1;unfold uZ;by_cases q:(l.length:Int)+imp>most
  .rw[aF q,aF (show(l.length:Int)>most-imp by omega),lW,au (by decide)];congr 1;by_cases w:0<most-imp
   .rw[aF w,au (by omega)]
   .rw[au w];by_cases w2:most-imp<0
    .rw[aF w2]
    .rw[au w2];omega
  .rw[au q,au (show ¬(l.length:Int)>most-imp by omega)]
 .rw[aF h,show(if(l.length:Int)+imp>most then fV E n (if 0<most-imp then most-imp else 0) 0 6 else E)=E by
   split
   .unfold fV;rw[au (λq=>h q.1)]
   .rfl]
  exact Sm E h
def fa(n:Int)(i:Nat)(e:Int):fV eB n i 0 e=ek n i e:=by rw[lW];rfl
def sn(P:bj->Bool)(n:Int)(i:Nat)(l:List bj):fV eB n i (fY P l).1 (fY P l).2=BY P n i l:=by rw[lW];rfl
def WI(P:bj->Bool)(i:Nat)(x:Gd):fV eB 6 i (WH P x).1 (WH P x).2=if jK x.g.v=false then ek 6 i 12 else BY P 6 i x.i:=by
 unfold WH QE;cases v:jK x.g.v
 .rw[aF rfl,aF (by decide),aF rfl];exact fa 6 i 12
 .rw[au (by decide),au (by decide)];exact sn P 6 i x.i
def Wq(P:bj->Bool)(i:Nat)(x:Da):fV eB 10 i (RW P x).1 (RW P x).2=Wp P i x:=by
 unfold RW Wp;split
 .exact fa 10 i 1
 split
 .exact fa 10 i 11
 split
 .exact fa 10 i 6
 .exact sn P 10 i x.o
def vW(P:bj->Bool)(i:Nat):∀(l:List (List bj))(j:Nat)(F:Fa),(F.c=0->F=eB)->gr (λ_ r=>BY P 9 i r) j l F=rP F (fV eB 9 i (tx P l).1 (tx P l).2)
 | [],j,F,h=>by
  rw[gr];unfold rP;by_cases q:F.c=0
  .rw[au (by simp[q]),h q];rfl
  .rw[aF q]
 | x::l,j,F,h=>by
  rw[gr];unfold rP;by_cases q:F.c=0
  .rw[au (by simp[q]),au (by simp[q]),vW P i l (j+1) _ (by rw[<-sn];exact Hg _ _ _ _)];rw[tx];unfold rP;rw[<-sn,lW];by_cases w:(fY P x).2=0
   .rw[aF w,au (show ¬eB.c≠0 by decide),au (by simp[w])]
   .rw[au w,aF (show(⟨9,(i:Int),(fY P x).1,(fY P x).2⟩:Fa).c≠0 from w),aF w,lW,au w]
  .rw[aF q,aF q]
def Wy(P:bj->Bool)(i:Nat)(x:El):fV eB 9 i (RZ P x).1 (RZ P x).2=Ww P i x:=by
 unfold RZ Ww LB;split
 .rw[au (by decide),vW P i _ _ _ Bt,fa];rfl
 split
 .rw[au (by decide),vW P i _ _ _ Bt,fa];rfl
 split
 .rw[au (by decide),vW P i _ _ _ Bt,fa];rfl
 split
 .rw[au (by decide),vW P i _ _ _ Bt,fa];rfl
 .rw[aF rfl,vW P i _ _ _ (by rw[<-sn];exact Hg _ _ _ _),tx];unfold rP;rw[<-sn];by_cases w:(fY P x.o).2=0
  .rw[au (show ¬(fY P x.o).2≠0 by simp[w]),lW 9 i (fY P x.o).1 (fY P x.o).2,aF w,au (show ¬eB.c≠0 by decide)]
  .rw[aF w,aF (show(fV eB 9 i (fY P x.o).1 (fY P x.o).2).c≠0 by rw[lW,au w];exact w)]
def v_:List Fa->Fa
 | []=>eB
 | F::r=>if F.c≠0 then F else v_ r
def WG(F:Fa)(r:List Fa):v_ (F::r)=rP F (v_ r):=rfl
def YK(P:bj->Bool)(m:Md):Fa:=v_ [tyF m,imF m,cdF m,tbF m,mmF m,gdF P m,exF m,Y2 m,elF P m,dsF P m,csF m,Wg P m]
def LX(P:bj->Bool)(m:Md)(h:BZ m):sc P m=YK P m:=by
 have hc:∀k,(0:Int)<=(kM k m.ims:Nat)/\((kM k m.ims:Nat):Int)<=140737488355328:=λk=>⟨by omega,by have:=jq (xI k m.ims) h.ims;omega⟩
 have z0:(0:Int)<=0/\(0:Int)<=140737488355328:=by decide
 have ft0:eB.c=0->eB=eB:=λ_=>rfl;obtain⟨e1,t1⟩:=ki (n:=1) (most:=64) (imp:=0) (g:=λi x=>ek 1 i (A3 x)) (f:=λx=>(0,A3 x)) (λi x=>fa 1 i _) m.ts z0 h.ts.1 (by decide) eB ft0;have e1':Vu m=tyF m:=e1;have t1':(Vu m).c=0->Vu m=eB:=by rw[e1'];exact t1
 obtain⟨e2,t2⟩:=ki (n:=2) (most:=32) (imp:=0) (g:=λi x=>ek 2 i (ED x)) (f:=λx=>(0,ED x)) (λi x=>fa 2 i _) m.ims z0 h.ims (by decide) (Vu m) t1';have e2':Xv m=rP (Vu m) (imF m):=e2;have t2':=qm t1' t2;rw[show rP (Vu m) _=Xv m from e2.symm]at t2';obtain⟨e3,t3⟩:=ki (n:=3) (most:=64) (g:=λi x=>ek 3 i (EB x)) (f:=λx=>(0,EB x)) (λi x=>fa 3 i _) m.fs (hc 0) h.fs.1 (by decide) (Xv m) t2';have e3':Xw m=rP (Xv m) (cdF m):=e3;have t3':=qm t2' t3;rw[show rP (Xv m) _=Xw m from e3.symm]at t3';obtain⟨e4,t4⟩:=ki (n:=4) (most:=4) (g:=λi x=>ek 4 i (Ei x)) (f:=λx=>(0,Ei x)) (λi x=>fa 4 i _) m.tbs (hc 1) h.tbs (by decide) (Xw m) t3';have e4':Xx m=rP (Xw m) (tbF m):=e4;have t4':=qm t3' t4;rw[show rP (Xw m) _=Xx m from e4.symm]at t4';obtain⟨e5,t5⟩:=ki (n:=5) (most:=2) (g:=λi x=>ek 5 i (Gn x)) (f:=λx=>(0,Gn x)) (λi x=>fa 5 i _) m.ms (hc 2) h.ms (by decide) (Xx m) t4';have e5':Xy m=rP (Xx m) (mmF m):=e5;have t5':=qm t4' t5;rw[show rP (Xx m) _=Xy m from e5.symm]at t5';obtain⟨e6,t6⟩:=ki (n:=6) (most:=32) (g:=λi x=>if jK x.g.v=false then ek 6 i 12 else BY P 6 i x.i) (f:=WH P) (WI P) m.gs (hc 3) h.gs.1 (by decide) (Xy m) t5';have e6':Xz P m=rP (Xy m) (gdF P m):=e6;have t6':=qm t5' t6;rw[show rP (Xy m) _=Xz P m from e6.symm]at t6';obtain⟨e7,t7⟩:=ki (n:=7) (most:=64) (imp:=0) (g:=λi x=>ek 7 i (Hf x)) (f:=λx=>(0,Hf x)) (λi x=>fa 7 i _) m.exs z0 h.exs (by decide) (Xz P m) t6';have e7':QG P m=rP (Xz P m) (exF m):=e7;have t7':=qm t6' t7;rw[show rP (Xz P m) _=QG P m from e7.symm]at t7';have e8':Ld P m=rP (QG P m) (Y2 m):=by
  unfold Ld Y2 rP;by_cases q:(QG P m).c=0
  .rw[au (show ¬(QG P m).c≠0 by simp[q])];split
   .rw[t7' q];exact fa 8 0 11
   .exact t7' q
  .rw[aF q];split
   .unfold fV;rw[au (λw=>q w.1)]
   .rfl
 have t8':(Ld P m).c=0->Ld P m=eB:=by
  rw[e8'];refine qm t7' ?_;unfold Y2;split
  .exact Bt
  .exact ft0
 obtain⟨e9,t9⟩:=ki (n:=9) (most:=16) (imp:=0) (g:=Ww P) (f:=RZ P) (Wy P) m.els z0 h.els.1 (by decide) (Ld P m) t8';have e9':XA P m=rP (Ld P m) (elF P m):=e9;have t9':=qm t8' t9;rw[show rP (Ld P m) _=XA P m from e9.symm]at t9';obtain⟨e10,t10⟩:=ki (n:=10) (most:=16) (imp:=0) (g:=Wp P) (f:=RW P) (Wq P) m.ds z0 h.ds.1 (by decide) (XA P m) t9';have e10':Hu P m=rP (XA P m) (dsF P m):=e10;have t10':=qm t9' t10;rw[show rP (XA P m) _=Hu P m from e10.symm]at t10';obtain⟨e11,t11⟩:=ki (n:=11) (most:=8) (imp:=0) (g:=λi x=>ek 11 i (Jl x)) (f:=λx=>(0,Jl x)) (λi x=>fa 11 i _) m.cs z0 h.cs.1 (by decide) (Hu P m) t10';have e11':xN P m=rP (Hu P m) (csF m):=e11;have t11':=qm t10' t11;rw[show rP (Hu P m) _=xN P m from e11.symm]at t11';have hfl:=h.fs.1;obtain⟨e12,t12⟩:=ki (n:=12) (most:=(m.fs.length:Int)) (imp:=0) (g:=λi x=>BY P 12 i x.b) (f:=λx=>fY P x.b) (λi x=>sn P 12 i x.b) m.fs z0 h.fs.1 (by omega) (xN P m) t11';rw[show uZ 12 m.fs.length ((m.fs.length:Int)-0)=eB by unfold uZ;rw[au (by omega)]]at e12 t12;have e12':sc P m=rP (xN P m) (Wg P m):=by
  unfold sc;by_cases q:(xN P m).c=0
  .rw[aF q];exact e12
  .rw[au q];unfold rP;rw[aF q]
 have t12':rP (Wg P m) eB=Wg P m:=by
  unfold rP;by_cases q:(Wg P m).c=0
  .rw[au (by simp[q])];exact(t12 q).symm
  .rw[aF q]
 rw[e12',e11',e10',e9',e8',e7',e6',e5',e4',e3',e2',e1'];unfold YK;simp only[WG,Pn];rw[show v_ []=eB from rfl,t12']
def Zz:∀l:List Fa,v_ l=eB↔∀F∈l,F.c=0
 | []=>by simp[v_]
 | F::r=>by
  rw[v_,List.forall_mem_cons,<-Zz r];by_cases h:F.c=0
  .rw[au (by simp[h])];exact⟨λq=>⟨h,q⟩,λq=>q.2⟩
  .rw[aF h];exact⟨λq=>absurd (by rw[q];rfl) h,λq=>absurd q.1 h⟩
def afk{α:Type}[Inhabited α]{g:Nat->α->Fa}:∀(l:List α)(i:Nat)(F:Fa),(gr g i l F).c=0↔F.c=0/\∀k,k<l.length->(g (i+k) (ah l k)).c=0
 | [],i,F=>by simp[gr]
 | x::l,i,F=>by
  rw[gr];by_cases h:F.c=0
  .rw[au (by simp[h]),afk l (i+1) (g i x)];constructor
   .rintro⟨h1,h2⟩;refine⟨h,λk hk=>?_⟩;cases k with
    | zero=>exact h1
    | succ k=>have:=h2 k (by simpa using hk);rw[show i+(k+1)=i+1+k by omega];exact this
   .rintro⟨_,h2⟩;exact⟨h2 0 (by simp),λk hk=>by have:=h2 (k+1) (by simpa using hk);rw[show i+(k+1)=i+1+k by omega]at this;exact this⟩
  .rw[aF h];exact⟨λq=>absurd q h,λq=>absurd q.1 h⟩
def XR{α:Type}[Inhabited α]{Q:α->Prop}{l:List α}:(∀k,k<l.length->Q (ah l k))↔∀x∈l,Q x:=by
 constructor
 .intro h x hx;obtain⟨k,hk,rfl⟩:=List.getElem_of_mem hx;rw[<-bD hk];exact h k hk
 .intro h k hk;rw[bD hk];exact h _ (na hk)
def aia{p n most:Int}:(uZ p n most).c=0↔n<=most:=by
 unfold uZ;by_cases h:n>most
 .rw[aF h];exact⟨(λq=>by cases q),λq=>by omega⟩
 .rw[au h];exact⟨λ_=>by omega,λ_=>rfl⟩
def zZ{p i e:Int}:(ek p i e).c=0↔e=0:=by
 unfold ek;by_cases h:e=0
 .rw[aF h];exact⟨λ_=>h,λ_=>rfl⟩
 .rw[au h]
def KP{P:bj->Bool}{p i:Int}{l:List bj}:(BY P p i l).c=0↔(fY P l).2=0:=by
 unfold BY;by_cases h:(fY P l).2=0
 .rw[aF h];exact⟨λ_=>h,λ_=>rfl⟩
 .rw[au h]
def KL{P:bj->Bool}:∀(l:List bj)(i:Nat),(BX P i l).2=0↔∀x∈l,P x=true/\x.lb.length<=64
 | [],i=>by simp[BX]
 | y::l,i=>by
  rw[BX,List.forall_mem_cons];by_cases q:P y=false
  .rw[aF q];simp[q]
  rw[au q];by_cases q2:y.lb.length>64
  .rw[aF q2];exact⟨(λh=>by cases h),λh=>absurd h.1.2 (by omega)⟩
  rw[au q2,KL l (i+1)];exact⟨λh=>⟨⟨by simpa using q,by omega⟩,h⟩,λh=>h.2⟩
def QH(P:bj->Bool)(l:List bj):Prop:=l.length<=2048/\∀x∈l,P x=true/\x.lb.length<=64
def zt{P:bj->Bool}{l:List bj}:(fY P l).2=0↔QH P l:=by
 unfold fY QH;by_cases h:l.length>2048
 .rw[aF h];exact⟨(λq=>by cases q),λq=>by omega⟩
 .rw[au h,KL];exact⟨λq=>⟨by omega,q⟩,λq=>q.2⟩
def Ma(P:bj->Bool)(x:El):Prop:=LB x=0/\QH P x.o/\∀l∈x.it,QH P l
def Kp(P:bj->Bool)(x:Da):Prop:=¬(x.mo≠0/\(x.mo≠1\/x.me≠0\/x.o.length>0))/\nX x.me=true/\x.b.length<=4096/\QH P x.o
structure okM(P:bj->Bool)(m:Md):Prop where
 ts:m.ts.length<=64/\∀x∈m.ts,A3 x=0
 ims:m.ims.length<=32/\∀x∈m.ims,ED x=0
 fs:(m.fs.length:Int)<=64-(kM 0 m.ims:Nat)/\∀x∈m.fs,EB x=0
 tbs:(m.tbs.length:Int)<=4-(kM 1 m.ims:Nat)/\∀x∈m.tbs,Ei x=0
 ms:(m.ms.length:Int)<=2-(kM 2 m.ims:Nat)/\∀x∈m.ms,Gn x=0
 gs:(m.gs.length:Int)<=32-(kM 3 m.ims:Nat)/\∀x∈m.gs,jK x.g.v=true/\QH P x.i
 exs:m.exs.length<=64/\∀x∈m.exs,Hf x=0
 st:m.hs=true->nX m.st=true
 els:m.els.length<=16/\∀x∈m.els,Ma P x
 ds:m.ds.length<=16/\∀x∈m.ds,Kp P x
 cs:m.cs.length<=8/\∀x∈m.cs,Jl x=0
 bo:∀x∈m.fs,QH P x.b
def abq{α:Type}[Inhabited α]{g:Nat->α->Fa}{Q:α->Prop}(hq:∀i x,(g i x).c=0↔Q x){l:List α}{i:Nat}{F:Fa}:(gr g i l F).c=0↔F.c=0/\∀x∈l,Q x:=by
 rw[afk,<-XR (Q:=Q)];simp only[hq]
def Vs{α:Type}[Inhabited α]{g:Nat->α->Fa}{Q:α->Prop}(hq:∀i x,(g i x).c=0↔Q x){l:List α}{p n most:Int}:(gr g 0 l (uZ p n most)).c=0↔n<=most/\∀x∈l,Q x:=by
 rw[abq hq,aia]
def afa{P:bj->Bool}(i:Nat)(x:El):(Ww P i x).c=0↔Ma P x:=by
 unfold Ww Ma;rw[abq (Q:=QH P) (λ_ l=>by rw[KP,zt])];by_cases h:LB x=0
 .rw[aF h,KP,zt];exact⟨λq=>⟨h,q⟩,λq=>q.2⟩
 .rw[au h,zZ];exact⟨λq=>absurd q.1 h,λq=>absurd q.1 h⟩
def ae4{P:bj->Bool}(i:Nat)(x:Da):(Wp P i x).c=0↔Kp P x:=by
 unfold Wp Kp;by_cases h1:x.mo≠0/\(x.mo≠1\/x.me≠0\/x.o.length>0)
 .rw[aF h1,zZ];exact⟨(λq=>by cases q),λq=>absurd h1 q.1⟩
 rw[au h1];by_cases h2:nX x.me=false
 .rw[aF h2,zZ];exact⟨(λq=>by cases q),(λq=>by rw[q.2.1]at h2;cases h2)⟩
 rw[au h2];by_cases h3:x.b.length>4096
 .rw[aF h3,zZ];exact⟨(λq=>by cases q),λq=>by omega⟩
 rw[au h3,KP,zt];exact⟨λq=>⟨h1,by simpa using h2,by omega,q⟩,λq=>q.2.2.2⟩
def abR{P:bj->Bool}{m:Md}(hm:BZ m):sc P m=eB↔okM P m:=by
 rw[LX P m hm];unfold YK;rw[Zz];simp only[List.forall_mem_cons];have e1:(tyF m).c=0↔_:=Vs (Q:=λx=>A3 x=0) (λ_ _=>zZ);have e2:(imF m).c=0↔_:=Vs (Q:=λx=>ED x=0) (λ_ _=>zZ);have e3:(cdF m).c=0↔_:=Vs (Q:=λx=>EB x=0) (λ_ _=>zZ);have e4:(tbF m).c=0↔_:=Vs (Q:=λx=>Ei x=0) (λ_ _=>zZ);have e5:(mmF m).c=0↔_:=Vs (Q:=λx=>Gn x=0) (λ_ _=>zZ)
 have e6:(gdF P m).c=0↔_:=Vs (Q:=λx:Gd=>jK x.g.v=true/\QH P x.i) (λi x=>by
  by_cases h:jK x.g.v=false
  .rw[aF h,zZ];exact⟨(λq=>by cases q),λq=>by rw[h]at q;cases q.1⟩
  .rw[au h,KP,zt];exact⟨λq=>⟨by simpa using h,q⟩,λq=>q.2⟩)
 have e7:(exF m).c=0↔_:=Vs (Q:=λx=>Hf x=0) (λ_ _=>zZ);have e8:(Y2 m).c=0↔(m.hs=true->nX m.st=true):=by
  unfold Y2;by_cases h:m.hs=true/\nX m.st=false
  .rw[aF h,zZ];exact⟨(λq=>by cases q),λq=>by rw[q h.1]at h;cases h.2⟩
  .rw[au h];exact⟨λ_ g=>by simpa[g]using h,λ_=>rfl⟩
 have e9:(elF P m).c=0↔_:=Vs (Q:=Ma P) afa;have e10:(dsF P m).c=0↔_:=Vs (Q:=Kp P) ae4;have e11:(csF m).c=0↔_:=Vs (Q:=λx=>Jl x=0) (λ_ _=>zZ);have e12:(Wg P m).c=0↔_:=abq (Q:=λx:Cd=>QH P x.b) (λ_ x=>by rw[KP,zt]);rw[e1,e2,e3,e4,e5,e6,e7,e8,e9,e10,e11,e12];constructor
 .rintro⟨h1,h2,h3,h4,h5,h6,h7,h8,h9,h10,h11,h12,_⟩;exact⟨⟨by omega,h1.2⟩,⟨by omega,h2.2⟩,h3,h4,h5,h6,⟨by omega,h7.2⟩,h8,⟨by omega,h9.2⟩,⟨by omega,h10.2⟩,⟨by omega,h11.2⟩,h12.2⟩
 .intro h;exact⟨⟨by have:=h.ts.1;omega,h.ts.2⟩,⟨by have:=h.ims.1;omega,h.ims.2⟩,h.fs,h.tbs,h.ms,h.gs,⟨by have:=h.exs.1;omega,h.exs.2⟩,h.st,⟨by have:=h.els.1;omega,h.els.2⟩,⟨by have:=h.ds.1;omega,h.ds.2⟩,⟨by have:=h.cs.1;omega,h.cs.2⟩,⟨rfl,h.bo⟩,λ_ h=>by cases h⟩
structure Hr where
 f:Int
 h:List UInt8
 t:List UInt8
structure Oc where
 op:Int
 nm:List UInt8
 im:Int
def hr_(r:Hr):List AV:=[.int .i64 r.f,.str r.h,.str r.t]
def Fo(r:Oc):List AV:=[.int .i64 r.op,.str r.nm,.int .i64 r.im]
def afI(r:Oc):Fo r=[.int .i64 r.op,.str r.nm,.int .i64 r.im]:=rfl
instance:Inhabited Hr:=⟨⟨0,[],[]⟩⟩
instance:Inhabited Oc:=⟨⟨0,[],0⟩⟩
def HR:List Hr:=[⟨0,[],[117,110,114,101,97,99,104,97,98,108,101,32,110,111,112,32,98,108,111,99,107,32,108,111,111,112,32,105,102,32,101,108,115,101]⟩,
 ⟨11,[],[101,110,100,32,98,114,32,98,114,95,105,102,32,98,114,95,116,97,98,108,101,32,114,101,116,117,114,110,32,99,97,108,108,32,99,97,108,108,95,105,110,100,105,114,101,99,116]⟩,
 ⟨26,[],[100,114,111,112,32,115,101,108,101,99,116,32,115,101,108,101,99,116]⟩,
 ⟨32,[108,111,99,97,108,46],[103,101,116,32,115,101,116,32,116,101,101]⟩,
 ⟨35,[103,108,111,98,97,108,46],[103,101,116,32,115,101,116]⟩,
 ⟨37,[116,97,98,108,101,46],[103,101,116,32,115,101,116]⟩,
 ⟨40,[],[105,51,50,46,108,111,97,100,32,105,54,52,46,108,111,97,100]⟩,
 ⟨44,[105,51,50,46],[108,111,97,100,56,95,115,32,108,111,97,100,56,95,117,32,108,111,97,100,49,54,95,115,32,108,111,97,100,49,54,95,117]⟩,
 ⟨48,[105,54,52,46],[108,111,97,100,56,95,115,32,108,111,97,100,56,95,117,32,108,111,97,100,49,54,95,115,32,108,111,97,100,49,54,95,117,32,108,111,97,100,51,50,95,115,32,108,111,97,100,51,50,95,117]⟩,
 ⟨54,[],[105,51,50,46,115,116,111,114,101,32,105,54,52,46,115,116,111,114,101]⟩,
 ⟨58,[105,51,50,46],[115,116,111,114,101,56,32,115,116,111,114,101,49,54]⟩,
 ⟨60,[105,54,52,46],[115,116,111,114,101,56,32,115,116,111,114,101,49,54,32,115,116,111,114,101,51,50]⟩,
 ⟨63,[109,101,109,111,114,121,46],[115,105,122,101,32,103,114,111,119]⟩,
 ⟨65,[],[105,51,50,46,99,111,110,115,116,32,105,54,52,46,99,111,110,115,116]⟩,
 ⟨69,[105,51,50,46],[101,113,122,32,101,113,32,110,101,32,108,116,95,115,32,108,116,95,117,32,103,116,95,115,32,103,116,95,117,32,108,101,95,115,32,108,101,95,117,32,103,101,95,115,32,103,101,95,117]⟩,
 ⟨80,[105,54,52,46],[101,113,122,32,101,113,32,110,101,32,108,116,95,115,32,108,116,95,117,32,103,116,95,115,32,103,116,95,117,32,108,101,95,115,32,108,101,95,117,32,103,101,95,115,32,103,101,95,117]⟩,
 ⟨103,[105,51,50,46],[99,108,122,32,99,116,122,32,112,111,112,99,110,116,32,97,100,100,32,115,117,98,32,109,117,108,32,100,105,118,95,115,32,100,105,118,95,117,32,114,101,109,95,115,32,114,101,109,95,117,32,97,110,100,32,111,114,32,120,111,114,32,115,104,108,32,115,104,114,95,115,32,115,104,114,95,117,32,114,111,116,108,32,114,111,116,114]⟩,
 ⟨121,[105,54,52,46],[99,108,122,32,99,116,122,32,112,111,112,99,110,116,32,97,100,100,32,115,117,98,32,109,117,108,32,100,105,118,95,115,32,100,105,118,95,117,32,114,101,109,95,115,32,114,101,109,95,117,32,97,110,100,32,111,114,32,120,111,114,32,115,104,108,32,115,104,114,95,115,32,115,104,114,95,117,32,114,111,116,108,32,114,111,116,114]⟩,
 ⟨167,[],[105,51,50,46,119,114,97,112,95,105,54,52]⟩,
 ⟨172,[105,54,52,46],[101,120,116,101,110,100,95,105,51,50,95,115,32,101,120,116,101,110,100,95,105,51,50,95,117]⟩,
 ⟨192,[105,51,50,46],[101,120,116,101,110,100,56,95,115,32,101,120,116,101,110,100,49,54,95,115]⟩,
 ⟨194,[105,54,52,46],[101,120,116,101,110,100,56,95,115,32,101,120,116,101,110,100,49,54,95,115,32,101,120,116,101,110,100,51,50,95,115]⟩,
 ⟨208,[114,101,102,46],[110,117,108,108,32,105,115,95,110,117,108,108,32,102,117,110,99]⟩,
 ⟨64520,[],[109,101,109,111,114,121,46,105,110,105,116,32,100,97,116,97,46,100,114,111,112,32,109,101,109,111,114,121,46,99,111,112,121,32,109,101,109,111,114,121,46,102,105,108,108,32,116,97,98,108,101,46,105,110,105,116,32,101,108,101,109,46,100,114,111,112,32,116,97,98,108,101,46,99,111,112,121,32,116,97,98,108,101,46,103,114,111,119,32,116,97,98,108,101,46,115,105,122,101,32,116,97,98,108,101,46,102,105,108,108]⟩]
def Lw:List (List UInt8):=[[101,113,122],
 [101,113],
 [110,101],
 [108,116,95,115],
 [108,116,95,117],
 [103,116,95,115],
 [103,116,95,117],
 [108,101,95,115],
 [108,101,95,117],
 [103,101,95,115],
 [103,101,95,117]]
def MY:List (List UInt8):=[[99,108,122],
 [99,116,122],
 [112,111,112,99,110,116],
 [97,100,100],
 [115,117,98],
 [109,117,108],
 [100,105,118,95,115],
 [100,105,118,95,117],
 [114,101,109,95,115],
 [114,101,109,95,117],
 [97,110,100],
 [111,114],
 [120,111,114],
 [115,104,108],
 [115,104,114,95,115],
 [115,104,114,95,117],
 [114,111,116,108],
 [114,111,116,114]]
def Bw:List Oc:=[⟨0,[117,110,114,101,97,99,104,97,98,108,101],0⟩,
 ⟨1,[110,111,112],0⟩,
 ⟨2,[98,108,111,99,107],1⟩,
 ⟨3,[108,111,111,112],1⟩,
 ⟨4,[105,102],1⟩,
 ⟨5,[101,108,115,101],0⟩,
 ⟨11,[101,110,100],0⟩,
 ⟨12,[98,114],2⟩,
 ⟨13,[98,114,95,105,102],2⟩,
 ⟨14,[98,114,95,116,97,98,108,101],3⟩,
 ⟨15,[114,101,116,117,114,110],0⟩,
 ⟨16,[99,97,108,108],4⟩,
 ⟨17,[99,97,108,108,95,105,110,100,105,114,101,99,116],5⟩,
 ⟨26,[100,114,111,112],0⟩,
 ⟨27,[115,101,108,101,99,116],0⟩,
 ⟨28,[115,101,108,101,99,116],6⟩,
 ⟨32,[108,111,99,97,108,46,103,101,116],7⟩,
 ⟨33,[108,111,99,97,108,46,115,101,116],7⟩,
 ⟨34,[108,111,99,97,108,46,116,101,101],7⟩,
 ⟨35,[103,108,111,98,97,108,46,103,101,116],8⟩,
 ⟨36,[103,108,111,98,97,108,46,115,101,116],8⟩,
 ⟨37,[116,97,98,108,101,46,103,101,116],9⟩,
 ⟨38,[116,97,98,108,101,46,115,101,116],9⟩]
def Cw:List Oc:=[⟨40,[105,51,50,46,108,111,97,100],17⟩,
 ⟨41,[105,54,52,46,108,111,97,100],17⟩,
 ⟨44,[105,51,50,46,108,111,97,100,56,95,115],17⟩,
 ⟨45,[105,51,50,46,108,111,97,100,56,95,117],17⟩,
 ⟨46,[105,51,50,46,108,111,97,100,49,54,95,115],17⟩,
 ⟨47,[105,51,50,46,108,111,97,100,49,54,95,117],17⟩,
 ⟨48,[105,54,52,46,108,111,97,100,56,95,115],17⟩,
 ⟨49,[105,54,52,46,108,111,97,100,56,95,117],17⟩,
 ⟨50,[105,54,52,46,108,111,97,100,49,54,95,115],17⟩,
 ⟨51,[105,54,52,46,108,111,97,100,49,54,95,117],17⟩,
 ⟨52,[105,54,52,46,108,111,97,100,51,50,95,115],17⟩,
 ⟨53,[105,54,52,46,108,111,97,100,51,50,95,117],17⟩,
 ⟨54,[105,51,50,46,115,116,111,114,101],17⟩,
 ⟨55,[105,54,52,46,115,116,111,114,101],17⟩,
 ⟨58,[105,51,50,46,115,116,111,114,101,56],17⟩,
 ⟨59,[105,51,50,46,115,116,111,114,101,49,54],17⟩,
 ⟨60,[105,54,52,46,115,116,111,114,101,56],17⟩,
 ⟨61,[105,54,52,46,115,116,111,114,101,49,54],17⟩,
 ⟨62,[105,54,52,46,115,116,111,114,101,51,50],17⟩,
 ⟨63,[109,101,109,111,114,121,46,115,105,122,101],13⟩,
 ⟨64,[109,101,109,111,114,121,46,103,114,111,119],13⟩,
 ⟨65,[105,51,50,46,99,111,110,115,116],18⟩,
 ⟨66,[105,54,52,46,99,111,110,115,116],19⟩]
def abc:List Oc:=[⟨208,[114,101,102,46,110,117,108,108],20⟩,
 ⟨209,[114,101,102,46,105,115,95,110,117,108,108],0⟩,
 ⟨210,[114,101,102,46,102,117,110,99],4⟩,
 ⟨64520,[109,101,109,111,114,121,46,105,110,105,116],15⟩,
 ⟨64521,[100,97,116,97,46,100,114,111,112],16⟩,
 ⟨64522,[109,101,109,111,114,121,46,99,111,112,121],14⟩,
 ⟨64523,[109,101,109,111,114,121,46,102,105,108,108],13⟩,
 ⟨64524,[116,97,98,108,101,46,105,110,105,116],11⟩,
 ⟨64525,[101,108,101,109,46,100,114,111,112],12⟩,
 ⟨64526,[116,97,98,108,101,46,99,111,112,121],10⟩,
 ⟨64527,[116,97,98,108,101,46,103,114,111,119],9⟩,
 ⟨64528,[116,97,98,108,101,46,115,105,122,101],9⟩,
 ⟨64529,[116,97,98,108,101,46,102,105,108,108],9⟩]
def num(f:Int)(t:List UInt8):Nat->List (List UInt8)->List Oc
 | _,[]=>[]
 | k,s::r=>⟨f+(k:Int),t++[46]++s,0⟩::num f t (k+1) r
def OC:List Oc:=[⟨0,[117,110,114,101,97,99,104,97,98,108,101],0⟩,
 ⟨1,[110,111,112],0⟩,
 ⟨2,[98,108,111,99,107],1⟩,
 ⟨3,[108,111,111,112],1⟩,
 ⟨4,[105,102],1⟩,
 ⟨5,[101,108,115,101],0⟩,
 ⟨11,[101,110,100],0⟩,
 ⟨12,[98,114],2⟩,
 ⟨13,[98,114,95,105,102],2⟩,
 ⟨14,[98,114,95,116,97,98,108,101],3⟩,
 ⟨15,[114,101,116,117,114,110],0⟩,
 ⟨16,[99,97,108,108],4⟩,
 ⟨17,[99,97,108,108,95,105,110,100,105,114,101,99,116],5⟩,
 ⟨26,[100,114,111,112],0⟩,
 ⟨27,[115,101,108,101,99,116],0⟩,
 ⟨28,[115,101,108,101,99,116],6⟩,
 ⟨32,[108,111,99,97,108,46,103,101,116],7⟩,
 ⟨33,[108,111,99,97,108,46,115,101,116],7⟩,
 ⟨34,[108,111,99,97,108,46,116,101,101],7⟩,
 ⟨35,[103,108,111,98,97,108,46,103,101,116],8⟩,
 ⟨36,[103,108,111,98,97,108,46,115,101,116],8⟩,
 ⟨37,[116,97,98,108,101,46,103,101,116],9⟩,
 ⟨38,[116,97,98,108,101,46,115,101,116],9⟩,
 ⟨40,[105,51,50,46,108,111,97,100],17⟩,
 ⟨41,[105,54,52,46,108,111,97,100],17⟩,
 ⟨44,[105,51,50,46,108,111,97,100,56,95,115],17⟩,
 ⟨45,[105,51,50,46,108,111,97,100,56,95,117],17⟩,
 ⟨46,[105,51,50,46,108,111,97,100,49,54,95,115],17⟩,
 ⟨47,[105,51,50,46,108,111,97,100,49,54,95,117],17⟩,
 ⟨48,[105,54,52,46,108,111,97,100,56,95,115],17⟩,
 ⟨49,[105,54,52,46,108,111,97,100,56,95,117],17⟩,
 ⟨50,[105,54,52,46,108,111,97,100,49,54,95,115],17⟩,
 ⟨51,[105,54,52,46,108,111,97,100,49,54,95,117],17⟩,
 ⟨52,[105,54,52,46,108,111,97,100,51,50,95,115],17⟩,
 ⟨53,[105,54,52,46,108,111,97,100,51,50,95,117],17⟩,
 ⟨54,[105,51,50,46,115,116,111,114,101],17⟩,
 ⟨55,[105,54,52,46,115,116,111,114,101],17⟩,
 ⟨58,[105,51,50,46,115,116,111,114,101,56],17⟩,
 ⟨59,[105,51,50,46,115,116,111,114,101,49,54],17⟩,
 ⟨60,[105,54,52,46,115,116,111,114,101,56],17⟩,
 ⟨61,[105,54,52,46,115,116,111,114,101,49,54],17⟩,
 ⟨62,[105,54,52,46,115,116,111,114,101,51,50],17⟩,
 ⟨63,[109,101,109,111,114,121,46,115,105,122,101],13⟩,
 ⟨64,[109,101,109,111,114,121,46,103,114,111,119],13⟩,
 ⟨65,[105,51,50,46,99,111,110,115,116],18⟩,
 ⟨66,[105,54,52,46,99,111,110,115,116],19⟩,
 ⟨69,[105,51,50,46,101,113,122],0⟩,
 ⟨70,[105,51,50,46,101,113],0⟩,
 ⟨71,[105,51,50,46,110,101],0⟩,
 ⟨72,[105,51,50,46,108,116,95,115],0⟩,
 ⟨73,[105,51,50,46,108,116,95,117],0⟩,
 ⟨74,[105,51,50,46,103,116,95,115],0⟩,
 ⟨75,[105,51,50,46,103,116,95,117],0⟩,
 ⟨76,[105,51,50,46,108,101,95,115],0⟩,
 ⟨77,[105,51,50,46,108,101,95,117],0⟩,
 ⟨78,[105,51,50,46,103,101,95,115],0⟩,
 ⟨79,[105,51,50,46,103,101,95,117],0⟩,
 ⟨80,[105,54,52,46,101,113,122],0⟩,
 ⟨81,[105,54,52,46,101,113],0⟩,
 ⟨82,[105,54,52,46,110,101],0⟩,
 ⟨83,[105,54,52,46,108,116,95,115],0⟩,
 ⟨84,[105,54,52,46,108,116,95,117],0⟩,
 ⟨85,[105,54,52,46,103,116,95,115],0⟩,
 ⟨86,[105,54,52,46,103,116,95,117],0⟩,
 ⟨87,[105,54,52,46,108,101,95,115],0⟩,
 ⟨88,[105,54,52,46,108,101,95,117],0⟩,
 ⟨89,[105,54,52,46,103,101,95,115],0⟩,
 ⟨90,[105,54,52,46,103,101,95,117],0⟩,
 ⟨103,[105,51,50,46,99,108,122],0⟩,
 ⟨104,[105,51,50,46,99,116,122],0⟩,
 ⟨105,[105,51,50,46,112,111,112,99,110,116],0⟩,
 ⟨106,[105,51,50,46,97,100,100],0⟩,
 ⟨107,[105,51,50,46,115,117,98],0⟩,
 ⟨108,[105,51,50,46,109,117,108],0⟩,
 ⟨109,[105,51,50,46,100,105,118,95,115],0⟩,
 ⟨110,[105,51,50,46,100,105,118,95,117],0⟩,
 ⟨111,[105,51,50,46,114,101,109,95,115],0⟩,
 ⟨112,[105,51,50,46,114,101,109,95,117],0⟩,
 ⟨113,[105,51,50,46,97,110,100],0⟩,
 ⟨114,[105,51,50,46,111,114],0⟩,
 ⟨115,[105,51,50,46,120,111,114],0⟩,
 ⟨116,[105,51,50,46,115,104,108],0⟩,
 ⟨117,[105,51,50,46,115,104,114,95,115],0⟩,
 ⟨118,[105,51,50,46,115,104,114,95,117],0⟩,
 ⟨119,[105,51,50,46,114,111,116,108],0⟩,
 ⟨120,[105,51,50,46,114,111,116,114],0⟩,
 ⟨121,[105,54,52,46,99,108,122],0⟩,
 ⟨122,[105,54,52,46,99,116,122],0⟩,
 ⟨123,[105,54,52,46,112,111,112,99,110,116],0⟩,
 ⟨124,[105,54,52,46,97,100,100],0⟩,
 ⟨125,[105,54,52,46,115,117,98],0⟩,
 ⟨126,[105,54,52,46,109,117,108],0⟩,
 ⟨127,[105,54,52,46,100,105,118,95,115],0⟩,
 ⟨128,[105,54,52,46,100,105,118,95,117],0⟩,
 ⟨129,[105,54,52,46,114,101,109,95,115],0⟩,
 ⟨130,[105,54,52,46,114,101,109,95,117],0⟩,
 ⟨131,[105,54,52,46,97,110,100],0⟩,
 ⟨132,[105,54,52,46,111,114],0⟩,
 ⟨133,[105,54,52,46,120,111,114],0⟩,
 ⟨134,[105,54,52,46,115,104,108],0⟩,
 ⟨135,[105,54,52,46,115,104,114,95,115],0⟩,
 ⟨136,[105,54,52,46,115,104,114,95,117],0⟩,
 ⟨137,[105,54,52,46,114,111,116,108],0⟩,
 ⟨138,[105,54,52,46,114,111,116,114],0⟩,
 ⟨167,[105,51,50,46,119,114,97,112,95,105,54,52],0⟩,
 ⟨172,[105,54,52,46,101,120,116,101,110,100,95,105,51,50,95,115],0⟩,
 ⟨173,[105,54,52,46,101,120,116,101,110,100,95,105,51,50,95,117],0⟩,
 ⟨192,[105,51,50,46,101,120,116,101,110,100,56,95,115],0⟩,
 ⟨193,[105,51,50,46,101,120,116,101,110,100,49,54,95,115],0⟩,
 ⟨194,[105,54,52,46,101,120,116,101,110,100,56,95,115],0⟩,
 ⟨195,[105,54,52,46,101,120,116,101,110,100,49,54,95,115],0⟩,
 ⟨196,[105,54,52,46,101,120,116,101,110,100,51,50,95,115],0⟩,
 ⟨208,[114,101,102,46,110,117,108,108],20⟩,
 ⟨209,[114,101,102,46,105,115,95,110,117,108,108],0⟩,
 ⟨210,[114,101,102,46,102,117,110,99],4⟩,
 ⟨64520,[109,101,109,111,114,121,46,105,110,105,116],15⟩,
 ⟨64521,[100,97,116,97,46,100,114,111,112],16⟩,
 ⟨64522,[109,101,109,111,114,121,46,99,111,112,121],14⟩,
 ⟨64523,[109,101,109,111,114,121,46,102,105,108,108],13⟩,
 ⟨64524,[116,97,98,108,101,46,105,110,105,116],11⟩,
 ⟨64525,[101,108,101,109,46,100,114,111,112],12⟩,
 ⟨64526,[116,97,98,108,101,46,99,111,112,121],10⟩,
 ⟨64527,[116,97,98,108,101,46,103,114,111,119],9⟩,
 ⟨64528,[116,97,98,108,101,46,115,105,122,101],9⟩,
 ⟨64529,[116,97,98,108,101,46,102,105,108,108],9⟩]
def wdA:List UInt8->List UInt8->List (List UInt8)
 | [],w=>if w=[]then[]else[w]
 | c::r,w=>if c=32 then(if w=[]then wdA r []else w::wdA r [])else wdA r (w++[c])
def wds(s:List UInt8):List (List UInt8):=wdA s []
def Ph(f:Int)(h:List UInt8):Nat->List (List UInt8)->List (Int×List UInt8)
 | _,[]=>[]
 | k,s::r=>(f+(k:Int),h++s)::Ph f h (k+1) r
def EN:List (Int×List UInt8):=OC.map λo=>(o.op,o.nm)
def aen:EN=HR.flatMap λr=>Ph r.f r.h 0 (wds r.t):=by decide +kernel
open Go.Shelf
def acW:Go.Shelf.Ren:=⟨λ|144=>340|143=>350|219=>367|217=>290|225=>372|224=>373|267=>374|266=>327|314=>377|n=>n,λ|9=>9|4=>4|3=>3|5=>5|46=>320|146=>432|51=>367|n=>n,λ|1=>2|n=>n⟩
def Xp:Go.Proofs.Lays.n144 pg acW:={
 mixed:=by kernel_rfl
 f143:=Tryz.func350.trans (congrArg some (by kernel_rfl))
 f144:=Tryz.func340.trans (congrArg some (by kernel_rfl))
 f217:=Tryz.func290.trans (congrArg some (by kernel_rfl))
 f219:=Tryz.func367.trans (congrArg some (by kernel_rfl))
 f224:=Tryz.func373.trans (congrArg some (by kernel_rfl))
 f225:=Tryz.func372.trans (congrArg some (by kernel_rfl))
 f266:=Tryz.func327.trans (congrArg some (by kernel_rfl))
 f267:=Tryz.func374.trans (congrArg some (by kernel_rfl))
 f314:=Tryz.func377.trans (congrArg some (by kernel_rfl))
 t3:=Tryz.underlying3
 a3:=Tryz.isAgg3
 z3:=Tryz.sizeOf3
 v3:=Tryz.zeroValue3
 t4:=Tryz.underlying4
 a4:=Tryz.isAgg4
 z4:=Tryz.sizeOf4
 v4:=Tryz.zeroValue4
 t5:=Tryz.underlying5
 a5:=Tryz.isAgg5
 z5:=Tryz.sizeOf5
 v5:=Tryz.zeroValue5
 t9:=Tryz.underlying9
 a9:=Tryz.isAgg9
 z9:=Tryz.sizeOf9
 v9:=Tryz.zeroValue9
 t46:=Tryz.underlying320
 a46:=Tryz.isAgg320
 z46:=Tryz.sizeOf320
 v46:=Tryz.zeroValue320
 t51:=Tryz.underlying367
 a51:=Tryz.isAgg367
 z51:=Tryz.sizeOf367
 v51:=Tryz.zeroValue367
 t146:=Tryz.underlying432
 a146:=Tryz.isAgg432
 z146:=Tryz.sizeOf432
 v146:=Tryz.zeroValue432
 g1:=by kernel_rfl}
def acX:Go.Shelf.Ren:=⟨λ|157=>353|229=>368|199=>369|261=>375|311=>378|312=>379|n=>n,λ|9=>9|31=>394|3=>3|5=>5|4=>4|119=>325|0=>0|40=>423|152=>427|21=>21|154=>429|51=>367|141=>431|196=>437|193=>434|198=>440|49=>438|194=>435|201=>443|226=>445|46=>320|227=>446|n=>n,λ|0=>3|6=>4|n=>n⟩
def Xq:Go.Proofs.Lays.n157 pg acX:={
 mixed:=by kernel_rfl
 f157:=Tryz.func353.trans (congrArg some (by kernel_rfl))
 f199:=Tryz.func369.trans (congrArg some (by kernel_rfl))
 f229:=Tryz.func368.trans (congrArg some (by kernel_rfl))
 f261:=Tryz.func375.trans (congrArg some (by kernel_rfl))
 f311:=Tryz.func378.trans (congrArg some (by kernel_rfl))
 f312:=Tryz.func379.trans (congrArg some (by kernel_rfl))
 t0:=Tryz.underlying0
 a0:=Tryz.isAgg0
 z0:=Tryz.sizeOf0
 v0:=Tryz.zeroValue0
 t3:=Tryz.underlying3
 a3:=Tryz.isAgg3
 z3:=Tryz.sizeOf3
 v3:=Tryz.zeroValue3
 t4:=Tryz.underlying4
 a4:=Tryz.isAgg4
 z4:=Tryz.sizeOf4
 v4:=Tryz.zeroValue4
 t5:=Tryz.underlying5
 a5:=Tryz.isAgg5
 z5:=Tryz.sizeOf5
 v5:=Tryz.zeroValue5
 t9:=Tryz.underlying9
 a9:=Tryz.isAgg9
 z9:=Tryz.sizeOf9
 v9:=Tryz.zeroValue9
 t21:=Tryz.underlying21
 a21:=Tryz.isAgg21
 z21:=Tryz.sizeOf21
 v21:=Tryz.zeroValue21
 t31:=Tryz.underlying394
 a31:=Tryz.isAgg394
 z31:=Tryz.sizeOf394
 v31:=Tryz.zeroValue394
 t40:=Tryz.underlying423
 a40:=Tryz.isAgg423
 z40:=Tryz.sizeOf423
 v40:=Tryz.zeroValue423
 t46:=Tryz.underlying320
 a46:=Tryz.isAgg320
 z46:=Tryz.sizeOf320
 v46:=Tryz.zeroValue320
 t49:=Tryz.underlying438
 a49:=Tryz.isAgg438
 z49:=Tryz.sizeOf438
 v49:=Tryz.zeroValue438
 t51:=Tryz.underlying367
 a51:=Tryz.isAgg367
 z51:=Tryz.sizeOf367
 v51:=Tryz.zeroValue367
 t119:=Tryz.underlying325
 a119:=Tryz.isAgg325
 z119:=Tryz.sizeOf325
 t141:=Tryz.underlying431
 a141:=Tryz.isAgg431
 z141:=Tryz.sizeOf431
 v141:=Tryz.zeroValue431
 t152:=Tryz.underlying427
 a152:=Tryz.isAgg427
 z152:=Tryz.sizeOf427
 v152:=Tryz.zeroValue427
 t154:=Tryz.underlying429
 a154:=Tryz.isAgg429
 z154:=Tryz.sizeOf429
 v154:=Tryz.zeroValue429
 t193:=Tryz.underlying434
 a193:=Tryz.isAgg434
 z193:=Tryz.sizeOf434
 v193:=Tryz.zeroValue434
 t194:=Tryz.underlying435
 a194:=Tryz.isAgg435
 z194:=Tryz.sizeOf435
 v194:=Tryz.zeroValue435
 t196:=Tryz.underlying437
 a196:=Tryz.isAgg437
 z196:=Tryz.sizeOf437
 v196:=Tryz.zeroValue437
 t198:=Tryz.underlying440
 a198:=Tryz.isAgg440
 z198:=Tryz.sizeOf440
 v198:=Tryz.zeroValue440
 t201:=Tryz.underlying443
 a201:=Tryz.isAgg443
 z201:=Tryz.sizeOf443
 v201:=Tryz.zeroValue443
 t226:=Tryz.underlying445
 a226:=Tryz.isAgg445
 z226:=Tryz.sizeOf445
 v226:=Tryz.zeroValue445
 t227:=Tryz.underlying446
 a227:=Tryz.isAgg446
 z227:=Tryz.sizeOf446
 v227:=Tryz.zeroValue446
 g0:=by kernel_rfl
 g6:=by kernel_rfl}
def x_(s sub:List UInt8)(hs:s.length<4294967281):ac pg xT [.str s,.str sub] (.bool (Lib.contains s sub)):=by
 refine ac.of (λw bl M cargs hH hM ha=>?_) rfl
 match cargs,ha with
 | [a,b],⟨h1,h2,_⟩ =>
  obtain rfl:=h1.str;obtain rfl:=h2.str;obtain⟨m,hm⟩:=hH.2.2;refine(Any.strings_Contains Xp ⟨s.toArray⟩ ⟨sub.toArray⟩ m w (by simpa[ByteArray.size]using hs) hm).mono ?_;rintro e w' ⟨rfl,rfl⟩;exact⟨_,rfl,qA.refl _ _,IRel.bool _⟩
def LF(s:List UInt8)(hs:s.length<4294967281)(ha:∀b∈s,b.toNat<128)(w:World)(hH:(bO.T pg).H w) :
  Calls pg Au #[.string ⟨s.toArray⟩] w λe w'=>e = .returned (.slice (some ⟨w.heap.size,0,none⟩) (Lib.fields s).length (Lib.fields s).length)/\w'=w.alloc (.cells ((Lib.fields s).map λl=>Value.string ⟨l.toArray⟩).toArray 9):=by
 have h:=Any.strings_Fields_core Xq (by kernel_rfl) ⟨s.toArray⟩ w (by simpa[ByteArray.size]using hs) (λj b hb=>ha b (vD (by simpa using hb))) (λc hc=>hH.2.1 c hc);exact h
def YV:ac pg EZ [] (.sl 3 (HR.map hr_)):=by
 refine aD wV ?_;simp only[go_sem,wV];exact aq [25] (by rfl) rfl
def UU:ac pg Dh [] (.fn 351 []):=by
 refine aD uk ?_;simp only[go_sem,uk];exact az
section
open Go.RowKit
attribute[local go_sem] Oper.semAt_some
def abb(x:Int×List UInt8):Array Value:=#[.int .i64 x.1,.string ⟨x.2.toArray⟩]
def Mz{M:Nat->Prop}{w:World}{v:Value}(h:bu (λ_=>none) M w v (.sl 3 (HR.map hr_))):∃b off cap,v = .slice (some ⟨b,off,none⟩) 24 cap/\¬M b/\∃c t fr,w.heap[b]?=some (.cells c t fr) /\
  ∀i,i<24->c[off+i*3]?=some (.int .i64 (ah HR i).f)/\c[off+i*3+1]?=some (.string ⟨(ah HR i).h.toArray⟩)/\c[off+i*3+2]?=some (.string ⟨(ah HR i).t.toArray⟩):=by
 have h1:IRel M w v (.sl 3 (HR.map hr_)):=h;have hlen:(HR.map hr_).length=24:=by rfl
 generalize hr:HR.map hr_=rows at h1 hlen;cases h1 with
 | nls=>simp at hlen
 | sl0=>simp at hlen
 | sl b off cap st c t fr rows vs hb hM hl hr1 hv hx =>
  refine⟨b,off,cap,by rw[hlen],hM,c,t,fr,hb,λi hi=>?_⟩;have hrow:rows[i]?=some (hr_ (ah HR i)):=by
   rw[<-hr,ky,pd (by rw[<-hlen,<-hr]at hi;simpa using hi)];rfl
  have key:∀j x,(hr_ (ah HR i))[j]?=some x->j<3->∃u,c[off+i*3+j]?=some u/\IRel M w u x:=λj x hj hj3=>⟨_,hv i j (by omega) hj3,hx i j _ _ hrow hj⟩
  obtain⟨u0,a0,b0⟩:=key 0 (.int .i64 (ah HR i).f) rfl (by omega);obtain⟨u1,a1,b1⟩:=key 1 (.str (ah HR i).h) rfl (by omega);obtain⟨u2,a2,b2⟩:=key 2 (.str (ah HR i).t) rfl (by omega);cases b0;cases b1;cases b2;exact⟨a0,a1,a2⟩
def DQ(k:Nat):List (Int×List UInt8):=(HR.take k).flatMap λr=>Ph r.f r.h 0 (Lib.fields r.t)
def aep(k:Nat)(h:k<24):(ah HR k).t.length<4294967281/\∀b∈(ah HR k).t,b.toNat<128:=by
 have:∀r∈HR,r.t.length<4294967281/\∀b∈r.t,b.toNat<128:=by decide +kernel
 exact this _ (by rw[bD (by exact h)];exact na _)
def aap(k:Nat)(h:k<24):(ah HR k).h.length<1000/\0<=(ah HR k).f/\(ah HR k).f<100000/\(Lib.fields (ah HR k).t).length<1000/\∀s∈Lib.fields (ah HR k).t,s.length<1000:=by
 have:∀r∈HR,r.h.length<1000/\0<=r.f/\r.f<100000/\(Lib.fields r.t).length<1000/\∀s∈Lib.fields r.t,s.length<1000:=by decide +kernel
 exact this _ (by rw[bD (by exact h)];exact na _)
def Nw(f:Int)(h:List UInt8):∀(l:List (List UInt8))(k:Nat),(Ph f h k l).length=l.length
 | [],_=>rfl
 | _::l,k=>by simp[Ph,Nw f h l]
def Nv(f:Int)(h:List UInt8):∀(l:List (List UInt8))(k j:Nat),j<l.length->(Ph f h k l)[j]?=some (f+((k+j:Nat):Int),h++ah l j)
 | [],_,j,hj=>by simp at hj
 | s::l,k,0,_=>rfl
 | s::l,k,j+1,hj=>by
  have:=Nv f h l (k+1) j (by simpa using hj);simp only[Ph,IN];rw[this,show k+1+j=k+(j+1)by omega];rfl
def Ju{f:Int}{h:List UInt8}{l:List (List UInt8)}{j:Nat}(hj:j<l.length):(Ph f h 0 l).take (j+1)=(Ph f h 0 l).take j++[(f+(j:Int),h++ah l j)]:=by
 rw[Eu,Nv f h l 0 j hj,Et,AJ]
def Gy{k:Nat}(h:k<24):DQ (k+1)=DQ k++Ph (ah HR k).f (ah HR k).h 0 (Lib.fields (ah HR k).t):=by
 unfold DQ;rw[Eu,pd (show k<HR.length from h),Et,vz,List.flatMap_singleton]
def Ug{k:Nat}(h:k<=24):DQ k <+: DQ 24:=by
 have e:HR.take 24=HR.take k++(HR.take 24).drop k:=by
  rw[show HR.take k=(HR.take 24).take k by rw[List.take_take,IR h]];exact(IS k _).symm
 unfold DQ;rw[e,vz];exact List.prefix_append _ _
def Uf:DQ 24=HR.flatMap λr=>Ph r.f r.h 0 (wds r.t):=by decide +kernel
def ab2(n:Nat)(w:World):aex n pg 351 #[] abb EN w:=by
 intro l J Jx W hH hW hJ hJx hY h0;refine callsIn_of_wp Tryz.func351 rfl trivial ?_ rfl;have hE:DQ 24=EN:=by rw[aen];exact Uf
 have cr:=ac.run YV W hH (cargs:=[]) trivial;simp only[Tryz.ntmps351,List.size_toArray,aT,aC,Nat.reduceAdd,Nat.reduceSub,Array.replicate_succ,Array.replicate_zero,List.push_toArray,List.append_toArray,fA,k7]
 gi_wp2
 refine⟨trivial,λh=>(by cases h),(callsIn_wide.2 cr).mono ?_⟩;rintro e W1 ⟨v,rfl,hv,hst⟩;obtain⟨b,off,cap,rfl,hnb,c,t,fr,hb,hc⟩:=Mz hv
 gi_wp2
 gi_loopw [8] (λi wr=>∃k:Nat,k<=24/\i = .int .i64 k/\J (DQ k) wr/\W.heap.size<=wr.heap.size/\wr.heap[b]?=some (.cells c t fr)/\(bO.T pg).H wr) (λi _=>24-(intOf i).toNat)
 case atStart=>exact⟨0,by omega,rfl,hJ _ _ _ h0 hst,hst.size,hb,(bO.T pg).stay _ _ hH λq hq=>hst.keep q ((bO.T pg).low _ hH q hq) (λh=>h)⟩
 case round =>
  obtain⟨k,hk,rfl,hJk,hsz,hbk,hHk⟩:=hrel
  rename World=>wo1
  by_cases hlt:k<24
  .have c0:wo1.cell? ⟨b,off+k*3,none⟩=some (.int .i64 (ah HR k).f):=(fH hbk _).trans (hc k hlt).1;have c1:wo1.cell? ⟨b,off+k*3+1,none⟩=some (.string ⟨(ah HR k).h.toArray⟩):=(fH hbk _).trans (hc k hlt).2.1;have c2:wo1.cell? ⟨b,off+k*3+2,none⟩=some (.string ⟨(ah HR k).t.toArray⟩):=(fH hbk _).trans (hc k hlt).2.2;have hsA:=qA.ofAlloc wo1 (.cells #[.int .i64 (ah HR k).f,.string ⟨(ah HR k).h.toArray⟩,.string ⟨(ah HR k).t.toArray⟩] 413);have hHA:=(bO.T pg).stay _ _ hHk λq hq=>hsA.keep q ((bO.T pg).low _ hHk q hq) (λh=>h);obtain⟨hl,ha⟩:=aep k hlt;obtain⟨hh,hf0,hf1,hfl,hfs⟩:=aap k hlt;have cf:=LF (ah HR k).t hl ha _ hHA;generalize hF:Lib.fields (ah HR k).t=fl at cf hfl hfs
   gi_wp2
   refine⟨trivial,λh=>(by cases h),(callsIn_wide.2 cf).mono ?_⟩;rintro e W2 ⟨rfl,rfl⟩
   gi_wp2
   gi_loopw [16] (λi wr2=>∃j:Nat,j<=fl.length/\i = .int .i64 j/\J (DQ k++(Ph (ah HR k).f (ah HR k).h 0 fl).take j) wr2/\W.heap.size<=wr2.heap.size/\wr2.heap[b]?=some (.cells c t fr) /\
     wr2.heap[wo1.heap.size]?=some (.cells #[.int .i64 (ah HR k).f,.string ⟨(ah HR k).h.toArray⟩,.string ⟨(ah HR k).t.toArray⟩] 413)/\wr2.heap[wo1.heap.size+1]?=some (.cells (fl.map λl=>Value.string ⟨l.toArray⟩).toArray 9)/\(bO.T pg).H wr2) (λi _=>fl.length-(intOf i).toNat)
   case atStart =>
    have hsF:=hsA.one (qA.ofAlloc _ (.cells (fl.map λl=>Value.string ⟨l.toArray⟩).toArray 9));refine⟨0,cQ _,rfl,?_,by simp;omega,?_,?_,?_,?_⟩
    .rw[mA,gh];exact hJ _ _ _ hJk hsF
    .rw[hsF.keep b (bQ hbk) (λh=>h)];exact hbk
    .exact(Below.heap_alloc _ _ _ (by simp)).trans (World.alloc_heap_new _ _)
    .have:=World.alloc_heap_new (wo1.alloc (.cells #[.int .i64 (ah HR k).f,.string ⟨(ah HR k).h.toArray⟩,.string ⟨(ah HR k).t.toArray⟩] 413)) (.cells (fl.map λl=>Value.string ⟨l.toArray⟩).toArray 9);rwa[World.size_alloc]at this
    .exact(bO.T pg).stay _ _ hHk λq hq=>hsF.keep q ((bO.T pg).low _ hHk q hq) (λh=>h)
   case round =>
    obtain⟨j,hj,rfl,hJj,hsz2,hb2,hx2,hs2,hH2⟩:=hrel;by_cases hlt2:j<fl.length
    .have d0:wr.cell? ⟨wo1.heap.size,0,none⟩=some (.int .i64 (ah HR k).f):=fH hx2 _;have d1:wr.cell? ⟨wo1.heap.size,1,none⟩=some (.string ⟨(ah HR k).h.toArray⟩):=fH hx2 _;have d3:wr.cell? ⟨wo1.heap.size+1,j,none⟩=some (.string ⟨(ah fl j).toArray⟩):=(fH hs2 _).trans (by rw[List.getElem?_toArray,ky,pd hlt2];rfl);have hss:=hfs (ah fl j) (by rw[bD hlt2];exact na _);have hcat:¬9223372036854775807<(ah HR k).h.length+(ah fl j).length:=by omega
     have hpre:(DQ k++(Ph (ah HR k).f (ah HR k).h 0 fl).take j)++[((ah HR k).f+(j:Int),(ah HR k).h++ah fl j)] <+: EN:=by
      rw[eU,<-Ju hlt2,<-hE,<-hF];refine List.IsPrefix.trans ?_ (Ug (show k+1<=24 by omega));rw[Gy hlt];exact(List.prefix_append_right_inj _).2 (List.take_prefix _ _)
     obtain⟨fn,tmps,assign,body,hy,hR⟩:=hY _ _ wr hJj hpre;have hw:wrap64 ((ah HR k).f+(j:Int))=(ah HR k).f+(j:Int):=IntWalk.wrap64_in _ (by omega);have hc2:(ByteArray.mk (ah HR k).h.toArray++ByteArray.mk (ah fl j).toArray)=ByteArray.mk ((ah HR k).h++ah fl j).toArray:=by apply ByteArray.ext;simp
     have hy2:(Instr.yield l #[.int .i64 ((ah HR k).f+(j:Int)),.string (ByteArray.mk ((ah HR k).h++ah fl j).toArray)]).run pg wr = .ok (.round l fn tmps assign body) wr:=hy
     gi_wp2
     refine⟨λh=>(by cases h),hR.mono ?_⟩;rintro e W3 (⟨rfl,hJ3,hk3⟩|⟨rfl,hJx3⟩)
     .gi_wp2
      go_roundw
      case rel =>
       refine⟨j+1,by omega,by simp,?_,jq hsz2 hk3.1,?_,hk3.2.1 _ _ _ _ hsz hx2,hk3.2.1 _ _ _ _ (by omega) hs2,(bO.T pg).stay _ _ hH2 λq hq=>hk3.2.2 q hq⟩
       .rw[Ju hlt2,<-eU];exact hJ3
       .by_cases hbw:W.heap.size<=b
        .exact hk3.2.1 _ _ _ _ hbw hb2
        .rw[hk3.2.2 b (Classical.byContradiction λhn=>hnb ⟨by omega,hn⟩)];exact hb2
      case measure=>simp[intOf];omega
     .gi_wp2
      refine bodyPost_ret (results_none rfl _ _ _) rfl ?_;exact⟨⟨_,rfl⟩,.inr ⟨_,hpre,hJx3⟩⟩
    .obtain rfl:j=fl.length:=by omega
     gi_wp2
     refine⟨⟨k+1,by omega,by simp,?_,hsz2,hb2,hH2⟩,by simp[intOf];omega⟩;rw[Gy hlt,hF];rw[dQ (by rw[Nw];exact bG _)]at hJj;exact hJj
  .obtain rfl:k=24:=by omega
   gi_wp2
   go_end0
   exact⟨⟨_,rfl⟩,.inl (hE▸hJk)⟩
end
section
open Go.RowKit
attribute[local go_sem] Oper.semAt_some
def dw(op:Int):List UInt8:=match EN.find? (λp=>p.1==op)with
 | some p=>p.2
 | none=>[]
def Sd{α:Type}{f:α->Bool}{l oA:List α}{x:α}(h:oA++[x] <+: l)(hn:∀p∈oA,f p=false)(hx:f x=true):l.find? f=some x:=by
 obtain⟨r,rfl⟩:=h;rw[eU,List.find?_append,List.find?_eq_none.2 (λp hp=>by rw[hn p hp];decide)];simp[hx]
def ss{w W:World}{l:Nat}{o o':Obj}(h:qA No w W)(hl:w.heap.size<=l)(hc:W.heap[l]?=some o)(ho:o.isCells=false):qA No w (W.putObj l o') where
 size:=jq h.size (grownBy_putObj' W l o').size
 keep b hb _:=by rw[World.putObj_heap_other (by omega)];exact h.keep b hb (λh=>h)
 shape b c t fr hb:=by
  obtain⟨c',fr',h1,h2⟩:=h.shape b c t fr hb;exact⟨c',fr',by rw[World.putObj_heap_other (by have:=bQ hb;omega)];exact h1,h2⟩
 os:=(grownBy_putObj' W l o').os.trans h.os
 out:=(grownBy_putObj' W l o').output.trans h.out
def Bn{w W:World}{a:Addr}{v:Value}(h:qA No w W)(hl:w.heap.size<=a.block):qA No w (W.setCell a v) where
 size:=by simpa[World.setCell]using h.size
 keep b hb _:=by
  have:b≠a.block:=by omega
  simp only[World.setCell,B1,au (Ne.symm this)];exact h.keep b hb (λh=>h)
 shape b c t fr hb:=by
  obtain⟨c',fr',h1,h2⟩:=h.shape b c t fr hb;have:b≠a.block:=by have:=bQ hb;omega
  exact⟨c',fr',by simp only[World.setCell,B1,au (Ne.symm this)];exact h1,h2⟩
 os:=h.os
 out:=h.out
def abd{bl:Nat->Option Nat}{M:Nat->Prop}{w:World}{v:Value}{f:FuncId}(h:bu bl M w v (.fn f []))(hf:decide (f<4000000)=true:=by rfl):v = .func (.func f) #[] #[]:=by
 obtain⟨cs,rfl,h⟩:=h;have h1:Zw f=f:=aF (of_decide_eq_true hf);cases cs with
 | nil=>rw[h1];simp
 | cons=>exact h.elim
def xt{fn:Func}{t:Tmp}{ty:TypeId}(h:fn.results = #[.cell t ty])(tmps:Array Value)(P:Program)(w:World){b:Nat}{v:Value}(ha:tmps.getD t undef = .pointer (some ⟨b,0,none⟩))(hagg:(isAgg ty).run P w = .ok false w)
  (hc:w.cell? ⟨b,0,none⟩=some v):(results fn tmps).run P w = .ok v w:=by
 simp only[tR]at ha;have hc':w.cell? {block:=b,off:=0}=some v:=hc;simp[results,h,ha,asAddr,loadVar,hagg,hc']
def Om(op:Int):ac pg 311 [.int .i64 op] (.str (dw op)):=by
 refine ac.of (λw bl M cargs hH hM ha=>?_) rfl
 match cargs,ha with
 | [a],⟨h1,_⟩ =>
 obtain rfl:=h1.int;refine(callsIn_wide (n:=3)).1 ?_;refine callsIn_of_wp_marks Tryz.func311 rfl trivial ?_ rfl;have hs1:=(qA.ofAlloc w (.cells #[.int .i64 op] 52)).one (qA.ofAlloc _ (.cells #[.string ⟨#[]⟩] 9));have hH1:=(bO.T pg).stay _ _ hH λq hq=>hs1.keep q ((bO.T pg).low _ hH q hq) (λh=>h);have cn:=ac.run UU _ hH1 (cargs:=[]) trivial;simp only[Tryz.ntmps311,List.size_toArray,aT,aC,Nat.reduceAdd,Nat.reduceSub,Array.replicate_succ,Array.replicate_zero,List.push_toArray,List.append_toArray,fA,k7]
 gi_wp2
 refine⟨trivial,(callsIn_wide.2 cn).mono ?_⟩;rintro e W1 ⟨v,rfl,hv,hst⟩;obtain rfl:=abd hv;have hsW:=hs1.one hst;have hHW:=(bO.T pg).stay _ _ hH λq hq=>hsW.keep q ((bO.T pg).low _ hH q hq) (λh=>h);have hb0:W1.heap[w.heap.size]?=some (.cells #[.int .i64 op] 52):=by
  rw[hst.keep _ (by simp<;>omega) (λh=>h)];exact(Below.heap_alloc _ _ _ (by simp)).trans (World.alloc_heap_new _ _)
 have hb1:W1.heap[w.heap.size+1]?=some (.cells #[.string ⟨#[]⟩] 9):=by
  rw[hst.keep _ (by simp) (λh=>h)];have:=World.alloc_heap_new (w.alloc (.cells #[.int .i64 op] 52)) (.cells #[.string ⟨#[]⟩] 9);rwa[World.size_alloc]at this
 have hz:w.heap.size+2<=W1.heap.size:=by have:=hst.size;simpa using this
 clear cn hst hs1 hH1 hv
 gi_wp2
 refine Qv (α:=Int×List UInt8) (encs:=abb) (E:=EN) (by decide) hHW (gf:=351) (lb:=#[]) rfl (enters_of Tryz.func351 (by kernel_rfl) rfl) (ab2 _ W1) (qA.refl _ _) (λ_=>rfl)
  (λoA W=>qA No w W/\W.heap[w.heap.size]?=some (.cells #[.int .i64 op] 52)/\W.heap[w.heap.size+1]?=some (.cells #[.string ⟨#[]⟩] 9)/\∀p∈oA,(p.1==op)=false)
  (λc oA W=>c = .ret/\qA No w W/\W.heap[w.heap.size+1]?=some (.cells #[.string ⟨(dw op).toArray⟩] 9))
  (λs A B h hs=>⟨h.1.one hs,(hs.keep _ (bQ h.2.1) (λh=>h)).trans h.2.1,(hs.keep _ (bQ h.2.2.1) (λh=>h)).trans h.2.2.1,h.2.2.2⟩)
  (λc s A B h hs=>⟨h.1,h.2.1.one hs,(hs.keep _ (bQ h.2.2) (λh=>h)).trans h.2.2⟩)
  (λs W l o o' h hl hc ho=>⟨ss h.1 (by omega) hc ho,by rw[World.putObj_heap_other (by omega)];exact h.2.1,by rw[World.putObj_heap_other (by omega)];exact h.2.2.1,h.2.2.2⟩)
  (λc s W l o o' h hl hc ho=>⟨h.1,ss h.2.1 (by omega) hc ho,by rw[World.putObj_heap_other (by omega)];exact h.2.2⟩)
  ⟨hsW,hb0,hb1,λp hp=>absurd hp wH⟩
  (λx=>{tmps:=#[.int .i64 op,.pointer (some ⟨w.heap.size,0,none⟩),.pointer (some ⟨w.heap.size+1,0,none⟩),.int .i64 x.1,.string ⟨x.2.toArray⟩,.func (.func 351) #[] #[],.int .i64 x.1,.string ⟨x.2.toArray⟩,undef,undef,undef,undef],defers:=[]}) ?assign ?body ?done ?stop
 case assign =>
  intro l x W K hK;simp only[abb]
  gi_wp2
  exact hK
 case body =>
  rintro l oA x W ⟨hS,JB,hB1,hP⟩ hpre;have d0:W.cell? ⟨w.heap.size,0,none⟩=some (.int .i64 op):=fH JB _;have d1:W.cell? ⟨w.heap.size+1,0,none⟩=some (.string ⟨#[]⟩):=fH hB1 _;have f1:W.frozen? ⟨w.heap.size+1,0,none⟩=false:=by simp[World.frozen?,hB1]
  by_cases hx:x.1=op
  .have hn:dw op=x.2:=by
    unfold dw;rw[Sd hpre hP (by simpa using hx)]
   gi_wp2
   refine⟨KeepsOthers.setCell _ _ _,rfl,Bn hS (by simp),?_⟩;rw[hn];simp[World.setCell,B1,hB1]
  .gi_wp2
   refine⟨⟨bG _,λ_ _ h _=>h⟩,I_.refl _ _,hS,JB,hB1,λp hp=>?_⟩;rcases f9.1 hp with hp|hp
   .exact hP p hp
   .rw[kq.1 hp];simpa using hx
 case done =>
  rintro D W hD ⟨hS,JB,hB1,hP⟩ hK;have d1:W.cell? ⟨w.heap.size+1,0,none⟩=some (.string ⟨#[]⟩):=fH hB1 _;have f1:W.frozen? ⟨w.heap.size+1,0,none⟩=false:=by simp[World.frozen?,hB1]
  have hn:dw op=[]:=by
   unfold dw;rw[List.find?_eq_none.2 (λp hp=>by rw[hP p hp];decide)]
  gi_wp2
  have hD2:(W.setCell ⟨w.heap.size+1,0,none⟩ (.string ⟨#[]⟩)).heap[D]?=some (.deferred (some [])):=by
   simp only[World.setCell,B1,au (show ¬w.heap.size+1=D by omega)];exact hK
  have hB3:(W.setCell ⟨w.heap.size+1,0,none⟩ (.string ⟨#[]⟩)).heap[w.heap.size+1]?=some (.cells #[.string ⟨#[]⟩] 9):=by
   simp[World.setCell,B1,hB1]
  have hS2:=ss (Bn hS (a:=⟨w.heap.size+1,0,none⟩) (v:=.string ⟨#[]⟩) (by simp)) (by omega) hD2 rfl (o':=.deferred none);refine⟨by simp,.inl ⟨_,_,rfl,run_takeDeferred hD2,?_⟩⟩;have hB4:((W.setCell ⟨w.heap.size+1,0,none⟩ (.string ⟨#[]⟩)).putObj D (.deferred none)).heap[w.heap.size+1]?=some (.cells #[.string ⟨#[]⟩] 9):=by rw[World.putObj_heap_other (by omega)];exact hB3
  refine⟨_,xt rfl _ _ _ rfl (Tryz.isAgg9 _) (fH hB4 _),_,rfl,hS2,?_⟩;rw[hn];exact IRel.str _
 case stop =>
  rintro D c oA W hD hp ⟨rfl,hS,hB1⟩ hK
  gi_wp2
  have hS2:=ss hS (by omega) hK rfl (o':=.deferred none);refine⟨by simp,.inl ⟨_,_,rfl,run_takeDeferred hK,?_⟩⟩;have hB4:(W.putObj D (.deferred none)).heap[w.heap.size+1]?=some (.cells #[.string ⟨(dw op).toArray⟩] 9):=by rw[World.putObj_heap_other (by omega)];exact hB1
  exact⟨_,xt rfl _ _ _ rfl (Tryz.isAgg9 _) (fH hB4 _),_,rfl,hS2,IRel.str _⟩
def CQ{W:World}{b off:Nat}{c:Array Value}{t:TypeId}{fr:Nat×Nat}{v:Value}(h:W.heap[b]?=some (.cells c t fr)):(W.setCell ⟨b,off,none⟩ v).heap[b]?=some (.cells (c.setIfInBounds off v) t fr):=by
 simp[World.setCell,B1,h]
