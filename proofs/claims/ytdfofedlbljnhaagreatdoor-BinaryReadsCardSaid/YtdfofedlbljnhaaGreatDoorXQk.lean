import Derived.Test.YtdfofedlbljnhaaGreatDoorXQj
import Derived.Shelf.Abstract
import Derived.OwnWalkIn
import Derived.TacticsInMore
import Derived.LoopNIn
import Derived.LoopIn
set_option linter.all false
set_option maxRecDepth 100000
set_option maxHeartbeats 40000000
namespace Go.Proofs.YtdfofedlbljnhaaGreatDoor
section
open Go Go.Mw
def boF(P:be->Bool)(m:Md):Fa:=gr (λi x=>Qg P 12 i x.b) 0 m.fs (nY)
attribute[local go_sem] bZ b_ dC dg dA dc df fR eX fQ fv iG Kx K1
end
section
open Go Go.Mw
def elB(x:El):Int:=if x.mo<0\/x.mo>2\/(x.mo≠0/\(x.tb≠0\/x.o.length>0))then 1 else if tC x.tb=false then 11 else if Ep x.ty=false then 12 else if x.it.length>256 then 6 else 0
attribute[local go_sem] bZ b_ dC dg dA dc df fR eX fQ fv iG Kx K1
def elR(P:be->Bool)(i:Nat)(x:El):Fa:=gr (λ_ l=>Qg P 9 i l) 0 x.it (if elB x=0 then Qg P 9 i x.o else zF 9 i (elB x))
end
section
open Go Go.Mw
def elO(x:El):ao:=⟨112,5,[eF x],true⟩
def elF(P:be->Bool)(m:Md):Fa:=gr (elR P) 0 m.els (Db 9 m.els.length 16)
attribute[local go_sem] elO bZ b_ dC dg dA dc df fR eX fQ fv iG Kx K1
end
open Go Go.Mw
def lM(n i l e:Int):fS nY n i l e=if e=0 then nY else⟨n,i,l,e⟩:=by
 unfold fS;by_cases h:e=0
 .rw[au h,ak (λq=>q.2 h)]
 .rw[ak h,au ⟨rfl,h⟩]
def GL(n i l e:Int):(fS nY n i l e).c=0->fS nY n i l e=nY:=by
 rw[lM];split
 .exact λ_=>rfl
 .rename_i h;exact λq=>absurd q h
def ZK{α:Type}{n:Int}{f:α->Int×Int}{g:Nat->α->Fa}(hg:∀(i:Nat)(x:α),fS nY n i (f x).1 (f x).2=g i x):∀(l:List α)(i:Nat)(F:Fa),(F.c=0->F=nY)->Vw n i (l.map f) F=gr g i l F/\((gr g i l F).c=0->gr g i l F=nY)
 | [],i,F,h=>⟨rfl,h⟩
 | x::l,i,F,h=>by
  rw[eG,Vw,gr];by_cases hF:F.c=0
  .rw[ak (by simp[hF]),ak (by simp[hF]),h hF,hg];exact ZK hg l (i+1) _ (by rw[<-hg];exact GL _ _ _ _)
  .rw[au hF,au hF];exact⟨rfl,h⟩
def rL(E X:Fa):Fa:=if E.c≠0 then E else X
def OO(a b c:Fa):rL (rL a b) c=rL a (rL b c):=by
 unfold rL;by_cases h:a.c=0<;>simp[h]
def ql{a b:Fa}(ha:a.c=0->a=nY)(hb:b.c=0->b=nY):(rL a b).c=0->rL a b=nY:=by
 unfold rL;by_cases h:a.c=0
 .rw[ak (by simp[h])];exact hb
 .rw[au h];exact ha
def ko{α:Type}{n most imp:Int}{f:α->Int×Int}{g:Nat->α->Fa}(hg:∀(i:Nat)(x:α),fS nY n i (f x).1 (f x).2=g i x)(l:List α)(h1:0<=imp/\imp<=140737488355328)(h3:l.length<=140737488355328)(h4:0<=most/\most<=140737488355328)(E:Fa)(hE:E.c=0->E=nY) :
  fe n most imp (l.map f) E=rL E (gr g 0 l (Db n l.length (most-imp)))/\((gr g 0 l (Db n l.length (most-imp))).c=0->gr g 0 l (Db n l.length (most-imp))=nY):=by
 have z:=ZK hg l 0 (Db n l.length (most-imp)) ahW;refine⟨?_,z.2⟩;unfold fe;rw[bZ,wi (by omega) (by omega),wi (by omega) (by omega)];unfold rL;by_cases h:E.c=0
 .rw[ak (show ¬E.c≠0 by simp[h]),hE h,<-z.1];congr 1;unfold Db;by_cases q:(l.length:Int)+imp>most
  .rw[au q,au (show(l.length:Int)>most-imp by omega),lM,ak (by decide)];congr 1;by_cases w:0<most-imp
   .rw[au w,ak (by omega)]
   .rw[ak w];by_cases w2:most-imp<0
    .rw[au w2]
    .rw[ak w2];omega
  .rw[ak q,ak (show ¬(l.length:Int)>most-imp by omega)]
 .rw[au h,show(if(l.length:Int)+imp>most then fS E n (if 0<most-imp then most-imp else 0) 0 6 else E)=E by
   split
   .unfold fS;rw[ak (λq=>h q.1)]
   .rfl]
  exact R3 E h
def eP(n:Int)(i:Nat)(e:Int):fS nY n i 0 e=zF n i e:=by rw[lM];rfl
def su(P:be->Bool)(n:Int)(i:Nat)(l:List be):fS nY n i (gh P l).1 (gh P l).2=Qg P n i l:=by rw[lM];rfl
def WG(P:be->Bool)(i:Nat)(x:Gd):fS nY 6 i (WF P x).1 (WF P x).2=if qh x.g.v=false then zF 6 i 12 else Qg P 6 i x.i:=by
 unfold WF Vv;cases v:qh x.g.v
 .rw[au rfl,au (by decide),au rfl];exact eP 6 i 12
 .rw[ak (by decide),ak (by decide)];exact su P 6 i x.i
def Wp(P:be->Bool)(i:Nat)(x:Da):fS nY 10 i (Rp P x).1 (Rp P x).2=daR P i x:=by
 unfold Rp daR;split
 .exact eP 10 i 1
 split
 .exact eP 10 i 11
 split
 .exact eP 10 i 6
 .exact su P 10 i x.o
def vq(P:be->Bool)(i:Nat):∀(l:List (List be))(j:Nat)(F:Fa),(F.c=0->F=nY)->gr (λ_ r=>Qg P 9 i r) j l F=rL F (fS nY 9 i (tx P l).1 (tx P l).2)
 | [],j,F,h=>by
  rw[gr];unfold rL;by_cases q:F.c=0
  .rw[ak (by simp[q]),h q];rfl
  .rw[au q]
 | x::l,j,F,h=>by
  rw[gr];unfold rL;by_cases q:F.c=0
  .rw[ak (by simp[q]),ak (by simp[q]),vq P i l (j+1) _ (by rw[<-su];exact GL _ _ _ _)];rw[tx];unfold rL;rw[<-su,lM];by_cases w:(gh P x).2=0
   .rw[au w,ak (show ¬nY.c≠0 by decide),ak (by simp[w])]
   .rw[ak w,au (show(⟨9,(i:Int),(gh P x).1,(gh P x).2⟩:Fa).c≠0 from w),au w,lM,ak w]
  .rw[au q,au q]
def Wu(P:be->Bool)(i:Nat)(x:El):fS nY 9 i (Rv P x).1 (Rv P x).2=elR P i x:=by
 unfold Rv elR elB;split
 .rw[ak (by decide),vq P i _ _ _ Q_,eP];rfl
 split
 .rw[ak (by decide),vq P i _ _ _ Q_,eP];rfl
 split
 .rw[ak (by decide),vq P i _ _ _ Q_,eP];rfl
 split
 .rw[ak (by decide),vq P i _ _ _ Q_,eP];rfl
 .rw[au rfl,vq P i _ _ _ (by rw[<-su];exact GL _ _ _ _),tx];unfold rL;rw[<-su];by_cases w:(gh P x.o).2=0
  .rw[ak (show ¬(gh P x.o).2≠0 by simp[w]),lM 9 i (gh P x.o).1 (gh P x.o).2,au w,ak (show ¬nY.c≠0 by decide)]
  .rw[au w,au (show(fS nY 9 i (gh P x.o).1 (gh P x.o).2).c≠0 by rw[lM,ak w];exact w)]
def CS:List Fa->Fa
 | []=>nY
 | F::r=>if F.c≠0 then F else CS r
def WD(F:Fa)(r:List Fa):CS (F::r)=rL F (CS r):=rfl
def acS(P:be->Bool)(m:Md):Fa:=CS [tyF m,imF m,cdF m,tbF m,mmF m,gdF P m,exF m,stF m,elF P m,dsF P m,csF m,boF P m]
def SZ(P:be->Bool)(m:Md)(h:U4 m):vy P m=acS P m:=by
 have hc:∀k,(0:Int)<=(vw k m.ims:Nat)/\((vw k m.ims:Nat):Int)<=140737488355328:=λk=>⟨by omega,by have:=m8 (Rh k m.ims) h.ims;omega⟩
 have z0:(0:Int)<=0/\(0:Int)<=140737488355328:=by decide
 have ft0:nY.c=0->nY=nY:=λ_=>rfl;obtain⟨e1,t1⟩:=ko (n:=1) (most:=64) (imp:=0) (g:=λi x=>zF 1 i (MS x)) (f:=λx=>(0,MS x)) (λi x=>eP 1 i _) m.ts z0 h.ts.1 (by decide) nY ft0;have e1':Vy m=tyF m:=e1;have t1':(Vy m).c=0->Vy m=nY:=by rw[e1'];exact t1
 obtain⟨e2,t2⟩:=ko (n:=2) (most:=32) (imp:=0) (g:=λi x=>zF 2 i (M1 x)) (f:=λx=>(0,M1 x)) (λi x=>eP 2 i _) m.ims z0 h.ims (by decide) (Vy m) t1';have e2':Xu m=rL (Vy m) (imF m):=e2;have t2':=ql t1' t2;rw[show rL (Vy m) _=Xu m from e2.symm]at t2';obtain⟨e3,t3⟩:=ko (n:=3) (most:=64) (g:=λi x=>zF 3 i (P9 x)) (f:=λx=>(0,P9 x)) (λi x=>eP 3 i _) m.fs (hc 0) h.fs.1 (by decide) (Xu m) t2';have e3':Xv m=rL (Xu m) (cdF m):=e3;have t3':=ql t2' t3;rw[show rL (Xu m) _=Xv m from e3.symm]at t3';obtain⟨e4,t4⟩:=ko (n:=4) (most:=4) (g:=λi x=>zF 4 i (KA x)) (f:=λx=>(0,KA x)) (λi x=>eP 4 i _) m.tbs (hc 1) h.tbs (by decide) (Xv m) t3';have e4':Xw m=rL (Xv m) (tbF m):=e4;have t4':=ql t3' t4;rw[show rL (Xv m) _=Xw m from e4.symm]at t4';obtain⟨e5,t5⟩:=ko (n:=5) (most:=2) (g:=λi x=>zF 5 i (Nc x)) (f:=λx=>(0,Nc x)) (λi x=>eP 5 i _) m.ms (hc 2) h.ms (by decide) (Xw m) t4';have e5':Xx m=rL (Xw m) (mmF m):=e5;have t5':=ql t4' t5;rw[show rL (Xw m) _=Xx m from e5.symm]at t5';obtain⟨e6,t6⟩:=ko (n:=6) (most:=32) (g:=λi x=>if qh x.g.v=false then zF 6 i 12 else Qg P 6 i x.i) (f:=WF P) (WG P) m.gs (hc 3) h.gs.1 (by decide) (Xx m) t5';have e6':Xy P m=rL (Xx m) (gdF P m):=e6;have t6':=ql t5' t6;rw[show rL (Xx m) _=Xy P m from e6.symm]at t6';obtain⟨e7,t7⟩:=ko (n:=7) (most:=64) (imp:=0) (g:=λi x=>zF 7 i (MN x)) (f:=λx=>(0,MN x)) (λi x=>eP 7 i _) m.exs z0 h.exs (by decide) (Xy P m) t6';have e7':Qa P m=rL (Xy P m) (exF m):=e7;have t7':=ql t6' t7;rw[show rL (Xy P m) _=Qa P m from e7.symm]at t7';have e8':Ky P m=rL (Qa P m) (stF m):=by
  unfold Ky stF rL;by_cases q:(Qa P m).c=0
  .rw[ak (show ¬(Qa P m).c≠0 by simp[q])];split
   .rw[t7' q];exact eP 8 0 11
   .exact t7' q
  .rw[au q];split
   .unfold fS;rw[ak (λw=>q w.1)]
   .rfl
 have t8':(Ky P m).c=0->Ky P m=nY:=by
  rw[e8'];refine ql t7' ?_;unfold stF;split
  .exact Q_
  .exact ft0
 obtain⟨e9,t9⟩:=ko (n:=9) (most:=16) (imp:=0) (g:=elR P) (f:=Rv P) (Wu P) m.els z0 h.els.1 (by decide) (Ky P m) t8';have e9':Xz P m=rL (Ky P m) (elF P m):=e9;have t9':=ql t8' t9;rw[show rL (Ky P m) _=Xz P m from e9.symm]at t9';obtain⟨e10,t10⟩:=ko (n:=10) (most:=16) (imp:=0) (g:=daR P) (f:=Rp P) (Wp P) m.ds z0 h.ds.1 (by decide) (Xz P m) t9';have e10':GZ P m=rL (Xz P m) (dsF P m):=e10;have t10':=ql t9' t10;rw[show rL (Xz P m) _=GZ P m from e10.symm]at t10';obtain⟨e11,t11⟩:=ko (n:=11) (most:=8) (imp:=0) (g:=λi x=>zF 11 i (P_ x)) (f:=λx=>(0,P_ x)) (λi x=>eP 11 i _) m.cs z0 h.cs.1 (by decide) (GZ P m) t10';have e11':xr P m=rL (GZ P m) (csF m):=e11;have t11':=ql t10' t11;rw[show rL (GZ P m) _=xr P m from e11.symm]at t11';have hfl:=h.fs.1;obtain⟨e12,t12⟩:=ko (n:=12) (most:=(m.fs.length:Int)) (imp:=0) (g:=λi x=>Qg P 12 i x.b) (f:=λx=>gh P x.b) (λi x=>su P 12 i x.b) m.fs z0 h.fs.1 (by omega) (xr P m) t11';rw[show Db 12 m.fs.length ((m.fs.length:Int)-0)=nY by unfold Db;rw[ak (by omega)]]at e12 t12;have e12':vy P m=rL (xr P m) (boF P m):=by
  unfold vy;by_cases q:(xr P m).c=0
  .rw[au q];exact e12
  .rw[ak q];unfold rL;rw[au q]
 have t12':rL (boF P m) nY=boF P m:=by
  unfold rL;by_cases q:(boF P m).c=0
  .rw[ak (by simp[q])];exact(t12 q).symm
  .rw[au q]
 rw[e12',e11',e10',e9',e8',e7',e6',e5',e4',e3',e2',e1'];unfold acS;simp only[WD,OO];rw[show CS []=nY from rfl,t12']
def ZI:∀l:List Fa,CS l=nY↔∀F∈l,F.c=0
 | []=>by simp[CS]
 | F::r=>by
  rw[CS,List.forall_mem_cons,<-ZI r];by_cases h:F.c=0
  .rw[ak (by simp[h])];exact⟨λq=>⟨h,q⟩,λq=>q.2⟩
  .rw[au h];exact⟨λq=>absurd (by rw[q];rfl) h,λq=>absurd q.1 h⟩
def ae1{α:Type}[Inhabited α]{g:Nat->α->Fa}:∀(l:List α)(i:Nat)(F:Fa),(gr g i l F).c=0↔F.c=0/\∀k,k<l.length->(g (i+k) (ac l k)).c=0
 | [],i,F=>by simp[gr]
 | x::l,i,F=>by
  rw[gr];by_cases h:F.c=0
  .rw[ak (by simp[h]),ae1 l (i+1) (g i x)];constructor
   .rintro⟨h1,h2⟩;refine⟨h,λk hk=>?_⟩;cases k with
    | zero=>exact h1
    | succ k=>have:=h2 k (by simpa using hk);rw[show i+(k+1)=i+1+k by omega];exact this
   .rintro⟨_,h2⟩;exact⟨h2 0 (by simp),λk hk=>by have:=h2 (k+1) (by simpa using hk);rw[show i+(k+1)=i+1+k by omega]at this;exact this⟩
  .rw[au h];exact⟨λq=>absurd q h,λq=>absurd q.1 h⟩
def XT{α:Type}[Inhabited α]{Q:α->Prop}{l:List α}:(∀k,k<l.length->Q (ac l k))↔∀x∈l,Q x:=by
 constructor
 .intro h x hx;obtain⟨k,hk,rfl⟩:=List.getElem_of_mem hx;rw[<-bv hk];exact h k hk
 .intro h k hk;rw[bv hk];exact h _ (tL hk)
def ahX{p n most:Int}:(Db p n most).c=0↔n<=most:=by
 unfold Db;by_cases h:n>most
 .rw[au h];exact⟨(λq=>by cases q),λq=>by omega⟩
 .rw[ak h];exact⟨λ_=>by omega,λ_=>rfl⟩
def zK{p i e:Int}:(zF p i e).c=0↔e=0:=by
 unfold zF;by_cases h:e=0
 .rw[au h];exact⟨λ_=>h,λ_=>rfl⟩
 .rw[ak h]
def J9{P:be->Bool}{p i:Int}{l:List be}:(Qg P p i l).c=0↔(gh P l).2=0:=by
 unfold Qg;by_cases h:(gh P l).2=0
 .rw[au h];exact⟨λ_=>h,λ_=>rfl⟩
 .rw[ak h]
def J5{P:be->Bool}:∀(l:List be)(i:Nat),(E8 P i l).2=0↔∀x∈l,P x=true/\x.lb.length<=64
 | [],i=>by simp[E8]
 | y::l,i=>by
  rw[E8,List.forall_mem_cons];by_cases q:P y=false
  .rw[au q];simp[q]
  rw[ak q];by_cases q2:y.lb.length>64
  .rw[au q2];exact⟨(λh=>by cases h),λh=>absurd h.1.2 (by omega)⟩
  rw[ak q2,J5 l (i+1)];exact⟨λh=>⟨⟨by simpa using q,by omega⟩,h⟩,λh=>h.2⟩
def Qd(P:be->Bool)(l:List be):Prop:=l.length<=2048/\∀x∈l,P x=true/\x.lb.length<=64
def yS{P:be->Bool}{l:List be}:(gh P l).2=0↔Qd P l:=by
 unfold gh Qd;by_cases h:l.length>2048
 .rw[au h];exact⟨(λq=>by cases q),λq=>by omega⟩
 .rw[ak h,J5];exact⟨λq=>⟨by omega,q⟩,λq=>q.2⟩
def Po(P:be->Bool)(x:El):Prop:=elB x=0/\Qd P x.o/\∀l∈x.it,Qd P l
def Lv(P:be->Bool)(x:Da):Prop:=¬(x.mo≠0/\(x.mo≠1\/x.me≠0\/x.o.length>0))/\tC x.me=true/\x.b.length<=4096/\Qd P x.o
structure okM(P:be->Bool)(m:Md):Prop where
 ts:m.ts.length<=64/\∀x∈m.ts,MS x=0
 ims:m.ims.length<=32/\∀x∈m.ims,M1 x=0
 fs:(m.fs.length:Int)<=64-(vw 0 m.ims:Nat)/\∀x∈m.fs,P9 x=0
 tbs:(m.tbs.length:Int)<=4-(vw 1 m.ims:Nat)/\∀x∈m.tbs,KA x=0
 ms:(m.ms.length:Int)<=2-(vw 2 m.ims:Nat)/\∀x∈m.ms,Nc x=0
 gs:(m.gs.length:Int)<=32-(vw 3 m.ims:Nat)/\∀x∈m.gs,qh x.g.v=true/\Qd P x.i
 exs:m.exs.length<=64/\∀x∈m.exs,MN x=0
 st:m.hs=true->tC m.st=true
 els:m.els.length<=16/\∀x∈m.els,Po P x
 ds:m.ds.length<=16/\∀x∈m.ds,Lv P x
 cs:m.cs.length<=8/\∀x∈m.cs,P_ x=0
 bo:∀x∈m.fs,Qd P x.b
def abh{α:Type}[Inhabited α]{g:Nat->α->Fa}{Q:α->Prop}(hq:∀i x,(g i x).c=0↔Q x){l:List α}{i:Nat}{F:Fa}:(gr g i l F).c=0↔F.c=0/\∀x∈l,Q x:=by
 rw[ae1,<-XT (Q:=Q)];simp only[hq]
def Vx{α:Type}[Inhabited α]{g:Nat->α->Fa}{Q:α->Prop}(hq:∀i x,(g i x).c=0↔Q x){l:List α}{p n most:Int}:(gr g 0 l (Db p n most)).c=0↔n<=most/\∀x∈l,Q x:=by
 rw[abh hq,ahX]
def aeL{P:be->Bool}(i:Nat)(x:El):(elR P i x).c=0↔Po P x:=by
 unfold elR Po;rw[abh (Q:=Qd P) (λ_ l=>by rw[J9,yS])];by_cases h:elB x=0
 .rw[au h,J9,yS];exact⟨λq=>⟨h,q⟩,λq=>q.2⟩
 .rw[ak h,zK];exact⟨λq=>absurd q.1 h,λq=>absurd q.1 h⟩
def aeE{P:be->Bool}(i:Nat)(x:Da):(daR P i x).c=0↔Lv P x:=by
 unfold daR Lv;by_cases h1:x.mo≠0/\(x.mo≠1\/x.me≠0\/x.o.length>0)
 .rw[au h1,zK];exact⟨(λq=>by cases q),λq=>absurd h1 q.1⟩
 rw[ak h1];by_cases h2:tC x.me=false
 .rw[au h2,zK];exact⟨(λq=>by cases q),(λq=>by rw[q.2.1]at h2;cases h2)⟩
 rw[ak h2];by_cases h3:x.b.length>4096
 .rw[au h3,zK];exact⟨(λq=>by cases q),λq=>by omega⟩
 rw[ak h3,J9,yS];exact⟨λq=>⟨h1,by simpa using h2,by omega,q⟩,λq=>q.2.2.2⟩
def abJ{P:be->Bool}{m:Md}(hm:U4 m):vy P m=nY↔okM P m:=by
 rw[SZ P m hm];unfold acS;rw[ZI];simp only[List.forall_mem_cons];have e1:(tyF m).c=0↔_:=Vx (Q:=λx=>MS x=0) (λ_ _=>zK);have e2:(imF m).c=0↔_:=Vx (Q:=λx=>M1 x=0) (λ_ _=>zK);have e3:(cdF m).c=0↔_:=Vx (Q:=λx=>P9 x=0) (λ_ _=>zK);have e4:(tbF m).c=0↔_:=Vx (Q:=λx=>KA x=0) (λ_ _=>zK);have e5:(mmF m).c=0↔_:=Vx (Q:=λx=>Nc x=0) (λ_ _=>zK)
 have e6:(gdF P m).c=0↔_:=Vx (Q:=λx:Gd=>qh x.g.v=true/\Qd P x.i) (λi x=>by
  by_cases h:qh x.g.v=false
  .rw[au h,zK];exact⟨(λq=>by cases q),λq=>by rw[h]at q;cases q.1⟩
  .rw[ak h,J9,yS];exact⟨λq=>⟨by simpa using h,q⟩,λq=>q.2⟩)
 have e7:(exF m).c=0↔_:=Vx (Q:=λx=>MN x=0) (λ_ _=>zK);have e8:(stF m).c=0↔(m.hs=true->tC m.st=true):=by
  unfold stF;by_cases h:m.hs=true/\tC m.st=false
  .rw[au h,zK];exact⟨(λq=>by cases q),λq=>by rw[q h.1]at h;cases h.2⟩
  .rw[ak h];exact⟨λ_ g=>by simpa[g]using h,λ_=>rfl⟩
 have e9:(elF P m).c=0↔_:=Vx (Q:=Po P) aeL;have e10:(dsF P m).c=0↔_:=Vx (Q:=Lv P) aeE;have e11:(csF m).c=0↔_:=Vx (Q:=λx=>P_ x=0) (λ_ _=>zK);have e12:(boF P m).c=0↔_:=abh (Q:=λx:Cd=>Qd P x.b) (λ_ x=>by rw[J9,yS]);rw[e1,e2,e3,e4,e5,e6,e7,e8,e9,e10,e11,e12];constructor
 .rintro⟨h1,h2,h3,h4,h5,h6,h7,h8,h9,h10,h11,h12,_⟩;exact⟨⟨by omega,h1.2⟩,⟨by omega,h2.2⟩,h3,h4,h5,h6,⟨by omega,h7.2⟩,h8,⟨by omega,h9.2⟩,⟨by omega,h10.2⟩,⟨by omega,h11.2⟩,h12.2⟩
 .intro h;exact⟨⟨by have:=h.ts.1;omega,h.ts.2⟩,⟨by have:=h.ims.1;omega,h.ims.2⟩,h.fs,h.tbs,h.ms,h.gs,⟨by have:=h.exs.1;omega,h.exs.2⟩,h.st,⟨by have:=h.els.1;omega,h.els.2⟩,⟨by have:=h.ds.1;omega,h.ds.2⟩,⟨by have:=h.cs.1;omega,h.cs.2⟩,⟨rfl,h.bo⟩,λ_ h=>by cases h⟩
structure Hr where
 f:Int
 h:Af
 t:Af
structure Oc where
 op:Int
 nm:Af
 im:Int
def hr_(r:Hr):List AV:=[.int .i64 r.f,.str r.h,.str r.t]
def EZ(r:Oc):List AV:=[.int .i64 r.op,.str r.nm,.int .i64 r.im]
def afw(r:Oc):EZ r=[.int .i64 r.op,.str r.nm,.int .i64 r.im]:=rfl
instance:Inhabited Hr:=⟨⟨0,[],[]⟩⟩
instance:Inhabited Oc:=⟨⟨0,[],0⟩⟩
def HR:List Hr:=[⟨0,[],[117,110,114,101,97,99,104,97,98,108,101,32,110,111,112,32,98,108,111,99,107,32,108,111,111,112,32,105,102,32,101,108,115,101]⟩,
 ⟨11,[],[101,110,100,32,98,114,32,98,114,95,105,102,32,98,114,95,116,97,98,108,101,32,114,101,116,117,114,110,32,99,97,108,108,32,99,97,108,108,95,105,110,100,105,114,101,99,116]⟩,
 ⟨26,[],[100,114,111,112,32,115,101,108,101,99,116,32,115,101,108,101,99,116]⟩,
 ⟨32,[108,111,99,97,108,46],[103,101,116,32,115,101,116,32,116,101,101]⟩,
 ⟨35,[103,108,111,98,97,108,46],[103,101,116,32,115,101,116]⟩,
 ⟨37,[116,97,98,108,101,46],[103,101,116,32,115,101,116]⟩,
 ⟨40,[],[105,51,50,46,108,111,97,100,32,105,54,52,46,108,111,97,100]⟩,
 ⟨44,[105,51,50,46],[108,111,97,100,56,95,115,32,108,111,97,100,56,95,117,32,108,111,97,100,49,54,95,115,32,108,111,97,100,49,54,95,117]⟩,
 ⟨48,[105,54,52,46],[108,111,97,100,56,95,115,32,108,111,97,100,56,95,117,32,108,111,97,100,49,54,95,115,32,108,111,97,100,49,54,95,117,32,108,111,97,100,51,50,95,115,32,108,111,97,100,51,50,95,117]⟩,
 ⟨54,[],[105,51,50,46,115,116,111,114,101,32,105,54,52,46,115,116,111,114,101]⟩,
 ⟨58,[105,51,50,46],[115,116,111,114,101,56,32,115,116,111,114,101,49,54]⟩,
 ⟨60,[105,54,52,46],[115,116,111,114,101,56,32,115,116,111,114,101,49,54,32,115,116,111,114,101,51,50]⟩,
 ⟨63,[109,101,109,111,114,121,46],[115,105,122,101,32,103,114,111,119]⟩,
 ⟨65,[],[105,51,50,46,99,111,110,115,116,32,105,54,52,46,99,111,110,115,116]⟩,
 ⟨69,[105,51,50,46],[101,113,122,32,101,113,32,110,101,32,108,116,95,115,32,108,116,95,117,32,103,116,95,115,32,103,116,95,117,32,108,101,95,115,32,108,101,95,117,32,103,101,95,115,32,103,101,95,117]⟩,
 ⟨80,[105,54,52,46],[101,113,122,32,101,113,32,110,101,32,108,116,95,115,32,108,116,95,117,32,103,116,95,115,32,103,116,95,117,32,108,101,95,115,32,108,101,95,117,32,103,101,95,115,32,103,101,95,117]⟩,
 ⟨103,[105,51,50,46],[99,108,122,32,99,116,122,32,112,111,112,99,110,116,32,97,100,100,32,115,117,98,32,109,117,108,32,100,105,118,95,115,32,100,105,118,95,117,32,114,101,109,95,115,32,114,101,109,95,117,32,97,110,100,32,111,114,32,120,111,114,32,115,104,108,32,115,104,114,95,115,32,115,104,114,95,117,32,114,111,116,108,32,114,111,116,114]⟩,
 ⟨121,[105,54,52,46],[99,108,122,32,99,116,122,32,112,111,112,99,110,116,32,97,100,100,32,115,117,98,32,109,117,108,32,100,105,118,95,115,32,100,105,118,95,117,32,114,101,109,95,115,32,114,101,109,95,117,32,97,110,100,32,111,114,32,120,111,114,32,115,104,108,32,115,104,114,95,115,32,115,104,114,95,117,32,114,111,116,108,32,114,111,116,114]⟩,
 ⟨167,[],[105,51,50,46,119,114,97,112,95,105,54,52]⟩,
 ⟨172,[105,54,52,46],[101,120,116,101,110,100,95,105,51,50,95,115,32,101,120,116,101,110,100,95,105,51,50,95,117]⟩,
 ⟨192,[105,51,50,46],[101,120,116,101,110,100,56,95,115,32,101,120,116,101,110,100,49,54,95,115]⟩,
 ⟨194,[105,54,52,46],[101,120,116,101,110,100,56,95,115,32,101,120,116,101,110,100,49,54,95,115,32,101,120,116,101,110,100,51,50,95,115]⟩,
 ⟨208,[114,101,102,46],[110,117,108,108,32,105,115,95,110,117,108,108,32,102,117,110,99]⟩,
 ⟨64520,[],[109,101,109,111,114,121,46,105,110,105,116,32,100,97,116,97,46,100,114,111,112,32,109,101,109,111,114,121,46,99,111,112,121,32,109,101,109,111,114,121,46,102,105,108,108,32,116,97,98,108,101,46,105,110,105,116,32,101,108,101,109,46,100,114,111,112,32,116,97,98,108,101,46,99,111,112,121,32,116,97,98,108,101,46,103,114,111,119,32,116,97,98,108,101,46,115,105,122,101,32,116,97,98,108,101,46,102,105,108,108]⟩]
def KS:List (Af):=[[101,113,122],
 [101,113],
 [110,101],
 [108,116,95,115],
 [108,116,95,117],
 [103,116,95,115],
 [103,116,95,117],
 [108,101,95,115],
 [108,101,95,117],
 [103,101,95,115],
 [103,101,95,117]]
def Mj:List (Af):=[[99,108,122],
 [99,116,122],
 [112,111,112,99,110,116],
 [97,100,100],
 [115,117,98],
 [109,117,108],
 [100,105,118,95,115],
 [100,105,118,95,117],
 [114,101,109,95,115],
 [114,101,109,95,117],
 [97,110,100],
 [111,114],
 [120,111,114],
 [115,104,108],
 [115,104,114,95,115],
 [115,104,114,95,117],
 [114,111,116,108],
 [114,111,116,114]]
def Bz:List Oc:=[⟨0,[117,110,114,101,97,99,104,97,98,108,101],0⟩,
 ⟨1,[110,111,112],0⟩,
 ⟨2,[98,108,111,99,107],1⟩,
 ⟨3,[108,111,111,112],1⟩,
 ⟨4,[105,102],1⟩,
 ⟨5,[101,108,115,101],0⟩,
 ⟨11,[101,110,100],0⟩,
 ⟨12,[98,114],2⟩,
 ⟨13,[98,114,95,105,102],2⟩,
 ⟨14,[98,114,95,116,97,98,108,101],3⟩,
 ⟨15,[114,101,116,117,114,110],0⟩,
 ⟨16,[99,97,108,108],4⟩,
 ⟨17,[99,97,108,108,95,105,110,100,105,114,101,99,116],5⟩,
 ⟨26,[100,114,111,112],0⟩,
 ⟨27,[115,101,108,101,99,116],0⟩,
 ⟨28,[115,101,108,101,99,116],6⟩,
 ⟨32,[108,111,99,97,108,46,103,101,116],7⟩,
 ⟨33,[108,111,99,97,108,46,115,101,116],7⟩,
 ⟨34,[108,111,99,97,108,46,116,101,101],7⟩,
 ⟨35,[103,108,111,98,97,108,46,103,101,116],8⟩,
 ⟨36,[103,108,111,98,97,108,46,115,101,116],8⟩,
 ⟨37,[116,97,98,108,101,46,103,101,116],9⟩,
 ⟨38,[116,97,98,108,101,46,115,101,116],9⟩]
def CA:List Oc:=[⟨40,[105,51,50,46,108,111,97,100],17⟩,
 ⟨41,[105,54,52,46,108,111,97,100],17⟩,
 ⟨44,[105,51,50,46,108,111,97,100,56,95,115],17⟩,
 ⟨45,[105,51,50,46,108,111,97,100,56,95,117],17⟩,
 ⟨46,[105,51,50,46,108,111,97,100,49,54,95,115],17⟩,
 ⟨47,[105,51,50,46,108,111,97,100,49,54,95,117],17⟩,
 ⟨48,[105,54,52,46,108,111,97,100,56,95,115],17⟩,
 ⟨49,[105,54,52,46,108,111,97,100,56,95,117],17⟩,
 ⟨50,[105,54,52,46,108,111,97,100,49,54,95,115],17⟩,
 ⟨51,[105,54,52,46,108,111,97,100,49,54,95,117],17⟩,
 ⟨52,[105,54,52,46,108,111,97,100,51,50,95,115],17⟩,
 ⟨53,[105,54,52,46,108,111,97,100,51,50,95,117],17⟩,
 ⟨54,[105,51,50,46,115,116,111,114,101],17⟩,
 ⟨55,[105,54,52,46,115,116,111,114,101],17⟩,
 ⟨58,[105,51,50,46,115,116,111,114,101,56],17⟩,
 ⟨59,[105,51,50,46,115,116,111,114,101,49,54],17⟩,
 ⟨60,[105,54,52,46,115,116,111,114,101,56],17⟩,
 ⟨61,[105,54,52,46,115,116,111,114,101,49,54],17⟩,
 ⟨62,[105,54,52,46,115,116,111,114,101,51,50],17⟩,
 ⟨63,[109,101,109,111,114,121,46,115,105,122,101],13⟩,
 ⟨64,[109,101,109,111,114,121,46,103,114,111,119],13⟩,
 ⟨65,[105,51,50,46,99,111,110,115,116],18⟩,
 ⟨66,[105,54,52,46,99,111,110,115,116],19⟩]
def aa4:List Oc:=[⟨208,[114,101,102,46,110,117,108,108],20⟩,
 ⟨209,[114,101,102,46,105,115,95,110,117,108,108],0⟩,
 ⟨210,[114,101,102,46,102,117,110,99],4⟩,
 ⟨64520,[109,101,109,111,114,121,46,105,110,105,116],15⟩,
 ⟨64521,[100,97,116,97,46,100,114,111,112],16⟩,
 ⟨64522,[109,101,109,111,114,121,46,99,111,112,121],14⟩,
 ⟨64523,[109,101,109,111,114,121,46,102,105,108,108],13⟩,
 ⟨64524,[116,97,98,108,101,46,105,110,105,116],11⟩,
 ⟨64525,[101,108,101,109,46,100,114,111,112],12⟩,
 ⟨64526,[116,97,98,108,101,46,99,111,112,121],10⟩,
 ⟨64527,[116,97,98,108,101,46,103,114,111,119],9⟩,
 ⟨64528,[116,97,98,108,101,46,115,105,122,101],9⟩,
 ⟨64529,[116,97,98,108,101,46,102,105,108,108],9⟩]
def num(f:Int)(t:Af):Nat->List (Af)->List Oc
 | _,[]=>[]
 | k,s::r=>⟨f+(k:Int),t++[46]++s,0⟩::num f t (k+1) r
def OC:List Oc:=[⟨0,[117,110,114,101,97,99,104,97,98,108,101],0⟩,
 ⟨1,[110,111,112],0⟩,
 ⟨2,[98,108,111,99,107],1⟩,
 ⟨3,[108,111,111,112],1⟩,
 ⟨4,[105,102],1⟩,
 ⟨5,[101,108,115,101],0⟩,
 ⟨11,[101,110,100],0⟩,
 ⟨12,[98,114],2⟩,
 ⟨13,[98,114,95,105,102],2⟩,
 ⟨14,[98,114,95,116,97,98,108,101],3⟩,
 ⟨15,[114,101,116,117,114,110],0⟩,
 ⟨16,[99,97,108,108],4⟩,
 ⟨17,[99,97,108,108,95,105,110,100,105,114,101,99,116],5⟩,
 ⟨26,[100,114,111,112],0⟩,
 ⟨27,[115,101,108,101,99,116],0⟩,
 ⟨28,[115,101,108,101,99,116],6⟩,
 ⟨32,[108,111,99,97,108,46,103,101,116],7⟩,
 ⟨33,[108,111,99,97,108,46,115,101,116],7⟩,
 ⟨34,[108,111,99,97,108,46,116,101,101],7⟩,
 ⟨35,[103,108,111,98,97,108,46,103,101,116],8⟩,
 ⟨36,[103,108,111,98,97,108,46,115,101,116],8⟩,
 ⟨37,[116,97,98,108,101,46,103,101,116],9⟩,
 ⟨38,[116,97,98,108,101,46,115,101,116],9⟩,
 ⟨40,[105,51,50,46,108,111,97,100],17⟩,
 ⟨41,[105,54,52,46,108,111,97,100],17⟩,
 ⟨44,[105,51,50,46,108,111,97,100,56,95,115],17⟩,
 ⟨45,[105,51,50,46,108,111,97,100,56,95,117],17⟩,
 ⟨46,[105,51,50,46,108,111,97,100,49,54,95,115],17⟩,
 ⟨47,[105,51,50,46,108,111,97,100,49,54,95,117],17⟩,
 ⟨48,[105,54,52,46,108,111,97,100,56,95,115],17⟩,
 ⟨49,[105,54,52,46,108,111,97,100,56,95,117],17⟩,
 ⟨50,[105,54,52,46,108,111,97,100,49,54,95,115],17⟩,
 ⟨51,[105,54,52,46,108,111,97,100,49,54,95,117],17⟩,
 ⟨52,[105,54,52,46,108,111,97,100,51,50,95,115],17⟩,
 ⟨53,[105,54,52,46,108,111,97,100,51,50,95,117],17⟩,
 ⟨54,[105,51,50,46,115,116,111,114,101],17⟩,
 ⟨55,[105,54,52,46,115,116,111,114,101],17⟩,
 ⟨58,[105,51,50,46,115,116,111,114,101,56],17⟩,
 ⟨59,[105,51,50,46,115,116,111,114,101,49,54],17⟩,
 ⟨60,[105,54,52,46,115,116,111,114,101,56],17⟩,
 ⟨61,[105,54,52,46,115,116,111,114,101,49,54],17⟩,
 ⟨62,[105,54,52,46,115,116,111,114,101,51,50],17⟩,
 ⟨63,[109,101,109,111,114,121,46,115,105,122,101],13⟩,
 ⟨64,[109,101,109,111,114,121,46,103,114,111,119],13⟩,
 ⟨65,[105,51,50,46,99,111,110,115,116],18⟩,
 ⟨66,[105,54,52,46,99,111,110,115,116],19⟩,
 ⟨69,[105,51,50,46,101,113,122],0⟩,
 ⟨70,[105,51,50,46,101,113],0⟩,
 ⟨71,[105,51,50,46,110,101],0⟩,
 ⟨72,[105,51,50,46,108,116,95,115],0⟩,
 ⟨73,[105,51,50,46,108,116,95,117],0⟩,
 ⟨74,[105,51,50,46,103,116,95,115],0⟩,
 ⟨75,[105,51,50,46,103,116,95,117],0⟩,
 ⟨76,[105,51,50,46,108,101,95,115],0⟩,
 ⟨77,[105,51,50,46,108,101,95,117],0⟩,
 ⟨78,[105,51,50,46,103,101,95,115],0⟩,
 ⟨79,[105,51,50,46,103,101,95,117],0⟩,
 ⟨80,[105,54,52,46,101,113,122],0⟩,
 ⟨81,[105,54,52,46,101,113],0⟩,
 ⟨82,[105,54,52,46,110,101],0⟩,
 ⟨83,[105,54,52,46,108,116,95,115],0⟩,
 ⟨84,[105,54,52,46,108,116,95,117],0⟩,
 ⟨85,[105,54,52,46,103,116,95,115],0⟩,
 ⟨86,[105,54,52,46,103,116,95,117],0⟩,
 ⟨87,[105,54,52,46,108,101,95,115],0⟩,
 ⟨88,[105,54,52,46,108,101,95,117],0⟩,
 ⟨89,[105,54,52,46,103,101,95,115],0⟩,
 ⟨90,[105,54,52,46,103,101,95,117],0⟩,
 ⟨103,[105,51,50,46,99,108,122],0⟩,
 ⟨104,[105,51,50,46,99,116,122],0⟩,
 ⟨105,[105,51,50,46,112,111,112,99,110,116],0⟩,
 ⟨106,[105,51,50,46,97,100,100],0⟩,
 ⟨107,[105,51,50,46,115,117,98],0⟩,
 ⟨108,[105,51,50,46,109,117,108],0⟩,
 ⟨109,[105,51,50,46,100,105,118,95,115],0⟩,
 ⟨110,[105,51,50,46,100,105,118,95,117],0⟩,
 ⟨111,[105,51,50,46,114,101,109,95,115],0⟩,
 ⟨112,[105,51,50,46,114,101,109,95,117],0⟩,
 ⟨113,[105,51,50,46,97,110,100],0⟩,
 ⟨114,[105,51,50,46,111,114],0⟩,
 ⟨115,[105,51,50,46,120,111,114],0⟩,
 ⟨116,[105,51,50,46,115,104,108],0⟩,
 ⟨117,[105,51,50,46,115,104,114,95,115],0⟩,
 ⟨118,[105,51,50,46,115,104,114,95,117],0⟩,
 ⟨119,[105,51,50,46,114,111,116,108],0⟩,
 ⟨120,[105,51,50,46,114,111,116,114],0⟩,
 ⟨121,[105,54,52,46,99,108,122],0⟩,
 ⟨122,[105,54,52,46,99,116,122],0⟩,
 ⟨123,[105,54,52,46,112,111,112,99,110,116],0⟩,
 ⟨124,[105,54,52,46,97,100,100],0⟩,
 ⟨125,[105,54,52,46,115,117,98],0⟩,
 ⟨126,[105,54,52,46,109,117,108],0⟩,
 ⟨127,[105,54,52,46,100,105,118,95,115],0⟩,
 ⟨128,[105,54,52,46,100,105,118,95,117],0⟩,
 ⟨129,[105,54,52,46,114,101,109,95,115],0⟩,
 ⟨130,[105,54,52,46,114,101,109,95,117],0⟩,
 ⟨131,[105,54,52,46,97,110,100],0⟩,
 ⟨132,[105,54,52,46,111,114],0⟩,
 ⟨133,[105,54,52,46,120,111,114],0⟩,
 ⟨134,[105,54,52,46,115,104,108],0⟩,
 ⟨135,[105,54,52,46,115,104,114,95,115],0⟩,
 ⟨136,[105,54,52,46,115,104,114,95,117],0⟩,
 ⟨137,[105,54,52,46,114,111,116,108],0⟩,
 ⟨138,[105,54,52,46,114,111,116,114],0⟩,
 ⟨167,[105,51,50,46,119,114,97,112,95,105,54,52],0⟩,
 ⟨172,[105,54,52,46,101,120,116,101,110,100,95,105,51,50,95,115],0⟩,
 ⟨173,[105,54,52,46,101,120,116,101,110,100,95,105,51,50,95,117],0⟩,
 ⟨192,[105,51,50,46,101,120,116,101,110,100,56,95,115],0⟩,
 ⟨193,[105,51,50,46,101,120,116,101,110,100,49,54,95,115],0⟩,
 ⟨194,[105,54,52,46,101,120,116,101,110,100,56,95,115],0⟩,
 ⟨195,[105,54,52,46,101,120,116,101,110,100,49,54,95,115],0⟩,
 ⟨196,[105,54,52,46,101,120,116,101,110,100,51,50,95,115],0⟩,
 ⟨208,[114,101,102,46,110,117,108,108],20⟩,
 ⟨209,[114,101,102,46,105,115,95,110,117,108,108],0⟩,
 ⟨210,[114,101,102,46,102,117,110,99],4⟩,
 ⟨64520,[109,101,109,111,114,121,46,105,110,105,116],15⟩,
 ⟨64521,[100,97,116,97,46,100,114,111,112],16⟩,
 ⟨64522,[109,101,109,111,114,121,46,99,111,112,121],14⟩,
 ⟨64523,[109,101,109,111,114,121,46,102,105,108,108],13⟩,
 ⟨64524,[116,97,98,108,101,46,105,110,105,116],11⟩,
 ⟨64525,[101,108,101,109,46,100,114,111,112],12⟩,
 ⟨64526,[116,97,98,108,101,46,99,111,112,121],10⟩,
 ⟨64527,[116,97,98,108,101,46,103,114,111,119],9⟩,
 ⟨64528,[116,97,98,108,101,46,115,105,122,101],9⟩,
 ⟨64529,[116,97,98,108,101,46,102,105,108,108],9⟩]
def wdA:Af->Af->List (Af)
 | [],w=>if w=[]then[]else[w]
 | c::r,w=>if c=32 then(if w=[]then wdA r []else w::wdA r [])else wdA r (w++[c])
def wds(s:Af):List (Af):=wdA s []
def OI(f:Int)(h:Af):Nat->List (Af)->List (Int×Af)
 | _,[]=>[]
 | k,s::r=>(f+(k:Int),h++s)::OI f h (k+1) r
def EN:List (Int×Af):=OC.map λo=>(o.op,o.nm)
def ad_:EN=HR.flatMap λr=>OI r.f r.h 0 (wds r.t):=by decide +kernel
open Go.Shelf
def acT:Go.Shelf.Ren:=⟨λ|144=>340|143=>350|219=>367|217=>290|225=>372|224=>373|267=>374|266=>327|314=>377|n=>n,λ|9=>9|4=>4|3=>3|5=>5|46=>320|146=>432|51=>367|n=>n,λ|1=>2|n=>n⟩
def Xp:Go.Proofs.Lays.n144 pg acT:={
 mixed:=by kernel_rfl
 f143:=Tryz.func350.trans (congrArg some (by kernel_rfl))
 f144:=Tryz.func340.trans (congrArg some (by kernel_rfl))
 f217:=Tryz.func290.trans (congrArg some (by kernel_rfl))
 f219:=Tryz.func367.trans (congrArg some (by kernel_rfl))
 f224:=Tryz.func373.trans (congrArg some (by kernel_rfl))
 f225:=Tryz.func372.trans (congrArg some (by kernel_rfl))
 f266:=Tryz.func327.trans (congrArg some (by kernel_rfl))
 f267:=Tryz.func374.trans (congrArg some (by kernel_rfl))
 f314:=Tryz.func377.trans (congrArg some (by kernel_rfl))
 t3:=Tryz.underlying3
 a3:=Tryz.isAgg3
 z3:=Tryz.sizeOf3
 v3:=Tryz.zeroValue3
 t4:=Tryz.underlying4
 a4:=Tryz.isAgg4
 z4:=Tryz.sizeOf4
 v4:=Tryz.zeroValue4
 t5:=Tryz.underlying5
 a5:=Tryz.isAgg5
 z5:=Tryz.sizeOf5
 v5:=Tryz.zeroValue5
 t9:=Tryz.underlying9
 a9:=Tryz.isAgg9
 z9:=Tryz.sizeOf9
 v9:=Tryz.zeroValue9
 t46:=Tryz.underlying320
 a46:=Tryz.isAgg320
 z46:=Tryz.sizeOf320
 v46:=Tryz.zeroValue320
 t51:=Tryz.underlying367
 a51:=Tryz.isAgg367
 z51:=Tryz.sizeOf367
 v51:=Tryz.zeroValue367
 t146:=Tryz.underlying432
 a146:=Tryz.isAgg432
 z146:=Tryz.sizeOf432
 v146:=Tryz.zeroValue432
 g1:=by kernel_rfl}
def acU:Go.Shelf.Ren:=⟨λ|157=>353|229=>368|199=>369|261=>375|311=>378|312=>379|n=>n,λ|9=>9|31=>394|3=>3|5=>5|4=>4|119=>325|0=>0|40=>423|152=>427|21=>21|154=>429|51=>367|141=>431|196=>437|193=>434|198=>440|49=>438|194=>435|201=>443|226=>445|46=>320|227=>446|n=>n,λ|0=>3|6=>4|n=>n⟩
def Xq:Go.Proofs.Lays.n157 pg acU:={
 mixed:=by kernel_rfl
 f157:=Tryz.func353.trans (congrArg some (by kernel_rfl))
 f199:=Tryz.func369.trans (congrArg some (by kernel_rfl))
 f229:=Tryz.func368.trans (congrArg some (by kernel_rfl))
 f261:=Tryz.func375.trans (congrArg some (by kernel_rfl))
 f311:=Tryz.func378.trans (congrArg some (by kernel_rfl))
 f312:=Tryz.func379.trans (congrArg some (by kernel_rfl))
 t0:=Tryz.underlying0
 a0:=Tryz.isAgg0
 z0:=Tryz.sizeOf0
 v0:=Tryz.zeroValue0
 t3:=Tryz.underlying3
 a3:=Tryz.isAgg3
 z3:=Tryz.sizeOf3
 v3:=Tryz.zeroValue3
 t4:=Tryz.underlying4
 a4:=Tryz.isAgg4
 z4:=Tryz.sizeOf4
 v4:=Tryz.zeroValue4
 t5:=Tryz.underlying5
 a5:=Tryz.isAgg5
 z5:=Tryz.sizeOf5
 v5:=Tryz.zeroValue5
 t9:=Tryz.underlying9
 a9:=Tryz.isAgg9
 z9:=Tryz.sizeOf9
 v9:=Tryz.zeroValue9
 t21:=Tryz.underlying21
 a21:=Tryz.isAgg21
 z21:=Tryz.sizeOf21
 v21:=Tryz.zeroValue21
 t31:=Tryz.underlying394
 a31:=Tryz.isAgg394
 z31:=Tryz.sizeOf394
 v31:=Tryz.zeroValue394
 t40:=Tryz.underlying423
 a40:=Tryz.isAgg423
 z40:=Tryz.sizeOf423
 v40:=Tryz.zeroValue423
 t46:=Tryz.underlying320
 a46:=Tryz.isAgg320
 z46:=Tryz.sizeOf320
 v46:=Tryz.zeroValue320
 t49:=Tryz.underlying438
 a49:=Tryz.isAgg438
 z49:=Tryz.sizeOf438
 v49:=Tryz.zeroValue438
 t51:=Tryz.underlying367
 a51:=Tryz.isAgg367
 z51:=Tryz.sizeOf367
 v51:=Tryz.zeroValue367
 t119:=Tryz.underlying325
 a119:=Tryz.isAgg325
 z119:=Tryz.sizeOf325
 t141:=Tryz.underlying431
 a141:=Tryz.isAgg431
 z141:=Tryz.sizeOf431
 v141:=Tryz.zeroValue431
 t152:=Tryz.underlying427
 a152:=Tryz.isAgg427
 z152:=Tryz.sizeOf427
 v152:=Tryz.zeroValue427
 t154:=Tryz.underlying429
 a154:=Tryz.isAgg429
 z154:=Tryz.sizeOf429
 v154:=Tryz.zeroValue429
 t193:=Tryz.underlying434
 a193:=Tryz.isAgg434
 z193:=Tryz.sizeOf434
 v193:=Tryz.zeroValue434
 t194:=Tryz.underlying435
 a194:=Tryz.isAgg435
 z194:=Tryz.sizeOf435
 v194:=Tryz.zeroValue435
 t196:=Tryz.underlying437
 a196:=Tryz.isAgg437
 z196:=Tryz.sizeOf437
 v196:=Tryz.zeroValue437
 t198:=Tryz.underlying440
 a198:=Tryz.isAgg440
 z198:=Tryz.sizeOf440
 v198:=Tryz.zeroValue440
 t201:=Tryz.underlying443
 a201:=Tryz.isAgg443
 z201:=Tryz.sizeOf443
 v201:=Tryz.zeroValue443
 t226:=Tryz.underlying445
 a226:=Tryz.isAgg445
 z226:=Tryz.sizeOf445
 v226:=Tryz.zeroValue445
 t227:=Tryz.underlying446
 a227:=Tryz.isAgg446
 z227:=Tryz.sizeOf446
 v227:=Tryz.zeroValue446
 g0:=by kernel_rfl
 g6:=by kernel_rfl}
def xJ(s sub:Af)(hs:s.length<4294967281):aj pg 340 [.str s,.str sub] (.bool (Lib.contains s sub)):=by
 refine aj.of (λw bl M cargs hH hM ha=>?_) rfl
 match cargs,ha with
 | [a,b],⟨h1,h2,_⟩ =>
  obtain rfl:=h1.str;obtain rfl:=h2.str;obtain⟨m,hm⟩:=hH.2.2;refine(Any.strings_Contains Xp ⟨s.toArray⟩ ⟨sub.toArray⟩ m w (by simpa[ByteArray.size]using hs) hm).mono ?_;rintro e w' ⟨rfl,rfl⟩;exact⟨_,rfl,qG.refl _ _,IRel.bool _⟩
def K2(s:Af)(hs:s.length<4294967281)(ha:∀b∈s,b.toNat<128)(w:World)(hH:(bJ.T pg).H w) :
  Calls pg 353 #[.string ⟨s.toArray⟩] w λe w'=>e = .returned (.slice (some ⟨w.heap.size,0,none⟩) (Lib.fields s).length (Lib.fields s).length)/\w'=w.alloc (.cells ((Lib.fields s).map λl=>Value.string ⟨l.toArray⟩).toArray 9):=by
 have h:=Any.strings_Fields_core Xq (by kernel_rfl) ⟨s.toArray⟩ w (by simpa[ByteArray.size]using hs) (λj b hb=>ha b (vc (by simpa using hb))) (λc hc=>hH.2.1 c hc);exact h
def Y0:aj pg 352 [] (.sl 3 (HR.map hr_)):=by
 refine aC wc ?_;simp only[go_sem,wc];exact aB [25] (by rfl) rfl
def UR:aj pg 341 [] (.fn 351 []):=by
 refine aC ug ?_;simp only[go_sem,ug];exact an
section
open Go.RowKit
attribute[local go_sem] Oper.semAt_some
def aa3(x:Int×Af):Array Value:=#[.int .i64 x.1,.string ⟨x.2.toArray⟩]
def LU{M:Nat->Prop}{w:World}{v:Value}(h:bt (λ_=>none) M w v (.sl 3 (HR.map hr_))):∃b off cap,v = .slice (some ⟨b,off,none⟩) 24 cap/\¬M b/\∃c t fr,w.heap[b]?=some (.cells c t fr) /\
  ∀i,i<24->c[off+i*3]?=some (.int .i64 (ac HR i).f)/\c[off+i*3+1]?=some (.string ⟨(ac HR i).h.toArray⟩)/\c[off+i*3+2]?=some (.string ⟨(ac HR i).t.toArray⟩):=by
 have h1:IRel M w v (.sl 3 (HR.map hr_)):=h;have hlen:(HR.map hr_).length=24:=by rfl
 generalize hr:HR.map hr_=rows at h1 hlen;cases h1 with
 | nls=>simp at hlen
 | sl0=>simp at hlen
 | sl b off cap st c t fr rows vs hb hM hl hr1 hv hx =>
  refine⟨b,off,cap,by rw[hlen],hM,c,t,fr,hb,λi hi=>?_⟩;have hrow:rows[i]?=some (hr_ (ac HR i)):=by
   rw[<-hr,jt,pf (by rw[<-hlen,<-hr]at hi;simpa using hi)];rfl
  have key:∀j x,(hr_ (ac HR i))[j]?=some x->j<3->∃u,c[off+i*3+j]?=some u/\IRel M w u x:=λj x hj hj3=>⟨_,hv i j (by omega) hj3,hx i j _ _ hrow hj⟩
  obtain⟨u0,a0,b0⟩:=key 0 (.int .i64 (ac HR i).f) rfl (by omega);obtain⟨u1,a1,b1⟩:=key 1 (.str (ac HR i).h) rfl (by omega);obtain⟨u2,a2,b2⟩:=key 2 (.str (ac HR i).t) rfl (by omega);cases b0;cases b1;cases b2;exact⟨a0,a1,a2⟩
def DK(k:Nat):List (Int×Af):=(HR.take k).flatMap λr=>OI r.f r.h 0 (Lib.fields r.t)
def aeb(k:Nat)(h:k<24):(ac HR k).t.length<4294967281/\∀b∈(ac HR k).t,b.toNat<128:=by
 have:∀r∈HR,r.t.length<4294967281/\∀b∈r.t,b.toNat<128:=by decide +kernel
 exact this _ (by rw[bv (by exact h)];exact tL _)
def aam(k:Nat)(h:k<24):(ac HR k).h.length<1000/\0<=(ac HR k).f/\(ac HR k).f<100000/\(Lib.fields (ac HR k).t).length<1000/\∀s∈Lib.fields (ac HR k).t,s.length<1000:=by
 have:∀r∈HR,r.h.length<1000/\0<=r.f/\r.f<100000/\(Lib.fields r.t).length<1000/\∀s∈Lib.fields r.t,s.length<1000:=by decide +kernel
 exact this _ (by rw[bv (by exact h)];exact tL _)
def MP(f:Int)(h:Af):∀(l:List (Af))(k:Nat),(OI f h k l).length=l.length
 | [],_=>rfl
 | _::l,k=>by simp[OI,MP f h l]
def MO(f:Int)(h:Af):∀(l:List (Af))(k j:Nat),j<l.length->(OI f h k l)[j]?=some (f+((k+j:Nat):Int),h++ac l j)
 | [],_,j,hj=>by simp at hj
 | s::l,k,0,_=>rfl
 | s::l,k,j+1,hj=>by
  have:=MO f h l (k+1) j (by simpa using hj);simp only[OI,Ie];rw[this,show k+1+j=k+(j+1)by omega];rfl
def IS{f:Int}{h:Af}{l:List (Af)}{j:Nat}(hj:j<l.length):(OI f h 0 l).take (j+1)=(OI f h 0 l).take j++[(f+(j:Int),h++ac l j)]:=by
 rw[Ei,MO f h l 0 j hj,Eh,zE]
def F6{k:Nat}(h:k<24):DK (k+1)=DK k++OI (ac HR k).f (ac HR k).h 0 (Lib.fields (ac HR k).t):=by
 unfold DK;rw[Ei,pf (show k<HR.length from h),Eh,Ee,List.flatMap_singleton]
def T7{k:Nat}(h:k<=24):DK k <+: DK 24:=by
 have e:HR.take 24=HR.take k++(HR.take 24).drop k:=by
  rw[show HR.take k=(HR.take 24).take k by rw[List.take_take,B4 h]];exact(Ku k _).symm
 unfold DK;rw[e,Ee];exact List.prefix_append _ _
def T6:DK 24=HR.flatMap λr=>OI r.f r.h 0 (wds r.t):=by decide +kernel
def abU(n:Nat)(w:World):aef n pg 351 #[] aa3 EN w:=by
 intro l J Jx W hH hW hJ hJx hY h0;refine callsIn_of_wp Tryz.func351 rfl trivial ?_ rfl;have hE:DK 24=EN:=by rw[ad_];exact T6
 have cr:=aj.run Y0 W hH (cargs:=[]) trivial;simp only[Tryz.ntmps351,List.size_toArray,i0,cj,Nat.reduceAdd,Nat.reduceSub,Array.replicate_succ,Array.replicate_zero,List.push_toArray,List.append_toArray,fo,mr]
 gi_wp2
 refine⟨trivial,λh=>(by cases h),(callsIn_wide.2 cr).mono ?_⟩;rintro e W1 ⟨v,rfl,hv,hst⟩;obtain⟨b,off,cap,rfl,hnb,c,t,fr,hb,hc⟩:=LU hv
 gi_wp2
 gi_loopw [8] (λi wr=>∃k:Nat,k<=24/\i = .int .i64 k/\J (DK k) wr/\W.heap.size<=wr.heap.size/\wr.heap[b]?=some (.cells c t fr)/\(bJ.T pg).H wr) (λi _=>24-(intOf i).toNat)
 case atStart=>exact⟨0,by omega,rfl,hJ _ _ _ h0 hst,hst.size,hb,(bJ.T pg).stay _ _ hH λq hq=>hst.keep q ((bJ.T pg).low _ hH q hq) (λh=>h)⟩
 case round =>
  obtain⟨k,hk,rfl,hJk,hsz,hbk,hHk⟩:=hrel
  rename World=>wo1
  by_cases hlt:k<24
  .have c0:wo1.cell? ⟨b,off+k*3,none⟩=some (.int .i64 (ac HR k).f):=(fG hbk _).trans (hc k hlt).1;have c1:wo1.cell? ⟨b,off+k*3+1,none⟩=some (.string ⟨(ac HR k).h.toArray⟩):=(fG hbk _).trans (hc k hlt).2.1;have c2:wo1.cell? ⟨b,off+k*3+2,none⟩=some (.string ⟨(ac HR k).t.toArray⟩):=(fG hbk _).trans (hc k hlt).2.2;have hsA:=qG.ofAlloc wo1 (.cells #[.int .i64 (ac HR k).f,.string ⟨(ac HR k).h.toArray⟩,.string ⟨(ac HR k).t.toArray⟩] 413);have hHA:=(bJ.T pg).stay _ _ hHk λq hq=>hsA.keep q ((bJ.T pg).low _ hHk q hq) (λh=>h);obtain⟨hl,ha⟩:=aeb k hlt;obtain⟨hh,hf0,hf1,hfl,hfs⟩:=aam k hlt;have cf:=K2 (ac HR k).t hl ha _ hHA;generalize hF:Lib.fields (ac HR k).t=fl at cf hfl hfs
   gi_wp2
   refine⟨trivial,λh=>(by cases h),(callsIn_wide.2 cf).mono ?_⟩;rintro e W2 ⟨rfl,rfl⟩
   gi_wp2
   gi_loopw [16] (λi wr2=>∃j:Nat,j<=fl.length/\i = .int .i64 j/\J (DK k++(OI (ac HR k).f (ac HR k).h 0 fl).take j) wr2/\W.heap.size<=wr2.heap.size/\wr2.heap[b]?=some (.cells c t fr) /\
     wr2.heap[wo1.heap.size]?=some (.cells #[.int .i64 (ac HR k).f,.string ⟨(ac HR k).h.toArray⟩,.string ⟨(ac HR k).t.toArray⟩] 413)/\wr2.heap[wo1.heap.size+1]?=some (.cells (fl.map λl=>Value.string ⟨l.toArray⟩).toArray 9)/\(bJ.T pg).H wr2) (λi _=>fl.length-(intOf i).toNat)
   case atStart =>
    have hsF:=hsA.one (qG.ofAlloc _ (.cells (fl.map λl=>Value.string ⟨l.toArray⟩).toArray 9));refine⟨0,cm _,rfl,?_,by simp;omega,?_,?_,?_,?_⟩
    .rw[rI,m_];exact hJ _ _ _ hJk hsF
    .rw[hsF.keep b (bM hbk) (λh=>h)];exact hbk
    .exact(Below.heap_alloc _ _ _ (by simp)).trans (World.alloc_heap_new _ _)
    .have:=World.alloc_heap_new (wo1.alloc (.cells #[.int .i64 (ac HR k).f,.string ⟨(ac HR k).h.toArray⟩,.string ⟨(ac HR k).t.toArray⟩] 413)) (.cells (fl.map λl=>Value.string ⟨l.toArray⟩).toArray 9);rwa[World.size_alloc]at this
    .exact(bJ.T pg).stay _ _ hHk λq hq=>hsF.keep q ((bJ.T pg).low _ hHk q hq) (λh=>h)
   case round =>
    obtain⟨j,hj,rfl,hJj,hsz2,hb2,hx2,hs2,hH2⟩:=hrel;by_cases hlt2:j<fl.length
    .have d0:wr.cell? ⟨wo1.heap.size,0,none⟩=some (.int .i64 (ac HR k).f):=fG hx2 _;have d1:wr.cell? ⟨wo1.heap.size,1,none⟩=some (.string ⟨(ac HR k).h.toArray⟩):=fG hx2 _;have d3:wr.cell? ⟨wo1.heap.size+1,j,none⟩=some (.string ⟨(ac fl j).toArray⟩):=(fG hs2 _).trans (by rw[List.getElem?_toArray,jt,pf hlt2];rfl);have hss:=hfs (ac fl j) (by rw[bv hlt2];exact tL _);have hcat:¬9223372036854775807<(ac HR k).h.length+(ac fl j).length:=by omega
     have hpre:(DK k++(OI (ac HR k).f (ac HR k).h 0 fl).take j)++[((ac HR k).f+(j:Int),(ac HR k).h++ac fl j)] <+: EN:=by
      rw[xP,<-IS hlt2,<-hE,<-hF];refine List.IsPrefix.trans ?_ (T7 (show k+1<=24 by omega));rw[F6 hlt];exact(List.prefix_append_right_inj _).2 (List.take_prefix _ _)
     obtain⟨fn,tmps,assign,body,hy,hR⟩:=hY _ _ wr hJj hpre;have hw:wrap64 ((ac HR k).f+(j:Int))=(ac HR k).f+(j:Int):=IntWalk.wrap64_in _ (by omega);have hc2:(ByteArray.mk (ac HR k).h.toArray++ByteArray.mk (ac fl j).toArray)=ByteArray.mk ((ac HR k).h++ac fl j).toArray:=by apply ByteArray.ext;simp
     have hy2:(Instr.yield l #[.int .i64 ((ac HR k).f+(j:Int)),.string (ByteArray.mk ((ac HR k).h++ac fl j).toArray)]).run pg wr = .ok (.round l fn tmps assign body) wr:=hy
     gi_wp2
     refine⟨λh=>(by cases h),hR.mono ?_⟩;rintro e W3 (⟨rfl,hJ3,hk3⟩|⟨rfl,hJx3⟩)
     .gi_wp2
      go_roundw
      case rel =>
       refine⟨j+1,by omega,by simp,?_,m8 hsz2 hk3.1,?_,hk3.2.1 _ _ _ _ hsz hx2,hk3.2.1 _ _ _ _ (by omega) hs2,(bJ.T pg).stay _ _ hH2 λq hq=>hk3.2.2 q hq⟩
       .rw[IS hlt2,<-xP];exact hJ3
       .by_cases hbw:W.heap.size<=b
        .exact hk3.2.1 _ _ _ _ hbw hb2
        .rw[hk3.2.2 b (Classical.byContradiction λhn=>hnb ⟨by omega,hn⟩)];exact hb2
      case measure=>simp[intOf];omega
     .gi_wp2
      refine bodyPost_ret (results_none rfl _ _ _) rfl ?_;exact⟨⟨_,rfl⟩,.inr ⟨_,hpre,hJx3⟩⟩
    .obtain rfl:j=fl.length:=by omega
     gi_wp2
     refine⟨⟨k+1,by omega,by simp,?_,hsz2,hb2,hH2⟩,by simp[intOf];omega⟩;rw[F6 hlt,hF];rw[cI (by rw[MP];exact a_ _)]at hJj;exact hJj
  .obtain rfl:k=24:=by omega
   gi_wp2
   go_end0
   exact⟨⟨_,rfl⟩,.inl (hE▸hJk)⟩
end
section
open Go.RowKit
attribute[local go_sem] Oper.semAt_some
def dx(op:Int):Af:=match EN.find? (λp=>p.1==op)with
 | some p=>p.2
 | none=>[]
def RN{α:Type}{f:α->Bool}{l oG:List α}{x:α}(h:oG++[x] <+: l)(hn:∀p∈oG,f p=false)(hx:f x=true):l.find? f=some x:=by
 obtain⟨r,rfl⟩:=h;rw[xP,List.find?_append,List.find?_eq_none.2 (λp hp=>by rw[hn p hp];decide)];simp[hx]
def sx{w W:World}{l:Nat}{o o':Obj}(h:qG No w W)(hl:w.heap.size<=l)(hc:W.heap[l]?=some o)(ho:o.isCells=false):qG No w (W.putObj l o') where
 size:=m8 h.size (grownBy_putObj' W l o').size
 keep b hb _:=by rw[World.putObj_heap_other (by omega)];exact h.keep b hb (λh=>h)
 shape b c t fr hb:=by
  obtain⟨c',fr',h1,h2⟩:=h.shape b c t fr hb;exact⟨c',fr',by rw[World.putObj_heap_other (by have:=bM hb;omega)];exact h1,h2⟩
 os:=(grownBy_putObj' W l o').os.trans h.os
 out:=(grownBy_putObj' W l o').output.trans h.out
def Bs{w W:World}{a:Addr}{v:Value}(h:qG No w W)(hl:w.heap.size<=a.block):qG No w (W.setCell a v) where
 size:=by simpa[World.setCell]using h.size
 keep b hb _:=by
  have:b≠a.block:=by omega
  simp only[World.setCell,B2,ak (Ne.symm this)];exact h.keep b hb (λh=>h)
 shape b c t fr hb:=by
  obtain⟨c',fr',h1,h2⟩:=h.shape b c t fr hb;have:b≠a.block:=by have:=bM hb;omega
  exact⟨c',fr',by simp only[World.setCell,B2,ak (Ne.symm this)];exact h1,h2⟩
 os:=h.os
 out:=h.out
def aa5{bl:Nat->Option Nat}{M:Nat->Prop}{w:World}{v:Value}{f:FuncId}(h:bt bl M w v (.fn f []))(hf:decide (f<4000000)=true:=by rfl):v = .func (.func f) #[] #[]:=by
 obtain⟨cs,rfl,h⟩:=h;have h1:ZE f=f:=au (of_decide_eq_true hf);cases cs with
 | nil=>rw[h1];simp
 | cons=>exact h.elim
def wX{fn:Func}{t:Tmp}{ty:TypeId}(h:fn.results = #[.cell t ty])(tmps:Array Value)(P:Program)(w:World){b:Nat}{v:Value}(ha:tmps.getD t undef = .pointer (some ⟨b,0,none⟩))(hagg:(isAgg ty).run P w = .ok false w)
  (hc:w.cell? ⟨b,0,none⟩=some v):(results fn tmps).run P w = .ok v w:=by
 simp only[tJ]at ha;have hc':w.cell? {block:=b,off:=0}=some v:=hc;simp[results,h,ha,asAddr,loadVar,hagg,hc']
def NK(op:Int):aj pg 311 [.int .i64 op] (.str (dx op)):=by
 refine aj.of (λw bl M cargs hH hM ha=>?_) rfl
 match cargs,ha with
 | [a],⟨h1,_⟩ =>
 obtain rfl:=h1.int;refine(callsIn_wide (n:=3)).1 ?_;refine callsIn_of_wp_marks Tryz.func311 rfl trivial ?_ rfl;have hs1:=(qG.ofAlloc w (.cells #[.int .i64 op] 52)).one (qG.ofAlloc _ (.cells #[.string ⟨#[]⟩] 9));have hH1:=(bJ.T pg).stay _ _ hH λq hq=>hs1.keep q ((bJ.T pg).low _ hH q hq) (λh=>h);have cn:=aj.run UR _ hH1 (cargs:=[]) trivial;simp only[Tryz.ntmps311,List.size_toArray,i0,cj,Nat.reduceAdd,Nat.reduceSub,Array.replicate_succ,Array.replicate_zero,List.push_toArray,List.append_toArray,fo,mr]
 gi_wp2
 refine⟨trivial,(callsIn_wide.2 cn).mono ?_⟩;rintro e W1 ⟨v,rfl,hv,hst⟩;obtain rfl:=aa5 hv;have hsW:=hs1.one hst;have hHW:=(bJ.T pg).stay _ _ hH λq hq=>hsW.keep q ((bJ.T pg).low _ hH q hq) (λh=>h);have hb0:W1.heap[w.heap.size]?=some (.cells #[.int .i64 op] 52):=by
  rw[hst.keep _ (by simp<;>omega) (λh=>h)];exact(Below.heap_alloc _ _ _ (by simp)).trans (World.alloc_heap_new _ _)
 have hb1:W1.heap[w.heap.size+1]?=some (.cells #[.string ⟨#[]⟩] 9):=by
  rw[hst.keep _ (by simp) (λh=>h)];have:=World.alloc_heap_new (w.alloc (.cells #[.int .i64 op] 52)) (.cells #[.string ⟨#[]⟩] 9);rwa[World.size_alloc]at this
 have hz:w.heap.size+2<=W1.heap.size:=by have:=hst.size;simpa using this
 clear cn hst hs1 hH1 hv
 gi_wp2
 refine P3 (α:=Int×Af) (encs:=aa3) (E:=EN) (by decide) hHW (gf:=351) (lb:=#[]) rfl (enters_of Tryz.func351 (by kernel_rfl) rfl) (abU _ W1) (qG.refl _ _) (λ_=>rfl)
  (λoG W=>qG No w W/\W.heap[w.heap.size]?=some (.cells #[.int .i64 op] 52)/\W.heap[w.heap.size+1]?=some (.cells #[.string ⟨#[]⟩] 9)/\∀p∈oG,(p.1==op)=false)
  (λc oG W=>c = .ret/\qG No w W/\W.heap[w.heap.size+1]?=some (.cells #[.string ⟨(dx op).toArray⟩] 9))
  (λs A B h hs=>⟨h.1.one hs,(hs.keep _ (bM h.2.1) (λh=>h)).trans h.2.1,(hs.keep _ (bM h.2.2.1) (λh=>h)).trans h.2.2.1,h.2.2.2⟩)
  (λc s A B h hs=>⟨h.1,h.2.1.one hs,(hs.keep _ (bM h.2.2) (λh=>h)).trans h.2.2⟩)
  (λs W l o o' h hl hc ho=>⟨sx h.1 (by omega) hc ho,by rw[World.putObj_heap_other (by omega)];exact h.2.1,by rw[World.putObj_heap_other (by omega)];exact h.2.2.1,h.2.2.2⟩)
  (λc s W l o o' h hl hc ho=>⟨h.1,sx h.2.1 (by omega) hc ho,by rw[World.putObj_heap_other (by omega)];exact h.2.2⟩)
  ⟨hsW,hb0,hb1,λp hp=>absurd hp tN⟩
  (λx=>{tmps:=#[.int .i64 op,.pointer (some ⟨w.heap.size,0,none⟩),.pointer (some ⟨w.heap.size+1,0,none⟩),.int .i64 x.1,.string ⟨x.2.toArray⟩,.func (.func 351) #[] #[],.int .i64 x.1,.string ⟨x.2.toArray⟩,undef,undef,undef,undef],defers:=[]}) ?assign ?body ?done ?stop
 case assign =>
  intro l x W K hK;simp only[aa3]
  gi_wp2
  exact hK
 case body =>
  rintro l oG x W ⟨hS,I1,hB1,hP⟩ hpre;have d0:W.cell? ⟨w.heap.size,0,none⟩=some (.int .i64 op):=fG I1 _;have d1:W.cell? ⟨w.heap.size+1,0,none⟩=some (.string ⟨#[]⟩):=fG hB1 _;have f1:W.frozen? ⟨w.heap.size+1,0,none⟩=false:=by simp[World.frozen?,hB1]
  by_cases hx:x.1=op
  .have hn:dx op=x.2:=by
    unfold dx;rw[RN hpre hP (by simpa using hx)]
   gi_wp2
   refine⟨KeepsOthers.setCell _ _ _,rfl,Bs hS (by simp),?_⟩;rw[hn];simp[World.setCell,B2,hB1]
  .gi_wp2
   refine⟨⟨a_ _,λ_ _ h _=>h⟩,Iv.refl _ _,hS,I1,hB1,λp hp=>?_⟩;rcases f7.1 hp with hp|hp
   .exact hP p hp
   .rw[jJ.1 hp];simpa using hx
 case done =>
  rintro D W hD ⟨hS,I1,hB1,hP⟩ hK;have d1:W.cell? ⟨w.heap.size+1,0,none⟩=some (.string ⟨#[]⟩):=fG hB1 _;have f1:W.frozen? ⟨w.heap.size+1,0,none⟩=false:=by simp[World.frozen?,hB1]
  have hn:dx op=[]:=by
   unfold dx;rw[List.find?_eq_none.2 (λp hp=>by rw[hP p hp];decide)]
  gi_wp2
  have hD2:(W.setCell ⟨w.heap.size+1,0,none⟩ (.string ⟨#[]⟩)).heap[D]?=some (.deferred (some [])):=by
   simp only[World.setCell,B2,ak (show ¬w.heap.size+1=D by omega)];exact hK
  have hB3:(W.setCell ⟨w.heap.size+1,0,none⟩ (.string ⟨#[]⟩)).heap[w.heap.size+1]?=some (.cells #[.string ⟨#[]⟩] 9):=by
   simp[World.setCell,B2,hB1]
  have hS2:=sx (Bs hS (a:=⟨w.heap.size+1,0,none⟩) (v:=.string ⟨#[]⟩) (by simp)) (by omega) hD2 rfl (o':=.deferred none);refine⟨by simp,.inl ⟨_,_,rfl,run_takeDeferred hD2,?_⟩⟩;have hB4:((W.setCell ⟨w.heap.size+1,0,none⟩ (.string ⟨#[]⟩)).putObj D (.deferred none)).heap[w.heap.size+1]?=some (.cells #[.string ⟨#[]⟩] 9):=by rw[World.putObj_heap_other (by omega)];exact hB3
  refine⟨_,wX rfl _ _ _ rfl (Tryz.isAgg9 _) (fG hB4 _),_,rfl,hS2,?_⟩;rw[hn];exact IRel.str _
 case stop =>
  rintro D c oG W hD hp ⟨rfl,hS,hB1⟩ hK
  gi_wp2
  have hS2:=sx hS (by omega) hK rfl (o':=.deferred none);refine⟨by simp,.inl ⟨_,_,rfl,run_takeDeferred hK,?_⟩⟩;have hB4:(W.putObj D (.deferred none)).heap[w.heap.size+1]?=some (.cells #[.string ⟨(dx op).toArray⟩] 9):=by rw[World.putObj_heap_other (by omega)];exact hB1
  exact⟨_,wX rfl _ _ _ rfl (Tryz.isAgg9 _) (fG hB4 _),_,rfl,hS2,IRel.str _⟩
def CX{W:World}{b off:Nat}{c:Array Value}{t:TypeId}{fr:Nat×Nat}{v:Value}(h:W.heap[b]?=some (.cells c t fr)):(W.setCell ⟨b,off,none⟩ v).heap[b]?=some (.cells (c.setIfInBounds off v) t fr):=by
 simp[World.setCell,B2,h]
