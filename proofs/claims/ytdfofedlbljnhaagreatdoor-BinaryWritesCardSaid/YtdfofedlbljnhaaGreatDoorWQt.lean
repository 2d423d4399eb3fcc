import Derived.Test.YtdfofedlbljnhaaGreatDoorWQs
set_option linter.all false
set_option maxRecDepth 100000
set_option maxHeartbeats 40000000
namespace Go.Proofs.YtdfofedlbljnhaaGreatDoor
open Go Go.Mw
def kx{α:Type}(g:α->Nat)(l:List α):Nat:=(l.map g).sum
def ID{α:Type}(g:α->Nat)(x:α)(l:List α):kx g (x::l)=g x+kx g l:=by simp[kx]
def Af{α:Type}{f:α->List UInt8}{g:α->Nat}{c:Nat}:∀(l:List α),(∀x∈l,(f x).length<=c+400*g x)->(l.flatMap f).length<=c*l.length+400*kx g l
 | [],_=>by simp[kx]
 | x::l,h=>by
  have h1:=Af (g:=g) (c:=c) l λy hy=>h y (by simp[hy]);have:=h x (by simp);rw[wG,aJ,aT,ID,Nat.mul_add,Nat.mul_add];omega
def QC(x:El):Nat:=x.o.length+kx List.length x.it
def B0(m:Md):Nat:=kx (λx:Cd=>x.b.length) m.fs+kx (λx:Gd=>x.i.length) m.gs+kx QC m.els+kx (λx:Da=>x.o.length) m.ds
def kN{α:Type}{f:α->List UInt8}{l:List α}{n k:Nat}(h:(l.flatMap f).length<=k)(hl:l.length<4294967296):(aQ f l).length<=k+5:=by
 have:=bA hl;unfold aQ;rw[aJ];omega
def Pd{x:Ft}(h:A3 x=0):(pX x).length<=40:=by
 obtain⟨h1,h2,_,_⟩:=Sf h;have a:=kN (n:=0) (qX (f:=fh) (n:=1) x.ps λ_ _=>bG _) (by omega);have b:=kN (n:=0) (qX (f:=fh) (n:=1) x.rs λ_ _=>bG _) (by omega);unfold pX;simp only[aT,aJ];omega
def Ac{y:Lm}(h:JN y):(iw y).length<=11:=by
 obtain⟨h1,h2,_⟩:=h;have a:=bA (n:=y.mn.toNat) (by omega);unfold iw;cases hh:y.hs
 .simp;omega
 .have:=h2 hh;have b:=bA (n:=y.mx.toNat) (by omega);simp;omega
def FS{x:Tb}(h:Ei x=0):(oY x).length<=12:=by
 have:=Ac (Vb h).2;unfold oY fh;simp;omega
def FQ(g:Gl):(AZ g).length<=2:=by simp[AZ,fh]
def H_{s:List UInt8}(h:jE s=0):s.length<=64:=by
 unfold jE at h;by_cases h1:s.length>64
 .rw[aF h1]at h;cases h
 .omega
def Ad{s:List UInt8}(h:jE s=0):(uT s).length<=69:=by
 have h1:=H_ h;have:=bA (n:=s.length) (by omega);unfold uT;rw[aJ];omega
def Pf{x:Im}(h:ED x=0):(pY x).length<=200:=by
 obtain⟨h1,h2,h3,_,h5,h6,h7,h8⟩:=SJ h;have a:=Ad h1;have b:=Ad h2;unfold pY;simp only[aJ,jI];rcases(show x.k=0\/x.k=1\/x.k=2\/x.k=3 by omega)with q|q|q|q
 .have:=bA (n:=x.f.toNat) (by have:=dO.1 (h5 q);omega);rw[aF q];omega
 .have:=FS (h6 q);rw[au (by omega),aF q];omega
 .have:=Ac (Gp (h7 q));rw[au (by omega),au (by omega),aF q];omega
 .have:=FQ x.g;rw[au (by omega),au (by omega),au (by omega)];omega
def Pc{x:Ex}(h:Hf x=0):(qT x).length<=80:=by
 obtain⟨h1,h2,h3⟩:=R7 h;have a:=Ad h1;have:=bA (n:=x.i.toNat) (by have:=dO.1 h3;omega);unfold qT;simp only[aJ,jI];omega
def Pe{x:Gd}(h:Mb x.i):(qU x).length<=2+400*x.i.length:=by
 have a:=FQ x.g;have b:=oX x.i h;unfold qU;rw[aJ];omega
def O_{x:Cd}(h1:x.lo.length<=64)(h4:Mb x.b)(h5:x.b.length<=2048):(nA x).length<=800+400*x.b.length:=by
 have h0:=Aa h1 h4 h5;have h2:=oX x.b h4;have h3:=zu x.lo.length x.lo
 have h6:=qX (f:=kP) (n:=11) (gD x.lo) (λp hp=>by
  have hp2:=rA (k:=9) (n:=p.1) (by
   have:p.1<=(Pi (gD x.lo)).length:=by
    unfold Pi;obtain⟨l1,l2,e⟩:=List.append_of_mem hp;rw[e];simp only[vz,wG,aJ,List.length_replicate];omega
   unfold gD at this;rw[Ae _ _ (bG _)]at this;omega)
  unfold kP fh;rw[aJ,jI];omega)
 have h7:=bA (n:=(gD x.lo).length) (by unfold gD;omega);have h8:(gD x.lo).length<=64:=by unfold gD;omega
 have h9:=bA (n:=(jX x).length) (by omega);unfold nA;rw[aJ];unfold jX Jq aQ at h9⊢;simp only[aJ]at h9⊢;omega
def Pg{n:Nat}{l:List bj}(h1:n<4->tF l=true)(h3:Mb l):(fS n l).length<=5+400*l.length:=by
 unfold fS;by_cases q:n<4
 .rw[aF q];obtain⟨_,e2,e3⟩:=vO (h1 q) h3;have:=bA (n:=(ah l 0).a.toNat) (by omega);omega
 .rw[au q];have:=oX l h3;omega
def Pb{x:El}(h:Ma AA x)(hn:Fp x.o)(hn2:∀l∈x.it,Fp l):(pW x).length<=1400+400*QC x:=by
 obtain⟨hB,ho,hi⟩:=h;obtain⟨b1,b2,b3,b4,b5⟩:=z_ hB;obtain⟨f1,f2,f3,f4,f5,f6⟩:=LJ b1;have hrf:dp x<4->∀l∈x.it,tF l=true:=λq=>by
  have:=f5.1 q;unfold dL at this;rw[Bool.or_eq_false_iff,vB]at this;intro l hl;have:=this.2 l hl;simpa using this
 have a1:=bA (n:=dp x) (by omega);have a2:=bA (n:=x.tb.toNat) (by have:=dO.1 b3;omega);have a3:=oX x.o (rz ho hn).1;have a4:=kN (n:=0) (Af (f:=fS (dp x)) (g:=List.length) (c:=5) x.it λl hl=>Pg (λq=>hrf q l hl) (rz (hi l hl) (hn2 l hl)).1) (by omega);have a5:(if dp x%4=2 then ay x.tb.toNat else[]).length<=5:=by
  split
  .exact a2
  .exact cQ _
 have a6:(if dp x%2=0 then et x.o else[]).length<=400*x.o.length:=by
  split
  .exact a3
  .exact cQ _
 have a7:(if dp x%4=0 then[]else if dp x<4 then[0]else fh x.ty).length<=1:=by split<;>(try split)<;>simp[fh]
 unfold pW QC;simp only[aJ];omega
def Pa{x:Da}(h:Kp AA x)(hn:Fp x.o):(pV x).length<=4200+400*x.o.length:=by
 obtain⟨h4,h5,h6,h7⟩:=RY h;have a3:=oX x.o (rz h7 hn).1;have a1:=bA (n:=x.b.length) (by omega);have a2:=bA (n:=x.me.toNat) (by have:=dO.1 h5;omega);have b0:=bA (n:=0) (by decide);have b1:=bA (n:=1) (by decide);have b2:=bA (n:=2) (by decide);unfold pV;split
 .simp only[aJ];omega
 .split
  .simp only[aJ];omega
  .simp only[aJ];omega
def fT{m:Md}(h:Kq m)(ht:B0 m<=6000)(p:Int)(h8:p=8->m.hs=true):(dF m p).length<=10000000:=by
 unfold B0 at ht;have hfs:=h.lim.fs.1;have htb:=h.lim.tbs.1;have hms:=h.lim.ms.1;have hgs:=h.lim.gs.1;have hts:=h.lim.ts.1;have him:=h.lim.ims.1;have hex:=h.lim.exs.1;have hel:=h.lim.els.1;have hds:=h.lim.ds.1;unfold dF;by_cases q:p=1
 .rw[aF q];have:=kN (n:=0) (qX (f:=pX) (n:=40) m.ts λx hx=>Pd (h.lim.ts.2 x hx)) (by omega);omega
 rw[au q];by_cases q:p=2
 .rw[aF q];have:=kN (n:=0) (qX (f:=pY) (n:=200) m.ims λx hx=>Pf (h.lim.ims.2 x hx)) (by omega);omega
 rw[au q];by_cases q:p=3
 .rw[aF q];have:=kN (n:=0) (qX (f:=λx:Cd=>ay x.t.toNat) (n:=5) m.fs λx hx=>bA (by have:=dO.1 (DK h x hx).2.2.2.2.2;omega)) (by omega);omega
 rw[au q];by_cases q:p=4
 .rw[aF q];have:=kN (n:=0) (qX (f:=oY) (n:=12) m.tbs λx hx=>FS (h.lim.tbs.2 x hx)) (by omega);omega
 rw[au q];by_cases q:p=5
 .rw[aF q];have:=kN (n:=0) (qX (f:=iw) (n:=11) m.ms λx hx=>Ac (Gp (h.lim.ms.2 x hx))) (by omega);omega
 rw[au q];by_cases q:p=6
 .rw[aF q];have:=kN (n:=0) (Af (f:=qU) (g:=λx:Gd=>x.i.length) (c:=2) m.gs λx hx=>Pe (rz (h.lim.gs.2 x hx).2 (h.num.2.1 x hx)).1) (by omega);omega
 rw[au q];by_cases q:p=7
 .rw[aF q];have:=kN (n:=0) (qX (f:=qT) (n:=80) m.exs λx hx=>Pc (h.lim.exs.2 x hx)) (by omega);omega
 rw[au q];by_cases q:p=8
 .rw[aF q];have:=bA (n:=m.st.toNat) (by have:=dO.1 (h.lim.st (h8 q));omega);omega
 rw[au q];by_cases q:p=9
 .rw[aF q];have:=kN (n:=0) (Af (f:=pW) (g:=QC) (c:=1400) m.els λx hx=>Pb (h.lim.els.2 x hx) (h.num.2.2.1 x hx).1 (h.num.2.2.1 x hx).2) (by omega);omega
 rw[au q];by_cases q:p=10
 .rw[aF q];have:=bA (n:=m.ds.length) (by omega);omega
 rw[au q];by_cases q:p=11
 .rw[aF q];have:=kN (n:=0) (Af (f:=nA) (g:=λx:Cd=>x.b.length) (c:=800) m.fs λx hx=>O_ (DK h x hx).1 (DK h x hx).2.2.2.1 (DK h x hx).2.2.2.2.1) (by omega);omega
 rw[au q];by_cases q:p=12
 .rw[aF q];have:=kN (n:=0) (Af (f:=pV) (g:=λx:Da=>x.o.length) (c:=4200) m.ds λx hx=>Pa (h.lim.ds.2 x hx) (h.num.2.2.2 x hx)) (by omega);omega
 rw[au q];exact cQ _
section
def Zk(a b:Md):Prop:=a.hs=b.hs/\(a.hs=true->a.st=b.st)/\a.ts=b.ts/\a.ims=b.ims/\a.fs=b.fs/\(a.tbs=b.tbs/\a.ms=b.ms)/\a.gs=b.gs/\a.exs=b.exs/\a.els=b.els/\a.ds=b.ds/\a.cs=b.cs
instance(a b:Md):Decidable (Zk a b):=by unfold Zk;exact inferInstance
attribute[local go_sem] cU bC df cC
end
def Ii(m:Md):∀p∈qt m,1<=p/\p<=12:=λp hp=>by
 rw[AB]at hp;simp only[f9]at hp;rcases hp with(((((((((((h|h)|h)|h)|h)|h)|h)|h)|h)|h)|h)|h)
 all_goals
  have:=Mg h;omega
def Ya{c:Prop}[Decidable c]{p x:Int}:x∈tq c p↔c/\x=p:=by
 unfold tq;by_cases h:c
 .rw[aF h];simp[h]
 .rw[au h];simp[h]
def DP{m:Md}{p:Int}(h:p∈qt m):(p=1->m.ts.length>0)/\(p=2->m.ims.length>0)/\(p=3->m.fs.length>0)/\(p=4->m.tbs.length>0)/\(p=5->m.ms.length>0)/\(p=6->m.gs.length>0)/\(p=7->m.exs.length>0)/\(p=8->m.hs=true)/\(p=9->m.els.length>0)/\(p=10->m.ds.length>0)/\(p=11->m.fs.length>0)/\(p=12->m.ds.length>0):=by
 rw[AB]at h;simp only[f9,Ya]at h;rcases h with(((((((((((h|h)|h)|h)|h)|h)|h)|h)|h)|h)|h)|h)
 all_goals
  obtain⟨h1,rfl⟩:=h;refine⟨λq=>?_,λq=>?_,λq=>?_,λq=>?_,λq=>?_,λq=>?_,λq=>?_,λq=>?_,λq=>?_,λq=>?_,λq=>?_,λq=>?_⟩
  all_goals first|exact h1|(exfalso;omega)
def Eb:∀(l:List Nat)(n:Nat),n+l.sum<9223372036854775808->Bl n l=((n+l.sum:Nat):Int)
 | [],n,_=>by simp[Bl]
 | k::l,n,h=>by
  rw[List.sum_cons]at h;have e:IntKind.i64.wrap ((n:Int)+k)=((n+k:Nat):Int):=by rw[wi (by omega) (by omega)];omega
  show Bl (IntKind.i64.wrap ((n:Int)+k)) l=_;rw[e,Eb l (n+k) (by omega),List.sum_cons];congr 1;omega
def R0:∀(l:List El)(n:Nat),n+kx QC l<9223372036854775808->Nu n l=((n+kx QC l:Nat):Int)
 | [],n,_=>by simp[Nu,kx]
 | x::l,n,h=>by
  rw[ID]at h;have e0:QC x=x.o.length+kx List.length x.it:=rfl;have e:IntKind.i64.wrap ((n:Int)+x.o.length)=((n+x.o.length:Nat):Int):=by rw[wi (by omega) (by omega)];omega
  show Nu (Bl (IntKind.i64.wrap ((n:Int)+x.o.length)) (x.it.map List.length)) l=_;have h2:(x.it.map List.length).sum=kx List.length x.it:=rfl;rw[e,Eb _ _ (by rw[h2];omega),h2];have e3:n+x.o.length+kx List.length x.it=n+QC x:=by omega
  rw[e3,R0 l (n+QC x) (by omega),ID];congr 1;omega
def AH{α:Type}{g:α->Nat}{c:Nat}:∀l:List α,(∀x∈l,g x<=c)->kx g l<=c*l.length
 | [],_=>by simp[kx]
 | x::l,h=>by
  have:=AH l λy hy=>h y (by simp[hy]);have:=h x (by simp);rw[ID,aT,Nat.mul_add];omega
def WO{m:Md}(ht:B0 m<9223372036854775808):CY m=(B0 m:Nat):=by
 unfold B0 at ht;unfold CY Pz JI Py;have e1:=Eb (m.fs.map λx=>x.b.length) 0 (by show 0+kx (λx:Cd=>x.b.length) m.fs<_;omega);rw[AJ]at e1;rw[show((0:Int))=((0:Nat):Int) from rfl,e1];change Bl (Nu (Bl ((kx (λx:Cd=>x.b.length) m.fs:Nat):Int) (m.gs.map λx=>x.i.length)) m.els) (m.ds.map λx=>x.o.length)=_;have e2:=Eb (m.gs.map λx=>x.i.length) (kx (λx:Cd=>x.b.length) m.fs) (by show _+kx (λx:Gd=>x.i.length) m.gs<_;omega);rw[e2];change Bl (Nu ((kx (λx:Cd=>x.b.length) m.fs+kx (λx:Gd=>x.i.length) m.gs:Nat):Int) m.els) (m.ds.map λx=>x.o.length)=_;rw[R0 _ _ (by omega)];have e4:=Eb (m.ds.map λx=>x.o.length) (kx (λx:Cd=>x.b.length) m.fs+kx (λx:Gd=>x.i.length) m.gs+kx QC m.els) (by show _+kx (λx:Da=>x.o.length) m.ds<_;omega);rw[e4];rfl
def JJ{m:Md}(h:okM AA m):CY m=(B0 m:Nat):=by
 have hfs:=h.fs.1;have hgs:=h.gs.1;have hel:=h.els.1;have hds:=h.ds.1;have a1:=AH (g:=λx:Cd=>x.b.length) (c:=2048) m.fs λx hx=>(h.bo x hx).1;have a2:=AH (g:=λx:Gd=>x.i.length) (c:=2048) m.gs λx hx=>(h.gs.2 x hx).2.1;have a3:=AH (g:=QC) (c:=1000000) m.els λx hx=>by
  have h1:=(h.els.2 x hx).2.1.1;have h2:=AH (g:=List.length) (c:=2048) x.it λl hl=>((h.els.2 x hx).2.2 l hl).1;have h3:=(z_ (h.els.2 x hx).1).2.2.2.2;unfold QC;omega
 have a4:=AH (g:=λx:Da=>x.o.length) (c:=2048) m.ds λx hx=>(h.ds.2 x hx).2.2.2.1;refine WO ?_;unfold B0;omega
def OG{m:Md}(h:okM AA m)(p:Int):tot (Jm m p)<=4200*(nU m.cs p).length:=by
 have hc:∀c∈nU m.cs p,c.b.length<=4096/\c.n.length<=64:=λc hc=>by
  have hx:=(List.mem_filter.1 hc).1;have q:=h.cs.2 c hx;unfold Jl at q;by_cases q1:jE c.n≠0
  .rw[aF q1]at q;exact absurd q q1
  rw[au q1]at q;by_cases q2:c.b.length>4096
  .rw[aF q2]at q;cases q
  .exact⟨by omega,H_ (B2.1 q1)⟩
 unfold Jm;generalize nU m.cs p=l at*
 induction l with
 | nil=>exact bG _
 | cons c l ih =>
  have h1:=ih λx hx=>hc x (by simp[hx]);obtain⟨h2,h3⟩:=hc c (by simp);rw[eR,tot,aT,je,Nat.mul_add];simp only;omega
def ZT{m:Md}(h:Kq m)(ht:B0 m<=6000):tot (P4 m)<=900000000/\(P4 m).length<=10000/\∀s∈P4 m,s.name.length<=64:=by
 have hcl:∀p,(nU m.cs p).length<=8:=λp=>jq (List.length_filter_le _ _) h.lim.cs.1;have hcn:∀p,∀s∈Jm m p,s.name.length<=64:=λp s hs=>by
  obtain⟨c,hc,rfl⟩:=iD.1 hs;have hx:=(List.mem_filter.1 hc).1;have q:=h.lim.cs.2 c hx;unfold Jl at q;by_cases q1:jE c.n≠0
  .rw[aF q1]at q;exact absurd q q1
  .exact H_ (B2.1 q1)
 have key:∀l:List Int,(8∈l->m.hs=true)->tot (zn m l)<=11000000*l.length/\(zn m l).length<=9*l.length/\∀s∈zn m l,s.name.length<=64:=λl=>by
  induction l with
  | nil=>exact λ_=>⟨bG _,bG _,λs hs=>by cases hs⟩
  | cons p l ih =>
   intro h8;obtain⟨i1,i2,i3⟩:=ih λq=>h8 (by simp[q]);have hp:=fT h ht p λq=>h8 (by simp[q]);have hc:=OG h.lim p;have hl:=hcl p;refine⟨?_,?_,λs hs=>?_⟩
   .rw[zn,tot,Cj,je,aT,Nat.mul_add];simp only[aC];omega
   .rw[zn,aT,aJ,aT];unfold Jm;rw[cU];omega
   .rw[zn]at hs;rcases eA.1 hs with rfl|hs
    .exact cQ _
    .rcases f9.1 hs with hs|hs
     .exact hcn p s hs
     .exact i3 s hs
 obtain⟨k1,k2,k3⟩:=key (qt m) λq=>(DP q).2.2.2.2.2.2.2.1 rfl;have hl:=vj m;have hc:=OG h.lim 0;have hcl0:=hcl 0;unfold P4;rw[Cj,aJ];refine⟨by omega,?_,λs hs=>?_⟩
 .unfold Jm;rw[cU];omega
 .rcases f9.1 hs with hs|hs
  .exact hcn 0 s hs
  .exact k3 s hs
section
attribute[local go_sem] wo wa
def YU(l:List ig)(hl:l.length<=10000)(ht:tot l<=900000000)(hnm:∀s∈l,s.name.length<=64):ac pg Dy [.sl 3 (l.map km)] (.tup [.sl 1 ((Aj l).2.map dY),.int .i64 (Aj l).1]):=by
 refine aD uG ?_;simp only[go_sem,uG];refine qS 904 905 (by decide) (by decide) (by decide) (by simp only[go_sem]) (by simp only[go_sem]) ?_;have ch:=fZ true [] Gg 0 ⟨by simp,by decide⟩;rw[show wB (true&&(0:Int)==0) [] Gg=Gg from rfl]at ch;simp only[go_sem];refine ee [15] (k:=904) (j:=905) (ch) (by decide) (by decide) (by decide) (by decide) (by first|rfl|simp[go_sem,ab]) (by simp[go_sem]) ?_ (by rfl) (by rfl) ?_
 .simp only[go_sem];rfl
 simp only[go_sem];refine an (λq:Nat×Int×List UInt8=>⟨[(4,.mp 904 3 0 0),(5,.int .i64 q.2.1),(20,.int .i64 (q.1:Nat)),(19,.int .i64 l.length),(18,.sl 3 (l.map km))],[(904,wo 905 true q.2.2 0),(905,wa q.2.2)]⟩) (λq=>q.1<=l.length/\0<=q.2.1/\q.2.2.length<=8+tot (l.take q.1)+11*q.1/\S6 (l.drop q.1) q.2.1 q.2.2=S8 l) (λq=>l.length-q.1) (0,0,Gg) ⟨cQ _,Int.le_refl _,by simp[Gg],rfl⟩ (Wk.of ?_ ?_) ?_
 .simp only[go_sem];try simp
 .simp only[go_sem];try simp[go_sem]
 rintro⟨i,last,w⟩ ⟨hi,hla,hw,hj⟩;replace hi:i<=l.length:=hi;replace hla:0<=last:=hla;replace hw:w.length<=8+tot (l.take i)+11*i:=hw;replace hj:S6 (l.drop i) last w=S8 l:=hj;have htl:=IF l i;have e8:=wi (n:=(i:Int)+1) (by omega) (by omega);by_cases h1:(i:Int)<(l.length:Int)
 .have hi':i<l.length:=by omega
  have htk:=KY hi';have hts:=IF l (i+1);have ferr:∀e,JM (ah l i) last=e->e≠0->Aj l=(e,[]):=λe h h2=>by
   have h3:S8 l=(e,[]):=by rw[<-hj,NO hi' (by rw[h];exact h2),h]
   rw[Aj,au (by rw[h3];exact λq=>h2 q.1),h3]
  by_cases c1:(ah l i).id<0
  .rw[ferr 4 (Gk (.inl c1)) (by decide)];simp only[go_sem,aL h1,aL c1];exact⟨by omega,h1,dd (Wk.nls _ 2 1 (by simp only[go_sem])) [] (by first|rfl|simp only[go_sem]) rfl⟩
  by_cases c2:(ah l i).id>12
  .rw[ferr 4 (Gk (.inr (.inl c2))) (by decide)];simp only[go_sem,aL h1,aM c1,aL c2];exact⟨by omega,h1,dd (Wk.nls _ 2 1 (by simp only[go_sem])) [] (by first|rfl|simp only[go_sem]) rfl⟩
  have hpc:=Ih (ah l i).id;have hla2:(0:Int)<=max last (jH (ah l i).id):=by omega
  have w8:IntKind.u8.wrap (ah l i).id=((UInt8.ofNat (ah l i).id.toNat).toNat:Int):=by rw[ofNat_toNat (by omega),vy];omega
  have hil:=NK (ah l i);have hnl:=bN hnm hi';have hpn:=lu (n:=(ah l i).name.length) (by omega);have hpi:=lu (n:=(vN (ah l i)).length) (by omega);have hel:(lV (ah l i)).length=1+(ay (vN (ah l i)).length).length+(vN (ah l i)).length:=by simp[lV];omega
  have hw2:(w++lV (ah l i)).length<=8+tot (l.take (i+1))+11*(i+1):=by rw[aJ];omega
  have cy:=vY true w (UInt8.ofNat (ah l i).id.toNat) 0 (by omega);rw[show wB (true&&(0:Int)==0) w [UInt8.ofNat (ah l i).id.toNat]=w++[UInt8.ofNat (ah l i).id.toNat] from rfl]at cy;have cp:=Iy true (w++[UInt8.ofNat (ah l i).id.toNat]) 0 (by simp;omega) true (vN (ah l i)) 0 (by omega);have rp:wP (true&&(0:Int)==0) (w++[UInt8.ofNat (ah l i).id.toNat]) 0 true (vN (ah l i)) 0=(w++lV (ah l i),0):=by simp[wP,wB,lV]
  rw[rp]at cp;by_cases c0:(ah l i).id=0
  .obtain⟨j1,j2⟩:=ZD (last:=last) c0;have hmx:max last (jH (ah l i).id)=last:=by rw[c0,Gx (by omega)];omega
   have d5:decide ((ah l i).id=0\/jH (ah l i).id>last)=true:=aL (.inl c0);simp only[go_sem,aL h1,aM c1,aM c2,bB c0,be c0];refine⟨by omega,h1,?_⟩;refine aj (Iv (ah l i).id last) ?_;simp only[go_sem,d5,pq,aF c0];refine qS 906 907 (by decide) (by decide) (by decide) (by simp only[go_sem]) (by simp only[go_sem]) ?_;simp only[go_sem,be c0];have cn:=Or true [] (ah l i).name 0 ⟨by simp,by omega⟩;rw[show(true&&(0:Int)==0)=true from rfl]at cn;refine aV [] (k:=906) (j:=907) (cn) ?_;by_cases he:(wN true [] 0 (ah l i).name).2=0
   .have hok:JM (ah l i) last=0:=by rw[j1];exact he
    have hin:ay (ah l i).name.length++(ah l i).name++gb (ah l i).bs=vN (ah l i):=by rw[vN,aF c0]
    have cB:=fZ true (ay (ah l i).name.length++(ah l i).name) (gb (ah l i).bs) 0 ⟨by simp;omega,by omega⟩;rw[show wB (true&&(0:Int)==0) (ay (ah l i).name.length++(ah l i).name) (gb (ah l i).bs)=vN (ah l i) from hin]at cB;simp only[go_sem,he,j2 he];refine dA [.mp 906 3 0 0,.sl 1 ((gb (ah l i).bs).map dY)] ⟨.inl rfl,zk _,trivial⟩ ?_;refine aV [] (k:=906) (j:=907) (cB) ?_;simp only[go_sem,w8];refine aV [] (k:=904) (j:=905) (cy) ?_;simp only[go_sem];refine d_ (σ2:=[(904,wo 905 true (w++[UInt8.ofNat (ah l i).id.toNat]) 0),(905,wa (w++[UInt8.ofNat (ah l i).id.toNat])),(906,wo 907 true (vN (ah l i)) 0),(907,wa (vN (ah l i)))]) (r3:=.tup []) (σ3:=[(904,wo 905 true (w++lV (ah l i)) 0),(905,wa (w++lV (ah l i))),(906,wo 907 true (vN (ah l i)) 0),(907,wa (vN (ah l i)))]) cp [(1000,904),(2000,905),(1001,906),(2001,907)] [905,907] rfl rfl rfl rfl ?_ ?_ ?_ ?_
    .simp only[go_sem];simp
    .simp only[go_sem];simp[sb,bw,iU,ak]
    .simp only[go_sem];simp[ak]
    have cd:=zC true (w++lV (ah l i)) 0 (by omega);rw[show wD true (w++lV (ah l i)) 0=(some (w++lV (ah l i)),0) from rfl]at cd;simp only[go_sem];refine aV [] (k:=904) (j:=905) (cd) ?_;simp only[go_sem];refine aE (i+1,max last (jH (ah l i).id),w++lV (ah l i)) ⟨hi',hla2,hw2,by rw[<-y_ hi' hok,hj]⟩ (show l.length-(i+1)<l.length-i by omega) (Wk.of ?_ ?_)
    .simp only[go_sem,e8,hmx]
     try simp
    .simp only[go_sem]
     try simp[go_sem]
   .have hf:(true&&(wN true [] 0 (ah l i).name).2==0)=false:=by rw[aw he];rfl
    have hnl:(wN true [] 0 (ah l i).name).1.length<1000:=by
     have:=hpn;unfold wN;simp only[br]
     repeat' split
     all_goals simp only[aJ,aC]
     all_goals omega
    have cB:=fZ true (wN true [] 0 (ah l i).name).1 (gb (ah l i).bs) (wN true [] 0 (ah l i).name).2 ⟨by omega,by omega⟩;rw[show wB (true&&(wN true [] 0 (ah l i).name).2==0) (wN true [] 0 (ah l i).name).1 (gb (ah l i).bs)=(wN true [] 0 (ah l i).name).1 by rw[hf];rfl]at cB;have cq:=Iy true (w++[UInt8.ofNat (ah l i).id.toNat]) 0 (by simp;omega) true (wN true [] 0 (ah l i).name).1 (wN true [] 0 (ah l i).name).2 (by omega);have rq:wP (true&&(0:Int)==0) (w++[UInt8.ofNat (ah l i).id.toNat]) 0 true (wN true [] 0 (ah l i).name).1 (wN true [] 0 (ah l i).name).2=(w++[UInt8.ofNat (ah l i).id.toNat],(wN true [] 0 (ah l i).name).2):=by simp[wP,he]
    rw[rq]at cq;have cd:=zC true (w++[UInt8.ofNat (ah l i).id.toNat]) (wN true [] 0 (ah l i).name).2 (by simp;omega);rw[show wD true (w++[UInt8.ofNat (ah l i).id.toNat]) (wN true [] 0 (ah l i).name).2=(none,(wN true [] 0 (ah l i).name).2)by simp[wD,he]]at cd;rw[ferr _ j1 he];simp only[go_sem];refine dA [.mp 906 3 0 0,.sl 1 ((gb (ah l i).bs).map dY)] ⟨.inl rfl,zk _,trivial⟩ ?_;refine aV [] (k:=906) (j:=907) (cB) ?_;simp only[go_sem,w8];refine aV [] (k:=904) (j:=905) (cy) ?_;simp only[go_sem];refine d_ (σ2:=[(904,wo 905 true (w++[UInt8.ofNat (ah l i).id.toNat]) 0),(905,wa (w++[UInt8.ofNat (ah l i).id.toNat])),(906,wo 907 true (wN true [] 0 (ah l i).name).1 (wN true [] 0 (ah l i).name).2),(907,wa (wN true [] 0 (ah l i).name).1)]) (r3:=.tup []) (σ3:=[(904,wo 905 true (w++[UInt8.ofNat (ah l i).id.toNat]) (wN true [] 0 (ah l i).name).2),(905,wa (w++[UInt8.ofNat (ah l i).id.toNat])),(906,wo 907 true (wN true [] 0 (ah l i).name).1 (wN true [] 0 (ah l i).name).2),(907,wa (wN true [] 0 (ah l i).name).1)]) cq [(1000,904),(2000,905),(1001,906),(2001,907)] [905,907] rfl rfl rfl rfl ?_ ?_ ?_ ?_
    .simp only[go_sem];simp
    .simp only[go_sem];simp[sb,bw,iU,ak]
    .simp only[go_sem];simp[ak]
    simp only[go_sem];refine aV [] (k:=904) (j:=905) (cd) ?_;simp only[go_sem,bv he];exact dd (Wk.nls _ 2 1 (by simp only[go_sem])) [] (by first|rfl|simp only[go_sem]) rfl
  .by_cases cn:(ah l i).name=[]
   .have n1:((ah l i).name==[])=true:=by rw[cn];rfl
    simp only[go_sem,aL h1,aM c1,aM c2,bv c0,n1];refine⟨by omega,h1,?_⟩;refine aj (Iv (ah l i).id last) ?_;by_cases hp:jH (ah l i).id<=last
    .rw[ferr 7 (ZE (by omega) cn hp) (by decide)];simp only[go_sem,aM (show ¬((ah l i).id=0\/jH (ah l i).id>last)by omega),wE];exact dd (Wk.nls _ 2 1 (by simp only[go_sem])) [] (by first|rfl|simp only[go_sem]) rfl
    .have hok:=S7 (last:=last) (show 1<=(ah l i).id/\(ah l i).id<=12 by omega) cn hp;have hmx:max last (jH (ah l i).id)=jH (ah l i).id:=by omega
     have hin:([]:List UInt8)++gb (ah l i).bs=vN (ah l i):=by rw[vN,au c0];rfl
     simp only[go_sem,aL (show((ah l i).id=0\/jH (ah l i).id>last)by omega),pq,au c0];refine qS 906 907 (by decide) (by decide) (by decide) (by simp only[go_sem]) (by simp only[go_sem]) ?_;simp only[go_sem,aw c0];have cB:=fZ true [] (gb (ah l i).bs) 0 ⟨by simp,by omega⟩;rw[show wB (true&&(0:Int)==0) [] (gb (ah l i).bs)=vN (ah l i) from hin]at cB;refine dA [.mp 906 3 0 0,.sl 1 ((gb (ah l i).bs).map dY)] ⟨.inl rfl,zk _,trivial⟩ ?_;refine aV [] (k:=906) (j:=907) (cB) ?_;simp only[go_sem,w8];refine aV [] (k:=904) (j:=905) (cy) ?_;simp only[go_sem];refine d_ (σ2:=[(904,wo 905 true (w++[UInt8.ofNat (ah l i).id.toNat]) 0),(905,wa (w++[UInt8.ofNat (ah l i).id.toNat])),(906,wo 907 true (vN (ah l i)) 0),(907,wa (vN (ah l i)))]) (r3:=.tup []) (σ3:=[(904,wo 905 true (w++lV (ah l i)) 0),(905,wa (w++lV (ah l i))),(906,wo 907 true (vN (ah l i)) 0),(907,wa (vN (ah l i)))]) cp [(1000,904),(2000,905),(1001,906),(2001,907)] [905,907] rfl rfl rfl rfl ?_ ?_ ?_ ?_
     .simp only[go_sem];simp
     .simp only[go_sem];simp[sb,bw,iU,ak]
     .simp only[go_sem];simp[ak]
     have cd:=zC true (w++lV (ah l i)) 0 (by omega);rw[show wD true (w++lV (ah l i)) 0=(some (w++lV (ah l i)),0) from rfl]at cd;simp only[go_sem];refine aV [] (k:=904) (j:=905) (cd) ?_;simp only[go_sem];refine aE (i+1,max last (jH (ah l i).id),w++lV (ah l i)) ⟨hi',hla2,hw2,by rw[<-y_ hi' hok,hj]⟩ (show l.length-(i+1)<l.length-i by omega) (Wk.of ?_ ?_)
     .simp only[go_sem,e8,hmx]
      try simp
     .simp only[go_sem]
      try simp[go_sem]
   .rw[ferr 4 (Gk (.inr (.inr ⟨c0,cn⟩))) (by decide)];have n1:((ah l i).name==[])=false:=by simpa using cn
    simp only[go_sem,aL h1,aM c1,aM c2,bv c0,n1];exact⟨by omega,h1,dd (Wk.nls _ 2 1 (by simp only[go_sem])) [] (by first|rfl|simp only[go_sem]) rfl⟩
 .have r0:S8 l=(0,w):=by rw[<-hj,List.drop_of_length_le (by omega)];rfl
  have cl:=adh true w 0;rw[show(if(true&&(0:Int)==0)=true then(w.length:Int)else 0)=(w.length:Int) from rfl]at cl;have cd:=zC true w 0 (by omega);rw[show wD true w 0=(some w,0) from rfl]at cd;unfold Aj;rw[r0];by_cases hb:(w.length:Int)>262144
  .rw[aF ⟨rfl,by show w.length>262144;omega⟩];simp only[go_sem,aM h1];refine aV [] (k:=904) (j:=905) (cl) ?_;simp only[go_sem,aL hb];exact dd (Wk.nls _ 2 1 (by simp only[go_sem])) [] (by first|rfl|simp only[go_sem]) rfl
  rw[au (λq=>hb (by have h2:w.length>262144:=q.2;omega))];simp only[go_sem,aM h1];refine aV [] (k:=904) (j:=905) (cl) ?_;simp only[go_sem,aM hb];refine aV [] (k:=904) (j:=905) (cd) ?_;simp only[go_sem];exact az
end
section
def toS(c:Cu):ig:=⟨0,c.n,some c.b⟩
def EM(p:Int):List Cu->List ig
 | []=>[]
 | c::cs=>if c.af=p then toS c::EM p cs else[]
def EL(p:Int):List Cu->List Cu
 | []=>[]
 | c::cs=>if c.af=p then EL p cs else c::cs
def QA(cs:List Cu):ao:=⟨31,1,[[.sl 3 (cs.map CB)]],true⟩
def QJ(q:Nat)(l:List ig):ao:=⟨65,1,[[.ms q 3 0 l.length]],true⟩
def pa(l:List ig):ao:=⟨69,3,l.map km,false⟩
def adl(c:Cu)(cs:List Cu):vZ 3 (.sl 3 ((c::cs).map CB)) (some (.int .i64 1)) none none=some (.sl 3 (cs.map CB)):=by
 have h1:cH 0 (some (.int .i64 1))=some 1:=rfl;simp[vZ,cH];exact dQ (by simp)
attribute[local go_sem] cU eS QA QJ pa
def XG(p:Int):∀(cs:List Cu)(l:List ig)(hc:cs.length<=8)(hl:l.length<=1000),aX pg j0 [.int .i64 p,.mp 1000 1 0 0,.mp 1001 1 0 0] [(1000,QA cs),(1001,QJ 2000 l),(2000,pa l)] sb (λr' σ'=>r' = .tup []/\σ'=[(1000,QA (EL p cs)),(1001,QJ 2000 (l++EM p cs)),(2000,pa (l++EM p cs))]):=by
 intro cs l hc hl;refine bT pB ?_;obtain⟨R,hR⟩:∃R,l++EM p cs=R:=⟨_,rfl⟩
 obtain⟨D,hD⟩:∃D,EL p cs=D:=⟨_,rfl⟩
 rw[hR,hD];simp only[go_sem,pB];refine an (λq:List Cu×List ig=>⟨[(2,.mp 1001 1 0 0),(1,.mp 1000 1 0 0),(0,.int .i64 p)],[(1000,QA q.1),(1001,QJ 2000 q.2),(2000,pa q.2)]⟩) (λq=>q.2++EM p q.1=R/\EL p q.1=D/\q.1.length+q.2.length<=1008) (λq=>q.1.length) (cs,l) ⟨hR,hD,by simp only;omega⟩ (Wk.of ?_ ?_) ?_
 .simp only[go_sem];try simp
 .simp only[go_sem];try simp[go_sem]
 rintro⟨C,L⟩ ⟨h1,h2,h3⟩;simp only at h1 h2 h3;rcases C with _|⟨c,C⟩
 .simp only[EM,gh,EL]at h1 h2;subst h1 h2;have d0:decide (((([]:List Cu).length:Nat):Int)>0)=false:=rfl;generalize ([]:List Cu)=E at*;simp only[go_sem,d0];exact da [] _ [(1000,QA E),(1001,QJ 2000 L),(2000,pa L)] ⟨rfl,rfl⟩
 have d0:decide ((((c::C).length:Nat):Int)>0)=true:=aL (by simp<;>omega);have hn:ah (c::C) 0=c:=rfl;have hsl:=adl c C;have hlt:(0:Int)<(((c::C).length:Nat):Int):=by simp<;>omega
 by_cases q:c.af=p;rotate_left
 .simp only[EM,EL,au q,gh]at h1 h2;subst h1 h2;generalize c::C=E at*;simp only[go_sem,d0,hn,aw q];refine⟨by omega,hlt,?_⟩;exact da [] _ [(1000,QA E),(1001,QJ 2000 L),(2000,pa L)] ⟨rfl,rfl⟩
 .simp only[EM,EL,aF q]at h1 h2;rw[aT]at h3;have hap:tC 2000 69 3 0 L.length [[.int .i64 0,.str c.n,.sl 1 (c.b.map dY)]] (some ⟨69,3,L.map km,false⟩)=some (.ms 2000 3 0 (L++[toS c]).length,.reb 2000 ⟨69,3,(L++[toS c]).map km,false⟩):=by
   rw[bX 2000 69 3 _ km _ _ rfl,aF ⟨by simp,by omega,.inr (by decide)⟩];simp[toS,km,Lg]
  generalize hE:c::C=E at*;simp only[go_sem,d0,hn,be q,hsl,hap];refine⟨by omega,hlt,by omega,hlt,by omega,hlt,?_⟩;refine aE (C,L++[toS c]) ⟨by rw[<-h1];simp,h2,by simp only[aJ,jI];omega⟩ (by subst hE;simp) (Wk.of ?_ ?_)
  .simp only[go_sem];try simp
  .simp only[go_sem];try simp[go_sem]
def Cz{p:Int}{cs:List Cu}{l:List ig}{d:Option Nat}{s:St}{K:St->Prop}(hc:cs.length<=8)(hl:l.length<=1000)(h0:ak s.heap 6=some (QA cs))(h1:ak s.heap 5=some (QJ 900 l))(h2:ak s.heap 900=some (pa l))
  (hK:K (((St.mk (dD [900] s.env) ([(6,QA (EL p cs)),(5,QJ 900 (l++EM p cs)),(900,pa (l++EM p cs))]++dx [900] s.heap)).put d (.tup [])))):cR pg j0 [.int .i64 p,.mp 6 1 0 0,.mp 5 1 0 0] d s K:=by
 have hsec:∀l:List ig,(iP (bw [(1000,6),(1001,5),(2000,900)]) (pa l))=pa l:=λl=>rfl;refine d_ (σ2:=[(6,QA cs),(5,QJ 900 l),(900,pa l)]) (r3:=.tup []) (σ3:=[(6,QA (EL p cs)),(5,QJ 900 (l++EM p cs)),(900,pa (l++EM p cs))]) (XG p cs l hc hl) [(1000,6),(1001,5),(2000,900)] [900] rfl rfl rfl rfl ?_ ?_ ?_ hK
 .simp[h0,h1,h2]
 .simp[sb,bw,iU,ak]
 .simp[ak]
def Mn(m:Md):List Cu->List Int->List ig
 | _,[]=>[]
 | cs,p::l=>⟨Bv p,[],some (dF m p)⟩::(EM p cs++Mn m (EL p cs) l)
def LH{p:Int}:∀(cs:List Cu),cs.Pairwise (λx y=>x.af<=y.af)->(∀c∈cs,p<=c.af)->EM p cs=(nU cs p).map toS/\(∀q,q≠p->nU (EL p cs) q=nU cs q)/\(EL p cs).Pairwise (λx y=>x.af<=y.af)/\(∀c∈EL p cs,c∈cs/\p<c.af)
 | [],_,_=>⟨rfl,λ_ _=>rfl,.nil,λc h=>by cases h⟩
 | c::cs,hs,hp=>by
  rw[List.pairwise_cons]at hs;obtain⟨i1,i2,i3,i4⟩:=LH cs hs.2 λx hx=>hp x (by simp[hx]);have hc:=hp c (by simp);by_cases q:c.af=p
  .rw[EM,EL,aF q,aF q,Ly,aF q,eR,<-i1];refine⟨rfl,λr hr=>?_,i3,λx hx=>⟨by simp[(i4 x hx).1],(i4 x hx).2⟩⟩;rw[i2 r hr,Ly,au (by omega)]
  .have lo:∀x∈cs,p<x.af:=λx hx=>by have:=hs.1 x hx;omega
   rw[EM,EL,au q,au q,Ly,au q,Wn lo];refine⟨rfl,λr _=>rfl,List.pairwise_cons.2 hs,λx hx=>⟨hx,?_⟩⟩;rcases eA.1 hx with rfl|hx
   .omega
   .exact lo x hx
def Ij(m:Md)(cs:List Cu):List Int->List ig
 | []=>[]
 | p::l=>⟨Bv p,[],some (dF m p)⟩::((nU cs p).map toS++Ij m cs l)
def Mo{m:Md}{cs cs':List Cu}:∀l:List Int,(∀q∈l,nU cs' q=nU cs q)->Ij m cs' l=Ij m cs l
 | [],_=>rfl
 | p::l,h=>by rw[Ij,Ij,h p (by simp),Mo l λq hq=>h q (by simp[hq])]
def Ui{m:Md}:∀(l:List Int)(cs:List Cu),l.Pairwise (· < ·)->cs.Pairwise (λx y=>x.af<=y.af)->(∀c∈cs,c.af∈l)->Mn m cs l=Ij m cs l
 | [],_,_,_,_=>rfl
 | p::l,cs,hl,hs,hin=>by
  rw[List.pairwise_cons]at hl;obtain⟨i1,i2,i3,i4⟩:=LH (p:=p) cs hs λc hc=>by
   rcases eA.1 (hin c hc)with q|q
   .omega
   .have:=hl.1 _ q;omega
  rw[Mn,Ij,i1,Ui l (EL p cs) hl.2 i3 λc hc=>by
   obtain⟨j1,j2⟩:=i4 c hc;rcases eA.1 (hin c j1)with q|q
   .omega
   .exact q,Mo l λq hq=>i2 q (by have:=hl.1 q hq;omega)]
def N6{ps:List Int}:∀(cs:List Cu)(l:Int),xZ ps l cs=true->cs.Pairwise (λx y=>x.af<=y.af)/\∀c∈cs,l<=c.af
 | [],_,_=>⟨.nil,λc h=>by cases h⟩
 | c::cs,l,ho=>by
  rw[xZ]at ho;simp only[cE,sz,Bool.or_eq_false_iff,decide_eq_false_iff_not]at ho;obtain⟨⟨h1,h2⟩,h3⟩:=ho;obtain⟨g1,g2⟩:=N6 cs c.af h3;refine⟨List.pairwise_cons.2 ⟨g2,g1⟩,λx hx=>?_⟩;rcases eA.1 hx with rfl|hx
  .omega
  .have:=g2 x hx;omega
def Uj(m:Md):∀l:List Int,Ij m m.cs l=zn m l
 | []=>rfl
 | p::l=>by rw[Ij,zn,Uj m l];rfl
def acF{m:Md}(h:Ig m=true):EM 0 m.cs++Mn m (EL 0 m.cs) (qt m)=P4 m:=by
 obtain⟨g1,g2⟩:=N6 m.cs 0 h;have hin:=N5 m.cs 0 h;have hl:=Oa m;rw[List.pairwise_cons]at hl;obtain⟨i1,i2,i3,i4⟩:=LH (p:=0) m.cs g1 g2
 rw[i1,Ui (qt m) _ hl.2 i3 λc hc=>by
  obtain⟨j1,j2⟩:=i4 c hc;rcases hin c j1 with q|q
  .omega
  .exact q,Mo (qt m) λq hq=>i2 q (by have:=hl.1 q hq;omega),Uj]
 rfl
def Hh(p:Int):∀cs:List Cu,(EL p cs).length<=cs.length/\(EM p cs).length<=cs.length
 | []=>⟨bG _,bG _⟩
 | c::cs=>by
  have:=Hh p cs;rw[EL,EM];split
  .simp only[aT];omega
  .simp
end
section
def Zy:∀l:List Fa,(v_ l).c=0->v_ l=eB
 | [],_=>rfl
 | F::r,h=>by
  rw[v_]at h⊢;by_cases q:F.c≠0
  .rw[aF q]at h;exact absurd h q
  .rw[au q]at h⊢;exact Zy r h
def ZG{m:Md}(hm:BZ m):(sc AA m).c=0↔okM AA m:=by
 rw[<-abR hm];constructor
 .intro h;rw[LX AA m hm]at h⊢;exact Zy _ h
 .intro h;rw[h];rfl
def Kn(m:Md):Prop:=(∀x∈m.fs,Fp x.b)/\(∀x∈m.gs,Fp x.i)/\(∀x∈m.els,Fp x.o/\∀l∈x.it,Fp l)/\∀x∈m.ds,Fp x.o
attribute[local go_sem] cU bC QA QJ pa wo wa
def zc{m:Md}(hs:BZ m)(hn:Kn m)(hI:CY m<=6000):ac pg mU [cY m] (.tup [.sl 1 ((gq m).2.map dY),.int .i64 (gq m).1]):=by
 refine aD sB ?_;have c1:=Ts AA m hs agK;simp only[cY,bC]at c1;simp only[go_sem,sB,cY];refine aj (c1) ?_;by_cases hL:(sc AA m).c=0;rotate_left
 .have r:gq m=((sc AA m).c,[]):=by unfold gq;rw[aF hL]
  rw[r];simp only[go_sem,bv hL];exact dd (Wk.nls _ 2 1 (by simp only[go_sem])) [] (by first|rfl|simp only[go_sem]) rfl
 have hok:=(ZG hs).1 hL;have c2:=Tt hok;simp only[cY,bC]at c2;simp only[go_sem,bB hL];refine aj (c2) ?_;cases hne:H3 m
 .have r:gq m=(16,[]):=by unfold gq;rw[au (by simp[hL]),aF hne]
  rw[r];simp only[go_sem];exact dd (Wk.nls _ 2 1 (by simp only[go_sem])) [] (by first|rfl|simp only[go_sem]) rfl
 have c3:=PO (m:=m) (by have:=hok.cs.1;omega);simp only[cY,bC]at c3;simp only[go_sem];refine aj (c3) ?_;cases hor:Ig m
 .have r:gq m=(7,[]):=by unfold gq;rw[au (by simp[hL]),au (by simp[hne]),aF hor]
  rw[r];simp only[go_sem];exact dd (Wk.nls _ 2 1 (by simp only[go_sem])) [] (by first|rfl|simp only[go_sem]) rfl
 have r:gq m=Aj (P4 m):=by unfold gq;rw[au (by simp[hL]),au (by simp[hne]),au (by simp[hor])]
 rw[r];have h:Kq m:=⟨hok,hne,hor,hn⟩
 have htot:B0 m<=6000:=by have:=JJ hok;omega
 obtain⟨b1,b2,b3⟩:=ZT h htot;have c4:=TE m;simp only[cY,bC]at c4;have c7:=YU (P4 m) b2 b1 b3;have hcs:=hok.cs.1;obtain⟨l0,l1⟩:=Hh 0 m.cs;simp only[go_sem];refine⟨by kernel_rfl,?_⟩;refine ii (EG.new0 _ _ 900 3 69 (by decide) (by simp[go_sem])) ?_;refine ii (EG.nlm _ _ 5 (t:=65) (st:=1) (r:=[.nl]) (r':=[.ms 900 3 0 0]) (by simp only[go_sem]) ⟨.inr ⟨rfl,.inr ⟨900,3,rfl⟩⟩,trivial⟩) ?_;refine Cz (cs:=m.cs) (l:=[]) (by omega) (by simp) (by simp only[go_sem]) (by simp only[go_sem]) (by simp only[go_sem]) ?_;simp only[go_sem,fA];refine aj (c4) ?_;have hpf:=acF hor;have hpl:=vj m;have hpi:=Ii m;have hp8:(8:Int)∈qt m->m.hs=true:=λq=>(DP q).2.2.2.2.2.2.2.1 rfl;have hbb:=λp h8=>fT h htot p h8;generalize qt m=ps at*;simp only[go_sem];refine an (λq:Nat×List Cu×List ig=>⟨[(37,.int .i64 q.1),(36,.int .i64 ps.length),(35,.sl 1 (ps.map ri)),(7,.fn j0 [.mp 6 1 0 0,.mp 5 1 0 0]),(6,.mp 6 1 0 0),(5,.mp 5 1 0 0),(1,.mp 1 12 0 0)],[(6,QA q.2.1),(5,QJ 900 q.2.2),(900,pa q.2.2),(1,⟨33,12,[[.sl 2 (m.ts.map vK),.sl 13 (m.ims.map vM),.sl 3 (m.fs.map qB),.sl 4 (m.tbs.map xx),.sl 3 (m.ms.map p7),.sl 3 (m.gs.map zX),.sl 3 (m.exs.map y6),.bool m.hs,.int .i64 m.st,.sl 5 (m.els.map fR),.sl 4 (m.ds.map nz),.sl 3 (m.cs.map CB)]],true⟩)]⟩) (λq=>q.1<=ps.length/\q.2.2++Mn m q.2.1 (ps.drop q.1)=P4 m/\q.2.1.length<=8/\q.2.2.length<=9*q.1+8) (λq=>ps.length-q.1) (0,EL 0 m.cs,EM 0 m.cs) ⟨cQ _,hpf,by simp only;omega,by simp only;omega⟩ (Wk.of ?_ ?_) ?_
 .simp only[go_sem];try simp
 .simp only[go_sem];try simp[go_sem]
 rintro⟨i,C,L⟩ ⟨hi2,hP,hC,hL2⟩;simp only at hi2 hP hC hL2;by_cases q1:(i:Int)<(ps.length:Int);rotate_left
 .rw[M9 (by omega),Mn,gh]at hP;subst hP;simp only[go_sem,aM q1];refine oU [900] ?_ c7 (by simp[go_sem]) ?_
  .simp only[go_sem,bG];rw[dQ (by simp)]
  simp only[go_sem];exact az
 have hi':i<ps.length:=by omega
 have e8:=dv hi' (by omega);have hin:ah ps i∈ps:=by rw[bD hi'];exact na hi'
 rw[qk hi',Mn]at hP;generalize hp:ah ps i=p at*;have hp1:=hpi p hin;have hp8':p=8->m.hs=true:=λq=>hp8 (q▸hin);have c5:=ahk h hp1 hp8';have hb5:=hbb p hp8';have cd:=zC true (dF m p) 0 (by omega);rw[show wD true (dF m p) 0=(some (dF m p),0) from rfl]at cd;have c6:=agI p;simp only[cY,bC]at c5;obtain⟨f1,f2⟩:=Hh p C;obtain⟨S,hS⟩:∃S:ig,(⟨Bv p,[],some (dF m p)⟩:ig)=S:=⟨_,rfl⟩
 have hap:tC 900 69 3 0 L.length [[.int .i64 (Bv p),.str [],.sl 1 ((dF m p).map dY)]] (some ⟨69,3,L.map km,false⟩)=some (.ms 900 3 0 (L++[S]).length,.reb 900 ⟨69,3,(L++[S]).map km,false⟩):=by
  rw[bX 900 69 3 _ km _ _ rfl,aF ⟨by simp,by omega,.inl (by decide)⟩,<-hS];simp[km,Lg]
 rw[hS]at hP;simp only[go_sem,aL q1,hp];refine⟨by omega,q1,?_⟩;refine qS 904 905 (by decide) (by decide) (by decide) (by simp only[go_sem]) (by simp only[go_sem]) ?_;simp only[go_sem];refine Lu (k:=904) (j:=905) (l:=[]) c5 rfl (by simp[go_sem]) (by rfl) (by rfl) (by simp only[aC];omega) (by decide) ?_;simp only[go_sem,fA];refine aV [] (k:=904) (j:=905) (cd) ?_;simp only[go_sem];refine aN c6 (by simp[go_sem]) rfl ?_;simp only[go_sem,hap];refine⟨by kernel_rfl,?_⟩;refine Cz (cs:=C) (l:=L++[S]) hC (by simp only[aJ,jI];omega) (by simp only[go_sem]) (by simp only[go_sem]) (by simp only[go_sem]) ?_;simp only[go_sem];refine aE (i+1,EL p C,L++[S]++EM p C) ⟨show i+1<=ps.length by omega,by rw[<-hP];simp,by simp only;omega,by simp only[aJ,jI];omega⟩ (show ps.length-(i+1)<ps.length-i by omega) (Wk.of ?_ ?_)
 .simp only[go_sem,e8];try simp
 .simp only[go_sem];try simp[go_sem]
def NV{m:Md}(hs:BZ m)(hn:Kn m)(hI:CY m<=6000):ac pg C6 [cY m] (.bool ((gq m).1==0)):=by
 refine aD tV ?_;have c:=zc hs hn hI;simp only[cY,bC]at c;simp only[go_sem,tV,cY];refine aa (c) ?_;exact az
