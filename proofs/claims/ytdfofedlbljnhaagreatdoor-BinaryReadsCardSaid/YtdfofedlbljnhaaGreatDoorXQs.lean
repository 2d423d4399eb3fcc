import Derived.Test.YtdfofedlbljnhaaGreatDoorXQr
set_option linter.all false
set_option maxRecDepth 100000
set_option maxHeartbeats 40000000
namespace Go.Proofs.YtdfofedlbljnhaaGreatDoor
open Go Go.Mw
def nrm(s:fW):fW:=⟨s.id,s.name,some (gb s.bs)⟩
def uD(cs:List Cu)(p:Int):List Cu:=cs.filter λc=>c.af==p
def cus(m:Md)(p:Int):List fW:=(uD m.cs p).map λc=>⟨0,c.n,some c.b⟩
def E4(m:Md):List Int->List fW
 | []=>[]
 | p::l=>⟨Ra p,[],some (CH m p)⟩::(cus m p++E4 m l)
def Yq(m:Md):List fW:=cus m 0++E4 m (xG m)
def Lh(l:List fW):Int×Af:=if(joi l).1=0/\(joi l).2.length>262144 then(6,[])else joi l
def Ls(m:Md):Bool:=m.fs.all (λx=>(nchk x.b).2==0)&&m.gs.all (λx=>(nchk x.i).2==0)&&m.els.all (λx=>(x.mo != 0||(nchk x.o).2==0)&&x.it.all λl=>(nchk l).2==0)&&m.ds.all (λx=>x.mo != 0||(nchk x.o).2==0)
def E0(ps:List Int):Int->List Cu->Bool
 | _,[]=>true
 | l,c::r=>!(decide (c.af<l) || !(decide (c.af=0\/c.af∈ps)))&&E0 ps c.af r
def Pr(m:Md):Bool:=E0 (xG m) 0 m.cs
def qZ(m:Md):Int×Af :=
 if(vy F4 m).c≠0 then((vy F4 m).c,[])else if Ls m=false then(16,[])else if Pr m=false then(7,[])else Lh (Yq m)
def Gm(d:Dc)(s:fW):Except Int Dc :=
 if s.id=0 then(if d.m.cs.length>=8\/(gb s.bs).length>4096 then .error 6 else .ok {d with m:={d.m with cs:=d.m.cs++[⟨d.place,s.name,gb s.bs⟩]}})else UY d (gd s.id) (gb s.bs)
def A8:List fW->Dc->Except Int Dc
 | [],d=>.ok d
 | s::r,d=>match Gm d s with
  | .ok d'=>A8 r d'
  | .error e=>.error e
def z6:Md:=⟨[],[],[],[],[],[],[],false,0,[],[],[]⟩
def zO:Dc:=⟨z6,0,0,-1⟩
def Wy(r:Except Int Dc):Except Int Md:=match r with
 | .ok d=>if(d.codes:Int)≠d.m.fs.length\/(d.data>=0/\d.data≠d.m.ds.length)then .error 8 else .ok d.m
 | .error e=>.error e
def IJ(b:Af):Except Int Md:=if b.length>262144 then .error 6 else if(oy b).1≠0 then .error (oy b).1 else Wy (A8 (oy b).2 zO)
structure Lw(m:Md):Prop where
 lim:okM F4 m
 nes:Ls m=true
 ord:Pr m=true
 num:(∀x∈m.fs,JP x.b)/\(∀x∈m.gs,JP x.i)/\(∀x∈m.els,JP x.o/\∀l∈x.it,JP l)/\∀x∈m.ds,JP x.o
def rn{l:List be}(h:((nchk l).2==0)=true):Bl l:=(Pj l).1 (by simpa using h)
def XO{m:Md}(h:Ls m=true):(∀x∈m.fs,Bl x.b)/\(∀x∈m.gs,Bl x.i)/\(∀x∈m.els,(x.mo=0->Bl x.o)/\∀l∈x.it,Bl l)/\∀x∈m.ds,x.mo=0->Bl x.o:=by
 unfold Ls at h;simp only[cW,fk]at h;obtain⟨⟨⟨h1,h2⟩,h3⟩,h4⟩:=h;refine⟨λx hx=>rn (h1 x hx),λx hx=>rn (h2 x hx),λx hx=>⟨λq=>?_,λl hl=>rn ((h3 x hx).2 l hl)⟩,λx hx q=>?_⟩
 .have:=(h3 x hx).1;rw[q]at this;exact rn (by simpa using this)
 .have:=h4 x hx;rw[q]at this;exact rn (by simpa using this)
def o5:∀(l:List be),Qc l->(j5 l).length<=400*l.length
 | [],_=>a_ _
 | x::l,h=>by
  have h1:=o5 l λy hy=>h y (by simp[hy]);obtain⟨g1,g2,_⟩:=h x (by simp);have:=Ry g1 (by omega);rw[KY,cP,i0];omega
def re{α:Type}{f:α->Af}{n:Nat}:∀(l:List α),(∀x∈l,(f x).length<=n)->(l.flatMap f).length<=n*l.length
 | [],_=>a_ _
 | x::l,h=>by
  have h1:=re l λy hy=>h y (by simp[hy]);have:=h x (by simp);rw[B1,cP,i0,Nat.mul_add];omega
def FA{x:Cd}(h1:x.lo.length<=64)(h4:Qc x.b)(h5:x.b.length<=2048):(oZ x).length<=1000000:=by
 have h2:=o5 x.b h4;have h3:=yT x.lo.length x.lo
 have h6:=re (f:=EA) (n:=11) (pn x.lo) (λp hp=>by
  have hp2:=mi (k:=9) (n:=p.1) (by
   have:p.1<=(OJ (pn x.lo)).length:=by
    unfold OJ;obtain⟨l1,l2,e⟩:=List.append_of_mem hp;rw[e];simp only[Ee,B1,cP,List.length_replicate];omega
   unfold pn at this;rw[zR _ _ (a_ _)]at this;omega)
  unfold EA i8;rw[cP,dK];omega)
 have h7:=cH (n:=(pn x.lo).length) (by unfold pn;omega);have h8:(pn x.lo).length<=64:=by unfold pn;omega
 unfold oZ MM br;simp only[cP];omega
def HH{m:Md}(h:Lw m):∀x∈m.fs,x.lo.length<=64/\(∀t∈x.lo,qh t=true)/\Bl x.b/\Qc x.b/\x.b.length<=2048/\tC x.t=true:=λx hx=>by
 obtain⟨a1,a2,a3⟩:=aez (h.lim.fs.2 x hx);obtain⟨j1,j2⟩:=yJ (h.lim.bo x hx) (h.num.1 x hx);exact⟨a2,a3,(XO h.nes).1 x hx,j1,j2,a1⟩
def KW{d:Af}{m:Nat}(h:(dm d 32).2.2=0)(hm:m<=(dm d 32).1):(aD m).length<=(dm d 32).2.1:=by
 unfold dm at h hm⊢;by_cases h1:gP d 32≠0
 .rw[au h1]at h;exact absurd h h1
 rw[ak h1]at h hm⊢;by_cases h2:(ac d (cx d 32)).toNat/2^uB 32 (cx d 32)≠0
 .rw[au h2]at h;exact absurd h (show ¬(4:Int)=0 by decide)
 rw[ak h2]at hm⊢;refine mi (k:=cx d 32) ?_;have h3:=H_ (d.take (cx d 32+1));rcases fY d 32 with⟨g1,g2,g3,g4⟩|⟨g1,g2⟩
 .rw[qD,B4 (by omega)]at h3;have h4:=Nat.mod_le (cY (d.take (cx d 32+1))) 18446744073709551616;simp only at hm;omega
 .rcases g1 with g1|g1<;>rw[g1]at h1<;>exact absurd (by decide) h1
def acL{d:Af}{a m:Nat}(h:(rU true 32 d a 0).2.2=0)(hm:m<=(rU true 32 d a 0).1):a+(aD m).length<=(rU true 32 d a 0).2.1:=by
 unfold rU at h hm⊢;simp only[aN]at h hm⊢;by_cases h1:(dm (d.drop a) 32).2.2≠0
 .rw[au h1]at h;exact absurd h h1
 rw[ak h1]at hm⊢;have:=KW (ve.1 h1) hm;simp only;omega
def Uj{b:Af}{a:Nat}{n:Nat}{e:Int}(h:(aO (e==0) b a e n).2.2=0)(ha:a<=b.length):e=0/\a+n<=b.length/\aO (e==0) b a e n=(some ((b.drop a).take n),a+n,0):=by
 obtain⟨g1,g2,g3,g4⟩:=Gb (λh=>by simpa using h) h (λh=>by simpa using h) ha;rw[eB]at g3 g4;refine⟨?_,g3,g4⟩;by_cases he:e=0
 .exact he
 .rw[aA he]at h;exact absurd h (by simpa[aO]using he)
def Zf{d:Af}(hd:0<d.length)(h:(lm d).2.2=0):∃x,(lm d).1=some x/\(lm d).2.1<=d.length/\∀m:Nat,m<=x.length->1+(aD m).length+x.length<=(lm d).2.1:=by
 have h2:=PC (ok:=true) (bits:=32) (b:=d) (a:=1) (e:=0) (by omega);obtain⟨g1,g2,g3⟩:=Uj h h2;unfold lm;rw[g3];refine⟨_,rfl,g2,λm hm=>?_⟩;have hx:((d.drop (rU true 32 d 1 0).2.1).take (rU true 32 d 1 0).1).length=(rU true 32 d 1 0).1:=by simp;omega
 rw[hx]at hm⊢;have:=acL g1 hm;simp only;omega
def ry{α:Type}(b:Af)(t:PS α):α×Int:=((t 0 0).1,sa b (t 0 0).2.1 (t 0 0).2.2)
def acm{α:Type}{b:Af}{t:PS α}{g:Nat->Rd α}(h:dn b t g):(∃x,ED (g 0) b = .ok x/\ry b t=(x,0))\/∃e,ED (g 0) b = .error e/\e≠0/\(ry b t).2=e:=by
 obtain⟨h1,_,h3⟩:=h 0 0 (cm _);unfold ED ry sa;rcases h3 rfl with⟨x,k,g1,g2⟩|⟨e',k,g1,g2,g3⟩
 .rw[g1,g2];simp only;by_cases hk:k=b.length
  .exact .inl ⟨x,au hk,by rw[ak (by simp),au hk]⟩
  .exact .inr ⟨5,ak hk,by decide,by rw[ak (by simp),ak hk]⟩
 .rw[g1];have h2:(t 0 0).2.2=e':=by rw[g3]
  exact .inr ⟨e',rfl,g2,by simp only;rw[h2,au g2]⟩
def pE{α:Type}(q:α×Int)(f:α->Dc):Dc×Int:=(f q.1,q.2)
def Sm(q:Dc×Int)(r:Except Int Dc):Prop:=(q.2=0/\r = .ok q.1)\/(q.2≠0/\r = .error q.2)
def mX{α:Type}{b:Af}{t:PS α}{g:Nat->Rd α}(h:dn b t g)(f:α->Dc):Sm (pE (ry b t) f) ((ED (g 0) b).map f):=by
 rcases acm h with⟨x,h1,h2⟩|⟨e,h1,h2,h3⟩
 .exact .inl ⟨by unfold pE;rw[h2],by rw[h1];unfold pE;rw[h2];rfl⟩
 .exact .inr ⟨by unfold pE;rw[h3];exact h2,by rw[h1];unfold pE;rw[h3];rfl⟩
def pTn(b:Af):PS Int:=pb (kv b) λn=>pP (n:Int)
def ZU(b:Af):dn b (pTn b) (Vu b):=kW.bd λn=>dn.pure (b:=b) (n:Int)
def R1(b:Af)(a:Nat):Rd Cd:=fq (gU b a) λt k=>.ok ((⟨(t:Int),[],[]⟩:Cd),k)
def ZJ(b:Af):∀(n a:Nat),gN R1 n b a=fq (gN Vu n b a) λl k=>.ok (l.map λt=>(⟨t,[],[]⟩:Cd),k)
 | 0,a=>rfl
 | n+1,a=>by
  rw[gN,gN,R1,Vu];cases h:gU b a with
  | ok q =>
   obtain⟨x,k⟩:=q;simp only[dq];rw[ZJ b n k];cases gN Vu n b k with
   | ok q=>rfl
   | error e=>rfl
  | error e=>rfl
def WE(b:Af)(f:List Cd->Dc):(ED (zG R1 64 b 0) b).map f=(ED (zG Vu 64 b 0) b).map λl=>f (l.map λt=>(⟨t,[],[]⟩:Cd)):=by
 unfold zG;cases gC b 0 64 with
 | error e=>rfl
 | ok q =>
  obtain⟨n,k⟩:=q;rw[dq,dq,ZJ];cases gN Vu n b k with
  | error e=>rfl
  | ok q =>
   obtain⟨l,k2⟩:=q;rw[dq];unfold ED;simp only;by_cases h:k2=b.length
   .rw[au h,au h];rfl
   .rw[ak h,ak h];rfl
def uA(fs:List Cd)(l:List (List Int×List be)):List Cd:=fs.zipIdx.map λx=>if x.2<l.length then(⟨x.1.t,(ac l x.2).1,(ac l x.2).2⟩:Cd)else x.1
def m6(d:Dc)(p:Int)(b:Af):Dc×Int :=
 if p=1 then pE (ry b (pL b (Ny b) (64:Nat))) λl=>⟨{d.m with ts:=l},p,d.codes,d.data⟩else
 if p=2 then pE (ry b (pL b (Ir b) (32:Nat))) λl=>⟨{d.m with ims:=l},p,d.codes,d.data⟩else
 if p=3 then pE (ry b (pL b (Eo b) (64:Nat))) λl=>⟨{d.m with fs:=l},p,d.codes,d.data⟩else
 if p=4 then pE (ry b (pL b (dF (Ce b) tI) (4:Nat))) λl=>⟨{d.m with tbs:=l},p,d.codes,d.data⟩else
 if p=5 then pE (ry b (pL b (dF (yl b) ⟨0,0,false⟩) (2:Nat))) λl=>⟨{d.m with ms:=l},p,d.codes,d.data⟩else
 if p=6 then pE (ry b (pL b (Nz b) (32:Nat))) λl=>⟨{d.m with gs:=l},p,d.codes,d.data⟩else
 if p=7 then pE (ry b (pL b (Kz b) (64:Nat))) λl=>⟨{d.m with exs:=l},p,d.codes,d.data⟩else
 if p=8 then pE (ry b (pTn b)) λn=>⟨{d.m with hs:=true,st:=n},p,d.codes,d.data⟩else
 if p=9 then pE (ry b (pL b (Iq b) (16:Nat))) λl=>⟨{d.m with els:=l},p,d.codes,d.data⟩else
 if p=10 then pE (ry b (pTn b)) λn=>⟨d.m,p,d.codes,n⟩else
 if p=11 then pE (ry b (pL b (uS b) (64:Nat))) λl=>⟨{d.m with fs:=uA d.m.fs l},p,l.length,d.data⟩else
 pE (ry b (pL b (Ip b) (16:Nat))) λl=>⟨{d.m with ds:=l},p,d.codes,d.data⟩
def TP(b:Af):dn b (pL b (Eo b) (64:Nat)) (zG R1 64 b):=dn.l (g:=R1) (TO b) 64
def adh(d:Dc)(p:Int)(b:Af):Sm (m6 d p b) (UY d p b):=by
 unfold m6 UY;simp only;by_cases h1:p=1
 .rw[au h1,au h1];exact mX (dn.l (g:=gFt) HJ _) _
 rw[ak h1,ak h1];by_cases h2:p=2
 .rw[au h2,au h2];exact mX (dn.l (g:=gIm) (Nr b) _) _
 rw[ak h2,ak h2];by_cases h3:p=3
 .rw[au h3,au h3];have:=mX (TP b) λl=>(⟨{d.m with fs:=l},p,d.codes,d.data⟩:Dc)
  rw[WE]at this;exact this
 rw[ak h3,ak h3];by_cases h4:p=4
 .rw[au h4,au h4];exact mX (dn.l (g:=Ce) ((yn b).oks tI) _) _
 rw[ak h4,ak h4];by_cases h5:p=5
 .rw[au h5,au h5];exact mX (dn.l (g:=yl) ((ym b).oks _) _) _
 rw[ak h5,ak h5];by_cases h6:p=6
 .rw[au h6,au h6];exact mX (dn.l (g:=gGd) (Nq b) _) _
 rw[ak h6,ak h6];by_cases h7:p=7
 .rw[au h7,au h7];exact mX (dn.l (g:=gEx) (Np b) _) _
 rw[ak h7,ak h7];by_cases h8:p=8
 .rw[au h8,au h8];exact mX (ZU b) _
 rw[ak h8,ak h8];by_cases h9:p=9
 .rw[au h9,au h9];exact mX (dn.l (g:=gEl) (Nn b) _) _
 rw[ak h9,ak h9];by_cases h10:p=10
 .rw[au h10,au h10];exact mX (ZU b) _
 rw[ak h10,ak h10];by_cases h11:p=11
 .rw[au h11,au h11];exact mX (dn.l (g:=gCd) (Nk b) _) _
 rw[ak h11,ak h11];exact mX (dn.l (g:=gDa) (Nl b) _) _
def dh(d:Dc)(s:fW):Dc×Int :=
 if s.id=0 then(if d.m.cs.length>=8\/(gb s.bs).length>4096 then(d,6)else(⟨{d.m with cs:=d.m.cs++[⟨d.place,s.name,gb s.bs⟩]},d.place,d.codes,d.data⟩,0))else m6 d (gd s.id) (gb s.bs)
def Zb(d:Dc)(s:fW):Sm (dh d s) (Gm d s):=by
 unfold dh Gm;by_cases h:s.id=0
 .rw[au h,au h];by_cases h2:d.m.cs.length>=8\/(gb s.bs).length>4096
  .rw[au h2,au h2];exact .inr ⟨(show(6:Int)≠0 by decide),rfl⟩
  .rw[ak h2,ak h2];exact .inl ⟨rfl,rfl⟩
 .rw[ak h,ak h];exact adh d _ _
def xk:List fW->Dc->Md×Int
 | [],d=>if(d.codes:Int)≠d.m.fs.length\/(d.data>=0/\d.data≠d.m.ds.length)then(z6,8)else(d.m,0)
 | s::r,d=>if(dh d s).2≠0 then(z6,(dh d s).2)else xk r (dh d s).1
def oY(b:Af):Md×Int:=if b.length>262144 then(z6,6)else if(oy b).1≠0 then(z6,(oy b).1)else xk (oy b).2 zO
def SmM(q:Md×Int)(r:Except Int Md):Prop:=(q.2=0/\r = .ok q.1)\/(q.1=z6/\q.2≠0/\r = .error q.2)
def Rq:∀(l:List fW)(d:Dc),SmM (xk l d) (Wy (A8 l d))
 | [],d=>by
  unfold xk A8 Wy;simp only;by_cases h:(d.codes:Int)≠d.m.fs.length\/(d.data>=0/\d.data≠d.m.ds.length)
  .rw[au h,au h];exact .inr ⟨rfl,by decide,rfl⟩
  .rw[ak h,ak h];exact .inl ⟨rfl,rfl⟩
 | s::r,d=>by
  rw[xk,A8];rcases Zb d s with⟨h1,h2⟩|⟨h1,h2⟩
  .rw[ak (by rw[h1];decide),h2];exact Rq r _
  .rw[au h1,h2];exact .inr ⟨rfl,h1,rfl⟩
def Rs(b:Af):SmM (oY b) (IJ b):=by
 unfold oY IJ;by_cases h1:b.length>262144
 .rw[au h1,au h1];exact .inr ⟨rfl,by decide,rfl⟩
 rw[ak h1,ak h1];by_cases h2:(oy b).1≠0
 .rw[au h2,au h2];exact .inr ⟨rfl,h2,rfl⟩
 rw[ak h2,ak h2];exact Rq _ _
def Uk{b:Af}{a:Nat}{e:Int}{n:Int}{x:Af}(h:(aO (e==0) b a e n).1=some x):x.length<=b.length:=by
 unfold aO at h
 repeat' split at h
 all_goals first|(cases h;done)|(injection h with h;subst h;simp only[qD,jK];omega)
def adt(d:Af):(gb (lm d).1).length<=d.length:=by
 cases h:(lm d).1 with
 | none=>exact cm _
 | some x=>rw[db];exact Uk h
def Nv{d:Af}{last:Int}(h:(bP d last).1=0):(gb (bP d last).2.1.bs).length<=d.length/\((bP d last).2.1.id=0\/(1<=(bP d last).2.1.id/\(bP d last).2.1.id<=12)):=by
 have hl:=adt d;unfold bP at h⊢;by_cases h1:(ac d 0).toNat>12
 .rw[au h1]at h;cases h
 rw[ak h1]at h⊢;by_cases h2:(lm d).2.2≠0
 .rw[au h2]at h;exact absurd h h2
 rw[ak h2]at h⊢;by_cases h3:(ac d 0).toNat≠0/\gd (ac d 0).toNat<=last
 .rw[au h3]at h;cases h
 rw[ak h3]at h⊢;by_cases h4:(gc (ac d 0).toNat (gb (lm d).1)).1≠0
 .rw[au h4]at h;exact absurd h h4
 rw[ak h4];simp only;rw[ve]at h4;generalize gb (lm d).1=x at*;unfold gc at h4⊢;by_cases h5:((ac d 0).toNat:Int)=0
 .rw[au h5]at h4⊢;by_cases h6:(ci true x 0 0).2.2≠0
  .rw[au h6]at h4;exact absurd h4 h6
  .rw[ak h6];simp only;rw[db,jK];exact⟨by omega,.inl trivial⟩
 .rw[ak h5];simp only;rw[db];exact⟨hl,.inr (by omega)⟩
def NV:∀(f:Nat)(d:Af)(last:Int)(acc:List fW)(n:Nat),d.length<=n->(∀s∈acc,(gb s.bs).length<=n/\(s.id=0\/(1<=s.id/\s.id<=12)))->∀s∈(pp f d last acc).2,(gb s.bs).length<=n/\(s.id=0\/(1<=s.id/\s.id<=12))
 | 0,d,last,acc,n,_,h=>h
 | f+1,d,last,acc,n,hd,h=>by
  rw[pp];by_cases h0:d.length=0
  .rw[au h0];exact h
  rw[ak h0];by_cases h1:(bP d last).1≠0
  .rw[au h1];intro s hs;cases hs
  rw[ak h1];rw[ve]at h1;obtain⟨g1,g2⟩:=Nv h1;refine NV f _ _ _ n ?_ λs hs=>?_
  .have:(bP d last).2.2.length<=d.length:=by
    unfold bP
    repeat' split
    all_goals first|exact cm _|(simp only[jK];omega)
   omega
  .rcases f7.1 hs with q|q
   .exact h s q
   .simp only[jJ]at q;subst q;exact⟨by omega,g2⟩
def U8(b:Af):∀s∈(oy b).2,(gb s.bs).length<=b.length/\(s.id=0\/(1<=s.id/\s.id<=12)):=by
 unfold oy;split
 .intro s hs;cases hs
 split
 .intro s hs;cases hs
 .exact NV _ _ _ _ _ (by rw[jK];omega) λs hs=>by cases hs
def T0{α:Type}(one:PS α):∀(n a:Nat)(e:Int),(pN one n a e).1.length<=n
 | 0,a,e=>a_ _
 | n+1,a,e=>by
  by_cases he:e=0
  .subst he;rw[JU];have:=T0 one n (one a 0).2.1 (one a 0).2.2;simp only[i0];omega
  .rw[HM he];exact cm _
def LD{α:Type}(b:Af)(one:PS α)(most:Int)(a:Nat)(e:Int):(pL b one most a e).1.length<4294967296:=by
 have h1:=T0 one (pC b most a e).1 (pC b most a e).2.1 (pC b most a e).2.2;have h2:=pj (b:=b) (most:=most) (a:=a) (e:=e);exact Nat.lt_of_le_of_lt h1 h2
def dO(fs:List Cd)(l:List (List Int×List be)):(uA fs l).length=fs.length:=by unfold uA;simp
def KV(c:Cu)(cs:List Cu)(p:Int):uD (c::cs) p=if c.af=p then c::uD cs p else uD cs p:=by
 unfold uD;rw[List.filter_cons];by_cases h:c.af=p
 .rw[au h,au (by simpa using h)]
 .rw[ak h,ak (by simpa using h)]
def Wn{cs:List Cu}{p:Int}(h:∀c∈cs,p<c.af):uD cs p=[]:=by
 unfold uD;rw[List.filter_eq_nil_iff];intro c hc;have:=h c hc;simp;omega
def Nw{ps:List Int}:∀(cs:List Cu)(l:Int),E0 ps l cs=true->∀c∈cs,c.af=0\/c.af∈ps
 | [],l,_,c,h=>by cases h
 | x::cs,l,ho,c,h=>by
  rw[E0]at ho;simp only[cW,tK,Bool.or_eq_false_iff,Bool.not_eq_false',gj,decide_eq_false_iff_not]at ho;rcases dQ.1 h with rfl|h
  .simpa using ho.1.2
  .exact Nw cs _ ho.2 c h
def tP(c:Prop)[Decidable c](p:Int):List Int:=if c then[p]else[]
def DI(m:Md):xG m=tP (m.ts.length>0) 1++tP (m.ims.length>0) 2++tP (m.fs.length>0) 3++tP (m.tbs.length>0) 4++tP (m.ms.length>0) 5++tP (m.gs.length>0) 6++tP (m.exs.length>0) 7++tP (m.hs=true) 8++tP (m.els.length>0) 9++tP (m.ds.length>0) 10++tP (m.fs.length>0) 11++tP (m.ds.length>0) 12:=rfl
def LA{c:Prop}[Decidable c]{p x:Int}(h:x∈tP c p):x=p:=by
 unfold tP at h;split at h
 .simpa using h
 .cases h
def mY{c:Prop}[Decidable c]{p:Int}{l:List Int}(hl:l.Pairwise (· < ·))(h:∀x∈l,x<p):(l++tP c p).Pairwise (· < ·)/\∀x∈l++tP c p,x<p+1:=by
 refine⟨List.pairwise_append.2 ⟨hl,?_,λa ha b hb=>by rw[LA hb];exact h a ha⟩,λx hx=>?_⟩
 .unfold tP;split<;>simp
 .rcases f7.1 hx with q|q
  .have:=h x q;omega
  .rw[LA q];omega
def NC(m:Md):((0:Int)::xG m).Pairwise (· < ·):=by
 have h0:([0]:List Int).Pairwise (· < ·)/\∀x∈([0]:List Int),x<0+1:=by simp
 have h1:=mY (c:=m.ts.length>0) (p:=1) h0.1 h0.2;have h2:=mY (c:=m.ims.length>0) (p:=2) h1.1 h1.2;have h3:=mY (c:=m.fs.length>0) (p:=3) h2.1 h2.2;have h4:=mY (c:=m.tbs.length>0) (p:=4) h3.1 h3.2;have h5:=mY (c:=m.ms.length>0) (p:=5) h4.1 h4.2;have h6:=mY (c:=m.gs.length>0) (p:=6) h5.1 h5.2;have h7:=mY (c:=m.exs.length>0) (p:=7) h6.1 h6.2;have h8:=mY (c:=m.hs=true) (p:=8) h7.1 h7.2;have h9:=mY (c:=m.els.length>0) (p:=9) h8.1 h8.2;have h10:=mY (c:=m.ds.length>0) (p:=10) h9.1 h9.2;have h11:=mY (c:=m.fs.length>0) (p:=11) h10.1 h10.2;have h12:=mY (c:=m.ds.length>0) (p:=12) h11.1 h11.2;rw[DI];simpa only[xP,List.singleton_append,fo,mr]using h12.1
section
def U5(n:Int)(l:List Nat):Int:=l.foldl (λ(n:Int)(k:Nat)=>IntKind.i64.wrap (n+(k:Int))) n
def elS(n:Int)(l:List El):Int:=l.foldl (λn x=>U5 (IntKind.i64.wrap (n+(x.o.length:Int))) (x.it.map List.length)) n
def ae5(m:Md):Int:=U5 0 (m.fs.map λx=>x.b.length)
def ae6(m:Md):Int:=U5 (ae5 m) (m.gs.map λx=>x.i.length)
def ae7(m:Md):Int:=elS (ae6 m) m.els
def Sr(m:Md):Int:=U5 (ae7 m) (m.ds.map λx=>x.o.length)
attribute[local go_sem] bZ b_ df s8 eX fQ iG
end
def cU{α:Type}(g:α->Nat)(l:List α):Nat:=(l.map g).sum
def pq{α:Type}(g:α->Nat)(x:α)(l:List α):cU g (x::l)=g x+cU g l:=by simp[cU]
def zS{α:Type}{f:α->Af}{g:α->Nat}{c:Nat}:∀(l:List α),(∀x∈l,(f x).length<=c+400*g x)->(l.flatMap f).length<=c*l.length+400*cU g l
 | [],_=>by simp[cU]
 | x::l,h=>by
  have h1:=zS (g:=g) (c:=c) l λy hy=>h y (by simp[hy]);have:=h x (by simp);rw[B1,cP,i0,pq,Nat.mul_add,Nat.mul_add];omega
def GI(x:El):Nat:=x.o.length+cU List.length x.it
def ml(m:Md):Nat:=cU (λx:Cd=>x.b.length) m.fs+cU (λx:Gd=>x.i.length) m.gs+cU GI m.els+cU (λx:Da=>x.o.length) m.ds
def kN{α:Type}{f:α->Af}{l:List α}{n k:Nat}(h:(l.flatMap f).length<=k)(hl:l.length<4294967296):(br f l).length<=k+5:=by
 have:=cH hl;unfold br;rw[cP];omega
def OB{x:Ft}(h:MS x=0):(wz x).length<=40:=by
 obtain⟨h1,h2,_,_⟩:=ZF h;have a:=kN (n:=0) (re (f:=i8) (n:=1) x.ps λ_ _=>a_ _) (by omega);have b:=kN (n:=0) (re (f:=i8) (n:=1) x.rs λ_ _=>a_ _) (by omega);unfold wz;simp only[i0,cP];omega
def zP{y:Lm}(h:Pd y):(o6 y).length<=11:=by
 obtain⟨h1,h2,_⟩:=h;have a:=cH (n:=y.mn.toNat) (by omega);unfold o6;cases hh:y.hs
 .simp;omega
 .have:=h2 hh;have b:=cH (n:=y.mx.toNat) (by omega);simp;omega
def FD{x:Tb}(h:KA x=0):(uE x).length<=12:=by
 have:=zP (aab h).2;unfold uE i8;simp;omega
def FC(g:Gl):(FB g).length<=2:=by simp[FB,i8]
def HB{s:Af}(h:Aj s=0):s.length<=64:=by
 unfold Aj at h;by_cases h1:s.length>64
 .rw[au h1]at h;cases h
 .omega
def zQ{s:Af}(h:Aj s=0):(A6 s).length<=69:=by
 have h1:=HB h;have:=cH (n:=s.length) (by omega);unfold A6;rw[cP];omega
def OE{x:Im}(h:M1 x=0):(wC x).length<=200:=by
 obtain⟨h1,h2,h3,_,h5,h6,h7,h8⟩:=ZL h;have a:=zQ h1;have b:=zQ h2;unfold wC;simp only[cP,dK];rcases(show x.k=0\/x.k=1\/x.k=2\/x.k=3 by omega)with q|q|q|q
 .have:=cH (n:=x.f.toNat) (by have:=ji.1 (h5 q);omega);rw[au q];omega
 .have:=FD (h6 q);rw[ak (by omega),au q];omega
 .have:=zP (Nf (h7 q));rw[ak (by omega),ak (by omega),au q];omega
 .have:=FC x.g;rw[ak (by omega),ak (by omega),ak (by omega)];omega
def OA{x:Ex}(h:MN x=0):(wy x).length<=80:=by
 obtain⟨h1,h2,h3⟩:=ZC h;have a:=zQ h1;have:=cH (n:=x.i.toNat) (by have:=ji.1 h3;omega);unfold wy;simp only[cP,dK];omega
def OD{x:Gd}(h:Qc x.i):(wA x).length<=2+400*x.i.length:=by
 have a:=FC x.g;have b:=o5 x.i h;unfold wA;rw[cP];omega
def Ox{x:Cd}(h1:x.lo.length<=64)(h4:Qc x.b)(h5:x.b.length<=2048):(qY x).length<=800+400*x.b.length:=by
 have h0:=FA h1 h4 h5;have h2:=o5 x.b h4;have h3:=yT x.lo.length x.lo
 have h6:=re (f:=EA) (n:=11) (pn x.lo) (λp hp=>by
  have hp2:=mi (k:=9) (n:=p.1) (by
   have:p.1<=(OJ (pn x.lo)).length:=by
    unfold OJ;obtain⟨l1,l2,e⟩:=List.append_of_mem hp;rw[e];simp only[Ee,B1,cP,List.length_replicate];omega
   unfold pn at this;rw[zR _ _ (a_ _)]at this;omega)
  unfold EA i8;rw[cP,dK];omega)
 have h7:=cH (n:=(pn x.lo).length) (by unfold pn;omega);have h8:(pn x.lo).length<=64:=by unfold pn;omega
 have h9:=cH (n:=(oZ x).length) (by omega);unfold qY;rw[cP];unfold oZ MM br at h9⊢;simp only[cP]at h9⊢;omega
def OF{n:Nat}{l:List be}(h1:n<4->C7 l=true)(h3:Qc l):(CG n l).length<=5+400*l.length:=by
 unfold CG;by_cases q:n<4
 .rw[au q];obtain⟨_,e2,e3⟩:=M3 (h1 q) h3;have:=cH (n:=(ac l 0).a.toNat) (by omega);omega
 .rw[ak q];have:=o5 l h3;omega
def Oz{x:El}(h:Po F4 x)(hn:JP x.o)(hn2:∀l∈x.it,JP l):(ww x).length<=1400+400*GI x:=by
 obtain⟨hB,ho,hi⟩:=h;obtain⟨b1,b2,b3,b4,b5⟩:=GH hB;obtain⟨f1,f2,f3,f4,f5,f6⟩:=RT b1;have hrf:gJ x<4->∀l∈x.it,C7 l=true:=λq=>by
  have:=f5.1 q;unfold jz at this;rw[Bool.or_eq_false_iff,zC]at this;intro l hl;have:=this.2 l hl;simpa using this
 have a1:=cH (n:=gJ x) (by omega);have a2:=cH (n:=x.tb.toNat) (by have:=ji.1 b3;omega);have a3:=o5 x.o (yJ ho hn).1;have a4:=kN (n:=0) (zS (f:=CG (gJ x)) (g:=List.length) (c:=5) x.it λl hl=>OF (λq=>hrf q l hl) (yJ (hi l hl) (hn2 l hl)).1) (by omega);have a5:(if gJ x%4=2 then aD x.tb.toNat else[]).length<=5:=by
  split
  .exact a2
  .exact cm _
 have a6:(if gJ x%2=0 then j5 x.o else[]).length<=400*x.o.length:=by
  split
  .exact a3
  .exact cm _
 have a7:(if gJ x%4=0 then[]else if gJ x<4 then[0]else i8 x.ty).length<=1:=by split<;>(try split)<;>simp[i8]
 unfold ww GI;simp only[cP];omega
def Oy{x:Da}(h:Lv F4 x)(hn:JP x.o):(wv x).length<=4200+400*x.o.length:=by
 obtain⟨h4,h5,h6,h7⟩:=Zz h;have a3:=o5 x.o (yJ h7 hn).1;have a1:=cH (n:=x.b.length) (by omega);have a2:=cH (n:=x.me.toNat) (by have:=ji.1 h5;omega);have b0:=cH (n:=0) (by decide);have b1:=cH (n:=1) (by decide);have b2:=cH (n:=2) (by decide);unfold wv;split
 .simp only[cP];omega
 .split
  .simp only[cP];omega
  .simp only[cP];omega
def IM{m:Md}(h:Lw m)(ht:ml m<=6000)(p:Int)(h8:p=8->m.hs=true):(CH m p).length<=10000000:=by
 unfold ml at ht;have hfs:=h.lim.fs.1;have htb:=h.lim.tbs.1;have hms:=h.lim.ms.1;have hgs:=h.lim.gs.1;have hts:=h.lim.ts.1;have him:=h.lim.ims.1;have hex:=h.lim.exs.1;have hel:=h.lim.els.1;have hds:=h.lim.ds.1;unfold CH;by_cases q:p=1
 .rw[au q];have:=kN (n:=0) (re (f:=wz) (n:=40) m.ts λx hx=>OB (h.lim.ts.2 x hx)) (by omega);omega
 rw[ak q];by_cases q:p=2
 .rw[au q];have:=kN (n:=0) (re (f:=wC) (n:=200) m.ims λx hx=>OE (h.lim.ims.2 x hx)) (by omega);omega
 rw[ak q];by_cases q:p=3
 .rw[au q];have:=kN (n:=0) (re (f:=λx:Cd=>aD x.t.toNat) (n:=5) m.fs λx hx=>cH (by have:=ji.1 (HH h x hx).2.2.2.2.2;omega)) (by omega);omega
 rw[ak q];by_cases q:p=4
 .rw[au q];have:=kN (n:=0) (re (f:=uE) (n:=12) m.tbs λx hx=>FD (h.lim.tbs.2 x hx)) (by omega);omega
 rw[ak q];by_cases q:p=5
 .rw[au q];have:=kN (n:=0) (re (f:=o6) (n:=11) m.ms λx hx=>zP (Nf (h.lim.ms.2 x hx))) (by omega);omega
 rw[ak q];by_cases q:p=6
 .rw[au q];have:=kN (n:=0) (zS (f:=wA) (g:=λx:Gd=>x.i.length) (c:=2) m.gs λx hx=>OD (yJ (h.lim.gs.2 x hx).2 (h.num.2.1 x hx)).1) (by omega);omega
 rw[ak q];by_cases q:p=7
 .rw[au q];have:=kN (n:=0) (re (f:=wy) (n:=80) m.exs λx hx=>OA (h.lim.exs.2 x hx)) (by omega);omega
 rw[ak q];by_cases q:p=8
 .rw[au q];have:=cH (n:=m.st.toNat) (by have:=ji.1 (h.lim.st (h8 q));omega);omega
 rw[ak q];by_cases q:p=9
 .rw[au q];have:=kN (n:=0) (zS (f:=ww) (g:=GI) (c:=1400) m.els λx hx=>Oz (h.lim.els.2 x hx) (h.num.2.2.1 x hx).1 (h.num.2.2.1 x hx).2) (by omega);omega
 rw[ak q];by_cases q:p=10
 .rw[au q];have:=cH (n:=m.ds.length) (by omega);omega
 rw[ak q];by_cases q:p=11
 .rw[au q];have:=kN (n:=0) (zS (f:=qY) (g:=λx:Cd=>x.b.length) (c:=800) m.fs λx hx=>Ox (HH h x hx).1 (HH h x hx).2.2.2.1 (HH h x hx).2.2.2.2.1) (by omega);omega
 rw[ak q];by_cases q:p=12
 .rw[au q];have:=kN (n:=0) (zS (f:=wv) (g:=λx:Da=>x.o.length) (c:=4200) m.ds λx hx=>Oy (h.lim.ds.2 x hx) (h.num.2.2.2 x hx)) (by omega);omega
 rw[ak q];exact cm _
section
def gg(l:List Int):List AV:=[.sl 1 (l.map jM)]
def ahF(l:List Int):gg l=[.sl 1 (l.map jM)]:=rfl
attribute[local go_sem] bZ ahF wo wa dw ce az
def G0(l:List Int)(h1:l.length<=8)(h2:∀t∈l,qh t=true):aj pg 189 [.sl 1 (l.map jM)] (.int .i64 0):=by
 refine aC tT ?_;simp only[go_sem,tT,aL (show ¬(l.length:Int)>8 by omega)];refine aq (λi:Nat=>⟨[(10,.int .i64 i),(9,.int .i64 l.length),(8,.sl 1 (l.map jM))],[]⟩) (λi=>i<=l.length) (λi=>l.length-i) 0 (cm _) (Wk.of ?_ ?_) ?_
 .simp only[go_sem];try simp
 .simp only[go_sem]
 intro i hi2;by_cases h3:(i:Int)<(l.length:Int);rotate_left
 .simp only[go_sem,aL h3];exact an
 have hi':i<l.length:=by omega
 have e8:=ey hi' (by omega);have c:=Na (ac l i);rw[eV h2 hi']at c;simp only[go_sem,aK h3];refine⟨by omega,h3,?_⟩;refine aa (c) ?_;refine aF (i+1) (show i+1<=l.length by omega) (show l.length-(i+1)<l.length-i by omega) (Wk.of ?_ ?_)
 .simp only[go_sem,e8];try simp
 .simp only[go_sem]
def agU{x:Ft}(h:MS x=0):WX 90 [.agg (my x)] (wz x):=by
 intro w hw;obtain⟨h1,h2,h3,h4⟩:=ZF h;refine bA pV ?_;have c1:=G0 x.ps h1 h3;have c2:=G0 x.rs h2 h4;obtain⟨L,hL⟩:∃L,[x.ps,x.rs]=L:=⟨_,rfl⟩
 have g1:∀l∈L,l.length<=8/\∀t∈l,qh t=true:=λl hl=>by
  subst hL;simp only[dQ,tN,or_false]at hl;rcases hl with rfl|rfl
  .exact⟨h1,h3⟩
  .exact⟨h2,h4⟩
 have gl:L.length=2:=by rw[<-hL];rfl
 have ge:(96::(br i8 x.ps++br i8 x.rs):Af)=[96]++L.flatMap (br i8):=by rw[<-hL];simp
 have gs:(L.flatMap (br i8)).length<=200:=by
  refine m8 (re (n:=100) L λl hl=>?_) (by omega);have:=(g1 l hl).1;have h5:=cH (n:=l.length) (by omega);have h6:=re (f:=i8) (n:=1) l λ_ _=>a_ _;unfold br;rw[cP];omega
 rw[show wz x=[96]++L.flatMap (br i8) from ge]at hw⊢;simp only[cP,i0,cj]at hw;simp only[go_sem,pV,dC];refine aq (λi:Nat=>⟨[(19,.int .i64 i),(18,.int .i64 L.length),(17,.sl 1 (L.map gg)),(4,.sl 1 (L.map gg)),(0,.mp 1000 3 0 0)],[(1000,wo 2000 true w 0),(2000,wa w)]⟩) (λi=>i<=L.length) (λi=>L.length-i) 0 (cm _) ((Wk.frzs [16] _).trans (Wk.of ?_ ?_)) ?_
 .subst hL;simp only[go_sem];try simp
 .simp only[go_sem]
 intro i hi2;by_cases q1:(i:Int)<(L.length:Int)
 .have hi':i<L.length:=by omega
  have e8:=ey hi' (by omega);have c:=G0 (ac L i) (eV g1 hi').1 (eV g1 hi').2;simp only[go_sem,aK q1];refine⟨by omega,q1,?_⟩;refine aa (c) ?_;refine aF (i+1) (show i+1<=L.length by omega) (show L.length-(i+1)<L.length-i by omega) (Wk.of ?_ ?_)
  .simp only[go_sem,e8];try simp
  .simp only[go_sem]
 simp only[go_sem,aL q1];refine aH (VE 96) rfl ?_;simp only[go_sem];obtain⟨V,hV⟩:∃V:Nat->Af,∀i,V i=w++([96]++(L.take i).flatMap (br i8)):=⟨_,λ_=>rfl⟩
 have hV0:w++[96]=V 0:=by rw[hV];simp
 refine aq (λi:Nat=>⟨[(35,.int .i64 i),(34,.int .i64 L.length),(33,.sl 1 (L.map gg)),(0,.mp 1000 3 0 0)],[(1000,wo 2000 true (V i) 0),(2000,wa (V i))]⟩) (λi=>i<=L.length) (λi=>L.length-i) 0 (cm _) (Wk.of ?_ ?_) ?_
 .simp only[go_sem];try simp
 .simp only[go_sem,hV0];try simp[go_sem]
 intro i hi2;by_cases q2:(i:Int)<(L.length:Int);rotate_left
 .obtain rfl:i=L.length:=by omega
  simp only[go_sem,aL q2];exact cX (λ_ h=>by cases h) rfl (by rfl) (by rfl) (by rw[hV,pJ];rfl)
 have hi':i<L.length:=by omega
 have e8:=ey hi' (by omega);have ht:=yj (f:=br i8) hi';obtain⟨b1,b2⟩:=eV g1 hi';have he:V (i+1)=V i++(aD (ac L i).length++(ac L i).flatMap i8):=by rw[hV,hV,vi hi'];simp[br]
 have hvl:=congrArg List.length (hV i);simp only[cP,i0,cj]at hvl;generalize hv:V i=v at*;generalize hl:ac L i=l at*;have hcl:(br i8 l).length=(aD l.length).length+(l.flatMap i8).length:=by unfold br;rw[cP]
 simp only[go_sem,aK q2,hl];refine⟨by omega,q2,?_⟩;refine aH (Vq l.length (by omega)) rfl ?_;simp only[go_sem];refine aq (λj:Nat=>⟨[(45,.int .i64 j),(44,.int .i64 l.length),(43,.sl 1 (l.map jM)),(35,.int .i64 i),(34,.int .i64 L.length),(33,.sl 1 (L.map gg)),(0,.mp 1000 3 0 0)],[(1000,wo 2000 true (v++(aD l.length++(l.take j).flatMap i8)) 0),(2000,wa (v++(aD l.length++(l.take j).flatMap i8)))]⟩) (λj=>j<=l.length) (λj=>l.length-j) 0 (cm _) (Wk.of ?_ ?_) ?_
 .simp only[go_sem];try simp
 .simp only[go_sem,rI,List.flatMap_nil,m_];try simp[go_sem]
 intro j hj2;by_cases q3:(j:Int)<(l.length:Int);rotate_left
 .obtain rfl:j=l.length:=by omega
  simp only[go_sem,aL q3];refine aF (i+1) (show i+1<=L.length by omega) (show L.length-(i+1)<L.length-i by omega) (Wk.of ?_ ?_)
  .simp only[go_sem,e8];try simp
  .simp only[go_sem,he,pJ];try simp[go_sem,wo,wa]
 have hj':j<l.length:=by omega
 have e9:=ey hj' (by omega);have ht2:=yj (f:=i8) hj';simp only[go_sem,aK q3];refine⟨by omega,q3,?_⟩;refine aH (Gq (eV b2 hj')) rfl ?_;simp only[go_sem];refine aF (j+1) (show j+1<=l.length by omega) (show l.length-(j+1)<l.length-j by omega) (Wk.of ?_ ?_)
 .simp only[go_sem,e9];try simp
 .simp only[go_sem,vi hj'];try simp[go_sem,wo,wa]
