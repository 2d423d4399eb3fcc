import Derived.Test.YtdfofedlbljnhaaGreatDoorQt
set_option linter.all false
set_option maxRecDepth 100000
set_option maxHeartbeats 40000000
namespace Go.Proofs.YtdfofedlbljnhaaGreatDoor
section
open Go Go.Mw
def toS (c:Cu):dU:=⟨0,c.n,some c.b⟩
def FS (p:Int):List Cu→List dU
 | []=>[]
 | c :: cs=>if c.af=p then toS c :: FS p cs else []
def FR (p:Int):List Cu→List Cu
 | []=>[]
 | c :: cs=>if c.af=p then FR p cs else c :: cs
def Qr (cs:List Cu):ak:=⟨31,1,[[.sl 3 (cs.map zK)]],true⟩
def Qy (q:Nat) (l:List dU):ak:=⟨65,1,[[.ms q 3 0 l.length]],true⟩
def pa (l:List dU):ak:=⟨69,3,l.map uG,false⟩
theorem adV (c:Cu) (cs:List Cu):vC 3 (.sl 3 ((c :: cs).map zK)) (some (.int .i64 1)) none none=some (.sl 3 (cs.map zK)):=by
 have h1:ci 0 (some (.int .i64 1))=some 1:=rfl
 simp [vC,ci]
 exact fL (by simp)
attribute [local go_sem] di fp Qr Qy pa
theorem X3 (p:Int):∀(cs:List Cu) (l:List dU) (hc:cs.length≤8) (hl:l.length≤1000),aX pg j8 [.int .i64 p,.mp 1000 1 0 0,.mp 1001 1 0 0] [(1000,Qr cs),(1001,Qy 2000 l),(2000,pa l)] sb (fun r' σ'=>r' = .tup []∧σ'=[(1000,Qr (FR p cs)),(1001,Qy 2000 (l++FS p cs)),(2000,pa (l++FS p cs))]):=by
 intro cs l hc hl
 refine bF pw ?_
 obtain ⟨R,hR⟩:∃R,l++FS p cs=R:=⟨_,rfl⟩
 obtain ⟨D,hD⟩:∃D,FR p cs=D:=⟨_,rfl⟩
 rw [hR,hD]
 simp only [go_sem,pw]
 refine aw (fun q:List Cu×List dU=>⟨[(2,.mp 1001 1 0 0),(1,.mp 1000 1 0 0),(0,.int .i64 p)],[(1000,Qr q.1),(1001,Qy 2000 q.2),(2000,pa q.2)]⟩) (fun q=>q.2++FS p q.1=R∧FR p q.1=D∧q.1.length+q.2.length≤1008) (fun q=>q.1.length) (cs,l) ⟨hR,hD,by simp only;omega⟩ (Wk.of ?_ ?_) ?_
 ·simp only [go_sem];try simp
 ·simp only [go_sem];try simp [go_sem]
 rintro ⟨C,L⟩ ⟨h1,h2,h3⟩
 simp only at h1 h2 h3
 rcases C with _ | ⟨c,C⟩
 ·simp only [FS,mz,FR] at h1 h2
  subst h1 h2
  have d0:decide (((([]:List Cu).length:Nat):Int)>0)=false:=rfl
  generalize ([]:List Cu)=E at *
  simp only [go_sem,d0]
  exact cN [] _ [(1000,Qr E),(1001,Qy 2000 L),(2000,pa L)] ⟨rfl,rfl⟩
 have d0:decide ((((c :: C).length:Nat):Int)>0)=true:=aO (by simp<;>omega)
 have hn:ac (c :: C) 0=c:=rfl
 have hsl:=adV c C
 have hlt:(0:Int)<(((c :: C).length:Nat):Int):=by simp<;>omega
 by_cases q:c.af=p
 rotate_left
 ·simp only [FS,FR,ah q,mz] at h1 h2
  subst h1 h2
  generalize c :: C=E at *
  simp only [go_sem,d0,hn,ay q]
  refine ⟨by omega,hlt,?_⟩
  exact cN [] _ [(1000,Qr E),(1001,Qy 2000 L),(2000,pa L)] ⟨rfl,rfl⟩
 ·simp only [FS,FR,ap q] at h1 h2
  rw [eA] at h3
  have hap:zE 2000 69 3 0 L.length [[.int .i64 0,.str c.n,.sl 1 (c.b.map i5)]] (some ⟨69,3,L.map uG,false⟩)=some (.ms 2000 3 0 (L++[toS c]).length,.reb 2000 ⟨69,3,(L++[toS c]).map uG,false⟩):=by
   rw [cZ 2000 69 3 _ uG _ _ rfl,ap ⟨by simp,by omega,.inr (by decide)⟩]
   simp [toS,uG,MQ]
  generalize hE:c :: C=E at *
  simp only [go_sem,d0,hn,dV q,hsl,hap]
  refine ⟨by omega,hlt,by omega,hlt,by omega,hlt,?_⟩
  refine aG (C,L++[toS c]) ⟨by rw [← h1];simp,h2,by simp only [bE,cM];omega⟩ (by subst hE;simp) (Wk.of ?_ ?_)
  ·simp only [go_sem];try simp
  ·simp only [go_sem];try simp [go_sem]
theorem DR {p:Int} {cs:List Cu} {l:List dU} {d:Option Nat} {s:St} {K:St→Prop} (hc:cs.length≤8) (hl:l.length≤1000) (h0:ae s.heap 6=some (Qr cs)) (h1:ae s.heap 5=some (Qy 900 l)) (h2:ae s.heap 900=some (pa l))
  (hK:K (((St.mk (dO [900] s.env) ([(6,Qr (FR p cs)),(5,Qy 900 (l++FS p cs)),(900,pa (l++FS p cs))]++dP [900] s.heap)).put d (.tup [])))):cT pg j8 [.int .i64 p,.mp 6 1 0 0,.mp 5 1 0 0] d s K:=by
 have hsec:∀l:List dU,(iY (bw [(1000,6),(1001,5),(2000,900)]) (pa l))=pa l:=fun l=>rfl
 refine ew (σ2:=[(6,Qr cs),(5,Qy 900 l),(900,pa l)]) (r3:=.tup []) (σ3:=[(6,Qr (FR p cs)),(5,Qy 900 (l++FS p cs)),(900,pa (l++FS p cs))]) (X3 p cs l hc hl) [(1000,6),(1001,5),(2000,900)] [900] rfl rfl rfl rfl ?_ ?_ ?_ hK
 ·simp [h0,h1,h2]
 ·simp [sb,bw,jk,ae]
 ·simp [ae]
def Mu (m:Md):List Cu→List Int→List dU
 | _,[]=>[]
 | cs,p :: l=>⟨HE p,[],some (jn m p)⟩ :: (FS p cs++Mu m (FR p cs) l)
theorem LR {p:Int}:∀(cs:List Cu),cs.Pairwise (fun x y=>x.af≤y.af)→(∀c∈cs,p≤c.af)→FS p cs=(ef cs p).map toS∧(∀q,q≠p→ef (FR p cs) q=ef cs q)∧(FR p cs).Pairwise (fun x y=>x.af≤y.af)∧(∀c∈FR p cs,c∈cs∧p<c.af)
 | [],_,_=>⟨rfl,fun _ _=>rfl,.nil,fun c h=>by cases h⟩
 | c :: cs,hs,hp=>by
  rw [List.pairwise_cons] at hs
  obtain ⟨i1,i2,i3,i4⟩:=LR cs hs.2 fun x hx=>hp x (by simp [hx])
  have hc:=hp c (by simp)
  by_cases q:c.af=p
  ·rw [FS,FR,ap q,ap q,zL,ap q,ej,← i1]
   refine ⟨rfl,fun r hr=>?_,i3,fun x hx=>⟨by simp [(i4 x hx).1],(i4 x hx).2⟩⟩
   rw [i2 r hr,zL,ah (by omega)]
  ·have lo:∀x∈cs,p<x.af:=fun x hx=>by have:=hs.1 x hx;omega
   rw [FS,FR,ah q,ah q,zL,ah q,HN lo]
   refine ⟨rfl,fun r _=>rfl,List.pairwise_cons.2 hs,fun x hx=>⟨hx,?_⟩⟩
   rcases dc.1 hx with rfl | hx
   ·omega
   ·exact lo x hx
def IW (m:Md) (cs:List Cu):List Int→List dU
 | []=>[]
 | p :: l=>⟨HE p,[],some (jn m p)⟩ :: ((ef cs p).map toS++IW m cs l)
theorem Mv {m:Md} {cs cs':List Cu}:∀l:List Int,(∀q∈l,ef cs' q=ef cs q)→IW m cs' l=IW m cs l
 | [],_=>rfl
 | p :: l,h=>by rw [IW,IW,h p (by simp),Mv l fun q hq=>h q (by simp [hq])]
theorem Uu {m:Md}:∀(l:List Int) (cs:List Cu),l.Pairwise (· < ·)→cs.Pairwise (fun x y=>x.af≤y.af)→(∀c∈cs,c.af∈l)→Mu m cs l=IW m cs l
 | [],_,_,_,_=>rfl
 | p :: l,cs,hl,hs,hin=>by
  rw [List.pairwise_cons] at hl
  obtain ⟨i1,i2,i3,i4⟩:=LR (p:=p) cs hs fun c hc=>by
   rcases dc.1 (hin c hc) with q | q
   ·omega
   ·have:=hl.1 _ q;omega
  rw [Mu,IW,i1,Uu l (FR p cs) hl.2 i3 fun c hc=>by
   obtain ⟨j1,j2⟩:=i4 c hc
   rcases dc.1 (hin c j1) with q | q
   ·omega
   ·exact q,Mv l fun q hq=>i2 q (by have:=hl.1 q hq;omega)]
theorem N8 {ps:List Int}:∀(cs:List Cu) (l:Int),Cj ps l cs=true→cs.Pairwise (fun x y=>x.af≤y.af)∧∀c∈cs,l≤c.af
 | [],_,_=>⟨.nil,fun c h=>by cases h⟩
 | c :: cs,l,ho=>by
  rw [Cj] at ho
  simp only [cC,rg,Bool.or_eq_false_iff,decide_eq_false_iff_not] at ho
  obtain ⟨⟨h1,h2⟩,h3⟩:=ho
  obtain ⟨g1,g2⟩:=N8 cs c.af h3
  refine ⟨List.pairwise_cons.2 ⟨g2,g1⟩,fun x hx=>?_⟩
  rcases dc.1 hx with rfl | hx
  ·omega
  ·have:=g2 x hx;omega
theorem Uv (m:Md):∀l:List Int,IW m m.cs l=iw m l
 | []=>rfl
 | p :: l=>by rw [IW,iw,Uv m l];rfl
theorem ade {m:Md} (h:E0 m=true):FS 0 m.cs++Mu m (FR 0 m.cs) (kq m)=yI m:=by
 obtain ⟨g1,g2⟩:=N8 m.cs 0 h
 have hin:=IS m.cs 0 h
 have hl:=yH m
 rw [List.pairwise_cons] at hl
 obtain ⟨i1,i2,i3,i4⟩:=LR (p:=0) m.cs g1 g2
 rw [i1,Uu (kq m) _ hl.2 i3 fun c hc=>by
  obtain ⟨j1,j2⟩:=i4 c hc
  rcases hin c j1 with q | q
  ·omega
  ·exact q,Mv (kq m) fun q hq=>i2 q (by have:=hl.1 q hq;omega),Uv]
 rfl
theorem HX (p:Int):∀cs:List Cu,(FR p cs).length≤cs.length∧(FS p cs).length≤cs.length
 | []=>⟨bt _,bt _⟩
 | c :: cs=>by
  have:=HX p cs
  rw [FR,FS]
  split
  ·simp only [eA];omega
  ·simp
end
section
open Go Go.Mw
theorem ZV:∀l:List Fa,(D7 l).c=0→D7 l=nT
 | [],_=>rfl
 | F :: r,h=>by
  rw [D7] at h ⊢
  by_cases q:F.c≠0
  ·rw [ap q] at h;exact absurd h q
  ·rw [ah q] at h ⊢;exact ZV r h
theorem Z9 {m:Md} (hm:Gi m):(sU Dy m).c=0↔okM Dy m:=by
 rw [← acq hm]
 constructor
 ·intro h
  rw [Tk Dy m hm] at h ⊢
  exact ZV _ h
 ·intro h
  rw [h];rfl
def yB (m:Md):Prop:=(∀x∈m.fs,G9 x.b)∧(∀x∈m.gs,G9 x.i)∧(∀x∈m.els,G9 x.o∧∀l∈x.it,G9 l)∧∀x∈m.ds,G9 x.o
attribute [local go_sem] di bC Qr Qy pa wo wa
theorem lV {m:Md} (hs:Gi m) (hn:yB m) (hI:Ei m≤6000):ao pg mR [dH m] (.tup [.sl 1 ((cW m).2.map i5),.int .i64 (cW m).1]):=by
 refine aL se ?_
 have c1:=Tx Dy m hs agZ
 simp only [dH,bC] at c1
 simp only [go_sem,se,dH]
 refine ax (c1) ?_
 by_cases hL:(sU Dy m).c=0
 rotate_left
 ·have r:cW m=((sU Dy m).c,[]):=by unfold cW;rw [ap hL]
  rw [r]
  simp only [go_sem,bv hL]
  exact eB (Wk.nls _ 2 1 (by simp only [go_sem])) [] (by first | rfl | simp only [go_sem]) rfl
 have hok:=(Z9 hs).1 hL
 have c2:=Tz hok
 simp only [dH,bC] at c2
 simp only [go_sem,aD hL]
 refine ax (c2) ?_
 cases hne:IE m
 ·have r:cW m=(16,[]):=by unfold cW;rw [ah (by simp [hL]),ap hne]
  rw [r]
  simp only [go_sem]
  exact eB (Wk.nls _ 2 1 (by simp only [go_sem])) [] (by first | rfl | simp only [go_sem]) rfl
 have c3:=PM (m:=m) (by have:=hok.cs.1;omega)
 simp only [dH,bC] at c3
 simp only [go_sem]
 refine ax (c3) ?_
 cases hor:E0 m
 ·have r:cW m=(7,[]):=by unfold cW;rw [ah (by simp [hL]),ah (by simp [hne]),ap hor]
  rw [r]
  simp only [go_sem]
  exact eB (Wk.nls _ 2 1 (by simp only [go_sem])) [] (by first | rfl | simp only [go_sem]) rfl
 have r:cW m=xn (yI m):=by unfold cW;rw [ah (by simp [hL]),ah (by simp [hne]),ah (by simp [hor])]
 rw [r]
 have h:vt m:=⟨hok,hne,hor,hn⟩
 have htot:mw m≤6000:=by have:=SP hok;omega
 obtain ⟨b1,b2,b3⟩:=agB h htot
 have c4:=L9 m
 simp only [dH,bC] at c4
 have c7:=Zg (yI m) b2 b1 b3
 have hcs:=hok.cs.1
 obtain ⟨l0,l1⟩:=HX 0 m.cs
 simp only [go_sem]
 refine ⟨by kernel_rfl,?_⟩
 refine ik (FN.new0 _ _ 900 3 69 (by decide) (by simp [go_sem])) ?_
 refine ik (FN.nlm _ _ 5 (t:=65) (st:=1) (r:=[.nl]) (r':=[.ms 900 3 0 0]) (by simp only [go_sem]) ⟨.inr ⟨rfl,.inr ⟨900,3,rfl⟩⟩,trivial⟩) ?_
 refine DR (cs:=m.cs) (l:=[]) (by omega) (by simp) (by simp only [go_sem]) (by simp only [go_sem]) (by simp only [go_sem]) ?_
 simp only [go_sem,fh]
 refine ax (c4) ?_
 have hpf:=ade hor
 have hpl:=yG m
 have hpi:=yF m
 have hp8:(8:Int)∈kq m→m.hs=true:=fun q=>(uq q).2.2.2.2.2.2.2.1 rfl
 have hbb:=fun p h8=>JQ h htot p h8
 generalize kq m=ps at *
 simp only [go_sem]
 refine aw (fun q:Nat×List Cu×List dU=>⟨[(37,.int .i64 q.1),(36,.int .i64 ps.length),(35,.sl 1 (ps.map ri)),(7,.fn j8 [.mp 6 1 0 0,.mp 5 1 0 0]),(6,.mp 6 1 0 0),(5,.mp 5 1 0 0),(1,.mp 1 12 0 0)],[(6,Qr q.2.1),(5,Qy 900 q.2.2),(900,pa q.2.2),(1,⟨33,12,[[.sl 2 (m.ts.map rK),.sl 13 (m.ims.map tg),.sl 3 (m.fs.map qf),.sl 4 (m.tbs.map xR),.sl 3 (m.ms.map ry),.sl 3 (m.gs.map yd),.sl 3 (m.exs.map xN),.bool m.hs,.int .i64 m.st,.sl 5 (m.els.map gP),.sl 4 (m.ds.map lO),.sl 3 (m.cs.map zK)]],true⟩)]⟩) (fun q=>q.1≤ps.length∧q.2.2++Mu m q.2.1 (ps.drop q.1)=yI m∧q.2.1.length≤8∧q.2.2.length≤9 * q.1+8) (fun q=>ps.length - q.1) (0,FR 0 m.cs,FS 0 m.cs) ⟨cX _,hpf,by simp only;omega,by simp only;omega⟩ (Wk.of ?_ ?_) ?_
 ·simp only [go_sem];try simp
 ·simp only [go_sem];try simp [go_sem]
 rintro ⟨i,C,L⟩ ⟨hi2,hP,hC,hL2⟩
 simp only at hi2 hP hC hL2
 by_cases q1:(i:Int)<(ps.length:Int)
 rotate_left
 ·rw [List.drop_eq_nil_of_le (by omega),Mu,mz] at hP
  subst hP
  simp only [go_sem,aQ q1]
  refine JJ [900] ?_ c7 (by simp [go_sem]) ?_
  ·simp only [go_sem,bt]
   rw [fL (by simp)]
  simp only [go_sem]
  exact aj
 have hi':i<ps.length:=by omega
 have e8:=dz hi' (by omega)
 have hin:ac ps i∈ps:=by rw [bp hi'];exact List.getElem_mem hi'
 rw [xg hi',Mu] at hP
 generalize hp:ac ps i=p at *
 have hp1:=hpi p hin
 have hp8':p=8→m.hs=true:=fun q=>hp8 (q▸hin)
 have c5:=ahJ h hp1 hp8'
 have hb5:=hbb p hp8'
 have cd:=yV true (jn m p) 0 (by omega)
 rw [show wD true (jn m p) 0=(some (jn m p),0) from rfl] at cd
 have c6:=agX p
 simp only [dH,bC] at c5
 obtain ⟨f1,f2⟩:=HX p C
 obtain ⟨S,hS⟩:∃S:dU,(⟨HE p,[],some (jn m p)⟩:dU)=S:=⟨_,rfl⟩
 have hap:zE 900 69 3 0 L.length [[.int .i64 (HE p),.str [],.sl 1 ((jn m p).map i5)]] (some ⟨69,3,L.map uG,false⟩)=some (.ms 900 3 0 (L++[S]).length,.reb 900 ⟨69,3,(L++[S]).map uG,false⟩):=by
  rw [cZ 900 69 3 _ uG _ _ rfl,ap ⟨by simp,by omega,.inl (by decide)⟩,← hS]
  simp [uG,MQ]
 rw [hS] at hP
 simp only [go_sem,aO q1,hp]
 refine ⟨by omega,q1,?_⟩
 refine qH 904 905 (by decide) (by decide) (by decide) (by simp only [go_sem]) (by simp only [go_sem]) ?_
 simp only [go_sem]
 refine LD (k:=904) (j:=905) (l:=[]) c5 rfl (by simp [go_sem]) (by rfl) (by rfl) (by simp only [b_];omega) (by decide) ?_
 simp only [go_sem,fh]
 refine aR [] (k:=904) (j:=905) (cd) ?_
 simp only [go_sem]
 refine fG c6 (by simp [go_sem]) rfl ?_
 simp only [go_sem,hap]
 refine ⟨by kernel_rfl,?_⟩
 refine DR (cs:=C) (l:=L++[S]) hC (by simp only [bE,cM];omega) (by simp only [go_sem]) (by simp only [go_sem]) (by simp only [go_sem]) ?_
 simp only [go_sem]
 refine aG (i+1,FR p C,L++[S]++FS p C) ⟨show i+1≤ps.length by omega,by rw [← hP];simp,by simp only;omega,by simp only [bE,cM];omega⟩ (show ps.length - (i+1)<ps.length - i by omega) (Wk.of ?_ ?_)
 ·simp only [go_sem,e8];try simp
 ·simp only [go_sem];try simp [go_sem]
theorem NU {m:Md} (hs:Gi m) (hn:yB m) (hI:Ei m≤6000):ao pg Ey [dH m] (.bool ((cW m).1==0)):=by
 refine aL tk ?_
 have c:=lV hs hn hI
 simp only [dH,bC] at c
 simp only [go_sem,tk,dH]
 refine aa (c) ?_
 exact aj
end
section
open Go Go.Mw
def QR {α:Type} (r:Rd α) (Q:α→Nat→Prop):Prop:=∀x k,r = .ok (x,k)→Q x k
theorem QR.ok {α:Type} {x:α} {k:Nat} {Q:α→Nat→Prop} (h:Q x k):QR (.ok (x,k)) Q:=fun _ _ e=>by cases e;exact h
theorem QR.er {α:Type} {e:Int×Nat} {Q:α→Nat→Prop}:QR (.error e:Rd α) Q:=fun _ _ e=>by cases e
theorem QR.ite {α:Type} {c:Prop} [Decidable c] {r s:Rd α} {Q:α→Nat→Prop} (h1:c→QR r Q) (h2:¬c→QR s Q):QR (if c then r else s) Q:=by
 by_cases h:c
 ·rw [ap h];exact h1 h
 ·rw [ah h];exact h2 h
theorem QR.bd {α β:Type} {r:Rd α} {f:α→Nat→Rd β} {Q:α→Nat→Prop} {R:β→Nat→Prop} (h:QR r Q) (hf:∀x k,Q x k→QR (f x k) R):QR (eU r f) R:=by
 intro y j e
 cases hr:r with
 | error e'=>rw [hr] at e;cases e
 | ok q =>
  obtain ⟨x,k⟩:=q
  rw [hr] at e
  exact hf x k (h x k hr) y j e
variable {b:List UInt8}
def Jp (l:List aZ):Prop:=∀y∈l,(0≤y.n∧y.n<18446744073709551616)∧y.lb.length≤64∧y.ty.length≤1
structure Jz (n:Nat) (m:Md):Prop where
 tot:mw m≤n
 ts:m.ts.length≤64∧∀x∈m.ts,x.ps.length≤8∧x.rs.length≤8
 ims:m.ims.length≤32
 fs:m.fs.length≤64∧∀x∈m.fs,x.lo.length≤64∧x.b.length≤2048∧Jp x.b
 tbs:m.tbs.length≤4
 ms:m.ms.length≤2
 gs:m.gs.length≤32∧∀x∈m.gs,x.i.length≤2048∧Jp x.i
 exs:m.exs.length≤64
 els:m.els.length≤16∧∀x∈m.els,(x.o.length≤2048∧Jp x.o)∧x.it.length≤256∧∀l∈x.it,l.length≤2048∧Jp l
 ds:m.ds.length≤16∧∀x∈m.ds,(x.o.length≤2048∧Jp x.o)∧x.b.length≤4096
 cs:m.cs.length≤8∧∀x∈m.cs,x.b.length≤4096
theorem Jz.le {n k:Nat} {m:Md} (h:Jz n m) (hk:n≤k):Jz k m:=⟨gz h.tot hk,h.ts,h.ims,h.fs,h.tbs,h.ms,h.gs,h.exs,h.els,h.ds,h.cs⟩
theorem KI {l:List aZ} (h:Jp l):G9 l:=fun y hy=>(h y hy).1
theorem Jz.num {n:Nat} {m:Md} (h:Jz n m):yB m:=⟨fun x hx=>KI (h.fs.2 x hx).2.2,fun x hx=>KI (h.gs.2 x hx).2,fun x hx=>⟨KI (h.els.2 x hx).1.2,fun l hl=>KI ((h.els.2 x hx).2.2 l hl).2⟩,fun x hx=>KI (h.ds.2 x hx).1.2⟩
end
section
open Go Go.Mw
def vI (l:List Cd):ak:=⟨61,3,l.map qf,false⟩
def td (l:List Cu):ak:=⟨67,3,l.map zK,false⟩
def xf (i j:Nat) (d:Dc):ak:=⟨89,15,[[.sl 2 (d.m.ts.map rK),.sl 13 (d.m.ims.map tg),.ms i 3 0 d.m.fs.length,.sl 4 (d.m.tbs.map xR),.sl 3 (d.m.ms.map ry),.sl 3 (d.m.gs.map yd),.sl 3 (d.m.exs.map xN),.bool d.m.hs,.int .i64 d.m.st,.sl 5 (d.m.els.map gP),.sl 4 (d.m.ds.map lO),.ms j 3 0 d.m.cs.length,.int .i64 d.place,.int .i64 (d.codes:Nat),.int .i64 d.data]],true⟩
theorem vg {fs:List Cd} {l:List (List Int×List aZ)} {k:Nat} (hk:k<fs.length):ac (FF fs l) k=if k<l.length then (⟨(ac fs k).t,(ac l k).1,(ac l k).2⟩:Cd) else ac fs k:=by
 unfold FF
 rw [bp (by rw [di,List.length_zipIdx];exact hk),bp hk,List.getElem_map,List.getElem_zipIdx]
 simp only [Nat.zero_add]
theorem ET {α:Type} [Inhabited α] {l:List α} {i k:Nat} (h:k<i) (hk:k<l.length):ac (l.take i) k=ac l k:=by
 rw [bp (by rw [pm];omega),bp hk,List.getElem_take]
theorem Dw {α:Type} [Inhabited α] {l m:List α} (h:l.length=m.length) (hk:∀k,k<l.length→ac l k=ac m k):l=m :=
 List.ext_getElem h fun k h1 h2=>by have:=hk k h1;rwa [bp h1,bp h2] at this
theorem Ye {α:Type} [Inhabited α] {l:List α} {i k:Nat} {x:α} (hk:k<l.length):ac (l.set i x) k=if i=k then x else ac l k:=by
 rw [bp (by rw [List.length_set];exact hk),List.getElem_set,bp hk]
theorem afo {fs:List Cd} {L:List (List Int×List aZ)} {i:Nat} (hi:i<fs.length) (hL:i<L.length):(FF fs (L.take i)).set i ⟨(ac fs i).t,(ac L i).1,(ac L i).2⟩=FF fs (L.take (i+1)):=by
 refine Dw (by rw [List.length_set,iq,iq]) fun k hk=>?_
 rw [List.length_set,iq] at hk
 rw [Ye (by rw [iq];exact hk),vg hk,vg hk,pm,pm]
 by_cases h1:i=k
 ·subst h1
  rw [ap rfl,ap (by omega),ET (by omega) hL]
 rw [ah h1]
 by_cases h2:k<min i L.length
 ·rw [ap h2,ap (by omega),ET (by omega) (by omega),ET (by omega) (by omega)]
 ·rw [ah h2,ah (by omega)]
theorem afn {fs:List Cd} {L:List (List Int×List aZ)} {i:Nat} (hi:fs.length≤i):FF fs (L.take i)=FF fs (L.take (i+1)):=by
 refine Dw (by rw [iq,iq]) fun k hk=>?_
 rw [iq] at hk
 rw [vg hk,vg hk,pm,pm]
 by_cases h2:k<min i L.length
 ·rw [ap h2,ap (by omega),ET (by omega) (by omega),ET (by omega) (by omega)]
 ·rw [ah h2,ah (by omega)]
theorem afm (fs:List Cd):FF fs []=fs:=by
 refine Dw (iq _ _) fun k hk=>?_
 rw [iq] at hk
 rw [vg hk,ah (by simp)]
def cdP (x:List Int×List aZ):List AV:=qf ⟨0,x.1,x.2⟩
theorem ZO (x:List Int×List aZ):cdP x=[.int .i64 0,.sl 1 (x.1.map mA),.sl 9 (x.2.map aW)]:=rfl
variable {b:List UInt8} (hb:b.length<1000000000)
include hb
theorem agn:RP gT [.int .i64 (64:Nat),.fn pR []] b (pL b (Jr b) (64:Nat)) (fun l=>.sl 3 (l.map cdP)) :=
 rZ hb (cF gD) (fun x=>⟨rfl,rfl,rfl,fun i=>rfl⟩) (by kernel_rfl) (fun _=>rfl) (fun _ h=>by cases h) (aiY hb) ⟨_,aaf b⟩ 64 (by decide)
attribute [local go_sem] di ro xf vI td
theorem acw (d:Dc) (a:Nat) (e:Int) (ha:a≤b.length) (hf:d.m.fs.length≤9223372036854775807):aX pg rQ [.mp 1000 15 0 0,.mp 1001 4 0 0] [(1000,xf 2000 2001 d),(1001,ro true b a e),(2000,vI d.m.fs),(2001,td d.m.cs)] sb
  (fun r' σ'=>r' = .tup []∧σ'=[(1000,xf 2000 2001 ⟨{ d.m with fs:=FF d.m.fs (pL b (Jr b) (64:Nat) a e).1 },d.place,(pL b (Jr b) (64:Nat) a e).1.length,d.data⟩),(1001,ro true b ((pL b (Jr b) (64:Nat) a e).2.1:Nat) (pL b (Jr b) (64:Nat) a e).2.2),(2000,vI (FF d.m.fs (pL b (Jr b) (64:Nat) a e).1)),(2001,td d.m.cs)]):=by
 refine bF jS ?_
 simp only [go_sem,jS]
 refine ab (agn hb a e ha) ?_
 have hl:=Mr b (Jr b) (64:Nat) a e
 generalize pL b (Jr b) (64:Nat) a e=y at *
 obtain ⟨L,a1,e1⟩:=y
 simp only at hl ⊢
 simp only [go_sem]
 refine aw (fun i:Nat=>⟨[(16,.int .i64 i),(15,.int .i64 L.length),(14,.sl 3 (L.map cdP)),(0,.mp 1000 15 0 0),(1,.mp 1001 4 0 0)],[(1000,xf 2000 2001 ⟨{ d.m with fs:=FF d.m.fs (L.take i) },d.place,L.length,d.data⟩),(1001,ro true b a1 e1),(2000,vI (FF d.m.fs (L.take i))),(2001,td d.m.cs)]⟩) (fun i=>i≤L.length) (fun i=>L.length - i) 0 (cX _) (Wk.of ?_ ?_) ?_
 ·simp only [go_sem];try simp
 ·simp only [go_sem,oa,afm];try simp [go_sem]
 intro i hi2
 by_cases q1:(i:Int)<(L.length:Int)
 rotate_left
 ·obtain rfl:i=L.length:=by omega
  rw [kC]
  simp only [go_sem,aQ q1]
  exact cN [] _ [(1000,xf 2000 2001 ⟨{ d.m with fs:=FF d.m.fs L },d.place,L.length,d.data⟩),(1001,ro true b a1 e1),(2000,vI (FF d.m.fs L)),(2001,td d.m.cs)] ⟨rfl,rfl⟩
 have hi':i<L.length:=by omega
 have e8:=dz hi' (by omega)
 have hlen:=iq d.m.fs (L.take i)
 by_cases q2:(i:Int)<(d.m.fs.length:Int)
 ·have hi3:i<d.m.fs.length:=by omega
  have hs:=afo hi3 hi'
  have hg:=vg (l:=L.take i) hi3
  rw [ah (by rw [pm];omega)] at hg
  generalize FF d.m.fs (L.take i)=B at *
  have hst:=Oz 2000 3 3 i 61 qf B ⟨(ac d.m.fs i).t,(ac L i).1,(ac L i).2⟩ (fun _=>rfl) rfl
  rw [hs,dY] at hst
  have hld:vp none (qf (ac B i))=some (.int .i64 (ac d.m.fs i).t):=by rw [hg];rfl
  simp only [go_sem,aO q1,hlen,aO q2,ZO,hld,hst]
  refine ⟨by omega,q1,⟨by omega,q2⟩,hi3,⟨by omega,q2⟩,hi3,?_⟩
  refine aG (i+1) (show i+1≤L.length by omega) (show L.length - (i+1)<L.length - i by omega) (Wk.of ?_ ?_)
  ·simp only [go_sem,e8];try simp
  ·simp only [go_sem,iq];try simp [go_sem]
 ·have hs:=afn (L:=L) (show d.m.fs.length≤i by omega)
  simp only [go_sem,aO q1,hlen,aQ q2,ZO]
  refine ⟨by omega,q1,?_⟩
  refine aG (i+1) (show i+1≤L.length by omega) (show L.length - (i+1)<L.length - i by omega) (Wk.of ?_ ?_)
  ·simp only [go_sem,e8];try simp
  ·simp only [go_sem,hs,iq];try simp [go_sem]
end
section
open Go Go.Mw
def wY (d:Dc) (s:dU) (x:List UInt8):Prop:=aX pg pr [.mp 1000 15 0 0,.agg [.int .i64 s.id,.str s.name,.sl 1 (x.map i5)]] [(1000,xf 2000 2001 d),(2000,vI d.m.fs),(2001,td d.m.cs)] sb
  (fun r' σ'=>r' = .int .i64 (de d s).2∧σ'=[(1000,xf 2000 2001 (de d s).1),(2000,vI (de d s).1.m.fs),(2001,td (de d s).1.m.cs)])
variable {d:Dc} {s:dU} {x:List UInt8} (hs:s.bs=some x) (hx:x.length<1000000000) (h0:¬s.id=0)
include hs hx h0
attribute [local go_sem] di ro xf vI td
theorem ag7 (hp:fk s.id=1):wY d s x:=by
 refine bF an ?_
 have hst:de d s=ky d 1 x:=by unfold de;rw [ah h0,hs,cm,hp]
 rw [hst]
 unfold ky kr kH
 simp only [Int.reduceEq,aF,bc]
 have cp:=iB s.id
 rw [hp] at cp
 have cr:=kx x hx
 simp only [go_sem,an,ay h0]
 refine aa (cp) ?_
 refine dv cr rfl (by simp [go_sem]) 905 (by decide) (by simp only [go_sem]) ?_
 simp only [go_sem,show ((1:Int)==1)=true from rfl]
 refine ab (agr hx 0 0 (cX _)) ?_
 generalize pL x (pFt x) (64:Nat) 0 0=y
 obtain ⟨l,a1,e1⟩:=y
 simp only [go_sem]
 refine ab (pZ true x a1 e1) ?_
 rw [iX]
 simp only [go_sem]
 exact jG [] (.int .i64 (oR x a1 e1)) [(1000,xf 2000 2001 ⟨{ d.m with ts:=l },1,d.codes,d.data⟩),(2000,vI d.m.fs),(2001,td d.m.cs)] ⟨rfl,rfl⟩
theorem ag8 (hp:fk s.id=2):wY d s x:=by
 refine bF an ?_
 have hst:de d s=ky d 2 x:=by unfold de;rw [ah h0,hs,cm,hp]
 rw [hst]
 unfold ky kr kH
 simp only [Int.reduceEq,aF,bc]
 have cp:=iB s.id
 rw [hp] at cp
 have cr:=kx x hx
 simp only [go_sem,an,ay h0]
 refine aa (cp) ?_
 refine dv cr rfl (by simp [go_sem]) 905 (by decide) (by simp only [go_sem]) ?_
 simp only [go_sem,show ((2:Int)==1)=false from rfl,show ((2:Int)==2)=true from rfl]
 refine ab (agu hx 0 0 (cX _)) ?_
 generalize pL x (YD x) (32:Nat) 0 0=y
 obtain ⟨l,a1,e1⟩:=y
 simp only [go_sem]
 refine ab (pZ true x a1 e1) ?_
 rw [iX]
 simp only [go_sem]
 exact jG [] (.int .i64 (oR x a1 e1)) [(1000,xf 2000 2001 ⟨{ d.m with ims:=l },2,d.codes,d.data⟩),(2000,vI d.m.fs),(2001,td d.m.cs)] ⟨rfl,rfl⟩
theorem ag_ (hp:fk s.id=4):wY d s x:=by
 refine bF an ?_
 have hst:de d s=ky d 4 x:=by unfold de;rw [ah h0,hs,cm,hp]
 rw [hst]
 unfold ky kr kH
 simp only [Int.reduceEq,aF,bc]
 have cp:=iB s.id
 rw [hp] at cp
 have cr:=kx x hx
 simp only [go_sem,an,ay h0]
 refine aa (cp) ?_
 refine dv cr rfl (by simp [go_sem]) 905 (by decide) (by simp only [go_sem]) ?_
 simp only [go_sem,show ((4:Int)==1)=false from rfl,show ((4:Int)==2)=false from rfl,show ((4:Int)==3)=false from rfl,show ((4:Int)==4)=true from rfl]
 refine ab (agx hx 0 0 (cX _)) ?_
 generalize pL x (i6 (H6 x) Ld) (4:Nat) 0 0=y
 obtain ⟨l,a1,e1⟩:=y
 simp only [go_sem]
 refine ab (pZ true x a1 e1) ?_
 rw [iX]
 simp only [go_sem]
 exact jG [] (.int .i64 (oR x a1 e1)) [(1000,xf 2000 2001 ⟨{ d.m with tbs:=l },4,d.codes,d.data⟩),(2000,vI d.m.fs),(2001,td d.m.cs)] ⟨rfl,rfl⟩
theorem aha (hp:fk s.id=5):wY d s x:=by
 refine bF an ?_
 have hst:de d s=ky d 5 x:=by unfold de;rw [ah h0,hs,cm,hp]
 rw [hst]
 unfold ky kr kH
 simp only [Int.reduceEq,aF,bc]
 have cp:=iB s.id
 rw [hp] at cp
 have cr:=kx x hx
 simp only [go_sem,an,ay h0]
 refine aa (cp) ?_
 refine dv cr rfl (by simp [go_sem]) 905 (by decide) (by simp only [go_sem]) ?_
 simp only [go_sem,show ((5:Int)==1)=false from rfl,show ((5:Int)==2)=false from rfl,show ((5:Int)==3)=false from rfl,show ((5:Int)==4)=false from rfl,show ((5:Int)==5)=true from rfl]
 refine ab (agv hx 0 0 (cX _)) ?_
 generalize pL x (i6 (FI x) ⟨0,0,false⟩) (2:Nat) 0 0=y
 obtain ⟨l,a1,e1⟩:=y
 simp only [go_sem]
 refine ab (pZ true x a1 e1) ?_
 rw [iX]
 simp only [go_sem]
 exact jG [] (.int .i64 (oR x a1 e1)) [(1000,xf 2000 2001 ⟨{ d.m with ms:=l },5,d.codes,d.data⟩),(2000,vI d.m.fs),(2001,td d.m.cs)] ⟨rfl,rfl⟩
theorem ahb (hp:fk s.id=6):wY d s x:=by
 refine bF an ?_
 have hst:de d s=ky d 6 x:=by unfold de;rw [ah h0,hs,cm,hp]
 rw [hst]
 unfold ky kr kH
 simp only [Int.reduceEq,aF,bc]
 have cp:=iB s.id
 rw [hp] at cp
 have cr:=kx x hx
 simp only [go_sem,an,ay h0]
 refine aa (cp) ?_
 refine dv cr rfl (by simp [go_sem]) 905 (by decide) (by simp only [go_sem]) ?_
 simp only [go_sem,show ((6:Int)==1)=false from rfl,show ((6:Int)==2)=false from rfl,show ((6:Int)==3)=false from rfl,show ((6:Int)==4)=false from rfl,show ((6:Int)==5)=false from rfl,show ((6:Int)==6)=true from rfl]
 refine ab (ags hx 0 0 (cX _)) ?_
 generalize pL x (pGd x) (32:Nat) 0 0=y
 obtain ⟨l,a1,e1⟩:=y
 simp only [go_sem]
 refine ab (pZ true x a1 e1) ?_
 rw [iX]
 simp only [go_sem]
 exact jG [] (.int .i64 (oR x a1 e1)) [(1000,xf 2000 2001 ⟨{ d.m with gs:=l },6,d.codes,d.data⟩),(2000,vI d.m.fs),(2001,td d.m.cs)] ⟨rfl,rfl⟩
theorem ahc (hp:fk s.id=7):wY d s x:=by
 refine bF an ?_
 have hst:de d s=ky d 7 x:=by unfold de;rw [ah h0,hs,cm,hp]
 rw [hst]
 unfold ky kr kH
 simp only [Int.reduceEq,aF,bc]
 have cp:=iB s.id
 rw [hp] at cp
 have cr:=kx x hx
 simp only [go_sem,an,ay h0]
 refine aa (cp) ?_
 refine dv cr rfl (by simp [go_sem]) 905 (by decide) (by simp only [go_sem]) ?_
 simp only [go_sem,show ((7:Int)==1)=false from rfl,show ((7:Int)==2)=false from rfl,show ((7:Int)==3)=false from rfl,show ((7:Int)==4)=false from rfl,show ((7:Int)==5)=false from rfl,show ((7:Int)==6)=false from rfl,show ((7:Int)==7)=true from rfl]
 refine ab (agq hx 0 0 (cX _)) ?_
 generalize pL x (YC x) (64:Nat) 0 0=y
 obtain ⟨l,a1,e1⟩:=y
 simp only [go_sem]
 refine ab (pZ true x a1 e1) ?_
 rw [iX]
 simp only [go_sem]
 exact jG [] (.int .i64 (oR x a1 e1)) [(1000,xf 2000 2001 ⟨{ d.m with exs:=l },7,d.codes,d.data⟩),(2000,vI d.m.fs),(2001,td d.m.cs)] ⟨rfl,rfl⟩
theorem ahe (hp:fk s.id=9):wY d s x:=by
 refine bF an ?_
 have hst:de d s=ky d 9 x:=by unfold de;rw [ah h0,hs,cm,hp]
 rw [hst]
 unfold ky kr kH
 simp only [Int.reduceEq,aF,bc]
 have cp:=iB s.id
 rw [hp] at cp
 have cr:=kx x hx
 simp only [go_sem,an,ay h0]
 refine aa (cp) ?_
 refine dv cr rfl (by simp [go_sem]) 905 (by decide) (by simp only [go_sem]) ?_
 simp only [go_sem,show ((9:Int)==1)=false from rfl,show ((9:Int)==2)=false from rfl,show ((9:Int)==3)=false from rfl,show ((9:Int)==4)=false from rfl,show ((9:Int)==5)=false from rfl,show ((9:Int)==6)=false from rfl,show ((9:Int)==7)=false from rfl,show ((9:Int)==8)=false from rfl,show ((9:Int)==9)=true from rfl]
 refine ab (agp hx 0 0 (cX _)) ?_
 generalize pL x (YB x) (16:Nat) 0 0=y
 obtain ⟨l,a1,e1⟩:=y
 simp only [go_sem]
 refine ab (pZ true x a1 e1) ?_
 rw [iX]
 simp only [go_sem]
 exact jG [] (.int .i64 (oR x a1 e1)) [(1000,xf 2000 2001 ⟨{ d.m with els:=l },9,d.codes,d.data⟩),(2000,vI d.m.fs),(2001,td d.m.cs)] ⟨rfl,rfl⟩
theorem adU (hp:fk s.id=12):wY d s x:=by
 refine bF an ?_
 have hst:de d s=ky d 12 x:=by unfold de;rw [ah h0,hs,cm,hp]
 rw [hst]
 unfold ky kr kH
 simp only [Int.reduceEq,aF,bc]
 have cp:=iB s.id
 rw [hp] at cp
 have cr:=kx x hx
 simp only [go_sem,an,ay h0]
 refine aa (cp) ?_
 refine dv cr rfl (by simp [go_sem]) 905 (by decide) (by simp only [go_sem]) ?_
 simp only [go_sem,show ((12:Int)==1)=false from rfl,show ((12:Int)==2)=false from rfl,show ((12:Int)==3)=false from rfl,show ((12:Int)==4)=false from rfl,show ((12:Int)==5)=false from rfl,show ((12:Int)==6)=false from rfl,show ((12:Int)==7)=false from rfl,show ((12:Int)==8)=false from rfl,show ((12:Int)==9)=false from rfl,show ((12:Int)==10)=false from rfl,show ((12:Int)==11)=false from rfl,show ((12:Int)==12)=true from rfl]
 refine ab (ago hx 0 0 (cX _)) ?_
 generalize pL x (YA x) (16:Nat) 0 0=y
 obtain ⟨l,a1,e1⟩:=y
 simp only [go_sem]
 refine ab (pZ true x a1 e1) ?_
 rw [iX]
 simp only [go_sem]
 exact jG [] (.int .i64 (oR x a1 e1)) [(1000,xf 2000 2001 ⟨{ d.m with ds:=l },12,d.codes,d.data⟩),(2000,vI d.m.fs),(2001,td d.m.cs)] ⟨rfl,rfl⟩
theorem ahd (hp:fk s.id=8):wY d s x:=by
 refine bF an ?_
 have hst:de d s=ky d 8 x:=by unfold de;rw [ah h0,hs,cm,hp]
 rw [hst]
 unfold ky kr kH
 simp only [Int.reduceEq,aF,bc]
 have cp:=iB s.id
 rw [hp] at cp
 have cr:=kx x hx
 simp only [go_sem,an,ay h0]
 refine aa (cp) ?_
 refine dv cr rfl (by simp [go_sem]) 905 (by decide) (by simp only [go_sem]) ?_
 simp only [go_sem,show ((8:Int)==1)=false from rfl,show ((8:Int)==2)=false from rfl,show ((8:Int)==3)=false from rfl,show ((8:Int)==4)=false from rfl,show ((8:Int)==5)=false from rfl,show ((8:Int)==6)=false from rfl,show ((8:Int)==7)=false from rfl,show ((8:Int)==8)=true from rfl]
 refine ab (N_ hx 0 0 (cX _)) ?_
 unfold pTn pb pP
 generalize sY x 0 0=y
 obtain ⟨n,a1,e1⟩:=y
 simp only [go_sem]
 refine ab (pZ true x a1 e1) ?_
 rw [iX]
 simp only [go_sem]
 exact jG [] (.int .i64 (oR x a1 e1)) [(1000,xf 2000 2001 ⟨{ d.m with hs:=true,st:=(n:Int) },8,d.codes,d.data⟩),(2000,vI d.m.fs),(2001,td d.m.cs)] ⟨rfl,rfl⟩
theorem adS (hp:fk s.id=10):wY d s x:=by
 refine bF an ?_
 have hst:de d s=ky d 10 x:=by unfold de;rw [ah h0,hs,cm,hp]
 rw [hst]
 unfold ky kr kH
 simp only [Int.reduceEq,aF,bc]
 have cp:=iB s.id
 rw [hp] at cp
 have cr:=kx x hx
 simp only [go_sem,an,ay h0]
 refine aa (cp) ?_
 refine dv cr rfl (by simp [go_sem]) 905 (by decide) (by simp only [go_sem]) ?_
 simp only [go_sem,show ((10:Int)==1)=false from rfl,show ((10:Int)==2)=false from rfl,show ((10:Int)==3)=false from rfl,show ((10:Int)==4)=false from rfl,show ((10:Int)==5)=false from rfl,show ((10:Int)==6)=false from rfl,show ((10:Int)==7)=false from rfl,show ((10:Int)==8)=false from rfl,show ((10:Int)==9)=false from rfl,show ((10:Int)==10)=true from rfl]
 refine ab (N_ hx 0 0 (cX _)) ?_
 unfold pTn pb pP
 generalize sY x 0 0=y
 obtain ⟨n,a1,e1⟩:=y
 simp only [go_sem]
 refine ab (pZ true x a1 e1) ?_
 rw [iX]
 simp only [go_sem]
 exact jG [] (.int .i64 (oR x a1 e1)) [(1000,xf 2000 2001 ⟨d.m,10,d.codes,(n:Int)⟩),(2000,vI d.m.fs),(2001,td d.m.cs)] ⟨rfl,rfl⟩
end
section
open Go Go.Mw
theorem bw1 {a b id:Nat} (h1:id≠a) (h2:id≠b):bw [(a,b)] id=id:=by
 show jk a b id=id
 unfold jk
 rw [ah h1,ah h2]
theorem agy {b:List UInt8} (hb:b.length<1000000000) (a:Nat) (e:Int) (ha:a≤b.length):aX pg gT [.mp 1000 4 0 0,.int .i64 (64:Nat),.fn gu []] [(1000,ro true b a e)] sb
  (fun r' σ'=>r' = .ms 900 3 0 (pL b (N9 b) (64:Nat) a e).1.length∧σ'=[(1000,ro true b ((pL b (N9 b) (64:Nat) a e).2.1:Nat) (pL b (N9 b) (64:Nat) a e).2.2),(900,vI (pL b (N9 b) (64:Nat) a e).1)]) :=
 Y3 hb (cF gD) (fun x=>⟨rfl,rfl,rfl,fun i=>rfl⟩) (by kernel_rfl) (fun _=>rfl) (fun _ h=>by cases h) (ai6 hb) ⟨_,aam b⟩ 64 (by decide) a e ha
variable {d:Dc} {s:dU} {x:List UInt8} (hs:s.bs=some x) (hx:x.length<1000000000) (h0:¬s.id=0)
include hs hx h0
attribute [local go_sem] di ro xf vI td
theorem ag9 (hp:fk s.id=3):wY d s x:=by
 refine bF an ?_
 have hst:de d s=ky d 3 x:=by unfold de;rw [ah h0,hs,cm,hp]
 rw [hst]
 unfold ky kr kH
 simp only [Int.reduceEq,aF,bc]
 have cp:=iB s.id
 rw [hp] at cp
 have cr:=kx x hx
 simp only [go_sem,an,ay h0]
 refine aa (cp) ?_
 refine dv cr rfl (by simp [go_sem]) 905 (by decide) (by simp only [go_sem]) ?_
 simp only [go_sem,show ((3:Int)==1)=false from rfl,show ((3:Int)==2)=false from rfl,show ((3:Int)==3)=true from rfl]
 have cl:=agy hx 0 0 (cX _)
 have hl:=Mr x (N9 x) (64:Nat) 0 0
 generalize pL x (N9 x) (64:Nat) 0 0=y at *
 obtain ⟨l,a1,e1⟩:=y
 simp only at cl hl ⊢
 refine ew (σ2:=[(905,ro true x ((0:Nat):Int) 0)]) (r3:=.ms 900 3 0 l.length) (σ3:=[(905,ro true x a1 e1),(900,vI l)]) cl [(1000,905)] [900] rfl rfl rfl rfl ?_ ?_ ?_ ?_
 ·simp only [go_sem];simp
 ·simp only [go_sem];simp [sb,bw,jk,ae]
 ·simp only [go_sem];simp [ae]
 simp only [go_sem]
 refine ab (pZ true x a1 e1) ?_
 rw [iX]
 simp only [go_sem]
 exact bP (Wk.ren _ [(900,2000)] (fun id h1 h2=>bw1 (by omega) (by omega))) [] (.int .i64 (oR x a1 e1)) [(1000,xf 2000 2001 ⟨{ d.m with fs:=l },3,d.codes,d.data⟩),(2000,vI l),(2001,td d.m.cs)] (by rfl) (by exact ⟨rfl,rfl,rfl,trivial⟩) rfl ⟨rfl,rfl⟩
theorem adT (hf:d.m.fs.length≤9223372036854775807) (hp:fk s.id=11):wY d s x:=by
 refine bF an ?_
 have hst:de d s=ky d 11 x:=by unfold de;rw [ah h0,hs,cm,hp]
 rw [hst]
 unfold ky kr kH
 simp only [Int.reduceEq,aF,bc]
 have cp:=iB s.id
 rw [hp] at cp
 have cr:=kx x hx
 simp only [go_sem,an,ay h0]
 refine aa (cp) ?_
 refine dv cr rfl (by simp [go_sem]) 905 (by decide) (by simp only [go_sem]) ?_
 simp only [go_sem,show ((11:Int)==1)=false from rfl,show ((11:Int)==2)=false from rfl,show ((11:Int)==3)=false from rfl,show ((11:Int)==4)=false from rfl,show ((11:Int)==5)=false from rfl,show ((11:Int)==6)=false from rfl,show ((11:Int)==7)=false from rfl,show ((11:Int)==8)=false from rfl,show ((11:Int)==9)=false from rfl,show ((11:Int)==10)=false from rfl,show ((11:Int)==11)=true from rfl]
 have cl:=acw hx ⟨d.m,11,d.codes,d.data⟩ 0 0 (cX _) hf
 generalize pL x (Jr x) (64:Nat) 0 0=y at *
 obtain ⟨l,a1,e1⟩:=y
 simp only at cl ⊢
 refine ew (σ2:=[(1000,xf 2000 2001 ⟨d.m,11,d.codes,d.data⟩),(905,ro true x ((0:Nat):Int) 0),(2000,vI d.m.fs),(2001,td d.m.cs)]) (r3:=.tup []) (σ3:=[(1000,xf 2000 2001 ⟨{ d.m with fs:=FF d.m.fs l },11,l.length,d.data⟩),(905,ro true x a1 e1),(2000,vI (FF d.m.fs l)),(2001,td d.m.cs)]) cl [(1001,905)] [2000,2001] rfl rfl rfl rfl ?_ ?_ ?_ ?_
 ·simp only [go_sem];simp
 ·simp only [go_sem];simp [sb,bw,jk,ae]
 ·simp only [go_sem];simp [ae]
 simp only [go_sem]
 refine ab (pZ true x a1 e1) ?_
 rw [iX]
 simp only [go_sem]
 exact jG [] (.int .i64 (oR x a1 e1)) [(1000,xf 2000 2001 ⟨{ d.m with fs:=FF d.m.fs l },11,l.length,d.data⟩),(2000,vI (FF d.m.fs l)),(2001,td d.m.cs)] ⟨rfl,rfl⟩
end
section
open Go Go.Mw
attribute [local go_sem] di ro xf vI td
theorem ag6 {d:Dc} {s:dU} {x:List UInt8} (hs:s.bs=some x) (hx:x.length<1000000000) (h0:s.id=0):wY d s x:=by
 refine jJ (ic:=kA 22 an.body) ue (cF an) (by rfl) rfl ?_
 have hst:de d s=if d.m.cs.length≥8∨x.length>4096 then (d,6) else (⟨{ d.m with cs:=d.m.cs++[⟨d.place,s.name,x⟩] },d.place,d.codes,d.data⟩,0):=by
  unfold de
  rw [ap h0,hs,cm]
 rw [hst]
 by_cases h1:(d.m.cs.length:Int)≥8
 ·rw [ap (.inl (by omega))]
  simp only [go_sem,an,dV h0,aO h1]
  exact jG [] (.int .i64 6) [(1000,xf 2000 2001 d),(2000,vI d.m.fs),(2001,td d.m.cs)] ⟨rfl,rfl⟩
 by_cases h2:(x.length:Int)>4096
 ·rw [ap (.inr (by omega))]
  simp only [go_sem,an,dV h0,aQ h1,aO h2]
  exact jG [] (.int .i64 6) [(1000,xf 2000 2001 d),(2000,vI d.m.fs),(2001,td d.m.cs)] ⟨rfl,rfl⟩
 rw [ah (by omega)]
 simp only [go_sem,an,dV h0,aQ h1,aQ h2]
 refine L2 (x.map i5) ?_ (by simp only [go_sem]) (by simp only [go_sem]) ?_
 ·show qc 36 5 1 .nl (some (x.map i5)) (fun _=>none)=_
  unfold qc
  simp only [di]
  rw [ap (by omega)]
 simp only [go_sem]
 refine PF (.ms 2001 3 0 (d.m.cs.length+1)) (.reb 2001 (td (d.m.cs++[⟨d.place,s.name,x⟩]))) ?_ (by simp only [go_sem]) (by simp only [go_sem]) (by simp only [go_sem];rfl) (by simp only [go_sem]) ?_
 ·refine Eq.trans (show _=qc 39 67 3 (.ms 2001 3 0 d.m.cs.length) (some [zK ⟨d.place,s.name,x⟩]) (ae [(2001,td d.m.cs)]) from rfl) ?_
  unfold qc
  simp only [eA,b_,ae,aF]
  have hr:(td d.m.cs).rows.length=d.m.cs.length:=by simp [td]
  rw [ap (by omega),ap ⟨trivial,rfl,rfl,rfl,trivial,by omega,by omega,by omega,rfl⟩]
  simp [td,fL]
 simp only [go_sem]
 rw [show d.m.cs.length+1=(d.m.cs++[(⟨d.place,s.name,x⟩:Cu)]).length by simp]
 exact jG [] (.int .i64 0) [(1000,xf 2000 2001 ⟨{ d.m with cs:=d.m.cs++[⟨d.place,s.name,x⟩] },d.place,d.codes,d.data⟩),(2000,vI d.m.fs),(2001,td (d.m.cs++[⟨d.place,s.name,x⟩]))] ⟨rfl,rfl⟩
theorem PN (d:Dc) {s:dU} {x:List UInt8} (hs:s.bs=some x) (hx:x.length<1000000000) (hf:d.m.fs.length≤9223372036854775807) (hid:s.id=0∨(1≤s.id∧s.id≤12)):wY d s x:=by
 by_cases h0:s.id=0
 ·exact ag6 hs hx h0
 obtain ⟨p1,p2⟩:=IU s.id
 have p3:=(Wy (id:=s.id) (by omega)).2
 rcases MZ (id:=fk s.id) ⟨p3,p2⟩ with p | p | p | p | p | p | p | p | p | p | p | p
 ·exact ag7 hs hx h0 p
 ·exact ag8 hs hx h0 p
 ·exact ag9 hs hx h0 p
 ·exact ag_ hs hx h0 p
 ·exact aha hs hx h0 p
 ·exact ahb hs hx h0 p
 ·exact ahc hs hx h0 p
 ·exact ahd hs hx h0 p
 ·exact ahe hs hx h0 p
 ·exact adS hs hx h0 p
 ·exact adT hs hx h0 hf p
 ·exact adU hs hx h0 p
end
section
open Go Go.Mw
def ZG:List AV:=[.nl,.nl,.nl,.nl,.nl,.nl,.nl,.bool false,.int .i64 0,.nl,.nl,.nl]
theorem EQ:nlm ZG (G3 Io):=⟨.inr ⟨rfl,.inl ⟨2,rfl⟩⟩,.inr ⟨rfl,.inl ⟨13,rfl⟩⟩,.inr ⟨rfl,.inl ⟨3,rfl⟩⟩,.inr ⟨rfl,.inl ⟨4,rfl⟩⟩,.inr ⟨rfl,.inl ⟨3,rfl⟩⟩,.inr ⟨rfl,.inl ⟨3,rfl⟩⟩,.inr ⟨rfl,.inl ⟨3,rfl⟩⟩,.inl rfl,.inl rfl,.inr ⟨rfl,.inl ⟨5,rfl⟩⟩,.inr ⟨rfl,.inl ⟨4,rfl⟩⟩,.inr ⟨rfl,.inl ⟨3,rfl⟩⟩,trivial⟩
theorem acE:nlm [.nl,.nl,.nl,.nl,.nl,.nl,.nl,.bool false,.int .i64 0,.nl,.nl,.nl,.int .i64 0,.int .i64 0,.int .i64 (-1)] [.sl 2 (zC.m.ts.map rK),.sl 13 (zC.m.ims.map tg),.ms 900 3 0 0,.sl 4 (zC.m.tbs.map xR),.sl 3 (zC.m.ms.map ry),.sl 3 (zC.m.gs.map yd),.sl 3 (zC.m.exs.map xN),.bool zC.m.hs,.int .i64 zC.m.st,.sl 5 (zC.m.els.map gP),.sl 4 (zC.m.ds.map lO),.ms 901 3 0 0,.int .i64 zC.place,.int .i64 (zC.codes:Nat),.int .i64 zC.data] :=
 ⟨.inr ⟨rfl,.inl ⟨2,rfl⟩⟩,.inr ⟨rfl,.inl ⟨13,rfl⟩⟩,.inr ⟨rfl,.inr ⟨900,3,rfl⟩⟩,.inr ⟨rfl,.inl ⟨4,rfl⟩⟩,.inr ⟨rfl,.inl ⟨3,rfl⟩⟩,.inr ⟨rfl,.inl ⟨3,rfl⟩⟩,.inr ⟨rfl,.inl ⟨3,rfl⟩⟩,.inl rfl,.inl rfl,.inr ⟨rfl,.inl ⟨5,rfl⟩⟩,.inr ⟨rfl,.inl ⟨4,rfl⟩⟩,.inr ⟨rfl,.inr ⟨901,3,rfl⟩⟩,.inl rfl,.inl rfl,.inl rfl,trivial⟩
theorem Zl {d:Dc} {p:Int} {b:List UInt8} (h:d.m.fs.length<4294967296):(ky d p b).1.m.fs.length<4294967296:=by
 unfold ky
 by_cases h3:p=3
 ·subst h3
  simp only [Int.reduceEq,bc,aF]
  exact Mr _ _ _ _ _
 by_cases h11:p=11
 ·subst h11
  simp only [Int.reduceEq,bc,aF]
  show (FF d.m.fs _).length<_
  rw [iq];exact h
 rw [ah h3,ah h11]
 repeat' split
 all_goals exact h
theorem Vk {d:Dc} {s:dU} (h:d.m.fs.length<4294967296):(de d s).1.m.fs.length<4294967296:=by
 unfold de
 split
 ·split<;>exact h
 ·exact Zl h
theorem YN {id:Int} {x:List UInt8} (h:(g_ id x).1=0):∃y,(g_ id x).2.bs=some y:=by
 unfold g_ at h ⊢
 by_cases h5:id=0
 ·rw [ap h5] at h ⊢
  by_cases h6:(cO true x 0 0).2.2≠0
  ·rw [ap h6] at h;exact absurd h h6
  ·rw [ah h6];exact ⟨_,rfl⟩
 ·rw [ah h5];exact ⟨_,rfl⟩
theorem Yu {d:List UInt8} {last:Int} (h:(cP d last).1=0):∃y,(cP d last).2.1.bs=some y:=by
 unfold cP at h ⊢
 by_cases h1:(ac d 0).toNat>12
 ·rw [ap h1] at h;cases h
 rw [ah h1] at h ⊢
 by_cases h2:(lc d).2.2≠0
 ·rw [ap h2] at h;exact absurd h h2
 rw [ah h2] at h ⊢
 by_cases h3:(ac d 0).toNat≠0∧fk (ac d 0).toNat≤last
 ·rw [ap h3] at h;cases h
 rw [ah h3] at h ⊢
 by_cases h4:(g_ (ac d 0).toNat (gb (lc d).1)).1≠0
 ·rw [ap h4] at h;exact absurd h h4
 rw [ah h4]
 exact YN (Classical.not_not.1 h4)
theorem Ou:∀(f:Nat) (d:List UInt8) (last:Int) (acc:List dU),(∀s∈acc,∃y,s.bs=some y)→∀s∈(qZ f d last acc).2,∃y,s.bs=some y
 | 0,d,last,acc,h=>h
 | f+1,d,last,acc,h=>by
  rw [qZ]
  by_cases h0:d.length=0
  ·rw [ap h0];exact h
  rw [ah h0]
  by_cases h1:(cP d last).1≠0
  ·rw [ap h1];intro s hs;cases hs
  rw [ah h1]
  refine Ou f _ _ _ fun s hs=>?_
  rcases fA.1 hs with q | q
  ·exact h s q
  ·simp only [kB] at q;subst q;exact Yu (Classical.not_not.1 h1)
theorem ad1 (b:List UInt8):∀s∈(qu b).2,∃y,s.bs=some y:=by
 unfold qu
 split
 ·intro s hs;cases hs
 split
 ·intro s hs;cases hs
 ·exact Ou _ _ _ _ fun s hs=>by cases hs
theorem Ow:∀(f:Nat) (d:List UInt8) (last:Int) (acc:List dU),(qZ f d last acc).2.length≤acc.length+f
 | 0,d,last,acc=>bt _
 | f+1,d,last,acc=>by
  rw [qZ]
  split
  ·exact Nat.le_add_right _ _
  split
  ·exact cX _
  ·have:=Ow f (cP d last).2.2 (max last (fk (cP d last).2.1.id)) (acc++[(cP d last).2.1])
   rw [bE,cM] at this
   omega
theorem ad3 (b:List UInt8):(qu b).2.length≤b.length:=by
 unfold qu
 split
 ·exact cX _
 split
 ·exact cX _
 ·have:=Ow (b.drop 8).length (b.drop 8) 0 []
  rw [iE] at this
  simp only [b_] at this
  unfold BV
  rw [iE]
  omega
attribute [local go_sem] di xf vI td
theorem ud (b:List UInt8) (hb:b.length≤9223372036854775807):ao pg B9 [.sl 1 (b.map i5)] (.tup [dH (rI b).1,.int .i64 (rI b).2]):=by
 refine aL mB ?_
 by_cases h1:(b.length:Int)>262144
 ·have r:rI b=(Io,6):=by unfold rI;rw [ap (by omega)]
  rw [r]
  simp only [go_sem,mB,aO h1]
  exact eB (Wk.nlm _ 2 (r:=ZG) (r':=G3 Io) (by rfl) EQ) [] (by first | rfl | simp only [go_sem]) rfl
 have c1:=Zi b (by omega)
 simp only [go_sem,mB,aQ h1]
 refine ax (c1) ?_
 by_cases h2:(qu b).1=0
 rotate_left
 ·have r:rI b=(Io,(qu b).1):=by unfold rI;rw [ah (by omega),ap h2]
  rw [r]
  simp only [go_sem,bv h2]
  exact eB (Wk.nlm _ 2 (r:=ZG) (r':=G3 Io) (by rfl) EQ) [] (by first | rfl | simp only [go_sem]) rfl
 have r:rI b=FP (qu b).2 zC:=by unfold rI;rw [ah (by omega),ah (by simp [h2])]
 have hsz:=ad4 b
 rw [r]
 simp only [go_sem,aD h2]
 have hbs:=ad1 b
 have hLn:=ad3 b
 generalize (qu b).2=L at *
 obtain ⟨R,hR⟩:∃R,FP L zC=R:=⟨_,rfl⟩
 rw [hR]
 refine aw (fun q:Nat×Dc=>⟨[(27,.int .i64 q.1),(26,.int .i64 L.length),(25,.sl 3 (L.map uG)),(6,.mp 24 15 0 0),(2,.mp 2 12 0 0)],[(2,⟨33,12,[[.nl,.nl,.nl,.nl,.nl,.nl,.nl,.bool false,.int .i64 0,.nl,.nl,.nl]],true⟩),(24,xf 900 901 q.2),(900,vI q.2.m.fs),(901,td q.2.m.cs)]⟩) (fun q=>q.1≤L.length∧FP (L.drop q.1) q.2=R∧q.2.m.fs.length<4294967296) (fun q=>L.length - q.1) (0,zC) ⟨cX _,hR,by decide⟩
  ((((Wk.new0 _ 900 3 61 (.inl (by decide))).trans (Wk.new0 _ 901 3 67 (.inl (by decide)))).trans (Wk.nlm _ 24 (r:=[.nl,.nl,.nl,.nl,.nl,.nl,.nl,.bool false,.int .i64 0,.nl,.nl,.nl,.int .i64 0,.int .i64 0,.int .i64 (-1)]) (by rfl) acE)).trans (Wk.of ?_ ?_)) ?_
 ·simp only [go_sem];try simp
 ·simp only [go_sem];try simp [go_sem,zC,Io]
 rintro ⟨i,d⟩ ⟨hi,hD,hfs⟩
 simp only at hi hD hfs
 by_cases q1:(i:Int)<(L.length:Int)
 rotate_left
 ·obtain rfl:i=L.length:=by omega
  rw [List.drop_length,FP] at hD
  by_cases c1:(d.codes:Int)=(d.m.fs.length:Int)
  rotate_left
  ·rw [ap (.inl c1)] at hD
   subst hD
   simp only [go_sem,aQ q1,bv c1]
   exact eB (Wk.nlm _ 2 (r:=ZG) (r':=G3 Io) (by rfl) EQ) [] (by first | rfl | simp only [go_sem]) rfl
  by_cases c2:d.data≥0
  ·by_cases c3:d.data=(d.m.ds.length:Int)
   ·rw [ah (by rintro (q | q);exact q c1;exact q.2 c3)] at hD
    subst hD
    simp only [go_sem,aQ q1,aD c1,aO c2,aD c3]
    refine aJ [900,901] ?_ rfl
    simp only [go_sem,bt,dH,bC]
    rw [fL (by simp),fL (by simp)]
   ·rw [ap (.inr ⟨c2,c3⟩)] at hD
    subst hD
    simp only [go_sem,aQ q1,aD c1,aO c2,bv c3]
    exact eB (Wk.nlm _ 2 (r:=ZG) (r':=G3 Io) (by rfl) EQ) [] (by first | rfl | simp only [go_sem]) rfl
  ·rw [ah (by rintro (q | q);exact q c1;exact c2 q.1)] at hD
   subst hD
   simp only [go_sem,aQ q1,aD c1,aQ c2]
   refine aJ [900,901] ?_ rfl
   simp only [go_sem,bt,dH,bC]
   rw [fL (by simp),fL (by simp)]
 have hi':i<L.length:=by omega
 have e8:=dz hi' (by omega)
 have hin:ac L i∈L:=by rw [bp hi'];exact List.getElem_mem hi'
 obtain ⟨x,hx⟩:=hbs _ hin
 obtain ⟨z1,z2⟩:=hsz _ hin
 rw [hx,cm] at z1
 rw [xg hi',FP] at hD
 obtain ⟨s,hsL⟩:∃s,ac L i=s:=⟨_,rfl⟩
 rw [hsL] at hx z2 hD
 have cs:=PN d hx (by omega) (by omega) z2
 have hf2:=Vk (s:=s) hfs
 have hsx:MQ s.bs = .sl 1 (x.map i5):=by rw [hx];rfl
 unfold wY at cs
 generalize de d s=y at *
 obtain ⟨d',e⟩:=y
 simp only at cs hD hf2
 simp only [go_sem,aO q1,hsL,hsx]
 refine ⟨by omega,q1,?_⟩
 refine ew (σ2:=[(24,xf 900 901 d),(900,vI d.m.fs),(901,td d.m.cs)]) (r3:=.int .i64 e) (σ3:=[(24,xf 900 901 d'),(900,vI d'.m.fs),(901,td d'.m.cs)]) cs [(1000,24),(2000,900),(2001,901)] [900,901] rfl rfl rfl rfl ?_ ?_ ?_ ?_
 ·simp only [go_sem];simp
 ·simp only [go_sem];simp [sb,bw,jk,ae]
 ·simp only [go_sem];simp [ae]
 by_cases he:e=0
 rotate_left
 ·rw [ap he] at hD
  subst hD
  simp only [go_sem,bv he]
  exact eB (Wk.nlm _ 2 (r:=ZG) (r':=G3 Io) (by rfl) EQ) [] (by first | rfl | simp only [go_sem]) rfl
 rw [ah (by simp [he])] at hD
 simp only [go_sem,aD he]
 refine aG (i+1,d') ⟨show i+1≤L.length by omega,hD,hf2⟩ (show L.length - (i+1)<L.length - i by omega) (Wk.of ?_ ?_)
 ·simp only [go_sem,e8];try simp
 ·simp only [go_sem];try simp [go_sem]
end
section
open Go Go.Mw
def ln8 (m:Md):Nat:=m.ts.length+m.ims.length+m.fs.length+m.exs.length+m.els.length+m.ds.length+m.cs.length+m.gs.length
def I_ (m:Md):Bool:=decide (Ei m≤600)&&decide ((ln8 m:Int)≤300)
attribute [local go_sem] di bC
theorem y8 {m:Md} (h:Gi m):ao pg F1 [dH m] (.bool (I_ m)):=by
 refine aL ws ?_
 have c:=UI m h
 simp only [dH,bC] at c
 simp only [go_sem,ws,dH]
 refine ax (c) ?_
 unfold I_
 by_cases q:Ei m≤600
 rotate_left
 ·rw [aQ q]
  simp only [go_sem,aQ q]
  exact aj
 rw [aO q]
 have b1:=h.ts.1
 have b2:=h.ims
 have b3:=h.fs.1
 have b4:=h.exs
 have b5:=h.els.1
 have b6:=h.ds.1
 have b7:=h.cs.1
 have b8:=h.gs.1
 have w1:=wi (n:=(m.ts.length:Int)+m.ims.length) (by omega) (by omega)
 have w2:=wi (n:=(m.ts.length:Int)+m.ims.length+m.fs.length) (by omega) (by omega)
 have w3:=wi (n:=(m.ts.length:Int)+m.ims.length+m.fs.length+m.exs.length) (by omega) (by omega)
 have w4:=wi (n:=(m.ts.length:Int)+m.ims.length+m.fs.length+m.exs.length+m.els.length) (by omega) (by omega)
 have w5:=wi (n:=(m.ts.length:Int)+m.ims.length+m.fs.length+m.exs.length+m.els.length+m.ds.length) (by omega) (by omega)
 have w6:=wi (n:=(m.ts.length:Int)+m.ims.length+m.fs.length+m.exs.length+m.els.length+m.ds.length+m.cs.length) (by omega) (by omega)
 have w7:=wi (n:=(m.ts.length:Int)+m.ims.length+m.fs.length+m.exs.length+m.els.length+m.ds.length+m.cs.length+m.gs.length) (by omega) (by omega)
 have e:(ln8 m:Int)=(m.ts.length:Int)+m.ims.length+m.fs.length+m.exs.length+m.els.length+m.ds.length+m.cs.length+m.gs.length:=by unfold ln8;omega
 rw [e]
 simp only [go_sem,aO q,w1,w2,w3,w4,w5,w6,w7]
 exact aj
def HV:Md:=⟨[⟨[],[]⟩],[],[⟨0,[],[⟨11,0,0,0,0,0,0,[],[]⟩]⟩],[],[],[],[],false,0,[],[],[]⟩
def RZ:List AV:=[.sl 2 [[.nl,.nl]],.nl,.sl 3 [[.int .i64 0,.nl,.sl 9 [[.int .i64 11,.int .i64 0,.int .i64 0,.int .u64 0,.int .i64 0,.int .i64 0,.int .i64 0,.nl,.nl]]]],.nl,.nl,.nl,.nl,.bool false,.int .i64 0,.nl,.nl,.nl]
def byB:List UInt8:=[0,97,115,109,1,0,0,0,1,4,1,96,0,0,3,2,1,0,10,4,1,2,0,11]
theorem aiM:nld (.agg RZ) (dH HV) :=
 .inr ⟨_,_,rfl,rfl,ID ⟨⟨.nl _,.nl _,trivial⟩,trivial⟩,.nl _,ID ⟨⟨.rfl _,.nl _,ID ⟨⟨.rfl _,.rfl _,.rfl _,.rfl _,.rfl _,.rfl _,.rfl _,.nl _,.nl _,trivial⟩,trivial⟩,trivial⟩,trivial⟩,.nl _,.nl _,.nl _,.nl _,.rfl _,.rfl _,.nl _,.nl _,.nl _,trivial⟩
theorem aiL:nld (.agg ZG) (dH Io):=.inr ⟨_,_,rfl,rfl,.nl _,.nl _,.nl _,.nl _,.nl _,.nl _,.nl _,.rfl _,.rfl _,.nl _,.nl _,.nl _,trivial⟩
theorem ahh:Gi HV:=⟨⟨by decide,fun x hx=>by
  simp only [HV,kB] at hx;subst hx;exact ⟨by decide,by decide⟩⟩,by decide,⟨by decide,fun x hx=>by
  simp only [HV,kB] at hx;subst hx
  refine ⟨by decide,by decide,fun y hy=>?_⟩
  simp only [kB] at hy
  subst hy;exact ⟨by decide,by decide,by decide⟩⟩,by decide,by decide,⟨by decide,fun x h=>by cases h⟩,by decide,⟨by decide,fun x h=>by cases h⟩,⟨by decide,fun x h=>by cases h⟩,⟨by decide,fun x h=>by cases h⟩⟩
theorem ajG:Gi Io:=⟨⟨by decide,fun x h=>by cases h⟩,by decide,⟨by decide,fun x h=>by cases h⟩,by decide,by decide,⟨by decide,fun x h=>by cases h⟩,by decide,⟨by decide,fun x h=>by cases h⟩,⟨by decide,fun x h=>by cases h⟩,⟨by decide,fun x h=>by cases h⟩⟩
theorem af7:yB HV:=⟨fun x hx=>by
  simp only [HV,kB] at hx;subst hx
  intro y hy
  simp only [kB] at hy
  subst hy;exact ⟨by decide,by decide⟩,(fun x h=>by cases h),(fun x h=>by cases h),(fun x h=>by cases h)⟩
theorem aiN:yB Io:=⟨(fun x h=>by cases h),(fun x h=>by cases h),(fun x h=>by cases h),(fun x h=>by cases h)⟩
theorem afB:cW Io=(0,FJ):=by decide +kernel
theorem ZP:cW HV=(0,byB):=by decide +kernel
theorem afv:rI byB=(HV,0):=by kernel_rfl
theorem qX:ao pg FZ [] (.bool true):=by
 refine aL wq ?_
 have c1:ao pg mR [.agg ZG] (.tup [.sl 1 (FJ.map i5),.int .i64 0]):=by
  have c:=lV ajG aiN (by decide +kernel)
  rw [afB] at c
  exact jl c ⟨aiL,trivial⟩
 have c2:ao pg mR [.agg RZ] (.tup [.sl 1 (byB.map i5),.int .i64 0]):=by
  have c:=lV ahh af7 (by decide +kernel)
  rw [ZP] at c
  exact jl c ⟨aiM,trivial⟩
 have c3:=ud byB (by decide)
 rw [afv] at c3
 have c4:=NU ahh af7 (by decide +kernel)
 rw [ZP] at c4
 simp only [ZG] at c1
 simp only [RZ] at c2
 simp only [go_sem,wq]
 refine aa (c1) ?_
 refine ⟨_,Wk.frzs [14,16] _,?_⟩
 simp only [PV]
 simp only [go_sem,bt,List.take_succ_cons,oa]
 refine JJ [18] ?_ c2 (by simp [go_sem]) ?_
 ·simp only [go_sem,bt]
  try rfl
 simp only [go_sem]
 refine ax (c3) ?_
 simp only [go_sem,dH,show (FJ==[0,97,115,109,1,0,0,0])=true from rfl,show (byB==FJ++[1,4,1,96,0,0,3,2,1,0,10,4,1,2,0,11])=true from rfl,show (((HV.fs.length:Nat):Int)==1)=true from rfl]
 refine ⟨by decide,?_⟩
 simp only [dH,bC] at c4
 refine aa (c4) ?_
 exact aj
end
open Go Go.Mw
theorem DX {m:Md} (hs:Gi m) (hn:yB m) (h:(cW m).1=0):vt m∧xn (yI m)=(0,(cW m).2):=by
 unfold cW at h ⊢
 by_cases h1:(sU Dy m).c≠0
 ·rw [ap h1] at h;exact absurd h h1
 rw [ah h1] at h ⊢
 by_cases h2:IE m=false
 ·rw [ap h2] at h;cases h
 rw [ah h2] at h ⊢
 by_cases h3:E0 m=false
 ·rw [ap h3] at h;cases h
 rw [ah h3] at h ⊢
 exact ⟨⟨(Z9 hs).1 (Classical.not_not.1 h1),by simpa using h2,by simpa using h3,hn⟩,Prod.ext h rfl⟩
theorem Nn {m:Md} (h:(cW m).1≠0):(cW m).2=[]:=by
 unfold cW at h ⊢
 by_cases h1:(sU Dy m).c≠0
 ·rw [ap h1]
 rw [ah h1] at h ⊢
 by_cases h2:IE m=false
 ·rw [ap h2]
 rw [ah h2] at h ⊢
 by_cases h3:E0 m=false
 ·rw [ap h3]
 rw [ah h3] at h ⊢
 unfold xn at h ⊢
 by_cases h4:(NM (yI m)).1=0∧(NM (yI m)).2.length>262144
 ·rw [ap h4]
 rw [ah h4] at h ⊢
 exact NL _ _ _ h
theorem HT {m:Md} (hs:Gi m) (hn:yB m):(cW m).2.length≤262144:=by
 by_cases h:(cW m).1=0
 ·exact (Jc (DX hs hn h).2).2.2.1
 ·rw [Nn h];exact cX _
theorem WH {b:List UInt8} {m:Md} (h:wF b = .ok m):rI b=(m,0):=by
 rcases RL b with ⟨h1,h2⟩ | ⟨_,_,h3⟩
 ·rw [h] at h2
  cases h2
  exact Prod.ext rfl h1
 ·rw [h] at h3;cases h3
theorem JM {b:List UInt8} (h:(rI b).2=0):wF b = .ok (rI b).1:=by
 rcases RL b with ⟨_,h2⟩ | ⟨_,h2,_⟩
 ·exact h2
 ·exact absurd h h2
theorem JN {m:Md} (hs:Gi m) (hn:yB m) (h:(cW m).1=0):rI (cW m).2=(pt m,0):=by
 obtain ⟨h1,h2⟩:=DX hs hn h
 exact WH (HQ h1 h2)
theorem TT (m:Md):pt (pt m)=pt m:=by
 unfold pt
 simp only [Md.mk.injEq,true_and,and_true]
 split<;>rfl
theorem U9 (m:Md):dm m (pt m):=yW.2 (TT m).symm
theorem Zj {m n:Md}:dm n m↔dm m n:=by rw [yW,yW,eq_comm]
theorem Fi {B:Nat} (hB:B≤140737488355328) {l:List aZ} (h:bL HF B l):K_ l:=⟨by have:=h.1;omega,fun x hx=>⟨by have:=(h.2 x hx).2.1.1;omega,by have:=(h.2 x hx).2.2.1;omega,(h.2 x hx).1.1⟩⟩
theorem La {B:Nat} (hB:B≤140737488355328) {m:Md} (hm:abf B m):Gi m:=by
 obtain ⟨b1,b2,b3,b4,b5,b6,b7,b8,b9,b10⟩:=hm
 exact ⟨⟨gz b1.1 hB,fun x hx=>⟨by have:=(b1.2 x hx).1.1;omega,by have:=(b1.2 x hx).2.1;omega⟩⟩,gz b2.1 hB,⟨gz b3.1 hB,fun x hx=>⟨by have:=(b3.2 x hx).1.1;omega,Fi hB (b3.2 x hx).2⟩⟩,gz b4.1 hB,gz b5.1 hB,⟨gz b6.1 hB,fun x hx=>Fi hB (b6.2 x hx)⟩,gz b7.1 hB,⟨gz b8.1 hB,fun x hx=>⟨Fi hB (b8.2 x hx).1,gz (b8.2 x hx).2.1 hB,fun l hl=>Fi hB ((b8.2 x hx).2.2 l hl)⟩⟩,⟨gz b9.1 hB,fun x hx=>⟨Fi hB (b9.2 x hx).1,by have:=(b9.2 x hx).2.1;omega⟩⟩,⟨gz b10.1 hB,fun x hx=>by have:=(b10.2 x hx).2.1;show x.b.length≤_;omega⟩⟩
theorem KJ {B:Nat} {l:List aZ} (h:bL HF B l):G9 l:=fun y hy=>(h.2 y hy).1
theorem EU {B:Nat} {m:Md} (hm:abf B m):yB m:=by
 obtain ⟨b1,b2,b3,b4,b5,b6,b7,b8,b9,b10⟩:=hm
 exact ⟨fun x hx=>KJ (b3.2 x hx).2,fun x hx=>KJ (b6.2 x hx),fun x hx=>⟨KJ (b8.2 x hx).1,fun l hl=>KJ ((b8.2 x hx).2.2 l hl)⟩,fun x hx=>KJ (b9.2 x hx).1⟩
theorem Or {m:Md} (h:I_ m=true):Ei m≤6000:=by
 unfold I_ at h
 rw [cC,fo] at h
 omega
end Go.Proofs.YtdfofedlbljnhaaGreatDoor