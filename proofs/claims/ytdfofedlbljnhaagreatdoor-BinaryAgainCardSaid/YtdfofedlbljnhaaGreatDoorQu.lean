import Derived.Test.YtdfofedlbljnhaaGreatDoorQt
set_option linter.all false
set_option maxRecDepth 100000
set_option maxHeartbeats 40000000
namespace Go.Proofs.YtdfofedlbljnhaaGreatDoor
section
open Go Go.Mw
def toS (c:Cu):dU:=⟨0,c.n,some c.b⟩
def FS (p:Int):List Cu→List dU
 | []=>[]
 | c :: cs=>if c.af=p then toS c :: FS p cs else []
def FR (p:Int):List Cu→List Cu
 | []=>[]
 | c :: cs=>if c.af=p then FR p cs else c :: cs
def Qr (cs:List Cu):ak:=⟨31,1,[[.sl 3 (cs.map zK)]],true⟩
def Qy (q:Nat) (l:List dU):ak:=⟨65,1,[[.ms q 3 0 l.length]],true⟩
def pa (l:List dU):ak:=⟨69,3,l.map uG,false⟩
theorem adV (c:Cu) (cs:List Cu):vC 3 (.sl 3 ((c :: cs).map zK)) (some (.int .i64 1)) none none=some (.sl 3 (cs.map zK)):=by
 have h1:ci 0 (some (.int .i64 1))=some 1:=rfl
 simp [vC,ci]
 exact fL (by simp)
attribute [local go_sem] di fp Qr Qy pa
theorem X3 (p:Int):∀(cs:List Cu) (l:List dU) (hc:cs.length≤8) (hl:l.length≤1000),aX pg j8 [.int .i64 p,.mp 1000 1 0 0,.mp 1001 1 0 0] [(1000,Qr cs),(1001,Qy 2000 l),(2000,pa l)] sb (fun r' σ'=>r' = .tup []∧σ'=[(1000,Qr (FR p cs)),(1001,Qy 2000 (l++FS p cs)),(2000,pa (l++FS p cs))]):=by
 intro cs l hc hl
 refine bF pw ?_
 obtain ⟨R,hR⟩:∃R,l++FS p cs=R:=⟨_,rfl⟩
 obtain ⟨D,hD⟩:∃D,FR p cs=D:=⟨_,rfl⟩
 rw [hR,hD]
 simp only [go_sem,pw]
 refine aw (fun q:List Cu×List dU=>⟨[(2,.mp 1001 1 0 0),(1,.mp 1000 1 0 0),(0,.int .i64 p)],[(1000,Qr q.1),(1001,Qy 2000 q.2),(2000,pa q.2)]⟩) (fun q=>q.2++FS p q.1=R∧FR p q.1=D∧q.1.length+q.2.length≤1008) (fun q=>q.1.length) (cs,l) ⟨hR,hD,by simp only;omega⟩ (Wk.of ?_ ?_) ?_
 ·simp only [go_sem];try simp
 ·simp only [go_sem];try simp [go_sem]
 rintro ⟨C,L⟩ ⟨h1,h2,h3⟩
 simp only at h1 h2 h3
 rcases C with _ | ⟨c,C⟩
 ·simp only [FS,mz,FR] at h1 h2
  subst h1 h2
  have d0:decide (((([]:List Cu).length:Nat):Int)>0)=false:=rfl
  generalize ([]:List Cu)=E at *
  simp only [go_sem,d0]
  exact cN [] _ [(1000,Qr E),(1001,Qy 2000 L),(2000,pa L)] ⟨rfl,rfl⟩
 have d0:decide ((((c :: C).length:Nat):Int)>0)=true:=aO (by simp<;>omega)
 have hn:ac (c :: C) 0=c:=rfl
 have hsl:=adV c C
 have hlt:(0:Int)<(((c :: C).length:Nat):Int):=by simp<;>omega
 by_cases q:c.af=p
 rotate_left
 ·simp only [FS,FR,ah q,mz] at h1 h2
  subst h1 h2
  generalize c :: C=E at *
  simp only [go_sem,d0,hn,ay q]
  refine ⟨by omega,hlt,?_⟩
  exact cN [] _ [(1000,Qr E),(1001,Qy 2000 L),(2000,pa L)] ⟨rfl,rfl⟩
 ·simp only [FS,FR,ap q] at h1 h2
  rw [eA] at h3
  have hap:zE 2000 69 3 0 L.length [[.int .i64 0,.str c.n,.sl 1 (c.b.map i5)]] (some ⟨69,3,L.map uG,false⟩)=some (.ms 2000 3 0 (L++[toS c]).length,.reb 2000 ⟨69,3,(L++[toS c]).map uG,false⟩):=by
   rw [cZ 2000 69 3 _ uG _ _ rfl,ap ⟨by simp,by omega,.inr (by decide)⟩]
   simp [toS,uG,MQ]
  generalize hE:c :: C=E at *
  simp only [go_sem,d0,hn,dV q,hsl,hap]
  refine ⟨by omega,hlt,by omega,hlt,by omega,hlt,?_⟩
  refine aG (C,L++[toS c]) ⟨by rw [← h1];simp,h2,by simp only [bE,cM];omega⟩ (by subst hE;simp) (Wk.of ?_ ?_)
  ·simp only [go_sem];try simp
  ·simp only [go_sem];try simp [go_sem]
theorem DR {p:Int} {cs:List Cu} {l:List dU} {d:Option Nat} {s:St} {K:St→Prop} (hc:cs.length≤8) (hl:l.length≤1000) (h0:ae s.heap 6=some (Qr cs)) (h1:ae s.heap 5=some (Qy 900 l)) (h2:ae s.heap 900=some (pa l))
  (hK:K (((St.mk (dO [900] s.env) ([(6,Qr (FR p cs)),(5,Qy 900 (l++FS p cs)),(900,pa (l++FS p cs))]++dP [900] s.heap)).put d (.tup [])))):cT pg j8 [.int .i64 p,.mp 6 1 0 0,.mp 5 1 0 0] d s K:=by
 have hsec:∀l:List dU,(iY (bw [(1000,6),(1001,5),(2000,900)]) (pa l))=pa l:=fun l=>rfl
 refine ew (σ2:=[(6,Qr cs),(5,Qy 900 l),(900,pa l)]) (r3:=.tup []) (σ3:=[(6,Qr (FR p cs)),(5,Qy 900 (l++FS p cs)),(900,pa (l++FS p cs))]) (X3 p cs l hc hl) [(1000,6),(1001,5),(2000,900)] [900] rfl rfl rfl rfl ?_ ?_ ?_ hK
 ·simp [h0,h1,h2]
 ·simp [sb,bw,jk,ae]
 ·simp [ae]
def Mu (m:Md):List Cu→List Int→List dU
 | _,[]=>[]
 | cs,p :: l=>⟨HE p,[],some (jn m p)⟩ :: (FS p cs++Mu m (FR p cs) l)
theorem LR {p:Int}:∀(cs:List Cu),cs.Pairwise (fun x y=>x.af≤y.af)→(∀c∈cs,p≤c.af)→FS p cs=(ef cs p).map toS∧(∀q,q≠p→ef (FR p cs) q=ef cs q)∧(FR p cs).Pairwise (fun x y=>x.af≤y.af)∧(∀c∈FR p cs,c∈cs∧p<c.af)
 | [],_,_=>⟨rfl,fun _ _=>rfl,.nil,fun c h=>by cases h⟩
 | c :: cs,hs,hp=>by
  rw [List.pairwise_cons] at hs
  obtain ⟨i1,i2,i3,i4⟩:=LR cs hs.2 fun x hx=>hp x (by simp [hx])
  have hc:=hp c (by simp)
  by_cases q:c.af=p
  ·rw [FS,FR,ap q,ap q,zL,ap q,ej,← i1]
   refine ⟨rfl,fun r hr=>?_,i3,fun x hx=>⟨by simp [(i4 x hx).1],(i4 x hx).2⟩⟩
   rw [i2 r hr,zL,ah (by omega)]
  ·have lo:∀x∈cs,p<x.af:=fun x hx=>by have:=hs.1 x hx;omega
   rw [FS,FR,ah q,ah q,zL,ah q,HN lo]
   refine ⟨rfl,fun r _=>rfl,List.pairwise_cons.2 hs,fun x hx=>⟨hx,?_⟩⟩
   rcases dc.1 hx with rfl | hx
   ·omega
   ·exact lo x hx
def IW (m:Md) (cs:List Cu):List Int→List dU
 | []=>[]
 | p :: l=>⟨HE p,[],some (jn m p)⟩ :: ((ef cs p).map toS++IW m cs l)
theorem Mv {m:Md} {cs cs':List Cu}:∀l:List Int,(∀q∈l,ef cs' q=ef cs q)→IW m cs' l=IW m cs l
 | [],_=>rfl
 | p :: l,h=>by rw [IW,IW,h p (by simp),Mv l fun q hq=>h q (by simp [hq])]
theorem Uu {m:Md}:∀(l:List Int) (cs:List Cu),l.Pairwise (· < ·)→cs.Pairwise (fun x y=>x.af≤y.af)→(∀c∈cs,c.af∈l)→Mu m cs l=IW m cs l
 | [],_,_,_,_=>rfl
 | p :: l,cs,hl,hs,hin=>by
  rw [List.pairwise_cons] at hl
  obtain ⟨i1,i2,i3,i4⟩:=LR (p:=p) cs hs fun c hc=>by
   rcases dc.1 (hin c hc) with q | q
   ·omega
   ·have:=hl.1 _ q;omega
  rw [Mu,IW,i1,Uu l (FR p cs) hl.2 i3 fun c hc=>by
   obtain ⟨j1,j2⟩:=i4 c hc
   rcases dc.1 (hin c j1) with q | q
   ·omega
   ·exact q,Mv l fun q hq=>i2 q (by have:=hl.1 q hq;omega)]
theorem N8 {ps:List Int}:∀(cs:List Cu) (l:Int),Cj ps l cs=true→cs.Pairwise (fun x y=>x.af≤y.af)∧∀c∈cs,l≤c.af
 | [],_,_=>⟨.nil,fun c h=>by cases h⟩
 | c :: cs,l,ho=>by
  rw [Cj] at ho
  simp only [cC,rg,Bool.or_eq_false_iff,decide_eq_false_iff_not] at ho
  obtain ⟨⟨h1,h2⟩,h3⟩:=ho
  obtain ⟨g1,g2⟩:=N8 cs c.af h3
  refine ⟨List.pairwise_cons.2 ⟨g2,g1⟩,fun x hx=>?_⟩
  rcases dc.1 hx with rfl | hx
  ·omega
  ·have:=g2 x hx;omega
theorem Uv (m:Md):∀l:List Int,IW m m.cs l=iw m l
 | []=>rfl
 | p :: l=>by rw [IW,iw,Uv m l];rfl
theorem ade {m:Md} (h:E0 m=true):FS 0 m.cs++Mu m (FR 0 m.cs) (kq m)=yI m:=by
 obtain ⟨g1,g2⟩:=N8 m.cs 0 h
 have hin:=IS m.cs 0 h
 have hl:=yH m
 rw [List.pairwise_cons] at hl
 obtain ⟨i1,i2,i3,i4⟩:=LR (p:=0) m.cs g1 g2
 rw [i1,Uu (kq m) _ hl.2 i3 fun c hc=>by
  obtain ⟨j1,j2⟩:=i4 c hc
  rcases hin c j1 with q | q
  ·omega
  ·exact q,Mv (kq m) fun q hq=>i2 q (by have:=hl.1 q hq;omega),Uv]
 rfl
theorem HX (p:Int):∀cs:List Cu,(FR p cs).length≤cs.length∧(FS p cs).length≤cs.length
 | []=>⟨bt _,bt _⟩
 | c :: cs=>by
  have:=HX p cs
  rw [FR,FS]
  split
  ·simp only [eA];omega
  ·simp
end
section
open Go Go.Mw
theorem ZV:∀l:List Fa,(D7 l).c=0→D7 l=nT
 | [],_=>rfl
 | F :: r,h=>by
  rw [D7] at h ⊢
  by_cases q:F.c≠0
  ·rw [ap q] at h;exact absurd h q
  ·rw [ah q] at h ⊢;exact ZV r h
theorem Z9 {m:Md} (hm:Gi m):(sU Dy m).c=0↔okM Dy m:=by
 rw [← acq hm]
 constructor
 ·intro h
  rw [Tk Dy m hm] at h ⊢
  exact ZV _ h
 ·intro h
  rw [h];rfl
def yB (m:Md):Prop:=(∀x∈m.fs,G9 x.b)∧(∀x∈m.gs,G9 x.i)∧(∀x∈m.els,G9 x.o∧∀l∈x.it,G9 l)∧∀x∈m.ds,G9 x.o
attribute [local go_sem] di bC Qr Qy pa wo wa
theorem lV {m:Md} (hs:Gi m) (hn:yB m) (hI:Ei m≤6000):ao pg mR [dH m] (.tup [.sl 1 ((cW m).2.map i5),.int .i64 (cW m).1]):=by
 refine aL se ?_
 have c1:=Tx Dy m hs agZ
 simp only [dH,bC] at c1
 simp only [go_sem,se,dH]
 refine ax (c1) ?_
 by_cases hL:(sU Dy m).c=0
 rotate_left
 ·have r:cW m=((sU Dy m).c,[]):=by unfold cW;rw [ap hL]
  rw [r]
  simp only [go_sem,bv hL]
  exact eB (Wk.nls _ 2 1 (by simp only [go_sem])) [] (by first | rfl | simp only [go_sem]) rfl
 have hok:=(Z9 hs).1 hL
 have c2:=Tz hok
 simp only [dH,bC] at c2
 simp only [go_sem,aD hL]
 refine ax (c2) ?_
 cases hne:IE m
 ·have r:cW m=(16,[]):=by unfold cW;rw [ah (by simp [hL]),ap hne]
  rw [r]
  simp only [go_sem]
  exact eB (Wk.nls _ 2 1 (by simp only [go_sem])) [] (by first | rfl | simp only [go_sem]) rfl
 have c3:=PM (m:=m) (by have:=hok.cs.1;omega)
 simp only [dH,bC] at c3
 simp only [go_sem]
 refine ax (c3) ?_
 cases hor:E0 m
 ·have r:cW m=(7,[]):=by unfold cW;rw [ah (by simp [hL]),ah (by simp [hne]),ap hor]
  rw [r]
  simp only [go_sem]
  exact eB (Wk.nls _ 2 1 (by simp only [go_sem])) [] (by first | rfl | simp only [go_sem]) rfl
 have r:cW m=xn (yI m):=by unfold cW;rw [ah (by simp [hL]),ah (by simp [hne]),ah (by simp [hor])]
 rw [r]
 have h:vt m:=⟨hok,hne,hor,hn⟩
 have htot:mw m≤6000:=by have:=SP hok;omega
 obtain ⟨b1,b2,b3⟩:=agB h htot
 have c4:=L9 m
 simp only [dH,bC] at c4
 have c7:=Zg (yI m) b2 b1 b3
 have hcs:=hok.cs.1
 obtain ⟨l0,l1⟩:=HX 0 m.cs
 simp only [go_sem]
 refine ⟨by kernel_rfl,?_⟩
 refine ik (FN.new0 _ _ 900 3 69 (by decide) (by simp [go_sem])) ?_
 refine ik (FN.nlm _ _ 5 (t:=65) (st:=1) (r:=[.nl]) (r':=[.ms 900 3 0 0]) (by simp only [go_sem]) ⟨.inr ⟨rfl,.inr ⟨900,3,rfl⟩⟩,trivial⟩) ?_
 refine DR (cs:=m.cs) (l:=[]) (by omega) (by simp) (by simp only [go_sem]) (by simp only [go_sem]) (by simp only [go_sem]) ?_
 simp only [go_sem,fh]
 refine ax (c4) ?_
 have hpf:=ade hor
 have hpl:=yG m
 have hpi:=yF m
 have hp8:(8:Int)∈kq m→m.hs=true:=fun q=>(uq q).2.2.2.2.2.2.2.1 rfl
 have hbb:=fun p h8=>JQ h htot p h8
 generalize kq m=ps at *
 simp only [go_sem]
 refine aw (fun q:Nat×List Cu×List dU=>⟨[(37,.int .i64 q.1),(36,.int .i64 ps.length),(35,.sl 1 (ps.map ri)),(7,.fn j8 [.mp 6 1 0 0,.mp 5 1 0 0]),(6,.mp 6 1 0 0),(5,.mp 5 1 0 0),(1,.mp 1 12 0 0)],[(6,Qr q.2.1),(5,Qy 900 q.2.2),(900,pa q.2.2),(1,⟨33,12,[[.sl 2 (m.ts.map rK),.sl 13 (m.ims.map tg),.sl 3 (m.fs.map qf),.sl 4 (m.tbs.map xR),.sl 3 (m.ms.map ry),.sl 3 (m.gs.map yd),.sl 3 (m.exs.map xN),.bool m.hs,.int .i64 m.st,.sl 5 (m.els.map gP),.sl 4 (m.ds.map lO),.sl 3 (m.cs.map zK)]],true⟩)]⟩) (fun q=>q.1≤ps.length∧q.2.2++Mu m q.2.1 (ps.drop q.1)=yI m∧q.2.1.length≤8∧q.2.2.length≤9 * q.1+8) (fun q=>ps.length - q.1) (0,FR 0 m.cs,FS 0 m.cs) ⟨cX _,hpf,by simp only;omega,by simp only;omega⟩ (Wk.of ?_ ?_) ?_
 ·simp only [go_sem];try simp
 ·simp only [go_sem];try simp [go_sem]
 rintro ⟨i,C,L⟩ ⟨hi2,hP,hC,hL2⟩
 simp only at hi2 hP hC hL2
 by_cases q1:(i:Int)<(ps.length:Int)
 rotate_left
 ·rw [List.drop_eq_nil_of_le (by omega),Mu,mz] at hP
  subst hP
  simp only [go_sem,aQ q1]
  refine JJ [900] ?_ c7 (by simp [go_sem]) ?_
  ·simp only [go_sem,bt]
   rw [fL (by simp)]
  simp only [go_sem]
  exact aj
 have hi':i<ps.length:=by omega
 have e8:=dz hi' (by omega)
 have hin:ac ps i∈ps:=by rw [bp hi'];exact List.getElem_mem hi'
 rw [xg hi',Mu] at hP
 generalize hp:ac ps i=p at *
 have hp1:=hpi p hin
 have hp8':p=8→m.hs=true:=fun q=>hp8 (q▸hin)
 have c5:=ahJ h hp1 hp8'
 have hb5:=hbb p hp8'
 have cd:=yV true (jn m p) 0 (by omega)
 rw [show wD true (jn m p) 0=(some (jn m p),0) from rfl] at cd
 have c6:=agX p
 simp only [dH,bC] at c5
 obtain ⟨f1,f2⟩:=HX p C
 obtain ⟨S,hS⟩:∃S:dU,(⟨HE p,[],some (jn m p)⟩:dU)=S:=⟨_,rfl⟩
 have hap:zE 900 69 3 0 L.length [[.int .i64 (HE p),.str [],.sl 1 ((jn m p).map i5)]] (some ⟨69,3,L.map uG,false⟩)=some (.ms 900 3 0 (L++[S]).length,.reb 900 ⟨69,3,(L++[S]).map uG,false⟩):=by
  rw [cZ 900 69 3 _ uG _ _ rfl,ap ⟨by simp,by omega,.inl (by decide)⟩,← hS]
  simp [uG,MQ]
 rw [hS] at hP
 simp only [go_sem,aO q1,hp]
 refine ⟨by omega,q1,?_⟩
 refine qH 904 905 (by decide) (by decide) (by decide) (by simp only [go_sem]) (by simp only [go_sem]) ?_
 simp only [go_sem]
 refine LD (k:=904) (j:=905) (l:=[]) c5 rfl (by simp [go_sem]) (by rfl) (by rfl) (by simp only [b_];omega) (by decide) ?_
 simp only [go_sem,fh]
 refine aR [] (k:=904) (j:=905) (cd) ?_
 simp only [go_sem]
 refine fG c6 (by simp [go_sem]) rfl ?_
 simp only [go_sem,hap]
 refine ⟨by kernel_rfl,?_⟩
 refine DR (cs:=C) (l:=L++[S]) hC (by simp only [bE,cM];omega) (by simp only [go_sem]) (by simp only [go_sem]) (by simp only [go_sem]) ?_
 simp only [go_sem]
 refine aG (i+1,FR p C,L++[S]++FS p C) ⟨show i+1≤ps.length by omega,by rw [← hP];simp,by simp only;omega,by simp only [bE,cM];omega⟩ (show ps.length - (i+1)<ps.length - i by omega) (Wk.of ?_ ?_)
 ·simp only [go_sem,e8];try simp
 ·simp only [go_sem];try simp [go_sem]
theorem NU {m:Md} (hs:Gi m) (hn:yB m) (hI:Ei m≤6000):ao pg Ey [dH m] (.bool ((cW m).1==0)):=by
 refine aL tk ?_
 have c:=lV hs hn hI
 simp only [dH,bC] at c
 simp only [go_sem,tk,dH]
 refine aa (c) ?_
 exact aj
end
section
open Go Go.Mw
def QR {α:Type} (r:Rd α) (Q:α→Nat→Prop):Prop:=∀x k,r = .ok (x,k)→Q x k
theorem QR.ok {α:Type} {x:α} {k:Nat} {Q:α→Nat→Prop} (h:Q x k):QR (.ok (x,k)) Q:=fun _ _ e=>by cases e;exact h
theorem QR.er {α:Type} {e:Int×Nat} {Q:α→Nat→Prop}:QR (.error e:Rd α) Q:=fun _ _ e=>by cases e
theorem QR.ite {α:Type} {c:Prop} [Decidable c] {r s:Rd α} {Q:α→Nat→Prop} (h1:c→QR r Q) (h2:¬c→QR s Q):QR (if c then r else s) Q:=by
 by_cases h:c
 ·rw [ap h];exact h1 h
 ·rw [ah h];exact h2 h
theorem QR.bd {α β:Type} {r:Rd α} {f:α→Nat→Rd β} {Q:α→Nat→Prop} {R:β→Nat→Prop} (h:QR r Q) (hf:∀x k,Q x k→QR (f x k) R):QR (eU r f) R:=by
 intro y j e
 cases hr:r with
 | error e'=>rw [hr] at e;cases e
 | ok q =>
  obtain ⟨x,k⟩:=q
  rw [hr] at e
  exact hf x k (h x k hr) y j e
variable {b:List UInt8}
theorem VQ (a:Nat):QR (gU b a) (fun n k=>a+1≤k∧n<4294967296):=fun n k h=>by
 obtain ⟨h1,h2⟩:=df h
 have:=kw n
 exact ⟨by omega,h2⟩
theorem q_C (a:Nat) (most:Int):QR (gC b a most) (fun n k=>a+1≤k∧(n:Int)≤most):=fun n k h=>by
 obtain ⟨h1,h2⟩:=Sa h
 have:=kw n
 exact ⟨by omega,h2⟩
theorem q_V (a:Nat):QR (gV b a) (fun _ k=>a+1≤k):=fun t k h=>(LY h).1
theorem q_B (a:Nat):QR (gB b a) (fun _ k=>a+1≤k):=fun t k h=>by
 unfold gB at h
 split at h
 ·cases h;exact bt _
 ·cases h
def Jp (l:List aZ):Prop:=∀y∈l,(0≤y.n∧y.n<18446744073709551616)∧y.lb.length≤64∧y.ty.length≤1
theorem agA {x:aZ} (h:PL x=true):x.ty.length≤1:=by
 unfold PL th at h
 simp only [cC,qr,beq_iff_eq,rg,decide_eq_false_iff_not] at h
 obtain ⟨_,_,_,h,hf⟩:=h
 rcases h with h | h
 ·rw [h] at hf
  unfold k_ at hf
  simp only [Int.reduceEq,aF,bc,cC,beq_iff_eq] at hf
  omega
 ·omega
theorem q_E:∀(f d a:Nat) (m:Int),QR (gE f d b a m) (fun l k=>a+l.length≤k∧(l.length:Int)≤m∧Jp l)
 | 0,d,a,m=>QR.er
 | f+1,d,a,m=>by
  rw [gE]
  refine QR.ite (fun _=>QR.er) fun hm=>?_
  cases hg:gI b a with
  | error e=>exact QR.er
  | ok q =>
   obtain ⟨x,k⟩:=q
   obtain ⟨h1,h2,h3,h4⟩:=abO hg
   have hp:=DW x
   have hx:=agA h1
   refine QR.ite (fun _=>QR.ok ⟨by rw [cM];omega,by rw [cM];omega,fun y hy=>?_⟩) fun _=>?_
   ·simp only [kB] at hy;subst hy;exact ⟨h3,h2,hx⟩
   ·have hr:=q_E f (if x.op=2∨x.op=3∨x.op=4 then d+1 else if x.op=11 then d - 1 else d) k (m - 1)
    cases hg2:gE f (if x.op=2∨x.op=3∨x.op=4 then d+1 else if x.op=11 then d - 1 else d) b k (m - 1) with
    | error e=>exact QR.er
    | ok q =>
     obtain ⟨l,k'⟩:=q
     obtain ⟨g1,g2,g3⟩:=hr l k' hg2
     refine QR.ok ⟨by rw [eA];omega,by rw [eA];omega,fun y hy=>?_⟩
     rcases dc.1 hy with rfl | hy
     ·exact ⟨h3,h2,hx⟩
     ·exact g3 y hy
theorem q_X (a:Nat):QR (gX b a) (fun l k=>a+l.length≤k∧l.length≤2048∧Jp l):=fun l k h=>by
 obtain ⟨h1,h2,h3⟩:=q_E _ _ _ _ l k h
 exact ⟨h1,by omega,h3⟩
theorem q_N {α:Type} {one:List UInt8→Nat→Rd α} {w:α→Nat} {P:α→Prop} (h:∀a,QR (one b a) (fun x k=>2 * a+w x≤2 * k∧P x)):∀(n a:Nat),QR (gN one n b a) (fun l k=>2 * a+cQ w l≤2 * k∧l.length=n∧∀x∈l,P x)
 | 0,a=>QR.ok ⟨by simp [cQ],rfl,fun x hx=>by cases hx⟩
 | n+1,a=>(h a).bd fun x k hx=>(q_N h n k).bd fun l k' hl=>QR.ok ⟨by rw [pf];omega,by rw [eA,hl.2.1],fun y hy=>by
   rcases dc.1 hy with rfl | hy
   ·exact hx.2
   ·exact hl.2.2 y hy⟩
theorem Ge {α:Type} {one:List UInt8→Nat→Rd α} {w:α→Nat} {P:α→Prop} (h:∀a,QR (one b a) (fun x k=>2 * a+w x≤2 * k∧P x)) (most:Int) (a:Nat):QR (mM one most b a) (fun l k=>2 * a+cQ w l≤2 * k∧(l.length:Int)≤most∧∀x∈l,P x) :=
 (q_C a most).bd fun n k hn l k' h'=>by
  obtain ⟨h1,h2,h3⟩:=q_N h n k l k' h'
  exact ⟨by omega,by omega,h3⟩
def z0w {α:Type} (x:α):Nat:=0
theorem agJ (most:Int) (a:Nat):QR (mM gV most b a) (fun l k=>a≤k∧(l.length:Int)≤most):=fun l k h=>by
 obtain ⟨h1,h2,_⟩:=Ge (w:=z0w) (P:=fun _=>True) (fun a t k h=>⟨by have:=q_V a t k h;show 2 * a+0≤_;omega,trivial⟩) most a l k h
 exact ⟨by omega,h2⟩
theorem ai_ (a:Nat):QR (W7 b a) (fun x k=>2 * a+z0w x≤2 * k∧x.ps.length≤8∧x.rs.length≤8) :=
 (q_B a).bd fun x k hk=>QR.ite (fun _=>(agJ 8 k).bd fun ps k1 h1=>(agJ 8 k1).bd fun rs k2 h2=>QR.ok ⟨by show 2 * a+0≤_;omega,by show ps.length≤8;omega,by show rs.length≤8;omega⟩) fun _=>QR.er
theorem agG (a:Nat):QR (FI b a) (fun x k=>2 * a+z0w x≤2 * k∧True) :=
 (q_B a).bd fun x k hk=>QR.ite (fun _=>QR.er) fun _=>(VQ k).bd fun mn k1 h1=>QR.ite (fun _=>(VQ k1).bd fun mx k2 h2=>QR.ite (fun _=>QR.er) fun _=>QR.ok ⟨by show 2 * a+0≤_;omega,trivial⟩) fun _=>QR.ok ⟨by show 2 * a+0≤_;omega,trivial⟩
theorem ajc (a:Nat):QR (H6 b a) (fun x k=>2 * a+z0w x≤2 * k∧True) :=
 (q_V a).bd fun t k hk=>QR.ite (fun _=>(agG k).bd fun l k1 h1=>QR.ok ⟨by have:=h1.1;unfold z0w at this ⊢;omega,trivial⟩) fun _=>QR.er
theorem ajb (a:Nat):QR (GW b a) (fun _ k=>a≤k) :=
 (q_V a).bd fun t k hk=>(q_B k).bd fun x k1 h1=>QR.ite (fun _=>QR.er) fun _=>QR.ok (by omega)
theorem aja (a:Nat):QR (ZZ b a) (fun x k=>2 * a+x.i.length≤2 * k∧x.i.length≤2048∧Jp x.i) :=
 (ajb a).bd fun g k hk=>(q_X k).bd fun l k1 h1=>QR.ok ⟨by show 2 * a+l.length≤_;omega,h1.2⟩
theorem ai9 (a:Nat):QR (ZX b a) (fun x k=>2 * a+HS x≤2 * k∧(x.o.length≤2048∧Jp x.o)∧x.it.length≤256∧∀l∈x.it,l.length≤2048∧Jp l) :=
 (VQ a).bd fun n k hk=>QR.ite (fun _=>QR.er) fun _ =>
  QR.bd (Q:=fun _ k1=>k≤k1) (QR.ite (fun _=>(VQ k).bd fun x k1 h1=>QR.ok (by omega)) fun _=>QR.ok (bt _)) fun tb k1 h1 =>
  QR.bd (Q:=fun o k2=>k1+o.length≤k2∧o.length≤2048∧Jp o) (QR.ite (fun _=>q_X k1) fun _=>QR.ok ⟨bt _,by decide,fun y hy=>by cases hy⟩) fun o k2 h2 =>
  QR.bd (Q:=fun _ k3=>k2≤k3) (QR.ite (fun _=>QR.ok (bt _)) fun _=>QR.ite (fun _=>(q_B k2).bd fun x k3 h3=>QR.ite (fun _=>QR.ok (by omega)) fun _=>QR.er) fun _ t k3 h3=>by have:=q_V k2 t k3 h3;omega) fun t k3 h3 =>
  QR.bd (Ge (one:=Z1 n) (w:=List.length) (P:=fun l=>l.length≤2048∧Jp l) (fun a=>by
   unfold Z1
   refine QR.ite (fun _=>(VQ a).bd fun x k h=>QR.ok ⟨by show 2 * a+2≤_;omega,by show 2≤2048;decide,fun y hy=>?_⟩) fun _ l k h=>by
    have:=q_X a l k h
    exact ⟨by omega,this.2⟩
   unfold KX at hy
   simp only [dc,List.not_mem_nil,or_false] at hy
   rcases hy with rfl | rfl<;>exact ⟨⟨Int.le_refl 0,(by decide:(0:Int)<18446744073709551616)⟩,cX _,cX _⟩) 256 k3) fun l k4 h4 =>
  QR.ok ⟨by show 2 * a+(o.length+cQ List.length l)≤_;omega,h2.2,by show l.length≤256;omega,h4.2.2⟩
theorem ai8 (a:Nat):QR (W0 b a) (fun x k=>2 * a+x.o.length≤2 * k∧(x.o.length≤2048∧Jp x.o)∧x.b.length≤4096) :=
 (VQ a).bd fun n k hk=>QR.ite (fun _=>QR.er) fun _ =>
  QR.bd (Q:=fun _ k1=>k≤k1) (QR.ite (fun _=>(VQ k).bd fun x k1 h1=>QR.ok (by omega)) fun _=>QR.ok (bt _)) fun me k1 h1 =>
  QR.bd (Q:=fun o k2=>k1+o.length≤k2∧o.length≤2048∧Jp o) (QR.ite (fun _=>QR.ok ⟨bt _,by decide,fun y hy=>by cases hy⟩) fun _=>q_X k1) fun o k2 h2 =>
  (q_C k2 4096).bd fun n2 k3 h3=>QR.ite (fun _=>QR.er) fun _=>QR.ok ⟨by show 2 * a+o.length≤_;omega,h2.2,by show (List.take n2 _).length≤4096;rw [pm];omega⟩
theorem agH:∀(n a:Nat) (l:List Int),l.length≤64→QR (VJ n b a l) (fun r k=>a≤k∧r.length≤64)
 | 0,a,l,h=>QR.ok ⟨bt _,h⟩
 | n+1,a,l,h=>(VQ a).bd fun many k hk=>(q_V k).bd fun t k1 h1=>QR.ite (fun _=>QR.er) fun hm r k2 h2=>by
   have:=agH n k1 (l++List.replicate many t) (by rw [bE,List.length_replicate];omega) r k2 h2
   exact ⟨by omega,this.2⟩
def cdT (x:List Int×List aZ):Nat:=x.2.length
theorem ai7 (a:Nat):QR (Sc b a) (fun x k=>2 * a+cdT x≤2 * k∧x.1.length≤64∧x.2.length≤2048∧Jp x.2) :=
 (VQ a).bd fun n k hk=>QR.ite (fun _=>QR.er) fun hn=>by
  have hq:QR (LV ((b.drop k).take n)) (fun x k=>x.1.length≤64∧x.2.length≤k∧k≤n∧x.2.length≤2048∧Jp x.2) :=
   (q_C 0 64).bd fun n1 k1 h1=>(agH n1 k1 [] (by decide)).bd fun l k2 h2=>(q_X k2).bd fun x k3 h3=>QR.ite (fun he=>QR.ok ⟨h2.2,by show x.length≤_;omega,by rw [he,pm];omega,h3.2⟩) fun _=>QR.er
  cases hg:LV ((b.drop k).take n) with
  | error e=>exact QR.er
  | ok q =>
   obtain ⟨x,k1⟩:=q
   obtain ⟨g1,g2,g3,g4⟩:=hq x k1 hg
   exact QR.ok ⟨by unfold cdT;omega,g1,g4⟩
theorem wL {α:Type} {r:Rd α} {Q:α→Nat→Prop} (h:QR r Q) {x:α} (e:lR r b = .ok x):Q x b.length:=by
 unfold lR at e
 cases hr:r with
 | error e'=>rw [hr] at e;cases e
 | ok q =>
  obtain ⟨y,k⟩:=q
  rw [hr] at e
  simp only at e
  by_cases hk:k=b.length
  ·rw [ap hk] at e
   cases e
   rw [← hk]
   exact h x k hr
  ·rw [ah hk] at e;cases e
structure Jz (n:Nat) (m:Md):Prop where
 tot:mw m≤n
 ts:m.ts.length≤64∧∀x∈m.ts,x.ps.length≤8∧x.rs.length≤8
 ims:m.ims.length≤32
 fs:m.fs.length≤64∧∀x∈m.fs,x.lo.length≤64∧x.b.length≤2048∧Jp x.b
 tbs:m.tbs.length≤4
 ms:m.ms.length≤2
 gs:m.gs.length≤32∧∀x∈m.gs,x.i.length≤2048∧Jp x.i
 exs:m.exs.length≤64
 els:m.els.length≤16∧∀x∈m.els,(x.o.length≤2048∧Jp x.o)∧x.it.length≤256∧∀l∈x.it,l.length≤2048∧Jp l
 ds:m.ds.length≤16∧∀x∈m.ds,(x.o.length≤2048∧Jp x.o)∧x.b.length≤4096
 cs:m.cs.length≤8∧∀x∈m.cs,x.b.length≤4096
theorem Jz.le {n k:Nat} {m:Md} (h:Jz n m) (hk:n≤k):Jz k m:=⟨gz h.tot hk,h.ts,h.ims,h.fs,h.tbs,h.ms,h.gs,h.exs,h.els,h.ds,h.cs⟩
theorem Vo {α:Type} (g:α→Nat) (l m:List α):cQ g (l++m)=cQ g l+cQ g m:=by simp [cQ]
theorem Nf:∀(fs:List Cd) (l:List (List Int×List aZ)) (k:Nat),cQ (fun x:Cd=>x.b.length) ((fs.zipIdx k).map fun x=>if x.2<l.length then (⟨x.1.t,(ac l x.2).1,(ac l x.2).2⟩:Cd) else x.1)≤cQ (fun x:Cd=>x.b.length) fs+cQ cdT (l.drop k)
 | [],l,k=>by simp [cQ]
 | x :: fs,l,k=>by
  have ih:=Nf fs l (k+1)
  rw [List.zipIdx_cons,ej,pf,pf]
  simp only
  by_cases h:k<l.length
  ·rw [ap h]
   rw [List.drop_eq_getElem_cons h,pf,← bp h]
   unfold cdT at ih ⊢
   simp only
   omega
  ·rw [ah h]
   rw [List.drop_eq_nil_of_le (by omega)] at ih ⊢
   omega
theorem jj {α:Type} {r:Except Int α} {f:α→Dc} {d:Dc} (h:r.map f = .ok d):∃x,r = .ok x∧d=f x:=by
 cases r with
 | error e=>cases h
 | ok x=>exact ⟨x,rfl,by cases h;rfl⟩
theorem Zk {n:Nat} {d d':Dc} {p:Int} (h:Jz n d.m) (e:qY d p b = .ok d'):Jz (n+2 * b.length) d'.m:=by
 have ht:=h.tot
 unfold mw at ht
 unfold qY at e
 simp only at e
 by_cases h1:p=1
 ·rw [ap h1] at e
  obtain ⟨x,e1,rfl⟩:=jj e
  obtain ⟨_,q2,q3⟩:=wL (Ge ai_ 64 0) e1
  exact ⟨by show mw d.m≤_;unfold mw;omega,⟨by show x.length≤64;omega,q3⟩,h.ims,h.fs,h.tbs,h.ms,h.gs,h.exs,h.els,h.ds,h.cs⟩
 rw [ah h1] at e
 by_cases h1:p=2
 ·rw [ap h1] at e
  obtain ⟨x,e1,rfl⟩:=jj e
  have q2:x.length≤32:=by
   unfold mM at e1
   have:=wL (b:=b) (Q:=fun l k=>l.length≤32) ((q_C 0 32).bd fun n k hn l k' h'=>by
    have:∀(n a:Nat),QR (gN Z0 n b a) (fun l k=>l.length=n):=fun n=>by
     induction n with
     | zero=>exact fun a=>QR.ok rfl
     | succ n ih=>exact fun a=>QR.bd (Q:=fun _ _=>True) (fun _ _ _=>trivial) fun x k _=>(ih k).bd fun l k' hl=>QR.ok (by rw [eA,hl])
    have:=this n k l k' h'
    omega) e1
   exact this
  exact ⟨by show mw d.m≤_;unfold mw;omega,h.ts,q2,h.fs,h.tbs,h.ms,h.gs,h.exs,h.els,h.ds,h.cs⟩
 rw [ah h1] at e
 by_cases h1:p=3
 ·rw [ap h1] at e
  obtain ⟨x,e1,rfl⟩:=jj e
  obtain ⟨_,q2,_⟩:=wL (Ge (one:=Jm) (w:=z0w) (P:=fun _=>True) (fun a=>(VQ a).bd fun n k hn=>QR.ok ⟨by show 2 * a+0≤_;omega,trivial⟩) 64 0) e1
  have z:∀l:List Int,cQ (fun x:Cd=>x.b.length) (l.map fun t=>(⟨t,[],[]⟩:Cd))=0:=fun l=>by
   induction l with
   | nil=>rfl
   | cons t l ih=>rw [ej,pf,ih];rfl
  refine ⟨?_,h.ts,h.ims,⟨by show (x.map _).length≤64;rw [di];omega,fun y hy=>?_⟩,h.tbs,h.ms,h.gs,h.exs,h.els,h.ds,h.cs⟩
  ·show cQ (fun x:Cd=>x.b.length) (x.map fun t=>(⟨t,[],[]⟩:Cd))+cQ (fun x:Gd=>x.i.length) d.m.gs+cQ HS d.m.els+cQ (fun x:Da=>x.o.length) d.m.ds≤_
   rw [z];omega
  ·obtain ⟨t,_,rfl⟩:=List.mem_map.1 hy
   exact ⟨cX _,cX _,fun y hy=>by cases hy⟩
 rw [ah h1] at e
 by_cases h1:p=4
 ·rw [ap h1] at e
  obtain ⟨x,e1,rfl⟩:=jj e
  obtain ⟨_,q2,q3⟩:=wL (Ge ajc 4 0) e1
  exact ⟨by show mw d.m≤_;unfold mw;omega,h.ts,h.ims,h.fs,by show x.length≤4;omega,h.ms,h.gs,h.exs,h.els,h.ds,h.cs⟩
 rw [ah h1] at e
 by_cases h1:p=5
 ·rw [ap h1] at e
  obtain ⟨x,e1,rfl⟩:=jj e
  obtain ⟨_,q2,q3⟩:=wL (Ge agG 2 0) e1
  exact ⟨by show mw d.m≤_;unfold mw;omega,h.ts,h.ims,h.fs,h.tbs,by show x.length≤2;omega,h.gs,h.exs,h.els,h.ds,h.cs⟩
 rw [ah h1] at e
 by_cases h1:p=6
 ·rw [ap h1] at e
  obtain ⟨x,e1,rfl⟩:=jj e
  obtain ⟨q1,q2,q3⟩:=wL (Ge (w:=fun x:Gd=>x.i.length) aja 32 0) e1
  refine ⟨?_,h.ts,h.ims,h.fs,h.tbs,h.ms,⟨by show x.length≤32;omega,q3⟩,h.exs,h.els,h.ds,h.cs⟩
  show cQ (fun x:Cd=>x.b.length) d.m.fs+cQ (fun x:Gd=>x.i.length) x+cQ HS d.m.els+cQ (fun x:Da=>x.o.length) d.m.ds≤_
  omega
 rw [ah h1] at e
 by_cases h1:p=7
 ·rw [ap h1] at e
  obtain ⟨x,e1,rfl⟩:=jj e
  have q2:x.length≤64:=by
   unfold mM at e1
   have:=wL (b:=b) (Q:=fun l k=>l.length≤64) ((q_C 0 64).bd fun n k hn l k' h'=>by
    have:∀(n a:Nat),QR (gN ZY n b a) (fun l k=>l.length=n):=fun n=>by
     induction n with
     | zero=>exact fun a=>QR.ok rfl
     | succ n ih=>exact fun a=>QR.bd (Q:=fun _ _=>True) (fun _ _ _=>trivial) fun x k _=>(ih k).bd fun l k' hl=>QR.ok (by rw [eA,hl])
    have:=this n k l k' h'
    omega) e1
   exact this
  exact ⟨by show mw d.m≤_;unfold mw;omega,h.ts,h.ims,h.fs,h.tbs,h.ms,h.gs,q2,h.els,h.ds,h.cs⟩
 rw [ah h1] at e
 by_cases h1:p=8
 ·rw [ap h1] at e
  obtain ⟨x,e1,rfl⟩:=jj e
  exact ⟨by show mw d.m≤_;unfold mw;omega,h.ts,h.ims,h.fs,h.tbs,h.ms,h.gs,h.exs,h.els,h.ds,h.cs⟩
 rw [ah h1] at e
 by_cases h1:p=9
 ·rw [ap h1] at e
  obtain ⟨x,e1,rfl⟩:=jj e
  obtain ⟨q1,q2,q3⟩:=wL (Ge (w:=HS) ai9 16 0) e1
  refine ⟨?_,h.ts,h.ims,h.fs,h.tbs,h.ms,h.gs,h.exs,⟨by show x.length≤16;omega,q3⟩,h.ds,h.cs⟩
  show cQ (fun x:Cd=>x.b.length) d.m.fs+cQ (fun x:Gd=>x.i.length) d.m.gs+cQ HS x+cQ (fun x:Da=>x.o.length) d.m.ds≤_
  omega
 rw [ah h1] at e
 by_cases h1:p=10
 ·rw [ap h1] at e
  obtain ⟨x,e1,rfl⟩:=jj e
  exact ⟨by show mw d.m≤_;unfold mw;omega,h.ts,h.ims,h.fs,h.tbs,h.ms,h.gs,h.exs,h.els,h.ds,h.cs⟩
 rw [ah h1] at e
 by_cases h1:p=11
 ·rw [ap h1] at e
  obtain ⟨x,e1,rfl⟩:=jj e
  obtain ⟨q1,q2,q3⟩:=wL (Ge (w:=cdT) ai7 64 0) e1
  have z:=Nf d.m.fs x 0
  rw [List.drop_zero] at z
  refine ⟨?_,h.ts,h.ims,⟨by show (List.map _ _).length≤64;rw [di,List.length_zipIdx];exact h.fs.1,fun y hy=>?_⟩,h.tbs,h.ms,h.gs,h.exs,h.els,h.ds,h.cs⟩
  ·show cQ (fun x:Cd=>x.b.length) (d.m.fs.zipIdx.map fun y=>if y.2<x.length then (⟨y.1.t,(ac x y.2).1,(ac x y.2).2⟩:Cd) else y.1)+cQ (fun x:Gd=>x.i.length) d.m.gs+cQ HS d.m.els+cQ (fun x:Da=>x.o.length) d.m.ds≤_
   omega
  ·obtain ⟨⟨c,j⟩,hz,rfl⟩:=List.mem_map.1 hy
   simp only
   by_cases hj:j<x.length
   ·rw [ap hj]
    have:=q3 (ac x j) (by rw [bp hj];exact List.getElem_mem hj)
    exact this
   ·rw [ah hj]
    exact h.fs.2 c (by
     have:=List.mem_zipIdx hz
     rw [this.2.2]
     exact List.getElem_mem _)
 rw [ah h1] at e
 obtain ⟨x,e1,rfl⟩:=jj e
 obtain ⟨q1,q2,q3⟩:=wL (Ge (w:=fun x:Da=>x.o.length) ai8 16 0) e1
 refine ⟨?_,h.ts,h.ims,h.fs,h.tbs,h.ms,h.gs,h.exs,h.els,⟨by show x.length≤16;omega,q3⟩,h.cs⟩
 show cQ (fun x:Cd=>x.b.length) d.m.fs+cQ (fun x:Gd=>x.i.length) d.m.gs+cQ HS d.m.els+cQ (fun x:Da=>x.o.length) x≤_
 omega
theorem Vj {n:Nat} {d d':Dc} {s:dU} (h:Jz n d.m) (e:mr d s = .ok d'):Jz (n+2 * (gb s.bs).length) d'.m:=by
 unfold mr at e
 by_cases h0:s.id=0
 ·rw [ap h0] at e
  by_cases h1:d.m.cs.length≥8∨(gb s.bs).length>4096
  ·rw [ap h1] at e;cases e
  ·rw [ah h1] at e
   cases e
   refine ⟨by have:=h.tot;show mw d.m≤_;omega,h.ts,h.ims,h.fs,h.tbs,h.ms,h.gs,h.exs,h.els,h.ds,⟨by show (d.m.cs++[_]).length≤8;rw [bE,cM];omega,fun x hx=>?_⟩⟩
   rcases fA.1 hx with q | q
   ·exact h.cs.2 x q
   ·simp only [kB] at q;subst q;show (gb s.bs).length≤4096;omega
 ·rw [ah h0] at e
  exact Zk h e
def bsT (l:List dU):Nat:=cQ (fun s=>(gb s.bs).length) l
theorem JY:∀(l:List dU) {n:Nat} {d d':Dc},Jz n d.m→fz l d = .ok d'→Jz (n+2 * bsT l) d'.m
 | [],n,d,d',h,e=>by cases e;exact h
 | s :: r,n,d,d',h,e=>by
  rw [fz] at e
  cases hs:mr d s with
  | error e'=>rw [hs] at e;cases e
  | ok d1 =>
   rw [hs] at e
   have:=JY r (Vj h hs) e
   exact this.le (by unfold bsT;rw [pf];omega)
theorem Yv {d:List UInt8} {last:Int} (hd:0<d.length) (h:(cP d last).1=0):(gb (cP d last).2.1.bs).length+(cP d last).2.2.length≤d.length:=by
 obtain ⟨g1,g2⟩:=N6 h
 unfold cP at h ⊢
 by_cases h1:(ac d 0).toNat>12
 ·rw [ap h1] at h;cases h
 rw [ah h1] at h ⊢
 by_cases h2:(lc d).2.2≠0
 ·rw [ap h2] at h;exact absurd h h2
 rw [ah h2] at h ⊢
 by_cases h3:(ac d 0).toNat≠0∧fk (ac d 0).toNat≤last
 ·rw [ap h3] at h;cases h
 rw [ah h3] at h ⊢
 by_cases h4:(g_ (ac d 0).toNat (gb (lc d).1)).1≠0
 ·rw [ap h4] at h;exact absurd h h4
 rw [ah h4]
 simp only
 rw [Classical.not_not] at h4 h2
 obtain ⟨x,x1,x2,x3⟩:=Zy hd h2
 have hx:=x3 0 (cX _)
 rw [x1,cm] at h4 ⊢
 have hl:(gb (g_ (ac d 0).toNat x).2.bs).length≤x.length:=by
  unfold g_ at h4 ⊢
  by_cases h5:((ac d 0).toNat:Int)=0
  ·rw [ap h5] at h4 ⊢
   by_cases h6:(cO true x 0 0).2.2≠0
   ·rw [ap h6] at h4;exact absurd h4 h6
   ·rw [ah h6]
    simp only
    rw [cm,iE]
    omega
  ·rw [ah h5]
   simp only
   rw [cm]
   exact bt _
 rw [iE]
 omega
theorem Ov:∀(f:Nat) (d:List UInt8) (last:Int) (acc:List dU),bsT (qZ f d last acc).2≤bsT acc+d.length
 | 0,d,last,acc=>Nat.le_add_right _ _
 | f+1,d,last,acc=>by
  rw [qZ]
  by_cases h0:d.length=0
  ·rw [ap h0];exact Nat.le_add_right _ _
  rw [ah h0]
  by_cases h1:(cP d last).1≠0
  ·rw [ap h1];show 0≤_;omega
  rw [ah h1]
  rw [Classical.not_not] at h1
  have:=Yv (by omega) h1
  have ih:=Ov f (cP d last).2.2 (max last (fk (cP d last).2.1.id)) (acc++[(cP d last).2.1])
  unfold bsT at ih ⊢
  rw [Vo,pf] at ih
  simp only [cQ,List.map_nil,List.sum_nil] at ih this ⊢
  omega
theorem ad2 (b:List UInt8):bsT (qu b).2≤b.length:=by
 unfold qu
 split
 ·show 0≤_;omega
 split
 ·show 0≤_;omega
 ·have:=Ov (b.drop 8).length (b.drop 8) 0 []
  rw [iE] at this
  unfold BV
  have z:bsT []=0:=rfl
  rw [iE]
  omega
theorem abq {m:Md} (h:wF b = .ok m):Jz (2 * b.length) m:=by
 unfold wF at h
 by_cases h1:b.length>262144
 ·rw [ap h1] at h;cases h
 rw [ah h1] at h
 by_cases h2:(qu b).1≠0
 ·rw [ap h2] at h;cases h
 rw [ah h2] at h
 cases hf:fz (qu b).2 zC with
 | error e=>rw [hf] at h;cases h
 | ok d =>
  have h0:Jz 0 zC.m:=⟨by decide,⟨by decide,fun x hx=>by cases hx⟩,by decide,⟨by decide,fun x hx=>by cases hx⟩,by decide,by decide,⟨by decide,fun x hx=>by cases hx⟩,by decide,⟨by decide,fun x hx=>by cases hx⟩,⟨by decide,fun x hx=>by cases hx⟩,⟨by decide,fun x hx=>by cases hx⟩⟩
  have h3:=JY (qu b).2 h0 hf
  have h4:=ad2 b
  rw [hf] at h
  unfold LP at h
  simp only at h
  split at h
  ·cases h
  ·cases h
   exact h3.le (by omega)
theorem KI {l:List aZ} (h:Jp l):G9 l:=fun y hy=>(h y hy).1
theorem EW {l:List aZ} (hl:l.length≤2048) (h:Jp l):K_ l:=⟨by omega,fun y hy=>by
 obtain ⟨h1,h2,h3⟩:=h y hy
 exact ⟨by omega,by omega,h1.1⟩⟩
theorem Jz.num {n:Nat} {m:Md} (h:Jz n m):yB m:=⟨fun x hx=>KI (h.fs.2 x hx).2.2,fun x hx=>KI (h.gs.2 x hx).2,fun x hx=>⟨KI (h.els.2 x hx).1.2,fun l hl=>KI ((h.els.2 x hx).2.2 l hl).2⟩,fun x hx=>KI (h.ds.2 x hx).1.2⟩
theorem Jz.sm {n:Nat} {m:Md} (h:Jz n m):Gi m :=
 have up:∀{n k:Nat},n≤k→k≤140737488355328→n≤140737488355328:=fun h g=>gz h g
 ⟨⟨up h.ts.1 (by decide),fun x hx=>⟨by have:=(h.ts.2 x hx).1;omega,by have:=(h.ts.2 x hx).2;omega⟩⟩,up h.ims (by decide),⟨up h.fs.1 (by decide),fun x hx=>⟨by have:=(h.fs.2 x hx).1;omega,EW (h.fs.2 x hx).2.1 (h.fs.2 x hx).2.2⟩⟩,up h.tbs (by decide),up h.ms (by decide),⟨up h.gs.1 (by decide),fun x hx=>EW (h.gs.2 x hx).1 (h.gs.2 x hx).2⟩,up h.exs (by decide),⟨up h.els.1 (by decide),fun x hx=>⟨EW (h.els.2 x hx).1.1 (h.els.2 x hx).1.2,up (h.els.2 x hx).2.1 (by decide),fun l hl=>EW ((h.els.2 x hx).2.2 l hl).1 ((h.els.2 x hx).2.2 l hl).2⟩⟩,⟨up h.ds.1 (by decide),fun x hx=>⟨EW (h.ds.2 x hx).1.1 (h.ds.2 x hx).1.2,by have:=(h.ds.2 x hx).2;omega⟩⟩,⟨up h.cs.1 (by decide),fun x hx=>by have:=h.cs.2 x hx;show x.b.length≤_;omega⟩⟩
end
section
open Go Go.Mw
def vI (l:List Cd):ak:=⟨61,3,l.map qf,false⟩
def td (l:List Cu):ak:=⟨67,3,l.map zK,false⟩
def xf (i j:Nat) (d:Dc):ak:=⟨89,15,[[.sl 2 (d.m.ts.map rK),.sl 13 (d.m.ims.map tg),.ms i 3 0 d.m.fs.length,.sl 4 (d.m.tbs.map xR),.sl 3 (d.m.ms.map ry),.sl 3 (d.m.gs.map yd),.sl 3 (d.m.exs.map xN),.bool d.m.hs,.int .i64 d.m.st,.sl 5 (d.m.els.map gP),.sl 4 (d.m.ds.map lO),.ms j 3 0 d.m.cs.length,.int .i64 d.place,.int .i64 (d.codes:Nat),.int .i64 d.data]],true⟩
theorem vg {fs:List Cd} {l:List (List Int×List aZ)} {k:Nat} (hk:k<fs.length):ac (FF fs l) k=if k<l.length then (⟨(ac fs k).t,(ac l k).1,(ac l k).2⟩:Cd) else ac fs k:=by
 unfold FF
 rw [bp (by rw [di,List.length_zipIdx];exact hk),bp hk,List.getElem_map,List.getElem_zipIdx]
 simp only [Nat.zero_add]
theorem ET {α:Type} [Inhabited α] {l:List α} {i k:Nat} (h:k<i) (hk:k<l.length):ac (l.take i) k=ac l k:=by
 rw [bp (by rw [pm];omega),bp hk,List.getElem_take]
theorem Dw {α:Type} [Inhabited α] {l m:List α} (h:l.length=m.length) (hk:∀k,k<l.length→ac l k=ac m k):l=m :=
 List.ext_getElem h fun k h1 h2=>by have:=hk k h1;rwa [bp h1,bp h2] at this
theorem Ye {α:Type} [Inhabited α] {l:List α} {i k:Nat} {x:α} (hk:k<l.length):ac (l.set i x) k=if i=k then x else ac l k:=by
 rw [bp (by rw [List.length_set];exact hk),List.getElem_set,bp hk]
theorem afo {fs:List Cd} {L:List (List Int×List aZ)} {i:Nat} (hi:i<fs.length) (hL:i<L.length):(FF fs (L.take i)).set i ⟨(ac fs i).t,(ac L i).1,(ac L i).2⟩=FF fs (L.take (i+1)):=by
 refine Dw (by rw [List.length_set,iq,iq]) fun k hk=>?_
 rw [List.length_set,iq] at hk
 rw [Ye (by rw [iq];exact hk),vg hk,vg hk,pm,pm]
 by_cases h1:i=k
 ·subst h1
  rw [ap rfl,ap (by omega),ET (by omega) hL]
 rw [ah h1]
 by_cases h2:k<min i L.length
 ·rw [ap h2,ap (by omega),ET (by omega) (by omega),ET (by omega) (by omega)]
 ·rw [ah h2,ah (by omega)]
theorem afn {fs:List Cd} {L:List (List Int×List aZ)} {i:Nat} (hi:fs.length≤i):FF fs (L.take i)=FF fs (L.take (i+1)):=by
 refine Dw (by rw [iq,iq]) fun k hk=>?_
 rw [iq] at hk
 rw [vg hk,vg hk,pm,pm]
 by_cases h2:k<min i L.length
 ·rw [ap h2,ap (by omega),ET (by omega) (by omega),ET (by omega) (by omega)]
 ·rw [ah h2,ah (by omega)]
theorem afm (fs:List Cd):FF fs []=fs:=by
 refine Dw (iq _ _) fun k hk=>?_
 rw [iq] at hk
 rw [vg hk,ah (by simp)]
def cdP (x:List Int×List aZ):List AV:=qf ⟨0,x.1,x.2⟩
theorem ZO (x:List Int×List aZ):cdP x=[.int .i64 0,.sl 1 (x.1.map mA),.sl 9 (x.2.map aW)]:=rfl
variable {b:List UInt8} (hb:b.length<1000000000)
include hb
theorem agn:RP gT [.int .i64 (64:Nat),.fn pR []] b (pL b (Jr b) (64:Nat)) (fun l=>.sl 3 (l.map cdP)) :=
 rZ hb (cF gD) (fun x=>⟨rfl,rfl,rfl,fun i=>rfl⟩) (by kernel_rfl) (fun _=>rfl) (fun _ h=>by cases h) (aiY hb) ⟨_,aaf b⟩ 64 (by decide)
attribute [local go_sem] di ro xf vI td
theorem acw (d:Dc) (a:Nat) (e:Int) (ha:a≤b.length) (hf:d.m.fs.length≤9223372036854775807):aX pg rQ [.mp 1000 15 0 0,.mp 1001 4 0 0] [(1000,xf 2000 2001 d),(1001,ro true b a e),(2000,vI d.m.fs),(2001,td d.m.cs)] sb
  (fun r' σ'=>r' = .tup []∧σ'=[(1000,xf 2000 2001 ⟨{ d.m with fs:=FF d.m.fs (pL b (Jr b) (64:Nat) a e).1 },d.place,(pL b (Jr b) (64:Nat) a e).1.length,d.data⟩),(1001,ro true b ((pL b (Jr b) (64:Nat) a e).2.1:Nat) (pL b (Jr b) (64:Nat) a e).2.2),(2000,vI (FF d.m.fs (pL b (Jr b) (64:Nat) a e).1)),(2001,td d.m.cs)]):=by
 refine bF jS ?_
 simp only [go_sem,jS]
 refine ab (agn hb a e ha) ?_
 have hl:=Mr b (Jr b) (64:Nat) a e
 generalize pL b (Jr b) (64:Nat) a e=y at *
 obtain ⟨L,a1,e1⟩:=y
 simp only at hl ⊢
 simp only [go_sem]
 refine aw (fun i:Nat=>⟨[(16,.int .i64 i),(15,.int .i64 L.length),(14,.sl 3 (L.map cdP)),(0,.mp 1000 15 0 0),(1,.mp 1001 4 0 0)],[(1000,xf 2000 2001 ⟨{ d.m with fs:=FF d.m.fs (L.take i) },d.place,L.length,d.data⟩),(1001,ro true b a1 e1),(2000,vI (FF d.m.fs (L.take i))),(2001,td d.m.cs)]⟩) (fun i=>i≤L.length) (fun i=>L.length - i) 0 (cX _) (Wk.of ?_ ?_) ?_
 ·simp only [go_sem];try simp
 ·simp only [go_sem,oa,afm];try simp [go_sem]
 intro i hi2
 by_cases q1:(i:Int)<(L.length:Int)
 rotate_left
 ·obtain rfl:i=L.length:=by omega
  rw [kC]
  simp only [go_sem,aQ q1]
  exact cN [] _ [(1000,xf 2000 2001 ⟨{ d.m with fs:=FF d.m.fs L },d.place,L.length,d.data⟩),(1001,ro true b a1 e1),(2000,vI (FF d.m.fs L)),(2001,td d.m.cs)] ⟨rfl,rfl⟩
 have hi':i<L.length:=by omega
 have e8:=dz hi' (by omega)
 have hlen:=iq d.m.fs (L.take i)
 by_cases q2:(i:Int)<(d.m.fs.length:Int)
 ·have hi3:i<d.m.fs.length:=by omega
  have hs:=afo hi3 hi'
  have hg:=vg (l:=L.take i) hi3
  rw [ah (by rw [pm];omega)] at hg
  generalize FF d.m.fs (L.take i)=B at *
  have hst:=Oz 2000 3 3 i 61 qf B ⟨(ac d.m.fs i).t,(ac L i).1,(ac L i).2⟩ (fun _=>rfl) rfl
  rw [hs,dY] at hst
  have hld:vp none (qf (ac B i))=some (.int .i64 (ac d.m.fs i).t):=by rw [hg];rfl
  simp only [go_sem,aO q1,hlen,aO q2,ZO,hld,hst]
  refine ⟨by omega,q1,⟨by omega,q2⟩,hi3,⟨by omega,q2⟩,hi3,?_⟩
  refine aG (i+1) (show i+1≤L.length by omega) (show L.length - (i+1)<L.length - i by omega) (Wk.of ?_ ?_)
  ·simp only [go_sem,e8];try simp
  ·simp only [go_sem,iq];try simp [go_sem]
 ·have hs:=afn (L:=L) (show d.m.fs.length≤i by omega)
  simp only [go_sem,aO q1,hlen,aQ q2,ZO]
  refine ⟨by omega,q1,?_⟩
  refine aG (i+1) (show i+1≤L.length by omega) (show L.length - (i+1)<L.length - i by omega) (Wk.of ?_ ?_)
  ·simp only [go_sem,e8];try simp
  ·simp only [go_sem,hs,iq];try simp [go_sem]
end
section
open Go Go.Mw
def wY (d:Dc) (s:dU) (x:List UInt8):Prop:=aX pg pr [.mp 1000 15 0 0,.agg [.int .i64 s.id,.str s.name,.sl 1 (x.map i5)]] [(1000,xf 2000 2001 d),(2000,vI d.m.fs),(2001,td d.m.cs)] sb
  (fun r' σ'=>r' = .int .i64 (de d s).2∧σ'=[(1000,xf 2000 2001 (de d s).1),(2000,vI (de d s).1.m.fs),(2001,td (de d s).1.m.cs)])
variable {d:Dc} {s:dU} {x:List UInt8} (hs:s.bs=some x) (hx:x.length<1000000000) (h0:¬s.id=0)
include hs hx h0
attribute [local go_sem] di ro xf vI td
theorem ag7 (hp:fk s.id=1):wY d s x:=by
 refine bF an ?_
 have hst:de d s=ky d 1 x:=by unfold de;rw [ah h0,hs,cm,hp]
 rw [hst]
 unfold ky kr kH
 simp only [Int.reduceEq,aF,bc]
 have cp:=iB s.id
 rw [hp] at cp
 have cr:=kx x hx
 simp only [go_sem,an,ay h0]
 refine aa (cp) ?_
 refine dv cr rfl (by simp [go_sem]) 905 (by decide) (by simp only [go_sem]) ?_
 simp only [go_sem,show ((1:Int)==1)=true from rfl]
 refine ab (agr hx 0 0 (cX _)) ?_
 generalize pL x (pFt x) (64:Nat) 0 0=y
 obtain ⟨l,a1,e1⟩:=y
 simp only [go_sem]
 refine ab (pZ true x a1 e1) ?_
 rw [iX]
 simp only [go_sem]
 exact jG [] (.int .i64 (oR x a1 e1)) [(1000,xf 2000 2001 ⟨{ d.m with ts:=l },1,d.codes,d.data⟩),(2000,vI d.m.fs),(2001,td d.m.cs)] ⟨rfl,rfl⟩
theorem ag8 (hp:fk s.id=2):wY d s x:=by
 refine bF an ?_
 have hst:de d s=ky d 2 x:=by unfold de;rw [ah h0,hs,cm,hp]
 rw [hst]
 unfold ky kr kH
 simp only [Int.reduceEq,aF,bc]
 have cp:=iB s.id
 rw [hp] at cp
 have cr:=kx x hx
 simp only [go_sem,an,ay h0]
 refine aa (cp) ?_
 refine dv cr rfl (by simp [go_sem]) 905 (by decide) (by simp only [go_sem]) ?_
 simp only [go_sem,show ((2:Int)==1)=false from rfl,show ((2:Int)==2)=true from rfl]
 refine ab (agu hx 0 0 (cX _)) ?_
 generalize pL x (YD x) (32:Nat) 0 0=y
 obtain ⟨l,a1,e1⟩:=y
 simp only [go_sem]
 refine ab (pZ true x a1 e1) ?_
 rw [iX]
 simp only [go_sem]
 exact jG [] (.int .i64 (oR x a1 e1)) [(1000,xf 2000 2001 ⟨{ d.m with ims:=l },2,d.codes,d.data⟩),(2000,vI d.m.fs),(2001,td d.m.cs)] ⟨rfl,rfl⟩
theorem ag_ (hp:fk s.id=4):wY d s x:=by
 refine bF an ?_
 have hst:de d s=ky d 4 x:=by unfold de;rw [ah h0,hs,cm,hp]
 rw [hst]
 unfold ky kr kH
 simp only [Int.reduceEq,aF,bc]
 have cp:=iB s.id
 rw [hp] at cp
 have cr:=kx x hx
 simp only [go_sem,an,ay h0]
 refine aa (cp) ?_
 refine dv cr rfl (by simp [go_sem]) 905 (by decide) (by simp only [go_sem]) ?_
 simp only [go_sem,show ((4:Int)==1)=false from rfl,show ((4:Int)==2)=false from rfl,show ((4:Int)==3)=false from rfl,show ((4:Int)==4)=true from rfl]
 refine ab (agx hx 0 0 (cX _)) ?_
 generalize pL x (i6 (H6 x) Ld) (4:Nat) 0 0=y
 obtain ⟨l,a1,e1⟩:=y
 simp only [go_sem]
 refine ab (pZ true x a1 e1) ?_
 rw [iX]
 simp only [go_sem]
 exact jG [] (.int .i64 (oR x a1 e1)) [(1000,xf 2000 2001 ⟨{ d.m with tbs:=l },4,d.codes,d.data⟩),(2000,vI d.m.fs),(2001,td d.m.cs)] ⟨rfl,rfl⟩
theorem aha (hp:fk s.id=5):wY d s x:=by
 refine bF an ?_
 have hst:de d s=ky d 5 x:=by unfold de;rw [ah h0,hs,cm,hp]
 rw [hst]
 unfold ky kr kH
 simp only [Int.reduceEq,aF,bc]
 have cp:=iB s.id
 rw [hp] at cp
 have cr:=kx x hx
 simp only [go_sem,an,ay h0]
 refine aa (cp) ?_
 refine dv cr rfl (by simp [go_sem]) 905 (by decide) (by simp only [go_sem]) ?_
 simp only [go_sem,show ((5:Int)==1)=false from rfl,show ((5:Int)==2)=false from rfl,show ((5:Int)==3)=false from rfl,show ((5:Int)==4)=false from rfl,show ((5:Int)==5)=true from rfl]
 refine ab (agv hx 0 0 (cX _)) ?_
 generalize pL x (i6 (FI x) ⟨0,0,false⟩) (2:Nat) 0 0=y
 obtain ⟨l,a1,e1⟩:=y
 simp only [go_sem]
 refine ab (pZ true x a1 e1) ?_
 rw [iX]
 simp only [go_sem]
 exact jG [] (.int .i64 (oR x a1 e1)) [(1000,xf 2000 2001 ⟨{ d.m with ms:=l },5,d.codes,d.data⟩),(2000,vI d.m.fs),(2001,td d.m.cs)] ⟨rfl,rfl⟩
theorem ahb (hp:fk s.id=6):wY d s x:=by
 refine bF an ?_
 have hst:de d s=ky d 6 x:=by unfold de;rw [ah h0,hs,cm,hp]
 rw [hst]
 unfold ky kr kH
 simp only [Int.reduceEq,aF,bc]
 have cp:=iB s.id
 rw [hp] at cp
 have cr:=kx x hx
 simp only [go_sem,an,ay h0]
 refine aa (cp) ?_
 refine dv cr rfl (by simp [go_sem]) 905 (by decide) (by simp only [go_sem]) ?_
 simp only [go_sem,show ((6:Int)==1)=false from rfl,show ((6:Int)==2)=false from rfl,show ((6:Int)==3)=false from rfl,show ((6:Int)==4)=false from rfl,show ((6:Int)==5)=false from rfl,show ((6:Int)==6)=true from rfl]
 refine ab (ags hx 0 0 (cX _)) ?_
 generalize pL x (pGd x) (32:Nat) 0 0=y
 obtain ⟨l,a1,e1⟩:=y
 simp only [go_sem]
 refine ab (pZ true x a1 e1) ?_
 rw [iX]
 simp only [go_sem]
 exact jG [] (.int .i64 (oR x a1 e1)) [(1000,xf 2000 2001 ⟨{ d.m with gs:=l },6,d.codes,d.data⟩),(2000,vI d.m.fs),(2001,td d.m.cs)] ⟨rfl,rfl⟩
theorem ahc (hp:fk s.id=7):wY d s x:=by
 refine bF an ?_
 have hst:de d s=ky d 7 x:=by unfold de;rw [ah h0,hs,cm,hp]
 rw [hst]
 unfold ky kr kH
 simp only [Int.reduceEq,aF,bc]
 have cp:=iB s.id
 rw [hp] at cp
 have cr:=kx x hx
 simp only [go_sem,an,ay h0]
 refine aa (cp) ?_
 refine dv cr rfl (by simp [go_sem]) 905 (by decide) (by simp only [go_sem]) ?_
 simp only [go_sem,show ((7:Int)==1)=false from rfl,show ((7:Int)==2)=false from rfl,show ((7:Int)==3)=false from rfl,show ((7:Int)==4)=false from rfl,show ((7:Int)==5)=false from rfl,show ((7:Int)==6)=false from rfl,show ((7:Int)==7)=true from rfl]
 refine ab (agq hx 0 0 (cX _)) ?_
 generalize pL x (YC x) (64:Nat) 0 0=y
 obtain ⟨l,a1,e1⟩:=y
 simp only [go_sem]
 refine ab (pZ true x a1 e1) ?_
 rw [iX]
 simp only [go_sem]
 exact jG [] (.int .i64 (oR x a1 e1)) [(1000,xf 2000 2001 ⟨{ d.m with exs:=l },7,d.codes,d.data⟩),(2000,vI d.m.fs),(2001,td d.m.cs)] ⟨rfl,rfl⟩
theorem ahe (hp:fk s.id=9):wY d s x:=by
 refine bF an ?_
 have hst:de d s=ky d 9 x:=by unfold de;rw [ah h0,hs,cm,hp]
 rw [hst]
 unfold ky kr kH
 simp only [Int.reduceEq,aF,bc]
 have cp:=iB s.id
 rw [hp] at cp
 have cr:=kx x hx
 simp only [go_sem,an,ay h0]
 refine aa (cp) ?_
 refine dv cr rfl (by simp [go_sem]) 905 (by decide) (by simp only [go_sem]) ?_
 simp only [go_sem,show ((9:Int)==1)=false from rfl,show ((9:Int)==2)=false from rfl,show ((9:Int)==3)=false from rfl,show ((9:Int)==4)=false from rfl,show ((9:Int)==5)=false from rfl,show ((9:Int)==6)=false from rfl,show ((9:Int)==7)=false from rfl,show ((9:Int)==8)=false from rfl,show ((9:Int)==9)=true from rfl]
 refine ab (agp hx 0 0 (cX _)) ?_
 generalize pL x (YB x) (16:Nat) 0 0=y
 obtain ⟨l,a1,e1⟩:=y
 simp only [go_sem]
 refine ab (pZ true x a1 e1) ?_
 rw [iX]
 simp only [go_sem]
 exact jG [] (.int .i64 (oR x a1 e1)) [(1000,xf 2000 2001 ⟨{ d.m with els:=l },9,d.codes,d.data⟩),(2000,vI d.m.fs),(2001,td d.m.cs)] ⟨rfl,rfl⟩
theorem adU (hp:fk s.id=12):wY d s x:=by
 refine bF an ?_
 have hst:de d s=ky d 12 x:=by unfold de;rw [ah h0,hs,cm,hp]
 rw [hst]
 unfold ky kr kH
 simp only [Int.reduceEq,aF,bc]
 have cp:=iB s.id
 rw [hp] at cp
 have cr:=kx x hx
 simp only [go_sem,an,ay h0]
 refine aa (cp) ?_
 refine dv cr rfl (by simp [go_sem]) 905 (by decide) (by simp only [go_sem]) ?_
 simp only [go_sem,show ((12:Int)==1)=false from rfl,show ((12:Int)==2)=false from rfl,show ((12:Int)==3)=false from rfl,show ((12:Int)==4)=false from rfl,show ((12:Int)==5)=false from rfl,show ((12:Int)==6)=false from rfl,show ((12:Int)==7)=false from rfl,show ((12:Int)==8)=false from rfl,show ((12:Int)==9)=false from rfl,show ((12:Int)==10)=false from rfl,show ((12:Int)==11)=false from rfl,show ((12:Int)==12)=true from rfl]
 refine ab (ago hx 0 0 (cX _)) ?_
 generalize pL x (YA x) (16:Nat) 0 0=y
 obtain ⟨l,a1,e1⟩:=y
 simp only [go_sem]
 refine ab (pZ true x a1 e1) ?_
 rw [iX]
 simp only [go_sem]
 exact jG [] (.int .i64 (oR x a1 e1)) [(1000,xf 2000 2001 ⟨{ d.m with ds:=l },12,d.codes,d.data⟩),(2000,vI d.m.fs),(2001,td d.m.cs)] ⟨rfl,rfl⟩
theorem ahd (hp:fk s.id=8):wY d s x:=by
 refine bF an ?_
 have hst:de d s=ky d 8 x:=by unfold de;rw [ah h0,hs,cm,hp]
 rw [hst]
 unfold ky kr kH
 simp only [Int.reduceEq,aF,bc]
 have cp:=iB s.id
 rw [hp] at cp
 have cr:=kx x hx
 simp only [go_sem,an,ay h0]
 refine aa (cp) ?_
 refine dv cr rfl (by simp [go_sem]) 905 (by decide) (by simp only [go_sem]) ?_
 simp only [go_sem,show ((8:Int)==1)=false from rfl,show ((8:Int)==2)=false from rfl,show ((8:Int)==3)=false from rfl,show ((8:Int)==4)=false from rfl,show ((8:Int)==5)=false from rfl,show ((8:Int)==6)=false from rfl,show ((8:Int)==7)=false from rfl,show ((8:Int)==8)=true from rfl]
 refine ab (N_ hx 0 0 (cX _)) ?_
 unfold pTn pb pP
 generalize sY x 0 0=y
 obtain ⟨n,a1,e1⟩:=y
 simp only [go_sem]
 refine ab (pZ true x a1 e1) ?_
 rw [iX]
 simp only [go_sem]
 exact jG [] (.int .i64 (oR x a1 e1)) [(1000,xf 2000 2001 ⟨{ d.m with hs:=true,st:=(n:Int) },8,d.codes,d.data⟩),(2000,vI d.m.fs),(2001,td d.m.cs)] ⟨rfl,rfl⟩
theorem adS (hp:fk s.id=10):wY d s x:=by
 refine bF an ?_
 have hst:de d s=ky d 10 x:=by unfold de;rw [ah h0,hs,cm,hp]
 rw [hst]
 unfold ky kr kH
 simp only [Int.reduceEq,aF,bc]
 have cp:=iB s.id
 rw [hp] at cp
 have cr:=kx x hx
 simp only [go_sem,an,ay h0]
 refine aa (cp) ?_
 refine dv cr rfl (by simp [go_sem]) 905 (by decide) (by simp only [go_sem]) ?_
 simp only [go_sem,show ((10:Int)==1)=false from rfl,show ((10:Int)==2)=false from rfl,show ((10:Int)==3)=false from rfl,show ((10:Int)==4)=false from rfl,show ((10:Int)==5)=false from rfl,show ((10:Int)==6)=false from rfl,show ((10:Int)==7)=false from rfl,show ((10:Int)==8)=false from rfl,show ((10:Int)==9)=false from rfl,show ((10:Int)==10)=true from rfl]
 refine ab (N_ hx 0 0 (cX _)) ?_
 unfold pTn pb pP
 generalize sY x 0 0=y
 obtain ⟨n,a1,e1⟩:=y
 simp only [go_sem]
 refine ab (pZ true x a1 e1) ?_
 rw [iX]
 simp only [go_sem]
 exact jG [] (.int .i64 (oR x a1 e1)) [(1000,xf 2000 2001 ⟨d.m,10,d.codes,(n:Int)⟩),(2000,vI d.m.fs),(2001,td d.m.cs)] ⟨rfl,rfl⟩
end
section
open Go Go.Mw
theorem bw1 {a b id:Nat} (h1:id≠a) (h2:id≠b):bw [(a,b)] id=id:=by
 show jk a b id=id
 unfold jk
 rw [ah h1,ah h2]
theorem agy {b:List UInt8} (hb:b.length<1000000000) (a:Nat) (e:Int) (ha:a≤b.length):aX pg gT [.mp 1000 4 0 0,.int .i64 (64:Nat),.fn gu []] [(1000,ro true b a e)] sb
  (fun r' σ'=>r' = .ms 900 3 0 (pL b (N9 b) (64:Nat) a e).1.length∧σ'=[(1000,ro true b ((pL b (N9 b) (64:Nat) a e).2.1:Nat) (pL b (N9 b) (64:Nat) a e).2.2),(900,vI (pL b (N9 b) (64:Nat) a e).1)]) :=
 Y3 hb (cF gD) (fun x=>⟨rfl,rfl,rfl,fun i=>rfl⟩) (by kernel_rfl) (fun _=>rfl) (fun _ h=>by cases h) (ai6 hb) ⟨_,aam b⟩ 64 (by decide) a e ha
variable {d:Dc} {s:dU} {x:List UInt8} (hs:s.bs=some x) (hx:x.length<1000000000) (h0:¬s.id=0)
include hs hx h0
attribute [local go_sem] di ro xf vI td
theorem ag9 (hp:fk s.id=3):wY d s x:=by
 refine bF an ?_
 have hst:de d s=ky d 3 x:=by unfold de;rw [ah h0,hs,cm,hp]
 rw [hst]
 unfold ky kr kH
 simp only [Int.reduceEq,aF,bc]
 have cp:=iB s.id
 rw [hp] at cp
 have cr:=kx x hx
 simp only [go_sem,an,ay h0]
 refine aa (cp) ?_
 refine dv cr rfl (by simp [go_sem]) 905 (by decide) (by simp only [go_sem]) ?_
 simp only [go_sem,show ((3:Int)==1)=false from rfl,show ((3:Int)==2)=false from rfl,show ((3:Int)==3)=true from rfl]
 have cl:=agy hx 0 0 (cX _)
 have hl:=Mr x (N9 x) (64:Nat) 0 0
 generalize pL x (N9 x) (64:Nat) 0 0=y at *
 obtain ⟨l,a1,e1⟩:=y
 simp only at cl hl ⊢
 refine ew (σ2:=[(905,ro true x ((0:Nat):Int) 0)]) (r3:=.ms 900 3 0 l.length) (σ3:=[(905,ro true x a1 e1),(900,vI l)]) cl [(1000,905)] [900] rfl rfl rfl rfl ?_ ?_ ?_ ?_
 ·simp only [go_sem];simp
 ·simp only [go_sem];simp [sb,bw,jk,ae]
 ·simp only [go_sem];simp [ae]
 simp only [go_sem]
 refine ab (pZ true x a1 e1) ?_
 rw [iX]
 simp only [go_sem]
 exact bP (Wk.ren _ [(900,2000)] (fun id h1 h2=>bw1 (by omega) (by omega))) [] (.int .i64 (oR x a1 e1)) [(1000,xf 2000 2001 ⟨{ d.m with fs:=l },3,d.codes,d.data⟩),(2000,vI l),(2001,td d.m.cs)] (by rfl) (by exact ⟨rfl,rfl,rfl,trivial⟩) rfl ⟨rfl,rfl⟩
theorem adT (hf:d.m.fs.length≤9223372036854775807) (hp:fk s.id=11):wY d s x:=by
 refine bF an ?_
 have hst:de d s=ky d 11 x:=by unfold de;rw [ah h0,hs,cm,hp]
 rw [hst]
 unfold ky kr kH
 simp only [Int.reduceEq,aF,bc]
 have cp:=iB s.id
 rw [hp] at cp
 have cr:=kx x hx
 simp only [go_sem,an,ay h0]
 refine aa (cp) ?_
 refine dv cr rfl (by simp [go_sem]) 905 (by decide) (by simp only [go_sem]) ?_
 simp only [go_sem,show ((11:Int)==1)=false from rfl,show ((11:Int)==2)=false from rfl,show ((11:Int)==3)=false from rfl,show ((11:Int)==4)=false from rfl,show ((11:Int)==5)=false from rfl,show ((11:Int)==6)=false from rfl,show ((11:Int)==7)=false from rfl,show ((11:Int)==8)=false from rfl,show ((11:Int)==9)=false from rfl,show ((11:Int)==10)=false from rfl,show ((11:Int)==11)=true from rfl]
 have cl:=acw hx ⟨d.m,11,d.codes,d.data⟩ 0 0 (cX _) hf
 generalize pL x (Jr x) (64:Nat) 0 0=y at *
 obtain ⟨l,a1,e1⟩:=y
 simp only at cl ⊢
 refine ew (σ2:=[(1000,xf 2000 2001 ⟨d.m,11,d.codes,d.data⟩),(905,ro true x ((0:Nat):Int) 0),(2000,vI d.m.fs),(2001,td d.m.cs)]) (r3:=.tup []) (σ3:=[(1000,xf 2000 2001 ⟨{ d.m with fs:=FF d.m.fs l },11,l.length,d.data⟩),(905,ro true x a1 e1),(2000,vI (FF d.m.fs l)),(2001,td d.m.cs)]) cl [(1001,905)] [2000,2001] rfl rfl rfl rfl ?_ ?_ ?_ ?_
 ·simp only [go_sem];simp
 ·simp only [go_sem];simp [sb,bw,jk,ae]
 ·simp only [go_sem];simp [ae]
 simp only [go_sem]
 refine ab (pZ true x a1 e1) ?_
 rw [iX]
 simp only [go_sem]
 exact jG [] (.int .i64 (oR x a1 e1)) [(1000,xf 2000 2001 ⟨{ d.m with fs:=FF d.m.fs l },11,l.length,d.data⟩),(2000,vI (FF d.m.fs l)),(2001,td d.m.cs)] ⟨rfl,rfl⟩
end
section
open Go Go.Mw
attribute [local go_sem] di ro xf vI td
theorem ag6 {d:Dc} {s:dU} {x:List UInt8} (hs:s.bs=some x) (hx:x.length<1000000000) (h0:s.id=0):wY d s x:=by
 refine jJ (ic:=kA 22 an.body) ue (cF an) (by rfl) rfl ?_
 have hst:de d s=if d.m.cs.length≥8∨x.length>4096 then (d,6) else (⟨{ d.m with cs:=d.m.cs++[⟨d.place,s.name,x⟩] },d.place,d.codes,d.data⟩,0):=by
  unfold de
  rw [ap h0,hs,cm]
 rw [hst]
 by_cases h1:(d.m.cs.length:Int)≥8
 ·rw [ap (.inl (by omega))]
  simp only [go_sem,an,dV h0,aO h1]
  exact jG [] (.int .i64 6) [(1000,xf 2000 2001 d),(2000,vI d.m.fs),(2001,td d.m.cs)] ⟨rfl,rfl⟩
 by_cases h2:(x.length:Int)>4096
 ·rw [ap (.inr (by omega))]
  simp only [go_sem,an,dV h0,aQ h1,aO h2]
  exact jG [] (.int .i64 6) [(1000,xf 2000 2001 d),(2000,vI d.m.fs),(2001,td d.m.cs)] ⟨rfl,rfl⟩
 rw [ah (by omega)]
 simp only [go_sem,an,dV h0,aQ h1,aQ h2]
 refine L2 (x.map i5) ?_ (by simp only [go_sem]) (by simp only [go_sem]) ?_
 ·show qc 36 5 1 .nl (some (x.map i5)) (fun _=>none)=_
  unfold qc
  simp only [di]
  rw [ap (by omega)]
 simp only [go_sem]
 refine PF (.ms 2001 3 0 (d.m.cs.length+1)) (.reb 2001 (td (d.m.cs++[⟨d.place,s.name,x⟩]))) ?_ (by simp only [go_sem]) (by simp only [go_sem]) (by simp only [go_sem];rfl) (by simp only [go_sem]) ?_
 ·refine Eq.trans (show _=qc 39 67 3 (.ms 2001 3 0 d.m.cs.length) (some [zK ⟨d.place,s.name,x⟩]) (ae [(2001,td d.m.cs)]) from rfl) ?_
  unfold qc
  simp only [eA,b_,ae,aF]
  have hr:(td d.m.cs).rows.length=d.m.cs.length:=by simp [td]
  rw [ap (by omega),ap ⟨trivial,rfl,rfl,rfl,trivial,by omega,by omega,by omega,rfl⟩]
  simp [td,fL]
 simp only [go_sem]
 rw [show d.m.cs.length+1=(d.m.cs++[(⟨d.place,s.name,x⟩:Cu)]).length by simp]
 exact jG [] (.int .i64 0) [(1000,xf 2000 2001 ⟨{ d.m with cs:=d.m.cs++[⟨d.place,s.name,x⟩] },d.place,d.codes,d.data⟩),(2000,vI d.m.fs),(2001,td (d.m.cs++[⟨d.place,s.name,x⟩]))] ⟨rfl,rfl⟩
theorem PN (d:Dc) {s:dU} {x:List UInt8} (hs:s.bs=some x) (hx:x.length<1000000000) (hf:d.m.fs.length≤9223372036854775807) (hid:s.id=0∨(1≤s.id∧s.id≤12)):wY d s x:=by
 by_cases h0:s.id=0
 ·exact ag6 hs hx h0
 obtain ⟨p1,p2⟩:=IU s.id
 have p3:=(Wy (id:=s.id) (by omega)).2
 rcases MZ (id:=fk s.id) ⟨p3,p2⟩ with p | p | p | p | p | p | p | p | p | p | p | p
 ·exact ag7 hs hx h0 p
 ·exact ag8 hs hx h0 p
 ·exact ag9 hs hx h0 p
 ·exact ag_ hs hx h0 p
 ·exact aha hs hx h0 p
 ·exact ahb hs hx h0 p
 ·exact ahc hs hx h0 p
 ·exact ahd hs hx h0 p
 ·exact ahe hs hx h0 p
 ·exact adS hs hx h0 p
 ·exact adT hs hx h0 hf p
 ·exact adU hs hx h0 p
end
section
open Go Go.Mw
def ZG:List AV:=[.nl,.nl,.nl,.nl,.nl,.nl,.nl,.bool false,.int .i64 0,.nl,.nl,.nl]
theorem EQ:nlm ZG (G3 Io):=⟨.inr ⟨rfl,.inl ⟨2,rfl⟩⟩,.inr ⟨rfl,.inl ⟨13,rfl⟩⟩,.inr ⟨rfl,.inl ⟨3,rfl⟩⟩,.inr ⟨rfl,.inl ⟨4,rfl⟩⟩,.inr ⟨rfl,.inl ⟨3,rfl⟩⟩,.inr ⟨rfl,.inl ⟨3,rfl⟩⟩,.inr ⟨rfl,.inl ⟨3,rfl⟩⟩,.inl rfl,.inl rfl,.inr ⟨rfl,.inl ⟨5,rfl⟩⟩,.inr ⟨rfl,.inl ⟨4,rfl⟩⟩,.inr ⟨rfl,.inl ⟨3,rfl⟩⟩,trivial⟩
theorem acE:nlm [.nl,.nl,.nl,.nl,.nl,.nl,.nl,.bool false,.int .i64 0,.nl,.nl,.nl,.int .i64 0,.int .i64 0,.int .i64 (-1)] [.sl 2 (zC.m.ts.map rK),.sl 13 (zC.m.ims.map tg),.ms 900 3 0 0,.sl 4 (zC.m.tbs.map xR),.sl 3 (zC.m.ms.map ry),.sl 3 (zC.m.gs.map yd),.sl 3 (zC.m.exs.map xN),.bool zC.m.hs,.int .i64 zC.m.st,.sl 5 (zC.m.els.map gP),.sl 4 (zC.m.ds.map lO),.ms 901 3 0 0,.int .i64 zC.place,.int .i64 (zC.codes:Nat),.int .i64 zC.data] :=
 ⟨.inr ⟨rfl,.inl ⟨2,rfl⟩⟩,.inr ⟨rfl,.inl ⟨13,rfl⟩⟩,.inr ⟨rfl,.inr ⟨900,3,rfl⟩⟩,.inr ⟨rfl,.inl ⟨4,rfl⟩⟩,.inr ⟨rfl,.inl ⟨3,rfl⟩⟩,.inr ⟨rfl,.inl ⟨3,rfl⟩⟩,.inr ⟨rfl,.inl ⟨3,rfl⟩⟩,.inl rfl,.inl rfl,.inr ⟨rfl,.inl ⟨5,rfl⟩⟩,.inr ⟨rfl,.inl ⟨4,rfl⟩⟩,.inr ⟨rfl,.inr ⟨901,3,rfl⟩⟩,.inl rfl,.inl rfl,.inl rfl,trivial⟩
theorem Zl {d:Dc} {p:Int} {b:List UInt8} (h:d.m.fs.length<4294967296):(ky d p b).1.m.fs.length<4294967296:=by
 unfold ky
 by_cases h3:p=3
 ·subst h3
  simp only [Int.reduceEq,bc,aF]
  exact Mr _ _ _ _ _
 by_cases h11:p=11
 ·subst h11
  simp only [Int.reduceEq,bc,aF]
  show (FF d.m.fs _).length<_
  rw [iq];exact h
 rw [ah h3,ah h11]
 repeat' split
 all_goals exact h
theorem Vk {d:Dc} {s:dU} (h:d.m.fs.length<4294967296):(de d s).1.m.fs.length<4294967296:=by
 unfold de
 split
 ·split<;>exact h
 ·exact Zl h
theorem YN {id:Int} {x:List UInt8} (h:(g_ id x).1=0):∃y,(g_ id x).2.bs=some y:=by
 unfold g_ at h ⊢
 by_cases h5:id=0
 ·rw [ap h5] at h ⊢
  by_cases h6:(cO true x 0 0).2.2≠0
  ·rw [ap h6] at h;exact absurd h h6
  ·rw [ah h6];exact ⟨_,rfl⟩
 ·rw [ah h5];exact ⟨_,rfl⟩
theorem Yu {d:List UInt8} {last:Int} (h:(cP d last).1=0):∃y,(cP d last).2.1.bs=some y:=by
 unfold cP at h ⊢
 by_cases h1:(ac d 0).toNat>12
 ·rw [ap h1] at h;cases h
 rw [ah h1] at h ⊢
 by_cases h2:(lc d).2.2≠0
 ·rw [ap h2] at h;exact absurd h h2
 rw [ah h2] at h ⊢
 by_cases h3:(ac d 0).toNat≠0∧fk (ac d 0).toNat≤last
 ·rw [ap h3] at h;cases h
 rw [ah h3] at h ⊢
 by_cases h4:(g_ (ac d 0).toNat (gb (lc d).1)).1≠0
 ·rw [ap h4] at h;exact absurd h h4
 rw [ah h4]
 exact YN (Classical.not_not.1 h4)
theorem Ou:∀(f:Nat) (d:List UInt8) (last:Int) (acc:List dU),(∀s∈acc,∃y,s.bs=some y)→∀s∈(qZ f d last acc).2,∃y,s.bs=some y
 | 0,d,last,acc,h=>h
 | f+1,d,last,acc,h=>by
  rw [qZ]
  by_cases h0:d.length=0
  ·rw [ap h0];exact h
  rw [ah h0]
  by_cases h1:(cP d last).1≠0
  ·rw [ap h1];intro s hs;cases hs
  rw [ah h1]
  refine Ou f _ _ _ fun s hs=>?_
  rcases fA.1 hs with q | q
  ·exact h s q
  ·simp only [kB] at q;subst q;exact Yu (Classical.not_not.1 h1)
theorem ad1 (b:List UInt8):∀s∈(qu b).2,∃y,s.bs=some y:=by
 unfold qu
 split
 ·intro s hs;cases hs
 split
 ·intro s hs;cases hs
 ·exact Ou _ _ _ _ fun s hs=>by cases hs
theorem Ow:∀(f:Nat) (d:List UInt8) (last:Int) (acc:List dU),(qZ f d last acc).2.length≤acc.length+f
 | 0,d,last,acc=>bt _
 | f+1,d,last,acc=>by
  rw [qZ]
  split
  ·exact Nat.le_add_right _ _
  split
  ·exact cX _
  ·have:=Ow f (cP d last).2.2 (max last (fk (cP d last).2.1.id)) (acc++[(cP d last).2.1])
   rw [bE,cM] at this
   omega
theorem ad3 (b:List UInt8):(qu b).2.length≤b.length:=by
 unfold qu
 split
 ·exact cX _
 split
 ·exact cX _
 ·have:=Ow (b.drop 8).length (b.drop 8) 0 []
  rw [iE] at this
  simp only [b_] at this
  unfold BV
  rw [iE]
  omega
attribute [local go_sem] di xf vI td
theorem ud (b:List UInt8) (hb:b.length≤9223372036854775807):ao pg B9 [.sl 1 (b.map i5)] (.tup [dH (rI b).1,.int .i64 (rI b).2]):=by
 refine aL mB ?_
 by_cases h1:(b.length:Int)>262144
 ·have r:rI b=(Io,6):=by unfold rI;rw [ap (by omega)]
  rw [r]
  simp only [go_sem,mB,aO h1]
  exact eB (Wk.nlm _ 2 (r:=ZG) (r':=G3 Io) (by rfl) EQ) [] (by first | rfl | simp only [go_sem]) rfl
 have c1:=Zi b (by omega)
 simp only [go_sem,mB,aQ h1]
 refine ax (c1) ?_
 by_cases h2:(qu b).1=0
 rotate_left
 ·have r:rI b=(Io,(qu b).1):=by unfold rI;rw [ah (by omega),ap h2]
  rw [r]
  simp only [go_sem,bv h2]
  exact eB (Wk.nlm _ 2 (r:=ZG) (r':=G3 Io) (by rfl) EQ) [] (by first | rfl | simp only [go_sem]) rfl
 have r:rI b=FP (qu b).2 zC:=by unfold rI;rw [ah (by omega),ah (by simp [h2])]
 have hsz:=ad4 b
 rw [r]
 simp only [go_sem,aD h2]
 have hbs:=ad1 b
 have hLn:=ad3 b
 generalize (qu b).2=L at *
 obtain ⟨R,hR⟩:∃R,FP L zC=R:=⟨_,rfl⟩
 rw [hR]
 refine aw (fun q:Nat×Dc=>⟨[(27,.int .i64 q.1),(26,.int .i64 L.length),(25,.sl 3 (L.map uG)),(6,.mp 24 15 0 0),(2,.mp 2 12 0 0)],[(2,⟨33,12,[[.nl,.nl,.nl,.nl,.nl,.nl,.nl,.bool false,.int .i64 0,.nl,.nl,.nl]],true⟩),(24,xf 900 901 q.2),(900,vI q.2.m.fs),(901,td q.2.m.cs)]⟩) (fun q=>q.1≤L.length∧FP (L.drop q.1) q.2=R∧q.2.m.fs.length<4294967296) (fun q=>L.length - q.1) (0,zC) ⟨cX _,hR,by decide⟩
  ((((Wk.new0 _ 900 3 61 (.inl (by decide))).trans (Wk.new0 _ 901 3 67 (.inl (by decide)))).trans (Wk.nlm _ 24 (r:=[.nl,.nl,.nl,.nl,.nl,.nl,.nl,.bool false,.int .i64 0,.nl,.nl,.nl,.int .i64 0,.int .i64 0,.int .i64 (-1)]) (by rfl) acE)).trans (Wk.of ?_ ?_)) ?_
 ·simp only [go_sem];try simp
 ·simp only [go_sem];try simp [go_sem,zC,Io]
 rintro ⟨i,d⟩ ⟨hi,hD,hfs⟩
 simp only at hi hD hfs
 by_cases q1:(i:Int)<(L.length:Int)
 rotate_left
 ·obtain rfl:i=L.length:=by omega
  rw [List.drop_length,FP] at hD
  by_cases c1:(d.codes:Int)=(d.m.fs.length:Int)
  rotate_left
  ·rw [ap (.inl c1)] at hD
   subst hD
   simp only [go_sem,aQ q1,bv c1]
   exact eB (Wk.nlm _ 2 (r:=ZG) (r':=G3 Io) (by rfl) EQ) [] (by first | rfl | simp only [go_sem]) rfl
  by_cases c2:d.data≥0
  ·by_cases c3:d.data=(d.m.ds.length:Int)
   ·rw [ah (by rintro (q | q);exact q c1;exact q.2 c3)] at hD
    subst hD
    simp only [go_sem,aQ q1,aD c1,aO c2,aD c3]
    refine aJ [900,901] ?_ rfl
    simp only [go_sem,bt,dH,bC]
    rw [fL (by simp),fL (by simp)]
   ·rw [ap (.inr ⟨c2,c3⟩)] at hD
    subst hD
    simp only [go_sem,aQ q1,aD c1,aO c2,bv c3]
    exact eB (Wk.nlm _ 2 (r:=ZG) (r':=G3 Io) (by rfl) EQ) [] (by first | rfl | simp only [go_sem]) rfl
  ·rw [ah (by rintro (q | q);exact q c1;exact c2 q.1)] at hD
   subst hD
   simp only [go_sem,aQ q1,aD c1,aQ c2]
   refine aJ [900,901] ?_ rfl
   simp only [go_sem,bt,dH,bC]
   rw [fL (by simp),fL (by simp)]
 have hi':i<L.length:=by omega
 have e8:=dz hi' (by omega)
 have hin:ac L i∈L:=by rw [bp hi'];exact List.getElem_mem hi'
 obtain ⟨x,hx⟩:=hbs _ hin
 obtain ⟨z1,z2⟩:=hsz _ hin
 rw [hx,cm] at z1
 rw [xg hi',FP] at hD
 obtain ⟨s,hsL⟩:∃s,ac L i=s:=⟨_,rfl⟩
 rw [hsL] at hx z2 hD
 have cs:=PN d hx (by omega) (by omega) z2
 have hf2:=Vk (s:=s) hfs
 have hsx:MQ s.bs = .sl 1 (x.map i5):=by rw [hx];rfl
 unfold wY at cs
 generalize de d s=y at *
 obtain ⟨d',e⟩:=y
 simp only at cs hD hf2
 simp only [go_sem,aO q1,hsL,hsx]
 refine ⟨by omega,q1,?_⟩
 refine ew (σ2:=[(24,xf 900 901 d),(900,vI d.m.fs),(901,td d.m.cs)]) (r3:=.int .i64 e) (σ3:=[(24,xf 900 901 d'),(900,vI d'.m.fs),(901,td d'.m.cs)]) cs [(1000,24),(2000,900),(2001,901)] [900,901] rfl rfl rfl rfl ?_ ?_ ?_ ?_
 ·simp only [go_sem];simp
 ·simp only [go_sem];simp [sb,bw,jk,ae]
 ·simp only [go_sem];simp [ae]
 by_cases he:e=0
 rotate_left
 ·rw [ap he] at hD
  subst hD
  simp only [go_sem,bv he]
  exact eB (Wk.nlm _ 2 (r:=ZG) (r':=G3 Io) (by rfl) EQ) [] (by first | rfl | simp only [go_sem]) rfl
 rw [ah (by simp [he])] at hD
 simp only [go_sem,aD he]
 refine aG (i+1,d') ⟨show i+1≤L.length by omega,hD,hf2⟩ (show L.length - (i+1)<L.length - i by omega) (Wk.of ?_ ?_)
 ·simp only [go_sem,e8];try simp
 ·simp only [go_sem];try simp [go_sem]
end
section
open Go Go.Mw
attribute [local go_sem] di bC
def HV:Md:=⟨[⟨[],[]⟩],[],[⟨0,[],[⟨11,0,0,0,0,0,0,[],[]⟩]⟩],[],[],[],[],false,0,[],[],[]⟩
def RZ:List AV:=[.sl 2 [[.nl,.nl]],.nl,.sl 3 [[.int .i64 0,.nl,.sl 9 [[.int .i64 11,.int .i64 0,.int .i64 0,.int .u64 0,.int .i64 0,.int .i64 0,.int .i64 0,.nl,.nl]]]],.nl,.nl,.nl,.nl,.bool false,.int .i64 0,.nl,.nl,.nl]
def byB:List UInt8:=[0,97,115,109,1,0,0,0,1,4,1,96,0,0,3,2,1,0,10,4,1,2,0,11]
theorem aiM:nld (.agg RZ) (dH HV) :=
 .inr ⟨_,_,rfl,rfl,ID ⟨⟨.nl _,.nl _,trivial⟩,trivial⟩,.nl _,ID ⟨⟨.rfl _,.nl _,ID ⟨⟨.rfl _,.rfl _,.rfl _,.rfl _,.rfl _,.rfl _,.rfl _,.nl _,.nl _,trivial⟩,trivial⟩,trivial⟩,trivial⟩,.nl _,.nl _,.nl _,.nl _,.rfl _,.rfl _,.nl _,.nl _,.nl _,trivial⟩
theorem aiL:nld (.agg ZG) (dH Io):=.inr ⟨_,_,rfl,rfl,.nl _,.nl _,.nl _,.nl _,.nl _,.nl _,.nl _,.rfl _,.rfl _,.nl _,.nl _,.nl _,trivial⟩
theorem ahh:Gi HV:=⟨⟨by decide,fun x hx=>by
  simp only [HV,kB] at hx;subst hx;exact ⟨by decide,by decide⟩⟩,by decide,⟨by decide,fun x hx=>by
  simp only [HV,kB] at hx;subst hx
  refine ⟨by decide,by decide,fun y hy=>?_⟩
  simp only [kB] at hy
  subst hy;exact ⟨by decide,by decide,by decide⟩⟩,by decide,by decide,⟨by decide,fun x h=>by cases h⟩,by decide,⟨by decide,fun x h=>by cases h⟩,⟨by decide,fun x h=>by cases h⟩,⟨by decide,fun x h=>by cases h⟩⟩
theorem ajG:Gi Io:=⟨⟨by decide,fun x h=>by cases h⟩,by decide,⟨by decide,fun x h=>by cases h⟩,by decide,by decide,⟨by decide,fun x h=>by cases h⟩,by decide,⟨by decide,fun x h=>by cases h⟩,⟨by decide,fun x h=>by cases h⟩,⟨by decide,fun x h=>by cases h⟩⟩
theorem af7:yB HV:=⟨fun x hx=>by
  simp only [HV,kB] at hx;subst hx
  intro y hy
  simp only [kB] at hy
  subst hy;exact ⟨by decide,by decide⟩,(fun x h=>by cases h),(fun x h=>by cases h),(fun x h=>by cases h)⟩
theorem aiN:yB Io:=⟨(fun x h=>by cases h),(fun x h=>by cases h),(fun x h=>by cases h),(fun x h=>by cases h)⟩
theorem afB:cW Io=(0,FJ):=by decide +kernel
theorem ZP:cW HV=(0,byB):=by decide +kernel
theorem afv:rI byB=(HV,0):=by kernel_rfl
theorem qX:ao pg FZ [] (.bool true):=by
 refine aL wq ?_
 have c1:ao pg mR [.agg ZG] (.tup [.sl 1 (FJ.map i5),.int .i64 0]):=by
  have c:=lV ajG aiN (by decide +kernel)
  rw [afB] at c
  exact jl c ⟨aiL,trivial⟩
 have c2:ao pg mR [.agg RZ] (.tup [.sl 1 (byB.map i5),.int .i64 0]):=by
  have c:=lV ahh af7 (by decide +kernel)
  rw [ZP] at c
  exact jl c ⟨aiM,trivial⟩
 have c3:=ud byB (by decide)
 rw [afv] at c3
 have c4:=NU ahh af7 (by decide +kernel)
 rw [ZP] at c4
 simp only [ZG] at c1
 simp only [RZ] at c2
 simp only [go_sem,wq]
 refine aa (c1) ?_
 refine ⟨_,Wk.frzs [14,16] _,?_⟩
 simp only [PV]
 simp only [go_sem,bt,List.take_succ_cons,oa]
 refine JJ [18] ?_ c2 (by simp [go_sem]) ?_
 ·simp only [go_sem,bt]
  try rfl
 simp only [go_sem]
 refine ax (c3) ?_
 simp only [go_sem,dH,show (FJ==[0,97,115,109,1,0,0,0])=true from rfl,show (byB==FJ++[1,4,1,96,0,0,3,2,1,0,10,4,1,2,0,11])=true from rfl,show (((HV.fs.length:Nat):Int)==1)=true from rfl]
 refine ⟨by decide,?_⟩
 simp only [dH,bC] at c4
 refine aa (c4) ?_
 exact aj
end
open Go Go.Mw
theorem DX {m:Md} (hs:Gi m) (hn:yB m) (h:(cW m).1=0):vt m∧xn (yI m)=(0,(cW m).2):=by
 unfold cW at h ⊢
 by_cases h1:(sU Dy m).c≠0
 ·rw [ap h1] at h;exact absurd h h1
 rw [ah h1] at h ⊢
 by_cases h2:IE m=false
 ·rw [ap h2] at h;cases h
 rw [ah h2] at h ⊢
 by_cases h3:E0 m=false
 ·rw [ap h3] at h;cases h
 rw [ah h3] at h ⊢
 exact ⟨⟨(Z9 hs).1 (Classical.not_not.1 h1),by simpa using h2,by simpa using h3,hn⟩,Prod.ext h rfl⟩
theorem Nn {m:Md} (h:(cW m).1≠0):(cW m).2=[]:=by
 unfold cW at h ⊢
 by_cases h1:(sU Dy m).c≠0
 ·rw [ap h1]
 rw [ah h1] at h ⊢
 by_cases h2:IE m=false
 ·rw [ap h2]
 rw [ah h2] at h ⊢
 by_cases h3:E0 m=false
 ·rw [ap h3]
 rw [ah h3] at h ⊢
 unfold xn at h ⊢
 by_cases h4:(NM (yI m)).1=0∧(NM (yI m)).2.length>262144
 ·rw [ap h4]
 rw [ah h4] at h ⊢
 exact NL _ _ _ h
theorem HT {m:Md} (hs:Gi m) (hn:yB m):(cW m).2.length≤262144:=by
 by_cases h:(cW m).1=0
 ·exact (Jc (DX hs hn h).2).2.2.1
 ·rw [Nn h];exact cX _
theorem WH {b:List UInt8} {m:Md} (h:wF b = .ok m):rI b=(m,0):=by
 rcases RL b with ⟨h1,h2⟩ | ⟨_,_,h3⟩
 ·rw [h] at h2
  cases h2
  exact Prod.ext rfl h1
 ·rw [h] at h3;cases h3
theorem JM {b:List UInt8} (h:(rI b).2=0):wF b = .ok (rI b).1:=by
 rcases RL b with ⟨_,h2⟩ | ⟨_,h2,_⟩
 ·exact h2
 ·exact absurd h h2
theorem JN {m:Md} (hs:Gi m) (hn:yB m) (h:(cW m).1=0):rI (cW m).2=(pt m,0):=by
 obtain ⟨h1,h2⟩:=DX hs hn h
 exact WH (HQ h1 h2)
theorem TT (m:Md):pt (pt m)=pt m:=by
 unfold pt
 simp only [Md.mk.injEq,true_and,and_true]
 split<;>rfl
theorem U9 (m:Md):dm m (pt m):=yW.2 (TT m).symm
theorem Km:maxLen≤9223372036854775807:=by decide
theorem Jz.ins {n:Nat} {m:Md} (h:Jz n m) (hn:n≤6000):Ei m≤6000:=by
 have:=h.tot
 rw [NH (by omega)]
 omega
end Go.Proofs.YtdfofedlbljnhaaGreatDoor