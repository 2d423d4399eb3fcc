import Derived.Test.YtdfofedlbljnhaaGreatDoorQn
set_option linter.all false
set_option maxRecDepth 100000
set_option maxHeartbeats 40000000
namespace Go.Proofs.YtdfofedlbljnhaaGreatDoor
section
open Go Go.Mw
theorem Lf {α:Type} {g:Nat→Rd α} {d:α} {a:Nat} {e:Int} (he:e≠0):i6 g d a e=(d,a,e):=ah he
theorem MY {α:Type} {L:Nat} {g:Nat→Rd α} (d:α) {a:Nat} (h:aT L (g a)):(∃x k,g a = .ok (x,k)∧i6 g d a 0=(x,k,0)∧k≤L)∨∃e k,g a = .error (e,k)∧e≠0∧i6 g d a 0=(d,k,e)∧k≤L:=by
 unfold i6
 rw [ap rfl]
 rcases h.cs with ⟨x,k,hr,hk⟩ | ⟨e,k,hr,he,hk⟩
 ·rw [hr];exact .inl ⟨x,k,rfl,rfl,hk⟩
 ·rw [hr];exact .inr ⟨e,k,rfl,he,rfl,hk⟩
def Zx (x:Tb):AV:=.agg (xR x)
def So (x:Gl):AV:=.agg (NB x)
def Ld:Tb:=⟨0,⟨0,0,false⟩⟩
def xO:Gl:=⟨0,false⟩
variable {b:List UInt8} (hb:b.length<1000000000)
include hb
attribute [local go_sem] ro wo wa d_ dE
theorem Qd {a:Nat} {e:Int} (ha:a≤b.length) (he:e≠0):RM fK [] true b a e (Zx Ld) a e:=by
 refine bF fD ?_
 simp only [go_sem,fD]
 refine ab (YL hb a e ha) ?_
 simp only [go_sem,Lf he]
 refine ab (aP true b a e) ?_
 simp only [go_sem,pp he]
 refine ab (PY hb a e ha) ?_
 simp only [go_sem,Lf he,Jn,ry]
 refine ab (aP true b a e) ?_
 simp only [go_sem,vj he]
 exact done [] _ [(1000,ro true b a e)] (by simp only [go_sem,Zx,xR,Ld]) (by simp only [go_sem]) rfl ⟨rfl,rfl⟩
theorem Zd {a:Nat} (ha:a≤b.length):RX fK [] b a (H6 b a) Ld Zx:=by
 refine bF fD ?_
 simp only [go_sem,fD]
 refine ab (YL hb a 0 ha) ?_
 unfold H6
 rcases MY 0 (M5 ha) with ⟨t,k,g1,g2,g3⟩ | ⟨e,k,g1,he,g2,g3⟩
 rotate_left
 ·rw [g1,oH]
  simp only [go_sem,g2]
  have ha:=g3
  refine ab (aP true b k e) ?_
  simp only [go_sem,pp he]
  refine ab (PY hb _ _ ha) ?_
  simp only [go_sem,Lf he,Jn,ry]
  refine ab (aP true b _ _) ?_
  simp only [go_sem,vj he]
  exact done [] _ [(1000,ro true b k e)] (by simp only [go_sem,Zx,xR,Ld]) (by simp only [go_sem]) rfl ⟨(_,k,e),jE.er rfl he ha,rfl,rfl⟩
 rw [g1,aM]
 simp only [go_sem,g2]
 refine ab (aP true b k 0) ?_
 have c1:=Kj t
 simp only [go_sem]
 refine ax (c1) ?_
 clear ha
 have ha:=g3
 by_cases ht:t=3∨t=4
 ·rw [ap ht]
  simp only [go_sem,Aq.2 ht]
  refine ab (PY hb k 0 ha) ?_
  rcases MY ⟨0,0,false⟩ (VC ha) with ⟨l,k1,j1,j2,j3⟩ | ⟨e,k1,j1,he,j2,j3⟩
  ·rw [j1,aM]
   simp only [go_sem,j2,Jn,ry]
   refine aA (aP true b k1 0) ?_
   exact done [] _ [(1000,ro true b k1 0)] (by simp only [go_sem,Zx,xR,Ld]) (by simp only [go_sem]) rfl ⟨(_,k1,0),jE.ok rfl j3,rfl,rfl⟩
  ·rw [j1,oH]
   simp only [go_sem,j2,Jn,ry]
   refine ab (aP true b k1 e) ?_
   simp only [go_sem,vj he]
   exact done [] _ [(1000,ro true b k1 e)] (by simp only [go_sem,Zx,xR,Ld]) (by simp only [go_sem]) rfl ⟨(_,k1,e),jE.er rfl he j3,rfl,rfl⟩
 ·rw [ah ht]
  have hf:Jt t=false:=by
   cases h:Jt t
   ·rfl
   ·exact absurd (Aq.1 h) ht
  simp only [go_sem,hf]
  refine ab (cj b k 12) ?_
  have he:(12:Int)≠0:=by decide
  simp only [go_sem]
  refine ab (PY hb _ _ ha) ?_
  simp only [go_sem,Lf he,Jn,ry]
  refine ab (aP true b _ _) ?_
  simp only [go_sem,vj he]
  exact done [] _ [(1000,ro true b k 12)] (by simp only [go_sem,Zx,xR,Ld]) (by simp only [go_sem]) rfl ⟨(_,k,12),jE.er rfl he ha,rfl,rfl⟩
theorem agw:RP fK [] b (i6 (H6 b) Ld) Zx:=RP.of (fun a ha=>Zd hb ha) fun a e ha he=>Qd hb ha he
theorem Qb {a:Nat} {e:Int} (ha:a≤b.length) (he:e≠0):RM iV [] true b a e (So xO) a e:=by
 refine bF eJ ?_
 simp only [go_sem,eJ]
 refine ab (YL hb a e ha) ?_
 simp only [go_sem,Lf he]
 refine ab (pd true b a e ha hb) ?_
 simp only [go_sem,pp he,bU,vy]
 refine ab (aP true b a e) ?_
 simp only [go_sem,pp he]
 refine ab (aP true b a e) ?_
 simp only [go_sem,vj he]
 exact done [] _ [(1000,ro true b a e)] (by simp only [go_sem,So,NB,xO]) (by simp only [go_sem]) rfl ⟨rfl,rfl⟩
theorem Zb {a:Nat} (ha:a≤b.length):RX iV [] b a (GW b a) xO So:=by
 refine bF eJ ?_
 simp only [go_sem,eJ]
 refine ab (YL hb a 0 ha) ?_
 unfold GW
 rcases MY 0 (M5 ha) with ⟨t,k,g1,g2,g3⟩ | ⟨e,k,g1,he,g2,g3⟩
 rotate_left
 ·rw [g1,oH]
  simp only [go_sem,g2]
  refine ab (pd true b k e g3 hb) ?_
  simp only [go_sem,pp he,bU,vy]
  refine ab (aP true b k e) ?_
  simp only [go_sem,pp he]
  refine ab (aP true b k e) ?_
  simp only [go_sem,vj he]
  exact done [] _ [(1000,ro true b k e)] (by simp only [go_sem,So,NB,xO]) (by simp only [go_sem]) rfl ⟨(_,k,e),jE.er rfl he g3,rfl,rfl⟩
 rw [g1,aM]
 simp only [go_sem,g2]
 refine ab (pd true b k 0 g3 hb) ?_
 rcases yK b k with ⟨x,h1,h2,h3⟩ | ⟨h1,h2⟩
 rotate_left
 ·rw [h1,oH]
  simp only [go_sem,nF,h2]
  refine aA (aP true b k 3) ?_
  refine aA (aP true b k 3) ?_
  exact done [] _ [(1000,ro true b k 3)] (by simp only [go_sem,So,NB,xO]) (by simp only [go_sem]) rfl ⟨(_,k,3),jE.er rfl (by decide) g3,rfl,rfl⟩
 rw [h1,aM]
 simp only [go_sem,nF,h2]
 clear h1 h2
 generalize k+1=k1 at *
 refine ab (aP true b (k1:Nat) 0) ?_
 rcases aaK x with ⟨hx,hd,hn⟩ | rfl | rfl
 ·rw [ap hx]
  simp only [go_sem,hd]
  refine aA (cj b k1 4) ?_
  refine aA (aP true b k1 4) ?_
  exact done [] _ [(1000,ro true b k1 4)] (by simp only [go_sem,So,NB,xO]) (by simp only [go_sem]) rfl ⟨(_,k1,4),jE.er rfl (by decide) h3,rfl,rfl⟩
 ·rw [ah (by decide)]
  simp only [go_sem,d0]
  refine ab (aP true b k1 0) ?_
  simp only [go_sem,u0]
  exact done [] _ [(1000,ro true b k1 0)] (by simp only [go_sem,So,NB,xO,show ((0:UInt8)==1)=false from rfl]) (by simp only [go_sem]) rfl ⟨(_,k1,0),jE.ok rfl h3,rfl,rfl⟩
 ·rw [ah (by decide)]
  simp only [go_sem,d1]
  refine ab (aP true b k1 0) ?_
  simp only [go_sem,u1]
  exact done [] _ [(1000,ro true b k1 0)] (by simp only [go_sem,So,NB,xO]) (by simp only [go_sem]) rfl ⟨(_,k1,0),jE.ok rfl h3,rfl,rfl⟩
theorem agt:RP iV [] b (i6 (GW b) xO) So:=RP.of (fun a ha=>Zb hb ha) fun a e ha he=>Qb hb ha he
theorem K6 {a:Nat} {e:Int} (ha:a≤b.length) (he:e≠0):RM j_ [.int .i64 2048] true b a e (exs []) a e:=by
 refine bF gn ?_
 simp only [go_sem,gn]
 refine aw (fun q:Unit=>⟨[(6,.int .i64 1),(5,.ms 900 9 0 0),(4,.nl),(1,.int .i64 2048),(0,.mp 1000 4 0 0)],[(900,⟨58,9,[],false⟩),(1000,ro true b a e)]⟩)
  (fun q=>True) (fun q=>0) () trivial ((Wk.nil _ 5 900 9 58 (by simp only [go_sem]) (.inl (by decide))).trans (Wk.of ?_ ?_)) ?_
 ·simp only [go_sem,St.mknil];try simp [go_sem]
 ·simp only [go_sem,St.mknil];try simp [go_sem]
 rintro ⟨⟩ _
 simp only [go_sem,show decide ((1:Int)>0)=true from rfl,show decide (((0:Nat):Int)≥2048)=false from rfl,show decide ((0:Int)≥2048)=false from rfl]
 refine aA (Oj ha hb he) ?_
 refine ab (aP true b a e) ?_
 simp only [go_sem,vj he]
 refine bP (Wk.nil _ 4 901 9 58 (by simp only [go_sem]) (.inl (by decide))) [901] (exs []) [(1000,ro true b a e)] ?_ ?_ rfl ⟨rfl,rfl⟩
 ·simp only [go_sem,St.mknil]
  rfl
 ·simp only [go_sem,St.mknil]
theorem VP:RP j_ [.int .i64 2048] b (i6 (gX b) []) exs:=RP.of (fun a ha=>Qa ha hb 2048 ⟨by decide,by decide⟩) fun a e ha he=>K6 hb ha he
end
section
open Go Go.Mw
def rlB (u v t st:Nat) (z:List AV):bN :=
 (.seq (.reg [o0 6 (.mov (.c .nl))] [])
 (.seq (.reg [o0 7 (.mov (.c .nl))] [])
 (.seq (.seq (.reg [mv 9 0,
 mv 10 1,
 o0 11 (.call u [(.s 9),(.s 10)]),
 mv 8 11] [9,10,11])
 (.block 0 (.loop (.seq (.seq (.reg [mv 12 8,
 o0 13 (.bin .gtr (.s 12) (.c (.int .i64 0))),
 mv 14 13,
 mt 15 0 14,
 ot 16 14 (.call v [(.s 15)]),
 ot 17 14 (.bin .eql (.s 16) (.c (.int .i64 0))),
 o0 18 (.pick (.s 14) (.s 17) (.c (.bool false)))] [12,13,14,15,16,17])
 (.cond (.s 18)
 .skip
 (.exit 0)))
 (.seq (.block 1 (.reg [mv 21 7,
 mv 22 2,
 mv 23 0,
 o0 24 (.callv (.s 22) [(.s 23)]),
 o0 25 (.bsl t st [z] [(0,(.s 24))]),
 o0 26 (.app t st (.s 21) (.s 25)),
 mv 7 26] [21,22,23,24,25,26]))
 (.reg [mv 19 8,
 o0 20 (.bin .sub (.s 19) (.c (.int .i64 1))),
 mv 8 20] [19,20]))))))
 (.seq (.reg [mv 27 7,
 mv 6 27] [27])
 .ret))))
def aeU (st:Nat) (c:List AV):Prop:=c.length=st∧c.all qh=true∧aH (.agg c)=[]∧∀i,c.any (mC i)=false
theorem yD {b:List UInt8} {most:Int} {a:Nat} {e:Int}:(pC b most a e).1<4294967296:=by
 have:=E4 true b a e
 unfold pC bS
 repeat' split
 all_goals first | (show (0:Nat)<_;decide) | exact E4 _ _ _ _
theorem YF {α:Type} {one:PS α} {m a:Nat} {e:Int} (he:e≠0):pN one m a e=([],a,e):=by
 cases m with
 | zero=>rfl
 | succ m=>exact ah he
theorem YE {α:Type} (one:PS α) (m a:Nat):pN one (m+1) a 0=((one a 0).1 :: (pN one m (one a 0).2.1 (one a 0).2.2).1,(pN one m (one a 0).2.1 (one a 0).2.2).2):=by
 show (if (0:Int)=0 then pb one (fun x=>pb (pN one m) fun l=>pP (x :: l)) a 0 else ([],a,0))=_
 rw [ap rfl]
 rfl
variable {b:List UInt8} (hb:b.length<1000000000)
include hb
attribute [local go_sem] di ro wa
theorem rZ {α:Type} [Inhabited α] {n t st:Nat} {z:List AV} {f:α→List AV} {g:FuncId} {caps:List AV} {one:PS α} (hc:lN pg n=some ⟨28,3,[.tmp 6],rlB cJ dF t st z⟩)
  (hv:∀x,aeU st (f x)) (hg:bM pg g=true) (hcp:∀i,caps.any (mP i)=false) (hcv:∀x∈caps,aH x=[]) (ho:RP g caps b one fun x=>.agg (f x)) (hw:∃r,dy b one r) (most:Nat) (hm:most<4294967296) :
  RP n [.int .i64 (most:Nat),.fn g caps] b (pL b one most) (fun l=>.sl st (l.map f)):=by
 intro a e ha
 refine jJ (ic:=rlB cJ dF t st z) ue hc rfl rfl ?_
 have q4:∀i x,x∈caps→mP i x=false:=fun i x hx=>by
  have:=hcp i
  rw [List.any_eq_false] at this
  simpa using this x hx
 simp only [go_sem,rlB]
 refine aA (YK hb most a e ha) ?_
 have hN:=yD (b:=b) (most:=most) (a:=a) (e:=e)
 have h0:pL b one most a e=([]++(pN one (pC b most a e).1 (pC b most a e).2.1 (pC b most a e).2.2).1,(pN one (pC b most a e).1 (pC b most a e).2.1 (pC b most a e).2.2).2):=rfl
 have hk:(pC b most a e).2.1≤b.length:=o9 ha
 generalize pL b one most a e=R at *
 generalize pC b most a e=c at *
 obtain ⟨N,a0,e0⟩:=c
 simp only at hN h0 hk ⊢
 refine aw (fun q:Nat×List α×Nat×Int=>⟨[(8,.int .i64 (q.1:Nat)),(7,.ms 900 st 0 q.2.1.length),(6,.nl),(0,.mp 1000 4 0 0),(1,.int .i64 (most:Nat)),(2,.fn g caps)],[(900,⟨t,st,q.2.1.map f,false⟩),(1000,ro true b q.2.2.1 q.2.2.2)]⟩)
  (fun q=>q.2.2.1≤b.length∧q.2.1.length+q.1≤N∧R=(q.2.1++(pN one q.1 q.2.2.1 q.2.2.2).1,(pN one q.1 q.2.2.1 q.2.2.2).2)) (fun q=>q.1) (N,[],a0,e0) ⟨hk,by simp,h0⟩ ((Wk.nil _ 7 900 st t (by simp only [go_sem]) (.inl (by decide))).trans (Wk.of ?_ ?_)) ?_
 ·simp only [go_sem,St.mknil];try (simp;exact q4 _)
 ·simp only [go_sem,St.mknil];try simp [go_sem]
 rintro ⟨m,l,a1,e1⟩ ⟨h1,h2,h3⟩
 simp only at h1 h2 h3
 have v2:∀x,(f x).length=st:=fun x=>(hv x).1
 have v3:∀x,(f x).all qh=true:=fun x=>(hv x).2.1
 have v5:∀x i,(f x).any (mC i)=false:=fun x i=>(hv x).2.2.2 i
 have happ:=fun ys=>cZ 900 t st l.length f l ys rfl
 by_cases hm1:(m:Int)>0
 rotate_left
 ·obtain rfl:m=0:=by omega
  simp only [go_sem,aQ hm1]
  subst h3
  refine done [900] _ [(1000,ro true b a1 e1)] ?_ (by simp only [go_sem]) rfl ⟨rfl,rfl⟩
  simp only [go_sem,di,bt]
  rw [fL (by rw [di];omega)]
  simp [pN,pP]
 obtain ⟨m,rfl⟩:∃k,m=k+1:=⟨m - 1,by omega⟩
 have hw1:IntKind.i64.wrap (((m+1:Nat):Int) - 1)=(m:Int):=by rw [wi (by omega) (by omega)];omega
 simp only [go_sem,aO hm1]
 refine ab (aP true b a1 e1) ?_
 by_cases he:e1=0
 rotate_left
 ·simp only [go_sem,pp he]
  rw [YF he] at h3
  subst h3
  refine done [900] _ [(1000,ro true b a1 e1)] ?_ (by simp only [go_sem]) rfl ⟨rfl,rfl⟩
  simp only [go_sem,di,bt]
  rw [fL (by rw [di];omega)]
 subst he
 simp only [go_sem]
 rw [ap (J5 hg)]
 refine ⟨hg,?_⟩
 refine dW (ho a1 0 h1) ⟨by decide,by decide⟩ (hv _).2.2.1 hcv rfl rfl (by rfl) ?_
 rw [YE] at h3
 obtain ⟨r,hr⟩:=hw
 have hk2:=(hr a1 0 h1).1
 generalize one a1 0=y at *
 obtain ⟨x,a2,e2⟩:=y
 simp only at h3 hk2 ⊢
 simp only [go_sem,v2,v3,v5,hcp,happ,hw1]
 refine ⟨by omega,aG (m,l++[x],a2,e2) ⟨hk2,by simp;omega,by rw [h3];simp⟩ (show m<m+1 by omega) (Wk.of ?_ ?_)⟩
 ·simp only [go_sem];try simp
 ·simp only [go_sem];try simp [go_sem]
end
section
open Go Go.Mw
def pM {α:Type} (one:PS α):Nat→PS (List α)
 | 0=>pP []
 | n+1=>pb one fun x=>pb (pM one n) fun l=>pP (x :: l)
theorem dy.m {α:Type} {b:List UInt8} {one:PS α} {g:List UInt8→Nat→Rd α} (h:dy b one (g b)):∀n,dy b (pM one n) (gN g n b)
 | 0=>dy.pure []
 | n+1=>h.bd (r:=fun x k=>eU (gN g n b k) fun l k'=>.ok (x :: l,k')) fun x=>(dy.m h n).bd fun l=>dy.pure (x :: l)
theorem aiX {α:Type} (one:PS α) (m a:Nat) (e:Int):pM one (m+1) a e=((one a e).1 :: (pM one m (one a e).2.1 (one a e).2.2).1,(pM one m (one a e).2.1 (one a e).2.2).2):=rfl
def vas (l:List Int):AV:=.sl 1 (l.map mA)
def Qx (b:List UInt8):PS (List Int):=pb (pC b 8) (pM (i6 (gV b) 0))
theorem tX (b:List UInt8):ZK b (gV b):=fun a ha=>M5 ha
theorem BS (b:List UInt8):dy b (Qx b) (mM gV 8 b):=(Ga 8).bd fun n=>dy.m (g:=gV) ((tX b).oks 0) n
theorem agj {b:List UInt8} {most:Int} (h0:0≤most) {a:Nat} {e:Int} (ha:a≤b.length):((pC b most a e).1:Int)≤most:=by
 unfold pC
 by_cases he:e=0
 ·subst he
  show ((bS true b a 0 most).1:Int)≤most
  rcases yL most ha with ⟨n,k,_,h2,h3,_⟩ | ⟨e,_,_,h2⟩
  ·rw [h2];exact h3
  ·rw [h2];exact h0
 ·rw [pp he,KU];exact h0
variable {b:List UInt8} (hb:b.length<1000000000)
include hb
attribute [local go_sem] di ro wa
theorem Aj:RP EC [] b (Qx b) vas:=by
 intro a e ha
 refine bF tq ?_
 simp only [go_sem,tq]
 refine ⟨by kernel_rfl,?_⟩
 refine aA (YK hb 8 a e ha) ?_
 have hN:=agj (b:=b) (most:=8) (by decide) (e:=e) ha
 have h0:Qx b a e=([]++(pM (i6 (gV b) 0) (pC b 8 a e).1 (pC b 8 a e).2.1 (pC b 8 a e).2.2).1,(pM (i6 (gV b) 0) (pC b 8 a e).1 (pC b 8 a e).2.1 (pC b 8 a e).2.2).2):=rfl
 have hk:(pC b 8 a e).2.1≤b.length:=o9 ha
 generalize Qx b a e=R at *
 generalize pC b 8 a e=c at *
 obtain ⟨N,a0,e0⟩:=c
 simp only at hN h0 hk ⊢
 refine aw (fun q:Nat×List Int×Nat×Int=>⟨[(9,.int .i64 q.2.1.length),(8,.int .i64 N),(4,.ms 900 1 0 q.2.1.length),(2,.nl),(0,.mp 1000 4 0 0)],[(900,⟨54,1,q.2.1.map mA,false⟩),(1000,ro true b q.2.2.1 q.2.2.2)]⟩)
  (fun q=>q.2.2.1≤b.length∧q.2.1.length+q.1=N∧R=(q.2.1++(pM (i6 (gV b) 0) q.1 q.2.2.1 q.2.2.2).1,(pM (i6 (gV b) 0) q.1 q.2.2.1 q.2.2.2).2)) (fun q=>q.1) (N,[],a0,e0) ⟨hk,by simp,h0⟩ ((Wk.nil _ 4 900 1 54 (by simp only [go_sem]) (.inl (by decide))).trans (Wk.of ?_ ?_)) ?_
 ·simp only [go_sem,St.mknil];try simp [go_sem]
 ·simp only [go_sem,St.mknil];try simp [go_sem]
 rintro ⟨m,l,a1,e1⟩ ⟨h1,h2,h3⟩
 simp only at h1 h2 h3
 have happ:=fun ys=>cZ 900 54 1 l.length mA l ys rfl
 by_cases hm1:(l.length:Int)<(N:Int)
 rotate_left
 ·obtain rfl:m=0:=by omega
  simp only [go_sem,aQ hm1]
  subst h3
  refine done [900] _ [(1000,ro true b a1 e1)] ?_ (by simp only [go_sem]) rfl ⟨rfl,rfl⟩
  simp only [go_sem,di,bt]
  rw [fL (by rw [di];omega)]
  simp [pM,pP,vas]
 obtain ⟨m,rfl⟩:∃k,m=k+1:=⟨m - 1,by omega⟩
 have hw1:IntKind.i64.wrap ((l.length:Int)+1)=((l.length+1:Nat):Int):=by rw [wi (by omega) (by omega)];omega
 simp only [go_sem,aO hm1]
 refine ab (YL hb a1 e1 h1) ?_
 rw [aiX] at h3
 have hk2:=((tX b).oks 0 a1 e1 h1).1
 generalize i6 (gV b) 0 a1 e1=y at *
 obtain ⟨x,a2,e2⟩:=y
 simp only at h3 hk2 ⊢
 simp only [go_sem,happ,hw1]
 refine ⟨by omega,aG (m,l++[x],a2,e2) ⟨hk2,by simp;omega,by rw [h3];simp⟩ (show m<m+1 by omega) (Wk.of ?_ ?_)⟩
 ·simp only [go_sem];try simp
 ·simp only [go_sem];try simp [go_sem,d_]
def VI (x:Ft):AV:=.agg (rK x)
omit hb in
def ft2 (ps rs:List Int) (e:Int):Ft:=if e=0 then ⟨ps,rs⟩ else ⟨[],[]⟩
def KN (b:List UInt8):PS Ft:=pb (Qx b) fun ps=>pb (Qx b) fun rs=>fun a e=>(ft2 ps rs e,a,e)
def pFt (b:List UInt8):PS Ft:=pb (fV b) fun x=>pb (Js 4 (x≠96)) fun _=>KN b
omit hb in
theorem acI:dy b (KN b) (fun a=>eU (mM gV 8 b a) fun ps k1=>eU (mM gV 8 b k1) fun rs k2=>.ok (⟨ps,rs⟩,k2)) :=
 (BS b).bd (r:=fun ps k1=>eU (mM gV 8 b k1) fun rs k2=>.ok ((⟨ps,rs⟩:Ft),k2)) fun ps=>(BS b).bd fun rs=>fun a e ha=>⟨ha,fun _=>rfl,fun he=>.inl ⟨_,a,rfl,by subst he;rfl⟩⟩
omit hb in
theorem T7:dy b (pFt b) (W7 b):=by
 have h:=EX.bd (b:=b) (u:=fun x=>pb (Js 4 (x≠96)) fun _=>KN b) (r:=fun x k=>if x≠96 then .error (4,k) else eU (mM gV 8 b k) fun ps k1=>eU (mM gV 8 b k1) fun rs k2=>.ok ((⟨ps,rs⟩:Ft),k2)) fun x=>dy.fi (by decide) acI
 refine h.congr fun a=>?_
 unfold W7
 congr 1
 funext x k
 by_cases hx:x=96
 ·rw [ah (fun h=>h hx),ap hx]
 ·rw [ap hx,ah hx]
theorem ai2:RP pU [] b (pFt b) VI:=by
 intro a e ha
 refine bF pD ?_
 simp only [go_sem,pD]
 refine ab (Ai hb a e ha) ?_
 have hR:pFt b a e=KN b (fV b a e).2.1 (if (fV b a e).1≠96∧(fV b a e).2.2=0 then 4 else (fV b a e).2.2):=by
  show KN b (Js 4 ((fV b a e).1≠96) (fV b a e).2.1 (fV b a e).2.2).2.1 (Js 4 ((fV b a e).1≠96) (fV b a e).2.1 (fV b a e).2.2).2.2=_
  unfold Js pI pF pP
  by_cases h1:(fV b a e).1≠96
  ·by_cases h2:(fV b a e).2.2=0
   ·simp [h1,h2]
   ·simp [h1,h2]
  ·simp [h1]
 have h2:=(EX a e ha).1
 generalize pFt b a e=R at *
 generalize fV b a e=y at *
 obtain ⟨x,a2,e2⟩:=y
 simp only at h2 hR ⊢
 simp only [go_sem]
 refine ab (aP true b a2 e2) ?_
 by_cases he:e2=0
 rotate_left
 ·simp only [go_sem,pp he]
  rw [ah (fun h=>he h.2)] at hR
  refine ab (Aj hb a2 e2 h2) ?_
  have k3:=(BS b a2 e2 h2).1
  unfold KN at hR
  simp only [pb,pP] at hR
  generalize Qx b a2 e2=y at *
  obtain ⟨ps,a3,e3⟩:=y
  simp only at k3 hR ⊢
  simp only [go_sem,vas]
  refine ab (Aj hb a3 e3 k3) ?_
  have k4:=(BS b a3 e3 k3).1
  generalize Qx b a3 e3=y at *
  obtain ⟨rs,a4,e4⟩:=y
  simp only at k4 hR ⊢
  simp only [go_sem,vas]
  refine ab (aP true b a4 e4) ?_
  subst hR
  by_cases he4:e4=0
  ·subst he4
   simp only [go_sem]
   exact done [] _ [(1000,ro true b a4 0)] (by simp only [go_sem,VI,rK,ft2]) (by simp only [go_sem]) rfl ⟨rfl,rfl⟩
  ·have hz:ft2 ps rs e4 =⟨[],[]⟩:=ah he4
   simp only [go_sem,vj he4,hz]
   exact bP (Wk.nlm _ 2 (r':=rK ⟨[],[]⟩) rfl ⟨.inr ⟨rfl,.inl ⟨1,rfl⟩⟩,.inr ⟨rfl,.inl ⟨1,rfl⟩⟩,trivial⟩) [] (VI ⟨[],[]⟩) [(1000,ro true b a4 e4)] (by simp only [go_sem,VI,rK]) (by simp only [go_sem]) rfl ⟨rfl,rfl⟩
 have ht:(e2==0)=true:=beq_iff_eq.2 he
 by_cases hx:x=96
 ·subst hx
  have hd:((((96:UInt8).toNat:Nat):Int) != 96)=false:=rfl
  rw [ah (fun h=>h.1 rfl)] at hR
  simp only [go_sem,ht,hd]
  refine ab (Aj hb a2 e2 h2) ?_
  have k3:=(BS b a2 e2 h2).1
  unfold KN at hR
  simp only [pb,pP] at hR
  generalize Qx b a2 e2=y at *
  obtain ⟨ps,a3,e3⟩:=y
  simp only at k3 hR ⊢
  simp only [go_sem,vas]
  refine ab (Aj hb a3 e3 k3) ?_
  have k4:=(BS b a3 e3 k3).1
  generalize Qx b a3 e3=y at *
  obtain ⟨rs,a4,e4⟩:=y
  simp only at k4 hR ⊢
  simp only [go_sem,vas]
  refine ab (aP true b a4 e4) ?_
  subst hR
  by_cases he4:e4=0
  ·subst he4
   simp only [go_sem]
   exact done [] _ [(1000,ro true b a4 0)] (by simp only [go_sem,VI,rK,ft2]) (by simp only [go_sem]) rfl ⟨rfl,rfl⟩
  ·have hz:ft2 ps rs e4 =⟨[],[]⟩:=ah he4
   simp only [go_sem,vj he4,hz]
   exact bP (Wk.nlm _ 2 (r':=rK ⟨[],[]⟩) rfl ⟨.inr ⟨rfl,.inl ⟨1,rfl⟩⟩,.inr ⟨rfl,.inl ⟨1,rfl⟩⟩,trivial⟩) [] (VI ⟨[],[]⟩) [(1000,ro true b a4 e4)] (by simp only [go_sem,VI,rK]) (by simp only [go_sem]) rfl ⟨rfl,rfl⟩
 ·have hd:((x.toNat:Int) != 96)=true:=by
   refine bne_iff_ne.2 fun h=>hx (UInt8.toNat_inj.1 ?_)
   have e:(96:UInt8).toNat=96:=rfl
   omega
  have cf:=Fd true b a2 e2 4
  have h4:(if (true&&e2==0)=true then (4:Int) else e2)=if x≠96∧e2=0 then 4 else e2:=by
   rw [ap (show (true&&e2==0)=true from ht),ap ⟨hx,he⟩]
  rw [h4] at cf
  simp only [go_sem,ht,hd]
  obtain ⟨e2,h42⟩:∃k:Int,(if x≠96∧e2=0 then (4:Int) else e2)=k:=⟨_,rfl⟩
  rw [h42] at cf hR
  refine aA (cf) ?_
  refine ab (Aj hb a2 e2 h2) ?_
  have k3:=(BS b a2 e2 h2).1
  unfold KN at hR
  simp only [pb,pP] at hR
  generalize Qx b a2 e2=y at *
  obtain ⟨ps,a3,e3⟩:=y
  simp only at k3 hR ⊢
  simp only [go_sem,vas]
  refine ab (Aj hb a3 e3 k3) ?_
  have k4:=(BS b a3 e3 k3).1
  generalize Qx b a3 e3=y at *
  obtain ⟨rs,a4,e4⟩:=y
  simp only at k4 hR ⊢
  simp only [go_sem,vas]
  refine ab (aP true b a4 e4) ?_
  subst hR
  by_cases he4:e4=0
  ·subst he4
   simp only [go_sem]
   exact done [] _ [(1000,ro true b a4 0)] (by simp only [go_sem,VI,rK,ft2]) (by simp only [go_sem]) rfl ⟨rfl,rfl⟩
  ·have hz:ft2 ps rs e4 =⟨[],[]⟩:=ah he4
   simp only [go_sem,vj he4,hz]
   exact bP (Wk.nlm _ 2 (r':=rK ⟨[],[]⟩) rfl ⟨.inr ⟨rfl,.inl ⟨1,rfl⟩⟩,.inr ⟨rfl,.inl ⟨1,rfl⟩⟩,trivial⟩) [] (VI ⟨[],[]⟩) [(1000,ro true b a4 e4)] (by simp only [go_sem,VI,rK]) (by simp only [go_sem]) rfl ⟨rfl,rfl⟩
end
section
open Go Go.Mw
def pGd (b:List UInt8):PS Gd:=pb (i6 (GW b) xO) fun g=>pb (i6 (gX b) []) fun l=>pP ⟨g,l⟩
theorem H2 (b:List UInt8):ZK b (GW b):=fun a ha=>ahy ha
theorem H7 (b:List UInt8):ZK b (H6 b):=fun a ha=>ahA ha
theorem H4 (b:List UInt8):ZK b (FI b):=fun a ha=>VC ha
theorem jp (b:List UInt8):ZK b (gX b):=fun a ha=>ajX ha
theorem aaj (b:List UInt8):dy b (pGd b) (ZZ b):=((H2 b).oks xO).bd fun g=>((jp b).oks []).bd fun l=>dy.pure (b:=b) (⟨g,l⟩:Gd)
def YC (b:List UInt8):PS Ex:=pb (YG b) fun n=>pb (fV b) fun x=>pb (Js 4 (x>3)) fun _=>pb (sY b) fun i=>pP ⟨n,(x.toNat:Int),i⟩
theorem aai (b:List UInt8):dy b (YC b) (ZY b):=Ha.bd fun n=>EX.bd fun x=>dy.fi (by decide) (rW.bd fun i=>dy.pure (b:=b) (⟨n,(x.toNat:Int),i⟩:Ex))
def Lq:Lm:=⟨0,0,false⟩
def YD (b:List UInt8):PS Im:=pb (YG b) fun m=>pb (YG b) fun n=>pb (fV b) fun x =>
 pI (x=0) (pb (sY b) fun f=>pP ⟨m,n,0,f,0,Lq,Lq,xO⟩) <|
 pI (x=1) (pb (i6 (H6 b) Ld) fun t=>pP ⟨m,n,1,0,t.e,t.l,Lq,xO⟩) <|
 pI (x=2) (pb (i6 (FI b) Lq) fun l=>pP ⟨m,n,2,0,0,Lq,l,xO⟩) <|
 pI (x=3) (pb (i6 (GW b) xO) fun g=>pP ⟨m,n,3,0,0,Lq,Lq,g⟩) <| pF 4 ⟨m,n,(x.toNat:Int),0,0,Lq,Lq,xO⟩
theorem aak (b:List UInt8):dy b (YD b) (Z0 b):=Ha.bd fun m=>Ha.bd fun n=>EX.bd fun x =>
 (rW.bd fun f=>dy.pure _).ite <| (((H7 b).oks Ld).bd fun t=>dy.pure _).ite <| (((H4 b).oks Lq).bd fun l=>dy.pure _).ite <| (((H2 b).oks xO).bd fun g=>dy.pure _).ite (dy.fail (by decide) _)
variable {b:List UInt8} (hb:b.length<1000000000)
include hb
attribute [local go_sem] di ro wa
theorem ai3:RP nC [] b (pGd b) (fun x=>.agg (yd x)):=by
 intro a e ha
 refine bF nr ?_
 simp only [go_sem,nr]
 refine ab (agt hb a e ha) ?_
 have k1:=((H2 b).oks xO a e ha).1
 have hR:pGd b a e=(⟨(i6 (GW b) xO a e).1,(i6 (gX b) [] (i6 (GW b) xO a e).2.1 (i6 (GW b) xO a e).2.2).1⟩,(i6 (gX b) [] (i6 (GW b) xO a e).2.1 (i6 (GW b) xO a e).2.2).2):=rfl
 generalize pGd b a e=R at *
 generalize i6 (GW b) xO a e=y at *
 obtain ⟨g,a1,e1⟩:=y
 simp only at k1 hR ⊢
 simp only [go_sem,So,NB]
 refine ab (VP hb a1 e1 k1) ?_
 have k2:=((jp b).oks [] a1 e1 k1).1
 generalize i6 (gX b) [] a1 e1=y at *
 obtain ⟨l,a2,e2⟩:=y
 simp only at k2 hR ⊢
 subst hR
 simp only [go_sem,exs]
 exact done [] _ [(1000,ro true b a2 e2)] (by simp only [go_sem,yd]) (by simp only [go_sem]) rfl ⟨rfl,rfl⟩
omit hb in
theorem Gb (a:Nat) (e c:Int):RM gR [.int .i64 c] true b a e (.tup []) a (if e=0 then c else e):=by
 have h:=Fd true b a e c
 by_cases he:e=0
 ·subst he;exact h
 ·rw [ah he]
  rw [pp he] at h
  exact h
omit hb in
theorem ahp (x:UInt8):decide ((x.toNat:Int)>3)=decide (x>3):=by
 have:x>3↔(x.toNat:Int)>3:=by
  have e:(3:UInt8).toNat=3:=rfl
  rw [gt_iff_lt,UInt8.lt_iff_toNat_lt]
  omega
 exact decide_eq_decide.2 this.symm
theorem ai1:RP nA [] b (YC b) (fun x=>.agg (xN x)):=by
 intro a e ha
 refine bF nq ?_
 simp only [go_sem,nq]
 refine ab (adb hb a e ha) ?_
 have k1:=(Ha (b:=b) a e ha).1
 have hR:YC b a e=YC b a e:=rfl
 conv at hR=>rhs;simp only [YC,pb,pP,Js,pI,pF]
 generalize YC b a e=R at *
 generalize YG b a e=y at *
 obtain ⟨nm,a1,e1⟩:=y
 simp only at k1 hR ⊢
 simp only [go_sem]
 refine ab (Ai hb a1 e1 k1) ?_
 have k3:=(EX (b:=b) a1 e1 k1).1
 generalize fV b a1 e1=y at *
 obtain ⟨x,a3,e3⟩:=y
 simp only at k3 hR ⊢
 have w:=wi (n:=(x.toNat:Int)) (by omega) (by have:=UInt8.toNat_lt x;omega)
 by_cases hx:x>3
 ·simp only [ap hx] at hR
  have d:=(ahp x).trans (aO hx)
  simp only [go_sem,w,d]
  have cf:=Gb (b:=b) a3 e3 4
  obtain ⟨e3,h42⟩:∃k:Int,(if e3=0 then (4:Int) else e3)=k:=⟨_,rfl⟩
  rw [h42] at cf hR
  refine aA (cf) ?_
  refine ab (N_ hb a3 e3 k3) ?_
  generalize sY b a3 e3=y at *
  obtain ⟨i,a4,e4⟩:=y
  simp only at hR ⊢
  subst hR
  simp only [go_sem]
  exact done [] _ [(1000,ro true b a4 e4)] (by simp only [go_sem,xN]) (by simp only [go_sem]) rfl ⟨rfl,rfl⟩
 ·simp only [ah hx] at hR
  have d:=(ahp x).trans (aQ hx)
  simp only [go_sem,w,d]
  refine ab (N_ hb a3 e3 k3) ?_
  generalize sY b a3 e3=y at *
  obtain ⟨i,a4,e4⟩:=y
  simp only at hR ⊢
  subst hR
  simp only [go_sem]
  exact done [] _ [(1000,ro true b a4 e4)] (by simp only [go_sem,xN]) (by simp only [go_sem]) rfl ⟨rfl,rfl⟩
end
section
open Go Go.Mw
theorem ahq (x:UInt8):x=0∨x=1∨x=2∨x=3∨(x≠0∧x≠1∧x≠2∧x≠3∧((x.toNat:Int)==0)=false∧((x.toNat:Int)==1)=false∧((x.toNat:Int)==2)=false∧((x.toNat:Int)==3)=false):=by
 by_cases h0:x=0
 ·exact .inl h0
 by_cases h1:x=1
 ·exact .inr (.inl h1)
 by_cases h2:x=2
 ·exact .inr (.inr (.inl h2))
 by_cases h3:x=3
 ·exact .inr (.inr (.inr (.inl h3)))
 have q:∀y:UInt8,x≠y→((x.toNat:Int)==(y.toNat:Int))=false:=fun y h=>gy.2 fun e=>h (UInt8.toNat_inj.1 (by omega))
 exact .inr (.inr (.inr (.inr ⟨h0,h1,h2,h3,q 0 h0,q 1 h1,q 2 h2,q 3 h3⟩)))
variable {b:List UInt8} (hb:b.length<1000000000)
include hb
attribute [local go_sem] di ro wa
theorem ai4:RP nD [] b (YD b) (fun x=>.agg (tg x)):=by
 intro a e ha
 refine bF nu ?_
 simp only [go_sem,nu]
 refine ab (adb hb a e ha) ?_
 have k1:=(Ha (b:=b) a e ha).1
 have hR:YD b a e=YD b a e:=rfl
 conv at hR=>rhs;simp only [YD,pb,pP,pI,pF]
 generalize YD b a e=R at *
 generalize YG b a e=y at *
 obtain ⟨nm,a1,e1⟩:=y
 simp only at k1 hR ⊢
 simp only [go_sem]
 refine ab (adb hb a1 e1 k1) ?_
 have k2:=(Ha (b:=b) a1 e1 k1).1
 generalize YG b a1 e1=y at *
 obtain ⟨nn,a2,e2⟩:=y
 simp only at k2 hR ⊢
 simp only [go_sem]
 refine ab (Ai hb a2 e2 k2) ?_
 have k3:=(EX (b:=b) a2 e2 k2).1
 generalize fV b a2 e2=y at *
 obtain ⟨x,a3,e3⟩:=y
 simp only at k3 hR ⊢
 have w:=wi (n:=(x.toNat:Int)) (by omega) (by have:=UInt8.toNat_lt x;omega)
 rcases ahq x with rfl | rfl | rfl | rfl | ⟨q0,q1,q2,q3,p0,p1,p2,p3⟩
 ·simp only [ap] at hR
  simp only [go_sem,show (((0:UInt8).toNat:Nat):Int)=0 from rfl,show IntKind.i64.wrap 0=0 from rfl]
  refine ab (N_ hb a3 e3 k3) ?_
  generalize sY b a3 e3=y at *
  obtain ⟨i,a4,e4⟩:=y
  simp only at hR ⊢
  subst hR
  simp only [go_sem]
  exact done [] _ [(1000,ro true b a4 e4)] (by simp only [go_sem,tg,Lq,xO]) (by simp only [go_sem]) rfl ⟨rfl,rfl⟩
 ·simp only [ap,ah (show ¬(1:UInt8)=0 by decide)] at hR
  simp only [go_sem,show (((1:UInt8).toNat:Nat):Int)=1 from rfl,show IntKind.i64.wrap 1=1 from rfl,show ((1:Int)==0)=false from rfl]
  refine ab (agw hb a3 e3 k3) ?_
  generalize i6 (H6 b) Ld a3 e3=y at *
  obtain ⟨i,a4,e4⟩:=y
  simp only at hR ⊢
  subst hR
  simp only [go_sem,Zx,xR]
  exact done [] _ [(1000,ro true b a4 e4)] (by simp only [go_sem,tg,Lq,xO]) (by simp only [go_sem]) rfl ⟨rfl,rfl⟩
 ·simp only [ap,ah (show ¬(2:UInt8)=0 by decide),ah (show ¬(2:UInt8)=1 by decide)] at hR
  simp only [go_sem,show (((2:UInt8).toNat:Nat):Int)=2 from rfl,show IntKind.i64.wrap 2=2 from rfl,show ((2:Int)==0)=false from rfl,show ((2:Int)==1)=false from rfl]
  refine ab (PY hb a3 e3 k3) ?_
  have hz:i6 (FI b) Lq=i6 (FI b) ⟨0,0,false⟩:=rfl
  rw [hz] at hR
  generalize i6 (FI b) ⟨0,0,false⟩ a3 e3=y at *
  obtain ⟨i,a4,e4⟩:=y
  simp only at hR ⊢
  subst hR
  simp only [go_sem,Jn,ry]
  exact done [] _ [(1000,ro true b a4 e4)] (by simp only [go_sem,tg,Lq,xO]) (by simp only [go_sem]) rfl ⟨rfl,rfl⟩
 ·simp only [ap,ah (show ¬(3:UInt8)=0 by decide),ah (show ¬(3:UInt8)=1 by decide),ah (show ¬(3:UInt8)=2 by decide)] at hR
  simp only [go_sem,show (((3:UInt8).toNat:Nat):Int)=3 from rfl,show IntKind.i64.wrap 3=3 from rfl,show ((3:Int)==0)=false from rfl,show ((3:Int)==1)=false from rfl,show ((3:Int)==2)=false from rfl]
  refine ab (agt hb a3 e3 k3) ?_
  generalize i6 (GW b) xO a3 e3=y at *
  obtain ⟨i,a4,e4⟩:=y
  simp only at hR ⊢
  subst hR
  simp only [go_sem,So,NB]
  exact done [] _ [(1000,ro true b a4 e4)] (by simp only [go_sem,tg,Lq,xO]) (by simp only [go_sem]) rfl ⟨rfl,rfl⟩
 ·simp only [ah q0,ah q1,ah q2,ah q3] at hR
  simp only [go_sem,w,p0,p1,p2,p3]
  refine ab (Gb a3 e3 4) ?_
  generalize (if e3=0 then (4:Int) else e3)=e4 at *
  subst hR
  simp only [go_sem]
  exact done [] _ [(1000,ro true b a3 e4)] (by simp only [go_sem,tg,Lq,xO]) (by simp only [go_sem]) rfl ⟨rfl,rfl⟩
end
section
open Go Go.Mw
theorem Dn {α β γ:Type} (r:Rd α) (f:α→Nat→Rd β) (g:β→Nat→Rd γ):eU (eU r f) g=eU r fun x k=>eU (f x k) g:=by cases r<;>rfl
def Ck (b:List UInt8) (n:Nat):PS (List UInt8):=fun a e=>((bh (e==0) b a e (n:Nat)).1.getD [],(bh (e==0) b a e (n:Nat)).2)
theorem T9 (b:List UInt8) (n:Nat):dy b (Ck b n) (fun a=>if n>b.length - a then .error (3,a) else .ok ((b.drop a).take n,a+n)):=by
 intro a e ha
 refine ⟨I0 ha,fun he=>?_,fun he=>?_⟩
 ·unfold Ck bh
  rw [pp he,ah (by decide)]
 ·subst he
  unfold Ck bh
  rw [ap (show ((0:Int)==0)=true from rfl),ah (by omega)]
  by_cases h:n>b.length - a
  ·rw [ap (by omega)]
   exact .inr ⟨3,a,ap h,by decide,rfl⟩
  ·rw [ah (by omega),ce]
   exact .inl ⟨_,_,ah h,rfl⟩
def pDq (b:List UInt8) (n:Nat):PS (Int×Int×List aZ) :=
 pI (n=0) (pb (i6 (gX b) []) fun o=>pP (0,0,o)) <| pI (n=1) (pP (1,0,[])) <| pI (n=2) (pb (sY b) fun m=>pb (i6 (gX b) []) fun o=>pP (0,(m:Int),o)) <| pF 4 (0,0,[])
def YA (b:List UInt8):PS Da:=pb (sY b) fun n=>pb (pDq b n) fun q=>pb (pC b 4096) fun n2=>pb (Ck b n2) fun l=>pP ⟨q.1,q.2.1,q.2.2,l⟩
theorem agc (b:List UInt8) (n:Nat):dy b (pDq b n) (fun k=>if n=0 then eU (gX b k) fun o k=>.ok ((0,0,o),k) else if n=1 then .ok ((1,0,[]),k) else if n=2 then eU (gU b k) fun m k=>eU (gX b k) fun o k=>.ok ((0,(m:Int),o),k) else .error (4,k)) :=
 (((jp b).oks []).bd fun o=>dy.pure _).ite <| (dy.pure _).ite <| (rW.bd fun m=>((jp b).oks []).bd fun o=>dy.pure _).ite (dy.fail (by decide) _)
theorem aag (b:List UInt8):dy b (YA b) (W0 b):=by
 have h:=rW.bd (b:=b) fun n=>(agc b n).bd fun q=>(Ga 4096).bd fun n2=>(T9 b n2).bd fun l=>dy.pure (b:=b) (⟨q.1,q.2.1,q.2.2,l⟩:Da)
 refine h.congr fun a=>?_
 unfold W0
 congr 1
 funext n k
 by_cases h0:n=0
 ·subst h0
  simp only [ap,Dn,aM,ah (show ¬(0:Nat)>2 by decide),ah (show ¬(0:Nat)=2 by decide),ah (show ¬(0:Nat)=1 by decide),HH]
 by_cases h1:n=1
 ·subst h1
  simp only [ap,Dn,aM,ah (show ¬(1:Nat)>2 by decide),ah (show ¬(1:Nat)=2 by decide),ah (show ¬(1:Nat)=0 by decide),HH]
 by_cases h2:n=2
 ·subst h2
  simp only [ap,Dn,aM,ah (show ¬(2:Nat)>2 by decide),ah (show ¬(2:Nat)=1 by decide),ah (show ¬(2:Nat)=0 by decide),HH]
 ·rw [ah h0,ah h1,ah h2,ap (by omega)]
  rfl
variable {b:List UInt8} (hb:b.length<1000000000)
include hb
attribute [local go_sem] di ro wa
theorem aiZ:RP pS [] b (YA b) (fun x=>.agg (lO x)):=by
 intro a e ha
 refine bF pA ?_
 simp only [go_sem,pA]
 refine ab (N_ hb a e ha) ?_
 have k1:=(rW (b:=b) a e ha).1
 have hR:YA b a e=YA b a e:=rfl
 conv at hR=>rhs;simp only [YA,pDq,pb,pP,pI,pF]
 generalize YA b a e=R at *
 generalize sY b a e=y at *
 obtain ⟨n,a1,e1⟩:=y
 simp only at k1 hR ⊢
 by_cases h0:n=0
 ·subst h0
  simp only [ap] at hR
  simp only [go_sem,show ((((0:Nat):Int))==0)=true from rfl]
  refine ab (VP hb a1 e1 k1) ?_
  have k3:=((jp b).oks [] a1 e1 k1).1
  generalize i6 (gX b) [] a1 e1=y at *
  obtain ⟨ol,a3,e3⟩:=y
  simp only at k3 hR ⊢
  simp only [go_sem,exs]
  try simp only [go_sem]
  refine ab (YK hb 4096 a3 e3 k3) ?_
  have k4:=((Ga 4096) a3 e3 k3).1
  have hN:=yD (b:=b) (most:=4096) (a:=a3) (e:=e3)
  generalize pC b 4096 a3 e3=y at *
  obtain ⟨n2,a4,e4⟩:=y
  simp only at k4 hN hR ⊢
  simp only [go_sem]
  refine ab (uF true b a4 e4 n2 k4 hb ⟨by omega,by omega⟩) ?_
  rw [bU]
  unfold Ck at hR
  generalize bh (e4==0) b a4 e4 (n2:Nat)=y at *
  obtain ⟨l,a5,e5⟩:=y
  simp only at hR ⊢
  subst hR
  cases l with
  | none =>
   simp only [go_sem]
   exact bP (Wk.nlm _ 2 (r':=lO ⟨0,0,ol,[]⟩) rfl ⟨.inl rfl,.inl rfl,(by first | exact .inl rfl | exact .inr ⟨rfl,.inl ⟨_,rfl⟩⟩),.inr ⟨rfl,.inl ⟨_,rfl⟩⟩,trivial⟩) [] (.agg (lO ⟨0,0,ol,[]⟩)) [(1000,ro true b a5 e5)] (by simp only [go_sem,lO]) (by simp only [go_sem]) rfl ⟨rfl,rfl⟩
  | some l =>
   simp only [go_sem]
   exact bP (Wk.nlm _ 2 (r':=lO ⟨0,0,ol,l⟩) rfl ⟨.inl rfl,.inl rfl,(by first | exact .inl rfl | exact .inr ⟨rfl,.inl ⟨_,rfl⟩⟩),.inl rfl,trivial⟩) [] (.agg (lO ⟨0,0,ol,l⟩)) [(1000,ro true b a5 e5)] (by simp only [go_sem,lO]) (by simp only [go_sem]) rfl ⟨rfl,rfl⟩
 by_cases h1:n=1
 ·subst h1
  simp only [ap,ah (show ¬(1:Nat)=0 by decide)] at hR
  simp only [go_sem,show ((((1:Nat):Int))==0)=false from rfl,show ((((1:Nat):Int))==1)=true from rfl]
  have k3:=k1
  obtain ⟨a3,ha3⟩:∃k,a1=k:=⟨a1,rfl⟩
  obtain ⟨e3,he3⟩:∃k,e1=k:=⟨e1,rfl⟩
  rw [ha3] at k3
  rw [ha3,he3] at hR ⊢
  try simp only [go_sem]
  refine ab (YK hb 4096 a3 e3 k3) ?_
  have k4:=((Ga 4096) a3 e3 k3).1
  have hN:=yD (b:=b) (most:=4096) (a:=a3) (e:=e3)
  generalize pC b 4096 a3 e3=y at *
  obtain ⟨n2,a4,e4⟩:=y
  simp only at k4 hN hR ⊢
  simp only [go_sem]
  refine ab (uF true b a4 e4 n2 k4 hb ⟨by omega,by omega⟩) ?_
  rw [bU]
  unfold Ck at hR
  generalize bh (e4==0) b a4 e4 (n2:Nat)=y at *
  obtain ⟨l,a5,e5⟩:=y
  simp only at hR ⊢
  subst hR
  cases l with
  | none =>
   simp only [go_sem]
   exact bP (Wk.nlm _ 2 (r':=lO ⟨1,0,[],[]⟩) rfl ⟨.inl rfl,.inl rfl,(by first | exact .inl rfl | exact .inr ⟨rfl,.inl ⟨_,rfl⟩⟩),.inr ⟨rfl,.inl ⟨_,rfl⟩⟩,trivial⟩) [] (.agg (lO ⟨1,0,[],[]⟩)) [(1000,ro true b a5 e5)] (by simp only [go_sem,lO]) (by simp only [go_sem]) rfl ⟨rfl,rfl⟩
  | some l =>
   simp only [go_sem]
   exact bP (Wk.nlm _ 2 (r':=lO ⟨1,0,[],l⟩) rfl ⟨.inl rfl,.inl rfl,(by first | exact .inl rfl | exact .inr ⟨rfl,.inl ⟨_,rfl⟩⟩),.inl rfl,trivial⟩) [] (.agg (lO ⟨1,0,[],l⟩)) [(1000,ro true b a5 e5)] (by simp only [go_sem,lO]) (by simp only [go_sem]) rfl ⟨rfl,rfl⟩
 by_cases h2:n=2
 ·subst h2
  simp only [ap,ah (show ¬(2:Nat)=0 by decide),ah (show ¬(2:Nat)=1 by decide)] at hR
  simp only [go_sem,show ((((2:Nat):Int))==0)=false from rfl,show ((((2:Nat):Int))==1)=false from rfl,show ((((2:Nat):Int))==2)=true from rfl]
  refine ab (N_ hb a1 e1 k1) ?_
  have k2:=(rW (b:=b) a1 e1 k1).1
  generalize sY b a1 e1=y at *
  obtain ⟨m,a2,e2⟩:=y
  simp only at k2 hR ⊢
  simp only [go_sem]
  refine ab (VP hb a2 e2 k2) ?_
  have k3:=((jp b).oks [] a2 e2 k2).1
  generalize i6 (gX b) [] a2 e2=y at *
  obtain ⟨ol,a3,e3⟩:=y
  simp only at k3 hR ⊢
  simp only [go_sem,exs]
  try simp only [go_sem]
  refine ab (YK hb 4096 a3 e3 k3) ?_
  have k4:=((Ga 4096) a3 e3 k3).1
  have hN:=yD (b:=b) (most:=4096) (a:=a3) (e:=e3)
  generalize pC b 4096 a3 e3=y at *
  obtain ⟨n2,a4,e4⟩:=y
  simp only at k4 hN hR ⊢
  simp only [go_sem]
  refine ab (uF true b a4 e4 n2 k4 hb ⟨by omega,by omega⟩) ?_
  rw [bU]
  unfold Ck at hR
  generalize bh (e4==0) b a4 e4 (n2:Nat)=y at *
  obtain ⟨l,a5,e5⟩:=y
  simp only at hR ⊢
  subst hR
  cases l with
  | none =>
   simp only [go_sem]
   exact bP (Wk.nlm _ 2 (r':=lO ⟨0,(m:Int),ol,[]⟩) rfl ⟨.inl rfl,.inl rfl,(by first | exact .inl rfl | exact .inr ⟨rfl,.inl ⟨_,rfl⟩⟩),.inr ⟨rfl,.inl ⟨_,rfl⟩⟩,trivial⟩) [] (.agg (lO ⟨0,(m:Int),ol,[]⟩)) [(1000,ro true b a5 e5)] (by simp only [go_sem,lO]) (by simp only [go_sem]) rfl ⟨rfl,rfl⟩
  | some l =>
   simp only [go_sem]
   exact bP (Wk.nlm _ 2 (r':=lO ⟨0,(m:Int),ol,l⟩) rfl ⟨.inl rfl,.inl rfl,(by first | exact .inl rfl | exact .inr ⟨rfl,.inl ⟨_,rfl⟩⟩),.inl rfl,trivial⟩) [] (.agg (lO ⟨0,(m:Int),ol,l⟩)) [(1000,ro true b a5 e5)] (by simp only [go_sem,lO]) (by simp only [go_sem]) rfl ⟨rfl,rfl⟩
 simp only [ah h0,ah h1,ah h2] at hR
 have p0:(((n:Int))==0)=false:=gy.2 (by omega)
 have p1:(((n:Int))==1)=false:=gy.2 (by omega)
 have p2:(((n:Int))==2)=false:=gy.2 (by omega)
 simp only [go_sem,p0,p1,p2]
 have cf:=Gb (b:=b) a1 e1 4
 generalize (if e1=0 then (4:Int) else e1)=e3 at *
 refine ab (cf) ?_
 have k3:=k1
 obtain ⟨a3,ha3⟩:∃k,a1=k:=⟨a1,rfl⟩
 rw [ha3] at k3
 rw [ha3] at hR ⊢
 try simp only [go_sem]
 refine ab (YK hb 4096 a3 e3 k3) ?_
 have k4:=((Ga 4096) a3 e3 k3).1
 have hN:=yD (b:=b) (most:=4096) (a:=a3) (e:=e3)
 generalize pC b 4096 a3 e3=y at *
 obtain ⟨n2,a4,e4⟩:=y
 simp only at k4 hN hR ⊢
 simp only [go_sem]
 refine ab (uF true b a4 e4 n2 k4 hb ⟨by omega,by omega⟩) ?_
 rw [bU]
 unfold Ck at hR
 generalize bh (e4==0) b a4 e4 (n2:Nat)=y at *
 obtain ⟨l,a5,e5⟩:=y
 simp only at hR ⊢
 subst hR
 cases l with
 | none =>
  simp only [go_sem]
  exact bP (Wk.nlm _ 2 (r':=lO ⟨0,0,[],[]⟩) rfl ⟨.inl rfl,.inl rfl,(by first | exact .inl rfl | exact .inr ⟨rfl,.inl ⟨_,rfl⟩⟩),.inr ⟨rfl,.inl ⟨_,rfl⟩⟩,trivial⟩) [] (.agg (lO ⟨0,0,[],[]⟩)) [(1000,ro true b a5 e5)] (by simp only [go_sem,lO]) (by simp only [go_sem]) rfl ⟨rfl,rfl⟩
 | some l =>
  simp only [go_sem]
  exact bP (Wk.nlm _ 2 (r':=lO ⟨0,0,[],l⟩) rfl ⟨.inl rfl,.inl rfl,(by first | exact .inl rfl | exact .inr ⟨rfl,.inl ⟨_,rfl⟩⟩),.inl rfl,trivial⟩) [] (.agg (lO ⟨0,0,[],l⟩)) [(1000,ro true b a5 e5)] (by simp only [go_sem,lO]) (by simp only [go_sem]) rfl ⟨rfl,rfl⟩
end
section
open Go Go.Mw
def TR:List (List AV)→List (List AV)→Prop
 | [],[]=>True
 | x :: l,y :: m=>nlr x y∧TR l m
 | _,_=>False
theorem yy:∀{l m:List (List AV)},TR l m→m.length=l.length
 | [],[],_=>rfl
 | _ :: _,_ :: _,h=>by simp [yy h.2]
 | [],_ :: _,h=>h.elim
 | _ :: _,[],h=>h.elim
theorem ER:∀{l m:List (List AV)},TR l m→∀{j:Nat} {y:List AV},m[j]? = some y→∃x,l[j]? = some x∧nlr x y
 | [],[],_,j,y,hy=>by simp at hy
 | x :: l,z :: m,h,0,y,hy=>by simp at hy;subst hy;exact ⟨x,rfl,h.1⟩
 | x :: l,z :: m,h,j+1,y,hy=>by simpa using ER h.2 (j:=j) (by simpa using hy)
 | [],_ :: _,h,_,_,_=>h.elim
 | _ :: _,[],h,_,_,_=>h.elim
theorem Wk.nla (s:St) (i:Nat) {t:TypeId} {st:Nat} {rs rs':List (List AV)} (hi:ae s.heap i=some ⟨t,st,rs,false⟩) (hr:TR rs rs'):Wk s ⟨s.env,(i,⟨t,st,rs',false⟩) :: s.heap⟩:=by
 rintro c a w ⟨bl,hs⟩
 have hm:∀b,bH bl c.MF (ae ((i,⟨t,st,rs',false⟩) :: s.heap)) b↔bH bl c.MF (ae s.heap) b:=bH.congr fun j=>by
  simp only [ae]
  split
  ·rename_i h;subst h;rw [hi];rfl
  ·rfl
 have ht:=Tr.of_iff (w:=w) fun b=>(hm b)
 refine ⟨bl,hs.defers,hs.size,fun j=>(hs.env j).tr ht (fun _ _=>rfl),⟨fun j o hj=>?_,fun j j' o o' b h1 h2=>?_⟩,hs.step,fun j o b h1=>?_,hs.stab,hs.mf⟩
 ·simp only [ae] at hj
  split at hj
  ·rename_i hij
   subst hij
   cases hj
   rcases hs.heap.1 i _ hi with hn | ⟨b,g1,⟨gk,c1,fr,g2,g3,g4,g5,g6,g7⟩ | hsp⟩
   ·have e:rs'=[]:=by
     have h1:=yy hr
     have h2:rs=[]:=hn.1
     rw [h2] at h1
     exact sc h1
    subst e
    exact .inl ⟨rfl,hn.2⟩
   rotate_left
   ·have e:rs'=[]:=by
     have h1:=yy hr
     have h2:rs=[]:=hsp.rows
     rw [h2] at h1
     exact sc h1
    subst e
    exact .inr ⟨b,g1,.inr ⟨rfl,rfl,hsp.free,hsp.rel⟩⟩
   ·refine .inr ⟨b,g1,.inl ⟨gk,c1,fr,g2,g3,g4,fun k q hq=>?_,by rw [yy hr];exact g6,fun k q u x hu hx=>?_⟩⟩
    ·obtain ⟨r0,h1,h2⟩:=ER hr hq
     rw [IL h2];exact g5 k r0 h1
    ·obtain ⟨r0,h1,h2⟩:=ER hr hu
     obtain ⟨x0,h3,h4⟩:=IK h2 hx
     obtain ⟨v,hv1,hv2⟩:=g7 k q r0 x0 h1 h3
     refine ⟨v,hv1,?_⟩
     have hv3:IRel (bH bl c.MF (ae s.heap)) w v x0:=hv2
     rcases h4 with h4 | ⟨h4,st',h5⟩
     ·subst h4
      exact hv3.tr ht.keep
     ·subst h4 h5
      exact (IRel.nl_sl hv3 st').tr ht.keep
  ·rcases hs.heap.1 j o hj with hn | ⟨b,g1,⟨gk,c1,fr,g2,g3,g4,g5,g6,g7⟩ | hsp⟩
   ·exact .inl hn
   rotate_left
   ·exact .inr ⟨b,g1,.inr hsp⟩
   ·refine .inr ⟨b,g1,.inl ⟨gk,c1,fr,g2,g3,g4,g5,g6,fun k q u x hu hx=>?_⟩⟩
    obtain ⟨v,hv1,hv2⟩:=g7 k q u x hu hx
    refine ⟨v,hv1,?_⟩
    cases hrec:o.isRec<;>simp only [hrec,B1] at hv2 ⊢
    ·exact hv2.tr ht.keep
    ·exact hv2.tr ht (fun _ _=>rfl)
 ·have key:∀{j:Nat} {o:ak},ae ((i,⟨t,st,rs',false⟩) :: s.heap) j=some o→∃o',ae s.heap j=some o':=fun {j o} hj=>by
   simp only [ae] at hj
   split at hj
   ·rename_i hij;subst hij;exact ⟨_,hi⟩
   ·exact ⟨_,hj⟩
  obtain ⟨p1,q1⟩:=key h1
  obtain ⟨p2,q2⟩:=key h2
  exact hs.heap.2 j j' p1 p2 b q1 q2
 ·simp only [ae] at h1
  split at h1
  ·rename_i hij;subst hij;exact hs.own i _ b hi
  ·exact hs.own j o b h1
def xQ (b:List UInt8) (n:Nat):PS (List aZ):=pI (n<4) (pb (sY b) fun k=>pP (KX k)) (i6 (gX b) [])
theorem aal (b:List UInt8) (n:Nat):dy b (xQ b n) (Z1 n b):=(rW.bd fun k=>dy.pure (KX (k:Nat))).ite ((jp b).oks [])
theorem ahX:∀n:Fin 8,(bO .i64 ((n.val:Nat):Int) 4 != 0)=decide (¬n.val<4):=by decide
theorem acF (k:Int):TR [[.int .i64 210,.int .i64 k,.int .i64 0,.int .u64 0,.int .i64 0,.int .i64 0,.int .i64 0,.nl,.nl],[.int .i64 11,.int .i64 0,.int .i64 0,.int .u64 0,.int .i64 0,.int .i64 0,.int .i64 0,.nl,.nl]] ((KX k).map aW) :=
 ⟨⟨.inl rfl,.inl rfl,.inl rfl,.inl rfl,.inl rfl,.inl rfl,.inl rfl,.inr ⟨rfl,1,rfl⟩,.inr ⟨rfl,1,rfl⟩,trivial⟩,⟨.inl rfl,.inl rfl,.inl rfl,.inl rfl,.inl rfl,.inl rfl,.inl rfl,.inr ⟨rfl,1,rfl⟩,.inr ⟨rfl,1,rfl⟩,trivial⟩,trivial⟩
def tf (n:Nat):ak:=⟨3,1,[[.int .i64 (n:Nat)]],true⟩
variable {b:List UInt8} (hb:b.length<1000000000)
include hb
attribute [local go_sem] di ro wa
theorem ai5 {n:Nat} (hn:n≤7) (a:Nat) (e:Int) (ha:a≤b.length):aX pg dG [.mp 1000 4 0 0,.mp 1001 1 0 0] [(1000,ro true b a e),(1001,tf n)] sb
  (fun r' σ'=>r'=exs (xQ b n a e).1∧σ'=[(1000,ro true b ((xQ b n a e).2.1:Nat) (xQ b n a e).2.2),(1001,tf n)]):=by
 refine bF iM ?_
 have f:=ahX ⟨n,by omega⟩
 simp only at f
 have hR:xQ b n a e=xQ b n a e:=rfl
 conv at hR=>rhs;simp only [xQ,pI,pb,pP]
 generalize xQ b n a e=R at *
 by_cases h4:n<4
 ·rw [aQ (fun h=>h h4)] at f
  simp only [ap h4] at hR
  simp only [go_sem,iM,tf,f]
  refine ab (N_ hb a e ha) ?_
  generalize sY b a e=y at *
  obtain ⟨k,a1,e1⟩:=y
  simp only at hR ⊢
  subst hR
  simp only [go_sem]
  refine bP (Wk.nla _ 13 (rs':=(KX (k:Nat)).map aW) (by rfl) (acF _)) [13] (exs (KX (k:Nat))) [(1000,ro true b a1 e1),(1001,tf n)] ?_ (by simp only [go_sem,tf]) rfl ⟨rfl,rfl⟩
  simp only [go_sem]
  rfl
 ·rw [aO h4] at f
  simp only [ah h4] at hR
  simp only [go_sem,iM,tf,f]
  refine ab (VP hb a e ha) ?_
  generalize i6 (gX b) [] a e=y at *
  obtain ⟨k,a1,e1⟩:=y
  subst hR
  simp only
  simp only [go_sem]
  exact done [] _ [(1000,ro true b a1 e1),(1001,tf n)] (by simp only [go_sem,exs]) (by simp only [go_sem,tf]) rfl ⟨rfl,rfl⟩
end
section
open Go Go.Mw
variable {b:List UInt8} (hb:b.length<1000000000)
include hb
attribute [local go_sem] di ro wa oU
theorem um {n:Nat} (hn:n≤7) (a:Nat) (e:Int) (ha:a≤b.length):aX pg dB [.mp 1000 4 0 0,.int .i64 256,.fn dG [.mp 1001 1 0 0]] [(1000,ro true b a e),(1001,tf n)] sb
  (fun r' σ'=>r' = .sl 1 ((pL b (xQ b n) 256 a e).1.map oU)∧σ'=[(1000,ro true b ((pL b (xQ b n) 256 a e).2.1:Nat) (pL b (xQ b n) 256 a e).2.2),(1001,tf n)]):=by
 refine bF fM ?_
 simp only [go_sem,fM,tf]
 refine aA (YK hb 256 a e ha) ?_
 have hN:=yD (b:=b) (most:=256) (a:=a) (e:=e)
 have h0:pL b (xQ b n) 256 a e=([]++(pN (xQ b n) (pC b 256 a e).1 (pC b 256 a e).2.1 (pC b 256 a e).2.2).1,(pN (xQ b n) (pC b 256 a e).1 (pC b 256 a e).2.1 (pC b 256 a e).2.2).2):=rfl
 have hk:(pC b 256 a e).2.1≤b.length:=o9 ha
 generalize pL b (xQ b n) 256 a e=R at *
 generalize pC b 256 a e=c at *
 obtain ⟨N,a0,e0⟩:=c
 simp only at hN h0 hk ⊢
 refine aw (fun q:Nat×List (List aZ)×Nat×Int=>⟨[(8,.int .i64 (q.1:Nat)),(7,.ms 900 1 0 q.2.1.length),(6,.nl),(0,.mp 1000 4 0 0),(1,.int .i64 256),(2,.fn dG [.mp 1001 1 0 0])],[(900,⟨59,1,q.2.1.map oU,false⟩),(1000,ro true b q.2.2.1 q.2.2.2),(1001,tf n)]⟩)
  (fun q=>q.2.2.1≤b.length∧q.2.1.length+q.1≤N∧R=(q.2.1++(pN (xQ b n) q.1 q.2.2.1 q.2.2.2).1,(pN (xQ b n) q.1 q.2.2.1 q.2.2.2).2)) (fun q=>q.1) (N,[],a0,e0) ⟨hk,by simp,h0⟩ ((Wk.nil _ 7 900 1 59 (by simp only [go_sem]) (.inl (by decide))).trans (Wk.of ?_ ?_)) ?_
 ·simp only [go_sem,St.mknil];try simp [go_sem]
 ·simp only [go_sem,St.mknil,tf];try simp [go_sem]
 rintro ⟨m,l,a1,e1⟩ ⟨h1,h2,h3⟩
 simp only at h1 h2 h3
 have happ:=fun ys=>cZ 900 59 1 l.length oU l ys rfl
 by_cases hm1:(m:Int)>0
 rotate_left
 ·obtain rfl:m=0:=by omega
  simp only [go_sem,aQ hm1]
  subst h3
  refine done [900] _ [(1000,ro true b a1 e1),(1001,tf n)] ?_ (by simp only [go_sem,tf]) rfl ⟨rfl,rfl⟩
  simp only [go_sem,di,bt]
  rw [fL (by rw [di];omega)]
  simp [pN,pP]
 obtain ⟨m,rfl⟩:∃k,m=k+1:=⟨m - 1,by omega⟩
 have hw1:IntKind.i64.wrap (((m+1:Nat):Int) - 1)=(m:Int):=by rw [wi (by omega) (by omega)];omega
 simp only [go_sem,aO hm1]
 refine ab (aP true b a1 e1) ?_
 by_cases he:e1=0
 rotate_left
 ·simp only [go_sem,pp he]
  rw [YF he] at h3
  subst h3
  refine done [900] _ [(1000,ro true b a1 e1),(1001,tf n)] ?_ (by simp only [go_sem,tf]) rfl ⟨rfl,rfl⟩
  simp only [go_sem,di,bt]
  rw [fL (by rw [di];omega)]
  try simp
 subst he
 simp only [go_sem]
 refine ⟨by kernel_rfl,?_⟩
 have c1:=ai5 hb hn a1 0 h1
 rw [YE] at h3
 have hk2:=(aal b n a1 0 h1).1
 generalize xQ b n a1 0=y at *
 obtain ⟨x,a2,e2⟩:=y
 simp only at h3 hk2 c1 ⊢
 refine JK c1 [] (fun p hp=>?_) (fun p hp=>?_) (fun p hp=>?_) ?_
 ·simp only [dc,List.not_mem_nil,or_false] at hp
  rcases hp with rfl | rfl<;>rfl
 ·simp only [dc,List.not_mem_nil,or_false] at hp
  rcases hp with rfl | rfl
  ·exact .inl ⟨⟨(by decide:1000≤1000),(by decide:1000<2000)⟩,rfl⟩
  ·exact .inl ⟨⟨(by decide:1000≤1001),(by decide:1001<2000)⟩,rfl⟩
 ·simp only [dc,List.not_mem_nil,or_false] at hp
  rcases hp with rfl | rfl<;>rfl
 simp only [go_sem,exs,dO,dP,jR,fh,tf,happ,hw1]
 refine ⟨by omega,aG (m,l++[x],a2,e2) ⟨hk2,by simp;omega,by rw [h3];simp⟩ (show m<m+1 by omega) (Wk.of ?_ ?_)⟩
 ·simp only [go_sem];try simp
 ·simp only [go_sem,tf];try simp [go_sem,oU]
end
open Go Go.Mw
def pEt (b:List UInt8) (n:Nat):PS Int:=pI (n % 4=0) (pP 3) (pI (n<4) (pb (fV b) fun x=>pb (Js 4 (x≠0)) fun _=>pP 3) (i6 (gV b) 0))
def YB (b:List UInt8):PS El:=pb (sY b) fun n=>pI (n>7) (pF 4 ⟨0,0,[],0,[]⟩) <|
 pb (pI (n % 4=2) (pb (sY b) fun x=>pP (x:Int)) (pP 0)) fun tb=>pb (pI (n % 2=0) (i6 (gX b) []) (pP [])) fun o=>pb (pEt b n) fun t=>pb (pL b (xQ b n) 256) fun l=>pP ⟨bY n,tb,o,t,l⟩
theorem agd (b:List UInt8) (n:Nat):dy b (pEt b n) (fun k2=>if n % 4=0 then .ok (3,k2) else if n<4 then eU (gB b k2) fun x k3=>if x=0 then .ok (3,k3) else .error (4,k3) else gV b k2):=by
 have h:=EX.bd (b:=b) (u:=fun x=>pb (Js 4 (x≠0)) fun _=>pP (3:Int)) (r:=fun x k=>if x≠0 then .error (4,k) else .ok ((3:Int),k)) fun x=>dy.fi (by decide) (dy.pure 3)
 refine (dy.pure 3).ite ((h.congr fun a=>?_).ite ((tX b).oks 0))
 congr 1
 funext x k
 by_cases hx:x=0
 ·rw [ah (fun h=>h hx),ap hx]
 ·rw [ap hx,ah hx]
theorem aah (b:List UInt8):dy b (YB b) (ZX b):=rW.bd fun n=>(dy.fail (by decide) _).ite <|
 ((rW.bd fun x=>dy.pure ((x:Nat):Int)).ite (dy.pure 0)).bd fun tb=>(((jp b).oks []).ite (dy.pure [])).bd fun o=>(agd b n).bd fun t=>((aal b n).l (g:=Z1 n) 256).bd fun l=>dy.pure (b:=b) (⟨bY n,tb,o,t,l⟩:El)
section
variable {b:List UInt8} (hb:b.length<1000000000)
include hb
omit hb in
theorem j6 {n:Nat} {d:Option Nat} {s:St} {K:St→Prop} {a a9:Nat} {e e9:Int} {r:AV} (c1:aX pg dB [.mp 1000 4 0 0,.int .i64 256,.fn dG [.mp 1001 1 0 0]] [(1000,ro true b a e),(1001,tf n)] sb (fun r' σ'=>r'=r∧σ'=[(1000,ro true b a9 e9),(1001,tf n)]))
  (h1:ae s.heap 1000=some (ro true b a e)) (h3:ae s.heap 3=some (tf n)) (hr:n9 (fw [(1001,3)]) r=r) (hK:K ((St.mk (dO [] s.env) ([(1000,ro true b a9 e9),(3,tf n)]++dP [] s.heap)).put d r)):cT pg dB [.mp 1000 4 0 0,.int .i64 256,.fn dG [.mp 3 1 0 0]] d s K:=by
 refine ew (σ2:=[(1000,ro true b a e),(3,tf n)]) (r3:=r) (σ3:=[(1000,ro true b a9 e9),(3,tf n)]) c1 [(1001,3)] [] rfl rfl hr rfl (fun p hp=>?_) (fun p hp=>?_) (fun p hp=>?_) hK
 ·simp only [dc,List.not_mem_nil,or_false] at hp
  rcases hp with rfl | rfl
  ·exact h1
  ·exact h3
 ·simp only [dc,List.not_mem_nil,or_false] at hp
  rcases hp with rfl | rfl
  ·exact .inl ⟨⟨(by decide:1000≤1000),(by decide:1000<2000)⟩,rfl⟩
  ·exact .inl ⟨⟨(by decide:1000≤1001),(by decide:1001<2000)⟩,rfl⟩
 ·simp only [dc,List.not_mem_nil,or_false] at hp
  rcases hp with rfl | rfl<;>rfl
attribute [local go_sem] di ro wa
theorem ai0:RP pT [] b (YB b) (fun x=>.agg (gP x)):=by
 intro a e ha
 refine bF pB ?_
 simp only [go_sem,pB]
 refine ab (N_ hb a e ha) ?_
 have k1:=(rW (b:=b) a e ha).1
 have hR:YB b a e=YB b a e:=rfl
 conv at hR=>rhs;simp only [YB,pEt,Js,pb,pP,pI,pF]
 generalize YB b a e=R at *
 generalize sY b a e=y at *
 obtain ⟨n,a1,e1⟩:=y
 simp only at k1 hR ⊢
 by_cases hn:n>7
 ·simp only [ap hn] at hR
  simp only [go_sem,show decide ((n:Int)>7)=true from aO (by omega)]
  have cf:=Gb (b:=b) a1 e1 4
  generalize (if e1=0 then (4:Int) else e1)=e3 at *
  refine ab (cf) ?_
  subst hR
  simp only [go_sem]
  exact bP (Wk.nlm _ 2 (r':=gP ⟨0,0,[],0,[]⟩) rfl ⟨.inl rfl,.inl rfl,.inr ⟨rfl,.inl ⟨9,rfl⟩⟩,.inl rfl,.inr ⟨rfl,.inl ⟨1,rfl⟩⟩,trivial⟩) [] (.agg (gP ⟨0,0,[],0,[]⟩)) [(1000,ro true b a1 e3)] (by simp only [go_sem,gP]) (by simp only [go_sem]) rfl ⟨rfl,rfl⟩
 rcases (show n=0∨n=1∨n=2∨n=3∨n=4∨n=5∨n=6∨n=7 by omega) with rfl | rfl | rfl | rfl | rfl | rfl | rfl | rfl
 ·simp (decide:=true) only [aF,bc,↓reduceIte,Nat.reduceMod,Nat.zero_mod,Nat.reduceEqDiff,Nat.reduceLT] at hR
  simp only [go_sem,show decide (((0:Nat):Int)>7)=false from rfl,show (bO .i64 ((0:Nat):Int) 1 != 0)=false from by decide,show (bO .i64 ((0:Nat):Int) 2 != 0)=false from by decide,show (bO .i64 ((0:Nat):Int) 4==0)=true from by decide,show (((0:Nat):Int)==0)=true from rfl,show (((0:Nat):Int)==4)=false from rfl]
  refine ab (VP hb a1 e1 k1) ?_
  have k2:=(((jp b).oks []) a1 e1 k1).1
  generalize i6 (gX b) [] a1 e1=y at *
  obtain ⟨ol,a2,e2⟩:=y
  simp only at k2 hR ⊢
  simp only [go_sem,exs,show decide (((0:Nat):Int)>7)=false from rfl,show (bO .i64 ((0:Nat):Int) 1 != 0)=false from by decide,show (bO .i64 ((0:Nat):Int) 2 != 0)=false from by decide,show (bO .i64 ((0:Nat):Int) 4==0)=true from by decide,show (((0:Nat):Int)==0)=true from rfl,show (((0:Nat):Int)==4)=false from rfl]
  have c1:=um hb (n:=0) (by decide) a2 e2 k2
  generalize pL b (xQ b 0) 256 a2 e2=y at *
  obtain ⟨l,a9,e9⟩:=y
  simp only at hR c1 ⊢
  subst hR
  refine j6 c1 (by rfl) (by rfl) (by rfl) ?_
  try simp only [go_sem,dO,dP,jR,fh,tf]
  exact bP (Wk.nlm _ 2 (r':=gP ⟨bY 0,0,ol,3,l⟩) rfl ⟨.inl rfl,.inl rfl,(by first | exact .inl rfl | exact .inr ⟨rfl,.inl ⟨_,rfl⟩⟩),.inl rfl,.inl rfl,trivial⟩) [] (.agg (gP ⟨bY 0,0,ol,3,l⟩)) [(1000,ro true b a9 e9)] (by simp only [go_sem,gP,show bY 0=0 from rfl]) (by simp only [go_sem]) rfl ⟨rfl,rfl⟩
 ·simp (decide:=true) only [aF,bc,↓reduceIte,Nat.reduceMod,Nat.zero_mod,Nat.reduceEqDiff,Nat.reduceLT] at hR
  simp only [go_sem,show decide (((1:Nat):Int)>7)=false from rfl,show (bO .i64 ((1:Nat):Int) 1 != 0)=true from by decide,show (bO .i64 ((1:Nat):Int) 2 != 0)=false from by decide,show (bO .i64 ((1:Nat):Int) 4==0)=true from by decide,show (((1:Nat):Int)==0)=false from rfl,show (((1:Nat):Int)==4)=false from rfl]
  refine ab (Ai hb a1 e1 k1) ?_
  have k2:=((EX (b:=b)) a1 e1 k1).1
  generalize fV b a1 e1=y at *
  obtain ⟨x,a2,e2⟩:=y
  simp only at k2 hR ⊢
  by_cases hx:x=0
  ·subst hx
   simp only [ah (show ¬((0:UInt8)≠0) from fun h=>h rfl)] at hR
   simp only [go_sem,show ((((0:UInt8).toNat:Nat):Int) != 0)=false from rfl]
   have c1:=um hb (n:=1) (by decide) a2 e2 k2
   generalize pL b (xQ b 1) 256 a2 e2=y at *
   obtain ⟨l,a9,e9⟩:=y
   simp only at hR c1 ⊢
   subst hR
   refine j6 c1 (by rfl) (by rfl) (by rfl) ?_
   try simp only [go_sem,dO,dP,jR,fh,tf]
   exact bP (Wk.nlm _ 2 (r':=gP ⟨bY 1,0,[],3,l⟩) rfl ⟨.inl rfl,.inl rfl,(by first | exact .inl rfl | exact .inr ⟨rfl,.inl ⟨_,rfl⟩⟩),.inl rfl,.inl rfl,trivial⟩) [] (.agg (gP ⟨bY 1,0,[],3,l⟩)) [(1000,ro true b a9 e9)] (by simp only [go_sem,gP,show bY 1=1 from rfl]) (by simp only [go_sem]) rfl ⟨rfl,rfl⟩
  ·simp only [ap hx] at hR
   have hd:((x.toNat:Int) != 0)=true:=bne_iff_ne.2 fun h=>hx (UInt8.toNat_inj.1 (by have e:(0:UInt8).toNat=0:=rfl;omega))
   try simp only [go_sem,hd]
   have cf:=Gb (b:=b) a2 e2 4
   generalize (if e2=0 then (4:Int) else e2)=e8 at *
   refine ab (cf) ?_
   try simp only [go_sem]
   have c1:=um hb (n:=1) (by decide) a2 e8 k2
   generalize pL b (xQ b 1) 256 a2 e8=y at *
   obtain ⟨l,a9,e9⟩:=y
   simp only at hR c1 ⊢
   subst hR
   refine j6 c1 (by rfl) (by rfl) (by rfl) ?_
   try simp only [go_sem,dO,dP,jR,fh,tf]
   exact bP (Wk.nlm _ 2 (r':=gP ⟨bY 1,0,[],3,l⟩) rfl ⟨.inl rfl,.inl rfl,(by first | exact .inl rfl | exact .inr ⟨rfl,.inl ⟨_,rfl⟩⟩),.inl rfl,.inl rfl,trivial⟩) [] (.agg (gP ⟨bY 1,0,[],3,l⟩)) [(1000,ro true b a9 e9)] (by simp only [go_sem,gP,show bY 1=1 from rfl]) (by simp only [go_sem]) rfl ⟨rfl,rfl⟩
 ·simp (decide:=true) only [aF,bc,↓reduceIte,Nat.reduceMod,Nat.zero_mod,Nat.reduceEqDiff,Nat.reduceLT] at hR
  simp only [go_sem,show decide (((2:Nat):Int)>7)=false from rfl,show (bO .i64 ((2:Nat):Int) 1 != 0)=false from by decide,show (bO .i64 ((2:Nat):Int) 2 != 0)=true from by decide,show (bO .i64 ((2:Nat):Int) 4==0)=true from by decide,show (((2:Nat):Int)==0)=false from rfl,show (((2:Nat):Int)==4)=false from rfl]
  refine ab (N_ hb a1 e1 k1) ?_
  have k2:=((rW (b:=b)) a1 e1 k1).1
  generalize sY b a1 e1=y at *
  obtain ⟨tb,a2,e2⟩:=y
  simp only at k2 hR ⊢
  simp only [go_sem,show decide (((2:Nat):Int)>7)=false from rfl,show (bO .i64 ((2:Nat):Int) 1 != 0)=false from by decide,show (bO .i64 ((2:Nat):Int) 2 != 0)=true from by decide,show (bO .i64 ((2:Nat):Int) 4==0)=true from by decide,show (((2:Nat):Int)==0)=false from rfl,show (((2:Nat):Int)==4)=false from rfl]
  refine ab (VP hb a2 e2 k2) ?_
  have k3:=(((jp b).oks []) a2 e2 k2).1
  generalize i6 (gX b) [] a2 e2=y at *
  obtain ⟨ol,a3,e3⟩:=y
  simp only at k3 hR ⊢
  simp only [go_sem,exs,show decide (((2:Nat):Int)>7)=false from rfl,show (bO .i64 ((2:Nat):Int) 1 != 0)=false from by decide,show (bO .i64 ((2:Nat):Int) 2 != 0)=true from by decide,show (bO .i64 ((2:Nat):Int) 4==0)=true from by decide,show (((2:Nat):Int)==0)=false from rfl,show (((2:Nat):Int)==4)=false from rfl]
  refine ab (Ai hb a3 e3 k3) ?_
  have k4:=((EX (b:=b)) a3 e3 k3).1
  generalize fV b a3 e3=y at *
  obtain ⟨x,a4,e4⟩:=y
  simp only at k4 hR ⊢
  by_cases hx:x=0
  ·subst hx
   simp only [ah (show ¬((0:UInt8)≠0) from fun h=>h rfl)] at hR
   simp only [go_sem,show ((((0:UInt8).toNat:Nat):Int) != 0)=false from rfl]
   have c1:=um hb (n:=2) (by decide) a4 e4 k4
   generalize pL b (xQ b 2) 256 a4 e4=y at *
   obtain ⟨l,a9,e9⟩:=y
   simp only at hR c1 ⊢
   subst hR
   refine j6 c1 (by rfl) (by rfl) (by rfl) ?_
   try simp only [go_sem,dO,dP,jR,fh,tf]
   exact bP (Wk.nlm _ 2 (r':=gP ⟨bY 2,(tb:Int),ol,3,l⟩) rfl ⟨.inl rfl,.inl rfl,(by first | exact .inl rfl | exact .inr ⟨rfl,.inl ⟨_,rfl⟩⟩),.inl rfl,.inl rfl,trivial⟩) [] (.agg (gP ⟨bY 2,(tb:Int),ol,3,l⟩)) [(1000,ro true b a9 e9)] (by simp only [go_sem,gP,show bY 2=0 from rfl]) (by simp only [go_sem]) rfl ⟨rfl,rfl⟩
  ·simp only [ap hx] at hR
   have hd:((x.toNat:Int) != 0)=true:=bne_iff_ne.2 fun h=>hx (UInt8.toNat_inj.1 (by have e:(0:UInt8).toNat=0:=rfl;omega))
   try simp only [go_sem,hd]
   have cf:=Gb (b:=b) a4 e4 4
   generalize (if e4=0 then (4:Int) else e4)=e8 at *
   refine ab (cf) ?_
   try simp only [go_sem]
   have c1:=um hb (n:=2) (by decide) a4 e8 k4
   generalize pL b (xQ b 2) 256 a4 e8=y at *
   obtain ⟨l,a9,e9⟩:=y
   simp only at hR c1 ⊢
   subst hR
   refine j6 c1 (by rfl) (by rfl) (by rfl) ?_
   try simp only [go_sem,dO,dP,jR,fh,tf]
   exact bP (Wk.nlm _ 2 (r':=gP ⟨bY 2,(tb:Int),ol,3,l⟩) rfl ⟨.inl rfl,.inl rfl,(by first | exact .inl rfl | exact .inr ⟨rfl,.inl ⟨_,rfl⟩⟩),.inl rfl,.inl rfl,trivial⟩) [] (.agg (gP ⟨bY 2,(tb:Int),ol,3,l⟩)) [(1000,ro true b a9 e9)] (by simp only [go_sem,gP,show bY 2=0 from rfl]) (by simp only [go_sem]) rfl ⟨rfl,rfl⟩
 ·simp (decide:=true) only [aF,bc,↓reduceIte,Nat.reduceMod,Nat.zero_mod,Nat.reduceEqDiff,Nat.reduceLT] at hR
  simp only [go_sem,show decide (((3:Nat):Int)>7)=false from rfl,show (bO .i64 ((3:Nat):Int) 1 != 0)=true from by decide,show (bO .i64 ((3:Nat):Int) 2 != 0)=true from by decide,show (bO .i64 ((3:Nat):Int) 4==0)=true from by decide,show (((3:Nat):Int)==0)=false from rfl,show (((3:Nat):Int)==4)=false from rfl]
  refine ab (Ai hb a1 e1 k1) ?_
  have k2:=((EX (b:=b)) a1 e1 k1).1
  generalize fV b a1 e1=y at *
  obtain ⟨x,a2,e2⟩:=y
  simp only at k2 hR ⊢
  by_cases hx:x=0
  ·subst hx
   simp only [ah (show ¬((0:UInt8)≠0) from fun h=>h rfl)] at hR
   simp only [go_sem,show ((((0:UInt8).toNat:Nat):Int) != 0)=false from rfl]
   have c1:=um hb (n:=3) (by decide) a2 e2 k2
   generalize pL b (xQ b 3) 256 a2 e2=y at *
   obtain ⟨l,a9,e9⟩:=y
   simp only at hR c1 ⊢
   subst hR
   refine j6 c1 (by rfl) (by rfl) (by rfl) ?_
   try simp only [go_sem,dO,dP,jR,fh,tf]
   exact bP (Wk.nlm _ 2 (r':=gP ⟨bY 3,0,[],3,l⟩) rfl ⟨.inl rfl,.inl rfl,(by first | exact .inl rfl | exact .inr ⟨rfl,.inl ⟨_,rfl⟩⟩),.inl rfl,.inl rfl,trivial⟩) [] (.agg (gP ⟨bY 3,0,[],3,l⟩)) [(1000,ro true b a9 e9)] (by simp only [go_sem,gP,show bY 3=2 from rfl]) (by simp only [go_sem]) rfl ⟨rfl,rfl⟩
  ·simp only [ap hx] at hR
   have hd:((x.toNat:Int) != 0)=true:=bne_iff_ne.2 fun h=>hx (UInt8.toNat_inj.1 (by have e:(0:UInt8).toNat=0:=rfl;omega))
   try simp only [go_sem,hd]
   have cf:=Gb (b:=b) a2 e2 4
   generalize (if e2=0 then (4:Int) else e2)=e8 at *
   refine ab (cf) ?_
   try simp only [go_sem]
   have c1:=um hb (n:=3) (by decide) a2 e8 k2
   generalize pL b (xQ b 3) 256 a2 e8=y at *
   obtain ⟨l,a9,e9⟩:=y
   simp only at hR c1 ⊢
   subst hR
   refine j6 c1 (by rfl) (by rfl) (by rfl) ?_
   try simp only [go_sem,dO,dP,jR,fh,tf]
   exact bP (Wk.nlm _ 2 (r':=gP ⟨bY 3,0,[],3,l⟩) rfl ⟨.inl rfl,.inl rfl,(by first | exact .inl rfl | exact .inr ⟨rfl,.inl ⟨_,rfl⟩⟩),.inl rfl,.inl rfl,trivial⟩) [] (.agg (gP ⟨bY 3,0,[],3,l⟩)) [(1000,ro true b a9 e9)] (by simp only [go_sem,gP,show bY 3=2 from rfl]) (by simp only [go_sem]) rfl ⟨rfl,rfl⟩
 ·simp (decide:=true) only [aF,bc,↓reduceIte,Nat.reduceMod,Nat.zero_mod,Nat.reduceEqDiff,Nat.reduceLT] at hR
  simp only [go_sem,show decide (((4:Nat):Int)>7)=false from rfl,show (bO .i64 ((4:Nat):Int) 1 != 0)=false from by decide,show (bO .i64 ((4:Nat):Int) 2 != 0)=false from by decide,show (bO .i64 ((4:Nat):Int) 4==0)=false from by decide,show (((4:Nat):Int)==0)=false from rfl,show (((4:Nat):Int)==4)=true from rfl]
  refine ab (VP hb a1 e1 k1) ?_
  have k2:=(((jp b).oks []) a1 e1 k1).1
  generalize i6 (gX b) [] a1 e1=y at *
  obtain ⟨ol,a2,e2⟩:=y
  simp only at k2 hR ⊢
  simp only [go_sem,exs,show decide (((4:Nat):Int)>7)=false from rfl,show (bO .i64 ((4:Nat):Int) 1 != 0)=false from by decide,show (bO .i64 ((4:Nat):Int) 2 != 0)=false from by decide,show (bO .i64 ((4:Nat):Int) 4==0)=false from by decide,show (((4:Nat):Int)==0)=false from rfl,show (((4:Nat):Int)==4)=true from rfl]
  have c1:=um hb (n:=4) (by decide) a2 e2 k2
  generalize pL b (xQ b 4) 256 a2 e2=y at *
  obtain ⟨l,a9,e9⟩:=y
  simp only at hR c1 ⊢
  subst hR
  refine j6 c1 (by rfl) (by rfl) (by rfl) ?_
  try simp only [go_sem,dO,dP,jR,fh,tf]
  exact bP (Wk.nlm _ 2 (r':=gP ⟨bY 4,0,ol,3,l⟩) rfl ⟨.inl rfl,.inl rfl,(by first | exact .inl rfl | exact .inr ⟨rfl,.inl ⟨_,rfl⟩⟩),.inl rfl,.inl rfl,trivial⟩) [] (.agg (gP ⟨bY 4,0,ol,3,l⟩)) [(1000,ro true b a9 e9)] (by simp only [go_sem,gP,show bY 4=0 from rfl]) (by simp only [go_sem]) rfl ⟨rfl,rfl⟩
 ·simp (decide:=true) only [aF,bc,↓reduceIte,Nat.reduceMod,Nat.zero_mod,Nat.reduceEqDiff,Nat.reduceLT] at hR
  simp only [go_sem,show decide (((5:Nat):Int)>7)=false from rfl,show (bO .i64 ((5:Nat):Int) 1 != 0)=true from by decide,show (bO .i64 ((5:Nat):Int) 2 != 0)=false from by decide,show (bO .i64 ((5:Nat):Int) 4==0)=false from by decide,show (((5:Nat):Int)==0)=false from rfl,show (((5:Nat):Int)==4)=false from rfl]
  refine ab (YL hb a1 e1 k1) ?_
  have k2:=(((tX b).oks 0) a1 e1 k1).1
  generalize i6 (gV b) 0 a1 e1=y at *
  obtain ⟨t,a2,e2⟩:=y
  simp only at k2 hR ⊢
  simp only [go_sem]
  have c1:=um hb (n:=5) (by decide) a2 e2 k2
  generalize pL b (xQ b 5) 256 a2 e2=y at *
  obtain ⟨l,a9,e9⟩:=y
  simp only at hR c1 ⊢
  subst hR
  refine j6 c1 (by rfl) (by rfl) (by rfl) ?_
  try simp only [go_sem,dO,dP,jR,fh,tf]
  exact bP (Wk.nlm _ 2 (r':=gP ⟨bY 5,0,[],t,l⟩) rfl ⟨.inl rfl,.inl rfl,(by first | exact .inl rfl | exact .inr ⟨rfl,.inl ⟨_,rfl⟩⟩),.inl rfl,.inl rfl,trivial⟩) [] (.agg (gP ⟨bY 5,0,[],t,l⟩)) [(1000,ro true b a9 e9)] (by simp only [go_sem,gP,show bY 5=1 from rfl]) (by simp only [go_sem]) rfl ⟨rfl,rfl⟩
 ·simp (decide:=true) only [aF,bc,↓reduceIte,Nat.reduceMod,Nat.zero_mod,Nat.reduceEqDiff,Nat.reduceLT] at hR
  simp only [go_sem,show decide (((6:Nat):Int)>7)=false from rfl,show (bO .i64 ((6:Nat):Int) 1 != 0)=false from by decide,show (bO .i64 ((6:Nat):Int) 2 != 0)=true from by decide,show (bO .i64 ((6:Nat):Int) 4==0)=false from by decide,show (((6:Nat):Int)==0)=false from rfl,show (((6:Nat):Int)==4)=false from rfl]
  refine ab (N_ hb a1 e1 k1) ?_
  have k2:=((rW (b:=b)) a1 e1 k1).1
  generalize sY b a1 e1=y at *
  obtain ⟨tb,a2,e2⟩:=y
  simp only at k2 hR ⊢
  simp only [go_sem,show decide (((6:Nat):Int)>7)=false from rfl,show (bO .i64 ((6:Nat):Int) 1 != 0)=false from by decide,show (bO .i64 ((6:Nat):Int) 2 != 0)=true from by decide,show (bO .i64 ((6:Nat):Int) 4==0)=false from by decide,show (((6:Nat):Int)==0)=false from rfl,show (((6:Nat):Int)==4)=false from rfl]
  refine ab (VP hb a2 e2 k2) ?_
  have k3:=(((jp b).oks []) a2 e2 k2).1
  generalize i6 (gX b) [] a2 e2=y at *
  obtain ⟨ol,a3,e3⟩:=y
  simp only at k3 hR ⊢
  simp only [go_sem,exs,show decide (((6:Nat):Int)>7)=false from rfl,show (bO .i64 ((6:Nat):Int) 1 != 0)=false from by decide,show (bO .i64 ((6:Nat):Int) 2 != 0)=true from by decide,show (bO .i64 ((6:Nat):Int) 4==0)=false from by decide,show (((6:Nat):Int)==0)=false from rfl,show (((6:Nat):Int)==4)=false from rfl]
  refine ab (YL hb a3 e3 k3) ?_
  have k4:=(((tX b).oks 0) a3 e3 k3).1
  generalize i6 (gV b) 0 a3 e3=y at *
  obtain ⟨t,a4,e4⟩:=y
  simp only at k4 hR ⊢
  simp only [go_sem]
  have c1:=um hb (n:=6) (by decide) a4 e4 k4
  generalize pL b (xQ b 6) 256 a4 e4=y at *
  obtain ⟨l,a9,e9⟩:=y
  simp only at hR c1 ⊢
  subst hR
  refine j6 c1 (by rfl) (by rfl) (by rfl) ?_
  try simp only [go_sem,dO,dP,jR,fh,tf]
  exact bP (Wk.nlm _ 2 (r':=gP ⟨bY 6,(tb:Int),ol,t,l⟩) rfl ⟨.inl rfl,.inl rfl,(by first | exact .inl rfl | exact .inr ⟨rfl,.inl ⟨_,rfl⟩⟩),.inl rfl,.inl rfl,trivial⟩) [] (.agg (gP ⟨bY 6,(tb:Int),ol,t,l⟩)) [(1000,ro true b a9 e9)] (by simp only [go_sem,gP,show bY 6=0 from rfl]) (by simp only [go_sem]) rfl ⟨rfl,rfl⟩
 ·simp (decide:=true) only [aF,bc,↓reduceIte,Nat.reduceMod,Nat.zero_mod,Nat.reduceEqDiff,Nat.reduceLT] at hR
  simp only [go_sem,show decide (((7:Nat):Int)>7)=false from rfl,show (bO .i64 ((7:Nat):Int) 1 != 0)=true from by decide,show (bO .i64 ((7:Nat):Int) 2 != 0)=true from by decide,show (bO .i64 ((7:Nat):Int) 4==0)=false from by decide,show (((7:Nat):Int)==0)=false from rfl,show (((7:Nat):Int)==4)=false from rfl]
  refine ab (YL hb a1 e1 k1) ?_
  have k2:=(((tX b).oks 0) a1 e1 k1).1
  generalize i6 (gV b) 0 a1 e1=y at *
  obtain ⟨t,a2,e2⟩:=y
  simp only at k2 hR ⊢
  simp only [go_sem]
  have c1:=um hb (n:=7) (by decide) a2 e2 k2
  generalize pL b (xQ b 7) 256 a2 e2=y at *
  obtain ⟨l,a9,e9⟩:=y
  simp only at hR c1 ⊢
  subst hR
  refine j6 c1 (by rfl) (by rfl) (by rfl) ?_
  try simp only [go_sem,dO,dP,jR,fh,tf]
  exact bP (Wk.nlm _ 2 (r':=gP ⟨bY 7,0,[],t,l⟩) rfl ⟨.inl rfl,.inl rfl,(by first | exact .inl rfl | exact .inr ⟨rfl,.inl ⟨_,rfl⟩⟩),.inl rfl,.inl rfl,trivial⟩) [] (.agg (gP ⟨bY 7,0,[],t,l⟩)) [(1000,ro true b a9 e9)] (by simp only [go_sem,gP,show bY 7=2 from rfl]) (by simp only [go_sem]) rfl ⟨rfl,rfl⟩
end
section
instance:Inhabited Ft:=⟨⟨[],[]⟩⟩
instance:Inhabited Im:=⟨⟨[],[],0,0,0,⟨0,0,false⟩,⟨0,0,false⟩,⟨0,false⟩⟩⟩
instance:Inhabited Tb:=⟨Ld⟩
instance:Inhabited Lm:=⟨⟨0,0,false⟩⟩
instance:Inhabited Gd:=⟨⟨⟨0,false⟩,[]⟩⟩
instance:Inhabited Ex:=⟨⟨[],0,0⟩⟩
instance:Inhabited El:=⟨⟨0,0,[],0,[]⟩⟩
instance:Inhabited Da:=⟨⟨0,0,[],[]⟩⟩
variable {b:List UInt8} (hb:b.length<1000000000)
include hb
theorem agr:RP oX [.int .i64 (64:Nat),.fn pU []] b (pL b (pFt b) (64:Nat)) (fun l=>.sl 2 (l.map rK)) :=
 rZ hb (cF oq) (fun x=>⟨rfl,rfl,rfl,fun i=>rfl⟩) (by kernel_rfl) (fun _=>rfl) (fun _ h=>by cases h) (ai2 hb) ⟨_,T7⟩ 64 (by decide)
theorem agu:RP mT [.int .i64 (32:Nat),.fn nD []] b (pL b (YD b) (32:Nat)) (fun l=>.sl 13 (l.map tg)) :=
 rZ hb (cF mE) (fun x=>⟨rfl,rfl,rfl,fun i=>rfl⟩) (by kernel_rfl) (fun _=>rfl) (fun _ h=>by cases h) (ai4 hb) ⟨_,aak b⟩ 32 (by decide)
theorem agx:RP nU [.int .i64 (4:Nat),.fn fK []] b (pL b (i6 (H6 b) Ld) (4:Nat)) (fun l=>.sl 4 (l.map xR)) :=
 rZ hb (cF nH) (fun x=>⟨rfl,rfl,rfl,fun i=>rfl⟩) (by kernel_rfl) (fun _=>rfl) (fun _ h=>by cases h) (agw hb) ⟨_,(H7 b).oks Ld⟩ 4 (by decide)
theorem agv:RP mU [.int .i64 (2:Nat),.fn eO []] b (pL b (i6 (FI b) ⟨0,0,false⟩) (2:Nat)) (fun l=>.sl 3 (l.map ry)) :=
 rZ hb (cF mF) (fun x=>⟨rfl,rfl,rfl,fun i=>rfl⟩) (by kernel_rfl) (fun _=>rfl) (fun _ h=>by cases h) (PY hb) ⟨_,(H4 b).oks _⟩ 2 (by decide)
theorem ags:RP kG [.int .i64 (32:Nat),.fn nC []] b (pL b (pGd b) (32:Nat)) (fun l=>.sl 3 (l.map yd)) :=
 rZ hb (cF kE) (fun x=>⟨rfl,rfl,rfl,fun i=>rfl⟩) (by kernel_rfl) (fun _=>rfl) (fun _ h=>by cases h) (ai3 hb) ⟨_,aaj b⟩ 32 (by decide)
theorem agq:RP mS [.int .i64 (64:Nat),.fn nA []] b (pL b (YC b) (64:Nat)) (fun l=>.sl 3 (l.map xN)) :=
 rZ hb (cF mD) (fun x=>⟨rfl,rfl,rfl,fun i=>rfl⟩) (by kernel_rfl) (fun _=>rfl) (fun _ h=>by cases h) (ai1 hb) ⟨_,aai b⟩ 64 (by decide)
theorem agp:RP oW [.int .i64 (16:Nat),.fn pT []] b (pL b (YB b) (16:Nat)) (fun l=>.sl 5 (l.map gP)) :=
 rZ hb (cF oi) (fun x=>⟨rfl,rfl,rfl,fun i=>rfl⟩) (by kernel_rfl) (fun _=>rfl) (fun _ h=>by cases h) (ai0 hb) ⟨_,aah b⟩ 16 (by decide)
theorem ago:RP oV [.int .i64 (16:Nat),.fn pS []] b (pL b (YA b) (16:Nat)) (fun l=>.sl 4 (l.map lO)) :=
 rZ hb (cF oh) (fun x=>⟨rfl,rfl,rfl,fun i=>rfl⟩) (by kernel_rfl) (fun _=>rfl) (fun _ h=>by cases h) (aiZ hb) ⟨_,aag b⟩ 16 (by decide)
end
def PX (b:List UInt8):Nat→List Int→PS (List Int)
 | 0,l=>pP l
 | n+1,l=>fun a e=>if e=0 then pb (sY b) (fun (many:Nat)=>pb (i6 (gV b) 0) fun t=>pb (Js 6 ((many:Int)>64 - l.length)) fun _=>fun a e=>PX b n (if e=0 then l++List.replicate many t else l) a e) a e else (l,a,e)
theorem T8 (b:List UInt8):∀(n:Nat) (l:List Int),dy b (PX b n l) (fun a=>VJ n b a l)
 | 0,l=>dy.pure l
 | n+1,l=>by
  have h1:=rW.bd (b:=b) (u:=fun (many:Nat)=>pb (i6 (gV b) 0) fun t=>pb (Js 6 ((many:Int)>64 - l.length)) fun _=>fun a e=>PX b n (if e=0 then l++List.replicate many t else l) a e)
   (r:=fun (many:Nat) k=>eU (gV b k) fun t k1=>if (many:Int)>64 - l.length then .error (6,k1) else VJ n b k1 (l++List.replicate many t)) fun (many:Nat)=>((tX b).oks 0).bd fun t=>dy.fi (by decide) (by
    intro a e ha
    by_cases he:e=0
    ·have:=T8 b n (l++List.replicate many t) a e ha
     simp only [ap he]
     exact this
    ·have:=T8 b n l a e ha
     simp only [ah he]
     exact ⟨this.1,this.2.1,fun h=>absurd h he⟩)
  intro a e ha
  obtain ⟨q1,q2,q3⟩:=h1 a e ha
  unfold PX
  by_cases he:e=0
  ·rw [ap he]
   exact ⟨q1,q2,q3⟩
  ·rw [ah he]
   exact ⟨ha,fun _=>rfl,fun h=>absurd h he⟩
def pBo (b:List UInt8):PS (List Int×List aZ):=pb (pC b 64) fun n=>pb (PX b n []) fun l=>pb (i6 (gX b) []) fun x=>pP (l,x)
theorem agb (b:List UInt8):dy b (pBo b) (fun a=>eU (gC b a 64) fun n k=>eU (VJ n b k []) fun l k1=>eU (gX b k1) fun x k2=>.ok ((l,x),k2)) :=
 (Ga 64).bd fun n=>(T8 b n []).bd fun l=>((jp b).oks []).bd fun x=>dy.pure (l,x)
def oR (b:List UInt8) (a:Nat) (e:Int):Int:=if e≠0 then e else if a=b.length then 0 else 5
def Jr (b:List UInt8):PS (List Int×List aZ):=fun a e =>
 let n:=sY b a e
 let t:=Ck b n.1 n.2.1 n.2.2
 let q:=pBo t.1 0 t.2.2
 (q.1,t.2.1,if t.2.2=0 then oR t.1 q.2.1 q.2.2 else t.2.2)
theorem abN (b:List UInt8):LV b=eU (eU (gC b 0 64) fun n k=>eU (VJ n b k []) fun l k1=>eU (gX b k1) fun x k2=>.ok ((l,x),k2)) fun q k=>if k=b.length then .ok (q,k) else .error (5,k):=by
 unfold LV
 simp only [Dn,aM]
theorem aaf (b:List UInt8):dy b (Jr b) (Sc b):=by
 intro a e ha
 obtain ⟨u1,u2,u3⟩:=rW (b:=b) a e ha
 obtain ⟨t1,t2,t3⟩:=T9 b (sY b a e).1 _ (sY b a e).2.2 u1
 refine ⟨t1,fun he=>?_,fun he=>?_⟩
 ·have h1:=u2 he
  have h2:(sY b a e).2.2=e:=by rw [h1]
  have h3:(sY b a e).2.1=a:=by rw [h1]
  have h4:=t2 (by rw [h2];exact he)
  show (_,_)=(a,e)
  rw [h2,h3] at h4 ⊢
  rw [h4,ah he]
 ·subst he
  unfold Sc
  rcases u3 rfl with ⟨n,k,g1,g2⟩ | ⟨e',k,g1,g2,g3⟩
  rotate_left
  ·refine .inr ⟨e',k,by rw [g1,oH],g2,?_⟩
   have h2:(sY b a 0).2.2=e':=by rw [g3]
   have h3:(sY b a 0).2.1=k:=by rw [g3]
   have h4:=t2 (by rw [h2];exact g2)
   show (_,_)=(k,e')
   rw [h2,h3] at h4 ⊢
   rw [h4,ah g2]
  rw [g1,aM]
  have hp:Jr b a 0=((pBo (Ck b n k 0).1 0 (Ck b n k 0).2.2).1,(Ck b n k 0).2.1,if (Ck b n k 0).2.2=0 then oR (Ck b n k 0).1 (pBo (Ck b n k 0).1 0 (Ck b n k 0).2.2).2.1 (pBo (Ck b n k 0).1 0 (Ck b n k 0).2.2).2.2 else (Ck b n k 0).2.2):=by
   unfold Jr
   rw [g2]
  rw [g2] at t3
  simp only at t3
  rw [hp]
  clear hp
  rcases t3 trivial with ⟨x,k',j1,j2⟩ | ⟨e',k',j1,j2,j3⟩
  rotate_left
  ·have hn:n>b.length - k:=by
    by_cases h:n>b.length - k
    ·exact h
    ·rw [ah h] at j1;cases j1
   rw [ap hn] at j1 ⊢
   have h2:(Ck b n k 0).2.2=e':=by rw [j3]
   have h3:(Ck b n k 0).2.1=k':=by rw [j3]
   exact .inr ⟨e',k',congrArg _ (Except.error.inj j1),j2,by rw [h2,h3,ah j2]⟩
  have hn:¬n>b.length - k:=by
   intro h
   rw [ap h] at j1;cases j1
  rw [ah hn] at j1 ⊢
  cases j1
  rw [j2]
  simp only [aF]
  rw [abN]
  obtain ⟨b1,_,b3⟩:=agb ((b.drop k).take n) 0 0 (cX _)
  rcases b3 rfl with ⟨y,k2,l1,l2⟩ | ⟨e2,k2,l1,l2,l3⟩
  ·rw [l2]
   simp only at l1
   rw [l1,aM]
   by_cases hk:k2=((b.drop k).take n).length
   ·rw [ap hk]
    refine .inl ⟨y,k+n,rfl,?_⟩
    unfold oR
    rw [ah (by simp),ap hk]
   ·rw [ah hk]
    refine .inr ⟨5,k+n,rfl,by decide,?_⟩
    unfold oR
    rw [ah (by simp),ah hk]
  ·simp only at l1
   rw [l1,oH]
   have h2:(pBo ((b.drop k).take n) 0 0).2.2=e2:=by rw [l3]
   have h3:(pBo ((b.drop k).take n) 0 0).2.1=k2:=by rw [l3]
   refine .inr ⟨e2,k+n,rfl,l2,?_⟩
   rw [h2,h3]
   unfold oR
   rw [ap l2]
section
instance:Inhabited Cd:=⟨⟨0,[],[]⟩⟩
def N9 (b:List UInt8):PS Cd:=pb (sY b) fun t=>pP ⟨(t:Int),[],[]⟩
theorem aam (b:List UInt8):dy b (N9 b) (fun a=>eU (gU b a) fun t k=>.ok ((⟨(t:Int),[],[]⟩:Cd),k)):=rW.bd fun t=>dy.pure (b:=b) (⟨(t:Int),[],[]⟩:Cd)
variable {b:List UInt8} (hb:b.length<1000000000)
include hb
attribute [local go_sem] di ro wa
theorem ai6:RP gu [] b (N9 b) (fun x=>.agg (qf x)):=by
 intro a e ha
 refine bF gh ?_
 simp only [go_sem,gh]
 refine ab (N_ hb a e ha) ?_
 have hR:N9 b a e=N9 b a e:=rfl
 conv at hR=>rhs;simp only [N9,pb,pP]
 generalize N9 b a e=R at *
 generalize sY b a e=y at *
 obtain ⟨n,a1,e1⟩:=y
 simp only at hR ⊢
 subst hR
 simp only [go_sem]
 exact bP (Wk.nlm _ 2 (r':=qf ⟨(n:Int),[],[]⟩) rfl ⟨.inl rfl,.inr ⟨rfl,.inl ⟨1,rfl⟩⟩,.inr ⟨rfl,.inl ⟨9,rfl⟩⟩,trivial⟩) [] (.agg (qf ⟨(n:Int),[],[]⟩)) [(1000,ro true b a1 e1)] (by simp only [go_sem,qf]) (by simp only [go_sem]) rfl ⟨rfl,rfl⟩
end
section
variable {b:List UInt8} (hb:b.length<1000000000)
include hb
attribute [local go_sem] di ro wa
theorem Y3 {α:Type} [Inhabited α] {n t st:Nat} {z:List AV} {f:α→List AV} {g:FuncId} {caps:List AV} {one:PS α} (hc:lN pg n=some ⟨28,3,[.tmp 6],rlB cJ dF t st z⟩)
  (hv:∀x,aeU st (f x)) (hg:bM pg g=true) (hcp:∀i,caps.any (mP i)=false) (hcv:∀x∈caps,aH x=[]) (ho:RP g caps b one fun x=>.agg (f x)) (hw:∃r,dy b one r) (most:Nat) (hm:most<4294967296)
  (a:Nat) (e:Int) (ha:a≤b.length):aX pg n [.mp 1000 4 0 0,.int .i64 (most:Nat),.fn g caps] [(1000,ro true b a e)] sb
   (fun r' σ'=>r' = .ms 900 st 0 (pL b one most a e).1.length∧σ'=[(1000,ro true b ((pL b one most a e).2.1:Nat) (pL b one most a e).2.2),(900,⟨t,st,(pL b one most a e).1.map f,false⟩)]):=by
 refine jJ (ic:=rlB cJ dF t st z) ue hc rfl rfl ?_
 have q4:∀i x,x∈caps→mP i x=false:=fun i x hx=>by
  have:=hcp i
  rw [List.any_eq_false] at this
  simpa using this x hx
 simp only [go_sem,rlB]
 refine aA (YK hb most a e ha) ?_
 have hN:=yD (b:=b) (most:=most) (a:=a) (e:=e)
 have h0:pL b one most a e=([]++(pN one (pC b most a e).1 (pC b most a e).2.1 (pC b most a e).2.2).1,(pN one (pC b most a e).1 (pC b most a e).2.1 (pC b most a e).2.2).2):=rfl
 have hk:(pC b most a e).2.1≤b.length:=o9 ha
 generalize pL b one most a e=R at *
 generalize pC b most a e=c at *
 obtain ⟨N,a0,e0⟩:=c
 simp only at hN h0 hk ⊢
 refine aw (fun q:Nat×List α×Nat×Int=>⟨[(8,.int .i64 (q.1:Nat)),(7,.ms 900 st 0 q.2.1.length),(6,.nl),(0,.mp 1000 4 0 0),(1,.int .i64 (most:Nat)),(2,.fn g caps)],[(900,⟨t,st,q.2.1.map f,false⟩),(1000,ro true b q.2.2.1 q.2.2.2)]⟩)
  (fun q=>q.2.2.1≤b.length∧q.2.1.length+q.1≤N∧R=(q.2.1++(pN one q.1 q.2.2.1 q.2.2.2).1,(pN one q.1 q.2.2.1 q.2.2.2).2)) (fun q=>q.1) (N,[],a0,e0) ⟨hk,by simp,h0⟩ ((Wk.nil _ 7 900 st t (by simp only [go_sem]) (.inl (by decide))).trans (Wk.of ?_ ?_)) ?_
 ·simp only [go_sem,St.mknil];try (simp;exact q4 _)
 ·simp only [go_sem,St.mknil];try simp [go_sem]
 rintro ⟨m,l,a1,e1⟩ ⟨h1,h2,h3⟩
 simp only at h1 h2 h3
 have v2:∀x,(f x).length=st:=fun x=>(hv x).1
 have v3:∀x,(f x).all qh=true:=fun x=>(hv x).2.1
 have v5:∀x i,(f x).any (mC i)=false:=fun x i=>(hv x).2.2.2 i
 have happ:=fun ys=>cZ 900 t st l.length f l ys rfl
 by_cases hm1:(m:Int)>0
 rotate_left
 ·obtain rfl:m=0:=by omega
  simp only [go_sem,aQ hm1]
  subst h3
  refine jG [] (.ms 900 st 0 l.length) [(1000,ro true b a1 e1),(900,⟨t,st,l.map f,false⟩)] ⟨?_,?_⟩
  ·simp [pN,pP]
  ·simp [pN,pP,ro]
 obtain ⟨m,rfl⟩:∃k,m=k+1:=⟨m - 1,by omega⟩
 have hw1:IntKind.i64.wrap (((m+1:Nat):Int) - 1)=(m:Int):=by rw [wi (by omega) (by omega)];omega
 simp only [go_sem,aO hm1]
 refine ab (aP true b a1 e1) ?_
 by_cases he:e1=0
 rotate_left
 ·simp only [go_sem,pp he]
  rw [YF he] at h3
  subst h3
  refine jG [] (.ms 900 st 0 l.length) [(1000,ro true b a1 e1),(900,⟨t,st,l.map f,false⟩)] ⟨?_,?_⟩
  ·simp [pN,pP]
  ·simp [pN,pP,ro]
 subst he
 simp only [go_sem]
 rw [ap (J5 hg)]
 refine ⟨hg,?_⟩
 refine dW (ho a1 0 h1) ⟨by decide,by decide⟩ (hv _).2.2.1 hcv rfl rfl (by rfl) ?_
 rw [YE] at h3
 obtain ⟨r,hr⟩:=hw
 have hk2:=(hr a1 0 h1).1
 generalize one a1 0=y at *
 obtain ⟨x,a2,e2⟩:=y
 simp only at h3 hk2 ⊢
 simp only [go_sem,v2,v3,v5,hcp,happ,hw1]
 refine ⟨by omega,aG (m,l++[x],a2,e2) ⟨hk2,by simp;omega,by rw [h3];simp⟩ (show m<m+1 by omega) (Wk.of ?_ ?_)⟩
 ·simp only [go_sem];try simp
 ·simp only [go_sem];try simp [go_sem]
end
end Go.Proofs.YtdfofedlbljnhaaGreatDoor