import Derived.Test.YthhglklcaodfmaaGreatDoorQl
set_option linter.all false
set_option maxRecDepth 100000
set_option maxHeartbeats 40000000
namespace Go.Proofs.YthhglklcaodfmaaGreatDoor
open Go Go.Mw
def vo (t:Int):UInt8×Bool:=if t=1 then (127,true) else if t=2 then (126,true) else if t=3 then (112,true) else if t=4 then (111,true) else (0,false)
def ov (b:UInt8):Int×Bool:=if b=127 then (1,true) else if b=126 then (2,true) else if b=112 then (3,true) else if b=111 then (4,true) else (0,false)
def z0:bv:=⟨0,0,0,0,0,0,0,[],[]⟩
def same (t:Int):List Int→Nat
 | []=>0
 | x :: l=>if x=t then same t l+1 else 0
def mS (m:Md):List Int :=
 (if m.ts.length>0 then [1] else [])++(if m.ims.length>0 then [2] else [])++(if m.fs.length>0 then [3] else [])++(if m.tbs.length>0 then [4] else []) ++
 (if m.ms.length>0 then [5] else [])++(if m.gs.length>0 then [6] else [])++(if m.exs.length>0 then [7] else [])++(if m.hs=true then [8] else []) ++
 (if m.els.length>0 then [9] else [])++(if m.ds.length>0 then [10] else [])++(if m.fs.length>0 then [11] else [])++(if m.ds.length>0 then [12] else [])
def Aq (op:Int):Bool:=op==2||op==3||op==4
def qI (l:List Int) (i:Nat) (op:Int):List Int:=if Aq op then l++[(i:Int)] else if op==11 then l.dropLast else l
def bh (B:List bv):Nat→List Int
 | 0=>[-1]
 | i+1=>qI (bh B i) i (au B i).op
def oW (B:List bv) (i:Nat):Int:=au (bh B i) ((bh B i).length - 1)
def qG (B:List bv) (h:Int) (i:Nat):Bool:=(List.range i).any fun j=>decide (h<j)&&(au B j).op==5&&decide (0<(bh B j).length)&&oW B j==h
def cY (B:List bv) (i:Nat):Bool:=(au B i).op==5&&(decide (oW B i<0)||(au B (oW B i).toNat).op != 4||qG B (oW B i) i)
def fM (B:List bv) (i:Nat):Int:=if (bh B i).length=0 then 16 else if cY B i then 16 else if Aq (au B i).op&&decide (32≤(bh B i).length) then 6 else 0
def qm (B:List bv):Nat→Nat→Int×Int
 | _,0=>if 0<(bh B B.length).length then (B.length,3) else (0,0)
 | i,k+1=>if fM B i≠0 then (i,fM B i) else qm B (i+1) k
def nchk (B:List bv):Int×Int:=qm B 0 B.length
theorem At (B:List bv):∀i,(bh B i).length≤i+1
 | 0=>by simp [bh]
 | i+1=>by
  have:=At B i
  simp only [bh,qI]
  split
  ·simp;omega
  ·split
   ·simp;omega
   ·omega
theorem vY {l:List Int} {k:Nat} (h:k<l.length - 1):au l.dropLast k=au l k:=by
 rw [List.dropLast_eq_take,Av h]
theorem mR (B:List bv):∀(i:Nat),(∀j,j<i→0<(bh B j).length)→∀k,k<(bh B i).length→(k=0∧au (bh B i) k = -1)∨(0<k∧∃j:Nat,au (bh B i) k=j∧j<i∧bh B j=(bh B i).take k∧Aq (au B j).op=true)
 | 0,_,k,hk=>by
  simp only [bh,vK] at hk ⊢
  have:k=0:=by omega
  subst this
  exact .inl ⟨rfl,rfl⟩
 | i+1,hne,k,hk=>by
  have ih:=mR B i (fun j hj=>hne j (by omega)) k
  have h0:=hne i (by omega)
  simp only [bh] at hk ⊢
  unfold qI at hk ⊢
  by_cases hb:Aq (au B i).op
  ·rw [av hb] at hk ⊢
   simp only [ee,vK] at hk
   by_cases h2:k<(bh B i).length
   ·rw [xr h2,List.take_append_of_le_length (by omega)]
    rcases ih h2 with h | ⟨h3,j,h4,h5,h6,h7⟩
    ·exact .inl h
    ·exact .inr ⟨h3,j,h4,by omega,h6,h7⟩
   ·have hk2:k=(bh B i).length:=by omega
    subst hk2
    exact .inr ⟨h0,i,Au,by omega,by simp,hb⟩
  ·rw [ar hb] at hk ⊢
   by_cases h11:((au B i).op==11)=true
   ·rw [av h11] at hk ⊢
    simp only [List.length_dropLast] at hk
    rw [vY hk,List.dropLast_eq_take,List.take_take,Nat.min_eq_left (by omega)]
    rcases ih (by omega) with h | ⟨h3,j,h4,h5,h6,h7⟩
    ·exact .inl h
    ·exact .inr ⟨h3,j,h4,by omega,h6,h7⟩
   ·rw [ar h11] at hk ⊢
    rcases ih hk with h | ⟨h3,j,h4,h5,h6,h7⟩
    ·exact .inl h
    ·exact .inr ⟨h3,j,h4,by omega,h6,h7⟩
theorem xn {B:List bv} {i:Nat} (hne:∀j,j<i→0<(bh B j).length) (h0:0<(bh B i).length) :
  ((bh B i).length=1∧oW B i = -1)∨(1<(bh B i).length∧∃j:Nat,oW B i=j∧j<i∧bh B j=(bh B i).take ((bh B i).length - 1)∧Aq (au B j).op=true):=by
 rcases mR B i hne ((bh B i).length - 1) (by omega) with ⟨h1,h2⟩ | ⟨h1,h2⟩
 ·exact .inl ⟨by omega,h2⟩
 ·exact .inr ⟨by omega,h2⟩
theorem BV {B:List bv} {i:Nat} (hne:∀j,j<i→0<(bh B j).length) (h0:0<(bh B i).length):-1≤oW B i∧oW B i<i:=by
 rcases xn hne h0 with ⟨_,h⟩ | ⟨_,j,h,h2,_⟩<;>omega
theorem PA {B:List bv} {i:Nat} (h:fM B i=0):0<(bh B i).length:=by
 unfold fM at h
 split at h
 ·cases h
 ·omega
theorem K7 {B:List bv} {i:Nat} (h:fM B i=0):cY B i=false∧(Aq (au B i).op&&decide (32≤(bh B i).length))=false:=by
 unfold fM at h
 split at h
 ·cases h
 split at h
 ·cases h
 split at h
 ·cases h
 ·rename_i h1 h2 h3
  exact ⟨by simpa using h2,by simpa using h3⟩
theorem BS {B:List bv} {i k:Nat} (h:fM B i=0):qm B i (k+1)=qm B (i+1) k:=by simp [qm,h]
theorem BT {B:List bv} {i k:Nat} (h:fM B i≠0):qm B i (k+1)=((i:Int),fM B i):=by simp [qm,h]
theorem xm {B:List bv} {i:Nat} (hi:i≤B.length) (h:∀j,j<i→fM B j=0):nchk B=qm B i (B.length - i):=by
 induction i with
 | zero=>rfl
 | succ i ih =>
  rw [ih (by omega) (fun j hj=>h j (by omega)),show B.length - i=(B.length - (i+1))+1 by omega,BS (h i (by omega))]
theorem Dz {B:List bv} {i:Nat} (hi:i<B.length) (h:∀j,j<i→fM B j=0) (he:fM B i≠0):nchk B=((i:Int),fM B i):=by
 rw [xm (by omega) h,show B.length - i=(B.length - (i+1))+1 by omega,BT he]
theorem K5 {B:List bv} (h:∀j,j<B.length→fM B j=0):nchk B=if 0<(bh B B.length).length then ((B.length:Int),3) else (0,0):=by
 rw [xm (aO _) h,Nat.sub_self]
 rfl
section
theorem iz {P:Program} [aV P] {f:FuncId} {args:List AV} {r r':AV} (hp:aj P f args r) (hw:∀bl M w v,aR bl M w v r→aR bl M w v r') (hid:aI r'=[]):aj P f args r' :=
 fun bl MF w cargs h1 h2 h3 h4 h5=>(hp bl MF w cargs h1 h2 h3 h4 h5).mono fun e w' h=>by
  obtain ⟨v,r0,σ',bl',he,⟨rfl,rfl⟩,_,h6,h7,h8⟩:=h
  exact ⟨v,r',[],bl',he,⟨rfl,rfl⟩,⟨fun i hi=>(by rw [hid] at hi;cases hi),fun p hp=>absurd hp List.not_mem_nil⟩,h6,hw _ _ _ _ h7,h8⟩
def xI (p q:List Int):AV:=.agg [.sl 1 (p.map bp),.sl 1 (q.map bp)]
def vZ (op t:Int) (s:List UInt8):List Int×List Int :=
 if sD s [108,111,97,100]=true then ([1],[t]) else
 if sD s [115,116,111,114,101]=true then ([1,t],[]) else
 if (s==[101,113,122])=true then ([t],[1]) else
 if op≥70∧op≤90 then ([t,t],[1]) else
 if (s==[99,108,122])=true then ([t],[t]) else
 if (s==[99,116,122])=true then ([t],[t]) else
 if (s==[112,111,112,99,110,116])=true then ([t],[t]) else
 if sD s [101,120,116,101,110,100]=true then ([t],[t]) else ([t,t],[t])
attribute [local go_sem] ez bT
theorem FU (op t:Int) (s:List UInt8) (hs:s.length<1000000):aj Tryz.prog afv [.int .i64 op,.int .i64 t,.str s] (xI (vZ op t s).1 (vZ op t s).2):=by
 refine ac (ic:=SG.body) ap adP rfl rfl ?_
 unfold vZ xI
 simp only [go_sem,SG]
 refine aa (yN s [108,111,97,100] ⟨hs,by decide⟩) ?_
 cases q1:sD s [108,111,97,100]
 case true =>
  rw [av rfl]
  simp only [go_sem]
  refine a_ [10,12] ?_ (fY [1] [t]) (by simp [go_sem,ez]) ?_
  ·simp only [go_sem,aO]
   try rfl
  simp only [go_sem]
  exact an
 rw [ar (by decide)]
 simp only [go_sem]
 refine aa (yN s [115,116,111,114,101] ⟨hs,by decide⟩) ?_
 cases q2:sD s [115,116,111,114,101]
 case true =>
  rw [av rfl]
  simp only [go_sem]
  refine fC [.ms 18 1 0 2,.sl 1 []] ⟨.inl rfl,.inr (.inl ⟨rfl,1,rfl⟩),trivial⟩ ?_
  refine a_ [18] ?_ (fY [1,t] []) (by simp [go_sem,ez]) ?_
  ·simp only [go_sem,aO]
   try rfl
  simp only [go_sem]
  exact an
 rw [ar (by decide)]
 cases q3:s==[101,113,122]
 case true =>
  rw [av rfl]
  simp only [go_sem,q3]
  refine a_ [24,25] ?_ (fY [t] [1]) (by simp [go_sem,ez]) ?_
  ·simp only [go_sem,aO]
   try rfl
  simp only [go_sem]
  exact an
 rw [ar (by decide)]
 by_cases q4:op≥70∧op≤90
 ·rw [av q4]
  simp only [go_sem,q3,bH q4.1,bH q4.2]
  refine a_ [36,37] ?_ (fY [t,t] [1]) (by simp [go_sem,ez]) ?_
  ·simp only [go_sem,aO]
   try rfl
  simp only [go_sem]
  exact an
 rw [ar q4]
 by_cases q5:op≥70
 ·have q6:¬op≤90:=fun h=>q4 ⟨q5,h⟩
  simp only [go_sem,q3,bH q5,bF q6]
  cases q7:s==[99,108,122]
  case true =>
   rw [av rfl]
   simp only [go_sem,q7]
   refine a_ [55,57] ?_ (fY [t] [t]) (by simp [go_sem,ez]) ?_
   ·simp only [go_sem,aO]
    try rfl
   simp only [go_sem]
   exact an
  rw [ar (by decide)]
  cases q8:s==[99,116,122]
  case true =>
   rw [av rfl]
   simp only [go_sem,q7,q8]
   refine a_ [55,57] ?_ (fY [t] [t]) (by simp [go_sem,ez]) ?_
   ·simp only [go_sem,aO]
    try rfl
   simp only [go_sem]
   exact an
  rw [ar (by decide)]
  cases q9:s==[112,111,112,99,110,116]
  case true =>
   rw [av rfl]
   simp only [go_sem,q7,q8,q9]
   refine a_ [55,57] ?_ (fY [t] [t]) (by simp [go_sem,ez]) ?_
   ·simp only [go_sem,aO]
    try rfl
   simp only [go_sem]
   exact an
  rw [ar (by decide)]
  simp only [go_sem,q7,q8,q9]
  refine aa (yN s [101,120,116,101,110,100] ⟨hs,by decide⟩) ?_
  cases q10:sD s [101,120,116,101,110,100]
  case true =>
   rw [av rfl]
   simp only [go_sem]
   refine a_ [55,57] ?_ (fY [t] [t]) (by simp [go_sem,ez]) ?_
   ·simp only [go_sem,aO]
    try rfl
   simp only [go_sem]
   exact an
  rw [ar (by decide)]
  simp only [go_sem]
  refine a_ [61,63] ?_ (fY [t,t] [t]) (by simp [go_sem,ez]) ?_
  ·simp only [go_sem,aO]
   try rfl
  simp only [go_sem]
  exact an
 ·simp only [go_sem,q3,bF q5]
  cases q7:s==[99,108,122]
  case true =>
   rw [av rfl]
   simp only [go_sem,q7]
   refine a_ [55,57] ?_ (fY [t] [t]) (by simp [go_sem,ez]) ?_
   ·simp only [go_sem,aO]
    try rfl
   simp only [go_sem]
   exact an
  rw [ar (by decide)]
  cases q8:s==[99,116,122]
  case true =>
   rw [av rfl]
   simp only [go_sem,q7,q8]
   refine a_ [55,57] ?_ (fY [t] [t]) (by simp [go_sem,ez]) ?_
   ·simp only [go_sem,aO]
    try rfl
   simp only [go_sem]
   exact an
  rw [ar (by decide)]
  cases q9:s==[112,111,112,99,110,116]
  case true =>
   rw [av rfl]
   simp only [go_sem,q7,q8,q9]
   refine a_ [55,57] ?_ (fY [t] [t]) (by simp [go_sem,ez]) ?_
   ·simp only [go_sem,aO]
    try rfl
   simp only [go_sem]
   exact an
  rw [ar (by decide)]
  simp only [go_sem,q7,q8,q9]
  refine aa (yN s [101,120,116,101,110,100] ⟨hs,by decide⟩) ?_
  cases q10:sD s [101,120,116,101,110,100]
  case true =>
   rw [av rfl]
   simp only [go_sem]
   refine a_ [55,57] ?_ (fY [t] [t]) (by simp [go_sem,ez]) ?_
   ·simp only [go_sem,aO]
    try rfl
   simp only [go_sem]
   exact an
  rw [ar (by decide)]
  simp only [go_sem]
  refine a_ [61,63] ?_ (fY [t,t] [t]) (by simp [go_sem,ez]) ?_
  ·simp only [go_sem,aO]
   try rfl
  simp only [go_sem]
  exact an
def sgT:List (Int×List Int×List Int):=[(1,[],[]),(64525,[],[]),(64521,[],[]),(65,[],[1]),(63,[],[1]),(64528,[],[1]),(66,[],[2]),(210,[],[3]),(64,[1],[1]),(64523,[1,1,1],[]),(64522,[1,1,1],[]),(64520,[1,1,1],[]),(64526,[1,1,1],[]),(64524,[1,1,1],[]),(167,[2],[1]),(172,[1],[2]),(173,[1],[2])]
def mY (op:Int):List Int×List Int×Bool:=match sgT.find? (fun p=>p.1==op) with
 | some p=>(p.2.1,p.2.2,true)
 | none=>if (sD (ba op) [105,51,50,46]||sD (ba op) [105,54,52,46])=true then ((vZ op (if sD (ba op) [105,54,52]=true then 2 else 1) ((ba op).drop 4)).1,(vZ op (if sD (ba op) [105,54,52]=true then 2 else 1) ((ba op).drop 4)).2,true) else ([],[],false)
theorem yr (b:Bool) (bl:Nat→Option Nat) (M:Nat→Prop) (w:World) (v:Value) (h:aR bl M w v (.tup [.agg [.nl,.nl],.bool b])):aR bl M w v (.tup [xI [] [],.bool b]):=by
 obtain ⟨cs,rfl,h⟩:=h
 refine ⟨cs,rfl,?_⟩
 match cs,h with
 | [c,d],⟨h1,h2,_⟩=>exact ⟨yt (bl:=bl) (M:=M) (w:=w) (v:=c) (x:=.agg [.nl,.nl]) (y:=.agg [.sl 1 [],.sl 1 []]) (.inr (.inr ⟨_,_,rfl,rfl,.inr ⟨rfl,1,rfl⟩,.inr ⟨rfl,1,rfl⟩,trivial⟩)) h1,h2,trivial⟩
theorem Dg {s p:List UInt8} (h:sD s p=true):p.length≤s.length:=by
 simp only [sD,dV,qc] at h
 exact h.1
theorem VC (op:Int):aj Tryz.prog ZU [.int .i64 op] (.tup [xI (mY op).1 (mY op).2.1,.bool (mY op).2.2]):=by
 by_cases h0:op=1
 ·subst h0
  have r:mY 1=([],[],true):=rfl
  rw [r]
  refine iz (r:=.tup [.agg [.nl,.nl],.bool true]) ?_ (yr true) rfl
  refine ac (ic:=cj.body) ap fB rfl rfl ?_
  simp only [go_sem,cj]
  exact an
 by_cases h1:op=64525
 ·subst h1
  have r:mY 64525=([],[],true):=rfl
  rw [r]
  refine iz (r:=.tup [.agg [.nl,.nl],.bool true]) ?_ (yr true) rfl
  refine ac (ic:=cj.body) ap fB rfl rfl ?_
  simp only [go_sem,cj]
  exact an
 by_cases h2:op=64521
 ·subst h2
  have r:mY 64521=([],[],true):=rfl
  rw [r]
  refine iz (r:=.tup [.agg [.nl,.nl],.bool true]) ?_ (yr true) rfl
  refine ac (ic:=cj.body) ap fB rfl rfl ?_
  simp only [go_sem,cj]
  exact an
 by_cases h3:op=65
 ·subst h3
  have r:mY 65=([],[1],true):=rfl
  rw [r]
  unfold xI
  refine ac (ic:=cj.body) ap fB rfl rfl ?_
  simp only [go_sem,cj]
  refine fC [.sl 1 [],.ms 17 1 0 1] ⟨.inr (.inl ⟨rfl,1,rfl⟩),.inl rfl,trivial⟩ ?_
  refine a_ [17] ?_ (fY [] [1]) (by simp [go_sem,ez]) ?_
  ·simp only [go_sem,aO]
   try rfl
  simp only [go_sem]
  exact an
 by_cases h4:op=63
 ·subst h4
  have r:mY 63=([],[1],true):=rfl
  rw [r]
  unfold xI
  refine ac (ic:=cj.body) ap fB rfl rfl ?_
  simp only [go_sem,cj]
  refine fC [.sl 1 [],.ms 17 1 0 1] ⟨.inr (.inl ⟨rfl,1,rfl⟩),.inl rfl,trivial⟩ ?_
  refine a_ [17] ?_ (fY [] [1]) (by simp [go_sem,ez]) ?_
  ·simp only [go_sem,aO]
   try rfl
  simp only [go_sem]
  exact an
 by_cases h5:op=64528
 ·subst h5
  have r:mY 64528=([],[1],true):=rfl
  rw [r]
  unfold xI
  refine ac (ic:=cj.body) ap fB rfl rfl ?_
  simp only [go_sem,cj]
  refine fC [.sl 1 [],.ms 17 1 0 1] ⟨.inr (.inl ⟨rfl,1,rfl⟩),.inl rfl,trivial⟩ ?_
  refine a_ [17] ?_ (fY [] [1]) (by simp [go_sem,ez]) ?_
  ·simp only [go_sem,aO]
   try rfl
  simp only [go_sem]
  exact an
 by_cases h6:op=66
 ·subst h6
  have r:mY 66=([],[2],true):=rfl
  rw [r]
  unfold xI
  refine ac (ic:=cj.body) ap fB rfl rfl ?_
  simp only [go_sem,cj]
  refine fC [.sl 1 [],.ms 21 1 0 1] ⟨.inr (.inl ⟨rfl,1,rfl⟩),.inl rfl,trivial⟩ ?_
  refine a_ [21] ?_ (fY [] [2]) (by simp [go_sem,ez]) ?_
  ·simp only [go_sem,aO]
   try rfl
  simp only [go_sem]
  exact an
 by_cases h7:op=210
 ·subst h7
  have r:mY 210=([],[3],true):=rfl
  rw [r]
  unfold xI
  refine ac (ic:=cj.body) ap fB rfl rfl ?_
  simp only [go_sem,cj]
  refine fC [.sl 1 [],.ms 25 1 0 1] ⟨.inr (.inl ⟨rfl,1,rfl⟩),.inl rfl,trivial⟩ ?_
  refine a_ [25] ?_ (fY [] [3]) (by simp [go_sem,ez]) ?_
  ·simp only [go_sem,aO]
   try rfl
  simp only [go_sem]
  exact an
 by_cases h8:op=64
 ·subst h8
  have r:mY 64=([1],[1],true):=rfl
  rw [r]
  unfold xI
  refine ac (ic:=cj.body) ap fB rfl rfl ?_
  simp only [go_sem,cj]
  refine ⟨⟨by decide,by decide⟩,?_⟩
  refine a_ [6,31] ?_ (fY [1] [1]) (by simp [go_sem,ez]) ?_
  ·simp only [go_sem,aO]
   try rfl
  simp only [go_sem]
  exact an
 by_cases h9:op=64523
 ·subst h9
  have r:mY 64523=([1,1,1],[],true):=rfl
  rw [r]
  unfold xI
  refine ac (ic:=cj.body) ap fB rfl rfl ?_
  simp only [go_sem,cj]
  refine fC [.ms 6 1 0 3,.sl 1 []] ⟨.inl rfl,.inr (.inl ⟨rfl,1,rfl⟩),trivial⟩ ?_
  refine a_ [6] ?_ (fY [1,1,1] []) (by simp [go_sem,ez]) ?_
  ·simp only [go_sem,aO]
   try rfl
  simp only [go_sem]
  exact an
 by_cases h10:op=64522
 ·subst h10
  have r:mY 64522=([1,1,1],[],true):=rfl
  rw [r]
  unfold xI
  refine ac (ic:=cj.body) ap fB rfl rfl ?_
  simp only [go_sem,cj]
  refine fC [.ms 6 1 0 3,.sl 1 []] ⟨.inl rfl,.inr (.inl ⟨rfl,1,rfl⟩),trivial⟩ ?_
  refine a_ [6] ?_ (fY [1,1,1] []) (by simp [go_sem,ez]) ?_
  ·simp only [go_sem,aO]
   try rfl
  simp only [go_sem]
  exact an
 by_cases h11:op=64520
 ·subst h11
  have r:mY 64520=([1,1,1],[],true):=rfl
  rw [r]
  unfold xI
  refine ac (ic:=cj.body) ap fB rfl rfl ?_
  simp only [go_sem,cj]
  refine fC [.ms 6 1 0 3,.sl 1 []] ⟨.inl rfl,.inr (.inl ⟨rfl,1,rfl⟩),trivial⟩ ?_
  refine a_ [6] ?_ (fY [1,1,1] []) (by simp [go_sem,ez]) ?_
  ·simp only [go_sem,aO]
   try rfl
  simp only [go_sem]
  exact an
 by_cases h12:op=64526
 ·subst h12
  have r:mY 64526=([1,1,1],[],true):=rfl
  rw [r]
  unfold xI
  refine ac (ic:=cj.body) ap fB rfl rfl ?_
  simp only [go_sem,cj]
  refine fC [.ms 6 1 0 3,.sl 1 []] ⟨.inl rfl,.inr (.inl ⟨rfl,1,rfl⟩),trivial⟩ ?_
  refine a_ [6] ?_ (fY [1,1,1] []) (by simp [go_sem,ez]) ?_
  ·simp only [go_sem,aO]
   try rfl
  simp only [go_sem]
  exact an
 by_cases h13:op=64524
 ·subst h13
  have r:mY 64524=([1,1,1],[],true):=rfl
  rw [r]
  unfold xI
  refine ac (ic:=cj.body) ap fB rfl rfl ?_
  simp only [go_sem,cj]
  refine fC [.ms 6 1 0 3,.sl 1 []] ⟨.inl rfl,.inr (.inl ⟨rfl,1,rfl⟩),trivial⟩ ?_
  refine a_ [6] ?_ (fY [1,1,1] []) (by simp [go_sem,ez]) ?_
  ·simp only [go_sem,aO]
   try rfl
  simp only [go_sem]
  exact an
 by_cases h14:op=167
 ·subst h14
  have r:mY 167=([2],[1],true):=rfl
  rw [r]
  unfold xI
  refine ac (ic:=cj.body) ap fB rfl rfl ?_
  simp only [go_sem,cj]
  refine a_ [43,44] ?_ (fY [2] [1]) (by simp [go_sem,ez]) ?_
  ·simp only [go_sem,aO]
   try rfl
  simp only [go_sem]
  exact an
 by_cases h15:op=172
 ·subst h15
  have r:mY 172=([1],[2],true):=rfl
  rw [r]
  unfold xI
  refine ac (ic:=cj.body) ap fB rfl rfl ?_
  simp only [go_sem,cj]
  refine ⟨⟨by decide,by decide⟩,?_⟩
  refine a_ [6,51] ?_ (fY [1] [2]) (by simp [go_sem,ez]) ?_
  ·simp only [go_sem,aO]
   try rfl
  simp only [go_sem]
  exact an
 by_cases h16:op=173
 ·subst h16
  have r:mY 173=([1],[2],true):=rfl
  rw [r]
  unfold xI
  refine ac (ic:=cj.body) ap fB rfl rfl ?_
  simp only [go_sem,cj]
  refine ⟨⟨by decide,by decide⟩,?_⟩
  refine a_ [6,51] ?_ (fY [1] [2]) (by simp [go_sem,ez]) ?_
  ·simp only [go_sem,aO]
   try rfl
  simp only [go_sem]
  exact an
 have e:sgT.find? (fun p=>p.1==op)=none:=by
  simp only [sgT,List.find?_cons,List.find?_nil,ab (fun e:(1:Int)=op=>h0 e.symm),ab (fun e:(64525:Int)=op=>h1 e.symm),ab (fun e:(64521:Int)=op=>h2 e.symm),ab (fun e:(65:Int)=op=>h3 e.symm),ab (fun e:(63:Int)=op=>h4 e.symm),ab (fun e:(64528:Int)=op=>h5 e.symm),ab (fun e:(66:Int)=op=>h6 e.symm),ab (fun e:(210:Int)=op=>h7 e.symm),ab (fun e:(64:Int)=op=>h8 e.symm),ab (fun e:(64523:Int)=op=>h9 e.symm),ab (fun e:(64522:Int)=op=>h10 e.symm),ab (fun e:(64520:Int)=op=>h11 e.symm),ab (fun e:(64526:Int)=op=>h12 e.symm),ab (fun e:(64524:Int)=op=>h13 e.symm),ab (fun e:(167:Int)=op=>h14 e.symm),ab (fun e:(172:Int)=op=>h15 e.symm),ab (fun e:(173:Int)=op=>h16 e.symm)]
 have hl:=uh op
 cases q1:sD (ba op) [105,51,50,46]||sD (ba op) [105,54,52,46]
 ·have r:mY op=([],[],false):=by rw [mY,e];simp only [q1];rfl
  rw [r]
  refine iz (r:=.tup [.agg [.nl,.nl],.bool false]) ?_ (yr false) rfl
  refine ac (ic:=cj.body) ap fB rfl rfl ?_
  have q2:sD (ba op) [105,51,50,46]=false:=by
   cases h:sD (ba op) [105,51,50,46]
   ·rfl
   ·rw [h] at q1;cases q1
  rw [q2,oh] at q1
  have b1:=yN (ba op) [105,51,50,46] ⟨by omega,by decide⟩
  have b2:=yN (ba op) [105,54,52,46] ⟨by omega,by decide⟩
  rw [q2] at b1
  rw [q1] at b2
  simp only [go_sem,cj,ab h0,ab h1,ab h2,ab h3,ab h4,ab h5,ab h6,ab h7,ab h8,ab h9,ab h10,ab h11,ab h12,ab h13,ab h14,ab h15,ab h16]
  refine aa (sJ op) ?_
  simp only [go_sem]
  refine aa (b1) ?_
  simp only [go_sem]
  refine aa (b2) ?_
  simp only [go_sem]
  exact an
 ·have r:mY op=((vZ op (if sD (ba op) [105,54,52]=true then 2 else 1) ((ba op).drop 4)).1,(vZ op (if sD (ba op) [105,54,52]=true then 2 else 1) ((ba op).drop 4)).2,true):=by rw [mY,e];simp only [q1,dl]
  rw [r]
  refine ac (ic:=cj.body) ap fB rfl rfl ?_
  have hq4:4≤(ba op).length:=by
   rcases Bool.or_eq_true_iff.1 q1 with h | h
   ·exact Dg h
   ·exact Dg h
  have b1:=yN (ba op) [105,51,50,46] ⟨by omega,by decide⟩
  have b2:=yN (ba op) [105,54,52,46] ⟨by omega,by decide⟩
  have b3:=L8 (ba op) (by omega)
  generalize (if sD (ba op) [105,54,52]=true then (2:Int) else 1)=t at b3
  have e4:((ba op).drop 4).take ((ba op).length - 4)=(ba op).drop 4:=iq (by simp)
  have b4:=FU op t ((ba op).drop 4) (by simp;omega)
  unfold xI at b4 ⊢
  have n0:=sJ op
  generalize ba op=s at n0 b1 b2 b3 b4 hq4 e4 hl q1
  simp only [go_sem,cj,ab h0,ab h1,ab h2,ab h3,ab h4,ab h5,ab h6,ab h7,ab h8,ab h9,ab h10,ab h11,ab h12,ab h13,ab h14,ab h15,ab h16]
  refine aa (n0) ?_
  simp only [go_sem]
  refine aa (b1) ?_
  cases q2:sD s [105,51,50,46]
  ·rw [q2,oh] at q1
   rw [q1] at b2
   simp only [go_sem]
   refine aa (b2) ?_
   simp only [go_sem]
   refine bP b3 (by simp [go_sem]) rfl ?_
   simp only [go_sem]
   refine ⟨⟨by decide,by omega⟩,?_⟩
   refine aa (b4) ?_
   simp only [go_sem]
   exact an
  ·simp only [go_sem]
   refine bP b3 (by simp [go_sem]) rfl ?_
   simp only [go_sem]
   refine ⟨⟨by decide,by omega⟩,?_⟩
   refine aa (b4) ?_
   simp only [go_sem]
   exact an
end
structure Sp where
 ts:List Ft
 fs:List Int
 tb:List Tb
 ms:List Lm
 gs:List Gl
 el:List Int
 ds:Int
 im:List (Int×Int)
 de:List Int
def gU (k:Int):List (Int×Int)→List (Int×Int)
 | []=>[(k,1)]
 | e :: r=>if e.1=k then (k,e.2+1) :: r else e :: gU k r
def oi (k:Int):List (Int×Int)→Int
 | []=>0
 | e :: r=>if e.1=k then e.2 else oi k r
def qw (l:List Int) (i:Int):List Int:=if i∈l then l else l++[i]
def uu (l:List bv):List Int:=(l.filter fun x=>x.op==210).map (·.a)
def zL (m:Md):List Int:=(m.gs.flatMap fun g=>uu g.i)++(m.els.flatMap fun e=>e.it.flatMap uu)++((m.exs.filter fun e=>e.k==0).map (·.i))
def lV (m:Md):Sp where
 ts:=m.ts
 fs:=(m.ims.filter fun x=>x.k==0).map (·.f)++m.fs.map (·.t)
 tb:=(m.ims.filter fun x=>x.k==1).map (fun x=>⟨x.te,x.tl⟩)++m.tbs
 ms:=(m.ims.filter fun x=>x.k==2).map (·.me)++m.ms
 gs:=(m.ims.filter fun x=>x.k==3).map (·.g)++m.gs.map (·.g)
 el:=m.els.map (·.ty)
 ds:=m.ds.length
 im:=m.ims.foldl (fun l x=>gU x.k l) []
 de:=(zL m).foldl qw []
def cO {α:Type} (l:List α) (i:Int):Option α:=if 0≤i then l[i.toNat]? else none
def Sp.ty (s:Sp) (i:Int):Option Ft:=cO s.ts i
def Sp.fn (s:Sp) (i:Int):Option Ft:=(cO s.fs i).bind s.ty
def Sp.dec (s:Sp) (i:Int):Bool:=decide (0≤i∧i<s.fs.length)&&decide (i∈s.de)
def Sp.blk (s:Sp) (k v x:Int):Option Ft:=if k=0 then some ⟨[],[]⟩ else if k=1 then (if wj v then some ⟨[],[v]⟩ else none) else if k=2 then s.ty x else none
structure Sg where
 l:List Int
 lo:Bool
structure Sk where
 t:Sg
 u:List Sg
 ov:Bool
def bK:List Sg→List Int
 | []=>[]
 | g :: r=>bK r++g.l
def bR:List Sg→List (Int×Bool)
 | []=>[]
 | g :: r=>bR r++[(((bK r).length:Int),g.lo)]
def Sk.all (s:Sk):List Int:=bK (s.t :: s.u)
def gJ (lo:Bool):List Int→List Int→Option (List Int)×Int
 | ts,[]=>(some ts,0)
 | [],_ :: ws=>if lo then gJ lo [] ws else (none,13)
 | t :: ts,w :: ws=>if t≠w∧t≠0∧w≠0 then (none,12) else gJ lo ts ws
def Sk.left (s:Sk) (l:List Int):Option (List Int)×Int:=gJ s.t.lo s.t.l.reverse l.reverse
def Sk.want (s:Sk) (l:List Int):Int×Sk:=match s.left l with
 | (some r,_)=>(0,{ s with t:=⟨r.reverse,s.t.lo⟩ })
 | (none,e)=>(e,s)
def Sk.push (s:Sk) (l:List Int):Sk:={ s with t:=⟨s.t.l++l,s.t.lo⟩,ov:=s.ov||decide (((s.all.length+l.length:Nat):Int)>256) }
def Sk.pop (s:Sk):Int×Int×Sk:=match s.t.l.reverse with
 | t :: r=>(t,0,{ s with t:=⟨r.reverse,s.t.lo⟩ })
 | []=>if s.t.lo then (0,0,s) else (0,13,s)
def Sk.opn (s:Sk):Sk:={ s with t:=⟨[],false⟩,u:=s.t :: s.u }
def Sk.shut (s:Sk) (l:List Int):Int×Sk:=match s.left l with
 | (none,e)=>(e,s)
 | (some (_ :: _),_)=>(14,s)
 | (some [],_)=>match s.u with
  | []=>(0,{ s with t:=⟨[],false⟩ })
  | g :: r=>(0,{ s with t:=g,u:=r })
def Sk.loose (s:Sk):Sk:={ s with t:=⟨[],true⟩ }
structure Bk where
 k:Int
 t:Ft
 ot:Bool
 lv:Bool
instance:Inhabited Bk:=⟨⟨0,default,false,false⟩⟩
structure Ct where
 s:Sk
 bs:List Bk
 rs:List Int
 lv:Bool
 br:Int
def ju (rs:List Int):Ct:=⟨(⟨⟨[],false⟩,[],false⟩:Sk).opn,[⟨0,⟨[],rs⟩,false,true⟩],rs,true,0⟩
def Ct.broke (c:Ct) (e:Int):Int×Ct:=(e,{ c with br:=e })
def Ct.begin (c:Ct) (b:Bk):Ct:={ c with s:=c.s.opn.push b.t.ps,bs:=c.bs++[b],lv:=b.lv }
def Ct.enter2 (c:Ct) (op:Int) (t:Ft):Int×Ct :=
 if (c.s.want t.ps).1≠0 then ({ c with s:=(c.s.want t.ps).2 }:Ct).broke (c.s.want t.ps).1 else (0,({ c with s:=(c.s.want t.ps).2 }:Ct).begin ⟨op,t,false,c.lv⟩)
def Ct.enter (c:Ct) (op:Int) (t:Ft):Int×Ct :=
 if c.br≠0 then (c.br,c) else
 if op≠2∧op≠3∧op≠4 then (1,c) else
 if c.bs.length=0 then (16,c) else
 if op=4 then
  if (c.s.want [1]).1≠0 then ({ c with s:=(c.s.want [1]).2 }:Ct).broke (c.s.want [1]).1 else ({ c with s:=(c.s.want [1]).2 }:Ct).enter2 op t
 else c.enter2 op t
def Ct.top (c:Ct):Bk:=au c.bs (c.bs.length - 1)
def Ct.els (c:Ct):Int×Ct :=
 if c.br≠0 then (c.br,c) else
 if c.bs.length=0∨c.top.k≠4∨c.top.ot=true then (16,c) else
 if (c.s.shut c.top.t.rs).1≠0 then ({ c with s:=(c.s.shut c.top.t.rs).2 }:Ct).broke (c.s.shut c.top.t.rs).1 else
 (0,({ c with s:=(c.s.shut c.top.t.rs).2,bs:=c.bs.dropLast }:Ct).begin { c.top with ot:=true })
def Ct.leave (c:Ct):Int×Ct :=
 if c.br≠0 then (c.br,c) else
 if c.bs.length=0 then (16,c) else
 if (c.s.shut c.top.t.rs).1≠0 then ({ c with s:=(c.s.shut c.top.t.rs).2 }:Ct).broke (c.s.shut c.top.t.rs).1 else
 if c.top.k=4∧c.top.ot=false∧¬c.top.t.ps=c.top.t.rs then ({ c with s:=(c.s.shut c.top.t.rs).2,bs:=c.bs.dropLast }:Ct).broke 12 else
 (0,{ c with s:=(c.s.shut c.top.t.rs).2.push c.top.t.rs,bs:=c.bs.dropLast,lv:=c.top.lv })
def Ct.label (c:Ct) (n:Int):List Int×Int :=
 if c.br≠0 then ([],c.br) else if n<0∨n≥c.bs.length then ([],15) else
 if (au c.bs (c.bs.length - 1 - n.toNat)).k=3 then ((au c.bs (c.bs.length - 1 - n.toNat)).t.ps,0) else ((au c.bs (c.bs.length - 1 - n.toNat)).t.rs,0)
def Ct.retn (c:Ct):List Int:=if c.br≠0 then [] else c.rs
def Ct.dead (c:Ct):Ct:=if c.br≠0∨c.bs.length=0 then c else { c with s:=c.s.loose,lv:=false }
def oy (b:Bool) (x y:Int):Int:=if b=false then 11 else if x≠y then 12 else 0
def iU (b:Bool):Int:=if b then 0 else 11
def fS (s:Sp) (x:bv):Int :=
 if cX x.op=10 then oy ((cO s.tb x.a).isSome&&(cO s.tb x.b).isSome) ((cO s.tb x.a).getD default).e ((cO s.tb x.b).getD default).e else
 if cX x.op=11 then oy ((cO s.el x.a).isSome&&(cO s.tb x.b).isSome) ((cO s.el x.a).getD 0) ((cO s.tb x.b).getD default).e else
 if cX x.op=12 then iU (cO s.el x.a).isSome else
 if cX x.op=16 then iU (decide (x.a<s.ds)) else
 if cX x.op=15 then iU ((cO s.ms x.b).isSome&&decide (x.a<s.ds)) else
 if cX x.op=14 then (if (cO s.ms x.a).isSome=false then 11 else iU (cO s.ms x.b).isSome) else
 if cX x.op=13 then iU (cO s.ms x.b).isSome else
 if cX x.op=17 then (if (cO s.ms x.b).isSome=true∧x.a>jr (ik x.op) then 19 else iU (cO s.ms x.b).isSome) else 0
def fj (s:Sp) (lo:List Int) (x:bv):Ft×Int :=
 if cX x.op=4 then (match s.fn x.a with
  | none=>(default,11)
  | some f=>if x.op=16 then (f,0) else if s.dec x.a=false then (default,22) else (⟨[],[3]⟩,0)) else
 if cX x.op=5 then (match s.ty x.a,cO s.tb x.b with
  | some f,some t=>if t.e≠3 then (default,12) else (⟨f.ps++[1],f.rs⟩,0)
  | _,_=>(default,11)) else
 if cX x.op=6 then (⟨[au x.ty 0,au x.ty 0,1],[au x.ty 0]⟩,0) else
 if cX x.op=7 then (if x.a≥lo.length then (default,11) else
  if x.op=32 then (⟨[],[au lo x.a.toNat]⟩,0) else if x.op=33 then (⟨[au lo x.a.toNat],[]⟩,0) else (⟨[au lo x.a.toNat],[au lo x.a.toNat]⟩,0)) else
 if cX x.op=8 then (match cO s.gs x.a with
  | none=>(default,11)
  | some g=>if x.op=35 then (⟨[],[g.v]⟩,0) else if g.mu=false then (default,18) else (⟨[g.v],[]⟩,0)) else
 if cX x.op=9 then (match cO s.tb x.a with
  | none=>(default,11)
  | some t=>if x.op=37 then (⟨[1],[t.e]⟩,0) else if x.op=38 then (⟨[1,t.e],[]⟩,0) else if x.op=64527 then (⟨[t.e,1],[1]⟩,0) else if x.op=64529 then (⟨[1,t.e,1],[]⟩,0) else (⟨[],[1]⟩,0)) else
 if cX x.op=20 then (⟨[],[x.a]⟩,0) else
 if fS s x≠0 then (default,fS s x) else (⟨(mY x.op).1,(mY x.op).2.1⟩,0)
def j_ (k:Sk) (f:Ft):Int×Sk:=if (k.want f.ps).1≠0 then (k.want f.ps) else (0,(k.want f.ps).2.push f.rs)
def dH (c:Ct):List Int→List (List Int)×Int
 | []=>([],0)
 | n :: r=>if (c.label n).2≠0 then ([],(c.label n).2) else if (dH c r).2≠0 then dH c r else ((c.label n).1 :: (dH c r).1,0)
def lQ:Nat→Sk→List Int→List Int×Int×Sk
 | 0,k,l=>(l,0,k)
 | n+1,k,l=>if k.pop.2.1≠0 then (l,k.pop.2.1,k.pop.2.2) else lQ n k.pop.2.2 (k.pop.1 :: l)
def j7 (p:List Int) (l:List Int):Bool:=(p.zip l).all fun q=>q.1==0||q.1==q.2
def jX (c:Ct) (x:bv):Int×Ct :=
 let R:=dH c (x.lb++[x.a])
 if R.2≠0 then (R.2,c) else
 let last:=au R.1 (R.1.length - 1)
 if (R.1.all fun l=>l.length==last.length)=false then (12,c) else
 if (c.s.want [1]).1≠0 then ((c.s.want [1]).1,{ c with s:=(c.s.want [1]).2 }) else
 let P:=lQ last.length (c.s.want [1]).2 []
 if P.2.1≠0 then (P.2.1,{ c with s:=P.2.2 }) else
 if (R.1.all fun l=>j7 P.1 l)=false then (12,{ c with s:=P.2.2 }) else (0,{ c with s:=P.2.2 })
def je (r:Int×Ct):Int×Ct:=if r.1=0 then (0,r.2.dead) else r
def iW (c:Ct) (x:bv):Int×Ct :=
 let L:=if x.op≠15∧x.op≠14 then c.label x.a else (c.retn,0)
 if L.2≠0 then (L.2,c) else
 if x.op=14 then je (jX c x) else
 if x.op=13 then
  if (c.s.want [1]).1≠0 then ((c.s.want [1]).1,{ c with s:=(c.s.want [1]).2 }) else ((j_ (c.s.want [1]).2 ⟨L.1,L.1⟩).1,{ c with s:=(j_ (c.s.want [1]).2 ⟨L.1,L.1⟩).2 })
 else je ((c.s.want L.1).1,{ c with s:=(c.s.want L.1).2 })
def AH (t:Int):Bool:=t==3||t==4
def xu (k:Sk) (a:Int):Int×Sk :=
 if k.pop.2.1≠0 then (k.pop.2.1,k.pop.2.2) else
 if AH a=true∨AH k.pop.1=true∨(a≠k.pop.1∧a≠0∧k.pop.1≠0) then (12,k.pop.2.2) else
 (0,k.pop.2.2.push [if a=0 then k.pop.1 else a])
def um (k:Sk) (op:Int):Int×Sk :=
 if k.pop.2.1≠0 then (k.pop.2.1,k.pop.2.2) else
 if op=209 then (if k.pop.1=1∨k.pop.1=2 then (12,k.pop.2.2) else (0,k.pop.2.2.push [1])) else
 if op=27 then xu k.pop.2.2 k.pop.1 else (0,k.pop.2.2)
def iI (k:Sk) (op:Int):Int×Sk :=
 if op=27 then (if (k.want [1]).1≠0 then (k.want [1]) else um (k.want [1]).2 op) else um k op
def cK (c:Ct) (s:Sp) (lo:List Int) (x:bv):Int×Ct :=
 if jA x=false then (10,c) else
 if x.op=2∨x.op=3∨x.op=4 then (match s.blk x.k x.v x.x with
  | none=>(11,c)
  | some t=>c.enter x.op t) else
 if x.op=5 then c.els else
 if x.op=11 then c.leave else
 if x.op=0 then (0,c.dead) else
 if x.op=12∨x.op=13∨x.op=14∨x.op=15 then iW c x else
 if x.op=26∨x.op=27∨x.op=209 then ((iI c.s x.op).1,{ c with s:=(iI c.s x.op).2 }) else
 if (fj s lo x).2≠0 then ((fj s lo x).2,c) else
 ((j_ c.s (fj s lo x).1).1,{ c with s:=(j_ c.s (fj s lo x).1).2 })
def kf (s:Sp) (lo:List Int):Nat→List bv→Ct→Int×Int
 | _,[],_=>(0,0)
 | i,x :: r,c=>if (cK c s lo x).1≠0 then ((i:Int),(cK c s lo x).1) else if (cK c s lo x).2.s.ov=true then ((i:Int),6) else kf s lo (i+1) r (cK c s lo x).2
def gD (m:Md) (s:Sp) (f:Cd):Int×Int:=match s.ty f.t with
 | none=>(0,11)
 | some t=>if (nchk f.b).2≠0 then nchk f.b else kf s (t.ps++f.lo) 0 f.b (ju t.rs)
def kO (op:Int):Int:=if op=106∨op=107∨op=108 then 1 else if op=124∨op=125∨op=126 then 2 else 0
def jw (s:Sp) (x:bv) (gl:Int):Int×Int :=
 if x.op=65 then (1,0) else if x.op=66 then (2,0) else if x.op=208 then (x.a,0) else
 if x.op=210 then (if x.a<0∨x.a≥s.fs.length then (0,11) else if s.dec x.a=false then (0,22) else (3,0)) else
 if x.op=35 then (match cO s.gs x.a with
  | none=>(0,11)
  | some g=>if x.a≥gl∨g.mu=true then (0,17) else (g.v,0)) else (0,17)
def kG (s:Sp) (want gl:Int):Nat→List bv→List Int→Int×Int
 | i,[],_=>((i:Int),3)
 | i,x :: r,k =>
  if kO x.op≠0 then (match k with
   | a :: b :: k'=>if a≠kO x.op∨b≠kO x.op then ((i:Int),12) else kG s want gl (i+1) r (b :: k')
   | [a]=>if a≠kO x.op then ((i:Int),12) else ((i:Int),13)
   | []=>((i:Int),13)) else
  if x.op=11 then (if r≠[] then (((i+1:Nat):Int),16) else match k with
   | []=>((i:Int),13)
   | a :: k'=>if a≠want then ((i:Int),12) else if k'≠[] then ((i:Int),14) else (0,0)) else
  if (jw s x gl).2≠0 then ((i:Int),(jw s x gl).2) else kG s want gl (i+1) r ((jw s x gl).1 :: k)
def dX (s:Sp) (l:List bv) (want:Int):Int×Int:=kG s want (oi 3 s.im) 0 l []
def m0 (s:Sp) (k i:Int):Bool:=decide (0≤i)&&decide (i<(if k=0 then (s.fs.length:Int) else if k=1 then s.tb.length else if k=2 then s.ms.length else if k=3 then s.gs.length else 0))
def qT (s:Sp) (i:Int):Int×Int:=(0,if (s.ty i).isSome=true then 0 else 11)
def AZ (s:Sp) (x:Im):Int×Int:=if x.k≠0 then (0,0) else qT s x.f
def fT (s:Sp):List (List UInt8)→List Ex→List (Int×Int)
 | _,[]=>[]
 | seen,x :: r=>(if x.n∈seen then (0,21) else if m0 s x.k x.i=false then (0,11) else (0,0)) :: fT s (seen++[x.n]) r
def wh (s:Sp) (i:Int):Int×Int:=(0,match s.fn i with
 | none=>11
 | some f=>if f.ps.length+f.rs.length>0 then 23 else 0)
def lH (s:Sp) (ty:Int):List (List bv)→Int×Int
 | []=>(0,0)
 | l :: r=>if (dX s l ty).2≠0 then dX s l ty else lH s ty r
def ph (s:Sp) (x:El):Int×Int :=
 if x.mo=0 then (match cO s.tb x.tb with
  | none=>(0,11)
  | some t=>if t.e≠x.ty then (0,12) else if (dX s x.o 1).2≠0 then dX s x.o 1 else lH s x.ty x.it)
 else lH s x.ty x.it
def wg (s:Sp) (x:Da):Int×Int:=if x.mo≠0 then (0,0) else if m0 s 2 x.me=false then (0,11) else dX s x.o 1
def ey (p:List Int):Int→List Cu→List (Int×Int)
 | _,[]=>[]
 | last,x :: r=>(if x.af<last∨(x.af≠0∧x.af∉p) then (0,7) else (0,0)) :: ey p x.af r
def ck1 (m:Md) (s:Sp):Fa:=eL 2 0 (m.ims.map (AZ s)) Q6
def Wa (m:Md) (s:Sp):Fa:=eL 3 0 (m.fs.map fun f=>qT s f.t) (ck1 m s)
def ck3 (m:Md) (s:Sp):Fa:=eL 6 0 (m.gs.map fun g=>dX s g.i g.g.v) (Wa m s)
def Tj (m:Md) (s:Sp):Fa:=eL 7 0 (fT s [] m.exs) (ck3 m s)
def NY (m:Md) (s:Sp):Fa:=if m.hs=true then eL 8 0 [wh s m.st] (Tj m s) else Tj m s
def Ye (m:Md) (s:Sp):Fa:=eL 9 0 (m.els.map (ph s)) (NY m s)
def Wb (m:Md) (s:Sp):Fa:=eL 10 0 (m.ds.map (wg s)) (Ye m s)
def MQ (m:Md) (s:Sp):Fa:=eL 11 0 (ey (mS m) 0 m.cs) (Wb m s)
def QP (m:Md) (s:Sp):Fa:=eL 12 0 (m.fs.map (gD m s)) (MQ m s)
def dD (m:Md):Fa:=if (iF jA m).c≠0 then iF jA m else QP m (lV m)
section
def nA (p:Int×Int):AV×AV:=(.int .i64 p.1,.int .i64 p.2)
def ki (i:Int):AV×AV:=(.int .i64 i,.bool true)
def Wm (s:Sp):List AV:=[.sl 2 (s.ts.map jp),.sl 1 (s.fs.map bp),.sl 4 (s.tb.map ow),.sl 3 (s.ms.map nJ),.sl 2 (s.gs.map Dc),.sl 1 (s.el.map bp),.int .i64 s.ds,.fm (s.im.map nA),.fm (s.de.map ki)]
theorem aA (s:Sp):Wm s=[.sl 2 (s.ts.map jp),.sl 1 (s.fs.map bp),.sl 4 (s.tb.map ow),.sl 3 (s.ms.map nJ),.sl 2 (s.gs.map Dc),.sl 1 (s.el.map bp),.int .i64 s.ds,.fm (s.im.map nA),.fm (s.de.map ki)]:=rfl
def kj (s:Sp):AV:=.ip [.ip (Wm s)]
theorem aU (s:Sp):kj s = .ip [.ip (Wm s)]:=rfl
theorem tB (k:Int):∀es:List (Int×Int),dZ .i (.int .i64 k) (es.map nA)=some (es.findIdx? fun p=>k==p.1)
 | []=>rfl
 | e :: r=>by
  simp only [cF,dZ,nA,uJ,dl,List.findIdx?_cons]
  cases h:(k==e.1)
  ·simp only [tB k r]
   cases r.findIdx? (fun p=>k==p.1)<;>rfl
  ·rfl
theorem Kx (k:Int):∀(es:List (Int×Int)),(∀i,es.findIdx? (fun p=>k==p.1)=some i→∃e,es[i]? = some e∧e.2=oi k es)∧(es.findIdx? (fun p=>k==p.1)=none→oi k es=0)
 | []=>⟨(fun i h=>by cases h),fun _=>rfl⟩
 | e :: r=>by
  obtain ⟨h1,h2⟩:=Kx k r
  rw [List.findIdx?_cons]
  cases h:(k==e.1)
  ·have he:¬e.1=k:=fun q=>by rw [q,beq_self_eq_true] at h;cases h
   simp only [iR,fA,oi,ar he]
   refine ⟨fun i hi=>?_,fun hi=>h2 (by cases hq:r.findIdx? (fun p=>k==p.1) with | none=>rfl | some j=>rw [hq] at hi;cases hi)⟩
   cases hq:r.findIdx? (fun p=>k==p.1) with
   | none=>rw [hq] at hi;cases hi
   | some j =>
    rw [hq] at hi
    simp only [eH,bV] at hi
    subst hi
    obtain ⟨e',q1,q2⟩:=h1 j hq
    exact ⟨e',by rw [List.getElem?_cons_succ];exact q1,q2⟩
  ·have he:e.1=k:=(eq_of_beq h).symm
   simp only [dl,oi,av he]
   refine ⟨fun i hi=>?_,fun hi=>by cases hi⟩
   cases hi
   exact ⟨e,rfl,rfl⟩
theorem BO (K:AV→aT→Prop) (k:Int) (es:List (Int×Int)):Ky K false (.int .i64 0) (es.map nA) (dZ .i (.int .i64 k) (es.map nA))=K (.int .i64 (oi k es)) .no:=by
 obtain ⟨h1,h2⟩:=Kx k es
 rw [tB]
 cases h:es.findIdx? (fun p=>k==p.1) with
 | none=>simp only [Ky,h2 h,iR,fA]
 | some i =>
  obtain ⟨e,he,hv⟩:=h1 i h
  simp only [Ky,db,he,eH,nA,hv,iR,fA]
theorem tA (k:Int):∀es:List Int,dZ .i (.int .i64 k) (es.map ki)=some (es.findIdx? fun p=>k==p)
 | []=>rfl
 | e :: r=>by
  simp only [cF,dZ,ki,uJ,dl,List.findIdx?_cons]
  cases h:(k==e)
  ·simp only [tA k r]
   cases r.findIdx? (fun p=>k==p)<;>rfl
  ·rfl
theorem Kz (K:AV→aT→Prop) (k:Int) (es:List Int):Ky K false (.bool false) (es.map ki) (dZ .i (.int .i64 k) (es.map ki))=K (.bool (decide (k∈es))) .no:=by
 rw [tA]
 cases h:es.findIdx? (fun p=>k==p) with
 | none =>
  have hn:k∉es:=fun hk=>by
   have:=List.findIdx?_eq_none_iff.1 h k hk
   simp at this
  simp only [Ky,iR,fA,bF hn]
 | some i =>
  obtain ⟨hi,h1,_⟩:=List.findIdx?_eq_some_iff_getElem.1 h
  have hm:k∈es:=by
   have:k=es[i]:=by simpa using h1
   rw [this];exact List.getElem_mem hi
  simp only [Ky,db,gn hi,eH,ki,iR,fA,bH hm]
attribute [local go_sem] BO Kz
theorem gP {α:Type} {l:List α} {i:Int} (h:i<0∨i≥l.length):cO l i=none:=by
 unfold cO
 split
 ·exact List.getElem?_eq_none (by omega)
 ·rfl
theorem oA {α:Type} [Inhabited α] {l:List α} {n:Nat} (h:n<l.length):cO l (n:Int)=some (au l n):=by
 unfold cO
 rw [av (by omega),cZ,di h]
attribute [local go_sem] bT aY b_ bO
theorem abe (l:List Int) (i:Int):aj Tryz.prog Zy [.sl 1 (l.map bp),.int .i64 i] (.tup [.int .i64 ((cO l i).getD 0),.bool (cO l i).isSome]):=by
 refine ac (ic:=wB.body) ap Xe rfl rfl ?_
 have FF:=wB
 by_cases h0:i<0
 ·rw [gP (.inl h0)]
  simp only [go_sem,wB,bH h0]
  exact an
 by_cases h1:i≥(l.length:Int)
 ·rw [gP (.inr h1)]
  simp only [go_sem,wB,bF h0,bH h1]
  exact an
 obtain ⟨n,rfl⟩:∃n:Nat,i=(n:Int):=⟨i.toNat,by omega⟩
 have hn:n<l.length:=by omega
 rw [oA hn]
 simp only [go_sem,wB,bF h0,bF h1]
 refine ⟨by omega,by omega,?_⟩
 exact aN [] (by simp only [go_sem,cZ,Option.getD_some,Option.isSome_some]) (by first | rfl | simp [go_sem,bE])
end
section
theorem lN (x:Gl):Dc x=[.int .i64 x.v,.bool x.mu]:=rfl
attribute [local go_sem] lN BO Kz
theorem gR {α β:Type} (f:α→β) (l:List α):(l.map f).take l.length=l.map f:=iq (by simp)
theorem Qu {s:Sp} (h:∀x∈s.ts,x.ps.length≤1000000∧x.rs.length≤1000000) (i:Int):((s.ty i).getD default).ps.length≤1000000∧((s.ty i).getD default).rs.length≤1000000:=by
 unfold Sp.ty cO
 split
 ·cases hq:s.ts[i.toNat]? with
  | none=>exact ⟨ef _,ef _⟩
  | some x=>exact h x (gM hq)
 ·exact ⟨ef _,ef _⟩
attribute [local go_sem] bT aY b_ bO aU aA
theorem Rn (l:List Ft) (i:Int):aj Tryz.prog afb [.sl 2 (l.map jp),.int .i64 i] (.tup [.agg (jp ((cO l i).getD default)),.bool (cO l i).isSome]):=by
 refine ac (ic:=Hf.body) ap adh rfl rfl ?_
 by_cases h0:i<0
 ·rw [gP (.inl h0)]
  simp only [go_sem,Hf,bH h0]
  exact iQ (Wk.nlh _ 4 (r:=[.nl,.nl]) (r':=[.sl 1 [],.sl 1 []]) (by rfl) ⟨.inr ⟨rfl,1,rfl⟩,.inr ⟨rfl,1,rfl⟩,trivial⟩) [] (by rfl) rfl
 by_cases h1:i≥(l.length:Int)
 ·rw [gP (.inr h1)]
  simp only [go_sem,Hf,bF h0,bH h1]
  exact iQ (Wk.nlh _ 4 (r:=[.nl,.nl]) (r':=[.sl 1 [],.sl 1 []]) (by rfl) ⟨.inr ⟨rfl,1,rfl⟩,.inr ⟨rfl,1,rfl⟩,trivial⟩) [] (by rfl) rfl
 obtain ⟨n,rfl⟩:∃n:Nat,i=(n:Int):=⟨i.toNat,by omega⟩
 have hn:n<l.length:=by omega
 rw [oA hn]
 simp only [go_sem,Hf,bF h0,bF h1]
 refine ⟨by omega,by omega,?_⟩
 exact aN [] (by simp only [go_sem,cZ,Option.getD_some,Option.isSome_some]) (by first | rfl | simp [go_sem,bE])
theorem abg (l:List Tb) (i:Int):aj Tryz.prog aeU [.sl 4 (l.map ow),.int .i64 i] (.tup [.agg (ow ((cO l i).getD default)),.bool (cO l i).isSome]):=by
 refine ac (ic:=Hd.body) ap acV rfl rfl ?_
 by_cases h0:i<0
 ·rw [gP (.inl h0)]
  simp only [go_sem,Hd,bH h0]
  exact an
 by_cases h1:i≥(l.length:Int)
 ·rw [gP (.inr h1)]
  simp only [go_sem,Hd,bF h0,bH h1]
  exact an
 obtain ⟨n,rfl⟩:∃n:Nat,i=(n:Int):=⟨i.toNat,by omega⟩
 have hn:n<l.length:=by omega
 rw [oA hn]
 simp only [go_sem,Hd,bF h0,bF h1]
 refine ⟨by omega,by omega,?_⟩
 exact aN [] (by simp only [go_sem,cZ,Option.getD_some,Option.isSome_some]) (by first | rfl | simp [go_sem,bE])
theorem abf (l:List Lm) (i:Int):aj Tryz.prog aeM [.sl 3 (l.map nJ),.int .i64 i] (.tup [.agg (nJ ((cO l i).getD default)),.bool (cO l i).isSome]):=by
 refine ac (ic:=Hc.body) ap acJ rfl rfl ?_
 by_cases h0:i<0
 ·rw [gP (.inl h0)]
  simp only [go_sem,Hc,bH h0]
  exact an
 by_cases h1:i≥(l.length:Int)
 ·rw [gP (.inr h1)]
  simp only [go_sem,Hc,bF h0,bH h1]
  exact an
 obtain ⟨n,rfl⟩:∃n:Nat,i=(n:Int):=⟨i.toNat,by omega⟩
 have hn:n<l.length:=by omega
 rw [oA hn]
 simp only [go_sem,Hc,bF h0,bF h1]
 refine ⟨by omega,by omega,?_⟩
 exact aN [] (by simp only [go_sem,cZ,Option.getD_some,Option.isSome_some]) (by first | rfl | simp [go_sem,bE])
theorem abd (l:List Gl) (i:Int):aj Tryz.prog aeL [.sl 2 (l.map Dc),.int .i64 i] (.tup [.agg (Dc ((cO l i).getD default)),.bool (cO l i).isSome]):=by
 refine ac (ic:=Hb.body) ap acI rfl rfl ?_
 by_cases h0:i<0
 ·rw [gP (.inl h0)]
  simp only [go_sem,Hb,bH h0]
  exact an
 by_cases h1:i≥(l.length:Int)
 ·rw [gP (.inr h1)]
  simp only [go_sem,Hb,bF h0,bH h1]
  exact an
 obtain ⟨n,rfl⟩:∃n:Nat,i=(n:Int):=⟨i.toNat,by omega⟩
 have hn:n<l.length:=by omega
 rw [oA hn]
 simp only [go_sem,Hb,bF h0,bF h1]
 refine ⟨by omega,by omega,?_⟩
 exact aN [] (by simp only [go_sem,cZ,Option.getD_some,Option.isSome_some]) (by first | rfl | simp [go_sem,bE])
theorem abh (l:List Int) (i:Int):aj Tryz.prog afk [.sl 1 (l.map bp),.int .i64 i] (.tup [.int .i64 ((cO l i).getD 0),.bool (cO l i).isSome]):=by
 refine ac (ic:=Hj.body) ap adt rfl rfl ?_
 by_cases h0:i<0
 ·rw [gP (.inl h0)]
  simp only [go_sem,Hj,bH h0]
  exact an
 by_cases h1:i≥(l.length:Int)
 ·rw [gP (.inr h1)]
  simp only [go_sem,Hj,bF h0,bH h1]
  exact an
 obtain ⟨n,rfl⟩:∃n:Nat,i=(n:Int):=⟨i.toNat,by omega⟩
 have hn:n<l.length:=by omega
 rw [oA hn]
 simp only [go_sem,Hj,bF h0,bF h1]
 refine ⟨by omega,by omega,?_⟩
 exact aN [] (by simp only [go_sem,cZ,Option.getD_some,Option.isSome_some]) (by first | rfl | simp [go_sem,bE])
theorem dT (s:Sp):aj Tryz.prog aeS [kj s] (.ip (Wm s)):=by
 refine ac (ic:=RY.body) ap acP rfl rfl ?_
 simp only [go_sem,RY]
 exact an
theorem uG (s:Sp):aj Tryz.prog aeQ [kj s] (.int .i64 (s.fs.length:Int)):=by
 refine ac (ic:=RW.body) ap acN rfl rfl ?_
 have c:=dT s
 simp only [aU,aA] at c
 simp only [go_sem,RW]
 refine aa (c) ?_
 simp only [go_sem]
 exact ak
theorem FT (s:Sp):aj Tryz.prog aeH [kj s] (.int .i64 (s.tb.length:Int)):=by
 refine ac (ic:=RS.body) ap acD rfl rfl ?_
 have c:=dT s
 simp only [aU,aA] at c
 simp only [go_sem,RS]
 refine aa (c) ?_
 simp only [go_sem]
 exact ak
theorem Qd (s:Sp):aj Tryz.prog ae4 [kj s] (.int .i64 (s.ms.length:Int)):=by
 refine ac (ic:=R7.body) ap ac6 rfl rfl ?_
 have c:=dT s
 simp only [aU,aA] at c
 simp only [go_sem,R7]
 refine aa (c) ?_
 simp only [go_sem]
 exact ak
theorem B8 (s:Sp):aj Tryz.prog aeC [kj s] (.int .i64 (s.gs.length:Int)):=by
 refine ac (ic:=RN.body) ap act rfl rfl ?_
 have c:=dT s
 simp only [aU,aA] at c
 simp only [go_sem,RN]
 refine aa (c) ?_
 simp only [go_sem]
 exact ak
theorem Me (s:Sp):aj Tryz.prog aeP [kj s] (.int .i64 s.ds):=by
 refine ac (ic:=RV.body) ap acM rfl rfl ?_
 have c:=dT s
 simp only [aU,aA] at c
 simp only [go_sem,RV]
 refine aa (c) ?_
 simp only [go_sem]
 exact ak
theorem kX (s:Sp) (i:Int):aj Tryz.prog aeR [kj s,.int .i64 i] (.tup [.agg (ow ((cO s.tb i).getD default)),.bool (cO s.tb i).isSome]):=by
 refine ac (ic:=RX.body) ap acO rfl rfl ?_
 have c:=dT s
 simp only [aU,aA] at c
 have c2:=abg s.tb i
 generalize cO s.tb i=q at c2 ⊢
 simp only [go_sem,RX]
 refine aa (c) ?_
 simp only [go_sem]
 refine aa (c2) ?_
 simp only [go_sem]
 exact ak
theorem Ml (s:Sp) (i:Int):aj Tryz.prog afg [kj s,.int .i64 i] (.tup [.agg (nJ ((cO s.ms i).getD default)),.bool (cO s.ms i).isSome]):=by
 refine ac (ic:=Sf.body) ap adn rfl rfl ?_
 have c:=dT s
 simp only [aU,aA] at c
 have c2:=abf s.ms i
 generalize cO s.ms i=q at c2 ⊢
 simp only [go_sem,Sf]
 refine aa (c) ?_
 simp only [go_sem]
 refine aa (c2) ?_
 simp only [go_sem]
 exact ak
theorem xH (s:Sp) (i:Int):aj Tryz.prog aeG [kj s,.int .i64 i] (.tup [.agg (Dc ((cO s.gs i).getD default)),.bool (cO s.gs i).isSome]):=by
 refine ac (ic:=RR.body) ap acC rfl rfl ?_
 have c:=dT s
 simp only [aU,aA] at c
 have c2:=abd s.gs i
 generalize cO s.gs i=q at c2 ⊢
 simp only [go_sem,RR]
 refine aa (c) ?_
 simp only [go_sem]
 refine aa (c2) ?_
 simp only [go_sem]
 exact ak
theorem Qg (s:Sp) (i:Int):aj Tryz.prog ae2 [kj s,.int .i64 i] (.tup [.int .i64 ((cO s.el i).getD 0),.bool (cO s.el i).isSome]):=by
 refine ac (ic:=R5.body) ap ac4 rfl rfl ?_
 have c:=dT s
 simp only [aU,aA] at c
 have c2:=abh s.el i
 generalize cO s.el i=q at c2 ⊢
 simp only [go_sem,R5]
 refine aa (c) ?_
 simp only [go_sem]
 refine aa (c2) ?_
 simp only [go_sem]
 exact ak
theorem AK (x:Ft) (h:x.ps.length≤1000000∧x.rs.length≤1000000):aj Tryz.prog Rb [.agg (jp x)] (.agg (jp x)):=by
 refine ac (ic:=zb.body) ap QN rfl rfl ?_
 simp only [go_sem,zb]
 refine BH (x.ps.map bp) (Ta rfl (by rfl) (by simp only [bT];omega)) (by simp only [go_sem]) (by simp only [go_sem]) ?_
 simp only [go_sem]
 refine ⟨by omega,aN [8] ?_ rfl⟩
 simp only [go_sem,aO,gR]
theorem FS (x:Ft) (h:x.ps.length≤1000000∧x.rs.length≤1000000):bu Tryz.prog Rb [.agg (jp x)] [] (fun id=>1000≤id∧id<2000) (fun r σ'=>r = .agg [.ms 5 1 0 x.ps.length,.sl 1 (x.rs.map bp)]∧σ'=[(5,⟨48,1,x.ps.map bp,false⟩)]):=by
 refine aB (ic:=zb.body) ap QN rfl rfl ?_
 simp only [go_sem,zb]
 refine zZ ?_
 simp only [go_sem]
 refine ⟨by omega,by omega,?_⟩
 refine done [8] _ [(5,⟨48,1,x.ps.map bp,false⟩)] ?_ (by simp only [go_sem]) rfl ⟨rfl,rfl⟩
 simp only [go_sem,aO,gR]
theorem yM (s:Sp) (i:Int) (h:∀x∈s.ts,x.ps.length≤1000000∧x.rs.length≤1000000):aj Tryz.prog aax [kj s,.int .i64 i] (.tup [.agg (jp ((s.ty i).getD default)),.bool (s.ty i).isSome]):=by
 refine ac (ic:=He.body) ap Yb rfl rfl ?_
 have c:=dT s
 simp only [aU,aA] at c
 have c2:=Rn s.ts i
 have hb:((s.ty i).getD default).ps.length≤1000000∧((s.ty i).getD default).rs.length≤1000000:=Qu h i
 have c3:=AK ((s.ty i).getD default) hb
 rw [show cO s.ts i=s.ty i from rfl] at c2
 generalize s.ty i=q at c2 c3 ⊢
 simp only [aY] at c2 c3
 simp only [go_sem,He]
 refine aa (c) ?_
 simp only [go_sem]
 refine aa (c2) ?_
 simp only [go_sem]
 refine aa (c3) ?_
 simp only [go_sem]
 exact ak
theorem P8 (s:Sp) (i:Int) (h:∀x∈s.ts,x.ps.length≤1000000∧x.rs.length≤1000000):bu Tryz.prog aax [kj s,.int .i64 i] [] (fun id=>1000≤id∧id<2000) (fun r σ'=>r = .tup [.agg [.ms 905 1 0 ((s.ty i).getD default).ps.length,.sl 1 (((s.ty i).getD default).rs.map bp)],.bool (s.ty i).isSome]∧σ'=[(905,⟨48,1,((s.ty i).getD default).ps.map bp,false⟩)]):=by
 refine aB (ic:=He.body) ap Yb rfl rfl ?_
 have c:=dT s
 simp only [aU,aA] at c
 have c2:=Rn s.ts i
 have hb:((s.ty i).getD default).ps.length≤1000000∧((s.ty i).getD default).rs.length≤1000000:=Qu h i
 have c3:=FS ((s.ty i).getD default) hb
 rw [show cO s.ts i=s.ty i from rfl] at c2
 generalize s.ty i=q at c2 c3 ⊢
 simp only [aY] at c2 c3
 simp only [go_sem,He]
 refine aa (c) ?_
 simp only [go_sem]
 refine aa (c2) ?_
 simp only [go_sem]
 refine eR (σ2:=[]) (r3:=.agg [.ms 905 1 0 (q.getD default).ps.length,.sl 1 ((q.getD default).rs.map bp)]) (σ3:=[(905,⟨48,1,(q.getD default).ps.map bp,false⟩)]) c3 [(5,905)] [905] rfl rfl rfl rfl (fun p hp=>by cases hp) ?_ (fun p hp=>by cases hp) ?_
 ·intro p hp
  simp only [du] at hp
  subst hp
  exact .inr ⟨by simp,.inl (show 905<1000 by decide),.inr (by simp only [go_sem])⟩
 simp only [go_sem]
 exact aG [] _ [(905,⟨48,1,(q.getD default).ps.map bp,false⟩)] ⟨rfl,rfl⟩
theorem L4 (s:Sp) (i:Int) (h:∀x∈s.ts,x.ps.length≤1000000∧x.rs.length≤1000000):aj Tryz.prog ae3 [kj s,.int .i64 i] (.tup [.agg (jp ((s.fn i).getD default)),.bool (s.fn i).isSome]):=by
 refine ac (ic:=R6.body) ap ac5 rfl rfl ?_
 have c:=dT s
 have c2:=abe s.fs i
 have c3:=yM s ((cO s.fs i).getD 0) h
 rw [show s.fn i=(cO s.fs i).bind s.ty from rfl]
 simp only [aU,aA,aY] at c c3
 generalize cO s.fs i=q at c2 c3 ⊢
 simp only [go_sem,R6]
 refine aa (c) ?_
 simp only [go_sem]
 refine aa (c2) ?_
 simp only [go_sem]
 cases q with
 | none =>
  simp only [go_sem,Option.isSome_none,Option.bind_none]
  exact iQ (Wk.nlh _ 4 (r:=[.nl,.nl]) (r':=[.sl 1 [],.sl 1 []]) (by rfl) ⟨.inr ⟨rfl,1,rfl⟩,.inr ⟨rfl,1,rfl⟩,trivial⟩) [] (by rfl) rfl
 | some k =>
  simp only [go_sem,Option.isSome_some,Option.getD_some,Option.bind_some]
  refine aa (c3) ?_
  simp only [go_sem]
  exact ak
theorem B7 (s:Sp) (k:Int):aj Tryz.prog nX9 [kj s,.int .i64 k] (.int .i64 (oi k s.im)):=by
 refine ac (ic:=FX9.body) ap cX9 rfl rfl ?_
 have c:=dT s
 simp only [aU,aA] at c
 simp only [go_sem,FX9]
 refine aa (c) ?_
 simp only [go_sem]
 exact ak
theorem uF (s:Sp) (i:Int):aj Tryz.prog nX8 [kj s,.int .i64 i] (.bool (s.dec i)):=by
 refine ac (ic:=FX8.body) ap cX8 rfl rfl ?_
 have c:=dT s
 have c2:=uG s
 simp only [aU,aA] at c c2
 unfold Sp.dec
 by_cases h0:i≥0
 rotate_left
 ·rw [bF (show ¬(0≤i∧i<(s.fs.length:Int)) by omega),gp]
  simp only [go_sem,FX8,bF h0]
  exact ak
 simp only [go_sem,FX8,bH h0]
 refine aa (c2) ?_
 by_cases h1:i<(s.fs.length:Int)
 rotate_left
 ·rw [bF (show ¬(0≤i∧i<(s.fs.length:Int)) by omega),gp]
  simp only [go_sem,bF h1]
  exact ak
 rw [bH (show 0≤i∧i<(s.fs.length:Int) by omega),fV]
 simp only [go_sem,bH h1]
 refine aa (c) ?_
 simp only [go_sem]
 exact ak
theorem DJ (s:Sp) (k v x:Int) (h:∀x∈s.ts,x.ps.length≤1000000∧x.rs.length≤1000000):aj Tryz.prog aeO [kj s,.agg [.int .i64 k,.int .i64 v,.int .i64 x]] (.tup [.agg (jp ((s.blk k v x).getD default)),.bool (s.blk k v x).isSome]):=by
 refine ac (ic:=D1.body) ap acL rfl rfl ?_
 have c2:=KT v
 have c3:=yM s x h
 simp only [aU,aA,aY] at c3
 unfold Sp.blk
 by_cases h0:k=0
 ·subst h0
  simp only [go_sem,D1]
  exact iQ (Wk.nlh _ 4 (r:=[.nl,.nl]) (r':=[.sl 1 [],.sl 1 []]) (by rfl) ⟨.inr ⟨rfl,1,rfl⟩,.inr ⟨rfl,1,rfl⟩,trivial⟩) [] (by rfl) rfl
 by_cases h1:k=1
 ·subst h1
  simp only [go_sem,D1]
  refine aa (c2) ?_
  cases wj v
  ·simp only [go_sem]
   exact iQ (Wk.nlh _ 4 (r:=[.nl,.nl]) (r':=[.sl 1 [],.sl 1 []]) (by rfl) ⟨.inr ⟨rfl,1,rfl⟩,.inr ⟨rfl,1,rfl⟩,trivial⟩) [] (by rfl) rfl
  ·simp only [go_sem]
   exact iQ (Wk.nlm _ 4 (r:=[.nl,.ms 28 1 0 1]) (r':=[.sl 1 [],.ms 28 1 0 1]) (by rfl) ⟨.inr ⟨rfl,.inl ⟨1,rfl⟩⟩,.inl rfl,trivial⟩) [28] (by simp only [go_sem];rfl) rfl
 by_cases h2:k=2
 ·subst h2
  rw [ar h0,ar h1,av rfl]
  simp only [go_sem,D1]
  refine aa (c3) ?_
  simp only [go_sem]
  exact ak
 rw [ar h0,ar h1,ar h2]
 simp only [go_sem,D1,ab h0,ab h1,ab h2]
 exact iQ (Wk.nlh _ 4 (r:=[.nl,.nl]) (r':=[.sl 1 [],.sl 1 []]) (by rfl) ⟨.inr ⟨rfl,1,rfl⟩,.inr ⟨rfl,1,rfl⟩,trivial⟩) [] (by rfl) rfl
end
end Go.Proofs.YthhglklcaodfmaaGreatDoor