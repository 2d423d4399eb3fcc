import Derived.Test.YtjndcljjbpeljaaGreatDoorPQx
set_option linter.all false
set_option maxRecDepth 100000
set_option maxHeartbeats 40000000
namespace Go.Proofs.YtjndcljjbpeljaaGreatDoor
section
open Go Go.Mw
attribute [local go_sem] wx
end
section
open Go Go.Mw
instance:Inhabited Fa:=⟨dq⟩
def faR (F:Fa):List AV:=[.int .i64 F.p,.int .i64 F.i,.int .i64 F.l,.int .i64 F.c]
theorem K7 (F:Fa):faR F=[.int .i64 F.p,.int .i64 F.i,.int .i64 F.l,.int .i64 F.c]:=rfl
theorem Oa {l:List Fa} {i:Nat} (h:i<l.length):k6 (l.drop i)=if (ah l i).c≠0 then ah l i else k6 (l.drop (i+1)):=by
 rw [eb h,k6]
attribute [local go_sem] cY aV dQ iQ K7
theorem Fr (P:bz→Bool) (m:Md) (h:oN m) (hP:∀y,Kx y→ae Tryz.prog mw [jF y] (.bool (P y))):ae Tryz.prog ZI [bJ m] (dQ (pG P m)):=by
 rw [wQ P m h]
 refine ab (ic:=M0.body) aq X1 rfl rfl ?_
 have d1:=Vm m h
 have d2:=PT m h
 have d3:=Vb m h
 have d4:=Vl m h
 have d5:=Vi m h
 have d6:=Vh P m h hP
 have d7:=Vg m h
 have d8:=Kg m
 have d9:=Ve P m h hP
 have d10:=Vd P m h hP
 have d11:=Vc m h
 have d12:=Fq P m h hP
 unfold Kj
 generalize Q2 m=F1 at d1 ⊢
 generalize QO m=F2 at d2 ⊢
 generalize QF m=F3 at d3 ⊢
 generalize Q0 m=F4 at d4 ⊢
 generalize QW m=F5 at d5 ⊢
 generalize QL P m=F6 at d6 ⊢
 generalize QK m=F7 at d7 ⊢
 generalize KA m=F8 at d8 ⊢
 generalize QI P m=F9 at d9 ⊢
 generalize QH P m=F10 at d10 ⊢
 generalize QG m=F11 at d11 ⊢
 generalize HV P m=F12 at d12 ⊢
 simp only [dQ,bJ,aV] at d1 d2 d3 d4 d5 d6 d7 d8 d9 d10 d11 d12
 obtain ⟨L,hL⟩:∃L,L=[F1,F2,F3,F4,F5,F6,F7,F8,F9,F10,F11,F12]:=⟨_,rfl⟩
 rw [← hL]
 obtain ⟨G,hG⟩:∃G,k6 L=G:=⟨_,rfl⟩
 rw [hG]
 have hlen:L.length=12:=by rw [hL];rfl
 simp only [go_sem,M0,bJ]
 refine aB d1 (by simp [go_sem]) rfl ?_
 simp only [go_sem]
 refine aB d2 (by simp [go_sem]) rfl ?_
 simp only [go_sem]
 refine aB d3 (by simp [go_sem]) rfl ?_
 simp only [go_sem]
 refine aB d4 (by simp [go_sem]) rfl ?_
 simp only [go_sem]
 refine aB d5 (by simp [go_sem]) rfl ?_
 simp only [go_sem]
 refine aB d6 (by simp [go_sem]) rfl ?_
 simp only [go_sem]
 refine aB d7 (by simp [go_sem]) rfl ?_
 simp only [go_sem]
 refine aB d8 (by simp [go_sem]) rfl ?_
 simp only [go_sem]
 refine aB d9 (by simp [go_sem]) rfl ?_
 simp only [go_sem]
 refine aB d10 (by simp [go_sem]) rfl ?_
 simp only [go_sem]
 refine aB d11 (by simp [go_sem]) rfl ?_
 simp only [go_sem]
 refine aa (d12) ?_
 simp only [go_sem]
 refine an (fun j:Nat=>⟨[(4,.int .i64 j),(3,.ms 29 4 0 12),(2,.mp 2 4 0 0)],[(29,⟨73,4,L.map faR,false⟩),(2,iQ dq)]⟩) (fun j=>j≤12∧G=k6 (L.drop j)) (fun j=>12 - j) 0 ⟨cE _,hG.symm⟩ (Wk.of ?_ ?_) ?_
 ·simp only [go_sem];try simp
 ·rw [hL]
  simp only [go_sem];try simp [K7,dq]
 rintro j ⟨hj,hx⟩
 by_cases h1:(j:Int)<((12:Nat):Int)
 rotate_left
 ·rw [bB (by omega)] at hx
  obtain rfl:G=dq:=hx
  simp only [go_sem,aG h1]
  exact au [] (by simp only [go_sem];try rfl) (by rfl)
 have hj':j<L.length:=by omega
 have hj2:j<12:=by omega
 have e8:=eS hj' (by omega)
 rw [Oa hj'] at hx
 have cn:=dm (ah L j)
 simp only [dQ] at cn
 by_cases z:(ah L j).c=0
 ·rw [aD (by simp [z])] at hx
  rw [bq z] at cn
  simp only [go_sem,aF h1,hj2,hlen]
  refine ⟨by omega,?_⟩
  refine aa (cn) ?_
  simp only [go_sem]
  refine aC (j+1) ⟨show j+1≤12 by omega,hx⟩ (show 12 - (j+1)<12 - j by omega) (Wk.of ?_ ?_)
  ·simp only [go_sem,e8];try simp
  ·simp only [go_sem]
 ·rw [aK z] at hx
  subst hx
  rw [aN z] at cn
  simp only [go_sem,aF h1,hj2,hlen]
  refine ⟨by omega,?_⟩
  refine aa (cn) ?_
  simp only [go_sem,hj2,hlen]
  refine ⟨by omega,?_⟩
  exact au [] (by simp only [go_sem];try rfl) (by rfl)
end
section
open Go Go.Mw
def ir (cs:List Cu) (p:Int):List jS:=(oh cs p).map fun c=>⟨0,c.n,some c.b⟩
theorem Dv {cs:List Cu} {p:Int} {i:Nat} (h:i<cs.length):ir (cs.take (i+1)) p=ir (cs.take i) p++(if (ah cs i).af=p then [⟨0,(ah cs i).n,some (ah cs i).b⟩] else []):=by
 unfold ir oh
 rw [fv h,List.filter_append,List.map_append]
 by_cases q:(ah cs i).af=p
 ·rw [aK q,List.filter_cons,aK (by simpa using q)];rfl
 ·rw [aD q,List.filter_cons,aD (by simpa using q)];rfl
theorem uE (cs:List Cu) (p:Int):(ir cs p).length≤cs.length:=by unfold ir oh;rw [cY];exact List.length_filter_le _ _
def tE (L:List jS):ao:=⟨85,3,L.map nF,false⟩
theorem HM {id:Nat} (hid:id<1000) {L M:List jS} (h1:L.length≤100000) (h2:M.length≤100000):l8 id 85 3 0 L.length (M.map nF) (some ⟨85,3,L.map nF,false⟩)=some (.ms id 3 0 (L++M).length,.reb id ⟨85,3,(L++M).map nF,false⟩):=by
 rw [bu id 85 3 _ nF _ _ rfl,aK ⟨by simp;omega,by omega,.inl hid⟩]
 simp
attribute [local go_sem] cY wx jr bG aV dU dQ
theorem AU (m:Md) (p:Int) (hc:m.cs.length≤8):br Tryz.prog UZ [bJ m,.int .i64 p] [] sb (fun r' σ'=>r' = .ms 900 3 0 (qx m p).length∧σ'=[(900,tE (qx m p))]):=by
 rw [show qx m p=ir m.cs p from rfl]
 refine aT (ic:=Co.body) aq SU rfl rfl ?_
 simp only [go_sem,Co,bJ]
 refine an (fun i:Nat=>⟨[(6,.int .i64 i),(5,.ms 900 3 0 (ir (m.cs.take i) p).length),(2,.mp 2 12 0 0),(1,.int .i64 p)],[(900,tE (ir (m.cs.take i) p)),(2,⟨33,12,[gH m],true⟩)]⟩) (fun i=>i≤m.cs.length) (fun i=>m.cs.length - i) 0 (cE _) ((Wk.nil _ 5 900 3 85 (by simp only [go_sem]) (.inl (by decide))).trans (Wk.of ?_ ?_)) ?_
 ·simp only [go_sem,St.mknil];try simp [ir,oh]
 ·simp only [go_sem,St.mknil];try simp [go_sem,ir,oh,tE]
 intro i hi
 have hlen:=uE (m.cs.take i) p
 rw [lh] at hlen
 by_cases q:(i:Int)<(m.cs.length:Int)
 rotate_left
 ·obtain rfl:i=m.cs.length:=by omega
  rw [dj]
  simp only [go_sem,aG q,tE]
  exact DA [] _ [(900,⟨85,3,(ir m.cs p).map nF,false⟩)] ⟨rfl,rfl⟩
 have hi':i<m.cs.length:=by omega
 have e8:=wi (n:=(i:Int)+1) (by omega) (by omega)
 have hn:=Dv (p:=p) hi'
 by_cases ha:(ah m.cs i).af=p
 ·rw [aK ha] at hn
  have hap:=HM (id:=900) (by decide) (L:=ir (m.cs.take i) p) (M:=[⟨0,(ah m.cs i).n,some (ah m.cs i).b⟩]) (by omega) (by simp)
  rw [← hn] at hap
  simp only [eW,List.map_nil,nF,dN] at hap
  generalize hN:ir (m.cs.take (i+1)) p=N at *
  generalize ir (m.cs.take i) p=L at *
  simp only [go_sem,aF q,bq ha,tE,hap]
  refine ⟨by omega,q,by omega,q,by omega,q,?_⟩
  refine aC (i+1) (show i+1≤m.cs.length by omega) (show m.cs.length - (i+1)<m.cs.length - i by omega) (Wk.of ?_ ?_)
  ·simp only [go_sem,e8,hN];try simp
  ·simp only [go_sem,tE,hN];try simp [go_sem]
 ·rw [aD ha,gx] at hn
  simp only [go_sem,aF q,aN ha,tE]
  refine ⟨by omega,q,?_⟩
  refine aC (i+1) (show i+1≤m.cs.length by omega) (show m.cs.length - (i+1)<m.cs.length - i by omega) (Wk.of ?_ ?_)
  ·simp only [go_sem,e8,hn];try simp
  ·simp only [go_sem,tE,hn];try simp [go_sem]
theorem xf (m:Md) (p:Int) (hc:m.cs.length≤8):ae Tryz.prog UZ [bJ m,.int .i64 p] (.sl 3 ((qx m p).map nF)):=by
 rw [show qx m p=ir m.cs p from rfl]
 refine ab (ic:=Co.body) aq SU rfl rfl ?_
 simp only [go_sem,Co,bJ]
 refine an (fun i:Nat=>⟨[(6,.int .i64 i),(5,.ms 900 3 0 (ir (m.cs.take i) p).length),(2,.mp 2 12 0 0),(1,.int .i64 p)],[(900,tE (ir (m.cs.take i) p)),(2,⟨33,12,[gH m],true⟩)]⟩) (fun i=>i≤m.cs.length) (fun i=>m.cs.length - i) 0 (cE _) ((Wk.nil _ 5 900 3 85 (by simp only [go_sem]) (.inl (by decide))).trans (Wk.of ?_ ?_)) ?_
 ·simp only [go_sem,St.mknil];try simp [ir,oh]
 ·simp only [go_sem,St.mknil];try simp [go_sem,ir,oh,tE]
 intro i hi
 have hlen:=uE (m.cs.take i) p
 rw [lh] at hlen
 by_cases q:(i:Int)<(m.cs.length:Int)
 rotate_left
 ·obtain rfl:i=m.cs.length:=by omega
  rw [dj]
  simp only [go_sem,aG q,tE]
  refine au [900] ?_ rfl
  simp only [go_sem,bj]
  rw [dS (by simp)]
 have hi':i<m.cs.length:=by omega
 have e8:=wi (n:=(i:Int)+1) (by omega) (by omega)
 have hn:=Dv (p:=p) hi'
 by_cases ha:(ah m.cs i).af=p
 ·rw [aK ha] at hn
  have hap:=HM (id:=900) (by decide) (L:=ir (m.cs.take i) p) (M:=[⟨0,(ah m.cs i).n,some (ah m.cs i).b⟩]) (by omega) (by simp)
  rw [← hn] at hap
  simp only [eW,List.map_nil,nF,dN] at hap
  generalize hN:ir (m.cs.take (i+1)) p=N at *
  generalize ir (m.cs.take i) p=L at *
  simp only [go_sem,aF q,bq ha,tE,hap]
  refine ⟨by omega,q,by omega,q,by omega,q,?_⟩
  refine aC (i+1) (show i+1≤m.cs.length by omega) (show m.cs.length - (i+1)<m.cs.length - i by omega) (Wk.of ?_ ?_)
  ·simp only [go_sem,e8,hN];try simp
  ·simp only [go_sem,tE,hN];try simp [go_sem]
 ·rw [aD ha,gx] at hn
  simp only [go_sem,aF q,aN ha,tE]
  refine ⟨by omega,q,?_⟩
  refine aC (i+1) (show i+1≤m.cs.length by omega) (show m.cs.length - (i+1)<m.cs.length - i by omega) (Wk.of ?_ ?_)
  ·simp only [go_sem,e8,hn];try simp
  ·simp only [go_sem,tE,hn];try simp [go_sem]
end
section
open Go Go.Mw
theorem dy {m:Md} (h:QY m) (ht:nI m≤1290000) (p:Int) (h8:p=8→m.hs=true):(dg m p).length≤520000000:=by
 unfold nI at ht
 have hfs:=h.lim.fs.1
 have htb:=h.lim.tbs.1
 have hms:=h.lim.ms.1
 have hgs:=h.lim.gs.1
 have hts:=h.lim.ts.1
 have him:=h.lim.ims.1
 have hex:=h.lim.exs.1
 have hel:=h.lim.els.1
 have hds:=h.lim.ds.1
 unfold dg
 by_cases q:p=1
 ·rw [aK q]
  have:=fE (n:=0) (kq (f:=nR) (n:=40) m.ts fun x hx=>zQ (h.lim.ts.2 x hx)) (by omega)
  omega
 rw [aD q]
 by_cases q:p=2
 ·rw [aK q]
  have:=fE (n:=0) (kq (f:=nS) (n:=200) m.ims fun x hx=>zS (h.lim.ims.2 x hx)) (by omega)
  omega
 rw [aD q]
 by_cases q:p=3
 ·rw [aK q]
  have:=fE (n:=0) (kq (f:=fun x:Cd=>aA x.t.toNat) (n:=5) m.fs fun x hx=>be (by have:=eu.1 (AC h x hx).2.2.2.2.2;omega)) (by omega)
  omega
 rw [aD q]
 by_cases q:p=4
 ·rw [aK q]
  have:=fE (n:=0) (kq (f:=mb) (n:=12) m.tbs fun x hx=>rJ (h.lim.tbs.2 x hx)) (by omega)
  omega
 rw [aD q]
 by_cases q:p=5
 ·rw [aK q]
  have:=fE (n:=0) (kq (f:=i6) (n:=11) m.ms fun x hx=>m8 (yw (h.lim.ms.2 x hx))) (by omega)
  omega
 rw [aD q]
 by_cases q:p=6
 ·rw [aK q]
  have:=fE (n:=0) (na (f:=pi) (g:=fun x:Gd=>x.i.length) (c:=2) m.gs fun x hx=>zR (mA (h.lim.gs.2 x hx).2 (h.num.2.1 x hx)).1) (by omega)
  omega
 rw [aD q]
 by_cases q:p=7
 ·rw [aK q]
  have:=fE (n:=0) (kq (f:=ph) (n:=80) m.exs fun x hx=>zP (h.lim.exs.2 x hx)) (by omega)
  omega
 rw [aD q]
 by_cases q:p=8
 ·rw [aK q]
  have:=be (n:=m.st.toNat) (by have:=eu.1 (h.lim.st (h8 q));omega)
  omega
 rw [aD q]
 by_cases q:p=9
 ·rw [aK q]
  have:=fE (n:=0) (na (f:=nQ) (g:=QJ) (c:=1400) m.els fun x hx=>zO (h.lim.els.2 x hx) (h.num.2.2.1 x hx).1 (h.num.2.2.1 x hx).2) (by omega)
  omega
 rw [aD q]
 by_cases q:p=10
 ·rw [aK q]
  have:=be (n:=m.ds.length) (by omega)
  omega
 rw [aD q]
 by_cases q:p=11
 ·rw [aK q]
  have:=fE (n:=0) (na (f:=pg) (g:=fun x:Cd=>x.b.length) (c:=800) m.fs fun x hx=>zM (AC h x hx).1 (AC h x hx).2.2.2.1 (AC h x hx).2.2.2.2.1) (by omega)
  omega
 rw [aD q]
 by_cases q:p=12
 ·rw [aK q]
  have:=fE (n:=0) (na (f:=nP) (g:=fun x:Da=>x.o.length) (c:=4200) m.ds fun x hx=>zN (h.lim.ds.2 x hx) (h.num.2.2.2 x hx)) (by omega)
  omega
 rw [aD q]
 exact cE _
theorem PA {m:Md} (h:QY m) (ht:nI m≤1290000):tot (AJ m)≤20000000000∧(AJ m).length≤10000∧(∀s∈AJ m,s.name.length≤64)∧∀s∈AJ m,(gb s.bs).length≤900000000:=by
 have hcl:∀p,(oh m.cs p).length≤8:=fun p=>dn (List.length_filter_le _ _) h.lim.cs.1
 have hcn:∀p,∀s∈qx m p,s.name.length≤64:=fun p s hs=>by
  obtain ⟨c,hc,rfl⟩:=List.mem_map.1 hs
  have hx:=(List.mem_filter.1 hc).1
  have q:=h.lim.cs.2 c hx
  unfold uD at q
  by_cases q1:fk c.n≠0
  ·rw [aK q1] at q;exact absurd q q1
  ·exact tu (Classical.not_not.1 q1)
 have hcb:∀p,∀s∈qx m p,(gb s.bs).length≤900000000:=fun p s hs=>by
  obtain ⟨c,hc,rfl⟩:=List.mem_map.1 hs
  have hx:=(List.mem_filter.1 hc).1
  have q:=h.lim.cs.2 c hx
  unfold uD at q
  by_cases q1:fk c.n≠0
  ·rw [aK q1] at q;exact absurd q q1
  rw [aD q1] at q
  by_cases q2:c.b.length>4096
  ·rw [aK q2] at q;cases q
  ·rw [oA];omega
 have key:∀l:List Int,(8∈l→m.hs=true)→tot (k8 m l)≤600000000 * l.length∧(k8 m l).length≤9 * l.length∧∀s∈k8 m l,s.name.length≤64∧(gb s.bs).length≤900000000:=fun l=>by
  induction l with
  | nil=>exact fun _=>⟨bj _,bj _,fun s hs=>by cases hs⟩
  | cons p l ih =>
   intro h8
   obtain ⟨i1,i2,i3⟩:=ih fun q=>h8 (by simp [q])
   have hp:=dy h ht p fun q=>h8 (by simp [q])
   have hc:=zd h.lim p
   have hl:=hcl p
   refine ⟨?_,?_,fun s hs=>?_⟩
   ·rw [k8,tot,oP,oA,aQ,Nat.mul_add]
    simp only [ay]
    omega
   ·rw [k8,aQ,aJ,aQ]
    unfold qx
    rw [cY]
    omega
   ·rw [k8] at hs
    rcases eH.1 hs with rfl | hs
    ·exact ⟨cE _,by rw [oA];omega⟩
    ·rcases ef.1 hs with hs | hs
     ·exact ⟨hcn p s hs,hcb p s hs⟩
     ·exact i3 s hs
 obtain ⟨k1,k2,k3⟩:=key (jI m) fun q=>(vq q).2.2.2.2.2.2.2.1 rfl
 have hl:=p6 m
 have hc:=zd h.lim 0
 have hcl0:=hcl 0
 unfold AJ
 rw [oP,aJ]
 refine ⟨by omega,?_,fun s hs=>?_,fun s hs=>?_⟩
 ·unfold qx
  rw [cY]
  omega
 ·rcases ef.1 hs with hs | hs
  ·exact hcn 0 s hs
  ·exact (k3 s hs).1
 ·rcases ef.1 hs with hs | hs
  ·exact hcb 0 s hs
  ·exact (k3 s hs).2
attribute [local go_sem] wx
theorem J_ (l:List jS) (hl:l.length≤10000) (ht:tot l≤20000000000) (hsz:∀s∈l,(gb s.bs).length≤900000000) (hnm:∀s∈l,s.name.length≤64):ae Tryz.prog Uu [.sl 3 (l.map nF)] (.tup [.sl 1 ((th l).2.map dJ),.int .i64 (th l).1]):=by
 refine ab (ic:=BZ.body) aq Sr rfl rfl ?_
 simp only [go_sem,BZ]
 refine aa (PQ) ?_
 simp only [go_sem]
 refine cA [wx [] 0,.sl 1 (ID.map dJ)] ⟨gA 0,.inl rfl,trivial⟩ ?_
 have ch:=fl [] 0 (by simp) ID (by decide)
 rw [show wB ((0:Int)==0) [] ID=ID from rfl] at ch
 refine aa (ch) ?_
 simp only [go_sem]
 refine an (fun q:Nat×Int×List UInt8=>⟨[(4,.mp 4 2 0 0),(5,.int .i64 q.2.1),(6,.int .i64 (q.1:Nat)),(0,.sl 3 (l.map nF))],[(4,⟨81,2,[[.sl 1 (q.2.2.map dJ),.int .i64 0]],true⟩)]⟩) (fun q=>q.1≤l.length∧0≤q.2.1∧q.2.2.length≤8+tot (l.take q.1)+11 * q.1∧vS (l.drop q.1) q.2.1 q.2.2=I_ l) (fun q=>l.length - q.1) (0,0,ID) ⟨cE _,Int.le_refl _,by simp [ID],rfl⟩ (Wk.of ?_ ?_) ?_
 ·simp only [go_sem];try simp
 ·simp only [go_sem]
 rintro ⟨i,last,w⟩ ⟨hi,hla,hw,hj⟩
 replace hi:i≤l.length:=hi
 replace hla:0≤last:=hla
 replace hw:w.length≤8+tot (l.take i)+11 * i:=hw
 replace hj:vS (l.drop i) last w=I_ l:=hj
 have htl:=Gb l i
 have e8:=wi (n:=(i:Int)+1) (by omega) (by omega)
 by_cases h1:(i:Int)<(l.length:Int)
 ·have hi':i<l.length:=by omega
  have htk:=Gc hi'
  have hts:=Gb l (i+1)
  have ferr:∀e,tg (ah l i) last=e→e≠0→th l=(e,[]):=fun e h h2=>by
   have h3:I_ l=(e,[]):=by rw [← hj,I9 hi' (by rw [h];exact h2),h]
   unfold th
   rw [h3]
   exact aD (fun q=>h2 q.1)
  by_cases c1:(ah l i).id<0
  ·rw [ferr 4 (Ez (.inl c1)) (by decide)]
   simp only [go_sem,aF h1,aF c1]
   exact ⟨by omega,h1,cO (Wk.nls _ 2 1 (by simp only [go_sem])) [] (by first | rfl | simp only [go_sem]) rfl⟩
  by_cases c2:(ah l i).id>12
  ·rw [ferr 4 (Ez (.inr (.inl c2))) (by decide)]
   simp only [go_sem,aF h1,aG c1,aF c2]
   exact ⟨by omega,h1,cO (Wk.nls _ 2 1 (by simp only [go_sem])) [] (by first | rfl | simp only [go_sem]) rfl⟩
  have hpc:=Pz (ah l i).id
  have hmx:(if (last:Int)<mW (ah l i).id then mW (ah l i).id else last)=max last (mW (ah l i).id):=by split<;>omega
  have hla2:(0:Int)≤max last (mW (ah l i).id):=by omega
  have w8:IntKind.u8.wrap (ah l i).id=((UInt8.ofNat (ah l i).id.toNat).toNat:Int):=by rw [ofNat_toNat (by omega),qt];omega
  have hil:=IJ (ah l i)
  have hnl:=bp hnm hi'
  have hsz':=bp hsz hi'
  have hpn:=iI (n:=(ah l i).name.length) (by omega)
  have hpi:=iI (n:=(wL (ah l i)).length) (by omega)
  have hel:(pk (ah l i)).length=1+(aA (wL (ah l i)).length).length+(wL (ah l i)).length:=by simp [pk];omega
  have hw2:(w++pk (ah l i)).length≤8+tot (l.take (i+1))+11 * (i+1):=by rw [aJ];omega
  have cp:=Fi (w++[UInt8.ofNat (ah l i).id.toNat]) 0 (by simp;omega) (wL (ah l i)) 0 (by omega)
  have rp:wP ((0:Int)==0) (w++[UInt8.ofNat (ah l i).id.toNat]) 0 true (wL (ah l i)) 0=(w++pk (ah l i),0):=by simp [wP,wB,pk]
  rw [rp] at cp
  have cy:=pZ w 0 (by omega) (UInt8.ofNat (ah l i).id.toNat)
  rw [show wB ((0:Int)==0) w [UInt8.ofNat (ah l i).id.toNat]=w++[UInt8.ofNat (ah l i).id.toNat] from rfl] at cy
  by_cases c0:(ah l i).id=0
  ·obtain ⟨j1,j2⟩:=Tw (last:=last) c0
   have cn:=Fh [] 0 (by simp) (ah l i).name (by omega)
   rw [show ((0:Int)==0)=true from rfl] at cn
   simp only [go_sem,aF h1,aG c1,aG c2,aL c0,bq c0]
   refine ⟨by omega,h1,?_⟩
   refine aa (oM (ah l i).id) ?_
   simp only [go_sem,hmx,bq c0]
   refine cA [wx [] 0,.str (ah l i).name] ⟨gA 0,.inl rfl,trivial⟩ ?_
   refine aa (cn) ?_
   by_cases he:(wN true [] 0 (ah l i).name).2=0
   ·have hok:tg (ah l i) last=0:=by rw [j1];exact he
    have hin:aA (ah l i).name.length++(ah l i).name++gb (ah l i).bs=wL (ah l i):=by rw [wL,aK c0]
    have cB:=fl (aA (ah l i).name.length++(ah l i).name) 0 (by simp;omega) (gb (ah l i).bs) (by omega)
    rw [show wB ((0:Int)==0) (aA (ah l i).name.length++(ah l i).name) (gb (ah l i).bs)=wL (ah l i) from hin] at cB
    simp only [go_sem,aL he,he,j2 he,w8]
    refine cA [wx (aA (ah l i).name.length++(ah l i).name) 0,.sl 1 ((gb (ah l i).bs).map dJ)] ⟨.inl rfl,yz _,trivial⟩ ?_
    refine aa (cB) ?_
    simp only [go_sem,w8]
    refine aa (cy) ?_
    simp only [go_sem]
    first | refine ck cp (by simp [go_sem]) ?_ | refine aB cp (by simp [go_sem]) rfl ?_
    simp only [go_sem]
    refine aC (i+1,max last (mW (ah l i).id),w++pk (ah l i)) ⟨hi',hla2,hw2,by rw [← uY hi' hok,hj]⟩ (show l.length - (i+1)<l.length - i by omega) (Wk.of ?_ ?_)
    ·simp only [go_sem,e8]
     try simp
    ·simp only [go_sem]
   ·rw [ferr _ j1 he]
    simp only [go_sem,aZ he]
    exact cO (Wk.nls _ 2 1 (by simp only [go_sem])) [] (by first | rfl | simp only [go_sem]) rfl
  ·by_cases cn:(ah l i).name=[]
   ·have n1:((ah l i).name==[])=true:=by rw [cn];rfl
    simp only [go_sem,aF h1,aG c1,aG c2,aZ c0,n1]
    refine ⟨by omega,h1,?_⟩
    refine aa (oM (ah l i).id) ?_
    by_cases hp:mW (ah l i).id≤last
    ·rw [ferr 7 (Tx (by omega) cn hp) (by decide)]
     simp only [go_sem,aF hp]
     exact cO (Wk.nls _ 2 1 (by simp only [go_sem])) [] (by first | rfl | simp only [go_sem]) rfl
    ·have hok:=OA (last:=last) (show 1≤(ah l i).id∧(ah l i).id≤12 by omega) cn hp
     have hin:([]:List UInt8)++gb (ah l i).bs=wL (ah l i):=by rw [wL,aD c0];rfl
     have cB:=fl [] 0 (by simp) (gb (ah l i).bs) (by omega)
     rw [show wB ((0:Int)==0) [] (gb (ah l i).bs)=wL (ah l i) from hin] at cB
     simp only [go_sem,aG hp]
     refine aa (oM (ah l i).id) ?_
     simp only [go_sem,hmx,aN c0,w8]
     refine cA [wx [] 0,.sl 1 ((gb (ah l i).bs).map dJ)] ⟨gA 0,yz _,trivial⟩ ?_
     refine aa (cB) ?_
     simp only [go_sem,w8]
     refine aa (cy) ?_
     simp only [go_sem]
     first | refine ck cp (by simp [go_sem]) ?_ | refine aB cp (by simp [go_sem]) rfl ?_
     simp only [go_sem]
     refine aC (i+1,max last (mW (ah l i).id),w++pk (ah l i)) ⟨hi',hla2,hw2,by rw [← uY hi' hok,hj]⟩ (show l.length - (i+1)<l.length - i by omega) (Wk.of ?_ ?_)
     ·simp only [go_sem,e8]
      try simp
     ·simp only [go_sem]
   ·rw [ferr 4 (Ez (.inr (.inr ⟨c0,cn⟩))) (by decide)]
    have n1:((ah l i).name==[])=false:=by simpa using cn
    simp only [go_sem,aF h1,aG c1,aG c2,aZ c0,n1]
    exact ⟨by omega,h1,cO (Wk.nls _ 2 1 (by simp only [go_sem])) [] (by first | rfl | simp only [go_sem]) rfl⟩
 ·have r0:I_ l=(0,w):=by rw [← hj,List.drop_of_length_le (by omega)];rfl
  unfold th
  rw [r0]
  by_cases hb:(w.length:Int)>262144
  ·rw [aK ⟨rfl,by show w.length>262144;omega⟩]
   simp only [go_sem,aG h1,aF hb]
   exact cO (Wk.nls _ 2 1 (by simp only [go_sem])) [] (by first | rfl | simp only [go_sem]) rfl
  rw [aD (fun q=>hb (by have h2:w.length>262144:=q.2;omega))]
  simp only [go_sem,aG h1,aG hb]
  exact aj
end
section
open Go Go.Mw
variable {m:Md} (h:QY m) (ht:nI m≤1290000)
include h ht
attribute [local go_sem] cY wx dE jr bG aV
theorem V0:ae Tryz.prog pO [bJ m,.int .i64 1] (wx (dg m 1) 0):=by
 have hw:(dg m 1).length≤520000000:=dy h ht 1 (fun q=>absurd q (by decide))
 have hl:m.ts.length≤64:=by have:=h.lim.ts.1;omega
 have he:dg m 1=bT nR m.ts:=rfl
 rw [he,fM] at hw ⊢
 simp only [aJ,ay] at hw
 refine ab (ic:=gQ.body) aq pc rfl rfl ?_
 simp only [go_sem,gQ,bJ]
 refine cA [wx [] 0,.int .i64 m.ts.length] ⟨gA 0,.inl rfl,trivial⟩ ?_
 first | refine aE (j6 m.ts.length (by omega)) rfl (by simp [go_sem,ac,wx]) (by (try simp only [aJ,aQ,ay]);omega) ?_ | refine az (j6 m.ts.length (by omega)) rfl (by simp [go_sem,ac,wx]) (by (try simp only [aJ,aQ,ay]);omega) ?_
 simp only [go_sem]
 refine cJ 6 5 [(2,.mp 2 12 0 0),(5,.mp 5 2 0 0),(4,.mp 4 2 0 0)] [(2,⟨33,12,[gH m],true⟩),(4,⟨81,2,[[.nl,.int .i64 0]],true⟩)] nR m.ts ([]++aA m.ts.length) (by simp only [aJ,ay];omega) (by omega) (Wk.of ?_ ?_) ?_ ?_
 ·simp only [go_sem,bX];try simp
 ·simp only [go_sem,bX];try simp [go_sem]
 ·simp only [go_sem,bX,aG (Int.lt_irrefl _)]
  exact ey (fun _ h=>by cases h) (by rfl) rfl
 intro i v hi q1 hu e8 k
 have c:=VY (bp h.lim.ts.2 hi)
 rw [dp] at c
 simp only [go_sem,bX,aF q1,dp]
 refine ⟨by omega,q1,?_⟩
 first | refine aE (c) rfl (by simp [go_sem,ac,wx]) (by (try simp only [aJ,aQ,ay]);omega) ?_ | refine az (c) rfl (by simp [go_sem,ac,wx]) (by (try simp only [aJ,aQ,ay]);omega) ?_
 simp only [go_sem]
 refine k _ (Wk.of ?_ ?_)
 ·simp only [go_sem,bX,e8];try simp
 ·simp only [go_sem,bX];try simp [go_sem]
theorem V1:ae Tryz.prog pO [bJ m,.int .i64 2] (wx (dg m 2) 0):=by
 have hw:(dg m 2).length≤520000000:=dy h ht 2 (fun q=>absurd q (by decide))
 have hl:m.ims.length≤64:=by have:=h.lim.ims.1;omega
 have he:dg m 2=bT nS m.ims:=rfl
 rw [he,fM] at hw ⊢
 simp only [aJ,ay] at hw
 refine ab (ic:=gQ.body) aq pc rfl rfl ?_
 simp only [go_sem,gQ,bJ]
 refine cA [wx [] 0,.int .i64 m.ims.length] ⟨gA 0,.inl rfl,trivial⟩ ?_
 first | refine aE (j6 m.ims.length (by omega)) rfl (by simp [go_sem,ac,wx]) (by (try simp only [aJ,aQ,ay]);omega) ?_ | refine az (j6 m.ims.length (by omega)) rfl (by simp [go_sem,ac,wx]) (by (try simp only [aJ,aQ,ay]);omega) ?_
 simp only [go_sem]
 refine cJ 7 5 [(2,.mp 2 12 0 0),(5,.mp 5 2 0 0),(4,.mp 4 2 0 0)] [(2,⟨33,12,[gH m],true⟩),(4,⟨81,2,[[.nl,.int .i64 0]],true⟩)] nS m.ims ([]++aA m.ims.length) (by simp only [aJ,ay];omega) (by omega) (Wk.of ?_ ?_) ?_ ?_
 ·simp only [go_sem,bX];try simp
 ·simp only [go_sem,bX];try simp [go_sem]
 ·simp only [go_sem,bX,aG (Int.lt_irrefl _)]
  exact ey (fun _ h=>by cases h) (by rfl) rfl
 intro i v hi q1 hu e8 k
 have c:=VZ (bp h.lim.ims.2 hi)
 rw [dz] at c
 simp only [go_sem,bX,aF q1,dz]
 refine ⟨by omega,q1,?_⟩
 first | refine aE (c) rfl (by simp [go_sem,ac,wx]) (by (try simp only [aJ,aQ,ay]);omega) ?_ | refine az (c) rfl (by simp [go_sem,ac,wx]) (by (try simp only [aJ,aQ,ay]);omega) ?_
 simp only [go_sem]
 refine k _ (Wk.of ?_ ?_)
 ·simp only [go_sem,bX,e8];try simp
 ·simp only [go_sem,bX];try simp [go_sem]
theorem V2:ae Tryz.prog pO [bJ m,.int .i64 3] (wx (dg m 3) 0):=by
 have hw:(dg m 3).length≤520000000:=dy h ht 3 (fun q=>absurd q (by decide))
 have hl:m.fs.length≤64:=by have:=h.lim.fs.1;omega
 have he:dg m 3=bT (fun x:Cd=>aA x.t.toNat) m.fs:=rfl
 rw [he,fM] at hw ⊢
 simp only [aJ,ay] at hw
 refine ab (ic:=gQ.body) aq pc rfl rfl ?_
 simp only [go_sem,gQ,bJ]
 refine cA [wx [] 0,.int .i64 m.fs.length] ⟨gA 0,.inl rfl,trivial⟩ ?_
 first | refine aE (j6 m.fs.length (by omega)) rfl (by simp [go_sem,ac,wx]) (by (try simp only [aJ,aQ,ay]);omega) ?_ | refine az (j6 m.fs.length (by omega)) rfl (by simp [go_sem,ac,wx]) (by (try simp only [aJ,aQ,ay]);omega) ?_
 simp only [go_sem]
 refine cJ 8 5 [(2,.mp 2 12 0 0),(5,.mp 5 2 0 0),(4,.mp 4 2 0 0)] [(2,⟨33,12,[gH m],true⟩),(4,⟨81,2,[[.nl,.int .i64 0]],true⟩)] (fun x:Cd=>aA x.t.toNat) m.fs ([]++aA m.fs.length) (by simp only [aJ,ay];omega) (by omega) (Wk.of ?_ ?_) ?_ ?_
 ·simp only [go_sem,bX];try simp
 ·simp only [go_sem,bX];try simp [go_sem]
 ·simp only [go_sem,bX,aG (Int.lt_irrefl _)]
  exact ey (fun _ h=>by cases h) (by rfl) rfl
 intro i v hi q1 hu e8 k
 have c:=ss (eu.1 (AC h (ah m.fs i) (by rw [bD hi];exact List.getElem_mem hi)).2.2.2.2.2)
 try simp only at hu k
 simp only [go_sem,bX,aF q1,cH]
 refine ⟨by omega,q1,?_⟩
 first | refine aE (c) rfl (by simp [go_sem,ac,wx]) (by (try simp only [aJ,aQ,ay]);omega) ?_ | refine az (c) rfl (by simp [go_sem,ac,wx]) (by (try simp only [aJ,aQ,ay]);omega) ?_
 simp only [go_sem]
 refine k _ (Wk.of ?_ ?_)
 ·simp only [go_sem,bX,e8];try simp
 ·simp only [go_sem,bX];try simp [go_sem]
theorem V3:ae Tryz.prog pO [bJ m,.int .i64 4] (wx (dg m 4) 0):=by
 have hw:(dg m 4).length≤520000000:=dy h ht 4 (fun q=>absurd q (by decide))
 have hl:m.tbs.length≤64:=by have:=h.lim.tbs.1;omega
 have he:dg m 4=bT mb m.tbs:=rfl
 rw [he,fM] at hw ⊢
 simp only [aJ,ay] at hw
 refine ab (ic:=gQ.body) aq pc rfl rfl ?_
 simp only [go_sem,gQ,bJ]
 refine cA [wx [] 0,.int .i64 m.tbs.length] ⟨gA 0,.inl rfl,trivial⟩ ?_
 first | refine aE (j6 m.tbs.length (by omega)) rfl (by simp [go_sem,ac,wx]) (by (try simp only [aJ,aQ,ay]);omega) ?_ | refine az (j6 m.tbs.length (by omega)) rfl (by simp [go_sem,ac,wx]) (by (try simp only [aJ,aQ,ay]);omega) ?_
 simp only [go_sem]
 refine cJ 9 5 [(2,.mp 2 12 0 0),(5,.mp 5 2 0 0),(4,.mp 4 2 0 0)] [(2,⟨33,12,[gH m],true⟩),(4,⟨81,2,[[.nl,.int .i64 0]],true⟩)] mb m.tbs ([]++aA m.tbs.length) (by simp only [aJ,ay];omega) (by omega) (Wk.of ?_ ?_) ?_ ?_
 ·simp only [go_sem,bX];try simp
 ·simp only [go_sem,bX];try simp [go_sem]
 ·simp only [go_sem,bX,aG (Int.lt_irrefl _)]
  exact ey (fun _ h=>by cases h) (by rfl) rfl
 intro i v hi q1 hu e8 k
 have c:=L4 (bp h.lim.tbs.2 hi)
 rw [dO] at c
 simp only [go_sem,bX,aF q1,dO]
 refine ⟨by omega,q1,?_⟩
 first | refine aE (c) rfl (by simp [go_sem,ac,wx]) (by (try simp only [aJ,aQ,ay]);omega) ?_ | refine az (c) rfl (by simp [go_sem,ac,wx]) (by (try simp only [aJ,aQ,ay]);omega) ?_
 simp only [go_sem]
 refine k _ (Wk.of ?_ ?_)
 ·simp only [go_sem,bX,e8];try simp
 ·simp only [go_sem,bX];try simp [go_sem]
theorem V4:ae Tryz.prog pO [bJ m,.int .i64 5] (wx (dg m 5) 0):=by
 have hw:(dg m 5).length≤520000000:=dy h ht 5 (fun q=>absurd q (by decide))
 have hl:m.ms.length≤64:=by have:=h.lim.ms.1;omega
 have he:dg m 5=bT i6 m.ms:=rfl
 rw [he,fM] at hw ⊢
 simp only [aJ,ay] at hw
 refine ab (ic:=gQ.body) aq pc rfl rfl ?_
 simp only [go_sem,gQ,bJ]
 refine cA [wx [] 0,.int .i64 m.ms.length] ⟨gA 0,.inl rfl,trivial⟩ ?_
 first | refine aE (j6 m.ms.length (by omega)) rfl (by simp [go_sem,ac,wx]) (by (try simp only [aJ,aQ,ay]);omega) ?_ | refine az (j6 m.ms.length (by omega)) rfl (by simp [go_sem,ac,wx]) (by (try simp only [aJ,aQ,ay]);omega) ?_
 simp only [go_sem]
 refine cJ 10 5 [(2,.mp 2 12 0 0),(5,.mp 5 2 0 0),(4,.mp 4 2 0 0)] [(2,⟨33,12,[gH m],true⟩),(4,⟨81,2,[[.nl,.int .i64 0]],true⟩)] i6 m.ms ([]++aA m.ms.length) (by simp only [aJ,ay];omega) (by omega) (Wk.of ?_ ?_) ?_ ?_
 ·simp only [go_sem,bX];try simp
 ·simp only [go_sem,bX];try simp [go_sem]
 ·simp only [go_sem,bX,aG (Int.lt_irrefl _)]
  exact ey (fun _ h=>by cases h) (by rfl) rfl
 intro i v hi q1 hu e8 k
 have c:=GG (yw (bp h.lim.ms.2 hi))
 rw [c_] at c
 simp only [go_sem,bX,aF q1,c_]
 refine ⟨by omega,q1,?_⟩
 first | refine aE (c) rfl (by simp [go_sem,ac,wx]) (by (try simp only [aJ,aQ,ay]);omega) ?_ | refine az (c) rfl (by simp [go_sem,ac,wx]) (by (try simp only [aJ,aQ,ay]);omega) ?_
 simp only [go_sem]
 refine k _ (Wk.of ?_ ?_)
 ·simp only [go_sem,bX,e8];try simp
 ·simp only [go_sem,bX];try simp [go_sem]
theorem V5:ae Tryz.prog pO [bJ m,.int .i64 6] (wx (dg m 6) 0):=by
 have hw:(dg m 6).length≤520000000:=dy h ht 6 (fun q=>absurd q (by decide))
 have hl:m.gs.length≤64:=by have:=h.lim.gs.1;omega
 have he:dg m 6=bT pi m.gs:=rfl
 rw [he,fM] at hw ⊢
 simp only [aJ,ay] at hw
 refine ab (ic:=gQ.body) aq pc rfl rfl ?_
 simp only [go_sem,gQ,bJ]
 refine cA [wx [] 0,.int .i64 m.gs.length] ⟨gA 0,.inl rfl,trivial⟩ ?_
 first | refine aE (j6 m.gs.length (by omega)) rfl (by simp [go_sem,ac,wx]) (by (try simp only [aJ,aQ,ay]);omega) ?_ | refine az (j6 m.gs.length (by omega)) rfl (by simp [go_sem,ac,wx]) (by (try simp only [aJ,aQ,ay]);omega) ?_
 simp only [go_sem]
 refine cJ 11 5 [(2,.mp 2 12 0 0),(5,.mp 5 2 0 0),(4,.mp 4 2 0 0)] [(2,⟨33,12,[gH m],true⟩),(4,⟨81,2,[[.nl,.int .i64 0]],true⟩)] pi m.gs ([]++aA m.gs.length) (by simp only [aJ,ay];omega) (by omega) (Wk.of ?_ ?_) ?_ ?_
 ·simp only [go_sem,bX];try simp
 ·simp only [go_sem,bX];try simp [go_sem]
 ·simp only [go_sem,bX,aG (Int.lt_irrefl _)]
  exact ey (fun _ h=>by cases h) (by rfl) rfl
 intro i v hi q1 hu e8 k
 have hg:=bp h.lim.gs.2 hi
 have hj:=(mA hg.2 (h.num.2.1 _ (by rw [bD hi];exact List.getElem_mem hi))).1
 have c:=L2 hg.1
 have c2:=js hj (by have:=hg.2.1;omega)
 simp only [Tl] at c
 unfold pi at hu k
 rw [← dB] at k
 rw [aJ] at hu
 simp only [go_sem,bX,aF q1,ua]
 refine ⟨by omega,q1,?_⟩
 first | refine aE (c) rfl (by simp [go_sem,ac,wx]) (by (try simp only [aJ,aQ,ay]);omega) ?_ | refine az (c) rfl (by simp [go_sem,ac,wx]) (by (try simp only [aJ,aQ,ay]);omega) ?_
 simp only [go_sem,ua]
 refine ⟨by omega,q1,?_⟩
 first | refine aE (c2) rfl (by simp [go_sem,ac,wx]) (by (try simp only [aJ,aQ,ay]);omega) ?_ | refine az (c2) rfl (by simp [go_sem,ac,wx]) (by (try simp only [aJ,aQ,ay]);omega) ?_
 simp only [go_sem]
 refine k _ (Wk.of ?_ ?_)
 ·simp only [go_sem,bX,e8];try simp
 ·simp only [go_sem,bX];try simp [go_sem]
theorem GF {p:Int} (hp:1≤p∧p≤12) (hs:p=8→m.hs=true) (hm:7≤p→ae Tryz.prog nZ [bJ m,.int .i64 p] (wx (dg m p) 0)):ae Tryz.prog pO [bJ m,.int .i64 p] (wx (dg m p) 0):=by
 rcases (show p=1∨p=2∨p=3∨p=4∨p=5∨p=6∨7≤p by omega) with rfl | rfl | rfl | rfl | rfl | rfl | q
 ·exact V0 h ht
 ·exact V1 h ht
 ·exact V2 h ht
 ·exact V3 h ht
 ·exact V4 h ht
 ·exact V5 h ht
 have c:=hm q
 simp only [bJ,aV] at c
 refine ab (ic:=gQ.body) aq pc rfl rfl ?_
 simp only [go_sem,gQ,bJ,aN (show p≠1 by omega),aN (show p≠2 by omega),aN (show p≠3 by omega),aN (show p≠4 by omega),aN (show p≠5 by omega),aN (show p≠6 by omega)]
 refine aa (c) ?_
 simp only [go_sem]
 exact aj
theorem V6:ae Tryz.prog nZ [bJ m,.int .i64 7] (wx (dg m 7) 0):=by
 have hw:(dg m 7).length≤520000000:=dy h ht 7 (fun q=>absurd q (by decide))
 have hl:m.exs.length≤64:=by have:=h.lim.exs.1;omega
 have he:dg m 7=bT ph m.exs:=rfl
 rw [he,fM] at hw ⊢
 simp only [aJ,ay] at hw
 refine ab (ic:=iY.body) aq rn rfl rfl ?_
 simp only [go_sem,iY,bJ]
 refine cA [wx [] 0,.int .i64 m.exs.length] ⟨gA 0,.inl rfl,trivial⟩ ?_
 first | refine aE (j6 m.exs.length (by omega)) rfl (by simp [go_sem,ac,wx]) (by (try simp only [aJ,aQ,ay]);omega) ?_ | refine az (j6 m.exs.length (by omega)) rfl (by simp [go_sem,ac,wx]) (by (try simp only [aJ,aQ,ay]);omega) ?_
 simp only [go_sem]
 refine cJ 6 5 [(2,.mp 2 12 0 0),(5,.mp 5 2 0 0),(4,.mp 4 2 0 0)] [(2,⟨33,12,[gH m],true⟩),(4,⟨81,2,[[.nl,.int .i64 0]],true⟩)] ph m.exs ([]++aA m.exs.length) (by simp only [aJ,ay];omega) (by omega) (Wk.of ?_ ?_) ?_ ?_
 ·simp only [go_sem,bX];try simp
 ·simp only [go_sem,bX];try simp [go_sem]
 ·simp only [go_sem,bX,aG (Int.lt_irrefl _)]
  exact ey (fun _ h=>by cases h) (by rfl) rfl
 intro i v hi q1 hu e8 k
 have hx:=bp h.lim.exs.2 hi
 obtain ⟨e1,e2,e3⟩:=K6 hx
 have hk8:IntKind.u8.wrap (ah m.exs i).k=(((UInt8.ofNat (ah m.exs i).k.toNat).toNat:Nat):Int):=LX e2
 have cn:=xF e1
 have cb:=ue (UInt8.ofNat (ah m.exs i).k.toNat)
 rw [← hk8] at cb
 have ci:=ss (eu.1 e3)
 unfold ph at hu k
 rw [← dB,← dB] at k
 simp only [aJ,aQ,ay] at hu
 simp only [go_sem,bX,aF q1,Bc]
 refine ⟨by omega,q1,?_⟩
 first | refine aE (cn) rfl (by simp [go_sem,ac,wx]) (by (try simp only [aJ,aQ,ay]);omega) ?_ | refine az (cn) rfl (by simp [go_sem,ac,wx]) (by (try simp only [aJ,aQ,ay]);omega) ?_
 simp only [go_sem,Bc]
 refine ⟨by omega,q1,?_⟩
 first | refine aE (cb) rfl (by simp [go_sem,ac,wx]) (by (try simp only [aJ,aQ,ay]);omega) ?_ | refine az (cb) rfl (by simp [go_sem,ac,wx]) (by (try simp only [aJ,aQ,ay]);omega) ?_
 simp only [go_sem,Bc]
 refine ⟨by omega,q1,?_⟩
 first | refine aE (ci) rfl (by simp [go_sem,ac,wx]) (by (try simp only [aJ,aQ,ay]);omega) ?_ | refine az (ci) rfl (by simp [go_sem,ac,wx]) (by (try simp only [aJ,aQ,ay]);omega) ?_
 simp only [go_sem]
 refine k _ (Wk.of ?_ ?_)
 ·simp only [go_sem,bX,e8];try simp
 ·simp only [go_sem,bX];try simp [go_sem]
theorem V7 (hs:m.hs=true):ae Tryz.prog nZ [bJ m,.int .i64 8] (wx (dg m 8) 0):=by
 have _:=ht
 have c:=ss (eu.1 (h.lim.st hs))
 refine ab (ic:=iY.body) aq rn rfl rfl ?_
 simp only [go_sem,iY,bJ]
 refine cA [wx [] 0,.int .i64 m.st] ⟨gA 0,.inl rfl,trivial⟩ ?_
 refine aE c rfl (by simp [go_sem,wx]) (by have:=be (n:=m.st.toNat) (by have:=eu.1 (h.lim.st hs);omega);(try simp only [ay]);omega) ?_
 simp only [go_sem]
 exact ey (fun _ h=>by cases h) (by rfl) rfl
theorem Qy:ae Tryz.prog nZ [bJ m,.int .i64 10] (wx (dg m 10) 0):=by
 have _:=ht
 have hl:m.ds.length≤64:=by have:=h.lim.ds.1;omega
 refine ab (ic:=iY.body) aq rn rfl rfl ?_
 simp only [go_sem,iY,bJ]
 refine cA [wx [] 0,.int .i64 m.ds.length] ⟨gA 0,.inl rfl,trivial⟩ ?_
 refine aE (j6 m.ds.length (by omega)) rfl (by simp [go_sem,wx]) (by have:=be (n:=m.ds.length) (by omega);(try simp only [ay]);omega) ?_
 simp only [go_sem]
 exact ey (fun _ h=>by cases h) (by rfl) rfl
theorem V8:ae Tryz.prog nZ [bJ m,.int .i64 9] (wx (dg m 9) 0):=by
 have hw:(dg m 9).length≤520000000:=dy h ht 9 (fun q=>absurd q (by decide))
 have hl:m.els.length≤64:=by have:=h.lim.els.1;omega
 have he:dg m 9=bT nQ m.els:=rfl
 rw [he,fM] at hw ⊢
 simp only [aJ,ay] at hw
 refine ab (ic:=iY.body) aq rn rfl rfl ?_
 simp only [go_sem,iY,bJ]
 refine cA [wx [] 0,.int .i64 m.els.length] ⟨gA 0,.inl rfl,trivial⟩ ?_
 first | refine aE (j6 m.els.length (by omega)) rfl (by simp [go_sem,ac,wx]) (by (try simp only [aJ,aQ,ay]);omega) ?_ | refine az (j6 m.els.length (by omega)) rfl (by simp [go_sem,ac,wx]) (by (try simp only [aJ,aQ,ay]);omega) ?_
 simp only [go_sem]
 refine cJ 7 5 [(2,.mp 2 12 0 0),(5,.mp 5 2 0 0),(4,.mp 4 2 0 0)] [(2,⟨33,12,[gH m],true⟩),(4,⟨81,2,[[.nl,.int .i64 0]],true⟩)] nQ m.els ([]++aA m.els.length) (by simp only [aJ,ay];omega) (by omega) (Wk.of ?_ ?_) ?_ ?_
 ·simp only [go_sem,bX];try simp
 ·simp only [go_sem,bX];try simp [go_sem]
 ·simp only [go_sem,bX,aG (Int.lt_irrefl _)]
  exact ey (fun _ h=>by cases h) (by rfl) rfl
 intro i v hi q1 hu e8 k
 have c:=Qx (bp h.lim.els.2 hi) (h.num.2.2.1 _ (by rw [bD hi];exact List.getElem_mem hi)).1 (h.num.2.2.1 _ (by rw [bD hi];exact List.getElem_mem hi)).2
 rw [a_] at c
 simp only [go_sem,bX,aF q1,a_]
 refine ⟨by omega,q1,?_⟩
 first | refine aE (c) rfl (by simp [go_sem,ac,wx]) (by (try simp only [aJ,aQ,ay]);omega) ?_ | refine az (c) rfl (by simp [go_sem,ac,wx]) (by (try simp only [aJ,aQ,ay]);omega) ?_
 simp only [go_sem]
 refine k _ (Wk.of ?_ ?_)
 ·simp only [go_sem,bX,e8];try simp
 ·simp only [go_sem,bX];try simp [go_sem]
theorem Qz:ae Tryz.prog nZ [bJ m,.int .i64 11] (wx (dg m 11) 0):=by
 have hw:(dg m 11).length≤520000000:=dy h ht 11 (fun q=>absurd q (by decide))
 have hl:m.fs.length≤64:=by have:=h.lim.fs.1;omega
 have he:dg m 11=bT pg m.fs:=rfl
 rw [he,fM] at hw ⊢
 simp only [aJ,ay] at hw
 refine ab (ic:=iY.body) aq rn rfl rfl ?_
 simp only [go_sem,iY,bJ]
 refine cA [wx [] 0,.int .i64 m.fs.length] ⟨gA 0,.inl rfl,trivial⟩ ?_
 first | refine aE (j6 m.fs.length (by omega)) rfl (by simp [go_sem,ac,wx]) (by (try simp only [aJ,aQ,ay]);omega) ?_ | refine az (j6 m.fs.length (by omega)) rfl (by simp [go_sem,ac,wx]) (by (try simp only [aJ,aQ,ay]);omega) ?_
 simp only [go_sem]
 refine cJ 8 5 [(2,.mp 2 12 0 0),(5,.mp 5 2 0 0),(4,.mp 4 2 0 0)] [(2,⟨33,12,[gH m],true⟩),(4,⟨81,2,[[.nl,.int .i64 0]],true⟩)] pg m.fs ([]++aA m.fs.length) (by simp only [aJ,ay];omega) (by omega) (Wk.of ?_ ?_) ?_ ?_
 ·simp only [go_sem,bX];try simp
 ·simp only [go_sem,bX];try simp [go_sem]
 ·simp only [go_sem,bX,aG (Int.lt_irrefl _)]
  exact ey (fun _ h=>by cases h) (by rfl) rfl
 intro i v hi q1 hu e8 k
 obtain ⟨o1,o2,o3,o4,o5,o6⟩:=AC h (ah m.fs i) (by rw [bD hi];exact List.getElem_mem hi)
 have c:=Qv o1 o2 o4 o5
 rw [cH] at c
 have c2:=QB (ll (ah m.fs i))
 unfold pg at hu k
 rw [aJ] at hu
 simp only [go_sem,bX,aF q1,cH]
 refine ⟨by omega,q1,?_⟩
 first | refine ck c (by simp [go_sem]) ?_ | refine aB c (by simp [go_sem]) rfl ?_
 simp only [go_sem]
 first | refine aE (c2) rfl (by simp [go_sem,ac,wx]) (by (try simp only [aJ,aQ,ay]);omega) ?_ | refine az (c2) rfl (by simp [go_sem,ac,wx]) (by (try simp only [aJ,aQ,ay]);omega) ?_
 simp only [go_sem]
 refine k _ (Wk.of ?_ ?_)
 ·simp only [go_sem,bX,e8];try simp
 ·simp only [go_sem,bX];try simp [go_sem]
theorem QA:ae Tryz.prog nZ [bJ m,.int .i64 12] (wx (dg m 12) 0):=by
 have hw:(dg m 12).length≤520000000:=dy h ht 12 (fun q=>absurd q (by decide))
 have hl:m.ds.length≤64:=by have:=h.lim.ds.1;omega
 have he:dg m 12=bT nP m.ds:=rfl
 rw [he,fM] at hw ⊢
 simp only [aJ,ay] at hw
 refine ab (ic:=iY.body) aq rn rfl rfl ?_
 simp only [go_sem,iY,bJ]
 refine cA [wx [] 0,.int .i64 m.ds.length] ⟨gA 0,.inl rfl,trivial⟩ ?_
 first | refine aE (j6 m.ds.length (by omega)) rfl (by simp [go_sem,ac,wx]) (by (try simp only [aJ,aQ,ay]);omega) ?_ | refine az (j6 m.ds.length (by omega)) rfl (by simp [go_sem,ac,wx]) (by (try simp only [aJ,aQ,ay]);omega) ?_
 simp only [go_sem]
 refine cJ 9 5 [(2,.mp 2 12 0 0),(5,.mp 5 2 0 0),(4,.mp 4 2 0 0)] [(2,⟨33,12,[gH m],true⟩),(4,⟨81,2,[[.nl,.int .i64 0]],true⟩)] nP m.ds ([]++aA m.ds.length) (by simp only [aJ,ay];omega) (by omega) (Wk.of ?_ ?_) ?_ ?_
 ·simp only [go_sem,bX];try simp
 ·simp only [go_sem,bX];try simp [go_sem]
 ·simp only [go_sem,bX,aG (Int.lt_irrefl _)]
  exact ey (fun _ h=>by cases h) (by rfl) rfl
 intro i v hi q1 hu e8 k
 have c:=Qw (bp h.lim.ds.2 hi) (h.num.2.2.2 _ (by rw [bD hi];exact List.getElem_mem hi))
 rw [d_] at c
 simp only [go_sem,bX,aF q1,d_]
 refine ⟨by omega,q1,?_⟩
 first | refine aE (c) rfl (by simp [go_sem,ac,wx]) (by (try simp only [aJ,aQ,ay]);omega) ?_ | refine az (c) rfl (by simp [go_sem,ac,wx]) (by (try simp only [aJ,aQ,ay]);omega) ?_
 simp only [go_sem]
 refine k _ (Wk.of ?_ ?_)
 ·simp only [go_sem,bX,e8];try simp
 ·simp only [go_sem,bX];try simp [go_sem]
theorem KR {p:Int} (hp:7≤p∧p≤12) (hs:p=8→m.hs=true):ae Tryz.prog nZ [bJ m,.int .i64 p] (wx (dg m p) 0):=by
 rcases (show p=7∨p=8∨p=9∨p=10∨p=11∨p=12 by omega) with rfl | rfl | rfl | rfl | rfl | rfl
 ·exact V6 h ht
 ·exact V7 h ht (hs rfl)
 ·exact V8 h ht
 ·exact Qy h ht
 ·exact Qz h ht
 ·exact QA h ht
end
section
open Go Go.Mw
attribute [local go_sem] cY wx jr bG aV dU dQ
theorem sa {m:Md} (hs:oN m) (hn:AB m) (hI:yI mD m→nI m≤1290000):ae Tryz.prog TJ [bJ m] (.tup [.sl 1 ((fA m).2.map dJ),.int .i64 (fA m).1]):=by
 refine ab (ic:=Bj.body) aq Rr rfl rfl ?_
 have c1:=Fr mD m hs Vj
 simp only [bJ,aV] at c1
 simp only [go_sem,Bj,bJ]
 refine aa (c1) ?_
 by_cases hL:(pG mD m).c=0
 rotate_left
 ·have r:fA m=((pG mD m).c,[]):=by unfold fA;rw [aK hL]
  rw [r]
  simp only [go_sem,aZ hL]
  exact cO (Wk.nls _ 2 1 (by simp only [go_sem])) [] (by first | rfl | simp only [go_sem]) rfl
 have hok:=(EH hs).1 hL
 have c2:=Fv hok
 simp only [bJ,aV] at c2
 simp only [go_sem,aL hL]
 refine aa (c2) ?_
 cases hne:ol m
 ·have r:fA m=(16,[]):=by unfold fA;rw [aD (by simp [hL]),aK hne]
  rw [r]
  simp only [go_sem]
  exact cO (Wk.nls _ 2 1 (by simp only [go_sem])) [] (by first | rfl | simp only [go_sem]) rfl
 have c3:=AX (m:=m) (by have:=hok.cs.1;omega)
 simp only [bJ,aV] at c3
 simp only [go_sem]
 refine aa (c3) ?_
 cases hor:qP m
 ·have r:fA m=(7,[]):=by unfold fA;rw [aD (by simp [hL]),aD (by simp [hne]),aK hor]
  rw [r]
  simp only [go_sem]
  exact cO (Wk.nls _ 2 1 (by simp only [go_sem])) [] (by first | rfl | simp only [go_sem]) rfl
 have r:fA m=th (AJ m):=by unfold fA;rw [aD (by simp [hL]),aD (by simp [hne]),aD (by simp [hor])]
 rw [r]
 have h:QY m:=⟨hok,hne,hor,hn⟩
 have htot:=hI hok
 obtain ⟨b1,b2,b3,b4⟩:=PA h htot
 have c4:=vv m
 simp only [bJ,aV] at c4
 have c7:=J_ (AJ m) b2 b1 b4 b3
 have hcs:=hok.cs.1
 have k0:=AU m 0 hcs
 simp only [bJ,aV] at k0
 simp only [go_sem]
 refine rq k0 rfl (by simp [go_sem]) 901 (by decide) (by simp only [go_sem]) ?_
 simp only [go_sem]
 refine aa (c4) ?_
 have hp:qx m 0++k8 m (jI m)=AJ m:=rfl
 have hpl:=p6 m
 have hpi:=tA m
 have hp8:(8:Int)∈jI m→m.hs=true:=fun q=>(vq q).2.2.2.2.2.2.2.1 rfl
 generalize jI m=ps at *
 generalize AJ m=R at *
 simp only [go_sem]
 refine an (fun q:Nat×List jS=>⟨[(7,.int .i64 q.1),(6,.sl 1 (ps.map ri)),(5,.ms 901 3 0 q.2.length),(1,.mp 1 12 0 0)],[(901,tE q.2),(1,⟨33,12,[gH m],true⟩)]⟩) (fun q=>q.1≤ps.length∧q.2++k8 m (ps.drop q.1)=R) (fun q=>ps.length - q.1) (0,qx m 0) ⟨cE _,hp⟩ (Wk.of ?_ ?_) ?_
 ·simp only [go_sem];try simp
 ·simp only [go_sem];try simp [go_sem]
 rintro ⟨i,L⟩ ⟨hi2,hP⟩
 simp only at hi2 hP
 by_cases q1:(i:Int)<(ps.length:Int)
 rotate_left
 ·rw [List.drop_eq_nil_of_le (by omega),k8,gx] at hP
  subst hP
  simp only [go_sem,aG q1,tE]
  refine i5 [901] ?_ c7 (by simp [go_sem]) ?_
  ·simp only [go_sem,bj]
   rw [dS (by simp)]
  simp only [go_sem]
  exact aj
 have hi':i<ps.length:=by omega
 have e8:=wi (n:=(i:Int)+1) (by omega) (by omega)
 have hin:ah ps i∈ps:=by rw [bD hi'];exact List.getElem_mem hi'
 rw [kP hi',k8] at hP
 generalize hp':ah ps i=p at *
 have hp1:=hpi p hin
 have hp8':p=8→m.hs=true:=fun q=>hp8 (q▸hin)
 have c5:=GF h htot hp1 hp8' fun q=>KR h htot ⟨q,hp1.2⟩ hp8'
 have c6:=PM p
 have k5:=xf m p hcs
 simp only [bJ,aV] at c5 k5
 have hll:L.length+1+(qx m p).length≤10000:=by
  have:=congrArg List.length hP
  simp only [aJ,aQ] at this
  omega
 obtain ⟨S,hS⟩:∃S:jS,(⟨oZ p,[],some (dg m p)⟩:jS)=S:=⟨_,rfl⟩
 have ha1:=HM (id:=901) (by decide) (L:=L) (M:=[S]) (by omega) (by simp)
 have ha2:=HM (id:=901) (by decide) (L:=L++[S]) (M:=qx m p) (by simp;omega) (by omega)
 rw [hS] at hP
 simp only [eW,List.map_nil] at ha1
 rw [show nF S=[.int .i64 (oZ p),.str [],.sl 1 ((dg m p).map dJ)] by rw [← hS];rfl] at ha1
 simp only [go_sem,aF q1,hp']
 refine ⟨by omega,q1,?_⟩
 refine aa (c5) ?_
 simp only [go_sem]
 refine aa (Fg (dg m p) 0) ?_
 rw [show wD true (dg m p) 0=(some (dg m p),0) from rfl]
 simp only [go_sem,dN,tE,hp']
 refine ⟨by omega,q1,?_⟩
 first | refine ck c6 (by simp [go_sem]) ?_ | refine aB c6 (by simp [go_sem]) rfl ?_
 simp only [go_sem,ha1,hp']
 refine ⟨by omega,q1,?_⟩
 first | refine ck k5 (by simp [go_sem]) ?_ | refine aB k5 (by simp [go_sem]) rfl ?_
 simp only [go_sem,ha2]
 refine aC (i+1,L++[S]++qx m p) ⟨show i+1≤ps.length by omega,by rw [← hP];simp⟩ (show ps.length - (i+1)<ps.length - i by omega) (Wk.of ?_ ?_)
 ·simp only [go_sem,e8];try simp
 ·simp only [go_sem,tE];try simp [go_sem]
theorem sc {m:Md} (hs:oN m) (hn:AB m) (hI:yI mD m→nI m≤1290000):ae Tryz.prog T5 [bJ m] (.bool ((fA m).1==0)):=by
 refine ab (ic:=BH.body) aq R1 rfl rfl ?_
 have c:=sa hs hn hI
 simp only [bJ,aV] at c
 simp only [go_sem,BH,bJ]
 refine aa (c) ?_
 simp only [go_sem]
 exact aj
end
section
open Go Go.Mw
theorem vk {B:Nat} {l:List bz} (h:bL sJ B l):vj l:=fun y hy=>(h.2 y hy).1
theorem O7 {B:Nat} {m:Md} (hm:Dh B m):AB m:=by
 obtain ⟨b1,b2,b3,b4,b5,b6,b7,b8,b9,b10⟩:=hm
 exact ⟨fun x hx=>vk (b3.2 x hx).2,fun x hx=>vk (b6.2 x hx),fun x hx=>⟨vk (b8.2 x hx).1,fun l hl=>vk ((b8.2 x hx).2.2 l hl)⟩,fun x hx=>vk (b9.2 x hx).1⟩
theorem O5:Jw [.nl,.nl,.nl,.nl,.nl,.nl,.nl,.bool false,.int .i64 0,.nl,.nl,.nl] (gH default) :=
 ⟨.inr ⟨rfl,2,rfl⟩,.inr ⟨rfl,13,rfl⟩,.inr ⟨rfl,3,rfl⟩,.inr ⟨rfl,4,rfl⟩,.inr ⟨rfl,3,rfl⟩,.inr ⟨rfl,3,rfl⟩,.inr ⟨rfl,3,rfl⟩,.inl rfl,.inl rfl,.inr ⟨rfl,5,rfl⟩,.inr ⟨rfl,4,rfl⟩,.inr ⟨rfl,3,rfl⟩,trivial⟩
theorem E0:Jw [.str [],.nl,.nl] (iU default):=⟨.inl rfl,.inr ⟨rfl,2,rfl⟩,.inr ⟨rfl,2,rfl⟩,trivial⟩
theorem LG:QZ default:=⟨cE _,fun x h=>absurd h List.not_mem_nil,fun x h=>absurd h List.not_mem_nil⟩
theorem GC {m:Md} {n:Ns} (h:¬(cX m n).2=0):(cX m n).1=default:=by
 unfold cX at h ⊢
 split at h
 ·rename_i q;rw [aK q]
 ·rename_i q
  rw [aD q]
  split at h
  ·exact absurd rfl h
  ·rename_i q2
   rw [aD q2]
   split at h
   ·rename_i q3;rw [aK q3]
   ·exact absurd rfl h
theorem GE {m:Md} {n:Ns} (h:(cX m n).2=0):nI (cX m n).1=nI m:=by
 unfold cX at h ⊢
 split at h
 ·rename_i q;exact absurd h q
 ·rename_i q
  rw [aD q]
  split at h
  ·rename_i q2;rw [aK q2];rfl
  ·rename_i q2
   rw [aD q2]
   split at h
   ·cases h
   ·rename_i q3;rw [aD q3];rfl
attribute [local go_sem] cY aV bJ Az
theorem A7 (m:Md) (n:Ns) (bm:Dh 1048576 m) (bn:Wz 1048576 n):ae Tryz.prog YR [bJ m,qN n] (.bool true):=by
 refine ab (ic:=Mi.body) aq W1 rfl rfl ?_
 have hm:=VJ bm
 have hn:=VK bn
 have hnum:=O7 bm
 have cf:=Kr n
 have cg:=P3 m
 simp only [Az] at cf
 simp only [bJ,aV] at cg
 simp only [go_sem,Mi,bJ]
 refine aa (cf) ?_
 cases DL n
 ·simp only [go_sem]
  refine aa (fJ) ?_
  simp only [go_sem]
  exact aj
 simp only [go_sem]
 refine aa (cg) ?_
 cases hF:DM m
 ·simp only [go_sem]
  refine aa (fJ) ?_
  simp only [go_sem]
  exact aj
 by_cases h30:(m.cs.length:Int)>30
 ·simp only [go_sem,aF h30]
  refine aa (fJ) ?_
  simp only [go_sem]
  exact aj
 have cp:=sc hm hnum fun h=>x8 h hF
 simp only [bJ,aV] at cp
 simp only [go_sem,aG h30]
 refine aa (cp) ?_
 by_cases hP:(fA m).1=0
 rotate_left
 ·simp only [go_sem,aN hP]
  refine aa (fJ) ?_
  simp only [go_sem]
  exact aj
 obtain ⟨k1,k2,k3⟩:=Ik hm hP
 have c3:=mO m n (uC bm) hn
 simp only [Az,bJ,aV] at c3
 simp only [go_sem,bq hP]
 refine aa (c3) ?_
 by_cases he:(cX m n).2=0
 rotate_left
 ·have hd:=GC he
  have c6:=yS default default VI
  rw [aF (oU _)] at c6
  simp only [go_sem,aZ he,hd]
  refine cA [bJ default,bJ default] ⟨.inl rfl,.inr (.inr ⟨_,_,rfl,rfl,O5⟩),trivial⟩ ?_
  refine aa (c6) ?_
  simp only [go_sem]
  refine aa (fJ) ?_
  simp only [go_sem]
  exact aj
 obtain ⟨j1,j2,j3⟩:=KQ k1 k2 k3 n he
 have hc:=KY (n:=n) (uC bm) (by omega)
 have hu:=Du hc
 have hun:=GD hnum n
 have hut:yI mD (cX m n).1→nI (cX m n).1≤1290000:=fun _=>by rw [GE he];exact x8 k1 hF
 have hv:=A9 m n he
 have cu:=sc hu hun hut
 have ce:=sa hu hun hut
 have cv:=mO (cX m n).1 default hc LG
 have cw:=mO m default (uC bm) LG
 rw [hv] at cv
 rw [tT] at cv cw
 have hv2:oN { m with cs:=kZ m.cs }:=by have:=Du (KY (n:=default) (uC bm) (by omega));rw [tT] at this;exact this
 have c6:=yS { m with cs:=kZ m.cs } { m with cs:=kZ m.cs } hv2
 rw [aF (oU _)] at c6
 have z:=N2 hu j1 j2 j3
 generalize (cX m n).1=U at *
 simp only [bJ,aV] at cu ce cv cw c6
 simp only [go_sem,aL he]
 refine aa (cu) ?_
 rcases z with z | z
 ·simp only [go_sem,bq z]
  refine cA [bJ U,qN default] ⟨.inl rfl,.inr (.inr ⟨_,_,rfl,rfl,E0⟩),trivial⟩ ?_
  refine aa (cv) ?_
  simp only [go_sem]
  refine cA [bJ m,qN default] ⟨.inl rfl,.inr (.inr ⟨_,_,rfl,rfl,E0⟩),trivial⟩ ?_
  refine aa (cw) ?_
  simp only [go_sem]
  refine aa (c6) ?_
  simp only [go_sem]
  refine aa (fJ) ?_
  simp only [go_sem]
  exact aj
 ·rw [z] at ce
  simp only [go_sem,z]
  refine aa (ce) ?_
  simp only [go_sem,show (((0:Nat):Int)==0)=true from rfl]
  refine aa (fJ) ?_
  simp only [go_sem]
  exact aj
end
end Go.Proofs.YtjndcljjbpeljaaGreatDoor