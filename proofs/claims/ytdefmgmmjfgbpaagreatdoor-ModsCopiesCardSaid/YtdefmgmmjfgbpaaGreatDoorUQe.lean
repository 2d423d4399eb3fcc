import Derived.Test.YtdefmgmmjfgbpaaGreatDoorUQd
set_option linter.all false
set_option maxRecDepth 100000
set_option maxHeartbeats 400000000
namespace Go.Proofs.YtdefmgmmjfgbpaaGreatDoor
section
open Go Go.Mw
attribute [local go_sem] kL jf jg kM kN jd ij je kF kD kE jz
theorem qt {r1 r2:ac} {G:List (Nat×ac)} {c:Nat} (h1:bo r1=[]) (h2:bo r2=[]) (hc:1000≤c) (hG:∀p∈G,p.1<c∧i8 c p.2):∀p∈(2,r2) :: (1,r1) :: G,p.1<c∧i8 c p.2:=fun p hp=>by
 rcases bE.1 hp with rfl | hp
 ·exact ⟨by show 2<c;omega,fun x hx=>by rw [h2] at hx;cases hx⟩
 rcases bE.1 hp with rfl | hp
 ·exact ⟨by show 1<c;omega,fun x hx=>by rw [h1] at hx;cases hx⟩
 ·exact hG p hp
attribute [local go_sem] dn
theorem Hh (x:Da) (h:Bi x) (b:Nat) (hb:1267650600228229401496703205376≤b):aE Tryz.prog yw [.agg (et x)] [] sb (fun r G=>∃cs,r = .agg cs∧iW b 2097154 (gn 69) (et x) cs G):=by
 refine aP (ic:=ja [3,8] zQ.body) ap Pf rfl rfl ?_
 simp only [go_sem,zQ,ce]
 refine fe (fun G:List (Nat×ac)=>⟨[(1,.mp 1 4 0 0),(2,.mp 2 4 0 0),(5,.ms b 9 0 x.o.length),(7,.sl 1 (x.b.map ni))],(2,⟨69,4,[[.int .i64 0,.int .i64 0,.nl,.nl]],true⟩) :: (1,⟨69,4,[[.int .i64 x.mo,.int .i64 x.me,.sl 9 (x.o.map aU),.sl 1 (x.b.map ni)]],true⟩) :: G⟩) (fun G=>gC b 2097153 79 9 (.sl 9 (x.o.map aU)) (.ms b 9 0 x.o.length) G) ?_ ?_
 ·simp only [go_sem]
  repeat' (first
   | refine And.intro ?_ ?_
   | (refine bn (b) 2097153 (kQ x.o h.1 b hb) (by omega) (fun r σ' ho=>ho.2.nm) (by simp [fv,ax,bU,be,bt];try omega) (qt rfl rfl (by omega) (fun p hp=>by cases hp)) ?_;rintro _ G ⟨rfl,hO⟩;simp only [go_sem])
   | exact kR G hO (Wk.of2 (by simp only [go_sem];try simp) (fun j o h=>h))
   | omega)
 rintro G hO
 refine fe (fun G':List (Nat×ac)=>⟨[(1,.mp 1 4 0 0),(2,.mp 2 4 0 0),(5,.ms b 9 0 x.o.length),(8,.ms (b+2097153) 1 0 x.b.length),(9,.mp 1 4 0 2)],(2,⟨69,4,[[.int .i64 0,.int .i64 0,.nl,.nl]],true⟩) :: (1,⟨69,4,[[.int .i64 x.mo,.int .i64 x.me,.sl 9 (x.o.map aU),.sl 1 (x.b.map ni)]],true⟩) :: (G++G')⟩) (fun G'=>gC (b+2097153) 1 5 1 (.sl 1 (x.b.map ni)) (.ms (b+2097153) 1 0 x.b.length) G') ?_ ?_
 ·simp only [go_sem]
  repeat' (first
   | refine And.intro ?_ ?_
   | (refine bn (b+2097153) 1 (CW x.b h.2 (b+2097153) (by omega)) (by omega) (fun r σ' ho=>by rw [ho.2];simp) (by simp [fv,ax,bU,be,bt];try omega) (qt rfl rfl (by omega) (hO.bel (by omega))) ?_;rintro _ _ ⟨rfl,rfl⟩;simp only [go_sem])
   | exact kR _ (gC.by (b:=b+2097153) (by omega) x.b h.2) (Wk.of2 (by simp only [go_sem];try simp) (fun j o h=>h))
   | omega)
 rintro G' hO2
 obtain ⟨f,hn,⟨k1,p1⟩,k2,p2⟩:=hO.two hO2
 simp only [go_sem,f.del,f.pur]
 have out:iW b 2097154 (gn 69) (et x) [.int .i64 x.mo,.int .i64 x.me,.ms b 9 0 x.o.length,.ms (b+2097153) 1 0 x.b.length] (G++G'):=⟨f,hn,⟨⟨_,rfl⟩,⟨_,rfl⟩,k1,k2,trivial⟩,⟨.imm _ rfl rfl,.imm _ rfl rfl,p1,p2,trivial⟩⟩
 refine eO.wk (Wk.of2 (s':=⟨[(2,.mp 2 4 0 0)],(2,⟨69,4,[[.int .i64 x.mo,.int .i64 x.me,.ms b 9 0 x.o.length,.ms (b+2097153) 1 0 x.b.length]],true⟩) :: (G++G')⟩) (by simp only [go_sem];try simp) (fun j o h=>pq (fun p hp=>cE (by omega) (hn p hp).1) h)) ?_
 exact eX (fun _ h=>by cases h) (.agg _) _ (by simp only [go_sem]) (fun j o h=>iB (fun p hp=>cE (by omega) (hn p hp).1) h) out.cl ⟨_,rfl,out⟩
theorem Hi (x:El) (h:Bj x) (b:Nat) (hb:1267650600228229401496703205376≤b):aE Tryz.prog yu [.agg (dL x)] [] sb (fun r G=>∃cs,r = .agg cs∧iW b 2199026401282 (gn 66) (dL x) cs G):=by
 refine aP (ic:=ja [3,8] zP.body) ap Pe rfl rfl ?_
 simp only [go_sem,zP,bW]
 refine fe (fun G:List (Nat×ac)=>⟨[(1,.mp 1 5 0 0),(2,.mp 2 5 0 0),(5,.ms b 9 0 x.o.length),(7,.sl 1 (x.it.map cU))],(2,⟨66,5,[[.int .i64 0,.int .i64 0,.nl,.int .i64 0,.nl]],true⟩) :: (1,⟨66,5,[[.int .i64 x.mo,.int .i64 x.tb,.sl 9 (x.o.map aU),.int .i64 x.ty,.sl 1 (x.it.map cU)]],true⟩) :: G⟩) (fun G=>gC b 2097153 79 9 (.sl 9 (x.o.map aU)) (.ms b 9 0 x.o.length) G) ?_ ?_
 ·simp only [go_sem]
  repeat' (first
   | refine And.intro ?_ ?_
   | (refine bn (b) 2097153 (kQ x.o h.1 b hb) (by omega) (fun r σ' ho=>ho.2.nm) (by simp [fv,ax,bU,be,bt];try omega) (qt rfl rfl (by omega) (fun p hp=>by cases hp)) ?_;rintro _ G ⟨rfl,hO⟩;simp only [go_sem])
   | exact kR G hO (Wk.of2 (by simp only [go_sem];try simp) (fun j o h=>h))
   | omega)
 rintro G hO
 refine fe (fun G':List (Nat×ac)=>⟨[(1,.mp 1 5 0 0),(2,.mp 2 5 0 0),(5,.ms b 9 0 x.o.length),(8,.ms (b+2097153) 1 0 x.it.length),(9,.mp 1 5 0 2)],(2,⟨66,5,[[.int .i64 0,.int .i64 0,.nl,.int .i64 0,.nl]],true⟩) :: (1,⟨66,5,[[.int .i64 x.mo,.int .i64 x.tb,.sl 9 (x.o.map aU),.int .i64 x.ty,.sl 1 (x.it.map cU)]],true⟩) :: (G++G')⟩) (fun G'=>gC (b+2097153) 2199024304129 58 1 (.sl 1 (x.it.map cU)) (.ms (b+2097153) 1 0 x.it.length) G') ?_ ?_
 ·simp only [go_sem]
  repeat' (first
   | refine And.intro ?_ ?_
   | (refine bn (b+2097153) 2199024304129 (Hv x.it h.2.1 h.2.2 (b+2097153) (by omega)) (by omega) (fun r σ' ho=>fun p hp=>⟨(ho.2.nm p hp).1,Nat.lt_of_lt_of_le (ho.2.nm p hp).2 (by have:=h.2.1;omega)⟩) (by simp [fv,ax,bU,be,bt];try omega) (qt rfl rfl (by omega) (hO.bel (by omega))) ?_;rintro _ G' ⟨rfl,hO2⟩;simp only [go_sem])
   | exact kR G' (hO2.mono (by have:=h.2.1;omega)) (Wk.of2 (by simp only [go_sem];try simp) (fun j o h=>h))
   | omega)
 rintro G' hO2
 obtain ⟨f,hn,⟨k1,p1⟩,k2,p2⟩:=hO.two hO2
 simp only [go_sem,f.del,f.pur]
 have out:iW b 2199026401282 (gn 66) (dL x) [.int .i64 x.mo,.int .i64 x.tb,.ms b 9 0 x.o.length,.int .i64 x.ty,.ms (b+2097153) 1 0 x.it.length] (G++G'):=⟨f,hn,⟨⟨_,rfl⟩,⟨_,rfl⟩,k1,⟨_,rfl⟩,k2,trivial⟩,⟨.imm _ rfl rfl,.imm _ rfl rfl,p1,.imm _ rfl rfl,p2,trivial⟩⟩
 refine eO.wk (Wk.of2 (s':=⟨[(2,.mp 2 5 0 0)],(2,⟨66,5,[[.int .i64 x.mo,.int .i64 x.tb,.ms b 9 0 x.o.length,.int .i64 x.ty,.ms (b+2097153) 1 0 x.it.length]],true⟩) :: (G++G')⟩) (by simp only [go_sem];try simp) (fun j o h=>pq (fun p hp=>cE (by omega) (hn p hp).1) h)) ?_
 exact eX (fun _ h=>by cases h) (.agg _) _ (by simp only [go_sem]) (fun j o h=>iB (fun p hp=>cE (by omega) (hn p hp).1) h) out.cl ⟨_,rfl,out⟩
end
section
open Go Go.Mw
attribute [local go_sem] kL jf jg kM kN jd ij je kF kD kE jz
attribute [local go_sem] dn
theorem Hf (x:Cd) (h:Bg x) (b:Nat) (hb:1267650600228229401496703205376≤b):aE Tryz.prog yr [.agg (dK x)] [] sb (fun r G=>∃cs,r = .agg cs∧iW b 2097154 (gn 60) (dK x) cs G):=by
 refine aP (ic:=ja [3] zN.body) ap Pc rfl rfl ?_
 have o1:=gC.vl (b:=b) (by omega) x.lo h.1
 have hlo:∀{G:List (Nat×ac)} {st:Nat} {y r:AV},gC (b+1) 2097153 79 st y r G→∀p∈(b,⟨49,1,x.lo.map dI,false⟩) :: G,1000≤p.1:=fun hO p hp=>by
  rcases bE.1 hp with rfl | hp
  ·show 1000≤b;omega
  ·exact hO.lo (by omega) p hp
 simp only [go_sem,zN,bP]
 refine fe (fun G:List (Nat×ac)=>⟨[(2,.mp 2 3 0 0),(4,.int .i64 x.t),(7,.ms b 1 0 x.lo.length),(10,.ms (b+1) 9 0 x.b.length)],(2,⟨60,3,[[.int .i64 0,.nl,.nl]],true⟩) :: (b,⟨49,1,x.lo.map dI,false⟩) :: G⟩) (fun G=>gC (b+1) 2097153 79 9 (.sl 9 (x.b.map aU)) (.ms (b+1) 9 0 x.b.length) G) ?_ ?_
 ·simp only [go_sem]
  repeat' (first
   | refine And.intro ?_ ?_
   | (refine bn b 1 (uQ x.lo h.1 b hb) hb (fun r σ' ho=>by rw [ho.2];simp) (by simp [fv,ax,bU,be,bt];try omega) (qt rfl rfl (by omega) (fun p hp=>by cases hp)) ?_;rintro _ _ ⟨rfl,rfl⟩;simp only [go_sem])
   | (refine bn (b+1) 2097153 (kQ x.b h.2 (b+1) (by omega)) (by omega) (fun r σ' ho=>ho.2.nm) (by simp [fv,ax,bU,be,bt];try omega) (qt rfl rfl (by omega) (o1.bel (by omega))) ?_;rintro _ G ⟨rfl,hO⟩;simp only [go_sem])
   | exact kR G hO (Wk.of2 (by simp only [go_sem];try simp) (fun j o h=>pq (hlo hO) h)))
 rintro G hO
 have nb:=ey (j:=b) (by omega)
 obtain ⟨f,hn,⟨k1,p1⟩,k2,p2⟩:=o1.two hO
 simp only [go_sem,nb,hO.fam.del]
 have out:iW b 2097154 (gn 60) (dK x) [.int .i64 x.t,.ms b 1 0 x.lo.length,.ms (b+1) 9 0 x.b.length] _:=⟨f,fun p hp=>by have:=hn p hp;omega,⟨⟨_,rfl⟩,k1,k2,trivial⟩,⟨.imm _ rfl rfl,p1,p2,trivial⟩⟩
 exact eX (fun _ h=>by cases h) (.agg _) _ (by simp only [go_sem]) (fun j o h=>iB (hlo hO) h) out.cl ⟨_,rfl,out⟩
end
section
open Go Go.Mw
attribute [local go_sem] dn
theorem Ht (l:List (Ft)) (hl:l.length≤1048576) (hx:∀x∈l,Pi x) (b:Nat) (hb:1267650600228229401496703205376≤b):aE Tryz.prog QG [.sl 2 (l.map dF),.fn yq []] [] sb (fun r G=>r = .ms b 2 0 l.length∧gC b (1+2 * l.length) 47 2 (.sl 2 (l.map dF)) r G):=by
 refine aP (ic:=zH.body) ap Pa rfl rfl ?_
 simp only [go_sem,zH]
 refine an (fun q:Nat×List (List AV)×List (Nat×ac)=>⟨[(10,.int .i64 q.1),(9,.int .i64 l.length),(8,.sl 2 (l.map dF)),(5,.ms 900 2 0 q.1),(1,.fn yq [])],(900,⟨47,2,q.2.1,decide (0<q.1)⟩) :: q.2.2⟩) (fun q=>q.1≤l.length∧EI b 2 (gn 47) dF l q.1 q.2.1 q.2.2) (fun q=>l.length - q.1) (0,[],[]) ⟨cq _,EI.zero⟩ ((Wk.nil _ 5 900 2 47 (by simp only [go_sem]) (.inl (by decide))).trans (Wk.of ?_ ?_)) ?_
 ·simp only [go_sem,St.mknil];try simp [go_sem]
 ·simp only [go_sem,St.mknil];try simp [go_sem]
 rintro ⟨i,R,G⟩ ⟨hi,hE⟩
 simp only at hi hE
 by_cases h1:(i:Int)<(l.length:Int)
 ·have hi':i<l.length:=by omega
  have e8:=wi (n:=(i:Int)+1) (by omega) (by omega)
  obtain ⟨fl,hfl⟩:∃fl,decide (0<i)=fl:=⟨_,rfl⟩
  rw [hfl]
  have hp9:∀k,k<1000→bV k ⟨47,2,R,fl⟩ =⟨47,2,R,fl⟩:=fun k hk=>dS (fun x hx=>cE (by omega) (hE.ids x hx).1) hk
  have cc:=Hj (aj l i) (aX hx hi') (b+1+2 * i) (by omega)
  try simp only [dF] at cc
  simp only [go_sem,az h1,dF,hE.fam.pur,hE.fam.del,↓hp9]
  refine ⟨by omega,h1,by kernel_rfl,?_⟩
  refine bn (b+1+2 * i) 2 cc (by omega) (fun r σ' ⟨cs,_,ho⟩=>ho.nm) ?_ ?_ ?_
  ·simp [fv,ax,bU,be,bt];try omega
  ·intro p hp
   rcases bE.1 hp with rfl | hp
   ·exact ⟨by show 7<_;omega,fun x hx=>by simp [bo,be,bt] at hx⟩
   rcases bE.1 hp with rfl | hp
   ·exact ⟨by show 900<_;omega,fun x hx=>(hE.ids x hx).2⟩
   ·exact hE.bel p hp
  rintro _ G' ⟨cs,rfl,hO⟩
  have hE2:=hE.step (x:=aj l i) (dj hi') hO
  have hcl:cs.length=2:=hO.row.length.symm
  have han:=j5 hO.row
  have hp8:=th hO.row (t:=47) (st:=2) (q:=true)
  have hno:=dd hE2.row 900 (by decide)
  have hn1:=dd (R:=[cs]) (fun r hr=>by rw [eL.1 hr];exact hO.row) 18 (by decide)
  have happ:=eW 900 47 2 i R [cs] hE.len
  have happR:=dO 900 47 2 i R [cs] fl hE.len
  by_cases him:cs.all db=true
  ·cases fl
   all_goals
    simp only [go_sem,him,hcl,↓han,hE2.fam.pur,hE2.fam.del,↓hp9,happ,happR,hno,e8]
    refine ⟨by omega,aA (i+1,R++[cs],G++G') ⟨(show i+1≤l.length by omega),hE2⟩ (show l.length - (i+1)<l.length - i by omega) ?_⟩
    first
     | exact Wk.of2 (by simp only [go_sem];try simp) (fun j o h=>eG hE2.fam (by rw [← show decide (0<i+1)=true from by simp];exact h))
     | exact (Wk.flag _ 900 true (by rfl) (fun _=>by simp) (fun h=>by cases h)).trans (Wk.of2 (by simp only [go_sem];try simp) (fun j o h=>pp (eG hE2.fam (by rw [← show decide (0<i+1)=true from by simp];exact h))))
  ·simp only [go_sem,him,hcl,↓han,and_false,fp]
   refine ⟨_,Wk.refl _,?_⟩
   simp only [dG]
   cases fl
   all_goals
    simp only [go_sem,him,hcl,↓han,and_false,fp,hE2.fam.pur,hE2.fam.del,↓hp9,↓hp8,↓hn1,happ,happR,hno,e8]
    refine ⟨by omega,aA (i+1,R++[cs],G++G') ⟨(show i+1≤l.length by omega),hE2⟩ (show l.length - (i+1)<l.length - i by omega) ?_⟩
    exact Wk.of2 (by simp only [go_sem];try simp) (fun j o h=>eG hE2.fam (by rw [← show decide (0<i+1)=true from by simp];exact h))
 ·obtain rfl:i=l.length:=by omega
  have hout:=hE.done (T:=47) (st:=2) (q:=decide (0<l.length)) (by omega) hl (by rfl) (fun h=>jw (by rw [hE.len];simp at h;rw [h];rfl))
  rw [hE.len] at hout
  simp only [go_sem,au h1]
  refine eO.wk (hE.name hb _) (eX (fun _ h=>by cases h) (.ms b 2 0 l.length) _ ?_ (fun j o h=>h) hout.cl ⟨rfl,hout⟩)
  simp only [go_sem,jI,renV,gh,dT,jS]
theorem Ho (l:List (Cd)) (hl:l.length≤1048576) (hx:∀x∈l,Bg x) (b:Nat) (hb:1267650600228229401496703205376≤b):aE Tryz.prog QD [.sl 3 (l.map dK),.fn yr []] [] sb (fun r G=>r = .ms b 3 0 l.length∧gC b (1+2097154 * l.length) 60 3 (.sl 3 (l.map dK)) r G):=by
 refine aP (ic:=zE.body) ap O8 rfl rfl ?_
 simp only [go_sem,zE]
 refine an (fun q:Nat×List (List AV)×List (Nat×ac)=>⟨[(10,.int .i64 q.1),(9,.int .i64 l.length),(8,.sl 3 (l.map dK)),(5,.ms 900 3 0 q.1),(1,.fn yr [])],(900,⟨60,3,q.2.1,decide (0<q.1)⟩) :: q.2.2⟩) (fun q=>q.1≤l.length∧EI b 2097154 (gn 60) dK l q.1 q.2.1 q.2.2) (fun q=>l.length - q.1) (0,[],[]) ⟨cq _,EI.zero⟩ ((Wk.nil _ 5 900 3 60 (by simp only [go_sem]) (.inl (by decide))).trans (Wk.of ?_ ?_)) ?_
 ·simp only [go_sem,St.mknil];try simp [go_sem]
 ·simp only [go_sem,St.mknil];try simp [go_sem]
 rintro ⟨i,R,G⟩ ⟨hi,hE⟩
 simp only at hi hE
 by_cases h1:(i:Int)<(l.length:Int)
 ·have hi':i<l.length:=by omega
  have e8:=wi (n:=(i:Int)+1) (by omega) (by omega)
  obtain ⟨fl,hfl⟩:∃fl,decide (0<i)=fl:=⟨_,rfl⟩
  rw [hfl]
  have hp9:∀k,k<1000→bV k ⟨60,3,R,fl⟩ =⟨60,3,R,fl⟩:=fun k hk=>dS (fun x hx=>cE (by omega) (hE.ids x hx).1) hk
  have cc:=Hf (aj l i) (aX hx hi') (b+1+2097154 * i) (by omega)
  try simp only [dK] at cc
  simp only [go_sem,az h1,dK,hE.fam.pur,hE.fam.del,↓hp9]
  refine ⟨by omega,h1,by kernel_rfl,?_⟩
  refine bn (b+1+2097154 * i) 2097154 cc (by omega) (fun r σ' ⟨cs,_,ho⟩=>ho.nm) ?_ ?_ ?_
  ·simp [fv,ax,bU,be,bt];try omega
  ·intro p hp
   rcases bE.1 hp with rfl | hp
   ·exact ⟨by show 7<_;omega,fun x hx=>by simp [bo,be,bt] at hx⟩
   rcases bE.1 hp with rfl | hp
   ·exact ⟨by show 900<_;omega,fun x hx=>(hE.ids x hx).2⟩
   ·exact hE.bel p hp
  rintro _ G' ⟨cs,rfl,hO⟩
  have hE2:=hE.step (x:=aj l i) (dj hi') hO
  have hcl:cs.length=3:=hO.row.length.symm
  have han:=j5 hO.row
  have hp8:=th hO.row (t:=60) (st:=3) (q:=true)
  have hno:=dd hE2.row 900 (by decide)
  have hn1:=dd (R:=[cs]) (fun r hr=>by rw [eL.1 hr];exact hO.row) 18 (by decide)
  have happ:=eW 900 60 3 i R [cs] hE.len
  have happR:=dO 900 60 3 i R [cs] fl hE.len
  by_cases him:cs.all db=true
  ·cases fl
   all_goals
    simp only [go_sem,him,hcl,↓han,hE2.fam.pur,hE2.fam.del,↓hp9,happ,happR,hno,e8]
    refine ⟨by omega,aA (i+1,R++[cs],G++G') ⟨(show i+1≤l.length by omega),hE2⟩ (show l.length - (i+1)<l.length - i by omega) ?_⟩
    first
     | exact Wk.of2 (by simp only [go_sem];try simp) (fun j o h=>eG hE2.fam (by rw [← show decide (0<i+1)=true from by simp];exact h))
     | exact (Wk.flag _ 900 true (by rfl) (fun _=>by simp) (fun h=>by cases h)).trans (Wk.of2 (by simp only [go_sem];try simp) (fun j o h=>pp (eG hE2.fam (by rw [← show decide (0<i+1)=true from by simp];exact h))))
  ·simp only [go_sem,him,hcl,↓han,and_false,fp]
   refine ⟨_,Wk.refl _,?_⟩
   simp only [dG]
   cases fl
   all_goals
    simp only [go_sem,him,hcl,↓han,and_false,fp,hE2.fam.pur,hE2.fam.del,↓hp9,↓hp8,↓hn1,happ,happR,hno,e8]
    refine ⟨by omega,aA (i+1,R++[cs],G++G') ⟨(show i+1≤l.length by omega),hE2⟩ (show l.length - (i+1)<l.length - i by omega) ?_⟩
    exact Wk.of2 (by simp only [go_sem];try simp) (fun j o h=>eG hE2.fam (by rw [← show decide (0<i+1)=true from by simp];exact h))
 ·obtain rfl:i=l.length:=by omega
  have hout:=hE.done (T:=60) (st:=3) (q:=decide (0<l.length)) (by omega) hl (by rfl) (fun h=>jw (by rw [hE.len];simp at h;rw [h];rfl))
  rw [hE.len] at hout
  simp only [go_sem,au h1]
  refine eO.wk (hE.name hb _) (eX (fun _ h=>by cases h) (.ms b 3 0 l.length) _ ?_ (fun j o h=>h) hout.cl ⟨rfl,hout⟩)
  simp only [go_sem,jI,renV,gh,dT,jS]
theorem Hu (l:List (Gd)) (hl:l.length≤1048576) (hx:∀x∈l,Bl x) (b:Nat) (hb:1267650600228229401496703205376≤b):aE Tryz.prog Vy [.sl 3 (l.map ej),.fn yt []] [] sb (fun r G=>r = .ms b 3 0 l.length∧gC b (1+2097153 * l.length) 62 3 (.sl 3 (l.map ej)) r G):=by
 refine aP (ic:=N7.body) ap Vm rfl rfl ?_
 simp only [go_sem,N7]
 refine an (fun q:Nat×List (List AV)×List (Nat×ac)=>⟨[(10,.int .i64 q.1),(9,.int .i64 l.length),(8,.sl 3 (l.map ej)),(5,.ms 900 3 0 q.1),(1,.fn yt [])],(900,⟨62,3,q.2.1,decide (0<q.1)⟩) :: q.2.2⟩) (fun q=>q.1≤l.length∧EI b 2097153 (gn 62) ej l q.1 q.2.1 q.2.2) (fun q=>l.length - q.1) (0,[],[]) ⟨cq _,EI.zero⟩ ((Wk.nil _ 5 900 3 62 (by simp only [go_sem]) (.inl (by decide))).trans (Wk.of ?_ ?_)) ?_
 ·simp only [go_sem,St.mknil];try simp [go_sem]
 ·simp only [go_sem,St.mknil];try simp [go_sem]
 rintro ⟨i,R,G⟩ ⟨hi,hE⟩
 simp only at hi hE
 by_cases h1:(i:Int)<(l.length:Int)
 ·have hi':i<l.length:=by omega
  have e8:=wi (n:=(i:Int)+1) (by omega) (by omega)
  obtain ⟨fl,hfl⟩:∃fl,decide (0<i)=fl:=⟨_,rfl⟩
  rw [hfl]
  have hp9:∀k,k<1000→bV k ⟨62,3,R,fl⟩ =⟨62,3,R,fl⟩:=fun k hk=>dS (fun x hx=>cE (by omega) (hE.ids x hx).1) hk
  have cc:=Hk (aj l i) (aX hx hi') (b+1+2097153 * i) (by omega)
  try simp only [ej] at cc
  simp only [go_sem,az h1,ej,hE.fam.pur,hE.fam.del,↓hp9]
  refine ⟨by omega,h1,by kernel_rfl,?_⟩
  refine bn (b+1+2097153 * i) 2097153 cc (by omega) (fun r σ' ⟨cs,_,ho⟩=>ho.nm) ?_ ?_ ?_
  ·simp [fv,ax,bU,be,bt];try omega
  ·intro p hp
   rcases bE.1 hp with rfl | hp
   ·exact ⟨by show 7<_;omega,fun x hx=>by simp [bo,be,bt] at hx⟩
   rcases bE.1 hp with rfl | hp
   ·exact ⟨by show 900<_;omega,fun x hx=>(hE.ids x hx).2⟩
   ·exact hE.bel p hp
  rintro _ G' ⟨cs,rfl,hO⟩
  have hE2:=hE.step (x:=aj l i) (dj hi') hO
  have hcl:cs.length=3:=hO.row.length.symm
  have han:=j5 hO.row
  have hp8:=th hO.row (t:=62) (st:=3) (q:=true)
  have hno:=dd hE2.row 900 (by decide)
  have hn1:=dd (R:=[cs]) (fun r hr=>by rw [eL.1 hr];exact hO.row) 18 (by decide)
  have happ:=eW 900 62 3 i R [cs] hE.len
  have happR:=dO 900 62 3 i R [cs] fl hE.len
  by_cases him:cs.all db=true
  ·cases fl
   all_goals
    simp only [go_sem,him,hcl,↓han,hE2.fam.pur,hE2.fam.del,↓hp9,happ,happR,hno,e8]
    refine ⟨by omega,aA (i+1,R++[cs],G++G') ⟨(show i+1≤l.length by omega),hE2⟩ (show l.length - (i+1)<l.length - i by omega) ?_⟩
    first
     | exact Wk.of2 (by simp only [go_sem];try simp) (fun j o h=>eG hE2.fam (by rw [← show decide (0<i+1)=true from by simp];exact h))
     | exact (Wk.flag _ 900 true (by rfl) (fun _=>by simp) (fun h=>by cases h)).trans (Wk.of2 (by simp only [go_sem];try simp) (fun j o h=>pp (eG hE2.fam (by rw [← show decide (0<i+1)=true from by simp];exact h))))
  ·simp only [go_sem,him,hcl,↓han,and_false,fp]
   refine ⟨_,Wk.refl _,?_⟩
   simp only [dG]
   cases fl
   all_goals
    simp only [go_sem,him,hcl,↓han,and_false,fp,hE2.fam.pur,hE2.fam.del,↓hp9,↓hp8,↓hn1,happ,happR,hno,e8]
    refine ⟨by omega,aA (i+1,R++[cs],G++G') ⟨(show i+1≤l.length by omega),hE2⟩ (show l.length - (i+1)<l.length - i by omega) ?_⟩
    exact Wk.of2 (by simp only [go_sem];try simp) (fun j o h=>eG hE2.fam (by rw [← show decide (0<i+1)=true from by simp];exact h))
 ·obtain rfl:i=l.length:=by omega
  have hout:=hE.done (T:=62) (st:=3) (q:=decide (0<l.length)) (by omega) hl (by rfl) (fun h=>jw (by rw [hE.len];simp at h;rw [h];rfl))
  rw [hE.len] at hout
  simp only [go_sem,au h1]
  refine eO.wk (hE.name hb _) (eX (fun _ h=>by cases h) (.ms b 3 0 l.length) _ ?_ (fun j o h=>h) hout.cl ⟨rfl,hout⟩)
  simp only [go_sem,jI,renV,gh,dT,jS]
theorem Hs (l:List (El)) (hl:l.length≤1048576) (hx:∀x∈l,Bj x) (b:Nat) (hb:1267650600228229401496703205376≤b):aE Tryz.prog QF [.sl 5 (l.map dL),.fn yu []] [] sb (fun r G=>r = .ms b 5 0 l.length∧gC b (1+2199026401282 * l.length) 66 5 (.sl 5 (l.map dL)) r G):=by
 refine aP (ic:=zG.body) ap O_ rfl rfl ?_
 simp only [go_sem,zG]
 refine an (fun q:Nat×List (List AV)×List (Nat×ac)=>⟨[(10,.int .i64 q.1),(9,.int .i64 l.length),(8,.sl 5 (l.map dL)),(5,.ms 900 5 0 q.1),(1,.fn yu [])],(900,⟨66,5,q.2.1,decide (0<q.1)⟩) :: q.2.2⟩) (fun q=>q.1≤l.length∧EI b 2199026401282 (gn 66) dL l q.1 q.2.1 q.2.2) (fun q=>l.length - q.1) (0,[],[]) ⟨cq _,EI.zero⟩ ((Wk.nil _ 5 900 5 66 (by simp only [go_sem]) (.inl (by decide))).trans (Wk.of ?_ ?_)) ?_
 ·simp only [go_sem,St.mknil];try simp [go_sem]
 ·simp only [go_sem,St.mknil];try simp [go_sem]
 rintro ⟨i,R,G⟩ ⟨hi,hE⟩
 simp only at hi hE
 by_cases h1:(i:Int)<(l.length:Int)
 ·have hi':i<l.length:=by omega
  have e8:=wi (n:=(i:Int)+1) (by omega) (by omega)
  obtain ⟨fl,hfl⟩:∃fl,decide (0<i)=fl:=⟨_,rfl⟩
  rw [hfl]
  have hp9:∀k,k<1000→bV k ⟨66,5,R,fl⟩ =⟨66,5,R,fl⟩:=fun k hk=>dS (fun x hx=>cE (by omega) (hE.ids x hx).1) hk
  have cc:=Hi (aj l i) (aX hx hi') (b+1+2199026401282 * i) (by omega)
  try simp only [dL] at cc
  simp only [go_sem,az h1,dL,hE.fam.pur,hE.fam.del,↓hp9]
  refine ⟨by omega,h1,by kernel_rfl,?_⟩
  refine bn (b+1+2199026401282 * i) 2199026401282 cc (by omega) (fun r σ' ⟨cs,_,ho⟩=>ho.nm) ?_ ?_ ?_
  ·simp [fv,ax,bU,be,bt];try omega
  ·intro p hp
   rcases bE.1 hp with rfl | hp
   ·exact ⟨by show 7<_;omega,fun x hx=>by simp [bo,be,bt] at hx⟩
   rcases bE.1 hp with rfl | hp
   ·exact ⟨by show 900<_;omega,fun x hx=>(hE.ids x hx).2⟩
   ·exact hE.bel p hp
  rintro _ G' ⟨cs,rfl,hO⟩
  have hE2:=hE.step (x:=aj l i) (dj hi') hO
  have hcl:cs.length=5:=hO.row.length.symm
  have han:=j5 hO.row
  have hp8:=th hO.row (t:=66) (st:=5) (q:=true)
  have hno:=dd hE2.row 900 (by decide)
  have hn1:=dd (R:=[cs]) (fun r hr=>by rw [eL.1 hr];exact hO.row) 18 (by decide)
  have happ:=eW 900 66 5 i R [cs] hE.len
  have happR:=dO 900 66 5 i R [cs] fl hE.len
  by_cases him:cs.all db=true
  ·cases fl
   all_goals
    simp only [go_sem,him,hcl,↓han,hE2.fam.pur,hE2.fam.del,↓hp9,happ,happR,hno,e8]
    refine ⟨by omega,aA (i+1,R++[cs],G++G') ⟨(show i+1≤l.length by omega),hE2⟩ (show l.length - (i+1)<l.length - i by omega) ?_⟩
    first
     | exact Wk.of2 (by simp only [go_sem];try simp) (fun j o h=>eG hE2.fam (by rw [← show decide (0<i+1)=true from by simp];exact h))
     | exact (Wk.flag _ 900 true (by rfl) (fun _=>by simp) (fun h=>by cases h)).trans (Wk.of2 (by simp only [go_sem];try simp) (fun j o h=>pp (eG hE2.fam (by rw [← show decide (0<i+1)=true from by simp];exact h))))
  ·simp only [go_sem,him,hcl,↓han,and_false,fp]
   refine ⟨_,Wk.refl _,?_⟩
   simp only [dG]
   cases fl
   all_goals
    simp only [go_sem,him,hcl,↓han,and_false,fp,hE2.fam.pur,hE2.fam.del,↓hp9,↓hp8,↓hn1,happ,happR,hno,e8]
    refine ⟨by omega,aA (i+1,R++[cs],G++G') ⟨(show i+1≤l.length by omega),hE2⟩ (show l.length - (i+1)<l.length - i by omega) ?_⟩
    exact Wk.of2 (by simp only [go_sem];try simp) (fun j o h=>eG hE2.fam (by rw [← show decide (0<i+1)=true from by simp];exact h))
 ·obtain rfl:i=l.length:=by omega
  have hout:=hE.done (T:=66) (st:=5) (q:=decide (0<l.length)) (by omega) hl (by rfl) (fun h=>jw (by rw [hE.len];simp at h;rw [h];rfl))
  rw [hE.len] at hout
  simp only [go_sem,au h1]
  refine eO.wk (hE.name hb _) (eX (fun _ h=>by cases h) (.ms b 5 0 l.length) _ ?_ (fun j o h=>h) hout.cl ⟨rfl,hout⟩)
  simp only [go_sem,jI,renV,gh,dT,jS]
theorem Hq (l:List (Da)) (hl:l.length≤1048576) (hx:∀x∈l,Bi x) (b:Nat) (hb:1267650600228229401496703205376≤b):aE Tryz.prog QE [.sl 4 (l.map et),.fn yw []] [] sb (fun r G=>r = .ms b 4 0 l.length∧gC b (1+2097154 * l.length) 69 4 (.sl 4 (l.map et)) r G):=by
 refine aP (ic:=zF.body) ap O9 rfl rfl ?_
 simp only [go_sem,zF]
 refine an (fun q:Nat×List (List AV)×List (Nat×ac)=>⟨[(10,.int .i64 q.1),(9,.int .i64 l.length),(8,.sl 4 (l.map et)),(5,.ms 900 4 0 q.1),(1,.fn yw [])],(900,⟨69,4,q.2.1,decide (0<q.1)⟩) :: q.2.2⟩) (fun q=>q.1≤l.length∧EI b 2097154 (gn 69) et l q.1 q.2.1 q.2.2) (fun q=>l.length - q.1) (0,[],[]) ⟨cq _,EI.zero⟩ ((Wk.nil _ 5 900 4 69 (by simp only [go_sem]) (.inl (by decide))).trans (Wk.of ?_ ?_)) ?_
 ·simp only [go_sem,St.mknil];try simp [go_sem]
 ·simp only [go_sem,St.mknil];try simp [go_sem]
 rintro ⟨i,R,G⟩ ⟨hi,hE⟩
 simp only at hi hE
 by_cases h1:(i:Int)<(l.length:Int)
 ·have hi':i<l.length:=by omega
  have e8:=wi (n:=(i:Int)+1) (by omega) (by omega)
  obtain ⟨fl,hfl⟩:∃fl,decide (0<i)=fl:=⟨_,rfl⟩
  rw [hfl]
  have hp9:∀k,k<1000→bV k ⟨69,4,R,fl⟩ =⟨69,4,R,fl⟩:=fun k hk=>dS (fun x hx=>cE (by omega) (hE.ids x hx).1) hk
  have cc:=Hh (aj l i) (aX hx hi') (b+1+2097154 * i) (by omega)
  try simp only [et] at cc
  simp only [go_sem,az h1,et,hE.fam.pur,hE.fam.del,↓hp9]
  refine ⟨by omega,h1,by kernel_rfl,?_⟩
  refine bn (b+1+2097154 * i) 2097154 cc (by omega) (fun r σ' ⟨cs,_,ho⟩=>ho.nm) ?_ ?_ ?_
  ·simp [fv,ax,bU,be,bt];try omega
  ·intro p hp
   rcases bE.1 hp with rfl | hp
   ·exact ⟨by show 7<_;omega,fun x hx=>by simp [bo,be,bt] at hx⟩
   rcases bE.1 hp with rfl | hp
   ·exact ⟨by show 900<_;omega,fun x hx=>(hE.ids x hx).2⟩
   ·exact hE.bel p hp
  rintro _ G' ⟨cs,rfl,hO⟩
  have hE2:=hE.step (x:=aj l i) (dj hi') hO
  have hcl:cs.length=4:=hO.row.length.symm
  have han:=j5 hO.row
  have hp8:=th hO.row (t:=69) (st:=4) (q:=true)
  have hno:=dd hE2.row 900 (by decide)
  have hn1:=dd (R:=[cs]) (fun r hr=>by rw [eL.1 hr];exact hO.row) 18 (by decide)
  have happ:=eW 900 69 4 i R [cs] hE.len
  have happR:=dO 900 69 4 i R [cs] fl hE.len
  by_cases him:cs.all db=true
  ·cases fl
   all_goals
    simp only [go_sem,him,hcl,↓han,hE2.fam.pur,hE2.fam.del,↓hp9,happ,happR,hno,e8]
    refine ⟨by omega,aA (i+1,R++[cs],G++G') ⟨(show i+1≤l.length by omega),hE2⟩ (show l.length - (i+1)<l.length - i by omega) ?_⟩
    first
     | exact Wk.of2 (by simp only [go_sem];try simp) (fun j o h=>eG hE2.fam (by rw [← show decide (0<i+1)=true from by simp];exact h))
     | exact (Wk.flag _ 900 true (by rfl) (fun _=>by simp) (fun h=>by cases h)).trans (Wk.of2 (by simp only [go_sem];try simp) (fun j o h=>pp (eG hE2.fam (by rw [← show decide (0<i+1)=true from by simp];exact h))))
  ·simp only [go_sem,him,hcl,↓han,and_false,fp]
   refine ⟨_,Wk.refl _,?_⟩
   simp only [dG]
   cases fl
   all_goals
    simp only [go_sem,him,hcl,↓han,and_false,fp,hE2.fam.pur,hE2.fam.del,↓hp9,↓hp8,↓hn1,happ,happR,hno,e8]
    refine ⟨by omega,aA (i+1,R++[cs],G++G') ⟨(show i+1≤l.length by omega),hE2⟩ (show l.length - (i+1)<l.length - i by omega) ?_⟩
    exact Wk.of2 (by simp only [go_sem];try simp) (fun j o h=>eG hE2.fam (by rw [← show decide (0<i+1)=true from by simp];exact h))
 ·obtain rfl:i=l.length:=by omega
  have hout:=hE.done (T:=69) (st:=4) (q:=decide (0<l.length)) (by omega) hl (by rfl) (fun h=>jw (by rw [hE.len];simp at h;rw [h];rfl))
  rw [hE.len] at hout
  simp only [go_sem,au h1]
  refine eO.wk (hE.name hb _) (eX (fun _ h=>by cases h) (.ms b 4 0 l.length) _ ?_ (fun j o h=>h) hout.cl ⟨rfl,hout⟩)
  simp only [go_sem,jI,renV,gh,dT,jS]
theorem Hp (l:List (Cu)) (hl:l.length≤1048576) (hx:∀x∈l,Bh x) (b:Nat) (hb:1267650600228229401496703205376≤b):aE Tryz.prog Qu [.sl 3 (l.map eB),.fn yx []] [] sb (fun r G=>r = .ms b 3 0 l.length∧gC b (1+1 * l.length) 71 3 (.sl 3 (l.map eB)) r G):=by
 refine aP (ic:=zB.body) ap O5 rfl rfl ?_
 simp only [go_sem,zB]
 refine an (fun q:Nat×List (List AV)×List (Nat×ac)=>⟨[(10,.int .i64 q.1),(9,.int .i64 l.length),(8,.sl 3 (l.map eB)),(5,.ms 900 3 0 q.1),(1,.fn yx [])],(900,⟨71,3,q.2.1,decide (0<q.1)⟩) :: q.2.2⟩) (fun q=>q.1≤l.length∧EI b 1 (gn 71) eB l q.1 q.2.1 q.2.2) (fun q=>l.length - q.1) (0,[],[]) ⟨cq _,EI.zero⟩ ((Wk.nil _ 5 900 3 71 (by simp only [go_sem]) (.inl (by decide))).trans (Wk.of ?_ ?_)) ?_
 ·simp only [go_sem,St.mknil];try simp [go_sem]
 ·simp only [go_sem,St.mknil];try simp [go_sem]
 rintro ⟨i,R,G⟩ ⟨hi,hE⟩
 simp only at hi hE
 by_cases h1:(i:Int)<(l.length:Int)
 ·have hi':i<l.length:=by omega
  have e8:=wi (n:=(i:Int)+1) (by omega) (by omega)
  obtain ⟨fl,hfl⟩:∃fl,decide (0<i)=fl:=⟨_,rfl⟩
  rw [hfl]
  have hp9:∀k,k<1000→bV k ⟨71,3,R,fl⟩ =⟨71,3,R,fl⟩:=fun k hk=>dS (fun x hx=>cE (by omega) (hE.ids x hx).1) hk
  have cc:=Hg (aj l i) (aX hx hi') (b+1+1 * i) (by omega)
  try simp only [eB] at cc
  simp only [go_sem,az h1,eB,hE.fam.pur,hE.fam.del,↓hp9]
  refine ⟨by omega,h1,by kernel_rfl,?_⟩
  refine bn (b+1+1 * i) 1 cc (by omega) (fun r σ' ⟨cs,_,ho⟩=>ho.nm) ?_ ?_ ?_
  ·simp [fv,ax,bU,be,bt];try omega
  ·intro p hp
   rcases bE.1 hp with rfl | hp
   ·exact ⟨by show 7<_;omega,fun x hx=>by simp [bo,be,bt] at hx⟩
   rcases bE.1 hp with rfl | hp
   ·exact ⟨by show 900<_;omega,fun x hx=>(hE.ids x hx).2⟩
   ·exact hE.bel p hp
  rintro _ G' ⟨cs,rfl,hO⟩
  have hE2:=hE.step (x:=aj l i) (dj hi') hO
  have hcl:cs.length=3:=hO.row.length.symm
  have han:=j5 hO.row
  have hp8:=th hO.row (t:=71) (st:=3) (q:=true)
  have hno:=dd hE2.row 900 (by decide)
  have hn1:=dd (R:=[cs]) (fun r hr=>by rw [eL.1 hr];exact hO.row) 18 (by decide)
  have happ:=eW 900 71 3 i R [cs] hE.len
  have happR:=dO 900 71 3 i R [cs] fl hE.len
  by_cases him:cs.all db=true
  ·cases fl
   all_goals
    simp only [go_sem,him,hcl,↓han,hE2.fam.pur,hE2.fam.del,↓hp9,happ,happR,hno,e8]
    refine ⟨by omega,aA (i+1,R++[cs],G++G') ⟨(show i+1≤l.length by omega),hE2⟩ (show l.length - (i+1)<l.length - i by omega) ?_⟩
    first
     | exact Wk.of2 (by simp only [go_sem];try simp) (fun j o h=>eG hE2.fam (by rw [← show decide (0<i+1)=true from by simp];exact h))
     | exact (Wk.flag _ 900 true (by rfl) (fun _=>by simp) (fun h=>by cases h)).trans (Wk.of2 (by simp only [go_sem];try simp) (fun j o h=>pp (eG hE2.fam (by rw [← show decide (0<i+1)=true from by simp];exact h))))
  ·simp only [go_sem,him,hcl,↓han,and_false,fp]
   refine ⟨_,Wk.refl _,?_⟩
   simp only [dG]
   cases fl
   all_goals
    simp only [go_sem,him,hcl,↓han,and_false,fp,hE2.fam.pur,hE2.fam.del,↓hp9,↓hp8,↓hn1,happ,happR,hno,e8]
    refine ⟨by omega,aA (i+1,R++[cs],G++G') ⟨(show i+1≤l.length by omega),hE2⟩ (show l.length - (i+1)<l.length - i by omega) ?_⟩
    exact Wk.of2 (by simp only [go_sem];try simp) (fun j o h=>eG hE2.fam (by rw [← show decide (0<i+1)=true from by simp];exact h))
 ·obtain rfl:i=l.length:=by omega
  have hout:=hE.done (T:=71) (st:=3) (q:=decide (0<l.length)) (by omega) hl (by rfl) (fun h=>jw (by rw [hE.len];simp at h;rw [h];rfl))
  rw [hE.len] at hout
  simp only [go_sem,au h1]
  refine eO.wk (hE.name hb _) (eX (fun _ h=>by cases h) (.ms b 3 0 l.length) _ ?_ (fun j o h=>h) hout.cl ⟨rfl,hout⟩)
  simp only [go_sem,jI,renV,gh,dT,jS]
end
section
open Go Go.Mw
structure FB (G:List (Nat×ac)) (c:Nat):Prop where
 fam:dp G
 nm:∀p∈G,1267650600228229401496703205376≤p.1∧p.1<c
theorem FB.bel {G:List (Nat×ac)} {c d:Nat} (h:FB G c) (hc:c≤d):∀p∈G,p.1<d∧i8 d p.2:=fun p hp=>⟨Nat.lt_of_lt_of_le (h.nm p hp).2 hc,fun x hx=>by
 obtain ⟨o,ho⟩:=Option.isSome_iff_exists.1 (h.fam.cl p hp x hx)
 exact Nat.lt_of_lt_of_le (h.nm _ (aR ho)).2 hc⟩
def jM (G:List (Nat×ac)) (T:TypeId) (st:Nat) (y r:AV):Prop:=cb (ab G) T st r∧Rep (ab G) r y
theorem jM.l {A B:List (Nat×ac)} {T:TypeId} {st:Nat} {y r:AV} (h:jM A T st y r):jM (A++B) T st y r:=⟨h.1.same fun j t s r q g=>⟨r,ka g,rfl⟩,h.2.mono fun _ _ g=>ka g⟩
theorem FB.app {A B:List (Nat×ac)} {c b n:Nat} {T:TypeId} {st:Nat} {y r:AV} (h:FB A c) (hc:c≤b) (hb:1267650600228229401496703205376≤b) (ho:gC b n T st y r B):FB (A++B) (b+n)∧jM (A++B) T st y r:=by
 have hd:∀p∈A,∀q∈B,p.1≠q.1:=fun p hp q hq=>by
  have:=(h.nm p hp).2
  have:=(ho.nm q hq).1
  omega
 obtain ⟨f,e1,e2⟩:=h.fam.app ho.fam hd
 refine ⟨⟨f,fun p hp=>?_⟩,ho.ok.same e2,ho.rep.mono fun _ _ g=>oJ hd g⟩
 rcases dz.1 hp with hp | hp
 ·have:=h.nm p hp;omega
 ·have:=ho.nm p hp;omega
theorem FB.one {B:List (Nat×ac)} {b n:Nat} {T:TypeId} {st:Nat} {y r:AV} (hb:1267650600228229401496703205376≤b) (ho:gC b n T st y r B):FB B (b+n):=⟨ho.fam,fun p hp=>⟨cE hb (ho.nm p hp).1,(ho.nm p hp).2⟩⟩
theorem FB.grow {G:List (Nat×ac)} {c d:Nat} (h:FB G c) (hd:c≤d):FB G d:=⟨h.fam,fun p hp=>⟨(h.nm p hp).1,Nat.lt_of_lt_of_le (h.nm p hp).2 hd⟩⟩
theorem jM.cons {G:List (Nat×ac)} {N:Nat} {o:ac} (hn:ab G N=none) {T:TypeId} {st:Nat} {y r:AV} (h:jM G T st y r):jM ((N,o) :: G) T st y r:=by
 have key:∀{i o'},ab G i=some o'→ab ((N,o) :: G) i=some o':=fun {i o'} h=>by
  simp only [ab]
  rw [aJ (fun e=>by subst e;rw [hn] at h;cases h)]
  exact h
 exact ⟨h.1.same fun j t s r q g=>⟨r,key g,rfl⟩,h.2.mono fun _ _ g=>key g⟩
theorem jM.ids {G:List (Nat×ac)} {T:TypeId} {st:Nat} {y r:AV} (h:jM G T st y r):∀i∈be r,(ab G i).isSome=true:=fun i hi=>(f9.ids (k:=.l T st) h.1 i hi).2
theorem FB.new {G:List (Nat×ac)} {c:Nat} (h:FB G c) (hc:1267650600228229401496703205376≤c) {T:TypeId} {st:Nat} {rows:List (List AV)} (hl:rows.length≤1048576) (hs:st=(gn T).length) (hr:∀r∈rows,cB (fun _=>none) (gn T) r) (hf:cY rows) (ht:T≠58) :
  FB ((c,⟨T,st,rows,false⟩) :: G) (c+1)∧jM ((c,⟨T,st,rows,false⟩) :: G) T st (.sl st rows) (.ms c st 0 rows.length)∧ab G c=none:=by
 have hn:ab G c=none:=by
  cases hg:ab G c with
  | none=>rfl
  | some o=>exact absurd (h.nm _ (aR hg)).2 (Nat.lt_irrefl _)
 obtain ⟨f,s⟩:=h.fam.new (N:=c) (by omega) hn (tU.flat hl hs hr hf ht)
 refine ⟨⟨f,fun p hp=>?_⟩,⟨pt (by omega),kX (t:=T) (q:=false) (by simp only [ab,cX]) hf⟩,hn⟩
 rcases bE.1 hp with rfl | hp
 ·exact ⟨hc,Nat.lt_succ_self c⟩
 ·have:=h.nm p hp;omega
def vz (m:Md) (r:AV) (G:List (Nat×ac)):Prop:=∃a0 a1 a2 a3 a4 a5 a6 a9 a10 a11,r = .agg [a0,a1,a2,a3,a4,a5,a6,.bool m.hs,.int .i64 m.st,a9,a10,a11]∧FB G (1267650600228229401496703205376+1237940039285380274899124224)∧jM G 47 2 (.sl 2 (m.ts.map dF)) a0∧jM G 57 13 (.sl 13 (m.ims.map dy)) a1∧jM G 60 3 (.sl 3 (m.fs.map dK)) a2∧jM G 53 4 (.sl 4 (m.tbs.map ez)) a3∧jM G 51 3 (.sl 3 (m.ms.map eu)) a4∧jM G 62 3 (.sl 3 (m.gs.map ej)) a5∧jM G 64 3 (.sl 3 (m.exs.map ei)) a6∧jM G 66 5 (.sl 5 (m.els.map dL)) a9∧jM G 69 4 (.sl 4 (m.ds.map et)) a10∧jM G 71 3 (.sl 3 (m.cs.map eB)) a11
theorem BH (l:List Im):(∀r∈l.map dy,cB (fun _=>none) (gn 57) r)∧cY (l.map dy):=by
 refine ⟨fun r hr=>?_,fun r hr x hx=>?_⟩
 all_goals obtain ⟨y,_,rfl⟩:=List.mem_map.1 hr
 ·exact ⟨⟨_,rfl⟩,⟨_,rfl⟩,⟨_,rfl⟩,⟨_,rfl⟩,⟨_,rfl⟩,⟨_,rfl⟩,⟨_,rfl⟩,⟨_,rfl⟩,⟨_,rfl⟩,⟨_,rfl⟩,⟨_,rfl⟩,⟨_,rfl⟩,⟨_,rfl⟩,trivial⟩
 ·simp only [dy,bE,List.not_mem_nil,or_false] at hx
  rcases hx with rfl | rfl | rfl | rfl | rfl | rfl | rfl | rfl | rfl | rfl | rfl | rfl | rfl<;>exact ⟨rfl,rfl⟩
theorem BJ (l:List Tb):(∀r∈l.map ez,cB (fun _=>none) (gn 53) r)∧cY (l.map ez):=by
 refine ⟨fun r hr=>?_,fun r hr x hx=>?_⟩
 all_goals obtain ⟨y,_,rfl⟩:=List.mem_map.1 hr
 ·exact ⟨⟨_,rfl⟩,⟨_,rfl⟩,⟨_,rfl⟩,⟨_,rfl⟩,trivial⟩
 ·simp only [ez,bE,List.not_mem_nil,or_false] at hx
  rcases hx with rfl | rfl | rfl | rfl<;>exact ⟨rfl,rfl⟩
theorem BI (l:List Lm):(∀r∈l.map eu,cB (fun _=>none) (gn 51) r)∧cY (l.map eu):=by
 refine ⟨fun r hr=>?_,fun r hr x hx=>?_⟩
 all_goals obtain ⟨y,_,rfl⟩:=List.mem_map.1 hr
 ·exact ⟨⟨_,rfl⟩,⟨_,rfl⟩,⟨_,rfl⟩,trivial⟩
 ·simp only [eu,bE,List.not_mem_nil,or_false] at hx
  rcases hx with rfl | rfl | rfl<;>exact ⟨rfl,rfl⟩
theorem BG (l:List Ex):(∀r∈l.map ei,cB (fun _=>none) (gn 64) r)∧cY (l.map ei):=by
 refine ⟨fun r hr=>?_,fun r hr x hx=>?_⟩
 all_goals obtain ⟨y,_,rfl⟩:=List.mem_map.1 hr
 ·exact ⟨⟨_,rfl⟩,⟨_,rfl⟩,⟨_,rfl⟩,trivial⟩
 ·simp only [ei,bE,List.not_mem_nil,or_false] at hx
  rcases hx with rfl | rfl | rfl<;>exact ⟨rfl,rfl⟩
theorem ga {a b x:Nat} (h1:x≠a) (h2:x≠b):cM a b x=x:=by
 unfold cM
 rw [aJ h1,aJ h2]
theorem wB (a b:Nat):cM a b a=b:=by
 unfold cM
 rw [bz rfl]
attribute [local go_sem] dn
theorem ID (m:Md) (h:KU m):aE Tryz.prog Dy [cP m] [] sb (vz m):=by
 refine aP (ic:=r_.body) ap Jc rfl rfl ?_
 simp only [go_sem,r_,cP,f_]
 refine bn (1267650600228229401496703205376+0) (1+2 * m.ts.length) (Ht m.ts h.ts.1 h.ts.2 (1267650600228229401496703205376+0) (by omega)) (by omega) (fun r σ' ho=>ho.2.nm) (by simp [fv,ax,bU,be,bt];try omega) ?_ ?_
 ·have hacc:∀p∈([]:List (Nat×ac)),p.1<(1267650600228229401496703205376+0)∧i8 (1267650600228229401496703205376+0) p.2:=(fun p hp=>by cases hp)
  intro p hp
  repeat' (first | exact hacc p hp | (cases hp;done) | (rcases List.mem_cons.1 hp with rfl | hp;· exact ⟨by dsimp only;omega,fun x hx=>by (simp [bo,be,bt] at hx;try omega)⟩))
 rintro _ G0 ⟨rfl,hO0⟩
 have f0:=FB.one (by omega) hO0
 simp only [go_sem,f0.fam.del,f0.fam.pur]
 refine gl (LT (m.ims.map dy) (by rw [dn];exact h.ims)) rfl (by simp [go_sem]) ?_
 simp only [go_sem,f0.fam.del,f0.fam.pur]
 refine gl (LW (m.tbs.map ez) (by rw [dn];exact h.tbs)) rfl (by simp [go_sem]) ?_
 simp only [go_sem,f0.fam.del,f0.fam.pur]
 refine gl (LV (m.ms.map eu) (by rw [dn];exact h.ms)) rfl (by simp [go_sem]) ?_
 simp only [go_sem,f0.fam.del,f0.fam.pur]
 refine gl (LS (m.exs.map ei) (by rw [dn];exact h.exs)) rfl (by simp [go_sem]) ?_
 simp only [go_sem,f0.fam.del,f0.fam.pur]
 refine bn (1267650600228229401496703205376+1208925819614629174706176) (1+2097154 * m.fs.length) (Ho m.fs h.fs.1 h.fs.2 (1267650600228229401496703205376+1208925819614629174706176) (by omega)) (by omega) (fun r σ' ho=>ho.2.nm) (by simp [fv,ax,bU,be,bt];try omega) ?_ ?_
 ·have hacc:∀p∈G0,p.1<(1267650600228229401496703205376+1208925819614629174706176)∧i8 (1267650600228229401496703205376+1208925819614629174706176) p.2:=(f0.bel (by have:=h.ts.1;omega))
  intro p hp
  repeat' (first | exact hacc p hp | (cases hp;done) | (rcases List.mem_cons.1 hp with rfl | hp;· exact ⟨by dsimp only;omega,fun x hx=>by (simp [bo,be,bt] at hx;try omega)⟩))
 rintro _ G1 ⟨rfl,hO1⟩
 obtain ⟨f1,s1⟩:=f0.app (by have:=h.ts.1;omega) (by omega) hO1
 simp only [go_sem,f1.fam.del,f1.fam.pur]
 refine bn (1267650600228229401496703205376+2417851639229258349412352) (1+2097153 * m.gs.length) (Hu m.gs h.gs.1 h.gs.2 (1267650600228229401496703205376+2417851639229258349412352) (by omega)) (by omega) (fun r σ' ho=>ho.2.nm) (by simp [fv,ax,bU,be,bt];try omega) ?_ ?_
 ·have hacc:∀p∈G0++G1,p.1<(1267650600228229401496703205376+2417851639229258349412352)∧i8 (1267650600228229401496703205376+2417851639229258349412352) p.2:=(f1.bel (by have:=h.fs.1;omega))
  intro p hp
  repeat' (first | exact hacc p hp | (cases hp;done) | (rcases List.mem_cons.1 hp with rfl | hp;· exact ⟨by dsimp only;omega,fun x hx=>by (simp [bo,be,bt] at hx;try omega)⟩))
 rintro _ G2 ⟨rfl,hO2⟩
 obtain ⟨f2,s2⟩:=f1.app (by have:=h.fs.1;omega) (by omega) hO2
 simp only [go_sem,f2.fam.del,f2.fam.pur]
 refine bn (1267650600228229401496703205376+3626777458843887524118528) (1+2199026401282 * m.els.length) (Hs m.els h.els.1 h.els.2 (1267650600228229401496703205376+3626777458843887524118528) (by omega)) (by omega) (fun r σ' ho=>ho.2.nm) (by simp [fv,ax,bU,be,bt];try omega) ?_ ?_
 ·have hacc:∀p∈G0++G1++G2,p.1<(1267650600228229401496703205376+3626777458843887524118528)∧i8 (1267650600228229401496703205376+3626777458843887524118528) p.2:=(f2.bel (by have:=h.gs.1;omega))
  intro p hp
  repeat' (first | exact hacc p hp | (cases hp;done) | (rcases List.mem_cons.1 hp with rfl | hp;· exact ⟨by dsimp only;omega,fun x hx=>by (simp [bo,be,bt] at hx;try omega)⟩))
 rintro _ G3 ⟨rfl,hO3⟩
 obtain ⟨f3,s3⟩:=f2.app (by have:=h.gs.1;omega) (by omega) hO3
 simp only [go_sem,f3.fam.del,f3.fam.pur]
 refine bn (1267650600228229401496703205376+4835703278458516698824704) (1+2097154 * m.ds.length) (Hq m.ds h.ds.1 h.ds.2 (1267650600228229401496703205376+4835703278458516698824704) (by omega)) (by omega) (fun r σ' ho=>ho.2.nm) (by simp [fv,ax,bU,be,bt];try omega) ?_ ?_
 ·have hacc:∀p∈G0++G1++G2++G3,p.1<(1267650600228229401496703205376+4835703278458516698824704)∧i8 (1267650600228229401496703205376+4835703278458516698824704) p.2:=(f3.bel (by have:=h.els.1;omega))
  intro p hp
  repeat' (first | exact hacc p hp | (cases hp;done) | (rcases List.mem_cons.1 hp with rfl | hp;· exact ⟨by dsimp only;omega,fun x hx=>by (simp [bo,be,bt] at hx;try omega)⟩))
 rintro _ G4 ⟨rfl,hO4⟩
 obtain ⟨f4,s4⟩:=f3.app (by have:=h.els.1;omega) (by omega) hO4
 simp only [go_sem,f4.fam.del,f4.fam.pur]
 refine bn (1267650600228229401496703205376+6044629098073145873530880) (1+1 * m.cs.length) (Hp m.cs h.cs.1 h.cs.2 (1267650600228229401496703205376+6044629098073145873530880) (by omega)) (by omega) (fun r σ' ho=>ho.2.nm) (by simp [fv,ax,bU,be,bt];try omega) ?_ ?_
 ·have hacc:∀p∈G0++G1++G2++G3++G4,p.1<(1267650600228229401496703205376+6044629098073145873530880)∧i8 (1267650600228229401496703205376+6044629098073145873530880) p.2:=(f4.bel (by have:=h.ds.1;omega))
  intro p hp
  repeat' (first | exact hacc p hp | (cases hp;done) | (rcases List.mem_cons.1 hp with rfl | hp;· exact ⟨by dsimp only;omega,fun x hx=>by (simp [bo,be,bt] at hx;try omega)⟩))
 rintro _ G5 ⟨rfl,hO5⟩
 obtain ⟨f5,s5⟩:=f4.app (by have:=h.ds.1;omega) (by omega) hO5
 simp only [go_sem,f5.fam.del,f5.fam.pur]
 obtain ⟨c,hc⟩:∃c,c=(1267650600228229401496703205376+7253554917687775048237056):=⟨_,rfl⟩
 obtain ⟨G,hG⟩:∃G,G=G0++G1++G2++G3++G4++G5:=⟨_,rfl⟩
 have f:=f5.grow (d:=c) (by have:=h.cs.1;omega)
 have s0:jM (G0++G1) 47 2 (.sl 2 (m.ts.map dF)) (.ms (1267650600228229401496703205376+0) 2 0 m.ts.length):=jM.l ⟨hO0.ok,hO0.rep⟩
 have t0:=(((s0.l (B:=G2)).l (B:=G3)).l (B:=G4)).l (B:=G5)
 have t1:=((((s1.l (B:=G2)).l (B:=G3)).l (B:=G4)).l (B:=G5))
 have t2:=(((s2.l (B:=G3)).l (B:=G4)).l (B:=G5))
 have t3:=((s3.l (B:=G4)).l (B:=G5))
 have t4:=(s4.l (B:=G5))
 have t5:=s5
 rw [← hG] at f t0 t1 t2 t3 t4 t5
 obtain ⟨g0,u0,n0⟩:=FB.new (T:=57) (st:=13) (rows:=m.ims.map dy) f (by omega) (by rw [dn];exact h.ims) (by rfl) (BH m.ims).1 (BH m.ims).2 (by decide)
 obtain ⟨g1,u1,n1⟩:=FB.new (T:=53) (st:=4) (rows:=m.tbs.map ez) g0 (by omega) (by rw [dn];exact h.tbs) (by rfl) (BJ m.tbs).1 (BJ m.tbs).2 (by decide)
 obtain ⟨g2,u2,n2⟩:=FB.new (T:=51) (st:=3) (rows:=m.ms.map eu) g1 (by omega) (by rw [dn];exact h.ms) (by rfl) (BI m.ms).1 (BI m.ms).2 (by decide)
 obtain ⟨g3,u3,n3⟩:=FB.new (T:=64) (st:=3) (rows:=m.exs.map ei) g2 (by omega) (by rw [dn];exact h.exs) (by rfl) (BG m.exs).1 (BG m.exs).2 (by decide)
 simp only [dn] at u0 u1 u2 u3
 have hro:∀x,x≠9→x≠12→x≠15→x≠18→x<c→fw [(9,c),(12,c+1),(15,c+1+1),(18,c+1+1+1)] x=x:=fun x h1 h2 h3 h4 h5=>by
  show cM 18 (c+1+1+1) (cM 15 (c+1+1) (cM 12 (c+1) (cM 9 c x)))=x
  rw [ga h1 (by omega),ga h2 (by omega),ga h3 (by omega),ga h4 (by omega)]
 have r9:fw [(9,c),(12,c+1),(15,c+1+1),(18,c+1+1+1)] 9=c:=by
  show cM 18 (c+1+1+1) (cM 15 (c+1+1) (cM 12 (c+1) (cM 9 c 9)))=_
  rw [show cM 9 (c) 9=c from wB _ _,show cM 12 (c+1) (c)=c from ga (by omega) (by omega),show cM 15 (c+1+1) (c)=c from ga (by omega) (by omega),show cM 18 (c+1+1+1) (c)=c from ga (by omega) (by omega)]
 have r12:fw [(9,c),(12,c+1),(15,c+1+1),(18,c+1+1+1)] 12=c+1:=by
  show cM 18 (c+1+1+1) (cM 15 (c+1+1) (cM 12 (c+1) (cM 9 c 12)))=_
  rw [show cM 9 (c) (12)=12 from ga (by omega) (by omega),show cM 12 (c+1) 12=c+1 from wB _ _,show cM 15 (c+1+1) (c+1)=c+1 from ga (by omega) (by omega),show cM 18 (c+1+1+1) (c+1)=c+1 from ga (by omega) (by omega)]
 have r15:fw [(9,c),(12,c+1),(15,c+1+1),(18,c+1+1+1)] 15=c+1+1:=by
  show cM 18 (c+1+1+1) (cM 15 (c+1+1) (cM 12 (c+1) (cM 9 c 15)))=_
  rw [show cM 9 (c) (15)=15 from ga (by omega) (by omega),show cM 12 (c+1) (15)=15 from ga (by omega) (by omega),show cM 15 (c+1+1) 15=c+1+1 from wB _ _,show cM 18 (c+1+1+1) (c+1+1)=c+1+1 from ga (by omega) (by omega)]
 have r18:fw [(9,c),(12,c+1),(15,c+1+1),(18,c+1+1+1)] 18=c+1+1+1:=by
  show cM 18 (c+1+1+1) (cM 15 (c+1+1) (cM 12 (c+1) (cM 9 c 18)))=_
  rw [show cM 9 (c) (18)=18 from ga (by omega) (by omega),show cM 12 (c+1) (18)=18 from ga (by omega) (by omega),show cM 15 (c+1+1) (18)=18 from ga (by omega) (by omega),show cM 18 (c+1+1+1) 18=c+1+1+1 from wB _ _]
 have r1:=hro 1 (by decide) (by decide) (by decide) (by decide) (by omega)
 have r2:=hro 2 (by decide) (by decide) (by decide) (by decide) (by omega)
 have q0:=hro (1267650600228229401496703205376+0) (by decide) (by decide) (by decide) (by decide) (by omega)
 have q1:=hro (1267650600228229401496703205376+1208925819614629174706176) (by decide) (by decide) (by decide) (by decide) (by omega)
 have q2:=hro (1267650600228229401496703205376+2417851639229258349412352) (by decide) (by decide) (by decide) (by decide) (by omega)
 have q3:=hro (1267650600228229401496703205376+3626777458843887524118528) (by decide) (by decide) (by decide) (by decide) (by omega)
 have q4:=hro (1267650600228229401496703205376+4835703278458516698824704) (by decide) (by decide) (by decide) (by decide) (by omega)
 have q5:=hro (1267650600228229401496703205376+6044629098073145873530880) (by decide) (by decide) (by decide) (by decide) (by omega)
 simp only [Nat.reduceAdd] at q0 q1 q2 q3 q4 q5
 have hps:∀x,1000≤x→x<1267650600228229401496703205376→bw [(9,c),(12,c+1),(15,c+1+1),(18,c+1+1+1)] x=x:=fun x h1 h2=>by
  have:=hro x (by omega) (by omega) (by omega) (by omega) (by omega)
  conv=>lhs;rw [← this]
  exact oa _ x
 have rG:cS (fw [(9,c),(12,c+1),(15,c+1+1),(18,c+1+1+1)]) G=G:=rN fun p hp=>⟨hro _ (by have:=f.nm p hp;omega) (by have:=f.nm p hp;omega) (by have:=f.nm p hp;omega) (by have:=f.nm p hp;omega) (f.nm p hp).2,fun x hx=>by
  obtain ⟨ob,ho⟩:=Option.isSome_iff_exists.1 (f.fam.cl p hp x hx)
  have:=f.nm _ (aR ho)
  simp only at this
  exact hro x (by omega) (by omega) (by omega) (by omega) (by omega)⟩
 rw [← hG]
 refine eO.wk ((Wk.ren _ [(9,c),(12,c+1),(15,c+1+1),(18,c+1+1+1)] hps).trans (Wk.of2 (s':=⟨[(2,.mp 2 12 0 0)],(2,⟨33,12,[[.ms (1267650600228229401496703205376+0) 2 0 m.ts.length,.ms c 13 0 m.ims.length,.ms (1267650600228229401496703205376+1208925819614629174706176) 3 0 m.fs.length,.ms (c+1) 4 0 m.tbs.length,.ms (c+1+1) 3 0 m.ms.length,.ms (1267650600228229401496703205376+2417851639229258349412352) 3 0 m.gs.length,.ms (c+1+1+1) 3 0 m.exs.length,.bool m.hs,.int .i64 m.st,.ms (1267650600228229401496703205376+3626777458843887524118528) 5 0 m.els.length,.ms (1267650600228229401496703205376+4835703278458516698824704) 4 0 m.ds.length,.ms (1267650600228229401496703205376+6044629098073145873530880) 3 0 m.cs.length]],true⟩) :: (c+1+1+1,⟨64,3,m.exs.map ei,false⟩) :: (c+1+1,⟨51,3,m.ms.map eu,false⟩) :: (c+1,⟨53,4,m.tbs.map ez,false⟩) :: (c,⟨57,13,m.ims.map dy,false⟩) :: G⟩) ?_ (fun j ob ho=>?_))) ?_
 ·simp only [Mf,kK]
  simp only [go_sem,renV,gh,pd,r2]
  try simp
 ·simp only [go_sem,cS,dD,ee,List.map_nil,dT,u6,lU,r9,r12,r15,r18,r1,r2,q0,q1,q2,q3,q4,q5,rG]
  exact pq (fun p hp=>cE (by omega) (g3.nm p hp).1) (by simp only [go_sem] at ho;exact ho)
 have w0:jM ((c+1+1+1,⟨64,3,m.exs.map ei,false⟩) :: (c+1+1,⟨51,3,m.ms.map eu,false⟩) :: (c+1,⟨53,4,m.tbs.map ez,false⟩) :: (c,⟨57,13,m.ims.map dy,false⟩) :: G) 47 2 (.sl 2 (m.ts.map dF)) (.ms (1267650600228229401496703205376+0) 2 0 m.ts.length):=(((t0.cons n0).cons n1).cons n2).cons n3
 have w1:jM ((c+1+1+1,⟨64,3,m.exs.map ei,false⟩) :: (c+1+1,⟨51,3,m.ms.map eu,false⟩) :: (c+1,⟨53,4,m.tbs.map ez,false⟩) :: (c,⟨57,13,m.ims.map dy,false⟩) :: G) 57 13 (.sl 13 (m.ims.map dy)) (.ms c 13 0 m.ims.length):=((u0.cons n1).cons n2).cons n3
 have w2:jM ((c+1+1+1,⟨64,3,m.exs.map ei,false⟩) :: (c+1+1,⟨51,3,m.ms.map eu,false⟩) :: (c+1,⟨53,4,m.tbs.map ez,false⟩) :: (c,⟨57,13,m.ims.map dy,false⟩) :: G) 60 3 (.sl 3 (m.fs.map dK)) (.ms (1267650600228229401496703205376+1208925819614629174706176) 3 0 m.fs.length):=(((t1.cons n0).cons n1).cons n2).cons n3
 have w3:jM ((c+1+1+1,⟨64,3,m.exs.map ei,false⟩) :: (c+1+1,⟨51,3,m.ms.map eu,false⟩) :: (c+1,⟨53,4,m.tbs.map ez,false⟩) :: (c,⟨57,13,m.ims.map dy,false⟩) :: G) 53 4 (.sl 4 (m.tbs.map ez)) (.ms (c+1) 4 0 m.tbs.length):=(u1.cons n2).cons n3
 have w4:jM ((c+1+1+1,⟨64,3,m.exs.map ei,false⟩) :: (c+1+1,⟨51,3,m.ms.map eu,false⟩) :: (c+1,⟨53,4,m.tbs.map ez,false⟩) :: (c,⟨57,13,m.ims.map dy,false⟩) :: G) 51 3 (.sl 3 (m.ms.map eu)) (.ms (c+1+1) 3 0 m.ms.length):=u2.cons n3
 have w5:jM ((c+1+1+1,⟨64,3,m.exs.map ei,false⟩) :: (c+1+1,⟨51,3,m.ms.map eu,false⟩) :: (c+1,⟨53,4,m.tbs.map ez,false⟩) :: (c,⟨57,13,m.ims.map dy,false⟩) :: G) 62 3 (.sl 3 (m.gs.map ej)) (.ms (1267650600228229401496703205376+2417851639229258349412352) 3 0 m.gs.length):=(((t2.cons n0).cons n1).cons n2).cons n3
 have w6:jM ((c+1+1+1,⟨64,3,m.exs.map ei,false⟩) :: (c+1+1,⟨51,3,m.ms.map eu,false⟩) :: (c+1,⟨53,4,m.tbs.map ez,false⟩) :: (c,⟨57,13,m.ims.map dy,false⟩) :: G) 64 3 (.sl 3 (m.exs.map ei)) (.ms (c+1+1+1) 3 0 m.exs.length):=u3
 have w9:jM ((c+1+1+1,⟨64,3,m.exs.map ei,false⟩) :: (c+1+1,⟨51,3,m.ms.map eu,false⟩) :: (c+1,⟨53,4,m.tbs.map ez,false⟩) :: (c,⟨57,13,m.ims.map dy,false⟩) :: G) 66 5 (.sl 5 (m.els.map dL)) (.ms (1267650600228229401496703205376+3626777458843887524118528) 5 0 m.els.length):=(((t3.cons n0).cons n1).cons n2).cons n3
 have w10:jM ((c+1+1+1,⟨64,3,m.exs.map ei,false⟩) :: (c+1+1,⟨51,3,m.ms.map eu,false⟩) :: (c+1,⟨53,4,m.tbs.map ez,false⟩) :: (c,⟨57,13,m.ims.map dy,false⟩) :: G) 69 4 (.sl 4 (m.ds.map et)) (.ms (1267650600228229401496703205376+4835703278458516698824704) 4 0 m.ds.length):=(((t4.cons n0).cons n1).cons n2).cons n3
 have w11:jM ((c+1+1+1,⟨64,3,m.exs.map ei,false⟩) :: (c+1+1,⟨51,3,m.ms.map eu,false⟩) :: (c+1,⟨53,4,m.tbs.map ez,false⟩) :: (c,⟨57,13,m.ims.map dy,false⟩) :: G) 71 3 (.sl 3 (m.cs.map eB)) (.ms (1267650600228229401496703205376+6044629098073145873530880) 3 0 m.cs.length):=(((t5.cons n0).cons n1).cons n2).cons n3
 have out:vz m (.agg [.ms (1267650600228229401496703205376+0) 2 0 m.ts.length,.ms c 13 0 m.ims.length,.ms (1267650600228229401496703205376+1208925819614629174706176) 3 0 m.fs.length,.ms (c+1) 4 0 m.tbs.length,.ms (c+1+1) 3 0 m.ms.length,.ms (1267650600228229401496703205376+2417851639229258349412352) 3 0 m.gs.length,.ms (c+1+1+1) 3 0 m.exs.length,.bool m.hs,.int .i64 m.st,.ms (1267650600228229401496703205376+3626777458843887524118528) 5 0 m.els.length,.ms (1267650600228229401496703205376+4835703278458516698824704) 4 0 m.ds.length,.ms (1267650600228229401496703205376+6044629098073145873530880) 3 0 m.cs.length]) ((c+1+1+1,⟨64,3,m.exs.map ei,false⟩) :: (c+1+1,⟨51,3,m.ms.map eu,false⟩) :: (c+1,⟨53,4,m.tbs.map ez,false⟩) :: (c,⟨57,13,m.ims.map dy,false⟩) :: G):=⟨_,_,_,_,_,_,_,_,_,_,rfl,g3.grow (by omega),w0,w1,w2,w3,w4,w5,w6,w9,w10,w11⟩
 refine eX (fun _ h=>by cases h) (.agg _) _ (by simp only [go_sem]) (fun j o h=>iB (fun p hp=>cE (by omega) (g3.nm p hp).1) h) ⟨fun i hi=>?_,g3.fam.cl⟩ out
 replace hi:i∈List.flatMap be [.ms (1267650600228229401496703205376+0) 2 0 m.ts.length,.ms c 13 0 m.ims.length,.ms (1267650600228229401496703205376+1208925819614629174706176) 3 0 m.fs.length,.ms (c+1) 4 0 m.tbs.length,.ms (c+1+1) 3 0 m.ms.length,.ms (1267650600228229401496703205376+2417851639229258349412352) 3 0 m.gs.length,.ms (c+1+1+1) 3 0 m.exs.length,.bool m.hs,.int .i64 m.st,.ms (1267650600228229401496703205376+3626777458843887524118528) 5 0 m.els.length,.ms (1267650600228229401496703205376+4835703278458516698824704) 4 0 m.ds.length,.ms (1267650600228229401496703205376+6044629098073145873530880) 3 0 m.cs.length]:=hi
 simp only [pB,List.flatMap_nil,mM,dz] at hi
 rcases hi with hi | hi | hi | hi | hi | hi | hi | hi | hi | hi | hi | hi
 ·exact w0.ids i hi
 ·exact w1.ids i hi
 ·exact w2.ids i hi
 ·exact w3.ids i hi
 ·exact w4.ids i hi
 ·exact w5.ids i hi
 ·exact w6.ids i hi
 ·cases hi
 ·cases hi
 ·exact w9.ids i hi
 ·exact w10.ids i hi
 ·exact w11.ids i hi
end
section
open Go Go.Mw
theorem fH {α β:Type} (f:α→β) (l:List α):List.take l.length (l.map f)=l.map f:=kv (by simp)
abbrev Nn (l:List cN) (i:Nat):St:=⟨[(4,.int .i64 i),(3,.ms 900 9 0 i),(0,.sl 9 (l.map aU))],[(900,⟨79,9,(l.take i).map aU,false⟩)]⟩
attribute [local go_sem] dn
theorem Ec (l:List cN) (h:lD l) {K:IX→St→Prop} (hK:K .ret ⟨[(2,.ms 900 9 0 l.length)],[(900,⟨79,9,l.map aU,false⟩)]⟩)
  (hm:∀s s',Wk s s'→K .ret s'→K .ret s):fN Tryz.prog sc.body ⟨fZ 0 [.sl 9 (l.map aU)],[]⟩ K:=by
 obtain ⟨hl,hx⟩:=h
 simp only [go_sem,sc]
 refine an (Nn l) (fun i=>i≤l.length) (fun i=>l.length - i) 0 (cq _) ((Wk.nil _ 3 900 9 79 (by simp only [go_sem]) (.inl (by decide))).trans (Wk.of ?_ ?_)) ?_
 ·simp only [go_sem,St.mknil];try simp [go_sem]
 ·simp only [go_sem,St.mknil,dN];try simp [go_sem]
 intro i hi
 have hil:(l.take i).length=i:=by simp;omega
 have happ:=fun ys=>br 900 79 9 i aU (l.take i) ys hil
 have a16:=fun ys=>ct 16 49 1 ys
 have a24:=fun ys=>ct 24 3 1 ys
 by_cases h1:(i:Int)<(l.length:Int)
 ·have hi':i<l.length:=by omega
  have e8:=wi (n:=(i:Int)+1) (by omega) (by omega)
  obtain ⟨x1,x2,x3⟩:=aX hx hi'
  simp only [go_sem,az h1,aU,a16,a24]
  refine ⟨by omega,h1,by omega,h1,by omega,by omega,h1,by omega,_,Wk.frzs [16,24] _,?_⟩
  simp only [dG]
  simp only [go_sem,bD,fH,happ]
  refine ⟨by omega,aA (i+1) (show i+1≤l.length by omega) (show l.length - (i+1)<l.length - i by omega) (Wk.of ?_ ?_)⟩
  ·simp only [go_sem,e8];try simp
  ·simp only [go_sem,eA hi',List.map_append];try simp [aU]
 ·obtain rfl:i=l.length:=by omega
  simp only [go_sem,au h1]
  refine hm _ _ (Wk.of ?_ ?_) hK
  ·simp only [go_sem];try simp
  ·simp only [go_sem,eM];try simp
theorem tp (l:List cN) (h:lD l):ak Tryz.prog Qo [.sl 9 (l.map aU)] (.sl 9 (l.map aU)):=by
 refine ah (ic:=sc.body) ap OZ rfl rfl ?_
 refine Ec l h (aL [900] ?_ rfl) fun s s' hw ⟨h1,s1,h2,h3⟩=>⟨h1,s1,hw.trans h2,h3⟩
 simp only [go_sem,sc,bD,fH]
end
end Go.Proofs.YtdefmgmmjfgbpaaGreatDoor